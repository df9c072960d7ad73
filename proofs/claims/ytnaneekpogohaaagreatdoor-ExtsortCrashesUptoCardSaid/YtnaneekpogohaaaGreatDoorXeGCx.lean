/- The functions of the translation over the abstract machine -/
import Derived.Test.YtnaneekpogohaaaGreatDoorXeGx
open Go.Am.AV renaming int->J
open Go.IntKind renaming i64->zA
namespace Go.Am
open Go.Proofs
set_option maxRecDepth 100000
noncomputable abbrev ZD (f n:Nat):=Yn cfg (Zb cfg) (Y5 cfg (cfg.keep f) n) (cfg.keep f) n Zc Z8
noncomputable abbrev VM (f n:Nat):=Y5 cfg (cfg.keep f) n
noncomputable section
abbrev WO (f n:Nat)(F:Func)(p:List Nat):KL->AL->Hp->Z5:=fun k g H=>ZD f n (sub (Z1 F) p) k (Y4 (cfg.keep f) (sub (Z1 F) p) g) H
abbrev Yi (f n:Nat)(F:Func)(p:List Nat):KL->AL->Hp->Z5:=fun k g H=>VM f n (sub (Z1 F) p) k (Y4 (cfg.keep f) (sub (Z1 F) p) g) H
variable (p0 p1 p2 p3 p4 x0 x1 x2 x3 x4 x5 x6 x7 x8 x9 x10 x11 x12 x13 x16 x17 x18 x19 x24 x25 x26 x27 x28 x29 x30:AV)(H0 H:Hp)
noncomputable abbrev aa (f n:Nat)(F:Func)(p:List Nat)(G:Hp):=fun k K=>ZD f n (sub (Z1 F) p) (Zf cfg n f F G) k K
abbrev ab (F:Func):=sub (Z1 F)
abbrev ac:List Nat:=[5,6,9,11,14]
abbrev ae:List Nat:=[4,6,10,13,14]
abbrev ap:List Nat:=[6,9,11,12,14,16]
abbrev aq:List Nat:=[4,6,7,9,14,15]
abbrev ar:List Nat:=[3,4,7,14,16,19]
abbrev au:List Nat:=[4,8,9]
abbrev aw:List Nat:=[3,5,7,10,11,14]
abbrev ax:List Nat:=[3,6,9,11,12,13]
abbrev ay:List Nat:=[3,5,7,8,10,12,15]
abbrev b6:List Nat:=[3,5,6,8,10,11,13]
def IG:Z5:=aa 14 55 Tryz.f14 [1,1,1,1] H0 [(0,x0),(1,x1),(2,x2),(3,x3)] H
def Jg:KL:=Zc (WO 14 55 Tryz.f14 [1,1,1,1]) (Zf cfg 55 14 Tryz.f14 H0)
theorem ZbM:ZS 55 (Jg H0):=Zw (C:=cfg) (kp:=cfg.keep 14) (ab Tryz.f14 [1,1,1,1]) (Zz 14 Tryz.f14 H0)
def II:Z5:=ZD 14 55 (ab Tryz.f14 [1,1,1,0,1,0,0,1,1]) (Zc (Yi 14 55 Tryz.f14 [1,1,1,0,1,0,0]) (Z8 0 (Jg H0))) [(0,x0),(1,x1),(2,x2),(3,x3),(4,x4)] H
def IJ:KL:=Zc (WO 14 55 Tryz.f14 [1,1,1,0,1,0,0,1,1]) (Zc (Yi 14 55 Tryz.f14 [1,1,1,0,1,0,0]) (Z8 0 (Jg H0)))
def Pq:Z5:=ZD 14 55 (ab Tryz.f14 [1,1,1,0,1,0,0,1,0,0,1,1,1]) (Z8 1 (IJ H0)) [(0,x0),(1,x1),(2,x2),(3,x3),(4,x4),(5,x5),(6,x6)] H
def Pp:Z5:=ZD 14 55 (ab Tryz.f14 [1,1,1,0,1,0,0,1,0,0,1,1]) (Z8 1 (IJ H0)) [(0,x0),(1,x1),(2,x2),(3,x3),(4,x4),(5,x5),(6,x6)] H
def IH:Z5:=ZD 14 55 (ab Tryz.f14 [1,1,1,0,1,0,0,1]) (Zc (Yi 14 55 Tryz.f14 [1,1,1,0,1,0,0]) (Z8 0 (Jg H0))) [(0,x0),(1,x1),(2,x2),(3,x3),(4,x4)] H
def Jh:Z5:=VM 14 55 (ab Tryz.f14 [1,1,1,0,1,0,0]) (Z8 0 (Jg H0)) [(0,x0),(1,x1),(2,x2),(3,x3),(4,x4)] H
def Zb5:Z5:=
 Z0 (some ((.ptr H.length 0),H++[.cells [(.str []),.nils,(.str []),(.str []),.nils,.nils]])) fun g=>
 Z0 ((YF [(0,1,(.str [112,111,115,105,120]))] [(.str []),.nils,(.str []),(.str []),.nils,.nils]).map .agg) fun u=>
 Z0 (some ((.ptr g.2.length 0),g.2++[.cells [(.str []),.nils,(.str []),(.str []),.nils,.nils]])) fun h=>
 Z0 (Za 6 h.1 u h.2) fun j=>
 Jh g.1 h.1 .nils .nils (J zA 0) H j.2
theorem Zf4:IG x0 x1 x2 x3 H0 H =
 Z0 (UX x2 H) fun u=>
 Z0 (Z6 2 x1) fun w=>
 Z0 (Za 1 w u H) fun j=>
 Z0 (UX x3 j.2) fun y=>
 Z0 (Z6 3 x1) fun z=>
 Z0 (Za 1 z y j.2) fun g=>
 Z0 (Z3 true 6 x1 g.2) fun A=>
 Z0 (Za 6 x0 A g.2) fun h=>
 Z0 (Z3 true 6 x0 h.2) fun B=>
 some (B,h.2):=Z9 ac
theorem Zf6:II x0 x1 x2 x3 x4 H0 H =
 Z0 (Z4 .add x4 (J zA 1)) fun g=>
 Jh x0 x1 x2 x3 g H0 H:=Z9 ac
theorem Zf8:Pq x0 x1 x2 x3 x4 x5 x6 H0 H =
 Z0 (Z6 1 x1) fun w=>
 Z0 (Z3 false 1 w H) fun y=>
 Z0 ((ZB 1 [(0,x4)] [(J zA 0)]).map (.vs 1 .clip)) fun t37=>
 Z0 (Y9 1 8 y t37 H) fun g=>
 Z0 (Z6 1 x1) fun z=>
 Z0 (Za 1 z g.1 g.2) fun u=>
 Z0 ((ZB 1 [(0,x5)] [(.int .u8 0)]).map (.vs 1 .clip)) fun A=>
 Z0 (Y9 1 1 x2 A u.2) fun h=>
 Z0 ((ZB 1 [(0,x6)] [(.int .u8 0)]).map (.vs 1 .clip)) fun B=>
 Z0 (Y9 1 1 x3 B h.2) fun j=>
 II x0 x1 h.1 j.1 x4 H0 j.2:=Z9 ac
theorem Zf7:Pp x0 x1 x2 x3 x4 x5 x6 H0 H =
 Z0 (Z4 .geq x4 (J zA 97)) fun g=>
 Z0 (Z7 g true am (some x4)) fun h=>
 Z0 (Z7 g true am (Z4 .leq h (J zA 122))) fun j=>
 Z0 (Zi g j (.bool false)) fun u=>
 Zj u
 (Z0 (Z4 .sub x4 (J zA 32)) fun w=>
 Z0 (Yr .u8 w) fun y=>
 Pq x0 x1 x2 x3 x4 x5 y H0 H)
 (Pq x0 x1 x2 x3 x4 x5 x6 H0 H):=Z9 ac
theorem Zf5:IH x0 x1 x2 x3 x4 H0 H =
 Z0 (Yr .u8 x4) fun j=>
 Z0 (Yr .u8 x4) fun h=>
 Z0 (Z4 .geq x4 (J zA 65)) fun g=>
 Z0 (Z7 g true am (some x4)) fun u=>
 Z0 (Z7 g true am (Z4 .leq u (J zA 90))) fun w=>
 Z0 (Zi g w (.bool false)) fun y=>
 Zj y
 (Z0 (Z4 .add x4 (J zA 32)) fun z=>
 Z0 (Yr .u8 z) fun A=>
 Pp x0 x1 x2 x3 x4 A h H0 H)
 (Pp x0 x1 x2 x3 x4 j h H0 H):=Z9 ac
theorem Zf9:Jh x0 x1 x2 x3 x4 H0 H =
 Z0 (Z4 .lss x4 (J zA 256)) fun t9=>
 Zj t9
 (IH x0 x1 x2 x3 x4 H0 H)
 (IG x0 x1 x2 x3 H0 H):=(ZC (C:=cfg) [5,6,9,11,14] (Zn 0 (ZbM H0)) _ _).trans (by kernel_rfl)
theorem Zgd:VL [] H=Zb5 H:=Be 55 [5,6,9,11,14] Tryz.func14
def SU:Z5:=aa 56 39 Tryz.f56 [1,1,1,1,1,1] H0 [(9,x9)] H
def FI:Z5:=aa 56 39 Tryz.f56 [1,1,1,1] H0 [(2,x2),(3,x3),(4,x4),(5,x5)] H
def CP:Z5:=
 Z0 (ZO p0 H) fun z=>
 Z0 (ZO p1 z.2) fun h=>
 Z0 (Z3 true 5 h.1 h.2) fun A=>
 Z0 (Zh VA [A] h.2) fun y=>
 Z0 (Za 5 h.1 y.1 y.2) fun j=>
 Z0 (Z3 true 6 z.1 j.2) fun B=>
 Z0 (Z3 true 5 h.1 j.2) fun C=>
 Z0 (Zh WI [B,C,p2,p3] j.2) fun g=>
 Z0 (Z4 .neq g.1 (J zA 0)) fun u=>
 Z0 (Z7 u false am (Z6 4 h.1)) fun D=>
 Z0 (Z7 u false am (Z3 false 1 D g.2)) fun E=>
 Z0 (Zi u (.bool true) E) fun w=>
 Z0 (Z7 w false am (Z6 3 h.1)) fun F=>
 Z0 (Z7 w false am (Z3 false 1 F g.2)) fun I=>
 Z0 (Zi w (.bool true) I) fun K=>
 Zj K
 (some (g.1,g.2))
 (FI p2 p3 z.1 h.1 H g.2)
theorem Zc6:SU x9 H0 H =
 some (x9,H):=Z9 [5,8]
theorem Zc5:FI x2 x3 x4 x5 H0 H =
 Z0 (Z3 true 6 x4 H) fun h=>
 Z0 (Zh Ur [h,x2,x3] H) fun g=>
 Z0 (Z6 2 x5) fun j=>
 Z0 (Z3 false 1 j g.2) fun u=>
 Z0 (Z4 .and u (J zA 2)) fun w=>
 Z0 (Z4 .neq w (J zA 0)) fun y=>
 Zj y
 (Z0 (Xm .neg g.1) fun t37=>
 some (t37,g.2))
 (SU g.1 H0 g.2):=Z9 [5,8]
theorem ZcE:Qc [p0,p1,p2,p3] H=CP p0 p1 p2 p3 H:=Be 39 [5,8] Tryz.func56
def NR:Z5:=aa 59 55 Tryz.f59 [1,1,1,1] H0 [] H
def Vx:KL:=Zc (WO 59 55 Tryz.f59 [1,1,1,1]) (Zf cfg 55 59 Tryz.f59 H0)
theorem CE:ZS 55 (Vx H0):=Zw (C:=cfg) (kp:=cfg.keep 59) (ab Tryz.f59 [1,1,1,1]) (Zz 59 Tryz.f59 H0)
def NT:Z5:=ZD 59 55 (ab Tryz.f59 [1,1,1,0,1,0,0,1,1,1]) (Zc (Yi 59 55 Tryz.f59 [1,1,1,0,1,0,0]) (Z8 0 (Vx H0))) [(2,x2),(3,x3),(4,x4),(5,x5),(26,x26),(27,x27),(28,x28)] H
def Zeq:KL:=Zc (WO 59 55 Tryz.f59 [1,1,1,0,1,0,0,1,1,1]) (Zc (Yi 59 55 Tryz.f59 [1,1,1,0,1,0,0]) (Z8 0 (Vx H0)))
def QA:Z5:=ZD 59 55 (ab Tryz.f59 [1,1,1,0,1,0,0,1,1,0,0,1,1,1]) (Z8 1 (Zeq H0)) [(2,x2),(3,x3),(4,x4),(5,x5),(10,x10),(11,x11),(26,x26),(27,x27),(28,x28)] H
def NS:Z5:=ZD 59 55 (ab Tryz.f59 [1,1,1,0,1,0,0,1,1]) (Zc (Yi 59 55 Tryz.f59 [1,1,1,0,1,0,0]) (Z8 0 (Vx H0))) [(2,x2),(3,x3),(4,x4),(5,x5),(26,x26),(27,x27),(28,x28),(29,x29)] H
def QB:Z5:=VM 59 55 (ab Tryz.f59 [1,1,1,0,1,0,0]) (Z8 0 (Vx H0)) [(2,x2),(3,x3),(4,x4),(5,x5),(26,x26),(27,x27),(28,x28)] H
def NQ:Z5:=aa 59 55 Tryz.f59 [1,1,1] H0 [(2,x2),(3,x3),(4,x4),(5,x5)] H
def MD:Z5:=
 Z0 (ZO p0 H) fun w=>
 Z0 (ZO p1 w.2) fun h=>
 Z0 (Z3 true 5 h.1 h.2) fun y=>
 Z0 (Zh VA [y] h.2) fun j=>
 Z0 (Za 5 h.1 j.1 j.2) fun g=>
 Z0 (Z6 0 h.1) fun z=>
 Z0 (Z3 false 1 z g.2) fun A=>
 Z0 (Zk (.slice 119) A) fun B=>
 Z0 (Z4 .eql B (J zA 0)) fun C=>
 Zj C
 (Z0 (Z3 true 6 w.1 g.2) fun D=>
 Z0 (Z6 2 h.1) fun E=>
 Z0 (Z3 false 1 E g.2) fun F=>
 Z0 (Zh Qd [D,F,p2,p3] g.2) fun u=>
 some (u.1,u.2))
 (NQ p2 p3 w.1 h.1 H g.2)
theorem Oi:NR H0 H =
 some ((J zA 0),H):=Z9 ae
theorem Ok:NT x2 x3 x4 x5 x26 x27 x28 H0 H =
 Z0 (Z4 .add x28 (J zA 1)) fun g=>
 QB x2 x3 x4 x5 x26 x27 g H0 H:=Z9 ae
theorem Ol:QA x2 x3 x4 x5 x10 x11 x26 x27 x28 H0 H =
 UZ x4 H fun z4 I=>
 UZ x5 I fun z5 K=>
 UZ x10 K fun w g=>
 Z0 (Ji true 6 z4) fun y=>
 Z0 (Z3 true 5 w g) fun z=>
 Z0 (Z6 1 z5) fun A=>
 Z0 (Z3 false 1 A g) fun B=>
 Z0 (QQ [x2,z,B] g) fun j=>
 Z0 (Ji true 5 w) fun C=>
 Z0 (Z6 1 z5) fun D=>
 Z0 (Ji false 1 D) fun E=>
 Z0 (QQ [x3,C,E] j.2) fun u=>
 Z0 (Zh Qd [y,x11,j.1,u.1] u.2) fun h=>
 Z0 (Z4 .neq h.1 (J zA 0)) fun F=>
 Zj F
 (some (h.1,h.2))
 (NT x2 x3 z4 z5 x26 x27 x28 H0 h.2):=Z9 ae
theorem Oj:NS x2 x3 x4 x5 x26 x27 x28 x29 H0 H =
 Z0 (Zo 5 x26 x28) fun u=>
 Z0 (Z3 true 5 u H) fun w=>
 Z0 (some ((.ptr H.length 0),H++[.cells [(J zA 0),(J zA 0),(J zA 0),(J zA 0),(J zA 0)]])) fun h=>
 Z0 (Za 5 h.1 w h.2) fun g=>
 Z0 (Z6 4 h.1) fun y=>
 Z0 (Z3 false 1 y g.2) fun j=>
 Z0 (Z4 .eql j (J zA 0)) fun z=>
 Zj z
 (Z0 (Z6 2 x5) fun A=>
 Z0 (Z3 false 1 A g.2) fun t37=>
 QA x2 x3 x4 x5 h.1 t37 x26 x27 x28 H0 g.2)
 (QA x2 x3 x4 x5 h.1 j x26 x27 x28 H0 g.2):=Z9 ae
theorem Rc:QB x2 x3 x4 x5 x26 x27 x28 H0 H =
 Z0 (Z4 .lss x28 x27) fun g=>
 Zj g
 (NS x2 x3 x4 x5 x26 x27 x28 g H0 H)
 (NR H0 H):=(ZC (C:=cfg) [4,6,10,13,14] (Zn 0 (CE H0)) _ _).trans (by kernel_rfl)
theorem Oh:NQ x2 x3 x4 x5 H0 H =
 Z0 (Z6 0 x5) fun h=>
 Z0 (Z3 false 1 h H) fun g=>
 Z0 (Zk (.slice 119) g) fun j=>
 QB x2 x3 x4 x5 g j (J zA 0) H0 H:=Z9 ae
theorem OA:WI [p0,p1,p2,p3] H=MD p0 p1 p2 p3 H:=Be 55 [4,6,10,13,14] Tryz.func59
def C2:Z5:=aa 86 8 Tryz.f86 [1,1] H0 [(1,x1),(2,x2)] H
def Rt:Z5:=
 Z0 (ZO p0 H) fun j=>
 Z0 (some ((.ptr j.2.length 0),j.2++[.cells [.nils,(J zA 0),(J zA 0),(.bool false),(.bool false)]])) fun h=>
 Z0 (Z3 true 5 j.1 h.2) fun t3=>
 Z0 (Zh Wp [t3] h.2) fun u=>
 Z0 (Z4 .neq u.1 (J zA 0)) fun t5=>
 Zj t5
 (Z0 ((YF [(1,1,(J zA (-1)))] [.nils,(J zA 0),(J zA 0),(.bool false),(.bool false)]).map .agg) fun w=>
 Z0 (Za 5 h.1 w u.2) fun g=>
 Z0 (Z3 true 5 h.1 g.2) fun y=>
 some (y,g.2))
 (C2 j.1 h.1 H u.2)
theorem Zck:C2 x1 x2 H0 H =
 Z0 (Z3 true 5 x1 H) fun h=>
 Z0 (Za 5 x2 h H) fun g=>
 Z0 (Z3 true 5 x2 g.2) fun j=>
 some (j,g.2):=Z9 [3]
theorem Nk:VA [p0] H=Rt p0 H:=Be 8 [3] Tryz.func86
def MR:Z5:=aa 87 60 Tryz.f87 [1,1,1,1,1,1,1] H0 [(1,x1),(2,x2)] H
def MQ:Z5:=aa 87 60 Tryz.f87 [1,1,1,1,1,1] H0 [(1,x1),(2,x2),(8,x8),(9,x9)] H
def MP:Z5:=aa 87 60 Tryz.f87 [1,1,1,1,1] H0 [(1,x1),(2,x2),(8,x8),(9,x9)] H
def VZ:KL:=Zc (WO 87 60 Tryz.f87 [1,1,1,1,1]) (Zf cfg 60 87 Tryz.f87 H0)
theorem AZ:ZS 60 (VZ H0):=Zw (C:=cfg) (kp:=cfg.keep 87) (ab Tryz.f87 [1,1,1,1,1]) (Zz 87 Tryz.f87 H0)
def MT:Z5:=ZD 87 60 (ab Tryz.f87 [1,1,1,1,0,1,0,0,1,1,1]) (Zc (Yi 87 60 Tryz.f87 [1,1,1,1,0,1,0,0]) (Z8 0 (VZ H0))) [(1,x1),(2,x2),(8,x8),(9,x9),(24,x24),(25,x25)] H
def Zfe:KL:=Zc (WO 87 60 Tryz.f87 [1,1,1,1,0,1,0,0,1,1,1]) (Zc (Yi 87 60 Tryz.f87 [1,1,1,1,0,1,0,0]) (Z8 0 (VZ H0)))
def MU:Z5:=ZD 87 60 (ab Tryz.f87 [1,1,1,1,0,1,0,0,1,1,0,0,1,1]) (Z8 1 (Zfe H0)) [(1,x1),(2,x2),(8,x8),(9,x9),(10,x10),(24,x24),(25,x25)] H
def MS:Z5:=ZD 87 60 (ab Tryz.f87 [1,1,1,1,0,1,0,0,1,1]) (Zc (Yi 87 60 Tryz.f87 [1,1,1,1,0,1,0,0]) (Z8 0 (VZ H0))) [(1,x1),(2,x2),(8,x8),(9,x9),(24,x24),(25,x25),(26,x26)] H
def QX:Z5:=VM 87 60 (ab Tryz.f87 [1,1,1,1,0,1,0,0]) (Z8 0 (VZ H0)) [(1,x1),(2,x2),(8,x8),(9,x9),(24,x24),(25,x25)] H
def Er:Z5:=
 Z0 (ZO p0 H) fun u=>
 Z0 (Z3 true 6 u.1 u.2) fun z=>
 Z0 (Zh Um [z] u.2) fun j=>
 Z0 (Za 6 u.1 j.1 j.2) fun y=>
 UZ u.1 y.2 fun z3 D=>
 Z0 (some (.fn (.func 108) [] [z3])) fun w=>
 Z0 (Xz cfg (Zb cfg) w [p1] D) fun g=>
 Z0 (Yf cfg (Zb cfg) w [p2] g.2) fun h=>
 Z0 (Zk (.slice 3) g.1) fun A=>
 Z0 (Zk (.slice 3) h.1) fun B=>
 Z0 (VE A B) fun C=>
 QX p1 p2 g.1 h.1 C (J zA 0) H h.2
theorem Zar:MR x1 x2 H0 H =
 Z0 (Zh D5 [x1,x2] H) fun g=>
 some (g.1,g.2):=Z9 ap
theorem Zaq:MQ x1 x2 x8 x9 H0 H =
 Z0 (Zk (.slice 3) x8) fun g=>
 Z0 (Zk (.slice 3) x9) fun h=>
 Z0 (Z4 .gtr g h) fun j=>
 Zj j
 (some ((J zA 1),H))
 (MR x1 x2 H0 H):=Z9 ap
theorem Zap:MP x1 x2 x8 x9 H0 H =
 Z0 (Zk (.slice 3) x8) fun g=>
 Z0 (Zk (.slice 3) x9) fun h=>
 Z0 (Z4 .lss g h) fun j=>
 Zj j
 (some ((J zA (-1)),H))
 (MQ x1 x2 x8 x9 H0 H):=Z9 ap
theorem Zat:MT x1 x2 x8 x9 x24 x25 H0 H =
 Z0 (Z4 .add x25 (J zA 1)) fun g=>
 QX x1 x2 x8 x9 x24 g H0 H:=Z9 ap
theorem Zau:MU x1 x2 x8 x9 x10 x24 x25 H0 H =
 Z0 (Zo 1 x8 x10) fun g=>
 Z0 (Z3 false 1 g H) fun h=>
 Z0 (Zo 1 x9 x10) fun j=>
 Z0 (Z3 false 1 j H) fun u=>
 Z0 (Z4 .gtr h u) fun w=>
 Zj w
 (some ((J zA 1),H))
 (MT x1 x2 x8 x9 x24 x25 H0 H):=Z9 ap
theorem Zas:MS x1 x2 x8 x9 x24 x25 x26 H0 H =
 Z0 (Zo 1 x8 x25) fun g=>
 Z0 (Z3 false 1 g H) fun h=>
 Z0 (Zo 1 x9 x25) fun j=>
 Z0 (Z3 false 1 j H) fun u=>
 Z0 (Z4 .lss h u) fun w=>
 Zj w
 (some ((J zA (-1)),H))
 (MU x1 x2 x8 x9 x25 x24 x25 H0 H):=Z9 ap
theorem Th:QX x1 x2 x8 x9 x24 x25 H0 H =
 Z0 (Z4 .lss x25 x24) fun g=>
 Zj g
 (MS x1 x2 x8 x9 x24 x25 g H0 H)
 (MP x1 x2 x8 x9 H0 H):=(ZC (C:=cfg) [6,9,11,12,14,16] (Zn 0 (AZ H0)) _ _).trans (by kernel_rfl)
theorem ZbF:Ur [p0,p1,p2] H=Er p0 p1 p2 H:=Be 60 [6,9,11,12,14,16] Tryz.func87
def FO:Z5:=aa 88 50 Tryz.f88 [1,1,1,1] H0 [(4,x4),(5,x5),(6,x6),(7,x7),(9,x9)] H
def Ki:Z5:=aa 88 50 Tryz.f88 [1,1,1] H0 [(4,x4),(5,x5),(6,x6),(7,x7),(9,x9)] H
def CS:Z5:=
 Z0 (ZO p0 H) fun j=>
 Z0 (ZO p1 j.2) fun h=>
 Z0 (ZO p2 h.2) fun u=>
 Z0 (ZO p3 u.2) fun g=>
 Z0 (Z3 false 1 h.1 g.2) fun w=>
 Z0 (Z4 .and w (J zA 2)) fun y=>
 Z0 (Z4 .neq y (J zA 0)) fun z=>
 Zj z
 (Ki j.1 h.1 u.1 g.1 (J zA (-1)) H g.2)
 (Ki j.1 h.1 u.1 g.1 (J zA 1) H g.2)
theorem Zcj:FO x4 x5 x6 x7 x9 H0 H =
 Z0 (some (.fn (.func 114) [] [x5,x6,x7])) fun h=>
 Z0 (Yf cfg (Zb cfg) h [(J zA 8),(.fn (.func 115) [] [])] H) fun u=>
 Z0 (Yf cfg (Zb cfg) h [(J zA 16),(.fn (.func 117) [] [])] u.2) fun w=>
 UZ x4 w.2 fun z4 D=>
 Z0 (some (.fn (.func 118) [] [z4])) fun y=>
 Z0 (Yf cfg (Zb cfg) h [(J zA 4),y] D) fun g=>
 Z0 (Z3 true 6 z4 g.2) fun z=>
 Z0 (Z3 false 1 x6 g.2) fun A=>
 Z0 (Z3 false 1 x7 g.2) fun B=>
 Z0 (Zh Ur [z,A,B] g.2) fun j=>
 Z0 (Z4 .mul x9 j.1) fun C=>
 some (C,j.2):=Z9 [4,8]
theorem Zci:Ki x4 x5 x6 x7 x9 H0 H =
 Z0 (Z3 false 1 x5 H) fun u=>
 Z0 (Z4 .and u (J zA 1)) fun w=>
 Z0 (Z4 .neq w (J zA 0)) fun y=>
 Zj y
 (Z0 (Z3 false 1 x6 H) fun z=>
 Z0 (Zh JE [z] H) fun g=>
 Z0 (ZJ g.1 0) fun A=>
 Z0 (ZJ g.1 1) fun E=>
 Z0 (Z3 false 1 x7 g.2) fun B=>
 Z0 (Zh JE [B] g.2) fun h=>
 Z0 (ZJ h.1 0) fun C=>
 Z0 (ZJ h.1 1) fun F=>
 Z0 (Zh Pm [A,C] h.2) fun j=>
 Z0 (Z4 .mul x9 j.1) fun D=>
 some (D,j.2))
 (FO x4 x5 x6 x7 x9 H0 H):=Z9 [4,8]
theorem ZcH:Qd [p0,p1,p2,p3] H=CS p0 p1 p2 p3 H:=Be 50 [4,8] Tryz.func88
def A8:Z5:=aa 107 16 Tryz.f107 [1,1] H0 [(1,x1),(2,x2)] H
def Pn:Z5:=
 Z0 (ZO p0 H) fun j=>
 Z0 (some ((.ptr j.2.length 0),j.2++[.cells [(.str []),.nils,(.str []),(.str []),.nils,.nils]])) fun h=>
 Z0 (Z3 true 6 j.1 h.2) fun t4=>
 Z0 (Zh GS [t4] h.2) fun u=>
 Z0 (Z4 .neq u.1 (J zA 0)) fun y=>
 Zj y
 (Z0 (Zh Fu [] u.2) fun w=>
 Z0 (Za 6 h.1 w.1 w.2) fun g=>
 Z0 (Z3 true 6 h.1 g.2) fun z=>
 some (z,g.2))
 (A8 j.1 h.1 H u.2)
theorem Zef:A8 x1 x2 H0 H =
 Z0 (JM 1 8 false (J zA 0) (J zA 256) (J zA 256) H) fun j=>
 Z0 (Z6 1 x1) fun w=>
 Z0 (Z3 false 1 w j.2) fun y=>
 Z0 (Hi 1 j.1 y j.2) fun u=>
 Z0 (Z6 1 x1) fun z=>
 Z0 (Za 1 z j.1 u.2) fun h=>
 Z0 (Z3 true 6 x1 h.2) fun A=>
 Z0 (Za 6 x2 A h.2) fun g=>
 Z0 (Z3 true 6 x2 g.2) fun B=>
 some (B,g.2):=Z9 [3]
theorem MC:Um [p0] H=Pn p0 H:=Be 16 [3] Tryz.func107
def Ng:Z5:=
 Z0 (some ((.ptr H.length 0),H++[.cells [.nils]])) fun g=>
 Z0 (Z3 true 6 p1 g.2) fun t5=>
 Z0 (some (.fn (.func 110) [] [g.1])) fun j=>
 Z0 (M1 [t5,p0,j] g.2) fun h=>
 Z0 (Z3 false 1 g.1 h.2) fun t9=>
 some (t9,h.2)
theorem Ir:Qa [p0,p1] H=Ng p0 p1 H:=Be 10 [] Tryz.func108
def O0:Z5:=ZD 109 75 (ab Tryz.f109 [1,1,1,1,0,0,1,0,1,1,1]) (Z8 3 (Zc (Yi 109 75 Tryz.f109 [1,1,1,1,0,0]) (Z8 2 (Zf cfg 75 109 Tryz.f109 H0)))) [(1,x1),(2,x2),(3,x3),(6,x6),(9,x9),(10,x10)] H
def Jp:Z5:=ZD 109 75 (ab Tryz.f109 [1,1,1,1,0,0,1,0,1,1]) (Z8 3 (Zc (Yi 109 75 Tryz.f109 [1,1,1,1,0,0]) (Z8 2 (Zf cfg 75 109 Tryz.f109 H0)))) [(1,x1),(2,x2),(3,x3),(6,x6),(9,x9),(10,x10),(11,x11)] H
def IZ:Z5:=ZD 109 75 (ab Tryz.f109 [1,1,1,1,0,0,1]) (Zc (Yi 109 75 Tryz.f109 [1,1,1,1,0,0]) (Z8 2 (Zf cfg 75 109 Tryz.f109 H0))) [(1,x1),(2,x2),(3,x3),(6,x6),(9,x9)] H
def GY:Z5:=VM 109 75 (ab Tryz.f109 [1,1,1,1,0,0]) (Z8 2 (Zf cfg 75 109 Tryz.f109 H0)) [(1,x1),(2,x2),(3,x3),(6,x6),(9,x9)] H
def PI:Z5:=aa 109 75 Tryz.f109 [1,1,1] H0 [(1,x1),(2,x2),(3,x3),(6,x6)] H
def GX:KL:=Zc (WO 109 75 Tryz.f109 [1,1,1]) (Zf cfg 75 109 Tryz.f109 H0)
theorem ZbT:ZS 75 (GX H0):=Zw (C:=cfg) (kp:=cfg.keep 109) (ab Tryz.f109 [1,1,1]) (Zz 109 Tryz.f109 H0)
def O2:Z5:=ZD 109 75 (ab Tryz.f109 [1,1,0,1,0,0,1,1,1]) (Zc (Yi 109 75 Tryz.f109 [1,1,0,1,0,0]) (Z8 0 (GX H0))) [(1,x1),(2,x2),(3,x3),(6,x6),(16,x16),(17,x17),(18,x18)] H
def O1:Z5:=ZD 109 75 (ab Tryz.f109 [1,1,0,1,0,0,1,1]) (Zc (Yi 109 75 Tryz.f109 [1,1,0,1,0,0]) (Z8 0 (GX H0))) [(1,x1),(2,x2),(3,x3),(6,x6),(16,x16),(17,x17),(18,x18),(19,x19)] H
def GZ:Z5:=VM 109 75 (ab Tryz.f109 [1,1,0,1,0,0]) (Z8 0 (GX H0)) [(1,x1),(2,x2),(3,x3),(6,x6),(16,x16),(17,x17),(18,x18)] H
def Zb6:Z5:=
 Z0 (ZO p0 H) fun j=>
 Z0 (some ((.map j.2.length),j.2++[.map [] 0])) fun g=>
 Z0 (Z6 5 j.1) fun u=>
 Z0 (Z3 false 1 u g.2) fun h=>
 Z0 (Zk (.slice 189) h) fun w=>
 GZ p1 p2 j.1 g.1 h w (J zA 0) H g.2
theorem MZ:O0 x1 x2 x3 x6 x9 x10 H0 H =
 Z0 (Zk .string x10) fun g=>
 Z0 (Z4 .add x9 g) fun h=>
 GY x1 x2 x3 x6 h H0 H:=Z9 aq
theorem MY:Jp x1 x2 x3 x6 x9 x10 x11 H0 H =
 Z0 (Yf cfg (Zb cfg) x2 [x10,x11] H) fun g=>
 Z0 (Xm .not g.1) fun t70=>
 Zj t70
 (some (am,g.2))
 (O0 x1 x2 x3 x6 x9 x10 H0 g.2):=Z9 aq
theorem Zfg:IZ x1 x2 x3 x6 x9 H0 H =
 Z0 (Z4 .add x9 (J zA 1)) fun u=>
 Z0 (ZU x1 (some x9) (some u) none) fun g=>
 Z0 (Z6 1 x3) fun t37=>
 Z0 (Z3 false 1 t37 H) fun w=>
 Z0 (Zy x1 x9) fun y=>
 Z0 (Zo 1 w y) fun z=>
 Z0 (Z3 false 1 z H) fun h=>
 Z0 (Z4 .add x9 (J zA 2)) fun A=>
 Z0 (Zk .string x1) fun B=>
 Z0 (Z4 .leq A B) fun C=>
 Zj C
 (Z0 (Z4 .add x9 (J zA 2)) fun D=>
 Z0 (ZU x1 (some x9) (some D) none) fun E=>
 Z0 (Y8 .string (J zA 0) true x6 E H) fun j=>
 Z0 (ZJ j 0) fun F=>
 Z0 (ZJ j 1) fun I=>
 Zj I
 (Z0 (Z4 .add x9 (J zA 2)) fun K=>
 Z0 (ZU x1 (some x9) (some K) none) fun L=>
 Jp x1 x2 x3 x6 x9 L F H0 H)
 (Jp x1 x2 x3 x6 x9 g h H0 H))
 (Jp x1 x2 x3 x6 x9 g h H0 H):=Z9 aq
theorem Dh:GY x1 x2 x3 x6 x9 H0 H =
 Z0 (Zk .string x1) fun g=>
 Z0 (Z4 .lss x9 g) fun h=>
 Zj h
 (IZ x1 x2 x3 x6 x9 H0 H)
 (some (am,H)):=(ZC (C:=cfg) [4,6,7,9,14,15] (Zn 2 (Zz 109 Tryz.f109 H0)) _ _).trans (by kernel_rfl)
theorem Zff:PI x1 x2 x3 x6 H0 H =
 GY x1 x2 x3 x6 (J zA 0) H0 H:=Z9 aq
theorem Zfi:O2 x1 x2 x3 x6 x16 x17 x18 H0 H =
 Z0 (Z4 .add x18 (J zA 1)) fun g=>
 GZ x1 x2 x3 x6 x16 x17 g H0 H:=Z9 aq
theorem Zfh:O1 x1 x2 x3 x6 x16 x17 x18 x19 H0 H =
 Z0 (Zo 2 x16 x18) fun u=>
 Z0 (Z3 true 2 u H) fun w=>
 Z0 (some ((.ptr H.length 0),H++[.cells [(.str []),(J zA 0)]])) fun j=>
 Z0 (Za 2 j.1 w j.2) fun g=>
 Z0 (Z6 0 j.1) fun y=>
 Z0 (Z3 false 1 y g.2) fun z=>
 Z0 (Z6 1 j.1) fun A=>
 Z0 (Z3 false 1 A g.2) fun B=>
 Z0 (Xv .string x6 z B g.2) fun h=>
 O2 x1 x2 x3 x6 x16 x17 x18 H0 h.2:=Z9 aq
theorem L0:GZ x1 x2 x3 x6 x16 x17 x18 H0 H =
 Z0 (Z4 .lss x18 x17) fun g=>
 Zj g
 (O1 x1 x2 x3 x6 x16 x17 x18 g H0 H)
 (PI x1 x2 x3 x6 H0 H):=(ZC (C:=cfg) [4,6,7,9,14,15] (Zn 0 (ZbT H0)) _ _).trans (by kernel_rfl)
theorem Zgg:M1 [p0,p1,p2] H=Zb6 p0 p1 p2 H:=Be 75 [4,6,7,9,14,15] Tryz.func109
def Rs (p0 p1 p2:AV)(H:Hp):Z5:=
 Z0 (Z3 false 1 p2 H) fun j=>
 Z0 ((ZB 1 [(0,p1)] [(J zA 0)]).map (.vs 1 .clip)) fun u=>
 Z0 (Y9 1 8 j u H) fun h=>
 Z0 (Za 1 p2 h.1 h.2) fun g=>
 some ((.bool true),g.2)
theorem Ci:JG [p0,p1,p2] H=Rs p0 p1 p2 H:=Be 10 [] Tryz.func110
def MJ:Z5:=
 Z0 (Zh Wa [p0,p1] H) fun g=>
 some (g.1,g.2)
theorem OF:D5 [p0,p1] H=MJ p0 p1 H:=Be 8 [] Tryz.func111
def Dc:Z5:=aa 112 116 Tryz.f112 [1,1,1,1,1,1,1,1,1,1,1] H0 [(9,x9),(11,x11)] H
def Db:Z5:=aa 112 116 Tryz.f112 [1,1,1,1,1,1,1,1,1] H0 [(5,x5),(7,x7),(8,x8),(9,x9)] H
def WK:Z5:=aa 112 116 Tryz.f112 [1,1,1,1,1,1,1,1] H0 [(5,x5),(6,x6),(7,x7),(8,x8),(9,x9)] H
def QT:Z5:=aa 112 116 Tryz.f112 [1,1,1,1,1] H0 [(0,x0),(4,x4),(5,x5)] H
def Da:Z5:=aa 112 116 Tryz.f112 [1,1,1] H0 [(0,x0),(4,x4)] H
def Dd:KL:=Zc (WO 112 116 Tryz.f112 [1,1,1]) (Zf cfg 116 112 Tryz.f112 H0)
theorem AP:ZS 116 (Dd H0):=Zw (C:=cfg) (kp:=cfg.keep 112) (ab Tryz.f112 [1,1,1]) (Zz 112 Tryz.f112 H0)
def ML:Z5:=ZD 112 116 (ab Tryz.f112 [1,1,0,0,0,1]) (Zc (Yi 112 116 Tryz.f112 [1,1,0,0,0]) (Z8 0 (Dd H0))) [(0,x0),(4,x4)] H
def QU:Z5:=VM 112 116 (ab Tryz.f112 [1,1,0,0,0]) (Z8 0 (Dd H0)) [(0,x0),(4,x4)] H
def Zge:Z5:=
 QU p0 (J zA 0) H H
theorem RV:Dc x9 x11 H0 H =
 some ((.tuple [x11,x9]),H):=Z9 ar
theorem OZ:Db x5 x7 x8 x9 H0 H =
 Z0 (Zh Ro [x7,x8] H) fun g=>
 Z0 (VE (J zA 10000000000000) g.1) fun h=>
 Zj x5
 (Z0 (Xm .neg h) fun j=>
 Dc x9 j H0 g.2)
 (Dc x9 h H0 g.2):=Z9 ar
theorem OY:WK x5 x6 x7 x8 x9 H0 H =
 Z0 (Z4 .eql x6 (J zA 0)) fun g=>
 Z0 (Z7 g true am (some x8)) fun h=>
 Z0 (Z7 g true am (Yx .eql h (.str []))) fun j=>
 Z0 (Zi g j (.bool false)) fun u=>
 Zj u
 (some ((.tuple [(J zA 0),(J zA 0)]),H))
 (Db x5 x7 x8 x9 H0 H):=Z9 ar
theorem OX:QT x0 x4 x5 H0 H =
 Z0 (ZU x0 (some x4) none none) fun A=>
 Z0 (Zh JF [A] H) fun g=>
 Z0 (Z4 .add x4 g.1) fun B=>
 Z0 (ZU x0 (some x4) (some B) none) fun w=>
 Z0 (Z4 .add x4 g.1) fun h=>
 Z0 (Zk .string x0) fun t70=>
 Z0 (Z4 .lss h t70) fun u=>
 Z0 (Z7 u true am (some x0)) fun C=>
 Z0 (Z7 u true am (some h)) fun D=>
 Z0 (Z7 u true am (Zy C D)) fun E=>
 Z0 (Z7 u true am (Z4 .eql E (.int .u8 46))) fun F=>
 Z0 (Zi u F (.bool false)) fun I=>
 Zj I
 (Z0 (Z4 .add h (J zA 1)) fun K=>
 Z0 (ZU x0 (some K) none none) fun L=>
 Z0 (Zh JF [L] g.2) fun j=>
 Z0 (Z4 .gtr g.1 (J zA 0)) fun y=>
 Z0 (Z7 y false am (some j.1)) fun M=>
 Z0 (Z7 y false am (Z4 .gtr M (J zA 0))) fun N=>
 Z0 (Zi y (.bool true) N) fun O=>
 Zj O
 (Z0 (Z4 .add h (J zA 1)) fun Q=>
 Z0 (Z4 .add h (J zA 1)) fun R=>
 Z0 (Z4 .add R j.1) fun S=>
 Z0 (ZU x0 (some Q) (some S) none) fun T=>
 Z0 (Z4 .add (J zA 1) j.1) fun U=>
 Z0 (Z4 .add h U) fun z=>
 WK x5 g.1 w T z H0 j.2)
 (WK x5 g.1 w (.str []) h H0 j.2))
 (WK x5 g.1 w (.str []) h H0 g.2):=Z9 ar
theorem OW:Da x0 x4 H0 H =
 Z0 (Zk .string x0) fun u=>
 Z0 (Z4 .lss x4 u) fun h=>
 Z0 (Z7 h true am (some x0)) fun w=>
 Z0 (Z7 h true am (some x4)) fun y=>
 Z0 (Z7 h true am (Zy w y)) fun t37=>
 Z0 (Z7 h true am (Z4 .eql t37 (.int .u8 45))) fun z=>
 Z0 (Zi h z (.bool false)) fun g=>
 Z0 (Z7 g false am (some x4)) fun A=>
 Z0 (Z7 g false am (some x0)) fun B=>
 Z0 (Z7 g false am (Zk .string B)) fun C=>
 Z0 (Z7 g false am (Z4 .lss A C)) fun D=>
 Z0 (Z7 g false am (some D)) fun j=>
 Z0 (Z7 j true am (some x0)) fun E=>
 Z0 (Z7 j true am (some x4)) fun F=>
 Z0 (Z7 j true am (Zy E F)) fun I=>
 Z0 (Z7 j true am (Z4 .eql I (.int .u8 43))) fun K=>
 Z0 (Z7 g false am (Zi j K (.bool false))) fun L=>
 Z0 (Zi g (.bool true) L) fun M=>
 Zj M
 (Z0 (Z4 .add x4 (J zA 1)) fun N=>
 QT x0 N g H0 H)
 (QT x0 x4 g H0 H):=Z9 ar
theorem RW:ML x0 x4 H0 H =
 Z0 (Z4 .add x4 (J zA 1)) fun g=>
 QU x0 g H0 H:=Z9 ar
theorem RX:QU x0 x4 H0 H =
 Z0 (Zk .string x0) fun j=>
 Z0 (Z4 .lss x4 j) fun g=>
 Z0 (Z7 g true am (some x0)) fun u=>
 Z0 (Z7 g true am (some x4)) fun w=>
 Z0 (Z7 g true am (Zy u w)) fun y=>
 Z0 (Z7 g true am (Z4 .eql y (.int .u8 32))) fun z=>
 Z0 (Z7 g true am (some z)) fun h=>
 Z0 (Z7 h false am (some x0)) fun A=>
 Z0 (Z7 h false am (some x4)) fun B=>
 Z0 (Z7 h false am (Zy A B)) fun D=>
 Z0 (Z7 h false am (Z4 .eql D (.int .u8 9))) fun E=>
 Z0 (Z7 g true am (Zi h (.bool true) E)) fun F=>
 Z0 (Zi g F (.bool false)) fun I=>
 Zj I
 (ML x0 x4 H0 H)
 (Da x0 x4 H0 H):=(ZC (C:=cfg) [3,4,7,14,16,19] (Zn 0 (AP H0)) _ _).trans (by kernel_rfl)
theorem ZbD:JE [p0] H=Zge p0 H:=Be 116 [3,4,7,14,16,19] Tryz.func112
def Af:Z5:=aa 113 13 Tryz.f113 [1,1] H0 [] H
def Iz:Z5:=
 Z0 (Z4 .lss p0 p1) fun h=>
 Zj h
 (some ((J zA (-1)),H))
 (Z0 (Z4 .gtr p0 p1) fun g=>
 Zj g
 (some ((J zA 1),H))
 (Af H H))
theorem Zet:Af H0 H =
 some ((J zA 0),H):=Z9 [5]
theorem Zf0:Pm [p0,p1] H=Iz p0 p1 H:=Be 13 [5] Tryz.func113
def MF:Z5:=
 Z0 (Z3 false 1 p2 H) fun A=>
 Z0 (Z4 .and A p0) fun t9=>
 Z0 (Z4 .neq t9 (J zA 0)) fun w=>
 Zj w
 (Z0 (Z3 false 1 p3 H) fun y=>
 Z0 (Xz cfg (Zb cfg) p1 [y] H) fun g=>
 Z0 (Z3 false 1 p4 g.2) fun z=>
 Z0 (Xz cfg (Zb cfg) p1 [z] g.2) fun h=>
 Z0 (Za 1 p3 g.1 h.2) fun j=>
 Z0 (Za 1 p4 h.1 j.2) fun u=>
 some (am,u.2))
 (some (am,H))
theorem OC:D2 [p0,p1,p2,p3,p4] H=MF p0 p1 p2 p3 p4 H:=Be 17 [] Tryz.func114
def MH:Z5:=
 Z0 (ZaX ZeO [p0,(.str [32,9])] H) fun g=>
 some (g.1,g.2)
theorem OD:D3 [p0] H=MH p0 H:=Be 5 [] Tryz.func115
def Ae:Z5:=aa 117 44 Tryz.f117 [1,1,1] H0 [(3,x3)] H
def Gj:KL:=Zc (WO 117 44 Tryz.f117 [1,1,1]) (Zf cfg 44 117 Tryz.f117 H0)
theorem ZaR:ZS 44 (Gj H0):=Zw (C:=cfg) (kp:=cfg.keep 117) (ab Tryz.f117 [1,1,1]) (Zz 117 Tryz.f117 H0)
def QC:Z5:=ZD 117 44 (ab Tryz.f117 [1,1,0,1,0,0,1,1,1]) (Zc (Yi 117 44 Tryz.f117 [1,1,0,1,0,0]) (Z8 0 (Gj H0))) [(0,x0),(3,x3),(7,x7),(8,x8)] H
def Tu:Z5:=ZD 117 44 (ab Tryz.f117 [1,1,0,1,0,0,1,1]) (Zc (Yi 117 44 Tryz.f117 [1,1,0,1,0,0]) (Z8 0 (Gj H0))) [(0,x0),(3,x3),(7,x7),(8,x8),(9,x9)] H
def Gk:Z5:=VM 117 44 (ab Tryz.f117 [1,1,0,1,0,0]) (Z8 0 (Gj H0)) [(0,x0),(3,x3),(7,x7),(8,x8)] H
def Iy:Z5:=
 Z0 (some ((.ptr H.length 0),H++[.bld 201 5 []])) fun g=>
 Z0 (Zk .string p0) fun h=>
 Gk p0 g.1 h (J zA 0) H g.2
theorem Zer:Ae x3 H0 H =
 Z0 (stringE.run [x3] H) fun g=>
 some (g.1,g.2):=Z9 au
theorem NW:QC x0 x3 x7 x8 H0 H =
 Z0 (Z4 .add x8 (J zA 1)) fun g=>
 Gk x0 x3 x7 g H0 H:=Z9 au
theorem Zes:Tu x0 x3 x7 x8 x9 H0 H =
 Z0 (Zy x0 x8) fun g=>
 Z0 (Vz [g] H) fun h=>
 Z0 (Z7 h.1 false am (some g)) fun B=>
 Z0 (Z7 h.1 false am (Z4 .geq B (.int .u8 97))) fun C=>
 Z0 (Z7 h.1 false am (some C)) fun w=>
 Z0 (Z7 w true am (some g)) fun D=>
 Z0 (Z7 w true am (Z4 .leq D (.int .u8 122))) fun E=>
 Z0 (Z7 h.1 false am (Zi w E (.bool false))) fun F=>
 Z0 (Zi h.1 (.bool true) F) fun j=>
 Z0 (Z7 j false am (some g)) fun I=>
 Z0 (Z7 j false am (Z4 .geq I (.int .u8 65))) fun K=>
 Z0 (Z7 j false am (some K)) fun y=>
 Z0 (Z7 y true am (some g)) fun L=>
 Z0 (Z7 y true am (Z4 .leq L (.int .u8 90))) fun M=>
 Z0 (Z7 j false am (Zi y M (.bool false))) fun N=>
 Z0 (Zi j (.bool true) N) fun u=>
 Z0 (Z7 u false am (some g)) fun O=>
 Z0 (Z7 u false am (Z4 .geq O (.int .u8 48))) fun Q=>
 Z0 (Z7 u false am (some Q)) fun z=>
 Z0 (Z7 z true am (some g)) fun R=>
 Z0 (Z7 z true am (Z4 .leq R (.int .u8 57))) fun t37=>
 Z0 (Z7 u false am (Zi z t37 (.bool false))) fun S=>
 Z0 (Zi u (.bool true) S) fun T=>
 Zj T
 (Z0 (byteE.run [x3,g] h.2) fun A=>
 QC x0 x3 x7 x8 H0 A.2)
 (QC x0 x3 x7 x8 H0 h.2):=Z9 au
theorem NX:Gk x0 x3 x7 x8 H0 H =
 Z0 (Z4 .lss x8 x7) fun t9=>
 Zj t9
 (Tu x0 x3 x7 x8 t9 H0 H)
 (Ae x3 H0 H):=(ZC (C:=cfg) [4,8,9] (Zn 0 (ZaR H0)) _ _).trans (by kernel_rfl)
theorem ZeZ:Pl [p0] H=Iy p0 H:=Be 44 [4,8,9] Tryz.func117
def MI:Z5:=
 Z0 (Z3 true 6 p1 H) fun t4=>
 Z0 (Zh Pk [t4,p0] H) fun g=>
 some (g.1,g.2)
theorem OE:D4 [p0,p1] H=MI p0 p1 H:=Be 7 [] Tryz.func118
def Is:Z5:=
 Z0 (ZO p0 H) fun g=>
 Z0 (Z3 true 6 g.1 g.2) fun t5=>
 Z0 (Zh Um [t5] g.2) fun h=>
 Z0 (E1 false 1 3 h.1) fun u=>
 Z0 (Zh Rq [u,p1] h.2) fun j=>
 some (j.1,j.2)
theorem ZeW:Pk [p0,p1] H=Is p0 p1 H:=Be 10 [] Tryz.func119
def HY:Z5:=aa 143 49 Tryz.f143 [1,1,1,1,1] H0 [(1,x1)] H
def HX:Z5:=aa 143 49 Tryz.f143 [1,1,1,1] H0 [(1,x1)] H
def Ge:KL:=Zc (WO 143 49 Tryz.f143 [1,1,1,1]) (Zf cfg 49 143 Tryz.f143 H0)
theorem Zao:ZS 49 (Ge H0):=Zw (C:=cfg) (kp:=cfg.keep 143) (ab Tryz.f143 [1,1,1,1]) (Zz 143 Tryz.f143 H0)
def A0:Z5:=ZD 143 49 (ab Tryz.f143 [1,1,1,0,1,0,0,1,1,1]) (Zc (Yi 143 49 Tryz.f143 [1,1,1,0,1,0,0]) (Z8 0 (Ge H0))) [(1,x1),(27,x27),(28,x28),(29,x29)] H
def HZ:Z5:=ZD 143 49 (ab Tryz.f143 [1,1,1,0,1,0,0,1,1]) (Zc (Yi 143 49 Tryz.f143 [1,1,1,0,1,0,0]) (Z8 0 (Ge H0))) [(1,x1),(27,x27),(28,x28),(29,x29),(30,x30)] H
def Gf:Z5:=VM 143 49 (ab Tryz.f143 [1,1,1,0,1,0,0]) (Z8 0 (Ge H0)) [(1,x1),(27,x27),(28,x28),(29,x29)] H
def HW:Z5:=aa 143 49 Tryz.f143 [1,1,1] H0 [(1,x1)] H
def HV:Z5:=aa 143 49 Tryz.f143 [1,1] H0 [(1,x1)] H
def Iq:Z5:=
 Z0 (ZO p0 H) fun g=>
 Z0 (Z6 0 g.1) fun j=>
 Z0 (Z3 false 1 j g.2) fun u=>
 Z0 (Zh Kr [u] g.2) fun h=>
 Z0 (Xm .not h.1) fun t9=>
 Zj t9
 (some ((J zA 4),h.2))
 (HV g.1 H h.2)
theorem Zec:HY x1 H0 H =
 Z0 (Z6 5 x1) fun h=>
 Z0 (Z3 false 1 h H) fun j=>
 Z0 (Zh Vd [j] H) fun g=>
 some (g.1,g.2):=Z9 aw
theorem Zeb:HX x1 H0 H =
 Z0 (Z6 4 x1) fun h=>
 Z0 (Z3 false 1 h H) fun j=>
 Z0 (Zh Vy [j] H) fun g=>
 Z0 (Z4 .neq g.1 (J zA 0)) fun u=>
 Zj u
 (some (g.1,g.2))
 (HY x1 H0 g.2):=Z9 aw
theorem Zee:A0 x1 x27 x28 x29 H0 H =
 Z0 (Z4 .add x29 (J zA 1)) fun g=>
 Gf x1 x27 x28 g H0 H:=Z9 aw
theorem Zed:HZ x1 x27 x28 x29 x30 H0 H =
 Z0 (Zo 1 x27 x29) fun j=>
 Z0 (Z3 false 1 j H) fun h=>
 Z0 (Z4 .lss h (J zA 0)) fun g=>
 Z0 (Z7 g false am (some h)) fun u=>
 Z0 (Z7 g false am (Z4 .gtr u (J zA 65535))) fun t37=>
 Z0 (Zi g (.bool true) t37) fun w=>
 Zj w
 (some ((J zA 2),H))
 (A0 x1 x27 x28 x29 H0 H):=Z9 aw
theorem NM:Gf x1 x27 x28 x29 H0 H =
 Z0 (Z4 .lss x29 x28) fun g=>
 Zj g
 (HZ x1 x27 x28 x29 g H0 H)
 (HX x1 H0 H):=(ZC (C:=cfg) [3,5,7,10,11,14] (Zn 0 (Zao H0)) _ _).trans (by kernel_rfl)
theorem Zea:HW x1 H0 H =
 Z0 (Z6 1 x1) fun h=>
 Z0 (Z3 false 1 h H) fun g=>
 Z0 (Zk (.slice 3) g) fun j=>
 Gf x1 g j (J zA 0) H0 H:=Z9 aw
theorem Ze9:HV x1 H0 H =
 Z0 (Z6 1 x1) fun j=>
 Z0 (Z3 false 1 j H) fun u=>
 Z0 (Zk (.slice 3) u) fun w=>
 Z0 (Z4 .neq w (J zA 256)) fun g=>
 Z0 (Z7 g false am (Z6 2 x1)) fun y=>
 Z0 (Z7 g false am (Z3 false 1 y H)) fun z=>
 Z0 (Z7 g false am (Zk .string z)) fun A=>
 Z0 (Z7 g false am (Z4 .neq A (J zA 256))) fun B=>
 Z0 (Zi g (.bool true) B) fun h=>
 Z0 (Z7 h false am (Z6 3 x1)) fun C=>
 Z0 (Z7 h false am (Z3 false 1 C H)) fun D=>
 Z0 (Z7 h false am (Zk .string D)) fun E=>
 Z0 (Z7 h false am (Z4 .neq E (J zA 256))) fun F=>
 Z0 (Zi h (.bool true) F) fun I=>
 Zj I
 (some ((J zA 2),H))
 (HW x1 H0 H):=Z9 aw
theorem ZeV:GS [p0] H=Iq p0 H:=Be 49 [3,5,7,10,11,14] Tryz.func143
def MV:Z5:=aa 144 18 Tryz.f144 [1,1,1] H0 [(0,x0),(1,x1)] H
def QY:KL:=Zc (WO 144 18 Tryz.f144 [1,1,1]) (Zf cfg 18 144 Tryz.f144 H0)
theorem I0:ZS 18 (QY H0):=Zw (C:=cfg) (kp:=cfg.keep 144) (ab Tryz.f144 [1,1,1]) (Zz 144 Tryz.f144 H0)
def MX:Z5:=ZD 144 18 (ab Tryz.f144 [1,1,0,1,0,0,1,1,1]) (Zc (Yi 144 18 Tryz.f144 [1,1,0,1,0,0]) (Z8 0 (QY H0))) [(0,x0),(1,x1),(5,x5),(6,x6)] H
def MW:Z5:=ZD 144 18 (ab Tryz.f144 [1,1,0,1,0,0,1,1]) (Zc (Yi 144 18 Tryz.f144 [1,1,0,1,0,0]) (Z8 0 (QY H0))) [(0,x0),(1,x1),(5,x5),(6,x6),(7,x7)] H
def QZ:Z5:=VM 144 18 (ab Tryz.f144 [1,1,0,1,0,0]) (Z8 0 (QY H0)) [(0,x0),(1,x1),(5,x5),(6,x6)] H
def Es:Z5:=
 Z0 (some ((.ptr H.length 0),H++[.cells [(.str []),.nils,(.str []),(.str []),.nils,.nils]])) fun h=>
 Z0 (JM 1 8 false (J zA 0) (J zA 256) (J zA 256) h.2) fun g=>
 Z0 (Zk (.slice 3) g.1) fun t5=>
 QZ h.1 g.1 t5 (J zA 0) H g.2
theorem Zav:MV x0 x1 H0 H =
 Z0 (Zh V3 [(.int .u8 65),(.int .u8 90),(J zA 32)] H) fun g=>
 Z0 (Zh V3 [(.int .u8 97),(.int .u8 122),(J zA (-32))] g.2) fun h=>
 Z0 ((YF [(0,1,(.str [112,111,115,105,120])),(1,1,x1),(2,1,g.1),(3,1,h.1)] [(.str []),.nils,(.str []),(.str []),.nils,.nils]).map .agg) fun u=>
 Z0 (Za 6 x0 u h.2) fun j=>
 Z0 (Z3 true 6 x0 j.2) fun w=>
 some (w,j.2):=Z9 [4,6,7]
theorem Zax:MX x0 x1 x5 x6 H0 H =
 Z0 (Z4 .add x6 (J zA 1)) fun g=>
 QZ x0 x1 x5 g H0 H:=Z9 [4,6,7]
theorem Zaw:MW x0 x1 x5 x6 x7 H0 H =
 Z0 (Zo 1 x1 x6) fun h=>
 Z0 (Za 1 h x6 H) fun g=>
 MX x0 x1 x5 x6 H0 g.2:=Z9 [4,6,7]
theorem Zay:QZ x0 x1 x5 x6 H0 H =
 Z0 (Z4 .lss x6 x5) fun g=>
 Zj g
 (MW x0 x1 x5 x6 g H0 H)
 (MV x0 x1 H0 H):=(ZC (C:=cfg) [4,6,7] (Zn 0 (I0 H0)) _ _).trans (by kernel_rfl)
theorem ZbG:Fu [] H=Es H:=Be 18 [4,6,7] Tryz.func144
def Fx:Z5:=
 Z0 (Za9 .cmp [p0,p1] H) fun g=>
 some (g.1,g.2)
theorem GU:Wa [p0,p1] H=Fx p0 p1 H:=Be 8 [] Tryz.func145
def MM:Z5:=aa 146 23 Tryz.f146 [1,1,1] H0 [(3,x3)] H
def De:KL:=Zc (WO 146 23 Tryz.f146 [1,1,1]) (Zf cfg 23 146 Tryz.f146 H0)
theorem AQ:ZS 23 (De H0):=Zw (C:=cfg) (kp:=cfg.keep 146) (ab Tryz.f146 [1,1,1]) (Zz 146 Tryz.f146 H0)
def MN:Z5:=ZD 146 23 (ab Tryz.f146 [1,1,0,0,0,1]) (Zc (Yi 146 23 Tryz.f146 [1,1,0,0,0]) (Z8 0 (De H0))) [(0,x0),(3,x3)] H
def QV:Z5:=VM 146 23 (ab Tryz.f146 [1,1,0,0,0]) (Z8 0 (De H0)) [(0,x0),(3,x3)] H
def Zgf:Z5:=
 QV p0 (J zA 0) H H
theorem JO:MM x3 H0 H =
 some (x3,H):=Z9 [3,4]
theorem Za0:MN x0 x3 H0 H =
 Z0 (Z4 .add x3 (J zA 1)) fun g=>
 QV x0 g H0 H:=Z9 [3,4]
theorem RY:QV x0 x3 H0 H =
 Z0 (Zk .string x0) fun E=>
 Z0 (Z4 .lss x3 E) fun h=>
 Z0 (Z7 h true am (some x0)) fun t9=>
 Z0 (Z7 h true am (some x3)) fun j=>
 Z0 (Z7 h true am (Zy t9 j)) fun u=>
 Z0 (Z7 h true am (Z4 .geq u (.int .u8 48))) fun w=>
 Z0 (Zi h w (.bool false)) fun g=>
 Z0 (Z7 g true am (some x0)) fun y=>
 Z0 (Z7 g true am (some x3)) fun z=>
 Z0 (Z7 g true am (Zy y z)) fun A=>
 Z0 (Z7 g true am (Z4 .leq A (.int .u8 57))) fun B=>
 Z0 (Zi g B (.bool false)) fun D=>
 Zj D
 (MN x0 x3 H0 H)
 (MM x3 H0 H):=(ZC (C:=cfg) [3,4] (Zn 0 (AQ H0)) _ _).trans (by kernel_rfl)
theorem ZbE:JF [p0] H=Zgf p0 H:=Be 23 [3,4] Tryz.func146
def S4:Z5:=aa 147 29 Tryz.f147 [1,1,1] H0 [(1,x1),(5,x5)] H
def JP:KL:=Zc (WO 147 29 Tryz.f147 [1,1,1]) (Zf cfg 29 147 Tryz.f147 H0)
theorem IP:ZS 29 (JP H0):=Zw (C:=cfg) (kp:=cfg.keep 147) (ab Tryz.f147 [1,1,1]) (Zz 147 Tryz.f147 H0)
def Sa:Z5:=ZD 147 29 (ab Tryz.f147 [1,1,0,1,0,0,1,1,1]) (Zc (Yi 147 29 Tryz.f147 [1,1,0,1,0,0]) (Z8 0 (JP H0))) [(0,x0),(1,x1),(5,x5),(8,x8),(9,x9)] H
def S9:Z5:=ZD 147 29 (ab Tryz.f147 [1,1,0,1,0,0,1,1]) (Zc (Yi 147 29 Tryz.f147 [1,1,0,1,0,0]) (Z8 0 (JP H0))) [(0,x0),(1,x1),(5,x5),(8,x8),(9,x9),(10,x10)] H
def JQ:Z5:=VM 147 29 (ab Tryz.f147 [1,1,0,1,0,0]) (Z8 0 (JP H0)) [(0,x0),(1,x1),(5,x5),(8,x8),(9,x9)] H
def CJ:Z5:=
 Z0 (Zk .string p0) fun g=>
 JQ p0 p1 (J zA 0) g (J zA 0) H H
theorem ZbN:S4 x1 x5 H0 H =
 Z0 (Z4 .mul x5 (J zA 10000)) fun h=>
 Z0 (Zh Gs [x1] H) fun g=>
 Z0 (Z4 .add h g.1) fun j=>
 Z0 (VE (J zA 10000000000001) j) fun u=>
 some (u,g.2):=Z9 au
theorem ZbP:Sa x0 x1 x5 x8 x9 H0 H =
 Z0 (Z4 .add x9 (J zA 1)) fun g=>
 JQ x0 x1 x5 x8 g H0 H:=Z9 au
theorem ZbO:S9 x0 x1 x5 x8 x9 x10 H0 H =
 Z0 (Z4 .mul (J zA 10) x5) fun h=>
 Z0 (Zy x0 x9) fun j=>
 Z0 (Z4 .sub j (.int .u8 48)) fun u=>
 Z0 (Yr .i64 u) fun w=>
 Z0 (Z4 .add h w) fun g=>
 Z0 (Z4 .gtr g (J zA 1000000000)) fun y=>
 Zj y
 (some ((J zA 10000000000001),H))
 (Sa x0 x1 g x8 x9 H0 H):=Z9 au
theorem TQ:JQ x0 x1 x5 x8 x9 H0 H =
 Z0 (Z4 .lss x9 x8) fun g=>
 Zj g
 (S9 x0 x1 x5 x8 x9 g H0 H)
 (S4 x1 x5 H0 H):=(ZC (C:=cfg) [4,8,9] (Zn 0 (IP H0)) _ _).trans (by kernel_rfl)
theorem Zcu:Ro [p0,p1] H=CJ p0 p1 H:=Be 29 [4,8,9] Tryz.func147
def Sy:Z5:=aa 155 26 Tryz.f155 [1,1,1] H0 [(5,x5)] H
def K0:KL:=Zc (WO 155 26 Tryz.f155 [1,1,1]) (Zf cfg 26 155 Tryz.f155 H0)
theorem O3:ZS 26 (K0 H0):=Zw (C:=cfg) (kp:=cfg.keep 155) (ab Tryz.f155 [1,1,1]) (Zz 155 Tryz.f155 H0)
def SA:Z5:=ZD 155 26 (ab Tryz.f155 [1,1,0,1,0,0,1,1,1]) (Zc (Yi 155 26 Tryz.f155 [1,1,0,1,0,0]) (Z8 0 (K0 H0))) [(0,x0),(5,x5),(10,x10),(11,x11)] H
def Sz:Z5:=ZD 155 26 (ab Tryz.f155 [1,1,0,1,0,0,1,1]) (Zc (Yi 155 26 Tryz.f155 [1,1,0,1,0,0]) (Z8 0 (K0 H0))) [(0,x0),(5,x5),(10,x10),(11,x11),(12,x12)] H
def K1:Z5:=VM 155 26 (ab Tryz.f155 [1,1,0,1,0,0]) (Z8 0 (K0 H0)) [(0,x0),(5,x5),(10,x10),(11,x11)] H
def CN:Z5:=
 Z0 (OV p1 H) fun g=>
 Z0 (Zk (.slice 5) g.1) fun h=>
 K1 p0 g.1 h (J zA 0) H g.2
theorem ZbU:Sy x5 H0 H =
 Z0 (UX x5 H) fun g=>
 some (g,H):=Z9 [4,6,7]
theorem ZbW:SA x0 x5 x10 x11 H0 H =
 Z0 (Z4 .add x11 (J zA 1)) fun g=>
 K1 x0 x5 x10 g H0 H:=Z9 [4,6,7]
theorem ZbV:Sz x0 x5 x10 x11 x12 H0 H =
 Z0 (Zo 1 x5 x11) fun h=>
 Z0 (Z3 false 1 h H) fun j=>
 Z0 (Zy x0 j) fun u=>
 Z0 (Zo 1 x5 x11) fun w=>
 Z0 (Za 1 w u H) fun g=>
 SA x0 x5 x10 x11 H0 g.2:=Z9 [4,6,7]
theorem TU:K1 x0 x5 x10 x11 H0 H =
 Z0 (Z4 .lss x11 x10) fun g=>
 Zj g
 (Sz x0 x5 x10 x11 g H0 H)
 (Sy x5 H0 H):=(ZC (C:=cfg) [4,6,7] (Zn 0 (O3 H0)) _ _).trans (by kernel_rfl)
theorem Zcy:Rq [p0,p1] H=CN p0 p1 H:=Be 26 [4,6,7] Tryz.func155
def PJ:Z5:=aa 173 54 Tryz.f173 [1,1] H0 [(0,x0)] H
def B1:KL:=Zc (WO 173 54 Tryz.f173 [1,1]) (Zf cfg 54 173 Tryz.f173 H0)
theorem ZbX:ZS 54 (B1 H0):=Zw (C:=cfg) (kp:=cfg.keep 173) (ab Tryz.f173 [1,1]) (Zz 173 Tryz.f173 H0)
def PL:Z5:=ZD 173 54 (ab Tryz.f173 [1,0,1,0,0,1,1,1]) (Zc (Yi 173 54 Tryz.f173 [1,0,1,0,0]) (Z8 0 (B1 H0))) [(0,x0),(7,x7),(8,x8)] H
def PK:Z5:=ZD 173 54 (ab Tryz.f173 [1,0,1,0,0,1,1]) (Zc (Yi 173 54 Tryz.f173 [1,0,1,0,0]) (Z8 0 (B1 H0))) [(0,x0),(7,x7),(8,x8),(9,x9)] H
def B2:Z5:=VM 173 54 (ab Tryz.f173 [1,0,1,0,0]) (Z8 0 (B1 H0)) [(0,x0),(7,x7),(8,x8)] H
def Zb7:Z5:=
 Z0 (Zk .string p0) fun g=>
 B2 p0 g (J zA 0) H H
theorem Zfj:PJ x0 H0 H =
 Z0 (Yx .neq x0 (.str [])) fun g=>
 Z0 (Z7 g true am (some x0)) fun h=>
 Z0 (Z7 g true am (Zk .string h)) fun j=>
 Z0 (Z7 g true am (Z4 .leq j (J zA 32))) fun u=>
 Z0 (Zi g u (.bool false)) fun w=>
 some (w,H):=Z9 [3,8,9]
theorem L1:PL x0 x7 x8 H0 H =
 Z0 (Z4 .add x8 (J zA 1)) fun g=>
 B2 x0 x7 g H0 H:=Z9 [3,8,9]
theorem Zfk:PK x0 x7 x8 x9 H0 H =
 Z0 (Zy x0 x8) fun g=>
 Z0 (Z4 .eql g (.int .u8 95)) fun j=>
 Z0 (Z7 j false am (some g)) fun A=>
 Z0 (Z7 j false am (Z4 .geq A (.int .u8 97))) fun B=>
 Z0 (Z7 j false am (some B)) fun w=>
 Z0 (Z7 w true am (some g)) fun C=>
 Z0 (Z7 w true am (Z4 .leq C (.int .u8 122))) fun D=>
 Z0 (Z7 j false am (Zi w D (.bool false))) fun E=>
 Z0 (Zi j (.bool true) E) fun u=>
 Z0 (Z7 u false am (some g)) fun F=>
 Z0 (Z7 u false am (Z4 .geq F (.int .u8 65))) fun I=>
 Z0 (Z7 u false am (some I)) fun y=>
 Z0 (Z7 y true am (some g)) fun K=>
 Z0 (Z7 y true am (Z4 .leq K (.int .u8 90))) fun L=>
 Z0 (Z7 u false am (Zi y L (.bool false))) fun M=>
 Z0 (Zi u (.bool true) M) fun N=>
 Z0 (Xm .not N) fun h=>
 Z0 (Z7 h true am (some x8)) fun O=>
 Z0 (Z7 h true am (Z4 .eql O (J zA 0))) fun Q=>
 Z0 (Z7 h true am (some Q)) fun t37=>
 Z0 (Z7 t37 false am (some g)) fun R=>
 Z0 (Z7 t37 false am (Z4 .lss R (.int .u8 48))) fun S=>
 Z0 (Z7 h true am (Zi t37 (.bool true) S)) fun T=>
 Z0 (Z7 h true am (some T)) fun z=>
 Z0 (Z7 z false am (some g)) fun U=>
 Z0 (Z7 z false am (Z4 .gtr U (.int .u8 57))) fun V=>
 Z0 (Z7 h true am (Zi z (.bool true) V)) fun W=>
 Z0 (Zi h W (.bool false)) fun X=>
 Zj X
 (some ((.bool false),H))
 (PL x0 x7 x8 H0 H):=Z9 [3,8,9]
theorem J0:B2 x0 x7 x8 H0 H =
 Z0 (Z4 .lss x8 x7) fun t9=>
 Zj t9
 (PK x0 x7 x8 t9 H0 H)
 (PJ x0 H0 H):=(ZC (C:=cfg) [3,8,9] (Zn 0 (ZbX H0)) _ _).trans (by kernel_rfl)
theorem Zgh:Kr [p0] H=Zb7 p0 H:=Be 54 [3,8,9] Tryz.func173
def DQ:Z5:=aa 174 28 Tryz.f174 [1,1,1,1] H0 [] H
def XY:KL:=Zc (WO 174 28 Tryz.f174 [1,1,1,1]) (Zf cfg 28 174 Tryz.f174 H0)
theorem NN:ZS 28 (XY H0):=Zw (C:=cfg) (kp:=cfg.keep 174) (ab Tryz.f174 [1,1,1,1]) (Zz 174 Tryz.f174 H0)
def DS:Z5:=ZD 174 28 (ab Tryz.f174 [1,1,1,0,1,0,0,1,1,1]) (Zc (Yi 174 28 Tryz.f174 [1,1,1,0,1,0,0]) (Z8 0 (XY H0))) [(3,x3),(10,x10),(11,x11),(12,x12)] H
def DV:KL:=Zc (WO 174 28 Tryz.f174 [1,1,1,0,1,0,0,1,1,1]) (Zc (Yi 174 28 Tryz.f174 [1,1,1,0,1,0,0]) (Z8 0 (XY H0)))
def DU:Z5:=ZD 174 28 (ab Tryz.f174 [1,1,1,0,1,0,0,1,1,0,0,1,1,1]) (Z8 1 (DV H0)) [(3,x3),(5,x5),(10,x10),(11,x11),(12,x12)] H
def DT:Z5:=ZD 174 28 (ab Tryz.f174 [1,1,1,0,1,0,0,1,1,0,0,1,1]) (Z8 1 (DV H0)) [(3,x3),(5,x5),(10,x10),(11,x11),(12,x12)] H
def DR:Z5:=ZD 174 28 (ab Tryz.f174 [1,1,1,0,1,0,0,1,1]) (Zc (Yi 174 28 Tryz.f174 [1,1,1,0,1,0,0]) (Z8 0 (XY H0))) [(3,x3),(10,x10),(11,x11),(12,x12),(13,x13)] H
def Vk:Z5:=VM 174 28 (ab Tryz.f174 [1,1,1,0,1,0,0]) (Z8 0 (XY H0)) [(3,x3),(10,x10),(11,x11),(12,x12)] H
def DP:Z5:=aa 174 28 Tryz.f174 [1,1] H0 [(0,x0)] H
def FT:Z5:=
 Z0 (Zk (.slice 246) p0) fun g=>
 Z0 (Z4 .gtr g (J zA 24)) fun h=>
 Zj h
 (some ((J zA 3),H))
 (DP p0 H H)
theorem LG:DQ H0 H =
 some ((J zA 0),H):=Z9 ax
theorem LI:DS x3 x10 x11 x12 H0 H =
 Z0 (Z4 .add x12 (J zA 1)) fun g=>
 Vk x3 x10 x11 g H0 H:=Z9 ax
theorem LK:DU x3 x5 x10 x11 x12 H0 H =
 Z0 (Z6 0 x5) fun h=>
 Z0 (Z3 false 1 h H) fun j=>
 Z0 (Xv .string x3 j (.bool true) H) fun g=>
 DS x3 x10 x11 x12 H0 g.2:=Z9 ax
theorem LJ:DT x3 x5 x10 x11 x12 H0 H =
 Z0 (Z6 0 x5) fun g=>
 Z0 (Z3 false 1 g H) fun h=>
 Z0 (Y8 .string (.bool false) false x3 h H) fun j=>
 Zj j
 (some ((J zA 6),H))
 (DU x3 x5 x10 x11 x12 H0 H):=Z9 ax
theorem LH:DR x3 x10 x11 x12 x13 H0 H =
 Z0 (Zo 5 x10 x12) fun u=>
 Z0 (Z3 true 5 u H) fun w=>
 Z0 (some ((.ptr H.length 0),H++[.cells [(.str []),(.int .u64 0),(.int .u64 0),(.int .u64 0),(.int .u64 0)]])) fun j=>
 Z0 (Za 5 j.1 w j.2) fun h=>
 Z0 (Z6 0 j.1) fun y=>
 Z0 (Z3 false 1 y h.2) fun z=>
 Z0 (Zh Kr [z] h.2) fun g=>
 Z0 (Xm .not g.1) fun A=>
 Zj A
 (some ((J zA 4),g.2))
 (DT x3 j.1 x10 x11 x12 H0 g.2):=Z9 ax
theorem Gg:Vk x3 x10 x11 x12 H0 H =
 Z0 (Z4 .lss x12 x11) fun g=>
 Zj g
 (DR x3 x10 x11 x12 g H0 H)
 (DQ H0 H):=(ZC (C:=cfg) [3,6,9,11,12,13] (Zn 0 (NN H0)) _ _).trans (by kernel_rfl)
theorem LF:DP x0 H0 H =
 Z0 (some ((.map H.length),H++[.map [] 0])) fun h=>
 Z0 (Zk (.slice 246) x0) fun g=>
 Vk h.1 x0 g (J zA 0) H0 h.2:=Z9 ax
theorem Et:Vy [p0] H=FT p0 H:=Be 28 [3,6,9,11,12,13] Tryz.func174
def BE:Z5:=aa 175 38 Tryz.f175 [1,1,1,1] H0 [] H
def XH:KL:=Zc (WO 175 38 Tryz.f175 [1,1,1,1]) (Zf cfg 38 175 Tryz.f175 H0)
theorem PH:ZS 38 (XH H0):=Zw (C:=cfg) (kp:=cfg.keep 175) (ab Tryz.f175 [1,1,1,1]) (Zz 175 Tryz.f175 H0)
def BG:Z5:=ZD 175 38 (ab Tryz.f175 [1,1,1,0,1,0,0,1,1,1]) (Zc (Yi 175 38 Tryz.f175 [1,1,1,0,1,0,0]) (Z8 0 (XH H0))) [(3,x3),(10,x10),(11,x11),(12,x12)] H
def BJ:KL:=Zc (WO 175 38 Tryz.f175 [1,1,1,0,1,0,0,1,1,1]) (Zc (Yi 175 38 Tryz.f175 [1,1,1,0,1,0,0]) (Z8 0 (XH H0)))
def BI:Z5:=ZD 175 38 (ab Tryz.f175 [1,1,1,0,1,0,0,1,1,0,0,1,1,1]) (Z8 1 (BJ H0)) [(3,x3),(5,x5),(10,x10),(11,x11),(12,x12)] H
def BH:Z5:=ZD 175 38 (ab Tryz.f175 [1,1,1,0,1,0,0,1,1,0,0,1,1]) (Z8 1 (BJ H0)) [(3,x3),(5,x5),(10,x10),(11,x11),(12,x12)] H
def BF:Z5:=ZD 175 38 (ab Tryz.f175 [1,1,1,0,1,0,0,1,1]) (Zc (Yi 175 38 Tryz.f175 [1,1,1,0,1,0,0]) (Z8 0 (XH H0))) [(3,x3),(10,x10),(11,x11),(12,x12),(13,x13)] H
def WS:Z5:=VM 175 38 (ab Tryz.f175 [1,1,1,0,1,0,0]) (Z8 0 (XH H0)) [(3,x3),(10,x10),(11,x11),(12,x12)] H
def BD:Z5:=aa 175 38 Tryz.f175 [1,1] H0 [(0,x0)] H
def Dx:Z5:=
 Z0 (Zk (.slice 189) p0) fun g=>
 Z0 (Z4 .gtr g (J zA 64)) fun h=>
 Zj h
 (some ((J zA 3),H))
 (BD p0 H H)
theorem Mk:BE H0 H =
 some ((J zA 0),H):=Z9 ax
theorem Mm:BG x3 x10 x11 x12 H0 H =
 Z0 (Z4 .add x12 (J zA 1)) fun t37=>
 WS x3 x10 x11 t37 H0 H:=Z9 ax
theorem Mo:BI x3 x5 x10 x11 x12 H0 H =
 Z0 (Z6 0 x5) fun h=>
 Z0 (Z3 false 1 h H) fun j=>
 Z0 (Xv .string x3 j (.bool true) H) fun g=>
 BG x3 x10 x11 x12 H0 g.2:=Z9 ax
theorem Mn:BH x3 x5 x10 x11 x12 H0 H =
 Z0 (Z6 0 x5) fun g=>
 Z0 (Z3 false 1 g H) fun h=>
 Z0 (Y8 .string (.bool false) false x3 h H) fun j=>
 Zj j
 (some ((J zA 6),H))
 (BI x3 x5 x10 x11 x12 H0 H):=Z9 ax
theorem Ml:BF x3 x10 x11 x12 x13 H0 H =
 Z0 (Zo 2 x10 x12) fun w=>
 Z0 (Z3 true 2 w H) fun y=>
 Z0 (some ((.ptr H.length 0),H++[.cells [(.str []),(J zA 0)]])) fun u=>
 Z0 (Za 2 u.1 y u.2) fun g=>
 Z0 (Z6 0 u.1) fun z=>
 Z0 (Z3 false 1 z g.2) fun A=>
 Z0 (Zk .string A) fun B=>
 Z0 (Z4 .neq B (J zA 2)) fun h=>
 Z0 (Z7 h false am (Z6 1 u.1)) fun C=>
 Z0 (Z7 h false am (Z3 false 1 C g.2)) fun D=>
 Z0 (Z7 h false am (Z4 .lss D (J zA 0))) fun E=>
 Z0 (Zi h (.bool true) E) fun j=>
 Z0 (Z7 j false am (Z6 1 u.1)) fun F=>
 Z0 (Z7 j false am (Z3 false 1 F g.2)) fun I=>
 Z0 (Z7 j false am (Z4 .gtr I (J zA 65535))) fun K=>
 Z0 (Zi j (.bool true) K) fun L=>
 Zj L
 (some ((J zA 2),g.2))
 (BH x3 u.1 x10 x11 x12 H0 g.2):=Z9 ax
theorem KA:WS x3 x10 x11 x12 H0 H =
 Z0 (Z4 .lss x12 x11) fun g=>
 Zj g
 (BF x3 x10 x11 x12 g H0 H)
 (BE H0 H):=(ZC (C:=cfg) [3,6,9,11,12,13] (Zn 0 (PH H0)) _ _).trans (by kernel_rfl)
theorem Mj:BD x0 H0 H =
 Z0 (some ((.map H.length),H++[.map [] 0])) fun h=>
 Z0 (Zk (.slice 189) x0) fun g=>
 WS h.1 x0 g (J zA 0) H0 h.2:=Z9 ax
theorem Lg:Vd [p0] H=Dx p0 H:=Be 38 [3,6,9,11,12,13] Tryz.func175
def L2:Z5:=aa 176 40 Tryz.f176 [1,1,1] H0 [(7,x7)] H
def J1:KL:=Zc (WO 176 40 Tryz.f176 [1,1,1]) (Zf cfg 40 176 Tryz.f176 H0)
theorem I1:ZS 40 (J1 H0):=Zw (C:=cfg) (kp:=cfg.keep 176) (ab Tryz.f176 [1,1,1]) (Zz 176 Tryz.f176 H0)
def Di:Z5:=ZD 176 40 (ab Tryz.f176 [1,1,0,1,0,0,1,1,1]) (Zc (Yi 176 40 Tryz.f176 [1,1,0,1,0,0]) (Z8 0 (J1 H0))) [(0,x0),(1,x1),(2,x2),(7,x7),(11,x11),(12,x12)] H
def L3:Z5:=ZD 176 40 (ab Tryz.f176 [1,1,0,1,0,0,1,1]) (Zc (Yi 176 40 Tryz.f176 [1,1,0,1,0,0]) (Z8 0 (J1 H0))) [(0,x0),(1,x1),(2,x2),(7,x7),(11,x11),(12,x12),(13,x13)] H
def J2:Z5:=VM 176 40 (ab Tryz.f176 [1,1,0,1,0,0]) (Z8 0 (J1 H0)) [(0,x0),(1,x1),(2,x2),(7,x7),(11,x11),(12,x12)] H
def Eu:Z5:=
 Z0 (JM 1 1 false (.int .u8 0) (J zA 256) (J zA 256) H) fun g=>
 Z0 (Zk (.slice 5) g.1) fun h=>
 J2 p0 p1 p2 g.1 h (J zA 0) H g.2
theorem Zaz:L2 x7 H0 H =
 Z0 (UX x7 H) fun g=>
 some (g,H):=Z9 au
theorem ZaB:Di x0 x1 x2 x7 x11 x12 H0 H =
 Z0 (Z4 .add x12 (J zA 1)) fun t37=>
 J2 x0 x1 x2 x7 x11 t37 H0 H:=Z9 au
theorem ZaA:L3 x0 x1 x2 x7 x11 x12 x13 H0 H =
 Z0 (Yr .u8 x12) fun u=>
 Z0 (Zo 1 x7 x12) fun w=>
 Z0 (Za 1 w u H) fun j=>
 Z0 (Yr .u8 x12) fun y=>
 Z0 (Z4 .geq y x0) fun g=>
 Z0 (Z7 g true am (some x12)) fun z=>
 Z0 (Z7 g true am (Yr .u8 z)) fun A=>
 Z0 (Z7 g true am (some x1)) fun B=>
 Z0 (Z7 g true am (Z4 .leq A B)) fun C=>
 Z0 (Zi g C (.bool false)) fun D=>
 Zj D
 (Z0 (Z4 .add x12 x2) fun E=>
 Z0 (Yr .u8 E) fun F=>
 Z0 (Zo 1 x7 x12) fun I=>
 Z0 (Za 1 I F j.2) fun h=>
 Di x0 x1 x2 x7 x11 x12 H0 h.2)
 (Di x0 x1 x2 x7 x11 x12 H0 j.2):=Z9 au
theorem ZaC:J2 x0 x1 x2 x7 x11 x12 H0 H =
 Z0 (Z4 .lss x12 x11) fun g=>
 Zj g
 (L3 x0 x1 x2 x7 x11 x12 g H0 H)
 (L2 x7 H0 H):=(ZC (C:=cfg) [4,8,9] (Zn 0 (I1 H0)) _ _).trans (by kernel_rfl)
theorem ZbH:V3 [p0,p1,p2] H=Eu p0 p1 p2 H:=Be 40 [4,8,9] Tryz.func176
def TO:Z5:=aa 178 23 Tryz.f178 [1,1,1] H0 [(3,x3)] H
def UK:KL:=Zc (WO 178 23 Tryz.f178 [1,1,1]) (Zf cfg 23 178 Tryz.f178 H0)
theorem EZ:ZS 23 (UK H0):=Zw (C:=cfg) (kp:=cfg.keep 178) (ab Tryz.f178 [1,1,1]) (Zz 178 Tryz.f178 H0)
def KW:Z5:=ZD 178 23 (ab Tryz.f178 [1,1,0,1,0,0,1,1,1]) (Zc (Yi 178 23 Tryz.f178 [1,1,0,1,0,0]) (Z8 0 (UK H0))) [(0,x0),(3,x3),(5,x5)] H
def TP:Z5:=ZD 178 23 (ab Tryz.f178 [1,1,0,1,0,0,1,1]) (Zc (Yi 178 23 Tryz.f178 [1,1,0,1,0,0]) (Z8 0 (UK H0))) [(0,x0),(3,x3),(5,x5),(6,x6)] H
def UL:Z5:=VM 178 23 (ab Tryz.f178 [1,1,0,1,0,0]) (Z8 0 (UK H0)) [(0,x0),(3,x3),(5,x5)] H
def Zct:Z5:=
 UL p0 (J zA 0) (J zA 0) H H
theorem AR:TO x3 H0 H =
 some (x3,H):=Z9 au
theorem DF:KW x0 x3 x5 H0 H =
 Z0 (Z4 .add x5 (J zA 1)) fun g=>
 UL x0 x3 g H0 H:=Z9 au
theorem AS:TP x0 x3 x5 x6 H0 H =
 Z0 (Z4 .mul x3 (J zA 10)) fun t9=>
 Z0 (Zk .string x0) fun g=>
 Z0 (Z4 .lss x5 g) fun h=>
 Zj h
 (Z0 (Zy x0 x5) fun j=>
 Z0 (Z4 .sub j (.int .u8 48)) fun u=>
 Z0 (Yr .i64 u) fun w=>
 Z0 (Z4 .add t9 w) fun y=>
 KW x0 y x5 H0 H)
 (KW x0 t9 x5 H0 H):=Z9 au
theorem DG:UL x0 x3 x5 H0 H =
 Z0 (Z4 .lss x5 (J zA 4)) fun g=>
 Zj g
 (TP x0 x3 x5 g H0 H)
 (TO x3 H0 H):=(ZC (C:=cfg) [4,8,9] (Zn 0 (EZ H0)) _ _).trans (by kernel_rfl)
theorem Ij:Gs [p0] H=Zct p0 H:=Be 23 [4,8,9] Tryz.func178
def ZcV:Z5:=aa 184 8 Tryz.f184 [1,1] H0 [(1,x1),(2,x2)] H
def Av:Z5:=
 Z0 (ZO p0 H) fun j=>
 Z0 (some ((.ptr j.2.length 0),j.2++[.cells [(.str []),.nils,(.str []),(.str []),.nils,.nils]])) fun h=>
 Z0 (Z3 true 6 j.1 h.2) fun t3=>
 Z0 (Zh PX [t3] h.2) fun u=>
 Z0 (Z4 .neq u.1 (J zA 0)) fun t5=>
 Zj t5
 (Z0 (Zh VL [] u.2) fun w=>
 Z0 (Za 6 h.1 w.1 w.2) fun g=>
 Z0 (Z3 true 6 h.1 g.2) fun y=>
 some (y,g.2))
 (ZcV j.1 h.1 H u.2)
theorem ZhA:ZcV x1 x2 H0 H =
 Z0 (Z3 true 6 x1 H) fun h=>
 Z0 (Za 6 x2 h H) fun g=>
 Z0 (Z3 true 6 x2 g.2) fun j=>
 some (j,g.2):=Z9 [3]
theorem Ii:Dt [p0] H=Av p0 H:=Be 8 [3] Tryz.func184
def ZcP:Z5:=aa 202 43 Tryz.f202 [1,1,1,1,1,1] H0 [(1,x1)] H
def ZcO:Z5:=aa 202 43 Tryz.f202 [1,1,1,1,1] H0 [(1,x1)] H
def ZcN:Z5:=aa 202 43 Tryz.f202 [1,1,1,1] H0 [(1,x1)] H
def Rz:KL:=Zc (WO 202 43 Tryz.f202 [1,1,1,1]) (Zf cfg 43 202 Tryz.f202 H0)
theorem Zf3:ZS 43 (Rz H0):=Zw (C:=cfg) (kp:=cfg.keep 202) (ab Tryz.f202 [1,1,1,1]) (Zz 202 Tryz.f202 H0)
def ZcR:Z5:=ZD 202 43 (ab Tryz.f202 [1,1,1,0,1,0,0,1,1]) (Zc (Yi 202 43 Tryz.f202 [1,1,1,0,1,0,0]) (Z8 0 (Rz H0))) [(1,x1),(3,x3)] H
def ZcQ:Z5:=ZD 202 43 (ab Tryz.f202 [1,1,1,0,1,0,0,1]) (Zc (Yi 202 43 Tryz.f202 [1,1,1,0,1,0,0]) (Z8 0 (Rz H0))) [(1,x1),(3,x3)] H
def RA:Z5:=VM 202 43 (ab Tryz.f202 [1,1,1,0,1,0,0]) (Z8 0 (Rz H0)) [(1,x1),(3,x3)] H
def ZcM:Z5:=aa 202 43 Tryz.f202 [1,1,1] H0 [(1,x1)] H
def ZcL:Z5:=aa 202 43 Tryz.f202 [1,1] H0 [(1,x1)] H
def Zft:Z5:=
 Z0 (ZO p0 H) fun g=>
 Z0 (Z6 0 g.1) fun t5=>
 Z0 (Z3 false 1 t5 g.2) fun j=>
 Z0 (Zh Gr [j] g.2) fun h=>
 Z0 (Xm .not h.1) fun u=>
 Zj u
 (some ((J zA 4),h.2))
 (ZcL g.1 H h.2)
theorem Zhx:ZcP x1 H0 H =
 Z0 (Z6 5 x1) fun h=>
 Z0 (Z3 false 1 h H) fun j=>
 Z0 (Zh UE [j] H) fun g=>
 some (g.1,g.2):=Z9 ay
theorem Zhw:ZcO x1 H0 H =
 Z0 (Z6 4 x1) fun h=>
 Z0 (Z3 false 1 h H) fun j=>
 Z0 (Zh Q9 [j] H) fun g=>
 Z0 (Z4 .neq g.1 (J zA 0)) fun u=>
 Zj u
 (some (g.1,g.2))
 (ZcP x1 H0 g.2):=Z9 ay
theorem Zhv:ZcN x1 H0 H =
 Z0 (Z6 2 x1) fun h=>
 Z0 (Z3 false 1 h H) fun j=>
 Z0 (Zk .string j) fun u=>
 Z0 (Z4 .neq u (J zA 256)) fun g=>
 Z0 (Z7 g false am (Z6 3 x1)) fun w=>
 Z0 (Z7 g false am (Z3 false 1 w H)) fun y=>
 Z0 (Z7 g false am (Zk .string y)) fun z=>
 Z0 (Z7 g false am (Z4 .neq z (J zA 256))) fun A=>
 Z0 (Zi g (.bool true) A) fun B=>
 Zj B
 (some ((J zA 2),H))
 (ZcO x1 H0 H):=Z9 ay
theorem Zhz:ZcR x1 x3 H0 H =
 Z0 (Z4 .add x3 (J zA 1)) fun g=>
 RA x1 g H0 H:=Z9 ay
theorem Zhy:ZcQ x1 x3 H0 H =
 Z0 (Z6 1 x1) fun h=>
 Z0 (Z3 false 1 h H) fun j=>
 Z0 (Zo 1 j x3) fun u=>
 Z0 (Z3 false 1 u H) fun w=>
 Z0 (Zh Ds [w] H) fun g=>
 Z0 (Xm .not g.1) fun y=>
 Zj y
 (some ((J zA 2),g.2))
 (ZcR x1 x3 H0 g.2):=Z9 ay
theorem CV:RA x1 x3 H0 H =
 Z0 (Z4 .lss x3 (J zA 256)) fun g=>
 Zj g
 (ZcQ x1 x3 H0 H)
 (ZcN x1 H0 H):=(ZC (C:=cfg) [3,5,7,8,10,12,15] (Zn 0 (Zf3 H0)) _ _).trans (by kernel_rfl)
theorem Zhu:ZcM x1 H0 H =
 RA x1 (J zA 0) H0 H:=Z9 ay
theorem Zht:ZcL x1 H0 H =
 Z0 (Z6 1 x1) fun t9=>
 Z0 (Z3 false 1 t9 H) fun g=>
 Z0 (Zk (.slice 3) g) fun h=>
 Z0 (Z4 .neq h (J zA 256)) fun j=>
 Zj j
 (some ((J zA 2),H))
 (ZcM x1 H0 H):=Z9 ay
theorem Zjc:PX [p0] H=Zft p0 H:=Be 43 [3,5,7,8,10,12,15] Tryz.func202
def Zfu:Z5:=
 Z0 (ZO p0 H) fun g=>
 Z0 (Z3 true 6 g.1 g.2) fun t5=>
 Z0 (Zh Dt [t5] g.2) fun h=>
 Z0 (E1 false 1 3 h.1) fun u=>
 Z0 (Zh Ef [u,p1] h.2) fun j=>
 some (j.1,j.2)
theorem Zjd:Zfq [p0,p1] H=Zfu p0 p1 H:=Be 10 [] Tryz.func207
def Zbc:Z5:=aa 213 59 Tryz.f213 [1,1,1] H0 [] H
def Fc:KL:=Zc (WO 213 59 Tryz.f213 [1,1,1]) (Zf cfg 59 213 Tryz.f213 H0)
theorem ZcT:ZS 59 (Fc H0):=Zw (C:=cfg) (kp:=cfg.keep 213) (ab Tryz.f213 [1,1,1]) (Zz 213 Tryz.f213 H0)
def M4:Z5:=ZD 213 59 (ab Tryz.f213 [1,1,0,1,0,0,1,1]) (Zc (Yi 213 59 Tryz.f213 [1,1,0,1,0,0]) (Z8 0 (Fc H0))) [(0,x0),(3,x3)] H
def M3:Z5:=ZD 213 59 (ab Tryz.f213 [1,1,0,1,0,0,1]) (Zc (Yi 213 59 Tryz.f213 [1,1,0,1,0,0]) (Z8 0 (Fc H0))) [(0,x0),(3,x3)] H
def Fd:Z5:=VM 213 59 (ab Tryz.f213 [1,1,0,1,0,0]) (Z8 0 (Fc H0)) [(0,x0),(3,x3)] H
def Zbb:Z5:=aa 213 59 Tryz.f213 [1,1] H0 [(0,x0)] H
def Zcr:Z5:=
 Z0 (Zk .string p0) fun I=>
 Z0 (Z4 .eql I (J zA 0)) fun j=>
 Z0 (Z7 j false am (some p0)) fun t9=>
 Z0 (Z7 j false am (Zk .string t9)) fun u=>
 Z0 (Z7 j false am (Z4 .gtr u (J zA 32))) fun w=>
 Z0 (Zi j (.bool true) w) fun g=>
 Z0 (Z7 g false am (some p0)) fun y=>
 Z0 (Z7 g false am (Zy y (J zA 0))) fun z=>
 Z0 (Z7 g false am (Z4 .geq z (.int .u8 48))) fun A=>
 Z0 (Z7 g false am (some A)) fun h=>
 Z0 (Z7 h true am (some p0)) fun B=>
 Z0 (Z7 h true am (Zy B (J zA 0))) fun C=>
 Z0 (Z7 h true am (Z4 .leq C (.int .u8 57))) fun D=>
 Z0 (Z7 g false am (Zi h D (.bool false))) fun E=>
 Z0 (Zi g (.bool true) E) fun F=>
 Zj F
 (some ((.bool false),H))
 (Zbb p0 H H)
theorem Zgl:Zbc H0 H =
 some ((.bool true),H):=Z9 [3,5,6,9]
theorem Zgn:M4 x0 x3 H0 H =
 Z0 (Z4 .add x3 (J zA 1)) fun g=>
 Fd x0 g H0 H:=Z9 [3,5,6,9]
theorem Zgm:M3 x0 x3 H0 H =
 Z0 (Zy x0 x3) fun g=>
 Z0 (Z4 .geq g (.int .u8 97)) fun j=>
 Z0 (Z7 j true am (some g)) fun z=>
 Z0 (Z7 j true am (Z4 .leq z (.int .u8 122))) fun A=>
 Z0 (Zi j A (.bool false)) fun t37=>
 Z0 (Z7 t37 false am (some g)) fun B=>
 Z0 (Z7 t37 false am (Z4 .geq B (.int .u8 65))) fun C=>
 Z0 (Z7 t37 false am (some C)) fun u=>
 Z0 (Z7 u true am (some g)) fun D=>
 Z0 (Z7 u true am (Z4 .leq D (.int .u8 90))) fun E=>
 Z0 (Z7 t37 false am (Zi u E (.bool false))) fun F=>
 Z0 (Zi t37 (.bool true) F) fun h=>
 Z0 (Z7 h false am (some g)) fun I=>
 Z0 (Z7 h false am (Z4 .geq I (.int .u8 48))) fun K=>
 Z0 (Z7 h false am (some K)) fun w=>
 Z0 (Z7 w true am (some g)) fun L=>
 Z0 (Z7 w true am (Z4 .leq L (.int .u8 57))) fun M=>
 Z0 (Z7 h false am (Zi w M (.bool false))) fun N=>
 Z0 (Zi h (.bool true) N) fun y=>
 Z0 (Z7 y false am (some g)) fun O=>
 Z0 (Z7 y false am (Z4 .eql O (.int .u8 95))) fun Q=>
 Z0 (Zi y (.bool true) Q) fun R=>
 Z0 (Xm .not R) fun S=>
 Zj S
 (some ((.bool false),H))
 (M4 x0 x3 H0 H):=Z9 [3,5,6,9]
theorem EL:Fd x0 x3 H0 H =
 Z0 (Zk .string x0) fun g=>
 Z0 (Z4 .lss x3 g) fun h=>
 Zj h
 (M3 x0 x3 H0 H)
 (Zbc H0 H):=(ZC (C:=cfg) [3,5,6,9] (Zn 0 (ZcT H0)) _ _).trans (by kernel_rfl)
theorem Zgk:Zbb x0 H0 H =
 Fd x0 (J zA 0) H0 H:=Z9 [3,5,6,9]
theorem Zhg:Gr [p0] H=Zcr p0 H:=Be 59 [3,5,6,9] Tryz.func213
def Zfv:Z5:=
 Z0 (Z4 .geq p0 (J zA 0)) fun t4=>
 Z0 (Z7 t4 true am (some p0)) fun g=>
 Z0 (Z7 t4 true am (Z4 .leq g (J zA 65535))) fun h=>
 Z0 (Zi t4 h (.bool false)) fun j=>
 some (j,H)
theorem Zje:Ds [p0] H=Zfv p0 H:=Be 9 [] Tryz.func214
def TJ:Z5:=aa 215 37 Tryz.f215 [1,1,1] H0 [] H
def WZ:KL:=Zc (WO 215 37 Tryz.f215 [1,1,1]) (Zf cfg 37 215 Tryz.f215 H0)
theorem Gx:ZS 37 (WZ H0):=Zw (C:=cfg) (kp:=cfg.keep 215) (ab Tryz.f215 [1,1,1]) (Zz 215 Tryz.f215 H0)
def KV:Z5:=ZD 215 37 (ab Tryz.f215 [1,1,0,1,0,0,1,1]) (Zc (Yi 215 37 Tryz.f215 [1,1,0,1,0,0]) (Z8 0 (WZ H0))) [(0,x0),(3,x3)] H
def V0:KL:=Zc (WO 215 37 Tryz.f215 [1,1,0,1,0,0,1,1]) (Zc (Yi 215 37 Tryz.f215 [1,1,0,1,0,0]) (Z8 0 (WZ H0)))
theorem EM:ZS 37 (V0 H0):=Zw (C:=cfg) (kp:=cfg.keep 215) (ab Tryz.f215 [1,1,0,1,0,0,1,1]) (Ai (C:=cfg) (kp:=cfg.keep 215) (ab Tryz.f215 [1,1,0,1,0,0]) (Zn 0 (Gx H0)))
def TN:Z5:=ZD 215 37 (ab Tryz.f215 [1,1,0,1,0,0,1,0,0,1,1,0,0,1,1]) (Zc (Yi 215 37 Tryz.f215 [1,1,0,1,0,0,1,0,0,1,1,0,0]) (Z8 2 (Z8 1 (V0 H0)))) [(0,x0),(3,x3),(4,x4)] H
def TM:Z5:=ZD 215 37 (ab Tryz.f215 [1,1,0,1,0,0,1,0,0,1,1,0,0,1]) (Zc (Yi 215 37 Tryz.f215 [1,1,0,1,0,0,1,0,0,1,1,0,0]) (Z8 2 (Z8 1 (V0 H0)))) [(0,x0),(3,x3),(4,x4)] H
def UI:Z5:=VM 215 37 (ab Tryz.f215 [1,1,0,1,0,0,1,0,0,1,1,0,0]) (Z8 2 (Z8 1 (V0 H0))) [(0,x0),(3,x3),(4,x4)] H
def TL:Z5:=ZD 215 37 (ab Tryz.f215 [1,1,0,1,0,0,1,0,0,1]) (Z8 1 (V0 H0)) [(0,x0),(3,x3)] H
def TK:Z5:=ZD 215 37 (ab Tryz.f215 [1,1,0,1,0,0,1]) (Zc (Yi 215 37 Tryz.f215 [1,1,0,1,0,0]) (Z8 0 (WZ H0))) [(0,x0),(3,x3)] H
def UH:Z5:=VM 215 37 (ab Tryz.f215 [1,1,0,1,0,0]) (Z8 0 (WZ H0)) [(0,x0),(3,x3)] H
def TI:Z5:=aa 215 37 Tryz.f215 [1,1] H0 [(0,x0)] H
def Nf:Z5:=
 Z0 (Zk (.slice 246) p0) fun g=>
 Z0 (Z4 .gtr g (J zA 24)) fun h=>
 Zj h
 (some ((J zA 3),H))
 (TI p0 H H)
theorem AD:TJ H0 H =
 some ((J zA 0),H):=Z9 b6
theorem AF:KV x0 x3 H0 H =
 Z0 (Z4 .add x3 (J zA 1)) fun g=>
 UH x0 g H0 H:=Z9 b6
theorem AI:TN x0 x3 x4 H0 H =
 Z0 (Z4 .add x4 (J zA 1)) fun g=>
 UI x0 x3 g H0 H:=Z9 b6
theorem AH:TM x0 x3 x4 H0 H =
 Z0 (Zo 5 x0 x4) fun g=>
 Z0 (Z6 0 g) fun h=>
 Z0 (Z3 false 1 h H) fun j=>
 Z0 (Zo 5 x0 x3) fun u=>
 Z0 (Z6 0 u) fun w=>
 Z0 (Z3 false 1 w H) fun y=>
 Z0 (Yx .eql j y) fun z=>
 Zj z
 (some ((J zA 6),H))
 (TN x0 x3 x4 H0 H):=Z9 b6
theorem DD:UI x0 x3 x4 H0 H =
 Z0 (Z4 .lss x4 x3) fun g=>
 Zj g
 (TM x0 x3 x4 H0 H)
 (KV x0 x3 H0 H):=(ZC (C:=cfg) [3,5,6,8,10,11,13] (Zn 2 (Zn 1 (EM H0))) _ _).trans (by kernel_rfl)
theorem AG:TL x0 x3 H0 H =
 UI x0 x3 (J zA 0) H0 H:=Z9 b6
theorem AE:TK x0 x3 H0 H =
 Z0 (Zo 5 x0 x3) fun h=>
 Z0 (Z6 0 h) fun j=>
 Z0 (Z3 false 1 j H) fun u=>
 Z0 (Zh Gr [u] H) fun g=>
 Z0 (Xm .not g.1) fun w=>
 Zj w
 (some ((J zA 4),g.2))
 (TL x0 x3 H0 g.2):=Z9 b6
theorem DC:UH x0 x3 H0 H =
 Z0 (Zk (.slice 246) x0) fun g=>
 Z0 (Z4 .lss x3 g) fun h=>
 Zj h
 (TK x0 x3 H0 H)
 (TJ H0 H):=(ZC (C:=cfg) [3,5,6,8,10,11,13] (Zn 0 (Gx H0)) _ _).trans (by kernel_rfl)
theorem AC:TI x0 H0 H =
 UH x0 (J zA 0) H0 H:=Z9 b6
theorem Ih:Q9 [p0] H=Nf p0 H:=Be 37 [3,5,6,8,10,11,13] Tryz.func215
def RC:Z5:=aa 216 46 Tryz.f216 [1,1,1] H0 [] H
def Wu:KL:=Zc (WO 216 46 Tryz.f216 [1,1,1]) (Zf cfg 46 216 Tryz.f216 H0)
theorem G4:ZS 46 (Wu H0):=Zw (C:=cfg) (kp:=cfg.keep 216) (ab Tryz.f216 [1,1,1]) (Zz 216 Tryz.f216 H0)
def JI:Z5:=ZD 216 46 (ab Tryz.f216 [1,1,0,1,0,0,1,1]) (Zc (Yi 216 46 Tryz.f216 [1,1,0,1,0,0]) (Z8 0 (Wu H0))) [(0,x0),(3,x3)] H
def Wv:KL:=Zc (WO 216 46 Tryz.f216 [1,1,0,1,0,0,1,1]) (Zc (Yi 216 46 Tryz.f216 [1,1,0,1,0,0]) (Z8 0 (Wu H0)))
theorem Lo:ZS 46 (Wv H0):=Zw (C:=cfg) (kp:=cfg.keep 216) (ab Tryz.f216 [1,1,0,1,0,0,1,1]) (Ai (C:=cfg) (kp:=cfg.keep 216) (ab Tryz.f216 [1,1,0,1,0,0]) (Zn 0 (G4 H0)))
def RG:Z5:=ZD 216 46 (ab Tryz.f216 [1,1,0,1,0,0,1,0,0,1,1,0,0,1,1]) (Zc (Yi 216 46 Tryz.f216 [1,1,0,1,0,0,1,0,0,1,1,0,0]) (Z8 2 (Z8 1 (Wv H0)))) [(0,x0),(3,x3),(4,x4)] H
def RF:Z5:=ZD 216 46 (ab Tryz.f216 [1,1,0,1,0,0,1,0,0,1,1,0,0,1]) (Zc (Yi 216 46 Tryz.f216 [1,1,0,1,0,0,1,0,0,1,1,0,0]) (Z8 2 (Z8 1 (Wv H0)))) [(0,x0),(3,x3),(4,x4)] H
def U4:Z5:=VM 216 46 (ab Tryz.f216 [1,1,0,1,0,0,1,0,0,1,1,0,0]) (Z8 2 (Z8 1 (Wv H0))) [(0,x0),(3,x3),(4,x4)] H
def RE:Z5:=ZD 216 46 (ab Tryz.f216 [1,1,0,1,0,0,1,0,0,1]) (Z8 1 (Wv H0)) [(0,x0),(3,x3)] H
def RD:Z5:=ZD 216 46 (ab Tryz.f216 [1,1,0,1,0,0,1]) (Zc (Yi 216 46 Tryz.f216 [1,1,0,1,0,0]) (Z8 0 (Wu H0))) [(0,x0),(3,x3)] H
def U3:Z5:=VM 216 46 (ab Tryz.f216 [1,1,0,1,0,0]) (Z8 0 (Wu H0)) [(0,x0),(3,x3)] H
def RB:Z5:=aa 216 46 Tryz.f216 [1,1] H0 [(0,x0)] H
def TC:Z5:=
 Z0 (Zk (.slice 189) p0) fun g=>
 Z0 (Z4 .gtr g (J zA 64)) fun h=>
 Zj h
 (some ((J zA 3),H))
 (RB p0 H H)
theorem Cr:RC H0 H =
 some ((J zA 0),H):=Z9 b6
theorem Ct:JI x0 x3 H0 H =
 Z0 (Z4 .add x3 (J zA 1)) fun g=>
 U3 x0 g H0 H:=Z9 b6
theorem Cw:RG x0 x3 x4 H0 H =
 Z0 (Z4 .add x4 (J zA 1)) fun g=>
 U4 x0 x3 g H0 H:=Z9 b6
theorem Cv:RF x0 x3 x4 H0 H =
 Z0 (Zo 2 x0 x4) fun t37=>
 Z0 (Z6 0 t37) fun g=>
 Z0 (Z3 false 1 g H) fun h=>
 Z0 (Zo 2 x0 x3) fun j=>
 Z0 (Z6 0 j) fun u=>
 Z0 (Z3 false 1 u H) fun w=>
 Z0 (Yx .eql h w) fun y=>
 Zj y
 (some ((J zA 6),H))
 (RG x0 x3 x4 H0 H):=Z9 b6
theorem Bn:U4 x0 x3 x4 H0 H =
 Z0 (Z4 .lss x4 x3) fun g=>
 Zj g
 (RF x0 x3 x4 H0 H)
 (JI x0 x3 H0 H):=(ZC (C:=cfg) [3,5,6,8,10,11,13] (Zn 2 (Zn 1 (Lo H0))) _ _).trans (by kernel_rfl)
theorem Cu:RE x0 x3 H0 H =
 U4 x0 x3 (J zA 0) H0 H:=Z9 b6
theorem Cs:RD x0 x3 H0 H =
 Z0 (Zo 2 x0 x3) fun j=>
 Z0 (Z6 0 j) fun u=>
 Z0 (Z3 false 1 u H) fun w=>
 Z0 (Zk .string w) fun y=>
 Z0 (Z4 .neq y (J zA 2)) fun g=>
 Z0 (Z7 g false am (some x0)) fun z=>
 Z0 (Z7 g false am (some x3)) fun A=>
 Z0 (Z7 g false am (Zo 2 z A)) fun B=>
 Z0 (Z7 g false am (Z6 1 B)) fun C=>
 Z0 (Z7 g false am (Z3 false 1 C H)) fun D=>
 Z0 (Z7 g false (am,H) (Zh Ds [D] H)) fun h=>
 Z0 (Z7 g false am (Xm .not h.1)) fun E=>
 Z0 (Zi g (.bool true) E) fun F=>
 Zj F
 (some ((J zA 2),h.2))
 (RE x0 x3 H0 h.2):=Z9 b6
theorem Bm:U3 x0 x3 H0 H =
 Z0 (Zk (.slice 189) x0) fun g=>
 Z0 (Z4 .lss x3 g) fun h=>
 Zj h
 (RD x0 x3 H0 H)
 (RC H0 H):=(ZC (C:=cfg) [3,5,6,8,10,11,13] (Zn 0 (G4 H0)) _ _).trans (by kernel_rfl)
theorem Cq:RB x0 H0 H =
 U3 x0 (J zA 0) H0 H:=Z9 b6
theorem Au:UE [p0] H=TC p0 H:=Be 46 [3,5,6,8,10,11,13] Tryz.func216
def Zbd:Z5:=aa 219 23 Tryz.f219 [1,1,1] H0 [(5,x5)] H
def Fe:KL:=Zc (WO 219 23 Tryz.f219 [1,1,1]) (Zf cfg 23 219 Tryz.f219 H0)
theorem ZcU:ZS 23 (Fe H0):=Zw (C:=cfg) (kp:=cfg.keep 219) (ab Tryz.f219 [1,1,1]) (Zz 219 Tryz.f219 H0)
def Zbf:Z5:=ZD 219 23 (ab Tryz.f219 [1,1,0,1,0,0,1,1]) (Zc (Yi 219 23 Tryz.f219 [1,1,0,1,0,0]) (Z8 0 (Fe H0))) [(0,x0),(1,x1),(5,x5),(6,x6)] H
def Zbe:Z5:=ZD 219 23 (ab Tryz.f219 [1,1,0,1,0,0,1]) (Zc (Yi 219 23 Tryz.f219 [1,1,0,1,0,0]) (Z8 0 (Fe H0))) [(0,x0),(1,x1),(5,x5),(6,x6)] H
def Ff:Z5:=VM 219 23 (ab Tryz.f219 [1,1,0,1,0,0]) (Z8 0 (Fe H0)) [(0,x0),(1,x1),(5,x5),(6,x6)] H
def Zcs:Z5:=
 Ff p0 p1 .nils (J zA 0) H H
theorem Zgo:Zbd x5 H0 H =
 Z0 (UX x5 H) fun g=>
 some (g,H):=Z9 [4,5,6]
theorem Zgq:Zbf x0 x1 x5 x6 H0 H =
 Z0 (Z4 .add x6 (J zA 1)) fun g=>
 Ff x0 x1 x5 g H0 H:=Z9 [4,5,6]
theorem Zgp:Zbe x0 x1 x5 x6 H0 H =
 Z0 (Zy x1 x6) fun h=>
 Z0 (Zy x0 h) fun j=>
 Z0 ((ZB 1 [(0,j)] [(.int .u8 0)]).map (.vs 1 .clip)) fun u=>
 Z0 (Y9 1 1 x5 u H) fun g=>
 Zbf x0 x1 g.1 x6 H0 g.2:=Z9 [4,5,6]
theorem EN:Ff x0 x1 x5 x6 H0 H =
 Z0 (Zk .string x1) fun t9=>
 Z0 (Z4 .lss x6 t9) fun g=>
 Zj g
 (Zbe x0 x1 x5 x6 H0 H)
 (Zbd x5 H0 H):=(ZC (C:=cfg) [4,5,6] (Zn 0 (ZcU H0)) _ _).trans (by kernel_rfl)
theorem Zhh:Ef [p0,p1] H=Zcs p0 p1 H:=Be 23 [4,5,6] Tryz.func219
end
end Go.Am
