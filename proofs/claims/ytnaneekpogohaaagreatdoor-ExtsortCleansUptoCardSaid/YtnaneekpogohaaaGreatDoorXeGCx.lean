/- The functions of the translation over the abstract machine -/
import Derived.Test.YtnaneekpogohaaaGreatDoorXeGx
open Go.Am.AV renaming int->zA
open Go.IntKind renaming i64->J
namespace Go.Am
open Go.Proofs
set_option maxRecDepth 100000
noncomputable abbrev ZD (f n:Nat):=Yl cfg (Za cfg) (Y4 cfg (cfg.keep f) n) (cfg.keep f) n Zc Z6
noncomputable abbrev Vx (f n:Nat):=Y4 cfg (cfg.keep f) n
noncomputable section
abbrev WH (f n:Nat)(F:Func)(p:List Nat):KL->AL->Hp->Z4:=fun k g H=>ZD f n (sub (Z1 F) p) k (Y3 (cfg.keep f) (sub (Z1 F) p) g) H
abbrev Yf (f n:Nat)(F:Func)(p:List Nat):KL->AL->Hp->Z4:=fun k g H=>Vx f n (sub (Z1 F) p) k (Y3 (cfg.keep f) (sub (Z1 F) p) g) H
variable (p0 p1 p2 p3 p4 x0 x1 x2 x3 x4 x5 x6 x7 x8 x9 x10 x11 x12 x13 x16 x17 x18 x19 x24 x25 x26 x27 x28 x29 x30:AV)(H0 H:Hp)
noncomputable abbrev aa (f n:Nat)(F:Func)(p:List Nat)(G:Hp):=fun k K=>ZD f n (sub (Z1 F) p) (Zg cfg n f F G) k K
abbrev ab:List Nat:=[5,6,9,11,14]
abbrev ac:List Nat:=[4,6,10,13,14]
abbrev ae:List Nat:=[6,9,11,12,14,16]
abbrev af:List Nat:=[4,6,7,9,14,15]
abbrev am:List Nat:=[3,4,7,14,16,19]
abbrev ap:List Nat:=[4,8,9]
abbrev aq:List Nat:=[3,5,7,10,11,14]
abbrev ar:List Nat:=[3,6,9,11,12,13]
abbrev au:List Nat:=[3,5,7,8,10,12,15]
abbrev aw:List Nat:=[3,5,6,8,10,11,13]
def Ax:Z4:=aa 14 55 Tryz.f14 [1,1,1,1] H0 [(0,x0),(1,x1),(2,x2),(3,x3)] H
def QX:KL:=Zc (WH 14 55 Tryz.f14 [1,1,1,1]) (Zg cfg 55 14 Tryz.f14 H0)
theorem ZaH:ZR 55 (QX H0):=Zw (C:=cfg) (kp:=cfg.keep 14) (sub (Z1 Tryz.f14) [1,1,1,1]) (ZB 14 Tryz.f14 H0)
def Az:Z4:=ZD 14 55 (sub (Z1 Tryz.f14) [1,1,1,0,1,0,0,1,1]) (Zc (Yf 14 55 Tryz.f14 [1,1,1,0,1,0,0]) (Z6 0 (QX H0))) [(0,x0),(1,x1),(2,x2),(3,x3),(4,x4)] H
def AA:KL:=Zc (WH 14 55 Tryz.f14 [1,1,1,0,1,0,0,1,1]) (Zc (Yf 14 55 Tryz.f14 [1,1,1,0,1,0,0]) (Z6 0 (QX H0)))
def TZ:Z4:=ZD 14 55 (sub (Z1 Tryz.f14) [1,1,1,0,1,0,0,1,0,0,1,1,1]) (Z6 1 (AA H0)) [(0,x0),(1,x1),(2,x2),(3,x3),(4,x4),(5,x5),(6,x6)] H
def TY:Z4:=ZD 14 55 (sub (Z1 Tryz.f14) [1,1,1,0,1,0,0,1,0,0,1,1]) (Z6 1 (AA H0)) [(0,x0),(1,x1),(2,x2),(3,x3),(4,x4),(5,x5),(6,x6)] H
def Ay:Z4:=ZD 14 55 (sub (Z1 Tryz.f14) [1,1,1,0,1,0,0,1]) (Zc (Yf 14 55 Tryz.f14 [1,1,1,0,1,0,0]) (Z6 0 (QX H0))) [(0,x0),(1,x1),(2,x2),(3,x3),(4,x4)] H
def QY:Z4:=Vx 14 55 (sub (Z1 Tryz.f14) [1,1,1,0,1,0,0]) (Z6 0 (QX H0)) [(0,x0),(1,x1),(2,x2),(3,x3),(4,x4)] H
def Za0:Z4:=
 Z0 (some ((.ptr H.length 0),H++[.cells [(.str []),.nils,(.str []),(.str []),.nils,.nils]])) fun g=>
 Z0 ((YD [(0,1,(.str [112,111,115,105,120]))] [(.str []),.nils,(.str []),(.str []),.nils,.nils]).map .agg) fun u=>
 Z0 (some ((.ptr g.2.length 0),g.2++[.cells [(.str []),.nils,(.str []),(.str []),.nils,.nils]])) fun h=>
 Z0 (Zb 6 h.1 u h.2) fun j=>
 QY g.1 h.1 .nils .nils (zA J 0) H j.2
theorem ZdZ:Ax x0 x1 x2 x3 H0 H =
 Z0 (UG x2 H) fun u=>
 Z0 (Z7 2 x1) fun w=>
 Z0 (Zb 1 w u H) fun j=>
 Z0 (UG x3 j.2) fun y=>
 Z0 (Z7 3 x1) fun z=>
 Z0 (Zb 1 z y j.2) fun g=>
 Z0 (Z3 true 6 x1 g.2) fun A=>
 Z0 (Zb 6 x0 A g.2) fun h=>
 Z0 (Z3 true 6 x0 h.2) fun B=>
 some (B,h.2):=Z9 ab
theorem Ze1:Az x0 x1 x2 x3 x4 H0 H =
 Z0 (Z5 .add x4 (zA J 1)) fun g=>
 QY x0 x1 x2 x3 g H0 H:=Z9 ab
theorem Ze3:TZ x0 x1 x2 x3 x4 x5 x6 H0 H =
 Z0 (Z7 1 x1) fun w=>
 Z0 (Z3 false 1 w H) fun y=>
 Z0 ((ZA 1 [(0,x4)] [(zA J 0)]).map (.vs 1 .clip)) fun t37=>
 Z0 (Y7 1 8 y t37 H) fun g=>
 Z0 (Z7 1 x1) fun z=>
 Z0 (Zb 1 z g.1 g.2) fun u=>
 Z0 ((ZA 1 [(0,x5)] [(.int .u8 0)]).map (.vs 1 .clip)) fun A=>
 Z0 (Y7 1 1 x2 A u.2) fun h=>
 Z0 ((ZA 1 [(0,x6)] [(.int .u8 0)]).map (.vs 1 .clip)) fun B=>
 Z0 (Y7 1 1 x3 B h.2) fun j=>
 Az x0 x1 h.1 j.1 x4 H0 j.2:=Z9 ab
theorem Ze2:TY x0 x1 x2 x3 x4 x5 x6 H0 H =
 Z0 (Z5 .geq x4 (zA J 97)) fun g=>
 Z0 (Z8 g true ak (some x4)) fun h=>
 Z0 (Z8 g true ak (Z5 .leq h (zA J 122))) fun j=>
 Z0 (Zi g j (.bool false)) fun u=>
 Zj u
 (Z0 (Z5 .sub x4 (zA J 32)) fun w=>
 Z0 (Yv .u8 w) fun y=>
 TZ x0 x1 x2 x3 x4 x5 y H0 H)
 (TZ x0 x1 x2 x3 x4 x5 x6 H0 H):=Z9 ab
theorem Ze0:Ay x0 x1 x2 x3 x4 H0 H =
 Z0 (Yv .u8 x4) fun j=>
 Z0 (Yv .u8 x4) fun h=>
 Z0 (Z5 .geq x4 (zA J 65)) fun g=>
 Z0 (Z8 g true ak (some x4)) fun u=>
 Z0 (Z8 g true ak (Z5 .leq u (zA J 90))) fun w=>
 Z0 (Zi g w (.bool false)) fun y=>
 Zj y
 (Z0 (Z5 .add x4 (zA J 32)) fun z=>
 Z0 (Yv .u8 z) fun A=>
 TY x0 x1 x2 x3 x4 A h H0 H)
 (TY x0 x1 x2 x3 x4 j h H0 H):=Z9 ab
theorem Ze4:QY x0 x1 x2 x3 x4 H0 H =
 Z0 (Z5 .lss x4 (zA J 256)) fun t9=>
 Zj t9
 (Ay x0 x1 x2 x3 x4 H0 H)
 (Ax x0 x1 x2 x3 H0 H):=(ZC (C:=cfg) [5,6,9,11,14] (Zn 0 (ZaH H0)) _ _).trans (by kernel_rfl)
theorem Zf6:UN [] H=Za0 H:=Be 55 [5,6,9,11,14] Tryz.func14
def EK:Z4:=aa 56 39 Tryz.f56 [1,1,1,1,1,1] H0 [(9,x9)] H
def Fm:Z4:=aa 56 39 Tryz.f56 [1,1,1,1] H0 [(2,x2),(3,x3),(4,x4),(5,x5)] H
def SL:Z4:=
 Z0 (ZN p0 H) fun z=>
 Z0 (ZN p1 z.2) fun h=>
 Z0 (Z3 true 5 h.1 h.2) fun A=>
 Z0 (Zf Vo [A] h.2) fun y=>
 Z0 (Zb 5 h.1 y.1 y.2) fun j=>
 Z0 (Z3 true 6 z.1 j.2) fun B=>
 Z0 (Z3 true 5 h.1 j.2) fun C=>
 Z0 (Zf WB [B,C,p2,p3] j.2) fun g=>
 Z0 (Z5 .neq g.1 (zA J 0)) fun u=>
 Z0 (Z8 u false ak (Z7 4 h.1)) fun D=>
 Z0 (Z8 u false ak (Z3 false 1 D g.2)) fun E=>
 Z0 (Zi u (.bool true) E) fun w=>
 Z0 (Z8 w false ak (Z7 3 h.1)) fun F=>
 Z0 (Z8 w false ak (Z3 false 1 F g.2)) fun K=>
 Z0 (Zi w (.bool true) K) fun L=>
 Zj L
 (some (g.1,g.2))
 (Fm p2 p3 z.1 h.1 H g.2)
theorem Zb1:EK x9 H0 H =
 some (x9,H):=Z9 [5,8]
theorem Zb0:Fm x2 x3 x4 x5 H0 H =
 Z0 (Z3 true 6 x4 H) fun h=>
 Z0 (Zf Ua [h,x2,x3] H) fun g=>
 Z0 (Z7 2 x5) fun j=>
 Z0 (Z3 false 1 j g.2) fun u=>
 Z0 (Z5 .and u (zA J 2)) fun w=>
 Z0 (Z5 .neq w (zA J 0)) fun y=>
 Zj y
 (Z0 (Xv .neg g.1) fun t37=>
 some (t37,g.2))
 (EK g.1 H0 g.2):=Z9 [5,8]
theorem Zbz:UW [p0,p1,p2,p3] H=SL p0 p1 p2 p3 H:=Be 39 [5,8] Tryz.func56
def Nq:Z4:=aa 59 55 Tryz.f59 [1,1,1,1] H0 [] H
def Vl:KL:=Zc (WH 59 55 Tryz.f59 [1,1,1,1]) (Zg cfg 55 59 Tryz.f59 H0)
theorem SB:ZR 55 (Vl H0):=Zw (C:=cfg) (kp:=cfg.keep 59) (sub (Z1 Tryz.f59) [1,1,1,1]) (ZB 59 Tryz.f59 H0)
def Ns:Z4:=ZD 59 55 (sub (Z1 Tryz.f59) [1,1,1,0,1,0,0,1,1,1]) (Zc (Yf 59 55 Tryz.f59 [1,1,1,0,1,0,0]) (Z6 0 (Vl H0))) [(2,x2),(3,x3),(4,x4),(5,x5),(26,x26),(27,x27),(28,x28)] H
def Zdl:KL:=Zc (WH 59 55 Tryz.f59 [1,1,1,0,1,0,0,1,1,1]) (Zc (Yf 59 55 Tryz.f59 [1,1,1,0,1,0,0]) (Z6 0 (Vl H0)))
def Qj:Z4:=ZD 59 55 (sub (Z1 Tryz.f59) [1,1,1,0,1,0,0,1,1,0,0,1,1,1]) (Z6 1 (Zdl H0)) [(2,x2),(3,x3),(4,x4),(5,x5),(10,x10),(11,x11),(26,x26),(27,x27),(28,x28)] H
def Nr:Z4:=ZD 59 55 (sub (Z1 Tryz.f59) [1,1,1,0,1,0,0,1,1]) (Zc (Yf 59 55 Tryz.f59 [1,1,1,0,1,0,0]) (Z6 0 (Vl H0))) [(2,x2),(3,x3),(4,x4),(5,x5),(26,x26),(27,x27),(28,x28),(29,x29)] H
def Qk:Z4:=Vx 59 55 (sub (Z1 Tryz.f59) [1,1,1,0,1,0,0]) (Z6 0 (Vl H0)) [(2,x2),(3,x3),(4,x4),(5,x5),(26,x26),(27,x27),(28,x28)] H
def Np:Z4:=aa 59 55 Tryz.f59 [1,1,1] H0 [(2,x2),(3,x3),(4,x4),(5,x5)] H
def Ma:Z4:=
 Z0 (ZN p0 H) fun w=>
 Z0 (ZN p1 w.2) fun h=>
 Z0 (Z3 true 5 h.1 h.2) fun y=>
 Z0 (Zf Vo [y] h.2) fun j=>
 Z0 (Zb 5 h.1 j.1 j.2) fun g=>
 Z0 (Z7 0 h.1) fun z=>
 Z0 (Z3 false 1 z g.2) fun A=>
 Z0 (Zk (.slice 119) A) fun B=>
 Z0 (Z5 .eql B (zA J 0)) fun C=>
 Zj C
 (Z0 (Z3 true 6 w.1 g.2) fun D=>
 Z0 (Z7 2 h.1) fun E=>
 Z0 (Z3 false 1 E g.2) fun F=>
 Z0 (Zf UX [D,F,p2,p3] g.2) fun u=>
 some (u.1,u.2))
 (Np p2 p3 w.1 h.1 H g.2)
theorem I7:Nq H0 H =
 some ((zA J 0),H):=Z9 ac
theorem I9:Ns x2 x3 x4 x5 x26 x27 x28 H0 H =
 Z0 (Z5 .add x28 (zA J 1)) fun g=>
 Qk x2 x3 x4 x5 x26 x27 g H0 H:=Z9 ac
theorem Ia:Qj x2 x3 x4 x5 x10 x11 x26 x27 x28 H0 H =
 UI x4 H fun z4 K=>
 UI x5 K fun z5 L=>
 UI x10 L fun w g=>
 Z0 (QZ true 6 z4) fun y=>
 Z0 (Z3 true 5 w g) fun z=>
 Z0 (Z7 1 z5) fun A=>
 Z0 (Z3 false 1 A g) fun B=>
 Z0 (Qy [x2,z,B] g) fun j=>
 Z0 (QZ true 5 w) fun C=>
 Z0 (Z7 1 z5) fun D=>
 Z0 (QZ false 1 D) fun E=>
 Z0 (Qy [x3,C,E] j.2) fun u=>
 Z0 (Zf UX [y,x11,j.1,u.1] u.2) fun h=>
 Z0 (Z5 .neq h.1 (zA J 0)) fun F=>
 Zj F
 (some (h.1,h.2))
 (Ns x2 x3 z4 z5 x26 x27 x28 H0 h.2):=Z9 ac
theorem I8:Nr x2 x3 x4 x5 x26 x27 x28 x29 H0 H =
 Z0 (Zo 5 x26 x28) fun u=>
 Z0 (Z3 true 5 u H) fun w=>
 Z0 (some ((.ptr H.length 0),H++[.cells [(zA J 0),(zA J 0),(zA J 0),(zA J 0),(zA J 0)]])) fun h=>
 Z0 (Zb 5 h.1 w h.2) fun g=>
 Z0 (Z7 4 h.1) fun y=>
 Z0 (Z3 false 1 y g.2) fun j=>
 Z0 (Z5 .eql j (zA J 0)) fun z=>
 Zj z
 (Z0 (Z7 2 x5) fun A=>
 Z0 (Z3 false 1 A g.2) fun t37=>
 Qj x2 x3 x4 x5 h.1 t37 x26 x27 x28 H0 g.2)
 (Qj x2 x3 x4 x5 h.1 j x26 x27 x28 H0 g.2):=Z9 ac
theorem FM:Qk x2 x3 x4 x5 x26 x27 x28 H0 H =
 Z0 (Z5 .lss x28 x27) fun g=>
 Zj g
 (Nr x2 x3 x4 x5 x26 x27 x28 g H0 H)
 (Nq H0 H):=(ZC (C:=cfg) [4,6,10,13,14] (Zn 0 (SB H0)) _ _).trans (by kernel_rfl)
theorem I6:Np x2 x3 x4 x5 H0 H =
 Z0 (Z7 0 x5) fun h=>
 Z0 (Z3 false 1 h H) fun g=>
 Z0 (Zk (.slice 119) g) fun j=>
 Qk x2 x3 x4 x5 g j (zA J 0) H0 H:=Z9 ac
theorem Im:WB [p0,p1,p2,p3] H=Ma p0 p1 p2 p3 H:=Be 55 [4,6,10,13,14] Tryz.func59
def ES:Z4:=aa 86 8 Tryz.f86 [1,1] H0 [(1,x1),(2,x2)] H
def R0:Z4:=
 Z0 (ZN p0 H) fun j=>
 Z0 (some ((.ptr j.2.length 0),j.2++[.cells [.nils,(zA J 0),(zA J 0),(.bool false),(.bool false)]])) fun h=>
 Z0 (Z3 true 5 j.1 h.2) fun t3=>
 Z0 (Zf Wl [t3] h.2) fun u=>
 Z0 (Z5 .neq u.1 (zA J 0)) fun t5=>
 Zj t5
 (Z0 ((YD [(1,1,(zA J (-1)))] [.nils,(zA J 0),(zA J 0),(.bool false),(.bool false)]).map .agg) fun w=>
 Z0 (Zb 5 h.1 w u.2) fun g=>
 Z0 (Z3 true 5 h.1 g.2) fun y=>
 some (y,g.2))
 (ES j.1 h.1 H u.2)
theorem Zbf:ES x1 x2 H0 H =
 Z0 (Z3 true 5 x1 H) fun h=>
 Z0 (Zb 5 x2 h H) fun g=>
 Z0 (Z3 true 5 x2 g.2) fun j=>
 some (j,g.2):=Z9 [3]
theorem PW:Vo [p0] H=R0 p0 H:=Be 8 [3] Tryz.func86
def Mn:Z4:=aa 87 60 Tryz.f87 [1,1,1,1,1,1,1] H0 [(1,x1),(2,x2)] H
def Mm:Z4:=aa 87 60 Tryz.f87 [1,1,1,1,1,1] H0 [(1,x1),(2,x2),(8,x8),(9,x9)] H
def Ml:Z4:=aa 87 60 Tryz.f87 [1,1,1,1,1] H0 [(1,x1),(2,x2),(8,x8),(9,x9)] H
def VI:KL:=Zc (WH 87 60 Tryz.f87 [1,1,1,1,1]) (Zg cfg 60 87 Tryz.f87 H0)
theorem HM:ZR 60 (VI H0):=Zw (C:=cfg) (kp:=cfg.keep 87) (sub (Z1 Tryz.f87) [1,1,1,1,1]) (ZB 87 Tryz.f87 H0)
def Mp:Z4:=ZD 87 60 (sub (Z1 Tryz.f87) [1,1,1,1,0,1,0,0,1,1,1]) (Zc (Yf 87 60 Tryz.f87 [1,1,1,1,0,1,0,0]) (Z6 0 (VI H0))) [(1,x1),(2,x2),(8,x8),(9,x9),(24,x24),(25,x25)] H
def Ze9:KL:=Zc (WH 87 60 Tryz.f87 [1,1,1,1,0,1,0,0,1,1,1]) (Zc (Yf 87 60 Tryz.f87 [1,1,1,1,0,1,0,0]) (Z6 0 (VI H0)))
def Mq:Z4:=ZD 87 60 (sub (Z1 Tryz.f87) [1,1,1,1,0,1,0,0,1,1,0,0,1,1]) (Z6 1 (Ze9 H0)) [(1,x1),(2,x2),(8,x8),(9,x9),(10,x10),(24,x24),(25,x25)] H
def Mo:Z4:=ZD 87 60 (sub (Z1 Tryz.f87) [1,1,1,1,0,1,0,0,1,1]) (Zc (Yf 87 60 Tryz.f87 [1,1,1,1,0,1,0,0]) (Z6 0 (VI H0))) [(1,x1),(2,x2),(8,x8),(9,x9),(24,x24),(25,x25),(26,x26)] H
def QG:Z4:=Vx 87 60 (sub (Z1 Tryz.f87) [1,1,1,1,0,1,0,0]) (Z6 0 (VI H0)) [(1,x1),(2,x2),(8,x8),(9,x9),(24,x24),(25,x25)] H
def LF:Z4:=
 Z0 (ZN p0 H) fun u=>
 Z0 (Z3 true 6 u.1 u.2) fun z=>
 Z0 (Zf U5 [z] u.2) fun j=>
 Z0 (Zb 6 u.1 j.1 j.2) fun y=>
 UI u.1 y.2 fun z3 D=>
 Z0 (some (.fn (.func 108) [] [z3])) fun w=>
 Z0 (Xu cfg (Za cfg) w [p1] D) fun g=>
 Z0 (Yd cfg (Za cfg) w [p2] g.2) fun h=>
 Z0 (Zk (.slice 3) g.1) fun A=>
 Z0 (Zk (.slice 3) h.1) fun B=>
 Z0 (UY A B) fun C=>
 QG p1 p2 g.1 h.1 C (zA J 0) H h.2
theorem Ok:Mn x1 x2 H0 H =
 Z0 (Zf BQ [x1,x2] H) fun g=>
 some (g.1,g.2):=Z9 ae
theorem Oj:Mm x1 x2 x8 x9 H0 H =
 Z0 (Zk (.slice 3) x8) fun g=>
 Z0 (Zk (.slice 3) x9) fun h=>
 Z0 (Z5 .gtr g h) fun j=>
 Zj j
 (some ((zA J 1),H))
 (Mn x1 x2 H0 H):=Z9 ae
theorem Oi:Ml x1 x2 x8 x9 H0 H =
 Z0 (Zk (.slice 3) x8) fun g=>
 Z0 (Zk (.slice 3) x9) fun h=>
 Z0 (Z5 .lss g h) fun j=>
 Zj j
 (some ((zA J (-1)),H))
 (Mm x1 x2 x8 x9 H0 H):=Z9 ae
theorem Om:Mp x1 x2 x8 x9 x24 x25 H0 H =
 Z0 (Z5 .add x25 (zA J 1)) fun g=>
 QG x1 x2 x8 x9 x24 g H0 H:=Z9 ae
theorem On:Mq x1 x2 x8 x9 x10 x24 x25 H0 H =
 Z0 (Zo 1 x8 x10) fun g=>
 Z0 (Z3 false 1 g H) fun h=>
 Z0 (Zo 1 x9 x10) fun j=>
 Z0 (Z3 false 1 j H) fun u=>
 Z0 (Z5 .gtr h u) fun w=>
 Zj w
 (some ((zA J 1),H))
 (Mp x1 x2 x8 x9 x24 x25 H0 H):=Z9 ae
theorem Ol:Mo x1 x2 x8 x9 x24 x25 x26 H0 H =
 Z0 (Zo 1 x8 x25) fun g=>
 Z0 (Z3 false 1 g H) fun h=>
 Z0 (Zo 1 x9 x25) fun j=>
 Z0 (Z3 false 1 j H) fun u=>
 Z0 (Z5 .lss h u) fun w=>
 Zj w
 (some ((zA J (-1)),H))
 (Mq x1 x2 x8 x9 x25 x24 x25 H0 H):=Z9 ae
theorem RL:QG x1 x2 x8 x9 x24 x25 H0 H =
 Z0 (Z5 .lss x25 x24) fun g=>
 Zj g
 (Mo x1 x2 x8 x9 x24 x25 g H0 H)
 (Ml x1 x2 x8 x9 H0 H):=(ZC (C:=cfg) [6,9,11,12,14,16] (Zn 0 (HM H0)) _ _).trans (by kernel_rfl)
theorem ZaA:Ua [p0,p1,p2] H=LF p0 p1 p2 H:=Be 60 [6,9,11,12,14,16] Tryz.func87
def Fu:Z4:=aa 88 50 Tryz.f88 [1,1,1,1] H0 [(4,x4),(5,x5),(6,x6),(7,x7),(9,x9)] H
def JX:Z4:=aa 88 50 Tryz.f88 [1,1,1] H0 [(4,x4),(5,x5),(6,x6),(7,x7),(9,x9)] H
def SO:Z4:=
 Z0 (ZN p0 H) fun j=>
 Z0 (ZN p1 j.2) fun h=>
 Z0 (ZN p2 h.2) fun u=>
 Z0 (ZN p3 u.2) fun g=>
 Z0 (Z3 false 1 h.1 g.2) fun w=>
 Z0 (Z5 .and w (zA J 2)) fun y=>
 Z0 (Z5 .neq y (zA J 0)) fun z=>
 Zj z
 (JX j.1 h.1 u.1 g.1 (zA J (-1)) H g.2)
 (JX j.1 h.1 u.1 g.1 (zA J 1) H g.2)
theorem Zbe:Fu x4 x5 x6 x7 x9 H0 H =
 Z0 (some (.fn (.func 114) [] [x5,x6,x7])) fun h=>
 Z0 (Yd cfg (Za cfg) h [(zA J 8),(.fn (.func 115) [] [])] H) fun u=>
 Z0 (Yd cfg (Za cfg) h [(zA J 16),(.fn (.func 117) [] [])] u.2) fun w=>
 UI x4 w.2 fun z4 D=>
 Z0 (some (.fn (.func 118) [] [z4])) fun y=>
 Z0 (Yd cfg (Za cfg) h [(zA J 4),y] D) fun g=>
 Z0 (Z3 true 6 z4 g.2) fun z=>
 Z0 (Z3 false 1 x6 g.2) fun A=>
 Z0 (Z3 false 1 x7 g.2) fun B=>
 Z0 (Zf Ua [z,A,B] g.2) fun j=>
 Z0 (Z5 .mul x9 j.1) fun C=>
 some (C,j.2):=Z9 [4,8]
theorem Zbd:JX x4 x5 x6 x7 x9 H0 H =
 Z0 (Z3 false 1 x5 H) fun u=>
 Z0 (Z5 .and u (zA J 1)) fun w=>
 Z0 (Z5 .neq w (zA J 0)) fun y=>
 Zj y
 (Z0 (Z3 false 1 x6 H) fun z=>
 Z0 (Zf Jj [z] H) fun g=>
 Z0 (ZO g.1 0) fun A=>
 Z0 (ZO g.1 1) fun E=>
 Z0 (Z3 false 1 x7 g.2) fun B=>
 Z0 (Zf Jj [B] g.2) fun h=>
 Z0 (ZO h.1 0) fun C=>
 Z0 (ZO h.1 1) fun F=>
 Z0 (Zf TW [A,C] h.2) fun j=>
 Z0 (Z5 .mul x9 j.1) fun D=>
 some (D,j.2))
 (Fu x4 x5 x6 x7 x9 H0 H):=Z9 [4,8]
theorem ZbC:UX [p0,p1,p2,p3] H=SO p0 p1 p2 p3 H:=Be 50 [4,8] Tryz.func88
def CH:Z4:=aa 107 16 Tryz.f107 [1,1] H0 [(1,x1),(2,x2)] H
def TX:Z4:=
 Z0 (ZN p0 H) fun j=>
 Z0 (some ((.ptr j.2.length 0),j.2++[.cells [(.str []),.nils,(.str []),(.str []),.nils,.nils]])) fun h=>
 Z0 (Z3 true 6 j.1 h.2) fun t4=>
 Z0 (Zf GE [t4] h.2) fun u=>
 Z0 (Z5 .neq u.1 (zA J 0)) fun y=>
 Zj y
 (Z0 (Zf F9 [] u.2) fun w=>
 Z0 (Zb 6 h.1 w.1 w.2) fun g=>
 Z0 (Z3 true 6 h.1 g.2) fun z=>
 some (z,g.2))
 (CH j.1 h.1 H u.2)
theorem Zda:CH x1 x2 H0 H =
 Z0 (Js 1 8 false (zA J 0) (zA J 256) (zA J 256) H) fun j=>
 Z0 (Z7 1 x1) fun w=>
 Z0 (Z3 false 1 w j.2) fun y=>
 Z0 (SZ 1 j.1 y j.2) fun u=>
 Z0 (Z7 1 x1) fun z=>
 Z0 (Zb 1 z j.1 u.2) fun h=>
 Z0 (Z3 true 6 x1 h.2) fun A=>
 Z0 (Zb 6 x2 A h.2) fun g=>
 Z0 (Z3 true 6 x2 g.2) fun B=>
 some (B,g.2):=Z9 [3]
theorem M9:U5 [p0] H=TX p0 H:=Be 16 [3] Tryz.func107
def PS:Z4:=
 Z0 (some ((.ptr H.length 0),H++[.cells [.nils]])) fun g=>
 Z0 (Z3 true 6 p1 g.2) fun t5=>
 Z0 (some (.fn (.func 110) [] [g.1])) fun j=>
 Z0 (Nz [t5,p0,j] g.2) fun h=>
 Z0 (Z3 false 1 g.1 h.2) fun t9=>
 some (t9,h.2)
theorem Ai:UU [p0,p1] H=PS p0 p1 H:=Be 10 [] Tryz.func108
def AN:Z4:=ZD 109 75 (sub (Z1 Tryz.f109) [1,1,1,1,0,0,1,0,1,1,1]) (Z6 3 (Zc (Yf 109 75 Tryz.f109 [1,1,1,1,0,0]) (Z6 2 (Zg cfg 75 109 Tryz.f109 H0)))) [(1,x1),(2,x2),(3,x3),(6,x6),(9,x9),(10,x10)] H
def J5:Z4:=ZD 109 75 (sub (Z1 Tryz.f109) [1,1,1,1,0,0,1,0,1,1]) (Z6 3 (Zc (Yf 109 75 Tryz.f109 [1,1,1,1,0,0]) (Z6 2 (Zg cfg 75 109 Tryz.f109 H0)))) [(1,x1),(2,x2),(3,x3),(6,x6),(9,x9),(10,x10),(11,x11)] H
def AM:Z4:=ZD 109 75 (sub (Z1 Tryz.f109) [1,1,1,1,0,0,1]) (Zc (Yf 109 75 Tryz.f109 [1,1,1,1,0,0]) (Z6 2 (Zg cfg 75 109 Tryz.f109 H0))) [(1,x1),(2,x2),(3,x3),(6,x6),(9,x9)] H
def GL:Z4:=Vx 109 75 (sub (Z1 Tryz.f109) [1,1,1,1,0,0]) (Z6 2 (Zg cfg 75 109 Tryz.f109 H0)) [(1,x1),(2,x2),(3,x3),(6,x6),(9,x9)] H
def Pi:Z4:=aa 109 75 Tryz.f109 [1,1,1] H0 [(1,x1),(2,x2),(3,x3),(6,x6)] H
def GK:KL:=Zc (WH 109 75 Tryz.f109 [1,1,1]) (Zg cfg 75 109 Tryz.f109 H0)
theorem ZaO:ZR 75 (GK H0):=Zw (C:=cfg) (kp:=cfg.keep 109) (sub (Z1 Tryz.f109) [1,1,1]) (ZB 109 Tryz.f109 H0)
def AP:Z4:=ZD 109 75 (sub (Z1 Tryz.f109) [1,1,0,1,0,0,1,1,1]) (Zc (Yf 109 75 Tryz.f109 [1,1,0,1,0,0]) (Z6 0 (GK H0))) [(1,x1),(2,x2),(3,x3),(6,x6),(16,x16),(17,x17),(18,x18)] H
def AO:Z4:=ZD 109 75 (sub (Z1 Tryz.f109) [1,1,0,1,0,0,1,1]) (Zc (Yf 109 75 Tryz.f109 [1,1,0,1,0,0]) (Z6 0 (GK H0))) [(1,x1),(2,x2),(3,x3),(6,x6),(16,x16),(17,x17),(18,x18),(19,x19)] H
def GM:Z4:=Vx 109 75 (sub (Z1 Tryz.f109) [1,1,0,1,0,0]) (Z6 0 (GK H0)) [(1,x1),(2,x2),(3,x3),(6,x6),(16,x16),(17,x17),(18,x18)] H
def Za1:Z4:=
 Z0 (ZN p0 H) fun j=>
 Z0 (some ((.map j.2.length),j.2++[.map [] 0])) fun g=>
 Z0 (Z7 5 j.1) fun u=>
 Z0 (Z3 false 1 u g.2) fun h=>
 Z0 (Zk (.slice 189) h) fun w=>
 GM p1 p2 j.1 g.1 h w (zA J 0) H g.2
theorem Mv:AN x1 x2 x3 x6 x9 x10 H0 H =
 Z0 (Zk .string x10) fun g=>
 Z0 (Z5 .add x9 g) fun h=>
 GL x1 x2 x3 x6 h H0 H:=Z9 af
theorem Mu:J5 x1 x2 x3 x6 x9 x10 x11 H0 H =
 Z0 (Yd cfg (Za cfg) x2 [x10,x11] H) fun g=>
 Z0 (Xv .not g.1) fun t70=>
 Zj t70
 (some (ak,g.2))
 (AN x1 x2 x3 x6 x9 x10 H0 g.2):=Z9 af
theorem Zeb:AM x1 x2 x3 x6 x9 H0 H =
 Z0 (Z5 .add x9 (zA J 1)) fun u=>
 Z0 (ZU x1 (some x9) (some u) none) fun g=>
 Z0 (Z7 1 x3) fun t37=>
 Z0 (Z3 false 1 t37 H) fun w=>
 Z0 (Zx x1 x9) fun y=>
 Z0 (Zo 1 w y) fun z=>
 Z0 (Z3 false 1 z H) fun h=>
 Z0 (Z5 .add x9 (zA J 2)) fun A=>
 Z0 (Zk .string x1) fun B=>
 Z0 (Z5 .leq A B) fun C=>
 Zj C
 (Z0 (Z5 .add x9 (zA J 2)) fun D=>
 Z0 (ZU x1 (some x9) (some D) none) fun E=>
 Z0 (Y9 .string (zA J 0) true x6 E H) fun j=>
 Z0 (ZO j 0) fun F=>
 Z0 (ZO j 1) fun K=>
 Zj K
 (Z0 (Z5 .add x9 (zA J 2)) fun L=>
 Z0 (ZU x1 (some x9) (some L) none) fun M=>
 J5 x1 x2 x3 x6 x9 M F H0 H)
 (J5 x1 x2 x3 x6 x9 g h H0 H))
 (J5 x1 x2 x3 x6 x9 g h H0 H):=Z9 af
theorem D4:GL x1 x2 x3 x6 x9 H0 H =
 Z0 (Zk .string x1) fun g=>
 Z0 (Z5 .lss x9 g) fun h=>
 Zj h
 (AM x1 x2 x3 x6 x9 H0 H)
 (some (ak,H)):=(ZC (C:=cfg) [4,6,7,9,14,15] (Zn 2 (ZB 109 Tryz.f109 H0)) _ _).trans (by kernel_rfl)
theorem Zea:Pi x1 x2 x3 x6 H0 H =
 GL x1 x2 x3 x6 (zA J 0) H0 H:=Z9 af
theorem Zed:AP x1 x2 x3 x6 x16 x17 x18 H0 H =
 Z0 (Z5 .add x18 (zA J 1)) fun g=>
 GM x1 x2 x3 x6 x16 x17 g H0 H:=Z9 af
theorem Zec:AO x1 x2 x3 x6 x16 x17 x18 x19 H0 H =
 Z0 (Zo 2 x16 x18) fun u=>
 Z0 (Z3 true 2 u H) fun w=>
 Z0 (some ((.ptr H.length 0),H++[.cells [(.str []),(zA J 0)]])) fun j=>
 Z0 (Zb 2 j.1 w j.2) fun g=>
 Z0 (Z7 0 j.1) fun y=>
 Z0 (Z3 false 1 y g.2) fun z=>
 Z0 (Z7 1 j.1) fun A=>
 Z0 (Z3 false 1 A g.2) fun B=>
 Z0 (Xq .string x6 z B g.2) fun h=>
 AP x1 x2 x3 x6 x16 x17 x18 H0 h.2:=Z9 af
theorem Mw:GM x1 x2 x3 x6 x16 x17 x18 H0 H =
 Z0 (Z5 .lss x18 x17) fun g=>
 Zj g
 (AO x1 x2 x3 x6 x16 x17 x18 g H0 H)
 (Pi x1 x2 x3 x6 H0 H):=(ZC (C:=cfg) [4,6,7,9,14,15] (Zn 0 (ZaO H0)) _ _).trans (by kernel_rfl)
theorem Zf9:Nz [p0,p1,p2] H=Za1 p0 p1 p2 H:=Be 75 [4,6,7,9,14,15] Tryz.func109
def FZ (p0 p1 p2:AV)(H:Hp):Z4:=
 Z0 (Z3 false 1 p2 H) fun j=>
 Z0 ((ZA 1 [(0,p1)] [(zA J 0)]).map (.vs 1 .clip)) fun u=>
 Z0 (Y7 1 8 j u H) fun h=>
 Z0 (Zb 1 p2 h.1 h.2) fun g=>
 some ((.bool true),g.2)
theorem Se:Jl [p0,p1,p2] H=FZ p0 p1 p2 H:=Be 10 [] Tryz.func110
def Mf:Z4:=
 Z0 (Zf W4 [p0,p1] H) fun g=>
 some (g.1,g.2)
theorem Is:BQ [p0,p1] H=Mf p0 p1 H:=Be 8 [] Tryz.func111
def BX:Z4:=aa 112 116 Tryz.f112 [1,1,1,1,1,1,1,1,1,1,1] H0 [(9,x9),(11,x11)] H
def BW:Z4:=aa 112 116 Tryz.f112 [1,1,1,1,1,1,1,1,1] H0 [(5,x5),(7,x7),(8,x8),(9,x9)] H
def WD:Z4:=aa 112 116 Tryz.f112 [1,1,1,1,1,1,1,1] H0 [(5,x5),(6,x6),(7,x7),(8,x8),(9,x9)] H
def QB:Z4:=aa 112 116 Tryz.f112 [1,1,1,1,1] H0 [(0,x0),(4,x4),(5,x5)] H
def BV:Z4:=aa 112 116 Tryz.f112 [1,1,1] H0 [(0,x0),(4,x4)] H
def BY:KL:=Zc (WH 112 116 Tryz.f112 [1,1,1]) (Zg cfg 116 112 Tryz.f112 H0)
theorem HE:ZR 116 (BY H0):=Zw (C:=cfg) (kp:=cfg.keep 112) (sub (Z1 Tryz.f112) [1,1,1]) (ZB 112 Tryz.f112 H0)
def Mh:Z4:=ZD 112 116 (sub (Z1 Tryz.f112) [1,1,0,0,0,1]) (Zc (Yf 112 116 Tryz.f112 [1,1,0,0,0]) (Z6 0 (BY H0))) [(0,x0),(4,x4)] H
def QC:Z4:=Vx 112 116 (sub (Z1 Tryz.f112) [1,1,0,0,0]) (Z6 0 (BY H0)) [(0,x0),(4,x4)] H
def Zf7:Z4:=
 QC p0 (zA J 0) H H
theorem Rv:BX x9 x11 H0 H =
 some ((.tuple [x11,x9]),H):=Z9 am
theorem IP:BW x5 x7 x8 x9 H0 H =
 Z0 (Zf FW [x7,x8] H) fun g=>
 Z0 (UY (zA J 10000000000000) g.1) fun h=>
 Zj x5
 (Z0 (Xv .neg h) fun j=>
 BX x9 j H0 g.2)
 (BX x9 h H0 g.2):=Z9 am
theorem IN:WD x5 x6 x7 x8 x9 H0 H =
 Z0 (Z5 .eql x6 (zA J 0)) fun g=>
 Z0 (Z8 g true ak (some x8)) fun h=>
 Z0 (Z8 g true ak (Yr .eql h (.str []))) fun j=>
 Z0 (Zi g j (.bool false)) fun u=>
 Zj u
 (some ((.tuple [(zA J 0),(zA J 0)]),H))
 (BW x5 x7 x8 x9 H0 H):=Z9 am
theorem IM:QB x0 x4 x5 H0 H =
 Z0 (ZU x0 (some x4) none none) fun A=>
 Z0 (Zf Jk [A] H) fun g=>
 Z0 (Z5 .add x4 g.1) fun B=>
 Z0 (ZU x0 (some x4) (some B) none) fun w=>
 Z0 (Z5 .add x4 g.1) fun h=>
 Z0 (Zk .string x0) fun t70=>
 Z0 (Z5 .lss h t70) fun u=>
 Z0 (Z8 u true ak (some x0)) fun C=>
 Z0 (Z8 u true ak (some h)) fun D=>
 Z0 (Z8 u true ak (Zx C D)) fun E=>
 Z0 (Z8 u true ak (Z5 .eql E (.int .u8 46))) fun F=>
 Z0 (Zi u F (.bool false)) fun K=>
 Zj K
 (Z0 (Z5 .add h (zA J 1)) fun L=>
 Z0 (ZU x0 (some L) none none) fun M=>
 Z0 (Zf Jk [M] g.2) fun j=>
 Z0 (Z5 .gtr g.1 (zA J 0)) fun y=>
 Z0 (Z8 y false ak (some j.1)) fun N=>
 Z0 (Z8 y false ak (Z5 .gtr N (zA J 0))) fun O=>
 Z0 (Zi y (.bool true) O) fun Q=>
 Zj Q
 (Z0 (Z5 .add h (zA J 1)) fun R=>
 Z0 (Z5 .add h (zA J 1)) fun S=>
 Z0 (Z5 .add S j.1) fun T=>
 Z0 (ZU x0 (some R) (some T) none) fun U=>
 Z0 (Z5 .add (zA J 1) j.1) fun V=>
 Z0 (Z5 .add h V) fun z=>
 WD x5 g.1 w U z H0 j.2)
 (WD x5 g.1 w (.str []) h H0 j.2))
 (WD x5 g.1 w (.str []) h H0 g.2):=Z9 am
theorem IL:BV x0 x4 H0 H =
 Z0 (Zk .string x0) fun u=>
 Z0 (Z5 .lss x4 u) fun h=>
 Z0 (Z8 h true ak (some x0)) fun w=>
 Z0 (Z8 h true ak (some x4)) fun y=>
 Z0 (Z8 h true ak (Zx w y)) fun t37=>
 Z0 (Z8 h true ak (Z5 .eql t37 (.int .u8 45))) fun z=>
 Z0 (Zi h z (.bool false)) fun g=>
 Z0 (Z8 g false ak (some x4)) fun A=>
 Z0 (Z8 g false ak (some x0)) fun B=>
 Z0 (Z8 g false ak (Zk .string B)) fun C=>
 Z0 (Z8 g false ak (Z5 .lss A C)) fun D=>
 Z0 (Z8 g false ak (some D)) fun j=>
 Z0 (Z8 j true ak (some x0)) fun E=>
 Z0 (Z8 j true ak (some x4)) fun F=>
 Z0 (Z8 j true ak (Zx E F)) fun K=>
 Z0 (Z8 j true ak (Z5 .eql K (.int .u8 43))) fun L=>
 Z0 (Z8 g false ak (Zi j L (.bool false))) fun M=>
 Z0 (Zi g (.bool true) M) fun N=>
 Zj N
 (Z0 (Z5 .add x4 (zA J 1)) fun O=>
 QB x0 O g H0 H)
 (QB x0 x4 g H0 H):=Z9 am
theorem Rw:Mh x0 x4 H0 H =
 Z0 (Z5 .add x4 (zA J 1)) fun g=>
 QC x0 g H0 H:=Z9 am
theorem Rx:QC x0 x4 H0 H =
 Z0 (Zk .string x0) fun j=>
 Z0 (Z5 .lss x4 j) fun g=>
 Z0 (Z8 g true ak (some x0)) fun u=>
 Z0 (Z8 g true ak (some x4)) fun w=>
 Z0 (Z8 g true ak (Zx u w)) fun y=>
 Z0 (Z8 g true ak (Z5 .eql y (.int .u8 32))) fun z=>
 Z0 (Z8 g true ak (some z)) fun h=>
 Z0 (Z8 h false ak (some x0)) fun A=>
 Z0 (Z8 h false ak (some x4)) fun B=>
 Z0 (Z8 h false ak (Zx A B)) fun D=>
 Z0 (Z8 h false ak (Z5 .eql D (.int .u8 9))) fun E=>
 Z0 (Z8 g true ak (Zi h (.bool true) E)) fun F=>
 Z0 (Zi g F (.bool false)) fun K=>
 Zj K
 (Mh x0 x4 H0 H)
 (BV x0 x4 H0 H):=(ZC (C:=cfg) [3,4,7,14,16,19] (Zn 0 (HE H0)) _ _).trans (by kernel_rfl)
theorem Zay:Jj [p0] H=Zf7 p0 H:=Be 116 [3,4,7,14,16,19] Tryz.func112
def CP:Z4:=aa 113 13 Tryz.f113 [1,1] H0 [] H
def Aq:Z4:=
 Z0 (Z5 .lss p0 p1) fun h=>
 Zj h
 (some ((zA J (-1)),H))
 (Z0 (Z5 .gtr p0 p1) fun g=>
 Zj g
 (some ((zA J 1),H))
 (CP H H))
theorem Zdo:CP H0 H =
 some ((zA J 0),H):=Z9 [5]
theorem ZdV:TW [p0,p1] H=Aq p0 p1 H:=Be 13 [5] Tryz.func113
def Mc:Z4:=
 Z0 (Z3 false 1 p2 H) fun A=>
 Z0 (Z5 .and A p0) fun t9=>
 Z0 (Z5 .neq t9 (zA J 0)) fun w=>
 Zj w
 (Z0 (Z3 false 1 p3 H) fun y=>
 Z0 (Xu cfg (Za cfg) p1 [y] H) fun g=>
 Z0 (Z3 false 1 p4 g.2) fun z=>
 Z0 (Xu cfg (Za cfg) p1 [z] g.2) fun h=>
 Z0 (Zb 1 p3 g.1 h.2) fun j=>
 Z0 (Zb 1 p4 h.1 j.2) fun u=>
 some (ak,u.2))
 (some (ak,H))
theorem Ip:BN [p0,p1,p2,p3,p4] H=Mc p0 p1 p2 p3 p4 H:=Be 17 [] Tryz.func114
def Md:Z4:=
 Z0 (OS ZdJ [p0,(.str [32,9])] H) fun g=>
 some (g.1,g.2)
theorem Iq:BO [p0] H=Md p0 H:=Be 5 [] Tryz.func115
def CO:Z4:=aa 117 44 Tryz.f117 [1,1,1] H0 [(3,x3)] H
def G2:KL:=Zc (WH 117 44 Tryz.f117 [1,1,1]) (Zg cfg 44 117 Tryz.f117 H0)
theorem OM:ZR 44 (G2 H0):=Zw (C:=cfg) (kp:=cfg.keep 117) (sub (Z1 Tryz.f117) [1,1,1]) (ZB 117 Tryz.f117 H0)
def Ql:Z4:=ZD 117 44 (sub (Z1 Tryz.f117) [1,1,0,1,0,0,1,1,1]) (Zc (Yf 117 44 Tryz.f117 [1,1,0,1,0,0]) (Z6 0 (G2 H0))) [(0,x0),(3,x3),(7,x7),(8,x8)] H
def RY:Z4:=ZD 117 44 (sub (Z1 Tryz.f117) [1,1,0,1,0,0,1,1]) (Zc (Yf 117 44 Tryz.f117 [1,1,0,1,0,0]) (Z6 0 (G2 H0))) [(0,x0),(3,x3),(7,x7),(8,x8),(9,x9)] H
def G3:Z4:=Vx 117 44 (sub (Z1 Tryz.f117) [1,1,0,1,0,0]) (Z6 0 (G2 H0)) [(0,x0),(3,x3),(7,x7),(8,x8)] H
def Ap:Z4:=
 Z0 (some ((.ptr H.length 0),H++[.bld 201 5 []])) fun g=>
 Z0 (Zk .string p0) fun h=>
 G3 p0 g.1 h (zA J 0) H g.2
theorem Zdm:CO x3 H0 H =
 Z0 (stringE.run [x3] H) fun g=>
 some (g.1,g.2):=Z9 ap
theorem Nv:Ql x0 x3 x7 x8 H0 H =
 Z0 (Z5 .add x8 (zA J 1)) fun g=>
 G3 x0 x3 x7 g H0 H:=Z9 ap
theorem Zdn:RY x0 x3 x7 x8 x9 H0 H =
 Z0 (Zx x0 x8) fun g=>
 Z0 (Vn [g] H) fun h=>
 Z0 (Z8 h.1 false ak (some g)) fun B=>
 Z0 (Z8 h.1 false ak (Z5 .geq B (.int .u8 97))) fun C=>
 Z0 (Z8 h.1 false ak (some C)) fun w=>
 Z0 (Z8 w true ak (some g)) fun D=>
 Z0 (Z8 w true ak (Z5 .leq D (.int .u8 122))) fun E=>
 Z0 (Z8 h.1 false ak (Zi w E (.bool false))) fun F=>
 Z0 (Zi h.1 (.bool true) F) fun j=>
 Z0 (Z8 j false ak (some g)) fun K=>
 Z0 (Z8 j false ak (Z5 .geq K (.int .u8 65))) fun L=>
 Z0 (Z8 j false ak (some L)) fun y=>
 Z0 (Z8 y true ak (some g)) fun M=>
 Z0 (Z8 y true ak (Z5 .leq M (.int .u8 90))) fun N=>
 Z0 (Z8 j false ak (Zi y N (.bool false))) fun O=>
 Z0 (Zi j (.bool true) O) fun u=>
 Z0 (Z8 u false ak (some g)) fun Q=>
 Z0 (Z8 u false ak (Z5 .geq Q (.int .u8 48))) fun R=>
 Z0 (Z8 u false ak (some R)) fun z=>
 Z0 (Z8 z true ak (some g)) fun S=>
 Z0 (Z8 z true ak (Z5 .leq S (.int .u8 57))) fun t37=>
 Z0 (Z8 u false ak (Zi z t37 (.bool false))) fun T=>
 Z0 (Zi u (.bool true) T) fun U=>
 Zj U
 (Z0 (byteE.run [x3,g] h.2) fun A=>
 Ql x0 x3 x7 x8 H0 A.2)
 (Ql x0 x3 x7 x8 H0 h.2):=Z9 ap
theorem Nw:G3 x0 x3 x7 x8 H0 H =
 Z0 (Z5 .lss x8 x7) fun t9=>
 Zj t9
 (RY x0 x3 x7 x8 t9 H0 H)
 (CO x3 H0 H):=(ZC (C:=cfg) [4,8,9] (Zn 0 (OM H0)) _ _).trans (by kernel_rfl)
theorem ZdU:TU [p0] H=Ap p0 H:=Be 44 [4,8,9] Tryz.func117
def Me:Z4:=
 Z0 (Z3 true 6 p1 H) fun t4=>
 Z0 (Zf TT [t4,p0] H) fun g=>
 some (g.1,g.2)
theorem Ir:BP [p0,p1] H=Me p0 p1 H:=Be 7 [] Tryz.func118
def Aj:Z4:=
 Z0 (ZN p0 H) fun g=>
 Z0 (Z3 true 6 g.1 g.2) fun t5=>
 Z0 (Zf U5 [t5] g.2) fun h=>
 Z0 (Lr false 1 3 h.1) fun u=>
 Z0 (Zf FY [u,p1] h.2) fun j=>
 some (j.1,j.2)
theorem ZdR:TT [p0,p1] H=Aj p0 p1 H:=Be 10 [] Tryz.func119
def CE:Z4:=aa 143 49 Tryz.f143 [1,1,1,1,1] H0 [(1,x1)] H
def CD:Z4:=aa 143 49 Tryz.f143 [1,1,1,1] H0 [(1,x1)] H
def KW:KL:=Zc (WH 143 49 Tryz.f143 [1,1,1,1]) (Zg cfg 49 143 Tryz.f143 H0)
theorem Oh:ZR 49 (KW H0):=Zw (C:=cfg) (kp:=cfg.keep 143) (sub (Z1 Tryz.f143) [1,1,1,1]) (ZB 143 Tryz.f143 H0)
def CG:Z4:=ZD 143 49 (sub (Z1 Tryz.f143) [1,1,1,0,1,0,0,1,1,1]) (Zc (Yf 143 49 Tryz.f143 [1,1,1,0,1,0,0]) (Z6 0 (KW H0))) [(1,x1),(27,x27),(28,x28),(29,x29)] H
def CF:Z4:=ZD 143 49 (sub (Z1 Tryz.f143) [1,1,1,0,1,0,0,1,1]) (Zc (Yf 143 49 Tryz.f143 [1,1,1,0,1,0,0]) (Z6 0 (KW H0))) [(1,x1),(27,x27),(28,x28),(29,x29),(30,x30)] H
def KX:Z4:=Vx 143 49 (sub (Z1 Tryz.f143) [1,1,1,0,1,0,0]) (Z6 0 (KW H0)) [(1,x1),(27,x27),(28,x28),(29,x29)] H
def CC:Z4:=aa 143 49 Tryz.f143 [1,1,1] H0 [(1,x1)] H
def CB:Z4:=aa 143 49 Tryz.f143 [1,1] H0 [(1,x1)] H
def Ah:Z4:=
 Z0 (ZN p0 H) fun g=>
 Z0 (Z7 0 g.1) fun j=>
 Z0 (Z3 false 1 j g.2) fun u=>
 Z0 (Zf K4 [u] g.2) fun h=>
 Z0 (Xv .not h.1) fun t9=>
 Zj t9
 (some ((zA J 4),h.2))
 (CB g.1 H h.2)
theorem Zd7:CE x1 H0 H =
 Z0 (Z7 5 x1) fun h=>
 Z0 (Z3 false 1 h H) fun j=>
 Z0 (Zf V6 [j] H) fun g=>
 some (g.1,g.2):=Z9 aq
theorem Zd6:CD x1 H0 H =
 Z0 (Z7 4 x1) fun h=>
 Z0 (Z3 false 1 h H) fun j=>
 Z0 (Zf Vm [j] H) fun g=>
 Z0 (Z5 .neq g.1 (zA J 0)) fun u=>
 Zj u
 (some (g.1,g.2))
 (CE x1 H0 g.2):=Z9 aq
theorem Zd9:CG x1 x27 x28 x29 H0 H =
 Z0 (Z5 .add x29 (zA J 1)) fun g=>
 KX x1 x27 x28 g H0 H:=Z9 aq
theorem Zd8:CF x1 x27 x28 x29 x30 H0 H =
 Z0 (Zo 1 x27 x29) fun j=>
 Z0 (Z3 false 1 j H) fun h=>
 Z0 (Z5 .lss h (zA J 0)) fun g=>
 Z0 (Z8 g false ak (some h)) fun u=>
 Z0 (Z8 g false ak (Z5 .gtr u (zA J 65535))) fun t37=>
 Z0 (Zi g (.bool true) t37) fun w=>
 Zj w
 (some ((zA J 2),H))
 (CG x1 x27 x28 x29 H0 H):=Z9 aq
theorem Nk:KX x1 x27 x28 x29 H0 H =
 Z0 (Z5 .lss x29 x28) fun g=>
 Zj g
 (CF x1 x27 x28 x29 g H0 H)
 (CD x1 H0 H):=(ZC (C:=cfg) [3,5,7,10,11,14] (Zn 0 (Oh H0)) _ _).trans (by kernel_rfl)
theorem Zd5:CC x1 H0 H =
 Z0 (Z7 1 x1) fun h=>
 Z0 (Z3 false 1 h H) fun g=>
 Z0 (Zk (.slice 3) g) fun j=>
 KX x1 g j (zA J 0) H0 H:=Z9 aq
theorem Zd4:CB x1 H0 H =
 Z0 (Z7 1 x1) fun j=>
 Z0 (Z3 false 1 j H) fun u=>
 Z0 (Zk (.slice 3) u) fun w=>
 Z0 (Z5 .neq w (zA J 256)) fun g=>
 Z0 (Z8 g false ak (Z7 2 x1)) fun y=>
 Z0 (Z8 g false ak (Z3 false 1 y H)) fun z=>
 Z0 (Z8 g false ak (Zk .string z)) fun A=>
 Z0 (Z8 g false ak (Z5 .neq A (zA J 256))) fun B=>
 Z0 (Zi g (.bool true) B) fun h=>
 Z0 (Z8 h false ak (Z7 3 x1)) fun C=>
 Z0 (Z8 h false ak (Z3 false 1 C H)) fun D=>
 Z0 (Z8 h false ak (Zk .string D)) fun E=>
 Z0 (Z8 h false ak (Z5 .neq E (zA J 256))) fun F=>
 Z0 (Zi h (.bool true) F) fun K=>
 Zj K
 (some ((zA J 2),H))
 (CC x1 H0 H):=Z9 aq
theorem ZdQ:GE [p0] H=Ah p0 H:=Be 49 [3,5,7,10,11,14] Tryz.func143
def Mr:Z4:=aa 144 18 Tryz.f144 [1,1,1] H0 [(0,x0),(1,x1)] H
def QH:KL:=Zc (WH 144 18 Tryz.f144 [1,1,1]) (Zg cfg 18 144 Tryz.f144 H0)
theorem HN:ZR 18 (QH H0):=Zw (C:=cfg) (kp:=cfg.keep 144) (sub (Z1 Tryz.f144) [1,1,1]) (ZB 144 Tryz.f144 H0)
def Mt:Z4:=ZD 144 18 (sub (Z1 Tryz.f144) [1,1,0,1,0,0,1,1,1]) (Zc (Yf 144 18 Tryz.f144 [1,1,0,1,0,0]) (Z6 0 (QH H0))) [(0,x0),(1,x1),(5,x5),(6,x6)] H
def Ms:Z4:=ZD 144 18 (sub (Z1 Tryz.f144) [1,1,0,1,0,0,1,1]) (Zc (Yf 144 18 Tryz.f144 [1,1,0,1,0,0]) (Z6 0 (QH H0))) [(0,x0),(1,x1),(5,x5),(6,x6),(7,x7)] H
def QI:Z4:=Vx 144 18 (sub (Z1 Tryz.f144) [1,1,0,1,0,0]) (Z6 0 (QH H0)) [(0,x0),(1,x1),(5,x5),(6,x6)] H
def LG:Z4:=
 Z0 (some ((.ptr H.length 0),H++[.cells [(.str []),.nils,(.str []),(.str []),.nils,.nils]])) fun h=>
 Z0 (Js 1 8 false (zA J 0) (zA J 256) (zA J 256) h.2) fun g=>
 Z0 (Zk (.slice 3) g.1) fun t5=>
 QI h.1 g.1 t5 (zA J 0) H g.2
theorem Oo:Mr x0 x1 H0 H =
 Z0 (Zf WX [(.int .u8 65),(.int .u8 90),(zA J 32)] H) fun g=>
 Z0 (Zf WX [(.int .u8 97),(.int .u8 122),(zA J (-32))] g.2) fun h=>
 Z0 ((YD [(0,1,(.str [112,111,115,105,120])),(1,1,x1),(2,1,g.1),(3,1,h.1)] [(.str []),.nils,(.str []),(.str []),.nils,.nils]).map .agg) fun u=>
 Z0 (Zb 6 x0 u h.2) fun j=>
 Z0 (Z3 true 6 x0 j.2) fun w=>
 some (w,j.2):=Z9 [4,6,7]
theorem Ot:Mt x0 x1 x5 x6 H0 H =
 Z0 (Z5 .add x6 (zA J 1)) fun g=>
 QI x0 x1 x5 g H0 H:=Z9 [4,6,7]
theorem Oq:Ms x0 x1 x5 x6 x7 H0 H =
 Z0 (Zo 1 x1 x6) fun h=>
 Z0 (Zb 1 h x6 H) fun g=>
 Mt x0 x1 x5 x6 H0 g.2:=Z9 [4,6,7]
theorem Ou:QI x0 x1 x5 x6 H0 H =
 Z0 (Z5 .lss x6 x5) fun g=>
 Zj g
 (Ms x0 x1 x5 x6 g H0 H)
 (Mr x0 x1 H0 H):=(ZC (C:=cfg) [4,6,7] (Zn 0 (HN H0)) _ _).trans (by kernel_rfl)
theorem ZaB:F9 [] H=LG H:=Be 18 [4,6,7] Tryz.func144
def Fb:Z4:=
 Z0 (O1 .cmp [p0,p1] H) fun g=>
 some (g.1,g.2)
theorem GG:W4 [p0,p1] H=Fb p0 p1 H:=Be 8 [] Tryz.func145
def Mi:Z4:=aa 146 23 Tryz.f146 [1,1,1] H0 [(3,x3)] H
def BZ:KL:=Zc (WH 146 23 Tryz.f146 [1,1,1]) (Zg cfg 23 146 Tryz.f146 H0)
theorem HF:ZR 23 (BZ H0):=Zw (C:=cfg) (kp:=cfg.keep 146) (sub (Z1 Tryz.f146) [1,1,1]) (ZB 146 Tryz.f146 H0)
def Mj:Z4:=ZD 146 23 (sub (Z1 Tryz.f146) [1,1,0,0,0,1]) (Zc (Yf 146 23 Tryz.f146 [1,1,0,0,0]) (Z6 0 (BZ H0))) [(0,x0),(3,x3)] H
def QE:Z4:=Vx 146 23 (sub (Z1 Tryz.f146) [1,1,0,0,0]) (Z6 0 (BZ H0)) [(0,x0),(3,x3)] H
def Zf8:Z4:=
 QE p0 (zA J 0) H H
theorem Ju:Mi x3 H0 H =
 some (x3,H):=Z9 [3,4]
theorem IQ:Mj x0 x3 H0 H =
 Z0 (Z5 .add x3 (zA J 1)) fun g=>
 QE x0 g H0 H:=Z9 [3,4]
theorem Ry:QE x0 x3 H0 H =
 Z0 (Zk .string x0) fun E=>
 Z0 (Z5 .lss x3 E) fun h=>
 Z0 (Z8 h true ak (some x0)) fun t9=>
 Z0 (Z8 h true ak (some x3)) fun j=>
 Z0 (Z8 h true ak (Zx t9 j)) fun u=>
 Z0 (Z8 h true ak (Z5 .geq u (.int .u8 48))) fun w=>
 Z0 (Zi h w (.bool false)) fun g=>
 Z0 (Z8 g true ak (some x0)) fun y=>
 Z0 (Z8 g true ak (some x3)) fun z=>
 Z0 (Z8 g true ak (Zx y z)) fun A=>
 Z0 (Z8 g true ak (Z5 .leq A (.int .u8 57))) fun B=>
 Z0 (Zi g B (.bool false)) fun D=>
 Zj D
 (Mj x0 x3 H0 H)
 (Mi x3 H0 H):=(ZC (C:=cfg) [3,4] (Zn 0 (HF H0)) _ _).trans (by kernel_rfl)
theorem Zaz:Jk [p0] H=Zf8 p0 H:=Be 23 [3,4] Tryz.func146
def E7:Z4:=aa 147 29 Tryz.f147 [1,1,1] H0 [(1,x1),(5,x5)] H
def Jv:KL:=Zc (WH 147 29 Tryz.f147 [1,1,1]) (Zg cfg 29 147 Tryz.f147 H0)
theorem AG:ZR 29 (Jv H0):=Zw (C:=cfg) (kp:=cfg.keep 147) (sub (Z1 Tryz.f147) [1,1,1]) (ZB 147 Tryz.f147 H0)
def E9:Z4:=ZD 147 29 (sub (Z1 Tryz.f147) [1,1,0,1,0,0,1,1,1]) (Zc (Yf 147 29 Tryz.f147 [1,1,0,1,0,0]) (Z6 0 (Jv H0))) [(0,x0),(1,x1),(5,x5),(8,x8),(9,x9)] H
def E8:Z4:=ZD 147 29 (sub (Z1 Tryz.f147) [1,1,0,1,0,0,1,1]) (Zc (Yf 147 29 Tryz.f147 [1,1,0,1,0,0]) (Z6 0 (Jv H0))) [(0,x0),(1,x1),(5,x5),(8,x8),(9,x9),(10,x10)] H
def Jw:Z4:=Vx 147 29 (sub (Z1 Tryz.f147) [1,1,0,1,0,0]) (Z6 0 (Jv H0)) [(0,x0),(1,x1),(5,x5),(8,x8),(9,x9)] H
def SG:Z4:=
 Z0 (Zk .string p0) fun g=>
 Jw p0 p1 (zA J 0) g (zA J 0) H H
theorem ZaI:E7 x1 x5 H0 H =
 Z0 (Z5 .mul x5 (zA J 10000)) fun h=>
 Z0 (Zf Ga [x1] H) fun g=>
 Z0 (Z5 .add h g.1) fun j=>
 Z0 (UY (zA J 10000000000001) j) fun u=>
 some (u,g.2):=Z9 ap
theorem ZaK:E9 x0 x1 x5 x8 x9 H0 H =
 Z0 (Z5 .add x9 (zA J 1)) fun g=>
 Jw x0 x1 x5 x8 g H0 H:=Z9 ap
theorem ZaJ:E8 x0 x1 x5 x8 x9 x10 H0 H =
 Z0 (Z5 .mul (zA J 10) x5) fun h=>
 Z0 (Zx x0 x9) fun j=>
 Z0 (Z5 .sub j (.int .u8 48)) fun u=>
 Z0 (Yv .i64 u) fun w=>
 Z0 (Z5 .add h w) fun g=>
 Z0 (Z5 .gtr g (zA J 1000000000)) fun y=>
 Zj y
 (some ((zA J 10000000000001),H))
 (E9 x0 x1 g x8 x9 H0 H):=Z9 ap
theorem Tq:Jw x0 x1 x5 x8 x9 H0 H =
 Z0 (Z5 .lss x9 x8) fun g=>
 Zj g
 (E8 x0 x1 x5 x8 x9 g H0 H)
 (E7 x1 x5 H0 H):=(ZC (C:=cfg) [4,8,9] (Zn 0 (AG H0)) _ _).trans (by kernel_rfl)
theorem Zbp:FW [p0,p1] H=SG p0 p1 H:=Be 29 [4,8,9] Tryz.func147
def Eo:Z4:=aa 155 26 Tryz.f155 [1,1,1] H0 [(5,x5)] H
def JF:KL:=Zc (WH 155 26 Tryz.f155 [1,1,1]) (Zg cfg 26 155 Tryz.f155 H0)
theorem AQ:ZR 26 (JF H0):=Zw (C:=cfg) (kp:=cfg.keep 155) (sub (Z1 Tryz.f155) [1,1,1]) (ZB 155 Tryz.f155 H0)
def Er:Z4:=ZD 155 26 (sub (Z1 Tryz.f155) [1,1,0,1,0,0,1,1,1]) (Zc (Yf 155 26 Tryz.f155 [1,1,0,1,0,0]) (Z6 0 (JF H0))) [(0,x0),(5,x5),(10,x10),(11,x11)] H
def Ep:Z4:=ZD 155 26 (sub (Z1 Tryz.f155) [1,1,0,1,0,0,1,1]) (Zc (Yf 155 26 Tryz.f155 [1,1,0,1,0,0]) (Z6 0 (JF H0))) [(0,x0),(5,x5),(10,x10),(11,x11),(12,x12)] H
def JG:Z4:=Vx 155 26 (sub (Z1 Tryz.f155) [1,1,0,1,0,0]) (Z6 0 (JF H0)) [(0,x0),(5,x5),(10,x10),(11,x11)] H
def SJ:Z4:=
 Z0 (IK p1 H) fun g=>
 Z0 (Zk (.slice 5) g.1) fun h=>
 JG p0 g.1 h (zA J 0) H g.2
theorem ZaP:Eo x5 H0 H =
 Z0 (UG x5 H) fun g=>
 some (g,H):=Z9 [4,6,7]
theorem ZaR:Er x0 x5 x10 x11 H0 H =
 Z0 (Z5 .add x11 (zA J 1)) fun g=>
 JG x0 x5 x10 g H0 H:=Z9 [4,6,7]
theorem ZaQ:Ep x0 x5 x10 x11 x12 H0 H =
 Z0 (Zo 1 x5 x11) fun h=>
 Z0 (Z3 false 1 h H) fun j=>
 Z0 (Zx x0 j) fun u=>
 Z0 (Zo 1 x5 x11) fun w=>
 Z0 (Zb 1 w u H) fun g=>
 Er x0 x5 x10 x11 H0 g.2:=Z9 [4,6,7]
theorem Tv:JG x0 x5 x10 x11 H0 H =
 Z0 (Z5 .lss x11 x10) fun g=>
 Zj g
 (Ep x0 x5 x10 x11 g H0 H)
 (Eo x5 H0 H):=(ZC (C:=cfg) [4,6,7] (Zn 0 (AQ H0)) _ _).trans (by kernel_rfl)
theorem Zbt:FY [p0,p1] H=SJ p0 p1 H:=Be 26 [4,6,7] Tryz.func155
def Pj:Z4:=aa 173 54 Tryz.f173 [1,1] H0 [(0,x0)] H
def GN:KL:=Zc (WH 173 54 Tryz.f173 [1,1]) (Zg cfg 54 173 Tryz.f173 H0)
theorem ZaS:ZR 54 (GN H0):=Zw (C:=cfg) (kp:=cfg.keep 173) (sub (Z1 Tryz.f173) [1,1]) (ZB 173 Tryz.f173 H0)
def Pl:Z4:=ZD 173 54 (sub (Z1 Tryz.f173) [1,0,1,0,0,1,1,1]) (Zc (Yf 173 54 Tryz.f173 [1,0,1,0,0]) (Z6 0 (GN H0))) [(0,x0),(7,x7),(8,x8)] H
def Pk:Z4:=ZD 173 54 (sub (Z1 Tryz.f173) [1,0,1,0,0,1,1]) (Zc (Yf 173 54 Tryz.f173 [1,0,1,0,0]) (Z6 0 (GN H0))) [(0,x0),(7,x7),(8,x8),(9,x9)] H
def GO:Z4:=Vx 173 54 (sub (Z1 Tryz.f173) [1,0,1,0,0]) (Z6 0 (GN H0)) [(0,x0),(7,x7),(8,x8)] H
def Za2:Z4:=
 Z0 (Zk .string p0) fun g=>
 GO p0 g (zA J 0) H H
theorem Zee:Pj x0 H0 H =
 Z0 (Yr .neq x0 (.str [])) fun g=>
 Z0 (Z8 g true ak (some x0)) fun h=>
 Z0 (Z8 g true ak (Zk .string h)) fun j=>
 Z0 (Z8 g true ak (Z5 .leq j (zA J 32))) fun u=>
 Z0 (Zi g u (.bool false)) fun w=>
 some (w,H):=Z9 [3,8,9]
theorem Mx:Pl x0 x7 x8 H0 H =
 Z0 (Z5 .add x8 (zA J 1)) fun g=>
 GO x0 x7 g H0 H:=Z9 [3,8,9]
theorem Zef:Pk x0 x7 x8 x9 H0 H =
 Z0 (Zx x0 x8) fun g=>
 Z0 (Z5 .eql g (.int .u8 95)) fun j=>
 Z0 (Z8 j false ak (some g)) fun A=>
 Z0 (Z8 j false ak (Z5 .geq A (.int .u8 97))) fun B=>
 Z0 (Z8 j false ak (some B)) fun w=>
 Z0 (Z8 w true ak (some g)) fun C=>
 Z0 (Z8 w true ak (Z5 .leq C (.int .u8 122))) fun D=>
 Z0 (Z8 j false ak (Zi w D (.bool false))) fun E=>
 Z0 (Zi j (.bool true) E) fun u=>
 Z0 (Z8 u false ak (some g)) fun F=>
 Z0 (Z8 u false ak (Z5 .geq F (.int .u8 65))) fun K=>
 Z0 (Z8 u false ak (some K)) fun y=>
 Z0 (Z8 y true ak (some g)) fun L=>
 Z0 (Z8 y true ak (Z5 .leq L (.int .u8 90))) fun M=>
 Z0 (Z8 u false ak (Zi y M (.bool false))) fun N=>
 Z0 (Zi u (.bool true) N) fun O=>
 Z0 (Xv .not O) fun h=>
 Z0 (Z8 h true ak (some x8)) fun Q=>
 Z0 (Z8 h true ak (Z5 .eql Q (zA J 0))) fun R=>
 Z0 (Z8 h true ak (some R)) fun t37=>
 Z0 (Z8 t37 false ak (some g)) fun S=>
 Z0 (Z8 t37 false ak (Z5 .lss S (.int .u8 48))) fun T=>
 Z0 (Z8 h true ak (Zi t37 (.bool true) T)) fun U=>
 Z0 (Z8 h true ak (some U)) fun z=>
 Z0 (Z8 z false ak (some g)) fun V=>
 Z0 (Z8 z false ak (Z5 .gtr V (.int .u8 57))) fun W=>
 Z0 (Z8 h true ak (Zi z (.bool true) W)) fun X=>
 Z0 (Zi h X (.bool false)) fun Y=>
 Zj Y
 (some ((.bool false),H))
 (Pl x0 x7 x8 H0 H):=Z9 [3,8,9]
theorem QJ:GO x0 x7 x8 H0 H =
 Z0 (Z5 .lss x8 x7) fun t9=>
 Zj t9
 (Pk x0 x7 x8 t9 H0 H)
 (Pj x0 H0 H):=(ZC (C:=cfg) [3,8,9] (Zn 0 (ZaS H0)) _ _).trans (by kernel_rfl)
theorem Zfa:K4 [p0] H=Za2 p0 H:=Be 54 [3,8,9] Tryz.func173
def DA:Z4:=aa 174 28 Tryz.f174 [1,1,1,1] H0 [] H
def XQ:KL:=Zc (WH 174 28 Tryz.f174 [1,1,1,1]) (Zg cfg 28 174 Tryz.f174 H0)
theorem Nl:ZR 28 (XQ H0):=Zw (C:=cfg) (kp:=cfg.keep 174) (sub (Z1 Tryz.f174) [1,1,1,1]) (ZB 174 Tryz.f174 H0)
def DC:Z4:=ZD 174 28 (sub (Z1 Tryz.f174) [1,1,1,0,1,0,0,1,1,1]) (Zc (Yf 174 28 Tryz.f174 [1,1,1,0,1,0,0]) (Z6 0 (XQ H0))) [(3,x3),(10,x10),(11,x11),(12,x12)] H
def DF:KL:=Zc (WH 174 28 Tryz.f174 [1,1,1,0,1,0,0,1,1,1]) (Zc (Yf 174 28 Tryz.f174 [1,1,1,0,1,0,0]) (Z6 0 (XQ H0)))
def DE:Z4:=ZD 174 28 (sub (Z1 Tryz.f174) [1,1,1,0,1,0,0,1,1,0,0,1,1,1]) (Z6 1 (DF H0)) [(3,x3),(5,x5),(10,x10),(11,x11),(12,x12)] H
def DD:Z4:=ZD 174 28 (sub (Z1 Tryz.f174) [1,1,1,0,1,0,0,1,1,0,0,1,1]) (Z6 1 (DF H0)) [(3,x3),(5,x5),(10,x10),(11,x11),(12,x12)] H
def DB:Z4:=ZD 174 28 (sub (Z1 Tryz.f174) [1,1,1,0,1,0,0,1,1]) (Zc (Yf 174 28 Tryz.f174 [1,1,1,0,1,0,0]) (Z6 0 (XQ H0))) [(3,x3),(10,x10),(11,x11),(12,x12),(13,x13)] H
def Vd:Z4:=Vx 174 28 (sub (Z1 Tryz.f174) [1,1,1,0,1,0,0]) (Z6 0 (XQ H0)) [(3,x3),(10,x10),(11,x11),(12,x12)] H
def Dz:Z4:=aa 174 28 Tryz.f174 [1,1] H0 [(0,x0)] H
def FA:Z4:=
 Z0 (Zk (.slice 246) p0) fun g=>
 Z0 (Z5 .gtr g (zA J 24)) fun h=>
 Zj h
 (some ((zA J 3),H))
 (Dz p0 H H)
theorem La:DA H0 H =
 some ((zA J 0),H):=Z9 ar
theorem Lc:DC x3 x10 x11 x12 H0 H =
 Z0 (Z5 .add x12 (zA J 1)) fun g=>
 Vd x3 x10 x11 g H0 H:=Z9 ar
theorem Lf:DE x3 x5 x10 x11 x12 H0 H =
 Z0 (Z7 0 x5) fun h=>
 Z0 (Z3 false 1 h H) fun j=>
 Z0 (Xq .string x3 j (.bool true) H) fun g=>
 DC x3 x10 x11 x12 H0 g.2:=Z9 ar
theorem Ld:DD x3 x5 x10 x11 x12 H0 H =
 Z0 (Z7 0 x5) fun g=>
 Z0 (Z3 false 1 g H) fun h=>
 Z0 (Y9 .string (.bool false) false x3 h H) fun j=>
 Zj j
 (some ((zA J 6),H))
 (DE x3 x5 x10 x11 x12 H0 H):=Z9 ar
theorem Lb:DB x3 x10 x11 x12 x13 H0 H =
 Z0 (Zo 5 x10 x12) fun u=>
 Z0 (Z3 true 5 u H) fun w=>
 Z0 (some ((.ptr H.length 0),H++[.cells [(.str []),(.int .u64 0),(.int .u64 0),(.int .u64 0),(.int .u64 0)]])) fun j=>
 Z0 (Zb 5 j.1 w j.2) fun h=>
 Z0 (Z7 0 j.1) fun y=>
 Z0 (Z3 false 1 y h.2) fun z=>
 Z0 (Zf K4 [z] h.2) fun g=>
 Z0 (Xv .not g.1) fun A=>
 Zj A
 (some ((zA J 4),g.2))
 (DD x3 j.1 x10 x11 x12 H0 g.2):=Z9 ar
theorem KY:Vd x3 x10 x11 x12 H0 H =
 Z0 (Z5 .lss x12 x11) fun g=>
 Zj g
 (DB x3 x10 x11 x12 g H0 H)
 (DA H0 H):=(ZC (C:=cfg) [3,6,9,11,12,13] (Zn 0 (Nl H0)) _ _).trans (by kernel_rfl)
theorem L9:Dz x0 H0 H =
 Z0 (some ((.map H.length),H++[.map [] 0])) fun h=>
 Z0 (Zk (.slice 246) x0) fun g=>
 Vd h.1 x0 g (zA J 0) H0 h.2:=Z9 ar
theorem LH:Vm [p0] H=FA p0 H:=Be 28 [3,6,9,11,12,13] Tryz.func174
def Bq:Z4:=aa 175 38 Tryz.f175 [1,1,1,1] H0 [] H
def XA:KL:=Zc (WH 175 38 Tryz.f175 [1,1,1,1]) (Zg cfg 38 175 Tryz.f175 H0)
theorem Ph:ZR 38 (XA H0):=Zw (C:=cfg) (kp:=cfg.keep 175) (sub (Z1 Tryz.f175) [1,1,1,1]) (ZB 175 Tryz.f175 H0)
def Bt:Z4:=ZD 175 38 (sub (Z1 Tryz.f175) [1,1,1,0,1,0,0,1,1,1]) (Zc (Yf 175 38 Tryz.f175 [1,1,1,0,1,0,0]) (Z6 0 (XA H0))) [(3,x3),(10,x10),(11,x11),(12,x12)] H
def Bw:KL:=Zc (WH 175 38 Tryz.f175 [1,1,1,0,1,0,0,1,1,1]) (Zc (Yf 175 38 Tryz.f175 [1,1,1,0,1,0,0]) (Z6 0 (XA H0)))
def Bv:Z4:=ZD 175 38 (sub (Z1 Tryz.f175) [1,1,1,0,1,0,0,1,1,0,0,1,1,1]) (Z6 1 (Bw H0)) [(3,x3),(5,x5),(10,x10),(11,x11),(12,x12)] H
def Bu:Z4:=ZD 175 38 (sub (Z1 Tryz.f175) [1,1,1,0,1,0,0,1,1,0,0,1,1]) (Z6 1 (Bw H0)) [(3,x3),(5,x5),(10,x10),(11,x11),(12,x12)] H
def Br:Z4:=ZD 175 38 (sub (Z1 Tryz.f175) [1,1,1,0,1,0,0,1,1]) (Zc (Yf 175 38 Tryz.f175 [1,1,1,0,1,0,0]) (Z6 0 (XA H0))) [(3,x3),(10,x10),(11,x11),(12,x12),(13,x13)] H
def WN:Z4:=Vx 175 38 (sub (Z1 Tryz.f175) [1,1,1,0,1,0,0]) (Z6 0 (XA H0)) [(3,x3),(10,x10),(11,x11),(12,x12)] H
def Bp:Z4:=aa 175 38 Tryz.f175 [1,1] H0 [(0,x0)] H
def Dh:Z4:=
 Z0 (Zk (.slice 189) p0) fun g=>
 Z0 (Z5 .gtr g (zA J 64)) fun h=>
 Zj h
 (some ((zA J 3),H))
 (Bp p0 H H)
theorem NS:Bq H0 H =
 some ((zA J 0),H):=Z9 ar
theorem NU:Bt x3 x10 x11 x12 H0 H =
 Z0 (Z5 .add x12 (zA J 1)) fun t37=>
 WN x3 x10 x11 t37 H0 H:=Z9 ar
theorem NW:Bv x3 x5 x10 x11 x12 H0 H =
 Z0 (Z7 0 x5) fun h=>
 Z0 (Z3 false 1 h H) fun j=>
 Z0 (Xq .string x3 j (.bool true) H) fun g=>
 Bt x3 x10 x11 x12 H0 g.2:=Z9 ar
theorem NV:Bu x3 x5 x10 x11 x12 H0 H =
 Z0 (Z7 0 x5) fun g=>
 Z0 (Z3 false 1 g H) fun h=>
 Z0 (Y9 .string (.bool false) false x3 h H) fun j=>
 Zj j
 (some ((zA J 6),H))
 (Bv x3 x5 x10 x11 x12 H0 H):=Z9 ar
theorem NT:Br x3 x10 x11 x12 x13 H0 H =
 Z0 (Zo 2 x10 x12) fun w=>
 Z0 (Z3 true 2 w H) fun y=>
 Z0 (some ((.ptr H.length 0),H++[.cells [(.str []),(zA J 0)]])) fun u=>
 Z0 (Zb 2 u.1 y u.2) fun g=>
 Z0 (Z7 0 u.1) fun z=>
 Z0 (Z3 false 1 z g.2) fun A=>
 Z0 (Zk .string A) fun B=>
 Z0 (Z5 .neq B (zA J 2)) fun h=>
 Z0 (Z8 h false ak (Z7 1 u.1)) fun C=>
 Z0 (Z8 h false ak (Z3 false 1 C g.2)) fun D=>
 Z0 (Z8 h false ak (Z5 .lss D (zA J 0))) fun E=>
 Z0 (Zi h (.bool true) E) fun j=>
 Z0 (Z8 j false ak (Z7 1 u.1)) fun F=>
 Z0 (Z8 j false ak (Z3 false 1 F g.2)) fun K=>
 Z0 (Z8 j false ak (Z5 .gtr K (zA J 65535))) fun L=>
 Z0 (Zi j (.bool true) L) fun M=>
 Zj M
 (some ((zA J 2),g.2))
 (Bu x3 u.1 x10 x11 x12 H0 g.2):=Z9 ar
theorem Kd:WN x3 x10 x11 x12 H0 H =
 Z0 (Z5 .lss x12 x11) fun g=>
 Zj g
 (Br x3 x10 x11 x12 g H0 H)
 (Bq H0 H):=(ZC (C:=cfg) [3,6,9,11,12,13] (Zn 0 (Ph H0)) _ _).trans (by kernel_rfl)
theorem NR:Bp x0 H0 H =
 Z0 (some ((.map H.length),H++[.map [] 0])) fun h=>
 Z0 (Zk (.slice 189) x0) fun g=>
 WN h.1 x0 g (zA J 0) H0 h.2:=Z9 ar
theorem ML:V6 [p0] H=Dh p0 H:=Be 38 [3,6,9,11,12,13] Tryz.func175
def My:Z4:=aa 176 40 Tryz.f176 [1,1,1] H0 [(7,x7)] H
def QK:KL:=Zc (WH 176 40 Tryz.f176 [1,1,1]) (Zg cfg 40 176 Tryz.f176 H0)
theorem HO:ZR 40 (QK H0):=Zw (C:=cfg) (kp:=cfg.keep 176) (sub (Z1 Tryz.f176) [1,1,1]) (ZB 176 Tryz.f176 H0)
def D5:Z4:=ZD 176 40 (sub (Z1 Tryz.f176) [1,1,0,1,0,0,1,1,1]) (Zc (Yf 176 40 Tryz.f176 [1,1,0,1,0,0]) (Z6 0 (QK H0))) [(0,x0),(1,x1),(2,x2),(7,x7),(11,x11),(12,x12)] H
def Mz:Z4:=ZD 176 40 (sub (Z1 Tryz.f176) [1,1,0,1,0,0,1,1]) (Zc (Yf 176 40 Tryz.f176 [1,1,0,1,0,0]) (Z6 0 (QK H0))) [(0,x0),(1,x1),(2,x2),(7,x7),(11,x11),(12,x12),(13,x13)] H
def QL:Z4:=Vx 176 40 (sub (Z1 Tryz.f176) [1,1,0,1,0,0]) (Z6 0 (QK H0)) [(0,x0),(1,x1),(2,x2),(7,x7),(11,x11),(12,x12)] H
def LI:Z4:=
 Z0 (Js 1 1 false (.int .u8 0) (zA J 256) (zA J 256) H) fun g=>
 Z0 (Zk (.slice 5) g.1) fun h=>
 QL p0 p1 p2 g.1 h (zA J 0) H g.2
theorem Ov:My x7 H0 H =
 Z0 (UG x7 H) fun g=>
 some (g,H):=Z9 ap
theorem Ox:D5 x0 x1 x2 x7 x11 x12 H0 H =
 Z0 (Z5 .add x12 (zA J 1)) fun t37=>
 QL x0 x1 x2 x7 x11 t37 H0 H:=Z9 ap
theorem Ow:Mz x0 x1 x2 x7 x11 x12 x13 H0 H =
 Z0 (Yv .u8 x12) fun u=>
 Z0 (Zo 1 x7 x12) fun w=>
 Z0 (Zb 1 w u H) fun j=>
 Z0 (Yv .u8 x12) fun y=>
 Z0 (Z5 .geq y x0) fun g=>
 Z0 (Z8 g true ak (some x12)) fun z=>
 Z0 (Z8 g true ak (Yv .u8 z)) fun A=>
 Z0 (Z8 g true ak (some x1)) fun B=>
 Z0 (Z8 g true ak (Z5 .leq A B)) fun C=>
 Z0 (Zi g C (.bool false)) fun D=>
 Zj D
 (Z0 (Z5 .add x12 x2) fun E=>
 Z0 (Yv .u8 E) fun F=>
 Z0 (Zo 1 x7 x12) fun K=>
 Z0 (Zb 1 K F j.2) fun h=>
 D5 x0 x1 x2 x7 x11 x12 H0 h.2)
 (D5 x0 x1 x2 x7 x11 x12 H0 j.2):=Z9 ap
theorem Oy:QL x0 x1 x2 x7 x11 x12 H0 H =
 Z0 (Z5 .lss x12 x11) fun g=>
 Zj g
 (Mz x0 x1 x2 x7 x11 x12 g H0 H)
 (My x7 H0 H):=(ZC (C:=cfg) [4,8,9] (Zn 0 (HO H0)) _ _).trans (by kernel_rfl)
theorem ZaC:WX [p0,p1,p2] H=LI p0 p1 p2 H:=Be 40 [4,8,9] Tryz.func176
def To:Z4:=aa 178 23 Tryz.f178 [1,1,1] H0 [(3,x3)] H
def Uv:KL:=Zc (WH 178 23 Tryz.f178 [1,1,1]) (Zg cfg 23 178 Tryz.f178 H0)
theorem E6:ZR 23 (Uv H0):=Zw (C:=cfg) (kp:=cfg.keep 178) (sub (Z1 Tryz.f178) [1,1,1]) (ZB 178 Tryz.f178 H0)
def KB:Z4:=ZD 178 23 (sub (Z1 Tryz.f178) [1,1,0,1,0,0,1,1,1]) (Zc (Yf 178 23 Tryz.f178 [1,1,0,1,0,0]) (Z6 0 (Uv H0))) [(0,x0),(3,x3),(5,x5)] H
def Tp:Z4:=ZD 178 23 (sub (Z1 Tryz.f178) [1,1,0,1,0,0,1,1]) (Zc (Yf 178 23 Tryz.f178 [1,1,0,1,0,0]) (Z6 0 (Uv H0))) [(0,x0),(3,x3),(5,x5),(6,x6)] H
def Uw:Z4:=Vx 178 23 (sub (Z1 Tryz.f178) [1,1,0,1,0,0]) (Z6 0 (Uv H0)) [(0,x0),(3,x3),(5,x5)] H
def Zbo:Z4:=
 Uw p0 (zA J 0) (zA J 0) H H
theorem HG:To x3 H0 H =
 some (x3,H):=Z9 ap
theorem Dp:KB x0 x3 x5 H0 H =
 Z0 (Z5 .add x5 (zA J 1)) fun g=>
 Uw x0 x3 g H0 H:=Z9 ap
theorem HH:Tp x0 x3 x5 x6 H0 H =
 Z0 (Z5 .mul x3 (zA J 10)) fun t9=>
 Z0 (Zk .string x0) fun g=>
 Z0 (Z5 .lss x5 g) fun h=>
 Zj h
 (Z0 (Zx x0 x5) fun j=>
 Z0 (Z5 .sub j (.int .u8 48)) fun u=>
 Z0 (Yv .i64 u) fun w=>
 Z0 (Z5 .add t9 w) fun y=>
 KB x0 y x5 H0 H)
 (KB x0 t9 x5 H0 H):=Z9 ap
theorem Dq:Uw x0 x3 x5 H0 H =
 Z0 (Z5 .lss x5 (zA J 4)) fun g=>
 Zj g
 (Tp x0 x3 x5 g H0 H)
 (To x3 H0 H):=(ZC (C:=cfg) [4,8,9] (Zn 0 (E6 H0)) _ _).trans (by kernel_rfl)
theorem Ab:Ga [p0] H=Zbo p0 H:=Be 23 [4,8,9] Tryz.func178
def ZbQ:Z4:=aa 184 8 Tryz.f184 [1,1] H0 [(1,x1),(2,x2)] H
def Hg:Z4:=
 Z0 (ZN p0 H) fun j=>
 Z0 (some ((.ptr j.2.length 0),j.2++[.cells [(.str []),.nils,(.str []),(.str []),.nils,.nils]])) fun h=>
 Z0 (Z3 true 6 j.1 h.2) fun t3=>
 Z0 (Zf PA [t3] h.2) fun u=>
 Z0 (Z5 .neq u.1 (zA J 0)) fun t5=>
 Zj t5
 (Z0 (Zf UN [] u.2) fun w=>
 Z0 (Zb 6 h.1 w.1 w.2) fun g=>
 Z0 (Z3 true 6 h.1 g.2) fun y=>
 some (y,g.2))
 (ZbQ j.1 h.1 H u.2)
theorem Zgp:ZbQ x1 x2 H0 H =
 Z0 (Z3 true 6 x1 H) fun h=>
 Z0 (Zb 6 x2 h H) fun g=>
 Z0 (Z3 true 6 x2 g.2) fun j=>
 some (j,g.2):=Z9 [3]
theorem Aa:De [p0] H=Hg p0 H:=Be 8 [3] Tryz.func184
def ZbK:Z4:=aa 202 43 Tryz.f202 [1,1,1,1,1,1] H0 [(1,x1)] H
def ZbJ:Z4:=aa 202 43 Tryz.f202 [1,1,1,1,1] H0 [(1,x1)] H
def ZbI:Z4:=aa 202 43 Tryz.f202 [1,1,1,1] H0 [(1,x1)] H
def R9:KL:=Zc (WH 202 43 Tryz.f202 [1,1,1,1]) (Zg cfg 43 202 Tryz.f202 H0)
theorem ZdY:ZR 43 (R9 H0):=Zw (C:=cfg) (kp:=cfg.keep 202) (sub (Z1 Tryz.f202) [1,1,1,1]) (ZB 202 Tryz.f202 H0)
def ZbM:Z4:=ZD 202 43 (sub (Z1 Tryz.f202) [1,1,1,0,1,0,0,1,1]) (Zc (Yf 202 43 Tryz.f202 [1,1,1,0,1,0,0]) (Z6 0 (R9 H0))) [(1,x1),(3,x3)] H
def ZbL:Z4:=ZD 202 43 (sub (Z1 Tryz.f202) [1,1,1,0,1,0,0,1]) (Zc (Yf 202 43 Tryz.f202 [1,1,1,0,1,0,0]) (Z6 0 (R9 H0))) [(1,x1),(3,x3)] H
def Ra:Z4:=Vx 202 43 (sub (Z1 Tryz.f202) [1,1,1,0,1,0,0]) (Z6 0 (R9 H0)) [(1,x1),(3,x3)] H
def ZbH:Z4:=aa 202 43 Tryz.f202 [1,1,1] H0 [(1,x1)] H
def ZbG:Z4:=aa 202 43 Tryz.f202 [1,1] H0 [(1,x1)] H
def Zeo:Z4:=
 Z0 (ZN p0 H) fun g=>
 Z0 (Z7 0 g.1) fun t5=>
 Z0 (Z3 false 1 t5 g.2) fun j=>
 Z0 (Zf G9 [j] g.2) fun h=>
 Z0 (Xv .not h.1) fun u=>
 Zj u
 (some ((zA J 4),h.2))
 (ZbG g.1 H h.2)
theorem Zgm:ZbK x1 H0 H =
 Z0 (Z7 5 x1) fun h=>
 Z0 (Z3 false 1 h H) fun j=>
 Z0 (Zf Up [j] H) fun g=>
 some (g.1,g.2):=Z9 au
theorem Zgl:ZbJ x1 H0 H =
 Z0 (Z7 4 x1) fun h=>
 Z0 (Z3 false 1 h H) fun j=>
 Z0 (Zf UT [j] H) fun g=>
 Z0 (Z5 .neq g.1 (zA J 0)) fun u=>
 Zj u
 (some (g.1,g.2))
 (ZbK x1 H0 g.2):=Z9 au
theorem Zgk:ZbI x1 H0 H =
 Z0 (Z7 2 x1) fun h=>
 Z0 (Z3 false 1 h H) fun j=>
 Z0 (Zk .string j) fun u=>
 Z0 (Z5 .neq u (zA J 256)) fun g=>
 Z0 (Z8 g false ak (Z7 3 x1)) fun w=>
 Z0 (Z8 g false ak (Z3 false 1 w H)) fun y=>
 Z0 (Z8 g false ak (Zk .string y)) fun z=>
 Z0 (Z8 g false ak (Z5 .neq z (zA J 256))) fun A=>
 Z0 (Zi g (.bool true) A) fun B=>
 Zj B
 (some ((zA J 2),H))
 (ZbJ x1 H0 H):=Z9 au
theorem Zgo:ZbM x1 x3 H0 H =
 Z0 (Z5 .add x3 (zA J 1)) fun g=>
 Ra x1 g H0 H:=Z9 au
theorem Zgn:ZbL x1 x3 H0 H =
 Z0 (Z7 1 x1) fun h=>
 Z0 (Z3 false 1 h H) fun j=>
 Z0 (Zo 1 j x3) fun u=>
 Z0 (Z3 false 1 u H) fun w=>
 Z0 (Zf Dd [w] H) fun g=>
 Z0 (Xv .not g.1) fun y=>
 Zj y
 (some ((zA J 2),g.2))
 (ZbM x1 x3 H0 g.2):=Z9 au
theorem SU:Ra x1 x3 H0 H =
 Z0 (Z5 .lss x3 (zA J 256)) fun g=>
 Zj g
 (ZbL x1 x3 H0 H)
 (ZbI x1 H0 H):=(ZC (C:=cfg) [3,5,7,8,10,12,15] (Zn 0 (ZdY H0)) _ _).trans (by kernel_rfl)
theorem Zgj:ZbH x1 H0 H =
 Ra x1 (zA J 0) H0 H:=Z9 au
theorem Zgi:ZbG x1 H0 H =
 Z0 (Z7 1 x1) fun t9=>
 Z0 (Z3 false 1 t9 H) fun g=>
 Z0 (Zk (.slice 3) g) fun h=>
 Z0 (Z5 .neq h (zA J 256)) fun j=>
 Zj j
 (some ((zA J 2),H))
 (ZbH x1 H0 H):=Z9 au
theorem Zi2:PA [p0] H=Zeo p0 H:=Be 43 [3,5,7,8,10,12,15] Tryz.func202
def Zep:Z4:=
 Z0 (ZN p0 H) fun g=>
 Z0 (Z3 true 6 g.1 g.2) fun t5=>
 Z0 (Zf De [t5] g.2) fun h=>
 Z0 (Lr false 1 3 h.1) fun u=>
 Z0 (Zf Lv [u,p1] h.2) fun j=>
 some (j.1,j.2)
theorem Zi3:Zel [p0,p1] H=Zep p0 p1 H:=Be 10 [] Tryz.func207
def Za7:Z4:=aa 213 59 Tryz.f213 [1,1,1] H0 [] H
def DV:KL:=Zc (WH 213 59 Tryz.f213 [1,1,1]) (Zg cfg 59 213 Tryz.f213 H0)
theorem ZbO:ZR 59 (DV H0):=Zw (C:=cfg) (kp:=cfg.keep 213) (sub (Z1 Tryz.f213) [1,1,1]) (ZB 213 Tryz.f213 H0)
def NC:Z4:=ZD 213 59 (sub (Z1 Tryz.f213) [1,1,0,1,0,0,1,1]) (Zc (Yf 213 59 Tryz.f213 [1,1,0,1,0,0]) (Z6 0 (DV H0))) [(0,x0),(3,x3)] H
def NB:Z4:=ZD 213 59 (sub (Z1 Tryz.f213) [1,1,0,1,0,0,1]) (Zc (Yf 213 59 Tryz.f213 [1,1,0,1,0,0]) (Z6 0 (DV H0))) [(0,x0),(3,x3)] H
def DW:Z4:=Vx 213 59 (sub (Z1 Tryz.f213) [1,1,0,1,0,0]) (Z6 0 (DV H0)) [(0,x0),(3,x3)] H
def Za6:Z4:=aa 213 59 Tryz.f213 [1,1] H0 [(0,x0)] H
def Zbm:Z4:=
 Z0 (Zk .string p0) fun K=>
 Z0 (Z5 .eql K (zA J 0)) fun j=>
 Z0 (Z8 j false ak (some p0)) fun t9=>
 Z0 (Z8 j false ak (Zk .string t9)) fun u=>
 Z0 (Z8 j false ak (Z5 .gtr u (zA J 32))) fun w=>
 Z0 (Zi j (.bool true) w) fun g=>
 Z0 (Z8 g false ak (some p0)) fun y=>
 Z0 (Z8 g false ak (Zx y (zA J 0))) fun z=>
 Z0 (Z8 g false ak (Z5 .geq z (.int .u8 48))) fun A=>
 Z0 (Z8 g false ak (some A)) fun h=>
 Z0 (Z8 h true ak (some p0)) fun B=>
 Z0 (Z8 h true ak (Zx B (zA J 0))) fun C=>
 Z0 (Z8 h true ak (Z5 .leq C (.int .u8 57))) fun D=>
 Z0 (Z8 g false ak (Zi h D (.bool false))) fun E=>
 Z0 (Zi g (.bool true) E) fun F=>
 Zj F
 (some ((.bool false),H))
 (Za6 p0 H H)
theorem Zfe:Za7 H0 H =
 some ((.bool true),H):=Z9 [3,5,6,9]
theorem Zfg:NC x0 x3 H0 H =
 Z0 (Z5 .add x3 (zA J 1)) fun g=>
 DW x0 g H0 H:=Z9 [3,5,6,9]
theorem Zff:NB x0 x3 H0 H =
 Z0 (Zx x0 x3) fun g=>
 Z0 (Z5 .geq g (.int .u8 97)) fun j=>
 Z0 (Z8 j true ak (some g)) fun z=>
 Z0 (Z8 j true ak (Z5 .leq z (.int .u8 122))) fun A=>
 Z0 (Zi j A (.bool false)) fun t37=>
 Z0 (Z8 t37 false ak (some g)) fun B=>
 Z0 (Z8 t37 false ak (Z5 .geq B (.int .u8 65))) fun C=>
 Z0 (Z8 t37 false ak (some C)) fun u=>
 Z0 (Z8 u true ak (some g)) fun D=>
 Z0 (Z8 u true ak (Z5 .leq D (.int .u8 90))) fun E=>
 Z0 (Z8 t37 false ak (Zi u E (.bool false))) fun F=>
 Z0 (Zi t37 (.bool true) F) fun h=>
 Z0 (Z8 h false ak (some g)) fun K=>
 Z0 (Z8 h false ak (Z5 .geq K (.int .u8 48))) fun L=>
 Z0 (Z8 h false ak (some L)) fun w=>
 Z0 (Z8 w true ak (some g)) fun M=>
 Z0 (Z8 w true ak (Z5 .leq M (.int .u8 57))) fun N=>
 Z0 (Z8 h false ak (Zi w N (.bool false))) fun O=>
 Z0 (Zi h (.bool true) O) fun y=>
 Z0 (Z8 y false ak (some g)) fun Q=>
 Z0 (Z8 y false ak (Z5 .eql Q (.int .u8 95))) fun R=>
 Z0 (Zi y (.bool true) R) fun S=>
 Z0 (Xv .not S) fun T=>
 Zj T
 (some ((.bool false),H))
 (NC x0 x3 H0 H):=Z9 [3,5,6,9]
theorem LU:DW x0 x3 H0 H =
 Z0 (Zk .string x0) fun g=>
 Z0 (Z5 .lss x3 g) fun h=>
 Zj h
 (NB x0 x3 H0 H)
 (Za7 H0 H):=(ZC (C:=cfg) [3,5,6,9] (Zn 0 (ZbO H0)) _ _).trans (by kernel_rfl)
theorem Zfd:Za6 x0 H0 H =
 DW x0 (zA J 0) H0 H:=Z9 [3,5,6,9]
theorem Zg5:G9 [p0] H=Zbm p0 H:=Be 59 [3,5,6,9] Tryz.func213
def Zeq:Z4:=
 Z0 (Z5 .geq p0 (zA J 0)) fun t4=>
 Z0 (Z8 t4 true ak (some p0)) fun g=>
 Z0 (Z8 t4 true ak (Z5 .leq g (zA J 65535))) fun h=>
 Z0 (Zi t4 h (.bool false)) fun j=>
 some (j,H)
theorem Zi4:Dd [p0] H=Zeq p0 H:=Be 9 [] Tryz.func214
def Ti:Z4:=aa 215 37 Tryz.f215 [1,1,1] H0 [] H
def WU:KL:=Zc (WH 215 37 Tryz.f215 [1,1,1]) (Zg cfg 37 215 Tryz.f215 H0)
theorem Gi:ZR 37 (WU H0):=Zw (C:=cfg) (kp:=cfg.keep 215) (sub (Z1 Tryz.f215) [1,1,1]) (ZB 215 Tryz.f215 H0)
def KA:Z4:=ZD 215 37 (sub (Z1 Tryz.f215) [1,1,0,1,0,0,1,1]) (Zc (Yf 215 37 Tryz.f215 [1,1,0,1,0,0]) (Z6 0 (WU H0))) [(0,x0),(3,x3)] H
def WV:KL:=Zc (WH 215 37 Tryz.f215 [1,1,0,1,0,0,1,1]) (Zc (Yf 215 37 Tryz.f215 [1,1,0,1,0,0]) (Z6 0 (WU H0)))
theorem LV:ZR 37 (WV H0):=Zw (C:=cfg) (kp:=cfg.keep 215) (sub (Z1 Tryz.f215) [1,1,0,1,0,0,1,1]) (CS (C:=cfg) (kp:=cfg.keep 215) (sub (Z1 Tryz.f215) [1,1,0,1,0,0]) (Zn 0 (Gi H0)))
def Tn:Z4:=ZD 215 37 (sub (Z1 Tryz.f215) [1,1,0,1,0,0,1,0,0,1,1,0,0,1,1]) (Zc (Yf 215 37 Tryz.f215 [1,1,0,1,0,0,1,0,0,1,1,0,0]) (Z6 2 (Z6 1 (WV H0)))) [(0,x0),(3,x3),(4,x4)] H
def Tm:Z4:=ZD 215 37 (sub (Z1 Tryz.f215) [1,1,0,1,0,0,1,0,0,1,1,0,0,1]) (Zc (Yf 215 37 Tryz.f215 [1,1,0,1,0,0,1,0,0,1,1,0,0]) (Z6 2 (Z6 1 (WV H0)))) [(0,x0),(3,x3),(4,x4)] H
def Ut:Z4:=Vx 215 37 (sub (Z1 Tryz.f215) [1,1,0,1,0,0,1,0,0,1,1,0,0]) (Z6 2 (Z6 1 (WV H0))) [(0,x0),(3,x3),(4,x4)] H
def Tl:Z4:=ZD 215 37 (sub (Z1 Tryz.f215) [1,1,0,1,0,0,1,0,0,1]) (Z6 1 (WV H0)) [(0,x0),(3,x3)] H
def Tj:Z4:=ZD 215 37 (sub (Z1 Tryz.f215) [1,1,0,1,0,0,1]) (Zc (Yf 215 37 Tryz.f215 [1,1,0,1,0,0]) (Z6 0 (WU H0))) [(0,x0),(3,x3)] H
def Us:Z4:=Vx 215 37 (sub (Z1 Tryz.f215) [1,1,0,1,0,0]) (Z6 0 (WU H0)) [(0,x0),(3,x3)] H
def Th:Z4:=aa 215 37 Tryz.f215 [1,1] H0 [(0,x0)] H
def PR:Z4:=
 Z0 (Zk (.slice 246) p0) fun g=>
 Z0 (Z5 .gtr g (zA J 24)) fun h=>
 Zj h
 (some ((zA J 3),H))
 (Th p0 H H)
theorem Hq:Ti H0 H =
 some ((zA J 0),H):=Z9 aw
theorem Hs:KA x0 x3 H0 H =
 Z0 (Z5 .add x3 (zA J 1)) fun g=>
 Us x0 g H0 H:=Z9 aw
theorem Hv:Tn x0 x3 x4 H0 H =
 Z0 (Z5 .add x4 (zA J 1)) fun g=>
 Ut x0 x3 g H0 H:=Z9 aw
theorem Hu:Tm x0 x3 x4 H0 H =
 Z0 (Zo 5 x0 x4) fun g=>
 Z0 (Z7 0 g) fun h=>
 Z0 (Z3 false 1 h H) fun j=>
 Z0 (Zo 5 x0 x3) fun u=>
 Z0 (Z7 0 u) fun w=>
 Z0 (Z3 false 1 w H) fun y=>
 Z0 (Yr .eql j y) fun z=>
 Zj z
 (some ((zA J 6),H))
 (Tn x0 x3 x4 H0 H):=Z9 aw
theorem Dn:Ut x0 x3 x4 H0 H =
 Z0 (Z5 .lss x4 x3) fun g=>
 Zj g
 (Tm x0 x3 x4 H0 H)
 (KA x0 x3 H0 H):=(ZC (C:=cfg) [3,5,6,8,10,11,13] (Zn 2 (Zn 1 (LV H0))) _ _).trans (by kernel_rfl)
theorem Ht:Tl x0 x3 H0 H =
 Ut x0 x3 (zA J 0) H0 H:=Z9 aw
theorem Hr:Tj x0 x3 H0 H =
 Z0 (Zo 5 x0 x3) fun h=>
 Z0 (Z7 0 h) fun j=>
 Z0 (Z3 false 1 j H) fun u=>
 Z0 (Zf G9 [u] H) fun g=>
 Z0 (Xv .not g.1) fun w=>
 Zj w
 (some ((zA J 4),g.2))
 (Tl x0 x3 H0 g.2):=Z9 aw
theorem Dm:Us x0 x3 H0 H =
 Z0 (Zk (.slice 246) x0) fun g=>
 Z0 (Z5 .lss x3 g) fun h=>
 Zj h
 (Tj x0 x3 H0 H)
 (Ti H0 H):=(ZC (C:=cfg) [3,5,6,8,10,11,13] (Zn 0 (Gi H0)) _ _).trans (by kernel_rfl)
theorem Ho:Th x0 H0 H =
 Us x0 (zA J 0) H0 H:=Z9 aw
theorem A9:UT [p0] H=PR p0 H:=Be 37 [3,5,6,8,10,11,13] Tryz.func215
def Rc:Z4:=aa 216 46 Tryz.f216 [1,1,1] H0 [] H
def Wp:KL:=Zc (WH 216 46 Tryz.f216 [1,1,1]) (Zg cfg 46 216 Tryz.f216 H0)
theorem KM:ZR 46 (Wp H0):=Zw (C:=cfg) (kp:=cfg.keep 216) (sub (Z1 Tryz.f216) [1,1,1]) (ZB 216 Tryz.f216 H0)
def Jp:Z4:=ZD 216 46 (sub (Z1 Tryz.f216) [1,1,0,1,0,0,1,1]) (Zc (Yf 216 46 Tryz.f216 [1,1,0,1,0,0]) (Z6 0 (Wp H0))) [(0,x0),(3,x3)] H
def Wq:KL:=Zc (WH 216 46 Tryz.f216 [1,1,0,1,0,0,1,1]) (Zc (Yf 216 46 Tryz.f216 [1,1,0,1,0,0]) (Z6 0 (Wp H0)))
theorem MT:ZR 46 (Wq H0):=Zw (C:=cfg) (kp:=cfg.keep 216) (sub (Z1 Tryz.f216) [1,1,0,1,0,0,1,1]) (CS (C:=cfg) (kp:=cfg.keep 216) (sub (Z1 Tryz.f216) [1,1,0,1,0,0]) (Zn 0 (KM H0)))
def Rh:Z4:=ZD 216 46 (sub (Z1 Tryz.f216) [1,1,0,1,0,0,1,0,0,1,1,0,0,1,1]) (Zc (Yf 216 46 Tryz.f216 [1,1,0,1,0,0,1,0,0,1,1,0,0]) (Z6 2 (Z6 1 (Wq H0)))) [(0,x0),(3,x3),(4,x4)] H
def Rg:Z4:=ZD 216 46 (sub (Z1 Tryz.f216) [1,1,0,1,0,0,1,0,0,1,1,0,0,1]) (Zc (Yf 216 46 Tryz.f216 [1,1,0,1,0,0,1,0,0,1,1,0,0]) (Z6 2 (Z6 1 (Wq H0)))) [(0,x0),(3,x3),(4,x4)] H
def VN:Z4:=Vx 216 46 (sub (Z1 Tryz.f216) [1,1,0,1,0,0,1,0,0,1,1,0,0]) (Z6 2 (Z6 1 (Wq H0))) [(0,x0),(3,x3),(4,x4)] H
def Rf:Z4:=ZD 216 46 (sub (Z1 Tryz.f216) [1,1,0,1,0,0,1,0,0,1]) (Z6 1 (Wq H0)) [(0,x0),(3,x3)] H
def Re:Z4:=ZD 216 46 (sub (Z1 Tryz.f216) [1,1,0,1,0,0,1]) (Zc (Yf 216 46 Tryz.f216 [1,1,0,1,0,0]) (Z6 0 (Wp H0))) [(0,x0),(3,x3)] H
def VM:Z4:=Vx 216 46 (sub (Z1 Tryz.f216) [1,1,0,1,0,0]) (Z6 0 (Wp H0)) [(0,x0),(3,x3)] H
def Rb:Z4:=aa 216 46 Tryz.f216 [1,1] H0 [(0,x0)] H
def Tb:Z4:=
 Z0 (Zk (.slice 189) p0) fun g=>
 Z0 (Z5 .gtr g (zA J 64)) fun h=>
 Zj h
 (some ((zA J 3),H))
 (Rb p0 H H)
theorem Sn:Rc H0 H =
 some ((zA J 0),H):=Z9 aw
theorem Sp:Jp x0 x3 H0 H =
 Z0 (Z5 .add x3 (zA J 1)) fun g=>
 VM x0 g H0 H:=Z9 aw
theorem Su:Rh x0 x3 x4 H0 H =
 Z0 (Z5 .add x4 (zA J 1)) fun g=>
 VN x0 x3 g H0 H:=Z9 aw
theorem Sr:Rg x0 x3 x4 H0 H =
 Z0 (Zo 2 x0 x4) fun t37=>
 Z0 (Z7 0 t37) fun g=>
 Z0 (Z3 false 1 g H) fun h=>
 Z0 (Zo 2 x0 x3) fun j=>
 Z0 (Z7 0 j) fun u=>
 Z0 (Z3 false 1 u H) fun w=>
 Z0 (Yr .eql h w) fun y=>
 Zj y
 (some ((zA J 6),H))
 (Rh x0 x3 x4 H0 H):=Z9 aw
theorem B8:VN x0 x3 x4 H0 H =
 Z0 (Z5 .lss x4 x3) fun g=>
 Zj g
 (Rg x0 x3 x4 H0 H)
 (Jp x0 x3 H0 H):=(ZC (C:=cfg) [3,5,6,8,10,11,13] (Zn 2 (Zn 1 (MT H0))) _ _).trans (by kernel_rfl)
theorem Sq:Rf x0 x3 H0 H =
 VN x0 x3 (zA J 0) H0 H:=Z9 aw
theorem So:Re x0 x3 H0 H =
 Z0 (Zo 2 x0 x3) fun j=>
 Z0 (Z7 0 j) fun u=>
 Z0 (Z3 false 1 u H) fun w=>
 Z0 (Zk .string w) fun y=>
 Z0 (Z5 .neq y (zA J 2)) fun g=>
 Z0 (Z8 g false ak (some x0)) fun z=>
 Z0 (Z8 g false ak (some x3)) fun A=>
 Z0 (Z8 g false ak (Zo 2 z A)) fun B=>
 Z0 (Z8 g false ak (Z7 1 B)) fun C=>
 Z0 (Z8 g false ak (Z3 false 1 C H)) fun D=>
 Z0 (Z8 g false (ak,H) (Zf Dd [D] H)) fun h=>
 Z0 (Z8 g false ak (Xv .not h.1)) fun E=>
 Z0 (Zi g (.bool true) E) fun F=>
 Zj F
 (some ((zA J 2),h.2))
 (Rf x0 x3 H0 h.2):=Z9 aw
theorem B7:VM x0 x3 H0 H =
 Z0 (Zk (.slice 189) x0) fun g=>
 Z0 (Z5 .lss x3 g) fun h=>
 Zj h
 (Re x0 x3 H0 H)
 (Rc H0 H):=(ZC (C:=cfg) [3,5,6,8,10,11,13] (Zn 0 (KM H0)) _ _).trans (by kernel_rfl)
theorem Sm:Rb x0 H0 H =
 VM x0 (zA J 0) H0 H:=Z9 aw
theorem Hf:Up [p0] H=Tb p0 H:=Be 46 [3,5,6,8,10,11,13] Tryz.func216
def Za8:Z4:=aa 219 23 Tryz.f219 [1,1,1] H0 [(5,x5)] H
def DX:KL:=Zc (WH 219 23 Tryz.f219 [1,1,1]) (Zg cfg 23 219 Tryz.f219 H0)
theorem ZbP:ZR 23 (DX H0):=Zw (C:=cfg) (kp:=cfg.keep 219) (sub (Z1 Tryz.f219) [1,1,1]) (ZB 219 Tryz.f219 H0)
def Zaa:Z4:=ZD 219 23 (sub (Z1 Tryz.f219) [1,1,0,1,0,0,1,1]) (Zc (Yf 219 23 Tryz.f219 [1,1,0,1,0,0]) (Z6 0 (DX H0))) [(0,x0),(1,x1),(5,x5),(6,x6)] H
def Za9:Z4:=ZD 219 23 (sub (Z1 Tryz.f219) [1,1,0,1,0,0,1]) (Zc (Yf 219 23 Tryz.f219 [1,1,0,1,0,0]) (Z6 0 (DX H0))) [(0,x0),(1,x1),(5,x5),(6,x6)] H
def DY:Z4:=Vx 219 23 (sub (Z1 Tryz.f219) [1,1,0,1,0,0]) (Z6 0 (DX H0)) [(0,x0),(1,x1),(5,x5),(6,x6)] H
def Zbn:Z4:=
 DY p0 p1 .nils (zA J 0) H H
theorem Zfh:Za8 x5 H0 H =
 Z0 (UG x5 H) fun g=>
 some (g,H):=Z9 [4,5,6]
theorem Zfj:Zaa x0 x1 x5 x6 H0 H =
 Z0 (Z5 .add x6 (zA J 1)) fun g=>
 DY x0 x1 x5 g H0 H:=Z9 [4,5,6]
theorem Zfi:Za9 x0 x1 x5 x6 H0 H =
 Z0 (Zx x1 x6) fun h=>
 Z0 (Zx x0 h) fun j=>
 Z0 ((ZA 1 [(0,j)] [(.int .u8 0)]).map (.vs 1 .clip)) fun u=>
 Z0 (Y7 1 1 x5 u H) fun g=>
 Zaa x0 x1 g.1 x6 H0 g.2:=Z9 [4,5,6]
theorem LW:DY x0 x1 x5 x6 H0 H =
 Z0 (Zk .string x1) fun t9=>
 Z0 (Z5 .lss x6 t9) fun g=>
 Zj g
 (Za9 x0 x1 x5 x6 H0 H)
 (Za8 x5 H0 H):=(ZC (C:=cfg) [4,5,6] (Zn 0 (ZbP H0)) _ _).trans (by kernel_rfl)
theorem Zg6:Lv [p0,p1] H=Zbn p0 p1 H:=Be 23 [4,5,6] Tryz.func219
end
end Go.Am
