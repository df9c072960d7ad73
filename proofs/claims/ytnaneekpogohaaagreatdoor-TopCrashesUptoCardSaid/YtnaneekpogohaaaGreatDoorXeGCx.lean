/- The functions of the translation over the abstract machine -/
import Derived.Test.YtnaneekpogohaaaGreatDoorXeGx
open Go.Am.AV renaming int->J
open Go.IntKind renaming i64->zA
namespace Go.Am
open Go.Proofs
set_option maxRecDepth 100000
noncomputable abbrev ZD (f n:Nat):=Yn cfg (Zb cfg) (Y5 cfg (cfg.keep f) n) (cfg.keep f) n Zc Z7
noncomputable abbrev VW (f n:Nat):=Y5 cfg (cfg.keep f) n
noncomputable section
abbrev WU (f n:Nat)(F:Func)(p:List Nat):KL->AL->Hp->Z4:=fun k g H=>ZD f n (sub (Z1 F) p) k (Y3 (cfg.keep f) (sub (Z1 F) p) g) H
abbrev Yi (f n:Nat)(F:Func)(p:List Nat):KL->AL->Hp->Z4:=fun k g H=>VW f n (sub (Z1 F) p) k (Y3 (cfg.keep f) (sub (Z1 F) p) g) H
variable (p0 p1 p2 p3 p4 x0 x1 x2 x3 x4 x5 x6 x7 x8 x9 x10 x11 x12 x13 x16 x17 x18 x19 x24 x25 x26 x27 x28 x29 x30:AV)(H0 H:Hp)
noncomputable abbrev aa (f n:Nat)(F:Func)(p:List Nat)(G:Hp):=fun k K=>ZD f n (sub (Z1 F) p) (Zf cfg n f F G) k K
abbrev ab (F:Func):=sub (Z1 F)
abbrev ac:List Nat:=[5,6,9,11,14]
abbrev ae:List Nat:=[4,6,10,13,14]
abbrev aq:List Nat:=[6,9,11,12,14,16]
abbrev ar:List Nat:=[4,6,7,9,14,15]
abbrev au:List Nat:=[3,4,7,14,16,19]
abbrev aw:List Nat:=[4,8,9]
abbrev ax:List Nat:=[3,5,7,10,11,14]
abbrev ay:List Nat:=[3,6,9,11,12,13]
abbrev b7:List Nat:=[3,5,7,8,10,12,15]
abbrev b8:List Nat:=[3,5,6,8,10,11,13]
def O6:Z4:=aa 14 55 Tryz.f14 [1,1,1,1] H0 [(0,x0),(1,x1),(2,x2),(3,x3)] H
def Jw:KL:=Zc (WU 14 55 Tryz.f14 [1,1,1,1]) (Zf cfg 55 14 Tryz.f14 H0)
theorem Zc8:ZS 55 (Jw H0):=Zw (C:=cfg) (kp:=cfg.keep 14) (ab Tryz.f14 [1,1,1,1]) (Zy 14 Tryz.f14 H0)
def O8:Z4:=ZD 14 55 (ab Tryz.f14 [1,1,1,0,1,0,0,1,1]) (Zc (Yi 14 55 Tryz.f14 [1,1,1,0,1,0,0]) (Z7 0 (Jw H0))) [(0,x0),(1,x1),(2,x2),(3,x3),(4,x4)] H
def O9:KL:=Zc (WU 14 55 Tryz.f14 [1,1,1,0,1,0,0,1,1]) (Zc (Yi 14 55 Tryz.f14 [1,1,1,0,1,0,0]) (Z7 0 (Jw H0)))
def N0:Z4:=ZD 14 55 (ab Tryz.f14 [1,1,1,0,1,0,0,1,0,0,1,1,1]) (Z7 1 (O9 H0)) [(0,x0),(1,x1),(2,x2),(3,x3),(4,x4),(5,x5),(6,x6)] H
def PZ:Z4:=ZD 14 55 (ab Tryz.f14 [1,1,1,0,1,0,0,1,0,0,1,1]) (Z7 1 (O9 H0)) [(0,x0),(1,x1),(2,x2),(3,x3),(4,x4),(5,x5),(6,x6)] H
def O7:Z4:=ZD 14 55 (ab Tryz.f14 [1,1,1,0,1,0,0,1]) (Zc (Yi 14 55 Tryz.f14 [1,1,1,0,1,0,0]) (Z7 0 (Jw H0))) [(0,x0),(1,x1),(2,x2),(3,x3),(4,x4)] H
def Jx:Z4:=VW 14 55 (ab Tryz.f14 [1,1,1,0,1,0,0]) (Z7 0 (Jw H0)) [(0,x0),(1,x1),(2,x2),(3,x3),(4,x4)] H
def Zbs:Z4:=
 Z0 (some ((.ptr H.length 0),H++[.cells [(.str []),.nils,(.str []),(.str []),.nils,.nils]])) fun g=>
 Z0 ((YS [(0,1,(.str [112,111,115,105,120]))] [(.str []),.nils,(.str []),(.str []),.nils,.nils]).map .agg) fun u=>
 Z0 (some ((.ptr g.2.length 0),g.2++[.cells [(.str []),.nils,(.str []),(.str []),.nils,.nils]])) fun h=>
 Z0 (Za 6 h.1 u h.2) fun j=>
 Jx g.1 h.1 .nils .nils (J zA 0) H j.2
theorem Zfe:O6 x0 x1 x2 x3 H0 H =
 Z0 (Qb x2 H) fun u=>
 Z0 (Z6 2 x1) fun w=>
 Z0 (Za 1 w u H) fun j=>
 Z0 (Qb x3 j.2) fun y=>
 Z0 (Z6 3 x1) fun z=>
 Z0 (Za 1 z y j.2) fun g=>
 Z0 (Z3 true 6 x1 g.2) fun A=>
 Z0 (Za 6 x0 A g.2) fun h=>
 Z0 (Z3 true 6 x0 h.2) fun B=>
 some (B,h.2):=Z9 ac
theorem Zfg:O8 x0 x1 x2 x3 x4 H0 H =
 Z0 (Z5 .add x4 (J zA 1)) fun g=>
 Jx x0 x1 x2 x3 g H0 H:=Z9 ac
theorem Zfi:N0 x0 x1 x2 x3 x4 x5 x6 H0 H =
 Z0 (Z6 1 x1) fun w=>
 Z0 (Z3 false 1 w H) fun y=>
 Z0 ((ZB 1 [(0,x4)] [(J zA 0)]).map (.vs 1 .clip)) fun t37=>
 Z0 (Y9 1 8 y t37 H) fun g=>
 Z0 (Z6 1 x1) fun z=>
 Z0 (Za 1 z g.1 g.2) fun u=>
 Z0 ((ZB 1 [(0,x5)] [(.int .u8 0)]).map (.vs 1 .clip)) fun A=>
 Z0 (Y9 1 1 x2 A u.2) fun h=>
 Z0 ((ZB 1 [(0,x6)] [(.int .u8 0)]).map (.vs 1 .clip)) fun B=>
 Z0 (Y9 1 1 x3 B h.2) fun j=>
 O8 x0 x1 h.1 j.1 x4 H0 j.2:=Z9 ac
theorem Zfh:PZ x0 x1 x2 x3 x4 x5 x6 H0 H =
 Z0 (Z5 .geq x4 (J zA 97)) fun g=>
 Z0 (Z8 g true ap (some x4)) fun h=>
 Z0 (Z8 g true ap (Z5 .leq h (J zA 122))) fun j=>
 Z0 (Zi g j (.bool false)) fun u=>
 Zj u
 (Z0 (Z5 .sub x4 (J zA 32)) fun w=>
 Z0 (Yq .u8 w) fun y=>
 N0 x0 x1 x2 x3 x4 x5 y H0 H)
 (N0 x0 x1 x2 x3 x4 x5 x6 H0 H):=Z9 ac
theorem Zff:O7 x0 x1 x2 x3 x4 H0 H =
 Z0 (Yq .u8 x4) fun j=>
 Z0 (Yq .u8 x4) fun h=>
 Z0 (Z5 .geq x4 (J zA 65)) fun g=>
 Z0 (Z8 g true ap (some x4)) fun u=>
 Z0 (Z8 g true ap (Z5 .leq u (J zA 90))) fun w=>
 Z0 (Zi g w (.bool false)) fun y=>
 Zj y
 (Z0 (Z5 .add x4 (J zA 32)) fun z=>
 Z0 (Yq .u8 z) fun A=>
 PZ x0 x1 x2 x3 x4 A h H0 H)
 (PZ x0 x1 x2 x3 x4 j h H0 H):=Z9 ac
theorem Zfj:Jx x0 x1 x2 x3 x4 H0 H =
 Z0 (Z5 .lss x4 (J zA 256)) fun t9=>
 Zj t9
 (O7 x0 x1 x2 x3 x4 H0 H)
 (O6 x0 x1 x2 x3 H0 H):=(ZC (C:=cfg) [5,6,9,11,14] (Zn 0 (Zc8 H0)) _ _).trans (by kernel_rfl)
theorem Zgi:KJ [] H=Zbs H:=Be 55 [5,6,9,11,14] Tryz.func14
def Co:Z4:=aa 56 39 Tryz.f56 [1,1,1,1,1,1] H0 [(9,x9)] H
def R9:Z4:=aa 56 39 Tryz.f56 [1,1,1,1] H0 [(2,x2),(3,x3),(4,x4),(5,x5)] H
def HI:Z4:=
 Z0 (ZQ p0 H) fun z=>
 Z0 (ZQ p1 z.2) fun h=>
 Z0 (Z3 true 5 h.1 h.2) fun A=>
 Z0 (Zh VI [A] h.2) fun y=>
 Z0 (Za 5 h.1 y.1 y.2) fun j=>
 Z0 (Z3 true 6 z.1 j.2) fun B=>
 Z0 (Z3 true 5 h.1 j.2) fun C=>
 Z0 (Zh WN [B,C,p2,p3] j.2) fun g=>
 Z0 (Z5 .neq g.1 (J zA 0)) fun u=>
 Z0 (Z8 u false ap (Z6 4 h.1)) fun D=>
 Z0 (Z8 u false ap (Z3 false 1 D g.2)) fun E=>
 Z0 (Zi u (.bool true) E) fun w=>
 Z0 (Z8 w false ap (Z6 3 h.1)) fun F=>
 Z0 (Z8 w false ap (Z3 false 1 F g.2)) fun I=>
 Z0 (Zi w (.bool true) I) fun K=>
 Zj K
 (some (g.1,g.2))
 (R9 p2 p3 z.1 h.1 H g.2)
theorem Zcs:Co x9 H0 H =
 some (x9,H):=Z9 [5,8]
theorem Zcr:R9 x2 x3 x4 x5 H0 H =
 Z0 (Z3 true 6 x4 H) fun h=>
 Z0 (Zh UF [h,x2,x3] H) fun g=>
 Z0 (Z6 2 x5) fun j=>
 Z0 (Z3 false 1 j g.2) fun u=>
 Z0 (Z5 .and u (J zA 2)) fun w=>
 Z0 (Z5 .neq w (J zA 0)) fun y=>
 Zj y
 (Z0 (XL .neg g.1) fun t37=>
 some (t37,g.2))
 (Co g.1 H0 g.2):=Z9 [5,8]
theorem ZcZ:Qp [p0,p1,p2,p3] H=HI p0 p1 p2 p3 H:=Be 39 [5,8] Tryz.func56
def Mr:Z4:=aa 59 55 Tryz.f59 [1,1,1,1] H0 [] H
def VF:KL:=Zc (WU 59 55 Tryz.f59 [1,1,1,1]) (Zf cfg 55 59 Tryz.f59 H0)
theorem Hw:ZS 55 (VF H0):=Zw (C:=cfg) (kp:=cfg.keep 59) (ab Tryz.f59 [1,1,1,1]) (Zy 59 Tryz.f59 H0)
def Mt:Z4:=ZD 59 55 (ab Tryz.f59 [1,1,1,0,1,0,0,1,1,1]) (Zc (Yi 59 55 Tryz.f59 [1,1,1,0,1,0,0]) (Z7 0 (VF H0))) [(2,x2),(3,x3),(4,x4),(5,x5),(26,x26),(27,x27),(28,x28)] H
def ZeB:KL:=Zc (WU 59 55 Tryz.f59 [1,1,1,0,1,0,0,1,1,1]) (Zc (Yi 59 55 Tryz.f59 [1,1,1,0,1,0,0]) (Z7 0 (VF H0)))
def QO:Z4:=ZD 59 55 (ab Tryz.f59 [1,1,1,0,1,0,0,1,1,0,0,1,1,1]) (Z7 1 (ZeB H0)) [(2,x2),(3,x3),(4,x4),(5,x5),(10,x10),(11,x11),(26,x26),(27,x27),(28,x28)] H
def Ms:Z4:=ZD 59 55 (ab Tryz.f59 [1,1,1,0,1,0,0,1,1]) (Zc (Yi 59 55 Tryz.f59 [1,1,1,0,1,0,0]) (Z7 0 (VF H0))) [(2,x2),(3,x3),(4,x4),(5,x5),(26,x26),(27,x27),(28,x28),(29,x29)] H
def QP:Z4:=VW 59 55 (ab Tryz.f59 [1,1,1,0,1,0,0]) (Z7 0 (VF H0)) [(2,x2),(3,x3),(4,x4),(5,x5),(26,x26),(27,x27),(28,x28)] H
def Mq:Z4:=aa 59 55 Tryz.f59 [1,1,1] H0 [(2,x2),(3,x3),(4,x4),(5,x5)] H
def Lj:Z4:=
 Z0 (ZQ p0 H) fun w=>
 Z0 (ZQ p1 w.2) fun h=>
 Z0 (Z3 true 5 h.1 h.2) fun y=>
 Z0 (Zh VI [y] h.2) fun j=>
 Z0 (Za 5 h.1 j.1 j.2) fun g=>
 Z0 (Z6 0 h.1) fun z=>
 Z0 (Z3 false 1 z g.2) fun A=>
 Z0 (Zk (.slice 119) A) fun B=>
 Z0 (Z5 .eql B (J zA 0)) fun C=>
 Zj C
 (Z0 (Z3 true 6 w.1 g.2) fun D=>
 Z0 (Z6 2 h.1) fun E=>
 Z0 (Z3 false 1 E g.2) fun F=>
 Z0 (Zh Qq [D,F,p2,p3] g.2) fun u=>
 some (u.1,u.2))
 (Mq p2 p3 w.1 h.1 H g.2)
theorem OI:Mr H0 H =
 some ((J zA 0),H):=Z9 ae
theorem OK:Mt x2 x3 x4 x5 x26 x27 x28 H0 H =
 Z0 (Z5 .add x28 (J zA 1)) fun g=>
 QP x2 x3 x4 x5 x26 x27 g H0 H:=Z9 ae
theorem OL:QO x2 x3 x4 x5 x10 x11 x26 x27 x28 H0 H =
 Qd x4 H fun z4 I=>
 Qd x5 I fun z5 K=>
 Qd x10 K fun w g=>
 Z0 (Jy true 6 z4) fun y=>
 Z0 (Z3 true 5 w g) fun z=>
 Z0 (Z6 1 z5) fun A=>
 Z0 (Z3 false 1 A g) fun B=>
 Z0 (J9 [x2,z,B] g) fun j=>
 Z0 (Jy true 5 w) fun C=>
 Z0 (Z6 1 z5) fun D=>
 Z0 (Jy false 1 D) fun E=>
 Z0 (J9 [x3,C,E] j.2) fun u=>
 Z0 (Zh Qq [y,x11,j.1,u.1] u.2) fun h=>
 Z0 (Z5 .neq h.1 (J zA 0)) fun F=>
 Zj F
 (some (h.1,h.2))
 (Mt x2 x3 z4 z5 x26 x27 x28 H0 h.2):=Z9 ae
theorem OJ:Ms x2 x3 x4 x5 x26 x27 x28 x29 H0 H =
 Z0 (Zo 5 x26 x28) fun u=>
 Z0 (Z3 true 5 u H) fun w=>
 Z0 (some ((.ptr H.length 0),H++[.cells [(J zA 0),(J zA 0),(J zA 0),(J zA 0),(J zA 0)]])) fun h=>
 Z0 (Za 5 h.1 w h.2) fun g=>
 Z0 (Z6 4 h.1) fun y=>
 Z0 (Z3 false 1 y g.2) fun j=>
 Z0 (Z5 .eql j (J zA 0)) fun z=>
 Zj z
 (Z0 (Z6 2 x5) fun A=>
 Z0 (Z3 false 1 A g.2) fun t37=>
 QO x2 x3 x4 x5 h.1 t37 x26 x27 x28 H0 g.2)
 (QO x2 x3 x4 x5 h.1 j x26 x27 x28 H0 g.2):=Z9 ae
theorem RA:QP x2 x3 x4 x5 x26 x27 x28 H0 H =
 Z0 (Z5 .lss x28 x27) fun g=>
 Zj g
 (Ms x2 x3 x4 x5 x26 x27 x28 g H0 H)
 (Mr H0 H):=(ZC (C:=cfg) [4,6,10,13,14] (Zn 0 (Hw H0)) _ _).trans (by kernel_rfl)
theorem OH:Mq x2 x3 x4 x5 H0 H =
 Z0 (Z6 0 x5) fun h=>
 Z0 (Z3 false 1 h H) fun g=>
 Z0 (Zk (.slice 119) g) fun j=>
 QP x2 x3 x4 x5 g j (J zA 0) H0 H:=Z9 ae
theorem OX:WN [p0,p1,p2,p3] H=Lj p0 p1 p2 p3 H:=Be 55 [4,6,10,13,14] Tryz.func59
def Cw:Z4:=aa 86 8 Tryz.f86 [1,1] H0 [(1,x1),(2,x2)] H
def RW:Z4:=
 Z0 (ZQ p0 H) fun j=>
 Z0 (some ((.ptr j.2.length 0),j.2++[.cells [.nils,(J zA 0),(J zA 0),(.bool false),(.bool false)]])) fun h=>
 Z0 (Z3 true 5 j.1 h.2) fun t3=>
 Z0 (Zh Wv [t3] h.2) fun u=>
 Z0 (Z5 .neq u.1 (J zA 0)) fun t5=>
 Zj t5
 (Z0 ((YS [(1,1,(J zA (-1)))] [.nils,(J zA 0),(J zA 0),(.bool false),(.bool false)]).map .agg) fun w=>
 Z0 (Za 5 h.1 w u.2) fun g=>
 Z0 (Z3 true 5 h.1 g.2) fun y=>
 some (y,g.2))
 (Cw j.1 h.1 H u.2)
theorem ZcG:Cw x1 x2 H0 H =
 Z0 (Z3 true 5 x1 H) fun h=>
 Z0 (Za 5 x2 h H) fun g=>
 Z0 (Z3 true 5 x2 g.2) fun j=>
 some (j,g.2):=Z9 [3]
theorem NR:VI [p0] H=RW p0 H:=Be 8 [3] Tryz.func86
def Lv:Z4:=aa 87 60 Tryz.f87 [1,1,1,1,1,1,1] H0 [(1,x1),(2,x2)] H
def Lu:Z4:=aa 87 60 Tryz.f87 [1,1,1,1,1,1] H0 [(1,x1),(2,x2),(8,x8),(9,x9)] H
def Lt:Z4:=aa 87 60 Tryz.f87 [1,1,1,1,1] H0 [(1,x1),(2,x2),(8,x8),(9,x9)] H
def Ub:KL:=Zc (WU 87 60 Tryz.f87 [1,1,1,1,1]) (Zf cfg 60 87 Tryz.f87 H0)
theorem Ip:ZS 60 (Ub H0):=Zw (C:=cfg) (kp:=cfg.keep 87) (ab Tryz.f87 [1,1,1,1,1]) (Zy 87 Tryz.f87 H0)
def Lx:Z4:=ZD 87 60 (ab Tryz.f87 [1,1,1,1,0,1,0,0,1,1,1]) (Zc (Yi 87 60 Tryz.f87 [1,1,1,1,0,1,0,0]) (Z7 0 (Ub H0))) [(1,x1),(2,x2),(8,x8),(9,x9),(24,x24),(25,x25)] H
def Zfo:KL:=Zc (WU 87 60 Tryz.f87 [1,1,1,1,0,1,0,0,1,1,1]) (Zc (Yi 87 60 Tryz.f87 [1,1,1,1,0,1,0,0]) (Z7 0 (Ub H0)))
def Ly:Z4:=ZD 87 60 (ab Tryz.f87 [1,1,1,1,0,1,0,0,1,1,0,0,1,1]) (Z7 1 (Zfo H0)) [(1,x1),(2,x2),(8,x8),(9,x9),(10,x10),(24,x24),(25,x25)] H
def Lw:Z4:=ZD 87 60 (ab Tryz.f87 [1,1,1,1,0,1,0,0,1,1]) (Zc (Yi 87 60 Tryz.f87 [1,1,1,1,0,1,0,0]) (Z7 0 (Ub H0))) [(1,x1),(2,x2),(8,x8),(9,x9),(24,x24),(25,x25),(26,x26)] H
def Jg:Z4:=VW 87 60 (ab Tryz.f87 [1,1,1,1,0,1,0,0]) (Z7 0 (Ub H0)) [(1,x1),(2,x2),(8,x8),(9,x9),(24,x24),(25,x25)] H
def EZ:Z4:=
 Z0 (ZQ p0 H) fun u=>
 Z0 (Z3 true 6 u.1 u.2) fun z=>
 Z0 (Zh Uz [z] u.2) fun j=>
 Z0 (Za 6 u.1 j.1 j.2) fun y=>
 Qd u.1 y.2 fun z3 D=>
 Z0 (some (.fn (.func 108) [] [z3])) fun w=>
 Z0 (XA cfg (Zb cfg) w [p1] D) fun g=>
 Z0 (Yf cfg (Zb cfg) w [p2] g.2) fun h=>
 Z0 (Zk (.slice 3) g.1) fun A=>
 Z0 (Zk (.slice 3) h.1) fun B=>
 Z0 (VN A B) fun C=>
 Jg p1 p2 g.1 h.1 C (J zA 0) H h.2
theorem ZaO:Lv x1 x2 H0 H =
 Z0 (Zh Du [x1,x2] H) fun g=>
 some (g.1,g.2):=Z9 aq
theorem ZaN:Lu x1 x2 x8 x9 H0 H =
 Z0 (Zk (.slice 3) x8) fun g=>
 Z0 (Zk (.slice 3) x9) fun h=>
 Z0 (Z5 .gtr g h) fun j=>
 Zj j
 (some ((J zA 1),H))
 (Lv x1 x2 H0 H):=Z9 aq
theorem ZaM:Lt x1 x2 x8 x9 H0 H =
 Z0 (Zk (.slice 3) x8) fun g=>
 Z0 (Zk (.slice 3) x9) fun h=>
 Z0 (Z5 .lss g h) fun j=>
 Zj j
 (some ((J zA (-1)),H))
 (Lu x1 x2 x8 x9 H0 H):=Z9 aq
theorem ZaQ:Lx x1 x2 x8 x9 x24 x25 H0 H =
 Z0 (Z5 .add x25 (J zA 1)) fun g=>
 Jg x1 x2 x8 x9 x24 g H0 H:=Z9 aq
theorem ZaR:Ly x1 x2 x8 x9 x10 x24 x25 H0 H =
 Z0 (Zo 1 x8 x10) fun g=>
 Z0 (Z3 false 1 g H) fun h=>
 Z0 (Zo 1 x9 x10) fun j=>
 Z0 (Z3 false 1 j H) fun u=>
 Z0 (Z5 .gtr h u) fun w=>
 Zj w
 (some ((J zA 1),H))
 (Lx x1 x2 x8 x9 x24 x25 H0 H):=Z9 aq
theorem ZaP:Lw x1 x2 x8 x9 x24 x25 x26 H0 H =
 Z0 (Zo 1 x8 x25) fun g=>
 Z0 (Z3 false 1 g H) fun h=>
 Z0 (Zo 1 x9 x25) fun j=>
 Z0 (Z3 false 1 j H) fun u=>
 Z0 (Z5 .lss h u) fun w=>
 Zj w
 (some ((J zA (-1)),H))
 (Ly x1 x2 x8 x9 x25 x24 x25 H0 H):=Z9 aq
theorem TI:Jg x1 x2 x8 x9 x24 x25 H0 H =
 Z0 (Z5 .lss x25 x24) fun g=>
 Zj g
 (Lw x1 x2 x8 x9 x24 x25 g H0 H)
 (Lt x1 x2 x8 x9 H0 H):=(ZC (C:=cfg) [6,9,11,12,14,16] (Zn 0 (Ip H0)) _ _).trans (by kernel_rfl)
theorem Zc1:UF [p0,p1,p2] H=EZ p0 p1 p2 H:=Be 60 [6,9,11,12,14,16] Tryz.func87
def Rg:Z4:=aa 88 50 Tryz.f88 [1,1,1,1] H0 [(4,x4),(5,x5),(6,x6),(7,x7),(9,x9)] H
def KC:Z4:=aa 88 50 Tryz.f88 [1,1,1] H0 [(4,x4),(5,x5),(6,x6),(7,x7),(9,x9)] H
def HL:Z4:=
 Z0 (ZQ p0 H) fun j=>
 Z0 (ZQ p1 j.2) fun h=>
 Z0 (ZQ p2 h.2) fun u=>
 Z0 (ZQ p3 u.2) fun g=>
 Z0 (Z3 false 1 h.1 g.2) fun w=>
 Z0 (Z5 .and w (J zA 2)) fun y=>
 Z0 (Z5 .neq y (J zA 0)) fun z=>
 Zj z
 (KC j.1 h.1 u.1 g.1 (J zA (-1)) H g.2)
 (KC j.1 h.1 u.1 g.1 (J zA 1) H g.2)
theorem ZcF:Rg x4 x5 x6 x7 x9 H0 H =
 Z0 (some (.fn (.func 114) [] [x5,x6,x7])) fun h=>
 Z0 (Yf cfg (Zb cfg) h [(J zA 8),(.fn (.func 115) [] [])] H) fun u=>
 Z0 (Yf cfg (Zb cfg) h [(J zA 16),(.fn (.func 117) [] [])] u.2) fun w=>
 Qd x4 w.2 fun z4 D=>
 Z0 (some (.fn (.func 118) [] [z4])) fun y=>
 Z0 (Yf cfg (Zb cfg) h [(J zA 4),y] D) fun g=>
 Z0 (Z3 true 6 z4 g.2) fun z=>
 Z0 (Z3 false 1 x6 g.2) fun A=>
 Z0 (Z3 false 1 x7 g.2) fun B=>
 Z0 (Zh UF [z,A,B] g.2) fun j=>
 Z0 (Z5 .mul x9 j.1) fun C=>
 some (C,j.2):=Z9 [4,8]
theorem ZcE:KC x4 x5 x6 x7 x9 H0 H =
 Z0 (Z3 false 1 x5 H) fun u=>
 Z0 (Z5 .and u (J zA 1)) fun w=>
 Z0 (Z5 .neq w (J zA 0)) fun y=>
 Zj y
 (Z0 (Z3 false 1 x6 H) fun z=>
 Z0 (Zh JV [z] H) fun g=>
 Z0 (ZL g.1 0) fun A=>
 Z0 (ZL g.1 1) fun E=>
 Z0 (Z3 false 1 x7 g.2) fun B=>
 Z0 (Zh JV [B] g.2) fun h=>
 Z0 (ZL h.1 0) fun C=>
 Z0 (ZL h.1 1) fun F=>
 Z0 (Zh PV [A,C] h.2) fun j=>
 Z0 (Z5 .mul x9 j.1) fun D=>
 some (D,j.2))
 (Rg x4 x5 x6 x7 x9 H0 H):=Z9 [4,8]
theorem Zd2:Qq [p0,p1,p2,p3] H=HL p0 p1 p2 p3 H:=Be 50 [4,8] Tryz.func88
def Ay:Z4:=aa 107 16 Tryz.f107 [1,1] H0 [(1,x1),(2,x2)] H
def PW:Z4:=
 Z0 (ZQ p0 H) fun j=>
 Z0 (some ((.ptr j.2.length 0),j.2++[.cells [(.str []),.nils,(.str []),(.str []),.nils,.nils]])) fun h=>
 Z0 (Z3 true 6 j.1 h.2) fun t4=>
 Z0 (Zh Bi [t4] h.2) fun u=>
 Z0 (Z5 .neq u.1 (J zA 0)) fun y=>
 Zj y
 (Z0 (Zh FX [] u.2) fun w=>
 Z0 (Za 6 h.1 w.1 w.2) fun g=>
 Z0 (Z3 true 6 h.1 g.2) fun z=>
 some (z,g.2))
 (Ay j.1 h.1 H u.2)
theorem Zep:Ay x1 x2 H0 H =
 Z0 (K2 1 8 false (J zA 0) (J zA 256) (J zA 256) H) fun j=>
 Z0 (Z6 1 x1) fun w=>
 Z0 (Z3 false 1 w j.2) fun y=>
 Z0 (HT 1 j.1 y j.2) fun u=>
 Z0 (Z6 1 x1) fun z=>
 Z0 (Za 1 z j.1 u.2) fun h=>
 Z0 (Z3 true 6 x1 h.2) fun A=>
 Z0 (Za 6 x2 A h.2) fun g=>
 Z0 (Z3 true 6 x2 g.2) fun B=>
 some (B,g.2):=Z9 [3]
theorem Li:Uz [p0] H=PW p0 H:=Be 16 [3] Tryz.func107
def NN:Z4:=
 Z0 (some ((.ptr H.length 0),H++[.cells [.nils]])) fun g=>
 Z0 (Z3 true 6 p1 g.2) fun t5=>
 Z0 (some (.fn (.func 110) [] [g.1])) fun j=>
 Z0 (MA [t5,p0,j] g.2) fun h=>
 Z0 (Z3 false 1 g.1 h.2) fun t9=>
 some (t9,h.2)
theorem IQ:Qn [p0,p1] H=NN p0 p1 H:=Be 10 [] Tryz.func108
def On:Z4:=ZD 109 75 (ab Tryz.f109 [1,1,1,1,0,0,1,0,1,1,1]) (Z7 3 (Zc (Yi 109 75 Tryz.f109 [1,1,1,1,0,0]) (Z7 2 (Zf cfg 75 109 Tryz.f109 H0)))) [(1,x1),(2,x2),(3,x3),(6,x6),(9,x9),(10,x10)] H
def JD:Z4:=ZD 109 75 (ab Tryz.f109 [1,1,1,1,0,0,1,0,1,1]) (Z7 3 (Zc (Yi 109 75 Tryz.f109 [1,1,1,1,0,0]) (Z7 2 (Zf cfg 75 109 Tryz.f109 H0)))) [(1,x1),(2,x2),(3,x3),(6,x6),(9,x9),(10,x10),(11,x11)] H
def Om:Z4:=ZD 109 75 (ab Tryz.f109 [1,1,1,1,0,0,1]) (Zc (Yi 109 75 Tryz.f109 [1,1,1,1,0,0]) (Z7 2 (Zf cfg 75 109 Tryz.f109 H0))) [(1,x1),(2,x2),(3,x3),(6,x6),(9,x9)] H
def Bo:Z4:=VW 109 75 (ab Tryz.f109 [1,1,1,1,0,0]) (Z7 2 (Zf cfg 75 109 Tryz.f109 H0)) [(1,x1),(2,x2),(3,x3),(6,x6),(9,x9)] H
def Nh:Z4:=aa 109 75 Tryz.f109 [1,1,1] H0 [(1,x1),(2,x2),(3,x3),(6,x6)] H
def Bn:KL:=Zc (WU 109 75 Tryz.f109 [1,1,1]) (Zf cfg 75 109 Tryz.f109 H0)
theorem Zcf:ZS 75 (Bn H0):=Zw (C:=cfg) (kp:=cfg.keep 109) (ab Tryz.f109 [1,1,1]) (Zy 109 Tryz.f109 H0)
def Oq:Z4:=ZD 109 75 (ab Tryz.f109 [1,1,0,1,0,0,1,1,1]) (Zc (Yi 109 75 Tryz.f109 [1,1,0,1,0,0]) (Z7 0 (Bn H0))) [(1,x1),(2,x2),(3,x3),(6,x6),(16,x16),(17,x17),(18,x18)] H
def Oo:Z4:=ZD 109 75 (ab Tryz.f109 [1,1,0,1,0,0,1,1]) (Zc (Yi 109 75 Tryz.f109 [1,1,0,1,0,0]) (Z7 0 (Bn H0))) [(1,x1),(2,x2),(3,x3),(6,x6),(16,x16),(17,x17),(18,x18),(19,x19)] H
def Bp:Z4:=VW 109 75 (ab Tryz.f109 [1,1,0,1,0,0]) (Z7 0 (Bn H0)) [(1,x1),(2,x2),(3,x3),(6,x6),(16,x16),(17,x17),(18,x18)] H
def Zbt:Z4:=
 Z0 (ZQ p0 H) fun j=>
 Z0 (some ((.map j.2.length),j.2++[.map [] 0])) fun g=>
 Z0 (Z6 5 j.1) fun u=>
 Z0 (Z3 false 1 u g.2) fun h=>
 Z0 (Zk (.slice 189) h) fun w=>
 Bp p1 p2 j.1 g.1 h w (J zA 0) H g.2
theorem LD:On x1 x2 x3 x6 x9 x10 H0 H =
 Z0 (Zk .string x10) fun g=>
 Z0 (Z5 .add x9 g) fun h=>
 Bo x1 x2 x3 x6 h H0 H:=Z9 ar
theorem LC:JD x1 x2 x3 x6 x9 x10 x11 H0 H =
 Z0 (Yf cfg (Zb cfg) x2 [x10,x11] H) fun g=>
 Z0 (XL .not g.1) fun t70=>
 Zj t70
 (some (ap,g.2))
 (On x1 x2 x3 x6 x9 x10 H0 g.2):=Z9 ar
theorem Zfq:Om x1 x2 x3 x6 x9 H0 H =
 Z0 (Z5 .add x9 (J zA 1)) fun u=>
 Z0 (Y8 x1 (some x9) (some u) none) fun g=>
 Z0 (Z6 1 x3) fun t37=>
 Z0 (Z3 false 1 t37 H) fun w=>
 Z0 (Zx x1 x9) fun y=>
 Z0 (Zo 1 w y) fun z=>
 Z0 (Z3 false 1 z H) fun h=>
 Z0 (Z5 .add x9 (J zA 2)) fun A=>
 Z0 (Zk .string x1) fun B=>
 Z0 (Z5 .leq A B) fun C=>
 Zj C
 (Z0 (Z5 .add x9 (J zA 2)) fun D=>
 Z0 (Y8 x1 (some x9) (some D) none) fun E=>
 Z0 (Y7 .string (J zA 0) true x6 E H) fun j=>
 Z0 (ZL j 0) fun F=>
 Z0 (ZL j 1) fun I=>
 Zj I
 (Z0 (Z5 .add x9 (J zA 2)) fun K=>
 Z0 (Y8 x1 (some x9) (some K) none) fun L=>
 JD x1 x2 x3 x6 x9 L F H0 H)
 (JD x1 x2 x3 x6 x9 g h H0 H))
 (JD x1 x2 x3 x6 x9 g h H0 H):=Z9 ar
theorem DH:Bo x1 x2 x3 x6 x9 H0 H =
 Z0 (Zk .string x1) fun g=>
 Z0 (Z5 .lss x9 g) fun h=>
 Zj h
 (Om x1 x2 x3 x6 x9 H0 H)
 (some (ap,H)):=(ZC (C:=cfg) [4,6,7,9,14,15] (Zn 2 (Zy 109 Tryz.f109 H0)) _ _).trans (by kernel_rfl)
theorem Zfp:Nh x1 x2 x3 x6 H0 H =
 Bo x1 x2 x3 x6 (J zA 0) H0 H:=Z9 ar
theorem Zfs:Oq x1 x2 x3 x6 x16 x17 x18 H0 H =
 Z0 (Z5 .add x18 (J zA 1)) fun g=>
 Bp x1 x2 x3 x6 x16 x17 g H0 H:=Z9 ar
theorem Zfr:Oo x1 x2 x3 x6 x16 x17 x18 x19 H0 H =
 Z0 (Zo 2 x16 x18) fun u=>
 Z0 (Z3 true 2 u H) fun w=>
 Z0 (some ((.ptr H.length 0),H++[.cells [(.str []),(J zA 0)]])) fun j=>
 Z0 (Za 2 j.1 w j.2) fun g=>
 Z0 (Z6 0 j.1) fun y=>
 Z0 (Z3 false 1 y g.2) fun z=>
 Z0 (Z6 1 j.1) fun A=>
 Z0 (Z3 false 1 A g.2) fun B=>
 Z0 (Xw .string x6 z B g.2) fun h=>
 Oq x1 x2 x3 x6 x16 x17 x18 H0 h.2:=Z9 ar
theorem LE:Bp x1 x2 x3 x6 x16 x17 x18 H0 H =
 Z0 (Z5 .lss x18 x17) fun g=>
 Zj g
 (Oo x1 x2 x3 x6 x16 x17 x18 g H0 H)
 (Nh x1 x2 x3 x6 H0 H):=(ZC (C:=cfg) [4,6,7,9,14,15] (Zn 0 (Zcf H0)) _ _).trans (by kernel_rfl)
theorem Zgl:MA [p0,p1,p2] H=Zbt p0 p1 p2 H:=Be 75 [4,6,7,9,14,15] Tryz.func109
def RV (p0 p1 p2:AV)(H:Hp):Z4:=
 Z0 (Z3 false 1 p2 H) fun j=>
 Z0 ((ZB 1 [(0,p1)] [(J zA 0)]).map (.vs 1 .clip)) fun u=>
 Z0 (Y9 1 8 j u H) fun h=>
 Z0 (Za 1 p2 h.1 h.2) fun g=>
 some ((.bool true),g.2)
theorem CS:JX [p0,p1,p2] H=RV p0 p1 p2 H:=Be 10 [] Tryz.func110
def Lo:Z4:=
 Z0 (Zh Wb [p0,p1] H) fun g=>
 some (g.1,g.2)
theorem Za2:Du [p0,p1] H=Lo p0 p1 H:=Be 8 [] Tryz.func111
def DC:Z4:=aa 112 116 Tryz.f112 [1,1,1,1,1,1,1,1,1,1,1] H0 [(9,x9),(11,x11)] H
def DB:Z4:=aa 112 116 Tryz.f112 [1,1,1,1,1,1,1,1,1] H0 [(5,x5),(7,x7),(8,x8),(9,x9)] H
def WQ:Z4:=aa 112 116 Tryz.f112 [1,1,1,1,1,1,1,1] H0 [(5,x5),(6,x6),(7,x7),(8,x8),(9,x9)] H
def Jc:Z4:=aa 112 116 Tryz.f112 [1,1,1,1,1] H0 [(0,x0),(4,x4),(5,x5)] H
def DA:Z4:=aa 112 116 Tryz.f112 [1,1,1] H0 [(0,x0),(4,x4)] H
def DD:KL:=Zc (WU 112 116 Tryz.f112 [1,1,1]) (Zf cfg 116 112 Tryz.f112 H0)
theorem If:ZS 116 (DD H0):=Zw (C:=cfg) (kp:=cfg.keep 112) (ab Tryz.f112 [1,1,1]) (Zy 112 Tryz.f112 H0)
def Lq:Z4:=ZD 112 116 (ab Tryz.f112 [1,1,0,0,0,1]) (Zc (Yi 112 116 Tryz.f112 [1,1,0,0,0]) (Z7 0 (DD H0))) [(0,x0),(4,x4)] H
def Jd:Z4:=VW 112 116 (ab Tryz.f112 [1,1,0,0,0]) (Z7 0 (DD H0)) [(0,x0),(4,x4)] H
def Zgj:Z4:=
 Jd p0 (J zA 0) H H
theorem Tt:DC x9 x11 H0 H =
 some ((.tuple [x11,x9]),H):=Z9 au
theorem Zap:DB x5 x7 x8 x9 H0 H =
 Z0 (Zh RQ [x7,x8] H) fun g=>
 Z0 (VN (J zA 10000000000000) g.1) fun h=>
 Zj x5
 (Z0 (XL .neg h) fun j=>
 DC x9 j H0 g.2)
 (DC x9 h H0 g.2):=Z9 au
theorem Zao:WQ x5 x6 x7 x8 x9 H0 H =
 Z0 (Z5 .eql x6 (J zA 0)) fun g=>
 Z0 (Z8 g true ap (some x8)) fun h=>
 Z0 (Z8 g true ap (YR .eql h (.str []))) fun j=>
 Z0 (Zi g j (.bool false)) fun u=>
 Zj u
 (some ((.tuple [(J zA 0),(J zA 0)]),H))
 (DB x5 x7 x8 x9 H0 H):=Z9 au
theorem Zan:Jc x0 x4 x5 H0 H =
 Z0 (Y8 x0 (some x4) none none) fun A=>
 Z0 (Zh JW [A] H) fun g=>
 Z0 (Z5 .add x4 g.1) fun B=>
 Z0 (Y8 x0 (some x4) (some B) none) fun w=>
 Z0 (Z5 .add x4 g.1) fun h=>
 Z0 (Zk .string x0) fun t70=>
 Z0 (Z5 .lss h t70) fun u=>
 Z0 (Z8 u true ap (some x0)) fun C=>
 Z0 (Z8 u true ap (some h)) fun D=>
 Z0 (Z8 u true ap (Zx C D)) fun E=>
 Z0 (Z8 u true ap (Z5 .eql E (.int .u8 46))) fun F=>
 Z0 (Zi u F (.bool false)) fun I=>
 Zj I
 (Z0 (Z5 .add h (J zA 1)) fun K=>
 Z0 (Y8 x0 (some K) none none) fun L=>
 Z0 (Zh JW [L] g.2) fun j=>
 Z0 (Z5 .gtr g.1 (J zA 0)) fun y=>
 Z0 (Z8 y false ap (some j.1)) fun M=>
 Z0 (Z8 y false ap (Z5 .gtr M (J zA 0))) fun N=>
 Z0 (Zi y (.bool true) N) fun O=>
 Zj O
 (Z0 (Z5 .add h (J zA 1)) fun Q=>
 Z0 (Z5 .add h (J zA 1)) fun R=>
 Z0 (Z5 .add R j.1) fun S=>
 Z0 (Y8 x0 (some Q) (some S) none) fun T=>
 Z0 (Z5 .add (J zA 1) j.1) fun U=>
 Z0 (Z5 .add h U) fun z=>
 WQ x5 g.1 w T z H0 j.2)
 (WQ x5 g.1 w (.str []) h H0 j.2))
 (WQ x5 g.1 w (.str []) h H0 g.2):=Z9 au
theorem Zam:DA x0 x4 H0 H =
 Z0 (Zk .string x0) fun u=>
 Z0 (Z5 .lss x4 u) fun h=>
 Z0 (Z8 h true ap (some x0)) fun w=>
 Z0 (Z8 h true ap (some x4)) fun y=>
 Z0 (Z8 h true ap (Zx w y)) fun t37=>
 Z0 (Z8 h true ap (Z5 .eql t37 (.int .u8 45))) fun z=>
 Z0 (Zi h z (.bool false)) fun g=>
 Z0 (Z8 g false ap (some x4)) fun A=>
 Z0 (Z8 g false ap (some x0)) fun B=>
 Z0 (Z8 g false ap (Zk .string B)) fun C=>
 Z0 (Z8 g false ap (Z5 .lss A C)) fun D=>
 Z0 (Z8 g false ap (some D)) fun j=>
 Z0 (Z8 j true ap (some x0)) fun E=>
 Z0 (Z8 j true ap (some x4)) fun F=>
 Z0 (Z8 j true ap (Zx E F)) fun I=>
 Z0 (Z8 j true ap (Z5 .eql I (.int .u8 43))) fun K=>
 Z0 (Z8 g false ap (Zi j K (.bool false))) fun L=>
 Z0 (Zi g (.bool true) L) fun M=>
 Zj M
 (Z0 (Z5 .add x4 (J zA 1)) fun N=>
 Jc x0 N g H0 H)
 (Jc x0 x4 g H0 H):=Z9 au
theorem Tu:Lq x0 x4 H0 H =
 Z0 (Z5 .add x4 (J zA 1)) fun g=>
 Jd x0 g H0 H:=Z9 au
theorem Tv:Jd x0 x4 H0 H =
 Z0 (Zk .string x0) fun j=>
 Z0 (Z5 .lss x4 j) fun g=>
 Z0 (Z8 g true ap (some x0)) fun u=>
 Z0 (Z8 g true ap (some x4)) fun w=>
 Z0 (Z8 g true ap (Zx u w)) fun y=>
 Z0 (Z8 g true ap (Z5 .eql y (.int .u8 32))) fun z=>
 Z0 (Z8 g true ap (some z)) fun h=>
 Z0 (Z8 h false ap (some x0)) fun A=>
 Z0 (Z8 h false ap (some x4)) fun B=>
 Z0 (Z8 h false ap (Zx A B)) fun D=>
 Z0 (Z8 h false ap (Z5 .eql D (.int .u8 9))) fun E=>
 Z0 (Z8 g true ap (Zi h (.bool true) E)) fun F=>
 Z0 (Zi g F (.bool false)) fun I=>
 Zj I
 (Lq x0 x4 H0 H)
 (DA x0 x4 H0 H):=(ZC (C:=cfg) [3,4,7,14,16,19] (Zn 0 (If H0)) _ _).trans (by kernel_rfl)
theorem ZbZ:JV [p0] H=Zgj p0 H:=Be 116 [3,4,7,14,16,19] Tryz.func112
def AE:Z4:=aa 113 13 Tryz.f113 [1,1] H0 [] H
def IZ:Z4:=
 Z0 (Z5 .lss p0 p1) fun h=>
 Zj h
 (some ((J zA (-1)),H))
 (Z0 (Z5 .gtr p0 p1) fun g=>
 Zj g
 (some ((J zA 1),H))
 (AE H H))
theorem ZeE:AE H0 H =
 some ((J zA 0),H):=Z9 [5]
theorem Zfa:PV [p0,p1] H=IZ p0 p1 H:=Be 13 [5] Tryz.func113
def Ll:Z4:=
 Z0 (Z3 false 1 p2 H) fun A=>
 Z0 (Z5 .and A p0) fun t9=>
 Z0 (Z5 .neq t9 (J zA 0)) fun w=>
 Zj w
 (Z0 (Z3 false 1 p3 H) fun y=>
 Z0 (XA cfg (Zb cfg) p1 [y] H) fun g=>
 Z0 (Z3 false 1 p4 g.2) fun z=>
 Z0 (XA cfg (Zb cfg) p1 [z] g.2) fun h=>
 Z0 (Za 1 p3 g.1 h.2) fun j=>
 Z0 (Za 1 p4 h.1 j.2) fun u=>
 some (ap,u.2))
 (some (ap,H))
theorem OZ:Dr [p0,p1,p2,p3,p4] H=Ll p0 p1 p2 p3 p4 H:=Be 17 [] Tryz.func114
def Lm:Z4:=
 Z0 (Zbk ZeZ [p0,(.str [32,9])] H) fun g=>
 some (g.1,g.2)
theorem Za0:Ds [p0] H=Lm p0 H:=Be 5 [] Tryz.func115
def AD:Z4:=aa 117 44 Tryz.f117 [1,1,1] H0 [(3,x3)] H
def GG:KL:=Zc (WU 117 44 Tryz.f117 [1,1,1]) (Zf cfg 44 117 Tryz.f117 H0)
theorem Zbe:ZS 44 (GG H0):=Zw (C:=cfg) (kp:=cfg.keep 117) (ab Tryz.f117 [1,1,1]) (Zy 117 Tryz.f117 H0)
def QQ:Z4:=ZD 117 44 (ab Tryz.f117 [1,1,0,1,0,0,1,1,1]) (Zc (Yi 117 44 Tryz.f117 [1,1,0,1,0,0]) (Z7 0 (GG H0))) [(0,x0),(3,x3),(7,x7),(8,x8)] H
def TU:Z4:=ZD 117 44 (ab Tryz.f117 [1,1,0,1,0,0,1,1]) (Zc (Yi 117 44 Tryz.f117 [1,1,0,1,0,0]) (Z7 0 (GG H0))) [(0,x0),(3,x3),(7,x7),(8,x8),(9,x9)] H
def GH:Z4:=VW 117 44 (ab Tryz.f117 [1,1,0,1,0,0]) (Z7 0 (GG H0)) [(0,x0),(3,x3),(7,x7),(8,x8)] H
def IY:Z4:=
 Z0 (some ((.ptr H.length 0),H++[.bld 201 5 []])) fun g=>
 Z0 (Zk .string p0) fun h=>
 GH p0 g.1 h (J zA 0) H g.2
theorem ZeC:AD x3 H0 H =
 Z0 (stringE.run [x3] H) fun g=>
 some (g.1,g.2):=Z9 aw
theorem Mw:QQ x0 x3 x7 x8 H0 H =
 Z0 (Z5 .add x8 (J zA 1)) fun g=>
 GH x0 x3 x7 g H0 H:=Z9 aw
theorem ZeD:TU x0 x3 x7 x8 x9 H0 H =
 Z0 (Zx x0 x8) fun g=>
 Z0 (VH [g] H) fun h=>
 Z0 (Z8 h.1 false ap (some g)) fun B=>
 Z0 (Z8 h.1 false ap (Z5 .geq B (.int .u8 97))) fun C=>
 Z0 (Z8 h.1 false ap (some C)) fun w=>
 Z0 (Z8 w true ap (some g)) fun D=>
 Z0 (Z8 w true ap (Z5 .leq D (.int .u8 122))) fun E=>
 Z0 (Z8 h.1 false ap (Zi w E (.bool false))) fun F=>
 Z0 (Zi h.1 (.bool true) F) fun j=>
 Z0 (Z8 j false ap (some g)) fun I=>
 Z0 (Z8 j false ap (Z5 .geq I (.int .u8 65))) fun K=>
 Z0 (Z8 j false ap (some K)) fun y=>
 Z0 (Z8 y true ap (some g)) fun L=>
 Z0 (Z8 y true ap (Z5 .leq L (.int .u8 90))) fun M=>
 Z0 (Z8 j false ap (Zi y M (.bool false))) fun N=>
 Z0 (Zi j (.bool true) N) fun u=>
 Z0 (Z8 u false ap (some g)) fun O=>
 Z0 (Z8 u false ap (Z5 .geq O (.int .u8 48))) fun Q=>
 Z0 (Z8 u false ap (some Q)) fun z=>
 Z0 (Z8 z true ap (some g)) fun R=>
 Z0 (Z8 z true ap (Z5 .leq R (.int .u8 57))) fun t37=>
 Z0 (Z8 u false ap (Zi z t37 (.bool false))) fun S=>
 Z0 (Zi u (.bool true) S) fun T=>
 Zj T
 (Z0 (byteE.run [x3,g] h.2) fun A=>
 QQ x0 x3 x7 x8 H0 A.2)
 (QQ x0 x3 x7 x8 H0 h.2):=Z9 aw
theorem Mx:GH x0 x3 x7 x8 H0 H =
 Z0 (Z5 .lss x8 x7) fun t9=>
 Zj t9
 (TU x0 x3 x7 x8 t9 H0 H)
 (AD x3 H0 H):=(ZC (C:=cfg) [4,8,9] (Zn 0 (Zbe H0)) _ _).trans (by kernel_rfl)
theorem Zf9:PU [p0] H=IY p0 H:=Be 44 [4,8,9] Tryz.func117
def Ln:Z4:=
 Z0 (Z3 true 6 p1 H) fun t4=>
 Z0 (Zh PT [t4,p0] H) fun g=>
 some (g.1,g.2)
theorem Za1:Dt [p0,p1] H=Ln p0 p1 H:=Be 7 [] Tryz.func118
def IR:Z4:=
 Z0 (ZQ p0 H) fun g=>
 Z0 (Z3 true 6 g.1 g.2) fun t5=>
 Z0 (Zh Uz [t5] g.2) fun h=>
 Z0 (EM false 1 3 h.1) fun u=>
 Z0 (Zh RU [u,p1] h.2) fun j=>
 some (j.1,j.2)
theorem Zf6:PT [p0,p1] H=IR p0 p1 H:=Be 10 [] Tryz.func119
def Av:Z4:=aa 143 49 Tryz.f143 [1,1,1,1,1] H0 [(1,x1)] H
def Au:Z4:=aa 143 49 Tryz.f143 [1,1,1,1] H0 [(1,x1)] H
def GB:KL:=Zc (WU 143 49 Tryz.f143 [1,1,1,1]) (Zf cfg 49 143 Tryz.f143 H0)
theorem ZaL:ZS 49 (GB H0):=Zw (C:=cfg) (kp:=cfg.keep 143) (ab Tryz.f143 [1,1,1,1]) (Zy 143 Tryz.f143 H0)
def Ax:Z4:=ZD 143 49 (ab Tryz.f143 [1,1,1,0,1,0,0,1,1,1]) (Zc (Yi 143 49 Tryz.f143 [1,1,1,0,1,0,0]) (Z7 0 (GB H0))) [(1,x1),(27,x27),(28,x28),(29,x29)] H
def Aw:Z4:=ZD 143 49 (ab Tryz.f143 [1,1,1,0,1,0,0,1,1]) (Zc (Yi 143 49 Tryz.f143 [1,1,1,0,1,0,0]) (Z7 0 (GB H0))) [(1,x1),(27,x27),(28,x28),(29,x29),(30,x30)] H
def GC:Z4:=VW 143 49 (ab Tryz.f143 [1,1,1,0,1,0,0]) (Z7 0 (GB H0)) [(1,x1),(27,x27),(28,x28),(29,x29)] H
def At:Z4:=aa 143 49 Tryz.f143 [1,1,1] H0 [(1,x1)] H
def As:Z4:=aa 143 49 Tryz.f143 [1,1] H0 [(1,x1)] H
def IP:Z4:=
 Z0 (ZQ p0 H) fun g=>
 Z0 (Z6 0 g.1) fun j=>
 Z0 (Z3 false 1 j g.2) fun u=>
 Z0 (Zh KK [u] g.2) fun h=>
 Z0 (XL .not h.1) fun t9=>
 Zj t9
 (some ((J zA 4),h.2))
 (As g.1 H h.2)
theorem Zem:Av x1 H0 H =
 Z0 (Z6 5 x1) fun h=>
 Z0 (Z3 false 1 h H) fun j=>
 Z0 (Zh Vj [j] H) fun g=>
 some (g.1,g.2):=Z9 ax
theorem Zel:Au x1 H0 H =
 Z0 (Z6 4 x1) fun h=>
 Z0 (Z3 false 1 h H) fun j=>
 Z0 (Zh VG [j] H) fun g=>
 Z0 (Z5 .neq g.1 (J zA 0)) fun u=>
 Zj u
 (some (g.1,g.2))
 (Av x1 H0 g.2):=Z9 ax
theorem Zeo:Ax x1 x27 x28 x29 H0 H =
 Z0 (Z5 .add x29 (J zA 1)) fun g=>
 GC x1 x27 x28 g H0 H:=Z9 ax
theorem Zen:Aw x1 x27 x28 x29 x30 H0 H =
 Z0 (Zo 1 x27 x29) fun j=>
 Z0 (Z3 false 1 j H) fun h=>
 Z0 (Z5 .lss h (J zA 0)) fun g=>
 Z0 (Z8 g false ap (some h)) fun u=>
 Z0 (Z8 g false ap (Z5 .gtr u (J zA 65535))) fun t37=>
 Z0 (Zi g (.bool true) t37) fun w=>
 Zj w
 (some ((J zA 2),H))
 (Ax x1 x27 x28 x29 H0 H):=Z9 ax
theorem Ml:GC x1 x27 x28 x29 H0 H =
 Z0 (Z5 .lss x29 x28) fun g=>
 Zj g
 (Aw x1 x27 x28 x29 g H0 H)
 (Au x1 H0 H):=(ZC (C:=cfg) [3,5,7,10,11,14] (Zn 0 (ZaL H0)) _ _).trans (by kernel_rfl)
theorem Zek:At x1 H0 H =
 Z0 (Z6 1 x1) fun h=>
 Z0 (Z3 false 1 h H) fun g=>
 Z0 (Zk (.slice 3) g) fun j=>
 GC x1 g j (J zA 0) H0 H:=Z9 ax
theorem Zej:As x1 H0 H =
 Z0 (Z6 1 x1) fun j=>
 Z0 (Z3 false 1 j H) fun u=>
 Z0 (Zk (.slice 3) u) fun w=>
 Z0 (Z5 .neq w (J zA 256)) fun g=>
 Z0 (Z8 g false ap (Z6 2 x1)) fun y=>
 Z0 (Z8 g false ap (Z3 false 1 y H)) fun z=>
 Z0 (Z8 g false ap (Zk .string z)) fun A=>
 Z0 (Z8 g false ap (Z5 .neq A (J zA 256))) fun B=>
 Z0 (Zi g (.bool true) B) fun h=>
 Z0 (Z8 h false ap (Z6 3 x1)) fun C=>
 Z0 (Z8 h false ap (Z3 false 1 C H)) fun D=>
 Z0 (Z8 h false ap (Zk .string D)) fun E=>
 Z0 (Z8 h false ap (Z5 .neq E (J zA 256))) fun F=>
 Z0 (Zi h (.bool true) F) fun I=>
 Zj I
 (some ((J zA 2),H))
 (At x1 H0 H):=Z9 ax
theorem Zf5:Bi [p0] H=IP p0 H:=Be 49 [3,5,7,10,11,14] Tryz.func143
def Lz:Z4:=aa 144 18 Tryz.f144 [1,1,1] H0 [(0,x0),(1,x1)] H
def Jh:KL:=Zc (WU 144 18 Tryz.f144 [1,1,1]) (Zf cfg 18 144 Tryz.f144 H0)
theorem Iq:ZS 18 (Jh H0):=Zw (C:=cfg) (kp:=cfg.keep 144) (ab Tryz.f144 [1,1,1]) (Zy 144 Tryz.f144 H0)
def LB:Z4:=ZD 144 18 (ab Tryz.f144 [1,1,0,1,0,0,1,1,1]) (Zc (Yi 144 18 Tryz.f144 [1,1,0,1,0,0]) (Z7 0 (Jh H0))) [(0,x0),(1,x1),(5,x5),(6,x6)] H
def LA:Z4:=ZD 144 18 (ab Tryz.f144 [1,1,0,1,0,0,1,1]) (Zc (Yi 144 18 Tryz.f144 [1,1,0,1,0,0]) (Z7 0 (Jh H0))) [(0,x0),(1,x1),(5,x5),(6,x6),(7,x7)] H
def Ji:Z4:=VW 144 18 (ab Tryz.f144 [1,1,0,1,0,0]) (Z7 0 (Jh H0)) [(0,x0),(1,x1),(5,x5),(6,x6)] H
def S5:Z4:=
 Z0 (some ((.ptr H.length 0),H++[.cells [(.str []),.nils,(.str []),(.str []),.nils,.nils]])) fun h=>
 Z0 (K2 1 8 false (J zA 0) (J zA 256) (J zA 256) h.2) fun g=>
 Z0 (Zk (.slice 3) g.1) fun t5=>
 Ji h.1 g.1 t5 (J zA 0) H g.2
theorem ZaS:Lz x0 x1 H0 H =
 Z0 (Zh Va [(.int .u8 65),(.int .u8 90),(J zA 32)] H) fun g=>
 Z0 (Zh Va [(.int .u8 97),(.int .u8 122),(J zA (-32))] g.2) fun h=>
 Z0 ((YS [(0,1,(.str [112,111,115,105,120])),(1,1,x1),(2,1,g.1),(3,1,h.1)] [(.str []),.nils,(.str []),(.str []),.nils,.nils]).map .agg) fun u=>
 Z0 (Za 6 x0 u h.2) fun j=>
 Z0 (Z3 true 6 x0 j.2) fun w=>
 some (w,j.2):=Z9 [4,6,7]
theorem ZaU:LB x0 x1 x5 x6 H0 H =
 Z0 (Z5 .add x6 (J zA 1)) fun g=>
 Ji x0 x1 x5 g H0 H:=Z9 [4,6,7]
theorem ZaT:LA x0 x1 x5 x6 x7 H0 H =
 Z0 (Zo 1 x1 x6) fun h=>
 Z0 (Za 1 h x6 H) fun g=>
 LB x0 x1 x5 x6 H0 g.2:=Z9 [4,6,7]
theorem ZaV:Ji x0 x1 x5 x6 H0 H =
 Z0 (Z5 .lss x6 x5) fun g=>
 Zj g
 (LA x0 x1 x5 x6 g H0 H)
 (Lz x0 x1 H0 H):=(ZC (C:=cfg) [4,6,7] (Zn 0 (Iq H0)) _ _).trans (by kernel_rfl)
theorem Zc2:FX [] H=S5 H:=Be 18 [4,6,7] Tryz.func144
def FZ:Z4:=
 Z0 (Zay .cmp [p0,p1] H) fun g=>
 some (g.1,g.2)
theorem Bk:Wb [p0,p1] H=FZ p0 p1 H:=Be 8 [] Tryz.func145
def Lr:Z4:=aa 146 23 Tryz.f146 [1,1,1] H0 [(3,x3)] H
def DE:KL:=Zc (WU 146 23 Tryz.f146 [1,1,1]) (Zf cfg 23 146 Tryz.f146 H0)
theorem Ig:ZS 23 (DE H0):=Zw (C:=cfg) (kp:=cfg.keep 146) (ab Tryz.f146 [1,1,1]) (Zy 146 Tryz.f146 H0)
def Ls:Z4:=ZD 146 23 (ab Tryz.f146 [1,1,0,0,0,1]) (Zc (Yi 146 23 Tryz.f146 [1,1,0,0,0]) (Z7 0 (DE H0))) [(0,x0),(3,x3)] H
def Je:Z4:=VW 146 23 (ab Tryz.f146 [1,1,0,0,0]) (Z7 0 (DE H0)) [(0,x0),(3,x3)] H
def Zgk:Z4:=
 Je p0 (J zA 0) H H
theorem K4:Lr x3 H0 H =
 some (x3,H):=Z9 [3,4]
theorem Zaq:Ls x0 x3 H0 H =
 Z0 (Z5 .add x3 (J zA 1)) fun g=>
 Je x0 g H0 H:=Z9 [3,4]
theorem Tw:Je x0 x3 H0 H =
 Z0 (Zk .string x0) fun E=>
 Z0 (Z5 .lss x3 E) fun h=>
 Z0 (Z8 h true ap (some x0)) fun t9=>
 Z0 (Z8 h true ap (some x3)) fun j=>
 Z0 (Z8 h true ap (Zx t9 j)) fun u=>
 Z0 (Z8 h true ap (Z5 .geq u (.int .u8 48))) fun w=>
 Z0 (Zi h w (.bool false)) fun g=>
 Z0 (Z8 g true ap (some x0)) fun y=>
 Z0 (Z8 g true ap (some x3)) fun z=>
 Z0 (Z8 g true ap (Zx y z)) fun A=>
 Z0 (Z8 g true ap (Z5 .leq A (.int .u8 57))) fun B=>
 Z0 (Zi g B (.bool false)) fun D=>
 Zj D
 (Ls x0 x3 H0 H)
 (Lr x3 H0 H):=(ZC (C:=cfg) [3,4] (Zn 0 (Ig H0)) _ _).trans (by kernel_rfl)
theorem Zc0:JW [p0] H=Zgk p0 H:=Be 23 [3,4] Tryz.func146
def SG:Z4:=aa 147 29 Tryz.f147 [1,1,1] H0 [(1,x1),(5,x5)] H
def K5:KL:=Zc (WU 147 29 Tryz.f147 [1,1,1]) (Zf cfg 29 147 Tryz.f147 H0)
theorem Oe:ZS 29 (K5 H0):=Zw (C:=cfg) (kp:=cfg.keep 147) (ab Tryz.f147 [1,1,1]) (Zy 147 Tryz.f147 H0)
def SI:Z4:=ZD 147 29 (ab Tryz.f147 [1,1,0,1,0,0,1,1,1]) (Zc (Yi 147 29 Tryz.f147 [1,1,0,1,0,0]) (Z7 0 (K5 H0))) [(0,x0),(1,x1),(5,x5),(8,x8),(9,x9)] H
def SH:Z4:=ZD 147 29 (ab Tryz.f147 [1,1,0,1,0,0,1,1]) (Zc (Yi 147 29 Tryz.f147 [1,1,0,1,0,0]) (Z7 0 (K5 H0))) [(0,x0),(1,x1),(5,x5),(8,x8),(9,x9),(10,x10)] H
def K6:Z4:=VW 147 29 (ab Tryz.f147 [1,1,0,1,0,0]) (Z7 0 (K5 H0)) [(0,x0),(1,x1),(5,x5),(8,x8),(9,x9)] H
def HD:Z4:=
 Z0 (Zk .string p0) fun g=>
 K6 p0 p1 (J zA 0) g (J zA 0) H H
theorem Zc9:SG x1 x5 H0 H =
 Z0 (Z5 .mul x5 (J zA 10000)) fun h=>
 Z0 (Zh GO [x1] H) fun g=>
 Z0 (Z5 .add h g.1) fun j=>
 Z0 (VN (J zA 10000000000001) j) fun u=>
 some (u,g.2):=Z9 aw
theorem Zcb:SI x0 x1 x5 x8 x9 H0 H =
 Z0 (Z5 .add x9 (J zA 1)) fun g=>
 K6 x0 x1 x5 x8 g H0 H:=Z9 aw
theorem Zca:SH x0 x1 x5 x8 x9 x10 H0 H =
 Z0 (Z5 .mul (J zA 10) x5) fun h=>
 Z0 (Zx x0 x9) fun j=>
 Z0 (Z5 .sub j (.int .u8 48)) fun u=>
 Z0 (Yq .i64 u) fun w=>
 Z0 (Z5 .add h w) fun g=>
 Z0 (Z5 .gtr g (J zA 1000000000)) fun y=>
 Zj y
 (some ((J zA 10000000000001),H))
 (SI x0 x1 g x8 x9 H0 H):=Z9 aw
theorem Pn:K6 x0 x1 x5 x8 x9 H0 H =
 Z0 (Z5 .lss x9 x8) fun g=>
 Zj g
 (SH x0 x1 x5 x8 x9 g H0 H)
 (SG x1 x5 H0 H):=(ZC (C:=cfg) [4,8,9] (Zn 0 (Oe H0)) _ _).trans (by kernel_rfl)
theorem ZcP:RQ [p0,p1] H=HD p0 p1 H:=Be 29 [4,8,9] Tryz.func147
def C2:Z4:=aa 155 26 Tryz.f155 [1,1,1] H0 [(5,x5)] H
def Kh:KL:=Zc (WU 155 26 Tryz.f155 [1,1,1]) (Zf cfg 26 155 Tryz.f155 H0)
theorem Ot:ZS 26 (Kh H0):=Zw (C:=cfg) (kp:=cfg.keep 155) (ab Tryz.f155 [1,1,1]) (Zy 155 Tryz.f155 H0)
def C4:Z4:=ZD 155 26 (ab Tryz.f155 [1,1,0,1,0,0,1,1,1]) (Zc (Yi 155 26 Tryz.f155 [1,1,0,1,0,0]) (Z7 0 (Kh H0))) [(0,x0),(5,x5),(10,x10),(11,x11)] H
def C3:Z4:=ZD 155 26 (ab Tryz.f155 [1,1,0,1,0,0,1,1]) (Zc (Yi 155 26 Tryz.f155 [1,1,0,1,0,0]) (Z7 0 (Kh H0))) [(0,x0),(5,x5),(10,x10),(11,x11),(12,x12)] H
def Ki:Z4:=VW 155 26 (ab Tryz.f155 [1,1,0,1,0,0]) (Z7 0 (Kh H0)) [(0,x0),(5,x5),(10,x10),(11,x11)] H
def HG:Z4:=
 Z0 (Zak p1 H) fun g=>
 Z0 (Zk (.slice 5) g.1) fun h=>
 Ki p0 g.1 h (J zA 0) H g.2
theorem Zcg:C2 x5 H0 H =
 Z0 (Qb x5 H) fun g=>
 some (g,H):=Z9 [4,6,7]
theorem Zci:C4 x0 x5 x10 x11 H0 H =
 Z0 (Z5 .add x11 (J zA 1)) fun g=>
 Ki x0 x5 x10 g H0 H:=Z9 [4,6,7]
theorem Zch:C3 x0 x5 x10 x11 x12 H0 H =
 Z0 (Zo 1 x5 x11) fun h=>
 Z0 (Z3 false 1 h H) fun j=>
 Z0 (Zx x0 j) fun u=>
 Z0 (Zo 1 x5 x11) fun w=>
 Z0 (Za 1 w u H) fun g=>
 C4 x0 x5 x10 x11 H0 g.2:=Z9 [4,6,7]
theorem Pt:Ki x0 x5 x10 x11 H0 H =
 Z0 (Z5 .lss x11 x10) fun g=>
 Zj g
 (C3 x0 x5 x10 x11 g H0 H)
 (C2 x5 H0 H):=(ZC (C:=cfg) [4,6,7] (Zn 0 (Ot H0)) _ _).trans (by kernel_rfl)
theorem ZcT:RU [p0,p1] H=HG p0 p1 H:=Be 26 [4,6,7] Tryz.func155
def Ni:Z4:=aa 173 54 Tryz.f173 [1,1] H0 [(0,x0)] H
def Bq:KL:=Zc (WU 173 54 Tryz.f173 [1,1]) (Zf cfg 54 173 Tryz.f173 H0)
theorem Zcj:ZS 54 (Bq H0):=Zw (C:=cfg) (kp:=cfg.keep 173) (ab Tryz.f173 [1,1]) (Zy 173 Tryz.f173 H0)
def Nk:Z4:=ZD 173 54 (ab Tryz.f173 [1,0,1,0,0,1,1,1]) (Zc (Yi 173 54 Tryz.f173 [1,0,1,0,0]) (Z7 0 (Bq H0))) [(0,x0),(7,x7),(8,x8)] H
def Nj:Z4:=ZD 173 54 (ab Tryz.f173 [1,0,1,0,0,1,1]) (Zc (Yi 173 54 Tryz.f173 [1,0,1,0,0]) (Z7 0 (Bq H0))) [(0,x0),(7,x7),(8,x8),(9,x9)] H
def Br:Z4:=VW 173 54 (ab Tryz.f173 [1,0,1,0,0]) (Z7 0 (Bq H0)) [(0,x0),(7,x7),(8,x8)] H
def Zbu:Z4:=
 Z0 (Zk .string p0) fun g=>
 Br p0 g (J zA 0) H H
theorem Zft:Ni x0 H0 H =
 Z0 (YR .neq x0 (.str [])) fun g=>
 Z0 (Z8 g true ap (some x0)) fun h=>
 Z0 (Z8 g true ap (Zk .string h)) fun j=>
 Z0 (Z8 g true ap (Z5 .leq j (J zA 32))) fun u=>
 Z0 (Zi g u (.bool false)) fun w=>
 some (w,H):=Z9 [3,8,9]
theorem LF:Nk x0 x7 x8 H0 H =
 Z0 (Z5 .add x8 (J zA 1)) fun g=>
 Br x0 x7 g H0 H:=Z9 [3,8,9]
theorem Zfu:Nj x0 x7 x8 x9 H0 H =
 Z0 (Zx x0 x8) fun g=>
 Z0 (Z5 .eql g (.int .u8 95)) fun j=>
 Z0 (Z8 j false ap (some g)) fun A=>
 Z0 (Z8 j false ap (Z5 .geq A (.int .u8 97))) fun B=>
 Z0 (Z8 j false ap (some B)) fun w=>
 Z0 (Z8 w true ap (some g)) fun C=>
 Z0 (Z8 w true ap (Z5 .leq C (.int .u8 122))) fun D=>
 Z0 (Z8 j false ap (Zi w D (.bool false))) fun E=>
 Z0 (Zi j (.bool true) E) fun u=>
 Z0 (Z8 u false ap (some g)) fun F=>
 Z0 (Z8 u false ap (Z5 .geq F (.int .u8 65))) fun I=>
 Z0 (Z8 u false ap (some I)) fun y=>
 Z0 (Z8 y true ap (some g)) fun K=>
 Z0 (Z8 y true ap (Z5 .leq K (.int .u8 90))) fun L=>
 Z0 (Z8 u false ap (Zi y L (.bool false))) fun M=>
 Z0 (Zi u (.bool true) M) fun N=>
 Z0 (XL .not N) fun h=>
 Z0 (Z8 h true ap (some x8)) fun O=>
 Z0 (Z8 h true ap (Z5 .eql O (J zA 0))) fun Q=>
 Z0 (Z8 h true ap (some Q)) fun t37=>
 Z0 (Z8 t37 false ap (some g)) fun R=>
 Z0 (Z8 t37 false ap (Z5 .lss R (.int .u8 48))) fun S=>
 Z0 (Z8 h true ap (Zi t37 (.bool true) S)) fun T=>
 Z0 (Z8 h true ap (some T)) fun z=>
 Z0 (Z8 z false ap (some g)) fun U=>
 Z0 (Z8 z false ap (Z5 .gtr U (.int .u8 57))) fun V=>
 Z0 (Z8 h true ap (Zi z (.bool true) V)) fun W=>
 Z0 (Zi h W (.bool false)) fun X=>
 Zj X
 (some ((.bool false),H))
 (Nk x0 x7 x8 H0 H):=Z9 [3,8,9]
theorem Jj:Br x0 x7 x8 H0 H =
 Z0 (Z5 .lss x8 x7) fun t9=>
 Zj t9
 (Nj x0 x7 x8 t9 H0 H)
 (Ni x0 H0 H):=(ZC (C:=cfg) [3,8,9] (Zn 0 (Zcj H0)) _ _).trans (by kernel_rfl)
theorem Zgm:KK [p0] H=Zbu p0 H:=Be 54 [3,8,9] Tryz.func173
def Ff:Z4:=aa 174 28 Tryz.f174 [1,1,1,1] H0 [] H
def XY:KL:=Zc (WU 174 28 Tryz.f174 [1,1,1,1]) (Zf cfg 28 174 Tryz.f174 H0)
theorem Mm:ZS 28 (XY H0):=Zw (C:=cfg) (kp:=cfg.keep 174) (ab Tryz.f174 [1,1,1,1]) (Zy 174 Tryz.f174 H0)
def Fi:Z4:=ZD 174 28 (ab Tryz.f174 [1,1,1,0,1,0,0,1,1,1]) (Zc (Yi 174 28 Tryz.f174 [1,1,1,0,1,0,0]) (Z7 0 (XY H0))) [(3,x3),(10,x10),(11,x11),(12,x12)] H
def Fl:KL:=Zc (WU 174 28 Tryz.f174 [1,1,1,0,1,0,0,1,1,1]) (Zc (Yi 174 28 Tryz.f174 [1,1,1,0,1,0,0]) (Z7 0 (XY H0)))
def Fk:Z4:=ZD 174 28 (ab Tryz.f174 [1,1,1,0,1,0,0,1,1,0,0,1,1,1]) (Z7 1 (Fl H0)) [(3,x3),(5,x5),(10,x10),(11,x11),(12,x12)] H
def Fj:Z4:=ZD 174 28 (ab Tryz.f174 [1,1,1,0,1,0,0,1,1,0,0,1,1]) (Z7 1 (Fl H0)) [(3,x3),(5,x5),(10,x10),(11,x11),(12,x12)] H
def Fh:Z4:=ZD 174 28 (ab Tryz.f174 [1,1,1,0,1,0,0,1,1]) (Zc (Yi 174 28 Tryz.f174 [1,1,1,0,1,0,0]) (Z7 0 (XY H0))) [(3,x3),(10,x10),(11,x11),(12,x12),(13,x13)] H
def Vr:Z4:=VW 174 28 (ab Tryz.f174 [1,1,1,0,1,0,0]) (Z7 0 (XY H0)) [(3,x3),(10,x10),(11,x11),(12,x12)] H
def Fe:Z4:=aa 174 28 Tryz.f174 [1,1] H0 [(0,x0)] H
def Rl:Z4:=
 Z0 (Zk (.slice 246) p0) fun g=>
 Z0 (Z5 .gtr g (J zA 24)) fun h=>
 Zj h
 (some ((J zA 3),H))
 (Fe p0 H H)
theorem Er:Ff H0 H =
 some ((J zA 0),H):=Z9 ay
theorem Et:Fi x3 x10 x11 x12 H0 H =
 Z0 (Z5 .add x12 (J zA 1)) fun g=>
 Vr x3 x10 x11 g H0 H:=Z9 ay
theorem Ev:Fk x3 x5 x10 x11 x12 H0 H =
 Z0 (Z6 0 x5) fun h=>
 Z0 (Z3 false 1 h H) fun j=>
 Z0 (Xw .string x3 j (.bool true) H) fun g=>
 Fi x3 x10 x11 x12 H0 g.2:=Z9 ay
theorem Eu:Fj x3 x5 x10 x11 x12 H0 H =
 Z0 (Z6 0 x5) fun g=>
 Z0 (Z3 false 1 g H) fun h=>
 Z0 (Y7 .string (.bool false) false x3 h H) fun j=>
 Zj j
 (some ((J zA 6),H))
 (Fk x3 x5 x10 x11 x12 H0 H):=Z9 ay
theorem Es:Fh x3 x10 x11 x12 x13 H0 H =
 Z0 (Zo 5 x10 x12) fun u=>
 Z0 (Z3 true 5 u H) fun w=>
 Z0 (some ((.ptr H.length 0),H++[.cells [(.str []),(.int .u64 0),(.int .u64 0),(.int .u64 0),(.int .u64 0)]])) fun j=>
 Z0 (Za 5 j.1 w j.2) fun h=>
 Z0 (Z6 0 j.1) fun y=>
 Z0 (Z3 false 1 y h.2) fun z=>
 Z0 (Zh KK [z] h.2) fun g=>
 Z0 (XL .not g.1) fun A=>
 Zj A
 (some ((J zA 4),g.2))
 (Fj x3 j.1 x10 x11 x12 H0 g.2):=Z9 ay
theorem GD:Vr x3 x10 x11 x12 H0 H =
 Z0 (Z5 .lss x12 x11) fun g=>
 Zj g
 (Fh x3 x10 x11 x12 g H0 H)
 (Ff H0 H):=(ZC (C:=cfg) [3,6,9,11,12,13] (Zn 0 (Mm H0)) _ _).trans (by kernel_rfl)
theorem Ep:Fe x0 H0 H =
 Z0 (some ((.map H.length),H++[.map [] 0])) fun h=>
 Z0 (Zk (.slice 246) x0) fun g=>
 Vr h.1 x0 g (J zA 0) H0 h.2:=Z9 ay
theorem S9:VG [p0] H=Rl p0 H:=Be 28 [3,6,9,11,12,13] Tryz.func174
def D5:Z4:=aa 175 38 Tryz.f175 [1,1,1,1] H0 [] H
def XI:KL:=Zc (WU 175 38 Tryz.f175 [1,1,1,1]) (Zf cfg 38 175 Tryz.f175 H0)
theorem Ng:ZS 38 (XI H0):=Zw (C:=cfg) (kp:=cfg.keep 175) (ab Tryz.f175 [1,1,1,1]) (Zy 175 Tryz.f175 H0)
def D7:Z4:=ZD 175 38 (ab Tryz.f175 [1,1,1,0,1,0,0,1,1,1]) (Zc (Yi 175 38 Tryz.f175 [1,1,1,0,1,0,0]) (Z7 0 (XI H0))) [(3,x3),(10,x10),(11,x11),(12,x12)] H
def Da:KL:=Zc (WU 175 38 Tryz.f175 [1,1,1,0,1,0,0,1,1,1]) (Zc (Yi 175 38 Tryz.f175 [1,1,1,0,1,0,0]) (Z7 0 (XI H0)))
def D9:Z4:=ZD 175 38 (ab Tryz.f175 [1,1,1,0,1,0,0,1,1,0,0,1,1,1]) (Z7 1 (Da H0)) [(3,x3),(5,x5),(10,x10),(11,x11),(12,x12)] H
def D8:Z4:=ZD 175 38 (ab Tryz.f175 [1,1,1,0,1,0,0,1,1,0,0,1,1]) (Z7 1 (Da H0)) [(3,x3),(5,x5),(10,x10),(11,x11),(12,x12)] H
def D6:Z4:=ZD 175 38 (ab Tryz.f175 [1,1,1,0,1,0,0,1,1]) (Zc (Yi 175 38 Tryz.f175 [1,1,1,0,1,0,0]) (Z7 0 (XI H0))) [(3,x3),(10,x10),(11,x11),(12,x12),(13,x13)] H
def WZ:Z4:=VW 175 38 (ab Tryz.f175 [1,1,1,0,1,0,0]) (Z7 0 (XI H0)) [(3,x3),(10,x10),(11,x11),(12,x12)] H
def D4:Z4:=aa 175 38 Tryz.f175 [1,1] H0 [(0,x0)] H
def DV:Z4:=
 Z0 (Zk (.slice 189) p0) fun g=>
 Z0 (Z5 .gtr g (J zA 64)) fun h=>
 Zj h
 (some ((J zA 3),H))
 (D4 p0 H H)
theorem MW:D5 H0 H =
 some ((J zA 0),H):=Z9 ay
theorem MY:D7 x3 x10 x11 x12 H0 H =
 Z0 (Z5 .add x12 (J zA 1)) fun t37=>
 WZ x3 x10 x11 t37 H0 H:=Z9 ay
theorem L0:D9 x3 x5 x10 x11 x12 H0 H =
 Z0 (Z6 0 x5) fun h=>
 Z0 (Z3 false 1 h H) fun j=>
 Z0 (Xw .string x3 j (.bool true) H) fun g=>
 D7 x3 x10 x11 x12 H0 g.2:=Z9 ay
theorem MZ:D8 x3 x5 x10 x11 x12 H0 H =
 Z0 (Z6 0 x5) fun g=>
 Z0 (Z3 false 1 g H) fun h=>
 Z0 (Y7 .string (.bool false) false x3 h H) fun j=>
 Zj j
 (some ((J zA 6),H))
 (D9 x3 x5 x10 x11 x12 H0 H):=Z9 ay
theorem MX:D6 x3 x10 x11 x12 x13 H0 H =
 Z0 (Zo 2 x10 x12) fun w=>
 Z0 (Z3 true 2 w H) fun y=>
 Z0 (some ((.ptr H.length 0),H++[.cells [(.str []),(J zA 0)]])) fun u=>
 Z0 (Za 2 u.1 y u.2) fun g=>
 Z0 (Z6 0 u.1) fun z=>
 Z0 (Z3 false 1 z g.2) fun A=>
 Z0 (Zk .string A) fun B=>
 Z0 (Z5 .neq B (J zA 2)) fun h=>
 Z0 (Z8 h false ap (Z6 1 u.1)) fun C=>
 Z0 (Z8 h false ap (Z3 false 1 C g.2)) fun D=>
 Z0 (Z8 h false ap (Z5 .lss D (J zA 0))) fun E=>
 Z0 (Zi h (.bool true) E) fun j=>
 Z0 (Z8 j false ap (Z6 1 u.1)) fun F=>
 Z0 (Z8 j false ap (Z3 false 1 F g.2)) fun I=>
 Z0 (Z8 j false ap (Z5 .gtr I (J zA 65535))) fun K=>
 Z0 (Zi j (.bool true) K) fun L=>
 Zj L
 (some ((J zA 2),g.2))
 (D8 x3 u.1 x10 x11 x12 H0 g.2):=Z9 ay
theorem KT:WZ x3 x10 x11 x12 H0 H =
 Z0 (Z5 .lss x12 x11) fun g=>
 Zj g
 (D6 x3 x10 x11 x12 g H0 H)
 (D5 H0 H):=(ZC (C:=cfg) [3,6,9,11,12,13] (Zn 0 (Ng H0)) _ _).trans (by kernel_rfl)
theorem MV:D4 x0 H0 H =
 Z0 (some ((.map H.length),H++[.map [] 0])) fun h=>
 Z0 (Zk (.slice 189) x0) fun g=>
 WZ h.1 x0 g (J zA 0) H0 h.2:=Z9 ay
theorem LU:Vj [p0] H=DV p0 H:=Be 38 [3,6,9,11,12,13] Tryz.func175
def LG:Z4:=aa 176 40 Tryz.f176 [1,1,1] H0 [(7,x7)] H
def Jk:KL:=Zc (WU 176 40 Tryz.f176 [1,1,1]) (Zf cfg 40 176 Tryz.f176 H0)
theorem Ir:ZS 40 (Jk H0):=Zw (C:=cfg) (kp:=cfg.keep 176) (ab Tryz.f176 [1,1,1]) (Zy 176 Tryz.f176 H0)
def DI:Z4:=ZD 176 40 (ab Tryz.f176 [1,1,0,1,0,0,1,1,1]) (Zc (Yi 176 40 Tryz.f176 [1,1,0,1,0,0]) (Z7 0 (Jk H0))) [(0,x0),(1,x1),(2,x2),(7,x7),(11,x11),(12,x12)] H
def LH:Z4:=ZD 176 40 (ab Tryz.f176 [1,1,0,1,0,0,1,1]) (Zc (Yi 176 40 Tryz.f176 [1,1,0,1,0,0]) (Z7 0 (Jk H0))) [(0,x0),(1,x1),(2,x2),(7,x7),(11,x11),(12,x12),(13,x13)] H
def Jl:Z4:=VW 176 40 (ab Tryz.f176 [1,1,0,1,0,0]) (Z7 0 (Jk H0)) [(0,x0),(1,x1),(2,x2),(7,x7),(11,x11),(12,x12)] H
def Sa:Z4:=
 Z0 (K2 1 1 false (.int .u8 0) (J zA 256) (J zA 256) H) fun g=>
 Z0 (Zk (.slice 5) g.1) fun h=>
 Jl p0 p1 p2 g.1 h (J zA 0) H g.2
theorem ZaW:LG x7 H0 H =
 Z0 (Qb x7 H) fun g=>
 some (g,H):=Z9 aw
theorem ZaY:DI x0 x1 x2 x7 x11 x12 H0 H =
 Z0 (Z5 .add x12 (J zA 1)) fun t37=>
 Jl x0 x1 x2 x7 x11 t37 H0 H:=Z9 aw
theorem ZaX:LH x0 x1 x2 x7 x11 x12 x13 H0 H =
 Z0 (Yq .u8 x12) fun u=>
 Z0 (Zo 1 x7 x12) fun w=>
 Z0 (Za 1 w u H) fun j=>
 Z0 (Yq .u8 x12) fun y=>
 Z0 (Z5 .geq y x0) fun g=>
 Z0 (Z8 g true ap (some x12)) fun z=>
 Z0 (Z8 g true ap (Yq .u8 z)) fun A=>
 Z0 (Z8 g true ap (some x1)) fun B=>
 Z0 (Z8 g true ap (Z5 .leq A B)) fun C=>
 Z0 (Zi g C (.bool false)) fun D=>
 Zj D
 (Z0 (Z5 .add x12 x2) fun E=>
 Z0 (Yq .u8 E) fun F=>
 Z0 (Zo 1 x7 x12) fun I=>
 Z0 (Za 1 I F j.2) fun h=>
 DI x0 x1 x2 x7 x11 x12 H0 h.2)
 (DI x0 x1 x2 x7 x11 x12 H0 j.2):=Z9 aw
theorem ZaZ:Jl x0 x1 x2 x7 x11 x12 H0 H =
 Z0 (Z5 .lss x12 x11) fun g=>
 Zj g
 (LH x0 x1 x2 x7 x11 x12 g H0 H)
 (LG x7 H0 H):=(ZC (C:=cfg) [4,8,9] (Zn 0 (Ir H0)) _ _).trans (by kernel_rfl)
theorem Zc3:Va [p0,p1,p2] H=Sa p0 p1 p2 H:=Be 40 [4,8,9] Tryz.func176
def Pl:Z4:=aa 178 23 Tryz.f178 [1,1,1] H0 [(3,x3)] H
def UY:KL:=Zc (WU 178 23 Tryz.f178 [1,1,1]) (Zf cfg 23 178 Tryz.f178 H0)
theorem SF:ZS 23 (UY H0):=Zw (C:=cfg) (kp:=cfg.keep 178) (ab Tryz.f178 [1,1,1]) (Zy 178 Tryz.f178 H0)
def Gj:Z4:=ZD 178 23 (ab Tryz.f178 [1,1,0,1,0,0,1,1,1]) (Zc (Yi 178 23 Tryz.f178 [1,1,0,1,0,0]) (Z7 0 (UY H0))) [(0,x0),(3,x3),(5,x5)] H
def Pm:Z4:=ZD 178 23 (ab Tryz.f178 [1,1,0,1,0,0,1,1]) (Zc (Yi 178 23 Tryz.f178 [1,1,0,1,0,0]) (Z7 0 (UY H0))) [(0,x0),(3,x3),(5,x5),(6,x6)] H
def UZ:Z4:=VW 178 23 (ab Tryz.f178 [1,1,0,1,0,0]) (Z7 0 (UY H0)) [(0,x0),(3,x3),(5,x5)] H
def ZcO:Z4:=
 UZ p0 (J zA 0) (J zA 0) H H
theorem Ih:Pl x3 H0 H =
 some (x3,H):=Z9 aw
theorem F4:Gj x0 x3 x5 H0 H =
 Z0 (Z5 .add x5 (J zA 1)) fun g=>
 UZ x0 x3 g H0 H:=Z9 aw
theorem Ii:Pm x0 x3 x5 x6 H0 H =
 Z0 (Z5 .mul x3 (J zA 10)) fun t9=>
 Z0 (Zk .string x0) fun g=>
 Z0 (Z5 .lss x5 g) fun h=>
 Zj h
 (Z0 (Zx x0 x5) fun j=>
 Z0 (Z5 .sub j (.int .u8 48)) fun u=>
 Z0 (Yq .i64 u) fun w=>
 Z0 (Z5 .add t9 w) fun y=>
 Gj x0 y x5 H0 H)
 (Gj x0 t9 x5 H0 H):=Z9 aw
theorem F5:UZ x0 x3 x5 H0 H =
 Z0 (Z5 .lss x5 (J zA 4)) fun g=>
 Zj g
 (Pm x0 x3 x5 g H0 H)
 (Pl x3 H0 H):=(ZC (C:=cfg) [4,8,9] (Zn 0 (SF H0)) _ _).trans (by kernel_rfl)
theorem IJ:GO [p0] H=ZcO p0 H:=Be 23 [4,8,9] Tryz.func178
def Zdf:Z4:=aa 184 8 Tryz.f184 [1,1] H0 [(1,x1),(2,x2)] H
def AU:Z4:=
 Z0 (ZQ p0 H) fun j=>
 Z0 (some ((.ptr j.2.length 0),j.2++[.cells [(.str []),.nils,(.str []),(.str []),.nils,.nils]])) fun h=>
 Z0 (Z3 true 6 j.1 h.2) fun t3=>
 Z0 (Zh Nx [t3] h.2) fun u=>
 Z0 (Z5 .neq u.1 (J zA 0)) fun t5=>
 Zj t5
 (Z0 (Zh KJ [] u.2) fun w=>
 Z0 (Za 6 h.1 w.1 w.2) fun g=>
 Z0 (Z3 true 6 h.1 g.2) fun y=>
 some (y,g.2))
 (Zdf j.1 h.1 H u.2)
theorem Zhx:Zdf x1 x2 H0 H =
 Z0 (Z3 true 6 x1 H) fun h=>
 Z0 (Za 6 x2 h H) fun g=>
 Z0 (Z3 true 6 x2 g.2) fun j=>
 some (j,g.2):=Z9 [3]
theorem II:DS [p0] H=AU p0 H:=Be 8 [3] Tryz.func184
def Zd9:Z4:=aa 202 43 Tryz.f202 [1,1,1,1,1,1] H0 [(1,x1)] H
def Zd8:Z4:=aa 202 43 Tryz.f202 [1,1,1,1,1] H0 [(1,x1)] H
def Zd7:Z4:=aa 202 43 Tryz.f202 [1,1,1,1] H0 [(1,x1)] H
def T7:KL:=Zc (WU 202 43 Tryz.f202 [1,1,1,1]) (Zf cfg 43 202 Tryz.f202 H0)
theorem Zfd:ZS 43 (T7 H0):=Zw (C:=cfg) (kp:=cfg.keep 202) (ab Tryz.f202 [1,1,1,1]) (Zy 202 Tryz.f202 H0)
def Zdb:Z4:=ZD 202 43 (ab Tryz.f202 [1,1,1,0,1,0,0,1,1]) (Zc (Yi 202 43 Tryz.f202 [1,1,1,0,1,0,0]) (Z7 0 (T7 H0))) [(1,x1),(3,x3)] H
def Zda:Z4:=ZD 202 43 (ab Tryz.f202 [1,1,1,0,1,0,0,1]) (Zc (Yi 202 43 Tryz.f202 [1,1,1,0,1,0,0]) (Z7 0 (T7 H0))) [(1,x1),(3,x3)] H
def T8:Z4:=VW 202 43 (ab Tryz.f202 [1,1,1,0,1,0,0]) (Z7 0 (T7 H0)) [(1,x1),(3,x3)] H
def Zd6:Z4:=aa 202 43 Tryz.f202 [1,1,1] H0 [(1,x1)] H
def Zd5:Z4:=aa 202 43 Tryz.f202 [1,1] H0 [(1,x1)] H
def ZfB:Z4:=
 Z0 (ZQ p0 H) fun g=>
 Z0 (Z6 0 g.1) fun t5=>
 Z0 (Z3 false 1 t5 g.2) fun j=>
 Z0 (Zh GN [j] g.2) fun h=>
 Z0 (XL .not h.1) fun u=>
 Zj u
 (some ((J zA 4),h.2))
 (Zd5 g.1 H h.2)
theorem Zhu:Zd9 x1 H0 H =
 Z0 (Z6 5 x1) fun h=>
 Z0 (Z3 false 1 h H) fun j=>
 Z0 (Zh US [j] H) fun g=>
 some (g.1,g.2):=Z9 b7
theorem Zht:Zd8 x1 H0 H =
 Z0 (Z6 4 x1) fun h=>
 Z0 (Z3 false 1 h H) fun j=>
 Z0 (Zh Qm [j] H) fun g=>
 Z0 (Z5 .neq g.1 (J zA 0)) fun u=>
 Zj u
 (some (g.1,g.2))
 (Zd9 x1 H0 g.2):=Z9 b7
theorem Zhs:Zd7 x1 H0 H =
 Z0 (Z6 2 x1) fun h=>
 Z0 (Z3 false 1 h H) fun j=>
 Z0 (Zk .string j) fun u=>
 Z0 (Z5 .neq u (J zA 256)) fun g=>
 Z0 (Z8 g false ap (Z6 3 x1)) fun w=>
 Z0 (Z8 g false ap (Z3 false 1 w H)) fun y=>
 Z0 (Z8 g false ap (Zk .string y)) fun z=>
 Z0 (Z8 g false ap (Z5 .neq z (J zA 256))) fun A=>
 Z0 (Zi g (.bool true) A) fun B=>
 Zj B
 (some ((J zA 2),H))
 (Zd8 x1 H0 H):=Z9 b7
theorem Zhw:Zdb x1 x3 H0 H =
 Z0 (Z5 .add x3 (J zA 1)) fun g=>
 T8 x1 g H0 H:=Z9 b7
theorem Zhv:Zda x1 x3 H0 H =
 Z0 (Z6 1 x1) fun h=>
 Z0 (Z3 false 1 h H) fun j=>
 Z0 (Zo 1 j x3) fun u=>
 Z0 (Z3 false 1 u H) fun w=>
 Z0 (Zh DR [w] H) fun g=>
 Z0 (XL .not g.1) fun y=>
 Zj y
 (some ((J zA 2),g.2))
 (Zdb x1 x3 H0 g.2):=Z9 b7
theorem HO:T8 x1 x3 H0 H =
 Z0 (Z5 .lss x3 (J zA 256)) fun g=>
 Zj g
 (Zda x1 x3 H0 H)
 (Zd7 x1 H0 H):=(ZC (C:=cfg) [3,5,7,8,10,12,15] (Zn 0 (Zfd H0)) _ _).trans (by kernel_rfl)
theorem Zhr:Zd6 x1 H0 H =
 T8 x1 (J zA 0) H0 H:=Z9 b7
theorem Zhq:Zd5 x1 H0 H =
 Z0 (Z6 1 x1) fun t9=>
 Z0 (Z3 false 1 t9 H) fun g=>
 Z0 (Zk (.slice 3) g) fun h=>
 Z0 (Z5 .neq h (J zA 256)) fun j=>
 Zj j
 (some ((J zA 2),H))
 (Zd6 x1 H0 H):=Z9 b7
theorem Zj6:Nx [p0] H=ZfB p0 H:=Be 43 [3,5,7,8,10,12,15] Tryz.func202
def ZfC:Z4:=
 Z0 (ZQ p0 H) fun g=>
 Z0 (Z3 true 6 g.1 g.2) fun t5=>
 Z0 (Zh DS [t5] g.2) fun h=>
 Z0 (EM false 1 3 h.1) fun u=>
 Z0 (Zh EP [u,p1] h.2) fun j=>
 some (j.1,j.2)
theorem Zj7:ZfA [p0,p1] H=ZfC p0 p1 H:=Be 10 [] Tryz.func207
def Zby:Z4:=aa 213 59 Tryz.f213 [1,1,1] H0 [] H
def FI:KL:=Zc (WU 213 59 Tryz.f213 [1,1,1]) (Zf cfg 59 213 Tryz.f213 H0)
theorem Zdd:ZS 59 (FI H0):=Zw (C:=cfg) (kp:=cfg.keep 213) (ab Tryz.f213 [1,1,1]) (Zy 213 Tryz.f213 H0)
def MD:Z4:=ZD 213 59 (ab Tryz.f213 [1,1,0,1,0,0,1,1]) (Zc (Yi 213 59 Tryz.f213 [1,1,0,1,0,0]) (Z7 0 (FI H0))) [(0,x0),(3,x3)] H
def MC:Z4:=ZD 213 59 (ab Tryz.f213 [1,1,0,1,0,0,1]) (Zc (Yi 213 59 Tryz.f213 [1,1,0,1,0,0]) (Z7 0 (FI H0))) [(0,x0),(3,x3)] H
def FJ:Z4:=VW 213 59 (ab Tryz.f213 [1,1,0,1,0,0]) (Z7 0 (FI H0)) [(0,x0),(3,x3)] H
def Zbx:Z4:=aa 213 59 Tryz.f213 [1,1] H0 [(0,x0)] H
def ZcM:Z4:=
 Z0 (Zk .string p0) fun I=>
 Z0 (Z5 .eql I (J zA 0)) fun j=>
 Z0 (Z8 j false ap (some p0)) fun t9=>
 Z0 (Z8 j false ap (Zk .string t9)) fun u=>
 Z0 (Z8 j false ap (Z5 .gtr u (J zA 32))) fun w=>
 Z0 (Zi j (.bool true) w) fun g=>
 Z0 (Z8 g false ap (some p0)) fun y=>
 Z0 (Z8 g false ap (Zx y (J zA 0))) fun z=>
 Z0 (Z8 g false ap (Z5 .geq z (.int .u8 48))) fun A=>
 Z0 (Z8 g false ap (some A)) fun h=>
 Z0 (Z8 h true ap (some p0)) fun B=>
 Z0 (Z8 h true ap (Zx B (J zA 0))) fun C=>
 Z0 (Z8 h true ap (Z5 .leq C (.int .u8 57))) fun D=>
 Z0 (Z8 g false ap (Zi h D (.bool false))) fun E=>
 Z0 (Zi g (.bool true) E) fun F=>
 Zj F
 (some ((.bool false),H))
 (Zbx p0 H H)
theorem Zgp:Zby H0 H =
 some ((.bool true),H):=Z9 [3,5,6,9]
theorem Zgr:MD x0 x3 H0 H =
 Z0 (Z5 .add x3 (J zA 1)) fun g=>
 FJ x0 g H0 H:=Z9 [3,5,6,9]
theorem Zgq:MC x0 x3 H0 H =
 Z0 (Zx x0 x3) fun g=>
 Z0 (Z5 .geq g (.int .u8 97)) fun j=>
 Z0 (Z8 j true ap (some g)) fun z=>
 Z0 (Z8 j true ap (Z5 .leq z (.int .u8 122))) fun A=>
 Z0 (Zi j A (.bool false)) fun t37=>
 Z0 (Z8 t37 false ap (some g)) fun B=>
 Z0 (Z8 t37 false ap (Z5 .geq B (.int .u8 65))) fun C=>
 Z0 (Z8 t37 false ap (some C)) fun u=>
 Z0 (Z8 u true ap (some g)) fun D=>
 Z0 (Z8 u true ap (Z5 .leq D (.int .u8 90))) fun E=>
 Z0 (Z8 t37 false ap (Zi u E (.bool false))) fun F=>
 Z0 (Zi t37 (.bool true) F) fun h=>
 Z0 (Z8 h false ap (some g)) fun I=>
 Z0 (Z8 h false ap (Z5 .geq I (.int .u8 48))) fun K=>
 Z0 (Z8 h false ap (some K)) fun w=>
 Z0 (Z8 w true ap (some g)) fun L=>
 Z0 (Z8 w true ap (Z5 .leq L (.int .u8 57))) fun M=>
 Z0 (Z8 h false ap (Zi w M (.bool false))) fun N=>
 Z0 (Zi h (.bool true) N) fun y=>
 Z0 (Z8 y false ap (some g)) fun O=>
 Z0 (Z8 y false ap (Z5 .eql O (.int .u8 95))) fun Q=>
 Z0 (Zi y (.bool true) Q) fun R=>
 Z0 (XL .not R) fun S=>
 Zj S
 (some ((.bool false),H))
 (MD x0 x3 H0 H):=Z9 [3,5,6,9]
theorem Sr:FJ x0 x3 H0 H =
 Z0 (Zk .string x0) fun g=>
 Z0 (Z5 .lss x3 g) fun h=>
 Zj h
 (MC x0 x3 H0 H)
 (Zby H0 H):=(ZC (C:=cfg) [3,5,6,9] (Zn 0 (Zdd H0)) _ _).trans (by kernel_rfl)
theorem Zgo:Zbx x0 H0 H =
 FJ x0 (J zA 0) H0 H:=Z9 [3,5,6,9]
theorem Zhi:GN [p0] H=ZcM p0 H:=Be 59 [3,5,6,9] Tryz.func213
def ZfD:Z4:=
 Z0 (Z5 .geq p0 (J zA 0)) fun t4=>
 Z0 (Z8 t4 true ap (some p0)) fun g=>
 Z0 (Z8 t4 true ap (Z5 .leq g (J zA 65535))) fun h=>
 Z0 (Zi t4 h (.bool false)) fun j=>
 some (j,H)
theorem Zj8:DR [p0] H=ZfD p0 H:=Be 9 [] Tryz.func214
def Pg:Z4:=aa 215 37 Tryz.f215 [1,1,1] H0 [] H
def V6:KL:=Zc (WU 215 37 Tryz.f215 [1,1,1]) (Zf cfg 37 215 Tryz.f215 H0)
theorem GU:ZS 37 (V6 H0):=Zw (C:=cfg) (kp:=cfg.keep 215) (ab Tryz.f215 [1,1,1]) (Zy 215 Tryz.f215 H0)
def Gi:Z4:=ZD 215 37 (ab Tryz.f215 [1,1,0,1,0,0,1,1]) (Zc (Yi 215 37 Tryz.f215 [1,1,0,1,0,0]) (Z7 0 (V6 H0))) [(0,x0),(3,x3)] H
def V7:KL:=Zc (WU 215 37 Tryz.f215 [1,1,0,1,0,0,1,1]) (Zc (Yi 215 37 Tryz.f215 [1,1,0,1,0,0]) (Z7 0 (V6 H0)))
theorem Su:ZS 37 (V7 H0):=Zw (C:=cfg) (kp:=cfg.keep 215) (ab Tryz.f215 [1,1,0,1,0,0,1,1]) (AH (C:=cfg) (kp:=cfg.keep 215) (ab Tryz.f215 [1,1,0,1,0,0]) (Zn 0 (GU H0)))
def Pk:Z4:=ZD 215 37 (ab Tryz.f215 [1,1,0,1,0,0,1,0,0,1,1,0,0,1,1]) (Zc (Yi 215 37 Tryz.f215 [1,1,0,1,0,0,1,0,0,1,1,0,0]) (Z7 2 (Z7 1 (V7 H0)))) [(0,x0),(3,x3),(4,x4)] H
def Pj:Z4:=ZD 215 37 (ab Tryz.f215 [1,1,0,1,0,0,1,0,0,1,1,0,0,1]) (Zc (Yi 215 37 Tryz.f215 [1,1,0,1,0,0,1,0,0,1,1,0,0]) (Z7 2 (Z7 1 (V7 H0)))) [(0,x0),(3,x3),(4,x4)] H
def UW:Z4:=VW 215 37 (ab Tryz.f215 [1,1,0,1,0,0,1,0,0,1,1,0,0]) (Z7 2 (Z7 1 (V7 H0))) [(0,x0),(3,x3),(4,x4)] H
def Pi:Z4:=ZD 215 37 (ab Tryz.f215 [1,1,0,1,0,0,1,0,0,1]) (Z7 1 (V7 H0)) [(0,x0),(3,x3)] H
def Ph:Z4:=ZD 215 37 (ab Tryz.f215 [1,1,0,1,0,0,1]) (Zc (Yi 215 37 Tryz.f215 [1,1,0,1,0,0]) (Z7 0 (V6 H0))) [(0,x0),(3,x3)] H
def UV:Z4:=VW 215 37 (ab Tryz.f215 [1,1,0,1,0,0]) (Z7 0 (V6 H0)) [(0,x0),(3,x3)] H
def Pf:Z4:=aa 215 37 Tryz.f215 [1,1] H0 [(0,x0)] H
def NM:Z4:=
 Z0 (Zk (.slice 246) p0) fun g=>
 Z0 (Z5 .gtr g (J zA 24)) fun h=>
 Zj h
 (some ((J zA 3),H))
 (Pf p0 H H)
theorem I3:Pg H0 H =
 some ((J zA 0),H):=Z9 b8
theorem I5:Gi x0 x3 H0 H =
 Z0 (Z5 .add x3 (J zA 1)) fun g=>
 UV x0 g H0 H:=Z9 b8
theorem I8:Pk x0 x3 x4 H0 H =
 Z0 (Z5 .add x4 (J zA 1)) fun g=>
 UW x0 x3 g H0 H:=Z9 b8
theorem I7:Pj x0 x3 x4 H0 H =
 Z0 (Zo 5 x0 x4) fun g=>
 Z0 (Z6 0 g) fun h=>
 Z0 (Z3 false 1 h H) fun j=>
 Z0 (Zo 5 x0 x3) fun u=>
 Z0 (Z6 0 u) fun w=>
 Z0 (Z3 false 1 w H) fun y=>
 Z0 (YR .eql j y) fun z=>
 Zj z
 (some ((J zA 6),H))
 (Pk x0 x3 x4 H0 H):=Z9 b8
theorem F1:UW x0 x3 x4 H0 H =
 Z0 (Z5 .lss x4 x3) fun g=>
 Zj g
 (Pj x0 x3 x4 H0 H)
 (Gi x0 x3 H0 H):=(ZC (C:=cfg) [3,5,6,8,10,11,13] (Zn 2 (Zn 1 (Su H0))) _ _).trans (by kernel_rfl)
theorem I6:Pi x0 x3 H0 H =
 UW x0 x3 (J zA 0) H0 H:=Z9 b8
theorem I4:Ph x0 x3 H0 H =
 Z0 (Zo 5 x0 x3) fun h=>
 Z0 (Z6 0 h) fun j=>
 Z0 (Z3 false 1 j H) fun u=>
 Z0 (Zh GN [u] H) fun g=>
 Z0 (XL .not g.1) fun w=>
 Zj w
 (some ((J zA 4),g.2))
 (Pi x0 x3 H0 g.2):=Z9 b8
theorem F0:UV x0 x3 H0 H =
 Z0 (Zk (.slice 246) x0) fun g=>
 Z0 (Z5 .lss x3 g) fun h=>
 Zj h
 (Ph x0 x3 H0 H)
 (Pg H0 H):=(ZC (C:=cfg) [3,5,6,8,10,11,13] (Zn 0 (GU H0)) _ _).trans (by kernel_rfl)
theorem I2:Pf x0 H0 H =
 UV x0 (J zA 0) H0 H:=Z9 b8
theorem IH:Qm [p0] H=NM p0 H:=Be 37 [3,5,6,8,10,11,13] Tryz.func215
def Ta:Z4:=aa 216 46 Tryz.f216 [1,1,1] H0 [] H
def Wz:KL:=Zc (WU 216 46 Tryz.f216 [1,1,1]) (Zf cfg 46 216 Tryz.f216 H0)
theorem Gt:ZS 46 (Wz H0):=Zw (C:=cfg) (kp:=cfg.keep 216) (ab Tryz.f216 [1,1,1]) (Zy 216 Tryz.f216 H0)
def JZ:Z4:=ZD 216 46 (ab Tryz.f216 [1,1,0,1,0,0,1,1]) (Zc (Yi 216 46 Tryz.f216 [1,1,0,1,0,0]) (Z7 0 (Wz H0))) [(0,x0),(3,x3)] H
def WA:KL:=Zc (WU 216 46 Tryz.f216 [1,1,0,1,0,0,1,1]) (Zc (Yi 216 46 Tryz.f216 [1,1,0,1,0,0]) (Z7 0 (Wz H0)))
theorem E0:ZS 46 (WA H0):=Zw (C:=cfg) (kp:=cfg.keep 216) (ab Tryz.f216 [1,1,0,1,0,0,1,1]) (AH (C:=cfg) (kp:=cfg.keep 216) (ab Tryz.f216 [1,1,0,1,0,0]) (Zn 0 (Gt H0)))
def Te:Z4:=ZD 216 46 (ab Tryz.f216 [1,1,0,1,0,0,1,0,0,1,1,0,0,1,1]) (Zc (Yi 216 46 Tryz.f216 [1,1,0,1,0,0,1,0,0,1,1,0,0]) (Z7 2 (Z7 1 (WA H0)))) [(0,x0),(3,x3),(4,x4)] H
def Td:Z4:=ZD 216 46 (ab Tryz.f216 [1,1,0,1,0,0,1,0,0,1,1,0,0,1]) (Zc (Yi 216 46 Tryz.f216 [1,1,0,1,0,0,1,0,0,1,1,0,0]) (Z7 2 (Z7 1 (WA H0)))) [(0,x0),(3,x3),(4,x4)] H
def Uh:Z4:=VW 216 46 (ab Tryz.f216 [1,1,0,1,0,0,1,0,0,1,1,0,0]) (Z7 2 (Z7 1 (WA H0))) [(0,x0),(3,x3),(4,x4)] H
def Tc:Z4:=ZD 216 46 (ab Tryz.f216 [1,1,0,1,0,0,1,0,0,1]) (Z7 1 (WA H0)) [(0,x0),(3,x3)] H
def Tb:Z4:=ZD 216 46 (ab Tryz.f216 [1,1,0,1,0,0,1]) (Zc (Yi 216 46 Tryz.f216 [1,1,0,1,0,0]) (Z7 0 (Wz H0))) [(0,x0),(3,x3)] H
def Ug:Z4:=VW 216 46 (ab Tryz.f216 [1,1,0,1,0,0]) (Z7 0 (Wz H0)) [(0,x0),(3,x3)] H
def T9:Z4:=aa 216 46 Tryz.f216 [1,1] H0 [(0,x0)] H
def P9:Z4:=
 Z0 (Zk (.slice 189) p0) fun g=>
 Z0 (Z5 .gtr g (J zA 64)) fun h=>
 Zj h
 (some ((J zA 3),H))
 (T9 p0 H H)
theorem H9:Ta H0 H =
 some ((J zA 0),H):=Z9 b8
theorem Hk:JZ x0 x3 H0 H =
 Z0 (Z5 .add x3 (J zA 1)) fun g=>
 Ug x0 g H0 H:=Z9 b8
theorem Hn:Te x0 x3 x4 H0 H =
 Z0 (Z5 .add x4 (J zA 1)) fun g=>
 Uh x0 x3 g H0 H:=Z9 b8
theorem Hm:Td x0 x3 x4 H0 H =
 Z0 (Zo 2 x0 x4) fun t37=>
 Z0 (Z6 0 t37) fun g=>
 Z0 (Z3 false 1 g H) fun h=>
 Z0 (Zo 2 x0 x3) fun j=>
 Z0 (Z6 0 j) fun u=>
 Z0 (Z3 false 1 u H) fun w=>
 Z0 (YR .eql h w) fun y=>
 Zj y
 (some ((J zA 6),H))
 (Te x0 x3 x4 H0 H):=Z9 b8
theorem BN:Uh x0 x3 x4 H0 H =
 Z0 (Z5 .lss x4 x3) fun g=>
 Zj g
 (Td x0 x3 x4 H0 H)
 (JZ x0 x3 H0 H):=(ZC (C:=cfg) [3,5,6,8,10,11,13] (Zn 2 (Zn 1 (E0 H0))) _ _).trans (by kernel_rfl)
theorem Hl:Tc x0 x3 H0 H =
 Uh x0 x3 (J zA 0) H0 H:=Z9 b8
theorem Hi:Tb x0 x3 H0 H =
 Z0 (Zo 2 x0 x3) fun j=>
 Z0 (Z6 0 j) fun u=>
 Z0 (Z3 false 1 u H) fun w=>
 Z0 (Zk .string w) fun y=>
 Z0 (Z5 .neq y (J zA 2)) fun g=>
 Z0 (Z8 g false ap (some x0)) fun z=>
 Z0 (Z8 g false ap (some x3)) fun A=>
 Z0 (Z8 g false ap (Zo 2 z A)) fun B=>
 Z0 (Z8 g false ap (Z6 1 B)) fun C=>
 Z0 (Z8 g false ap (Z3 false 1 C H)) fun D=>
 Z0 (Z8 g false (ap,H) (Zh DR [D] H)) fun h=>
 Z0 (Z8 g false ap (XL .not h.1)) fun E=>
 Z0 (Zi g (.bool true) E) fun F=>
 Zj F
 (some ((J zA 2),h.2))
 (Tc x0 x3 H0 h.2):=Z9 b8
theorem BM:Ug x0 x3 H0 H =
 Z0 (Zk (.slice 189) x0) fun g=>
 Z0 (Z5 .lss x3 g) fun h=>
 Zj h
 (Tb x0 x3 H0 H)
 (Ta H0 H):=(ZC (C:=cfg) [3,5,6,8,10,11,13] (Zn 0 (Gt H0)) _ _).trans (by kernel_rfl)
theorem CZ:T9 x0 H0 H =
 Ug x0 (J zA 0) H0 H:=Z9 b8
theorem AS:US [p0] H=P9 p0 H:=Be 46 [3,5,6,8,10,11,13] Tryz.func216
def Zbz:Z4:=aa 219 23 Tryz.f219 [1,1,1] H0 [(5,x5)] H
def FK:KL:=Zc (WU 219 23 Tryz.f219 [1,1,1]) (Zf cfg 23 219 Tryz.f219 H0)
theorem Zde:ZS 23 (FK H0):=Zw (C:=cfg) (kp:=cfg.keep 219) (ab Tryz.f219 [1,1,1]) (Zy 219 Tryz.f219 H0)
def ZbB:Z4:=ZD 219 23 (ab Tryz.f219 [1,1,0,1,0,0,1,1]) (Zc (Yi 219 23 Tryz.f219 [1,1,0,1,0,0]) (Z7 0 (FK H0))) [(0,x0),(1,x1),(5,x5),(6,x6)] H
def ZbA:Z4:=ZD 219 23 (ab Tryz.f219 [1,1,0,1,0,0,1]) (Zc (Yi 219 23 Tryz.f219 [1,1,0,1,0,0]) (Z7 0 (FK H0))) [(0,x0),(1,x1),(5,x5),(6,x6)] H
def FL:Z4:=VW 219 23 (ab Tryz.f219 [1,1,0,1,0,0]) (Z7 0 (FK H0)) [(0,x0),(1,x1),(5,x5),(6,x6)] H
def ZcN:Z4:=
 FL p0 p1 .nils (J zA 0) H H
theorem Zgs:Zbz x5 H0 H =
 Z0 (Qb x5 H) fun g=>
 some (g,H):=Z9 [4,5,6]
theorem Zgu:ZbB x0 x1 x5 x6 H0 H =
 Z0 (Z5 .add x6 (J zA 1)) fun g=>
 FL x0 x1 x5 g H0 H:=Z9 [4,5,6]
theorem Zgt:ZbA x0 x1 x5 x6 H0 H =
 Z0 (Zx x1 x6) fun h=>
 Z0 (Zx x0 h) fun j=>
 Z0 ((ZB 1 [(0,j)] [(.int .u8 0)]).map (.vs 1 .clip)) fun u=>
 Z0 (Y9 1 1 x5 u H) fun g=>
 ZbB x0 x1 g.1 x6 H0 g.2:=Z9 [4,5,6]
theorem Sv:FL x0 x1 x5 x6 H0 H =
 Z0 (Zk .string x1) fun t9=>
 Z0 (Z5 .lss x6 t9) fun g=>
 Zj g
 (ZbA x0 x1 x5 x6 H0 H)
 (Zbz x5 H0 H):=(ZC (C:=cfg) [4,5,6] (Zn 0 (Zde H0)) _ _).trans (by kernel_rfl)
theorem Zhj:EP [p0,p1] H=ZcN p0 p1 H:=Be 23 [4,5,6] Tryz.func219
end
end Go.Am
