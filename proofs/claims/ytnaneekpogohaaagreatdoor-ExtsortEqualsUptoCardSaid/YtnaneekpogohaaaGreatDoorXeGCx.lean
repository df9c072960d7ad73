/- The functions of the translation over the abstract machine -/
import Derived.Test.YtnaneekpogohaaaGreatDoorXeGx
namespace Go.Am
open Go.Proofs
set_option maxRecDepth 100000
noncomputable abbrev ZH (f n:Nat):=Y9 cfg (Z9 cfg) (Y6 cfg (cfg.keep f) n) (cfg.keep f) n Zc Z7
noncomputable abbrev UA (f n:Nat):=Y6 cfg (cfg.keep f) n
noncomputable section
abbrev Vw (f n:Nat)(F:Func)(p:List Nat):KL->AL->Hp->Z3:=fun k g H=>ZH f n (sub (Z1 F) p) k (ZU (cfg.keep f) (sub (Z1 F) p) g) H
abbrev YA (f n:Nat)(F:Func)(p:List Nat):KL->AL->Hp->Z3:=fun k g H=>UA f n (sub (Z1 F) p) k (ZU (cfg.keep f) (sub (Z1 F) p) g) H
variable (p0 p1 p2 p3 p4 x0 x1 x2 x3 x4 x5 x6 x7 x8 x9 x10 x11 x12 x13 x16 x17 x18 x19 x24 x25 x26 x27 x28 x29 x30:AV)(H0 H:Hp)
def EH:Z3:=ZH 56 39 (sub (Z1 Tryz.f56) [1,1,1,1,1,1]) (Zh cfg 39 56 Tryz.f56 H0) [(9,x9)] H
def DZ:Z3:=ZH 56 39 (sub (Z1 Tryz.f56) [1,1,1,1]) (Zh cfg 39 56 Tryz.f56 H0) [(2,x2),(3,x3),(4,x4),(5,x5)] H
def SL:Z3:=
 Z0 (ZM p0 H) fun A=>
 Z0 (ZM p1 A.2) fun j=>
 Z0 (Z4 true 5 j.1 j.2) fun B=>
 Z0 (Zf Vd [B] j.2) fun z=>
 Z0 (Ze 5 j.1 z.1 z.2) fun u=>
 Z0 (Z4 true 6 A.1 u.2) fun C=>
 Z0 (Z4 true 5 j.1 u.2) fun D=>
 Z0 (Zf Wu [C,D,p2,p3] u.2) fun g=>
 Z0 (Z5 .neq g.1 (.int .i64 0)) fun w=>
 Z0 (Z8 w false (.tuple []) (Z6 4 j.1)) fun E=>
 Z0 (Z8 w false (.tuple []) (Z4 false 1 E g.2)) fun F=>
 Z0 (Zi w (.bool true) F) fun y=>
 Z0 (Z8 y false (.tuple []) (Z6 3 j.1)) fun I=>
 Z0 (Z8 y false (.tuple []) (Z4 false 1 I g.2)) fun J=>
 Z0 (Zi y (.bool true) J) fun K=>
 Zl K
 (some (g.1,g.2))
 (DZ p2 p3 A.1 j.1 H g.2)
theorem ZaS:EH x9 H0 H =
 some (x9,H):=Za [5,8]
theorem ZaR:DZ x2 x3 x4 x5 H0 H =
 Z0 (Z4 true 6 x4 H) fun j=>
 Z0 (Zf U1 [j,x2,x3] H) fun g=>
 Z0 (Z6 2 x5) fun u=>
 Z0 (Z4 false 1 u g.2) fun w=>
 Z0 (Z5 .and w (.int .i64 2)) fun y=>
 Z0 (Z5 .neq y (.int .i64 0)) fun z=>
 Zl z
 (Z0 (Xo .neg g.1) fun t37=>
 some (t37,g.2))
 (EH g.1 H0 g.2):=Za [5,8]
theorem Zbq:UL [p0,p1,p2,p3] H=SL p0 p1 p2 p3 H:=Be 39 [5,8] Tryz.func56
def Nb:Z3:=ZH 59 55 (sub (Z1 Tryz.f59) [1,1,1,1]) (Zh cfg 55 59 Tryz.f59 H0) [] H
def Va:KL:=Zc (Vw 59 55 Tryz.f59 [1,1,1,1]) (Zh cfg 55 59 Tryz.f59 H0)
theorem SB:ZW 55 (Va H0):=Zy (C:=cfg) (kp:=cfg.keep 59) (sub (Z1 Tryz.f59) [1,1,1,1]) (ZB 59 Tryz.f59 H0)
def Nd:Z3:=ZH 59 55 (sub (Z1 Tryz.f59) [1,1,1,0,1,0,0,1,1,1]) (Zc (YA 59 55 Tryz.f59 [1,1,1,0,1,0,0]) (Z7 0 (Va H0))) [(2,x2),(3,x3),(4,x4),(5,x5),(26,x26),(27,x27),(28,x28)] H
def Zd8:KL:=Zc (Vw 59 55 Tryz.f59 [1,1,1,0,1,0,0,1,1,1]) (Zc (YA 59 55 Tryz.f59 [1,1,1,0,1,0,0]) (Z7 0 (Va H0)))
def Q4:Z3:=ZH 59 55 (sub (Z1 Tryz.f59) [1,1,1,0,1,0,0,1,1,0,0,1,1,1]) (Z7 1 (Zd8 H0)) [(2,x2),(3,x3),(4,x4),(5,x5),(10,x10),(11,x11),(26,x26),(27,x27),(28,x28)] H
def Nc:Z3:=ZH 59 55 (sub (Z1 Tryz.f59) [1,1,1,0,1,0,0,1,1]) (Zc (YA 59 55 Tryz.f59 [1,1,1,0,1,0,0]) (Z7 0 (Va H0))) [(2,x2),(3,x3),(4,x4),(5,x5),(26,x26),(27,x27),(28,x28),(29,x29)] H
def Q5:Z3:=UA 59 55 (sub (Z1 Tryz.f59) [1,1,1,0,1,0,0]) (Z7 0 (Va H0)) [(2,x2),(3,x3),(4,x4),(5,x5),(26,x26),(27,x27),(28,x28)] H
def Na:Z3:=ZH 59 55 (sub (Z1 Tryz.f59) [1,1,1]) (Zh cfg 55 59 Tryz.f59 H0) [(2,x2),(3,x3),(4,x4),(5,x5)] H
def M6:Z3:=
 Z0 (ZM p0 H) fun y=>
 Z0 (ZM p1 y.2) fun j=>
 Z0 (Z4 true 5 j.1 j.2) fun z=>
 Z0 (Zf Vd [z] j.2) fun u=>
 Z0 (Ze 5 j.1 u.1 u.2) fun g=>
 Z0 (Z6 0 j.1) fun A=>
 Z0 (Z4 false 1 A g.2) fun B=>
 Z0 (Zk (.slice 119) B) fun C=>
 Z0 (Z5 .eql C (.int .i64 0)) fun D=>
 Zl D
 (Z0 (Z4 true 6 y.1 g.2) fun E=>
 Z0 (Z6 2 j.1) fun F=>
 Z0 (Z4 false 1 F g.2) fun I=>
 Z0 (Zf UM [E,I,p2,p3] g.2) fun w=>
 some (w.1,w.2))
 (Na p2 p3 y.1 j.1 H g.2)
theorem If:Nb H0 H =
 some ((.int .i64 0),H):=Za [4,6,10,13,14]
theorem Ih:Nd x2 x3 x4 x5 x26 x27 x28 H0 H =
 Z0 (Z5 .add x28 (.int .i64 1)) fun g=>
 Q5 x2 x3 x4 x5 x26 x27 g H0 H:=Za [4,6,10,13,14]
theorem Ii:Q4 x2 x3 x4 x5 x10 x11 x26 x27 x28 H0 H =
 V8 x4 H fun z4 J=>
 V8 x5 J fun z5 K=>
 V8 x10 K fun y g=>
 Z0 (U6 true 6 z4) fun z=>
 Z0 (Z4 true 5 y g) fun A=>
 Z0 (Z6 1 z5) fun B=>
 Z0 (Z4 false 1 B g) fun C=>
 Z0 (Qj [x2,A,C] g) fun u=>
 Z0 (U6 true 5 y) fun D=>
 Z0 (Z6 1 z5) fun E=>
 Z0 (U6 false 1 E) fun F=>
 Z0 (Qj [x3,D,F] u.2) fun w=>
 Z0 (Zf UM [z,x11,u.1,w.1] w.2) fun j=>
 Z0 (Z5 .neq j.1 (.int .i64 0)) fun I=>
 Zl I
 (some (j.1,j.2))
 (Nd x2 x3 z4 z5 x26 x27 x28 H0 j.2):=Za [4,6,10,13,14]
theorem Ig:Nc x2 x3 x4 x5 x26 x27 x28 x29 H0 H =
 Z0 (Zo 5 x26 x28) fun w=>
 Z0 (Z4 true 5 w H) fun y=>
 Z0 (some ((.ptr H.length 0),H++[.cells [(.int .i64 0),(.int .i64 0),(.int .i64 0),(.int .i64 0),(.int .i64 0)]])) fun j=>
 Z0 (Ze 5 j.1 y j.2) fun g=>
 Z0 (Z6 4 j.1) fun z=>
 Z0 (Z4 false 1 z g.2) fun u=>
 Z0 (Z5 .eql u (.int .i64 0)) fun A=>
 Zl A
 (Z0 (Z6 2 x5) fun B=>
 Z0 (Z4 false 1 B g.2) fun t37=>
 Q4 x2 x3 x4 x5 j.1 t37 x26 x27 x28 H0 g.2)
 (Q4 x2 x3 x4 x5 j.1 u x26 x27 x28 H0 g.2):=Za [4,6,10,13,14]
theorem Fm:Q5 x2 x3 x4 x5 x26 x27 x28 H0 H =
 Z0 (Z5 .lss x28 x27) fun g=>
 Zl g
 (Nc x2 x3 x4 x5 x26 x27 x28 g H0 H)
 (Nb H0 H):=(ZD (C:=cfg) [4,6,10,13,14] (Zn 0 (SB H0)) _ _).trans (by kernel_rfl)
theorem Ie:Na x2 x3 x4 x5 H0 H =
 Z0 (Z6 0 x5) fun j=>
 Z0 (Z4 false 1 j H) fun g=>
 Z0 (Zk (.slice 119) g) fun u=>
 Q5 x2 x3 x4 x5 g u (.int .i64 0) H0 H:=Za [4,6,10,13,14]
theorem Iv:Wu [p0,p1,p2,p3] H=M6 p0 p1 p2 p3 H:=Be 55 [4,6,10,13,14] Tryz.func59
def EQ:Z3:=ZH 86 8 (sub (Z1 Tryz.f86) [1,1]) (Zh cfg 8 86 Tryz.f86 H0) [(1,x1),(2,x2)] H
def FL:Z3:=
 Z0 (ZM p0 H) fun u=>
 Z0 (some ((.ptr u.2.length 0),u.2++[.cells [.nils,(.int .i64 0),(.int .i64 0),(.bool false),(.bool false)]])) fun j=>
 Z0 (Z4 true 5 u.1 j.2) fun t3=>
 Z0 (Zf Wa [t3] j.2) fun w=>
 Z0 (Z5 .neq w.1 (.int .i64 0)) fun t5=>
 Zl t5
 (Z0 ((Xh [(1,1,(.int .i64 (-1)))] [.nils,(.int .i64 0),(.int .i64 0),(.bool false),(.bool false)]).map .agg) fun y=>
 Z0 (Ze 5 j.1 y w.2) fun g=>
 Z0 (Z4 true 5 j.1 g.2) fun z=>
 some (z,g.2))
 (EQ u.1 j.1 H w.2)
theorem Zb6:EQ x1 x2 H0 H =
 Z0 (Z4 true 5 x1 H) fun j=>
 Z0 (Ze 5 x2 j H) fun g=>
 Z0 (Z4 true 5 x2 g.2) fun u=>
 some (u,g.2):=Za [3]
theorem PK:Vd [p0] H=FL p0 H:=Be 8 [3] Tryz.func86
def Mi:Z3:=ZH 87 60 (sub (Z1 Tryz.f87) [1,1,1,1,1,1,1]) (Zh cfg 60 87 Tryz.f87 H0) [(1,x1),(2,x2)] H
def Mh:Z3:=ZH 87 60 (sub (Z1 Tryz.f87) [1,1,1,1,1,1]) (Zh cfg 60 87 Tryz.f87 H0) [(1,x1),(2,x2),(8,x8),(9,x9)] H
def Mg:Z3:=ZH 87 60 (sub (Z1 Tryz.f87) [1,1,1,1,1]) (Zh cfg 60 87 Tryz.f87 H0) [(1,x1),(2,x2),(8,x8),(9,x9)] H
def Vt:KL:=Zc (Vw 87 60 Tryz.f87 [1,1,1,1,1]) (Zh cfg 60 87 Tryz.f87 H0)
theorem HR:ZW 60 (Vt H0):=Zy (C:=cfg) (kp:=cfg.keep 87) (sub (Z1 Tryz.f87) [1,1,1,1,1]) (ZB 87 Tryz.f87 H0)
def Mk:Z3:=ZH 87 60 (sub (Z1 Tryz.f87) [1,1,1,1,0,1,0,0,1,1,1]) (Zc (YA 87 60 Tryz.f87 [1,1,1,1,0,1,0,0]) (Z7 0 (Vt H0))) [(1,x1),(2,x2),(8,x8),(9,x9),(24,x24),(25,x25)] H
def ZdR:KL:=Zc (Vw 87 60 Tryz.f87 [1,1,1,1,0,1,0,0,1,1,1]) (Zc (YA 87 60 Tryz.f87 [1,1,1,1,0,1,0,0]) (Z7 0 (Vt H0)))
def Ml:Z3:=ZH 87 60 (sub (Z1 Tryz.f87) [1,1,1,1,0,1,0,0,1,1,0,0,1,1]) (Z7 1 (ZdR H0)) [(1,x1),(2,x2),(8,x8),(9,x9),(10,x10),(24,x24),(25,x25)] H
def Mj:Z3:=ZH 87 60 (sub (Z1 Tryz.f87) [1,1,1,1,0,1,0,0,1,1]) (Zc (YA 87 60 Tryz.f87 [1,1,1,1,0,1,0,0]) (Z7 0 (Vt H0))) [(1,x1),(2,x2),(8,x8),(9,x9),(24,x24),(25,x25),(26,x26)] H
def Qt:Z3:=UA 87 60 (sub (Z1 Tryz.f87) [1,1,1,1,0,1,0,0]) (Z7 0 (Vt H0)) [(1,x1),(2,x2),(8,x8),(9,x9),(24,x24),(25,x25)] H
def Lz:Z3:=
 Z0 (ZM p0 H) fun w=>
 Z0 (Z4 true 6 w.1 w.2) fun A=>
 Z0 (Zf VU [A] w.2) fun u=>
 Z0 (Ze 6 w.1 u.1 u.2) fun z=>
 V8 w.1 z.2 fun z3 E=>
 Z0 (some (.fn (.func 108) [] [z3])) fun y=>
 Z0 (Xs cfg (Z9 cfg) y [p1] E) fun g=>
 Z0 (Ym cfg (Z9 cfg) y [p2] g.2) fun j=>
 Z0 (Zk (.slice 3) g.1) fun B=>
 Z0 (Zk (.slice 3) j.1) fun C=>
 Z0 (UO B C) fun D=>
 Qt p1 p2 g.1 j.1 D (.int .i64 0) H j.2
theorem Oo:Mi x1 x2 H0 H =
 Z0 (Zf Bm [x1,x2] H) fun g=>
 some (g.1,g.2):=Za [6,9,11,12,14,16]
theorem On:Mh x1 x2 x8 x9 H0 H =
 Z0 (Zk (.slice 3) x8) fun g=>
 Z0 (Zk (.slice 3) x9) fun j=>
 Z0 (Z5 .gtr g j) fun u=>
 Zl u
 (some ((.int .i64 1),H))
 (Mi x1 x2 H0 H):=Za [6,9,11,12,14,16]
theorem Om:Mg x1 x2 x8 x9 H0 H =
 Z0 (Zk (.slice 3) x8) fun g=>
 Z0 (Zk (.slice 3) x9) fun j=>
 Z0 (Z5 .lss g j) fun u=>
 Zl u
 (some ((.int .i64 (-1)),H))
 (Mh x1 x2 x8 x9 H0 H):=Za [6,9,11,12,14,16]
theorem Ot:Mk x1 x2 x8 x9 x24 x25 H0 H =
 Z0 (Z5 .add x25 (.int .i64 1)) fun g=>
 Qt x1 x2 x8 x9 x24 g H0 H:=Za [6,9,11,12,14,16]
theorem Ou:Ml x1 x2 x8 x9 x10 x24 x25 H0 H =
 Z0 (Zo 1 x8 x10) fun g=>
 Z0 (Z4 false 1 g H) fun j=>
 Z0 (Zo 1 x9 x10) fun u=>
 Z0 (Z4 false 1 u H) fun w=>
 Z0 (Z5 .gtr j w) fun y=>
 Zl y
 (some ((.int .i64 1),H))
 (Mk x1 x2 x8 x9 x24 x25 H0 H):=Za [6,9,11,12,14,16]
theorem Oq:Mj x1 x2 x8 x9 x24 x25 x26 H0 H =
 Z0 (Zo 1 x8 x25) fun g=>
 Z0 (Z4 false 1 g H) fun j=>
 Z0 (Zo 1 x9 x25) fun u=>
 Z0 (Z4 false 1 u H) fun w=>
 Z0 (Z5 .lss j w) fun y=>
 Zl y
 (some ((.int .i64 (-1)),H))
 (Ml x1 x2 x8 x9 x25 x24 x25 H0 H):=Za [6,9,11,12,14,16]
theorem Rx:Qt x1 x2 x8 x9 x24 x25 H0 H =
 Z0 (Z5 .lss x25 x24) fun g=>
 Zl g
 (Mj x1 x2 x8 x9 x24 x25 g H0 H)
 (Mg x1 x2 x8 x9 H0 H):=(ZD (C:=cfg) [6,9,11,12,14,16] (Zn 0 (HR H0)) _ _).trans (by kernel_rfl)
theorem Zau:U1 [p0,p1,p2] H=Lz p0 p1 p2 H:=Be 60 [6,9,11,12,14,16] Tryz.func87
def F5:Z3:=ZH 88 50 (sub (Z1 Tryz.f88) [1,1,1,1]) (Zh cfg 50 88 Tryz.f88 H0) [(4,x4),(5,x5),(6,x6),(7,x7),(9,x9)] H
def Ju:Z3:=ZH 88 50 (sub (Z1 Tryz.f88) [1,1,1]) (Zh cfg 50 88 Tryz.f88 H0) [(4,x4),(5,x5),(6,x6),(7,x7),(9,x9)] H
def SO:Z3:=
 Z0 (ZM p0 H) fun u=>
 Z0 (ZM p1 u.2) fun j=>
 Z0 (ZM p2 j.2) fun w=>
 Z0 (ZM p3 w.2) fun g=>
 Z0 (Z4 false 1 j.1 g.2) fun y=>
 Z0 (Z5 .and y (.int .i64 2)) fun z=>
 Z0 (Z5 .neq z (.int .i64 0)) fun A=>
 Zl A
 (Ju u.1 j.1 w.1 g.1 (.int .i64 (-1)) H g.2)
 (Ju u.1 j.1 w.1 g.1 (.int .i64 1) H g.2)
theorem Zb5:F5 x4 x5 x6 x7 x9 H0 H =
 Z0 (some (.fn (.func 114) [] [x5,x6,x7])) fun j=>
 Z0 (Ym cfg (Z9 cfg) j [(.int .i64 8),(.fn (.func 115) [] [])] H) fun w=>
 Z0 (Ym cfg (Z9 cfg) j [(.int .i64 16),(.fn (.func 117) [] [])] w.2) fun y=>
 V8 x4 y.2 fun z4 E=>
 Z0 (some (.fn (.func 118) [] [z4])) fun z=>
 Z0 (Ym cfg (Z9 cfg) j [(.int .i64 4),z] E) fun g=>
 Z0 (Z4 true 6 z4 g.2) fun A=>
 Z0 (Z4 false 1 x6 g.2) fun B=>
 Z0 (Z4 false 1 x7 g.2) fun C=>
 Z0 (Zf U1 [A,B,C] g.2) fun u=>
 Z0 (Z5 .mul x9 u.1) fun D=>
 some (D,u.2):=Za [4,8]
theorem Zb4:Ju x4 x5 x6 x7 x9 H0 H =
 Z0 (Z4 false 1 x5 H) fun w=>
 Z0 (Z5 .and w (.int .i64 1)) fun y=>
 Z0 (Z5 .neq y (.int .i64 0)) fun z=>
 Zl z
 (Z0 (Z4 false 1 x6 H) fun A=>
 Z0 (Zf QW [A] H) fun g=>
 Z0 (ZQ g.1 0) fun B=>
 Z0 (ZQ g.1 1) fun F=>
 Z0 (Z4 false 1 x7 g.2) fun C=>
 Z0 (Zf QW [C] g.2) fun j=>
 Z0 (ZQ j.1 0) fun D=>
 Z0 (ZQ j.1 1) fun I=>
 Z0 (Zf TE [B,D] j.2) fun u=>
 Z0 (Z5 .mul x9 u.1) fun E=>
 some (E,u.2))
 (F5 x4 x5 x6 x7 x9 H0 H):=Za [4,8]
theorem Zbt:UM [p0,p1,p2,p3] H=SO p0 p1 p2 p3 H:=Be 50 [4,8] Tryz.func88
def CH:Z3:=ZH 107 16 (sub (Z1 Tryz.f107) [1,1]) (Zh cfg 16 107 Tryz.f107 H0) [(1,x1),(2,x2)] H
def TF:Z3:=
 Z0 (ZM p0 H) fun u=>
 Z0 (some ((.ptr u.2.length 0),u.2++[.cells [(.str []),.nils,(.str []),(.str []),.nils,.nils]])) fun j=>
 Z0 (Z4 true 6 u.1 j.2) fun t4=>
 Z0 (Zf G2 [t4] j.2) fun w=>
 Z0 (Z5 .neq w.1 (.int .i64 0)) fun z=>
 Zl z
 (Z0 (Zf Lo [] w.2) fun y=>
 Z0 (Ze 6 j.1 y.1 y.2) fun g=>
 Z0 (Z4 true 6 j.1 g.2) fun A=>
 some (A,g.2))
 (CH u.1 j.1 H w.2)
theorem ZcW:CH x1 x2 H0 H =
 Z0 (Ra 1 8 false (.int .i64 0) (.int .i64 256) (.int .i64 256) H) fun u=>
 Z0 (Z6 1 x1) fun y=>
 Z0 (Z4 false 1 y u.2) fun z=>
 Z0 (C1 1 u.1 z u.2) fun w=>
 Z0 (Z6 1 x1) fun A=>
 Z0 (Ze 1 A u.1 w.2) fun j=>
 Z0 (Z4 true 6 x1 j.2) fun B=>
 Z0 (Ze 6 x2 B j.2) fun g=>
 Z0 (Z4 true 6 x2 g.2) fun C=>
 some (C,g.2):=Za [3]
theorem M5:VU [p0] H=TF p0 H:=Be 16 [3] Tryz.func107
def PH:Z3:=
 Z0 (some ((.ptr H.length 0),H++[.cells [.nils]])) fun g=>
 Z0 (Z4 true 6 p1 g.2) fun t5=>
 Z0 (some (.fn (.func 110) [] [g.1])) fun u=>
 Z0 (No [t5,p0,u] g.2) fun j=>
 Z0 (Z4 false 1 g.1 j.2) fun t9=>
 some (t9,j.2)
theorem Ap:UK [p0,p1] H=PH p0 p1 H:=Be 10 [] Tryz.func108
def AQ:Z3:=ZH 109 75 (sub (Z1 Tryz.f109) [1,1,1,1,0,0,1,0,1,1,1]) (Z7 3 (Zc (YA 109 75 Tryz.f109 [1,1,1,1,0,0]) (Z7 2 (Zh cfg 75 109 Tryz.f109 H0)))) [(1,x1),(2,x2),(3,x3),(6,x6),(9,x9),(10,x10)] H
def QL:Z3:=ZH 109 75 (sub (Z1 Tryz.f109) [1,1,1,1,0,0,1,0,1,1]) (Z7 3 (Zc (YA 109 75 Tryz.f109 [1,1,1,1,0,0]) (Z7 2 (Zh cfg 75 109 Tryz.f109 H0)))) [(1,x1),(2,x2),(3,x3),(6,x6),(9,x9),(10,x10),(11,x11)] H
def AP:Z3:=ZH 109 75 (sub (Z1 Tryz.f109) [1,1,1,1,0,0,1]) (Zc (YA 109 75 Tryz.f109 [1,1,1,1,0,0]) (Z7 2 (Zh cfg 75 109 Tryz.f109 H0))) [(1,x1),(2,x2),(3,x3),(6,x6),(9,x9)] H
def Gc:Z3:=UA 109 75 (sub (Z1 Tryz.f109) [1,1,1,1,0,0]) (Z7 2 (Zh cfg 75 109 Tryz.f109 H0)) [(1,x1),(2,x2),(3,x3),(6,x6),(9,x9)] H
def P2:Z3:=ZH 109 75 (sub (Z1 Tryz.f109) [1,1,1]) (Zh cfg 75 109 Tryz.f109 H0) [(1,x1),(2,x2),(3,x3),(6,x6)] H
def Gb:KL:=Zc (Vw 109 75 Tryz.f109 [1,1,1]) (Zh cfg 75 109 Tryz.f109 H0)
theorem ZaF:ZW 75 (Gb H0):=Zy (C:=cfg) (kp:=cfg.keep 109) (sub (Z1 Tryz.f109) [1,1,1]) (ZB 109 Tryz.f109 H0)
def AS:Z3:=ZH 109 75 (sub (Z1 Tryz.f109) [1,1,0,1,0,0,1,1,1]) (Zc (YA 109 75 Tryz.f109 [1,1,0,1,0,0]) (Z7 0 (Gb H0))) [(1,x1),(2,x2),(3,x3),(6,x6),(16,x16),(17,x17),(18,x18)] H
def AR:Z3:=ZH 109 75 (sub (Z1 Tryz.f109) [1,1,0,1,0,0,1,1]) (Zc (YA 109 75 Tryz.f109 [1,1,0,1,0,0]) (Z7 0 (Gb H0))) [(1,x1),(2,x2),(3,x3),(6,x6),(16,x16),(17,x17),(18,x18),(19,x19)] H
def Gd:Z3:=UA 109 75 (sub (Z1 Tryz.f109) [1,1,0,1,0,0]) (Z7 0 (Gb H0)) [(1,x1),(2,x2),(3,x3),(6,x6),(16,x16),(17,x17),(18,x18)] H
def OS:Z3:=
 Z0 (ZM p0 H) fun u=>
 Z0 (some ((.map u.2.length),u.2++[.map [] 0])) fun g=>
 Z0 (Z6 5 u.1) fun w=>
 Z0 (Z4 false 1 w g.2) fun j=>
 Z0 (Zk (.slice 189) j) fun y=>
 Gd p1 p2 u.1 g.1 j y (.int .i64 0) H g.2
theorem Mn:AQ x1 x2 x3 x6 x9 x10 H0 H =
 Z0 (Zk .string x10) fun g=>
 Z0 (Z5 .add x9 g) fun j=>
 Gc x1 x2 x3 x6 j H0 H:=Za [4,6,7,9,14,15]
theorem Mm:QL x1 x2 x3 x6 x9 x10 x11 H0 H =
 Z0 (Ym cfg (Z9 cfg) x2 [x10,x11] H) fun g=>
 Z0 (Xo .not g.1) fun t70=>
 Zl t70
 (some ((.tuple []),g.2))
 (AQ x1 x2 x3 x6 x9 x10 H0 g.2):=Za [4,6,7,9,14,15]
theorem ZdT:AP x1 x2 x3 x6 x9 H0 H =
 Z0 (Z5 .add x9 (.int .i64 1)) fun w=>
 Z0 (Y8 x1 (some x9) (some w) none) fun g=>
 Z0 (Z6 1 x3) fun t37=>
 Z0 (Z4 false 1 t37 H) fun y=>
 Z0 (Zw x1 x9) fun z=>
 Z0 (Zo 1 y z) fun A=>
 Z0 (Z4 false 1 A H) fun j=>
 Z0 (Z5 .add x9 (.int .i64 2)) fun B=>
 Z0 (Zk .string x1) fun C=>
 Z0 (Z5 .leq B C) fun D=>
 Zl D
 (Z0 (Z5 .add x9 (.int .i64 2)) fun E=>
 Z0 (Y8 x1 (some x9) (some E) none) fun F=>
 Z0 (Yd .string (.int .i64 0) true x6 F H) fun u=>
 Z0 (ZQ u 0) fun I=>
 Z0 (ZQ u 1) fun J=>
 Zl J
 (Z0 (Z5 .add x9 (.int .i64 2)) fun K=>
 Z0 (Y8 x1 (some x9) (some K) none) fun L=>
 QL x1 x2 x3 x6 x9 L I H0 H)
 (QL x1 x2 x3 x6 x9 g j H0 H))
 (QL x1 x2 x3 x6 x9 g j H0 H):=Za [4,6,7,9,14,15]
theorem BB:Gc x1 x2 x3 x6 x9 H0 H =
 Z0 (Zk .string x1) fun g=>
 Z0 (Z5 .lss x9 g) fun j=>
 Zl j
 (AP x1 x2 x3 x6 x9 H0 H)
 (some ((.tuple []),H)):=(ZD (C:=cfg) [4,6,7,9,14,15] (Zn 2 (ZB 109 Tryz.f109 H0)) _ _).trans (by kernel_rfl)
theorem ZdS:P2 x1 x2 x3 x6 H0 H =
 Gc x1 x2 x3 x6 (.int .i64 0) H0 H:=Za [4,6,7,9,14,15]
theorem ZdV:AS x1 x2 x3 x6 x16 x17 x18 H0 H =
 Z0 (Z5 .add x18 (.int .i64 1)) fun g=>
 Gd x1 x2 x3 x6 x16 x17 g H0 H:=Za [4,6,7,9,14,15]
theorem ZdU:AR x1 x2 x3 x6 x16 x17 x18 x19 H0 H =
 Z0 (Zo 2 x16 x18) fun w=>
 Z0 (Z4 true 2 w H) fun y=>
 Z0 (some ((.ptr H.length 0),H++[.cells [(.str []),(.int .i64 0)]])) fun u=>
 Z0 (Ze 2 u.1 y u.2) fun g=>
 Z0 (Z6 0 u.1) fun z=>
 Z0 (Z4 false 1 z g.2) fun A=>
 Z0 (Z6 1 u.1) fun B=>
 Z0 (Z4 false 1 B g.2) fun C=>
 Z0 (Xp .string x6 A C g.2) fun j=>
 AS x1 x2 x3 x6 x16 x17 x18 H0 j.2:=Za [4,6,7,9,14,15]
theorem Mo:Gd x1 x2 x3 x6 x16 x17 x18 H0 H =
 Z0 (Z5 .lss x18 x17) fun g=>
 Zl g
 (AR x1 x2 x3 x6 x16 x17 x18 g H0 H)
 (P2 x1 x2 x3 x6 H0 H):=(ZD (C:=cfg) [4,6,7,9,14,15] (Zn 0 (ZaF H0)) _ _).trans (by kernel_rfl)
theorem ZeO:No [p0,p1,p2] H=OS p0 p1 p2 H:=Be 75 [4,6,7,9,14,15] Tryz.func109
def FK (p0 p1 p2:AV)(H:Hp):Z3:=
 Z0 (Z4 false 1 p2 H) fun u=>
 Z0 ((ZE 1 [(0,p1)] [(.int .i64 0)]).map (.vs 1 .clip)) fun w=>
 Z0 (Yl 1 8 u w H) fun j=>
 Z0 (Ze 1 p2 j.1 j.2) fun g=>
 some ((.bool true),g.2)
theorem Sd:QY [p0,p1,p2] H=FK p0 p1 p2 H:=Be 10 [] Tryz.func110
def Mb:Z3:=
 Z0 (Zf XO [p0,p1] H) fun g=>
 some (g.1,g.2)
theorem IA:Bm [p0,p1] H=Mb p0 p1 H:=Be 8 [] Tryz.func111
def Bv:Z3:=ZH 112 116 (sub (Z1 Tryz.f112) [1,1,1,1,1,1,1,1,1,1,1]) (Zh cfg 116 112 Tryz.f112 H0) [(9,x9),(11,x11)] H
def Bu:Z3:=ZH 112 116 (sub (Z1 Tryz.f112) [1,1,1,1,1,1,1,1,1]) (Zh cfg 116 112 Tryz.f112 H0) [(5,x5),(7,x7),(8,x8),(9,x9)] H
def Ww:Z3:=ZH 112 116 (sub (Z1 Tryz.f112) [1,1,1,1,1,1,1,1]) (Zh cfg 116 112 Tryz.f112 H0) [(5,x5),(6,x6),(7,x7),(8,x8),(9,x9)] H
def Qn:Z3:=ZH 112 116 (sub (Z1 Tryz.f112) [1,1,1,1,1]) (Zh cfg 116 112 Tryz.f112 H0) [(0,x0),(4,x4),(5,x5)] H
def Bt:Z3:=ZH 112 116 (sub (Z1 Tryz.f112) [1,1,1]) (Zh cfg 116 112 Tryz.f112 H0) [(0,x0),(4,x4)] H
def Bw:KL:=Zc (Vw 112 116 Tryz.f112 [1,1,1]) (Zh cfg 116 112 Tryz.f112 H0)
theorem HG:ZW 116 (Bw H0):=Zy (C:=cfg) (kp:=cfg.keep 112) (sub (Z1 Tryz.f112) [1,1,1]) (ZB 112 Tryz.f112 H0)
def Md:Z3:=ZH 112 116 (sub (Z1 Tryz.f112) [1,1,0,0,0,1]) (Zc (YA 112 116 Tryz.f112 [1,1,0,0,0]) (Z7 0 (Bw H0))) [(0,x0),(4,x4)] H
def Qo:Z3:=UA 112 116 (sub (Z1 Tryz.f112) [1,1,0,0,0]) (Z7 0 (Bw H0)) [(0,x0),(4,x4)] H
def ZeM:Z3:=
 Qo p0 (.int .i64 0) H H
theorem Ri:Bv x9 x11 H0 H =
 some ((.tuple [x11,x9]),H):=Za [3,4,7,14,16,19]
theorem IZ:Bu x5 x7 x8 x9 H0 H =
 Z0 (Zf FB [x7,x8] H) fun g=>
 Z0 (UO (.int .i64 10000000000000) g.1) fun j=>
 Zl x5
 (Z0 (Xo .neg j) fun u=>
 Bv x9 u H0 g.2)
 (Bv x9 j H0 g.2):=Za [3,4,7,14,16,19]
theorem IY:Ww x5 x6 x7 x8 x9 H0 H =
 Z0 (Z5 .eql x6 (.int .i64 0)) fun g=>
 Z0 (Z8 g true (.tuple []) (some x8)) fun j=>
 Z0 (Z8 g true (.tuple []) (YK .eql j (.str []))) fun u=>
 Z0 (Zi g u (.bool false)) fun w=>
 Zl w
 (some ((.tuple [(.int .i64 0),(.int .i64 0)]),H))
 (Bu x5 x7 x8 x9 H0 H):=Za [3,4,7,14,16,19]
theorem IX:Qn x0 x4 x5 H0 H =
 Z0 (Y8 x0 (some x4) none none) fun B=>
 Z0 (Zf QX [B] H) fun g=>
 Z0 (Z5 .add x4 g.1) fun C=>
 Z0 (Y8 x0 (some x4) (some C) none) fun y=>
 Z0 (Z5 .add x4 g.1) fun j=>
 Z0 (Zk .string x0) fun t70=>
 Z0 (Z5 .lss j t70) fun w=>
 Z0 (Z8 w true (.tuple []) (some x0)) fun D=>
 Z0 (Z8 w true (.tuple []) (some j)) fun E=>
 Z0 (Z8 w true (.tuple []) (Zw D E)) fun F=>
 Z0 (Z8 w true (.tuple []) (Z5 .eql F (.int .u8 46))) fun I=>
 Z0 (Zi w I (.bool false)) fun J=>
 Zl J
 (Z0 (Z5 .add j (.int .i64 1)) fun K=>
 Z0 (Y8 x0 (some K) none none) fun L=>
 Z0 (Zf QX [L] g.2) fun u=>
 Z0 (Z5 .gtr g.1 (.int .i64 0)) fun z=>
 Z0 (Z8 z false (.tuple []) (some u.1)) fun M=>
 Z0 (Z8 z false (.tuple []) (Z5 .gtr M (.int .i64 0))) fun N=>
 Z0 (Zi z (.bool true) N) fun O=>
 Zl O
 (Z0 (Z5 .add j (.int .i64 1)) fun Q=>
 Z0 (Z5 .add j (.int .i64 1)) fun R=>
 Z0 (Z5 .add R u.1) fun S=>
 Z0 (Y8 x0 (some Q) (some S) none) fun T=>
 Z0 (Z5 .add (.int .i64 1) u.1) fun U=>
 Z0 (Z5 .add j U) fun A=>
 Ww x5 g.1 y T A H0 u.2)
 (Ww x5 g.1 y (.str []) j H0 u.2))
 (Ww x5 g.1 y (.str []) j H0 g.2):=Za [3,4,7,14,16,19]
theorem IW:Bt x0 x4 H0 H =
 Z0 (Zk .string x0) fun w=>
 Z0 (Z5 .lss x4 w) fun j=>
 Z0 (Z8 j true (.tuple []) (some x0)) fun y=>
 Z0 (Z8 j true (.tuple []) (some x4)) fun z=>
 Z0 (Z8 j true (.tuple []) (Zw y z)) fun t37=>
 Z0 (Z8 j true (.tuple []) (Z5 .eql t37 (.int .u8 45))) fun A=>
 Z0 (Zi j A (.bool false)) fun g=>
 Z0 (Z8 g false (.tuple []) (some x4)) fun B=>
 Z0 (Z8 g false (.tuple []) (some x0)) fun C=>
 Z0 (Z8 g false (.tuple []) (Zk .string C)) fun D=>
 Z0 (Z8 g false (.tuple []) (Z5 .lss B D)) fun E=>
 Z0 (Z8 g false (.tuple []) (some E)) fun u=>
 Z0 (Z8 u true (.tuple []) (some x0)) fun F=>
 Z0 (Z8 u true (.tuple []) (some x4)) fun I=>
 Z0 (Z8 u true (.tuple []) (Zw F I)) fun J=>
 Z0 (Z8 u true (.tuple []) (Z5 .eql J (.int .u8 43))) fun K=>
 Z0 (Z8 g false (.tuple []) (Zi u K (.bool false))) fun L=>
 Z0 (Zi g (.bool true) L) fun M=>
 Zl M
 (Z0 (Z5 .add x4 (.int .i64 1)) fun N=>
 Qn x0 N g H0 H)
 (Qn x0 x4 g H0 H):=Za [3,4,7,14,16,19]
theorem Rj:Md x0 x4 H0 H =
 Z0 (Z5 .add x4 (.int .i64 1)) fun g=>
 Qo x0 g H0 H:=Za [3,4,7,14,16,19]
theorem Rk:Qo x0 x4 H0 H =
 Z0 (Zk .string x0) fun u=>
 Z0 (Z5 .lss x4 u) fun g=>
 Z0 (Z8 g true (.tuple []) (some x0)) fun w=>
 Z0 (Z8 g true (.tuple []) (some x4)) fun y=>
 Z0 (Z8 g true (.tuple []) (Zw w y)) fun z=>
 Z0 (Z8 g true (.tuple []) (Z5 .eql z (.int .u8 32))) fun A=>
 Z0 (Z8 g true (.tuple []) (some A)) fun j=>
 Z0 (Z8 j false (.tuple []) (some x0)) fun B=>
 Z0 (Z8 j false (.tuple []) (some x4)) fun D=>
 Z0 (Z8 j false (.tuple []) (Zw B D)) fun E=>
 Z0 (Z8 j false (.tuple []) (Z5 .eql E (.int .u8 9))) fun F=>
 Z0 (Z8 g true (.tuple []) (Zi j (.bool true) F)) fun I=>
 Z0 (Zi g I (.bool false)) fun J=>
 Zl J
 (Md x0 x4 H0 H)
 (Bt x0 x4 H0 H):=(ZD (C:=cfg) [3,4,7,14,16,19] (Zn 0 (HG H0)) _ _).trans (by kernel_rfl)
theorem Zar:QW [p0] H=ZeM p0 H:=Be 116 [3,4,7,14,16,19] Tryz.func112
def CQ:Z3:=ZH 113 13 (sub (Z1 Tryz.f113) [1,1]) (Zh cfg 13 113 Tryz.f113 H0) [] H
def Av:Z3:=
 Z0 (Z5 .lss p0 p1) fun j=>
 Zl j
 (some ((.int .i64 (-1)),H))
 (Z0 (Z5 .gtr p0 p1) fun g=>
 Zl g
 (some ((.int .i64 1),H))
 (CQ H H))
theorem Zdb:CQ H0 H =
 some ((.int .i64 0),H):=Za [5]
theorem ZdJ:TE [p0,p1] H=Av p0 p1 H:=Be 13 [5] Tryz.func113
def M8:Z3:=
 Z0 (Z4 false 1 p2 H) fun B=>
 Z0 (Z5 .and B p0) fun t9=>
 Z0 (Z5 .neq t9 (.int .i64 0)) fun y=>
 Zl y
 (Z0 (Z4 false 1 p3 H) fun z=>
 Z0 (Xs cfg (Z9 cfg) p1 [z] H) fun g=>
 Z0 (Z4 false 1 p4 g.2) fun A=>
 Z0 (Xs cfg (Z9 cfg) p1 [A] g.2) fun j=>
 Z0 (Ze 1 p3 g.1 j.2) fun u=>
 Z0 (Ze 1 p4 j.1 u.2) fun w=>
 some ((.tuple []),w.2))
 (some ((.tuple []),H))
theorem Ix:Bj [p0,p1,p2,p3,p4] H=M8 p0 p1 p2 p3 p4 H:=Be 17 [] Tryz.func114
def M9:Z3:=
 Z0 (Ae Zdy [p0,(.str [32,9])] H) fun g=>
 some (g.1,g.2)
theorem Iy:Bk [p0] H=M9 p0 H:=Be 5 [] Tryz.func115
def CP:Z3:=ZH 117 44 (sub (Z1 Tryz.f117) [1,1,1]) (Zh cfg 44 117 Tryz.f117 H0) [(3,x3)] H
def Kw:KL:=Zc (Vw 117 44 Tryz.f117 [1,1,1]) (Zh cfg 44 117 Tryz.f117 H0)
theorem OF:ZW 44 (Kw H0):=Zy (C:=cfg) (kp:=cfg.keep 117) (sub (Z1 Tryz.f117) [1,1,1]) (ZB 117 Tryz.f117 H0)
def Q6:Z3:=ZH 117 44 (sub (Z1 Tryz.f117) [1,1,0,1,0,0,1,1,1]) (Zc (YA 117 44 Tryz.f117 [1,1,0,1,0,0]) (Z7 0 (Kw H0))) [(0,x0),(3,x3),(7,x7),(8,x8)] H
def RI:Z3:=ZH 117 44 (sub (Z1 Tryz.f117) [1,1,0,1,0,0,1,1]) (Zc (YA 117 44 Tryz.f117 [1,1,0,1,0,0]) (Z7 0 (Kw H0))) [(0,x0),(3,x3),(7,x7),(8,x8),(9,x9)] H
def Kx:Z3:=UA 117 44 (sub (Z1 Tryz.f117) [1,1,0,1,0,0]) (Z7 0 (Kw H0)) [(0,x0),(3,x3),(7,x7),(8,x8)] H
def Au:Z3:=
 Z0 (some ((.ptr H.length 0),H++[.bld 201 5 []])) fun g=>
 Z0 (Zk .string p0) fun j=>
 Kx p0 g.1 j (.int .i64 0) H g.2
theorem Zd9:CP x3 H0 H =
 Z0 (stringE.run [x3] H) fun g=>
 some (g.1,g.2):=Za [4,8,9]
theorem Nh:Q6 x0 x3 x7 x8 H0 H =
 Z0 (Z5 .add x8 (.int .i64 1)) fun g=>
 Kx x0 x3 x7 g H0 H:=Za [4,8,9]
theorem Zda:RI x0 x3 x7 x8 x9 H0 H =
 Z0 (Zw x0 x8) fun g=>
 Z0 (Vc [g] H) fun j=>
 Z0 (Z8 j.1 false (.tuple []) (some g)) fun C=>
 Z0 (Z8 j.1 false (.tuple []) (Z5 .geq C (.int .u8 97))) fun D=>
 Z0 (Z8 j.1 false (.tuple []) (some D)) fun y=>
 Z0 (Z8 y true (.tuple []) (some g)) fun E=>
 Z0 (Z8 y true (.tuple []) (Z5 .leq E (.int .u8 122))) fun F=>
 Z0 (Z8 j.1 false (.tuple []) (Zi y F (.bool false))) fun I=>
 Z0 (Zi j.1 (.bool true) I) fun u=>
 Z0 (Z8 u false (.tuple []) (some g)) fun J=>
 Z0 (Z8 u false (.tuple []) (Z5 .geq J (.int .u8 65))) fun K=>
 Z0 (Z8 u false (.tuple []) (some K)) fun z=>
 Z0 (Z8 z true (.tuple []) (some g)) fun L=>
 Z0 (Z8 z true (.tuple []) (Z5 .leq L (.int .u8 90))) fun M=>
 Z0 (Z8 u false (.tuple []) (Zi z M (.bool false))) fun N=>
 Z0 (Zi u (.bool true) N) fun w=>
 Z0 (Z8 w false (.tuple []) (some g)) fun O=>
 Z0 (Z8 w false (.tuple []) (Z5 .geq O (.int .u8 48))) fun Q=>
 Z0 (Z8 w false (.tuple []) (some Q)) fun A=>
 Z0 (Z8 A true (.tuple []) (some g)) fun R=>
 Z0 (Z8 A true (.tuple []) (Z5 .leq R (.int .u8 57))) fun t37=>
 Z0 (Z8 w false (.tuple []) (Zi A t37 (.bool false))) fun S=>
 Z0 (Zi w (.bool true) S) fun T=>
 Zl T
 (Z0 (byteE.run [x3,g] j.2) fun B=>
 Q6 x0 x3 x7 x8 H0 B.2)
 (Q6 x0 x3 x7 x8 H0 j.2):=Za [4,8,9]
theorem Ni:Kx x0 x3 x7 x8 H0 H =
 Z0 (Z5 .lss x8 x7) fun t9=>
 Zl t9
 (RI x0 x3 x7 x8 t9 H0 H)
 (CP x3 H0 H):=(ZD (C:=cfg) [4,8,9] (Zn 0 (OF H0)) _ _).trans (by kernel_rfl)
theorem ZdI:TD [p0] H=Au p0 H:=Be 44 [4,8,9] Tryz.func117
def Ma:Z3:=
 Z0 (Z4 true 6 p1 H) fun t4=>
 Z0 (Zf TC [t4,p0] H) fun g=>
 some (g.1,g.2)
theorem Iz:Bl [p0,p1] H=Ma p0 p1 H:=Be 7 [] Tryz.func118
def Aq:Z3:=
 Z0 (ZM p0 H) fun g=>
 Z0 (Z4 true 6 g.1 g.2) fun t5=>
 Z0 (Zf VU [t5] g.2) fun j=>
 Z0 (TG false 1 3 j.1) fun w=>
 Z0 (Zf FJ [w,p1] j.2) fun u=>
 some (u.1,u.2)
theorem ZdF:TC [p0,p1] H=Aq p0 p1 H:=Be 10 [] Tryz.func119
def CE:Z3:=ZH 143 49 (sub (Z1 Tryz.f143) [1,1,1,1,1]) (Zh cfg 49 143 Tryz.f143 H0) [(1,x1)] H
def CD:Z3:=ZH 143 49 (sub (Z1 Tryz.f143) [1,1,1,1]) (Zh cfg 49 143 Tryz.f143 H0) [(1,x1)] H
def Kq:KL:=Zc (Vw 143 49 Tryz.f143 [1,1,1,1]) (Zh cfg 49 143 Tryz.f143 H0)
theorem Ol:ZW 49 (Kq H0):=Zy (C:=cfg) (kp:=cfg.keep 143) (sub (Z1 Tryz.f143) [1,1,1,1]) (ZB 143 Tryz.f143 H0)
def CG:Z3:=ZH 143 49 (sub (Z1 Tryz.f143) [1,1,1,0,1,0,0,1,1,1]) (Zc (YA 143 49 Tryz.f143 [1,1,1,0,1,0,0]) (Z7 0 (Kq H0))) [(1,x1),(27,x27),(28,x28),(29,x29)] H
def CF:Z3:=ZH 143 49 (sub (Z1 Tryz.f143) [1,1,1,0,1,0,0,1,1]) (Zc (YA 143 49 Tryz.f143 [1,1,1,0,1,0,0]) (Z7 0 (Kq H0))) [(1,x1),(27,x27),(28,x28),(29,x29),(30,x30)] H
def Kr:Z3:=UA 143 49 (sub (Z1 Tryz.f143) [1,1,1,0,1,0,0]) (Z7 0 (Kq H0)) [(1,x1),(27,x27),(28,x28),(29,x29)] H
def CC:Z3:=ZH 143 49 (sub (Z1 Tryz.f143) [1,1,1]) (Zh cfg 49 143 Tryz.f143 H0) [(1,x1)] H
def CB:Z3:=ZH 143 49 (sub (Z1 Tryz.f143) [1,1]) (Zh cfg 49 143 Tryz.f143 H0) [(1,x1)] H
def Ao:Z3:=
 Z0 (ZM p0 H) fun g=>
 Z0 (Z6 0 g.1) fun u=>
 Z0 (Z4 false 1 u g.2) fun w=>
 Z0 (Zf JC [w] g.2) fun j=>
 Z0 (Xo .not j.1) fun t9=>
 Zl t9
 (some ((.int .i64 4),j.2))
 (CB g.1 H j.2)
theorem ZcT:CE x1 H0 H =
 Z0 (Z6 5 x1) fun j=>
 Z0 (Z4 false 1 j H) fun u=>
 Z0 (Zf WV [u] H) fun g=>
 some (g.1,g.2):=Za [3,5,7,10,11,14]
theorem ZcS:CD x1 H0 H =
 Z0 (Z6 4 x1) fun j=>
 Z0 (Z4 false 1 j H) fun u=>
 Z0 (Zf Vb [u] H) fun g=>
 Z0 (Z5 .neq g.1 (.int .i64 0)) fun w=>
 Zl w
 (some (g.1,g.2))
 (CE x1 H0 g.2):=Za [3,5,7,10,11,14]
theorem ZcV:CG x1 x27 x28 x29 H0 H =
 Z0 (Z5 .add x29 (.int .i64 1)) fun g=>
 Kr x1 x27 x28 g H0 H:=Za [3,5,7,10,11,14]
theorem ZcU:CF x1 x27 x28 x29 x30 H0 H =
 Z0 (Zo 1 x27 x29) fun u=>
 Z0 (Z4 false 1 u H) fun j=>
 Z0 (Z5 .lss j (.int .i64 0)) fun g=>
 Z0 (Z8 g false (.tuple []) (some j)) fun w=>
 Z0 (Z8 g false (.tuple []) (Z5 .gtr w (.int .i64 65535))) fun t37=>
 Z0 (Zi g (.bool true) t37) fun y=>
 Zl y
 (some ((.int .i64 2),H))
 (CG x1 x27 x28 x29 H0 H):=Za [3,5,7,10,11,14]
theorem N6:Kr x1 x27 x28 x29 H0 H =
 Z0 (Z5 .lss x29 x28) fun g=>
 Zl g
 (CF x1 x27 x28 x29 g H0 H)
 (CD x1 H0 H):=(ZD (C:=cfg) [3,5,7,10,11,14] (Zn 0 (Ol H0)) _ _).trans (by kernel_rfl)
theorem ZcR:CC x1 H0 H =
 Z0 (Z6 1 x1) fun j=>
 Z0 (Z4 false 1 j H) fun g=>
 Z0 (Zk (.slice 3) g) fun u=>
 Kr x1 g u (.int .i64 0) H0 H:=Za [3,5,7,10,11,14]
theorem ZcQ:CB x1 H0 H =
 Z0 (Z6 1 x1) fun u=>
 Z0 (Z4 false 1 u H) fun w=>
 Z0 (Zk (.slice 3) w) fun y=>
 Z0 (Z5 .neq y (.int .i64 256)) fun g=>
 Z0 (Z8 g false (.tuple []) (Z6 2 x1)) fun z=>
 Z0 (Z8 g false (.tuple []) (Z4 false 1 z H)) fun A=>
 Z0 (Z8 g false (.tuple []) (Zk .string A)) fun B=>
 Z0 (Z8 g false (.tuple []) (Z5 .neq B (.int .i64 256))) fun C=>
 Z0 (Zi g (.bool true) C) fun j=>
 Z0 (Z8 j false (.tuple []) (Z6 3 x1)) fun D=>
 Z0 (Z8 j false (.tuple []) (Z4 false 1 D H)) fun E=>
 Z0 (Z8 j false (.tuple []) (Zk .string E)) fun F=>
 Z0 (Z8 j false (.tuple []) (Z5 .neq F (.int .i64 256))) fun I=>
 Z0 (Zi j (.bool true) I) fun J=>
 Zl J
 (some ((.int .i64 2),H))
 (CC x1 H0 H):=Za [3,5,7,10,11,14]
theorem ZdE:G2 [p0] H=Ao p0 H:=Be 49 [3,5,7,10,11,14] Tryz.func143
def DO:Z3:=
 Z0 (HM .cmp [p0,p1] H) fun g=>
 some (g.1,g.2)
theorem G4:XO [p0,p1] H=DO p0 p1 H:=Be 8 [] Tryz.func145
def Me:Z3:=ZH 146 23 (sub (Z1 Tryz.f146) [1,1,1]) (Zh cfg 23 146 Tryz.f146 H0) [(3,x3)] H
def By:KL:=Zc (Vw 146 23 Tryz.f146 [1,1,1]) (Zh cfg 23 146 Tryz.f146 H0)
theorem HH:ZW 23 (By H0):=Zy (C:=cfg) (kp:=cfg.keep 146) (sub (Z1 Tryz.f146) [1,1,1]) (ZB 146 Tryz.f146 H0)
def Mf:Z3:=ZH 146 23 (sub (Z1 Tryz.f146) [1,1,0,0,0,1]) (Zc (YA 146 23 Tryz.f146 [1,1,0,0,0]) (Z7 0 (By H0))) [(0,x0),(3,x3)] H
def Qp:Z3:=UA 146 23 (sub (Z1 Tryz.f146) [1,1,0,0,0]) (Z7 0 (By H0)) [(0,x0),(3,x3)] H
def ZeN:Z3:=
 Qp p0 (.int .i64 0) H H
theorem J4:Me x3 H0 H =
 some (x3,H):=Za [3,4]
theorem O0:Mf x0 x3 H0 H =
 Z0 (Z5 .add x3 (.int .i64 1)) fun g=>
 Qp x0 g H0 H:=Za [3,4]
theorem Rl:Qp x0 x3 H0 H =
 Z0 (Zk .string x0) fun F=>
 Z0 (Z5 .lss x3 F) fun j=>
 Z0 (Z8 j true (.tuple []) (some x0)) fun t9=>
 Z0 (Z8 j true (.tuple []) (some x3)) fun u=>
 Z0 (Z8 j true (.tuple []) (Zw t9 u)) fun w=>
 Z0 (Z8 j true (.tuple []) (Z5 .geq w (.int .u8 48))) fun y=>
 Z0 (Zi j y (.bool false)) fun g=>
 Z0 (Z8 g true (.tuple []) (some x0)) fun z=>
 Z0 (Z8 g true (.tuple []) (some x3)) fun A=>
 Z0 (Z8 g true (.tuple []) (Zw z A)) fun B=>
 Z0 (Z8 g true (.tuple []) (Z5 .leq B (.int .u8 57))) fun D=>
 Z0 (Zi g D (.bool false)) fun E=>
 Zl E
 (Mf x0 x3 H0 H)
 (Me x3 H0 H):=(ZD (C:=cfg) [3,4] (Zn 0 (HH H0)) _ _).trans (by kernel_rfl)
theorem Zas:QX [p0] H=ZeN p0 H:=Be 23 [3,4] Tryz.func146
def E2:Z3:=ZH 147 29 (sub (Z1 Tryz.f147) [1,1,1]) (Zh cfg 29 147 Tryz.f147 H0) [(1,x1),(5,x5)] H
def J5:KL:=Zc (Vw 147 29 Tryz.f147 [1,1,1]) (Zh cfg 29 147 Tryz.f147 H0)
theorem AH:ZW 29 (J5 H0):=Zy (C:=cfg) (kp:=cfg.keep 147) (sub (Z1 Tryz.f147) [1,1,1]) (ZB 147 Tryz.f147 H0)
def E4:Z3:=ZH 147 29 (sub (Z1 Tryz.f147) [1,1,0,1,0,0,1,1,1]) (Zc (YA 147 29 Tryz.f147 [1,1,0,1,0,0]) (Z7 0 (J5 H0))) [(0,x0),(1,x1),(5,x5),(8,x8),(9,x9)] H
def E3:Z3:=ZH 147 29 (sub (Z1 Tryz.f147) [1,1,0,1,0,0,1,1]) (Zc (YA 147 29 Tryz.f147 [1,1,0,1,0,0]) (Z7 0 (J5 H0))) [(0,x0),(1,x1),(5,x5),(8,x8),(9,x9),(10,x10)] H
def J6:Z3:=UA 147 29 (sub (Z1 Tryz.f147) [1,1,0,1,0,0]) (Z7 0 (J5 H0)) [(0,x0),(1,x1),(5,x5),(8,x8),(9,x9)] H
def SG:Z3:=
 Z0 (Zk .string p0) fun g=>
 J6 p0 p1 (.int .i64 0) g (.int .i64 0) H H
theorem Zaz:E2 x1 x5 H0 H =
 Z0 (Z5 .mul x5 (.int .i64 10000)) fun j=>
 Z0 (Zf KE [x1] H) fun g=>
 Z0 (Z5 .add j g.1) fun u=>
 Z0 (UO (.int .i64 10000000000001) u) fun w=>
 some (w,g.2):=Za [4,8,9]
theorem ZaB:E4 x0 x1 x5 x8 x9 H0 H =
 Z0 (Z5 .add x9 (.int .i64 1)) fun g=>
 J6 x0 x1 x5 x8 g H0 H:=Za [4,8,9]
theorem ZaA:E3 x0 x1 x5 x8 x9 x10 H0 H =
 Z0 (Z5 .mul (.int .i64 10) x5) fun j=>
 Z0 (Zw x0 x9) fun u=>
 Z0 (Z5 .sub u (.int .u8 48)) fun w=>
 Z0 (Wh .i64 w) fun y=>
 Z0 (Z5 .add j y) fun g=>
 Z0 (Z5 .gtr g (.int .i64 1000000000)) fun z=>
 Zl z
 (some ((.int .i64 10000000000001),H))
 (E4 x0 x1 g x8 x9 H0 H):=Za [4,8,9]
theorem Ta:J6 x0 x1 x5 x8 x9 H0 H =
 Z0 (Z5 .lss x9 x8) fun g=>
 Zl g
 (E3 x0 x1 x5 x8 x9 g H0 H)
 (E2 x1 x5 H0 H):=(ZD (C:=cfg) [4,8,9] (Zn 0 (AH H0)) _ _).trans (by kernel_rfl)
theorem Zbg:FB [p0,p1] H=SG p0 p1 H:=Be 29 [4,8,9] Tryz.func147
def Eo:Z3:=ZH 155 26 (sub (Z1 Tryz.f155) [1,1,1]) (Zh cfg 26 155 Tryz.f155 H0) [(5,x5)] H
def Jd:KL:=Zc (Vw 155 26 Tryz.f155 [1,1,1]) (Zh cfg 26 155 Tryz.f155 H0)
theorem AU:ZW 26 (Jd H0):=Zy (C:=cfg) (kp:=cfg.keep 155) (sub (Z1 Tryz.f155) [1,1,1]) (ZB 155 Tryz.f155 H0)
def Er:Z3:=ZH 155 26 (sub (Z1 Tryz.f155) [1,1,0,1,0,0,1,1,1]) (Zc (YA 155 26 Tryz.f155 [1,1,0,1,0,0]) (Z7 0 (Jd H0))) [(0,x0),(5,x5),(10,x10),(11,x11)] H
def Ep:Z3:=ZH 155 26 (sub (Z1 Tryz.f155) [1,1,0,1,0,0,1,1]) (Zc (YA 155 26 Tryz.f155 [1,1,0,1,0,0]) (Z7 0 (Jd H0))) [(0,x0),(5,x5),(10,x10),(11,x11),(12,x12)] H
def Je:Z3:=UA 155 26 (sub (Z1 Tryz.f155) [1,1,0,1,0,0]) (Z7 0 (Jd H0)) [(0,x0),(5,x5),(10,x10),(11,x11)] H
def SJ:Z3:=
 Z0 (IU p1 H) fun g=>
 Z0 (Zk (.slice 5) g.1) fun j=>
 Je p0 g.1 j (.int .i64 0) H g.2
theorem ZaG:Eo x5 H0 H =
 Z0 (Br x5 H) fun g=>
 some (g,H):=Za [4,6,7]
theorem ZaI:Er x0 x5 x10 x11 H0 H =
 Z0 (Z5 .add x11 (.int .i64 1)) fun g=>
 Je x0 x5 x10 g H0 H:=Za [4,6,7]
theorem ZaH:Ep x0 x5 x10 x11 x12 H0 H =
 Z0 (Zo 1 x5 x11) fun j=>
 Z0 (Z4 false 1 j H) fun u=>
 Z0 (Zw x0 u) fun w=>
 Z0 (Zo 1 x5 x11) fun y=>
 Z0 (Ze 1 y w H) fun g=>
 Er x0 x5 x10 x11 H0 g.2:=Za [4,6,7]
theorem Te:Je x0 x5 x10 x11 H0 H =
 Z0 (Z5 .lss x11 x10) fun g=>
 Zl g
 (Ep x0 x5 x10 x11 g H0 H)
 (Eo x5 H0 H):=(ZD (C:=cfg) [4,6,7] (Zn 0 (AU H0)) _ _).trans (by kernel_rfl)
theorem Zbk:FJ [p0,p1] H=SJ p0 p1 H:=Be 26 [4,6,7] Tryz.func155
def P3:Z3:=ZH 173 54 (sub (Z1 Tryz.f173) [1,1]) (Zh cfg 54 173 Tryz.f173 H0) [(0,x0)] H
def Ge:KL:=Zc (Vw 173 54 Tryz.f173 [1,1]) (Zh cfg 54 173 Tryz.f173 H0)
theorem ZaJ:ZW 54 (Ge H0):=Zy (C:=cfg) (kp:=cfg.keep 173) (sub (Z1 Tryz.f173) [1,1]) (ZB 173 Tryz.f173 H0)
def P5:Z3:=ZH 173 54 (sub (Z1 Tryz.f173) [1,0,1,0,0,1,1,1]) (Zc (YA 173 54 Tryz.f173 [1,0,1,0,0]) (Z7 0 (Ge H0))) [(0,x0),(7,x7),(8,x8)] H
def P4:Z3:=ZH 173 54 (sub (Z1 Tryz.f173) [1,0,1,0,0,1,1]) (Zc (YA 173 54 Tryz.f173 [1,0,1,0,0]) (Z7 0 (Ge H0))) [(0,x0),(7,x7),(8,x8),(9,x9)] H
def Gf:Z3:=UA 173 54 (sub (Z1 Tryz.f173) [1,0,1,0,0]) (Z7 0 (Ge H0)) [(0,x0),(7,x7),(8,x8)] H
def OT:Z3:=
 Z0 (Zk .string p0) fun g=>
 Gf p0 g (.int .i64 0) H H
theorem ZdW:P3 x0 H0 H =
 Z0 (YK .neq x0 (.str [])) fun g=>
 Z0 (Z8 g true (.tuple []) (some x0)) fun j=>
 Z0 (Z8 g true (.tuple []) (Zk .string j)) fun u=>
 Z0 (Z8 g true (.tuple []) (Z5 .leq u (.int .i64 32))) fun w=>
 Z0 (Zi g w (.bool false)) fun y=>
 some (y,H):=Za [3,8,9]
theorem Mp:P5 x0 x7 x8 H0 H =
 Z0 (Z5 .add x8 (.int .i64 1)) fun g=>
 Gf x0 x7 g H0 H:=Za [3,8,9]
theorem ZdX:P4 x0 x7 x8 x9 H0 H =
 Z0 (Zw x0 x8) fun g=>
 Z0 (Z5 .eql g (.int .u8 95)) fun u=>
 Z0 (Z8 u false (.tuple []) (some g)) fun B=>
 Z0 (Z8 u false (.tuple []) (Z5 .geq B (.int .u8 97))) fun C=>
 Z0 (Z8 u false (.tuple []) (some C)) fun y=>
 Z0 (Z8 y true (.tuple []) (some g)) fun D=>
 Z0 (Z8 y true (.tuple []) (Z5 .leq D (.int .u8 122))) fun E=>
 Z0 (Z8 u false (.tuple []) (Zi y E (.bool false))) fun F=>
 Z0 (Zi u (.bool true) F) fun w=>
 Z0 (Z8 w false (.tuple []) (some g)) fun I=>
 Z0 (Z8 w false (.tuple []) (Z5 .geq I (.int .u8 65))) fun J=>
 Z0 (Z8 w false (.tuple []) (some J)) fun z=>
 Z0 (Z8 z true (.tuple []) (some g)) fun K=>
 Z0 (Z8 z true (.tuple []) (Z5 .leq K (.int .u8 90))) fun L=>
 Z0 (Z8 w false (.tuple []) (Zi z L (.bool false))) fun M=>
 Z0 (Zi w (.bool true) M) fun N=>
 Z0 (Xo .not N) fun j=>
 Z0 (Z8 j true (.tuple []) (some x8)) fun O=>
 Z0 (Z8 j true (.tuple []) (Z5 .eql O (.int .i64 0))) fun Q=>
 Z0 (Z8 j true (.tuple []) (some Q)) fun t37=>
 Z0 (Z8 t37 false (.tuple []) (some g)) fun R=>
 Z0 (Z8 t37 false (.tuple []) (Z5 .lss R (.int .u8 48))) fun S=>
 Z0 (Z8 j true (.tuple []) (Zi t37 (.bool true) S)) fun T=>
 Z0 (Z8 j true (.tuple []) (some T)) fun A=>
 Z0 (Z8 A false (.tuple []) (some g)) fun U=>
 Z0 (Z8 A false (.tuple []) (Z5 .gtr U (.int .u8 57))) fun V=>
 Z0 (Z8 j true (.tuple []) (Zi A (.bool true) V)) fun W=>
 Z0 (Zi j W (.bool false)) fun X=>
 Zl X
 (some ((.bool false),H))
 (P5 x0 x7 x8 H0 H):=Za [3,8,9]
theorem Qu:Gf x0 x7 x8 H0 H =
 Z0 (Z5 .lss x8 x7) fun t9=>
 Zl t9
 (P4 x0 x7 x8 t9 H0 H)
 (P3 x0 H0 H):=(ZD (C:=cfg) [3,8,9] (Zn 0 (ZaJ H0)) _ _).trans (by kernel_rfl)
theorem ZeP:JC [p0] H=OT p0 H:=Be 54 [3,8,9] Tryz.func173
def Dc:Z3:=ZH 174 28 (sub (Z1 Tryz.f174) [1,1,1,1]) (Zh cfg 28 174 Tryz.f174 H0) [] H
def XF:KL:=Zc (Vw 174 28 Tryz.f174 [1,1,1,1]) (Zh cfg 28 174 Tryz.f174 H0)
theorem N7:ZW 28 (XF H0):=Zy (C:=cfg) (kp:=cfg.keep 174) (sub (Z1 Tryz.f174) [1,1,1,1]) (ZB 174 Tryz.f174 H0)
def De:Z3:=ZH 174 28 (sub (Z1 Tryz.f174) [1,1,1,0,1,0,0,1,1,1]) (Zc (YA 174 28 Tryz.f174 [1,1,1,0,1,0,0]) (Z7 0 (XF H0))) [(3,x3),(10,x10),(11,x11),(12,x12)] H
def Dh:KL:=Zc (Vw 174 28 Tryz.f174 [1,1,1,0,1,0,0,1,1,1]) (Zc (YA 174 28 Tryz.f174 [1,1,1,0,1,0,0]) (Z7 0 (XF H0)))
def Dg:Z3:=ZH 174 28 (sub (Z1 Tryz.f174) [1,1,1,0,1,0,0,1,1,0,0,1,1,1]) (Z7 1 (Dh H0)) [(3,x3),(5,x5),(10,x10),(11,x11),(12,x12)] H
def Df:Z3:=ZH 174 28 (sub (Z1 Tryz.f174) [1,1,1,0,1,0,0,1,1,0,0,1,1]) (Z7 1 (Dh H0)) [(3,x3),(5,x5),(10,x10),(11,x11),(12,x12)] H
def Dd:Z3:=ZH 174 28 (sub (Z1 Tryz.f174) [1,1,1,0,1,0,0,1,1]) (Zc (YA 174 28 Tryz.f174 [1,1,1,0,1,0,0]) (Z7 0 (XF H0))) [(3,x3),(10,x10),(11,x11),(12,x12),(13,x13)] H
def V2:Z3:=UA 174 28 (sub (Z1 Tryz.f174) [1,1,1,0,1,0,0]) (Z7 0 (XF H0)) [(3,x3),(10,x10),(11,x11),(12,x12)] H
def Db:Z3:=ZH 174 28 (sub (Z1 Tryz.f174) [1,1]) (Zh cfg 28 174 Tryz.f174 H0) [(0,x0)] H
def Fa:Z3:=
 Z0 (Zk (.slice 246) p0) fun g=>
 Z0 (Z5 .gtr g (.int .i64 24)) fun j=>
 Zl j
 (some ((.int .i64 3),H))
 (Db p0 H H)
theorem L1:Dc H0 H =
 some ((.int .i64 0),H):=Za [3,6,9,11,12,13]
theorem L3:De x3 x10 x11 x12 H0 H =
 Z0 (Z5 .add x12 (.int .i64 1)) fun g=>
 V2 x3 x10 x11 g H0 H:=Za [3,6,9,11,12,13]
theorem L5:Dg x3 x5 x10 x11 x12 H0 H =
 Z0 (Z6 0 x5) fun j=>
 Z0 (Z4 false 1 j H) fun u=>
 Z0 (Xp .string x3 u (.bool true) H) fun g=>
 De x3 x10 x11 x12 H0 g.2:=Za [3,6,9,11,12,13]
theorem L4:Df x3 x5 x10 x11 x12 H0 H =
 Z0 (Z6 0 x5) fun g=>
 Z0 (Z4 false 1 g H) fun j=>
 Z0 (Yd .string (.bool false) false x3 j H) fun u=>
 Zl u
 (some ((.int .i64 6),H))
 (Dg x3 x5 x10 x11 x12 H0 H):=Za [3,6,9,11,12,13]
theorem L2:Dd x3 x10 x11 x12 x13 H0 H =
 Z0 (Zo 5 x10 x12) fun w=>
 Z0 (Z4 true 5 w H) fun y=>
 Z0 (some ((.ptr H.length 0),H++[.cells [(.str []),(.int .u64 0),(.int .u64 0),(.int .u64 0),(.int .u64 0)]])) fun u=>
 Z0 (Ze 5 u.1 y u.2) fun j=>
 Z0 (Z6 0 u.1) fun z=>
 Z0 (Z4 false 1 z j.2) fun A=>
 Z0 (Zf JC [A] j.2) fun g=>
 Z0 (Xo .not g.1) fun B=>
 Zl B
 (some ((.int .i64 4),g.2))
 (Df x3 u.1 x10 x11 x12 H0 g.2):=Za [3,6,9,11,12,13]
theorem Ks:V2 x3 x10 x11 x12 H0 H =
 Z0 (Z5 .lss x12 x11) fun g=>
 Zl g
 (Dd x3 x10 x11 x12 g H0 H)
 (Dc H0 H):=(ZD (C:=cfg) [3,6,9,11,12,13] (Zn 0 (N7 H0)) _ _).trans (by kernel_rfl)
theorem L0:Db x0 H0 H =
 Z0 (some ((.map H.length),H++[.map [] 0])) fun j=>
 Z0 (Zk (.slice 246) x0) fun g=>
 V2 j.1 x0 g (.int .i64 0) H0 j.2:=Za [3,6,9,11,12,13]
theorem LA:Vb [p0] H=Fa p0 H:=Be 28 [3,6,9,11,12,13] Tryz.func174
def GU:Z3:=ZH 175 38 (sub (Z1 Tryz.f175) [1,1,1,1]) (Zh cfg 38 175 Tryz.f175 H0) [] H
def Xw:KL:=Zc (Vw 175 38 Tryz.f175 [1,1,1,1]) (Zh cfg 38 175 Tryz.f175 H0)
theorem P1:ZW 38 (Xw H0):=Zy (C:=cfg) (kp:=cfg.keep 175) (sub (Z1 Tryz.f175) [1,1,1,1]) (ZB 175 Tryz.f175 H0)
def GW:Z3:=ZH 175 38 (sub (Z1 Tryz.f175) [1,1,1,0,1,0,0,1,1,1]) (Zc (YA 175 38 Tryz.f175 [1,1,1,0,1,0,0]) (Z7 0 (Xw H0))) [(3,x3),(10,x10),(11,x11),(12,x12)] H
def GZ:KL:=Zc (Vw 175 38 Tryz.f175 [1,1,1,0,1,0,0,1,1,1]) (Zc (YA 175 38 Tryz.f175 [1,1,1,0,1,0,0]) (Z7 0 (Xw H0)))
def GY:Z3:=ZH 175 38 (sub (Z1 Tryz.f175) [1,1,1,0,1,0,0,1,1,0,0,1,1,1]) (Z7 1 (GZ H0)) [(3,x3),(5,x5),(10,x10),(11,x11),(12,x12)] H
def GX:Z3:=ZH 175 38 (sub (Z1 Tryz.f175) [1,1,1,0,1,0,0,1,1,0,0,1,1]) (Z7 1 (GZ H0)) [(3,x3),(5,x5),(10,x10),(11,x11),(12,x12)] H
def GV:Z3:=ZH 175 38 (sub (Z1 Tryz.f175) [1,1,1,0,1,0,0,1,1]) (Zc (YA 175 38 Tryz.f175 [1,1,1,0,1,0,0]) (Z7 0 (Xw H0))) [(3,x3),(10,x10),(11,x11),(12,x12),(13,x13)] H
def WG:Z3:=UA 175 38 (sub (Z1 Tryz.f175) [1,1,1,0,1,0,0]) (Z7 0 (Xw H0)) [(3,x3),(10,x10),(11,x11),(12,x12)] H
def GT:Z3:=ZH 175 38 (sub (Z1 Tryz.f175) [1,1]) (Zh cfg 38 175 Tryz.f175 H0) [(0,x0)] H
def BR:Z3:=
 Z0 (Zk (.slice 189) p0) fun g=>
 Z0 (Z5 .gtr g (.int .i64 64)) fun j=>
 Zl j
 (some ((.int .i64 3),H))
 (GT p0 H H)
theorem NM:GU H0 H =
 some ((.int .i64 0),H):=Za [3,6,9,11,12,13]
theorem NO:GW x3 x10 x11 x12 H0 H =
 Z0 (Z5 .add x12 (.int .i64 1)) fun t37=>
 WG x3 x10 x11 t37 H0 H:=Za [3,6,9,11,12,13]
theorem NQ:GY x3 x5 x10 x11 x12 H0 H =
 Z0 (Z6 0 x5) fun j=>
 Z0 (Z4 false 1 j H) fun u=>
 Z0 (Xp .string x3 u (.bool true) H) fun g=>
 GW x3 x10 x11 x12 H0 g.2:=Za [3,6,9,11,12,13]
theorem NP:GX x3 x5 x10 x11 x12 H0 H =
 Z0 (Z6 0 x5) fun g=>
 Z0 (Z4 false 1 g H) fun j=>
 Z0 (Yd .string (.bool false) false x3 j H) fun u=>
 Zl u
 (some ((.int .i64 6),H))
 (GY x3 x5 x10 x11 x12 H0 H):=Za [3,6,9,11,12,13]
theorem NN:GV x3 x10 x11 x12 x13 H0 H =
 Z0 (Zo 2 x10 x12) fun y=>
 Z0 (Z4 true 2 y H) fun z=>
 Z0 (some ((.ptr H.length 0),H++[.cells [(.str []),(.int .i64 0)]])) fun w=>
 Z0 (Ze 2 w.1 z w.2) fun g=>
 Z0 (Z6 0 w.1) fun A=>
 Z0 (Z4 false 1 A g.2) fun B=>
 Z0 (Zk .string B) fun C=>
 Z0 (Z5 .neq C (.int .i64 2)) fun j=>
 Z0 (Z8 j false (.tuple []) (Z6 1 w.1)) fun D=>
 Z0 (Z8 j false (.tuple []) (Z4 false 1 D g.2)) fun E=>
 Z0 (Z8 j false (.tuple []) (Z5 .lss E (.int .i64 0))) fun F=>
 Z0 (Zi j (.bool true) F) fun u=>
 Z0 (Z8 u false (.tuple []) (Z6 1 w.1)) fun I=>
 Z0 (Z8 u false (.tuple []) (Z4 false 1 I g.2)) fun J=>
 Z0 (Z8 u false (.tuple []) (Z5 .gtr J (.int .i64 65535))) fun K=>
 Z0 (Zi u (.bool true) K) fun L=>
 Zl L
 (some ((.int .i64 2),g.2))
 (GX x3 w.1 x10 x11 x12 H0 g.2):=Za [3,6,9,11,12,13]
theorem JK:WG x3 x10 x11 x12 H0 H =
 Z0 (Z5 .lss x12 x11) fun g=>
 Zl g
 (GV x3 x10 x11 x12 g H0 H)
 (GU H0 H):=(ZD (C:=cfg) [3,6,9,11,12,13] (Zn 0 (P1 H0)) _ _).trans (by kernel_rfl)
theorem NL:GT x0 H0 H =
 Z0 (some ((.map H.length),H++[.map [] 0])) fun j=>
 Z0 (Zk (.slice 189) x0) fun g=>
 WG j.1 x0 g (.int .i64 0) H0 j.2:=Za [3,6,9,11,12,13]
theorem My:WV [p0] H=BR p0 H:=Be 38 [3,6,9,11,12,13] Tryz.func175
def T8:Z3:=ZH 178 23 (sub (Z1 Tryz.f178) [1,1,1]) (Zh cfg 23 178 Tryz.f178 H0) [(3,x3)] H
def Uo:KL:=Zc (Vw 178 23 Tryz.f178 [1,1,1]) (Zh cfg 23 178 Tryz.f178 H0)
theorem E1:ZW 23 (Uo H0):=Zy (C:=cfg) (kp:=cfg.keep 178) (sub (Z1 Tryz.f178) [1,1,1]) (ZB 178 Tryz.f178 H0)
def K4:Z3:=ZH 178 23 (sub (Z1 Tryz.f178) [1,1,0,1,0,0,1,1,1]) (Zc (YA 178 23 Tryz.f178 [1,1,0,1,0,0]) (Z7 0 (Uo H0))) [(0,x0),(3,x3),(5,x5)] H
def T9:Z3:=ZH 178 23 (sub (Z1 Tryz.f178) [1,1,0,1,0,0,1,1]) (Zc (YA 178 23 Tryz.f178 [1,1,0,1,0,0]) (Z7 0 (Uo H0))) [(0,x0),(3,x3),(5,x5),(6,x6)] H
def Up:Z3:=UA 178 23 (sub (Z1 Tryz.f178) [1,1,0,1,0,0]) (Z7 0 (Uo H0)) [(0,x0),(3,x3),(5,x5)] H
def Zbf:Z3:=
 Up p0 (.int .i64 0) (.int .i64 0) H H
theorem HI:T8 x3 H0 H =
 some (x3,H):=Za [4,8,9]
theorem D2:K4 x0 x3 x5 H0 H =
 Z0 (Z5 .add x5 (.int .i64 1)) fun g=>
 Up x0 x3 g H0 H:=Za [4,8,9]
theorem HJ:T9 x0 x3 x5 x6 H0 H =
 Z0 (Z5 .mul x3 (.int .i64 10)) fun t9=>
 Z0 (Zk .string x0) fun g=>
 Z0 (Z5 .lss x5 g) fun j=>
 Zl j
 (Z0 (Zw x0 x5) fun u=>
 Z0 (Z5 .sub u (.int .u8 48)) fun w=>
 Z0 (Wh .i64 w) fun y=>
 Z0 (Z5 .add t9 y) fun z=>
 K4 x0 z x5 H0 H)
 (K4 x0 t9 x5 H0 H):=Za [4,8,9]
theorem D3:Up x0 x3 x5 H0 H =
 Z0 (Z5 .lss x5 (.int .i64 4)) fun g=>
 Zl g
 (T9 x0 x3 x5 g H0 H)
 (T8 x3 H0 H):=(ZD (C:=cfg) [4,8,9] (Zn 0 (E1 H0)) _ _).trans (by kernel_rfl)
theorem Ai:KE [p0] H=Zbf p0 H:=Be 23 [4,8,9] Tryz.func178
def ZbG:Z3:=ZH 184 8 (sub (Z1 Tryz.f184) [1,1]) (Zh cfg 8 184 Tryz.f184 H0) [(1,x1),(2,x2)] H
def Hk:Z3:=
 Z0 (ZM p0 H) fun u=>
 Z0 (some ((.ptr u.2.length 0),u.2++[.cells [(.str []),.nils,(.str []),(.str []),.nils,.nils]])) fun j=>
 Z0 (Z4 true 6 u.1 j.2) fun t3=>
 Z0 (Zf Pl [t3] j.2) fun w=>
 Z0 (Z5 .neq w.1 (.int .i64 0)) fun t5=>
 Zl t5
 (Z0 (Zf Dx [] w.2) fun y=>
 Z0 (Ze 6 j.1 y.1 y.2) fun g=>
 Z0 (Z4 true 6 j.1 g.2) fun z=>
 some (z,g.2))
 (ZbG u.1 j.1 H w.2)
theorem Zge:ZbG x1 x2 H0 H =
 Z0 (Z4 true 6 x1 H) fun j=>
 Z0 (Ze 6 x2 j H) fun g=>
 Z0 (Z4 true 6 x2 g.2) fun u=>
 some (u,g.2):=Za [3]
theorem Ah:BN [p0] H=Hk p0 H:=Be 8 [3] Tryz.func184
def ZbA:Z3:=ZH 202 43 (sub (Z1 Tryz.f202) [1,1,1,1,1,1]) (Zh cfg 43 202 Tryz.f202 H0) [(1,x1)] H
def Zbz:Z3:=ZH 202 43 (sub (Z1 Tryz.f202) [1,1,1,1,1]) (Zh cfg 43 202 Tryz.f202 H0) [(1,x1)] H
def Zby:Z3:=ZH 202 43 (sub (Z1 Tryz.f202) [1,1,1,1]) (Zh cfg 43 202 Tryz.f202 H0) [(1,x1)] H
def FW:KL:=Zc (Vw 202 43 Tryz.f202 [1,1,1,1]) (Zh cfg 43 202 Tryz.f202 H0)
theorem ZdM:ZW 43 (FW H0):=Zy (C:=cfg) (kp:=cfg.keep 202) (sub (Z1 Tryz.f202) [1,1,1,1]) (ZB 202 Tryz.f202 H0)
def ZbC:Z3:=ZH 202 43 (sub (Z1 Tryz.f202) [1,1,1,0,1,0,0,1,1]) (Zc (YA 202 43 Tryz.f202 [1,1,1,0,1,0,0]) (Z7 0 (FW H0))) [(1,x1),(3,x3)] H
def ZbB:Z3:=ZH 202 43 (sub (Z1 Tryz.f202) [1,1,1,0,1,0,0,1]) (Zc (YA 202 43 Tryz.f202 [1,1,1,0,1,0,0]) (Z7 0 (FW H0))) [(1,x1),(3,x3)] H
def FX:Z3:=UA 202 43 (sub (Z1 Tryz.f202) [1,1,1,0,1,0,0]) (Z7 0 (FW H0)) [(1,x1),(3,x3)] H
def Zbx:Z3:=ZH 202 43 (sub (Z1 Tryz.f202) [1,1,1]) (Zh cfg 43 202 Tryz.f202 H0) [(1,x1)] H
def Zbw:Z3:=ZH 202 43 (sub (Z1 Tryz.f202) [1,1]) (Zh cfg 43 202 Tryz.f202 H0) [(1,x1)] H
def Ze8:Z3:=
 Z0 (ZM p0 H) fun g=>
 Z0 (Z6 0 g.1) fun t5=>
 Z0 (Z4 false 1 t5 g.2) fun u=>
 Z0 (Zf KD [u] g.2) fun j=>
 Z0 (Xo .not j.1) fun w=>
 Zl w
 (some ((.int .i64 4),j.2))
 (Zbw g.1 H j.2)
theorem Zgb:ZbA x1 H0 H =
 Z0 (Z6 5 x1) fun j=>
 Z0 (Z4 false 1 j H) fun u=>
 Z0 (Zf Uh [u] H) fun g=>
 some (g.1,g.2):=Za [3,5,7,8,10,12,15]
theorem Zga:Zbz x1 H0 H =
 Z0 (Z6 4 x1) fun j=>
 Z0 (Z4 false 1 j H) fun u=>
 Z0 (Zf UJ [u] H) fun g=>
 Z0 (Z5 .neq g.1 (.int .i64 0)) fun w=>
 Zl w
 (some (g.1,g.2))
 (ZbA x1 H0 g.2):=Za [3,5,7,8,10,12,15]
theorem Zg9:Zby x1 H0 H =
 Z0 (Z6 2 x1) fun j=>
 Z0 (Z4 false 1 j H) fun u=>
 Z0 (Zk .string u) fun w=>
 Z0 (Z5 .neq w (.int .i64 256)) fun g=>
 Z0 (Z8 g false (.tuple []) (Z6 3 x1)) fun y=>
 Z0 (Z8 g false (.tuple []) (Z4 false 1 y H)) fun z=>
 Z0 (Z8 g false (.tuple []) (Zk .string z)) fun A=>
 Z0 (Z8 g false (.tuple []) (Z5 .neq A (.int .i64 256))) fun B=>
 Z0 (Zi g (.bool true) B) fun C=>
 Zl C
 (some ((.int .i64 2),H))
 (Zbz x1 H0 H):=Za [3,5,7,8,10,12,15]
theorem Zgd:ZbC x1 x3 H0 H =
 Z0 (Z5 .add x3 (.int .i64 1)) fun g=>
 FX x1 g H0 H:=Za [3,5,7,8,10,12,15]
theorem Zgc:ZbB x1 x3 H0 H =
 Z0 (Z6 1 x1) fun j=>
 Z0 (Z4 false 1 j H) fun u=>
 Z0 (Zo 1 u x3) fun w=>
 Z0 (Z4 false 1 w H) fun y=>
 Z0 (Zf BM [y] H) fun g=>
 Z0 (Xo .not g.1) fun z=>
 Zl z
 (some ((.int .i64 2),g.2))
 (ZbC x1 x3 H0 g.2):=Za [3,5,7,8,10,12,15]
theorem SV:FX x1 x3 H0 H =
 Z0 (Z5 .lss x3 (.int .i64 256)) fun g=>
 Zl g
 (ZbB x1 x3 H0 H)
 (Zby x1 H0 H):=(ZD (C:=cfg) [3,5,7,8,10,12,15] (Zn 0 (ZdM H0)) _ _).trans (by kernel_rfl)
theorem Zg8:Zbx x1 H0 H =
 FX x1 (.int .i64 0) H0 H:=Za [3,5,7,8,10,12,15]
theorem Zg7:Zbw x1 H0 H =
 Z0 (Z6 1 x1) fun t9=>
 Z0 (Z4 false 1 t9 H) fun g=>
 Z0 (Zk (.slice 3) g) fun j=>
 Z0 (Z5 .neq j (.int .i64 256)) fun u=>
 Zl u
 (some ((.int .i64 2),H))
 (Zbx x1 H0 H):=Za [3,5,7,8,10,12,15]
theorem ZhX:Pl [p0] H=Ze8 p0 H:=Be 43 [3,5,7,8,10,12,15] Tryz.func202
def Ze9:Z3:=
 Z0 (ZM p0 H) fun g=>
 Z0 (Z4 true 6 g.1 g.2) fun t5=>
 Z0 (Zf BN [t5] g.2) fun j=>
 Z0 (TG false 1 3 j.1) fun w=>
 Z0 (Zf Ll [w,p1] j.2) fun u=>
 some (u.1,u.2)
theorem ZhY:Ze6 [p0,p1] H=Ze9 p0 p1 H:=Be 10 [] Tryz.func207
def OY:Z3:=ZH 213 59 (sub (Z1 Tryz.f213) [1,1,1]) (Zh cfg 59 213 Tryz.f213 H0) [] H
def DA:KL:=Zc (Vw 213 59 Tryz.f213 [1,1,1]) (Zh cfg 59 213 Tryz.f213 H0)
theorem ZbE:ZW 59 (DA H0):=Zy (C:=cfg) (kp:=cfg.keep 213) (sub (Z1 Tryz.f213) [1,1,1]) (ZB 213 Tryz.f213 H0)
def Nt:Z3:=ZH 213 59 (sub (Z1 Tryz.f213) [1,1,0,1,0,0,1,1]) (Zc (YA 213 59 Tryz.f213 [1,1,0,1,0,0]) (Z7 0 (DA H0))) [(0,x0),(3,x3)] H
def Ns:Z3:=ZH 213 59 (sub (Z1 Tryz.f213) [1,1,0,1,0,0,1]) (Zc (YA 213 59 Tryz.f213 [1,1,0,1,0,0]) (Z7 0 (DA H0))) [(0,x0),(3,x3)] H
def DB:Z3:=UA 213 59 (sub (Z1 Tryz.f213) [1,1,0,1,0,0]) (Z7 0 (DA H0)) [(0,x0),(3,x3)] H
def OX:Z3:=ZH 213 59 (sub (Z1 Tryz.f213) [1,1]) (Zh cfg 59 213 Tryz.f213 H0) [(0,x0)] H
def Zbd:Z3:=
 Z0 (Zk .string p0) fun J=>
 Z0 (Z5 .eql J (.int .i64 0)) fun u=>
 Z0 (Z8 u false (.tuple []) (some p0)) fun t9=>
 Z0 (Z8 u false (.tuple []) (Zk .string t9)) fun w=>
 Z0 (Z8 u false (.tuple []) (Z5 .gtr w (.int .i64 32))) fun y=>
 Z0 (Zi u (.bool true) y) fun g=>
 Z0 (Z8 g false (.tuple []) (some p0)) fun z=>
 Z0 (Z8 g false (.tuple []) (Zw z (.int .i64 0))) fun A=>
 Z0 (Z8 g false (.tuple []) (Z5 .geq A (.int .u8 48))) fun B=>
 Z0 (Z8 g false (.tuple []) (some B)) fun j=>
 Z0 (Z8 j true (.tuple []) (some p0)) fun C=>
 Z0 (Z8 j true (.tuple []) (Zw C (.int .i64 0))) fun D=>
 Z0 (Z8 j true (.tuple []) (Z5 .leq D (.int .u8 57))) fun E=>
 Z0 (Z8 g false (.tuple []) (Zi j E (.bool false))) fun F=>
 Z0 (Zi g (.bool true) F) fun I=>
 Zl I
 (some ((.bool false),H))
 (OX p0 H H)
theorem ZeT:OY H0 H =
 some ((.bool true),H):=Za [3,5,6,9]
theorem ZeV:Nt x0 x3 H0 H =
 Z0 (Z5 .add x3 (.int .i64 1)) fun g=>
 DB x0 g H0 H:=Za [3,5,6,9]
theorem ZeU:Ns x0 x3 H0 H =
 Z0 (Zw x0 x3) fun g=>
 Z0 (Z5 .geq g (.int .u8 97)) fun u=>
 Z0 (Z8 u true (.tuple []) (some g)) fun A=>
 Z0 (Z8 u true (.tuple []) (Z5 .leq A (.int .u8 122))) fun B=>
 Z0 (Zi u B (.bool false)) fun t37=>
 Z0 (Z8 t37 false (.tuple []) (some g)) fun C=>
 Z0 (Z8 t37 false (.tuple []) (Z5 .geq C (.int .u8 65))) fun D=>
 Z0 (Z8 t37 false (.tuple []) (some D)) fun w=>
 Z0 (Z8 w true (.tuple []) (some g)) fun E=>
 Z0 (Z8 w true (.tuple []) (Z5 .leq E (.int .u8 90))) fun F=>
 Z0 (Z8 t37 false (.tuple []) (Zi w F (.bool false))) fun I=>
 Z0 (Zi t37 (.bool true) I) fun j=>
 Z0 (Z8 j false (.tuple []) (some g)) fun J=>
 Z0 (Z8 j false (.tuple []) (Z5 .geq J (.int .u8 48))) fun K=>
 Z0 (Z8 j false (.tuple []) (some K)) fun y=>
 Z0 (Z8 y true (.tuple []) (some g)) fun L=>
 Z0 (Z8 y true (.tuple []) (Z5 .leq L (.int .u8 57))) fun M=>
 Z0 (Z8 j false (.tuple []) (Zi y M (.bool false))) fun N=>
 Z0 (Zi j (.bool true) N) fun z=>
 Z0 (Z8 z false (.tuple []) (some g)) fun O=>
 Z0 (Z8 z false (.tuple []) (Z5 .eql O (.int .u8 95))) fun Q=>
 Z0 (Zi z (.bool true) Q) fun R=>
 Z0 (Xo .not R) fun S=>
 Zl S
 (some ((.bool false),H))
 (Nt x0 x3 H0 H):=Za [3,5,6,9]
theorem LK:DB x0 x3 H0 H =
 Z0 (Zk .string x0) fun g=>
 Z0 (Z5 .lss x3 g) fun j=>
 Zl j
 (Ns x0 x3 H0 H)
 (OY H0 H):=(ZD (C:=cfg) [3,5,6,9] (Zn 0 (ZbE H0)) _ _).trans (by kernel_rfl)
theorem ZeS:OX x0 H0 H =
 DB x0 (.int .i64 0) H0 H:=Za [3,5,6,9]
theorem ZfU:KD [p0] H=Zbd p0 H:=Be 59 [3,5,6,9] Tryz.func213
def Zea:Z3:=
 Z0 (Z5 .geq p0 (.int .i64 0)) fun t4=>
 Z0 (Z8 t4 true (.tuple []) (some p0)) fun g=>
 Z0 (Z8 t4 true (.tuple []) (Z5 .leq g (.int .i64 65535))) fun j=>
 Z0 (Zi t4 j (.bool false)) fun u=>
 some (u,H)
theorem ZhZ:BM [p0] H=Zea p0 H:=Be 9 [] Tryz.func214
def T0:Z3:=ZH 215 37 (sub (Z1 Tryz.f215) [1,1,1]) (Zh cfg 37 215 Tryz.f215 H0) [] H
def WN:KL:=Zc (Vw 215 37 Tryz.f215 [1,1,1]) (Zh cfg 37 215 Tryz.f215 H0)
theorem KN:ZW 37 (WN H0):=Zy (C:=cfg) (kp:=cfg.keep 215) (sub (Z1 Tryz.f215) [1,1,1]) (ZB 215 Tryz.f215 H0)
def K3:Z3:=ZH 215 37 (sub (Z1 Tryz.f215) [1,1,0,1,0,0,1,1]) (Zc (YA 215 37 Tryz.f215 [1,1,0,1,0,0]) (Z7 0 (WN H0))) [(0,x0),(3,x3)] H
def WO:KL:=Zc (Vw 215 37 Tryz.f215 [1,1,0,1,0,0,1,1]) (Zc (YA 215 37 Tryz.f215 [1,1,0,1,0,0]) (Z7 0 (WN H0)))
theorem LM:ZW 37 (WO H0):=Zy (C:=cfg) (kp:=cfg.keep 215) (sub (Z1 Tryz.f215) [1,1,0,1,0,0,1,1]) (Nj (C:=cfg) (kp:=cfg.keep 215) (sub (Z1 Tryz.f215) [1,1,0,1,0,0]) (Zn 0 (KN H0)))
def T7:Z3:=ZH 215 37 (sub (Z1 Tryz.f215) [1,1,0,1,0,0,1,0,0,1,1,0,0,1,1]) (Zc (YA 215 37 Tryz.f215 [1,1,0,1,0,0,1,0,0,1,1,0,0]) (Z7 2 (Z7 1 (WO H0)))) [(0,x0),(3,x3),(4,x4)] H
def T6:Z3:=ZH 215 37 (sub (Z1 Tryz.f215) [1,1,0,1,0,0,1,0,0,1,1,0,0,1]) (Zc (YA 215 37 Tryz.f215 [1,1,0,1,0,0,1,0,0,1,1,0,0]) (Z7 2 (Z7 1 (WO H0)))) [(0,x0),(3,x3),(4,x4)] H
def Um:Z3:=UA 215 37 (sub (Z1 Tryz.f215) [1,1,0,1,0,0,1,0,0,1,1,0,0]) (Z7 2 (Z7 1 (WO H0))) [(0,x0),(3,x3),(4,x4)] H
def T5:Z3:=ZH 215 37 (sub (Z1 Tryz.f215) [1,1,0,1,0,0,1,0,0,1]) (Z7 1 (WO H0)) [(0,x0),(3,x3)] H
def T4:Z3:=ZH 215 37 (sub (Z1 Tryz.f215) [1,1,0,1,0,0,1]) (Zc (YA 215 37 Tryz.f215 [1,1,0,1,0,0]) (Z7 0 (WN H0))) [(0,x0),(3,x3)] H
def Ul:Z3:=UA 215 37 (sub (Z1 Tryz.f215) [1,1,0,1,0,0]) (Z7 0 (WN H0)) [(0,x0),(3,x3)] H
def RZ:Z3:=ZH 215 37 (sub (Z1 Tryz.f215) [1,1]) (Zh cfg 37 215 Tryz.f215 H0) [(0,x0)] H
def PG:Z3:=
 Z0 (Zk (.slice 246) p0) fun g=>
 Z0 (Z5 .gtr g (.int .i64 24)) fun j=>
 Zl j
 (some ((.int .i64 3),H))
 (RZ p0 H H)
theorem Ht:T0 H0 H =
 some ((.int .i64 0),H):=Za [3,5,6,8,10,11,13]
theorem Hv:K3 x0 x3 H0 H =
 Z0 (Z5 .add x3 (.int .i64 1)) fun g=>
 Ul x0 g H0 H:=Za [3,5,6,8,10,11,13]
theorem Hy:T7 x0 x3 x4 H0 H =
 Z0 (Z5 .add x4 (.int .i64 1)) fun g=>
 Um x0 x3 g H0 H:=Za [3,5,6,8,10,11,13]
theorem Hx:T6 x0 x3 x4 H0 H =
 Z0 (Zo 5 x0 x4) fun g=>
 Z0 (Z6 0 g) fun j=>
 Z0 (Z4 false 1 j H) fun u=>
 Z0 (Zo 5 x0 x3) fun w=>
 Z0 (Z6 0 w) fun y=>
 Z0 (Z4 false 1 y H) fun z=>
 Z0 (YK .eql u z) fun A=>
 Zl A
 (some ((.int .i64 6),H))
 (T7 x0 x3 x4 H0 H):=Za [3,5,6,8,10,11,13]
theorem BX:Um x0 x3 x4 H0 H =
 Z0 (Z5 .lss x4 x3) fun g=>
 Zl g
 (T6 x0 x3 x4 H0 H)
 (K3 x0 x3 H0 H):=(ZD (C:=cfg) [3,5,6,8,10,11,13] (Zn 2 (Zn 1 (LM H0))) _ _).trans (by kernel_rfl)
theorem Hw:T5 x0 x3 H0 H =
 Um x0 x3 (.int .i64 0) H0 H:=Za [3,5,6,8,10,11,13]
theorem Hu:T4 x0 x3 H0 H =
 Z0 (Zo 5 x0 x3) fun j=>
 Z0 (Z6 0 j) fun u=>
 Z0 (Z4 false 1 u H) fun w=>
 Z0 (Zf KD [w] H) fun g=>
 Z0 (Xo .not g.1) fun y=>
 Zl y
 (some ((.int .i64 4),g.2))
 (T5 x0 x3 H0 g.2):=Za [3,5,6,8,10,11,13]
theorem BW:Ul x0 x3 H0 H =
 Z0 (Zk (.slice 246) x0) fun g=>
 Z0 (Z5 .lss x3 g) fun j=>
 Zl j
 (T4 x0 x3 H0 H)
 (T0 H0 H):=(ZD (C:=cfg) [3,5,6,8,10,11,13] (Zn 0 (KN H0)) _ _).trans (by kernel_rfl)
theorem Hs:RZ x0 H0 H =
 Ul x0 (.int .i64 0) H0 H:=Za [3,5,6,8,10,11,13]
theorem Ag:UJ [p0] H=PG p0 H:=Be 37 [3,5,6,8,10,11,13] Tryz.func215
def FZ:Z3:=ZH 216 46 (sub (Z1 Tryz.f216) [1,1,1]) (Zh cfg 46 216 Tryz.f216 H0) [] H
def Wf:KL:=Zc (Vw 216 46 Tryz.f216 [1,1,1]) (Zh cfg 46 216 Tryz.f216 H0)
theorem Kc:ZW 46 (Wf H0):=Zy (C:=cfg) (kp:=cfg.keep 216) (sub (Z1 Tryz.f216) [1,1,1]) (ZB 216 Tryz.f216 H0)
def QZ:Z3:=ZH 216 46 (sub (Z1 Tryz.f216) [1,1,0,1,0,0,1,1]) (Zc (YA 216 46 Tryz.f216 [1,1,0,1,0,0]) (Z7 0 (Wf H0))) [(0,x0),(3,x3)] H
def Wg:KL:=Zc (Vw 216 46 Tryz.f216 [1,1,0,1,0,0,1,1]) (Zc (YA 216 46 Tryz.f216 [1,1,0,1,0,0]) (Z7 0 (Wf H0)))
theorem MF:ZW 46 (Wg H0):=Zy (C:=cfg) (kp:=cfg.keep 216) (sub (Z1 Tryz.f216) [1,1,0,1,0,0,1,1]) (Nj (C:=cfg) (kp:=cfg.keep 216) (sub (Z1 Tryz.f216) [1,1,0,1,0,0]) (Zn 0 (Kc H0)))
def R3:Z3:=ZH 216 46 (sub (Z1 Tryz.f216) [1,1,0,1,0,0,1,0,0,1,1,0,0,1,1]) (Zc (YA 216 46 Tryz.f216 [1,1,0,1,0,0,1,0,0,1,1,0,0]) (Z7 2 (Z7 1 (Wg H0)))) [(0,x0),(3,x3),(4,x4)] H
def R2:Z3:=ZH 216 46 (sub (Z1 Tryz.f216) [1,1,0,1,0,0,1,0,0,1,1,0,0,1]) (Zc (YA 216 46 Tryz.f216 [1,1,0,1,0,0,1,0,0,1,1,0,0]) (Z7 2 (Z7 1 (Wg H0)))) [(0,x0),(3,x3),(4,x4)] H
def Vz:Z3:=UA 216 46 (sub (Z1 Tryz.f216) [1,1,0,1,0,0,1,0,0,1,1,0,0]) (Z7 2 (Z7 1 (Wg H0))) [(0,x0),(3,x3),(4,x4)] H
def R1:Z3:=ZH 216 46 (sub (Z1 Tryz.f216) [1,1,0,1,0,0,1,0,0,1]) (Z7 1 (Wg H0)) [(0,x0),(3,x3)] H
def R0:Z3:=ZH 216 46 (sub (Z1 Tryz.f216) [1,1,0,1,0,0,1]) (Zc (YA 216 46 Tryz.f216 [1,1,0,1,0,0]) (Z7 0 (Wf H0))) [(0,x0),(3,x3)] H
def Vy:Z3:=UA 216 46 (sub (Z1 Tryz.f216) [1,1,0,1,0,0]) (Z7 0 (Wf H0)) [(0,x0),(3,x3)] H
def FY:Z3:=ZH 216 46 (sub (Z1 Tryz.f216) [1,1]) (Zh cfg 46 216 Tryz.f216 H0) [(0,x0)] H
def RT:Z3:=
 Z0 (Zk (.slice 189) p0) fun g=>
 Z0 (Z5 .gtr g (.int .i64 64)) fun j=>
 Zl j
 (some ((.int .i64 3),H))
 (FY p0 H H)
theorem Sm:FZ H0 H =
 some ((.int .i64 0),H):=Za [3,5,6,8,10,11,13]
theorem So:QZ x0 x3 H0 H =
 Z0 (Z5 .add x3 (.int .i64 1)) fun g=>
 Vy x0 g H0 H:=Za [3,5,6,8,10,11,13]
theorem Sr:R3 x0 x3 x4 H0 H =
 Z0 (Z5 .add x4 (.int .i64 1)) fun g=>
 Vz x0 x3 g H0 H:=Za [3,5,6,8,10,11,13]
theorem Sq:R2 x0 x3 x4 H0 H =
 Z0 (Zo 2 x0 x4) fun t37=>
 Z0 (Z6 0 t37) fun g=>
 Z0 (Z4 false 1 g H) fun j=>
 Z0 (Zo 2 x0 x3) fun u=>
 Z0 (Z6 0 u) fun w=>
 Z0 (Z4 false 1 w H) fun y=>
 Z0 (YK .eql j y) fun z=>
 Zl z
 (some ((.int .i64 6),H))
 (R3 x0 x3 x4 H0 H):=Za [3,5,6,8,10,11,13]
theorem GE:Vz x0 x3 x4 H0 H =
 Z0 (Z5 .lss x4 x3) fun g=>
 Zl g
 (R2 x0 x3 x4 H0 H)
 (QZ x0 x3 H0 H):=(ZD (C:=cfg) [3,5,6,8,10,11,13] (Zn 2 (Zn 1 (MF H0))) _ _).trans (by kernel_rfl)
theorem Sp:R1 x0 x3 H0 H =
 Vz x0 x3 (.int .i64 0) H0 H:=Za [3,5,6,8,10,11,13]
theorem Sn:R0 x0 x3 H0 H =
 Z0 (Zo 2 x0 x3) fun u=>
 Z0 (Z6 0 u) fun w=>
 Z0 (Z4 false 1 w H) fun y=>
 Z0 (Zk .string y) fun z=>
 Z0 (Z5 .neq z (.int .i64 2)) fun g=>
 Z0 (Z8 g false (.tuple []) (some x0)) fun A=>
 Z0 (Z8 g false (.tuple []) (some x3)) fun B=>
 Z0 (Z8 g false (.tuple []) (Zo 2 A B)) fun C=>
 Z0 (Z8 g false (.tuple []) (Z6 1 C)) fun D=>
 Z0 (Z8 g false (.tuple []) (Z4 false 1 D H)) fun E=>
 Z0 (Z8 g false ((.tuple []),H) (Zf BM [E] H)) fun j=>
 Z0 (Z8 g false (.tuple []) (Xo .not j.1)) fun F=>
 Z0 (Zi g (.bool true) F) fun I=>
 Zl I
 (some ((.int .i64 2),j.2))
 (R1 x0 x3 H0 j.2):=Za [3,5,6,8,10,11,13]
theorem GD:Vy x0 x3 H0 H =
 Z0 (Zk (.slice 189) x0) fun g=>
 Z0 (Z5 .lss x3 g) fun j=>
 Zl j
 (R0 x0 x3 H0 H)
 (FZ H0 H):=(ZD (C:=cfg) [3,5,6,8,10,11,13] (Zn 0 (Kc H0)) _ _).trans (by kernel_rfl)
theorem Sk:FY x0 H0 H =
 Vy x0 (.int .i64 0) H0 H:=Za [3,5,6,8,10,11,13]
theorem Hi:Uh [p0] H=RT p0 H:=Be 46 [3,5,6,8,10,11,13] Tryz.func216
def OZ:Z3:=ZH 219 23 (sub (Z1 Tryz.f219) [1,1,1]) (Zh cfg 23 219 Tryz.f219 H0) [(5,x5)] H
def DC:KL:=Zc (Vw 219 23 Tryz.f219 [1,1,1]) (Zh cfg 23 219 Tryz.f219 H0)
theorem ZbF:ZW 23 (DC H0):=Zy (C:=cfg) (kp:=cfg.keep 219) (sub (Z1 Tryz.f219) [1,1,1]) (ZB 219 Tryz.f219 H0)
def Za1:Z3:=ZH 219 23 (sub (Z1 Tryz.f219) [1,1,0,1,0,0,1,1]) (Zc (YA 219 23 Tryz.f219 [1,1,0,1,0,0]) (Z7 0 (DC H0))) [(0,x0),(1,x1),(5,x5),(6,x6)] H
def Za0:Z3:=ZH 219 23 (sub (Z1 Tryz.f219) [1,1,0,1,0,0,1]) (Zc (YA 219 23 Tryz.f219 [1,1,0,1,0,0]) (Z7 0 (DC H0))) [(0,x0),(1,x1),(5,x5),(6,x6)] H
def DD:Z3:=UA 219 23 (sub (Z1 Tryz.f219) [1,1,0,1,0,0]) (Z7 0 (DC H0)) [(0,x0),(1,x1),(5,x5),(6,x6)] H
def Zbe:Z3:=
 DD p0 p1 .nils (.int .i64 0) H H
theorem ZeW:OZ x5 H0 H =
 Z0 (Br x5 H) fun g=>
 some (g,H):=Za [4,5,6]
theorem ZeY:Za1 x0 x1 x5 x6 H0 H =
 Z0 (Z5 .add x6 (.int .i64 1)) fun g=>
 DD x0 x1 x5 g H0 H:=Za [4,5,6]
theorem ZeX:Za0 x0 x1 x5 x6 H0 H =
 Z0 (Zw x1 x6) fun j=>
 Z0 (Zw x0 j) fun u=>
 Z0 ((ZE 1 [(0,u)] [(.int .u8 0)]).map (.vs 1 .clip)) fun w=>
 Z0 (Yl 1 1 x5 w H) fun g=>
 Za1 x0 x1 g.1 x6 H0 g.2:=Za [4,5,6]
theorem LN:DD x0 x1 x5 x6 H0 H =
 Z0 (Zk .string x1) fun t9=>
 Z0 (Z5 .lss x6 t9) fun g=>
 Zl g
 (Za0 x0 x1 x5 x6 H0 H)
 (OZ x5 H0 H):=(ZD (C:=cfg) [4,5,6] (Zn 0 (ZbF H0)) _ _).trans (by kernel_rfl)
theorem ZfV:Ll [p0,p1] H=Zbe p0 p1 H:=Be 23 [4,5,6] Tryz.func219
end
end Go.Am
