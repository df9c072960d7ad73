/- The functions of the translation over the abstract machine -/
import Derived.Test.YtnaneekpogohaaaGreatDoorXeGx
namespace Go.Am
open Go.Proofs
set_option maxRecDepth 100000
noncomputable abbrev ZH (f n:Nat):=Y6 cfg (Z9 cfg) (ZZ cfg (cfg.keep f) n) (cfg.keep f) n Zc Z6
noncomputable abbrev UH (f n:Nat):=ZZ cfg (cfg.keep f) n
noncomputable section
abbrev VC (f n:Nat)(F:Func)(p:List Nat):KL->AL->Hp->Z4:=fun k g H=>ZH f n (sub (Z1 F) p) k (ZS (cfg.keep f) (sub (Z1 F) p) g) H
abbrev Yz (f n:Nat)(F:Func)(p:List Nat):KL->AL->Hp->Z4:=fun k g H=>UH f n (sub (Z1 F) p) k (ZS (cfg.keep f) (sub (Z1 F) p) g) H
variable (p0 p1 p2 p3 p4 x0 x1 x2 x3 x4 x5 x6 x7 x8 x9 x10 x11 x12 x13 x16 x17 x18 x19 x24 x25 x26 x27 x28 x29 x30:AV)(H0 H:Hp)
def SA:Z4:=ZH 56 39 (sub (Z1 Tryz.f56) [1,1,1,1,1,1]) (Zi cfg 39 56 Tryz.f56 H0) [(9,x9)] H
def Fm:Z4:=ZH 56 39 (sub (Z1 Tryz.f56) [1,1,1,1]) (Zi cfg 39 56 Tryz.f56 H0) [(2,x2),(3,x3),(4,x4),(5,x5)] H
def Cz:Z4:=
 Z0 (ZO p0 H) fun A=>
 Z0 (ZO p1 A.2) fun j=>
 Z0 (Z3 true 5 j.1 j.2) fun B=>
 Z0 (Ze Vg [B] j.2) fun z=>
 Z0 (Zf 5 j.1 z.1 z.2) fun u=>
 Z0 (Z3 true 6 A.1 u.2) fun C=>
 Z0 (Z3 true 5 j.1 u.2) fun D=>
 Z0 (Ze XA [C,D,p2,p3] u.2) fun g=>
 Z0 (Z5 .neq g.1 (.int .i64 0)) fun w=>
 Z0 (Z8 w false (.tuple []) (Z7 4 j.1)) fun E=>
 Z0 (Z8 w false (.tuple []) (Z3 false 1 E g.2)) fun F=>
 Z0 (Zj w (.bool true) F) fun y=>
 Z0 (Z8 y false (.tuple []) (Z7 3 j.1)) fun I=>
 Z0 (Z8 y false (.tuple []) (Z3 false 1 I g.2)) fun J=>
 Z0 (Zj y (.bool true) J) fun K=>
 Zk K
 (some (g.1,g.2))
 (Fm p2 p3 A.1 j.1 H g.2)
theorem ZbQ:SA x9 H0 H =
 some (x9,H):=Za [5,8]
theorem ZbP:Fm x2 x3 x4 x5 H0 H =
 Z0 (Z3 true 6 x4 H) fun j=>
 Z0 (Ze U7 [j,x2,x3] H) fun g=>
 Z0 (Z7 2 x5) fun u=>
 Z0 (Z3 false 1 u g.2) fun w=>
 Z0 (Z5 .and w (.int .i64 2)) fun y=>
 Z0 (Z5 .neq y (.int .i64 0)) fun z=>
 Zk z
 (Z0 (Xv .neg g.1) fun t37=>
 some (t37,g.2))
 (SA g.1 H0 g.2):=Za [5,8]
theorem Zcr:Wg [p0,p1,p2,p3] H=Cz p0 p1 p2 p3 H:=Be 39 [5,8] Tryz.func56
def NJ:Z4:=ZH 59 55 (sub (Z1 Tryz.f59) [1,1,1,1]) (Zi cfg 55 59 Tryz.f59 H0) [] H
def Vd:KL:=Zc (VC 59 55 Tryz.f59 [1,1,1,1]) (Zi cfg 55 59 Tryz.f59 H0)
theorem Cq:ZU 55 (Vd H0):=Zx (C:=cfg) (kp:=cfg.keep 59) (sub (Z1 Tryz.f59) [1,1,1,1]) (ZB 59 Tryz.f59 H0)
def NL:Z4:=ZH 59 55 (sub (Z1 Tryz.f59) [1,1,1,0,1,0,0,1,1,1]) (Zc (Yz 59 55 Tryz.f59 [1,1,1,0,1,0,0]) (Z6 0 (Vd H0))) [(2,x2),(3,x3),(4,x4),(5,x5),(26,x26),(27,x27),(28,x28)] H
def Ze8:KL:=Zc (VC 59 55 Tryz.f59 [1,1,1,0,1,0,0,1,1,1]) (Zc (Yz 59 55 Tryz.f59 [1,1,1,0,1,0,0]) (Z6 0 (Vd H0)))
def Q8:Z4:=ZH 59 55 (sub (Z1 Tryz.f59) [1,1,1,0,1,0,0,1,1,0,0,1,1,1]) (Z6 1 (Ze8 H0)) [(2,x2),(3,x3),(4,x4),(5,x5),(10,x10),(11,x11),(26,x26),(27,x27),(28,x28)] H
def NK:Z4:=ZH 59 55 (sub (Z1 Tryz.f59) [1,1,1,0,1,0,0,1,1]) (Zc (Yz 59 55 Tryz.f59 [1,1,1,0,1,0,0]) (Z6 0 (Vd H0))) [(2,x2),(3,x3),(4,x4),(5,x5),(26,x26),(27,x27),(28,x28),(29,x29)] H
def Q9:Z4:=UH 59 55 (sub (Z1 Tryz.f59) [1,1,1,0,1,0,0]) (Z6 0 (Vd H0)) [(2,x2),(3,x3),(4,x4),(5,x5),(26,x26),(27,x27),(28,x28)] H
def NI:Z4:=ZH 59 55 (sub (Z1 Tryz.f59) [1,1,1]) (Zi cfg 55 59 Tryz.f59 H0) [(2,x2),(3,x3),(4,x4),(5,x5)] H
def ML:Z4:=
 Z0 (ZO p0 H) fun y=>
 Z0 (ZO p1 y.2) fun j=>
 Z0 (Z3 true 5 j.1 j.2) fun z=>
 Z0 (Ze Vg [z] j.2) fun u=>
 Z0 (Zf 5 j.1 u.1 u.2) fun g=>
 Z0 (Z7 0 j.1) fun A=>
 Z0 (Z3 false 1 A g.2) fun B=>
 Z0 (Zl (.slice 119) B) fun C=>
 Z0 (Z5 .eql C (.int .i64 0)) fun D=>
 Zk D
 (Z0 (Z3 true 6 y.1 g.2) fun E=>
 Z0 (Z7 2 j.1) fun F=>
 Z0 (Z3 false 1 F g.2) fun I=>
 Z0 (Ze US [E,I,p2,p3] g.2) fun w=>
 some (w.1,w.2))
 (NI p2 p3 y.1 j.1 H g.2)
theorem O5:NJ H0 H =
 some ((.int .i64 0),H):=Za [4,6,10,13,14]
theorem O7:NL x2 x3 x4 x5 x26 x27 x28 H0 H =
 Z0 (Z5 .add x28 (.int .i64 1)) fun g=>
 Q9 x2 x3 x4 x5 x26 x27 g H0 H:=Za [4,6,10,13,14]
theorem O8:Q8 x2 x3 x4 x5 x10 x11 x26 x27 x28 H0 H =
 XG x4 H fun z4 J=>
 XG x5 J fun z5 K=>
 XG x10 K fun y g=>
 Z0 (XE true 6 z4) fun z=>
 Z0 (Z3 true 5 y g) fun A=>
 Z0 (Z7 1 z5) fun B=>
 Z0 (Z3 false 1 B g) fun C=>
 Z0 (Qo [x2,A,C] g) fun u=>
 Z0 (XE true 5 y) fun D=>
 Z0 (Z7 1 z5) fun E=>
 Z0 (XE false 1 E) fun F=>
 Z0 (Qo [x3,D,F] u.2) fun w=>
 Z0 (Ze US [z,x11,u.1,w.1] w.2) fun j=>
 Z0 (Z5 .neq j.1 (.int .i64 0)) fun I=>
 Zk I
 (some (j.1,j.2))
 (NL x2 x3 z4 z5 x26 x27 x28 H0 j.2):=Za [4,6,10,13,14]
theorem O6:NK x2 x3 x4 x5 x26 x27 x28 x29 H0 H =
 Z0 (Zn 5 x26 x28) fun w=>
 Z0 (Z3 true 5 w H) fun y=>
 Z0 (some ((.ptr H.length 0),H++[.cells [(.int .i64 0),(.int .i64 0),(.int .i64 0),(.int .i64 0),(.int .i64 0)]])) fun j=>
 Z0 (Zf 5 j.1 y j.2) fun g=>
 Z0 (Z7 4 j.1) fun z=>
 Z0 (Z3 false 1 z g.2) fun u=>
 Z0 (Z5 .eql u (.int .i64 0)) fun A=>
 Zk A
 (Z0 (Z7 2 x5) fun B=>
 Z0 (Z3 false 1 B g.2) fun t37=>
 Q8 x2 x3 x4 x5 j.1 t37 x26 x27 x28 H0 g.2)
 (Q8 x2 x3 x4 x5 j.1 u x26 x27 x28 H0 g.2):=Za [4,6,10,13,14]
theorem FW:Q9 x2 x3 x4 x5 x26 x27 x28 H0 H =
 Z0 (Z5 .lss x28 x27) fun g=>
 Zk g
 (NK x2 x3 x4 x5 x26 x27 x28 g H0 H)
 (NJ H0 H):=(ZD (C:=cfg) [4,6,10,13,14] (Zm 0 (Cq H0)) _ _).trans (by kernel_rfl)
theorem O4:NI x2 x3 x4 x5 H0 H =
 Z0 (Z7 0 x5) fun j=>
 Z0 (Z3 false 1 j H) fun g=>
 Z0 (Zl (.slice 119) g) fun u=>
 Q9 x2 x3 x4 x5 g u (.int .i64 0) H0 H:=Za [4,6,10,13,14]
theorem Ok:XA [p0,p1,p2,p3] H=ML p0 p1 p2 p3 H:=Be 55 [4,6,10,13,14] Tryz.func59
def SI:Z4:=ZH 86 8 (sub (Z1 Tryz.f86) [1,1]) (Zi cfg 8 86 Tryz.f86 H0) [(1,x1),(2,x2)] H
def Rk:Z4:=
 Z0 (ZO p0 H) fun u=>
 Z0 (some ((.ptr u.2.length 0),u.2++[.cells [.nils,(.int .i64 0),(.int .i64 0),(.bool false),(.bool false)]])) fun j=>
 Z0 (Z3 true 5 u.1 j.2) fun t3=>
 Z0 (Ze Xc [t3] j.2) fun w=>
 Z0 (Z5 .neq w.1 (.int .i64 0)) fun t5=>
 Zk t5
 (Z0 ((X5 [(1,1,(.int .i64 (-1)))] [.nils,(.int .i64 0),(.int .i64 0),(.bool false),(.bool false)]).map .agg) fun y=>
 Z0 (Zf 5 j.1 y w.2) fun g=>
 Z0 (Z3 true 5 j.1 g.2) fun z=>
 some (z,g.2))
 (SI u.1 j.1 H w.2)
theorem Zc4:SI x1 x2 H0 H =
 Z0 (Z3 true 5 x1 H) fun j=>
 Z0 (Zf 5 x2 j H) fun g=>
 Z0 (Z3 true 5 x2 g.2) fun u=>
 some (u,g.2):=Za [3]
theorem Nh:Vg [p0] H=Rk p0 H:=Be 8 [3] Tryz.func86
def MX:Z4:=ZH 87 60 (sub (Z1 Tryz.f87) [1,1,1,1,1,1,1]) (Zi cfg 60 87 Tryz.f87 H0) [(1,x1),(2,x2)] H
def MW:Z4:=ZH 87 60 (sub (Z1 Tryz.f87) [1,1,1,1,1,1]) (Zi cfg 60 87 Tryz.f87 H0) [(1,x1),(2,x2),(8,x8),(9,x9)] H
def MV:Z4:=ZH 87 60 (sub (Z1 Tryz.f87) [1,1,1,1,1]) (Zi cfg 60 87 Tryz.f87 H0) [(1,x1),(2,x2),(8,x8),(9,x9)] H
def VA:KL:=Zc (VC 87 60 Tryz.f87 [1,1,1,1,1]) (Zi cfg 60 87 Tryz.f87 H0)
theorem AI:ZU 60 (VA H0):=Zx (C:=cfg) (kp:=cfg.keep 87) (sub (Z1 Tryz.f87) [1,1,1,1,1]) (ZB 87 Tryz.f87 H0)
def MZ:Z4:=ZH 87 60 (sub (Z1 Tryz.f87) [1,1,1,1,0,1,0,0,1,1,1]) (Zc (Yz 87 60 Tryz.f87 [1,1,1,1,0,1,0,0]) (Z6 0 (VA H0))) [(1,x1),(2,x2),(8,x8),(9,x9),(24,x24),(25,x25)] H
def ZeV:KL:=Zc (VC 87 60 Tryz.f87 [1,1,1,1,0,1,0,0,1,1,1]) (Zc (Yz 87 60 Tryz.f87 [1,1,1,1,0,1,0,0]) (Z6 0 (VA H0)))
def L0:Z4:=ZH 87 60 (sub (Z1 Tryz.f87) [1,1,1,1,0,1,0,0,1,1,0,0,1,1]) (Z6 1 (ZeV H0)) [(1,x1),(2,x2),(8,x8),(9,x9),(10,x10),(24,x24),(25,x25)] H
def MY:Z4:=ZH 87 60 (sub (Z1 Tryz.f87) [1,1,1,1,0,1,0,0,1,1]) (Zc (Yz 87 60 Tryz.f87 [1,1,1,1,0,1,0,0]) (Z6 0 (VA H0))) [(1,x1),(2,x2),(8,x8),(9,x9),(24,x24),(25,x25),(26,x26)] H
def Qw:Z4:=UH 87 60 (sub (Z1 Tryz.f87) [1,1,1,1,0,1,0,0]) (Z6 0 (VA H0)) [(1,x1),(2,x2),(8,x8),(9,x9),(24,x24),(25,x25)] H
def Ea:Z4:=
 Z0 (ZO p0 H) fun w=>
 Z0 (Z3 true 6 w.1 w.2) fun A=>
 Z0 (Ze U0 [A] w.2) fun u=>
 Z0 (Zf 6 w.1 u.1 u.2) fun z=>
 XG w.1 z.2 fun z3 E=>
 Z0 (some (.fn (.func 108) [] [z3])) fun y=>
 Z0 (Xu cfg (Z9 cfg) y [p1] E) fun g=>
 Z0 (Yd cfg (Z9 cfg) y [p2] g.2) fun j=>
 Z0 (Zl (.slice 3) g.1) fun B=>
 Z0 (Zl (.slice 3) j.1) fun C=>
 Z0 (UU B C) fun D=>
 Qw p1 p2 g.1 j.1 D (.int .i64 0) H j.2
theorem Zag:MX x1 x2 H0 H =
 Z0 (Ze BD [x1,x2] H) fun g=>
 some (g.1,g.2):=Za [6,9,11,12,14,16]
theorem Zaf:MW x1 x2 x8 x9 H0 H =
 Z0 (Zl (.slice 3) x8) fun g=>
 Z0 (Zl (.slice 3) x9) fun j=>
 Z0 (Z5 .gtr g j) fun u=>
 Zk u
 (some ((.int .i64 1),H))
 (MX x1 x2 H0 H):=Za [6,9,11,12,14,16]
theorem Zae:MV x1 x2 x8 x9 H0 H =
 Z0 (Zl (.slice 3) x8) fun g=>
 Z0 (Zl (.slice 3) x9) fun j=>
 Z0 (Z5 .lss g j) fun u=>
 Zk u
 (some ((.int .i64 (-1)),H))
 (MW x1 x2 x8 x9 H0 H):=Za [6,9,11,12,14,16]
theorem Zai:MZ x1 x2 x8 x9 x24 x25 H0 H =
 Z0 (Z5 .add x25 (.int .i64 1)) fun g=>
 Qw x1 x2 x8 x9 x24 g H0 H:=Za [6,9,11,12,14,16]
theorem Zaj:L0 x1 x2 x8 x9 x10 x24 x25 H0 H =
 Z0 (Zn 1 x8 x10) fun g=>
 Z0 (Z3 false 1 g H) fun j=>
 Z0 (Zn 1 x9 x10) fun u=>
 Z0 (Z3 false 1 u H) fun w=>
 Z0 (Z5 .gtr j w) fun y=>
 Zk y
 (some ((.int .i64 1),H))
 (MZ x1 x2 x8 x9 x24 x25 H0 H):=Za [6,9,11,12,14,16]
theorem Zah:MY x1 x2 x8 x9 x24 x25 x26 H0 H =
 Z0 (Zn 1 x8 x25) fun g=>
 Z0 (Z3 false 1 g H) fun j=>
 Z0 (Zn 1 x9 x25) fun u=>
 Z0 (Z3 false 1 u H) fun w=>
 Z0 (Z5 .lss j w) fun y=>
 Zk y
 (some ((.int .i64 (-1)),H))
 (L0 x1 x2 x8 x9 x25 x24 x25 H0 H):=Za [6,9,11,12,14,16]
theorem T4:Qw x1 x2 x8 x9 x24 x25 H0 H =
 Z0 (Z5 .lss x25 x24) fun g=>
 Zk g
 (MY x1 x2 x8 x9 x24 x25 g H0 H)
 (MV x1 x2 x8 x9 H0 H):=(ZD (C:=cfg) [6,9,11,12,14,16] (Zm 0 (AI H0)) _ _).trans (by kernel_rfl)
theorem Zbk:U7 [p0,p1,p2] H=Ea p0 p1 p2 H:=Be 60 [6,9,11,12,14,16] Tryz.func87
def Fu:Z4:=ZH 88 50 (sub (Z1 Tryz.f88) [1,1,1,1]) (Zi cfg 50 88 Tryz.f88 H0) [(4,x4),(5,x5),(6,x6),(7,x7),(9,x9)] H
def JI:Z4:=ZH 88 50 (sub (Z1 Tryz.f88) [1,1,1]) (Zi cfg 50 88 Tryz.f88 H0) [(4,x4),(5,x5),(6,x6),(7,x7),(9,x9)] H
def CC:Z4:=
 Z0 (ZO p0 H) fun u=>
 Z0 (ZO p1 u.2) fun j=>
 Z0 (ZO p2 j.2) fun w=>
 Z0 (ZO p3 w.2) fun g=>
 Z0 (Z3 false 1 j.1 g.2) fun y=>
 Z0 (Z5 .and y (.int .i64 2)) fun z=>
 Z0 (Z5 .neq z (.int .i64 0)) fun A=>
 Zk A
 (JI u.1 j.1 w.1 g.1 (.int .i64 (-1)) H g.2)
 (JI u.1 j.1 w.1 g.1 (.int .i64 1) H g.2)
theorem Zc3:Fu x4 x5 x6 x7 x9 H0 H =
 Z0 (some (.fn (.func 114) [] [x5,x6,x7])) fun j=>
 Z0 (Yd cfg (Z9 cfg) j [(.int .i64 8),(.fn (.func 115) [] [])] H) fun w=>
 Z0 (Yd cfg (Z9 cfg) j [(.int .i64 16),(.fn (.func 117) [] [])] w.2) fun y=>
 XG x4 y.2 fun z4 E=>
 Z0 (some (.fn (.func 118) [] [z4])) fun z=>
 Z0 (Yd cfg (Z9 cfg) j [(.int .i64 4),z] E) fun g=>
 Z0 (Z3 true 6 z4 g.2) fun A=>
 Z0 (Z3 false 1 x6 g.2) fun B=>
 Z0 (Z3 false 1 x7 g.2) fun C=>
 Z0 (Ze U7 [A,B,C] g.2) fun u=>
 Z0 (Z5 .mul x9 u.1) fun D=>
 some (D,u.2):=Za [4,8]
theorem Zc2:JI x4 x5 x6 x7 x9 H0 H =
 Z0 (Z3 false 1 x5 H) fun w=>
 Z0 (Z5 .and w (.int .i64 1)) fun y=>
 Z0 (Z5 .neq y (.int .i64 0)) fun z=>
 Zk z
 (Z0 (Z3 false 1 x6 H) fun A=>
 Z0 (Ze QZ [A] H) fun g=>
 Z0 (ZT g.1 0) fun B=>
 Z0 (ZT g.1 1) fun F=>
 Z0 (Z3 false 1 x7 g.2) fun C=>
 Z0 (Ze QZ [C] g.2) fun j=>
 Z0 (ZT j.1 0) fun D=>
 Z0 (ZT j.1 1) fun I=>
 Z0 (Ze Pd [B,D] j.2) fun u=>
 Z0 (Z5 .mul x9 u.1) fun E=>
 some (E,u.2))
 (Fu x4 x5 x6 x7 x9 H0 H):=Za [4,8]
theorem Zcu:US [p0,p1,p2,p3] H=CC p0 p1 p2 p3 H:=Be 50 [4,8] Tryz.func88
def HH:Z4:=ZH 107 16 (sub (Z1 Tryz.f107) [1,1]) (Zi cfg 16 107 Tryz.f107 H0) [(1,x1),(2,x2)] H
def Pe:Z4:=
 Z0 (ZO p0 H) fun u=>
 Z0 (some ((.ptr u.2.length 0),u.2++[.cells [(.str []),.nils,(.str []),(.str []),.nils,.nils]])) fun j=>
 Z0 (Z3 true 6 u.1 j.2) fun t4=>
 Z0 (Ze Ge [t4] j.2) fun w=>
 Z0 (Z5 .neq w.1 (.int .i64 0)) fun z=>
 Zk z
 (Z0 (Ze E1 [] w.2) fun y=>
 Z0 (Zf 6 j.1 y.1 y.2) fun g=>
 Z0 (Z3 true 6 j.1 g.2) fun A=>
 some (A,g.2))
 (HH u.1 j.1 H w.2)
theorem ZdX:HH x1 x2 H0 H =
 Z0 (RE 1 8 false (.int .i64 0) (.int .i64 256) (.int .i64 256) H) fun u=>
 Z0 (Z7 1 x1) fun y=>
 Z0 (Z3 false 1 y u.2) fun z=>
 Z0 (CO 1 u.1 z u.2) fun w=>
 Z0 (Z7 1 x1) fun A=>
 Z0 (Zf 1 A u.1 w.2) fun j=>
 Z0 (Z3 true 6 x1 j.2) fun B=>
 Z0 (Zf 6 x2 B j.2) fun g=>
 Z0 (Z3 true 6 x2 g.2) fun C=>
 some (C,g.2):=Za [3]
theorem MI:U0 [p0] H=Pe p0 H:=Be 16 [3] Tryz.func107
def Nc:Z4:=
 Z0 (some ((.ptr H.length 0),H++[.cells [.nils]])) fun g=>
 Z0 (Z3 true 6 p1 g.2) fun t5=>
 Z0 (some (.fn (.func 110) [] [g.1])) fun u=>
 Z0 (NY [t5,p0,u] g.2) fun j=>
 Z0 (Z3 false 1 g.1 j.2) fun t9=>
 some (t9,j.2)
theorem Ic:UR [p0,p1] H=Nc p0 p1 H:=Be 10 [] Tryz.func108
def IG:Z4:=ZH 109 75 (sub (Z1 Tryz.f109) [1,1,1,1,0,0,1,0,1,1,1]) (Z6 3 (Zc (Yz 109 75 Tryz.f109 [1,1,1,1,0,0]) (Z6 2 (Zi cfg 75 109 Tryz.f109 H0)))) [(1,x1),(2,x2),(3,x3),(6,x6),(9,x9),(10,x10)] H
def QM:Z4:=ZH 109 75 (sub (Z1 Tryz.f109) [1,1,1,1,0,0,1,0,1,1]) (Z6 3 (Zc (Yz 109 75 Tryz.f109 [1,1,1,1,0,0]) (Z6 2 (Zi cfg 75 109 Tryz.f109 H0)))) [(1,x1),(2,x2),(3,x3),(6,x6),(9,x9),(10,x10),(11,x11)] H
def IF:Z4:=ZH 109 75 (sub (Z1 Tryz.f109) [1,1,1,1,0,0,1]) (Zc (Yz 109 75 Tryz.f109 [1,1,1,1,0,0]) (Z6 2 (Zi cfg 75 109 Tryz.f109 H0))) [(1,x1),(2,x2),(3,x3),(6,x6),(9,x9)] H
def Gt:Z4:=UH 109 75 (sub (Z1 Tryz.f109) [1,1,1,1,0,0]) (Z6 2 (Zi cfg 75 109 Tryz.f109 H0)) [(1,x1),(2,x2),(3,x3),(6,x6),(9,x9)] H
def PB:Z4:=ZH 109 75 (sub (Z1 Tryz.f109) [1,1,1]) (Zi cfg 75 109 Tryz.f109 H0) [(1,x1),(2,x2),(3,x3),(6,x6)] H
def Gs:KL:=Zc (VC 109 75 Tryz.f109 [1,1,1]) (Zi cfg 75 109 Tryz.f109 H0)
theorem Zbv:ZU 75 (Gs H0):=Zx (C:=cfg) (kp:=cfg.keep 109) (sub (Z1 Tryz.f109) [1,1,1]) (ZB 109 Tryz.f109 H0)
def II:Z4:=ZH 109 75 (sub (Z1 Tryz.f109) [1,1,0,1,0,0,1,1,1]) (Zc (Yz 109 75 Tryz.f109 [1,1,0,1,0,0]) (Z6 0 (Gs H0))) [(1,x1),(2,x2),(3,x3),(6,x6),(16,x16),(17,x17),(18,x18)] H
def IH:Z4:=ZH 109 75 (sub (Z1 Tryz.f109) [1,1,0,1,0,0,1,1]) (Zc (Yz 109 75 Tryz.f109 [1,1,0,1,0,0]) (Z6 0 (Gs H0))) [(1,x1),(2,x2),(3,x3),(6,x6),(16,x16),(17,x17),(18,x18),(19,x19)] H
def Gu:Z4:=UH 109 75 (sub (Z1 Tryz.f109) [1,1,0,1,0,0]) (Z6 0 (Gs H0)) [(1,x1),(2,x2),(3,x3),(6,x6),(16,x16),(17,x17),(18,x18)] H
def ZaJ:Z4:=
 Z0 (ZO p0 H) fun u=>
 Z0 (some ((.map u.2.length),u.2++[.map [] 0])) fun g=>
 Z0 (Z7 5 u.1) fun w=>
 Z0 (Z3 false 1 w g.2) fun j=>
 Z0 (Zl (.slice 189) j) fun y=>
 Gu p1 p2 u.1 g.1 j y (.int .i64 0) H g.2
theorem L2:IG x1 x2 x3 x6 x9 x10 H0 H =
 Z0 (Zl .string x10) fun g=>
 Z0 (Z5 .add x9 g) fun j=>
 Gt x1 x2 x3 x6 j H0 H:=Za [4,6,7,9,14,15]
theorem L1:QM x1 x2 x3 x6 x9 x10 x11 H0 H =
 Z0 (Yd cfg (Z9 cfg) x2 [x10,x11] H) fun g=>
 Z0 (Xv .not g.1) fun t70=>
 Zk t70
 (some ((.tuple []),g.2))
 (IG x1 x2 x3 x6 x9 x10 H0 g.2):=Za [4,6,7,9,14,15]
theorem ZeX:IF x1 x2 x3 x6 x9 H0 H =
 Z0 (Z5 .add x9 (.int .i64 1)) fun w=>
 Z0 (Yj x1 (some x9) (some w) none) fun g=>
 Z0 (Z7 1 x3) fun t37=>
 Z0 (Z3 false 1 t37 H) fun y=>
 Z0 (Zz x1 x9) fun z=>
 Z0 (Zn 1 y z) fun A=>
 Z0 (Z3 false 1 A H) fun j=>
 Z0 (Z5 .add x9 (.int .i64 2)) fun B=>
 Z0 (Zl .string x1) fun C=>
 Z0 (Z5 .leq B C) fun D=>
 Zk D
 (Z0 (Z5 .add x9 (.int .i64 2)) fun E=>
 Z0 (Yj x1 (some x9) (some E) none) fun F=>
 Z0 (Yc .string (.int .i64 0) true x6 F H) fun u=>
 Z0 (ZT u 0) fun I=>
 Z0 (ZT u 1) fun J=>
 Zk J
 (Z0 (Z5 .add x9 (.int .i64 2)) fun K=>
 Z0 (Yj x1 (some x9) (some K) none) fun L=>
 QM x1 x2 x3 x6 x9 L I H0 H)
 (QM x1 x2 x3 x6 x9 g j H0 H))
 (QM x1 x2 x3 x6 x9 g j H0 H):=Za [4,6,7,9,14,15]
theorem BR:Gt x1 x2 x3 x6 x9 H0 H =
 Z0 (Zl .string x1) fun g=>
 Z0 (Z5 .lss x9 g) fun j=>
 Zk j
 (IF x1 x2 x3 x6 x9 H0 H)
 (some ((.tuple []),H)):=(ZD (C:=cfg) [4,6,7,9,14,15] (Zm 2 (ZB 109 Tryz.f109 H0)) _ _).trans (by kernel_rfl)
theorem ZeW:PB x1 x2 x3 x6 H0 H =
 Gt x1 x2 x3 x6 (.int .i64 0) H0 H:=Za [4,6,7,9,14,15]
theorem ZeZ:II x1 x2 x3 x6 x16 x17 x18 H0 H =
 Z0 (Z5 .add x18 (.int .i64 1)) fun g=>
 Gu x1 x2 x3 x6 x16 x17 g H0 H:=Za [4,6,7,9,14,15]
theorem ZeY:IH x1 x2 x3 x6 x16 x17 x18 x19 H0 H =
 Z0 (Zn 2 x16 x18) fun w=>
 Z0 (Z3 true 2 w H) fun y=>
 Z0 (some ((.ptr H.length 0),H++[.cells [(.str []),(.int .i64 0)]])) fun u=>
 Z0 (Zf 2 u.1 y u.2) fun g=>
 Z0 (Z7 0 u.1) fun z=>
 Z0 (Z3 false 1 z g.2) fun A=>
 Z0 (Z7 1 u.1) fun B=>
 Z0 (Z3 false 1 B g.2) fun C=>
 Z0 (Xs .string x6 A C g.2) fun j=>
 II x1 x2 x3 x6 x16 x17 x18 H0 j.2:=Za [4,6,7,9,14,15]
theorem L3:Gu x1 x2 x3 x6 x16 x17 x18 H0 H =
 Z0 (Z5 .lss x18 x17) fun g=>
 Zk g
 (IH x1 x2 x3 x6 x16 x17 x18 g H0 H)
 (PB x1 x2 x3 x6 H0 H):=(ZD (C:=cfg) [4,6,7,9,14,15] (Zm 0 (Zbv H0)) _ _).trans (by kernel_rfl)
theorem ZfN:NY [p0,p1,p2] H=ZaJ p0 p1 p2 H:=Be 75 [4,6,7,9,14,15] Tryz.func109
def Rj (p0 p1 p2:AV)(H:Hp):Z4:=
 Z0 (Z3 false 1 p2 H) fun u=>
 Z0 ((ZA 1 [(0,p1)] [(.int .i64 0)]).map (.vs 1 .clip)) fun w=>
 Z0 (Ym 1 8 u w H) fun j=>
 Z0 (Zf 1 p2 j.1 j.2) fun g=>
 some ((.bool true),g.2)
theorem C4:J1 [p0,p1,p2] H=Rj p0 p1 p2 H:=Be 10 [] Tryz.func110
def MQ:Z4:=
 Z0 (Ze XX [p0,p1] H) fun g=>
 some (g.1,g.2)
theorem Oq:BD [p0,p1] H=MQ p0 p1 H:=Be 8 [] Tryz.func111
def BM:Z4:=ZH 112 116 (sub (Z1 Tryz.f112) [1,1,1,1,1,1,1,1,1,1,1]) (Zi cfg 116 112 Tryz.f112 H0) [(9,x9),(11,x11)] H
def BK:Z4:=ZH 112 116 (sub (Z1 Tryz.f112) [1,1,1,1,1,1,1,1,1]) (Zi cfg 116 112 Tryz.f112 H0) [(5,x5),(7,x7),(8,x8),(9,x9)] H
def WA:Z4:=ZH 112 116 (sub (Z1 Tryz.f112) [1,1,1,1,1,1,1,1]) (Zi cfg 116 112 Tryz.f112 H0) [(5,x5),(6,x6),(7,x7),(8,x8),(9,x9)] H
def Qr:Z4:=ZH 112 116 (sub (Z1 Tryz.f112) [1,1,1,1,1]) (Zi cfg 116 112 Tryz.f112 H0) [(0,x0),(4,x4),(5,x5)] H
def BJ:Z4:=ZH 112 116 (sub (Z1 Tryz.f112) [1,1,1]) (Zi cfg 116 112 Tryz.f112 H0) [(0,x0),(4,x4)] H
def BN:KL:=Zc (VC 112 116 Tryz.f112 [1,1,1]) (Zi cfg 116 112 Tryz.f112 H0)
theorem Aw:ZU 116 (BN H0):=Zx (C:=cfg) (kp:=cfg.keep 112) (sub (Z1 Tryz.f112) [1,1,1]) (ZB 112 Tryz.f112 H0)
def MS:Z4:=ZH 112 116 (sub (Z1 Tryz.f112) [1,1,0,0,0,1]) (Zc (Yz 112 116 Tryz.f112 [1,1,0,0,0]) (Z6 0 (BN H0))) [(0,x0),(4,x4)] H
def Qt:Z4:=UH 112 116 (sub (Z1 Tryz.f112) [1,1,0,0,0]) (Z6 0 (BN H0)) [(0,x0),(4,x4)] H
def ZfL:Z4:=
 Qt p0 (.int .i64 0) H H
theorem RL:BM x9 x11 H0 H =
 some ((.tuple [x11,x9]),H):=Za [3,4,7,14,16,19]
theorem OQ:BK x5 x7 x8 x9 H0 H =
 Z0 (Ze Rb [x7,x8] H) fun g=>
 Z0 (UU (.int .i64 10000000000000) g.1) fun j=>
 Zk x5
 (Z0 (Xv .neg j) fun u=>
 BM x9 u H0 g.2)
 (BM x9 j H0 g.2):=Za [3,4,7,14,16,19]
theorem OP:WA x5 x6 x7 x8 x9 H0 H =
 Z0 (Z5 .eql x6 (.int .i64 0)) fun g=>
 Z0 (Z8 g true (.tuple []) (some x8)) fun j=>
 Z0 (Z8 g true (.tuple []) (Xb .eql j (.str []))) fun u=>
 Z0 (Zj g u (.bool false)) fun w=>
 Zk w
 (some ((.tuple [(.int .i64 0),(.int .i64 0)]),H))
 (BK x5 x7 x8 x9 H0 H):=Za [3,4,7,14,16,19]
theorem OO:Qr x0 x4 x5 H0 H =
 Z0 (Yj x0 (some x4) none none) fun B=>
 Z0 (Ze J0 [B] H) fun g=>
 Z0 (Z5 .add x4 g.1) fun C=>
 Z0 (Yj x0 (some x4) (some C) none) fun y=>
 Z0 (Z5 .add x4 g.1) fun j=>
 Z0 (Zl .string x0) fun t70=>
 Z0 (Z5 .lss j t70) fun w=>
 Z0 (Z8 w true (.tuple []) (some x0)) fun D=>
 Z0 (Z8 w true (.tuple []) (some j)) fun E=>
 Z0 (Z8 w true (.tuple []) (Zz D E)) fun F=>
 Z0 (Z8 w true (.tuple []) (Z5 .eql F (.int .u8 46))) fun I=>
 Z0 (Zj w I (.bool false)) fun J=>
 Zk J
 (Z0 (Z5 .add j (.int .i64 1)) fun K=>
 Z0 (Yj x0 (some K) none none) fun L=>
 Z0 (Ze J0 [L] g.2) fun u=>
 Z0 (Z5 .gtr g.1 (.int .i64 0)) fun z=>
 Z0 (Z8 z false (.tuple []) (some u.1)) fun M=>
 Z0 (Z8 z false (.tuple []) (Z5 .gtr M (.int .i64 0))) fun N=>
 Z0 (Zj z (.bool true) N) fun O=>
 Zk O
 (Z0 (Z5 .add j (.int .i64 1)) fun Q=>
 Z0 (Z5 .add j (.int .i64 1)) fun R=>
 Z0 (Z5 .add R u.1) fun S=>
 Z0 (Yj x0 (some Q) (some S) none) fun T=>
 Z0 (Z5 .add (.int .i64 1) u.1) fun U=>
 Z0 (Z5 .add j U) fun A=>
 WA x5 g.1 y T A H0 u.2)
 (WA x5 g.1 y (.str []) j H0 u.2))
 (WA x5 g.1 y (.str []) j H0 g.2):=Za [3,4,7,14,16,19]
theorem ON:BJ x0 x4 H0 H =
 Z0 (Zl .string x0) fun w=>
 Z0 (Z5 .lss x4 w) fun j=>
 Z0 (Z8 j true (.tuple []) (some x0)) fun y=>
 Z0 (Z8 j true (.tuple []) (some x4)) fun z=>
 Z0 (Z8 j true (.tuple []) (Zz y z)) fun t37=>
 Z0 (Z8 j true (.tuple []) (Z5 .eql t37 (.int .u8 45))) fun A=>
 Z0 (Zj j A (.bool false)) fun g=>
 Z0 (Z8 g false (.tuple []) (some x4)) fun B=>
 Z0 (Z8 g false (.tuple []) (some x0)) fun C=>
 Z0 (Z8 g false (.tuple []) (Zl .string C)) fun D=>
 Z0 (Z8 g false (.tuple []) (Z5 .lss B D)) fun E=>
 Z0 (Z8 g false (.tuple []) (some E)) fun u=>
 Z0 (Z8 u true (.tuple []) (some x0)) fun F=>
 Z0 (Z8 u true (.tuple []) (some x4)) fun I=>
 Z0 (Z8 u true (.tuple []) (Zz F I)) fun J=>
 Z0 (Z8 u true (.tuple []) (Z5 .eql J (.int .u8 43))) fun K=>
 Z0 (Z8 g false (.tuple []) (Zj u K (.bool false))) fun L=>
 Z0 (Zj g (.bool true) L) fun M=>
 Zk M
 (Z0 (Z5 .add x4 (.int .i64 1)) fun N=>
 Qr x0 N g H0 H)
 (Qr x0 x4 g H0 H):=Za [3,4,7,14,16,19]
theorem RM:MS x0 x4 H0 H =
 Z0 (Z5 .add x4 (.int .i64 1)) fun g=>
 Qt x0 g H0 H:=Za [3,4,7,14,16,19]
theorem RN:Qt x0 x4 H0 H =
 Z0 (Zl .string x0) fun u=>
 Z0 (Z5 .lss x4 u) fun g=>
 Z0 (Z8 g true (.tuple []) (some x0)) fun w=>
 Z0 (Z8 g true (.tuple []) (some x4)) fun y=>
 Z0 (Z8 g true (.tuple []) (Zz w y)) fun z=>
 Z0 (Z8 g true (.tuple []) (Z5 .eql z (.int .u8 32))) fun A=>
 Z0 (Z8 g true (.tuple []) (some A)) fun j=>
 Z0 (Z8 j false (.tuple []) (some x0)) fun B=>
 Z0 (Z8 j false (.tuple []) (some x4)) fun D=>
 Z0 (Z8 j false (.tuple []) (Zz B D)) fun E=>
 Z0 (Z8 j false (.tuple []) (Z5 .eql E (.int .u8 9))) fun F=>
 Z0 (Z8 g true (.tuple []) (Zj j (.bool true) F)) fun I=>
 Z0 (Zj g I (.bool false)) fun J=>
 Zk J
 (MS x0 x4 H0 H)
 (BJ x0 x4 H0 H):=(ZD (C:=cfg) [3,4,7,14,16,19] (Zm 0 (Aw H0)) _ _).trans (by kernel_rfl)
theorem Zbh:QZ [p0] H=ZfL p0 H:=Be 116 [3,4,7,14,16,19] Tryz.func112
def HR:Z4:=ZH 113 13 (sub (Z1 Tryz.f113) [1,1]) (Zi cfg 13 113 Tryz.f113 H0) [] H
def Ik:Z4:=
 Z0 (Z5 .lss p0 p1) fun j=>
 Zk j
 (some ((.int .i64 (-1)),H))
 (Z0 (Z5 .gtr p0 p1) fun g=>
 Zk g
 (some ((.int .i64 1),H))
 (HR H H))
theorem Zeb:HR H0 H =
 some ((.int .i64 0),H):=Za [5]
theorem ZeL:Pd [p0,p1] H=Ik p0 p1 H:=Be 13 [5] Tryz.func113
def MN:Z4:=
 Z0 (Z3 false 1 p2 H) fun B=>
 Z0 (Z5 .and B p0) fun t9=>
 Z0 (Z5 .neq t9 (.int .i64 0)) fun y=>
 Zk y
 (Z0 (Z3 false 1 p3 H) fun z=>
 Z0 (Xu cfg (Z9 cfg) p1 [z] H) fun g=>
 Z0 (Z3 false 1 p4 g.2) fun A=>
 Z0 (Xu cfg (Z9 cfg) p1 [A] g.2) fun j=>
 Z0 (Zf 1 p3 g.1 j.2) fun u=>
 Z0 (Zf 1 p4 j.1 u.2) fun w=>
 some ((.tuple []),w.2))
 (some ((.tuple []),H))
theorem Om:BA [p0,p1,p2,p3,p4] H=MN p0 p1 p2 p3 p4 H:=Be 17 [] Tryz.func114
def MO:Z4:=
 Z0 (I1 ZeA [p0,(.str [32,9])] H) fun g=>
 some (g.1,g.2)
theorem On:BB [p0] H=MO p0 H:=Be 5 [] Tryz.func115
def HQ:Z4:=ZH 117 44 (sub (Z1 Tryz.f117) [1,1,1]) (Zi cfg 44 117 Tryz.f117 H0) [(3,x3)] H
def KA:KL:=Zc (VC 117 44 Tryz.f117 [1,1,1]) (Zi cfg 44 117 Tryz.f117 H0)
theorem Zav:ZU 44 (KA H0):=Zx (C:=cfg) (kp:=cfg.keep 117) (sub (Z1 Tryz.f117) [1,1,1]) (ZB 117 Tryz.f117 H0)
def Qa:Z4:=ZH 117 44 (sub (Z1 Tryz.f117) [1,1,0,1,0,0,1,1,1]) (Zc (Yz 117 44 Tryz.f117 [1,1,0,1,0,0]) (Z6 0 (KA H0))) [(0,x0),(3,x3),(7,x7),(8,x8)] H
def Th:Z4:=ZH 117 44 (sub (Z1 Tryz.f117) [1,1,0,1,0,0,1,1]) (Zc (Yz 117 44 Tryz.f117 [1,1,0,1,0,0]) (Z6 0 (KA H0))) [(0,x0),(3,x3),(7,x7),(8,x8),(9,x9)] H
def KB:Z4:=UH 117 44 (sub (Z1 Tryz.f117) [1,1,0,1,0,0]) (Z6 0 (KA H0)) [(0,x0),(3,x3),(7,x7),(8,x8)] H
def Ij:Z4:=
 Z0 (some ((.ptr H.length 0),H++[.bld 201 5 []])) fun g=>
 Z0 (Zl .string p0) fun j=>
 KB p0 g.1 j (.int .i64 0) H g.2
theorem Ze9:HQ x3 H0 H =
 Z0 (stringE.run [x3] H) fun g=>
 some (g.1,g.2):=Za [4,8,9]
theorem NO:Qa x0 x3 x7 x8 H0 H =
 Z0 (Z5 .add x8 (.int .i64 1)) fun g=>
 KB x0 x3 x7 g H0 H:=Za [4,8,9]
theorem Zea:Th x0 x3 x7 x8 x9 H0 H =
 Z0 (Zz x0 x8) fun g=>
 Z0 (Vf [g] H) fun j=>
 Z0 (Z8 j.1 false (.tuple []) (some g)) fun C=>
 Z0 (Z8 j.1 false (.tuple []) (Z5 .geq C (.int .u8 97))) fun D=>
 Z0 (Z8 j.1 false (.tuple []) (some D)) fun y=>
 Z0 (Z8 y true (.tuple []) (some g)) fun E=>
 Z0 (Z8 y true (.tuple []) (Z5 .leq E (.int .u8 122))) fun F=>
 Z0 (Z8 j.1 false (.tuple []) (Zj y F (.bool false))) fun I=>
 Z0 (Zj j.1 (.bool true) I) fun u=>
 Z0 (Z8 u false (.tuple []) (some g)) fun J=>
 Z0 (Z8 u false (.tuple []) (Z5 .geq J (.int .u8 65))) fun K=>
 Z0 (Z8 u false (.tuple []) (some K)) fun z=>
 Z0 (Z8 z true (.tuple []) (some g)) fun L=>
 Z0 (Z8 z true (.tuple []) (Z5 .leq L (.int .u8 90))) fun M=>
 Z0 (Z8 u false (.tuple []) (Zj z M (.bool false))) fun N=>
 Z0 (Zj u (.bool true) N) fun w=>
 Z0 (Z8 w false (.tuple []) (some g)) fun O=>
 Z0 (Z8 w false (.tuple []) (Z5 .geq O (.int .u8 48))) fun Q=>
 Z0 (Z8 w false (.tuple []) (some Q)) fun A=>
 Z0 (Z8 A true (.tuple []) (some g)) fun R=>
 Z0 (Z8 A true (.tuple []) (Z5 .leq R (.int .u8 57))) fun t37=>
 Z0 (Z8 w false (.tuple []) (Zj A t37 (.bool false))) fun S=>
 Z0 (Zj w (.bool true) S) fun T=>
 Zk T
 (Z0 (byteE.run [x3,g] j.2) fun B=>
 Qa x0 x3 x7 x8 H0 B.2)
 (Qa x0 x3 x7 x8 H0 j.2):=Za [4,8,9]
theorem NP:KB x0 x3 x7 x8 H0 H =
 Z0 (Z5 .lss x8 x7) fun t9=>
 Zk t9
 (Th x0 x3 x7 x8 t9 H0 H)
 (HQ x3 H0 H):=(ZD (C:=cfg) [4,8,9] (Zm 0 (Zav H0)) _ _).trans (by kernel_rfl)
theorem ZeK:Pc [p0] H=Ij p0 H:=Be 44 [4,8,9] Tryz.func117
def MP:Z4:=
 Z0 (Z3 true 6 p1 H) fun t4=>
 Z0 (Ze Pb [t4,p0] H) fun g=>
 some (g.1,g.2)
theorem Oo:BC [p0,p1] H=MP p0 p1 H:=Be 7 [] Tryz.func118
def Ie:Z4:=
 Z0 (ZO p0 H) fun g=>
 Z0 (Z3 true 6 g.1 g.2) fun t5=>
 Z0 (Ze U0 [t5] g.2) fun j=>
 Z0 (Pf false 1 3 j.1) fun w=>
 Z0 (Ze Rf [w,p1] j.2) fun u=>
 some (u.1,u.2)
theorem ZeH:Pb [p0,p1] H=Ie p0 p1 H:=Be 10 [] Tryz.func119
def HE:Z4:=ZH 143 49 (sub (Z1 Tryz.f143) [1,1,1,1,1]) (Zi cfg 49 143 Tryz.f143 H0) [(1,x1)] H
def HD:Z4:=ZH 143 49 (sub (Z1 Tryz.f143) [1,1,1,1]) (Zi cfg 49 143 Tryz.f143 H0) [(1,x1)] H
def Kv:KL:=Zc (VC 143 49 Tryz.f143 [1,1,1,1]) (Zi cfg 49 143 Tryz.f143 H0)
theorem Zad:ZU 49 (Kv H0):=Zx (C:=cfg) (kp:=cfg.keep 143) (sub (Z1 Tryz.f143) [1,1,1,1]) (ZB 143 Tryz.f143 H0)
def HG:Z4:=ZH 143 49 (sub (Z1 Tryz.f143) [1,1,1,0,1,0,0,1,1,1]) (Zc (Yz 143 49 Tryz.f143 [1,1,1,0,1,0,0]) (Z6 0 (Kv H0))) [(1,x1),(27,x27),(28,x28),(29,x29)] H
def HF:Z4:=ZH 143 49 (sub (Z1 Tryz.f143) [1,1,1,0,1,0,0,1,1]) (Zc (Yz 143 49 Tryz.f143 [1,1,1,0,1,0,0]) (Z6 0 (Kv H0))) [(1,x1),(27,x27),(28,x28),(29,x29),(30,x30)] H
def Kw:Z4:=UH 143 49 (sub (Z1 Tryz.f143) [1,1,1,0,1,0,0]) (Z6 0 (Kv H0)) [(1,x1),(27,x27),(28,x28),(29,x29)] H
def HC:Z4:=ZH 143 49 (sub (Z1 Tryz.f143) [1,1,1]) (Zi cfg 49 143 Tryz.f143 H0) [(1,x1)] H
def HA:Z4:=ZH 143 49 (sub (Z1 Tryz.f143) [1,1]) (Zi cfg 49 143 Tryz.f143 H0) [(1,x1)] H
def Ib:Z4:=
 Z0 (ZO p0 H) fun g=>
 Z0 (Z7 0 g.1) fun u=>
 Z0 (Z3 false 1 u g.2) fun w=>
 Z0 (Ze JK [w] g.2) fun j=>
 Z0 (Xv .not j.1) fun t9=>
 Zk t9
 (some ((.int .i64 4),j.2))
 (HA g.1 H j.2)
theorem ZdU:HE x1 H0 H =
 Z0 (Z7 5 x1) fun j=>
 Z0 (Z3 false 1 j H) fun u=>
 Z0 (Ze WY [u] H) fun g=>
 some (g.1,g.2):=Za [3,5,7,10,11,14]
theorem ZdT:HD x1 H0 H =
 Z0 (Z7 4 x1) fun j=>
 Z0 (Z3 false 1 j H) fun u=>
 Z0 (Ze Ve [u] H) fun g=>
 Z0 (Z5 .neq g.1 (.int .i64 0)) fun w=>
 Zk w
 (some (g.1,g.2))
 (HE x1 H0 g.2):=Za [3,5,7,10,11,14]
theorem ZdW:HG x1 x27 x28 x29 H0 H =
 Z0 (Z5 .add x29 (.int .i64 1)) fun g=>
 Kw x1 x27 x28 g H0 H:=Za [3,5,7,10,11,14]
theorem ZdV:HF x1 x27 x28 x29 x30 H0 H =
 Z0 (Zn 1 x27 x29) fun u=>
 Z0 (Z3 false 1 u H) fun j=>
 Z0 (Z5 .lss j (.int .i64 0)) fun g=>
 Z0 (Z8 g false (.tuple []) (some j)) fun w=>
 Z0 (Z8 g false (.tuple []) (Z5 .gtr w (.int .i64 65535))) fun t37=>
 Z0 (Zj g (.bool true) t37) fun y=>
 Zk y
 (some ((.int .i64 2),H))
 (HG x1 x27 x28 x29 H0 H):=Za [3,5,7,10,11,14]
theorem ND:Kw x1 x27 x28 x29 H0 H =
 Z0 (Z5 .lss x29 x28) fun g=>
 Zk g
 (HF x1 x27 x28 x29 g H0 H)
 (HD x1 H0 H):=(ZD (C:=cfg) [3,5,7,10,11,14] (Zm 0 (Zad H0)) _ _).trans (by kernel_rfl)
theorem ZdS:HC x1 H0 H =
 Z0 (Z7 1 x1) fun j=>
 Z0 (Z3 false 1 j H) fun g=>
 Z0 (Zl (.slice 3) g) fun u=>
 Kw x1 g u (.int .i64 0) H0 H:=Za [3,5,7,10,11,14]
theorem ZdR:HA x1 H0 H =
 Z0 (Z7 1 x1) fun u=>
 Z0 (Z3 false 1 u H) fun w=>
 Z0 (Zl (.slice 3) w) fun y=>
 Z0 (Z5 .neq y (.int .i64 256)) fun g=>
 Z0 (Z8 g false (.tuple []) (Z7 2 x1)) fun z=>
 Z0 (Z8 g false (.tuple []) (Z3 false 1 z H)) fun A=>
 Z0 (Z8 g false (.tuple []) (Zl .string A)) fun B=>
 Z0 (Z8 g false (.tuple []) (Z5 .neq B (.int .i64 256))) fun C=>
 Z0 (Zj g (.bool true) C) fun j=>
 Z0 (Z8 j false (.tuple []) (Z7 3 x1)) fun D=>
 Z0 (Z8 j false (.tuple []) (Z3 false 1 D H)) fun E=>
 Z0 (Z8 j false (.tuple []) (Zl .string E)) fun F=>
 Z0 (Z8 j false (.tuple []) (Z5 .neq F (.int .i64 256))) fun I=>
 Z0 (Zj j (.bool true) I) fun J=>
 Zk J
 (some ((.int .i64 2),H))
 (HC x1 H0 H):=Za [3,5,7,10,11,14]
theorem ZeG:Ge [p0] H=Ib p0 H:=Be 49 [3,5,7,10,11,14] Tryz.func143
def Fa:Z4:=
 Z0 (AC .cmp [p0,p1] H) fun g=>
 some (g.1,g.2)
theorem Gg:XX [p0,p1] H=Fa p0 p1 H:=Be 8 [] Tryz.func145
def MT:Z4:=ZH 146 23 (sub (Z1 Tryz.f146) [1,1,1]) (Zi cfg 23 146 Tryz.f146 H0) [(3,x3)] H
def BO:KL:=Zc (VC 146 23 Tryz.f146 [1,1,1]) (Zi cfg 23 146 Tryz.f146 H0)
theorem Ax:ZU 23 (BO H0):=Zx (C:=cfg) (kp:=cfg.keep 146) (sub (Z1 Tryz.f146) [1,1,1]) (ZB 146 Tryz.f146 H0)
def MU:Z4:=ZH 146 23 (sub (Z1 Tryz.f146) [1,1,0,0,0,1]) (Zc (Yz 146 23 Tryz.f146 [1,1,0,0,0]) (Z6 0 (BO H0))) [(0,x0),(3,x3)] H
def Qu:Z4:=UH 146 23 (sub (Z1 Tryz.f146) [1,1,0,0,0]) (Z6 0 (BO H0)) [(0,x0),(3,x3)] H
def ZfM:Z4:=
 Qu p0 (.int .i64 0) H H
theorem Jb:MT x3 H0 H =
 some (x3,H):=Za [3,4]
theorem OR:MU x0 x3 H0 H =
 Z0 (Z5 .add x3 (.int .i64 1)) fun g=>
 Qu x0 g H0 H:=Za [3,4]
theorem RO:Qu x0 x3 H0 H =
 Z0 (Zl .string x0) fun F=>
 Z0 (Z5 .lss x3 F) fun j=>
 Z0 (Z8 j true (.tuple []) (some x0)) fun t9=>
 Z0 (Z8 j true (.tuple []) (some x3)) fun u=>
 Z0 (Z8 j true (.tuple []) (Zz t9 u)) fun w=>
 Z0 (Z8 j true (.tuple []) (Z5 .geq w (.int .u8 48))) fun y=>
 Z0 (Zj j y (.bool false)) fun g=>
 Z0 (Z8 g true (.tuple []) (some x0)) fun z=>
 Z0 (Z8 g true (.tuple []) (some x3)) fun A=>
 Z0 (Z8 g true (.tuple []) (Zz z A)) fun B=>
 Z0 (Z8 g true (.tuple []) (Z5 .leq B (.int .u8 57))) fun D=>
 Z0 (Zj g D (.bool false)) fun E=>
 Zk E
 (MU x0 x3 H0 H)
 (MT x3 H0 H):=(ZD (C:=cfg) [3,4] (Zm 0 (Ax H0)) _ _).trans (by kernel_rfl)
theorem Zbi:J0 [p0] H=ZfM p0 H:=Be 23 [3,4] Tryz.func146
def ED:Z4:=ZH 147 29 (sub (Z1 Tryz.f147) [1,1,1]) (Zi cfg 29 147 Tryz.f147 H0) [(1,x1),(5,x5)] H
def Jc:KL:=Zc (VC 147 29 Tryz.f147 [1,1,1]) (Zi cfg 29 147 Tryz.f147 H0)
theorem Iy:ZU 29 (Jc H0):=Zx (C:=cfg) (kp:=cfg.keep 147) (sub (Z1 Tryz.f147) [1,1,1]) (ZB 147 Tryz.f147 H0)
def EG:Z4:=ZH 147 29 (sub (Z1 Tryz.f147) [1,1,0,1,0,0,1,1,1]) (Zc (Yz 147 29 Tryz.f147 [1,1,0,1,0,0]) (Z6 0 (Jc H0))) [(0,x0),(1,x1),(5,x5),(8,x8),(9,x9)] H
def EF:Z4:=ZH 147 29 (sub (Z1 Tryz.f147) [1,1,0,1,0,0,1,1]) (Zc (Yz 147 29 Tryz.f147 [1,1,0,1,0,0]) (Z6 0 (Jc H0))) [(0,x0),(1,x1),(5,x5),(8,x8),(9,x9),(10,x10)] H
def Jd:Z4:=UH 147 29 (sub (Z1 Tryz.f147) [1,1,0,1,0,0]) (Z6 0 (Jc H0)) [(0,x0),(1,x1),(5,x5),(8,x8),(9,x9)] H
def Cs:Z4:=
 Z0 (Zl .string p0) fun g=>
 Jd p0 p1 (.int .i64 0) g (.int .i64 0) H H
theorem Zbp:ED x1 x5 H0 H =
 Z0 (Z5 .mul x5 (.int .i64 10000)) fun j=>
 Z0 (Ze KI [x1] H) fun g=>
 Z0 (Z5 .add j g.1) fun u=>
 Z0 (UU (.int .i64 10000000000001) u) fun w=>
 some (w,g.2):=Za [4,8,9]
theorem Zbr:EG x0 x1 x5 x8 x9 H0 H =
 Z0 (Z5 .add x9 (.int .i64 1)) fun g=>
 Jd x0 x1 x5 x8 g H0 H:=Za [4,8,9]
theorem Zbq:EF x0 x1 x5 x8 x9 x10 H0 H =
 Z0 (Z5 .mul (.int .i64 10) x5) fun j=>
 Z0 (Zz x0 x9) fun u=>
 Z0 (Z5 .sub u (.int .u8 48)) fun w=>
 Z0 (Wl .i64 w) fun y=>
 Z0 (Z5 .add j y) fun g=>
 Z0 (Z5 .gtr g (.int .i64 1000000000)) fun z=>
 Zk z
 (some ((.int .i64 10000000000001),H))
 (EG x0 x1 g x8 x9 H0 H):=Za [4,8,9]
theorem TB:Jd x0 x1 x5 x8 x9 H0 H =
 Z0 (Z5 .lss x9 x8) fun g=>
 Zk g
 (EF x0 x1 x5 x8 x9 g H0 H)
 (ED x1 x5 H0 H):=(ZD (C:=cfg) [4,8,9] (Zm 0 (Iy H0)) _ _).trans (by kernel_rfl)
theorem Zcf:Rb [p0,p1] H=Cs p0 p1 H:=Be 29 [4,8,9] Tryz.func147
def S9:Z4:=ZH 155 26 (sub (Z1 Tryz.f155) [1,1,1]) (Zi cfg 26 155 Tryz.f155 H0) [(5,x5)] H
def Jk:KL:=Zc (VC 155 26 Tryz.f155 [1,1,1]) (Zi cfg 26 155 Tryz.f155 H0)
theorem IJ:ZU 26 (Jk H0):=Zx (C:=cfg) (kp:=cfg.keep 155) (sub (Z1 Tryz.f155) [1,1,1]) (ZB 155 Tryz.f155 H0)
def Sb:Z4:=ZH 155 26 (sub (Z1 Tryz.f155) [1,1,0,1,0,0,1,1,1]) (Zc (Yz 155 26 Tryz.f155 [1,1,0,1,0,0]) (Z6 0 (Jk H0))) [(0,x0),(5,x5),(10,x10),(11,x11)] H
def Sa:Z4:=ZH 155 26 (sub (Z1 Tryz.f155) [1,1,0,1,0,0,1,1]) (Zc (Yz 155 26 Tryz.f155 [1,1,0,1,0,0]) (Z6 0 (Jk H0))) [(0,x0),(5,x5),(10,x10),(11,x11),(12,x12)] H
def Jl:Z4:=UH 155 26 (sub (Z1 Tryz.f155) [1,1,0,1,0,0]) (Z6 0 (Jk H0)) [(0,x0),(5,x5),(10,x10),(11,x11)] H
def Cv:Z4:=
 Z0 (OM p1 H) fun g=>
 Z0 (Zl (.slice 5) g.1) fun j=>
 Jl p0 g.1 j (.int .i64 0) H g.2
theorem Zbw:S9 x5 H0 H =
 Z0 (BI x5 H) fun g=>
 some (g,H):=Za [4,6,7]
theorem Zby:Sb x0 x5 x10 x11 H0 H =
 Z0 (Z5 .add x11 (.int .i64 1)) fun g=>
 Jl x0 x5 x10 g H0 H:=Za [4,6,7]
theorem Zbx:Sa x0 x5 x10 x11 x12 H0 H =
 Z0 (Zn 1 x5 x11) fun j=>
 Z0 (Z3 false 1 j H) fun u=>
 Z0 (Zz x0 u) fun w=>
 Z0 (Zn 1 x5 x11) fun y=>
 Z0 (Zf 1 y w H) fun g=>
 Sb x0 x5 x10 x11 H0 g.2:=Za [4,6,7]
theorem TG:Jl x0 x5 x10 x11 H0 H =
 Z0 (Z5 .lss x11 x10) fun g=>
 Zk g
 (Sa x0 x5 x10 x11 g H0 H)
 (S9 x5 H0 H):=(ZD (C:=cfg) [4,6,7] (Zm 0 (IJ H0)) _ _).trans (by kernel_rfl)
theorem Zcj:Rf [p0,p1] H=Cv p0 p1 H:=Be 26 [4,6,7] Tryz.func155
def PC:Z4:=ZH 173 54 (sub (Z1 Tryz.f173) [1,1]) (Zi cfg 54 173 Tryz.f173 H0) [(0,x0)] H
def Gv:KL:=Zc (VC 173 54 Tryz.f173 [1,1]) (Zi cfg 54 173 Tryz.f173 H0)
theorem Zbz:ZU 54 (Gv H0):=Zx (C:=cfg) (kp:=cfg.keep 173) (sub (Z1 Tryz.f173) [1,1]) (ZB 173 Tryz.f173 H0)
def PE:Z4:=ZH 173 54 (sub (Z1 Tryz.f173) [1,0,1,0,0,1,1,1]) (Zc (Yz 173 54 Tryz.f173 [1,0,1,0,0]) (Z6 0 (Gv H0))) [(0,x0),(7,x7),(8,x8)] H
def PD:Z4:=ZH 173 54 (sub (Z1 Tryz.f173) [1,0,1,0,0,1,1]) (Zc (Yz 173 54 Tryz.f173 [1,0,1,0,0]) (Z6 0 (Gv H0))) [(0,x0),(7,x7),(8,x8),(9,x9)] H
def Gw:Z4:=UH 173 54 (sub (Z1 Tryz.f173) [1,0,1,0,0]) (Z6 0 (Gv H0)) [(0,x0),(7,x7),(8,x8)] H
def ZaK:Z4:=
 Z0 (Zl .string p0) fun g=>
 Gw p0 g (.int .i64 0) H H
theorem Zf0:PC x0 H0 H =
 Z0 (Xb .neq x0 (.str [])) fun g=>
 Z0 (Z8 g true (.tuple []) (some x0)) fun j=>
 Z0 (Z8 g true (.tuple []) (Zl .string j)) fun u=>
 Z0 (Z8 g true (.tuple []) (Z5 .leq u (.int .i64 32))) fun w=>
 Z0 (Zj g w (.bool false)) fun y=>
 some (y,H):=Za [3,8,9]
theorem L4:PE x0 x7 x8 H0 H =
 Z0 (Z5 .add x8 (.int .i64 1)) fun g=>
 Gw x0 x7 g H0 H:=Za [3,8,9]
theorem Zf1:PD x0 x7 x8 x9 H0 H =
 Z0 (Zz x0 x8) fun g=>
 Z0 (Z5 .eql g (.int .u8 95)) fun u=>
 Z0 (Z8 u false (.tuple []) (some g)) fun B=>
 Z0 (Z8 u false (.tuple []) (Z5 .geq B (.int .u8 97))) fun C=>
 Z0 (Z8 u false (.tuple []) (some C)) fun y=>
 Z0 (Z8 y true (.tuple []) (some g)) fun D=>
 Z0 (Z8 y true (.tuple []) (Z5 .leq D (.int .u8 122))) fun E=>
 Z0 (Z8 u false (.tuple []) (Zj y E (.bool false))) fun F=>
 Z0 (Zj u (.bool true) F) fun w=>
 Z0 (Z8 w false (.tuple []) (some g)) fun I=>
 Z0 (Z8 w false (.tuple []) (Z5 .geq I (.int .u8 65))) fun J=>
 Z0 (Z8 w false (.tuple []) (some J)) fun z=>
 Z0 (Z8 z true (.tuple []) (some g)) fun K=>
 Z0 (Z8 z true (.tuple []) (Z5 .leq K (.int .u8 90))) fun L=>
 Z0 (Z8 w false (.tuple []) (Zj z L (.bool false))) fun M=>
 Z0 (Zj w (.bool true) M) fun N=>
 Z0 (Xv .not N) fun j=>
 Z0 (Z8 j true (.tuple []) (some x8)) fun O=>
 Z0 (Z8 j true (.tuple []) (Z5 .eql O (.int .i64 0))) fun Q=>
 Z0 (Z8 j true (.tuple []) (some Q)) fun t37=>
 Z0 (Z8 t37 false (.tuple []) (some g)) fun R=>
 Z0 (Z8 t37 false (.tuple []) (Z5 .lss R (.int .u8 48))) fun S=>
 Z0 (Z8 j true (.tuple []) (Zj t37 (.bool true) S)) fun T=>
 Z0 (Z8 j true (.tuple []) (some T)) fun A=>
 Z0 (Z8 A false (.tuple []) (some g)) fun U=>
 Z0 (Z8 A false (.tuple []) (Z5 .gtr U (.int .u8 57))) fun V=>
 Z0 (Z8 j true (.tuple []) (Zj A (.bool true) V)) fun W=>
 Z0 (Zj j W (.bool false)) fun X=>
 Zk X
 (some ((.bool false),H))
 (PE x0 x7 x8 H0 H):=Za [3,8,9]
theorem Qx:Gw x0 x7 x8 H0 H =
 Z0 (Z5 .lss x8 x7) fun t9=>
 Zk t9
 (PD x0 x7 x8 t9 H0 H)
 (PC x0 H0 H):=(ZD (C:=cfg) [3,8,9] (Zm 0 (Zbz H0)) _ _).trans (by kernel_rfl)
theorem ZfO:JK [p0] H=ZaK p0 H:=Be 54 [3,8,9] Tryz.func173
def Dt:Z4:=ZH 174 28 (sub (Z1 Tryz.f174) [1,1,1,1]) (Zi cfg 28 174 Tryz.f174 H0) [] H
def XJ:KL:=Zc (VC 174 28 Tryz.f174 [1,1,1,1]) (Zi cfg 28 174 Tryz.f174 H0)
theorem NE:ZU 28 (XJ H0):=Zx (C:=cfg) (kp:=cfg.keep 174) (sub (Z1 Tryz.f174) [1,1,1,1]) (ZB 174 Tryz.f174 H0)
def Dv:Z4:=ZH 174 28 (sub (Z1 Tryz.f174) [1,1,1,0,1,0,0,1,1,1]) (Zc (Yz 174 28 Tryz.f174 [1,1,1,0,1,0,0]) (Z6 0 (XJ H0))) [(3,x3),(10,x10),(11,x11),(12,x12)] H
def Dy:KL:=Zc (VC 174 28 Tryz.f174 [1,1,1,0,1,0,0,1,1,1]) (Zc (Yz 174 28 Tryz.f174 [1,1,1,0,1,0,0]) (Z6 0 (XJ H0)))
def Dx:Z4:=ZH 174 28 (sub (Z1 Tryz.f174) [1,1,1,0,1,0,0,1,1,0,0,1,1,1]) (Z6 1 (Dy H0)) [(3,x3),(5,x5),(10,x10),(11,x11),(12,x12)] H
def Dw:Z4:=ZH 174 28 (sub (Z1 Tryz.f174) [1,1,1,0,1,0,0,1,1,0,0,1,1]) (Z6 1 (Dy H0)) [(3,x3),(5,x5),(10,x10),(11,x11),(12,x12)] H
def Du:Z4:=ZH 174 28 (sub (Z1 Tryz.f174) [1,1,1,0,1,0,0,1,1]) (Zc (Yz 174 28 Tryz.f174 [1,1,1,0,1,0,0]) (Z6 0 (XJ H0))) [(3,x3),(10,x10),(11,x11),(12,x12),(13,x13)] H
def V5:Z4:=UH 174 28 (sub (Z1 Tryz.f174) [1,1,1,0,1,0,0]) (Z6 0 (XJ H0)) [(3,x3),(10,x10),(11,x11),(12,x12)] H
def Ds:Z4:=ZH 174 28 (sub (Z1 Tryz.f174) [1,1]) (Zi cfg 28 174 Tryz.f174 H0) [(0,x0)] H
def FI:Z4:=
 Z0 (Zl (.slice 246) p0) fun g=>
 Z0 (Z5 .gtr g (.int .i64 24)) fun j=>
 Zk j
 (some ((.int .i64 3),H))
 (Ds p0 H H)
theorem LB:Dt H0 H =
 some ((.int .i64 0),H):=Za [3,6,9,11,12,13]
theorem LD:Dv x3 x10 x11 x12 H0 H =
 Z0 (Z5 .add x12 (.int .i64 1)) fun g=>
 V5 x3 x10 x11 g H0 H:=Za [3,6,9,11,12,13]
theorem LF:Dx x3 x5 x10 x11 x12 H0 H =
 Z0 (Z7 0 x5) fun j=>
 Z0 (Z3 false 1 j H) fun u=>
 Z0 (Xs .string x3 u (.bool true) H) fun g=>
 Dv x3 x10 x11 x12 H0 g.2:=Za [3,6,9,11,12,13]
theorem LE:Dw x3 x5 x10 x11 x12 H0 H =
 Z0 (Z7 0 x5) fun g=>
 Z0 (Z3 false 1 g H) fun j=>
 Z0 (Yc .string (.bool false) false x3 j H) fun u=>
 Zk u
 (some ((.int .i64 6),H))
 (Dx x3 x5 x10 x11 x12 H0 H):=Za [3,6,9,11,12,13]
theorem LC:Du x3 x10 x11 x12 x13 H0 H =
 Z0 (Zn 5 x10 x12) fun w=>
 Z0 (Z3 true 5 w H) fun y=>
 Z0 (some ((.ptr H.length 0),H++[.cells [(.str []),(.int .u64 0),(.int .u64 0),(.int .u64 0),(.int .u64 0)]])) fun u=>
 Z0 (Zf 5 u.1 y u.2) fun j=>
 Z0 (Z7 0 u.1) fun z=>
 Z0 (Z3 false 1 z j.2) fun A=>
 Z0 (Ze JK [A] j.2) fun g=>
 Z0 (Xv .not g.1) fun B=>
 Zk B
 (some ((.int .i64 4),g.2))
 (Dw x3 u.1 x10 x11 x12 H0 g.2):=Za [3,6,9,11,12,13]
theorem Kx:V5 x3 x10 x11 x12 H0 H =
 Z0 (Z5 .lss x12 x11) fun g=>
 Zk g
 (Du x3 x10 x11 x12 g H0 H)
 (Dt H0 H):=(ZD (C:=cfg) [3,6,9,11,12,13] (Zm 0 (NE H0)) _ _).trans (by kernel_rfl)
theorem LA:Ds x0 H0 H =
 Z0 (some ((.map H.length),H++[.map [] 0])) fun j=>
 Z0 (Zl (.slice 246) x0) fun g=>
 V5 j.1 x0 g (.int .i64 0) H0 j.2:=Za [3,6,9,11,12,13]
theorem Eb:Ve [p0] H=FI p0 H:=Be 28 [3,6,9,11,12,13] Tryz.func174
def Bb:Z4:=ZH 175 38 (sub (Z1 Tryz.f175) [1,1,1,1]) (Zi cfg 38 175 Tryz.f175 H0) [] H
def Xz:KL:=Zc (VC 175 38 Tryz.f175 [1,1,1,1]) (Zi cfg 38 175 Tryz.f175 H0)
theorem PA:ZU 38 (Xz H0):=Zx (C:=cfg) (kp:=cfg.keep 175) (sub (Z1 Tryz.f175) [1,1,1,1]) (ZB 175 Tryz.f175 H0)
def Bf:Z4:=ZH 175 38 (sub (Z1 Tryz.f175) [1,1,1,0,1,0,0,1,1,1]) (Zc (Yz 175 38 Tryz.f175 [1,1,1,0,1,0,0]) (Z6 0 (Xz H0))) [(3,x3),(10,x10),(11,x11),(12,x12)] H
def Bi:KL:=Zc (VC 175 38 Tryz.f175 [1,1,1,0,1,0,0,1,1,1]) (Zc (Yz 175 38 Tryz.f175 [1,1,1,0,1,0,0]) (Z6 0 (Xz H0)))
def Bh:Z4:=ZH 175 38 (sub (Z1 Tryz.f175) [1,1,1,0,1,0,0,1,1,0,0,1,1,1]) (Z6 1 (Bi H0)) [(3,x3),(5,x5),(10,x10),(11,x11),(12,x12)] H
def Bg:Z4:=ZH 175 38 (sub (Z1 Tryz.f175) [1,1,1,0,1,0,0,1,1,0,0,1,1]) (Z6 1 (Bi H0)) [(3,x3),(5,x5),(10,x10),(11,x11),(12,x12)] H
def Bc:Z4:=ZH 175 38 (sub (Z1 Tryz.f175) [1,1,1,0,1,0,0,1,1]) (Zc (Yz 175 38 Tryz.f175 [1,1,1,0,1,0,0]) (Z6 0 (Xz H0))) [(3,x3),(10,x10),(11,x11),(12,x12),(13,x13)] H
def WJ:Z4:=UH 175 38 (sub (Z1 Tryz.f175) [1,1,1,0,1,0,0]) (Z6 0 (Xz H0)) [(3,x3),(10,x10),(11,x11),(12,x12)] H
def Ba:Z4:=ZH 175 38 (sub (Z1 Tryz.f175) [1,1]) (Zi cfg 38 175 Tryz.f175 H0) [(0,x0)] H
def D8:Z4:=
 Z0 (Zl (.slice 189) p0) fun g=>
 Z0 (Z5 .gtr g (.int .i64 64)) fun j=>
 Zk j
 (some ((.int .i64 3),H))
 (Ba p0 H H)
theorem Mm:Bb H0 H =
 some ((.int .i64 0),H):=Za [3,6,9,11,12,13]
theorem Mo:Bf x3 x10 x11 x12 H0 H =
 Z0 (Z5 .add x12 (.int .i64 1)) fun t37=>
 WJ x3 x10 x11 t37 H0 H:=Za [3,6,9,11,12,13]
theorem Mq:Bh x3 x5 x10 x11 x12 H0 H =
 Z0 (Z7 0 x5) fun j=>
 Z0 (Z3 false 1 j H) fun u=>
 Z0 (Xs .string x3 u (.bool true) H) fun g=>
 Bf x3 x10 x11 x12 H0 g.2:=Za [3,6,9,11,12,13]
theorem Mp:Bg x3 x5 x10 x11 x12 H0 H =
 Z0 (Z7 0 x5) fun g=>
 Z0 (Z3 false 1 g H) fun j=>
 Z0 (Yc .string (.bool false) false x3 j H) fun u=>
 Zk u
 (some ((.int .i64 6),H))
 (Bh x3 x5 x10 x11 x12 H0 H):=Za [3,6,9,11,12,13]
theorem Mn:Bc x3 x10 x11 x12 x13 H0 H =
 Z0 (Zn 2 x10 x12) fun y=>
 Z0 (Z3 true 2 y H) fun z=>
 Z0 (some ((.ptr H.length 0),H++[.cells [(.str []),(.int .i64 0)]])) fun w=>
 Z0 (Zf 2 w.1 z w.2) fun g=>
 Z0 (Z7 0 w.1) fun A=>
 Z0 (Z3 false 1 A g.2) fun B=>
 Z0 (Zl .string B) fun C=>
 Z0 (Z5 .neq C (.int .i64 2)) fun j=>
 Z0 (Z8 j false (.tuple []) (Z7 1 w.1)) fun D=>
 Z0 (Z8 j false (.tuple []) (Z3 false 1 D g.2)) fun E=>
 Z0 (Z8 j false (.tuple []) (Z5 .lss E (.int .i64 0))) fun F=>
 Z0 (Zj j (.bool true) F) fun u=>
 Z0 (Z8 u false (.tuple []) (Z7 1 w.1)) fun I=>
 Z0 (Z8 u false (.tuple []) (Z3 false 1 I g.2)) fun J=>
 Z0 (Z8 u false (.tuple []) (Z5 .gtr J (.int .i64 65535))) fun K=>
 Z0 (Zj u (.bool true) K) fun L=>
 Zk L
 (some ((.int .i64 2),g.2))
 (Bg x3 w.1 x10 x11 x12 H0 g.2):=Za [3,6,9,11,12,13]
theorem JS:WJ x3 x10 x11 x12 H0 H =
 Z0 (Z5 .lss x12 x11) fun g=>
 Zk g
 (Bc x3 x10 x11 x12 g H0 H)
 (Bb H0 H):=(ZD (C:=cfg) [3,6,9,11,12,13] (Zm 0 (PA H0)) _ _).trans (by kernel_rfl)
theorem Ml:Ba x0 H0 H =
 Z0 (some ((.map H.length),H++[.map [] 0])) fun j=>
 Z0 (Zl (.slice 189) x0) fun g=>
 WJ j.1 x0 g (.int .i64 0) H0 j.2:=Za [3,6,9,11,12,13]
theorem Ld:WY [p0] H=D8 p0 H:=Be 38 [3,6,9,11,12,13] Tryz.func175
def Tz:Z4:=ZH 178 23 (sub (Z1 Tryz.f178) [1,1,1]) (Zi cfg 23 178 Tryz.f178 H0) [(3,x3)] H
def Ut:KL:=Zc (VC 178 23 Tryz.f178 [1,1,1]) (Zi cfg 23 178 Tryz.f178 H0)
theorem EC:ZU 23 (Ut H0):=Zx (C:=cfg) (kp:=cfg.keep 178) (sub (Z1 Tryz.f178) [1,1,1]) (ZB 178 Tryz.f178 H0)
def Ka:Z4:=ZH 178 23 (sub (Z1 Tryz.f178) [1,1,0,1,0,0,1,1,1]) (Zc (Yz 178 23 Tryz.f178 [1,1,0,1,0,0]) (Z6 0 (Ut H0))) [(0,x0),(3,x3),(5,x5)] H
def TA:Z4:=ZH 178 23 (sub (Z1 Tryz.f178) [1,1,0,1,0,0,1,1]) (Zc (Yz 178 23 Tryz.f178 [1,1,0,1,0,0]) (Z6 0 (Ut H0))) [(0,x0),(3,x3),(5,x5),(6,x6)] H
def Uu:Z4:=UH 178 23 (sub (Z1 Tryz.f178) [1,1,0,1,0,0]) (Z6 0 (Ut H0)) [(0,x0),(3,x3),(5,x5)] H
def Zce:Z4:=
 Uu p0 (.int .i64 0) (.int .i64 0) H H
theorem Ay:Tz x3 H0 H =
 some (x3,H):=Za [4,8,9]
theorem Dj:Ka x0 x3 x5 H0 H =
 Z0 (Z5 .add x5 (.int .i64 1)) fun g=>
 Uu x0 x3 g H0 H:=Za [4,8,9]
theorem Az:TA x0 x3 x5 x6 H0 H =
 Z0 (Z5 .mul x3 (.int .i64 10)) fun t9=>
 Z0 (Zl .string x0) fun g=>
 Z0 (Z5 .lss x5 g) fun j=>
 Zk j
 (Z0 (Zz x0 x5) fun u=>
 Z0 (Z5 .sub u (.int .u8 48)) fun w=>
 Z0 (Wl .i64 w) fun y=>
 Z0 (Z5 .add t9 y) fun z=>
 Ka x0 z x5 H0 H)
 (Ka x0 t9 x5 H0 H):=Za [4,8,9]
theorem Dk:Uu x0 x3 x5 H0 H =
 Z0 (Z5 .lss x5 (.int .i64 4)) fun g=>
 Zk g
 (TA x0 x3 x5 g H0 H)
 (Tz x3 H0 H):=(ZD (C:=cfg) [4,8,9] (Zm 0 (EC H0)) _ _).trans (by kernel_rfl)
theorem I6:KI [p0] H=Zce p0 H:=Be 23 [4,8,9] Tryz.func178
def ZcI:Z4:=ZH 184 8 (sub (Z1 Tryz.f184) [1,1]) (Zi cfg 8 184 Tryz.f184 H0) [(1,x1),(2,x2)] H
def Ac:Z4:=
 Z0 (ZO p0 H) fun u=>
 Z0 (some ((.ptr u.2.length 0),u.2++[.cells [(.str []),.nils,(.str []),(.str []),.nils,.nils]])) fun j=>
 Z0 (Z3 true 6 u.1 j.2) fun t3=>
 Z0 (Ze PU [t3] j.2) fun w=>
 Z0 (Z5 .neq w.1 (.int .i64 0)) fun t5=>
 Zk t5
 (Z0 (Ze DU [] w.2) fun y=>
 Z0 (Zf 6 j.1 y.1 y.2) fun g=>
 Z0 (Z3 true 6 j.1 g.2) fun z=>
 some (z,g.2))
 (ZcI u.1 j.1 H w.2)
theorem Zhd:ZcI x1 x2 H0 H =
 Z0 (Z3 true 6 x1 H) fun j=>
 Z0 (Zf 6 x2 j H) fun g=>
 Z0 (Z3 true 6 x2 g.2) fun u=>
 some (u,g.2):=Za [3]
theorem I5:D4 [p0] H=Ac p0 H:=Be 8 [3] Tryz.func184
def ZcC:Z4:=ZH 202 43 (sub (Z1 Tryz.f202) [1,1,1,1,1,1]) (Zi cfg 43 202 Tryz.f202 H0) [(1,x1)] H
def ZcB:Z4:=ZH 202 43 (sub (Z1 Tryz.f202) [1,1,1,1,1]) (Zi cfg 43 202 Tryz.f202 H0) [(1,x1)] H
def ZcA:Z4:=ZH 202 43 (sub (Z1 Tryz.f202) [1,1,1,1]) (Zi cfg 43 202 Tryz.f202 H0) [(1,x1)] H
def Rq:KL:=Zc (VC 202 43 Tryz.f202 [1,1,1,1]) (Zi cfg 43 202 Tryz.f202 H0)
theorem ZeO:ZU 43 (Rq H0):=Zx (C:=cfg) (kp:=cfg.keep 202) (sub (Z1 Tryz.f202) [1,1,1,1]) (ZB 202 Tryz.f202 H0)
def ZcE:Z4:=ZH 202 43 (sub (Z1 Tryz.f202) [1,1,1,0,1,0,0,1,1]) (Zc (Yz 202 43 Tryz.f202 [1,1,1,0,1,0,0]) (Z6 0 (Rq H0))) [(1,x1),(3,x3)] H
def ZcD:Z4:=ZH 202 43 (sub (Z1 Tryz.f202) [1,1,1,0,1,0,0,1]) (Zc (Yz 202 43 Tryz.f202 [1,1,1,0,1,0,0]) (Z6 0 (Rq H0))) [(1,x1),(3,x3)] H
def Rr:Z4:=UH 202 43 (sub (Z1 Tryz.f202) [1,1,1,0,1,0,0]) (Z6 0 (Rq H0)) [(1,x1),(3,x3)] H
def Zcz:Z4:=ZH 202 43 (sub (Z1 Tryz.f202) [1,1,1]) (Zi cfg 43 202 Tryz.f202 H0) [(1,x1)] H
def Zcy:Z4:=ZH 202 43 (sub (Z1 Tryz.f202) [1,1]) (Zi cfg 43 202 Tryz.f202 H0) [(1,x1)] H
def Zfb:Z4:=
 Z0 (ZO p0 H) fun g=>
 Z0 (Z7 0 g.1) fun t5=>
 Z0 (Z3 false 1 t5 g.2) fun u=>
 Z0 (Ze KH [u] g.2) fun j=>
 Z0 (Xv .not j.1) fun w=>
 Zk w
 (some ((.int .i64 4),j.2))
 (Zcy g.1 H j.2)
theorem Zha:ZcC x1 H0 H =
 Z0 (Z7 5 x1) fun j=>
 Z0 (Z3 false 1 j H) fun u=>
 Z0 (Ze Um [u] H) fun g=>
 some (g.1,g.2):=Za [3,5,7,8,10,12,15]
theorem Zh9:ZcB x1 H0 H =
 Z0 (Z7 4 x1) fun j=>
 Z0 (Z3 false 1 j H) fun u=>
 Z0 (Ze UQ [u] H) fun g=>
 Z0 (Z5 .neq g.1 (.int .i64 0)) fun w=>
 Zk w
 (some (g.1,g.2))
 (ZcC x1 H0 g.2):=Za [3,5,7,8,10,12,15]
theorem Zh8:ZcA x1 H0 H =
 Z0 (Z7 2 x1) fun j=>
 Z0 (Z3 false 1 j H) fun u=>
 Z0 (Zl .string u) fun w=>
 Z0 (Z5 .neq w (.int .i64 256)) fun g=>
 Z0 (Z8 g false (.tuple []) (Z7 3 x1)) fun y=>
 Z0 (Z8 g false (.tuple []) (Z3 false 1 y H)) fun z=>
 Z0 (Z8 g false (.tuple []) (Zl .string z)) fun A=>
 Z0 (Z8 g false (.tuple []) (Z5 .neq A (.int .i64 256))) fun B=>
 Z0 (Zj g (.bool true) B) fun C=>
 Zk C
 (some ((.int .i64 2),H))
 (ZcB x1 H0 H):=Za [3,5,7,8,10,12,15]
theorem Zhc:ZcE x1 x3 H0 H =
 Z0 (Z5 .add x3 (.int .i64 1)) fun g=>
 Rr x1 g H0 H:=Za [3,5,7,8,10,12,15]
theorem Zhb:ZcD x1 x3 H0 H =
 Z0 (Z7 1 x1) fun j=>
 Z0 (Z3 false 1 j H) fun u=>
 Z0 (Zn 1 u x3) fun w=>
 Z0 (Z3 false 1 w H) fun y=>
 Z0 (Ze D3 [y] H) fun g=>
 Z0 (Xv .not g.1) fun z=>
 Zk z
 (some ((.int .i64 2),g.2))
 (ZcE x1 x3 H0 g.2):=Za [3,5,7,8,10,12,15]
theorem CH:Rr x1 x3 H0 H =
 Z0 (Z5 .lss x3 (.int .i64 256)) fun g=>
 Zk g
 (ZcD x1 x3 H0 H)
 (ZcA x1 H0 H):=(ZD (C:=cfg) [3,5,7,8,10,12,15] (Zm 0 (ZeO H0)) _ _).trans (by kernel_rfl)
theorem Zh7:Zcz x1 H0 H =
 Rr x1 (.int .i64 0) H0 H:=Za [3,5,7,8,10,12,15]
theorem Zh6:Zcy x1 H0 H =
 Z0 (Z7 1 x1) fun t9=>
 Z0 (Z3 false 1 t9 H) fun g=>
 Z0 (Zl (.slice 3) g) fun j=>
 Z0 (Z5 .neq j (.int .i64 256)) fun u=>
 Zk u
 (some ((.int .i64 2),H))
 (Zcz x1 H0 H):=Za [3,5,7,8,10,12,15]
theorem ZiU:PU [p0] H=Zfb p0 H:=Be 43 [3,5,7,8,10,12,15] Tryz.func202
def Zfc:Z4:=
 Z0 (ZO p0 H) fun g=>
 Z0 (Z3 true 6 g.1 g.2) fun t5=>
 Z0 (Ze D4 [t5] g.2) fun j=>
 Z0 (Pf false 1 3 j.1) fun w=>
 Z0 (Ze LY [w,p1] j.2) fun u=>
 some (u.1,u.2)
theorem ZiV:Zfa [p0,p1] H=Zfc p0 p1 H:=Be 10 [] Tryz.func207
def ZaN:Z4:=ZH 213 59 (sub (Z1 Tryz.f213) [1,1,1]) (Zi cfg 59 213 Tryz.f213 H0) [] H
def DW:KL:=Zc (VC 213 59 Tryz.f213 [1,1,1]) (Zi cfg 59 213 Tryz.f213 H0)
theorem ZcG:ZU 59 (DW H0):=Zx (C:=cfg) (kp:=cfg.keep 213) (sub (Z1 Tryz.f213) [1,1,1]) (ZB 213 Tryz.f213 H0)
def M3:Z4:=ZH 213 59 (sub (Z1 Tryz.f213) [1,1,0,1,0,0,1,1]) (Zc (Yz 213 59 Tryz.f213 [1,1,0,1,0,0]) (Z6 0 (DW H0))) [(0,x0),(3,x3)] H
def M2:Z4:=ZH 213 59 (sub (Z1 Tryz.f213) [1,1,0,1,0,0,1]) (Zc (Yz 213 59 Tryz.f213 [1,1,0,1,0,0]) (Z6 0 (DW H0))) [(0,x0),(3,x3)] H
def DX:Z4:=UH 213 59 (sub (Z1 Tryz.f213) [1,1,0,1,0,0]) (Z6 0 (DW H0)) [(0,x0),(3,x3)] H
def ZaM:Z4:=ZH 213 59 (sub (Z1 Tryz.f213) [1,1]) (Zi cfg 59 213 Tryz.f213 H0) [(0,x0)] H
def Zcc:Z4:=
 Z0 (Zl .string p0) fun J=>
 Z0 (Z5 .eql J (.int .i64 0)) fun u=>
 Z0 (Z8 u false (.tuple []) (some p0)) fun t9=>
 Z0 (Z8 u false (.tuple []) (Zl .string t9)) fun w=>
 Z0 (Z8 u false (.tuple []) (Z5 .gtr w (.int .i64 32))) fun y=>
 Z0 (Zj u (.bool true) y) fun g=>
 Z0 (Z8 g false (.tuple []) (some p0)) fun z=>
 Z0 (Z8 g false (.tuple []) (Zz z (.int .i64 0))) fun A=>
 Z0 (Z8 g false (.tuple []) (Z5 .geq A (.int .u8 48))) fun B=>
 Z0 (Z8 g false (.tuple []) (some B)) fun j=>
 Z0 (Z8 j true (.tuple []) (some p0)) fun C=>
 Z0 (Z8 j true (.tuple []) (Zz C (.int .i64 0))) fun D=>
 Z0 (Z8 j true (.tuple []) (Z5 .leq D (.int .u8 57))) fun E=>
 Z0 (Z8 g false (.tuple []) (Zj j E (.bool false))) fun F=>
 Z0 (Zj g (.bool true) F) fun I=>
 Zk I
 (some ((.bool false),H))
 (ZaM p0 H H)
theorem ZfS:ZaN H0 H =
 some ((.bool true),H):=Za [3,5,6,9]
theorem ZfU:M3 x0 x3 H0 H =
 Z0 (Z5 .add x3 (.int .i64 1)) fun g=>
 DX x0 g H0 H:=Za [3,5,6,9]
theorem ZfT:M2 x0 x3 H0 H =
 Z0 (Zz x0 x3) fun g=>
 Z0 (Z5 .geq g (.int .u8 97)) fun u=>
 Z0 (Z8 u true (.tuple []) (some g)) fun A=>
 Z0 (Z8 u true (.tuple []) (Z5 .leq A (.int .u8 122))) fun B=>
 Z0 (Zj u B (.bool false)) fun t37=>
 Z0 (Z8 t37 false (.tuple []) (some g)) fun C=>
 Z0 (Z8 t37 false (.tuple []) (Z5 .geq C (.int .u8 65))) fun D=>
 Z0 (Z8 t37 false (.tuple []) (some D)) fun w=>
 Z0 (Z8 w true (.tuple []) (some g)) fun E=>
 Z0 (Z8 w true (.tuple []) (Z5 .leq E (.int .u8 90))) fun F=>
 Z0 (Z8 t37 false (.tuple []) (Zj w F (.bool false))) fun I=>
 Z0 (Zj t37 (.bool true) I) fun j=>
 Z0 (Z8 j false (.tuple []) (some g)) fun J=>
 Z0 (Z8 j false (.tuple []) (Z5 .geq J (.int .u8 48))) fun K=>
 Z0 (Z8 j false (.tuple []) (some K)) fun y=>
 Z0 (Z8 y true (.tuple []) (some g)) fun L=>
 Z0 (Z8 y true (.tuple []) (Z5 .leq L (.int .u8 57))) fun M=>
 Z0 (Z8 j false (.tuple []) (Zj y M (.bool false))) fun N=>
 Z0 (Zj j (.bool true) N) fun z=>
 Z0 (Z8 z false (.tuple []) (some g)) fun O=>
 Z0 (Z8 z false (.tuple []) (Z5 .eql O (.int .u8 95))) fun Q=>
 Z0 (Zj z (.bool true) Q) fun R=>
 Z0 (Xv .not R) fun S=>
 Zk S
 (some ((.bool false),H))
 (M3 x0 x3 H0 H):=Za [3,5,6,9]
theorem En:DX x0 x3 H0 H =
 Z0 (Zl .string x0) fun g=>
 Z0 (Z5 .lss x3 g) fun j=>
 Zk j
 (M2 x0 x3 H0 H)
 (ZaN H0 H):=(ZD (C:=cfg) [3,5,6,9] (Zm 0 (ZcG H0)) _ _).trans (by kernel_rfl)
theorem ZfR:ZaM x0 H0 H =
 DX x0 (.int .i64 0) H0 H:=Za [3,5,6,9]
theorem ZgW:KH [p0] H=Zcc p0 H:=Be 59 [3,5,6,9] Tryz.func213
def Zfd:Z4:=
 Z0 (Z5 .geq p0 (.int .i64 0)) fun t4=>
 Z0 (Z8 t4 true (.tuple []) (some p0)) fun g=>
 Z0 (Z8 t4 true (.tuple []) (Z5 .leq g (.int .i64 65535))) fun j=>
 Z0 (Zj t4 j (.bool false)) fun u=>
 some (u,H)
theorem ZiW:D3 [p0] H=Zfd p0 H:=Be 9 [] Tryz.func214
def Tu:Z4:=ZH 215 37 (sub (Z1 Tryz.f215) [1,1,1]) (Zi cfg 37 215 Tryz.f215 H0) [] H
def WQ:KL:=Zc (VC 215 37 Tryz.f215 [1,1,1]) (Zi cfg 37 215 Tryz.f215 H0)
theorem KU:ZU 37 (WQ H0):=Zx (C:=cfg) (kp:=cfg.keep 215) (sub (Z1 Tryz.f215) [1,1,1]) (ZB 215 Tryz.f215 H0)
def K9:Z4:=ZH 215 37 (sub (Z1 Tryz.f215) [1,1,0,1,0,0,1,1]) (Zc (Yz 215 37 Tryz.f215 [1,1,0,1,0,0]) (Z6 0 (WQ H0))) [(0,x0),(3,x3)] H
def WR:KL:=Zc (VC 215 37 Tryz.f215 [1,1,0,1,0,0,1,1]) (Zc (Yz 215 37 Tryz.f215 [1,1,0,1,0,0]) (Z6 0 (WQ H0)))
theorem Eo:ZU 37 (WR H0):=Zx (C:=cfg) (kp:=cfg.keep 215) (sub (Z1 Tryz.f215) [1,1,0,1,0,0,1,1]) (NQ (C:=cfg) (kp:=cfg.keep 215) (sub (Z1 Tryz.f215) [1,1,0,1,0,0]) (Zm 0 (KU H0)))
def Ty:Z4:=ZH 215 37 (sub (Z1 Tryz.f215) [1,1,0,1,0,0,1,0,0,1,1,0,0,1,1]) (Zc (Yz 215 37 Tryz.f215 [1,1,0,1,0,0,1,0,0,1,1,0,0]) (Z6 2 (Z6 1 (WR H0)))) [(0,x0),(3,x3),(4,x4)] H
def Tx:Z4:=ZH 215 37 (sub (Z1 Tryz.f215) [1,1,0,1,0,0,1,0,0,1,1,0,0,1]) (Zc (Yz 215 37 Tryz.f215 [1,1,0,1,0,0,1,0,0,1,1,0,0]) (Z6 2 (Z6 1 (WR H0)))) [(0,x0),(3,x3),(4,x4)] H
def Ur:Z4:=UH 215 37 (sub (Z1 Tryz.f215) [1,1,0,1,0,0,1,0,0,1,1,0,0]) (Z6 2 (Z6 1 (WR H0))) [(0,x0),(3,x3),(4,x4)] H
def Tw:Z4:=ZH 215 37 (sub (Z1 Tryz.f215) [1,1,0,1,0,0,1,0,0,1]) (Z6 1 (WR H0)) [(0,x0),(3,x3)] H
def Tv:Z4:=ZH 215 37 (sub (Z1 Tryz.f215) [1,1,0,1,0,0,1]) (Zc (Yz 215 37 Tryz.f215 [1,1,0,1,0,0]) (Z6 0 (WQ H0))) [(0,x0),(3,x3)] H
def Uq:Z4:=UH 215 37 (sub (Z1 Tryz.f215) [1,1,0,1,0,0]) (Z6 0 (WQ H0)) [(0,x0),(3,x3)] H
def Tt:Z4:=ZH 215 37 (sub (Z1 Tryz.f215) [1,1]) (Zi cfg 37 215 Tryz.f215 H0) [(0,x0)] H
def Nb:Z4:=
 Z0 (Zl (.slice 246) p0) fun g=>
 Z0 (Z5 .gtr g (.int .i64 24)) fun j=>
 Zk j
 (some ((.int .i64 3),H))
 (Tt p0 H H)
theorem Aj:Tu H0 H =
 some ((.int .i64 0),H):=Za [3,5,6,8,10,11,13]
theorem Al:K9 x0 x3 H0 H =
 Z0 (Z5 .add x3 (.int .i64 1)) fun g=>
 Uq x0 g H0 H:=Za [3,5,6,8,10,11,13]
theorem Ap:Ty x0 x3 x4 H0 H =
 Z0 (Z5 .add x4 (.int .i64 1)) fun g=>
 Ur x0 x3 g H0 H:=Za [3,5,6,8,10,11,13]
theorem Ao:Tx x0 x3 x4 H0 H =
 Z0 (Zn 5 x0 x4) fun g=>
 Z0 (Z7 0 g) fun j=>
 Z0 (Z3 false 1 j H) fun u=>
 Z0 (Zn 5 x0 x3) fun w=>
 Z0 (Z7 0 w) fun y=>
 Z0 (Z3 false 1 y H) fun z=>
 Z0 (Xb .eql u z) fun A=>
 Zk A
 (some ((.int .i64 6),H))
 (Ty x0 x3 x4 H0 H):=Za [3,5,6,8,10,11,13]
theorem De:Ur x0 x3 x4 H0 H =
 Z0 (Z5 .lss x4 x3) fun g=>
 Zk g
 (Tx x0 x3 x4 H0 H)
 (K9 x0 x3 H0 H):=(ZD (C:=cfg) [3,5,6,8,10,11,13] (Zm 2 (Zm 1 (Eo H0))) _ _).trans (by kernel_rfl)
theorem An:Tw x0 x3 H0 H =
 Ur x0 x3 (.int .i64 0) H0 H:=Za [3,5,6,8,10,11,13]
theorem Ak:Tv x0 x3 H0 H =
 Z0 (Zn 5 x0 x3) fun j=>
 Z0 (Z7 0 j) fun u=>
 Z0 (Z3 false 1 u H) fun w=>
 Z0 (Ze KH [w] H) fun g=>
 Z0 (Xv .not g.1) fun y=>
 Zk y
 (some ((.int .i64 4),g.2))
 (Tw x0 x3 H0 g.2):=Za [3,5,6,8,10,11,13]
theorem Dd:Uq x0 x3 H0 H =
 Z0 (Zl (.slice 246) x0) fun g=>
 Z0 (Z5 .lss x3 g) fun j=>
 Zk j
 (Tv x0 x3 H0 H)
 (Tu H0 H):=(ZD (C:=cfg) [3,5,6,8,10,11,13] (Zm 0 (KU H0)) _ _).trans (by kernel_rfl)
theorem Ai:Tt x0 H0 H =
 Uq x0 (.int .i64 0) H0 H:=Za [3,5,6,8,10,11,13]
theorem I4:UQ [p0] H=Nb p0 H:=Be 37 [3,5,6,8,10,11,13] Tryz.func215
def Rt:Z4:=ZH 216 46 (sub (Z1 Tryz.f216) [1,1,1]) (Zi cfg 46 216 Tryz.f216 H0) [] H
def Wi:KL:=Zc (VC 216 46 Tryz.f216 [1,1,1]) (Zi cfg 46 216 Tryz.f216 H0)
theorem Kh:ZU 46 (Wi H0):=Zx (C:=cfg) (kp:=cfg.keep 216) (sub (Z1 Tryz.f216) [1,1,1]) (ZB 216 Tryz.f216 H0)
def J5:Z4:=ZH 216 46 (sub (Z1 Tryz.f216) [1,1,0,1,0,0,1,1]) (Zc (Yz 216 46 Tryz.f216 [1,1,0,1,0,0]) (Z6 0 (Wi H0))) [(0,x0),(3,x3)] H
def Wj:KL:=Zc (VC 216 46 Tryz.f216 [1,1,0,1,0,0,1,1]) (Zc (Yz 216 46 Tryz.f216 [1,1,0,1,0,0]) (Z6 0 (Wi H0)))
theorem Lj:ZU 46 (Wj H0):=Zx (C:=cfg) (kp:=cfg.keep 216) (sub (Z1 Tryz.f216) [1,1,0,1,0,0,1,1]) (NQ (C:=cfg) (kp:=cfg.keep 216) (sub (Z1 Tryz.f216) [1,1,0,1,0,0]) (Zm 0 (Kh H0)))
def Rx:Z4:=ZH 216 46 (sub (Z1 Tryz.f216) [1,1,0,1,0,0,1,0,0,1,1,0,0,1,1]) (Zc (Yz 216 46 Tryz.f216 [1,1,0,1,0,0,1,0,0,1,1,0,0]) (Z6 2 (Z6 1 (Wj H0)))) [(0,x0),(3,x3),(4,x4)] H
def Rw:Z4:=ZH 216 46 (sub (Z1 Tryz.f216) [1,1,0,1,0,0,1,0,0,1,1,0,0,1]) (Zc (Yz 216 46 Tryz.f216 [1,1,0,1,0,0,1,0,0,1,1,0,0]) (Z6 2 (Z6 1 (Wj H0)))) [(0,x0),(3,x3),(4,x4)] H
def VG:Z4:=UH 216 46 (sub (Z1 Tryz.f216) [1,1,0,1,0,0,1,0,0,1,1,0,0]) (Z6 2 (Z6 1 (Wj H0))) [(0,x0),(3,x3),(4,x4)] H
def Rv:Z4:=ZH 216 46 (sub (Z1 Tryz.f216) [1,1,0,1,0,0,1,0,0,1]) (Z6 1 (Wj H0)) [(0,x0),(3,x3)] H
def Ru:Z4:=ZH 216 46 (sub (Z1 Tryz.f216) [1,1,0,1,0,0,1]) (Zc (Yz 216 46 Tryz.f216 [1,1,0,1,0,0]) (Z6 0 (Wi H0))) [(0,x0),(3,x3)] H
def VF:Z4:=UH 216 46 (sub (Z1 Tryz.f216) [1,1,0,1,0,0]) (Z6 0 (Wi H0)) [(0,x0),(3,x3)] H
def Rs:Z4:=ZH 216 46 (sub (Z1 Tryz.f216) [1,1]) (Zi cfg 46 216 Tryz.f216 H0) [(0,x0)] H
def To:Z4:=
 Z0 (Zl (.slice 189) p0) fun g=>
 Z0 (Z5 .gtr g (.int .i64 64)) fun j=>
 Zk j
 (some ((.int .i64 3),H))
 (Rs p0 H H)
theorem Cb:Rt H0 H =
 some ((.int .i64 0),H):=Za [3,5,6,8,10,11,13]
theorem Cd:J5 x0 x3 H0 H =
 Z0 (Z5 .add x3 (.int .i64 1)) fun g=>
 VF x0 g H0 H:=Za [3,5,6,8,10,11,13]
theorem Cg:Rx x0 x3 x4 H0 H =
 Z0 (Z5 .add x4 (.int .i64 1)) fun g=>
 VG x0 x3 g H0 H:=Za [3,5,6,8,10,11,13]
theorem Cf:Rw x0 x3 x4 H0 H =
 Z0 (Zn 2 x0 x4) fun t37=>
 Z0 (Z7 0 t37) fun g=>
 Z0 (Z3 false 1 g H) fun j=>
 Z0 (Zn 2 x0 x3) fun u=>
 Z0 (Z7 0 u) fun w=>
 Z0 (Z3 false 1 w H) fun y=>
 Z0 (Xb .eql j y) fun z=>
 Zk z
 (some ((.int .i64 6),H))
 (Rx x0 x3 x4 H0 H):=Za [3,5,6,8,10,11,13]
theorem GU:VG x0 x3 x4 H0 H =
 Z0 (Z5 .lss x4 x3) fun g=>
 Zk g
 (Rw x0 x3 x4 H0 H)
 (J5 x0 x3 H0 H):=(ZD (C:=cfg) [3,5,6,8,10,11,13] (Zm 2 (Zm 1 (Lj H0))) _ _).trans (by kernel_rfl)
theorem Ce:Rv x0 x3 H0 H =
 VG x0 x3 (.int .i64 0) H0 H:=Za [3,5,6,8,10,11,13]
theorem Cc:Ru x0 x3 H0 H =
 Z0 (Zn 2 x0 x3) fun u=>
 Z0 (Z7 0 u) fun w=>
 Z0 (Z3 false 1 w H) fun y=>
 Z0 (Zl .string y) fun z=>
 Z0 (Z5 .neq z (.int .i64 2)) fun g=>
 Z0 (Z8 g false (.tuple []) (some x0)) fun A=>
 Z0 (Z8 g false (.tuple []) (some x3)) fun B=>
 Z0 (Z8 g false (.tuple []) (Zn 2 A B)) fun C=>
 Z0 (Z8 g false (.tuple []) (Z7 1 C)) fun D=>
 Z0 (Z8 g false (.tuple []) (Z3 false 1 D H)) fun E=>
 Z0 (Z8 g false ((.tuple []),H) (Ze D3 [E] H)) fun j=>
 Z0 (Z8 g false (.tuple []) (Xv .not j.1)) fun F=>
 Z0 (Zj g (.bool true) F) fun I=>
 Zk I
 (some ((.int .i64 2),j.2))
 (Rv x0 x3 H0 j.2):=Za [3,5,6,8,10,11,13]
theorem GT:VF x0 x3 H0 H =
 Z0 (Zl (.slice 189) x0) fun g=>
 Z0 (Z5 .lss x3 g) fun j=>
 Zk j
 (Ru x0 x3 H0 H)
 (Rt H0 H):=(ZD (C:=cfg) [3,5,6,8,10,11,13] (Zm 0 (Kh H0)) _ _).trans (by kernel_rfl)
theorem Ca:Rs x0 H0 H =
 VF x0 (.int .i64 0) H0 H:=Za [3,5,6,8,10,11,13]
theorem Ab:Um [p0] H=To p0 H:=Be 46 [3,5,6,8,10,11,13] Tryz.func216
def ZaO:Z4:=ZH 219 23 (sub (Z1 Tryz.f219) [1,1,1]) (Zi cfg 23 219 Tryz.f219 H0) [(5,x5)] H
def DY:KL:=Zc (VC 219 23 Tryz.f219 [1,1,1]) (Zi cfg 23 219 Tryz.f219 H0)
theorem ZcH:ZU 23 (DY H0):=Zx (C:=cfg) (kp:=cfg.keep 219) (sub (Z1 Tryz.f219) [1,1,1]) (ZB 219 Tryz.f219 H0)
def ZaQ:Z4:=ZH 219 23 (sub (Z1 Tryz.f219) [1,1,0,1,0,0,1,1]) (Zc (Yz 219 23 Tryz.f219 [1,1,0,1,0,0]) (Z6 0 (DY H0))) [(0,x0),(1,x1),(5,x5),(6,x6)] H
def ZaP:Z4:=ZH 219 23 (sub (Z1 Tryz.f219) [1,1,0,1,0,0,1]) (Zc (Yz 219 23 Tryz.f219 [1,1,0,1,0,0]) (Z6 0 (DY H0))) [(0,x0),(1,x1),(5,x5),(6,x6)] H
def DZ:Z4:=UH 219 23 (sub (Z1 Tryz.f219) [1,1,0,1,0,0]) (Z6 0 (DY H0)) [(0,x0),(1,x1),(5,x5),(6,x6)] H
def Zcd:Z4:=
 DZ p0 p1 .nils (.int .i64 0) H H
theorem ZfV:ZaO x5 H0 H =
 Z0 (BI x5 H) fun g=>
 some (g,H):=Za [4,5,6]
theorem ZfX:ZaQ x0 x1 x5 x6 H0 H =
 Z0 (Z5 .add x6 (.int .i64 1)) fun g=>
 DZ x0 x1 x5 g H0 H:=Za [4,5,6]
theorem ZfW:ZaP x0 x1 x5 x6 H0 H =
 Z0 (Zz x1 x6) fun j=>
 Z0 (Zz x0 j) fun u=>
 Z0 ((ZA 1 [(0,u)] [(.int .u8 0)]).map (.vs 1 .clip)) fun w=>
 Z0 (Ym 1 1 x5 w H) fun g=>
 ZaQ x0 x1 g.1 x6 H0 g.2:=Za [4,5,6]
theorem Ep:DZ x0 x1 x5 x6 H0 H =
 Z0 (Zl .string x1) fun t9=>
 Z0 (Z5 .lss x6 t9) fun g=>
 Zk g
 (ZaP x0 x1 x5 x6 H0 H)
 (ZaO x5 H0 H):=(ZD (C:=cfg) [4,5,6] (Zm 0 (ZcH H0)) _ _).trans (by kernel_rfl)
theorem ZgX:LY [p0,p1] H=Zcd p0 p1 H:=Be 23 [4,5,6] Tryz.func219
end
end Go.Am
