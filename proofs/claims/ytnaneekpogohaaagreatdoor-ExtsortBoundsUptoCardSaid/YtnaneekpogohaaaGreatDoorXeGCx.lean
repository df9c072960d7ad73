/- The functions of the translation over the abstract machine -/
import Derived.Test.YtnaneekpogohaaaGreatDoorXeGx
namespace Go.Am
open Go.Proofs
set_option maxRecDepth 100000
noncomputable abbrev ZH (f n:Nat):=Yc cfg (Z9 cfg) (Y7 cfg (cfg.keep f) n) (cfg.keep f) n Zc Z7
noncomputable abbrev Uv (f n:Nat):=Y7 cfg (cfg.keep f) n
noncomputable section
abbrev Vx (f n:Nat)(F:Func)(p:List Nat):KL->AL->Hp->Z4:=fun k g H=>ZH f n (sub (Z1 F) p) k (ZW (cfg.keep f) (sub (Z1 F) p) g) H
abbrev YC (f n:Nat)(F:Func)(p:List Nat):KL->AL->Hp->Z4:=fun k g H=>Uv f n (sub (Z1 F) p) k (ZW (cfg.keep f) (sub (Z1 F) p) g) H
variable (p0 p1 p2 p3 p4 x0 x1 x2 x3 x4 x5 x6 x7 x8 x9 x10 x11 x12 x13 x16 x17 x18 x19 x24 x25 x26 x27 x28 x29 x30:AV)(H0 H:Hp)
def EH:Z4:=ZH 56 39 (sub (Z1 Tryz.f56) [1,1,1,1,1,1]) (Zh cfg 39 56 Tryz.f56 H0) [(9,x9)] H
def F2:Z4:=ZH 56 39 (sub (Z1 Tryz.f56) [1,1,1,1]) (Zh cfg 39 56 Tryz.f56 H0) [(2,x2),(3,x3),(4,x4),(5,x5)] H
def SJ:Z4:=
 Z0 (ZN p0 H) fun A=>
 Z0 (ZN p1 A.2) fun j=>
 Z0 (Z3 true 5 j.1 j.2) fun B=>
 Z0 (Zf Ve [B] j.2) fun z=>
 Z0 (Ze 5 j.1 z.1 z.2) fun u=>
 Z0 (Z3 true 6 A.1 u.2) fun C=>
 Z0 (Z3 true 5 j.1 u.2) fun D=>
 Z0 (Zf Wv [C,D,p2,p3] u.2) fun g=>
 Z0 (Z5 .neq g.1 (.int .i64 0)) fun w=>
 Z0 (Z8 w false (.tuple []) (Z6 4 j.1)) fun E=>
 Z0 (Z8 w false (.tuple []) (Z3 false 1 E g.2)) fun F=>
 Z0 (Zj w (.bool true) F) fun y=>
 Z0 (Z8 y false (.tuple []) (Z6 3 j.1)) fun I=>
 Z0 (Z8 y false (.tuple []) (Z3 false 1 I g.2)) fun J=>
 Z0 (Zj y (.bool true) J) fun K=>
 Zk K
 (some (g.1,g.2))
 (F2 p2 p3 A.1 j.1 H g.2)
theorem ZaX:EH x9 H0 H =
 some (x9,H):=Za [5,8]
theorem ZaW:F2 x2 x3 x4 x5 H0 H =
 Z0 (Z3 true 6 x4 H) fun j=>
 Z0 (Zf U0 [j,x2,x3] H) fun g=>
 Z0 (Z6 2 x5) fun u=>
 Z0 (Z3 false 1 u g.2) fun w=>
 Z0 (Z5 .and w (.int .i64 2)) fun y=>
 Z0 (Z5 .neq y (.int .i64 0)) fun z=>
 Zk z
 (Z0 (Xk .neg g.1) fun t37=>
 some (t37,g.2))
 (EH g.1 H0 g.2):=Za [5,8]
theorem Zby:UG [p0,p1,p2,p3] H=SJ p0 p1 p2 p3 H:=Be 39 [5,8] Tryz.func56
def N9:Z4:=ZH 59 55 (sub (Z1 Tryz.f59) [1,1,1,1]) (Zh cfg 55 59 Tryz.f59 H0) [] H
def Vb:KL:=Zc (Vx 59 55 Tryz.f59 [1,1,1,1]) (Zh cfg 55 59 Tryz.f59 H0)
theorem SC:ZX 55 (Vb H0):=Zx (C:=cfg) (kp:=cfg.keep 59) (sub (Z1 Tryz.f59) [1,1,1,1]) (ZA 59 Tryz.f59 H0)
def Nb:Z4:=ZH 59 55 (sub (Z1 Tryz.f59) [1,1,1,0,1,0,0,1,1,1]) (Zc (YC 59 55 Tryz.f59 [1,1,1,0,1,0,0]) (Z7 0 (Vb H0))) [(2,x2),(3,x3),(4,x4),(5,x5),(26,x26),(27,x27),(28,x28)] H
def Zdl:KL:=Zc (Vx 59 55 Tryz.f59 [1,1,1,0,1,0,0,1,1,1]) (Zc (YC 59 55 Tryz.f59 [1,1,1,0,1,0,0]) (Z7 0 (Vb H0)))
def Q2:Z4:=ZH 59 55 (sub (Z1 Tryz.f59) [1,1,1,0,1,0,0,1,1,0,0,1,1,1]) (Z7 1 (Zdl H0)) [(2,x2),(3,x3),(4,x4),(5,x5),(10,x10),(11,x11),(26,x26),(27,x27),(28,x28)] H
def Na:Z4:=ZH 59 55 (sub (Z1 Tryz.f59) [1,1,1,0,1,0,0,1,1]) (Zc (YC 59 55 Tryz.f59 [1,1,1,0,1,0,0]) (Z7 0 (Vb H0))) [(2,x2),(3,x3),(4,x4),(5,x5),(26,x26),(27,x27),(28,x28),(29,x29)] H
def Q3:Z4:=Uv 59 55 (sub (Z1 Tryz.f59) [1,1,1,0,1,0,0]) (Z7 0 (Vb H0)) [(2,x2),(3,x3),(4,x4),(5,x5),(26,x26),(27,x27),(28,x28)] H
def N8:Z4:=ZH 59 55 (sub (Z1 Tryz.f59) [1,1,1]) (Zh cfg 55 59 Tryz.f59 H0) [(2,x2),(3,x3),(4,x4),(5,x5)] H
def M4:Z4:=
 Z0 (ZN p0 H) fun y=>
 Z0 (ZN p1 y.2) fun j=>
 Z0 (Z3 true 5 j.1 j.2) fun z=>
 Z0 (Zf Ve [z] j.2) fun u=>
 Z0 (Ze 5 j.1 u.1 u.2) fun g=>
 Z0 (Z6 0 j.1) fun A=>
 Z0 (Z3 false 1 A g.2) fun B=>
 Z0 (Zl (.slice 119) B) fun C=>
 Z0 (Z5 .eql C (.int .i64 0)) fun D=>
 Zk D
 (Z0 (Z3 true 6 y.1 g.2) fun E=>
 Z0 (Z6 2 j.1) fun F=>
 Z0 (Z3 false 1 F g.2) fun I=>
 Z0 (Zf UH [E,I,p2,p3] g.2) fun w=>
 some (w.1,w.2))
 (N8 p2 p3 y.1 j.1 H g.2)
theorem Ih:N9 H0 H =
 some ((.int .i64 0),H):=Za [4,6,10,13,14]
theorem Ij:Nb x2 x3 x4 x5 x26 x27 x28 H0 H =
 Z0 (Z5 .add x28 (.int .i64 1)) fun g=>
 Q3 x2 x3 x4 x5 x26 x27 g H0 H:=Za [4,6,10,13,14]
theorem Ik:Q2 x2 x3 x4 x5 x10 x11 x26 x27 x28 H0 H =
 WS x4 H fun z4 J=>
 WS x5 J fun z5 K=>
 WS x10 K fun y g=>
 Z0 (Wf true 6 z4) fun z=>
 Z0 (Z3 true 5 y g) fun A=>
 Z0 (Z6 1 z5) fun B=>
 Z0 (Z3 false 1 B g) fun C=>
 Z0 (Qi [x2,A,C] g) fun u=>
 Z0 (Wf true 5 y) fun D=>
 Z0 (Z6 1 z5) fun E=>
 Z0 (Wf false 1 E) fun F=>
 Z0 (Qi [x3,D,F] u.2) fun w=>
 Z0 (Zf UH [z,x11,u.1,w.1] w.2) fun j=>
 Z0 (Z5 .neq j.1 (.int .i64 0)) fun I=>
 Zk I
 (some (j.1,j.2))
 (Nb x2 x3 z4 z5 x26 x27 x28 H0 j.2):=Za [4,6,10,13,14]
theorem Ii:Na x2 x3 x4 x5 x26 x27 x28 x29 H0 H =
 Z0 (Zp 5 x26 x28) fun w=>
 Z0 (Z3 true 5 w H) fun y=>
 Z0 (some ((.ptr H.length 0),H++[.cells [(.int .i64 0),(.int .i64 0),(.int .i64 0),(.int .i64 0),(.int .i64 0)]])) fun j=>
 Z0 (Ze 5 j.1 y j.2) fun g=>
 Z0 (Z6 4 j.1) fun z=>
 Z0 (Z3 false 1 z g.2) fun u=>
 Z0 (Z5 .eql u (.int .i64 0)) fun A=>
 Zk A
 (Z0 (Z6 2 x5) fun B=>
 Z0 (Z3 false 1 B g.2) fun t37=>
 Q2 x2 x3 x4 x5 j.1 t37 x26 x27 x28 H0 g.2)
 (Q2 x2 x3 x4 x5 j.1 u x26 x27 x28 H0 g.2):=Za [4,6,10,13,14]
theorem Ft:Q3 x2 x3 x4 x5 x26 x27 x28 H0 H =
 Z0 (Z5 .lss x28 x27) fun g=>
 Zk g
 (Na x2 x3 x4 x5 x26 x27 x28 g H0 H)
 (N9 H0 H):=(ZD (C:=cfg) [4,6,10,13,14] (Zm 0 (SC H0)) _ _).trans (by kernel_rfl)
theorem Ig:N8 x2 x3 x4 x5 H0 H =
 Z0 (Z6 0 x5) fun j=>
 Z0 (Z3 false 1 j H) fun g=>
 Z0 (Zl (.slice 119) g) fun u=>
 Q3 x2 x3 x4 x5 g u (.int .i64 0) H0 H:=Za [4,6,10,13,14]
theorem Iw:Wv [p0,p1,p2,p3] H=M4 p0 p1 p2 p3 H:=Be 55 [4,6,10,13,14] Tryz.func59
def EQ:Z4:=ZH 86 8 (sub (Z1 Tryz.f86) [1,1]) (Zh cfg 8 86 Tryz.f86 H0) [(1,x1),(2,x2)] H
def FS:Z4:=
 Z0 (ZN p0 H) fun u=>
 Z0 (some ((.ptr u.2.length 0),u.2++[.cells [.nils,(.int .i64 0),(.int .i64 0),(.bool false),(.bool false)]])) fun j=>
 Z0 (Z3 true 5 u.1 j.2) fun t3=>
 Z0 (Zf Wb [t3] j.2) fun w=>
 Z0 (Z5 .neq w.1 (.int .i64 0)) fun t5=>
 Zk t5
 (Z0 ((Xj [(1,1,(.int .i64 (-1)))] [.nils,(.int .i64 0),(.int .i64 0),(.bool false),(.bool false)]).map .agg) fun y=>
 Z0 (Ze 5 j.1 y w.2) fun g=>
 Z0 (Z3 true 5 j.1 g.2) fun z=>
 some (z,g.2))
 (EQ u.1 j.1 H w.2)
theorem Zbb:EQ x1 x2 H0 H =
 Z0 (Z3 true 5 x1 H) fun j=>
 Z0 (Ze 5 x2 j H) fun g=>
 Z0 (Z3 true 5 x2 g.2) fun u=>
 some (u,g.2):=Za [3]
theorem PG:Ve [p0] H=FS p0 H:=Be 8 [3] Tryz.func86
def Mh:Z4:=ZH 87 60 (sub (Z1 Tryz.f87) [1,1,1,1,1,1,1]) (Zh cfg 60 87 Tryz.f87 H0) [(1,x1),(2,x2)] H
def Mg:Z4:=ZH 87 60 (sub (Z1 Tryz.f87) [1,1,1,1,1,1]) (Zh cfg 60 87 Tryz.f87 H0) [(1,x1),(2,x2),(8,x8),(9,x9)] H
def Mf:Z4:=ZH 87 60 (sub (Z1 Tryz.f87) [1,1,1,1,1]) (Zh cfg 60 87 Tryz.f87 H0) [(1,x1),(2,x2),(8,x8),(9,x9)] H
def Vv:KL:=Zc (Vx 87 60 Tryz.f87 [1,1,1,1,1]) (Zh cfg 60 87 Tryz.f87 H0)
theorem HV:ZX 60 (Vv H0):=Zx (C:=cfg) (kp:=cfg.keep 87) (sub (Z1 Tryz.f87) [1,1,1,1,1]) (ZA 87 Tryz.f87 H0)
def Mj:Z4:=ZH 87 60 (sub (Z1 Tryz.f87) [1,1,1,1,0,1,0,0,1,1,1]) (Zc (YC 87 60 Tryz.f87 [1,1,1,1,0,1,0,0]) (Z7 0 (Vv H0))) [(1,x1),(2,x2),(8,x8),(9,x9),(24,x24),(25,x25)] H
def Ze5:KL:=Zc (Vx 87 60 Tryz.f87 [1,1,1,1,0,1,0,0,1,1,1]) (Zc (YC 87 60 Tryz.f87 [1,1,1,1,0,1,0,0]) (Z7 0 (Vv H0)))
def Mk:Z4:=ZH 87 60 (sub (Z1 Tryz.f87) [1,1,1,1,0,1,0,0,1,1,0,0,1,1]) (Z7 1 (Ze5 H0)) [(1,x1),(2,x2),(8,x8),(9,x9),(10,x10),(24,x24),(25,x25)] H
def Mi:Z4:=ZH 87 60 (sub (Z1 Tryz.f87) [1,1,1,1,0,1,0,0,1,1]) (Zc (YC 87 60 Tryz.f87 [1,1,1,1,0,1,0,0]) (Z7 0 (Vv H0))) [(1,x1),(2,x2),(8,x8),(9,x9),(24,x24),(25,x25),(26,x26)] H
def Qr:Z4:=Uv 87 60 (sub (Z1 Tryz.f87) [1,1,1,1,0,1,0,0]) (Z7 0 (Vv H0)) [(1,x1),(2,x2),(8,x8),(9,x9),(24,x24),(25,x25)] H
def Ly:Z4:=
 Z0 (ZN p0 H) fun w=>
 Z0 (Z3 true 6 w.1 w.2) fun A=>
 Z0 (Zf VU [A] w.2) fun u=>
 Z0 (Ze 6 w.1 u.1 u.2) fun z=>
 WS w.1 z.2 fun z3 E=>
 Z0 (some (.fn (.func 108) [] [z3])) fun y=>
 Z0 (Xv cfg (Z9 cfg) y [p1] E) fun g=>
 Z0 (Yn cfg (Z9 cfg) y [p2] g.2) fun j=>
 Z0 (Zl (.slice 3) g.1) fun B=>
 Z0 (Zl (.slice 3) j.1) fun C=>
 Z0 (UJ B C) fun D=>
 Qr p1 p2 g.1 j.1 D (.int .i64 0) H j.2
theorem Ou:Mh x1 x2 H0 H =
 Z0 (Zf Bp [x1,x2] H) fun g=>
 some (g.1,g.2):=Za [6,9,11,12,14,16]
theorem Ot:Mg x1 x2 x8 x9 H0 H =
 Z0 (Zl (.slice 3) x8) fun g=>
 Z0 (Zl (.slice 3) x9) fun j=>
 Z0 (Z5 .gtr g j) fun u=>
 Zk u
 (some ((.int .i64 1),H))
 (Mh x1 x2 H0 H):=Za [6,9,11,12,14,16]
theorem Oq:Mf x1 x2 x8 x9 H0 H =
 Z0 (Zl (.slice 3) x8) fun g=>
 Z0 (Zl (.slice 3) x9) fun j=>
 Z0 (Z5 .lss g j) fun u=>
 Zk u
 (some ((.int .i64 (-1)),H))
 (Mg x1 x2 x8 x9 H0 H):=Za [6,9,11,12,14,16]
theorem Ow:Mj x1 x2 x8 x9 x24 x25 H0 H =
 Z0 (Z5 .add x25 (.int .i64 1)) fun g=>
 Qr x1 x2 x8 x9 x24 g H0 H:=Za [6,9,11,12,14,16]
theorem Ox:Mk x1 x2 x8 x9 x10 x24 x25 H0 H =
 Z0 (Zp 1 x8 x10) fun g=>
 Z0 (Z3 false 1 g H) fun j=>
 Z0 (Zp 1 x9 x10) fun u=>
 Z0 (Z3 false 1 u H) fun w=>
 Z0 (Z5 .gtr j w) fun y=>
 Zk y
 (some ((.int .i64 1),H))
 (Mj x1 x2 x8 x9 x24 x25 H0 H):=Za [6,9,11,12,14,16]
theorem Ov:Mi x1 x2 x8 x9 x24 x25 x26 H0 H =
 Z0 (Zp 1 x8 x25) fun g=>
 Z0 (Z3 false 1 g H) fun j=>
 Z0 (Zp 1 x9 x25) fun u=>
 Z0 (Z3 false 1 u H) fun w=>
 Z0 (Z5 .lss j w) fun y=>
 Zk y
 (some ((.int .i64 (-1)),H))
 (Mk x1 x2 x8 x9 x25 x24 x25 H0 H):=Za [6,9,11,12,14,16]
theorem RC:Qr x1 x2 x8 x9 x24 x25 H0 H =
 Z0 (Z5 .lss x25 x24) fun g=>
 Zk g
 (Mi x1 x2 x8 x9 x24 x25 g H0 H)
 (Mf x1 x2 x8 x9 H0 H):=(ZD (C:=cfg) [6,9,11,12,14,16] (Zm 0 (HV H0)) _ _).trans (by kernel_rfl)
theorem Zaz:U0 [p0,p1,p2] H=Ly p0 p1 p2 H:=Be 60 [6,9,11,12,14,16] Tryz.func87
def F8:Z4:=ZH 88 50 (sub (Z1 Tryz.f88) [1,1,1,1]) (Zh cfg 50 88 Tryz.f88 H0) [(4,x4),(5,x5),(6,x6),(7,x7),(9,x9)] H
def Jx:Z4:=ZH 88 50 (sub (Z1 Tryz.f88) [1,1,1]) (Zh cfg 50 88 Tryz.f88 H0) [(4,x4),(5,x5),(6,x6),(7,x7),(9,x9)] H
def SM:Z4:=
 Z0 (ZN p0 H) fun u=>
 Z0 (ZN p1 u.2) fun j=>
 Z0 (ZN p2 j.2) fun w=>
 Z0 (ZN p3 w.2) fun g=>
 Z0 (Z3 false 1 j.1 g.2) fun y=>
 Z0 (Z5 .and y (.int .i64 2)) fun z=>
 Z0 (Z5 .neq z (.int .i64 0)) fun A=>
 Zk A
 (Jx u.1 j.1 w.1 g.1 (.int .i64 (-1)) H g.2)
 (Jx u.1 j.1 w.1 g.1 (.int .i64 1) H g.2)
theorem Zba:F8 x4 x5 x6 x7 x9 H0 H =
 Z0 (some (.fn (.func 114) [] [x5,x6,x7])) fun j=>
 Z0 (Yn cfg (Z9 cfg) j [(.int .i64 8),(.fn (.func 115) [] [])] H) fun w=>
 Z0 (Yn cfg (Z9 cfg) j [(.int .i64 16),(.fn (.func 117) [] [])] w.2) fun y=>
 WS x4 y.2 fun z4 E=>
 Z0 (some (.fn (.func 118) [] [z4])) fun z=>
 Z0 (Yn cfg (Z9 cfg) j [(.int .i64 4),z] E) fun g=>
 Z0 (Z3 true 6 z4 g.2) fun A=>
 Z0 (Z3 false 1 x6 g.2) fun B=>
 Z0 (Z3 false 1 x7 g.2) fun C=>
 Z0 (Zf U0 [A,B,C] g.2) fun u=>
 Z0 (Z5 .mul x9 u.1) fun D=>
 some (D,u.2):=Za [4,8]
theorem Zb9:Jx x4 x5 x6 x7 x9 H0 H =
 Z0 (Z3 false 1 x5 H) fun w=>
 Z0 (Z5 .and w (.int .i64 1)) fun y=>
 Z0 (Z5 .neq y (.int .i64 0)) fun z=>
 Zk z
 (Z0 (Z3 false 1 x6 H) fun A=>
 Z0 (Zf QV [A] H) fun g=>
 Z0 (ZQ g.1 0) fun B=>
 Z0 (ZQ g.1 1) fun F=>
 Z0 (Z3 false 1 x7 g.2) fun C=>
 Z0 (Zf QV [C] g.2) fun j=>
 Z0 (ZQ j.1 0) fun D=>
 Z0 (ZQ j.1 1) fun I=>
 Z0 (Zf TE [B,D] j.2) fun u=>
 Z0 (Z5 .mul x9 u.1) fun E=>
 some (E,u.2))
 (F8 x4 x5 x6 x7 x9 H0 H):=Za [4,8]
theorem ZbB:UH [p0,p1,p2,p3] H=SM p0 p1 p2 p3 H:=Be 50 [4,8] Tryz.func88
def CO:Z4:=ZH 107 16 (sub (Z1 Tryz.f107) [1,1]) (Zh cfg 16 107 Tryz.f107 H0) [(1,x1),(2,x2)] H
def TF:Z4:=
 Z0 (ZN p0 H) fun u=>
 Z0 (some ((.ptr u.2.length 0),u.2++[.cells [(.str []),.nils,(.str []),(.str []),.nils,.nils]])) fun j=>
 Z0 (Z3 true 6 u.1 j.2) fun t4=>
 Z0 (Zf G4 [t4] j.2) fun w=>
 Z0 (Z5 .neq w.1 (.int .i64 0)) fun z=>
 Zk z
 (Z0 (Zf Ln [] w.2) fun y=>
 Z0 (Ze 6 j.1 y.1 y.2) fun g=>
 Z0 (Z3 true 6 j.1 g.2) fun A=>
 some (A,g.2))
 (CO u.1 j.1 H w.2)
theorem Zda:CO x1 x2 H0 H =
 Z0 (Rf 1 8 false (.int .i64 0) (.int .i64 256) (.int .i64 256) H) fun u=>
 Z0 (Z6 1 x1) fun y=>
 Z0 (Z3 false 1 y u.2) fun z=>
 Z0 (C0 1 u.1 z u.2) fun w=>
 Z0 (Z6 1 x1) fun A=>
 Z0 (Ze 1 A u.1 w.2) fun j=>
 Z0 (Z3 true 6 x1 j.2) fun B=>
 Z0 (Ze 6 x2 B j.2) fun g=>
 Z0 (Z3 true 6 x2 g.2) fun C=>
 some (C,g.2):=Za [3]
theorem M3:VU [p0] H=TF p0 H:=Be 16 [3] Tryz.func107
def PD:Z4:=
 Z0 (some ((.ptr H.length 0),H++[.cells [.nils]])) fun g=>
 Z0 (Z3 true 6 p1 g.2) fun t5=>
 Z0 (some (.fn (.func 110) [] [g.1])) fun u=>
 Z0 (Nl [t5,p0,u] g.2) fun j=>
 Z0 (Z3 false 1 g.1 j.2) fun t9=>
 some (t9,j.2)
theorem Au:UF [p0,p1] H=PD p0 p1 H:=Be 10 [] Tryz.func108
def AU:Z4:=ZH 109 75 (sub (Z1 Tryz.f109) [1,1,1,1,0,0,1,0,1,1,1]) (Z7 3 (Zc (YC 109 75 Tryz.f109 [1,1,1,1,0,0]) (Z7 2 (Zh cfg 75 109 Tryz.f109 H0)))) [(1,x1),(2,x2),(3,x3),(6,x6),(9,x9),(10,x10)] H
def QK:Z4:=ZH 109 75 (sub (Z1 Tryz.f109) [1,1,1,1,0,0,1,0,1,1]) (Z7 3 (Zc (YC 109 75 Tryz.f109 [1,1,1,1,0,0]) (Z7 2 (Zh cfg 75 109 Tryz.f109 H0)))) [(1,x1),(2,x2),(3,x3),(6,x6),(9,x9),(10,x10),(11,x11)] H
def AS:Z4:=ZH 109 75 (sub (Z1 Tryz.f109) [1,1,1,1,0,0,1]) (Zc (YC 109 75 Tryz.f109 [1,1,1,1,0,0]) (Z7 2 (Zh cfg 75 109 Tryz.f109 H0))) [(1,x1),(2,x2),(3,x3),(6,x6),(9,x9)] H
def Gf:Z4:=Uv 109 75 (sub (Z1 Tryz.f109) [1,1,1,1,0,0]) (Z7 2 (Zh cfg 75 109 Tryz.f109 H0)) [(1,x1),(2,x2),(3,x3),(6,x6),(9,x9)] H
def P2:Z4:=ZH 109 75 (sub (Z1 Tryz.f109) [1,1,1]) (Zh cfg 75 109 Tryz.f109 H0) [(1,x1),(2,x2),(3,x3),(6,x6)] H
def Ge:KL:=Zc (Vx 109 75 Tryz.f109 [1,1,1]) (Zh cfg 75 109 Tryz.f109 H0)
theorem ZaK:ZX 75 (Ge H0):=Zx (C:=cfg) (kp:=cfg.keep 109) (sub (Z1 Tryz.f109) [1,1,1]) (ZA 109 Tryz.f109 H0)
def AX:Z4:=ZH 109 75 (sub (Z1 Tryz.f109) [1,1,0,1,0,0,1,1,1]) (Zc (YC 109 75 Tryz.f109 [1,1,0,1,0,0]) (Z7 0 (Ge H0))) [(1,x1),(2,x2),(3,x3),(6,x6),(16,x16),(17,x17),(18,x18)] H
def AW:Z4:=ZH 109 75 (sub (Z1 Tryz.f109) [1,1,0,1,0,0,1,1]) (Zc (YC 109 75 Tryz.f109 [1,1,0,1,0,0]) (Z7 0 (Ge H0))) [(1,x1),(2,x2),(3,x3),(6,x6),(16,x16),(17,x17),(18,x18),(19,x19)] H
def Gg:Z4:=Uv 109 75 (sub (Z1 Tryz.f109) [1,1,0,1,0,0]) (Z7 0 (Ge H0)) [(1,x1),(2,x2),(3,x3),(6,x6),(16,x16),(17,x17),(18,x18)] H
def OW:Z4:=
 Z0 (ZN p0 H) fun u=>
 Z0 (some ((.map u.2.length),u.2++[.map [] 0])) fun g=>
 Z0 (Z6 5 u.1) fun w=>
 Z0 (Z3 false 1 w g.2) fun j=>
 Z0 (Zl (.slice 189) j) fun y=>
 Gg p1 p2 u.1 g.1 j y (.int .i64 0) H g.2
theorem Mm:AU x1 x2 x3 x6 x9 x10 H0 H =
 Z0 (Zl .string x10) fun g=>
 Z0 (Z5 .add x9 g) fun j=>
 Gf x1 x2 x3 x6 j H0 H:=Za [4,6,7,9,14,15]
theorem Ml:QK x1 x2 x3 x6 x9 x10 x11 H0 H =
 Z0 (Yn cfg (Z9 cfg) x2 [x10,x11] H) fun g=>
 Z0 (Xk .not g.1) fun t70=>
 Zk t70
 (some ((.tuple []),g.2))
 (AU x1 x2 x3 x6 x9 x10 H0 g.2):=Za [4,6,7,9,14,15]
theorem Ze7:AS x1 x2 x3 x6 x9 H0 H =
 Z0 (Z5 .add x9 (.int .i64 1)) fun w=>
 Z0 (Yk x1 (some x9) (some w) none) fun g=>
 Z0 (Z6 1 x3) fun t37=>
 Z0 (Z3 false 1 t37 H) fun y=>
 Z0 (Zz x1 x9) fun z=>
 Z0 (Zp 1 y z) fun A=>
 Z0 (Z3 false 1 A H) fun j=>
 Z0 (Z5 .add x9 (.int .i64 2)) fun B=>
 Z0 (Zl .string x1) fun C=>
 Z0 (Z5 .leq B C) fun D=>
 Zk D
 (Z0 (Z5 .add x9 (.int .i64 2)) fun E=>
 Z0 (Yk x1 (some x9) (some E) none) fun F=>
 Z0 (Ye .string (.int .i64 0) true x6 F H) fun u=>
 Z0 (ZQ u 0) fun I=>
 Z0 (ZQ u 1) fun J=>
 Zk J
 (Z0 (Z5 .add x9 (.int .i64 2)) fun K=>
 Z0 (Yk x1 (some x9) (some K) none) fun L=>
 QK x1 x2 x3 x6 x9 L I H0 H)
 (QK x1 x2 x3 x6 x9 g j H0 H))
 (QK x1 x2 x3 x6 x9 g j H0 H):=Za [4,6,7,9,14,15]
theorem BE:Gf x1 x2 x3 x6 x9 H0 H =
 Z0 (Zl .string x1) fun g=>
 Z0 (Z5 .lss x9 g) fun j=>
 Zk j
 (AS x1 x2 x3 x6 x9 H0 H)
 (some ((.tuple []),H)):=(ZD (C:=cfg) [4,6,7,9,14,15] (Zm 2 (ZA 109 Tryz.f109 H0)) _ _).trans (by kernel_rfl)
theorem Ze6:P2 x1 x2 x3 x6 H0 H =
 Gf x1 x2 x3 x6 (.int .i64 0) H0 H:=Za [4,6,7,9,14,15]
theorem Ze9:AX x1 x2 x3 x6 x16 x17 x18 H0 H =
 Z0 (Z5 .add x18 (.int .i64 1)) fun g=>
 Gg x1 x2 x3 x6 x16 x17 g H0 H:=Za [4,6,7,9,14,15]
theorem Ze8:AW x1 x2 x3 x6 x16 x17 x18 x19 H0 H =
 Z0 (Zp 2 x16 x18) fun w=>
 Z0 (Z3 true 2 w H) fun y=>
 Z0 (some ((.ptr H.length 0),H++[.cells [(.str []),(.int .i64 0)]])) fun u=>
 Z0 (Ze 2 u.1 y u.2) fun g=>
 Z0 (Z6 0 u.1) fun z=>
 Z0 (Z3 false 1 z g.2) fun A=>
 Z0 (Z6 1 u.1) fun B=>
 Z0 (Z3 false 1 B g.2) fun C=>
 Z0 (Xr .string x6 A C g.2) fun j=>
 AX x1 x2 x3 x6 x16 x17 x18 H0 j.2:=Za [4,6,7,9,14,15]
theorem Mn:Gg x1 x2 x3 x6 x16 x17 x18 H0 H =
 Z0 (Z5 .lss x18 x17) fun g=>
 Zk g
 (AW x1 x2 x3 x6 x16 x17 x18 g H0 H)
 (P2 x1 x2 x3 x6 H0 H):=(ZD (C:=cfg) [4,6,7,9,14,15] (Zm 0 (ZaK H0)) _ _).trans (by kernel_rfl)
theorem ZeZ:Nl [p0,p1,p2] H=OW p0 p1 p2 H:=Be 75 [4,6,7,9,14,15] Tryz.func109
def FQ (p0 p1 p2:AV)(H:Hp):Z4:=
 Z0 (Z3 false 1 p2 H) fun u=>
 Z0 ((ZE 1 [(0,p1)] [(.int .i64 0)]).map (.vs 1 .clip)) fun w=>
 Z0 (Ym 1 8 u w H) fun j=>
 Z0 (Ze 1 p2 j.1 j.2) fun g=>
 some ((.bool true),g.2)
theorem Sb:QX [p0,p1,p2] H=FQ p0 p1 p2 H:=Be 10 [] Tryz.func110
def M9:Z4:=
 Z0 (Zf XU [p0,p1] H) fun g=>
 some (g.1,g.2)
theorem IB:Bp [p0,p1] H=M9 p0 p1 H:=Be 8 [] Tryz.func111
def Bz:Z4:=ZH 112 116 (sub (Z1 Tryz.f112) [1,1,1,1,1,1,1,1,1,1,1]) (Zh cfg 116 112 Tryz.f112 H0) [(9,x9),(11,x11)] H
def By:Z4:=ZH 112 116 (sub (Z1 Tryz.f112) [1,1,1,1,1,1,1,1,1]) (Zh cfg 116 112 Tryz.f112 H0) [(5,x5),(7,x7),(8,x8),(9,x9)] H
def Wx:Z4:=ZH 112 116 (sub (Z1 Tryz.f112) [1,1,1,1,1,1,1,1]) (Zh cfg 116 112 Tryz.f112 H0) [(5,x5),(6,x6),(7,x7),(8,x8),(9,x9)] H
def Qn:Z4:=ZH 112 116 (sub (Z1 Tryz.f112) [1,1,1,1,1]) (Zh cfg 116 112 Tryz.f112 H0) [(0,x0),(4,x4),(5,x5)] H
def Bw:Z4:=ZH 112 116 (sub (Z1 Tryz.f112) [1,1,1]) (Zh cfg 116 112 Tryz.f112 H0) [(0,x0),(4,x4)] H
def BA:KL:=Zc (Vx 112 116 Tryz.f112 [1,1,1]) (Zh cfg 116 112 Tryz.f112 H0)
theorem HK:ZX 116 (BA H0):=Zx (C:=cfg) (kp:=cfg.keep 112) (sub (Z1 Tryz.f112) [1,1,1]) (ZA 112 Tryz.f112 H0)
def Mb:Z4:=ZH 112 116 (sub (Z1 Tryz.f112) [1,1,0,0,0,1]) (Zc (YC 112 116 Tryz.f112 [1,1,0,0,0]) (Z7 0 (BA H0))) [(0,x0),(4,x4)] H
def Qo:Z4:=Uv 112 116 (sub (Z1 Tryz.f112) [1,1,0,0,0]) (Z7 0 (BA H0)) [(0,x0),(4,x4)] H
def ZeX:Z4:=
 Qo p0 (.int .i64 0) H H
theorem Rm:Bz x9 x11 H0 H =
 some ((.tuple [x11,x9]),H):=Za [3,4,7,14,16,19]
theorem O1:By x5 x7 x8 x9 H0 H =
 Z0 (Zf FK [x7,x8] H) fun g=>
 Z0 (UJ (.int .i64 10000000000000) g.1) fun j=>
 Zk x5
 (Z0 (Xk .neg j) fun u=>
 Bz x9 u H0 g.2)
 (Bz x9 j H0 g.2):=Za [3,4,7,14,16,19]
theorem O0:Wx x5 x6 x7 x8 x9 H0 H =
 Z0 (Z5 .eql x6 (.int .i64 0)) fun g=>
 Z0 (Z8 g true (.tuple []) (some x8)) fun j=>
 Z0 (Z8 g true (.tuple []) (Xe .eql j (.str []))) fun u=>
 Z0 (Zj g u (.bool false)) fun w=>
 Zk w
 (some ((.tuple [(.int .i64 0),(.int .i64 0)]),H))
 (By x5 x7 x8 x9 H0 H):=Za [3,4,7,14,16,19]
theorem IZ:Qn x0 x4 x5 H0 H =
 Z0 (Yk x0 (some x4) none none) fun B=>
 Z0 (Zf QW [B] H) fun g=>
 Z0 (Z5 .add x4 g.1) fun C=>
 Z0 (Yk x0 (some x4) (some C) none) fun y=>
 Z0 (Z5 .add x4 g.1) fun j=>
 Z0 (Zl .string x0) fun t70=>
 Z0 (Z5 .lss j t70) fun w=>
 Z0 (Z8 w true (.tuple []) (some x0)) fun D=>
 Z0 (Z8 w true (.tuple []) (some j)) fun E=>
 Z0 (Z8 w true (.tuple []) (Zz D E)) fun F=>
 Z0 (Z8 w true (.tuple []) (Z5 .eql F (.int .u8 46))) fun I=>
 Z0 (Zj w I (.bool false)) fun J=>
 Zk J
 (Z0 (Z5 .add j (.int .i64 1)) fun K=>
 Z0 (Yk x0 (some K) none none) fun L=>
 Z0 (Zf QW [L] g.2) fun u=>
 Z0 (Z5 .gtr g.1 (.int .i64 0)) fun z=>
 Z0 (Z8 z false (.tuple []) (some u.1)) fun M=>
 Z0 (Z8 z false (.tuple []) (Z5 .gtr M (.int .i64 0))) fun N=>
 Z0 (Zj z (.bool true) N) fun O=>
 Zk O
 (Z0 (Z5 .add j (.int .i64 1)) fun Q=>
 Z0 (Z5 .add j (.int .i64 1)) fun R=>
 Z0 (Z5 .add R u.1) fun S=>
 Z0 (Yk x0 (some Q) (some S) none) fun T=>
 Z0 (Z5 .add (.int .i64 1) u.1) fun U=>
 Z0 (Z5 .add j U) fun A=>
 Wx x5 g.1 y T A H0 u.2)
 (Wx x5 g.1 y (.str []) j H0 u.2))
 (Wx x5 g.1 y (.str []) j H0 g.2):=Za [3,4,7,14,16,19]
theorem IY:Bw x0 x4 H0 H =
 Z0 (Zl .string x0) fun w=>
 Z0 (Z5 .lss x4 w) fun j=>
 Z0 (Z8 j true (.tuple []) (some x0)) fun y=>
 Z0 (Z8 j true (.tuple []) (some x4)) fun z=>
 Z0 (Z8 j true (.tuple []) (Zz y z)) fun t37=>
 Z0 (Z8 j true (.tuple []) (Z5 .eql t37 (.int .u8 45))) fun A=>
 Z0 (Zj j A (.bool false)) fun g=>
 Z0 (Z8 g false (.tuple []) (some x4)) fun B=>
 Z0 (Z8 g false (.tuple []) (some x0)) fun C=>
 Z0 (Z8 g false (.tuple []) (Zl .string C)) fun D=>
 Z0 (Z8 g false (.tuple []) (Z5 .lss B D)) fun E=>
 Z0 (Z8 g false (.tuple []) (some E)) fun u=>
 Z0 (Z8 u true (.tuple []) (some x0)) fun F=>
 Z0 (Z8 u true (.tuple []) (some x4)) fun I=>
 Z0 (Z8 u true (.tuple []) (Zz F I)) fun J=>
 Z0 (Z8 u true (.tuple []) (Z5 .eql J (.int .u8 43))) fun K=>
 Z0 (Z8 g false (.tuple []) (Zj u K (.bool false))) fun L=>
 Z0 (Zj g (.bool true) L) fun M=>
 Zk M
 (Z0 (Z5 .add x4 (.int .i64 1)) fun N=>
 Qn x0 N g H0 H)
 (Qn x0 x4 g H0 H):=Za [3,4,7,14,16,19]
theorem Rn:Mb x0 x4 H0 H =
 Z0 (Z5 .add x4 (.int .i64 1)) fun g=>
 Qo x0 g H0 H:=Za [3,4,7,14,16,19]
theorem Ro:Qo x0 x4 H0 H =
 Z0 (Zl .string x0) fun u=>
 Z0 (Z5 .lss x4 u) fun g=>
 Z0 (Z8 g true (.tuple []) (some x0)) fun w=>
 Z0 (Z8 g true (.tuple []) (some x4)) fun y=>
 Z0 (Z8 g true (.tuple []) (Zz w y)) fun z=>
 Z0 (Z8 g true (.tuple []) (Z5 .eql z (.int .u8 32))) fun A=>
 Z0 (Z8 g true (.tuple []) (some A)) fun j=>
 Z0 (Z8 j false (.tuple []) (some x0)) fun B=>
 Z0 (Z8 j false (.tuple []) (some x4)) fun D=>
 Z0 (Z8 j false (.tuple []) (Zz B D)) fun E=>
 Z0 (Z8 j false (.tuple []) (Z5 .eql E (.int .u8 9))) fun F=>
 Z0 (Z8 g true (.tuple []) (Zj j (.bool true) F)) fun I=>
 Z0 (Zj g I (.bool false)) fun J=>
 Zk J
 (Mb x0 x4 H0 H)
 (Bw x0 x4 H0 H):=(ZD (C:=cfg) [3,4,7,14,16,19] (Zm 0 (HK H0)) _ _).trans (by kernel_rfl)
theorem Zaw:QV [p0] H=ZeX p0 H:=Be 116 [3,4,7,14,16,19] Tryz.func112
def CW:Z4:=ZH 113 13 (sub (Z1 Tryz.f113) [1,1]) (Zh cfg 13 113 Tryz.f113 H0) [] H
def AA:Z4:=
 Z0 (Z5 .lss p0 p1) fun j=>
 Zk j
 (some ((.int .i64 (-1)),H))
 (Z0 (Z5 .gtr p0 p1) fun g=>
 Zk g
 (some ((.int .i64 1),H))
 (CW H H))
theorem Zdo:CW H0 H =
 some ((.int .i64 0),H):=Za [5]
theorem ZdX:TE [p0,p1] H=AA p0 p1 H:=Be 13 [5] Tryz.func113
def M6:Z4:=
 Z0 (Z3 false 1 p2 H) fun B=>
 Z0 (Z5 .and B p0) fun t9=>
 Z0 (Z5 .neq t9 (.int .i64 0)) fun y=>
 Zk y
 (Z0 (Z3 false 1 p3 H) fun z=>
 Z0 (Xv cfg (Z9 cfg) p1 [z] H) fun g=>
 Z0 (Z3 false 1 p4 g.2) fun A=>
 Z0 (Xv cfg (Z9 cfg) p1 [A] g.2) fun j=>
 Z0 (Ze 1 p3 g.1 j.2) fun u=>
 Z0 (Ze 1 p4 j.1 u.2) fun w=>
 some ((.tuple []),w.2))
 (some ((.tuple []),H))
theorem Iy:Bm [p0,p1,p2,p3,p4] H=M6 p0 p1 p2 p3 p4 H:=Be 17 [] Tryz.func114
def M7:Z4:=
 Z0 (Ah ZdL [p0,(.str [32,9])] H) fun g=>
 some (g.1,g.2)
theorem Iz:Bn [p0] H=M7 p0 H:=Be 5 [] Tryz.func115
def CV:Z4:=ZH 117 44 (sub (Z1 Tryz.f117) [1,1,1]) (Zh cfg 44 117 Tryz.f117 H0) [(3,x3)] H
def Kr:KL:=Zc (Vx 117 44 Tryz.f117 [1,1,1]) (Zh cfg 44 117 Tryz.f117 H0)
theorem OJ:ZX 44 (Kr H0):=Zx (C:=cfg) (kp:=cfg.keep 117) (sub (Z1 Tryz.f117) [1,1,1]) (ZA 117 Tryz.f117 H0)
def Q4:Z4:=ZH 117 44 (sub (Z1 Tryz.f117) [1,1,0,1,0,0,1,1,1]) (Zc (YC 117 44 Tryz.f117 [1,1,0,1,0,0]) (Z7 0 (Kr H0))) [(0,x0),(3,x3),(7,x7),(8,x8)] H
def RO:Z4:=ZH 117 44 (sub (Z1 Tryz.f117) [1,1,0,1,0,0,1,1]) (Zc (YC 117 44 Tryz.f117 [1,1,0,1,0,0]) (Z7 0 (Kr H0))) [(0,x0),(3,x3),(7,x7),(8,x8),(9,x9)] H
def Ks:Z4:=Uv 117 44 (sub (Z1 Tryz.f117) [1,1,0,1,0,0]) (Z7 0 (Kr H0)) [(0,x0),(3,x3),(7,x7),(8,x8)] H
def Az:Z4:=
 Z0 (some ((.ptr H.length 0),H++[.bld 201 5 []])) fun g=>
 Z0 (Zl .string p0) fun j=>
 Ks p0 g.1 j (.int .i64 0) H g.2
theorem Zdm:CV x3 H0 H =
 Z0 (stringE.run [x3] H) fun g=>
 some (g.1,g.2):=Za [4,8,9]
theorem Nf:Q4 x0 x3 x7 x8 H0 H =
 Z0 (Z5 .add x8 (.int .i64 1)) fun g=>
 Ks x0 x3 x7 g H0 H:=Za [4,8,9]
theorem Zdn:RO x0 x3 x7 x8 x9 H0 H =
 Z0 (Zz x0 x8) fun g=>
 Z0 (Vd [g] H) fun j=>
 Z0 (Z8 j.1 false (.tuple []) (some g)) fun C=>
 Z0 (Z8 j.1 false (.tuple []) (Z5 .geq C (.int .u8 97))) fun D=>
 Z0 (Z8 j.1 false (.tuple []) (some D)) fun y=>
 Z0 (Z8 y true (.tuple []) (some g)) fun E=>
 Z0 (Z8 y true (.tuple []) (Z5 .leq E (.int .u8 122))) fun F=>
 Z0 (Z8 j.1 false (.tuple []) (Zj y F (.bool false))) fun I=>
 Z0 (Zj j.1 (.bool true) I) fun u=>
 Z0 (Z8 u false (.tuple []) (some g)) fun J=>
 Z0 (Z8 u false (.tuple []) (Z5 .geq J (.int .u8 65))) fun K=>
 Z0 (Z8 u false (.tuple []) (some K)) fun z=>
 Z0 (Z8 z true (.tuple []) (some g)) fun L=>
 Z0 (Z8 z true (.tuple []) (Z5 .leq L (.int .u8 90))) fun M=>
 Z0 (Z8 u false (.tuple []) (Zj z M (.bool false))) fun N=>
 Z0 (Zj u (.bool true) N) fun w=>
 Z0 (Z8 w false (.tuple []) (some g)) fun O=>
 Z0 (Z8 w false (.tuple []) (Z5 .geq O (.int .u8 48))) fun Q=>
 Z0 (Z8 w false (.tuple []) (some Q)) fun A=>
 Z0 (Z8 A true (.tuple []) (some g)) fun R=>
 Z0 (Z8 A true (.tuple []) (Z5 .leq R (.int .u8 57))) fun t37=>
 Z0 (Z8 w false (.tuple []) (Zj A t37 (.bool false))) fun S=>
 Z0 (Zj w (.bool true) S) fun T=>
 Zk T
 (Z0 (byteE.run [x3,g] j.2) fun B=>
 Q4 x0 x3 x7 x8 H0 B.2)
 (Q4 x0 x3 x7 x8 H0 j.2):=Za [4,8,9]
theorem Ng:Ks x0 x3 x7 x8 H0 H =
 Z0 (Z5 .lss x8 x7) fun t9=>
 Zk t9
 (RO x0 x3 x7 x8 t9 H0 H)
 (CV x3 H0 H):=(ZD (C:=cfg) [4,8,9] (Zm 0 (OJ H0)) _ _).trans (by kernel_rfl)
theorem ZdW:TD [p0] H=Az p0 H:=Be 44 [4,8,9] Tryz.func117
def M8:Z4:=
 Z0 (Z3 true 6 p1 H) fun t4=>
 Z0 (Zf TC [t4,p0] H) fun g=>
 some (g.1,g.2)
theorem IA:Bo [p0,p1] H=M8 p0 p1 H:=Be 7 [] Tryz.func118
def Av:Z4:=
 Z0 (ZN p0 H) fun g=>
 Z0 (Z3 true 6 g.1 g.2) fun t5=>
 Z0 (Zf VU [t5] g.2) fun j=>
 Z0 (TG false 1 3 j.1) fun w=>
 Z0 (Zf FM [w,p1] j.2) fun u=>
 some (u.1,u.2)
theorem ZdT:TC [p0,p1] H=Av p0 p1 H:=Be 10 [] Tryz.func119
def CK:Z4:=ZH 143 49 (sub (Z1 Tryz.f143) [1,1,1,1,1]) (Zh cfg 49 143 Tryz.f143 H0) [(1,x1)] H
def CJ:Z4:=ZH 143 49 (sub (Z1 Tryz.f143) [1,1,1,1]) (Zh cfg 49 143 Tryz.f143 H0) [(1,x1)] H
def Kk:KL:=Zc (Vx 143 49 Tryz.f143 [1,1,1,1]) (Zh cfg 49 143 Tryz.f143 H0)
theorem Oo:ZX 49 (Kk H0):=Zx (C:=cfg) (kp:=cfg.keep 143) (sub (Z1 Tryz.f143) [1,1,1,1]) (ZA 143 Tryz.f143 H0)
def CN:Z4:=ZH 143 49 (sub (Z1 Tryz.f143) [1,1,1,0,1,0,0,1,1,1]) (Zc (YC 143 49 Tryz.f143 [1,1,1,0,1,0,0]) (Z7 0 (Kk H0))) [(1,x1),(27,x27),(28,x28),(29,x29)] H
def CM:Z4:=ZH 143 49 (sub (Z1 Tryz.f143) [1,1,1,0,1,0,0,1,1]) (Zc (YC 143 49 Tryz.f143 [1,1,1,0,1,0,0]) (Z7 0 (Kk H0))) [(1,x1),(27,x27),(28,x28),(29,x29),(30,x30)] H
def Km:Z4:=Uv 143 49 (sub (Z1 Tryz.f143) [1,1,1,0,1,0,0]) (Z7 0 (Kk H0)) [(1,x1),(27,x27),(28,x28),(29,x29)] H
def CI:Z4:=ZH 143 49 (sub (Z1 Tryz.f143) [1,1,1]) (Zh cfg 49 143 Tryz.f143 H0) [(1,x1)] H
def CH:Z4:=ZH 143 49 (sub (Z1 Tryz.f143) [1,1]) (Zh cfg 49 143 Tryz.f143 H0) [(1,x1)] H
def At:Z4:=
 Z0 (ZN p0 H) fun g=>
 Z0 (Z6 0 g.1) fun u=>
 Z0 (Z3 false 1 u g.2) fun w=>
 Z0 (Zf Jz [w] g.2) fun j=>
 Z0 (Xk .not j.1) fun t9=>
 Zk t9
 (some ((.int .i64 4),j.2))
 (CH g.1 H j.2)
theorem Zd7:CK x1 H0 H =
 Z0 (Z6 5 x1) fun j=>
 Z0 (Z3 false 1 j H) fun u=>
 Z0 (Zf WV [u] H) fun g=>
 some (g.1,g.2):=Za [3,5,7,10,11,14]
theorem Zd6:CJ x1 H0 H =
 Z0 (Z6 4 x1) fun j=>
 Z0 (Z3 false 1 j H) fun u=>
 Z0 (Zf Vc [u] H) fun g=>
 Z0 (Z5 .neq g.1 (.int .i64 0)) fun w=>
 Zk w
 (some (g.1,g.2))
 (CK x1 H0 g.2):=Za [3,5,7,10,11,14]
theorem Zd9:CN x1 x27 x28 x29 H0 H =
 Z0 (Z5 .add x29 (.int .i64 1)) fun g=>
 Km x1 x27 x28 g H0 H:=Za [3,5,7,10,11,14]
theorem Zd8:CM x1 x27 x28 x29 x30 H0 H =
 Z0 (Zp 1 x27 x29) fun u=>
 Z0 (Z3 false 1 u H) fun j=>
 Z0 (Z5 .lss j (.int .i64 0)) fun g=>
 Z0 (Z8 g false (.tuple []) (some j)) fun w=>
 Z0 (Z8 g false (.tuple []) (Z5 .gtr w (.int .i64 65535))) fun t37=>
 Z0 (Zj g (.bool true) t37) fun y=>
 Zk y
 (some ((.int .i64 2),H))
 (CN x1 x27 x28 x29 H0 H):=Za [3,5,7,10,11,14]
theorem N4:Km x1 x27 x28 x29 H0 H =
 Z0 (Z5 .lss x29 x28) fun g=>
 Zk g
 (CM x1 x27 x28 x29 g H0 H)
 (CJ x1 H0 H):=(ZD (C:=cfg) [3,5,7,10,11,14] (Zm 0 (Oo H0)) _ _).trans (by kernel_rfl)
theorem Zd5:CI x1 H0 H =
 Z0 (Z6 1 x1) fun j=>
 Z0 (Z3 false 1 j H) fun g=>
 Z0 (Zl (.slice 3) g) fun u=>
 Km x1 g u (.int .i64 0) H0 H:=Za [3,5,7,10,11,14]
theorem Zd4:CH x1 H0 H =
 Z0 (Z6 1 x1) fun u=>
 Z0 (Z3 false 1 u H) fun w=>
 Z0 (Zl (.slice 3) w) fun y=>
 Z0 (Z5 .neq y (.int .i64 256)) fun g=>
 Z0 (Z8 g false (.tuple []) (Z6 2 x1)) fun z=>
 Z0 (Z8 g false (.tuple []) (Z3 false 1 z H)) fun A=>
 Z0 (Z8 g false (.tuple []) (Zl .string A)) fun B=>
 Z0 (Z8 g false (.tuple []) (Z5 .neq B (.int .i64 256))) fun C=>
 Z0 (Zj g (.bool true) C) fun j=>
 Z0 (Z8 j false (.tuple []) (Z6 3 x1)) fun D=>
 Z0 (Z8 j false (.tuple []) (Z3 false 1 D H)) fun E=>
 Z0 (Z8 j false (.tuple []) (Zl .string E)) fun F=>
 Z0 (Z8 j false (.tuple []) (Z5 .neq F (.int .i64 256))) fun I=>
 Z0 (Zj j (.bool true) I) fun J=>
 Zk J
 (some ((.int .i64 2),H))
 (CI x1 H0 H):=Za [3,5,7,10,11,14]
theorem ZdS:G4 [p0] H=At p0 H:=Be 49 [3,5,7,10,11,14] Tryz.func143
def DS:Z4:=
 Z0 (HQ .cmp [p0,p1] H) fun g=>
 some (g.1,g.2)
theorem G7:XU [p0,p1] H=DS p0 p1 H:=Be 8 [] Tryz.func145
def Mc:Z4:=ZH 146 23 (sub (Z1 Tryz.f146) [1,1,1]) (Zh cfg 23 146 Tryz.f146 H0) [(3,x3)] H
def BB:KL:=Zc (Vx 146 23 Tryz.f146 [1,1,1]) (Zh cfg 23 146 Tryz.f146 H0)
theorem HL:ZX 23 (BB H0):=Zx (C:=cfg) (kp:=cfg.keep 146) (sub (Z1 Tryz.f146) [1,1,1]) (ZA 146 Tryz.f146 H0)
def Md:Z4:=ZH 146 23 (sub (Z1 Tryz.f146) [1,1,0,0,0,1]) (Zc (YC 146 23 Tryz.f146 [1,1,0,0,0]) (Z7 0 (BB H0))) [(0,x0),(3,x3)] H
def Qp:Z4:=Uv 146 23 (sub (Z1 Tryz.f146) [1,1,0,0,0]) (Z7 0 (BB H0)) [(0,x0),(3,x3)] H
def ZeY:Z4:=
 Qp p0 (.int .i64 0) H H
theorem J7:Mc x3 H0 H =
 some (x3,H):=Za [3,4]
theorem O2:Md x0 x3 H0 H =
 Z0 (Z5 .add x3 (.int .i64 1)) fun g=>
 Qp x0 g H0 H:=Za [3,4]
theorem Rp:Qp x0 x3 H0 H =
 Z0 (Zl .string x0) fun F=>
 Z0 (Z5 .lss x3 F) fun j=>
 Z0 (Z8 j true (.tuple []) (some x0)) fun t9=>
 Z0 (Z8 j true (.tuple []) (some x3)) fun u=>
 Z0 (Z8 j true (.tuple []) (Zz t9 u)) fun w=>
 Z0 (Z8 j true (.tuple []) (Z5 .geq w (.int .u8 48))) fun y=>
 Z0 (Zj j y (.bool false)) fun g=>
 Z0 (Z8 g true (.tuple []) (some x0)) fun z=>
 Z0 (Z8 g true (.tuple []) (some x3)) fun A=>
 Z0 (Z8 g true (.tuple []) (Zz z A)) fun B=>
 Z0 (Z8 g true (.tuple []) (Z5 .leq B (.int .u8 57))) fun D=>
 Z0 (Zj g D (.bool false)) fun E=>
 Zk E
 (Md x0 x3 H0 H)
 (Mc x3 H0 H):=(ZD (C:=cfg) [3,4] (Zm 0 (HL H0)) _ _).trans (by kernel_rfl)
theorem Zax:QW [p0] H=ZeY p0 H:=Be 23 [3,4] Tryz.func146
def E2:Z4:=ZH 147 29 (sub (Z1 Tryz.f147) [1,1,1]) (Zh cfg 29 147 Tryz.f147 H0) [(1,x1),(5,x5)] H
def J8:KL:=Zc (Vx 147 29 Tryz.f147 [1,1,1]) (Zh cfg 29 147 Tryz.f147 H0)
theorem AM:ZX 29 (J8 H0):=Zx (C:=cfg) (kp:=cfg.keep 147) (sub (Z1 Tryz.f147) [1,1,1]) (ZA 147 Tryz.f147 H0)
def E4:Z4:=ZH 147 29 (sub (Z1 Tryz.f147) [1,1,0,1,0,0,1,1,1]) (Zc (YC 147 29 Tryz.f147 [1,1,0,1,0,0]) (Z7 0 (J8 H0))) [(0,x0),(1,x1),(5,x5),(8,x8),(9,x9)] H
def E3:Z4:=ZH 147 29 (sub (Z1 Tryz.f147) [1,1,0,1,0,0,1,1]) (Zc (YC 147 29 Tryz.f147 [1,1,0,1,0,0]) (Z7 0 (J8 H0))) [(0,x0),(1,x1),(5,x5),(8,x8),(9,x9),(10,x10)] H
def J9:Z4:=Uv 147 29 (sub (Z1 Tryz.f147) [1,1,0,1,0,0]) (Z7 0 (J8 H0)) [(0,x0),(1,x1),(5,x5),(8,x8),(9,x9)] H
def SE:Z4:=
 Z0 (Zl .string p0) fun g=>
 J9 p0 p1 (.int .i64 0) g (.int .i64 0) H H
theorem ZaE:E2 x1 x5 H0 H =
 Z0 (Z5 .mul x5 (.int .i64 10000)) fun j=>
 Z0 (Zf KB [x1] H) fun g=>
 Z0 (Z5 .add j g.1) fun u=>
 Z0 (UJ (.int .i64 10000000000001) u) fun w=>
 some (w,g.2):=Za [4,8,9]
theorem ZaG:E4 x0 x1 x5 x8 x9 H0 H =
 Z0 (Z5 .add x9 (.int .i64 1)) fun g=>
 J9 x0 x1 x5 x8 g H0 H:=Za [4,8,9]
theorem ZaF:E3 x0 x1 x5 x8 x9 x10 H0 H =
 Z0 (Z5 .mul (.int .i64 10) x5) fun j=>
 Z0 (Zz x0 x9) fun u=>
 Z0 (Z5 .sub u (.int .u8 48)) fun w=>
 Z0 (Wh .i64 w) fun y=>
 Z0 (Z5 .add j y) fun g=>
 Z0 (Z5 .gtr g (.int .i64 1000000000)) fun z=>
 Zk z
 (some ((.int .i64 10000000000001),H))
 (E4 x0 x1 g x8 x9 H0 H):=Za [4,8,9]
theorem Td:J9 x0 x1 x5 x8 x9 H0 H =
 Z0 (Z5 .lss x9 x8) fun g=>
 Zk g
 (E3 x0 x1 x5 x8 x9 g H0 H)
 (E2 x1 x5 H0 H):=(ZD (C:=cfg) [4,8,9] (Zm 0 (AM H0)) _ _).trans (by kernel_rfl)
theorem Zbo:FK [p0,p1] H=SE p0 p1 H:=Be 29 [4,8,9] Tryz.func147
def Ep:Z4:=ZH 155 26 (sub (Z1 Tryz.f155) [1,1,1]) (Zh cfg 26 155 Tryz.f155 H0) [(5,x5)] H
def Jg:KL:=Zc (Vx 155 26 Tryz.f155 [1,1,1]) (Zh cfg 26 155 Tryz.f155 H0)
theorem AY:ZX 26 (Jg H0):=Zx (C:=cfg) (kp:=cfg.keep 155) (sub (Z1 Tryz.f155) [1,1,1]) (ZA 155 Tryz.f155 H0)
def Es:Z4:=ZH 155 26 (sub (Z1 Tryz.f155) [1,1,0,1,0,0,1,1,1]) (Zc (YC 155 26 Tryz.f155 [1,1,0,1,0,0]) (Z7 0 (Jg H0))) [(0,x0),(5,x5),(10,x10),(11,x11)] H
def Er:Z4:=ZH 155 26 (sub (Z1 Tryz.f155) [1,1,0,1,0,0,1,1]) (Zc (YC 155 26 Tryz.f155 [1,1,0,1,0,0]) (Z7 0 (Jg H0))) [(0,x0),(5,x5),(10,x10),(11,x11),(12,x12)] H
def Jh:Z4:=Uv 155 26 (sub (Z1 Tryz.f155) [1,1,0,1,0,0]) (Z7 0 (Jg H0)) [(0,x0),(5,x5),(10,x10),(11,x11)] H
def SH:Z4:=
 Z0 (IX p1 H) fun g=>
 Z0 (Zl (.slice 5) g.1) fun j=>
 Jh p0 g.1 j (.int .i64 0) H g.2
theorem ZaL:Ep x5 H0 H =
 Z0 (Bv x5 H) fun g=>
 some (g,H):=Za [4,6,7]
theorem ZaN:Es x0 x5 x10 x11 H0 H =
 Z0 (Z5 .add x11 (.int .i64 1)) fun g=>
 Jh x0 x5 x10 g H0 H:=Za [4,6,7]
theorem ZaM:Er x0 x5 x10 x11 x12 H0 H =
 Z0 (Zp 1 x5 x11) fun j=>
 Z0 (Z3 false 1 j H) fun u=>
 Z0 (Zz x0 u) fun w=>
 Z0 (Zp 1 x5 x11) fun y=>
 Z0 (Ze 1 y w H) fun g=>
 Es x0 x5 x10 x11 H0 g.2:=Za [4,6,7]
theorem Th:Jh x0 x5 x10 x11 H0 H =
 Z0 (Z5 .lss x11 x10) fun g=>
 Zk g
 (Er x0 x5 x10 x11 g H0 H)
 (Ep x5 H0 H):=(ZD (C:=cfg) [4,6,7] (Zm 0 (AY H0)) _ _).trans (by kernel_rfl)
theorem Zbs:FM [p0,p1] H=SH p0 p1 H:=Be 26 [4,6,7] Tryz.func155
def P3:Z4:=ZH 173 54 (sub (Z1 Tryz.f173) [1,1]) (Zh cfg 54 173 Tryz.f173 H0) [(0,x0)] H
def Gh:KL:=Zc (Vx 173 54 Tryz.f173 [1,1]) (Zh cfg 54 173 Tryz.f173 H0)
theorem ZaO:ZX 54 (Gh H0):=Zx (C:=cfg) (kp:=cfg.keep 173) (sub (Z1 Tryz.f173) [1,1]) (ZA 173 Tryz.f173 H0)
def P5:Z4:=ZH 173 54 (sub (Z1 Tryz.f173) [1,0,1,0,0,1,1,1]) (Zc (YC 173 54 Tryz.f173 [1,0,1,0,0]) (Z7 0 (Gh H0))) [(0,x0),(7,x7),(8,x8)] H
def P4:Z4:=ZH 173 54 (sub (Z1 Tryz.f173) [1,0,1,0,0,1,1]) (Zc (YC 173 54 Tryz.f173 [1,0,1,0,0]) (Z7 0 (Gh H0))) [(0,x0),(7,x7),(8,x8),(9,x9)] H
def Gi:Z4:=Uv 173 54 (sub (Z1 Tryz.f173) [1,0,1,0,0]) (Z7 0 (Gh H0)) [(0,x0),(7,x7),(8,x8)] H
def OX:Z4:=
 Z0 (Zl .string p0) fun g=>
 Gi p0 g (.int .i64 0) H H
theorem Zea:P3 x0 H0 H =
 Z0 (Xe .neq x0 (.str [])) fun g=>
 Z0 (Z8 g true (.tuple []) (some x0)) fun j=>
 Z0 (Z8 g true (.tuple []) (Zl .string j)) fun u=>
 Z0 (Z8 g true (.tuple []) (Z5 .leq u (.int .i64 32))) fun w=>
 Z0 (Zj g w (.bool false)) fun y=>
 some (y,H):=Za [3,8,9]
theorem Mo:P5 x0 x7 x8 H0 H =
 Z0 (Z5 .add x8 (.int .i64 1)) fun g=>
 Gi x0 x7 g H0 H:=Za [3,8,9]
theorem Zeb:P4 x0 x7 x8 x9 H0 H =
 Z0 (Zz x0 x8) fun g=>
 Z0 (Z5 .eql g (.int .u8 95)) fun u=>
 Z0 (Z8 u false (.tuple []) (some g)) fun B=>
 Z0 (Z8 u false (.tuple []) (Z5 .geq B (.int .u8 97))) fun C=>
 Z0 (Z8 u false (.tuple []) (some C)) fun y=>
 Z0 (Z8 y true (.tuple []) (some g)) fun D=>
 Z0 (Z8 y true (.tuple []) (Z5 .leq D (.int .u8 122))) fun E=>
 Z0 (Z8 u false (.tuple []) (Zj y E (.bool false))) fun F=>
 Z0 (Zj u (.bool true) F) fun w=>
 Z0 (Z8 w false (.tuple []) (some g)) fun I=>
 Z0 (Z8 w false (.tuple []) (Z5 .geq I (.int .u8 65))) fun J=>
 Z0 (Z8 w false (.tuple []) (some J)) fun z=>
 Z0 (Z8 z true (.tuple []) (some g)) fun K=>
 Z0 (Z8 z true (.tuple []) (Z5 .leq K (.int .u8 90))) fun L=>
 Z0 (Z8 w false (.tuple []) (Zj z L (.bool false))) fun M=>
 Z0 (Zj w (.bool true) M) fun N=>
 Z0 (Xk .not N) fun j=>
 Z0 (Z8 j true (.tuple []) (some x8)) fun O=>
 Z0 (Z8 j true (.tuple []) (Z5 .eql O (.int .i64 0))) fun Q=>
 Z0 (Z8 j true (.tuple []) (some Q)) fun t37=>
 Z0 (Z8 t37 false (.tuple []) (some g)) fun R=>
 Z0 (Z8 t37 false (.tuple []) (Z5 .lss R (.int .u8 48))) fun S=>
 Z0 (Z8 j true (.tuple []) (Zj t37 (.bool true) S)) fun T=>
 Z0 (Z8 j true (.tuple []) (some T)) fun A=>
 Z0 (Z8 A false (.tuple []) (some g)) fun U=>
 Z0 (Z8 A false (.tuple []) (Z5 .gtr U (.int .u8 57))) fun V=>
 Z0 (Z8 j true (.tuple []) (Zj A (.bool true) V)) fun W=>
 Z0 (Zj j W (.bool false)) fun X=>
 Zk X
 (some ((.bool false),H))
 (P5 x0 x7 x8 H0 H):=Za [3,8,9]
theorem Qt:Gi x0 x7 x8 H0 H =
 Z0 (Z5 .lss x8 x7) fun t9=>
 Zk t9
 (P4 x0 x7 x8 t9 H0 H)
 (P3 x0 H0 H):=(ZD (C:=cfg) [3,8,9] (Zm 0 (ZaO H0)) _ _).trans (by kernel_rfl)
theorem Zf0:Jz [p0] H=OX p0 H:=Be 54 [3,8,9] Tryz.func173
def Df:Z4:=ZH 174 28 (sub (Z1 Tryz.f174) [1,1,1,1]) (Zh cfg 28 174 Tryz.f174 H0) [] H
def XK:KL:=Zc (Vx 174 28 Tryz.f174 [1,1,1,1]) (Zh cfg 28 174 Tryz.f174 H0)
theorem N5:ZX 28 (XK H0):=Zx (C:=cfg) (kp:=cfg.keep 174) (sub (Z1 Tryz.f174) [1,1,1,1]) (ZA 174 Tryz.f174 H0)
def Dh:Z4:=ZH 174 28 (sub (Z1 Tryz.f174) [1,1,1,0,1,0,0,1,1,1]) (Zc (YC 174 28 Tryz.f174 [1,1,1,0,1,0,0]) (Z7 0 (XK H0))) [(3,x3),(10,x10),(11,x11),(12,x12)] H
def Dk:KL:=Zc (Vx 174 28 Tryz.f174 [1,1,1,0,1,0,0,1,1,1]) (Zc (YC 174 28 Tryz.f174 [1,1,1,0,1,0,0]) (Z7 0 (XK H0)))
def Dj:Z4:=ZH 174 28 (sub (Z1 Tryz.f174) [1,1,1,0,1,0,0,1,1,0,0,1,1,1]) (Z7 1 (Dk H0)) [(3,x3),(5,x5),(10,x10),(11,x11),(12,x12)] H
def Di:Z4:=ZH 174 28 (sub (Z1 Tryz.f174) [1,1,1,0,1,0,0,1,1,0,0,1,1]) (Z7 1 (Dk H0)) [(3,x3),(5,x5),(10,x10),(11,x11),(12,x12)] H
def Dg:Z4:=ZH 174 28 (sub (Z1 Tryz.f174) [1,1,1,0,1,0,0,1,1]) (Zc (YC 174 28 Tryz.f174 [1,1,1,0,1,0,0]) (Z7 0 (XK H0))) [(3,x3),(10,x10),(11,x11),(12,x12),(13,x13)] H
def V2:Z4:=Uv 174 28 (sub (Z1 Tryz.f174) [1,1,1,0,1,0,0]) (Z7 0 (XK H0)) [(3,x3),(10,x10),(11,x11),(12,x12)] H
def De:Z4:=ZH 174 28 (sub (Z1 Tryz.f174) [1,1]) (Zh cfg 28 174 Tryz.f174 H0) [(0,x0)] H
def Ff:Z4:=
 Z0 (Zl (.slice 246) p0) fun g=>
 Z0 (Z5 .gtr g (.int .i64 24)) fun j=>
 Zk j
 (some ((.int .i64 3),H))
 (De p0 H H)
theorem MZ:Df H0 H =
 some ((.int .i64 0),H):=Za [3,6,9,11,12,13]
theorem L1:Dh x3 x10 x11 x12 H0 H =
 Z0 (Z5 .add x12 (.int .i64 1)) fun g=>
 V2 x3 x10 x11 g H0 H:=Za [3,6,9,11,12,13]
theorem L3:Dj x3 x5 x10 x11 x12 H0 H =
 Z0 (Z6 0 x5) fun j=>
 Z0 (Z3 false 1 j H) fun u=>
 Z0 (Xr .string x3 u (.bool true) H) fun g=>
 Dh x3 x10 x11 x12 H0 g.2:=Za [3,6,9,11,12,13]
theorem L2:Di x3 x5 x10 x11 x12 H0 H =
 Z0 (Z6 0 x5) fun g=>
 Z0 (Z3 false 1 g H) fun j=>
 Z0 (Ye .string (.bool false) false x3 j H) fun u=>
 Zk u
 (some ((.int .i64 6),H))
 (Dj x3 x5 x10 x11 x12 H0 H):=Za [3,6,9,11,12,13]
theorem L0:Dg x3 x10 x11 x12 x13 H0 H =
 Z0 (Zp 5 x10 x12) fun w=>
 Z0 (Z3 true 5 w H) fun y=>
 Z0 (some ((.ptr H.length 0),H++[.cells [(.str []),(.int .u64 0),(.int .u64 0),(.int .u64 0),(.int .u64 0)]])) fun u=>
 Z0 (Ze 5 u.1 y u.2) fun j=>
 Z0 (Z6 0 u.1) fun z=>
 Z0 (Z3 false 1 z j.2) fun A=>
 Z0 (Zf Jz [A] j.2) fun g=>
 Z0 (Xk .not g.1) fun B=>
 Zk B
 (some ((.int .i64 4),g.2))
 (Di x3 u.1 x10 x11 x12 H0 g.2):=Za [3,6,9,11,12,13]
theorem Ko:V2 x3 x10 x11 x12 H0 H =
 Z0 (Z5 .lss x12 x11) fun g=>
 Zk g
 (Dg x3 x10 x11 x12 g H0 H)
 (Df H0 H):=(ZD (C:=cfg) [3,6,9,11,12,13] (Zm 0 (N5 H0)) _ _).trans (by kernel_rfl)
theorem MY:De x0 H0 H =
 Z0 (some ((.map H.length),H++[.map [] 0])) fun j=>
 Z0 (Zl (.slice 246) x0) fun g=>
 V2 j.1 x0 g (.int .i64 0) H0 j.2:=Za [3,6,9,11,12,13]
theorem Lz:Vc [p0] H=Ff p0 H:=Be 28 [3,6,9,11,12,13] Tryz.func174
def GY:Z4:=ZH 175 38 (sub (Z1 Tryz.f175) [1,1,1,1]) (Zh cfg 38 175 Tryz.f175 H0) [] H
def XA:KL:=Zc (Vx 175 38 Tryz.f175 [1,1,1,1]) (Zh cfg 38 175 Tryz.f175 H0)
theorem P1:ZX 38 (XA H0):=Zx (C:=cfg) (kp:=cfg.keep 175) (sub (Z1 Tryz.f175) [1,1,1,1]) (ZA 175 Tryz.f175 H0)
def B1:Z4:=ZH 175 38 (sub (Z1 Tryz.f175) [1,1,1,0,1,0,0,1,1,1]) (Zc (YC 175 38 Tryz.f175 [1,1,1,0,1,0,0]) (Z7 0 (XA H0))) [(3,x3),(10,x10),(11,x11),(12,x12)] H
def B4:KL:=Zc (Vx 175 38 Tryz.f175 [1,1,1,0,1,0,0,1,1,1]) (Zc (YC 175 38 Tryz.f175 [1,1,1,0,1,0,0]) (Z7 0 (XA H0)))
def B3:Z4:=ZH 175 38 (sub (Z1 Tryz.f175) [1,1,1,0,1,0,0,1,1,0,0,1,1,1]) (Z7 1 (B4 H0)) [(3,x3),(5,x5),(10,x10),(11,x11),(12,x12)] H
def B2:Z4:=ZH 175 38 (sub (Z1 Tryz.f175) [1,1,1,0,1,0,0,1,1,0,0,1,1]) (Z7 1 (B4 H0)) [(3,x3),(5,x5),(10,x10),(11,x11),(12,x12)] H
def GZ:Z4:=ZH 175 38 (sub (Z1 Tryz.f175) [1,1,1,0,1,0,0,1,1]) (Zc (YC 175 38 Tryz.f175 [1,1,1,0,1,0,0]) (Z7 0 (XA H0))) [(3,x3),(10,x10),(11,x11),(12,x12),(13,x13)] H
def WF:Z4:=Uv 175 38 (sub (Z1 Tryz.f175) [1,1,1,0,1,0,0]) (Z7 0 (XA H0)) [(3,x3),(10,x10),(11,x11),(12,x12)] H
def GX:Z4:=ZH 175 38 (sub (Z1 Tryz.f175) [1,1]) (Zh cfg 38 175 Tryz.f175 H0) [(0,x0)] H
def BU:Z4:=
 Z0 (Zl (.slice 189) p0) fun g=>
 Z0 (Z5 .gtr g (.int .i64 64)) fun j=>
 Zk j
 (some ((.int .i64 3),H))
 (GX p0 H H)
theorem NK:GY H0 H =
 some ((.int .i64 0),H):=Za [3,6,9,11,12,13]
theorem NM:B1 x3 x10 x11 x12 H0 H =
 Z0 (Z5 .add x12 (.int .i64 1)) fun t37=>
 WF x3 x10 x11 t37 H0 H:=Za [3,6,9,11,12,13]
theorem NO:B3 x3 x5 x10 x11 x12 H0 H =
 Z0 (Z6 0 x5) fun j=>
 Z0 (Z3 false 1 j H) fun u=>
 Z0 (Xr .string x3 u (.bool true) H) fun g=>
 B1 x3 x10 x11 x12 H0 g.2:=Za [3,6,9,11,12,13]
theorem NN:B2 x3 x5 x10 x11 x12 H0 H =
 Z0 (Z6 0 x5) fun g=>
 Z0 (Z3 false 1 g H) fun j=>
 Z0 (Ye .string (.bool false) false x3 j H) fun u=>
 Zk u
 (some ((.int .i64 6),H))
 (B3 x3 x5 x10 x11 x12 H0 H):=Za [3,6,9,11,12,13]
theorem NL:GZ x3 x10 x11 x12 x13 H0 H =
 Z0 (Zp 2 x10 x12) fun y=>
 Z0 (Z3 true 2 y H) fun z=>
 Z0 (some ((.ptr H.length 0),H++[.cells [(.str []),(.int .i64 0)]])) fun w=>
 Z0 (Ze 2 w.1 z w.2) fun g=>
 Z0 (Z6 0 w.1) fun A=>
 Z0 (Z3 false 1 A g.2) fun B=>
 Z0 (Zl .string B) fun C=>
 Z0 (Z5 .neq C (.int .i64 2)) fun j=>
 Z0 (Z8 j false (.tuple []) (Z6 1 w.1)) fun D=>
 Z0 (Z8 j false (.tuple []) (Z3 false 1 D g.2)) fun E=>
 Z0 (Z8 j false (.tuple []) (Z5 .lss E (.int .i64 0))) fun F=>
 Z0 (Zj j (.bool true) F) fun u=>
 Z0 (Z8 u false (.tuple []) (Z6 1 w.1)) fun I=>
 Z0 (Z8 u false (.tuple []) (Z3 false 1 I g.2)) fun J=>
 Z0 (Z8 u false (.tuple []) (Z5 .gtr J (.int .i64 65535))) fun K=>
 Z0 (Zj u (.bool true) K) fun L=>
 Zk L
 (some ((.int .i64 2),g.2))
 (B2 x3 w.1 x10 x11 x12 H0 g.2):=Za [3,6,9,11,12,13]
theorem JI:WF x3 x10 x11 x12 H0 H =
 Z0 (Z5 .lss x12 x11) fun g=>
 Zk g
 (GZ x3 x10 x11 x12 g H0 H)
 (GY H0 H):=(ZD (C:=cfg) [3,6,9,11,12,13] (Zm 0 (P1 H0)) _ _).trans (by kernel_rfl)
theorem NJ:GX x0 H0 H =
 Z0 (some ((.map H.length),H++[.map [] 0])) fun j=>
 Z0 (Zl (.slice 189) x0) fun g=>
 WF j.1 x0 g (.int .i64 0) H0 j.2:=Za [3,6,9,11,12,13]
theorem Mx:WV [p0] H=BU p0 H:=Be 38 [3,6,9,11,12,13] Tryz.func175
def Tb:Z4:=ZH 178 23 (sub (Z1 Tryz.f178) [1,1,1]) (Zh cfg 23 178 Tryz.f178 H0) [(3,x3)] H
def Ul:KL:=Zc (Vx 178 23 Tryz.f178 [1,1,1]) (Zh cfg 23 178 Tryz.f178 H0)
theorem E1:ZX 23 (Ul H0):=Zx (C:=cfg) (kp:=cfg.keep 178) (sub (Z1 Tryz.f178) [1,1,1]) (ZA 178 Tryz.f178 H0)
def K0:Z4:=ZH 178 23 (sub (Z1 Tryz.f178) [1,1,0,1,0,0,1,1,1]) (Zc (YC 178 23 Tryz.f178 [1,1,0,1,0,0]) (Z7 0 (Ul H0))) [(0,x0),(3,x3),(5,x5)] H
def Tc:Z4:=ZH 178 23 (sub (Z1 Tryz.f178) [1,1,0,1,0,0,1,1]) (Zc (YC 178 23 Tryz.f178 [1,1,0,1,0,0]) (Z7 0 (Ul H0))) [(0,x0),(3,x3),(5,x5),(6,x6)] H
def Um:Z4:=Uv 178 23 (sub (Z1 Tryz.f178) [1,1,0,1,0,0]) (Z7 0 (Ul H0)) [(0,x0),(3,x3),(5,x5)] H
def Zbn:Z4:=
 Um p0 (.int .i64 0) (.int .i64 0) H H
theorem HM:Tb x3 H0 H =
 some (x3,H):=Za [4,8,9]
theorem D5:K0 x0 x3 x5 H0 H =
 Z0 (Z5 .add x5 (.int .i64 1)) fun g=>
 Um x0 x3 g H0 H:=Za [4,8,9]
theorem HN:Tc x0 x3 x5 x6 H0 H =
 Z0 (Z5 .mul x3 (.int .i64 10)) fun t9=>
 Z0 (Zl .string x0) fun g=>
 Z0 (Z5 .lss x5 g) fun j=>
 Zk j
 (Z0 (Zz x0 x5) fun u=>
 Z0 (Z5 .sub u (.int .u8 48)) fun w=>
 Z0 (Wh .i64 w) fun y=>
 Z0 (Z5 .add t9 y) fun z=>
 K0 x0 z x5 H0 H)
 (K0 x0 t9 x5 H0 H):=Za [4,8,9]
theorem D6:Um x0 x3 x5 H0 H =
 Z0 (Z5 .lss x5 (.int .i64 4)) fun g=>
 Zk g
 (Tc x0 x3 x5 g H0 H)
 (Tb x3 H0 H):=(ZD (C:=cfg) [4,8,9] (Zm 0 (E1 H0)) _ _).trans (by kernel_rfl)
theorem An:KB [p0] H=Zbn p0 H:=Be 23 [4,8,9] Tryz.func178
def ZbP:Z4:=ZH 184 8 (sub (Z1 Tryz.f184) [1,1]) (Zh cfg 8 184 Tryz.f184 H0) [(1,x1),(2,x2)] H
def Hq:Z4:=
 Z0 (ZN p0 H) fun u=>
 Z0 (some ((.ptr u.2.length 0),u.2++[.cells [(.str []),.nils,(.str []),(.str []),.nils,.nils]])) fun j=>
 Z0 (Z3 true 6 u.1 j.2) fun t3=>
 Z0 (Zf Pj [t3] j.2) fun w=>
 Z0 (Z5 .neq w.1 (.int .i64 0)) fun t5=>
 Zk t5
 (Z0 (Zf Nk [] w.2) fun y=>
 Z0 (Ze 6 j.1 y.1 y.2) fun g=>
 Z0 (Z3 true 6 j.1 g.2) fun z=>
 some (z,g.2))
 (ZbP u.1 j.1 H w.2)
theorem Zgo:ZbP x1 x2 H0 H =
 Z0 (Z3 true 6 x1 H) fun j=>
 Z0 (Ze 6 x2 j H) fun g=>
 Z0 (Z3 true 6 x2 g.2) fun u=>
 some (u,g.2):=Za [3]
theorem Al:BQ [p0] H=Hq p0 H:=Be 8 [3] Tryz.func184
def ZbJ:Z4:=ZH 202 43 (sub (Z1 Tryz.f202) [1,1,1,1,1,1]) (Zh cfg 43 202 Tryz.f202 H0) [(1,x1)] H
def ZbI:Z4:=ZH 202 43 (sub (Z1 Tryz.f202) [1,1,1,1,1]) (Zh cfg 43 202 Tryz.f202 H0) [(1,x1)] H
def ZbH:Z4:=ZH 202 43 (sub (Z1 Tryz.f202) [1,1,1,1]) (Zh cfg 43 202 Tryz.f202 H0) [(1,x1)] H
def R0:KL:=Zc (Vx 202 43 Tryz.f202 [1,1,1,1]) (Zh cfg 43 202 Tryz.f202 H0)
theorem Ze0:ZX 43 (R0 H0):=Zx (C:=cfg) (kp:=cfg.keep 202) (sub (Z1 Tryz.f202) [1,1,1,1]) (ZA 202 Tryz.f202 H0)
def ZbL:Z4:=ZH 202 43 (sub (Z1 Tryz.f202) [1,1,1,0,1,0,0,1,1]) (Zc (YC 202 43 Tryz.f202 [1,1,1,0,1,0,0]) (Z7 0 (R0 H0))) [(1,x1),(3,x3)] H
def ZbK:Z4:=ZH 202 43 (sub (Z1 Tryz.f202) [1,1,1,0,1,0,0,1]) (Zc (YC 202 43 Tryz.f202 [1,1,1,0,1,0,0]) (Z7 0 (R0 H0))) [(1,x1),(3,x3)] H
def R1:Z4:=Uv 202 43 (sub (Z1 Tryz.f202) [1,1,1,0,1,0,0]) (Z7 0 (R0 H0)) [(1,x1),(3,x3)] H
def ZbG:Z4:=ZH 202 43 (sub (Z1 Tryz.f202) [1,1,1]) (Zh cfg 43 202 Tryz.f202 H0) [(1,x1)] H
def ZbF:Z4:=ZH 202 43 (sub (Z1 Tryz.f202) [1,1]) (Zh cfg 43 202 Tryz.f202 H0) [(1,x1)] H
def Zem:Z4:=
 Z0 (ZN p0 H) fun g=>
 Z0 (Z6 0 g.1) fun t5=>
 Z0 (Z3 false 1 t5 g.2) fun u=>
 Z0 (Zf KA [u] g.2) fun j=>
 Z0 (Xk .not j.1) fun w=>
 Zk w
 (some ((.int .i64 4),j.2))
 (ZbF g.1 H j.2)
theorem Zgl:ZbJ x1 H0 H =
 Z0 (Z6 5 x1) fun j=>
 Z0 (Z3 false 1 j H) fun u=>
 Z0 (Zf Ue [u] H) fun g=>
 some (g.1,g.2):=Za [3,5,7,8,10,12,15]
theorem Zgk:ZbI x1 H0 H =
 Z0 (Z6 4 x1) fun j=>
 Z0 (Z3 false 1 j H) fun u=>
 Z0 (Zf UE [u] H) fun g=>
 Z0 (Z5 .neq g.1 (.int .i64 0)) fun w=>
 Zk w
 (some (g.1,g.2))
 (ZbJ x1 H0 g.2):=Za [3,5,7,8,10,12,15]
theorem Zgj:ZbH x1 H0 H =
 Z0 (Z6 2 x1) fun j=>
 Z0 (Z3 false 1 j H) fun u=>
 Z0 (Zl .string u) fun w=>
 Z0 (Z5 .neq w (.int .i64 256)) fun g=>
 Z0 (Z8 g false (.tuple []) (Z6 3 x1)) fun y=>
 Z0 (Z8 g false (.tuple []) (Z3 false 1 y H)) fun z=>
 Z0 (Z8 g false (.tuple []) (Zl .string z)) fun A=>
 Z0 (Z8 g false (.tuple []) (Z5 .neq A (.int .i64 256))) fun B=>
 Z0 (Zj g (.bool true) B) fun C=>
 Zk C
 (some ((.int .i64 2),H))
 (ZbI x1 H0 H):=Za [3,5,7,8,10,12,15]
theorem Zgn:ZbL x1 x3 H0 H =
 Z0 (Z5 .add x3 (.int .i64 1)) fun g=>
 R1 x1 g H0 H:=Za [3,5,7,8,10,12,15]
theorem Zgm:ZbK x1 x3 H0 H =
 Z0 (Z6 1 x1) fun j=>
 Z0 (Z3 false 1 j H) fun u=>
 Z0 (Zp 1 u x3) fun w=>
 Z0 (Z3 false 1 w H) fun y=>
 Z0 (Zf BP [y] H) fun g=>
 Z0 (Xk .not g.1) fun z=>
 Zk z
 (some ((.int .i64 2),g.2))
 (ZbL x1 x3 H0 g.2):=Za [3,5,7,8,10,12,15]
theorem SU:R1 x1 x3 H0 H =
 Z0 (Z5 .lss x3 (.int .i64 256)) fun g=>
 Zk g
 (ZbK x1 x3 H0 H)
 (ZbH x1 H0 H):=(ZD (C:=cfg) [3,5,7,8,10,12,15] (Zm 0 (Ze0 H0)) _ _).trans (by kernel_rfl)
theorem Zgi:ZbG x1 H0 H =
 R1 x1 (.int .i64 0) H0 H:=Za [3,5,7,8,10,12,15]
theorem Zgh:ZbF x1 H0 H =
 Z0 (Z6 1 x1) fun t9=>
 Z0 (Z3 false 1 t9 H) fun g=>
 Z0 (Zl (.slice 3) g) fun j=>
 Z0 (Z5 .neq j (.int .i64 256)) fun u=>
 Zk u
 (some ((.int .i64 2),H))
 (ZbG x1 H0 H):=Za [3,5,7,8,10,12,15]
theorem Zi8:Pj [p0] H=Zem p0 H:=Be 43 [3,5,7,8,10,12,15] Tryz.func202
def Zen:Z4:=
 Z0 (ZN p0 H) fun g=>
 Z0 (Z3 true 6 g.1 g.2) fun t5=>
 Z0 (Zf BQ [t5] g.2) fun j=>
 Z0 (TG false 1 3 j.1) fun w=>
 Z0 (Zf Lk [w,p1] j.2) fun u=>
 some (u.1,u.2)
theorem Zi9:Zek [p0,p1] H=Zen p0 p1 H:=Be 10 [] Tryz.func207
def Za2:Z4:=ZH 213 59 (sub (Z1 Tryz.f213) [1,1,1]) (Zh cfg 59 213 Tryz.f213 H0) [] H
def DD:KL:=Zc (Vx 213 59 Tryz.f213 [1,1,1]) (Zh cfg 59 213 Tryz.f213 H0)
theorem ZbN:ZX 59 (DD H0):=Zx (C:=cfg) (kp:=cfg.keep 213) (sub (Z1 Tryz.f213) [1,1,1]) (ZA 213 Tryz.f213 H0)
def Nq:Z4:=ZH 213 59 (sub (Z1 Tryz.f213) [1,1,0,1,0,0,1,1]) (Zc (YC 213 59 Tryz.f213 [1,1,0,1,0,0]) (Z7 0 (DD H0))) [(0,x0),(3,x3)] H
def Np:Z4:=ZH 213 59 (sub (Z1 Tryz.f213) [1,1,0,1,0,0,1]) (Zc (YC 213 59 Tryz.f213 [1,1,0,1,0,0]) (Z7 0 (DD H0))) [(0,x0),(3,x3)] H
def DE:Z4:=Uv 213 59 (sub (Z1 Tryz.f213) [1,1,0,1,0,0]) (Z7 0 (DD H0)) [(0,x0),(3,x3)] H
def Za1:Z4:=ZH 213 59 (sub (Z1 Tryz.f213) [1,1]) (Zh cfg 59 213 Tryz.f213 H0) [(0,x0)] H
def Zbl:Z4:=
 Z0 (Zl .string p0) fun J=>
 Z0 (Z5 .eql J (.int .i64 0)) fun u=>
 Z0 (Z8 u false (.tuple []) (some p0)) fun t9=>
 Z0 (Z8 u false (.tuple []) (Zl .string t9)) fun w=>
 Z0 (Z8 u false (.tuple []) (Z5 .gtr w (.int .i64 32))) fun y=>
 Z0 (Zj u (.bool true) y) fun g=>
 Z0 (Z8 g false (.tuple []) (some p0)) fun z=>
 Z0 (Z8 g false (.tuple []) (Zz z (.int .i64 0))) fun A=>
 Z0 (Z8 g false (.tuple []) (Z5 .geq A (.int .u8 48))) fun B=>
 Z0 (Z8 g false (.tuple []) (some B)) fun j=>
 Z0 (Z8 j true (.tuple []) (some p0)) fun C=>
 Z0 (Z8 j true (.tuple []) (Zz C (.int .i64 0))) fun D=>
 Z0 (Z8 j true (.tuple []) (Z5 .leq D (.int .u8 57))) fun E=>
 Z0 (Z8 g false (.tuple []) (Zj j E (.bool false))) fun F=>
 Z0 (Zj g (.bool true) F) fun I=>
 Zk I
 (some ((.bool false),H))
 (Za1 p0 H H)
theorem Zf3:Za2 H0 H =
 some ((.bool true),H):=Za [3,5,6,9]
theorem Zf5:Nq x0 x3 H0 H =
 Z0 (Z5 .add x3 (.int .i64 1)) fun g=>
 DE x0 g H0 H:=Za [3,5,6,9]
theorem Zf4:Np x0 x3 H0 H =
 Z0 (Zz x0 x3) fun g=>
 Z0 (Z5 .geq g (.int .u8 97)) fun u=>
 Z0 (Z8 u true (.tuple []) (some g)) fun A=>
 Z0 (Z8 u true (.tuple []) (Z5 .leq A (.int .u8 122))) fun B=>
 Z0 (Zj u B (.bool false)) fun t37=>
 Z0 (Z8 t37 false (.tuple []) (some g)) fun C=>
 Z0 (Z8 t37 false (.tuple []) (Z5 .geq C (.int .u8 65))) fun D=>
 Z0 (Z8 t37 false (.tuple []) (some D)) fun w=>
 Z0 (Z8 w true (.tuple []) (some g)) fun E=>
 Z0 (Z8 w true (.tuple []) (Z5 .leq E (.int .u8 90))) fun F=>
 Z0 (Z8 t37 false (.tuple []) (Zj w F (.bool false))) fun I=>
 Z0 (Zj t37 (.bool true) I) fun j=>
 Z0 (Z8 j false (.tuple []) (some g)) fun J=>
 Z0 (Z8 j false (.tuple []) (Z5 .geq J (.int .u8 48))) fun K=>
 Z0 (Z8 j false (.tuple []) (some K)) fun y=>
 Z0 (Z8 y true (.tuple []) (some g)) fun L=>
 Z0 (Z8 y true (.tuple []) (Z5 .leq L (.int .u8 57))) fun M=>
 Z0 (Z8 j false (.tuple []) (Zj y M (.bool false))) fun N=>
 Z0 (Zj j (.bool true) N) fun z=>
 Z0 (Z8 z false (.tuple []) (some g)) fun O=>
 Z0 (Z8 z false (.tuple []) (Z5 .eql O (.int .u8 95))) fun Q=>
 Z0 (Zj z (.bool true) Q) fun R=>
 Z0 (Xk .not R) fun S=>
 Zk S
 (some ((.bool false),H))
 (Nq x0 x3 H0 H):=Za [3,5,6,9]
theorem LK:DE x0 x3 H0 H =
 Z0 (Zl .string x0) fun g=>
 Z0 (Z5 .lss x3 g) fun j=>
 Zk j
 (Np x0 x3 H0 H)
 (Za2 H0 H):=(ZD (C:=cfg) [3,5,6,9] (Zm 0 (ZbN H0)) _ _).trans (by kernel_rfl)
theorem Zf2:Za1 x0 H0 H =
 DE x0 (.int .i64 0) H0 H:=Za [3,5,6,9]
theorem Zg4:KA [p0] H=Zbl p0 H:=Be 59 [3,5,6,9] Tryz.func213
def Zeo:Z4:=
 Z0 (Z5 .geq p0 (.int .i64 0)) fun t4=>
 Z0 (Z8 t4 true (.tuple []) (some p0)) fun g=>
 Z0 (Z8 t4 true (.tuple []) (Z5 .leq g (.int .i64 65535))) fun j=>
 Z0 (Zj t4 j (.bool false)) fun u=>
 some (u,H)
theorem Zia:BP [p0] H=Zeo p0 H:=Be 9 [] Tryz.func214
def T6:Z4:=ZH 215 37 (sub (Z1 Tryz.f215) [1,1,1]) (Zh cfg 37 215 Tryz.f215 H0) [] H
def WM:KL:=Zc (Vx 215 37 Tryz.f215 [1,1,1]) (Zh cfg 37 215 Tryz.f215 H0)
theorem KM:ZX 37 (WM H0):=Zx (C:=cfg) (kp:=cfg.keep 215) (sub (Z1 Tryz.f215) [1,1,1]) (ZA 215 Tryz.f215 H0)
def JZ:Z4:=ZH 215 37 (sub (Z1 Tryz.f215) [1,1,0,1,0,0,1,1]) (Zc (YC 215 37 Tryz.f215 [1,1,0,1,0,0]) (Z7 0 (WM H0))) [(0,x0),(3,x3)] H
def WN:KL:=Zc (Vx 215 37 Tryz.f215 [1,1,0,1,0,0,1,1]) (Zc (YC 215 37 Tryz.f215 [1,1,0,1,0,0]) (Z7 0 (WM H0)))
theorem LM:ZX 37 (WN H0):=Zx (C:=cfg) (kp:=cfg.keep 215) (sub (Z1 Tryz.f215) [1,1,0,1,0,0,1,1]) (Nh (C:=cfg) (kp:=cfg.keep 215) (sub (Z1 Tryz.f215) [1,1,0,1,0,0]) (Zm 0 (KM H0)))
def Ta:Z4:=ZH 215 37 (sub (Z1 Tryz.f215) [1,1,0,1,0,0,1,0,0,1,1,0,0,1,1]) (Zc (YC 215 37 Tryz.f215 [1,1,0,1,0,0,1,0,0,1,1,0,0]) (Z7 2 (Z7 1 (WN H0)))) [(0,x0),(3,x3),(4,x4)] H
def T9:Z4:=ZH 215 37 (sub (Z1 Tryz.f215) [1,1,0,1,0,0,1,0,0,1,1,0,0,1]) (Zc (YC 215 37 Tryz.f215 [1,1,0,1,0,0,1,0,0,1,1,0,0]) (Z7 2 (Z7 1 (WN H0)))) [(0,x0),(3,x3),(4,x4)] H
def Uj:Z4:=Uv 215 37 (sub (Z1 Tryz.f215) [1,1,0,1,0,0,1,0,0,1,1,0,0]) (Z7 2 (Z7 1 (WN H0))) [(0,x0),(3,x3),(4,x4)] H
def T8:Z4:=ZH 215 37 (sub (Z1 Tryz.f215) [1,1,0,1,0,0,1,0,0,1]) (Z7 1 (WN H0)) [(0,x0),(3,x3)] H
def T7:Z4:=ZH 215 37 (sub (Z1 Tryz.f215) [1,1,0,1,0,0,1]) (Zc (YC 215 37 Tryz.f215 [1,1,0,1,0,0]) (Z7 0 (WM H0))) [(0,x0),(3,x3)] H
def Ui:Z4:=Uv 215 37 (sub (Z1 Tryz.f215) [1,1,0,1,0,0]) (Z7 0 (WM H0)) [(0,x0),(3,x3)] H
def T5:Z4:=ZH 215 37 (sub (Z1 Tryz.f215) [1,1]) (Zh cfg 37 215 Tryz.f215 H0) [(0,x0)] H
def PC:Z4:=
 Z0 (Zl (.slice 246) p0) fun g=>
 Z0 (Z5 .gtr g (.int .i64 24)) fun j=>
 Zk j
 (some ((.int .i64 3),H))
 (T5 p0 H H)
theorem Hx:T6 H0 H =
 some ((.int .i64 0),H):=Za [3,5,6,8,10,11,13]
theorem HA:JZ x0 x3 H0 H =
 Z0 (Z5 .add x3 (.int .i64 1)) fun g=>
 Ui x0 g H0 H:=Za [3,5,6,8,10,11,13]
theorem HE:Ta x0 x3 x4 H0 H =
 Z0 (Z5 .add x4 (.int .i64 1)) fun g=>
 Uj x0 x3 g H0 H:=Za [3,5,6,8,10,11,13]
theorem HD:T9 x0 x3 x4 H0 H =
 Z0 (Zp 5 x0 x4) fun g=>
 Z0 (Z6 0 g) fun j=>
 Z0 (Z3 false 1 j H) fun u=>
 Z0 (Zp 5 x0 x3) fun w=>
 Z0 (Z6 0 w) fun y=>
 Z0 (Z3 false 1 y H) fun z=>
 Z0 (Xe .eql u z) fun A=>
 Zk A
 (some ((.int .i64 6),H))
 (Ta x0 x3 x4 H0 H):=Za [3,5,6,8,10,11,13]
theorem D2:Uj x0 x3 x4 H0 H =
 Z0 (Z5 .lss x4 x3) fun g=>
 Zk g
 (T9 x0 x3 x4 H0 H)
 (JZ x0 x3 H0 H):=(ZD (C:=cfg) [3,5,6,8,10,11,13] (Zm 2 (Zm 1 (LM H0))) _ _).trans (by kernel_rfl)
theorem HC:T8 x0 x3 H0 H =
 Uj x0 x3 (.int .i64 0) H0 H:=Za [3,5,6,8,10,11,13]
theorem Hy:T7 x0 x3 H0 H =
 Z0 (Zp 5 x0 x3) fun j=>
 Z0 (Z6 0 j) fun u=>
 Z0 (Z3 false 1 u H) fun w=>
 Z0 (Zf KA [w] H) fun g=>
 Z0 (Xk .not g.1) fun y=>
 Zk y
 (some ((.int .i64 4),g.2))
 (T8 x0 x3 H0 g.2):=Za [3,5,6,8,10,11,13]
theorem BZ:Ui x0 x3 H0 H =
 Z0 (Zl (.slice 246) x0) fun g=>
 Z0 (Z5 .lss x3 g) fun j=>
 Zk j
 (T7 x0 x3 H0 H)
 (T6 H0 H):=(ZD (C:=cfg) [3,5,6,8,10,11,13] (Zm 0 (KM H0)) _ _).trans (by kernel_rfl)
theorem Hw:T5 x0 H0 H =
 Ui x0 (.int .i64 0) H0 H:=Za [3,5,6,8,10,11,13]
theorem Ak:UE [p0] H=PC p0 H:=Be 37 [3,5,6,8,10,11,13] Tryz.func215
def R3:Z4:=ZH 216 46 (sub (Z1 Tryz.f216) [1,1,1]) (Zh cfg 46 216 Tryz.f216 H0) [] H
def Wd:KL:=Zc (Vx 216 46 Tryz.f216 [1,1,1]) (Zh cfg 46 216 Tryz.f216 H0)
theorem K7:ZX 46 (Wd H0):=Zx (C:=cfg) (kp:=cfg.keep 216) (sub (Z1 Tryz.f216) [1,1,1]) (ZA 216 Tryz.f216 H0)
def J2:Z4:=ZH 216 46 (sub (Z1 Tryz.f216) [1,1,0,1,0,0,1,1]) (Zc (YC 216 46 Tryz.f216 [1,1,0,1,0,0]) (Z7 0 (Wd H0))) [(0,x0),(3,x3)] H
def We:KL:=Zc (Vx 216 46 Tryz.f216 [1,1,0,1,0,0,1,1]) (Zc (YC 216 46 Tryz.f216 [1,1,0,1,0,0]) (Z7 0 (Wd H0)))
theorem MF:ZX 46 (We H0):=Zx (C:=cfg) (kp:=cfg.keep 216) (sub (Z1 Tryz.f216) [1,1,0,1,0,0,1,1]) (Nh (C:=cfg) (kp:=cfg.keep 216) (sub (Z1 Tryz.f216) [1,1,0,1,0,0]) (Zm 0 (K7 H0)))
def R7:Z4:=ZH 216 46 (sub (Z1 Tryz.f216) [1,1,0,1,0,0,1,0,0,1,1,0,0,1,1]) (Zc (YC 216 46 Tryz.f216 [1,1,0,1,0,0,1,0,0,1,1,0,0]) (Z7 2 (Z7 1 (We H0)))) [(0,x0),(3,x3),(4,x4)] H
def R6:Z4:=ZH 216 46 (sub (Z1 Tryz.f216) [1,1,0,1,0,0,1,0,0,1,1,0,0,1]) (Zc (YC 216 46 Tryz.f216 [1,1,0,1,0,0,1,0,0,1,1,0,0]) (Z7 2 (Z7 1 (We H0)))) [(0,x0),(3,x3),(4,x4)] H
def VD:Z4:=Uv 216 46 (sub (Z1 Tryz.f216) [1,1,0,1,0,0,1,0,0,1,1,0,0]) (Z7 2 (Z7 1 (We H0))) [(0,x0),(3,x3),(4,x4)] H
def R5:Z4:=ZH 216 46 (sub (Z1 Tryz.f216) [1,1,0,1,0,0,1,0,0,1]) (Z7 1 (We H0)) [(0,x0),(3,x3)] H
def R4:Z4:=ZH 216 46 (sub (Z1 Tryz.f216) [1,1,0,1,0,0,1]) (Zc (YC 216 46 Tryz.f216 [1,1,0,1,0,0]) (Z7 0 (Wd H0))) [(0,x0),(3,x3)] H
def VC:Z4:=Uv 216 46 (sub (Z1 Tryz.f216) [1,1,0,1,0,0]) (Z7 0 (Wd H0)) [(0,x0),(3,x3)] H
def R2:Z4:=ZH 216 46 (sub (Z1 Tryz.f216) [1,1]) (Zh cfg 46 216 Tryz.f216 H0) [(0,x0)] H
def RX:Z4:=
 Z0 (Zl (.slice 189) p0) fun g=>
 Z0 (Z5 .gtr g (.int .i64 64)) fun j=>
 Zk j
 (some ((.int .i64 3),H))
 (R2 p0 H H)
theorem Sn:R3 H0 H =
 some ((.int .i64 0),H):=Za [3,5,6,8,10,11,13]
theorem Sp:J2 x0 x3 H0 H =
 Z0 (Z5 .add x3 (.int .i64 1)) fun g=>
 VC x0 g H0 H:=Za [3,5,6,8,10,11,13]
theorem Su:R7 x0 x3 x4 H0 H =
 Z0 (Z5 .add x4 (.int .i64 1)) fun g=>
 VD x0 x3 g H0 H:=Za [3,5,6,8,10,11,13]
theorem Sr:R6 x0 x3 x4 H0 H =
 Z0 (Zp 2 x0 x4) fun t37=>
 Z0 (Z6 0 t37) fun g=>
 Z0 (Z3 false 1 g H) fun j=>
 Z0 (Zp 2 x0 x3) fun u=>
 Z0 (Z6 0 u) fun w=>
 Z0 (Z3 false 1 w H) fun y=>
 Z0 (Xe .eql j y) fun z=>
 Zk z
 (some ((.int .i64 6),H))
 (R7 x0 x3 x4 H0 H):=Za [3,5,6,8,10,11,13]
theorem GH:VD x0 x3 x4 H0 H =
 Z0 (Z5 .lss x4 x3) fun g=>
 Zk g
 (R6 x0 x3 x4 H0 H)
 (J2 x0 x3 H0 H):=(ZD (C:=cfg) [3,5,6,8,10,11,13] (Zm 2 (Zm 1 (MF H0))) _ _).trans (by kernel_rfl)
theorem Sq:R5 x0 x3 H0 H =
 VD x0 x3 (.int .i64 0) H0 H:=Za [3,5,6,8,10,11,13]
theorem So:R4 x0 x3 H0 H =
 Z0 (Zp 2 x0 x3) fun u=>
 Z0 (Z6 0 u) fun w=>
 Z0 (Z3 false 1 w H) fun y=>
 Z0 (Zl .string y) fun z=>
 Z0 (Z5 .neq z (.int .i64 2)) fun g=>
 Z0 (Z8 g false (.tuple []) (some x0)) fun A=>
 Z0 (Z8 g false (.tuple []) (some x3)) fun B=>
 Z0 (Z8 g false (.tuple []) (Zp 2 A B)) fun C=>
 Z0 (Z8 g false (.tuple []) (Z6 1 C)) fun D=>
 Z0 (Z8 g false (.tuple []) (Z3 false 1 D H)) fun E=>
 Z0 (Z8 g false ((.tuple []),H) (Zf BP [E] H)) fun j=>
 Z0 (Z8 g false (.tuple []) (Xk .not j.1)) fun F=>
 Z0 (Zj g (.bool true) F) fun I=>
 Zk I
 (some ((.int .i64 2),j.2))
 (R5 x0 x3 H0 j.2):=Za [3,5,6,8,10,11,13]
theorem GG:VC x0 x3 H0 H =
 Z0 (Zl (.slice 189) x0) fun g=>
 Z0 (Z5 .lss x3 g) fun j=>
 Zk j
 (R4 x0 x3 H0 H)
 (R3 H0 H):=(ZD (C:=cfg) [3,5,6,8,10,11,13] (Zm 0 (K7 H0)) _ _).trans (by kernel_rfl)
theorem Sm:R2 x0 H0 H =
 VC x0 (.int .i64 0) H0 H:=Za [3,5,6,8,10,11,13]
theorem Ho:Ue [p0] H=RX p0 H:=Be 46 [3,5,6,8,10,11,13] Tryz.func216
def Za3:Z4:=ZH 219 23 (sub (Z1 Tryz.f219) [1,1,1]) (Zh cfg 23 219 Tryz.f219 H0) [(5,x5)] H
def DF:KL:=Zc (Vx 219 23 Tryz.f219 [1,1,1]) (Zh cfg 23 219 Tryz.f219 H0)
theorem ZbO:ZX 23 (DF H0):=Zx (C:=cfg) (kp:=cfg.keep 219) (sub (Z1 Tryz.f219) [1,1,1]) (ZA 219 Tryz.f219 H0)
def Za5:Z4:=ZH 219 23 (sub (Z1 Tryz.f219) [1,1,0,1,0,0,1,1]) (Zc (YC 219 23 Tryz.f219 [1,1,0,1,0,0]) (Z7 0 (DF H0))) [(0,x0),(1,x1),(5,x5),(6,x6)] H
def Za4:Z4:=ZH 219 23 (sub (Z1 Tryz.f219) [1,1,0,1,0,0,1]) (Zc (YC 219 23 Tryz.f219 [1,1,0,1,0,0]) (Z7 0 (DF H0))) [(0,x0),(1,x1),(5,x5),(6,x6)] H
def DG:Z4:=Uv 219 23 (sub (Z1 Tryz.f219) [1,1,0,1,0,0]) (Z7 0 (DF H0)) [(0,x0),(1,x1),(5,x5),(6,x6)] H
def Zbm:Z4:=
 DG p0 p1 .nils (.int .i64 0) H H
theorem Zf6:Za3 x5 H0 H =
 Z0 (Bv x5 H) fun g=>
 some (g,H):=Za [4,5,6]
theorem Zf8:Za5 x0 x1 x5 x6 H0 H =
 Z0 (Z5 .add x6 (.int .i64 1)) fun g=>
 DG x0 x1 x5 g H0 H:=Za [4,5,6]
theorem Zf7:Za4 x0 x1 x5 x6 H0 H =
 Z0 (Zz x1 x6) fun j=>
 Z0 (Zz x0 j) fun u=>
 Z0 ((ZE 1 [(0,u)] [(.int .u8 0)]).map (.vs 1 .clip)) fun w=>
 Z0 (Ym 1 1 x5 w H) fun g=>
 Za5 x0 x1 g.1 x6 H0 g.2:=Za [4,5,6]
theorem LN:DG x0 x1 x5 x6 H0 H =
 Z0 (Zl .string x1) fun t9=>
 Z0 (Z5 .lss x6 t9) fun g=>
 Zk g
 (Za4 x0 x1 x5 x6 H0 H)
 (Za3 x5 H0 H):=(ZD (C:=cfg) [4,5,6] (Zm 0 (ZbO H0)) _ _).trans (by kernel_rfl)
theorem Zg5:Lk [p0,p1] H=Zbm p0 p1 H:=Be 23 [4,5,6] Tryz.func219
end
end Go.Am
