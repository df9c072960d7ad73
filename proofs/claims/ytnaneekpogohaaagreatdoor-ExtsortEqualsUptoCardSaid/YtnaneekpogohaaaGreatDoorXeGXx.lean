/- The functions of the translation over the abstract machine -/
import Derived.Test.YtnaneekpogohaaaGreatDoorXeGx
namespace Go.Am
open Go.Proofs
set_option maxRecDepth 100000
noncomputable abbrev ZV (f n:Nat):=Y9 cfg (Z9 cfg) (Y6 cfg (cfg.keep f) n) (cfg.keep f) n Zc Z7
noncomputable abbrev DP (f n:Nat):=Y6 cfg (cfg.keep f) n
noncomputable section
abbrev Fz (f n:Nat)(F:Func)(p:List Nat):KL->AL->Hp->Z3:=fun k g H=>ZV f n (sub (Z1 F) p) k (ZU (cfg.keep f) (sub (Z1 F) p) g) H
abbrev Wy (f n:Nat)(F:Func)(p:List Nat):KL->AL->Hp->Z3:=fun k g H=>DP f n (sub (Z1 F) p) k (ZU (cfg.keep f) (sub (Z1 F) p) g) H
variable (p0 p1 p2 p3 p4 x0 x1 x3 x4 x5 x6 x7 x8 x9 x10 x11 x12 x13 x14 x15 x16 x17 x18 x19 x20 x21 x22 x23 x25 x26 x27 x28 x31 x32 x33 x34 x35 x48 x49 x50 x51:AV)(H0 H:Hp)
def Vg:Z3:=ZV 20 86 (sub (Un cfg 20 Tryz.f20) [1,1,1,1,1,1,1]) (Zh cfg 86 20 Tryz.f20 H0) [(10,x10),(11,x11),(12,x12),(35,x35)] H
def Vh:KL:=Zc (fun k g H=>ZV 20 86 (sub (Un cfg 20 Tryz.f20) [1,1,1,1,1,1,1]) k (ZU (cfg.keep 20) (sub (Un cfg 20 Tryz.f20) [1,1,1,1,1,1,1]) g) H) (Zh cfg 86 20 Tryz.f20 H0)
theorem O9:ZW 86 (Vh H0):=Zy (C:=cfg) (kp:=cfg.keep 20) (sub (Un cfg 20 Tryz.f20) [1,1,1,1,1,1,1]) (ZB 20 Tryz.f20 H0)
def Ch:Z3:=ZV 20 86 (sub (Un cfg 20 Tryz.f20) [1,1,1,1,1,1,0,0,1,1,1,1,1,1,1]) (Z7 900001 (Vh H0)) [(10,x10),(11,x11),(12,x12),(16,x16),(35,x35)] H
def Cg:Z3:=ZV 20 86 (sub (Un cfg 20 Tryz.f20) [1,1,1,1,1,1,0,0,1,1,1,1,1]) (Z7 900001 (Vh H0)) [(10,x10),(11,x11),(12,x12),(14,x14),(15,x15),(16,x16),(35,x35)] H
def Kg:Z3:=ZV 20 86 (sub (Un cfg 20 Tryz.f20) [1,1,1,1,1,1,0,0,1,1,1]) (Z7 900001 (Vh H0)) [(11,x11),(12,x12),(14,x14),(15,x15),(16,x16),(35,x35)] H
def Ro:KL:=Zc (fun k g H=>ZV 20 86 (sub (Un cfg 20 Tryz.f20) [1,1,1,1,1,1,0,0,1,1,1]) k (ZU (cfg.keep 20) (sub (Un cfg 20 Tryz.f20) [1,1,1,1,1,1,0,0,1,1,1]) g) H) (Z7 900001 (Vh H0))
theorem Oa:ZW 86 (Ro H0):=Zy (C:=cfg) (kp:=cfg.keep 20) (sub (Un cfg 20 Tryz.f20) [1,1,1,1,1,1,0,0,1,1,1]) (Zn 900001 (O9 H0))
def Ci:Z3:=ZV 20 86 (sub (Un cfg 20 Tryz.f20) [1,1,1,1,1,1,0,0,1,1,0,0,0,1]) (Zc (fun k g H=>DP 20 86 (sub (Un cfg 20 Tryz.f20) [1,1,1,1,1,1,0,0,1,1,0,0,0]) k (ZU (cfg.keep 20) (sub (Un cfg 20 Tryz.f20) [1,1,1,1,1,1,0,0,1,1,0,0,0]) g) H) (Z7 0 (Ro H0))) [(8,x8),(11,x11),(12,x12),(14,x14),(15,x15),(16,x16),(35,x35)] H
def Kh:Z3:=DP 20 86 (sub (Un cfg 20 Tryz.f20) [1,1,1,1,1,1,0,0,1,1,0,0,0]) (Z7 0 (Ro H0)) [(8,x8),(11,x11),(12,x12),(14,x14),(15,x15),(16,x16),(35,x35)] H
def Cf:Z3:=ZV 20 86 (sub (Un cfg 20 Tryz.f20) [1,1,1,1,1,1,0,0,1,1]) (Z7 900001 (Vh H0)) [(8,x8),(11,x11),(12,x12),(14,x14),(15,x15),(16,x16),(35,x35)] H
def Ce:Z3:=ZV 20 86 (sub (Un cfg 20 Tryz.f20) [1,1,1,1]) (Zh cfg 86 20 Tryz.f20 H0) [(4,x4),(6,x6),(7,x7),(8,x8),(11,x11),(12,x12),(14,x14)] H
def Cd:Z3:=ZV 20 86 (sub (Un cfg 20 Tryz.f20) [1,1]) (Zh cfg 86 20 Tryz.f20 H0) [(0,x0),(4,x4),(6,x6),(7,x7),(8,x8),(11,x11),(12,x12)] H
def Aj:Z3:=
 Z0 (ZM p1 H) fun J=>
 Z0 (ZM p2 J.2) fun A=>
 Z0 (ZM p3 A.2) fun z=>
 Z0 (some ((.ptr z.2.length 0),z.2++[.cells [(.int .i64 0),(.int .i64 0),(.int .i64 0),(.int .i64 0)]])) fun j=>
 Z0 (some ((.ptr j.2.length 0),j.2++[.cells [(.int .i64 0)]])) fun g=>
 Z0 (Z4 true 5 A.1 g.2) fun B=>
 Z0 (Z4 true 2 z.1 g.2) fun C=>
 Z0 (FE [p0,B,C,p4] g.2) fun w=>
 Z0 (Z5 .neq w.1 (.int .i64 0)) fun D=>
 Zl D
 (Z0 (some (.agg [(.int .i64 0),(.int .i64 0),(.int .i64 0),(.int .i64 0)])) fun E=>
 Z0 (Ze 4 j.1 E w.2) fun y=>
 Z0 (Ze 1 g.1 w.1 y.2) fun u=>
 Z0 (Z4 true 4 j.1 u.2) fun F=>
 Z0 (Z4 false 1 g.1 u.2) fun I=>
 some ((.tuple [.nils,F,I]),u.2))
 (Cd p0 p4 J.1 A.1 z.1 j.1 g.1 H w.2)
theorem Zcj:Vg x10 x11 x12 x35 H0 H =
 Z0 (Ym cfg (Z9 cfg) x35 [] H) fun g=>
 Z0 (Z4 true 4 x11 g.2) fun j=>
 Z0 (Z4 false 1 x12 g.2) fun u=>
 some ((.tuple [x10,j,u]),g.2):=Za [4,7,13,14,17,20,24,900002]
theorem Zcn:Ch x10 x11 x12 x16 x35 H0 H =
 Z0 (Zu x16) fun u=>
 Z0 (Z6 13 u) fun w=>
 Z0 (Z4 true 4 w H) fun y=>
 Z0 (Ze 4 x11 y H) fun g=>
 Z0 (Ze 1 x12 (.int .i64 0) g.2) fun j=>
 Vg x10 x11 x12 x35 H0 j.2:=Za [4,7,13,14,17,20,24,900002]
theorem Zcm:Cg x10 x11 x12 x14 x15 x16 x35 H0 H =
 Z0 (Ze 1 x15 (.bool true) H) fun j=>
 Z0 (Z4 false 1 x14 j.2) fun z=>
 Z0 (WW [z] j.2) fun u=>
 Z0 (Ze 1 x12 u.1 u.2) fun g=>
 Z0 (Z4 false 1 x12 g.2) fun A=>
 Z0 (Z5 .neq A (.int .i64 0)) fun B=>
 Zl B
 (Z0 (Sb x12 x11) fun _=>
 Z0 (some (.agg [(.int .i64 0),(.int .i64 0),(.int .i64 0),(.int .i64 0)])) fun C=>
 Z0 (Z4 false 1 x12 g.2) fun D=>
 Z0 (Ze 4 x11 C g.2) fun w=>
 Z0 (Ze 1 x12 D w.2) fun y=>
 Vg .nils x11 x12 x35 H0 y.2)
 (Ch x10 x11 x12 x16 x35 H0 g.2):=Za [4,7,13,14,17,20,24,900002]
theorem Zcl:Kg x11 x12 x14 x15 x16 x35 H0 H =
 Z0 (Qa [x16] H) fun j=>
 Z0 (ZQ j.1 0) fun y=>
 Z0 (ZQ j.1 1) fun t70=>
 Z0 (Ze 1 x12 t70 j.2) fun g=>
 Z0 (Z4 false 1 x12 g.2) fun z=>
 Z0 (Z5 .neq z (.int .i64 0)) fun t72=>
 Zl t72
 (Z0 (Sb x12 x11) fun _=>
 Z0 (some (.agg [(.int .i64 0),(.int .i64 0),(.int .i64 0),(.int .i64 0)])) fun A=>
 Z0 (Z4 false 1 x12 g.2) fun B=>
 Z0 (Ze 4 x11 A g.2) fun u=>
 Z0 (Ze 1 x12 B u.2) fun w=>
 Vg .nils x11 x12 x35 H0 w.2)
 (Cg y x11 x12 x14 x15 x16 x35 H0 g.2):=Za [4,7,13,14,17,20,24,900002]
theorem Zco:Ci x8 x11 x12 x14 x15 x16 x35 H0 H =
 Z0 (Z6 1 x8) fun y=>
 Z0 (Z4 false 1 y H) fun z=>
 Z0 (Qz [x16,z] H) fun j=>
 Z0 (Ze 1 x12 j.1 j.2) fun g=>
 Z0 (Z4 false 1 x12 g.2) fun A=>
 Z0 (Z5 .neq A (.int .i64 0)) fun B=>
 Zl B
 (Z0 (Sb x12 x11) fun _=>
 Z0 (some (.agg [(.int .i64 0),(.int .i64 0),(.int .i64 0),(.int .i64 0)])) fun C=>
 Z0 (Z4 false 1 x12 g.2) fun D=>
 Z0 (Ze 4 x11 C g.2) fun u=>
 Z0 (Ze 1 x12 D u.2) fun w=>
 Vg .nils x11 x12 x35 H0 w.2)
 (Kh x8 x11 x12 x14 x15 x16 x35 H0 g.2):=Za [4,7,13,14,17,20,24,900002]
theorem KT:Kh x8 x11 x12 x14 x15 x16 x35 H0 H =
 Z0 (Zu x16) fun g=>
 Z0 (Z6 12 g) fun j=>
 Z0 (Z4 false 1 j H) fun u=>
 Z0 (Zk (.slice 9) u) fun w=>
 Z0 (Z6 1 x8) fun y=>
 Z0 (Z4 false 1 y H) fun z=>
 Z0 (Z5 .gtr w z) fun A=>
 Zl A
 (Ci x8 x11 x12 x14 x15 x16 x35 H0 H)
 (Kg x11 x12 x14 x15 x16 x35 H0 H):=(ZD (C:=cfg) [4,7,13,14,17,20,24,900002] (Zn 0 (Oa H0)) _ _).trans (by kernel_rfl)
theorem Zck:Cf x8 x11 x12 x14 x15 x16 x35 H0 H =
 Kh x8 x11 x12 x14 x15 x16 x35 H0 H:=Za [4,7,13,14,17,20,24,900002]
theorem Zci:Ce x4 x6 x7 x8 x11 x12 x14 H0 H =
 Z0 (some ((.ptr H.length 0),H++[.cells [(.bool false)]])) fun u=>
 Z0 (Ze 1 u.1 (.bool false) u.2) fun g=>
 Z0 (some (.fn (.func 44) [] [x12,u.1,x14])) fun B=>
 Z0 (Z4 false 1 x14 g.2) fun C=>
 Z0 (Z4 true 6 x6 g.2) fun t37=>
 Z0 (Z4 true 5 x7 g.2) fun D=>
 Z0 ((Xh [(0,1,C),(1,6,t37),(7,5,D)] [.nilp,(.str []),.nils,(.str []),(.str []),.nils,.nils,.nils,(.int .i64 0),(.int .i64 0),(.bool false),(.bool false),.nils,(.int .i64 0),(.int .i64 0),(.int .i64 0),(.int .i64 0)]).map .agg) fun E=>
 Z0 (ZM E g.2) fun w=>
 Z0 (Z6 0 x8) fun F=>
 Z0 (Z4 false 1 F w.2) fun I=>
 Z0 (Qb [w.1,x4,I] w.2) fun y=>
 Z0 (Ze 1 x12 y.1 y.2) fun j=>
 Z0 (Z4 false 1 x12 j.2) fun J=>
 Z0 (Z5 .neq J (.int .i64 0)) fun K=>
 Zl K
 (Z0 (Sb x12 x11) fun _=>
 Z0 (some (.agg [(.int .i64 0),(.int .i64 0),(.int .i64 0),(.int .i64 0)])) fun L=>
 Z0 (Z4 false 1 x12 j.2) fun M=>
 Z0 (Ze 4 x11 L j.2) fun z=>
 Z0 (Ze 1 x12 M z.2) fun A=>
 Vg .nils x11 x12 B H0 A.2)
 (Cf x8 x11 x12 x14 u.1 w.1 B H0 j.2):=Za [4,7,13,14,17,20,24,900002]
theorem Zch:Cd x0 x4 x6 x7 x8 x11 x12 H0 H =
 Z0 (UN [x0,(.str [115,111,114,116]),(.int .i64 262144)] H) fun u=>
 Z0 (ZQ u.1 0) fun A=>
 Z0 (ZQ u.1 1) fun B=>
 Z0 (some ((.ptr u.2.length 0),u.2++[.cells [.nilp]])) fun w=>
 Z0 (Ze 1 w.1 A w.2) fun y=>
 Z0 (Ze 1 x12 B y.2) fun g=>
 Z0 (Z4 false 1 x12 g.2) fun C=>
 Z0 (Z5 .neq C (.int .i64 0)) fun D=>
 Zl D
 (Z0 (Sb x12 x11) fun _=>
 Z0 (some (.agg [(.int .i64 0),(.int .i64 0),(.int .i64 0),(.int .i64 0)])) fun E=>
 Z0 (Z4 false 1 x12 g.2) fun F=>
 Z0 (Ze 4 x11 E g.2) fun z=>
 Z0 (Ze 1 x12 F z.2) fun j=>
 Z0 (Z4 true 4 x11 j.2) fun I=>
 Z0 (Z4 false 1 x12 j.2) fun J=>
 some ((.tuple [.nils,I,J]),j.2))
 (Ce x4 x6 x7 x8 x11 x12 w.1 H0 g.2):=Za [4,7,13,14,17,20,24,900002]
theorem ZdA:Ty [p0,p1,p2,p3,p4] H=Aj p0 p1 p2 p3 p4 H:=(Zd (C:=cfg) (fn:=Tryz.f20) (c:=Un cfg 20 Tryz.f20) (n:=86) [4,7,13,14,17,20,24,900002] Tryz.func20 (by kernel_rfl) (by kernel_rfl) [p0,p1,p2,p3,p4] (by kernel_rfl) H).trans (by kernel_rfl)
def Ec:Z3:=ZV 42 35 (sub (Z1 Tryz.f42) [1,1,1,1,1,1]) (Zh cfg 35 42 Tryz.f42 H0) [] H
def J7:KL:=Zc (Fz 42 35 Tryz.f42 [1,1,1,1,1,1]) (Zh cfg 35 42 Tryz.f42 H0)
theorem AJ:ZW 35 (J7 H0):=Zy (C:=cfg) (kp:=cfg.keep 42) (sub (Z1 Tryz.f42) [1,1,1,1,1,1]) (ZB 42 Tryz.f42 H0)
def Ee:Z3:=ZV 42 35 (sub (Z1 Tryz.f42) [1,1,1,1,1,0,1,0,0,1,1,1]) (Zc (Wy 42 35 Tryz.f42 [1,1,1,1,1,0,1,0,0]) (Z7 0 (J7 H0))) [(25,x25),(26,x26),(27,x27)] H
def Ed:Z3:=ZV 42 35 (sub (Z1 Tryz.f42) [1,1,1,1,1,0,1,0,0,1,1]) (Zc (Wy 42 35 Tryz.f42 [1,1,1,1,1,0,1,0,0]) (Z7 0 (J7 H0))) [(25,x25),(26,x26),(27,x27),(28,x28)] H
def J8:Z3:=DP 42 35 (sub (Z1 Tryz.f42) [1,1,1,1,1,0,1,0,0]) (Z7 0 (J7 H0)) [(25,x25),(26,x26),(27,x27)] H
def Eb:Z3:=ZV 42 35 (sub (Z1 Tryz.f42) [1,1,1,1,1]) (Zh cfg 35 42 Tryz.f42 H0) [(3,x3)] H
def Ea:Z3:=ZV 42 35 (sub (Z1 Tryz.f42) [1,1,1,1]) (Zh cfg 35 42 Tryz.f42 H0) [(3,x3)] H
def E9:Z3:=ZV 42 35 (sub (Z1 Tryz.f42) [1,1,1]) (Zh cfg 35 42 Tryz.f42 H0) [(3,x3),(6,x6)] H
def E8:Z3:=ZV 42 35 (sub (Z1 Tryz.f42) [1,1]) (Zh cfg 35 42 Tryz.f42 H0) [(3,x3),(5,x5),(6,x6)] H
def SH:Z3:=
 Z0 (ZM p1 H) fun u=>
 Z0 (ZM p2 u.2) fun g=>
 Z0 (YC (.pointer 82) .eql p0 .nilp) fun j=>
 Zl j
 (some ((.int .i64 5),g.2))
 (E8 p3 u.1 g.1 H g.2)
theorem ZaD:Ec H0 H =
 some ((.int .i64 0),H):=Za [3,6,8,10,12,15,16]
theorem ZaE:Ee x25 x26 x27 H0 H =
 Z0 (Z5 .add x27 (.int .i64 1)) fun g=>
 J8 x25 x26 g H0 H:=Za [3,6,8,10,12,15,16]
theorem Tc:Ed x25 x26 x27 x28 H0 H =
 Z0 (Zo 1 x25 x27) fun g=>
 Z0 (Z4 false 1 g H) fun j=>
 Z0 (Zk .string j) fun u=>
 Z0 (Z5 .gtr u (.int .i64 4096)) fun w=>
 Zl w
 (some ((.int .i64 3),H))
 (Ee x25 x26 x27 H0 H):=Za [3,6,8,10,12,15,16]
theorem Td:J8 x25 x26 x27 H0 H =
 Z0 (Z5 .lss x27 x26) fun g=>
 Zl g
 (Ed x25 x26 x27 g H0 H)
 (Ec H0 H):=(ZD (C:=cfg) [3,6,8,10,12,15,16] (Zn 0 (AJ H0)) _ _).trans (by kernel_rfl)
theorem ZaC:Eb x3 H0 H =
 Z0 (Zk (.slice 9) x3) fun g=>
 J8 x3 g (.int .i64 0) H0 H:=Za [3,6,8,10,12,15,16]
theorem Tb:Ea x3 H0 H =
 Z0 (Zk (.slice 9) x3) fun g=>
 Z0 (Z5 .gtr g (.int .i64 8192)) fun j=>
 Zl j
 (some ((.int .i64 3),H))
 (Eb x3 H0 H):=Za [3,6,8,10,12,15,16]
theorem K5:E9 x3 x6 H0 H =
 Z0 (Z4 true 2 x6 H) fun j=>
 Z0 (Zf FI [j] H) fun g=>
 Z0 (Xo .not g.1) fun u=>
 Zl u
 (some ((.int .i64 2),g.2))
 (Ea x3 H0 g.2):=Za [3,6,8,10,12,15,16]
theorem Uq:E8 x3 x5 x6 H0 H =
 Z0 (Z4 true 5 x5 H) fun j=>
 Z0 (Zf Wa [j] H) fun g=>
 Z0 (Z5 .neq g.1 (.int .i64 0)) fun u=>
 Zl u
 (some (g.1,g.2))
 (E9 x3 x6 H0 g.2):=Za [3,6,8,10,12,15,16]
theorem Zbh:FE [p0,p1,p2,p3] H=SH p0 p1 p2 p3 H:=Be 35 [3,6,8,10,12,15,16] Tryz.func42
def Lw:Z3:=
 Z0 (Z4 false 1 p0 H) fun t3=>
 Z0 (Z5 .neq t3 (.int .i64 0)) fun t4=>
 Z0 (Z8 t4 true (.tuple []) (Z4 false 1 p1 H)) fun j=>
 Z0 (Z8 t4 true (.tuple []) (Xo .not j)) fun u=>
 Z0 (Zi t4 u (.bool false)) fun w=>
 Zl w
 (Z0 (Z4 false 1 p2 H) fun t9=>
 Z0 (WW [t9] H) fun g=>
 some ((.tuple []),g.2))
 (some ((.tuple []),H))
theorem Zat:Lm [p0,p1,p2] H=Lw p0 p1 p2 H:=Be 11 [] Tryz.func44
def GP:Z3:=ZV 46 73 (sub (Z1 Tryz.f46) [1,1]) (Zh cfg 73 46 Tryz.f46 H0) [] H
def Xv:KL:=Zc (Fz 46 73 Tryz.f46 [1,1]) (Zh cfg 73 46 Tryz.f46 H0)
theorem TO:ZW 73 (Xv H0):=Zy (C:=cfg) (kp:=cfg.keep 46) (sub (Z1 Tryz.f46) [1,1]) (ZB 46 Tryz.f46 H0)
def GR:Z3:=ZV 46 73 (sub (Z1 Tryz.f46) [1,0,1,0,0,1,1,1]) (Zc (Wy 46 73 Tryz.f46 [1,0,1,0,0]) (Z7 0 (Xv H0))) [(0,x0),(13,x13),(14,x14),(15,x15)] H
def Sv:KL:=Zc (Fz 46 73 Tryz.f46 [1,0,1,0,0,1,1,1]) (Zc (Wy 46 73 Tryz.f46 [1,0,1,0,0]) (Z7 0 (Xv H0)))
def GS:Z3:=ZV 46 73 (sub (Z1 Tryz.f46) [1,0,1,0,0,1,1,0,0,1,1,1]) (Z7 1 (Sv H0)) [(0,x0),(8,x8),(9,x9),(13,x13),(14,x14),(15,x15)] H
def GQ:Z3:=ZV 46 73 (sub (Z1 Tryz.f46) [1,0,1,0,0,1,1]) (Zc (Wy 46 73 Tryz.f46 [1,0,1,0,0]) (Z7 0 (Xv H0))) [(0,x0),(13,x13),(14,x14),(15,x15),(16,x16)] H
def WF:Z3:=DP 46 73 (sub (Z1 Tryz.f46) [1,0,1,0,0]) (Z7 0 (Xv H0)) [(0,x0),(13,x13),(14,x14),(15,x15)] H
def BQ:Z3:=
 Z0 (Zf Lt [p1,p2] H) fun g=>
 Z0 (Zk (.slice 29) g.1) fun j=>
 WF p0 g.1 j (.int .i64 0) H g.2
theorem NF:GP H0 H =
 some ((.int .i64 0),H):=Za [3,7,11,12]
theorem NH:GR x0 x13 x14 x15 H0 H =
 Z0 (Z5 .add x15 (.int .i64 1)) fun t72=>
 WF x0 x13 x14 t72 H0 H:=Za [3,7,11,12]
theorem NI:GS x0 x8 x9 x13 x14 x15 H0 H =
 Z0 (XU [x0] H) fun u=>
 Z0 (Zu x0) fun A=>
 Z0 (Z6 12 A) fun B=>
 Z0 (Z4 false 1 B u.2) fun C=>
 Z0 ((ZE 1 [(0,x9)] [(.str [])]).map (.vs 1 .clip)) fun D=>
 Z0 (Yl 1 16 C D u.2) fun w=>
 Z0 (Zu x0) fun E=>
 Z0 (Z6 12 E) fun F=>
 Z0 (Ze 1 F w.1 w.2) fun g=>
 Z0 (Zu x0) fun I=>
 Z0 (Z6 13 I) fun J=>
 Z0 (Z6 0 J) fun K=>
 Z0 (Z4 false 1 K g.2) fun L=>
 Z0 (Z5 .add L (.int .i64 1)) fun M=>
 Z0 (Zu x0) fun N=>
 Z0 (Z6 13 N) fun O=>
 Z0 (Z6 0 O) fun Q=>
 Z0 (Ze 1 Q M g.2) fun j=>
 Z0 (Zu x0) fun R=>
 Z0 (Z6 13 R) fun S=>
 Z0 (Z6 2 S) fun T=>
 Z0 (Z4 false 1 T j.2) fun U=>
 Z0 (Zf Tz [x8] j.2) fun y=>
 Z0 (Kd U y.1) fun V=>
 Z0 (Zu x0) fun W=>
 Z0 (Z6 13 W) fun t70=>
 Z0 (Z6 2 t70) fun X=>
 Z0 (Ze 1 X V y.2) fun z=>
 GR x0 x13 x14 x15 H0 z.2:=Za [3,7,11,12]
theorem NG:GQ x0 x13 x14 x15 x16 H0 H =
 Z0 (Zo 1 x13 x15) fun w=>
 Z0 (Z4 false 1 w H) fun j=>
 Z0 (Zu x0) fun y=>
 Z0 (Z6 0 y) fun z=>
 Z0 (Z4 false 1 z H) fun A=>
 Z0 (Zu x0) fun B=>
 Z0 (Z6 1 B) fun C=>
 Z0 (Z4 true 6 C H) fun D=>
 Z0 (Zu x0) fun E=>
 Z0 (Z6 7 E) fun F=>
 Z0 (Z4 true 5 F H) fun I=>
 Z0 (Lu [A,D,I,j] H) fun g=>
 Z0 (ZQ g.1 0) fun J=>
 Z0 (ZQ g.1 1) fun u=>
 Z0 (Z5 .neq u (.int .i64 0)) fun t37=>
 Zl t37
 (some (u,g.2))
 (GS x0 j J x13 x14 x15 H0 g.2):=Za [3,7,11,12]
theorem JH:WF x0 x13 x14 x15 H0 H =
 Z0 (Z5 .lss x15 x14) fun g=>
 Zl g
 (GQ x0 x13 x14 x15 g H0 H)
 (GP H0 H):=(ZD (C:=cfg) [3,7,11,12] (Zn 0 (TO H0)) _ _).trans (by kernel_rfl)
theorem Mx:Qb [p0,p1,p2] H=BQ p0 p1 p2 H:=Be 73 [3,7,11,12] Tryz.func46
def D4:Z3:=ZV 47 60 (sub (Z1 Tryz.f47) [1,1,1]) (Zh cfg 60 47 Tryz.f47 H0) [(0,x0),(5,x5)] H
def XB:KL:=Zc (Fz 47 60 Tryz.f47 [1,1,1]) (Zh cfg 60 47 Tryz.f47 H0)
theorem QS:ZW 60 (XB H0):=Zy (C:=cfg) (kp:=cfg.keep 47) (sub (Z1 Tryz.f47) [1,1,1]) (ZB 47 Tryz.f47 H0)
def D6:Z3:=ZV 47 60 (sub (Z1 Tryz.f47) [1,1,0,1,0,0,1,1,1]) (Zc (Wy 47 60 Tryz.f47 [1,1,0,1,0,0]) (Z7 0 (XB H0))) [(0,x0),(5,x5),(19,x19),(20,x20),(21,x21)] H
def WY:KL:=Zc (Fz 47 60 Tryz.f47 [1,1,0,1,0,0,1,1,1]) (Zc (Wy 47 60 Tryz.f47 [1,1,0,1,0,0]) (Z7 0 (XB H0)))
theorem PX:ZW 60 (WY H0):=Zy (C:=cfg) (kp:=cfg.keep 47) (sub (Z1 Tryz.f47) [1,1,0,1,0,0,1,1,1]) (Nj (C:=cfg) (kp:=cfg.keep 47) (sub (Z1 Tryz.f47) [1,1,0,1,0,0]) (Zn 0 (QS H0)))
def D7:Z3:=ZV 47 60 (sub (Z1 Tryz.f47) [1,1,0,1,0,0,1,1,0,0,1,1,1,1,1]) (Z7 1 (WY H0)) [(0,x0),(5,x5),(11,x11),(19,x19),(20,x20),(21,x21)] H
def Qe:Z3:=ZV 47 60 (sub (Z1 Tryz.f47) [1,1,0,1,0,0,1,1,0,0,1,1,1]) (Z7 1 (WY H0)) [(0,x0),(5,x5),(8,x8),(19,x19),(20,x20),(21,x21)] H
def WZ:KL:=Zc (Fz 47 60 Tryz.f47 [1,1,0,1,0,0,1,1,0,0,1,1,1]) (Z7 1 (WY H0))
theorem PY:ZW 60 (WZ H0):=Zy (C:=cfg) (kp:=cfg.keep 47) (sub (Z1 Tryz.f47) [1,1,0,1,0,0,1,1,0,0,1,1,1]) (Zn 1 (PX H0))
def D9:Z3:=ZV 47 60 (sub (Z1 Tryz.f47) [1,1,0,1,0,0,1,1,0,0,1,1,0,1,0,0,1,1,1]) (Zc (Wy 47 60 Tryz.f47 [1,1,0,1,0,0,1,1,0,0,1,1,0,1,0,0]) (Z7 2 (WZ H0))) [(0,x0),(5,x5),(8,x8),(19,x19),(20,x20),(21,x21),(25,x25),(26,x26),(27,x27)] H
def D8:Z3:=ZV 47 60 (sub (Z1 Tryz.f47) [1,1,0,1,0,0,1,1,0,0,1,1,0,1,0,0,1,1]) (Zc (Wy 47 60 Tryz.f47 [1,1,0,1,0,0,1,1,0,0,1,1,0,1,0,0]) (Z7 2 (WZ H0))) [(0,x0),(5,x5),(8,x8),(19,x19),(20,x20),(21,x21),(25,x25),(26,x26),(27,x27),(28,x28)] H
def V1:Z3:=DP 47 60 (sub (Z1 Tryz.f47) [1,1,0,1,0,0,1,1,0,0,1,1,0,1,0,0]) (Z7 2 (WZ H0)) [(0,x0),(5,x5),(8,x8),(19,x19),(20,x20),(21,x21),(25,x25),(26,x26),(27,x27)] H
def D5:Z3:=ZV 47 60 (sub (Z1 Tryz.f47) [1,1,0,1,0,0,1,1]) (Zc (Wy 47 60 Tryz.f47 [1,1,0,1,0,0]) (Z7 0 (XB H0))) [(0,x0),(5,x5),(19,x19),(20,x20),(21,x21),(22,x22)] H
def V0:Z3:=DP 47 60 (sub (Z1 Tryz.f47) [1,1,0,1,0,0]) (Z7 0 (XB H0)) [(0,x0),(5,x5),(19,x19),(20,x20),(21,x21)] H
def F8:Z3:=
 Z0 (Zu p0) fun j=>
 Z0 (Z6 12 j) fun u=>
 Z0 (Z4 false 1 u H) fun w=>
 Z0 (Zk (.slice 9) w) fun y=>
 Z0 (Zf Lr [y,p1] H) fun g=>
 Z0 (Zk (.slice 38) g.1) fun z=>
 V0 p0 .nils g.1 z (.int .i64 0) H g.2
theorem MQ:D4 x0 x5 H0 H =
 Z0 (Zu x0) fun j=>
 Z0 (Z6 12 j) fun u=>
 Z0 (Ze 1 u x5 H) fun g=>
 some ((.int .i64 0),g.2):=Za [4,8,10,11,14,15,16]
theorem MS:D6 x0 x5 x19 x20 x21 H0 H =
 Z0 (Z5 .add x21 (.int .i64 1)) fun g=>
 V0 x0 x5 x19 x20 g H0 H:=Za [4,8,10,11,14,15,16]
theorem MU:D7 x0 x5 x11 x19 x20 x21 H0 H =
 Z0 ((ZE 1 [(0,x11)] [(.str [])]).map (.vs 1 .clip)) fun j=>
 Z0 (Yl 1 16 x5 j H) fun g=>
 D6 x0 g.1 x19 x20 x21 H0 g.2:=Za [4,8,10,11,14,15,16]
theorem MT:Qe x0 x5 x8 x19 x20 x21 H0 H =
 Z0 (Q9 [x0,x8] H) fun g=>
 Z0 (ZQ g.1 0) fun u=>
 Z0 (ZQ g.1 1) fun j=>
 Z0 (Z5 .neq j (.int .i64 0)) fun w=>
 Zl w
 (some (j,g.2))
 (D7 x0 x5 u x19 x20 x21 H0 g.2):=Za [4,8,10,11,14,15,16]
theorem MW:D9 x0 x5 x8 x19 x20 x21 x25 x26 x27 H0 H =
 Z0 (Z5 .add x27 (.int .i64 1)) fun g=>
 V1 x0 x5 x8 x19 x20 x21 x25 x26 g H0 H:=Za [4,8,10,11,14,15,16]
theorem MV:D8 x0 x5 x8 x19 x20 x21 x25 x26 x27 x28 H0 H =
 Z0 (Zo 1 x25 x27) fun j=>
 Z0 (Z4 false 1 j H) fun u=>
 Z0 (Zu x0) fun w=>
 Z0 (Z6 12 w) fun y=>
 Z0 (Z4 false 1 y H) fun z=>
 Z0 (Zo 1 z u) fun t37=>
 Z0 (Z4 false 1 t37 H) fun A=>
 Z0 ((ZE 1 [(0,A)] [(.str [])]).map (.vs 1 .clip)) fun B=>
 Z0 (Yl 1 16 x8 B H) fun g=>
 D9 x0 x5 g.1 x19 x20 x21 x25 x26 x27 H0 g.2:=Za [4,8,10,11,14,15,16]
theorem Km:V1 x0 x5 x8 x19 x20 x21 x25 x26 x27 H0 H =
 Z0 (Z5 .lss x27 x26) fun g=>
 Zl g
 (D8 x0 x5 x8 x19 x20 x21 x25 x26 x27 g H0 H)
 (Qe x0 x5 x8 x19 x20 x21 H0 H):=(ZD (C:=cfg) [4,8,10,11,14,15,16] (Zn 2 (PY H0)) _ _).trans (by kernel_rfl)
theorem MR:D5 x0 x5 x19 x20 x21 x22 H0 H =
 Z0 (Zo 1 x19 x21) fun j=>
 Z0 (Z4 false 1 j H) fun g=>
 Z0 (Zk (.slice 3) g) fun u=>
 V1 x0 x5 .nils x19 x20 x21 g u (.int .i64 0) H0 H:=Za [4,8,10,11,14,15,16]
theorem Kk:V0 x0 x5 x19 x20 x21 H0 H =
 Z0 (Z5 .lss x21 x20) fun g=>
 Zl g
 (D5 x0 x5 x19 x20 x21 g H0 H)
 (D4 x0 x5 H0 H):=(ZD (C:=cfg) [4,8,10,11,14,15,16] (Zn 0 (QS H0)) _ _).trans (by kernel_rfl)
theorem Lx:Qz [p0,p1] H=F8 p0 p1 H:=Be 60 [4,8,10,11,14,15,16] Tryz.func47
def GM:Z3:=ZV 48 57 (sub (Z1 Tryz.f48) [1,1,1,1,1,0,0,0,1,1,1]) (Z7 3 (Zc (Wy 48 57 Tryz.f48 [1,1,1,1,1,0,0]) (Z7 2 (Zh cfg 57 48 Tryz.f48 H0)))) [(7,x7),(8,x8),(9,x9)] H
def GL:Z3:=ZV 48 57 (sub (Z1 Tryz.f48) [1,1,1,1,1,0,0,0,1,1]) (Z7 3 (Zc (Wy 48 57 Tryz.f48 [1,1,1,1,1,0,0]) (Z7 2 (Zh cfg 57 48 Tryz.f48 H0)))) [(7,x7),(8,x8),(9,x9),(10,x10)] H
def WD:Z3:=DP 48 57 (sub (Z1 Tryz.f48) [1,1,1,1,1,0,0]) (Z7 2 (Zh cfg 57 48 Tryz.f48 H0)) [(7,x7),(8,x8)] H
def UB:Z3:=ZV 48 57 (sub (Z1 Tryz.f48) [1,1,1]) (Zh cfg 57 48 Tryz.f48 H0) [(0,x0),(4,x4)] H
def WC:KL:=Zc (Fz 48 57 Tryz.f48 [1,1,1]) (Zh cfg 57 48 Tryz.f48 H0)
theorem TN:ZW 57 (WC H0):=Zy (C:=cfg) (kp:=cfg.keep 48) (sub (Z1 Tryz.f48) [1,1,1]) (ZB 48 Tryz.f48 H0)
def GO:Z3:=ZV 48 57 (sub (Z1 Tryz.f48) [1,1,0,1,0,0,1,1,1]) (Zc (Wy 48 57 Tryz.f48 [1,1,0,1,0,0]) (Z7 0 (WC H0))) [(0,x0),(4,x4),(15,x15),(16,x16),(17,x17)] H
def GN:Z3:=ZV 48 57 (sub (Z1 Tryz.f48) [1,1,0,1,0,0,1,1]) (Zc (Wy 48 57 Tryz.f48 [1,1,0,1,0,0]) (Z7 0 (WC H0))) [(0,x0),(4,x4),(15,x15),(16,x16),(17,x17),(18,x18)] H
def WE:Z3:=DP 48 57 (sub (Z1 Tryz.f48) [1,1,0,1,0,0]) (Z7 0 (WC H0)) [(0,x0),(4,x4),(15,x15),(16,x16),(17,x17)] H
def BP:Z3:=
 Z0 (Zu p0) fun j=>
 Z0 (Z6 12 j) fun u=>
 Z0 (Z4 false 1 u H) fun g=>
 Z0 (Zk (.slice 9) g) fun w=>
 WE p0 .nils g w (.int .i64 0) H H
theorem NC:GM x7 x8 x9 H0 H =
 Z0 ((ZE 1 [(0,x9)] [(.str [])]).map (.vs 1 .clip)) fun j=>
 Z0 (Yl 1 16 x8 j H) fun g=>
 WD x7 g.1 H0 g.2:=Za [4,6,7,12,14]
theorem Vl:GL x7 x8 x9 x10 H0 H =
 Z0 (Xo .not x10) fun g=>
 Zl g
 (some ((.tuple [x8,(.int .i64 0)]),H))
 (GM x7 x8 x9 H0 H):=Za [4,6,7,12,14]
theorem Vm:WD x7 x8 H0 H =
 Z0 (Ui [x7] H) fun g=>
 Z0 (ZQ g.1 0) fun u=>
 Z0 (ZQ g.1 1) fun w=>
 Z0 (ZQ g.1 2) fun j=>
 Z0 (Z5 .neq j (.int .i64 0)) fun y=>
 Zl y
 (some ((.tuple [.nils,j]),g.2))
 (GL x7 x8 u w H0 g.2):=(ZD (C:=cfg) [4,6,7,12,14] (Zn 2 (ZB 48 Tryz.f48 H0)) _ _).trans (by kernel_rfl)
theorem NB:UB x0 x4 H0 H =
 Z0 (Zu x0) fun j=>
 Z0 (Z6 1 j) fun u=>
 Z0 (Z4 true 6 u H) fun w=>
 Z0 (Zu x0) fun y=>
 Z0 (Z6 7 y) fun t37=>
 Z0 (Z4 true 5 t37 H) fun z=>
 Z0 (Pp [w,z,x4] H) fun g=>
 WD g.1 .nils H0 g.2:=Za [4,6,7,12,14]
theorem NE:GO x0 x4 x15 x16 x17 H0 H =
 Z0 (Z5 .add x17 (.int .i64 1)) fun g=>
 WE x0 x4 x15 x16 g H0 H:=Za [4,6,7,12,14]
theorem ND:GN x0 x4 x15 x16 x17 x18 H0 H =
 Z0 (Zo 1 x15 x17) fun u=>
 Z0 (Z4 false 1 u H) fun w=>
 Z0 (Zu x0) fun y=>
 Z0 (Z6 0 y) fun z=>
 Z0 (Z4 false 1 z H) fun A=>
 Z0 (Pq [A,w] H) fun g=>
 Z0 ((ZE 1 [(0,g.1)] [.nilp]).map (.vs 1 .clip)) fun B=>
 Z0 (Yl 1 8 x4 B g.2) fun j=>
 GO x0 j.1 x15 x16 x17 H0 j.2:=Za [4,6,7,12,14]
theorem JG:WE x0 x4 x15 x16 x17 H0 H =
 Z0 (Z5 .lss x17 x16) fun g=>
 Zl g
 (GN x0 x4 x15 x16 x17 g H0 H)
 (UB x0 x4 H0 H):=(ZD (C:=cfg) [4,6,7,12,14] (Zn 0 (TN H0)) _ _).trans (by kernel_rfl)
theorem Mw:Qa [p0] H=BP p0 H:=Be 57 [4,6,7,12,14] Tryz.func48
def SI:Z3:=
 Z0 (ZM p0 H) fun g=>
 Z0 (Z6 0 g.1) fun t3=>
 Z0 (Z4 false 1 t3 g.2) fun t4=>
 Z0 (Z5 .geq t4 (.int .i64 64)) fun t5=>
 Z0 (Z8 t5 true (.tuple []) (Z6 0 g.1)) fun E=>
 Z0 (Z8 t5 true (.tuple []) (Z4 false 1 E g.2)) fun F=>
 Z0 (Z8 t5 true (.tuple []) (Z5 .leq F (.int .i64 65536))) fun t9=>
 Z0 (Zi t5 t9 (.bool false)) fun j=>
 Z0 (Z8 j true (.tuple []) (Z6 1 g.1)) fun w=>
 Z0 (Z8 j true (.tuple []) (Z4 false 1 w g.2)) fun y=>
 Z0 (Z8 j true (.tuple []) (Z5 .geq y (.int .i64 2))) fun z=>
 Z0 (Zi j z (.bool false)) fun u=>
 Z0 (Z8 u true (.tuple []) (Z6 1 g.1)) fun A=>
 Z0 (Z8 u true (.tuple []) (Z4 false 1 A g.2)) fun B=>
 Z0 (Z8 u true (.tuple []) (Z5 .leq B (.int .i64 32))) fun C=>
 Z0 (Zi u C (.bool false)) fun D=>
 some (D,g.2)
theorem Zbi:FI [p0] H=SI p0 H:=Be 21 [] Tryz.func69
def Zap:Z3:=ZV 74 39 (sub (Z1 Tryz.f74) [1,1,1,1,1,1]) (Zh cfg 39 74 Tryz.f74 H0) [(10,x10)] H
def Zao:Z3:=ZV 74 39 (sub (Z1 Tryz.f74) [1,1,1,1,1]) (Zh cfg 39 74 Tryz.f74 H0) [(0,x0),(10,x10)] H
def Zan:Z3:=ZV 74 39 (sub (Z1 Tryz.f74) [1,1,1,1]) (Zh cfg 39 74 Tryz.f74 H0) [(0,x0),(3,x3),(5,x5),(6,x6),(10,x10)] H
def Zam:Z3:=ZV 74 39 (sub (Z1 Tryz.f74) [1,1]) (Zh cfg 39 74 Tryz.f74 H0) [(0,x0),(3,x3),(5,x5),(6,x6)] H
def Zbo:Z3:=
 Z0 (ZM p1 H) fun u=>
 Z0 (ZM p2 u.2) fun g=>
 Z0 (YC (.pointer 124) .eql p0 .nilp) fun j=>
 Zl j
 (some ((.tuple [(.str []),(.int .i64 5)]),g.2))
 (Zam p0 p3 u.1 g.1 H g.2)
theorem ZfG:Zap x10 H0 H =
 some ((.tuple [x10,(.int .i64 0)]),H):=Za [3,6,9,12]
theorem ZfF:Zao x0 x10 H0 H =
 Z0 (Vf [x0,x10] H) fun g=>
 Z0 (Z5 .neq g.1 (.int .i64 0)) fun j=>
 Zl j
 (some ((.tuple [(.str []),g.1]),g.2))
 (Zap x10 H0 g.2):=Za [3,6,9,12]
theorem ZfE:Zan x0 x3 x5 x6 x10 H0 H =
 Z0 (Z4 true 6 x5 H) fun u=>
 Z0 (Z4 true 5 x6 H) fun w=>
 Z0 (Zf QA [u,w,x3] H) fun j=>
 Z0 (WX [x0,x10,j.1] j.2) fun g=>
 Z0 (Z5 .neq g.1 (.int .i64 0)) fun y=>
 Zl y
 (some ((.tuple [(.str []),g.1]),g.2))
 (Zao x0 x10 H0 g.2):=Za [3,6,9,12]
theorem ZfD:Zam x0 x3 x5 x6 H0 H =
 Z0 (Vx [x0] H) fun g=>
 Z0 (ZQ g.1 0) fun u=>
 Z0 (ZQ g.1 1) fun j=>
 Z0 (Z5 .neq j (.int .i64 0)) fun w=>
 Zl w
 (some ((.tuple [(.str []),j]),g.2))
 (Zan x0 x3 x5 x6 u H0 g.2):=Za [3,6,9,12]
theorem Zg0:Lu [p0,p1,p2,p3] H=Zbo p0 p1 p2 p3 H:=Be 39 [3,6,9,12] Tryz.func74
def F9:Z3:=
 Z0 (Zu p0) fun t4=>
 Z0 (Z6 13 t4) fun t5=>
 Z0 (Z6 3 t5) fun C=>
 Z0 (Z4 false 1 C H) fun D=>
 Z0 (Zu p0) fun t9=>
 Z0 (Z6 0 t9) fun u=>
 Z0 (Z4 false 1 u H) fun w=>
 Z0 (QN QC [w] H) fun g=>
 Z0 (Kd D g.1) fun y=>
 Z0 (Zu p0) fun z=>
 Z0 (Z6 13 z) fun A=>
 Z0 (Z6 3 A) fun B=>
 Z0 (Ze 1 B y g.2) fun j=>
 some ((.tuple []),j.2)
theorem Ly:XU [p0] H=F9 p0 H:=Be 17 [] Tryz.func75
def Cj:Z3:=ZV 76 19 (sub (Z1 Tryz.f76) [1,1,1]) (Zh cfg 19 76 Tryz.f76 H0) [(3,x3)] H
def Ki:KL:=Zc (Fz 76 19 Tryz.f76 [1,1,1]) (Zh cfg 19 76 Tryz.f76 H0)
theorem Ob:ZW 19 (Ki H0):=Zy (C:=cfg) (kp:=cfg.keep 76) (sub (Z1 Tryz.f76) [1,1,1]) (ZB 76 Tryz.f76 H0)
def Cn:Z3:=ZV 76 19 (sub (Z1 Tryz.f76) [1,1,0,1,0,0,1,1,1]) (Zc (Wy 76 19 Tryz.f76 [1,1,0,1,0,0]) (Z7 0 (Ki H0))) [(3,x3),(6,x6),(7,x7),(8,x8)] H
def Cl:Z3:=ZV 76 19 (sub (Z1 Tryz.f76) [1,1,0,1,0,0,1,1]) (Zc (Wy 76 19 Tryz.f76 [1,1,0,1,0,0]) (Z7 0 (Ki H0))) [(3,x3),(6,x6),(7,x7),(8,x8),(9,x9)] H
def Kj:Z3:=DP 76 19 (sub (Z1 Tryz.f76) [1,1,0,1,0,0]) (Z7 0 (Ki H0)) [(3,x3),(6,x6),(7,x7),(8,x8)] H
def Ak:Z3:=
 Z0 (Zk (.slice 9) p0) fun g=>
 Kj (.int .i64 0) p0 g (.int .i64 0) H H
theorem Zcp:Cj x3 H0 H =
 some (x3,H):=Za [4,6,7]
theorem Zcr:Cn x3 x6 x7 x8 H0 H =
 Z0 (Z5 .add x8 (.int .i64 1)) fun g=>
 Kj x3 x6 x7 g H0 H:=Za [4,6,7]
theorem Zcq:Cl x3 x6 x7 x8 x9 H0 H =
 Z0 (Zo 1 x6 x8) fun g=>
 Z0 (Z4 false 1 g H) fun j=>
 Z0 (Zk .string j) fun u=>
 Z0 (Z5 .add u (.int .i64 16)) fun w=>
 Z0 (Z5 .add x3 w) fun y=>
 Cn y x6 x7 x8 H0 H:=Za [4,6,7]
theorem PW:Kj x3 x6 x7 x8 H0 H =
 Z0 (Z5 .lss x8 x7) fun t9=>
 Zl t9
 (Cl x3 x6 x7 x8 t9 H0 H)
 (Cj x3 H0 H):=(ZD (C:=cfg) [4,6,7] (Zn 0 (Ob H0)) _ _).trans (by kernel_rfl)
theorem ZdB:Tz [p0] H=Ak p0 H:=Be 19 [4,6,7] Tryz.func76
def GH:Z3:=ZV 78 67 (sub (Z1 Tryz.f78) [1,1,1,1,1,1,1]) (Zh cfg 67 78 Tryz.f78 H0) [(6,x6)] H
def Xu:KL:=Zc (Fz 78 67 Tryz.f78 [1,1,1,1,1,1,1]) (Zh cfg 67 78 Tryz.f78 H0)
theorem TM:ZW 67 (Xu H0):=Zy (C:=cfg) (kp:=cfg.keep 78) (sub (Z1 Tryz.f78) [1,1,1,1,1,1,1]) (ZB 78 Tryz.f78 H0)
def GJ:Z3:=ZV 78 67 (sub (Z1 Tryz.f78) [1,1,1,1,1,1,0,1,0,0,1,1,1]) (Zc (Wy 78 67 Tryz.f78 [1,1,1,1,1,1,0,1,0,0]) (Z7 0 (Xu H0))) [(0,x0),(6,x6),(48,x48),(49,x49),(50,x50)] H
def Su:KL:=Zc (Fz 78 67 Tryz.f78 [1,1,1,1,1,1,0,1,0,0,1,1,1]) (Zc (Wy 78 67 Tryz.f78 [1,1,1,1,1,1,0,1,0,0]) (Z7 0 (Xu H0)))
def GK:Z3:=ZV 78 67 (sub (Z1 Tryz.f78) [1,1,1,1,1,1,0,1,0,0,1,1,0,0,1,1]) (Z7 1 (Su H0)) [(0,x0),(6,x6),(48,x48),(49,x49),(50,x50)] H
def GI:Z3:=ZV 78 67 (sub (Z1 Tryz.f78) [1,1,1,1,1,1,0,1,0,0,1,1]) (Zc (Wy 78 67 Tryz.f78 [1,1,1,1,1,1,0,1,0,0]) (Z7 0 (Xu H0))) [(0,x0),(6,x6),(48,x48),(49,x49),(50,x50),(51,x51)] H
def WB:Z3:=DP 78 67 (sub (Z1 Tryz.f78) [1,1,1,1,1,1,0,1,0,0]) (Z7 0 (Xu H0)) [(0,x0),(6,x6),(48,x48),(49,x49),(50,x50)] H
def GG:Z3:=ZV 78 67 (sub (Z1 Tryz.f78) [1,1,1,1]) (Zh cfg 67 78 Tryz.f78 H0) [(0,x0),(1,x1),(6,x6)] H
def GF:Z3:=ZV 78 67 (sub (Z1 Tryz.f78) [1,1]) (Zh cfg 67 78 Tryz.f78 H0) [(0,x0),(1,x1)] H
def BO:Z3:=
 Z0 (Zk (.slice 9) p1) fun g=>
 Z0 (Z5 .eql g (.int .i64 1)) fun j=>
 Zl j
 (Z0 (Zo 1 p1 (.int .i64 0)) fun u=>
 Z0 (Z4 false 1 u H) fun w=>
 some ((.tuple [w,(.int .i64 0)]),H))
 (GF p0 p1 H H)
theorem Nx:GH x6 H0 H =
 some ((.tuple [x6,(.int .i64 0)]),H):=Za [3,6,10,14,15,16]
theorem Nz:GJ x0 x6 x48 x49 x50 H0 H =
 Z0 (Z5 .add x50 (.int .i64 1)) fun g=>
 WB x0 x6 x48 x49 g H0 H:=Za [3,6,10,14,15,16]
theorem NA:GK x0 x6 x48 x49 x50 H0 H =
 Z0 (XU [x0] H) fun g=>
 GJ x0 x6 x48 x49 x50 H0 g.2:=Za [3,6,10,14,15,16]
theorem Ny:GI x0 x6 x48 x49 x50 x51 H0 H =
 Z0 (Zo 1 x48 x50) fun j=>
 Z0 (Z4 false 1 j H) fun u=>
 Z0 (Zu x0) fun w=>
 Z0 (Z6 0 w) fun y=>
 Z0 (Z4 false 1 y H) fun z=>
 Z0 (Uz [z,u] H) fun g=>
 Z0 (Z5 .neq g.1 (.int .i64 0)) fun A=>
 Zl A
 (some ((.tuple [(.str []),g.1]),g.2))
 (GK x0 x6 x48 x49 x50 H0 g.2):=Za [3,6,10,14,15,16]
theorem JF:WB x0 x6 x48 x49 x50 H0 H =
 Z0 (Z5 .lss x50 x49) fun g=>
 Zl g
 (GI x0 x6 x48 x49 x50 g H0 H)
 (GH x6 H0 H):=(ZD (C:=cfg) [3,6,10,14,15,16] (Zn 0 (TM H0)) _ _).trans (by kernel_rfl)
theorem Nw:GG x0 x1 x6 H0 H =
 Z0 (Zu x0) fun u=>
 Z0 (Z6 13 u) fun w=>
 Z0 (Z6 1 w) fun y=>
 Z0 (Z4 false 1 y H) fun z=>
 Z0 (Z5 .add z (.int .i64 1)) fun A=>
 Z0 (Zu x0) fun B=>
 Z0 (Z6 13 B) fun C=>
 Z0 (Z6 1 C) fun D=>
 Z0 (Ze 1 D A H) fun g=>
 Z0 (XU [x0] g.2) fun j=>
 Z0 (Zk (.slice 9) x1) fun E=>
 WB x0 x6 x1 E (.int .i64 0) H0 j.2:=Za [3,6,10,14,15,16]
theorem Nv:GF x0 x1 H0 H =
 Z0 (Zu x0) fun u=>
 Z0 (Z6 0 u) fun w=>
 Z0 (Z4 false 1 w H) fun y=>
 Z0 (Zu x0) fun z=>
 Z0 (Z6 1 z) fun A=>
 Z0 (Z4 true 6 A H) fun B=>
 Z0 (Zu x0) fun C=>
 Z0 (Z6 7 C) fun D=>
 Z0 (Z4 true 5 D H) fun E=>
 Z0 (Np [y,B,E,x1] H) fun g=>
 Z0 (ZQ g.1 0) fun F=>
 Z0 (ZQ g.1 1) fun j=>
 Z0 (Z5 .neq j (.int .i64 0)) fun I=>
 Zl I
 (some ((.tuple [(.str []),j]),g.2))
 (GG x0 x1 F H0 g.2):=Za [3,6,10,14,15,16]
theorem Mv:Q9 [p0,p1] H=BO p0 p1 H:=Be 67 [3,6,10,14,15,16] Tryz.func78
def Zd2:Z3:=ZV 79 11 (sub (Z1 Tryz.f79) [1,1]) (Zh cfg 11 79 Tryz.f79 H0) [(0,x0),(1,x1)] H
def Zei:Z3:=
 Z0 (YC (.pointer 124) .eql p0 .nilp) fun g=>
 Zl g
 (some (.nilp,H))
 (Zd2 p0 p1 H H)
theorem ZhC:Zd2 x0 x1 H0 H =
 Z0 ((Xh [(0,1,x0),(1,1,x1)] [.nilp,(.str []),(.int .i64 0),(.bool false),(.bool false),(.str [])]).map .agg) fun t9=>
 Z0 (ZM t9 H) fun g=>
 some (g.1,g.2):=Za [3]
theorem Zi7:Pq [p0,p1] H=Zei p0 p1 H:=Be 11 [3] Tryz.func79
def Zeh:Z3:=
 Z0 (ZM p0 H) fun J=>
 Z0 (ZM p1 J.2) fun y=>
 Z0 (Z6 0 y.1) fun L=>
 Z0 (Z4 false 1 L y.2) fun M=>
 Z0 (Yl 5 40 .nils M y.2) fun K=>
 Z0 (Z6 0 y.1) fun B=>
 Z0 (Ze 1 B K.1 K.2) fun A=>
 V8 y.1 A.2 fun z4 z=>
 Z0 (Z4 true 6 J.1 z) fun C=>
 Z0 (Zf G3 [C] z) fun g=>
 Z0 (U6 true 5 z4) fun D=>
 Z0 (Z4 true 5 z4 g.2) fun E=>
 Z0 (Zf Wa [E] g.2) fun j=>
 Z0 (Z5 .eql j.1 (.int .i64 0)) fun F=>
 Z0 (Yl 1 8 .nils p2 j.2) fun u=>
 Z0 ((Xh [(0,6,g.1),(6,5,D),(11,1,F),(12,1,u.1)] [(.str []),.nils,(.str []),(.str []),.nils,.nils,.nils,(.int .i64 0),(.int .i64 0),(.bool false),(.bool false),(.bool false),.nils,(.str []),(.bool false)]).map .agg) fun I=>
 Z0 (ZM I u.2) fun w=>
 some (w.1,w.2)
theorem Zi6:Pp [p0,p1,p2] H=Zeh p0 p1 p2 H:=Be 21 [] Tryz.func80
def Jh:Z3:=ZV 81 61 (sub (Z1 Tryz.f81) [1,1,0,0,0,1,1,1]) (Z7 1 (Zc (Wy 81 61 Tryz.f81 [1,1,0,0]) (Z7 0 (Zh cfg 61 81 Tryz.f81 H0)))) [(0,x0),(5,x5)] H
def Jg:Z3:=ZV 81 61 (sub (Z1 Tryz.f81) [1,1,0,0,0,1,1]) (Z7 1 (Zc (Wy 81 61 Tryz.f81 [1,1,0,0]) (Z7 0 (Zh cfg 61 81 Tryz.f81 H0)))) [(0,x0),(5,x5)] H
def Wo:Z3:=DP 81 61 (sub (Z1 Tryz.f81) [1,1,0,0]) (Z7 0 (Zh cfg 61 81 Tryz.f81 H0)) [(0,x0)] H
def RC:Z3:=ZV 81 61 (sub (Z1 Tryz.f81) [1,1]) (Zh cfg 61 81 Tryz.f81 H0) [(0,x0)] H
def RU:Z3:=
 Z0 (YC (.pointer 153) .eql p0 .nilp) fun t9=>
 Zl t9
 (some ((.tuple [(.str []),(.bool false),(.int .i64 5)]),H))
 (RC p0 H H)
theorem Sy:Jh x0 x5 H0 H =
 Z0 (Zu x0) fun u=>
 Z0 (Z6 14 u) fun w=>
 Z0 (Ze 1 w (.bool true) H) fun j=>
 Z0 (Zu x0) fun y=>
 Z0 (Z6 13 y) fun z=>
 Z0 (Ze 1 z x5 j.2) fun g=>
 some ((.tuple [x5,(.bool true),(.int .i64 0)]),g.2):=Za [3,6,7]
theorem Sx:Jg x0 x5 H0 H =
 Z0 (Zu x0) fun y=>
 Z0 (Z6 14 y) fun z=>
 Z0 (Z4 false 1 z H) fun u=>
 Z0 (Z8 u true (.tuple []) (some x0)) fun A=>
 Z0 (Z8 u true (.tuple []) (Zu A)) fun B=>
 Z0 (Z8 u true (.tuple []) (Z6 11 B)) fun C=>
 Z0 (Z8 u true (.tuple []) (Z4 false 1 C H)) fun D=>
 Z0 (Zi u D (.bool false)) fun j=>
 Z0 (Z8 j true (.tuple []) (some x0)) fun E=>
 Z0 (Z8 j true (.tuple []) (Zu E)) fun F=>
 Z0 (Z8 j true (.tuple []) (Z6 6 F)) fun I=>
 Z0 (Z8 j true (.tuple []) (Z6 3 I)) fun J=>
 Z0 (Z8 j true (.tuple []) (Z4 false 1 J H)) fun K=>
 Z0 (Zi j K (.bool false)) fun g=>
 Z0 (Z8 g true (.tuple []) (some x0)) fun t37=>
 Z0 (Z8 g true (.tuple []) (Zu t37)) fun L=>
 Z0 (Z8 g true (.tuple []) (Z6 0 L)) fun M=>
 Z0 (Z8 g true (.tuple []) (Z4 true 6 M H)) fun N=>
 Z0 (Z8 g true (.tuple []) (some x0)) fun O=>
 Z0 (Z8 g true (.tuple []) (Zu O)) fun Q=>
 Z0 (Z8 g true (.tuple []) (Z6 6 Q)) fun R=>
 Z0 (Z8 g true (.tuple []) (Z4 true 5 R H)) fun S=>
 Z0 (Z8 g true (.tuple []) (some x0)) fun T=>
 Z0 (Z8 g true (.tuple []) (Zu T)) fun U=>
 Z0 (Z8 g true (.tuple []) (Z6 13 U)) fun V=>
 Z0 (Z8 g true (.tuple []) (Z4 false 1 V H)) fun W=>
 Z0 (Z8 g true (.tuple []) (some x5)) fun X=>
 Z0 (Z8 g true ((.tuple []),H) (Zf Wu [N,S,W,X] H)) fun w=>
 Z0 (Z8 g true (.tuple []) (Z5 .eql w.1 (.int .i64 0))) fun Y=>
 Z0 (Zi g Y (.bool false)) fun Z=>
 Zl Z
 (Wo x0 H0 w.2)
 (Jh x0 x5 H0 w.2):=Za [3,6,7]
theorem WH:Wo x0 H0 H =
 Z0 (Uj [x0] H) fun g=>
 Z0 (ZQ g.1 0) fun j=>
 Z0 (ZQ g.1 1) fun u=>
 Z0 (ZQ g.1 2) fun w=>
 Z0 (Xo .not u) fun y=>
 Zl y
 (some ((.tuple [(.str []),(.bool false),w]),g.2))
 (Jg x0 j H0 g.2):=(ZD (C:=cfg) [3,6,7] (Zn 0 (ZB 81 Tryz.f81 H0)) _ _).trans (by kernel_rfl)
theorem Sw:RC x0 H0 H =
 Wo x0 H0 H:=Za [3,6,7]
theorem Hl:Ui [p0] H=RU p0 H:=Be 61 [3,6,7] Tryz.func81
def I2:Z3:=ZV 101 74 (sub (Z1 Tryz.f101) [1,1,1,1,1,1,1,1,1]) (Zh cfg 74 101 Tryz.f101 H0) [(10,x10)] H
def Pa:Z3:=ZV 101 74 (sub (Z1 Tryz.f101) [1,1,1,1,1,1,1,1]) (Zh cfg 74 101 Tryz.f101 H0) [(0,x0),(10,x10)] H
def Gi:KL:=Zc (Fz 101 74 Tryz.f101 [1,1,1,1,1,1,1,1]) (Zh cfg 74 101 Tryz.f101 H0)
theorem ZaK:ZW 74 (Gi H0):=Zy (C:=cfg) (kp:=cfg.keep 101) (sub (Z1 Tryz.f101) [1,1,1,1,1,1,1,1]) (ZB 101 Tryz.f101 H0)
def I4:Z3:=ZV 101 74 (sub (Z1 Tryz.f101) [1,1,1,1,1,1,1,0,0,0,0,1,1,1]) (Z7 3 (Zc (Wy 101 74 Tryz.f101 [1,1,1,1,1,1,1,0,0,0]) (Z7 2 (Gi H0)))) [(0,x0),(10,x10),(15,x15),(16,x16)] H
def I3:Z3:=ZV 101 74 (sub (Z1 Tryz.f101) [1,1,1,1,1,1,1,0,0,0,0,1,1]) (Z7 3 (Zc (Wy 101 74 Tryz.f101 [1,1,1,1,1,1,1,0,0,0]) (Z7 2 (Gi H0)))) [(0,x0),(10,x10),(15,x15),(16,x16),(17,x17)] H
def Gk:Z3:=DP 101 74 (sub (Z1 Tryz.f101) [1,1,1,1,1,1,1,0,0,0]) (Z7 2 (Gi H0)) [(0,x0),(10,x10),(15,x15)] H
def P9:Z3:=ZV 101 74 (sub (Z1 Tryz.f101) [1,1,1,1,1,1]) (Zh cfg 74 101 Tryz.f101 H0) [(0,x0),(5,x5),(6,x6),(10,x10),(12,x12)] H
def Gj:KL:=Zc (Fz 101 74 Tryz.f101 [1,1,1,1,1,1]) (Zh cfg 74 101 Tryz.f101 H0)
theorem ZaL:ZW 74 (Gj H0):=Zy (C:=cfg) (kp:=cfg.keep 101) (sub (Z1 Tryz.f101) [1,1,1,1,1,1]) (ZB 101 Tryz.f101 H0)
def I6:Z3:=ZV 101 74 (sub (Z1 Tryz.f101) [1,1,1,1,1,0,1,0,0,1,1,1]) (Zc (Wy 101 74 Tryz.f101 [1,1,1,1,1,0,1,0,0]) (Z7 0 (Gj H0))) [(0,x0),(5,x5),(6,x6),(10,x10),(12,x12),(31,x31),(32,x32),(33,x33)] H
def I5:Z3:=ZV 101 74 (sub (Z1 Tryz.f101) [1,1,1,1,1,0,1,0,0,1,1]) (Zc (Wy 101 74 Tryz.f101 [1,1,1,1,1,0,1,0,0]) (Z7 0 (Gj H0))) [(0,x0),(5,x5),(6,x6),(10,x10),(12,x12),(31,x31),(32,x32),(33,x33),(34,x34)] H
def Gl:Z3:=DP 101 74 (sub (Z1 Tryz.f101) [1,1,1,1,1,0,1,0,0]) (Z7 0 (Gj H0)) [(0,x0),(5,x5),(6,x6),(10,x10),(12,x12),(31,x31),(32,x32),(33,x33)] H
def I1:Z3:=ZV 101 74 (sub (Z1 Tryz.f101) [1,1,1,1]) (Zh cfg 74 101 Tryz.f101 H0) [(0,x0),(3,x3),(5,x5),(6,x6),(10,x10)] H
def I0:Z3:=ZV 101 74 (sub (Z1 Tryz.f101) [1,1]) (Zh cfg 74 101 Tryz.f101 H0) [(0,x0),(3,x3),(5,x5),(6,x6)] H
def OU:Z3:=
 Z0 (ZM p1 H) fun u=>
 Z0 (ZM p2 u.2) fun g=>
 Z0 (YC (.pointer 124) .eql p0 .nilp) fun j=>
 Zl j
 (some ((.tuple [(.str []),(.int .i64 5)]),g.2))
 (I0 p0 p3 u.1 g.1 H g.2)
theorem Ze2:I2 x10 H0 H =
 some ((.tuple [x10,(.int .i64 0)]),H):=Za [3,6,9,11,12,16,17,20,23]
theorem Ze1:Pa x0 x10 H0 H =
 Z0 (Vf [x0,x10] H) fun g=>
 Z0 (Z5 .neq g.1 (.int .i64 0)) fun j=>
 Zl j
 (some ((.tuple [(.str []),g.1]),g.2))
 (I2 x10 H0 g.2):=Za [3,6,9,11,12,16,17,20,23]
theorem Ze3:I4 x0 x10 x15 x16 H0 H =
 Z0 ((ZE 1 [(0,x16)] [(.str [])]).map (.vs 1 .clip)) fun j=>
 Z0 (WX [x0,x10,j] H) fun g=>
 Z0 (Z5 .neq g.1 (.int .i64 0)) fun u=>
 Zl u
 (some ((.tuple [(.str []),g.1]),g.2))
 (Gk x0 x10 x15 H0 g.2):=Za [3,6,9,11,12,16,17,20,23]
theorem BD:I3 x0 x10 x15 x16 x17 H0 H =
 Z0 (Xo .not x17) fun g=>
 Zl g
 (Pa x0 x10 H0 H)
 (I4 x0 x10 x15 x16 H0 H):=Za [3,6,9,11,12,16,17,20,23]
theorem BE:Gk x0 x10 x15 H0 H =
 Z0 (Ui [x15] H) fun g=>
 Z0 (ZQ g.1 0) fun u=>
 Z0 (ZQ g.1 1) fun w=>
 Z0 (ZQ g.1 2) fun j=>
 Z0 (Z5 .neq j (.int .i64 0)) fun y=>
 Zl y
 (some ((.tuple [(.str []),j]),g.2))
 (I3 x0 x10 x15 u w H0 g.2):=(ZD (C:=cfg) [3,6,9,11,12,16,17,20,23] (Zn 2 (ZaK H0)) _ _).trans (by kernel_rfl)
theorem Ze0:P9 x0 x5 x6 x10 x12 H0 H =
 Z0 (Z4 true 6 x5 H) fun j=>
 Z0 (Z4 true 5 x6 H) fun u=>
 Z0 (Pp [j,u,x12] H) fun g=>
 Gk x0 x10 g.1 H0 g.2:=Za [3,6,9,11,12,16,17,20,23]
theorem Ze5:I6 x0 x5 x6 x10 x12 x31 x32 x33 H0 H =
 Z0 (Z5 .add x33 (.int .i64 1)) fun g=>
 Gl x0 x5 x6 x10 x12 x31 x32 g H0 H:=Za [3,6,9,11,12,16,17,20,23]
theorem Ze4:I5 x0 x5 x6 x10 x12 x31 x32 x33 x34 H0 H =
 Z0 (Zo 1 x31 x33) fun u=>
 Z0 (Z4 false 1 u H) fun w=>
 Z0 (Pq [x0,w] H) fun g=>
 Z0 ((ZE 1 [(0,g.1)] [.nilp]).map (.vs 1 .clip)) fun y=>
 Z0 (Yl 1 8 x12 y g.2) fun j=>
 I6 x0 x5 x6 x10 j.1 x31 x32 x33 H0 j.2:=Za [3,6,9,11,12,16,17,20,23]
theorem Mq:Gl x0 x5 x6 x10 x12 x31 x32 x33 H0 H =
 Z0 (Z5 .lss x33 x32) fun g=>
 Zl g
 (I5 x0 x5 x6 x10 x12 x31 x32 x33 g H0 H)
 (P9 x0 x5 x6 x10 x12 H0 H):=(ZD (C:=cfg) [3,6,9,11,12,16,17,20,23] (Zn 0 (ZaL H0)) _ _).trans (by kernel_rfl)
theorem ZdZ:I1 x0 x3 x5 x6 x10 H0 H =
 Z0 (Zk (.slice 9) x3) fun g=>
 Gl x0 x5 x6 x10 .nils x3 g (.int .i64 0) H0 H:=Za [3,6,9,11,12,16,17,20,23]
theorem ZdY:I0 x0 x3 x5 x6 H0 H =
 Z0 (Vx [x0] H) fun g=>
 Z0 (ZQ g.1 0) fun u=>
 Z0 (ZQ g.1 1) fun j=>
 Z0 (Z5 .neq j (.int .i64 0)) fun w=>
 Zl w
 (some ((.tuple [(.str []),j]),g.2))
 (I1 x0 x3 x5 x6 u H0 g.2):=Za [3,6,9,11,12,16,17,20,23]
theorem ZeQ:Np [p0,p1,p2,p3] H=OU p0 p1 p2 p3 H:=Be 74 [3,6,9,11,12,16,17,20,23] Tryz.func101
def RE:Z3:=ZV 104 67 (sub (Z1 Tryz.f104) [1,1,1,1,1,1,1,1]) (Zh cfg 67 104 Tryz.f104 H0) [(13,x13)] H
def RD:Z3:=ZV 104 67 (sub (Z1 Tryz.f104) [1,1,1,1,1,1]) (Zh cfg 67 104 Tryz.f104 H0) [(1,x1),(5,x5)] H
def Wp:Z3:=ZV 104 67 (sub (Z1 Tryz.f104) [1,1,1,1,1]) (Zh cfg 67 104 Tryz.f104 H0) [(1,x1),(5,x5),(7,x7)] H
def Wq:KL:=Zc (Fz 104 67 Tryz.f104 [1,1,1,1,1]) (Zh cfg 67 104 Tryz.f104 H0)
theorem L6:ZW 67 (Wq H0):=Zy (C:=cfg) (kp:=cfg.keep 104) (sub (Z1 Tryz.f104) [1,1,1,1,1]) (ZB 104 Tryz.f104 H0)
def Ji:Z3:=ZV 104 67 (sub (Z1 Tryz.f104) [1,1,1,1,0,1,0,0,1,1,1]) (Zc (Wy 104 67 Tryz.f104 [1,1,1,1,0,1,0,0]) (Z7 0 (Wq H0))) [(1,x1),(5,x5),(6,x6),(7,x7),(20,x20),(21,x21),(22,x22)] H
def Ow:KL:=Zc (Fz 104 67 Tryz.f104 [1,1,1,1,0,1,0,0,1,1,1]) (Zc (Wy 104 67 Tryz.f104 [1,1,1,1,0,1,0,0]) (Z7 0 (Wq H0)))
def RG:Z3:=ZV 104 67 (sub (Z1 Tryz.f104) [1,1,1,1,0,1,0,0,1,1,0,0,1,1,1]) (Z7 1 (Ow H0)) [(1,x1),(5,x5),(6,x6),(7,x7),(8,x8),(10,x10),(11,x11),(20,x20),(21,x21),(22,x22)] H
def RF:Z3:=ZV 104 67 (sub (Z1 Tryz.f104) [1,1,1,1,0,1,0,0,1,1]) (Zc (Wy 104 67 Tryz.f104 [1,1,1,1,0,1,0,0]) (Z7 0 (Wq H0))) [(1,x1),(5,x5),(6,x6),(7,x7),(20,x20),(21,x21),(22,x22),(23,x23)] H
def VC:Z3:=DP 104 67 (sub (Z1 Tryz.f104) [1,1,1,1,0,1,0,0]) (Z7 0 (Wq H0)) [(1,x1),(5,x5),(6,x6),(7,x7),(20,x20),(21,x21),(22,x22)] H
def RV:Z3:=
 Z0 (ZM p0 H) fun g=>
 Z0 (some ((.ptr g.2.length 0),g.2++[.cells [(.str []),(.int .i64 0),(.bool false)]])) fun u=>
 Z0 (some (.fn (.func 128) [] [g.1])) fun w=>
 Z0 (Z4 false 1 g.1 u.2) fun y=>
 Z0 (Zu y) fun z=>
 Z0 (Z6 12 z) fun A=>
 Z0 (Z4 false 1 A u.2) fun j=>
 Z0 (Zk (.slice 130) j) fun B=>
 VC g.1 u.1 w (.int .i64 0) j B (.int .i64 0) H u.2
theorem SA:RE x13 H0 H =
 some ((.tuple [x13,(.bool true),(.int .i64 0)]),H):=Za [6,10,12,13,15,18]
theorem Sz:RD x1 x5 H0 H =
 Z0 (Z4 false 1 x1 H) fun u=>
 Z0 (Zu u) fun w=>
 Z0 (Z6 12 w) fun y=>
 Z0 (Z4 false 1 y H) fun z=>
 Z0 (Z6 1 x5) fun A=>
 Z0 (Z4 false 1 A H) fun B=>
 Z0 (Zo 1 z B) fun C=>
 Z0 (Z4 false 1 C H) fun D=>
 Z0 (KF [D] H) fun g=>
 Z0 (ZQ g.1 0) fun E=>
 Z0 (ZQ g.1 1) fun I=>
 Z0 (ZQ g.1 2) fun j=>
 Z0 (Z5 .neq j (.int .i64 0)) fun F=>
 Zl F
 (some ((.tuple [(.str []),(.bool false),j]),g.2))
 (RE E H0 g.2):=Za [6,10,12,13,15,18]
theorem B1:Wp x1 x5 x7 H0 H =
 Z0 (Z5 .neq x7 (.int .i64 0)) fun g=>
 Z0 (Z8 g false (.tuple []) (Z6 2 x5)) fun j=>
 Z0 (Z8 g false (.tuple []) (Z4 false 1 j H)) fun u=>
 Z0 (Z8 g false (.tuple []) (Xo .not u)) fun w=>
 Z0 (Zi g (.bool true) w) fun y=>
 Zl y
 (some ((.tuple [(.str []),(.bool false),x7]),H))
 (RD x1 x5 H0 H):=Za [6,10,12,13,15,18]
theorem B3:Ji x1 x5 x6 x7 x20 x21 x22 H0 H =
 Z0 (Z5 .add x22 (.int .i64 1)) fun g=>
 VC x1 x5 x6 x7 x20 x21 g H0 H:=Za [6,10,12,13,15,18]
theorem B4:RG x1 x5 x6 x7 x8 x10 x11 x20 x21 x22 H0 H =
 Zl x11
 (Z0 (WQ [x5,x8,x10,x6] H) fun g=>
 Ji x1 x5 x6 x7 x20 x21 x22 H0 g.2)
 (Ji x1 x5 x6 x7 x20 x21 x22 H0 H):=Za [6,10,12,13,15,18]
theorem B2:RF x1 x5 x6 x7 x20 x21 x22 x23 H0 H =
 Z0 (Zo 1 x20 x22) fun u=>
 Z0 (Z4 false 1 u H) fun w=>
 Z0 (V4 [w] H) fun g=>
 Z0 (ZQ g.1 0) fun y=>
 Z0 (ZQ g.1 1) fun z=>
 Z0 (ZQ g.1 2) fun j=>
 Z0 (Z5 .neq j (.int .i64 0)) fun A=>
 Zl A
 (Wp x1 x5 j H0 g.2)
 (RG x1 x5 x6 x7 x22 y z x20 x21 x22 H0 g.2):=Za [6,10,12,13,15,18]
theorem UC:VC x1 x5 x6 x7 x20 x21 x22 H0 H =
 Z0 (Z5 .lss x22 x21) fun g=>
 Zl g
 (RF x1 x5 x6 x7 x20 x21 x22 g H0 H)
 (Wp x1 x5 x7 H0 H):=(ZD (C:=cfg) [6,10,12,13,15,18] (Zn 0 (L6 H0)) _ _).trans (by kernel_rfl)
theorem Hm:Uj [p0] H=RV p0 H:=Be 67 [6,10,12,13,15,18] Tryz.func104
def Fb:Z3:=
 Z0 (Z4 false 1 p2 H) fun J=>
 Z0 (Zu J) fun K=>
 Z0 (Z6 11 K) fun L=>
 Z0 (Z4 false 1 L H) fun t9=>
 Z0 (Z8 t9 true (.tuple []) (Z4 false 1 p2 H)) fun j=>
 Z0 (Z8 t9 true (.tuple []) (Zu j)) fun u=>
 Z0 (Z8 t9 true (.tuple []) (Z6 0 u)) fun w=>
 Z0 (Z8 t9 true (.tuple []) (Z4 true 6 w H)) fun y=>
 Z0 (Z8 t9 true (.tuple []) (Z4 false 1 p2 H)) fun z=>
 Z0 (Z8 t9 true (.tuple []) (Zu z)) fun A=>
 Z0 (Z8 t9 true (.tuple []) (Z6 6 A)) fun B=>
 Z0 (Z8 t9 true (.tuple []) (Z4 true 5 B H)) fun C=>
 Z0 (Z8 t9 true (.tuple []) (some p0)) fun D=>
 Z0 (Z8 t9 true (.tuple []) (some p1)) fun E=>
 Z0 (Z8 t9 true ((.tuple []),H) (Zf UL [y,C,D,E] H)) fun g=>
 Z0 (Z8 t9 true (.tuple []) (Z5 .lss g.1 (.int .i64 0))) fun F=>
 Z0 (Zi t9 F (.bool false)) fun I=>
 some (I,g.2)
theorem LD:QB [p0,p1,p2] H=Fb p0 p1 p2 H:=Be 24 [] Tryz.func128
def Th:Z3:=ZV 129 68 (sub (Z1 Tryz.f129) [1,1,1,1]) (Zh cfg 68 129 Tryz.f129 H0) [(0,x0)] H
def Ut:Z3:=ZV 129 68 (sub (Z1 Tryz.f129) [1,1,1]) (Zh cfg 68 129 Tryz.f129 H0) [(0,x0)] H
def Tg:Z3:=ZV 129 68 (sub (Z1 Tryz.f129) [1,1]) (Zh cfg 68 129 Tryz.f129 H0) [(0,x0)] H
def KJ:Z3:=
 Z0 (YC (.pointer 150) .eql p0 .nilp) fun t9=>
 Zl t9
 (some ((.tuple [(.str []),(.bool false),(.int .i64 5)]),H))
 (Tg p0 H H)
theorem Dl:Th x0 H0 H =
 Z0 (Zu x0) fun g=>
 Z0 (Z6 5 g) fun j=>
 Z0 (Z4 false 1 j H) fun u=>
 some ((.tuple [u,(.bool true),(.int .i64 0)]),H):=Za [3,11,13]
theorem X8:Ut x0 H0 H =
 Z0 (Zu x0) fun g=>
 Z0 (Z6 3 g) fun j=>
 Z0 (Z4 false 1 j H) fun u=>
 Z0 (Xo .not u) fun w=>
 Zl w
 (some ((.tuple [(.str []),(.bool false),(.int .i64 0)]),H))
 (Th x0 H0 H):=Za [3,11,13]
theorem X7:Tg x0 H0 H =
 Z0 (Zu x0) fun B=>
 Z0 (Z6 3 B) fun C=>
 Z0 (Z4 false 1 C H) fun D=>
 Z0 (Xo .not D) fun j=>
 Z0 (Z8 j true (.tuple []) (some x0)) fun E=>
 Z0 (Z8 j true (.tuple []) (Zu E)) fun F=>
 Z0 (Z8 j true (.tuple []) (Z6 4 F)) fun I=>
 Z0 (Z8 j true (.tuple []) (Z4 false 1 I H)) fun J=>
 Z0 (Z8 j true (.tuple []) (Xo .not J)) fun K=>
 Z0 (Zi j K (.bool false)) fun L=>
 Zl L
 (Z0 (Zu x0) fun M=>
 Z0 (Z6 0 M) fun N=>
 Z0 (Z4 false 1 N H) fun O=>
 Z0 (Zu x0) fun Q=>
 Z0 (Z6 1 Q) fun R=>
 Z0 (Z4 false 1 R H) fun S=>
 Z0 (Zu x0) fun T=>
 Z0 (Z6 2 T) fun U=>
 Z0 (Z4 false 1 U H) fun V=>
 Z0 (Ve [O,S,V] H) fun g=>
 Z0 (ZQ g.1 0) fun W=>
 Z0 (ZQ g.1 1) fun t37=>
 Z0 (ZQ g.1 2) fun u=>
 Z0 (Z5 .eql u (.int .i64 0)) fun X=>
 Zl X
 (Z0 (Zu x0) fun Y=>
 Z0 (Z6 5 Y) fun Z=>
 Z0 (Ze 1 Z W g.2) fun w=>
 Z0 (Zu x0) fun aa=>
 Z0 (Z6 2 aa) fun ab=>
 Z0 (Ze 1 ab t37 w.2) fun y=>
 Z0 (Zu x0) fun ac=>
 Z0 (Z6 3 ac) fun ad=>
 Z0 (Ze 1 ad (.bool true) y.2) fun z=>
 Ut x0 H0 z.2)
 (Z0 (Z5 .eql u (.int .i64 5)) fun ae=>
 Zl ae
 (Z0 (Zu x0) fun af=>
 Z0 (Z6 4 af) fun ag=>
 Z0 (Ze 1 ag (.bool true) g.2) fun A=>
 Ut x0 H0 A.2)
 (some ((.tuple [(.str []),(.bool false),u]),g.2))))
 (Ut x0 H0 H):=Za [3,11,13]
theorem Fc:V4 [p0] H=KJ p0 H:=Be 68 [3,11,13] Tryz.func129
def QE:Z3:=
 Z0 (Zu p0) fun t9=>
 Z0 (Z6 2 t9) fun w=>
 Z0 (Z4 false 1 w H) fun y=>
 Z0 (Xo .not y) fun g=>
 Z0 (Z8 g false (.tuple []) (some p3)) fun z=>
 Z0 (Z8 g false (.tuple []) (some p2)) fun A=>
 Z0 (Z8 g false (.tuple []) (some p0)) fun B=>
 Z0 (Z8 g false (.tuple []) (Zu B)) fun C=>
 Z0 (Z8 g false (.tuple []) (Z6 0 C)) fun D=>
 Z0 (Z8 g false (.tuple []) (Z4 false 1 D H)) fun E=>
 Z0 (Z8 g false ((.tuple []),H) (Ym cfg (Z9 cfg) z [A,E] H)) fun j=>
 Z0 (Zi g (.bool true) j.1) fun F=>
 Zl F
 (Z0 ((Xh [(0,1,p2),(1,1,p1),(2,1,(.bool true))] [(.str []),(.int .i64 0),(.bool false)]).map .agg) fun I=>
 Z0 (Zu p0) fun J=>
 Z0 (Ze 3 J I j.2) fun u=>
 some ((.tuple []),u.2))
 (some ((.tuple []),j.2))
theorem Fy:WQ [p0,p1,p2,p3] H=QE p0 p1 p2 p3 H:=Be 27 [] Tryz.func130
def K6:Z3:=ZV 131 24 (sub (Z1 Tryz.f131) [1,1,1]) (Zh cfg 24 131 Tryz.f131 H0) [(5,x5),(6,x6),(7,x7)] H
def PJ:Z3:=
 Z0 (V4 [p0] H) fun g=>
 Z0 (ZQ g.1 0) fun w=>
 Z0 (ZQ g.1 1) fun j=>
 Z0 (ZQ g.1 2) fun y=>
 Zl j
 (Z0 (Zu p0) fun A=>
 Z0 (Z6 3 A) fun B=>
 Z0 (Ze 1 B (.bool false) g.2) fun z=>
 Z0 (Zu p0) fun C=>
 Z0 (Z6 5 C) fun D=>
 Z0 (Ze 1 D (.str []) z.2) fun u=>
 K6 w j y H u.2)
 (K6 w j y H g.2)
theorem Dk:K6 x5 x6 x7 H0 H =
 some ((.tuple [x5,x6,x7]),H):=Za [4]
theorem At:KF [p0] H=PJ p0 H:=Be 24 [4] Tryz.func131
end
end Go.Am
