/- The functions of the translation over the abstract machine -/
import Derived.Test.YtnaneekpogohaaaGreatDoorXeGx
namespace Go.Am
open Go.Proofs
set_option maxRecDepth 100000
noncomputable abbrev ZO (f n:Nat):=Yc cfg (Z9 cfg) (Y7 cfg (cfg.keep f) n) (cfg.keep f) n Zc Z7
noncomputable abbrev KJ (f n:Nat):=Y7 cfg (cfg.keep f) n
noncomputable section
abbrev Kz (f n:Nat)(F:Func)(p:List Nat):KL->AL->Hp->Z4:=fun k g H=>ZO f n (sub (Z1 F) p) k (ZW (cfg.keep f) (sub (Z1 F) p) g) H
abbrev XB (f n:Nat)(F:Func)(p:List Nat):KL->AL->Hp->Z4:=fun k g H=>KJ f n (sub (Z1 F) p) k (ZW (cfg.keep f) (sub (Z1 F) p) g) H
variable (p0 p1 p2 p3 p4 x0 x1 x3 x4 x5 x6 x7 x8 x9 x10 x11 x12 x13 x14 x15 x16 x17 x18 x19 x20 x21 x22 x23 x25 x26 x27 x28 x31 x32 x33 x34 x35 x48 x49 x50 x51:AV)(H0 H:Hp)
def Vh:Z4:=ZO 20 86 (sub (Uk cfg 20 Tryz.f20) [1,1,1,1,1,1,1]) (Zh cfg 86 20 Tryz.f20 H0) [(10,x10),(11,x11),(12,x12),(35,x35)] H
def Vi:KL:=Zc (fun k g H=>ZO 20 86 (sub (Uk cfg 20 Tryz.f20) [1,1,1,1,1,1,1]) k (ZW (cfg.keep 20) (sub (Uk cfg 20 Tryz.f20) [1,1,1,1,1,1,1]) g) H) (Zh cfg 86 20 Tryz.f20 H0)
theorem Oc:ZX 86 (Vi H0):=Zx (C:=cfg) (kp:=cfg.keep 20) (sub (Uk cfg 20 Tryz.f20) [1,1,1,1,1,1,1]) (ZA 20 Tryz.f20 H0)
def Cq:Z4:=ZO 20 86 (sub (Uk cfg 20 Tryz.f20) [1,1,1,1,1,1,0,0,1,1,1,1,1,1,1]) (Z7 900001 (Vi H0)) [(10,x10),(11,x11),(12,x12),(16,x16),(35,x35)] H
def Cp:Z4:=ZO 20 86 (sub (Uk cfg 20 Tryz.f20) [1,1,1,1,1,1,0,0,1,1,1,1,1]) (Z7 900001 (Vi H0)) [(10,x10),(11,x11),(12,x12),(14,x14),(15,x15),(16,x16),(35,x35)] H
def Kb:Z4:=ZO 20 86 (sub (Uk cfg 20 Tryz.f20) [1,1,1,1,1,1,0,0,1,1,1]) (Z7 900001 (Vi H0)) [(11,x11),(12,x12),(14,x14),(15,x15),(16,x16),(35,x35)] H
def Ru:KL:=Zc (fun k g H=>ZO 20 86 (sub (Uk cfg 20 Tryz.f20) [1,1,1,1,1,1,0,0,1,1,1]) k (ZW (cfg.keep 20) (sub (Uk cfg 20 Tryz.f20) [1,1,1,1,1,1,0,0,1,1,1]) g) H) (Z7 900001 (Vi H0))
theorem Od:ZX 86 (Ru H0):=Zx (C:=cfg) (kp:=cfg.keep 20) (sub (Uk cfg 20 Tryz.f20) [1,1,1,1,1,1,0,0,1,1,1]) (Zm 900001 (Oc H0))
def Cr:Z4:=ZO 20 86 (sub (Uk cfg 20 Tryz.f20) [1,1,1,1,1,1,0,0,1,1,0,0,0,1]) (Zc (fun k g H=>KJ 20 86 (sub (Uk cfg 20 Tryz.f20) [1,1,1,1,1,1,0,0,1,1,0,0,0]) k (ZW (cfg.keep 20) (sub (Uk cfg 20 Tryz.f20) [1,1,1,1,1,1,0,0,1,1,0,0,0]) g) H) (Z7 0 (Ru H0))) [(8,x8),(11,x11),(12,x12),(14,x14),(15,x15),(16,x16),(35,x35)] H
def Kc:Z4:=KJ 20 86 (sub (Uk cfg 20 Tryz.f20) [1,1,1,1,1,1,0,0,1,1,0,0,0]) (Z7 0 (Ru H0)) [(8,x8),(11,x11),(12,x12),(14,x14),(15,x15),(16,x16),(35,x35)] H
def Co:Z4:=ZO 20 86 (sub (Uk cfg 20 Tryz.f20) [1,1,1,1,1,1,0,0,1,1]) (Z7 900001 (Vi H0)) [(8,x8),(11,x11),(12,x12),(14,x14),(15,x15),(16,x16),(35,x35)] H
def Cn:Z4:=ZO 20 86 (sub (Uk cfg 20 Tryz.f20) [1,1,1,1]) (Zh cfg 86 20 Tryz.f20 H0) [(4,x4),(6,x6),(7,x7),(8,x8),(11,x11),(12,x12),(14,x14)] H
def Cl:Z4:=ZO 20 86 (sub (Uk cfg 20 Tryz.f20) [1,1]) (Zh cfg 86 20 Tryz.f20 H0) [(0,x0),(4,x4),(6,x6),(7,x7),(8,x8),(11,x11),(12,x12)] H
def Ap:Z4:=
 Z0 (ZN p1 H) fun J=>
 Z0 (ZN p2 J.2) fun A=>
 Z0 (ZN p3 A.2) fun z=>
 Z0 (some ((.ptr z.2.length 0),z.2++[.cells [(.int .i64 0),(.int .i64 0),(.int .i64 0),(.int .i64 0)]])) fun j=>
 Z0 (some ((.ptr j.2.length 0),j.2++[.cells [(.int .i64 0)]])) fun g=>
 Z0 (Z3 true 5 A.1 g.2) fun B=>
 Z0 (Z3 true 2 z.1 g.2) fun C=>
 Z0 (FL [p0,B,C,p4] g.2) fun w=>
 Z0 (Z5 .neq w.1 (.int .i64 0)) fun D=>
 Zk D
 (Z0 (some (.agg [(.int .i64 0),(.int .i64 0),(.int .i64 0),(.int .i64 0)])) fun E=>
 Z0 (Ze 4 j.1 E w.2) fun y=>
 Z0 (Ze 1 g.1 w.1 y.2) fun u=>
 Z0 (Z3 true 4 j.1 u.2) fun F=>
 Z0 (Z3 false 1 g.1 u.2) fun I=>
 some ((.tuple [.nils,F,I]),u.2))
 (Cl p0 p4 J.1 A.1 z.1 j.1 g.1 H w.2)
theorem Zcw:Vh x10 x11 x12 x35 H0 H =
 Z0 (Yn cfg (Z9 cfg) x35 [] H) fun g=>
 Z0 (Z3 true 4 x11 g.2) fun j=>
 Z0 (Z3 false 1 x12 g.2) fun u=>
 some ((.tuple [x10,j,u]),g.2):=Za [4,7,13,14,17,20,24,900002]
theorem ZcA:Cq x10 x11 x12 x16 x35 H0 H =
 Z0 (Zu x16) fun u=>
 Z0 (Z6 13 u) fun w=>
 Z0 (Z3 true 4 w H) fun y=>
 Z0 (Ze 4 x11 y H) fun g=>
 Z0 (Ze 1 x12 (.int .i64 0) g.2) fun j=>
 Vh x10 x11 x12 x35 H0 j.2:=Za [4,7,13,14,17,20,24,900002]
theorem Zcz:Cp x10 x11 x12 x14 x15 x16 x35 H0 H =
 Z0 (Ze 1 x15 (.bool true) H) fun j=>
 Z0 (Z3 false 1 x14 j.2) fun z=>
 Z0 (WW [z] j.2) fun u=>
 Z0 (Ze 1 x12 u.1 u.2) fun g=>
 Z0 (Z3 false 1 x12 g.2) fun A=>
 Z0 (Z5 .neq A (.int .i64 0)) fun B=>
 Zk B
 (Z0 (Sa x12 x11) fun _=>
 Z0 (some (.agg [(.int .i64 0),(.int .i64 0),(.int .i64 0),(.int .i64 0)])) fun C=>
 Z0 (Z3 false 1 x12 g.2) fun D=>
 Z0 (Ze 4 x11 C g.2) fun w=>
 Z0 (Ze 1 x12 D w.2) fun y=>
 Vh .nils x11 x12 x35 H0 y.2)
 (Cq x10 x11 x12 x16 x35 H0 g.2):=Za [4,7,13,14,17,20,24,900002]
theorem Zcy:Kb x11 x12 x14 x15 x16 x35 H0 H =
 Z0 (Q9 [x16] H) fun j=>
 Z0 (ZQ j.1 0) fun y=>
 Z0 (ZQ j.1 1) fun t70=>
 Z0 (Ze 1 x12 t70 j.2) fun g=>
 Z0 (Z3 false 1 x12 g.2) fun z=>
 Z0 (Z5 .neq z (.int .i64 0)) fun t72=>
 Zk t72
 (Z0 (Sa x12 x11) fun _=>
 Z0 (some (.agg [(.int .i64 0),(.int .i64 0),(.int .i64 0),(.int .i64 0)])) fun A=>
 Z0 (Z3 false 1 x12 g.2) fun B=>
 Z0 (Ze 4 x11 A g.2) fun u=>
 Z0 (Ze 1 x12 B u.2) fun w=>
 Vh .nils x11 x12 x35 H0 w.2)
 (Cp y x11 x12 x14 x15 x16 x35 H0 g.2):=Za [4,7,13,14,17,20,24,900002]
theorem ZcB:Cr x8 x11 x12 x14 x15 x16 x35 H0 H =
 Z0 (Z6 1 x8) fun y=>
 Z0 (Z3 false 1 y H) fun z=>
 Z0 (Qy [x16,z] H) fun j=>
 Z0 (Ze 1 x12 j.1 j.2) fun g=>
 Z0 (Z3 false 1 x12 g.2) fun A=>
 Z0 (Z5 .neq A (.int .i64 0)) fun B=>
 Zk B
 (Z0 (Sa x12 x11) fun _=>
 Z0 (some (.agg [(.int .i64 0),(.int .i64 0),(.int .i64 0),(.int .i64 0)])) fun C=>
 Z0 (Z3 false 1 x12 g.2) fun D=>
 Z0 (Ze 4 x11 C g.2) fun u=>
 Z0 (Ze 1 x12 D u.2) fun w=>
 Vh .nils x11 x12 x35 H0 w.2)
 (Kc x8 x11 x12 x14 x15 x16 x35 H0 g.2):=Za [4,7,13,14,17,20,24,900002]
theorem KV:Kc x8 x11 x12 x14 x15 x16 x35 H0 H =
 Z0 (Zu x16) fun g=>
 Z0 (Z6 12 g) fun j=>
 Z0 (Z3 false 1 j H) fun u=>
 Z0 (Zl (.slice 9) u) fun w=>
 Z0 (Z6 1 x8) fun y=>
 Z0 (Z3 false 1 y H) fun z=>
 Z0 (Z5 .gtr w z) fun A=>
 Zk A
 (Cr x8 x11 x12 x14 x15 x16 x35 H0 H)
 (Kb x11 x12 x14 x15 x16 x35 H0 H):=(ZD (C:=cfg) [4,7,13,14,17,20,24,900002] (Zm 0 (Od H0)) _ _).trans (by kernel_rfl)
theorem Zcx:Co x8 x11 x12 x14 x15 x16 x35 H0 H =
 Kc x8 x11 x12 x14 x15 x16 x35 H0 H:=Za [4,7,13,14,17,20,24,900002]
theorem Zcv:Cn x4 x6 x7 x8 x11 x12 x14 H0 H =
 Z0 (some ((.ptr H.length 0),H++[.cells [(.bool false)]])) fun u=>
 Z0 (Ze 1 u.1 (.bool false) u.2) fun g=>
 Z0 (some (.fn (.func 44) [] [x12,u.1,x14])) fun B=>
 Z0 (Z3 false 1 x14 g.2) fun C=>
 Z0 (Z3 true 6 x6 g.2) fun t37=>
 Z0 (Z3 true 5 x7 g.2) fun D=>
 Z0 ((Xj [(0,1,C),(1,6,t37),(7,5,D)] [.nilp,(.str []),.nils,(.str []),(.str []),.nils,.nils,.nils,(.int .i64 0),(.int .i64 0),(.bool false),(.bool false),.nils,(.int .i64 0),(.int .i64 0),(.int .i64 0),(.int .i64 0)]).map .agg) fun E=>
 Z0 (ZN E g.2) fun w=>
 Z0 (Z6 0 x8) fun F=>
 Z0 (Z3 false 1 F w.2) fun I=>
 Z0 (Qa [w.1,x4,I] w.2) fun y=>
 Z0 (Ze 1 x12 y.1 y.2) fun j=>
 Z0 (Z3 false 1 x12 j.2) fun J=>
 Z0 (Z5 .neq J (.int .i64 0)) fun K=>
 Zk K
 (Z0 (Sa x12 x11) fun _=>
 Z0 (some (.agg [(.int .i64 0),(.int .i64 0),(.int .i64 0),(.int .i64 0)])) fun L=>
 Z0 (Z3 false 1 x12 j.2) fun M=>
 Z0 (Ze 4 x11 L j.2) fun z=>
 Z0 (Ze 1 x12 M z.2) fun A=>
 Vh .nils x11 x12 B H0 A.2)
 (Co x8 x11 x12 x14 u.1 w.1 B H0 j.2):=Za [4,7,13,14,17,20,24,900002]
theorem Zcu:Cl x0 x4 x6 x7 x8 x11 x12 H0 H =
 Z0 (UI [x0,(.str [115,111,114,116]),(.int .i64 262144)] H) fun u=>
 Z0 (ZQ u.1 0) fun A=>
 Z0 (ZQ u.1 1) fun B=>
 Z0 (some ((.ptr u.2.length 0),u.2++[.cells [.nilp]])) fun w=>
 Z0 (Ze 1 w.1 A w.2) fun y=>
 Z0 (Ze 1 x12 B y.2) fun g=>
 Z0 (Z3 false 1 x12 g.2) fun C=>
 Z0 (Z5 .neq C (.int .i64 0)) fun D=>
 Zk D
 (Z0 (Sa x12 x11) fun _=>
 Z0 (some (.agg [(.int .i64 0),(.int .i64 0),(.int .i64 0),(.int .i64 0)])) fun E=>
 Z0 (Z3 false 1 x12 g.2) fun F=>
 Z0 (Ze 4 x11 E g.2) fun z=>
 Z0 (Ze 1 x12 F z.2) fun j=>
 Z0 (Z3 true 4 x11 j.2) fun I=>
 Z0 (Z3 false 1 x12 j.2) fun J=>
 some ((.tuple [.nils,I,J]),j.2))
 (Cn x4 x6 x7 x8 x11 x12 w.1 H0 g.2):=Za [4,7,13,14,17,20,24,900002]
theorem ZdO:Ty [p0,p1,p2,p3,p4] H=Ap p0 p1 p2 p3 p4 H:=(Zd (C:=cfg) (fn:=Tryz.f20) (c:=Uk cfg 20 Tryz.f20) (n:=86) [4,7,13,14,17,20,24,900002] Tryz.func20 (by kernel_rfl) (by kernel_rfl) [p0,p1,p2,p3,p4] (by kernel_rfl) H).trans (by kernel_rfl)
def Cd:Z4:=ZO 35 62 (sub (Z1 Tryz.f35) [1,1,1,1,1]) (Zh cfg 62 35 Tryz.f35 H0) [(4,x4),(5,x5)] H
def K9:KL:=Zc (Kz 35 62 Tryz.f35 [1,1,1,1,1]) (Zh cfg 62 35 Tryz.f35 H0)
theorem Oa:ZX 62 (K9 H0):=Zx (C:=cfg) (kp:=cfg.keep 35) (sub (Z1 Tryz.f35) [1,1,1,1,1]) (ZA 35 Tryz.f35 H0)
def Cf:Z4:=ZO 35 62 (sub (Z1 Tryz.f35) [1,1,1,1,0,1,0,0,1,1]) (Zc (XB 35 62 Tryz.f35 [1,1,1,1,0,1,0,0]) (Z7 2 (K9 H0))) [(3,x3),(4,x4),(5,x5),(10,x10)] H
def Ce:Z4:=ZO 35 62 (sub (Z1 Tryz.f35) [1,1,1,1,0,1,0,0,1]) (Zc (XB 35 62 Tryz.f35 [1,1,1,1,0,1,0,0]) (Z7 2 (K9 H0))) [(3,x3),(4,x4),(5,x5),(10,x10)] H
def Ka:Z4:=KJ 35 62 (sub (Z1 Tryz.f35) [1,1,1,1,0,1,0,0]) (Z7 2 (K9 H0)) [(3,x3),(4,x4),(5,x5),(10,x10)] H
def Rs:Z4:=ZO 35 62 (sub (Z1 Tryz.f35) [1,1,1,1]) (Zh cfg 62 35 Tryz.f35 H0) [(3,x3),(4,x4),(5,x5)] H
def US:KL:=Zc (Kz 35 62 Tryz.f35 [1,1,1,1]) (Zh cfg 62 35 Tryz.f35 H0)
theorem Ob:ZX 62 (US H0):=Zx (C:=cfg) (kp:=cfg.keep 35) (sub (Z1 Tryz.f35) [1,1,1,1]) (ZA 35 Tryz.f35 H0)
def Ch:Z4:=ZO 35 62 (sub (Z1 Tryz.f35) [1,1,1,0,1,0,0,1,1,1]) (Zc (XB 35 62 Tryz.f35 [1,1,1,0,1,0,0]) (Z7 0 (US H0))) [(3,x3),(4,x4),(5,x5),(6,x6),(14,x14),(15,x15),(16,x16)] H
def Cj:KL:=Zc (Kz 35 62 Tryz.f35 [1,1,1,0,1,0,0,1,1,1]) (Zc (XB 35 62 Tryz.f35 [1,1,1,0,1,0,0]) (Z7 0 (US H0)))
def Rt:Z4:=ZO 35 62 (sub (Z1 Tryz.f35) [1,1,1,0,1,0,0,1,1,0,0,1,1,1,1]) (Z7 1 (Cj H0)) [(3,x3),(4,x4),(5,x5),(6,x6),(9,x9),(14,x14),(15,x15),(16,x16)] H
def Ci:Z4:=ZO 35 62 (sub (Z1 Tryz.f35) [1,1,1,0,1,0,0,1,1,0,0,1,1]) (Z7 1 (Cj H0)) [(3,x3),(4,x4),(5,x5),(6,x6),(7,x7),(8,x8),(14,x14),(15,x15),(16,x16)] H
def Cg:Z4:=ZO 35 62 (sub (Z1 Tryz.f35) [1,1,1,0,1,0,0,1,1]) (Zc (XB 35 62 Tryz.f35 [1,1,1,0,1,0,0]) (Z7 0 (US H0))) [(3,x3),(4,x4),(5,x5),(6,x6),(14,x14),(15,x15),(16,x16),(17,x17)] H
def UT:Z4:=KJ 35 62 (sub (Z1 Tryz.f35) [1,1,1,0,1,0,0]) (Z7 0 (US H0)) [(3,x3),(4,x4),(5,x5),(6,x6),(14,x14),(15,x15),(16,x16)] H
def Cc:Z4:=ZO 35 62 (sub (Z1 Tryz.f35) [1,1]) (Zh cfg 62 35 Tryz.f35 H0) [(0,x0),(3,x3),(4,x4),(5,x5)] H
def Ao:Z4:=
 Z0 (ZN p1 H) fun j=>
 Z0 (Z3 true 2 j.1 j.2) fun u=>
 Z0 (Zf K5 [u] j.2) fun g=>
 Z0 (Xk .not g.1) fun w=>
 Zk w
 (some ((.tuple [(.int .i64 0),(.int .i64 0)]),g.2))
 (Cc p0 j.1 (.int .i64 0) (.int .i64 0) H g.2)
theorem PR:Cd x4 x5 H0 H =
 some ((.tuple [x4,x5]),H):=Za [3,6,9,12,13,14,16,17,18]
theorem Zct:Cf x3 x4 x5 x10 H0 H =
 Z0 (Z6 1 x3) fun g=>
 Z0 (Z3 false 1 g H) fun j=>
 Z0 (Z5 .add x10 j) fun u=>
 Z0 (Z5 .sub u (.int .i64 1)) fun w=>
 Z0 (Z6 1 x3) fun y=>
 Z0 (Z3 false 1 y H) fun z=>
 Z0 (Z5 .quo w z) fun A=>
 Ka x3 x4 x5 A H0 H:=Za [3,6,9,12,13,14,16,17,18]
theorem Zcs:Ce x3 x4 x5 x10 H0 H =
 Z0 (Z5 .add x5 (.int .i64 1)) fun g=>
 Cf x3 x4 g x10 H0 H:=Za [3,6,9,12,13,14,16,17,18]
theorem PS:Ka x3 x4 x5 x10 H0 H =
 Z0 (Z6 1 x3) fun g=>
 Z0 (Z3 false 1 g H) fun j=>
 Z0 (Z5 .gtr x10 j) fun u=>
 Zk u
 (Ce x3 x4 x5 x10 H0 H)
 (Cd x4 x5 H0 H):=(ZD (C:=cfg) [3,6,9,12,13,14,16,17,18] (Zm 2 (Oa H0)) _ _).trans (by kernel_rfl)
theorem Zcr:Rs x3 x4 x5 H0 H =
 Ka x3 x4 x5 x4 H0 H:=Za [3,6,9,12,13,14,16,17,18]
theorem KS:Ch x3 x4 x5 x6 x14 x15 x16 H0 H =
 Z0 (Z5 .add x16 (.int .i64 1)) fun g=>
 UT x3 x4 x5 x6 x14 x15 g H0 H:=Za [3,6,9,12,13,14,16,17,18]
theorem KU:Rt x3 x4 x5 x6 x9 x14 x15 x16 H0 H =
 Z0 (Z5 .add x6 x9) fun g=>
 Ch x3 x4 x5 g x14 x15 x16 H0 H:=Za [3,6,9,12,13,14,16,17,18]
theorem KT:Ci x3 x4 x5 x6 x7 x8 x14 x15 x16 H0 H =
 Z0 (Z5 .add x8 (.int .i64 16)) fun j=>
 Z0 (Z5 .eql x7 (.int .i64 0)) fun g=>
 Z0 (Z8 g false (.tuple []) (some x6)) fun u=>
 Z0 (Z8 g false (.tuple []) (some j)) fun w=>
 Z0 (Z8 g false (.tuple []) (Z5 .add u w)) fun y=>
 Z0 (Z8 g false (.tuple []) (Z6 0 x3)) fun z=>
 Z0 (Z8 g false (.tuple []) (Z3 false 1 z H)) fun A=>
 Z0 (Z8 g false (.tuple []) (Z5 .gtr y A)) fun t37=>
 Z0 (Zj g (.bool true) t37) fun B=>
 Zk B
 (Z0 (Z5 .add x4 (.int .i64 1)) fun C=>
 Rt x3 C x5 (.int .i64 0) j x14 x15 x16 H0 H)
 (Rt x3 x4 x5 x6 j x14 x15 x16 H0 H):=Za [3,6,9,12,13,14,16,17,18]
theorem V8:Cg x3 x4 x5 x6 x14 x15 x16 x17 H0 H =
 Z0 (Zp 1 x14 x16) fun u=>
 Z0 (Z3 false 1 u H) fun g=>
 Z0 (Z5 .lss g (.int .i64 0)) fun j=>
 Z0 (Z8 j false (.tuple []) (some g)) fun w=>
 Z0 (Z8 j false (.tuple []) (Z5 .gtr w (.int .i64 4096))) fun y=>
 Z0 (Zj j (.bool true) y) fun z=>
 Zk z
 (some ((.tuple [(.int .i64 0),(.int .i64 0)]),H))
 (Ci x3 x4 x5 x6 x16 g x14 x15 x16 H0 H):=Za [3,6,9,12,13,14,16,17,18]
theorem PT:UT x3 x4 x5 x6 x14 x15 x16 H0 H =
 Z0 (Z5 .lss x16 x15) fun g=>
 Zk g
 (Cg x3 x4 x5 x6 x14 x15 x16 g H0 H)
 (Rs x3 x4 x5 H0 H):=(ZD (C:=cfg) [3,6,9,12,13,14,16,17,18] (Zm 0 (Ob H0)) _ _).trans (by kernel_rfl)
theorem Zcq:Cc x0 x3 x4 x5 H0 H =
 Z0 (Zl (.slice 3) x0) fun g=>
 UT x3 x4 x5 (.int .i64 0) x0 g (.int .i64 0) H0 H:=Za [3,6,9,12,13,14,16,17,18]
theorem ZdN:Tx [p0,p1] H=Ao p0 p1 H:=Be 62 [3,6,9,12,13,14,16,17,18] Tryz.func35
def Ec:Z4:=ZO 42 35 (sub (Z1 Tryz.f42) [1,1,1,1,1,1]) (Zh cfg 35 42 Tryz.f42 H0) [] H
def Ja:KL:=Zc (Kz 42 35 Tryz.f42 [1,1,1,1,1,1]) (Zh cfg 35 42 Tryz.f42 H0)
theorem AO:ZX 35 (Ja H0):=Zx (C:=cfg) (kp:=cfg.keep 42) (sub (Z1 Tryz.f42) [1,1,1,1,1,1]) (ZA 42 Tryz.f42 H0)
def Ee:Z4:=ZO 42 35 (sub (Z1 Tryz.f42) [1,1,1,1,1,0,1,0,0,1,1,1]) (Zc (XB 42 35 Tryz.f42 [1,1,1,1,1,0,1,0,0]) (Z7 0 (Ja H0))) [(25,x25),(26,x26),(27,x27)] H
def Ed:Z4:=ZO 42 35 (sub (Z1 Tryz.f42) [1,1,1,1,1,0,1,0,0,1,1]) (Zc (XB 42 35 Tryz.f42 [1,1,1,1,1,0,1,0,0]) (Z7 0 (Ja H0))) [(25,x25),(26,x26),(27,x27),(28,x28)] H
def Jb:Z4:=KJ 42 35 (sub (Z1 Tryz.f42) [1,1,1,1,1,0,1,0,0]) (Z7 0 (Ja H0)) [(25,x25),(26,x26),(27,x27)] H
def Eb:Z4:=ZO 42 35 (sub (Z1 Tryz.f42) [1,1,1,1,1]) (Zh cfg 35 42 Tryz.f42 H0) [(3,x3)] H
def Ea:Z4:=ZO 42 35 (sub (Z1 Tryz.f42) [1,1,1,1]) (Zh cfg 35 42 Tryz.f42 H0) [(3,x3)] H
def E9:Z4:=ZO 42 35 (sub (Z1 Tryz.f42) [1,1,1]) (Zh cfg 35 42 Tryz.f42 H0) [(3,x3),(6,x6)] H
def E8:Z4:=ZO 42 35 (sub (Z1 Tryz.f42) [1,1]) (Zh cfg 35 42 Tryz.f42 H0) [(3,x3),(5,x5),(6,x6)] H
def SF:Z4:=
 Z0 (ZN p1 H) fun u=>
 Z0 (ZN p2 u.2) fun g=>
 Z0 (Yy (.pointer 82) .eql p0 .nilp) fun j=>
 Zk j
 (some ((.int .i64 5),g.2))
 (E8 p3 u.1 g.1 H g.2)
theorem ZaI:Ec H0 H =
 some ((.int .i64 0),H):=Za [3,6,8,10,12,15,16]
theorem ZaJ:Ee x25 x26 x27 H0 H =
 Z0 (Z5 .add x27 (.int .i64 1)) fun g=>
 Jb x25 x26 g H0 H:=Za [3,6,8,10,12,15,16]
theorem Tf:Ed x25 x26 x27 x28 H0 H =
 Z0 (Zp 1 x25 x27) fun g=>
 Z0 (Z3 false 1 g H) fun j=>
 Z0 (Zl .string j) fun u=>
 Z0 (Z5 .gtr u (.int .i64 4096)) fun w=>
 Zk w
 (some ((.int .i64 3),H))
 (Ee x25 x26 x27 H0 H):=Za [3,6,8,10,12,15,16]
theorem Tg:Jb x25 x26 x27 H0 H =
 Z0 (Z5 .lss x27 x26) fun g=>
 Zk g
 (Ed x25 x26 x27 g H0 H)
 (Ec H0 H):=(ZD (C:=cfg) [3,6,8,10,12,15,16] (Zm 0 (AO H0)) _ _).trans (by kernel_rfl)
theorem ZaH:Eb x3 H0 H =
 Z0 (Zl (.slice 9) x3) fun g=>
 Jb x3 g (.int .i64 0) H0 H:=Za [3,6,8,10,12,15,16]
theorem Te:Ea x3 H0 H =
 Z0 (Zl (.slice 9) x3) fun g=>
 Z0 (Z5 .gtr g (.int .i64 8192)) fun j=>
 Zk j
 (some ((.int .i64 3),H))
 (Eb x3 H0 H):=Za [3,6,8,10,12,15,16]
theorem K1:E9 x3 x6 H0 H =
 Z0 (Z3 true 2 x6 H) fun j=>
 Z0 (Zf K5 [j] H) fun g=>
 Z0 (Xk .not g.1) fun u=>
 Zk u
 (some ((.int .i64 2),g.2))
 (Ea x3 H0 g.2):=Za [3,6,8,10,12,15,16]
theorem Un:E8 x3 x5 x6 H0 H =
 Z0 (Z3 true 5 x5 H) fun j=>
 Z0 (Zf Wb [j] H) fun g=>
 Z0 (Z5 .neq g.1 (.int .i64 0)) fun u=>
 Zk u
 (some (g.1,g.2))
 (E9 x3 x6 H0 g.2):=Za [3,6,8,10,12,15,16]
theorem Zbp:FL [p0,p1,p2,p3] H=SF p0 p1 p2 p3 H:=Be 35 [3,6,8,10,12,15,16] Tryz.func42
def Lu:Z4:=
 Z0 (Z3 false 1 p0 H) fun t3=>
 Z0 (Z5 .neq t3 (.int .i64 0)) fun t4=>
 Z0 (Z8 t4 true (.tuple []) (Z3 false 1 p1 H)) fun j=>
 Z0 (Z8 t4 true (.tuple []) (Xk .not j)) fun u=>
 Z0 (Zj t4 u (.bool false)) fun w=>
 Zk w
 (Z0 (Z3 false 1 p2 H) fun t9=>
 Z0 (WW [t9] H) fun g=>
 some ((.tuple []),g.2))
 (some ((.tuple []),H))
theorem Zay:Ll [p0,p1,p2] H=Lu p0 p1 p2 H:=Be 11 [] Tryz.func44
def GS:Z4:=ZO 46 73 (sub (Z1 Tryz.f46) [1,1]) (Zh cfg 73 46 Tryz.f46 H0) [] H
def Xy:KL:=Zc (Kz 46 73 Tryz.f46 [1,1]) (Zh cfg 73 46 Tryz.f46 H0)
theorem TO:ZX 73 (Xy H0):=Zx (C:=cfg) (kp:=cfg.keep 46) (sub (Z1 Tryz.f46) [1,1]) (ZA 46 Tryz.f46 H0)
def GU:Z4:=ZO 46 73 (sub (Z1 Tryz.f46) [1,0,1,0,0,1,1,1]) (Zc (XB 46 73 Tryz.f46 [1,0,1,0,0]) (Z7 0 (Xy H0))) [(0,x0),(13,x13),(14,x14),(15,x15)] H
def Sw:KL:=Zc (Kz 46 73 Tryz.f46 [1,0,1,0,0,1,1,1]) (Zc (XB 46 73 Tryz.f46 [1,0,1,0,0]) (Z7 0 (Xy H0)))
def GV:Z4:=ZO 46 73 (sub (Z1 Tryz.f46) [1,0,1,0,0,1,1,0,0,1,1,1]) (Z7 1 (Sw H0)) [(0,x0),(8,x8),(9,x9),(13,x13),(14,x14),(15,x15)] H
def GT:Z4:=ZO 46 73 (sub (Z1 Tryz.f46) [1,0,1,0,0,1,1]) (Zc (XB 46 73 Tryz.f46 [1,0,1,0,0]) (Z7 0 (Xy H0))) [(0,x0),(13,x13),(14,x14),(15,x15),(16,x16)] H
def WE:Z4:=KJ 46 73 (sub (Z1 Tryz.f46) [1,0,1,0,0]) (Z7 0 (Xy H0)) [(0,x0),(13,x13),(14,x14),(15,x15)] H
def BT:Z4:=
 Z0 (Zf Ls [p1,p2] H) fun g=>
 Z0 (Zl (.slice 29) g.1) fun j=>
 WE p0 g.1 j (.int .i64 0) H g.2
theorem NC:GS H0 H =
 some ((.int .i64 0),H):=Za [3,7,11,12]
theorem NE:GU x0 x13 x14 x15 H0 H =
 Z0 (Z5 .add x15 (.int .i64 1)) fun t72=>
 WE x0 x13 x14 t72 H0 H:=Za [3,7,11,12]
theorem NF:GV x0 x8 x9 x13 x14 x15 H0 H =
 Z0 (XX [x0] H) fun u=>
 Z0 (Zu x0) fun A=>
 Z0 (Z6 12 A) fun B=>
 Z0 (Z3 false 1 B u.2) fun C=>
 Z0 ((ZE 1 [(0,x9)] [(.str [])]).map (.vs 1 .clip)) fun D=>
 Z0 (Ym 1 16 C D u.2) fun w=>
 Z0 (Zu x0) fun E=>
 Z0 (Z6 12 E) fun F=>
 Z0 (Ze 1 F w.1 w.2) fun g=>
 Z0 (Zu x0) fun I=>
 Z0 (Z6 13 I) fun J=>
 Z0 (Z6 0 J) fun K=>
 Z0 (Z3 false 1 K g.2) fun L=>
 Z0 (Z5 .add L (.int .i64 1)) fun M=>
 Z0 (Zu x0) fun N=>
 Z0 (Z6 13 N) fun O=>
 Z0 (Z6 0 O) fun Q=>
 Z0 (Ze 1 Q M g.2) fun j=>
 Z0 (Zu x0) fun R=>
 Z0 (Z6 13 R) fun S=>
 Z0 (Z6 2 S) fun T=>
 Z0 (Z3 false 1 T j.2) fun U=>
 Z0 (Zf Tz [x8] j.2) fun y=>
 Z0 (Ql U y.1) fun V=>
 Z0 (Zu x0) fun W=>
 Z0 (Z6 13 W) fun t70=>
 Z0 (Z6 2 t70) fun X=>
 Z0 (Ze 1 X V y.2) fun z=>
 GU x0 x13 x14 x15 H0 z.2:=Za [3,7,11,12]
theorem ND:GT x0 x13 x14 x15 x16 H0 H =
 Z0 (Zp 1 x13 x15) fun w=>
 Z0 (Z3 false 1 w H) fun j=>
 Z0 (Zu x0) fun y=>
 Z0 (Z6 0 y) fun z=>
 Z0 (Z3 false 1 z H) fun A=>
 Z0 (Zu x0) fun B=>
 Z0 (Z6 1 B) fun C=>
 Z0 (Z3 true 6 C H) fun D=>
 Z0 (Zu x0) fun E=>
 Z0 (Z6 7 E) fun F=>
 Z0 (Z3 true 5 F H) fun I=>
 Z0 (Lt [A,D,I,j] H) fun g=>
 Z0 (ZQ g.1 0) fun J=>
 Z0 (ZQ g.1 1) fun u=>
 Z0 (Z5 .neq u (.int .i64 0)) fun t37=>
 Zk t37
 (some (u,g.2))
 (GV x0 j J x13 x14 x15 H0 g.2):=Za [3,7,11,12]
theorem JF:WE x0 x13 x14 x15 H0 H =
 Z0 (Z5 .lss x15 x14) fun g=>
 Zk g
 (GT x0 x13 x14 x15 g H0 H)
 (GS H0 H):=(ZD (C:=cfg) [3,7,11,12] (Zm 0 (TO H0)) _ _).trans (by kernel_rfl)
theorem Mw:Qa [p0,p1,p2] H=BT p0 p1 p2 H:=Be 73 [3,7,11,12] Tryz.func46
def D7:Z4:=ZO 47 60 (sub (Z1 Tryz.f47) [1,1,1]) (Zh cfg 60 47 Tryz.f47 H0) [(0,x0),(5,x5)] H
def XH:KL:=Zc (Kz 47 60 Tryz.f47 [1,1,1]) (Zh cfg 60 47 Tryz.f47 H0)
theorem QQ:ZX 60 (XH H0):=Zx (C:=cfg) (kp:=cfg.keep 47) (sub (Z1 Tryz.f47) [1,1,1]) (ZA 47 Tryz.f47 H0)
def D9:Z4:=ZO 47 60 (sub (Z1 Tryz.f47) [1,1,0,1,0,0,1,1,1]) (Zc (XB 47 60 Tryz.f47 [1,1,0,1,0,0]) (Z7 0 (XH H0))) [(0,x0),(5,x5),(19,x19),(20,x20),(21,x21)] H
def WY:KL:=Zc (Kz 47 60 Tryz.f47 [1,1,0,1,0,0,1,1,1]) (Zc (XB 47 60 Tryz.f47 [1,1,0,1,0,0]) (Z7 0 (XH H0)))
theorem PV:ZX 60 (WY H0):=Zx (C:=cfg) (kp:=cfg.keep 47) (sub (Z1 Tryz.f47) [1,1,0,1,0,0,1,1,1]) (Nh (C:=cfg) (kp:=cfg.keep 47) (sub (Z1 Tryz.f47) [1,1,0,1,0,0]) (Zm 0 (QQ H0)))
def Da:Z4:=ZO 47 60 (sub (Z1 Tryz.f47) [1,1,0,1,0,0,1,1,0,0,1,1,1,1,1]) (Z7 1 (WY H0)) [(0,x0),(5,x5),(11,x11),(19,x19),(20,x20),(21,x21)] H
def Qd:Z4:=ZO 47 60 (sub (Z1 Tryz.f47) [1,1,0,1,0,0,1,1,0,0,1,1,1]) (Z7 1 (WY H0)) [(0,x0),(5,x5),(8,x8),(19,x19),(20,x20),(21,x21)] H
def WZ:KL:=Zc (Kz 47 60 Tryz.f47 [1,1,0,1,0,0,1,1,0,0,1,1,1]) (Z7 1 (WY H0))
theorem PW:ZX 60 (WZ H0):=Zx (C:=cfg) (kp:=cfg.keep 47) (sub (Z1 Tryz.f47) [1,1,0,1,0,0,1,1,0,0,1,1,1]) (Zm 1 (PV H0))
def Dc:Z4:=ZO 47 60 (sub (Z1 Tryz.f47) [1,1,0,1,0,0,1,1,0,0,1,1,0,1,0,0,1,1,1]) (Zc (XB 47 60 Tryz.f47 [1,1,0,1,0,0,1,1,0,0,1,1,0,1,0,0]) (Z7 2 (WZ H0))) [(0,x0),(5,x5),(8,x8),(19,x19),(20,x20),(21,x21),(25,x25),(26,x26),(27,x27)] H
def Db:Z4:=ZO 47 60 (sub (Z1 Tryz.f47) [1,1,0,1,0,0,1,1,0,0,1,1,0,1,0,0,1,1]) (Zc (XB 47 60 Tryz.f47 [1,1,0,1,0,0,1,1,0,0,1,1,0,1,0,0]) (Z7 2 (WZ H0))) [(0,x0),(5,x5),(8,x8),(19,x19),(20,x20),(21,x21),(25,x25),(26,x26),(27,x27),(28,x28)] H
def V1:Z4:=KJ 47 60 (sub (Z1 Tryz.f47) [1,1,0,1,0,0,1,1,0,0,1,1,0,1,0,0]) (Z7 2 (WZ H0)) [(0,x0),(5,x5),(8,x8),(19,x19),(20,x20),(21,x21),(25,x25),(26,x26),(27,x27)] H
def D8:Z4:=ZO 47 60 (sub (Z1 Tryz.f47) [1,1,0,1,0,0,1,1]) (Zc (XB 47 60 Tryz.f47 [1,1,0,1,0,0]) (Z7 0 (XH H0))) [(0,x0),(5,x5),(19,x19),(20,x20),(21,x21),(22,x22)] H
def V0:Z4:=KJ 47 60 (sub (Z1 Tryz.f47) [1,1,0,1,0,0]) (Z7 0 (XH H0)) [(0,x0),(5,x5),(19,x19),(20,x20),(21,x21)] H
def Fd:Z4:=
 Z0 (Zu p0) fun j=>
 Z0 (Z6 12 j) fun u=>
 Z0 (Z3 false 1 u H) fun w=>
 Z0 (Zl (.slice 9) w) fun y=>
 Z0 (Zf Lq [y,p1] H) fun g=>
 Z0 (Zl (.slice 38) g.1) fun z=>
 V0 p0 .nils g.1 z (.int .i64 0) H g.2
theorem MN:D7 x0 x5 H0 H =
 Z0 (Zu x0) fun j=>
 Z0 (Z6 12 j) fun u=>
 Z0 (Ze 1 u x5 H) fun g=>
 some ((.int .i64 0),g.2):=Za [4,8,10,11,14,15,16]
theorem MP:D9 x0 x5 x19 x20 x21 H0 H =
 Z0 (Z5 .add x21 (.int .i64 1)) fun g=>
 V0 x0 x5 x19 x20 g H0 H:=Za [4,8,10,11,14,15,16]
theorem MR:Da x0 x5 x11 x19 x20 x21 H0 H =
 Z0 ((ZE 1 [(0,x11)] [(.str [])]).map (.vs 1 .clip)) fun j=>
 Z0 (Ym 1 16 x5 j H) fun g=>
 D9 x0 g.1 x19 x20 x21 H0 g.2:=Za [4,8,10,11,14,15,16]
theorem MQ:Qd x0 x5 x8 x19 x20 x21 H0 H =
 Z0 (Q8 [x0,x8] H) fun g=>
 Z0 (ZQ g.1 0) fun u=>
 Z0 (ZQ g.1 1) fun j=>
 Z0 (Z5 .neq j (.int .i64 0)) fun w=>
 Zk w
 (some (j,g.2))
 (Da x0 x5 u x19 x20 x21 H0 g.2):=Za [4,8,10,11,14,15,16]
theorem MT:Dc x0 x5 x8 x19 x20 x21 x25 x26 x27 H0 H =
 Z0 (Z5 .add x27 (.int .i64 1)) fun g=>
 V1 x0 x5 x8 x19 x20 x21 x25 x26 g H0 H:=Za [4,8,10,11,14,15,16]
theorem MS:Db x0 x5 x8 x19 x20 x21 x25 x26 x27 x28 H0 H =
 Z0 (Zp 1 x25 x27) fun j=>
 Z0 (Z3 false 1 j H) fun u=>
 Z0 (Zu x0) fun w=>
 Z0 (Z6 12 w) fun y=>
 Z0 (Z3 false 1 y H) fun z=>
 Z0 (Zp 1 z u) fun t37=>
 Z0 (Z3 false 1 t37 H) fun A=>
 Z0 ((ZE 1 [(0,A)] [(.str [])]).map (.vs 1 .clip)) fun B=>
 Z0 (Ym 1 16 x8 B H) fun g=>
 Dc x0 x5 g.1 x19 x20 x21 x25 x26 x27 H0 g.2:=Za [4,8,10,11,14,15,16]
theorem Kh:V1 x0 x5 x8 x19 x20 x21 x25 x26 x27 H0 H =
 Z0 (Z5 .lss x27 x26) fun g=>
 Zk g
 (Db x0 x5 x8 x19 x20 x21 x25 x26 x27 g H0 H)
 (Qd x0 x5 x8 x19 x20 x21 H0 H):=(ZD (C:=cfg) [4,8,10,11,14,15,16] (Zm 2 (PW H0)) _ _).trans (by kernel_rfl)
theorem MO:D8 x0 x5 x19 x20 x21 x22 H0 H =
 Z0 (Zp 1 x19 x21) fun j=>
 Z0 (Z3 false 1 j H) fun g=>
 Z0 (Zl (.slice 3) g) fun u=>
 V1 x0 x5 .nils x19 x20 x21 g u (.int .i64 0) H0 H:=Za [4,8,10,11,14,15,16]
theorem Kg:V0 x0 x5 x19 x20 x21 H0 H =
 Z0 (Z5 .lss x21 x20) fun g=>
 Zk g
 (D8 x0 x5 x19 x20 x21 g H0 H)
 (D7 x0 x5 H0 H):=(ZD (C:=cfg) [4,8,10,11,14,15,16] (Zm 0 (QQ H0)) _ _).trans (by kernel_rfl)
theorem Lw:Qy [p0,p1] H=Fd p0 p1 H:=Be 60 [4,8,10,11,14,15,16] Tryz.func47
def GP:Z4:=ZO 48 57 (sub (Z1 Tryz.f48) [1,1,1,1,1,0,0,0,1,1,1]) (Z7 3 (Zc (XB 48 57 Tryz.f48 [1,1,1,1,1,0,0]) (Z7 2 (Zh cfg 57 48 Tryz.f48 H0)))) [(7,x7),(8,x8),(9,x9)] H
def GO:Z4:=ZO 48 57 (sub (Z1 Tryz.f48) [1,1,1,1,1,0,0,0,1,1]) (Z7 3 (Zc (XB 48 57 Tryz.f48 [1,1,1,1,1,0,0]) (Z7 2 (Zh cfg 57 48 Tryz.f48 H0)))) [(7,x7),(8,x8),(9,x9),(10,x10)] H
def WC:Z4:=KJ 48 57 (sub (Z1 Tryz.f48) [1,1,1,1,1,0,0]) (Z7 2 (Zh cfg 57 48 Tryz.f48 H0)) [(7,x7),(8,x8)] H
def Uw:Z4:=ZO 48 57 (sub (Z1 Tryz.f48) [1,1,1]) (Zh cfg 57 48 Tryz.f48 H0) [(0,x0),(4,x4)] H
def WB:KL:=Zc (Kz 48 57 Tryz.f48 [1,1,1]) (Zh cfg 57 48 Tryz.f48 H0)
theorem TN:ZX 57 (WB H0):=Zx (C:=cfg) (kp:=cfg.keep 48) (sub (Z1 Tryz.f48) [1,1,1]) (ZA 48 Tryz.f48 H0)
def GR:Z4:=ZO 48 57 (sub (Z1 Tryz.f48) [1,1,0,1,0,0,1,1,1]) (Zc (XB 48 57 Tryz.f48 [1,1,0,1,0,0]) (Z7 0 (WB H0))) [(0,x0),(4,x4),(15,x15),(16,x16),(17,x17)] H
def GQ:Z4:=ZO 48 57 (sub (Z1 Tryz.f48) [1,1,0,1,0,0,1,1]) (Zc (XB 48 57 Tryz.f48 [1,1,0,1,0,0]) (Z7 0 (WB H0))) [(0,x0),(4,x4),(15,x15),(16,x16),(17,x17),(18,x18)] H
def WD:Z4:=KJ 48 57 (sub (Z1 Tryz.f48) [1,1,0,1,0,0]) (Z7 0 (WB H0)) [(0,x0),(4,x4),(15,x15),(16,x16),(17,x17)] H
def BS:Z4:=
 Z0 (Zu p0) fun j=>
 Z0 (Z6 12 j) fun u=>
 Z0 (Z3 false 1 u H) fun g=>
 Z0 (Zl (.slice 9) g) fun w=>
 WD p0 .nils g w (.int .i64 0) H H
theorem Nz:GP x7 x8 x9 H0 H =
 Z0 ((ZE 1 [(0,x9)] [(.str [])]).map (.vs 1 .clip)) fun j=>
 Z0 (Ym 1 16 x8 j H) fun g=>
 WC x7 g.1 H0 g.2:=Za [4,6,7,12,14]
theorem Vn:GO x7 x8 x9 x10 H0 H =
 Z0 (Xk .not x10) fun g=>
 Zk g
 (some ((.tuple [x8,(.int .i64 0)]),H))
 (GP x7 x8 x9 H0 H):=Za [4,6,7,12,14]
theorem Vo:WC x7 x8 H0 H =
 Z0 (Uf [x7] H) fun g=>
 Z0 (ZQ g.1 0) fun u=>
 Z0 (ZQ g.1 1) fun w=>
 Z0 (ZQ g.1 2) fun j=>
 Z0 (Z5 .neq j (.int .i64 0)) fun y=>
 Zk y
 (some ((.tuple [.nils,j]),g.2))
 (GO x7 x8 u w H0 g.2):=(ZD (C:=cfg) [4,6,7,12,14] (Zm 2 (ZA 48 Tryz.f48 H0)) _ _).trans (by kernel_rfl)
theorem Ny:Uw x0 x4 H0 H =
 Z0 (Zu x0) fun j=>
 Z0 (Z6 1 j) fun u=>
 Z0 (Z3 true 6 u H) fun w=>
 Z0 (Zu x0) fun y=>
 Z0 (Z6 7 y) fun t37=>
 Z0 (Z3 true 5 t37 H) fun z=>
 Z0 (Pn [w,z,x4] H) fun g=>
 WC g.1 .nils H0 g.2:=Za [4,6,7,12,14]
theorem NB:GR x0 x4 x15 x16 x17 H0 H =
 Z0 (Z5 .add x17 (.int .i64 1)) fun g=>
 WD x0 x4 x15 x16 g H0 H:=Za [4,6,7,12,14]
theorem NA:GQ x0 x4 x15 x16 x17 x18 H0 H =
 Z0 (Zp 1 x15 x17) fun u=>
 Z0 (Z3 false 1 u H) fun w=>
 Z0 (Zu x0) fun y=>
 Z0 (Z6 0 y) fun z=>
 Z0 (Z3 false 1 z H) fun A=>
 Z0 (Po [A,w] H) fun g=>
 Z0 ((ZE 1 [(0,g.1)] [.nilp]).map (.vs 1 .clip)) fun B=>
 Z0 (Ym 1 8 x4 B g.2) fun j=>
 GR x0 j.1 x15 x16 x17 H0 j.2:=Za [4,6,7,12,14]
theorem JE:WD x0 x4 x15 x16 x17 H0 H =
 Z0 (Z5 .lss x17 x16) fun g=>
 Zk g
 (GQ x0 x4 x15 x16 x17 g H0 H)
 (Uw x0 x4 H0 H):=(ZD (C:=cfg) [4,6,7,12,14] (Zm 0 (TN H0)) _ _).trans (by kernel_rfl)
theorem Mv:Q9 [p0] H=BS p0 H:=Be 57 [4,6,7,12,14] Tryz.func48
def SG:Z4:=
 Z0 (ZN p0 H) fun g=>
 Z0 (Z6 0 g.1) fun t3=>
 Z0 (Z3 false 1 t3 g.2) fun t4=>
 Z0 (Z5 .geq t4 (.int .i64 64)) fun t5=>
 Z0 (Z8 t5 true (.tuple []) (Z6 0 g.1)) fun E=>
 Z0 (Z8 t5 true (.tuple []) (Z3 false 1 E g.2)) fun F=>
 Z0 (Z8 t5 true (.tuple []) (Z5 .leq F (.int .i64 65536))) fun t9=>
 Z0 (Zj t5 t9 (.bool false)) fun j=>
 Z0 (Z8 j true (.tuple []) (Z6 1 g.1)) fun w=>
 Z0 (Z8 j true (.tuple []) (Z3 false 1 w g.2)) fun y=>
 Z0 (Z8 j true (.tuple []) (Z5 .geq y (.int .i64 2))) fun z=>
 Z0 (Zj j z (.bool false)) fun u=>
 Z0 (Z8 u true (.tuple []) (Z6 1 g.1)) fun A=>
 Z0 (Z8 u true (.tuple []) (Z3 false 1 A g.2)) fun B=>
 Z0 (Z8 u true (.tuple []) (Z5 .leq B (.int .i64 32))) fun C=>
 Z0 (Zj u C (.bool false)) fun D=>
 some (D,g.2)
theorem Zbq:K5 [p0] H=SG p0 H:=Be 21 [] Tryz.func69
def Zau:Z4:=ZO 74 39 (sub (Z1 Tryz.f74) [1,1,1,1,1,1]) (Zh cfg 39 74 Tryz.f74 H0) [(10,x10)] H
def Zat:Z4:=ZO 74 39 (sub (Z1 Tryz.f74) [1,1,1,1,1]) (Zh cfg 39 74 Tryz.f74 H0) [(0,x0),(10,x10)] H
def Zas:Z4:=ZO 74 39 (sub (Z1 Tryz.f74) [1,1,1,1]) (Zh cfg 39 74 Tryz.f74 H0) [(0,x0),(3,x3),(5,x5),(6,x6),(10,x10)] H
def Zar:Z4:=ZO 74 39 (sub (Z1 Tryz.f74) [1,1]) (Zh cfg 39 74 Tryz.f74 H0) [(0,x0),(3,x3),(5,x5),(6,x6)] H
def Zbw:Z4:=
 Z0 (ZN p1 H) fun u=>
 Z0 (ZN p2 u.2) fun g=>
 Z0 (Yy (.pointer 124) .eql p0 .nilp) fun j=>
 Zk j
 (some ((.tuple [(.str []),(.int .i64 5)]),g.2))
 (Zar p0 p3 u.1 g.1 H g.2)
theorem ZfR:Zau x10 H0 H =
 some ((.tuple [x10,(.int .i64 0)]),H):=Za [3,6,9,12]
theorem ZfQ:Zat x0 x10 H0 H =
 Z0 (Vg [x0,x10] H) fun g=>
 Z0 (Z5 .neq g.1 (.int .i64 0)) fun j=>
 Zk j
 (some ((.tuple [(.str []),g.1]),g.2))
 (Zau x10 H0 g.2):=Za [3,6,9,12]
theorem ZfP:Zas x0 x3 x5 x6 x10 H0 H =
 Z0 (Z3 true 6 x5 H) fun u=>
 Z0 (Z3 true 5 x6 H) fun w=>
 Z0 (Zf G5 [u,w,x3] H) fun j=>
 Z0 (WX [x0,x10,j.1] j.2) fun g=>
 Z0 (Z5 .neq g.1 (.int .i64 0)) fun y=>
 Zk y
 (some ((.tuple [(.str []),g.1]),g.2))
 (Zat x0 x10 H0 g.2):=Za [3,6,9,12]
theorem ZfO:Zar x0 x3 x5 x6 H0 H =
 Z0 (Vz [x0] H) fun g=>
 Z0 (ZQ g.1 0) fun u=>
 Z0 (ZQ g.1 1) fun j=>
 Z0 (Z5 .neq j (.int .i64 0)) fun w=>
 Zk w
 (some ((.tuple [(.str []),j]),g.2))
 (Zas x0 x3 x5 x6 u H0 g.2):=Za [3,6,9,12]
theorem Zga:Lt [p0,p1,p2,p3] H=Zbw p0 p1 p2 p3 H:=Be 39 [3,6,9,12] Tryz.func74
def Fe:Z4:=
 Z0 (Zu p0) fun t4=>
 Z0 (Z6 13 t4) fun t5=>
 Z0 (Z6 3 t5) fun C=>
 Z0 (Z3 false 1 C H) fun D=>
 Z0 (Zu p0) fun t9=>
 Z0 (Z6 0 t9) fun u=>
 Z0 (Z3 false 1 u H) fun w=>
 Z0 (QU QA [w] H) fun g=>
 Z0 (Ql D g.1) fun y=>
 Z0 (Zu p0) fun z=>
 Z0 (Z6 13 z) fun A=>
 Z0 (Z6 3 A) fun B=>
 Z0 (Ze 1 B y g.2) fun j=>
 some ((.tuple []),j.2)
theorem Lx:XX [p0] H=Fe p0 H:=Be 17 [] Tryz.func75
def Cs:Z4:=ZO 76 19 (sub (Z1 Tryz.f76) [1,1,1]) (Zh cfg 19 76 Tryz.f76 H0) [(3,x3)] H
def Kd:KL:=Zc (Kz 76 19 Tryz.f76 [1,1,1]) (Zh cfg 19 76 Tryz.f76 H0)
theorem Oe:ZX 19 (Kd H0):=Zx (C:=cfg) (kp:=cfg.keep 76) (sub (Z1 Tryz.f76) [1,1,1]) (ZA 76 Tryz.f76 H0)
def Cu:Z4:=ZO 76 19 (sub (Z1 Tryz.f76) [1,1,0,1,0,0,1,1,1]) (Zc (XB 76 19 Tryz.f76 [1,1,0,1,0,0]) (Z7 0 (Kd H0))) [(3,x3),(6,x6),(7,x7),(8,x8)] H
def Ct:Z4:=ZO 76 19 (sub (Z1 Tryz.f76) [1,1,0,1,0,0,1,1]) (Zc (XB 76 19 Tryz.f76 [1,1,0,1,0,0]) (Z7 0 (Kd H0))) [(3,x3),(6,x6),(7,x7),(8,x8),(9,x9)] H
def Kf:Z4:=KJ 76 19 (sub (Z1 Tryz.f76) [1,1,0,1,0,0]) (Z7 0 (Kd H0)) [(3,x3),(6,x6),(7,x7),(8,x8)] H
def Aq:Z4:=
 Z0 (Zl (.slice 9) p0) fun g=>
 Kf (.int .i64 0) p0 g (.int .i64 0) H H
theorem ZcC:Cs x3 H0 H =
 some (x3,H):=Za [4,6,7]
theorem ZcE:Cu x3 x6 x7 x8 H0 H =
 Z0 (Z5 .add x8 (.int .i64 1)) fun g=>
 Kf x3 x6 x7 g H0 H:=Za [4,6,7]
theorem ZcD:Ct x3 x6 x7 x8 x9 H0 H =
 Z0 (Zp 1 x6 x8) fun g=>
 Z0 (Z3 false 1 g H) fun j=>
 Z0 (Zl .string j) fun u=>
 Z0 (Z5 .add u (.int .i64 16)) fun w=>
 Z0 (Z5 .add x3 w) fun y=>
 Cu y x6 x7 x8 H0 H:=Za [4,6,7]
theorem PU:Kf x3 x6 x7 x8 H0 H =
 Z0 (Z5 .lss x8 x7) fun t9=>
 Zk t9
 (Ct x3 x6 x7 x8 t9 H0 H)
 (Cs x3 H0 H):=(ZD (C:=cfg) [4,6,7] (Zm 0 (Oe H0)) _ _).trans (by kernel_rfl)
theorem ZdP:Tz [p0] H=Aq p0 H:=Be 19 [4,6,7] Tryz.func76
def GK:Z4:=ZO 78 67 (sub (Z1 Tryz.f78) [1,1,1,1,1,1,1]) (Zh cfg 67 78 Tryz.f78 H0) [(6,x6)] H
def Xx:KL:=Zc (Kz 78 67 Tryz.f78 [1,1,1,1,1,1,1]) (Zh cfg 67 78 Tryz.f78 H0)
theorem TM:ZX 67 (Xx H0):=Zx (C:=cfg) (kp:=cfg.keep 78) (sub (Z1 Tryz.f78) [1,1,1,1,1,1,1]) (ZA 78 Tryz.f78 H0)
def GM:Z4:=ZO 78 67 (sub (Z1 Tryz.f78) [1,1,1,1,1,1,0,1,0,0,1,1,1]) (Zc (XB 78 67 Tryz.f78 [1,1,1,1,1,1,0,1,0,0]) (Z7 0 (Xx H0))) [(0,x0),(6,x6),(48,x48),(49,x49),(50,x50)] H
def Sv:KL:=Zc (Kz 78 67 Tryz.f78 [1,1,1,1,1,1,0,1,0,0,1,1,1]) (Zc (XB 78 67 Tryz.f78 [1,1,1,1,1,1,0,1,0,0]) (Z7 0 (Xx H0)))
def GN:Z4:=ZO 78 67 (sub (Z1 Tryz.f78) [1,1,1,1,1,1,0,1,0,0,1,1,0,0,1,1]) (Z7 1 (Sv H0)) [(0,x0),(6,x6),(48,x48),(49,x49),(50,x50)] H
def GL:Z4:=ZO 78 67 (sub (Z1 Tryz.f78) [1,1,1,1,1,1,0,1,0,0,1,1]) (Zc (XB 78 67 Tryz.f78 [1,1,1,1,1,1,0,1,0,0]) (Z7 0 (Xx H0))) [(0,x0),(6,x6),(48,x48),(49,x49),(50,x50),(51,x51)] H
def WA:Z4:=KJ 78 67 (sub (Z1 Tryz.f78) [1,1,1,1,1,1,0,1,0,0]) (Z7 0 (Xx H0)) [(0,x0),(6,x6),(48,x48),(49,x49),(50,x50)] H
def GJ:Z4:=ZO 78 67 (sub (Z1 Tryz.f78) [1,1,1,1]) (Zh cfg 67 78 Tryz.f78 H0) [(0,x0),(1,x1),(6,x6)] H
def GI:Z4:=ZO 78 67 (sub (Z1 Tryz.f78) [1,1]) (Zh cfg 67 78 Tryz.f78 H0) [(0,x0),(1,x1)] H
def BR:Z4:=
 Z0 (Zl (.slice 9) p1) fun g=>
 Z0 (Z5 .eql g (.int .i64 1)) fun j=>
 Zk j
 (Z0 (Zp 1 p1 (.int .i64 0)) fun u=>
 Z0 (Z3 false 1 u H) fun w=>
 some ((.tuple [w,(.int .i64 0)]),H))
 (GI p0 p1 H H)
theorem Nu:GK x6 H0 H =
 some ((.tuple [x6,(.int .i64 0)]),H):=Za [3,6,10,14,15,16]
theorem Nw:GM x0 x6 x48 x49 x50 H0 H =
 Z0 (Z5 .add x50 (.int .i64 1)) fun g=>
 WA x0 x6 x48 x49 g H0 H:=Za [3,6,10,14,15,16]
theorem Nx:GN x0 x6 x48 x49 x50 H0 H =
 Z0 (XX [x0] H) fun g=>
 GM x0 x6 x48 x49 x50 H0 g.2:=Za [3,6,10,14,15,16]
theorem Nv:GL x0 x6 x48 x49 x50 x51 H0 H =
 Z0 (Zp 1 x48 x50) fun j=>
 Z0 (Z3 false 1 j H) fun u=>
 Z0 (Zu x0) fun w=>
 Z0 (Z6 0 w) fun y=>
 Z0 (Z3 false 1 y H) fun z=>
 Z0 (Uu [z,u] H) fun g=>
 Z0 (Z5 .neq g.1 (.int .i64 0)) fun A=>
 Zk A
 (some ((.tuple [(.str []),g.1]),g.2))
 (GN x0 x6 x48 x49 x50 H0 g.2):=Za [3,6,10,14,15,16]
theorem JD:WA x0 x6 x48 x49 x50 H0 H =
 Z0 (Z5 .lss x50 x49) fun g=>
 Zk g
 (GL x0 x6 x48 x49 x50 g H0 H)
 (GK x6 H0 H):=(ZD (C:=cfg) [3,6,10,14,15,16] (Zm 0 (TM H0)) _ _).trans (by kernel_rfl)
theorem Nt:GJ x0 x1 x6 H0 H =
 Z0 (Zu x0) fun u=>
 Z0 (Z6 13 u) fun w=>
 Z0 (Z6 1 w) fun y=>
 Z0 (Z3 false 1 y H) fun z=>
 Z0 (Z5 .add z (.int .i64 1)) fun A=>
 Z0 (Zu x0) fun B=>
 Z0 (Z6 13 B) fun C=>
 Z0 (Z6 1 C) fun D=>
 Z0 (Ze 1 D A H) fun g=>
 Z0 (XX [x0] g.2) fun j=>
 Z0 (Zl (.slice 9) x1) fun E=>
 WA x0 x6 x1 E (.int .i64 0) H0 j.2:=Za [3,6,10,14,15,16]
theorem Ns:GI x0 x1 H0 H =
 Z0 (Zu x0) fun u=>
 Z0 (Z6 0 u) fun w=>
 Z0 (Z3 false 1 w H) fun y=>
 Z0 (Zu x0) fun z=>
 Z0 (Z6 1 z) fun A=>
 Z0 (Z3 true 6 A H) fun B=>
 Z0 (Zu x0) fun C=>
 Z0 (Z6 7 C) fun D=>
 Z0 (Z3 true 5 D H) fun E=>
 Z0 (Nn [y,B,E,x1] H) fun g=>
 Z0 (ZQ g.1 0) fun F=>
 Z0 (ZQ g.1 1) fun j=>
 Z0 (Z5 .neq j (.int .i64 0)) fun I=>
 Zk I
 (some ((.tuple [(.str []),j]),g.2))
 (GJ x0 x1 F H0 g.2):=Za [3,6,10,14,15,16]
theorem Mu:Q8 [p0,p1] H=BR p0 p1 H:=Be 67 [3,6,10,14,15,16] Tryz.func78
def Zdg:Z4:=ZO 79 11 (sub (Z1 Tryz.f79) [1,1]) (Zh cfg 11 79 Tryz.f79 H0) [(0,x0),(1,x1)] H
def Zew:Z4:=
 Z0 (Yy (.pointer 124) .eql p0 .nilp) fun g=>
 Zk g
 (some (.nilp,H))
 (Zdg p0 p1 H H)
theorem ZhN:Zdg x0 x1 H0 H =
 Z0 ((Xj [(0,1,x0),(1,1,x1)] [.nilp,(.str []),(.int .i64 0),(.bool false),(.bool false),(.str [])]).map .agg) fun t9=>
 Z0 (ZN t9 H) fun g=>
 some (g.1,g.2):=Za [3]
theorem Zii:Po [p0,p1] H=Zew p0 p1 H:=Be 11 [3] Tryz.func79
def Zev:Z4:=
 Z0 (ZN p0 H) fun J=>
 Z0 (ZN p1 J.2) fun y=>
 Z0 (Z6 0 y.1) fun L=>
 Z0 (Z3 false 1 L y.2) fun M=>
 Z0 (Ym 5 40 .nils M y.2) fun K=>
 Z0 (Z6 0 y.1) fun B=>
 Z0 (Ze 1 B K.1 K.2) fun A=>
 WS y.1 A.2 fun z4 z=>
 Z0 (Z3 true 6 J.1 z) fun C=>
 Z0 (Zf G6 [C] z) fun g=>
 Z0 (Wf true 5 z4) fun D=>
 Z0 (Z3 true 5 z4 g.2) fun E=>
 Z0 (Zf Wb [E] g.2) fun j=>
 Z0 (Z5 .eql j.1 (.int .i64 0)) fun F=>
 Z0 (Ym 1 8 .nils p2 j.2) fun u=>
 Z0 ((Xj [(0,6,g.1),(6,5,D),(11,1,F),(12,1,u.1)] [(.str []),.nils,(.str []),(.str []),.nils,.nils,.nils,(.int .i64 0),(.int .i64 0),(.bool false),(.bool false),(.bool false),.nils,(.str []),(.bool false)]).map .agg) fun I=>
 Z0 (ZN I u.2) fun w=>
 some (w.1,w.2)
theorem Zih:Pn [p0,p1,p2] H=Zev p0 p1 p2 H:=Be 21 [] Tryz.func80
def Jk:Z4:=ZO 81 61 (sub (Z1 Tryz.f81) [1,1,0,0,0,1,1,1]) (Z7 1 (Zc (XB 81 61 Tryz.f81 [1,1,0,0]) (Z7 0 (Zh cfg 61 81 Tryz.f81 H0)))) [(0,x0),(5,x5)] H
def Jj:Z4:=ZO 81 61 (sub (Z1 Tryz.f81) [1,1,0,0,0,1,1]) (Z7 1 (Zc (XB 81 61 Tryz.f81 [1,1,0,0]) (Z7 0 (Zh cfg 61 81 Tryz.f81 H0)))) [(0,x0),(5,x5)] H
def Wp:Z4:=KJ 81 61 (sub (Z1 Tryz.f81) [1,1,0,0]) (Z7 0 (Zh cfg 61 81 Tryz.f81 H0)) [(0,x0)] H
def RH:Z4:=ZO 81 61 (sub (Z1 Tryz.f81) [1,1]) (Zh cfg 61 81 Tryz.f81 H0) [(0,x0)] H
def RY:Z4:=
 Z0 (Yy (.pointer 153) .eql p0 .nilp) fun t9=>
 Zk t9
 (some ((.tuple [(.str []),(.bool false),(.int .i64 5)]),H))
 (RH p0 H H)
theorem Sz:Jk x0 x5 H0 H =
 Z0 (Zu x0) fun u=>
 Z0 (Z6 14 u) fun w=>
 Z0 (Ze 1 w (.bool true) H) fun j=>
 Z0 (Zu x0) fun y=>
 Z0 (Z6 13 y) fun z=>
 Z0 (Ze 1 z x5 j.2) fun g=>
 some ((.tuple [x5,(.bool true),(.int .i64 0)]),g.2):=Za [3,6,7]
theorem Sy:Jj x0 x5 H0 H =
 Z0 (Zu x0) fun y=>
 Z0 (Z6 14 y) fun z=>
 Z0 (Z3 false 1 z H) fun u=>
 Z0 (Z8 u true (.tuple []) (some x0)) fun A=>
 Z0 (Z8 u true (.tuple []) (Zu A)) fun B=>
 Z0 (Z8 u true (.tuple []) (Z6 11 B)) fun C=>
 Z0 (Z8 u true (.tuple []) (Z3 false 1 C H)) fun D=>
 Z0 (Zj u D (.bool false)) fun j=>
 Z0 (Z8 j true (.tuple []) (some x0)) fun E=>
 Z0 (Z8 j true (.tuple []) (Zu E)) fun F=>
 Z0 (Z8 j true (.tuple []) (Z6 6 F)) fun I=>
 Z0 (Z8 j true (.tuple []) (Z6 3 I)) fun J=>
 Z0 (Z8 j true (.tuple []) (Z3 false 1 J H)) fun K=>
 Z0 (Zj j K (.bool false)) fun g=>
 Z0 (Z8 g true (.tuple []) (some x0)) fun t37=>
 Z0 (Z8 g true (.tuple []) (Zu t37)) fun L=>
 Z0 (Z8 g true (.tuple []) (Z6 0 L)) fun M=>
 Z0 (Z8 g true (.tuple []) (Z3 true 6 M H)) fun N=>
 Z0 (Z8 g true (.tuple []) (some x0)) fun O=>
 Z0 (Z8 g true (.tuple []) (Zu O)) fun Q=>
 Z0 (Z8 g true (.tuple []) (Z6 6 Q)) fun R=>
 Z0 (Z8 g true (.tuple []) (Z3 true 5 R H)) fun S=>
 Z0 (Z8 g true (.tuple []) (some x0)) fun T=>
 Z0 (Z8 g true (.tuple []) (Zu T)) fun U=>
 Z0 (Z8 g true (.tuple []) (Z6 13 U)) fun V=>
 Z0 (Z8 g true (.tuple []) (Z3 false 1 V H)) fun W=>
 Z0 (Z8 g true (.tuple []) (some x5)) fun X=>
 Z0 (Z8 g true ((.tuple []),H) (Zf Wv [N,S,W,X] H)) fun w=>
 Z0 (Z8 g true (.tuple []) (Z5 .eql w.1 (.int .i64 0))) fun Y=>
 Z0 (Zj g Y (.bool false)) fun Z=>
 Zk Z
 (Wp x0 H0 w.2)
 (Jk x0 x5 H0 w.2):=Za [3,6,7]
theorem WG:Wp x0 H0 H =
 Z0 (Ug [x0] H) fun g=>
 Z0 (ZQ g.1 0) fun j=>
 Z0 (ZQ g.1 1) fun u=>
 Z0 (ZQ g.1 2) fun w=>
 Z0 (Xk .not u) fun y=>
 Zk y
 (some ((.tuple [(.str []),(.bool false),w]),g.2))
 (Jj x0 j H0 g.2):=(ZD (C:=cfg) [3,6,7] (Zm 0 (ZA 81 Tryz.f81 H0)) _ _).trans (by kernel_rfl)
theorem Sx:RH x0 H0 H =
 Wp x0 H0 H:=Za [3,6,7]
theorem Hr:Uf [p0] H=RY p0 H:=Be 61 [3,6,7] Tryz.func81
def I4:Z4:=ZO 101 74 (sub (Z1 Tryz.f101) [1,1,1,1,1,1,1,1,1]) (Zh cfg 74 101 Tryz.f101 H0) [(10,x10)] H
def Pa:Z4:=ZO 101 74 (sub (Z1 Tryz.f101) [1,1,1,1,1,1,1,1]) (Zh cfg 74 101 Tryz.f101 H0) [(0,x0),(10,x10)] H
def Gl:KL:=Zc (Kz 101 74 Tryz.f101 [1,1,1,1,1,1,1,1]) (Zh cfg 74 101 Tryz.f101 H0)
theorem ZaP:ZX 74 (Gl H0):=Zx (C:=cfg) (kp:=cfg.keep 101) (sub (Z1 Tryz.f101) [1,1,1,1,1,1,1,1]) (ZA 101 Tryz.f101 H0)
def I6:Z4:=ZO 101 74 (sub (Z1 Tryz.f101) [1,1,1,1,1,1,1,0,0,0,0,1,1,1]) (Z7 3 (Zc (XB 101 74 Tryz.f101 [1,1,1,1,1,1,1,0,0,0]) (Z7 2 (Gl H0)))) [(0,x0),(10,x10),(15,x15),(16,x16)] H
def I5:Z4:=ZO 101 74 (sub (Z1 Tryz.f101) [1,1,1,1,1,1,1,0,0,0,0,1,1]) (Z7 3 (Zc (XB 101 74 Tryz.f101 [1,1,1,1,1,1,1,0,0,0]) (Z7 2 (Gl H0)))) [(0,x0),(10,x10),(15,x15),(16,x16),(17,x17)] H
def Gn:Z4:=KJ 101 74 (sub (Z1 Tryz.f101) [1,1,1,1,1,1,1,0,0,0]) (Z7 2 (Gl H0)) [(0,x0),(10,x10),(15,x15)] H
def P9:Z4:=ZO 101 74 (sub (Z1 Tryz.f101) [1,1,1,1,1,1]) (Zh cfg 74 101 Tryz.f101 H0) [(0,x0),(5,x5),(6,x6),(10,x10),(12,x12)] H
def Gm:KL:=Zc (Kz 101 74 Tryz.f101 [1,1,1,1,1,1]) (Zh cfg 74 101 Tryz.f101 H0)
theorem ZaQ:ZX 74 (Gm H0):=Zx (C:=cfg) (kp:=cfg.keep 101) (sub (Z1 Tryz.f101) [1,1,1,1,1,1]) (ZA 101 Tryz.f101 H0)
def I8:Z4:=ZO 101 74 (sub (Z1 Tryz.f101) [1,1,1,1,1,0,1,0,0,1,1,1]) (Zc (XB 101 74 Tryz.f101 [1,1,1,1,1,0,1,0,0]) (Z7 0 (Gm H0))) [(0,x0),(5,x5),(6,x6),(10,x10),(12,x12),(31,x31),(32,x32),(33,x33)] H
def I7:Z4:=ZO 101 74 (sub (Z1 Tryz.f101) [1,1,1,1,1,0,1,0,0,1,1]) (Zc (XB 101 74 Tryz.f101 [1,1,1,1,1,0,1,0,0]) (Z7 0 (Gm H0))) [(0,x0),(5,x5),(6,x6),(10,x10),(12,x12),(31,x31),(32,x32),(33,x33),(34,x34)] H
def Gp:Z4:=KJ 101 74 (sub (Z1 Tryz.f101) [1,1,1,1,1,0,1,0,0]) (Z7 0 (Gm H0)) [(0,x0),(5,x5),(6,x6),(10,x10),(12,x12),(31,x31),(32,x32),(33,x33)] H
def I3:Z4:=ZO 101 74 (sub (Z1 Tryz.f101) [1,1,1,1]) (Zh cfg 74 101 Tryz.f101 H0) [(0,x0),(3,x3),(5,x5),(6,x6),(10,x10)] H
def I2:Z4:=ZO 101 74 (sub (Z1 Tryz.f101) [1,1]) (Zh cfg 74 101 Tryz.f101 H0) [(0,x0),(3,x3),(5,x5),(6,x6)] H
def OY:Z4:=
 Z0 (ZN p1 H) fun u=>
 Z0 (ZN p2 u.2) fun g=>
 Z0 (Yy (.pointer 124) .eql p0 .nilp) fun j=>
 Zk j
 (some ((.tuple [(.str []),(.int .i64 5)]),g.2))
 (I2 p0 p3 u.1 g.1 H g.2)
theorem Zeg:I4 x10 H0 H =
 some ((.tuple [x10,(.int .i64 0)]),H):=Za [3,6,9,11,12,16,17,20,23]
theorem Zef:Pa x0 x10 H0 H =
 Z0 (Vg [x0,x10] H) fun g=>
 Z0 (Z5 .neq g.1 (.int .i64 0)) fun j=>
 Zk j
 (some ((.tuple [(.str []),g.1]),g.2))
 (I4 x10 H0 g.2):=Za [3,6,9,11,12,16,17,20,23]
theorem Zeh:I6 x0 x10 x15 x16 H0 H =
 Z0 ((ZE 1 [(0,x16)] [(.str [])]).map (.vs 1 .clip)) fun j=>
 Z0 (WX [x0,x10,j] H) fun g=>
 Z0 (Z5 .neq g.1 (.int .i64 0)) fun u=>
 Zk u
 (some ((.tuple [(.str []),g.1]),g.2))
 (Gn x0 x10 x15 H0 g.2):=Za [3,6,9,11,12,16,17,20,23]
theorem BG:I5 x0 x10 x15 x16 x17 H0 H =
 Z0 (Xk .not x17) fun g=>
 Zk g
 (Pa x0 x10 H0 H)
 (I6 x0 x10 x15 x16 H0 H):=Za [3,6,9,11,12,16,17,20,23]
theorem BH:Gn x0 x10 x15 H0 H =
 Z0 (Uf [x15] H) fun g=>
 Z0 (ZQ g.1 0) fun u=>
 Z0 (ZQ g.1 1) fun w=>
 Z0 (ZQ g.1 2) fun j=>
 Z0 (Z5 .neq j (.int .i64 0)) fun y=>
 Zk y
 (some ((.tuple [(.str []),j]),g.2))
 (I5 x0 x10 x15 u w H0 g.2):=(ZD (C:=cfg) [3,6,9,11,12,16,17,20,23] (Zm 2 (ZaP H0)) _ _).trans (by kernel_rfl)
theorem Zee:P9 x0 x5 x6 x10 x12 H0 H =
 Z0 (Z3 true 6 x5 H) fun j=>
 Z0 (Z3 true 5 x6 H) fun u=>
 Z0 (Pn [j,u,x12] H) fun g=>
 Gn x0 x10 g.1 H0 g.2:=Za [3,6,9,11,12,16,17,20,23]
theorem Zej:I8 x0 x5 x6 x10 x12 x31 x32 x33 H0 H =
 Z0 (Z5 .add x33 (.int .i64 1)) fun g=>
 Gp x0 x5 x6 x10 x12 x31 x32 g H0 H:=Za [3,6,9,11,12,16,17,20,23]
theorem Zei:I7 x0 x5 x6 x10 x12 x31 x32 x33 x34 H0 H =
 Z0 (Zp 1 x31 x33) fun u=>
 Z0 (Z3 false 1 u H) fun w=>
 Z0 (Po [x0,w] H) fun g=>
 Z0 ((ZE 1 [(0,g.1)] [.nilp]).map (.vs 1 .clip)) fun y=>
 Z0 (Ym 1 8 x12 y g.2) fun j=>
 I8 x0 x5 x6 x10 j.1 x31 x32 x33 H0 j.2:=Za [3,6,9,11,12,16,17,20,23]
theorem Mp:Gp x0 x5 x6 x10 x12 x31 x32 x33 H0 H =
 Z0 (Z5 .lss x33 x32) fun g=>
 Zk g
 (I7 x0 x5 x6 x10 x12 x31 x32 x33 g H0 H)
 (P9 x0 x5 x6 x10 x12 H0 H):=(ZD (C:=cfg) [3,6,9,11,12,16,17,20,23] (Zm 0 (ZaQ H0)) _ _).trans (by kernel_rfl)
theorem Zed:I3 x0 x3 x5 x6 x10 H0 H =
 Z0 (Zl (.slice 9) x3) fun g=>
 Gp x0 x5 x6 x10 .nils x3 g (.int .i64 0) H0 H:=Za [3,6,9,11,12,16,17,20,23]
theorem Zec:I2 x0 x3 x5 x6 H0 H =
 Z0 (Vz [x0] H) fun g=>
 Z0 (ZQ g.1 0) fun u=>
 Z0 (ZQ g.1 1) fun j=>
 Z0 (Z5 .neq j (.int .i64 0)) fun w=>
 Zk w
 (some ((.tuple [(.str []),j]),g.2))
 (I3 x0 x3 x5 x6 u H0 g.2):=Za [3,6,9,11,12,16,17,20,23]
theorem Zf1:Nn [p0,p1,p2,p3] H=OY p0 p1 p2 p3 H:=Be 74 [3,6,9,11,12,16,17,20,23] Tryz.func101
def RJ:Z4:=ZO 104 67 (sub (Z1 Tryz.f104) [1,1,1,1,1,1,1,1]) (Zh cfg 67 104 Tryz.f104 H0) [(13,x13)] H
def RI:Z4:=ZO 104 67 (sub (Z1 Tryz.f104) [1,1,1,1,1,1]) (Zh cfg 67 104 Tryz.f104 H0) [(1,x1),(5,x5)] H
def Wq:Z4:=ZO 104 67 (sub (Z1 Tryz.f104) [1,1,1,1,1]) (Zh cfg 67 104 Tryz.f104 H0) [(1,x1),(5,x5),(7,x7)] H
def Wr:KL:=Zc (Kz 104 67 Tryz.f104 [1,1,1,1,1]) (Zh cfg 67 104 Tryz.f104 H0)
theorem L4:ZX 67 (Wr H0):=Zx (C:=cfg) (kp:=cfg.keep 104) (sub (Z1 Tryz.f104) [1,1,1,1,1]) (ZA 104 Tryz.f104 H0)
def Jl:Z4:=ZO 104 67 (sub (Z1 Tryz.f104) [1,1,1,1,0,1,0,0,1,1,1]) (Zc (XB 104 67 Tryz.f104 [1,1,1,1,0,1,0,0]) (Z7 0 (Wr H0))) [(1,x1),(5,x5),(6,x6),(7,x7),(20,x20),(21,x21),(22,x22)] H
def Oz:KL:=Zc (Kz 104 67 Tryz.f104 [1,1,1,1,0,1,0,0,1,1,1]) (Zc (XB 104 67 Tryz.f104 [1,1,1,1,0,1,0,0]) (Z7 0 (Wr H0)))
def RL:Z4:=ZO 104 67 (sub (Z1 Tryz.f104) [1,1,1,1,0,1,0,0,1,1,0,0,1,1,1]) (Z7 1 (Oz H0)) [(1,x1),(5,x5),(6,x6),(7,x7),(8,x8),(10,x10),(11,x11),(20,x20),(21,x21),(22,x22)] H
def RK:Z4:=ZO 104 67 (sub (Z1 Tryz.f104) [1,1,1,1,0,1,0,0,1,1]) (Zc (XB 104 67 Tryz.f104 [1,1,1,1,0,1,0,0]) (Z7 0 (Wr H0))) [(1,x1),(5,x5),(6,x6),(7,x7),(20,x20),(21,x21),(22,x22),(23,x23)] H
def VG:Z4:=KJ 104 67 (sub (Z1 Tryz.f104) [1,1,1,1,0,1,0,0]) (Z7 0 (Wr H0)) [(1,x1),(5,x5),(6,x6),(7,x7),(20,x20),(21,x21),(22,x22)] H
def RZ:Z4:=
 Z0 (ZN p0 H) fun g=>
 Z0 (some ((.ptr g.2.length 0),g.2++[.cells [(.str []),(.int .i64 0),(.bool false)]])) fun u=>
 Z0 (some (.fn (.func 128) [] [g.1])) fun w=>
 Z0 (Z3 false 1 g.1 u.2) fun y=>
 Z0 (Zu y) fun z=>
 Z0 (Z6 12 z) fun A=>
 Z0 (Z3 false 1 A u.2) fun j=>
 Z0 (Zl (.slice 130) j) fun B=>
 VG g.1 u.1 w (.int .i64 0) j B (.int .i64 0) H u.2
theorem SB:RJ x13 H0 H =
 some ((.tuple [x13,(.bool true),(.int .i64 0)]),H):=Za [6,10,12,13,15,18]
theorem SA:RI x1 x5 H0 H =
 Z0 (Z3 false 1 x1 H) fun u=>
 Z0 (Zu u) fun w=>
 Z0 (Z6 12 w) fun y=>
 Z0 (Z3 false 1 y H) fun z=>
 Z0 (Z6 1 x5) fun A=>
 Z0 (Z3 false 1 A H) fun B=>
 Z0 (Zp 1 z B) fun C=>
 Z0 (Z3 false 1 C H) fun D=>
 Z0 (KC [D] H) fun g=>
 Z0 (ZQ g.1 0) fun E=>
 Z0 (ZQ g.1 1) fun I=>
 Z0 (ZQ g.1 2) fun j=>
 Z0 (Z5 .neq j (.int .i64 0)) fun F=>
 Zk F
 (some ((.tuple [(.str []),(.bool false),j]),g.2))
 (RJ E H0 g.2):=Za [6,10,12,13,15,18]
theorem B5:Wq x1 x5 x7 H0 H =
 Z0 (Z5 .neq x7 (.int .i64 0)) fun g=>
 Z0 (Z8 g false (.tuple []) (Z6 2 x5)) fun j=>
 Z0 (Z8 g false (.tuple []) (Z3 false 1 j H)) fun u=>
 Z0 (Z8 g false (.tuple []) (Xk .not u)) fun w=>
 Z0 (Zj g (.bool true) w) fun y=>
 Zk y
 (some ((.tuple [(.str []),(.bool false),x7]),H))
 (RI x1 x5 H0 H):=Za [6,10,12,13,15,18]
theorem B7:Jl x1 x5 x6 x7 x20 x21 x22 H0 H =
 Z0 (Z5 .add x22 (.int .i64 1)) fun g=>
 VG x1 x5 x6 x7 x20 x21 g H0 H:=Za [6,10,12,13,15,18]
theorem B8:RL x1 x5 x6 x7 x8 x10 x11 x20 x21 x22 H0 H =
 Zk x11
 (Z0 (WP [x5,x8,x10,x6] H) fun g=>
 Jl x1 x5 x6 x7 x20 x21 x22 H0 g.2)
 (Jl x1 x5 x6 x7 x20 x21 x22 H0 H):=Za [6,10,12,13,15,18]
theorem B6:RK x1 x5 x6 x7 x20 x21 x22 x23 H0 H =
 Z0 (Zp 1 x20 x22) fun u=>
 Z0 (Z3 false 1 u H) fun w=>
 Z0 (V4 [w] H) fun g=>
 Z0 (ZQ g.1 0) fun y=>
 Z0 (ZQ g.1 1) fun z=>
 Z0 (ZQ g.1 2) fun j=>
 Z0 (Z5 .neq j (.int .i64 0)) fun A=>
 Zk A
 (Wq x1 x5 j H0 g.2)
 (RL x1 x5 x6 x7 x22 y z x20 x21 x22 H0 g.2):=Za [6,10,12,13,15,18]
theorem Ux:VG x1 x5 x6 x7 x20 x21 x22 H0 H =
 Z0 (Z5 .lss x22 x21) fun g=>
 Zk g
 (RK x1 x5 x6 x7 x20 x21 x22 g H0 H)
 (Wq x1 x5 x7 H0 H):=(ZD (C:=cfg) [6,10,12,13,15,18] (Zm 0 (L4 H0)) _ _).trans (by kernel_rfl)
theorem Hs:Ug [p0] H=RZ p0 H:=Be 67 [6,10,12,13,15,18] Tryz.func104
def Fh:Z4:=
 Z0 (Z3 false 1 p2 H) fun J=>
 Z0 (Zu J) fun K=>
 Z0 (Z6 11 K) fun L=>
 Z0 (Z3 false 1 L H) fun t9=>
 Z0 (Z8 t9 true (.tuple []) (Z3 false 1 p2 H)) fun j=>
 Z0 (Z8 t9 true (.tuple []) (Zu j)) fun u=>
 Z0 (Z8 t9 true (.tuple []) (Z6 0 u)) fun w=>
 Z0 (Z8 t9 true (.tuple []) (Z3 true 6 w H)) fun y=>
 Z0 (Z8 t9 true (.tuple []) (Z3 false 1 p2 H)) fun z=>
 Z0 (Z8 t9 true (.tuple []) (Zu z)) fun A=>
 Z0 (Z8 t9 true (.tuple []) (Z6 6 A)) fun B=>
 Z0 (Z8 t9 true (.tuple []) (Z3 true 5 B H)) fun C=>
 Z0 (Z8 t9 true (.tuple []) (some p0)) fun D=>
 Z0 (Z8 t9 true (.tuple []) (some p1)) fun E=>
 Z0 (Z8 t9 true ((.tuple []),H) (Zf UG [y,C,D,E] H)) fun g=>
 Z0 (Z8 t9 true (.tuple []) (Z5 .lss g.1 (.int .i64 0))) fun F=>
 Z0 (Zj t9 F (.bool false)) fun I=>
 some (I,g.2)
theorem LC:Qz [p0,p1,p2] H=Fh p0 p1 p2 H:=Be 24 [] Tryz.func128
def Tk:Z4:=ZO 129 68 (sub (Z1 Tryz.f129) [1,1,1,1]) (Zh cfg 68 129 Tryz.f129 H0) [(0,x0)] H
def Up:Z4:=ZO 129 68 (sub (Z1 Tryz.f129) [1,1,1]) (Zh cfg 68 129 Tryz.f129 H0) [(0,x0)] H
def Tj:Z4:=ZO 129 68 (sub (Z1 Tryz.f129) [1,1]) (Zh cfg 68 129 Tryz.f129 H0) [(0,x0)] H
def KH:Z4:=
 Z0 (Yy (.pointer 150) .eql p0 .nilp) fun t9=>
 Zk t9
 (some ((.tuple [(.str []),(.bool false),(.int .i64 5)]),H))
 (Tj p0 H H)
theorem Do:Tk x0 H0 H =
 Z0 (Zu x0) fun g=>
 Z0 (Z6 5 g) fun j=>
 Z0 (Z3 false 1 j H) fun u=>
 some ((.tuple [u,(.bool true),(.int .i64 0)]),H):=Za [3,11,13]
theorem X8:Up x0 H0 H =
 Z0 (Zu x0) fun g=>
 Z0 (Z6 3 g) fun j=>
 Z0 (Z3 false 1 j H) fun u=>
 Z0 (Xk .not u) fun w=>
 Zk w
 (some ((.tuple [(.str []),(.bool false),(.int .i64 0)]),H))
 (Tk x0 H0 H):=Za [3,11,13]
theorem X7:Tj x0 H0 H =
 Z0 (Zu x0) fun B=>
 Z0 (Z6 3 B) fun C=>
 Z0 (Z3 false 1 C H) fun D=>
 Z0 (Xk .not D) fun j=>
 Z0 (Z8 j true (.tuple []) (some x0)) fun E=>
 Z0 (Z8 j true (.tuple []) (Zu E)) fun F=>
 Z0 (Z8 j true (.tuple []) (Z6 4 F)) fun I=>
 Z0 (Z8 j true (.tuple []) (Z3 false 1 I H)) fun J=>
 Z0 (Z8 j true (.tuple []) (Xk .not J)) fun K=>
 Z0 (Zj j K (.bool false)) fun L=>
 Zk L
 (Z0 (Zu x0) fun M=>
 Z0 (Z6 0 M) fun N=>
 Z0 (Z3 false 1 N H) fun O=>
 Z0 (Zu x0) fun Q=>
 Z0 (Z6 1 Q) fun R=>
 Z0 (Z3 false 1 R H) fun S=>
 Z0 (Zu x0) fun T=>
 Z0 (Z6 2 T) fun U=>
 Z0 (Z3 false 1 U H) fun V=>
 Z0 (Vf [O,S,V] H) fun g=>
 Z0 (ZQ g.1 0) fun W=>
 Z0 (ZQ g.1 1) fun t37=>
 Z0 (ZQ g.1 2) fun u=>
 Z0 (Z5 .eql u (.int .i64 0)) fun X=>
 Zk X
 (Z0 (Zu x0) fun Y=>
 Z0 (Z6 5 Y) fun Z=>
 Z0 (Ze 1 Z W g.2) fun w=>
 Z0 (Zu x0) fun aa=>
 Z0 (Z6 2 aa) fun ab=>
 Z0 (Ze 1 ab t37 w.2) fun y=>
 Z0 (Zu x0) fun ac=>
 Z0 (Z6 3 ac) fun ad=>
 Z0 (Ze 1 ad (.bool true) y.2) fun z=>
 Up x0 H0 z.2)
 (Z0 (Z5 .eql u (.int .i64 5)) fun ae=>
 Zk ae
 (Z0 (Zu x0) fun af=>
 Z0 (Z6 4 af) fun ag=>
 Z0 (Ze 1 ag (.bool true) g.2) fun A=>
 Up x0 H0 A.2)
 (some ((.tuple [(.str []),(.bool false),u]),g.2))))
 (Up x0 H0 H):=Za [3,11,13]
theorem Fi:V4 [p0] H=KH p0 H:=Be 68 [3,11,13] Tryz.func129
def QB:Z4:=
 Z0 (Zu p0) fun t9=>
 Z0 (Z6 2 t9) fun w=>
 Z0 (Z3 false 1 w H) fun y=>
 Z0 (Xk .not y) fun g=>
 Z0 (Z8 g false (.tuple []) (some p3)) fun z=>
 Z0 (Z8 g false (.tuple []) (some p2)) fun A=>
 Z0 (Z8 g false (.tuple []) (some p0)) fun B=>
 Z0 (Z8 g false (.tuple []) (Zu B)) fun C=>
 Z0 (Z8 g false (.tuple []) (Z6 0 C)) fun D=>
 Z0 (Z8 g false (.tuple []) (Z3 false 1 D H)) fun E=>
 Z0 (Z8 g false ((.tuple []),H) (Yn cfg (Z9 cfg) z [A,E] H)) fun j=>
 Z0 (Zj g (.bool true) j.1) fun F=>
 Zk F
 (Z0 ((Xj [(0,1,p2),(1,1,p1),(2,1,(.bool true))] [(.str []),(.int .i64 0),(.bool false)]).map .agg) fun I=>
 Z0 (Zu p0) fun J=>
 Z0 (Ze 3 J I j.2) fun u=>
 some ((.tuple []),u.2))
 (some ((.tuple []),j.2))
theorem FJ:WP [p0,p1,p2,p3] H=QB p0 p1 p2 p3 H:=Be 27 [] Tryz.func130
def K2:Z4:=ZO 131 24 (sub (Z1 Tryz.f131) [1,1,1]) (Zh cfg 24 131 Tryz.f131 H0) [(5,x5),(6,x6),(7,x7)] H
def PF:Z4:=
 Z0 (V4 [p0] H) fun g=>
 Z0 (ZQ g.1 0) fun w=>
 Z0 (ZQ g.1 1) fun j=>
 Z0 (ZQ g.1 2) fun y=>
 Zk j
 (Z0 (Zu p0) fun A=>
 Z0 (Z6 3 A) fun B=>
 Z0 (Ze 1 B (.bool false) g.2) fun z=>
 Z0 (Zu p0) fun C=>
 Z0 (Z6 5 C) fun D=>
 Z0 (Ze 1 D (.str []) z.2) fun u=>
 K2 w j y H u.2)
 (K2 w j y H g.2)
theorem Dn:K2 x5 x6 x7 H0 H =
 some ((.tuple [x5,x6,x7]),H):=Za [4]
theorem Ay:KC [p0] H=PF p0 H:=Be 24 [4] Tryz.func131
end
end Go.Am
