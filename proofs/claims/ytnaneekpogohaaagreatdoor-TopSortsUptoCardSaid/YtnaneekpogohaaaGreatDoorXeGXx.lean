/- The functions of the translation over the abstract machine -/
import Derived.Test.YtnaneekpogohaaaGreatDoorXeGx
namespace Go.Am
open Go.Proofs
set_option maxRecDepth 100000
noncomputable abbrev ZX (f n:Nat):=Y6 cfg (Z9 cfg) (ZZ cfg (cfg.keep f) n) (cfg.keep f) n Zc Z6
noncomputable abbrev Fb (f n:Nat):=ZZ cfg (cfg.keep f) n
noncomputable section
abbrev Ra (f n:Nat)(F:Func)(p:List Nat):KL->AL->Hp->Z4:=fun k g H=>ZX f n (sub (Z1 F) p) k (ZS (cfg.keep f) (sub (Z1 F) p) g) H
abbrev WB (f n:Nat)(F:Func)(p:List Nat):KL->AL->Hp->Z4:=fun k g H=>Fb f n (sub (Z1 F) p) k (ZS (cfg.keep f) (sub (Z1 F) p) g) H
variable (p0 p1 p2 p3 p4 x0 x1 x3 x4 x5 x6 x7 x8 x9 x10 x11 x12 x13 x14 x15 x16 x17 x18 x19 x20 x21 x22 x23 x25 x26 x27 x28 x31 x32 x33 x34 x35 x48 x49 x50 x51:AV)(H0 H:Hp)
def Vk:Z4:=ZX 20 86 (sub (Us cfg 20 Tryz.f20) [1,1,1,1,1,1,1]) (Zi cfg 86 20 Tryz.f20 H0) [(10,x10),(11,x11),(12,x12),(35,x35)] H
def Vl:KL:=Zc (fun k g H=>ZX 20 86 (sub (Us cfg 20 Tryz.f20) [1,1,1,1,1,1,1]) k (ZS (cfg.keep 20) (sub (Us cfg 20 Tryz.f20) [1,1,1,1,1,1,1]) g) H) (Zi cfg 86 20 Tryz.f20 H0)
theorem OZ:ZU 86 (Vl H0):=Zx (C:=cfg) (kp:=cfg.keep 20) (sub (Us cfg 20 Tryz.f20) [1,1,1,1,1,1,1]) (ZB 20 Tryz.f20 H0)
def He:Z4:=ZX 20 86 (sub (Us cfg 20 Tryz.f20) [1,1,1,1,1,1,0,0,1,1,1,1,1,1,1]) (Z6 900001 (Vl H0)) [(10,x10),(11,x11),(12,x12),(16,x16),(35,x35)] H
def Hd:Z4:=ZX 20 86 (sub (Us cfg 20 Tryz.f20) [1,1,1,1,1,1,0,0,1,1,1,1,1]) (Z6 900001 (Vl H0)) [(10,x10),(11,x11),(12,x12),(14,x14),(15,x15),(16,x16),(35,x35)] H
def Kk:Z4:=ZX 20 86 (sub (Us cfg 20 Tryz.f20) [1,1,1,1,1,1,0,0,1,1,1]) (Z6 900001 (Vl H0)) [(11,x11),(12,x12),(14,x14),(15,x15),(16,x16),(35,x35)] H
def RR:KL:=Zc (fun k g H=>ZX 20 86 (sub (Us cfg 20 Tryz.f20) [1,1,1,1,1,1,0,0,1,1,1]) k (ZS (cfg.keep 20) (sub (Us cfg 20 Tryz.f20) [1,1,1,1,1,1,0,0,1,1,1]) g) H) (Z6 900001 (Vl H0))
theorem Za0:ZU 86 (RR H0):=Zx (C:=cfg) (kp:=cfg.keep 20) (sub (Us cfg 20 Tryz.f20) [1,1,1,1,1,1,0,0,1,1,1]) (Zm 900001 (OZ H0))
def Hf:Z4:=ZX 20 86 (sub (Us cfg 20 Tryz.f20) [1,1,1,1,1,1,0,0,1,1,0,0,0,1]) (Zc (fun k g H=>Fb 20 86 (sub (Us cfg 20 Tryz.f20) [1,1,1,1,1,1,0,0,1,1,0,0,0]) k (ZS (cfg.keep 20) (sub (Us cfg 20 Tryz.f20) [1,1,1,1,1,1,0,0,1,1,0,0,0]) g) H) (Z6 0 (RR H0))) [(8,x8),(11,x11),(12,x12),(14,x14),(15,x15),(16,x16),(35,x35)] H
def Km:Z4:=Fb 20 86 (sub (Us cfg 20 Tryz.f20) [1,1,1,1,1,1,0,0,1,1,0,0,0]) (Z6 0 (RR H0)) [(8,x8),(11,x11),(12,x12),(14,x14),(15,x15),(16,x16),(35,x35)] H
def Hc:Z4:=ZX 20 86 (sub (Us cfg 20 Tryz.f20) [1,1,1,1,1,1,0,0,1,1]) (Z6 900001 (Vl H0)) [(8,x8),(11,x11),(12,x12),(14,x14),(15,x15),(16,x16),(35,x35)] H
def Hb:Z4:=ZX 20 86 (sub (Us cfg 20 Tryz.f20) [1,1,1,1]) (Zi cfg 86 20 Tryz.f20 H0) [(4,x4),(6,x6),(7,x7),(8,x8),(11,x11),(12,x12),(14,x14)] H
def Ha:Z4:=ZX 20 86 (sub (Us cfg 20 Tryz.f20) [1,1]) (Zi cfg 86 20 Tryz.f20 H0) [(0,x0),(4,x4),(6,x6),(7,x7),(8,x8),(11,x11),(12,x12)] H
def I7:Z4:=
 Z0 (ZO p1 H) fun J=>
 Z0 (ZO p2 J.2) fun A=>
 Z0 (ZO p3 A.2) fun z=>
 Z0 (some ((.ptr z.2.length 0),z.2++[.cells [(.int .i64 0),(.int .i64 0),(.int .i64 0),(.int .i64 0)]])) fun j=>
 Z0 (some ((.ptr j.2.length 0),j.2++[.cells [(.int .i64 0)]])) fun g=>
 Z0 (Z3 true 5 A.1 g.2) fun B=>
 Z0 (Z3 true 2 z.1 g.2) fun C=>
 Z0 (Rc [p0,B,C,p4] g.2) fun w=>
 Z0 (Z5 .neq w.1 (.int .i64 0)) fun D=>
 Zk D
 (Z0 (some (.agg [(.int .i64 0),(.int .i64 0),(.int .i64 0),(.int .i64 0)])) fun E=>
 Z0 (Zf 4 j.1 E w.2) fun y=>
 Z0 (Zf 1 g.1 w.1 y.2) fun u=>
 Z0 (Z3 true 4 j.1 u.2) fun F=>
 Z0 (Z3 false 1 g.1 u.2) fun I=>
 some ((.tuple [.nils,F,I]),u.2))
 (Ha p0 p4 J.1 A.1 z.1 j.1 g.1 H w.2)
theorem Zdl:Vk x10 x11 x12 x35 H0 H =
 Z0 (Yd cfg (Z9 cfg) x35 [] H) fun g=>
 Z0 (Z3 true 4 x11 g.2) fun j=>
 Z0 (Z3 false 1 x12 g.2) fun u=>
 some ((.tuple [x10,j,u]),g.2):=Za [4,7,13,14,17,20,24,900002]
theorem Zdp:He x10 x11 x12 x16 x35 H0 H =
 Z0 (Zu x16) fun u=>
 Z0 (Z7 13 u) fun w=>
 Z0 (Z3 true 4 w H) fun y=>
 Z0 (Zf 4 x11 y H) fun g=>
 Z0 (Zf 1 x12 (.int .i64 0) g.2) fun j=>
 Vk x10 x11 x12 x35 H0 j.2:=Za [4,7,13,14,17,20,24,900002]
theorem Zdo:Hd x10 x11 x12 x14 x15 x16 x35 H0 H =
 Z0 (Zf 1 x15 (.bool true) H) fun j=>
 Z0 (Z3 false 1 x14 j.2) fun z=>
 Z0 (WZ [z] j.2) fun u=>
 Z0 (Zf 1 x12 u.1 u.2) fun g=>
 Z0 (Z3 false 1 x12 g.2) fun A=>
 Z0 (Z5 .neq A (.int .i64 0)) fun B=>
 Zk B
 (Z0 (C3 x12 x11) fun _=>
 Z0 (some (.agg [(.int .i64 0),(.int .i64 0),(.int .i64 0),(.int .i64 0)])) fun C=>
 Z0 (Z3 false 1 x12 g.2) fun D=>
 Z0 (Zf 4 x11 C g.2) fun w=>
 Z0 (Zf 1 x12 D w.2) fun y=>
 Vk .nils x11 x12 x35 H0 y.2)
 (He x10 x11 x12 x16 x35 H0 g.2):=Za [4,7,13,14,17,20,24,900002]
theorem Zdn:Kk x11 x12 x14 x15 x16 x35 H0 H =
 Z0 (Qe [x16] H) fun j=>
 Z0 (ZT j.1 0) fun y=>
 Z0 (ZT j.1 1) fun t70=>
 Z0 (Zf 1 x12 t70 j.2) fun g=>
 Z0 (Z3 false 1 x12 g.2) fun z=>
 Z0 (Z5 .neq z (.int .i64 0)) fun t72=>
 Zk t72
 (Z0 (C3 x12 x11) fun _=>
 Z0 (some (.agg [(.int .i64 0),(.int .i64 0),(.int .i64 0),(.int .i64 0)])) fun A=>
 Z0 (Z3 false 1 x12 g.2) fun B=>
 Z0 (Zf 4 x11 A g.2) fun u=>
 Z0 (Zf 1 x12 B u.2) fun w=>
 Vk .nils x11 x12 x35 H0 w.2)
 (Hd y x11 x12 x14 x15 x16 x35 H0 g.2):=Za [4,7,13,14,17,20,24,900002]
theorem Zdq:Hf x8 x11 x12 x14 x15 x16 x35 H0 H =
 Z0 (Z7 1 x8) fun y=>
 Z0 (Z3 false 1 y H) fun z=>
 Z0 (QC [x16,z] H) fun j=>
 Z0 (Zf 1 x12 j.1 j.2) fun g=>
 Z0 (Z3 false 1 x12 g.2) fun A=>
 Z0 (Z5 .neq A (.int .i64 0)) fun B=>
 Zk B
 (Z0 (C3 x12 x11) fun _=>
 Z0 (some (.agg [(.int .i64 0),(.int .i64 0),(.int .i64 0),(.int .i64 0)])) fun C=>
 Z0 (Z3 false 1 x12 g.2) fun D=>
 Z0 (Zf 4 x11 C g.2) fun u=>
 Z0 (Zf 1 x12 D u.2) fun w=>
 Vk .nils x11 x12 x35 H0 w.2)
 (Km x8 x11 x12 x14 x15 x16 x35 H0 g.2):=Za [4,7,13,14,17,20,24,900002]
theorem G0:Km x8 x11 x12 x14 x15 x16 x35 H0 H =
 Z0 (Zu x16) fun g=>
 Z0 (Z7 12 g) fun j=>
 Z0 (Z3 false 1 j H) fun u=>
 Z0 (Zl (.slice 9) u) fun w=>
 Z0 (Z7 1 x8) fun y=>
 Z0 (Z3 false 1 y H) fun z=>
 Z0 (Z5 .gtr w z) fun A=>
 Zk A
 (Hf x8 x11 x12 x14 x15 x16 x35 H0 H)
 (Kk x11 x12 x14 x15 x16 x35 H0 H):=(ZD (C:=cfg) [4,7,13,14,17,20,24,900002] (Zm 0 (Za0 H0)) _ _).trans (by kernel_rfl)
theorem Zdm:Hc x8 x11 x12 x14 x15 x16 x35 H0 H =
 Km x8 x11 x12 x14 x15 x16 x35 H0 H:=Za [4,7,13,14,17,20,24,900002]
theorem Zdk:Hb x4 x6 x7 x8 x11 x12 x14 H0 H =
 Z0 (some ((.ptr H.length 0),H++[.cells [(.bool false)]])) fun u=>
 Z0 (Zf 1 u.1 (.bool false) u.2) fun g=>
 Z0 (some (.fn (.func 44) [] [x12,u.1,x14])) fun B=>
 Z0 (Z3 false 1 x14 g.2) fun C=>
 Z0 (Z3 true 6 x6 g.2) fun t37=>
 Z0 (Z3 true 5 x7 g.2) fun D=>
 Z0 ((X5 [(0,1,C),(1,6,t37),(7,5,D)] [.nilp,(.str []),.nils,(.str []),(.str []),.nils,.nils,.nils,(.int .i64 0),(.int .i64 0),(.bool false),(.bool false),.nils,(.int .i64 0),(.int .i64 0),(.int .i64 0),(.int .i64 0)]).map .agg) fun E=>
 Z0 (ZO E g.2) fun w=>
 Z0 (Z7 0 x8) fun F=>
 Z0 (Z3 false 1 F w.2) fun I=>
 Z0 (Qf [w.1,x4,I] w.2) fun y=>
 Z0 (Zf 1 x12 y.1 y.2) fun j=>
 Z0 (Z3 false 1 x12 j.2) fun J=>
 Z0 (Z5 .neq J (.int .i64 0)) fun K=>
 Zk K
 (Z0 (C3 x12 x11) fun _=>
 Z0 (some (.agg [(.int .i64 0),(.int .i64 0),(.int .i64 0),(.int .i64 0)])) fun L=>
 Z0 (Z3 false 1 x12 j.2) fun M=>
 Z0 (Zf 4 x11 L j.2) fun z=>
 Z0 (Zf 1 x12 M z.2) fun A=>
 Vk .nils x11 x12 B H0 A.2)
 (Hc x8 x11 x12 x14 u.1 w.1 B H0 j.2):=Za [4,7,13,14,17,20,24,900002]
theorem Zdj:Ha x0 x4 x6 x7 x8 x11 x12 H0 H =
 Z0 (UT [x0,(.str [115,111,114,116]),(.int .i64 262144)] H) fun u=>
 Z0 (ZT u.1 0) fun A=>
 Z0 (ZT u.1 1) fun B=>
 Z0 (some ((.ptr u.2.length 0),u.2++[.cells [.nilp]])) fun w=>
 Z0 (Zf 1 w.1 A w.2) fun y=>
 Z0 (Zf 1 x12 B y.2) fun g=>
 Z0 (Z3 false 1 x12 g.2) fun C=>
 Z0 (Z5 .neq C (.int .i64 0)) fun D=>
 Zk D
 (Z0 (C3 x12 x11) fun _=>
 Z0 (some (.agg [(.int .i64 0),(.int .i64 0),(.int .i64 0),(.int .i64 0)])) fun E=>
 Z0 (Z3 false 1 x12 g.2) fun F=>
 Z0 (Zf 4 x11 E g.2) fun z=>
 Z0 (Zf 1 x12 F z.2) fun j=>
 Z0 (Z3 true 4 x11 j.2) fun I=>
 Z0 (Z3 false 1 x12 j.2) fun J=>
 some ((.tuple [.nils,I,J]),j.2))
 (Hb x4 x6 x7 x8 x11 x12 w.1 H0 g.2):=Za [4,7,13,14,17,20,24,900002]
theorem ZeC:P7 [p0,p1,p2,p3,p4] H=I7 p0 p1 p2 p3 p4 H:=(Zd (C:=cfg) (fn:=Tryz.f20) (c:=Us cfg 20 Tryz.f20) (n:=86) [4,7,13,14,17,20,24,900002] Tryz.func20 (by kernel_rfl) (by kernel_rfl) [p0,p1,p2,p3,p4] (by kernel_rfl) H).trans (by kernel_rfl)
def EP:Z4:=ZX 42 35 (sub (Z1 Tryz.f42) [1,1,1,1,1,1]) (Zi cfg 35 42 Tryz.f42 H0) [] H
def Je:KL:=Zc (Ra 42 35 Tryz.f42 [1,1,1,1,1,1]) (Zi cfg 35 42 Tryz.f42 H0)
theorem IA:ZU 35 (Je H0):=Zx (C:=cfg) (kp:=cfg.keep 42) (sub (Z1 Tryz.f42) [1,1,1,1,1,1]) (ZB 42 Tryz.f42 H0)
def ER:Z4:=ZX 42 35 (sub (Z1 Tryz.f42) [1,1,1,1,1,0,1,0,0,1,1,1]) (Zc (WB 42 35 Tryz.f42 [1,1,1,1,1,0,1,0,0]) (Z6 0 (Je H0))) [(25,x25),(26,x26),(27,x27)] H
def EQ:Z4:=ZX 42 35 (sub (Z1 Tryz.f42) [1,1,1,1,1,0,1,0,0,1,1]) (Zc (WB 42 35 Tryz.f42 [1,1,1,1,1,0,1,0,0]) (Z6 0 (Je H0))) [(25,x25),(26,x26),(27,x27),(28,x28)] H
def Jf:Z4:=Fb 42 35 (sub (Z1 Tryz.f42) [1,1,1,1,1,0,1,0,0]) (Z6 0 (Je H0)) [(25,x25),(26,x26),(27,x27)] H
def EO:Z4:=ZX 42 35 (sub (Z1 Tryz.f42) [1,1,1,1,1]) (Zi cfg 35 42 Tryz.f42 H0) [(3,x3)] H
def EN:Z4:=ZX 42 35 (sub (Z1 Tryz.f42) [1,1,1,1]) (Zi cfg 35 42 Tryz.f42 H0) [(3,x3)] H
def EM:Z4:=ZX 42 35 (sub (Z1 Tryz.f42) [1,1,1]) (Zi cfg 35 42 Tryz.f42 H0) [(3,x3),(6,x6)] H
def EL:Z4:=ZX 42 35 (sub (Z1 Tryz.f42) [1,1]) (Zi cfg 35 42 Tryz.f42 H0) [(3,x3),(5,x5),(6,x6)] H
def Ct:Z4:=
 Z0 (ZO p1 H) fun u=>
 Z0 (ZO p2 u.2) fun g=>
 Z0 (Ys (.pointer 82) .eql p0 .nilp) fun j=>
 Zk j
 (some ((.int .i64 5),g.2))
 (EL p3 u.1 g.1 H g.2)
theorem Zbt:EP H0 H =
 some ((.int .i64 0),H):=Za [3,6,8,10,12,15,16]
theorem Zbu:ER x25 x26 x27 H0 H =
 Z0 (Z5 .add x27 (.int .i64 1)) fun g=>
 Jf x25 x26 g H0 H:=Za [3,6,8,10,12,15,16]
theorem TD:EQ x25 x26 x27 x28 H0 H =
 Z0 (Zn 1 x25 x27) fun g=>
 Z0 (Z3 false 1 g H) fun j=>
 Z0 (Zl .string j) fun u=>
 Z0 (Z5 .gtr u (.int .i64 4096)) fun w=>
 Zk w
 (some ((.int .i64 3),H))
 (ER x25 x26 x27 H0 H):=Za [3,6,8,10,12,15,16]
theorem TE:Jf x25 x26 x27 H0 H =
 Z0 (Z5 .lss x27 x26) fun g=>
 Zk g
 (EQ x25 x26 x27 g H0 H)
 (EP H0 H):=(ZD (C:=cfg) [3,6,8,10,12,15,16] (Zm 0 (IA H0)) _ _).trans (by kernel_rfl)
theorem Zbs:EO x3 H0 H =
 Z0 (Zl (.slice 9) x3) fun g=>
 Jf x3 g (.int .i64 0) H0 H:=Za [3,6,8,10,12,15,16]
theorem TC:EN x3 H0 H =
 Z0 (Zl (.slice 9) x3) fun g=>
 Z0 (Z5 .gtr g (.int .i64 8192)) fun j=>
 Zk j
 (some ((.int .i64 3),H))
 (EO x3 H0 H):=Za [3,6,8,10,12,15,16]
theorem Kb:EM x3 x6 H0 H =
 Z0 (Z3 true 2 x6 H) fun j=>
 Z0 (Ze Re [j] H) fun g=>
 Z0 (Xv .not g.1) fun u=>
 Zk u
 (some ((.int .i64 2),g.2))
 (EN x3 H0 g.2):=Za [3,6,8,10,12,15,16]
theorem Uv:EL x3 x5 x6 H0 H =
 Z0 (Z3 true 5 x5 H) fun j=>
 Z0 (Ze Xc [j] H) fun g=>
 Z0 (Z5 .neq g.1 (.int .i64 0)) fun u=>
 Zk u
 (some (g.1,g.2))
 (EM x3 x6 H0 g.2):=Za [3,6,8,10,12,15,16]
theorem Zcg:Rc [p0,p1,p2,p3] H=Ct p0 p1 p2 p3 H:=Be 35 [3,6,8,10,12,15,16] Tryz.func42
def E7:Z4:=
 Z0 (Z3 false 1 p0 H) fun t3=>
 Z0 (Z5 .neq t3 (.int .i64 0)) fun t4=>
 Z0 (Z8 t4 true (.tuple []) (Z3 false 1 p1 H)) fun j=>
 Z0 (Z8 t4 true (.tuple []) (Xv .not j)) fun u=>
 Z0 (Zj t4 u (.bool false)) fun w=>
 Zk w
 (Z0 (Z3 false 1 p2 H) fun t9=>
 Z0 (WZ [t9] H) fun g=>
 some ((.tuple []),g.2))
 (some ((.tuple []),H))
theorem Zbj:LZ [p0,p1,p2] H=E7 p0 p1 p2 H:=Be 11 [] Tryz.func44
def B6:Z4:=ZX 46 73 (sub (Z1 Tryz.f46) [1,1]) (Zi cfg 73 46 Tryz.f46 H0) [] H
def Xy:KL:=Zc (Ra 46 73 Tryz.f46 [1,1]) (Zi cfg 73 46 Tryz.f46 H0)
theorem Pn:ZU 73 (Xy H0):=Zx (C:=cfg) (kp:=cfg.keep 46) (sub (Z1 Tryz.f46) [1,1]) (ZB 46 Tryz.f46 H0)
def B8:Z4:=ZX 46 73 (sub (Z1 Tryz.f46) [1,0,1,0,0,1,1,1]) (Zc (WB 46 73 Tryz.f46 [1,0,1,0,0]) (Z6 0 (Xy H0))) [(0,x0),(13,x13),(14,x14),(15,x15)] H
def Ci:KL:=Zc (Ra 46 73 Tryz.f46 [1,0,1,0,0,1,1,1]) (Zc (WB 46 73 Tryz.f46 [1,0,1,0,0]) (Z6 0 (Xy H0)))
def B9:Z4:=ZX 46 73 (sub (Z1 Tryz.f46) [1,0,1,0,0,1,1,0,0,1,1,1]) (Z6 1 (Ci H0)) [(0,x0),(8,x8),(9,x9),(13,x13),(14,x14),(15,x15)] H
def B7:Z4:=ZX 46 73 (sub (Z1 Tryz.f46) [1,0,1,0,0,1,1]) (Zc (WB 46 73 Tryz.f46 [1,0,1,0,0]) (Z6 0 (Xy H0))) [(0,x0),(13,x13),(14,x14),(15,x15),(16,x16)] H
def WI:Z4:=Fb 46 73 (sub (Z1 Tryz.f46) [1,0,1,0,0]) (Z6 0 (Xy H0)) [(0,x0),(13,x13),(14,x14),(15,x15)] H
def D7:Z4:=
 Z0 (Ze Rh [p1,p2] H) fun g=>
 Z0 (Zl (.slice 29) g.1) fun j=>
 WI p0 g.1 j (.int .i64 0) H g.2
theorem Mf:B6 H0 H =
 some ((.int .i64 0),H):=Za [3,7,11,12]
theorem Mh:B8 x0 x13 x14 x15 H0 H =
 Z0 (Z5 .add x15 (.int .i64 1)) fun t72=>
 WI x0 x13 x14 t72 H0 H:=Za [3,7,11,12]
theorem Mi:B9 x0 x8 x9 x13 x14 x15 H0 H =
 Z0 (W3 [x0] H) fun u=>
 Z0 (Zu x0) fun A=>
 Z0 (Z7 12 A) fun B=>
 Z0 (Z3 false 1 B u.2) fun C=>
 Z0 ((ZA 1 [(0,x9)] [(.str [])]).map (.vs 1 .clip)) fun D=>
 Z0 (Ym 1 16 C D u.2) fun w=>
 Z0 (Zu x0) fun E=>
 Z0 (Z7 12 E) fun F=>
 Z0 (Zf 1 F w.1 w.2) fun g=>
 Z0 (Zu x0) fun I=>
 Z0 (Z7 13 I) fun J=>
 Z0 (Z7 0 J) fun K=>
 Z0 (Z3 false 1 K g.2) fun L=>
 Z0 (Z5 .add L (.int .i64 1)) fun M=>
 Z0 (Zu x0) fun N=>
 Z0 (Z7 13 N) fun O=>
 Z0 (Z7 0 O) fun Q=>
 Z0 (Zf 1 Q M g.2) fun j=>
 Z0 (Zu x0) fun R=>
 Z0 (Z7 13 R) fun S=>
 Z0 (Z7 2 S) fun T=>
 Z0 (Z3 false 1 T j.2) fun U=>
 Z0 (Ze P8 [x8] j.2) fun y=>
 Z0 (Ki U y.1) fun V=>
 Z0 (Zu x0) fun W=>
 Z0 (Z7 13 W) fun t70=>
 Z0 (Z7 2 t70) fun X=>
 Z0 (Zf 1 X V y.2) fun z=>
 B8 x0 x13 x14 x15 H0 z.2:=Za [3,7,11,12]
theorem Mg:B7 x0 x13 x14 x15 x16 H0 H =
 Z0 (Zn 1 x13 x15) fun w=>
 Z0 (Z3 false 1 w H) fun j=>
 Z0 (Zu x0) fun y=>
 Z0 (Z7 0 y) fun z=>
 Z0 (Z3 false 1 z H) fun A=>
 Z0 (Zu x0) fun B=>
 Z0 (Z7 1 B) fun C=>
 Z0 (Z3 true 6 C H) fun D=>
 Z0 (Zu x0) fun E=>
 Z0 (Z7 7 E) fun F=>
 Z0 (Z3 true 5 F H) fun I=>
 Z0 (E6 [A,D,I,j] H) fun g=>
 Z0 (ZT g.1 0) fun J=>
 Z0 (ZT g.1 1) fun u=>
 Z0 (Z5 .neq u (.int .i64 0)) fun t37=>
 Zk t37
 (some (u,g.2))
 (B9 x0 j J x13 x14 x15 H0 g.2):=Za [3,7,11,12]
theorem JP:WI x0 x13 x14 x15 H0 H =
 Z0 (Z5 .lss x15 x14) fun g=>
 Zk g
 (B7 x0 x13 x14 x15 g H0 H)
 (B6 H0 H):=(ZD (C:=cfg) [3,7,11,12] (Zm 0 (Pn H0)) _ _).trans (by kernel_rfl)
theorem Lc:Qf [p0,p1,p2] H=D7 p0 p1 p2 H:=Be 73 [3,7,11,12] Tryz.func46
def Dl:Z4:=ZX 47 60 (sub (Z1 Tryz.f47) [1,1,1]) (Zi cfg 60 47 Tryz.f47 H0) [(0,x0),(5,x5)] H
def XF:KL:=Zc (Ra 47 60 Tryz.f47 [1,1,1]) (Zi cfg 60 47 Tryz.f47 H0)
theorem QS:ZU 60 (XF H0):=Zx (C:=cfg) (kp:=cfg.keep 47) (sub (Z1 Tryz.f47) [1,1,1]) (ZB 47 Tryz.f47 H0)
def Dn:Z4:=ZX 47 60 (sub (Z1 Tryz.f47) [1,1,0,1,0,0,1,1,1]) (Zc (WB 47 60 Tryz.f47 [1,1,0,1,0,0]) (Z6 0 (XF H0))) [(0,x0),(5,x5),(19,x19),(20,x20),(21,x21)] H
def V1:KL:=Zc (Ra 47 60 Tryz.f47 [1,1,0,1,0,0,1,1,1]) (Zc (WB 47 60 Tryz.f47 [1,1,0,1,0,0]) (Z6 0 (XF H0)))
theorem Nv:ZU 60 (V1 H0):=Zx (C:=cfg) (kp:=cfg.keep 47) (sub (Z1 Tryz.f47) [1,1,0,1,0,0,1,1,1]) (NQ (C:=cfg) (kp:=cfg.keep 47) (sub (Z1 Tryz.f47) [1,1,0,1,0,0]) (Zm 0 (QS H0)))
def Do:Z4:=ZX 47 60 (sub (Z1 Tryz.f47) [1,1,0,1,0,0,1,1,0,0,1,1,1,1,1]) (Z6 1 (V1 H0)) [(0,x0),(5,x5),(11,x11),(19,x19),(20,x20),(21,x21)] H
def Qi:Z4:=ZX 47 60 (sub (Z1 Tryz.f47) [1,1,0,1,0,0,1,1,0,0,1,1,1]) (Z6 1 (V1 H0)) [(0,x0),(5,x5),(8,x8),(19,x19),(20,x20),(21,x21)] H
def V2:KL:=Zc (Ra 47 60 Tryz.f47 [1,1,0,1,0,0,1,1,0,0,1,1,1]) (Z6 1 (V1 H0))
theorem Nw:ZU 60 (V2 H0):=Zx (C:=cfg) (kp:=cfg.keep 47) (sub (Z1 Tryz.f47) [1,1,0,1,0,0,1,1,0,0,1,1,1]) (Zm 1 (Nv H0))
def Dq:Z4:=ZX 47 60 (sub (Z1 Tryz.f47) [1,1,0,1,0,0,1,1,0,0,1,1,0,1,0,0,1,1,1]) (Zc (WB 47 60 Tryz.f47 [1,1,0,1,0,0,1,1,0,0,1,1,0,1,0,0]) (Z6 2 (V2 H0))) [(0,x0),(5,x5),(8,x8),(19,x19),(20,x20),(21,x21),(25,x25),(26,x26),(27,x27)] H
def Dp:Z4:=ZX 47 60 (sub (Z1 Tryz.f47) [1,1,0,1,0,0,1,1,0,0,1,1,0,1,0,0,1,1]) (Zc (WB 47 60 Tryz.f47 [1,1,0,1,0,0,1,1,0,0,1,1,0,1,0,0]) (Z6 2 (V2 H0))) [(0,x0),(5,x5),(8,x8),(19,x19),(20,x20),(21,x21),(25,x25),(26,x26),(27,x27),(28,x28)] H
def V4:Z4:=Fb 47 60 (sub (Z1 Tryz.f47) [1,1,0,1,0,0,1,1,0,0,1,1,0,1,0,0]) (Z6 2 (V2 H0)) [(0,x0),(5,x5),(8,x8),(19,x19),(20,x20),(21,x21),(25,x25),(26,x26),(27,x27)] H
def Dm:Z4:=ZX 47 60 (sub (Z1 Tryz.f47) [1,1,0,1,0,0,1,1]) (Zc (WB 47 60 Tryz.f47 [1,1,0,1,0,0]) (Z6 0 (XF H0))) [(0,x0),(5,x5),(19,x19),(20,x20),(21,x21),(22,x22)] H
def V3:Z4:=Fb 47 60 (sub (Z1 Tryz.f47) [1,1,0,1,0,0]) (Z6 0 (XF H0)) [(0,x0),(5,x5),(19,x19),(20,x20),(21,x21)] H
def FB:Z4:=
 Z0 (Zu p0) fun j=>
 Z0 (Z7 12 j) fun u=>
 Z0 (Z3 false 1 u H) fun w=>
 Z0 (Zl (.slice 9) w) fun y=>
 Z0 (Ze E4 [y,p1] H) fun g=>
 Z0 (Zl (.slice 38) g.1) fun z=>
 V3 p0 .nils g.1 z (.int .i64 0) H g.2
theorem Lp:Dl x0 x5 H0 H =
 Z0 (Zu x0) fun j=>
 Z0 (Z7 12 j) fun u=>
 Z0 (Zf 1 u x5 H) fun g=>
 some ((.int .i64 0),g.2):=Za [4,8,10,11,14,15,16]
theorem Lr:Dn x0 x5 x19 x20 x21 H0 H =
 Z0 (Z5 .add x21 (.int .i64 1)) fun g=>
 V3 x0 x5 x19 x20 g H0 H:=Za [4,8,10,11,14,15,16]
theorem Lt:Do x0 x5 x11 x19 x20 x21 H0 H =
 Z0 ((ZA 1 [(0,x11)] [(.str [])]).map (.vs 1 .clip)) fun j=>
 Z0 (Ym 1 16 x5 j H) fun g=>
 Dn x0 g.1 x19 x20 x21 H0 g.2:=Za [4,8,10,11,14,15,16]
theorem Ls:Qi x0 x5 x8 x19 x20 x21 H0 H =
 Z0 (Qd [x0,x8] H) fun g=>
 Z0 (ZT g.1 0) fun u=>
 Z0 (ZT g.1 1) fun j=>
 Z0 (Z5 .neq j (.int .i64 0)) fun w=>
 Zk w
 (some (j,g.2))
 (Do x0 x5 u x19 x20 x21 H0 g.2):=Za [4,8,10,11,14,15,16]
theorem Lv:Dq x0 x5 x8 x19 x20 x21 x25 x26 x27 H0 H =
 Z0 (Z5 .add x27 (.int .i64 1)) fun g=>
 V4 x0 x5 x8 x19 x20 x21 x25 x26 g H0 H:=Za [4,8,10,11,14,15,16]
theorem Lu:Dp x0 x5 x8 x19 x20 x21 x25 x26 x27 x28 H0 H =
 Z0 (Zn 1 x25 x27) fun j=>
 Z0 (Z3 false 1 j H) fun u=>
 Z0 (Zu x0) fun w=>
 Z0 (Z7 12 w) fun y=>
 Z0 (Z3 false 1 y H) fun z=>
 Z0 (Zn 1 z u) fun t37=>
 Z0 (Z3 false 1 t37 H) fun A=>
 Z0 ((ZA 1 [(0,A)] [(.str [])]).map (.vs 1 .clip)) fun B=>
 Z0 (Ym 1 16 x8 B H) fun g=>
 Dq x0 x5 g.1 x19 x20 x21 x25 x26 x27 H0 g.2:=Za [4,8,10,11,14,15,16]
theorem Kr:V4 x0 x5 x8 x19 x20 x21 x25 x26 x27 H0 H =
 Z0 (Z5 .lss x27 x26) fun g=>
 Zk g
 (Dp x0 x5 x8 x19 x20 x21 x25 x26 x27 g H0 H)
 (Qi x0 x5 x8 x19 x20 x21 H0 H):=(ZD (C:=cfg) [4,8,10,11,14,15,16] (Zm 2 (Nw H0)) _ _).trans (by kernel_rfl)
theorem Lq:Dm x0 x5 x19 x20 x21 x22 H0 H =
 Z0 (Zn 1 x19 x21) fun j=>
 Z0 (Z3 false 1 j H) fun g=>
 Z0 (Zl (.slice 3) g) fun u=>
 V4 x0 x5 .nils x19 x20 x21 g u (.int .i64 0) H0 H:=Za [4,8,10,11,14,15,16]
theorem Kq:V3 x0 x5 x19 x20 x21 H0 H =
 Z0 (Z5 .lss x21 x20) fun g=>
 Zk g
 (Dm x0 x5 x19 x20 x21 g H0 H)
 (Dl x0 x5 H0 H):=(ZD (C:=cfg) [4,8,10,11,14,15,16] (Zm 0 (QS H0)) _ _).trans (by kernel_rfl)
theorem E8:QC [p0,p1] H=FB p0 p1 H:=Be 60 [4,8,10,11,14,15,16] Tryz.func47
def B3:Z4:=ZX 48 57 (sub (Z1 Tryz.f48) [1,1,1,1,1,0,0,0,1,1,1]) (Z6 3 (Zc (WB 48 57 Tryz.f48 [1,1,1,1,1,0,0]) (Z6 2 (Zi cfg 57 48 Tryz.f48 H0)))) [(7,x7),(8,x8),(9,x9)] H
def B2:Z4:=ZX 48 57 (sub (Z1 Tryz.f48) [1,1,1,1,1,0,0,0,1,1]) (Z6 3 (Zc (WB 48 57 Tryz.f48 [1,1,1,1,1,0,0]) (Z6 2 (Zi cfg 57 48 Tryz.f48 H0)))) [(7,x7),(8,x8),(9,x9),(10,x10)] H
def WG:Z4:=Fb 48 57 (sub (Z1 Tryz.f48) [1,1,1,1,1,0,0]) (Z6 2 (Zi cfg 57 48 Tryz.f48 H0)) [(7,x7),(8,x8)] H
def UI:Z4:=ZX 48 57 (sub (Z1 Tryz.f48) [1,1,1]) (Zi cfg 57 48 Tryz.f48 H0) [(0,x0),(4,x4)] H
def WF:KL:=Zc (Ra 48 57 Tryz.f48 [1,1,1]) (Zi cfg 57 48 Tryz.f48 H0)
theorem Pm:ZU 57 (WF H0):=Zx (C:=cfg) (kp:=cfg.keep 48) (sub (Z1 Tryz.f48) [1,1,1]) (ZB 48 Tryz.f48 H0)
def B5:Z4:=ZX 48 57 (sub (Z1 Tryz.f48) [1,1,0,1,0,0,1,1,1]) (Zc (WB 48 57 Tryz.f48 [1,1,0,1,0,0]) (Z6 0 (WF H0))) [(0,x0),(4,x4),(15,x15),(16,x16),(17,x17)] H
def B4:Z4:=ZX 48 57 (sub (Z1 Tryz.f48) [1,1,0,1,0,0,1,1]) (Zc (WB 48 57 Tryz.f48 [1,1,0,1,0,0]) (Z6 0 (WF H0))) [(0,x0),(4,x4),(15,x15),(16,x16),(17,x17),(18,x18)] H
def WH:Z4:=Fb 48 57 (sub (Z1 Tryz.f48) [1,1,0,1,0,0]) (Z6 0 (WF H0)) [(0,x0),(4,x4),(15,x15),(16,x16),(17,x17)] H
def D6:Z4:=
 Z0 (Zu p0) fun j=>
 Z0 (Z7 12 j) fun u=>
 Z0 (Z3 false 1 u H) fun g=>
 Z0 (Zl (.slice 9) g) fun w=>
 WH p0 .nils g w (.int .i64 0) H H
theorem Mc:B3 x7 x8 x9 H0 H =
 Z0 ((ZA 1 [(0,x9)] [(.str [])]).map (.vs 1 .clip)) fun j=>
 Z0 (Ym 1 16 x8 j H) fun g=>
 WG x7 g.1 H0 g.2:=Za [4,6,7,12,14]
theorem Vr:B2 x7 x8 x9 x10 H0 H =
 Z0 (Xv .not x10) fun g=>
 Zk g
 (some ((.tuple [x8,(.int .i64 0)]),H))
 (B3 x7 x8 x9 H0 H):=Za [4,6,7,12,14]
theorem Vs:WG x7 x8 H0 H =
 Z0 (Un [x7] H) fun g=>
 Z0 (ZT g.1 0) fun u=>
 Z0 (ZT g.1 1) fun w=>
 Z0 (ZT g.1 2) fun j=>
 Z0 (Z5 .neq j (.int .i64 0)) fun y=>
 Zk y
 (some ((.tuple [.nils,j]),g.2))
 (B2 x7 x8 u w H0 g.2):=(ZD (C:=cfg) [4,6,7,12,14] (Zm 2 (ZB 48 Tryz.f48 H0)) _ _).trans (by kernel_rfl)
theorem Mb:UI x0 x4 H0 H =
 Z0 (Zu x0) fun j=>
 Z0 (Z7 1 j) fun u=>
 Z0 (Z3 true 6 u H) fun w=>
 Z0 (Zu x0) fun y=>
 Z0 (Z7 7 y) fun t37=>
 Z0 (Z3 true 5 t37 H) fun z=>
 Z0 (PY [w,z,x4] H) fun g=>
 WG g.1 .nils H0 g.2:=Za [4,6,7,12,14]
theorem Me:B5 x0 x4 x15 x16 x17 H0 H =
 Z0 (Z5 .add x17 (.int .i64 1)) fun g=>
 WH x0 x4 x15 x16 g H0 H:=Za [4,6,7,12,14]
theorem Md:B4 x0 x4 x15 x16 x17 x18 H0 H =
 Z0 (Zn 1 x15 x17) fun u=>
 Z0 (Z3 false 1 u H) fun w=>
 Z0 (Zu x0) fun y=>
 Z0 (Z7 0 y) fun z=>
 Z0 (Z3 false 1 z H) fun A=>
 Z0 (PZ [A,w] H) fun g=>
 Z0 ((ZA 1 [(0,g.1)] [.nilp]).map (.vs 1 .clip)) fun B=>
 Z0 (Ym 1 8 x4 B g.2) fun j=>
 B5 x0 j.1 x15 x16 x17 H0 j.2:=Za [4,6,7,12,14]
theorem JO:WH x0 x4 x15 x16 x17 H0 H =
 Z0 (Z5 .lss x17 x16) fun g=>
 Zk g
 (B4 x0 x4 x15 x16 x17 g H0 H)
 (UI x0 x4 H0 H):=(ZD (C:=cfg) [4,6,7,12,14] (Zm 0 (Pm H0)) _ _).trans (by kernel_rfl)
theorem Lb:Qe [p0] H=D6 p0 H:=Be 57 [4,6,7,12,14] Tryz.func48
def Cu:Z4:=
 Z0 (ZO p0 H) fun g=>
 Z0 (Z7 0 g.1) fun t3=>
 Z0 (Z3 false 1 t3 g.2) fun t4=>
 Z0 (Z5 .geq t4 (.int .i64 64)) fun t5=>
 Z0 (Z8 t5 true (.tuple []) (Z7 0 g.1)) fun E=>
 Z0 (Z8 t5 true (.tuple []) (Z3 false 1 E g.2)) fun F=>
 Z0 (Z8 t5 true (.tuple []) (Z5 .leq F (.int .i64 65536))) fun t9=>
 Z0 (Zj t5 t9 (.bool false)) fun j=>
 Z0 (Z8 j true (.tuple []) (Z7 1 g.1)) fun w=>
 Z0 (Z8 j true (.tuple []) (Z3 false 1 w g.2)) fun y=>
 Z0 (Z8 j true (.tuple []) (Z5 .geq y (.int .i64 2))) fun z=>
 Z0 (Zj j z (.bool false)) fun u=>
 Z0 (Z8 u true (.tuple []) (Z7 1 g.1)) fun A=>
 Z0 (Z8 u true (.tuple []) (Z3 false 1 A g.2)) fun B=>
 Z0 (Z8 u true (.tuple []) (Z5 .leq B (.int .i64 32))) fun C=>
 Z0 (Zj u C (.bool false)) fun D=>
 some (D,g.2)
theorem Zch:Re [p0] H=Cu p0 H:=Be 21 [] Tryz.func69
def Zbe:Z4:=ZX 74 39 (sub (Z1 Tryz.f74) [1,1,1,1,1,1]) (Zi cfg 39 74 Tryz.f74 H0) [(10,x10)] H
def Zbd:Z4:=ZX 74 39 (sub (Z1 Tryz.f74) [1,1,1,1,1]) (Zi cfg 39 74 Tryz.f74 H0) [(0,x0),(10,x10)] H
def Zbc:Z4:=ZX 74 39 (sub (Z1 Tryz.f74) [1,1,1,1]) (Zi cfg 39 74 Tryz.f74 H0) [(0,x0),(3,x3),(5,x5),(6,x6),(10,x10)] H
def Zbb:Z4:=ZX 74 39 (sub (Z1 Tryz.f74) [1,1]) (Zi cfg 39 74 Tryz.f74 H0) [(0,x0),(3,x3),(5,x5),(6,x6)] H
def Zcp:Z4:=
 Z0 (ZO p1 H) fun u=>
 Z0 (ZO p2 u.2) fun g=>
 Z0 (Ys (.pointer 124) .eql p0 .nilp) fun j=>
 Zk j
 (some ((.tuple [(.str []),(.int .i64 5)]),g.2))
 (Zbb p0 p3 u.1 g.1 H g.2)
theorem ZgI:Zbe x10 H0 H =
 some ((.tuple [x10,(.int .i64 0)]),H):=Za [3,6,9,12]
theorem ZgH:Zbd x0 x10 H0 H =
 Z0 (Vi [x0,x10] H) fun g=>
 Z0 (Z5 .neq g.1 (.int .i64 0)) fun j=>
 Zk j
 (some ((.tuple [(.str []),g.1]),g.2))
 (Zbe x10 H0 g.2):=Za [3,6,9,12]
theorem ZgG:Zbc x0 x3 x5 x6 x10 H0 H =
 Z0 (Z3 true 6 x5 H) fun u=>
 Z0 (Z3 true 5 x6 H) fun w=>
 Z0 (Ze WS [u,w,x3] H) fun j=>
 Z0 (V0 [x0,x10,j.1] j.2) fun g=>
 Z0 (Z5 .neq g.1 (.int .i64 0)) fun y=>
 Zk y
 (some ((.tuple [(.str []),g.1]),g.2))
 (Zbd x0 x10 H0 g.2):=Za [3,6,9,12]
theorem ZgF:Zbb x0 x3 x5 x6 H0 H =
 Z0 (VE [x0] H) fun g=>
 Z0 (ZT g.1 0) fun u=>
 Z0 (ZT g.1 1) fun j=>
 Z0 (Z5 .neq j (.int .i64 0)) fun w=>
 Zk w
 (some ((.tuple [(.str []),j]),g.2))
 (Zbc x0 x3 x5 x6 u H0 g.2):=Za [3,6,9,12]
theorem Zh2:E6 [p0,p1,p2,p3] H=Zcp p0 p1 p2 p3 H:=Be 39 [3,6,9,12] Tryz.func74
def FE:Z4:=
 Z0 (Zu p0) fun t4=>
 Z0 (Z7 13 t4) fun t5=>
 Z0 (Z7 3 t5) fun C=>
 Z0 (Z3 false 1 C H) fun D=>
 Z0 (Zu p0) fun t9=>
 Z0 (Z7 0 t9) fun u=>
 Z0 (Z3 false 1 u H) fun w=>
 Z0 (QW QF [w] H) fun g=>
 Z0 (Ki D g.1) fun y=>
 Z0 (Zu p0) fun z=>
 Z0 (Z7 13 z) fun A=>
 Z0 (Z7 3 A) fun B=>
 Z0 (Zf 1 B y g.2) fun j=>
 some ((.tuple []),j.2)
theorem E9:W3 [p0] H=FE p0 H:=Be 17 [] Tryz.func75
def Hg:Z4:=ZX 76 19 (sub (Z1 Tryz.f76) [1,1,1]) (Zi cfg 19 76 Tryz.f76 H0) [(3,x3)] H
def Ko:KL:=Zc (Ra 76 19 Tryz.f76 [1,1,1]) (Zi cfg 19 76 Tryz.f76 H0)
theorem Za1:ZU 19 (Ko H0):=Zx (C:=cfg) (kp:=cfg.keep 76) (sub (Z1 Tryz.f76) [1,1,1]) (ZB 76 Tryz.f76 H0)
def Hi:Z4:=ZX 76 19 (sub (Z1 Tryz.f76) [1,1,0,1,0,0,1,1,1]) (Zc (WB 76 19 Tryz.f76 [1,1,0,1,0,0]) (Z6 0 (Ko H0))) [(3,x3),(6,x6),(7,x7),(8,x8)] H
def Hh:Z4:=ZX 76 19 (sub (Z1 Tryz.f76) [1,1,0,1,0,0,1,1]) (Zc (WB 76 19 Tryz.f76 [1,1,0,1,0,0]) (Z6 0 (Ko H0))) [(3,x3),(6,x6),(7,x7),(8,x8),(9,x9)] H
def Kp:Z4:=Fb 76 19 (sub (Z1 Tryz.f76) [1,1,0,1,0,0]) (Z6 0 (Ko H0)) [(3,x3),(6,x6),(7,x7),(8,x8)] H
def I8:Z4:=
 Z0 (Zl (.slice 9) p0) fun g=>
 Kp (.int .i64 0) p0 g (.int .i64 0) H H
theorem Zdr:Hg x3 H0 H =
 some (x3,H):=Za [4,6,7]
theorem Zdt:Hi x3 x6 x7 x8 H0 H =
 Z0 (Z5 .add x8 (.int .i64 1)) fun g=>
 Kp x3 x6 x7 g H0 H:=Za [4,6,7]
theorem Zds:Hh x3 x6 x7 x8 x9 H0 H =
 Z0 (Zn 1 x6 x8) fun g=>
 Z0 (Z3 false 1 g H) fun j=>
 Z0 (Zl .string j) fun u=>
 Z0 (Z5 .add u (.int .i64 16)) fun w=>
 Z0 (Z5 .add x3 w) fun y=>
 Hi y x6 x7 x8 H0 H:=Za [4,6,7]
theorem Nu:Kp x3 x6 x7 x8 H0 H =
 Z0 (Z5 .lss x8 x7) fun t9=>
 Zk t9
 (Hh x3 x6 x7 x8 t9 H0 H)
 (Hg x3 H0 H):=(ZD (C:=cfg) [4,6,7] (Zm 0 (Za1 H0)) _ _).trans (by kernel_rfl)
theorem ZeD:P8 [p0] H=I8 p0 H:=Be 19 [4,6,7] Tryz.func76
def GX:Z4:=ZX 78 67 (sub (Z1 Tryz.f78) [1,1,1,1,1,1,1]) (Zi cfg 67 78 Tryz.f78 H0) [(6,x6)] H
def Xx:KL:=Zc (Ra 78 67 Tryz.f78 [1,1,1,1,1,1,1]) (Zi cfg 67 78 Tryz.f78 H0)
theorem Pl:ZU 67 (Xx H0):=Zx (C:=cfg) (kp:=cfg.keep 78) (sub (Z1 Tryz.f78) [1,1,1,1,1,1,1]) (ZB 78 Tryz.f78 H0)
def GZ:Z4:=ZX 78 67 (sub (Z1 Tryz.f78) [1,1,1,1,1,1,0,1,0,0,1,1,1]) (Zc (WB 78 67 Tryz.f78 [1,1,1,1,1,1,0,1,0,0]) (Z6 0 (Xx H0))) [(0,x0),(6,x6),(48,x48),(49,x49),(50,x50)] H
def Ch:KL:=Zc (Ra 78 67 Tryz.f78 [1,1,1,1,1,1,0,1,0,0,1,1,1]) (Zc (WB 78 67 Tryz.f78 [1,1,1,1,1,1,0,1,0,0]) (Z6 0 (Xx H0)))
def B1:Z4:=ZX 78 67 (sub (Z1 Tryz.f78) [1,1,1,1,1,1,0,1,0,0,1,1,0,0,1,1]) (Z6 1 (Ch H0)) [(0,x0),(6,x6),(48,x48),(49,x49),(50,x50)] H
def GY:Z4:=ZX 78 67 (sub (Z1 Tryz.f78) [1,1,1,1,1,1,0,1,0,0,1,1]) (Zc (WB 78 67 Tryz.f78 [1,1,1,1,1,1,0,1,0,0]) (Z6 0 (Xx H0))) [(0,x0),(6,x6),(48,x48),(49,x49),(50,x50),(51,x51)] H
def WE:Z4:=Fb 78 67 (sub (Z1 Tryz.f78) [1,1,1,1,1,1,0,1,0,0]) (Z6 0 (Xx H0)) [(0,x0),(6,x6),(48,x48),(49,x49),(50,x50)] H
def GW:Z4:=ZX 78 67 (sub (Z1 Tryz.f78) [1,1,1,1]) (Zi cfg 67 78 Tryz.f78 H0) [(0,x0),(1,x1),(6,x6)] H
def GV:Z4:=ZX 78 67 (sub (Z1 Tryz.f78) [1,1]) (Zi cfg 67 78 Tryz.f78 H0) [(0,x0),(1,x1)] H
def D5:Z4:=
 Z0 (Zl (.slice 9) p1) fun g=>
 Z0 (Z5 .eql g (.int .i64 1)) fun j=>
 Zk j
 (Z0 (Zn 1 p1 (.int .i64 0)) fun u=>
 Z0 (Z3 false 1 u H) fun w=>
 some ((.tuple [w,(.int .i64 0)]),H))
 (GV p0 p1 H H)
theorem M7:GX x6 H0 H =
 some ((.tuple [x6,(.int .i64 0)]),H):=Za [3,6,10,14,15,16]
theorem M9:GZ x0 x6 x48 x49 x50 H0 H =
 Z0 (Z5 .add x50 (.int .i64 1)) fun g=>
 WE x0 x6 x48 x49 g H0 H:=Za [3,6,10,14,15,16]
theorem Ma:B1 x0 x6 x48 x49 x50 H0 H =
 Z0 (W3 [x0] H) fun g=>
 GZ x0 x6 x48 x49 x50 H0 g.2:=Za [3,6,10,14,15,16]
theorem M8:GY x0 x6 x48 x49 x50 x51 H0 H =
 Z0 (Zn 1 x48 x50) fun j=>
 Z0 (Z3 false 1 j H) fun u=>
 Z0 (Zu x0) fun w=>
 Z0 (Z7 0 w) fun y=>
 Z0 (Z3 false 1 y H) fun z=>
 Z0 (UG [z,u] H) fun g=>
 Z0 (Z5 .neq g.1 (.int .i64 0)) fun A=>
 Zk A
 (some ((.tuple [(.str []),g.1]),g.2))
 (B1 x0 x6 x48 x49 x50 H0 g.2):=Za [3,6,10,14,15,16]
theorem JN:WE x0 x6 x48 x49 x50 H0 H =
 Z0 (Z5 .lss x50 x49) fun g=>
 Zk g
 (GY x0 x6 x48 x49 x50 g H0 H)
 (GX x6 H0 H):=(ZD (C:=cfg) [3,6,10,14,15,16] (Zm 0 (Pl H0)) _ _).trans (by kernel_rfl)
theorem M6:GW x0 x1 x6 H0 H =
 Z0 (Zu x0) fun u=>
 Z0 (Z7 13 u) fun w=>
 Z0 (Z7 1 w) fun y=>
 Z0 (Z3 false 1 y H) fun z=>
 Z0 (Z5 .add z (.int .i64 1)) fun A=>
 Z0 (Zu x0) fun B=>
 Z0 (Z7 13 B) fun C=>
 Z0 (Z7 1 C) fun D=>
 Z0 (Zf 1 D A H) fun g=>
 Z0 (W3 [x0] g.2) fun j=>
 Z0 (Zl (.slice 9) x1) fun E=>
 WE x0 x6 x1 E (.int .i64 0) H0 j.2:=Za [3,6,10,14,15,16]
theorem M5:GV x0 x1 H0 H =
 Z0 (Zu x0) fun u=>
 Z0 (Z7 0 u) fun w=>
 Z0 (Z3 false 1 w H) fun y=>
 Z0 (Zu x0) fun z=>
 Z0 (Z7 1 z) fun A=>
 Z0 (Z3 true 6 A H) fun B=>
 Z0 (Zu x0) fun C=>
 Z0 (Z7 7 C) fun D=>
 Z0 (Z3 true 5 D H) fun E=>
 Z0 (NZ [y,B,E,x1] H) fun g=>
 Z0 (ZT g.1 0) fun F=>
 Z0 (ZT g.1 1) fun j=>
 Z0 (Z5 .neq j (.int .i64 0)) fun I=>
 Zk I
 (some ((.tuple [(.str []),j]),g.2))
 (GW x0 x1 F H0 g.2):=Za [3,6,10,14,15,16]
theorem La:Qd [p0,p1] H=D5 p0 p1 H:=Be 67 [3,6,10,14,15,16] Tryz.func78
def Ze4:Z4:=ZX 79 11 (sub (Z1 Tryz.f79) [1,1]) (Zi cfg 11 79 Tryz.f79 H0) [(0,x0),(1,x1)] H
def Zfl:Z4:=
 Z0 (Ys (.pointer 124) .eql p0 .nilp) fun g=>
 Zk g
 (some (.nilp,H))
 (Ze4 p0 p1 H H)
theorem ZiA:Ze4 x0 x1 H0 H =
 Z0 ((X5 [(0,1,x0),(1,1,x1)] [.nilp,(.str []),(.int .i64 0),(.bool false),(.bool false),(.str [])]).map .agg) fun t9=>
 Z0 (ZO t9 H) fun g=>
 some (g.1,g.2):=Za [3]
theorem Zj4:PZ [p0,p1] H=Zfl p0 p1 H:=Be 11 [3] Tryz.func79
def Zfk:Z4:=
 Z0 (ZO p0 H) fun J=>
 Z0 (ZO p1 J.2) fun y=>
 Z0 (Z7 0 y.1) fun L=>
 Z0 (Z3 false 1 L y.2) fun M=>
 Z0 (Ym 5 40 .nils M y.2) fun K=>
 Z0 (Z7 0 y.1) fun B=>
 Z0 (Zf 1 B K.1 K.2) fun A=>
 XG y.1 A.2 fun z4 z=>
 Z0 (Z3 true 6 J.1 z) fun C=>
 Z0 (Ze Gf [C] z) fun g=>
 Z0 (XE true 5 z4) fun D=>
 Z0 (Z3 true 5 z4 g.2) fun E=>
 Z0 (Ze Xc [E] g.2) fun j=>
 Z0 (Z5 .eql j.1 (.int .i64 0)) fun F=>
 Z0 (Ym 1 8 .nils p2 j.2) fun u=>
 Z0 ((X5 [(0,6,g.1),(6,5,D),(11,1,F),(12,1,u.1)] [(.str []),.nils,(.str []),(.str []),.nils,.nils,.nils,(.int .i64 0),(.int .i64 0),(.bool false),(.bool false),(.bool false),.nils,(.str []),(.bool false)]).map .agg) fun I=>
 Z0 (ZO I u.2) fun w=>
 some (w.1,w.2)
theorem Zj3:PY [p0,p1,p2] H=Zfk p0 p1 p2 H:=Be 21 [] Tryz.func80
def Jv:Z4:=ZX 81 61 (sub (Z1 Tryz.f81) [1,1,0,0,0,1,1,1]) (Z6 1 (Zc (WB 81 61 Tryz.f81 [1,1,0,0]) (Z6 0 (Zi cfg 61 81 Tryz.f81 H0)))) [(0,x0),(5,x5)] H
def Ju:Z4:=ZX 81 61 (sub (Z1 Tryz.f81) [1,1,0,0,0,1,1]) (Z6 1 (Zc (WB 81 61 Tryz.f81 [1,1,0,0]) (Z6 0 (Zi cfg 61 81 Tryz.f81 H0)))) [(0,x0),(5,x5)] H
def Ws:Z4:=Fb 81 61 (sub (Z1 Tryz.f81) [1,1,0,0]) (Z6 0 (Zi cfg 61 81 Tryz.f81 H0)) [(0,x0)] H
def Ta:Z4:=ZX 81 61 (sub (Z1 Tryz.f81) [1,1]) (Zi cfg 61 81 Tryz.f81 H0) [(0,x0)] H
def Tp:Z4:=
 Z0 (Ys (.pointer 153) .eql p0 .nilp) fun t9=>
 Zk t9
 (some ((.tuple [(.str []),(.bool false),(.int .i64 5)]),H))
 (Ta p0 H H)
theorem Cn:Jv x0 x5 H0 H =
 Z0 (Zu x0) fun u=>
 Z0 (Z7 14 u) fun w=>
 Z0 (Zf 1 w (.bool true) H) fun j=>
 Z0 (Zu x0) fun y=>
 Z0 (Z7 13 y) fun z=>
 Z0 (Zf 1 z x5 j.2) fun g=>
 some ((.tuple [x5,(.bool true),(.int .i64 0)]),g.2):=Za [3,6,7]
theorem Cl:Ju x0 x5 H0 H =
 Z0 (Zu x0) fun y=>
 Z0 (Z7 14 y) fun z=>
 Z0 (Z3 false 1 z H) fun u=>
 Z0 (Z8 u true (.tuple []) (some x0)) fun A=>
 Z0 (Z8 u true (.tuple []) (Zu A)) fun B=>
 Z0 (Z8 u true (.tuple []) (Z7 11 B)) fun C=>
 Z0 (Z8 u true (.tuple []) (Z3 false 1 C H)) fun D=>
 Z0 (Zj u D (.bool false)) fun j=>
 Z0 (Z8 j true (.tuple []) (some x0)) fun E=>
 Z0 (Z8 j true (.tuple []) (Zu E)) fun F=>
 Z0 (Z8 j true (.tuple []) (Z7 6 F)) fun I=>
 Z0 (Z8 j true (.tuple []) (Z7 3 I)) fun J=>
 Z0 (Z8 j true (.tuple []) (Z3 false 1 J H)) fun K=>
 Z0 (Zj j K (.bool false)) fun g=>
 Z0 (Z8 g true (.tuple []) (some x0)) fun t37=>
 Z0 (Z8 g true (.tuple []) (Zu t37)) fun L=>
 Z0 (Z8 g true (.tuple []) (Z7 0 L)) fun M=>
 Z0 (Z8 g true (.tuple []) (Z3 true 6 M H)) fun N=>
 Z0 (Z8 g true (.tuple []) (some x0)) fun O=>
 Z0 (Z8 g true (.tuple []) (Zu O)) fun Q=>
 Z0 (Z8 g true (.tuple []) (Z7 6 Q)) fun R=>
 Z0 (Z8 g true (.tuple []) (Z3 true 5 R H)) fun S=>
 Z0 (Z8 g true (.tuple []) (some x0)) fun T=>
 Z0 (Z8 g true (.tuple []) (Zu T)) fun U=>
 Z0 (Z8 g true (.tuple []) (Z7 13 U)) fun V=>
 Z0 (Z8 g true (.tuple []) (Z3 false 1 V H)) fun W=>
 Z0 (Z8 g true (.tuple []) (some x5)) fun X=>
 Z0 (Z8 g true ((.tuple []),H) (Ze XA [N,S,W,X] H)) fun w=>
 Z0 (Z8 g true (.tuple []) (Z5 .eql w.1 (.int .i64 0))) fun Y=>
 Z0 (Zj g Y (.bool false)) fun Z=>
 Zk Z
 (Ws x0 H0 w.2)
 (Jv x0 x5 H0 w.2):=Za [3,6,7]
theorem WK:Ws x0 H0 H =
 Z0 (Uo [x0] H) fun g=>
 Z0 (ZT g.1 0) fun j=>
 Z0 (ZT g.1 1) fun u=>
 Z0 (ZT g.1 2) fun w=>
 Z0 (Xv .not u) fun y=>
 Zk y
 (some ((.tuple [(.str []),(.bool false),w]),g.2))
 (Ju x0 j H0 g.2):=(ZD (C:=cfg) [3,6,7] (Zm 0 (ZB 81 Tryz.f81 H0)) _ _).trans (by kernel_rfl)
theorem Cj:Ta x0 H0 H =
 Ws x0 H0 H:=Za [3,6,7]
theorem Ad:Un [p0] H=Tp p0 H:=Be 61 [3,6,7] Tryz.func81
def IR:Z4:=ZX 101 74 (sub (Z1 Tryz.f101) [1,1,1,1,1,1,1,1,1]) (Zi cfg 74 101 Tryz.f101 H0) [(10,x10)] H
def PJ:Z4:=ZX 101 74 (sub (Z1 Tryz.f101) [1,1,1,1,1,1,1,1]) (Zi cfg 74 101 Tryz.f101 H0) [(0,x0),(10,x10)] H
def Gz:KL:=Zc (Ra 101 74 Tryz.f101 [1,1,1,1,1,1,1,1]) (Zi cfg 74 101 Tryz.f101 H0)
theorem ZbI:ZU 74 (Gz H0):=Zx (C:=cfg) (kp:=cfg.keep 101) (sub (Z1 Tryz.f101) [1,1,1,1,1,1,1,1]) (ZB 101 Tryz.f101 H0)
def IU:Z4:=ZX 101 74 (sub (Z1 Tryz.f101) [1,1,1,1,1,1,1,0,0,0,0,1,1,1]) (Z6 3 (Zc (WB 101 74 Tryz.f101 [1,1,1,1,1,1,1,0,0,0]) (Z6 2 (Gz H0)))) [(0,x0),(10,x10),(15,x15),(16,x16)] H
def IT:Z4:=ZX 101 74 (sub (Z1 Tryz.f101) [1,1,1,1,1,1,1,0,0,0,0,1,1]) (Z6 3 (Zc (WB 101 74 Tryz.f101 [1,1,1,1,1,1,1,0,0,0]) (Z6 2 (Gz H0)))) [(0,x0),(10,x10),(15,x15),(16,x16),(17,x17)] H
def GB:Z4:=Fb 101 74 (sub (Z1 Tryz.f101) [1,1,1,1,1,1,1,0,0,0]) (Z6 2 (Gz H0)) [(0,x0),(10,x10),(15,x15)] H
def PI:Z4:=ZX 101 74 (sub (Z1 Tryz.f101) [1,1,1,1,1,1]) (Zi cfg 74 101 Tryz.f101 H0) [(0,x0),(5,x5),(6,x6),(10,x10),(12,x12)] H
def GA:KL:=Zc (Ra 101 74 Tryz.f101 [1,1,1,1,1,1]) (Zi cfg 74 101 Tryz.f101 H0)
theorem ZbJ:ZU 74 (GA H0):=Zx (C:=cfg) (kp:=cfg.keep 101) (sub (Z1 Tryz.f101) [1,1,1,1,1,1]) (ZB 101 Tryz.f101 H0)
def IX:Z4:=ZX 101 74 (sub (Z1 Tryz.f101) [1,1,1,1,1,0,1,0,0,1,1,1]) (Zc (WB 101 74 Tryz.f101 [1,1,1,1,1,0,1,0,0]) (Z6 0 (GA H0))) [(0,x0),(5,x5),(6,x6),(10,x10),(12,x12),(31,x31),(32,x32),(33,x33)] H
def IW:Z4:=ZX 101 74 (sub (Z1 Tryz.f101) [1,1,1,1,1,0,1,0,0,1,1]) (Zc (WB 101 74 Tryz.f101 [1,1,1,1,1,0,1,0,0]) (Z6 0 (GA H0))) [(0,x0),(5,x5),(6,x6),(10,x10),(12,x12),(31,x31),(32,x32),(33,x33),(34,x34)] H
def GC:Z4:=Fb 101 74 (sub (Z1 Tryz.f101) [1,1,1,1,1,0,1,0,0]) (Z6 0 (GA H0)) [(0,x0),(5,x5),(6,x6),(10,x10),(12,x12),(31,x31),(32,x32),(33,x33)] H
def IQ:Z4:=ZX 101 74 (sub (Z1 Tryz.f101) [1,1,1,1]) (Zi cfg 74 101 Tryz.f101 H0) [(0,x0),(3,x3),(5,x5),(6,x6),(10,x10)] H
def IP:Z4:=ZX 101 74 (sub (Z1 Tryz.f101) [1,1]) (Zi cfg 74 101 Tryz.f101 H0) [(0,x0),(3,x3),(5,x5),(6,x6)] H
def ZaL:Z4:=
 Z0 (ZO p1 H) fun u=>
 Z0 (ZO p2 u.2) fun g=>
 Z0 (Ys (.pointer 124) .eql p0 .nilp) fun j=>
 Zk j
 (some ((.tuple [(.str []),(.int .i64 5)]),g.2))
 (IP p0 p3 u.1 g.1 H g.2)
theorem Zf6:IR x10 H0 H =
 some ((.tuple [x10,(.int .i64 0)]),H):=Za [3,6,9,11,12,16,17,20,23]
theorem Zf5:PJ x0 x10 H0 H =
 Z0 (Vi [x0,x10] H) fun g=>
 Z0 (Z5 .neq g.1 (.int .i64 0)) fun j=>
 Zk j
 (some ((.tuple [(.str []),g.1]),g.2))
 (IR x10 H0 g.2):=Za [3,6,9,11,12,16,17,20,23]
theorem Zf7:IU x0 x10 x15 x16 H0 H =
 Z0 ((ZA 1 [(0,x16)] [(.str [])]).map (.vs 1 .clip)) fun j=>
 Z0 (V0 [x0,x10,j] H) fun g=>
 Z0 (Z5 .neq g.1 (.int .i64 0)) fun u=>
 Zk u
 (some ((.tuple [(.str []),g.1]),g.2))
 (GB x0 x10 x15 H0 g.2):=Za [3,6,9,11,12,16,17,20,23]
theorem BT:IT x0 x10 x15 x16 x17 H0 H =
 Z0 (Xv .not x17) fun g=>
 Zk g
 (PJ x0 x10 H0 H)
 (IU x0 x10 x15 x16 H0 H):=Za [3,6,9,11,12,16,17,20,23]
theorem BU:GB x0 x10 x15 H0 H =
 Z0 (Un [x15] H) fun g=>
 Z0 (ZT g.1 0) fun u=>
 Z0 (ZT g.1 1) fun w=>
 Z0 (ZT g.1 2) fun j=>
 Z0 (Z5 .neq j (.int .i64 0)) fun y=>
 Zk y
 (some ((.tuple [(.str []),j]),g.2))
 (IT x0 x10 x15 u w H0 g.2):=(ZD (C:=cfg) [3,6,9,11,12,16,17,20,23] (Zm 2 (ZbI H0)) _ _).trans (by kernel_rfl)
theorem Zf4:PI x0 x5 x6 x10 x12 H0 H =
 Z0 (Z3 true 6 x5 H) fun j=>
 Z0 (Z3 true 5 x6 H) fun u=>
 Z0 (PY [j,u,x12] H) fun g=>
 GB x0 x10 g.1 H0 g.2:=Za [3,6,9,11,12,16,17,20,23]
theorem Zf9:IX x0 x5 x6 x10 x12 x31 x32 x33 H0 H =
 Z0 (Z5 .add x33 (.int .i64 1)) fun g=>
 GC x0 x5 x6 x10 x12 x31 x32 g H0 H:=Za [3,6,9,11,12,16,17,20,23]
theorem Zf8:IW x0 x5 x6 x10 x12 x31 x32 x33 x34 H0 H =
 Z0 (Zn 1 x31 x33) fun u=>
 Z0 (Z3 false 1 u H) fun w=>
 Z0 (PZ [x0,w] H) fun g=>
 Z0 ((ZA 1 [(0,g.1)] [.nilp]).map (.vs 1 .clip)) fun y=>
 Z0 (Ym 1 8 x12 y g.2) fun j=>
 IX x0 x5 x6 x10 j.1 x31 x32 x33 H0 j.2:=Za [3,6,9,11,12,16,17,20,23]
theorem L5:GC x0 x5 x6 x10 x12 x31 x32 x33 H0 H =
 Z0 (Z5 .lss x33 x32) fun g=>
 Zk g
 (IW x0 x5 x6 x10 x12 x31 x32 x33 g H0 H)
 (PI x0 x5 x6 x10 x12 H0 H):=(ZD (C:=cfg) [3,6,9,11,12,16,17,20,23] (Zm 0 (ZbJ H0)) _ _).trans (by kernel_rfl)
theorem Zf3:IQ x0 x3 x5 x6 x10 H0 H =
 Z0 (Zl (.slice 9) x3) fun g=>
 GC x0 x5 x6 x10 .nils x3 g (.int .i64 0) H0 H:=Za [3,6,9,11,12,16,17,20,23]
theorem Zf2:IP x0 x3 x5 x6 H0 H =
 Z0 (VE [x0] H) fun g=>
 Z0 (ZT g.1 0) fun u=>
 Z0 (ZT g.1 1) fun j=>
 Z0 (Z5 .neq j (.int .i64 0)) fun w=>
 Zk w
 (some ((.tuple [(.str []),j]),g.2))
 (IQ x0 x3 x5 x6 u H0 g.2):=Za [3,6,9,11,12,16,17,20,23]
theorem ZfP:NZ [p0,p1,p2,p3] H=ZaL p0 p1 p2 p3 H:=Be 74 [3,6,9,11,12,16,17,20,23] Tryz.func101
def Tc:Z4:=ZX 104 67 (sub (Z1 Tryz.f104) [1,1,1,1,1,1,1,1]) (Zi cfg 67 104 Tryz.f104 H0) [(13,x13)] H
def Tb:Z4:=ZX 104 67 (sub (Z1 Tryz.f104) [1,1,1,1,1,1]) (Zi cfg 67 104 Tryz.f104 H0) [(1,x1),(5,x5)] H
def Wt:Z4:=ZX 104 67 (sub (Z1 Tryz.f104) [1,1,1,1,1]) (Zi cfg 67 104 Tryz.f104 H0) [(1,x1),(5,x5),(7,x7)] H
def Wu:KL:=Zc (Ra 104 67 Tryz.f104 [1,1,1,1,1]) (Zi cfg 67 104 Tryz.f104 H0)
theorem LG:ZU 67 (Wu H0):=Zx (C:=cfg) (kp:=cfg.keep 104) (sub (Z1 Tryz.f104) [1,1,1,1,1]) (ZB 104 Tryz.f104 H0)
def Jw:Z4:=ZX 104 67 (sub (Z1 Tryz.f104) [1,1,1,1,0,1,0,0,1,1,1]) (Zc (WB 104 67 Tryz.f104 [1,1,1,1,0,1,0,0]) (Z6 0 (Wu H0))) [(1,x1),(5,x5),(6,x6),(7,x7),(20,x20),(21,x21),(22,x22)] H
def Zal:KL:=Zc (Ra 104 67 Tryz.f104 [1,1,1,1,0,1,0,0,1,1,1]) (Zc (WB 104 67 Tryz.f104 [1,1,1,1,0,1,0,0]) (Z6 0 (Wu H0)))
def Te:Z4:=ZX 104 67 (sub (Z1 Tryz.f104) [1,1,1,1,0,1,0,0,1,1,0,0,1,1,1]) (Z6 1 (Zal H0)) [(1,x1),(5,x5),(6,x6),(7,x7),(8,x8),(10,x10),(11,x11),(20,x20),(21,x21),(22,x22)] H
def Td:Z4:=ZX 104 67 (sub (Z1 Tryz.f104) [1,1,1,1,0,1,0,0,1,1]) (Zc (WB 104 67 Tryz.f104 [1,1,1,1,0,1,0,0]) (Z6 0 (Wu H0))) [(1,x1),(5,x5),(6,x6),(7,x7),(20,x20),(21,x21),(22,x22),(23,x23)] H
def VK:Z4:=Fb 104 67 (sub (Z1 Tryz.f104) [1,1,1,1,0,1,0,0]) (Z6 0 (Wu H0)) [(1,x1),(5,x5),(6,x6),(7,x7),(20,x20),(21,x21),(22,x22)] H
def Tq:Z4:=
 Z0 (ZO p0 H) fun g=>
 Z0 (some ((.ptr g.2.length 0),g.2++[.cells [(.str []),(.int .i64 0),(.bool false)]])) fun u=>
 Z0 (some (.fn (.func 128) [] [g.1])) fun w=>
 Z0 (Z3 false 1 g.1 u.2) fun y=>
 Z0 (Zu y) fun z=>
 Z0 (Z7 12 z) fun A=>
 Z0 (Z3 false 1 A u.2) fun j=>
 Z0 (Zl (.slice 130) j) fun B=>
 VK g.1 u.1 w (.int .i64 0) j B (.int .i64 0) H u.2
theorem Cp:Tc x13 H0 H =
 some ((.tuple [x13,(.bool true),(.int .i64 0)]),H):=Za [6,10,12,13,15,18]
theorem Co:Tb x1 x5 H0 H =
 Z0 (Z3 false 1 x1 H) fun u=>
 Z0 (Zu u) fun w=>
 Z0 (Z7 12 w) fun y=>
 Z0 (Z3 false 1 y H) fun z=>
 Z0 (Z7 1 x5) fun A=>
 Z0 (Z3 false 1 A H) fun B=>
 Z0 (Zn 1 z B) fun C=>
 Z0 (Z3 false 1 C H) fun D=>
 Z0 (KM [D] H) fun g=>
 Z0 (ZT g.1 0) fun E=>
 Z0 (ZT g.1 1) fun I=>
 Z0 (ZT g.1 2) fun j=>
 Z0 (Z5 .neq j (.int .i64 0)) fun F=>
 Zk F
 (some ((.tuple [(.str []),(.bool false),j]),g.2))
 (Tc E H0 g.2):=Za [6,10,12,13,15,18]
theorem Bj:Wt x1 x5 x7 H0 H =
 Z0 (Z5 .neq x7 (.int .i64 0)) fun g=>
 Z0 (Z8 g false (.tuple []) (Z7 2 x5)) fun j=>
 Z0 (Z8 g false (.tuple []) (Z3 false 1 j H)) fun u=>
 Z0 (Z8 g false (.tuple []) (Xv .not u)) fun w=>
 Z0 (Zj g (.bool true) w) fun y=>
 Zk y
 (some ((.tuple [(.str []),(.bool false),x7]),H))
 (Tb x1 x5 H0 H):=Za [6,10,12,13,15,18]
theorem Bl:Jw x1 x5 x6 x7 x20 x21 x22 H0 H =
 Z0 (Z5 .add x22 (.int .i64 1)) fun g=>
 VK x1 x5 x6 x7 x20 x21 g H0 H:=Za [6,10,12,13,15,18]
theorem Bm:Te x1 x5 x6 x7 x8 x10 x11 x20 x21 x22 H0 H =
 Zk x11
 (Z0 (WT [x5,x8,x10,x6] H) fun g=>
 Jw x1 x5 x6 x7 x20 x21 x22 H0 g.2)
 (Jw x1 x5 x6 x7 x20 x21 x22 H0 H):=Za [6,10,12,13,15,18]
theorem Bk:Td x1 x5 x6 x7 x20 x21 x22 x23 H0 H =
 Z0 (Zn 1 x20 x22) fun u=>
 Z0 (Z3 false 1 u H) fun w=>
 Z0 (V8 [w] H) fun g=>
 Z0 (ZT g.1 0) fun y=>
 Z0 (ZT g.1 1) fun z=>
 Z0 (ZT g.1 2) fun j=>
 Z0 (Z5 .neq j (.int .i64 0)) fun A=>
 Zk A
 (Wt x1 x5 j H0 g.2)
 (Te x1 x5 x6 x7 x22 y z x20 x21 x22 H0 g.2):=Za [6,10,12,13,15,18]
theorem UJ:VK x1 x5 x6 x7 x20 x21 x22 H0 H =
 Z0 (Z5 .lss x22 x21) fun g=>
 Zk g
 (Td x1 x5 x6 x7 x20 x21 x22 g H0 H)
 (Wt x1 x5 x7 H0 H):=(ZD (C:=cfg) [6,10,12,13,15,18] (Zm 0 (LG H0)) _ _).trans (by kernel_rfl)
theorem Ae:Uo [p0] H=Tq p0 H:=Be 67 [6,10,12,13,15,18] Tryz.func104
def FJ:Z4:=
 Z0 (Z3 false 1 p2 H) fun J=>
 Z0 (Zu J) fun K=>
 Z0 (Z7 11 K) fun L=>
 Z0 (Z3 false 1 L H) fun t9=>
 Z0 (Z8 t9 true (.tuple []) (Z3 false 1 p2 H)) fun j=>
 Z0 (Z8 t9 true (.tuple []) (Zu j)) fun u=>
 Z0 (Z8 t9 true (.tuple []) (Z7 0 u)) fun w=>
 Z0 (Z8 t9 true (.tuple []) (Z3 true 6 w H)) fun y=>
 Z0 (Z8 t9 true (.tuple []) (Z3 false 1 p2 H)) fun z=>
 Z0 (Z8 t9 true (.tuple []) (Zu z)) fun A=>
 Z0 (Z8 t9 true (.tuple []) (Z7 6 A)) fun B=>
 Z0 (Z8 t9 true (.tuple []) (Z3 true 5 B H)) fun C=>
 Z0 (Z8 t9 true (.tuple []) (some p0)) fun D=>
 Z0 (Z8 t9 true (.tuple []) (some p1)) fun E=>
 Z0 (Z8 t9 true ((.tuple []),H) (Ze Wg [y,C,D,E] H)) fun g=>
 Z0 (Z8 t9 true (.tuple []) (Z5 .lss g.1 (.int .i64 0))) fun F=>
 Z0 (Zj t9 F (.bool false)) fun I=>
 some (I,g.2)
theorem Ee:QE [p0,p1,p2] H=FJ p0 p1 p2 H:=Be 24 [] Tryz.func128
def TP:Z4:=ZX 129 68 (sub (Z1 Tryz.f129) [1,1,1,1]) (Zi cfg 68 129 Tryz.f129 H0) [(0,x0)] H
def Uz:Z4:=ZX 129 68 (sub (Z1 Tryz.f129) [1,1,1]) (Zi cfg 68 129 Tryz.f129 H0) [(0,x0)] H
def TO:Z4:=ZX 129 68 (sub (Z1 Tryz.f129) [1,1]) (Zi cfg 68 129 Tryz.f129 H0) [(0,x0)] H
def KS:Z4:=
 Z0 (Ys (.pointer 150) .eql p0 .nilp) fun t9=>
 Zk t9
 (some ((.tuple [(.str []),(.bool false),(.int .i64 5)]),H))
 (TO p0 H H)
theorem DE:TP x0 H0 H =
 Z0 (Zu x0) fun g=>
 Z0 (Z7 5 g) fun j=>
 Z0 (Z3 false 1 j H) fun u=>
 some ((.tuple [u,(.bool true),(.int .i64 0)]),H):=Za [3,11,13]
theorem X8:Uz x0 H0 H =
 Z0 (Zu x0) fun g=>
 Z0 (Z7 3 g) fun j=>
 Z0 (Z3 false 1 j H) fun u=>
 Z0 (Xv .not u) fun w=>
 Zk w
 (some ((.tuple [(.str []),(.bool false),(.int .i64 0)]),H))
 (TP x0 H0 H):=Za [3,11,13]
theorem X7:TO x0 H0 H =
 Z0 (Zu x0) fun B=>
 Z0 (Z7 3 B) fun C=>
 Z0 (Z3 false 1 C H) fun D=>
 Z0 (Xv .not D) fun j=>
 Z0 (Z8 j true (.tuple []) (some x0)) fun E=>
 Z0 (Z8 j true (.tuple []) (Zu E)) fun F=>
 Z0 (Z8 j true (.tuple []) (Z7 4 F)) fun I=>
 Z0 (Z8 j true (.tuple []) (Z3 false 1 I H)) fun J=>
 Z0 (Z8 j true (.tuple []) (Xv .not J)) fun K=>
 Z0 (Zj j K (.bool false)) fun L=>
 Zk L
 (Z0 (Zu x0) fun M=>
 Z0 (Z7 0 M) fun N=>
 Z0 (Z3 false 1 N H) fun O=>
 Z0 (Zu x0) fun Q=>
 Z0 (Z7 1 Q) fun R=>
 Z0 (Z3 false 1 R H) fun S=>
 Z0 (Zu x0) fun T=>
 Z0 (Z7 2 T) fun U=>
 Z0 (Z3 false 1 U H) fun V=>
 Z0 (Vh [O,S,V] H) fun g=>
 Z0 (ZT g.1 0) fun W=>
 Z0 (ZT g.1 1) fun t37=>
 Z0 (ZT g.1 2) fun u=>
 Z0 (Z5 .eql u (.int .i64 0)) fun X=>
 Zk X
 (Z0 (Zu x0) fun Y=>
 Z0 (Z7 5 Y) fun Z=>
 Z0 (Zf 1 Z W g.2) fun w=>
 Z0 (Zu x0) fun aa=>
 Z0 (Z7 2 aa) fun ab=>
 Z0 (Zf 1 ab t37 w.2) fun y=>
 Z0 (Zu x0) fun ac=>
 Z0 (Z7 3 ac) fun ad=>
 Z0 (Zf 1 ad (.bool true) y.2) fun z=>
 Uz x0 H0 z.2)
 (Z0 (Z5 .eql u (.int .i64 5)) fun ae=>
 Zk ae
 (Z0 (Zu x0) fun af=>
 Z0 (Z7 4 af) fun ag=>
 Z0 (Zf 1 ag (.bool true) g.2) fun A=>
 Uz x0 H0 A.2)
 (some ((.tuple [(.str []),(.bool false),u]),g.2))))
 (Uz x0 H0 H):=Za [3,11,13]
theorem FK:V8 [p0] H=KS p0 H:=Be 68 [3,11,13] Tryz.func129
def QG:Z4:=
 Z0 (Zu p0) fun t9=>
 Z0 (Z7 2 t9) fun w=>
 Z0 (Z3 false 1 w H) fun y=>
 Z0 (Xv .not y) fun g=>
 Z0 (Z8 g false (.tuple []) (some p3)) fun z=>
 Z0 (Z8 g false (.tuple []) (some p2)) fun A=>
 Z0 (Z8 g false (.tuple []) (some p0)) fun B=>
 Z0 (Z8 g false (.tuple []) (Zu B)) fun C=>
 Z0 (Z8 g false (.tuple []) (Z7 0 C)) fun D=>
 Z0 (Z8 g false (.tuple []) (Z3 false 1 D H)) fun E=>
 Z0 (Z8 g false ((.tuple []),H) (Yd cfg (Z9 cfg) z [A,E] H)) fun j=>
 Z0 (Zj g (.bool true) j.1) fun F=>
 Zk F
 (Z0 ((X5 [(0,1,p2),(1,1,p1),(2,1,(.bool true))] [(.str []),(.int .i64 0),(.bool false)]).map .agg) fun I=>
 Z0 (Zu p0) fun J=>
 Z0 (Zf 3 J I j.2) fun u=>
 some ((.tuple []),u.2))
 (some ((.tuple []),j.2))
theorem R9:WT [p0,p1,p2,p3] H=QG p0 p1 p2 p3 H:=Be 27 [] Tryz.func130
def Kc:Z4:=ZX 131 24 (sub (Z1 Tryz.f131) [1,1,1]) (Zi cfg 24 131 Tryz.f131 H0) [(5,x5),(6,x6),(7,x7)] H
def Ng:Z4:=
 Z0 (V8 [p0] H) fun g=>
 Z0 (ZT g.1 0) fun w=>
 Z0 (ZT g.1 1) fun j=>
 Z0 (ZT g.1 2) fun y=>
 Zk j
 (Z0 (Zu p0) fun A=>
 Z0 (Z7 3 A) fun B=>
 Z0 (Zf 1 B (.bool false) g.2) fun z=>
 Z0 (Zu p0) fun C=>
 Z0 (Z7 5 C) fun D=>
 Z0 (Zf 1 D (.str []) z.2) fun u=>
 Kc w j y H u.2)
 (Kc w j y H g.2)
theorem DD:Kc x5 x6 x7 H0 H =
 some ((.tuple [x5,x6,x7]),H):=Za [4]
theorem Ii:KM [p0] H=Ng p0 H:=Be 24 [4] Tryz.func131
end
end Go.Am
