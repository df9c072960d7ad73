/- The functions of the translation over the abstract machine -/
import Derived.Test.YtnaneekpogohaaaGreatDoorXeGx
namespace Go.Am
open Go.Proofs
set_option maxRecDepth 100000
noncomputable abbrev CZ (f n:Nat):=Y9 cfg (Z9 cfg) (Y6 cfg (cfg.keep f) n) (cfg.keep f) n Zc Z7
noncomputable abbrev ZuA (f n:Nat):=Y6 cfg (cfg.keep f) n
noncomputable section
abbrev Zzk (f n:Nat)(F:Func)(p:List Nat):KL->AL->Hp->Z3:=fun k g H=>CZ f n (sub (Z1 F) p) k (ZU (cfg.keep f) (sub (Z1 F) p) g) H
abbrev ZoX (f n:Nat)(F:Func)(p:List Nat):KL->AL->Hp->Z3:=fun k g H=>ZuA f n (sub (Z1 F) p) k (ZU (cfg.keep f) (sub (Z1 F) p) g) H
variable (p0 p1 x0 x1 x2 x3 x5:AV)(H0 H:Hp)
def FV:Z3:=CZ 6 85 (sub (Z1 Tryz.f6) [1,1,1,1]) (Zh cfg 85 6 Tryz.f6 H0) [(1,x1),(2,x2),(5,x5)] H
def FU:Z3:=CZ 6 85 (sub (Z1 Tryz.f6) [1,1]) (Zh cfg 85 6 Tryz.f6 H0) [(1,x1),(2,x2)] H
def RR:Z3:=
 Z0 (ZM p0 H) fun z=>
 Z0 (Zf Zbc [p1] z.2) fun u=>
 Z0 (Xo .not u.1) fun w=>
 Z0 (Z8 w false (.tuple []) (Z4 true 7 z.1 u.2)) fun B=>
 Z0 (Z8 w false ((.tuple []),u.2) (Zf Hc [B] u.2)) fun j=>
 Z0 (Z8 w false (.tuple []) (Xo .not j.1)) fun C=>
 Z0 (Zi w (.bool true) C) fun g=>
 Z0 (Z8 g false (.tuple []) (Z6 0 z.1)) fun D=>
 Z0 (Z8 g false (.tuple []) (Z4 true 5 D j.2)) fun E=>
 Z0 (Z8 g false (.tuple []) (Z6 5 z.1)) fun F=>
 Z0 (Z8 g false (.tuple []) (Z4 true 2 F j.2)) fun I=>
 Z0 (Z8 g false (.tuple []) (some p1)) fun J=>
 Z0 (Z8 g false ((.tuple []),j.2) (Zf Hd [E,I,J] j.2)) fun y=>
 Z0 (Z8 g false (.tuple []) (Z5 .neq y.1 (.int .i64 0))) fun K=>
 Z0 (Zi g (.bool true) K) fun L=>
 Zl L
 (Z0 (Zf Hb [] y.2) fun A=>
 some (A.1,A.2))
 (FU p1 z.1 H y.2)
theorem Sj:FV x1 x2 x5 H0 H =
 Z0 (Zf Dx [] (H++[.free])) fun j=>
 Z0 (Z6 0 x2) fun J=>
 Z0 (Z4 true 5 J j.2) fun K=>
 Z0 (Z6 5 x2) fun L=>
 Z0 (Z4 true 2 L j.2) fun M=>
 Z0 (Ty [x5,j.1,K,M,x1] j.2) fun u=>
 Z0 (ZQ u.1 0) fun N=>
 Z0 (ZQ u.1 1) fun O=>
 Z0 (ZQ u.1 2) fun Q=>
 Z0 (KO (H.length+0) (some (.cells [(.int .i64 0),(.int .i64 0),(.int .i64 0),(.int .i64 0)])) u.2) fun r7=>
 Z0 (Ze 4 r7.1 O r7.2) fun F=>
 Z0 (V5 [x5,(.str [100,97,116,97]),(.int .i64 0),(.int .i64 10)] F.2) fun z=>
 Z0 (ZQ z.1 0) fun R=>
 Z0 (ZQ z.1 1) fun S=>
 Z0 (QN XV [x5] z.2) fun A=>
 Z0 (Z5 .eql Q (.int .i64 0)) fun g=>
 Z0 (Z8 g true (.tuple []) (some N)) fun T=>
 Z0 (Z8 g true ((.tuple []),A.2) (Zf Dx [] A.2)) fun w=>
 Z0 (Z8 g true (.tuple []) (Z6 0 x2)) fun U=>
 Z0 (Z8 g true (.tuple []) (Z4 true 5 U w.2)) fun V=>
 Z0 (Z8 g true (.tuple []) (some x1)) fun W=>
 Z0 (Z8 g true ((.tuple []),w.2) (Zf QA [w.1,V,W] w.2)) fun B=>
 Z0 (Z8 g true ((.tuple []),B.2) (Zf Is [T,B.1] B.2)) fun C=>
 Z0 (Zi g C.1 (.bool false)) fun D=>
 Z0 (Z8 D true (.tuple []) (some S)) fun t70=>
 Z0 (Z8 D true (.tuple []) (Z5 .eql t70 (.int .i64 0))) fun X=>
 Z0 (Zi D X (.bool false)) fun t72=>
 Z0 (Z8 t72 true (.tuple []) (some R)) fun Y=>
 Z0 (Z8 t72 true (.tuple []) (YK .eql Y (.str [107,101,112,116]))) fun Z=>
 Z0 (Zi t72 Z (.bool false)) fun y=>
 Z0 (Z8 y true (.tuple []) (some A.1)) fun aa=>
 Z0 (Z8 y true (.tuple []) (Zk (.slice 108) aa)) fun ab=>
 Z0 (Z8 y true (.tuple []) (Z5 .eql ab (.int .i64 1))) fun ac=>
 Z0 (Zi y ac (.bool false)) fun I=>
 Z0 (Z8 I true ((.tuple []),C.2) (Zf Hb [] C.2)) fun E=>
 Z0 (Zi I E.1 (.bool false)) fun ad=>
 some (ad,E.2):=Za [3,6]
theorem Si:FU x1 x2 H0 H =
 Z0 (Hg [(.int .i64 262144)] H) fun g=>
 Z0 (Wc [g.1,(.str [100,97,116,97])] g.2) fun u=>
 Z0 (Z5 .neq u.1 (.int .i64 0)) fun j=>
 Z0 (Z8 j false (.tuple []) (some g.1)) fun y=>
 Z0 (Z8 j false ((.tuple []),u.2) (Wb [y,(.str [100,97,116,97]),(.str [107,101,112,116])] u.2)) fun w=>
 Z0 (Z8 j false (.tuple []) (Z5 .neq w.1 (.int .i64 0))) fun t37=>
 Z0 (Zi j (.bool true) t37) fun z=>
 Zl z
 (some ((.bool false),w.2))
 (FV x1 x2 g.1 H0 w.2):=Za [3,6]
theorem Hh:RQ [p0,p1] H=RR p0 p1 H:=Be 85 [3,6] Tryz.func6
def Zg2:Z3:=CZ 30 23 (sub (Z1 Tryz.f30) [1,1]) (Zh cfg 23 30 Tryz.f30 H0) [(0,x0)] H
def MC:KL:=Zc (Zzk 30 23 Tryz.f30 [1,1]) (Zh cfg 23 30 Tryz.f30 H0)
theorem Zg5:ZW 23 (MC H0):=Zy (C:=cfg) (kp:=cfg.keep 30) (sub (Z1 Tryz.f30) [1,1]) (ZB 30 Tryz.f30 H0)
def Zg4:Z3:=CZ 30 23 (sub (Z1 Tryz.f30) [1,0,1,0,0,1,1]) (Zc (ZoX 30 23 Tryz.f30 [1,0,1,0,0]) (Z7 0 (MC H0))) [(0,x0),(3,x3)] H
def Zg3:Z3:=CZ 30 23 (sub (Z1 Tryz.f30) [1,0,1,0,0,1]) (Zc (ZoX 30 23 Tryz.f30 [1,0,1,0,0]) (Z7 0 (MC H0))) [(0,x0),(3,x3)] H
def MD:Z3:=ZuA 30 23 (sub (Z1 Tryz.f30) [1,0,1,0,0]) (Z7 0 (MC H0)) [(0,x0),(3,x3)] H
def ZiW:Z3:=
 MD p0 (.int .i64 0) H H
theorem OV:Zg2 x0 H0 H =
 Z0 (Zk (.slice 9) x0) fun g=>
 Z0 (Z5 .leq g (.int .i64 40)) fun j=>
 some (j,H):=Za [3,4,6]
theorem ZjV:Zg4 x0 x3 H0 H =
 Z0 (Z5 .add x3 (.int .i64 1)) fun g=>
 MD x0 g H0 H:=Za [3,4,6]
theorem OW:Zg3 x0 x3 H0 H =
 Z0 (Zo 1 x0 x3) fun g=>
 Z0 (Z4 false 1 g H) fun j=>
 Z0 (Zk .string j) fun u=>
 Z0 (Z5 .gtr u (.int .i64 200)) fun w=>
 Zl w
 (some ((.bool false),H))
 (Zg4 x0 x3 H0 H):=Za [3,4,6]
theorem Dz:MD x0 x3 H0 H =
 Z0 (Zk (.slice 9) x0) fun w=>
 Z0 (Z5 .lss x3 w) fun u=>
 Z0 (Z8 u true (.tuple []) (some x3)) fun t9=>
 Z0 (Z8 u true (.tuple []) (Z5 .lss t9 (.int .i64 41))) fun g=>
 Z0 (Zi u g (.bool false)) fun j=>
 Zl j
 (Zg3 x0 x3 H0 H)
 (Zg2 x0 H0 H):=(ZD (C:=cfg) [3,4,6] (Zn 0 (Zg5 H0)) _ _).trans (by kernel_rfl)
theorem ZkC:Zbc [p0] H=ZiW p0 H:=Be 23 [3,4,6] Tryz.func30
def Ze7:Z3:=
 Z0 (ZM p0 H) fun g=>
 Z0 (Z6 0 g.1) fun t3=>
 Z0 (Z6 0 t3) fun t4=>
 Z0 (Z4 false 1 t4 g.2) fun t5=>
 Z0 (Zk (.slice 119) t5) fun j=>
 Z0 (Z5 .leq j (.int .i64 10)) fun u=>
 some (u,g.2)
theorem ZhW:Hc [p0] H=Ze7 p0 H:=Be 8 [] Tryz.func31
def Zel:Z3:=CZ 34 26 (sub (Z1 Tryz.f34) [1,1,1]) (Zh cfg 26 34 Tryz.f34 H0) [] H
def Pt:KL:=Zc (Zzk 34 26 Tryz.f34 [1,1,1]) (Zh cfg 26 34 Tryz.f34 H0)
theorem ZeR:ZW 26 (Pt H0):=Zy (C:=cfg) (kp:=cfg.keep 34) (sub (Z1 Tryz.f34) [1,1,1]) (ZB 34 Tryz.f34 H0)
def Zen:Z3:=CZ 34 26 (sub (Z1 Tryz.f34) [1,1,0,1,0,0,1,1]) (Zc (ZoX 34 26 Tryz.f34 [1,1,0,1,0,0]) (Z7 0 (Pt H0))) [(0,x0),(1,x1),(5,x5)] H
def Zem:Z3:=CZ 34 26 (sub (Z1 Tryz.f34) [1,1,0,1,0,0,1]) (Zc (ZoX 34 26 Tryz.f34 [1,1,0,1,0,0]) (Z7 0 (Pt H0))) [(0,x0),(1,x1),(5,x5)] H
def Pu:Z3:=ZuA 34 26 (sub (Z1 Tryz.f34) [1,1,0,1,0,0]) (Z7 0 (Pt H0)) [(0,x0),(1,x1),(5,x5)] H
def Zek:Z3:=CZ 34 26 (sub (Z1 Tryz.f34) [1,1]) (Zh cfg 26 34 Tryz.f34 H0) [(0,x0),(1,x1)] H
def ZfT:Z3:=
 Z0 (Zk (.slice 9) p0) fun j=>
 Z0 (Zk (.slice 9) p1) fun t9=>
 Z0 (Z5 .neq j t9) fun g=>
 Zl g
 (some ((.bool false),H))
 (Zek p0 p1 H H)
theorem Zia:Zel H0 H =
 some ((.bool true),H):=Za [3,5,6,8]
theorem Zic:Zen x0 x1 x5 H0 H =
 Z0 (Z5 .add x5 (.int .i64 1)) fun g=>
 Pu x0 x1 g H0 H:=Za [3,5,6,8]
theorem Zib:Zem x0 x1 x5 H0 H =
 Z0 (Zo 1 x0 x5) fun g=>
 Z0 (Z4 false 1 g H) fun j=>
 Z0 (Zo 1 x1 x5) fun u=>
 Z0 (Z4 false 1 u H) fun w=>
 Z0 (YK .neq j w) fun y=>
 Zl y
 (some ((.bool false),H))
 (Zen x0 x1 x5 H0 H):=Za [3,5,6,8]
theorem AB:Pu x0 x1 x5 H0 H =
 Z0 (Zk (.slice 9) x0) fun g=>
 Z0 (Z5 .lss x5 g) fun j=>
 Zl j
 (Zem x0 x1 x5 H0 H)
 (Zel H0 H):=(ZD (C:=cfg) [3,5,6,8] (Zn 0 (ZeR H0)) _ _).trans (by kernel_rfl)
theorem Zi9:Zek x0 x1 H0 H =
 Pu x0 x1 (.int .i64 0) H0 H:=Za [3,5,6,8]
theorem ZjU:Is [p0,p1] H=ZfT p0 p1 H:=Be 26 [3,5,6,8] Tryz.func34
end
end Go.Am
