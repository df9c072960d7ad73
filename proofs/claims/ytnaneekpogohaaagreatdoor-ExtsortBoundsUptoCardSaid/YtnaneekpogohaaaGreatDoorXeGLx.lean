/- The functions of the translation over the abstract machine -/
import Derived.Test.YtnaneekpogohaaaGreatDoorXeGx
namespace Go.Am
open Go.Proofs
set_option maxRecDepth 100000
noncomputable abbrev Zbj (f n:Nat):=Yc cfg (Z9 cfg) (Y7 cfg (cfg.keep f) n) (cfg.keep f) n Zc Z7
noncomputable abbrev ZuH (f n:Nat):=Y7 cfg (cfg.keep f) n
noncomputable section
abbrev Zzn (f n:Nat)(F:Func)(p:List Nat):KL->AL->Hp->Z4:=fun k g H=>Zbj f n (sub (Z1 F) p) k (ZW (cfg.keep f) (sub (Z1 F) p) g) H
abbrev Zp0 (f n:Nat)(F:Func)(p:List Nat):KL->AL->Hp->Z4:=fun k g H=>ZuH f n (sub (Z1 F) p) k (ZW (cfg.keep f) (sub (Z1 F) p) g) H
variable (p0 p1 x0 x1 x2 x3 x6 x7 x8 x9 x10:AV)(H0 H:Hp)
def J0:Z4:=Zbj 8 101 (sub (Z1 Tryz.f8) [1,1,1,1,1,1]) (Zh cfg 101 8 Tryz.f8 H0) [(2,x2),(6,x6),(7,x7),(8,x8),(9,x9)] H
def VA:KL:=Zc (Zzn 8 101 Tryz.f8 [1,1,1,1,1,1]) (Zh cfg 101 8 Tryz.f8 H0)
theorem MB:ZX 101 (VA H0):=Zx (C:=cfg) (kp:=cfg.keep 8) (sub (Z1 Tryz.f8) [1,1,1,1,1,1]) (ZA 8 Tryz.f8 H0)
def FZ:Z4:=Zbj 8 101 (sub (Z1 Tryz.f8) [1,1,1,1,1,0,1,0,0,1,1]) (Zc (Zp0 8 101 Tryz.f8 [1,1,1,1,1,0,1,0,0]) (Z7 0 (VA H0))) [(1,x1),(2,x2),(6,x6),(7,x7),(8,x8),(9,x9),(10,x10)] H
def FY:Z4:=Zbj 8 101 (sub (Z1 Tryz.f8) [1,1,1,1,1,0,1,0,0,1]) (Zc (Zp0 8 101 Tryz.f8 [1,1,1,1,1,0,1,0,0]) (Z7 0 (VA H0))) [(1,x1),(2,x2),(6,x6),(7,x7),(8,x8),(9,x9),(10,x10)] H
def VB:Z4:=ZuH 8 101 (sub (Z1 Tryz.f8) [1,1,1,1,1,0,1,0,0]) (Z7 0 (VA H0)) [(1,x1),(2,x2),(6,x6),(7,x7),(8,x8),(9,x9),(10,x10)] H
def FX:Z4:=Zbj 8 101 (sub (Z1 Tryz.f8) [1,1]) (Zh cfg 101 8 Tryz.f8 H0) [(1,x1),(2,x2)] H
def RW:Z4:=
 Z0 (ZN p0 H) fun z=>
 Z0 (Zf Zbk [p1] z.2) fun u=>
 Z0 (Xk .not u.1) fun w=>
 Z0 (Z8 w false (.tuple []) (Z3 true 7 z.1 u.2)) fun B=>
 Z0 (Z8 w false ((.tuple []),u.2) (Zf Hh [B] u.2)) fun j=>
 Z0 (Z8 w false (.tuple []) (Xk .not j.1)) fun C=>
 Z0 (Zj w (.bool true) C) fun g=>
 Z0 (Z8 g false (.tuple []) (Z6 0 z.1)) fun D=>
 Z0 (Z8 g false (.tuple []) (Z3 true 5 D j.2)) fun E=>
 Z0 (Z8 g false (.tuple []) (Z6 5 z.1)) fun F=>
 Z0 (Z8 g false (.tuple []) (Z3 true 2 F j.2)) fun I=>
 Z0 (Z8 g false (.tuple []) (some p1)) fun J=>
 Z0 (Z8 g false ((.tuple []),j.2) (Zf Hi [E,I,J] j.2)) fun y=>
 Z0 (Z8 g false (.tuple []) (Z5 .neq y.1 (.int .i64 0))) fun K=>
 Z0 (Zj g (.bool true) K) fun L=>
 Zk L
 (Z0 (Zf Hg [] y.2) fun A=>
 some (A.1,A.2))
 (FX p1 z.1 H y.2)
theorem Si:J0 x2 x6 x7 x8 x9 H0 H =
 Z0 (Z6 5 x2) fun B=>
 Z0 (Z3 true 2 B H) fun C=>
 Z0 (Zf Tx [x9,C] H) fun j=>
 Z0 (ZQ j.1 0) fun t70=>
 Z0 (ZQ j.1 1) fun D=>
 Z0 (Z5 .eql x7 (.int .i64 0)) fun g=>
 Z0 (Z8 g true (.tuple []) (Z6 2 x6)) fun E=>
 Z0 (Z8 g true (.tuple []) (Z3 false 1 E j.2)) fun F=>
 Z0 (Z8 g true (.tuple []) (Z6 5 x2)) fun I=>
 Z0 (Z8 g true (.tuple []) (Z6 0 I)) fun J=>
 Z0 (Z8 g true (.tuple []) (Z3 false 1 J j.2)) fun K=>
 Z0 (Z8 g true (.tuple []) (some x8)) fun L=>
 Z0 (Z8 g true (.tuple []) (Ql K L)) fun M=>
 Z0 (Z8 g true (.tuple []) (Z5 .leq F M)) fun N=>
 Z0 (Zj g N (.bool false)) fun w=>
 Z0 (Z8 w true (.tuple []) (Z6 0 x6)) fun O=>
 Z0 (Z8 w true (.tuple []) (Z3 false 1 O j.2)) fun Q=>
 Z0 (Z8 w true (.tuple []) (some t70)) fun R=>
 Z0 (Z8 w true (.tuple []) (Z5 .eql Q R)) fun S=>
 Z0 (Zj w S (.bool false)) fun u=>
 Z0 (Z8 u true (.tuple []) (some D)) fun T=>
 Z0 (Z8 u true (.tuple []) (Z5 .eql T (.int .i64 0))) fun U=>
 Z0 (Z8 u true (.tuple []) (Z6 1 x6)) fun V=>
 Z0 (Z8 u true (.tuple []) (Z3 false 1 V j.2)) fun W=>
 Z0 (Z8 u true (.tuple []) (Z5 .eql W (.int .i64 0))) fun X=>
 Z0 (Z8 u true (.tuple []) (Yy .bool .eql U X)) fun Y=>
 Z0 (Zj u Y (.bool false)) fun A=>
 Z0 (Z8 A true ((.tuple []),j.2) (Zf Hg [] j.2)) fun y=>
 Z0 (Zj A y.1 (.bool false)) fun z=>
 some (z,y.2):=Za [3,8,9,11]
theorem Sk:FZ x1 x2 x6 x7 x8 x9 x10 H0 H =
 Z0 (Z5 .add x10 (.int .i64 1)) fun g=>
 VB x1 x2 x6 x7 x8 x9 g H0 H:=Za [3,8,9,11]
theorem Sj:FY x1 x2 x6 x7 x8 x9 x10 H0 H =
 Z0 (Zp 1 x1 x10) fun j=>
 Z0 (Z3 false 1 j H) fun u=>
 Z0 (Zl .string u) fun w=>
 Z0 (Z5 .add w (.int .i64 16)) fun y=>
 Z0 (Ql x8 y) fun z=>
 Z0 (Zp 1 x1 x10) fun A=>
 Z0 (Z3 false 1 A H) fun B=>
 Z0 (Zl .string B) fun C=>
 Z0 ((ZE 1 [(0,C)] [(.int .i64 0)]).map (.vs 1 .clip)) fun D=>
 Z0 (Ym 1 8 x9 D H) fun g=>
 FZ x1 x2 x6 x7 z g.1 x10 H0 g.2:=Za [3,8,9,11]
theorem GF:VB x1 x2 x6 x7 x8 x9 x10 H0 H =
 Z0 (Zl (.slice 9) x1) fun g=>
 Z0 (Z5 .lss x10 g) fun j=>
 Zk j
 (FY x1 x2 x6 x7 x8 x9 x10 H0 H)
 (J0 x2 x6 x7 x8 x9 H0 H):=(ZD (C:=cfg) [3,8,9,11] (Zm 0 (MB H0)) _ _).trans (by kernel_rfl)
theorem Sh:FX x1 x2 H0 H =
 WS x2 H fun F y=>
 Z0 (Hm [(.int .i64 262144)] (y++[.free])) fun j=>
 Z0 (Zf Nk [] j.2) fun u=>
 Z0 (Z6 0 F) fun A=>
 Z0 (Wf true 5 A) fun B=>
 Z0 (Z6 5 F) fun C=>
 Z0 (Wf true 2 C) fun t37=>
 Z0 (Ty [j.1,u.1,B,t37,x1] u.2) fun g=>
 Z0 (ZQ g.1 0) fun I=>
 Z0 (ZQ g.1 1) fun D=>
 Z0 (ZQ g.1 2) fun E=>
 Z0 (KN (y.length+0) (some (.cells [(.int .i64 0),(.int .i64 0),(.int .i64 0),(.int .i64 0)])) g.2) fun z=>
 Z0 (Ze 4 z.1 D z.2) fun w=>
 VB x1 F z.1 E (.int .i64 0) .nils (.int .i64 0) H0 w.2:=Za [3,8,9,11]
theorem Hn:RV [p0,p1] H=RW p0 p1 H:=Be 101 [3,8,9,11] Tryz.func8
def Zgc:Z4:=Zbj 30 23 (sub (Z1 Tryz.f30) [1,1]) (Zh cfg 23 30 Tryz.f30 H0) [(0,x0)] H
def MC:KL:=Zc (Zzn 30 23 Tryz.f30 [1,1]) (Zh cfg 23 30 Tryz.f30 H0)
theorem Zgf:ZX 23 (MC H0):=Zx (C:=cfg) (kp:=cfg.keep 30) (sub (Z1 Tryz.f30) [1,1]) (ZA 30 Tryz.f30 H0)
def Zge:Z4:=Zbj 30 23 (sub (Z1 Tryz.f30) [1,0,1,0,0,1,1]) (Zc (Zp0 30 23 Tryz.f30 [1,0,1,0,0]) (Z7 0 (MC H0))) [(0,x0),(3,x3)] H
def Zgd:Z4:=Zbj 30 23 (sub (Z1 Tryz.f30) [1,0,1,0,0,1]) (Zc (Zp0 30 23 Tryz.f30 [1,0,1,0,0]) (Z7 0 (MC H0))) [(0,x0),(3,x3)] H
def MD:Z4:=ZuH 30 23 (sub (Z1 Tryz.f30) [1,0,1,0,0]) (Z7 0 (MC H0)) [(0,x0),(3,x3)] H
def Zj3:Z4:=
 MD p0 (.int .i64 0) H H
theorem OZ:Zgc x0 H0 H =
 Z0 (Zl (.slice 9) x0) fun g=>
 Z0 (Z5 .leq g (.int .i64 40)) fun j=>
 some (j,H):=Za [3,4,6]
theorem Zk0:Zge x0 x3 H0 H =
 Z0 (Z5 .add x3 (.int .i64 1)) fun g=>
 MD x0 g H0 H:=Za [3,4,6]
theorem Za0:Zgd x0 x3 H0 H =
 Z0 (Zp 1 x0 x3) fun g=>
 Z0 (Z3 false 1 g H) fun j=>
 Z0 (Zl .string j) fun u=>
 Z0 (Z5 .gtr u (.int .i64 200)) fun w=>
 Zk w
 (some ((.bool false),H))
 (Zge x0 x3 H0 H):=Za [3,4,6]
theorem DC:MD x0 x3 H0 H =
 Z0 (Zl (.slice 9) x0) fun w=>
 Z0 (Z5 .lss x3 w) fun u=>
 Z0 (Z8 u true (.tuple []) (some x3)) fun t9=>
 Z0 (Z8 u true (.tuple []) (Z5 .lss t9 (.int .i64 41))) fun g=>
 Z0 (Zj u g (.bool false)) fun j=>
 Zk j
 (Zgd x0 x3 H0 H)
 (Zgc x0 H0 H):=(ZD (C:=cfg) [3,4,6] (Zm 0 (Zgf H0)) _ _).trans (by kernel_rfl)
theorem ZkE:Zbk [p0] H=Zj3 p0 H:=Be 23 [3,4,6] Tryz.func30
def Zel:Z4:=
 Z0 (ZN p0 H) fun g=>
 Z0 (Z6 0 g.1) fun t3=>
 Z0 (Z6 0 t3) fun t4=>
 Z0 (Z3 false 1 t4 g.2) fun t5=>
 Z0 (Zl (.slice 119) t5) fun j=>
 Z0 (Z5 .leq j (.int .i64 10)) fun u=>
 some (u,g.2)
theorem Zi7:Hh [p0] H=Zel p0 H:=Be 8 [] Tryz.func31
end
end Go.Am
