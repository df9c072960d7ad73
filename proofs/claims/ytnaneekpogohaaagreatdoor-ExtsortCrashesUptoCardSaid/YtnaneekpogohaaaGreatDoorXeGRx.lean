/- The functions of the translation over the abstract machine -/
import Derived.Test.YtnaneekpogohaaaGreatDoorXeGx
open Go.Am.AV renaming int->J
open Go.IntKind renaming i64->zA
namespace Go.Am
open Go.Proofs
set_option maxRecDepth 100000
noncomputable abbrev Zgc (f n:Nat):=Yn cfg (Zb cfg) (Y5 cfg (cfg.keep f) n) (cfg.keep f) n Zc Z8
noncomputable abbrev ZyE (f n:Nat):=Y5 cfg (cfg.keep f) n
noncomputable section
abbrev ZzZ (f n:Nat)(F:Func)(p:List Nat):KL->AL->Hp->Z5:=fun k g H=>Zgc f n (sub (Z1 F) p) k (Y4 (cfg.keep f) (sub (Z1 F) p) g) H
abbrev ZyG (f n:Nat)(F:Func)(p:List Nat):KL->AL->Hp->Z5:=fun k g H=>ZyE f n (sub (Z1 F) p) k (Y4 (cfg.keep f) (sub (Z1 F) p) g) H
variable (p0 p1 p2 x2 x4 x8:AV)(H0 H:Hp)
abbrev bw:List Nat:=[4,6,8,10,11,13]
def Zd4:Z5:=Zgc 12 32 (sub (Z1 Tryz.f12) [1,1,1,1,1]) (Zf cfg 32 12 Tryz.f12 H0) [] H
def RK:KL:=Zc (ZzZ 12 32 Tryz.f12 [1,1,1,1,1]) (Zf cfg 32 12 Tryz.f12 H0)
theorem Zfb:ZS 32 (RK H0):=Zw (C:=cfg) (kp:=cfg.keep 12) (sub (Z1 Tryz.f12) [1,1,1,1,1]) (Zz 12 Tryz.f12 H0)
def Zd6:Z5:=Zgc 12 32 (sub (Z1 Tryz.f12) [1,1,1,1,0,1,0,0,1,1]) (Zc (ZyG 12 32 Tryz.f12 [1,1,1,1,0,1,0,0]) (Z8 0 (RK H0))) [(2,x2),(8,x8)] H
def Zd5:Z5:=Zgc 12 32 (sub (Z1 Tryz.f12) [1,1,1,1,0,1,0,0,1]) (Zc (ZyG 12 32 Tryz.f12 [1,1,1,1,0,1,0,0]) (Z8 0 (RK H0))) [(2,x2),(8,x8)] H
def RL:Z5:=ZyE 12 32 (sub (Z1 Tryz.f12) [1,1,1,1,0,1,0,0]) (Z8 0 (RK H0)) [(2,x2),(8,x8)] H
def Zd3:Z5:=Zgc 12 32 (sub (Z1 Tryz.f12) [1,1,1,1]) (Zf cfg 32 12 Tryz.f12 H0) [(2,x2)] H
def Zd2:Z5:=Zgc 12 32 (sub (Z1 Tryz.f12) [1,1,1]) (Zf cfg 32 12 Tryz.f12 H0) [(2,x2)] H
def Zd1:Z5:=Zgc 12 32 (sub (Z1 Tryz.f12) [1,1]) (Zf cfg 32 12 Tryz.f12 H0) [(2,x2),(4,x4)] H
def Zfy:Z5:=
 Z0 (ZO p0 H) fun u=>
 Z0 (ZO p1 u.2) fun h=>
 Z0 (Z3 true 5 u.1 h.2) fun t9=>
 Z0 (Zh PY [t9] h.2) fun g=>
 Z0 (Z4 .neq g.1 (J zA 0)) fun j=>
 Zj j
 (some (g.1,g.2))
 (Zd1 p2 h.1 H g.2)
theorem ZhI:Zd4 H0 H =
 some ((J zA 0),H):=Z9 bw
theorem ZhJ:Zd6 x2 x8 H0 H =
 Z0 (Z4 .add x8 (J zA 1)) fun g=>
 RL x2 g H0 H:=Z9 bw
theorem CZ:Zd5 x2 x8 H0 H =
 Z0 (Zo 1 x2 x8) fun g=>
 Z0 (Z3 false 1 g H) fun h=>
 Z0 (Zk .string h) fun j=>
 Z0 (Z4 .gtr j (J zA 4096)) fun u=>
 Zj u
 (some ((J zA 3),H))
 (Zd6 x2 x8 H0 H):=Z9 bw
theorem Hh:RL x2 x8 H0 H =
 Z0 (Zk (.slice 9) x2) fun g=>
 Z0 (Z4 .lss x8 g) fun h=>
 Zj h
 (Zd5 x2 x8 H0 H)
 (Zd4 H0 H):=(ZC (C:=cfg) [4,6,8,10,11,13] (Zn 0 (Zfb H0)) _ _).trans (by kernel_rfl)
theorem ZhH:Zd3 x2 H0 H =
 RL x2 (J zA 0) H0 H:=Z9 bw
theorem CY:Zd2 x2 H0 H =
 Z0 (Zk (.slice 9) x2) fun g=>
 Z0 (Z4 .gtr g (J zA 8192)) fun h=>
 Zj h
 (some ((J zA 3),H))
 (Zd3 x2 H0 H):=Z9 bw
theorem RJ:Zd1 x2 x4 H0 H =
 Z0 (Z3 true 2 x4 H) fun h=>
 Z0 (Zh As [h] H) fun g=>
 Z0 (Xm .not g.1) fun j=>
 Zj j
 (some ((J zA 2),g.2))
 (Zd2 x2 H0 g.2):=Z9 bw
theorem Zjh:Ar [p0,p1,p2] H=Zfy p0 p1 p2 H:=Be 32 [4,6,8,10,11,13] Tryz.func12
def Zfz:Z5:=
 Z0 (ZO p0 H) fun g=>
 Z0 (Z6 0 g.1) fun t3=>
 Z0 (Z3 false 1 t3 g.2) fun t4=>
 Z0 (Z4 .geq t4 (J zA 64)) fun t5=>
 Z0 (Z7 t5 true am (Z6 0 g.1)) fun D=>
 Z0 (Z7 t5 true am (Z3 false 1 D g.2)) fun E=>
 Z0 (Z7 t5 true am (Z4 .leq E (J zA 65536))) fun t9=>
 Z0 (Zi t5 t9 (.bool false)) fun h=>
 Z0 (Z7 h true am (Z6 1 g.1)) fun u=>
 Z0 (Z7 h true am (Z3 false 1 u g.2)) fun w=>
 Z0 (Z7 h true am (Z4 .geq w (J zA 2))) fun y=>
 Z0 (Zi h y (.bool false)) fun j=>
 Z0 (Z7 j true am (Z6 1 g.1)) fun z=>
 Z0 (Z7 j true am (Z3 false 1 z g.2)) fun A=>
 Z0 (Z7 j true am (Z4 .leq A (J zA 32))) fun B=>
 Z0 (Zi j B (.bool false)) fun C=>
 some (C,g.2)
theorem Zji:As [p0] H=Zfz p0 H:=Be 21 [] Tryz.func38
end
end Go.Am
