/- The functions of the translation over the abstract machine -/
import Derived.Test.YtnaneekpogohaaaGreatDoorXeGx
open Go.Am.AV renaming int->zA
open Go.IntKind renaming i64->J
namespace Go.Am
open Go.Proofs
set_option maxRecDepth 100000
noncomputable abbrev Zf5 (f n:Nat):=Yl cfg (Za cfg) (Y4 cfg (cfg.keep f) n) (cfg.keep f) n Zc Z6
noncomputable abbrev Zxb (f n:Nat):=Y4 cfg (cfg.keep f) n
noncomputable section
abbrev Zyu (f n:Nat)(F:Func)(p:List Nat):KL->AL->Hp->Z4:=fun k g H=>Zf5 f n (sub (Z1 F) p) k (Y3 (cfg.keep f) (sub (Z1 F) p) g) H
abbrev Zxd (f n:Nat)(F:Func)(p:List Nat):KL->AL->Hp->Z4:=fun k g H=>Zxb f n (sub (Z1 F) p) k (Y3 (cfg.keep f) (sub (Z1 F) p) g) H
variable (p0 p1 p2 x2 x4 x8:AV)(H0 H:Hp)
abbrev bk:List Nat:=[4,6,8,10,11,13]
def ZbZ:Z4:=Zf5 12 32 (sub (Z1 Tryz.f12) [1,1,1,1,1]) (Zg cfg 32 12 Tryz.f12 H0) [] H
def Rl:KL:=Zc (Zyu 12 32 Tryz.f12 [1,1,1,1,1]) (Zg cfg 32 12 Tryz.f12 H0)
theorem Ze6:ZR 32 (Rl H0):=Zw (C:=cfg) (kp:=cfg.keep 12) (sub (Z1 Tryz.f12) [1,1,1,1,1]) (ZB 12 Tryz.f12 H0)
def Zc1:Z4:=Zf5 12 32 (sub (Z1 Tryz.f12) [1,1,1,1,0,1,0,0,1,1]) (Zc (Zxd 12 32 Tryz.f12 [1,1,1,1,0,1,0,0]) (Z6 0 (Rl H0))) [(2,x2),(8,x8)] H
def Zc0:Z4:=Zf5 12 32 (sub (Z1 Tryz.f12) [1,1,1,1,0,1,0,0,1]) (Zc (Zxd 12 32 Tryz.f12 [1,1,1,1,0,1,0,0]) (Z6 0 (Rl H0))) [(2,x2),(8,x8)] H
def Rm:Z4:=Zxb 12 32 (sub (Z1 Tryz.f12) [1,1,1,1,0,1,0,0]) (Z6 0 (Rl H0)) [(2,x2),(8,x8)] H
def ZbY:Z4:=Zf5 12 32 (sub (Z1 Tryz.f12) [1,1,1,1]) (Zg cfg 32 12 Tryz.f12 H0) [(2,x2)] H
def ZbX:Z4:=Zf5 12 32 (sub (Z1 Tryz.f12) [1,1,1]) (Zg cfg 32 12 Tryz.f12 H0) [(2,x2)] H
def ZbW:Z4:=Zf5 12 32 (sub (Z1 Tryz.f12) [1,1]) (Zg cfg 32 12 Tryz.f12 H0) [(2,x2),(4,x4)] H
def Zet:Z4:=
 Z0 (ZN p0 H) fun u=>
 Z0 (ZN p1 u.2) fun h=>
 Z0 (Z3 true 5 u.1 h.2) fun t9=>
 Z0 (Zf PB [t9] h.2) fun g=>
 Z0 (Z5 .neq g.1 (zA J 0)) fun j=>
 Zj j
 (some (g.1,g.2))
 (ZbW p2 h.1 H g.2)
theorem Zgx:ZbZ H0 H =
 some ((zA J 0),H):=Z9 bk
theorem Zgy:Zc1 x2 x8 H0 H =
 Z0 (Z5 .add x8 (zA J 1)) fun g=>
 Rm x2 g H0 H:=Z9 bk
theorem SX:Zc0 x2 x8 H0 H =
 Z0 (Zo 1 x2 x8) fun g=>
 Z0 (Z3 false 1 g H) fun h=>
 Z0 (Zk .string h) fun j=>
 Z0 (Z5 .gtr j (zA J 4096)) fun u=>
 Zj u
 (some ((zA J 3),H))
 (Zc1 x2 x8 H0 H):=Z9 bk
theorem SY:Rm x2 x8 H0 H =
 Z0 (Zk (.slice 9) x2) fun g=>
 Z0 (Z5 .lss x8 g) fun h=>
 Zj h
 (Zc0 x2 x8 H0 H)
 (ZbZ H0 H):=(ZC (C:=cfg) [4,6,8,10,11,13] (Zn 0 (Ze6 H0)) _ _).trans (by kernel_rfl)
theorem Zgw:ZbY x2 H0 H =
 Rm x2 (zA J 0) H0 H:=Z9 bk
theorem SW:ZbX x2 H0 H =
 Z0 (Zk (.slice 9) x2) fun g=>
 Z0 (Z5 .gtr g (zA J 8192)) fun h=>
 Zj h
 (some ((zA J 3),H))
 (ZbY x2 H0 H):=Z9 bk
theorem Rk:ZbW x2 x4 H0 H =
 Z0 (Z3 true 2 x4 H) fun h=>
 Z0 (Zf Hc [h] H) fun g=>
 Z0 (Xv .not g.1) fun j=>
 Zj j
 (some ((zA J 2),g.2))
 (ZbX x2 H0 g.2):=Z9 bk
theorem Zi7:Hb [p0,p1,p2] H=Zet p0 p1 p2 H:=Be 32 [4,6,8,10,11,13] Tryz.func12
def Zeu:Z4:=
 Z0 (ZN p0 H) fun g=>
 Z0 (Z7 0 g.1) fun t3=>
 Z0 (Z3 false 1 t3 g.2) fun t4=>
 Z0 (Z5 .geq t4 (zA J 64)) fun t5=>
 Z0 (Z8 t5 true ak (Z7 0 g.1)) fun D=>
 Z0 (Z8 t5 true ak (Z3 false 1 D g.2)) fun E=>
 Z0 (Z8 t5 true ak (Z5 .leq E (zA J 65536))) fun t9=>
 Z0 (Zi t5 t9 (.bool false)) fun h=>
 Z0 (Z8 h true ak (Z7 1 g.1)) fun u=>
 Z0 (Z8 h true ak (Z3 false 1 u g.2)) fun w=>
 Z0 (Z8 h true ak (Z5 .geq w (zA J 2))) fun y=>
 Z0 (Zi h y (.bool false)) fun j=>
 Z0 (Z8 j true ak (Z7 1 g.1)) fun z=>
 Z0 (Z8 j true ak (Z3 false 1 z g.2)) fun A=>
 Z0 (Z8 j true ak (Z5 .leq A (zA J 32))) fun B=>
 Z0 (Zi j B (.bool false)) fun C=>
 some (C,g.2)
theorem Zi8:Hc [p0] H=Zeu p0 H:=Be 21 [] Tryz.func38
end
end Go.Am
