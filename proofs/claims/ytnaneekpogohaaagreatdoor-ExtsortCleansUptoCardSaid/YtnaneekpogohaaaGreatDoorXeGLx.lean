/- The functions of the translation over the abstract machine -/
import Derived.Test.YtnaneekpogohaaaGreatDoorXeGx
open Go.Am.AV renaming int->zA
open Go.IntKind renaming i64->J
namespace Go.Am
open Go.Proofs
set_option maxRecDepth 100000
noncomputable abbrev Lu (f n:Nat):=Yl cfg (Za cfg) (Y4 cfg (cfg.keep f) n) (cfg.keep f) n Zc Z6
noncomputable abbrev Zth (f n:Nat):=Y4 cfg (cfg.keep f) n
noncomputable section
abbrev Zx8 (f n:Nat)(F:Func)(p:List Nat):KL->AL->Hp->Z4:=fun k g H=>Lu f n (sub (Z1 F) p) k (Y3 (cfg.keep f) (sub (Z1 F) p) g) H
abbrev Zot (f n:Nat)(F:Func)(p:List Nat):KL->AL->Hp->Z4:=fun k g H=>Zth f n (sub (Z1 F) p) k (Y3 (cfg.keep f) (sub (Z1 F) p) g) H
variable (p0 p1 p2 x0 x1 x2 x3 x5 x8 x10:AV)(H0 H:Hp)
noncomputable abbrev bn (f n:Nat)(F:Func)(p:List Nat)(G:Hp):=fun k K=>Lu f n (sub (Z1 F) p) (Zg cfg n f F G) k K
def R8:Z4:=bn 7 85 Tryz.f7 [1,1,1,1,1,1] H0 [(1,x1),(3,x3),(8,x8)] H
def R7:Z4:=bn 7 85 Tryz.f7 [1,1,1,1,1] H0 [(1,x1),(3,x3),(8,x8),(10,x10)] H
def R6:Z4:=bn 7 85 Tryz.f7 [1,1] H0 [(1,x1),(2,x2),(3,x3)] H
def Ta:Z4:=
 Z0 (ZN p0 H) fun A=>
 Z0 (Zf Zbl [p1] A.2) fun j=>
 Z0 (Xv .not j.1) fun u=>
 Z0 (Z8 u false ak (Z3 true 7 A.1 j.2)) fun C=>
 Z0 (Z8 u false (ak,j.2) (Zf Ha [C] j.2)) fun h=>
 Z0 (Z8 u false ak (Xv .not h.1)) fun D=>
 Z0 (Zi u (.bool true) D) fun g=>
 Z0 (Z8 g false ak (Z7 0 A.1)) fun E=>
 Z0 (Z8 g false ak (Z3 true 5 E h.2)) fun F=>
 Z0 (Z8 g false ak (Z7 5 A.1)) fun K=>
 Z0 (Z8 g false ak (Z3 true 2 K h.2)) fun L=>
 Z0 (Z8 g false ak (some p1)) fun M=>
 Z0 (Z8 g false (ak,h.2) (Zf Hb [F,L,M] h.2)) fun w=>
 Z0 (Z8 g false ak (Z5 .neq w.1 (zA J 0))) fun N=>
 Z0 (Zi g (.bool true) N) fun y=>
 Z0 (Z8 y false ak (some p2)) fun O=>
 Z0 (Z8 y false ak (Z5 .lss O (zA J 0))) fun Q=>
 Z0 (Zi y (.bool true) Q) fun z=>
 Z0 (Z8 z false ak (some p2)) fun R=>
 Z0 (Z8 z false ak (Z5 .gtr R (zA J 10000))) fun S=>
 Z0 (Zi z (.bool true) S) fun T=>
 Zj T
 (Z0 (Zf Kp [] w.2) fun B=>
 some (B.1,B.2))
 (R6 p1 p2 A.1 H w.2)
theorem Sk:R8 x1 x3 x8 H0 H =
 Z0 (Zf UN [] H) fun h=>
 Z0 (Z7 0 x3) fun w=>
 Z0 (Z3 true 5 w h.2) fun y=>
 Z0 (Zf QS [h.1,y,x1] h.2) fun j=>
 Z0 (Zf Ik [x8,j.1] j.2) fun g=>
 Z0 (Z8 g.1 true (ak,g.2) (Zf Kp [] g.2)) fun u=>
 Z0 (Zi g.1 u.1 (.bool false)) fun z=>
 some (z,u.2):=Z9 [3,7,9]
theorem B6:R7 x1 x3 x8 x10 H0 H =
 Z0 (Z5 .neq x10 (zA J 0)) fun y=>
 Zj y
 (Z0 (Zk (.slice 9) x8) fun z=>
 Z0 (Z5 .eql z (zA J 0)) fun g=>
 Z0 (Z8 g true ak (some x10)) fun A=>
 Z0 (Z8 g true ak (Z5 .eql A (zA J 12))) fun B=>
 Z0 (Z8 g true ak (some B)) fun h=>
 Z0 (Z8 h false ak (some x10)) fun C=>
 Z0 (Z8 h false ak (Z5 .eql C (zA J 11))) fun D=>
 Z0 (Z8 g true ak (Zi h (.bool true) D)) fun E=>
 Z0 (Z8 g true ak (some E)) fun j=>
 Z0 (Z8 j false ak (some x10)) fun F=>
 Z0 (Z8 j false ak (Z5 .eql F (zA J 3))) fun K=>
 Z0 (Z8 g true ak (Zi j (.bool true) K)) fun t70=>
 Z0 (Zi g t70 (.bool false)) fun w=>
 Z0 (Z8 w true (ak,H) (Zf Kp [] H)) fun u=>
 Z0 (Zi w u.1 (.bool false)) fun L=>
 some (L,u.2))
 (R8 x1 x3 x8 H0 H):=Z9 [3,7,9]
theorem Sj:R6 x1 x2 x3 H0 H =
 Z0 (PG [x2] H) fun g=>
 Z0 (Zf UN [] (g.2++[.free])) fun h=>
 Z0 (Z7 0 x3) fun y=>
 Z0 (Z3 true 5 y h.2) fun z=>
 Z0 (Z7 5 x3) fun A=>
 Z0 (Z3 true 2 A h.2) fun B=>
 Z0 (Xp [g.1,h.1,z,B,x1] h.2) fun j=>
 Z0 (ZO j.1 0) fun C=>
 Z0 (ZO j.1 1) fun D=>
 Z0 (ZO j.1 2) fun E=>
 Z0 (Gk (g.2.length+0) (some (.cells [(zA J 0),(zA J 0),(zA J 0),(zA J 0)])) j.2) fun L=>
 Z0 (Zb 4 L.1 D L.2) fun w=>
 Z0 (G1 Xh [g.1] w.2) fun u=>
 Z0 (Zk (.slice 108) u.1) fun F=>
 Z0 (Z5 .neq F (zA J 0)) fun K=>
 Zj K
 (some ((.bool false),u.2))
 (R7 x1 x3 C E H0 u.2):=Z9 [3,7,9]
theorem He:T9 [p0,p1,p2] H=Ta p0 p1 p2 H:=Be 85 [3,7,9] Tryz.func7
def Zgd:Z4:=bn 30 23 Tryz.f30 [1,1] H0 [(0,x0)] H
def MP:KL:=Zc (Zx8 30 23 Tryz.f30 [1,1]) (Zg cfg 23 30 Tryz.f30 H0)
theorem Zgg:ZR 23 (MP H0):=Zw (C:=cfg) (kp:=cfg.keep 30) (sub (Z1 Tryz.f30) [1,1]) (ZB 30 Tryz.f30 H0)
def Zgf:Z4:=Lu 30 23 (sub (Z1 Tryz.f30) [1,0,1,0,0,1,1]) (Zc (Zot 30 23 Tryz.f30 [1,0,1,0,0]) (Z6 0 (MP H0))) [(0,x0),(3,x3)] H
def Zge:Z4:=Lu 30 23 (sub (Z1 Tryz.f30) [1,0,1,0,0,1]) (Zc (Zot 30 23 Tryz.f30 [1,0,1,0,0]) (Z6 0 (MP H0))) [(0,x0),(3,x3)] H
def MQ:Z4:=Zth 30 23 (sub (Z1 Tryz.f30) [1,0,1,0,0]) (Z6 0 (MP H0)) [(0,x0),(3,x3)] H
def ZiW:Z4:=
 MQ p0 (zA J 0) H H
theorem Za4:Zgd x0 H0 H =
 Z0 (Zk (.slice 9) x0) fun g=>
 Z0 (Z5 .leq g (zA J 40)) fun h=>
 some (h,H):=Z9 [3,4,6]
theorem ZjU:Zgf x0 x3 H0 H =
 Z0 (Z5 .add x3 (zA J 1)) fun g=>
 MQ x0 g H0 H:=Z9 [3,4,6]
theorem Za5:Zge x0 x3 H0 H =
 Z0 (Zo 1 x0 x3) fun g=>
 Z0 (Z3 false 1 g H) fun h=>
 Z0 (Zk .string h) fun j=>
 Z0 (Z5 .gtr j (zA J 200)) fun u=>
 Zj u
 (some ((.bool false),H))
 (Zgf x0 x3 H0 H):=Z9 [3,4,6]
theorem DU:MQ x0 x3 H0 H =
 Z0 (Zk (.slice 9) x0) fun u=>
 Z0 (Z5 .lss x3 u) fun j=>
 Z0 (Z8 j true ak (some x3)) fun t9=>
 Z0 (Z8 j true ak (Z5 .lss t9 (zA J 41))) fun g=>
 Z0 (Zi j g (.bool false)) fun h=>
 Zj h
 (Zge x0 x3 H0 H)
 (Zgd x0 H0 H):=(ZC (C:=cfg) [3,4,6] (Zn 0 (Zgg H0)) _ _).trans (by kernel_rfl)
theorem Zkv:Zbl [p0] H=ZiW p0 H:=Be 23 [3,4,6] Tryz.func30
def Zen:Z4:=
 Z0 (ZN p0 H) fun g=>
 Z0 (Z7 0 g.1) fun t3=>
 Z0 (Z7 0 t3) fun t4=>
 Z0 (Z3 false 1 t4 g.2) fun t5=>
 Z0 (Zk (.slice 119) t5) fun h=>
 Z0 (Z5 .leq h (zA J 10)) fun j=>
 some (j,g.2)
theorem Zi1:Ha [p0] H=Zen p0 H:=Be 8 [] Tryz.func31
def ZeB:Z4:=bn 34 26 Tryz.f34 [1,1,1] H0 [] H
def PH:KL:=Zc (Zx8 34 26 Tryz.f34 [1,1,1]) (Zg cfg 26 34 Tryz.f34 H0)
theorem Zfc:ZR 26 (PH H0):=Zw (C:=cfg) (kp:=cfg.keep 34) (sub (Z1 Tryz.f34) [1,1,1]) (ZB 34 Tryz.f34 H0)
def ZeD:Z4:=Lu 34 26 (sub (Z1 Tryz.f34) [1,1,0,1,0,0,1,1]) (Zc (Zot 34 26 Tryz.f34 [1,1,0,1,0,0]) (Z6 0 (PH H0))) [(0,x0),(1,x1),(5,x5)] H
def ZeC:Z4:=Lu 34 26 (sub (Z1 Tryz.f34) [1,1,0,1,0,0,1]) (Zc (Zot 34 26 Tryz.f34 [1,1,0,1,0,0]) (Z6 0 (PH H0))) [(0,x0),(1,x1),(5,x5)] H
def PI:Z4:=Zth 34 26 (sub (Z1 Tryz.f34) [1,1,0,1,0,0]) (Z6 0 (PH H0)) [(0,x0),(1,x1),(5,x5)] H
def ZeA:Z4:=bn 34 26 Tryz.f34 [1,1] H0 [(0,x0),(1,x1)] H
def Zg4:Z4:=
 Z0 (Zk (.slice 9) p0) fun h=>
 Z0 (Zk (.slice 9) p1) fun t9=>
 Z0 (Z5 .neq h t9) fun g=>
 Zj g
 (some ((.bool false),H))
 (ZeA p0 p1 H H)
theorem Zif:ZeB H0 H =
 some ((.bool true),H):=Z9 [3,5,6,8]
theorem Zih:ZeD x0 x1 x5 H0 H =
 Z0 (Z5 .add x5 (zA J 1)) fun g=>
 PI x0 x1 g H0 H:=Z9 [3,5,6,8]
theorem Zig:ZeC x0 x1 x5 H0 H =
 Z0 (Zo 1 x0 x5) fun g=>
 Z0 (Z3 false 1 g H) fun h=>
 Z0 (Zo 1 x1 x5) fun j=>
 Z0 (Z3 false 1 j H) fun u=>
 Z0 (Yr .neq h u) fun w=>
 Zj w
 (some ((.bool false),H))
 (ZeD x0 x1 x5 H0 H):=Z9 [3,5,6,8]
theorem Aw:PI x0 x1 x5 H0 H =
 Z0 (Zk (.slice 9) x0) fun g=>
 Z0 (Z5 .lss x5 g) fun h=>
 Zj h
 (ZeC x0 x1 x5 H0 H)
 (ZeB H0 H):=(ZC (C:=cfg) [3,5,6,8] (Zn 0 (Zfc H0)) _ _).trans (by kernel_rfl)
theorem Zie:ZeA x0 x1 H0 H =
 PI x0 x1 (zA J 0) H0 H:=Z9 [3,5,6,8]
theorem ZjT:Ik [p0,p1] H=Zg4 p0 p1 H:=Be 26 [3,5,6,8] Tryz.func34
end
end Go.Am
