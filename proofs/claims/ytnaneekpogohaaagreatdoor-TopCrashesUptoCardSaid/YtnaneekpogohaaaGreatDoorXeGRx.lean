/- The functions of the translation over the abstract machine -/
import Derived.Test.YtnaneekpogohaaaGreatDoorXeGx
open Go.Am.AV renaming int->J
open Go.IntKind renaming i64->zA
namespace Go.Am
open Go.Proofs
set_option maxRecDepth 100000
noncomputable abbrev Zgh (f n:Nat):=Yn cfg (Zb cfg) (Y5 cfg (cfg.keep f) n) (cfg.keep f) n Zc Z7
noncomputable abbrev Zyk (f n:Nat):=Y5 cfg (cfg.keep f) n
noncomputable section
abbrev ZzD (f n:Nat)(F:Func)(p:List Nat):KL->AL->Hp->Z4:=fun k g H=>Zgh f n (sub (Z1 F) p) k (Y3 (cfg.keep f) (sub (Z1 F) p) g) H
abbrev Zym (f n:Nat)(F:Func)(p:List Nat):KL->AL->Hp->Z4:=fun k g H=>Zyk f n (sub (Z1 F) p) k (Y3 (cfg.keep f) (sub (Z1 F) p) g) H
variable (p0 p1 p2 x2 x4 x8:AV)(H0 H:Hp)
abbrev bz:List Nat:=[4,6,8,10,11,13]
def Zdo:Z4:=Zgh 12 32 (sub (Z1 Tryz.f12) [1,1,1,1,1]) (Zf cfg 32 12 Tryz.f12 H0) [] H
def Ti:KL:=Zc (ZzD 12 32 Tryz.f12 [1,1,1,1,1]) (Zf cfg 32 12 Tryz.f12 H0)
theorem Zfl:ZS 32 (Ti H0):=Zw (C:=cfg) (kp:=cfg.keep 12) (sub (Z1 Tryz.f12) [1,1,1,1,1]) (Zy 12 Tryz.f12 H0)
def Zdq:Z4:=Zgh 12 32 (sub (Z1 Tryz.f12) [1,1,1,1,0,1,0,0,1,1]) (Zc (Zym 12 32 Tryz.f12 [1,1,1,1,0,1,0,0]) (Z7 0 (Ti H0))) [(2,x2),(8,x8)] H
def Zdp:Z4:=Zgh 12 32 (sub (Z1 Tryz.f12) [1,1,1,1,0,1,0,0,1]) (Zc (Zym 12 32 Tryz.f12 [1,1,1,1,0,1,0,0]) (Z7 0 (Ti H0))) [(2,x2),(8,x8)] H
def Tj:Z4:=Zyk 12 32 (sub (Z1 Tryz.f12) [1,1,1,1,0,1,0,0]) (Z7 0 (Ti H0)) [(2,x2),(8,x8)] H
def Zdn:Z4:=Zgh 12 32 (sub (Z1 Tryz.f12) [1,1,1,1]) (Zf cfg 32 12 Tryz.f12 H0) [(2,x2)] H
def Zdm:Z4:=Zgh 12 32 (sub (Z1 Tryz.f12) [1,1,1]) (Zf cfg 32 12 Tryz.f12 H0) [(2,x2)] H
def Zdl:Z4:=Zgh 12 32 (sub (Z1 Tryz.f12) [1,1]) (Zf cfg 32 12 Tryz.f12 H0) [(2,x2),(4,x4)] H
def ZfG:Z4:=
 Z0 (ZQ p0 H) fun u=>
 Z0 (ZQ p1 u.2) fun h=>
 Z0 (Z3 true 5 u.1 h.2) fun t9=>
 Z0 (Zh Ny [t9] h.2) fun g=>
 Z0 (Z5 .neq g.1 (J zA 0)) fun j=>
 Zj j
 (some (g.1,g.2))
 (Zdl p2 h.1 H g.2)
theorem ZhF:Zdo H0 H =
 some ((J zA 0),H):=Z9 bz
theorem ZhG:Zdq x2 x8 H0 H =
 Z0 (Z5 .add x8 (J zA 1)) fun g=>
 Tj x2 g H0 H:=Z9 bz
theorem HR:Zdp x2 x8 H0 H =
 Z0 (Zo 1 x2 x8) fun g=>
 Z0 (Z3 false 1 g H) fun h=>
 Z0 (Zk .string h) fun j=>
 Z0 (Z5 .gtr j (J zA 4096)) fun u=>
 Zj u
 (some ((J zA 3),H))
 (Zdq x2 x8 H0 H):=Z9 bz
theorem HS:Tj x2 x8 H0 H =
 Z0 (Zk (.slice 9) x2) fun g=>
 Z0 (Z5 .lss x8 g) fun h=>
 Zj h
 (Zdp x2 x8 H0 H)
 (Zdo H0 H):=(ZC (C:=cfg) [4,6,8,10,11,13] (Zn 0 (Zfl H0)) _ _).trans (by kernel_rfl)
theorem ZhE:Zdn x2 H0 H =
 Tj x2 (J zA 0) H0 H:=Z9 bz
theorem HQ:Zdm x2 H0 H =
 Z0 (Zk (.slice 9) x2) fun g=>
 Z0 (Z5 .gtr g (J zA 8192)) fun h=>
 Zj h
 (some ((J zA 3),H))
 (Zdn x2 H0 H):=Z9 bz
theorem Th:Zdl x2 x4 H0 H =
 Z0 (Z3 true 2 x4 H) fun h=>
 Z0 (Zh AQ [h] H) fun g=>
 Z0 (XL .not g.1) fun j=>
 Zj j
 (some ((J zA 2),g.2))
 (Zdm x2 H0 g.2):=Z9 bz
theorem Zjb:AP [p0,p1,p2] H=ZfG p0 p1 p2 H:=Be 32 [4,6,8,10,11,13] Tryz.func12
def ZfH:Z4:=
 Z0 (ZQ p0 H) fun g=>
 Z0 (Z6 0 g.1) fun t3=>
 Z0 (Z3 false 1 t3 g.2) fun t4=>
 Z0 (Z5 .geq t4 (J zA 64)) fun t5=>
 Z0 (Z8 t5 true ap (Z6 0 g.1)) fun D=>
 Z0 (Z8 t5 true ap (Z3 false 1 D g.2)) fun E=>
 Z0 (Z8 t5 true ap (Z5 .leq E (J zA 65536))) fun t9=>
 Z0 (Zi t5 t9 (.bool false)) fun h=>
 Z0 (Z8 h true ap (Z6 1 g.1)) fun u=>
 Z0 (Z8 h true ap (Z3 false 1 u g.2)) fun w=>
 Z0 (Z8 h true ap (Z5 .geq w (J zA 2))) fun y=>
 Z0 (Zi h y (.bool false)) fun j=>
 Z0 (Z8 j true ap (Z6 1 g.1)) fun z=>
 Z0 (Z8 j true ap (Z3 false 1 z g.2)) fun A=>
 Z0 (Z8 j true ap (Z5 .leq A (J zA 32))) fun B=>
 Z0 (Zi j B (.bool false)) fun C=>
 some (C,g.2)
theorem Zjc:AQ [p0] H=ZfH p0 H:=Be 21 [] Tryz.func38
end
end Go.Am
