/- The functions of the translation over the abstract machine -/
import Derived.Test.YtnaneekpogohaaaGreatDoorXeGx
namespace Go.Am
open Go.Proofs
set_option maxRecDepth 100000
noncomputable abbrev ZeL (f n:Nat):=Y9 cfg (Z9 cfg) (Y6 cfg (cfg.keep f) n) (cfg.keep f) n Zc Z7
noncomputable abbrev Zzm (f n:Nat):=Y6 cfg (cfg.keep f) n
noncomputable section
abbrev ZAR (f n:Nat)(F:Func)(p:List Nat):KL->AL->Hp->Z3:=fun k g H=>ZeL f n (sub (Z1 F) p) k (ZU (cfg.keep f) (sub (Z1 F) p) g) H
abbrev Zzo (f n:Nat)(F:Func)(p:List Nat):KL->AL->Hp->Z3:=fun k g H=>Zzm f n (sub (Z1 F) p) k (ZU (cfg.keep f) (sub (Z1 F) p) g) H
variable (p0 p1 p2 x2 x4 x8:AV)(H0 H:Hp)
def ZbP:Z3:=ZeL 12 32 (sub (Z1 Tryz.f12) [1,1,1,1,1]) (Zh cfg 32 12 Tryz.f12 H0) [] H
def R7:KL:=Zc (ZAR 12 32 Tryz.f12 [1,1,1,1,1]) (Zh cfg 32 12 Tryz.f12 H0)
theorem ZdO:ZW 32 (R7 H0):=Zy (C:=cfg) (kp:=cfg.keep 12) (sub (Z1 Tryz.f12) [1,1,1,1,1]) (ZB 12 Tryz.f12 H0)
def ZbR:Z3:=ZeL 12 32 (sub (Z1 Tryz.f12) [1,1,1,1,0,1,0,0,1,1]) (Zc (Zzo 12 32 Tryz.f12 [1,1,1,1,0,1,0,0]) (Z7 0 (R7 H0))) [(2,x2),(8,x8)] H
def ZbQ:Z3:=ZeL 12 32 (sub (Z1 Tryz.f12) [1,1,1,1,0,1,0,0,1]) (Zc (Zzo 12 32 Tryz.f12 [1,1,1,1,0,1,0,0]) (Z7 0 (R7 H0))) [(2,x2),(8,x8)] H
def R8:Z3:=Zzm 12 32 (sub (Z1 Tryz.f12) [1,1,1,1,0,1,0,0]) (Z7 0 (R7 H0)) [(2,x2),(8,x8)] H
def ZbO:Z3:=ZeL 12 32 (sub (Z1 Tryz.f12) [1,1,1,1]) (Zh cfg 32 12 Tryz.f12 H0) [(2,x2)] H
def ZbN:Z3:=ZeL 12 32 (sub (Z1 Tryz.f12) [1,1,1]) (Zh cfg 32 12 Tryz.f12 H0) [(2,x2)] H
def ZbM:Z3:=ZeL 12 32 (sub (Z1 Tryz.f12) [1,1]) (Zh cfg 32 12 Tryz.f12 H0) [(2,x2),(4,x4)] H
def Zed:Z3:=
 Z0 (ZM p0 H) fun w=>
 Z0 (ZM p1 w.2) fun j=>
 Z0 (Z4 true 5 w.1 j.2) fun t9=>
 Z0 (Zf Pm [t9] j.2) fun g=>
 Z0 (Z5 .neq g.1 (.int .i64 0)) fun u=>
 Zl u
 (some (g.1,g.2))
 (ZbM p2 j.1 H g.2)
theorem Zgm:ZbP H0 H =
 some ((.int .i64 0),H):=Za [4,6,8,10,11,13]
theorem Zgn:ZbR x2 x8 H0 H =
 Z0 (Z5 .add x8 (.int .i64 1)) fun g=>
 R8 x2 g H0 H:=Za [4,6,8,10,11,13]
theorem SY:ZbQ x2 x8 H0 H =
 Z0 (Zo 1 x2 x8) fun g=>
 Z0 (Z4 false 1 g H) fun j=>
 Z0 (Zk .string j) fun u=>
 Z0 (Z5 .gtr u (.int .i64 4096)) fun w=>
 Zl w
 (some ((.int .i64 3),H))
 (ZbR x2 x8 H0 H):=Za [4,6,8,10,11,13]
theorem SZ:R8 x2 x8 H0 H =
 Z0 (Zk (.slice 9) x2) fun g=>
 Z0 (Z5 .lss x8 g) fun j=>
 Zl j
 (ZbQ x2 x8 H0 H)
 (ZbP H0 H):=(ZD (C:=cfg) [4,6,8,10,11,13] (Zn 0 (ZdO H0)) _ _).trans (by kernel_rfl)
theorem Zgl:ZbO x2 H0 H =
 R8 x2 (.int .i64 0) H0 H:=Za [4,6,8,10,11,13]
theorem SX:ZbN x2 H0 H =
 Z0 (Zk (.slice 9) x2) fun g=>
 Z0 (Z5 .gtr g (.int .i64 8192)) fun j=>
 Zl j
 (some ((.int .i64 3),H))
 (ZbO x2 H0 H):=Za [4,6,8,10,11,13]
theorem R6:ZbM x2 x4 H0 H =
 Z0 (Z4 true 2 x4 H) fun j=>
 Z0 (Zf He [j] H) fun g=>
 Z0 (Xo .not g.1) fun u=>
 Zl u
 (some ((.int .i64 2),g.2))
 (ZbN x2 H0 g.2):=Za [4,6,8,10,11,13]
theorem Zi2:Hd [p0,p1,p2] H=Zed p0 p1 p2 H:=Be 32 [4,6,8,10,11,13] Tryz.func12
def Zee:Z3:=
 Z0 (ZM p0 H) fun g=>
 Z0 (Z6 0 g.1) fun t3=>
 Z0 (Z4 false 1 t3 g.2) fun t4=>
 Z0 (Z5 .geq t4 (.int .i64 64)) fun t5=>
 Z0 (Z8 t5 true (.tuple []) (Z6 0 g.1)) fun E=>
 Z0 (Z8 t5 true (.tuple []) (Z4 false 1 E g.2)) fun F=>
 Z0 (Z8 t5 true (.tuple []) (Z5 .leq F (.int .i64 65536))) fun t9=>
 Z0 (Zi t5 t9 (.bool false)) fun j=>
 Z0 (Z8 j true (.tuple []) (Z6 1 g.1)) fun w=>
 Z0 (Z8 j true (.tuple []) (Z4 false 1 w g.2)) fun y=>
 Z0 (Z8 j true (.tuple []) (Z5 .geq y (.int .i64 2))) fun z=>
 Z0 (Zi j z (.bool false)) fun u=>
 Z0 (Z8 u true (.tuple []) (Z6 1 g.1)) fun A=>
 Z0 (Z8 u true (.tuple []) (Z4 false 1 A g.2)) fun B=>
 Z0 (Z8 u true (.tuple []) (Z5 .leq B (.int .i64 32))) fun C=>
 Z0 (Zi u C (.bool false)) fun D=>
 some (D,g.2)
theorem Zi3:He [p0] H=Zee p0 H:=Be 21 [] Tryz.func38
end
end Go.Am
