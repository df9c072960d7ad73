/- The functions of the translation over the abstract machine -/
import Derived.Test.YtnaneekpogohaaaGreatDoorXeGx
namespace Go.Am
open Go.Proofs
set_option maxRecDepth 100000
noncomputable abbrev ZfK (f n:Nat):=Y6 cfg (Z9 cfg) (ZZ cfg (cfg.keep f) n) (cfg.keep f) n Zc Z6
noncomputable abbrev Zzh (f n:Nat):=ZZ cfg (cfg.keep f) n
noncomputable section
abbrev ZAC (f n:Nat)(F:Func)(p:List Nat):KL->AL->Hp->Z4:=fun k g H=>ZfK f n (sub (Z1 F) p) k (ZS (cfg.keep f) (sub (Z1 F) p) g) H
abbrev Zzj (f n:Nat)(F:Func)(p:List Nat):KL->AL->Hp->Z4:=fun k g H=>Zzh f n (sub (Z1 F) p) k (ZS (cfg.keep f) (sub (Z1 F) p) g) H
variable (p0 p1 p2 x2 x4 x8:AV)(H0 H:Hp)
def ZcR:Z4:=ZfK 12 32 (sub (Z1 Tryz.f12) [1,1,1,1,1]) (Zi cfg 32 12 Tryz.f12 H0) [] H
def RB:KL:=Zc (ZAC 12 32 Tryz.f12 [1,1,1,1,1]) (Zi cfg 32 12 Tryz.f12 H0)
theorem ZeQ:ZU 32 (RB H0):=Zx (C:=cfg) (kp:=cfg.keep 12) (sub (Z1 Tryz.f12) [1,1,1,1,1]) (ZB 12 Tryz.f12 H0)
def ZcT:Z4:=ZfK 12 32 (sub (Z1 Tryz.f12) [1,1,1,1,0,1,0,0,1,1]) (Zc (Zzj 12 32 Tryz.f12 [1,1,1,1,0,1,0,0]) (Z6 0 (RB H0))) [(2,x2),(8,x8)] H
def ZcS:Z4:=ZfK 12 32 (sub (Z1 Tryz.f12) [1,1,1,1,0,1,0,0,1]) (Zc (Zzj 12 32 Tryz.f12 [1,1,1,1,0,1,0,0]) (Z6 0 (RB H0))) [(2,x2),(8,x8)] H
def RC:Z4:=Zzh 12 32 (sub (Z1 Tryz.f12) [1,1,1,1,0,1,0,0]) (Z6 0 (RB H0)) [(2,x2),(8,x8)] H
def ZcQ:Z4:=ZfK 12 32 (sub (Z1 Tryz.f12) [1,1,1,1]) (Zi cfg 32 12 Tryz.f12 H0) [(2,x2)] H
def ZcP:Z4:=ZfK 12 32 (sub (Z1 Tryz.f12) [1,1,1]) (Zi cfg 32 12 Tryz.f12 H0) [(2,x2)] H
def ZcO:Z4:=ZfK 12 32 (sub (Z1 Tryz.f12) [1,1]) (Zi cfg 32 12 Tryz.f12 H0) [(2,x2),(4,x4)] H
def Zfg:Z4:=
 Z0 (ZO p0 H) fun w=>
 Z0 (ZO p1 w.2) fun j=>
 Z0 (Z3 true 5 w.1 j.2) fun t9=>
 Z0 (Ze PV [t9] j.2) fun g=>
 Z0 (Z5 .neq g.1 (.int .i64 0)) fun u=>
 Zk u
 (some (g.1,g.2))
 (ZcO p2 j.1 H g.2)
theorem Zhl:ZcR H0 H =
 some ((.int .i64 0),H):=Za [4,6,8,10,11,13]
theorem Zhm:ZcT x2 x8 H0 H =
 Z0 (Z5 .add x8 (.int .i64 1)) fun g=>
 RC x2 g H0 H:=Za [4,6,8,10,11,13]
theorem CK:ZcS x2 x8 H0 H =
 Z0 (Zn 1 x2 x8) fun g=>
 Z0 (Z3 false 1 g H) fun j=>
 Z0 (Zl .string j) fun u=>
 Z0 (Z5 .gtr u (.int .i64 4096)) fun w=>
 Zk w
 (some ((.int .i64 3),H))
 (ZcT x2 x8 H0 H):=Za [4,6,8,10,11,13]
theorem CM:RC x2 x8 H0 H =
 Z0 (Zl (.slice 9) x2) fun g=>
 Z0 (Z5 .lss x8 g) fun j=>
 Zk j
 (ZcS x2 x8 H0 H)
 (ZcR H0 H):=(ZD (C:=cfg) [4,6,8,10,11,13] (Zm 0 (ZeQ H0)) _ _).trans (by kernel_rfl)
theorem Zhk:ZcQ x2 H0 H =
 RC x2 (.int .i64 0) H0 H:=Za [4,6,8,10,11,13]
theorem CJ:ZcP x2 H0 H =
 Z0 (Zl (.slice 9) x2) fun g=>
 Z0 (Z5 .gtr g (.int .i64 8192)) fun j=>
 Zk j
 (some ((.int .i64 3),H))
 (ZcQ x2 H0 H):=Za [4,6,8,10,11,13]
theorem RA:ZcO x2 x4 H0 H =
 Z0 (Z3 true 2 x4 H) fun j=>
 Z0 (Ze A8 [j] H) fun g=>
 Z0 (Xv .not g.1) fun u=>
 Zk u
 (some ((.int .i64 2),g.2))
 (ZcP x2 H0 g.2):=Za [4,6,8,10,11,13]
theorem ZiZ:A0 [p0,p1,p2] H=Zfg p0 p1 p2 H:=Be 32 [4,6,8,10,11,13] Tryz.func12
def Zfh:Z4:=
 Z0 (ZO p0 H) fun g=>
 Z0 (Z7 0 g.1) fun t3=>
 Z0 (Z3 false 1 t3 g.2) fun t4=>
 Z0 (Z5 .geq t4 (.int .i64 64)) fun t5=>
 Z0 (Z8 t5 true (.tuple []) (Z7 0 g.1)) fun E=>
 Z0 (Z8 t5 true (.tuple []) (Z3 false 1 E g.2)) fun F=>
 Z0 (Z8 t5 true (.tuple []) (Z5 .leq F (.int .i64 65536))) fun t9=>
 Z0 (Zj t5 t9 (.bool false)) fun j=>
 Z0 (Z8 j true (.tuple []) (Z7 1 g.1)) fun w=>
 Z0 (Z8 j true (.tuple []) (Z3 false 1 w g.2)) fun y=>
 Z0 (Z8 j true (.tuple []) (Z5 .geq y (.int .i64 2))) fun z=>
 Z0 (Zj j z (.bool false)) fun u=>
 Z0 (Z8 u true (.tuple []) (Z7 1 g.1)) fun A=>
 Z0 (Z8 u true (.tuple []) (Z3 false 1 A g.2)) fun B=>
 Z0 (Z8 u true (.tuple []) (Z5 .leq B (.int .i64 32))) fun C=>
 Z0 (Zj u C (.bool false)) fun D=>
 some (D,g.2)
theorem Zj0:A8 [p0] H=Zfh p0 H:=Be 21 [] Tryz.func38
end
end Go.Am
