/-
  Functions of the translation that are worked out at given arguments: written by program (wip/gen.py).
-/
import Derived.Test.YtehanadfidoodaaGreatDoorNkGx
import Derived.Test.YtehanadfidoodaaGreatDoorEmWx
namespace Go.Am
open Go.Proofs
set_option maxRecDepth 100000
set_option linter.unusedVariables false
noncomputable section

noncomputable abbrev CXf (f n:Nat):=CXL cfg (Za7 cfg) (LPL cfg (cfg.keep f) n) (cfg.keep f) n seqL Za4
noncomputable abbrev LPf (f n:Nat):=LPL cfg (cfg.keep f) n
def c31 (H:Hp):Res:=Za7 cfg 31 [] H
def ZoA (H0:Hp) (x0 x1 x2 x3:AV) (H:Hp):Res:=CXf 31 55 (sub (Za0 Tryz.f31) [1,1,1,1]) (retL cfg 55 31 Tryz.f31 H0) [(0,x0),(1,x1),(2,x2),(3,x3)] H
def ZxB (H0:Hp):KL:=seqL (fun k al H=>CXf 31 55 (sub (Za0 Tryz.f31) [1,1,1,1]) k (Za8 (cfg.keep 31) (sub (Za0 Tryz.f31) [1,1,1,1]) al) H) (retL cfg 55 31 Tryz.f31 H0)
theorem ZEt (H0:Hp):Tame 55 (ZxB H0):=Zan (C:=cfg) (kp:=cfg.keep 31) (sub (Za0 Tryz.f31) [1,1,1,1]) (Zaq 31 Tryz.f31 H0)
def ZoC (H0:Hp) (x0 x1 x2 x3 x4:AV) (H:Hp):Res:=CXf 31 55 (sub (Za0 Tryz.f31) [1,1,1,0,1,0,0,1,1]) (seqL (fun k al H=>LPf 31 55 (sub (Za0 Tryz.f31) [1,1,1,0,1,0,0]) k (Za8 (cfg.keep 31) (sub (Za0 Tryz.f31) [1,1,1,0,1,0,0]) al) H) (Za4 0 (ZxB H0))) [(0,x0),(1,x1),(2,x2),(3,x3),(4,x4)] H
def ZK2 (H0:Hp):KL:=seqL (fun k al H=>CXf 31 55 (sub (Za0 Tryz.f31) [1,1,1,0,1,0,0,1,1]) k (Za8 (cfg.keep 31) (sub (Za0 Tryz.f31) [1,1,1,0,1,0,0,1,1]) al) H) (seqL (fun k al H=>LPf 31 55 (sub (Za0 Tryz.f31) [1,1,1,0,1,0,0]) k (Za8 (cfg.keep 31) (sub (Za0 Tryz.f31) [1,1,1,0,1,0,0]) al) H) (Za4 0 (ZxB H0)))
def Zm5 (H0:Hp) (x0 x1 x2 x3 x4 x5 x6:AV) (H:Hp):Res:=CXf 31 55 (sub (Za0 Tryz.f31) [1,1,1,0,1,0,0,1,0,0,1,1,1]) (Za4 1 (ZK2 H0)) [(0,x0),(1,x1),(2,x2),(3,x3),(4,x4),(5,x5),(6,x6)] H
def Zm4 (H0:Hp) (x0 x1 x2 x3 x4 x5 x6:AV) (H:Hp):Res:=CXf 31 55 (sub (Za0 Tryz.f31) [1,1,1,0,1,0,0,1,0,0,1,1]) (Za4 1 (ZK2 H0)) [(0,x0),(1,x1),(2,x2),(3,x3),(4,x4),(5,x5),(6,x6)] H
def ZoB (H0:Hp) (x0 x1 x2 x3 x4:AV) (H:Hp):Res:=CXf 31 55 (sub (Za0 Tryz.f31) [1,1,1,0,1,0,0,1]) (seqL (fun k al H=>LPf 31 55 (sub (Za0 Tryz.f31) [1,1,1,0,1,0,0]) k (Za8 (cfg.keep 31) (sub (Za0 Tryz.f31) [1,1,1,0,1,0,0]) al) H) (Za4 0 (ZxB H0))) [(0,x0),(1,x1),(2,x2),(3,x3),(4,x4)] H
def Zb3 (H0:Hp) (x0 x1 x2 x3 x4:AV) (H:Hp):Res:=LPf 31 55 (sub (Za0 Tryz.f31) [1,1,1,0,1,0,0]) (Za4 0 (ZxB H0)) [(0,x0),(1,x1),(2,x2),(3,x3),(4,x4)] H
def ZA5 (x0 x1 x2 x3:AV) (H:Hp):Res:=
 bnd (cvRd x2 H) fun t49=>
 bnd (Za5 2 x1) fun t50=>
 bnd (Zab 1 t50 t49 H) fun r_7=>
 bnd (cvRd x3 r_7.2) fun t52=>
 bnd (Za5 3 x1) fun t53=>
 bnd (Zab 1 t53 t52 r_7.2) fun r_10=>
 bnd (Za2 true 6 x1 r_10.2) fun t54=>
 bnd (Zab 6 x0 t54 r_10.2) fun r_12=>
 bnd (Za2 true 6 x0 r_12.2) fun v0=>
 some (v0,r_12.2)
theorem ZMF (H0:Hp) (x0 x1 x2 x3:AV) (H:Hp):ZoA H0 x0 x1 x2 x3 H=ZA5 x0 x1 x2 x3 H:=(Za3 [5,6,9,11,14] _ _ _ _).trans (by kernel_rfl)
theorem ZMO:L4 (ZA5) (ZA5):=fun _ _ _ _ _=>
 bR fun _=>bR fun _=>bR fun _=>bR fun _=>bR fun _=>bR fun _=>bR fun _=>bR fun _=>bR fun _=>le_refl _
def ZA7 (Zb3:A5) (x0 x1 x2 x3 x4:AV) (H:Hp):Res:=
 bnd (ibin .add x4 (.int .i64 1)) fun t11=>
 Zb3 x0 x1 x2 x3 t11 H
theorem ZMH (H0:Hp) (x0 x1 x2 x3 x4:AV) (H:Hp):ZoC H0 x0 x1 x2 x3 x4 H=ZA7 (Zb3 H0) x0 x1 x2 x3 x4 H:=(Za3 [5,6,9,11,14] _ _ _ _).trans (by kernel_rfl)
theorem ZMQ {Zb3 dj31_l1:A5} (hj31_l1:L5 Zb3 dj31_l1):L5 (ZA7 Zb3) (ZA7 dj31_l1):=fun _ _ _ _ _ _=>
 bR fun _=>hj31_l1 _ _ _ _ _ _
def ZA9 (ZoC:A5) (x0 x1 x2 x3 x4 x5 x6:AV) (H:Hp):Res:=
 bnd (Za5 1 x1) fun t34=>
 bnd (Za2 false 1 t34 H) fun t35=>
 bnd ((Zau 1 [(0,x4)] [(.int .i64 0)]).map (.vs 1 .clip)) fun t37=>
 bnd (ZaH 1 8 t35 t37 H) fun r38=>
 bnd (Za5 1 x1) fun t39=>
 bnd (Zab 1 t39 r38.1 r38.2) fun r_22=>
 bnd ((Zau 1 [(0,x5)] [(.int .u8 0)]).map (.vs 1 .clip)) fun t42=>
 bnd (ZaH 1 1 x2 t42 r_22.2) fun r43=>
 bnd ((Zau 1 [(0,x6)] [(.int .u8 0)]).map (.vs 1 .clip)) fun t46=>
 bnd (ZaH 1 1 x3 t46 r43.2) fun r47=>
 ZoC x0 x1 r43.1 r47.1 x4 r47.2
theorem ZMJ (H0:Hp) (x0 x1 x2 x3 x4 x5 x6:AV) (H:Hp):Zm5 H0 x0 x1 x2 x3 x4 x5 x6 H=ZA9 (ZoC H0) x0 x1 x2 x3 x4 x5 x6 H:=(Za3 [5,6,9,11,14] _ _ _ _).trans (by kernel_rfl)
theorem ZMS {ZoC dj31_3:A5} (hj31_3:L5 ZoC dj31_3):L7 (ZA9 ZoC) (ZA9 dj31_3):=fun _ _ _ _ _ _ _ _=>
 bR fun _=>bR fun _=>bR fun _=>bR fun _=>bR fun _=>bR fun _=>bR fun _=>bR fun _=>bR fun _=>bR fun _=>hj31_3 _ _ _ _ _ _
def ZA8 (Zm5:A7) (x0 x1 x2 x3 x4 x5 x6:AV) (H:Hp):Res:=
 bnd (ibin .geq x4 (.int .i64 97)) fun t26=>
 bnd (gdv t26 true (.tuple []) (some x4)) fun t28=>
 bnd (gdv t26 true (.tuple []) (ibin .leq t28 (.int .i64 122))) fun t29=>
 bnd (Zad t26 t29 (.bool false)) fun t30=>
 cnd t30
  (bnd (ibin .sub x4 (.int .i64 32)) fun t32=>
  bnd (Zbl .u8 t32) fun t33=>
  Zm5 x0 x1 x2 x3 x4 x5 t33 H)
  (Zm5 x0 x1 x2 x3 x4 x5 x6 H)
theorem ZMI (H0:Hp) (x0 x1 x2 x3 x4 x5 x6:AV) (H:Hp):Zm4 H0 x0 x1 x2 x3 x4 x5 x6 H=ZA8 (Zm5 H0) x0 x1 x2 x3 x4 x5 x6 H:=(Za3 [5,6,9,11,14] _ _ _ _).trans (by kernel_rfl)
theorem ZMR {Zm5 dj31_5:A7} (hj31_5:L7 Zm5 dj31_5):L7 (ZA8 Zm5) (ZA8 dj31_5):=fun _ _ _ _ _ _ _ _=>
 bR fun _=>bR fun _=>bR fun _=>bR fun _=>bK (bR fun _=>bR fun _=>hj31_5 _ _ _ _ _ _ _ _) (hj31_5 _ _ _ _ _ _ _ _)
def ZA6 (Zm4:A7) (x0 x1 x2 x3 x4:AV) (H:Hp):Res:=
 bnd (Zbl .u8 x4) fun t13=>
 bnd (Zbl .u8 x4) fun t15=>
 bnd (ibin .geq x4 (.int .i64 65)) fun t17=>
 bnd (gdv t17 true (.tuple []) (some x4)) fun t19=>
 bnd (gdv t17 true (.tuple []) (ibin .leq t19 (.int .i64 90))) fun t20=>
 bnd (Zad t17 t20 (.bool false)) fun t21=>
 cnd t21
  (bnd (ibin .add x4 (.int .i64 32)) fun t23=>
  bnd (Zbl .u8 t23) fun t24=>
  Zm4 x0 x1 x2 x3 x4 t24 t15 H)
  (Zm4 x0 x1 x2 x3 x4 t13 t15 H)
theorem ZMG (H0:Hp) (x0 x1 x2 x3 x4:AV) (H:Hp):ZoB H0 x0 x1 x2 x3 x4 H=ZA6 (Zm4 H0) x0 x1 x2 x3 x4 H:=(Za3 [5,6,9,11,14] _ _ _ _).trans (by kernel_rfl)
theorem ZMP {Zm4 dj31_4:A7} (hj31_4:L7 Zm4 dj31_4):L5 (ZA6 Zm4) (ZA6 dj31_4):=fun _ _ _ _ _ _=>
 bR fun _=>bR fun _=>bR fun _=>bR fun _=>bR fun _=>bR fun _=>bK (bR fun _=>bR fun _=>hj31_4 _ _ _ _ _ _ _ _) (hj31_4 _ _ _ _ _ _ _ _)
def Zx7 (ZoA:A4) (ZoB:A5) (x0 x1 x2 x3 x4:AV) (H:Hp):Res:=
 bnd (ibin .lss x4 (.int .i64 256)) fun t9=>
 cnd t9
  (ZoB x0 x1 x2 x3 x4 H)
  (ZoA x0 x1 x2 x3 H)
theorem ZLS (H0:Hp) (x0 x1 x2 x3 x4:AV) (H:Hp):Zb3 H0 x0 x1 x2 x3 x4 H=Zx7 (ZoA H0) (ZoB H0) x0 x1 x2 x3 x4 H:=(Zar (C:=cfg) [5,6,9,11,14] (Zag 0 (ZEt H0)) _ _).trans (by kernel_rfl)
theorem ZMc {ZoA dj31_1:A4} (hj31_1:L4 ZoA dj31_1) {ZoB dj31_2:A5} (hj31_2:L5 ZoB dj31_2):L5 (Zx7 ZoA ZoB) (Zx7 dj31_1 dj31_2):=fun _ _ _ _ _ _=>
 bR fun _=>bK (hj31_2 _ _ _ _ _ _) (hj31_1 _ _ _ _ _)
def ZHi:A4:=ZA5
theorem ZMm (H0:Hp):L4 (ZHi) (ZoA H0):=fun _ _ _ _ _=>ZdX (ZMO _ _ _ _ _) (ZMF H0 _ _ _ _ _)
def ZHk (Zb3:A5):A5:=ZA7 Zb3
theorem ZMo (H0:Hp) {yj31_l1:A5} (hj31_l1:L5 yj31_l1 (Zb3 H0)):L5 (ZHk yj31_l1) (ZoC H0):=fun _ _ _ _ _ _=>ZdX (ZMQ hj31_l1 _ _ _ _ _ _) (ZMH H0 _ _ _ _ _ _)
def ZHm (Zb3:A5):A7:=ZA9 (ZHk Zb3)
theorem ZMq (H0:Hp) {yj31_l1:A5} (hj31_l1:L5 yj31_l1 (Zb3 H0)):L7 (ZHm yj31_l1) (Zm5 H0):=fun _ _ _ _ _ _ _ _=>ZdX (ZMS (ZMo H0 hj31_l1) _ _ _ _ _ _ _ _) (ZMJ H0 _ _ _ _ _ _ _ _)
def ZHl (Zb3:A5):A7:=ZA8 (ZHm Zb3)
theorem ZMp (H0:Hp) {yj31_l1:A5} (hj31_l1:L5 yj31_l1 (Zb3 H0)):L7 (ZHl yj31_l1) (Zm4 H0):=fun _ _ _ _ _ _ _ _=>ZdX (ZMR (ZMq H0 hj31_l1) _ _ _ _ _ _ _ _) (ZMI H0 _ _ _ _ _ _ _ _)
def ZHj (Zb3:A5):A5:=ZA6 (ZHl Zb3)
theorem ZMn (H0:Hp) {yj31_l1:A5} (hj31_l1:L5 yj31_l1 (Zb3 H0)):L5 (ZHj yj31_l1) (ZoB H0):=fun _ _ _ _ _ _=>ZdX (ZMP (ZMp H0 hj31_l1) _ _ _ _ _ _) (ZMG H0 _ _ _ _ _ _)
def ZDb (n:Nat):A5:=@Nat.rec (fun _=>A5) (fun _ _ _ _ _ _=>none) (fun _ Zb3=>Zx7 (ZHi) (ZHj Zb3)) n
theorem ZLt (H0:Hp) (n:Nat):L5 (ZDb n) (Zb3 H0):=by
 induction n with
 | zero=>exact fun _ _ _ _ _ _=>Zuw _
 | succ n hj31_l1=>exact fun _ _ _ _ _ _=>ZdX (ZMc (ZMm H0) (ZMn H0 hj31_l1) _ _ _ _ _ _) (ZLS H0 _ _ _ _ _ _)
def bc31 (Zb3:A5) (H:Hp):Res:=
 bnd (some ((.ptr H.length 0),H++[.cells [(.str []),.nils,(.str []),(.str []),.nils,.nils]])) fun r0=>
 bnd ((Zbq [(0,1,(.str [112,111,115,105,120]))] [(.str []),.nils,(.str []),(.str []),.nils,.nils]).map .agg) fun t7=>
 bnd (some ((.ptr r0.2.length 0),r0.2++[.cells [(.str []),.nils,(.str []),(.str []),.nils,.nils]])) fun r1=>
 bnd (Zab 6 r1.1 t7 r1.2) fun r_4=>
 Zb3 r0.1 r1.1 .nils .nils (.int .i64 0) r_4.2
theorem ec31 (H:Hp):c31 H=bc31 (Zb3 H) H:=(Za9 (C:=cfg) (fn:=Tryz.f31) (c:=Za0 Tryz.f31) (n:=55) [5,6,9,11,14] Tryz.func31 (by kernel_rfl) (by kernel_rfl) [] (by kernel_rfl) H).trans (by kernel_rfl)
theorem mc31 {Zb3 dj31_l1:A5} (hj31_l1:L5 Zb3 dj31_l1):L0 (bc31 Zb3) (bc31 dj31_l1):=fun _=>
 bR fun _=>bR fun _=>bR fun _=>bR fun _=>hj31_l1 _ _ _ _ _ _
def rc31:A0:=fun H=>bc31 (ZDb 100000) H
theorem sc31:L0 rc31 c31:=fun H=>ZdX (mc31 (ZLt H 100000) _) (ec31 _)
def c224 (p0 p1 p2:AV) (H:Hp):Res:=Za7 cfg 224 [p0,p1,p2] H
def ZkR (H0:Hp) (x7:AV) (H:Hp):Res:=CXf 224 40 (sub (Za0 Tryz.f224) [1,1,1]) (retL cfg 40 224 Tryz.f224 H0) [(7,x7)] H
def ZxA (H0:Hp):KL:=seqL (fun k al H=>CXf 224 40 (sub (Za0 Tryz.f224) [1,1,1]) k (Za8 (cfg.keep 224) (sub (Za0 Tryz.f224) [1,1,1]) al) H) (retL cfg 40 224 Tryz.f224 H0)
theorem ZCz (H0:Hp):Tame 40 (ZxA H0):=Zan (C:=cfg) (kp:=cfg.keep 224) (sub (Za0 Tryz.f224) [1,1,1]) (Zaq 224 Tryz.f224 H0)
def Zja (H0:Hp) (x0 x1 x2 x7 x11 x12:AV) (H:Hp):Res:=CXf 224 40 (sub (Za0 Tryz.f224) [1,1,0,1,0,0,1,1,1]) (seqL (fun k al H=>LPf 224 40 (sub (Za0 Tryz.f224) [1,1,0,1,0,0]) k (Za8 (cfg.keep 224) (sub (Za0 Tryz.f224) [1,1,0,1,0,0]) al) H) (Za4 0 (ZxA H0))) [(0,x0),(1,x1),(2,x2),(7,x7),(11,x11),(12,x12)] H
def ZkS (H0:Hp) (x0 x1 x2 x7 x11 x12 x13:AV) (H:Hp):Res:=CXf 224 40 (sub (Za0 Tryz.f224) [1,1,0,1,0,0,1,1]) (seqL (fun k al H=>LPf 224 40 (sub (Za0 Tryz.f224) [1,1,0,1,0,0]) k (Za8 (cfg.keep 224) (sub (Za0 Tryz.f224) [1,1,0,1,0,0]) al) H) (Za4 0 (ZxA H0))) [(0,x0),(1,x1),(2,x2),(7,x7),(11,x11),(12,x12),(13,x13)] H
def Zba (H0:Hp) (x0 x1 x2 x7 x11 x12:AV) (H:Hp):Res:=LPf 224 40 (sub (Za0 Tryz.f224) [1,1,0,1,0,0]) (Za4 0 (ZxA H0)) [(0,x0),(1,x1),(2,x2),(7,x7),(11,x11),(12,x12)] H
def Zx4 (x7:AV) (H:Hp):Res:=
 bnd (cvRd x7 H) fun t39=>
 some (t39,H)
theorem ZLP (H0:Hp) (x7:AV) (H:Hp):ZkR H0 x7 H=Zx4 x7 H:=(Za3 [4,8,9] _ _ _ _).trans (by kernel_rfl)
theorem ZM9:L1 (Zx4) (Zx4):=fun _ _=>
 bR fun _=>le_refl _
def Zx6 (Zba:A6) (x0 x1 x2 x7 x11 x12:AV) (H:Hp):Res:=
 bnd (ibin .add x12 (.int .i64 1)) fun t37=>
 Zba x0 x1 x2 x7 x11 t37 H
theorem ZLR (H0:Hp) (x0 x1 x2 x7 x11 x12:AV) (H:Hp):Zja H0 x0 x1 x2 x7 x11 x12 H=Zx6 (Zba H0) x0 x1 x2 x7 x11 x12 H:=(Za3 [4,8,9] _ _ _ _).trans (by kernel_rfl)
theorem ZMb {Zba dj224_l1:A6} (hj224_l1:L6 Zba dj224_l1):L6 (Zx6 Zba) (Zx6 dj224_l1):=fun _ _ _ _ _ _ _=>
 bR fun _=>hj224_l1 _ _ _ _ _ _ _
def Zx5 (Zja:A6) (x0 x1 x2 x7 x11 x12 x13:AV) (H:Hp):Res:=
 bnd (Zbl .u8 x12) fun t18=>
 bnd (Zaf 1 x7 x12) fun t19=>
 bnd (Zab 1 t19 t18 H) fun r_8=>
 bnd (Zbl .u8 x12) fun t21=>
 bnd (ibin .geq t21 x0) fun t23=>
 bnd (gdv t23 true (.tuple []) (some x12)) fun t25=>
 bnd (gdv t23 true (.tuple []) (Zbl .u8 t25)) fun t26=>
 bnd (gdv t23 true (.tuple []) (some x1)) fun t27=>
 bnd (gdv t23 true (.tuple []) (ibin .leq t26 t27)) fun t28=>
 bnd (Zad t23 t28 (.bool false)) fun t29=>
 cnd t29
  (bnd (ibin .add x12 x2) fun t34=>
  bnd (Zbl .u8 t34) fun t35=>
  bnd (Zaf 1 x7 x12) fun t36=>
  bnd (Zab 1 t36 t35 r_8.2) fun r_19=>
  Zja x0 x1 x2 x7 x11 x12 r_19.2)
  (Zja x0 x1 x2 x7 x11 x12 r_8.2)
theorem ZLQ (H0:Hp) (x0 x1 x2 x7 x11 x12 x13:AV) (H:Hp):ZkS H0 x0 x1 x2 x7 x11 x12 x13 H=Zx5 (Zja H0) x0 x1 x2 x7 x11 x12 x13 H:=(Za3 [4,8,9] _ _ _ _).trans (by kernel_rfl)
theorem ZMa {Zja dj224_3:A6} (hj224_3:L6 Zja dj224_3):L7 (Zx5 Zja) (Zx5 dj224_3):=fun _ _ _ _ _ _ _ _=>
 bR fun _=>bR fun _=>bR fun _=>bR fun _=>bR fun _=>bR fun _=>bR fun _=>bR fun _=>bR fun _=>bR fun _=>bK (bR fun _=>bR fun _=>bR fun _=>bR fun _=>hj224_3 _ _ _ _ _ _ _) (hj224_3 _ _ _ _ _ _ _)
def Zun (ZkR:A1) (ZkS:A7) (x0 x1 x2 x7 x11 x12:AV) (H:Hp):Res:=
 bnd (ibin .lss x12 x11) fun t13=>
 cnd t13
  (ZkS x0 x1 x2 x7 x11 x12 t13 H)
  (ZkR x7 H)
theorem ZKF (H0:Hp) (x0 x1 x2 x7 x11 x12:AV) (H:Hp):Zba H0 x0 x1 x2 x7 x11 x12 H=Zun (ZkR H0) (ZkS H0) x0 x1 x2 x7 x11 x12 H:=(Zar (C:=cfg) [4,8,9] (Zag 0 (ZCz H0)) _ _).trans (by kernel_rfl)
theorem ZL3 {ZkR dj224_1:A1} (hj224_1:L1 ZkR dj224_1) {ZkS dj224_2:A7} (hj224_2:L7 ZkS dj224_2):L6 (Zun ZkR ZkS) (Zun dj224_1 dj224_2):=fun _ _ _ _ _ _ _=>
 bR fun _=>bK (hj224_2 _ _ _ _ _ _ _ _) (hj224_1 _ _)
def ZD8:A1:=Zx4
theorem ZLq (H0:Hp):L1 (ZD8) (ZkR H0):=fun _ _=>ZdX (ZM9 _ _) (ZLP H0 _ _)
def ZDa (Zba:A6):A6:=Zx6 Zba
theorem ZLs (H0:Hp) {yj224_l1:A6} (hj224_l1:L6 yj224_l1 (Zba H0)):L6 (ZDa yj224_l1) (Zja H0):=fun _ _ _ _ _ _ _=>ZdX (ZMb hj224_l1 _ _ _ _ _ _ _) (ZLR H0 _ _ _ _ _ _ _)
def ZD9 (Zba:A6):A7:=Zx5 (ZDa Zba)
theorem ZLr (H0:Hp) {yj224_l1:A6} (hj224_l1:L6 yj224_l1 (Zba H0)):L7 (ZD9 yj224_l1) (ZkS H0):=fun _ _ _ _ _ _ _ _=>ZdX (ZMa (ZLs H0 hj224_l1) _ _ _ _ _ _ _ _) (ZLQ H0 _ _ _ _ _ _ _ _)
def ZBq (n:Nat):A6:=@Nat.rec (fun _=>A6) (fun _ _ _ _ _ _ _=>none) (fun _ Zba=>Zun (ZD8) (ZD9 Zba)) n
theorem ZJF (H0:Hp) (n:Nat):L6 (ZBq n) (Zba H0):=by
 induction n with
 | zero=>exact fun _ _ _ _ _ _ _=>Zuw _
 | succ n hj224_l1=>exact fun _ _ _ _ _ _ _=>ZdX (ZL3 (ZLq H0) (ZLr H0 hj224_l1) _ _ _ _ _ _ _) (ZKF H0 _ _ _ _ _ _ _)
def ZAb (Zba:A6) (p0 p1 p2:AV) (H:Hp):Res:=
 bnd (Zgj 1 1 false (.int .u8 0) (.int .i64 256) (.int .i64 256) H) fun r9=>
 bnd (Zae (.slice 5) r9.1) fun t11=>
 Zba p0 p1 p2 r9.1 t11 (.int .i64 0) r9.2
theorem ZML (p0 p1 p2:AV) (H:Hp):c224 p0 p1 p2 H=ZAb (Zba H) p0 p1 p2 H:=(Za9 (C:=cfg) (fn:=Tryz.f224) (c:=Za0 Tryz.f224) (n:=40) [4,8,9] Tryz.func224 (by kernel_rfl) (by kernel_rfl) [p0,p1,p2] (by kernel_rfl) H).trans (by kernel_rfl)
theorem ZMU {Zba dj224_l1:A6} (hj224_l1:L6 Zba dj224_l1):L3 (ZAb Zba) (ZAb dj224_l1):=fun _ _ _ _=>
 bR fun _=>bR fun _=>hj224_l1 _ _ _ _ _ _ _
def ZK4:A3:=fun p0 p1 p2 H=>ZAb (ZBq 100000) p0 p1 p2 H
theorem ZMY:L3 ZK4 c224:=fun _ _ _ H=>ZdX (ZMU (ZJF H 100000) _ _ _ _) (ZML _ _ _ _)
def q224:A3:=fun p0 p1 p2 H=>Zaa (Za7 cfg 224) [p0,p1,p2] H
def ZK6:A3:=fun p0 p1 p2 H=>Zaa (ofL3 (ZK4)) [p0,p1,p2] H
theorem ZMZ:L3 ZK6 q224:=fun _ _ _ _=>ZKK (ZLa (ZMY)) _ _

def c187 (H:Hp):Res:=Za7 cfg 187 [] H
def ZkO (H0:Hp) (x0 x1:AV) (H:Hp):Res:=CXf 187 18 (sub (Za0 Tryz.f187) [1,1,1]) (retL cfg 18 187 Tryz.f187 H0) [(0,x0),(1,x1)] H
def Zxz (H0:Hp):KL:=seqL (fun k al H=>CXf 187 18 (sub (Za0 Tryz.f187) [1,1,1]) k (Za8 (cfg.keep 187) (sub (Za0 Tryz.f187) [1,1,1]) al) H) (retL cfg 18 187 Tryz.f187 H0)
theorem ZCy (H0:Hp):Tame 18 (Zxz H0):=Zan (C:=cfg) (kp:=cfg.keep 187) (sub (Za0 Tryz.f187) [1,1,1]) (Zaq 187 Tryz.f187 H0)
def ZkQ (H0:Hp) (x0 x1 x5 x6:AV) (H:Hp):Res:=CXf 187 18 (sub (Za0 Tryz.f187) [1,1,0,1,0,0,1,1,1]) (seqL (fun k al H=>LPf 187 18 (sub (Za0 Tryz.f187) [1,1,0,1,0,0]) k (Za8 (cfg.keep 187) (sub (Za0 Tryz.f187) [1,1,0,1,0,0]) al) H) (Za4 0 (Zxz H0))) [(0,x0),(1,x1),(5,x5),(6,x6)] H
def ZkP (H0:Hp) (x0 x1 x5 x6 x7:AV) (H:Hp):Res:=CXf 187 18 (sub (Za0 Tryz.f187) [1,1,0,1,0,0,1,1]) (seqL (fun k al H=>LPf 187 18 (sub (Za0 Tryz.f187) [1,1,0,1,0,0]) k (Za8 (cfg.keep 187) (sub (Za0 Tryz.f187) [1,1,0,1,0,0]) al) H) (Za4 0 (Zxz H0))) [(0,x0),(1,x1),(5,x5),(6,x6),(7,x7)] H
def Zb9 (H0:Hp) (x0 x1 x5 x6:AV) (H:Hp):Res:=LPf 187 18 (sub (Za0 Tryz.f187) [1,1,0,1,0,0]) (Za4 0 (Zxz H0)) [(0,x0),(1,x1),(5,x5),(6,x6)] H
def Zx1 (q224:A3) (x0 x1:AV) (H:Hp):Res:=
 bnd (q224 (.int .u8 65) (.int .u8 90) (.int .i64 32) H) fun r15=>
 bnd (q224 (.int .u8 97) (.int .u8 122) (.int .i64 (-32)) r15.2) fun r16=>
 bnd ((Zbq [(0,1,(.str [112,111,115,105,120])),(1,1,x1),(2,1,r15.1),(3,1,r16.1)] [(.str []),.nils,(.str []),(.str []),.nils,.nils]).map .agg) fun t17=>
 bnd (Zab 6 x0 t17 r16.2) fun r_6=>
 bnd (Za2 true 6 x0 r_6.2) fun v0=>
 some (v0,r_6.2)
theorem ZLM (H0:Hp) (x0 x1:AV) (H:Hp):ZkO H0 x0 x1 H=Zx1 q224 x0 x1 H:=(Za3 [4,6,7] _ _ _ _).trans (by kernel_rfl)
theorem ZM6 {q224 dq224:A3} (hq224:L3 q224 dq224):L2 (Zx1 q224) (Zx1 dq224):=fun _ _ _=>
 bC (hq224 _ _ _ _) fun _=>bC (hq224 _ _ _ _) fun _=>bR fun _=>bR fun _=>bR fun _=>le_refl _
def Zx3 (Zb9:A4) (x0 x1 x5 x6:AV) (H:Hp):Res:=
 bnd (ibin .add x6 (.int .i64 1)) fun t13=>
 Zb9 x0 x1 x5 t13 H
theorem ZLO (H0:Hp) (x0 x1 x5 x6:AV) (H:Hp):ZkQ H0 x0 x1 x5 x6 H=Zx3 (Zb9 H0) x0 x1 x5 x6 H:=(Za3 [4,6,7] _ _ _ _).trans (by kernel_rfl)
theorem ZM8 {Zb9 dj187_l1:A4} (hj187_l1:L4 Zb9 dj187_l1):L4 (Zx3 Zb9) (Zx3 dj187_l1):=fun _ _ _ _ _=>
 bR fun _=>hj187_l1 _ _ _ _ _
def Zx2 (ZkQ:A4) (x0 x1 x5 x6 x7:AV) (H:Hp):Res:=
 bnd (Zaf 1 x1 x6) fun t12=>
 bnd (Zab 1 t12 x6 H) fun r_12=>
 ZkQ x0 x1 x5 x6 r_12.2
theorem ZLN (H0:Hp) (x0 x1 x5 x6 x7:AV) (H:Hp):ZkP H0 x0 x1 x5 x6 x7 H=Zx2 (ZkQ H0) x0 x1 x5 x6 x7 H:=(Za3 [4,6,7] _ _ _ _).trans (by kernel_rfl)
theorem ZM7 {ZkQ dj187_3:A4} (hj187_3:L4 ZkQ dj187_3):L5 (Zx2 ZkQ) (Zx2 dj187_3):=fun _ _ _ _ _ _=>
 bR fun _=>bR fun _=>hj187_3 _ _ _ _ _
def Zum (ZkO:A2) (ZkP:A5) (x0 x1 x5 x6:AV) (H:Hp):Res:=
 bnd (ibin .lss x6 x5) fun t7=>
 cnd t7
  (ZkP x0 x1 x5 x6 t7 H)
  (ZkO x0 x1 H)
theorem ZKE (H0:Hp) (x0 x1 x5 x6:AV) (H:Hp):Zb9 H0 x0 x1 x5 x6 H=Zum (ZkO H0) (ZkP H0) x0 x1 x5 x6 H:=(Zar (C:=cfg) [4,6,7] (Zag 0 (ZCy H0)) _ _).trans (by kernel_rfl)
theorem ZL2 {ZkO dj187_1:A2} (hj187_1:L2 ZkO dj187_1) {ZkP dj187_2:A5} (hj187_2:L5 ZkP dj187_2):L4 (Zum ZkO ZkP) (Zum dj187_1 dj187_2):=fun _ _ _ _ _=>
 bR fun _=>bK (hj187_2 _ _ _ _ _ _) (hj187_1 _ _ _)
def ZD5:A2:=Zx1 ZK6
theorem ZLn (H0:Hp):L2 (ZD5) (ZkO H0):=fun _ _ _=>ZdX (ZM6 ZMZ _ _ _) (ZLM H0 _ _ _)
def ZD7 (Zb9:A4):A4:=Zx3 Zb9
theorem ZLp (H0:Hp) {yj187_l1:A4} (hj187_l1:L4 yj187_l1 (Zb9 H0)):L4 (ZD7 yj187_l1) (ZkQ H0):=fun _ _ _ _ _=>ZdX (ZM8 hj187_l1 _ _ _ _ _) (ZLO H0 _ _ _ _ _)
def ZD6 (Zb9:A4):A5:=Zx2 (ZD7 Zb9)
theorem ZLo (H0:Hp) {yj187_l1:A4} (hj187_l1:L4 yj187_l1 (Zb9 H0)):L5 (ZD6 yj187_l1) (ZkP H0):=fun _ _ _ _ _ _=>ZdX (ZM7 (ZLp H0 hj187_l1) _ _ _ _ _ _) (ZLN H0 _ _ _ _ _ _)
def ZBp (n:Nat):A4:=@Nat.rec (fun _=>A4) (fun _ _ _ _ _=>none) (fun _ Zb9=>Zum (ZD5) (ZD6 Zb9)) n
theorem ZJE (H0:Hp) (n:Nat):L4 (ZBp n) (Zb9 H0):=by
 induction n with
 | zero=>exact fun _ _ _ _ _=>Zuw _
 | succ n hj187_l1=>exact fun _ _ _ _ _=>ZdX (ZL2 (ZLn H0) (ZLo H0 hj187_l1) _ _ _ _ _) (ZKE H0 _ _ _ _ _)
def ZAa (Zb9:A4) (H:Hp):Res:=
 bnd (some ((.ptr H.length 0),H++[.cells [(.str []),.nils,(.str []),(.str []),.nils,.nils]])) fun r0=>
 bnd (Zgj 1 8 false (.int .i64 0) (.int .i64 256) (.int .i64 256) r0.2) fun r3=>
 bnd (Zae (.slice 3) r3.1) fun t5=>
 Zb9 r0.1 r3.1 t5 (.int .i64 0) r3.2
theorem ZMK (H:Hp):c187 H=ZAa (Zb9 H) H:=(Za9 (C:=cfg) (fn:=Tryz.f187) (c:=Za0 Tryz.f187) (n:=18) [4,6,7] Tryz.func187 (by kernel_rfl) (by kernel_rfl) [] (by kernel_rfl) H).trans (by kernel_rfl)
theorem ZMT {Zb9 dj187_l1:A4} (hj187_l1:L4 Zb9 dj187_l1):L0 (ZAa Zb9) (ZAa dj187_l1):=fun _=>
 bR fun _=>bR fun _=>bR fun _=>hj187_l1 _ _ _ _ _
def ZK3:A0:=fun H=>ZAa (ZBp 100000) H
theorem ZMX:L0 ZK3 c187:=fun H=>ZdX (ZMT (ZJE H 100000) _) (ZMK _)
end
end Go.Am
