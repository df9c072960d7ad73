/-
  Functions of the translation that are worked out at given arguments: written by program (wip/gen.py).
-/
import Derived.Test.YtehanadfidoodaaGreatDoorNkGx
import Derived.Test.YtehanadfidoodaaGreatDoorEmWx
namespace Go.Am
open Go.Proofs
set_option maxRecDepth 100000
noncomputable section
noncomputable abbrev PQ (f n:Nat):=Y1 cfg (Za cfg) (ZQ cfg (cfg.keep f) n) (cfg.keep f) n Zb Z7
noncomputable abbrev LPf (f n:Nat):=ZQ cfg (cfg.keep f) n
def c31 (H:Hp):Z4:=Za cfg 31 [] H
def LO (H0:Hp)(x0 x1 x2 x3:AV)(H:Hp):Z4:=PQ 31 55 (sub (Z1 Tryz.f31) [1,1,1,1]) (Zf cfg 55 31 Tryz.f31 H0) [(0,x0),(1,x1),(2,x2),(3,x3)] H
def Zgq (H0:Hp):KL:=Zb (fun k al H=>PQ 31 55 (sub (Z1 Tryz.f31) [1,1,1,1]) k (ZP (cfg.keep 31) (sub (Z1 Tryz.f31) [1,1,1,1]) al) H) (Zf cfg 55 31 Tryz.f31 H0)
theorem Zol (H0:Hp):ZL 55 (Zgq H0):=Zu (C:=cfg) (kp:=cfg.keep 31) (sub (Z1 Tryz.f31) [1,1,1,1]) (Zv 31 Tryz.f31 H0)
def LR (H0:Hp)(x0 x1 x2 x3 x4:AV)(H:Hp):Z4:=PQ 31 55 (sub (Z1 Tryz.f31) [1,1,1,0,1,0,0,1,1]) (Zb (fun k al H=>LPf 31 55 (sub (Z1 Tryz.f31) [1,1,1,0,1,0,0]) k (ZP (cfg.keep 31) (sub (Z1 Tryz.f31) [1,1,1,0,1,0,0]) al) H) (Z7 0 (Zgq H0))) [(0,x0),(1,x1),(2,x2),(3,x3),(4,x4)] H
def Zun (H0:Hp):KL:=Zb (fun k al H=>PQ 31 55 (sub (Z1 Tryz.f31) [1,1,1,0,1,0,0,1,1]) k (ZP (cfg.keep 31) (sub (Z1 Tryz.f31) [1,1,1,0,1,0,0,1,1]) al) H) (Zb (fun k al H=>LPf 31 55 (sub (Z1 Tryz.f31) [1,1,1,0,1,0,0]) k (ZP (cfg.keep 31) (sub (Z1 Tryz.f31) [1,1,1,0,1,0,0]) al) H) (Z7 0 (Zgq H0)))
def Ps (H0:Hp)(x0 x1 x2 x3 x4 x5 x6:AV)(H:Hp):Z4:=PQ 31 55 (sub (Z1 Tryz.f31) [1,1,1,0,1,0,0,1,0,0,1,1,1]) (Z7 1 (Zun H0)) [(0,x0),(1,x1),(2,x2),(3,x3),(4,x4),(5,x5),(6,x6)] H
def Pr (H0:Hp)(x0 x1 x2 x3 x4 x5 x6:AV)(H:Hp):Z4:=PQ 31 55 (sub (Z1 Tryz.f31) [1,1,1,0,1,0,0,1,0,0,1,1]) (Z7 1 (Zun H0)) [(0,x0),(1,x1),(2,x2),(3,x3),(4,x4),(5,x5),(6,x6)] H
def LQ (H0:Hp)(x0 x1 x2 x3 x4:AV)(H:Hp):Z4:=PQ 31 55 (sub (Z1 Tryz.f31) [1,1,1,0,1,0,0,1]) (Zb (fun k al H=>LPf 31 55 (sub (Z1 Tryz.f31) [1,1,1,0,1,0,0]) k (ZP (cfg.keep 31) (sub (Z1 Tryz.f31) [1,1,1,0,1,0,0]) al) H) (Z7 0 (Zgq H0))) [(0,x0),(1,x1),(2,x2),(3,x3),(4,x4)] H
def Yt (H0:Hp)(x0 x1 x2 x3 x4:AV)(H:Hp):Z4:=LPf 31 55 (sub (Z1 Tryz.f31) [1,1,1,0,1,0,0]) (Z7 0 (Zgq H0)) [(0,x0),(1,x1),(2,x2),(3,x3),(4,x4)] H
def ZjB (x0 x1 x2 x3:AV)(H:Hp):Z4:=
 Z0 (UE x2 H) fun t49=>
 Z0 (Z8 2 x1) fun t50=>
 Z0 (Zi 1 t50 t49 H) fun r_7=>
 Z0 (UE x3 r_7.2) fun t52=>
 Z0 (Z8 3 x1) fun t53=>
 Z0 (Zi 1 t53 t52 r_7.2) fun r_10=>
 Z0 (Z3 true 6 x1 r_10.2) fun t54=>
 Z0 (Zi 6 x0 t54 r_10.2) fun r_12=>
 Z0 (Z3 true 6 x0 r_12.2) fun v0=>
 some (v0,r_12.2)
theorem Zx1 (H0:Hp)(x0 x1 x2 x3:AV)(H:Hp):LO H0 x0 x1 x2 x3 H=ZjB x0 x1 x2 x3 H:=(VI [5,6,9,11,14] _ _ _ _).trans (by kernel_rfl)
theorem Zxb:L4 (ZjB) (ZjB):=fun _ _ _ _ _=>
 bR fun _=>bR fun _=>bR fun _=>bR fun _=>bR fun _=>bR fun _=>bR fun _=>bR fun _=>bR fun _=>le_refl _
def ZjD (Yt:A5)(x0 x1 x2 x3 x4:AV)(H:Hp):Z4:=
 Z0 (Z5 .add x4 (.int .i64 1)) fun t11=>
 Yt x0 x1 x2 x3 t11 H
theorem Zx3 (H0:Hp)(x0 x1 x2 x3 x4:AV)(H:Hp):LR H0 x0 x1 x2 x3 x4 H=ZjD (Yt H0) x0 x1 x2 x3 x4 H:=(VI [5,6,9,11,14] _ _ _ _).trans (by kernel_rfl)
theorem Zxd {Yt dj31_l1:A5}(hj31_l1:L5 Yt dj31_l1):L5 (ZjD Yt) (ZjD dj31_l1):=fun _ _ _ _ _ _=>
 bR fun _=>hj31_l1 _ _ _ _ _ _
def ZjF (LR:A5)(x0 x1 x2 x3 x4 x5 x6:AV)(H:Hp):Z4:=
 Z0 (Z8 1 x1) fun t34=>
 Z0 (Z3 false 1 t34 H) fun t35=>
 Z0 ((Zz 1 [(0,x4)] [(.int .i64 0)]).map (.vs 1 .clip)) fun t37=>
 Z0 (ZS 1 8 t35 t37 H) fun r38=>
 Z0 (Z8 1 x1) fun t39=>
 Z0 (Zi 1 t39 r38.1 r38.2) fun r_22=>
 Z0 ((Zz 1 [(0,x5)] [(.int .u8 0)]).map (.vs 1 .clip)) fun t42=>
 Z0 (ZS 1 1 x2 t42 r_22.2) fun r43=>
 Z0 ((Zz 1 [(0,x6)] [(.int .u8 0)]).map (.vs 1 .clip)) fun t46=>
 Z0 (ZS 1 1 x3 t46 r43.2) fun r47=>
 LR x0 x1 r43.1 r47.1 x4 r47.2
theorem Zx5 (H0:Hp)(x0 x1 x2 x3 x4 x5 x6:AV)(H:Hp):Ps H0 x0 x1 x2 x3 x4 x5 x6 H=ZjF (LR H0) x0 x1 x2 x3 x4 x5 x6 H:=(VI [5,6,9,11,14] _ _ _ _).trans (by kernel_rfl)
theorem Zxf {LR dj31_3:A5}(hj31_3:L5 LR dj31_3):L7 (ZjF LR) (ZjF dj31_3):=fun _ _ _ _ _ _ _ _=>
 bR fun _=>bR fun _=>bR fun _=>bR fun _=>bR fun _=>bR fun _=>bR fun _=>bR fun _=>bR fun _=>bR fun _=>hj31_3 _ _ _ _ _ _
def ZjE (Ps:A7)(x0 x1 x2 x3 x4 x5 x6:AV)(H:Hp):Z4:=
 Z0 (Z5 .geq x4 (.int .i64 97)) fun t26=>
 Z0 (Z6 t26 true (.tuple []) (some x4)) fun t28=>
 Z0 (Z6 t26 true (.tuple []) (Z5 .leq t28 (.int .i64 122))) fun t29=>
 Z0 (Zg t26 t29 (.bool false)) fun t30=>
 Zk t30
  (Z0 (Z5 .sub x4 (.int .i64 32)) fun t32=>
  Z0 (Yg .u8 t32) fun t33=>
  Ps x0 x1 x2 x3 x4 x5 t33 H)
  (Ps x0 x1 x2 x3 x4 x5 x6 H)
theorem Zx4 (H0:Hp)(x0 x1 x2 x3 x4 x5 x6:AV)(H:Hp):Pr H0 x0 x1 x2 x3 x4 x5 x6 H=ZjE (Ps H0) x0 x1 x2 x3 x4 x5 x6 H:=(VI [5,6,9,11,14] _ _ _ _).trans (by kernel_rfl)
theorem Zxe {Ps dj31_5:A7}(hj31_5:L7 Ps dj31_5):L7 (ZjE Ps) (ZjE dj31_5):=fun _ _ _ _ _ _ _ _=>
 bR fun _=>bR fun _=>bR fun _=>bR fun _=>bK (bR fun _=>bR fun _=>hj31_5 _ _ _ _ _ _ _ _) (hj31_5 _ _ _ _ _ _ _ _)
def ZjC (Pr:A7)(x0 x1 x2 x3 x4:AV)(H:Hp):Z4:=
 Z0 (Yg .u8 x4) fun t13=>
 Z0 (Yg .u8 x4) fun t15=>
 Z0 (Z5 .geq x4 (.int .i64 65)) fun t17=>
 Z0 (Z6 t17 true (.tuple []) (some x4)) fun t19=>
 Z0 (Z6 t17 true (.tuple []) (Z5 .leq t19 (.int .i64 90))) fun t20=>
 Z0 (Zg t17 t20 (.bool false)) fun t21=>
 Zk t21
  (Z0 (Z5 .add x4 (.int .i64 32)) fun t23=>
  Z0 (Yg .u8 t23) fun t24=>
  Pr x0 x1 x2 x3 x4 t24 t15 H)
  (Pr x0 x1 x2 x3 x4 t13 t15 H)
theorem Zx2 (H0:Hp)(x0 x1 x2 x3 x4:AV)(H:Hp):LQ H0 x0 x1 x2 x3 x4 H=ZjC (Pr H0) x0 x1 x2 x3 x4 H:=(VI [5,6,9,11,14] _ _ _ _).trans (by kernel_rfl)
theorem Zxc {Pr dj31_4:A7}(hj31_4:L7 Pr dj31_4):L5 (ZjC Pr) (ZjC dj31_4):=fun _ _ _ _ _ _=>
 bR fun _=>bR fun _=>bR fun _=>bR fun _=>bR fun _=>bR fun _=>bK (bR fun _=>bR fun _=>hj31_4 _ _ _ _ _ _ _ _) (hj31_4 _ _ _ _ _ _ _ _)
def ZfV (LO:A4)(LQ:A5)(x0 x1 x2 x3 x4:AV)(H:Hp):Z4:=
 Z0 (Z5 .lss x4 (.int .i64 256)) fun t9=>
 Zk t9
  (LQ x0 x1 x2 x3 x4 H)
  (LO x0 x1 x2 x3 H)
theorem Zwh (H0:Hp)(x0 x1 x2 x3 x4:AV)(H:Hp):Yt H0 x0 x1 x2 x3 x4 H=ZfV (LO H0) (LQ H0) x0 x1 x2 x3 x4 H:=(Zx (C:=cfg) [5,6,9,11,14] (Zm 0 (Zol H0)) _ _).trans (by kernel_rfl)
theorem ZwC {LO dj31_1:A4}(hj31_1:L4 LO dj31_1){LQ dj31_2:A5}(hj31_2:L5 LQ dj31_2):L5 (ZfV LO LQ) (ZfV dj31_1 dj31_2):=fun _ _ _ _ _ _=>
 bR fun _=>bK (hj31_2 _ _ _ _ _ _) (hj31_1 _ _ _ _ _)
def Zrl:A4:=ZjB
theorem ZwL (H0:Hp):L4 (Zrl) (LO H0):=fun _ _ _ _ _=>VV (Zxb _ _ _ _ _) (Zx1 H0 _ _ _ _ _)
def Zrn (Yt:A5):A5:=ZjD Yt
theorem ZwN (H0:Hp){yj31_l1:A5}(hj31_l1:L5 yj31_l1 (Yt H0)):L5 (Zrn yj31_l1) (LR H0):=fun _ _ _ _ _ _=>VV (Zxd hj31_l1 _ _ _ _ _ _) (Zx3 H0 _ _ _ _ _ _)
def Zrp (Yt:A5):A7:=ZjF (Zrn Yt)
theorem ZwP (H0:Hp){yj31_l1:A5}(hj31_l1:L5 yj31_l1 (Yt H0)):L7 (Zrp yj31_l1) (Ps H0):=fun _ _ _ _ _ _ _ _=>VV (Zxf (ZwN H0 hj31_l1) _ _ _ _ _ _ _ _) (Zx5 H0 _ _ _ _ _ _ _ _)
def Zro (Yt:A5):A7:=ZjE (Zrp Yt)
theorem ZwO (H0:Hp){yj31_l1:A5}(hj31_l1:L5 yj31_l1 (Yt H0)):L7 (Zro yj31_l1) (Pr H0):=fun _ _ _ _ _ _ _ _=>VV (Zxe (ZwP H0 hj31_l1) _ _ _ _ _ _ _ _) (Zx4 H0 _ _ _ _ _ _ _ _)
def Zrm (Yt:A5):A5:=ZjC (Zro Yt)
theorem ZwM (H0:Hp){yj31_l1:A5}(hj31_l1:L5 yj31_l1 (Yt H0)):L5 (Zrm yj31_l1) (LQ H0):=fun _ _ _ _ _ _=>VV (Zxc (ZwO H0 hj31_l1) _ _ _ _ _ _) (Zx2 H0 _ _ _ _ _ _)
def ZmW (n:Nat):A5:=@Nat.rec (fun _=>A5) (fun _ _ _ _ _ _=>none) (fun _ Yt=>ZfV (Zrl) (Zrm Yt)) n
theorem ZvK (H0:Hp)(n:Nat):L5 (ZmW n) (Yt H0):=by
 induction n with
 |zero=>exact fun _ _ _ _ _ _=>Zbo _
 |succ n hj31_l1=>exact fun _ _ _ _ _ _=>VV (ZwC (ZwL H0) (ZwM H0 hj31_l1) _ _ _ _ _ _) (Zwh H0 _ _ _ _ _ _)
def Znz (Yt:A5)(H:Hp):Z4:=
 Z0 (some ((.ptr H.length 0),H++[.cells [(.str []),.nils,(.str []),(.str []),.nils,.nils]])) fun r0=>
 Z0 ((Yn [(0,1,(.str [112,111,115,105,120]))] [(.str []),.nils,(.str []),(.str []),.nils,.nils]).map .agg) fun t7=>
 Z0 (some ((.ptr r0.2.length 0),r0.2++[.cells [(.str []),.nils,(.str []),(.str []),.nils,.nils]])) fun r1=>
 Z0 (Zi 6 r1.1 t7 r1.2) fun r_4=>
 Yt r0.1 r1.1 .nils .nils (.int .i64 0) r_4.2
theorem Zxw (H:Hp):c31 H=Znz (Yt H) H:=(Zd (C:=cfg) (fn:=Tryz.f31) (c:=Z1 Tryz.f31) (n:=55) [5,6,9,11,14] Tryz.func31 (by kernel_rfl) (by kernel_rfl) [] (by kernel_rfl) H).trans (by kernel_rfl)
theorem Zxy {Yt dj31_l1:A5}(hj31_l1:L5 Yt dj31_l1):L0 (Znz Yt) (Znz dj31_l1):=fun _=>
 bR fun _=>bR fun _=>bR fun _=>bR fun _=>hj31_l1 _ _ _ _ _ _
def ZwH:A0:=fun H=>Znz (ZmW 100000) H
theorem ZxA:L0 ZwH c31:=fun H=>VV (Zxy (ZvK H 100000) _) (Zxw _)
def Zw7 (p0 p1 p2:AV)(H:Hp):Z4:=Za cfg 224 [p0,p1,p2] H
def RM (H0:Hp)(x7:AV)(H:Hp):Z4:=PQ 224 40 (sub (Z1 Tryz.f224) [1,1,1]) (Zf cfg 40 224 Tryz.f224 H0) [(7,x7)] H
def Zgp (H0:Hp):KL:=Zb (fun k al H=>PQ 224 40 (sub (Z1 Tryz.f224) [1,1,1]) k (ZP (cfg.keep 224) (sub (Z1 Tryz.f224) [1,1,1]) al) H) (Zf cfg 40 224 Tryz.f224 H0)
theorem Zml (H0:Hp):ZL 40 (Zgp H0):=Zu (C:=cfg) (kp:=cfg.keep 224) (sub (Z1 Tryz.f224) [1,1,1]) (Zv 224 Tryz.f224 H0)
def DF (H0:Hp)(x0 x1 x2 x7 x11 x12:AV)(H:Hp):Z4:=PQ 224 40 (sub (Z1 Tryz.f224) [1,1,0,1,0,0,1,1,1]) (Zb (fun k al H=>LPf 224 40 (sub (Z1 Tryz.f224) [1,1,0,1,0,0]) k (ZP (cfg.keep 224) (sub (Z1 Tryz.f224) [1,1,0,1,0,0]) al) H) (Z7 0 (Zgp H0))) [(0,x0),(1,x1),(2,x2),(7,x7),(11,x11),(12,x12)] H
def RN (H0:Hp)(x0 x1 x2 x7 x11 x12 x13:AV)(H:Hp):Z4:=PQ 224 40 (sub (Z1 Tryz.f224) [1,1,0,1,0,0,1,1]) (Zb (fun k al H=>LPf 224 40 (sub (Z1 Tryz.f224) [1,1,0,1,0,0]) k (ZP (cfg.keep 224) (sub (Z1 Tryz.f224) [1,1,0,1,0,0]) al) H) (Z7 0 (Zgp H0))) [(0,x0),(1,x1),(2,x2),(7,x7),(11,x11),(12,x12),(13,x13)] H
def YE (H0:Hp)(x0 x1 x2 x7 x11 x12:AV)(H:Hp):Z4:=LPf 224 40 (sub (Z1 Tryz.f224) [1,1,0,1,0,0]) (Z7 0 (Zgp H0)) [(0,x0),(1,x1),(2,x2),(7,x7),(11,x11),(12,x12)] H
def ZfS (x7:AV)(H:Hp):Z4:=
 Z0 (UE x7 H) fun t39=>
 some (t39,H)
theorem Zwe (H0:Hp)(x7:AV)(H:Hp):RM H0 x7 H=ZfS x7 H:=(VI [4,8,9] _ _ _ _).trans (by kernel_rfl)
theorem Zwz:L1 (ZfS) (ZfS):=fun _ _=>
 bR fun _=>le_refl _
def ZfU (YE:A6)(x0 x1 x2 x7 x11 x12:AV)(H:Hp):Z4:=
 Z0 (Z5 .add x12 (.int .i64 1)) fun t37=>
 YE x0 x1 x2 x7 x11 t37 H
theorem Zwg (H0:Hp)(x0 x1 x2 x7 x11 x12:AV)(H:Hp):DF H0 x0 x1 x2 x7 x11 x12 H=ZfU (YE H0) x0 x1 x2 x7 x11 x12 H:=(VI [4,8,9] _ _ _ _).trans (by kernel_rfl)
theorem ZwB {YE dj224_l1:A6}(hj224_l1:L6 YE dj224_l1):L6 (ZfU YE) (ZfU dj224_l1):=fun _ _ _ _ _ _ _=>
 bR fun _=>hj224_l1 _ _ _ _ _ _ _
def ZfT (DF:A6)(x0 x1 x2 x7 x11 x12 x13:AV)(H:Hp):Z4:=
 Z0 (Yg .u8 x12) fun t18=>
 Z0 (Zl 1 x7 x12) fun t19=>
 Z0 (Zi 1 t19 t18 H) fun r_8=>
 Z0 (Yg .u8 x12) fun t21=>
 Z0 (Z5 .geq t21 x0) fun t23=>
 Z0 (Z6 t23 true (.tuple []) (some x12)) fun t25=>
 Z0 (Z6 t23 true (.tuple []) (Yg .u8 t25)) fun t26=>
 Z0 (Z6 t23 true (.tuple []) (some x1)) fun t27=>
 Z0 (Z6 t23 true (.tuple []) (Z5 .leq t26 t27)) fun t28=>
 Z0 (Zg t23 t28 (.bool false)) fun t29=>
 Zk t29
  (Z0 (Z5 .add x12 x2) fun t34=>
  Z0 (Yg .u8 t34) fun t35=>
  Z0 (Zl 1 x7 x12) fun t36=>
  Z0 (Zi 1 t36 t35 r_8.2) fun r_19=>
  DF x0 x1 x2 x7 x11 x12 r_19.2)
  (DF x0 x1 x2 x7 x11 x12 r_8.2)
theorem Zwf (H0:Hp)(x0 x1 x2 x7 x11 x12 x13:AV)(H:Hp):RN H0 x0 x1 x2 x7 x11 x12 x13 H=ZfT (DF H0) x0 x1 x2 x7 x11 x12 x13 H:=(VI [4,8,9] _ _ _ _).trans (by kernel_rfl)
theorem ZwA {DF dj224_3:A6}(hj224_3:L6 DF dj224_3):L7 (ZfT DF) (ZfT dj224_3):=fun _ _ _ _ _ _ _ _=>
 bR fun _=>bR fun _=>bR fun _=>bR fun _=>bR fun _=>bR fun _=>bR fun _=>bR fun _=>bR fun _=>bR fun _=>bK (bR fun _=>bR fun _=>bR fun _=>bR fun _=>hj224_3 _ _ _ _ _ _ _) (hj224_3 _ _ _ _ _ _ _)
def Zbg (RM:A1)(RN:A7)(x0 x1 x2 x7 x11 x12:AV)(H:Hp):Z4:=
 Z0 (Z5 .lss x12 x11) fun t13=>
 Zk t13
  (RN x0 x1 x2 x7 x11 x12 t13 H)
  (RM x7 H)
theorem Zv0 (H0:Hp)(x0 x1 x2 x7 x11 x12:AV)(H:Hp):YE H0 x0 x1 x2 x7 x11 x12 H=Zbg (RM H0) (RN H0) x0 x1 x2 x7 x11 x12 H:=(Zx (C:=cfg) [4,8,9] (Zm 0 (Zml H0)) _ _).trans (by kernel_rfl)
theorem Zvm {RM dj224_1:A1}(hj224_1:L1 RM dj224_1){RN dj224_2:A7}(hj224_2:L7 RN dj224_2):L6 (Zbg RM RN) (Zbg dj224_1 dj224_2):=fun _ _ _ _ _ _ _=>
 bR fun _=>bK (hj224_2 _ _ _ _ _ _ _ _) (hj224_1 _ _)
def ZmT:A1:=ZfS
theorem ZvH (H0:Hp):L1 (ZmT) (RM H0):=fun _ _=>VV (Zwz _ _) (Zwe H0 _ _)
def ZmV (YE:A6):A6:=ZfU YE
theorem ZvJ (H0:Hp){yj224_l1:A6}(hj224_l1:L6 yj224_l1 (YE H0)):L6 (ZmV yj224_l1) (DF H0):=fun _ _ _ _ _ _ _=>VV (ZwB hj224_l1 _ _ _ _ _ _ _) (Zwg H0 _ _ _ _ _ _ _)
def ZmU (YE:A6):A7:=ZfT (ZmV YE)
theorem ZvI (H0:Hp){yj224_l1:A6}(hj224_l1:L6 yj224_l1 (YE H0)):L7 (ZmU yj224_l1) (RN H0):=fun _ _ _ _ _ _ _ _=>VV (ZwA (ZvJ H0 hj224_l1) _ _ _ _ _ _ _ _) (Zwf H0 _ _ _ _ _ _ _ _)
def Zlb (n:Nat):A6:=@Nat.rec (fun _=>A6) (fun _ _ _ _ _ _ _=>none) (fun _ YE=>Zbg (ZmT) (ZmU YE)) n
theorem ZtW (H0:Hp)(n:Nat):L6 (Zlb n) (YE H0):=by
 induction n with
 |zero=>exact fun _ _ _ _ _ _ _=>Zbo _
 |succ n hj224_l1=>exact fun _ _ _ _ _ _ _=>VV (Zvm (ZvH H0) (ZvI H0 hj224_l1) _ _ _ _ _ _ _) (Zv0 H0 _ _ _ _ _ _ _)
def ZjH (YE:A6)(p0 p1 p2:AV)(H:Hp):Z4:=
 Z0 (VN 1 1 false (.int .u8 0) (.int .i64 256) (.int .i64 256) H) fun r9=>
 Z0 (Zj (.slice 5) r9.1) fun t11=>
 YE p0 p1 p2 r9.1 t11 (.int .i64 0) r9.2
theorem Zx7 (p0 p1 p2:AV)(H:Hp):Zw7 p0 p1 p2 H=ZjH (YE H) p0 p1 p2 H:=(Zd (C:=cfg) (fn:=Tryz.f224) (c:=Z1 Tryz.f224) (n:=40) [4,8,9] Tryz.func224 (by kernel_rfl) (by kernel_rfl) [p0,p1,p2] (by kernel_rfl) H).trans (by kernel_rfl)
theorem Zxh {YE dj224_l1:A6}(hj224_l1:L6 YE dj224_l1):L3 (ZjH YE) (ZjH dj224_l1):=fun _ _ _ _=>
 bR fun _=>bR fun _=>hj224_l1 _ _ _ _ _ _ _
def Zup:A3:=fun p0 p1 p2 H=>ZjH (Zlb 100000) p0 p1 p2 H
theorem Zxl:L3 Zup Zw7:=fun _ _ _ H=>VV (Zxh (ZtW H 100000) _ _ _ _) (Zx7 _ _ _ _)
def ZaX:A3:=fun p0 p1 p2 H=>Zc (Za cfg 224) [p0,p1,p2] H
def Zur:A3:=fun p0 p1 p2 H=>Zc (ZtC (Zup)) [p0,p1,p2] H
theorem Zxm:L3 Zur ZaX:=fun _ _ _ _=>Zv5 (Zvs (Zxl)) _ _
def Zw6 (H:Hp):Z4:=Za cfg 187 [] H
def RJ (H0:Hp)(x0 x1:AV)(H:Hp):Z4:=PQ 187 18 (sub (Z1 Tryz.f187) [1,1,1]) (Zf cfg 18 187 Tryz.f187 H0) [(0,x0),(1,x1)] H
def Zgo (H0:Hp):KL:=Zb (fun k al H=>PQ 187 18 (sub (Z1 Tryz.f187) [1,1,1]) k (ZP (cfg.keep 187) (sub (Z1 Tryz.f187) [1,1,1]) al) H) (Zf cfg 18 187 Tryz.f187 H0)
theorem Zmk (H0:Hp):ZL 18 (Zgo H0):=Zu (C:=cfg) (kp:=cfg.keep 187) (sub (Z1 Tryz.f187) [1,1,1]) (Zv 187 Tryz.f187 H0)
def RL (H0:Hp)(x0 x1 x5 x6:AV)(H:Hp):Z4:=PQ 187 18 (sub (Z1 Tryz.f187) [1,1,0,1,0,0,1,1,1]) (Zb (fun k al H=>LPf 187 18 (sub (Z1 Tryz.f187) [1,1,0,1,0,0]) k (ZP (cfg.keep 187) (sub (Z1 Tryz.f187) [1,1,0,1,0,0]) al) H) (Z7 0 (Zgo H0))) [(0,x0),(1,x1),(5,x5),(6,x6)] H
def RK (H0:Hp)(x0 x1 x5 x6 x7:AV)(H:Hp):Z4:=PQ 187 18 (sub (Z1 Tryz.f187) [1,1,0,1,0,0,1,1]) (Zb (fun k al H=>LPf 187 18 (sub (Z1 Tryz.f187) [1,1,0,1,0,0]) k (ZP (cfg.keep 187) (sub (Z1 Tryz.f187) [1,1,0,1,0,0]) al) H) (Z7 0 (Zgo H0))) [(0,x0),(1,x1),(5,x5),(6,x6),(7,x7)] H
def YD (H0:Hp)(x0 x1 x5 x6:AV)(H:Hp):Z4:=LPf 187 18 (sub (Z1 Tryz.f187) [1,1,0,1,0,0]) (Z7 0 (Zgo H0)) [(0,x0),(1,x1),(5,x5),(6,x6)] H
def ZfP (ZaX:A3)(x0 x1:AV)(H:Hp):Z4:=
 Z0 (ZaX (.int .u8 65) (.int .u8 90) (.int .i64 32) H) fun r15=>
 Z0 (ZaX (.int .u8 97) (.int .u8 122) (.int .i64 (-32)) r15.2) fun r16=>
 Z0 ((Yn [(0,1,(.str [112,111,115,105,120])),(1,1,x1),(2,1,r15.1),(3,1,r16.1)] [(.str []),.nils,(.str []),(.str []),.nils,.nils]).map .agg) fun t17=>
 Z0 (Zi 6 x0 t17 r16.2) fun r_6=>
 Z0 (Z3 true 6 x0 r_6.2) fun v0=>
 some (v0,r_6.2)
theorem Zwb (H0:Hp)(x0 x1:AV)(H:Hp):RJ H0 x0 x1 H=ZfP ZaX x0 x1 H:=(VI [4,6,7] _ _ _ _).trans (by kernel_rfl)
theorem Zww {ZaX dq224:A3}(hq224:L3 ZaX dq224):L2 (ZfP ZaX) (ZfP dq224):=fun _ _ _=>
 bC (hq224 _ _ _ _) fun _=>bC (hq224 _ _ _ _) fun _=>bR fun _=>bR fun _=>bR fun _=>le_refl _
def ZfR (YD:A4)(x0 x1 x5 x6:AV)(H:Hp):Z4:=
 Z0 (Z5 .add x6 (.int .i64 1)) fun t13=>
 YD x0 x1 x5 t13 H
theorem Zwd (H0:Hp)(x0 x1 x5 x6:AV)(H:Hp):RL H0 x0 x1 x5 x6 H=ZfR (YD H0) x0 x1 x5 x6 H:=(VI [4,6,7] _ _ _ _).trans (by kernel_rfl)
theorem Zwy {YD dj187_l1:A4}(hj187_l1:L4 YD dj187_l1):L4 (ZfR YD) (ZfR dj187_l1):=fun _ _ _ _ _=>
 bR fun _=>hj187_l1 _ _ _ _ _
def ZfQ (RL:A4)(x0 x1 x5 x6 x7:AV)(H:Hp):Z4:=
 Z0 (Zl 1 x1 x6) fun t12=>
 Z0 (Zi 1 t12 x6 H) fun r_12=>
 RL x0 x1 x5 x6 r_12.2
theorem Zwc (H0:Hp)(x0 x1 x5 x6 x7:AV)(H:Hp):RK H0 x0 x1 x5 x6 x7 H=ZfQ (RL H0) x0 x1 x5 x6 x7 H:=(VI [4,6,7] _ _ _ _).trans (by kernel_rfl)
theorem Zwx {RL dj187_3:A4}(hj187_3:L4 RL dj187_3):L5 (ZfQ RL) (ZfQ dj187_3):=fun _ _ _ _ _ _=>
 bR fun _=>bR fun _=>hj187_3 _ _ _ _ _
def Zbf (RJ:A2)(RK:A5)(x0 x1 x5 x6:AV)(H:Hp):Z4:=
 Z0 (Z5 .lss x6 x5) fun t7=>
 Zk t7
  (RK x0 x1 x5 x6 t7 H)
  (RJ x0 x1 H)
theorem ZuZ (H0:Hp)(x0 x1 x5 x6:AV)(H:Hp):YD H0 x0 x1 x5 x6 H=Zbf (RJ H0) (RK H0) x0 x1 x5 x6 H:=(Zx (C:=cfg) [4,6,7] (Zm 0 (Zmk H0)) _ _).trans (by kernel_rfl)
theorem Zvl {RJ dj187_1:A2}(hj187_1:L2 RJ dj187_1){RK dj187_2:A5}(hj187_2:L5 RK dj187_2):L4 (Zbf RJ RK) (Zbf dj187_1 dj187_2):=fun _ _ _ _ _=>
 bR fun _=>bK (hj187_2 _ _ _ _ _ _) (hj187_1 _ _ _)
def ZmQ:A2:=ZfP Zur
theorem ZvE (H0:Hp):L2 (ZmQ) (RJ H0):=fun _ _ _=>VV (Zww Zxm _ _ _) (Zwb H0 _ _ _)
def ZmS (YD:A4):A4:=ZfR YD
theorem ZvG (H0:Hp){yj187_l1:A4}(hj187_l1:L4 yj187_l1 (YD H0)):L4 (ZmS yj187_l1) (RL H0):=fun _ _ _ _ _=>VV (Zwy hj187_l1 _ _ _ _ _) (Zwd H0 _ _ _ _ _)
def ZmR (YD:A4):A5:=ZfQ (ZmS YD)
theorem ZvF (H0:Hp){yj187_l1:A4}(hj187_l1:L4 yj187_l1 (YD H0)):L5 (ZmR yj187_l1) (RK H0):=fun _ _ _ _ _ _=>VV (Zwx (ZvG H0 hj187_l1) _ _ _ _ _ _) (Zwc H0 _ _ _ _ _ _)
def Zla (n:Nat):A4:=@Nat.rec (fun _=>A4) (fun _ _ _ _ _=>none) (fun _ YD=>Zbf (ZmQ) (ZmR YD)) n
theorem ZtV (H0:Hp)(n:Nat):L4 (Zla n) (YD H0):=by
 induction n with
 |zero=>exact fun _ _ _ _ _=>Zbo _
 |succ n hj187_l1=>exact fun _ _ _ _ _=>VV (Zvl (ZvE H0) (ZvF H0 hj187_l1) _ _ _ _ _) (ZuZ H0 _ _ _ _ _)
def ZjG (YD:A4)(H:Hp):Z4:=
 Z0 (some ((.ptr H.length 0),H++[.cells [(.str []),.nils,(.str []),(.str []),.nils,.nils]])) fun r0=>
 Z0 (VN 1 8 false (.int .i64 0) (.int .i64 256) (.int .i64 256) r0.2) fun r3=>
 Z0 (Zj (.slice 3) r3.1) fun t5=>
 YD r0.1 r3.1 t5 (.int .i64 0) r3.2
theorem Zx6 (H:Hp):Zw6 H=ZjG (YD H) H:=(Zd (C:=cfg) (fn:=Tryz.f187) (c:=Z1 Tryz.f187) (n:=18) [4,6,7] Tryz.func187 (by kernel_rfl) (by kernel_rfl) [] (by kernel_rfl) H).trans (by kernel_rfl)
theorem Zxg {YD dj187_l1:A4}(hj187_l1:L4 YD dj187_l1):L0 (ZjG YD) (ZjG dj187_l1):=fun _=>
 bR fun _=>bR fun _=>bR fun _=>hj187_l1 _ _ _ _ _
def Zuo:A0:=fun H=>ZjG (Zla 100000) H
theorem Zxk:L0 Zuo Zw6:=fun H=>VV (Zxg (ZtV H 100000) _) (Zx6 _)
end
end Go.Am
