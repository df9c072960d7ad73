/-
  Functions of the translation that are worked out at given arguments: written by program (wip/gen.py).
-/
import Derived.Test.YtehanadfidoodaaGreatDoorNkGx
import Derived.Test.YtehanadfidoodaaGreatDoorEmWx
namespace Go.Am
open Go.Proofs
set_option maxRecDepth 100000
set_option linter.unusedVariables false
noncomputable section
noncomputable abbrev TE (f n:Nat):=Yl cfg (Za cfg) (Y8 cfg (cfg.keep f) n) (cfg.keep f) n Zd Z7
noncomputable abbrev IX (f n:Nat):=Y8 cfg (cfg.keep f) n
def c31 (H:Hp):Z3:=Za cfg 31 [] H
def NW (H0:Hp)(x0 x1 x2 x3:AV)(H:Hp):Z3:=TE 31 55 (sub (Z1 Tryz.f31) [1,1,1,1]) (Zi cfg 55 31 Tryz.f31 H0) [(0,x0),(1,x1),(2,x2),(3,x3)] H
def Zbz (H0:Hp):KL:=Zd (fun k al H=>TE 31 55 (sub (Z1 Tryz.f31) [1,1,1,1]) k (ZR (cfg.keep 31) (sub (Z1 Tryz.f31) [1,1,1,1]) al) H) (Zi cfg 55 31 Tryz.f31 H0)
theorem Zj1 (H0:Hp):ZT 55 (Zbz H0):=Zw (C:=cfg) (kp:=cfg.keep 31) (sub (Z1 Tryz.f31) [1,1,1,1]) (ZA 31 Tryz.f31 H0)
def NY (H0:Hp)(x0 x1 x2 x3 x4:AV)(H:Hp):Z3:=TE 31 55 (sub (Z1 Tryz.f31) [1,1,1,0,1,0,0,1,1]) (Zd (fun k al H=>IX 31 55 (sub (Z1 Tryz.f31) [1,1,1,0,1,0,0]) k (ZR (cfg.keep 31) (sub (Z1 Tryz.f31) [1,1,1,0,1,0,0]) al) H) (Z7 0 (Zbz H0))) [(0,x0),(1,x1),(2,x2),(3,x3),(4,x4)] H
def Zp4 (H0:Hp):KL:=Zd (fun k al H=>TE 31 55 (sub (Z1 Tryz.f31) [1,1,1,0,1,0,0,1,1]) k (ZR (cfg.keep 31) (sub (Z1 Tryz.f31) [1,1,1,0,1,0,0,1,1]) al) H) (Zd (fun k al H=>IX 31 55 (sub (Z1 Tryz.f31) [1,1,1,0,1,0,0]) k (ZR (cfg.keep 31) (sub (Z1 Tryz.f31) [1,1,1,0,1,0,0]) al) H) (Z7 0 (Zbz H0)))
def Ti (H0:Hp)(x0 x1 x2 x3 x4 x5 x6:AV)(H:Hp):Z3:=TE 31 55 (sub (Z1 Tryz.f31) [1,1,1,0,1,0,0,1,0,0,1,1,1]) (Z7 1 (Zp4 H0)) [(0,x0),(1,x1),(2,x2),(3,x3),(4,x4),(5,x5),(6,x6)] H
def Th (H0:Hp)(x0 x1 x2 x3 x4 x5 x6:AV)(H:Hp):Z3:=TE 31 55 (sub (Z1 Tryz.f31) [1,1,1,0,1,0,0,1,0,0,1,1]) (Z7 1 (Zp4 H0)) [(0,x0),(1,x1),(2,x2),(3,x3),(4,x4),(5,x5),(6,x6)] H
def NX (H0:Hp)(x0 x1 x2 x3 x4:AV)(H:Hp):Z3:=TE 31 55 (sub (Z1 Tryz.f31) [1,1,1,0,1,0,0,1]) (Zd (fun k al H=>IX 31 55 (sub (Z1 Tryz.f31) [1,1,1,0,1,0,0]) k (ZR (cfg.keep 31) (sub (Z1 Tryz.f31) [1,1,1,0,1,0,0]) al) H) (Z7 0 (Zbz H0))) [(0,x0),(1,x1),(2,x2),(3,x3),(4,x4)] H
def Ys (H0:Hp)(x0 x1 x2 x3 x4:AV)(H:Hp):Z3:=IX 31 55 (sub (Z1 Tryz.f31) [1,1,1,0,1,0,0]) (Z7 0 (Zbz H0)) [(0,x0),(1,x1),(2,x2),(3,x3),(4,x4)] H
def Zec (x0 x1 x2 x3:AV)(H:Hp):Z3:=
 Z0 (Q2 x2 H) fun t49=>
 Z0 (Z8 2 x1) fun t50=>
 Z0 (Zh 1 t50 t49 H) fun r_7=>
 Z0 (Q2 x3 r_7.2) fun t52=>
 Z0 (Z8 3 x1) fun t53=>
 Z0 (Zh 1 t53 t52 r_7.2) fun r_10=>
 Z0 (Z4 true 6 x1 r_10.2) fun t54=>
 Z0 (Zh 6 x0 t54 r_10.2) fun r_12=>
 Z0 (Z4 true 6 x0 r_12.2) fun v0=>
 some (v0,r_12.2)
theorem ZrL (H0:Hp)(x0 x1 x2 x3:AV)(H:Hp):NW H0 x0 x1 x2 x3 H=Zec x0 x1 x2 x3 H:=(VD [5,6,9,11,14] _ _ _ _).trans (by kernel_rfl)
theorem ZrU:L4 (Zec) (Zec):=fun _ _ _ _ _=>
 bR fun _=>bR fun _=>bR fun _=>bR fun _=>bR fun _=>bR fun _=>bR fun _=>bR fun _=>bR fun _=>le_refl _
def Zee (Ys:A5)(x0 x1 x2 x3 x4:AV)(H:Hp):Z3:=
 Z0 (Z5 .add x4 (.int .i64 1)) fun t11=>
 Ys x0 x1 x2 x3 t11 H
theorem ZrN (H0:Hp)(x0 x1 x2 x3 x4:AV)(H:Hp):NY H0 x0 x1 x2 x3 x4 H=Zee (Ys H0) x0 x1 x2 x3 x4 H:=(VD [5,6,9,11,14] _ _ _ _).trans (by kernel_rfl)
theorem ZrW {Ys dj31_l1:A5}(hj31_l1:L5 Ys dj31_l1):L5 (Zee Ys) (Zee dj31_l1):=fun _ _ _ _ _ _=>
 bR fun _=>hj31_l1 _ _ _ _ _ _
def Zeg (NY:A5)(x0 x1 x2 x3 x4 x5 x6:AV)(H:Hp):Z3:=
 Z0 (Z8 1 x1) fun t34=>
 Z0 (Z4 false 1 t34 H) fun t35=>
 Z0 ((ZF 1 [(0,x4)] [(.int .i64 0)]).map (.vs 1 .clip)) fun t37=>
 Z0 (Y6 1 8 t35 t37 H) fun r38=>
 Z0 (Z8 1 x1) fun t39=>
 Z0 (Zh 1 t39 r38.1 r38.2) fun r_22=>
 Z0 ((ZF 1 [(0,x5)] [(.int .u8 0)]).map (.vs 1 .clip)) fun t42=>
 Z0 (Y6 1 1 x2 t42 r_22.2) fun r43=>
 Z0 ((ZF 1 [(0,x6)] [(.int .u8 0)]).map (.vs 1 .clip)) fun t46=>
 Z0 (Y6 1 1 x3 t46 r43.2) fun r47=>
 NY x0 x1 r43.1 r47.1 x4 r47.2
theorem ZrP (H0:Hp)(x0 x1 x2 x3 x4 x5 x6:AV)(H:Hp):Ti H0 x0 x1 x2 x3 x4 x5 x6 H=Zeg (NY H0) x0 x1 x2 x3 x4 x5 x6 H:=(VD [5,6,9,11,14] _ _ _ _).trans (by kernel_rfl)
theorem ZrY {NY dj31_3:A5}(hj31_3:L5 NY dj31_3):L7 (Zeg NY) (Zeg dj31_3):=fun _ _ _ _ _ _ _ _=>
 bR fun _=>bR fun _=>bR fun _=>bR fun _=>bR fun _=>bR fun _=>bR fun _=>bR fun _=>bR fun _=>bR fun _=>hj31_3 _ _ _ _ _ _
def Zef (Ti:A7)(x0 x1 x2 x3 x4 x5 x6:AV)(H:Hp):Z3:=
 Z0 (Z5 .geq x4 (.int .i64 97)) fun t26=>
 Z0 (Z6 t26 true (.tuple []) (some x4)) fun t28=>
 Z0 (Z6 t26 true (.tuple []) (Z5 .leq t28 (.int .i64 122))) fun t29=>
 Z0 (Zg t26 t29 (.bool false)) fun t30=>
 Zl t30
  (Z0 (Z5 .sub x4 (.int .i64 32)) fun t32=>
  Z0 (YK .u8 t32) fun t33=>
  Ti x0 x1 x2 x3 x4 x5 t33 H)
  (Ti x0 x1 x2 x3 x4 x5 x6 H)
theorem ZrO (H0:Hp)(x0 x1 x2 x3 x4 x5 x6:AV)(H:Hp):Th H0 x0 x1 x2 x3 x4 x5 x6 H=Zef (Ti H0) x0 x1 x2 x3 x4 x5 x6 H:=(VD [5,6,9,11,14] _ _ _ _).trans (by kernel_rfl)
theorem ZrX {Ti dj31_5:A7}(hj31_5:L7 Ti dj31_5):L7 (Zef Ti) (Zef dj31_5):=fun _ _ _ _ _ _ _ _=>
 bR fun _=>bR fun _=>bR fun _=>bR fun _=>bK (bR fun _=>bR fun _=>hj31_5 _ _ _ _ _ _ _ _) (hj31_5 _ _ _ _ _ _ _ _)
def Zed (Th:A7)(x0 x1 x2 x3 x4:AV)(H:Hp):Z3:=
 Z0 (YK .u8 x4) fun t13=>
 Z0 (YK .u8 x4) fun t15=>
 Z0 (Z5 .geq x4 (.int .i64 65)) fun t17=>
 Z0 (Z6 t17 true (.tuple []) (some x4)) fun t19=>
 Z0 (Z6 t17 true (.tuple []) (Z5 .leq t19 (.int .i64 90))) fun t20=>
 Z0 (Zg t17 t20 (.bool false)) fun t21=>
 Zl t21
  (Z0 (Z5 .add x4 (.int .i64 32)) fun t23=>
  Z0 (YK .u8 t23) fun t24=>
  Th x0 x1 x2 x3 x4 t24 t15 H)
  (Th x0 x1 x2 x3 x4 t13 t15 H)
theorem ZrM (H0:Hp)(x0 x1 x2 x3 x4:AV)(H:Hp):NX H0 x0 x1 x2 x3 x4 H=Zed (Th H0) x0 x1 x2 x3 x4 H:=(VD [5,6,9,11,14] _ _ _ _).trans (by kernel_rfl)
theorem ZrV {Th dj31_4:A7}(hj31_4:L7 Th dj31_4):L5 (Zed Th) (Zed dj31_4):=fun _ _ _ _ _ _=>
 bR fun _=>bR fun _=>bR fun _=>bR fun _=>bR fun _=>bR fun _=>bK (bR fun _=>bR fun _=>hj31_4 _ _ _ _ _ _ _ _) (hj31_4 _ _ _ _ _ _ _ _)
def Zb5 (NW:A4)(NX:A5)(x0 x1 x2 x3 x4:AV)(H:Hp):Z3:=
 Z0 (Z5 .lss x4 (.int .i64 256)) fun t9=>
 Zl t9
  (NX x0 x1 x2 x3 x4 H)
  (NW x0 x1 x2 x3 H)
theorem ZqY (H0:Hp)(x0 x1 x2 x3 x4:AV)(H:Hp):Ys H0 x0 x1 x2 x3 x4 H=Zb5 (NW H0) (NX H0) x0 x1 x2 x3 x4 H:=(ZB (C:=cfg) [5,6,9,11,14] (Zo 0 (Zj1 H0)) _ _).trans (by kernel_rfl)
theorem Zrh {NW dj31_1:A4}(hj31_1:L4 NW dj31_1){NX dj31_2:A5}(hj31_2:L5 NX dj31_2):L5 (Zb5 NW NX) (Zb5 dj31_1 dj31_2):=fun _ _ _ _ _ _=>
 bR fun _=>bK (hj31_2 _ _ _ _ _ _) (hj31_1 _ _ _ _ _)
def Zm1:A4:=Zec
theorem Zrs (H0:Hp):L4 (Zm1) (NW H0):=fun _ _ _ _ _=>VR (ZrU _ _ _ _ _) (ZrL H0 _ _ _ _ _)
def Zm3 (Ys:A5):A5:=Zee Ys
theorem Zru (H0:Hp){yj31_l1:A5}(hj31_l1:L5 yj31_l1 (Ys H0)):L5 (Zm3 yj31_l1) (NY H0):=fun _ _ _ _ _ _=>VR (ZrW hj31_l1 _ _ _ _ _ _) (ZrN H0 _ _ _ _ _ _)
def Zm5 (Ys:A5):A7:=Zeg (Zm3 Ys)
theorem Zrw (H0:Hp){yj31_l1:A5}(hj31_l1:L5 yj31_l1 (Ys H0)):L7 (Zm5 yj31_l1) (Ti H0):=fun _ _ _ _ _ _ _ _=>VR (ZrY (Zru H0 hj31_l1) _ _ _ _ _ _ _ _) (ZrP H0 _ _ _ _ _ _ _ _)
def Zm4 (Ys:A5):A7:=Zef (Zm5 Ys)
theorem Zrv (H0:Hp){yj31_l1:A5}(hj31_l1:L5 yj31_l1 (Ys H0)):L7 (Zm4 yj31_l1) (Th H0):=fun _ _ _ _ _ _ _ _=>VR (ZrX (Zrw H0 hj31_l1) _ _ _ _ _ _ _ _) (ZrO H0 _ _ _ _ _ _ _ _)
def Zm2 (Ys:A5):A5:=Zed (Zm4 Ys)
theorem Zrt (H0:Hp){yj31_l1:A5}(hj31_l1:L5 yj31_l1 (Ys H0)):L5 (Zm2 yj31_l1) (NX H0):=fun _ _ _ _ _ _=>VR (ZrV (Zrv H0 hj31_l1) _ _ _ _ _ _) (ZrM H0 _ _ _ _ _ _)
def Zhz (n:Nat):A5:=@Nat.rec (fun _=>A5) (fun _ _ _ _ _ _=>none) (fun _ Ys=>Zb5 (Zm1) (Zm2 Ys)) n
theorem Zqt (H0:Hp)(n:Nat):L5 (Zhz n) (Ys H0):=by
 induction n with
 |zero=>exact fun _ _ _ _ _ _=>Ib _
 |succ n hj31_l1=>exact fun _ _ _ _ _ _=>VR (Zrh (Zrs H0) (Zrt H0 hj31_l1) _ _ _ _ _ _) (ZqY H0 _ _ _ _ _ _)
def Zif (Ys:A5)(H:Hp):Z3:=
 Z0 (some ((.ptr H.length 0),H++[.cells [(.str []),.nils,(.str []),(.str []),.nils,.nils]])) fun r0=>
 Z0 ((YS [(0,1,(.str [112,111,115,105,120]))] [(.str []),.nils,(.str []),(.str []),.nils,.nils]).map .agg) fun t7=>
 Z0 (some ((.ptr r0.2.length 0),r0.2++[.cells [(.str []),.nils,(.str []),(.str []),.nils,.nils]])) fun r1=>
 Z0 (Zh 6 r1.1 t7 r1.2) fun r_4=>
 Ys r0.1 r1.1 .nils .nils (.int .i64 0) r_4.2
theorem Zsg (H:Hp):c31 H=Zif (Ys H) H:=(Zc (C:=cfg) (fn:=Tryz.f31) (c:=Z1 Tryz.f31) (n:=55) [5,6,9,11,14] Tryz.func31 (by kernel_rfl) (by kernel_rfl) [] (by kernel_rfl) H).trans (by kernel_rfl)
theorem Zsi {Ys dj31_l1:A5}(hj31_l1:L5 Ys dj31_l1):L0 (Zif Ys) (Zif dj31_l1):=fun _=>
 bR fun _=>bR fun _=>bR fun _=>bR fun _=>hj31_l1 _ _ _ _ _ _
def Zrn:A0:=fun H=>Zif (Zhz 100000) H
theorem Zsl:L0 Zrn c31:=fun H=>VR (Zsi (Zqt H 100000) _) (Zsg _)
def ZqP (p0 p1 p2:AV)(H:Hp):Z3:=Za cfg 224 [p0,p1,p2] H
def FL (H0:Hp)(x7:AV)(H:Hp):Z3:=TE 224 40 (sub (Z1 Tryz.f224) [1,1,1]) (Zi cfg 40 224 Tryz.f224 H0) [(7,x7)] H
def Zby (H0:Hp):KL:=Zd (fun k al H=>TE 224 40 (sub (Z1 Tryz.f224) [1,1,1]) k (ZR (cfg.keep 224) (sub (Z1 Tryz.f224) [1,1,1]) al) H) (Zi cfg 40 224 Tryz.f224 H0)
theorem ZgS (H0:Hp):ZT 40 (Zby H0):=Zw (C:=cfg) (kp:=cfg.keep 224) (sub (Z1 Tryz.f224) [1,1,1]) (ZA 224 Tryz.f224 H0)
def BT (H0:Hp)(x0 x1 x2 x7 x11 x12:AV)(H:Hp):Z3:=TE 224 40 (sub (Z1 Tryz.f224) [1,1,0,1,0,0,1,1,1]) (Zd (fun k al H=>IX 224 40 (sub (Z1 Tryz.f224) [1,1,0,1,0,0]) k (ZR (cfg.keep 224) (sub (Z1 Tryz.f224) [1,1,0,1,0,0]) al) H) (Z7 0 (Zby H0))) [(0,x0),(1,x1),(2,x2),(7,x7),(11,x11),(12,x12)] H
def FM (H0:Hp)(x0 x1 x2 x7 x11 x12 x13:AV)(H:Hp):Z3:=TE 224 40 (sub (Z1 Tryz.f224) [1,1,0,1,0,0,1,1]) (Zd (fun k al H=>IX 224 40 (sub (Z1 Tryz.f224) [1,1,0,1,0,0]) k (ZR (cfg.keep 224) (sub (Z1 Tryz.f224) [1,1,0,1,0,0]) al) H) (Z7 0 (Zby H0))) [(0,x0),(1,x1),(2,x2),(7,x7),(11,x11),(12,x12),(13,x13)] H
def YA (H0:Hp)(x0 x1 x2 x7 x11 x12:AV)(H:Hp):Z3:=IX 224 40 (sub (Z1 Tryz.f224) [1,1,0,1,0,0]) (Z7 0 (Zby H0)) [(0,x0),(1,x1),(2,x2),(7,x7),(11,x11),(12,x12)] H
def Zb2 (x7:AV)(H:Hp):Z3:=
 Z0 (Q2 x7 H) fun t39=>
 some (t39,H)
theorem ZqV (H0:Hp)(x7:AV)(H:Hp):FL H0 x7 H=Zb2 x7 H:=(VD [4,8,9] _ _ _ _).trans (by kernel_rfl)
theorem Zre:L1 (Zb2) (Zb2):=fun _ _=>
 bR fun _=>le_refl _
def Zb4 (YA:A6)(x0 x1 x2 x7 x11 x12:AV)(H:Hp):Z3:=
 Z0 (Z5 .add x12 (.int .i64 1)) fun t37=>
 YA x0 x1 x2 x7 x11 t37 H
theorem ZqX (H0:Hp)(x0 x1 x2 x7 x11 x12:AV)(H:Hp):BT H0 x0 x1 x2 x7 x11 x12 H=Zb4 (YA H0) x0 x1 x2 x7 x11 x12 H:=(VD [4,8,9] _ _ _ _).trans (by kernel_rfl)
theorem Zrg {YA dj224_l1:A6}(hj224_l1:L6 YA dj224_l1):L6 (Zb4 YA) (Zb4 dj224_l1):=fun _ _ _ _ _ _ _=>
 bR fun _=>hj224_l1 _ _ _ _ _ _ _
def Zb3 (BT:A6)(x0 x1 x2 x7 x11 x12 x13:AV)(H:Hp):Z3:=
 Z0 (YK .u8 x12) fun t18=>
 Z0 (Zn 1 x7 x12) fun t19=>
 Z0 (Zh 1 t19 t18 H) fun r_8=>
 Z0 (YK .u8 x12) fun t21=>
 Z0 (Z5 .geq t21 x0) fun t23=>
 Z0 (Z6 t23 true (.tuple []) (some x12)) fun t25=>
 Z0 (Z6 t23 true (.tuple []) (YK .u8 t25)) fun t26=>
 Z0 (Z6 t23 true (.tuple []) (some x1)) fun t27=>
 Z0 (Z6 t23 true (.tuple []) (Z5 .leq t26 t27)) fun t28=>
 Z0 (Zg t23 t28 (.bool false)) fun t29=>
 Zl t29
  (Z0 (Z5 .add x12 x2) fun t34=>
  Z0 (YK .u8 t34) fun t35=>
  Z0 (Zn 1 x7 x12) fun t36=>
  Z0 (Zh 1 t36 t35 r_8.2) fun r_19=>
  BT x0 x1 x2 x7 x11 x12 r_19.2)
  (BT x0 x1 x2 x7 x11 x12 r_8.2)
theorem ZqW (H0:Hp)(x0 x1 x2 x7 x11 x12 x13:AV)(H:Hp):FM H0 x0 x1 x2 x7 x11 x12 x13 H=Zb3 (BT H0) x0 x1 x2 x7 x11 x12 x13 H:=(VD [4,8,9] _ _ _ _).trans (by kernel_rfl)
theorem Zrf {BT dj224_3:A6}(hj224_3:L6 BT dj224_3):L7 (Zb3 BT) (Zb3 dj224_3):=fun _ _ _ _ _ _ _ _=>
 bR fun _=>bR fun _=>bR fun _=>bR fun _=>bR fun _=>bR fun _=>bR fun _=>bR fun _=>bR fun _=>bR fun _=>bK (bR fun _=>bR fun _=>bR fun _=>bR fun _=>hj224_3 _ _ _ _ _ _ _) (hj224_3 _ _ _ _ _ _ _)
def I3 (FL:A1)(FM:A7)(x0 x1 x2 x7 x11 x12:AV)(H:Hp):Z3:=
 Z0 (Z5 .lss x12 x11) fun t13=>
 Zl t13
  (FM x0 x1 x2 x7 x11 x12 t13 H)
  (FL x7 H)
theorem ZpH (H0:Hp)(x0 x1 x2 x7 x11 x12:AV)(H:Hp):YA H0 x0 x1 x2 x7 x11 x12 H=I3 (FL H0) (FM H0) x0 x1 x2 x7 x11 x12 H:=(ZB (C:=cfg) [4,8,9] (Zo 0 (ZgS H0)) _ _).trans (by kernel_rfl)
theorem Zq3 {FL dj224_1:A1}(hj224_1:L1 FL dj224_1){FM dj224_2:A7}(hj224_2:L7 FM dj224_2):L6 (I3 FL FM) (I3 dj224_1 dj224_2):=fun _ _ _ _ _ _ _=>
 bR fun _=>bK (hj224_2 _ _ _ _ _ _ _ _) (hj224_1 _ _)
def Zhw:A1:=Zb2
theorem Zqq (H0:Hp):L1 (Zhw) (FL H0):=fun _ _=>VR (Zre _ _) (ZqV H0 _ _)
def Zhy (YA:A6):A6:=Zb4 YA
theorem Zqs (H0:Hp){yj224_l1:A6}(hj224_l1:L6 yj224_l1 (YA H0)):L6 (Zhy yj224_l1) (BT H0):=fun _ _ _ _ _ _ _=>VR (Zrg hj224_l1 _ _ _ _ _ _ _) (ZqX H0 _ _ _ _ _ _ _)
def Zhx (YA:A6):A7:=Zb3 (Zhy YA)
theorem Zqr (H0:Hp){yj224_l1:A6}(hj224_l1:L6 yj224_l1 (YA H0)):L7 (Zhx yj224_l1) (FM H0):=fun _ _ _ _ _ _ _ _=>VR (Zrf (Zqs H0 hj224_l1) _ _ _ _ _ _ _ _) (ZqW H0 _ _ _ _ _ _ _ _)
def ZfG (n:Nat):A6:=@Nat.rec (fun _=>A6) (fun _ _ _ _ _ _ _=>none) (fun _ YA=>I3 (Zhw) (Zhx YA)) n
theorem ZoF (H0:Hp)(n:Nat):L6 (ZfG n) (YA H0):=by
 induction n with
 |zero=>exact fun _ _ _ _ _ _ _=>Ib _
 |succ n hj224_l1=>exact fun _ _ _ _ _ _ _=>VR (Zq3 (Zqq H0) (Zqr H0 hj224_l1) _ _ _ _ _ _ _) (ZpH H0 _ _ _ _ _ _ _)
def Zei (YA:A6)(p0 p1 p2:AV)(H:Hp):Z3:=
 Z0 (JD 1 1 false (.int .u8 0) (.int .i64 256) (.int .i64 256) H) fun r9=>
 Z0 (Zk (.slice 5) r9.1) fun t11=>
 YA p0 p1 p2 r9.1 t11 (.int .i64 0) r9.2
theorem ZrR (p0 p1 p2:AV)(H:Hp):ZqP p0 p1 p2 H=Zei (YA H) p0 p1 p2 H:=(Zc (C:=cfg) (fn:=Tryz.f224) (c:=Z1 Tryz.f224) (n:=40) [4,8,9] Tryz.func224 (by kernel_rfl) (by kernel_rfl) [p0,p1,p2] (by kernel_rfl) H).trans (by kernel_rfl)
theorem Zs0 {YA dj224_l1:A6}(hj224_l1:L6 YA dj224_l1):L3 (Zei YA) (Zei dj224_l1):=fun _ _ _ _=>
 bR fun _=>bR fun _=>hj224_l1 _ _ _ _ _ _ _
def Zp6:A3:=fun p0 p1 p2 H=>Zei (ZfG 100000) p0 p1 p2 H
theorem Zs5:L3 Zp6 ZqP:=fun _ _ _ H=>VR (Zs0 (ZoF H 100000) _ _ _ _) (ZrR _ _ _ _)
def AK:A3:=fun p0 p1 p2 H=>Ze (Za cfg 224) [p0,p1,p2] H
def Zp8:A3:=fun p0 p1 p2 H=>Ze (Zoj (Zp6)) [p0,p1,p2] H
theorem Zs6:L3 Zp8 AK:=fun _ _ _ _=>ZpM (Zq9 (Zs5)) _ _
def ZqO (H:Hp):Z3:=Za cfg 187 [] H
def FI (H0:Hp)(x0 x1:AV)(H:Hp):Z3:=TE 187 18 (sub (Z1 Tryz.f187) [1,1,1]) (Zi cfg 18 187 Tryz.f187 H0) [(0,x0),(1,x1)] H
def Zbx (H0:Hp):KL:=Zd (fun k al H=>TE 187 18 (sub (Z1 Tryz.f187) [1,1,1]) k (ZR (cfg.keep 187) (sub (Z1 Tryz.f187) [1,1,1]) al) H) (Zi cfg 18 187 Tryz.f187 H0)
theorem ZgR (H0:Hp):ZT 18 (Zbx H0):=Zw (C:=cfg) (kp:=cfg.keep 187) (sub (Z1 Tryz.f187) [1,1,1]) (ZA 187 Tryz.f187 H0)
def FK (H0:Hp)(x0 x1 x5 x6:AV)(H:Hp):Z3:=TE 187 18 (sub (Z1 Tryz.f187) [1,1,0,1,0,0,1,1,1]) (Zd (fun k al H=>IX 187 18 (sub (Z1 Tryz.f187) [1,1,0,1,0,0]) k (ZR (cfg.keep 187) (sub (Z1 Tryz.f187) [1,1,0,1,0,0]) al) H) (Z7 0 (Zbx H0))) [(0,x0),(1,x1),(5,x5),(6,x6)] H
def FJ (H0:Hp)(x0 x1 x5 x6 x7:AV)(H:Hp):Z3:=TE 187 18 (sub (Z1 Tryz.f187) [1,1,0,1,0,0,1,1]) (Zd (fun k al H=>IX 187 18 (sub (Z1 Tryz.f187) [1,1,0,1,0,0]) k (ZR (cfg.keep 187) (sub (Z1 Tryz.f187) [1,1,0,1,0,0]) al) H) (Z7 0 (Zbx H0))) [(0,x0),(1,x1),(5,x5),(6,x6),(7,x7)] H
def Yz (H0:Hp)(x0 x1 x5 x6:AV)(H:Hp):Z3:=IX 187 18 (sub (Z1 Tryz.f187) [1,1,0,1,0,0]) (Z7 0 (Zbx H0)) [(0,x0),(1,x1),(5,x5),(6,x6)] H
def ZaZ (AK:A3)(x0 x1:AV)(H:Hp):Z3:=
 Z0 (AK (.int .u8 65) (.int .u8 90) (.int .i64 32) H) fun r15=>
 Z0 (AK (.int .u8 97) (.int .u8 122) (.int .i64 (-32)) r15.2) fun r16=>
 Z0 ((YS [(0,1,(.str [112,111,115,105,120])),(1,1,x1),(2,1,r15.1),(3,1,r16.1)] [(.str []),.nils,(.str []),(.str []),.nils,.nils]).map .agg) fun t17=>
 Z0 (Zh 6 x0 t17 r16.2) fun r_6=>
 Z0 (Z4 true 6 x0 r_6.2) fun v0=>
 some (v0,r_6.2)
theorem ZqS (H0:Hp)(x0 x1:AV)(H:Hp):FI H0 x0 x1 H=ZaZ AK x0 x1 H:=(VD [4,6,7] _ _ _ _).trans (by kernel_rfl)
theorem Zrb {AK dq224:A3}(hq224:L3 AK dq224):L2 (ZaZ AK) (ZaZ dq224):=fun _ _ _=>
 bC (hq224 _ _ _ _) fun _=>bC (hq224 _ _ _ _) fun _=>bR fun _=>bR fun _=>bR fun _=>le_refl _
def Zb1 (Yz:A4)(x0 x1 x5 x6:AV)(H:Hp):Z3:=
 Z0 (Z5 .add x6 (.int .i64 1)) fun t13=>
 Yz x0 x1 x5 t13 H
theorem ZqU (H0:Hp)(x0 x1 x5 x6:AV)(H:Hp):FK H0 x0 x1 x5 x6 H=Zb1 (Yz H0) x0 x1 x5 x6 H:=(VD [4,6,7] _ _ _ _).trans (by kernel_rfl)
theorem Zrd {Yz dj187_l1:A4}(hj187_l1:L4 Yz dj187_l1):L4 (Zb1 Yz) (Zb1 dj187_l1):=fun _ _ _ _ _=>
 bR fun _=>hj187_l1 _ _ _ _ _
def Zb0 (FK:A4)(x0 x1 x5 x6 x7:AV)(H:Hp):Z3:=
 Z0 (Zn 1 x1 x6) fun t12=>
 Z0 (Zh 1 t12 x6 H) fun r_12=>
 FK x0 x1 x5 x6 r_12.2
theorem ZqT (H0:Hp)(x0 x1 x5 x6 x7:AV)(H:Hp):FJ H0 x0 x1 x5 x6 x7 H=Zb0 (FK H0) x0 x1 x5 x6 x7 H:=(VD [4,6,7] _ _ _ _).trans (by kernel_rfl)
theorem Zrc {FK dj187_3:A4}(hj187_3:L4 FK dj187_3):L5 (Zb0 FK) (Zb0 dj187_3):=fun _ _ _ _ _ _=>
 bR fun _=>bR fun _=>hj187_3 _ _ _ _ _
def I2 (FI:A2)(FJ:A5)(x0 x1 x5 x6:AV)(H:Hp):Z3:=
 Z0 (Z5 .lss x6 x5) fun t7=>
 Zl t7
  (FJ x0 x1 x5 x6 t7 H)
  (FI x0 x1 H)
theorem ZpG (H0:Hp)(x0 x1 x5 x6:AV)(H:Hp):Yz H0 x0 x1 x5 x6 H=I2 (FI H0) (FJ H0) x0 x1 x5 x6 H:=(ZB (C:=cfg) [4,6,7] (Zo 0 (ZgR H0)) _ _).trans (by kernel_rfl)
theorem Zq2 {FI dj187_1:A2}(hj187_1:L2 FI dj187_1){FJ dj187_2:A5}(hj187_2:L5 FJ dj187_2):L4 (I2 FI FJ) (I2 dj187_1 dj187_2):=fun _ _ _ _ _=>
 bR fun _=>bK (hj187_2 _ _ _ _ _ _) (hj187_1 _ _ _)
def Zht:A2:=ZaZ Zp8
theorem Zqn (H0:Hp):L2 (Zht) (FI H0):=fun _ _ _=>VR (Zrb Zs6 _ _ _) (ZqS H0 _ _ _)
def Zhv (Yz:A4):A4:=Zb1 Yz
theorem Zqp (H0:Hp){yj187_l1:A4}(hj187_l1:L4 yj187_l1 (Yz H0)):L4 (Zhv yj187_l1) (FK H0):=fun _ _ _ _ _=>VR (Zrd hj187_l1 _ _ _ _ _) (ZqU H0 _ _ _ _ _)
def Zhu (Yz:A4):A5:=Zb0 (Zhv Yz)
theorem Zqo (H0:Hp){yj187_l1:A4}(hj187_l1:L4 yj187_l1 (Yz H0)):L5 (Zhu yj187_l1) (FJ H0):=fun _ _ _ _ _ _=>VR (Zrc (Zqp H0 hj187_l1) _ _ _ _ _ _) (ZqT H0 _ _ _ _ _ _)
def ZfF (n:Nat):A4:=@Nat.rec (fun _=>A4) (fun _ _ _ _ _=>none) (fun _ Yz=>I2 (Zht) (Zhu Yz)) n
theorem ZoE (H0:Hp)(n:Nat):L4 (ZfF n) (Yz H0):=by
 induction n with
 |zero=>exact fun _ _ _ _ _=>Ib _
 |succ n hj187_l1=>exact fun _ _ _ _ _=>VR (Zq2 (Zqn H0) (Zqo H0 hj187_l1) _ _ _ _ _) (ZpG H0 _ _ _ _ _)
def Zeh (Yz:A4)(H:Hp):Z3:=
 Z0 (some ((.ptr H.length 0),H++[.cells [(.str []),.nils,(.str []),(.str []),.nils,.nils]])) fun r0=>
 Z0 (JD 1 8 false (.int .i64 0) (.int .i64 256) (.int .i64 256) r0.2) fun r3=>
 Z0 (Zk (.slice 3) r3.1) fun t5=>
 Yz r0.1 r3.1 t5 (.int .i64 0) r3.2
theorem ZrQ (H:Hp):ZqO H=Zeh (Yz H) H:=(Zc (C:=cfg) (fn:=Tryz.f187) (c:=Z1 Tryz.f187) (n:=18) [4,6,7] Tryz.func187 (by kernel_rfl) (by kernel_rfl) [] (by kernel_rfl) H).trans (by kernel_rfl)
theorem ZrZ {Yz dj187_l1:A4}(hj187_l1:L4 Yz dj187_l1):L0 (Zeh Yz) (Zeh dj187_l1):=fun _=>
 bR fun _=>bR fun _=>bR fun _=>hj187_l1 _ _ _ _ _
def Zp5:A0:=fun H=>Zeh (ZfF 100000) H
theorem Zs4:L0 Zp5 ZqO:=fun H=>VR (ZrZ (ZoE H 100000) _) (ZrQ _)
end
end Go.Am
