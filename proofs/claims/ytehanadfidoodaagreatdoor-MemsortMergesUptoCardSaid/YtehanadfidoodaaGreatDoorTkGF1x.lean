/-
  Functions of the translation that are worked out at given arguments: written by program (wip/gen.py).
-/
import Derived.Test.YtehanadfidoodaaGreatDoorTkGx
import Derived.Test.YtehanadfidoodaaGreatDoorEmWx
namespace Go.Am
open Go.Proofs
set_option maxRecDepth 100000
set_option linter.unusedVariables false
noncomputable section

noncomputable abbrev CXf (f n:Nat):=CXL cfg (Za7 cfg) (LPL cfg (cfg.keep f) n) (cfg.keep f) n seqL Za3
noncomputable abbrev LPf (f n:Nat):=LPL cfg (cfg.keep f) n
def c31 (H:Hp):Res:=Za7 cfg 31 [] H
def ZmS (H0:Hp) (x0 x1 x2 x3:AV) (H:Hp):Res:=CXf 31 55 (sub (Za0 Tryz.f31) [1,1,1,1]) (retL cfg 55 31 Tryz.f31 H0) [(0,x0),(1,x1),(2,x2),(3,x3)] H
def ZwS (H0:Hp):KL:=seqL (fun k al H=>CXf 31 55 (sub (Za0 Tryz.f31) [1,1,1,1]) k (Za8 (cfg.keep 31) (sub (Za0 Tryz.f31) [1,1,1,1]) al) H) (retL cfg 55 31 Tryz.f31 H0)
theorem ZDo (H0:Hp):Tame 55 (ZwS H0):=Zak (C:=cfg) (kp:=cfg.keep 31) (sub (Za0 Tryz.f31) [1,1,1,1]) (Zao 31 Tryz.f31 H0)
def ZmU (H0:Hp) (x0 x1 x2 x3 x4:AV) (H:Hp):Res:=CXf 31 55 (sub (Za0 Tryz.f31) [1,1,1,0,1,0,0,1,1]) (seqL (fun k al H=>LPf 31 55 (sub (Za0 Tryz.f31) [1,1,1,0,1,0,0]) k (Za8 (cfg.keep 31) (sub (Za0 Tryz.f31) [1,1,1,0,1,0,0]) al) H) (Za3 0 (ZwS H0))) [(0,x0),(1,x1),(2,x2),(3,x3),(4,x4)] H
def ZHR (H0:Hp):KL:=seqL (fun k al H=>CXf 31 55 (sub (Za0 Tryz.f31) [1,1,1,0,1,0,0,1,1]) k (Za8 (cfg.keep 31) (sub (Za0 Tryz.f31) [1,1,1,0,1,0,0,1,1]) al) H) (seqL (fun k al H=>LPf 31 55 (sub (Za0 Tryz.f31) [1,1,1,0,1,0,0]) k (Za8 (cfg.keep 31) (sub (Za0 Tryz.f31) [1,1,1,0,1,0,0]) al) H) (Za3 0 (ZwS H0)))
def ZkP (H0:Hp) (x0 x1 x2 x3 x4 x5 x6:AV) (H:Hp):Res:=CXf 31 55 (sub (Za0 Tryz.f31) [1,1,1,0,1,0,0,1,0,0,1,1,1]) (Za3 1 (ZHR H0)) [(0,x0),(1,x1),(2,x2),(3,x3),(4,x4),(5,x5),(6,x6)] H
def ZkO (H0:Hp) (x0 x1 x2 x3 x4 x5 x6:AV) (H:Hp):Res:=CXf 31 55 (sub (Za0 Tryz.f31) [1,1,1,0,1,0,0,1,0,0,1,1]) (Za3 1 (ZHR H0)) [(0,x0),(1,x1),(2,x2),(3,x3),(4,x4),(5,x5),(6,x6)] H
def ZmT (H0:Hp) (x0 x1 x2 x3 x4:AV) (H:Hp):Res:=CXf 31 55 (sub (Za0 Tryz.f31) [1,1,1,0,1,0,0,1]) (seqL (fun k al H=>LPf 31 55 (sub (Za0 Tryz.f31) [1,1,1,0,1,0,0]) k (Za8 (cfg.keep 31) (sub (Za0 Tryz.f31) [1,1,1,0,1,0,0]) al) H) (Za3 0 (ZwS H0))) [(0,x0),(1,x1),(2,x2),(3,x3),(4,x4)] H
def ZaR (H0:Hp) (x0 x1 x2 x3 x4:AV) (H:Hp):Res:=LPf 31 55 (sub (Za0 Tryz.f31) [1,1,1,0,1,0,0]) (Za3 0 (ZwS H0)) [(0,x0),(1,x1),(2,x2),(3,x3),(4,x4)] H
def Zzv (x0 x1 x2 x3:AV) (H:Hp):Res:=
 bnd (cvRd x2 H) fun t49=>
 bnd (Zaa 2 x1) fun t50=>
 bnd (Zag 1 t50 t49 H) fun r_7=>
 bnd (cvRd x3 r_7.2) fun t52=>
 bnd (Zaa 3 x1) fun t53=>
 bnd (Zag 1 t53 t52 r_7.2) fun r_10=>
 bnd (Za2 true 6 x1 r_10.2) fun t54=>
 bnd (Zag 6 x0 t54 r_10.2) fun r_12=>
 bnd (Za2 true 6 x0 r_12.2) fun v0=>
 some (v0,r_12.2)
theorem ZJW (H0:Hp) (x0 x1 x2 x3:AV) (H:Hp):ZmS H0 x0 x1 x2 x3 H=Zzv x0 x1 x2 x3 H:=(Za4 [5,6,9,11,14] _ _ _ _).trans (by kernel_rfl)
theorem ZK5:L4 (Zzv) (Zzv):=fun _ _ _ _ _=>
 bR fun _=>bR fun _=>bR fun _=>bR fun _=>bR fun _=>bR fun _=>bR fun _=>bR fun _=>bR fun _=>le_refl _
def Zzx (ZaR:A5) (x0 x1 x2 x3 x4:AV) (H:Hp):Res:=
 bnd (ibin .add x4 (.int .i64 1)) fun t11=>
 ZaR x0 x1 x2 x3 t11 H
theorem ZJY (H0:Hp) (x0 x1 x2 x3 x4:AV) (H:Hp):ZmU H0 x0 x1 x2 x3 x4 H=Zzx (ZaR H0) x0 x1 x2 x3 x4 H:=(Za4 [5,6,9,11,14] _ _ _ _).trans (by kernel_rfl)
theorem ZK7 {ZaR dj31_l1:A5} (hj31_l1:L5 ZaR dj31_l1):L5 (Zzx ZaR) (Zzx dj31_l1):=fun _ _ _ _ _ _=>
 bR fun _=>hj31_l1 _ _ _ _ _ _
def Zzz (ZmU:A5) (x0 x1 x2 x3 x4 x5 x6:AV) (H:Hp):Res:=
 bnd (Zaa 1 x1) fun t34=>
 bnd (Za2 false 1 t34 H) fun t35=>
 bnd ((Zau 1 [(0,x4)] [(.int .i64 0)]).map (.vs 1 .clip)) fun t37=>
 bnd (ZaH 1 8 t35 t37 H) fun r38=>
 bnd (Zaa 1 x1) fun t39=>
 bnd (Zag 1 t39 r38.1 r38.2) fun r_22=>
 bnd ((Zau 1 [(0,x5)] [(.int .u8 0)]).map (.vs 1 .clip)) fun t42=>
 bnd (ZaH 1 1 x2 t42 r_22.2) fun r43=>
 bnd ((Zau 1 [(0,x6)] [(.int .u8 0)]).map (.vs 1 .clip)) fun t46=>
 bnd (ZaH 1 1 x3 t46 r43.2) fun r47=>
 ZmU x0 x1 r43.1 r47.1 x4 r47.2
theorem ZK0 (H0:Hp) (x0 x1 x2 x3 x4 x5 x6:AV) (H:Hp):ZkP H0 x0 x1 x2 x3 x4 x5 x6 H=Zzz (ZmU H0) x0 x1 x2 x3 x4 x5 x6 H:=(Za4 [5,6,9,11,14] _ _ _ _).trans (by kernel_rfl)
theorem ZK9 {ZmU dj31_3:A5} (hj31_3:L5 ZmU dj31_3):L7 (Zzz ZmU) (Zzz dj31_3):=fun _ _ _ _ _ _ _ _=>
 bR fun _=>bR fun _=>bR fun _=>bR fun _=>bR fun _=>bR fun _=>bR fun _=>bR fun _=>bR fun _=>bR fun _=>hj31_3 _ _ _ _ _ _
def Zzy (ZkP:A7) (x0 x1 x2 x3 x4 x5 x6:AV) (H:Hp):Res:=
 bnd (ibin .geq x4 (.int .i64 97)) fun t26=>
 bnd (gdv t26 true (.tuple []) (some x4)) fun t28=>
 bnd (gdv t26 true (.tuple []) (ibin .leq t28 (.int .i64 122))) fun t29=>
 bnd (Zae t26 t29 (.bool false)) fun t30=>
 cnd t30
  (bnd (ibin .sub x4 (.int .i64 32)) fun t32=>
  bnd (ZbA .u8 t32) fun t33=>
  ZkP x0 x1 x2 x3 x4 x5 t33 H)
  (ZkP x0 x1 x2 x3 x4 x5 x6 H)
theorem ZJZ (H0:Hp) (x0 x1 x2 x3 x4 x5 x6:AV) (H:Hp):ZkO H0 x0 x1 x2 x3 x4 x5 x6 H=Zzy (ZkP H0) x0 x1 x2 x3 x4 x5 x6 H:=(Za4 [5,6,9,11,14] _ _ _ _).trans (by kernel_rfl)
theorem ZK8 {ZkP dj31_5:A7} (hj31_5:L7 ZkP dj31_5):L7 (Zzy ZkP) (Zzy dj31_5):=fun _ _ _ _ _ _ _ _=>
 bR fun _=>bR fun _=>bR fun _=>bR fun _=>bK (bR fun _=>bR fun _=>hj31_5 _ _ _ _ _ _ _ _) (hj31_5 _ _ _ _ _ _ _ _)
def Zzw (ZkO:A7) (x0 x1 x2 x3 x4:AV) (H:Hp):Res:=
 bnd (ZbA .u8 x4) fun t13=>
 bnd (ZbA .u8 x4) fun t15=>
 bnd (ibin .geq x4 (.int .i64 65)) fun t17=>
 bnd (gdv t17 true (.tuple []) (some x4)) fun t19=>
 bnd (gdv t17 true (.tuple []) (ibin .leq t19 (.int .i64 90))) fun t20=>
 bnd (Zae t17 t20 (.bool false)) fun t21=>
 cnd t21
  (bnd (ibin .add x4 (.int .i64 32)) fun t23=>
  bnd (ZbA .u8 t23) fun t24=>
  ZkO x0 x1 x2 x3 x4 t24 t15 H)
  (ZkO x0 x1 x2 x3 x4 t13 t15 H)
theorem ZJX (H0:Hp) (x0 x1 x2 x3 x4:AV) (H:Hp):ZmT H0 x0 x1 x2 x3 x4 H=Zzw (ZkO H0) x0 x1 x2 x3 x4 H:=(Za4 [5,6,9,11,14] _ _ _ _).trans (by kernel_rfl)
theorem ZK6 {ZkO dj31_4:A7} (hj31_4:L7 ZkO dj31_4):L5 (Zzw ZkO) (Zzw dj31_4):=fun _ _ _ _ _ _=>
 bR fun _=>bR fun _=>bR fun _=>bR fun _=>bR fun _=>bR fun _=>bK (bR fun _=>bR fun _=>hj31_4 _ _ _ _ _ _ _ _) (hj31_4 _ _ _ _ _ _ _ _)
def Zwu (ZmS:A4) (ZmT:A5) (x0 x1 x2 x3 x4:AV) (H:Hp):Res:=
 bnd (ibin .lss x4 (.int .i64 256)) fun t9=>
 cnd t9
  (ZmT x0 x1 x2 x3 x4 H)
  (ZmS x0 x1 x2 x3 H)
theorem ZJn (H0:Hp) (x0 x1 x2 x3 x4:AV) (H:Hp):ZaR H0 x0 x1 x2 x3 x4 H=Zwu (ZmS H0) (ZmT H0) x0 x1 x2 x3 x4 H:=(Zap (C:=cfg) [5,6,9,11,14] (Zah 0 (ZDo H0)) _ _).trans (by kernel_rfl)
theorem ZJD {ZmS dj31_1:A4} (hj31_1:L4 ZmS dj31_1) {ZmT dj31_2:A5} (hj31_2:L5 ZmT dj31_2):L5 (Zwu ZmS ZmT) (Zwu dj31_1 dj31_2):=fun _ _ _ _ _ _=>
 bR fun _=>bK (hj31_2 _ _ _ _ _ _) (hj31_1 _ _ _ _ _)
def ZFJ:A4:=Zzv
theorem ZJI (H0:Hp):L4 (ZFJ) (ZmS H0):=fun _ _ _ _ _=>Zdi (ZK5 _ _ _ _ _) (ZJW H0 _ _ _ _ _)
def ZFL (ZaR:A5):A5:=Zzx ZaR
theorem ZJK (H0:Hp) {yj31_l1:A5} (hj31_l1:L5 yj31_l1 (ZaR H0)):L5 (ZFL yj31_l1) (ZmU H0):=fun _ _ _ _ _ _=>Zdi (ZK7 hj31_l1 _ _ _ _ _ _) (ZJY H0 _ _ _ _ _ _)
def ZFN (ZaR:A5):A7:=Zzz (ZFL ZaR)
theorem ZJM (H0:Hp) {yj31_l1:A5} (hj31_l1:L5 yj31_l1 (ZaR H0)):L7 (ZFN yj31_l1) (ZkP H0):=fun _ _ _ _ _ _ _ _=>Zdi (ZK9 (ZJK H0 hj31_l1) _ _ _ _ _ _ _ _) (ZK0 H0 _ _ _ _ _ _ _ _)
def ZFM (ZaR:A5):A7:=Zzy (ZFN ZaR)
theorem ZJL (H0:Hp) {yj31_l1:A5} (hj31_l1:L5 yj31_l1 (ZaR H0)):L7 (ZFM yj31_l1) (ZkO H0):=fun _ _ _ _ _ _ _ _=>Zdi (ZK8 (ZJM H0 hj31_l1) _ _ _ _ _ _ _ _) (ZJZ H0 _ _ _ _ _ _ _ _)
def ZFK (ZaR:A5):A5:=Zzw (ZFM ZaR)
theorem ZJJ (H0:Hp) {yj31_l1:A5} (hj31_l1:L5 yj31_l1 (ZaR H0)):L5 (ZFK yj31_l1) (ZmT H0):=fun _ _ _ _ _ _=>Zdi (ZK6 (ZJL H0 hj31_l1) _ _ _ _ _ _) (ZJX H0 _ _ _ _ _ _)
def ZC9 (n:Nat):A5:=@Nat.rec (fun _=>A5) (fun _ _ _ _ _ _=>none) (fun _ ZaR=>Zwu (ZFJ) (ZFK ZaR)) n
theorem ZJ0 (H0:Hp) (n:Nat):L5 (ZC9 n) (ZaR H0):=by
 induction n with
 | zero=>exact fun _ _ _ _ _ _=>ZsQ _
 | succ n hj31_l1=>exact fun _ _ _ _ _ _=>Zdi (ZJD (ZJI H0) (ZJJ H0 hj31_l1) _ _ _ _ _ _) (ZJn H0 _ _ _ _ _ _)
def bc31 (ZaR:A5) (H:Hp):Res:=
 bnd (some ((.ptr H.length 0),H++[.cells [(.str []),.nils,(.str []),(.str []),.nils,.nils]])) fun r0=>
 bnd ((ZbJ [(0,1,(.str [112,111,115,105,120]))] [(.str []),.nils,(.str []),(.str []),.nils,.nils]).map .agg) fun t7=>
 bnd (some ((.ptr r0.2.length 0),r0.2++[.cells [(.str []),.nils,(.str []),(.str []),.nils,.nils]])) fun r1=>
 bnd (Zag 6 r1.1 t7 r1.2) fun r_4=>
 ZaR r0.1 r1.1 .nils .nils (.int .i64 0) r_4.2
theorem ec31 (H:Hp):c31 H=bc31 (ZaR H) H:=(Zab (C:=cfg) (fn:=Tryz.f31) (c:=Za0 Tryz.f31) (n:=55) [5,6,9,11,14] Tryz.func31 (by kernel_rfl) (by kernel_rfl) [] (by kernel_rfl) H).trans (by kernel_rfl)
theorem mc31 {ZaR dj31_l1:A5} (hj31_l1:L5 ZaR dj31_l1):L0 (bc31 ZaR) (bc31 dj31_l1):=fun _=>
 bR fun _=>bR fun _=>bR fun _=>bR fun _=>hj31_l1 _ _ _ _ _ _
def rc31:A0:=fun H=>bc31 (ZC9 100000) H
theorem sc31:L0 rc31 c31:=fun H=>Zdi (mc31 (ZJ0 H 100000) _) (ec31 _)
def c224 (p0 p1 p2:AV) (H:Hp):Res:=Za7 cfg 224 [p0,p1,p2] H
def Zjs (H0:Hp) (x7:AV) (H:Hp):Res:=CXf 224 40 (sub (Za0 Tryz.f224) [1,1,1]) (retL cfg 40 224 Tryz.f224 H0) [(7,x7)] H
def ZwR (H0:Hp):KL:=seqL (fun k al H=>CXf 224 40 (sub (Za0 Tryz.f224) [1,1,1]) k (Za8 (cfg.keep 224) (sub (Za0 Tryz.f224) [1,1,1]) al) H) (retL cfg 40 224 Tryz.f224 H0)
theorem ZBA (H0:Hp):Tame 40 (ZwR H0):=Zak (C:=cfg) (kp:=cfg.keep 224) (sub (Za0 Tryz.f224) [1,1,1]) (Zao 224 Tryz.f224 H0)
def Zi0 (H0:Hp) (x0 x1 x2 x7 x11 x12:AV) (H:Hp):Res:=CXf 224 40 (sub (Za0 Tryz.f224) [1,1,0,1,0,0,1,1,1]) (seqL (fun k al H=>LPf 224 40 (sub (Za0 Tryz.f224) [1,1,0,1,0,0]) k (Za8 (cfg.keep 224) (sub (Za0 Tryz.f224) [1,1,0,1,0,0]) al) H) (Za3 0 (ZwR H0))) [(0,x0),(1,x1),(2,x2),(7,x7),(11,x11),(12,x12)] H
def Zjt (H0:Hp) (x0 x1 x2 x7 x11 x12 x13:AV) (H:Hp):Res:=CXf 224 40 (sub (Za0 Tryz.f224) [1,1,0,1,0,0,1,1]) (seqL (fun k al H=>LPf 224 40 (sub (Za0 Tryz.f224) [1,1,0,1,0,0]) k (Za8 (cfg.keep 224) (sub (Za0 Tryz.f224) [1,1,0,1,0,0]) al) H) (Za3 0 (ZwR H0))) [(0,x0),(1,x1),(2,x2),(7,x7),(11,x11),(12,x12),(13,x13)] H
def Zb2 (H0:Hp) (x0 x1 x2 x7 x11 x12:AV) (H:Hp):Res:=LPf 224 40 (sub (Za0 Tryz.f224) [1,1,0,1,0,0]) (Za3 0 (ZwR H0)) [(0,x0),(1,x1),(2,x2),(7,x7),(11,x11),(12,x12)] H
def Zwr (x7:AV) (H:Hp):Res:=
 bnd (cvRd x7 H) fun t39=>
 some (t39,H)
theorem ZJk (H0:Hp) (x7:AV) (H:Hp):Zjs H0 x7 H=Zwr x7 H:=(Za4 [4,8,9] _ _ _ _).trans (by kernel_rfl)
theorem ZJA:L1 (Zwr) (Zwr):=fun _ _=>
 bR fun _=>le_refl _
def Zwt (Zb2:A6) (x0 x1 x2 x7 x11 x12:AV) (H:Hp):Res:=
 bnd (ibin .add x12 (.int .i64 1)) fun t37=>
 Zb2 x0 x1 x2 x7 x11 t37 H
theorem ZJm (H0:Hp) (x0 x1 x2 x7 x11 x12:AV) (H:Hp):Zi0 H0 x0 x1 x2 x7 x11 x12 H=Zwt (Zb2 H0) x0 x1 x2 x7 x11 x12 H:=(Za4 [4,8,9] _ _ _ _).trans (by kernel_rfl)
theorem ZJC {Zb2 dj224_l1:A6} (hj224_l1:L6 Zb2 dj224_l1):L6 (Zwt Zb2) (Zwt dj224_l1):=fun _ _ _ _ _ _ _=>
 bR fun _=>hj224_l1 _ _ _ _ _ _ _
def Zws (Zi0:A6) (x0 x1 x2 x7 x11 x12 x13:AV) (H:Hp):Res:=
 bnd (ZbA .u8 x12) fun t18=>
 bnd (Zad 1 x7 x12) fun t19=>
 bnd (Zag 1 t19 t18 H) fun r_8=>
 bnd (ZbA .u8 x12) fun t21=>
 bnd (ibin .geq t21 x0) fun t23=>
 bnd (gdv t23 true (.tuple []) (some x12)) fun t25=>
 bnd (gdv t23 true (.tuple []) (ZbA .u8 t25)) fun t26=>
 bnd (gdv t23 true (.tuple []) (some x1)) fun t27=>
 bnd (gdv t23 true (.tuple []) (ibin .leq t26 t27)) fun t28=>
 bnd (Zae t23 t28 (.bool false)) fun t29=>
 cnd t29
  (bnd (ibin .add x12 x2) fun t34=>
  bnd (ZbA .u8 t34) fun t35=>
  bnd (Zad 1 x7 x12) fun t36=>
  bnd (Zag 1 t36 t35 r_8.2) fun r_19=>
  Zi0 x0 x1 x2 x7 x11 x12 r_19.2)
  (Zi0 x0 x1 x2 x7 x11 x12 r_8.2)
theorem ZJl (H0:Hp) (x0 x1 x2 x7 x11 x12 x13:AV) (H:Hp):Zjt H0 x0 x1 x2 x7 x11 x12 x13 H=Zws (Zi0 H0) x0 x1 x2 x7 x11 x12 x13 H:=(Za4 [4,8,9] _ _ _ _).trans (by kernel_rfl)
theorem ZJB {Zi0 dj224_3:A6} (hj224_3:L6 Zi0 dj224_3):L7 (Zws Zi0) (Zws dj224_3):=fun _ _ _ _ _ _ _ _=>
 bR fun _=>bR fun _=>bR fun _=>bR fun _=>bR fun _=>bR fun _=>bR fun _=>bR fun _=>bR fun _=>bR fun _=>bK (bR fun _=>bR fun _=>bR fun _=>bR fun _=>hj224_3 _ _ _ _ _ _ _) (hj224_3 _ _ _ _ _ _ _)
def ZsI (Zjs:A1) (Zjt:A7) (x0 x1 x2 x7 x11 x12:AV) (H:Hp):Res:=
 bnd (ibin .lss x12 x11) fun t13=>
 cnd t13
  (Zjt x0 x1 x2 x7 x11 x12 t13 H)
  (Zjs x7 H)
theorem ZIn (H0:Hp) (x0 x1 x2 x7 x11 x12:AV) (H:Hp):Zb2 H0 x0 x1 x2 x7 x11 x12 H=ZsI (Zjs H0) (Zjt H0) x0 x1 x2 x7 x11 x12 H:=(Zap (C:=cfg) [4,8,9] (Zah 0 (ZBA H0)) _ _).trans (by kernel_rfl)
theorem ZIH {Zjs dj224_1:A1} (hj224_1:L1 Zjs dj224_1) {Zjt dj224_2:A7} (hj224_2:L7 Zjt dj224_2):L6 (ZsI Zjs Zjt) (ZsI dj224_1 dj224_2):=fun _ _ _ _ _ _ _=>
 bR fun _=>bK (hj224_2 _ _ _ _ _ _ _ _) (hj224_1 _ _)
def ZC6:A1:=Zwr
theorem ZIX (H0:Hp):L1 (ZC6) (Zjs H0):=fun _ _=>Zdi (ZJA _ _) (ZJk H0 _ _)
def ZC8 (Zb2:A6):A6:=Zwt Zb2
theorem ZIZ (H0:Hp) {yj224_l1:A6} (hj224_l1:L6 yj224_l1 (Zb2 H0)):L6 (ZC8 yj224_l1) (Zi0 H0):=fun _ _ _ _ _ _ _=>Zdi (ZJC hj224_l1 _ _ _ _ _ _ _) (ZJm H0 _ _ _ _ _ _ _)
def ZC7 (Zb2:A6):A7:=Zws (ZC8 Zb2)
theorem ZIY (H0:Hp) {yj224_l1:A6} (hj224_l1:L6 yj224_l1 (Zb2 H0)):L7 (ZC7 yj224_l1) (Zjt H0):=fun _ _ _ _ _ _ _ _=>Zdi (ZJB (ZIZ H0 hj224_l1) _ _ _ _ _ _ _ _) (ZJl H0 _ _ _ _ _ _ _ _)
def ZAF (n:Nat):A6:=@Nat.rec (fun _=>A6) (fun _ _ _ _ _ _ _=>none) (fun _ Zb2=>ZsI (ZC6) (ZC7 Zb2)) n
theorem ZHw (H0:Hp) (n:Nat):L6 (ZAF n) (Zb2 H0):=by
 induction n with
 | zero=>exact fun _ _ _ _ _ _ _=>ZsQ _
 | succ n hj224_l1=>exact fun _ _ _ _ _ _ _=>Zdi (ZIH (ZIX H0) (ZIY H0 hj224_l1) _ _ _ _ _ _ _) (ZIn H0 _ _ _ _ _ _ _)
def ZzB (Zb2:A6) (p0 p1 p2:AV) (H:Hp):Res:=
 bnd (Zda 1 1 false (.int .u8 0) (.int .i64 256) (.int .i64 256) H) fun r9=>
 bnd (Zaf (.slice 5) r9.1) fun t11=>
 Zb2 p0 p1 p2 r9.1 t11 (.int .i64 0) r9.2
theorem ZK2 (p0 p1 p2:AV) (H:Hp):c224 p0 p1 p2 H=ZzB (Zb2 H) p0 p1 p2 H:=(Zab (C:=cfg) (fn:=Tryz.f224) (c:=Za0 Tryz.f224) (n:=40) [4,8,9] Tryz.func224 (by kernel_rfl) (by kernel_rfl) [p0,p1,p2] (by kernel_rfl) H).trans (by kernel_rfl)
theorem ZKb {Zb2 dj224_l1:A6} (hj224_l1:L6 Zb2 dj224_l1):L3 (ZzB Zb2) (ZzB dj224_l1):=fun _ _ _ _=>
 bR fun _=>bR fun _=>hj224_l1 _ _ _ _ _ _ _
def ZHT:A3:=fun p0 p1 p2 H=>ZzB (ZAF 100000) p0 p1 p2 H
theorem ZKe:L3 ZHT c224:=fun _ _ _ H=>Zdi (ZKb (ZHw H 100000) _ _ _ _) (ZK2 _ _ _ _)
def q224:A3:=fun p0 p1 p2 H=>Za5 (Za7 cfg 224) [p0,p1,p2] H
def ZHU:A3:=fun p0 p1 p2 H=>Za5 (ofL3 (ZHT)) [p0,p1,p2] H
theorem ZKf:L3 ZHU q224:=fun _ _ _ _=>ZIs (ZIK (ZKe)) _ _

def c187 (H:Hp):Res:=Za7 cfg 187 [] H
def Zjp (H0:Hp) (x0 x1:AV) (H:Hp):Res:=CXf 187 18 (sub (Za0 Tryz.f187) [1,1,1]) (retL cfg 18 187 Tryz.f187 H0) [(0,x0),(1,x1)] H
def ZwQ (H0:Hp):KL:=seqL (fun k al H=>CXf 187 18 (sub (Za0 Tryz.f187) [1,1,1]) k (Za8 (cfg.keep 187) (sub (Za0 Tryz.f187) [1,1,1]) al) H) (retL cfg 18 187 Tryz.f187 H0)
theorem ZBz (H0:Hp):Tame 18 (ZwQ H0):=Zak (C:=cfg) (kp:=cfg.keep 187) (sub (Za0 Tryz.f187) [1,1,1]) (Zao 187 Tryz.f187 H0)
def Zjr (H0:Hp) (x0 x1 x5 x6:AV) (H:Hp):Res:=CXf 187 18 (sub (Za0 Tryz.f187) [1,1,0,1,0,0,1,1,1]) (seqL (fun k al H=>LPf 187 18 (sub (Za0 Tryz.f187) [1,1,0,1,0,0]) k (Za8 (cfg.keep 187) (sub (Za0 Tryz.f187) [1,1,0,1,0,0]) al) H) (Za3 0 (ZwQ H0))) [(0,x0),(1,x1),(5,x5),(6,x6)] H
def Zjq (H0:Hp) (x0 x1 x5 x6 x7:AV) (H:Hp):Res:=CXf 187 18 (sub (Za0 Tryz.f187) [1,1,0,1,0,0,1,1]) (seqL (fun k al H=>LPf 187 18 (sub (Za0 Tryz.f187) [1,1,0,1,0,0]) k (Za8 (cfg.keep 187) (sub (Za0 Tryz.f187) [1,1,0,1,0,0]) al) H) (Za3 0 (ZwQ H0))) [(0,x0),(1,x1),(5,x5),(6,x6),(7,x7)] H
def Zb1 (H0:Hp) (x0 x1 x5 x6:AV) (H:Hp):Res:=LPf 187 18 (sub (Za0 Tryz.f187) [1,1,0,1,0,0]) (Za3 0 (ZwQ H0)) [(0,x0),(1,x1),(5,x5),(6,x6)] H
def Zwo (q224:A3) (x0 x1:AV) (H:Hp):Res:=
 bnd (q224 (.int .u8 65) (.int .u8 90) (.int .i64 32) H) fun r15=>
 bnd (q224 (.int .u8 97) (.int .u8 122) (.int .i64 (-32)) r15.2) fun r16=>
 bnd ((ZbJ [(0,1,(.str [112,111,115,105,120])),(1,1,x1),(2,1,r15.1),(3,1,r16.1)] [(.str []),.nils,(.str []),(.str []),.nils,.nils]).map .agg) fun t17=>
 bnd (Zag 6 x0 t17 r16.2) fun r_6=>
 bnd (Za2 true 6 x0 r_6.2) fun v0=>
 some (v0,r_6.2)
theorem ZJh (H0:Hp) (x0 x1:AV) (H:Hp):Zjp H0 x0 x1 H=Zwo q224 x0 x1 H:=(Za4 [4,6,7] _ _ _ _).trans (by kernel_rfl)
theorem ZJx {q224 dq224:A3} (hq224:L3 q224 dq224):L2 (Zwo q224) (Zwo dq224):=fun _ _ _=>
 bC (hq224 _ _ _ _) fun _=>bC (hq224 _ _ _ _) fun _=>bR fun _=>bR fun _=>bR fun _=>le_refl _
def Zwq (Zb1:A4) (x0 x1 x5 x6:AV) (H:Hp):Res:=
 bnd (ibin .add x6 (.int .i64 1)) fun t13=>
 Zb1 x0 x1 x5 t13 H
theorem ZJj (H0:Hp) (x0 x1 x5 x6:AV) (H:Hp):Zjr H0 x0 x1 x5 x6 H=Zwq (Zb1 H0) x0 x1 x5 x6 H:=(Za4 [4,6,7] _ _ _ _).trans (by kernel_rfl)
theorem ZJz {Zb1 dj187_l1:A4} (hj187_l1:L4 Zb1 dj187_l1):L4 (Zwq Zb1) (Zwq dj187_l1):=fun _ _ _ _ _=>
 bR fun _=>hj187_l1 _ _ _ _ _
def Zwp (Zjr:A4) (x0 x1 x5 x6 x7:AV) (H:Hp):Res:=
 bnd (Zad 1 x1 x6) fun t12=>
 bnd (Zag 1 t12 x6 H) fun r_12=>
 Zjr x0 x1 x5 x6 r_12.2
theorem ZJi (H0:Hp) (x0 x1 x5 x6 x7:AV) (H:Hp):Zjq H0 x0 x1 x5 x6 x7 H=Zwp (Zjr H0) x0 x1 x5 x6 x7 H:=(Za4 [4,6,7] _ _ _ _).trans (by kernel_rfl)
theorem ZJy {Zjr dj187_3:A4} (hj187_3:L4 Zjr dj187_3):L5 (Zwp Zjr) (Zwp dj187_3):=fun _ _ _ _ _ _=>
 bR fun _=>bR fun _=>hj187_3 _ _ _ _ _
def ZsH (Zjp:A2) (Zjq:A5) (x0 x1 x5 x6:AV) (H:Hp):Res:=
 bnd (ibin .lss x6 x5) fun t7=>
 cnd t7
  (Zjq x0 x1 x5 x6 t7 H)
  (Zjp x0 x1 H)
theorem ZIm (H0:Hp) (x0 x1 x5 x6:AV) (H:Hp):Zb1 H0 x0 x1 x5 x6 H=ZsH (Zjp H0) (Zjq H0) x0 x1 x5 x6 H:=(Zap (C:=cfg) [4,6,7] (Zah 0 (ZBz H0)) _ _).trans (by kernel_rfl)
theorem ZIG {Zjp dj187_1:A2} (hj187_1:L2 Zjp dj187_1) {Zjq dj187_2:A5} (hj187_2:L5 Zjq dj187_2):L4 (ZsH Zjp Zjq) (ZsH dj187_1 dj187_2):=fun _ _ _ _ _=>
 bR fun _=>bK (hj187_2 _ _ _ _ _ _) (hj187_1 _ _ _)
def ZC3:A2:=Zwo ZHU
theorem ZIU (H0:Hp):L2 (ZC3) (Zjp H0):=fun _ _ _=>Zdi (ZJx ZKf _ _ _) (ZJh H0 _ _ _)
def ZC5 (Zb1:A4):A4:=Zwq Zb1
theorem ZIW (H0:Hp) {yj187_l1:A4} (hj187_l1:L4 yj187_l1 (Zb1 H0)):L4 (ZC5 yj187_l1) (Zjr H0):=fun _ _ _ _ _=>Zdi (ZJz hj187_l1 _ _ _ _ _) (ZJj H0 _ _ _ _ _)
def ZC4 (Zb1:A4):A5:=Zwp (ZC5 Zb1)
theorem ZIV (H0:Hp) {yj187_l1:A4} (hj187_l1:L4 yj187_l1 (Zb1 H0)):L5 (ZC4 yj187_l1) (Zjq H0):=fun _ _ _ _ _ _=>Zdi (ZJy (ZIW H0 hj187_l1) _ _ _ _ _ _) (ZJi H0 _ _ _ _ _ _)
def ZAE (n:Nat):A4:=@Nat.rec (fun _=>A4) (fun _ _ _ _ _=>none) (fun _ Zb1=>ZsH (ZC3) (ZC4 Zb1)) n
theorem ZHv (H0:Hp) (n:Nat):L4 (ZAE n) (Zb1 H0):=by
 induction n with
 | zero=>exact fun _ _ _ _ _=>ZsQ _
 | succ n hj187_l1=>exact fun _ _ _ _ _=>Zdi (ZIG (ZIU H0) (ZIV H0 hj187_l1) _ _ _ _ _) (ZIm H0 _ _ _ _ _)
def ZzA (Zb1:A4) (H:Hp):Res:=
 bnd (some ((.ptr H.length 0),H++[.cells [(.str []),.nils,(.str []),(.str []),.nils,.nils]])) fun r0=>
 bnd (Zda 1 8 false (.int .i64 0) (.int .i64 256) (.int .i64 256) r0.2) fun r3=>
 bnd (Zaf (.slice 3) r3.1) fun t5=>
 Zb1 r0.1 r3.1 t5 (.int .i64 0) r3.2
theorem ZK1 (H:Hp):c187 H=ZzA (Zb1 H) H:=(Zab (C:=cfg) (fn:=Tryz.f187) (c:=Za0 Tryz.f187) (n:=18) [4,6,7] Tryz.func187 (by kernel_rfl) (by kernel_rfl) [] (by kernel_rfl) H).trans (by kernel_rfl)
theorem ZKa {Zb1 dj187_l1:A4} (hj187_l1:L4 Zb1 dj187_l1):L0 (ZzA Zb1) (ZzA dj187_l1):=fun _=>
 bR fun _=>bR fun _=>bR fun _=>hj187_l1 _ _ _ _ _
def ZHS:A0:=fun H=>ZzA (ZAE 100000) H
theorem ZKd:L0 ZHS c187:=fun H=>Zdi (ZKa (ZHv H 100000) _) (ZK1 _)
end
end Go.Am
