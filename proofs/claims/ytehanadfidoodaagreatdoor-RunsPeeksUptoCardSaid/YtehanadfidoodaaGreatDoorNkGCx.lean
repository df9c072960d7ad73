/-
  The functions of the translation over the abstract machine, a further part: written by program (wip/gen.py).
-/
import Derived.Test.YtehanadfidoodaaGreatDoorNkGx
namespace Go.Am
open Go.Proofs
set_option maxRecDepth 100000
set_option linter.unusedVariables false
set_option linter.unusedSimpArgs false
noncomputable abbrev CXgC (f n:Nat):=CXL cfg (callw cfg) (LPL cfg (cfg.keep f) n) (cfg.keep f) n seqL blockL
noncomputable abbrev LPgC (f n:Nat):=LPL cfg (cfg.keep f) n
noncomputable section

def sortkey_Order_J2 (x9:AV) (H0 H:Hp):Res:=CXgC 67 39 (sub (bodyOf Tryz.f67) [1,1,1,1,1,1]) (retL cfg 39 67 Tryz.f67 H0) [(9,x9)] H
def sortkey_Order_J1 (x2 x3 x4 x5:AV) (H0 H:Hp):Res:=CXgC 67 39 (sub (bodyOf Tryz.f67) [1,1,1,1]) (retL cfg 39 67 Tryz.f67 H0) [(2,x2),(3,x3),(4,x4),(5,x5)] H
def F_sortkey_Order (p0 p1 p2 p3:AV) (H:Hp):Res:=
  bnd (abox p0 H) fun r4=>
  bnd (abox p1 r4.2) fun r5=>
  bnd (aload true 5 r5.1 r5.2) fun t10=>
  bnd (flatC C_sortkey_valid [t10] r5.2) fun r11=>
  bnd (astoreU 5 r5.1 r11.1 r11.2) fun r_5=>
  bnd (aload true 6 r4.1 r_5.2) fun t12=>
  bnd (aload true 5 r5.1 r_5.2) fun t13=>
  bnd (flatC C_sortkey_Compare [t12,t13,p2,p3] r_5.2) fun r16=>
  bnd (ibin .neq r16.1 (.int .i64 0)) fun t18=>
  bnd (gdv t18 false (.tuple []) (afield 4 r5.1)) fun t20=>
  bnd (gdv t18 false (.tuple []) (aload false 1 t20 r16.2)) fun t21=>
  bnd (apick t18 (.bool true) t21) fun t22=>
  bnd (gdv t22 false (.tuple []) (afield 3 r5.1)) fun t24=>
  bnd (gdv t22 false (.tuple []) (aload false 1 t24 r16.2)) fun t25=>
  bnd (apick t22 (.bool true) t25) fun t26=>
  cnd t26
    (some (r16.1,r16.2))
    (sortkey_Order_J1 p2 p3 r4.1 r5.1 H r16.2)
theorem sortkey_Order_J2_eq (x9:AV) (H0 H:Hp):sortkey_Order_J2 x9 H0 H =
    some (x9,H):=(CXM_eq [5,8] _ _ _ _).trans (by kernel_rfl)
theorem sortkey_Order_J1_eq (x2 x3 x4 x5:AV) (H0 H:Hp):sortkey_Order_J1 x2 x3 x4 x5 H0 H =
    bnd (aload true 6 x4 H) fun t28=>
    bnd (flatC C_locale_Compare [t28,x2,x3] H) fun r31=>
    bnd (afield 2 x5) fun t32=>
    bnd (aload false 1 t32 r31.2) fun t33=>
    bnd (ibin .and t33 (.int .i64 2)) fun t34=>
    bnd (ibin .neq t34 (.int .i64 0)) fun t35=>
    cnd t35
      (bnd (aun .neg r31.1) fun t37=>
      some (t37,r31.2))
      (sortkey_Order_J2 r31.1 H0 r31.2):=(CXM_eq [5,8] _ _ _ _).trans (by kernel_rfl)
theorem F_sortkey_Order_eq (p0 p1 p2 p3:AV) (H:Hp):C_sortkey_Order [p0,p1,p2,p3] H = F_sortkey_Order p0 p1 p2 p3 H:=(callw_cxm (C:=cfg) (fn:=Tryz.f67) (c:=bodyOf Tryz.f67) (n:=39) [5,8] Tryz.func67 (by kernel_rfl) (by kernel_rfl) [p0,p1,p2,p3] (by kernel_rfl) H).trans (by kernel_rfl)

def sortkey_Compare_J2 (H0 H:Hp):Res:=CXgC 72 55 (sub (bodyOf Tryz.f72) [1,1,1,1]) (retL cfg 55 72 Tryz.f72 H0) [] H
def sortkey_Compare_K1 (H0:Hp):KL:=seqL (fun k al H=>CXgC 72 55 (sub (bodyOf Tryz.f72) [1,1,1,1]) k (trimL (cfg.keep 72) (sub (bodyOf Tryz.f72) [1,1,1,1]) al) H) (retL cfg 55 72 Tryz.f72 H0)
theorem sortkey_Compare_K1_tame (H0:Hp):Tame 55 (sortkey_Compare_K1 H0):=tame_seq (C:=cfg) (kp:=cfg.keep 72) (sub (bodyOf Tryz.f72) [1,1,1,1]) (tame_ret 72 Tryz.f72 H0)
def sortkey_Compare_J4 (x2 x3 x4 x5 x26 x27 x28:AV) (H0 H:Hp):Res:=CXgC 72 55 (sub (bodyOf Tryz.f72) [1,1,1,0,1,0,0,1,1,1]) (seqL (fun k al H=>LPgC 72 55 (sub (bodyOf Tryz.f72) [1,1,1,0,1,0,0]) k (trimL (cfg.keep 72) (sub (bodyOf Tryz.f72) [1,1,1,0,1,0,0]) al) H) (blockL 0 (sortkey_Compare_K1 H0))) [(2,x2),(3,x3),(4,x4),(5,x5),(26,x26),(27,x27),(28,x28)] H
def sortkey_Compare_K2 (H0:Hp):KL:=seqL (fun k al H=>CXgC 72 55 (sub (bodyOf Tryz.f72) [1,1,1,0,1,0,0,1,1,1]) k (trimL (cfg.keep 72) (sub (bodyOf Tryz.f72) [1,1,1,0,1,0,0,1,1,1]) al) H) (seqL (fun k al H=>LPgC 72 55 (sub (bodyOf Tryz.f72) [1,1,1,0,1,0,0]) k (trimL (cfg.keep 72) (sub (bodyOf Tryz.f72) [1,1,1,0,1,0,0]) al) H) (blockL 0 (sortkey_Compare_K1 H0)))
def sortkey_Compare_J5 (x2 x3 x4 x5 x10 x11 x26 x27 x28:AV) (H0 H:Hp):Res:=CXgC 72 55 (sub (bodyOf Tryz.f72) [1,1,1,0,1,0,0,1,1,0,0,1,1,1]) (blockL 1 (sortkey_Compare_K2 H0)) [(2,x2),(3,x3),(4,x4),(5,x5),(10,x10),(11,x11),(26,x26),(27,x27),(28,x28)] H
def sortkey_Compare_J3 (x2 x3 x4 x5 x26 x27 x28 x29:AV) (H0 H:Hp):Res:=CXgC 72 55 (sub (bodyOf Tryz.f72) [1,1,1,0,1,0,0,1,1]) (seqL (fun k al H=>LPgC 72 55 (sub (bodyOf Tryz.f72) [1,1,1,0,1,0,0]) k (trimL (cfg.keep 72) (sub (bodyOf Tryz.f72) [1,1,1,0,1,0,0]) al) H) (blockL 0 (sortkey_Compare_K1 H0))) [(2,x2),(3,x3),(4,x4),(5,x5),(26,x26),(27,x27),(28,x28),(29,x29)] H
def sortkey_Compare_L1 (x2 x3 x4 x5 x26 x27 x28:AV) (H0 H:Hp):Res:=LPgC 72 55 (sub (bodyOf Tryz.f72) [1,1,1,0,1,0,0]) (blockL 0 (sortkey_Compare_K1 H0)) [(2,x2),(3,x3),(4,x4),(5,x5),(26,x26),(27,x27),(28,x28)] H
def sortkey_Compare_J1 (x2 x3 x4 x5:AV) (H0 H:Hp):Res:=CXgC 72 55 (sub (bodyOf Tryz.f72) [1,1,1]) (retL cfg 55 72 Tryz.f72 H0) [(2,x2),(3,x3),(4,x4),(5,x5)] H
def F_sortkey_Compare (p0 p1 p2 p3:AV) (H:Hp):Res:=
  bnd (abox p0 H) fun r4=>
  bnd (abox p1 r4.2) fun r5=>
  bnd (aload true 5 r5.1 r5.2) fun t13=>
  bnd (flatC C_sortkey_valid [t13] r5.2) fun r14=>
  bnd (astoreU 5 r5.1 r14.1 r14.2) fun r_5=>
  bnd (afield 0 r5.1) fun t15=>
  bnd (aload false 1 t15 r_5.2) fun t16=>
  bnd (alenD (.slice 149) t16) fun t17=>
  bnd (ibin .eql t17 (.int .i64 0)) fun t18=>
  cnd t18
    (bnd (aload true 6 r4.1 r_5.2) fun t19=>
    bnd (afield 2 r5.1) fun t20=>
    bnd (aload false 1 t20 r_5.2) fun t21=>
    bnd (flatC C_sortkey_parts [t19,t21,p2,p3] r_5.2) fun r24=>
    some (r24.1,r24.2))
    (sortkey_Compare_J1 p2 p3 r4.1 r5.1 H r_5.2)
theorem sortkey_Compare_J2_eq (H0 H:Hp):sortkey_Compare_J2 H0 H =
    some ((.int .i64 0),H):=(CXM_eq [4,6,10,13,14] _ _ _ _).trans (by kernel_rfl)
theorem sortkey_Compare_J4_eq (x2 x3 x4 x5 x26 x27 x28:AV) (H0 H:Hp):sortkey_Compare_J4 x2 x3 x4 x5 x26 x27 x28 H0 H =
    bnd (ibin .add x28 (.int .i64 1)) fun t54=>
    sortkey_Compare_L1 x2 x3 x4 x5 x26 x27 t54 H0 H:=(CXM_eq [4,6,10,13,14] _ _ _ _).trans (by kernel_rfl)
theorem sortkey_Compare_J5_eq (x2 x3 x4 x5 x10 x11 x26 x27 x28:AV) (H0 H:Hp):sortkey_Compare_J5 x2 x3 x4 x5 x10 x11 x26 x27 x28 H0 H =
    frzK x4 H fun z4 z4H=>
    frzK x5 z4H fun z5 z5H=>
    frzK x10 z5H fun z10 z10H=>
    bnd (aloadv true 6 z4) fun t38=>
    bnd (aload true 5 z10 z10H) fun t41=>
    bnd (afield 1 z5) fun t42=>
    bnd (aload false 1 t42 z10H) fun t43=>
    bnd (C_sortkey_Extract [x2,t41,t43] z10H) fun r44=>
    bnd (aloadv true 5 z10) fun t46=>
    bnd (afield 1 z5) fun t47=>
    bnd (aloadv false 1 t47) fun t48=>
    bnd (C_sortkey_Extract [x3,t46,t48] r44.2) fun r49=>
    bnd (flatC C_sortkey_parts [t38,x11,r44.1,r49.1] r49.2) fun r50=>
    bnd (ibin .neq r50.1 (.int .i64 0)) fun t52=>
    cnd t52
      (some (r50.1,r50.2))
      (sortkey_Compare_J4 x2 x3 z4 z5 x26 x27 x28 H0 r50.2):=(CXM_eq [4,6,10,13,14] _ _ _ _).trans (by kernel_rfl)
theorem sortkey_Compare_J3_eq (x2 x3 x4 x5 x26 x27 x28 x29:AV) (H0 H:Hp):sortkey_Compare_J3 x2 x3 x4 x5 x26 x27 x28 x29 H0 H =
    bnd (aindexS 5 x26 x28) fun t30=>
    bnd (aload true 5 t30 H) fun t31=>
    bnd (some ((.ptr H.length 0),H ++ [.cells [(.int .i64 0),(.int .i64 0),(.int .i64 0),(.int .i64 0),(.int .i64 0)]])) fun r10=>
    bnd (astoreU 5 r10.1 t31 r10.2) fun r_14=>
    bnd (afield 4 r10.1) fun t32=>
    bnd (aload false 1 t32 r_14.2) fun t33=>
    bnd (ibin .eql t33 (.int .i64 0)) fun t35=>
    cnd t35
      (bnd (afield 2 x5) fun t36=>
      bnd (aload false 1 t36 r_14.2) fun t37=>
      sortkey_Compare_J5 x2 x3 x4 x5 r10.1 t37 x26 x27 x28 H0 r_14.2)
      (sortkey_Compare_J5 x2 x3 x4 x5 r10.1 t33 x26 x27 x28 H0 r_14.2):=(CXM_eq [4,6,10,13,14] _ _ _ _).trans (by kernel_rfl)
theorem sortkey_Compare_L1_eq (x2 x3 x4 x5 x26 x27 x28:AV) (H0 H:Hp):sortkey_Compare_L1 x2 x3 x4 x5 x26 x27 x28 H0 H =
    bnd (ibin .lss x28 x27) fun t29=>
    cnd t29
      (sortkey_Compare_J3 x2 x3 x4 x5 x26 x27 x28 t29 H0 H)
      (sortkey_Compare_J2 H0 H):=(LPL_eqm (C:=cfg) [4,6,10,13,14] (tame_block 0 (sortkey_Compare_K1_tame H0)) _ _).trans (by kernel_rfl)
theorem sortkey_Compare_J1_eq (x2 x3 x4 x5:AV) (H0 H:Hp):sortkey_Compare_J1 x2 x3 x4 x5 H0 H =
    bnd (afield 0 x5) fun t25=>
    bnd (aload false 1 t25 H) fun t26=>
    bnd (alenD (.slice 149) t26) fun t27=>
    sortkey_Compare_L1 x2 x3 x4 x5 t26 t27 (.int .i64 0) H0 H:=(CXM_eq [4,6,10,13,14] _ _ _ _).trans (by kernel_rfl)
theorem F_sortkey_Compare_eq (p0 p1 p2 p3:AV) (H:Hp):C_sortkey_Compare [p0,p1,p2,p3] H = F_sortkey_Compare p0 p1 p2 p3 H:=(callw_cxm (C:=cfg) (fn:=Tryz.f72) (c:=bodyOf Tryz.f72) (n:=55) [4,6,10,13,14] Tryz.func72 (by kernel_rfl) (by kernel_rfl) [p0,p1,p2,p3] (by kernel_rfl) H).trans (by kernel_rfl)

def sortkey_valid_J1 (x1 x2:AV) (H0 H:Hp):Res:=CXgC 105 8 (sub (bodyOf Tryz.f105) [1,1]) (retL cfg 8 105 Tryz.f105 H0) [(1,x1),(2,x2)] H
def F_sortkey_valid (p0:AV) (H:Hp):Res:=
  bnd (abox p0 H) fun r1=>
  bnd (some ((.ptr r1.2.length 0),r1.2 ++ [.cells [.nils,(.int .i64 0),(.int .i64 0),(.bool false),(.bool false)]])) fun r2=>
  bnd (aload true 5 r1.1 r2.2) fun t3=>
  bnd (flatC C_sortkey_Check [t3] r2.2) fun r4=>
  bnd (ibin .neq r4.1 (.int .i64 0)) fun t5=>
  cnd t5
    (bnd ((afill [(1,1,(.int .i64 (-1)))] [.nils,(.int .i64 0),(.int .i64 0),(.bool false),(.bool false)]).map .agg) fun t6=>
    bnd (astoreU 5 r2.1 t6 r4.2) fun r_10=>
    bnd (aload true 5 r2.1 r_10.2) fun v2=>
    some (v2,r_10.2))
    (sortkey_valid_J1 r1.1 r2.1 H r4.2)
theorem sortkey_valid_J1_eq (x1 x2:AV) (H0 H:Hp):sortkey_valid_J1 x1 x2 H0 H =
    bnd (aload true 5 x1 H) fun t7=>
    bnd (astoreU 5 x2 t7 H) fun r_4=>
    bnd (aload true 5 x2 r_4.2) fun v2=>
    some (v2,r_4.2):=(CXM_eq [3] _ _ _ _).trans (by kernel_rfl)
theorem F_sortkey_valid_eq (p0:AV) (H:Hp):C_sortkey_valid [p0] H = F_sortkey_valid p0 H:=(callw_cxm (C:=cfg) (fn:=Tryz.f105) (c:=bodyOf Tryz.f105) (n:=8) [3] Tryz.func105 (by kernel_rfl) (by kernel_rfl) [p0] (by kernel_rfl) H).trans (by kernel_rfl)

def locale_Compare_J3 (x1 x2:AV) (H0 H:Hp):Res:=CXgC 106 60 (sub (bodyOf Tryz.f106) [1,1,1,1,1,1,1]) (retL cfg 60 106 Tryz.f106 H0) [(1,x1),(2,x2)] H
def locale_Compare_J2 (x1 x2 x8 x9:AV) (H0 H:Hp):Res:=CXgC 106 60 (sub (bodyOf Tryz.f106) [1,1,1,1,1,1]) (retL cfg 60 106 Tryz.f106 H0) [(1,x1),(2,x2),(8,x8),(9,x9)] H
def locale_Compare_J1 (x1 x2 x8 x9:AV) (H0 H:Hp):Res:=CXgC 106 60 (sub (bodyOf Tryz.f106) [1,1,1,1,1]) (retL cfg 60 106 Tryz.f106 H0) [(1,x1),(2,x2),(8,x8),(9,x9)] H
def locale_Compare_K1 (H0:Hp):KL:=seqL (fun k al H=>CXgC 106 60 (sub (bodyOf Tryz.f106) [1,1,1,1,1]) k (trimL (cfg.keep 106) (sub (bodyOf Tryz.f106) [1,1,1,1,1]) al) H) (retL cfg 60 106 Tryz.f106 H0)
theorem locale_Compare_K1_tame (H0:Hp):Tame 60 (locale_Compare_K1 H0):=tame_seq (C:=cfg) (kp:=cfg.keep 106) (sub (bodyOf Tryz.f106) [1,1,1,1,1]) (tame_ret 106 Tryz.f106 H0)
def locale_Compare_J5 (x1 x2 x8 x9 x24 x25:AV) (H0 H:Hp):Res:=CXgC 106 60 (sub (bodyOf Tryz.f106) [1,1,1,1,0,1,0,0,1,1,1]) (seqL (fun k al H=>LPgC 106 60 (sub (bodyOf Tryz.f106) [1,1,1,1,0,1,0,0]) k (trimL (cfg.keep 106) (sub (bodyOf Tryz.f106) [1,1,1,1,0,1,0,0]) al) H) (blockL 0 (locale_Compare_K1 H0))) [(1,x1),(2,x2),(8,x8),(9,x9),(24,x24),(25,x25)] H
def locale_Compare_K2 (H0:Hp):KL:=seqL (fun k al H=>CXgC 106 60 (sub (bodyOf Tryz.f106) [1,1,1,1,0,1,0,0,1,1,1]) k (trimL (cfg.keep 106) (sub (bodyOf Tryz.f106) [1,1,1,1,0,1,0,0,1,1,1]) al) H) (seqL (fun k al H=>LPgC 106 60 (sub (bodyOf Tryz.f106) [1,1,1,1,0,1,0,0]) k (trimL (cfg.keep 106) (sub (bodyOf Tryz.f106) [1,1,1,1,0,1,0,0]) al) H) (blockL 0 (locale_Compare_K1 H0)))
def locale_Compare_J6 (x1 x2 x8 x9 x10 x24 x25:AV) (H0 H:Hp):Res:=CXgC 106 60 (sub (bodyOf Tryz.f106) [1,1,1,1,0,1,0,0,1,1,0,0,1,1]) (blockL 1 (locale_Compare_K2 H0)) [(1,x1),(2,x2),(8,x8),(9,x9),(10,x10),(24,x24),(25,x25)] H
def locale_Compare_J4 (x1 x2 x8 x9 x24 x25 x26:AV) (H0 H:Hp):Res:=CXgC 106 60 (sub (bodyOf Tryz.f106) [1,1,1,1,0,1,0,0,1,1]) (seqL (fun k al H=>LPgC 106 60 (sub (bodyOf Tryz.f106) [1,1,1,1,0,1,0,0]) k (trimL (cfg.keep 106) (sub (bodyOf Tryz.f106) [1,1,1,1,0,1,0,0]) al) H) (blockL 0 (locale_Compare_K1 H0))) [(1,x1),(2,x2),(8,x8),(9,x9),(24,x24),(25,x25),(26,x26)] H
def locale_Compare_L1 (x1 x2 x8 x9 x24 x25:AV) (H0 H:Hp):Res:=LPgC 106 60 (sub (bodyOf Tryz.f106) [1,1,1,1,0,1,0,0]) (blockL 0 (locale_Compare_K1 H0)) [(1,x1),(2,x2),(8,x8),(9,x9),(24,x24),(25,x25)] H
def F_locale_Compare (p0 p1 p2:AV) (H:Hp):Res:=
  bnd (abox p0 H) fun r3=>
  bnd (aload true 6 r3.1 r3.2) fun t11=>
  bnd (flatC C_locale_valid [t11] r3.2) fun r12=>
  bnd (astoreU 6 r3.1 r12.1 r12.2) fun r_4=>
  frzK r3.1 r_4.2 fun z3 z3H=>
  bnd (some (.fn (.func 148) [] [z3])) fun t13=>
  bnd (acallQ cfg (callw cfg) t13 [p1] z3H) fun r16=>
  bnd (acall cfg (callw cfg) t13 [p2] r16.2) fun r19=>
  bnd (alenD (.slice 3) r16.1) fun t21=>
  bnd (alenD (.slice 3) r19.1) fun t23=>
  bnd (amin2 t21 t23) fun t24=>
  locale_Compare_L1 p1 p2 r16.1 r19.1 t24 (.int .i64 0) H r19.2
theorem locale_Compare_J3_eq (x1 x2:AV) (H0 H:Hp):locale_Compare_J3 x1 x2 H0 H =
    bnd (flatC C_strings_Compare [x1,x2] H) fun r59=>
    some (r59.1,r59.2):=(CXM_eq [6,9,11,12,14,16] _ _ _ _).trans (by kernel_rfl)
theorem locale_Compare_J2_eq (x1 x2 x8 x9:AV) (H0 H:Hp):locale_Compare_J2 x1 x2 x8 x9 H0 H =
    bnd (alenD (.slice 3) x8) fun t53=>
    bnd (alenD (.slice 3) x9) fun t55=>
    bnd (ibin .gtr t53 t55) fun t56=>
    cnd t56
      (some ((.int .i64 1),H))
      (locale_Compare_J3 x1 x2 H0 H):=(CXM_eq [6,9,11,12,14,16] _ _ _ _).trans (by kernel_rfl)
theorem locale_Compare_J1_eq (x1 x2 x8 x9:AV) (H0 H:Hp):locale_Compare_J1 x1 x2 x8 x9 H0 H =
    bnd (alenD (.slice 3) x8) fun t48=>
    bnd (alenD (.slice 3) x9) fun t50=>
    bnd (ibin .lss t48 t50) fun t51=>
    cnd t51
      (some ((.int .i64 (-1)),H))
      (locale_Compare_J2 x1 x2 x8 x9 H0 H):=(CXM_eq [6,9,11,12,14,16] _ _ _ _).trans (by kernel_rfl)
theorem locale_Compare_J5_eq (x1 x2 x8 x9 x24 x25:AV) (H0 H:Hp):locale_Compare_J5 x1 x2 x8 x9 x24 x25 H0 H =
    bnd (ibin .add x25 (.int .i64 1)) fun t46=>
    locale_Compare_L1 x1 x2 x8 x9 x24 t46 H0 H:=(CXM_eq [6,9,11,12,14,16] _ _ _ _).trans (by kernel_rfl)
theorem locale_Compare_J6_eq (x1 x2 x8 x9 x10 x24 x25:AV) (H0 H:Hp):locale_Compare_J6 x1 x2 x8 x9 x10 x24 x25 H0 H =
    bnd (aindexS 1 x8 x10) fun t39=>
    bnd (aload false 1 t39 H) fun t40=>
    bnd (aindexS 1 x9 x10) fun t43=>
    bnd (aload false 1 t43 H) fun t44=>
    bnd (ibin .gtr t40 t44) fun t45=>
    cnd t45
      (some ((.int .i64 1),H))
      (locale_Compare_J5 x1 x2 x8 x9 x24 x25 H0 H):=(CXM_eq [6,9,11,12,14,16] _ _ _ _).trans (by kernel_rfl)
theorem locale_Compare_J4_eq (x1 x2 x8 x9 x24 x25 x26:AV) (H0 H:Hp):locale_Compare_J4 x1 x2 x8 x9 x24 x25 x26 H0 H =
    bnd (aindexS 1 x8 x25) fun t30=>
    bnd (aload false 1 t30 H) fun t31=>
    bnd (aindexS 1 x9 x25) fun t34=>
    bnd (aload false 1 t34 H) fun t35=>
    bnd (ibin .lss t31 t35) fun t36=>
    cnd t36
      (some ((.int .i64 (-1)),H))
      (locale_Compare_J6 x1 x2 x8 x9 x25 x24 x25 H0 H):=(CXM_eq [6,9,11,12,14,16] _ _ _ _).trans (by kernel_rfl)
theorem locale_Compare_L1_eq (x1 x2 x8 x9 x24 x25:AV) (H0 H:Hp):locale_Compare_L1 x1 x2 x8 x9 x24 x25 H0 H =
    bnd (ibin .lss x25 x24) fun t26=>
    cnd t26
      (locale_Compare_J4 x1 x2 x8 x9 x24 x25 t26 H0 H)
      (locale_Compare_J1 x1 x2 x8 x9 H0 H):=(LPL_eqm (C:=cfg) [6,9,11,12,14,16] (tame_block 0 (locale_Compare_K1_tame H0)) _ _).trans (by kernel_rfl)
theorem F_locale_Compare_eq (p0 p1 p2:AV) (H:Hp):C_locale_Compare [p0,p1,p2] H = F_locale_Compare p0 p1 p2 H:=(callw_cxm (C:=cfg) (fn:=Tryz.f106) (c:=bodyOf Tryz.f106) (n:=60) [6,9,11,12,14,16] Tryz.func106 (by kernel_rfl) (by kernel_rfl) [p0,p1,p2] (by kernel_rfl) H).trans (by kernel_rfl)

def sortkey_parts_J2 (x4 x5 x6 x7 x9:AV) (H0 H:Hp):Res:=CXgC 107 50 (sub (bodyOf Tryz.f107) [1,1,1,1]) (retL cfg 50 107 Tryz.f107 H0) [(4,x4),(5,x5),(6,x6),(7,x7),(9,x9)] H
def sortkey_parts_J1 (x4 x5 x6 x7 x9:AV) (H0 H:Hp):Res:=CXgC 107 50 (sub (bodyOf Tryz.f107) [1,1,1]) (retL cfg 50 107 Tryz.f107 H0) [(4,x4),(5,x5),(6,x6),(7,x7),(9,x9)] H
def F_sortkey_parts (p0 p1 p2 p3:AV) (H:Hp):Res:=
  bnd (abox p0 H) fun r4=>
  bnd (abox p1 r4.2) fun r5=>
  bnd (abox p2 r5.2) fun r6=>
  bnd (abox p3 r6.2) fun r7=>
  bnd (aload false 1 r5.1 r7.2) fun t15=>
  bnd (ibin .and t15 (.int .i64 2)) fun t16=>
  bnd (ibin .neq t16 (.int .i64 0)) fun t17=>
  cnd t17
    (sortkey_parts_J1 r4.1 r5.1 r6.1 r7.1 (.int .i64 (-1)) H r7.2)
    (sortkey_parts_J1 r4.1 r5.1 r6.1 r7.1 (.int .i64 1) H r7.2)
theorem sortkey_parts_J2_eq (x4 x5 x6 x7 x9:AV) (H0 H:Hp):sortkey_parts_J2 x4 x5 x6 x7 x9 H0 H =
    bnd (some (.fn (.func 154) [] [x5,x6,x7])) fun t36=>
    bnd (acall cfg (callw cfg) t36 [(.int .i64 8),(.fn (.func 155) [] [])] H) fun r38=>
    bnd (acall cfg (callw cfg) t36 [(.int .i64 16),(.fn (.func 157) [] [])] r38.2) fun r40=>
    frzK x4 r40.2 fun z4 z4H=>
    bnd (some (.fn (.func 158) [] [z4])) fun t42=>
    bnd (acall cfg (callw cfg) t36 [(.int .i64 4),t42] z4H) fun r43=>
    bnd (aload true 6 z4 r43.2) fun t45=>
    bnd (aload false 1 x6 r43.2) fun t46=>
    bnd (aload false 1 x7 r43.2) fun t47=>
    bnd (flatC C_locale_Compare [t45,t46,t47] r43.2) fun r48=>
    bnd (ibin .mul x9 r48.1) fun t49=>
    some (t49,r48.2):=(CXM_eq [4,8] _ _ _ _).trans (by kernel_rfl)
theorem sortkey_parts_J1_eq (x4 x5 x6 x7 x9:AV) (H0 H:Hp):sortkey_parts_J1 x4 x5 x6 x7 x9 H0 H =
    bnd (aload false 1 x5 H) fun t18=>
    bnd (ibin .and t18 (.int .i64 1)) fun t19=>
    bnd (ibin .neq t19 (.int .i64 0)) fun t20=>
    cnd t20
      (bnd (aload false 1 x6 H) fun t22=>
      bnd (flatC C_decimal_Prefix [t22] H) fun r23=>
      bnd (aext r23.1 0) fun t24=>
      bnd (aext r23.1 1) fun t25=>
      bnd (aload false 1 x7 r23.2) fun t27=>
      bnd (flatC C_decimal_Prefix [t27] r23.2) fun r28=>
      bnd (aext r28.1 0) fun t29=>
      bnd (aext r28.1 1) fun t30=>
      bnd (flatC C_sortkey_sign [t24,t29] r28.2) fun r34=>
      bnd (ibin .mul x9 r34.1) fun t35=>
      some (t35,r34.2))
      (sortkey_parts_J2 x4 x5 x6 x7 x9 H0 H):=(CXM_eq [4,8] _ _ _ _).trans (by kernel_rfl)
theorem F_sortkey_parts_eq (p0 p1 p2 p3:AV) (H:Hp):C_sortkey_parts [p0,p1,p2,p3] H = F_sortkey_parts p0 p1 p2 p3 H:=(callw_cxm (C:=cfg) (fn:=Tryz.f107) (c:=bodyOf Tryz.f107) (n:=50) [4,8] Tryz.func107 (by kernel_rfl) (by kernel_rfl) [p0,p1,p2,p3] (by kernel_rfl) H).trans (by kernel_rfl)

def R05_IsName_J2 (H0 H:Hp):Res:=CXgC 127 59 (sub (bodyOf Tryz.f127) [1,1,1]) (retL cfg 59 127 Tryz.f127 H0) [] H
def R05_IsName_K1 (H0:Hp):KL:=seqL (fun k al H=>CXgC 127 59 (sub (bodyOf Tryz.f127) [1,1,1]) k (trimL (cfg.keep 127) (sub (bodyOf Tryz.f127) [1,1,1]) al) H) (retL cfg 59 127 Tryz.f127 H0)
theorem R05_IsName_K1_tame (H0:Hp):Tame 59 (R05_IsName_K1 H0):=tame_seq (C:=cfg) (kp:=cfg.keep 127) (sub (bodyOf Tryz.f127) [1,1,1]) (tame_ret 127 Tryz.f127 H0)
def R05_IsName_J4 (x0 x3:AV) (H0 H:Hp):Res:=CXgC 127 59 (sub (bodyOf Tryz.f127) [1,1,0,1,0,0,1,1]) (seqL (fun k al H=>LPgC 127 59 (sub (bodyOf Tryz.f127) [1,1,0,1,0,0]) k (trimL (cfg.keep 127) (sub (bodyOf Tryz.f127) [1,1,0,1,0,0]) al) H) (blockL 0 (R05_IsName_K1 H0))) [(0,x0),(3,x3)] H
def R05_IsName_J3 (x0 x3:AV) (H0 H:Hp):Res:=CXgC 127 59 (sub (bodyOf Tryz.f127) [1,1,0,1,0,0,1]) (seqL (fun k al H=>LPgC 127 59 (sub (bodyOf Tryz.f127) [1,1,0,1,0,0]) k (trimL (cfg.keep 127) (sub (bodyOf Tryz.f127) [1,1,0,1,0,0]) al) H) (blockL 0 (R05_IsName_K1 H0))) [(0,x0),(3,x3)] H
def R05_IsName_L1 (x0 x3:AV) (H0 H:Hp):Res:=LPgC 127 59 (sub (bodyOf Tryz.f127) [1,1,0,1,0,0]) (blockL 0 (R05_IsName_K1 H0)) [(0,x0),(3,x3)] H
def R05_IsName_J1 (x0:AV) (H0 H:Hp):Res:=CXgC 127 59 (sub (bodyOf Tryz.f127) [1,1]) (retL cfg 59 127 Tryz.f127 H0) [(0,x0)] H
def F_R05_IsName (p0:AV) (H:Hp):Res:=
  bnd (alenD .string p0) fun t6=>
  bnd (ibin .eql t6 (.int .i64 0)) fun t7=>
  bnd (gdv t7 false (.tuple []) (some p0)) fun t9=>
  bnd (gdv t7 false (.tuple []) (alenD .string t9)) fun t10=>
  bnd (gdv t7 false (.tuple []) (ibin .gtr t10 (.int .i64 32))) fun t11=>
  bnd (apick t7 (.bool true) t11) fun t12=>
  bnd (gdv t12 false (.tuple []) (some p0)) fun t14=>
  bnd (gdv t12 false (.tuple []) (aindexStr t14 (.int .i64 0))) fun t15=>
  bnd (gdv t12 false (.tuple []) (ibin .geq t15 (.int .u8 48))) fun t16=>
  bnd (gdv t12 false (.tuple []) (some t16)) fun t17=>
  bnd (gdv t17 true (.tuple []) (some p0)) fun t18=>
  bnd (gdv t17 true (.tuple []) (aindexStr t18 (.int .i64 0))) fun t19=>
  bnd (gdv t17 true (.tuple []) (ibin .leq t19 (.int .u8 57))) fun t20=>
  bnd (gdv t12 false (.tuple []) (apick t17 t20 (.bool false))) fun t21=>
  bnd (apick t12 (.bool true) t21) fun t22=>
  cnd t22
    (some ((.bool false),H))
    (R05_IsName_J1 p0 H H)
theorem R05_IsName_J2_eq (H0 H:Hp):R05_IsName_J2 H0 H =
    some ((.bool true),H):=(CXM_eq [3,5,6,9] _ _ _ _).trans (by kernel_rfl)
theorem R05_IsName_J4_eq (x0 x3:AV) (H0 H:Hp):R05_IsName_J4 x0 x3 H0 H =
    bnd (ibin .add x3 (.int .i64 1)) fun t28=>
    R05_IsName_L1 x0 t28 H0 H:=(CXM_eq [3,5,6,9] _ _ _ _).trans (by kernel_rfl)
theorem R05_IsName_J3_eq (x0 x3:AV) (H0 H:Hp):R05_IsName_J3 x0 x3 H0 H =
    bnd (aindexStr x0 x3) fun t31=>
    bnd (ibin .geq t31 (.int .u8 97)) fun t33=>
    bnd (gdv t33 true (.tuple []) (some t31)) fun t35=>
    bnd (gdv t33 true (.tuple []) (ibin .leq t35 (.int .u8 122))) fun t36=>
    bnd (apick t33 t36 (.bool false)) fun t37=>
    bnd (gdv t37 false (.tuple []) (some t31)) fun t39=>
    bnd (gdv t37 false (.tuple []) (ibin .geq t39 (.int .u8 65))) fun t40=>
    bnd (gdv t37 false (.tuple []) (some t40)) fun t41=>
    bnd (gdv t41 true (.tuple []) (some t31)) fun t42=>
    bnd (gdv t41 true (.tuple []) (ibin .leq t42 (.int .u8 90))) fun t43=>
    bnd (gdv t37 false (.tuple []) (apick t41 t43 (.bool false))) fun t44=>
    bnd (apick t37 (.bool true) t44) fun t45=>
    bnd (gdv t45 false (.tuple []) (some t31)) fun t47=>
    bnd (gdv t45 false (.tuple []) (ibin .geq t47 (.int .u8 48))) fun t48=>
    bnd (gdv t45 false (.tuple []) (some t48)) fun t49=>
    bnd (gdv t49 true (.tuple []) (some t31)) fun t50=>
    bnd (gdv t49 true (.tuple []) (ibin .leq t50 (.int .u8 57))) fun t51=>
    bnd (gdv t45 false (.tuple []) (apick t49 t51 (.bool false))) fun t52=>
    bnd (apick t45 (.bool true) t52) fun t53=>
    bnd (gdv t53 false (.tuple []) (some t31)) fun t55=>
    bnd (gdv t53 false (.tuple []) (ibin .eql t55 (.int .u8 95))) fun t56=>
    bnd (apick t53 (.bool true) t56) fun t57=>
    bnd (aun .not t57) fun t58=>
    cnd t58
      (some ((.bool false),H))
      (R05_IsName_J4 x0 x3 H0 H):=(CXM_eq [3,5,6,9] _ _ _ _).trans (by kernel_rfl)
theorem R05_IsName_L1_eq (x0 x3:AV) (H0 H:Hp):R05_IsName_L1 x0 x3 H0 H =
    bnd (alenD .string x0) fun t25=>
    bnd (ibin .lss x3 t25) fun t26=>
    cnd t26
      (R05_IsName_J3 x0 x3 H0 H)
      (R05_IsName_J2 H0 H):=(LPL_eqm (C:=cfg) [3,5,6,9] (tame_block 0 (R05_IsName_K1_tame H0)) _ _).trans (by kernel_rfl)
theorem R05_IsName_J1_eq (x0:AV) (H0 H:Hp):R05_IsName_J1 x0 H0 H =
    R05_IsName_L1 x0 (.int .i64 0) H0 H:=(CXM_eq [3,5,6,9] _ _ _ _).trans (by kernel_rfl)
theorem F_R05_IsName_eq (p0:AV) (H:Hp):C_R05_IsName [p0] H = F_R05_IsName p0 H:=(callw_cxm (C:=cfg) (fn:=Tryz.f127) (c:=bodyOf Tryz.f127) (n:=59) [3,5,6,9] Tryz.func127 (by kernel_rfl) (by kernel_rfl) [p0] (by kernel_rfl) H).trans (by kernel_rfl)

def locale_valid_J1 (x1 x2:AV) (H0 H:Hp):Res:=CXgC 147 16 (sub (bodyOf Tryz.f147) [1,1]) (retL cfg 16 147 Tryz.f147 H0) [(1,x1),(2,x2)] H
def F_locale_valid (p0:AV) (H:Hp):Res:=
  bnd (abox p0 H) fun r1=>
  bnd (some ((.ptr r1.2.length 0),r1.2 ++ [.cells [(.str []),.nils,(.str []),(.str []),.nils,.nils]])) fun r2=>
  bnd (aload true 6 r1.1 r2.2) fun t4=>
  bnd (flatC C_locale_Check [t4] r2.2) fun r5=>
  bnd (ibin .neq r5.1 (.int .i64 0)) fun t6=>
  cnd t6
    (bnd (flatC C_locale_Default [] r5.2) fun r7=>
    bnd (astoreU 6 r2.1 r7.1 r7.2) fun r_16=>
    bnd (aload true 6 r2.1 r_16.2) fun v2=>
    some (v2,r_16.2))
    (locale_valid_J1 r1.1 r2.1 H r5.2)
theorem locale_valid_J1_eq (x1 x2:AV) (H0 H:Hp):locale_valid_J1 x1 x2 H0 H =
    bnd (amake 1 8 false (.int .i64 0) (.int .i64 256) (.int .i64 256) H) fun r8=>
    bnd (afield 1 x1) fun t10=>
    bnd (aload false 1 t10 r8.2) fun t11=>
    bnd (acopy 1 r8.1 t11 r8.2) fun r12=>
    bnd (afield 1 x1) fun t14=>
    bnd (astoreU 1 t14 r8.1 r12.2) fun r_8=>
    bnd (aload true 6 x1 r_8.2) fun t15=>
    bnd (astoreU 6 x2 t15 r_8.2) fun r_10=>
    bnd (aload true 6 x2 r_10.2) fun v2=>
    some (v2,r_10.2):=(CXM_eq [3] _ _ _ _).trans (by kernel_rfl)
theorem F_locale_valid_eq (p0:AV) (H:Hp):C_locale_valid [p0] H = F_locale_valid p0 H:=(callw_cxm (C:=cfg) (fn:=Tryz.f147) (c:=bodyOf Tryz.f147) (n:=16) [3] Tryz.func147 (by kernel_rfl) (by kernel_rfl) [p0] (by kernel_rfl) H).trans (by kernel_rfl)

def F_locale_Compare_1 (p0 p1:AV) (H:Hp):Res:=
  bnd (some ((.ptr H.length 0),H ++ [.cells [.nils]])) fun r4=>
  bnd (aload true 6 p1 r4.2) fun t5=>
  bnd (some (.fn (.func 150) [] [r4.1])) fun t7=>
  bnd (C_locale_each [t5,p0,t7] r4.2) fun r8=>
  bnd (aload false 1 r4.1 r8.2) fun t9=>
  some (t9,r8.2)
theorem F_locale_Compare_1_eq (p0 p1:AV) (H:Hp):C_locale_Compare_1 [p0,p1] H = F_locale_Compare_1 p0 p1 H:=(callw_cxm (C:=cfg) (fn:=Tryz.f148) (c:=bodyOf Tryz.f148) (n:=10) [] Tryz.func148 (by kernel_rfl) (by kernel_rfl) [p0,p1] (by kernel_rfl) H).trans (by kernel_rfl)

def locale_each_J4 (x1 x2 x3 x6 x9 x10:AV) (H0 H:Hp):Res:=CXgC 149 75 (sub (bodyOf Tryz.f149) [1,1,1,1,0,0,1,0,1,1,1]) (blockL 3 (seqL (fun k al H=>LPgC 149 75 (sub (bodyOf Tryz.f149) [1,1,1,1,0,0]) k (trimL (cfg.keep 149) (sub (bodyOf Tryz.f149) [1,1,1,1,0,0]) al) H) (blockL 2 (retL cfg 75 149 Tryz.f149 H0)))) [(1,x1),(2,x2),(3,x3),(6,x6),(9,x9),(10,x10)] H
def locale_each_J3 (x1 x2 x3 x6 x9 x10 x11:AV) (H0 H:Hp):Res:=CXgC 149 75 (sub (bodyOf Tryz.f149) [1,1,1,1,0,0,1,0,1,1]) (blockL 3 (seqL (fun k al H=>LPgC 149 75 (sub (bodyOf Tryz.f149) [1,1,1,1,0,0]) k (trimL (cfg.keep 149) (sub (bodyOf Tryz.f149) [1,1,1,1,0,0]) al) H) (blockL 2 (retL cfg 75 149 Tryz.f149 H0)))) [(1,x1),(2,x2),(3,x3),(6,x6),(9,x9),(10,x10),(11,x11)] H
def locale_each_J2 (x1 x2 x3 x6 x9:AV) (H0 H:Hp):Res:=CXgC 149 75 (sub (bodyOf Tryz.f149) [1,1,1,1,0,0,1]) (seqL (fun k al H=>LPgC 149 75 (sub (bodyOf Tryz.f149) [1,1,1,1,0,0]) k (trimL (cfg.keep 149) (sub (bodyOf Tryz.f149) [1,1,1,1,0,0]) al) H) (blockL 2 (retL cfg 75 149 Tryz.f149 H0))) [(1,x1),(2,x2),(3,x3),(6,x6),(9,x9)] H
def locale_each_L1 (x1 x2 x3 x6 x9:AV) (H0 H:Hp):Res:=LPgC 149 75 (sub (bodyOf Tryz.f149) [1,1,1,1,0,0]) (blockL 2 (retL cfg 75 149 Tryz.f149 H0)) [(1,x1),(2,x2),(3,x3),(6,x6),(9,x9)] H
def locale_each_J1 (x1 x2 x3 x6:AV) (H0 H:Hp):Res:=CXgC 149 75 (sub (bodyOf Tryz.f149) [1,1,1]) (retL cfg 75 149 Tryz.f149 H0) [(1,x1),(2,x2),(3,x3),(6,x6)] H
def locale_each_K1 (H0:Hp):KL:=seqL (fun k al H=>CXgC 149 75 (sub (bodyOf Tryz.f149) [1,1,1]) k (trimL (cfg.keep 149) (sub (bodyOf Tryz.f149) [1,1,1]) al) H) (retL cfg 75 149 Tryz.f149 H0)
theorem locale_each_K1_tame (H0:Hp):Tame 75 (locale_each_K1 H0):=tame_seq (C:=cfg) (kp:=cfg.keep 149) (sub (bodyOf Tryz.f149) [1,1,1]) (tame_ret 149 Tryz.f149 H0)
def locale_each_J6 (x1 x2 x3 x6 x16 x17 x18:AV) (H0 H:Hp):Res:=CXgC 149 75 (sub (bodyOf Tryz.f149) [1,1,0,1,0,0,1,1,1]) (seqL (fun k al H=>LPgC 149 75 (sub (bodyOf Tryz.f149) [1,1,0,1,0,0]) k (trimL (cfg.keep 149) (sub (bodyOf Tryz.f149) [1,1,0,1,0,0]) al) H) (blockL 0 (locale_each_K1 H0))) [(1,x1),(2,x2),(3,x3),(6,x6),(16,x16),(17,x17),(18,x18)] H
def locale_each_J5 (x1 x2 x3 x6 x16 x17 x18 x19:AV) (H0 H:Hp):Res:=CXgC 149 75 (sub (bodyOf Tryz.f149) [1,1,0,1,0,0,1,1]) (seqL (fun k al H=>LPgC 149 75 (sub (bodyOf Tryz.f149) [1,1,0,1,0,0]) k (trimL (cfg.keep 149) (sub (bodyOf Tryz.f149) [1,1,0,1,0,0]) al) H) (blockL 0 (locale_each_K1 H0))) [(1,x1),(2,x2),(3,x3),(6,x6),(16,x16),(17,x17),(18,x18),(19,x19)] H
def locale_each_L2 (x1 x2 x3 x6 x16 x17 x18:AV) (H0 H:Hp):Res:=LPgC 149 75 (sub (bodyOf Tryz.f149) [1,1,0,1,0,0]) (blockL 0 (locale_each_K1 H0)) [(1,x1),(2,x2),(3,x3),(6,x6),(16,x16),(17,x17),(18,x18)] H
def F_locale_each (p0 p1 p2:AV) (H:Hp):Res:=
  bnd (abox p0 H) fun r3=>
  bnd (some ((.map r3.2.length),r3.2 ++ [.map [] 0])) fun r14=>
  bnd (afield 5 r3.1) fun t15=>
  bnd (aload false 1 t15 r14.2) fun t16=>
  bnd (alenD (.slice 210) t16) fun t17=>
  locale_each_L2 p1 p2 r3.1 r14.1 t16 t17 (.int .i64 0) H r14.2
theorem locale_each_J4_eq (x1 x2 x3 x6 x9 x10:AV) (H0 H:Hp):locale_each_J4 x1 x2 x3 x6 x9 x10 H0 H =
    bnd (alenD .string x10) fun t73=>
    bnd (ibin .add x9 t73) fun t74=>
    locale_each_L1 x1 x2 x3 x6 t74 H0 H:=(CXM_eq [4,6,7,9,14,15] _ _ _ _).trans (by kernel_rfl)
theorem locale_each_J3_eq (x1 x2 x3 x6 x9 x10 x11:AV) (H0 H:Hp):locale_each_J3 x1 x2 x3 x6 x9 x10 x11 H0 H =
    bnd (acall cfg (callw cfg) x2 [x10,x11] H) fun r69=>
    bnd (aun .not r69.1) fun t70=>
    cnd t70
      (some ((.tuple []),r69.2))
      (locale_each_J4 x1 x2 x3 x6 x9 x10 H0 r69.2):=(CXM_eq [4,6,7,9,14,15] _ _ _ _).trans (by kernel_rfl)
theorem locale_each_J2_eq (x1 x2 x3 x6 x9:AV) (H0 H:Hp):locale_each_J2 x1 x2 x3 x6 x9 H0 H =
    bnd (ibin .add x9 (.int .i64 1)) fun t35=>
    bnd (asliceS x1 (some x9) (some t35) none) fun t36=>
    bnd (afield 1 x3) fun t37=>
    bnd (aload false 1 t37 H) fun t38=>
    bnd (aindexStr x1 x9) fun t41=>
    bnd (aindexS 1 t38 t41) fun t42=>
    bnd (aload false 1 t42 H) fun t43=>
    bnd (ibin .add x9 (.int .i64 2)) fun t45=>
    bnd (alenD .string x1) fun t47=>
    bnd (ibin .leq t45 t47) fun t48=>
    cnd t48
      (bnd (ibin .add x9 (.int .i64 2)) fun t54=>
      bnd (asliceS x1 (some x9) (some t54) none) fun t55=>
      bnd (alookup .string (.int .i64 0) true x6 t55 H) fun t56=>
      bnd (aext t56 0) fun t57=>
      bnd (aext t56 1) fun t58=>
      cnd t58
        (bnd (ibin .add x9 (.int .i64 2)) fun t63=>
        bnd (asliceS x1 (some x9) (some t63) none) fun t64=>
        locale_each_J3 x1 x2 x3 x6 x9 t64 t57 H0 H)
        (locale_each_J3 x1 x2 x3 x6 x9 t36 t43 H0 H))
      (locale_each_J3 x1 x2 x3 x6 x9 t36 t43 H0 H):=(CXM_eq [4,6,7,9,14,15] _ _ _ _).trans (by kernel_rfl)
theorem locale_each_L1_eq (x1 x2 x3 x6 x9:AV) (H0 H:Hp):locale_each_L1 x1 x2 x3 x6 x9 H0 H =
    bnd (alenD .string x1) fun t30=>
    bnd (ibin .lss x9 t30) fun t31=>
    cnd t31
      (locale_each_J2 x1 x2 x3 x6 x9 H0 H)
      (some ((.tuple []),H)):=(LPL_eqm (C:=cfg) [4,6,7,9,14,15] (tame_block 2 (tame_ret 149 Tryz.f149 H0)) _ _).trans (by kernel_rfl)
theorem locale_each_J1_eq (x1 x2 x3 x6:AV) (H0 H:Hp):locale_each_J1 x1 x2 x3 x6 H0 H =
    locale_each_L1 x1 x2 x3 x6 (.int .i64 0) H0 H:=(CXM_eq [4,6,7,9,14,15] _ _ _ _).trans (by kernel_rfl)
theorem locale_each_J6_eq (x1 x2 x3 x6 x16 x17 x18:AV) (H0 H:Hp):locale_each_J6 x1 x2 x3 x6 x16 x17 x18 H0 H =
    bnd (ibin .add x18 (.int .i64 1)) fun t27=>
    locale_each_L2 x1 x2 x3 x6 x16 x17 t27 H0 H:=(CXM_eq [4,6,7,9,14,15] _ _ _ _).trans (by kernel_rfl)
theorem locale_each_J5_eq (x1 x2 x3 x6 x16 x17 x18 x19:AV) (H0 H:Hp):locale_each_J5 x1 x2 x3 x6 x16 x17 x18 x19 H0 H =
    bnd (aindexS 2 x16 x18) fun t20=>
    bnd (aload true 2 t20 H) fun t21=>
    bnd (some ((.ptr H.length 0),H ++ [.cells [(.str []),(.int .i64 0)]])) fun r8=>
    bnd (astoreU 2 r8.1 t21 r8.2) fun r_34=>
    bnd (afield 0 r8.1) fun t23=>
    bnd (aload false 1 t23 r_34.2) fun t24=>
    bnd (afield 1 r8.1) fun t25=>
    bnd (aload false 1 t25 r_34.2) fun t26=>
    bnd (amapSet .string x6 t24 t26 r_34.2) fun r_39=>
    locale_each_J6 x1 x2 x3 x6 x16 x17 x18 H0 r_39.2:=(CXM_eq [4,6,7,9,14,15] _ _ _ _).trans (by kernel_rfl)
theorem locale_each_L2_eq (x1 x2 x3 x6 x16 x17 x18:AV) (H0 H:Hp):locale_each_L2 x1 x2 x3 x6 x16 x17 x18 H0 H =
    bnd (ibin .lss x18 x17) fun t19=>
    cnd t19
      (locale_each_J5 x1 x2 x3 x6 x16 x17 x18 t19 H0 H)
      (locale_each_J1 x1 x2 x3 x6 H0 H):=(LPL_eqm (C:=cfg) [4,6,7,9,14,15] (tame_block 0 (locale_each_K1_tame H0)) _ _).trans (by kernel_rfl)
theorem F_locale_each_eq (p0 p1 p2:AV) (H:Hp):C_locale_each [p0,p1,p2] H = F_locale_each p0 p1 p2 H:=(callw_cxm (C:=cfg) (fn:=Tryz.f149) (c:=bodyOf Tryz.f149) (n:=75) [4,6,7,9,14,15] Tryz.func149 (by kernel_rfl) (by kernel_rfl) [p0,p1,p2] (by kernel_rfl) H).trans (by kernel_rfl)

def F_locale_Compare_1_1 (p0 p1 p2:AV) (H:Hp):Res:=
  bnd (aload false 1 p2 H) fun t6=>
  bnd ((setElems 1 [(0,p1)] [(.int .i64 0)]).map (.vs 1 .clip)) fun t8=>
  bnd (aappE 1 8 t6 t8 H) fun r9=>
  bnd (astoreU 1 p2 r9.1 r9.2) fun r_4=>
  some ((.bool true),r_4.2)
theorem F_locale_Compare_1_1_eq (p0 p1 p2:AV) (H:Hp):C_locale_Compare_1_1 [p0,p1,p2] H = F_locale_Compare_1_1 p0 p1 p2 H:=(callw_cxm (C:=cfg) (fn:=Tryz.f150) (c:=bodyOf Tryz.f150) (n:=10) [] Tryz.func150 (by kernel_rfl) (by kernel_rfl) [p0,p1,p2] (by kernel_rfl) H).trans (by kernel_rfl)

def F_strings_Compare (p0 p1:AV) (H:Hp):Res:=
  bnd (flatC C_internal_bytealg_CompareString [p0,p1] H) fun r7=>
  some (r7.1,r7.2)
theorem F_strings_Compare_eq (p0 p1:AV) (H:Hp):C_strings_Compare [p0,p1] H = F_strings_Compare p0 p1 H:=(callw_cxm (C:=cfg) (fn:=Tryz.f151) (c:=bodyOf Tryz.f151) (n:=8) [] Tryz.func151 (by kernel_rfl) (by kernel_rfl) [p0,p1] (by kernel_rfl) H).trans (by kernel_rfl)

def decimal_Prefix_J5 (x9 x11:AV) (H0 H:Hp):Res:=CXgC 152 116 (sub (bodyOf Tryz.f152) [1,1,1,1,1,1,1,1,1,1,1]) (retL cfg 116 152 Tryz.f152 H0) [(9,x9),(11,x11)] H
def decimal_Prefix_J4 (x5 x7 x8 x9:AV) (H0 H:Hp):Res:=CXgC 152 116 (sub (bodyOf Tryz.f152) [1,1,1,1,1,1,1,1,1]) (retL cfg 116 152 Tryz.f152 H0) [(5,x5),(7,x7),(8,x8),(9,x9)] H
def decimal_Prefix_J3 (x5 x6 x7 x8 x9:AV) (H0 H:Hp):Res:=CXgC 152 116 (sub (bodyOf Tryz.f152) [1,1,1,1,1,1,1,1]) (retL cfg 116 152 Tryz.f152 H0) [(5,x5),(6,x6),(7,x7),(8,x8),(9,x9)] H
def decimal_Prefix_J2 (x0 x4 x5:AV) (H0 H:Hp):Res:=CXgC 152 116 (sub (bodyOf Tryz.f152) [1,1,1,1,1]) (retL cfg 116 152 Tryz.f152 H0) [(0,x0),(4,x4),(5,x5)] H
def decimal_Prefix_J1 (x0 x4:AV) (H0 H:Hp):Res:=CXgC 152 116 (sub (bodyOf Tryz.f152) [1,1,1]) (retL cfg 116 152 Tryz.f152 H0) [(0,x0),(4,x4)] H
def decimal_Prefix_K1 (H0:Hp):KL:=seqL (fun k al H=>CXgC 152 116 (sub (bodyOf Tryz.f152) [1,1,1]) k (trimL (cfg.keep 152) (sub (bodyOf Tryz.f152) [1,1,1]) al) H) (retL cfg 116 152 Tryz.f152 H0)
theorem decimal_Prefix_K1_tame (H0:Hp):Tame 116 (decimal_Prefix_K1 H0):=tame_seq (C:=cfg) (kp:=cfg.keep 152) (sub (bodyOf Tryz.f152) [1,1,1]) (tame_ret 152 Tryz.f152 H0)
def decimal_Prefix_J6 (x0 x4:AV) (H0 H:Hp):Res:=CXgC 152 116 (sub (bodyOf Tryz.f152) [1,1,0,0,0,1]) (seqL (fun k al H=>LPgC 152 116 (sub (bodyOf Tryz.f152) [1,1,0,0,0]) k (trimL (cfg.keep 152) (sub (bodyOf Tryz.f152) [1,1,0,0,0]) al) H) (blockL 0 (decimal_Prefix_K1 H0))) [(0,x0),(4,x4)] H
def decimal_Prefix_L1 (x0 x4:AV) (H0 H:Hp):Res:=LPgC 152 116 (sub (bodyOf Tryz.f152) [1,1,0,0,0]) (blockL 0 (decimal_Prefix_K1 H0)) [(0,x0),(4,x4)] H
def F_decimal_Prefix (p0:AV) (H:Hp):Res:=
  decimal_Prefix_L1 p0 (.int .i64 0) H H
theorem decimal_Prefix_J5_eq (x9 x11:AV) (H0 H:Hp):decimal_Prefix_J5 x9 x11 H0 H =
    some ((.tuple [x11,x9]),H):=(CXM_eq [3,4,7,14,16,19] _ _ _ _).trans (by kernel_rfl)
theorem decimal_Prefix_J4_eq (x5 x7 x8 x9:AV) (H0 H:Hp):decimal_Prefix_J4 x5 x7 x8 x9 H0 H =
    bnd (flatC C_decimal_value [x7,x8] H) fun r109=>
    bnd (amin2 (.int .i64 10000000000000) r109.1) fun t110=>
    cnd x5
      (bnd (aun .neg t110) fun t113=>
      decimal_Prefix_J5 x9 t113 H0 r109.2)
      (decimal_Prefix_J5 x9 t110 H0 r109.2):=(CXM_eq [3,4,7,14,16,19] _ _ _ _).trans (by kernel_rfl)
theorem decimal_Prefix_J3_eq (x5 x6 x7 x8 x9:AV) (H0 H:Hp):decimal_Prefix_J3 x5 x6 x7 x8 x9 H0 H =
    bnd (ibin .eql x6 (.int .i64 0)) fun t102=>
    bnd (gdv t102 true (.tuple []) (some x8)) fun t104=>
    bnd (gdv t102 true (.tuple []) (sbin .eql t104 (.str []))) fun t105=>
    bnd (apick t102 t105 (.bool false)) fun t106=>
    cnd t106
      (some ((.tuple [(.int .i64 0),(.int .i64 0)]),H))
      (decimal_Prefix_J4 x5 x7 x8 x9 H0 H):=(CXM_eq [3,4,7,14,16,19] _ _ _ _).trans (by kernel_rfl)
theorem decimal_Prefix_J2_eq (x0 x4 x5:AV) (H0 H:Hp):decimal_Prefix_J2 x0 x4 x5 H0 H =
    bnd (asliceS x0 (some x4) none none) fun t57=>
    bnd (flatC C_decimal_digits [t57] H) fun r58=>
    bnd (ibin .add x4 r58.1) fun t63=>
    bnd (asliceS x0 (some x4) (some t63) none) fun t64=>
    bnd (ibin .add x4 r58.1) fun t67=>
    bnd (alenD .string x0) fun t70=>
    bnd (ibin .lss t67 t70) fun t71=>
    bnd (gdv t71 true (.tuple []) (some x0)) fun t73=>
    bnd (gdv t71 true (.tuple []) (some t67)) fun t74=>
    bnd (gdv t71 true (.tuple []) (aindexStr t73 t74)) fun t75=>
    bnd (gdv t71 true (.tuple []) (ibin .eql t75 (.int .u8 46))) fun t76=>
    bnd (apick t71 t76 (.bool false)) fun t77=>
    cnd t77
      (bnd (ibin .add t67 (.int .i64 1)) fun t80=>
      bnd (asliceS x0 (some t80) none none) fun t81=>
      bnd (flatC C_decimal_digits [t81] r58.2) fun r82=>
      bnd (ibin .gtr r58.1 (.int .i64 0)) fun t84=>
      bnd (gdv t84 false (.tuple []) (some r82.1)) fun t86=>
      bnd (gdv t84 false (.tuple []) (ibin .gtr t86 (.int .i64 0))) fun t87=>
      bnd (apick t84 (.bool true) t87) fun t88=>
      cnd t88
        (bnd (ibin .add t67 (.int .i64 1)) fun t91=>
        bnd (ibin .add t67 (.int .i64 1)) fun t93=>
        bnd (ibin .add t93 r82.1) fun t95=>
        bnd (asliceS x0 (some t91) (some t95) none) fun t96=>
        bnd (ibin .add (.int .i64 1) r82.1) fun t99=>
        bnd (ibin .add t67 t99) fun t100=>
        decimal_Prefix_J3 x5 r58.1 t64 t96 t100 H0 r82.2)
        (decimal_Prefix_J3 x5 r58.1 t64 (.str []) t67 H0 r82.2))
      (decimal_Prefix_J3 x5 r58.1 t64 (.str []) t67 H0 r58.2):=(CXM_eq [3,4,7,14,16,19] _ _ _ _).trans (by kernel_rfl)
theorem decimal_Prefix_J1_eq (x0 x4:AV) (H0 H:Hp):decimal_Prefix_J1 x0 x4 H0 H =
    bnd (alenD .string x0) fun t32=>
    bnd (ibin .lss x4 t32) fun t33=>
    bnd (gdv t33 true (.tuple []) (some x0)) fun t35=>
    bnd (gdv t33 true (.tuple []) (some x4)) fun t36=>
    bnd (gdv t33 true (.tuple []) (aindexStr t35 t36)) fun t37=>
    bnd (gdv t33 true (.tuple []) (ibin .eql t37 (.int .u8 45))) fun t38=>
    bnd (apick t33 t38 (.bool false)) fun t39=>
    bnd (gdv t39 false (.tuple []) (some x4)) fun t42=>
    bnd (gdv t39 false (.tuple []) (some x0)) fun t43=>
    bnd (gdv t39 false (.tuple []) (alenD .string t43)) fun t44=>
    bnd (gdv t39 false (.tuple []) (ibin .lss t42 t44)) fun t45=>
    bnd (gdv t39 false (.tuple []) (some t45)) fun t46=>
    bnd (gdv t46 true (.tuple []) (some x0)) fun t47=>
    bnd (gdv t46 true (.tuple []) (some x4)) fun t48=>
    bnd (gdv t46 true (.tuple []) (aindexStr t47 t48)) fun t49=>
    bnd (gdv t46 true (.tuple []) (ibin .eql t49 (.int .u8 43))) fun t50=>
    bnd (gdv t39 false (.tuple []) (apick t46 t50 (.bool false))) fun t51=>
    bnd (apick t39 (.bool true) t51) fun t52=>
    cnd t52
      (bnd (ibin .add x4 (.int .i64 1)) fun t54=>
      decimal_Prefix_J2 x0 t54 t39 H0 H)
      (decimal_Prefix_J2 x0 x4 t39 H0 H):=(CXM_eq [3,4,7,14,16,19] _ _ _ _).trans (by kernel_rfl)
theorem decimal_Prefix_J6_eq (x0 x4:AV) (H0 H:Hp):decimal_Prefix_J6 x0 x4 H0 H =
    bnd (ibin .add x4 (.int .i64 1)) fun t29=>
    decimal_Prefix_L1 x0 t29 H0 H:=(CXM_eq [3,4,7,14,16,19] _ _ _ _).trans (by kernel_rfl)
theorem decimal_Prefix_L1_eq (x0 x4:AV) (H0 H:Hp):decimal_Prefix_L1 x0 x4 H0 H =
    bnd (alenD .string x0) fun t14=>
    bnd (ibin .lss x4 t14) fun t15=>
    bnd (gdv t15 true (.tuple []) (some x0)) fun t17=>
    bnd (gdv t15 true (.tuple []) (some x4)) fun t18=>
    bnd (gdv t15 true (.tuple []) (aindexStr t17 t18)) fun t19=>
    bnd (gdv t15 true (.tuple []) (ibin .eql t19 (.int .u8 32))) fun t20=>
    bnd (gdv t15 true (.tuple []) (some t20)) fun t21=>
    bnd (gdv t21 false (.tuple []) (some x0)) fun t22=>
    bnd (gdv t21 false (.tuple []) (some x4)) fun t23=>
    bnd (gdv t21 false (.tuple []) (aindexStr t22 t23)) fun t24=>
    bnd (gdv t21 false (.tuple []) (ibin .eql t24 (.int .u8 9))) fun t25=>
    bnd (gdv t15 true (.tuple []) (apick t21 (.bool true) t25)) fun t26=>
    bnd (apick t15 t26 (.bool false)) fun t27=>
    cnd t27
      (decimal_Prefix_J6 x0 x4 H0 H)
      (decimal_Prefix_J1 x0 x4 H0 H):=(LPL_eqm (C:=cfg) [3,4,7,14,16,19] (tame_block 0 (decimal_Prefix_K1_tame H0)) _ _).trans (by kernel_rfl)
theorem F_decimal_Prefix_eq (p0:AV) (H:Hp):C_decimal_Prefix [p0] H = F_decimal_Prefix p0 H:=(callw_cxm (C:=cfg) (fn:=Tryz.f152) (c:=bodyOf Tryz.f152) (n:=116) [3,4,7,14,16,19] Tryz.func152 (by kernel_rfl) (by kernel_rfl) [p0] (by kernel_rfl) H).trans (by kernel_rfl)

def sortkey_sign_J1 (H0 H:Hp):Res:=CXgC 153 13 (sub (bodyOf Tryz.f153) [1,1]) (retL cfg 13 153 Tryz.f153 H0) [] H
def F_sortkey_sign (p0 p1:AV) (H:Hp):Res:=
  bnd (ibin .lss p0 p1) fun t8=>
  cnd t8
    (some ((.int .i64 (-1)),H))
    (bnd (ibin .gtr p0 p1) fun t12=>
    cnd t12
      (some ((.int .i64 1),H))
      (sortkey_sign_J1 H H))
theorem sortkey_sign_J1_eq (H0 H:Hp):sortkey_sign_J1 H0 H =
    some ((.int .i64 0),H):=(CXM_eq [5] _ _ _ _).trans (by kernel_rfl)
theorem F_sortkey_sign_eq (p0 p1:AV) (H:Hp):C_sortkey_sign [p0,p1] H = F_sortkey_sign p0 p1 H:=(callw_cxm (C:=cfg) (fn:=Tryz.f153) (c:=bodyOf Tryz.f153) (n:=13) [5] Tryz.func153 (by kernel_rfl) (by kernel_rfl) [p0,p1] (by kernel_rfl) H).trans (by kernel_rfl)

def F_sortkey_parts_1 (p0 p1 p2 p3 p4:AV) (H:Hp):Res:=
  bnd (aload false 1 p2 H) fun t7=>
  bnd (ibin .and t7 p0) fun t9=>
  bnd (ibin .neq t9 (.int .i64 0)) fun t10=>
  cnd t10
    (bnd (aload false 1 p3 H) fun t12=>
    bnd (acallQ cfg (callw cfg) p1 [t12] H) fun r13=>
    bnd (aload false 1 p4 r13.2) fun t15=>
    bnd (acallQ cfg (callw cfg) p1 [t15] r13.2) fun r16=>
    bnd (astoreU 1 p3 r13.1 r16.2) fun r_8=>
    bnd (astoreU 1 p4 r16.1 r_8.2) fun r_9=>
    some ((.tuple []),r_9.2))
    (some ((.tuple []),H))
theorem F_sortkey_parts_1_eq (p0 p1 p2 p3 p4:AV) (H:Hp):C_sortkey_parts_1 [p0,p1,p2,p3,p4] H = F_sortkey_parts_1 p0 p1 p2 p3 p4 H:=(callw_cxm (C:=cfg) (fn:=Tryz.f154) (c:=bodyOf Tryz.f154) (n:=17) [] Tryz.func154 (by kernel_rfl) (by kernel_rfl) [p0,p1,p2,p3,p4] (by kernel_rfl) H).trans (by kernel_rfl)

def F_sortkey_parts_2 (p0:AV) (H:Hp):Res:=
  bnd (sumC trimA [p0,(.str [32,9])] H) fun r4=>
  some (r4.1,r4.2)
theorem F_sortkey_parts_2_eq (p0:AV) (H:Hp):C_sortkey_parts_2 [p0] H = F_sortkey_parts_2 p0 H:=(callw_cxm (C:=cfg) (fn:=Tryz.f155) (c:=bodyOf Tryz.f155) (n:=5) [] Tryz.func155 (by kernel_rfl) (by kernel_rfl) [p0] (by kernel_rfl) H).trans (by kernel_rfl)

def sortkey_dict_J1 (x3:AV) (H0 H:Hp):Res:=CXgC 157 44 (sub (bodyOf Tryz.f157) [1,1,1]) (retL cfg 44 157 Tryz.f157 H0) [(3,x3)] H
def sortkey_dict_K1 (H0:Hp):KL:=seqL (fun k al H=>CXgC 157 44 (sub (bodyOf Tryz.f157) [1,1,1]) k (trimL (cfg.keep 157) (sub (bodyOf Tryz.f157) [1,1,1]) al) H) (retL cfg 44 157 Tryz.f157 H0)
theorem sortkey_dict_K1_tame (H0:Hp):Tame 44 (sortkey_dict_K1 H0):=tame_seq (C:=cfg) (kp:=cfg.keep 157) (sub (bodyOf Tryz.f157) [1,1,1]) (tame_ret 157 Tryz.f157 H0)
def sortkey_dict_J3 (x0 x3 x7 x8:AV) (H0 H:Hp):Res:=CXgC 157 44 (sub (bodyOf Tryz.f157) [1,1,0,1,0,0,1,1,1]) (seqL (fun k al H=>LPgC 157 44 (sub (bodyOf Tryz.f157) [1,1,0,1,0,0]) k (trimL (cfg.keep 157) (sub (bodyOf Tryz.f157) [1,1,0,1,0,0]) al) H) (blockL 0 (sortkey_dict_K1 H0))) [(0,x0),(3,x3),(7,x7),(8,x8)] H
def sortkey_dict_J2 (x0 x3 x7 x8 x9:AV) (H0 H:Hp):Res:=CXgC 157 44 (sub (bodyOf Tryz.f157) [1,1,0,1,0,0,1,1]) (seqL (fun k al H=>LPgC 157 44 (sub (bodyOf Tryz.f157) [1,1,0,1,0,0]) k (trimL (cfg.keep 157) (sub (bodyOf Tryz.f157) [1,1,0,1,0,0]) al) H) (blockL 0 (sortkey_dict_K1 H0))) [(0,x0),(3,x3),(7,x7),(8,x8),(9,x9)] H
def sortkey_dict_L1 (x0 x3 x7 x8:AV) (H0 H:Hp):Res:=LPgC 157 44 (sub (bodyOf Tryz.f157) [1,1,0,1,0,0]) (blockL 0 (sortkey_dict_K1 H0)) [(0,x0),(3,x3),(7,x7),(8,x8)] H
def F_sortkey_dict (p0:AV) (H:Hp):Res:=
  bnd (some ((.ptr H.length 0),H ++ [.bld 192 5 []])) fun r3=>
  bnd (alenD .string p0) fun t7=>
  sortkey_dict_L1 p0 r3.1 t7 (.int .i64 0) H r3.2
theorem sortkey_dict_J1_eq (x3:AV) (H0 H:Hp):sortkey_dict_J1 x3 H0 H =
    bnd (stringE.run [x3] H) fun r43=>
    some (r43.1,r43.2):=(CXM_eq [4,8,9] _ _ _ _).trans (by kernel_rfl)
theorem sortkey_dict_J3_eq (x0 x3 x7 x8:AV) (H0 H:Hp):sortkey_dict_J3 x0 x3 x7 x8 H0 H =
    bnd (ibin .add x8 (.int .i64 1)) fun t42=>
    sortkey_dict_L1 x0 x3 x7 t42 H0 H:=(CXM_eq [4,8,9] _ _ _ _).trans (by kernel_rfl)
theorem sortkey_dict_J2_eq (x0 x3 x7 x8 x9:AV) (H0 H:Hp):sortkey_dict_J2 x0 x3 x7 x8 x9 H0 H =
    bnd (aindexStr x0 x8) fun t13=>
    bnd (C_sortkey_blank [t13] H) fun r15=>
    bnd (gdv r15.1 false (.tuple []) (some t13)) fun t17=>
    bnd (gdv r15.1 false (.tuple []) (ibin .geq t17 (.int .u8 97))) fun t18=>
    bnd (gdv r15.1 false (.tuple []) (some t18)) fun t19=>
    bnd (gdv t19 true (.tuple []) (some t13)) fun t20=>
    bnd (gdv t19 true (.tuple []) (ibin .leq t20 (.int .u8 122))) fun t21=>
    bnd (gdv r15.1 false (.tuple []) (apick t19 t21 (.bool false))) fun t22=>
    bnd (apick r15.1 (.bool true) t22) fun t23=>
    bnd (gdv t23 false (.tuple []) (some t13)) fun t25=>
    bnd (gdv t23 false (.tuple []) (ibin .geq t25 (.int .u8 65))) fun t26=>
    bnd (gdv t23 false (.tuple []) (some t26)) fun t27=>
    bnd (gdv t27 true (.tuple []) (some t13)) fun t28=>
    bnd (gdv t27 true (.tuple []) (ibin .leq t28 (.int .u8 90))) fun t29=>
    bnd (gdv t23 false (.tuple []) (apick t27 t29 (.bool false))) fun t30=>
    bnd (apick t23 (.bool true) t30) fun t31=>
    bnd (gdv t31 false (.tuple []) (some t13)) fun t33=>
    bnd (gdv t31 false (.tuple []) (ibin .geq t33 (.int .u8 48))) fun t34=>
    bnd (gdv t31 false (.tuple []) (some t34)) fun t35=>
    bnd (gdv t35 true (.tuple []) (some t13)) fun t36=>
    bnd (gdv t35 true (.tuple []) (ibin .leq t36 (.int .u8 57))) fun t37=>
    bnd (gdv t31 false (.tuple []) (apick t35 t37 (.bool false))) fun t38=>
    bnd (apick t31 (.bool true) t38) fun t39=>
    cnd t39
      (bnd (byteE.run [x3,t13] r15.2) fun r41=>
      sortkey_dict_J3 x0 x3 x7 x8 H0 r41.2)
      (sortkey_dict_J3 x0 x3 x7 x8 H0 r15.2):=(CXM_eq [4,8,9] _ _ _ _).trans (by kernel_rfl)
theorem sortkey_dict_L1_eq (x0 x3 x7 x8:AV) (H0 H:Hp):sortkey_dict_L1 x0 x3 x7 x8 H0 H =
    bnd (ibin .lss x8 x7) fun t9=>
    cnd t9
      (sortkey_dict_J2 x0 x3 x7 x8 t9 H0 H)
      (sortkey_dict_J1 x3 H0 H):=(LPL_eqm (C:=cfg) [4,8,9] (tame_block 0 (sortkey_dict_K1_tame H0)) _ _).trans (by kernel_rfl)
theorem F_sortkey_dict_eq (p0:AV) (H:Hp):C_sortkey_dict [p0] H = F_sortkey_dict p0 H:=(callw_cxm (C:=cfg) (fn:=Tryz.f157) (c:=bodyOf Tryz.f157) (n:=44) [4,8,9] Tryz.func157 (by kernel_rfl) (by kernel_rfl) [p0] (by kernel_rfl) H).trans (by kernel_rfl)

def F_sortkey_parts_3 (p0 p1:AV) (H:Hp):Res:=
  bnd (aload true 6 p1 H) fun t4=>
  bnd (flatC C_locale_Upper [t4,p0] H) fun r6=>
  some (r6.1,r6.2)
theorem F_sortkey_parts_3_eq (p0 p1:AV) (H:Hp):C_sortkey_parts_3 [p0,p1] H = F_sortkey_parts_3 p0 p1 H:=(callw_cxm (C:=cfg) (fn:=Tryz.f158) (c:=bodyOf Tryz.f158) (n:=7) [] Tryz.func158 (by kernel_rfl) (by kernel_rfl) [p0,p1] (by kernel_rfl) H).trans (by kernel_rfl)

def F_locale_Upper (p0 p1:AV) (H:Hp):Res:=
  bnd (abox p0 H) fun r2=>
  bnd (aload true 6 r2.1 r2.2) fun t5=>
  bnd (flatC C_locale_valid [t5] r2.2) fun r6=>
  bnd (afieldV false 1 3 r6.1) fun t7=>
  bnd (flatC C_locale_mapped [t7,p1] r6.2) fun r9=>
  some (r9.1,r9.2)
theorem F_locale_Upper_eq (p0 p1:AV) (H:Hp):C_locale_Upper [p0,p1] H = F_locale_Upper p0 p1 H:=(callw_cxm (C:=cfg) (fn:=Tryz.f159) (c:=bodyOf Tryz.f159) (n:=10) [] Tryz.func159 (by kernel_rfl) (by kernel_rfl) [p0,p1] (by kernel_rfl) H).trans (by kernel_rfl)

def R05_valid_J1 (x1 x2:AV) (H0 H:Hp):Res:=CXgC 163 8 (sub (bodyOf Tryz.f163) [1,1]) (retL cfg 8 163 Tryz.f163 H0) [(1,x1),(2,x2)] H
def F_R05_valid (p0:AV) (H:Hp):Res:=
  bnd (abox p0 H) fun r1=>
  bnd (some ((.ptr r1.2.length 0),r1.2 ++ [.cells [(.str []),.nils,(.str []),(.str []),.nils,.nils]])) fun r2=>
  bnd (aload true 6 r1.1 r2.2) fun t3=>
  bnd (flatC C_R05_Check [t3] r2.2) fun r4=>
  bnd (ibin .neq r4.1 (.int .i64 0)) fun t5=>
  cnd t5
    (bnd (flatC C_R05_Default [] r4.2) fun r6=>
    bnd (astoreU 6 r2.1 r6.1 r6.2) fun r_10=>
    bnd (aload true 6 r2.1 r_10.2) fun v2=>
    some (v2,r_10.2))
    (R05_valid_J1 r1.1 r2.1 H r4.2)
theorem R05_valid_J1_eq (x1 x2:AV) (H0 H:Hp):R05_valid_J1 x1 x2 H0 H =
    bnd (aload true 6 x1 H) fun t7=>
    bnd (astoreU 6 x2 t7 H) fun r_4=>
    bnd (aload true 6 x2 r_4.2) fun v2=>
    some (v2,r_4.2):=(CXM_eq [3] _ _ _ _).trans (by kernel_rfl)
theorem F_R05_valid_eq (p0:AV) (H:Hp):C_R05_valid [p0] H = F_R05_valid p0 H:=(callw_cxm (C:=cfg) (fn:=Tryz.f163) (c:=bodyOf Tryz.f163) (n:=8) [3] Tryz.func163 (by kernel_rfl) (by kernel_rfl) [p0] (by kernel_rfl) H).trans (by kernel_rfl)

def locale_Check_J4 (x1:AV) (H0 H:Hp):Res:=CXgC 186 49 (sub (bodyOf Tryz.f186) [1,1,1,1,1]) (retL cfg 49 186 Tryz.f186 H0) [(1,x1)] H
def locale_Check_J3 (x1:AV) (H0 H:Hp):Res:=CXgC 186 49 (sub (bodyOf Tryz.f186) [1,1,1,1]) (retL cfg 49 186 Tryz.f186 H0) [(1,x1)] H
def locale_Check_K1 (H0:Hp):KL:=seqL (fun k al H=>CXgC 186 49 (sub (bodyOf Tryz.f186) [1,1,1,1]) k (trimL (cfg.keep 186) (sub (bodyOf Tryz.f186) [1,1,1,1]) al) H) (retL cfg 49 186 Tryz.f186 H0)
theorem locale_Check_K1_tame (H0:Hp):Tame 49 (locale_Check_K1 H0):=tame_seq (C:=cfg) (kp:=cfg.keep 186) (sub (bodyOf Tryz.f186) [1,1,1,1]) (tame_ret 186 Tryz.f186 H0)
def locale_Check_J6 (x1 x27 x28 x29:AV) (H0 H:Hp):Res:=CXgC 186 49 (sub (bodyOf Tryz.f186) [1,1,1,0,1,0,0,1,1,1]) (seqL (fun k al H=>LPgC 186 49 (sub (bodyOf Tryz.f186) [1,1,1,0,1,0,0]) k (trimL (cfg.keep 186) (sub (bodyOf Tryz.f186) [1,1,1,0,1,0,0]) al) H) (blockL 0 (locale_Check_K1 H0))) [(1,x1),(27,x27),(28,x28),(29,x29)] H
def locale_Check_J5 (x1 x27 x28 x29 x30:AV) (H0 H:Hp):Res:=CXgC 186 49 (sub (bodyOf Tryz.f186) [1,1,1,0,1,0,0,1,1]) (seqL (fun k al H=>LPgC 186 49 (sub (bodyOf Tryz.f186) [1,1,1,0,1,0,0]) k (trimL (cfg.keep 186) (sub (bodyOf Tryz.f186) [1,1,1,0,1,0,0]) al) H) (blockL 0 (locale_Check_K1 H0))) [(1,x1),(27,x27),(28,x28),(29,x29),(30,x30)] H
def locale_Check_L1 (x1 x27 x28 x29:AV) (H0 H:Hp):Res:=LPgC 186 49 (sub (bodyOf Tryz.f186) [1,1,1,0,1,0,0]) (blockL 0 (locale_Check_K1 H0)) [(1,x1),(27,x27),(28,x28),(29,x29)] H
def locale_Check_J2 (x1:AV) (H0 H:Hp):Res:=CXgC 186 49 (sub (bodyOf Tryz.f186) [1,1,1]) (retL cfg 49 186 Tryz.f186 H0) [(1,x1)] H
def locale_Check_J1 (x1:AV) (H0 H:Hp):Res:=CXgC 186 49 (sub (bodyOf Tryz.f186) [1,1]) (retL cfg 49 186 Tryz.f186 H0) [(1,x1)] H
def F_locale_Check (p0:AV) (H:Hp):Res:=
  bnd (abox p0 H) fun r1=>
  bnd (afield 0 r1.1) fun t6=>
  bnd (aload false 1 t6 r1.2) fun t7=>
  bnd (flatC C_locale_name [t7] r1.2) fun r8=>
  bnd (aun .not r8.1) fun t9=>
  cnd t9
    (some ((.int .i64 4),r8.2))
    (locale_Check_J1 r1.1 H r8.2)
theorem locale_Check_J4_eq (x1:AV) (H0 H:Hp):locale_Check_J4 x1 H0 H =
    bnd (afield 5 x1) fun t46=>
    bnd (aload false 1 t46 H) fun t47=>
    bnd (flatC C_locale_checkElements [t47] H) fun r48=>
    some (r48.1,r48.2):=(CXM_eq [3,5,7,10,11,14] _ _ _ _).trans (by kernel_rfl)
theorem locale_Check_J3_eq (x1:AV) (H0 H:Hp):locale_Check_J3 x1 H0 H =
    bnd (afield 4 x1) fun t40=>
    bnd (aload false 1 t40 H) fun t41=>
    bnd (flatC C_locale_checkClasses [t41] H) fun r42=>
    bnd (ibin .neq r42.1 (.int .i64 0)) fun t44=>
    cnd t44
      (some (r42.1,r42.2))
      (locale_Check_J4 x1 H0 r42.2):=(CXM_eq [3,5,7,10,11,14] _ _ _ _).trans (by kernel_rfl)
theorem locale_Check_J6_eq (x1 x27 x28 x29:AV) (H0 H:Hp):locale_Check_J6 x1 x27 x28 x29 H0 H =
    bnd (ibin .add x29 (.int .i64 1)) fun t39=>
    locale_Check_L1 x1 x27 x28 t39 H0 H:=(CXM_eq [3,5,7,10,11,14] _ _ _ _).trans (by kernel_rfl)
theorem locale_Check_J5_eq (x1 x27 x28 x29 x30:AV) (H0 H:Hp):locale_Check_J5 x1 x27 x28 x29 x30 H0 H =
    bnd (aindexS 1 x27 x29) fun t31=>
    bnd (aload false 1 t31 H) fun t32=>
    bnd (ibin .lss t32 (.int .i64 0)) fun t34=>
    bnd (gdv t34 false (.tuple []) (some t32)) fun t36=>
    bnd (gdv t34 false (.tuple []) (ibin .gtr t36 (.int .i64 65535))) fun t37=>
    bnd (apick t34 (.bool true) t37) fun t38=>
    cnd t38
      (some ((.int .i64 2),H))
      (locale_Check_J6 x1 x27 x28 x29 H0 H):=(CXM_eq [3,5,7,10,11,14] _ _ _ _).trans (by kernel_rfl)
theorem locale_Check_L1_eq (x1 x27 x28 x29:AV) (H0 H:Hp):locale_Check_L1 x1 x27 x28 x29 H0 H =
    bnd (ibin .lss x29 x28) fun t30=>
    cnd t30
      (locale_Check_J5 x1 x27 x28 x29 t30 H0 H)
      (locale_Check_J3 x1 H0 H):=(LPL_eqm (C:=cfg) [3,5,7,10,11,14] (tame_block 0 (locale_Check_K1_tame H0)) _ _).trans (by kernel_rfl)
theorem locale_Check_J2_eq (x1:AV) (H0 H:Hp):locale_Check_J2 x1 H0 H =
    bnd (afield 1 x1) fun t26=>
    bnd (aload false 1 t26 H) fun t27=>
    bnd (alenD (.slice 3) t27) fun t28=>
    locale_Check_L1 x1 t27 t28 (.int .i64 0) H0 H:=(CXM_eq [3,5,7,10,11,14] _ _ _ _).trans (by kernel_rfl)
theorem locale_Check_J1_eq (x1:AV) (H0 H:Hp):locale_Check_J1 x1 H0 H =
    bnd (afield 1 x1) fun t10=>
    bnd (aload false 1 t10 H) fun t11=>
    bnd (alenD (.slice 3) t11) fun t12=>
    bnd (ibin .neq t12 (.int .i64 256)) fun t13=>
    bnd (gdv t13 false (.tuple []) (afield 2 x1)) fun t15=>
    bnd (gdv t13 false (.tuple []) (aload false 1 t15 H)) fun t16=>
    bnd (gdv t13 false (.tuple []) (alenD .string t16)) fun t17=>
    bnd (gdv t13 false (.tuple []) (ibin .neq t17 (.int .i64 256))) fun t18=>
    bnd (apick t13 (.bool true) t18) fun t19=>
    bnd (gdv t19 false (.tuple []) (afield 3 x1)) fun t21=>
    bnd (gdv t19 false (.tuple []) (aload false 1 t21 H)) fun t22=>
    bnd (gdv t19 false (.tuple []) (alenD .string t22)) fun t23=>
    bnd (gdv t19 false (.tuple []) (ibin .neq t23 (.int .i64 256))) fun t24=>
    bnd (apick t19 (.bool true) t24) fun t25=>
    cnd t25
      (some ((.int .i64 2),H))
      (locale_Check_J2 x1 H0 H):=(CXM_eq [3,5,7,10,11,14] _ _ _ _).trans (by kernel_rfl)
theorem F_locale_Check_eq (p0:AV) (H:Hp):C_locale_Check [p0] H = F_locale_Check p0 H:=(callw_cxm (C:=cfg) (fn:=Tryz.f186) (c:=bodyOf Tryz.f186) (n:=49) [3,5,7,10,11,14] Tryz.func186 (by kernel_rfl) (by kernel_rfl) [p0] (by kernel_rfl) H).trans (by kernel_rfl)

def F_internal_bytealg_CompareString (p0 p1:AV) (H:Hp):Res:=
  bnd (extC .cmp [p0,p1] H) fun r7=>
  some (r7.1,r7.2)
theorem F_internal_bytealg_CompareString_eq (p0 p1:AV) (H:Hp):C_internal_bytealg_CompareString [p0,p1] H = F_internal_bytealg_CompareString p0 p1 H:=(callw_cxm (C:=cfg) (fn:=Tryz.f188) (c:=bodyOf Tryz.f188) (n:=8) [] Tryz.func188 (by kernel_rfl) (by kernel_rfl) [p0,p1] (by kernel_rfl) H).trans (by kernel_rfl)

def decimal_digits_J1 (x3:AV) (H0 H:Hp):Res:=CXgC 189 23 (sub (bodyOf Tryz.f189) [1,1,1]) (retL cfg 23 189 Tryz.f189 H0) [(3,x3)] H
def decimal_digits_K1 (H0:Hp):KL:=seqL (fun k al H=>CXgC 189 23 (sub (bodyOf Tryz.f189) [1,1,1]) k (trimL (cfg.keep 189) (sub (bodyOf Tryz.f189) [1,1,1]) al) H) (retL cfg 23 189 Tryz.f189 H0)
theorem decimal_digits_K1_tame (H0:Hp):Tame 23 (decimal_digits_K1 H0):=tame_seq (C:=cfg) (kp:=cfg.keep 189) (sub (bodyOf Tryz.f189) [1,1,1]) (tame_ret 189 Tryz.f189 H0)
def decimal_digits_J2 (x0 x3:AV) (H0 H:Hp):Res:=CXgC 189 23 (sub (bodyOf Tryz.f189) [1,1,0,0,0,1]) (seqL (fun k al H=>LPgC 189 23 (sub (bodyOf Tryz.f189) [1,1,0,0,0]) k (trimL (cfg.keep 189) (sub (bodyOf Tryz.f189) [1,1,0,0,0]) al) H) (blockL 0 (decimal_digits_K1 H0))) [(0,x0),(3,x3)] H
def decimal_digits_L1 (x0 x3:AV) (H0 H:Hp):Res:=LPgC 189 23 (sub (bodyOf Tryz.f189) [1,1,0,0,0]) (blockL 0 (decimal_digits_K1 H0)) [(0,x0),(3,x3)] H
def F_decimal_digits (p0:AV) (H:Hp):Res:=
  decimal_digits_L1 p0 (.int .i64 0) H H
theorem decimal_digits_J1_eq (x3:AV) (H0 H:Hp):decimal_digits_J1 x3 H0 H =
    some (x3,H):=(CXM_eq [3,4] _ _ _ _).trans (by kernel_rfl)
theorem decimal_digits_J2_eq (x0 x3:AV) (H0 H:Hp):decimal_digits_J2 x0 x3 H0 H =
    bnd (ibin .add x3 (.int .i64 1)) fun t21=>
    decimal_digits_L1 x0 t21 H0 H:=(CXM_eq [3,4] _ _ _ _).trans (by kernel_rfl)
theorem decimal_digits_L1_eq (x0 x3:AV) (H0 H:Hp):decimal_digits_L1 x0 x3 H0 H =
    bnd (alenD .string x0) fun t6=>
    bnd (ibin .lss x3 t6) fun t7=>
    bnd (gdv t7 true (.tuple []) (some x0)) fun t9=>
    bnd (gdv t7 true (.tuple []) (some x3)) fun t10=>
    bnd (gdv t7 true (.tuple []) (aindexStr t9 t10)) fun t11=>
    bnd (gdv t7 true (.tuple []) (ibin .geq t11 (.int .u8 48))) fun t12=>
    bnd (apick t7 t12 (.bool false)) fun t13=>
    bnd (gdv t13 true (.tuple []) (some x0)) fun t15=>
    bnd (gdv t13 true (.tuple []) (some x3)) fun t16=>
    bnd (gdv t13 true (.tuple []) (aindexStr t15 t16)) fun t17=>
    bnd (gdv t13 true (.tuple []) (ibin .leq t17 (.int .u8 57))) fun t18=>
    bnd (apick t13 t18 (.bool false)) fun t19=>
    cnd t19
      (decimal_digits_J2 x0 x3 H0 H)
      (decimal_digits_J1 x3 H0 H):=(LPL_eqm (C:=cfg) [3,4] (tame_block 0 (decimal_digits_K1_tame H0)) _ _).trans (by kernel_rfl)
theorem F_decimal_digits_eq (p0:AV) (H:Hp):C_decimal_digits [p0] H = F_decimal_digits p0 H:=(callw_cxm (C:=cfg) (fn:=Tryz.f189) (c:=bodyOf Tryz.f189) (n:=23) [3,4] Tryz.func189 (by kernel_rfl) (by kernel_rfl) [p0] (by kernel_rfl) H).trans (by kernel_rfl)

def decimal_value_J1 (x1 x5:AV) (H0 H:Hp):Res:=CXgC 190 29 (sub (bodyOf Tryz.f190) [1,1,1]) (retL cfg 29 190 Tryz.f190 H0) [(1,x1),(5,x5)] H
def decimal_value_K1 (H0:Hp):KL:=seqL (fun k al H=>CXgC 190 29 (sub (bodyOf Tryz.f190) [1,1,1]) k (trimL (cfg.keep 190) (sub (bodyOf Tryz.f190) [1,1,1]) al) H) (retL cfg 29 190 Tryz.f190 H0)
theorem decimal_value_K1_tame (H0:Hp):Tame 29 (decimal_value_K1 H0):=tame_seq (C:=cfg) (kp:=cfg.keep 190) (sub (bodyOf Tryz.f190) [1,1,1]) (tame_ret 190 Tryz.f190 H0)
def decimal_value_J3 (x0 x1 x5 x8 x9:AV) (H0 H:Hp):Res:=CXgC 190 29 (sub (bodyOf Tryz.f190) [1,1,0,1,0,0,1,1,1]) (seqL (fun k al H=>LPgC 190 29 (sub (bodyOf Tryz.f190) [1,1,0,1,0,0]) k (trimL (cfg.keep 190) (sub (bodyOf Tryz.f190) [1,1,0,1,0,0]) al) H) (blockL 0 (decimal_value_K1 H0))) [(0,x0),(1,x1),(5,x5),(8,x8),(9,x9)] H
def decimal_value_J2 (x0 x1 x5 x8 x9 x10:AV) (H0 H:Hp):Res:=CXgC 190 29 (sub (bodyOf Tryz.f190) [1,1,0,1,0,0,1,1]) (seqL (fun k al H=>LPgC 190 29 (sub (bodyOf Tryz.f190) [1,1,0,1,0,0]) k (trimL (cfg.keep 190) (sub (bodyOf Tryz.f190) [1,1,0,1,0,0]) al) H) (blockL 0 (decimal_value_K1 H0))) [(0,x0),(1,x1),(5,x5),(8,x8),(9,x9),(10,x10)] H
def decimal_value_L1 (x0 x1 x5 x8 x9:AV) (H0 H:Hp):Res:=LPgC 190 29 (sub (bodyOf Tryz.f190) [1,1,0,1,0,0]) (blockL 0 (decimal_value_K1 H0)) [(0,x0),(1,x1),(5,x5),(8,x8),(9,x9)] H
def F_decimal_value (p0 p1:AV) (H:Hp):Res:=
  bnd (alenD .string p0) fun t8=>
  decimal_value_L1 p0 p1 (.int .i64 0) t8 (.int .i64 0) H H
theorem decimal_value_J1_eq (x1 x5:AV) (H0 H:Hp):decimal_value_J1 x1 x5 H0 H =
    bnd (ibin .mul x5 (.int .i64 10000)) fun t24=>
    bnd (flatC C_decimal_fraction [x1] H) fun r26=>
    bnd (ibin .add t24 r26.1) fun t27=>
    bnd (amin2 (.int .i64 10000000000001) t27) fun t28=>
    some (t28,r26.2):=(CXM_eq [4,8,9] _ _ _ _).trans (by kernel_rfl)
theorem decimal_value_J3_eq (x0 x1 x5 x8 x9:AV) (H0 H:Hp):decimal_value_J3 x0 x1 x5 x8 x9 H0 H =
    bnd (ibin .add x9 (.int .i64 1)) fun t22=>
    decimal_value_L1 x0 x1 x5 x8 t22 H0 H:=(CXM_eq [4,8,9] _ _ _ _).trans (by kernel_rfl)
theorem decimal_value_J2_eq (x0 x1 x5 x8 x9 x10:AV) (H0 H:Hp):decimal_value_J2 x0 x1 x5 x8 x9 x10 H0 H =
    bnd (ibin .mul (.int .i64 10) x5) fun t13=>
    bnd (aindexStr x0 x9) fun t16=>
    bnd (ibin .sub t16 (.int .u8 48)) fun t17=>
    bnd (cvInt .i64 t17) fun t18=>
    bnd (ibin .add t13 t18) fun t19=>
    bnd (ibin .gtr t19 (.int .i64 1000000000)) fun t21=>
    cnd t21
      (some ((.int .i64 10000000000001),H))
      (decimal_value_J3 x0 x1 t19 x8 x9 H0 H):=(CXM_eq [4,8,9] _ _ _ _).trans (by kernel_rfl)
theorem decimal_value_L1_eq (x0 x1 x5 x8 x9:AV) (H0 H:Hp):decimal_value_L1 x0 x1 x5 x8 x9 H0 H =
    bnd (ibin .lss x9 x8) fun t10=>
    cnd t10
      (decimal_value_J2 x0 x1 x5 x8 x9 t10 H0 H)
      (decimal_value_J1 x1 x5 H0 H):=(LPL_eqm (C:=cfg) [4,8,9] (tame_block 0 (decimal_value_K1_tame H0)) _ _).trans (by kernel_rfl)
theorem F_decimal_value_eq (p0 p1:AV) (H:Hp):C_decimal_value [p0,p1] H = F_decimal_value p0 p1 H:=(callw_cxm (C:=cfg) (fn:=Tryz.f190) (c:=bodyOf Tryz.f190) (n:=29) [4,8,9] Tryz.func190 (by kernel_rfl) (by kernel_rfl) [p0,p1] (by kernel_rfl) H).trans (by kernel_rfl)

def locale_mapped_J1 (x5:AV) (H0 H:Hp):Res:=CXgC 197 26 (sub (bodyOf Tryz.f197) [1,1,1]) (retL cfg 26 197 Tryz.f197 H0) [(5,x5)] H
def locale_mapped_K1 (H0:Hp):KL:=seqL (fun k al H=>CXgC 197 26 (sub (bodyOf Tryz.f197) [1,1,1]) k (trimL (cfg.keep 197) (sub (bodyOf Tryz.f197) [1,1,1]) al) H) (retL cfg 26 197 Tryz.f197 H0)
theorem locale_mapped_K1_tame (H0:Hp):Tame 26 (locale_mapped_K1 H0):=tame_seq (C:=cfg) (kp:=cfg.keep 197) (sub (bodyOf Tryz.f197) [1,1,1]) (tame_ret 197 Tryz.f197 H0)
def locale_mapped_J3 (x0 x5 x10 x11:AV) (H0 H:Hp):Res:=CXgC 197 26 (sub (bodyOf Tryz.f197) [1,1,0,1,0,0,1,1,1]) (seqL (fun k al H=>LPgC 197 26 (sub (bodyOf Tryz.f197) [1,1,0,1,0,0]) k (trimL (cfg.keep 197) (sub (bodyOf Tryz.f197) [1,1,0,1,0,0]) al) H) (blockL 0 (locale_mapped_K1 H0))) [(0,x0),(5,x5),(10,x10),(11,x11)] H
def locale_mapped_J2 (x0 x5 x10 x11 x12:AV) (H0 H:Hp):Res:=CXgC 197 26 (sub (bodyOf Tryz.f197) [1,1,0,1,0,0,1,1]) (seqL (fun k al H=>LPgC 197 26 (sub (bodyOf Tryz.f197) [1,1,0,1,0,0]) k (trimL (cfg.keep 197) (sub (bodyOf Tryz.f197) [1,1,0,1,0,0]) al) H) (blockL 0 (locale_mapped_K1 H0))) [(0,x0),(5,x5),(10,x10),(11,x11),(12,x12)] H
def locale_mapped_L1 (x0 x5 x10 x11:AV) (H0 H:Hp):Res:=LPgC 197 26 (sub (bodyOf Tryz.f197) [1,1,0,1,0,0]) (blockL 0 (locale_mapped_K1 H0)) [(0,x0),(5,x5),(10,x10),(11,x11)] H
def F_locale_mapped (p0 p1:AV) (H:Hp):Res:=
  bnd (cvRow p1 H) fun r8=>
  bnd (alenD (.slice 5) r8.1) fun t10=>
  locale_mapped_L1 p0 r8.1 t10 (.int .i64 0) H r8.2
theorem locale_mapped_J1_eq (x5:AV) (H0 H:Hp):locale_mapped_J1 x5 H0 H =
    bnd (cvRd x5 H) fun t25=>
    some (t25,H):=(CXM_eq [4,6,7] _ _ _ _).trans (by kernel_rfl)
theorem locale_mapped_J3_eq (x0 x5 x10 x11:AV) (H0 H:Hp):locale_mapped_J3 x0 x5 x10 x11 H0 H =
    bnd (ibin .add x11 (.int .i64 1)) fun t23=>
    locale_mapped_L1 x0 x5 x10 t23 H0 H:=(CXM_eq [4,6,7] _ _ _ _).trans (by kernel_rfl)
theorem locale_mapped_J2_eq (x0 x5 x10 x11 x12:AV) (H0 H:Hp):locale_mapped_J2 x0 x5 x10 x11 x12 H0 H =
    bnd (aindexS 1 x5 x11) fun t19=>
    bnd (aload false 1 t19 H) fun t20=>
    bnd (aindexStr x0 t20) fun t21=>
    bnd (aindexS 1 x5 x11) fun t22=>
    bnd (astoreU 1 t22 t21 H) fun r_10=>
    locale_mapped_J3 x0 x5 x10 x11 H0 r_10.2:=(CXM_eq [4,6,7] _ _ _ _).trans (by kernel_rfl)
theorem locale_mapped_L1_eq (x0 x5 x10 x11:AV) (H0 H:Hp):locale_mapped_L1 x0 x5 x10 x11 H0 H =
    bnd (ibin .lss x11 x10) fun t12=>
    cnd t12
      (locale_mapped_J2 x0 x5 x10 x11 t12 H0 H)
      (locale_mapped_J1 x5 H0 H):=(LPL_eqm (C:=cfg) [4,6,7] (tame_block 0 (locale_mapped_K1_tame H0)) _ _).trans (by kernel_rfl)
theorem F_locale_mapped_eq (p0 p1:AV) (H:Hp):C_locale_mapped [p0,p1] H = F_locale_mapped p0 p1 H:=(callw_cxm (C:=cfg) (fn:=Tryz.f197) (c:=bodyOf Tryz.f197) (n:=26) [4,6,7] Tryz.func197 (by kernel_rfl) (by kernel_rfl) [p0,p1] (by kernel_rfl) H).trans (by kernel_rfl)

def R05_Check_J5 (x1:AV) (H0 H:Hp):Res:=CXgC 204 43 (sub (bodyOf Tryz.f204) [1,1,1,1,1,1]) (retL cfg 43 204 Tryz.f204 H0) [(1,x1)] H
def R05_Check_J4 (x1:AV) (H0 H:Hp):Res:=CXgC 204 43 (sub (bodyOf Tryz.f204) [1,1,1,1,1]) (retL cfg 43 204 Tryz.f204 H0) [(1,x1)] H
def R05_Check_J3 (x1:AV) (H0 H:Hp):Res:=CXgC 204 43 (sub (bodyOf Tryz.f204) [1,1,1,1]) (retL cfg 43 204 Tryz.f204 H0) [(1,x1)] H
def R05_Check_K1 (H0:Hp):KL:=seqL (fun k al H=>CXgC 204 43 (sub (bodyOf Tryz.f204) [1,1,1,1]) k (trimL (cfg.keep 204) (sub (bodyOf Tryz.f204) [1,1,1,1]) al) H) (retL cfg 43 204 Tryz.f204 H0)
theorem R05_Check_K1_tame (H0:Hp):Tame 43 (R05_Check_K1 H0):=tame_seq (C:=cfg) (kp:=cfg.keep 204) (sub (bodyOf Tryz.f204) [1,1,1,1]) (tame_ret 204 Tryz.f204 H0)
def R05_Check_J7 (x1 x3:AV) (H0 H:Hp):Res:=CXgC 204 43 (sub (bodyOf Tryz.f204) [1,1,1,0,1,0,0,1,1]) (seqL (fun k al H=>LPgC 204 43 (sub (bodyOf Tryz.f204) [1,1,1,0,1,0,0]) k (trimL (cfg.keep 204) (sub (bodyOf Tryz.f204) [1,1,1,0,1,0,0]) al) H) (blockL 0 (R05_Check_K1 H0))) [(1,x1),(3,x3)] H
def R05_Check_J6 (x1 x3:AV) (H0 H:Hp):Res:=CXgC 204 43 (sub (bodyOf Tryz.f204) [1,1,1,0,1,0,0,1]) (seqL (fun k al H=>LPgC 204 43 (sub (bodyOf Tryz.f204) [1,1,1,0,1,0,0]) k (trimL (cfg.keep 204) (sub (bodyOf Tryz.f204) [1,1,1,0,1,0,0]) al) H) (blockL 0 (R05_Check_K1 H0))) [(1,x1),(3,x3)] H
def R05_Check_L1 (x1 x3:AV) (H0 H:Hp):Res:=LPgC 204 43 (sub (bodyOf Tryz.f204) [1,1,1,0,1,0,0]) (blockL 0 (R05_Check_K1 H0)) [(1,x1),(3,x3)] H
def R05_Check_J2 (x1:AV) (H0 H:Hp):Res:=CXgC 204 43 (sub (bodyOf Tryz.f204) [1,1,1]) (retL cfg 43 204 Tryz.f204 H0) [(1,x1)] H
def R05_Check_J1 (x1:AV) (H0 H:Hp):Res:=CXgC 204 43 (sub (bodyOf Tryz.f204) [1,1]) (retL cfg 43 204 Tryz.f204 H0) [(1,x1)] H
def F_R05_Check (p0:AV) (H:Hp):Res:=
  bnd (abox p0 H) fun r1=>
  bnd (afield 0 r1.1) fun t5=>
  bnd (aload false 1 t5 r1.2) fun t6=>
  bnd (flatC C_R05_IsName [t6] r1.2) fun r7=>
  bnd (aun .not r7.1) fun t8=>
  cnd t8
    (some ((.int .i64 4),r7.2))
    (R05_Check_J1 r1.1 H r7.2)
theorem R05_Check_J5_eq (x1:AV) (H0 H:Hp):R05_Check_J5 x1 H0 H =
    bnd (afield 5 x1) fun t40=>
    bnd (aload false 1 t40 H) fun t41=>
    bnd (flatC C_R05_checkElements [t41] H) fun r42=>
    some (r42.1,r42.2):=(CXM_eq [3,5,7,8,10,12,15] _ _ _ _).trans (by kernel_rfl)
theorem R05_Check_J4_eq (x1:AV) (H0 H:Hp):R05_Check_J4 x1 H0 H =
    bnd (afield 4 x1) fun t34=>
    bnd (aload false 1 t34 H) fun t35=>
    bnd (flatC C_R05_checkClasses [t35] H) fun r36=>
    bnd (ibin .neq r36.1 (.int .i64 0)) fun t38=>
    cnd t38
      (some (r36.1,r36.2))
      (R05_Check_J5 x1 H0 r36.2):=(CXM_eq [3,5,7,8,10,12,15] _ _ _ _).trans (by kernel_rfl)
theorem R05_Check_J3_eq (x1:AV) (H0 H:Hp):R05_Check_J3 x1 H0 H =
    bnd (afield 2 x1) fun t24=>
    bnd (aload false 1 t24 H) fun t25=>
    bnd (alenD .string t25) fun t26=>
    bnd (ibin .neq t26 (.int .i64 256)) fun t27=>
    bnd (gdv t27 false (.tuple []) (afield 3 x1)) fun t29=>
    bnd (gdv t27 false (.tuple []) (aload false 1 t29 H)) fun t30=>
    bnd (gdv t27 false (.tuple []) (alenD .string t30)) fun t31=>
    bnd (gdv t27 false (.tuple []) (ibin .neq t31 (.int .i64 256))) fun t32=>
    bnd (apick t27 (.bool true) t32) fun t33=>
    cnd t33
      (some ((.int .i64 2),H))
      (R05_Check_J4 x1 H0 H):=(CXM_eq [3,5,7,8,10,12,15] _ _ _ _).trans (by kernel_rfl)
theorem R05_Check_J7_eq (x1 x3:AV) (H0 H:Hp):R05_Check_J7 x1 x3 H0 H =
    bnd (ibin .add x3 (.int .i64 1)) fun t16=>
    R05_Check_L1 x1 t16 H0 H:=(CXM_eq [3,5,7,8,10,12,15] _ _ _ _).trans (by kernel_rfl)
theorem R05_Check_J6_eq (x1 x3:AV) (H0 H:Hp):R05_Check_J6 x1 x3 H0 H =
    bnd (afield 1 x1) fun t17=>
    bnd (aload false 1 t17 H) fun t18=>
    bnd (aindexS 1 t18 x3) fun t20=>
    bnd (aload false 1 t20 H) fun t21=>
    bnd (flatC C_R05_light [t21] H) fun r22=>
    bnd (aun .not r22.1) fun t23=>
    cnd t23
      (some ((.int .i64 2),r22.2))
      (R05_Check_J7 x1 x3 H0 r22.2):=(CXM_eq [3,5,7,8,10,12,15] _ _ _ _).trans (by kernel_rfl)
theorem R05_Check_L1_eq (x1 x3:AV) (H0 H:Hp):R05_Check_L1 x1 x3 H0 H =
    bnd (ibin .lss x3 (.int .i64 256)) fun t14=>
    cnd t14
      (R05_Check_J6 x1 x3 H0 H)
      (R05_Check_J3 x1 H0 H):=(LPL_eqm (C:=cfg) [3,5,7,8,10,12,15] (tame_block 0 (R05_Check_K1_tame H0)) _ _).trans (by kernel_rfl)
theorem R05_Check_J2_eq (x1:AV) (H0 H:Hp):R05_Check_J2 x1 H0 H =
    R05_Check_L1 x1 (.int .i64 0) H0 H:=(CXM_eq [3,5,7,8,10,12,15] _ _ _ _).trans (by kernel_rfl)
theorem R05_Check_J1_eq (x1:AV) (H0 H:Hp):R05_Check_J1 x1 H0 H =
    bnd (afield 1 x1) fun t9=>
    bnd (aload false 1 t9 H) fun t10=>
    bnd (alenD (.slice 3) t10) fun t11=>
    bnd (ibin .neq t11 (.int .i64 256)) fun t12=>
    cnd t12
      (some ((.int .i64 2),H))
      (R05_Check_J2 x1 H0 H):=(CXM_eq [3,5,7,8,10,12,15] _ _ _ _).trans (by kernel_rfl)
theorem F_R05_Check_eq (p0:AV) (H:Hp):C_R05_Check [p0] H = F_R05_Check p0 H:=(callw_cxm (C:=cfg) (fn:=Tryz.f204) (c:=bodyOf Tryz.f204) (n:=43) [3,5,7,8,10,12,15] Tryz.func204 (by kernel_rfl) (by kernel_rfl) [p0] (by kernel_rfl) H).trans (by kernel_rfl)

def locale_name_J1 (x0:AV) (H0 H:Hp):Res:=CXgC 221 54 (sub (bodyOf Tryz.f221) [1,1]) (retL cfg 54 221 Tryz.f221 H0) [(0,x0)] H
def locale_name_K1 (H0:Hp):KL:=seqL (fun k al H=>CXgC 221 54 (sub (bodyOf Tryz.f221) [1,1]) k (trimL (cfg.keep 221) (sub (bodyOf Tryz.f221) [1,1]) al) H) (retL cfg 54 221 Tryz.f221 H0)
theorem locale_name_K1_tame (H0:Hp):Tame 54 (locale_name_K1 H0):=tame_seq (C:=cfg) (kp:=cfg.keep 221) (sub (bodyOf Tryz.f221) [1,1]) (tame_ret 221 Tryz.f221 H0)
def locale_name_J3 (x0 x7 x8:AV) (H0 H:Hp):Res:=CXgC 221 54 (sub (bodyOf Tryz.f221) [1,0,1,0,0,1,1,1]) (seqL (fun k al H=>LPgC 221 54 (sub (bodyOf Tryz.f221) [1,0,1,0,0]) k (trimL (cfg.keep 221) (sub (bodyOf Tryz.f221) [1,0,1,0,0]) al) H) (blockL 0 (locale_name_K1 H0))) [(0,x0),(7,x7),(8,x8)] H
def locale_name_J2 (x0 x7 x8 x9:AV) (H0 H:Hp):Res:=CXgC 221 54 (sub (bodyOf Tryz.f221) [1,0,1,0,0,1,1]) (seqL (fun k al H=>LPgC 221 54 (sub (bodyOf Tryz.f221) [1,0,1,0,0]) k (trimL (cfg.keep 221) (sub (bodyOf Tryz.f221) [1,0,1,0,0]) al) H) (blockL 0 (locale_name_K1 H0))) [(0,x0),(7,x7),(8,x8),(9,x9)] H
def locale_name_L1 (x0 x7 x8:AV) (H0 H:Hp):Res:=LPgC 221 54 (sub (bodyOf Tryz.f221) [1,0,1,0,0]) (blockL 0 (locale_name_K1 H0)) [(0,x0),(7,x7),(8,x8)] H
def F_locale_name (p0:AV) (H:Hp):Res:=
  bnd (alenD .string p0) fun t7=>
  locale_name_L1 p0 t7 (.int .i64 0) H H
theorem locale_name_J1_eq (x0:AV) (H0 H:Hp):locale_name_J1 x0 H0 H =
    bnd (sbin .neq x0 (.str [])) fun t48=>
    bnd (gdv t48 true (.tuple []) (some x0)) fun t50=>
    bnd (gdv t48 true (.tuple []) (alenD .string t50)) fun t51=>
    bnd (gdv t48 true (.tuple []) (ibin .leq t51 (.int .i64 32))) fun t52=>
    bnd (apick t48 t52 (.bool false)) fun t53=>
    some (t53,H):=(CXM_eq [3,8,9] _ _ _ _).trans (by kernel_rfl)
theorem locale_name_J3_eq (x0 x7 x8:AV) (H0 H:Hp):locale_name_J3 x0 x7 x8 H0 H =
    bnd (ibin .add x8 (.int .i64 1)) fun t46=>
    locale_name_L1 x0 x7 t46 H0 H:=(CXM_eq [3,8,9] _ _ _ _).trans (by kernel_rfl)
theorem locale_name_J2_eq (x0 x7 x8 x9:AV) (H0 H:Hp):locale_name_J2 x0 x7 x8 x9 H0 H =
    bnd (aindexStr x0 x8) fun t13=>
    bnd (ibin .eql t13 (.int .u8 95)) fun t15=>
    bnd (gdv t15 false (.tuple []) (some t13)) fun t17=>
    bnd (gdv t15 false (.tuple []) (ibin .geq t17 (.int .u8 97))) fun t18=>
    bnd (gdv t15 false (.tuple []) (some t18)) fun t19=>
    bnd (gdv t19 true (.tuple []) (some t13)) fun t20=>
    bnd (gdv t19 true (.tuple []) (ibin .leq t20 (.int .u8 122))) fun t21=>
    bnd (gdv t15 false (.tuple []) (apick t19 t21 (.bool false))) fun t22=>
    bnd (apick t15 (.bool true) t22) fun t23=>
    bnd (gdv t23 false (.tuple []) (some t13)) fun t25=>
    bnd (gdv t23 false (.tuple []) (ibin .geq t25 (.int .u8 65))) fun t26=>
    bnd (gdv t23 false (.tuple []) (some t26)) fun t27=>
    bnd (gdv t27 true (.tuple []) (some t13)) fun t28=>
    bnd (gdv t27 true (.tuple []) (ibin .leq t28 (.int .u8 90))) fun t29=>
    bnd (gdv t23 false (.tuple []) (apick t27 t29 (.bool false))) fun t30=>
    bnd (apick t23 (.bool true) t30) fun t31=>
    bnd (aun .not t31) fun t33=>
    bnd (gdv t33 true (.tuple []) (some x8)) fun t35=>
    bnd (gdv t33 true (.tuple []) (ibin .eql t35 (.int .i64 0))) fun t36=>
    bnd (gdv t33 true (.tuple []) (some t36)) fun t37=>
    bnd (gdv t37 false (.tuple []) (some t13)) fun t38=>
    bnd (gdv t37 false (.tuple []) (ibin .lss t38 (.int .u8 48))) fun t39=>
    bnd (gdv t33 true (.tuple []) (apick t37 (.bool true) t39)) fun t40=>
    bnd (gdv t33 true (.tuple []) (some t40)) fun t41=>
    bnd (gdv t41 false (.tuple []) (some t13)) fun t42=>
    bnd (gdv t41 false (.tuple []) (ibin .gtr t42 (.int .u8 57))) fun t43=>
    bnd (gdv t33 true (.tuple []) (apick t41 (.bool true) t43)) fun t44=>
    bnd (apick t33 t44 (.bool false)) fun t45=>
    cnd t45
      (some ((.bool false),H))
      (locale_name_J3 x0 x7 x8 H0 H):=(CXM_eq [3,8,9] _ _ _ _).trans (by kernel_rfl)
theorem locale_name_L1_eq (x0 x7 x8:AV) (H0 H:Hp):locale_name_L1 x0 x7 x8 H0 H =
    bnd (ibin .lss x8 x7) fun t9=>
    cnd t9
      (locale_name_J2 x0 x7 x8 t9 H0 H)
      (locale_name_J1 x0 H0 H):=(LPL_eqm (C:=cfg) [3,8,9] (tame_block 0 (locale_name_K1_tame H0)) _ _).trans (by kernel_rfl)
theorem F_locale_name_eq (p0:AV) (H:Hp):C_locale_name [p0] H = F_locale_name p0 H:=(callw_cxm (C:=cfg) (fn:=Tryz.f221) (c:=bodyOf Tryz.f221) (n:=54) [3,8,9] Tryz.func221 (by kernel_rfl) (by kernel_rfl) [p0] (by kernel_rfl) H).trans (by kernel_rfl)

def locale_checkClasses_J2 (H0 H:Hp):Res:=CXgC 222 28 (sub (bodyOf Tryz.f222) [1,1,1,1]) (retL cfg 28 222 Tryz.f222 H0) [] H
def locale_checkClasses_K1 (H0:Hp):KL:=seqL (fun k al H=>CXgC 222 28 (sub (bodyOf Tryz.f222) [1,1,1,1]) k (trimL (cfg.keep 222) (sub (bodyOf Tryz.f222) [1,1,1,1]) al) H) (retL cfg 28 222 Tryz.f222 H0)
theorem locale_checkClasses_K1_tame (H0:Hp):Tame 28 (locale_checkClasses_K1 H0):=tame_seq (C:=cfg) (kp:=cfg.keep 222) (sub (bodyOf Tryz.f222) [1,1,1,1]) (tame_ret 222 Tryz.f222 H0)
def locale_checkClasses_J4 (x3 x10 x11 x12:AV) (H0 H:Hp):Res:=CXgC 222 28 (sub (bodyOf Tryz.f222) [1,1,1,0,1,0,0,1,1,1]) (seqL (fun k al H=>LPgC 222 28 (sub (bodyOf Tryz.f222) [1,1,1,0,1,0,0]) k (trimL (cfg.keep 222) (sub (bodyOf Tryz.f222) [1,1,1,0,1,0,0]) al) H) (blockL 0 (locale_checkClasses_K1 H0))) [(3,x3),(10,x10),(11,x11),(12,x12)] H
def locale_checkClasses_K2 (H0:Hp):KL:=seqL (fun k al H=>CXgC 222 28 (sub (bodyOf Tryz.f222) [1,1,1,0,1,0,0,1,1,1]) k (trimL (cfg.keep 222) (sub (bodyOf Tryz.f222) [1,1,1,0,1,0,0,1,1,1]) al) H) (seqL (fun k al H=>LPgC 222 28 (sub (bodyOf Tryz.f222) [1,1,1,0,1,0,0]) k (trimL (cfg.keep 222) (sub (bodyOf Tryz.f222) [1,1,1,0,1,0,0]) al) H) (blockL 0 (locale_checkClasses_K1 H0)))
def locale_checkClasses_J6 (x3 x5 x10 x11 x12:AV) (H0 H:Hp):Res:=CXgC 222 28 (sub (bodyOf Tryz.f222) [1,1,1,0,1,0,0,1,1,0,0,1,1,1]) (blockL 1 (locale_checkClasses_K2 H0)) [(3,x3),(5,x5),(10,x10),(11,x11),(12,x12)] H
def locale_checkClasses_J5 (x3 x5 x10 x11 x12:AV) (H0 H:Hp):Res:=CXgC 222 28 (sub (bodyOf Tryz.f222) [1,1,1,0,1,0,0,1,1,0,0,1,1]) (blockL 1 (locale_checkClasses_K2 H0)) [(3,x3),(5,x5),(10,x10),(11,x11),(12,x12)] H
def locale_checkClasses_J3 (x3 x10 x11 x12 x13:AV) (H0 H:Hp):Res:=CXgC 222 28 (sub (bodyOf Tryz.f222) [1,1,1,0,1,0,0,1,1]) (seqL (fun k al H=>LPgC 222 28 (sub (bodyOf Tryz.f222) [1,1,1,0,1,0,0]) k (trimL (cfg.keep 222) (sub (bodyOf Tryz.f222) [1,1,1,0,1,0,0]) al) H) (blockL 0 (locale_checkClasses_K1 H0))) [(3,x3),(10,x10),(11,x11),(12,x12),(13,x13)] H
def locale_checkClasses_L1 (x3 x10 x11 x12:AV) (H0 H:Hp):Res:=LPgC 222 28 (sub (bodyOf Tryz.f222) [1,1,1,0,1,0,0]) (blockL 0 (locale_checkClasses_K1 H0)) [(3,x3),(10,x10),(11,x11),(12,x12)] H
def locale_checkClasses_J1 (x0:AV) (H0 H:Hp):Res:=CXgC 222 28 (sub (bodyOf Tryz.f222) [1,1]) (retL cfg 28 222 Tryz.f222 H0) [(0,x0)] H
def F_locale_checkClasses (p0:AV) (H:Hp):Res:=
  bnd (alenD (.slice 264) p0) fun t7=>
  bnd (ibin .gtr t7 (.int .i64 24)) fun t8=>
  cnd t8
    (some ((.int .i64 3),H))
    (locale_checkClasses_J1 p0 H H)
theorem locale_checkClasses_J2_eq (H0 H:Hp):locale_checkClasses_J2 H0 H =
    some ((.int .i64 0),H):=(CXM_eq [3,6,9,11,12,13] _ _ _ _).trans (by kernel_rfl)
theorem locale_checkClasses_J4_eq (x3 x10 x11 x12:AV) (H0 H:Hp):locale_checkClasses_J4 x3 x10 x11 x12 H0 H =
    bnd (ibin .add x12 (.int .i64 1)) fun t27=>
    locale_checkClasses_L1 x3 x10 x11 t27 H0 H:=(CXM_eq [3,6,9,11,12,13] _ _ _ _).trans (by kernel_rfl)
theorem locale_checkClasses_J6_eq (x3 x5 x10 x11 x12:AV) (H0 H:Hp):locale_checkClasses_J6 x3 x5 x10 x11 x12 H0 H =
    bnd (afield 0 x5) fun t25=>
    bnd (aload false 1 t25 H) fun t26=>
    bnd (amapSet .string x3 t26 (.bool true) H) fun r_11=>
    locale_checkClasses_J4 x3 x10 x11 x12 H0 r_11.2:=(CXM_eq [3,6,9,11,12,13] _ _ _ _).trans (by kernel_rfl)
theorem locale_checkClasses_J5_eq (x3 x5 x10 x11 x12:AV) (H0 H:Hp):locale_checkClasses_J5 x3 x5 x10 x11 x12 H0 H =
    bnd (afield 0 x5) fun t21=>
    bnd (aload false 1 t21 H) fun t22=>
    bnd (alookup .string (.bool false) false x3 t22 H) fun t23=>
    cnd t23
      (some ((.int .i64 6),H))
      (locale_checkClasses_J6 x3 x5 x10 x11 x12 H0 H):=(CXM_eq [3,6,9,11,12,13] _ _ _ _).trans (by kernel_rfl)
theorem locale_checkClasses_J3_eq (x3 x10 x11 x12 x13:AV) (H0 H:Hp):locale_checkClasses_J3 x3 x10 x11 x12 x13 H0 H =
    bnd (aindexS 5 x10 x12) fun t14=>
    bnd (aload true 5 t14 H) fun t15=>
    bnd (some ((.ptr H.length 0),H ++ [.cells [(.str []),(.int .u64 0),(.int .u64 0),(.int .u64 0),(.int .u64 0)]])) fun r5=>
    bnd (astoreU 5 r5.1 t15 r5.2) fun r_8=>
    bnd (afield 0 r5.1) fun t16=>
    bnd (aload false 1 t16 r_8.2) fun t17=>
    bnd (flatC C_locale_name [t17] r_8.2) fun r18=>
    bnd (aun .not r18.1) fun t19=>
    cnd t19
      (some ((.int .i64 4),r18.2))
      (locale_checkClasses_J5 x3 r5.1 x10 x11 x12 H0 r18.2):=(CXM_eq [3,6,9,11,12,13] _ _ _ _).trans (by kernel_rfl)
theorem locale_checkClasses_L1_eq (x3 x10 x11 x12:AV) (H0 H:Hp):locale_checkClasses_L1 x3 x10 x11 x12 H0 H =
    bnd (ibin .lss x12 x11) fun t13=>
    cnd t13
      (locale_checkClasses_J3 x3 x10 x11 x12 t13 H0 H)
      (locale_checkClasses_J2 H0 H):=(LPL_eqm (C:=cfg) [3,6,9,11,12,13] (tame_block 0 (locale_checkClasses_K1_tame H0)) _ _).trans (by kernel_rfl)
theorem locale_checkClasses_J1_eq (x0:AV) (H0 H:Hp):locale_checkClasses_J1 x0 H0 H =
    bnd (some ((.map H.length),H ++ [.map [] 0])) fun r9=>
    bnd (alenD (.slice 264) x0) fun t11=>
    locale_checkClasses_L1 r9.1 x0 t11 (.int .i64 0) H0 r9.2:=(CXM_eq [3,6,9,11,12,13] _ _ _ _).trans (by kernel_rfl)
theorem F_locale_checkClasses_eq (p0:AV) (H:Hp):C_locale_checkClasses [p0] H = F_locale_checkClasses p0 H:=(callw_cxm (C:=cfg) (fn:=Tryz.f222) (c:=bodyOf Tryz.f222) (n:=28) [3,6,9,11,12,13] Tryz.func222 (by kernel_rfl) (by kernel_rfl) [p0] (by kernel_rfl) H).trans (by kernel_rfl)

def locale_checkElements_J2 (H0 H:Hp):Res:=CXgC 223 38 (sub (bodyOf Tryz.f223) [1,1,1,1]) (retL cfg 38 223 Tryz.f223 H0) [] H
def locale_checkElements_K1 (H0:Hp):KL:=seqL (fun k al H=>CXgC 223 38 (sub (bodyOf Tryz.f223) [1,1,1,1]) k (trimL (cfg.keep 223) (sub (bodyOf Tryz.f223) [1,1,1,1]) al) H) (retL cfg 38 223 Tryz.f223 H0)
theorem locale_checkElements_K1_tame (H0:Hp):Tame 38 (locale_checkElements_K1 H0):=tame_seq (C:=cfg) (kp:=cfg.keep 223) (sub (bodyOf Tryz.f223) [1,1,1,1]) (tame_ret 223 Tryz.f223 H0)
def locale_checkElements_J4 (x3 x10 x11 x12:AV) (H0 H:Hp):Res:=CXgC 223 38 (sub (bodyOf Tryz.f223) [1,1,1,0,1,0,0,1,1,1]) (seqL (fun k al H=>LPgC 223 38 (sub (bodyOf Tryz.f223) [1,1,1,0,1,0,0]) k (trimL (cfg.keep 223) (sub (bodyOf Tryz.f223) [1,1,1,0,1,0,0]) al) H) (blockL 0 (locale_checkElements_K1 H0))) [(3,x3),(10,x10),(11,x11),(12,x12)] H
def locale_checkElements_K2 (H0:Hp):KL:=seqL (fun k al H=>CXgC 223 38 (sub (bodyOf Tryz.f223) [1,1,1,0,1,0,0,1,1,1]) k (trimL (cfg.keep 223) (sub (bodyOf Tryz.f223) [1,1,1,0,1,0,0,1,1,1]) al) H) (seqL (fun k al H=>LPgC 223 38 (sub (bodyOf Tryz.f223) [1,1,1,0,1,0,0]) k (trimL (cfg.keep 223) (sub (bodyOf Tryz.f223) [1,1,1,0,1,0,0]) al) H) (blockL 0 (locale_checkElements_K1 H0)))
def locale_checkElements_J6 (x3 x5 x10 x11 x12:AV) (H0 H:Hp):Res:=CXgC 223 38 (sub (bodyOf Tryz.f223) [1,1,1,0,1,0,0,1,1,0,0,1,1,1]) (blockL 1 (locale_checkElements_K2 H0)) [(3,x3),(5,x5),(10,x10),(11,x11),(12,x12)] H
def locale_checkElements_J5 (x3 x5 x10 x11 x12:AV) (H0 H:Hp):Res:=CXgC 223 38 (sub (bodyOf Tryz.f223) [1,1,1,0,1,0,0,1,1,0,0,1,1]) (blockL 1 (locale_checkElements_K2 H0)) [(3,x3),(5,x5),(10,x10),(11,x11),(12,x12)] H
def locale_checkElements_J3 (x3 x10 x11 x12 x13:AV) (H0 H:Hp):Res:=CXgC 223 38 (sub (bodyOf Tryz.f223) [1,1,1,0,1,0,0,1,1]) (seqL (fun k al H=>LPgC 223 38 (sub (bodyOf Tryz.f223) [1,1,1,0,1,0,0]) k (trimL (cfg.keep 223) (sub (bodyOf Tryz.f223) [1,1,1,0,1,0,0]) al) H) (blockL 0 (locale_checkElements_K1 H0))) [(3,x3),(10,x10),(11,x11),(12,x12),(13,x13)] H
def locale_checkElements_L1 (x3 x10 x11 x12:AV) (H0 H:Hp):Res:=LPgC 223 38 (sub (bodyOf Tryz.f223) [1,1,1,0,1,0,0]) (blockL 0 (locale_checkElements_K1 H0)) [(3,x3),(10,x10),(11,x11),(12,x12)] H
def locale_checkElements_J1 (x0:AV) (H0 H:Hp):Res:=CXgC 223 38 (sub (bodyOf Tryz.f223) [1,1]) (retL cfg 38 223 Tryz.f223 H0) [(0,x0)] H
def F_locale_checkElements (p0:AV) (H:Hp):Res:=
  bnd (alenD (.slice 210) p0) fun t7=>
  bnd (ibin .gtr t7 (.int .i64 64)) fun t8=>
  cnd t8
    (some ((.int .i64 3),H))
    (locale_checkElements_J1 p0 H H)
theorem locale_checkElements_J2_eq (H0 H:Hp):locale_checkElements_J2 H0 H =
    some ((.int .i64 0),H):=(CXM_eq [3,6,9,11,12,13] _ _ _ _).trans (by kernel_rfl)
theorem locale_checkElements_J4_eq (x3 x10 x11 x12:AV) (H0 H:Hp):locale_checkElements_J4 x3 x10 x11 x12 H0 H =
    bnd (ibin .add x12 (.int .i64 1)) fun t37=>
    locale_checkElements_L1 x3 x10 x11 t37 H0 H:=(CXM_eq [3,6,9,11,12,13] _ _ _ _).trans (by kernel_rfl)
theorem locale_checkElements_J6_eq (x3 x5 x10 x11 x12:AV) (H0 H:Hp):locale_checkElements_J6 x3 x5 x10 x11 x12 H0 H =
    bnd (afield 0 x5) fun t35=>
    bnd (aload false 1 t35 H) fun t36=>
    bnd (amapSet .string x3 t36 (.bool true) H) fun r_11=>
    locale_checkElements_J4 x3 x10 x11 x12 H0 r_11.2:=(CXM_eq [3,6,9,11,12,13] _ _ _ _).trans (by kernel_rfl)
theorem locale_checkElements_J5_eq (x3 x5 x10 x11 x12:AV) (H0 H:Hp):locale_checkElements_J5 x3 x5 x10 x11 x12 H0 H =
    bnd (afield 0 x5) fun t31=>
    bnd (aload false 1 t31 H) fun t32=>
    bnd (alookup .string (.bool false) false x3 t32 H) fun t33=>
    cnd t33
      (some ((.int .i64 6),H))
      (locale_checkElements_J6 x3 x5 x10 x11 x12 H0 H):=(CXM_eq [3,6,9,11,12,13] _ _ _ _).trans (by kernel_rfl)
theorem locale_checkElements_J3_eq (x3 x10 x11 x12 x13:AV) (H0 H:Hp):locale_checkElements_J3 x3 x10 x11 x12 x13 H0 H =
    bnd (aindexS 2 x10 x12) fun t14=>
    bnd (aload true 2 t14 H) fun t15=>
    bnd (some ((.ptr H.length 0),H ++ [.cells [(.str []),(.int .i64 0)]])) fun r5=>
    bnd (astoreU 2 r5.1 t15 r5.2) fun r_8=>
    bnd (afield 0 r5.1) fun t16=>
    bnd (aload false 1 t16 r_8.2) fun t17=>
    bnd (alenD .string t17) fun t18=>
    bnd (ibin .neq t18 (.int .i64 2)) fun t19=>
    bnd (gdv t19 false (.tuple []) (afield 1 r5.1)) fun t21=>
    bnd (gdv t19 false (.tuple []) (aload false 1 t21 r_8.2)) fun t22=>
    bnd (gdv t19 false (.tuple []) (ibin .lss t22 (.int .i64 0))) fun t23=>
    bnd (apick t19 (.bool true) t23) fun t24=>
    bnd (gdv t24 false (.tuple []) (afield 1 r5.1)) fun t26=>
    bnd (gdv t24 false (.tuple []) (aload false 1 t26 r_8.2)) fun t27=>
    bnd (gdv t24 false (.tuple []) (ibin .gtr t27 (.int .i64 65535))) fun t28=>
    bnd (apick t24 (.bool true) t28) fun t29=>
    cnd t29
      (some ((.int .i64 2),r_8.2))
      (locale_checkElements_J5 x3 r5.1 x10 x11 x12 H0 r_8.2):=(CXM_eq [3,6,9,11,12,13] _ _ _ _).trans (by kernel_rfl)
theorem locale_checkElements_L1_eq (x3 x10 x11 x12:AV) (H0 H:Hp):locale_checkElements_L1 x3 x10 x11 x12 H0 H =
    bnd (ibin .lss x12 x11) fun t13=>
    cnd t13
      (locale_checkElements_J3 x3 x10 x11 x12 t13 H0 H)
      (locale_checkElements_J2 H0 H):=(LPL_eqm (C:=cfg) [3,6,9,11,12,13] (tame_block 0 (locale_checkElements_K1_tame H0)) _ _).trans (by kernel_rfl)
theorem locale_checkElements_J1_eq (x0:AV) (H0 H:Hp):locale_checkElements_J1 x0 H0 H =
    bnd (some ((.map H.length),H ++ [.map [] 0])) fun r9=>
    bnd (alenD (.slice 210) x0) fun t11=>
    locale_checkElements_L1 r9.1 x0 t11 (.int .i64 0) H0 r9.2:=(CXM_eq [3,6,9,11,12,13] _ _ _ _).trans (by kernel_rfl)
theorem F_locale_checkElements_eq (p0:AV) (H:Hp):C_locale_checkElements [p0] H = F_locale_checkElements p0 H:=(callw_cxm (C:=cfg) (fn:=Tryz.f223) (c:=bodyOf Tryz.f223) (n:=38) [3,6,9,11,12,13] Tryz.func223 (by kernel_rfl) (by kernel_rfl) [p0] (by kernel_rfl) H).trans (by kernel_rfl)

def decimal_fraction_J1 (x3:AV) (H0 H:Hp):Res:=CXgC 226 23 (sub (bodyOf Tryz.f226) [1,1,1]) (retL cfg 23 226 Tryz.f226 H0) [(3,x3)] H
def decimal_fraction_K1 (H0:Hp):KL:=seqL (fun k al H=>CXgC 226 23 (sub (bodyOf Tryz.f226) [1,1,1]) k (trimL (cfg.keep 226) (sub (bodyOf Tryz.f226) [1,1,1]) al) H) (retL cfg 23 226 Tryz.f226 H0)
theorem decimal_fraction_K1_tame (H0:Hp):Tame 23 (decimal_fraction_K1 H0):=tame_seq (C:=cfg) (kp:=cfg.keep 226) (sub (bodyOf Tryz.f226) [1,1,1]) (tame_ret 226 Tryz.f226 H0)
def decimal_fraction_J3 (x0 x3 x5:AV) (H0 H:Hp):Res:=CXgC 226 23 (sub (bodyOf Tryz.f226) [1,1,0,1,0,0,1,1,1]) (seqL (fun k al H=>LPgC 226 23 (sub (bodyOf Tryz.f226) [1,1,0,1,0,0]) k (trimL (cfg.keep 226) (sub (bodyOf Tryz.f226) [1,1,0,1,0,0]) al) H) (blockL 0 (decimal_fraction_K1 H0))) [(0,x0),(3,x3),(5,x5)] H
def decimal_fraction_J2 (x0 x3 x5 x6:AV) (H0 H:Hp):Res:=CXgC 226 23 (sub (bodyOf Tryz.f226) [1,1,0,1,0,0,1,1]) (seqL (fun k al H=>LPgC 226 23 (sub (bodyOf Tryz.f226) [1,1,0,1,0,0]) k (trimL (cfg.keep 226) (sub (bodyOf Tryz.f226) [1,1,0,1,0,0]) al) H) (blockL 0 (decimal_fraction_K1 H0))) [(0,x0),(3,x3),(5,x5),(6,x6)] H
def decimal_fraction_L1 (x0 x3 x5:AV) (H0 H:Hp):Res:=LPgC 226 23 (sub (bodyOf Tryz.f226) [1,1,0,1,0,0]) (blockL 0 (decimal_fraction_K1 H0)) [(0,x0),(3,x3),(5,x5)] H
def F_decimal_fraction (p0:AV) (H:Hp):Res:=
  decimal_fraction_L1 p0 (.int .i64 0) (.int .i64 0) H H
theorem decimal_fraction_J1_eq (x3:AV) (H0 H:Hp):decimal_fraction_J1 x3 H0 H =
    some (x3,H):=(CXM_eq [4,8,9] _ _ _ _).trans (by kernel_rfl)
theorem decimal_fraction_J3_eq (x0 x3 x5:AV) (H0 H:Hp):decimal_fraction_J3 x0 x3 x5 H0 H =
    bnd (ibin .add x5 (.int .i64 1)) fun t21=>
    decimal_fraction_L1 x0 x3 t21 H0 H:=(CXM_eq [4,8,9] _ _ _ _).trans (by kernel_rfl)
theorem decimal_fraction_J2_eq (x0 x3 x5 x6:AV) (H0 H:Hp):decimal_fraction_J2 x0 x3 x5 x6 H0 H =
    bnd (ibin .mul x3 (.int .i64 10)) fun t9=>
    bnd (alenD .string x0) fun t12=>
    bnd (ibin .lss x5 t12) fun t13=>
    cnd t13
      (bnd (aindexStr x0 x5) fun t17=>
      bnd (ibin .sub t17 (.int .u8 48)) fun t18=>
      bnd (cvInt .i64 t18) fun t19=>
      bnd (ibin .add t9 t19) fun t20=>
      decimal_fraction_J3 x0 t20 x5 H0 H)
      (decimal_fraction_J3 x0 t9 x5 H0 H):=(CXM_eq [4,8,9] _ _ _ _).trans (by kernel_rfl)
theorem decimal_fraction_L1_eq (x0 x3 x5:AV) (H0 H:Hp):decimal_fraction_L1 x0 x3 x5 H0 H =
    bnd (ibin .lss x5 (.int .i64 4)) fun t6=>
    cnd t6
      (decimal_fraction_J2 x0 x3 x5 t6 H0 H)
      (decimal_fraction_J1 x3 H0 H):=(LPL_eqm (C:=cfg) [4,8,9] (tame_block 0 (decimal_fraction_K1_tame H0)) _ _).trans (by kernel_rfl)
theorem F_decimal_fraction_eq (p0:AV) (H:Hp):C_decimal_fraction [p0] H = F_decimal_fraction p0 H:=(callw_cxm (C:=cfg) (fn:=Tryz.f226) (c:=bodyOf Tryz.f226) (n:=23) [4,8,9] Tryz.func226 (by kernel_rfl) (by kernel_rfl) [p0] (by kernel_rfl) H).trans (by kernel_rfl)

def F_R05_Upper (p0 p1:AV) (H:Hp):Res:=
  bnd (abox p0 H) fun r2=>
  bnd (aload true 6 r2.1 r2.2) fun t5=>
  bnd (flatC C_R05_valid [t5] r2.2) fun r6=>
  bnd (afieldV false 1 3 r6.1) fun t7=>
  bnd (flatC C_R05_mapped [t7,p1] r6.2) fun r9=>
  some (r9.1,r9.2)
theorem F_R05_Upper_eq (p0 p1:AV) (H:Hp):C_R05_Upper [p0,p1] H = F_R05_Upper p0 p1 H:=(callw_cxm (C:=cfg) (fn:=Tryz.f234) (c:=bodyOf Tryz.f234) (n:=10) [] Tryz.func234 (by kernel_rfl) (by kernel_rfl) [p0,p1] (by kernel_rfl) H).trans (by kernel_rfl)

def F_R05_light (p0:AV) (H:Hp):Res:=
  bnd (ibin .geq p0 (.int .i64 0)) fun t4=>
  bnd (gdv t4 true (.tuple []) (some p0)) fun t6=>
  bnd (gdv t4 true (.tuple []) (ibin .leq t6 (.int .i64 65535))) fun t7=>
  bnd (apick t4 t7 (.bool false)) fun t8=>
  some (t8,H)
theorem F_R05_light_eq (p0:AV) (H:Hp):C_R05_light [p0] H = F_R05_light p0 H:=(callw_cxm (C:=cfg) (fn:=Tryz.f235) (c:=bodyOf Tryz.f235) (n:=9) [] Tryz.func235 (by kernel_rfl) (by kernel_rfl) [p0] (by kernel_rfl) H).trans (by kernel_rfl)

def R05_checkClasses_J2 (H0 H:Hp):Res:=CXgC 236 37 (sub (bodyOf Tryz.f236) [1,1,1]) (retL cfg 37 236 Tryz.f236 H0) [] H
def R05_checkClasses_K1 (H0:Hp):KL:=seqL (fun k al H=>CXgC 236 37 (sub (bodyOf Tryz.f236) [1,1,1]) k (trimL (cfg.keep 236) (sub (bodyOf Tryz.f236) [1,1,1]) al) H) (retL cfg 37 236 Tryz.f236 H0)
theorem R05_checkClasses_K1_tame (H0:Hp):Tame 37 (R05_checkClasses_K1 H0):=tame_seq (C:=cfg) (kp:=cfg.keep 236) (sub (bodyOf Tryz.f236) [1,1,1]) (tame_ret 236 Tryz.f236 H0)
def R05_checkClasses_J4 (x0 x3:AV) (H0 H:Hp):Res:=CXgC 236 37 (sub (bodyOf Tryz.f236) [1,1,0,1,0,0,1,1]) (seqL (fun k al H=>LPgC 236 37 (sub (bodyOf Tryz.f236) [1,1,0,1,0,0]) k (trimL (cfg.keep 236) (sub (bodyOf Tryz.f236) [1,1,0,1,0,0]) al) H) (blockL 0 (R05_checkClasses_K1 H0))) [(0,x0),(3,x3)] H
def R05_checkClasses_K2 (H0:Hp):KL:=seqL (fun k al H=>CXgC 236 37 (sub (bodyOf Tryz.f236) [1,1,0,1,0,0,1,1]) k (trimL (cfg.keep 236) (sub (bodyOf Tryz.f236) [1,1,0,1,0,0,1,1]) al) H) (seqL (fun k al H=>LPgC 236 37 (sub (bodyOf Tryz.f236) [1,1,0,1,0,0]) k (trimL (cfg.keep 236) (sub (bodyOf Tryz.f236) [1,1,0,1,0,0]) al) H) (blockL 0 (R05_checkClasses_K1 H0)))
theorem R05_checkClasses_K2_tame (H0:Hp):Tame 37 (R05_checkClasses_K2 H0):=tame_seq (C:=cfg) (kp:=cfg.keep 236) (sub (bodyOf Tryz.f236) [1,1,0,1,0,0,1,1]) (tame_loop (C:=cfg) (kp:=cfg.keep 236) (sub (bodyOf Tryz.f236) [1,1,0,1,0,0]) (tame_block 0 (R05_checkClasses_K1_tame H0)))
def R05_checkClasses_J7 (x0 x3 x4:AV) (H0 H:Hp):Res:=CXgC 236 37 (sub (bodyOf Tryz.f236) [1,1,0,1,0,0,1,0,0,1,1,0,0,1,1]) (seqL (fun k al H=>LPgC 236 37 (sub (bodyOf Tryz.f236) [1,1,0,1,0,0,1,0,0,1,1,0,0]) k (trimL (cfg.keep 236) (sub (bodyOf Tryz.f236) [1,1,0,1,0,0,1,0,0,1,1,0,0]) al) H) (blockL 2 (blockL 1 (R05_checkClasses_K2 H0)))) [(0,x0),(3,x3),(4,x4)] H
def R05_checkClasses_J6 (x0 x3 x4:AV) (H0 H:Hp):Res:=CXgC 236 37 (sub (bodyOf Tryz.f236) [1,1,0,1,0,0,1,0,0,1,1,0,0,1]) (seqL (fun k al H=>LPgC 236 37 (sub (bodyOf Tryz.f236) [1,1,0,1,0,0,1,0,0,1,1,0,0]) k (trimL (cfg.keep 236) (sub (bodyOf Tryz.f236) [1,1,0,1,0,0,1,0,0,1,1,0,0]) al) H) (blockL 2 (blockL 1 (R05_checkClasses_K2 H0)))) [(0,x0),(3,x3),(4,x4)] H
def R05_checkClasses_L2 (x0 x3 x4:AV) (H0 H:Hp):Res:=LPgC 236 37 (sub (bodyOf Tryz.f236) [1,1,0,1,0,0,1,0,0,1,1,0,0]) (blockL 2 (blockL 1 (R05_checkClasses_K2 H0))) [(0,x0),(3,x3),(4,x4)] H
def R05_checkClasses_J5 (x0 x3:AV) (H0 H:Hp):Res:=CXgC 236 37 (sub (bodyOf Tryz.f236) [1,1,0,1,0,0,1,0,0,1]) (blockL 1 (R05_checkClasses_K2 H0)) [(0,x0),(3,x3)] H
def R05_checkClasses_J3 (x0 x3:AV) (H0 H:Hp):Res:=CXgC 236 37 (sub (bodyOf Tryz.f236) [1,1,0,1,0,0,1]) (seqL (fun k al H=>LPgC 236 37 (sub (bodyOf Tryz.f236) [1,1,0,1,0,0]) k (trimL (cfg.keep 236) (sub (bodyOf Tryz.f236) [1,1,0,1,0,0]) al) H) (blockL 0 (R05_checkClasses_K1 H0))) [(0,x0),(3,x3)] H
def R05_checkClasses_L1 (x0 x3:AV) (H0 H:Hp):Res:=LPgC 236 37 (sub (bodyOf Tryz.f236) [1,1,0,1,0,0]) (blockL 0 (R05_checkClasses_K1 H0)) [(0,x0),(3,x3)] H
def R05_checkClasses_J1 (x0:AV) (H0 H:Hp):Res:=CXgC 236 37 (sub (bodyOf Tryz.f236) [1,1]) (retL cfg 37 236 Tryz.f236 H0) [(0,x0)] H
def F_R05_checkClasses (p0:AV) (H:Hp):Res:=
  bnd (alenD (.slice 264) p0) fun t6=>
  bnd (ibin .gtr t6 (.int .i64 24)) fun t7=>
  cnd t7
    (some ((.int .i64 3),H))
    (R05_checkClasses_J1 p0 H H)
theorem R05_checkClasses_J2_eq (H0 H:Hp):R05_checkClasses_J2 H0 H =
    some ((.int .i64 0),H):=(CXM_eq [3,5,6,8,10,11,13] _ _ _ _).trans (by kernel_rfl)
theorem R05_checkClasses_J4_eq (x0 x3:AV) (H0 H:Hp):R05_checkClasses_J4 x0 x3 H0 H =
    bnd (ibin .add x3 (.int .i64 1)) fun t13=>
    R05_checkClasses_L1 x0 t13 H0 H:=(CXM_eq [3,5,6,8,10,11,13] _ _ _ _).trans (by kernel_rfl)
theorem R05_checkClasses_J7_eq (x0 x3 x4:AV) (H0 H:Hp):R05_checkClasses_J7 x0 x3 x4 H0 H =
    bnd (ibin .add x4 (.int .i64 1)) fun t25=>
    R05_checkClasses_L2 x0 x3 t25 H0 H:=(CXM_eq [3,5,6,8,10,11,13] _ _ _ _).trans (by kernel_rfl)
theorem R05_checkClasses_J6_eq (x0 x3 x4:AV) (H0 H:Hp):R05_checkClasses_J6 x0 x3 x4 H0 H =
    bnd (aindexS 5 x0 x4) fun t28=>
    bnd (afield 0 t28) fun t29=>
    bnd (aload false 1 t29 H) fun t30=>
    bnd (aindexS 5 x0 x3) fun t33=>
    bnd (afield 0 t33) fun t34=>
    bnd (aload false 1 t34 H) fun t35=>
    bnd (sbin .eql t30 t35) fun t36=>
    cnd t36
      (some ((.int .i64 6),H))
      (R05_checkClasses_J7 x0 x3 x4 H0 H):=(CXM_eq [3,5,6,8,10,11,13] _ _ _ _).trans (by kernel_rfl)
theorem R05_checkClasses_L2_eq (x0 x3 x4:AV) (H0 H:Hp):R05_checkClasses_L2 x0 x3 x4 H0 H =
    bnd (ibin .lss x4 x3) fun t23=>
    cnd t23
      (R05_checkClasses_J6 x0 x3 x4 H0 H)
      (R05_checkClasses_J4 x0 x3 H0 H):=(LPL_eqm (C:=cfg) [3,5,6,8,10,11,13] (tame_block 2 (tame_block 1 (R05_checkClasses_K2_tame H0))) _ _).trans (by kernel_rfl)
theorem R05_checkClasses_J5_eq (x0 x3:AV) (H0 H:Hp):R05_checkClasses_J5 x0 x3 H0 H =
    R05_checkClasses_L2 x0 x3 (.int .i64 0) H0 H:=(CXM_eq [3,5,6,8,10,11,13] _ _ _ _).trans (by kernel_rfl)
theorem R05_checkClasses_J3_eq (x0 x3:AV) (H0 H:Hp):R05_checkClasses_J3 x0 x3 H0 H =
    bnd (aindexS 5 x0 x3) fun t16=>
    bnd (afield 0 t16) fun t17=>
    bnd (aload false 1 t17 H) fun t18=>
    bnd (flatC C_R05_IsName [t18] H) fun r19=>
    bnd (aun .not r19.1) fun t20=>
    cnd t20
      (some ((.int .i64 4),r19.2))
      (R05_checkClasses_J5 x0 x3 H0 r19.2):=(CXM_eq [3,5,6,8,10,11,13] _ _ _ _).trans (by kernel_rfl)
theorem R05_checkClasses_L1_eq (x0 x3:AV) (H0 H:Hp):R05_checkClasses_L1 x0 x3 H0 H =
    bnd (alenD (.slice 264) x0) fun t10=>
    bnd (ibin .lss x3 t10) fun t11=>
    cnd t11
      (R05_checkClasses_J3 x0 x3 H0 H)
      (R05_checkClasses_J2 H0 H):=(LPL_eqm (C:=cfg) [3,5,6,8,10,11,13] (tame_block 0 (R05_checkClasses_K1_tame H0)) _ _).trans (by kernel_rfl)
theorem R05_checkClasses_J1_eq (x0:AV) (H0 H:Hp):R05_checkClasses_J1 x0 H0 H =
    R05_checkClasses_L1 x0 (.int .i64 0) H0 H:=(CXM_eq [3,5,6,8,10,11,13] _ _ _ _).trans (by kernel_rfl)
theorem F_R05_checkClasses_eq (p0:AV) (H:Hp):C_R05_checkClasses [p0] H = F_R05_checkClasses p0 H:=(callw_cxm (C:=cfg) (fn:=Tryz.f236) (c:=bodyOf Tryz.f236) (n:=37) [3,5,6,8,10,11,13] Tryz.func236 (by kernel_rfl) (by kernel_rfl) [p0] (by kernel_rfl) H).trans (by kernel_rfl)

def R05_checkElements_J2 (H0 H:Hp):Res:=CXgC 237 46 (sub (bodyOf Tryz.f237) [1,1,1]) (retL cfg 46 237 Tryz.f237 H0) [] H
def R05_checkElements_K1 (H0:Hp):KL:=seqL (fun k al H=>CXgC 237 46 (sub (bodyOf Tryz.f237) [1,1,1]) k (trimL (cfg.keep 237) (sub (bodyOf Tryz.f237) [1,1,1]) al) H) (retL cfg 46 237 Tryz.f237 H0)
theorem R05_checkElements_K1_tame (H0:Hp):Tame 46 (R05_checkElements_K1 H0):=tame_seq (C:=cfg) (kp:=cfg.keep 237) (sub (bodyOf Tryz.f237) [1,1,1]) (tame_ret 237 Tryz.f237 H0)
def R05_checkElements_J4 (x0 x3:AV) (H0 H:Hp):Res:=CXgC 237 46 (sub (bodyOf Tryz.f237) [1,1,0,1,0,0,1,1]) (seqL (fun k al H=>LPgC 237 46 (sub (bodyOf Tryz.f237) [1,1,0,1,0,0]) k (trimL (cfg.keep 237) (sub (bodyOf Tryz.f237) [1,1,0,1,0,0]) al) H) (blockL 0 (R05_checkElements_K1 H0))) [(0,x0),(3,x3)] H
def R05_checkElements_K2 (H0:Hp):KL:=seqL (fun k al H=>CXgC 237 46 (sub (bodyOf Tryz.f237) [1,1,0,1,0,0,1,1]) k (trimL (cfg.keep 237) (sub (bodyOf Tryz.f237) [1,1,0,1,0,0,1,1]) al) H) (seqL (fun k al H=>LPgC 237 46 (sub (bodyOf Tryz.f237) [1,1,0,1,0,0]) k (trimL (cfg.keep 237) (sub (bodyOf Tryz.f237) [1,1,0,1,0,0]) al) H) (blockL 0 (R05_checkElements_K1 H0)))
theorem R05_checkElements_K2_tame (H0:Hp):Tame 46 (R05_checkElements_K2 H0):=tame_seq (C:=cfg) (kp:=cfg.keep 237) (sub (bodyOf Tryz.f237) [1,1,0,1,0,0,1,1]) (tame_loop (C:=cfg) (kp:=cfg.keep 237) (sub (bodyOf Tryz.f237) [1,1,0,1,0,0]) (tame_block 0 (R05_checkElements_K1_tame H0)))
def R05_checkElements_J7 (x0 x3 x4:AV) (H0 H:Hp):Res:=CXgC 237 46 (sub (bodyOf Tryz.f237) [1,1,0,1,0,0,1,0,0,1,1,0,0,1,1]) (seqL (fun k al H=>LPgC 237 46 (sub (bodyOf Tryz.f237) [1,1,0,1,0,0,1,0,0,1,1,0,0]) k (trimL (cfg.keep 237) (sub (bodyOf Tryz.f237) [1,1,0,1,0,0,1,0,0,1,1,0,0]) al) H) (blockL 2 (blockL 1 (R05_checkElements_K2 H0)))) [(0,x0),(3,x3),(4,x4)] H
def R05_checkElements_J6 (x0 x3 x4:AV) (H0 H:Hp):Res:=CXgC 237 46 (sub (bodyOf Tryz.f237) [1,1,0,1,0,0,1,0,0,1,1,0,0,1]) (seqL (fun k al H=>LPgC 237 46 (sub (bodyOf Tryz.f237) [1,1,0,1,0,0,1,0,0,1,1,0,0]) k (trimL (cfg.keep 237) (sub (bodyOf Tryz.f237) [1,1,0,1,0,0,1,0,0,1,1,0,0]) al) H) (blockL 2 (blockL 1 (R05_checkElements_K2 H0)))) [(0,x0),(3,x3),(4,x4)] H
def R05_checkElements_L2 (x0 x3 x4:AV) (H0 H:Hp):Res:=LPgC 237 46 (sub (bodyOf Tryz.f237) [1,1,0,1,0,0,1,0,0,1,1,0,0]) (blockL 2 (blockL 1 (R05_checkElements_K2 H0))) [(0,x0),(3,x3),(4,x4)] H
def R05_checkElements_J5 (x0 x3:AV) (H0 H:Hp):Res:=CXgC 237 46 (sub (bodyOf Tryz.f237) [1,1,0,1,0,0,1,0,0,1]) (blockL 1 (R05_checkElements_K2 H0)) [(0,x0),(3,x3)] H
def R05_checkElements_J3 (x0 x3:AV) (H0 H:Hp):Res:=CXgC 237 46 (sub (bodyOf Tryz.f237) [1,1,0,1,0,0,1]) (seqL (fun k al H=>LPgC 237 46 (sub (bodyOf Tryz.f237) [1,1,0,1,0,0]) k (trimL (cfg.keep 237) (sub (bodyOf Tryz.f237) [1,1,0,1,0,0]) al) H) (blockL 0 (R05_checkElements_K1 H0))) [(0,x0),(3,x3)] H
def R05_checkElements_L1 (x0 x3:AV) (H0 H:Hp):Res:=LPgC 237 46 (sub (bodyOf Tryz.f237) [1,1,0,1,0,0]) (blockL 0 (R05_checkElements_K1 H0)) [(0,x0),(3,x3)] H
def R05_checkElements_J1 (x0:AV) (H0 H:Hp):Res:=CXgC 237 46 (sub (bodyOf Tryz.f237) [1,1]) (retL cfg 46 237 Tryz.f237 H0) [(0,x0)] H
def F_R05_checkElements (p0:AV) (H:Hp):Res:=
  bnd (alenD (.slice 210) p0) fun t6=>
  bnd (ibin .gtr t6 (.int .i64 64)) fun t7=>
  cnd t7
    (some ((.int .i64 3),H))
    (R05_checkElements_J1 p0 H H)
theorem R05_checkElements_J2_eq (H0 H:Hp):R05_checkElements_J2 H0 H =
    some ((.int .i64 0),H):=(CXM_eq [3,5,6,8,10,11,13] _ _ _ _).trans (by kernel_rfl)
theorem R05_checkElements_J4_eq (x0 x3:AV) (H0 H:Hp):R05_checkElements_J4 x0 x3 H0 H =
    bnd (ibin .add x3 (.int .i64 1)) fun t13=>
    R05_checkElements_L1 x0 t13 H0 H:=(CXM_eq [3,5,6,8,10,11,13] _ _ _ _).trans (by kernel_rfl)
theorem R05_checkElements_J7_eq (x0 x3 x4:AV) (H0 H:Hp):R05_checkElements_J7 x0 x3 x4 H0 H =
    bnd (ibin .add x4 (.int .i64 1)) fun t34=>
    R05_checkElements_L2 x0 x3 t34 H0 H:=(CXM_eq [3,5,6,8,10,11,13] _ _ _ _).trans (by kernel_rfl)
theorem R05_checkElements_J6_eq (x0 x3 x4:AV) (H0 H:Hp):R05_checkElements_J6 x0 x3 x4 H0 H =
    bnd (aindexS 2 x0 x4) fun t37=>
    bnd (afield 0 t37) fun t38=>
    bnd (aload false 1 t38 H) fun t39=>
    bnd (aindexS 2 x0 x3) fun t42=>
    bnd (afield 0 t42) fun t43=>
    bnd (aload false 1 t43 H) fun t44=>
    bnd (sbin .eql t39 t44) fun t45=>
    cnd t45
      (some ((.int .i64 6),H))
      (R05_checkElements_J7 x0 x3 x4 H0 H):=(CXM_eq [3,5,6,8,10,11,13] _ _ _ _).trans (by kernel_rfl)
theorem R05_checkElements_L2_eq (x0 x3 x4:AV) (H0 H:Hp):R05_checkElements_L2 x0 x3 x4 H0 H =
    bnd (ibin .lss x4 x3) fun t32=>
    cnd t32
      (R05_checkElements_J6 x0 x3 x4 H0 H)
      (R05_checkElements_J4 x0 x3 H0 H):=(LPL_eqm (C:=cfg) [3,5,6,8,10,11,13] (tame_block 2 (tame_block 1 (R05_checkElements_K2_tame H0))) _ _).trans (by kernel_rfl)
theorem R05_checkElements_J5_eq (x0 x3:AV) (H0 H:Hp):R05_checkElements_J5 x0 x3 H0 H =
    R05_checkElements_L2 x0 x3 (.int .i64 0) H0 H:=(CXM_eq [3,5,6,8,10,11,13] _ _ _ _).trans (by kernel_rfl)
theorem R05_checkElements_J3_eq (x0 x3:AV) (H0 H:Hp):R05_checkElements_J3 x0 x3 H0 H =
    bnd (aindexS 2 x0 x3) fun t16=>
    bnd (afield 0 t16) fun t17=>
    bnd (aload false 1 t17 H) fun t18=>
    bnd (alenD .string t18) fun t19=>
    bnd (ibin .neq t19 (.int .i64 2)) fun t20=>
    bnd (gdv t20 false (.tuple []) (some x0)) fun t22=>
    bnd (gdv t20 false (.tuple []) (some x3)) fun t23=>
    bnd (gdv t20 false (.tuple []) (aindexS 2 t22 t23)) fun t24=>
    bnd (gdv t20 false (.tuple []) (afield 1 t24)) fun t25=>
    bnd (gdv t20 false (.tuple []) (aload false 1 t25 H)) fun t26=>
    bnd (gdv t20 false ((.tuple []),H) (flatC C_R05_light [t26] H)) fun r27=>
    bnd (gdv t20 false (.tuple []) (aun .not r27.1)) fun t28=>
    bnd (apick t20 (.bool true) t28) fun t29=>
    cnd t29
      (some ((.int .i64 2),r27.2))
      (R05_checkElements_J5 x0 x3 H0 r27.2):=(CXM_eq [3,5,6,8,10,11,13] _ _ _ _).trans (by kernel_rfl)
theorem R05_checkElements_L1_eq (x0 x3:AV) (H0 H:Hp):R05_checkElements_L1 x0 x3 H0 H =
    bnd (alenD (.slice 210) x0) fun t10=>
    bnd (ibin .lss x3 t10) fun t11=>
    cnd t11
      (R05_checkElements_J3 x0 x3 H0 H)
      (R05_checkElements_J2 H0 H):=(LPL_eqm (C:=cfg) [3,5,6,8,10,11,13] (tame_block 0 (R05_checkElements_K1_tame H0)) _ _).trans (by kernel_rfl)
theorem R05_checkElements_J1_eq (x0:AV) (H0 H:Hp):R05_checkElements_J1 x0 H0 H =
    R05_checkElements_L1 x0 (.int .i64 0) H0 H:=(CXM_eq [3,5,6,8,10,11,13] _ _ _ _).trans (by kernel_rfl)
theorem F_R05_checkElements_eq (p0:AV) (H:Hp):C_R05_checkElements [p0] H = F_R05_checkElements p0 H:=(callw_cxm (C:=cfg) (fn:=Tryz.f237) (c:=bodyOf Tryz.f237) (n:=46) [3,5,6,8,10,11,13] Tryz.func237 (by kernel_rfl) (by kernel_rfl) [p0] (by kernel_rfl) H).trans (by kernel_rfl)

def R05_mapped_J1 (x5:AV) (H0 H:Hp):Res:=CXgC 252 23 (sub (bodyOf Tryz.f252) [1,1,1]) (retL cfg 23 252 Tryz.f252 H0) [(5,x5)] H
def R05_mapped_K1 (H0:Hp):KL:=seqL (fun k al H=>CXgC 252 23 (sub (bodyOf Tryz.f252) [1,1,1]) k (trimL (cfg.keep 252) (sub (bodyOf Tryz.f252) [1,1,1]) al) H) (retL cfg 23 252 Tryz.f252 H0)
theorem R05_mapped_K1_tame (H0:Hp):Tame 23 (R05_mapped_K1 H0):=tame_seq (C:=cfg) (kp:=cfg.keep 252) (sub (bodyOf Tryz.f252) [1,1,1]) (tame_ret 252 Tryz.f252 H0)
def R05_mapped_J3 (x0 x1 x5 x6:AV) (H0 H:Hp):Res:=CXgC 252 23 (sub (bodyOf Tryz.f252) [1,1,0,1,0,0,1,1]) (seqL (fun k al H=>LPgC 252 23 (sub (bodyOf Tryz.f252) [1,1,0,1,0,0]) k (trimL (cfg.keep 252) (sub (bodyOf Tryz.f252) [1,1,0,1,0,0]) al) H) (blockL 0 (R05_mapped_K1 H0))) [(0,x0),(1,x1),(5,x5),(6,x6)] H
def R05_mapped_J2 (x0 x1 x5 x6:AV) (H0 H:Hp):Res:=CXgC 252 23 (sub (bodyOf Tryz.f252) [1,1,0,1,0,0,1]) (seqL (fun k al H=>LPgC 252 23 (sub (bodyOf Tryz.f252) [1,1,0,1,0,0]) k (trimL (cfg.keep 252) (sub (bodyOf Tryz.f252) [1,1,0,1,0,0]) al) H) (blockL 0 (R05_mapped_K1 H0))) [(0,x0),(1,x1),(5,x5),(6,x6)] H
def R05_mapped_L1 (x0 x1 x5 x6:AV) (H0 H:Hp):Res:=LPgC 252 23 (sub (bodyOf Tryz.f252) [1,1,0,1,0,0]) (blockL 0 (R05_mapped_K1 H0)) [(0,x0),(1,x1),(5,x5),(6,x6)] H
def F_R05_mapped (p0 p1:AV) (H:Hp):Res:=
  R05_mapped_L1 p0 p1 .nils (.int .i64 0) H H
theorem R05_mapped_J1_eq (x5:AV) (H0 H:Hp):R05_mapped_J1 x5 H0 H =
    bnd (cvRd x5 H) fun t22=>
    some (t22,H):=(CXM_eq [4,5,6] _ _ _ _).trans (by kernel_rfl)
theorem R05_mapped_J3_eq (x0 x1 x5 x6:AV) (H0 H:Hp):R05_mapped_J3 x0 x1 x5 x6 H0 H =
    bnd (ibin .add x6 (.int .i64 1)) fun t12=>
    R05_mapped_L1 x0 x1 x5 t12 H0 H:=(CXM_eq [4,5,6] _ _ _ _).trans (by kernel_rfl)
theorem R05_mapped_J2_eq (x0 x1 x5 x6:AV) (H0 H:Hp):R05_mapped_J2 x0 x1 x5 x6 H0 H =
    bnd (aindexStr x1 x6) fun t17=>
    bnd (aindexStr x0 t17) fun t18=>
    bnd ((setElems 1 [(0,t18)] [(.int .u8 0)]).map (.vs 1 .clip)) fun t19=>
    bnd (aappE 1 1 x5 t19 H) fun r20=>
    R05_mapped_J3 x0 x1 r20.1 x6 H0 r20.2:=(CXM_eq [4,5,6] _ _ _ _).trans (by kernel_rfl)
theorem R05_mapped_L1_eq (x0 x1 x5 x6:AV) (H0 H:Hp):R05_mapped_L1 x0 x1 x5 x6 H0 H =
    bnd (alenD .string x1) fun t9=>
    bnd (ibin .lss x6 t9) fun t10=>
    cnd t10
      (R05_mapped_J2 x0 x1 x5 x6 H0 H)
      (R05_mapped_J1 x5 H0 H):=(LPL_eqm (C:=cfg) [4,5,6] (tame_block 0 (R05_mapped_K1_tame H0)) _ _).trans (by kernel_rfl)
theorem F_R05_mapped_eq (p0 p1:AV) (H:Hp):C_R05_mapped [p0,p1] H = F_R05_mapped p0 p1 H:=(callw_cxm (C:=cfg) (fn:=Tryz.f252) (c:=bodyOf Tryz.f252) (n:=23) [4,5,6] Tryz.func252 (by kernel_rfl) (by kernel_rfl) [p0,p1] (by kernel_rfl) H).trans (by kernel_rfl)

end
end Go.Am
