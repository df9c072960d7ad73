/-
  The functions of the translation over the abstract machine, a further part: written by program (wip/gen.py).
-/
import Derived.Test.YtehanadfidoodaaGreatDoorNkGx
namespace Go.Am
open Go.Proofs
set_option maxRecDepth 100000
set_option linter.unusedVariables false
set_option linter.unusedSimpArgs false
noncomputable abbrev CXgL (f n:Nat):=CXL cfg (callw cfg) (LPL cfg (cfg.keep f) n) (cfg.keep f) n seqL blockL
noncomputable abbrev LPgL (f n:Nat):=LPL cfg (cfg.keep f) n
noncomputable section

def L22_RunsSort_J5 (x1 x2 x9 x10:AV) (H0 H:Hp):Res:=CXgL 6 108 (sub (bodyOf Tryz.f6) [1,1,1,1,1,1,1,1,1,1]) (retL cfg 108 6 Tryz.f6 H0) [(1,x1),(2,x2),(9,x9),(10,x10)] H
def L22_RunsSort_K1 (H0:Hp):KL:=seqL (fun k al H=>CXgL 6 108 (sub (bodyOf Tryz.f6) [1,1,1,1,1,1,1,1,1,1]) k (trimL (cfg.keep 6) (sub (bodyOf Tryz.f6) [1,1,1,1,1,1,1,1,1,1]) al) H) (retL cfg 108 6 Tryz.f6 H0)
theorem L22_RunsSort_K1_tame (H0:Hp):Tame 108 (L22_RunsSort_K1 H0):=tame_seq (C:=cfg) (kp:=cfg.keep 6) (sub (bodyOf Tryz.f6) [1,1,1,1,1,1,1,1,1,1]) (tame_ret 6 Tryz.f6 H0)
def L22_RunsSort_J8 (x1 x2 x9 x10 x11:AV) (H0 H:Hp):Res:=CXgL 6 108 (sub (bodyOf Tryz.f6) [1,1,1,1,1,1,1,1,1,0,0,0,1,0,1,1,1]) (blockL 3 (seqL (fun k al H=>LPgL 6 108 (sub (bodyOf Tryz.f6) [1,1,1,1,1,1,1,1,1,0,0,0]) k (trimL (cfg.keep 6) (sub (bodyOf Tryz.f6) [1,1,1,1,1,1,1,1,1,0,0,0]) al) H) (blockL 2 (L22_RunsSort_K1 H0)))) [(1,x1),(2,x2),(9,x9),(10,x10),(11,x11)] H
def L22_RunsSort_J7 (x1 x2 x9 x10 x11 x12:AV) (H0 H:Hp):Res:=CXgL 6 108 (sub (bodyOf Tryz.f6) [1,1,1,1,1,1,1,1,1,0,0,0,1,0,1,1]) (blockL 3 (seqL (fun k al H=>LPgL 6 108 (sub (bodyOf Tryz.f6) [1,1,1,1,1,1,1,1,1,0,0,0]) k (trimL (cfg.keep 6) (sub (bodyOf Tryz.f6) [1,1,1,1,1,1,1,1,1,0,0,0]) al) H) (blockL 2 (L22_RunsSort_K1 H0)))) [(1,x1),(2,x2),(9,x9),(10,x10),(11,x11),(12,x12)] H
def L22_RunsSort_J6 (x1 x2 x9 x10:AV) (H0 H:Hp):Res:=CXgL 6 108 (sub (bodyOf Tryz.f6) [1,1,1,1,1,1,1,1,1,0,0,0,1]) (seqL (fun k al H=>LPgL 6 108 (sub (bodyOf Tryz.f6) [1,1,1,1,1,1,1,1,1,0,0,0]) k (trimL (cfg.keep 6) (sub (bodyOf Tryz.f6) [1,1,1,1,1,1,1,1,1,0,0,0]) al) H) (blockL 2 (L22_RunsSort_K1 H0))) [(1,x1),(2,x2),(9,x9),(10,x10)] H
def L22_RunsSort_L1 (x1 x2 x9 x10:AV) (H0 H:Hp):Res:=LPgL 6 108 (sub (bodyOf Tryz.f6) [1,1,1,1,1,1,1,1,1,0,0,0]) (blockL 2 (L22_RunsSort_K1 H0)) [(1,x1),(2,x2),(9,x9),(10,x10)] H
def L22_RunsSort_J4 (x1 x2 x6 x8:AV) (H0 H:Hp):Res:=CXgL 6 108 (sub (bodyOf Tryz.f6) [1,1,1,1,1,1,1]) (retL cfg 108 6 Tryz.f6 H0) [(1,x1),(2,x2),(6,x6),(8,x8)] H
def L22_RunsSort_J3 (x1 x2 x6:AV) (H0 H:Hp):Res:=CXgL 6 108 (sub (bodyOf Tryz.f6) [1,1,1,1,1]) (retL cfg 108 6 Tryz.f6 H0) [(1,x1),(2,x2),(6,x6)] H
def L22_RunsSort_J2 (x1 x2:AV) (H0 H:Hp):Res:=CXgL 6 108 (sub (bodyOf Tryz.f6) [1,1,1]) (retL cfg 108 6 Tryz.f6 H0) [(1,x1),(2,x2)] H
def L22_RunsSort_K2 (H0:Hp):KL:=seqL (fun k al H=>CXgL 6 108 (sub (bodyOf Tryz.f6) [1,1,1]) k (trimL (cfg.keep 6) (sub (bodyOf Tryz.f6) [1,1,1]) al) H) (retL cfg 108 6 Tryz.f6 H0)
theorem L22_RunsSort_K2_tame (H0:Hp):Tame 108 (L22_RunsSort_K2 H0):=tame_seq (C:=cfg) (kp:=cfg.keep 6) (sub (bodyOf Tryz.f6) [1,1,1]) (tame_ret 6 Tryz.f6 H0)
def L22_RunsSort_J10 (x1 x2 x5:AV) (H0 H:Hp):Res:=CXgL 6 108 (sub (bodyOf Tryz.f6) [1,1,0,1,0,0,1,1]) (seqL (fun k al H=>LPgL 6 108 (sub (bodyOf Tryz.f6) [1,1,0,1,0,0]) k (trimL (cfg.keep 6) (sub (bodyOf Tryz.f6) [1,1,0,1,0,0]) al) H) (blockL 0 (L22_RunsSort_K2 H0))) [(1,x1),(2,x2),(5,x5)] H
def L22_RunsSort_J9 (x1 x2 x5:AV) (H0 H:Hp):Res:=CXgL 6 108 (sub (bodyOf Tryz.f6) [1,1,0,1,0,0,1]) (seqL (fun k al H=>LPgL 6 108 (sub (bodyOf Tryz.f6) [1,1,0,1,0,0]) k (trimL (cfg.keep 6) (sub (bodyOf Tryz.f6) [1,1,0,1,0,0]) al) H) (blockL 0 (L22_RunsSort_K2 H0))) [(1,x1),(2,x2),(5,x5)] H
def L22_RunsSort_L2 (x1 x2 x5:AV) (H0 H:Hp):Res:=LPgL 6 108 (sub (bodyOf Tryz.f6) [1,1,0,1,0,0]) (blockL 0 (L22_RunsSort_K2 H0)) [(1,x1),(2,x2),(5,x5)] H
def L22_RunsSort_J1 (x1 x2:AV) (H0 H:Hp):Res:=CXgL 6 108 (sub (bodyOf Tryz.f6) [1,1]) (retL cfg 108 6 Tryz.f6 H0) [(1,x1),(2,x2)] H
def F_L22_RunsSort (p0 p1:AV) (H:Hp):Res:=
  bnd (abox p0 H) fun r2=>
  bnd (flatC C_L22_small [p1] r2.2) fun r17=>
  bnd (aun .not r17.1) fun t18=>
  bnd (gdv t18 false (.tuple []) (aload true 5 r2.1 r17.2)) fun t20=>
  bnd (gdv t18 false ((.tuple []),r17.2) (flatC C_L22_keyed [t20] r17.2)) fun r21=>
  bnd (gdv t18 false (.tuple []) (aun .not r21.1)) fun t22=>
  bnd (apick t18 (.bool true) t22) fun t23=>
  cnd t23
    (bnd (flatC C_L22_awake [] r21.2) fun r24=>
    some (r24.1,r24.2))
    (L22_RunsSort_J1 p1 r2.1 H r21.2)
theorem L22_RunsSort_J5_eq (x1 x2 x9 x10:AV) (H0 H:Hp):L22_RunsSort_J5 x1 x2 x9 x10 H0 H =
    bnd (C_runs_Reader_Next [x9] H) fun r83=>
    bnd (aext r83.1 0) fun t84=>
    bnd (aext r83.1 1) fun t85=>
    bnd (aext r83.1 2) fun t86=>
    bnd (sbin .eql t84 (.str [])) fun t88=>
    bnd (gdv t88 true (.tuple []) (some t85)) fun t90=>
    bnd (gdv t88 true (.tuple []) (aun .not t90)) fun t91=>
    bnd (apick t88 t91 (.bool false)) fun t92=>
    bnd (gdv t92 true (.tuple []) (some t86)) fun t94=>
    bnd (gdv t92 true (.tuple []) (ibin .eql t94 (.int .i64 0))) fun t95=>
    bnd (apick t92 t95 (.bool false)) fun t96=>
    bnd (gdv t96 true (.tuple []) (some x10)) fun t98=>
    bnd (gdv t96 true ((.tuple []),r83.2) (flatC C_R05_Default [] r83.2)) fun r99=>
    bnd (gdv t96 true (.tuple []) (aload true 5 x2 r99.2)) fun t100=>
    bnd (gdv t96 true (.tuple []) (some x1)) fun t101=>
    bnd (gdv t96 true ((.tuple []),r99.2) (flatC C_memsort_Sort [r99.1,t100,t101] r99.2)) fun r102=>
    bnd (gdv t96 true ((.tuple []),r102.2) (flatC C_L22_SameLines [t98,r102.1] r102.2)) fun r103=>
    bnd (apick t96 r103.1 (.bool false)) fun t104=>
    bnd (gdv t104 true ((.tuple []),r103.2) (flatC C_L22_awake [] r103.2)) fun r106=>
    bnd (apick t104 r106.1 (.bool false)) fun t107=>
    some (t107,r106.2):=(CXM_eq [3,5,6,8,11,14,17,20,21,22] _ _ _ _).trans (by kernel_rfl)
theorem L22_RunsSort_J8_eq (x1 x2 x9 x10 x11:AV) (H0 H:Hp):L22_RunsSort_J8 x1 x2 x9 x10 x11 H0 H =
    bnd ((setElems 1 [(0,x11)] [(.str [])]).map (.vs 1 .clip)) fun t79=>
    bnd (aappE 1 16 x10 t79 H) fun r80=>
    L22_RunsSort_L1 x1 x2 x9 r80.1 H0 r80.2:=(CXM_eq [3,5,6,8,11,14,17,20,21,22] _ _ _ _).trans (by kernel_rfl)
theorem L22_RunsSort_J7_eq (x1 x2 x9 x10 x11 x12:AV) (H0 H:Hp):L22_RunsSort_J7 x1 x2 x9 x10 x11 x12 H0 H =
    bnd (aun .not x12) fun t76=>
    cnd t76
      (L22_RunsSort_J5 x1 x2 x9 x10 H0 H)
      (L22_RunsSort_J8 x1 x2 x9 x10 x11 H0 H):=(CXM_eq [3,5,6,8,11,14,17,20,21,22] _ _ _ _).trans (by kernel_rfl)
theorem L22_RunsSort_J6_eq (x1 x2 x9 x10:AV) (H0 H:Hp):L22_RunsSort_J6 x1 x2 x9 x10 H0 H =
    bnd (C_runs_Reader_Next [x9] H) fun r69=>
    bnd (aext r69.1 0) fun t70=>
    bnd (aext r69.1 1) fun t71=>
    bnd (aext r69.1 2) fun t72=>
    bnd (ibin .neq t72 (.int .i64 0)) fun t74=>
    cnd t74
      (some ((.bool false),r69.2))
      (L22_RunsSort_J7 x1 x2 x9 x10 t70 t71 H0 r69.2):=(CXM_eq [3,5,6,8,11,14,17,20,21,22] _ _ _ _).trans (by kernel_rfl)
theorem L22_RunsSort_L1_eq (x1 x2 x9 x10:AV) (H0 H:Hp):L22_RunsSort_L1 x1 x2 x9 x10 H0 H =
    bnd (alenD (.slice 9) x10) fun t63=>
    bnd (alenD (.slice 9) x1) fun t65=>
    bnd (ibin .leq t63 t65) fun t66=>
    cnd t66
      (L22_RunsSort_J6 x1 x2 x9 x10 H0 H)
      (L22_RunsSort_J5 x1 x2 x9 x10 H0 H):=(LPL_eqm (C:=cfg) [3,5,6,8,11,14,17,20,21,22] (tame_block 2 (L22_RunsSort_K1_tame H0)) _ _).trans (by kernel_rfl)
theorem L22_RunsSort_J4_eq (x1 x2 x6 x8:AV) (H0 H:Hp):L22_RunsSort_J4 x1 x2 x6 x8 H0 H =
    bnd (C_runs_Open [x6,x8] H) fun r61=>
    L22_RunsSort_L1 x1 x2 r61.1 .nils H0 r61.2:=(CXM_eq [3,5,6,8,11,14,17,20,21,22] _ _ _ _).trans (by kernel_rfl)
theorem L22_RunsSort_J3_eq (x1 x2 x6:AV) (H0 H:Hp):L22_RunsSort_J3 x1 x2 x6 H0 H =
    bnd (flatC C_R05_Default [] H) fun r51=>
    bnd (aload true 5 x2 r51.2) fun t52=>
    bnd (C_runs_Write [x6,r51.1,t52,x1] r51.2) fun r54=>
    bnd (aext r54.1 0) fun t55=>
    bnd (aext r54.1 1) fun t56=>
    bnd (ibin .neq t56 (.int .i64 0)) fun t58=>
    cnd t58
      (some ((.bool false),r54.2))
      (L22_RunsSort_J4 x1 x2 x6 t55 H0 r54.2):=(CXM_eq [3,5,6,8,11,14,17,20,21,22] _ _ _ _).trans (by kernel_rfl)
theorem L22_RunsSort_J2_eq (x1 x2:AV) (H0 H:Hp):L22_RunsSort_J2 x1 x2 H0 H =
    bnd (C_store_New [(.int .i64 262144)] H) fun r39=>
    bnd (C_tempfile_Open [r39.1,(.str [98]),(.int .i64 262144)] r39.2) fun r40=>
    bnd (aext r40.1 0) fun t41=>
    bnd (aext r40.1 1) fun t42=>
    bnd (ibin .neq t42 (.int .i64 0)) fun t44=>
    bnd (gdv t44 false (.tuple []) (some t41)) fun t46=>
    bnd (gdv t44 false (.tuple []) (ebin (.pointer 117) .eql t46 .nilp)) fun t47=>
    bnd (apick t44 (.bool true) t47) fun t48=>
    cnd t48
      (some ((.bool false),r40.2))
      (L22_RunsSort_J3 x1 x2 t41 H0 r40.2):=(CXM_eq [3,5,6,8,11,14,17,20,21,22] _ _ _ _).trans (by kernel_rfl)
theorem L22_RunsSort_J10_eq (x1 x2 x5:AV) (H0 H:Hp):L22_RunsSort_J10 x1 x2 x5 H0 H =
    bnd (ibin .add x5 (.int .i64 1)) fun t30=>
    L22_RunsSort_L2 x1 x2 t30 H0 H:=(CXM_eq [3,5,6,8,11,14,17,20,21,22] _ _ _ _).trans (by kernel_rfl)
theorem L22_RunsSort_J9_eq (x1 x2 x5:AV) (H0 H:Hp):L22_RunsSort_J9 x1 x2 x5 H0 H =
    bnd (aindexS 1 x1 x5) fun t33=>
    bnd (aload false 1 t33 H) fun t34=>
    bnd (alenD .string t34) fun t35=>
    bnd (ibin .gtr t35 (.int .i64 4096)) fun t36=>
    cnd t36
      (bnd (flatC C_L22_awake [] H) fun r37=>
      some (r37.1,r37.2))
      (L22_RunsSort_J10 x1 x2 x5 H0 H):=(CXM_eq [3,5,6,8,11,14,17,20,21,22] _ _ _ _).trans (by kernel_rfl)
theorem L22_RunsSort_L2_eq (x1 x2 x5:AV) (H0 H:Hp):L22_RunsSort_L2 x1 x2 x5 H0 H =
    bnd (alenD (.slice 9) x1) fun t27=>
    bnd (ibin .lss x5 t27) fun t28=>
    cnd t28
      (L22_RunsSort_J9 x1 x2 x5 H0 H)
      (L22_RunsSort_J2 x1 x2 H0 H):=(LPL_eqm (C:=cfg) [3,5,6,8,11,14,17,20,21,22] (tame_block 0 (L22_RunsSort_K2_tame H0)) _ _).trans (by kernel_rfl)
theorem L22_RunsSort_J1_eq (x1 x2:AV) (H0 H:Hp):L22_RunsSort_J1 x1 x2 H0 H =
    L22_RunsSort_L2 x1 x2 (.int .i64 0) H0 H:=(CXM_eq [3,5,6,8,11,14,17,20,21,22] _ _ _ _).trans (by kernel_rfl)
theorem F_L22_RunsSort_eq (p0 p1:AV) (H:Hp):C_L22_RunsSort [p0,p1] H = F_L22_RunsSort p0 p1 H:=(callw_cxm (C:=cfg) (fn:=Tryz.f6) (c:=bodyOf Tryz.f6) (n:=108) [3,5,6,8,11,14,17,20,21,22] Tryz.func6 (by kernel_rfl) (by kernel_rfl) [p0,p1] (by kernel_rfl) H).trans (by kernel_rfl)

def L22_small_J1 (x3:AV) (H0 H:Hp):Res:=CXgL 26 30 (sub (bodyOf Tryz.f26) [1,1,1]) (retL cfg 30 26 Tryz.f26 H0) [(3,x3)] H
def L22_small_K1 (H0:Hp):KL:=seqL (fun k al H=>CXgL 26 30 (sub (bodyOf Tryz.f26) [1,1,1]) k (trimL (cfg.keep 26) (sub (bodyOf Tryz.f26) [1,1,1]) al) H) (retL cfg 30 26 Tryz.f26 H0)
theorem L22_small_K1_tame (H0:Hp):Tame 30 (L22_small_K1 H0):=tame_seq (C:=cfg) (kp:=cfg.keep 26) (sub (bodyOf Tryz.f26) [1,1,1]) (tame_ret 26 Tryz.f26 H0)
def L22_small_J3 (x0 x3 x4:AV) (H0 H:Hp):Res:=CXgL 26 30 (sub (bodyOf Tryz.f26) [1,1,0,1,0,0,1,1]) (seqL (fun k al H=>LPgL 26 30 (sub (bodyOf Tryz.f26) [1,1,0,1,0,0]) k (trimL (cfg.keep 26) (sub (bodyOf Tryz.f26) [1,1,0,1,0,0]) al) H) (blockL 0 (L22_small_K1 H0))) [(0,x0),(3,x3),(4,x4)] H
def L22_small_K2 (H0:Hp):KL:=seqL (fun k al H=>CXgL 26 30 (sub (bodyOf Tryz.f26) [1,1,0,1,0,0,1,1]) k (trimL (cfg.keep 26) (sub (bodyOf Tryz.f26) [1,1,0,1,0,0,1,1]) al) H) (seqL (fun k al H=>LPgL 26 30 (sub (bodyOf Tryz.f26) [1,1,0,1,0,0]) k (trimL (cfg.keep 26) (sub (bodyOf Tryz.f26) [1,1,0,1,0,0]) al) H) (blockL 0 (L22_small_K1 H0)))
def L22_small_J4 (x0 x3 x4:AV) (H0 H:Hp):Res:=CXgL 26 30 (sub (bodyOf Tryz.f26) [1,1,0,1,0,0,1,0,0,1]) (blockL 1 (L22_small_K2 H0)) [(0,x0),(3,x3),(4,x4)] H
def L22_small_J2 (x0 x3 x4:AV) (H0 H:Hp):Res:=CXgL 26 30 (sub (bodyOf Tryz.f26) [1,1,0,1,0,0,1]) (seqL (fun k al H=>LPgL 26 30 (sub (bodyOf Tryz.f26) [1,1,0,1,0,0]) k (trimL (cfg.keep 26) (sub (bodyOf Tryz.f26) [1,1,0,1,0,0]) al) H) (blockL 0 (L22_small_K1 H0))) [(0,x0),(3,x3),(4,x4)] H
def L22_small_L1 (x0 x3 x4:AV) (H0 H:Hp):Res:=LPgL 26 30 (sub (bodyOf Tryz.f26) [1,1,0,1,0,0]) (blockL 0 (L22_small_K1 H0)) [(0,x0),(3,x3),(4,x4)] H
def F_L22_small (p0:AV) (H:Hp):Res:=
  L22_small_L1 p0 (.int .i64 0) (.int .i64 0) H H
theorem L22_small_J1_eq (x3:AV) (H0 H:Hp):L22_small_J1 x3 H0 H =
    bnd (ibin .leq x3 (.int .i64 5000)) fun t29=>
    some (t29,H):=(CXM_eq [4,5,7,8] _ _ _ _).trans (by kernel_rfl)
theorem L22_small_J3_eq (x0 x3 x4:AV) (H0 H:Hp):L22_small_J3 x0 x3 x4 H0 H =
    bnd (ibin .add x4 (.int .i64 1)) fun t10=>
    L22_small_L1 x0 x3 t10 H0 H:=(CXM_eq [4,5,7,8] _ _ _ _).trans (by kernel_rfl)
theorem L22_small_J4_eq (x0 x3 x4:AV) (H0 H:Hp):L22_small_J4 x0 x3 x4 H0 H =
    bnd (aindexS 1 x0 x4) fun t24=>
    bnd (aload false 1 t24 H) fun t25=>
    bnd (alenD .string t25) fun t26=>
    bnd (ibin .add x3 t26) fun t27=>
    L22_small_J3 x0 t27 x4 H0 H:=(CXM_eq [4,5,7,8] _ _ _ _).trans (by kernel_rfl)
theorem L22_small_J2_eq (x0 x3 x4:AV) (H0 H:Hp):L22_small_J2 x0 x3 x4 H0 H =
    bnd (ibin .geq x4 (.int .i64 12)) fun t12=>
    bnd (gdv t12 false (.tuple []) (some x0)) fun t14=>
    bnd (gdv t12 false (.tuple []) (some x4)) fun t15=>
    bnd (gdv t12 false (.tuple []) (aindexS 1 t14 t15)) fun t16=>
    bnd (gdv t12 false (.tuple []) (aload false 1 t16 H)) fun t17=>
    bnd (gdv t12 false (.tuple []) (alenD .string t17)) fun t18=>
    bnd (gdv t12 false (.tuple []) (ibin .gtr t18 (.int .i64 5000))) fun t19=>
    bnd (apick t12 (.bool true) t19) fun t20=>
    cnd t20
      (some ((.bool false),H))
      (L22_small_J4 x0 x3 x4 H0 H):=(CXM_eq [4,5,7,8] _ _ _ _).trans (by kernel_rfl)
theorem L22_small_L1_eq (x0 x3 x4:AV) (H0 H:Hp):L22_small_L1 x0 x3 x4 H0 H =
    bnd (alenD (.slice 9) x0) fun t7=>
    bnd (ibin .lss x4 t7) fun t8=>
    cnd t8
      (L22_small_J2 x0 x3 x4 H0 H)
      (L22_small_J1 x3 H0 H):=(LPL_eqm (C:=cfg) [4,5,7,8] (tame_block 0 (L22_small_K1_tame H0)) _ _).trans (by kernel_rfl)
theorem F_L22_small_eq (p0:AV) (H:Hp):C_L22_small [p0] H = F_L22_small p0 H:=(callw_cxm (C:=cfg) (fn:=Tryz.f26) (c:=bodyOf Tryz.f26) (n:=30) [4,5,7,8] Tryz.func26 (by kernel_rfl) (by kernel_rfl) [p0] (by kernel_rfl) H).trans (by kernel_rfl)

def F_L22_keyed (p0:AV) (H:Hp):Res:=
  bnd (abox p0 H) fun r1=>
  bnd (afield 0 r1.1) fun t3=>
  bnd (aload false 1 t3 r1.2) fun t4=>
  bnd (alenD (.slice 149) t4) fun t5=>
  bnd (ibin .leq t5 (.int .i64 4)) fun t6=>
  some (t6,r1.2)
theorem F_L22_keyed_eq (p0:AV) (H:Hp):C_L22_keyed [p0] H = F_L22_keyed p0 H:=(callw_cxm (C:=cfg) (fn:=Tryz.f27) (c:=bodyOf Tryz.f27) (n:=7) [] Tryz.func27 (by kernel_rfl) (by kernel_rfl) [p0] (by kernel_rfl) H).trans (by kernel_rfl)

def runs_Write_J4 (x10:AV) (H0 H:Hp):Res:=CXgL 30 39 (sub (bodyOf Tryz.f30) [1,1,1,1,1,1]) (retL cfg 39 30 Tryz.f30 H0) [(10,x10)] H
def runs_Write_J3 (x0 x10:AV) (H0 H:Hp):Res:=CXgL 30 39 (sub (bodyOf Tryz.f30) [1,1,1,1,1]) (retL cfg 39 30 Tryz.f30 H0) [(0,x0),(10,x10)] H
def runs_Write_J2 (x0 x3 x5 x6 x10:AV) (H0 H:Hp):Res:=CXgL 30 39 (sub (bodyOf Tryz.f30) [1,1,1,1]) (retL cfg 39 30 Tryz.f30 H0) [(0,x0),(3,x3),(5,x5),(6,x6),(10,x10)] H
def runs_Write_J1 (x0 x3 x5 x6:AV) (H0 H:Hp):Res:=CXgL 30 39 (sub (bodyOf Tryz.f30) [1,1]) (retL cfg 39 30 Tryz.f30 H0) [(0,x0),(3,x3),(5,x5),(6,x6)] H
def F_runs_Write (p0 p1 p2 p3:AV) (H:Hp):Res:=
  bnd (abox p1 H) fun r5=>
  bnd (abox p2 r5.2) fun r6=>
  bnd (ebin (.pointer 117) .eql p0 .nilp) fun t13=>
  cnd t13
    (some ((.tuple [(.str []),(.int .i64 5)]),r6.2))
    (runs_Write_J1 p0 p3 r5.1 r6.1 H r6.2)
theorem runs_Write_J4_eq (x10:AV) (H0 H:Hp):runs_Write_J4 x10 H0 H =
    some ((.tuple [x10,(.int .i64 0)]),H):=(CXM_eq [3,6,9,12] _ _ _ _).trans (by kernel_rfl)
theorem runs_Write_J3_eq (x0 x10:AV) (H0 H:Hp):runs_Write_J3 x0 x10 H0 H =
    bnd (C_tempfile_Temps_Seal [x0,x10] H) fun r34=>
    bnd (ibin .neq r34.1 (.int .i64 0)) fun t36=>
    cnd t36
      (some ((.tuple [(.str []),r34.1]),r34.2))
      (runs_Write_J4 x10 H0 r34.2):=(CXM_eq [3,6,9,12] _ _ _ _).trans (by kernel_rfl)
theorem runs_Write_J2_eq (x0 x3 x5 x6 x10:AV) (H0 H:Hp):runs_Write_J2 x0 x3 x5 x6 x10 H0 H =
    bnd (aload true 6 x5 H) fun t24=>
    bnd (aload true 5 x6 H) fun t25=>
    bnd (flatC C_memsort_Sort [t24,t25,x3] H) fun r27=>
    bnd (C_tempfile_Temps_Write [x0,x10,r27.1] r27.2) fun r28=>
    bnd (ibin .neq r28.1 (.int .i64 0)) fun t30=>
    cnd t30
      (some ((.tuple [(.str []),r28.1]),r28.2))
      (runs_Write_J3 x0 x10 H0 r28.2):=(CXM_eq [3,6,9,12] _ _ _ _).trans (by kernel_rfl)
theorem runs_Write_J1_eq (x0 x3 x5 x6:AV) (H0 H:Hp):runs_Write_J1 x0 x3 x5 x6 H0 H =
    bnd (C_tempfile_Temps_New [x0] H) fun r16=>
    bnd (aext r16.1 0) fun t17=>
    bnd (aext r16.1 1) fun t18=>
    bnd (ibin .neq t18 (.int .i64 0)) fun t20=>
    cnd t20
      (some ((.tuple [(.str []),t18]),r16.2))
      (runs_Write_J2 x0 x3 x5 x6 t17 H0 r16.2):=(CXM_eq [3,6,9,12] _ _ _ _).trans (by kernel_rfl)
theorem F_runs_Write_eq (p0 p1 p2 p3:AV) (H:Hp):C_runs_Write [p0,p1,p2,p3] H = F_runs_Write p0 p1 p2 p3 H:=(callw_cxm (C:=cfg) (fn:=Tryz.f30) (c:=bodyOf Tryz.f30) (n:=39) [3,6,9,12] Tryz.func30 (by kernel_rfl) (by kernel_rfl) [p0,p1,p2,p3] (by kernel_rfl) H).trans (by kernel_rfl)

def runs_Open_J1 (x0 x1:AV) (H0 H:Hp):Res:=CXgL 32 11 (sub (bodyOf Tryz.f32) [1,1]) (retL cfg 11 32 Tryz.f32 H0) [(0,x0),(1,x1)] H
def F_runs_Open (p0 p1:AV) (H:Hp):Res:=
  bnd (ebin (.pointer 117) .eql p0 .nilp) fun t6=>
  cnd t6
    (some (.nilp,H))
    (runs_Open_J1 p0 p1 H H)
theorem runs_Open_J1_eq (x0 x1:AV) (H0 H:Hp):runs_Open_J1 x0 x1 H0 H =
    bnd ((afill [(0,1,x0),(1,1,x1)] [.nilp,(.str []),(.int .i64 0),(.bool false),(.bool false),(.str [])]).map .agg) fun t9=>
    bnd (abox t9 H) fun r10=>
    some (r10.1,r10.2):=(CXM_eq [3] _ _ _ _).trans (by kernel_rfl)
theorem F_runs_Open_eq (p0 p1:AV) (H:Hp):C_runs_Open [p0,p1] H = F_runs_Open p0 p1 H:=(callw_cxm (C:=cfg) (fn:=Tryz.f32) (c:=bodyOf Tryz.f32) (n:=11) [3] Tryz.func32 (by kernel_rfl) (by kernel_rfl) [p0,p1] (by kernel_rfl) H).trans (by kernel_rfl)

def runs_Reader_Next_J1 (x5 x6 x7:AV) (H0 H:Hp):Res:=CXgL 33 24 (sub (bodyOf Tryz.f33) [1,1,1]) (retL cfg 24 33 Tryz.f33 H0) [(5,x5),(6,x6),(7,x7)] H
def F_runs_Reader_Next (p0:AV) (H:Hp):Res:=
  bnd (C_runs_Reader_Peek [p0] H) fun r10=>
  bnd (aext r10.1 0) fun t11=>
  bnd (aext r10.1 1) fun t12=>
  bnd (aext r10.1 2) fun t13=>
  cnd t12
    (bnd (anil p0) fun t17=>
    bnd (afield 3 t17) fun t18=>
    bnd (astoreU 1 t18 (.bool false) r10.2) fun r_7=>
    bnd (anil p0) fun t19=>
    bnd (afield 5 t19) fun t20=>
    bnd (astoreU 1 t20 (.str []) r_7.2) fun r_10=>
    runs_Reader_Next_J1 t11 t12 t13 H r_10.2)
    (runs_Reader_Next_J1 t11 t12 t13 H r10.2)
theorem runs_Reader_Next_J1_eq (x5 x6 x7:AV) (H0 H:Hp):runs_Reader_Next_J1 x5 x6 x7 H0 H =
    some ((.tuple [x5,x6,x7]),H):=(CXM_eq [4] _ _ _ _).trans (by kernel_rfl)
theorem F_runs_Reader_Next_eq (p0:AV) (H:Hp):C_runs_Reader_Next [p0] H = F_runs_Reader_Next p0 H:=(callw_cxm (C:=cfg) (fn:=Tryz.f33) (c:=bodyOf Tryz.f33) (n:=24) [4] Tryz.func33 (by kernel_rfl) (by kernel_rfl) [p0] (by kernel_rfl) H).trans (by kernel_rfl)

def runs_Reader_Peek_J3 (x0:AV) (H0 H:Hp):Res:=CXgL 36 68 (sub (bodyOf Tryz.f36) [1,1,1,1]) (retL cfg 68 36 Tryz.f36 H0) [(0,x0)] H
def runs_Reader_Peek_J2 (x0:AV) (H0 H:Hp):Res:=CXgL 36 68 (sub (bodyOf Tryz.f36) [1,1,1]) (retL cfg 68 36 Tryz.f36 H0) [(0,x0)] H
def runs_Reader_Peek_J1 (x0:AV) (H0 H:Hp):Res:=CXgL 36 68 (sub (bodyOf Tryz.f36) [1,1]) (retL cfg 68 36 Tryz.f36 H0) [(0,x0)] H
def F_runs_Reader_Peek (p0:AV) (H:Hp):Res:=
  bnd (ebin (.pointer 125) .eql p0 .nilp) fun t9=>
  cnd t9
    (some ((.tuple [(.str []),(.bool false),(.int .i64 5)]),H))
    (runs_Reader_Peek_J1 p0 H H)
theorem runs_Reader_Peek_J3_eq (x0:AV) (H0 H:Hp):runs_Reader_Peek_J3 x0 H0 H =
    bnd (anil x0) fun t65=>
    bnd (afield 5 t65) fun t66=>
    bnd (aload false 1 t66 H) fun t67=>
    some ((.tuple [t67,(.bool true),(.int .i64 0)]),H):=(CXM_eq [3,11,13] _ _ _ _).trans (by kernel_rfl)
theorem runs_Reader_Peek_J2_eq (x0:AV) (H0 H:Hp):runs_Reader_Peek_J2 x0 H0 H =
    bnd (anil x0) fun t60=>
    bnd (afield 3 t60) fun t61=>
    bnd (aload false 1 t61 H) fun t62=>
    bnd (aun .not t62) fun t63=>
    cnd t63
      (some ((.tuple [(.str []),(.bool false),(.int .i64 0)]),H))
      (runs_Reader_Peek_J3 x0 H0 H):=(CXM_eq [3,11,13] _ _ _ _).trans (by kernel_rfl)
theorem runs_Reader_Peek_J1_eq (x0:AV) (H0 H:Hp):runs_Reader_Peek_J1 x0 H0 H =
    bnd (anil x0) fun t11=>
    bnd (afield 3 t11) fun t12=>
    bnd (aload false 1 t12 H) fun t13=>
    bnd (aun .not t13) fun t14=>
    bnd (gdv t14 true (.tuple []) (some x0)) fun t16=>
    bnd (gdv t14 true (.tuple []) (anil t16)) fun t17=>
    bnd (gdv t14 true (.tuple []) (afield 4 t17)) fun t18=>
    bnd (gdv t14 true (.tuple []) (aload false 1 t18 H)) fun t19=>
    bnd (gdv t14 true (.tuple []) (aun .not t19)) fun t20=>
    bnd (apick t14 t20 (.bool false)) fun t21=>
    cnd t21
      (bnd (anil x0) fun t24=>
      bnd (afield 0 t24) fun t25=>
      bnd (aload false 1 t25 H) fun t26=>
      bnd (anil x0) fun t28=>
      bnd (afield 1 t28) fun t29=>
      bnd (aload false 1 t29 H) fun t30=>
      bnd (anil x0) fun t32=>
      bnd (afield 2 t32) fun t33=>
      bnd (aload false 1 t33 H) fun t34=>
      bnd (C_tempfile_Temps_Read [t26,t30,t34] H) fun r35=>
      bnd (aext r35.1 0) fun t36=>
      bnd (aext r35.1 1) fun t37=>
      bnd (aext r35.1 2) fun t38=>
      bnd (ibin .eql t38 (.int .i64 0)) fun t42=>
      cnd t42
        (bnd (anil x0) fun t48=>
        bnd (afield 5 t48) fun t49=>
        bnd (astoreU 1 t49 t36 r35.2) fun r_34=>
        bnd (anil x0) fun t50=>
        bnd (afield 2 t50) fun t51=>
        bnd (astoreU 1 t51 t37 r_34.2) fun r_37=>
        bnd (anil x0) fun t52=>
        bnd (afield 3 t52) fun t53=>
        bnd (astoreU 1 t53 (.bool true) r_37.2) fun r_40=>
        runs_Reader_Peek_J2 x0 H0 r_40.2)
        (bnd (ibin .eql t38 (.int .i64 5)) fun t55=>
        cnd t55
          (bnd (anil x0) fun t57=>
          bnd (afield 4 t57) fun t58=>
          bnd (astoreU 1 t58 (.bool true) r35.2) fun r_44=>
          runs_Reader_Peek_J2 x0 H0 r_44.2)
          (some ((.tuple [(.str []),(.bool false),t38]),r35.2))))
      (runs_Reader_Peek_J2 x0 H0 H):=(CXM_eq [3,11,13] _ _ _ _).trans (by kernel_rfl)
theorem F_runs_Reader_Peek_eq (p0:AV) (H:Hp):C_runs_Reader_Peek [p0] H = F_runs_Reader_Peek p0 H:=(callw_cxm (C:=cfg) (fn:=Tryz.f36) (c:=bodyOf Tryz.f36) (n:=68) [3,11,13] Tryz.func36 (by kernel_rfl) (by kernel_rfl) [p0] (by kernel_rfl) H).trans (by kernel_rfl)

end
end Go.Am
