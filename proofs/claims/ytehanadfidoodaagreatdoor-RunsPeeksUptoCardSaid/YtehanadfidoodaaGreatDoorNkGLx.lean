/-
  The functions of the translation over the abstract machine, a further part: written by program (wip/gen.py).
-/
import Derived.Test.YtehanadfidoodaaGreatDoorNkGx
namespace Go.Am
open Go.Proofs
set_option maxRecDepth 100000
set_option linter.unusedVariables false
set_option linter.unusedSimpArgs false
noncomputable abbrev CXgL (f n:Nat):=CXL cfg (callw cfg) (LPL cfg (cfg.keep f) n) (cfg.keep f) n seqL blockL
noncomputable abbrev LPgL (f n:Nat):=LPL cfg (cfg.keep f) n
noncomputable section

def L22_RunsPeeks_J5 (H0 H:Hp):Res:=CXgL 7 160 (sub (bodyOf Tryz.f7) [1,1,1,1,1,1,1,1,1,1]) (retL cfg 160 7 Tryz.f7 H0) [] H
def L22_RunsPeeks_K1 (H0:Hp):KL:=seqL (fun k al H=>CXgL 7 160 (sub (bodyOf Tryz.f7) [1,1,1,1,1,1,1,1,1,1]) k (trimL (cfg.keep 7) (sub (bodyOf Tryz.f7) [1,1,1,1,1,1,1,1,1,1]) al) H) (retL cfg 160 7 Tryz.f7 H0)
theorem L22_RunsPeeks_K1_tame (H0:Hp):Tame 160 (L22_RunsPeeks_K1 H0):=tame_seq (C:=cfg) (kp:=cfg.keep 7) (sub (bodyOf Tryz.f7) [1,1,1,1,1,1,1,1,1,1]) (tame_ret 7 Tryz.f7 H0)
def L22_RunsPeeks_J7 (x0 x1 x2 x8 x12 x13 x14:AV) (H0 H:Hp):Res:=CXgL 7 160 (sub (bodyOf Tryz.f7) [1,1,1,1,1,1,1,1,1,0,1,0,0,1,1]) (seqL (fun k al H=>LPgL 7 160 (sub (bodyOf Tryz.f7) [1,1,1,1,1,1,1,1,1,0,1,0,0]) k (trimL (cfg.keep 7) (sub (bodyOf Tryz.f7) [1,1,1,1,1,1,1,1,1,0,1,0,0]) al) H) (blockL 2 (L22_RunsPeeks_K1 H0))) [(0,x0),(1,x1),(2,x2),(8,x8),(12,x12),(13,x13),(14,x14)] H
def L22_RunsPeeks_K2 (H0:Hp):KL:=seqL (fun k al H=>CXgL 7 160 (sub (bodyOf Tryz.f7) [1,1,1,1,1,1,1,1,1,0,1,0,0,1,1]) k (trimL (cfg.keep 7) (sub (bodyOf Tryz.f7) [1,1,1,1,1,1,1,1,1,0,1,0,0,1,1]) al) H) (seqL (fun k al H=>LPgL 7 160 (sub (bodyOf Tryz.f7) [1,1,1,1,1,1,1,1,1,0,1,0,0]) k (trimL (cfg.keep 7) (sub (bodyOf Tryz.f7) [1,1,1,1,1,1,1,1,1,0,1,0,0]) al) H) (blockL 2 (L22_RunsPeeks_K1 H0)))
def L22_RunsPeeks_J9 (x0 x1 x2 x8 x12 x13 x14 x18 x19 x20:AV) (H0 H:Hp):Res:=CXgL 7 160 (sub (bodyOf Tryz.f7) [1,1,1,1,1,1,1,1,1,0,1,0,0,1,0,0,1,1,1]) (blockL 3 (L22_RunsPeeks_K2 H0)) [(0,x0),(1,x1),(2,x2),(8,x8),(12,x12),(13,x13),(14,x14),(18,x18),(19,x19),(20,x20)] H
def L22_RunsPeeks_J8 (x0 x1 x2 x8 x12 x13 x14:AV) (H0 H:Hp):Res:=CXgL 7 160 (sub (bodyOf Tryz.f7) [1,1,1,1,1,1,1,1,1,0,1,0,0,1,0,0,1]) (blockL 3 (L22_RunsPeeks_K2 H0)) [(0,x0),(1,x1),(2,x2),(8,x8),(12,x12),(13,x13),(14,x14)] H
def L22_RunsPeeks_K3 (H0:Hp):KL:=seqL (fun k al H=>CXgL 7 160 (sub (bodyOf Tryz.f7) [1,1,1,1,1,1,1,1,1,0,1,0,0,1,0,0,1]) k (trimL (cfg.keep 7) (sub (bodyOf Tryz.f7) [1,1,1,1,1,1,1,1,1,0,1,0,0,1,0,0,1]) al) H) (blockL 3 (L22_RunsPeeks_K2 H0))
def L22_RunsPeeks_J10 (x0 x1 x2 x8 x12 x13 x14:AV) (H0 H:Hp):Res:=CXgL 7 160 (sub (bodyOf Tryz.f7) [1,1,1,1,1,1,1,1,1,0,1,0,0,1,0,0,0,1,0,1,1]) (L22_RunsPeeks_K3 H0) [(0,x0),(1,x1),(2,x2),(8,x8),(12,x12),(13,x13),(14,x14)] H
def L22_RunsPeeks_J6 (x0 x1 x2 x8 x12 x13 x14:AV) (H0 H:Hp):Res:=CXgL 7 160 (sub (bodyOf Tryz.f7) [1,1,1,1,1,1,1,1,1,0,1,0,0,1]) (seqL (fun k al H=>LPgL 7 160 (sub (bodyOf Tryz.f7) [1,1,1,1,1,1,1,1,1,0,1,0,0]) k (trimL (cfg.keep 7) (sub (bodyOf Tryz.f7) [1,1,1,1,1,1,1,1,1,0,1,0,0]) al) H) (blockL 2 (L22_RunsPeeks_K1 H0))) [(0,x0),(1,x1),(2,x2),(8,x8),(12,x12),(13,x13),(14,x14)] H
def L22_RunsPeeks_L1 (x0 x1 x2 x8 x12 x13 x14:AV) (H0 H:Hp):Res:=LPgL 7 160 (sub (bodyOf Tryz.f7) [1,1,1,1,1,1,1,1,1,0,1,0,0]) (blockL 2 (L22_RunsPeeks_K1 H0)) [(0,x0),(1,x1),(2,x2),(8,x8),(12,x12),(13,x13),(14,x14)] H
def L22_RunsPeeks_J4 (x0 x1 x2 x8 x9 x11:AV) (H0 H:Hp):Res:=CXgL 7 160 (sub (bodyOf Tryz.f7) [1,1,1,1,1,1,1,1]) (retL cfg 160 7 Tryz.f7 H0) [(0,x0),(1,x1),(2,x2),(8,x8),(9,x9),(11,x11)] H
def L22_RunsPeeks_J3 (x0 x1 x2 x8 x9:AV) (H0 H:Hp):Res:=CXgL 7 160 (sub (bodyOf Tryz.f7) [1,1,1,1,1,1]) (retL cfg 160 7 Tryz.f7 H0) [(0,x0),(1,x1),(2,x2),(8,x8),(9,x9)] H
def L22_RunsPeeks_J2 (x0 x1 x2:AV) (H0 H:Hp):Res:=CXgL 7 160 (sub (bodyOf Tryz.f7) [1,1,1]) (retL cfg 160 7 Tryz.f7 H0) [(0,x0),(1,x1),(2,x2)] H
def L22_RunsPeeks_K4 (H0:Hp):KL:=seqL (fun k al H=>CXgL 7 160 (sub (bodyOf Tryz.f7) [1,1,1]) k (trimL (cfg.keep 7) (sub (bodyOf Tryz.f7) [1,1,1]) al) H) (retL cfg 160 7 Tryz.f7 H0)
theorem L22_RunsPeeks_K4_tame (H0:Hp):Tame 160 (L22_RunsPeeks_K4 H0):=tame_seq (C:=cfg) (kp:=cfg.keep 7) (sub (bodyOf Tryz.f7) [1,1,1]) (tame_ret 7 Tryz.f7 H0)
def L22_RunsPeeks_J12 (x0 x1 x2 x7:AV) (H0 H:Hp):Res:=CXgL 7 160 (sub (bodyOf Tryz.f7) [1,1,0,1,0,0,1,1]) (seqL (fun k al H=>LPgL 7 160 (sub (bodyOf Tryz.f7) [1,1,0,1,0,0]) k (trimL (cfg.keep 7) (sub (bodyOf Tryz.f7) [1,1,0,1,0,0]) al) H) (blockL 0 (L22_RunsPeeks_K4 H0))) [(0,x0),(1,x1),(2,x2),(7,x7)] H
def L22_RunsPeeks_J11 (x0 x1 x2 x7:AV) (H0 H:Hp):Res:=CXgL 7 160 (sub (bodyOf Tryz.f7) [1,1,0,1,0,0,1]) (seqL (fun k al H=>LPgL 7 160 (sub (bodyOf Tryz.f7) [1,1,0,1,0,0]) k (trimL (cfg.keep 7) (sub (bodyOf Tryz.f7) [1,1,0,1,0,0]) al) H) (blockL 0 (L22_RunsPeeks_K4 H0))) [(0,x0),(1,x1),(2,x2),(7,x7)] H
def L22_RunsPeeks_L2 (x0 x1 x2 x7:AV) (H0 H:Hp):Res:=LPgL 7 160 (sub (bodyOf Tryz.f7) [1,1,0,1,0,0]) (blockL 0 (L22_RunsPeeks_K4 H0)) [(0,x0),(1,x1),(2,x2),(7,x7)] H
def L22_RunsPeeks_J1 (x0 x1 x2:AV) (H0 H:Hp):Res:=CXgL 7 160 (sub (bodyOf Tryz.f7) [1,1]) (retL cfg 160 7 Tryz.f7 H0) [(0,x0),(1,x1),(2,x2)] H
def F_L22_RunsPeeks (p0 p1 p2:AV) (H:Hp):Res:=
  bnd (flatC C_L22_small [p0] H) fun r28=>
  bnd (aun .not r28.1) fun t29=>
  cnd t29
    (bnd (flatC C_L22_awake [] r28.2) fun r30=>
    some (r30.1,r30.2))
    (L22_RunsPeeks_J1 p0 p1 p2 H r28.2)
theorem L22_RunsPeeks_J5_eq (H0 H:Hp):L22_RunsPeeks_J5 H0 H =
    bnd (flatC C_L22_awake [] H) fun r159=>
    some (r159.1,r159.2):=(CXM_eq [3,5,6,8,12,15,18,19,24,25,27,31] _ _ _ _).trans (by kernel_rfl)
theorem L22_RunsPeeks_J7_eq (x0 x1 x2 x8 x12 x13 x14:AV) (H0 H:Hp):L22_RunsPeeks_J7 x0 x1 x2 x8 x12 x13 x14 H0 H =
    bnd (ibin .add x14 (.int .i64 1)) fun t85=>
    L22_RunsPeeks_L1 x0 x1 x2 x8 x12 x13 t85 H0 H:=(CXM_eq [3,5,6,8,12,15,18,19,24,25,27,31] _ _ _ _).trans (by kernel_rfl)
theorem L22_RunsPeeks_J9_eq (x0 x1 x2 x8 x12 x13 x14 x18 x19 x20:AV) (H0 H:Hp):L22_RunsPeeks_J9 x0 x1 x2 x8 x12 x13 x14 x18 x19 x20 H0 H =
    bnd (C_runs_Reader_Next [x12] H) fun r117=>
    bnd (aext r117.1 0) fun t118=>
    bnd (aext r117.1 1) fun t119=>
    bnd (aext r117.1 2) fun t120=>
    bnd (C_runs_Reader_Next [x13] r117.2) fun r123=>
    bnd (aext r123.1 0) fun t124=>
    bnd (aext r123.1 1) fun t125=>
    bnd (aext r123.1 2) fun t126=>
    bnd (sbin .neq x18 t118) fun t129=>
    bnd (gdv t129 false (.tuple []) (some x19)) fun t131=>
    bnd (gdv t129 false (.tuple []) (some t119)) fun t132=>
    bnd (gdv t129 false (.tuple []) (ebin .bool .neq t131 t132)) fun t133=>
    bnd (apick t129 (.bool true) t133) fun t134=>
    bnd (gdv t134 false (.tuple []) (some x20)) fun t136=>
    bnd (gdv t134 false (.tuple []) (some t120)) fun t137=>
    bnd (gdv t134 false (.tuple []) (ibin .neq t136 t137)) fun t138=>
    bnd (apick t134 (.bool true) t138) fun t139=>
    bnd (gdv t139 false (.tuple []) (some x18)) fun t141=>
    bnd (gdv t139 false (.tuple []) (some t124)) fun t142=>
    bnd (gdv t139 false (.tuple []) (sbin .neq t141 t142)) fun t143=>
    bnd (apick t139 (.bool true) t143) fun t144=>
    bnd (gdv t144 false (.tuple []) (some x19)) fun t146=>
    bnd (gdv t144 false (.tuple []) (some t125)) fun t147=>
    bnd (gdv t144 false (.tuple []) (ebin .bool .neq t146 t147)) fun t148=>
    bnd (apick t144 (.bool true) t148) fun t149=>
    bnd (gdv t149 false (.tuple []) (some x20)) fun t151=>
    bnd (gdv t149 false (.tuple []) (some t126)) fun t152=>
    bnd (gdv t149 false (.tuple []) (ibin .neq t151 t152)) fun t153=>
    bnd (apick t149 (.bool true) t153) fun t154=>
    bnd (gdv t154 false (.tuple []) (some x20)) fun t156=>
    bnd (gdv t154 false (.tuple []) (ibin .neq t156 (.int .i64 0))) fun t157=>
    bnd (apick t154 (.bool true) t157) fun t158=>
    cnd t158
      (some ((.bool false),r123.2))
      (L22_RunsPeeks_J7 x0 x1 x2 x8 x12 x13 x14 H0 r123.2):=(CXM_eq [3,5,6,8,12,15,18,19,24,25,27,31] _ _ _ _).trans (by kernel_rfl)
theorem L22_RunsPeeks_J8_eq (x0 x1 x2 x8 x12 x13 x14:AV) (H0 H:Hp):L22_RunsPeeks_J8 x0 x1 x2 x8 x12 x13 x14 H0 H =
    bnd (C_runs_Reader_Peek [x12] H) fun r107=>
    bnd (aext r107.1 0) fun t108=>
    bnd (aext r107.1 1) fun t109=>
    bnd (aext r107.1 2) fun t110=>
    bnd (aindexS 1 x1 x14) fun t113=>
    bnd (aload false 1 t113 r107.2) fun t114=>
    cnd t114
      (L22_RunsPeeks_J7 x0 x1 x2 x8 x12 x13 x14 H0 r107.2)
      (L22_RunsPeeks_J9 x0 x1 x2 x8 x12 x13 x14 t108 t109 t110 H0 r107.2):=(CXM_eq [3,5,6,8,12,15,18,19,24,25,27,31] _ _ _ _).trans (by kernel_rfl)
theorem L22_RunsPeeks_J10_eq (x0 x1 x2 x8 x12 x13 x14:AV) (H0 H:Hp):L22_RunsPeeks_J10 x0 x1 x2 x8 x12 x13 x14 H0 H =
    bnd (C_store_Store_Restart [x8,(.int .u64 0)] H) fun r104=>
    L22_RunsPeeks_J8 x0 x1 x2 x8 x12 x13 x14 H0 r104.2:=(CXM_eq [3,5,6,8,12,15,18,19,24,25,27,31] _ _ _ _).trans (by kernel_rfl)
theorem L22_RunsPeeks_J6_eq (x0 x1 x2 x8 x12 x13 x14:AV) (H0 H:Hp):L22_RunsPeeks_J6 x0 x1 x2 x8 x12 x13 x14 H0 H =
    bnd (ibin .eql x14 x2) fun t88=>
    cnd t88
      (bnd (C_store_Store_FailAfter [x8,(.int .i64 1)] H) fun r90=>
      bnd (C_runs_Reader_Peek [x12] r90.2) fun r93=>
      bnd (aext r93.1 0) fun t94=>
      bnd (aext r93.1 1) fun t95=>
      bnd (aext r93.1 2) fun t96=>
      bnd (ibin .neq t96 (.int .i64 0)) fun t98=>
      bnd (gdv t98 true (.tuple []) (some t96)) fun t100=>
      bnd (gdv t98 true (.tuple []) (ibin .neq t100 (.int .i64 19))) fun t101=>
      bnd (apick t98 t101 (.bool false)) fun t102=>
      cnd t102
        (some ((.bool false),r93.2))
        (L22_RunsPeeks_J10 x0 x1 x2 x8 x12 x13 x14 H0 r93.2))
      (L22_RunsPeeks_J8 x0 x1 x2 x8 x12 x13 x14 H0 H):=(CXM_eq [3,5,6,8,12,15,18,19,24,25,27,31] _ _ _ _).trans (by kernel_rfl)
theorem L22_RunsPeeks_L1_eq (x0 x1 x2 x8 x12 x13 x14:AV) (H0 H:Hp):L22_RunsPeeks_L1 x0 x1 x2 x8 x12 x13 x14 H0 H =
    bnd (alenD (.slice 9) x0) fun t74=>
    bnd (ibin .mul (.int .i64 2) t74) fun t75=>
    bnd (ibin .add t75 (.int .i64 2)) fun t76=>
    bnd (ibin .lss x14 t76) fun t77=>
    bnd (gdv t77 true (.tuple []) (some x14)) fun t79=>
    bnd (gdv t77 true (.tuple []) (some x1)) fun t80=>
    bnd (gdv t77 true (.tuple []) (alenD (.slice 4) t80)) fun t81=>
    bnd (gdv t77 true (.tuple []) (ibin .lss t79 t81)) fun t82=>
    bnd (apick t77 t82 (.bool false)) fun t83=>
    cnd t83
      (L22_RunsPeeks_J6 x0 x1 x2 x8 x12 x13 x14 H0 H)
      (L22_RunsPeeks_J5 H0 H):=(LPL_eqm (C:=cfg) [3,5,6,8,12,15,18,19,24,25,27,31] (tame_block 2 (L22_RunsPeeks_K1_tame H0)) _ _).trans (by kernel_rfl)
theorem L22_RunsPeeks_J4_eq (x0 x1 x2 x8 x9 x11:AV) (H0 H:Hp):L22_RunsPeeks_J4 x0 x1 x2 x8 x9 x11 H0 H =
    bnd (C_runs_Open [x9,x11] H) fun r68=>
    bnd (C_runs_Open [x9,x11] r68.2) fun r71=>
    L22_RunsPeeks_L1 x0 x1 x2 x8 r68.1 r71.1 (.int .i64 0) H0 r71.2:=(CXM_eq [3,5,6,8,12,15,18,19,24,25,27,31] _ _ _ _).trans (by kernel_rfl)
theorem L22_RunsPeeks_J3_eq (x0 x1 x2 x8 x9:AV) (H0 H:Hp):L22_RunsPeeks_J3 x0 x1 x2 x8 x9 H0 H =
    bnd (flatC C_R05_Default [] H) fun r58=>
    bnd ((afill [(1,1,(.int .i64 (-1)))] [.nils,(.int .i64 0),(.int .i64 0),(.bool false),(.bool false)]).map .agg) fun t59=>
    bnd (C_runs_Write [x9,r58.1,t59,x0] r58.2) fun r61=>
    bnd (aext r61.1 0) fun t62=>
    bnd (aext r61.1 1) fun t63=>
    bnd (ibin .neq t63 (.int .i64 0)) fun t65=>
    cnd t65
      (some ((.bool false),r61.2))
      (L22_RunsPeeks_J4 x0 x1 x2 x8 x9 t62 H0 r61.2):=(CXM_eq [3,5,6,8,12,15,18,19,24,25,27,31] _ _ _ _).trans (by kernel_rfl)
theorem L22_RunsPeeks_J2_eq (x0 x1 x2:AV) (H0 H:Hp):L22_RunsPeeks_J2 x0 x1 x2 H0 H =
    bnd (C_store_New [(.int .i64 262144)] H) fun r44=>
    bnd (C_tempfile_Open [r44.1,(.str [98]),(.int .i64 262144)] r44.2) fun r47=>
    bnd (aext r47.1 0) fun t48=>
    bnd (aext r47.1 1) fun t49=>
    bnd (ibin .neq t49 (.int .i64 0)) fun t51=>
    bnd (gdv t51 false (.tuple []) (some t48)) fun t53=>
    bnd (gdv t51 false (.tuple []) (ebin (.pointer 117) .eql t53 .nilp)) fun t54=>
    bnd (apick t51 (.bool true) t54) fun t55=>
    cnd t55
      (some ((.bool false),r47.2))
      (L22_RunsPeeks_J3 x0 x1 x2 r44.1 t48 H0 r47.2):=(CXM_eq [3,5,6,8,12,15,18,19,24,25,27,31] _ _ _ _).trans (by kernel_rfl)
theorem L22_RunsPeeks_J12_eq (x0 x1 x2 x7:AV) (H0 H:Hp):L22_RunsPeeks_J12 x0 x1 x2 x7 H0 H =
    bnd (ibin .add x7 (.int .i64 1)) fun t36=>
    L22_RunsPeeks_L2 x0 x1 x2 t36 H0 H:=(CXM_eq [3,5,6,8,12,15,18,19,24,25,27,31] _ _ _ _).trans (by kernel_rfl)
theorem L22_RunsPeeks_J11_eq (x0 x1 x2 x7:AV) (H0 H:Hp):L22_RunsPeeks_J11 x0 x1 x2 x7 H0 H =
    bnd (aindexS 1 x0 x7) fun t39=>
    bnd (aload false 1 t39 H) fun t40=>
    bnd (alenD .string t40) fun t41=>
    bnd (ibin .gtr t41 (.int .i64 4096)) fun t42=>
    cnd t42
      (bnd (flatC C_L22_awake [] H) fun r43=>
      some (r43.1,r43.2))
      (L22_RunsPeeks_J12 x0 x1 x2 x7 H0 H):=(CXM_eq [3,5,6,8,12,15,18,19,24,25,27,31] _ _ _ _).trans (by kernel_rfl)
theorem L22_RunsPeeks_L2_eq (x0 x1 x2 x7:AV) (H0 H:Hp):L22_RunsPeeks_L2 x0 x1 x2 x7 H0 H =
    bnd (alenD (.slice 9) x0) fun t33=>
    bnd (ibin .lss x7 t33) fun t34=>
    cnd t34
      (L22_RunsPeeks_J11 x0 x1 x2 x7 H0 H)
      (L22_RunsPeeks_J2 x0 x1 x2 H0 H):=(LPL_eqm (C:=cfg) [3,5,6,8,12,15,18,19,24,25,27,31] (tame_block 0 (L22_RunsPeeks_K4_tame H0)) _ _).trans (by kernel_rfl)
theorem L22_RunsPeeks_J1_eq (x0 x1 x2:AV) (H0 H:Hp):L22_RunsPeeks_J1 x0 x1 x2 H0 H =
    L22_RunsPeeks_L2 x0 x1 x2 (.int .i64 0) H0 H:=(CXM_eq [3,5,6,8,12,15,18,19,24,25,27,31] _ _ _ _).trans (by kernel_rfl)
theorem F_L22_RunsPeeks_eq (p0 p1 p2:AV) (H:Hp):C_L22_RunsPeeks [p0,p1,p2] H = F_L22_RunsPeeks p0 p1 p2 H:=(callw_cxm (C:=cfg) (fn:=Tryz.f7) (c:=bodyOf Tryz.f7) (n:=160) [3,5,6,8,12,15,18,19,24,25,27,31] Tryz.func7 (by kernel_rfl) (by kernel_rfl) [p0,p1,p2] (by kernel_rfl) H).trans (by kernel_rfl)

def L22_small_J1 (x3:AV) (H0 H:Hp):Res:=CXgL 26 30 (sub (bodyOf Tryz.f26) [1,1,1]) (retL cfg 30 26 Tryz.f26 H0) [(3,x3)] H
def L22_small_K1 (H0:Hp):KL:=seqL (fun k al H=>CXgL 26 30 (sub (bodyOf Tryz.f26) [1,1,1]) k (trimL (cfg.keep 26) (sub (bodyOf Tryz.f26) [1,1,1]) al) H) (retL cfg 30 26 Tryz.f26 H0)
theorem L22_small_K1_tame (H0:Hp):Tame 30 (L22_small_K1 H0):=tame_seq (C:=cfg) (kp:=cfg.keep 26) (sub (bodyOf Tryz.f26) [1,1,1]) (tame_ret 26 Tryz.f26 H0)
def L22_small_J3 (x0 x3 x4:AV) (H0 H:Hp):Res:=CXgL 26 30 (sub (bodyOf Tryz.f26) [1,1,0,1,0,0,1,1]) (seqL (fun k al H=>LPgL 26 30 (sub (bodyOf Tryz.f26) [1,1,0,1,0,0]) k (trimL (cfg.keep 26) (sub (bodyOf Tryz.f26) [1,1,0,1,0,0]) al) H) (blockL 0 (L22_small_K1 H0))) [(0,x0),(3,x3),(4,x4)] H
def L22_small_K2 (H0:Hp):KL:=seqL (fun k al H=>CXgL 26 30 (sub (bodyOf Tryz.f26) [1,1,0,1,0,0,1,1]) k (trimL (cfg.keep 26) (sub (bodyOf Tryz.f26) [1,1,0,1,0,0,1,1]) al) H) (seqL (fun k al H=>LPgL 26 30 (sub (bodyOf Tryz.f26) [1,1,0,1,0,0]) k (trimL (cfg.keep 26) (sub (bodyOf Tryz.f26) [1,1,0,1,0,0]) al) H) (blockL 0 (L22_small_K1 H0)))
def L22_small_J4 (x0 x3 x4:AV) (H0 H:Hp):Res:=CXgL 26 30 (sub (bodyOf Tryz.f26) [1,1,0,1,0,0,1,0,0,1]) (blockL 1 (L22_small_K2 H0)) [(0,x0),(3,x3),(4,x4)] H
def L22_small_J2 (x0 x3 x4:AV) (H0 H:Hp):Res:=CXgL 26 30 (sub (bodyOf Tryz.f26) [1,1,0,1,0,0,1]) (seqL (fun k al H=>LPgL 26 30 (sub (bodyOf Tryz.f26) [1,1,0,1,0,0]) k (trimL (cfg.keep 26) (sub (bodyOf Tryz.f26) [1,1,0,1,0,0]) al) H) (blockL 0 (L22_small_K1 H0))) [(0,x0),(3,x3),(4,x4)] H
def L22_small_L1 (x0 x3 x4:AV) (H0 H:Hp):Res:=LPgL 26 30 (sub (bodyOf Tryz.f26) [1,1,0,1,0,0]) (blockL 0 (L22_small_K1 H0)) [(0,x0),(3,x3),(4,x4)] H
def F_L22_small (p0:AV) (H:Hp):Res:=
  L22_small_L1 p0 (.int .i64 0) (.int .i64 0) H H
theorem L22_small_J1_eq (x3:AV) (H0 H:Hp):L22_small_J1 x3 H0 H =
    bnd (ibin .leq x3 (.int .i64 5000)) fun t29=>
    some (t29,H):=(CXM_eq [4,5,7,8] _ _ _ _).trans (by kernel_rfl)
theorem L22_small_J3_eq (x0 x3 x4:AV) (H0 H:Hp):L22_small_J3 x0 x3 x4 H0 H =
    bnd (ibin .add x4 (.int .i64 1)) fun t10=>
    L22_small_L1 x0 x3 t10 H0 H:=(CXM_eq [4,5,7,8] _ _ _ _).trans (by kernel_rfl)
theorem L22_small_J4_eq (x0 x3 x4:AV) (H0 H:Hp):L22_small_J4 x0 x3 x4 H0 H =
    bnd (aindexS 1 x0 x4) fun t24=>
    bnd (aload false 1 t24 H) fun t25=>
    bnd (alenD .string t25) fun t26=>
    bnd (ibin .add x3 t26) fun t27=>
    L22_small_J3 x0 t27 x4 H0 H:=(CXM_eq [4,5,7,8] _ _ _ _).trans (by kernel_rfl)
theorem L22_small_J2_eq (x0 x3 x4:AV) (H0 H:Hp):L22_small_J2 x0 x3 x4 H0 H =
    bnd (ibin .geq x4 (.int .i64 12)) fun t12=>
    bnd (gdv t12 false (.tuple []) (some x0)) fun t14=>
    bnd (gdv t12 false (.tuple []) (some x4)) fun t15=>
    bnd (gdv t12 false (.tuple []) (aindexS 1 t14 t15)) fun t16=>
    bnd (gdv t12 false (.tuple []) (aload false 1 t16 H)) fun t17=>
    bnd (gdv t12 false (.tuple []) (alenD .string t17)) fun t18=>
    bnd (gdv t12 false (.tuple []) (ibin .gtr t18 (.int .i64 5000))) fun t19=>
    bnd (apick t12 (.bool true) t19) fun t20=>
    cnd t20
      (some ((.bool false),H))
      (L22_small_J4 x0 x3 x4 H0 H):=(CXM_eq [4,5,7,8] _ _ _ _).trans (by kernel_rfl)
theorem L22_small_L1_eq (x0 x3 x4:AV) (H0 H:Hp):L22_small_L1 x0 x3 x4 H0 H =
    bnd (alenD (.slice 9) x0) fun t7=>
    bnd (ibin .lss x4 t7) fun t8=>
    cnd t8
      (L22_small_J2 x0 x3 x4 H0 H)
      (L22_small_J1 x3 H0 H):=(LPL_eqm (C:=cfg) [4,5,7,8] (tame_block 0 (L22_small_K1_tame H0)) _ _).trans (by kernel_rfl)
theorem F_L22_small_eq (p0:AV) (H:Hp):C_L22_small [p0] H = F_L22_small p0 H:=(callw_cxm (C:=cfg) (fn:=Tryz.f26) (c:=bodyOf Tryz.f26) (n:=30) [4,5,7,8] Tryz.func26 (by kernel_rfl) (by kernel_rfl) [p0] (by kernel_rfl) H).trans (by kernel_rfl)

def runs_Write_J4 (x10:AV) (H0 H:Hp):Res:=CXgL 30 39 (sub (bodyOf Tryz.f30) [1,1,1,1,1,1]) (retL cfg 39 30 Tryz.f30 H0) [(10,x10)] H
def runs_Write_J3 (x0 x10:AV) (H0 H:Hp):Res:=CXgL 30 39 (sub (bodyOf Tryz.f30) [1,1,1,1,1]) (retL cfg 39 30 Tryz.f30 H0) [(0,x0),(10,x10)] H
def runs_Write_J2 (x0 x3 x5 x6 x10:AV) (H0 H:Hp):Res:=CXgL 30 39 (sub (bodyOf Tryz.f30) [1,1,1,1]) (retL cfg 39 30 Tryz.f30 H0) [(0,x0),(3,x3),(5,x5),(6,x6),(10,x10)] H
def runs_Write_J1 (x0 x3 x5 x6:AV) (H0 H:Hp):Res:=CXgL 30 39 (sub (bodyOf Tryz.f30) [1,1]) (retL cfg 39 30 Tryz.f30 H0) [(0,x0),(3,x3),(5,x5),(6,x6)] H
def F_runs_Write (p0 p1 p2 p3:AV) (H:Hp):Res:=
  bnd (abox p1 H) fun r5=>
  bnd (abox p2 r5.2) fun r6=>
  bnd (ebin (.pointer 117) .eql p0 .nilp) fun t13=>
  cnd t13
    (some ((.tuple [(.str []),(.int .i64 5)]),r6.2))
    (runs_Write_J1 p0 p3 r5.1 r6.1 H r6.2)
theorem runs_Write_J4_eq (x10:AV) (H0 H:Hp):runs_Write_J4 x10 H0 H =
    some ((.tuple [x10,(.int .i64 0)]),H):=(CXM_eq [3,6,9,12] _ _ _ _).trans (by kernel_rfl)
theorem runs_Write_J3_eq (x0 x10:AV) (H0 H:Hp):runs_Write_J3 x0 x10 H0 H =
    bnd (C_tempfile_Temps_Seal [x0,x10] H) fun r34=>
    bnd (ibin .neq r34.1 (.int .i64 0)) fun t36=>
    cnd t36
      (some ((.tuple [(.str []),r34.1]),r34.2))
      (runs_Write_J4 x10 H0 r34.2):=(CXM_eq [3,6,9,12] _ _ _ _).trans (by kernel_rfl)
theorem runs_Write_J2_eq (x0 x3 x5 x6 x10:AV) (H0 H:Hp):runs_Write_J2 x0 x3 x5 x6 x10 H0 H =
    bnd (aload true 6 x5 H) fun t24=>
    bnd (aload true 5 x6 H) fun t25=>
    bnd (flatC C_memsort_Sort [t24,t25,x3] H) fun r27=>
    bnd (C_tempfile_Temps_Write [x0,x10,r27.1] r27.2) fun r28=>
    bnd (ibin .neq r28.1 (.int .i64 0)) fun t30=>
    cnd t30
      (some ((.tuple [(.str []),r28.1]),r28.2))
      (runs_Write_J3 x0 x10 H0 r28.2):=(CXM_eq [3,6,9,12] _ _ _ _).trans (by kernel_rfl)
theorem runs_Write_J1_eq (x0 x3 x5 x6:AV) (H0 H:Hp):runs_Write_J1 x0 x3 x5 x6 H0 H =
    bnd (C_tempfile_Temps_New [x0] H) fun r16=>
    bnd (aext r16.1 0) fun t17=>
    bnd (aext r16.1 1) fun t18=>
    bnd (ibin .neq t18 (.int .i64 0)) fun t20=>
    cnd t20
      (some ((.tuple [(.str []),t18]),r16.2))
      (runs_Write_J2 x0 x3 x5 x6 t17 H0 r16.2):=(CXM_eq [3,6,9,12] _ _ _ _).trans (by kernel_rfl)
theorem F_runs_Write_eq (p0 p1 p2 p3:AV) (H:Hp):C_runs_Write [p0,p1,p2,p3] H = F_runs_Write p0 p1 p2 p3 H:=(callw_cxm (C:=cfg) (fn:=Tryz.f30) (c:=bodyOf Tryz.f30) (n:=39) [3,6,9,12] Tryz.func30 (by kernel_rfl) (by kernel_rfl) [p0,p1,p2,p3] (by kernel_rfl) H).trans (by kernel_rfl)

def runs_Open_J1 (x0 x1:AV) (H0 H:Hp):Res:=CXgL 32 11 (sub (bodyOf Tryz.f32) [1,1]) (retL cfg 11 32 Tryz.f32 H0) [(0,x0),(1,x1)] H
def F_runs_Open (p0 p1:AV) (H:Hp):Res:=
  bnd (ebin (.pointer 117) .eql p0 .nilp) fun t6=>
  cnd t6
    (some (.nilp,H))
    (runs_Open_J1 p0 p1 H H)
theorem runs_Open_J1_eq (x0 x1:AV) (H0 H:Hp):runs_Open_J1 x0 x1 H0 H =
    bnd ((afill [(0,1,x0),(1,1,x1)] [.nilp,(.str []),(.int .i64 0),(.bool false),(.bool false),(.str [])]).map .agg) fun t9=>
    bnd (abox t9 H) fun r10=>
    some (r10.1,r10.2):=(CXM_eq [3] _ _ _ _).trans (by kernel_rfl)
theorem F_runs_Open_eq (p0 p1:AV) (H:Hp):C_runs_Open [p0,p1] H = F_runs_Open p0 p1 H:=(callw_cxm (C:=cfg) (fn:=Tryz.f32) (c:=bodyOf Tryz.f32) (n:=11) [3] Tryz.func32 (by kernel_rfl) (by kernel_rfl) [p0,p1] (by kernel_rfl) H).trans (by kernel_rfl)

def runs_Reader_Next_J1 (x5 x6 x7:AV) (H0 H:Hp):Res:=CXgL 33 24 (sub (bodyOf Tryz.f33) [1,1,1]) (retL cfg 24 33 Tryz.f33 H0) [(5,x5),(6,x6),(7,x7)] H
def F_runs_Reader_Next (p0:AV) (H:Hp):Res:=
  bnd (C_runs_Reader_Peek [p0] H) fun r10=>
  bnd (aext r10.1 0) fun t11=>
  bnd (aext r10.1 1) fun t12=>
  bnd (aext r10.1 2) fun t13=>
  cnd t12
    (bnd (anil p0) fun t17=>
    bnd (afield 3 t17) fun t18=>
    bnd (astoreU 1 t18 (.bool false) r10.2) fun r_7=>
    bnd (anil p0) fun t19=>
    bnd (afield 5 t19) fun t20=>
    bnd (astoreU 1 t20 (.str []) r_7.2) fun r_10=>
    runs_Reader_Next_J1 t11 t12 t13 H r_10.2)
    (runs_Reader_Next_J1 t11 t12 t13 H r10.2)
theorem runs_Reader_Next_J1_eq (x5 x6 x7:AV) (H0 H:Hp):runs_Reader_Next_J1 x5 x6 x7 H0 H =
    some ((.tuple [x5,x6,x7]),H):=(CXM_eq [4] _ _ _ _).trans (by kernel_rfl)
theorem F_runs_Reader_Next_eq (p0:AV) (H:Hp):C_runs_Reader_Next [p0] H = F_runs_Reader_Next p0 H:=(callw_cxm (C:=cfg) (fn:=Tryz.f33) (c:=bodyOf Tryz.f33) (n:=24) [4] Tryz.func33 (by kernel_rfl) (by kernel_rfl) [p0] (by kernel_rfl) H).trans (by kernel_rfl)

def runs_Reader_Peek_J3 (x0:AV) (H0 H:Hp):Res:=CXgL 36 68 (sub (bodyOf Tryz.f36) [1,1,1,1]) (retL cfg 68 36 Tryz.f36 H0) [(0,x0)] H
def runs_Reader_Peek_J2 (x0:AV) (H0 H:Hp):Res:=CXgL 36 68 (sub (bodyOf Tryz.f36) [1,1,1]) (retL cfg 68 36 Tryz.f36 H0) [(0,x0)] H
def runs_Reader_Peek_J1 (x0:AV) (H0 H:Hp):Res:=CXgL 36 68 (sub (bodyOf Tryz.f36) [1,1]) (retL cfg 68 36 Tryz.f36 H0) [(0,x0)] H
def F_runs_Reader_Peek (p0:AV) (H:Hp):Res:=
  bnd (ebin (.pointer 125) .eql p0 .nilp) fun t9=>
  cnd t9
    (some ((.tuple [(.str []),(.bool false),(.int .i64 5)]),H))
    (runs_Reader_Peek_J1 p0 H H)
theorem runs_Reader_Peek_J3_eq (x0:AV) (H0 H:Hp):runs_Reader_Peek_J3 x0 H0 H =
    bnd (anil x0) fun t65=>
    bnd (afield 5 t65) fun t66=>
    bnd (aload false 1 t66 H) fun t67=>
    some ((.tuple [t67,(.bool true),(.int .i64 0)]),H):=(CXM_eq [3,11,13] _ _ _ _).trans (by kernel_rfl)
theorem runs_Reader_Peek_J2_eq (x0:AV) (H0 H:Hp):runs_Reader_Peek_J2 x0 H0 H =
    bnd (anil x0) fun t60=>
    bnd (afield 3 t60) fun t61=>
    bnd (aload false 1 t61 H) fun t62=>
    bnd (aun .not t62) fun t63=>
    cnd t63
      (some ((.tuple [(.str []),(.bool false),(.int .i64 0)]),H))
      (runs_Reader_Peek_J3 x0 H0 H):=(CXM_eq [3,11,13] _ _ _ _).trans (by kernel_rfl)
theorem runs_Reader_Peek_J1_eq (x0:AV) (H0 H:Hp):runs_Reader_Peek_J1 x0 H0 H =
    bnd (anil x0) fun t11=>
    bnd (afield 3 t11) fun t12=>
    bnd (aload false 1 t12 H) fun t13=>
    bnd (aun .not t13) fun t14=>
    bnd (gdv t14 true (.tuple []) (some x0)) fun t16=>
    bnd (gdv t14 true (.tuple []) (anil t16)) fun t17=>
    bnd (gdv t14 true (.tuple []) (afield 4 t17)) fun t18=>
    bnd (gdv t14 true (.tuple []) (aload false 1 t18 H)) fun t19=>
    bnd (gdv t14 true (.tuple []) (aun .not t19)) fun t20=>
    bnd (apick t14 t20 (.bool false)) fun t21=>
    cnd t21
      (bnd (anil x0) fun t24=>
      bnd (afield 0 t24) fun t25=>
      bnd (aload false 1 t25 H) fun t26=>
      bnd (anil x0) fun t28=>
      bnd (afield 1 t28) fun t29=>
      bnd (aload false 1 t29 H) fun t30=>
      bnd (anil x0) fun t32=>
      bnd (afield 2 t32) fun t33=>
      bnd (aload false 1 t33 H) fun t34=>
      bnd (C_tempfile_Temps_Read [t26,t30,t34] H) fun r35=>
      bnd (aext r35.1 0) fun t36=>
      bnd (aext r35.1 1) fun t37=>
      bnd (aext r35.1 2) fun t38=>
      bnd (ibin .eql t38 (.int .i64 0)) fun t42=>
      cnd t42
        (bnd (anil x0) fun t48=>
        bnd (afield 5 t48) fun t49=>
        bnd (astoreU 1 t49 t36 r35.2) fun r_34=>
        bnd (anil x0) fun t50=>
        bnd (afield 2 t50) fun t51=>
        bnd (astoreU 1 t51 t37 r_34.2) fun r_37=>
        bnd (anil x0) fun t52=>
        bnd (afield 3 t52) fun t53=>
        bnd (astoreU 1 t53 (.bool true) r_37.2) fun r_40=>
        runs_Reader_Peek_J2 x0 H0 r_40.2)
        (bnd (ibin .eql t38 (.int .i64 5)) fun t55=>
        cnd t55
          (bnd (anil x0) fun t57=>
          bnd (afield 4 t57) fun t58=>
          bnd (astoreU 1 t58 (.bool true) r35.2) fun r_44=>
          runs_Reader_Peek_J2 x0 H0 r_44.2)
          (some ((.tuple [(.str []),(.bool false),t38]),r35.2))))
      (runs_Reader_Peek_J2 x0 H0 H):=(CXM_eq [3,11,13] _ _ _ _).trans (by kernel_rfl)
theorem F_runs_Reader_Peek_eq (p0:AV) (H:Hp):C_runs_Reader_Peek [p0] H = F_runs_Reader_Peek p0 H:=(callw_cxm (C:=cfg) (fn:=Tryz.f36) (c:=bodyOf Tryz.f36) (n:=68) [3,11,13] Tryz.func36 (by kernel_rfl) (by kernel_rfl) [p0] (by kernel_rfl) H).trans (by kernel_rfl)

end
end Go.Am
