/-
  The functions of the translation over the abstract machine, a further part: written by program (wip/gen.py).
-/
import Derived.Test.YtebjpfbenjgglaaDoorTdGx
namespace Go.Am
open Go.Proofs
set_option maxRecDepth 100000
set_option linter.unusedVariables false
set_option linter.unusedSimpArgs false
noncomputable abbrev CXgL (f n:Nat):=CXL cfg (callw cfg) (LPL cfg (cfg.keep f) n) (cfg.keep f) n seqL blockL
noncomputable abbrev LPgL (f n:Nat):=LPL cfg (cfg.keep f) n
noncomputable section

def L19_TempfileReads_J7 (x0 x2 x9 x10 x14:AV) (H0 H:Hp):Res:=CXgL 4 167 (sub (bodyOf Tryd.f4) [1,1,1,1,1,1,1,1,1,1,1,1,1,1,1]) (retL cfg 167 4 Tryd.f4 H0) [(0,x0),(2,x2),(9,x9),(10,x10),(14,x14)] H
def L19_TempfileReads_J6 (x0 x2 x9 x10 x14:AV) (H0 H:Hp):Res:=CXgL 4 167 (sub (bodyOf Tryd.f4) [1,1,1,1,1,1,1,1,1,1,1,1,1]) (retL cfg 167 4 Tryd.f4 H0) [(0,x0),(2,x2),(9,x9),(10,x10),(14,x14)] H
def L19_TempfileReads_J5 (x0 x2 x9 x10 x14:AV) (H0 H:Hp):Res:=CXgL 4 167 (sub (bodyOf Tryd.f4) [1,1,1,1,1,1,1,1,1,1,1]) (retL cfg 167 4 Tryd.f4 H0) [(0,x0),(2,x2),(9,x9),(10,x10),(14,x14)] H
def L19_TempfileReads_J4 (x0 x2 x8 x9 x10:AV) (H0 H:Hp):Res:=CXgL 4 167 (sub (bodyOf Tryd.f4) [1,1,1,1,1,1,1,1]) (retL cfg 167 4 Tryd.f4 H0) [(0,x0),(2,x2),(8,x8),(9,x9),(10,x10)] H
def L19_TempfileReads_J3 (x0 x2 x8:AV) (H0 H:Hp):Res:=CXgL 4 167 (sub (bodyOf Tryd.f4) [1,1,1,1,1]) (retL cfg 167 4 Tryd.f4 H0) [(0,x0),(2,x2),(8,x8)] H
def L19_TempfileReads_J2 (x0 x1 x2:AV) (H0 H:Hp):Res:=CXgL 4 167 (sub (bodyOf Tryd.f4) [1,1,1]) (retL cfg 167 4 Tryd.f4 H0) [(0,x0),(1,x1),(2,x2)] H
def L19_TempfileReads_K1 (H0:Hp):KL:=seqL (fun k al H=>CXgL 4 167 (sub (bodyOf Tryd.f4) [1,1,1]) k (trimL (cfg.keep 4) (sub (bodyOf Tryd.f4) [1,1,1]) al) H) (retL cfg 167 4 Tryd.f4 H0)
theorem L19_TempfileReads_K1_tame (H0:Hp):Tame 167 (L19_TempfileReads_K1 H0):=tame_seq (C:=cfg) (kp:=cfg.keep 4) (sub (bodyOf Tryd.f4) [1,1,1]) (tame_ret 4 Tryd.f4 H0)
def L19_TempfileReads_J9 (x0 x1 x2 x7:AV) (H0 H:Hp):Res:=CXgL 4 167 (sub (bodyOf Tryd.f4) [1,1,0,1,0,0,1,1]) (seqL (fun k al H=>LPgL 4 167 (sub (bodyOf Tryd.f4) [1,1,0,1,0,0]) k (trimL (cfg.keep 4) (sub (bodyOf Tryd.f4) [1,1,0,1,0,0]) al) H) (blockL 0 (L19_TempfileReads_K1 H0))) [(0,x0),(1,x1),(2,x2),(7,x7)] H
def L19_TempfileReads_J8 (x0 x1 x2 x7:AV) (H0 H:Hp):Res:=CXgL 4 167 (sub (bodyOf Tryd.f4) [1,1,0,1,0,0,1]) (seqL (fun k al H=>LPgL 4 167 (sub (bodyOf Tryd.f4) [1,1,0,1,0,0]) k (trimL (cfg.keep 4) (sub (bodyOf Tryd.f4) [1,1,0,1,0,0]) al) H) (blockL 0 (L19_TempfileReads_K1 H0))) [(0,x0),(1,x1),(2,x2),(7,x7)] H
def L19_TempfileReads_L1 (x0 x1 x2 x7:AV) (H0 H:Hp):Res:=LPgL 4 167 (sub (bodyOf Tryd.f4) [1,1,0,1,0,0]) (blockL 0 (L19_TempfileReads_K1 H0)) [(0,x0),(1,x1),(2,x2),(7,x7)] H
def L19_TempfileReads_J1 (x0 x1 x2:AV) (H0 H:Hp):Res:=CXgL 4 167 (sub (bodyOf Tryd.f4) [1,1]) (retL cfg 167 4 Tryd.f4 H0) [(0,x0),(1,x1),(2,x2)] H
def F_L19_TempfileReads (p0 p1 p2:AV) (H:Hp):Res:=
 bnd ((afill [(2,1,p0)] [(.int .i64 0),(.str []),.nils,(.int .i64 0),(.int .u64 0)]).map .agg) fun t24=>
 bnd (flatC C_L19_small [t24] H) fun r25=>
 bnd (aun .not r25.1) fun t26=>
 cnd t26
  (bnd (C_L19_awake [] r25.2) fun r27=>
  some (r27.1,r27.2))
  (L19_TempfileReads_J1 p0 p1 p2 H r25.2)
theorem L19_TempfileReads_J7_eq (x0 x2 x9 x10 x14:AV) (H0 H:Hp):L19_TempfileReads_J7 x0 x2 x9 x10 x14 H0 H =
    bnd (C_store_Store_Restart [x9,x2] H) fun r149=>
    bnd (alenD (.slice 9) x0) fun t154=>
    bnd (C_L19_lines [x10,x14,t154] r149.2) fun r155=>
    bnd (aext r155.1 0) fun t156=>
    bnd (aext r155.1 1) fun t157=>
    bnd (gdv t157 true (.tuple []) (some t156)) fun t160=>
    bnd (gdv t157 true (.tuple []) (some x0)) fun t161=>
    bnd (gdv t157 true ((.tuple []),r155.2) (flatC C_L19_sameNames [t160,t161] r155.2)) fun r162=>
    bnd (apick t157 r162.1 (.bool false)) fun t163=>
    bnd (gdv t163 true ((.tuple []),r162.2) (C_L19_awake [] r162.2)) fun r165=>
    bnd (apick t163 r165.1 (.bool false)) fun t166=>
    some (t166,r165.2):=(CXM_eq [3,5,6,8,11,15,19,22,26] _ _ _ _).trans (by kernel_rfl)
theorem L19_TempfileReads_J6_eq (x0 x2 x9 x10 x14:AV) (H0 H:Hp):L19_TempfileReads_J6 x0 x2 x9 x10 x14 H0 H =
    bnd (C_store_Store_FailAfter [x9,(.int .i64 1)] H) fun r137=>
    bnd (C_tempfile_Temps_Read [x10,x14,(.int .i64 0)] r137.2) fun r141=>
    bnd (aext r141.1 0) fun t142=>
    bnd (aext r141.1 1) fun t143=>
    bnd (aext r141.1 2) fun t144=>
    bnd (ibin .neq t144 (.int .i64 19)) fun t146=>
    cnd t146
     (some ((.bool false),r141.2))
     (L19_TempfileReads_J7 x0 x2 x9 x10 x14 H0 r141.2):=(CXM_eq [3,5,6,8,11,15,19,22,26] _ _ _ _).trans (by kernel_rfl)
theorem L19_TempfileReads_J5_eq (x0 x2 x9 x10 x14:AV) (H0 H:Hp):L19_TempfileReads_J5 x0 x2 x9 x10 x14 H0 H =
    bnd (alenD (.slice 9) x0) fun t112=>
    bnd (C_L19_lines [x10,x14,t112] H) fun r113=>
    bnd (aext r113.1 0) fun t114=>
    bnd (aext r113.1 1) fun t115=>
    bnd (aun .not t115) fun t117=>
    bnd (gdv t117 false (.tuple []) (some t114)) fun t119=>
    bnd (gdv t117 false (.tuple []) (some x0)) fun t120=>
    bnd (gdv t117 false ((.tuple []),r113.2) (flatC C_L19_sameNames [t119,t120] r113.2)) fun r121=>
    bnd (gdv t117 false (.tuple []) (aun .not r121.1)) fun t122=>
    bnd (apick t117 (.bool true) t122) fun t123=>
    bnd (gdv t123 false (.tuple []) (some x10)) fun t125=>
    bnd (gdv t123 false (.tuple []) (some x14)) fun t126=>
    bnd (gdv t123 false ((.tuple []),r121.2) (C_tempfile_Temps_Seal [t125,t126] r121.2)) fun r127=>
    bnd (gdv t123 false (.tuple []) (ibin .neq r127.1 (.int .i64 0))) fun t128=>
    bnd (apick t123 (.bool true) t128) fun t129=>
    bnd (gdv t129 false (.tuple []) (some x10)) fun t131=>
    bnd (gdv t129 false (.tuple []) (some x14)) fun t132=>
    bnd (gdv t129 false ((.tuple []),r127.2) (C_tempfile_Temps_Write [t131,t132,.nils] r127.2)) fun r133=>
    bnd (gdv t129 false (.tuple []) (ibin .neq r133.1 (.int .i64 8))) fun t134=>
    bnd (apick t129 (.bool true) t134) fun t135=>
    cnd t135
     (some ((.bool false),r133.2))
     (L19_TempfileReads_J6 x0 x2 x9 x10 x14 H0 r133.2):=(CXM_eq [3,5,6,8,11,15,19,22,26] _ _ _ _).trans (by kernel_rfl)
theorem L19_TempfileReads_J4_eq (x0 x2 x8 x9 x10:AV) (H0 H:Hp):L19_TempfileReads_J4 x0 x2 x8 x9 x10 H0 H =
    bnd (C_tempfile_Temps_New [x10] H) fun r64=>
    bnd (aext r64.1 0) fun t65=>
    bnd (aext r64.1 1) fun t66=>
    bnd (C_tempfile_Temps_New [x10] r64.2) fun r69=>
    bnd (aext r69.1 0) fun t70=>
    bnd (aext r69.1 1) fun t71=>
    bnd (ibin .neq t66 (.int .i64 0)) fun t73=>
    bnd (gdv t73 false (.tuple []) (some t71)) fun t75=>
    bnd (gdv t73 false (.tuple []) (ibin .neq t75 (.int .i64 0))) fun t76=>
    bnd (apick t73 (.bool true) t76) fun t77=>
    bnd (gdv t77 false (.tuple []) (some t65)) fun t79=>
    bnd (gdv t77 false (.tuple []) (some t70)) fun t80=>
    bnd (gdv t77 false (.tuple []) (sbin .eql t79 t80)) fun t81=>
    bnd (apick t77 (.bool true) t81) fun t82=>
    bnd (gdv t82 false (.tuple []) (some x10)) fun t84=>
    bnd (gdv t82 false (.tuple []) (some t70)) fun t85=>
    bnd (gdv t82 false (.tuple []) (some x0)) fun t86=>
    bnd (gdv t82 false (.tuple []) (some x8)) fun t87=>
    bnd (gdv t82 false (.tuple []) (asliceV 1 t86 none (some t87) none)) fun t88=>
    bnd (gdv t82 false ((.tuple []),r69.2) (C_tempfile_Temps_Write [t84,t85,t88] r69.2)) fun r89=>
    bnd (gdv t82 false (.tuple []) (ibin .neq r89.1 (.int .i64 0))) fun t90=>
    bnd (apick t82 (.bool true) t90) fun t91=>
    bnd (gdv t91 false (.tuple []) (some x10)) fun t93=>
    bnd (gdv t91 false (.tuple []) (some t65)) fun t94=>
    bnd (gdv t91 false (.tuple []) (some x0)) fun t95=>
    bnd (gdv t91 false ((.tuple []),r89.2) (C_tempfile_Temps_Write [t93,t94,t95] r89.2)) fun r96=>
    bnd (gdv t91 false (.tuple []) (ibin .neq r96.1 (.int .i64 0))) fun t97=>
    bnd (apick t91 (.bool true) t97) fun t98=>
    bnd (gdv t98 false (.tuple []) (some x10)) fun t100=>
    bnd (gdv t98 false (.tuple []) (some t70)) fun t101=>
    bnd (gdv t98 false (.tuple []) (some x0)) fun t102=>
    bnd (gdv t98 false (.tuple []) (some x8)) fun t103=>
    bnd (gdv t98 false (.tuple []) (asliceV 1 t102 (some t103) none none)) fun t104=>
    bnd (gdv t98 false ((.tuple []),r96.2) (C_tempfile_Temps_Write [t100,t101,t104] r96.2)) fun r105=>
    bnd (gdv t98 false (.tuple []) (ibin .neq r105.1 (.int .i64 0))) fun t106=>
    bnd (apick t98 (.bool true) t106) fun t107=>
    cnd t107
     (some ((.bool false),r105.2))
     (L19_TempfileReads_J5 x0 x2 x9 x10 t70 H0 r105.2):=(CXM_eq [3,5,6,8,11,15,19,22,26] _ _ _ _).trans (by kernel_rfl)
theorem L19_TempfileReads_J3_eq (x0 x2 x8:AV) (H0 H:Hp):L19_TempfileReads_J3 x0 x2 x8 H0 H =
    bnd (C_store_New [(.int .i64 262144)] H) fun r50=>
    bnd (C_tempfile_Open [r50.1,(.str [97]),(.int .i64 20000)] r50.2) fun r53=>
    bnd (aext r53.1 0) fun t54=>
    bnd (aext r53.1 1) fun t55=>
    bnd (ibin .neq t55 (.int .i64 0)) fun t57=>
    bnd (gdv t57 false (.tuple []) (some t54)) fun t59=>
    bnd (gdv t57 false (.tuple []) (ebin (.pointer 89) .eql t59 .nilp)) fun t60=>
    bnd (apick t57 (.bool true) t60) fun t61=>
    cnd t61
     (some ((.bool false),r53.2))
     (L19_TempfileReads_J4 x0 x2 x8 r50.1 t54 H0 r53.2):=(CXM_eq [3,5,6,8,11,15,19,22,26] _ _ _ _).trans (by kernel_rfl)
theorem L19_TempfileReads_J2_eq (x0 x1 x2:AV) (H0 H:Hp):L19_TempfileReads_J2 x0 x1 x2 H0 H =
    bnd (ibin .gtr x1 (.int .i64 0)) fun t42=>
    bnd (gdv t42 true (.tuple []) (some x1)) fun t44=>
    bnd (gdv t42 true (.tuple []) (some x0)) fun t45=>
    bnd (gdv t42 true (.tuple []) (alenD (.slice 9) t45)) fun t46=>
    bnd (gdv t42 true (.tuple []) (ibin .lss t44 t46)) fun t47=>
    bnd (apick t42 t47 (.bool false)) fun t48=>
    cnd t48
     (L19_TempfileReads_J3 x0 x2 x1 H0 H)
     (L19_TempfileReads_J3 x0 x2 (.int .i64 0) H0 H):=(CXM_eq [3,5,6,8,11,15,19,22,26] _ _ _ _).trans (by kernel_rfl)
theorem L19_TempfileReads_J9_eq (x0 x1 x2 x7:AV) (H0 H:Hp):L19_TempfileReads_J9 x0 x1 x2 x7 H0 H =
    bnd (ibin .add x7 (.int .i64 1)) fun t33=>
    L19_TempfileReads_L1 x0 x1 x2 t33 H0 H:=(CXM_eq [3,5,6,8,11,15,19,22,26] _ _ _ _).trans (by kernel_rfl)
theorem L19_TempfileReads_J8_eq (x0 x1 x2 x7:AV) (H0 H:Hp):L19_TempfileReads_J8 x0 x1 x2 x7 H0 H =
    bnd (aindexS 1 x0 x7) fun t36=>
    bnd (aload false 1 t36 H) fun t37=>
    bnd (alenD .string t37) fun t38=>
    bnd (ibin .gtr t38 (.int .i64 4096)) fun t39=>
    cnd t39
     (bnd (C_L19_awake [] H) fun r40=>
     some (r40.1,r40.2))
     (L19_TempfileReads_J9 x0 x1 x2 x7 H0 H):=(CXM_eq [3,5,6,8,11,15,19,22,26] _ _ _ _).trans (by kernel_rfl)
theorem L19_TempfileReads_L1_eq (x0 x1 x2 x7:AV) (H0 H:Hp):L19_TempfileReads_L1 x0 x1 x2 x7 H0 H =
    bnd (alenD (.slice 9) x0) fun t30=>
    bnd (ibin .lss x7 t30) fun t31=>
    cnd t31
     (L19_TempfileReads_J8 x0 x1 x2 x7 H0 H)
     (L19_TempfileReads_J2 x0 x1 x2 H0 H):=(LPL_eqm (C:=cfg) [3,5,6,8,11,15,19,22,26] (tame_block 0 (L19_TempfileReads_K1_tame H0)) _ _).trans (by kernel_rfl)
theorem L19_TempfileReads_J1_eq (x0 x1 x2:AV) (H0 H:Hp):L19_TempfileReads_J1 x0 x1 x2 H0 H =
    L19_TempfileReads_L1 x0 x1 x2 (.int .i64 0) H0 H:=(CXM_eq [3,5,6,8,11,15,19,22,26] _ _ _ _).trans (by kernel_rfl)
theorem F_L19_TempfileReads_eq (p0 p1 p2:AV) (H:Hp):C_L19_TempfileReads [p0,p1,p2] H=F_L19_TempfileReads p0 p1 p2 H:=(callw_cxm (C:=cfg) (fn:=Tryd.f4) (c:=bodyOf Tryd.f4) (n:=167) [3,5,6,8,11,15,19,22,26] Tryd.func4 (by kernel_rfl) (by kernel_rfl) [p0,p1,p2] (by kernel_rfl) H).trans (by kernel_rfl)

def L19_awake_J2 (x1 x2:AV) (H0 H:Hp):Res:=CXgL 7 94 (sub (bodyOf Tryd.f7) [1,1,1,1,1,1,1,1,1]) (retL cfg 94 7 Tryd.f7 H0) [(1,x1),(2,x2)] H
def L19_awake_J1 (x1 x2:AV) (H0 H:Hp):Res:=CXgL 7 94 (sub (bodyOf Tryd.f7) [1,1,1,1]) (retL cfg 94 7 Tryd.f7 H0) [(1,x1),(2,x2)] H
def F_L19_awake (H:Hp):Res:=
 bnd (C_store_New [(.int .i64 1000)] H) fun r13=>
 bnd (C_tempfile_Open [r13.1,(.str [115,111,114,116]),(.int .i64 100)] r13.2) fun r16=>
 bnd (aext r16.1 0) fun t17=>
 bnd (aext r16.1 1) fun t18=>
 bnd (ibin .neq t18 (.int .i64 0)) fun t20=>
 bnd (gdv t20 false (.tuple []) (some t17)) fun t22=>
 bnd (gdv t20 false (.tuple []) (ebin (.pointer 89) .eql t22 .nilp)) fun t23=>
 bnd (apick t20 (.bool true) t23) fun t24=>
 cnd t24
  (some ((.bool false),r16.2))
  (L19_awake_J1 r13.1 t17 H r16.2)
theorem L19_awake_J2_eq (x1 x2:AV) (H0 H:Hp):L19_awake_J2 x1 x2 H0 H =
    bnd (roC C_tempfile_Temps_Used [x2] H) fun r75=>
    bnd (ibin .eql r75.1 (.int .i64 14)) fun t76=>
    bnd (gdv t76 true (.tuple []) (some x1)) fun t78=>
    bnd (gdv t76 true ((.tuple []),r75.2) (roC C_tempfile_Left [t78,(.str [115,111,114,116])] r75.2)) fun r79=>
    bnd (gdv t76 true (.tuple []) (alenD (.slice 9) r79.1)) fun t80=>
    bnd (gdv t76 true (.tuple []) (ibin .eql t80 (.int .i64 1))) fun t81=>
    bnd (apick t76 t81 (.bool false)) fun t82=>
    bnd (gdv t82 true (.tuple []) (some x2)) fun t84=>
    bnd (gdv t82 true ((.tuple []),r79.2) (C_tempfile_Temps_Close [t84] r79.2)) fun r85=>
    bnd (gdv t82 true (.tuple []) (ibin .eql r85.1 (.int .i64 0))) fun t86=>
    bnd (apick t82 t86 (.bool false)) fun t87=>
    bnd (gdv t87 true (.tuple []) (some x1)) fun t89=>
    bnd (gdv t87 true ((.tuple []),r85.2) (roC C_store_Store_List [t89] r85.2)) fun r90=>
    bnd (gdv t87 true (.tuple []) (alenD (.slice 83) r90.1)) fun t91=>
    bnd (gdv t87 true (.tuple []) (ibin .eql t91 (.int .i64 0))) fun t92=>
    bnd (apick t87 t92 (.bool false)) fun t93=>
    some (t93,r90.2):=(CXM_eq [5,11] _ _ _ _).trans (by kernel_rfl)
theorem L19_awake_J1_eq (x1 x2:AV) (H0 H:Hp):L19_awake_J1 x1 x2 H0 H =
    bnd (C_tempfile_Temps_New [x2] H) fun r27=>
    bnd (aext r27.1 0) fun t28=>
    bnd (aext r27.1 1) fun t29=>
    bnd ((setElems 1 [(0,(.str [97])),(1,(.str [98]))] [(.str []),(.str [])]).map (.vs 1 .clip)) fun t32=>
    bnd (C_tempfile_Temps_Write [x2,t28,t32] r27.2) fun r33=>
    bnd (C_tempfile_Temps_Read [x2,t28,(.int .i64 7)] r33.2) fun r37=>
    bnd (aext r37.1 0) fun t38=>
    bnd (aext r37.1 1) fun t39=>
    bnd (aext r37.1 2) fun t40=>
    bnd (C_tempfile_Temps_Read [x2,t28,(.int .i64 14)] r37.2) fun r44=>
    bnd (aext r44.1 0) fun t45=>
    bnd (aext r44.1 1) fun t46=>
    bnd (aext r44.1 2) fun t47=>
    bnd (sbin .neq t28 (.str [46,116,109,112,46,115,111,114,116,46,49])) fun t49=>
    bnd (gdv t49 false (.tuple []) (some t29)) fun t51=>
    bnd (gdv t49 false (.tuple []) (ibin .neq t51 (.int .i64 0))) fun t52=>
    bnd (apick t49 (.bool true) t52) fun t53=>
    bnd (gdv t53 false (.tuple []) (some r33.1)) fun t55=>
    bnd (gdv t53 false (.tuple []) (ibin .neq t55 (.int .i64 0))) fun t56=>
    bnd (apick t53 (.bool true) t56) fun t57=>
    bnd (gdv t57 false (.tuple []) (some t38)) fun t59=>
    bnd (gdv t57 false (.tuple []) (sbin .neq t59 (.str [98]))) fun t60=>
    bnd (apick t57 (.bool true) t60) fun t61=>
    bnd (gdv t61 false (.tuple []) (some t39)) fun t63=>
    bnd (gdv t61 false (.tuple []) (ibin .neq t63 (.int .i64 14))) fun t64=>
    bnd (apick t61 (.bool true) t64) fun t65=>
    bnd (gdv t65 false (.tuple []) (some t40)) fun t67=>
    bnd (gdv t65 false (.tuple []) (ibin .neq t67 (.int .i64 0))) fun t68=>
    bnd (apick t65 (.bool true) t68) fun t69=>
    bnd (gdv t69 false (.tuple []) (some t47)) fun t71=>
    bnd (gdv t69 false (.tuple []) (ibin .neq t71 (.int .i64 5))) fun t72=>
    bnd (apick t69 (.bool true) t72) fun t73=>
    cnd t73
     (some ((.bool false),r44.2))
     (L19_awake_J2 x1 x2 H0 r44.2):=(CXM_eq [5,11] _ _ _ _).trans (by kernel_rfl)
theorem F_L19_awake_eq (H:Hp):C_L19_awake [] H=F_L19_awake H:=(callw_cxm (C:=cfg) (fn:=Tryd.f7) (c:=bodyOf Tryd.f7) (n:=94) [5,11] Tryd.func7 (by kernel_rfl) (by kernel_rfl) [] (by kernel_rfl) H).trans (by kernel_rfl)

def L19_sameNames_J2 (H0 H:Hp):Res:=CXgL 16 26 (sub (bodyOf Tryd.f16) [1,1,1]) (retL cfg 26 16 Tryd.f16 H0) [] H
def L19_sameNames_K1 (H0:Hp):KL:=seqL (fun k al H=>CXgL 16 26 (sub (bodyOf Tryd.f16) [1,1,1]) k (trimL (cfg.keep 16) (sub (bodyOf Tryd.f16) [1,1,1]) al) H) (retL cfg 26 16 Tryd.f16 H0)
theorem L19_sameNames_K1_tame (H0:Hp):Tame 26 (L19_sameNames_K1 H0):=tame_seq (C:=cfg) (kp:=cfg.keep 16) (sub (bodyOf Tryd.f16) [1,1,1]) (tame_ret 16 Tryd.f16 H0)
def L19_sameNames_J4 (x0 x1 x5:AV) (H0 H:Hp):Res:=CXgL 16 26 (sub (bodyOf Tryd.f16) [1,1,0,1,0,0,1,1]) (seqL (fun k al H=>LPgL 16 26 (sub (bodyOf Tryd.f16) [1,1,0,1,0,0]) k (trimL (cfg.keep 16) (sub (bodyOf Tryd.f16) [1,1,0,1,0,0]) al) H) (blockL 0 (L19_sameNames_K1 H0))) [(0,x0),(1,x1),(5,x5)] H
def L19_sameNames_J3 (x0 x1 x5:AV) (H0 H:Hp):Res:=CXgL 16 26 (sub (bodyOf Tryd.f16) [1,1,0,1,0,0,1]) (seqL (fun k al H=>LPgL 16 26 (sub (bodyOf Tryd.f16) [1,1,0,1,0,0]) k (trimL (cfg.keep 16) (sub (bodyOf Tryd.f16) [1,1,0,1,0,0]) al) H) (blockL 0 (L19_sameNames_K1 H0))) [(0,x0),(1,x1),(5,x5)] H
def L19_sameNames_L1 (x0 x1 x5:AV) (H0 H:Hp):Res:=LPgL 16 26 (sub (bodyOf Tryd.f16) [1,1,0,1,0,0]) (blockL 0 (L19_sameNames_K1 H0)) [(0,x0),(1,x1),(5,x5)] H
def L19_sameNames_J1 (x0 x1:AV) (H0 H:Hp):Res:=CXgL 16 26 (sub (bodyOf Tryd.f16) [1,1]) (retL cfg 26 16 Tryd.f16 H0) [(0,x0),(1,x1)] H
def F_L19_sameNames (p0 p1:AV) (H:Hp):Res:=
 bnd (alenD (.slice 9) p0) fun t7=>
 bnd (alenD (.slice 9) p1) fun t9=>
 bnd (ibin .neq t7 t9) fun t10=>
 cnd t10
  (some ((.bool false),H))
  (L19_sameNames_J1 p0 p1 H H)
theorem L19_sameNames_J2_eq (H0 H:Hp):L19_sameNames_J2 H0 H =
    some ((.bool true),H):=(CXM_eq [3,5,6,8] _ _ _ _).trans (by kernel_rfl)
theorem L19_sameNames_J4_eq (x0 x1 x5:AV) (H0 H:Hp):L19_sameNames_J4 x0 x1 x5 H0 H =
    bnd (ibin .add x5 (.int .i64 1)) fun t16=>
    L19_sameNames_L1 x0 x1 t16 H0 H:=(CXM_eq [3,5,6,8] _ _ _ _).trans (by kernel_rfl)
theorem L19_sameNames_J3_eq (x0 x1 x5:AV) (H0 H:Hp):L19_sameNames_J3 x0 x1 x5 H0 H =
    bnd (aindexS 1 x0 x5) fun t19=>
    bnd (aload false 1 t19 H) fun t20=>
    bnd (aindexS 1 x1 x5) fun t23=>
    bnd (aload false 1 t23 H) fun t24=>
    bnd (sbin .neq t20 t24) fun t25=>
    cnd t25
     (some ((.bool false),H))
     (L19_sameNames_J4 x0 x1 x5 H0 H):=(CXM_eq [3,5,6,8] _ _ _ _).trans (by kernel_rfl)
theorem L19_sameNames_L1_eq (x0 x1 x5:AV) (H0 H:Hp):L19_sameNames_L1 x0 x1 x5 H0 H =
    bnd (alenD (.slice 9) x0) fun t13=>
    bnd (ibin .lss x5 t13) fun t14=>
    cnd t14
     (L19_sameNames_J3 x0 x1 x5 H0 H)
     (L19_sameNames_J2 H0 H):=(LPL_eqm (C:=cfg) [3,5,6,8] (tame_block 0 (L19_sameNames_K1_tame H0)) _ _).trans (by kernel_rfl)
theorem L19_sameNames_J1_eq (x0 x1:AV) (H0 H:Hp):L19_sameNames_J1 x0 x1 H0 H =
    L19_sameNames_L1 x0 x1 (.int .i64 0) H0 H:=(CXM_eq [3,5,6,8] _ _ _ _).trans (by kernel_rfl)
theorem F_L19_sameNames_eq (p0 p1:AV) (H:Hp):C_L19_sameNames [p0,p1] H=F_L19_sameNames p0 p1 H:=(callw_cxm (C:=cfg) (fn:=Tryd.f16) (c:=bodyOf Tryd.f16) (n:=26) [3,5,6,8] Tryd.func16 (by kernel_rfl) (by kernel_rfl) [p0,p1] (by kernel_rfl) H).trans (by kernel_rfl)

def L19_small_J2 (x3:AV) (H0 H:Hp):Res:=CXgL 20 39 (sub (bodyOf Tryd.f20) [1,1,1,1]) (retL cfg 39 20 Tryd.f20 H0) [(3,x3)] H
def L19_small_K1 (H0:Hp):KL:=seqL (fun k al H=>CXgL 20 39 (sub (bodyOf Tryd.f20) [1,1,1,1]) k (trimL (cfg.keep 20) (sub (bodyOf Tryd.f20) [1,1,1,1]) al) H) (retL cfg 39 20 Tryd.f20 H0)
theorem L19_small_K1_tame (H0:Hp):Tame 39 (L19_small_K1 H0):=tame_seq (C:=cfg) (kp:=cfg.keep 20) (sub (bodyOf Tryd.f20) [1,1,1,1]) (tame_ret 20 Tryd.f20 H0)
def L19_small_J4 (x1 x3 x4:AV) (H0 H:Hp):Res:=CXgL 20 39 (sub (bodyOf Tryd.f20) [1,1,1,0,1,0,0,1,1]) (seqL (fun k al H=>LPgL 20 39 (sub (bodyOf Tryd.f20) [1,1,1,0,1,0,0]) k (trimL (cfg.keep 20) (sub (bodyOf Tryd.f20) [1,1,1,0,1,0,0]) al) H) (blockL 0 (L19_small_K1 H0))) [(1,x1),(3,x3),(4,x4)] H
def L19_small_K2 (H0:Hp):KL:=seqL (fun k al H=>CXgL 20 39 (sub (bodyOf Tryd.f20) [1,1,1,0,1,0,0,1,1]) k (trimL (cfg.keep 20) (sub (bodyOf Tryd.f20) [1,1,1,0,1,0,0,1,1]) al) H) (seqL (fun k al H=>LPgL 20 39 (sub (bodyOf Tryd.f20) [1,1,1,0,1,0,0]) k (trimL (cfg.keep 20) (sub (bodyOf Tryd.f20) [1,1,1,0,1,0,0]) al) H) (blockL 0 (L19_small_K1 H0)))
def L19_small_J5 (x1 x3 x4:AV) (H0 H:Hp):Res:=CXgL 20 39 (sub (bodyOf Tryd.f20) [1,1,1,0,1,0,0,1,0,0,1]) (blockL 1 (L19_small_K2 H0)) [(1,x1),(3,x3),(4,x4)] H
def L19_small_J3 (x1 x3 x4:AV) (H0 H:Hp):Res:=CXgL 20 39 (sub (bodyOf Tryd.f20) [1,1,1,0,1,0,0,1]) (seqL (fun k al H=>LPgL 20 39 (sub (bodyOf Tryd.f20) [1,1,1,0,1,0,0]) k (trimL (cfg.keep 20) (sub (bodyOf Tryd.f20) [1,1,1,0,1,0,0]) al) H) (blockL 0 (L19_small_K1 H0))) [(1,x1),(3,x3),(4,x4)] H
def L19_small_L1 (x1 x3 x4:AV) (H0 H:Hp):Res:=LPgL 20 39 (sub (bodyOf Tryd.f20) [1,1,1,0,1,0,0]) (blockL 0 (L19_small_K1 H0)) [(1,x1),(3,x3),(4,x4)] H
def L19_small_J1 (x1:AV) (H0 H:Hp):Res:=CXgL 20 39 (sub (bodyOf Tryd.f20) [1,1]) (retL cfg 39 20 Tryd.f20 H0) [(1,x1)] H
def F_L19_small (p0:AV) (H:Hp):Res:=
 bnd (abox p0 H) fun r1=>
 bnd (afield 2 r1.1) fun t5=>
 bnd (aload false 1 t5 r1.2) fun t6=>
 bnd (alenD (.slice 9) t6) fun t7=>
 bnd (ibin .gtr t7 (.int .i64 8)) fun t8=>
 bnd (gdv t8 false (.tuple []) (afield 1 r1.1)) fun t10=>
 bnd (gdv t8 false (.tuple []) (aload false 1 t10 r1.2)) fun t11=>
 bnd (gdv t8 false (.tuple []) (alenD .string t11)) fun t12=>
 bnd (gdv t8 false (.tuple []) (ibin .gtr t12 (.int .i64 100))) fun t13=>
 bnd (apick t8 (.bool true) t13) fun t14=>
 cnd t14
  (some ((.bool false),r1.2))
  (L19_small_J1 r1.1 H r1.2)
theorem L19_small_J2_eq (x3:AV) (H0 H:Hp):L19_small_J2 x3 H0 H =
    bnd (ibin .leq x3 (.int .i64 5000)) fun t38=>
    some (t38,H):=(CXM_eq [3,6,7,9,10] _ _ _ _).trans (by kernel_rfl)
theorem L19_small_J4_eq (x1 x3 x4:AV) (H0 H:Hp):L19_small_J4 x1 x3 x4 H0 H =
    bnd (ibin .add x4 (.int .i64 1)) fun t21=>
    L19_small_L1 x1 x3 t21 H0 H:=(CXM_eq [3,6,7,9,10] _ _ _ _).trans (by kernel_rfl)
theorem L19_small_J5_eq (x1 x3 x4:AV) (H0 H:Hp):L19_small_J5 x1 x3 x4 H0 H =
    bnd (afield 2 x1) fun t30=>
    bnd (aload false 1 t30 H) fun t31=>
    bnd (aindexS 1 t31 x4) fun t33=>
    bnd (aload false 1 t33 H) fun t34=>
    bnd (alenD .string t34) fun t35=>
    bnd (ibin .add x3 t35) fun t36=>
    L19_small_J4 x1 t36 x4 H0 H:=(CXM_eq [3,6,7,9,10] _ _ _ _).trans (by kernel_rfl)
theorem L19_small_J3_eq (x1 x3 x4:AV) (H0 H:Hp):L19_small_J3 x1 x3 x4 H0 H =
    bnd (afield 2 x1) fun t22=>
    bnd (aload false 1 t22 H) fun t23=>
    bnd (aindexS 1 t23 x4) fun t25=>
    bnd (aload false 1 t25 H) fun t26=>
    bnd (alenD .string t26) fun t27=>
    bnd (ibin .gtr t27 (.int .i64 5000)) fun t28=>
    cnd t28
     (some ((.bool false),H))
     (L19_small_J5 x1 x3 x4 H0 H):=(CXM_eq [3,6,7,9,10] _ _ _ _).trans (by kernel_rfl)
theorem L19_small_L1_eq (x1 x3 x4:AV) (H0 H:Hp):L19_small_L1 x1 x3 x4 H0 H =
    bnd (afield 2 x1) fun t16=>
    bnd (aload false 1 t16 H) fun t17=>
    bnd (alenD (.slice 9) t17) fun t18=>
    bnd (ibin .lss x4 t18) fun t19=>
    cnd t19
     (L19_small_J3 x1 x3 x4 H0 H)
     (L19_small_J2 x3 H0 H):=(LPL_eqm (C:=cfg) [3,6,7,9,10] (tame_block 0 (L19_small_K1_tame H0)) _ _).trans (by kernel_rfl)
theorem L19_small_J1_eq (x1:AV) (H0 H:Hp):L19_small_J1 x1 H0 H =
    L19_small_L1 x1 (.int .i64 0) (.int .i64 0) H0 H:=(CXM_eq [3,6,7,9,10] _ _ _ _).trans (by kernel_rfl)
theorem F_L19_small_eq (p0:AV) (H:Hp):C_L19_small [p0] H=F_L19_small p0 H:=(callw_cxm (C:=cfg) (fn:=Tryd.f20) (c:=bodyOf Tryd.f20) (n:=39) [3,6,7,9,10] Tryd.func20 (by kernel_rfl) (by kernel_rfl) [p0] (by kernel_rfl) H).trans (by kernel_rfl)

def L19_lines_J1 (H0 H:Hp):Res:=CXgL 23 46 (sub (bodyOf Tryd.f23) [1,1,1,1]) (retL cfg 46 23 Tryd.f23 H0) [] H
def L19_lines_K1 (H0:Hp):KL:=seqL (fun k al H=>CXgL 23 46 (sub (bodyOf Tryd.f23) [1,1,1,1]) k (trimL (cfg.keep 23) (sub (bodyOf Tryd.f23) [1,1,1,1]) al) H) (retL cfg 46 23 Tryd.f23 H0)
theorem L19_lines_K1_tame (H0:Hp):Tame 46 (L19_lines_K1 H0):=tame_seq (C:=cfg) (kp:=cfg.keep 23) (sub (bodyOf Tryd.f23) [1,1,1,1]) (tame_ret 23 Tryd.f23 H0)
def L19_lines_J4 (x0 x1 x2 x8 x10 x11:AV) (H0 H:Hp):Res:=CXgL 23 46 (sub (bodyOf Tryd.f23) [1,1,1,0,0,0,1,0,1,1,1]) (blockL 1 (seqL (fun k al H=>LPgL 23 46 (sub (bodyOf Tryd.f23) [1,1,1,0,0,0]) k (trimL (cfg.keep 23) (sub (bodyOf Tryd.f23) [1,1,1,0,0,0]) al) H) (blockL 0 (L19_lines_K1 H0)))) [(0,x0),(1,x1),(2,x2),(8,x8),(10,x10),(11,x11)] H
def L19_lines_J3 (x0 x1 x2 x8 x9 x10 x11 x12:AV) (H0 H:Hp):Res:=CXgL 23 46 (sub (bodyOf Tryd.f23) [1,1,1,0,0,0,1,0,1,1]) (blockL 1 (seqL (fun k al H=>LPgL 23 46 (sub (bodyOf Tryd.f23) [1,1,1,0,0,0]) k (trimL (cfg.keep 23) (sub (bodyOf Tryd.f23) [1,1,1,0,0,0]) al) H) (blockL 0 (L19_lines_K1 H0)))) [(0,x0),(1,x1),(2,x2),(8,x8),(9,x9),(10,x10),(11,x11),(12,x12)] H
def L19_lines_J2 (x0 x1 x2 x8 x9:AV) (H0 H:Hp):Res:=CXgL 23 46 (sub (bodyOf Tryd.f23) [1,1,1,0,0,0,1]) (seqL (fun k al H=>LPgL 23 46 (sub (bodyOf Tryd.f23) [1,1,1,0,0,0]) k (trimL (cfg.keep 23) (sub (bodyOf Tryd.f23) [1,1,1,0,0,0]) al) H) (blockL 0 (L19_lines_K1 H0))) [(0,x0),(1,x1),(2,x2),(8,x8),(9,x9)] H
def L19_lines_L1 (x0 x1 x2 x8 x9:AV) (H0 H:Hp):Res:=LPgL 23 46 (sub (bodyOf Tryd.f23) [1,1,1,0,0,0]) (blockL 0 (L19_lines_K1 H0)) [(0,x0),(1,x1),(2,x2),(8,x8),(9,x9)] H
def F_L19_lines (p0 p1 p2:AV) (H:Hp):Res:=
 L19_lines_L1 p0 p1 p2 .nils (.int .i64 0) H H
theorem L19_lines_J4_eq (x0 x1 x2 x8 x10 x11:AV) (H0 H:Hp):L19_lines_J4 x0 x1 x2 x8 x10 x11 H0 H =
    bnd ((setElems 1 [(0,x10)] [(.str [])]).map (.vs 1 .clip)) fun t43=>
    bnd (aappE 1 16 x8 t43 H) fun r44=>
    L19_lines_L1 x0 x1 x2 r44.1 x11 H0 r44.2:=(CXM_eq [4,7,9,11] _ _ _ _).trans (by kernel_rfl)
theorem L19_lines_J3_eq (x0 x1 x2 x8 x9 x10 x11 x12:AV) (H0 H:Hp):L19_lines_J3 x0 x1 x2 x8 x9 x10 x11 x12 H0 H =
    bnd (ibin .neq x12 (.int .i64 0)) fun t35=>
    bnd (gdv t35 false (.tuple []) (some x11)) fun t37=>
    bnd (gdv t35 false (.tuple []) (some x9)) fun t38=>
    bnd (gdv t35 false (.tuple []) (ibin .leq t37 t38)) fun t39=>
    bnd (apick t35 (.bool true) t39) fun t40=>
    cnd t40
     (some ((.tuple [.nils,(.bool false)]),H))
     (L19_lines_J4 x0 x1 x2 x8 x10 x11 H0 H):=(CXM_eq [4,7,9,11] _ _ _ _).trans (by kernel_rfl)
theorem L19_lines_J2_eq (x0 x1 x2 x8 x9:AV) (H0 H:Hp):L19_lines_J2 x0 x1 x2 x8 x9 H0 H =
    bnd (C_tempfile_Temps_Read [x0,x1,x9] H) fun r21=>
    bnd (aext r21.1 0) fun t22=>
    bnd (aext r21.1 1) fun t23=>
    bnd (aext r21.1 2) fun t24=>
    bnd (ibin .eql t24 (.int .i64 5)) fun t26=>
    cnd t26
     (bnd (sbin .eql t22 (.str [])) fun t29=>
     bnd (gdv t29 true (.tuple []) (some t23)) fun t31=>
     bnd (gdv t29 true (.tuple []) (ibin .eql t31 (.int .i64 0))) fun t32=>
     bnd (apick t29 t32 (.bool false)) fun t33=>
     some ((.tuple [x8,t33]),r21.2))
     (L19_lines_J3 x0 x1 x2 x8 x9 t22 t23 t24 H0 r21.2):=(CXM_eq [4,7,9,11] _ _ _ _).trans (by kernel_rfl)
theorem L19_lines_L1_eq (x0 x1 x2 x8 x9:AV) (H0 H:Hp):L19_lines_L1 x0 x1 x2 x8 x9 H0 H =
    bnd (alenD (.slice 9) x8) fun t14=>
    bnd (ibin .leq t14 x2) fun t16=>
    cnd t16
     (L19_lines_J2 x0 x1 x2 x8 x9 H0 H)
     (L19_lines_J1 H0 H):=(LPL_eqm (C:=cfg) [4,7,9,11] (tame_block 0 (L19_lines_K1_tame H0)) _ _).trans (by kernel_rfl)
theorem F_L19_lines_eq (p0 p1 p2:AV) (H:Hp):C_L19_lines [p0,p1,p2] H=F_L19_lines p0 p1 p2 H:=(callw_cxm (C:=cfg) (fn:=Tryd.f23) (c:=bodyOf Tryd.f23) (n:=46) [4,7,9,11] Tryd.func23 (by kernel_rfl) (by kernel_rfl) [p0,p1,p2] (by kernel_rfl) H).trans (by kernel_rfl)

end
end Go.Am
