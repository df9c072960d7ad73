/-
  The functions of the translation over the abstract machine, a further part: written by program (wip/gen.py).
-/
import Derived.Test.YtebjpfbenjgglaaDoorTdGx
namespace Go.Am
open Go.Proofs
set_option maxRecDepth 100000
set_option linter.unusedVariables false
set_option linter.unusedSimpArgs false
noncomputable abbrev CXgL (f n:Nat):=CXL cfg (callw cfg) (LPL cfg (cfg.keep f) n) (cfg.keep f) n seqL blockL
noncomputable abbrev LPgL (f n:Nat):=LPL cfg (cfg.keep f) n
noncomputable section

def L19_TempfileNames_J3 (x5 x6:AV) (H0 H:Hp):Res:=CXgL 3 103 (sub (bodyOf Tryd.f3) [1,1,1,1,1,1,1,1]) (retL cfg 103 3 Tryd.f3 H0) [(5,x5),(6,x6)] H
def L19_TempfileNames_J2 (x1 x5 x6:AV) (H0 H:Hp):Res:=CXgL 3 103 (sub (bodyOf Tryd.f3) [1,1,1,1]) (retL cfg 103 3 Tryd.f3 H0) [(1,x1),(5,x5),(6,x6)] H
def L19_TempfileNames_K1 (H0:Hp):KL:=seqL (fun k al H=>CXgL 3 103 (sub (bodyOf Tryd.f3) [1,1,1,1]) k (trimL (cfg.keep 3) (sub (bodyOf Tryd.f3) [1,1,1,1]) al) H) (retL cfg 103 3 Tryd.f3 H0)
theorem L19_TempfileNames_K1_tame (H0:Hp):Tame 103 (L19_TempfileNames_K1 H0):=tame_seq (C:=cfg) (kp:=cfg.keep 3) (sub (bodyOf Tryd.f3) [1,1,1,1]) (tame_ret 3 Tryd.f3 H0)
def L19_TempfileNames_J5 (x0 x1 x5 x6 x7:AV) (H0 H:Hp):Res:=CXgL 3 103 (sub (bodyOf Tryd.f3) [1,1,1,0,1,0,0,1,1]) (seqL (fun k al H=>LPgL 3 103 (sub (bodyOf Tryd.f3) [1,1,1,0,1,0,0]) k (trimL (cfg.keep 3) (sub (bodyOf Tryd.f3) [1,1,1,0,1,0,0]) al) H) (blockL 0 (L19_TempfileNames_K1 H0))) [(0,x0),(1,x1),(5,x5),(6,x6),(7,x7)] H
def L19_TempfileNames_J4 (x0 x1 x5 x6 x7:AV) (H0 H:Hp):Res:=CXgL 3 103 (sub (bodyOf Tryd.f3) [1,1,1,0,1,0,0,1]) (seqL (fun k al H=>LPgL 3 103 (sub (bodyOf Tryd.f3) [1,1,1,0,1,0,0]) k (trimL (cfg.keep 3) (sub (bodyOf Tryd.f3) [1,1,1,0,1,0,0]) al) H) (blockL 0 (L19_TempfileNames_K1 H0))) [(0,x0),(1,x1),(5,x5),(6,x6),(7,x7)] H
def L19_TempfileNames_L1 (x0 x1 x5 x6 x7:AV) (H0 H:Hp):Res:=LPgL 3 103 (sub (bodyOf Tryd.f3) [1,1,1,0,1,0,0]) (blockL 0 (L19_TempfileNames_K1 H0)) [(0,x0),(1,x1),(5,x5),(6,x6),(7,x7)] H
def L19_TempfileNames_J1 (x0 x1:AV) (H0 H:Hp):Res:=CXgL 3 103 (sub (bodyOf Tryd.f3) [1,1]) (retL cfg 103 3 Tryd.f3 H0) [(0,x0),(1,x1)] H
def F_L19_TempfileNames (p0 p1:AV) (H:Hp):Res:=
 bnd (alenD (.slice 9) p0) fun t15=>
 bnd (ibin .gtr t15 (.int .i64 40)) fun t16=>
 bnd (gdv t16 false (.tuple []) (some p1)) fun t18=>
 bnd (gdv t16 false (.tuple []) (alenD .string t18)) fun t19=>
 bnd (gdv t16 false (.tuple []) (ibin .gtr t19 (.int .i64 100))) fun t20=>
 bnd (apick t16 (.bool true) t20) fun t21=>
 cnd t21
  (bnd (C_L19_awake [] H) fun r22=>
  some (r22.1,r22.2))
  (L19_TempfileNames_J1 p0 p1 H H)
theorem L19_TempfileNames_J3_eq (x5 x6:AV) (H0 H:Hp):L19_TempfileNames_J3 x5 x6 H0 H =
    bnd (roC C_store_Store_List [x5] H) fun r96=>
    bnd (roC C_R18_Store_List [x6] r96.2) fun r98=>
    bnd (flatC C_R18_SameFiles [r96.1,r98.1] r98.2) fun r99=>
    bnd (gdv r99.1 true ((.tuple []),r99.2) (C_L19_awake [] r99.2)) fun r101=>
    bnd (apick r99.1 r101.1 (.bool false)) fun t102=>
    some (t102,r101.2):=(CXM_eq [3,6,7,9,14] _ _ _ _).trans (by kernel_rfl)
theorem L19_TempfileNames_J2_eq (x1 x5 x6:AV) (H0 H:Hp):L19_TempfileNames_J2 x1 x5 x6 H0 H =
    bnd (roC C_tempfile_Left [x5,x1] H) fun r63=>
    bnd (roC C_R19_Left [x6,x1] r63.2) fun r66=>
    bnd (C_tempfile_Open [x5,x1,(.int .i64 5)] r66.2) fun r70=>
    bnd (aext r70.1 0) fun t71=>
    bnd (aext r70.1 1) fun t72=>
    bnd (C_R19_Open [x6,x1,(.int .i64 5)] r70.2) fun r76=>
    bnd (aext r76.1 0) fun t77=>
    bnd (aext r76.1 1) fun t78=>
    bnd (flatC C_L19_sameNames [r63.1,r66.1] r76.2) fun r81=>
    bnd (aun .not r81.1) fun t82=>
    bnd (gdv t82 false (.tuple []) (some t71)) fun t84=>
    bnd (gdv t82 false (.tuple []) (ebin (.pointer 89) .eql t84 .nilp)) fun t85=>
    bnd (gdv t82 false (.tuple []) (some t77)) fun t86=>
    bnd (gdv t82 false (.tuple []) (ebin (.pointer 91) .eql t86 .nilp)) fun t87=>
    bnd (gdv t82 false (.tuple []) (ebin .bool .neq t85 t87)) fun t88=>
    bnd (apick t82 (.bool true) t88) fun t89=>
    bnd (gdv t89 false (.tuple []) (some t72)) fun t91=>
    bnd (gdv t89 false (.tuple []) (some t78)) fun t92=>
    bnd (gdv t89 false (.tuple []) (ibin .neq t91 t92)) fun t93=>
    bnd (apick t89 (.bool true) t93) fun t94=>
    cnd t94
     (some ((.bool false),r81.2))
     (L19_TempfileNames_J3 x5 x6 H0 r81.2):=(CXM_eq [3,6,7,9,14] _ _ _ _).trans (by kernel_rfl)
theorem L19_TempfileNames_J5_eq (x0 x1 x5 x6 x7:AV) (H0 H:Hp):L19_TempfileNames_J5 x0 x1 x5 x6 x7 H0 H =
    bnd (ibin .add x7 (.int .i64 1)) fun t30=>
    L19_TempfileNames_L1 x0 x1 x5 x6 t30 H0 H:=(CXM_eq [3,6,7,9,14] _ _ _ _).trans (by kernel_rfl)
theorem L19_TempfileNames_J4_eq (x0 x1 x5 x6 x7:AV) (H0 H:Hp):L19_TempfileNames_J4 x0 x1 x5 x6 x7 H0 H =
    bnd (aindexS 1 x0 x7) fun t33=>
    bnd (aload false 1 t33 H) fun t34=>
    bnd (alenD .string t34) fun t35=>
    bnd (ibin .gtr t35 (.int .i64 100)) fun t36=>
    bnd (gdv t36 false (.tuple []) (some x5)) fun t38=>
    bnd (gdv t36 false (.tuple []) (some x0)) fun t39=>
    bnd (gdv t36 false (.tuple []) (some x7)) fun t40=>
    bnd (gdv t36 false (.tuple []) (aindexS 1 t39 t40)) fun t41=>
    bnd (gdv t36 false (.tuple []) (aload false 1 t41 H)) fun t42=>
    bnd (gdv t36 false ((.tuple []),H) (C_store_Store_Create [t38,t42] H)) fun r43=>
    bnd (gdv t36 false (.tuple []) (some x6)) fun t44=>
    bnd (gdv t36 false (.tuple []) (some x0)) fun t45=>
    bnd (gdv t36 false (.tuple []) (some x7)) fun t46=>
    bnd (gdv t36 false (.tuple []) (aindexS 1 t45 t46)) fun t47=>
    bnd (gdv t36 false (.tuple []) (aloadv false 1 t47)) fun t48=>
    bnd (gdv t36 false ((.tuple []),r43.2) (C_R18_Store_Create [t44,t48] r43.2)) fun r49=>
    bnd (gdv t36 false (.tuple []) (ibin .neq r43.1 r49.1)) fun t50=>
    bnd (apick t36 (.bool true) t50) fun t51=>
    cnd t51
     (bnd (aindexS 1 x0 x7) fun t54=>
     bnd (aload false 1 t54 r49.2) fun t55=>
     bnd (alenD .string t55) fun t56=>
     bnd (ibin .gtr t56 (.int .i64 100)) fun t57=>
     bnd (gdv t57 true ((.tuple []),r49.2) (C_L19_awake [] r49.2)) fun r59=>
     bnd (apick t57 r59.1 (.bool false)) fun t60=>
     some (t60,r59.2))
     (L19_TempfileNames_J5 x0 x1 x5 x6 x7 H0 r49.2):=(CXM_eq [3,6,7,9,14] _ _ _ _).trans (by kernel_rfl)
theorem L19_TempfileNames_L1_eq (x0 x1 x5 x6 x7:AV) (H0 H:Hp):L19_TempfileNames_L1 x0 x1 x5 x6 x7 H0 H =
    bnd (alenD (.slice 9) x0) fun t27=>
    bnd (ibin .lss x7 t27) fun t28=>
    cnd t28
     (L19_TempfileNames_J4 x0 x1 x5 x6 x7 H0 H)
     (L19_TempfileNames_J2 x1 x5 x6 H0 H):=(LPL_eqm (C:=cfg) [3,6,7,9,14] (tame_block 0 (L19_TempfileNames_K1_tame H0)) _ _).trans (by kernel_rfl)
theorem L19_TempfileNames_J1_eq (x0 x1:AV) (H0 H:Hp):L19_TempfileNames_J1 x0 x1 H0 H =
    bnd (C_store_New [(.int .i64 100)] H) fun r23=>
    bnd (C_R18_New [(.int .i64 100)] r23.2) fun r24=>
    L19_TempfileNames_L1 x0 x1 r23.1 r24.1 (.int .i64 0) H0 r24.2:=(CXM_eq [3,6,7,9,14] _ _ _ _).trans (by kernel_rfl)
theorem F_L19_TempfileNames_eq (p0 p1:AV) (H:Hp):C_L19_TempfileNames [p0,p1] H=F_L19_TempfileNames p0 p1 H:=(callw_cxm (C:=cfg) (fn:=Tryd.f3) (c:=bodyOf Tryd.f3) (n:=103) [3,6,7,9,14] Tryd.func3 (by kernel_rfl) (by kernel_rfl) [p0,p1] (by kernel_rfl) H).trans (by kernel_rfl)

def L19_awake_J2 (x1 x2:AV) (H0 H:Hp):Res:=CXgL 7 94 (sub (bodyOf Tryd.f7) [1,1,1,1,1,1,1,1,1]) (retL cfg 94 7 Tryd.f7 H0) [(1,x1),(2,x2)] H
def L19_awake_J1 (x1 x2:AV) (H0 H:Hp):Res:=CXgL 7 94 (sub (bodyOf Tryd.f7) [1,1,1,1]) (retL cfg 94 7 Tryd.f7 H0) [(1,x1),(2,x2)] H
def F_L19_awake (H:Hp):Res:=
 bnd (C_store_New [(.int .i64 1000)] H) fun r13=>
 bnd (C_tempfile_Open [r13.1,(.str [115,111,114,116]),(.int .i64 100)] r13.2) fun r16=>
 bnd (aext r16.1 0) fun t17=>
 bnd (aext r16.1 1) fun t18=>
 bnd (ibin .neq t18 (.int .i64 0)) fun t20=>
 bnd (gdv t20 false (.tuple []) (some t17)) fun t22=>
 bnd (gdv t20 false (.tuple []) (ebin (.pointer 89) .eql t22 .nilp)) fun t23=>
 bnd (apick t20 (.bool true) t23) fun t24=>
 cnd t24
  (some ((.bool false),r16.2))
  (L19_awake_J1 r13.1 t17 H r16.2)
theorem L19_awake_J2_eq (x1 x2:AV) (H0 H:Hp):L19_awake_J2 x1 x2 H0 H =
    bnd (roC C_tempfile_Temps_Used [x2] H) fun r75=>
    bnd (ibin .eql r75.1 (.int .i64 14)) fun t76=>
    bnd (gdv t76 true (.tuple []) (some x1)) fun t78=>
    bnd (gdv t76 true ((.tuple []),r75.2) (roC C_tempfile_Left [t78,(.str [115,111,114,116])] r75.2)) fun r79=>
    bnd (gdv t76 true (.tuple []) (alenD (.slice 9) r79.1)) fun t80=>
    bnd (gdv t76 true (.tuple []) (ibin .eql t80 (.int .i64 1))) fun t81=>
    bnd (apick t76 t81 (.bool false)) fun t82=>
    bnd (gdv t82 true (.tuple []) (some x2)) fun t84=>
    bnd (gdv t82 true ((.tuple []),r79.2) (C_tempfile_Temps_Close [t84] r79.2)) fun r85=>
    bnd (gdv t82 true (.tuple []) (ibin .eql r85.1 (.int .i64 0))) fun t86=>
    bnd (apick t82 t86 (.bool false)) fun t87=>
    bnd (gdv t87 true (.tuple []) (some x1)) fun t89=>
    bnd (gdv t87 true ((.tuple []),r85.2) (roC C_store_Store_List [t89] r85.2)) fun r90=>
    bnd (gdv t87 true (.tuple []) (alenD (.slice 83) r90.1)) fun t91=>
    bnd (gdv t87 true (.tuple []) (ibin .eql t91 (.int .i64 0))) fun t92=>
    bnd (apick t87 t92 (.bool false)) fun t93=>
    some (t93,r90.2):=(CXM_eq [5,11] _ _ _ _).trans (by kernel_rfl)
theorem L19_awake_J1_eq (x1 x2:AV) (H0 H:Hp):L19_awake_J1 x1 x2 H0 H =
    bnd (C_tempfile_Temps_New [x2] H) fun r27=>
    bnd (aext r27.1 0) fun t28=>
    bnd (aext r27.1 1) fun t29=>
    bnd ((setElems 1 [(0,(.str [97])),(1,(.str [98]))] [(.str []),(.str [])]).map (.vs 1 .clip)) fun t32=>
    bnd (C_tempfile_Temps_Write [x2,t28,t32] r27.2) fun r33=>
    bnd (C_tempfile_Temps_Read [x2,t28,(.int .i64 7)] r33.2) fun r37=>
    bnd (aext r37.1 0) fun t38=>
    bnd (aext r37.1 1) fun t39=>
    bnd (aext r37.1 2) fun t40=>
    bnd (C_tempfile_Temps_Read [x2,t28,(.int .i64 14)] r37.2) fun r44=>
    bnd (aext r44.1 0) fun t45=>
    bnd (aext r44.1 1) fun t46=>
    bnd (aext r44.1 2) fun t47=>
    bnd (sbin .neq t28 (.str [46,116,109,112,46,115,111,114,116,46,49])) fun t49=>
    bnd (gdv t49 false (.tuple []) (some t29)) fun t51=>
    bnd (gdv t49 false (.tuple []) (ibin .neq t51 (.int .i64 0))) fun t52=>
    bnd (apick t49 (.bool true) t52) fun t53=>
    bnd (gdv t53 false (.tuple []) (some r33.1)) fun t55=>
    bnd (gdv t53 false (.tuple []) (ibin .neq t55 (.int .i64 0))) fun t56=>
    bnd (apick t53 (.bool true) t56) fun t57=>
    bnd (gdv t57 false (.tuple []) (some t38)) fun t59=>
    bnd (gdv t57 false (.tuple []) (sbin .neq t59 (.str [98]))) fun t60=>
    bnd (apick t57 (.bool true) t60) fun t61=>
    bnd (gdv t61 false (.tuple []) (some t39)) fun t63=>
    bnd (gdv t61 false (.tuple []) (ibin .neq t63 (.int .i64 14))) fun t64=>
    bnd (apick t61 (.bool true) t64) fun t65=>
    bnd (gdv t65 false (.tuple []) (some t40)) fun t67=>
    bnd (gdv t65 false (.tuple []) (ibin .neq t67 (.int .i64 0))) fun t68=>
    bnd (apick t65 (.bool true) t68) fun t69=>
    bnd (gdv t69 false (.tuple []) (some t47)) fun t71=>
    bnd (gdv t69 false (.tuple []) (ibin .neq t71 (.int .i64 5))) fun t72=>
    bnd (apick t69 (.bool true) t72) fun t73=>
    cnd t73
     (some ((.bool false),r44.2))
     (L19_awake_J2 x1 x2 H0 r44.2):=(CXM_eq [5,11] _ _ _ _).trans (by kernel_rfl)
theorem F_L19_awake_eq (H:Hp):C_L19_awake [] H=F_L19_awake H:=(callw_cxm (C:=cfg) (fn:=Tryd.f7) (c:=bodyOf Tryd.f7) (n:=94) [5,11] Tryd.func7 (by kernel_rfl) (by kernel_rfl) [] (by kernel_rfl) H).trans (by kernel_rfl)

def L19_sameNames_J2 (H0 H:Hp):Res:=CXgL 16 26 (sub (bodyOf Tryd.f16) [1,1,1]) (retL cfg 26 16 Tryd.f16 H0) [] H
def L19_sameNames_K1 (H0:Hp):KL:=seqL (fun k al H=>CXgL 16 26 (sub (bodyOf Tryd.f16) [1,1,1]) k (trimL (cfg.keep 16) (sub (bodyOf Tryd.f16) [1,1,1]) al) H) (retL cfg 26 16 Tryd.f16 H0)
theorem L19_sameNames_K1_tame (H0:Hp):Tame 26 (L19_sameNames_K1 H0):=tame_seq (C:=cfg) (kp:=cfg.keep 16) (sub (bodyOf Tryd.f16) [1,1,1]) (tame_ret 16 Tryd.f16 H0)
def L19_sameNames_J4 (x0 x1 x5:AV) (H0 H:Hp):Res:=CXgL 16 26 (sub (bodyOf Tryd.f16) [1,1,0,1,0,0,1,1]) (seqL (fun k al H=>LPgL 16 26 (sub (bodyOf Tryd.f16) [1,1,0,1,0,0]) k (trimL (cfg.keep 16) (sub (bodyOf Tryd.f16) [1,1,0,1,0,0]) al) H) (blockL 0 (L19_sameNames_K1 H0))) [(0,x0),(1,x1),(5,x5)] H
def L19_sameNames_J3 (x0 x1 x5:AV) (H0 H:Hp):Res:=CXgL 16 26 (sub (bodyOf Tryd.f16) [1,1,0,1,0,0,1]) (seqL (fun k al H=>LPgL 16 26 (sub (bodyOf Tryd.f16) [1,1,0,1,0,0]) k (trimL (cfg.keep 16) (sub (bodyOf Tryd.f16) [1,1,0,1,0,0]) al) H) (blockL 0 (L19_sameNames_K1 H0))) [(0,x0),(1,x1),(5,x5)] H
def L19_sameNames_L1 (x0 x1 x5:AV) (H0 H:Hp):Res:=LPgL 16 26 (sub (bodyOf Tryd.f16) [1,1,0,1,0,0]) (blockL 0 (L19_sameNames_K1 H0)) [(0,x0),(1,x1),(5,x5)] H
def L19_sameNames_J1 (x0 x1:AV) (H0 H:Hp):Res:=CXgL 16 26 (sub (bodyOf Tryd.f16) [1,1]) (retL cfg 26 16 Tryd.f16 H0) [(0,x0),(1,x1)] H
def F_L19_sameNames (p0 p1:AV) (H:Hp):Res:=
 bnd (alenD (.slice 9) p0) fun t7=>
 bnd (alenD (.slice 9) p1) fun t9=>
 bnd (ibin .neq t7 t9) fun t10=>
 cnd t10
  (some ((.bool false),H))
  (L19_sameNames_J1 p0 p1 H H)
theorem L19_sameNames_J2_eq (H0 H:Hp):L19_sameNames_J2 H0 H =
    some ((.bool true),H):=(CXM_eq [3,5,6,8] _ _ _ _).trans (by kernel_rfl)
theorem L19_sameNames_J4_eq (x0 x1 x5:AV) (H0 H:Hp):L19_sameNames_J4 x0 x1 x5 H0 H =
    bnd (ibin .add x5 (.int .i64 1)) fun t16=>
    L19_sameNames_L1 x0 x1 t16 H0 H:=(CXM_eq [3,5,6,8] _ _ _ _).trans (by kernel_rfl)
theorem L19_sameNames_J3_eq (x0 x1 x5:AV) (H0 H:Hp):L19_sameNames_J3 x0 x1 x5 H0 H =
    bnd (aindexS 1 x0 x5) fun t19=>
    bnd (aload false 1 t19 H) fun t20=>
    bnd (aindexS 1 x1 x5) fun t23=>
    bnd (aload false 1 t23 H) fun t24=>
    bnd (sbin .neq t20 t24) fun t25=>
    cnd t25
     (some ((.bool false),H))
     (L19_sameNames_J4 x0 x1 x5 H0 H):=(CXM_eq [3,5,6,8] _ _ _ _).trans (by kernel_rfl)
theorem L19_sameNames_L1_eq (x0 x1 x5:AV) (H0 H:Hp):L19_sameNames_L1 x0 x1 x5 H0 H =
    bnd (alenD (.slice 9) x0) fun t13=>
    bnd (ibin .lss x5 t13) fun t14=>
    cnd t14
     (L19_sameNames_J3 x0 x1 x5 H0 H)
     (L19_sameNames_J2 H0 H):=(LPL_eqm (C:=cfg) [3,5,6,8] (tame_block 0 (L19_sameNames_K1_tame H0)) _ _).trans (by kernel_rfl)
theorem L19_sameNames_J1_eq (x0 x1:AV) (H0 H:Hp):L19_sameNames_J1 x0 x1 H0 H =
    L19_sameNames_L1 x0 x1 (.int .i64 0) H0 H:=(CXM_eq [3,5,6,8] _ _ _ _).trans (by kernel_rfl)
theorem F_L19_sameNames_eq (p0 p1:AV) (H:Hp):C_L19_sameNames [p0,p1] H=F_L19_sameNames p0 p1 H:=(callw_cxm (C:=cfg) (fn:=Tryd.f16) (c:=bodyOf Tryd.f16) (n:=26) [3,5,6,8] Tryd.func16 (by kernel_rfl) (by kernel_rfl) [p0,p1] (by kernel_rfl) H).trans (by kernel_rfl)

def R18_SameFiles_J2 (H0 H:Hp):Res:=CXgL 17 26 (sub (bodyOf Tryd.f17) [1,1,1]) (retL cfg 26 17 Tryd.f17 H0) [] H
def R18_SameFiles_K1 (H0:Hp):KL:=seqL (fun k al H=>CXgL 17 26 (sub (bodyOf Tryd.f17) [1,1,1]) k (trimL (cfg.keep 17) (sub (bodyOf Tryd.f17) [1,1,1]) al) H) (retL cfg 26 17 Tryd.f17 H0)
theorem R18_SameFiles_K1_tame (H0:Hp):Tame 26 (R18_SameFiles_K1 H0):=tame_seq (C:=cfg) (kp:=cfg.keep 17) (sub (bodyOf Tryd.f17) [1,1,1]) (tame_ret 17 Tryd.f17 H0)
def R18_SameFiles_J4 (x0 x1 x5:AV) (H0 H:Hp):Res:=CXgL 17 26 (sub (bodyOf Tryd.f17) [1,1,0,1,0,0,1,1]) (seqL (fun k al H=>LPgL 17 26 (sub (bodyOf Tryd.f17) [1,1,0,1,0,0]) k (trimL (cfg.keep 17) (sub (bodyOf Tryd.f17) [1,1,0,1,0,0]) al) H) (blockL 0 (R18_SameFiles_K1 H0))) [(0,x0),(1,x1),(5,x5)] H
def R18_SameFiles_J3 (x0 x1 x5:AV) (H0 H:Hp):Res:=CXgL 17 26 (sub (bodyOf Tryd.f17) [1,1,0,1,0,0,1]) (seqL (fun k al H=>LPgL 17 26 (sub (bodyOf Tryd.f17) [1,1,0,1,0,0]) k (trimL (cfg.keep 17) (sub (bodyOf Tryd.f17) [1,1,0,1,0,0]) al) H) (blockL 0 (R18_SameFiles_K1 H0))) [(0,x0),(1,x1),(5,x5)] H
def R18_SameFiles_L1 (x0 x1 x5:AV) (H0 H:Hp):Res:=LPgL 17 26 (sub (bodyOf Tryd.f17) [1,1,0,1,0,0]) (blockL 0 (R18_SameFiles_K1 H0)) [(0,x0),(1,x1),(5,x5)] H
def R18_SameFiles_J1 (x0 x1:AV) (H0 H:Hp):Res:=CXgL 17 26 (sub (bodyOf Tryd.f17) [1,1]) (retL cfg 26 17 Tryd.f17 H0) [(0,x0),(1,x1)] H
def F_R18_SameFiles (p0 p1:AV) (H:Hp):Res:=
 bnd (alenD (.slice 83) p0) fun t7=>
 bnd (alenD (.slice 83) p1) fun t9=>
 bnd (ibin .neq t7 t9) fun t10=>
 cnd t10
  (some ((.bool false),H))
  (R18_SameFiles_J1 p0 p1 H H)
theorem R18_SameFiles_J2_eq (H0 H:Hp):R18_SameFiles_J2 H0 H =
    some ((.bool true),H):=(CXM_eq [3,5,6,8] _ _ _ _).trans (by kernel_rfl)
theorem R18_SameFiles_J4_eq (x0 x1 x5:AV) (H0 H:Hp):R18_SameFiles_J4 x0 x1 x5 H0 H =
    bnd (ibin .add x5 (.int .i64 1)) fun t16=>
    R18_SameFiles_L1 x0 x1 t16 H0 H:=(CXM_eq [3,5,6,8] _ _ _ _).trans (by kernel_rfl)
theorem R18_SameFiles_J3_eq (x0 x1 x5:AV) (H0 H:Hp):R18_SameFiles_J3 x0 x1 x5 H0 H =
    bnd (aindexS 3 x0 x5) fun t19=>
    bnd (aload true 3 t19 H) fun t20=>
    bnd (aindexS 3 x1 x5) fun t23=>
    bnd (aload true 3 t23 H) fun t24=>
    bnd (aeqBin Tryd.prog cfg.eqok .neq 83 t20 t24) fun t25=>
    cnd t25
     (some ((.bool false),H))
     (R18_SameFiles_J4 x0 x1 x5 H0 H):=(CXM_eq [3,5,6,8] _ _ _ _).trans (by kernel_rfl)
theorem R18_SameFiles_L1_eq (x0 x1 x5:AV) (H0 H:Hp):R18_SameFiles_L1 x0 x1 x5 H0 H =
    bnd (alenD (.slice 83) x0) fun t13=>
    bnd (ibin .lss x5 t13) fun t14=>
    cnd t14
     (R18_SameFiles_J3 x0 x1 x5 H0 H)
     (R18_SameFiles_J2 H0 H):=(LPL_eqm (C:=cfg) [3,5,6,8] (tame_block 0 (R18_SameFiles_K1_tame H0)) _ _).trans (by kernel_rfl)
theorem R18_SameFiles_J1_eq (x0 x1:AV) (H0 H:Hp):R18_SameFiles_J1 x0 x1 H0 H =
    R18_SameFiles_L1 x0 x1 (.int .i64 0) H0 H:=(CXM_eq [3,5,6,8] _ _ _ _).trans (by kernel_rfl)
theorem F_R18_SameFiles_eq (p0 p1:AV) (H:Hp):C_R18_SameFiles [p0,p1] H=F_R18_SameFiles p0 p1 H:=(callw_cxm (C:=cfg) (fn:=Tryd.f17) (c:=bodyOf Tryd.f17) (n:=26) [3,5,6,8] Tryd.func17 (by kernel_rfl) (by kernel_rfl) [p0,p1] (by kernel_rfl) H).trans (by kernel_rfl)

end
end Go.Am
