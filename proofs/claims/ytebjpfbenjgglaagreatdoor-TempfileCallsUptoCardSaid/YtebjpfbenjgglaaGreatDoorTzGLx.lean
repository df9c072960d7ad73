/-
  The functions of the translation over the abstract machine, a further part: written by program (wip/gen.py).
-/
import Derived.Test.YtebjpfbenjgglaaGreatDoorTzGx
namespace Go.Am
open Go.Proofs
set_option maxRecDepth 100000
set_option linter.unusedVariables false
set_option linter.unusedSimpArgs false
noncomputable abbrev CXgL (f n:Nat):=CXL cfg (callw cfg) (LPL cfg (cfg.keep f) n) (cfg.keep f) n seqL blockL
noncomputable abbrev LPgL (f n:Nat):=LPL cfg (cfg.keep f) n
noncomputable section

def L19_TempfileCalls_J3 (H0 H:Hp):Res:=CXgL 3 113 (sub (bodyOf Tryz.f3) [1,1,1,1,1,1,1]) (retL cfg 113 3 Tryz.f3 H0) [] H
def L19_TempfileCalls_K1 (H0:Hp):KL:=seqL (fun k al H=>CXgL 3 113 (sub (bodyOf Tryz.f3) [1,1,1,1,1,1,1]) k (trimL (cfg.keep 3) (sub (bodyOf Tryz.f3) [1,1,1,1,1,1,1]) al) H) (retL cfg 113 3 Tryz.f3 H0)
theorem L19_TempfileCalls_K1_tame (H0:Hp):Tame 113 (L19_TempfileCalls_K1 H0):=tame_seq (C:=cfg) (kp:=cfg.keep 3) (sub (bodyOf Tryz.f3) [1,1,1,1,1,1,1]) (tame_ret 3 Tryz.f3 H0)
def L19_TempfileCalls_J5 (x1 x2 x7 x8 x9 x11 x13:AV) (H0 H:Hp):Res:=CXgL 3 113 (sub (bodyOf Tryz.f3) [1,1,1,1,1,1,0,1,0,0,1,1]) (seqL (fun k al H=>LPgL 3 113 (sub (bodyOf Tryz.f3) [1,1,1,1,1,1,0,1,0,0]) k (trimL (cfg.keep 3) (sub (bodyOf Tryz.f3) [1,1,1,1,1,1,0,1,0,0]) al) H) (blockL 0 (L19_TempfileCalls_K1 H0))) [(1,x1),(2,x2),(7,x7),(8,x8),(9,x9),(11,x11),(13,x13)] H
def L19_TempfileCalls_J4 (x1 x2 x7 x8 x9 x11 x13:AV) (H0 H:Hp):Res:=CXgL 3 113 (sub (bodyOf Tryz.f3) [1,1,1,1,1,1,0,1,0,0,1]) (seqL (fun k al H=>LPgL 3 113 (sub (bodyOf Tryz.f3) [1,1,1,1,1,1,0,1,0,0]) k (trimL (cfg.keep 3) (sub (bodyOf Tryz.f3) [1,1,1,1,1,1,0,1,0,0]) al) H) (blockL 0 (L19_TempfileCalls_K1 H0))) [(1,x1),(2,x2),(7,x7),(8,x8),(9,x9),(11,x11),(13,x13)] H
def L19_TempfileCalls_L1 (x1 x2 x7 x8 x9 x11 x13:AV) (H0 H:Hp):Res:=LPgL 3 113 (sub (bodyOf Tryz.f3) [1,1,1,1,1,1,0,1,0,0]) (blockL 0 (L19_TempfileCalls_K1 H0)) [(1,x1),(2,x2),(7,x7),(8,x8),(9,x9),(11,x11),(13,x13)] H
def L19_TempfileCalls_J2 (x1 x2 x7 x8 x9 x11:AV) (H0 H:Hp):Res:=CXgL 3 113 (sub (bodyOf Tryz.f3) [1,1,1,1,1,1]) (retL cfg 113 3 Tryz.f3 H0) [(1,x1),(2,x2),(7,x7),(8,x8),(9,x9),(11,x11)] H
def L19_TempfileCalls_J1 (x0 x1 x2:AV) (H0 H:Hp):Res:=CXgL 3 113 (sub (bodyOf Tryz.f3) [1,1]) (retL cfg 113 3 Tryz.f3 H0) [(0,x0),(1,x1),(2,x2)] H
def F_L19_TempfileCalls (p0 p1 p2:AV) (H:Hp):Res:=
 bnd (flatC C_L19_few [p2] H) fun r17=>
 bnd (aun .not r17.1) fun t18=>
 bnd (gdv t18 false (.tuple []) (some p1)) fun t20=>
 bnd (gdv t18 false (.tuple []) (alenD .string t20)) fun t21=>
 bnd (gdv t18 false (.tuple []) (ibin .gtr t21 (.int .i64 100))) fun t22=>
 bnd (apick t18 (.bool true) t22) fun t23=>
 cnd t23
  (bnd (C_L19_awake [] r17.2) fun r24=>
  some (r24.1,r24.2))
  (L19_TempfileCalls_J1 p0 p1 p2 H r17.2)
theorem L19_TempfileCalls_J3_eq (H0 H:Hp):L19_TempfileCalls_J3 H0 H =
    bnd (C_L19_awake [] H) fun r112=>
    some (r112.1,r112.2):=(CXM_eq [3,8,10,11,16] _ _ _ _).trans (by kernel_rfl)
theorem L19_TempfileCalls_J5_eq (x1 x2 x7 x8 x9 x11 x13:AV) (H0 H:Hp):L19_TempfileCalls_J5 x1 x2 x7 x8 x9 x11 x13 H0 H =
    bnd (ibin .add x13 (.int .i64 1)) fun t56=>
    L19_TempfileCalls_L1 x1 x2 x7 x8 x9 x11 t56 H0 H:=(CXM_eq [3,8,10,11,16] _ _ _ _).trans (by kernel_rfl)
theorem L19_TempfileCalls_J4_eq (x1 x2 x7 x8 x9 x11 x13:AV) (H0 H:Hp):L19_TempfileCalls_J4 x1 x2 x7 x8 x9 x11 x13 H0 H =
    bnd (some ((.ptr H.length 0),H++[.cells [(.str []),(.int .i64 0),(.int .i64 0)]])) fun r14=>
    bnd (some ((.ptr r14.2.length 0),r14.2++[.cells [(.str []),(.int .i64 0),(.int .i64 0)]])) fun r15=>
    bnd (aindexS 5 x2 x13) fun t62=>
    bnd (aload true 5 t62 r15.2) fun t63=>
    bnd (C_L19_do [x7,x9,t63] r15.2) fun r64=>
    bnd (aext r64.1 0) fun t65=>
    bnd (aext r64.1 1) fun t66=>
    bnd (astoreU 3 r14.1 t66 r64.2) fun r_18=>
    bnd (aindexS 5 x2 x13) fun t72=>
    bnd (aload true 5 t72 r_18.2) fun t73=>
    bnd (C_L19_model [x8,x11,t73] r_18.2) fun r74=>
    bnd (aext r74.1 0) fun t75=>
    bnd (aext r74.1 1) fun t76=>
    bnd (astoreU 3 r15.1 t76 r74.2) fun r_24=>
    bnd (aload true 3 r14.1 r_24.2) fun t77=>
    bnd (aload true 3 r15.1 r_24.2) fun t78=>
    bnd (aeqBin Tryz.prog cfg.eqok .neq 37 t77 t78) fun t79=>
    bnd (gdv t79 false (.tuple []) (some t65)) fun t81=>
    bnd (gdv t79 false (.tuple []) (ebin (.pointer 77) .eql t81 .nilp)) fun t82=>
    bnd (gdv t79 false (.tuple []) (some t75)) fun t83=>
    bnd (gdv t79 false (.tuple []) (ebin (.pointer 79) .eql t83 .nilp)) fun t84=>
    bnd (gdv t79 false (.tuple []) (ebin .bool .neq t82 t84)) fun t85=>
    bnd (apick t79 (.bool true) t85) fun t86=>
    bnd (gdv t86 false (.tuple []) (some t65)) fun t88=>
    bnd (gdv t86 false ((.tuple []),r_24.2) (roC C_tempfile_Temps_Used [t88] r_24.2)) fun r89=>
    bnd (gdv t86 false (.tuple []) (some t75)) fun t90=>
    bnd (gdv t86 false ((.tuple []),r89.2) (roC C_R19_Temps_Used [t90] r89.2)) fun r91=>
    bnd (gdv t86 false (.tuple []) (ibin .neq r89.1 r91.1)) fun t92=>
    bnd (apick t86 (.bool true) t92) fun t93=>
    bnd (gdv t93 false (.tuple []) (some x7)) fun t95=>
    bnd (gdv t93 false ((.tuple []),r91.2) (roC C_store_Store_List [t95] r91.2)) fun r96=>
    bnd (gdv t93 false (.tuple []) (some x8)) fun t97=>
    bnd (gdv t93 false ((.tuple []),r96.2) (roC C_R18_Store_List [t97] r96.2)) fun r98=>
    bnd (gdv t93 false ((.tuple []),r98.2) (flatC C_R18_SameFiles [r96.1,r98.1] r98.2)) fun r99=>
    bnd (gdv t93 false (.tuple []) (aun .not r99.1)) fun t100=>
    bnd (apick t93 (.bool true) t100) fun t101=>
    bnd (gdv t101 false (.tuple []) (some x7)) fun t103=>
    bnd (gdv t101 false (.tuple []) (some x1)) fun t104=>
    bnd (gdv t101 false ((.tuple []),r99.2) (roC C_tempfile_Left [t103,t104] r99.2)) fun r105=>
    bnd (gdv t101 false (.tuple []) (some x8)) fun t106=>
    bnd (gdv t101 false (.tuple []) (some x1)) fun t107=>
    bnd (gdv t101 false ((.tuple []),r105.2) (roC C_R19_Left [t106,t107] r105.2)) fun r108=>
    bnd (gdv t101 false ((.tuple []),r108.2) (flatC C_L19_sameNames [r105.1,r108.1] r108.2)) fun r109=>
    bnd (gdv t101 false (.tuple []) (aun .not r109.1)) fun t110=>
    bnd (apick t101 (.bool true) t110) fun t111=>
    cnd t111
     (some ((.bool false),r109.2))
     (L19_TempfileCalls_J5 x1 x2 x7 x8 t65 t75 x13 H0 r109.2):=(CXM_eq [3,8,10,11,16] _ _ _ _).trans (by kernel_rfl)
theorem L19_TempfileCalls_L1_eq (x1 x2 x7 x8 x9 x11 x13:AV) (H0 H:Hp):L19_TempfileCalls_L1 x1 x2 x7 x8 x9 x11 x13 H0 H =
    bnd (alenD (.slice 43) x2) fun t53=>
    bnd (ibin .lss x13 t53) fun t54=>
    cnd t54
     (L19_TempfileCalls_J4 x1 x2 x7 x8 x9 x11 x13 H0 H)
     (L19_TempfileCalls_J3 H0 H):=(LPL_eqm (C:=cfg) [3,8,10,11,16] (tame_block 0 (L19_TempfileCalls_K1_tame H0)) _ _).trans (by kernel_rfl)
theorem L19_TempfileCalls_J2_eq (x1 x2 x7 x8 x9 x11:AV) (H0 H:Hp):L19_TempfileCalls_J2 x1 x2 x7 x8 x9 x11 H0 H =
    L19_TempfileCalls_L1 x1 x2 x7 x8 x9 x11 (.int .i64 0) H0 H:=(CXM_eq [3,8,10,11,16] _ _ _ _).trans (by kernel_rfl)
theorem L19_TempfileCalls_J1_eq (x0 x1 x2:AV) (H0 H:Hp):L19_TempfileCalls_J1 x0 x1 x2 H0 H =
    bnd (C_store_New [x0] H) fun r26=>
    bnd (C_R18_New [x0] r26.2) fun r28=>
    bnd (C_tempfile_Open [r26.1,x1,(.int .i64 9000)] r28.2) fun r32=>
    bnd (aext r32.1 0) fun t33=>
    bnd (aext r32.1 1) fun t34=>
    bnd (C_R19_Open [r28.1,x1,(.int .i64 9000)] r32.2) fun r38=>
    bnd (aext r38.1 0) fun t39=>
    bnd (aext r38.1 1) fun t40=>
    bnd (ibin .neq t34 t40) fun t43=>
    bnd (gdv t43 false (.tuple []) (some t33)) fun t45=>
    bnd (gdv t43 false (.tuple []) (ebin (.pointer 77) .eql t45 .nilp)) fun t46=>
    bnd (gdv t43 false (.tuple []) (some t39)) fun t47=>
    bnd (gdv t43 false (.tuple []) (ebin (.pointer 79) .eql t47 .nilp)) fun t48=>
    bnd (gdv t43 false (.tuple []) (ebin .bool .neq t46 t48)) fun t49=>
    bnd (apick t43 (.bool true) t49) fun t50=>
    cnd t50
     (some ((.bool false),r38.2))
     (L19_TempfileCalls_J2 x1 x2 r26.1 r28.1 t33 t39 H0 r38.2):=(CXM_eq [3,8,10,11,16] _ _ _ _).trans (by kernel_rfl)
theorem F_L19_TempfileCalls_eq (p0 p1 p2:AV) (H:Hp):C_L19_TempfileCalls [p0,p1,p2] H=F_L19_TempfileCalls p0 p1 p2 H:=(callw_cxm (C:=cfg) (fn:=Tryz.f3) (c:=bodyOf Tryz.f3) (n:=113) [3,8,10,11,16] Tryz.func3 (by kernel_rfl) (by kernel_rfl) [p0,p1,p2] (by kernel_rfl) H).trans (by kernel_rfl)

def L19_few_J1 (H0 H:Hp):Res:=CXgL 5 20 (sub (bodyOf Tryz.f5) [1,1]) (retL cfg 20 5 Tryz.f5 H0) [] H
def L19_few_K1 (H0:Hp):KL:=seqL (fun k al H=>CXgL 5 20 (sub (bodyOf Tryz.f5) [1,1]) k (trimL (cfg.keep 5) (sub (bodyOf Tryz.f5) [1,1]) al) H) (retL cfg 20 5 Tryz.f5 H0)
theorem L19_few_K1_tame (H0:Hp):Tame 20 (L19_few_K1 H0):=tame_seq (C:=cfg) (kp:=cfg.keep 5) (sub (bodyOf Tryz.f5) [1,1]) (tame_ret 5 Tryz.f5 H0)
def L19_few_J3 (x0 x3:AV) (H0 H:Hp):Res:=CXgL 5 20 (sub (bodyOf Tryz.f5) [1,0,1,0,0,1,1]) (seqL (fun k al H=>LPgL 5 20 (sub (bodyOf Tryz.f5) [1,0,1,0,0]) k (trimL (cfg.keep 5) (sub (bodyOf Tryz.f5) [1,0,1,0,0]) al) H) (blockL 0 (L19_few_K1 H0))) [(0,x0),(3,x3)] H
def L19_few_J2 (x0 x3:AV) (H0 H:Hp):Res:=CXgL 5 20 (sub (bodyOf Tryz.f5) [1,0,1,0,0,1]) (seqL (fun k al H=>LPgL 5 20 (sub (bodyOf Tryz.f5) [1,0,1,0,0]) k (trimL (cfg.keep 5) (sub (bodyOf Tryz.f5) [1,0,1,0,0]) al) H) (blockL 0 (L19_few_K1 H0))) [(0,x0),(3,x3)] H
def L19_few_L1 (x0 x3:AV) (H0 H:Hp):Res:=LPgL 5 20 (sub (bodyOf Tryz.f5) [1,0,1,0,0]) (blockL 0 (L19_few_K1 H0)) [(0,x0),(3,x3)] H
def F_L19_few (p0:AV) (H:Hp):Res:=
 L19_few_L1 p0 (.int .i64 0) H H
theorem L19_few_J1_eq (H0 H:Hp):L19_few_J1 H0 H =
    some ((.bool true),H):=(CXM_eq [3,4,6] _ _ _ _).trans (by kernel_rfl)
theorem L19_few_J3_eq (x0 x3:AV) (H0 H:Hp):L19_few_J3 x0 x3 H0 H =
    bnd (ibin .add x3 (.int .i64 1)) fun t9=>
    L19_few_L1 x0 t9 H0 H:=(CXM_eq [3,4,6] _ _ _ _).trans (by kernel_rfl)
theorem L19_few_J2_eq (x0 x3:AV) (H0 H:Hp):L19_few_J2 x0 x3 H0 H =
    bnd (ibin .geq x3 (.int .i64 40)) fun t11=>
    bnd (gdv t11 false (.tuple []) (some x0)) fun t13=>
    bnd (gdv t11 false (.tuple []) (some x3)) fun t14=>
    bnd (gdv t11 false (.tuple []) (aindexS 5 t13 t14)) fun t15=>
    bnd (gdv t11 false (.tuple []) (aload true 5 t15 H)) fun t16=>
    bnd (gdv t11 false ((.tuple []),H) (flatC C_L19_small [t16] H)) fun r17=>
    bnd (gdv t11 false (.tuple []) (aun .not r17.1)) fun t18=>
    bnd (apick t11 (.bool true) t18) fun t19=>
    cnd t19
     (some ((.bool false),r17.2))
     (L19_few_J3 x0 x3 H0 r17.2):=(CXM_eq [3,4,6] _ _ _ _).trans (by kernel_rfl)
theorem L19_few_L1_eq (x0 x3:AV) (H0 H:Hp):L19_few_L1 x0 x3 H0 H =
    bnd (alenD (.slice 43) x0) fun t6=>
    bnd (ibin .lss x3 t6) fun t7=>
    cnd t7
     (L19_few_J2 x0 x3 H0 H)
     (L19_few_J1 H0 H):=(LPL_eqm (C:=cfg) [3,4,6] (tame_block 0 (L19_few_K1_tame H0)) _ _).trans (by kernel_rfl)
theorem F_L19_few_eq (p0:AV) (H:Hp):C_L19_few [p0] H=F_L19_few p0 H:=(callw_cxm (C:=cfg) (fn:=Tryz.f5) (c:=bodyOf Tryz.f5) (n:=20) [3,4,6] Tryz.func5 (by kernel_rfl) (by kernel_rfl) [p0] (by kernel_rfl) H).trans (by kernel_rfl)

def L19_awake_J2 (x1 x2:AV) (H0 H:Hp):Res:=CXgL 6 94 (sub (bodyOf Tryz.f6) [1,1,1,1,1,1,1,1,1]) (retL cfg 94 6 Tryz.f6 H0) [(1,x1),(2,x2)] H
def L19_awake_J1 (x1 x2:AV) (H0 H:Hp):Res:=CXgL 6 94 (sub (bodyOf Tryz.f6) [1,1,1,1]) (retL cfg 94 6 Tryz.f6 H0) [(1,x1),(2,x2)] H
def F_L19_awake (H:Hp):Res:=
 bnd (C_store_New [(.int .i64 1000)] H) fun r13=>
 bnd (C_tempfile_Open [r13.1,(.str [115,111,114,116]),(.int .i64 100)] r13.2) fun r16=>
 bnd (aext r16.1 0) fun t17=>
 bnd (aext r16.1 1) fun t18=>
 bnd (ibin .neq t18 (.int .i64 0)) fun t20=>
 bnd (gdv t20 false (.tuple []) (some t17)) fun t22=>
 bnd (gdv t20 false (.tuple []) (ebin (.pointer 77) .eql t22 .nilp)) fun t23=>
 bnd (apick t20 (.bool true) t23) fun t24=>
 cnd t24
  (some ((.bool false),r16.2))
  (L19_awake_J1 r13.1 t17 H r16.2)
theorem L19_awake_J2_eq (x1 x2:AV) (H0 H:Hp):L19_awake_J2 x1 x2 H0 H =
    bnd (roC C_tempfile_Temps_Used [x2] H) fun r75=>
    bnd (ibin .eql r75.1 (.int .i64 14)) fun t76=>
    bnd (gdv t76 true (.tuple []) (some x1)) fun t78=>
    bnd (gdv t76 true ((.tuple []),r75.2) (roC C_tempfile_Left [t78,(.str [115,111,114,116])] r75.2)) fun r79=>
    bnd (gdv t76 true (.tuple []) (alenD (.slice 9) r79.1)) fun t80=>
    bnd (gdv t76 true (.tuple []) (ibin .eql t80 (.int .i64 1))) fun t81=>
    bnd (apick t76 t81 (.bool false)) fun t82=>
    bnd (gdv t82 true (.tuple []) (some x2)) fun t84=>
    bnd (gdv t82 true ((.tuple []),r79.2) (C_tempfile_Temps_Close [t84] r79.2)) fun r85=>
    bnd (gdv t82 true (.tuple []) (ibin .eql r85.1 (.int .i64 0))) fun t86=>
    bnd (apick t82 t86 (.bool false)) fun t87=>
    bnd (gdv t87 true (.tuple []) (some x1)) fun t89=>
    bnd (gdv t87 true ((.tuple []),r85.2) (roC C_store_Store_List [t89] r85.2)) fun r90=>
    bnd (gdv t87 true (.tuple []) (alenD (.slice 57) r90.1)) fun t91=>
    bnd (gdv t87 true (.tuple []) (ibin .eql t91 (.int .i64 0))) fun t92=>
    bnd (apick t87 t92 (.bool false)) fun t93=>
    some (t93,r90.2):=(CXM_eq [5,11] _ _ _ _).trans (by kernel_rfl)
theorem L19_awake_J1_eq (x1 x2:AV) (H0 H:Hp):L19_awake_J1 x1 x2 H0 H =
    bnd (C_tempfile_Temps_New [x2] H) fun r27=>
    bnd (aext r27.1 0) fun t28=>
    bnd (aext r27.1 1) fun t29=>
    bnd ((setElems 1 [(0,(.str [97])),(1,(.str [98]))] [(.str []),(.str [])]).map (.vs 1 .clip)) fun t32=>
    bnd (C_tempfile_Temps_Write [x2,t28,t32] r27.2) fun r33=>
    bnd (C_tempfile_Temps_Read [x2,t28,(.int .i64 7)] r33.2) fun r37=>
    bnd (aext r37.1 0) fun t38=>
    bnd (aext r37.1 1) fun t39=>
    bnd (aext r37.1 2) fun t40=>
    bnd (C_tempfile_Temps_Read [x2,t28,(.int .i64 14)] r37.2) fun r44=>
    bnd (aext r44.1 0) fun t45=>
    bnd (aext r44.1 1) fun t46=>
    bnd (aext r44.1 2) fun t47=>
    bnd (sbin .neq t28 (.str [46,116,109,112,46,115,111,114,116,46,49])) fun t49=>
    bnd (gdv t49 false (.tuple []) (some t29)) fun t51=>
    bnd (gdv t49 false (.tuple []) (ibin .neq t51 (.int .i64 0))) fun t52=>
    bnd (apick t49 (.bool true) t52) fun t53=>
    bnd (gdv t53 false (.tuple []) (some r33.1)) fun t55=>
    bnd (gdv t53 false (.tuple []) (ibin .neq t55 (.int .i64 0))) fun t56=>
    bnd (apick t53 (.bool true) t56) fun t57=>
    bnd (gdv t57 false (.tuple []) (some t38)) fun t59=>
    bnd (gdv t57 false (.tuple []) (sbin .neq t59 (.str [98]))) fun t60=>
    bnd (apick t57 (.bool true) t60) fun t61=>
    bnd (gdv t61 false (.tuple []) (some t39)) fun t63=>
    bnd (gdv t61 false (.tuple []) (ibin .neq t63 (.int .i64 14))) fun t64=>
    bnd (apick t61 (.bool true) t64) fun t65=>
    bnd (gdv t65 false (.tuple []) (some t40)) fun t67=>
    bnd (gdv t65 false (.tuple []) (ibin .neq t67 (.int .i64 0))) fun t68=>
    bnd (apick t65 (.bool true) t68) fun t69=>
    bnd (gdv t69 false (.tuple []) (some t47)) fun t71=>
    bnd (gdv t69 false (.tuple []) (ibin .neq t71 (.int .i64 5))) fun t72=>
    bnd (apick t69 (.bool true) t72) fun t73=>
    cnd t73
     (some ((.bool false),r44.2))
     (L19_awake_J2 x1 x2 H0 r44.2):=(CXM_eq [5,11] _ _ _ _).trans (by kernel_rfl)
theorem F_L19_awake_eq (H:Hp):C_L19_awake [] H=F_L19_awake H:=(callw_cxm (C:=cfg) (fn:=Tryz.f6) (c:=bodyOf Tryz.f6) (n:=94) [5,11] Tryz.func6 (by kernel_rfl) (by kernel_rfl) [] (by kernel_rfl) H).trans (by kernel_rfl)

def L19_do_J1 (x1 x7:AV) (H0 H:Hp):Res:=CXgL 11 132 (sub (bodyOf Tryz.f11) [1,1]) (retL cfg 132 11 Tryz.f11 H0) [(1,x1),(7,x7)] H
def F_L19_do (p0 p1 p2:AV) (H:Hp):Res:=
 bnd (abox p2 H) fun r5=>
 bnd (some ((.ptr r5.2.length 0),r5.2++[.cells [(.str []),(.int .i64 0),(.int .i64 0)]])) fun r7=>
 bnd (afield 0 r5.1) fun t15=>
 bnd (aload false 1 t15 r7.2) fun t16=>
 bnd (ibin .eql t16 (.int .i64 0)) fun t18=>
 cnd t18
  (bnd (C_tempfile_Temps_New [p1] r7.2) fun r21=>
  bnd (aext r21.1 0) fun t22=>
  bnd (aext r21.1 1) fun t23=>
  bnd ((afill [(0,1,t22),(2,1,t23)] [(.str []),(.int .i64 0),(.int .i64 0)]).map .agg) fun t27=>
  bnd (astoreU 3 r7.1 t27 r21.2) fun r_13=>
  bnd (aload true 3 r7.1 r_13.2) fun v7=>
  some ((.tuple [p1,v7]),r_13.2))
  (bnd (ibin .eql t16 (.int .i64 1)) fun t29=>
  cnd t29
   (bnd (afield 1 r5.1) fun t32=>
   bnd (aload false 1 t32 r7.2) fun t33=>
   bnd (afield 2 r5.1) fun t34=>
   bnd (aload false 1 t34 r7.2) fun t35=>
   bnd (C_tempfile_Temps_Write [p1,t33,t35] r7.2) fun r36=>
   bnd ((afill [(2,1,r36.1)] [(.str []),(.int .i64 0),(.int .i64 0)]).map .agg) fun t37=>
   bnd (astoreU 3 r7.1 t37 r36.2) fun r_22=>
   bnd (aload true 3 r7.1 r_22.2) fun v7=>
   some ((.tuple [p1,v7]),r_22.2))
   (bnd (ibin .eql t16 (.int .i64 2)) fun t39=>
   cnd t39
    (bnd (afield 1 r5.1) fun t42=>
    bnd (aload false 1 t42 r7.2) fun t43=>
    bnd (C_tempfile_Temps_Seal [p1,t43] r7.2) fun r44=>
    bnd ((afill [(2,1,r44.1)] [(.str []),(.int .i64 0),(.int .i64 0)]).map .agg) fun t45=>
    bnd (astoreU 3 r7.1 t45 r44.2) fun r_29=>
    bnd (aload true 3 r7.1 r_29.2) fun v7=>
    some ((.tuple [p1,v7]),r_29.2))
    (bnd (ibin .eql t16 (.int .i64 3)) fun t47=>
    cnd t47
     (bnd (afield 1 r5.1) fun t50=>
     bnd (aload false 1 t50 r7.2) fun t51=>
     bnd (afield 3 r5.1) fun t52=>
     bnd (aload false 1 t52 r7.2) fun t53=>
     bnd (C_tempfile_Temps_Read [p1,t51,t53] r7.2) fun r54=>
     bnd (aext r54.1 0) fun t55=>
     bnd (aext r54.1 1) fun t56=>
     bnd (aext r54.1 2) fun t57=>
     bnd ((afill [(0,1,t55),(1,1,t56),(2,1,t57)] [(.str []),(.int .i64 0),(.int .i64 0)]).map .agg) fun t62=>
     bnd (astoreU 3 r7.1 t62 r54.2) fun r_41=>
     bnd (aload true 3 r7.1 r_41.2) fun v7=>
     some ((.tuple [p1,v7]),r_41.2))
     (bnd (ibin .eql t16 (.int .i64 4)) fun t64=>
     cnd t64
      (bnd (afield 1 r5.1) fun t67=>
      bnd (aload false 1 t67 r7.2) fun t68=>
      bnd (C_tempfile_Temps_Remove [p1,t68] r7.2) fun r69=>
      bnd ((afill [(2,1,r69.1)] [(.str []),(.int .i64 0),(.int .i64 0)]).map .agg) fun t70=>
      bnd (astoreU 3 r7.1 t70 r69.2) fun r_48=>
      bnd (aload true 3 r7.1 r_48.2) fun v7=>
      some ((.tuple [p1,v7]),r_48.2))
      (bnd (ibin .eql t16 (.int .i64 5)) fun t72=>
      cnd t72
       (bnd (C_tempfile_Temps_Close [p1] r7.2) fun r75=>
       bnd ((afill [(2,1,r75.1)] [(.str []),(.int .i64 0),(.int .i64 0)]).map .agg) fun t76=>
       bnd (astoreU 3 r7.1 t76 r75.2) fun r_53=>
       bnd (aload true 3 r7.1 r_53.2) fun v7=>
       some ((.tuple [p1,v7]),r_53.2))
       (bnd (ibin .eql t16 (.int .i64 6)) fun t78=>
       cnd t78
        (bnd (afield 1 r5.1) fun t81=>
        bnd (aload false 1 t81 r7.2) fun t82=>
        bnd (afield 3 r5.1) fun t83=>
        bnd (aload false 1 t83 r7.2) fun t84=>
        bnd (C_tempfile_Open [p0,t82,t84] r7.2) fun r85=>
        bnd (aext r85.1 0) fun t86=>
        bnd (aext r85.1 1) fun t87=>
        bnd ((afill [(2,1,t87)] [(.str []),(.int .i64 0),(.int .i64 0)]).map .agg) fun t90=>
        bnd (astoreU 3 r7.1 t90 r85.2) fun r_64=>
        bnd (aload true 3 r7.1 r_64.2) fun v7=>
        some ((.tuple [t86,v7]),r_64.2))
        (bnd (ibin .eql t16 (.int .i64 7)) fun t92=>
        cnd t92
         (bnd (afield 3 r5.1) fun t94=>
         bnd (aload false 1 t94 r7.2) fun t95=>
         bnd (C_store_Store_FailAfter [p0,t95] r7.2) fun r96=>
         L19_do_J1 p1 r7.1 H r96.2)
         (bnd (ibin .eql t16 (.int .i64 8)) fun t98=>
         cnd t98
          (bnd (afield 4 r5.1) fun t100=>
          bnd (aload false 1 t100 r7.2) fun t101=>
          bnd (C_store_Store_Restart [p0,t101] r7.2) fun r102=>
          L19_do_J1 p1 r7.1 H r102.2)
          (bnd (ibin .eql t16 (.int .i64 9)) fun t104=>
          cnd t104
           (bnd (afield 1 r5.1) fun t107=>
           bnd (aload false 1 t107 r7.2) fun t108=>
           bnd (C_store_Store_Create [p0,t108] r7.2) fun r109=>
           bnd ((afill [(2,1,r109.1)] [(.str []),(.int .i64 0),(.int .i64 0)]).map .agg) fun t110=>
           bnd (astoreU 3 r7.1 t110 r109.2) fun r_79=>
           bnd (aload true 3 r7.1 r_79.2) fun v7=>
           some ((.tuple [p1,v7]),r_79.2))
           (bnd (ibin .eql t16 (.int .i64 10)) fun t112=>
           cnd t112
            (bnd (afield 1 r5.1) fun t115=>
            bnd (aload false 1 t115 r7.2) fun t116=>
            bnd (afield 2 r5.1) fun t117=>
            bnd (aload false 1 t117 r7.2) fun t118=>
            bnd (flatC C_L19_first [t118] r7.2) fun r119=>
            bnd (C_store_Store_Append [p0,t116,r119.1] r119.2) fun r120=>
            bnd ((afill [(2,1,r120.1)] [(.str []),(.int .i64 0),(.int .i64 0)]).map .agg) fun t121=>
            bnd (astoreU 3 r7.1 t121 r120.2) fun r_89=>
            bnd (aload true 3 r7.1 r_89.2) fun v7=>
            some ((.tuple [p1,v7]),r_89.2))
            (bnd (ibin .eql t16 (.int .i64 11)) fun t123=>
            cnd t123
             (bnd (afield 1 r5.1) fun t126=>
             bnd (aload false 1 t126 r7.2) fun t127=>
             bnd (C_store_Store_Remove [p0,t127] r7.2) fun r128=>
             bnd ((afill [(2,1,r128.1)] [(.str []),(.int .i64 0),(.int .i64 0)]).map .agg) fun t129=>
             bnd (astoreU 3 r7.1 t129 r128.2) fun r_96=>
             bnd (aload true 3 r7.1 r_96.2) fun v7=>
             some ((.tuple [p1,v7]),r_96.2))
             (L19_do_J1 p1 r7.1 H r7.2))))))))))))
theorem L19_do_J1_eq (x1 x7:AV) (H0 H:Hp):L19_do_J1 x1 x7 H0 H =
    bnd (some (.agg [(.str []),(.int .i64 0),(.int .i64 0)])) fun t131=>
    bnd (astoreU 3 x7 t131 H) fun r_4=>
    bnd (aload true 3 x7 r_4.2) fun v7=>
    some ((.tuple [x1,v7]),r_4.2):=(CXM_eq [29] _ _ _ _).trans (by kernel_rfl)
theorem F_L19_do_eq (p0 p1 p2:AV) (H:Hp):C_L19_do [p0,p1,p2] H=F_L19_do p0 p1 p2 H:=(callw_cxm (C:=cfg) (fn:=Tryz.f11) (c:=bodyOf Tryz.f11) (n:=132) [29] Tryz.func11 (by kernel_rfl) (by kernel_rfl) [p0,p1,p2] (by kernel_rfl) H).trans (by kernel_rfl)

def L19_model_J1 (x1 x7:AV) (H0 H:Hp):Res:=CXgL 12 132 (sub (bodyOf Tryz.f12) [1,1]) (retL cfg 132 12 Tryz.f12 H0) [(1,x1),(7,x7)] H
def F_L19_model (p0 p1 p2:AV) (H:Hp):Res:=
 bnd (abox p2 H) fun r5=>
 bnd (some ((.ptr r5.2.length 0),r5.2++[.cells [(.str []),(.int .i64 0),(.int .i64 0)]])) fun r7=>
 bnd (afield 0 r5.1) fun t15=>
 bnd (aload false 1 t15 r7.2) fun t16=>
 bnd (ibin .eql t16 (.int .i64 0)) fun t18=>
 cnd t18
  (bnd (C_R19_Temps_New [p1] r7.2) fun r21=>
  bnd (aext r21.1 0) fun t22=>
  bnd (aext r21.1 1) fun t23=>
  bnd ((afill [(0,1,t22),(2,1,t23)] [(.str []),(.int .i64 0),(.int .i64 0)]).map .agg) fun t27=>
  bnd (astoreU 3 r7.1 t27 r21.2) fun r_13=>
  bnd (aload true 3 r7.1 r_13.2) fun v7=>
  some ((.tuple [p1,v7]),r_13.2))
  (bnd (ibin .eql t16 (.int .i64 1)) fun t29=>
  cnd t29
   (bnd (afield 1 r5.1) fun t32=>
   bnd (aload false 1 t32 r7.2) fun t33=>
   bnd (afield 2 r5.1) fun t34=>
   bnd (aload false 1 t34 r7.2) fun t35=>
   bnd (C_R19_Temps_Write [p1,t33,t35] r7.2) fun r36=>
   bnd ((afill [(2,1,r36.1)] [(.str []),(.int .i64 0),(.int .i64 0)]).map .agg) fun t37=>
   bnd (astoreU 3 r7.1 t37 r36.2) fun r_22=>
   bnd (aload true 3 r7.1 r_22.2) fun v7=>
   some ((.tuple [p1,v7]),r_22.2))
   (bnd (ibin .eql t16 (.int .i64 2)) fun t39=>
   cnd t39
    (bnd (afield 1 r5.1) fun t42=>
    bnd (aload false 1 t42 r7.2) fun t43=>
    bnd (C_R19_Temps_Seal [p1,t43] r7.2) fun r44=>
    bnd ((afill [(2,1,r44.1)] [(.str []),(.int .i64 0),(.int .i64 0)]).map .agg) fun t45=>
    bnd (astoreU 3 r7.1 t45 r44.2) fun r_29=>
    bnd (aload true 3 r7.1 r_29.2) fun v7=>
    some ((.tuple [p1,v7]),r_29.2))
    (bnd (ibin .eql t16 (.int .i64 3)) fun t47=>
    cnd t47
     (bnd (afield 1 r5.1) fun t50=>
     bnd (aload false 1 t50 r7.2) fun t51=>
     bnd (afield 3 r5.1) fun t52=>
     bnd (aload false 1 t52 r7.2) fun t53=>
     bnd (C_R19_Temps_Read [p1,t51,t53] r7.2) fun r54=>
     bnd (aext r54.1 0) fun t55=>
     bnd (aext r54.1 1) fun t56=>
     bnd (aext r54.1 2) fun t57=>
     bnd ((afill [(0,1,t55),(1,1,t56),(2,1,t57)] [(.str []),(.int .i64 0),(.int .i64 0)]).map .agg) fun t62=>
     bnd (astoreU 3 r7.1 t62 r54.2) fun r_41=>
     bnd (aload true 3 r7.1 r_41.2) fun v7=>
     some ((.tuple [p1,v7]),r_41.2))
     (bnd (ibin .eql t16 (.int .i64 4)) fun t64=>
     cnd t64
      (bnd (afield 1 r5.1) fun t67=>
      bnd (aload false 1 t67 r7.2) fun t68=>
      bnd (C_R19_Temps_Remove [p1,t68] r7.2) fun r69=>
      bnd ((afill [(2,1,r69.1)] [(.str []),(.int .i64 0),(.int .i64 0)]).map .agg) fun t70=>
      bnd (astoreU 3 r7.1 t70 r69.2) fun r_48=>
      bnd (aload true 3 r7.1 r_48.2) fun v7=>
      some ((.tuple [p1,v7]),r_48.2))
      (bnd (ibin .eql t16 (.int .i64 5)) fun t72=>
      cnd t72
       (bnd (C_R19_Temps_Close [p1] r7.2) fun r75=>
       bnd ((afill [(2,1,r75.1)] [(.str []),(.int .i64 0),(.int .i64 0)]).map .agg) fun t76=>
       bnd (astoreU 3 r7.1 t76 r75.2) fun r_53=>
       bnd (aload true 3 r7.1 r_53.2) fun v7=>
       some ((.tuple [p1,v7]),r_53.2))
       (bnd (ibin .eql t16 (.int .i64 6)) fun t78=>
       cnd t78
        (bnd (afield 1 r5.1) fun t81=>
        bnd (aload false 1 t81 r7.2) fun t82=>
        bnd (afield 3 r5.1) fun t83=>
        bnd (aload false 1 t83 r7.2) fun t84=>
        bnd (C_R19_Open [p0,t82,t84] r7.2) fun r85=>
        bnd (aext r85.1 0) fun t86=>
        bnd (aext r85.1 1) fun t87=>
        bnd ((afill [(2,1,t87)] [(.str []),(.int .i64 0),(.int .i64 0)]).map .agg) fun t90=>
        bnd (astoreU 3 r7.1 t90 r85.2) fun r_64=>
        bnd (aload true 3 r7.1 r_64.2) fun v7=>
        some ((.tuple [t86,v7]),r_64.2))
        (bnd (ibin .eql t16 (.int .i64 7)) fun t92=>
        cnd t92
         (bnd (afield 3 r5.1) fun t94=>
         bnd (aload false 1 t94 r7.2) fun t95=>
         bnd (C_R18_Store_FailAfter [p0,t95] r7.2) fun r96=>
         L19_model_J1 p1 r7.1 H r96.2)
         (bnd (ibin .eql t16 (.int .i64 8)) fun t98=>
         cnd t98
          (bnd (afield 4 r5.1) fun t100=>
          bnd (aload false 1 t100 r7.2) fun t101=>
          bnd (C_R18_Store_Restart [p0,t101] r7.2) fun r102=>
          L19_model_J1 p1 r7.1 H r102.2)
          (bnd (ibin .eql t16 (.int .i64 9)) fun t104=>
          cnd t104
           (bnd (afield 1 r5.1) fun t107=>
           bnd (aload false 1 t107 r7.2) fun t108=>
           bnd (C_R18_Store_Create [p0,t108] r7.2) fun r109=>
           bnd ((afill [(2,1,r109.1)] [(.str []),(.int .i64 0),(.int .i64 0)]).map .agg) fun t110=>
           bnd (astoreU 3 r7.1 t110 r109.2) fun r_79=>
           bnd (aload true 3 r7.1 r_79.2) fun v7=>
           some ((.tuple [p1,v7]),r_79.2))
           (bnd (ibin .eql t16 (.int .i64 10)) fun t112=>
           cnd t112
            (bnd (afield 1 r5.1) fun t115=>
            bnd (aload false 1 t115 r7.2) fun t116=>
            bnd (afield 2 r5.1) fun t117=>
            bnd (aload false 1 t117 r7.2) fun t118=>
            bnd (flatC C_L19_first [t118] r7.2) fun r119=>
            bnd (C_R18_Store_Append [p0,t116,r119.1] r119.2) fun r120=>
            bnd ((afill [(2,1,r120.1)] [(.str []),(.int .i64 0),(.int .i64 0)]).map .agg) fun t121=>
            bnd (astoreU 3 r7.1 t121 r120.2) fun r_89=>
            bnd (aload true 3 r7.1 r_89.2) fun v7=>
            some ((.tuple [p1,v7]),r_89.2))
            (bnd (ibin .eql t16 (.int .i64 11)) fun t123=>
            cnd t123
             (bnd (afield 1 r5.1) fun t126=>
             bnd (aload false 1 t126 r7.2) fun t127=>
             bnd (C_R18_Store_Remove [p0,t127] r7.2) fun r128=>
             bnd ((afill [(2,1,r128.1)] [(.str []),(.int .i64 0),(.int .i64 0)]).map .agg) fun t129=>
             bnd (astoreU 3 r7.1 t129 r128.2) fun r_96=>
             bnd (aload true 3 r7.1 r_96.2) fun v7=>
             some ((.tuple [p1,v7]),r_96.2))
             (L19_model_J1 p1 r7.1 H r7.2))))))))))))
theorem L19_model_J1_eq (x1 x7:AV) (H0 H:Hp):L19_model_J1 x1 x7 H0 H =
    bnd (some (.agg [(.str []),(.int .i64 0),(.int .i64 0)])) fun t131=>
    bnd (astoreU 3 x7 t131 H) fun r_4=>
    bnd (aload true 3 x7 r_4.2) fun v7=>
    some ((.tuple [x1,v7]),r_4.2):=(CXM_eq [29] _ _ _ _).trans (by kernel_rfl)
theorem F_L19_model_eq (p0 p1 p2:AV) (H:Hp):C_L19_model [p0,p1,p2] H=F_L19_model p0 p1 p2 H:=(callw_cxm (C:=cfg) (fn:=Tryz.f12) (c:=bodyOf Tryz.f12) (n:=132) [29] Tryz.func12 (by kernel_rfl) (by kernel_rfl) [p0,p1,p2] (by kernel_rfl) H).trans (by kernel_rfl)

def L19_sameNames_J2 (H0 H:Hp):Res:=CXgL 18 26 (sub (bodyOf Tryz.f18) [1,1,1]) (retL cfg 26 18 Tryz.f18 H0) [] H
def L19_sameNames_K1 (H0:Hp):KL:=seqL (fun k al H=>CXgL 18 26 (sub (bodyOf Tryz.f18) [1,1,1]) k (trimL (cfg.keep 18) (sub (bodyOf Tryz.f18) [1,1,1]) al) H) (retL cfg 26 18 Tryz.f18 H0)
theorem L19_sameNames_K1_tame (H0:Hp):Tame 26 (L19_sameNames_K1 H0):=tame_seq (C:=cfg) (kp:=cfg.keep 18) (sub (bodyOf Tryz.f18) [1,1,1]) (tame_ret 18 Tryz.f18 H0)
def L19_sameNames_J4 (x0 x1 x5:AV) (H0 H:Hp):Res:=CXgL 18 26 (sub (bodyOf Tryz.f18) [1,1,0,1,0,0,1,1]) (seqL (fun k al H=>LPgL 18 26 (sub (bodyOf Tryz.f18) [1,1,0,1,0,0]) k (trimL (cfg.keep 18) (sub (bodyOf Tryz.f18) [1,1,0,1,0,0]) al) H) (blockL 0 (L19_sameNames_K1 H0))) [(0,x0),(1,x1),(5,x5)] H
def L19_sameNames_J3 (x0 x1 x5:AV) (H0 H:Hp):Res:=CXgL 18 26 (sub (bodyOf Tryz.f18) [1,1,0,1,0,0,1]) (seqL (fun k al H=>LPgL 18 26 (sub (bodyOf Tryz.f18) [1,1,0,1,0,0]) k (trimL (cfg.keep 18) (sub (bodyOf Tryz.f18) [1,1,0,1,0,0]) al) H) (blockL 0 (L19_sameNames_K1 H0))) [(0,x0),(1,x1),(5,x5)] H
def L19_sameNames_L1 (x0 x1 x5:AV) (H0 H:Hp):Res:=LPgL 18 26 (sub (bodyOf Tryz.f18) [1,1,0,1,0,0]) (blockL 0 (L19_sameNames_K1 H0)) [(0,x0),(1,x1),(5,x5)] H
def L19_sameNames_J1 (x0 x1:AV) (H0 H:Hp):Res:=CXgL 18 26 (sub (bodyOf Tryz.f18) [1,1]) (retL cfg 26 18 Tryz.f18 H0) [(0,x0),(1,x1)] H
def F_L19_sameNames (p0 p1:AV) (H:Hp):Res:=
 bnd (alenD (.slice 9) p0) fun t7=>
 bnd (alenD (.slice 9) p1) fun t9=>
 bnd (ibin .neq t7 t9) fun t10=>
 cnd t10
  (some ((.bool false),H))
  (L19_sameNames_J1 p0 p1 H H)
theorem L19_sameNames_J2_eq (H0 H:Hp):L19_sameNames_J2 H0 H =
    some ((.bool true),H):=(CXM_eq [3,5,6,8] _ _ _ _).trans (by kernel_rfl)
theorem L19_sameNames_J4_eq (x0 x1 x5:AV) (H0 H:Hp):L19_sameNames_J4 x0 x1 x5 H0 H =
    bnd (ibin .add x5 (.int .i64 1)) fun t16=>
    L19_sameNames_L1 x0 x1 t16 H0 H:=(CXM_eq [3,5,6,8] _ _ _ _).trans (by kernel_rfl)
theorem L19_sameNames_J3_eq (x0 x1 x5:AV) (H0 H:Hp):L19_sameNames_J3 x0 x1 x5 H0 H =
    bnd (aindexS 1 x0 x5) fun t19=>
    bnd (aload false 1 t19 H) fun t20=>
    bnd (aindexS 1 x1 x5) fun t23=>
    bnd (aload false 1 t23 H) fun t24=>
    bnd (sbin .neq t20 t24) fun t25=>
    cnd t25
     (some ((.bool false),H))
     (L19_sameNames_J4 x0 x1 x5 H0 H):=(CXM_eq [3,5,6,8] _ _ _ _).trans (by kernel_rfl)
theorem L19_sameNames_L1_eq (x0 x1 x5:AV) (H0 H:Hp):L19_sameNames_L1 x0 x1 x5 H0 H =
    bnd (alenD (.slice 9) x0) fun t13=>
    bnd (ibin .lss x5 t13) fun t14=>
    cnd t14
     (L19_sameNames_J3 x0 x1 x5 H0 H)
     (L19_sameNames_J2 H0 H):=(LPL_eqm (C:=cfg) [3,5,6,8] (tame_block 0 (L19_sameNames_K1_tame H0)) _ _).trans (by kernel_rfl)
theorem L19_sameNames_J1_eq (x0 x1:AV) (H0 H:Hp):L19_sameNames_J1 x0 x1 H0 H =
    L19_sameNames_L1 x0 x1 (.int .i64 0) H0 H:=(CXM_eq [3,5,6,8] _ _ _ _).trans (by kernel_rfl)
theorem F_L19_sameNames_eq (p0 p1:AV) (H:Hp):C_L19_sameNames [p0,p1] H=F_L19_sameNames p0 p1 H:=(callw_cxm (C:=cfg) (fn:=Tryz.f18) (c:=bodyOf Tryz.f18) (n:=26) [3,5,6,8] Tryz.func18 (by kernel_rfl) (by kernel_rfl) [p0,p1] (by kernel_rfl) H).trans (by kernel_rfl)

def L19_small_J2 (x3:AV) (H0 H:Hp):Res:=CXgL 24 39 (sub (bodyOf Tryz.f24) [1,1,1,1]) (retL cfg 39 24 Tryz.f24 H0) [(3,x3)] H
def L19_small_K1 (H0:Hp):KL:=seqL (fun k al H=>CXgL 24 39 (sub (bodyOf Tryz.f24) [1,1,1,1]) k (trimL (cfg.keep 24) (sub (bodyOf Tryz.f24) [1,1,1,1]) al) H) (retL cfg 39 24 Tryz.f24 H0)
theorem L19_small_K1_tame (H0:Hp):Tame 39 (L19_small_K1 H0):=tame_seq (C:=cfg) (kp:=cfg.keep 24) (sub (bodyOf Tryz.f24) [1,1,1,1]) (tame_ret 24 Tryz.f24 H0)
def L19_small_J4 (x1 x3 x4:AV) (H0 H:Hp):Res:=CXgL 24 39 (sub (bodyOf Tryz.f24) [1,1,1,0,1,0,0,1,1]) (seqL (fun k al H=>LPgL 24 39 (sub (bodyOf Tryz.f24) [1,1,1,0,1,0,0]) k (trimL (cfg.keep 24) (sub (bodyOf Tryz.f24) [1,1,1,0,1,0,0]) al) H) (blockL 0 (L19_small_K1 H0))) [(1,x1),(3,x3),(4,x4)] H
def L19_small_K2 (H0:Hp):KL:=seqL (fun k al H=>CXgL 24 39 (sub (bodyOf Tryz.f24) [1,1,1,0,1,0,0,1,1]) k (trimL (cfg.keep 24) (sub (bodyOf Tryz.f24) [1,1,1,0,1,0,0,1,1]) al) H) (seqL (fun k al H=>LPgL 24 39 (sub (bodyOf Tryz.f24) [1,1,1,0,1,0,0]) k (trimL (cfg.keep 24) (sub (bodyOf Tryz.f24) [1,1,1,0,1,0,0]) al) H) (blockL 0 (L19_small_K1 H0)))
def L19_small_J5 (x1 x3 x4:AV) (H0 H:Hp):Res:=CXgL 24 39 (sub (bodyOf Tryz.f24) [1,1,1,0,1,0,0,1,0,0,1]) (blockL 1 (L19_small_K2 H0)) [(1,x1),(3,x3),(4,x4)] H
def L19_small_J3 (x1 x3 x4:AV) (H0 H:Hp):Res:=CXgL 24 39 (sub (bodyOf Tryz.f24) [1,1,1,0,1,0,0,1]) (seqL (fun k al H=>LPgL 24 39 (sub (bodyOf Tryz.f24) [1,1,1,0,1,0,0]) k (trimL (cfg.keep 24) (sub (bodyOf Tryz.f24) [1,1,1,0,1,0,0]) al) H) (blockL 0 (L19_small_K1 H0))) [(1,x1),(3,x3),(4,x4)] H
def L19_small_L1 (x1 x3 x4:AV) (H0 H:Hp):Res:=LPgL 24 39 (sub (bodyOf Tryz.f24) [1,1,1,0,1,0,0]) (blockL 0 (L19_small_K1 H0)) [(1,x1),(3,x3),(4,x4)] H
def L19_small_J1 (x1:AV) (H0 H:Hp):Res:=CXgL 24 39 (sub (bodyOf Tryz.f24) [1,1]) (retL cfg 39 24 Tryz.f24 H0) [(1,x1)] H
def F_L19_small (p0:AV) (H:Hp):Res:=
 bnd (abox p0 H) fun r1=>
 bnd (afield 2 r1.1) fun t5=>
 bnd (aload false 1 t5 r1.2) fun t6=>
 bnd (alenD (.slice 9) t6) fun t7=>
 bnd (ibin .gtr t7 (.int .i64 8)) fun t8=>
 bnd (gdv t8 false (.tuple []) (afield 1 r1.1)) fun t10=>
 bnd (gdv t8 false (.tuple []) (aload false 1 t10 r1.2)) fun t11=>
 bnd (gdv t8 false (.tuple []) (alenD .string t11)) fun t12=>
 bnd (gdv t8 false (.tuple []) (ibin .gtr t12 (.int .i64 100))) fun t13=>
 bnd (apick t8 (.bool true) t13) fun t14=>
 cnd t14
  (some ((.bool false),r1.2))
  (L19_small_J1 r1.1 H r1.2)
theorem L19_small_J2_eq (x3:AV) (H0 H:Hp):L19_small_J2 x3 H0 H =
    bnd (ibin .leq x3 (.int .i64 5000)) fun t38=>
    some (t38,H):=(CXM_eq [3,6,7,9,10] _ _ _ _).trans (by kernel_rfl)
theorem L19_small_J4_eq (x1 x3 x4:AV) (H0 H:Hp):L19_small_J4 x1 x3 x4 H0 H =
    bnd (ibin .add x4 (.int .i64 1)) fun t21=>
    L19_small_L1 x1 x3 t21 H0 H:=(CXM_eq [3,6,7,9,10] _ _ _ _).trans (by kernel_rfl)
theorem L19_small_J5_eq (x1 x3 x4:AV) (H0 H:Hp):L19_small_J5 x1 x3 x4 H0 H =
    bnd (afield 2 x1) fun t30=>
    bnd (aload false 1 t30 H) fun t31=>
    bnd (aindexS 1 t31 x4) fun t33=>
    bnd (aload false 1 t33 H) fun t34=>
    bnd (alenD .string t34) fun t35=>
    bnd (ibin .add x3 t35) fun t36=>
    L19_small_J4 x1 t36 x4 H0 H:=(CXM_eq [3,6,7,9,10] _ _ _ _).trans (by kernel_rfl)
theorem L19_small_J3_eq (x1 x3 x4:AV) (H0 H:Hp):L19_small_J3 x1 x3 x4 H0 H =
    bnd (afield 2 x1) fun t22=>
    bnd (aload false 1 t22 H) fun t23=>
    bnd (aindexS 1 t23 x4) fun t25=>
    bnd (aload false 1 t25 H) fun t26=>
    bnd (alenD .string t26) fun t27=>
    bnd (ibin .gtr t27 (.int .i64 5000)) fun t28=>
    cnd t28
     (some ((.bool false),H))
     (L19_small_J5 x1 x3 x4 H0 H):=(CXM_eq [3,6,7,9,10] _ _ _ _).trans (by kernel_rfl)
theorem L19_small_L1_eq (x1 x3 x4:AV) (H0 H:Hp):L19_small_L1 x1 x3 x4 H0 H =
    bnd (afield 2 x1) fun t16=>
    bnd (aload false 1 t16 H) fun t17=>
    bnd (alenD (.slice 9) t17) fun t18=>
    bnd (ibin .lss x4 t18) fun t19=>
    cnd t19
     (L19_small_J3 x1 x3 x4 H0 H)
     (L19_small_J2 x3 H0 H):=(LPL_eqm (C:=cfg) [3,6,7,9,10] (tame_block 0 (L19_small_K1_tame H0)) _ _).trans (by kernel_rfl)
theorem L19_small_J1_eq (x1:AV) (H0 H:Hp):L19_small_J1 x1 H0 H =
    L19_small_L1 x1 (.int .i64 0) (.int .i64 0) H0 H:=(CXM_eq [3,6,7,9,10] _ _ _ _).trans (by kernel_rfl)
theorem F_L19_small_eq (p0:AV) (H:Hp):C_L19_small [p0] H=F_L19_small p0 H:=(callw_cxm (C:=cfg) (fn:=Tryz.f24) (c:=bodyOf Tryz.f24) (n:=39) [3,6,7,9,10] Tryz.func24 (by kernel_rfl) (by kernel_rfl) [p0] (by kernel_rfl) H).trans (by kernel_rfl)

def L19_first_J1 (x0:AV) (H0 H:Hp):Res:=CXgL 37 9 (sub (bodyOf Tryz.f37) [1,1]) (retL cfg 9 37 Tryz.f37 H0) [(0,x0)] H
def F_L19_first (p0:AV) (H:Hp):Res:=
 bnd (alenD (.slice 9) p0) fun t4=>
 bnd (ibin .eql t4 (.int .i64 0)) fun t5=>
 cnd t5
  (some ((.str []),H))
  (L19_first_J1 p0 H H)
theorem L19_first_J1_eq (x0:AV) (H0 H:Hp):L19_first_J1 x0 H0 H =
    bnd (aindexS 1 x0 (.int .i64 0)) fun t7=>
    bnd (aload false 1 t7 H) fun t8=>
    some (t8,H):=(CXM_eq [3] _ _ _ _).trans (by kernel_rfl)
theorem F_L19_first_eq (p0:AV) (H:Hp):C_L19_first [p0] H=F_L19_first p0 H:=(callw_cxm (C:=cfg) (fn:=Tryz.f37) (c:=bodyOf Tryz.f37) (n:=9) [3] Tryz.func37 (by kernel_rfl) (by kernel_rfl) [p0] (by kernel_rfl) H).trans (by kernel_rfl)

end
end Go.Am
