/-
  The functions of the translation over the abstract machine, a further part: written by program (wip/gen.py).
-/
import Derived.Test.YtpahcdhligjdiaaRcGx
namespace Go.Am
open Go.Proofs
set_option maxRecDepth 100000
set_option linter.unusedVariables false
set_option linter.unusedSimpArgs false
noncomputable abbrev CXgR (f n:Nat):=CXL cfg (callw cfg) (LPL cfg (cfg.keep f) n) (cfg.keep f) n seqL blockL
noncomputable abbrev LPgR (f n:Nat):=LPL cfg (cfg.keep f) n
noncomputable section

def recapture_Captures_J4 (x6 x8 x13 x15:AV) (H0 H:Hp):Res:=CXgR 9 104 (sub (bodyOf Try.f9) [1,1,1,1,1,1,1]) (retL cfg 104 9 Try.f9 H0) [(6,x6),(8,x8),(13,x13),(15,x15)] H
def recapture_Captures_J3 (x4 x6 x8 x13:AV) (H0 H:Hp):Res:=CXgR 9 104 (sub (bodyOf Try.f9) [1,1,1,1,1]) (retL cfg 104 9 Try.f9 H0) [(4,x4),(6,x6),(8,x8),(13,x13)] H
def recapture_Captures_K1 (H0:Hp):KL:=seqL (fun k al H=>CXgR 9 104 (sub (bodyOf Try.f9) [1,1,1,1,1]) k (trimL (cfg.keep 9) (sub (bodyOf Try.f9) [1,1,1,1,1]) al) H) (retL cfg 104 9 Try.f9 H0)
theorem recapture_Captures_K1_tame (H0:Hp):Tame 104 (recapture_Captures_K1 H0):=tame_seq (C:=cfg) (kp:=cfg.keep 9) (sub (bodyOf Try.f9) [1,1,1,1,1]) (tame_ret 9 Try.f9 H0)
def recapture_Captures_J6 (x4 x6 x8 x13 x56 x57:AV) (H0 H:Hp):Res:=CXgR 9 104 (sub (bodyOf Try.f9) [1,1,1,1,0,1,0,0,1,1,1]) (seqL (fun k al H=>LPgR 9 104 (sub (bodyOf Try.f9) [1,1,1,1,0,1,0,0]) k (trimL (cfg.keep 9) (sub (bodyOf Try.f9) [1,1,1,1,0,1,0,0]) al) H) (blockL 0 (recapture_Captures_K1 H0))) [(4,x4),(6,x6),(8,x8),(13,x13),(56,x56),(57,x57)] H
def recapture_Captures_J5 (x4 x6 x8 x13 x56 x57 x58:AV) (H0 H:Hp):Res:=CXgR 9 104 (sub (bodyOf Try.f9) [1,1,1,1,0,1,0,0,1,1]) (seqL (fun k al H=>LPgR 9 104 (sub (bodyOf Try.f9) [1,1,1,1,0,1,0,0]) k (trimL (cfg.keep 9) (sub (bodyOf Try.f9) [1,1,1,1,0,1,0,0]) al) H) (blockL 0 (recapture_Captures_K1 H0))) [(4,x4),(6,x6),(8,x8),(13,x13),(56,x56),(57,x57),(58,x58)] H
def recapture_Captures_L1 (x4 x6 x8 x13 x56 x57:AV) (H0 H:Hp):Res:=LPgR 9 104 (sub (bodyOf Try.f9) [1,1,1,1,0,1,0,0]) (blockL 0 (recapture_Captures_K1 H0)) [(4,x4),(6,x6),(8,x8),(13,x13),(56,x56),(57,x57)] H
def recapture_Captures_J2 (x1 x3 x4 x6 x8:AV) (H0 H:Hp):Res:=CXgR 9 104 (sub (bodyOf Try.f9) [1,1,1]) (retL cfg 104 9 Try.f9 H0) [(1,x1),(3,x3),(4,x4),(6,x6),(8,x8)] H
def recapture_Captures_J1 (x1 x3 x4 x6 x8:AV) (H0 H:Hp):Res:=CXgR 9 104 (sub (bodyOf Try.f9) [1,1]) (retL cfg 104 9 Try.f9 H0) [(1,x1),(3,x3),(4,x4),(6,x6),(8,x8)] H
def F_recapture_Captures (p0 p1 p2 p3:AV) (H:Hp):Res:=
 bnd (abox p0 H) fun r4=>
 bnd (abox p2 r4.2) fun r6=>
 bnd (some ((.ptr r6.2.length 0),r6.2++[.cells [.nils]])) fun r8=>
 bnd (aload true 9 r4.1 r8.2) fun t17=>
 bnd (flatC C_reprog_Compile [t17,p3] r8.2) fun r19=>
 bnd (aext r19.1 0) fun t20=>
 bnd (aext r19.1 1) fun t21=>
 bnd (some ((.ptr r19.2.length 0),r19.2++[.cells [.nils,(.bool false)]])) fun r11=>
 bnd (astoreU 2 r11.1 t20 r11.2) fun r_81=>
 bnd (ibin .neq t21 (.int .i64 0)) fun t23=>
 cnd t23
  (bnd (some (.agg [.nils])) fun t24=>
  bnd (astoreU 1 r8.1 t24 r_81.2) fun r_84=>
  bnd (aload true 1 r8.1 r_84.2) fun v8=>
  some ((.tuple [v8,(.bool false),t21]),r_84.2))
  (recapture_Captures_J1 p1 p3 r4.1 r6.1 r8.1 H r_81.2)
theorem recapture_Captures_J4_eq (x6 x8 x13 x15:AV) (H0 H:Hp):recapture_Captures_J4 x6 x8 x13 x15 H0 H =
    bnd (afield 0 x6) fun t88=>
    bnd (aload false 1 t88 H) fun t89=>
    bnd (afield 1 x6) fun t90=>
    bnd (aload false 1 t90 H) fun t91=>
    bnd (C_recapture_finder_find [x13,x15,t89,t91] H) fun r92=>
    bnd (anil x13) fun t94=>
    bnd (afield 2 t94) fun t95=>
    bnd (aload false 1 t95 r92.2) fun t96=>
    bnd (aload true 2 x6 r92.2) fun t97=>
    bnd (aindexS 2 t96 (.int .i64 0)) fun t98=>
    bnd (astoreU 2 t98 t97 r92.2) fun r_22=>
    bnd (anil x13) fun t100=>
    bnd (afield 2 t100) fun t101=>
    bnd (aload false 1 t101 r_22.2) fun t102=>
    bnd ((afill [(0,1,t102)] [.nils]).map .agg) fun t103=>
    bnd (astoreU 1 x8 t103 r_22.2) fun r_27=>
    bnd (aload true 1 x8 r_27.2) fun v8=>
    some ((.tuple [v8,(.bool true),(.int .i64 0)]),r_27.2):=(CXM_eq [4,6,9,11,12,15] _ _ _ _).trans (by kernel_rfl)
theorem recapture_Captures_J3_eq (x4 x6 x8 x13:AV) (H0 H:Hp):recapture_Captures_J3 x4 x6 x8 x13 H0 H =
    bnd (aload true 9 x4 H) fun t68=>
    bnd (groC C_recapture_build [t68] H) fun r69=>
    frzK x6 r69.2 fun z6 z6H=>
    bnd (afield 0 z6) fun t72=>
    bnd (aload false 1 t72 z6H) fun t73=>
    bnd (afield 1 z6) fun t74=>
    bnd (aload false 1 t74 z6H) fun t75=>
    bnd (C_recapture_finder_ends [x13,r69.1,t73,t75] z6H) fun r76=>
    bnd (afield 1 z6) fun t77=>
    bnd (aloadv false 1 t77) fun t78=>
    bnd (afield 0 z6) fun t79=>
    bnd (aloadv false 1 t79) fun t80=>
    bnd (ibin .sub t78 t80) fun t81=>
    bnd (aindexS 1 r76.1 t81) fun t82=>
    bnd (aload false 1 t82 r76.2) fun t83=>
    bnd (aun .not t83) fun t84=>
    cnd t84
     (bnd (some (.agg [.nils])) fun t85=>
     bnd (astoreU 1 x8 t85 r76.2) fun r_44=>
     bnd (aload true 1 x8 r_44.2) fun v8=>
     some ((.tuple [v8,(.bool false),(.int .i64 0)]),r_44.2))
     (recapture_Captures_J4 z6 x8 x13 r69.1 H0 r76.2):=(CXM_eq [4,6,9,11,12,15] _ _ _ _).trans (by kernel_rfl)
theorem recapture_Captures_J6_eq (x4 x6 x8 x13 x56 x57:AV) (H0 H:Hp):recapture_Captures_J6 x4 x6 x8 x13 x56 x57 H0 H =
    bnd (ibin .add x57 (.int .i64 1)) fun t67=>
    recapture_Captures_L1 x4 x6 x8 x13 x56 t67 H0 H:=(CXM_eq [4,6,9,11,12,15] _ _ _ _).trans (by kernel_rfl)
theorem recapture_Captures_J5_eq (x4 x6 x8 x13 x56 x57 x58:AV) (H0 H:Hp):recapture_Captures_J5 x4 x6 x8 x13 x56 x57 x58 H0 H =
    bnd (anil x13) fun t61=>
    bnd (afield 2 t61) fun t62=>
    bnd (aload false 1 t62 H) fun t63=>
    bnd ((afill [(0,1,(.int .i64 (-1))),(1,1,(.int .i64 (-1)))] [(.int .i64 0),(.int .i64 0)]).map .agg) fun t65=>
    bnd (aindexS 2 t63 x57) fun t66=>
    bnd (astoreU 2 t66 t65 H) fun r_57=>
    recapture_Captures_J6 x4 x6 x8 x13 x56 x57 H0 r_57.2:=(CXM_eq [4,6,9,11,12,15] _ _ _ _).trans (by kernel_rfl)
theorem recapture_Captures_L1_eq (x4 x6 x8 x13 x56 x57:AV) (H0 H:Hp):recapture_Captures_L1 x4 x6 x8 x13 x56 x57 H0 H =
    bnd (ibin .lss x57 x56) fun t58=>
    cnd t58
     (recapture_Captures_J5 x4 x6 x8 x13 x56 x57 t58 H0 H)
     (recapture_Captures_J3 x4 x6 x8 x13 H0 H):=(LPL_eqm (C:=cfg) [4,6,9,11,12,15] (tame_block 0 (recapture_Captures_K1_tame H0)) _ _).trans (by kernel_rfl)
theorem recapture_Captures_J2_eq (x1 x3 x4 x6 x8:AV) (H0 H:Hp):recapture_Captures_J2 x1 x3 x4 x6 x8 H0 H =
    bnd (aload true 9 x4 H) fun t46=>
    bnd (flatC C_retree_Groups [t46] H) fun r47=>
    bnd (ibin .add r47.1 (.int .i64 1)) fun t48=>
    bnd (amake 2 16 true (.agg [(.int .i64 0),(.int .i64 0)]) t48 t48 r47.2) fun r49=>
    bnd ((afill [(0,1,x1),(1,1,x3),(2,1,r49.1)] [(.str []),(.bool false),.nils]).map .agg) fun t50=>
    bnd (abox t50 r49.2) fun r51=>
    bnd (anil r51.1) fun t53=>
    bnd (afield 2 t53) fun t54=>
    bnd (aload false 1 t54 r51.2) fun t55=>
    bnd (alenD (.slice 30) t55) fun t56=>
    recapture_Captures_L1 x4 x6 x8 r51.1 t56 (.int .i64 0) H0 r51.2:=(CXM_eq [4,6,9,11,12,15] _ _ _ _).trans (by kernel_rfl)
theorem recapture_Captures_J1_eq (x1 x3 x4 x6 x8:AV) (H0 H:Hp):recapture_Captures_J1 x1 x3 x4 x6 x8 H0 H =
    bnd (afield 0 x6) fun t26=>
    bnd (aload false 1 t26 H) fun t27=>
    bnd (ibin .lss t27 (.int .i64 0)) fun t28=>
    bnd (gdv t28 false (.tuple []) (afield 1 x6)) fun t30=>
    bnd (gdv t28 false (.tuple []) (aload false 1 t30 H)) fun t31=>
    bnd (gdv t28 false (.tuple []) (afield 0 x6)) fun t32=>
    bnd (gdv t28 false (.tuple []) (aload false 1 t32 H)) fun t33=>
    bnd (gdv t28 false (.tuple []) (ibin .lss t31 t33)) fun t34=>
    bnd (apick t28 (.bool true) t34) fun t35=>
    bnd (gdv t35 false (.tuple []) (afield 1 x6)) fun t37=>
    bnd (gdv t35 false (.tuple []) (aload false 1 t37 H)) fun t38=>
    bnd (gdv t35 false (.tuple []) (some x1)) fun t39=>
    bnd (gdv t35 false (.tuple []) (alenD .string t39)) fun t40=>
    bnd (gdv t35 false (.tuple []) (ibin .gtr t38 t40)) fun t41=>
    bnd (apick t35 (.bool true) t41) fun t42=>
    cnd t42
     (bnd (some (.agg [.nils])) fun t43=>
     bnd (astoreU 1 x8 t43 H) fun r_74=>
     bnd (aload true 1 x8 r_74.2) fun v8=>
     some ((.tuple [v8,(.bool false),(.int .i64 2)]),r_74.2))
     (recapture_Captures_J2 x1 x3 x4 x6 x8 H0 H):=(CXM_eq [4,6,9,11,12,15] _ _ _ _).trans (by kernel_rfl)
theorem F_recapture_Captures_eq (p0 p1 p2 p3:AV) (H:Hp):C_recapture_Captures [p0,p1,p2,p3] H=F_recapture_Captures p0 p1 p2 p3 H:=(callw_cxm (C:=cfg) (fn:=Try.f9) (c:=bodyOf Try.f9) (n:=104) [4,6,9,11,12,15] Try.func9 (by kernel_rfl) (by kernel_rfl) [p0,p1,p2,p3] (by kernel_rfl) H).trans (by kernel_rfl)

def recapture_build_J1 (x3:AV) (H0 H:Hp):Res:=CXgR 20 32 (sub (bodyOf Try.f20) [1,1,1]) (retL cfg 32 20 Try.f20 H0) [(3,x3)] H
def recapture_build_K1 (H0:Hp):KL:=seqL (fun k al H=>CXgR 20 32 (sub (bodyOf Try.f20) [1,1,1]) k (trimL (cfg.keep 20) (sub (bodyOf Try.f20) [1,1,1]) al) H) (retL cfg 32 20 Try.f20 H0)
theorem recapture_build_K1_tame (H0:Hp):Tame 32 (recapture_build_K1 H0):=tame_seq (C:=cfg) (kp:=cfg.keep 20) (sub (bodyOf Try.f20) [1,1,1]) (tame_ret 20 Try.f20 H0)
def recapture_build_J3 (x3 x13 x14 x15:AV) (H0 H:Hp):Res:=CXgR 20 32 (sub (bodyOf Try.f20) [1,1,0,1,0,0,1,1,1]) (seqL (fun k al H=>LPgR 20 32 (sub (bodyOf Try.f20) [1,1,0,1,0,0]) k (trimL (cfg.keep 20) (sub (bodyOf Try.f20) [1,1,0,1,0,0]) al) H) (blockL 0 (recapture_build_K1 H0))) [(3,x3),(13,x13),(14,x14),(15,x15)] H
def recapture_build_J2 (x3 x13 x14 x15 x16:AV) (H0 H:Hp):Res:=CXgR 20 32 (sub (bodyOf Try.f20) [1,1,0,1,0,0,1,1]) (seqL (fun k al H=>LPgR 20 32 (sub (bodyOf Try.f20) [1,1,0,1,0,0]) k (trimL (cfg.keep 20) (sub (bodyOf Try.f20) [1,1,0,1,0,0]) al) H) (blockL 0 (recapture_build_K1 H0))) [(3,x3),(13,x13),(14,x14),(15,x15),(16,x16)] H
def recapture_build_L1 (x3 x13 x14 x15:AV) (H0 H:Hp):Res:=LPgR 20 32 (sub (bodyOf Try.f20) [1,1,0,1,0,0]) (blockL 0 (recapture_build_K1 H0)) [(3,x3),(13,x13),(14,x14),(15,x15)] H
def F_recapture_build (p0:AV) (H:Hp):Res:=
 bnd (abox p0 H) fun r1=>
 bnd (aload true 9 r1.1 r1.2) fun t6=>
 bnd (aload true 9 r1.1 r1.2) fun t7=>
 bnd (flatC C_recapture_bare [t7] r1.2) fun r8=>
 bnd (some ((.map r8.2.length),r8.2++[.map [] 0])) fun r9=>
 bnd ((afill [(0,9,t6),(9,9,r8.1),(20,1,r9.1)] [(.int .i64 0),(.int .u64 0),(.int .u64 0),(.int .u64 0),(.int .u64 0),(.int .i64 0),(.int .i64 0),(.int .i64 0),.nils,(.int .i64 0),(.int .u64 0),(.int .u64 0),(.int .u64 0),(.int .u64 0),(.int .i64 0),(.int .i64 0),(.int .i64 0),.nils,.nils,.nilp,.nilm]).map .agg) fun t10=>
 bnd (abox t10 r9.2) fun r11=>
 bnd (afield 8 r1.1) fun t12=>
 bnd (aload false 1 t12 r11.2) fun t13=>
 bnd (alenD (.slice 28) t13) fun t14=>
 recapture_build_L1 r11.1 t13 t14 (.int .i64 0) H r11.2
theorem recapture_build_J1_eq (x3:AV) (H0 H:Hp):recapture_build_J1 x3 H0 H =
    some (x3,H):=(CXM_eq [4,6,7] _ _ _ _).trans (by kernel_rfl)
theorem recapture_build_J3_eq (x3 x13 x14 x15:AV) (H0 H:Hp):recapture_build_J3 x3 x13 x14 x15 H0 H =
    bnd (ibin .add x15 (.int .i64 1)) fun t30=>
    recapture_build_L1 x3 x13 x14 t30 H0 H:=(CXM_eq [4,6,7] _ _ _ _).trans (by kernel_rfl)
theorem recapture_build_J2_eq (x3 x13 x14 x15 x16:AV) (H0 H:Hp):recapture_build_J2 x3 x13 x14 x15 x16 H0 H =
    bnd (aindexS 9 x13 x15) fun t17=>
    bnd (aload true 9 t17 H) fun t18=>
    bnd (some ((.ptr H.length 0),H++[.cells [(.int .i64 0),(.int .u64 0),(.int .u64 0),(.int .u64 0),(.int .u64 0),(.int .i64 0),(.int .i64 0),(.int .i64 0),.nils]])) fun r5=>
    bnd (astoreU 9 r5.1 t18 r5.2) fun r_16=>
    bnd (anil x3) fun t21=>
    bnd (afield 18 t21) fun t22=>
    bnd (aload false 1 t22 r_16.2) fun t23=>
    bnd (aload true 9 r5.1 r_16.2) fun t24=>
    bnd (groC C_recapture_build [t24] r_16.2) fun r25=>
    bnd ((setElems 1 [(0,r25.1)] [.nilp]).map (.vs 1 .clip)) fun t26=>
    bnd (aappE 1 8 t23 t26 r25.2) fun r27=>
    bnd (anil x3) fun t28=>
    bnd (afield 18 t28) fun t29=>
    bnd (astoreU 1 t29 r27.1 r27.2) fun r_26=>
    recapture_build_J3 x3 x13 x14 x15 H0 r_26.2:=(CXM_eq [4,6,7] _ _ _ _).trans (by kernel_rfl)
theorem recapture_build_L1_eq (x3 x13 x14 x15:AV) (H0 H:Hp):recapture_build_L1 x3 x13 x14 x15 H0 H =
    bnd (ibin .lss x15 x14) fun t16=>
    cnd t16
     (recapture_build_J2 x3 x13 x14 x15 t16 H0 H)
     (recapture_build_J1 x3 H0 H):=(LPL_eqm (C:=cfg) [4,6,7] (tame_block 0 (recapture_build_K1_tame H0)) _ _).trans (by kernel_rfl)
theorem F_recapture_build_eq (p0:AV) (H:Hp):C_recapture_build [p0] H=F_recapture_build p0 H:=(callw_cxm (C:=cfg) (fn:=Try.f20) (c:=bodyOf Try.f20) (n:=32) [4,6,7] Try.func20 (by kernel_rfl) (by kernel_rfl) [p0] (by kernel_rfl) H).trans (by kernel_rfl)

def recapture_finder_ends_J1 (x0 x1 x2 x3:AV) (H0 H:Hp):Res:=CXgR 21 34 (sub (bodyOf Try.f21) [1,1]) (retL cfg 34 21 Try.f21 H0) [(0,x0),(1,x1),(2,x2),(3,x3)] H
def F_recapture_finder_ends (p0 p1 p2 p3:AV) (H:Hp):Res:=
 bnd (anil p1) fun t11=>
 bnd (afield 19 t11) fun t12=>
 bnd (aload false 1 t12 H) fun t13=>
 bnd (ebin (.pointer 50) .eql t13 .nilp) fun t14=>
 cnd t14
  (bnd (anil p1) fun t17=>
  bnd (afield 9 t17) fun t18=>
  bnd (aload true 9 t18 H) fun t19=>
  bnd (roC C_recapture_finder_compile [p0,t19] H) fun r20=>
  bnd (some ((.ptr r20.2.length 0),r20.2++[.cells [.nils,(.bool false)]])) fun r9=>
  bnd (astoreU 2 r9.1 r20.1 r9.2) fun r_16=>
  bnd (anil p1) fun t22=>
  bnd (afield 19 t22) fun t23=>
  bnd (astoreU 1 t23 r9.1 r_16.2) fun r_19=>
  recapture_finder_ends_J1 p0 p1 p2 p3 H r_19.2)
  (recapture_finder_ends_J1 p0 p1 p2 p3 H H)
theorem recapture_finder_ends_J1_eq (x0 x1 x2 x3:AV) (H0 H:Hp):recapture_finder_ends_J1 x0 x1 x2 x3 H0 H =
    bnd (anil x1) fun t26=>
    bnd (afield 19 t26) fun t27=>
    bnd (aload false 1 t27 H) fun t28=>
    bnd (anil t28) fun t29=>
    bnd (aload true 2 t29 H) fun t30=>
    bnd (C_recapture_finder_reach [x0,t30,x2,x3] H) fun r33=>
    some (r33.1,r33.2):=(CXM_eq [4] _ _ _ _).trans (by kernel_rfl)
theorem F_recapture_finder_ends_eq (p0 p1 p2 p3:AV) (H:Hp):C_recapture_finder_ends [p0,p1,p2,p3] H=F_recapture_finder_ends p0 p1 p2 p3 H:=(callw_cxm (C:=cfg) (fn:=Try.f21) (c:=bodyOf Try.f21) (n:=34) [4] Try.func21 (by kernel_rfl) (by kernel_rfl) [p0,p1,p2,p3] (by kernel_rfl) H).trans (by kernel_rfl)

def recapture_finder_find_J2 (x0 x2 x3 x45 x46 x47:AV) (H0 H:Hp):Res:=CXgR 22 81 (sub (bodyOf Try.f22) [1,0,1,1,1,0,1,0,0,1,1,1]) (seqL (fun k al H=>LPgR 22 81 (sub (bodyOf Try.f22) [1,0,1,1,1,0,1,0,0]) k (trimL (cfg.keep 22) (sub (bodyOf Try.f22) [1,0,1,1,1,0,1,0,0]) al) H) (blockL 1 (blockL 0 (retL cfg 81 22 Try.f22 H0)))) [(0,x0),(2,x2),(3,x3),(45,x45),(46,x46),(47,x47)] H
def recapture_finder_find_J1 (x0 x2 x3 x45 x46 x47 x48:AV) (H0 H:Hp):Res:=CXgR 22 81 (sub (bodyOf Try.f22) [1,0,1,1,1,0,1,0,0,1,1]) (seqL (fun k al H=>LPgR 22 81 (sub (bodyOf Try.f22) [1,0,1,1,1,0,1,0,0]) k (trimL (cfg.keep 22) (sub (bodyOf Try.f22) [1,0,1,1,1,0,1,0,0]) al) H) (blockL 1 (blockL 0 (retL cfg 81 22 Try.f22 H0)))) [(0,x0),(2,x2),(3,x3),(45,x45),(46,x46),(47,x47),(48,x48)] H
def recapture_finder_find_L1 (x0 x2 x3 x45 x46 x47:AV) (H0 H:Hp):Res:=LPgR 22 81 (sub (bodyOf Try.f22) [1,0,1,1,1,0,1,0,0]) (blockL 1 (blockL 0 (retL cfg 81 22 Try.f22 H0))) [(0,x0),(2,x2),(3,x3),(45,x45),(46,x46),(47,x47)] H
def F_recapture_finder_find (p0 p1 p2 p3:AV) (H:Hp):Res:=
 bnd (anil p1) fun t11=>
 bnd (afield 0 t11) fun t12=>
 bnd (afield 0 t12) fun t13=>
 bnd (aload false 1 t13 H) fun t14=>
 bnd (ibin .eql t14 (.int .i64 6)) fun t16=>
 cnd t16
  (bnd (anil p1) fun t19=>
  bnd (afield 18 t19) fun t20=>
  bnd (aload false 1 t20 H) fun t21=>
  bnd (aindexS 1 t21 (.int .i64 0)) fun t22=>
  bnd (aload false 1 t22 H) fun t23=>
  bnd (C_recapture_finder_find [p0,t23,p2,p3] H) fun r26=>
  bnd (anil p0) fun t28=>
  bnd (afield 2 t28) fun t29=>
  bnd (aload false 1 t29 r26.2) fun t30=>
  bnd (anil p1) fun t32=>
  bnd (afield 0 t32) fun t33=>
  bnd (afield 7 t33) fun t34=>
  bnd (aload false 1 t34 r26.2) fun t35=>
  bnd ((afill [(0,1,p2),(1,1,p3)] [(.int .i64 0),(.int .i64 0)]).map .agg) fun t38=>
  bnd (aindexS 2 t30 t35) fun t39=>
  bnd (astoreU 2 t39 t38 r26.2) fun r_21=>
  some ((.tuple []),r_21.2))
  (bnd (ibin .eql t14 (.int .i64 4)) fun t41=>
  cnd t41
   (bnd (anil p1) fun t43=>
   bnd (afield 18 t43) fun t44=>
   bnd (aload false 1 t44 H) fun t45=>
   bnd (alenD (.slice 61) t45) fun t46=>
   recapture_finder_find_L1 p0 p2 p3 t45 t46 (.int .i64 0) H H)
   (bnd (ibin .eql t14 (.int .i64 3)) fun t68=>
   cnd t68
    (bnd (C_recapture_finder_cat [p0,p1,p2,p3] H) fun r73=>
    some ((.tuple []),r73.2))
    (bnd (ibin .eql t14 (.int .i64 5)) fun t75=>
    cnd t75
     (bnd (C_recapture_finder_repeat [p0,p1,p2,p3] H) fun r80=>
     some ((.tuple []),r80.2))
     (some ((.tuple []),H)))))
theorem recapture_finder_find_J2_eq (x0 x2 x3 x45 x46 x47:AV) (H0 H:Hp):recapture_finder_find_J2 x0 x2 x3 x45 x46 x47 H0 H =
    bnd (ibin .add x47 (.int .i64 1)) fun t66=>
    recapture_finder_find_L1 x0 x2 x3 x45 x46 t66 H0 H:=(CXM_eq [7,10] _ _ _ _).trans (by kernel_rfl)
theorem recapture_finder_find_J1_eq (x0 x2 x3 x45 x46 x47 x48:AV) (H0 H:Hp):recapture_finder_find_J1 x0 x2 x3 x45 x46 x47 x48 H0 H =
    bnd (aindexS 1 x45 x47) fun t49=>
    bnd (aload false 1 t49 H) fun t50=>
    bnd (C_recapture_finder_ends [x0,t50,x2,x3] H) fun r55=>
    bnd (ibin .sub x3 x2) fun t58=>
    bnd (aindexS 1 r55.1 t58) fun t59=>
    bnd (aload false 1 t59 r55.2) fun t60=>
    cnd t60
     (bnd (C_recapture_finder_find [x0,t50,x2,x3] r55.2) fun r65=>
     some ((.tuple []),r65.2))
     (recapture_finder_find_J2 x0 x2 x3 x45 x46 x47 H0 r55.2):=(CXM_eq [7,10] _ _ _ _).trans (by kernel_rfl)
theorem recapture_finder_find_L1_eq (x0 x2 x3 x45 x46 x47:AV) (H0 H:Hp):recapture_finder_find_L1 x0 x2 x3 x45 x46 x47 H0 H =
    bnd (ibin .lss x47 x46) fun t48=>
    cnd t48
     (recapture_finder_find_J1 x0 x2 x3 x45 x46 x47 t48 H0 H)
     (some ((.tuple []),H)):=(LPL_eqm (C:=cfg) [7,10] (tame_block 1 (tame_block 0 (tame_ret 22 Try.f22 H0))) _ _).trans (by kernel_rfl)
theorem F_recapture_finder_find_eq (p0 p1 p2 p3:AV) (H:Hp):C_recapture_finder_find [p0,p1,p2,p3] H=F_recapture_finder_find p0 p1 p2 p3 H:=(callw_cxm (C:=cfg) (fn:=Try.f22) (c:=bodyOf Try.f22) (n:=81) [7,10] Try.func22 (by kernel_rfl) (by kernel_rfl) [p0,p1,p2,p3] (by kernel_rfl) H).trans (by kernel_rfl)

def F_recapture_finder_compile (p0 p1:AV) (H:Hp):Res:=
 bnd (abox p1 H) fun r3=>
 bnd (some ((.ptr r3.2.length 0),r3.2++[.cells [.nils,(.bool false)]])) fun r4=>
 bnd (aload true 9 r3.1 r4.2) fun t8=>
 bnd (anil p0) fun t10=>
 bnd (afield 1 t10) fun t11=>
 bnd (aload false 1 t11 r4.2) fun t12=>
 bnd (flatC C_reprog_Compile [t8,t12] r4.2) fun r13=>
 bnd (aext r13.1 0) fun t14=>
 bnd (aext r13.1 1) fun t15=>
 bnd (some ((.ptr r13.2.length 0),r13.2++[.cells [.nils,(.bool false)]])) fun r5=>
 bnd (astoreU 2 r5.1 t14 r5.2) fun r_11=>
 bnd (aload true 2 r5.1 r_11.2) fun t16=>
 bnd (astoreU 2 r4.1 t16 r_11.2) fun r_13=>
 bnd (aload true 2 r4.1 r_13.2) fun v4=>
 some (v4,r_13.2)
theorem F_recapture_finder_compile_eq (p0 p1:AV) (H:Hp):C_recapture_finder_compile [p0,p1] H=F_recapture_finder_compile p0 p1 H:=(callw_cxm (C:=cfg) (fn:=Try.f37) (c:=bodyOf Try.f37) (n:=17) [] Try.func37 (by kernel_rfl) (by kernel_rfl) [p0,p1] (by kernel_rfl) H).trans (by kernel_rfl)

def recapture_finder_reach_J3 (x10:AV) (H0 H:Hp):Res:=CXgR 38 135 (sub (bodyOf Try.f38) [1,1,1,1,1,1,1,1]) (retL cfg 135 38 Try.f38 H0) [(10,x10)] H
def recapture_finder_reach_K1 (H0:Hp):KL:=seqL (fun k al H=>CXgR 38 135 (sub (bodyOf Try.f38) [1,1,1,1,1,1,1,1]) k (trimL (cfg.keep 38) (sub (bodyOf Try.f38) [1,1,1,1,1,1,1,1]) al) H) (retL cfg 135 38 Try.f38 H0)
theorem recapture_finder_reach_K1_tame (H0:Hp):Tame 135 (recapture_finder_reach_K1 H0):=tame_seq (C:=cfg) (kp:=cfg.keep 38) (sub (bodyOf Try.f38) [1,1,1,1,1,1,1,1]) (tame_ret 38 Try.f38 H0)
def recapture_finder_reach_J5 (x0 x3 x5 x9 x10 x11 x12 x13:AV) (H0 H:Hp):Res:=CXgR 38 135 (sub (bodyOf Try.f38) [1,1,1,1,1,1,1,0,1,0,0,1,1]) (seqL (fun k al H=>LPgR 38 135 (sub (bodyOf Try.f38) [1,1,1,1,1,1,1,0,1,0,0]) k (trimL (cfg.keep 38) (sub (bodyOf Try.f38) [1,1,1,1,1,1,1,0,1,0,0]) al) H) (blockL 0 (recapture_finder_reach_K1 H0))) [(0,x0),(3,x3),(5,x5),(9,x9),(10,x10),(11,x11),(12,x12),(13,x13)] H
def recapture_finder_reach_K2 (H0:Hp):KL:=seqL (fun k al H=>CXgR 38 135 (sub (bodyOf Try.f38) [1,1,1,1,1,1,1,0,1,0,0,1,1]) k (trimL (cfg.keep 38) (sub (bodyOf Try.f38) [1,1,1,1,1,1,1,0,1,0,0,1,1]) al) H) (seqL (fun k al H=>LPgR 38 135 (sub (bodyOf Try.f38) [1,1,1,1,1,1,1,0,1,0,0]) k (trimL (cfg.keep 38) (sub (bodyOf Try.f38) [1,1,1,1,1,1,1,0,1,0,0]) al) H) (blockL 0 (recapture_finder_reach_K1 H0)))
theorem recapture_finder_reach_K2_tame (H0:Hp):Tame 135 (recapture_finder_reach_K2 H0):=tame_seq (C:=cfg) (kp:=cfg.keep 38) (sub (bodyOf Try.f38) [1,1,1,1,1,1,1,0,1,0,0,1,1]) (tame_loop (C:=cfg) (kp:=cfg.keep 38) (sub (bodyOf Try.f38) [1,1,1,1,1,1,1,0,1,0,0]) (tame_block 0 (recapture_finder_reach_K1_tame H0)))
def recapture_finder_reach_J9 (x0 x3 x5 x9 x10 x11 x12 x13 x19 x20 x96 x97 x98:AV) (H0 H:Hp):Res:=CXgR 38 135 (sub (bodyOf Try.f38) [1,1,1,1,1,1,1,0,1,0,0,1,0,0,1,1,1,1,1,1,1,1,1,0,0,1,1,1]) (seqL (fun k al H=>LPgR 38 135 (sub (bodyOf Try.f38) [1,1,1,1,1,1,1,0,1,0,0,1,0,0,1,1,1,1,1,1,1,1,1,0,0]) k (trimL (cfg.keep 38) (sub (bodyOf Try.f38) [1,1,1,1,1,1,1,0,1,0,0,1,0,0,1,1,1,1,1,1,1,1,1,0,0]) al) H) (blockL 4 (blockL 1 (recapture_finder_reach_K2 H0)))) [(0,x0),(3,x3),(5,x5),(9,x9),(10,x10),(11,x11),(12,x12),(13,x13),(19,x19),(20,x20),(96,x96),(97,x97),(98,x98)] H
def recapture_finder_reach_J8 (x0 x3 x5 x9 x10 x11 x12 x13 x19 x20 x96 x97 x98 x99:AV) (H0 H:Hp):Res:=CXgR 38 135 (sub (bodyOf Try.f38) [1,1,1,1,1,1,1,0,1,0,0,1,0,0,1,1,1,1,1,1,1,1,1,0,0,1,1]) (seqL (fun k al H=>LPgR 38 135 (sub (bodyOf Try.f38) [1,1,1,1,1,1,1,0,1,0,0,1,0,0,1,1,1,1,1,1,1,1,1,0,0]) k (trimL (cfg.keep 38) (sub (bodyOf Try.f38) [1,1,1,1,1,1,1,0,1,0,0,1,0,0,1,1,1,1,1,1,1,1,1,0,0]) al) H) (blockL 4 (blockL 1 (recapture_finder_reach_K2 H0)))) [(0,x0),(3,x3),(5,x5),(9,x9),(10,x10),(11,x11),(12,x12),(13,x13),(19,x19),(20,x20),(96,x96),(97,x97),(98,x98),(99,x99)] H
def recapture_finder_reach_L2 (x0 x3 x5 x9 x10 x11 x12 x13 x19 x20 x96 x97 x98:AV) (H0 H:Hp):Res:=LPgR 38 135 (sub (bodyOf Try.f38) [1,1,1,1,1,1,1,0,1,0,0,1,0,0,1,1,1,1,1,1,1,1,1,0,0]) (blockL 4 (blockL 1 (recapture_finder_reach_K2 H0))) [(0,x0),(3,x3),(5,x5),(9,x9),(10,x10),(11,x11),(12,x12),(13,x13),(19,x19),(20,x20),(96,x96),(97,x97),(98,x98)] H
def recapture_finder_reach_J7 (x0 x3 x5 x9 x10 x12 x13 x17:AV) (H0 H:Hp):Res:=CXgR 38 135 (sub (bodyOf Try.f38) [1,1,1,1,1,1,1,0,1,0,0,1,0,0,1,1,1,1,1]) (blockL 1 (recapture_finder_reach_K2 H0)) [(0,x0),(3,x3),(5,x5),(9,x9),(10,x10),(12,x12),(13,x13),(17,x17)] H
def recapture_finder_reach_J6 (x0 x3 x5 x9 x10 x11 x12 x13 x14:AV) (H0 H:Hp):Res:=CXgR 38 135 (sub (bodyOf Try.f38) [1,1,1,1,1,1,1,0,1,0,0,1,0,0,1,1]) (blockL 1 (recapture_finder_reach_K2 H0)) [(0,x0),(3,x3),(5,x5),(9,x9),(10,x10),(11,x11),(12,x12),(13,x13),(14,x14)] H
def recapture_finder_reach_K3 (H0:Hp):KL:=seqL (fun k al H=>CXgR 38 135 (sub (bodyOf Try.f38) [1,1,1,1,1,1,1,0,1,0,0,1,0,0,1,1]) k (trimL (cfg.keep 38) (sub (bodyOf Try.f38) [1,1,1,1,1,1,1,0,1,0,0,1,0,0,1,1]) al) H) (blockL 1 (recapture_finder_reach_K2 H0))
theorem recapture_finder_reach_K3_tame (H0:Hp):Tame 135 (recapture_finder_reach_K3 H0):=tame_seq (C:=cfg) (kp:=cfg.keep 38) (sub (bodyOf Try.f38) [1,1,1,1,1,1,1,0,1,0,0,1,0,0,1,1]) (tame_block 1 (recapture_finder_reach_K2_tame H0))
def recapture_finder_reach_J11 (x0 x3 x5 x9 x10 x11 x12 x13 x14 x54 x55 x56:AV) (H0 H:Hp):Res:=CXgR 38 135 (sub (bodyOf Try.f38) [1,1,1,1,1,1,1,0,1,0,0,1,0,0,1,0,1,0,0,1,1,1]) (seqL (fun k al H=>LPgR 38 135 (sub (bodyOf Try.f38) [1,1,1,1,1,1,1,0,1,0,0,1,0,0,1,0,1,0,0]) k (trimL (cfg.keep 38) (sub (bodyOf Try.f38) [1,1,1,1,1,1,1,0,1,0,0,1,0,0,1,0,1,0,0]) al) H) (blockL 2 (recapture_finder_reach_K3 H0))) [(0,x0),(3,x3),(5,x5),(9,x9),(10,x10),(11,x11),(12,x12),(13,x13),(14,x14),(54,x54),(55,x55),(56,x56)] H
def recapture_finder_reach_J10 (x0 x3 x5 x9 x10 x11 x12 x13 x14 x54 x55 x56 x57:AV) (H0 H:Hp):Res:=CXgR 38 135 (sub (bodyOf Try.f38) [1,1,1,1,1,1,1,0,1,0,0,1,0,0,1,0,1,0,0,1,1]) (seqL (fun k al H=>LPgR 38 135 (sub (bodyOf Try.f38) [1,1,1,1,1,1,1,0,1,0,0,1,0,0,1,0,1,0,0]) k (trimL (cfg.keep 38) (sub (bodyOf Try.f38) [1,1,1,1,1,1,1,0,1,0,0,1,0,0,1,0,1,0,0]) al) H) (blockL 2 (recapture_finder_reach_K3 H0))) [(0,x0),(3,x3),(5,x5),(9,x9),(10,x10),(11,x11),(12,x12),(13,x13),(14,x14),(54,x54),(55,x55),(56,x56),(57,x57)] H
def recapture_finder_reach_L3 (x0 x3 x5 x9 x10 x11 x12 x13 x14 x54 x55 x56:AV) (H0 H:Hp):Res:=LPgR 38 135 (sub (bodyOf Try.f38) [1,1,1,1,1,1,1,0,1,0,0,1,0,0,1,0,1,0,0]) (blockL 2 (recapture_finder_reach_K3 H0)) [(0,x0),(3,x3),(5,x5),(9,x9),(10,x10),(11,x11),(12,x12),(13,x13),(14,x14),(54,x54),(55,x55),(56,x56)] H
def recapture_finder_reach_J4 (x0 x3 x5 x9 x10 x11 x12 x13:AV) (H0 H:Hp):Res:=CXgR 38 135 (sub (bodyOf Try.f38) [1,1,1,1,1,1,1,0,1,0,0,1]) (seqL (fun k al H=>LPgR 38 135 (sub (bodyOf Try.f38) [1,1,1,1,1,1,1,0,1,0,0]) k (trimL (cfg.keep 38) (sub (bodyOf Try.f38) [1,1,1,1,1,1,1,0,1,0,0]) al) H) (blockL 0 (recapture_finder_reach_K1 H0))) [(0,x0),(3,x3),(5,x5),(9,x9),(10,x10),(11,x11),(12,x12),(13,x13)] H
def recapture_finder_reach_L1 (x0 x3 x5 x9 x10 x11 x12 x13:AV) (H0 H:Hp):Res:=LPgR 38 135 (sub (bodyOf Try.f38) [1,1,1,1,1,1,1,0,1,0,0]) (blockL 0 (recapture_finder_reach_K1 H0)) [(0,x0),(3,x3),(5,x5),(9,x9),(10,x10),(11,x11),(12,x12),(13,x13)] H
def recapture_finder_reach_J2 (x0 x2 x3 x5 x9 x10 x11 x12:AV) (H0 H:Hp):Res:=CXgR 38 135 (sub (bodyOf Try.f38) [1,1,1,1,1,1,1]) (retL cfg 135 38 Try.f38 H0) [(0,x0),(2,x2),(3,x3),(5,x5),(9,x9),(10,x10),(11,x11),(12,x12)] H
def recapture_finder_reach_J1 (x0 x2 x3 x5 x9 x10:AV) (H0 H:Hp):Res:=CXgR 38 135 (sub (bodyOf Try.f38) [1,1,1,1]) (retL cfg 135 38 Try.f38 H0) [(0,x0),(2,x2),(3,x3),(5,x5),(9,x9),(10,x10)] H
def F_recapture_finder_reach (p0 p1 p2 p3:AV) (H:Hp):Res:=
 bnd (abox p1 H) fun r5=>
 bnd (amin2 p2 p3) fun t26=>
 bnd (amax2 p2 p3) fun t29=>
 bnd (ibin .sub t29 t26) fun t31=>
 bnd (ibin .add t31 (.int .i64 1)) fun t32=>
 bnd (amake 1 1 false (.bool false) t32 t32 r5.2) fun r33=>
 bnd (afield 0 r5.1) fun t34=>
 bnd (aload false 1 t34 r33.2) fun t35=>
 bnd (alenD (.slice 76) t35) fun t36=>
 bnd (ibin .eql t36 (.int .i64 0)) fun t37=>
 cnd t37
  (some (r33.1,r33.2))
  (recapture_finder_reach_J1 p0 p2 p3 r5.1 t26 r33.1 H r33.2)
theorem recapture_finder_reach_J3_eq (x10:AV) (H0 H:Hp):recapture_finder_reach_J3 x10 H0 H =
    some (x10,H):=(CXM_eq [5,9,11,12,15,17,18,21,26,31,32] _ _ _ _).trans (by kernel_rfl)
theorem recapture_finder_reach_J5_eq (x0 x3 x5 x9 x10 x11 x12 x13:AV) (H0 H:Hp):recapture_finder_reach_J5 x0 x3 x5 x9 x10 x11 x12 x13 H0 H =
    bnd (ibin .add x13 x12) fun t49=>
    recapture_finder_reach_L1 x0 x3 x5 x9 x10 x11 x12 t49 H0 H:=(CXM_eq [5,9,11,12,15,17,18,21,26,31,32] _ _ _ _).trans (by kernel_rfl)
theorem recapture_finder_reach_J9_eq (x0 x3 x5 x9 x10 x11 x12 x13 x19 x20 x96 x97 x98:AV) (H0 H:Hp):recapture_finder_reach_J9 x0 x3 x5 x9 x10 x11 x12 x13 x19 x20 x96 x97 x98 H0 H =
    bnd (ibin .add x98 (.int .i64 1)) fun t133=>
    recapture_finder_reach_L2 x0 x3 x5 x9 x10 x11 x12 x13 x19 x20 x96 x97 t133 H0 H:=(CXM_eq [5,9,11,12,15,17,18,21,26,31,32] _ _ _ _).trans (by kernel_rfl)
theorem recapture_finder_reach_J8_eq (x0 x3 x5 x9 x10 x11 x12 x13 x19 x20 x96 x97 x98 x99:AV) (H0 H:Hp):recapture_finder_reach_J8 x0 x3 x5 x9 x10 x11 x12 x13 x19 x20 x96 x97 x98 x99 H0 H =
    bnd (aindexS 1 x96 x98) fun t100=>
    bnd (aload false 1 t100 H) fun t101=>
    bnd (afield 0 x5) fun t102=>
    bnd (aload false 1 t102 H) fun t103=>
    bnd (aindexS 7 t103 t101) fun t105=>
    bnd (aload true 7 t105 H) fun t106=>
    bnd (some ((.ptr H.length 0),H++[.cells [(.int .i64 0),(.int .u64 0),(.int .u64 0),(.int .u64 0),(.int .u64 0),(.int .i64 0),(.int .i64 0)]])) fun r23=>
    bnd (astoreU 7 r23.1 t106 r23.2) fun r_40=>
    bnd (afield 0 r23.1) fun t107=>
    bnd (aload false 1 t107 r_40.2) fun t108=>
    bnd (ibin .eql t108 (.int .i64 1)) fun t109=>
    bnd (gdv t109 true (.tuple []) (afield 1 r23.1)) fun t111=>
    bnd (gdv t109 true (.tuple []) (aload true 4 t111 r_40.2)) fun t112=>
    bnd (gdv t109 true (.tuple []) (some x19)) fun t113=>
    bnd (gdv t109 true ((.tuple []),r_40.2) (flatC C_charset_Has [t112,t113] r_40.2)) fun r114=>
    bnd (apick t109 r114.1 (.bool false)) fun t115=>
    bnd (gdv t115 true (.tuple []) (some x20)) fun t117=>
    bnd (gdv t115 true (.tuple []) (some t101)) fun t118=>
    bnd (gdv t115 true (.tuple []) (ibin .add t118 (.int .i64 1))) fun t119=>
    bnd (gdv t115 true (.tuple []) (aindexS 1 t117 t119)) fun t120=>
    bnd (gdv t115 true (.tuple []) (aload false 1 t120 r114.2)) fun t121=>
    bnd (gdv t115 true (.tuple []) (aun .not t121)) fun t122=>
    bnd (apick t115 t122 (.bool false)) fun t123=>
    cnd t123
     (bnd (ibin .add t101 (.int .i64 1)) fun t126=>
     bnd (aindexS 1 x20 t126) fun t127=>
     bnd (astoreU 1 t127 (.bool true) r114.2) fun r_58=>
     bnd (ibin .add t101 (.int .i64 1)) fun t130=>
     bnd ((setElems 1 [(0,t130)] [(.int .i64 0)]).map (.vs 1 .clip)) fun t131=>
     bnd (aappEL false 1 8 x11 t131 r_58.2) fun r132=>
     recapture_finder_reach_J9 x0 x3 x5 x9 x10 r132.1 x12 x13 x19 x20 x96 x97 x98 H0 r132.2)
     (recapture_finder_reach_J9 x0 x3 x5 x9 x10 x11 x12 x13 x19 x20 x96 x97 x98 H0 r114.2):=(CXM_eq [5,9,11,12,15,17,18,21,26,31,32] _ _ _ _).trans (by kernel_rfl)
theorem recapture_finder_reach_L2_eq (x0 x3 x5 x9 x10 x11 x12 x13 x19 x20 x96 x97 x98:AV) (H0 H:Hp):recapture_finder_reach_L2 x0 x3 x5 x9 x10 x11 x12 x13 x19 x20 x96 x97 x98 H0 H =
    bnd (ibin .lss x98 x97) fun t99=>
    cnd t99
     (recapture_finder_reach_J8 x0 x3 x5 x9 x10 x11 x12 x13 x19 x20 x96 x97 x98 t99 H0 H)
     (recapture_finder_reach_J5 x0 x3 x5 x9 x10 x11 x12 x13 H0 H):=(LPL_eqm (C:=cfg) [5,9,11,12,15,17,18,21,26,31,32] (tame_block 4 (tame_block 1 (recapture_finder_reach_K2_tame H0))) _ _).trans (by kernel_rfl)
theorem recapture_finder_reach_J7_eq (x0 x3 x5 x9 x10 x12 x13 x17:AV) (H0 H:Hp):recapture_finder_reach_J7 x0 x3 x5 x9 x10 x12 x13 x17 H0 H =
    bnd (anil x0) fun t83=>
    bnd (afield 0 t83) fun t84=>
    bnd (aload false 1 t84 H) fun t85=>
    bnd (ibin .add x13 x12) fun t89=>
    bnd (amin2 x13 t89) fun t90=>
    bnd (aindexStr t85 t90) fun t91=>
    bnd (afield 0 x5) fun t92=>
    bnd (aload false 1 t92 H) fun t93=>
    bnd (alenD (.slice 76) t93) fun t94=>
    bnd (amake 1 1 false (.bool false) t94 t94 H) fun r95=>
    bnd (alenD (.slice 3) x17) fun t97=>
    recapture_finder_reach_L2 x0 x3 x5 x9 x10 .nils x12 x13 t91 r95.1 x17 t97 (.int .i64 0) H0 r95.2:=(CXM_eq [5,9,11,12,15,17,18,21,26,31,32] _ _ _ _).trans (by kernel_rfl)
theorem recapture_finder_reach_J6_eq (x0 x3 x5 x9 x10 x11 x12 x13 x14:AV) (H0 H:Hp):recapture_finder_reach_J6 x0 x3 x5 x9 x10 x11 x12 x13 x14 H0 H =
    bnd (aload true 2 x5 H) fun t66=>
    bnd (C_recapture_finder_close [x0,t66,x11,x14,x13] H) fun r70=>
    bnd (aext r70.1 0) fun t71=>
    bnd (aext r70.1 1) fun t72=>
    bnd (ibin .sub x13 x9) fun t76=>
    bnd (aindexS 1 x10 t76) fun t78=>
    bnd (astoreU 1 t78 t72 r70.2) fun r_19=>
    bnd (ibin .eql x13 x3) fun t81=>
    cnd t81
     (recapture_finder_reach_J3 x10 H0 r_19.2)
     (recapture_finder_reach_J7 x0 x3 x5 x9 x10 x12 x13 t71 H0 r_19.2):=(CXM_eq [5,9,11,12,15,17,18,21,26,31,32] _ _ _ _).trans (by kernel_rfl)
theorem recapture_finder_reach_J11_eq (x0 x3 x5 x9 x10 x11 x12 x13 x14 x54 x55 x56:AV) (H0 H:Hp):recapture_finder_reach_J11 x0 x3 x5 x9 x10 x11 x12 x13 x14 x54 x55 x56 H0 H =
    bnd (ibin .add x56 (.int .i64 1)) fun t63=>
    recapture_finder_reach_L3 x0 x3 x5 x9 x10 x11 x12 x13 x14 x54 x55 t63 H0 H:=(CXM_eq [5,9,11,12,15,17,18,21,26,31,32] _ _ _ _).trans (by kernel_rfl)
theorem recapture_finder_reach_J10_eq (x0 x3 x5 x9 x10 x11 x12 x13 x14 x54 x55 x56 x57:AV) (H0 H:Hp):recapture_finder_reach_J10 x0 x3 x5 x9 x10 x11 x12 x13 x14 x54 x55 x56 x57 H0 H =
    bnd (aindexS 1 x54 x56) fun t58=>
    bnd (aload false 1 t58 H) fun t59=>
    bnd (aindexS 1 x14 t59) fun t62=>
    bnd (astoreU 1 t62 (.bool true) H) fun r_69=>
    recapture_finder_reach_J11 x0 x3 x5 x9 x10 x11 x12 x13 x14 x54 x55 x56 H0 r_69.2:=(CXM_eq [5,9,11,12,15,17,18,21,26,31,32] _ _ _ _).trans (by kernel_rfl)
theorem recapture_finder_reach_L3_eq (x0 x3 x5 x9 x10 x11 x12 x13 x14 x54 x55 x56:AV) (H0 H:Hp):recapture_finder_reach_L3 x0 x3 x5 x9 x10 x11 x12 x13 x14 x54 x55 x56 H0 H =
    bnd (ibin .lss x56 x55) fun t57=>
    cnd t57
     (recapture_finder_reach_J10 x0 x3 x5 x9 x10 x11 x12 x13 x14 x54 x55 x56 t57 H0 H)
     (recapture_finder_reach_J6 x0 x3 x5 x9 x10 x11 x12 x13 x14 H0 H):=(LPL_eqm (C:=cfg) [5,9,11,12,15,17,18,21,26,31,32] (tame_block 2 (recapture_finder_reach_K3_tame H0)) _ _).trans (by kernel_rfl)
theorem recapture_finder_reach_J4_eq (x0 x3 x5 x9 x10 x11 x12 x13:AV) (H0 H:Hp):recapture_finder_reach_J4 x0 x3 x5 x9 x10 x11 x12 x13 H0 H =
    bnd (afield 0 x5) fun t50=>
    bnd (aload false 1 t50 H) fun t51=>
    bnd (alenD (.slice 76) t51) fun t52=>
    bnd (amake 1 1 false (.bool false) t52 t52 H) fun r53=>
    bnd (alenD (.slice 3) x11) fun t55=>
    recapture_finder_reach_L3 x0 x3 x5 x9 x10 x11 x12 x13 r53.1 x11 t55 (.int .i64 0) H0 r53.2:=(CXM_eq [5,9,11,12,15,17,18,21,26,31,32] _ _ _ _).trans (by kernel_rfl)
theorem recapture_finder_reach_L1_eq (x0 x3 x5 x9 x10 x11 x12 x13:AV) (H0 H:Hp):recapture_finder_reach_L1 x0 x3 x5 x9 x10 x11 x12 x13 H0 H =
    bnd (alenD (.slice 3) x11) fun t45=>
    bnd (ibin .gtr t45 (.int .i64 0)) fun t46=>
    cnd t46
     (recapture_finder_reach_J4 x0 x3 x5 x9 x10 x11 x12 x13 H0 H)
     (recapture_finder_reach_J3 x10 H0 H):=(LPL_eqm (C:=cfg) [5,9,11,12,15,17,18,21,26,31,32] (tame_block 0 (recapture_finder_reach_K1_tame H0)) _ _).trans (by kernel_rfl)
theorem recapture_finder_reach_J2_eq (x0 x2 x3 x5 x9 x10 x11 x12:AV) (H0 H:Hp):recapture_finder_reach_J2 x0 x2 x3 x5 x9 x10 x11 x12 H0 H =
    recapture_finder_reach_L1 x0 x3 x5 x9 x10 x11 x12 x2 H0 H:=(CXM_eq [5,9,11,12,15,17,18,21,26,31,32] _ _ _ _).trans (by kernel_rfl)
theorem recapture_finder_reach_J1_eq (x0 x2 x3 x5 x9 x10:AV) (H0 H:Hp):recapture_finder_reach_J1 x0 x2 x3 x5 x9 x10 H0 H =
    bnd ((setElems 1 [(0,(.int .i64 0))] [(.int .i64 0)]).map (.vs 1 .clip)) fun t39=>
    bnd (ibin .lss x3 x2) fun t42=>
    cnd t42
     (recapture_finder_reach_J2 x0 x2 x3 x5 x9 x10 t39 (.int .i64 (-1)) H0 H)
     (recapture_finder_reach_J2 x0 x2 x3 x5 x9 x10 t39 (.int .i64 1) H0 H):=(CXM_eq [5,9,11,12,15,17,18,21,26,31,32] _ _ _ _).trans (by kernel_rfl)
theorem F_recapture_finder_reach_eq (p0 p1 p2 p3:AV) (H:Hp):C_recapture_finder_reach [p0,p1,p2,p3] H=F_recapture_finder_reach p0 p1 p2 p3 H:=(callw_cxm (C:=cfg) (fn:=Try.f38) (c:=bodyOf Try.f38) (n:=135) [5,9,11,12,15,17,18,21,26,31,32] Try.func38 (by kernel_rfl) (by kernel_rfl) [p0,p1,p2,p3] (by kernel_rfl) H).trans (by kernel_rfl)

def recapture_finder_cat_J2 (x0 x2 x3 x5 x15 x16 x17:AV) (H0 H:Hp):Res:=CXgR 39 47 (sub (bodyOf Try.f39) [1,1,0,0,1,1,1]) (seqL (fun k al H=>LPgR 39 47 (sub (bodyOf Try.f39) [1,1,0,0]) k (trimL (cfg.keep 39) (sub (bodyOf Try.f39) [1,1,0,0]) al) H) (blockL 0 (retL cfg 47 39 Try.f39 H0))) [(0,x0),(2,x2),(3,x3),(5,x5),(15,x15),(16,x16),(17,x17)] H
def recapture_finder_cat_K1 (H0:Hp):KL:=seqL (fun k al H=>CXgR 39 47 (sub (bodyOf Try.f39) [1,1,0,0,1,1,1]) k (trimL (cfg.keep 39) (sub (bodyOf Try.f39) [1,1,0,0,1,1,1]) al) H) (seqL (fun k al H=>LPgR 39 47 (sub (bodyOf Try.f39) [1,1,0,0]) k (trimL (cfg.keep 39) (sub (bodyOf Try.f39) [1,1,0,0]) al) H) (blockL 0 (retL cfg 47 39 Try.f39 H0)))
def recapture_finder_cat_J3 (x0 x2 x3 x5 x9 x11 x15 x16 x17:AV) (H0 H:Hp):Res:=CXgR 39 47 (sub (bodyOf Try.f39) [1,1,0,0,1,1,0,0,1,1,1,1]) (blockL 1 (recapture_finder_cat_K1 H0)) [(0,x0),(2,x2),(3,x3),(5,x5),(9,x9),(11,x11),(15,x15),(16,x16),(17,x17)] H
def recapture_finder_cat_J1 (x0 x2 x3 x5 x15 x16 x17 x18:AV) (H0 H:Hp):Res:=CXgR 39 47 (sub (bodyOf Try.f39) [1,1,0,0,1,1]) (seqL (fun k al H=>LPgR 39 47 (sub (bodyOf Try.f39) [1,1,0,0]) k (trimL (cfg.keep 39) (sub (bodyOf Try.f39) [1,1,0,0]) al) H) (blockL 0 (retL cfg 47 39 Try.f39 H0))) [(0,x0),(2,x2),(3,x3),(5,x5),(15,x15),(16,x16),(17,x17),(18,x18)] H
def recapture_finder_cat_L1 (x0 x2 x3 x5 x15 x16 x17:AV) (H0 H:Hp):Res:=LPgR 39 47 (sub (bodyOf Try.f39) [1,1,0,0]) (blockL 0 (retL cfg 47 39 Try.f39 H0)) [(0,x0),(2,x2),(3,x3),(5,x5),(15,x15),(16,x16),(17,x17)] H
def F_recapture_finder_cat (p0 p1 p2 p3:AV) (H:Hp):Res:=
 bnd (abox p1 H) fun r5=>
 bnd (aload false 1 r5.1 r5.2) fun t12=>
 bnd (anil t12) fun t13=>
 bnd (afield 18 t13) fun t14=>
 bnd (aload false 1 t14 r5.2) fun t15=>
 bnd (alenD (.slice 61) t15) fun t16=>
 recapture_finder_cat_L1 p0 p2 p3 r5.1 t15 t16 (.int .i64 0) H r5.2
theorem recapture_finder_cat_J2_eq (x0 x2 x3 x5 x15 x16 x17:AV) (H0 H:Hp):recapture_finder_cat_J2 x0 x2 x3 x5 x15 x16 x17 H0 H =
    bnd (ibin .add x17 (.int .i64 1)) fun t46=>
    recapture_finder_cat_L1 x0 x2 x3 x5 x15 x16 t46 H0 H:=(CXM_eq [3,7,9] _ _ _ _).trans (by kernel_rfl)
theorem recapture_finder_cat_J3_eq (x0 x2 x3 x5 x9 x11 x15 x16 x17:AV) (H0 H:Hp):recapture_finder_cat_J3 x0 x2 x3 x5 x9 x11 x15 x16 x17 H0 H =
    bnd (C_recapture_finder_find [x0,x9,x2,x11] H) fun r44=>
    recapture_finder_cat_J2 x0 x11 x3 x5 x15 x16 x17 H0 r44.2:=(CXM_eq [3,7,9] _ _ _ _).trans (by kernel_rfl)
theorem recapture_finder_cat_J1_eq (x0 x2 x3 x5 x15 x16 x17 x18:AV) (H0 H:Hp):recapture_finder_cat_J1 x0 x2 x3 x5 x15 x16 x17 x18 H0 H =
    bnd (aindexS 1 x15 x17) fun t20=>
    bnd (aload false 1 t20 H) fun t21=>
    bnd (some ((.ptr H.length 0),H++[.cells [(.int .i64 0)]])) fun r8=>
    bnd (astoreU 1 r8.1 x17 r8.2) fun r_12=>
    bnd (aload false 1 x5 r_12.2) fun t23=>
    bnd (aload false 1 r8.1 r_12.2) fun t24=>
    bnd (some (.fn (.func 58) [] [x5,r8.1])) fun t27=>
    bnd (C_recapture_finder_starts [x0,t23,t24,x2,x3,t27] r_12.2) fun r28=>
    bnd (C_recapture_finder_ends [x0,t21,x2,x3] r28.2) fun r33=>
    bnd (roC C_recapture_longest [r33.1,x2,r28.1,x2] r33.2) fun r37=>
    bnd (ibin .lss r37.1 (.int .i64 0)) fun t39=>
    cnd t39
     (some ((.tuple []),r37.2))
     (recapture_finder_cat_J3 x0 x2 x3 x5 t21 r37.1 x15 x16 x17 H0 r37.2):=(CXM_eq [3,7,9] _ _ _ _).trans (by kernel_rfl)
theorem recapture_finder_cat_L1_eq (x0 x2 x3 x5 x15 x16 x17:AV) (H0 H:Hp):recapture_finder_cat_L1 x0 x2 x3 x5 x15 x16 x17 H0 H =
    bnd (ibin .lss x17 x16) fun t18=>
    cnd t18
     (recapture_finder_cat_J1 x0 x2 x3 x5 x15 x16 x17 t18 H0 H)
     (some ((.tuple []),H)):=(LPL_eqm (C:=cfg) [3,7,9] (tame_block 0 (tame_ret 39 Try.f39 H0)) _ _).trans (by kernel_rfl)
theorem F_recapture_finder_cat_eq (p0 p1 p2 p3:AV) (H:Hp):C_recapture_finder_cat [p0,p1,p2,p3] H=F_recapture_finder_cat p0 p1 p2 p3 H:=(callw_cxm (C:=cfg) (fn:=Try.f39) (c:=bodyOf Try.f39) (n:=47) [3,7,9] Try.func39 (by kernel_rfl) (by kernel_rfl) [p0,p1,p2,p3] (by kernel_rfl) H).trans (by kernel_rfl)

def recapture_finder_repeat_J2 (x0 x2 x3 x5 x8 x9 x10 x11 x12:AV) (H0 H:Hp):Res:=CXgR 40 103 (sub (bodyOf Try.f40) [1,1,1,1,1,0,0,1,1]) (seqL (fun k al H=>LPgR 40 103 (sub (bodyOf Try.f40) [1,1,1,1,1,0,0]) k (trimL (cfg.keep 40) (sub (bodyOf Try.f40) [1,1,1,1,1,0,0]) al) H) (blockL 0 (retL cfg 103 40 Try.f40 H0))) [(0,x0),(2,x2),(3,x3),(5,x5),(8,x8),(9,x9),(10,x10),(11,x11),(12,x12)] H
def recapture_finder_repeat_K1 (H0:Hp):KL:=seqL (fun k al H=>CXgR 40 103 (sub (bodyOf Try.f40) [1,1,1,1,1,0,0,1,1]) k (trimL (cfg.keep 40) (sub (bodyOf Try.f40) [1,1,1,1,1,0,0,1,1]) al) H) (seqL (fun k al H=>LPgR 40 103 (sub (bodyOf Try.f40) [1,1,1,1,1,0,0]) k (trimL (cfg.keep 40) (sub (bodyOf Try.f40) [1,1,1,1,1,0,0]) al) H) (blockL 0 (retL cfg 103 40 Try.f40 H0)))
def recapture_finder_repeat_J6 (x0 x2 x3 x5 x8 x9 x10 x11 x12 x17:AV) (H0 H:Hp):Res:=CXgR 40 103 (sub (bodyOf Try.f40) [1,1,1,1,1,0,0,1,0,0,1,1,1,1,1,1,1]) (blockL 1 (recapture_finder_repeat_K1 H0)) [(0,x0),(2,x2),(3,x3),(5,x5),(8,x8),(9,x9),(10,x10),(11,x11),(12,x12),(17,x17)] H
def recapture_finder_repeat_J5 (x0 x2 x3 x5 x8 x9 x10 x11 x12 x13 x16:AV) (H0 H:Hp):Res:=CXgR 40 103 (sub (bodyOf Try.f40) [1,1,1,1,1,0,0,1,0,0,1,1,1,1,1]) (blockL 1 (recapture_finder_repeat_K1 H0)) [(0,x0),(2,x2),(3,x3),(5,x5),(8,x8),(9,x9),(10,x10),(11,x11),(12,x12),(13,x13),(16,x16)] H
def recapture_finder_repeat_J4 (x0 x2 x3 x5 x8 x9 x10 x11 x12 x13:AV) (H0 H:Hp):Res:=CXgR 40 103 (sub (bodyOf Try.f40) [1,1,1,1,1,0,0,1,0,0,1,1,1]) (blockL 1 (recapture_finder_repeat_K1 H0)) [(0,x0),(2,x2),(3,x3),(5,x5),(8,x8),(9,x9),(10,x10),(11,x11),(12,x12),(13,x13)] H
def recapture_finder_repeat_J3 (x0 x2 x3 x5 x8 x9 x10 x11 x12 x13:AV) (H0 H:Hp):Res:=CXgR 40 103 (sub (bodyOf Try.f40) [1,1,1,1,1,0,0,1,0,0,1,1]) (blockL 1 (recapture_finder_repeat_K1 H0)) [(0,x0),(2,x2),(3,x3),(5,x5),(8,x8),(9,x9),(10,x10),(11,x11),(12,x12),(13,x13)] H
def recapture_finder_repeat_J1 (x0 x2 x3 x5 x8 x9 x10 x11 x12:AV) (H0 H:Hp):Res:=CXgR 40 103 (sub (bodyOf Try.f40) [1,1,1,1,1,0,0,1]) (seqL (fun k al H=>LPgR 40 103 (sub (bodyOf Try.f40) [1,1,1,1,1,0,0]) k (trimL (cfg.keep 40) (sub (bodyOf Try.f40) [1,1,1,1,1,0,0]) al) H) (blockL 0 (retL cfg 103 40 Try.f40 H0))) [(0,x0),(2,x2),(3,x3),(5,x5),(8,x8),(9,x9),(10,x10),(11,x11),(12,x12)] H
def recapture_finder_repeat_L1 (x0 x2 x3 x5 x8 x9 x10 x11 x12:AV) (H0 H:Hp):Res:=LPgR 40 103 (sub (bodyOf Try.f40) [1,1,1,1,1,0,0]) (blockL 0 (retL cfg 103 40 Try.f40 H0)) [(0,x0),(2,x2),(3,x3),(5,x5),(8,x8),(9,x9),(10,x10),(11,x11),(12,x12)] H
def F_recapture_finder_repeat (p0 p1 p2 p3:AV) (H:Hp):Res:=
 bnd (abox p1 H) fun r5=>
 bnd (aload false 1 r5.1 r5.2) fun t18=>
 bnd (anil t18) fun t19=>
 bnd (afield 0 t19) fun t20=>
 bnd (afield 5 t20) fun t21=>
 bnd (aload false 1 t21 r5.2) fun t22=>
 bnd (aload false 1 r5.1 r5.2) fun t23=>
 bnd (anil t23) fun t24=>
 bnd (afield 0 t24) fun t25=>
 bnd (afield 6 t25) fun t26=>
 bnd (aload false 1 t26 r5.2) fun t27=>
 bnd (some ((.map r5.2.length),r5.2++[.map [] 0])) fun r28=>
 recapture_finder_repeat_L1 p0 p2 p3 r5.1 t22 t27 r28.1 p2 (.int .i64 0) H r28.2
theorem recapture_finder_repeat_J2_eq (x0 x2 x3 x5 x8 x9 x10 x11 x12:AV) (H0 H:Hp):recapture_finder_repeat_J2 x0 x2 x3 x5 x8 x9 x10 x11 x12 H0 H =
    bnd (ibin .add x12 (.int .i64 1)) fun t38=>
    recapture_finder_repeat_L1 x0 x2 x3 x5 x8 x9 x10 x11 t38 H0 H:=(CXM_eq [6,7,10,13,16,18] _ _ _ _).trans (by kernel_rfl)
theorem recapture_finder_repeat_J6_eq (x0 x2 x3 x5 x8 x9 x10 x11 x12 x17:AV) (H0 H:Hp):recapture_finder_repeat_J6 x0 x2 x3 x5 x8 x9 x10 x11 x12 x17 H0 H =
    bnd (aload false 1 x5 H) fun t87=>
    bnd (anil t87) fun t88=>
    bnd (afield 0 t88) fun t89=>
    bnd (aload true 9 t89 H) fun t90=>
    bnd (C_recapture_finder_clear [x0,t90] H) fun r91=>
    bnd (aload false 1 x5 r91.2) fun t93=>
    bnd (anil t93) fun t94=>
    bnd (afield 18 t94) fun t95=>
    bnd (aload false 1 t95 r91.2) fun t96=>
    bnd (aindexS 1 t96 (.int .i64 0)) fun t97=>
    bnd (aload false 1 t97 r91.2) fun t98=>
    bnd (C_recapture_finder_find [x0,t98,x2,x17] r91.2) fun r101=>
    recapture_finder_repeat_J2 x0 x17 x3 x5 x8 x9 x10 x11 x12 H0 r101.2:=(CXM_eq [6,7,10,13,16,18] _ _ _ _).trans (by kernel_rfl)
theorem recapture_finder_repeat_J5_eq (x0 x2 x3 x5 x8 x9 x10 x11 x12 x13 x16:AV) (H0 H:Hp):recapture_finder_repeat_J5 x0 x2 x3 x5 x8 x9 x10 x11 x12 x13 x16 H0 H =
    bnd (aload false 1 x13 H) fun t80=>
    bnd (alookup (.int .i64) .nils false x10 t80 H) fun t81=>
    bnd (roC C_recapture_longest [x16,x2,t81,x11] H) fun r83=>
    bnd (ibin .lss r83.1 (.int .i64 0)) fun t85=>
    cnd t85
     (some ((.tuple []),r83.2))
     (recapture_finder_repeat_J6 x0 x2 x3 x5 x8 x9 x10 x11 x12 r83.1 H0 r83.2):=(CXM_eq [6,7,10,13,16,18] _ _ _ _).trans (by kernel_rfl)
theorem recapture_finder_repeat_J4_eq (x0 x2 x3 x5 x8 x9 x10 x11 x12 x13:AV) (H0 H:Hp):recapture_finder_repeat_J4 x0 x2 x3 x5 x8 x9 x10 x11 x12 x13 H0 H =
    bnd (aload false 1 x5 H) fun t63=>
    bnd (anil t63) fun t64=>
    bnd (afield 18 t64) fun t65=>
    bnd (aload false 1 t65 H) fun t66=>
    bnd (aindexS 1 t66 (.int .i64 0)) fun t67=>
    bnd (aload false 1 t67 H) fun t68=>
    bnd (C_recapture_finder_ends [x0,t68,x2,x3] H) fun r71=>
    bnd (ibin .geq x12 x8) fun t74=>
    cnd t74
     (bnd (aindexS 1 r71.1 (.int .i64 0)) fun t76=>
     bnd (astoreU 1 t76 (.bool false) r71.2) fun r_41=>
     recapture_finder_repeat_J5 x0 x2 x3 x5 x8 x9 x10 x11 x12 x13 r71.1 H0 r_41.2)
     (recapture_finder_repeat_J5 x0 x2 x3 x5 x8 x9 x10 x11 x12 x13 r71.1 H0 r71.2):=(CXM_eq [6,7,10,13,16,18] _ _ _ _).trans (by kernel_rfl)
theorem recapture_finder_repeat_J3_eq (x0 x2 x3 x5 x8 x9 x10 x11 x12 x13:AV) (H0 H:Hp):recapture_finder_repeat_J3 x0 x2 x3 x5 x8 x9 x10 x11 x12 x13 H0 H =
    bnd (aload false 1 x13 H) fun t47=>
    bnd (alookup (.int .i64) .nils true x10 t47 H) fun t48=>
    bnd (aext t48 0) fun t49=>
    bnd (aext t48 1) fun t50=>
    bnd (aun .not t50) fun t52=>
    cnd t52
     (frzK x13 H fun z13 z13H=>
     bnd (aloadv false 1 z13) fun t54=>
     bnd (aload false 1 x5 z13H) fun t56=>
     bnd (aload false 1 z13 z13H) fun t57=>
     bnd (some (.fn (.func 61) [] [x5,z13])) fun t60=>
     bnd (C_recapture_finder_starts [x0,t56,t57,x11,x3,t60] z13H) fun r61=>
     bnd (amapSet (.int .i64) x10 t54 r61.1 r61.2) fun r_53=>
     recapture_finder_repeat_J4 x0 x2 x3 x5 x8 x9 x10 x11 x12 z13 H0 r_53.2)
     (recapture_finder_repeat_J4 x0 x2 x3 x5 x8 x9 x10 x11 x12 x13 H0 H):=(CXM_eq [6,7,10,13,16,18] _ _ _ _).trans (by kernel_rfl)
theorem recapture_finder_repeat_J1_eq (x0 x2 x3 x5 x8 x9 x10 x11 x12:AV) (H0 H:Hp):recapture_finder_repeat_J1 x0 x2 x3 x5 x8 x9 x10 x11 x12 H0 H =
    bnd (some ((.ptr H.length 0),H++[.cells [(.int .i64 0)]])) fun r13=>
    bnd (astoreU 1 r13.1 x12 r13.2) fun r_15=>
    bnd (ibin .lss x9 (.int .i64 0)) fun t41=>
    cnd t41
     (bnd (amin2 x12 x8) fun t44=>
     bnd (astoreU 1 r13.1 t44 r_15.2) fun r_56=>
     recapture_finder_repeat_J3 x0 x2 x3 x5 x8 x9 x10 x11 x12 r13.1 H0 r_56.2)
     (recapture_finder_repeat_J3 x0 x2 x3 x5 x8 x9 x10 x11 x12 r13.1 H0 r_15.2):=(CXM_eq [6,7,10,13,16,18] _ _ _ _).trans (by kernel_rfl)
theorem recapture_finder_repeat_L1_eq (x0 x2 x3 x5 x8 x9 x10 x11 x12:AV) (H0 H:Hp):recapture_finder_repeat_L1 x0 x2 x3 x5 x8 x9 x10 x11 x12 H0 H =
    bnd (ibin .lss x9 (.int .i64 0)) fun t31=>
    bnd (gdv t31 false (.tuple []) (some x12)) fun t33=>
    bnd (gdv t31 false (.tuple []) (some x9)) fun t34=>
    bnd (gdv t31 false (.tuple []) (ibin .lss t33 t34)) fun t35=>
    bnd (apick t31 (.bool true) t35) fun t36=>
    cnd t36
     (recapture_finder_repeat_J1 x0 x2 x3 x5 x8 x9 x10 x11 x12 H0 H)
     (some ((.tuple []),H)):=(LPL_eqm (C:=cfg) [6,7,10,13,16,18] (tame_block 0 (tame_ret 40 Try.f40 H0)) _ _).trans (by kernel_rfl)
theorem F_recapture_finder_repeat_eq (p0 p1 p2 p3:AV) (H:Hp):C_recapture_finder_repeat [p0,p1,p2,p3] H=F_recapture_finder_repeat p0 p1 p2 p3 H:=(callw_cxm (C:=cfg) (fn:=Try.f40) (c:=bodyOf Try.f40) (n:=103) [6,7,10,13,16,18] Try.func40 (by kernel_rfl) (by kernel_rfl) [p0,p1,p2,p3] (by kernel_rfl) H).trans (by kernel_rfl)

def recapture_finder_close_J1 (x7 x12:AV) (H0 H:Hp):Res:=CXgR 56 67 (sub (bodyOf Try.f56) [1,1,1,1]) (retL cfg 67 56 Try.f56 H0) [(7,x7),(12,x12)] H
def recapture_finder_close_K1 (H0:Hp):KL:=seqL (fun k al H=>CXgR 56 67 (sub (bodyOf Try.f56) [1,1,1,1]) k (trimL (cfg.keep 56) (sub (bodyOf Try.f56) [1,1,1,1]) al) H) (retL cfg 67 56 Try.f56 H0)
theorem recapture_finder_close_K1_tame (H0:Hp):Tame 67 (recapture_finder_close_K1 H0):=tame_seq (C:=cfg) (kp:=cfg.keep 56) (sub (bodyOf Try.f56) [1,1,1,1]) (tame_ret 56 Try.f56 H0)
def recapture_finder_close_J3 (x0 x4 x6 x7 x12 x13 x14:AV) (H0 H:Hp):Res:=CXgR 56 67 (sub (bodyOf Try.f56) [1,1,1,0,1,0,0,1,1]) (seqL (fun k al H=>LPgR 56 67 (sub (bodyOf Try.f56) [1,1,1,0,1,0,0]) k (trimL (cfg.keep 56) (sub (bodyOf Try.f56) [1,1,1,0,1,0,0]) al) H) (blockL 0 (recapture_finder_close_K1 H0))) [(0,x0),(4,x4),(6,x6),(7,x7),(12,x12),(13,x13),(14,x14)] H
def recapture_finder_close_J2 (x0 x4 x6 x7 x12 x13 x14:AV) (H0 H:Hp):Res:=CXgR 56 67 (sub (bodyOf Try.f56) [1,1,1,0,1,0,0,1]) (seqL (fun k al H=>LPgR 56 67 (sub (bodyOf Try.f56) [1,1,1,0,1,0,0]) k (trimL (cfg.keep 56) (sub (bodyOf Try.f56) [1,1,1,0,1,0,0]) al) H) (blockL 0 (recapture_finder_close_K1 H0))) [(0,x0),(4,x4),(6,x6),(7,x7),(12,x12),(13,x13),(14,x14)] H
def recapture_finder_close_L1 (x0 x4 x6 x7 x12 x13 x14:AV) (H0 H:Hp):Res:=LPgR 56 67 (sub (bodyOf Try.f56) [1,1,1,0,1,0,0]) (blockL 0 (recapture_finder_close_K1 H0)) [(0,x0),(4,x4),(6,x6),(7,x7),(12,x12),(13,x13),(14,x14)] H
def F_recapture_finder_close (p0 p1 p2 p3 p4:AV) (H:Hp):Res:=
 bnd (abox p1 H) fun r6=>
 bnd (abox p2 r6.2) fun r7=>
 bnd (abox p3 r7.2) fun r8=>
 bnd (some (.fn (.func 81) [] [r6.1,r8.1,r7.1])) fun t17=>
 recapture_finder_close_L1 p0 p4 r6.1 r7.1 (.bool false) t17 (.int .i64 0) H r8.2
theorem recapture_finder_close_J1_eq (x7 x12:AV) (H0 H:Hp):recapture_finder_close_J1 x7 x12 H0 H =
    bnd (aload false 1 x7 H) fun t65=>
    some ((.tuple [t65,x12]),H):=(CXM_eq [5,6,20] _ _ _ _).trans (by kernel_rfl)
theorem recapture_finder_close_J3_eq (x0 x4 x6 x7 x12 x13 x14:AV) (H0 H:Hp):recapture_finder_close_J3 x0 x4 x6 x7 x12 x13 x14 H0 H =
    bnd (ibin .add x14 (.int .i64 1)) fun t23=>
    recapture_finder_close_L1 x0 x4 x6 x7 x12 x13 t23 H0 H:=(CXM_eq [5,6,20] _ _ _ _).trans (by kernel_rfl)
theorem recapture_finder_close_J2_eq (x0 x4 x6 x7 x12 x13 x14:AV) (H0 H:Hp):recapture_finder_close_J2 x0 x4 x6 x7 x12 x13 x14 H0 H =
    bnd (aload false 1 x7 H) fun t24=>
    bnd (aindexS 1 t24 x14) fun t26=>
    bnd (aload false 1 t26 H) fun t27=>
    bnd (afield 0 x6) fun t28=>
    bnd (aload false 1 t28 H) fun t29=>
    bnd (aindexS 7 t29 t27) fun t31=>
    bnd (aload true 7 t31 H) fun t32=>
    bnd (some ((.ptr H.length 0),H++[.cells [(.int .i64 0),(.int .u64 0),(.int .u64 0),(.int .u64 0),(.int .u64 0),(.int .i64 0),(.int .i64 0)]])) fun r16=>
    bnd (astoreU 7 r16.1 t32 r16.2) fun r_15=>
    bnd (afield 0 r16.1) fun t33=>
    bnd (aload false 1 t33 r_15.2) fun t34=>
    bnd (ibin .eql t34 (.int .i64 2)) fun t36=>
    cnd t36
     (bnd (afield 5 r16.1) fun t38=>
     bnd (aload false 1 t38 r_15.2) fun t39=>
     bnd (acall cfg (callw cfg) x13 [t39] r_15.2) fun r40=>
     bnd (afield 6 r16.1) fun t42=>
     bnd (aload false 1 t42 r40.2) fun t43=>
     bnd (acall cfg (callw cfg) x13 [t43] r40.2) fun r44=>
     recapture_finder_close_J3 x0 x4 x6 x7 x12 x13 x14 H0 r44.2)
     (bnd (ibin .eql t34 (.int .i64 3)) fun t46=>
     cnd t46
      (bnd (afield 5 r16.1) fun t48=>
      bnd (aload false 1 t48 r_15.2) fun t49=>
      bnd (acall cfg (callw cfg) x13 [t49] r_15.2) fun r50=>
      recapture_finder_close_J3 x0 x4 x6 x7 x12 x13 x14 H0 r50.2)
      (bnd (ibin .eql t34 (.int .i64 4)) fun t52=>
      cnd t52
       (cnd t52
        (bnd (afield 0 r16.1) fun t55=>
        bnd (aload false 1 t55 r_15.2) fun t56=>
        bnd (roC C_recapture_finder_holds [x0,t56,x4] r_15.2) fun r58=>
        cnd r58.1
         (bnd (ibin .add t27 (.int .i64 1)) fun t61=>
         bnd (acall cfg (callw cfg) x13 [t61] r58.2) fun r62=>
         recapture_finder_close_J3 x0 x4 x6 x7 x12 x13 x14 H0 r62.2)
         (recapture_finder_close_J3 x0 x4 x6 x7 x12 x13 x14 H0 r58.2))
        (bnd (ibin .eql t34 (.int .i64 6)) fun t64=>
        cnd t64
         (recapture_finder_close_J3 x0 x4 x6 x7 (.bool true) x13 x14 H0 r_15.2)
         (recapture_finder_close_J3 x0 x4 x6 x7 x12 x13 x14 H0 r_15.2)))
       (bnd (ibin .eql t34 (.int .i64 5)) fun t53=>
       cnd t53
        (bnd (afield 0 r16.1) fun t55=>
        bnd (aload false 1 t55 r_15.2) fun t56=>
        bnd (roC C_recapture_finder_holds [x0,t56,x4] r_15.2) fun r58=>
        cnd r58.1
         (bnd (ibin .add t27 (.int .i64 1)) fun t61=>
         bnd (acall cfg (callw cfg) x13 [t61] r58.2) fun r62=>
         recapture_finder_close_J3 x0 x4 x6 x7 x12 x13 x14 H0 r62.2)
         (recapture_finder_close_J3 x0 x4 x6 x7 x12 x13 x14 H0 r58.2))
        (bnd (ibin .eql t34 (.int .i64 6)) fun t64=>
        cnd t64
         (recapture_finder_close_J3 x0 x4 x6 x7 (.bool true) x13 x14 H0 r_15.2)
         (recapture_finder_close_J3 x0 x4 x6 x7 x12 x13 x14 H0 r_15.2))))):=(CXM_eq [5,6,20] _ _ _ _).trans (by kernel_rfl)
theorem recapture_finder_close_L1_eq (x0 x4 x6 x7 x12 x13 x14:AV) (H0 H:Hp):recapture_finder_close_L1 x0 x4 x6 x7 x12 x13 x14 H0 H =
    bnd (aload false 1 x7 H) fun t19=>
    bnd (alenD (.slice 3) t19) fun t20=>
    bnd (ibin .lss x14 t20) fun t21=>
    cnd t21
     (recapture_finder_close_J2 x0 x4 x6 x7 x12 x13 x14 H0 H)
     (recapture_finder_close_J1 x7 x12 H0 H):=(LPL_eqm (C:=cfg) [5,6,20] (tame_block 0 (recapture_finder_close_K1_tame H0)) _ _).trans (by kernel_rfl)
theorem F_recapture_finder_close_eq (p0 p1 p2 p3 p4:AV) (H:Hp):C_recapture_finder_close [p0,p1,p2,p3,p4] H=F_recapture_finder_close p0 p1 p2 p3 p4 H:=(callw_cxm (C:=cfg) (fn:=Try.f56) (c:=bodyOf Try.f56) (n:=67) [5,6,20] Try.func56 (by kernel_rfl) (by kernel_rfl) [p0,p1,p2,p3,p4] (by kernel_rfl) H).trans (by kernel_rfl)

def recapture_finder_starts_J1 (x0 x3 x4 x13:AV) (H0 H:Hp):Res:=CXgR 57 42 (sub (bodyOf Try.f57) [1,1,1]) (retL cfg 42 57 Try.f57 H0) [(0,x0),(3,x3),(4,x4),(13,x13)] H
def F_recapture_finder_starts (p0 p1 p2 p3 p4 p5:AV) (H:Hp):Res:=
 bnd (anil p1) fun t17=>
 bnd (afield 20 t17) fun t18=>
 bnd (aload false 1 t18 H) fun t19=>
 bnd (alookup (.int .i64) (.agg [.nils,(.bool false)]) true t19 p2 H) fun t21=>
 bnd (aext t21 0) fun t22=>
 bnd (aext t21 1) fun t23=>
 bnd (some ((.ptr H.length 0),H++[.cells [.nils,(.bool false)]])) fun r13=>
 bnd (astoreU 2 r13.1 t22 r13.2) fun r_8=>
 bnd (aun .not t23) fun t25=>
 cnd t25
  (bnd (acall cfg (callw cfg) p5 [] r_8.2) fun r28=>
  bnd (flatC C_recapture_reversed [r28.1] r28.2) fun r29=>
  bnd (roC C_recapture_finder_compile [p0,r29.1] r29.2) fun r30=>
  bnd (astoreU 2 r13.1 r30.1 r30.2) fun r_15=>
  bnd (anil p1) fun t32=>
  bnd (afield 20 t32) fun t33=>
  bnd (aload false 1 t33 r_15.2) fun t34=>
  bnd (aload true 2 r13.1 r_15.2) fun t36=>
  bnd (amapSet (.int .i64) t34 p2 t36 r_15.2) fun r_20=>
  recapture_finder_starts_J1 p0 p3 p4 r13.1 H r_20.2)
  (recapture_finder_starts_J1 p0 p3 p4 r13.1 H r_8.2)
theorem recapture_finder_starts_J1_eq (x0 x3 x4 x13:AV) (H0 H:Hp):recapture_finder_starts_J1 x0 x3 x4 x13 H0 H =
    bnd (aload true 2 x13 H) fun t38=>
    bnd (C_recapture_finder_reach [x0,t38,x4,x3] H) fun r41=>
    some (r41.1,r41.2):=(CXM_eq [5] _ _ _ _).trans (by kernel_rfl)
theorem F_recapture_finder_starts_eq (p0 p1 p2 p3 p4 p5:AV) (H:Hp):C_recapture_finder_starts [p0,p1,p2,p3,p4,p5] H=F_recapture_finder_starts p0 p1 p2 p3 p4 p5 H:=(callw_cxm (C:=cfg) (fn:=Try.f57) (c:=bodyOf Try.f57) (n:=42) [5] Try.func57 (by kernel_rfl) (by kernel_rfl) [p0,p1,p2,p3,p4,p5] (by kernel_rfl) H).trans (by kernel_rfl)

def F_recapture_finder_cat_1 (p0 p1:AV) (H:Hp):Res:=
 bnd (some ((.ptr H.length 0),H++[.cells [(.int .i64 0),(.int .u64 0),(.int .u64 0),(.int .u64 0),(.int .u64 0),(.int .i64 0),(.int .i64 0),(.int .i64 0),.nils]])) fun r2=>
 bnd (aload false 1 p0 r2.2) fun t3=>
 bnd (anil t3) fun t4=>
 bnd (afield 9 t4) fun t5=>
 bnd (afield 8 t5) fun t6=>
 bnd (aload false 1 t6 r2.2) fun t7=>
 bnd (aload false 1 p1 r2.2) fun t8=>
 bnd (ibin .add t8 (.int .i64 1)) fun t9=>
 bnd (asliceV 9 t7 (some t9) none none) fun t10=>
 bnd (flatC C_recapture_joined [t10] r2.2) fun r11=>
 bnd (astoreU 9 r2.1 r11.1 r11.2) fun r_11=>
 bnd (aload true 9 r2.1 r_11.2) fun v2=>
 some (v2,r_11.2)
theorem F_recapture_finder_cat_1_eq (p0 p1:AV) (H:Hp):C_recapture_finder_cat_1 [p0,p1] H=F_recapture_finder_cat_1 p0 p1 H:=(callw_cxm (C:=cfg) (fn:=Try.f58) (c:=bodyOf Try.f58) (n:=12) [] Try.func58 (by kernel_rfl) (by kernel_rfl) [p0,p1] (by kernel_rfl) H).trans (by kernel_rfl)

def recapture_longest_J1 (H0 H:Hp):Res:=CXgR 60 34 (sub (bodyOf Try.f60) [1,1]) (retL cfg 34 60 Try.f60 H0) [] H
def recapture_longest_K1 (H0:Hp):KL:=seqL (fun k al H=>CXgR 60 34 (sub (bodyOf Try.f60) [1,1]) k (trimL (cfg.keep 60) (sub (bodyOf Try.f60) [1,1]) al) H) (retL cfg 34 60 Try.f60 H0)
theorem recapture_longest_K1_tame (H0:Hp):Tame 34 (recapture_longest_K1 H0):=tame_seq (C:=cfg) (kp:=cfg.keep 60) (sub (bodyOf Try.f60) [1,1]) (tame_ret 60 Try.f60 H0)
def recapture_longest_J3 (x0 x1 x2 x3 x9:AV) (H0 H:Hp):Res:=CXgR 60 34 (sub (bodyOf Try.f60) [1,0,1,0,0,1,1]) (seqL (fun k al H=>LPgR 60 34 (sub (bodyOf Try.f60) [1,0,1,0,0]) k (trimL (cfg.keep 60) (sub (bodyOf Try.f60) [1,0,1,0,0]) al) H) (blockL 0 (recapture_longest_K1 H0))) [(0,x0),(1,x1),(2,x2),(3,x3),(9,x9)] H
def recapture_longest_J2 (x0 x1 x2 x3 x9:AV) (H0 H:Hp):Res:=CXgR 60 34 (sub (bodyOf Try.f60) [1,0,1,0,0,1]) (seqL (fun k al H=>LPgR 60 34 (sub (bodyOf Try.f60) [1,0,1,0,0]) k (trimL (cfg.keep 60) (sub (bodyOf Try.f60) [1,0,1,0,0]) al) H) (blockL 0 (recapture_longest_K1 H0))) [(0,x0),(1,x1),(2,x2),(3,x3),(9,x9)] H
def recapture_longest_L1 (x0 x1 x2 x3 x9:AV) (H0 H:Hp):Res:=LPgR 60 34 (sub (bodyOf Try.f60) [1,0,1,0,0]) (blockL 0 (recapture_longest_K1 H0)) [(0,x0),(1,x1),(2,x2),(3,x3),(9,x9)] H
def F_recapture_longest (p0 p1 p2 p3:AV) (H:Hp):Res:=
 bnd (alenD (.slice 4) p0) fun t11=>
 bnd (ibin .sub t11 (.int .i64 1)) fun t12=>
 recapture_longest_L1 p0 p1 p2 p3 t12 H H
theorem recapture_longest_J1_eq (H0 H:Hp):recapture_longest_J1 H0 H =
    some ((.int .i64 (-1)),H):=(CXM_eq [3,4,6] _ _ _ _).trans (by kernel_rfl)
theorem recapture_longest_J3_eq (x0 x1 x2 x3 x9:AV) (H0 H:Hp):recapture_longest_J3 x0 x1 x2 x3 x9 H0 H =
    bnd (ibin .sub x9 (.int .i64 1)) fun t16=>
    recapture_longest_L1 x0 x1 x2 x3 t16 H0 H:=(CXM_eq [3,4,6] _ _ _ _).trans (by kernel_rfl)
theorem recapture_longest_J2_eq (x0 x1 x2 x3 x9:AV) (H0 H:Hp):recapture_longest_J2 x0 x1 x2 x3 x9 H0 H =
    bnd (aindexS 1 x0 x9) fun t19=>
    bnd (aload false 1 t19 H) fun t20=>
    bnd (gdv t20 true (.tuple []) (some x2)) fun t22=>
    bnd (gdv t20 true (.tuple []) (some x1)) fun t23=>
    bnd (gdv t20 true (.tuple []) (some x9)) fun t24=>
    bnd (gdv t20 true (.tuple []) (ibin .add t23 t24)) fun t25=>
    bnd (gdv t20 true (.tuple []) (some x3)) fun t26=>
    bnd (gdv t20 true (.tuple []) (ibin .sub t25 t26)) fun t27=>
    bnd (gdv t20 true (.tuple []) (aindexS 1 t22 t27)) fun t28=>
    bnd (gdv t20 true (.tuple []) (aload false 1 t28 H)) fun t29=>
    bnd (apick t20 t29 (.bool false)) fun t30=>
    cnd t30
     (bnd (ibin .add x1 x9) fun t33=>
     some (t33,H))
     (recapture_longest_J3 x0 x1 x2 x3 x9 H0 H):=(CXM_eq [3,4,6] _ _ _ _).trans (by kernel_rfl)
theorem recapture_longest_L1_eq (x0 x1 x2 x3 x9:AV) (H0 H:Hp):recapture_longest_L1 x0 x1 x2 x3 x9 H0 H =
    bnd (ibin .geq x9 (.int .i64 0)) fun t14=>
    cnd t14
     (recapture_longest_J2 x0 x1 x2 x3 x9 H0 H)
     (recapture_longest_J1 H0 H):=(LPL_eqm (C:=cfg) [3,4,6] (tame_block 0 (recapture_longest_K1_tame H0)) _ _).trans (by kernel_rfl)
theorem F_recapture_longest_eq (p0 p1 p2 p3:AV) (H:Hp):C_recapture_longest [p0,p1,p2,p3] H=F_recapture_longest p0 p1 p2 p3 H:=(callw_cxm (C:=cfg) (fn:=Try.f60) (c:=bodyOf Try.f60) (n:=34) [3,4,6] Try.func60 (by kernel_rfl) (by kernel_rfl) [p0,p1,p2,p3] (by kernel_rfl) H).trans (by kernel_rfl)

def F_recapture_finder_repeat_1 (p0 p1:AV) (H:Hp):Res:=
 bnd (some ((.ptr H.length 0),H++[.cells [(.int .i64 0),(.int .u64 0),(.int .u64 0),(.int .u64 0),(.int .u64 0),(.int .i64 0),(.int .i64 0),(.int .i64 0),.nils]])) fun r2=>
 bnd (aload false 1 p0 r2.2) fun t3=>
 bnd (aload false 1 p1 r2.2) fun t4=>
 bnd (roC C_recapture_remaining [t3,t4] r2.2) fun r5=>
 bnd (astoreU 9 r2.1 r5.1 r5.2) fun r_5=>
 bnd (aload true 9 r2.1 r_5.2) fun v2=>
 some (v2,r_5.2)
theorem F_recapture_finder_repeat_1_eq (p0 p1:AV) (H:Hp):C_recapture_finder_repeat_1 [p0,p1] H=F_recapture_finder_repeat_1 p0 p1 H:=(callw_cxm (C:=cfg) (fn:=Try.f61) (c:=bodyOf Try.f61) (n:=6) [] Try.func61 (by kernel_rfl) (by kernel_rfl) [p0,p1] (by kernel_rfl) H).trans (by kernel_rfl)

def recapture_remaining_J1 (x4 x5:AV) (H0 H:Hp):Res:=CXgR 62 36 (sub (bodyOf Try.f62) [1,1,1]) (retL cfg 36 62 Try.f62 H0) [(4,x4),(5,x5)] H
def F_recapture_remaining (p0 p1:AV) (H:Hp):Res:=
 bnd (some ((.ptr H.length 0),H++[.cells [(.int .i64 0),(.int .u64 0),(.int .u64 0),(.int .u64 0),(.int .u64 0),(.int .i64 0),(.int .i64 0),(.int .i64 0),.nils]])) fun r4=>
 bnd (anil p0) fun t7=>
 bnd (afield 0 t7) fun t8=>
 bnd (afield 5 t8) fun t9=>
 bnd (aload false 1 t9 r4.2) fun t10=>
 bnd (ibin .sub t10 p1) fun t12=>
 bnd (ibin .sub t12 (.int .i64 1)) fun t13=>
 bnd (amax2 t13 (.int .i64 0)) fun t14=>
 bnd (anil p0) fun t16=>
 bnd (afield 0 t16) fun t17=>
 bnd (afield 6 t17) fun t18=>
 bnd (aload false 1 t18 r4.2) fun t19=>
 bnd (anil p0) fun t21=>
 bnd (afield 9 t21) fun t22=>
 bnd (afield 8 t22) fun t23=>
 bnd (aload false 1 t23 r4.2) fun t24=>
 bnd ((afill [(0,1,(.int .i64 5)),(5,1,t14),(6,1,t19),(8,1,t24)] [(.int .i64 0),(.int .u64 0),(.int .u64 0),(.int .u64 0),(.int .u64 0),(.int .i64 0),(.int .i64 0),(.int .i64 0),.nils]).map .agg) fun t25=>
 bnd (some ((.ptr r4.2.length 0),r4.2++[.cells [(.int .i64 0),(.int .u64 0),(.int .u64 0),(.int .u64 0),(.int .u64 0),(.int .i64 0),(.int .i64 0),(.int .i64 0),.nils]])) fun r5=>
 bnd (astoreU 9 r5.1 t25 r5.2) fun r_19=>
 bnd (afield 6 r5.1) fun t26=>
 bnd (aload false 1 t26 r_19.2) fun t27=>
 bnd (ibin .gtr t27 (.int .i64 0)) fun t28=>
 cnd t28
  (bnd (afield 6 r5.1) fun t29=>
  bnd (aload false 1 t29 r_19.2) fun t30=>
  bnd (ibin .sub t30 p1) fun t32=>
  bnd (ibin .sub t32 (.int .i64 1)) fun t33=>
  bnd (afield 6 r5.1) fun t34=>
  bnd (astoreU 1 t34 t33 r_19.2) fun r_31=>
  recapture_remaining_J1 r4.1 r5.1 H r_31.2)
  (recapture_remaining_J1 r4.1 r5.1 H r_19.2)
theorem recapture_remaining_J1_eq (x4 x5:AV) (H0 H:Hp):recapture_remaining_J1 x4 x5 H0 H =
    bnd (aload true 9 x5 H) fun t35=>
    bnd (astoreU 9 x4 t35 H) fun r_21=>
    bnd (aload true 9 x4 r_21.2) fun v4=>
    some (v4,r_21.2):=(CXM_eq [4] _ _ _ _).trans (by kernel_rfl)
theorem F_recapture_remaining_eq (p0 p1:AV) (H:Hp):C_recapture_remaining [p0,p1] H=F_recapture_remaining p0 p1 H:=(callw_cxm (C:=cfg) (fn:=Try.f62) (c:=bodyOf Try.f62) (n:=36) [4] Try.func62 (by kernel_rfl) (by kernel_rfl) [p0,p1] (by kernel_rfl) H).trans (by kernel_rfl)

def recapture_finder_clear_J3 (x0 x18 x19 x20:AV) (H0 H:Hp):Res:=CXgR 63 28 (sub (bodyOf Try.f63) [1,1,1,0,0,1,1,1]) (seqL (fun k al H=>LPgR 63 28 (sub (bodyOf Try.f63) [1,1,1,0,0]) k (trimL (cfg.keep 63) (sub (bodyOf Try.f63) [1,1,1,0,0]) al) H) (blockL 0 (retL cfg 28 63 Try.f63 H0))) [(0,x0),(18,x18),(19,x19),(20,x20)] H
def recapture_finder_clear_J2 (x0 x18 x19 x20 x21:AV) (H0 H:Hp):Res:=CXgR 63 28 (sub (bodyOf Try.f63) [1,1,1,0,0,1,1]) (seqL (fun k al H=>LPgR 63 28 (sub (bodyOf Try.f63) [1,1,1,0,0]) k (trimL (cfg.keep 63) (sub (bodyOf Try.f63) [1,1,1,0,0]) al) H) (blockL 0 (retL cfg 28 63 Try.f63 H0))) [(0,x0),(18,x18),(19,x19),(20,x20),(21,x21)] H
def recapture_finder_clear_L1 (x0 x18 x19 x20:AV) (H0 H:Hp):Res:=LPgR 63 28 (sub (bodyOf Try.f63) [1,1,1,0,0]) (blockL 0 (retL cfg 28 63 Try.f63 H0)) [(0,x0),(18,x18),(19,x19),(20,x20)] H
def recapture_finder_clear_J1 (x0 x3:AV) (H0 H:Hp):Res:=CXgR 63 28 (sub (bodyOf Try.f63) [1,1]) (retL cfg 28 63 Try.f63 H0) [(0,x0),(3,x3)] H
def F_recapture_finder_clear (p0 p1:AV) (H:Hp):Res:=
 bnd (abox p1 H) fun r3=>
 bnd (afield 0 r3.1) fun t6=>
 bnd (aload false 1 t6 r3.2) fun t7=>
 bnd (ibin .eql t7 (.int .i64 6)) fun t8=>
 cnd t8
  (bnd (anil p0) fun t10=>
  bnd (afield 2 t10) fun t11=>
  bnd (aload false 1 t11 r3.2) fun t12=>
  bnd (afield 7 r3.1) fun t13=>
  bnd (aload false 1 t13 r3.2) fun t14=>
  bnd ((afill [(0,1,(.int .i64 (-1))),(1,1,(.int .i64 (-1)))] [(.int .i64 0),(.int .i64 0)]).map .agg) fun t15=>
  bnd (aindexS 2 t12 t14) fun t16=>
  bnd (astoreU 2 t16 t15 r3.2) fun r_23=>
  recapture_finder_clear_J1 p0 r3.1 H r_23.2)
  (recapture_finder_clear_J1 p0 r3.1 H r3.2)
theorem recapture_finder_clear_J3_eq (x0 x18 x19 x20:AV) (H0 H:Hp):recapture_finder_clear_J3 x0 x18 x19 x20 H0 H =
    bnd (ibin .add x20 (.int .i64 1)) fun t27=>
    recapture_finder_clear_L1 x0 x18 x19 t27 H0 H:=(CXM_eq [3,5,7] _ _ _ _).trans (by kernel_rfl)
theorem recapture_finder_clear_J2_eq (x0 x18 x19 x20 x21:AV) (H0 H:Hp):recapture_finder_clear_J2 x0 x18 x19 x20 x21 H0 H =
    bnd (aindexS 9 x18 x20) fun t22=>
    bnd (aload true 9 t22 H) fun t23=>
    bnd (some ((.ptr H.length 0),H++[.cells [(.int .i64 0),(.int .u64 0),(.int .u64 0),(.int .u64 0),(.int .u64 0),(.int .i64 0),(.int .i64 0),(.int .i64 0),.nils]])) fun r5=>
    bnd (astoreU 9 r5.1 t23 r5.2) fun r_10=>
    bnd (aload true 9 r5.1 r_10.2) fun t25=>
    bnd (C_recapture_finder_clear [x0,t25] r_10.2) fun r26=>
    recapture_finder_clear_J3 x0 x18 x19 x20 H0 r26.2:=(CXM_eq [3,5,7] _ _ _ _).trans (by kernel_rfl)
theorem recapture_finder_clear_L1_eq (x0 x18 x19 x20:AV) (H0 H:Hp):recapture_finder_clear_L1 x0 x18 x19 x20 H0 H =
    bnd (ibin .lss x20 x19) fun t21=>
    cnd t21
     (recapture_finder_clear_J2 x0 x18 x19 x20 t21 H0 H)
     (some ((.tuple []),H)):=(LPL_eqm (C:=cfg) [3,5,7] (tame_block 0 (tame_ret 63 Try.f63 H0)) _ _).trans (by kernel_rfl)
theorem recapture_finder_clear_J1_eq (x0 x3:AV) (H0 H:Hp):recapture_finder_clear_J1 x0 x3 H0 H =
    bnd (afield 8 x3) fun t17=>
    bnd (aload false 1 t17 H) fun t18=>
    bnd (alenD (.slice 28) t18) fun t19=>
    recapture_finder_clear_L1 x0 t18 t19 (.int .i64 0) H0 H:=(CXM_eq [3,5,7] _ _ _ _).trans (by kernel_rfl)
theorem F_recapture_finder_clear_eq (p0 p1:AV) (H:Hp):C_recapture_finder_clear [p0,p1] H=F_recapture_finder_clear p0 p1 H:=(callw_cxm (C:=cfg) (fn:=Try.f63) (c:=bodyOf Try.f63) (n:=28) [3,5,7] Try.func63 (by kernel_rfl) (by kernel_rfl) [p0,p1] (by kernel_rfl) H).trans (by kernel_rfl)

def F_recapture_finder_close_1 (p0 p1 p2 p3:AV) (H:Hp):Res:=
 bnd (afield 0 p1) fun t6=>
 bnd (aload false 1 t6 H) fun t7=>
 bnd (alenD (.slice 76) t7) fun t8=>
 bnd (ibin .lss p0 t8) fun t9=>
 bnd (gdv t9 true (.tuple []) (aload false 1 p2 H)) fun t11=>
 bnd (gdv t9 true (.tuple []) (some p0)) fun t12=>
 bnd (gdv t9 true (.tuple []) (aindexS 1 t11 t12)) fun t13=>
 bnd (gdv t9 true (.tuple []) (aload false 1 t13 H)) fun t14=>
 bnd (gdv t9 true (.tuple []) (aun .not t14)) fun t15=>
 bnd (apick t9 t15 (.bool false)) fun t16=>
 cnd t16
  (bnd (aload false 1 p2 H) fun t17=>
  bnd (aindexS 1 t17 p0) fun t19=>
  bnd (astoreU 1 t19 (.bool true) H) fun r_13=>
  bnd (aload false 1 p3 r_13.2) fun t20=>
  bnd ((setElems 1 [(0,p0)] [(.int .i64 0)]).map (.vs 1 .clip)) fun t22=>
  bnd (aappEL false 1 8 t20 t22 r_13.2) fun r23=>
  bnd (astoreU 1 p3 r23.1 r23.2) fun r_17=>
  some ((.tuple []),r_17.2))
  (some ((.tuple []),H))
theorem F_recapture_finder_close_1_eq (p0 p1 p2 p3:AV) (H:Hp):C_recapture_finder_close_1 [p0,p1,p2,p3] H=F_recapture_finder_close_1 p0 p1 p2 p3 H:=(callw_cxm (C:=cfg) (fn:=Try.f81) (c:=bodyOf Try.f81) (n:=24) [] Try.func81 (by kernel_rfl) (by kernel_rfl) [p0,p1,p2,p3] (by kernel_rfl) H).trans (by kernel_rfl)

def recapture_finder_holds_J1 (x0 x2:AV) (H0 H:Hp):Res:=CXgR 82 49 (sub (bodyOf Try.f82) [1,1]) (retL cfg 49 82 Try.f82 H0) [(0,x0),(2,x2)] H
def F_recapture_finder_holds (p0 p1 p2:AV) (H:Hp):Res:=
 bnd (ibin .eql p1 (.int .i64 4)) fun t8=>
 cnd t8
  (bnd (ibin .eql p2 (.int .i64 0)) fun t10=>
  bnd (gdv t10 false (.tuple []) (some p0)) fun t12=>
  bnd (gdv t10 false (.tuple []) (anil t12)) fun t13=>
  bnd (gdv t10 false (.tuple []) (afield 1 t13)) fun t14=>
  bnd (gdv t10 false (.tuple []) (aload false 1 t14 H)) fun t15=>
  bnd (gdv t10 false (.tuple []) (some t15)) fun t16=>
  bnd (gdv t16 true (.tuple []) (some p0)) fun t17=>
  bnd (gdv t16 true (.tuple []) (anil t17)) fun t18=>
  bnd (gdv t16 true (.tuple []) (afield 0 t18)) fun t19=>
  bnd (gdv t16 true (.tuple []) (aload false 1 t19 H)) fun t20=>
  bnd (gdv t16 true (.tuple []) (some p2)) fun t21=>
  bnd (gdv t16 true (.tuple []) (ibin .sub t21 (.int .i64 1))) fun t22=>
  bnd (gdv t16 true (.tuple []) (aindexStr t20 t22)) fun t23=>
  bnd (gdv t16 true (.tuple []) (ibin .eql t23 (.int .u8 10))) fun t24=>
  bnd (gdv t10 false (.tuple []) (apick t16 t24 (.bool false))) fun t25=>
  bnd (apick t10 (.bool true) t25) fun t26=>
  some (t26,H))
  (recapture_finder_holds_J1 p0 p2 H H)
theorem recapture_finder_holds_J1_eq (x0 x2:AV) (H0 H:Hp):recapture_finder_holds_J1 x0 x2 H0 H =
    bnd (anil x0) fun t29=>
    bnd (afield 0 t29) fun t30=>
    bnd (aload false 1 t30 H) fun t31=>
    bnd (alenD .string t31) fun t32=>
    bnd (ibin .eql x2 t32) fun t33=>
    bnd (gdv t33 false (.tuple []) (some x0)) fun t35=>
    bnd (gdv t33 false (.tuple []) (anil t35)) fun t36=>
    bnd (gdv t33 false (.tuple []) (afield 1 t36)) fun t37=>
    bnd (gdv t33 false (.tuple []) (aload false 1 t37 H)) fun t38=>
    bnd (gdv t33 false (.tuple []) (some t38)) fun t39=>
    bnd (gdv t39 true (.tuple []) (some x0)) fun t40=>
    bnd (gdv t39 true (.tuple []) (anil t40)) fun t41=>
    bnd (gdv t39 true (.tuple []) (afield 0 t41)) fun t42=>
    bnd (gdv t39 true (.tuple []) (aload false 1 t42 H)) fun t43=>
    bnd (gdv t39 true (.tuple []) (some x2)) fun t44=>
    bnd (gdv t39 true (.tuple []) (aindexStr t43 t44)) fun t45=>
    bnd (gdv t39 true (.tuple []) (ibin .eql t45 (.int .u8 10))) fun t46=>
    bnd (gdv t33 false (.tuple []) (apick t39 t46 (.bool false))) fun t47=>
    bnd (apick t33 (.bool true) t47) fun t48=>
    some (t48,H):=(CXM_eq [3] _ _ _ _).trans (by kernel_rfl)
theorem F_recapture_finder_holds_eq (p0 p1 p2:AV) (H:Hp):C_recapture_finder_holds [p0,p1,p2] H=F_recapture_finder_holds p0 p1 p2 H:=(callw_cxm (C:=cfg) (fn:=Try.f82) (c:=bodyOf Try.f82) (n:=49) [3] Try.func82 (by kernel_rfl) (by kernel_rfl) [p0,p1,p2] (by kernel_rfl) H).trans (by kernel_rfl)

end
end Go.Am
