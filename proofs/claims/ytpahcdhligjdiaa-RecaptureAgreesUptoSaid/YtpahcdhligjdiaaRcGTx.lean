/-
  The functions of the translation over the abstract machine, a further part: written by program (wip/gen.py).
-/
import Derived.Test.YtpahcdhligjdiaaRcGx
namespace Go.Am
open Go.Proofs
set_option maxRecDepth 100000
set_option linter.unusedVariables false
set_option linter.unusedSimpArgs false
noncomputable abbrev CXgT (f n:Nat):=CXL cfg (callw cfg) (LPL cfg (cfg.keep f) n) (cfg.keep f) n seqL blockL
noncomputable abbrev LPgT (f n:Nat):=LPL cfg (cfg.keep f) n
noncomputable section

def reprog_Compile_J4 (x1 x4 x9:AV) (H0 H:Hp):Res:=CXgT 14 47 (sub (bodyOf Try.f14) [1,1,1,1,1,1,1,1,1]) (retL cfg 47 14 Try.f14 H0) [(1,x1),(4,x4),(9,x9)] H
def reprog_Compile_J3 (x1 x4 x7:AV) (H0 H:Hp):Res:=CXgT 14 47 (sub (bodyOf Try.f14) [1,1,1,1,1]) (retL cfg 47 14 Try.f14 H0) [(1,x1),(4,x4),(7,x7)] H
def reprog_Compile_J2 (x1 x2 x4:AV) (H0 H:Hp):Res:=CXgT 14 47 (sub (bodyOf Try.f14) [1,1,1]) (retL cfg 47 14 Try.f14 H0) [(1,x1),(2,x2),(4,x4)] H
def reprog_Compile_J1 (x1 x2 x4:AV) (H0 H:Hp):Res:=CXgT 14 47 (sub (bodyOf Try.f14) [1,1]) (retL cfg 47 14 Try.f14 H0) [(1,x1),(2,x2),(4,x4)] H
def F_reprog_Compile (p0 p1:AV) (H:Hp):Res:=
 bnd (abox p0 H) fun r2=>
 bnd (some ((.ptr r2.2.length 0),r2.2++[.cells [.nils,(.bool false)]])) fun r4=>
 bnd (aload true 9 r2.1 r4.2) fun t10=>
 bnd (flatC C_retree_Check [t10] r4.2) fun r11=>
 bnd (ibin .neq r11.1 (.int .i64 0)) fun t13=>
 cnd t13
  (bnd (some (.agg [.nils,(.bool false)])) fun t14=>
  bnd (astoreU 2 r4.1 t14 r11.2) fun r_40=>
  bnd (aload true 2 r4.1 r_40.2) fun v4=>
  some ((.tuple [v4,r11.1]),r_40.2))
  (reprog_Compile_J1 p1 r2.1 r4.1 H r11.2)
theorem reprog_Compile_J4_eq (x1 x4 x9:AV) (H0 H:Hp):reprog_Compile_J4 x1 x4 x9 H0 H =
    bnd (anil x9) fun t42=>
    bnd (afield 0 t42) fun t43=>
    bnd (aload false 1 t43 H) fun t44=>
    bnd ((afill [(0,1,t44),(1,1,x1)] [.nils,(.bool false)]).map .agg) fun t46=>
    bnd (astoreU 2 x4 t46 H) fun r_19=>
    bnd (aload true 2 x4 r_19.2) fun v4=>
    some ((.tuple [v4,(.int .i64 0)]),r_19.2):=(CXM_eq [4,6,9,14] _ _ _ _).trans (by kernel_rfl)
theorem reprog_Compile_J3_eq (x1 x4 x7:AV) (H0 H:Hp):reprog_Compile_J3 x1 x4 x7 H0 H =
    bnd (some (.agg [.nils,(.bool false)])) fun t28=>
    bnd (abox t28 H) fun r29=>
    bnd (aload true 9 x7 r29.2) fun t31=>
    bnd (C_reprog_builder_tree [r29.1,t31] r29.2) fun r32=>
    bnd ((afill [(0,1,(.int .i64 6))] [(.int .i64 0),(.int .u64 0),(.int .u64 0),(.int .u64 0),(.int .u64 0),(.int .i64 0),(.int .i64 0)]).map .agg) fun t34=>
    bnd (C_reprog_builder_add [r29.1,t34] r32.2) fun r35=>
    bnd (anil r29.1) fun t37=>
    bnd (afield 1 t37) fun t38=>
    bnd (aload false 1 t38 r35.2) fun t39=>
    cnd t39
     (bnd (some (.agg [.nils,(.bool false)])) fun t40=>
     bnd (astoreU 2 x4 t40 r35.2) fun r_25=>
     bnd (aload true 2 x4 r_25.2) fun v4=>
     some ((.tuple [v4,(.int .i64 3)]),r_25.2))
     (reprog_Compile_J4 x1 x4 r29.1 H0 r35.2):=(CXM_eq [4,6,9,14] _ _ _ _).trans (by kernel_rfl)
theorem reprog_Compile_J2_eq (x1 x2 x4:AV) (H0 H:Hp):reprog_Compile_J2 x1 x2 x4 H0 H =
    bnd (aload true 9 x2 H) fun t20=>
    bnd (flatC C_retree_Expand [t20] H) fun r21=>
    bnd (aext r21.1 0) fun t22=>
    bnd (aext r21.1 1) fun t23=>
    bnd (some ((.ptr r21.2.length 0),r21.2++[.cells [(.int .i64 0),(.int .u64 0),(.int .u64 0),(.int .u64 0),(.int .u64 0),(.int .i64 0),(.int .i64 0),(.int .i64 0),.nils]])) fun r7=>
    bnd (astoreU 9 r7.1 t22 r7.2) fun r_8=>
    bnd (ibin .neq t23 (.int .i64 0)) fun t25=>
    cnd t25
     (bnd (some (.agg [.nils,(.bool false)])) fun t26=>
     bnd (astoreU 2 x4 t26 r_8.2) fun r_29=>
     bnd (aload true 2 x4 r_29.2) fun v4=>
     some ((.tuple [v4,t23]),r_29.2))
     (reprog_Compile_J3 x1 x4 r7.1 H0 r_8.2):=(CXM_eq [4,6,9,14] _ _ _ _).trans (by kernel_rfl)
theorem reprog_Compile_J1_eq (x1 x2 x4:AV) (H0 H:Hp):reprog_Compile_J1 x1 x2 x4 H0 H =
    bnd (aload true 9 x2 H) fun t16=>
    bnd (flatC C_retree_Back [t16] H) fun r17=>
    cnd r17.1
     (bnd (some (.agg [.nils,(.bool false)])) fun t18=>
     bnd (astoreU 2 x4 t18 r17.2) fun r_34=>
     bnd (aload true 2 x4 r_34.2) fun v4=>
     some ((.tuple [v4,(.int .i64 7)]),r_34.2))
     (reprog_Compile_J2 x1 x2 x4 H0 r17.2):=(CXM_eq [4,6,9,14] _ _ _ _).trans (by kernel_rfl)
theorem F_reprog_Compile_eq (p0 p1:AV) (H:Hp):C_reprog_Compile [p0,p1] H=F_reprog_Compile p0 p1 H:=(callw_cxm (C:=cfg) (fn:=Try.f14) (c:=bodyOf Try.f14) (n:=47) [4,6,9,14] Try.func14 (by kernel_rfl) (by kernel_rfl) [p0,p1] (by kernel_rfl) H).trans (by kernel_rfl)

def F_retree_Groups (p0:AV) (H:Hp):Res:=
 bnd (abox p0 H) fun r1=>
 bnd (aload true 9 r1.1 r1.2) fun t3=>
 bnd (C_retree_count [t3,(.int .i64 6)] r1.2) fun r4=>
 some (r4.1,r4.2)
theorem F_retree_Groups_eq (p0:AV) (H:Hp):C_retree_Groups [p0] H=F_retree_Groups p0 H:=(callw_cxm (C:=cfg) (fn:=Try.f19) (c:=bodyOf Try.f19) (n:=5) [] Try.func19 (by kernel_rfl) (by kernel_rfl) [p0] (by kernel_rfl) H).trans (by kernel_rfl)

def retree_Check_J1 (H0 H:Hp):Res:=CXgT 24 31 (sub (bodyOf Try.f24) [1,1,1,1]) (retL cfg 31 24 Try.f24 H0) [] H
def F_retree_Check (p0:AV) (H:Hp):Res:=
 bnd (abox p0 H) fun r1=>
 bnd (some ((.map r1.2.length),r1.2++[.map [] 0])) fun r5=>
 bnd ((afill [(6,1,r5.1)] [(.bool false),(.bool false),(.bool false),(.int .i64 0),(.int .i64 0),.nils,.nilm]).map .agg) fun t6=>
 bnd (some ((.ptr r5.2.length 0),r5.2++[.cells [(.bool false),(.bool false),(.bool false),(.int .i64 0),(.int .i64 0),.nils,.nilm]])) fun r3=>
 bnd (astoreU 7 r3.1 t6 r3.2) fun r_5=>
 bnd (aload true 9 r1.1 r_5.2) fun t7=>
 bnd (C_retree_checker_node [r3.1,t7] r_5.2) fun r8=>
 bnd (afield 0 r3.1) fun t10=>
 bnd (aload false 1 t10 r8.2) fun t11=>
 cnd t11
  (some ((.int .i64 7),r8.2))
  (bnd (afield 1 r3.1) fun t13=>
  bnd (aload false 1 t13 r8.2) fun t14=>
  cnd t14
   (some ((.int .i64 2),r8.2))
   (bnd (afield 2 r3.1) fun t16=>
   bnd (aload false 1 t16 r8.2) fun t17=>
   cnd t17
    (some ((.int .i64 4),r8.2))
    (bnd (afield 3 r3.1) fun t19=>
    bnd (aload false 1 t19 r8.2) fun t20=>
    bnd (ibin .gtr t20 (.int .i64 600)) fun t21=>
    bnd (gdv t21 false (.tuple []) (afield 4 r3.1)) fun t23=>
    bnd (gdv t21 false (.tuple []) (aload false 1 t23 r8.2)) fun t24=>
    bnd (gdv t21 false (.tuple []) (ibin .gtr t24 (.int .i64 9))) fun t25=>
    bnd (apick t21 (.bool true) t25) fun t26=>
    bnd (gdv t26 false (.tuple []) (some r8.1)) fun t28=>
    bnd (gdv t26 false (.tuple []) (ibin .gtr t28 (.int .i64 32))) fun t29=>
    bnd (apick t26 (.bool true) t29) fun t30=>
    cnd t30
     (some ((.int .i64 3),r8.2))
     (retree_Check_J1 H r8.2))))
theorem retree_Check_J1_eq (H0 H:Hp):retree_Check_J1 H0 H =
    some ((.int .i64 0),H):=(CXM_eq [11] _ _ _ _).trans (by kernel_rfl)
theorem F_retree_Check_eq (p0:AV) (H:Hp):C_retree_Check [p0] H=F_retree_Check p0 H:=(callw_cxm (C:=cfg) (fn:=Try.f24) (c:=bodyOf Try.f24) (n:=31) [11] Try.func24 (by kernel_rfl) (by kernel_rfl) [p0] (by kernel_rfl) H).trans (by kernel_rfl)

def F_retree_Back (p0:AV) (H:Hp):Res:=
 bnd (abox p0 H) fun r1=>
 bnd (aload true 9 r1.1 r1.2) fun t3=>
 bnd (C_retree_count [t3,(.int .i64 9)] r1.2) fun r4=>
 bnd (ibin .gtr r4.1 (.int .i64 0)) fun t5=>
 some (t5,r4.2)
theorem F_retree_Back_eq (p0:AV) (H:Hp):C_retree_Back [p0] H=F_retree_Back p0 H:=(callw_cxm (C:=cfg) (fn:=Try.f25) (c:=bodyOf Try.f25) (n:=6) [] Try.func25 (by kernel_rfl) (by kernel_rfl) [p0] (by kernel_rfl) H).trans (by kernel_rfl)

def retree_Expand_J2 (x1 x2:AV) (H0 H:Hp):Res:=CXgT 26 18 (sub (bodyOf Try.f26) [1,1,1]) (retL cfg 18 26 Try.f26 H0) [(1,x1),(2,x2)] H
def retree_Expand_J1 (x1 x2:AV) (H0 H:Hp):Res:=CXgT 26 18 (sub (bodyOf Try.f26) [1,1]) (retL cfg 18 26 Try.f26 H0) [(1,x1),(2,x2)] H
def F_retree_Expand (p0:AV) (H:Hp):Res:=
 bnd (abox p0 H) fun r1=>
 bnd (some ((.ptr r1.2.length 0),r1.2++[.cells [(.int .i64 0),(.int .u64 0),(.int .u64 0),(.int .u64 0),(.int .u64 0),(.int .i64 0),(.int .i64 0),(.int .i64 0),.nils]])) fun r2=>
 bnd (aload true 9 r1.1 r2.2) fun t5=>
 bnd (flatC C_retree_Check [t5] r2.2) fun r6=>
 bnd (ibin .neq r6.1 (.int .i64 0)) fun t8=>
 cnd t8
  (bnd (some (.agg [(.int .i64 0),(.int .u64 0),(.int .u64 0),(.int .u64 0),(.int .u64 0),(.int .i64 0),(.int .i64 0),(.int .i64 0),.nils])) fun t9=>
  bnd (astoreU 9 r2.1 t9 r6.2) fun r_18=>
  bnd (aload true 9 r2.1 r_18.2) fun v2=>
  some ((.tuple [v2,r6.1]),r_18.2))
  (retree_Expand_J1 r1.1 r2.1 H r6.2)
theorem retree_Expand_J2_eq (x1 x2:AV) (H0 H:Hp):retree_Expand_J2 x1 x2 H0 H =
    bnd (aload true 9 x1 H) fun t15=>
    bnd (flatC C_retree_expand [t15] H) fun r16=>
    bnd (flatC C_retree_clone [r16.1] r16.2) fun r17=>
    bnd (astoreU 9 x2 r17.1 r17.2) fun r_6=>
    bnd (aload true 9 x2 r_6.2) fun v2=>
    some ((.tuple [v2,(.int .i64 0)]),r_6.2):=(CXM_eq [4,6] _ _ _ _).trans (by kernel_rfl)
theorem retree_Expand_J1_eq (x1 x2:AV) (H0 H:Hp):retree_Expand_J1 x1 x2 H0 H =
    bnd (aload true 9 x1 H) fun t11=>
    bnd (flatC C_retree_weigh [t11] H) fun r12=>
    bnd (ibin .gtr r12.1 (.int .i64 4096)) fun t13=>
    cnd t13
     (bnd (some (.agg [(.int .i64 0),(.int .u64 0),(.int .u64 0),(.int .u64 0),(.int .u64 0),(.int .i64 0),(.int .i64 0),(.int .i64 0),.nils])) fun t14=>
     bnd (astoreU 9 x2 t14 r12.2) fun r_12=>
     bnd (aload true 9 x2 r_12.2) fun v2=>
     some ((.tuple [v2,(.int .i64 3)]),r_12.2))
     (retree_Expand_J2 x1 x2 H0 r12.2):=(CXM_eq [4,6] _ _ _ _).trans (by kernel_rfl)
theorem F_retree_Expand_eq (p0:AV) (H:Hp):C_retree_Expand [p0] H=F_retree_Expand p0 H:=(callw_cxm (C:=cfg) (fn:=Try.f26) (c:=bodyOf Try.f26) (n:=18) [4,6] Try.func26 (by kernel_rfl) (by kernel_rfl) [p0] (by kernel_rfl) H).trans (by kernel_rfl)

def reprog_builder_tree_J3 (x0 x13 x14 x15:AV) (H0 H:Hp):Res:=CXgT 27 51 (sub (bodyOf Try.f27) [1,1,1,0,1,1,1,1,1,1,1,1,1,1,1,0,0,1,1,1]) (seqL (fun k al H=>LPgT 27 51 (sub (bodyOf Try.f27) [1,1,1,0,1,1,1,1,1,1,1,1,1,1,1,0,0]) k (trimL (cfg.keep 27) (sub (bodyOf Try.f27) [1,1,1,0,1,1,1,1,1,1,1,1,1,1,1,0,0]) al) H) (blockL 1 (blockL 0 (retL cfg 51 27 Try.f27 H0)))) [(0,x0),(13,x13),(14,x14),(15,x15)] H
def reprog_builder_tree_J2 (x0 x13 x14 x15 x16:AV) (H0 H:Hp):Res:=CXgT 27 51 (sub (bodyOf Try.f27) [1,1,1,0,1,1,1,1,1,1,1,1,1,1,1,0,0,1,1]) (seqL (fun k al H=>LPgT 27 51 (sub (bodyOf Try.f27) [1,1,1,0,1,1,1,1,1,1,1,1,1,1,1,0,0]) k (trimL (cfg.keep 27) (sub (bodyOf Try.f27) [1,1,1,0,1,1,1,1,1,1,1,1,1,1,1,0,0]) al) H) (blockL 1 (blockL 0 (retL cfg 51 27 Try.f27 H0)))) [(0,x0),(13,x13),(14,x14),(15,x15),(16,x16)] H
def reprog_builder_tree_L1 (x0 x13 x14 x15:AV) (H0 H:Hp):Res:=LPgT 27 51 (sub (bodyOf Try.f27) [1,1,1,0,1,1,1,1,1,1,1,1,1,1,1,0,0]) (blockL 1 (blockL 0 (retL cfg 51 27 Try.f27 H0))) [(0,x0),(13,x13),(14,x14),(15,x15)] H
def reprog_builder_tree_J1 (x0 x3:AV) (H0 H:Hp):Res:=CXgT 27 51 (sub (bodyOf Try.f27) [1,1]) (retL cfg 51 27 Try.f27 H0) [(0,x0),(3,x3)] H
def F_reprog_builder_tree (p0 p1:AV) (H:Hp):Res:=
 bnd (abox p1 H) fun r3=>
 bnd (anil p0) fun t7=>
 bnd (afield 1 t7) fun t8=>
 bnd (aload false 1 t8 r3.2) fun t9=>
 cnd t9
  (some ((.tuple []),r3.2))
  (reprog_builder_tree_J1 p0 r3.1 H r3.2)
theorem reprog_builder_tree_J3_eq (x0 x13 x14 x15:AV) (H0 H:Hp):reprog_builder_tree_J3 x0 x13 x14 x15 H0 H =
    bnd (ibin .add x15 (.int .i64 1)) fun t22=>
    reprog_builder_tree_L1 x0 x13 x14 t22 H0 H:=(CXM_eq [2,5,7] _ _ _ _).trans (by kernel_rfl)
theorem reprog_builder_tree_J2_eq (x0 x13 x14 x15 x16:AV) (H0 H:Hp):reprog_builder_tree_J2 x0 x13 x14 x15 x16 H0 H =
    bnd (aindexS 9 x13 x15) fun t17=>
    bnd (aload true 9 t17 H) fun t18=>
    bnd (some ((.ptr H.length 0),H++[.cells [(.int .i64 0),(.int .u64 0),(.int .u64 0),(.int .u64 0),(.int .u64 0),(.int .i64 0),(.int .i64 0),(.int .i64 0),.nils]])) fun r5=>
    bnd (astoreU 9 r5.1 t18 r5.2) fun r_30=>
    bnd (aload true 9 r5.1 r_30.2) fun t20=>
    bnd (C_reprog_builder_tree [x0,t20] r_30.2) fun r21=>
    reprog_builder_tree_J3 x0 x13 x14 x15 H0 r21.2:=(CXM_eq [2,5,7] _ _ _ _).trans (by kernel_rfl)
theorem reprog_builder_tree_L1_eq (x0 x13 x14 x15:AV) (H0 H:Hp):reprog_builder_tree_L1 x0 x13 x14 x15 H0 H =
    bnd (ibin .lss x15 x14) fun t16=>
    cnd t16
     (reprog_builder_tree_J2 x0 x13 x14 x15 t16 H0 H)
     (some ((.tuple []),H)):=(LPL_eqm (C:=cfg) [2,5,7] (tame_block 1 (tame_block 0 (tame_ret 27 Try.f27 H0))) _ _).trans (by kernel_rfl)
theorem reprog_builder_tree_J1_eq (x0 x3:AV) (H0 H:Hp):reprog_builder_tree_J1 x0 x3 H0 H =
    bnd (afield 0 x3) fun t10=>
    bnd (aload false 1 t10 H) fun t11=>
    bnd (ibin .eql t11 (.int .i64 2)) fun t24=>
    cnd t24
     (bnd (afield 1 x3) fun t26=>
     bnd (aload true 4 t26 H) fun t27=>
     bnd ((afill [(0,1,(.int .i64 1)),(1,4,t27)] [(.int .i64 0),(.int .u64 0),(.int .u64 0),(.int .u64 0),(.int .u64 0),(.int .i64 0),(.int .i64 0)]).map .agg) fun t28=>
     bnd (C_reprog_builder_add [x0,t28] H) fun r29=>
     some ((.tuple []),r29.2))
     (bnd (ibin .eql t11 (.int .i64 7)) fun t31=>
     cnd t31
      (bnd ((afill [(0,1,(.int .i64 4))] [(.int .i64 0),(.int .u64 0),(.int .u64 0),(.int .u64 0),(.int .u64 0),(.int .i64 0),(.int .i64 0)]).map .agg) fun t33=>
      bnd (C_reprog_builder_add [x0,t33] H) fun r34=>
      some ((.tuple []),r34.2))
      (bnd (ibin .eql t11 (.int .i64 8)) fun t36=>
      cnd t36
       (bnd ((afill [(0,1,(.int .i64 5))] [(.int .i64 0),(.int .u64 0),(.int .u64 0),(.int .u64 0),(.int .u64 0),(.int .i64 0),(.int .i64 0)]).map .agg) fun t38=>
       bnd (C_reprog_builder_add [x0,t38] H) fun r39=>
       some ((.tuple []),r39.2))
       (bnd (ibin .eql t11 (.int .i64 4)) fun t41=>
       cnd t41
        (bnd (afield 8 x3) fun t43=>
        bnd (aload false 1 t43 H) fun t44=>
        bnd (C_reprog_builder_alt [x0,t44] H) fun r45=>
        some ((.tuple []),r45.2))
        (bnd (ibin .eql t11 (.int .i64 5)) fun t47=>
        cnd t47
         (bnd (aload true 9 x3 H) fun t49=>
         bnd (C_reprog_builder_repeat [x0,t49] H) fun r50=>
         some ((.tuple []),r50.2))
         (bnd (afield 8 x3) fun t12=>
         bnd (aload false 1 t12 H) fun t13=>
         bnd (alenD (.slice 28) t13) fun t14=>
         reprog_builder_tree_L1 x0 t13 t14 (.int .i64 0) H0 H))))):=(CXM_eq [2,5,7] _ _ _ _).trans (by kernel_rfl)
theorem F_reprog_builder_tree_eq (p0 p1:AV) (H:Hp):C_reprog_builder_tree [p0,p1] H=F_reprog_builder_tree p0 p1 H:=(callw_cxm (C:=cfg) (fn:=Try.f27) (c:=bodyOf Try.f27) (n:=51) [2,5,7] Try.func27 (by kernel_rfl) (by kernel_rfl) [p0,p1] (by kernel_rfl) H).trans (by kernel_rfl)

def reprog_builder_add_J1 (x0 x3:AV) (H0 H:Hp):Res:=CXgT 28 30 (sub (bodyOf Try.f28) [1,1]) (retL cfg 30 28 Try.f28 H0) [(0,x0),(3,x3)] H
def F_reprog_builder_add (p0 p1:AV) (H:Hp):Res:=
 bnd (abox p1 H) fun r3=>
 bnd (anil p0) fun t6=>
 bnd (afield 0 t6) fun t7=>
 bnd (aload false 1 t7 r3.2) fun t8=>
 bnd (alenD (.slice 76) t8) fun t9=>
 bnd (ibin .geq t9 (.int .i64 4096)) fun t10=>
 cnd t10
  (bnd (anil p0) fun t12=>
  bnd (afield 1 t12) fun t13=>
  bnd (astoreU 1 t13 (.bool true) r3.2) fun r_23=>
  some ((.int .i64 0),r_23.2))
  (reprog_builder_add_J1 p0 r3.1 H r3.2)
theorem reprog_builder_add_J1_eq (x0 x3:AV) (H0 H:Hp):reprog_builder_add_J1 x0 x3 H0 H =
    bnd (anil x0) fun t16=>
    bnd (afield 0 t16) fun t17=>
    bnd (aload false 1 t17 H) fun t18=>
    bnd (aload true 7 x3 H) fun t19=>
    bnd ((setElems 7 [(0,t19)] [(.agg [(.int .i64 0),(.int .u64 0),(.int .u64 0),(.int .u64 0),(.int .u64 0),(.int .i64 0),(.int .i64 0)])]).map (.vs 7 .clip)) fun t20=>
    bnd (aappEL true 7 56 t18 t20 H) fun r21=>
    bnd (anil x0) fun t22=>
    bnd (afield 0 t22) fun t23=>
    bnd (astoreU 1 t23 r21.1 r21.2) fun r_10=>
    bnd (anil x0) fun t25=>
    bnd (afield 0 t25) fun t26=>
    bnd (aload false 1 t26 r_10.2) fun t27=>
    bnd (alenD (.slice 76) t27) fun t28=>
    bnd (ibin .sub t28 (.int .i64 1)) fun t29=>
    some (t29,r_10.2):=(CXM_eq [4] _ _ _ _).trans (by kernel_rfl)
theorem F_reprog_builder_add_eq (p0 p1:AV) (H:Hp):C_reprog_builder_add [p0,p1] H=F_reprog_builder_add p0 p1 H:=(callw_cxm (C:=cfg) (fn:=Try.f28) (c:=bodyOf Try.f28) (n:=30) [4] Try.func28 (by kernel_rfl) (by kernel_rfl) [p0,p1] (by kernel_rfl) H).trans (by kernel_rfl)

def F_retree_count (p0 p1:AV) (H:Hp):Res:=
 bnd (abox p0 H) fun r2=>
 bnd (abox p1 r2.2) fun r3=>
 bnd (some ((.ptr r3.2.length 0),r3.2++[.cells [(.int .i64 0)]])) fun r5=>
 bnd (astoreU 1 r5.1 (.int .i64 0) r5.2) fun r_4=>
 bnd (aload true 9 r2.1 r_4.2) fun t6=>
 bnd (some (.fn (.func 55) [] [r3.1,r5.1])) fun t7=>
 bnd (C_retree_walk [t6,t7] r_4.2) fun r8=>
 bnd (aload false 1 r5.1 r8.2) fun t9=>
 some (t9,r8.2)
theorem F_retree_count_eq (p0 p1:AV) (H:Hp):C_retree_count [p0,p1] H=F_retree_count p0 p1 H:=(callw_cxm (C:=cfg) (fn:=Try.f35) (c:=bodyOf Try.f35) (n:=10) [] Try.func35 (by kernel_rfl) (by kernel_rfl) [p0,p1] (by kernel_rfl) H).trans (by kernel_rfl)

def retree_checker_node_J3 (x7:AV) (H0 H:Hp):Res:=CXgT 41 145 (sub (bodyOf Try.f41) [1,1,1,1,1,1,1]) (retL cfg 145 41 Try.f41 H0) [(7,x7)] H
def retree_checker_node_J2 (x0 x3 x6 x7:AV) (H0 H:Hp):Res:=CXgT 41 145 (sub (bodyOf Try.f41) [1,1,1,1,1,1]) (retL cfg 145 41 Try.f41 H0) [(0,x0),(3,x3),(6,x6),(7,x7)] H
def retree_checker_node_K1 (H0:Hp):KL:=seqL (fun k al H=>CXgT 41 145 (sub (bodyOf Try.f41) [1,1,1,1,1,1]) k (trimL (cfg.keep 41) (sub (bodyOf Try.f41) [1,1,1,1,1,1]) al) H) (retL cfg 145 41 Try.f41 H0)
theorem retree_checker_node_K1_tame (H0:Hp):Tame 145 (retree_checker_node_K1 H0):=tame_seq (C:=cfg) (kp:=cfg.keep 41) (sub (bodyOf Try.f41) [1,1,1,1,1,1]) (tame_ret 41 Try.f41 H0)
def retree_checker_node_J5 (x0 x3 x6 x7 x117 x118 x119:AV) (H0 H:Hp):Res:=CXgT 41 145 (sub (bodyOf Try.f41) [1,1,1,1,1,0,1,0,0,1,1,1]) (seqL (fun k al H=>LPgT 41 145 (sub (bodyOf Try.f41) [1,1,1,1,1,0,1,0,0]) k (trimL (cfg.keep 41) (sub (bodyOf Try.f41) [1,1,1,1,1,0,1,0,0]) al) H) (blockL 1 (retree_checker_node_K1 H0))) [(0,x0),(3,x3),(6,x6),(7,x7),(117,x117),(118,x118),(119,x119)] H
def retree_checker_node_J4 (x0 x3 x6 x7 x117 x118 x119 x120:AV) (H0 H:Hp):Res:=CXgT 41 145 (sub (bodyOf Try.f41) [1,1,1,1,1,0,1,0,0,1,1]) (seqL (fun k al H=>LPgT 41 145 (sub (bodyOf Try.f41) [1,1,1,1,1,0,1,0,0]) k (trimL (cfg.keep 41) (sub (bodyOf Try.f41) [1,1,1,1,1,0,1,0,0]) al) H) (blockL 1 (retree_checker_node_K1 H0))) [(0,x0),(3,x3),(6,x6),(7,x7),(117,x117),(118,x118),(119,x119),(120,x120)] H
def retree_checker_node_L1 (x0 x3 x6 x7 x117 x118 x119:AV) (H0 H:Hp):Res:=LPgT 41 145 (sub (bodyOf Try.f41) [1,1,1,1,1,0,1,0,0]) (blockL 1 (retree_checker_node_K1 H0)) [(0,x0),(3,x3),(6,x6),(7,x7),(117,x117),(118,x118),(119,x119)] H
def retree_checker_node_J1 (x0 x3:AV) (H0 H:Hp):Res:=CXgT 41 145 (sub (bodyOf Try.f41) [1,1,1,1]) (retL cfg 145 41 Try.f41 H0) [(0,x0),(3,x3)] H
def F_retree_checker_node (p0 p1:AV) (H:Hp):Res:=
 bnd (abox p1 H) fun r3=>
 bnd (anil p0) fun t11=>
 bnd (afield 3 t11) fun t12=>
 bnd (aload false 1 t12 r3.2) fun t13=>
 bnd (ibin .add t13 (.int .i64 1)) fun t14=>
 bnd (anil p0) fun t15=>
 bnd (afield 3 t15) fun t16=>
 bnd (astoreU 1 t16 t14 r3.2) fun r_8=>
 bnd (anil p0) fun t19=>
 bnd (afield 0 t19) fun t20=>
 bnd (aload false 1 t20 r_8.2) fun t21=>
 bnd (gdv t21 false (.tuple []) (aload true 9 r3.1 r_8.2)) fun t23=>
 bnd (gdv t21 false ((.tuple []),r_8.2) (flatC C_retree_shaped [t23] r_8.2)) fun r24=>
 bnd (gdv t21 false (.tuple []) (aun .not r24.1)) fun t25=>
 bnd (apick t21 (.bool true) t25) fun t26=>
 bnd (anil p0) fun t27=>
 bnd (afield 0 t27) fun t28=>
 bnd (astoreU 1 t28 t26 r24.2) fun r_18=>
 bnd (afield 0 r3.1) fun t29=>
 bnd (aload false 1 t29 r_18.2) fun t30=>
 bnd (ibin .eql t30 (.int .i64 5)) fun t32=>
 cnd t32
  (bnd (afield 5 r3.1) fun t33=>
  bnd (aload false 1 t33 r_18.2) fun t34=>
  bnd (ibin .lss t34 (.int .i64 0)) fun t35=>
  bnd (gdv t35 false (.tuple []) (afield 5 r3.1)) fun t37=>
  bnd (gdv t35 false (.tuple []) (aload false 1 t37 r_18.2)) fun t38=>
  bnd (gdv t35 false (.tuple []) (ibin .gtr t38 (.int .i64 64))) fun t39=>
  bnd (apick t35 (.bool true) t39) fun t40=>
  bnd (gdv t40 false (.tuple []) (afield 6 r3.1)) fun t42=>
  bnd (gdv t40 false (.tuple []) (aload false 1 t42 r_18.2)) fun t43=>
  bnd (gdv t40 false (.tuple []) (ibin .neq t43 (.int .i64 (-1)))) fun t44=>
  bnd (gdv t40 false (.tuple []) (some t44)) fun t45=>
  bnd (gdv t45 true (.tuple []) (afield 6 r3.1)) fun t46=>
  bnd (gdv t45 true (.tuple []) (aload false 1 t46 r_18.2)) fun t47=>
  bnd (gdv t45 true (.tuple []) (afield 5 r3.1)) fun t48=>
  bnd (gdv t45 true (.tuple []) (aload false 1 t48 r_18.2)) fun t49=>
  bnd (gdv t45 true (.tuple []) (ibin .lss t47 t49)) fun t50=>
  bnd (gdv t45 true (.tuple []) (some t50)) fun t51=>
  bnd (gdv t51 false (.tuple []) (afield 6 r3.1)) fun t52=>
  bnd (gdv t51 false (.tuple []) (aload false 1 t52 r_18.2)) fun t53=>
  bnd (gdv t51 false (.tuple []) (ibin .gtr t53 (.int .i64 64))) fun t54=>
  bnd (gdv t45 true (.tuple []) (apick t51 (.bool true) t54)) fun t55=>
  bnd (gdv t40 false (.tuple []) (apick t45 t55 (.bool false))) fun t56=>
  bnd (apick t40 (.bool true) t56) fun t57=>
  bnd (anil p0) fun t60=>
  bnd (afield 1 t60) fun t61=>
  bnd (aload false 1 t61 r_18.2) fun t62=>
  bnd (gdv t62 false (.tuple []) (some t57)) fun t64=>
  bnd (apick t62 (.bool true) t64) fun t65=>
  bnd (anil p0) fun t66=>
  bnd (afield 1 t66) fun t67=>
  bnd (astoreU 1 t67 t65 r_18.2) fun r_80=>
  retree_checker_node_J1 p0 r3.1 H r_80.2)
  (bnd (ibin .eql t30 (.int .i64 6)) fun t69=>
  cnd t69
   (bnd (anil p0) fun t71=>
   bnd (afield 4 t71) fun t72=>
   bnd (aload false 1 t72 r_18.2) fun t73=>
   bnd (ibin .add t73 (.int .i64 1)) fun t74=>
   bnd (anil p0) fun t75=>
   bnd (afield 4 t75) fun t76=>
   bnd (astoreU 1 t76 t74 r_18.2) fun r_88=>
   bnd (anil p0) fun t79=>
   bnd (afield 1 t79) fun t80=>
   bnd (aload false 1 t80 r_88.2) fun t81=>
   bnd (gdv t81 false (.tuple []) (afield 7 r3.1)) fun t83=>
   bnd (gdv t81 false (.tuple []) (aload false 1 t83 r_88.2)) fun t84=>
   bnd (gdv t81 false (.tuple []) (some p0)) fun t85=>
   bnd (gdv t81 false (.tuple []) (anil t85)) fun t86=>
   bnd (gdv t81 false (.tuple []) (afield 4 t86)) fun t87=>
   bnd (gdv t81 false (.tuple []) (aload false 1 t87 r_88.2)) fun t88=>
   bnd (gdv t81 false (.tuple []) (ibin .neq t84 t88)) fun t89=>
   bnd (apick t81 (.bool true) t89) fun t90=>
   bnd (anil p0) fun t91=>
   bnd (afield 1 t91) fun t92=>
   bnd (astoreU 1 t92 t90 r_88.2) fun r_102=>
   retree_checker_node_J1 p0 r3.1 H r_102.2)
   (bnd (ibin .eql t30 (.int .i64 9)) fun t94=>
   cnd t94
    (bnd (anil p0) fun t97=>
    bnd (afield 2 t97) fun t98=>
    bnd (aload false 1 t98 r_18.2) fun t99=>
    bnd (gdv t99 false (.tuple []) (some p0)) fun t101=>
    bnd (gdv t99 false (.tuple []) (anil t101)) fun t102=>
    bnd (gdv t99 false (.tuple []) (afield 6 t102)) fun t103=>
    bnd (gdv t99 false (.tuple []) (aload false 1 t103 r_18.2)) fun t104=>
    bnd (gdv t99 false (.tuple []) (afield 7 r3.1)) fun t105=>
    bnd (gdv t99 false (.tuple []) (aload false 1 t105 r_18.2)) fun t106=>
    bnd (gdv t99 false (.tuple []) (alookup (.int .i64) (.bool false) false t104 t106 r_18.2)) fun t107=>
    bnd (gdv t99 false (.tuple []) (aun .not t107)) fun t108=>
    bnd (apick t99 (.bool true) t108) fun t109=>
    bnd (anil p0) fun t110=>
    bnd (afield 2 t110) fun t111=>
    bnd (astoreU 1 t111 t109 r_18.2) fun r_118=>
    retree_checker_node_J1 p0 r3.1 H r_118.2)
    (retree_checker_node_J1 p0 r3.1 H r_18.2)))
theorem retree_checker_node_J3_eq (x7:AV) (H0 H:Hp):retree_checker_node_J3 x7 H0 H =
    bnd (ibin .add x7 (.int .i64 1)) fun t144=>
    some (t144,H):=(CXM_eq [12,15,17,18,20] _ _ _ _).trans (by kernel_rfl)
theorem retree_checker_node_J2_eq (x0 x3 x6 x7:AV) (H0 H:Hp):retree_checker_node_J2 x0 x3 x6 x7 H0 H =
    bnd (afield 0 x3) fun t129=>
    bnd (aload false 1 t129 H) fun t130=>
    bnd (ibin .eql t130 (.int .i64 6)) fun t131=>
    bnd (gdv t131 true (.tuple []) (afield 7 x3)) fun t133=>
    bnd (gdv t131 true (.tuple []) (aload false 1 t133 H)) fun t134=>
    bnd (gdv t131 true (.tuple []) (some x6)) fun t135=>
    bnd (gdv t131 true (.tuple []) (ibin .eql t134 t135)) fun t136=>
    bnd (apick t131 t136 (.bool false)) fun t137=>
    cnd t137
     (bnd (anil x0) fun t139=>
     bnd (afield 6 t139) fun t140=>
     bnd (aload false 1 t140 H) fun t141=>
     bnd (amapSet (.int .i64) t141 x6 (.bool true) H) fun r_34=>
     retree_checker_node_J3 x7 H0 r_34.2)
     (retree_checker_node_J3 x7 H0 H):=(CXM_eq [12,15,17,18,20] _ _ _ _).trans (by kernel_rfl)
theorem retree_checker_node_J5_eq (x0 x3 x6 x7 x117 x118 x119:AV) (H0 H:Hp):retree_checker_node_J5 x0 x3 x6 x7 x117 x118 x119 H0 H =
    bnd (ibin .add x119 (.int .i64 1)) fun t128=>
    retree_checker_node_L1 x0 x3 x6 x7 x117 x118 t128 H0 H:=(CXM_eq [12,15,17,18,20] _ _ _ _).trans (by kernel_rfl)
theorem retree_checker_node_J4_eq (x0 x3 x6 x7 x117 x118 x119 x120:AV) (H0 H:Hp):retree_checker_node_J4 x0 x3 x6 x7 x117 x118 x119 x120 H0 H =
    bnd (aindexS 9 x117 x119) fun t121=>
    bnd (aload true 9 t121 H) fun t122=>
    bnd (some ((.ptr H.length 0),H++[.cells [(.int .i64 0),(.int .u64 0),(.int .u64 0),(.int .u64 0),(.int .u64 0),(.int .i64 0),(.int .i64 0),(.int .i64 0),.nils]])) fun r9=>
    bnd (astoreU 9 r9.1 t122 r9.2) fun r_43=>
    bnd (aload true 9 r9.1 r_43.2) fun t125=>
    bnd (C_retree_checker_node [x0,t125] r_43.2) fun r126=>
    bnd (amax2 x7 r126.1) fun t127=>
    retree_checker_node_J5 x0 x3 x6 t127 x117 x118 x119 H0 r126.2:=(CXM_eq [12,15,17,18,20] _ _ _ _).trans (by kernel_rfl)
theorem retree_checker_node_L1_eq (x0 x3 x6 x7 x117 x118 x119:AV) (H0 H:Hp):retree_checker_node_L1 x0 x3 x6 x7 x117 x118 x119 H0 H =
    bnd (ibin .lss x119 x118) fun t120=>
    cnd t120
     (retree_checker_node_J4 x0 x3 x6 x7 x117 x118 x119 t120 H0 H)
     (retree_checker_node_J2 x0 x3 x6 x7 H0 H):=(LPL_eqm (C:=cfg) [12,15,17,18,20] (tame_block 1 (retree_checker_node_K1_tame H0)) _ _).trans (by kernel_rfl)
theorem retree_checker_node_J1_eq (x0 x3:AV) (H0 H:Hp):retree_checker_node_J1 x0 x3 H0 H =
    bnd (anil x0) fun t113=>
    bnd (afield 4 t113) fun t114=>
    bnd (aload false 1 t114 H) fun t115=>
    bnd (afield 8 x3) fun t116=>
    bnd (aload false 1 t116 H) fun t117=>
    bnd (alenD (.slice 28) t117) fun t118=>
    retree_checker_node_L1 x0 x3 t115 (.int .i64 0) t117 t118 (.int .i64 0) H0 H:=(CXM_eq [12,15,17,18,20] _ _ _ _).trans (by kernel_rfl)
theorem F_retree_checker_node_eq (p0 p1:AV) (H:Hp):C_retree_checker_node [p0,p1] H=F_retree_checker_node p0 p1 H:=(callw_cxm (C:=cfg) (fn:=Try.f41) (c:=bodyOf Try.f41) (n:=145) [12,15,17,18,20] Try.func41 (by kernel_rfl) (by kernel_rfl) [p0,p1] (by kernel_rfl) H).trans (by kernel_rfl)

def reprog_builder_alt_J3 (x0 x49 x50 x51:AV) (H0 H:Hp):Res:=CXgT 45 68 (sub (bodyOf Try.f45) [1,1,1,0,0,1,1,1]) (seqL (fun k al H=>LPgT 45 68 (sub (bodyOf Try.f45) [1,1,1,0,0]) k (trimL (cfg.keep 45) (sub (bodyOf Try.f45) [1,1,1,0,0]) al) H) (blockL 2 (retL cfg 68 45 Try.f45 H0))) [(0,x0),(49,x49),(50,x50),(51,x51)] H
def reprog_builder_alt_J2 (x0 x49 x50 x51 x52:AV) (H0 H:Hp):Res:=CXgT 45 68 (sub (bodyOf Try.f45) [1,1,1,0,0,1,1]) (seqL (fun k al H=>LPgT 45 68 (sub (bodyOf Try.f45) [1,1,1,0,0]) k (trimL (cfg.keep 45) (sub (bodyOf Try.f45) [1,1,1,0,0]) al) H) (blockL 2 (retL cfg 68 45 Try.f45 H0))) [(0,x0),(49,x49),(50,x50),(51,x51),(52,x52)] H
def reprog_builder_alt_L1 (x0 x49 x50 x51:AV) (H0 H:Hp):Res:=LPgT 45 68 (sub (bodyOf Try.f45) [1,1,1,0,0]) (blockL 2 (retL cfg 68 45 Try.f45 H0)) [(0,x0),(49,x49),(50,x50),(51,x51)] H
def reprog_builder_alt_J1 (x0 x4:AV) (H0 H:Hp):Res:=CXgT 45 68 (sub (bodyOf Try.f45) [1,1]) (retL cfg 68 45 Try.f45 H0) [(0,x0),(4,x4)] H
def reprog_builder_alt_K1 (H0:Hp):KL:=seqL (fun k al H=>CXgT 45 68 (sub (bodyOf Try.f45) [1,1]) k (trimL (cfg.keep 45) (sub (bodyOf Try.f45) [1,1]) al) H) (retL cfg 68 45 Try.f45 H0)
theorem reprog_builder_alt_K1_tame (H0:Hp):Tame 68 (reprog_builder_alt_K1 H0):=tame_seq (C:=cfg) (kp:=cfg.keep 45) (sub (bodyOf Try.f45) [1,1]) (tame_ret 45 Try.f45 H0)
def reprog_builder_alt_J5 (x0 x1 x4 x10 x11 x12:AV) (H0 H:Hp):Res:=CXgT 45 68 (sub (bodyOf Try.f45) [1,0,1,0,0,1,1,1]) (seqL (fun k al H=>LPgT 45 68 (sub (bodyOf Try.f45) [1,0,1,0,0]) k (trimL (cfg.keep 45) (sub (bodyOf Try.f45) [1,0,1,0,0]) al) H) (blockL 0 (reprog_builder_alt_K1 H0))) [(0,x0),(1,x1),(4,x4),(10,x10),(11,x11),(12,x12)] H
def reprog_builder_alt_K2 (H0:Hp):KL:=seqL (fun k al H=>CXgT 45 68 (sub (bodyOf Try.f45) [1,0,1,0,0,1,1,1]) k (trimL (cfg.keep 45) (sub (bodyOf Try.f45) [1,0,1,0,0,1,1,1]) al) H) (seqL (fun k al H=>LPgT 45 68 (sub (bodyOf Try.f45) [1,0,1,0,0]) k (trimL (cfg.keep 45) (sub (bodyOf Try.f45) [1,0,1,0,0]) al) H) (blockL 0 (reprog_builder_alt_K1 H0)))
def reprog_builder_alt_J6 (x0 x1 x4 x6 x10 x11 x12:AV) (H0 H:Hp):Res:=CXgT 45 68 (sub (bodyOf Try.f45) [1,0,1,0,0,1,1,0,0,1,1]) (blockL 1 (reprog_builder_alt_K2 H0)) [(0,x0),(1,x1),(4,x4),(6,x6),(10,x10),(11,x11),(12,x12)] H
def reprog_builder_alt_J4 (x0 x1 x4 x10 x11 x12 x13:AV) (H0 H:Hp):Res:=CXgT 45 68 (sub (bodyOf Try.f45) [1,0,1,0,0,1,1]) (seqL (fun k al H=>LPgT 45 68 (sub (bodyOf Try.f45) [1,0,1,0,0]) k (trimL (cfg.keep 45) (sub (bodyOf Try.f45) [1,0,1,0,0]) al) H) (blockL 0 (reprog_builder_alt_K1 H0))) [(0,x0),(1,x1),(4,x4),(10,x10),(11,x11),(12,x12),(13,x13)] H
def reprog_builder_alt_L2 (x0 x1 x4 x10 x11 x12:AV) (H0 H:Hp):Res:=LPgT 45 68 (sub (bodyOf Try.f45) [1,0,1,0,0]) (blockL 0 (reprog_builder_alt_K1 H0)) [(0,x0),(1,x1),(4,x4),(10,x10),(11,x11),(12,x12)] H
def F_reprog_builder_alt (p0 p1:AV) (H:Hp):Res:=
 bnd (alenD (.slice 28) p1) fun t11=>
 reprog_builder_alt_L2 p0 p1 .nils p1 t11 (.int .i64 0) H H
theorem reprog_builder_alt_J3_eq (x0 x49 x50 x51:AV) (H0 H:Hp):reprog_builder_alt_J3 x0 x49 x50 x51 H0 H =
    bnd (ibin .add x51 (.int .i64 1)) fun t67=>
    reprog_builder_alt_L1 x0 x49 x50 t67 H0 H:=(CXM_eq [3,6,10,11,13,15] _ _ _ _).trans (by kernel_rfl)
theorem reprog_builder_alt_J2_eq (x0 x49 x50 x51 x52:AV) (H0 H:Hp):reprog_builder_alt_J2 x0 x49 x50 x51 x52 H0 H =
    bnd (aindexS 1 x49 x51) fun t53=>
    bnd (aload false 1 t53 H) fun t54=>
    bnd (anil x0) fun t56=>
    bnd (afield 0 t56) fun t57=>
    bnd (aload false 1 t57 H) fun t58=>
    bnd (anil x0) fun t61=>
    bnd (afield 0 t61) fun t62=>
    bnd (aload false 1 t62 H) fun t63=>
    bnd (alenD (.slice 76) t63) fun t64=>
    bnd (aindexS 7 t58 t54) fun t65=>
    bnd (afield 5 t65) fun t66=>
    bnd (astoreU 1 t66 t64 H) fun r_15=>
    reprog_builder_alt_J3 x0 x49 x50 x51 H0 r_15.2:=(CXM_eq [3,6,10,11,13,15] _ _ _ _).trans (by kernel_rfl)
theorem reprog_builder_alt_L1_eq (x0 x49 x50 x51:AV) (H0 H:Hp):reprog_builder_alt_L1 x0 x49 x50 x51 H0 H =
    bnd (ibin .lss x51 x50) fun t52=>
    cnd t52
     (reprog_builder_alt_J2 x0 x49 x50 x51 t52 H0 H)
     (some ((.tuple []),H)):=(LPL_eqm (C:=cfg) [3,6,10,11,13,15] (tame_block 2 (tame_ret 45 Try.f45 H0)) _ _).trans (by kernel_rfl)
theorem reprog_builder_alt_J1_eq (x0 x4:AV) (H0 H:Hp):reprog_builder_alt_J1 x0 x4 H0 H =
    bnd (alenD (.slice 3) x4) fun t50=>
    reprog_builder_alt_L1 x0 x4 t50 (.int .i64 0) H0 H:=(CXM_eq [3,6,10,11,13,15] _ _ _ _).trans (by kernel_rfl)
theorem reprog_builder_alt_J5_eq (x0 x1 x4 x10 x11 x12:AV) (H0 H:Hp):reprog_builder_alt_J5 x0 x1 x4 x10 x11 x12 H0 H =
    bnd (ibin .add x12 (.int .i64 1)) fun t48=>
    reprog_builder_alt_L2 x0 x1 x4 x10 x11 t48 H0 H:=(CXM_eq [3,6,10,11,13,15] _ _ _ _).trans (by kernel_rfl)
theorem reprog_builder_alt_J6_eq (x0 x1 x4 x6 x10 x11 x12:AV) (H0 H:Hp):reprog_builder_alt_J6 x0 x1 x4 x6 x10 x11 x12 H0 H =
    bnd (C_reprog_builder_split [x0] H) fun r26=>
    bnd (aload true 9 x6 r26.2) fun t28=>
    bnd (C_reprog_builder_tree [x0,t28] r26.2) fun r29=>
    bnd ((afill [(0,1,(.int .i64 3))] [(.int .i64 0),(.int .u64 0),(.int .u64 0),(.int .u64 0),(.int .u64 0),(.int .i64 0),(.int .i64 0)]).map .agg) fun t32=>
    bnd (C_reprog_builder_add [x0,t32] r29.2) fun r33=>
    bnd ((setElems 1 [(0,r33.1)] [(.int .i64 0)]).map (.vs 1 .clip)) fun t34=>
    bnd (aappEL false 1 8 x4 t34 r33.2) fun r35=>
    bnd (anil x0) fun t37=>
    bnd (afield 0 t37) fun t38=>
    bnd (aload false 1 t38 r35.2) fun t39=>
    bnd (anil x0) fun t42=>
    bnd (afield 0 t42) fun t43=>
    bnd (aload false 1 t43 r35.2) fun t44=>
    bnd (alenD (.slice 76) t44) fun t45=>
    bnd (aindexS 7 t39 r26.1) fun t46=>
    bnd (afield 6 t46) fun t47=>
    bnd (astoreU 1 t47 t45 r35.2) fun r_39=>
    reprog_builder_alt_J5 x0 x1 r35.1 x10 x11 x12 H0 r_39.2:=(CXM_eq [3,6,10,11,13,15] _ _ _ _).trans (by kernel_rfl)
theorem reprog_builder_alt_J4_eq (x0 x1 x4 x10 x11 x12 x13:AV) (H0 H:Hp):reprog_builder_alt_J4 x0 x1 x4 x10 x11 x12 x13 H0 H =
    bnd (aindexS 9 x10 x12) fun t15=>
    bnd (aload true 9 t15 H) fun t16=>
    bnd (some ((.ptr H.length 0),H++[.cells [(.int .i64 0),(.int .u64 0),(.int .u64 0),(.int .u64 0),(.int .u64 0),(.int .i64 0),(.int .i64 0),(.int .i64 0),.nils]])) fun r6=>
    bnd (astoreU 9 r6.1 t16 r6.2) fun r_22=>
    bnd (alenD (.slice 28) x1) fun t19=>
    bnd (ibin .sub t19 (.int .i64 1)) fun t20=>
    bnd (ibin .eql x12 t20) fun t21=>
    cnd t21
     (bnd (aload true 9 r6.1 r_22.2) fun t23=>
     bnd (C_reprog_builder_tree [x0,t23] r_22.2) fun r24=>
     reprog_builder_alt_J1 x0 x4 H0 r24.2)
     (reprog_builder_alt_J6 x0 x1 x4 r6.1 x10 x11 x12 H0 r_22.2):=(CXM_eq [3,6,10,11,13,15] _ _ _ _).trans (by kernel_rfl)
theorem reprog_builder_alt_L2_eq (x0 x1 x4 x10 x11 x12:AV) (H0 H:Hp):reprog_builder_alt_L2 x0 x1 x4 x10 x11 x12 H0 H =
    bnd (ibin .lss x12 x11) fun t13=>
    cnd t13
     (reprog_builder_alt_J4 x0 x1 x4 x10 x11 x12 t13 H0 H)
     (reprog_builder_alt_J1 x0 x4 H0 H):=(LPL_eqm (C:=cfg) [3,6,10,11,13,15] (tame_block 0 (reprog_builder_alt_K1_tame H0)) _ _).trans (by kernel_rfl)
theorem F_reprog_builder_alt_eq (p0 p1:AV) (H:Hp):C_reprog_builder_alt [p0,p1] H=F_reprog_builder_alt p0 p1 H:=(callw_cxm (C:=cfg) (fn:=Try.f45) (c:=bodyOf Try.f45) (n:=68) [3,6,10,11,13,15] Try.func45 (by kernel_rfl) (by kernel_rfl) [p0,p1] (by kernel_rfl) H).trans (by kernel_rfl)

def reprog_builder_repeat_J2 (x0 x6:AV) (H0 H:Hp):Res:=CXgT 46 61 (sub (bodyOf Try.f46) [1,1,1,1,1]) (retL cfg 61 46 Try.f46 H0) [(0,x0),(6,x6)] H
def reprog_builder_repeat_J1 (x0 x3:AV) (H0 H:Hp):Res:=CXgT 46 61 (sub (bodyOf Try.f46) [1,1]) (retL cfg 61 46 Try.f46 H0) [(0,x0),(3,x3)] H
def F_reprog_builder_repeat (p0 p1:AV) (H:Hp):Res:=
 bnd (abox p1 H) fun r3=>
 bnd (afield 5 r3.1) fun t7=>
 bnd (aload false 1 t7 r3.2) fun t8=>
 bnd (ibin .eql t8 (.int .i64 1)) fun t9=>
 cnd t9
  (bnd (anil p0) fun t11=>
  bnd (afield 0 t11) fun t12=>
  bnd (aload false 1 t12 r3.2) fun t13=>
  bnd (alenD (.slice 76) t13) fun t14=>
  bnd (afield 8 r3.1) fun t16=>
  bnd (aload false 1 t16 r3.2) fun t17=>
  bnd (aindexS 9 t17 (.int .i64 0)) fun t18=>
  bnd (aload true 9 t18 r3.2) fun t19=>
  bnd (C_reprog_builder_tree [p0,t19] r3.2) fun r20=>
  bnd ((afill [(0,1,(.int .i64 2)),(5,1,t14)] [(.int .i64 0),(.int .u64 0),(.int .u64 0),(.int .u64 0),(.int .u64 0),(.int .i64 0),(.int .i64 0)]).map .agg) fun t23=>
  bnd (C_reprog_builder_add [p0,t23] r20.2) fun r24=>
  bnd (anil p0) fun t26=>
  bnd (afield 0 t26) fun t27=>
  bnd (aload false 1 t27 r24.2) fun t28=>
  bnd (ibin .add r24.1 (.int .i64 1)) fun t31=>
  bnd (aindexS 7 t28 r24.1) fun t32=>
  bnd (afield 6 t32) fun t33=>
  bnd (astoreU 1 t33 t31 r24.2) fun r_43=>
  some ((.tuple []),r_43.2))
  (reprog_builder_repeat_J1 p0 r3.1 H r3.2)
theorem reprog_builder_repeat_J2_eq (x0 x6:AV) (H0 H:Hp):reprog_builder_repeat_J2 x0 x6 H0 H =
    bnd (anil x0) fun t50=>
    bnd (afield 0 t50) fun t51=>
    bnd (aload false 1 t51 H) fun t52=>
    bnd (anil x0) fun t55=>
    bnd (afield 0 t55) fun t56=>
    bnd (aload false 1 t56 H) fun t57=>
    bnd (alenD (.slice 76) t57) fun t58=>
    bnd (aindexS 7 t52 x6) fun t59=>
    bnd (afield 6 t59) fun t60=>
    bnd (astoreU 1 t60 t58 H) fun r_17=>
    some ((.tuple []),r_17.2):=(CXM_eq [6,10] _ _ _ _).trans (by kernel_rfl)
theorem reprog_builder_repeat_J1_eq (x0 x3:AV) (H0 H:Hp):reprog_builder_repeat_J1 x0 x3 H0 H =
    bnd (C_reprog_builder_split [x0] H) fun r35=>
    bnd (afield 8 x3) fun t37=>
    bnd (aload false 1 t37 r35.2) fun t38=>
    bnd (aindexS 9 t38 (.int .i64 0)) fun t39=>
    bnd (aload true 9 t39 r35.2) fun t40=>
    bnd (C_reprog_builder_tree [x0,t40] r35.2) fun r41=>
    bnd (afield 6 x3) fun t42=>
    bnd (aload false 1 t42 r41.2) fun t43=>
    bnd (ibin .lss t43 (.int .i64 0)) fun t44=>
    cnd t44
     (bnd ((afill [(0,1,(.int .i64 3)),(5,1,r35.1)] [(.int .i64 0),(.int .u64 0),(.int .u64 0),(.int .u64 0),(.int .u64 0),(.int .i64 0),(.int .i64 0)]).map .agg) fun t47=>
     bnd (C_reprog_builder_add [x0,t47] r41.2) fun r48=>
     reprog_builder_repeat_J2 x0 r35.1 H0 r48.2)
     (reprog_builder_repeat_J2 x0 r35.1 H0 r41.2):=(CXM_eq [6,10] _ _ _ _).trans (by kernel_rfl)
theorem F_reprog_builder_repeat_eq (p0 p1:AV) (H:Hp):C_reprog_builder_repeat [p0,p1] H=F_reprog_builder_repeat p0 p1 H:=(callw_cxm (C:=cfg) (fn:=Try.f46) (c:=bodyOf Try.f46) (n:=61) [6,10] Try.func46 (by kernel_rfl) (by kernel_rfl) [p0,p1] (by kernel_rfl) H).trans (by kernel_rfl)

def retree_walk_J2 (x1 x10 x11 x12:AV) (H0 H:Hp):Res:=CXgT 54 20 (sub (bodyOf Try.f54) [1,1,1,0,0,1,1,1]) (seqL (fun k al H=>LPgT 54 20 (sub (bodyOf Try.f54) [1,1,1,0,0]) k (trimL (cfg.keep 54) (sub (bodyOf Try.f54) [1,1,1,0,0]) al) H) (blockL 0 (retL cfg 20 54 Try.f54 H0))) [(1,x1),(10,x10),(11,x11),(12,x12)] H
def retree_walk_J1 (x1 x10 x11 x12 x13:AV) (H0 H:Hp):Res:=CXgT 54 20 (sub (bodyOf Try.f54) [1,1,1,0,0,1,1]) (seqL (fun k al H=>LPgT 54 20 (sub (bodyOf Try.f54) [1,1,1,0,0]) k (trimL (cfg.keep 54) (sub (bodyOf Try.f54) [1,1,1,0,0]) al) H) (blockL 0 (retL cfg 20 54 Try.f54 H0))) [(1,x1),(10,x10),(11,x11),(12,x12),(13,x13)] H
def retree_walk_L1 (x1 x10 x11 x12:AV) (H0 H:Hp):Res:=LPgT 54 20 (sub (bodyOf Try.f54) [1,1,1,0,0]) (blockL 0 (retL cfg 20 54 Try.f54 H0)) [(1,x1),(10,x10),(11,x11),(12,x12)] H
def F_retree_walk (p0 p1:AV) (H:Hp):Res:=
 bnd (abox p0 H) fun r2=>
 bnd (aload true 9 r2.1 r2.2) fun t7=>
 bnd (acall cfg (callw cfg) p1 [t7] r2.2) fun r8=>
 bnd (afield 8 r2.1) fun t9=>
 bnd (aload false 1 t9 r8.2) fun t10=>
 bnd (alenD (.slice 28) t10) fun t11=>
 retree_walk_L1 p1 t10 t11 (.int .i64 0) H r8.2
theorem retree_walk_J2_eq (x1 x10 x11 x12:AV) (H0 H:Hp):retree_walk_J2 x1 x10 x11 x12 H0 H =
    bnd (ibin .add x12 (.int .i64 1)) fun t19=>
    retree_walk_L1 x1 x10 x11 t19 H0 H:=(CXM_eq [4,6] _ _ _ _).trans (by kernel_rfl)
theorem retree_walk_J1_eq (x1 x10 x11 x12 x13:AV) (H0 H:Hp):retree_walk_J1 x1 x10 x11 x12 x13 H0 H =
    bnd (aindexS 9 x10 x12) fun t14=>
    bnd (aload true 9 t14 H) fun t15=>
    bnd (some ((.ptr H.length 0),H++[.cells [(.int .i64 0),(.int .u64 0),(.int .u64 0),(.int .u64 0),(.int .u64 0),(.int .i64 0),(.int .i64 0),(.int .i64 0),.nils]])) fun r5=>
    bnd (astoreU 9 r5.1 t15 r5.2) fun r_12=>
    bnd (aload true 9 r5.1 r_12.2) fun t16=>
    bnd (C_retree_walk [t16,x1] r_12.2) fun r18=>
    retree_walk_J2 x1 x10 x11 x12 H0 r18.2:=(CXM_eq [4,6] _ _ _ _).trans (by kernel_rfl)
theorem retree_walk_L1_eq (x1 x10 x11 x12:AV) (H0 H:Hp):retree_walk_L1 x1 x10 x11 x12 H0 H =
    bnd (ibin .lss x12 x11) fun t13=>
    cnd t13
     (retree_walk_J1 x1 x10 x11 x12 t13 H0 H)
     (some ((.tuple []),H)):=(LPL_eqm (C:=cfg) [4,6] (tame_block 0 (tame_ret 54 Try.f54 H0)) _ _).trans (by kernel_rfl)
theorem F_retree_walk_eq (p0 p1:AV) (H:Hp):C_retree_walk [p0,p1] H=F_retree_walk p0 p1 H:=(callw_cxm (C:=cfg) (fn:=Try.f54) (c:=bodyOf Try.f54) (n:=20) [4,6] Try.func54 (by kernel_rfl) (by kernel_rfl) [p0,p1] (by kernel_rfl) H).trans (by kernel_rfl)

def F_retree_count_1 (p0 p1 p2:AV) (H:Hp):Res:=
 bnd (abox p0 H) fun r3=>
 bnd (aload false 1 p1 r3.2) fun t4=>
 bnd (ibin .eql t4 (.int .i64 0)) fun t5=>
 bnd (gdv t5 false (.tuple []) (afield 0 r3.1)) fun t7=>
 bnd (gdv t5 false (.tuple []) (aload false 1 t7 r3.2)) fun t8=>
 bnd (gdv t5 false (.tuple []) (aload false 1 p1 r3.2)) fun t9=>
 bnd (gdv t5 false (.tuple []) (ibin .eql t8 t9)) fun t10=>
 bnd (apick t5 (.bool true) t10) fun t11=>
 cnd t11
  (bnd (aload false 1 p2 r3.2) fun t12=>
  bnd (ibin .add t12 (.int .i64 1)) fun t13=>
  bnd (astoreU 1 p2 t13 r3.2) fun r_11=>
  some ((.tuple []),r_11.2))
  (some ((.tuple []),r3.2))
theorem F_retree_count_1_eq (p0 p1 p2:AV) (H:Hp):C_retree_count_1 [p0,p1,p2] H=F_retree_count_1 p0 p1 p2 H:=(callw_cxm (C:=cfg) (fn:=Try.f55) (c:=bodyOf Try.f55) (n:=14) [] Try.func55 (by kernel_rfl) (by kernel_rfl) [p0,p1,p2] (by kernel_rfl) H).trans (by kernel_rfl)

def F_reprog_builder_split (p0:AV) (H:Hp):Res:=
 bnd ((afill [(0,1,(.int .i64 2))] [(.int .i64 0),(.int .u64 0),(.int .u64 0),(.int .u64 0),(.int .u64 0),(.int .i64 0),(.int .i64 0)]).map .agg) fun t5=>
 bnd (C_reprog_builder_add [p0,t5] H) fun r6=>
 bnd (anil p0) fun t8=>
 bnd (afield 0 t8) fun t9=>
 bnd (aload false 1 t9 r6.2) fun t10=>
 bnd (ibin .add r6.1 (.int .i64 1)) fun t13=>
 bnd (aindexS 7 t10 r6.1) fun t14=>
 bnd (afield 5 t14) fun t15=>
 bnd (astoreU 1 t15 t13 r6.2) fun r_9=>
 some (r6.1,r_9.2)
theorem F_reprog_builder_split_eq (p0:AV) (H:Hp):C_reprog_builder_split [p0] H=F_reprog_builder_split p0 H:=(callw_cxm (C:=cfg) (fn:=Try.f67) (c:=bodyOf Try.f67) (n:=17) [] Try.func67 (by kernel_rfl) (by kernel_rfl) [p0] (by kernel_rfl) H).trans (by kernel_rfl)

end
end Go.Am
