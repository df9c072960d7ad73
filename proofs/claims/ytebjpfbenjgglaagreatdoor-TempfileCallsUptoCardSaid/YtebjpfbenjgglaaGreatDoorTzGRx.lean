/-
  The functions of the translation over the abstract machine, a further part: written by program (wip/gen.py).
-/
import Derived.Test.YtebjpfbenjgglaaGreatDoorTzGx
namespace Go.Am
open Go.Proofs
set_option maxRecDepth 100000
set_option linter.unusedVariables false
set_option linter.unusedSimpArgs false
noncomputable abbrev CXgR (f n:Nat):=CXL cfg (callw cfg) (LPL cfg (cfg.keep f) n) (cfg.keep f) n seqL blockL
noncomputable abbrev LPgR (f n:Nat):=LPL cfg (cfg.keep f) n
noncomputable section

def F_R18_New (p0:AV) (H:Hp):Res:=
 bnd (amax2 p0 (.int .i64 0)) fun t4=>
 bnd (amin2 t4 (.int .i64 262144)) fun t5=>
 bnd ((afill [(0,1,t5)] [(.int .i64 0),.nils,(.int .i64 0),(.bool false),(.int .i64 0)]).map .agg) fun t6=>
 bnd (abox t6 H) fun r7=>
 some (r7.1,r7.2)
theorem F_R18_New_eq (p0:AV) (H:Hp):C_R18_New [p0] H=F_R18_New p0 H:=(callw_cxm (C:=cfg) (fn:=Tryz.f8) (c:=bodyOf Tryz.f8) (n:=8) [] Tryz.func8 (by kernel_rfl) (by kernel_rfl) [p0] (by kernel_rfl) H).trans (by kernel_rfl)

def R19_Open_J4 (x0 x1 x2:AV) (H0 H:Hp):Res:=CXgR 10 41 (sub (bodyOf Tryz.f10) [1,1,1,1,1,1]) (retL cfg 41 10 Tryz.f10 H0) [(0,x0),(1,x1),(2,x2)] H
def R19_Open_J3 (x0 x1 x2:AV) (H0 H:Hp):Res:=CXgR 10 41 (sub (bodyOf Tryz.f10) [1,1,1,1,1]) (retL cfg 41 10 Tryz.f10 H0) [(0,x0),(1,x1),(2,x2)] H
def R19_Open_K1 (H0:Hp):KL:=seqL (fun k al H=>CXgR 10 41 (sub (bodyOf Tryz.f10) [1,1,1,1,1]) k (trimL (cfg.keep 10) (sub (bodyOf Tryz.f10) [1,1,1,1,1]) al) H) (retL cfg 41 10 Tryz.f10 H0)
theorem R19_Open_K1_tame (H0:Hp):Tame 41 (R19_Open_K1 H0):=tame_seq (C:=cfg) (kp:=cfg.keep 10) (sub (bodyOf Tryz.f10) [1,1,1,1,1]) (tame_ret 10 Tryz.f10 H0)
def R19_Open_J6 (x0 x1 x2 x8 x9:AV) (H0 H:Hp):Res:=CXgR 10 41 (sub (bodyOf Tryz.f10) [1,1,1,1,0,1,0,0,1,1]) (seqL (fun k al H=>LPgR 10 41 (sub (bodyOf Tryz.f10) [1,1,1,1,0,1,0,0]) k (trimL (cfg.keep 10) (sub (bodyOf Tryz.f10) [1,1,1,1,0,1,0,0]) al) H) (blockL 0 (R19_Open_K1 H0))) [(0,x0),(1,x1),(2,x2),(8,x8),(9,x9)] H
def R19_Open_J5 (x0 x1 x2 x8 x9:AV) (H0 H:Hp):Res:=CXgR 10 41 (sub (bodyOf Tryz.f10) [1,1,1,1,0,1,0,0,1]) (seqL (fun k al H=>LPgR 10 41 (sub (bodyOf Tryz.f10) [1,1,1,1,0,1,0,0]) k (trimL (cfg.keep 10) (sub (bodyOf Tryz.f10) [1,1,1,1,0,1,0,0]) al) H) (blockL 0 (R19_Open_K1 H0))) [(0,x0),(1,x1),(2,x2),(8,x8),(9,x9)] H
def R19_Open_L1 (x0 x1 x2 x8 x9:AV) (H0 H:Hp):Res:=LPgR 10 41 (sub (bodyOf Tryz.f10) [1,1,1,1,0,1,0,0]) (blockL 0 (R19_Open_K1 H0)) [(0,x0),(1,x1),(2,x2),(8,x8),(9,x9)] H
def R19_Open_J2 (x0 x1 x2:AV) (H0 H:Hp):Res:=CXgR 10 41 (sub (bodyOf Tryz.f10) [1,1,1]) (retL cfg 41 10 Tryz.f10 H0) [(0,x0),(1,x1),(2,x2)] H
def R19_Open_J1 (x0 x1 x2:AV) (H0 H:Hp):Res:=CXgR 10 41 (sub (bodyOf Tryz.f10) [1,1]) (retL cfg 41 10 Tryz.f10 H0) [(0,x0),(1,x1),(2,x2)] H
def F_R19_Open (p0 p1 p2:AV) (H:Hp):Res:=
 bnd (ebin (.pointer 71) .eql p0 .nilp) fun t12=>
 cnd t12
  (some ((.tuple [.nilp,(.int .i64 5)]),H))
  (R19_Open_J1 p0 p1 p2 H H)
theorem R19_Open_J4_eq (x0 x1 x2:AV) (H0 H:Hp):R19_Open_J4 x0 x1 x2 H0 H =
    bnd ((afill [(0,1,x0),(1,1,x1),(2,1,x2)] [.nilp,(.str []),(.int .i64 0),(.int .i64 0),.nils,.nils,(.bool false)]).map .agg) fun t39=>
    bnd (abox t39 H) fun r40=>
    some ((.tuple [r40.1,(.int .i64 0)]),r40.2):=(CXM_eq [3,5,8,9,12,14] _ _ _ _).trans (by kernel_rfl)
theorem R19_Open_J3_eq (x0 x1 x2:AV) (H0 H:Hp):R19_Open_J3 x0 x1 x2 H0 H =
    bnd (ibin .lss x2 (.int .i64 0)) fun t35=>
    cnd t35
     (R19_Open_J4 x0 x1 (.int .i64 0) H0 H)
     (R19_Open_J4 x0 x1 x2 H0 H):=(CXM_eq [3,5,8,9,12,14] _ _ _ _).trans (by kernel_rfl)
theorem R19_Open_J6_eq (x0 x1 x2 x8 x9:AV) (H0 H:Hp):R19_Open_J6 x0 x1 x2 x8 x9 H0 H =
    bnd (ibin .add x9 (.int .i64 1)) fun t24=>
    R19_Open_L1 x0 x1 x2 x8 t24 H0 H:=(CXM_eq [3,5,8,9,12,14] _ _ _ _).trans (by kernel_rfl)
theorem R19_Open_J5_eq (x0 x1 x2 x8 x9:AV) (H0 H:Hp):R19_Open_J5 x0 x1 x2 x8 x9 H0 H =
    bnd (aindexS 1 x8 x9) fun t28=>
    bnd (aload false 1 t28 H) fun t29=>
    bnd (C_R18_Store_Remove [x0,t29] H) fun r30=>
    bnd (ibin .neq r30.1 (.int .i64 0)) fun t32=>
    cnd t32
     (some ((.tuple [.nilp,r30.1]),r30.2))
     (R19_Open_J6 x0 x1 x2 x8 x9 H0 r30.2):=(CXM_eq [3,5,8,9,12,14] _ _ _ _).trans (by kernel_rfl)
theorem R19_Open_L1_eq (x0 x1 x2 x8 x9:AV) (H0 H:Hp):R19_Open_L1 x0 x1 x2 x8 x9 H0 H =
    bnd (alenD (.slice 9) x8) fun t21=>
    bnd (ibin .lss x9 t21) fun t22=>
    cnd t22
     (R19_Open_J5 x0 x1 x2 x8 x9 H0 H)
     (R19_Open_J3 x0 x1 x2 H0 H):=(LPL_eqm (C:=cfg) [3,5,8,9,12,14] (tame_block 0 (R19_Open_K1_tame H0)) _ _).trans (by kernel_rfl)
theorem R19_Open_J2_eq (x0 x1 x2:AV) (H0 H:Hp):R19_Open_J2 x0 x1 x2 H0 H =
    bnd (roC C_R19_Left [x0,x1] H) fun r18=>
    R19_Open_L1 x0 x1 x2 r18.1 (.int .i64 0) H0 r18.2:=(CXM_eq [3,5,8,9,12,14] _ _ _ _).trans (by kernel_rfl)
theorem R19_Open_J1_eq (x0 x1 x2:AV) (H0 H:Hp):R19_Open_J1 x0 x1 x2 H0 H =
    bnd (flatC C_R19_ownerOk [x1] H) fun r14=>
    bnd (aun .not r14.1) fun t15=>
    cnd t15
     (some ((.tuple [.nilp,(.int .i64 4)]),r14.2))
     (R19_Open_J2 x0 x1 x2 H0 r14.2):=(CXM_eq [3,5,8,9,12,14] _ _ _ _).trans (by kernel_rfl)
theorem F_R19_Open_eq (p0 p1 p2:AV) (H:Hp):C_R19_Open [p0,p1,p2] H=F_R19_Open p0 p1 p2 H:=(callw_cxm (C:=cfg) (fn:=Tryz.f10) (c:=bodyOf Tryz.f10) (n:=41) [3,5,8,9,12,14] Tryz.func10 (by kernel_rfl) (by kernel_rfl) [p0,p1,p2] (by kernel_rfl) H).trans (by kernel_rfl)

def R19_Temps_Used_J2 (x3:AV) (H0 H:Hp):Res:=CXgR 14 44 (sub (bodyOf Tryz.f14) [1,1,1,1,1]) (retL cfg 44 14 Tryz.f14 H0) [(3,x3)] H
def R19_Temps_Used_K1 (H0:Hp):KL:=seqL (fun k al H=>CXgR 14 44 (sub (bodyOf Tryz.f14) [1,1,1,1,1]) k (trimL (cfg.keep 14) (sub (bodyOf Tryz.f14) [1,1,1,1,1]) al) H) (retL cfg 44 14 Tryz.f14 H0)
theorem R19_Temps_Used_K1_tame (H0:Hp):Tame 44 (R19_Temps_Used_K1 H0):=tame_seq (C:=cfg) (kp:=cfg.keep 14) (sub (bodyOf Tryz.f14) [1,1,1,1,1]) (tame_ret 14 Tryz.f14 H0)
def R19_Temps_Used_J4 (x0 x3 x4 x5:AV) (H0 H:Hp):Res:=CXgR 14 44 (sub (bodyOf Tryz.f14) [1,1,1,1,0,1,0,0,1,1]) (seqL (fun k al H=>LPgR 14 44 (sub (bodyOf Tryz.f14) [1,1,1,1,0,1,0,0]) k (trimL (cfg.keep 14) (sub (bodyOf Tryz.f14) [1,1,1,1,0,1,0,0]) al) H) (blockL 0 (R19_Temps_Used_K1 H0))) [(0,x0),(3,x3),(4,x4),(5,x5)] H
def R19_Temps_Used_J3 (x0 x3 x4 x5:AV) (H0 H:Hp):Res:=CXgR 14 44 (sub (bodyOf Tryz.f14) [1,1,1,1,0,1,0,0,1]) (seqL (fun k al H=>LPgR 14 44 (sub (bodyOf Tryz.f14) [1,1,1,1,0,1,0,0]) k (trimL (cfg.keep 14) (sub (bodyOf Tryz.f14) [1,1,1,1,0,1,0,0]) al) H) (blockL 0 (R19_Temps_Used_K1 H0))) [(0,x0),(3,x3),(4,x4),(5,x5)] H
def R19_Temps_Used_L1 (x0 x3 x4 x5:AV) (H0 H:Hp):Res:=LPgR 14 44 (sub (bodyOf Tryz.f14) [1,1,1,1,0,1,0,0]) (blockL 0 (R19_Temps_Used_K1 H0)) [(0,x0),(3,x3),(4,x4),(5,x5)] H
def R19_Temps_Used_J1 (x0 x3:AV) (H0 H:Hp):Res:=CXgR 14 44 (sub (bodyOf Tryz.f14) [1,1,1]) (retL cfg 44 14 Tryz.f14 H0) [(0,x0),(3,x3)] H
def F_R19_Temps_Used (p0:AV) (H:Hp):Res:=
 bnd (ebin (.pointer 79) .eql p0 .nilp) fun t7=>
 bnd (gdv t7 false (.tuple []) (some p0)) fun t9=>
 bnd (gdv t7 false (.tuple []) (anil t9)) fun t10=>
 bnd (gdv t7 false (.tuple []) (afield 6 t10)) fun t11=>
 bnd (gdv t7 false (.tuple []) (aload false 1 t11 H)) fun t12=>
 bnd (apick t7 (.bool true) t12) fun t13=>
 cnd t13
  (some ((.int .i64 0),H))
  (R19_Temps_Used_J1 p0 (.int .i64 0) H H)
theorem R19_Temps_Used_J2_eq (x3:AV) (H0 H:Hp):R19_Temps_Used_J2 x3 H0 H =
    some (x3,H):=(CXM_eq [4,7,8,10] _ _ _ _).trans (by kernel_rfl)
theorem R19_Temps_Used_J4_eq (x0 x3 x4 x5:AV) (H0 H:Hp):R19_Temps_Used_J4 x0 x3 x4 x5 H0 H =
    bnd (ibin .add x5 (.int .i64 1)) fun t25=>
    R19_Temps_Used_L1 x0 x3 x4 t25 H0 H:=(CXM_eq [4,7,8,10] _ _ _ _).trans (by kernel_rfl)
theorem R19_Temps_Used_J3_eq (x0 x3 x4 x5:AV) (H0 H:Hp):R19_Temps_Used_J3 x0 x3 x4 x5 H0 H =
    bnd (anil x0) fun t27=>
    bnd (afield 4 t27) fun t28=>
    bnd (aload false 1 t28 H) fun t29=>
    bnd (aindexS 3 x4 x5) fun t32=>
    bnd (afield 0 t32) fun t33=>
    bnd (aload false 1 t33 H) fun t34=>
    bnd (flatC C_R19_has [t29,t34] H) fun r35=>
    cnd r35.1
     (bnd (aindexS 3 x4 x5) fun t39=>
     bnd (afield 1 t39) fun t40=>
     bnd (aload false 1 t40 r35.2) fun t41=>
     bnd (ibin .add x3 t41) fun t42=>
     R19_Temps_Used_J4 x0 t42 x4 x5 H0 r35.2)
     (R19_Temps_Used_J4 x0 x3 x4 x5 H0 r35.2):=(CXM_eq [4,7,8,10] _ _ _ _).trans (by kernel_rfl)
theorem R19_Temps_Used_L1_eq (x0 x3 x4 x5:AV) (H0 H:Hp):R19_Temps_Used_L1 x0 x3 x4 x5 H0 H =
    bnd (alenD (.slice 57) x4) fun t22=>
    bnd (ibin .lss x5 t22) fun t23=>
    cnd t23
     (R19_Temps_Used_J3 x0 x3 x4 x5 H0 H)
     (R19_Temps_Used_J2 x3 H0 H):=(LPL_eqm (C:=cfg) [4,7,8,10] (tame_block 0 (R19_Temps_Used_K1_tame H0)) _ _).trans (by kernel_rfl)
theorem R19_Temps_Used_J1_eq (x0 x3:AV) (H0 H:Hp):R19_Temps_Used_J1 x0 x3 H0 H =
    bnd (anil x0) fun t16=>
    bnd (afield 0 t16) fun t17=>
    bnd (aload false 1 t17 H) fun t18=>
    bnd (roC C_R18_Store_List [t18] H) fun r19=>
    R19_Temps_Used_L1 x0 x3 r19.1 (.int .i64 0) H0 r19.2:=(CXM_eq [4,7,8,10] _ _ _ _).trans (by kernel_rfl)
theorem F_R19_Temps_Used_eq (p0:AV) (H:Hp):C_R19_Temps_Used [p0] H=F_R19_Temps_Used p0 H:=(callw_cxm (C:=cfg) (fn:=Tryz.f14) (c:=bodyOf Tryz.f14) (n:=44) [4,7,8,10] Tryz.func14 (by kernel_rfl) (by kernel_rfl) [p0] (by kernel_rfl) H).trans (by kernel_rfl)

def R18_SameFiles_J2 (H0 H:Hp):Res:=CXgR 15 26 (sub (bodyOf Tryz.f15) [1,1,1]) (retL cfg 26 15 Tryz.f15 H0) [] H
def R18_SameFiles_K1 (H0:Hp):KL:=seqL (fun k al H=>CXgR 15 26 (sub (bodyOf Tryz.f15) [1,1,1]) k (trimL (cfg.keep 15) (sub (bodyOf Tryz.f15) [1,1,1]) al) H) (retL cfg 26 15 Tryz.f15 H0)
theorem R18_SameFiles_K1_tame (H0:Hp):Tame 26 (R18_SameFiles_K1 H0):=tame_seq (C:=cfg) (kp:=cfg.keep 15) (sub (bodyOf Tryz.f15) [1,1,1]) (tame_ret 15 Tryz.f15 H0)
def R18_SameFiles_J4 (x0 x1 x5:AV) (H0 H:Hp):Res:=CXgR 15 26 (sub (bodyOf Tryz.f15) [1,1,0,1,0,0,1,1]) (seqL (fun k al H=>LPgR 15 26 (sub (bodyOf Tryz.f15) [1,1,0,1,0,0]) k (trimL (cfg.keep 15) (sub (bodyOf Tryz.f15) [1,1,0,1,0,0]) al) H) (blockL 0 (R18_SameFiles_K1 H0))) [(0,x0),(1,x1),(5,x5)] H
def R18_SameFiles_J3 (x0 x1 x5:AV) (H0 H:Hp):Res:=CXgR 15 26 (sub (bodyOf Tryz.f15) [1,1,0,1,0,0,1]) (seqL (fun k al H=>LPgR 15 26 (sub (bodyOf Tryz.f15) [1,1,0,1,0,0]) k (trimL (cfg.keep 15) (sub (bodyOf Tryz.f15) [1,1,0,1,0,0]) al) H) (blockL 0 (R18_SameFiles_K1 H0))) [(0,x0),(1,x1),(5,x5)] H
def R18_SameFiles_L1 (x0 x1 x5:AV) (H0 H:Hp):Res:=LPgR 15 26 (sub (bodyOf Tryz.f15) [1,1,0,1,0,0]) (blockL 0 (R18_SameFiles_K1 H0)) [(0,x0),(1,x1),(5,x5)] H
def R18_SameFiles_J1 (x0 x1:AV) (H0 H:Hp):Res:=CXgR 15 26 (sub (bodyOf Tryz.f15) [1,1]) (retL cfg 26 15 Tryz.f15 H0) [(0,x0),(1,x1)] H
def F_R18_SameFiles (p0 p1:AV) (H:Hp):Res:=
 bnd (alenD (.slice 57) p0) fun t7=>
 bnd (alenD (.slice 57) p1) fun t9=>
 bnd (ibin .neq t7 t9) fun t10=>
 cnd t10
  (some ((.bool false),H))
  (R18_SameFiles_J1 p0 p1 H H)
theorem R18_SameFiles_J2_eq (H0 H:Hp):R18_SameFiles_J2 H0 H =
    some ((.bool true),H):=(CXM_eq [3,5,6,8] _ _ _ _).trans (by kernel_rfl)
theorem R18_SameFiles_J4_eq (x0 x1 x5:AV) (H0 H:Hp):R18_SameFiles_J4 x0 x1 x5 H0 H =
    bnd (ibin .add x5 (.int .i64 1)) fun t16=>
    R18_SameFiles_L1 x0 x1 t16 H0 H:=(CXM_eq [3,5,6,8] _ _ _ _).trans (by kernel_rfl)
theorem R18_SameFiles_J3_eq (x0 x1 x5:AV) (H0 H:Hp):R18_SameFiles_J3 x0 x1 x5 H0 H =
    bnd (aindexS 3 x0 x5) fun t19=>
    bnd (aload true 3 t19 H) fun t20=>
    bnd (aindexS 3 x1 x5) fun t23=>
    bnd (aload true 3 t23 H) fun t24=>
    bnd (aeqBin Tryz.prog cfg.eqok .neq 57 t20 t24) fun t25=>
    cnd t25
     (some ((.bool false),H))
     (R18_SameFiles_J4 x0 x1 x5 H0 H):=(CXM_eq [3,5,6,8] _ _ _ _).trans (by kernel_rfl)
theorem R18_SameFiles_L1_eq (x0 x1 x5:AV) (H0 H:Hp):R18_SameFiles_L1 x0 x1 x5 H0 H =
    bnd (alenD (.slice 57) x0) fun t13=>
    bnd (ibin .lss x5 t13) fun t14=>
    cnd t14
     (R18_SameFiles_J3 x0 x1 x5 H0 H)
     (R18_SameFiles_J2 H0 H):=(LPL_eqm (C:=cfg) [3,5,6,8] (tame_block 0 (R18_SameFiles_K1_tame H0)) _ _).trans (by kernel_rfl)
theorem R18_SameFiles_J1_eq (x0 x1:AV) (H0 H:Hp):R18_SameFiles_J1 x0 x1 H0 H =
    R18_SameFiles_L1 x0 x1 (.int .i64 0) H0 H:=(CXM_eq [3,5,6,8] _ _ _ _).trans (by kernel_rfl)
theorem F_R18_SameFiles_eq (p0 p1:AV) (H:Hp):C_R18_SameFiles [p0,p1] H=F_R18_SameFiles p0 p1 H:=(callw_cxm (C:=cfg) (fn:=Tryz.f15) (c:=bodyOf Tryz.f15) (n:=26) [3,5,6,8] Tryz.func15 (by kernel_rfl) (by kernel_rfl) [p0,p1] (by kernel_rfl) H).trans (by kernel_rfl)

def R18_Store_List_J2 (x3:AV) (H0 H:Hp):Res:=CXgR 17 47 (sub (bodyOf Tryz.f17) [1,1,1,1]) (retL cfg 47 17 Tryz.f17 H0) [(3,x3)] H
def R18_Store_List_K1 (H0:Hp):KL:=seqL (fun k al H=>CXgR 17 47 (sub (bodyOf Tryz.f17) [1,1,1,1]) k (trimL (cfg.keep 17) (sub (bodyOf Tryz.f17) [1,1,1,1]) al) H) (retL cfg 47 17 Tryz.f17 H0)
theorem R18_Store_List_K1_tame (H0:Hp):Tame 47 (R18_Store_List_K1 H0):=tame_seq (C:=cfg) (kp:=cfg.keep 17) (sub (bodyOf Tryz.f17) [1,1,1,1]) (tame_ret 17 Tryz.f17 H0)
def R18_Store_List_J4 (x0 x3 x4:AV) (H0 H:Hp):Res:=CXgR 17 47 (sub (bodyOf Tryz.f17) [1,1,1,0,1,0,0,1,1]) (seqL (fun k al H=>LPgR 17 47 (sub (bodyOf Tryz.f17) [1,1,1,0,1,0,0]) k (trimL (cfg.keep 17) (sub (bodyOf Tryz.f17) [1,1,1,0,1,0,0]) al) H) (blockL 0 (R18_Store_List_K1 H0))) [(0,x0),(3,x3),(4,x4)] H
def R18_Store_List_J3 (x0 x3 x4:AV) (H0 H:Hp):Res:=CXgR 17 47 (sub (bodyOf Tryz.f17) [1,1,1,0,1,0,0,1]) (seqL (fun k al H=>LPgR 17 47 (sub (bodyOf Tryz.f17) [1,1,1,0,1,0,0]) k (trimL (cfg.keep 17) (sub (bodyOf Tryz.f17) [1,1,1,0,1,0,0]) al) H) (blockL 0 (R18_Store_List_K1 H0))) [(0,x0),(3,x3),(4,x4)] H
def R18_Store_List_L1 (x0 x3 x4:AV) (H0 H:Hp):Res:=LPgR 17 47 (sub (bodyOf Tryz.f17) [1,1,1,0,1,0,0]) (blockL 0 (R18_Store_List_K1 H0)) [(0,x0),(3,x3),(4,x4)] H
def R18_Store_List_J1 (x0 x3:AV) (H0 H:Hp):Res:=CXgR 17 47 (sub (bodyOf Tryz.f17) [1,1,1]) (retL cfg 47 17 Tryz.f17 H0) [(0,x0),(3,x3)] H
def F_R18_Store_List (p0:AV) (H:Hp):Res:=
 bnd (ebin (.pointer 71) .eql p0 .nilp) fun t6=>
 cnd t6
  (some (.nils,H))
  (R18_Store_List_J1 p0 .nils H H)
theorem R18_Store_List_J2_eq (x3:AV) (H0 H:Hp):R18_Store_List_J2 x3 H0 H =
    some (x3,H):=(CXM_eq [4,6,7,8] _ _ _ _).trans (by kernel_rfl)
theorem R18_Store_List_J4_eq (x0 x3 x4:AV) (H0 H:Hp):R18_Store_List_J4 x0 x3 x4 H0 H =
    bnd (ibin .add x4 (.int .i64 1)) fun t16=>
    R18_Store_List_L1 x0 x3 t16 H0 H:=(CXM_eq [4,6,7,8] _ _ _ _).trans (by kernel_rfl)
theorem R18_Store_List_J3_eq (x0 x3 x4:AV) (H0 H:Hp):R18_Store_List_J3 x0 x3 x4 H0 H =
    bnd (anil x0) fun t19=>
    bnd (afield 1 t19) fun t20=>
    bnd (aload false 1 t20 H) fun t21=>
    bnd (aindexS 3 t21 x4) fun t23=>
    bnd (afield 0 t23) fun t24=>
    bnd (aload false 1 t24 H) fun t25=>
    bnd (anil x0) fun t27=>
    bnd (afield 1 t27) fun t28=>
    bnd (aload false 1 t28 H) fun t29=>
    bnd (aindexS 3 t29 x4) fun t31=>
    bnd (afield 1 t31) fun t32=>
    bnd (aload false 1 t32 H) fun t33=>
    bnd (alenD .string t33) fun t34=>
    bnd (anil x0) fun t36=>
    bnd (afield 1 t36) fun t37=>
    bnd (aload false 1 t37 H) fun t38=>
    bnd (aindexS 3 t38 x4) fun t40=>
    bnd (afield 2 t40) fun t41=>
    bnd (aload false 1 t41 H) fun t42=>
    bnd ((afill [(0,1,t25),(1,1,t34),(2,1,t42)] [(.str []),(.int .i64 0),(.int .i64 0)]).map .agg) fun t43=>
    bnd ((setElems 3 [(0,t43)] [(.agg [(.str []),(.int .i64 0),(.int .i64 0)])]).map (.vs 3 .clip)) fun t44=>
    bnd (aappE 3 32 x3 t44 H) fun r45=>
    R18_Store_List_J4 x0 r45.1 x4 H0 r45.2:=(CXM_eq [4,6,7,8] _ _ _ _).trans (by kernel_rfl)
theorem R18_Store_List_L1_eq (x0 x3 x4:AV) (H0 H:Hp):R18_Store_List_L1 x0 x3 x4 H0 H =
    bnd (anil x0) fun t10=>
    bnd (afield 1 t10) fun t11=>
    bnd (aload false 1 t11 H) fun t12=>
    bnd (alenD (.slice 90) t12) fun t13=>
    bnd (ibin .lss x4 t13) fun t14=>
    cnd t14
     (R18_Store_List_J3 x0 x3 x4 H0 H)
     (R18_Store_List_J2 x3 H0 H):=(LPL_eqm (C:=cfg) [4,6,7,8] (tame_block 0 (R18_Store_List_K1_tame H0)) _ _).trans (by kernel_rfl)
theorem R18_Store_List_J1_eq (x0 x3:AV) (H0 H:Hp):R18_Store_List_J1 x0 x3 H0 H =
    R18_Store_List_L1 x0 x3 (.int .i64 0) H0 H:=(CXM_eq [4,6,7,8] _ _ _ _).trans (by kernel_rfl)
theorem F_R18_Store_List_eq (p0:AV) (H:Hp):C_R18_Store_List [p0] H=F_R18_Store_List p0 H:=(callw_cxm (C:=cfg) (fn:=Tryz.f17) (c:=bodyOf Tryz.f17) (n:=47) [4,6,7,8] Tryz.func17 (by kernel_rfl) (by kernel_rfl) [p0] (by kernel_rfl) H).trans (by kernel_rfl)

def R19_Left_J2 (x5:AV) (H0 H:Hp):Res:=CXgR 20 40 (sub (bodyOf Tryz.f20) [1,1,1,1,1]) (retL cfg 40 20 Tryz.f20 H0) [(5,x5)] H
def R19_Left_K1 (H0:Hp):KL:=seqL (fun k al H=>CXgR 20 40 (sub (bodyOf Tryz.f20) [1,1,1,1,1]) k (trimL (cfg.keep 20) (sub (bodyOf Tryz.f20) [1,1,1,1,1]) al) H) (retL cfg 40 20 Tryz.f20 H0)
theorem R19_Left_K1_tame (H0:Hp):Tame 40 (R19_Left_K1 H0):=tame_seq (C:=cfg) (kp:=cfg.keep 20) (sub (bodyOf Tryz.f20) [1,1,1,1,1]) (tame_ret 20 Tryz.f20 H0)
def R19_Left_J4 (x1 x5 x6 x7:AV) (H0 H:Hp):Res:=CXgR 20 40 (sub (bodyOf Tryz.f20) [1,1,1,1,0,1,0,0,1,1]) (seqL (fun k al H=>LPgR 20 40 (sub (bodyOf Tryz.f20) [1,1,1,1,0,1,0,0]) k (trimL (cfg.keep 20) (sub (bodyOf Tryz.f20) [1,1,1,1,0,1,0,0]) al) H) (blockL 0 (R19_Left_K1 H0))) [(1,x1),(5,x5),(6,x6),(7,x7)] H
def R19_Left_J3 (x1 x5 x6 x7:AV) (H0 H:Hp):Res:=CXgR 20 40 (sub (bodyOf Tryz.f20) [1,1,1,1,0,1,0,0,1]) (seqL (fun k al H=>LPgR 20 40 (sub (bodyOf Tryz.f20) [1,1,1,1,0,1,0,0]) k (trimL (cfg.keep 20) (sub (bodyOf Tryz.f20) [1,1,1,1,0,1,0,0]) al) H) (blockL 0 (R19_Left_K1 H0))) [(1,x1),(5,x5),(6,x6),(7,x7)] H
def R19_Left_L1 (x1 x5 x6 x7:AV) (H0 H:Hp):Res:=LPgR 20 40 (sub (bodyOf Tryz.f20) [1,1,1,1,0,1,0,0]) (blockL 0 (R19_Left_K1 H0)) [(1,x1),(5,x5),(6,x6),(7,x7)] H
def R19_Left_J1 (x0 x1 x5:AV) (H0 H:Hp):Res:=CXgR 20 40 (sub (bodyOf Tryz.f20) [1,1,1]) (retL cfg 40 20 Tryz.f20 H0) [(0,x0),(1,x1),(5,x5)] H
def F_R19_Left (p0 p1:AV) (H:Hp):Res:=
 bnd (ebin (.pointer 71) .eql p0 .nilp) fun t9=>
 bnd (gdv t9 false (.tuple []) (some p1)) fun t11=>
 bnd (gdv t9 false ((.tuple []),H) (flatC C_R19_ownerOk [t11] H)) fun r12=>
 bnd (gdv t9 false (.tuple []) (aun .not r12.1)) fun t13=>
 bnd (apick t9 (.bool true) t13) fun t14=>
 cnd t14
  (some (.nils,r12.2))
  (R19_Left_J1 p0 p1 .nils H r12.2)
theorem R19_Left_J2_eq (x5:AV) (H0 H:Hp):R19_Left_J2 x5 H0 H =
    some (x5,H):=(CXM_eq [4,7,8,10] _ _ _ _).trans (by kernel_rfl)
theorem R19_Left_J4_eq (x1 x5 x6 x7:AV) (H0 H:Hp):R19_Left_J4 x1 x5 x6 x7 H0 H =
    bnd (ibin .add x7 (.int .i64 1)) fun t23=>
    R19_Left_L1 x1 x5 x6 t23 H0 H:=(CXM_eq [4,7,8,10] _ _ _ _).trans (by kernel_rfl)
theorem R19_Left_J3_eq (x1 x5 x6 x7:AV) (H0 H:Hp):R19_Left_J3 x1 x5 x6 x7 H0 H =
    bnd (aindexS 3 x6 x7) fun t26=>
    bnd (afield 0 t26) fun t27=>
    bnd (aload false 1 t27 H) fun t28=>
    bnd (flatC C_R19_temporary [t28,x1] H) fun r30=>
    cnd r30.1
     (bnd (aindexS 3 x6 x7) fun t34=>
     bnd (afield 0 t34) fun t35=>
     bnd (aload false 1 t35 r30.2) fun t36=>
     bnd ((setElems 1 [(0,t36)] [(.str [])]).map (.vs 1 .clip)) fun t37=>
     bnd (aappE 1 16 x5 t37 r30.2) fun r38=>
     R19_Left_J4 x1 r38.1 x6 x7 H0 r38.2)
     (R19_Left_J4 x1 x5 x6 x7 H0 r30.2):=(CXM_eq [4,7,8,10] _ _ _ _).trans (by kernel_rfl)
theorem R19_Left_L1_eq (x1 x5 x6 x7:AV) (H0 H:Hp):R19_Left_L1 x1 x5 x6 x7 H0 H =
    bnd (alenD (.slice 57) x6) fun t20=>
    bnd (ibin .lss x7 t20) fun t21=>
    cnd t21
     (R19_Left_J3 x1 x5 x6 x7 H0 H)
     (R19_Left_J2 x5 H0 H):=(LPL_eqm (C:=cfg) [4,7,8,10] (tame_block 0 (R19_Left_K1_tame H0)) _ _).trans (by kernel_rfl)
theorem R19_Left_J1_eq (x0 x1 x5:AV) (H0 H:Hp):R19_Left_J1 x0 x1 x5 H0 H =
    bnd (roC C_R18_Store_List [x0] H) fun r17=>
    R19_Left_L1 x1 x5 r17.1 (.int .i64 0) H0 r17.2:=(CXM_eq [4,7,8,10] _ _ _ _).trans (by kernel_rfl)
theorem F_R19_Left_eq (p0 p1:AV) (H:Hp):C_R19_Left [p0,p1] H=F_R19_Left p0 p1 H:=(callw_cxm (C:=cfg) (fn:=Tryz.f20) (c:=bodyOf Tryz.f20) (n:=40) [4,7,8,10] Tryz.func20 (by kernel_rfl) (by kernel_rfl) [p0,p1] (by kernel_rfl) H).trans (by kernel_rfl)

def R18_Store_Create_J5 (x0 x1:AV) (H0 H:Hp):Res:=CXgR 22 26 (sub (bodyOf Tryz.f22) [1,1,1,1,1,1]) (retL cfg 26 22 Tryz.f22 H0) [(0,x0),(1,x1)] H
def R18_Store_Create_J4 (x0 x1:AV) (H0 H:Hp):Res:=CXgR 22 26 (sub (bodyOf Tryz.f22) [1,1,1,1,1]) (retL cfg 26 22 Tryz.f22 H0) [(0,x0),(1,x1)] H
def R18_Store_Create_J3 (x0 x1:AV) (H0 H:Hp):Res:=CXgR 22 26 (sub (bodyOf Tryz.f22) [1,1,1,1]) (retL cfg 26 22 Tryz.f22 H0) [(0,x0),(1,x1)] H
def R18_Store_Create_J2 (x0 x1:AV) (H0 H:Hp):Res:=CXgR 22 26 (sub (bodyOf Tryz.f22) [1,1,1]) (retL cfg 26 22 Tryz.f22 H0) [(0,x0),(1,x1)] H
def R18_Store_Create_J1 (x0 x1:AV) (H0 H:Hp):Res:=CXgR 22 26 (sub (bodyOf Tryz.f22) [1,1]) (retL cfg 26 22 Tryz.f22 H0) [(0,x0),(1,x1)] H
def F_R18_Store_Create (p0 p1:AV) (H:Hp):Res:=
 bnd (ebin (.pointer 71) .eql p0 .nilp) fun t6=>
 cnd t6
  (some ((.int .i64 5),H))
  (R18_Store_Create_J1 p0 p1 H H)
theorem R18_Store_Create_J5_eq (x0 x1:AV) (H0 H:Hp):R18_Store_Create_J5 x0 x1 H0 H =
    bnd ((afill [(0,1,x1)] [(.str []),(.str []),(.int .i64 0)]).map .agg) fun t24=>
    bnd (C_R18_Store_put [x0,t24] H) fun r25=>
    some ((.int .i64 0),r25.2):=(CXM_eq [3,5,7,9,11] _ _ _ _).trans (by kernel_rfl)
theorem R18_Store_Create_J4_eq (x0 x1:AV) (H0 H:Hp):R18_Store_Create_J4 x0 x1 H0 H =
    bnd (anil x0) fun t17=>
    bnd (afield 1 t17) fun t18=>
    bnd (aload false 1 t18 H) fun t19=>
    bnd (alenD (.slice 90) t19) fun t20=>
    bnd (ibin .geq t20 (.int .i64 64)) fun t21=>
    cnd t21
     (some ((.int .i64 3),H))
     (R18_Store_Create_J5 x0 x1 H0 H):=(CXM_eq [3,5,7,9,11] _ _ _ _).trans (by kernel_rfl)
theorem R18_Store_Create_J3_eq (x0 x1:AV) (H0 H:Hp):R18_Store_Create_J3 x0 x1 H0 H =
    bnd (C_R18_Store_place [x0,x1] H) fun r14=>
    bnd (ibin .geq r14.1 (.int .i64 0)) fun t15=>
    cnd t15
     (some ((.int .i64 6),r14.2))
     (R18_Store_Create_J4 x0 x1 H0 r14.2):=(CXM_eq [3,5,7,9,11] _ _ _ _).trans (by kernel_rfl)
theorem R18_Store_Create_J2_eq (x0 x1:AV) (H0 H:Hp):R18_Store_Create_J2 x0 x1 H0 H =
    bnd (flatC C_R18_FileName [x1] H) fun r10=>
    bnd (aun .not r10.1) fun t11=>
    cnd t11
     (some ((.int .i64 4),r10.2))
     (R18_Store_Create_J3 x0 x1 H0 r10.2):=(CXM_eq [3,5,7,9,11] _ _ _ _).trans (by kernel_rfl)
theorem R18_Store_Create_J1_eq (x0 x1:AV) (H0 H:Hp):R18_Store_Create_J1 x0 x1 H0 H =
    bnd (C_R18_Store_fails [x0] H) fun r8=>
    cnd r8.1
     (some ((.int .i64 19),r8.2))
     (R18_Store_Create_J2 x0 x1 H0 r8.2):=(CXM_eq [3,5,7,9,11] _ _ _ _).trans (by kernel_rfl)
theorem F_R18_Store_Create_eq (p0 p1:AV) (H:Hp):C_R18_Store_Create [p0,p1] H=F_R18_Store_Create p0 p1 H:=(callw_cxm (C:=cfg) (fn:=Tryz.f22) (c:=bodyOf Tryz.f22) (n:=26) [3,5,7,9,11] Tryz.func22 (by kernel_rfl) (by kernel_rfl) [p0,p1] (by kernel_rfl) H).trans (by kernel_rfl)

def R18_Store_Remove_J1 (x0 x5:AV) (H0 H:Hp):Res:=CXgR 23 19 (sub (bodyOf Tryz.f23) [1,1,1]) (retL cfg 19 23 Tryz.f23 H0) [(0,x0),(5,x5)] H
def F_R18_Store_Remove (p0 p1:AV) (H:Hp):Res:=
 bnd (C_R18_Store_begin [p0,p1] H) fun r10=>
 bnd (aext r10.1 0) fun t11=>
 bnd (aext r10.1 1) fun t12=>
 bnd (ibin .neq t12 (.int .i64 0)) fun t14=>
 cnd t14
  (some (t12,r10.2))
  (R18_Store_Remove_J1 p0 t11 H r10.2)
theorem R18_Store_Remove_J1_eq (x0 x5:AV) (H0 H:Hp):R18_Store_Remove_J1 x0 x5 H0 H =
    bnd (C_R18_Store_drop [x0,x5] H) fun r18=>
    some ((.int .i64 0),r18.2):=(CXM_eq [4] _ _ _ _).trans (by kernel_rfl)
theorem F_R18_Store_Remove_eq (p0 p1:AV) (H:Hp):C_R18_Store_Remove [p0,p1] H=F_R18_Store_Remove p0 p1 H:=(callw_cxm (C:=cfg) (fn:=Tryz.f23) (c:=bodyOf Tryz.f23) (n:=19) [4] Tryz.func23 (by kernel_rfl) (by kernel_rfl) [p0,p1] (by kernel_rfl) H).trans (by kernel_rfl)

def F_R19_ownerOk (p0:AV) (H:Hp):Res:=
 bnd (flatC C_R05_IsName [p0] H) fun r4=>
 bnd (gdv r4.1 true (.tuple []) (some p0)) fun t6=>
 bnd (gdv r4.1 true (.tuple []) (alenD .string t6)) fun t7=>
 bnd (gdv r4.1 true (.tuple []) (ibin .leq t7 (.int .i64 16))) fun t8=>
 bnd (apick r4.1 t8 (.bool false)) fun t9=>
 some (t9,r4.2)
theorem F_R19_ownerOk_eq (p0:AV) (H:Hp):C_R19_ownerOk [p0] H=F_R19_ownerOk p0 H:=(callw_cxm (C:=cfg) (fn:=Tryz.f31) (c:=bodyOf Tryz.f31) (n:=10) [] Tryz.func31 (by kernel_rfl) (by kernel_rfl) [p0] (by kernel_rfl) H).trans (by kernel_rfl)

def R19_Temps_New_J3 (x0 x4:AV) (H0 H:Hp):Res:=CXgR 38 52 (sub (bodyOf Tryz.f38) [1,1,1,1,1]) (retL cfg 52 38 Tryz.f38 H0) [(0,x0),(4,x4)] H
def R19_Temps_New_J2 (x0:AV) (H0 H:Hp):Res:=CXgR 38 52 (sub (bodyOf Tryz.f38) [1,1,1]) (retL cfg 52 38 Tryz.f38 H0) [(0,x0)] H
def R19_Temps_New_J1 (x0:AV) (H0 H:Hp):Res:=CXgR 38 52 (sub (bodyOf Tryz.f38) [1,1]) (retL cfg 52 38 Tryz.f38 H0) [(0,x0)] H
def F_R19_Temps_New (p0:AV) (H:Hp):Res:=
 bnd (ebin (.pointer 79) .eql p0 .nilp) fun t7=>
 cnd t7
  (some ((.tuple [(.str []),(.int .i64 5)]),H))
  (R19_Temps_New_J1 p0 H H)
theorem R19_Temps_New_J3_eq (x0 x4:AV) (H0 H:Hp):R19_Temps_New_J3 x0 x4 H0 H =
    bnd (anil x0) fun t35=>
    bnd (afield 3 t35) fun t36=>
    bnd (aload false 1 t36 H) fun t37=>
    bnd (ibin .add t37 (.int .i64 1)) fun t38=>
    bnd (anil x0) fun t39=>
    bnd (afield 3 t39) fun t40=>
    bnd (astoreU 1 t40 t38 H) fun r_18=>
    bnd (anil x0) fun t43=>
    bnd (afield 4 t43) fun t44=>
    bnd (aload false 1 t44 r_18.2) fun t45=>
    bnd ((setElems 1 [(0,x4)] [(.str [])]).map (.vs 1 .clip)) fun t47=>
    bnd (aappE 1 16 t45 t47 r_18.2) fun r48=>
    bnd (anil x0) fun t49=>
    bnd (afield 4 t49) fun t50=>
    bnd (astoreU 1 t50 r48.1 r48.2) fun r_26=>
    some ((.tuple [x4,(.int .i64 0)]),r_26.2):=(CXM_eq [3,5,9] _ _ _ _).trans (by kernel_rfl)
theorem R19_Temps_New_J2_eq (x0:AV) (H0 H:Hp):R19_Temps_New_J2 x0 H0 H =
    bnd (anil x0) fun t13=>
    bnd (afield 1 t13) fun t14=>
    bnd (aload false 1 t14 H) fun t15=>
    bnd (sbin .add (.str [46,116,109,112,46]) t15) fun t16=>
    bnd (sbin .add t16 (.str [46])) fun t17=>
    bnd (anil x0) fun t19=>
    bnd (afield 3 t19) fun t20=>
    bnd (aload false 1 t20 H) fun t21=>
    bnd (ibin .add t21 (.int .i64 1)) fun t22=>
    bnd (flatC C_R01_Format [t22] H) fun r23=>
    bnd (sbin .add t17 r23.1) fun t24=>
    bnd (anil x0) fun t26=>
    bnd (afield 0 t26) fun t27=>
    bnd (aload false 1 t27 r23.2) fun t28=>
    bnd (C_R18_Store_Create [t28,t24] r23.2) fun r30=>
    bnd (ibin .neq r30.1 (.int .i64 0)) fun t32=>
    cnd t32
     (some ((.tuple [(.str []),r30.1]),r30.2))
     (R19_Temps_New_J3 x0 t24 H0 r30.2):=(CXM_eq [3,5,9] _ _ _ _).trans (by kernel_rfl)
theorem R19_Temps_New_J1_eq (x0:AV) (H0 H:Hp):R19_Temps_New_J1 x0 H0 H =
    bnd (anil x0) fun t9=>
    bnd (afield 6 t9) fun t10=>
    bnd (aload false 1 t10 H) fun t11=>
    cnd t11
     (some ((.tuple [(.str []),(.int .i64 8)]),H))
     (R19_Temps_New_J2 x0 H0 H):=(CXM_eq [3,5,9] _ _ _ _).trans (by kernel_rfl)
theorem F_R19_Temps_New_eq (p0:AV) (H:Hp):C_R19_Temps_New [p0] H=F_R19_Temps_New p0 H:=(callw_cxm (C:=cfg) (fn:=Tryz.f38) (c:=bodyOf Tryz.f38) (n:=52) [3,5,9] Tryz.func38 (by kernel_rfl) (by kernel_rfl) [p0] (by kernel_rfl) H).trans (by kernel_rfl)

def R19_Temps_Write_J4 (x0 x1 x8:AV) (H0 H:Hp):Res:=CXgR 39 47 (sub (bodyOf Tryz.f39) [1,1,1,1,1,1]) (retL cfg 47 39 Tryz.f39 H0) [(0,x0),(1,x1),(8,x8)] H
def R19_Temps_Write_J3 (x0 x1 x8:AV) (H0 H:Hp):Res:=CXgR 39 47 (sub (bodyOf Tryz.f39) [1,1,1,1,1]) (retL cfg 47 39 Tryz.f39 H0) [(0,x0),(1,x1),(8,x8)] H
def R19_Temps_Write_J2 (x0 x1 x2:AV) (H0 H:Hp):Res:=CXgR 39 47 (sub (bodyOf Tryz.f39) [1,1,1]) (retL cfg 47 39 Tryz.f39 H0) [(0,x0),(1,x1),(2,x2)] H
def R19_Temps_Write_J1 (x0 x1 x2:AV) (H0 H:Hp):Res:=CXgR 39 47 (sub (bodyOf Tryz.f39) [1,1]) (retL cfg 47 39 Tryz.f39 H0) [(0,x0),(1,x1),(2,x2)] H
def F_R19_Temps_Write (p0 p1 p2:AV) (H:Hp):Res:=
 bnd (C_R19_Temps_own [p0,p1] H) fun r12=>
 bnd (ibin .neq r12.1 (.int .i64 0)) fun t14=>
 cnd t14
  (some (r12.1,r12.2))
  (R19_Temps_Write_J1 p0 p1 p2 H r12.2)
theorem R19_Temps_Write_J4_eq (x0 x1 x8:AV) (H0 H:Hp):R19_Temps_Write_J4 x0 x1 x8 H0 H =
    bnd (anil x0) fun t41=>
    bnd (afield 0 t41) fun t42=>
    bnd (aload false 1 t42 H) fun t43=>
    bnd (C_R18_Store_Append [t43,x1,x8] H) fun r46=>
    some (r46.1,r46.2):=(CXM_eq [4,6,9,11] _ _ _ _).trans (by kernel_rfl)
theorem R19_Temps_Write_J3_eq (x0 x1 x8:AV) (H0 H:Hp):R19_Temps_Write_J3 x0 x1 x8 H0 H =
    bnd (alenD .string x8) fun t31=>
    bnd (anil x0) fun t33=>
    bnd (afield 2 t33) fun t34=>
    bnd (aload false 1 t34 H) fun t35=>
    bnd (roC C_R19_Temps_Used [x0] H) fun r37=>
    bnd (ibin .sub t35 r37.1) fun t38=>
    bnd (ibin .gtr t31 t38) fun t39=>
    cnd t39
     (some ((.int .i64 11),r37.2))
     (R19_Temps_Write_J4 x0 x1 x8 H0 r37.2):=(CXM_eq [4,6,9,11] _ _ _ _).trans (by kernel_rfl)
theorem R19_Temps_Write_J2_eq (x0 x1 x2:AV) (H0 H:Hp):R19_Temps_Write_J2 x0 x1 x2 H0 H =
    bnd (flatC C_R17_Encode [x2] H) fun r24=>
    bnd (aext r24.1 0) fun t25=>
    bnd (aext r24.1 1) fun t26=>
    bnd (ibin .neq t26 (.int .i64 0)) fun t28=>
    cnd t28
     (some (t26,r24.2))
     (R19_Temps_Write_J3 x0 x1 t25 H0 r24.2):=(CXM_eq [4,6,9,11] _ _ _ _).trans (by kernel_rfl)
theorem R19_Temps_Write_J1_eq (x0 x1 x2:AV) (H0 H:Hp):R19_Temps_Write_J1 x0 x1 x2 H0 H =
    bnd (anil x0) fun t17=>
    bnd (afield 5 t17) fun t18=>
    bnd (aload false 1 t18 H) fun t19=>
    bnd (flatC C_R19_has [t19,x1] H) fun r21=>
    cnd r21.1
     (some ((.int .i64 8),r21.2))
     (R19_Temps_Write_J2 x0 x1 x2 H0 r21.2):=(CXM_eq [4,6,9,11] _ _ _ _).trans (by kernel_rfl)
theorem F_R19_Temps_Write_eq (p0 p1 p2:AV) (H:Hp):C_R19_Temps_Write [p0,p1,p2] H=F_R19_Temps_Write p0 p1 p2 H:=(callw_cxm (C:=cfg) (fn:=Tryz.f39) (c:=bodyOf Tryz.f39) (n:=47) [4,6,9,11] Tryz.func39 (by kernel_rfl) (by kernel_rfl) [p0,p1,p2] (by kernel_rfl) H).trans (by kernel_rfl)

def R19_Temps_Seal_J2 (x0 x1:AV) (H0 H:Hp):Res:=CXgR 40 37 (sub (bodyOf Tryz.f40) [1,1,1]) (retL cfg 37 40 Tryz.f40 H0) [(0,x0),(1,x1)] H
def R19_Temps_Seal_J1 (x0 x1:AV) (H0 H:Hp):Res:=CXgR 40 37 (sub (bodyOf Tryz.f40) [1,1]) (retL cfg 37 40 Tryz.f40 H0) [(0,x0),(1,x1)] H
def F_R19_Temps_Seal (p0 p1:AV) (H:Hp):Res:=
 bnd (C_R19_Temps_own [p0,p1] H) fun r10=>
 bnd (ibin .neq r10.1 (.int .i64 0)) fun t12=>
 cnd t12
  (some (r10.1,r10.2))
  (R19_Temps_Seal_J1 p0 p1 H r10.2)
theorem R19_Temps_Seal_J2_eq (x0 x1:AV) (H0 H:Hp):R19_Temps_Seal_J2 x0 x1 H0 H =
    bnd (anil x0) fun t24=>
    bnd (afield 5 t24) fun t25=>
    bnd (aload false 1 t25 H) fun t26=>
    bnd (C_R19_without [t26,x1] H) fun r28=>
    bnd ((setElems 1 [(0,x1)] [(.str [])]).map (.vs 1 .clip)) fun t31=>
    bnd (aappE 1 16 r28.1 t31 r28.2) fun r32=>
    bnd (anil x0) fun t35=>
    bnd (afield 5 t35) fun t36=>
    bnd (astoreU 1 t36 r32.1 r32.2) fun r_9=>
    some ((.int .i64 0),r_9.2):=(CXM_eq [4,7] _ _ _ _).trans (by kernel_rfl)
theorem R19_Temps_Seal_J1_eq (x0 x1:AV) (H0 H:Hp):R19_Temps_Seal_J1 x0 x1 H0 H =
    bnd (anil x0) fun t15=>
    bnd (afield 0 t15) fun t16=>
    bnd (aload false 1 t16 H) fun t17=>
    bnd (C_R18_Store_Sync [t17,x1] H) fun r19=>
    bnd (ibin .neq r19.1 (.int .i64 0)) fun t21=>
    cnd t21
     (some (r19.1,r19.2))
     (R19_Temps_Seal_J2 x0 x1 H0 r19.2):=(CXM_eq [4,7] _ _ _ _).trans (by kernel_rfl)
theorem F_R19_Temps_Seal_eq (p0 p1:AV) (H:Hp):C_R19_Temps_Seal [p0,p1] H=F_R19_Temps_Seal p0 p1 H:=(callw_cxm (C:=cfg) (fn:=Tryz.f40) (c:=bodyOf Tryz.f40) (n:=37) [4,7] Tryz.func40 (by kernel_rfl) (by kernel_rfl) [p0,p1] (by kernel_rfl) H).trans (by kernel_rfl)

def R19_Temps_Read_J4 (x2 x12 x13:AV) (H0 H:Hp):Res:=CXgR 41 48 (sub (bodyOf Tryz.f41) [1,1,1,1,1,1,1]) (retL cfg 48 41 Tryz.f41 H0) [(2,x2),(12,x12),(13,x13)] H
def R19_Temps_Read_J3 (x2 x10:AV) (H0 H:Hp):Res:=CXgR 41 48 (sub (bodyOf Tryz.f41) [1,1,1,1,1]) (retL cfg 48 41 Tryz.f41 H0) [(2,x2),(10,x10)] H
def R19_Temps_Read_J2 (x2 x10:AV) (H0 H:Hp):Res:=CXgR 41 48 (sub (bodyOf Tryz.f41) [1,1,1,1]) (retL cfg 48 41 Tryz.f41 H0) [(2,x2),(10,x10)] H
def R19_Temps_Read_J1 (x0 x1 x2:AV) (H0 H:Hp):Res:=CXgR 41 48 (sub (bodyOf Tryz.f41) [1,1]) (retL cfg 48 41 Tryz.f41 H0) [(0,x0),(1,x1),(2,x2)] H
def F_R19_Temps_Read (p0 p1 p2:AV) (H:Hp):Res:=
 bnd (C_R19_Temps_own [p0,p1] H) fun r16=>
 bnd (ibin .neq r16.1 (.int .i64 0)) fun t18=>
 cnd t18
  (some ((.tuple [(.str []),(.int .i64 0),r16.1]),r16.2))
  (R19_Temps_Read_J1 p0 p1 p2 H r16.2)
theorem R19_Temps_Read_J4_eq (x2 x12 x13:AV) (H0 H:Hp):R19_Temps_Read_J4 x2 x12 x13 H0 H =
    bnd (ibin .add x2 x13) fun t47=>
    some ((.tuple [x12,t47,(.int .i64 0)]),H):=(CXM_eq [4,7,9,12] _ _ _ _).trans (by kernel_rfl)
theorem R19_Temps_Read_J3_eq (x2 x10:AV) (H0 H:Hp):R19_Temps_Read_J3 x2 x10 H0 H =
    bnd (flatC C_R17_Next [x10,(.int .i64 0)] H) fun r37=>
    bnd (aext r37.1 0) fun t38=>
    bnd (aext r37.1 1) fun t39=>
    bnd (aext r37.1 2) fun t40=>
    bnd (ibin .neq t40 (.int .i64 0)) fun t42=>
    cnd t42
     (some ((.tuple [(.str []),(.int .i64 0),t40]),r37.2))
     (R19_Temps_Read_J4 x2 t38 t39 H0 r37.2):=(CXM_eq [4,7,9,12] _ _ _ _).trans (by kernel_rfl)
theorem R19_Temps_Read_J2_eq (x2 x10:AV) (H0 H:Hp):R19_Temps_Read_J2 x2 x10 H0 H =
    bnd (sbin .eql x10 (.str [])) fun t34=>
    cnd t34
     (some ((.tuple [(.str []),(.int .i64 0),(.int .i64 5)]),H))
     (R19_Temps_Read_J3 x2 x10 H0 H):=(CXM_eq [4,7,9,12] _ _ _ _).trans (by kernel_rfl)
theorem R19_Temps_Read_J1_eq (x0 x1 x2:AV) (H0 H:Hp):R19_Temps_Read_J1 x0 x1 x2 H0 H =
    bnd (anil x0) fun t22=>
    bnd (afield 0 t22) fun t23=>
    bnd (aload false 1 t23 H) fun t24=>
    bnd (C_R18_Store_Read [t24,x1,x2,(.int .i64 4102)] H) fun r27=>
    bnd (aext r27.1 0) fun t28=>
    bnd (aext r27.1 1) fun t29=>
    bnd (ibin .neq t29 (.int .i64 0)) fun t31=>
    cnd t31
     (some ((.tuple [(.str []),(.int .i64 0),t29]),r27.2))
     (R19_Temps_Read_J2 x2 t28 H0 r27.2):=(CXM_eq [4,7,9,12] _ _ _ _).trans (by kernel_rfl)
theorem F_R19_Temps_Read_eq (p0 p1 p2:AV) (H:Hp):C_R19_Temps_Read [p0,p1,p2] H=F_R19_Temps_Read p0 p1 p2 H:=(callw_cxm (C:=cfg) (fn:=Tryz.f41) (c:=bodyOf Tryz.f41) (n:=48) [4,7,9,12] Tryz.func41 (by kernel_rfl) (by kernel_rfl) [p0,p1,p2] (by kernel_rfl) H).trans (by kernel_rfl)

def R19_Temps_Remove_J2 (x0 x1:AV) (H0 H:Hp):Res:=CXgR 42 31 (sub (bodyOf Tryz.f42) [1,1,1]) (retL cfg 31 42 Tryz.f42 H0) [(0,x0),(1,x1)] H
def R19_Temps_Remove_J1 (x0 x1:AV) (H0 H:Hp):Res:=CXgR 42 31 (sub (bodyOf Tryz.f42) [1,1]) (retL cfg 31 42 Tryz.f42 H0) [(0,x0),(1,x1)] H
def F_R19_Temps_Remove (p0 p1:AV) (H:Hp):Res:=
 bnd (C_R19_Temps_own [p0,p1] H) fun r9=>
 bnd (ibin .neq r9.1 (.int .i64 0)) fun t11=>
 cnd t11
  (some (r9.1,r9.2))
  (R19_Temps_Remove_J1 p0 p1 H r9.2)
theorem R19_Temps_Remove_J2_eq (x0 x1:AV) (H0 H:Hp):R19_Temps_Remove_J2 x0 x1 H0 H =
    bnd (anil x0) fun t24=>
    bnd (afield 4 t24) fun t25=>
    bnd (aload false 1 t25 H) fun t26=>
    bnd (C_R19_without [t26,x1] H) fun r28=>
    bnd (anil x0) fun t29=>
    bnd (afield 4 t29) fun t30=>
    bnd (astoreU 1 t30 r28.1 r28.2) fun r_7=>
    some ((.int .i64 0),r_7.2):=(CXM_eq [4,7] _ _ _ _).trans (by kernel_rfl)
theorem R19_Temps_Remove_J1_eq (x0 x1:AV) (H0 H:Hp):R19_Temps_Remove_J1 x0 x1 H0 H =
    bnd (anil x0) fun t14=>
    bnd (afield 0 t14) fun t15=>
    bnd (aload false 1 t15 H) fun t16=>
    bnd (C_R18_Store_Remove [t16,x1] H) fun r18=>
    bnd (ibin .neq r18.1 (.int .i64 0)) fun t20=>
    cnd t20
     (some (r18.1,r18.2))
     (R19_Temps_Remove_J2 x0 x1 H0 r18.2):=(CXM_eq [4,7] _ _ _ _).trans (by kernel_rfl)
theorem F_R19_Temps_Remove_eq (p0 p1:AV) (H:Hp):C_R19_Temps_Remove [p0,p1] H=F_R19_Temps_Remove p0 p1 H:=(callw_cxm (C:=cfg) (fn:=Tryz.f42) (c:=bodyOf Tryz.f42) (n:=31) [4,7] Tryz.func42 (by kernel_rfl) (by kernel_rfl) [p0,p1] (by kernel_rfl) H).trans (by kernel_rfl)

def R19_Temps_Close_J3 (x0:AV) (H0 H:Hp):Res:=CXgR 43 51 (sub (bodyOf Tryz.f43) [1,1,1,1]) (retL cfg 51 43 Tryz.f43 H0) [(0,x0)] H
def R19_Temps_Close_K1 (H0:Hp):KL:=seqL (fun k al H=>CXgR 43 51 (sub (bodyOf Tryz.f43) [1,1,1,1]) k (trimL (cfg.keep 43) (sub (bodyOf Tryz.f43) [1,1,1,1]) al) H) (retL cfg 51 43 Tryz.f43 H0)
theorem R19_Temps_Close_K1_tame (H0:Hp):Tame 51 (R19_Temps_Close_K1 H0):=tame_seq (C:=cfg) (kp:=cfg.keep 43) (sub (bodyOf Tryz.f43) [1,1,1,1]) (tame_ret 43 Tryz.f43 H0)
def R19_Temps_Close_J5 (x0:AV) (H0 H:Hp):Res:=CXgR 43 51 (sub (bodyOf Tryz.f43) [1,1,1,0,0,0,1,0,1]) (blockL 1 (seqL (fun k al H=>LPgR 43 51 (sub (bodyOf Tryz.f43) [1,1,1,0,0,0]) k (trimL (cfg.keep 43) (sub (bodyOf Tryz.f43) [1,1,1,0,0,0]) al) H) (blockL 0 (R19_Temps_Close_K1 H0)))) [(0,x0)] H
def R19_Temps_Close_J4 (x0:AV) (H0 H:Hp):Res:=CXgR 43 51 (sub (bodyOf Tryz.f43) [1,1,1,0,0,0,1]) (seqL (fun k al H=>LPgR 43 51 (sub (bodyOf Tryz.f43) [1,1,1,0,0,0]) k (trimL (cfg.keep 43) (sub (bodyOf Tryz.f43) [1,1,1,0,0,0]) al) H) (blockL 0 (R19_Temps_Close_K1 H0))) [(0,x0)] H
def R19_Temps_Close_L1 (x0:AV) (H0 H:Hp):Res:=LPgR 43 51 (sub (bodyOf Tryz.f43) [1,1,1,0,0,0]) (blockL 0 (R19_Temps_Close_K1 H0)) [(0,x0)] H
def R19_Temps_Close_J2 (x0:AV) (H0 H:Hp):Res:=CXgR 43 51 (sub (bodyOf Tryz.f43) [1,1,1]) (retL cfg 51 43 Tryz.f43 H0) [(0,x0)] H
def R19_Temps_Close_J1 (x0:AV) (H0 H:Hp):Res:=CXgR 43 51 (sub (bodyOf Tryz.f43) [1,1]) (retL cfg 51 43 Tryz.f43 H0) [(0,x0)] H
def F_R19_Temps_Close (p0:AV) (H:Hp):Res:=
 bnd (ebin (.pointer 79) .eql p0 .nilp) fun t5=>
 cnd t5
  (some ((.int .i64 5),H))
  (R19_Temps_Close_J1 p0 H H)
theorem R19_Temps_Close_J3_eq (x0:AV) (H0 H:Hp):R19_Temps_Close_J3 x0 H0 H =
    bnd (anil x0) fun t49=>
    bnd (afield 6 t49) fun t50=>
    bnd (astoreU 1 t50 (.bool true) H) fun r_3=>
    some ((.int .i64 0),r_3.2):=(CXM_eq [3,5,6,9,10] _ _ _ _).trans (by kernel_rfl)
theorem R19_Temps_Close_J5_eq (x0:AV) (H0 H:Hp):R19_Temps_Close_J5 x0 H0 H =
    bnd (anil x0) fun t36=>
    bnd (afield 4 t36) fun t37=>
    bnd (aload false 1 t37 H) fun t38=>
    bnd (anil x0) fun t40=>
    bnd (afield 4 t40) fun t41=>
    bnd (aload false 1 t41 H) fun t42=>
    bnd (aindexS 1 t42 (.int .i64 0)) fun t43=>
    bnd (aload false 1 t43 H) fun t44=>
    bnd (C_R19_without [t38,t44] H) fun r45=>
    bnd (anil x0) fun t46=>
    bnd (afield 4 t46) fun t47=>
    bnd (astoreU 1 t47 r45.1 r45.2) fun r_15=>
    R19_Temps_Close_L1 x0 H0 r_15.2:=(CXM_eq [3,5,6,9,10] _ _ _ _).trans (by kernel_rfl)
theorem R19_Temps_Close_J4_eq (x0:AV) (H0 H:Hp):R19_Temps_Close_J4 x0 H0 H =
    bnd (anil x0) fun t17=>
    bnd (afield 0 t17) fun t18=>
    bnd (aload false 1 t18 H) fun t19=>
    bnd (anil x0) fun t21=>
    bnd (afield 4 t21) fun t22=>
    bnd (aload false 1 t22 H) fun t23=>
    bnd (aindexS 1 t23 (.int .i64 0)) fun t24=>
    bnd (aload false 1 t24 H) fun t25=>
    bnd (C_R18_Store_Remove [t19,t25] H) fun r26=>
    bnd (ibin .neq r26.1 (.int .i64 0)) fun t28=>
    bnd (gdv t28 true (.tuple []) (some r26.1)) fun t30=>
    bnd (gdv t28 true (.tuple []) (ibin .neq t30 (.int .i64 5))) fun t31=>
    bnd (apick t28 t31 (.bool false)) fun t32=>
    cnd t32
     (some (r26.1,r26.2))
     (R19_Temps_Close_J5 x0 H0 r26.2):=(CXM_eq [3,5,6,9,10] _ _ _ _).trans (by kernel_rfl)
theorem R19_Temps_Close_L1_eq (x0:AV) (H0 H:Hp):R19_Temps_Close_L1 x0 H0 H =
    bnd (anil x0) fun t11=>
    bnd (afield 4 t11) fun t12=>
    bnd (aload false 1 t12 H) fun t13=>
    bnd (alenD (.slice 9) t13) fun t14=>
    bnd (ibin .gtr t14 (.int .i64 0)) fun t15=>
    cnd t15
     (R19_Temps_Close_J4 x0 H0 H)
     (R19_Temps_Close_J3 x0 H0 H):=(LPL_eqm (C:=cfg) [3,5,6,9,10] (tame_block 0 (R19_Temps_Close_K1_tame H0)) _ _).trans (by kernel_rfl)
theorem R19_Temps_Close_J2_eq (x0:AV) (H0 H:Hp):R19_Temps_Close_J2 x0 H0 H =
    R19_Temps_Close_L1 x0 H0 H:=(CXM_eq [3,5,6,9,10] _ _ _ _).trans (by kernel_rfl)
theorem R19_Temps_Close_J1_eq (x0:AV) (H0 H:Hp):R19_Temps_Close_J1 x0 H0 H =
    bnd (anil x0) fun t7=>
    bnd (afield 6 t7) fun t8=>
    bnd (aload false 1 t8 H) fun t9=>
    cnd t9
     (some ((.int .i64 8),H))
     (R19_Temps_Close_J2 x0 H0 H):=(CXM_eq [3,5,6,9,10] _ _ _ _).trans (by kernel_rfl)
theorem F_R19_Temps_Close_eq (p0:AV) (H:Hp):C_R19_Temps_Close [p0] H=F_R19_Temps_Close p0 H:=(callw_cxm (C:=cfg) (fn:=Tryz.f43) (c:=bodyOf Tryz.f43) (n:=51) [3,5,6,9,10] Tryz.func43 (by kernel_rfl) (by kernel_rfl) [p0] (by kernel_rfl) H).trans (by kernel_rfl)

def F_R18_Store_FailAfter (p0 p1:AV) (H:Hp):Res:=
 bnd (ebin (.pointer 71) .neq p0 .nilp) fun t5=>
 bnd (gdv t5 true (.tuple []) (some p0)) fun t7=>
 bnd (gdv t5 true (.tuple []) (anil t7)) fun t8=>
 bnd (gdv t5 true (.tuple []) (afield 3 t8)) fun t9=>
 bnd (gdv t5 true (.tuple []) (aload false 1 t9 H)) fun t10=>
 bnd (gdv t5 true (.tuple []) (aun .not t10)) fun t11=>
 bnd (apick t5 t11 (.bool false)) fun t12=>
 cnd t12
  (bnd (amax2 (.int .i64 0) p1) fun t15=>
  bnd (anil p0) fun t16=>
  bnd (afield 4 t16) fun t17=>
  bnd (astoreU 1 t17 t15 H) fun r_11=>
  some ((.tuple []),r_11.2))
  (some ((.tuple []),H))
theorem F_R18_Store_FailAfter_eq (p0 p1:AV) (H:Hp):C_R18_Store_FailAfter [p0,p1] H=F_R18_Store_FailAfter p0 p1 H:=(callw_cxm (C:=cfg) (fn:=Tryz.f44) (c:=bodyOf Tryz.f44) (n:=18) [] Tryz.func44 (by kernel_rfl) (by kernel_rfl) [p0,p1] (by kernel_rfl) H).trans (by kernel_rfl)

def R18_Store_Restart_J3 (x0 x1 x4:AV) (H0 H:Hp):Res:=CXgR 45 61 (sub (bodyOf Tryz.f45) [1,1,1,1,0,0,1,1]) (seqL (fun k al H=>LPgR 45 61 (sub (bodyOf Tryz.f45) [1,1,1,1,0,0]) k (trimL (cfg.keep 45) (sub (bodyOf Tryz.f45) [1,1,1,1,0,0]) al) H) (blockL 0 (retL cfg 61 45 Tryz.f45 H0))) [(0,x0),(1,x1),(4,x4)] H
def R18_Store_Restart_J2 (x0 x1 x4:AV) (H0 H:Hp):Res:=CXgR 45 61 (sub (bodyOf Tryz.f45) [1,1,1,1,0,0,1]) (seqL (fun k al H=>LPgR 45 61 (sub (bodyOf Tryz.f45) [1,1,1,1,0,0]) k (trimL (cfg.keep 45) (sub (bodyOf Tryz.f45) [1,1,1,1,0,0]) al) H) (blockL 0 (retL cfg 61 45 Tryz.f45 H0))) [(0,x0),(1,x1),(4,x4)] H
def R18_Store_Restart_L1 (x0 x1 x4:AV) (H0 H:Hp):Res:=LPgR 45 61 (sub (bodyOf Tryz.f45) [1,1,1,1,0,0]) (blockL 0 (retL cfg 61 45 Tryz.f45 H0)) [(0,x0),(1,x1),(4,x4)] H
def R18_Store_Restart_J1 (x0 x1:AV) (H0 H:Hp):Res:=CXgR 45 61 (sub (bodyOf Tryz.f45) [1]) (retL cfg 61 45 Tryz.f45 H0) [(0,x0),(1,x1)] H
def F_R18_Store_Restart (p0 p1:AV) (H:Hp):Res:=
 bnd (ebin (.pointer 71) .eql p0 .nilp) fun t8=>
 cnd t8
  (some ((.tuple []),H))
  (R18_Store_Restart_J1 p0 p1 H H)
theorem R18_Store_Restart_J3_eq (x0 x1 x4:AV) (H0 H:Hp):R18_Store_Restart_J3 x0 x1 x4 H0 H =
    bnd (ibin .add x4 (.int .i64 1)) fun t23=>
    R18_Store_Restart_L1 x0 x1 t23 H0 H:=(CXM_eq [1,5,6] _ _ _ _).trans (by kernel_rfl)
theorem R18_Store_Restart_J2_eq (x0 x1 x4:AV) (H0 H:Hp):R18_Store_Restart_J2 x0 x1 x4 H0 H =
    bnd (ibin .rem x4 (.int .i64 8)) fun t26=>
    bnd (ibin .mul (.int .i64 8) t26) fun t27=>
    bnd (ibin .shr x1 t27) fun t28=>
    bnd (ibin .rem t28 (.int .u64 256)) fun t29=>
    bnd (cvInt .i64 t29) fun t30=>
    bnd (anil x0) fun t32=>
    bnd (afield 1 t32) fun t33=>
    bnd (aload false 1 t33 H) fun t34=>
    bnd (aindexS 3 t34 x4) fun t36=>
    bnd (aload true 3 t36 H) fun t37=>
    bnd (some ((.ptr H.length 0),H++[.cells [(.str []),(.str []),(.int .i64 0)]])) fun r6=>
    bnd (astoreU 3 r6.1 t37 r6.2) fun r_19=>
    bnd (afield 1 r6.1) fun t38=>
    bnd (aload false 1 t38 r_19.2) fun t39=>
    bnd (afield 1 r6.1) fun t40=>
    bnd (aload false 1 t40 r_19.2) fun t41=>
    bnd (alenD .string t41) fun t42=>
    bnd (afield 2 r6.1) fun t43=>
    bnd (aload false 1 t43 r_19.2) fun t44=>
    bnd (ibin .add t44 t30) fun t46=>
    bnd (amin2 t42 t46) fun t47=>
    bnd (asliceS t39 none (some t47) none) fun t48=>
    bnd (afield 1 r6.1) fun t49=>
    bnd (astoreU 1 t49 t48 r_19.2) fun r_31=>
    bnd (afield 1 r6.1) fun t50=>
    bnd (aload false 1 t50 r_31.2) fun t51=>
    bnd (alenD .string t51) fun t52=>
    bnd (afield 2 r6.1) fun t53=>
    bnd (astoreU 1 t53 t52 r_31.2) fun r_36=>
    bnd (anil x0) fun t55=>
    bnd (afield 1 t55) fun t56=>
    bnd (aload false 1 t56 r_36.2) fun t57=>
    bnd (aload true 3 r6.1 r_36.2) fun t59=>
    bnd (aindexS 3 t57 x4) fun t60=>
    bnd (astoreU 3 t60 t59 r_36.2) fun r_42=>
    R18_Store_Restart_J3 x0 x1 x4 H0 r_42.2:=(CXM_eq [1,5,6] _ _ _ _).trans (by kernel_rfl)
theorem R18_Store_Restart_L1_eq (x0 x1 x4:AV) (H0 H:Hp):R18_Store_Restart_L1 x0 x1 x4 H0 H =
    bnd (anil x0) fun t17=>
    bnd (afield 1 t17) fun t18=>
    bnd (aload false 1 t18 H) fun t19=>
    bnd (alenD (.slice 90) t19) fun t20=>
    bnd (ibin .lss x4 t20) fun t21=>
    cnd t21
     (R18_Store_Restart_J2 x0 x1 x4 H0 H)
     (some ((.tuple []),H)):=(LPL_eqm (C:=cfg) [1,5,6] (tame_block 0 (tame_ret 45 Tryz.f45 H0)) _ _).trans (by kernel_rfl)
theorem R18_Store_Restart_J1_eq (x0 x1:AV) (H0 H:Hp):R18_Store_Restart_J1 x0 x1 H0 H =
    bnd (anil x0) fun t10=>
    bnd (afield 3 t10) fun t11=>
    bnd (astoreU 1 t11 (.bool false) H) fun r_3=>
    bnd (anil x0) fun t13=>
    bnd (afield 4 t13) fun t14=>
    bnd (astoreU 1 t14 (.int .i64 0) r_3.2) fun r_6=>
    R18_Store_Restart_L1 x0 x1 (.int .i64 0) H0 r_6.2:=(CXM_eq [1,5,6] _ _ _ _).trans (by kernel_rfl)
theorem F_R18_Store_Restart_eq (p0 p1:AV) (H:Hp):C_R18_Store_Restart [p0,p1] H=F_R18_Store_Restart p0 p1 H:=(callw_cxm (C:=cfg) (fn:=Tryz.f45) (c:=bodyOf Tryz.f45) (n:=61) [1,5,6] Tryz.func45 (by kernel_rfl) (by kernel_rfl) [p0,p1] (by kernel_rfl) H).trans (by kernel_rfl)

def R18_Store_Append_J2 (x0 x2 x7:AV) (H0 H:Hp):Res:=CXgR 46 55 (sub (bodyOf Tryz.f46) [1,1,1,1]) (retL cfg 55 46 Tryz.f46 H0) [(0,x0),(2,x2),(7,x7)] H
def R18_Store_Append_J1 (x0 x2 x7:AV) (H0 H:Hp):Res:=CXgR 46 55 (sub (bodyOf Tryz.f46) [1,1,1]) (retL cfg 55 46 Tryz.f46 H0) [(0,x0),(2,x2),(7,x7)] H
def F_R18_Store_Append (p0 p1 p2:AV) (H:Hp):Res:=
 bnd (C_R18_Store_begin [p0,p1] H) fun r12=>
 bnd (aext r12.1 0) fun t13=>
 bnd (aext r12.1 1) fun t14=>
 bnd (ibin .neq t14 (.int .i64 0)) fun t16=>
 cnd t16
  (some (t14,r12.2))
  (R18_Store_Append_J1 p0 p2 t13 H r12.2)
theorem R18_Store_Append_J2_eq (x0 x2 x7:AV) (H0 H:Hp):R18_Store_Append_J2 x0 x2 x7 H0 H =
    bnd (anil x0) fun t29=>
    bnd (afield 1 t29) fun t30=>
    bnd (aload false 1 t30 H) fun t31=>
    bnd (anil x0) fun t34=>
    bnd (afield 1 t34) fun t35=>
    bnd (aload false 1 t35 H) fun t36=>
    bnd (aindexS 3 t36 x7) fun t38=>
    bnd (afield 1 t38) fun t39=>
    bnd (aload false 1 t39 H) fun t40=>
    bnd (sbin .add t40 x2) fun t42=>
    bnd (aindexS 3 t31 x7) fun t43=>
    bnd (afield 1 t43) fun t44=>
    bnd (astoreU 1 t44 t42 H) fun r_16=>
    bnd (anil x0) fun t47=>
    bnd (afield 2 t47) fun t48=>
    bnd (aload false 1 t48 r_16.2) fun t49=>
    bnd (roC C_R18_Store_Used [x0] r_16.2) fun r51=>
    bnd (amax2 t49 r51.1) fun t52=>
    bnd (anil x0) fun t53=>
    bnd (afield 2 t53) fun t54=>
    bnd (astoreU 1 t54 t52 r51.2) fun r_24=>
    some ((.int .i64 0),r_24.2):=(CXM_eq [4,6] _ _ _ _).trans (by kernel_rfl)
theorem R18_Store_Append_J1_eq (x0 x2 x7:AV) (H0 H:Hp):R18_Store_Append_J1 x0 x2 x7 H0 H =
    bnd (alenD .string x2) fun t19=>
    bnd (anil x0) fun t21=>
    bnd (afield 0 t21) fun t22=>
    bnd (aload false 1 t22 H) fun t23=>
    bnd (roC C_R18_Store_Used [x0] H) fun r25=>
    bnd (ibin .sub t23 r25.1) fun t26=>
    bnd (ibin .gtr t19 t26) fun t27=>
    cnd t27
     (some ((.int .i64 12),r25.2))
     (R18_Store_Append_J2 x0 x2 x7 H0 r25.2):=(CXM_eq [4,6] _ _ _ _).trans (by kernel_rfl)
theorem F_R18_Store_Append_eq (p0 p1 p2:AV) (H:Hp):C_R18_Store_Append [p0,p1,p2] H=F_R18_Store_Append p0 p1 p2 H:=(callw_cxm (C:=cfg) (fn:=Tryz.f46) (c:=bodyOf Tryz.f46) (n:=55) [4,6] Tryz.func46 (by kernel_rfl) (by kernel_rfl) [p0,p1,p2] (by kernel_rfl) H).trans (by kernel_rfl)

def R19_has_J1 (H0 H:Hp):Res:=CXgR 48 18 (sub (bodyOf Tryz.f48) [1,1]) (retL cfg 18 48 Tryz.f48 H0) [] H
def R19_has_K1 (H0:Hp):KL:=seqL (fun k al H=>CXgR 48 18 (sub (bodyOf Tryz.f48) [1,1]) k (trimL (cfg.keep 48) (sub (bodyOf Tryz.f48) [1,1]) al) H) (retL cfg 18 48 Tryz.f48 H0)
theorem R19_has_K1_tame (H0:Hp):Tame 18 (R19_has_K1 H0):=tame_seq (C:=cfg) (kp:=cfg.keep 48) (sub (bodyOf Tryz.f48) [1,1]) (tame_ret 48 Tryz.f48 H0)
def R19_has_J3 (x0 x1 x5:AV) (H0 H:Hp):Res:=CXgR 48 18 (sub (bodyOf Tryz.f48) [1,0,1,0,0,1,1]) (seqL (fun k al H=>LPgR 48 18 (sub (bodyOf Tryz.f48) [1,0,1,0,0]) k (trimL (cfg.keep 48) (sub (bodyOf Tryz.f48) [1,0,1,0,0]) al) H) (blockL 0 (R19_has_K1 H0))) [(0,x0),(1,x1),(5,x5)] H
def R19_has_J2 (x0 x1 x5:AV) (H0 H:Hp):Res:=CXgR 48 18 (sub (bodyOf Tryz.f48) [1,0,1,0,0,1]) (seqL (fun k al H=>LPgR 48 18 (sub (bodyOf Tryz.f48) [1,0,1,0,0]) k (trimL (cfg.keep 48) (sub (bodyOf Tryz.f48) [1,0,1,0,0]) al) H) (blockL 0 (R19_has_K1 H0))) [(0,x0),(1,x1),(5,x5)] H
def R19_has_L1 (x0 x1 x5:AV) (H0 H:Hp):Res:=LPgR 48 18 (sub (bodyOf Tryz.f48) [1,0,1,0,0]) (blockL 0 (R19_has_K1 H0)) [(0,x0),(1,x1),(5,x5)] H
def F_R19_has (p0 p1:AV) (H:Hp):Res:=
 R19_has_L1 p0 p1 (.int .i64 0) H H
theorem R19_has_J1_eq (H0 H:Hp):R19_has_J1 H0 H =
    some ((.bool false),H):=(CXM_eq [3,4,6] _ _ _ _).trans (by kernel_rfl)
theorem R19_has_J3_eq (x0 x1 x5:AV) (H0 H:Hp):R19_has_J3 x0 x1 x5 H0 H =
    bnd (ibin .add x5 (.int .i64 1)) fun t11=>
    R19_has_L1 x0 x1 t11 H0 H:=(CXM_eq [3,4,6] _ _ _ _).trans (by kernel_rfl)
theorem R19_has_J2_eq (x0 x1 x5:AV) (H0 H:Hp):R19_has_J2 x0 x1 x5 H0 H =
    bnd (aindexS 1 x0 x5) fun t14=>
    bnd (aload false 1 t14 H) fun t15=>
    bnd (sbin .eql t15 x1) fun t17=>
    cnd t17
     (some ((.bool true),H))
     (R19_has_J3 x0 x1 x5 H0 H):=(CXM_eq [3,4,6] _ _ _ _).trans (by kernel_rfl)
theorem R19_has_L1_eq (x0 x1 x5:AV) (H0 H:Hp):R19_has_L1 x0 x1 x5 H0 H =
    bnd (alenD (.slice 9) x0) fun t8=>
    bnd (ibin .lss x5 t8) fun t9=>
    cnd t9
     (R19_has_J2 x0 x1 x5 H0 H)
     (R19_has_J1 H0 H):=(LPL_eqm (C:=cfg) [3,4,6] (tame_block 0 (R19_has_K1_tame H0)) _ _).trans (by kernel_rfl)
theorem F_R19_has_eq (p0 p1:AV) (H:Hp):C_R19_has [p0,p1] H=F_R19_has p0 p1 H:=(callw_cxm (C:=cfg) (fn:=Tryz.f48) (c:=bodyOf Tryz.f48) (n:=18) [3,4,6] Tryz.func48 (by kernel_rfl) (by kernel_rfl) [p0,p1] (by kernel_rfl) H).trans (by kernel_rfl)

def R19_temporary_J2 (x0 x5:AV) (H0 H:Hp):Res:=CXgR 52 46 (sub (bodyOf Tryz.f52) [1,1,1,1]) (retL cfg 46 52 Tryz.f52 H0) [(0,x0),(5,x5)] H
def R19_temporary_K1 (H0:Hp):KL:=seqL (fun k al H=>CXgR 52 46 (sub (bodyOf Tryz.f52) [1,1,1,1]) k (trimL (cfg.keep 52) (sub (bodyOf Tryz.f52) [1,1,1,1]) al) H) (retL cfg 46 52 Tryz.f52 H0)
theorem R19_temporary_K1_tame (H0:Hp):Tame 46 (R19_temporary_K1 H0):=tame_seq (C:=cfg) (kp:=cfg.keep 52) (sub (bodyOf Tryz.f52) [1,1,1,1]) (tame_ret 52 Tryz.f52 H0)
def R19_temporary_J4 (x0 x5 x6:AV) (H0 H:Hp):Res:=CXgR 52 46 (sub (bodyOf Tryz.f52) [1,1,1,0,1,0,0,1,1]) (seqL (fun k al H=>LPgR 52 46 (sub (bodyOf Tryz.f52) [1,1,1,0,1,0,0]) k (trimL (cfg.keep 52) (sub (bodyOf Tryz.f52) [1,1,1,0,1,0,0]) al) H) (blockL 0 (R19_temporary_K1 H0))) [(0,x0),(5,x5),(6,x6)] H
def R19_temporary_J3 (x0 x5 x6:AV) (H0 H:Hp):Res:=CXgR 52 46 (sub (bodyOf Tryz.f52) [1,1,1,0,1,0,0,1]) (seqL (fun k al H=>LPgR 52 46 (sub (bodyOf Tryz.f52) [1,1,1,0,1,0,0]) k (trimL (cfg.keep 52) (sub (bodyOf Tryz.f52) [1,1,1,0,1,0,0]) al) H) (blockL 0 (R19_temporary_K1 H0))) [(0,x0),(5,x5),(6,x6)] H
def R19_temporary_L1 (x0 x5 x6:AV) (H0 H:Hp):Res:=LPgR 52 46 (sub (bodyOf Tryz.f52) [1,1,1,0,1,0,0]) (blockL 0 (R19_temporary_K1 H0)) [(0,x0),(5,x5),(6,x6)] H
def R19_temporary_J1 (x0 x5:AV) (H0 H:Hp):Res:=CXgR 52 46 (sub (bodyOf Tryz.f52) [1,1,1]) (retL cfg 46 52 Tryz.f52 H0) [(0,x0),(5,x5)] H
def F_R19_temporary (p0 p1:AV) (H:Hp):Res:=
 bnd (sbin .add (.str [46,116,109,112,46]) p1) fun t8=>
 bnd (sbin .add t8 (.str [46])) fun t9=>
 bnd (alenD .string p0) fun t11=>
 bnd (alenD .string t9) fun t13=>
 bnd (ibin .leq t11 t13) fun t14=>
 bnd (gdv t14 false (.tuple []) (some p0)) fun t16=>
 bnd (gdv t14 false (.tuple []) (some t9)) fun t17=>
 bnd (gdv t14 false (.tuple []) (alenD .string t17)) fun t18=>
 bnd (gdv t14 false (.tuple []) (asliceS t16 none (some t18) none)) fun t19=>
 bnd (gdv t14 false (.tuple []) (some t9)) fun t20=>
 bnd (gdv t14 false (.tuple []) (sbin .neq t19 t20)) fun t21=>
 bnd (apick t14 (.bool true) t21) fun t22=>
 cnd t22
  (some ((.bool false),H))
  (R19_temporary_J1 p0 t9 H H)
theorem R19_temporary_J2_eq (x0 x5:AV) (H0 H:Hp):R19_temporary_J2 x0 x5 H0 H =
    bnd (alenD .string x5) fun t43=>
    bnd (aindexStr x0 t43) fun t44=>
    bnd (ibin .neq t44 (.int .u8 48)) fun t45=>
    some (t45,H):=(CXM_eq [4,6,7,9] _ _ _ _).trans (by kernel_rfl)
theorem R19_temporary_J4_eq (x0 x5 x6:AV) (H0 H:Hp):R19_temporary_J4 x0 x5 x6 H0 H =
    bnd (ibin .add x6 (.int .i64 1)) fun t30=>
    R19_temporary_L1 x0 x5 t30 H0 H:=(CXM_eq [4,6,7,9] _ _ _ _).trans (by kernel_rfl)
theorem R19_temporary_J3_eq (x0 x5 x6:AV) (H0 H:Hp):R19_temporary_J3 x0 x5 x6 H0 H =
    bnd (aindexStr x0 x6) fun t33=>
    bnd (ibin .lss t33 (.int .u8 48)) fun t34=>
    bnd (gdv t34 false (.tuple []) (some x0)) fun t36=>
    bnd (gdv t34 false (.tuple []) (some x6)) fun t37=>
    bnd (gdv t34 false (.tuple []) (aindexStr t36 t37)) fun t38=>
    bnd (gdv t34 false (.tuple []) (ibin .gtr t38 (.int .u8 57))) fun t39=>
    bnd (apick t34 (.bool true) t39) fun t40=>
    cnd t40
     (some ((.bool false),H))
     (R19_temporary_J4 x0 x5 x6 H0 H):=(CXM_eq [4,6,7,9] _ _ _ _).trans (by kernel_rfl)
theorem R19_temporary_L1_eq (x0 x5 x6:AV) (H0 H:Hp):R19_temporary_L1 x0 x5 x6 H0 H =
    bnd (alenD .string x0) fun t27=>
    bnd (ibin .lss x6 t27) fun t28=>
    cnd t28
     (R19_temporary_J3 x0 x5 x6 H0 H)
     (R19_temporary_J2 x0 x5 H0 H):=(LPL_eqm (C:=cfg) [4,6,7,9] (tame_block 0 (R19_temporary_K1_tame H0)) _ _).trans (by kernel_rfl)
theorem R19_temporary_J1_eq (x0 x5:AV) (H0 H:Hp):R19_temporary_J1 x0 x5 H0 H =
    bnd (alenD .string x5) fun t24=>
    R19_temporary_L1 x0 x5 t24 H0 H:=(CXM_eq [4,6,7,9] _ _ _ _).trans (by kernel_rfl)
theorem F_R19_temporary_eq (p0 p1:AV) (H:Hp):C_R19_temporary [p0,p1] H=F_R19_temporary p0 p1 H:=(callw_cxm (C:=cfg) (fn:=Tryz.f52) (c:=bodyOf Tryz.f52) (n:=46) [4,6,7,9] Tryz.func52 (by kernel_rfl) (by kernel_rfl) [p0,p1] (by kernel_rfl) H).trans (by kernel_rfl)

def R18_Store_fails_J1 (x0:AV) (H0 H:Hp):Res:=CXgR 53 24 (sub (bodyOf Tryz.f53) [1,1]) (retL cfg 24 53 Tryz.f53 H0) [(0,x0)] H
def F_R18_Store_fails (p0:AV) (H:Hp):Res:=
 bnd (anil p0) fun t4=>
 bnd (afield 4 t4) fun t5=>
 bnd (aload false 1 t5 H) fun t6=>
 bnd (ibin .eql t6 (.int .i64 1)) fun t7=>
 cnd t7
  (bnd (anil p0) fun t9=>
  bnd (afield 3 t9) fun t10=>
  bnd (astoreU 1 t10 (.bool true) H) fun r_18=>
  R18_Store_fails_J1 p0 H r_18.2)
  (R18_Store_fails_J1 p0 H H)
theorem R18_Store_fails_J1_eq (x0:AV) (H0 H:Hp):R18_Store_fails_J1 x0 H0 H =
    bnd (anil x0) fun t13=>
    bnd (afield 4 t13) fun t14=>
    bnd (aload false 1 t14 H) fun t15=>
    bnd (ibin .sub t15 (.int .i64 1)) fun t16=>
    bnd (amax2 (.int .i64 0) t16) fun t17=>
    bnd (anil x0) fun t18=>
    bnd (afield 4 t18) fun t19=>
    bnd (astoreU 1 t19 t17 H) fun r_8=>
    bnd (anil x0) fun t21=>
    bnd (afield 3 t21) fun t22=>
    bnd (aload false 1 t22 r_8.2) fun t23=>
    some (t23,r_8.2):=(CXM_eq [3] _ _ _ _).trans (by kernel_rfl)
theorem F_R18_Store_fails_eq (p0:AV) (H:Hp):C_R18_Store_fails [p0] H=F_R18_Store_fails p0 H:=(callw_cxm (C:=cfg) (fn:=Tryz.f53) (c:=bodyOf Tryz.f53) (n:=24) [3] Tryz.func53 (by kernel_rfl) (by kernel_rfl) [p0] (by kernel_rfl) H).trans (by kernel_rfl)

def R18_FileName_J2 (H0 H:Hp):Res:=CXgR 54 62 (sub (bodyOf Tryz.f54) [1,1,1]) (retL cfg 62 54 Tryz.f54 H0) [] H
def R18_FileName_K1 (H0:Hp):KL:=seqL (fun k al H=>CXgR 54 62 (sub (bodyOf Tryz.f54) [1,1,1]) k (trimL (cfg.keep 54) (sub (bodyOf Tryz.f54) [1,1,1]) al) H) (retL cfg 62 54 Tryz.f54 H0)
theorem R18_FileName_K1_tame (H0:Hp):Tame 62 (R18_FileName_K1 H0):=tame_seq (C:=cfg) (kp:=cfg.keep 54) (sub (bodyOf Tryz.f54) [1,1,1]) (tame_ret 54 Tryz.f54 H0)
def R18_FileName_J4 (x0 x3:AV) (H0 H:Hp):Res:=CXgR 54 62 (sub (bodyOf Tryz.f54) [1,1,0,1,0,0,1,1]) (seqL (fun k al H=>LPgR 54 62 (sub (bodyOf Tryz.f54) [1,1,0,1,0,0]) k (trimL (cfg.keep 54) (sub (bodyOf Tryz.f54) [1,1,0,1,0,0]) al) H) (blockL 0 (R18_FileName_K1 H0))) [(0,x0),(3,x3)] H
def R18_FileName_J3 (x0 x3:AV) (H0 H:Hp):Res:=CXgR 54 62 (sub (bodyOf Tryz.f54) [1,1,0,1,0,0,1]) (seqL (fun k al H=>LPgR 54 62 (sub (bodyOf Tryz.f54) [1,1,0,1,0,0]) k (trimL (cfg.keep 54) (sub (bodyOf Tryz.f54) [1,1,0,1,0,0]) al) H) (blockL 0 (R18_FileName_K1 H0))) [(0,x0),(3,x3)] H
def R18_FileName_L1 (x0 x3:AV) (H0 H:Hp):Res:=LPgR 54 62 (sub (bodyOf Tryz.f54) [1,1,0,1,0,0]) (blockL 0 (R18_FileName_K1 H0)) [(0,x0),(3,x3)] H
def R18_FileName_J1 (x0:AV) (H0 H:Hp):Res:=CXgR 54 62 (sub (bodyOf Tryz.f54) [1,1]) (retL cfg 62 54 Tryz.f54 H0) [(0,x0)] H
def F_R18_FileName (p0:AV) (H:Hp):Res:=
 bnd (sbin .eql p0 (.str [])) fun t6=>
 bnd (gdv t6 false (.tuple []) (some p0)) fun t8=>
 bnd (gdv t6 false (.tuple []) (alenD .string t8)) fun t9=>
 bnd (gdv t6 false (.tuple []) (ibin .gtr t9 (.int .i64 32))) fun t10=>
 bnd (apick t6 (.bool true) t10) fun t11=>
 bnd (gdv t11 false (.tuple []) (some p0)) fun t13=>
 bnd (gdv t11 false (.tuple []) (aindexStr t13 (.int .i64 0))) fun t14=>
 bnd (gdv t11 false (.tuple []) (ibin .geq t14 (.int .u8 48))) fun t15=>
 bnd (gdv t11 false (.tuple []) (some t15)) fun t16=>
 bnd (gdv t16 true (.tuple []) (some p0)) fun t17=>
 bnd (gdv t16 true (.tuple []) (aindexStr t17 (.int .i64 0))) fun t18=>
 bnd (gdv t16 true (.tuple []) (ibin .leq t18 (.int .u8 57))) fun t19=>
 bnd (gdv t11 false (.tuple []) (apick t16 t19 (.bool false))) fun t20=>
 bnd (apick t11 (.bool true) t20) fun t21=>
 cnd t21
  (some ((.bool false),H))
  (R18_FileName_J1 p0 H H)
theorem R18_FileName_J2_eq (H0 H:Hp):R18_FileName_J2 H0 H =
    some ((.bool true),H):=(CXM_eq [3,5,6,9] _ _ _ _).trans (by kernel_rfl)
theorem R18_FileName_J4_eq (x0 x3:AV) (H0 H:Hp):R18_FileName_J4 x0 x3 H0 H =
    bnd (ibin .add x3 (.int .i64 1)) fun t27=>
    R18_FileName_L1 x0 t27 H0 H:=(CXM_eq [3,5,6,9] _ _ _ _).trans (by kernel_rfl)
theorem R18_FileName_J3_eq (x0 x3:AV) (H0 H:Hp):R18_FileName_J3 x0 x3 H0 H =
    bnd (aindexStr x0 x3) fun t30=>
    bnd (ibin .or t30 (.int .u8 32)) fun t31=>
    bnd (ibin .lss t31 (.int .u8 97)) fun t33=>
    bnd (gdv t33 false (.tuple []) (some t31)) fun t35=>
    bnd (gdv t33 false (.tuple []) (ibin .gtr t35 (.int .u8 122))) fun t36=>
    bnd (apick t33 (.bool true) t36) fun t37=>
    bnd (gdv t37 true (.tuple []) (some x0)) fun t39=>
    bnd (gdv t37 true (.tuple []) (some x3)) fun t40=>
    bnd (gdv t37 true (.tuple []) (aindexStr t39 t40)) fun t41=>
    bnd (gdv t37 true (.tuple []) (ibin .lss t41 (.int .u8 48))) fun t42=>
    bnd (gdv t37 true (.tuple []) (some t42)) fun t43=>
    bnd (gdv t43 false (.tuple []) (some x0)) fun t44=>
    bnd (gdv t43 false (.tuple []) (some x3)) fun t45=>
    bnd (gdv t43 false (.tuple []) (aindexStr t44 t45)) fun t46=>
    bnd (gdv t43 false (.tuple []) (ibin .gtr t46 (.int .u8 57))) fun t47=>
    bnd (gdv t37 true (.tuple []) (apick t43 (.bool true) t47)) fun t48=>
    bnd (apick t37 t48 (.bool false)) fun t49=>
    bnd (gdv t49 true (.tuple []) (some x0)) fun t51=>
    bnd (gdv t49 true (.tuple []) (some x3)) fun t52=>
    bnd (gdv t49 true (.tuple []) (aindexStr t51 t52)) fun t53=>
    bnd (gdv t49 true (.tuple []) (ibin .neq t53 (.int .u8 95))) fun t54=>
    bnd (apick t49 t54 (.bool false)) fun t55=>
    bnd (gdv t55 true (.tuple []) (some x0)) fun t57=>
    bnd (gdv t55 true (.tuple []) (some x3)) fun t58=>
    bnd (gdv t55 true (.tuple []) (aindexStr t57 t58)) fun t59=>
    bnd (gdv t55 true (.tuple []) (ibin .neq t59 (.int .u8 46))) fun t60=>
    bnd (apick t55 t60 (.bool false)) fun t61=>
    cnd t61
     (some ((.bool false),H))
     (R18_FileName_J4 x0 x3 H0 H):=(CXM_eq [3,5,6,9] _ _ _ _).trans (by kernel_rfl)
theorem R18_FileName_L1_eq (x0 x3:AV) (H0 H:Hp):R18_FileName_L1 x0 x3 H0 H =
    bnd (alenD .string x0) fun t24=>
    bnd (ibin .lss x3 t24) fun t25=>
    cnd t25
     (R18_FileName_J3 x0 x3 H0 H)
     (R18_FileName_J2 H0 H):=(LPL_eqm (C:=cfg) [3,5,6,9] (tame_block 0 (R18_FileName_K1_tame H0)) _ _).trans (by kernel_rfl)
theorem R18_FileName_J1_eq (x0:AV) (H0 H:Hp):R18_FileName_J1 x0 H0 H =
    R18_FileName_L1 x0 (.int .i64 0) H0 H:=(CXM_eq [3,5,6,9] _ _ _ _).trans (by kernel_rfl)
theorem F_R18_FileName_eq (p0:AV) (H:Hp):C_R18_FileName [p0] H=F_R18_FileName p0 H:=(callw_cxm (C:=cfg) (fn:=Tryz.f54) (c:=bodyOf Tryz.f54) (n:=62) [3,5,6,9] Tryz.func54 (by kernel_rfl) (by kernel_rfl) [p0] (by kernel_rfl) H).trans (by kernel_rfl)

def R18_Store_place_J1 (H0 H:Hp):Res:=CXgR 55 26 (sub (bodyOf Tryz.f55) [1,1]) (retL cfg 26 55 Tryz.f55 H0) [] H
def R18_Store_place_K1 (H0:Hp):KL:=seqL (fun k al H=>CXgR 55 26 (sub (bodyOf Tryz.f55) [1,1]) k (trimL (cfg.keep 55) (sub (bodyOf Tryz.f55) [1,1]) al) H) (retL cfg 26 55 Tryz.f55 H0)
theorem R18_Store_place_K1_tame (H0:Hp):Tame 26 (R18_Store_place_K1 H0):=tame_seq (C:=cfg) (kp:=cfg.keep 55) (sub (bodyOf Tryz.f55) [1,1]) (tame_ret 55 Tryz.f55 H0)
def R18_Store_place_J3 (x0 x1 x5:AV) (H0 H:Hp):Res:=CXgR 55 26 (sub (bodyOf Tryz.f55) [1,0,1,0,0,1,1]) (seqL (fun k al H=>LPgR 55 26 (sub (bodyOf Tryz.f55) [1,0,1,0,0]) k (trimL (cfg.keep 55) (sub (bodyOf Tryz.f55) [1,0,1,0,0]) al) H) (blockL 0 (R18_Store_place_K1 H0))) [(0,x0),(1,x1),(5,x5)] H
def R18_Store_place_J2 (x0 x1 x5:AV) (H0 H:Hp):Res:=CXgR 55 26 (sub (bodyOf Tryz.f55) [1,0,1,0,0,1]) (seqL (fun k al H=>LPgR 55 26 (sub (bodyOf Tryz.f55) [1,0,1,0,0]) k (trimL (cfg.keep 55) (sub (bodyOf Tryz.f55) [1,0,1,0,0]) al) H) (blockL 0 (R18_Store_place_K1 H0))) [(0,x0),(1,x1),(5,x5)] H
def R18_Store_place_L1 (x0 x1 x5:AV) (H0 H:Hp):Res:=LPgR 55 26 (sub (bodyOf Tryz.f55) [1,0,1,0,0]) (blockL 0 (R18_Store_place_K1 H0)) [(0,x0),(1,x1),(5,x5)] H
def F_R18_Store_place (p0 p1:AV) (H:Hp):Res:=
 R18_Store_place_L1 p0 p1 (.int .i64 0) H H
theorem R18_Store_place_J1_eq (H0 H:Hp):R18_Store_place_J1 H0 H =
    some ((.int .i64 (-1)),H):=(CXM_eq [3,4,6] _ _ _ _).trans (by kernel_rfl)
theorem R18_Store_place_J3_eq (x0 x1 x5:AV) (H0 H:Hp):R18_Store_place_J3 x0 x1 x5 H0 H =
    bnd (ibin .add x5 (.int .i64 1)) fun t14=>
    R18_Store_place_L1 x0 x1 t14 H0 H:=(CXM_eq [3,4,6] _ _ _ _).trans (by kernel_rfl)
theorem R18_Store_place_J2_eq (x0 x1 x5:AV) (H0 H:Hp):R18_Store_place_J2 x0 x1 x5 H0 H =
    bnd (anil x0) fun t16=>
    bnd (afield 1 t16) fun t17=>
    bnd (aload false 1 t17 H) fun t18=>
    bnd (aindexS 3 t18 x5) fun t20=>
    bnd (afield 0 t20) fun t21=>
    bnd (aload false 1 t21 H) fun t22=>
    bnd (sbin .eql t22 x1) fun t24=>
    cnd t24
     (some (x5,H))
     (R18_Store_place_J3 x0 x1 x5 H0 H):=(CXM_eq [3,4,6] _ _ _ _).trans (by kernel_rfl)
theorem R18_Store_place_L1_eq (x0 x1 x5:AV) (H0 H:Hp):R18_Store_place_L1 x0 x1 x5 H0 H =
    bnd (anil x0) fun t8=>
    bnd (afield 1 t8) fun t9=>
    bnd (aload false 1 t9 H) fun t10=>
    bnd (alenD (.slice 90) t10) fun t11=>
    bnd (ibin .lss x5 t11) fun t12=>
    cnd t12
     (R18_Store_place_J2 x0 x1 x5 H0 H)
     (R18_Store_place_J1 H0 H):=(LPL_eqm (C:=cfg) [3,4,6] (tame_block 0 (R18_Store_place_K1_tame H0)) _ _).trans (by kernel_rfl)
theorem F_R18_Store_place_eq (p0 p1:AV) (H:Hp):C_R18_Store_place [p0,p1] H=F_R18_Store_place p0 p1 H:=(callw_cxm (C:=cfg) (fn:=Tryz.f55) (c:=bodyOf Tryz.f55) (n:=26) [3,4,6] Tryz.func55 (by kernel_rfl) (by kernel_rfl) [p0,p1] (by kernel_rfl) H).trans (by kernel_rfl)

def R18_Store_put_J2 (x0 x4:AV) (H0 H:Hp):Res:=CXgR 56 55 (sub (bodyOf Tryz.f56) [1,1,1,1,1]) (retL cfg 55 56 Tryz.f56 H0) [(0,x0),(4,x4)] H
def R18_Store_put_J1 (x0 x3 x4 x5:AV) (H0 H:Hp):Res:=CXgR 56 55 (sub (bodyOf Tryz.f56) [1,1,1,1]) (retL cfg 55 56 Tryz.f56 H0) [(0,x0),(3,x3),(4,x4),(5,x5)] H
def R18_Store_put_K1 (H0:Hp):KL:=seqL (fun k al H=>CXgR 56 55 (sub (bodyOf Tryz.f56) [1,1,1,1]) k (trimL (cfg.keep 56) (sub (bodyOf Tryz.f56) [1,1,1,1]) al) H) (retL cfg 55 56 Tryz.f56 H0)
theorem R18_Store_put_K1_tame (H0:Hp):Tame 55 (R18_Store_put_K1 H0):=tame_seq (C:=cfg) (kp:=cfg.keep 56) (sub (bodyOf Tryz.f56) [1,1,1,1]) (tame_ret 56 Tryz.f56 H0)
def R18_Store_put_J4 (x0 x3 x4 x5 x6:AV) (H0 H:Hp):Res:=CXgR 56 55 (sub (bodyOf Tryz.f56) [1,1,1,0,1,0,0,1,1]) (seqL (fun k al H=>LPgR 56 55 (sub (bodyOf Tryz.f56) [1,1,1,0,1,0,0]) k (trimL (cfg.keep 56) (sub (bodyOf Tryz.f56) [1,1,1,0,1,0,0]) al) H) (blockL 0 (R18_Store_put_K1 H0))) [(0,x0),(3,x3),(4,x4),(5,x5),(6,x6)] H
def R18_Store_put_K2 (H0:Hp):KL:=seqL (fun k al H=>CXgR 56 55 (sub (bodyOf Tryz.f56) [1,1,1,0,1,0,0,1,1]) k (trimL (cfg.keep 56) (sub (bodyOf Tryz.f56) [1,1,1,0,1,0,0,1,1]) al) H) (seqL (fun k al H=>LPgR 56 55 (sub (bodyOf Tryz.f56) [1,1,1,0,1,0,0]) k (trimL (cfg.keep 56) (sub (bodyOf Tryz.f56) [1,1,1,0,1,0,0]) al) H) (blockL 0 (R18_Store_put_K1 H0)))
def R18_Store_put_J5 (x0 x3 x4 x5 x6:AV) (H0 H:Hp):Res:=CXgR 56 55 (sub (bodyOf Tryz.f56) [1,1,1,0,1,0,0,1,0,0,1]) (blockL 1 (R18_Store_put_K2 H0)) [(0,x0),(3,x3),(4,x4),(5,x5),(6,x6)] H
def R18_Store_put_J3 (x0 x3 x4 x5 x6:AV) (H0 H:Hp):Res:=CXgR 56 55 (sub (bodyOf Tryz.f56) [1,1,1,0,1,0,0,1]) (seqL (fun k al H=>LPgR 56 55 (sub (bodyOf Tryz.f56) [1,1,1,0,1,0,0]) k (trimL (cfg.keep 56) (sub (bodyOf Tryz.f56) [1,1,1,0,1,0,0]) al) H) (blockL 0 (R18_Store_put_K1 H0))) [(0,x0),(3,x3),(4,x4),(5,x5),(6,x6)] H
def R18_Store_put_L1 (x0 x3 x4 x5 x6:AV) (H0 H:Hp):Res:=LPgR 56 55 (sub (bodyOf Tryz.f56) [1,1,1,0,1,0,0]) (blockL 0 (R18_Store_put_K1 H0)) [(0,x0),(3,x3),(4,x4),(5,x5),(6,x6)] H
def F_R18_Store_put (p0 p1:AV) (H:Hp):Res:=
 bnd (abox p1 H) fun r3=>
 R18_Store_put_L1 p0 r3.1 .nils (.bool false) (.int .i64 0) H r3.2
theorem R18_Store_put_J2_eq (x0 x4:AV) (H0 H:Hp):R18_Store_put_J2 x0 x4 H0 H =
    bnd (anil x0) fun t53=>
    bnd (afield 1 t53) fun t54=>
    bnd (astoreU 1 t54 x4 H) fun r_4=>
    some ((.tuple []),r_4.2):=(CXM_eq [5,6,9,10,12] _ _ _ _).trans (by kernel_rfl)
theorem R18_Store_put_J1_eq (x0 x3 x4 x5:AV) (H0 H:Hp):R18_Store_put_J1 x0 x3 x4 x5 H0 H =
    bnd (aun .not x5) fun t46=>
    cnd t46
     (bnd (aload true 3 x3 H) fun t48=>
     bnd ((setElems 3 [(0,t48)] [(.agg [(.str []),(.str []),(.int .i64 0)])]).map (.vs 3 .clip)) fun t49=>
     bnd (aappEL true 3 40 x4 t49 H) fun r50=>
     R18_Store_put_J2 x0 r50.1 H0 r50.2)
     (R18_Store_put_J2 x0 x4 H0 H):=(CXM_eq [5,6,9,10,12] _ _ _ _).trans (by kernel_rfl)
theorem R18_Store_put_J4_eq (x0 x3 x4 x5 x6:AV) (H0 H:Hp):R18_Store_put_J4 x0 x3 x4 x5 x6 H0 H =
    bnd (ibin .add x6 (.int .i64 1)) fun t15=>
    R18_Store_put_L1 x0 x3 x4 x5 t15 H0 H:=(CXM_eq [5,6,9,10,12] _ _ _ _).trans (by kernel_rfl)
theorem R18_Store_put_J5_eq (x0 x3 x4 x5 x6:AV) (H0 H:Hp):R18_Store_put_J5 x0 x3 x4 x5 x6 H0 H =
    bnd (anil x0) fun t37=>
    bnd (afield 1 t37) fun t38=>
    bnd (aload false 1 t38 H) fun t39=>
    bnd (aindexS 3 t39 x6) fun t41=>
    bnd (aload true 3 t41 H) fun t42=>
    bnd ((setElems 3 [(0,t42)] [(.agg [(.str []),(.str []),(.int .i64 0)])]).map (.vs 3 .clip)) fun t43=>
    bnd (aappEL true 3 40 x4 t43 H) fun r44=>
    R18_Store_put_J4 x0 x3 r44.1 x5 x6 H0 r44.2:=(CXM_eq [5,6,9,10,12] _ _ _ _).trans (by kernel_rfl)
theorem R18_Store_put_J3_eq (x0 x3 x4 x5 x6:AV) (H0 H:Hp):R18_Store_put_J3 x0 x3 x4 x5 x6 H0 H =
    bnd (aun .not x5) fun t17=>
    bnd (gdv t17 true (.tuple []) (some x0)) fun t19=>
    bnd (gdv t17 true (.tuple []) (anil t19)) fun t20=>
    bnd (gdv t17 true (.tuple []) (afield 1 t20)) fun t21=>
    bnd (gdv t17 true (.tuple []) (aload false 1 t21 H)) fun t22=>
    bnd (gdv t17 true (.tuple []) (some x6)) fun t23=>
    bnd (gdv t17 true (.tuple []) (aindexS 3 t22 t23)) fun t24=>
    bnd (gdv t17 true (.tuple []) (afield 0 t24)) fun t25=>
    bnd (gdv t17 true (.tuple []) (aload false 1 t25 H)) fun t26=>
    bnd (gdv t17 true (.tuple []) (afield 0 x3)) fun t27=>
    bnd (gdv t17 true (.tuple []) (aload false 1 t27 H)) fun t28=>
    bnd (gdv t17 true (.tuple []) (sbin .gtr t26 t28)) fun t29=>
    bnd (apick t17 t29 (.bool false)) fun t30=>
    cnd t30
     (bnd (aload true 3 x3 H) fun t32=>
     bnd ((setElems 3 [(0,t32)] [(.agg [(.str []),(.str []),(.int .i64 0)])]).map (.vs 3 .clip)) fun t33=>
     bnd (aappEL true 3 40 x4 t33 H) fun r34=>
     R18_Store_put_J5 x0 x3 r34.1 (.bool true) x6 H0 r34.2)
     (R18_Store_put_J5 x0 x3 x4 x5 x6 H0 H):=(CXM_eq [5,6,9,10,12] _ _ _ _).trans (by kernel_rfl)
theorem R18_Store_put_L1_eq (x0 x3 x4 x5 x6:AV) (H0 H:Hp):R18_Store_put_L1 x0 x3 x4 x5 x6 H0 H =
    bnd (anil x0) fun t9=>
    bnd (afield 1 t9) fun t10=>
    bnd (aload false 1 t10 H) fun t11=>
    bnd (alenD (.slice 90) t11) fun t12=>
    bnd (ibin .lss x6 t12) fun t13=>
    cnd t13
     (R18_Store_put_J3 x0 x3 x4 x5 x6 H0 H)
     (R18_Store_put_J1 x0 x3 x4 x5 H0 H):=(LPL_eqm (C:=cfg) [5,6,9,10,12] (tame_block 0 (R18_Store_put_K1_tame H0)) _ _).trans (by kernel_rfl)
theorem F_R18_Store_put_eq (p0 p1:AV) (H:Hp):C_R18_Store_put [p0,p1] H=F_R18_Store_put p0 p1 H:=(callw_cxm (C:=cfg) (fn:=Tryz.f56) (c:=bodyOf Tryz.f56) (n:=55) [5,6,9,10,12] Tryz.func56 (by kernel_rfl) (by kernel_rfl) [p0,p1] (by kernel_rfl) H).trans (by kernel_rfl)

def R18_Store_begin_J3 (x6:AV) (H0 H:Hp):Res:=CXgR 57 17 (sub (bodyOf Tryz.f57) [1,1,1,1,1]) (retL cfg 17 57 Tryz.f57 H0) [(6,x6)] H
def R18_Store_begin_J2 (x0 x1:AV) (H0 H:Hp):Res:=CXgR 57 17 (sub (bodyOf Tryz.f57) [1,1,1]) (retL cfg 17 57 Tryz.f57 H0) [(0,x0),(1,x1)] H
def R18_Store_begin_J1 (x0 x1:AV) (H0 H:Hp):Res:=CXgR 57 17 (sub (bodyOf Tryz.f57) [1,1]) (retL cfg 17 57 Tryz.f57 H0) [(0,x0),(1,x1)] H
def F_R18_Store_begin (p0 p1:AV) (H:Hp):Res:=
 bnd (ebin (.pointer 71) .eql p0 .nilp) fun t8=>
 cnd t8
  (some ((.tuple [(.int .i64 0),(.int .i64 5)]),H))
  (R18_Store_begin_J1 p0 p1 H H)
theorem R18_Store_begin_J3_eq (x6:AV) (H0 H:Hp):R18_Store_begin_J3 x6 H0 H =
    some ((.tuple [x6,(.int .i64 0)]),H):=(CXM_eq [3,5,8] _ _ _ _).trans (by kernel_rfl)
theorem R18_Store_begin_J2_eq (x0 x1:AV) (H0 H:Hp):R18_Store_begin_J2 x0 x1 H0 H =
    bnd (C_R18_Store_place [x0,x1] H) fun r13=>
    bnd (ibin .lss r13.1 (.int .i64 0)) fun t15=>
    cnd t15
     (some ((.tuple [(.int .i64 0),(.int .i64 5)]),r13.2))
     (R18_Store_begin_J3 r13.1 H0 r13.2):=(CXM_eq [3,5,8] _ _ _ _).trans (by kernel_rfl)
theorem R18_Store_begin_J1_eq (x0 x1:AV) (H0 H:Hp):R18_Store_begin_J1 x0 x1 H0 H =
    bnd (C_R18_Store_fails [x0] H) fun r10=>
    cnd r10.1
     (some ((.tuple [(.int .i64 0),(.int .i64 19)]),r10.2))
     (R18_Store_begin_J2 x0 x1 H0 r10.2):=(CXM_eq [3,5,8] _ _ _ _).trans (by kernel_rfl)
theorem F_R18_Store_begin_eq (p0 p1:AV) (H:Hp):C_R18_Store_begin [p0,p1] H=F_R18_Store_begin p0 p1 H:=(callw_cxm (C:=cfg) (fn:=Tryz.f57) (c:=bodyOf Tryz.f57) (n:=17) [3,5,8] Tryz.func57 (by kernel_rfl) (by kernel_rfl) [p0,p1] (by kernel_rfl) H).trans (by kernel_rfl)

def R18_Store_drop_J1 (x0 x4:AV) (H0 H:Hp):Res:=CXgR 58 32 (sub (bodyOf Tryz.f58) [1,1]) (retL cfg 32 58 Tryz.f58 H0) [(0,x0),(4,x4)] H
def R18_Store_drop_K1 (H0:Hp):KL:=seqL (fun k al H=>CXgR 58 32 (sub (bodyOf Tryz.f58) [1,1]) k (trimL (cfg.keep 58) (sub (bodyOf Tryz.f58) [1,1]) al) H) (retL cfg 32 58 Tryz.f58 H0)
theorem R18_Store_drop_K1_tame (H0:Hp):Tame 32 (R18_Store_drop_K1 H0):=tame_seq (C:=cfg) (kp:=cfg.keep 58) (sub (bodyOf Tryz.f58) [1,1]) (tame_ret 58 Tryz.f58 H0)
def R18_Store_drop_J3 (x0 x1 x4 x5:AV) (H0 H:Hp):Res:=CXgR 58 32 (sub (bodyOf Tryz.f58) [1,0,1,0,0,1,1]) (seqL (fun k al H=>LPgR 58 32 (sub (bodyOf Tryz.f58) [1,0,1,0,0]) k (trimL (cfg.keep 58) (sub (bodyOf Tryz.f58) [1,0,1,0,0]) al) H) (blockL 0 (R18_Store_drop_K1 H0))) [(0,x0),(1,x1),(4,x4),(5,x5)] H
def R18_Store_drop_J2 (x0 x1 x4 x5:AV) (H0 H:Hp):Res:=CXgR 58 32 (sub (bodyOf Tryz.f58) [1,0,1,0,0,1]) (seqL (fun k al H=>LPgR 58 32 (sub (bodyOf Tryz.f58) [1,0,1,0,0]) k (trimL (cfg.keep 58) (sub (bodyOf Tryz.f58) [1,0,1,0,0]) al) H) (blockL 0 (R18_Store_drop_K1 H0))) [(0,x0),(1,x1),(4,x4),(5,x5)] H
def R18_Store_drop_L1 (x0 x1 x4 x5:AV) (H0 H:Hp):Res:=LPgR 58 32 (sub (bodyOf Tryz.f58) [1,0,1,0,0]) (blockL 0 (R18_Store_drop_K1 H0)) [(0,x0),(1,x1),(4,x4),(5,x5)] H
def F_R18_Store_drop (p0 p1:AV) (H:Hp):Res:=
 R18_Store_drop_L1 p0 p1 .nils (.int .i64 0) H H
theorem R18_Store_drop_J1_eq (x0 x4:AV) (H0 H:Hp):R18_Store_drop_J1 x0 x4 H0 H =
    bnd (anil x0) fun t30=>
    bnd (afield 1 t30) fun t31=>
    bnd (astoreU 1 t31 x4 H) fun r_3=>
    some ((.tuple []),r_3.2):=(CXM_eq [3,4,6] _ _ _ _).trans (by kernel_rfl)
theorem R18_Store_drop_J3_eq (x0 x1 x4 x5:AV) (H0 H:Hp):R18_Store_drop_J3 x0 x1 x4 x5 H0 H =
    bnd (ibin .add x5 (.int .i64 1)) fun t14=>
    R18_Store_drop_L1 x0 x1 x4 t14 H0 H:=(CXM_eq [3,4,6] _ _ _ _).trans (by kernel_rfl)
theorem R18_Store_drop_J2_eq (x0 x1 x4 x5:AV) (H0 H:Hp):R18_Store_drop_J2 x0 x1 x4 x5 H0 H =
    bnd (ibin .neq x5 x1) fun t17=>
    cnd t17
     (bnd (anil x0) fun t20=>
     bnd (afield 1 t20) fun t21=>
     bnd (aload false 1 t21 H) fun t22=>
     bnd (aindexS 3 t22 x5) fun t24=>
     bnd (aload true 3 t24 H) fun t25=>
     bnd ((setElems 3 [(0,t25)] [(.agg [(.str []),(.str []),(.int .i64 0)])]).map (.vs 3 .clip)) fun t26=>
     bnd (aappEL true 3 40 x4 t26 H) fun r27=>
     R18_Store_drop_J3 x0 x1 r27.1 x5 H0 r27.2)
     (R18_Store_drop_J3 x0 x1 x4 x5 H0 H):=(CXM_eq [3,4,6] _ _ _ _).trans (by kernel_rfl)
theorem R18_Store_drop_L1_eq (x0 x1 x4 x5:AV) (H0 H:Hp):R18_Store_drop_L1 x0 x1 x4 x5 H0 H =
    bnd (anil x0) fun t8=>
    bnd (afield 1 t8) fun t9=>
    bnd (aload false 1 t9 H) fun t10=>
    bnd (alenD (.slice 90) t10) fun t11=>
    bnd (ibin .lss x5 t11) fun t12=>
    cnd t12
     (R18_Store_drop_J2 x0 x1 x4 x5 H0 H)
     (R18_Store_drop_J1 x0 x4 H0 H):=(LPL_eqm (C:=cfg) [3,4,6] (tame_block 0 (R18_Store_drop_K1_tame H0)) _ _).trans (by kernel_rfl)
theorem F_R18_Store_drop_eq (p0 p1:AV) (H:Hp):C_R18_Store_drop [p0,p1] H=F_R18_Store_drop p0 p1 H:=(callw_cxm (C:=cfg) (fn:=Tryz.f58) (c:=bodyOf Tryz.f58) (n:=32) [3,4,6] Tryz.func58 (by kernel_rfl) (by kernel_rfl) [p0,p1] (by kernel_rfl) H).trans (by kernel_rfl)

def R05_IsName_J2 (H0 H:Hp):Res:=CXgR 67 59 (sub (bodyOf Tryz.f67) [1,1,1]) (retL cfg 59 67 Tryz.f67 H0) [] H
def R05_IsName_K1 (H0:Hp):KL:=seqL (fun k al H=>CXgR 67 59 (sub (bodyOf Tryz.f67) [1,1,1]) k (trimL (cfg.keep 67) (sub (bodyOf Tryz.f67) [1,1,1]) al) H) (retL cfg 59 67 Tryz.f67 H0)
theorem R05_IsName_K1_tame (H0:Hp):Tame 59 (R05_IsName_K1 H0):=tame_seq (C:=cfg) (kp:=cfg.keep 67) (sub (bodyOf Tryz.f67) [1,1,1]) (tame_ret 67 Tryz.f67 H0)
def R05_IsName_J4 (x0 x3:AV) (H0 H:Hp):Res:=CXgR 67 59 (sub (bodyOf Tryz.f67) [1,1,0,1,0,0,1,1]) (seqL (fun k al H=>LPgR 67 59 (sub (bodyOf Tryz.f67) [1,1,0,1,0,0]) k (trimL (cfg.keep 67) (sub (bodyOf Tryz.f67) [1,1,0,1,0,0]) al) H) (blockL 0 (R05_IsName_K1 H0))) [(0,x0),(3,x3)] H
def R05_IsName_J3 (x0 x3:AV) (H0 H:Hp):Res:=CXgR 67 59 (sub (bodyOf Tryz.f67) [1,1,0,1,0,0,1]) (seqL (fun k al H=>LPgR 67 59 (sub (bodyOf Tryz.f67) [1,1,0,1,0,0]) k (trimL (cfg.keep 67) (sub (bodyOf Tryz.f67) [1,1,0,1,0,0]) al) H) (blockL 0 (R05_IsName_K1 H0))) [(0,x0),(3,x3)] H
def R05_IsName_L1 (x0 x3:AV) (H0 H:Hp):Res:=LPgR 67 59 (sub (bodyOf Tryz.f67) [1,1,0,1,0,0]) (blockL 0 (R05_IsName_K1 H0)) [(0,x0),(3,x3)] H
def R05_IsName_J1 (x0:AV) (H0 H:Hp):Res:=CXgR 67 59 (sub (bodyOf Tryz.f67) [1,1]) (retL cfg 59 67 Tryz.f67 H0) [(0,x0)] H
def F_R05_IsName (p0:AV) (H:Hp):Res:=
 bnd (alenD .string p0) fun t6=>
 bnd (ibin .eql t6 (.int .i64 0)) fun t7=>
 bnd (gdv t7 false (.tuple []) (some p0)) fun t9=>
 bnd (gdv t7 false (.tuple []) (alenD .string t9)) fun t10=>
 bnd (gdv t7 false (.tuple []) (ibin .gtr t10 (.int .i64 32))) fun t11=>
 bnd (apick t7 (.bool true) t11) fun t12=>
 bnd (gdv t12 false (.tuple []) (some p0)) fun t14=>
 bnd (gdv t12 false (.tuple []) (aindexStr t14 (.int .i64 0))) fun t15=>
 bnd (gdv t12 false (.tuple []) (ibin .geq t15 (.int .u8 48))) fun t16=>
 bnd (gdv t12 false (.tuple []) (some t16)) fun t17=>
 bnd (gdv t17 true (.tuple []) (some p0)) fun t18=>
 bnd (gdv t17 true (.tuple []) (aindexStr t18 (.int .i64 0))) fun t19=>
 bnd (gdv t17 true (.tuple []) (ibin .leq t19 (.int .u8 57))) fun t20=>
 bnd (gdv t12 false (.tuple []) (apick t17 t20 (.bool false))) fun t21=>
 bnd (apick t12 (.bool true) t21) fun t22=>
 cnd t22
  (some ((.bool false),H))
  (R05_IsName_J1 p0 H H)
theorem R05_IsName_J2_eq (H0 H:Hp):R05_IsName_J2 H0 H =
    some ((.bool true),H):=(CXM_eq [3,5,6,9] _ _ _ _).trans (by kernel_rfl)
theorem R05_IsName_J4_eq (x0 x3:AV) (H0 H:Hp):R05_IsName_J4 x0 x3 H0 H =
    bnd (ibin .add x3 (.int .i64 1)) fun t28=>
    R05_IsName_L1 x0 t28 H0 H:=(CXM_eq [3,5,6,9] _ _ _ _).trans (by kernel_rfl)
theorem R05_IsName_J3_eq (x0 x3:AV) (H0 H:Hp):R05_IsName_J3 x0 x3 H0 H =
    bnd (aindexStr x0 x3) fun t31=>
    bnd (ibin .geq t31 (.int .u8 97)) fun t33=>
    bnd (gdv t33 true (.tuple []) (some t31)) fun t35=>
    bnd (gdv t33 true (.tuple []) (ibin .leq t35 (.int .u8 122))) fun t36=>
    bnd (apick t33 t36 (.bool false)) fun t37=>
    bnd (gdv t37 false (.tuple []) (some t31)) fun t39=>
    bnd (gdv t37 false (.tuple []) (ibin .geq t39 (.int .u8 65))) fun t40=>
    bnd (gdv t37 false (.tuple []) (some t40)) fun t41=>
    bnd (gdv t41 true (.tuple []) (some t31)) fun t42=>
    bnd (gdv t41 true (.tuple []) (ibin .leq t42 (.int .u8 90))) fun t43=>
    bnd (gdv t37 false (.tuple []) (apick t41 t43 (.bool false))) fun t44=>
    bnd (apick t37 (.bool true) t44) fun t45=>
    bnd (gdv t45 false (.tuple []) (some t31)) fun t47=>
    bnd (gdv t45 false (.tuple []) (ibin .geq t47 (.int .u8 48))) fun t48=>
    bnd (gdv t45 false (.tuple []) (some t48)) fun t49=>
    bnd (gdv t49 true (.tuple []) (some t31)) fun t50=>
    bnd (gdv t49 true (.tuple []) (ibin .leq t50 (.int .u8 57))) fun t51=>
    bnd (gdv t45 false (.tuple []) (apick t49 t51 (.bool false))) fun t52=>
    bnd (apick t45 (.bool true) t52) fun t53=>
    bnd (gdv t53 false (.tuple []) (some t31)) fun t55=>
    bnd (gdv t53 false (.tuple []) (ibin .eql t55 (.int .u8 95))) fun t56=>
    bnd (apick t53 (.bool true) t56) fun t57=>
    bnd (aun .not t57) fun t58=>
    cnd t58
     (some ((.bool false),H))
     (R05_IsName_J4 x0 x3 H0 H):=(CXM_eq [3,5,6,9] _ _ _ _).trans (by kernel_rfl)
theorem R05_IsName_L1_eq (x0 x3:AV) (H0 H:Hp):R05_IsName_L1 x0 x3 H0 H =
    bnd (alenD .string x0) fun t25=>
    bnd (ibin .lss x3 t25) fun t26=>
    cnd t26
     (R05_IsName_J3 x0 x3 H0 H)
     (R05_IsName_J2 H0 H):=(LPL_eqm (C:=cfg) [3,5,6,9] (tame_block 0 (R05_IsName_K1_tame H0)) _ _).trans (by kernel_rfl)
theorem R05_IsName_J1_eq (x0:AV) (H0 H:Hp):R05_IsName_J1 x0 H0 H =
    R05_IsName_L1 x0 (.int .i64 0) H0 H:=(CXM_eq [3,5,6,9] _ _ _ _).trans (by kernel_rfl)
theorem F_R05_IsName_eq (p0:AV) (H:Hp):C_R05_IsName [p0] H=F_R05_IsName p0 H:=(callw_cxm (C:=cfg) (fn:=Tryz.f67) (c:=bodyOf Tryz.f67) (n:=59) [3,5,6,9] Tryz.func67 (by kernel_rfl) (by kernel_rfl) [p0] (by kernel_rfl) H).trans (by kernel_rfl)

def R01_Format_J3 (x3:AV) (H0 H:Hp):Res:=CXgR 71 31 (sub (bodyOf Tryz.f71) [1,1,1,1,1]) (retL cfg 31 71 Tryz.f71 H0) [(3,x3)] H
def R01_Format_J2 (x0 x3:AV) (H0 H:Hp):Res:=CXgR 71 31 (sub (bodyOf Tryz.f71) [1,1,1,1]) (retL cfg 31 71 Tryz.f71 H0) [(0,x0),(3,x3)] H
def R01_Format_K1 (H0:Hp):KL:=seqL (fun k al H=>CXgR 71 31 (sub (bodyOf Tryz.f71) [1,1,1,1]) k (trimL (cfg.keep 71) (sub (bodyOf Tryz.f71) [1,1,1,1]) al) H) (retL cfg 31 71 Tryz.f71 H0)
theorem R01_Format_K1_tame (H0:Hp):Tame 31 (R01_Format_K1 H0):=tame_seq (C:=cfg) (kp:=cfg.keep 71) (sub (bodyOf Tryz.f71) [1,1,1,1]) (tame_ret 71 Tryz.f71 H0)
def R01_Format_J5 (x0 x3 x4:AV) (H0 H:Hp):Res:=CXgR 71 31 (sub (bodyOf Tryz.f71) [1,1,1,0,1,0,0,1,1]) (seqL (fun k al H=>LPgR 71 31 (sub (bodyOf Tryz.f71) [1,1,1,0,1,0,0]) k (trimL (cfg.keep 71) (sub (bodyOf Tryz.f71) [1,1,1,0,1,0,0]) al) H) (blockL 0 (R01_Format_K1 H0))) [(0,x0),(3,x3),(4,x4)] H
def R01_Format_K2 (H0:Hp):KL:=seqL (fun k al H=>CXgR 71 31 (sub (bodyOf Tryz.f71) [1,1,1,0,1,0,0,1,1]) k (trimL (cfg.keep 71) (sub (bodyOf Tryz.f71) [1,1,1,0,1,0,0,1,1]) al) H) (seqL (fun k al H=>LPgR 71 31 (sub (bodyOf Tryz.f71) [1,1,1,0,1,0,0]) k (trimL (cfg.keep 71) (sub (bodyOf Tryz.f71) [1,1,1,0,1,0,0]) al) H) (blockL 0 (R01_Format_K1 H0)))
def R01_Format_J6 (x0 x3 x4 x5:AV) (H0 H:Hp):Res:=CXgR 71 31 (sub (bodyOf Tryz.f71) [1,1,1,0,1,0,0,1,0,0,1,1]) (blockL 1 (R01_Format_K2 H0)) [(0,x0),(3,x3),(4,x4),(5,x5)] H
def R01_Format_J4 (x0 x3 x4:AV) (H0 H:Hp):Res:=CXgR 71 31 (sub (bodyOf Tryz.f71) [1,1,1,0,1,0,0,1]) (seqL (fun k al H=>LPgR 71 31 (sub (bodyOf Tryz.f71) [1,1,1,0,1,0,0]) k (trimL (cfg.keep 71) (sub (bodyOf Tryz.f71) [1,1,1,0,1,0,0]) al) H) (blockL 0 (R01_Format_K1 H0))) [(0,x0),(3,x3),(4,x4)] H
def R01_Format_L1 (x0 x3 x4:AV) (H0 H:Hp):Res:=LPgR 71 31 (sub (bodyOf Tryz.f71) [1,1,1,0,1,0,0]) (blockL 0 (R01_Format_K1 H0)) [(0,x0),(3,x3),(4,x4)] H
def R01_Format_J1 (x0:AV) (H0 H:Hp):Res:=CXgR 71 31 (sub (bodyOf Tryz.f71) [1,1]) (retL cfg 31 71 Tryz.f71 H0) [(0,x0)] H
def F_R01_Format (p0:AV) (H:Hp):Res:=
 bnd (ibin .eql p0 (.int .i64 0)) fun t7=>
 cnd t7
  (some ((.str [48]),H))
  (R01_Format_J1 p0 H H)
theorem R01_Format_J3_eq (x3:AV) (H0 H:Hp):R01_Format_J3 x3 H0 H =
    some (x3,H):=(CXM_eq [3,6,7,10,11,13] _ _ _ _).trans (by kernel_rfl)
theorem R01_Format_J2_eq (x0 x3:AV) (H0 H:Hp):R01_Format_J2 x0 x3 H0 H =
    bnd (ibin .lss x0 (.int .i64 0)) fun t27=>
    cnd t27
     (bnd (sbin .add (.str [45]) x3) fun t29=>
     R01_Format_J3 t29 H0 H)
     (R01_Format_J3 x3 H0 H):=(CXM_eq [3,6,7,10,11,13] _ _ _ _).trans (by kernel_rfl)
theorem R01_Format_J5_eq (x0 x3 x4:AV) (H0 H:Hp):R01_Format_J5 x0 x3 x4 H0 H =
    bnd (ibin .quo x4 (.int .i64 10)) fun t12=>
    R01_Format_L1 x0 x3 t12 H0 H:=(CXM_eq [3,6,7,10,11,13] _ _ _ _).trans (by kernel_rfl)
theorem R01_Format_J6_eq (x0 x3 x4 x5:AV) (H0 H:Hp):R01_Format_J6 x0 x3 x4 x5 H0 H =
    bnd (ibin .add (.int .i64 48) x5) fun t20=>
    bnd (cvInt .u8 t20) fun t21=>
    bnd ((setElems 1 [(0,t21)] [(.int .u8 0)]).map (.vs 1 .clip)) fun t22=>
    bnd (cvRd t22 H) fun t23=>
    bnd (sbin .add t23 x3) fun t25=>
    R01_Format_J5 x0 t25 x4 H0 H:=(CXM_eq [3,6,7,10,11,13] _ _ _ _).trans (by kernel_rfl)
theorem R01_Format_J4_eq (x0 x3 x4:AV) (H0 H:Hp):R01_Format_J4 x0 x3 x4 H0 H =
    bnd (ibin .rem x4 (.int .i64 10)) fun t14=>
    bnd (ibin .lss t14 (.int .i64 0)) fun t16=>
    cnd t16
     (bnd (aun .neg t14) fun t18=>
     R01_Format_J6 x0 x3 x4 t18 H0 H)
     (R01_Format_J6 x0 x3 x4 t14 H0 H):=(CXM_eq [3,6,7,10,11,13] _ _ _ _).trans (by kernel_rfl)
theorem R01_Format_L1_eq (x0 x3 x4:AV) (H0 H:Hp):R01_Format_L1 x0 x3 x4 H0 H =
    bnd (ibin .neq x4 (.int .i64 0)) fun t10=>
    cnd t10
     (R01_Format_J4 x0 x3 x4 H0 H)
     (R01_Format_J2 x0 x3 H0 H):=(LPL_eqm (C:=cfg) [3,6,7,10,11,13] (tame_block 0 (R01_Format_K1_tame H0)) _ _).trans (by kernel_rfl)
theorem R01_Format_J1_eq (x0:AV) (H0 H:Hp):R01_Format_J1 x0 H0 H =
    R01_Format_L1 x0 (.str []) x0 H0 H:=(CXM_eq [3,6,7,10,11,13] _ _ _ _).trans (by kernel_rfl)
theorem F_R01_Format_eq (p0:AV) (H:Hp):C_R01_Format [p0] H=F_R01_Format p0 H:=(callw_cxm (C:=cfg) (fn:=Tryz.f71) (c:=bodyOf Tryz.f71) (n:=31) [3,6,7,10,11,13] Tryz.func71 (by kernel_rfl) (by kernel_rfl) [p0] (by kernel_rfl) H).trans (by kernel_rfl)

def R19_Temps_own_J3 (H0 H:Hp):Res:=CXgR 72 18 (sub (bodyOf Tryz.f72) [1,1,1,1]) (retL cfg 18 72 Tryz.f72 H0) [] H
def R19_Temps_own_J2 (x0 x1:AV) (H0 H:Hp):Res:=CXgR 72 18 (sub (bodyOf Tryz.f72) [1,1,1]) (retL cfg 18 72 Tryz.f72 H0) [(0,x0),(1,x1)] H
def R19_Temps_own_J1 (x0 x1:AV) (H0 H:Hp):Res:=CXgR 72 18 (sub (bodyOf Tryz.f72) [1,1]) (retL cfg 18 72 Tryz.f72 H0) [(0,x0),(1,x1)] H
def F_R19_Temps_own (p0 p1:AV) (H:Hp):Res:=
 bnd (ebin (.pointer 79) .eql p0 .nilp) fun t6=>
 cnd t6
  (some ((.int .i64 5),H))
  (R19_Temps_own_J1 p0 p1 H H)
theorem R19_Temps_own_J3_eq (H0 H:Hp):R19_Temps_own_J3 H0 H =
    some ((.int .i64 0),H):=(CXM_eq [3,5,7] _ _ _ _).trans (by kernel_rfl)
theorem R19_Temps_own_J2_eq (x0 x1:AV) (H0 H:Hp):R19_Temps_own_J2 x0 x1 H0 H =
    bnd (anil x0) fun t12=>
    bnd (afield 4 t12) fun t13=>
    bnd (aload false 1 t13 H) fun t14=>
    bnd (flatC C_R19_has [t14,x1] H) fun r16=>
    bnd (aun .not r16.1) fun t17=>
    cnd t17
     (some ((.int .i64 5),r16.2))
     (R19_Temps_own_J3 H0 r16.2):=(CXM_eq [3,5,7] _ _ _ _).trans (by kernel_rfl)
theorem R19_Temps_own_J1_eq (x0 x1:AV) (H0 H:Hp):R19_Temps_own_J1 x0 x1 H0 H =
    bnd (anil x0) fun t8=>
    bnd (afield 6 t8) fun t9=>
    bnd (aload false 1 t9 H) fun t10=>
    cnd t10
     (some ((.int .i64 8),H))
     (R19_Temps_own_J2 x0 x1 H0 H):=(CXM_eq [3,5,7] _ _ _ _).trans (by kernel_rfl)
theorem F_R19_Temps_own_eq (p0 p1:AV) (H:Hp):C_R19_Temps_own [p0,p1] H=F_R19_Temps_own p0 p1 H:=(callw_cxm (C:=cfg) (fn:=Tryz.f72) (c:=bodyOf Tryz.f72) (n:=18) [3,5,7] Tryz.func72 (by kernel_rfl) (by kernel_rfl) [p0,p1] (by kernel_rfl) H).trans (by kernel_rfl)

def R17_Encode_J1 (x4:AV) (H0 H:Hp):Res:=CXgR 73 30 (sub (bodyOf Tryz.f73) [1,1,1]) (retL cfg 30 73 Tryz.f73 H0) [(4,x4)] H
def R17_Encode_K1 (H0:Hp):KL:=seqL (fun k al H=>CXgR 73 30 (sub (bodyOf Tryz.f73) [1,1,1]) k (trimL (cfg.keep 73) (sub (bodyOf Tryz.f73) [1,1,1]) al) H) (retL cfg 30 73 Tryz.f73 H0)
theorem R17_Encode_K1_tame (H0:Hp):Tame 30 (R17_Encode_K1 H0):=tame_seq (C:=cfg) (kp:=cfg.keep 73) (sub (bodyOf Tryz.f73) [1,1,1]) (tame_ret 73 Tryz.f73 H0)
def R17_Encode_J3 (x0 x4 x5:AV) (H0 H:Hp):Res:=CXgR 73 30 (sub (bodyOf Tryz.f73) [1,1,0,1,0,0,1,1]) (seqL (fun k al H=>LPgR 73 30 (sub (bodyOf Tryz.f73) [1,1,0,1,0,0]) k (trimL (cfg.keep 73) (sub (bodyOf Tryz.f73) [1,1,0,1,0,0]) al) H) (blockL 0 (R17_Encode_K1 H0))) [(0,x0),(4,x4),(5,x5)] H
def R17_Encode_K2 (H0:Hp):KL:=seqL (fun k al H=>CXgR 73 30 (sub (bodyOf Tryz.f73) [1,1,0,1,0,0,1,1]) k (trimL (cfg.keep 73) (sub (bodyOf Tryz.f73) [1,1,0,1,0,0,1,1]) al) H) (seqL (fun k al H=>LPgR 73 30 (sub (bodyOf Tryz.f73) [1,1,0,1,0,0]) k (trimL (cfg.keep 73) (sub (bodyOf Tryz.f73) [1,1,0,1,0,0]) al) H) (blockL 0 (R17_Encode_K1 H0)))
def R17_Encode_J4 (x0 x4 x5 x6:AV) (H0 H:Hp):Res:=CXgR 73 30 (sub (bodyOf Tryz.f73) [1,1,0,1,0,0,1,0,0,1,1]) (blockL 1 (R17_Encode_K2 H0)) [(0,x0),(4,x4),(5,x5),(6,x6)] H
def R17_Encode_J2 (x0 x4 x5:AV) (H0 H:Hp):Res:=CXgR 73 30 (sub (bodyOf Tryz.f73) [1,1,0,1,0,0,1]) (seqL (fun k al H=>LPgR 73 30 (sub (bodyOf Tryz.f73) [1,1,0,1,0,0]) k (trimL (cfg.keep 73) (sub (bodyOf Tryz.f73) [1,1,0,1,0,0]) al) H) (blockL 0 (R17_Encode_K1 H0))) [(0,x0),(4,x4),(5,x5)] H
def R17_Encode_L1 (x0 x4 x5:AV) (H0 H:Hp):Res:=LPgR 73 30 (sub (bodyOf Tryz.f73) [1,1,0,1,0,0]) (blockL 0 (R17_Encode_K1 H0)) [(0,x0),(4,x4),(5,x5)] H
def F_R17_Encode (p0:AV) (H:Hp):Res:=
 R17_Encode_L1 p0 .nils (.int .i64 0) H H
theorem R17_Encode_J1_eq (x4:AV) (H0 H:Hp):R17_Encode_J1 x4 H0 H =
    bnd (cvRd x4 H) fun t29=>
    some ((.tuple [t29,(.int .i64 0)]),H):=(CXM_eq [4,5,8,9] _ _ _ _).trans (by kernel_rfl)
theorem R17_Encode_J3_eq (x0 x4 x5:AV) (H0 H:Hp):R17_Encode_J3 x0 x4 x5 H0 H =
    bnd (ibin .add x5 (.int .i64 1)) fun t13=>
    R17_Encode_L1 x0 x4 t13 H0 H:=(CXM_eq [4,5,8,9] _ _ _ _).trans (by kernel_rfl)
theorem R17_Encode_J4_eq (x0 x4 x5 x6:AV) (H0 H:Hp):R17_Encode_J4 x0 x4 x5 x6 H0 H =
    bnd (aappE 1 1 x4 x6 H) fun r27=>
    R17_Encode_J3 x0 r27.1 x5 H0 r27.2:=(CXM_eq [4,5,8,9] _ _ _ _).trans (by kernel_rfl)
theorem R17_Encode_J2_eq (x0 x4 x5:AV) (H0 H:Hp):R17_Encode_J2 x0 x4 x5 H0 H =
    bnd (aindexS 1 x0 x5) fun t17=>
    bnd (aload false 1 t17 H) fun t18=>
    bnd (flatC C_R17_Record [t18] H) fun r19=>
    bnd (aext r19.1 0) fun t20=>
    bnd (aext r19.1 1) fun t21=>
    bnd (ibin .neq t21 (.int .i64 0)) fun t23=>
    cnd t23
     (some ((.tuple [(.str []),t21]),r19.2))
     (R17_Encode_J4 x0 x4 x5 t20 H0 r19.2):=(CXM_eq [4,5,8,9] _ _ _ _).trans (by kernel_rfl)
theorem R17_Encode_L1_eq (x0 x4 x5:AV) (H0 H:Hp):R17_Encode_L1 x0 x4 x5 H0 H =
    bnd (alenD (.slice 9) x0) fun t10=>
    bnd (ibin .lss x5 t10) fun t11=>
    cnd t11
     (R17_Encode_J2 x0 x4 x5 H0 H)
     (R17_Encode_J1 x4 H0 H):=(LPL_eqm (C:=cfg) [4,5,8,9] (tame_block 0 (R17_Encode_K1_tame H0)) _ _).trans (by kernel_rfl)
theorem F_R17_Encode_eq (p0:AV) (H:Hp):C_R17_Encode [p0] H=F_R17_Encode p0 H:=(callw_cxm (C:=cfg) (fn:=Tryz.f73) (c:=bodyOf Tryz.f73) (n:=30) [4,5,8,9] Tryz.func73 (by kernel_rfl) (by kernel_rfl) [p0] (by kernel_rfl) H).trans (by kernel_rfl)

def R18_Store_Sync_J1 (x0 x5:AV) (H0 H:Hp):Res:=CXgR 74 32 (sub (bodyOf Tryz.f74) [1,1,1]) (retL cfg 32 74 Tryz.f74 H0) [(0,x0),(5,x5)] H
def F_R18_Store_Sync (p0 p1:AV) (H:Hp):Res:=
 bnd (C_R18_Store_begin [p0,p1] H) fun r10=>
 bnd (aext r10.1 0) fun t11=>
 bnd (aext r10.1 1) fun t12=>
 bnd (ibin .neq t12 (.int .i64 0)) fun t14=>
 cnd t14
  (some (t12,r10.2))
  (R18_Store_Sync_J1 p0 t11 H r10.2)
theorem R18_Store_Sync_J1_eq (x0 x5:AV) (H0 H:Hp):R18_Store_Sync_J1 x0 x5 H0 H =
    bnd (anil x0) fun t17=>
    bnd (afield 1 t17) fun t18=>
    bnd (aload false 1 t18 H) fun t19=>
    bnd (anil x0) fun t22=>
    bnd (afield 1 t22) fun t23=>
    bnd (aload false 1 t23 H) fun t24=>
    bnd (aindexS 3 t24 x5) fun t26=>
    bnd (afield 1 t26) fun t27=>
    bnd (aload false 1 t27 H) fun t28=>
    bnd (alenD .string t28) fun t29=>
    bnd (aindexS 3 t19 x5) fun t30=>
    bnd (afield 2 t30) fun t31=>
    bnd (astoreU 1 t31 t29 H) fun r_16=>
    some ((.int .i64 0),r_16.2):=(CXM_eq [4] _ _ _ _).trans (by kernel_rfl)
theorem F_R18_Store_Sync_eq (p0 p1:AV) (H:Hp):C_R18_Store_Sync [p0,p1] H=F_R18_Store_Sync p0 p1 H:=(callw_cxm (C:=cfg) (fn:=Tryz.f74) (c:=bodyOf Tryz.f74) (n:=32) [4] Tryz.func74 (by kernel_rfl) (by kernel_rfl) [p0,p1] (by kernel_rfl) H).trans (by kernel_rfl)

def R19_without_J1 (x5:AV) (H0 H:Hp):Res:=CXgR 75 27 (sub (bodyOf Tryz.f75) [1,1,1]) (retL cfg 27 75 Tryz.f75 H0) [(5,x5)] H
def R19_without_K1 (H0:Hp):KL:=seqL (fun k al H=>CXgR 75 27 (sub (bodyOf Tryz.f75) [1,1,1]) k (trimL (cfg.keep 75) (sub (bodyOf Tryz.f75) [1,1,1]) al) H) (retL cfg 27 75 Tryz.f75 H0)
theorem R19_without_K1_tame (H0:Hp):Tame 27 (R19_without_K1 H0):=tame_seq (C:=cfg) (kp:=cfg.keep 75) (sub (bodyOf Tryz.f75) [1,1,1]) (tame_ret 75 Tryz.f75 H0)
def R19_without_J3 (x0 x1 x5 x6:AV) (H0 H:Hp):Res:=CXgR 75 27 (sub (bodyOf Tryz.f75) [1,1,0,1,0,0,1,1]) (seqL (fun k al H=>LPgR 75 27 (sub (bodyOf Tryz.f75) [1,1,0,1,0,0]) k (trimL (cfg.keep 75) (sub (bodyOf Tryz.f75) [1,1,0,1,0,0]) al) H) (blockL 0 (R19_without_K1 H0))) [(0,x0),(1,x1),(5,x5),(6,x6)] H
def R19_without_J2 (x0 x1 x5 x6:AV) (H0 H:Hp):Res:=CXgR 75 27 (sub (bodyOf Tryz.f75) [1,1,0,1,0,0,1]) (seqL (fun k al H=>LPgR 75 27 (sub (bodyOf Tryz.f75) [1,1,0,1,0,0]) k (trimL (cfg.keep 75) (sub (bodyOf Tryz.f75) [1,1,0,1,0,0]) al) H) (blockL 0 (R19_without_K1 H0))) [(0,x0),(1,x1),(5,x5),(6,x6)] H
def R19_without_L1 (x0 x1 x5 x6:AV) (H0 H:Hp):Res:=LPgR 75 27 (sub (bodyOf Tryz.f75) [1,1,0,1,0,0]) (blockL 0 (R19_without_K1 H0)) [(0,x0),(1,x1),(5,x5),(6,x6)] H
def F_R19_without (p0 p1:AV) (H:Hp):Res:=
 R19_without_L1 p0 p1 .nils (.int .i64 0) H H
theorem R19_without_J1_eq (x5:AV) (H0 H:Hp):R19_without_J1 x5 H0 H =
    some (x5,H):=(CXM_eq [4,5,7] _ _ _ _).trans (by kernel_rfl)
theorem R19_without_J3_eq (x0 x1 x5 x6:AV) (H0 H:Hp):R19_without_J3 x0 x1 x5 x6 H0 H =
    bnd (ibin .add x6 (.int .i64 1)) fun t12=>
    R19_without_L1 x0 x1 x5 t12 H0 H:=(CXM_eq [4,5,7] _ _ _ _).trans (by kernel_rfl)
theorem R19_without_J2_eq (x0 x1 x5 x6:AV) (H0 H:Hp):R19_without_J2 x0 x1 x5 x6 H0 H =
    bnd (aindexS 1 x0 x6) fun t15=>
    bnd (aload false 1 t15 H) fun t16=>
    bnd (sbin .neq t16 x1) fun t18=>
    cnd t18
     (bnd (aindexS 1 x0 x6) fun t22=>
     bnd (aload false 1 t22 H) fun t23=>
     bnd ((setElems 1 [(0,t23)] [(.str [])]).map (.vs 1 .clip)) fun t24=>
     bnd (aappE 1 16 x5 t24 H) fun r25=>
     R19_without_J3 x0 x1 r25.1 x6 H0 r25.2)
     (R19_without_J3 x0 x1 x5 x6 H0 H):=(CXM_eq [4,5,7] _ _ _ _).trans (by kernel_rfl)
theorem R19_without_L1_eq (x0 x1 x5 x6:AV) (H0 H:Hp):R19_without_L1 x0 x1 x5 x6 H0 H =
    bnd (alenD (.slice 9) x0) fun t9=>
    bnd (ibin .lss x6 t9) fun t10=>
    cnd t10
     (R19_without_J2 x0 x1 x5 x6 H0 H)
     (R19_without_J1 x5 H0 H):=(LPL_eqm (C:=cfg) [4,5,7] (tame_block 0 (R19_without_K1_tame H0)) _ _).trans (by kernel_rfl)
theorem F_R19_without_eq (p0 p1:AV) (H:Hp):C_R19_without [p0,p1] H=F_R19_without p0 p1 H:=(callw_cxm (C:=cfg) (fn:=Tryz.f75) (c:=bodyOf Tryz.f75) (n:=27) [4,5,7] Tryz.func75 (by kernel_rfl) (by kernel_rfl) [p0,p1] (by kernel_rfl) H).trans (by kernel_rfl)

def R18_Store_Read_J2 (x2 x3 x12:AV) (H0 H:Hp):Res:=CXgR 76 53 (sub (bodyOf Tryz.f76) [1,1,1,1,1]) (retL cfg 53 76 Tryz.f76 H0) [(2,x2),(3,x3),(12,x12)] H
def R18_Store_Read_J1 (x0 x2 x3 x10:AV) (H0 H:Hp):Res:=CXgR 76 53 (sub (bodyOf Tryz.f76) [1,1,1]) (retL cfg 53 76 Tryz.f76 H0) [(0,x0),(2,x2),(3,x3),(10,x10)] H
def F_R18_Store_Read (p0 p1 p2 p3:AV) (H:Hp):Res:=
 bnd (C_R18_Store_begin [p0,p1] H) fun r16=>
 bnd (aext r16.1 0) fun t17=>
 bnd (aext r16.1 1) fun t18=>
 bnd (ibin .neq t18 (.int .i64 0)) fun t20=>
 cnd t20
  (some ((.tuple [(.str []),t18]),r16.2))
  (R18_Store_Read_J1 p0 p2 p3 t17 H r16.2)
theorem R18_Store_Read_J2_eq (x2 x3 x12:AV) (H0 H:Hp):R18_Store_Read_J2 x2 x3 x12 H0 H =
    bnd (alenD .string x12) fun t47=>
    bnd (ibin .sub t47 x2) fun t49=>
    bnd (amin2 x3 t49) fun t50=>
    bnd (ibin .add x2 t50) fun t51=>
    bnd (asliceS x12 (some x2) (some t51) none) fun t52=>
    some ((.tuple [t52,(.int .i64 0)]),H):=(CXM_eq [4,7] _ _ _ _).trans (by kernel_rfl)
theorem R18_Store_Read_J1_eq (x0 x2 x3 x10:AV) (H0 H:Hp):R18_Store_Read_J1 x0 x2 x3 x10 H0 H =
    bnd (anil x0) fun t23=>
    bnd (afield 1 t23) fun t24=>
    bnd (aload false 1 t24 H) fun t25=>
    bnd (aindexS 3 t25 x10) fun t27=>
    bnd (afield 1 t27) fun t28=>
    bnd (aload false 1 t28 H) fun t29=>
    bnd (ibin .lss x2 (.int .i64 0)) fun t31=>
    bnd (gdv t31 false (.tuple []) (some x2)) fun t33=>
    bnd (gdv t31 false (.tuple []) (some t29)) fun t34=>
    bnd (gdv t31 false (.tuple []) (alenD .string t34)) fun t35=>
    bnd (gdv t31 false (.tuple []) (ibin .gtr t33 t35)) fun t36=>
    bnd (apick t31 (.bool true) t36) fun t37=>
    bnd (gdv t37 false (.tuple []) (some x3)) fun t39=>
    bnd (gdv t37 false (.tuple []) (ibin .lss t39 (.int .i64 0))) fun t40=>
    bnd (apick t37 (.bool true) t40) fun t41=>
    cnd t41
     (some ((.tuple [(.str []),(.int .i64 2)]),H))
     (R18_Store_Read_J2 x2 x3 t29 H0 H):=(CXM_eq [4,7] _ _ _ _).trans (by kernel_rfl)
theorem F_R18_Store_Read_eq (p0 p1 p2 p3:AV) (H:Hp):C_R18_Store_Read [p0,p1,p2,p3] H=F_R18_Store_Read p0 p1 p2 p3 H:=(callw_cxm (C:=cfg) (fn:=Tryz.f76) (c:=bodyOf Tryz.f76) (n:=53) [4,7] Tryz.func76 (by kernel_rfl) (by kernel_rfl) [p0,p1,p2,p3] (by kernel_rfl) H).trans (by kernel_rfl)

def R17_Next_J5 (x0 x1 x7:AV) (H0 H:Hp):Res:=CXgR 77 69 (sub (bodyOf Tryz.f77) [1,1,1,1,1,1,1]) (retL cfg 69 77 Tryz.f77 H0) [(0,x0),(1,x1),(7,x7)] H
def R17_Next_J4 (x0 x1 x7:AV) (H0 H:Hp):Res:=CXgR 77 69 (sub (bodyOf Tryz.f77) [1,1,1,1,1,1]) (retL cfg 69 77 Tryz.f77 H0) [(0,x0),(1,x1),(7,x7)] H
def R17_Next_J3 (x0 x1 x7:AV) (H0 H:Hp):Res:=CXgR 77 69 (sub (bodyOf Tryz.f77) [1,1,1,1,1]) (retL cfg 69 77 Tryz.f77 H0) [(0,x0),(1,x1),(7,x7)] H
def R17_Next_J2 (x0 x1:AV) (H0 H:Hp):Res:=CXgR 77 69 (sub (bodyOf Tryz.f77) [1,1,1]) (retL cfg 69 77 Tryz.f77 H0) [(0,x0),(1,x1)] H
def R17_Next_J1 (x0 x1:AV) (H0 H:Hp):Res:=CXgR 77 69 (sub (bodyOf Tryz.f77) [1,1]) (retL cfg 69 77 Tryz.f77 H0) [(0,x0),(1,x1)] H
def F_R17_Next (p0 p1:AV) (H:Hp):Res:=
 bnd (ibin .lss p1 (.int .i64 0)) fun t9=>
 bnd (gdv t9 false (.tuple []) (some p1)) fun t11=>
 bnd (gdv t9 false (.tuple []) (some p0)) fun t12=>
 bnd (gdv t9 false (.tuple []) (alenD .string t12)) fun t13=>
 bnd (gdv t9 false (.tuple []) (ibin .gtr t11 t13)) fun t14=>
 bnd (apick t9 (.bool true) t14) fun t15=>
 cnd t15
  (some ((.tuple [(.str []),(.int .i64 0),(.int .i64 2)]),H))
  (R17_Next_J1 p0 p1 H H)
theorem R17_Next_J5_eq (x0 x1 x7:AV) (H0 H:Hp):R17_Next_J5 x0 x1 x7 H0 H =
    bnd (ibin .add x1 (.int .i64 2)) fun t59=>
    bnd (ibin .add x1 (.int .i64 2)) fun t61=>
    bnd (ibin .add t61 x7) fun t63=>
    bnd (asliceS x0 (some t59) (some t63) none) fun t64=>
    bnd (ibin .add x1 (.int .i64 6)) fun t66=>
    bnd (ibin .add t66 x7) fun t68=>
    some ((.tuple [t64,t68,(.int .i64 0)]),H):=(CXM_eq [3,5,8,10,12] _ _ _ _).trans (by kernel_rfl)
theorem R17_Next_J4_eq (x0 x1 x7:AV) (H0 H:Hp):R17_Next_J4 x0 x1 x7 H0 H =
    bnd (ibin .add x1 (.int .i64 2)) fun t44=>
    bnd (ibin .add t44 x7) fun t46=>
    bnd (asliceS x0 (some x1) (some t46) none) fun t47=>
    bnd (sealE.run [t47] H) fun r48=>
    bnd (ibin .add x1 (.int .i64 6)) fun t52=>
    bnd (ibin .add t52 x7) fun t54=>
    bnd (asliceS x0 (some x1) (some t54) none) fun t55=>
    bnd (sbin .neq r48.1 t55) fun t56=>
    cnd t56
     (some ((.tuple [(.str []),(.int .i64 0),(.int .i64 13)]),r48.2))
     (R17_Next_J5 x0 x1 x7 H0 r48.2):=(CXM_eq [3,5,8,10,12] _ _ _ _).trans (by kernel_rfl)
theorem R17_Next_J3_eq (x0 x1 x7:AV) (H0 H:Hp):R17_Next_J3 x0 x1 x7 H0 H =
    bnd (alenD .string x0) fun t35=>
    bnd (ibin .sub t35 x1) fun t37=>
    bnd (ibin .add x7 (.int .i64 6)) fun t39=>
    bnd (ibin .lss t37 t39) fun t40=>
    cnd t40
     (some ((.tuple [(.str []),(.int .i64 0),(.int .i64 14)]),H))
     (R17_Next_J4 x0 x1 x7 H0 H):=(CXM_eq [3,5,8,10,12] _ _ _ _).trans (by kernel_rfl)
theorem R17_Next_J2_eq (x0 x1:AV) (H0 H:Hp):R17_Next_J2 x0 x1 H0 H =
    bnd (aindexStr x0 x1) fun t23=>
    bnd (cvInt .i64 t23) fun t24=>
    bnd (ibin .mul t24 (.int .i64 256)) fun t25=>
    bnd (ibin .add x1 (.int .i64 1)) fun t28=>
    bnd (aindexStr x0 t28) fun t29=>
    bnd (cvInt .i64 t29) fun t30=>
    bnd (ibin .add t25 t30) fun t31=>
    bnd (ibin .gtr t31 (.int .i64 4096)) fun t33=>
    cnd t33
     (some ((.tuple [(.str []),(.int .i64 0),(.int .i64 13)]),H))
     (R17_Next_J3 x0 x1 t31 H0 H):=(CXM_eq [3,5,8,10,12] _ _ _ _).trans (by kernel_rfl)
theorem R17_Next_J1_eq (x0 x1:AV) (H0 H:Hp):R17_Next_J1 x0 x1 H0 H =
    bnd (alenD .string x0) fun t17=>
    bnd (ibin .sub t17 x1) fun t19=>
    bnd (ibin .lss t19 (.int .i64 2)) fun t20=>
    cnd t20
     (some ((.tuple [(.str []),(.int .i64 0),(.int .i64 14)]),H))
     (R17_Next_J2 x0 x1 H0 H):=(CXM_eq [3,5,8,10,12] _ _ _ _).trans (by kernel_rfl)
theorem F_R17_Next_eq (p0 p1:AV) (H:Hp):C_R17_Next [p0,p1] H=F_R17_Next p0 p1 H:=(callw_cxm (C:=cfg) (fn:=Tryz.f77) (c:=bodyOf Tryz.f77) (n:=69) [3,5,8,10,12] Tryz.func77 (by kernel_rfl) (by kernel_rfl) [p0,p1] (by kernel_rfl) H).trans (by kernel_rfl)

def R18_Store_Used_J1 (x3:AV) (H0 H:Hp):Res:=CXgR 78 22 (sub (bodyOf Tryz.f78) [1,1,1,1]) (retL cfg 22 78 Tryz.f78 H0) [(3,x3)] H
def R18_Store_Used_K1 (H0:Hp):KL:=seqL (fun k al H=>CXgR 78 22 (sub (bodyOf Tryz.f78) [1,1,1,1]) k (trimL (cfg.keep 78) (sub (bodyOf Tryz.f78) [1,1,1,1]) al) H) (retL cfg 22 78 Tryz.f78 H0)
theorem R18_Store_Used_K1_tame (H0:Hp):Tame 22 (R18_Store_Used_K1 H0):=tame_seq (C:=cfg) (kp:=cfg.keep 78) (sub (bodyOf Tryz.f78) [1,1,1,1]) (tame_ret 78 Tryz.f78 H0)
def R18_Store_Used_J3 (x3 x4 x5:AV) (H0 H:Hp):Res:=CXgR 78 22 (sub (bodyOf Tryz.f78) [1,1,1,0,1,0,0,1,1]) (seqL (fun k al H=>LPgR 78 22 (sub (bodyOf Tryz.f78) [1,1,1,0,1,0,0]) k (trimL (cfg.keep 78) (sub (bodyOf Tryz.f78) [1,1,1,0,1,0,0]) al) H) (blockL 0 (R18_Store_Used_K1 H0))) [(3,x3),(4,x4),(5,x5)] H
def R18_Store_Used_J2 (x3 x4 x5:AV) (H0 H:Hp):Res:=CXgR 78 22 (sub (bodyOf Tryz.f78) [1,1,1,0,1,0,0,1]) (seqL (fun k al H=>LPgR 78 22 (sub (bodyOf Tryz.f78) [1,1,1,0,1,0,0]) k (trimL (cfg.keep 78) (sub (bodyOf Tryz.f78) [1,1,1,0,1,0,0]) al) H) (blockL 0 (R18_Store_Used_K1 H0))) [(3,x3),(4,x4),(5,x5)] H
def R18_Store_Used_L1 (x3 x4 x5:AV) (H0 H:Hp):Res:=LPgR 78 22 (sub (bodyOf Tryz.f78) [1,1,1,0,1,0,0]) (blockL 0 (R18_Store_Used_K1 H0)) [(3,x3),(4,x4),(5,x5)] H
def F_R18_Store_Used (p0:AV) (H:Hp):Res:=
 bnd (roC C_R18_Store_List [p0] H) fun r7=>
 R18_Store_Used_L1 (.int .i64 0) r7.1 (.int .i64 0) H r7.2
theorem R18_Store_Used_J1_eq (x3:AV) (H0 H:Hp):R18_Store_Used_J1 x3 H0 H =
    some (x3,H):=(CXM_eq [5,6,7] _ _ _ _).trans (by kernel_rfl)
theorem R18_Store_Used_J3_eq (x3 x4 x5:AV) (H0 H:Hp):R18_Store_Used_J3 x3 x4 x5 H0 H =
    bnd (ibin .add x5 (.int .i64 1)) fun t13=>
    R18_Store_Used_L1 x3 x4 t13 H0 H:=(CXM_eq [5,6,7] _ _ _ _).trans (by kernel_rfl)
theorem R18_Store_Used_J2_eq (x3 x4 x5:AV) (H0 H:Hp):R18_Store_Used_J2 x3 x4 x5 H0 H =
    bnd (aindexS 3 x4 x5) fun t17=>
    bnd (afield 1 t17) fun t18=>
    bnd (aload false 1 t18 H) fun t19=>
    bnd (ibin .add x3 t19) fun t20=>
    R18_Store_Used_J3 t20 x4 x5 H0 H:=(CXM_eq [5,6,7] _ _ _ _).trans (by kernel_rfl)
theorem R18_Store_Used_L1_eq (x3 x4 x5:AV) (H0 H:Hp):R18_Store_Used_L1 x3 x4 x5 H0 H =
    bnd (alenD (.slice 57) x4) fun t10=>
    bnd (ibin .lss x5 t10) fun t11=>
    cnd t11
     (R18_Store_Used_J2 x3 x4 x5 H0 H)
     (R18_Store_Used_J1 x3 H0 H):=(LPL_eqm (C:=cfg) [5,6,7] (tame_block 0 (R18_Store_Used_K1_tame H0)) _ _).trans (by kernel_rfl)
theorem F_R18_Store_Used_eq (p0:AV) (H:Hp):C_R18_Store_Used [p0] H=F_R18_Store_Used p0 H:=(callw_cxm (C:=cfg) (fn:=Tryz.f78) (c:=bodyOf Tryz.f78) (n:=22) [5,6,7] Tryz.func78 (by kernel_rfl) (by kernel_rfl) [p0] (by kernel_rfl) H).trans (by kernel_rfl)

def R17_Record_J1 (x0:AV) (H0 H:Hp):Res:=CXgR 89 20 (sub (bodyOf Tryz.f89) [1,1]) (retL cfg 20 89 Tryz.f89 H0) [(0,x0)] H
def F_R17_Record (p0:AV) (H:Hp):Res:=
 bnd (alenD .string p0) fun t5=>
 bnd (ibin .gtr t5 (.int .i64 4096)) fun t6=>
 cnd t6
  (some ((.tuple [(.str []),(.int .i64 3)]),H))
  (R17_Record_J1 p0 H H)
theorem R17_Record_J1_eq (x0:AV) (H0 H:Hp):R17_Record_J1 x0 H0 H =
    bnd (alenD .string x0) fun t8=>
    bnd (ibin .quo t8 (.int .i64 256)) fun t9=>
    bnd (cvInt .u8 t9) fun t10=>
    bnd (alenD .string x0) fun t12=>
    bnd (ibin .rem t12 (.int .i64 256)) fun t13=>
    bnd (cvInt .u8 t13) fun t14=>
    bnd ((setElems 1 [(0,t10),(1,t14)] [(.int .u8 0),(.int .u8 0)]).map (.vs 1 .clip)) fun t15=>
    bnd (cvRd t15 H) fun t16=>
    bnd (sbin .add t16 x0) fun t18=>
    bnd (sealE.run [t18] H) fun r19=>
    some ((.tuple [r19.1,(.int .i64 0)]),r19.2):=(CXM_eq [3] _ _ _ _).trans (by kernel_rfl)
theorem F_R17_Record_eq (p0:AV) (H:Hp):C_R17_Record [p0] H=F_R17_Record p0 H:=(callw_cxm (C:=cfg) (fn:=Tryz.f89) (c:=bodyOf Tryz.f89) (n:=20) [3] Tryz.func89 (by kernel_rfl) (by kernel_rfl) [p0] (by kernel_rfl) H).trans (by kernel_rfl)

end
end Go.Am
