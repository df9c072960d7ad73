/-
  The functions of the translation over the abstract machine, a further part: written by program (wip/gen.py).
-/
import Derived.Test.YtebjpfbenjgglaaGreatDoorTzGx
namespace Go.Am
open Go.Proofs
set_option maxRecDepth 100000
set_option linter.unusedVariables false
set_option linter.unusedSimpArgs false
noncomputable abbrev CXgS (f n:Nat):=CXL cfg (callw cfg) (LPL cfg (cfg.keep f) n) (cfg.keep f) n seqL blockL
noncomputable abbrev LPgS (f n:Nat):=LPL cfg (cfg.keep f) n
noncomputable section

def F_store_New (p0:AV) (H:Hp):Res:=
 bnd (amax2 p0 (.int .i64 0)) fun t4=>
 bnd (amin2 t4 (.int .i64 262144)) fun t5=>
 bnd (some ((.map H.length),H++[.map [] 0])) fun r6=>
 bnd ((afill [(0,1,t5),(3,1,r6.1)] [(.int .i64 0),(.int .i64 0),(.int .i64 0),.nilm,(.bool false),(.int .i64 0)]).map .agg) fun t7=>
 bnd (abox t7 r6.2) fun r8=>
 some (r8.1,r8.2)
theorem F_store_New_eq (p0:AV) (H:Hp):C_store_New [p0] H=F_store_New p0 H:=(callw_cxm (C:=cfg) (fn:=Tryz.f7) (c:=bodyOf Tryz.f7) (n:=9) [] Tryz.func7 (by kernel_rfl) (by kernel_rfl) [p0] (by kernel_rfl) H).trans (by kernel_rfl)

def tempfile_Open_J3 (x0 x1 x2:AV) (H0 H:Hp):Res:=CXgS 9 39 (sub (bodyOf Tryz.f9) [1,1,1,1]) (retL cfg 39 9 Tryz.f9 H0) [(0,x0),(1,x1),(2,x2)] H
def tempfile_Open_K1 (H0:Hp):KL:=seqL (fun k al H=>CXgS 9 39 (sub (bodyOf Tryz.f9) [1,1,1,1]) k (trimL (cfg.keep 9) (sub (bodyOf Tryz.f9) [1,1,1,1]) al) H) (retL cfg 39 9 Tryz.f9 H0)
theorem tempfile_Open_K1_tame (H0:Hp):Tame 39 (tempfile_Open_K1 H0):=tame_seq (C:=cfg) (kp:=cfg.keep 9) (sub (bodyOf Tryz.f9) [1,1,1,1]) (tame_ret 9 Tryz.f9 H0)
def tempfile_Open_J5 (x0 x1 x2 x18 x19 x20:AV) (H0 H:Hp):Res:=CXgS 9 39 (sub (bodyOf Tryz.f9) [1,1,1,0,1,0,0,1,1,1]) (seqL (fun k al H=>LPgS 9 39 (sub (bodyOf Tryz.f9) [1,1,1,0,1,0,0]) k (trimL (cfg.keep 9) (sub (bodyOf Tryz.f9) [1,1,1,0,1,0,0]) al) H) (blockL 0 (tempfile_Open_K1 H0))) [(0,x0),(1,x1),(2,x2),(18,x18),(19,x19),(20,x20)] H
def tempfile_Open_J4 (x0 x1 x2 x18 x19 x20 x21:AV) (H0 H:Hp):Res:=CXgS 9 39 (sub (bodyOf Tryz.f9) [1,1,1,0,1,0,0,1,1]) (seqL (fun k al H=>LPgS 9 39 (sub (bodyOf Tryz.f9) [1,1,1,0,1,0,0]) k (trimL (cfg.keep 9) (sub (bodyOf Tryz.f9) [1,1,1,0,1,0,0]) al) H) (blockL 0 (tempfile_Open_K1 H0))) [(0,x0),(1,x1),(2,x2),(18,x18),(19,x19),(20,x20),(21,x21)] H
def tempfile_Open_L1 (x0 x1 x2 x18 x19 x20:AV) (H0 H:Hp):Res:=LPgS 9 39 (sub (bodyOf Tryz.f9) [1,1,1,0,1,0,0]) (blockL 0 (tempfile_Open_K1 H0)) [(0,x0),(1,x1),(2,x2),(18,x18),(19,x19),(20,x20)] H
def tempfile_Open_J2 (x0 x1 x2:AV) (H0 H:Hp):Res:=CXgS 9 39 (sub (bodyOf Tryz.f9) [1,1,1]) (retL cfg 39 9 Tryz.f9 H0) [(0,x0),(1,x1),(2,x2)] H
def tempfile_Open_J1 (x0 x1 x2:AV) (H0 H:Hp):Res:=CXgS 9 39 (sub (bodyOf Tryz.f9) [1,1]) (retL cfg 39 9 Tryz.f9 H0) [(0,x0),(1,x1),(2,x2)] H
def F_tempfile_Open (p0 p1 p2:AV) (H:Hp):Res:=
 bnd (ebin (.pointer 68) .eql p0 .nilp) fun t12=>
 cnd t12
  (some ((.tuple [.nilp,(.int .i64 5)]),H))
  (tempfile_Open_J1 p0 p1 p2 H H)
theorem tempfile_Open_J3_eq (x0 x1 x2:AV) (H0 H:Hp):tempfile_Open_J3 x0 x1 x2 H0 H =
    bnd (some ((.map H.length),H++[.map [] 0])) fun r33=>
    bnd ((afill [(0,1,x0),(1,1,x1),(3,1,r33.1)] [.nilp,(.str []),.nils,.nilm]).map .agg) fun t34=>
    bnd (amax2 (.int .i64 0) x2) fun t36=>
    bnd ((afill [(0,4,t34),(4,1,t36)] [.nilp,(.str []),.nils,.nilm,(.int .i64 0),(.int .i64 0),(.bool false)]).map .agg) fun t37=>
    bnd (abox t37 r33.2) fun r38=>
    some ((.tuple [r38.1,(.int .i64 0)]),r38.2):=(CXM_eq [3,5,7,11,12] _ _ _ _).trans (by kernel_rfl)
theorem tempfile_Open_J5_eq (x0 x1 x2 x18 x19 x20:AV) (H0 H:Hp):tempfile_Open_J5 x0 x1 x2 x18 x19 x20 H0 H =
    bnd (ibin .add x20 (.int .i64 1)) fun t30=>
    tempfile_Open_L1 x0 x1 x2 x18 x19 t30 H0 H:=(CXM_eq [3,5,7,11,12] _ _ _ _).trans (by kernel_rfl)
theorem tempfile_Open_J4_eq (x0 x1 x2 x18 x19 x20 x21:AV) (H0 H:Hp):tempfile_Open_J4 x0 x1 x2 x18 x19 x20 x21 H0 H =
    bnd (aindexS 1 x18 x20) fun t22=>
    bnd (aload false 1 t22 H) fun t23=>
    bnd (C_store_Store_Remove [x0,t23] H) fun r26=>
    bnd (ibin .neq r26.1 (.int .i64 0)) fun t28=>
    cnd t28
     (some ((.tuple [.nilp,r26.1]),r26.2))
     (tempfile_Open_J5 x0 x1 x2 x18 x19 x20 H0 r26.2):=(CXM_eq [3,5,7,11,12] _ _ _ _).trans (by kernel_rfl)
theorem tempfile_Open_L1_eq (x0 x1 x2 x18 x19 x20:AV) (H0 H:Hp):tempfile_Open_L1 x0 x1 x2 x18 x19 x20 H0 H =
    bnd (ibin .lss x20 x19) fun t21=>
    cnd t21
     (tempfile_Open_J4 x0 x1 x2 x18 x19 x20 t21 H0 H)
     (tempfile_Open_J3 x0 x1 x2 H0 H):=(LPL_eqm (C:=cfg) [3,5,7,11,12] (tame_block 0 (tempfile_Open_K1_tame H0)) _ _).trans (by kernel_rfl)
theorem tempfile_Open_J2_eq (x0 x1 x2:AV) (H0 H:Hp):tempfile_Open_J2 x0 x1 x2 H0 H =
    bnd (roC C_tempfile_Left [x0,x1] H) fun r18=>
    bnd (alenD (.slice 9) r18.1) fun t19=>
    tempfile_Open_L1 x0 x1 x2 r18.1 t19 (.int .i64 0) H0 r18.2:=(CXM_eq [3,5,7,11,12] _ _ _ _).trans (by kernel_rfl)
theorem tempfile_Open_J1_eq (x0 x1 x2:AV) (H0 H:Hp):tempfile_Open_J1 x0 x1 x2 H0 H =
    bnd (flatC C_tempfile_valid [x1] H) fun r14=>
    bnd (aun .not r14.1) fun t15=>
    cnd t15
     (some ((.tuple [.nilp,(.int .i64 4)]),r14.2))
     (tempfile_Open_J2 x0 x1 x2 H0 r14.2):=(CXM_eq [3,5,7,11,12] _ _ _ _).trans (by kernel_rfl)
theorem F_tempfile_Open_eq (p0 p1 p2:AV) (H:Hp):C_tempfile_Open [p0,p1,p2] H=F_tempfile_Open p0 p1 p2 H:=(callw_cxm (C:=cfg) (fn:=Tryz.f9) (c:=bodyOf Tryz.f9) (n:=39) [3,5,7,11,12] Tryz.func9 (by kernel_rfl) (by kernel_rfl) [p0,p1,p2] (by kernel_rfl) H).trans (by kernel_rfl)

def tempfile_Temps_Used_J1 (x0:AV) (H0 H:Hp):Res:=CXgS 13 23 (sub (bodyOf Tryz.f13) [1,1]) (retL cfg 23 13 Tryz.f13 H0) [(0,x0)] H
def F_tempfile_Temps_Used (p0:AV) (H:Hp):Res:=
 bnd (ebin (.pointer 77) .eql p0 .nilp) fun t4=>
 bnd (gdv t4 false (.tuple []) (some p0)) fun t6=>
 bnd (gdv t4 false (.tuple []) (anil t6)) fun t7=>
 bnd (gdv t4 false (.tuple []) (afield 6 t7)) fun t8=>
 bnd (gdv t4 false (.tuple []) (aload false 1 t8 H)) fun t9=>
 bnd (apick t4 (.bool true) t9) fun t10=>
 bnd (gdv t10 false (.tuple []) (some p0)) fun t12=>
 bnd (gdv t10 false (.tuple []) (anil t12)) fun t13=>
 bnd (gdv t10 false (.tuple []) (afield 0 t13)) fun t14=>
 bnd (gdv t10 false (.tuple []) (afield 0 t14)) fun t15=>
 bnd (gdv t10 false (.tuple []) (aload false 1 t15 H)) fun t16=>
 bnd (gdv t10 false (.tuple []) (ebin (.pointer 68) .eql t16 .nilp)) fun t17=>
 bnd (apick t10 (.bool true) t17) fun t18=>
 cnd t18
  (some ((.int .i64 0),H))
  (tempfile_Temps_Used_J1 p0 H H)
theorem tempfile_Temps_Used_J1_eq (x0:AV) (H0 H:Hp):tempfile_Temps_Used_J1 x0 H0 H =
    bnd (anil x0) fun t20=>
    bnd (afield 0 t20) fun t21=>
    bnd (roC C_tempfile_owned_bytes [t21] H) fun r22=>
    some (r22.1,r22.2):=(CXM_eq [3] _ _ _ _).trans (by kernel_rfl)
theorem F_tempfile_Temps_Used_eq (p0:AV) (H:Hp):C_tempfile_Temps_Used [p0] H=F_tempfile_Temps_Used p0 H:=(callw_cxm (C:=cfg) (fn:=Tryz.f13) (c:=bodyOf Tryz.f13) (n:=23) [3] Tryz.func13 (by kernel_rfl) (by kernel_rfl) [p0] (by kernel_rfl) H).trans (by kernel_rfl)

def store_Store_List_J2 (x3:AV) (H0 H:Hp):Res:=CXgS 16 38 (sub (bodyOf Tryz.f16) [1,1,1,1]) (retL cfg 38 16 Tryz.f16 H0) [(3,x3)] H
def store_Store_List_K1 (H0:Hp):KL:=seqL (fun k al H=>CXgS 16 38 (sub (bodyOf Tryz.f16) [1,1,1,1]) k (trimL (cfg.keep 16) (sub (bodyOf Tryz.f16) [1,1,1,1]) al) H) (retL cfg 38 16 Tryz.f16 H0)
theorem store_Store_List_K1_tame (H0:Hp):Tame 38 (store_Store_List_K1 H0):=tame_seq (C:=cfg) (kp:=cfg.keep 16) (sub (bodyOf Tryz.f16) [1,1,1,1]) (tame_ret 16 Tryz.f16 H0)
def store_Store_List_J4 (x0 x3 x10 x11 x12:AV) (H0 H:Hp):Res:=CXgS 16 38 (sub (bodyOf Tryz.f16) [1,1,1,0,1,0,0,1,1,1]) (seqL (fun k al H=>LPgS 16 38 (sub (bodyOf Tryz.f16) [1,1,1,0,1,0,0]) k (trimL (cfg.keep 16) (sub (bodyOf Tryz.f16) [1,1,1,0,1,0,0]) al) H) (blockL 0 (store_Store_List_K1 H0))) [(0,x0),(3,x3),(10,x10),(11,x11),(12,x12)] H
def store_Store_List_J3 (x0 x3 x10 x11 x12 x13:AV) (H0 H:Hp):Res:=CXgS 16 38 (sub (bodyOf Tryz.f16) [1,1,1,0,1,0,0,1,1]) (seqL (fun k al H=>LPgS 16 38 (sub (bodyOf Tryz.f16) [1,1,1,0,1,0,0]) k (trimL (cfg.keep 16) (sub (bodyOf Tryz.f16) [1,1,1,0,1,0,0]) al) H) (blockL 0 (store_Store_List_K1 H0))) [(0,x0),(3,x3),(10,x10),(11,x11),(12,x12),(13,x13)] H
def store_Store_List_L1 (x0 x3 x10 x11 x12:AV) (H0 H:Hp):Res:=LPgS 16 38 (sub (bodyOf Tryz.f16) [1,1,1,0,1,0,0]) (blockL 0 (store_Store_List_K1 H0)) [(0,x0),(3,x3),(10,x10),(11,x11),(12,x12)] H
def store_Store_List_J1 (x0:AV) (H0 H:Hp):Res:=CXgS 16 38 (sub (bodyOf Tryz.f16) [1,1]) (retL cfg 38 16 Tryz.f16 H0) [(0,x0)] H
def F_store_Store_List (p0:AV) (H:Hp):Res:=
 bnd (ebin (.pointer 68) .eql p0 .nilp) fun t8=>
 cnd t8
  (some (.nils,H))
  (store_Store_List_J1 p0 H H)
theorem store_Store_List_J2_eq (x3:AV) (H0 H:Hp):store_Store_List_J2 x3 H0 H =
    some (x3,H):=(CXM_eq [3,6,9,10] _ _ _ _).trans (by kernel_rfl)
theorem store_Store_List_J4_eq (x0 x3 x10 x11 x12:AV) (H0 H:Hp):store_Store_List_J4 x0 x3 x10 x11 x12 H0 H =
    bnd (ibin .add x12 (.int .i64 1)) fun t36=>
    store_Store_List_L1 x0 x3 x10 x11 t36 H0 H:=(CXM_eq [3,6,9,10] _ _ _ _).trans (by kernel_rfl)
theorem store_Store_List_J3_eq (x0 x3 x10 x11 x12 x13:AV) (H0 H:Hp):store_Store_List_J3 x0 x3 x10 x11 x12 x13 H0 H =
    bnd (aindexS 1 x10 x12) fun t14=>
    bnd (aload false 1 t14 H) fun t15=>
    bnd (anil x0) fun t17=>
    bnd (afield 3 t17) fun t18=>
    bnd (aload false 1 t18 H) fun t19=>
    bnd (alookup .string .nilp false t19 t15 H) fun t21=>
    bnd (anil t21) fun t25=>
    bnd (afield 0 t25) fun t26=>
    bnd (aload false 1 t26 H) fun t27=>
    bnd (alenD (.slice 5) t27) fun t28=>
    bnd (anil t21) fun t30=>
    bnd (afield 1 t30) fun t31=>
    bnd (aload false 1 t31 H) fun t32=>
    bnd ((afill [(0,1,t15),(1,1,t28),(2,1,t32)] [(.str []),(.int .i64 0),(.int .i64 0)]).map .agg) fun t33=>
    bnd ((setElems 3 [(0,t33)] [(.agg [(.str []),(.int .i64 0),(.int .i64 0)])]).map (.vs 3 .clip)) fun t34=>
    bnd (aappE 3 32 x3 t34 H) fun r35=>
    store_Store_List_J4 x0 r35.1 x10 x11 x12 H0 r35.2:=(CXM_eq [3,6,9,10] _ _ _ _).trans (by kernel_rfl)
theorem store_Store_List_L1_eq (x0 x3 x10 x11 x12:AV) (H0 H:Hp):store_Store_List_L1 x0 x3 x10 x11 x12 H0 H =
    bnd (ibin .lss x12 x11) fun t13=>
    cnd t13
     (store_Store_List_J3 x0 x3 x10 x11 x12 t13 H0 H)
     (store_Store_List_J2 x3 H0 H):=(LPL_eqm (C:=cfg) [3,6,9,10] (tame_block 0 (store_Store_List_K1_tame H0)) _ _).trans (by kernel_rfl)
theorem store_Store_List_J1_eq (x0:AV) (H0 H:Hp):store_Store_List_J1 x0 H0 H =
    bnd (namesE.run [x0] H) fun r10=>
    bnd (alenD (.slice 9) r10.1) fun t11=>
    store_Store_List_L1 x0 .nils r10.1 t11 (.int .i64 0) H0 r10.2:=(CXM_eq [3,6,9,10] _ _ _ _).trans (by kernel_rfl)
theorem F_store_Store_List_eq (p0:AV) (H:Hp):C_store_Store_List [p0] H=F_store_Store_List p0 H:=(callw_cxm (C:=cfg) (fn:=Tryz.f16) (c:=bodyOf Tryz.f16) (n:=38) [3,6,9,10] Tryz.func16 (by kernel_rfl) (by kernel_rfl) [p0] (by kernel_rfl) H).trans (by kernel_rfl)

def tempfile_Left_J2 (x5:AV) (H0 H:Hp):Res:=CXgS 19 56 (sub (bodyOf Tryz.f19) [1,1,1,1,1]) (retL cfg 56 19 Tryz.f19 H0) [(5,x5)] H
def tempfile_Left_K1 (H0:Hp):KL:=seqL (fun k al H=>CXgS 19 56 (sub (bodyOf Tryz.f19) [1,1,1,1,1]) k (trimL (cfg.keep 19) (sub (bodyOf Tryz.f19) [1,1,1,1,1]) al) H) (retL cfg 56 19 Tryz.f19 H0)
theorem tempfile_Left_K1_tame (H0:Hp):Tame 56 (tempfile_Left_K1 H0):=tame_seq (C:=cfg) (kp:=cfg.keep 19) (sub (bodyOf Tryz.f19) [1,1,1,1,1]) (tame_ret 19 Tryz.f19 H0)
def tempfile_Left_J4 (x5 x6 x21 x22 x23:AV) (H0 H:Hp):Res:=CXgS 19 56 (sub (bodyOf Tryz.f19) [1,1,1,1,0,1,0,0,1,1,1]) (seqL (fun k al H=>LPgS 19 56 (sub (bodyOf Tryz.f19) [1,1,1,1,0,1,0,0]) k (trimL (cfg.keep 19) (sub (bodyOf Tryz.f19) [1,1,1,1,0,1,0,0]) al) H) (blockL 0 (tempfile_Left_K1 H0))) [(5,x5),(6,x6),(21,x21),(22,x22),(23,x23)] H
def tempfile_Left_J3 (x5 x6 x21 x22 x23 x24:AV) (H0 H:Hp):Res:=CXgS 19 56 (sub (bodyOf Tryz.f19) [1,1,1,1,0,1,0,0,1,1]) (seqL (fun k al H=>LPgS 19 56 (sub (bodyOf Tryz.f19) [1,1,1,1,0,1,0,0]) k (trimL (cfg.keep 19) (sub (bodyOf Tryz.f19) [1,1,1,1,0,1,0,0]) al) H) (blockL 0 (tempfile_Left_K1 H0))) [(5,x5),(6,x6),(21,x21),(22,x22),(23,x23),(24,x24)] H
def tempfile_Left_L1 (x5 x6 x21 x22 x23:AV) (H0 H:Hp):Res:=LPgS 19 56 (sub (bodyOf Tryz.f19) [1,1,1,1,0,1,0,0]) (blockL 0 (tempfile_Left_K1 H0)) [(5,x5),(6,x6),(21,x21),(22,x22),(23,x23)] H
def tempfile_Left_J1 (x0 x1 x5:AV) (H0 H:Hp):Res:=CXgS 19 56 (sub (bodyOf Tryz.f19) [1,1,1]) (retL cfg 56 19 Tryz.f19 H0) [(0,x0),(1,x1),(5,x5)] H
def F_tempfile_Left (p0 p1:AV) (H:Hp):Res:=
 bnd (ebin (.pointer 68) .eql p0 .nilp) fun t11=>
 bnd (gdv t11 false (.tuple []) (some p1)) fun t13=>
 bnd (gdv t11 false ((.tuple []),H) (flatC C_tempfile_valid [t13] H)) fun r14=>
 bnd (gdv t11 false (.tuple []) (aun .not r14.1)) fun t15=>
 bnd (apick t11 (.bool true) t15) fun t16=>
 cnd t16
  (some (.nils,r14.2))
  (tempfile_Left_J1 p0 p1 .nils H r14.2)
theorem tempfile_Left_J2_eq (x5:AV) (H0 H:Hp):tempfile_Left_J2 x5 H0 H =
    some (x5,H):=(CXM_eq [4,7,11,12] _ _ _ _).trans (by kernel_rfl)
theorem tempfile_Left_J4_eq (x5 x6 x21 x22 x23:AV) (H0 H:Hp):tempfile_Left_J4 x5 x6 x21 x22 x23 H0 H =
    bnd (ibin .add x23 (.int .i64 1)) fun t54=>
    tempfile_Left_L1 x5 x6 x21 x22 t54 H0 H:=(CXM_eq [4,7,11,12] _ _ _ _).trans (by kernel_rfl)
theorem tempfile_Left_J3_eq (x5 x6 x21 x22 x23 x24:AV) (H0 H:Hp):tempfile_Left_J3 x5 x6 x21 x22 x23 x24 H0 H =
    bnd (aindexS 3 x21 x23) fun t25=>
    bnd (aload true 3 t25 H) fun t26=>
    bnd (some ((.ptr H.length 0),H++[.cells [(.str []),(.int .i64 0),(.int .i64 0)]])) fun r8=>
    bnd (astoreU 3 r8.1 t26 r8.2) fun r_9=>
    bnd (alenD .string x6) fun t28=>
    bnd (afield 0 r8.1) fun t29=>
    bnd (aload false 1 t29 r_9.2) fun t30=>
    bnd (alenD .string t30) fun t31=>
    bnd (ibin .gtr t31 t28) fun t33=>
    bnd (gdv t33 true (.tuple []) (afield 0 r8.1)) fun t35=>
    bnd (gdv t33 true (.tuple []) (aload false 1 t35 r_9.2)) fun t36=>
    bnd (gdv t33 true (.tuple []) (some t28)) fun t37=>
    bnd (gdv t33 true (.tuple []) (asliceS t36 none (some t37) none)) fun t38=>
    bnd (gdv t33 true (.tuple []) (some x6)) fun t39=>
    bnd (gdv t33 true (.tuple []) (sbin .eql t38 t39)) fun t40=>
    bnd (apick t33 t40 (.bool false)) fun t41=>
    bnd (gdv t41 true (.tuple []) (afield 0 r8.1)) fun t43=>
    bnd (gdv t41 true (.tuple []) (aload false 1 t43 r_9.2)) fun t44=>
    bnd (gdv t41 true (.tuple []) (some t28)) fun t45=>
    bnd (gdv t41 true (.tuple []) (asliceS t44 (some t45) none none)) fun t46=>
    bnd (gdv t41 true ((.tuple []),r_9.2) (flatC C_tempfile_numbered [t46] r_9.2)) fun r47=>
    bnd (apick t41 r47.1 (.bool false)) fun t48=>
    cnd t48
     (bnd (afield 0 r8.1) fun t50=>
     bnd (aload false 1 t50 r47.2) fun t51=>
     bnd ((setElems 1 [(0,t51)] [(.str [])]).map (.vs 1 .clip)) fun t52=>
     bnd (aappE 1 16 x5 t52 r47.2) fun r53=>
     tempfile_Left_J4 r53.1 x6 x21 x22 x23 H0 r53.2)
     (tempfile_Left_J4 x5 x6 x21 x22 x23 H0 r47.2):=(CXM_eq [4,7,11,12] _ _ _ _).trans (by kernel_rfl)
theorem tempfile_Left_L1_eq (x5 x6 x21 x22 x23:AV) (H0 H:Hp):tempfile_Left_L1 x5 x6 x21 x22 x23 H0 H =
    bnd (ibin .lss x23 x22) fun t24=>
    cnd t24
     (tempfile_Left_J3 x5 x6 x21 x22 x23 t24 H0 H)
     (tempfile_Left_J2 x5 H0 H):=(LPL_eqm (C:=cfg) [4,7,11,12] (tame_block 0 (tempfile_Left_K1_tame H0)) _ _).trans (by kernel_rfl)
theorem tempfile_Left_J1_eq (x0 x1 x5:AV) (H0 H:Hp):tempfile_Left_J1 x0 x1 x5 H0 H =
    bnd (flatC C_tempfile_prefix [x1] H) fun r19=>
    bnd (roC C_store_Store_List [x0] r19.2) fun r21=>
    bnd (alenD (.slice 57) r21.1) fun t22=>
    tempfile_Left_L1 x5 r19.1 r21.1 t22 (.int .i64 0) H0 r21.2:=(CXM_eq [4,7,11,12] _ _ _ _).trans (by kernel_rfl)
theorem F_tempfile_Left_eq (p0 p1:AV) (H:Hp):C_tempfile_Left [p0,p1] H=F_tempfile_Left p0 p1 H:=(callw_cxm (C:=cfg) (fn:=Tryz.f19) (c:=bodyOf Tryz.f19) (n:=56) [4,7,11,12] Tryz.func19 (by kernel_rfl) (by kernel_rfl) [p0,p1] (by kernel_rfl) H).trans (by kernel_rfl)

def store_Store_Restart_J3 (x0 x1 x18 x19 x20:AV) (H0 H:Hp):Res:=CXgS 21 84 (sub (bodyOf Tryz.f21) [1,1,1,0,0,1,1,1]) (seqL (fun k al H=>LPgS 21 84 (sub (bodyOf Tryz.f21) [1,1,1,0,0]) k (trimL (cfg.keep 21) (sub (bodyOf Tryz.f21) [1,1,1,0,0]) al) H) (blockL 0 (retL cfg 84 21 Tryz.f21 H0))) [(0,x0),(1,x1),(18,x18),(19,x19),(20,x20)] H
def store_Store_Restart_J2 (x0 x1 x18 x19 x20 x21:AV) (H0 H:Hp):Res:=CXgS 21 84 (sub (bodyOf Tryz.f21) [1,1,1,0,0,1,1]) (seqL (fun k al H=>LPgS 21 84 (sub (bodyOf Tryz.f21) [1,1,1,0,0]) k (trimL (cfg.keep 21) (sub (bodyOf Tryz.f21) [1,1,1,0,0]) al) H) (blockL 0 (retL cfg 84 21 Tryz.f21 H0))) [(0,x0),(1,x1),(18,x18),(19,x19),(20,x20),(21,x21)] H
def store_Store_Restart_L1 (x0 x1 x18 x19 x20:AV) (H0 H:Hp):Res:=LPgS 21 84 (sub (bodyOf Tryz.f21) [1,1,1,0,0]) (blockL 0 (retL cfg 84 21 Tryz.f21 H0)) [(0,x0),(1,x1),(18,x18),(19,x19),(20,x20)] H
def store_Store_Restart_J1 (x0 x1:AV) (H0 H:Hp):Res:=CXgS 21 84 (sub (bodyOf Tryz.f21) [1]) (retL cfg 84 21 Tryz.f21 H0) [(0,x0),(1,x1)] H
def F_store_Store_Restart (p0 p1:AV) (H:Hp):Res:=
 bnd (ebin (.pointer 68) .eql p0 .nilp) fun t10=>
 cnd t10
  (some ((.tuple []),H))
  (store_Store_Restart_J1 p0 p1 H H)
theorem store_Store_Restart_J3_eq (x0 x1 x18 x19 x20:AV) (H0 H:Hp):store_Store_Restart_J3 x0 x1 x18 x19 x20 H0 H =
    bnd (ibin .add x20 (.int .i64 1)) fun t83=>
    store_Store_Restart_L1 x0 x1 x18 x19 t83 H0 H:=(CXM_eq [1,4,10] _ _ _ _).trans (by kernel_rfl)
theorem store_Store_Restart_J2_eq (x0 x1 x18 x19 x20 x21:AV) (H0 H:Hp):store_Store_Restart_J2 x0 x1 x18 x19 x20 x21 H0 H =
    bnd (aindexS 1 x18 x20) fun t23=>
    bnd (aload false 1 t23 H) fun t24=>
    bnd (anil x0) fun t26=>
    bnd (afield 3 t26) fun t27=>
    bnd (aload false 1 t27 H) fun t28=>
    bnd (alookup .string .nilp false t28 t24 H) fun t30=>
    bnd (ibin .rem x20 (.int .i64 8)) fun t33=>
    bnd (ibin .mul (.int .i64 8) t33) fun t34=>
    bnd (ibin .shr x1 t34) fun t35=>
    bnd (ibin .rem t35 (.int .u64 256)) fun t36=>
    bnd (cvInt .i64 t36) fun t37=>
    bnd (anil t30) fun t39=>
    bnd (afield 1 t39) fun t40=>
    bnd (aload false 1 t40 H) fun t41=>
    bnd (anil t30) fun t44=>
    bnd (afield 0 t44) fun t45=>
    bnd (aload false 1 t45 H) fun t46=>
    bnd (alenD (.slice 5) t46) fun t47=>
    bnd (anil t30) fun t49=>
    bnd (afield 1 t49) fun t50=>
    bnd (aload false 1 t50 H) fun t51=>
    bnd (ibin .sub t47 t51) fun t52=>
    bnd (amin2 t37 t52) fun t53=>
    bnd (ibin .add t41 t53) fun t54=>
    bnd (anil x0) fun t56=>
    bnd (afield 1 t56) fun t57=>
    bnd (aload false 1 t57 H) fun t58=>
    bnd (anil t30) fun t60=>
    bnd (afield 0 t60) fun t61=>
    bnd (aload false 1 t61 H) fun t62=>
    bnd (alenD (.slice 5) t62) fun t63=>
    bnd (ibin .sub t63 t54) fun t65=>
    bnd (ibin .sub t58 t65) fun t66=>
    bnd (anil x0) fun t67=>
    bnd (afield 1 t67) fun t68=>
    bnd (astoreU 1 t68 t66 H) fun r_46=>
    bnd (anil t30) fun t72=>
    bnd (afield 0 t72) fun t73=>
    bnd (aload false 1 t73 r_46.2) fun t74=>
    bnd (asliceV 1 t74 none (some t54) (some t54)) fun t77=>
    bnd (anil t30) fun t79=>
    bnd (afield 0 t79) fun t80=>
    bnd (astoreU 1 t80 t77 r_46.2) fun r_53=>
    bnd (anil t30) fun t81=>
    bnd (afield 1 t81) fun t82=>
    bnd (astoreU 1 t82 t54 r_53.2) fun r_56=>
    store_Store_Restart_J3 x0 x1 x18 x19 x20 H0 r_56.2:=(CXM_eq [1,4,10] _ _ _ _).trans (by kernel_rfl)
theorem store_Store_Restart_L1_eq (x0 x1 x18 x19 x20:AV) (H0 H:Hp):store_Store_Restart_L1 x0 x1 x18 x19 x20 H0 H =
    bnd (ibin .lss x20 x19) fun t21=>
    cnd t21
     (store_Store_Restart_J2 x0 x1 x18 x19 x20 t21 H0 H)
     (some ((.tuple []),H)):=(LPL_eqm (C:=cfg) [1,4,10] (tame_block 0 (tame_ret 21 Tryz.f21 H0)) _ _).trans (by kernel_rfl)
theorem store_Store_Restart_J1_eq (x0 x1:AV) (H0 H:Hp):store_Store_Restart_J1 x0 x1 H0 H =
    bnd (anil x0) fun t13=>
    bnd (afield 4 t13) fun t14=>
    bnd (astoreU 1 t14 (.bool false) H) fun r_3=>
    bnd (anil x0) fun t15=>
    bnd (afield 5 t15) fun t16=>
    bnd (astoreU 1 t16 (.int .i64 0) r_3.2) fun r_6=>
    bnd (namesE.run [x0] r_6.2) fun r18=>
    bnd (alenD (.slice 9) r18.1) fun t19=>
    store_Store_Restart_L1 x0 x1 r18.1 t19 (.int .i64 0) H0 r18.2:=(CXM_eq [1,4,10] _ _ _ _).trans (by kernel_rfl)
theorem F_store_Store_Restart_eq (p0 p1:AV) (H:Hp):C_store_Store_Restart [p0,p1] H=F_store_Store_Restart p0 p1 H:=(callw_cxm (C:=cfg) (fn:=Tryz.f21) (c:=bodyOf Tryz.f21) (n:=84) [1,4,10] Tryz.func21 (by kernel_rfl) (by kernel_rfl) [p0,p1] (by kernel_rfl) H).trans (by kernel_rfl)

def tempfile_Temps_New_J3 (x0 x4:AV) (H0 H:Hp):Res:=CXgS 25 63 (sub (bodyOf Tryz.f25) [1,1,1,1,1]) (retL cfg 63 25 Tryz.f25 H0) [(0,x0),(4,x4)] H
def tempfile_Temps_New_J2 (x0:AV) (H0 H:Hp):Res:=CXgS 25 63 (sub (bodyOf Tryz.f25) [1,1,1]) (retL cfg 63 25 Tryz.f25 H0) [(0,x0)] H
def tempfile_Temps_New_J1 (x0:AV) (H0 H:Hp):Res:=CXgS 25 63 (sub (bodyOf Tryz.f25) [1,1]) (retL cfg 63 25 Tryz.f25 H0) [(0,x0)] H
def F_tempfile_Temps_New (p0:AV) (H:Hp):Res:=
 bnd (ebin (.pointer 77) .eql p0 .nilp) fun t7=>
 cnd t7
  (some ((.tuple [(.str []),(.int .i64 5)]),H))
  (tempfile_Temps_New_J1 p0 H H)
theorem tempfile_Temps_New_J3_eq (x0 x4:AV) (H0 H:Hp):tempfile_Temps_New_J3 x0 x4 H0 H =
    bnd (anil x0) fun t44=>
    bnd (afield 5 t44) fun t45=>
    bnd (aload false 1 t45 H) fun t46=>
    bnd (ibin .add t46 (.int .i64 1)) fun t47=>
    bnd (anil x0) fun t48=>
    bnd (afield 5 t48) fun t49=>
    bnd (astoreU 1 t49 t47 H) fun r_18=>
    bnd (anil x0) fun t52=>
    bnd (afield 0 t52) fun t53=>
    bnd (afield 2 t53) fun t54=>
    bnd (aload false 1 t54 r_18.2) fun t55=>
    bnd ((setElems 1 [(0,x4)] [(.str [])]).map (.vs 1 .clip)) fun t57=>
    bnd (aappE 1 16 t55 t57 r_18.2) fun r58=>
    bnd (anil x0) fun t59=>
    bnd (afield 0 t59) fun t60=>
    bnd (afield 2 t60) fun t61=>
    bnd (astoreU 1 t61 r58.1 r58.2) fun r_28=>
    some ((.tuple [x4,(.int .i64 0)]),r_28.2):=(CXM_eq [3,5,9] _ _ _ _).trans (by kernel_rfl)
theorem tempfile_Temps_New_J2_eq (x0:AV) (H0 H:Hp):tempfile_Temps_New_J2 x0 H0 H =
    bnd (anil x0) fun t21=>
    bnd (afield 0 t21) fun t22=>
    bnd (afield 1 t22) fun t23=>
    bnd (aload false 1 t23 H) fun t24=>
    bnd (flatC C_tempfile_prefix [t24] H) fun r25=>
    bnd (anil x0) fun t27=>
    bnd (afield 5 t27) fun t28=>
    bnd (aload false 1 t28 r25.2) fun t29=>
    bnd (ibin .add t29 (.int .i64 1)) fun t30=>
    bnd (flatC C_num_Format [t30] r25.2) fun r31=>
    bnd (sbin .add r25.1 r31.1) fun t32=>
    bnd (anil x0) fun t34=>
    bnd (afield 0 t34) fun t35=>
    bnd (afield 0 t35) fun t36=>
    bnd (aload false 1 t36 r31.2) fun t37=>
    bnd (C_store_Store_Create [t37,t32] r31.2) fun r39=>
    bnd (ibin .neq r39.1 (.int .i64 0)) fun t41=>
    cnd t41
     (some ((.tuple [(.str []),r39.1]),r39.2))
     (tempfile_Temps_New_J3 x0 t32 H0 r39.2):=(CXM_eq [3,5,9] _ _ _ _).trans (by kernel_rfl)
theorem tempfile_Temps_New_J1_eq (x0:AV) (H0 H:Hp):tempfile_Temps_New_J1 x0 H0 H =
    bnd (anil x0) fun t9=>
    bnd (afield 6 t9) fun t10=>
    bnd (aload false 1 t10 H) fun t11=>
    bnd (gdv t11 false (.tuple []) (some x0)) fun t13=>
    bnd (gdv t11 false (.tuple []) (anil t13)) fun t14=>
    bnd (gdv t11 false (.tuple []) (afield 0 t14)) fun t15=>
    bnd (gdv t11 false (.tuple []) (afield 0 t15)) fun t16=>
    bnd (gdv t11 false (.tuple []) (aload false 1 t16 H)) fun t17=>
    bnd (gdv t11 false (.tuple []) (ebin (.pointer 68) .eql t17 .nilp)) fun t18=>
    bnd (apick t11 (.bool true) t18) fun t19=>
    cnd t19
     (some ((.tuple [(.str []),(.int .i64 8)]),H))
     (tempfile_Temps_New_J2 x0 H0 H):=(CXM_eq [3,5,9] _ _ _ _).trans (by kernel_rfl)
theorem F_tempfile_Temps_New_eq (p0:AV) (H:Hp):C_tempfile_Temps_New [p0] H=F_tempfile_Temps_New p0 H:=(callw_cxm (C:=cfg) (fn:=Tryz.f25) (c:=bodyOf Tryz.f25) (n:=63) [3,5,9] Tryz.func25 (by kernel_rfl) (by kernel_rfl) [p0] (by kernel_rfl) H).trans (by kernel_rfl)

def tempfile_Temps_Write_J4 (x0 x1 x8:AV) (H0 H:Hp):Res:=CXgS 26 51 (sub (bodyOf Tryz.f26) [1,1,1,1,1,1]) (retL cfg 51 26 Tryz.f26 H0) [(0,x0),(1,x1),(8,x8)] H
def tempfile_Temps_Write_J3 (x0 x1 x8:AV) (H0 H:Hp):Res:=CXgS 26 51 (sub (bodyOf Tryz.f26) [1,1,1,1,1]) (retL cfg 51 26 Tryz.f26 H0) [(0,x0),(1,x1),(8,x8)] H
def tempfile_Temps_Write_J2 (x0 x1 x2:AV) (H0 H:Hp):Res:=CXgS 26 51 (sub (bodyOf Tryz.f26) [1,1,1]) (retL cfg 51 26 Tryz.f26 H0) [(0,x0),(1,x1),(2,x2)] H
def tempfile_Temps_Write_J1 (x0 x1 x2:AV) (H0 H:Hp):Res:=CXgS 26 51 (sub (bodyOf Tryz.f26) [1,1]) (retL cfg 51 26 Tryz.f26 H0) [(0,x0),(1,x1),(2,x2)] H
def F_tempfile_Temps_Write (p0 p1 p2:AV) (H:Hp):Res:=
 bnd (C_tempfile_Temps_find [p0,p1] H) fun r12=>
 bnd (ibin .neq r12.1 (.int .i64 0)) fun t14=>
 cnd t14
  (some (r12.1,r12.2))
  (tempfile_Temps_Write_J1 p0 p1 p2 H r12.2)
theorem tempfile_Temps_Write_J4_eq (x0 x1 x8:AV) (H0 H:Hp):tempfile_Temps_Write_J4 x0 x1 x8 H0 H =
    bnd (anil x0) fun t44=>
    bnd (afield 0 t44) fun t45=>
    bnd (afield 0 t45) fun t46=>
    bnd (aload false 1 t46 H) fun t47=>
    bnd (C_store_Store_Append [t47,x1,x8] H) fun r50=>
    some (r50.1,r50.2):=(CXM_eq [4,6,9,11] _ _ _ _).trans (by kernel_rfl)
theorem tempfile_Temps_Write_J3_eq (x0 x1 x8:AV) (H0 H:Hp):tempfile_Temps_Write_J3 x0 x1 x8 H0 H =
    bnd (alenD .string x8) fun t32=>
    bnd (anil x0) fun t34=>
    bnd (afield 4 t34) fun t35=>
    bnd (aload false 1 t35 H) fun t36=>
    bnd (anil x0) fun t38=>
    bnd (afield 0 t38) fun t39=>
    bnd (roC C_tempfile_owned_bytes [t39] H) fun r40=>
    bnd (ibin .sub t36 r40.1) fun t41=>
    bnd (ibin .gtr t32 t41) fun t42=>
    cnd t42
     (some ((.int .i64 11),r40.2))
     (tempfile_Temps_Write_J4 x0 x1 x8 H0 r40.2):=(CXM_eq [4,6,9,11] _ _ _ _).trans (by kernel_rfl)
theorem tempfile_Temps_Write_J2_eq (x0 x1 x2:AV) (H0 H:Hp):tempfile_Temps_Write_J2 x0 x1 x2 H0 H =
    bnd (flatC C_frame_Encode [x2] H) fun r25=>
    bnd (aext r25.1 0) fun t26=>
    bnd (aext r25.1 1) fun t27=>
    bnd (ibin .neq t27 (.int .i64 0)) fun t29=>
    cnd t29
     (some (t27,r25.2))
     (tempfile_Temps_Write_J3 x0 x1 t26 H0 r25.2):=(CXM_eq [4,6,9,11] _ _ _ _).trans (by kernel_rfl)
theorem tempfile_Temps_Write_J1_eq (x0 x1 x2:AV) (H0 H:Hp):tempfile_Temps_Write_J1 x0 x1 x2 H0 H =
    bnd (anil x0) fun t17=>
    bnd (afield 0 t17) fun t18=>
    bnd (afield 3 t18) fun t19=>
    bnd (aload false 1 t19 H) fun t20=>
    bnd (alookup .string (.bool false) false t20 x1 H) fun t22=>
    cnd t22
     (some ((.int .i64 8),H))
     (tempfile_Temps_Write_J2 x0 x1 x2 H0 H):=(CXM_eq [4,6,9,11] _ _ _ _).trans (by kernel_rfl)
theorem F_tempfile_Temps_Write_eq (p0 p1 p2:AV) (H:Hp):C_tempfile_Temps_Write [p0,p1,p2] H=F_tempfile_Temps_Write p0 p1 p2 H:=(callw_cxm (C:=cfg) (fn:=Tryz.f26) (c:=bodyOf Tryz.f26) (n:=51) [4,6,9,11] Tryz.func26 (by kernel_rfl) (by kernel_rfl) [p0,p1,p2] (by kernel_rfl) H).trans (by kernel_rfl)

def tempfile_Temps_Read_J4 (x2 x12 x13:AV) (H0 H:Hp):Res:=CXgS 27 49 (sub (bodyOf Tryz.f27) [1,1,1,1,1,1,1]) (retL cfg 49 27 Tryz.f27 H0) [(2,x2),(12,x12),(13,x13)] H
def tempfile_Temps_Read_J3 (x2 x10:AV) (H0 H:Hp):Res:=CXgS 27 49 (sub (bodyOf Tryz.f27) [1,1,1,1,1]) (retL cfg 49 27 Tryz.f27 H0) [(2,x2),(10,x10)] H
def tempfile_Temps_Read_J2 (x2 x10:AV) (H0 H:Hp):Res:=CXgS 27 49 (sub (bodyOf Tryz.f27) [1,1,1,1]) (retL cfg 49 27 Tryz.f27 H0) [(2,x2),(10,x10)] H
def tempfile_Temps_Read_J1 (x0 x1 x2:AV) (H0 H:Hp):Res:=CXgS 27 49 (sub (bodyOf Tryz.f27) [1,1]) (retL cfg 49 27 Tryz.f27 H0) [(0,x0),(1,x1),(2,x2)] H
def F_tempfile_Temps_Read (p0 p1 p2:AV) (H:Hp):Res:=
 bnd (C_tempfile_Temps_find [p0,p1] H) fun r16=>
 bnd (ibin .neq r16.1 (.int .i64 0)) fun t18=>
 cnd t18
  (some ((.tuple [(.str []),(.int .i64 0),r16.1]),r16.2))
  (tempfile_Temps_Read_J1 p0 p1 p2 H r16.2)
theorem tempfile_Temps_Read_J4_eq (x2 x12 x13:AV) (H0 H:Hp):tempfile_Temps_Read_J4 x2 x12 x13 H0 H =
    bnd (ibin .add x2 x13) fun t48=>
    some ((.tuple [x12,t48,(.int .i64 0)]),H):=(CXM_eq [4,7,9,12] _ _ _ _).trans (by kernel_rfl)
theorem tempfile_Temps_Read_J3_eq (x2 x10:AV) (H0 H:Hp):tempfile_Temps_Read_J3 x2 x10 H0 H =
    bnd (flatC C_frame_Next [x10,(.int .i64 0)] H) fun r38=>
    bnd (aext r38.1 0) fun t39=>
    bnd (aext r38.1 1) fun t40=>
    bnd (aext r38.1 2) fun t41=>
    bnd (ibin .neq t41 (.int .i64 0)) fun t43=>
    cnd t43
     (some ((.tuple [(.str []),(.int .i64 0),t41]),r38.2))
     (tempfile_Temps_Read_J4 x2 t39 t40 H0 r38.2):=(CXM_eq [4,7,9,12] _ _ _ _).trans (by kernel_rfl)
theorem tempfile_Temps_Read_J2_eq (x2 x10:AV) (H0 H:Hp):tempfile_Temps_Read_J2 x2 x10 H0 H =
    bnd (sbin .eql x10 (.str [])) fun t35=>
    cnd t35
     (some ((.tuple [(.str []),(.int .i64 0),(.int .i64 5)]),H))
     (tempfile_Temps_Read_J3 x2 x10 H0 H):=(CXM_eq [4,7,9,12] _ _ _ _).trans (by kernel_rfl)
theorem tempfile_Temps_Read_J1_eq (x0 x1 x2:AV) (H0 H:Hp):tempfile_Temps_Read_J1 x0 x1 x2 H0 H =
    bnd (anil x0) fun t22=>
    bnd (afield 0 t22) fun t23=>
    bnd (afield 0 t23) fun t24=>
    bnd (aload false 1 t24 H) fun t25=>
    bnd (C_store_Store_Read [t25,x1,x2,(.int .i64 4102)] H) fun r28=>
    bnd (aext r28.1 0) fun t29=>
    bnd (aext r28.1 1) fun t30=>
    bnd (ibin .neq t30 (.int .i64 0)) fun t32=>
    cnd t32
     (some ((.tuple [(.str []),(.int .i64 0),t30]),r28.2))
     (tempfile_Temps_Read_J2 x2 t29 H0 r28.2):=(CXM_eq [4,7,9,12] _ _ _ _).trans (by kernel_rfl)
theorem F_tempfile_Temps_Read_eq (p0 p1 p2:AV) (H:Hp):C_tempfile_Temps_Read [p0,p1,p2] H=F_tempfile_Temps_Read p0 p1 p2 H:=(callw_cxm (C:=cfg) (fn:=Tryz.f27) (c:=bodyOf Tryz.f27) (n:=49) [4,7,9,12] Tryz.func27 (by kernel_rfl) (by kernel_rfl) [p0,p1,p2] (by kernel_rfl) H).trans (by kernel_rfl)

def tempfile_Temps_Close_J3 (x0:AV) (H0 H:Hp):Res:=CXgS 28 47 (sub (bodyOf Tryz.f28) [1,1,1,1]) (retL cfg 47 28 Tryz.f28 H0) [(0,x0)] H
def tempfile_Temps_Close_K1 (H0:Hp):KL:=seqL (fun k al H=>CXgS 28 47 (sub (bodyOf Tryz.f28) [1,1,1,1]) k (trimL (cfg.keep 28) (sub (bodyOf Tryz.f28) [1,1,1,1]) al) H) (retL cfg 47 28 Tryz.f28 H0)
theorem tempfile_Temps_Close_K1_tame (H0:Hp):Tame 47 (tempfile_Temps_Close_K1 H0):=tame_seq (C:=cfg) (kp:=cfg.keep 28) (sub (bodyOf Tryz.f28) [1,1,1,1]) (tame_ret 28 Tryz.f28 H0)
def tempfile_Temps_Close_J5 (x0 x3:AV) (H0 H:Hp):Res:=CXgS 28 47 (sub (bodyOf Tryz.f28) [1,1,1,0,0,0,1,0,1,1]) (blockL 1 (seqL (fun k al H=>LPgS 28 47 (sub (bodyOf Tryz.f28) [1,1,1,0,0,0]) k (trimL (cfg.keep 28) (sub (bodyOf Tryz.f28) [1,1,1,0,0,0]) al) H) (blockL 0 (tempfile_Temps_Close_K1 H0)))) [(0,x0),(3,x3)] H
def tempfile_Temps_Close_J4 (x0:AV) (H0 H:Hp):Res:=CXgS 28 47 (sub (bodyOf Tryz.f28) [1,1,1,0,0,0,1]) (seqL (fun k al H=>LPgS 28 47 (sub (bodyOf Tryz.f28) [1,1,1,0,0,0]) k (trimL (cfg.keep 28) (sub (bodyOf Tryz.f28) [1,1,1,0,0,0]) al) H) (blockL 0 (tempfile_Temps_Close_K1 H0))) [(0,x0)] H
def tempfile_Temps_Close_L1 (x0:AV) (H0 H:Hp):Res:=LPgS 28 47 (sub (bodyOf Tryz.f28) [1,1,1,0,0,0]) (blockL 0 (tempfile_Temps_Close_K1 H0)) [(0,x0)] H
def tempfile_Temps_Close_J2 (x0:AV) (H0 H:Hp):Res:=CXgS 28 47 (sub (bodyOf Tryz.f28) [1,1,1]) (retL cfg 47 28 Tryz.f28 H0) [(0,x0)] H
def tempfile_Temps_Close_J1 (x0:AV) (H0 H:Hp):Res:=CXgS 28 47 (sub (bodyOf Tryz.f28) [1,1]) (retL cfg 47 28 Tryz.f28 H0) [(0,x0)] H
def F_tempfile_Temps_Close (p0:AV) (H:Hp):Res:=
 bnd (ebin (.pointer 77) .eql p0 .nilp) fun t6=>
 cnd t6
  (some ((.int .i64 5),H))
  (tempfile_Temps_Close_J1 p0 H H)
theorem tempfile_Temps_Close_J3_eq (x0:AV) (H0 H:Hp):tempfile_Temps_Close_J3 x0 H0 H =
    bnd (anil x0) fun t45=>
    bnd (afield 6 t45) fun t46=>
    bnd (astoreU 1 t46 (.bool true) H) fun r_3=>
    some ((.int .i64 0),r_3.2):=(CXM_eq [3,5,6,10,11] _ _ _ _).trans (by kernel_rfl)
theorem tempfile_Temps_Close_J5_eq (x0 x3:AV) (H0 H:Hp):tempfile_Temps_Close_J5 x0 x3 H0 H =
    bnd (anil x0) fun t40=>
    bnd (afield 0 t40) fun t41=>
    bnd (forgetE.run [t41,x3] H) fun r43=>
    tempfile_Temps_Close_L1 x0 H0 r43.2:=(CXM_eq [3,5,6,10,11] _ _ _ _).trans (by kernel_rfl)
theorem tempfile_Temps_Close_J4_eq (x0:AV) (H0 H:Hp):tempfile_Temps_Close_J4 x0 H0 H =
    bnd (anil x0) fun t19=>
    bnd (afield 0 t19) fun t20=>
    bnd (afield 2 t20) fun t21=>
    bnd (aload false 1 t21 H) fun t22=>
    bnd (aindexS 1 t22 (.int .i64 0)) fun t23=>
    bnd (aload false 1 t23 H) fun t24=>
    bnd (anil x0) fun t26=>
    bnd (afield 0 t26) fun t27=>
    bnd (afield 0 t27) fun t28=>
    bnd (aload false 1 t28 H) fun t29=>
    bnd (C_store_Store_Remove [t29,t24] H) fun r31=>
    bnd (ibin .neq r31.1 (.int .i64 0)) fun t33=>
    bnd (gdv t33 true (.tuple []) (some r31.1)) fun t35=>
    bnd (gdv t33 true (.tuple []) (ibin .neq t35 (.int .i64 5))) fun t36=>
    bnd (apick t33 t36 (.bool false)) fun t37=>
    cnd t37
     (some (r31.1,r31.2))
     (tempfile_Temps_Close_J5 x0 t24 H0 r31.2):=(CXM_eq [3,5,6,10,11] _ _ _ _).trans (by kernel_rfl)
theorem tempfile_Temps_Close_L1_eq (x0:AV) (H0 H:Hp):tempfile_Temps_Close_L1 x0 H0 H =
    bnd (anil x0) fun t12=>
    bnd (afield 0 t12) fun t13=>
    bnd (afield 2 t13) fun t14=>
    bnd (aload false 1 t14 H) fun t15=>
    bnd (alenD (.slice 9) t15) fun t16=>
    bnd (ibin .gtr t16 (.int .i64 0)) fun t17=>
    cnd t17
     (tempfile_Temps_Close_J4 x0 H0 H)
     (tempfile_Temps_Close_J3 x0 H0 H):=(LPL_eqm (C:=cfg) [3,5,6,10,11] (tame_block 0 (tempfile_Temps_Close_K1_tame H0)) _ _).trans (by kernel_rfl)
theorem tempfile_Temps_Close_J2_eq (x0:AV) (H0 H:Hp):tempfile_Temps_Close_J2 x0 H0 H =
    tempfile_Temps_Close_L1 x0 H0 H:=(CXM_eq [3,5,6,10,11] _ _ _ _).trans (by kernel_rfl)
theorem tempfile_Temps_Close_J1_eq (x0:AV) (H0 H:Hp):tempfile_Temps_Close_J1 x0 H0 H =
    bnd (anil x0) fun t8=>
    bnd (afield 6 t8) fun t9=>
    bnd (aload false 1 t9 H) fun t10=>
    cnd t10
     (some ((.int .i64 8),H))
     (tempfile_Temps_Close_J2 x0 H0 H):=(CXM_eq [3,5,6,10,11] _ _ _ _).trans (by kernel_rfl)
theorem F_tempfile_Temps_Close_eq (p0:AV) (H:Hp):C_tempfile_Temps_Close [p0] H=F_tempfile_Temps_Close p0 H:=(callw_cxm (C:=cfg) (fn:=Tryz.f28) (c:=bodyOf Tryz.f28) (n:=47) [3,5,6,10,11] Tryz.func28 (by kernel_rfl) (by kernel_rfl) [p0] (by kernel_rfl) H).trans (by kernel_rfl)

def tempfile_valid_J1 (x0:AV) (H0 H:Hp):Res:=CXgS 29 54 (sub (bodyOf Tryz.f29) [1,1]) (retL cfg 54 29 Tryz.f29 H0) [(0,x0)] H
def tempfile_valid_K1 (H0:Hp):KL:=seqL (fun k al H=>CXgS 29 54 (sub (bodyOf Tryz.f29) [1,1]) k (trimL (cfg.keep 29) (sub (bodyOf Tryz.f29) [1,1]) al) H) (retL cfg 54 29 Tryz.f29 H0)
theorem tempfile_valid_K1_tame (H0:Hp):Tame 54 (tempfile_valid_K1 H0):=tame_seq (C:=cfg) (kp:=cfg.keep 29) (sub (bodyOf Tryz.f29) [1,1]) (tame_ret 29 Tryz.f29 H0)
def tempfile_valid_J3 (x0 x7 x8:AV) (H0 H:Hp):Res:=CXgS 29 54 (sub (bodyOf Tryz.f29) [1,0,1,0,0,1,1,1]) (seqL (fun k al H=>LPgS 29 54 (sub (bodyOf Tryz.f29) [1,0,1,0,0]) k (trimL (cfg.keep 29) (sub (bodyOf Tryz.f29) [1,0,1,0,0]) al) H) (blockL 0 (tempfile_valid_K1 H0))) [(0,x0),(7,x7),(8,x8)] H
def tempfile_valid_J2 (x0 x7 x8 x9:AV) (H0 H:Hp):Res:=CXgS 29 54 (sub (bodyOf Tryz.f29) [1,0,1,0,0,1,1]) (seqL (fun k al H=>LPgS 29 54 (sub (bodyOf Tryz.f29) [1,0,1,0,0]) k (trimL (cfg.keep 29) (sub (bodyOf Tryz.f29) [1,0,1,0,0]) al) H) (blockL 0 (tempfile_valid_K1 H0))) [(0,x0),(7,x7),(8,x8),(9,x9)] H
def tempfile_valid_L1 (x0 x7 x8:AV) (H0 H:Hp):Res:=LPgS 29 54 (sub (bodyOf Tryz.f29) [1,0,1,0,0]) (blockL 0 (tempfile_valid_K1 H0)) [(0,x0),(7,x7),(8,x8)] H
def F_tempfile_valid (p0:AV) (H:Hp):Res:=
 bnd (alenD .string p0) fun t7=>
 tempfile_valid_L1 p0 t7 (.int .i64 0) H H
theorem tempfile_valid_J1_eq (x0:AV) (H0 H:Hp):tempfile_valid_J1 x0 H0 H =
    bnd (sbin .neq x0 (.str [])) fun t48=>
    bnd (gdv t48 true (.tuple []) (some x0)) fun t50=>
    bnd (gdv t48 true (.tuple []) (alenD .string t50)) fun t51=>
    bnd (gdv t48 true (.tuple []) (ibin .leq t51 (.int .i64 16))) fun t52=>
    bnd (apick t48 t52 (.bool false)) fun t53=>
    some (t53,H):=(CXM_eq [3,8,9] _ _ _ _).trans (by kernel_rfl)
theorem tempfile_valid_J3_eq (x0 x7 x8:AV) (H0 H:Hp):tempfile_valid_J3 x0 x7 x8 H0 H =
    bnd (ibin .add x8 (.int .i64 1)) fun t46=>
    tempfile_valid_L1 x0 x7 t46 H0 H:=(CXM_eq [3,8,9] _ _ _ _).trans (by kernel_rfl)
theorem tempfile_valid_J2_eq (x0 x7 x8 x9:AV) (H0 H:Hp):tempfile_valid_J2 x0 x7 x8 x9 H0 H =
    bnd (aindexStr x0 x8) fun t13=>
    bnd (ibin .eql t13 (.int .u8 95)) fun t15=>
    bnd (gdv t15 false (.tuple []) (some t13)) fun t17=>
    bnd (gdv t15 false (.tuple []) (ibin .geq t17 (.int .u8 97))) fun t18=>
    bnd (gdv t15 false (.tuple []) (some t18)) fun t19=>
    bnd (gdv t19 true (.tuple []) (some t13)) fun t20=>
    bnd (gdv t19 true (.tuple []) (ibin .leq t20 (.int .u8 122))) fun t21=>
    bnd (gdv t15 false (.tuple []) (apick t19 t21 (.bool false))) fun t22=>
    bnd (apick t15 (.bool true) t22) fun t23=>
    bnd (gdv t23 false (.tuple []) (some t13)) fun t25=>
    bnd (gdv t23 false (.tuple []) (ibin .geq t25 (.int .u8 65))) fun t26=>
    bnd (gdv t23 false (.tuple []) (some t26)) fun t27=>
    bnd (gdv t27 true (.tuple []) (some t13)) fun t28=>
    bnd (gdv t27 true (.tuple []) (ibin .leq t28 (.int .u8 90))) fun t29=>
    bnd (gdv t23 false (.tuple []) (apick t27 t29 (.bool false))) fun t30=>
    bnd (apick t23 (.bool true) t30) fun t31=>
    bnd (aun .not t31) fun t33=>
    bnd (gdv t33 true (.tuple []) (some x8)) fun t35=>
    bnd (gdv t33 true (.tuple []) (ibin .eql t35 (.int .i64 0))) fun t36=>
    bnd (gdv t33 true (.tuple []) (some t36)) fun t37=>
    bnd (gdv t37 false (.tuple []) (some t13)) fun t38=>
    bnd (gdv t37 false (.tuple []) (ibin .lss t38 (.int .u8 48))) fun t39=>
    bnd (gdv t33 true (.tuple []) (apick t37 (.bool true) t39)) fun t40=>
    bnd (gdv t33 true (.tuple []) (some t40)) fun t41=>
    bnd (gdv t41 false (.tuple []) (some t13)) fun t42=>
    bnd (gdv t41 false (.tuple []) (ibin .gtr t42 (.int .u8 57))) fun t43=>
    bnd (gdv t33 true (.tuple []) (apick t41 (.bool true) t43)) fun t44=>
    bnd (apick t33 t44 (.bool false)) fun t45=>
    cnd t45
     (some ((.bool false),H))
     (tempfile_valid_J3 x0 x7 x8 H0 H):=(CXM_eq [3,8,9] _ _ _ _).trans (by kernel_rfl)
theorem tempfile_valid_L1_eq (x0 x7 x8:AV) (H0 H:Hp):tempfile_valid_L1 x0 x7 x8 H0 H =
    bnd (ibin .lss x8 x7) fun t9=>
    cnd t9
     (tempfile_valid_J2 x0 x7 x8 t9 H0 H)
     (tempfile_valid_J1 x0 H0 H):=(LPL_eqm (C:=cfg) [3,8,9] (tame_block 0 (tempfile_valid_K1_tame H0)) _ _).trans (by kernel_rfl)
theorem F_tempfile_valid_eq (p0:AV) (H:Hp):C_tempfile_valid [p0] H=F_tempfile_valid p0 H:=(callw_cxm (C:=cfg) (fn:=Tryz.f29) (c:=bodyOf Tryz.f29) (n:=54) [3,8,9] Tryz.func29 (by kernel_rfl) (by kernel_rfl) [p0] (by kernel_rfl) H).trans (by kernel_rfl)

def store_Store_Remove_J1 (x6:AV) (H0 H:Hp):Res:=CXgS 30 19 (sub (bodyOf Tryz.f30) [1,1,1]) (retL cfg 19 30 Tryz.f30 H0) [(6,x6)] H
def F_store_Store_Remove (p0 p1:AV) (H:Hp):Res:=
 bnd (C_store_Store_open [p0,p1] H) fun r10=>
 bnd (aext r10.1 0) fun t11=>
 bnd (aext r10.1 1) fun t12=>
 bnd (ibin .eql t12 (.int .i64 0)) fun t14=>
 cnd t14
  (bnd (C_store_Store_drop [p0,p1] r10.2) fun r17=>
  store_Store_Remove_J1 t12 H r17.2)
  (store_Store_Remove_J1 t12 H r10.2)
theorem store_Store_Remove_J1_eq (x6:AV) (H0 H:Hp):store_Store_Remove_J1 x6 H0 H =
    some (x6,H):=(CXM_eq [4] _ _ _ _).trans (by kernel_rfl)
theorem F_store_Store_Remove_eq (p0 p1:AV) (H:Hp):C_store_Store_Remove [p0,p1] H=F_store_Store_Remove p0 p1 H:=(callw_cxm (C:=cfg) (fn:=Tryz.f30) (c:=bodyOf Tryz.f30) (n:=19) [4] Tryz.func30 (by kernel_rfl) (by kernel_rfl) [p0,p1] (by kernel_rfl) H).trans (by kernel_rfl)

def tempfile_Temps_Seal_J2 (x0 x1:AV) (H0 H:Hp):Res:=CXgS 32 29 (sub (bodyOf Tryz.f32) [1,1,1]) (retL cfg 29 32 Tryz.f32 H0) [(0,x0),(1,x1)] H
def tempfile_Temps_Seal_J1 (x0 x1:AV) (H0 H:Hp):Res:=CXgS 32 29 (sub (bodyOf Tryz.f32) [1,1]) (retL cfg 29 32 Tryz.f32 H0) [(0,x0),(1,x1)] H
def F_tempfile_Temps_Seal (p0 p1:AV) (H:Hp):Res:=
 bnd (C_tempfile_Temps_find [p0,p1] H) fun r9=>
 bnd (ibin .neq r9.1 (.int .i64 0)) fun t11=>
 cnd t11
  (some (r9.1,r9.2))
  (tempfile_Temps_Seal_J1 p0 p1 H r9.2)
theorem tempfile_Temps_Seal_J2_eq (x0 x1:AV) (H0 H:Hp):tempfile_Temps_Seal_J2 x0 x1 H0 H =
    bnd (anil x0) fun t24=>
    bnd (afield 0 t24) fun t25=>
    bnd (afield 3 t25) fun t26=>
    bnd (aload false 1 t26 H) fun t27=>
    bnd (amapSet .string t27 x1 (.bool true) H) fun r_5=>
    some ((.int .i64 0),r_5.2):=(CXM_eq [4,7] _ _ _ _).trans (by kernel_rfl)
theorem tempfile_Temps_Seal_J1_eq (x0 x1:AV) (H0 H:Hp):tempfile_Temps_Seal_J1 x0 x1 H0 H =
    bnd (anil x0) fun t14=>
    bnd (afield 0 t14) fun t15=>
    bnd (afield 0 t15) fun t16=>
    bnd (aload false 1 t16 H) fun t17=>
    bnd (C_store_Store_Sync [t17,x1] H) fun r19=>
    bnd (ibin .neq r19.1 (.int .i64 0)) fun t21=>
    cnd t21
     (some (r19.1,r19.2))
     (tempfile_Temps_Seal_J2 x0 x1 H0 r19.2):=(CXM_eq [4,7] _ _ _ _).trans (by kernel_rfl)
theorem F_tempfile_Temps_Seal_eq (p0 p1:AV) (H:Hp):C_tempfile_Temps_Seal [p0,p1] H=F_tempfile_Temps_Seal p0 p1 H:=(callw_cxm (C:=cfg) (fn:=Tryz.f32) (c:=bodyOf Tryz.f32) (n:=29) [4,7] Tryz.func32 (by kernel_rfl) (by kernel_rfl) [p0,p1] (by kernel_rfl) H).trans (by kernel_rfl)

def tempfile_Temps_Remove_J2 (x0 x1:AV) (H0 H:Hp):Res:=CXgS 33 28 (sub (bodyOf Tryz.f33) [1,1,1]) (retL cfg 28 33 Tryz.f33 H0) [(0,x0),(1,x1)] H
def tempfile_Temps_Remove_J1 (x0 x1:AV) (H0 H:Hp):Res:=CXgS 33 28 (sub (bodyOf Tryz.f33) [1,1]) (retL cfg 28 33 Tryz.f33 H0) [(0,x0),(1,x1)] H
def F_tempfile_Temps_Remove (p0 p1:AV) (H:Hp):Res:=
 bnd (C_tempfile_Temps_find [p0,p1] H) fun r9=>
 bnd (ibin .neq r9.1 (.int .i64 0)) fun t11=>
 cnd t11
  (some (r9.1,r9.2))
  (tempfile_Temps_Remove_J1 p0 p1 H r9.2)
theorem tempfile_Temps_Remove_J2_eq (x0 x1:AV) (H0 H:Hp):tempfile_Temps_Remove_J2 x0 x1 H0 H =
    bnd (anil x0) fun t24=>
    bnd (afield 0 t24) fun t25=>
    bnd (forgetE.run [t25,x1] H) fun r27=>
    some ((.int .i64 0),r27.2):=(CXM_eq [4,7] _ _ _ _).trans (by kernel_rfl)
theorem tempfile_Temps_Remove_J1_eq (x0 x1:AV) (H0 H:Hp):tempfile_Temps_Remove_J1 x0 x1 H0 H =
    bnd (anil x0) fun t14=>
    bnd (afield 0 t14) fun t15=>
    bnd (afield 0 t15) fun t16=>
    bnd (aload false 1 t16 H) fun t17=>
    bnd (C_store_Store_Remove [t17,x1] H) fun r19=>
    bnd (ibin .neq r19.1 (.int .i64 0)) fun t21=>
    cnd t21
     (some (r19.1,r19.2))
     (tempfile_Temps_Remove_J2 x0 x1 H0 r19.2):=(CXM_eq [4,7] _ _ _ _).trans (by kernel_rfl)
theorem F_tempfile_Temps_Remove_eq (p0 p1:AV) (H:Hp):C_tempfile_Temps_Remove [p0,p1] H=F_tempfile_Temps_Remove p0 p1 H:=(callw_cxm (C:=cfg) (fn:=Tryz.f33) (c:=bodyOf Tryz.f33) (n:=28) [4,7] Tryz.func33 (by kernel_rfl) (by kernel_rfl) [p0,p1] (by kernel_rfl) H).trans (by kernel_rfl)

def F_store_Store_FailAfter (p0 p1:AV) (H:Hp):Res:=
 bnd (ebin (.pointer 68) .neq p0 .nilp) fun t5=>
 bnd (gdv t5 true (.tuple []) (some p0)) fun t7=>
 bnd (gdv t5 true (.tuple []) (anil t7)) fun t8=>
 bnd (gdv t5 true (.tuple []) (afield 4 t8)) fun t9=>
 bnd (gdv t5 true (.tuple []) (aload false 1 t9 H)) fun t10=>
 bnd (gdv t5 true (.tuple []) (aun .not t10)) fun t11=>
 bnd (apick t5 t11 (.bool false)) fun t12=>
 cnd t12
  (bnd (amax2 p1 (.int .i64 0)) fun t15=>
  bnd (anil p0) fun t16=>
  bnd (afield 5 t16) fun t17=>
  bnd (astoreU 1 t17 t15 H) fun r_11=>
  some ((.tuple []),r_11.2))
  (some ((.tuple []),H))
theorem F_store_Store_FailAfter_eq (p0 p1:AV) (H:Hp):C_store_Store_FailAfter [p0,p1] H=F_store_Store_FailAfter p0 p1 H:=(callw_cxm (C:=cfg) (fn:=Tryz.f34) (c:=bodyOf Tryz.f34) (n:=18) [] Tryz.func34 (by kernel_rfl) (by kernel_rfl) [p0,p1] (by kernel_rfl) H).trans (by kernel_rfl)

def store_Store_Create_J2 (x0 x1:AV) (H0 H:Hp):Res:=CXgS 35 46 (sub (bodyOf Tryz.f35) [1,1,1]) (retL cfg 46 35 Tryz.f35 H0) [(0,x0),(1,x1)] H
def store_Store_Create_J1 (x0 x1:AV) (H0 H:Hp):Res:=CXgS 35 46 (sub (bodyOf Tryz.f35) [1,1]) (retL cfg 46 35 Tryz.f35 H0) [(0,x0),(1,x1)] H
def F_store_Store_Create (p0 p1:AV) (H:Hp):Res:=
 bnd (ebin (.pointer 68) .eql p0 .nilp) fun t7=>
 cnd t7
  (some ((.int .i64 5),H))
  (bnd (C_store_Store_begin [p0] H) fun r10=>
  cnd r10.1
   (some ((.int .i64 19),r10.2))
   (bnd (flatC C_store_fileName [p1] r10.2) fun r13=>
   bnd (aun .not r13.1) fun t14=>
   cnd t14
    (some ((.int .i64 4),r13.2))
    (bnd (anil p0) fun t17=>
    bnd (afield 3 t17) fun t18=>
    bnd (aload false 1 t18 r13.2) fun t19=>
    bnd (alookup .string .nilp false t19 p1 r13.2) fun t21=>
    bnd (ebin (.pointer 88) .neq t21 .nilp) fun t22=>
    cnd t22
     (some ((.int .i64 6),r13.2))
     (bnd (anil p0) fun t25=>
     bnd (afield 3 t25) fun t26=>
     bnd (aload false 1 t26 r13.2) fun t27=>
     bnd (alenM t27 r13.2) fun t28=>
     bnd (ibin .geq t28 (.int .i64 64)) fun t29=>
     cnd t29
      (some ((.int .i64 3),r13.2))
      (store_Store_Create_J1 p0 p1 H r13.2)))))
theorem store_Store_Create_J2_eq (x0 x1:AV) (H0 H:Hp):store_Store_Create_J2 x0 x1 H0 H =
    bnd (anil x0) fun t40=>
    bnd (afield 3 t40) fun t41=>
    bnd (aload false 1 t41 H) fun t42=>
    bnd (some (.agg [.nils,(.int .i64 0)])) fun t44=>
    bnd (abox t44 H) fun r45=>
    bnd (amapSet .string t42 x1 r45.1 r45.2) fun r_6=>
    some ((.int .i64 0),r_6.2):=(CXM_eq [11,13] _ _ _ _).trans (by kernel_rfl)
theorem store_Store_Create_J1_eq (x0 x1:AV) (H0 H:Hp):store_Store_Create_J1 x0 x1 H0 H =
    bnd (anil x0) fun t31=>
    bnd (afield 3 t31) fun t32=>
    bnd (aload false 1 t32 H) fun t33=>
    bnd (ebin (.map 9 85) .eql t33 .nilm) fun t34=>
    cnd t34
     (bnd (some ((.map H.length),H++[.map [] 0])) fun r36=>
     bnd (anil x0) fun t37=>
     bnd (afield 3 t37) fun t38=>
     bnd (astoreU 1 t38 r36.1 r36.2) fun r_14=>
     store_Store_Create_J2 x0 x1 H0 r_14.2)
     (store_Store_Create_J2 x0 x1 H0 H):=(CXM_eq [11,13] _ _ _ _).trans (by kernel_rfl)
theorem F_store_Store_Create_eq (p0 p1:AV) (H:Hp):C_store_Store_Create [p0,p1] H=F_store_Store_Create p0 p1 H:=(callw_cxm (C:=cfg) (fn:=Tryz.f35) (c:=bodyOf Tryz.f35) (n:=46) [11,13] Tryz.func35 (by kernel_rfl) (by kernel_rfl) [p0,p1] (by kernel_rfl) H).trans (by kernel_rfl)

def store_Store_Append_J2 (x0 x2 x7:AV) (H0 H:Hp):Res:=CXgS 36 60 (sub (bodyOf Tryz.f36) [1,1,1,1]) (retL cfg 60 36 Tryz.f36 H0) [(0,x0),(2,x2),(7,x7)] H
def store_Store_Append_J1 (x0 x2 x7:AV) (H0 H:Hp):Res:=CXgS 36 60 (sub (bodyOf Tryz.f36) [1,1,1]) (retL cfg 60 36 Tryz.f36 H0) [(0,x0),(2,x2),(7,x7)] H
def F_store_Store_Append (p0 p1 p2:AV) (H:Hp):Res:=
 bnd (C_store_Store_open [p0,p1] H) fun r12=>
 bnd (aext r12.1 0) fun t13=>
 bnd (aext r12.1 1) fun t14=>
 bnd (ibin .neq t14 (.int .i64 0)) fun t16=>
 cnd t16
  (some (t14,r12.2))
  (store_Store_Append_J1 p0 p2 t13 H r12.2)
theorem store_Store_Append_J2_eq (x0 x2 x7:AV) (H0 H:Hp):store_Store_Append_J2 x0 x2 x7 H0 H =
    bnd (anil x7) fun t32=>
    bnd (afield 0 t32) fun t33=>
    bnd (aload false 1 t33 H) fun t34=>
    bnd (aappE 1 1 t34 x2 H) fun r36=>
    bnd (anil x7) fun t37=>
    bnd (afield 0 t37) fun t38=>
    bnd (astoreU 1 t38 r36.1 r36.2) fun r_10=>
    bnd (anil x0) fun t40=>
    bnd (afield 1 t40) fun t41=>
    bnd (aload false 1 t41 r_10.2) fun t42=>
    bnd (alenD .string x2) fun t44=>
    bnd (ibin .add t42 t44) fun t45=>
    bnd (anil x0) fun t46=>
    bnd (afield 1 t46) fun t47=>
    bnd (astoreU 1 t47 t45 r_10.2) fun r_18=>
    bnd (anil x0) fun t50=>
    bnd (afield 2 t50) fun t51=>
    bnd (aload false 1 t51 r_18.2) fun t52=>
    bnd (anil x0) fun t54=>
    bnd (afield 1 t54) fun t55=>
    bnd (aload false 1 t55 r_18.2) fun t56=>
    bnd (amax2 t52 t56) fun t57=>
    bnd (anil x0) fun t58=>
    bnd (afield 2 t58) fun t59=>
    bnd (astoreU 1 t59 t57 r_18.2) fun r_28=>
    some ((.int .i64 0),r_28.2):=(CXM_eq [4,6] _ _ _ _).trans (by kernel_rfl)
theorem store_Store_Append_J1_eq (x0 x2 x7:AV) (H0 H:Hp):store_Store_Append_J1 x0 x2 x7 H0 H =
    bnd (anil x0) fun t19=>
    bnd (afield 1 t19) fun t20=>
    bnd (aload false 1 t20 H) fun t21=>
    bnd (alenD .string x2) fun t23=>
    bnd (ibin .add t21 t23) fun t24=>
    bnd (anil x0) fun t26=>
    bnd (afield 0 t26) fun t27=>
    bnd (aload false 1 t27 H) fun t28=>
    bnd (ibin .gtr t24 t28) fun t29=>
    cnd t29
     (some ((.int .i64 12),H))
     (store_Store_Append_J2 x0 x2 x7 H0 H):=(CXM_eq [4,6] _ _ _ _).trans (by kernel_rfl)
theorem F_store_Store_Append_eq (p0 p1 p2:AV) (H:Hp):C_store_Store_Append [p0,p1,p2] H=F_store_Store_Append p0 p1 p2 H:=(callw_cxm (C:=cfg) (fn:=Tryz.f36) (c:=bodyOf Tryz.f36) (n:=60) [4,6] Tryz.func36 (by kernel_rfl) (by kernel_rfl) [p0,p1,p2] (by kernel_rfl) H).trans (by kernel_rfl)

def tempfile_owned_bytes_J1 (x3:AV) (H0 H:Hp):Res:=CXgS 47 29 (sub (bodyOf Tryz.f47) [1,1,1]) (retL cfg 29 47 Tryz.f47 H0) [(3,x3)] H
def tempfile_owned_bytes_K1 (H0:Hp):KL:=seqL (fun k al H=>CXgS 47 29 (sub (bodyOf Tryz.f47) [1,1,1]) k (trimL (cfg.keep 47) (sub (bodyOf Tryz.f47) [1,1,1]) al) H) (retL cfg 29 47 Tryz.f47 H0)
theorem tempfile_owned_bytes_K1_tame (H0:Hp):Tame 29 (tempfile_owned_bytes_K1 H0):=tame_seq (C:=cfg) (kp:=cfg.keep 47) (sub (bodyOf Tryz.f47) [1,1,1]) (tame_ret 47 Tryz.f47 H0)
def tempfile_owned_bytes_J3 (x0 x3 x10 x11 x12:AV) (H0 H:Hp):Res:=CXgS 47 29 (sub (bodyOf Tryz.f47) [1,1,0,1,0,0,1,1,1]) (seqL (fun k al H=>LPgS 47 29 (sub (bodyOf Tryz.f47) [1,1,0,1,0,0]) k (trimL (cfg.keep 47) (sub (bodyOf Tryz.f47) [1,1,0,1,0,0]) al) H) (blockL 0 (tempfile_owned_bytes_K1 H0))) [(0,x0),(3,x3),(10,x10),(11,x11),(12,x12)] H
def tempfile_owned_bytes_J2 (x0 x3 x10 x11 x12 x13:AV) (H0 H:Hp):Res:=CXgS 47 29 (sub (bodyOf Tryz.f47) [1,1,0,1,0,0,1,1]) (seqL (fun k al H=>LPgS 47 29 (sub (bodyOf Tryz.f47) [1,1,0,1,0,0]) k (trimL (cfg.keep 47) (sub (bodyOf Tryz.f47) [1,1,0,1,0,0]) al) H) (blockL 0 (tempfile_owned_bytes_K1 H0))) [(0,x0),(3,x3),(10,x10),(11,x11),(12,x12),(13,x13)] H
def tempfile_owned_bytes_L1 (x0 x3 x10 x11 x12:AV) (H0 H:Hp):Res:=LPgS 47 29 (sub (bodyOf Tryz.f47) [1,1,0,1,0,0]) (blockL 0 (tempfile_owned_bytes_K1 H0)) [(0,x0),(3,x3),(10,x10),(11,x11),(12,x12)] H
def F_tempfile_owned_bytes (p0:AV) (H:Hp):Res:=
 bnd (anil p0) fun t7=>
 bnd (afield 0 t7) fun t8=>
 bnd (aload false 1 t8 H) fun t9=>
 bnd (roC C_store_Store_List [t9] H) fun r10=>
 bnd (alenD (.slice 57) r10.1) fun t11=>
 tempfile_owned_bytes_L1 p0 (.int .i64 0) r10.1 t11 (.int .i64 0) H r10.2
theorem tempfile_owned_bytes_J1_eq (x3:AV) (H0 H:Hp):tempfile_owned_bytes_J1 x3 H0 H =
    some (x3,H):=(CXM_eq [4,7,8] _ _ _ _).trans (by kernel_rfl)
theorem tempfile_owned_bytes_J3_eq (x0 x3 x10 x11 x12:AV) (H0 H:Hp):tempfile_owned_bytes_J3 x0 x3 x10 x11 x12 H0 H =
    bnd (ibin .add x12 (.int .i64 1)) fun t27=>
    tempfile_owned_bytes_L1 x0 x3 x10 x11 t27 H0 H:=(CXM_eq [4,7,8] _ _ _ _).trans (by kernel_rfl)
theorem tempfile_owned_bytes_J2_eq (x0 x3 x10 x11 x12 x13:AV) (H0 H:Hp):tempfile_owned_bytes_J2 x0 x3 x10 x11 x12 x13 H0 H =
    bnd (aindexS 3 x10 x12) fun t14=>
    bnd (aload true 3 t14 H) fun t15=>
    bnd (some ((.ptr H.length 0),H++[.cells [(.str []),(.int .i64 0),(.int .i64 0)]])) fun r5=>
    bnd (astoreU 3 r5.1 t15 r5.2) fun r_11=>
    bnd (anil x0) fun t17=>
    bnd (afield 2 t17) fun t18=>
    bnd (aload false 1 t18 r_11.2) fun t19=>
    bnd (afield 0 r5.1) fun t20=>
    bnd (aload false 1 t20 r_11.2) fun t21=>
    bnd (flatC C_slices_Contains_of_string_string [t19,t21] r_11.2) fun r22=>
    cnd r22.1
     (bnd (afield 1 r5.1) fun t24=>
     bnd (aload false 1 t24 r22.2) fun t25=>
     bnd (ibin .add x3 t25) fun t26=>
     tempfile_owned_bytes_J3 x0 t26 x10 x11 x12 H0 r22.2)
     (tempfile_owned_bytes_J3 x0 x3 x10 x11 x12 H0 r22.2):=(CXM_eq [4,7,8] _ _ _ _).trans (by kernel_rfl)
theorem tempfile_owned_bytes_L1_eq (x0 x3 x10 x11 x12:AV) (H0 H:Hp):tempfile_owned_bytes_L1 x0 x3 x10 x11 x12 H0 H =
    bnd (ibin .lss x12 x11) fun t13=>
    cnd t13
     (tempfile_owned_bytes_J2 x0 x3 x10 x11 x12 t13 H0 H)
     (tempfile_owned_bytes_J1 x3 H0 H):=(LPL_eqm (C:=cfg) [4,7,8] (tame_block 0 (tempfile_owned_bytes_K1_tame H0)) _ _).trans (by kernel_rfl)
theorem F_tempfile_owned_bytes_eq (p0:AV) (H:Hp):C_tempfile_owned_bytes [p0] H=F_tempfile_owned_bytes p0 H:=(callw_cxm (C:=cfg) (fn:=Tryz.f47) (c:=bodyOf Tryz.f47) (n:=29) [4,7,8] Tryz.func47 (by kernel_rfl) (by kernel_rfl) [p0] (by kernel_rfl) H).trans (by kernel_rfl)

def F_tempfile_prefix (p0:AV) (H:Hp):Res:=
 bnd (sbin .add (.str [46,116,109,112,46]) p0) fun t4=>
 bnd (sbin .add t4 (.str [46])) fun t5=>
 some (t5,H)
theorem F_tempfile_prefix_eq (p0:AV) (H:Hp):C_tempfile_prefix [p0] H=F_tempfile_prefix p0 H:=(callw_cxm (C:=cfg) (fn:=Tryz.f50) (c:=bodyOf Tryz.f50) (n:=6) [] Tryz.func50 (by kernel_rfl) (by kernel_rfl) [p0] (by kernel_rfl) H).trans (by kernel_rfl)

def tempfile_numbered_J1 (x0:AV) (H0 H:Hp):Res:=CXgS 51 27 (sub (bodyOf Tryz.f51) [1,1]) (retL cfg 27 51 Tryz.f51 H0) [(0,x0)] H
def tempfile_numbered_K1 (H0:Hp):KL:=seqL (fun k al H=>CXgS 51 27 (sub (bodyOf Tryz.f51) [1,1]) k (trimL (cfg.keep 51) (sub (bodyOf Tryz.f51) [1,1]) al) H) (retL cfg 27 51 Tryz.f51 H0)
theorem tempfile_numbered_K1_tame (H0:Hp):Tame 27 (tempfile_numbered_K1 H0):=tame_seq (C:=cfg) (kp:=cfg.keep 51) (sub (bodyOf Tryz.f51) [1,1]) (tame_ret 51 Tryz.f51 H0)
def tempfile_numbered_J3 (x0 x5 x6:AV) (H0 H:Hp):Res:=CXgS 51 27 (sub (bodyOf Tryz.f51) [1,0,1,0,0,1,1,1]) (seqL (fun k al H=>LPgS 51 27 (sub (bodyOf Tryz.f51) [1,0,1,0,0]) k (trimL (cfg.keep 51) (sub (bodyOf Tryz.f51) [1,0,1,0,0]) al) H) (blockL 0 (tempfile_numbered_K1 H0))) [(0,x0),(5,x5),(6,x6)] H
def tempfile_numbered_J2 (x0 x5 x6 x7:AV) (H0 H:Hp):Res:=CXgS 51 27 (sub (bodyOf Tryz.f51) [1,0,1,0,0,1,1]) (seqL (fun k al H=>LPgS 51 27 (sub (bodyOf Tryz.f51) [1,0,1,0,0]) k (trimL (cfg.keep 51) (sub (bodyOf Tryz.f51) [1,0,1,0,0]) al) H) (blockL 0 (tempfile_numbered_K1 H0))) [(0,x0),(5,x5),(6,x6),(7,x7)] H
def tempfile_numbered_L1 (x0 x5 x6:AV) (H0 H:Hp):Res:=LPgS 51 27 (sub (bodyOf Tryz.f51) [1,0,1,0,0]) (blockL 0 (tempfile_numbered_K1 H0)) [(0,x0),(5,x5),(6,x6)] H
def F_tempfile_numbered (p0:AV) (H:Hp):Res:=
 bnd (alenD .string p0) fun t5=>
 tempfile_numbered_L1 p0 t5 (.int .i64 0) H H
theorem tempfile_numbered_J1_eq (x0:AV) (H0 H:Hp):tempfile_numbered_J1 x0 H0 H =
    bnd (sbin .neq x0 (.str [])) fun t21=>
    bnd (gdv t21 true (.tuple []) (some x0)) fun t23=>
    bnd (gdv t21 true (.tuple []) (aindexStr t23 (.int .i64 0))) fun t24=>
    bnd (gdv t21 true (.tuple []) (ibin .neq t24 (.int .u8 48))) fun t25=>
    bnd (apick t21 t25 (.bool false)) fun t26=>
    some (t26,H):=(CXM_eq [3,6,7] _ _ _ _).trans (by kernel_rfl)
theorem tempfile_numbered_J3_eq (x0 x5 x6:AV) (H0 H:Hp):tempfile_numbered_J3 x0 x5 x6 H0 H =
    bnd (ibin .add x6 (.int .i64 1)) fun t19=>
    tempfile_numbered_L1 x0 x5 t19 H0 H:=(CXM_eq [3,6,7] _ _ _ _).trans (by kernel_rfl)
theorem tempfile_numbered_J2_eq (x0 x5 x6 x7:AV) (H0 H:Hp):tempfile_numbered_J2 x0 x5 x6 x7 H0 H =
    bnd (aindexStr x0 x6) fun t11=>
    bnd (ibin .lss t11 (.int .u8 48)) fun t12=>
    bnd (gdv t12 false (.tuple []) (some x0)) fun t14=>
    bnd (gdv t12 false (.tuple []) (some x6)) fun t15=>
    bnd (gdv t12 false (.tuple []) (aindexStr t14 t15)) fun t16=>
    bnd (gdv t12 false (.tuple []) (ibin .gtr t16 (.int .u8 57))) fun t17=>
    bnd (apick t12 (.bool true) t17) fun t18=>
    cnd t18
     (some ((.bool false),H))
     (tempfile_numbered_J3 x0 x5 x6 H0 H):=(CXM_eq [3,6,7] _ _ _ _).trans (by kernel_rfl)
theorem tempfile_numbered_L1_eq (x0 x5 x6:AV) (H0 H:Hp):tempfile_numbered_L1 x0 x5 x6 H0 H =
    bnd (ibin .lss x6 x5) fun t7=>
    cnd t7
     (tempfile_numbered_J2 x0 x5 x6 t7 H0 H)
     (tempfile_numbered_J1 x0 H0 H):=(LPL_eqm (C:=cfg) [3,6,7] (tame_block 0 (tempfile_numbered_K1_tame H0)) _ _).trans (by kernel_rfl)
theorem F_tempfile_numbered_eq (p0:AV) (H:Hp):C_tempfile_numbered [p0] H=F_tempfile_numbered p0 H:=(callw_cxm (C:=cfg) (fn:=Tryz.f51) (c:=bodyOf Tryz.f51) (n:=27) [3,6,7] Tryz.func51 (by kernel_rfl) (by kernel_rfl) [p0] (by kernel_rfl) H).trans (by kernel_rfl)

def F_num_Format (p0:AV) (H:Hp):Res:=
 bnd (sumC itoaA [p0] H) fun r4=>
 some (r4.1,r4.2)
theorem F_num_Format_eq (p0:AV) (H:Hp):C_num_Format [p0] H=F_num_Format p0 H:=(callw_cxm (C:=cfg) (fn:=Tryz.f59) (c:=bodyOf Tryz.f59) (n:=5) [] Tryz.func59 (by kernel_rfl) (by kernel_rfl) [p0] (by kernel_rfl) H).trans (by kernel_rfl)

def tempfile_Temps_find_J1 (H0 H:Hp):Res:=CXgS 60 22 (sub (bodyOf Tryz.f60) [1,1]) (retL cfg 22 60 Tryz.f60 H0) [] H
def F_tempfile_Temps_find (p0 p1:AV) (H:Hp):Res:=
 bnd (ebin (.pointer 77) .eql p0 .nilp) fun t7=>
 cnd t7
  (some ((.int .i64 5),H))
  (bnd (anil p0) fun t10=>
  bnd (afield 6 t10) fun t11=>
  bnd (aload false 1 t11 H) fun t12=>
  cnd t12
   (some ((.int .i64 8),H))
   (bnd (anil p0) fun t15=>
   bnd (afield 0 t15) fun t16=>
   bnd (afield 2 t16) fun t17=>
   bnd (aload false 1 t17 H) fun t18=>
   bnd (flatC C_slices_Contains_of_string_string [t18,p1] H) fun r20=>
   bnd (aun .not r20.1) fun t21=>
   cnd t21
    (some ((.int .i64 5),r20.2))
    (tempfile_Temps_find_J1 H r20.2)))
theorem tempfile_Temps_find_J1_eq (H0 H:Hp):tempfile_Temps_find_J1 H0 H =
    some ((.int .i64 0),H):=(CXM_eq [7] _ _ _ _).trans (by kernel_rfl)
theorem F_tempfile_Temps_find_eq (p0 p1:AV) (H:Hp):C_tempfile_Temps_find [p0,p1] H=F_tempfile_Temps_find p0 p1 H:=(callw_cxm (C:=cfg) (fn:=Tryz.f60) (c:=bodyOf Tryz.f60) (n:=22) [7] Tryz.func60 (by kernel_rfl) (by kernel_rfl) [p0,p1] (by kernel_rfl) H).trans (by kernel_rfl)

def frame_Encode_J1 (x4:AV) (H0 H:Hp):Res:=CXgS 61 27 (sub (bodyOf Tryz.f61) [1,1,1]) (retL cfg 27 61 Tryz.f61 H0) [(4,x4)] H
def frame_Encode_K1 (H0:Hp):KL:=seqL (fun k al H=>CXgS 61 27 (sub (bodyOf Tryz.f61) [1,1,1]) k (trimL (cfg.keep 61) (sub (bodyOf Tryz.f61) [1,1,1]) al) H) (retL cfg 27 61 Tryz.f61 H0)
theorem frame_Encode_K1_tame (H0:Hp):Tame 27 (frame_Encode_K1 H0):=tame_seq (C:=cfg) (kp:=cfg.keep 61) (sub (bodyOf Tryz.f61) [1,1,1]) (tame_ret 61 Tryz.f61 H0)
def frame_Encode_J3 (x4 x9 x10 x11:AV) (H0 H:Hp):Res:=CXgS 61 27 (sub (bodyOf Tryz.f61) [1,1,0,1,0,0,1,1,1]) (seqL (fun k al H=>LPgS 61 27 (sub (bodyOf Tryz.f61) [1,1,0,1,0,0]) k (trimL (cfg.keep 61) (sub (bodyOf Tryz.f61) [1,1,0,1,0,0]) al) H) (blockL 0 (frame_Encode_K1 H0))) [(4,x4),(9,x9),(10,x10),(11,x11)] H
def frame_Encode_K2 (H0:Hp):KL:=seqL (fun k al H=>CXgS 61 27 (sub (bodyOf Tryz.f61) [1,1,0,1,0,0,1,1,1]) k (trimL (cfg.keep 61) (sub (bodyOf Tryz.f61) [1,1,0,1,0,0,1,1,1]) al) H) (seqL (fun k al H=>LPgS 61 27 (sub (bodyOf Tryz.f61) [1,1,0,1,0,0]) k (trimL (cfg.keep 61) (sub (bodyOf Tryz.f61) [1,1,0,1,0,0]) al) H) (blockL 0 (frame_Encode_K1 H0)))
def frame_Encode_J4 (x4 x7 x9 x10 x11:AV) (H0 H:Hp):Res:=CXgS 61 27 (sub (bodyOf Tryz.f61) [1,1,0,1,0,0,1,1,0,0,1,1,1]) (blockL 1 (frame_Encode_K2 H0)) [(4,x4),(7,x7),(9,x9),(10,x10),(11,x11)] H
def frame_Encode_J2 (x4 x9 x10 x11 x12:AV) (H0 H:Hp):Res:=CXgS 61 27 (sub (bodyOf Tryz.f61) [1,1,0,1,0,0,1,1]) (seqL (fun k al H=>LPgS 61 27 (sub (bodyOf Tryz.f61) [1,1,0,1,0,0]) k (trimL (cfg.keep 61) (sub (bodyOf Tryz.f61) [1,1,0,1,0,0]) al) H) (blockL 0 (frame_Encode_K1 H0))) [(4,x4),(9,x9),(10,x10),(11,x11),(12,x12)] H
def frame_Encode_L1 (x4 x9 x10 x11:AV) (H0 H:Hp):Res:=LPgS 61 27 (sub (bodyOf Tryz.f61) [1,1,0,1,0,0]) (blockL 0 (frame_Encode_K1 H0)) [(4,x4),(9,x9),(10,x10),(11,x11)] H
def F_frame_Encode (p0:AV) (H:Hp):Res:=
 bnd (some ((.ptr H.length 0),H++[.bld 108 5 []])) fun r4=>
 bnd (alenD (.slice 9) p0) fun t10=>
 frame_Encode_L1 r4.1 p0 t10 (.int .i64 0) H r4.2
theorem frame_Encode_J1_eq (x4:AV) (H0 H:Hp):frame_Encode_J1 x4 H0 H =
    bnd (stringE.run [x4] H) fun r26=>
    some ((.tuple [r26.1,(.int .i64 0)]),r26.2):=(CXM_eq [4,8,9,10] _ _ _ _).trans (by kernel_rfl)
theorem frame_Encode_J3_eq (x4 x9 x10 x11:AV) (H0 H:Hp):frame_Encode_J3 x4 x9 x10 x11 H0 H =
    bnd (ibin .add x11 (.int .i64 1)) fun t25=>
    frame_Encode_L1 x4 x9 x10 t25 H0 H:=(CXM_eq [4,8,9,10] _ _ _ _).trans (by kernel_rfl)
theorem frame_Encode_J4_eq (x4 x7 x9 x10 x11:AV) (H0 H:Hp):frame_Encode_J4 x4 x7 x9 x10 x11 H0 H =
    bnd (textE.run [x4,x7] H) fun r24=>
    frame_Encode_J3 x4 x9 x10 x11 H0 r24.2:=(CXM_eq [4,8,9,10] _ _ _ _).trans (by kernel_rfl)
theorem frame_Encode_J2_eq (x4 x9 x10 x11 x12:AV) (H0 H:Hp):frame_Encode_J2 x4 x9 x10 x11 x12 H0 H =
    bnd (aindexS 1 x9 x11) fun t13=>
    bnd (aload false 1 t13 H) fun t14=>
    bnd (flatC C_frame_Record [t14] H) fun r17=>
    bnd (aext r17.1 0) fun t18=>
    bnd (aext r17.1 1) fun t19=>
    bnd (ibin .neq t19 (.int .i64 0)) fun t21=>
    cnd t21
     (some ((.tuple [(.str []),t19]),r17.2))
     (frame_Encode_J4 x4 t18 x9 x10 x11 H0 r17.2):=(CXM_eq [4,8,9,10] _ _ _ _).trans (by kernel_rfl)
theorem frame_Encode_L1_eq (x4 x9 x10 x11:AV) (H0 H:Hp):frame_Encode_L1 x4 x9 x10 x11 H0 H =
    bnd (ibin .lss x11 x10) fun t12=>
    cnd t12
     (frame_Encode_J2 x4 x9 x10 x11 t12 H0 H)
     (frame_Encode_J1 x4 H0 H):=(LPL_eqm (C:=cfg) [4,8,9,10] (tame_block 0 (frame_Encode_K1_tame H0)) _ _).trans (by kernel_rfl)
theorem F_frame_Encode_eq (p0:AV) (H:Hp):C_frame_Encode [p0] H=F_frame_Encode p0 H:=(callw_cxm (C:=cfg) (fn:=Tryz.f61) (c:=bodyOf Tryz.f61) (n:=27) [4,8,9,10] Tryz.func61 (by kernel_rfl) (by kernel_rfl) [p0] (by kernel_rfl) H).trans (by kernel_rfl)

def store_Store_Read_J2 (x2 x3 x10:AV) (H0 H:Hp):Res:=CXgS 62 54 (sub (bodyOf Tryz.f62) [1,1,1,1]) (retL cfg 54 62 Tryz.f62 H0) [(2,x2),(3,x3),(10,x10)] H
def store_Store_Read_J1 (x2 x3 x10:AV) (H0 H:Hp):Res:=CXgS 62 54 (sub (bodyOf Tryz.f62) [1,1,1]) (retL cfg 54 62 Tryz.f62 H0) [(2,x2),(3,x3),(10,x10)] H
def F_store_Store_Read (p0 p1 p2 p3:AV) (H:Hp):Res:=
 bnd (C_store_Store_open [p0,p1] H) fun r15=>
 bnd (aext r15.1 0) fun t16=>
 bnd (aext r15.1 1) fun t17=>
 bnd (ibin .neq t17 (.int .i64 0)) fun t19=>
 cnd t19
  (some ((.tuple [(.str []),t17]),r15.2))
  (store_Store_Read_J1 p2 p3 t16 H r15.2)
theorem store_Store_Read_J2_eq (x2 x3 x10:AV) (H0 H:Hp):store_Store_Read_J2 x2 x3 x10 H0 H =
    bnd (anil x10) fun t37=>
    bnd (afield 0 t37) fun t38=>
    bnd (aload false 1 t38 H) fun t39=>
    bnd (anil x10) fun t44=>
    bnd (afield 0 t44) fun t45=>
    bnd (aload false 1 t45 H) fun t46=>
    bnd (alenD (.slice 5) t46) fun t47=>
    bnd (ibin .sub t47 x2) fun t49=>
    bnd (amin2 x3 t49) fun t50=>
    bnd (ibin .add x2 t50) fun t51=>
    bnd (asliceV 1 t39 (some x2) (some t51) none) fun t52=>
    bnd (cvRd t52 H) fun t53=>
    some ((.tuple [t53,(.int .i64 0)]),H):=(CXM_eq [4,6] _ _ _ _).trans (by kernel_rfl)
theorem store_Store_Read_J1_eq (x2 x3 x10:AV) (H0 H:Hp):store_Store_Read_J1 x2 x3 x10 H0 H =
    bnd (ibin .lss x2 (.int .i64 0)) fun t22=>
    bnd (gdv t22 false (.tuple []) (some x2)) fun t24=>
    bnd (gdv t22 false (.tuple []) (some x10)) fun t25=>
    bnd (gdv t22 false (.tuple []) (anil t25)) fun t26=>
    bnd (gdv t22 false (.tuple []) (afield 0 t26)) fun t27=>
    bnd (gdv t22 false (.tuple []) (aload false 1 t27 H)) fun t28=>
    bnd (gdv t22 false (.tuple []) (alenD (.slice 5) t28)) fun t29=>
    bnd (gdv t22 false (.tuple []) (ibin .gtr t24 t29)) fun t30=>
    bnd (apick t22 (.bool true) t30) fun t31=>
    bnd (gdv t31 false (.tuple []) (some x3)) fun t33=>
    bnd (gdv t31 false (.tuple []) (ibin .lss t33 (.int .i64 0))) fun t34=>
    bnd (apick t31 (.bool true) t34) fun t35=>
    cnd t35
     (some ((.tuple [(.str []),(.int .i64 2)]),H))
     (store_Store_Read_J2 x2 x3 x10 H0 H):=(CXM_eq [4,6] _ _ _ _).trans (by kernel_rfl)
theorem F_store_Store_Read_eq (p0 p1 p2 p3:AV) (H:Hp):C_store_Store_Read [p0,p1,p2,p3] H=F_store_Store_Read p0 p1 p2 p3 H:=(callw_cxm (C:=cfg) (fn:=Tryz.f62) (c:=bodyOf Tryz.f62) (n:=54) [4,6] Tryz.func62 (by kernel_rfl) (by kernel_rfl) [p0,p1,p2,p3] (by kernel_rfl) H).trans (by kernel_rfl)

def frame_Next_J5 (x1 x7 x8:AV) (H0 H:Hp):Res:=CXgS 63 58 (sub (bodyOf Tryz.f63) [1,1,1,1,1,1,1,1]) (retL cfg 58 63 Tryz.f63 H0) [(1,x1),(7,x7),(8,x8)] H
def frame_Next_J4 (x1 x7 x8:AV) (H0 H:Hp):Res:=CXgS 63 58 (sub (bodyOf Tryz.f63) [1,1,1,1,1,1,1]) (retL cfg 58 63 Tryz.f63 H0) [(1,x1),(7,x7),(8,x8)] H
def frame_Next_J3 (x1 x7 x8:AV) (H0 H:Hp):Res:=CXgS 63 58 (sub (bodyOf Tryz.f63) [1,1,1,1,1,1]) (retL cfg 58 63 Tryz.f63 H0) [(1,x1),(7,x7),(8,x8)] H
def frame_Next_J2 (x1 x7:AV) (H0 H:Hp):Res:=CXgS 63 58 (sub (bodyOf Tryz.f63) [1,1,1,1]) (retL cfg 58 63 Tryz.f63 H0) [(1,x1),(7,x7)] H
def frame_Next_J1 (x0 x1:AV) (H0 H:Hp):Res:=CXgS 63 58 (sub (bodyOf Tryz.f63) [1,1]) (retL cfg 58 63 Tryz.f63 H0) [(0,x0),(1,x1)] H
def F_frame_Next (p0 p1:AV) (H:Hp):Res:=
 bnd (ibin .lss p1 (.int .i64 0)) fun t10=>
 bnd (gdv t10 false (.tuple []) (some p1)) fun t12=>
 bnd (gdv t10 false (.tuple []) (some p0)) fun t13=>
 bnd (gdv t10 false (.tuple []) (alenD .string t13)) fun t14=>
 bnd (gdv t10 false (.tuple []) (ibin .gtr t12 t14)) fun t15=>
 bnd (apick t10 (.bool true) t15) fun t16=>
 cnd t16
  (some ((.tuple [(.str []),(.int .i64 0),(.int .i64 2)]),H))
  (frame_Next_J1 p0 p1 H H)
theorem frame_Next_J5_eq (x1 x7 x8:AV) (H0 H:Hp):frame_Next_J5 x1 x7 x8 H0 H =
    bnd (ibin .add x8 (.int .i64 2)) fun t52=>
    bnd (asliceS x7 (some (.int .i64 2)) (some t52) none) fun t53=>
    bnd (ibin .add x1 x8) fun t56=>
    bnd (ibin .add t56 (.int .i64 6)) fun t57=>
    some ((.tuple [t53,t57,(.int .i64 0)]),H):=(CXM_eq [3,6,9,11,13] _ _ _ _).trans (by kernel_rfl)
theorem frame_Next_J4_eq (x1 x7 x8:AV) (H0 H:Hp):frame_Next_J4 x1 x7 x8 H0 H =
    bnd (ibin .add x8 (.int .i64 2)) fun t40=>
    bnd (ibin .add x8 (.int .i64 6)) fun t42=>
    bnd (asliceS x7 (some t40) (some t42) none) fun t43=>
    bnd (ibin .add x8 (.int .i64 2)) fun t46=>
    bnd (asliceS x7 none (some t46) none) fun t47=>
    bnd (flatC C_frame_sum [t47] H) fun r48=>
    bnd (sbin .neq t43 r48.1) fun t49=>
    cnd t49
     (some ((.tuple [(.str []),(.int .i64 0),(.int .i64 13)]),r48.2))
     (frame_Next_J5 x1 x7 x8 H0 r48.2):=(CXM_eq [3,6,9,11,13] _ _ _ _).trans (by kernel_rfl)
theorem frame_Next_J3_eq (x1 x7 x8:AV) (H0 H:Hp):frame_Next_J3 x1 x7 x8 H0 H =
    bnd (alenD .string x7) fun t34=>
    bnd (ibin .add x8 (.int .i64 6)) fun t36=>
    bnd (ibin .lss t34 t36) fun t37=>
    cnd t37
     (some ((.tuple [(.str []),(.int .i64 0),(.int .i64 14)]),H))
     (frame_Next_J4 x1 x7 x8 H0 H):=(CXM_eq [3,6,9,11,13] _ _ _ _).trans (by kernel_rfl)
theorem frame_Next_J2_eq (x1 x7:AV) (H0 H:Hp):frame_Next_J2 x1 x7 H0 H =
    bnd (aindexStr x7 (.int .i64 0)) fun t24=>
    bnd (cvInt .i64 t24) fun t25=>
    bnd (ibin .shl t25 (.int .u64 8)) fun t26=>
    bnd (aindexStr x7 (.int .i64 1)) fun t28=>
    bnd (cvInt .i64 t28) fun t29=>
    bnd (ibin .or t26 t29) fun t30=>
    bnd (ibin .gtr t30 (.int .i64 4096)) fun t32=>
    cnd t32
     (some ((.tuple [(.str []),(.int .i64 0),(.int .i64 13)]),H))
     (frame_Next_J3 x1 x7 t30 H0 H):=(CXM_eq [3,6,9,11,13] _ _ _ _).trans (by kernel_rfl)
theorem frame_Next_J1_eq (x0 x1:AV) (H0 H:Hp):frame_Next_J1 x0 x1 H0 H =
    bnd (asliceS x0 (some x1) none none) fun t19=>
    bnd (alenD .string t19) fun t21=>
    bnd (ibin .lss t21 (.int .i64 2)) fun t22=>
    cnd t22
     (some ((.tuple [(.str []),(.int .i64 0),(.int .i64 14)]),H))
     (frame_Next_J2 x1 t19 H0 H):=(CXM_eq [3,6,9,11,13] _ _ _ _).trans (by kernel_rfl)
theorem F_frame_Next_eq (p0 p1:AV) (H:Hp):C_frame_Next [p0,p1] H=F_frame_Next p0 p1 H:=(callw_cxm (C:=cfg) (fn:=Tryz.f63) (c:=bodyOf Tryz.f63) (n:=58) [3,6,9,11,13] Tryz.func63 (by kernel_rfl) (by kernel_rfl) [p0,p1] (by kernel_rfl) H).trans (by kernel_rfl)

def store_Store_open_J3 (x6:AV) (H0 H:Hp):Res:=CXgS 65 20 (sub (bodyOf Tryz.f65) [1,1,1,1,1]) (retL cfg 20 65 Tryz.f65 H0) [(6,x6)] H
def store_Store_open_J2 (x0 x1:AV) (H0 H:Hp):Res:=CXgS 65 20 (sub (bodyOf Tryz.f65) [1,1,1]) (retL cfg 20 65 Tryz.f65 H0) [(0,x0),(1,x1)] H
def store_Store_open_J1 (x0 x1:AV) (H0 H:Hp):Res:=CXgS 65 20 (sub (bodyOf Tryz.f65) [1,1]) (retL cfg 20 65 Tryz.f65 H0) [(0,x0),(1,x1)] H
def F_store_Store_open (p0 p1:AV) (H:Hp):Res:=
 bnd (ebin (.pointer 68) .eql p0 .nilp) fun t8=>
 cnd t8
  (some ((.tuple [.nilp,(.int .i64 5)]),H))
  (store_Store_open_J1 p0 p1 H H)
theorem store_Store_open_J3_eq (x6:AV) (H0 H:Hp):store_Store_open_J3 x6 H0 H =
    some ((.tuple [x6,(.int .i64 0)]),H):=(CXM_eq [3,5,8] _ _ _ _).trans (by kernel_rfl)
theorem store_Store_open_J2_eq (x0 x1:AV) (H0 H:Hp):store_Store_open_J2 x0 x1 H0 H =
    bnd (anil x0) fun t12=>
    bnd (afield 3 t12) fun t13=>
    bnd (aload false 1 t13 H) fun t14=>
    bnd (alookup .string .nilp false t14 x1 H) fun t16=>
    bnd (ebin (.pointer 88) .eql t16 .nilp) fun t18=>
    cnd t18
     (some ((.tuple [.nilp,(.int .i64 5)]),H))
     (store_Store_open_J3 t16 H0 H):=(CXM_eq [3,5,8] _ _ _ _).trans (by kernel_rfl)
theorem store_Store_open_J1_eq (x0 x1:AV) (H0 H:Hp):store_Store_open_J1 x0 x1 H0 H =
    bnd (C_store_Store_begin [x0] H) fun r10=>
    cnd r10.1
     (some ((.tuple [.nilp,(.int .i64 19)]),r10.2))
     (store_Store_open_J2 x0 x1 H0 r10.2):=(CXM_eq [3,5,8] _ _ _ _).trans (by kernel_rfl)
theorem F_store_Store_open_eq (p0 p1:AV) (H:Hp):C_store_Store_open [p0,p1] H=F_store_Store_open p0 p1 H:=(callw_cxm (C:=cfg) (fn:=Tryz.f65) (c:=bodyOf Tryz.f65) (n:=20) [3,5,8] Tryz.func65 (by kernel_rfl) (by kernel_rfl) [p0,p1] (by kernel_rfl) H).trans (by kernel_rfl)

def F_store_Store_drop (p0 p1:AV) (H:Hp):Res:=
 bnd (anil p0) fun t6=>
 bnd (afield 3 t6) fun t7=>
 bnd (aload false 1 t7 H) fun t8=>
 bnd (alookup .string .nilp false t8 p1 H) fun t10=>
 bnd (ebin (.pointer 88) .neq t10 .nilp) fun t12=>
 cnd t12
  (bnd (anil p0) fun t14=>
  bnd (afield 1 t14) fun t15=>
  bnd (aload false 1 t15 H) fun t16=>
  bnd (anil t10) fun t18=>
  bnd (afield 0 t18) fun t19=>
  bnd (aload false 1 t19 H) fun t20=>
  bnd (alenD (.slice 5) t20) fun t21=>
  bnd (ibin .sub t16 t21) fun t22=>
  bnd (anil p0) fun t23=>
  bnd (afield 1 t23) fun t24=>
  bnd (astoreU 1 t24 t22 H) fun r_16=>
  bnd (anil p0) fun t26=>
  bnd (afield 3 t26) fun t27=>
  bnd (aload false 1 t27 r_16.2) fun t28=>
  bnd (amapDel .string t28 p1 r_16.2) fun r_20=>
  some ((.tuple []),r_20.2))
  (some ((.tuple []),H))
theorem F_store_Store_drop_eq (p0 p1:AV) (H:Hp):C_store_Store_drop [p0,p1] H=F_store_Store_drop p0 p1 H:=(callw_cxm (C:=cfg) (fn:=Tryz.f66) (c:=bodyOf Tryz.f66) (n:=30) [] Tryz.func66 (by kernel_rfl) (by kernel_rfl) [p0,p1] (by kernel_rfl) H).trans (by kernel_rfl)

def store_Store_Sync_J1 (x6:AV) (H0 H:Hp):Res:=CXgS 68 24 (sub (bodyOf Tryz.f68) [1,1,1]) (retL cfg 24 68 Tryz.f68 H0) [(6,x6)] H
def F_store_Store_Sync (p0 p1:AV) (H:Hp):Res:=
 bnd (C_store_Store_open [p0,p1] H) fun r10=>
 bnd (aext r10.1 0) fun t11=>
 bnd (aext r10.1 1) fun t12=>
 bnd (ibin .eql t12 (.int .i64 0)) fun t14=>
 cnd t14
  (bnd (anil t11) fun t17=>
  bnd (afield 0 t17) fun t18=>
  bnd (aload false 1 t18 r10.2) fun t19=>
  bnd (alenD (.slice 5) t19) fun t20=>
  bnd (anil t11) fun t21=>
  bnd (afield 1 t21) fun t22=>
  bnd (astoreU 1 t22 t20 r10.2) fun r_11=>
  store_Store_Sync_J1 t12 H r_11.2)
  (store_Store_Sync_J1 t12 H r10.2)
theorem store_Store_Sync_J1_eq (x6:AV) (H0 H:Hp):store_Store_Sync_J1 x6 H0 H =
    some (x6,H):=(CXM_eq [4] _ _ _ _).trans (by kernel_rfl)
theorem F_store_Store_Sync_eq (p0 p1:AV) (H:Hp):C_store_Store_Sync [p0,p1] H=F_store_Store_Sync p0 p1 H:=(callw_cxm (C:=cfg) (fn:=Tryz.f68) (c:=bodyOf Tryz.f68) (n:=24) [4] Tryz.func68 (by kernel_rfl) (by kernel_rfl) [p0,p1] (by kernel_rfl) H).trans (by kernel_rfl)

def store_Store_begin_J1 (x0:AV) (H0 H:Hp):Res:=CXgS 69 37 (sub (bodyOf Tryz.f69) [1,1]) (retL cfg 37 69 Tryz.f69 H0) [(0,x0)] H
def F_store_Store_begin (p0:AV) (H:Hp):Res:=
 bnd (anil p0) fun t5=>
 bnd (afield 4 t5) fun t6=>
 bnd (aload false 1 t6 H) fun t7=>
 cnd t7
  (store_Store_begin_J1 p0 H H)
  (bnd (anil p0) fun t10=>
  bnd (afield 5 t10) fun t11=>
  bnd (aload false 1 t11 H) fun t12=>
  bnd (ibin .eql t12 (.int .i64 1)) fun t13=>
  cnd t13
   (bnd (anil p0) fun t16=>
   bnd (afield 4 t16) fun t17=>
   bnd (astoreU 1 t17 (.bool true) H) fun r_13=>
   bnd (anil p0) fun t18=>
   bnd (afield 5 t18) fun t19=>
   bnd (astoreU 1 t19 (.int .i64 0) r_13.2) fun r_16=>
   store_Store_begin_J1 p0 H r_16.2)
   (bnd (anil p0) fun t22=>
   bnd (afield 5 t22) fun t23=>
   bnd (aload false 1 t23 H) fun t24=>
   bnd (ibin .gtr t24 (.int .i64 1)) fun t25=>
   cnd t25
    (bnd (anil p0) fun t27=>
    bnd (afield 5 t27) fun t28=>
    bnd (aload false 1 t28 H) fun t29=>
    bnd (ibin .sub t29 (.int .i64 1)) fun t30=>
    bnd (anil p0) fun t31=>
    bnd (afield 5 t31) fun t32=>
    bnd (astoreU 1 t32 t30 H) fun r_27=>
    store_Store_begin_J1 p0 H r_27.2)
    (store_Store_begin_J1 p0 H H)))
theorem store_Store_begin_J1_eq (x0:AV) (H0 H:Hp):store_Store_begin_J1 x0 H0 H =
    bnd (anil x0) fun t34=>
    bnd (afield 4 t34) fun t35=>
    bnd (aload false 1 t35 H) fun t36=>
    some (t36,H):=(CXM_eq [6] _ _ _ _).trans (by kernel_rfl)
theorem F_store_Store_begin_eq (p0:AV) (H:Hp):C_store_Store_begin [p0] H=F_store_Store_begin p0 H:=(callw_cxm (C:=cfg) (fn:=Tryz.f69) (c:=bodyOf Tryz.f69) (n:=37) [6] Tryz.func69 (by kernel_rfl) (by kernel_rfl) [p0] (by kernel_rfl) H).trans (by kernel_rfl)

def store_fileName_J1 (x0:AV) (H0 H:Hp):Res:=CXgS 70 58 (sub (bodyOf Tryz.f70) [1,1]) (retL cfg 58 70 Tryz.f70 H0) [(0,x0)] H
def store_fileName_K1 (H0:Hp):KL:=seqL (fun k al H=>CXgS 70 58 (sub (bodyOf Tryz.f70) [1,1]) k (trimL (cfg.keep 70) (sub (bodyOf Tryz.f70) [1,1]) al) H) (retL cfg 58 70 Tryz.f70 H0)
theorem store_fileName_K1_tame (H0:Hp):Tame 58 (store_fileName_K1 H0):=tame_seq (C:=cfg) (kp:=cfg.keep 70) (sub (bodyOf Tryz.f70) [1,1]) (tame_ret 70 Tryz.f70 H0)
def store_fileName_J3 (x0 x7 x8:AV) (H0 H:Hp):Res:=CXgS 70 58 (sub (bodyOf Tryz.f70) [1,0,1,0,0,1,1,1]) (seqL (fun k al H=>LPgS 70 58 (sub (bodyOf Tryz.f70) [1,0,1,0,0]) k (trimL (cfg.keep 70) (sub (bodyOf Tryz.f70) [1,0,1,0,0]) al) H) (blockL 0 (store_fileName_K1 H0))) [(0,x0),(7,x7),(8,x8)] H
def store_fileName_J2 (x0 x7 x8 x9:AV) (H0 H:Hp):Res:=CXgS 70 58 (sub (bodyOf Tryz.f70) [1,0,1,0,0,1,1]) (seqL (fun k al H=>LPgS 70 58 (sub (bodyOf Tryz.f70) [1,0,1,0,0]) k (trimL (cfg.keep 70) (sub (bodyOf Tryz.f70) [1,0,1,0,0]) al) H) (blockL 0 (store_fileName_K1 H0))) [(0,x0),(7,x7),(8,x8),(9,x9)] H
def store_fileName_L1 (x0 x7 x8:AV) (H0 H:Hp):Res:=LPgS 70 58 (sub (bodyOf Tryz.f70) [1,0,1,0,0]) (blockL 0 (store_fileName_K1 H0)) [(0,x0),(7,x7),(8,x8)] H
def F_store_fileName (p0:AV) (H:Hp):Res:=
 bnd (alenD .string p0) fun t7=>
 store_fileName_L1 p0 t7 (.int .i64 0) H H
theorem store_fileName_J1_eq (x0:AV) (H0 H:Hp):store_fileName_J1 x0 H0 H =
    bnd (sbin .neq x0 (.str [])) fun t52=>
    bnd (gdv t52 true (.tuple []) (some x0)) fun t54=>
    bnd (gdv t52 true (.tuple []) (alenD .string t54)) fun t55=>
    bnd (gdv t52 true (.tuple []) (ibin .leq t55 (.int .i64 32))) fun t56=>
    bnd (apick t52 t56 (.bool false)) fun t57=>
    some (t57,H):=(CXM_eq [3,8,9] _ _ _ _).trans (by kernel_rfl)
theorem store_fileName_J3_eq (x0 x7 x8:AV) (H0 H:Hp):store_fileName_J3 x0 x7 x8 H0 H =
    bnd (ibin .add x8 (.int .i64 1)) fun t50=>
    store_fileName_L1 x0 x7 t50 H0 H:=(CXM_eq [3,8,9] _ _ _ _).trans (by kernel_rfl)
theorem store_fileName_J2_eq (x0 x7 x8 x9:AV) (H0 H:Hp):store_fileName_J2 x0 x7 x8 x9 H0 H =
    bnd (aindexStr x0 x8) fun t13=>
    bnd (ibin .geq t13 (.int .u8 97)) fun t15=>
    bnd (gdv t15 true (.tuple []) (some t13)) fun t17=>
    bnd (gdv t15 true (.tuple []) (ibin .leq t17 (.int .u8 122))) fun t18=>
    bnd (apick t15 t18 (.bool false)) fun t19=>
    bnd (gdv t19 false (.tuple []) (some t13)) fun t21=>
    bnd (gdv t19 false (.tuple []) (ibin .geq t21 (.int .u8 65))) fun t22=>
    bnd (gdv t19 false (.tuple []) (some t22)) fun t23=>
    bnd (gdv t23 true (.tuple []) (some t13)) fun t24=>
    bnd (gdv t23 true (.tuple []) (ibin .leq t24 (.int .u8 90))) fun t25=>
    bnd (gdv t19 false (.tuple []) (apick t23 t25 (.bool false))) fun t26=>
    bnd (apick t19 (.bool true) t26) fun t27=>
    bnd (gdv t27 false (.tuple []) (some t13)) fun t29=>
    bnd (gdv t27 false (.tuple []) (ibin .eql t29 (.int .u8 95))) fun t30=>
    bnd (apick t27 (.bool true) t30) fun t31=>
    bnd (gdv t31 false (.tuple []) (some t13)) fun t33=>
    bnd (gdv t31 false (.tuple []) (ibin .eql t33 (.int .u8 46))) fun t34=>
    bnd (apick t31 (.bool true) t34) fun t35=>
    bnd (aun .not t35) fun t37=>
    bnd (gdv t37 true (.tuple []) (some x8)) fun t39=>
    bnd (gdv t37 true (.tuple []) (ibin .eql t39 (.int .i64 0))) fun t40=>
    bnd (gdv t37 true (.tuple []) (some t40)) fun t41=>
    bnd (gdv t41 false (.tuple []) (some t13)) fun t42=>
    bnd (gdv t41 false (.tuple []) (ibin .lss t42 (.int .u8 48))) fun t43=>
    bnd (gdv t37 true (.tuple []) (apick t41 (.bool true) t43)) fun t44=>
    bnd (gdv t37 true (.tuple []) (some t44)) fun t45=>
    bnd (gdv t45 false (.tuple []) (some t13)) fun t46=>
    bnd (gdv t45 false (.tuple []) (ibin .gtr t46 (.int .u8 57))) fun t47=>
    bnd (gdv t37 true (.tuple []) (apick t45 (.bool true) t47)) fun t48=>
    bnd (apick t37 t48 (.bool false)) fun t49=>
    cnd t49
     (some ((.bool false),H))
     (store_fileName_J3 x0 x7 x8 H0 H):=(CXM_eq [3,8,9] _ _ _ _).trans (by kernel_rfl)
theorem store_fileName_L1_eq (x0 x7 x8:AV) (H0 H:Hp):store_fileName_L1 x0 x7 x8 H0 H =
    bnd (ibin .lss x8 x7) fun t9=>
    cnd t9
     (store_fileName_J2 x0 x7 x8 t9 H0 H)
     (store_fileName_J1 x0 H0 H):=(LPL_eqm (C:=cfg) [3,8,9] (tame_block 0 (store_fileName_K1_tame H0)) _ _).trans (by kernel_rfl)
theorem F_store_fileName_eq (p0:AV) (H:Hp):C_store_fileName [p0] H=F_store_fileName p0 H:=(callw_cxm (C:=cfg) (fn:=Tryz.f70) (c:=bodyOf Tryz.f70) (n:=58) [3,8,9] Tryz.func70 (by kernel_rfl) (by kernel_rfl) [p0] (by kernel_rfl) H).trans (by kernel_rfl)

def F_slices_Contains_of_string_string (p0 p1:AV) (H:Hp):Res:=
 bnd (flatC C_slices_Index_of_string_string [p0,p1] H) fun r7=>
 bnd (ibin .geq r7.1 (.int .i64 0)) fun t8=>
 some (t8,r7.2)
theorem F_slices_Contains_of_string_string_eq (p0 p1:AV) (H:Hp):C_slices_Contains_of_string_string [p0,p1] H=F_slices_Contains_of_string_string p0 p1 H:=(callw_cxm (C:=cfg) (fn:=Tryz.f79) (c:=bodyOf Tryz.f79) (n:=9) [] Tryz.func79 (by kernel_rfl) (by kernel_rfl) [p0,p1] (by kernel_rfl) H).trans (by kernel_rfl)

def frame_Record_J1 (x0:AV) (H0 H:Hp):Res:=CXgS 82 23 (sub (bodyOf Tryz.f82) [1,1]) (retL cfg 23 82 Tryz.f82 H0) [(0,x0)] H
def F_frame_Record (p0:AV) (H:Hp):Res:=
 bnd (alenD .string p0) fun t6=>
 bnd (ibin .gtr t6 (.int .i64 4096)) fun t7=>
 cnd t7
  (some ((.tuple [(.str []),(.int .i64 3)]),H))
  (frame_Record_J1 p0 H H)
theorem frame_Record_J1_eq (x0:AV) (H0 H:Hp):frame_Record_J1 x0 H0 H =
    bnd (alenD .string x0) fun t9=>
    bnd (ibin .shr t9 (.int .u64 8)) fun t10=>
    bnd (cvInt .u8 t10) fun t11=>
    bnd (alenD .string x0) fun t13=>
    bnd (cvInt .u8 t13) fun t14=>
    bnd ((setElems 1 [(0,t11),(1,t14)] [(.int .u8 0),(.int .u8 0)]).map (.vs 1 .clip)) fun t15=>
    bnd (cvRd t15 H) fun t16=>
    bnd (sbin .add t16 x0) fun t18=>
    bnd (flatC C_frame_sum [t18] H) fun r21=>
    bnd (sbin .add t18 r21.1) fun t22=>
    some ((.tuple [t22,(.int .i64 0)]),r21.2):=(CXM_eq [3] _ _ _ _).trans (by kernel_rfl)
theorem F_frame_Record_eq (p0:AV) (H:Hp):C_frame_Record [p0] H=F_frame_Record p0 H:=(callw_cxm (C:=cfg) (fn:=Tryz.f82) (c:=bodyOf Tryz.f82) (n:=23) [3] Tryz.func82 (by kernel_rfl) (by kernel_rfl) [p0] (by kernel_rfl) H).trans (by kernel_rfl)

def F_frame_sum (p0:AV) (H:Hp):Res:=
 bnd (flatC C_frame_Crc [p0] H) fun r5=>
 bnd (cvInt .u8 r5.1) fun t7=>
 bnd (ibin .shr r5.1 (.int .u64 8)) fun t9=>
 bnd (cvInt .u8 t9) fun t10=>
 bnd (ibin .shr r5.1 (.int .u64 16)) fun t12=>
 bnd (cvInt .u8 t12) fun t13=>
 bnd (ibin .shr r5.1 (.int .u64 24)) fun t15=>
 bnd (cvInt .u8 t15) fun t16=>
 bnd ((setElems 1 [(0,t7),(1,t10),(2,t13),(3,t16)] [(.int .u8 0),(.int .u8 0),(.int .u8 0),(.int .u8 0)]).map (.vs 1 .clip)) fun t17=>
 bnd (cvRd t17 r5.2) fun t18=>
 some (t18,r5.2)
theorem F_frame_sum_eq (p0:AV) (H:Hp):C_frame_sum [p0] H=F_frame_sum p0 H:=(callw_cxm (C:=cfg) (fn:=Tryz.f85) (c:=bodyOf Tryz.f85) (n:=19) [] Tryz.func85 (by kernel_rfl) (by kernel_rfl) [p0] (by kernel_rfl) H).trans (by kernel_rfl)

def slices_Index_of_string_string_J1 (H0 H:Hp):Res:=CXgS 91 19 (sub (bodyOf Tryz.f91) [1,1]) (retL cfg 19 91 Tryz.f91 H0) [] H
def slices_Index_of_string_string_K1 (H0:Hp):KL:=seqL (fun k al H=>CXgS 91 19 (sub (bodyOf Tryz.f91) [1,1]) k (trimL (cfg.keep 91) (sub (bodyOf Tryz.f91) [1,1]) al) H) (retL cfg 19 91 Tryz.f91 H0)
theorem slices_Index_of_string_string_K1_tame (H0:Hp):Tame 19 (slices_Index_of_string_string_K1 H0):=tame_seq (C:=cfg) (kp:=cfg.keep 91) (sub (bodyOf Tryz.f91) [1,1]) (tame_ret 91 Tryz.f91 H0)
def slices_Index_of_string_string_J3 (x0 x1 x7 x8:AV) (H0 H:Hp):Res:=CXgS 91 19 (sub (bodyOf Tryz.f91) [1,0,1,0,0,1,1,1]) (seqL (fun k al H=>LPgS 91 19 (sub (bodyOf Tryz.f91) [1,0,1,0,0]) k (trimL (cfg.keep 91) (sub (bodyOf Tryz.f91) [1,0,1,0,0]) al) H) (blockL 0 (slices_Index_of_string_string_K1 H0))) [(0,x0),(1,x1),(7,x7),(8,x8)] H
def slices_Index_of_string_string_J2 (x0 x1 x7 x8 x9:AV) (H0 H:Hp):Res:=CXgS 91 19 (sub (bodyOf Tryz.f91) [1,0,1,0,0,1,1]) (seqL (fun k al H=>LPgS 91 19 (sub (bodyOf Tryz.f91) [1,0,1,0,0]) k (trimL (cfg.keep 91) (sub (bodyOf Tryz.f91) [1,0,1,0,0]) al) H) (blockL 0 (slices_Index_of_string_string_K1 H0))) [(0,x0),(1,x1),(7,x7),(8,x8),(9,x9)] H
def slices_Index_of_string_string_L1 (x0 x1 x7 x8:AV) (H0 H:Hp):Res:=LPgS 91 19 (sub (bodyOf Tryz.f91) [1,0,1,0,0]) (blockL 0 (slices_Index_of_string_string_K1 H0)) [(0,x0),(1,x1),(7,x7),(8,x8)] H
def F_slices_Index_of_string_string (p0 p1:AV) (H:Hp):Res:=
 bnd (alenD (.slice 9) p0) fun t7=>
 slices_Index_of_string_string_L1 p0 p1 t7 (.int .i64 0) H H
theorem slices_Index_of_string_string_J1_eq (H0 H:Hp):slices_Index_of_string_string_J1 H0 H =
    some ((.int .i64 (-1)),H):=(CXM_eq [3,6,7] _ _ _ _).trans (by kernel_rfl)
theorem slices_Index_of_string_string_J3_eq (x0 x1 x7 x8:AV) (H0 H:Hp):slices_Index_of_string_string_J3 x0 x1 x7 x8 H0 H =
    bnd (ibin .add x8 (.int .i64 1)) fun t18=>
    slices_Index_of_string_string_L1 x0 x1 x7 t18 H0 H:=(CXM_eq [3,6,7] _ _ _ _).trans (by kernel_rfl)
theorem slices_Index_of_string_string_J2_eq (x0 x1 x7 x8 x9:AV) (H0 H:Hp):slices_Index_of_string_string_J2 x0 x1 x7 x8 x9 H0 H =
    bnd (aindexS 1 x0 x8) fun t14=>
    bnd (aload false 1 t14 H) fun t15=>
    bnd (sbin .eql x1 t15) fun t16=>
    cnd t16
     (some (x8,H))
     (slices_Index_of_string_string_J3 x0 x1 x7 x8 H0 H):=(CXM_eq [3,6,7] _ _ _ _).trans (by kernel_rfl)
theorem slices_Index_of_string_string_L1_eq (x0 x1 x7 x8:AV) (H0 H:Hp):slices_Index_of_string_string_L1 x0 x1 x7 x8 H0 H =
    bnd (ibin .lss x8 x7) fun t9=>
    cnd t9
     (slices_Index_of_string_string_J2 x0 x1 x7 x8 t9 H0 H)
     (slices_Index_of_string_string_J1 H0 H):=(LPL_eqm (C:=cfg) [3,6,7] (tame_block 0 (slices_Index_of_string_string_K1_tame H0)) _ _).trans (by kernel_rfl)
theorem F_slices_Index_of_string_string_eq (p0 p1:AV) (H:Hp):C_slices_Index_of_string_string [p0,p1] H=F_slices_Index_of_string_string p0 p1 H:=(callw_cxm (C:=cfg) (fn:=Tryz.f91) (c:=bodyOf Tryz.f91) (n:=19) [3,6,7] Tryz.func91 (by kernel_rfl) (by kernel_rfl) [p0,p1] (by kernel_rfl) H).trans (by kernel_rfl)

def frame_Crc_J1 (x3:AV) (H0 H:Hp):Res:=CXgS 96 33 (sub (bodyOf Tryz.f96) [1,1,1]) (retL cfg 33 96 Tryz.f96 H0) [(3,x3)] H
def frame_Crc_K1 (H0:Hp):KL:=seqL (fun k al H=>CXgS 96 33 (sub (bodyOf Tryz.f96) [1,1,1]) k (trimL (cfg.keep 96) (sub (bodyOf Tryz.f96) [1,1,1]) al) H) (retL cfg 33 96 Tryz.f96 H0)
theorem frame_Crc_K1_tame (H0:Hp):Tame 33 (frame_Crc_K1 H0):=tame_seq (C:=cfg) (kp:=cfg.keep 96) (sub (bodyOf Tryz.f96) [1,1,1]) (tame_ret 96 Tryz.f96 H0)
def frame_Crc_J3 (x0 x3 x6 x7:AV) (H0 H:Hp):Res:=CXgS 96 33 (sub (bodyOf Tryz.f96) [1,1,0,1,0,0,1,1,1]) (seqL (fun k al H=>LPgS 96 33 (sub (bodyOf Tryz.f96) [1,1,0,1,0,0]) k (trimL (cfg.keep 96) (sub (bodyOf Tryz.f96) [1,1,0,1,0,0]) al) H) (blockL 0 (frame_Crc_K1 H0))) [(0,x0),(3,x3),(6,x6),(7,x7)] H
def frame_Crc_J2 (x0 x3 x6 x7 x8:AV) (H0 H:Hp):Res:=CXgS 96 33 (sub (bodyOf Tryz.f96) [1,1,0,1,0,0,1,1]) (seqL (fun k al H=>LPgS 96 33 (sub (bodyOf Tryz.f96) [1,1,0,1,0,0]) k (trimL (cfg.keep 96) (sub (bodyOf Tryz.f96) [1,1,0,1,0,0]) al) H) (blockL 0 (frame_Crc_K1 H0))) [(0,x0),(3,x3),(6,x6),(7,x7),(8,x8)] H
def frame_Crc_L1 (x0 x3 x6 x7:AV) (H0 H:Hp):Res:=LPgS 96 33 (sub (bodyOf Tryz.f96) [1,1,0,1,0,0]) (blockL 0 (frame_Crc_K1 H0)) [(0,x0),(3,x3),(6,x6),(7,x7)] H
def F_frame_Crc (p0:AV) (H:Hp):Res:=
 bnd (alenD .string p0) fun t6=>
 frame_Crc_L1 p0 (.int .u32 4294967295) t6 (.int .i64 0) H H
theorem frame_Crc_J1_eq (x3:AV) (H0 H:Hp):frame_Crc_J1 x3 H0 H =
    bnd (aun .xor x3) fun t32=>
    some (t32,H):=(CXM_eq [4,8,9] _ _ _ _).trans (by kernel_rfl)
theorem frame_Crc_J3_eq (x0 x3 x6 x7:AV) (H0 H:Hp):frame_Crc_J3 x0 x3 x6 x7 H0 H =
    bnd (ibin .add x7 (.int .i64 1)) fun t30=>
    frame_Crc_L1 x0 x3 x6 t30 H0 H:=(CXM_eq [4,8,9] _ _ _ _).trans (by kernel_rfl)
theorem frame_Crc_J2_eq (x0 x3 x6 x7 x8:AV) (H0 H:Hp):frame_Crc_J2 x0 x3 x6 x7 x8 H0 H =
    bnd (aindexStr x0 x7) fun t13=>
    bnd (cvInt .u32 t13) fun t14=>
    bnd (ibin .xor x3 t14) fun t15=>
    bnd (ibin .and t15 (.int .u32 15)) fun t17=>
    bnd (aindexA 16 1 crcV t17) fun t18=>
    bnd (aload false 1 t18 H) fun t19=>
    bnd (ibin .shr t15 (.int .u64 4)) fun t21=>
    bnd (ibin .xor t19 t21) fun t22=>
    bnd (ibin .and t22 (.int .u32 15)) fun t24=>
    bnd (aindexA 16 1 crcV t24) fun t25=>
    bnd (aload false 1 t25 H) fun t26=>
    bnd (ibin .shr t22 (.int .u64 4)) fun t28=>
    bnd (ibin .xor t26 t28) fun t29=>
    frame_Crc_J3 x0 t29 x6 x7 H0 H:=(CXM_eq [4,8,9] _ _ _ _).trans (by kernel_rfl)
theorem frame_Crc_L1_eq (x0 x3 x6 x7:AV) (H0 H:Hp):frame_Crc_L1 x0 x3 x6 x7 H0 H =
    bnd (ibin .lss x7 x6) fun t8=>
    cnd t8
     (frame_Crc_J2 x0 x3 x6 x7 t8 H0 H)
     (frame_Crc_J1 x3 H0 H):=(LPL_eqm (C:=cfg) [4,8,9] (tame_block 0 (frame_Crc_K1_tame H0)) _ _).trans (by kernel_rfl)
theorem F_frame_Crc_eq (p0:AV) (H:Hp):C_frame_Crc [p0] H=F_frame_Crc p0 H:=(callw_cxm (C:=cfg) (fn:=Tryz.f96) (c:=bodyOf Tryz.f96) (n:=33) [4,8,9] Tryz.func96 (by kernel_rfl) (by kernel_rfl) [p0] (by kernel_rfl) H).trans (by kernel_rfl)

end
end Go.Am
