/-
  The functions of the translation over the abstract machine: written by program (wip/gen.py).
-/
import Derived.Test.YtpahcdhligjdiaaProg
import Derived.Test.YtpahcdhligjdiaaRcPsx
namespace Go.Am
open Go.Proofs
set_option maxRecDepth 100000
set_option linter.unusedVariables false
set_option linter.unusedSimpArgs false

def keepList:List (Nat × List (Nat × List Nat)):=[(3,[(3,[2,3,4,5]),(6,[2,3,4,5,9,10])]),
 (4,[(3,[2,3]),(6,[2,3,5])]),
 (5,[(3,[2,3]),(7,[3,5,8])]),
 (7,[(2,[1,3]),(3,[1,3]),(4,[1,3]),(6,[1])]),
 (8,[(6,[3])]),
 (9,[(4,[1,3,4,6,8]),(6,[1,3,4,6,8]),(8,[4,6,8,13,56,57]),(9,[4,6,8,13,56,57,58]),(11,[4,6,8,13,56,57]),(12,[4,6,8,13]),(15,[6,8,13,15]),(1000013,[6])]),
 (11,[(3,[0,1,5,6]),(4,[0,1,5,6]),(5,[0,1,5,6]),(8,[0,1,5,6,7]),(9,[5])]),
 (12,[(4,[1,3]),(5,[1,3,4]),(6,[1,3,4]),(7,[1,3,4]),(8,[3])]),
 (13,[(8,[1,3,5]),(9,[1,3,5,8]),(10,[1,3,5,8]),(11,[1,3,5,8]),(13,[])]),
 (14,[(4,[1,2,4]),(6,[1,2,4]),(9,[1,4,7]),(14,[1,4,9])]),
 (15,[(4,[2,3,9]),(7,[3,9,10,11]),(8,[3,9,10,11]),(9,[3,9,10,11]),(10,[10]),(12,[12,56,57,58]),(13,[12,56,57,58,59]),(15,[12,56,57,58]),(16,[12])]),
 (16,[(3,[1,2,3]),(5,[1,2,3,7,8]),(6,[1,2,3,7,8]),(7,[1,2,3,7,8]),(8,[7])]),
 (20,[(3,[3,13,14,15]),(4,[3,13,14,15,16]),(6,[3,13,14,15]),(7,[3])]),
 (21,[(4,[0,1,2,3])]),
 (22,[(6,[0,2,3,45,46,47]),(7,[0,2,3,45,46,47,48]),(10,[0,2,3,45,46,47])]),
 (23,[(3,[0,1]),(4,[0,1,5]),(5,[0,1,5]),(6,[0,1,5]),(8,[])]),
 (24,[(11,[])]),
 (26,[(4,[1,2]),(6,[1,2])]),
 (27,[(2,[0,3]),(4,[0,13,14,15]),(5,[0,13,14,15,16]),(7,[0,13,14,15])]),
 (28,[(4,[0,3])]),
 (29,[(3,[1,2])]),
 (30,[(2,[0,1,3,4]),(3,[0,1,3,4]),(6,[0,1,3,4,11]),(20,[1])]),
 (31,[(4,[0,2,3,9,20,21,22]),(5,[0,2,3,9,20,21,22,23]),(9,[0,2,3,9,20,21,22]),(10,[9])]),
 (34,[(3,[0,2,3,4]),(4,[0,2,3,4]),(5,[0,2,3,4]),(6,[2,3])]),
 (36,[(3,[1,2]),(6,[2,3,17,18,19]),(7,[2,3,17,18,19,20]),(9,[2,3,17,18,19]),(10,[2,3])]),
 (38,[(5,[0,2,3,5,9,10]),(9,[0,2,3,5,9,10,11,12]),(10,[0,3,5,9,10,11,12,13]),(11,[0,3,5,9,10,11,12,13]),(12,[0,3,5,9,10,11,12,13]),(14,[0,3,5,9,10,11,12,13,14,54,55,56]),(15,[0,3,5,9,10,11,12,13,14,54,55,56,57]),(17,[0,3,5,9,10,11,12,13,14,54,55,56]),(18,[0,3,5,9,10,11,12,13,14]),(21,[0,3,5,9,10,12,13,17]),(25,[0,3,5,9,10,11,12,13,19,20,96,97,98]),(26,[0,3,5,9,10,11,12,13,19,20,96,97,98,99]),(31,[0,3,5,9,10,11,12,13,19,20,96,97,98]),(32,[10])]),
 (39,[(2,[0,2,3,5,15,16,17]),(3,[0,2,3,5,15,16,17,18]),(7,[0,2,3,5,9,11,15,16,17]),(9,[0,2,3,5,15,16,17])]),
 (40,[(5,[0,2,3,5,8,9,10,11,12]),(6,[0,2,3,5,8,9,10,11,12]),(7,[0,2,3,5,8,9,10,11,12]),(10,[0,2,3,5,8,9,10,11,12,13]),(13,[0,2,3,5,8,9,10,11,12,13]),(16,[0,2,3,5,8,9,10,11,12,13,16]),(18,[0,2,3,5,8,9,10,11,12,17]),(1000012,[13])]),
 (41,[(12,[0,3]),(14,[0,3,6,7,117,118,119]),(15,[0,3,6,7,117,118,119,120]),(17,[0,3,6,7,117,118,119]),(18,[0,3,6,7]),(20,[7])]),
 (42,[(3,[1,3,7,8,9]),(4,[1,3,7,8,9,10]),(6,[1,3,7,8,9]),(7,[1,3]),(9,[3])]),
 (43,[(3,[1,2,3,7,8,9]),(4,[1,2,3,7,8,9,10]),(6,[1,2,3,7,8,9]),(7,[1,2,3])]),
 (44,[(3,[1,2]),(6,[1,2,3,18,19,20]),(7,[1,2,3,18,19,20,21]),(9,[1,2,3,18,19,20]),(10,[1,2,3]),(12,[2,3])]),
 (45,[(2,[0,1,4,10,11,12]),(3,[0,1,4,10,11,12,13]),(6,[0,1,4,6,10,11,12]),(10,[0,1,4,10,11,12]),(11,[0,4]),(12,[0,49,50,51]),(13,[0,49,50,51,52]),(15,[0,49,50,51])]),
 (46,[(6,[0,3]),(10,[0,6])]),
 (47,[(4,[1,3]),(6,[3,4,19,20,21]),(7,[3,4,19,20,21,22]),(19,[3,4,7,19,20,21]),(21,[3,4,19,20,21]),(22,[])]),
 (53,[(3,[2,4])]),
 (54,[(3,[1,10,11,12]),(4,[1,10,11,12,13]),(6,[1,10,11,12])]),
 (56,[(4,[0,4,6,7,12,13,14]),(5,[0,4,6,7,12,13,14]),(6,[0,4,6,7,12,13,14]),(20,[7,12])]),
 (57,[(5,[0,3,4,13])]),
 (59,[(6,[0,2])]),
 (60,[(2,[0,1,2,3,9]),(3,[0,1,2,3,9]),(4,[0,1,2,3,9]),(6,[])]),
 (62,[(4,[4,5])]),
 (63,[(3,[0,3]),(4,[0,18,19,20]),(5,[0,18,19,20,21]),(7,[0,18,19,20])]),
 (64,[(20,[])]),
 (65,[(11,[0,1,2])]),
 (66,[(11,[1,2,3,6])]),
 (82,[(3,[0,2])]),
 (83,[(4,[1,2,3,10,11]),(5,[1,2,3,10,11,12]),(9,[1,2,3,5,10,11]),(10,[1,2,3,10,11]),(11,[2,3])]),
 (85,[(3,[2,5,10,11]),(4,[2,5,10,11,12]),(6,[2,5,10,11]),(7,[5])])]
def userList:List Nat:=[3,4,5,6,7,8,9,10,11,12,13,14,15,16,17,18,19,20,21,22,23,24,25,26,27,28,29,30,31,32,33,34,35,36,37,38,39,40,41,42,43,44,45,46,47,48,49,50,51,52,53,54,55,56,57,58,59,60,61,62,63,64,65,66,67,68,69,70,71,72,73,74,75,76,77,78,79,80,81,82,83,84,85,86,87,88,89,90,91,92]
def pureList:List Nat:=[]
def flatList:List Nat:=[7,8,12,14,17,18,19,24,25,26,34,36,42,43,44,47,50,53,59,64,65,66,80,83,84,85]
def extList:List (Nat × ExtK):=[]
def roList:List Nat:=[6,10,11,13,16,23,37,48,49,60,62,82]
def eqList:List Nat:=[23,25,30]
noncomputable def sumList:List (Nat × (List AV→Option AV)):=[]
noncomputable def effList:List (Nat × EffFn):=[(33,sortE)]
def bldList:List (Nat × Nat):=[]
def wrbList:List Nat:=[]
def qkList:List (Nat × List Nat):=[]
def linList:List Nat:=[2,3,76]
def groList:List Nat:=[20]
noncomputable def cfg:Cfg:={ P:=Try.prog,glob:=fun _=>none,sum:=fun f=>sumList.lookup f,user:=fun f=>userList.contains f,eqok:=fun t=>eqList.contains t,pure:=fun f=>pureList.contains f,flat:=fun f=>flatList.contains f,ext:=fun f=>extList.lookup f,keep:=keepTab keepList,eff:=fun f=>effList.lookup f,bld:=fun t=>bldList.lookup t,lin:=fun t=>linList.contains t,qk:=fun t a=>qkList.contains (t,a),wrb:=fun t=>wrbList.contains t,ro:=fun f=>roList.contains f,gro:=fun f=>groList.contains f }
noncomputable def C_L13_RecaptureAgrees:List AV→Hp→Res:=callw cfg 5
noncomputable def C_L09_Small:List AV→Hp→Res:=callw cfg 6
noncomputable def C_L13_awake:List AV→Hp→Res:=callw cfg 8
noncomputable def C_recapture_Captures:List AV→Hp→Res:=callw cfg 9
noncomputable def C_reprog_Compile:List AV→Hp→Res:=callw cfg 14
noncomputable def C_resim_Threads:List AV→Hp→Res:=callw cfg 15
noncomputable def C_L09_count:List AV→Hp→Res:=callw cfg 16
noncomputable def C_L09_Byte:List AV→Hp→Res:=callw cfg 17
noncomputable def C_L09_Node:List AV→Hp→Res:=callw cfg 18
noncomputable def C_retree_Groups:List AV→Hp→Res:=callw cfg 19
noncomputable def C_recapture_build:List AV→Hp→Res:=callw cfg 20
noncomputable def C_recapture_finder_ends:List AV→Hp→Res:=callw cfg 21
noncomputable def C_recapture_finder_find:List AV→Hp→Res:=callw cfg 22
noncomputable def C_retree_Check:List AV→Hp→Res:=callw cfg 24
noncomputable def C_retree_Back:List AV→Hp→Res:=callw cfg 25
noncomputable def C_retree_Expand:List AV→Hp→Res:=callw cfg 26
noncomputable def C_reprog_builder_tree:List AV→Hp→Res:=callw cfg 27
noncomputable def C_reprog_builder_add:List AV→Hp→Res:=callw cfg 28
noncomputable def C_resim_simulate:List AV→Hp→Res:=callw cfg 29
noncomputable def C_resim_simulation_reach:List AV→Hp→Res:=callw cfg 30
noncomputable def C_resim_simulation_next:List AV→Hp→Res:=callw cfg 31
noncomputable def C_resim_all:List AV→Hp→Res:=callw cfg 32
noncomputable def C_R04_Of:List AV→Hp→Res:=callw cfg 34
noncomputable def C_retree_count:List AV→Hp→Res:=callw cfg 35
noncomputable def C_recapture_bare:List AV→Hp→Res:=callw cfg 36
noncomputable def C_recapture_finder_compile:List AV→Hp→Res:=callw cfg 37
noncomputable def C_recapture_finder_reach:List AV→Hp→Res:=callw cfg 38
noncomputable def C_recapture_finder_cat:List AV→Hp→Res:=callw cfg 39
noncomputable def C_recapture_finder_repeat:List AV→Hp→Res:=callw cfg 40
noncomputable def C_retree_checker_node:List AV→Hp→Res:=callw cfg 41
noncomputable def C_retree_weigh:List AV→Hp→Res:=callw cfg 42
noncomputable def C_retree_clone:List AV→Hp→Res:=callw cfg 43
noncomputable def C_retree_expand:List AV→Hp→Res:=callw cfg 44
noncomputable def C_reprog_builder_alt:List AV→Hp→Res:=callw cfg 45
noncomputable def C_reprog_builder_repeat:List AV→Hp→Res:=callw cfg 46
noncomputable def C_reprog_Valid:List AV→Hp→Res:=callw cfg 47
noncomputable def C_resim_simulation_begins:List AV→Hp→Res:=callw cfg 48
noncomputable def C_resim_simulation_ends:List AV→Hp→Res:=callw cfg 49
noncomputable def C_charset_Has:List AV→Hp→Res:=callw cfg 50
noncomputable def C_R04_with:List AV→Hp→Res:=callw cfg 53
noncomputable def C_retree_walk:List AV→Hp→Res:=callw cfg 54
noncomputable def C_retree_count_1:List AV→Hp→Res:=callw cfg 55
noncomputable def C_recapture_finder_close:List AV→Hp→Res:=callw cfg 56
noncomputable def C_recapture_finder_starts:List AV→Hp→Res:=callw cfg 57
noncomputable def C_recapture_finder_cat_1:List AV→Hp→Res:=callw cfg 58
noncomputable def C_recapture_joined:List AV→Hp→Res:=callw cfg 59
noncomputable def C_recapture_longest:List AV→Hp→Res:=callw cfg 60
noncomputable def C_recapture_finder_repeat_1:List AV→Hp→Res:=callw cfg 61
noncomputable def C_recapture_remaining:List AV→Hp→Res:=callw cfg 62
noncomputable def C_recapture_finder_clear:List AV→Hp→Res:=callw cfg 63
noncomputable def C_retree_shaped:List AV→Hp→Res:=callw cfg 64
noncomputable def C_retree_weight:List AV→Hp→Res:=callw cfg 65
noncomputable def C_retree_counted:List AV→Hp→Res:=callw cfg 66
noncomputable def C_reprog_builder_split:List AV→Hp→Res:=callw cfg 67
noncomputable def C_reprog_Valid_1:List AV→Hp→Res:=callw cfg 68
noncomputable def C_R04_Has:List AV→Hp→Res:=callw cfg 80
noncomputable def C_recapture_finder_close_1:List AV→Hp→Res:=callw cfg 81
noncomputable def C_recapture_finder_holds:List AV→Hp→Res:=callw cfg 82
noncomputable def C_recapture_reversed:List AV→Hp→Res:=callw cfg 83
noncomputable def C_retree_repeat:List AV→Hp→Res:=callw cfg 84
noncomputable def C_retree_copies_of_api_Re:List AV→Hp→Res:=callw cfg 85

noncomputable def F_L09_Byte (p0:AV) (H:Hp):Res:=
 bnd (some ((.ptr H.length 0),H++[.cells [(.int .i64 0),(.int .u64 0),(.int .u64 0),(.int .u64 0),(.int .u64 0),(.int .i64 0),(.int .i64 0),(.int .i64 0),.nils]])) fun r2=>
 bnd ((setElems 1 [(0,p0)] [(.int .u8 0)]).map (.vs 1 .clip)) fun t4=>
 bnd (cvRd t4 r2.2) fun t5=>
 bnd (flatC C_R04_Of [t5] r2.2) fun r6=>
 bnd ((afill [(0,1,(.int .i64 2)),(1,4,r6.1)] [(.int .i64 0),(.int .u64 0),(.int .u64 0),(.int .u64 0),(.int .u64 0),(.int .i64 0),(.int .i64 0),(.int .i64 0),.nils]).map .agg) fun t7=>
 bnd (astoreU 9 r2.1 t7 r6.2) fun r_6=>
 bnd (aload true 9 r2.1 r_6.2) fun v2=>
 some (v2,r_6.2)
theorem F_L09_Byte_eq (p0:AV) (H:Hp):C_L09_Byte [p0] H=F_L09_Byte p0 H:=(callw_cxm (C:=cfg) (fn:=Try.f17) (c:=bodyOf Try.f17) (n:=8) [] Try.func17 (by kernel_rfl) (by kernel_rfl) [p0] (by kernel_rfl) H).trans (by kernel_rfl)

noncomputable def F_L09_Node (p0 p1:AV) (H:Hp):Res:=
 bnd (some ((.ptr H.length 0),H++[.cells [(.int .i64 0),(.int .u64 0),(.int .u64 0),(.int .u64 0),(.int .u64 0),(.int .i64 0),(.int .i64 0),(.int .i64 0),.nils]])) fun r4=>
 bnd ((afill [(0,1,p0),(8,1,p1)] [(.int .i64 0),(.int .u64 0),(.int .u64 0),(.int .u64 0),(.int .u64 0),(.int .i64 0),(.int .i64 0),(.int .i64 0),.nils]).map .agg) fun t7=>
 bnd (astoreU 9 r4.1 t7 r4.2) fun r_3=>
 bnd (aload true 9 r4.1 r_3.2) fun v4=>
 some (v4,r_3.2)
theorem F_L09_Node_eq (p0 p1:AV) (H:Hp):C_L09_Node [p0,p1] H=F_L09_Node p0 p1 H:=(callw_cxm (C:=cfg) (fn:=Try.f18) (c:=bodyOf Try.f18) (n:=8) [] Try.func18 (by kernel_rfl) (by kernel_rfl) [p0,p1] (by kernel_rfl) H).trans (by kernel_rfl)

noncomputable def R04_Of_J1 (x2 x3:AV) (H0 H:Hp):Res:=CXL cfg (callw cfg) (LPL cfg (cfg.keep 34) 17) (cfg.keep 34) 17 seqL blockL (sub (bodyOf Try.f34) [1,1,1]) (retL cfg 17 34 Try.f34 H0) [(2,x2),(3,x3)] H
noncomputable def R04_Of_K1 (H0:Hp):KL:=seqL (fun k al H=>CXL cfg (callw cfg) (LPL cfg (cfg.keep 34) 17) (cfg.keep 34) 17 seqL blockL (sub (bodyOf Try.f34) [1,1,1]) k (trimL (cfg.keep 34) (sub (bodyOf Try.f34) [1,1,1]) al) H) (retL cfg 17 34 Try.f34 H0)
theorem R04_Of_K1_tame (H0:Hp):Tame 17 (R04_Of_K1 H0):=tame_seq (C:=cfg) (kp:=cfg.keep 34) (sub (bodyOf Try.f34) [1,1,1]) (tame_ret 34 Try.f34 H0)
noncomputable def R04_Of_J3 (x0 x2 x3 x4:AV) (H0 H:Hp):Res:=CXL cfg (callw cfg) (LPL cfg (cfg.keep 34) 17) (cfg.keep 34) 17 seqL blockL (sub (bodyOf Try.f34) [1,1,0,1,0,0,1,1]) (seqL (fun k al H=>LPL cfg (cfg.keep 34) 17 (sub (bodyOf Try.f34) [1,1,0,1,0,0]) k (trimL (cfg.keep 34) (sub (bodyOf Try.f34) [1,1,0,1,0,0]) al) H) (blockL 0 (R04_Of_K1 H0))) [(0,x0),(2,x2),(3,x3),(4,x4)] H
noncomputable def R04_Of_J2 (x0 x2 x3 x4:AV) (H0 H:Hp):Res:=CXL cfg (callw cfg) (LPL cfg (cfg.keep 34) 17) (cfg.keep 34) 17 seqL blockL (sub (bodyOf Try.f34) [1,1,0,1,0,0,1]) (seqL (fun k al H=>LPL cfg (cfg.keep 34) 17 (sub (bodyOf Try.f34) [1,1,0,1,0,0]) k (trimL (cfg.keep 34) (sub (bodyOf Try.f34) [1,1,0,1,0,0]) al) H) (blockL 0 (R04_Of_K1 H0))) [(0,x0),(2,x2),(3,x3),(4,x4)] H
noncomputable def R04_Of_L1 (x0 x2 x3 x4:AV) (H0 H:Hp):Res:=LPL cfg (cfg.keep 34) 17 (sub (bodyOf Try.f34) [1,1,0,1,0,0]) (blockL 0 (R04_Of_K1 H0)) [(0,x0),(2,x2),(3,x3),(4,x4)] H
noncomputable def F_R04_Of (p0:AV) (H:Hp):Res:=
 bnd (some ((.ptr H.length 0),H++[.cells [(.int .u64 0),(.int .u64 0),(.int .u64 0),(.int .u64 0)]])) fun r2=>
 bnd (some ((.ptr r2.2.length 0),r2.2++[.cells [(.int .u64 0),(.int .u64 0),(.int .u64 0),(.int .u64 0)]])) fun r3=>
 R04_Of_L1 p0 r2.1 r3.1 (.int .i64 0) H r3.2
theorem R04_Of_J1_eq (x2 x3:AV) (H0 H:Hp):R04_Of_J1 x2 x3 H0 H =
    bnd (aload true 4 x3 H) fun t16=>
    bnd (astoreU 4 x2 t16 H) fun r_4=>
    bnd (aload true 4 x2 r_4.2) fun v2=>
    some (v2,r_4.2):=(CXM_eq [4,5,6] _ _ _ _).trans (by kernel_rfl)
theorem R04_Of_J3_eq (x0 x2 x3 x4:AV) (H0 H:Hp):R04_Of_J3 x0 x2 x3 x4 H0 H =
    bnd (ibin .add x4 (.int .i64 1)) fun t10=>
    R04_Of_L1 x0 x2 x3 t10 H0 H:=(CXM_eq [4,5,6] _ _ _ _).trans (by kernel_rfl)
theorem R04_Of_J2_eq (x0 x2 x3 x4:AV) (H0 H:Hp):R04_Of_J2 x0 x2 x3 x4 H0 H =
    bnd (aload true 4 x3 H) fun t11=>
    bnd (aindexStr x0 x4) fun t14=>
    bnd (flatC C_R04_with [t11,t14] H) fun r15=>
    bnd (astoreU 4 x3 r15.1 r15.2) fun r_10=>
    R04_Of_J3 x0 x2 x3 x4 H0 r_10.2:=(CXM_eq [4,5,6] _ _ _ _).trans (by kernel_rfl)
theorem R04_Of_L1_eq (x0 x2 x3 x4:AV) (H0 H:Hp):R04_Of_L1 x0 x2 x3 x4 H0 H =
    bnd (alenD .string x0) fun t7=>
    bnd (ibin .lss x4 t7) fun t8=>
    cnd t8
     (R04_Of_J2 x0 x2 x3 x4 H0 H)
     (R04_Of_J1 x2 x3 H0 H):=(LPL_eqm (C:=cfg) [4,5,6] (tame_block 0 (R04_Of_K1_tame H0)) _ _).trans (by kernel_rfl)
theorem F_R04_Of_eq (p0:AV) (H:Hp):C_R04_Of [p0] H=F_R04_Of p0 H:=(callw_cxm (C:=cfg) (fn:=Try.f34) (c:=bodyOf Try.f34) (n:=17) [4,5,6] Try.func34 (by kernel_rfl) (by kernel_rfl) [p0] (by kernel_rfl) H).trans (by kernel_rfl)

noncomputable def recapture_bare_J2 (x2 x3:AV) (H0 H:Hp):Res:=CXL cfg (callw cfg) (LPL cfg (cfg.keep 36) 32) (cfg.keep 36) 32 seqL blockL (sub (bodyOf Try.f36) [1,1,1,1,1]) (retL cfg 32 36 Try.f36 H0) [(2,x2),(3,x3)] H
noncomputable def recapture_bare_K1 (H0:Hp):KL:=seqL (fun k al H=>CXL cfg (callw cfg) (LPL cfg (cfg.keep 36) 32) (cfg.keep 36) 32 seqL blockL (sub (bodyOf Try.f36) [1,1,1,1,1]) k (trimL (cfg.keep 36) (sub (bodyOf Try.f36) [1,1,1,1,1]) al) H) (retL cfg 32 36 Try.f36 H0)
theorem recapture_bare_K1_tame (H0:Hp):Tame 32 (recapture_bare_K1 H0):=tame_seq (C:=cfg) (kp:=cfg.keep 36) (sub (bodyOf Try.f36) [1,1,1,1,1]) (tame_ret 36 Try.f36 H0)
noncomputable def recapture_bare_J4 (x2 x3 x17 x18 x19:AV) (H0 H:Hp):Res:=CXL cfg (callw cfg) (LPL cfg (cfg.keep 36) 32) (cfg.keep 36) 32 seqL blockL (sub (bodyOf Try.f36) [1,1,1,1,0,1,0,0,1,1,1]) (seqL (fun k al H=>LPL cfg (cfg.keep 36) 32 (sub (bodyOf Try.f36) [1,1,1,1,0,1,0,0]) k (trimL (cfg.keep 36) (sub (bodyOf Try.f36) [1,1,1,1,0,1,0,0]) al) H) (blockL 0 (recapture_bare_K1 H0))) [(2,x2),(3,x3),(17,x17),(18,x18),(19,x19)] H
noncomputable def recapture_bare_J3 (x2 x3 x17 x18 x19 x20:AV) (H0 H:Hp):Res:=CXL cfg (callw cfg) (LPL cfg (cfg.keep 36) 32) (cfg.keep 36) 32 seqL blockL (sub (bodyOf Try.f36) [1,1,1,1,0,1,0,0,1,1]) (seqL (fun k al H=>LPL cfg (cfg.keep 36) 32 (sub (bodyOf Try.f36) [1,1,1,1,0,1,0,0]) k (trimL (cfg.keep 36) (sub (bodyOf Try.f36) [1,1,1,1,0,1,0,0]) al) H) (blockL 0 (recapture_bare_K1 H0))) [(2,x2),(3,x3),(17,x17),(18,x18),(19,x19),(20,x20)] H
noncomputable def recapture_bare_L1 (x2 x3 x17 x18 x19:AV) (H0 H:Hp):Res:=LPL cfg (cfg.keep 36) 32 (sub (bodyOf Try.f36) [1,1,1,1,0,1,0,0]) (blockL 0 (recapture_bare_K1 H0)) [(2,x2),(3,x3),(17,x17),(18,x18),(19,x19)] H
noncomputable def recapture_bare_J1 (x1 x2:AV) (H0 H:Hp):Res:=CXL cfg (callw cfg) (LPL cfg (cfg.keep 36) 32) (cfg.keep 36) 32 seqL blockL (sub (bodyOf Try.f36) [1,1]) (retL cfg 32 36 Try.f36 H0) [(1,x1),(2,x2)] H
noncomputable def F_recapture_bare (p0:AV) (H:Hp):Res:=
 bnd (abox p0 H) fun r1=>
 bnd (some ((.ptr r1.2.length 0),r1.2++[.cells [(.int .i64 0),(.int .u64 0),(.int .u64 0),(.int .u64 0),(.int .u64 0),(.int .i64 0),(.int .i64 0),(.int .i64 0),.nils]])) fun r2=>
 bnd (afield 0 r1.1) fun t6=>
 bnd (aload false 1 t6 r2.2) fun t7=>
 bnd (ibin .eql t7 (.int .i64 6)) fun t8=>
 cnd t8
  (bnd (afield 8 r1.1) fun t9=>
  bnd (aload false 1 t9 r2.2) fun t10=>
  bnd (aindexS 9 t10 (.int .i64 0)) fun t11=>
  bnd (aload true 9 t11 r2.2) fun t12=>
  bnd (flatC C_recapture_bare [t12] r2.2) fun r13=>
  bnd (astoreU 9 r2.1 r13.1 r13.2) fun r_36=>
  bnd (aload true 9 r2.1 r_36.2) fun v2=>
  some (v2,r_36.2))
  (recapture_bare_J1 r1.1 r2.1 H r2.2)
theorem recapture_bare_J2_eq (x2 x3:AV) (H0 H:Hp):recapture_bare_J2 x2 x3 H0 H =
    bnd (aload true 9 x3 H) fun t31=>
    bnd (astoreU 9 x2 t31 H) fun r_9=>
    bnd (aload true 9 x2 r_9.2) fun v2=>
    some (v2,r_9.2):=(CXM_eq [3,7,9,10] _ _ _ _).trans (by kernel_rfl)
theorem recapture_bare_J4_eq (x2 x3 x17 x18 x19:AV) (H0 H:Hp):recapture_bare_J4 x2 x3 x17 x18 x19 H0 H =
    bnd (ibin .add x19 (.int .i64 1)) fun t30=>
    recapture_bare_L1 x2 x3 x17 x18 t30 H0 H:=(CXM_eq [3,7,9,10] _ _ _ _).trans (by kernel_rfl)
theorem recapture_bare_J3_eq (x2 x3 x17 x18 x19 x20:AV) (H0 H:Hp):recapture_bare_J3 x2 x3 x17 x18 x19 x20 H0 H =
    bnd (aindexS 9 x17 x19) fun t21=>
    bnd (aload true 9 t21 H) fun t22=>
    bnd (some ((.ptr H.length 0),H++[.cells [(.int .i64 0),(.int .u64 0),(.int .u64 0),(.int .u64 0),(.int .u64 0),(.int .i64 0),(.int .i64 0),(.int .i64 0),.nils]])) fun r5=>
    bnd (astoreU 9 r5.1 t22 r5.2) fun r_19=>
    bnd (afield 8 x3) fun t23=>
    bnd (aload false 1 t23 r_19.2) fun t24=>
    bnd (aload true 9 r5.1 r_19.2) fun t25=>
    bnd (flatC C_recapture_bare [t25] r_19.2) fun r26=>
    bnd ((setElems 9 [(0,r26.1)] [(.agg [(.int .i64 0),(.int .u64 0),(.int .u64 0),(.int .u64 0),(.int .u64 0),(.int .i64 0),(.int .i64 0),(.int .i64 0),.nils])]).map (.vs 9 .clip)) fun t27=>
    bnd (aappE 9 88 t24 t27 r26.2) fun r28=>
    bnd (afield 8 x3) fun t29=>
    bnd (astoreU 1 t29 r28.1 r28.2) fun r_27=>
    recapture_bare_J4 x2 x3 x17 x18 x19 H0 r_27.2:=(CXM_eq [3,7,9,10] _ _ _ _).trans (by kernel_rfl)
theorem recapture_bare_L1_eq (x2 x3 x17 x18 x19:AV) (H0 H:Hp):recapture_bare_L1 x2 x3 x17 x18 x19 H0 H =
    bnd (ibin .lss x19 x18) fun t20=>
    cnd t20
     (recapture_bare_J3 x2 x3 x17 x18 x19 t20 H0 H)
     (recapture_bare_J2 x2 x3 H0 H):=(LPL_eqm (C:=cfg) [3,7,9,10] (tame_block 0 (recapture_bare_K1_tame H0)) _ _).trans (by kernel_rfl)
theorem recapture_bare_J1_eq (x1 x2:AV) (H0 H:Hp):recapture_bare_J1 x1 x2 H0 H =
    bnd (aload true 9 x1 H) fun t14=>
    bnd (some ((.ptr H.length 0),H++[.cells [(.int .i64 0),(.int .u64 0),(.int .u64 0),(.int .u64 0),(.int .u64 0),(.int .i64 0),(.int .i64 0),(.int .i64 0),.nils]])) fun r3=>
    bnd (astoreU 9 r3.1 t14 r3.2) fun r_5=>
    bnd (afield 8 r3.1) fun t15=>
    bnd (astoreU 1 t15 .nils r_5.2) fun r_7=>
    bnd (afield 8 x1) fun t16=>
    bnd (aload false 1 t16 r_7.2) fun t17=>
    bnd (alenD (.slice 28) t17) fun t18=>
    recapture_bare_L1 x2 r3.1 t17 t18 (.int .i64 0) H0 r_7.2:=(CXM_eq [3,7,9,10] _ _ _ _).trans (by kernel_rfl)
theorem F_recapture_bare_eq (p0:AV) (H:Hp):C_recapture_bare [p0] H=F_recapture_bare p0 H:=(callw_cxm (C:=cfg) (fn:=Try.f36) (c:=bodyOf Try.f36) (n:=32) [3,7,9,10] Try.func36 (by kernel_rfl) (by kernel_rfl) [p0] (by kernel_rfl) H).trans (by kernel_rfl)

noncomputable def retree_weigh_J2 (x3:AV) (H0 H:Hp):Res:=CXL cfg (callw cfg) (LPL cfg (cfg.keep 42) 32) (cfg.keep 42) 32 seqL blockL (sub (bodyOf Try.f42) [1,1,1,1]) (retL cfg 32 42 Try.f42 H0) [(3,x3)] H
noncomputable def retree_weigh_J1 (x1 x3:AV) (H0 H:Hp):Res:=CXL cfg (callw cfg) (LPL cfg (cfg.keep 42) 32) (cfg.keep 42) 32 seqL blockL (sub (bodyOf Try.f42) [1,1,1]) (retL cfg 32 42 Try.f42 H0) [(1,x1),(3,x3)] H
noncomputable def retree_weigh_K1 (H0:Hp):KL:=seqL (fun k al H=>CXL cfg (callw cfg) (LPL cfg (cfg.keep 42) 32) (cfg.keep 42) 32 seqL blockL (sub (bodyOf Try.f42) [1,1,1]) k (trimL (cfg.keep 42) (sub (bodyOf Try.f42) [1,1,1]) al) H) (retL cfg 32 42 Try.f42 H0)
theorem retree_weigh_K1_tame (H0:Hp):Tame 32 (retree_weigh_K1 H0):=tame_seq (C:=cfg) (kp:=cfg.keep 42) (sub (bodyOf Try.f42) [1,1,1]) (tame_ret 42 Try.f42 H0)
noncomputable def retree_weigh_J4 (x1 x3 x7 x8 x9:AV) (H0 H:Hp):Res:=CXL cfg (callw cfg) (LPL cfg (cfg.keep 42) 32) (cfg.keep 42) 32 seqL blockL (sub (bodyOf Try.f42) [1,1,0,1,0,0,1,1,1]) (seqL (fun k al H=>LPL cfg (cfg.keep 42) 32 (sub (bodyOf Try.f42) [1,1,0,1,0,0]) k (trimL (cfg.keep 42) (sub (bodyOf Try.f42) [1,1,0,1,0,0]) al) H) (blockL 0 (retree_weigh_K1 H0))) [(1,x1),(3,x3),(7,x7),(8,x8),(9,x9)] H
noncomputable def retree_weigh_J3 (x1 x3 x7 x8 x9 x10:AV) (H0 H:Hp):Res:=CXL cfg (callw cfg) (LPL cfg (cfg.keep 42) 32) (cfg.keep 42) 32 seqL blockL (sub (bodyOf Try.f42) [1,1,0,1,0,0,1,1]) (seqL (fun k al H=>LPL cfg (cfg.keep 42) 32 (sub (bodyOf Try.f42) [1,1,0,1,0,0]) k (trimL (cfg.keep 42) (sub (bodyOf Try.f42) [1,1,0,1,0,0]) al) H) (blockL 0 (retree_weigh_K1 H0))) [(1,x1),(3,x3),(7,x7),(8,x8),(9,x9),(10,x10)] H
noncomputable def retree_weigh_L1 (x1 x3 x7 x8 x9:AV) (H0 H:Hp):Res:=LPL cfg (cfg.keep 42) 32 (sub (bodyOf Try.f42) [1,1,0,1,0,0]) (blockL 0 (retree_weigh_K1 H0)) [(1,x1),(3,x3),(7,x7),(8,x8),(9,x9)] H
noncomputable def F_retree_weigh (p0:AV) (H:Hp):Res:=
 bnd (abox p0 H) fun r1=>
 bnd (afield 8 r1.1) fun t6=>
 bnd (aload false 1 t6 r1.2) fun t7=>
 bnd (alenD (.slice 28) t7) fun t8=>
 retree_weigh_L1 r1.1 (.int .i64 0) t7 t8 (.int .i64 0) H r1.2
theorem retree_weigh_J2_eq (x3:AV) (H0 H:Hp):retree_weigh_J2 x3 H0 H =
    bnd (ibin .add x3 (.int .i64 1)) fun t30=>
    bnd (amin2 (.int .i64 1073741824) t30) fun t31=>
    some (t31,H):=(CXM_eq [4,6,7,9] _ _ _ _).trans (by kernel_rfl)
theorem retree_weigh_J1_eq (x1 x3:AV) (H0 H:Hp):retree_weigh_J1 x1 x3 H0 H =
    bnd (afield 0 x1) fun t19=>
    bnd (aload false 1 t19 H) fun t20=>
    bnd (ibin .eql t20 (.int .i64 5)) fun t21=>
    cnd t21
     (bnd (afield 5 x1) fun t23=>
     bnd (aload false 1 t23 H) fun t24=>
     bnd (afield 6 x1) fun t25=>
     bnd (aload false 1 t25 H) fun t26=>
     bnd (flatC C_retree_weight [x3,t24,t26] H) fun r27=>
     bnd (amin2 (.int .i64 1073741824) r27.1) fun t28=>
     some (t28,r27.2))
     (retree_weigh_J2 x3 H0 H):=(CXM_eq [4,6,7,9] _ _ _ _).trans (by kernel_rfl)
theorem retree_weigh_J4_eq (x1 x3 x7 x8 x9:AV) (H0 H:Hp):retree_weigh_J4 x1 x3 x7 x8 x9 H0 H =
    bnd (ibin .add x9 (.int .i64 1)) fun t18=>
    retree_weigh_L1 x1 x3 x7 x8 t18 H0 H:=(CXM_eq [4,6,7,9] _ _ _ _).trans (by kernel_rfl)
theorem retree_weigh_J3_eq (x1 x3 x7 x8 x9 x10:AV) (H0 H:Hp):retree_weigh_J3 x1 x3 x7 x8 x9 x10 H0 H =
    bnd (aindexS 9 x7 x9) fun t11=>
    bnd (aload true 9 t11 H) fun t12=>
    bnd (some ((.ptr H.length 0),H++[.cells [(.int .i64 0),(.int .u64 0),(.int .u64 0),(.int .u64 0),(.int .u64 0),(.int .i64 0),(.int .i64 0),(.int .i64 0),.nils]])) fun r5=>
    bnd (astoreU 9 r5.1 t12 r5.2) fun r_21=>
    bnd (aload true 9 r5.1 r_21.2) fun t14=>
    bnd (flatC C_retree_weigh [t14] r_21.2) fun r15=>
    bnd (ibin .add x3 r15.1) fun t16=>
    bnd (amin2 (.int .i64 1073741824) t16) fun t17=>
    retree_weigh_J4 x1 t17 x7 x8 x9 H0 r15.2:=(CXM_eq [4,6,7,9] _ _ _ _).trans (by kernel_rfl)
theorem retree_weigh_L1_eq (x1 x3 x7 x8 x9:AV) (H0 H:Hp):retree_weigh_L1 x1 x3 x7 x8 x9 H0 H =
    bnd (ibin .lss x9 x8) fun t10=>
    cnd t10
     (retree_weigh_J3 x1 x3 x7 x8 x9 t10 H0 H)
     (retree_weigh_J1 x1 x3 H0 H):=(LPL_eqm (C:=cfg) [4,6,7,9] (tame_block 0 (retree_weigh_K1_tame H0)) _ _).trans (by kernel_rfl)
theorem F_retree_weigh_eq (p0:AV) (H:Hp):C_retree_weigh [p0] H=F_retree_weigh p0 H:=(callw_cxm (C:=cfg) (fn:=Try.f42) (c:=bodyOf Try.f42) (n:=32) [4,6,7,9] Try.func42 (by kernel_rfl) (by kernel_rfl) [p0] (by kernel_rfl) H).trans (by kernel_rfl)

noncomputable def retree_clone_J1 (x1 x2 x3:AV) (H0 H:Hp):Res:=CXL cfg (callw cfg) (LPL cfg (cfg.keep 43) 22) (cfg.keep 43) 22 seqL blockL (sub (bodyOf Try.f43) [1,1,1]) (retL cfg 22 43 Try.f43 H0) [(1,x1),(2,x2),(3,x3)] H
noncomputable def retree_clone_K1 (H0:Hp):KL:=seqL (fun k al H=>CXL cfg (callw cfg) (LPL cfg (cfg.keep 43) 22) (cfg.keep 43) 22 seqL blockL (sub (bodyOf Try.f43) [1,1,1]) k (trimL (cfg.keep 43) (sub (bodyOf Try.f43) [1,1,1]) al) H) (retL cfg 22 43 Try.f43 H0)
theorem retree_clone_K1_tame (H0:Hp):Tame 22 (retree_clone_K1 H0):=tame_seq (C:=cfg) (kp:=cfg.keep 43) (sub (bodyOf Try.f43) [1,1,1]) (tame_ret 43 Try.f43 H0)
noncomputable def retree_clone_J3 (x1 x2 x3 x7 x8 x9:AV) (H0 H:Hp):Res:=CXL cfg (callw cfg) (LPL cfg (cfg.keep 43) 22) (cfg.keep 43) 22 seqL blockL (sub (bodyOf Try.f43) [1,1,0,1,0,0,1,1,1]) (seqL (fun k al H=>LPL cfg (cfg.keep 43) 22 (sub (bodyOf Try.f43) [1,1,0,1,0,0]) k (trimL (cfg.keep 43) (sub (bodyOf Try.f43) [1,1,0,1,0,0]) al) H) (blockL 0 (retree_clone_K1 H0))) [(1,x1),(2,x2),(3,x3),(7,x7),(8,x8),(9,x9)] H
noncomputable def retree_clone_J2 (x1 x2 x3 x7 x8 x9 x10:AV) (H0 H:Hp):Res:=CXL cfg (callw cfg) (LPL cfg (cfg.keep 43) 22) (cfg.keep 43) 22 seqL blockL (sub (bodyOf Try.f43) [1,1,0,1,0,0,1,1]) (seqL (fun k al H=>LPL cfg (cfg.keep 43) 22 (sub (bodyOf Try.f43) [1,1,0,1,0,0]) k (trimL (cfg.keep 43) (sub (bodyOf Try.f43) [1,1,0,1,0,0]) al) H) (blockL 0 (retree_clone_K1 H0))) [(1,x1),(2,x2),(3,x3),(7,x7),(8,x8),(9,x9),(10,x10)] H
noncomputable def retree_clone_L1 (x1 x2 x3 x7 x8 x9:AV) (H0 H:Hp):Res:=LPL cfg (cfg.keep 43) 22 (sub (bodyOf Try.f43) [1,1,0,1,0,0]) (blockL 0 (retree_clone_K1 H0)) [(1,x1),(2,x2),(3,x3),(7,x7),(8,x8),(9,x9)] H
noncomputable def F_retree_clone (p0:AV) (H:Hp):Res:=
 bnd (abox p0 H) fun r1=>
 bnd (some ((.ptr r1.2.length 0),r1.2++[.cells [(.int .i64 0),(.int .u64 0),(.int .u64 0),(.int .u64 0),(.int .u64 0),(.int .i64 0),(.int .i64 0),(.int .i64 0),.nils]])) fun r2=>
 bnd (afield 8 r1.1) fun t6=>
 bnd (aload false 1 t6 r2.2) fun t7=>
 bnd (alenD (.slice 28) t7) fun t8=>
 retree_clone_L1 r1.1 r2.1 .nils t7 t8 (.int .i64 0) H r2.2
theorem retree_clone_J1_eq (x1 x2 x3:AV) (H0 H:Hp):retree_clone_J1 x1 x2 x3 H0 H =
    bnd (afield 8 x1) fun t20=>
    bnd (astoreU 1 t20 x3 H) fun r_4=>
    bnd (aload true 9 x1 r_4.2) fun t21=>
    bnd (astoreU 9 x2 t21 r_4.2) fun r_6=>
    bnd (aload true 9 x2 r_6.2) fun v2=>
    some (v2,r_6.2):=(CXM_eq [4,6,7] _ _ _ _).trans (by kernel_rfl)
theorem retree_clone_J3_eq (x1 x2 x3 x7 x8 x9:AV) (H0 H:Hp):retree_clone_J3 x1 x2 x3 x7 x8 x9 H0 H =
    bnd (ibin .add x9 (.int .i64 1)) fun t18=>
    retree_clone_L1 x1 x2 x3 x7 x8 t18 H0 H:=(CXM_eq [4,6,7] _ _ _ _).trans (by kernel_rfl)
theorem retree_clone_J2_eq (x1 x2 x3 x7 x8 x9 x10:AV) (H0 H:Hp):retree_clone_J2 x1 x2 x3 x7 x8 x9 x10 H0 H =
    bnd (aindexS 9 x7 x9) fun t11=>
    bnd (aload true 9 t11 H) fun t12=>
    bnd (some ((.ptr H.length 0),H++[.cells [(.int .i64 0),(.int .u64 0),(.int .u64 0),(.int .u64 0),(.int .u64 0),(.int .i64 0),(.int .i64 0),(.int .i64 0),.nils]])) fun r5=>
    bnd (astoreU 9 r5.1 t12 r5.2) fun r_16=>
    bnd (aload true 9 r5.1 r_16.2) fun t14=>
    bnd (flatC C_retree_clone [t14] r_16.2) fun r15=>
    bnd ((setElems 9 [(0,r15.1)] [(.agg [(.int .i64 0),(.int .u64 0),(.int .u64 0),(.int .u64 0),(.int .u64 0),(.int .i64 0),(.int .i64 0),(.int .i64 0),.nils])]).map (.vs 9 .clip)) fun t16=>
    bnd (aappE 9 88 x3 t16 r15.2) fun r17=>
    retree_clone_J3 x1 x2 r17.1 x7 x8 x9 H0 r17.2:=(CXM_eq [4,6,7] _ _ _ _).trans (by kernel_rfl)
theorem retree_clone_L1_eq (x1 x2 x3 x7 x8 x9:AV) (H0 H:Hp):retree_clone_L1 x1 x2 x3 x7 x8 x9 H0 H =
    bnd (ibin .lss x9 x8) fun t10=>
    cnd t10
     (retree_clone_J2 x1 x2 x3 x7 x8 x9 t10 H0 H)
     (retree_clone_J1 x1 x2 x3 H0 H):=(LPL_eqm (C:=cfg) [4,6,7] (tame_block 0 (retree_clone_K1_tame H0)) _ _).trans (by kernel_rfl)
theorem F_retree_clone_eq (p0:AV) (H:Hp):C_retree_clone [p0] H=F_retree_clone p0 H:=(callw_cxm (C:=cfg) (fn:=Try.f43) (c:=bodyOf Try.f43) (n:=22) [4,6,7] Try.func43 (by kernel_rfl) (by kernel_rfl) [p0] (by kernel_rfl) H).trans (by kernel_rfl)

noncomputable def retree_expand_J3 (x2 x3:AV) (H0 H:Hp):Res:=CXL cfg (callw cfg) (LPL cfg (cfg.keep 44) 45) (cfg.keep 44) 45 seqL blockL (sub (bodyOf Try.f44) [1,1,1,1,1,1]) (retL cfg 45 44 Try.f44 H0) [(2,x2),(3,x3)] H
noncomputable def retree_expand_J2 (x1 x2 x3:AV) (H0 H:Hp):Res:=CXL cfg (callw cfg) (LPL cfg (cfg.keep 44) 45) (cfg.keep 44) 45 seqL blockL (sub (bodyOf Try.f44) [1,1,1,1,1]) (retL cfg 45 44 Try.f44 H0) [(1,x1),(2,x2),(3,x3)] H
noncomputable def retree_expand_K1 (H0:Hp):KL:=seqL (fun k al H=>CXL cfg (callw cfg) (LPL cfg (cfg.keep 44) 45) (cfg.keep 44) 45 seqL blockL (sub (bodyOf Try.f44) [1,1,1,1,1]) k (trimL (cfg.keep 44) (sub (bodyOf Try.f44) [1,1,1,1,1]) al) H) (retL cfg 45 44 Try.f44 H0)
theorem retree_expand_K1_tame (H0:Hp):Tame 45 (retree_expand_K1 H0):=tame_seq (C:=cfg) (kp:=cfg.keep 44) (sub (bodyOf Try.f44) [1,1,1,1,1]) (tame_ret 44 Try.f44 H0)
noncomputable def retree_expand_J5 (x1 x2 x3 x18 x19 x20:AV) (H0 H:Hp):Res:=CXL cfg (callw cfg) (LPL cfg (cfg.keep 44) 45) (cfg.keep 44) 45 seqL blockL (sub (bodyOf Try.f44) [1,1,1,1,0,1,0,0,1,1,1]) (seqL (fun k al H=>LPL cfg (cfg.keep 44) 45 (sub (bodyOf Try.f44) [1,1,1,1,0,1,0,0]) k (trimL (cfg.keep 44) (sub (bodyOf Try.f44) [1,1,1,1,0,1,0,0]) al) H) (blockL 0 (retree_expand_K1 H0))) [(1,x1),(2,x2),(3,x3),(18,x18),(19,x19),(20,x20)] H
noncomputable def retree_expand_J4 (x1 x2 x3 x18 x19 x20 x21:AV) (H0 H:Hp):Res:=CXL cfg (callw cfg) (LPL cfg (cfg.keep 44) 45) (cfg.keep 44) 45 seqL blockL (sub (bodyOf Try.f44) [1,1,1,1,0,1,0,0,1,1]) (seqL (fun k al H=>LPL cfg (cfg.keep 44) 45 (sub (bodyOf Try.f44) [1,1,1,1,0,1,0,0]) k (trimL (cfg.keep 44) (sub (bodyOf Try.f44) [1,1,1,1,0,1,0,0]) al) H) (blockL 0 (retree_expand_K1 H0))) [(1,x1),(2,x2),(3,x3),(18,x18),(19,x19),(20,x20),(21,x21)] H
noncomputable def retree_expand_L1 (x1 x2 x3 x18 x19 x20:AV) (H0 H:Hp):Res:=LPL cfg (cfg.keep 44) 45 (sub (bodyOf Try.f44) [1,1,1,1,0,1,0,0]) (blockL 0 (retree_expand_K1 H0)) [(1,x1),(2,x2),(3,x3),(18,x18),(19,x19),(20,x20)] H
noncomputable def retree_expand_J1 (x1 x2:AV) (H0 H:Hp):Res:=CXL cfg (callw cfg) (LPL cfg (cfg.keep 44) 45) (cfg.keep 44) 45 seqL blockL (sub (bodyOf Try.f44) [1,1]) (retL cfg 45 44 Try.f44 H0) [(1,x1),(2,x2)] H
noncomputable def F_retree_expand (p0:AV) (H:Hp):Res:=
 bnd (abox p0 H) fun r1=>
 bnd (some ((.ptr r1.2.length 0),r1.2++[.cells [(.int .i64 0),(.int .u64 0),(.int .u64 0),(.int .u64 0),(.int .u64 0),(.int .i64 0),(.int .i64 0),(.int .i64 0),.nils]])) fun r2=>
 bnd (afield 0 r1.1) fun t6=>
 bnd (aload false 1 t6 r2.2) fun t7=>
 bnd (ibin .eql t7 (.int .i64 5)) fun t8=>
 bnd (gdv t8 true (.tuple []) (afield 6 r1.1)) fun t10=>
 bnd (gdv t8 true (.tuple []) (aload false 1 t10 r2.2)) fun t11=>
 bnd (gdv t8 true (.tuple []) (ibin .eql t11 (.int .i64 0))) fun t12=>
 bnd (apick t8 t12 (.bool false)) fun t13=>
 cnd t13
  (bnd ((afill [(0,1,(.int .i64 1))] [(.int .i64 0),(.int .u64 0),(.int .u64 0),(.int .u64 0),(.int .u64 0),(.int .i64 0),(.int .i64 0),(.int .i64 0),.nils]).map .agg) fun t14=>
  bnd (astoreU 9 r2.1 t14 r2.2) fun r_50=>
  bnd (aload true 9 r2.1 r_50.2) fun v2=>
  some (v2,r_50.2))
  (retree_expand_J1 r1.1 r2.1 H r2.2)
theorem retree_expand_J3_eq (x2 x3:AV) (H0 H:Hp):retree_expand_J3 x2 x3 H0 H =
    bnd (aload true 9 x3 H) fun t44=>
    bnd (astoreU 9 x2 t44 H) fun r_9=>
    bnd (aload true 9 x2 r_9.2) fun v2=>
    some (v2,r_9.2):=(CXM_eq [3,7,9,10,12] _ _ _ _).trans (by kernel_rfl)
theorem retree_expand_J2_eq (x1 x2 x3:AV) (H0 H:Hp):retree_expand_J2 x1 x2 x3 H0 H =
    bnd (afield 0 x1) fun t32=>
    bnd (aload false 1 t32 H) fun t33=>
    bnd (ibin .eql t33 (.int .i64 5)) fun t34=>
    cnd t34
     (bnd (afield 8 x3) fun t35=>
     bnd (aload false 1 t35 H) fun t36=>
     bnd (aindexS 9 t36 (.int .i64 0)) fun t37=>
     bnd (aload true 9 t37 H) fun t38=>
     bnd (afield 5 x1) fun t39=>
     bnd (aload false 1 t39 H) fun t40=>
     bnd (afield 6 x1) fun t41=>
     bnd (aload false 1 t41 H) fun t42=>
     bnd (flatC C_retree_counted [t38,t40,t42] H) fun r43=>
     bnd (astoreU 9 x2 r43.1 r43.2) fun r_23=>
     bnd (aload true 9 x2 r_23.2) fun v2=>
     some (v2,r_23.2))
     (retree_expand_J3 x2 x3 H0 H):=(CXM_eq [3,7,9,10,12] _ _ _ _).trans (by kernel_rfl)
theorem retree_expand_J5_eq (x1 x2 x3 x18 x19 x20:AV) (H0 H:Hp):retree_expand_J5 x1 x2 x3 x18 x19 x20 H0 H =
    bnd (ibin .add x20 (.int .i64 1)) fun t31=>
    retree_expand_L1 x1 x2 x3 x18 x19 t31 H0 H:=(CXM_eq [3,7,9,10,12] _ _ _ _).trans (by kernel_rfl)
theorem retree_expand_J4_eq (x1 x2 x3 x18 x19 x20 x21:AV) (H0 H:Hp):retree_expand_J4 x1 x2 x3 x18 x19 x20 x21 H0 H =
    bnd (aindexS 9 x18 x20) fun t22=>
    bnd (aload true 9 t22 H) fun t23=>
    bnd (some ((.ptr H.length 0),H++[.cells [(.int .i64 0),(.int .u64 0),(.int .u64 0),(.int .u64 0),(.int .u64 0),(.int .i64 0),(.int .i64 0),(.int .i64 0),.nils]])) fun r5=>
    bnd (astoreU 9 r5.1 t23 r5.2) fun r_33=>
    bnd (afield 8 x3) fun t24=>
    bnd (aload false 1 t24 r_33.2) fun t25=>
    bnd (aload true 9 r5.1 r_33.2) fun t26=>
    bnd (flatC C_retree_expand [t26] r_33.2) fun r27=>
    bnd ((setElems 9 [(0,r27.1)] [(.agg [(.int .i64 0),(.int .u64 0),(.int .u64 0),(.int .u64 0),(.int .u64 0),(.int .i64 0),(.int .i64 0),(.int .i64 0),.nils])]).map (.vs 9 .clip)) fun t28=>
    bnd (aappE 9 88 t25 t28 r27.2) fun r29=>
    bnd (afield 8 x3) fun t30=>
    bnd (astoreU 1 t30 r29.1 r29.2) fun r_41=>
    retree_expand_J5 x1 x2 x3 x18 x19 x20 H0 r_41.2:=(CXM_eq [3,7,9,10,12] _ _ _ _).trans (by kernel_rfl)
theorem retree_expand_L1_eq (x1 x2 x3 x18 x19 x20:AV) (H0 H:Hp):retree_expand_L1 x1 x2 x3 x18 x19 x20 H0 H =
    bnd (ibin .lss x20 x19) fun t21=>
    cnd t21
     (retree_expand_J4 x1 x2 x3 x18 x19 x20 t21 H0 H)
     (retree_expand_J2 x1 x2 x3 H0 H):=(LPL_eqm (C:=cfg) [3,7,9,10,12] (tame_block 0 (retree_expand_K1_tame H0)) _ _).trans (by kernel_rfl)
theorem retree_expand_J1_eq (x1 x2:AV) (H0 H:Hp):retree_expand_J1 x1 x2 H0 H =
    bnd (aload true 9 x1 H) fun t15=>
    bnd (some ((.ptr H.length 0),H++[.cells [(.int .i64 0),(.int .u64 0),(.int .u64 0),(.int .u64 0),(.int .u64 0),(.int .i64 0),(.int .i64 0),(.int .i64 0),.nils]])) fun r3=>
    bnd (astoreU 9 r3.1 t15 r3.2) fun r_5=>
    bnd (afield 8 r3.1) fun t16=>
    bnd (astoreU 1 t16 .nils r_5.2) fun r_7=>
    bnd (afield 8 x1) fun t17=>
    bnd (aload false 1 t17 r_7.2) fun t18=>
    bnd (alenD (.slice 28) t18) fun t19=>
    retree_expand_L1 x1 x2 r3.1 t18 t19 (.int .i64 0) H0 r_7.2:=(CXM_eq [3,7,9,10,12] _ _ _ _).trans (by kernel_rfl)
theorem F_retree_expand_eq (p0:AV) (H:Hp):C_retree_expand [p0] H=F_retree_expand p0 H:=(callw_cxm (C:=cfg) (fn:=Try.f44) (c:=bodyOf Try.f44) (n:=45) [3,7,9,10,12] Try.func44 (by kernel_rfl) (by kernel_rfl) [p0] (by kernel_rfl) H).trans (by kernel_rfl)

noncomputable def reprog_Valid_J2 (H0 H:Hp):Res:=CXL cfg (callw cfg) (LPL cfg (cfg.keep 47) 60) (cfg.keep 47) 60 seqL blockL (sub (bodyOf Try.f47) [1,1,1,1,1]) (retL cfg 60 47 Try.f47 H0) [] H
noncomputable def reprog_Valid_K1 (H0:Hp):KL:=seqL (fun k al H=>CXL cfg (callw cfg) (LPL cfg (cfg.keep 47) 60) (cfg.keep 47) 60 seqL blockL (sub (bodyOf Try.f47) [1,1,1,1,1]) k (trimL (cfg.keep 47) (sub (bodyOf Try.f47) [1,1,1,1,1]) al) H) (retL cfg 60 47 Try.f47 H0)
theorem reprog_Valid_K1_tame (H0:Hp):Tame 60 (reprog_Valid_K1 H0):=tame_seq (C:=cfg) (kp:=cfg.keep 47) (sub (bodyOf Try.f47) [1,1,1,1,1]) (tame_ret 47 Try.f47 H0)
noncomputable def reprog_Valid_J4 (x3 x4 x19 x20 x21:AV) (H0 H:Hp):Res:=CXL cfg (callw cfg) (LPL cfg (cfg.keep 47) 60) (cfg.keep 47) 60 seqL blockL (sub (bodyOf Try.f47) [1,1,1,1,0,1,0,0,1,1,1]) (seqL (fun k al H=>LPL cfg (cfg.keep 47) 60 (sub (bodyOf Try.f47) [1,1,1,1,0,1,0,0]) k (trimL (cfg.keep 47) (sub (bodyOf Try.f47) [1,1,1,1,0,1,0,0]) al) H) (blockL 0 (reprog_Valid_K1 H0))) [(3,x3),(4,x4),(19,x19),(20,x20),(21,x21)] H
noncomputable def reprog_Valid_K2 (H0:Hp):KL:=seqL (fun k al H=>CXL cfg (callw cfg) (LPL cfg (cfg.keep 47) 60) (cfg.keep 47) 60 seqL blockL (sub (bodyOf Try.f47) [1,1,1,1,0,1,0,0,1,1,1]) k (trimL (cfg.keep 47) (sub (bodyOf Try.f47) [1,1,1,1,0,1,0,0,1,1,1]) al) H) (seqL (fun k al H=>LPL cfg (cfg.keep 47) 60 (sub (bodyOf Try.f47) [1,1,1,1,0,1,0,0]) k (trimL (cfg.keep 47) (sub (bodyOf Try.f47) [1,1,1,1,0,1,0,0]) al) H) (blockL 0 (reprog_Valid_K1 H0)))
noncomputable def reprog_Valid_J5 (x3 x4 x7 x19 x20 x21:AV) (H0 H:Hp):Res:=CXL cfg (callw cfg) (LPL cfg (cfg.keep 47) 60) (cfg.keep 47) 60 seqL blockL (sub (bodyOf Try.f47) [1,1,1,1,0,1,0,0,1,1,0,0,1,1,1]) (blockL 1 (reprog_Valid_K2 H0)) [(3,x3),(4,x4),(7,x7),(19,x19),(20,x20),(21,x21)] H
noncomputable def reprog_Valid_J3 (x3 x4 x19 x20 x21 x22:AV) (H0 H:Hp):Res:=CXL cfg (callw cfg) (LPL cfg (cfg.keep 47) 60) (cfg.keep 47) 60 seqL blockL (sub (bodyOf Try.f47) [1,1,1,1,0,1,0,0,1,1]) (seqL (fun k al H=>LPL cfg (cfg.keep 47) 60 (sub (bodyOf Try.f47) [1,1,1,1,0,1,0,0]) k (trimL (cfg.keep 47) (sub (bodyOf Try.f47) [1,1,1,1,0,1,0,0]) al) H) (blockL 0 (reprog_Valid_K1 H0))) [(3,x3),(4,x4),(19,x19),(20,x20),(21,x21),(22,x22)] H
noncomputable def reprog_Valid_L1 (x3 x4 x19 x20 x21:AV) (H0 H:Hp):Res:=LPL cfg (cfg.keep 47) 60 (sub (bodyOf Try.f47) [1,1,1,1,0,1,0,0]) (blockL 0 (reprog_Valid_K1 H0)) [(3,x3),(4,x4),(19,x19),(20,x20),(21,x21)] H
noncomputable def reprog_Valid_J1 (x1 x3:AV) (H0 H:Hp):Res:=CXL cfg (callw cfg) (LPL cfg (cfg.keep 47) 60) (cfg.keep 47) 60 seqL blockL (sub (bodyOf Try.f47) [1,1,1]) (retL cfg 60 47 Try.f47 H0) [(1,x1),(3,x3)] H
noncomputable def F_reprog_Valid (p0:AV) (H:Hp):Res:=
 bnd (abox p0 H) fun r1=>
 bnd (afield 0 r1.1) fun t8=>
 bnd (aload false 1 t8 r1.2) fun t9=>
 bnd (alenD (.slice 76) t9) fun t10=>
 bnd (some ((.ptr r1.2.length 0),r1.2++[.cells [(.int .i64 0)]])) fun r3=>
 bnd (astoreU 1 r3.1 t10 r3.2) fun r_6=>
 bnd (aload false 1 r3.1 r_6.2) fun t11=>
 bnd (ibin .lss t11 (.int .i64 1)) fun t12=>
 bnd (gdv t12 false (.tuple []) (aload false 1 r3.1 r_6.2)) fun t14=>
 bnd (gdv t12 false (.tuple []) (ibin .gtr t14 (.int .i64 4096))) fun t15=>
 bnd (apick t12 (.bool true) t15) fun t16=>
 cnd t16
  (some ((.bool false),r_6.2))
  (reprog_Valid_J1 r1.1 r3.1 H r_6.2)
theorem reprog_Valid_J2_eq (H0 H:Hp):reprog_Valid_J2 H0 H =
    some ((.bool true),H):=(CXM_eq [4,7,19,21,22] _ _ _ _).trans (by kernel_rfl)
theorem reprog_Valid_J4_eq (x3 x4 x19 x20 x21:AV) (H0 H:Hp):reprog_Valid_J4 x3 x4 x19 x20 x21 H0 H =
    bnd (ibin .add x21 (.int .i64 1)) fun t59=>
    reprog_Valid_L1 x3 x4 x19 x20 t59 H0 H:=(CXM_eq [4,7,19,21,22] _ _ _ _).trans (by kernel_rfl)
theorem reprog_Valid_J5_eq (x3 x4 x7 x19 x20 x21:AV) (H0 H:Hp):reprog_Valid_J5 x3 x4 x7 x19 x20 x21 H0 H =
    bnd (aun .not x7) fun t58=>
    cnd t58
     (some ((.bool false),H))
     (reprog_Valid_J4 x3 x4 x19 x20 x21 H0 H):=(CXM_eq [4,7,19,21,22] _ _ _ _).trans (by kernel_rfl)
theorem reprog_Valid_J3_eq (x3 x4 x19 x20 x21 x22:AV) (H0 H:Hp):reprog_Valid_J3 x3 x4 x19 x20 x21 x22 H0 H =
    bnd (aindexS 7 x19 x21) fun t24=>
    bnd (aload true 7 t24 H) fun t25=>
    bnd (some ((.ptr H.length 0),H++[.cells [(.int .i64 0),(.int .u64 0),(.int .u64 0),(.int .u64 0),(.int .u64 0),(.int .i64 0),(.int .i64 0)]])) fun r6=>
    bnd (astoreU 7 r6.1 t25 r6.2) fun r_16=>
    bnd (afield 0 r6.1) fun t26=>
    bnd (aload false 1 t26 r_16.2) fun t27=>
    bnd (ibin .eql t27 (.int .i64 1)) fun t32=>
    cnd t32
     (cnd t32
      (bnd (aload false 1 x3 r_16.2) fun t36=>
      bnd (ibin .sub t36 (.int .i64 1)) fun t37=>
      bnd (ibin .lss x21 t37) fun t38=>
      reprog_Valid_J5 x3 x4 t38 x19 x20 x21 H0 r_16.2)
      (bnd (ibin .eql t27 (.int .i64 2)) fun t40=>
      cnd t40
       (bnd (afield 5 r6.1) fun t42=>
       bnd (aload false 1 t42 r_16.2) fun t43=>
       bnd (acall cfg (callw cfg) x4 [t43] r_16.2) fun r44=>
       bnd (gdv r44.1 true (.tuple []) (some x4)) fun t46=>
       bnd (gdv r44.1 true (.tuple []) (afield 6 r6.1)) fun t47=>
       bnd (gdv r44.1 true (.tuple []) (aload false 1 t47 r44.2)) fun t48=>
       bnd (gdv r44.1 true ((.tuple []),r44.2) (acall cfg (callw cfg) t46 [t48] r44.2)) fun r49=>
       bnd (apick r44.1 r49.1 (.bool false)) fun t50=>
       reprog_Valid_J5 x3 x4 t50 x19 x20 x21 H0 r49.2)
       (bnd (ibin .eql t27 (.int .i64 3)) fun t52=>
       cnd t52
        (bnd (afield 5 r6.1) fun t54=>
        bnd (aload false 1 t54 r_16.2) fun t55=>
        bnd (acall cfg (callw cfg) x4 [t55] r_16.2) fun r56=>
        reprog_Valid_J5 x3 x4 r56.1 x19 x20 x21 H0 r56.2)
        (bnd (afield 0 r6.1) fun t28=>
        bnd (aload false 1 t28 r_16.2) fun t29=>
        bnd (ibin .eql t29 (.int .i64 6)) fun t30=>
        reprog_Valid_J5 x3 x4 t30 x19 x20 x21 H0 r_16.2))))
     (bnd (ibin .eql t27 (.int .i64 4)) fun t33=>
     cnd t33
      (cnd t33
       (bnd (aload false 1 x3 r_16.2) fun t36=>
       bnd (ibin .sub t36 (.int .i64 1)) fun t37=>
       bnd (ibin .lss x21 t37) fun t38=>
       reprog_Valid_J5 x3 x4 t38 x19 x20 x21 H0 r_16.2)
       (bnd (ibin .eql t27 (.int .i64 2)) fun t40=>
       cnd t40
        (bnd (afield 5 r6.1) fun t42=>
        bnd (aload false 1 t42 r_16.2) fun t43=>
        bnd (acall cfg (callw cfg) x4 [t43] r_16.2) fun r44=>
        bnd (gdv r44.1 true (.tuple []) (some x4)) fun t46=>
        bnd (gdv r44.1 true (.tuple []) (afield 6 r6.1)) fun t47=>
        bnd (gdv r44.1 true (.tuple []) (aload false 1 t47 r44.2)) fun t48=>
        bnd (gdv r44.1 true ((.tuple []),r44.2) (acall cfg (callw cfg) t46 [t48] r44.2)) fun r49=>
        bnd (apick r44.1 r49.1 (.bool false)) fun t50=>
        reprog_Valid_J5 x3 x4 t50 x19 x20 x21 H0 r49.2)
        (bnd (ibin .eql t27 (.int .i64 3)) fun t52=>
        cnd t52
         (bnd (afield 5 r6.1) fun t54=>
         bnd (aload false 1 t54 r_16.2) fun t55=>
         bnd (acall cfg (callw cfg) x4 [t55] r_16.2) fun r56=>
         reprog_Valid_J5 x3 x4 r56.1 x19 x20 x21 H0 r56.2)
         (bnd (afield 0 r6.1) fun t28=>
         bnd (aload false 1 t28 r_16.2) fun t29=>
         bnd (ibin .eql t29 (.int .i64 6)) fun t30=>
         reprog_Valid_J5 x3 x4 t30 x19 x20 x21 H0 r_16.2))))
      (bnd (ibin .eql t27 (.int .i64 5)) fun t34=>
      cnd t34
       (bnd (aload false 1 x3 r_16.2) fun t36=>
       bnd (ibin .sub t36 (.int .i64 1)) fun t37=>
       bnd (ibin .lss x21 t37) fun t38=>
       reprog_Valid_J5 x3 x4 t38 x19 x20 x21 H0 r_16.2)
       (bnd (ibin .eql t27 (.int .i64 2)) fun t40=>
       cnd t40
        (bnd (afield 5 r6.1) fun t42=>
        bnd (aload false 1 t42 r_16.2) fun t43=>
        bnd (acall cfg (callw cfg) x4 [t43] r_16.2) fun r44=>
        bnd (gdv r44.1 true (.tuple []) (some x4)) fun t46=>
        bnd (gdv r44.1 true (.tuple []) (afield 6 r6.1)) fun t47=>
        bnd (gdv r44.1 true (.tuple []) (aload false 1 t47 r44.2)) fun t48=>
        bnd (gdv r44.1 true ((.tuple []),r44.2) (acall cfg (callw cfg) t46 [t48] r44.2)) fun r49=>
        bnd (apick r44.1 r49.1 (.bool false)) fun t50=>
        reprog_Valid_J5 x3 x4 t50 x19 x20 x21 H0 r49.2)
        (bnd (ibin .eql t27 (.int .i64 3)) fun t52=>
        cnd t52
         (bnd (afield 5 r6.1) fun t54=>
         bnd (aload false 1 t54 r_16.2) fun t55=>
         bnd (acall cfg (callw cfg) x4 [t55] r_16.2) fun r56=>
         reprog_Valid_J5 x3 x4 r56.1 x19 x20 x21 H0 r56.2)
         (bnd (afield 0 r6.1) fun t28=>
         bnd (aload false 1 t28 r_16.2) fun t29=>
         bnd (ibin .eql t29 (.int .i64 6)) fun t30=>
         reprog_Valid_J5 x3 x4 t30 x19 x20 x21 H0 r_16.2))))):=(CXM_eq [4,7,19,21,22] _ _ _ _).trans (by kernel_rfl)
theorem reprog_Valid_L1_eq (x3 x4 x19 x20 x21:AV) (H0 H:Hp):reprog_Valid_L1 x3 x4 x19 x20 x21 H0 H =
    bnd (ibin .lss x21 x20) fun t22=>
    cnd t22
     (reprog_Valid_J3 x3 x4 x19 x20 x21 t22 H0 H)
     (reprog_Valid_J2 H0 H):=(LPL_eqm (C:=cfg) [4,7,19,21,22] (tame_block 0 (reprog_Valid_K1_tame H0)) _ _).trans (by kernel_rfl)
theorem reprog_Valid_J1_eq (x1 x3:AV) (H0 H:Hp):reprog_Valid_J1 x1 x3 H0 H =
    bnd (some (.fn (.func 68) [] [x3])) fun t17=>
    bnd (afield 0 x1) fun t18=>
    bnd (aload false 1 t18 H) fun t19=>
    bnd (alenD (.slice 76) t19) fun t20=>
    reprog_Valid_L1 x3 t17 t19 t20 (.int .i64 0) H0 H:=(CXM_eq [4,7,19,21,22] _ _ _ _).trans (by kernel_rfl)
theorem F_reprog_Valid_eq (p0:AV) (H:Hp):C_reprog_Valid [p0] H=F_reprog_Valid p0 H:=(callw_cxm (C:=cfg) (fn:=Try.f47) (c:=bodyOf Try.f47) (n:=60) [4,7,19,21,22] Try.func47 (by kernel_rfl) (by kernel_rfl) [p0] (by kernel_rfl) H).trans (by kernel_rfl)

noncomputable def F_charset_Has (p0 p1:AV) (H:Hp):Res:=
 bnd (abox p0 H) fun r2=>
 bnd (ibin .quo p1 (.int .u8 64)) fun t6=>
 bnd (afield 0 r2.1) fun t7=>
 bnd (aindexA 4 1 t7 t6) fun t8=>
 bnd (aload false 1 t8 r2.2) fun t9=>
 bnd (ibin .rem p1 (.int .u8 64)) fun t11=>
 bnd (ibin .shr t9 t11) fun t12=>
 bnd (ibin .and t12 (.int .u64 1)) fun t13=>
 bnd (ibin .eql t13 (.int .u64 1)) fun t14=>
 some (t14,r2.2)
theorem F_charset_Has_eq (p0 p1:AV) (H:Hp):C_charset_Has [p0,p1] H=F_charset_Has p0 p1 H:=(callw_cxm (C:=cfg) (fn:=Try.f50) (c:=bodyOf Try.f50) (n:=15) [] Try.func50 (by kernel_rfl) (by kernel_rfl) [p0,p1] (by kernel_rfl) H).trans (by kernel_rfl)

noncomputable def R04_with_J1 (x2 x4:AV) (H0 H:Hp):Res:=CXL cfg (callw cfg) (LPL cfg (cfg.keep 53) 23) (cfg.keep 53) 23 seqL blockL (sub (bodyOf Try.f53) [1,1]) (retL cfg 23 53 Try.f53 H0) [(2,x2),(4,x4)] H
noncomputable def F_R04_with (p0 p1:AV) (H:Hp):Res:=
 bnd (abox p0 H) fun r2=>
 bnd (some ((.ptr r2.2.length 0),r2.2++[.cells [(.int .u64 0),(.int .u64 0),(.int .u64 0),(.int .u64 0)]])) fun r4=>
 bnd (aload true 4 r2.1 r4.2) fun t5=>
 bnd (flatC C_R04_Has [t5,p1] r4.2) fun r7=>
 bnd (aun .not r7.1) fun t8=>
 cnd t8
  (bnd (ibin .quo p1 (.int .u8 64)) fun t10=>
  bnd (ibin .quo p1 (.int .u8 64)) fun t12=>
  bnd (afield 0 r2.1) fun t13=>
  bnd (aindexA 4 1 t13 t12) fun t14=>
  bnd (aload false 1 t14 r7.2) fun t15=>
  bnd (ibin .rem p1 (.int .u8 64)) fun t17=>
  bnd (ibin .shl (.int .u64 1) t17) fun t18=>
  bnd (ibin .add t15 t18) fun t19=>
  bnd (afield 0 r2.1) fun t20=>
  bnd (aindexA 4 1 t20 t10) fun t21=>
  bnd (astoreU 1 t21 t19 r7.2) fun r_19=>
  R04_with_J1 r2.1 r4.1 H r_19.2)
  (R04_with_J1 r2.1 r4.1 H r7.2)
theorem R04_with_J1_eq (x2 x4:AV) (H0 H:Hp):R04_with_J1 x2 x4 H0 H =
    bnd (aload true 4 x2 H) fun t22=>
    bnd (astoreU 4 x4 t22 H) fun r_4=>
    bnd (aload true 4 x4 r_4.2) fun v4=>
    some (v4,r_4.2):=(CXM_eq [3] _ _ _ _).trans (by kernel_rfl)
theorem F_R04_with_eq (p0 p1:AV) (H:Hp):C_R04_with [p0,p1] H=F_R04_with p0 p1 H:=(callw_cxm (C:=cfg) (fn:=Try.f53) (c:=bodyOf Try.f53) (n:=23) [3] Try.func53 (by kernel_rfl) (by kernel_rfl) [p0,p1] (by kernel_rfl) H).trans (by kernel_rfl)

noncomputable def recapture_joined_J1 (x0 x2:AV) (H0 H:Hp):Res:=CXL cfg (callw cfg) (LPL cfg (cfg.keep 59) 15) (cfg.keep 59) 15 seqL blockL (sub (bodyOf Try.f59) [1,1]) (retL cfg 15 59 Try.f59 H0) [(0,x0),(2,x2)] H
noncomputable def F_recapture_joined (p0:AV) (H:Hp):Res:=
 bnd (some ((.ptr H.length 0),H++[.cells [(.int .i64 0),(.int .u64 0),(.int .u64 0),(.int .u64 0),(.int .u64 0),(.int .i64 0),(.int .i64 0),(.int .i64 0),.nils]])) fun r2=>
 bnd (alenD (.slice 28) p0) fun t4=>
 bnd (ibin .eql t4 (.int .i64 0)) fun t6=>
 cnd t6
  (bnd ((afill [(0,1,(.int .i64 1))] [(.int .i64 0),(.int .u64 0),(.int .u64 0),(.int .u64 0),(.int .u64 0),(.int .i64 0),(.int .i64 0),(.int .i64 0),.nils]).map .agg) fun t7=>
  bnd (astoreU 9 r2.1 t7 r2.2) fun r_8=>
  bnd (aload true 9 r2.1 r_8.2) fun v2=>
  some (v2,r_8.2))
  (bnd (ibin .eql t4 (.int .i64 1)) fun t9=>
  cnd t9
   (bnd (aindexS 9 p0 (.int .i64 0)) fun t11=>
   bnd (aload true 9 t11 r2.2) fun t12=>
   bnd (astoreU 9 r2.1 t12 r2.2) fun r_13=>
   bnd (aload true 9 r2.1 r_13.2) fun v2=>
   some (v2,r_13.2))
   (recapture_joined_J1 p0 r2.1 H r2.2))
theorem recapture_joined_J1_eq (x0 x2:AV) (H0 H:Hp):recapture_joined_J1 x0 x2 H0 H =
    bnd ((afill [(0,1,(.int .i64 3)),(8,1,x0)] [(.int .i64 0),(.int .u64 0),(.int .u64 0),(.int .u64 0),(.int .u64 0),(.int .i64 0),(.int .i64 0),(.int .i64 0),.nils]).map .agg) fun t14=>
    bnd (astoreU 9 x2 t14 H) fun r_3=>
    bnd (aload true 9 x2 r_3.2) fun v2=>
    some (v2,r_3.2):=(CXM_eq [6] _ _ _ _).trans (by kernel_rfl)
theorem F_recapture_joined_eq (p0:AV) (H:Hp):C_recapture_joined [p0] H=F_recapture_joined p0 H:=(callw_cxm (C:=cfg) (fn:=Try.f59) (c:=bodyOf Try.f59) (n:=15) [6] Try.func59 (by kernel_rfl) (by kernel_rfl) [p0] (by kernel_rfl) H).trans (by kernel_rfl)

noncomputable def retree_shaped_J1 (H0 H:Hp):Res:=CXL cfg (callw cfg) (LPL cfg (cfg.keep 64) 101) (cfg.keep 64) 101 seqL blockL (sub (bodyOf Try.f64) [1,1,1,1,1]) (retL cfg 101 64 Try.f64 H0) [] H
noncomputable def F_retree_shaped (p0:AV) (H:Hp):Res:=
 bnd (abox p0 H) fun r1=>
 bnd (some ((.ptr r1.2.length 0),r1.2++[.cells [(.int .u64 0),(.int .u64 0),(.int .u64 0),(.int .u64 0)]])) fun r3=>
 bnd (afield 8 r1.1) fun t8=>
 bnd (aload false 1 t8 r3.2) fun t9=>
 bnd (alenD (.slice 28) t9) fun t10=>
 bnd (afield 5 r1.1) fun t11=>
 bnd (aload false 1 t11 r3.2) fun t12=>
 bnd (ibin .eql t12 (.int .i64 0)) fun t13=>
 bnd (gdv t13 true (.tuple []) (afield 6 r1.1)) fun t15=>
 bnd (gdv t13 true (.tuple []) (aload false 1 t15 r3.2)) fun t16=>
 bnd (gdv t13 true (.tuple []) (ibin .eql t16 (.int .i64 0))) fun t17=>
 bnd (apick t13 t17 (.bool false)) fun t18=>
 bnd (afield 7 r1.1) fun t19=>
 bnd (aload false 1 t19 r3.2) fun t20=>
 bnd (ibin .eql t20 (.int .i64 0)) fun t21=>
 bnd (afield 1 r1.1) fun t22=>
 bnd (aload true 4 t22 r3.2) fun t23=>
 bnd (aload true 4 r3.1 r3.2) fun t24=>
 bnd (aeqBin Try.prog cfg.eqok .eql 25 t23 t24) fun t25=>
 bnd (afield 0 r1.1) fun t26=>
 bnd (aload false 1 t26 r3.2) fun t27=>
 bnd (ibin .eql t27 (.int .i64 1)) fun t29=>
 cnd t29
  (cnd t29
   (bnd (ibin .eql t10 (.int .i64 0)) fun t33=>
   bnd (gdv t33 true (.tuple []) (some t18)) fun t35=>
   bnd (apick t33 t35 (.bool false)) fun t36=>
   bnd (gdv t36 true (.tuple []) (some t21)) fun t38=>
   bnd (apick t36 t38 (.bool false)) fun t39=>
   bnd (gdv t39 true (.tuple []) (some t25)) fun t41=>
   bnd (apick t39 t41 (.bool false)) fun t42=>
   some (t42,r3.2))
   (bnd (ibin .eql t27 (.int .i64 2)) fun t44=>
   cnd t44
    (bnd (ibin .eql t10 (.int .i64 0)) fun t46=>
    bnd (gdv t46 true (.tuple []) (some t18)) fun t48=>
    bnd (apick t46 t48 (.bool false)) fun t49=>
    bnd (gdv t49 true (.tuple []) (some t21)) fun t51=>
    bnd (apick t49 t51 (.bool false)) fun t52=>
    bnd (gdv t52 true (.tuple []) (some t25)) fun t54=>
    bnd (gdv t52 true (.tuple []) (aun .not t54)) fun t55=>
    bnd (apick t52 t55 (.bool false)) fun t56=>
    some (t56,r3.2))
    (bnd (ibin .eql t27 (.int .i64 3)) fun t58=>
    cnd t58
     (cnd t58
      (bnd (ibin .geq t10 (.int .i64 2)) fun t61=>
      bnd (gdv t61 true (.tuple []) (some t18)) fun t63=>
      bnd (apick t61 t63 (.bool false)) fun t64=>
      bnd (gdv t64 true (.tuple []) (some t21)) fun t66=>
      bnd (apick t64 t66 (.bool false)) fun t67=>
      bnd (gdv t67 true (.tuple []) (some t25)) fun t69=>
      bnd (apick t67 t69 (.bool false)) fun t70=>
      some (t70,r3.2))
      (bnd (ibin .eql t27 (.int .i64 5)) fun t72=>
      cnd t72
       (bnd (ibin .eql t10 (.int .i64 1)) fun t74=>
       bnd (gdv t74 true (.tuple []) (some t21)) fun t76=>
       bnd (apick t74 t76 (.bool false)) fun t77=>
       bnd (gdv t77 true (.tuple []) (some t25)) fun t79=>
       bnd (apick t77 t79 (.bool false)) fun t80=>
       some (t80,r3.2))
       (bnd (ibin .eql t27 (.int .i64 6)) fun t82=>
       cnd t82
        (bnd (ibin .eql t10 (.int .i64 1)) fun t84=>
        bnd (gdv t84 true (.tuple []) (some t18)) fun t86=>
        bnd (apick t84 t86 (.bool false)) fun t87=>
        bnd (gdv t87 true (.tuple []) (some t25)) fun t89=>
        bnd (apick t87 t89 (.bool false)) fun t90=>
        some (t90,r3.2))
        (bnd (ibin .eql t27 (.int .i64 9)) fun t92=>
        cnd t92
         (bnd (ibin .eql t10 (.int .i64 0)) fun t94=>
         bnd (gdv t94 true (.tuple []) (some t18)) fun t96=>
         bnd (apick t94 t96 (.bool false)) fun t97=>
         bnd (gdv t97 true (.tuple []) (some t25)) fun t99=>
         bnd (apick t97 t99 (.bool false)) fun t100=>
         some (t100,r3.2))
         (retree_shaped_J1 H r3.2)))))
     (bnd (ibin .eql t27 (.int .i64 4)) fun t59=>
     cnd t59
      (bnd (ibin .geq t10 (.int .i64 2)) fun t61=>
      bnd (gdv t61 true (.tuple []) (some t18)) fun t63=>
      bnd (apick t61 t63 (.bool false)) fun t64=>
      bnd (gdv t64 true (.tuple []) (some t21)) fun t66=>
      bnd (apick t64 t66 (.bool false)) fun t67=>
      bnd (gdv t67 true (.tuple []) (some t25)) fun t69=>
      bnd (apick t67 t69 (.bool false)) fun t70=>
      some (t70,r3.2))
      (bnd (ibin .eql t27 (.int .i64 5)) fun t72=>
      cnd t72
       (bnd (ibin .eql t10 (.int .i64 1)) fun t74=>
       bnd (gdv t74 true (.tuple []) (some t21)) fun t76=>
       bnd (apick t74 t76 (.bool false)) fun t77=>
       bnd (gdv t77 true (.tuple []) (some t25)) fun t79=>
       bnd (apick t77 t79 (.bool false)) fun t80=>
       some (t80,r3.2))
       (bnd (ibin .eql t27 (.int .i64 6)) fun t82=>
       cnd t82
        (bnd (ibin .eql t10 (.int .i64 1)) fun t84=>
        bnd (gdv t84 true (.tuple []) (some t18)) fun t86=>
        bnd (apick t84 t86 (.bool false)) fun t87=>
        bnd (gdv t87 true (.tuple []) (some t25)) fun t89=>
        bnd (apick t87 t89 (.bool false)) fun t90=>
        some (t90,r3.2))
        (bnd (ibin .eql t27 (.int .i64 9)) fun t92=>
        cnd t92
         (bnd (ibin .eql t10 (.int .i64 0)) fun t94=>
         bnd (gdv t94 true (.tuple []) (some t18)) fun t96=>
         bnd (apick t94 t96 (.bool false)) fun t97=>
         bnd (gdv t97 true (.tuple []) (some t25)) fun t99=>
         bnd (apick t97 t99 (.bool false)) fun t100=>
         some (t100,r3.2))
         (retree_shaped_J1 H r3.2))))))))
  (bnd (ibin .eql t27 (.int .i64 7)) fun t30=>
  cnd t30
   (cnd t30
    (bnd (ibin .eql t10 (.int .i64 0)) fun t33=>
    bnd (gdv t33 true (.tuple []) (some t18)) fun t35=>
    bnd (apick t33 t35 (.bool false)) fun t36=>
    bnd (gdv t36 true (.tuple []) (some t21)) fun t38=>
    bnd (apick t36 t38 (.bool false)) fun t39=>
    bnd (gdv t39 true (.tuple []) (some t25)) fun t41=>
    bnd (apick t39 t41 (.bool false)) fun t42=>
    some (t42,r3.2))
    (bnd (ibin .eql t27 (.int .i64 2)) fun t44=>
    cnd t44
     (bnd (ibin .eql t10 (.int .i64 0)) fun t46=>
     bnd (gdv t46 true (.tuple []) (some t18)) fun t48=>
     bnd (apick t46 t48 (.bool false)) fun t49=>
     bnd (gdv t49 true (.tuple []) (some t21)) fun t51=>
     bnd (apick t49 t51 (.bool false)) fun t52=>
     bnd (gdv t52 true (.tuple []) (some t25)) fun t54=>
     bnd (gdv t52 true (.tuple []) (aun .not t54)) fun t55=>
     bnd (apick t52 t55 (.bool false)) fun t56=>
     some (t56,r3.2))
     (bnd (ibin .eql t27 (.int .i64 3)) fun t58=>
     cnd t58
      (cnd t58
       (bnd (ibin .geq t10 (.int .i64 2)) fun t61=>
       bnd (gdv t61 true (.tuple []) (some t18)) fun t63=>
       bnd (apick t61 t63 (.bool false)) fun t64=>
       bnd (gdv t64 true (.tuple []) (some t21)) fun t66=>
       bnd (apick t64 t66 (.bool false)) fun t67=>
       bnd (gdv t67 true (.tuple []) (some t25)) fun t69=>
       bnd (apick t67 t69 (.bool false)) fun t70=>
       some (t70,r3.2))
       (bnd (ibin .eql t27 (.int .i64 5)) fun t72=>
       cnd t72
        (bnd (ibin .eql t10 (.int .i64 1)) fun t74=>
        bnd (gdv t74 true (.tuple []) (some t21)) fun t76=>
        bnd (apick t74 t76 (.bool false)) fun t77=>
        bnd (gdv t77 true (.tuple []) (some t25)) fun t79=>
        bnd (apick t77 t79 (.bool false)) fun t80=>
        some (t80,r3.2))
        (bnd (ibin .eql t27 (.int .i64 6)) fun t82=>
        cnd t82
         (bnd (ibin .eql t10 (.int .i64 1)) fun t84=>
         bnd (gdv t84 true (.tuple []) (some t18)) fun t86=>
         bnd (apick t84 t86 (.bool false)) fun t87=>
         bnd (gdv t87 true (.tuple []) (some t25)) fun t89=>
         bnd (apick t87 t89 (.bool false)) fun t90=>
         some (t90,r3.2))
         (bnd (ibin .eql t27 (.int .i64 9)) fun t92=>
         cnd t92
          (bnd (ibin .eql t10 (.int .i64 0)) fun t94=>
          bnd (gdv t94 true (.tuple []) (some t18)) fun t96=>
          bnd (apick t94 t96 (.bool false)) fun t97=>
          bnd (gdv t97 true (.tuple []) (some t25)) fun t99=>
          bnd (apick t97 t99 (.bool false)) fun t100=>
          some (t100,r3.2))
          (retree_shaped_J1 H r3.2)))))
      (bnd (ibin .eql t27 (.int .i64 4)) fun t59=>
      cnd t59
       (bnd (ibin .geq t10 (.int .i64 2)) fun t61=>
       bnd (gdv t61 true (.tuple []) (some t18)) fun t63=>
       bnd (apick t61 t63 (.bool false)) fun t64=>
       bnd (gdv t64 true (.tuple []) (some t21)) fun t66=>
       bnd (apick t64 t66 (.bool false)) fun t67=>
       bnd (gdv t67 true (.tuple []) (some t25)) fun t69=>
       bnd (apick t67 t69 (.bool false)) fun t70=>
       some (t70,r3.2))
       (bnd (ibin .eql t27 (.int .i64 5)) fun t72=>
       cnd t72
        (bnd (ibin .eql t10 (.int .i64 1)) fun t74=>
        bnd (gdv t74 true (.tuple []) (some t21)) fun t76=>
        bnd (apick t74 t76 (.bool false)) fun t77=>
        bnd (gdv t77 true (.tuple []) (some t25)) fun t79=>
        bnd (apick t77 t79 (.bool false)) fun t80=>
        some (t80,r3.2))
        (bnd (ibin .eql t27 (.int .i64 6)) fun t82=>
        cnd t82
         (bnd (ibin .eql t10 (.int .i64 1)) fun t84=>
         bnd (gdv t84 true (.tuple []) (some t18)) fun t86=>
         bnd (apick t84 t86 (.bool false)) fun t87=>
         bnd (gdv t87 true (.tuple []) (some t25)) fun t89=>
         bnd (apick t87 t89 (.bool false)) fun t90=>
         some (t90,r3.2))
         (bnd (ibin .eql t27 (.int .i64 9)) fun t92=>
         cnd t92
          (bnd (ibin .eql t10 (.int .i64 0)) fun t94=>
          bnd (gdv t94 true (.tuple []) (some t18)) fun t96=>
          bnd (apick t94 t96 (.bool false)) fun t97=>
          bnd (gdv t97 true (.tuple []) (some t25)) fun t99=>
          bnd (apick t97 t99 (.bool false)) fun t100=>
          some (t100,r3.2))
          (retree_shaped_J1 H r3.2))))))))
   (bnd (ibin .eql t27 (.int .i64 8)) fun t31=>
   cnd t31
    (bnd (ibin .eql t10 (.int .i64 0)) fun t33=>
    bnd (gdv t33 true (.tuple []) (some t18)) fun t35=>
    bnd (apick t33 t35 (.bool false)) fun t36=>
    bnd (gdv t36 true (.tuple []) (some t21)) fun t38=>
    bnd (apick t36 t38 (.bool false)) fun t39=>
    bnd (gdv t39 true (.tuple []) (some t25)) fun t41=>
    bnd (apick t39 t41 (.bool false)) fun t42=>
    some (t42,r3.2))
    (bnd (ibin .eql t27 (.int .i64 2)) fun t44=>
    cnd t44
     (bnd (ibin .eql t10 (.int .i64 0)) fun t46=>
     bnd (gdv t46 true (.tuple []) (some t18)) fun t48=>
     bnd (apick t46 t48 (.bool false)) fun t49=>
     bnd (gdv t49 true (.tuple []) (some t21)) fun t51=>
     bnd (apick t49 t51 (.bool false)) fun t52=>
     bnd (gdv t52 true (.tuple []) (some t25)) fun t54=>
     bnd (gdv t52 true (.tuple []) (aun .not t54)) fun t55=>
     bnd (apick t52 t55 (.bool false)) fun t56=>
     some (t56,r3.2))
     (bnd (ibin .eql t27 (.int .i64 3)) fun t58=>
     cnd t58
      (cnd t58
       (bnd (ibin .geq t10 (.int .i64 2)) fun t61=>
       bnd (gdv t61 true (.tuple []) (some t18)) fun t63=>
       bnd (apick t61 t63 (.bool false)) fun t64=>
       bnd (gdv t64 true (.tuple []) (some t21)) fun t66=>
       bnd (apick t64 t66 (.bool false)) fun t67=>
       bnd (gdv t67 true (.tuple []) (some t25)) fun t69=>
       bnd (apick t67 t69 (.bool false)) fun t70=>
       some (t70,r3.2))
       (bnd (ibin .eql t27 (.int .i64 5)) fun t72=>
       cnd t72
        (bnd (ibin .eql t10 (.int .i64 1)) fun t74=>
        bnd (gdv t74 true (.tuple []) (some t21)) fun t76=>
        bnd (apick t74 t76 (.bool false)) fun t77=>
        bnd (gdv t77 true (.tuple []) (some t25)) fun t79=>
        bnd (apick t77 t79 (.bool false)) fun t80=>
        some (t80,r3.2))
        (bnd (ibin .eql t27 (.int .i64 6)) fun t82=>
        cnd t82
         (bnd (ibin .eql t10 (.int .i64 1)) fun t84=>
         bnd (gdv t84 true (.tuple []) (some t18)) fun t86=>
         bnd (apick t84 t86 (.bool false)) fun t87=>
         bnd (gdv t87 true (.tuple []) (some t25)) fun t89=>
         bnd (apick t87 t89 (.bool false)) fun t90=>
         some (t90,r3.2))
         (bnd (ibin .eql t27 (.int .i64 9)) fun t92=>
         cnd t92
          (bnd (ibin .eql t10 (.int .i64 0)) fun t94=>
          bnd (gdv t94 true (.tuple []) (some t18)) fun t96=>
          bnd (apick t94 t96 (.bool false)) fun t97=>
          bnd (gdv t97 true (.tuple []) (some t25)) fun t99=>
          bnd (apick t97 t99 (.bool false)) fun t100=>
          some (t100,r3.2))
          (retree_shaped_J1 H r3.2)))))
      (bnd (ibin .eql t27 (.int .i64 4)) fun t59=>
      cnd t59
       (bnd (ibin .geq t10 (.int .i64 2)) fun t61=>
       bnd (gdv t61 true (.tuple []) (some t18)) fun t63=>
       bnd (apick t61 t63 (.bool false)) fun t64=>
       bnd (gdv t64 true (.tuple []) (some t21)) fun t66=>
       bnd (apick t64 t66 (.bool false)) fun t67=>
       bnd (gdv t67 true (.tuple []) (some t25)) fun t69=>
       bnd (apick t67 t69 (.bool false)) fun t70=>
       some (t70,r3.2))
       (bnd (ibin .eql t27 (.int .i64 5)) fun t72=>
       cnd t72
        (bnd (ibin .eql t10 (.int .i64 1)) fun t74=>
        bnd (gdv t74 true (.tuple []) (some t21)) fun t76=>
        bnd (apick t74 t76 (.bool false)) fun t77=>
        bnd (gdv t77 true (.tuple []) (some t25)) fun t79=>
        bnd (apick t77 t79 (.bool false)) fun t80=>
        some (t80,r3.2))
        (bnd (ibin .eql t27 (.int .i64 6)) fun t82=>
        cnd t82
         (bnd (ibin .eql t10 (.int .i64 1)) fun t84=>
         bnd (gdv t84 true (.tuple []) (some t18)) fun t86=>
         bnd (apick t84 t86 (.bool false)) fun t87=>
         bnd (gdv t87 true (.tuple []) (some t25)) fun t89=>
         bnd (apick t87 t89 (.bool false)) fun t90=>
         some (t90,r3.2))
         (bnd (ibin .eql t27 (.int .i64 9)) fun t92=>
         cnd t92
          (bnd (ibin .eql t10 (.int .i64 0)) fun t94=>
          bnd (gdv t94 true (.tuple []) (some t18)) fun t96=>
          bnd (apick t94 t96 (.bool false)) fun t97=>
          bnd (gdv t97 true (.tuple []) (some t25)) fun t99=>
          bnd (apick t97 t99 (.bool false)) fun t100=>
          some (t100,r3.2))
          (retree_shaped_J1 H r3.2)))))))))
theorem retree_shaped_J1_eq (H0 H:Hp):retree_shaped_J1 H0 H =
    some ((.bool false),H):=(CXM_eq [20] _ _ _ _).trans (by kernel_rfl)
theorem F_retree_shaped_eq (p0:AV) (H:Hp):C_retree_shaped [p0] H=F_retree_shaped p0 H:=(callw_cxm (C:=cfg) (fn:=Try.f64) (c:=bodyOf Try.f64) (n:=101) [20] Try.func64 (by kernel_rfl) (by kernel_rfl) [p0] (by kernel_rfl) H).trans (by kernel_rfl)

noncomputable def retree_weight_J1 (x0 x1 x2:AV) (H0 H:Hp):Res:=CXL cfg (callw cfg) (LPL cfg (cfg.keep 65) 65) (cfg.keep 65) 65 seqL blockL (sub (bodyOf Try.f65) [1,1]) (retL cfg 65 65 Try.f65 H0) [(0,x0),(1,x1),(2,x2)] H
noncomputable def F_retree_weight (p0 p1 p2:AV) (H:Hp):Res:=
 bnd (ibin .eql p1 (.int .i64 0)) fun t9=>
 bnd (gdv t9 true (.tuple []) (some p2)) fun t11=>
 bnd (gdv t9 true (.tuple []) (ibin .eql t11 (.int .i64 1))) fun t12=>
 bnd (gdv t9 true (.tuple []) (some t12)) fun t13=>
 bnd (gdv t13 false (.tuple []) (some p2)) fun t14=>
 bnd (gdv t13 false (.tuple []) (ibin .eql t14 (.int .i64 (-1)))) fun t15=>
 bnd (gdv t9 true (.tuple []) (apick t13 (.bool true) t15)) fun t16=>
 bnd (apick t9 t16 (.bool false)) fun t17=>
 bnd (gdv t17 false (.tuple []) (some p1)) fun t19=>
 bnd (gdv t17 false (.tuple []) (ibin .eql t19 (.int .i64 1))) fun t20=>
 bnd (gdv t17 false (.tuple []) (some t20)) fun t21=>
 bnd (gdv t21 true (.tuple []) (some p2)) fun t22=>
 bnd (gdv t21 true (.tuple []) (ibin .eql t22 (.int .i64 (-1)))) fun t23=>
 bnd (gdv t17 false (.tuple []) (apick t21 t23 (.bool false))) fun t24=>
 bnd (apick t17 (.bool true) t24) fun t25=>
 cnd t25
  (bnd (ibin .add p0 (.int .i64 1)) fun t27=>
  some (t27,H))
  (bnd (ibin .eql p2 (.int .i64 0)) fun t30=>
  cnd t30
   (some ((.int .i64 1),H))
   (bnd (ibin .eql p1 (.int .i64 1)) fun t33=>
   bnd (gdv t33 true (.tuple []) (some p2)) fun t35=>
   bnd (gdv t33 true (.tuple []) (ibin .eql t35 (.int .i64 1))) fun t36=>
   bnd (apick t33 t36 (.bool false)) fun t37=>
   cnd t37
    (some (p0,H))
    (bnd (ibin .eql p2 p1) fun t42=>
    cnd t42
     (bnd (ibin .mul p1 p0) fun t45=>
     bnd (ibin .add (.int .i64 1) t45) fun t46=>
     some (t46,H))
     (bnd (ibin .eql p2 (.int .i64 (-1))) fun t49=>
     cnd t49
      (bnd (ibin .mul p1 p0) fun t52=>
      bnd (ibin .add (.int .i64 2) t52) fun t53=>
      some (t53,H))
      (retree_weight_J1 p0 p1 p2 H H)))))
theorem retree_weight_J1_eq (x0 x1 x2:AV) (H0 H:Hp):retree_weight_J1 x0 x1 x2 H0 H =
    bnd (ibin .mul x1 x0) fun t56=>
    bnd (ibin .add (.int .i64 1) t56) fun t57=>
    bnd (ibin .sub x2 x1) fun t60=>
    bnd (ibin .add x0 (.int .i64 1)) fun t62=>
    bnd (ibin .mul t60 t62) fun t63=>
    bnd (ibin .add t57 t63) fun t64=>
    some (t64,H):=(CXM_eq [11] _ _ _ _).trans (by kernel_rfl)
theorem F_retree_weight_eq (p0 p1 p2:AV) (H:Hp):C_retree_weight [p0,p1,p2] H=F_retree_weight p0 p1 p2 H:=(callw_cxm (C:=cfg) (fn:=Try.f65) (c:=bodyOf Try.f65) (n:=65) [11] Try.func65 (by kernel_rfl) (by kernel_rfl) [p0,p1,p2] (by kernel_rfl) H).trans (by kernel_rfl)

noncomputable def retree_counted_J1 (x1 x2 x3 x6:AV) (H0 H:Hp):Res:=CXL cfg (callw cfg) (LPL cfg (cfg.keep 66) 73) (cfg.keep 66) 73 seqL blockL (sub (bodyOf Try.f66) [1,1]) (retL cfg 73 66 Try.f66 H0) [(1,x1),(2,x2),(3,x3),(6,x6)] H
noncomputable def F_retree_counted (p0 p1 p2:AV) (H:Hp):Res:=
 bnd (abox p0 H) fun r3=>
 bnd (some ((.ptr r3.2.length 0),r3.2++[.cells [(.int .i64 0),(.int .u64 0),(.int .u64 0),(.int .u64 0),(.int .u64 0),(.int .i64 0),(.int .i64 0),(.int .i64 0),.nils]])) fun r6=>
 bnd (ibin .eql p1 (.int .i64 0)) fun t9=>
 bnd (gdv t9 true (.tuple []) (some p2)) fun t11=>
 bnd (gdv t9 true (.tuple []) (ibin .eql t11 (.int .i64 1))) fun t12=>
 bnd (gdv t9 true (.tuple []) (some t12)) fun t13=>
 bnd (gdv t13 false (.tuple []) (some p2)) fun t14=>
 bnd (gdv t13 false (.tuple []) (ibin .eql t14 (.int .i64 (-1)))) fun t15=>
 bnd (gdv t9 true (.tuple []) (apick t13 (.bool true) t15)) fun t16=>
 bnd (apick t9 t16 (.bool false)) fun t17=>
 bnd (gdv t17 false (.tuple []) (some p1)) fun t19=>
 bnd (gdv t17 false (.tuple []) (ibin .eql t19 (.int .i64 1))) fun t20=>
 bnd (gdv t17 false (.tuple []) (some t20)) fun t21=>
 bnd (gdv t21 true (.tuple []) (some p2)) fun t22=>
 bnd (gdv t21 true (.tuple []) (ibin .eql t22 (.int .i64 (-1)))) fun t23=>
 bnd (gdv t17 false (.tuple []) (apick t21 t23 (.bool false))) fun t24=>
 bnd (apick t17 (.bool true) t24) fun t25=>
 cnd t25
  (bnd (aload true 9 r3.1 r6.2) fun t26=>
  bnd (flatC C_retree_repeat [t26,p1,p2] r6.2) fun r29=>
  bnd (astoreU 9 r6.1 r29.1 r29.2) fun r_30=>
  bnd (aload true 9 r6.1 r_30.2) fun v6=>
  some (v6,r_30.2))
  (bnd (ibin .eql p2 (.int .i64 0)) fun t32=>
  cnd t32
   (bnd ((afill [(0,1,(.int .i64 1))] [(.int .i64 0),(.int .u64 0),(.int .u64 0),(.int .u64 0),(.int .u64 0),(.int .i64 0),(.int .i64 0),(.int .i64 0),.nils]).map .agg) fun t33=>
   bnd (astoreU 9 r6.1 t33 r6.2) fun r_34=>
   bnd (aload true 9 r6.1 r_34.2) fun v6=>
   some (v6,r_34.2))
   (bnd (ibin .eql p1 (.int .i64 1)) fun t36=>
   bnd (gdv t36 true (.tuple []) (some p2)) fun t38=>
   bnd (gdv t36 true (.tuple []) (ibin .eql t38 (.int .i64 1))) fun t39=>
   bnd (apick t36 t39 (.bool false)) fun t40=>
   cnd t40
    (bnd (aload true 9 r3.1 r6.2) fun t41=>
    bnd (astoreU 9 r6.1 t41 r6.2) fun r_41=>
    bnd (aload true 9 r6.1 r_41.2) fun v6=>
    some (v6,r_41.2))
    (bnd (ibin .eql p2 p1) fun t45=>
    cnd t45
     (bnd (aload true 9 r3.1 r6.2) fun t46=>
     bnd (flatC C_retree_copies_of_api_Re [t46,p1] r6.2) fun r48=>
     bnd ((afill [(0,1,(.int .i64 3)),(8,1,r48.1)] [(.int .i64 0),(.int .u64 0),(.int .u64 0),(.int .u64 0),(.int .u64 0),(.int .i64 0),(.int .i64 0),(.int .i64 0),.nils]).map .agg) fun t49=>
     bnd (astoreU 9 r6.1 t49 r48.2) fun r_47=>
     bnd (aload true 9 r6.1 r_47.2) fun v6=>
     some (v6,r_47.2))
     (bnd (ibin .eql p2 (.int .i64 (-1))) fun t52=>
     cnd t52
      (bnd (aload true 9 r3.1 r6.2) fun t53=>
      bnd (ibin .sub p1 (.int .i64 1)) fun t55=>
      bnd (flatC C_retree_copies_of_api_Re [t53,t55] r6.2) fun r56=>
      bnd (aload true 9 r3.1 r56.2) fun t57=>
      bnd (flatC C_retree_repeat [t57,(.int .i64 1),(.int .i64 (-1))] r56.2) fun r58=>
      bnd ((setElems 9 [(0,r58.1)] [(.agg [(.int .i64 0),(.int .u64 0),(.int .u64 0),(.int .u64 0),(.int .u64 0),(.int .i64 0),(.int .i64 0),(.int .i64 0),.nils])]).map (.vs 9 .clip)) fun t59=>
      bnd (aappE 9 88 r56.1 t59 r58.2) fun r60=>
      bnd ((afill [(0,1,(.int .i64 3)),(8,1,r60.1)] [(.int .i64 0),(.int .u64 0),(.int .u64 0),(.int .u64 0),(.int .u64 0),(.int .i64 0),(.int .i64 0),(.int .i64 0),.nils]).map .agg) fun t61=>
      bnd (astoreU 9 r6.1 t61 r60.2) fun r_58=>
      bnd (aload true 9 r6.1 r_58.2) fun v6=>
      some (v6,r_58.2))
      (retree_counted_J1 p1 p2 r3.1 r6.1 H r6.2)))))
theorem retree_counted_J1_eq (x1 x2 x3 x6:AV) (H0 H:Hp):retree_counted_J1 x1 x2 x3 x6 H0 H =
    bnd (aload true 9 x3 H) fun t62=>
    bnd (flatC C_retree_copies_of_api_Re [t62,x1] H) fun r64=>
    bnd (aload true 9 x3 r64.2) fun t65=>
    bnd (flatC C_retree_repeat [t65,(.int .i64 0),(.int .i64 1)] r64.2) fun r66=>
    bnd (ibin .sub x2 x1) fun t69=>
    bnd (flatC C_retree_copies_of_api_Re [r66.1,t69] r66.2) fun r70=>
    bnd (aappE 9 88 r64.1 r70.1 r70.2) fun r71=>
    bnd ((afill [(0,1,(.int .i64 3)),(8,1,r71.1)] [(.int .i64 0),(.int .u64 0),(.int .u64 0),(.int .u64 0),(.int .u64 0),(.int .i64 0),(.int .i64 0),(.int .i64 0),.nils]).map .agg) fun t72=>
    bnd (astoreU 9 x6 t72 r71.2) fun r_11=>
    bnd (aload true 9 x6 r_11.2) fun v6=>
    some (v6,r_11.2):=(CXM_eq [11] _ _ _ _).trans (by kernel_rfl)
theorem F_retree_counted_eq (p0 p1 p2:AV) (H:Hp):C_retree_counted [p0,p1,p2] H=F_retree_counted p0 p1 p2 H:=(callw_cxm (C:=cfg) (fn:=Try.f66) (c:=bodyOf Try.f66) (n:=73) [11] Try.func66 (by kernel_rfl) (by kernel_rfl) [p0,p1,p2] (by kernel_rfl) H).trans (by kernel_rfl)

noncomputable def F_reprog_Valid_1 (p0 p1:AV) (H:Hp):Res:=
 bnd (ibin .geq p0 (.int .i64 0)) fun t5=>
 bnd (gdv t5 true (.tuple []) (some p0)) fun t7=>
 bnd (gdv t5 true (.tuple []) (aload false 1 p1 H)) fun t8=>
 bnd (gdv t5 true (.tuple []) (ibin .lss t7 t8)) fun t9=>
 bnd (apick t5 t9 (.bool false)) fun t10=>
 some (t10,H)
theorem F_reprog_Valid_1_eq (p0 p1:AV) (H:Hp):C_reprog_Valid_1 [p0,p1] H=F_reprog_Valid_1 p0 p1 H:=(callw_cxm (C:=cfg) (fn:=Try.f68) (c:=bodyOf Try.f68) (n:=11) [] Try.func68 (by kernel_rfl) (by kernel_rfl) [p0,p1] (by kernel_rfl) H).trans (by kernel_rfl)

noncomputable def F_R04_Has (p0 p1:AV) (H:Hp):Res:=
 bnd (abox p0 H) fun r2=>
 bnd (ibin .quo p1 (.int .u8 64)) fun t6=>
 bnd (afield 0 r2.1) fun t7=>
 bnd (aindexA 4 1 t7 t6) fun t8=>
 bnd (aload false 1 t8 r2.2) fun t9=>
 bnd (ibin .rem p1 (.int .u8 64)) fun t11=>
 bnd (ibin .shr t9 t11) fun t12=>
 bnd (ibin .and t12 (.int .u64 1)) fun t13=>
 bnd (ibin .eql t13 (.int .u64 1)) fun t14=>
 some (t14,r2.2)
theorem F_R04_Has_eq (p0 p1:AV) (H:Hp):C_R04_Has [p0,p1] H=F_R04_Has p0 p1 H:=(callw_cxm (C:=cfg) (fn:=Try.f80) (c:=bodyOf Try.f80) (n:=15) [] Try.func80 (by kernel_rfl) (by kernel_rfl) [p0,p1] (by kernel_rfl) H).trans (by kernel_rfl)

noncomputable def recapture_reversed_J1 (x2 x3:AV) (H0 H:Hp):Res:=CXL cfg (callw cfg) (LPL cfg (cfg.keep 83) 37) (cfg.keep 83) 37 seqL blockL (sub (bodyOf Try.f83) [1,1,1,1]) (retL cfg 37 83 Try.f83 H0) [(2,x2),(3,x3)] H
noncomputable def recapture_reversed_K1 (H0:Hp):KL:=seqL (fun k al H=>CXL cfg (callw cfg) (LPL cfg (cfg.keep 83) 37) (cfg.keep 83) 37 seqL blockL (sub (bodyOf Try.f83) [1,1,1,1]) k (trimL (cfg.keep 83) (sub (bodyOf Try.f83) [1,1,1,1]) al) H) (retL cfg 37 83 Try.f83 H0)
theorem recapture_reversed_K1_tame (H0:Hp):Tame 37 (recapture_reversed_K1 H0):=tame_seq (C:=cfg) (kp:=cfg.keep 83) (sub (bodyOf Try.f83) [1,1,1,1]) (tame_ret 83 Try.f83 H0)
noncomputable def recapture_reversed_J3 (x1 x2 x3 x10 x11:AV) (H0 H:Hp):Res:=CXL cfg (callw cfg) (LPL cfg (cfg.keep 83) 37) (cfg.keep 83) 37 seqL blockL (sub (bodyOf Try.f83) [1,1,1,0,1,0,0,1,1,1]) (seqL (fun k al H=>LPL cfg (cfg.keep 83) 37 (sub (bodyOf Try.f83) [1,1,1,0,1,0,0]) k (trimL (cfg.keep 83) (sub (bodyOf Try.f83) [1,1,1,0,1,0,0]) al) H) (blockL 0 (recapture_reversed_K1 H0))) [(1,x1),(2,x2),(3,x3),(10,x10),(11,x11)] H
noncomputable def recapture_reversed_K2 (H0:Hp):KL:=seqL (fun k al H=>CXL cfg (callw cfg) (LPL cfg (cfg.keep 83) 37) (cfg.keep 83) 37 seqL blockL (sub (bodyOf Try.f83) [1,1,1,0,1,0,0,1,1,1]) k (trimL (cfg.keep 83) (sub (bodyOf Try.f83) [1,1,1,0,1,0,0,1,1,1]) al) H) (seqL (fun k al H=>LPL cfg (cfg.keep 83) 37 (sub (bodyOf Try.f83) [1,1,1,0,1,0,0]) k (trimL (cfg.keep 83) (sub (bodyOf Try.f83) [1,1,1,0,1,0,0]) al) H) (blockL 0 (recapture_reversed_K1 H0)))
noncomputable def recapture_reversed_J4 (x1 x2 x3 x5 x10 x11:AV) (H0 H:Hp):Res:=CXL cfg (callw cfg) (LPL cfg (cfg.keep 83) 37) (cfg.keep 83) 37 seqL blockL (sub (bodyOf Try.f83) [1,1,1,0,1,0,0,1,1,0,0,1,1,1]) (blockL 1 (recapture_reversed_K2 H0)) [(1,x1),(2,x2),(3,x3),(5,x5),(10,x10),(11,x11)] H
noncomputable def recapture_reversed_J2 (x1 x2 x3 x10 x11 x12:AV) (H0 H:Hp):Res:=CXL cfg (callw cfg) (LPL cfg (cfg.keep 83) 37) (cfg.keep 83) 37 seqL blockL (sub (bodyOf Try.f83) [1,1,1,0,1,0,0,1,1]) (seqL (fun k al H=>LPL cfg (cfg.keep 83) 37 (sub (bodyOf Try.f83) [1,1,1,0,1,0,0]) k (trimL (cfg.keep 83) (sub (bodyOf Try.f83) [1,1,1,0,1,0,0]) al) H) (blockL 0 (recapture_reversed_K1 H0))) [(1,x1),(2,x2),(3,x3),(10,x10),(11,x11),(12,x12)] H
noncomputable def recapture_reversed_L1 (x1 x2 x3 x10 x11:AV) (H0 H:Hp):Res:=LPL cfg (cfg.keep 83) 37 (sub (bodyOf Try.f83) [1,1,1,0,1,0,0]) (blockL 0 (recapture_reversed_K1 H0)) [(1,x1),(2,x2),(3,x3),(10,x10),(11,x11)] H
noncomputable def F_recapture_reversed (p0:AV) (H:Hp):Res:=
 bnd (abox p0 H) fun r1=>
 bnd (some ((.ptr r1.2.length 0),r1.2++[.cells [(.int .i64 0),(.int .u64 0),(.int .u64 0),(.int .u64 0),(.int .u64 0),(.int .i64 0),(.int .i64 0),(.int .i64 0),.nils]])) fun r2=>
 bnd (aload true 9 r1.1 r2.2) fun t6=>
 bnd (some ((.ptr r2.2.length 0),r2.2++[.cells [(.int .i64 0),(.int .u64 0),(.int .u64 0),(.int .u64 0),(.int .u64 0),(.int .i64 0),(.int .i64 0),(.int .i64 0),.nils]])) fun r3=>
 bnd (astoreU 9 r3.1 t6 r3.2) fun r_5=>
 bnd (afield 8 r3.1) fun t7=>
 bnd (astoreU 1 t7 .nils r_5.2) fun r_7=>
 bnd (afield 8 r1.1) fun t8=>
 bnd (aload false 1 t8 r_7.2) fun t9=>
 bnd (alenD (.slice 28) t9) fun t10=>
 recapture_reversed_L1 r1.1 r2.1 r3.1 t10 (.int .i64 0) H r_7.2
theorem recapture_reversed_J1_eq (x2 x3:AV) (H0 H:Hp):recapture_reversed_J1 x2 x3 H0 H =
    bnd (aload true 9 x3 H) fun t36=>
    bnd (astoreU 9 x2 t36 H) fun r_9=>
    bnd (aload true 9 x2 r_9.2) fun v2=>
    some (v2,r_9.2):=(CXM_eq [5,9,10,11] _ _ _ _).trans (by kernel_rfl)
theorem recapture_reversed_J3_eq (x1 x2 x3 x10 x11:AV) (H0 H:Hp):recapture_reversed_J3 x1 x2 x3 x10 x11 H0 H =
    bnd (ibin .add x11 (.int .i64 1)) fun t35=>
    recapture_reversed_L1 x1 x2 x3 x10 t35 H0 H:=(CXM_eq [5,9,10,11] _ _ _ _).trans (by kernel_rfl)
theorem recapture_reversed_J4_eq (x1 x2 x3 x5 x10 x11:AV) (H0 H:Hp):recapture_reversed_J4 x1 x2 x3 x5 x10 x11 H0 H =
    bnd (afield 8 x3) fun t24=>
    bnd (aload false 1 t24 H) fun t25=>
    bnd (afield 8 x1) fun t26=>
    bnd (aload false 1 t26 H) fun t27=>
    bnd (aindexS 9 t27 x5) fun t29=>
    bnd (aload true 9 t29 H) fun t30=>
    bnd (flatC C_recapture_reversed [t30] H) fun r31=>
    bnd ((setElems 9 [(0,r31.1)] [(.agg [(.int .i64 0),(.int .u64 0),(.int .u64 0),(.int .u64 0),(.int .u64 0),(.int .i64 0),(.int .i64 0),(.int .i64 0),.nils])]).map (.vs 9 .clip)) fun t32=>
    bnd (aappE 9 88 t25 t32 r31.2) fun r33=>
    bnd (afield 8 x3) fun t34=>
    bnd (astoreU 1 t34 r33.1 r33.2) fun r_26=>
    recapture_reversed_J3 x1 x2 x3 x10 x11 H0 r_26.2:=(CXM_eq [5,9,10,11] _ _ _ _).trans (by kernel_rfl)
theorem recapture_reversed_J2_eq (x1 x2 x3 x10 x11 x12:AV) (H0 H:Hp):recapture_reversed_J2 x1 x2 x3 x10 x11 x12 H0 H =
    bnd (afield 0 x1) fun t15=>
    bnd (aload false 1 t15 H) fun t16=>
    bnd (ibin .eql t16 (.int .i64 3)) fun t17=>
    cnd t17
     (bnd (afield 8 x1) fun t18=>
     bnd (aload false 1 t18 H) fun t19=>
     bnd (alenD (.slice 28) t19) fun t20=>
     bnd (ibin .sub t20 (.int .i64 1)) fun t21=>
     bnd (ibin .sub t21 x11) fun t23=>
     recapture_reversed_J4 x1 x2 x3 t23 x10 x11 H0 H)
     (recapture_reversed_J4 x1 x2 x3 x11 x10 x11 H0 H):=(CXM_eq [5,9,10,11] _ _ _ _).trans (by kernel_rfl)
theorem recapture_reversed_L1_eq (x1 x2 x3 x10 x11:AV) (H0 H:Hp):recapture_reversed_L1 x1 x2 x3 x10 x11 H0 H =
    bnd (ibin .lss x11 x10) fun t12=>
    cnd t12
     (recapture_reversed_J2 x1 x2 x3 x10 x11 t12 H0 H)
     (recapture_reversed_J1 x2 x3 H0 H):=(LPL_eqm (C:=cfg) [5,9,10,11] (tame_block 0 (recapture_reversed_K1_tame H0)) _ _).trans (by kernel_rfl)
theorem F_recapture_reversed_eq (p0:AV) (H:Hp):C_recapture_reversed [p0] H=F_recapture_reversed p0 H:=(callw_cxm (C:=cfg) (fn:=Try.f83) (c:=bodyOf Try.f83) (n:=37) [5,9,10,11] Try.func83 (by kernel_rfl) (by kernel_rfl) [p0] (by kernel_rfl) H).trans (by kernel_rfl)

noncomputable def F_retree_repeat (p0 p1 p2:AV) (H:Hp):Res:=
 bnd (abox p0 H) fun r3=>
 bnd (some ((.ptr r3.2.length 0),r3.2++[.cells [(.int .i64 0),(.int .u64 0),(.int .u64 0),(.int .u64 0),(.int .u64 0),(.int .i64 0),(.int .i64 0),(.int .i64 0),.nils]])) fun r6=>
 bnd (aload true 9 r3.1 r6.2) fun t9=>
 bnd ((setElems 9 [(0,t9)] [(.agg [(.int .i64 0),(.int .u64 0),(.int .u64 0),(.int .u64 0),(.int .u64 0),(.int .i64 0),(.int .i64 0),(.int .i64 0),.nils])]).map (.vs 9 .clip)) fun t10=>
 bnd ((afill [(0,1,(.int .i64 5)),(5,1,p1),(6,1,p2),(8,1,t10)] [(.int .i64 0),(.int .u64 0),(.int .u64 0),(.int .u64 0),(.int .u64 0),(.int .i64 0),(.int .i64 0),(.int .i64 0),.nils]).map .agg) fun t11=>
 bnd (astoreU 9 r6.1 t11 r6.2) fun r_6=>
 bnd (aload true 9 r6.1 r_6.2) fun v6=>
 some (v6,r_6.2)
theorem F_retree_repeat_eq (p0 p1 p2:AV) (H:Hp):C_retree_repeat [p0,p1,p2] H=F_retree_repeat p0 p1 p2 H:=(callw_cxm (C:=cfg) (fn:=Try.f84) (c:=bodyOf Try.f84) (n:=12) [] Try.func84 (by kernel_rfl) (by kernel_rfl) [p0,p1,p2] (by kernel_rfl) H).trans (by kernel_rfl)

noncomputable def retree_copies_of_api_Re_J1 (x5:AV) (H0 H:Hp):Res:=CXL cfg (callw cfg) (LPL cfg (cfg.keep 85) 20) (cfg.keep 85) 20 seqL blockL (sub (bodyOf Try.f85) [1,1,1]) (retL cfg 20 85 Try.f85 H0) [(5,x5)] H
noncomputable def retree_copies_of_api_Re_K1 (H0:Hp):KL:=seqL (fun k al H=>CXL cfg (callw cfg) (LPL cfg (cfg.keep 85) 20) (cfg.keep 85) 20 seqL blockL (sub (bodyOf Try.f85) [1,1,1]) k (trimL (cfg.keep 85) (sub (bodyOf Try.f85) [1,1,1]) al) H) (retL cfg 20 85 Try.f85 H0)
theorem retree_copies_of_api_Re_K1_tame (H0:Hp):Tame 20 (retree_copies_of_api_Re_K1 H0):=tame_seq (C:=cfg) (kp:=cfg.keep 85) (sub (bodyOf Try.f85) [1,1,1]) (tame_ret 85 Try.f85 H0)
noncomputable def retree_copies_of_api_Re_J3 (x2 x5 x10 x11:AV) (H0 H:Hp):Res:=CXL cfg (callw cfg) (LPL cfg (cfg.keep 85) 20) (cfg.keep 85) 20 seqL blockL (sub (bodyOf Try.f85) [1,1,0,1,0,0,1,1,1]) (seqL (fun k al H=>LPL cfg (cfg.keep 85) 20 (sub (bodyOf Try.f85) [1,1,0,1,0,0]) k (trimL (cfg.keep 85) (sub (bodyOf Try.f85) [1,1,0,1,0,0]) al) H) (blockL 0 (retree_copies_of_api_Re_K1 H0))) [(2,x2),(5,x5),(10,x10),(11,x11)] H
noncomputable def retree_copies_of_api_Re_J2 (x2 x5 x10 x11 x12:AV) (H0 H:Hp):Res:=CXL cfg (callw cfg) (LPL cfg (cfg.keep 85) 20) (cfg.keep 85) 20 seqL blockL (sub (bodyOf Try.f85) [1,1,0,1,0,0,1,1]) (seqL (fun k al H=>LPL cfg (cfg.keep 85) 20 (sub (bodyOf Try.f85) [1,1,0,1,0,0]) k (trimL (cfg.keep 85) (sub (bodyOf Try.f85) [1,1,0,1,0,0]) al) H) (blockL 0 (retree_copies_of_api_Re_K1 H0))) [(2,x2),(5,x5),(10,x10),(11,x11),(12,x12)] H
noncomputable def retree_copies_of_api_Re_L1 (x2 x5 x10 x11:AV) (H0 H:Hp):Res:=LPL cfg (cfg.keep 85) 20 (sub (bodyOf Try.f85) [1,1,0,1,0,0]) (blockL 0 (retree_copies_of_api_Re_K1 H0)) [(2,x2),(5,x5),(10,x10),(11,x11)] H
noncomputable def F_retree_copies_of_api_Re (p0 p1:AV) (H:Hp):Res:=
 bnd (abox p0 H) fun r2=>
 bnd (amake 9 88 true (.agg [(.int .i64 0),(.int .u64 0),(.int .u64 0),(.int .u64 0),(.int .u64 0),(.int .i64 0),(.int .i64 0),(.int .i64 0),.nils]) p1 p1 r2.2) fun r8=>
 bnd (alenD (.slice 28) r8.1) fun t10=>
 retree_copies_of_api_Re_L1 r2.1 r8.1 t10 (.int .i64 0) H r8.2
theorem retree_copies_of_api_Re_J1_eq (x5:AV) (H0 H:Hp):retree_copies_of_api_Re_J1 x5 H0 H =
    some (x5,H):=(CXM_eq [4,6,7] _ _ _ _).trans (by kernel_rfl)
theorem retree_copies_of_api_Re_J3_eq (x2 x5 x10 x11:AV) (H0 H:Hp):retree_copies_of_api_Re_J3 x2 x5 x10 x11 H0 H =
    bnd (ibin .add x11 (.int .i64 1)) fun t18=>
    retree_copies_of_api_Re_L1 x2 x5 x10 t18 H0 H:=(CXM_eq [4,6,7] _ _ _ _).trans (by kernel_rfl)
theorem retree_copies_of_api_Re_J2_eq (x2 x5 x10 x11 x12:AV) (H0 H:Hp):retree_copies_of_api_Re_J2 x2 x5 x10 x11 x12 H0 H =
    bnd (aload true 9 x2 H) fun t16=>
    bnd (aindexS 9 x5 x11) fun t17=>
    bnd (astoreU 9 t17 t16 H) fun r_8=>
    retree_copies_of_api_Re_J3 x2 x5 x10 x11 H0 r_8.2:=(CXM_eq [4,6,7] _ _ _ _).trans (by kernel_rfl)
theorem retree_copies_of_api_Re_L1_eq (x2 x5 x10 x11:AV) (H0 H:Hp):retree_copies_of_api_Re_L1 x2 x5 x10 x11 H0 H =
    bnd (ibin .lss x11 x10) fun t12=>
    cnd t12
     (retree_copies_of_api_Re_J2 x2 x5 x10 x11 t12 H0 H)
     (retree_copies_of_api_Re_J1 x5 H0 H):=(LPL_eqm (C:=cfg) [4,6,7] (tame_block 0 (retree_copies_of_api_Re_K1_tame H0)) _ _).trans (by kernel_rfl)
theorem F_retree_copies_of_api_Re_eq (p0 p1:AV) (H:Hp):C_retree_copies_of_api_Re [p0,p1] H=F_retree_copies_of_api_Re p0 p1 H:=(callw_cxm (C:=cfg) (fn:=Try.f85) (c:=bodyOf Try.f85) (n:=20) [4,6,7] Try.func85 (by kernel_rfl) (by kernel_rfl) [p0,p1] (by kernel_rfl) H).trans (by kernel_rfl)

theorem V_retree_count_1 (a b args:List AV) (H:Hp):acall cfg (callw cfg) (.fn (.func 55) a b) args H=C_retree_count_1 (a++args++b) H:=by kernel_rfl
theorem V_recapture_finder_cat_1 (a b args:List AV) (H:Hp):acall cfg (callw cfg) (.fn (.func 58) a b) args H=C_recapture_finder_cat_1 (a++args++b) H:=by kernel_rfl
theorem V_recapture_finder_repeat_1 (a b args:List AV) (H:Hp):acall cfg (callw cfg) (.fn (.func 61) a b) args H=C_recapture_finder_repeat_1 (a++args++b) H:=by kernel_rfl
theorem V_recapture_finder_close_1 (a b args:List AV) (H:Hp):acall cfg (callw cfg) (.fn (.func 81) a b) args H=C_recapture_finder_close_1 (a++args++b) H:=by kernel_rfl
theorem user_ok:∀ f ∈ userList,UserOk Try.prog f:=
 userOk_cons Try.call3 (
 userOk_cons Try.call4 (
 userOk_cons Try.call5 (
 userOk_cons Try.call6 (
 userOk_cons Try.call7 (
 userOk_cons Try.call8 (
 userOk_cons Try.call9 (
 userOk_cons Try.call10 (
 userOk_cons Try.call11 (
 userOk_cons Try.call12 (
 userOk_cons Try.call13 (
 userOk_cons Try.call14 (
 userOk_cons Try.call15 (
 userOk_cons Try.call16 (
 userOk_cons Try.call17 (
 userOk_cons Try.call18 (
 userOk_cons Try.call19 (
 userOk_cons Try.call20 (
 userOk_cons Try.call21 (
 userOk_cons Try.call22 (
 userOk_cons Try.call23 (
 userOk_cons Try.call24 (
 userOk_cons Try.call25 (
 userOk_cons Try.call26 (
 userOk_cons Try.call27 (
 userOk_cons Try.call28 (
 userOk_cons Try.call29 (
 userOk_cons Try.call30 (
 userOk_cons Try.call31 (
 userOk_cons Try.call32 (
 userOk_cons Try.call33 (
 userOk_cons Try.call34 (
 userOk_cons Try.call35 (
 userOk_cons Try.call36 (
 userOk_cons Try.call37 (
 userOk_cons Try.call38 (
 userOk_cons Try.call39 (
 userOk_cons Try.call40 (
 userOk_cons Try.call41 (
 userOk_cons Try.call42 (
 userOk_cons Try.call43 (
 userOk_cons Try.call44 (
 userOk_cons Try.call45 (
 userOk_cons Try.call46 (
 userOk_cons Try.call47 (
 userOk_cons Try.call48 (
 userOk_cons Try.call49 (
 userOk_cons Try.call50 (
 userOk_cons Try.call51 (
 userOk_cons Try.call52 (
 userOk_cons Try.call53 (
 userOk_cons Try.call54 (
 userOk_cons Try.call55 (
 userOk_cons Try.call56 (
 userOk_cons Try.call57 (
 userOk_cons Try.call58 (
 userOk_cons Try.call59 (
 userOk_cons Try.call60 (
 userOk_cons Try.call61 (
 userOk_cons Try.call62 (
 userOk_cons Try.call63 (
 userOk_cons Try.call64 (
 userOk_cons Try.call65 (
 userOk_cons Try.call66 (
 userOk_cons Try.call67 (
 userOk_cons Try.call68 (
 userOk_cons Try.call69 (
 userOk_cons Try.call70 (
 userOk_cons Try.call71 (
 userOk_cons Try.call72 (
 userOk_cons Try.call73 (
 userOk_cons Try.call74 (
 userOk_cons Try.call75 (
 userOk_cons Try.call76 (
 userOk_cons Try.call77 (
 userOk_cons Try.call78 (
 userOk_cons Try.call79 (
 userOk_cons Try.call80 (
 userOk_cons Try.call81 (
 userOk_cons Try.call82 (
 userOk_cons Try.call83 (
 userOk_cons Try.call84 (
 userOk_cons Try.call85 (
 userOk_cons Try.call86 (
 userOk_cons Try.call87 (
 userOk_cons Try.call88 (
 userOk_cons Try.call89 (
 userOk_cons Try.call90 (
 userOk_cons Try.call91 (
 userOk_cons Try.call92 (userOk_nil))))))))))))))))))))))))))))))))))))))))))))))))))))))))))))))))))))))))))))))))))))))))))
theorem eq_ok:∀ t ∈ eqList,Try.prog.stoodInHeld t=false∧Try.prog.eqGuardType Try.prog.depth t=false:=by
 intro t ht
 simp only [eqList,List.mem_cons,List.not_mem_nil,or_false] at ht
 rcases ht with rfl | rfl | rfl
 ·exact ⟨by kernel_rfl,Try.eqGuardType23⟩
 ·exact ⟨Try.stoodInHeld25,Try.eqGuardType25⟩
 ·exact ⟨Try.stoodInHeld30,Try.eqGuardType30⟩
theorem ext_ok:∀ f e,cfg.ext f=some e→∀ (args:Array Value) (w:World),(callFunc f args).run Try.prog w=(do pure (.value (← extF e args)):Sem Next).run Try.prog w:=by
 intro f e h
 cases (show (none:Option ExtK)=some e from h)
theorem sum_ok:∀ f g,cfg.sum f=some g→cfg.user f=true∧SumOk cfg f g:=by
 intro f g h
 cases (show (none:Option (List AV→Option AV))=some g from h)
theorem eff_ok:∀ f g,cfg.eff f=some g→cfg.user f=true∧EffOk cfg f g:=by
 intro f g h
 have h2:=lookup_mem (l:=effList) h
 simp only [effList,List.mem_cons,Prod.mk.injEq,List.not_mem_nil,or_false] at h2
 rcases h2 with ⟨rfl,rfl⟩
 ·exact ⟨by kernel_rfl,sortE_ok (C:=cfg) rfl (fun _=>rfl)⟩
theorem cfg_ok:okCfg cfg:=
 ⟨fun t h=>eq_ok t (List.contains_iff_mem.1 h),fun f h=>user_ok f (List.contains_iff_mem.1 h),by kernel_rfl,ext_ok,sum_ok,eff_ok⟩
end Go.Am
