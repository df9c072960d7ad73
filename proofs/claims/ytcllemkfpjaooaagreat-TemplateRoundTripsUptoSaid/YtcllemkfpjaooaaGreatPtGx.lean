/-
  The functions of the translation over the abstract machine: written by program (wip/gen.py).
-/
import Derived.Test.YtcllemkfpjaooaaGreatProg
import Derived.Test.YtcllemkfpjaooaaGreatPtPx
namespace Go.Am
open Go.Proofs
set_option maxRecDepth 100000
set_option linter.unusedVariables false
set_option linter.unusedSimpArgs false

def keepList:List (Nat × List (Nat × List Nat)):=[(4,[(1000001,[5])]),
 (5,[(3,[0,1]),(6,[0,1,5,6,8,9,10]),(7,[0,1,5,6,8,9,10]),(8,[0,1,5,6,8,9,10]),(9,[0,1,5,6,8,9]),(10,[0,1,5,6,8,9,11]),(11,[0,1,5,6,8,9,11]),(12,[0,1,5,6,8,9,11]),(13,[0,1,5,6,8,9]),(16,[0,1,12,13,14]),(18,[0,1,12,13,14])]),
 (6,[(6,[0]),(8,[0])]),
 (7,[(4,[0,1,7,8,9]),(5,[0,1,7,8,9]),(6,[0,1,7,8,9]),(9,[0,1,7,8,9,10]),(11,[0,1,7,8,9]),(13,[0,1,7,8,9]),(19,[0,1,7,8,9,12]),(24,[0,1,7,8,9]),(25,[7])]),
 (8,[(3,[0,1,7,8]),(4,[0,1,7,8]),(5,[0,1,7,8]),(8,[0,1,7,8,9]),(10,[0,1,7,8]),(12,[0,1,7,8]),(17,[0,1,7,8,10]),(22,[0,1,7,8]),(23,[7])]),
 (9,[(3,[0,1]),(4,[0,1,5]),(5,[0,1,5]),(6,[0,1,5]),(8,[])]),
 (10,[(5,[1])]),
 (11,[(3,[3,8,9,10]),(4,[3,8,9,10,11]),(11,[3,5,8,9,10,52,53]),(12,[3,5,8,9,10,52,53,54]),(21,[3,5,8,9,10,52,53]),(22,[3,8,9,10]),(23,[3])]),
 (12,[(3,[0,3,4]),(4,[0,3,4]),(5,[0,3,4]),(11,[3])]),
 (13,[(3,[1,5,7,11,12,13]),(4,[1,5,7,11,12,13,14]),(7,[1,5,7,9,11,12,13]),(8,[1,5,7,9,11,12,13]),(11,[1,5,7,11,12,13]),(12,[7])]),
 (14,[(3,[0,1,5,7,8]),(4,[0,1,5,7,8]),(5,[0,1,5,7,8]),(8,[0,1,5,7,8,9]),(9,[0,1,5,7,8,9]),(12,[7])]),
 (15,[(4,[0,1,6,9]),(7,[6,12]),(1000004,[9]),(1000005,[9])]),
 (16,[(4,[0,1,2,3,4]),(5,[0,1,2,3,4]),(6,[0,1,2,3,4]),(9,[0,1,2,3,4,5,6]),(11,[0,1,2,3,4,5,6]),(14,[0,1,2,3])]),
 (17,[(3,[1,2,3,4,5]),(6,[1,2,3,4,13]),(9,[1,2,3,4,15,16,17,31,32,33]),(10,[1,2,3,4,15,16,17,31,32,33,34]),(12,[1,2,3,4,15,16,17,19,31,32,33]),(18,[1,2,3,4,15,16,17,31,32,33]),(19,[2,15,16,17]),(22,[15,17])]),
 (18,[(2,[0,3]),(3,[0,3]),(4,[0,3]),(8,[])]),
 (19,[(3,[0,1])]),
 (20,[(8,[0,1])]),
 (24,[(3,[0,3,4]),(4,[0,3,4]),(5,[0,3,4]),(12,[3])]),
 (25,[(3,[0,1,5,6]),(5,[0,1,5,6]),(9,[6,9,10]),(11,[6,9,10]),(13,[6,10]),(1000012,[9])]),
 (26,[(4,[1,3]),(5,[1,3,4]),(6,[1,3,4]),(7,[1,3,4]),(8,[3])]),
 (27,[(3,[1,2])]),
 (29,[(4,[1,2,6]),(7,[1,2,6,8,9,10]),(8,[1,2,6,8,9,10]),(11,[1,2,6,8,9,11,12]),(12,[1,2,6,8,9,11]),(17,[1,2,6,8,9,14,15]),(20,[8])]),
 (32,[(2,[0,2,3]),(3,[0,2,3]),(5,[2,3])]),
 (33,[(4,[6])]),
 (34,[(3,[1,3,4]),(4,[1,3,4]),(5,[1,3,4]),(6,[3])]),
 (35,[(3,[1]),(4,[1,3]),(5,[1,3]),(6,[1,3]),(8,[])]),
 (36,[(4,[1,2,4]),(6,[1,2,4]),(9,[1,4,7]),(13,[1,4,9])]),
 (37,[(8,[8])]),
 (38,[(4,[0,1,2,8,11]),(11,[8,11])]),
 (40,[(4,[0,2]),(5,[0,2]),(10,[0,2,3]),(13,[0,2,3]),(14,[0,2,3]),(15,[2,3])]),
 (43,[(3,[0,1,4])]),
 (44,[(3,[1]),(6,[1]),(9,[1]),(11,[])]),
 (45,[(4,[1,2]),(6,[1,2])]),
 (46,[(12,[0,3,5]),(13,[0,3,5]),(14,[0,3,5]),(19,[0])]),
 (47,[(3,[1]),(5,[1]),(8,[1,4]),(1000001,[1]),(1000004,[1]),(1000005,[1]),(1000008,[1,4])]),
 (49,[(3,[0,1]),(5,[0,1])]),
 (50,[(3,[0,3,4]),(19,[0,4,5])]),
 (52,[(4,[0,2]),(7,[0,2]),(10,[0,2,3])]),
 (53,[(3,[1]),(4,[1,3]),(5,[1,3]),(6,[1,3]),(8,[])]),
 (54,[(3,[1,2]),(6,[1,2]),(7,[1,2]),(8,[1,2,6]),(9,[1,2,6]),(10,[1,2,6]),(13,[2,6,7]),(14,[1])]),
 (55,[(3,[1,2]),(4,[1,2,6]),(5,[1,2,6]),(6,[1,2,6]),(9,[2,6,7]),(10,[1,2]),(12,[1])]),
 (56,[(3,[1,3,4]),(4,[1,3,4]),(5,[1,3,4]),(6,[3])]),
 (57,[(3,[1,3,4]),(4,[1,3,4]),(5,[1,3,4]),(8,[3])]),
 (58,[(3,[1,3,4]),(4,[1,3,4]),(5,[1,3,4]),(6,[1,3]),(8,[1,3]),(10,[1,3]),(12,[1,3]),(14,[1,3])]),
 (59,[(4,[1,2,3,4]),(5,[1,2,3,4]),(6,[1,2,3,4]),(7,[1,2,3]),(9,[2,3])]),
 (60,[(3,[0,1,5,6]),(4,[0,1,5,6]),(5,[0,1,5,6]),(11,[0,1,5]),(13,[0,5,8]),(14,[0,5,8]),(15,[0,5,8]),(16,[0])]),
 (61,[(5,[0,3,5]),(9,[0,5])]),
 (62,[(11,[])]),
 (66,[(4,[1,2,4]),(6,[1,2,4]),(9,[1,4,7]),(14,[1,4,9])]),
 (71,[(3,[0,3,4]),(1000004,[3]),(1000005,[3])]),
 (72,[(3,[1,4,5,6]),(4,[1,4,5,6]),(5,[1,4,5,6]),(6,[4,5])]),
 (73,[(17,[0,2,3])]),
 (74,[(4,[1,3]),(18,[])]),
 (76,[(2,[0,1,5]),(3,[0,1,5]),(4,[0,1,5]),(6,[])]),
 (77,[(3,[0])]),
 (79,[(3,[1,2,3,6]),(5,[1,2,3,6]),(7,[1,2,3,6,7,8]),(8,[1,2,3,6,7,8]),(9,[1,2,3,6,7,8]),(12,[1,2,3,6,7]),(13,[2,3,6,7,9]),(14,[2,3,6,7,9]),(15,[2,3,6,7,9]),(16,[6,7])]),
 (80,[(12,[0,3]),(14,[0,3,6,7,117,118,119]),(15,[0,3,6,7,117,118,119,120]),(17,[0,3,6,7,117,118,119]),(18,[0,3,6,7]),(20,[7])]),
 (82,[(4,[1,2]),(6,[1,2])]),
 (83,[(2,[0,3]),(4,[0,13,14,15]),(5,[0,13,14,15,16]),(7,[0,13,14,15])]),
 (84,[(4,[0,3])]),
 (92,[(3,[1,3,4]),(4,[1,3,4]),(5,[1,3,4]),(7,[3])]),
 (94,[(3,[0,2,3,4]),(4,[0,2,3,4]),(5,[0,2,3,4]),(6,[2,3])]),
 (97,[(3,[2,4])]),
 (98,[(3,[3,4]),(1000003,[3])]),
 (102,[(3,[1])]),
 (103,[(20,[])]),
 (104,[(3,[1,10,11,12]),(4,[1,10,11,12,13]),(6,[1,10,11,12])]),
 (106,[(3,[1,3,7,8,9]),(4,[1,3,7,8,9,10]),(6,[1,3,7,8,9]),(7,[1,3]),(9,[3])]),
 (107,[(3,[1,2,3,7,8,9]),(4,[1,2,3,7,8,9,10]),(6,[1,2,3,7,8,9]),(7,[1,2,3])]),
 (108,[(3,[1,2]),(6,[1,2,3,18,19,20]),(7,[1,2,3,18,19,20,21]),(9,[1,2,3,18,19,20]),(10,[1,2,3]),(12,[2,3])]),
 (109,[(2,[0,1,4,10,11,12]),(3,[0,1,4,10,11,12,13]),(6,[0,1,4,6,10,11,12]),(10,[0,1,4,10,11,12]),(11,[0,4]),(12,[0,49,50,51]),(13,[0,49,50,51,52]),(15,[0,49,50,51])]),
 (110,[(6,[0,3]),(10,[0,6])]),
 (121,[(3,[0,4,5,6,7,8]),(4,[0,4,5,6,7,8]),(5,[0,4,5,6,7,8]),(8,[6,7]),(1000005,[5])]),
 (122,[(3,[0,1,5,6]),(4,[0,1,5,6]),(5,[0,1,5,6]),(6,[5])]),
 (123,[(3,[1,2])]),
 (128,[(2,[0,1,5]),(3,[0,1,5]),(4,[0,1,5]),(6,[])]),
 (129,[(11,[0,1,2])]),
 (130,[(11,[1,2,3,6]),(1000010,[3]),(1000011,[3])]),
 (135,[(3,[1]),(5,[1]),(6,[1,3]),(7,[1,3]),(8,[1,3]),(10,[1]),(12,[1]),(15,[1])]),
 (142,[(3,[2,5,10,11]),(4,[2,5,10,11,12]),(6,[2,5,10,11]),(7,[5])]),
 (143,[(3,[0]),(4,[0,3]),(5,[0,3]),(6,[0,3]),(9,[])]),
 (145,[(3,[0]),(4,[0,3]),(5,[0,3]),(6,[0,3]),(8,[0,3]),(9,[0,3,4]),(10,[0,3,4]),(11,[0,3,4]),(13,[])]),
 (146,[(3,[0]),(4,[0,3]),(5,[0,3]),(6,[0,3]),(8,[0,3]),(9,[0,3,4]),(10,[0,3,4]),(11,[0,3,4]),(13,[])]),
 (166,[(4,[6,9])]),
 (167,[(4,[1,2,3,6,8]),(9,[1,3,6,8,9,10,11,12]),(10,[1,3,6,8,9,10,11,12]),(12,[1,3,6,8,9,10,11,12]),(13,[1,3,6,8,9,10,11,12,48,49,50]),(14,[1,3,6,8,9,10,11,12,48,49,50,51]),(17,[1,3,6,8,9,10,11,12,48,49,50]),(18,[1,3,6,8,9,10,11,12]),(19,[1,3,6,8,9,10,11,12]),(21,[6,9,10]),(1000021,[10])]),
 (168,[(3,[1,2])]),
 (169,[(2,[0,1,3,4]),(3,[0,1,3,4]),(6,[0,1,3,4,11]),(20,[1])]),
 (170,[(4,[0,2,3,9,20,21,22]),(5,[0,2,3,9,20,21,22,23]),(9,[0,2,3,9,20,21,22]),(10,[9])]),
 (172,[(4,[1,3]),(6,[3,4,19,20,21]),(7,[3,4,19,20,21,22]),(19,[3,4,7,19,20,21]),(21,[3,4,19,20,21]),(22,[])])]
def userList:List Nat:=[3,4,5,6,7,8,9,10,11,12,13,14,15,16,17,18,19,20,21,22,23,24,25,26,27,28,29,30,31,32,33,34,35,36,37,38,40,41,42,43,44,45,46,47,48,49,50,51,52,53,54,55,56,57,58,59,60,61,62,63,64,65,66,67,68,69,70,71,72,73,74,75,76,77,78,79,80,81,82,83,84,85,86,87,88,89,90,91,92,93,94,95,96,97,98,99,100,101,102,103,104,105,106,107,108,109,110,111,112,113,114,115,116,117,118,119,120,121,122,123,124,125,126,127,128,129,130,131,132,133,134,135,136,137,138,139,140,141,142,143,144,145,146,147,148,166,167,168,169,170,171,172,173,174,175,176,177,178,179,180,181,182,183,184,185,186,187,188,189,190,191,192,193,194,195,196,197,198,199,200,201]
def pureList:List Nat:=[]
def flatList:List Nat:=[10,15,16,25,29,36,44,45,59,62,66,82,108,167]
def extList:List (Nat × ExtK):=[(39,.same)]
def roList:List Nat:=[]
def eqList:List Nat:=[36,38,56]
noncomputable def sumList:List (Nat × (List AV→Option AV)):=[]
noncomputable def effList:List (Nat × EffFn):=[(21,byteE),(22,textE),(23,stringE),(30,lenE)]
def bldList:List (Nat × Nat):=[(66,5)]
def wrbList:List Nat:=[52]
def qkList:List (Nat × List Nat):=[]
def linList:List Nat:=[2,3,56,111]
noncomputable def cfg:Cfg:={ P:=Tryz.prog,glob:=fun _=>none,sum:=fun f=>sumList.lookup f,user:=fun f=>userList.contains f,eqok:=fun t=>eqList.contains t,pure:=fun f=>pureList.contains f,flat:=fun f=>flatList.contains f,ext:=fun f=>extList.lookup f,keep:=keepTab keepList,eff:=fun f=>effList.lookup f,bld:=fun t=>bldList.lookup t,lin:=fun t=>linList.contains t,qk:=fun t a=>qkList.contains (t,a),wrb:=fun t=>wrbList.contains t,ro:=fun f=>roList.contains f }
noncomputable def C_L16_TemplateRoundTrips:List AV→Hp→Res:=callw cfg 6
noncomputable def C_template_Parse:List AV→Hp→Res:=callw cfg 7
noncomputable def C_R16_SameParts:List AV→Hp→Res:=callw cfg 9
noncomputable def C_template_Print:List AV→Hp→Res:=callw cfg 11
noncomputable def C_R16_Normal:List AV→Hp→Res:=callw cfg 18
noncomputable def C_template_Parse_1:List AV→Hp→Res:=callw cfg 19
noncomputable def C_L16_awake:List AV→Hp→Res:=callw cfg 10
noncomputable def L16_TemplateRoundTrips_J2 (x0:AV) (H0 H:Hp):Res:=CXL cfg (callw cfg) (LPL cfg (cfg.keep 6) 71) (cfg.keep 6) 71 seqL blockL (sub (bodyOf Tryz.f6) [1,1,1,1]) (retL cfg 71 6 Tryz.f6 H0) [(0,x0)] H
noncomputable def L16_TemplateRoundTrips_J1 (x0:AV) (H0 H:Hp):Res:=CXL cfg (callw cfg) (LPL cfg (cfg.keep 6) 71) (cfg.keep 6) 71 seqL blockL (sub (bodyOf Tryz.f6) [1,1,1]) (retL cfg 71 6 Tryz.f6 H0) [(0,x0)] H
noncomputable def F_L16_TemplateRoundTrips (p0 p1 p2:AV) (H:Hp):Res:=
 bnd (C_template_Parse [p1,p2] H) fun r19=>
 bnd (aext r19.1 0) fun t20=>
 bnd (aext r19.1 1) fun t21=>
 bnd (aext r19.1 2) fun t22=>
 bnd (ibin .eql t21 (.int .i64 0)) fun t24=>
 cnd t24
  (bnd (C_template_Print [t20] r19.2) fun r27=>
  bnd (C_template_Parse [r27.1,p2] r27.2) fun r29=>
  bnd (aext r29.1 0) fun t30=>
  bnd (aext r29.1 1) fun t31=>
  bnd (aext r29.1 2) fun t32=>
  bnd (ibin .neq t31 (.int .i64 0)) fun t34=>
  bnd (gdv t34 false (.tuple []) (some t20)) fun t36=>
  bnd (gdv t34 false (.tuple []) (some t30)) fun t37=>
  bnd (gdv t34 false ((.tuple []),r29.2) (C_R16_SameParts [t36,t37] r29.2)) fun r38=>
  bnd (gdv t34 false (.tuple []) (aun .not r38.1)) fun t39=>
  bnd (apick t34 (.bool true) t39) fun t40=>
  bnd (gdv t40 false (.tuple []) (some t20)) fun t42=>
  bnd (gdv t40 false ((.tuple []),r38.2) (C_R16_Normal [t42] r38.2)) fun r43=>
  bnd (gdv t40 false (.tuple []) (aun .not r43.1)) fun t44=>
  bnd (apick t40 (.bool true) t44) fun t45=>
  cnd t45
   (some ((.bool false),r43.2))
   (L16_TemplateRoundTrips_J1 p0 H r43.2))
  (L16_TemplateRoundTrips_J1 p0 H r19.2)
theorem L16_TemplateRoundTrips_J2_eq (x0:AV) (H0 H:Hp):L16_TemplateRoundTrips_J2 x0 H0 H =
    bnd (C_template_Print [x0] H) fun r52=>
    bnd (C_template_Parse [r52.1,(.int .i64 9)] r52.2) fun r53=>
    bnd (aext r53.1 0) fun t54=>
    bnd (aext r53.1 1) fun t55=>
    bnd (aext r53.1 2) fun t56=>
    bnd (ibin .eql t55 (.int .i64 0)) fun t58=>
    bnd (gdv t58 true (.tuple []) (some t56)) fun t60=>
    bnd (gdv t58 true (.tuple []) (ibin .eql t60 (.int .i64 0))) fun t61=>
    bnd (apick t58 t61 (.bool false)) fun t62=>
    bnd (gdv t62 true (.tuple []) (some t54)) fun t64=>
    bnd (gdv t62 true (.tuple []) (some x0)) fun t65=>
    bnd (gdv t62 true ((.tuple []),r53.2) (C_R16_SameParts [t64,t65] r53.2)) fun r66=>
    bnd (apick t62 r66.1 (.bool false)) fun t67=>
    bnd (gdv t67 true ((.tuple []),r66.2) (flatC C_L16_awake [] r66.2)) fun r69=>
    bnd (apick t67 r69.1 (.bool false)) fun t70=>
    some (t70,r69.2):=(CXM_eq [6,8] _ _ _ _).trans (by kernel_rfl)
theorem L16_TemplateRoundTrips_J1_eq (x0:AV) (H0 H:Hp):L16_TemplateRoundTrips_J1 x0 H0 H =
    bnd (C_R16_Normal [x0] H) fun r47=>
    bnd (aun .not r47.1) fun t48=>
    cnd t48
     (bnd (flatC C_L16_awake [] r47.2) fun r49=>
     some (r49.1,r49.2))
     (L16_TemplateRoundTrips_J2 x0 H0 r47.2):=(CXM_eq [6,8] _ _ _ _).trans (by kernel_rfl)
theorem F_L16_TemplateRoundTrips_eq (p0 p1 p2:AV) (H:Hp):C_L16_TemplateRoundTrips [p0,p1,p2] H=F_L16_TemplateRoundTrips p0 p1 p2 H:=(callw_cxm (C:=cfg) (fn:=Tryz.f6) (c:=bodyOf Tryz.f6) (n:=71) [6,8] Tryz.func6 (by kernel_rfl) (by kernel_rfl) [p0,p1,p2] (by kernel_rfl) H).trans (by kernel_rfl)

noncomputable def template_Parse_J1 (x7:AV) (H0 H:Hp):Res:=CXL cfg (callw cfg) (LPL cfg (cfg.keep 7) 90) (cfg.keep 7) 90 seqL blockL (sub (bodyOf Tryz.f7) [1,1,1,1]) (retL cfg 90 7 Tryz.f7 H0) [(7,x7)] H
noncomputable def template_Parse_K1 (H0:Hp):KL:=seqL (fun k al H=>CXL cfg (callw cfg) (LPL cfg (cfg.keep 7) 90) (cfg.keep 7) 90 seqL blockL (sub (bodyOf Tryz.f7) [1,1,1,1]) k (trimL (cfg.keep 7) (sub (bodyOf Tryz.f7) [1,1,1,1]) al) H) (retL cfg 90 7 Tryz.f7 H0)
theorem template_Parse_K1_tame (H0:Hp):Tame 90 (template_Parse_K1 H0):=tame_seq (C:=cfg) (kp:=cfg.keep 7) (sub (bodyOf Tryz.f7) [1,1,1,1]) (tame_ret 7 Tryz.f7 H0)
noncomputable def template_Parse_J3 (x0 x1 x7 x8 x9:AV) (H0 H:Hp):Res:=CXL cfg (callw cfg) (LPL cfg (cfg.keep 7) 90) (cfg.keep 7) 90 seqL blockL (sub (bodyOf Tryz.f7) [1,1,1,0,1,0,0,1,1]) (seqL (fun k al H=>LPL cfg (cfg.keep 7) 90 (sub (bodyOf Tryz.f7) [1,1,1,0,1,0,0]) k (trimL (cfg.keep 7) (sub (bodyOf Tryz.f7) [1,1,1,0,1,0,0]) al) H) (blockL 0 (template_Parse_K1 H0))) [(0,x0),(1,x1),(7,x7),(8,x8),(9,x9)] H
noncomputable def template_Parse_K2 (H0:Hp):KL:=seqL (fun k al H=>CXL cfg (callw cfg) (LPL cfg (cfg.keep 7) 90) (cfg.keep 7) 90 seqL blockL (sub (bodyOf Tryz.f7) [1,1,1,0,1,0,0,1,1]) k (trimL (cfg.keep 7) (sub (bodyOf Tryz.f7) [1,1,1,0,1,0,0,1,1]) al) H) (seqL (fun k al H=>LPL cfg (cfg.keep 7) 90 (sub (bodyOf Tryz.f7) [1,1,1,0,1,0,0]) k (trimL (cfg.keep 7) (sub (bodyOf Tryz.f7) [1,1,1,0,1,0,0]) al) H) (blockL 0 (template_Parse_K1 H0)))
noncomputable def template_Parse_J7 (x0 x1 x7 x8 x9:AV) (H0 H:Hp):Res:=CXL cfg (callw cfg) (LPL cfg (cfg.keep 7) 90) (cfg.keep 7) 90 seqL blockL (sub (bodyOf Tryz.f7) [1,1,1,0,1,0,0,1,0,0,1,1,1,1,1]) (blockL 1 (template_Parse_K2 H0)) [(0,x0),(1,x1),(7,x7),(8,x8),(9,x9)] H
noncomputable def template_Parse_K3 (H0:Hp):KL:=seqL (fun k al H=>CXL cfg (callw cfg) (LPL cfg (cfg.keep 7) 90) (cfg.keep 7) 90 seqL blockL (sub (bodyOf Tryz.f7) [1,1,1,0,1,0,0,1,0,0,1,1,1,1,1]) k (trimL (cfg.keep 7) (sub (bodyOf Tryz.f7) [1,1,1,0,1,0,0,1,0,0,1,1,1,1,1]) al) H) (blockL 1 (template_Parse_K2 H0))
noncomputable def template_Parse_J8 (x0 x1 x7 x8 x9 x12:AV) (H0 H:Hp):Res:=CXL cfg (callw cfg) (LPL cfg (cfg.keep 7) 90) (cfg.keep 7) 90 seqL blockL (sub (bodyOf Tryz.f7) [1,1,1,0,1,0,0,1,0,0,1,1,1,1,0,1,0,1,0,1,1]) (blockL 2 (template_Parse_K3 H0)) [(0,x0),(1,x1),(7,x7),(8,x8),(9,x9),(12,x12)] H
noncomputable def template_Parse_J6 (x0 x1 x7 x8 x9:AV) (H0 H:Hp):Res:=CXL cfg (callw cfg) (LPL cfg (cfg.keep 7) 90) (cfg.keep 7) 90 seqL blockL (sub (bodyOf Tryz.f7) [1,1,1,0,1,0,0,1,0,0,1,1,1,1]) (blockL 1 (template_Parse_K2 H0)) [(0,x0),(1,x1),(7,x7),(8,x8),(9,x9)] H
noncomputable def template_Parse_J5 (x0 x1 x7 x8 x9:AV) (H0 H:Hp):Res:=CXL cfg (callw cfg) (LPL cfg (cfg.keep 7) 90) (cfg.keep 7) 90 seqL blockL (sub (bodyOf Tryz.f7) [1,1,1,0,1,0,0,1,0,0,1,1,1]) (blockL 1 (template_Parse_K2 H0)) [(0,x0),(1,x1),(7,x7),(8,x8),(9,x9)] H
noncomputable def template_Parse_J4 (x0 x1 x7 x8 x9 x10:AV) (H0 H:Hp):Res:=CXL cfg (callw cfg) (LPL cfg (cfg.keep 7) 90) (cfg.keep 7) 90 seqL blockL (sub (bodyOf Tryz.f7) [1,1,1,0,1,0,0,1,0,0,1,1]) (blockL 1 (template_Parse_K2 H0)) [(0,x0),(1,x1),(7,x7),(8,x8),(9,x9),(10,x10)] H
noncomputable def template_Parse_J2 (x0 x1 x7 x8 x9:AV) (H0 H:Hp):Res:=CXL cfg (callw cfg) (LPL cfg (cfg.keep 7) 90) (cfg.keep 7) 90 seqL blockL (sub (bodyOf Tryz.f7) [1,1,1,0,1,0,0,1]) (seqL (fun k al H=>LPL cfg (cfg.keep 7) 90 (sub (bodyOf Tryz.f7) [1,1,1,0,1,0,0]) k (trimL (cfg.keep 7) (sub (bodyOf Tryz.f7) [1,1,1,0,1,0,0]) al) H) (blockL 0 (template_Parse_K1 H0))) [(0,x0),(1,x1),(7,x7),(8,x8),(9,x9)] H
noncomputable def template_Parse_L1 (x0 x1 x7 x8 x9:AV) (H0 H:Hp):Res:=LPL cfg (cfg.keep 7) 90 (sub (bodyOf Tryz.f7) [1,1,1,0,1,0,0]) (blockL 0 (template_Parse_K1 H0)) [(0,x0),(1,x1),(7,x7),(8,x8),(9,x9)] H
noncomputable def F_template_Parse (p0 p1:AV) (H:Hp):Res:=
 bnd (some ((.ptr H.length 0),H++[.cells [.nils]])) fun r7=>
 bnd (some (.fn (.func 19) [] [r7.1])) fun t13=>
 template_Parse_L1 p0 p1 r7.1 t13 (.int .i64 0) H r7.2
theorem template_Parse_J1_eq (x7:AV) (H0 H:Hp):template_Parse_J1 x7 H0 H =
    bnd (aload false 1 x7 H) fun t89=>
    some ((.tuple [t89,(.int .i64 0),(.int .i64 0)]),H):=(CXM_eq [5,6,9,11,13,19,24,25] _ _ _ _).trans (by kernel_rfl)
theorem template_Parse_J3_eq (x0 x1 x7 x8 x9:AV) (H0 H:Hp):template_Parse_J3 x0 x1 x7 x8 x9 H0 H =
    bnd (ibin .add x9 (.int .i64 1)) fun t19=>
    template_Parse_L1 x0 x1 x7 x8 t19 H0 H:=(CXM_eq [5,6,9,11,13,19,24,25] _ _ _ _).trans (by kernel_rfl)
theorem template_Parse_J7_eq (x0 x1 x7 x8 x9:AV) (H0 H:Hp):template_Parse_J7 x0 x1 x7 x8 x9 H0 H =
    bnd (ibin .add x9 (.int .i64 1)) fun t88=>
    template_Parse_J3 x0 x1 x7 x8 t88 H0 H:=(CXM_eq [5,6,9,11,13,19,24,25] _ _ _ _).trans (by kernel_rfl)
theorem template_Parse_J8_eq (x0 x1 x7 x8 x9 x12:AV) (H0 H:Hp):template_Parse_J8 x0 x1 x7 x8 x9 x12 H0 H =
    bnd (aload false 1 x7 H) fun t63=>
    bnd ((afill [(0,1,(.int .i64 2)),(1,1,x12)] [(.int .i64 0),(.int .i64 0),(.str [])]).map .agg) fun t65=>
    bnd ((setElems 3 [(0,t65)] [(.agg [(.int .i64 0),(.int .i64 0),(.str [])])]).map (.vs 3 .clip)) fun t66=>
    bnd (aappEL true 3 32 t63 t66 H) fun r67=>
    bnd (astoreU 1 x7 r67.1 r67.2) fun r_19=>
    template_Parse_J7 x0 x1 x7 x8 x9 H0 r_19.2:=(CXM_eq [5,6,9,11,13,19,24,25] _ _ _ _).trans (by kernel_rfl)
theorem template_Parse_J6_eq (x0 x1 x7 x8 x9:AV) (H0 H:Hp):template_Parse_J6 x0 x1 x7 x8 x9 H0 H =
    bnd (ibin .add x9 (.int .i64 1)) fun t42=>
    bnd (aindexStr x0 t42) fun t43=>
    bnd (ibin .geq t43 (.int .u8 48)) fun t47=>
    bnd (gdv t47 true (.tuple []) (some t43)) fun t49=>
    bnd (gdv t47 true (.tuple []) (ibin .leq t49 (.int .u8 57))) fun t50=>
    bnd (apick t47 t50 (.bool false)) fun t51=>
    cnd t51
     (bnd (ibin .sub t43 (.int .u8 48)) fun t53=>
     bnd (cvInt .i64 t53) fun t54=>
     bnd (ibin .gtr t54 (.int .i64 0)) fun t56=>
     bnd (gdv t56 true (.tuple []) (some t54)) fun t58=>
     bnd (gdv t56 true (.tuple []) (some x1)) fun t59=>
     bnd (gdv t56 true (.tuple []) (ibin .gtr t58 t59)) fun t60=>
     bnd (apick t56 t60 (.bool false)) fun t61=>
     cnd t61
      (some ((.tuple [.nils,(.int .i64 2),x9]),H))
      (template_Parse_J8 x0 x1 x7 x8 x9 t54 H0 H))
     (bnd (ibin .eql t43 (.int .u8 110)) fun t70=>
     bnd (gdv t70 false (.tuple []) (some t43)) fun t72=>
     bnd (gdv t70 false (.tuple []) (ibin .eql t72 (.int .u8 10))) fun t73=>
     bnd (apick t70 (.bool true) t73) fun t74=>
     cnd t74
      (bnd (acall cfg (callw cfg) x8 [(.int .u8 10)] H) fun r76=>
      template_Parse_J7 x0 x1 x7 x8 x9 H0 r76.2)
      (bnd (ibin .eql t43 (.int .u8 38)) fun t79=>
      bnd (gdv t79 false (.tuple []) (some t43)) fun t81=>
      bnd (gdv t79 false (.tuple []) (ibin .eql t81 (.int .u8 92))) fun t82=>
      bnd (apick t79 (.bool true) t82) fun t83=>
      cnd t83
       (bnd (acall cfg (callw cfg) x8 [t43] H) fun r86=>
       template_Parse_J7 x0 x1 x7 x8 x9 H0 r86.2)
       (some ((.tuple [.nils,(.int .i64 1),x9]),H)))):=(CXM_eq [5,6,9,11,13,19,24,25] _ _ _ _).trans (by kernel_rfl)
theorem template_Parse_J5_eq (x0 x1 x7 x8 x9:AV) (H0 H:Hp):template_Parse_J5 x0 x1 x7 x8 x9 H0 H =
    bnd (ibin .add x9 (.int .i64 1)) fun t35=>
    bnd (alenD .string x0) fun t37=>
    bnd (ibin .geq t35 t37) fun t38=>
    cnd t38
     (some ((.tuple [.nils,(.int .i64 1),x9]),H))
     (template_Parse_J6 x0 x1 x7 x8 x9 H0 H):=(CXM_eq [5,6,9,11,13,19,24,25] _ _ _ _).trans (by kernel_rfl)
theorem template_Parse_J4_eq (x0 x1 x7 x8 x9 x10:AV) (H0 H:Hp):template_Parse_J4 x0 x1 x7 x8 x9 x10 H0 H =
    bnd (ibin .neq x10 (.int .u8 92)) fun t30=>
    cnd t30
     (bnd (acall cfg (callw cfg) x8 [x10] H) fun r33=>
     template_Parse_J3 x0 x1 x7 x8 x9 H0 r33.2)
     (template_Parse_J5 x0 x1 x7 x8 x9 H0 H):=(CXM_eq [5,6,9,11,13,19,24,25] _ _ _ _).trans (by kernel_rfl)
theorem template_Parse_J2_eq (x0 x1 x7 x8 x9:AV) (H0 H:Hp):template_Parse_J2 x0 x1 x7 x8 x9 H0 H =
    bnd (aindexStr x0 x9) fun t22=>
    bnd (ibin .eql t22 (.int .u8 38)) fun t24=>
    cnd t24
     (bnd (aload false 1 x7 H) fun t25=>
     bnd ((afill [(0,1,(.int .i64 2))] [(.int .i64 0),(.int .i64 0),(.str [])]).map .agg) fun t26=>
     bnd ((setElems 3 [(0,t26)] [(.agg [(.int .i64 0),(.int .i64 0),(.str [])])]).map (.vs 3 .clip)) fun t27=>
     bnd (aappEL true 3 32 t25 t27 H) fun r28=>
     bnd (astoreU 1 x7 r28.1 r28.2) fun r_45=>
     template_Parse_J3 x0 x1 x7 x8 x9 H0 r_45.2)
     (template_Parse_J4 x0 x1 x7 x8 x9 t22 H0 H):=(CXM_eq [5,6,9,11,13,19,24,25] _ _ _ _).trans (by kernel_rfl)
theorem template_Parse_L1_eq (x0 x1 x7 x8 x9:AV) (H0 H:Hp):template_Parse_L1 x0 x1 x7 x8 x9 H0 H =
    bnd (alenD .string x0) fun t16=>
    bnd (ibin .lss x9 t16) fun t17=>
    cnd t17
     (template_Parse_J2 x0 x1 x7 x8 x9 H0 H)
     (template_Parse_J1 x7 H0 H):=(LPL_eqm (C:=cfg) [5,6,9,11,13,19,24,25] (tame_block 0 (template_Parse_K1_tame H0)) _ _).trans (by kernel_rfl)
theorem F_template_Parse_eq (p0 p1:AV) (H:Hp):C_template_Parse [p0,p1] H=F_template_Parse p0 p1 H:=(callw_cxm (C:=cfg) (fn:=Tryz.f7) (c:=bodyOf Tryz.f7) (n:=90) [5,6,9,11,13,19,24,25] Tryz.func7 (by kernel_rfl) (by kernel_rfl) [p0,p1] (by kernel_rfl) H).trans (by kernel_rfl)

noncomputable def R16_SameParts_J2 (H0 H:Hp):Res:=CXL cfg (callw cfg) (LPL cfg (cfg.keep 9) 26) (cfg.keep 9) 26 seqL blockL (sub (bodyOf Tryz.f9) [1,1,1]) (retL cfg 26 9 Tryz.f9 H0) [] H
noncomputable def R16_SameParts_K1 (H0:Hp):KL:=seqL (fun k al H=>CXL cfg (callw cfg) (LPL cfg (cfg.keep 9) 26) (cfg.keep 9) 26 seqL blockL (sub (bodyOf Tryz.f9) [1,1,1]) k (trimL (cfg.keep 9) (sub (bodyOf Tryz.f9) [1,1,1]) al) H) (retL cfg 26 9 Tryz.f9 H0)
theorem R16_SameParts_K1_tame (H0:Hp):Tame 26 (R16_SameParts_K1 H0):=tame_seq (C:=cfg) (kp:=cfg.keep 9) (sub (bodyOf Tryz.f9) [1,1,1]) (tame_ret 9 Tryz.f9 H0)
noncomputable def R16_SameParts_J4 (x0 x1 x5:AV) (H0 H:Hp):Res:=CXL cfg (callw cfg) (LPL cfg (cfg.keep 9) 26) (cfg.keep 9) 26 seqL blockL (sub (bodyOf Tryz.f9) [1,1,0,1,0,0,1,1]) (seqL (fun k al H=>LPL cfg (cfg.keep 9) 26 (sub (bodyOf Tryz.f9) [1,1,0,1,0,0]) k (trimL (cfg.keep 9) (sub (bodyOf Tryz.f9) [1,1,0,1,0,0]) al) H) (blockL 0 (R16_SameParts_K1 H0))) [(0,x0),(1,x1),(5,x5)] H
noncomputable def R16_SameParts_J3 (x0 x1 x5:AV) (H0 H:Hp):Res:=CXL cfg (callw cfg) (LPL cfg (cfg.keep 9) 26) (cfg.keep 9) 26 seqL blockL (sub (bodyOf Tryz.f9) [1,1,0,1,0,0,1]) (seqL (fun k al H=>LPL cfg (cfg.keep 9) 26 (sub (bodyOf Tryz.f9) [1,1,0,1,0,0]) k (trimL (cfg.keep 9) (sub (bodyOf Tryz.f9) [1,1,0,1,0,0]) al) H) (blockL 0 (R16_SameParts_K1 H0))) [(0,x0),(1,x1),(5,x5)] H
noncomputable def R16_SameParts_L1 (x0 x1 x5:AV) (H0 H:Hp):Res:=LPL cfg (cfg.keep 9) 26 (sub (bodyOf Tryz.f9) [1,1,0,1,0,0]) (blockL 0 (R16_SameParts_K1 H0)) [(0,x0),(1,x1),(5,x5)] H
noncomputable def R16_SameParts_J1 (x0 x1:AV) (H0 H:Hp):Res:=CXL cfg (callw cfg) (LPL cfg (cfg.keep 9) 26) (cfg.keep 9) 26 seqL blockL (sub (bodyOf Tryz.f9) [1,1]) (retL cfg 26 9 Tryz.f9 H0) [(0,x0),(1,x1)] H
noncomputable def F_R16_SameParts (p0 p1:AV) (H:Hp):Res:=
 bnd (alenD (.slice 56) p0) fun t7=>
 bnd (alenD (.slice 56) p1) fun t9=>
 bnd (ibin .neq t7 t9) fun t10=>
 cnd t10
  (some ((.bool false),H))
  (R16_SameParts_J1 p0 p1 H H)
theorem R16_SameParts_J2_eq (H0 H:Hp):R16_SameParts_J2 H0 H =
    some ((.bool true),H):=(CXM_eq [3,5,6,8] _ _ _ _).trans (by kernel_rfl)
theorem R16_SameParts_J4_eq (x0 x1 x5:AV) (H0 H:Hp):R16_SameParts_J4 x0 x1 x5 H0 H =
    bnd (ibin .add x5 (.int .i64 1)) fun t16=>
    R16_SameParts_L1 x0 x1 t16 H0 H:=(CXM_eq [3,5,6,8] _ _ _ _).trans (by kernel_rfl)
theorem R16_SameParts_J3_eq (x0 x1 x5:AV) (H0 H:Hp):R16_SameParts_J3 x0 x1 x5 H0 H =
    bnd (aindexS 3 x0 x5) fun t19=>
    bnd (aload true 3 t19 H) fun t20=>
    bnd (aindexS 3 x1 x5) fun t23=>
    bnd (aload true 3 t23 H) fun t24=>
    bnd (aeqBin Tryz.prog cfg.eqok .neq 56 t20 t24) fun t25=>
    cnd t25
     (some ((.bool false),H))
     (R16_SameParts_J4 x0 x1 x5 H0 H):=(CXM_eq [3,5,6,8] _ _ _ _).trans (by kernel_rfl)
theorem R16_SameParts_L1_eq (x0 x1 x5:AV) (H0 H:Hp):R16_SameParts_L1 x0 x1 x5 H0 H =
    bnd (alenD (.slice 56) x0) fun t13=>
    bnd (ibin .lss x5 t13) fun t14=>
    cnd t14
     (R16_SameParts_J3 x0 x1 x5 H0 H)
     (R16_SameParts_J2 H0 H):=(LPL_eqm (C:=cfg) [3,5,6,8] (tame_block 0 (R16_SameParts_K1_tame H0)) _ _).trans (by kernel_rfl)
theorem R16_SameParts_J1_eq (x0 x1:AV) (H0 H:Hp):R16_SameParts_J1 x0 x1 H0 H =
    R16_SameParts_L1 x0 x1 (.int .i64 0) H0 H:=(CXM_eq [3,5,6,8] _ _ _ _).trans (by kernel_rfl)
theorem F_R16_SameParts_eq (p0 p1:AV) (H:Hp):C_R16_SameParts [p0,p1] H=F_R16_SameParts p0 p1 H:=(callw_cxm (C:=cfg) (fn:=Tryz.f9) (c:=bodyOf Tryz.f9) (n:=26) [3,5,6,8] Tryz.func9 (by kernel_rfl) (by kernel_rfl) [p0,p1] (by kernel_rfl) H).trans (by kernel_rfl)

noncomputable def template_Print_J1 (x3:AV) (H0 H:Hp):Res:=CXL cfg (callw cfg) (LPL cfg (cfg.keep 11) 77) (cfg.keep 11) 77 seqL blockL (sub (bodyOf Tryz.f11) [1,1,1]) (retL cfg 77 11 Tryz.f11 H0) [(3,x3)] H
noncomputable def template_Print_K1 (H0:Hp):KL:=seqL (fun k al H=>CXL cfg (callw cfg) (LPL cfg (cfg.keep 11) 77) (cfg.keep 11) 77 seqL blockL (sub (bodyOf Tryz.f11) [1,1,1]) k (trimL (cfg.keep 11) (sub (bodyOf Tryz.f11) [1,1,1]) al) H) (retL cfg 77 11 Tryz.f11 H0)
theorem template_Print_K1_tame (H0:Hp):Tame 77 (template_Print_K1 H0):=tame_seq (C:=cfg) (kp:=cfg.keep 11) (sub (bodyOf Tryz.f11) [1,1,1]) (tame_ret 11 Tryz.f11 H0)
noncomputable def template_Print_J3 (x3 x8 x9 x10:AV) (H0 H:Hp):Res:=CXL cfg (callw cfg) (LPL cfg (cfg.keep 11) 77) (cfg.keep 11) 77 seqL blockL (sub (bodyOf Tryz.f11) [1,1,0,1,0,0,1,1,1]) (seqL (fun k al H=>LPL cfg (cfg.keep 11) 77 (sub (bodyOf Tryz.f11) [1,1,0,1,0,0]) k (trimL (cfg.keep 11) (sub (bodyOf Tryz.f11) [1,1,0,1,0,0]) al) H) (blockL 0 (template_Print_K1 H0))) [(3,x3),(8,x8),(9,x9),(10,x10)] H
noncomputable def template_Print_K2 (H0:Hp):KL:=seqL (fun k al H=>CXL cfg (callw cfg) (LPL cfg (cfg.keep 11) 77) (cfg.keep 11) 77 seqL blockL (sub (bodyOf Tryz.f11) [1,1,0,1,0,0,1,1,1]) k (trimL (cfg.keep 11) (sub (bodyOf Tryz.f11) [1,1,0,1,0,0,1,1,1]) al) H) (seqL (fun k al H=>LPL cfg (cfg.keep 11) 77 (sub (bodyOf Tryz.f11) [1,1,0,1,0,0]) k (trimL (cfg.keep 11) (sub (bodyOf Tryz.f11) [1,1,0,1,0,0]) al) H) (blockL 0 (template_Print_K1 H0)))
theorem template_Print_K2_tame (H0:Hp):Tame 77 (template_Print_K2 H0):=tame_seq (C:=cfg) (kp:=cfg.keep 11) (sub (bodyOf Tryz.f11) [1,1,0,1,0,0,1,1,1]) (tame_loop (C:=cfg) (kp:=cfg.keep 11) (sub (bodyOf Tryz.f11) [1,1,0,1,0,0]) (tame_block 0 (template_Print_K1_tame H0)))
noncomputable def template_Print_J5 (x3 x5 x8 x9 x10 x52 x53:AV) (H0 H:Hp):Res:=CXL cfg (callw cfg) (LPL cfg (cfg.keep 11) 77) (cfg.keep 11) 77 seqL blockL (sub (bodyOf Tryz.f11) [1,1,0,1,0,0,1,1,0,0,1,0,1,1,1,1,1,0,1,0,0,1,1,1]) (seqL (fun k al H=>LPL cfg (cfg.keep 11) 77 (sub (bodyOf Tryz.f11) [1,1,0,1,0,0,1,1,0,0,1,0,1,1,1,1,1,0,1,0,0]) k (trimL (cfg.keep 11) (sub (bodyOf Tryz.f11) [1,1,0,1,0,0,1,1,0,0,1,0,1,1,1,1,1,0,1,0,0]) al) H) (blockL 3 (blockL 2 (blockL 1 (template_Print_K2 H0))))) [(3,x3),(5,x5),(8,x8),(9,x9),(10,x10),(52,x52),(53,x53)] H
noncomputable def template_Print_J4 (x3 x5 x8 x9 x10 x52 x53 x54:AV) (H0 H:Hp):Res:=CXL cfg (callw cfg) (LPL cfg (cfg.keep 11) 77) (cfg.keep 11) 77 seqL blockL (sub (bodyOf Tryz.f11) [1,1,0,1,0,0,1,1,0,0,1,0,1,1,1,1,1,0,1,0,0,1,1]) (seqL (fun k al H=>LPL cfg (cfg.keep 11) 77 (sub (bodyOf Tryz.f11) [1,1,0,1,0,0,1,1,0,0,1,0,1,1,1,1,1,0,1,0,0]) k (trimL (cfg.keep 11) (sub (bodyOf Tryz.f11) [1,1,0,1,0,0,1,1,0,0,1,0,1,1,1,1,1,0,1,0,0]) al) H) (blockL 3 (blockL 2 (blockL 1 (template_Print_K2 H0))))) [(3,x3),(5,x5),(8,x8),(9,x9),(10,x10),(52,x52),(53,x53),(54,x54)] H
noncomputable def template_Print_L2 (x3 x5 x8 x9 x10 x52 x53:AV) (H0 H:Hp):Res:=LPL cfg (cfg.keep 11) 77 (sub (bodyOf Tryz.f11) [1,1,0,1,0,0,1,1,0,0,1,0,1,1,1,1,1,0,1,0,0]) (blockL 3 (blockL 2 (blockL 1 (template_Print_K2 H0)))) [(3,x3),(5,x5),(8,x8),(9,x9),(10,x10),(52,x52),(53,x53)] H
noncomputable def template_Print_J2 (x3 x8 x9 x10 x11:AV) (H0 H:Hp):Res:=CXL cfg (callw cfg) (LPL cfg (cfg.keep 11) 77) (cfg.keep 11) 77 seqL blockL (sub (bodyOf Tryz.f11) [1,1,0,1,0,0,1,1]) (seqL (fun k al H=>LPL cfg (cfg.keep 11) 77 (sub (bodyOf Tryz.f11) [1,1,0,1,0,0]) k (trimL (cfg.keep 11) (sub (bodyOf Tryz.f11) [1,1,0,1,0,0]) al) H) (blockL 0 (template_Print_K1 H0))) [(3,x3),(8,x8),(9,x9),(10,x10),(11,x11)] H
noncomputable def template_Print_L1 (x3 x8 x9 x10:AV) (H0 H:Hp):Res:=LPL cfg (cfg.keep 11) 77 (sub (bodyOf Tryz.f11) [1,1,0,1,0,0]) (blockL 0 (template_Print_K1 H0)) [(3,x3),(8,x8),(9,x9),(10,x10)] H
noncomputable def F_template_Print (p0:AV) (H:Hp):Res:=
 bnd (some ((.ptr H.length 0),H++[.bld 66 5 []])) fun r3=>
 bnd (alenD (.slice 56) p0) fun t9=>
 template_Print_L1 r3.1 p0 t9 (.int .i64 0) H r3.2
theorem template_Print_J1_eq (x3:AV) (H0 H:Hp):template_Print_J1 x3 H0 H =
    bnd (stringE.run [x3] H) fun r76=>
    some (r76.1,r76.2):=(CXM_eq [4,12,21,22,23] _ _ _ _).trans (by kernel_rfl)
theorem template_Print_J3_eq (x3 x8 x9 x10:AV) (H0 H:Hp):template_Print_J3 x3 x8 x9 x10 H0 H =
    bnd (ibin .add x10 (.int .i64 1)) fun t75=>
    template_Print_L1 x3 x8 x9 t75 H0 H:=(CXM_eq [4,12,21,22,23] _ _ _ _).trans (by kernel_rfl)
theorem template_Print_J5_eq (x3 x5 x8 x9 x10 x52 x53:AV) (H0 H:Hp):template_Print_J5 x3 x5 x8 x9 x10 x52 x53 H0 H =
    bnd (ibin .add x53 (.int .i64 1)) fun t74=>
    template_Print_L2 x3 x5 x8 x9 x10 x52 t74 H0 H:=(CXM_eq [4,12,21,22,23] _ _ _ _).trans (by kernel_rfl)
theorem template_Print_J4_eq (x3 x5 x8 x9 x10 x52 x53 x54:AV) (H0 H:Hp):template_Print_J4 x3 x5 x8 x9 x10 x52 x53 x54 H0 H =
    bnd (afield 2 x5) fun t56=>
    bnd (aload false 1 t56 H) fun t57=>
    bnd (aindexStr t57 x53) fun t59=>
    bnd (ibin .eql t59 (.int .u8 38)) fun t64=>
    cnd t64
     (cnd t64
      (bnd ((setElems 1 [(0,t59)] [(.int .u8 0)]).map (.vs 1 .clip)) fun t67=>
      bnd (cvRd t67 H) fun t68=>
      bnd (sbin .add (.str [92]) t68) fun t69=>
      bnd (textE.run [x3,t69] H) fun r70=>
      template_Print_J5 x3 x5 x8 x9 x10 x52 x53 H0 r70.2)
      (bnd (ibin .eql t59 (.int .u8 10)) fun t72=>
      cnd t72
       (bnd (textE.run [x3,(.str [92,110])] H) fun r73=>
       template_Print_J5 x3 x5 x8 x9 x10 x52 x53 H0 r73.2)
       (bnd (byteE.run [x3,t59] H) fun r62=>
       template_Print_J5 x3 x5 x8 x9 x10 x52 x53 H0 r62.2)))
     (bnd (ibin .eql t59 (.int .u8 92)) fun t65=>
     cnd t65
      (bnd ((setElems 1 [(0,t59)] [(.int .u8 0)]).map (.vs 1 .clip)) fun t67=>
      bnd (cvRd t67 H) fun t68=>
      bnd (sbin .add (.str [92]) t68) fun t69=>
      bnd (textE.run [x3,t69] H) fun r70=>
      template_Print_J5 x3 x5 x8 x9 x10 x52 x53 H0 r70.2)
      (bnd (ibin .eql t59 (.int .u8 10)) fun t72=>
      cnd t72
       (bnd (textE.run [x3,(.str [92,110])] H) fun r73=>
       template_Print_J5 x3 x5 x8 x9 x10 x52 x53 H0 r73.2)
       (bnd (byteE.run [x3,t59] H) fun r62=>
       template_Print_J5 x3 x5 x8 x9 x10 x52 x53 H0 r62.2))):=(CXM_eq [4,12,21,22,23] _ _ _ _).trans (by kernel_rfl)
theorem template_Print_L2_eq (x3 x5 x8 x9 x10 x52 x53:AV) (H0 H:Hp):template_Print_L2 x3 x5 x8 x9 x10 x52 x53 H0 H =
    bnd (ibin .lss x53 x52) fun t54=>
    cnd t54
     (template_Print_J4 x3 x5 x8 x9 x10 x52 x53 t54 H0 H)
     (template_Print_J3 x3 x8 x9 x10 H0 H):=(LPL_eqm (C:=cfg) [4,12,21,22,23] (tame_block 3 (tame_block 2 (tame_block 1 (template_Print_K2_tame H0)))) _ _).trans (by kernel_rfl)
theorem template_Print_J2_eq (x3 x8 x9 x10 x11:AV) (H0 H:Hp):template_Print_J2 x3 x8 x9 x10 x11 H0 H =
    bnd (aindexS 3 x8 x10) fun t12=>
    bnd (aload true 3 t12 H) fun t13=>
    bnd (some ((.ptr H.length 0),H++[.cells [(.int .i64 0),(.int .i64 0),(.str [])]])) fun r5=>
    bnd (astoreU 3 r5.1 t13 r5.2) fun r_9=>
    bnd (afield 0 r5.1) fun t15=>
    bnd (aload false 1 t15 r_9.2) fun t16=>
    bnd (ibin .eql t16 (.int .i64 2)) fun t17=>
    bnd (gdv t17 true (.tuple []) (afield 1 r5.1)) fun t19=>
    bnd (gdv t17 true (.tuple []) (aload false 1 t19 r_9.2)) fun t20=>
    bnd (gdv t17 true (.tuple []) (ibin .eql t20 (.int .i64 0))) fun t21=>
    bnd (apick t17 t21 (.bool false)) fun t22=>
    cnd t22
     (bnd (byteE.run [x3,(.int .u8 38)] r_9.2) fun r23=>
     template_Print_J3 x3 x8 x9 x10 H0 r23.2)
     (bnd (afield 0 r5.1) fun t25=>
     bnd (aload false 1 t25 r_9.2) fun t26=>
     bnd (ibin .eql t26 (.int .i64 2)) fun t27=>
     bnd (gdv t27 true (.tuple []) (afield 1 r5.1)) fun t29=>
     bnd (gdv t27 true (.tuple []) (aload false 1 t29 r_9.2)) fun t30=>
     bnd (gdv t27 true (.tuple []) (ibin .geq t30 (.int .i64 1))) fun t31=>
     bnd (apick t27 t31 (.bool false)) fun t32=>
     bnd (gdv t32 true (.tuple []) (afield 1 r5.1)) fun t34=>
     bnd (gdv t32 true (.tuple []) (aload false 1 t34 r_9.2)) fun t35=>
     bnd (gdv t32 true (.tuple []) (ibin .leq t35 (.int .i64 9))) fun t36=>
     bnd (apick t32 t36 (.bool false)) fun t37=>
     cnd t37
      (bnd (afield 1 r5.1) fun t38=>
      bnd (aload false 1 t38 r_9.2) fun t39=>
      bnd (ibin .add (.int .i64 48) t39) fun t40=>
      bnd (cvInt .u8 t40) fun t41=>
      bnd ((setElems 1 [(0,t41)] [(.int .u8 0)]).map (.vs 1 .clip)) fun t42=>
      bnd (cvRd t42 r_9.2) fun t43=>
      bnd (sbin .add (.str [92]) t43) fun t44=>
      bnd (textE.run [x3,t44] r_9.2) fun r45=>
      template_Print_J3 x3 x8 x9 x10 H0 r45.2)
      (bnd (afield 0 r5.1) fun t47=>
      bnd (aload false 1 t47 r_9.2) fun t48=>
      bnd (ibin .eql t48 (.int .i64 1)) fun t49=>
      cnd t49
       (bnd (afield 2 r5.1) fun t50=>
       bnd (aload false 1 t50 r_9.2) fun t51=>
       bnd (alenD .string t51) fun t52=>
       template_Print_L2 x3 r5.1 x8 x9 x10 t52 (.int .i64 0) H0 r_9.2)
       (template_Print_J3 x3 x8 x9 x10 H0 r_9.2))):=(CXM_eq [4,12,21,22,23] _ _ _ _).trans (by kernel_rfl)
theorem template_Print_L1_eq (x3 x8 x9 x10:AV) (H0 H:Hp):template_Print_L1 x3 x8 x9 x10 H0 H =
    bnd (ibin .lss x10 x9) fun t11=>
    cnd t11
     (template_Print_J2 x3 x8 x9 x10 t11 H0 H)
     (template_Print_J1 x3 H0 H):=(LPL_eqm (C:=cfg) [4,12,21,22,23] (tame_block 0 (template_Print_K1_tame H0)) _ _).trans (by kernel_rfl)
theorem F_template_Print_eq (p0:AV) (H:Hp):C_template_Print [p0] H=F_template_Print p0 H:=(callw_cxm (C:=cfg) (fn:=Tryz.f11) (c:=bodyOf Tryz.f11) (n:=77) [4,12,21,22,23] Tryz.func11 (by kernel_rfl) (by kernel_rfl) [p0] (by kernel_rfl) H).trans (by kernel_rfl)

noncomputable def R16_Normal_J1 (H0 H:Hp):Res:=CXL cfg (callw cfg) (LPL cfg (cfg.keep 18) 87) (cfg.keep 18) 87 seqL blockL (sub (bodyOf Tryz.f18) [1,1]) (retL cfg 87 18 Tryz.f18 H0) [] H
noncomputable def R16_Normal_K1 (H0:Hp):KL:=seqL (fun k al H=>CXL cfg (callw cfg) (LPL cfg (cfg.keep 18) 87) (cfg.keep 18) 87 seqL blockL (sub (bodyOf Tryz.f18) [1,1]) k (trimL (cfg.keep 18) (sub (bodyOf Tryz.f18) [1,1]) al) H) (retL cfg 87 18 Tryz.f18 H0)
theorem R16_Normal_K1_tame (H0:Hp):Tame 87 (R16_Normal_K1 H0):=tame_seq (C:=cfg) (kp:=cfg.keep 18) (sub (bodyOf Tryz.f18) [1,1]) (tame_ret 18 Tryz.f18 H0)
noncomputable def R16_Normal_J3 (x0 x3:AV) (H0 H:Hp):Res:=CXL cfg (callw cfg) (LPL cfg (cfg.keep 18) 87) (cfg.keep 18) 87 seqL blockL (sub (bodyOf Tryz.f18) [1,0,1,0,0,1,1]) (seqL (fun k al H=>LPL cfg (cfg.keep 18) 87 (sub (bodyOf Tryz.f18) [1,0,1,0,0]) k (trimL (cfg.keep 18) (sub (bodyOf Tryz.f18) [1,0,1,0,0]) al) H) (blockL 0 (R16_Normal_K1 H0))) [(0,x0),(3,x3)] H
noncomputable def R16_Normal_J2 (x0 x3:AV) (H0 H:Hp):Res:=CXL cfg (callw cfg) (LPL cfg (cfg.keep 18) 87) (cfg.keep 18) 87 seqL blockL (sub (bodyOf Tryz.f18) [1,0,1,0,0,1]) (seqL (fun k al H=>LPL cfg (cfg.keep 18) 87 (sub (bodyOf Tryz.f18) [1,0,1,0,0]) k (trimL (cfg.keep 18) (sub (bodyOf Tryz.f18) [1,0,1,0,0]) al) H) (blockL 0 (R16_Normal_K1 H0))) [(0,x0),(3,x3)] H
noncomputable def R16_Normal_L1 (x0 x3:AV) (H0 H:Hp):Res:=LPL cfg (cfg.keep 18) 87 (sub (bodyOf Tryz.f18) [1,0,1,0,0]) (blockL 0 (R16_Normal_K1 H0)) [(0,x0),(3,x3)] H
noncomputable def F_R16_Normal (p0:AV) (H:Hp):Res:=
 R16_Normal_L1 p0 (.int .i64 0) H H
theorem R16_Normal_J1_eq (H0 H:Hp):R16_Normal_J1 H0 H =
    some ((.bool true),H):=(CXM_eq [3,4,8] _ _ _ _).trans (by kernel_rfl)
theorem R16_Normal_J3_eq (x0 x3:AV) (H0 H:Hp):R16_Normal_J3 x0 x3 H0 H =
    bnd (ibin .add x3 (.int .i64 1)) fun t11=>
    R16_Normal_L1 x0 t11 H0 H:=(CXM_eq [3,4,8] _ _ _ _).trans (by kernel_rfl)
theorem R16_Normal_J2_eq (x0 x3:AV) (H0 H:Hp):R16_Normal_J2 x0 x3 H0 H =
    bnd (aindexS 3 x0 x3) fun t14=>
    bnd (afield 0 t14) fun t15=>
    bnd (aload false 1 t15 H) fun t16=>
    bnd (ibin .eql t16 (.int .i64 1)) fun t17=>
    bnd (gdv t17 true (.tuple []) (some x0)) fun t19=>
    bnd (gdv t17 true (.tuple []) (some x3)) fun t20=>
    bnd (gdv t17 true (.tuple []) (aindexS 3 t19 t20)) fun t21=>
    bnd (gdv t17 true (.tuple []) (afield 2 t21)) fun t22=>
    bnd (gdv t17 true (.tuple []) (aload false 1 t22 H)) fun t23=>
    bnd (gdv t17 true (.tuple []) (alenD .string t23)) fun t24=>
    bnd (gdv t17 true (.tuple []) (ibin .gtr t24 (.int .i64 0))) fun t25=>
    bnd (apick t17 t25 (.bool false)) fun t26=>
    bnd (gdv t26 true (.tuple []) (some x0)) fun t28=>
    bnd (gdv t26 true (.tuple []) (some x3)) fun t29=>
    bnd (gdv t26 true (.tuple []) (aindexS 3 t28 t29)) fun t30=>
    bnd (gdv t26 true (.tuple []) (afield 1 t30)) fun t31=>
    bnd (gdv t26 true (.tuple []) (aload false 1 t31 H)) fun t32=>
    bnd (gdv t26 true (.tuple []) (ibin .eql t32 (.int .i64 0))) fun t33=>
    bnd (apick t26 t33 (.bool false)) fun t34=>
    bnd (aindexS 3 x0 x3) fun t37=>
    bnd (afield 0 t37) fun t38=>
    bnd (aload false 1 t38 H) fun t39=>
    bnd (ibin .eql t39 (.int .i64 2)) fun t40=>
    bnd (gdv t40 true (.tuple []) (some x0)) fun t42=>
    bnd (gdv t40 true (.tuple []) (some x3)) fun t43=>
    bnd (gdv t40 true (.tuple []) (aindexS 3 t42 t43)) fun t44=>
    bnd (gdv t40 true (.tuple []) (afield 2 t44)) fun t45=>
    bnd (gdv t40 true (.tuple []) (aload false 1 t45 H)) fun t46=>
    bnd (gdv t40 true (.tuple []) (sbin .eql t46 (.str []))) fun t47=>
    bnd (apick t40 t47 (.bool false)) fun t48=>
    bnd (gdv t48 true (.tuple []) (some x0)) fun t50=>
    bnd (gdv t48 true (.tuple []) (some x3)) fun t51=>
    bnd (gdv t48 true (.tuple []) (aindexS 3 t50 t51)) fun t52=>
    bnd (gdv t48 true (.tuple []) (afield 1 t52)) fun t53=>
    bnd (gdv t48 true (.tuple []) (aload false 1 t53 H)) fun t54=>
    bnd (gdv t48 true (.tuple []) (ibin .geq t54 (.int .i64 0))) fun t55=>
    bnd (apick t48 t55 (.bool false)) fun t56=>
    bnd (gdv t56 true (.tuple []) (some x0)) fun t58=>
    bnd (gdv t56 true (.tuple []) (some x3)) fun t59=>
    bnd (gdv t56 true (.tuple []) (aindexS 3 t58 t59)) fun t60=>
    bnd (gdv t56 true (.tuple []) (afield 1 t60)) fun t61=>
    bnd (gdv t56 true (.tuple []) (aload false 1 t61 H)) fun t62=>
    bnd (gdv t56 true (.tuple []) (ibin .leq t62 (.int .i64 9))) fun t63=>
    bnd (apick t56 t63 (.bool false)) fun t64=>
    bnd (aun .not t34) fun t66=>
    bnd (gdv t66 true (.tuple []) (some t64)) fun t68=>
    bnd (gdv t66 true (.tuple []) (aun .not t68)) fun t69=>
    bnd (apick t66 t69 (.bool false)) fun t70=>
    bnd (gdv t70 false (.tuple []) (some t34)) fun t72=>
    bnd (gdv t70 false (.tuple []) (some t72)) fun t73=>
    bnd (gdv t73 true (.tuple []) (some x3)) fun t74=>
    bnd (gdv t73 true (.tuple []) (ibin .gtr t74 (.int .i64 0))) fun t75=>
    bnd (gdv t70 false (.tuple []) (apick t73 t75 (.bool false))) fun t76=>
    bnd (gdv t70 false (.tuple []) (some t76)) fun t77=>
    bnd (gdv t77 true (.tuple []) (some x0)) fun t78=>
    bnd (gdv t77 true (.tuple []) (some x3)) fun t79=>
    bnd (gdv t77 true (.tuple []) (ibin .sub t79 (.int .i64 1))) fun t80=>
    bnd (gdv t77 true (.tuple []) (aindexS 3 t78 t80)) fun t81=>
    bnd (gdv t77 true (.tuple []) (afield 0 t81)) fun t82=>
    bnd (gdv t77 true (.tuple []) (aload false 1 t82 H)) fun t83=>
    bnd (gdv t77 true (.tuple []) (ibin .eql t83 (.int .i64 1))) fun t84=>
    bnd (gdv t70 false (.tuple []) (apick t77 t84 (.bool false))) fun t85=>
    bnd (apick t70 (.bool true) t85) fun t86=>
    cnd t86
     (some ((.bool false),H))
     (R16_Normal_J3 x0 x3 H0 H):=(CXM_eq [3,4,8] _ _ _ _).trans (by kernel_rfl)
theorem R16_Normal_L1_eq (x0 x3:AV) (H0 H:Hp):R16_Normal_L1 x0 x3 H0 H =
    bnd (alenD (.slice 56) x0) fun t8=>
    bnd (ibin .lss x3 t8) fun t9=>
    cnd t9
     (R16_Normal_J2 x0 x3 H0 H)
     (R16_Normal_J1 H0 H):=(LPL_eqm (C:=cfg) [3,4,8] (tame_block 0 (R16_Normal_K1_tame H0)) _ _).trans (by kernel_rfl)
theorem F_R16_Normal_eq (p0:AV) (H:Hp):C_R16_Normal [p0] H=F_R16_Normal p0 H:=(callw_cxm (C:=cfg) (fn:=Tryz.f18) (c:=bodyOf Tryz.f18) (n:=87) [3,4,8] Tryz.func18 (by kernel_rfl) (by kernel_rfl) [p0] (by kernel_rfl) H).trans (by kernel_rfl)

noncomputable def template_Parse_1_J1 (x0 x1:AV) (H0 H:Hp):Res:=CXL cfg (callw cfg) (LPL cfg (cfg.keep 19) 36) (cfg.keep 19) 36 seqL blockL (sub (bodyOf Tryz.f19) [1]) (retL cfg 36 19 Tryz.f19 H0) [(0,x0),(1,x1)] H
noncomputable def F_template_Parse_1 (p0 p1:AV) (H:Hp):Res:=
 bnd (aload false 1 p1 H) fun t4=>
 bnd (alenD (.slice 56) t4) fun t5=>
 bnd (ibin .gtr t5 (.int .i64 0)) fun t7=>
 bnd (gdv t7 true (.tuple []) (aload false 1 p1 H)) fun t9=>
 bnd (gdv t7 true (.tuple []) (some t5)) fun t10=>
 bnd (gdv t7 true (.tuple []) (ibin .sub t10 (.int .i64 1))) fun t11=>
 bnd (gdv t7 true (.tuple []) (aindexS 3 t9 t11)) fun t12=>
 bnd (gdv t7 true (.tuple []) (afield 0 t12)) fun t13=>
 bnd (gdv t7 true (.tuple []) (aload false 1 t13 H)) fun t14=>
 bnd (gdv t7 true (.tuple []) (ibin .eql t14 (.int .i64 1))) fun t15=>
 bnd (apick t7 t15 (.bool false)) fun t16=>
 cnd t16
  (bnd (aload false 1 p1 H) fun t17=>
  bnd (ibin .sub t5 (.int .i64 1)) fun t19=>
  bnd (aindexS 3 t17 t19) fun t20=>
  bnd (afield 2 t20) fun t21=>
  bnd (aload false 1 t21 H) fun t22=>
  bnd ((setElems 1 [(0,p0)] [(.int .u8 0)]).map (.vs 1 .clip)) fun t24=>
  bnd (cvRd t24 H) fun t25=>
  bnd (sbin .add t22 t25) fun t26=>
  bnd (aindexS 3 t17 t19) fun t27=>
  bnd (afield 2 t27) fun t28=>
  bnd (astoreU 1 t28 t26 H) fun r_29=>
  some ((.tuple []),r_29.2))
  (template_Parse_1_J1 p0 p1 H H)
theorem template_Parse_1_J1_eq (x0 x1:AV) (H0 H:Hp):template_Parse_1_J1 x0 x1 H0 H =
    bnd (aload false 1 x1 H) fun t29=>
    bnd ((setElems 1 [(0,x0)] [(.int .u8 0)]).map (.vs 1 .clip)) fun t31=>
    bnd (cvRd t31 H) fun t32=>
    bnd ((afill [(0,1,(.int .i64 1)),(2,1,t32)] [(.int .i64 0),(.int .i64 0),(.str [])]).map .agg) fun t33=>
    bnd ((setElems 3 [(0,t33)] [(.agg [(.int .i64 0),(.int .i64 0),(.str [])])]).map (.vs 3 .clip)) fun t34=>
    bnd (aappEL true 3 32 t29 t34 H) fun r35=>
    bnd (astoreU 1 x1 r35.1 r35.2) fun r_7=>
    some ((.tuple []),r_7.2):=(CXM_eq [3] _ _ _ _).trans (by kernel_rfl)
theorem F_template_Parse_1_eq (p0 p1:AV) (H:Hp):C_template_Parse_1 [p0,p1] H=F_template_Parse_1 p0 p1 H:=(callw_cxm (C:=cfg) (fn:=Tryz.f19) (c:=bodyOf Tryz.f19) (n:=36) [3] Tryz.func19 (by kernel_rfl) (by kernel_rfl) [p0,p1] (by kernel_rfl) H).trans (by kernel_rfl)

theorem V_template_Parse_1 (a b args:List AV) (H:Hp):acall cfg (callw cfg) (.fn (.func 19) a b) args H=C_template_Parse_1 (a++args++b) H:=by kernel_rfl
theorem user_ok:∀ f ∈ userList,UserOk Tryz.prog f:=
 userOk_cons Tryz.call3 (
 userOk_cons Tryz.call4 (
 userOk_cons Tryz.call5 (
 userOk_cons Tryz.call6 (
 userOk_cons Tryz.call7 (
 userOk_cons Tryz.call8 (
 userOk_cons Tryz.call9 (
 userOk_cons Tryz.call10 (
 userOk_cons Tryz.call11 (
 userOk_cons Tryz.call12 (
 userOk_cons Tryz.call13 (
 userOk_cons Tryz.call14 (
 userOk_cons Tryz.call15 (
 userOk_cons Tryz.call16 (
 userOk_cons Tryz.call17 (
 userOk_cons Tryz.call18 (
 userOk_cons Tryz.call19 (
 userOk_cons Tryz.call20 (
 userOk_cons Tryz.call21 (
 userOk_cons Tryz.call22 (
 userOk_cons Tryz.call23 (
 userOk_cons Tryz.call24 (
 userOk_cons Tryz.call25 (
 userOk_cons Tryz.call26 (
 userOk_cons Tryz.call27 (
 userOk_cons Tryz.call28 (
 userOk_cons Tryz.call29 (
 userOk_cons Tryz.call30 (
 userOk_cons Tryz.call31 (
 userOk_cons Tryz.call32 (
 userOk_cons Tryz.call33 (
 userOk_cons Tryz.call34 (
 userOk_cons Tryz.call35 (
 userOk_cons Tryz.call36 (
 userOk_cons Tryz.call37 (
 userOk_cons Tryz.call38 (
 userOk_cons Tryz.call40 (
 userOk_cons Tryz.call41 (
 userOk_cons Tryz.call42 (
 userOk_cons Tryz.call43 (
 userOk_cons Tryz.call44 (
 userOk_cons Tryz.call45 (
 userOk_cons Tryz.call46 (
 userOk_cons Tryz.call47 (
 userOk_cons Tryz.call48 (
 userOk_cons Tryz.call49 (
 userOk_cons Tryz.call50 (
 userOk_cons Tryz.call51 (
 userOk_cons Tryz.call52 (
 userOk_cons Tryz.call53 (
 userOk_cons Tryz.call54 (
 userOk_cons Tryz.call55 (
 userOk_cons Tryz.call56 (
 userOk_cons Tryz.call57 (
 userOk_cons Tryz.call58 (
 userOk_cons Tryz.call59 (
 userOk_cons Tryz.call60 (
 userOk_cons Tryz.call61 (
 userOk_cons Tryz.call62 (
 userOk_cons Tryz.call63 (
 userOk_cons Tryz.call64 (
 userOk_cons Tryz.call65 (
 userOk_cons Tryz.call66 (
 userOk_cons Tryz.call67 (
 userOk_cons Tryz.call68 (
 userOk_cons Tryz.call69 (
 userOk_cons Tryz.call70 (
 userOk_cons Tryz.call71 (
 userOk_cons Tryz.call72 (
 userOk_cons Tryz.call73 (
 userOk_cons Tryz.call74 (
 userOk_cons Tryz.call75 (
 userOk_cons Tryz.call76 (
 userOk_cons Tryz.call77 (
 userOk_cons Tryz.call78 (
 userOk_cons Tryz.call79 (
 userOk_cons Tryz.call80 (
 userOk_cons Tryz.call81 (
 userOk_cons Tryz.call82 (
 userOk_cons Tryz.call83 (
 userOk_cons Tryz.call84 (
 userOk_cons Tryz.call85 (
 userOk_cons Tryz.call86 (
 userOk_cons Tryz.call87 (
 userOk_cons Tryz.call88 (
 userOk_cons Tryz.call89 (
 userOk_cons Tryz.call90 (
 userOk_cons Tryz.call91 (
 userOk_cons Tryz.call92 (
 userOk_cons Tryz.call93 (
 userOk_cons Tryz.call94 (
 userOk_cons Tryz.call95 (
 userOk_cons Tryz.call96 (
 userOk_cons Tryz.call97 (
 userOk_cons Tryz.call98 (
 userOk_cons Tryz.call99 (
 userOk_cons Tryz.call100 (
 userOk_cons Tryz.call101 (
 userOk_cons Tryz.call102 (
 userOk_cons Tryz.call103 (
 userOk_cons Tryz.call104 (
 userOk_cons Tryz.call105 (
 userOk_cons Tryz.call106 (
 userOk_cons Tryz.call107 (
 userOk_cons Tryz.call108 (
 userOk_cons Tryz.call109 (
 userOk_cons Tryz.call110 (
 userOk_cons Tryz.call111 (
 userOk_cons Tryz.call112 (
 userOk_cons Tryz.call113 (
 userOk_cons Tryz.call114 (
 userOk_cons Tryz.call115 (
 userOk_cons Tryz.call116 (
 userOk_cons Tryz.call117 (
 userOk_cons Tryz.call118 (
 userOk_cons Tryz.call119 (
 userOk_cons Tryz.call120 (
 userOk_cons Tryz.call121 (
 userOk_cons Tryz.call122 (
 userOk_cons Tryz.call123 (
 userOk_cons Tryz.call124 (
 userOk_cons Tryz.call125 (
 userOk_cons Tryz.call126 (
 userOk_cons Tryz.call127 (
 userOk_cons Tryz.call128 (
 userOk_cons Tryz.call129 (
 userOk_cons Tryz.call130 (
 userOk_cons Tryz.call131 (
 userOk_cons Tryz.call132 (
 userOk_cons Tryz.call133 (
 userOk_cons Tryz.call134 (
 userOk_cons Tryz.call135 (
 userOk_cons Tryz.call136 (
 userOk_cons Tryz.call137 (
 userOk_cons Tryz.call138 (
 userOk_cons Tryz.call139 (
 userOk_cons Tryz.call140 (
 userOk_cons Tryz.call141 (
 userOk_cons Tryz.call142 (
 userOk_cons Tryz.call143 (
 userOk_cons Tryz.call144 (
 userOk_cons Tryz.call145 (
 userOk_cons Tryz.call146 (
 userOk_cons Tryz.call147 (
 userOk_cons Tryz.call148 (
 userOk_cons Tryz.call166 (
 userOk_cons Tryz.call167 (
 userOk_cons Tryz.call168 (
 userOk_cons Tryz.call169 (
 userOk_cons Tryz.call170 (
 userOk_cons Tryz.call171 (
 userOk_cons Tryz.call172 (
 userOk_cons Tryz.call173 (
 userOk_cons Tryz.call174 (
 userOk_cons Tryz.call175 (
 userOk_cons Tryz.call176 (
 userOk_cons Tryz.call177 (
 userOk_cons Tryz.call178 (
 userOk_cons Tryz.call179 (
 userOk_cons Tryz.call180 (
 userOk_cons Tryz.call181 (
 userOk_cons Tryz.call182 (
 userOk_cons Tryz.call183 (
 userOk_cons Tryz.call184 (
 userOk_cons Tryz.call185 (
 userOk_cons Tryz.call186 (
 userOk_cons Tryz.call187 (
 userOk_cons Tryz.call188 (
 userOk_cons Tryz.call189 (
 userOk_cons Tryz.call190 (
 userOk_cons Tryz.call191 (
 userOk_cons Tryz.call192 (
 userOk_cons Tryz.call193 (
 userOk_cons Tryz.call194 (
 userOk_cons Tryz.call195 (
 userOk_cons Tryz.call196 (
 userOk_cons Tryz.call197 (
 userOk_cons Tryz.call198 (
 userOk_cons Tryz.call199 (
 userOk_cons Tryz.call200 (
 userOk_cons Tryz.call201 (userOk_nil)))))))))))))))))))))))))))))))))))))))))))))))))))))))))))))))))))))))))))))))))))))))))))))))))))))))))))))))))))))))))))))))))))))))))))))))))))))))))))))))))))))))))))))))))))))
theorem eq_ok:∀ t ∈ eqList,Tryz.prog.stoodInHeld t=false∧Tryz.prog.eqGuardType Tryz.prog.depth t=false:=by
 intro t ht
 simp only [eqList,List.mem_cons,List.not_mem_nil,or_false] at ht
 rcases ht with rfl | rfl | rfl
 ·exact ⟨by kernel_rfl,Tryz.eqGuardType36⟩
 ·exact ⟨Tryz.stoodInHeld38,Tryz.eqGuardType38⟩
 ·exact ⟨Tryz.stoodInHeld56,Tryz.eqGuardType56⟩
theorem ext39_ok (args:Array Value) (w:World):(callFunc 39 args).run Tryz.prog w=(do pure (.value (← extF .same args)):Sem Next).run Tryz.prog w:=by kernel_rfl
theorem ext_ok:∀ f e,cfg.ext f=some e→∀ (args:Array Value) (w:World),(callFunc f args).run Tryz.prog w=(do pure (.value (← extF e args)):Sem Next).run Tryz.prog w:=by
 intro f e h
 have h2:=lookup_mem (l:=extList) h
 simp only [extList,List.mem_cons,Prod.mk.injEq,List.not_mem_nil,or_false] at h2
 rcases h2 with ⟨rfl,rfl⟩
 ·exact ext39_ok
theorem sum_ok:∀ f g,cfg.sum f=some g→cfg.user f=true∧SumOk cfg f g:=by
 intro f g h
 cases (show (none:Option (List AV→Option AV))=some g from h)
theorem eff_ok:∀ f g,cfg.eff f=some g→cfg.user f=true∧EffOk cfg f g:=by
 intro f g h
 have h2:=lookup_mem (l:=effList) h
 simp only [effList,List.mem_cons,Prod.mk.injEq,List.not_mem_nil,or_false] at h2
 rcases h2 with ⟨rfl,rfl⟩ | ⟨rfl,rfl⟩ | ⟨rfl,rfl⟩ | ⟨rfl,rfl⟩
 ·exact ⟨by kernel_rfl,byteE_ok (C:=cfg) rfl (fun _=>rfl)⟩
 ·exact ⟨by kernel_rfl,textE_ok (C:=cfg) rfl (fun _=>rfl)⟩
 ·exact ⟨by kernel_rfl,stringE_ok (C:=cfg) rfl (fun _=>rfl)⟩
 ·exact ⟨by kernel_rfl,lenE_ok (C:=cfg) rfl (fun _=>rfl)⟩
theorem cfg_ok:okCfg cfg:=
 ⟨fun t h=>eq_ok t (List.contains_iff_mem.1 h),fun f h=>user_ok f (List.contains_iff_mem.1 h),by kernel_rfl,ext_ok,sum_ok,eff_ok⟩
end Go.Am
