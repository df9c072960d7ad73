/-
  The functions of the translation over the abstract machine: written by program (wip/gen.py).
-/
import Derived.Test.YtcllemkfpjaooaaGreatProg
import Derived.Test.YtcllemkfpjaooaaGreatPtPx
namespace Go.Am
open Go.Proofs
set_option maxRecDepth 100000
set_option linter.unusedVariables false
set_option linter.unusedSimpArgs false

def keepList:List (Nat × List (Nat × List Nat)):=[(4,[(1000001,[5])]),
 (5,[(3,[0,1]),(6,[0,1,5,6,8,9,10]),(7,[0,1,5,6,8,9,10]),(8,[0,1,5,6,8,9,10]),(9,[0,1,5,6,8,9]),(10,[0,1,5,6,8,9,11]),(11,[0,1,5,6,8,9,11]),(12,[0,1,5,6,8,9,11]),(13,[0,1,5,6,8,9]),(16,[0,1,12,13,14]),(18,[0,1,12,13,14])]),
 (6,[(6,[0]),(8,[0])]),
 (7,[(4,[0,1,7,8,9]),(5,[0,1,7,8,9]),(6,[0,1,7,8,9]),(9,[0,1,7,8,9,10]),(11,[0,1,7,8,9]),(13,[0,1,7,8,9]),(19,[0,1,7,8,9,12]),(24,[0,1,7,8,9]),(25,[7])]),
 (8,[(3,[0,1,7,8]),(4,[0,1,7,8]),(5,[0,1,7,8]),(8,[0,1,7,8,9]),(10,[0,1,7,8]),(12,[0,1,7,8]),(17,[0,1,7,8,10]),(22,[0,1,7,8]),(23,[7])]),
 (9,[(3,[0,1]),(4,[0,1,5]),(5,[0,1,5]),(6,[0,1,5]),(8,[])]),
 (10,[(5,[1])]),
 (11,[(3,[3,8,9,10]),(4,[3,8,9,10,11]),(11,[3,5,8,9,10,52,53]),(12,[3,5,8,9,10,52,53,54]),(21,[3,5,8,9,10,52,53]),(22,[3,8,9,10]),(23,[3])]),
 (12,[(3,[0,3,4]),(4,[0,3,4]),(5,[0,3,4]),(11,[3])]),
 (13,[(3,[1,5,7,11,12,13]),(4,[1,5,7,11,12,13,14]),(7,[1,5,7,9,11,12,13]),(8,[1,5,7,9,11,12,13]),(11,[1,5,7,11,12,13]),(12,[7])]),
 (14,[(3,[0,1,5,7,8]),(4,[0,1,5,7,8]),(5,[0,1,5,7,8]),(8,[0,1,5,7,8,9]),(9,[0,1,5,7,8,9]),(12,[7])]),
 (15,[(4,[0,1,6,9]),(7,[6,12]),(1000004,[9]),(1000005,[9])]),
 (16,[(4,[0,1,2,3,4]),(5,[0,1,2,3,4]),(6,[0,1,2,3,4]),(9,[0,1,2,3,4,5,6]),(11,[0,1,2,3,4,5,6]),(14,[0,1,2,3])]),
 (17,[(3,[1,2,3,4,5]),(6,[1,2,3,4,13]),(9,[1,2,3,4,15,16,17,31,32,33]),(10,[1,2,3,4,15,16,17,31,32,33,34]),(12,[1,2,3,4,15,16,17,19,31,32,33]),(18,[1,2,3,4,15,16,17,31,32,33]),(19,[2,15,16,17]),(22,[15,17])]),
 (18,[(2,[0,3]),(3,[0,3]),(4,[0,3]),(8,[])]),
 (19,[(3,[0,1])]),
 (20,[(8,[0,1])]),
 (24,[(3,[0,3,4]),(4,[0,3,4]),(5,[0,3,4]),(12,[3])]),
 (25,[(3,[0,1,5,6]),(5,[0,1,5,6]),(9,[6,9,10]),(11,[6,9,10]),(13,[6,10]),(1000012,[9])]),
 (26,[(4,[1,3]),(5,[1,3,4]),(6,[1,3,4]),(7,[1,3,4]),(8,[3])]),
 (27,[(3,[1,2])]),
 (29,[(4,[1,2,6]),(7,[1,2,6,8,9,10]),(8,[1,2,6,8,9,10]),(11,[1,2,6,8,9,11,12]),(12,[1,2,6,8,9,11]),(17,[1,2,6,8,9,14,15]),(20,[8])]),
 (32,[(2,[0,2,3]),(3,[0,2,3]),(5,[2,3])]),
 (33,[(4,[6])]),
 (34,[(3,[1,3,4]),(4,[1,3,4]),(5,[1,3,4]),(6,[3])]),
 (35,[(3,[1]),(4,[1,3]),(5,[1,3]),(6,[1,3]),(8,[])]),
 (36,[(4,[1,2,4]),(6,[1,2,4]),(9,[1,4,7]),(13,[1,4,9])]),
 (37,[(8,[8])]),
 (38,[(4,[0,1,2,8,11]),(11,[8,11])]),
 (40,[(4,[0,2]),(5,[0,2]),(10,[0,2,3]),(13,[0,2,3]),(14,[0,2,3]),(15,[2,3])]),
 (43,[(3,[0,1,4])]),
 (44,[(3,[1]),(6,[1]),(9,[1]),(11,[])]),
 (45,[(4,[1,2]),(6,[1,2])]),
 (46,[(12,[0,3,5]),(13,[0,3,5]),(14,[0,3,5]),(19,[0])]),
 (47,[(3,[1]),(5,[1]),(8,[1,4]),(1000001,[1]),(1000004,[1]),(1000005,[1]),(1000008,[1,4])]),
 (49,[(3,[0,1]),(5,[0,1])]),
 (50,[(3,[0,3,4]),(19,[0,4,5])]),
 (52,[(4,[0,2]),(7,[0,2]),(10,[0,2,3])]),
 (53,[(3,[1]),(4,[1,3]),(5,[1,3]),(6,[1,3]),(8,[])]),
 (54,[(3,[1,2]),(6,[1,2]),(7,[1,2]),(8,[1,2,6]),(9,[1,2,6]),(10,[1,2,6]),(13,[2,6,7]),(14,[1])]),
 (55,[(3,[1,2]),(4,[1,2,6]),(5,[1,2,6]),(6,[1,2,6]),(9,[2,6,7]),(10,[1,2]),(12,[1])]),
 (56,[(3,[1,3,4]),(4,[1,3,4]),(5,[1,3,4]),(6,[3])]),
 (57,[(3,[1,3,4]),(4,[1,3,4]),(5,[1,3,4]),(8,[3])]),
 (58,[(3,[1,3,4]),(4,[1,3,4]),(5,[1,3,4]),(6,[1,3]),(8,[1,3]),(10,[1,3]),(12,[1,3]),(14,[1,3])]),
 (59,[(4,[1,2,3,4]),(5,[1,2,3,4]),(6,[1,2,3,4]),(7,[1,2,3]),(9,[2,3])]),
 (60,[(3,[0,1,5,6]),(4,[0,1,5,6]),(5,[0,1,5,6]),(11,[0,1,5]),(13,[0,5,8]),(14,[0,5,8]),(15,[0,5,8]),(16,[0])]),
 (61,[(5,[0,3,5]),(9,[0,5])]),
 (62,[(11,[])]),
 (66,[(4,[1,2,4]),(6,[1,2,4]),(9,[1,4,7]),(14,[1,4,9])]),
 (71,[(3,[0,3,4]),(1000004,[3]),(1000005,[3])]),
 (72,[(3,[1,4,5,6]),(4,[1,4,5,6]),(5,[1,4,5,6]),(6,[4,5])]),
 (73,[(17,[0,2,3])]),
 (74,[(4,[1,3]),(18,[])]),
 (76,[(2,[0,1,5]),(3,[0,1,5]),(4,[0,1,5]),(6,[])]),
 (77,[(3,[0])]),
 (79,[(3,[1,2,3,6]),(5,[1,2,3,6]),(7,[1,2,3,6,7,8]),(8,[1,2,3,6,7,8]),(9,[1,2,3,6,7,8]),(12,[1,2,3,6,7]),(13,[2,3,6,7,9]),(14,[2,3,6,7,9]),(15,[2,3,6,7,9]),(16,[6,7])]),
 (80,[(12,[0,3]),(14,[0,3,6,7,117,118,119]),(15,[0,3,6,7,117,118,119,120]),(17,[0,3,6,7,117,118,119]),(18,[0,3,6,7]),(20,[7])]),
 (82,[(4,[1,2]),(6,[1,2])]),
 (83,[(2,[0,3]),(4,[0,13,14,15]),(5,[0,13,14,15,16]),(7,[0,13,14,15])]),
 (84,[(4,[0,3])]),
 (92,[(3,[1,3,4]),(4,[1,3,4]),(5,[1,3,4]),(7,[3])]),
 (94,[(3,[0,2,3,4]),(4,[0,2,3,4]),(5,[0,2,3,4]),(6,[2,3])]),
 (97,[(3,[2,4])]),
 (98,[(3,[3,4]),(1000003,[3])]),
 (102,[(3,[1])]),
 (103,[(20,[])]),
 (104,[(3,[1,10,11,12]),(4,[1,10,11,12,13]),(6,[1,10,11,12])]),
 (106,[(3,[1,3,7,8,9]),(4,[1,3,7,8,9,10]),(6,[1,3,7,8,9]),(7,[1,3]),(9,[3])]),
 (107,[(3,[1,2,3,7,8,9]),(4,[1,2,3,7,8,9,10]),(6,[1,2,3,7,8,9]),(7,[1,2,3])]),
 (108,[(3,[1,2]),(6,[1,2,3,18,19,20]),(7,[1,2,3,18,19,20,21]),(9,[1,2,3,18,19,20]),(10,[1,2,3]),(12,[2,3])]),
 (109,[(2,[0,1,4,10,11,12]),(3,[0,1,4,10,11,12,13]),(6,[0,1,4,6,10,11,12]),(10,[0,1,4,10,11,12]),(11,[0,4]),(12,[0,49,50,51]),(13,[0,49,50,51,52]),(15,[0,49,50,51])]),
 (110,[(6,[0,3]),(10,[0,6])]),
 (121,[(3,[0,4,5,6,7,8]),(4,[0,4,5,6,7,8]),(5,[0,4,5,6,7,8]),(8,[6,7]),(1000005,[5])]),
 (122,[(3,[0,1,5,6]),(4,[0,1,5,6]),(5,[0,1,5,6]),(6,[5])]),
 (123,[(3,[1,2])]),
 (128,[(2,[0,1,5]),(3,[0,1,5]),(4,[0,1,5]),(6,[])]),
 (129,[(11,[0,1,2])]),
 (130,[(11,[1,2,3,6]),(1000010,[3]),(1000011,[3])]),
 (135,[(3,[1]),(5,[1]),(6,[1,3]),(7,[1,3]),(8,[1,3]),(10,[1]),(12,[1]),(15,[1])]),
 (142,[(3,[2,5,10,11]),(4,[2,5,10,11,12]),(6,[2,5,10,11]),(7,[5])]),
 (143,[(3,[0]),(4,[0,3]),(5,[0,3]),(6,[0,3]),(9,[])]),
 (145,[(3,[0]),(4,[0,3]),(5,[0,3]),(6,[0,3]),(8,[0,3]),(9,[0,3,4]),(10,[0,3,4]),(11,[0,3,4]),(13,[])]),
 (146,[(3,[0]),(4,[0,3]),(5,[0,3]),(6,[0,3]),(8,[0,3]),(9,[0,3,4]),(10,[0,3,4]),(11,[0,3,4]),(13,[])]),
 (166,[(4,[6,9])]),
 (167,[(4,[1,2,3,6,8]),(9,[1,3,6,8,9,10,11,12]),(10,[1,3,6,8,9,10,11,12]),(12,[1,3,6,8,9,10,11,12]),(13,[1,3,6,8,9,10,11,12,48,49,50]),(14,[1,3,6,8,9,10,11,12,48,49,50,51]),(17,[1,3,6,8,9,10,11,12,48,49,50]),(18,[1,3,6,8,9,10,11,12]),(19,[1,3,6,8,9,10,11,12]),(21,[6,9,10]),(1000021,[10])]),
 (168,[(3,[1,2])]),
 (169,[(2,[0,1,3,4]),(3,[0,1,3,4]),(6,[0,1,3,4,11]),(20,[1])]),
 (170,[(4,[0,2,3,9,20,21,22]),(5,[0,2,3,9,20,21,22,23]),(9,[0,2,3,9,20,21,22]),(10,[9])]),
 (172,[(4,[1,3]),(6,[3,4,19,20,21]),(7,[3,4,19,20,21,22]),(19,[3,4,7,19,20,21]),(21,[3,4,19,20,21]),(22,[])])]
def userList:List Nat:=[3,4,5,6,7,8,9,10,11,12,13,14,15,16,17,18,19,20,21,22,23,24,25,26,27,28,29,30,31,32,33,34,35,36,37,38,40,41,42,43,44,45,46,47,48,49,50,51,52,53,54,55,56,57,58,59,60,61,62,63,64,65,66,67,68,69,70,71,72,73,74,75,76,77,78,79,80,81,82,83,84,85,86,87,88,89,90,91,92,93,94,95,96,97,98,99,100,101,102,103,104,105,106,107,108,109,110,111,112,113,114,115,116,117,118,119,120,121,122,123,124,125,126,127,128,129,130,131,132,133,134,135,136,137,138,139,140,141,142,143,144,145,146,147,148,166,167,168,169,170,171,172,173,174,175,176,177,178,179,180,181,182,183,184,185,186,187,188,189,190,191,192,193,194,195,196,197,198,199,200,201]
def pureList:List Nat:=[]
def flatList:List Nat:=[10,15,16,25,29,36,44,45,59,62,66,82,108,167]
def extList:List (Nat × ExtK):=[(39,.same)]
def roList:List Nat:=[]
def eqList:List Nat:=[36,38,56]
noncomputable def sumList:List (Nat × (List AV→Option AV)):=[]
noncomputable def effList:List (Nat × EffFn):=[(21,byteE),(22,textE),(23,stringE),(30,lenE)]
def bldList:List (Nat × Nat):=[(66,5)]
def wrbList:List Nat:=[52]
def qkList:List (Nat × List Nat):=[]
def linList:List Nat:=[2,3,56,111]
noncomputable def cfg:Cfg:={ P:=Tryz.prog,glob:=fun _=>none,sum:=fun f=>sumList.lookup f,user:=fun f=>userList.contains f,eqok:=fun t=>eqList.contains t,pure:=fun f=>pureList.contains f,flat:=fun f=>flatList.contains f,ext:=fun f=>extList.lookup f,keep:=keepTab keepList,eff:=fun f=>effList.lookup f,bld:=fun t=>bldList.lookup t,lin:=fun t=>linList.contains t,qk:=fun t a=>qkList.contains (t,a),wrb:=fun t=>wrbList.contains t,ro:=fun f=>roList.contains f }
noncomputable def C_L16_TemplateLimits:List AV→Hp→Res:=callw cfg 5
noncomputable def C_template_Expand:List AV→Hp→Res:=callw cfg 13
noncomputable def C_template_Replace:List AV→Hp→Res:=callw cfg 17
noncomputable def C_L16_awake:List AV→Hp→Res:=callw cfg 10
noncomputable def C_R15_Compile:List AV→Hp→Res:=callw cfg 15
noncomputable def C_R05_Default:List AV→Hp→Res:=callw cfg 16
noncomputable def C_regex_All:List AV→Hp→Res:=callw cfg 29
noncomputable def L16_TemplateLimits_J5 (x0 x1 x12 x13 x14:AV) (H0 H:Hp):Res:=CXL cfg (callw cfg) (LPL cfg (cfg.keep 5) 101) (cfg.keep 5) 101 seqL blockL (sub (bodyOf Tryz.f5) [1,1,1,1,1,1,1,1,1]) (retL cfg 101 5 Tryz.f5 H0) [(0,x0),(1,x1),(12,x12),(13,x13),(14,x14)] H
noncomputable def L16_TemplateLimits_J4 (x0 x1 x12 x13 x14:AV) (H0 H:Hp):Res:=CXL cfg (callw cfg) (LPL cfg (cfg.keep 5) 101) (cfg.keep 5) 101 seqL blockL (sub (bodyOf Tryz.f5) [1,1,1,1,1,1,1,1]) (retL cfg 101 5 Tryz.f5 H0) [(0,x0),(1,x1),(12,x12),(13,x13),(14,x14)] H
noncomputable def L16_TemplateLimits_J3 (x0 x1 x5 x6 x8 x9:AV) (H0 H:Hp):Res:=CXL cfg (callw cfg) (LPL cfg (cfg.keep 5) 101) (cfg.keep 5) 101 seqL blockL (sub (bodyOf Tryz.f5) [1,1,1,1,1,1]) (retL cfg 101 5 Tryz.f5 H0) [(0,x0),(1,x1),(5,x5),(6,x6),(8,x8),(9,x9)] H
noncomputable def L16_TemplateLimits_K1 (H0:Hp):KL:=seqL (fun k al H=>CXL cfg (callw cfg) (LPL cfg (cfg.keep 5) 101) (cfg.keep 5) 101 seqL blockL (sub (bodyOf Tryz.f5) [1,1,1,1,1,1]) k (trimL (cfg.keep 5) (sub (bodyOf Tryz.f5) [1,1,1,1,1,1]) al) H) (retL cfg 101 5 Tryz.f5 H0)
theorem L16_TemplateLimits_K1_tame (H0:Hp):Tame 101 (L16_TemplateLimits_K1 H0):=tame_seq (C:=cfg) (kp:=cfg.keep 5) (sub (bodyOf Tryz.f5) [1,1,1,1,1,1]) (tame_ret 5 Tryz.f5 H0)
noncomputable def L16_TemplateLimits_J7 (x0 x1 x5 x6 x8 x9 x11:AV) (H0 H:Hp):Res:=CXL cfg (callw cfg) (LPL cfg (cfg.keep 5) 101) (cfg.keep 5) 101 seqL blockL (sub (bodyOf Tryz.f5) [1,1,1,1,1,0,1,0,0,1,1]) (seqL (fun k al H=>LPL cfg (cfg.keep 5) 101 (sub (bodyOf Tryz.f5) [1,1,1,1,1,0,1,0,0]) k (trimL (cfg.keep 5) (sub (bodyOf Tryz.f5) [1,1,1,1,1,0,1,0,0]) al) H) (blockL 2 (L16_TemplateLimits_K1 H0))) [(0,x0),(1,x1),(5,x5),(6,x6),(8,x8),(9,x9),(11,x11)] H
noncomputable def L16_TemplateLimits_J6 (x0 x1 x5 x6 x8 x9 x11:AV) (H0 H:Hp):Res:=CXL cfg (callw cfg) (LPL cfg (cfg.keep 5) 101) (cfg.keep 5) 101 seqL blockL (sub (bodyOf Tryz.f5) [1,1,1,1,1,0,1,0,0,1]) (seqL (fun k al H=>LPL cfg (cfg.keep 5) 101 (sub (bodyOf Tryz.f5) [1,1,1,1,1,0,1,0,0]) k (trimL (cfg.keep 5) (sub (bodyOf Tryz.f5) [1,1,1,1,1,0,1,0,0]) al) H) (blockL 2 (L16_TemplateLimits_K1 H0))) [(0,x0),(1,x1),(5,x5),(6,x6),(8,x8),(9,x9),(11,x11)] H
noncomputable def L16_TemplateLimits_L1 (x0 x1 x5 x6 x8 x9 x11:AV) (H0 H:Hp):Res:=LPL cfg (cfg.keep 5) 101 (sub (bodyOf Tryz.f5) [1,1,1,1,1,0,1,0,0]) (blockL 2 (L16_TemplateLimits_K1 H0)) [(0,x0),(1,x1),(5,x5),(6,x6),(8,x8),(9,x9),(11,x11)] H
noncomputable def L16_TemplateLimits_J2 (x0 x1 x5 x6 x8 x9:AV) (H0 H:Hp):Res:=CXL cfg (callw cfg) (LPL cfg (cfg.keep 5) 101) (cfg.keep 5) 101 seqL blockL (sub (bodyOf Tryz.f5) [1,1,1,1,1]) (retL cfg 101 5 Tryz.f5 H0) [(0,x0),(1,x1),(5,x5),(6,x6),(8,x8),(9,x9)] H
noncomputable def L16_TemplateLimits_K2 (H0:Hp):KL:=seqL (fun k al H=>CXL cfg (callw cfg) (LPL cfg (cfg.keep 5) 101) (cfg.keep 5) 101 seqL blockL (sub (bodyOf Tryz.f5) [1,1,1,1,1]) k (trimL (cfg.keep 5) (sub (bodyOf Tryz.f5) [1,1,1,1,1]) al) H) (retL cfg 101 5 Tryz.f5 H0)
theorem L16_TemplateLimits_K2_tame (H0:Hp):Tame 101 (L16_TemplateLimits_K2 H0):=tame_seq (C:=cfg) (kp:=cfg.keep 5) (sub (bodyOf Tryz.f5) [1,1,1,1,1]) (tame_ret 5 Tryz.f5 H0)
noncomputable def L16_TemplateLimits_J9 (x0 x1 x5 x6 x8 x9 x10:AV) (H0 H:Hp):Res:=CXL cfg (callw cfg) (LPL cfg (cfg.keep 5) 101) (cfg.keep 5) 101 seqL blockL (sub (bodyOf Tryz.f5) [1,1,1,1,0,1,0,0,1,1]) (seqL (fun k al H=>LPL cfg (cfg.keep 5) 101 (sub (bodyOf Tryz.f5) [1,1,1,1,0,1,0,0]) k (trimL (cfg.keep 5) (sub (bodyOf Tryz.f5) [1,1,1,1,0,1,0,0]) al) H) (blockL 0 (L16_TemplateLimits_K2 H0))) [(0,x0),(1,x1),(5,x5),(6,x6),(8,x8),(9,x9),(10,x10)] H
noncomputable def L16_TemplateLimits_J8 (x0 x1 x5 x6 x8 x9 x10:AV) (H0 H:Hp):Res:=CXL cfg (callw cfg) (LPL cfg (cfg.keep 5) 101) (cfg.keep 5) 101 seqL blockL (sub (bodyOf Tryz.f5) [1,1,1,1,0,1,0,0,1]) (seqL (fun k al H=>LPL cfg (cfg.keep 5) 101 (sub (bodyOf Tryz.f5) [1,1,1,1,0,1,0,0]) k (trimL (cfg.keep 5) (sub (bodyOf Tryz.f5) [1,1,1,1,0,1,0,0]) al) H) (blockL 0 (L16_TemplateLimits_K2 H0))) [(0,x0),(1,x1),(5,x5),(6,x6),(8,x8),(9,x9),(10,x10)] H
noncomputable def L16_TemplateLimits_L2 (x0 x1 x5 x6 x8 x9 x10:AV) (H0 H:Hp):Res:=LPL cfg (cfg.keep 5) 101 (sub (bodyOf Tryz.f5) [1,1,1,1,0,1,0,0]) (blockL 0 (L16_TemplateLimits_K2 H0)) [(0,x0),(1,x1),(5,x5),(6,x6),(8,x8),(9,x9),(10,x10)] H
noncomputable def L16_TemplateLimits_J1 (x0 x1:AV) (H0 H:Hp):Res:=CXL cfg (callw cfg) (LPL cfg (cfg.keep 5) 101) (cfg.keep 5) 101 seqL blockL (sub (bodyOf Tryz.f5) [1,1]) (retL cfg 101 5 Tryz.f5 H0) [(0,x0),(1,x1)] H
noncomputable def F_L16_TemplateLimits (p0 p1:AV) (H:Hp):Res:=
 bnd (ibin .lss p0 (.int .i64 1)) fun t16=>
 bnd (gdv t16 false (.tuple []) (some p0)) fun t18=>
 bnd (gdv t16 false (.tuple []) (ibin .gtr t18 (.int .i64 8))) fun t19=>
 bnd (apick t16 (.bool true) t19) fun t20=>
 bnd (gdv t20 false (.tuple []) (some p1)) fun t22=>
 bnd (gdv t20 false (.tuple []) (ibin .lss t22 (.int .i64 1))) fun t23=>
 bnd (apick t20 (.bool true) t23) fun t24=>
 bnd (gdv t24 false (.tuple []) (some p1)) fun t26=>
 bnd (gdv t24 false (.tuple []) (ibin .gtr t26 (.int .i64 70000))) fun t27=>
 bnd (apick t24 (.bool true) t27) fun t28=>
 cnd t28
  (bnd (flatC C_L16_awake [] H) fun r29=>
  some (r29.1,r29.2))
  (L16_TemplateLimits_J1 p0 p1 H H)
theorem L16_TemplateLimits_J5_eq (x0 x1 x12 x13 x14:AV) (H0 H:Hp):L16_TemplateLimits_J5 x0 x1 x12 x13 x14 H0 H =
    bnd (alenD .string x12) fun t84=>
    bnd (ibin .mul x0 x1) fun t87=>
    bnd (ibin .eql t84 t87) fun t88=>
    bnd (gdv t88 true (.tuple []) (some x13)) fun t90=>
    bnd (gdv t88 true (.tuple []) (some x0)) fun t91=>
    bnd (gdv t88 true (.tuple []) (ibin .eql t90 t91)) fun t92=>
    bnd (apick t88 t92 (.bool false)) fun t93=>
    bnd (gdv t93 true (.tuple []) (some x14)) fun t95=>
    bnd (gdv t93 true (.tuple []) (ibin .eql t95 (.int .i64 0))) fun t96=>
    bnd (apick t93 t96 (.bool false)) fun t97=>
    bnd (gdv t97 true ((.tuple []),H) (flatC C_L16_awake [] H)) fun r99=>
    bnd (apick t97 r99.1 (.bool false)) fun t100=>
    some (t100,r99.2):=(CXM_eq [3,7,8,9,11,12,13,16,18] _ _ _ _).trans (by kernel_rfl)
theorem L16_TemplateLimits_J4_eq (x0 x1 x12 x13 x14:AV) (H0 H:Hp):L16_TemplateLimits_J4 x0 x1 x12 x13 x14 H0 H =
    bnd (ibin .mul x0 x1) fun t68=>
    bnd (ibin .gtr t68 (.int .i64 65536)) fun t69=>
    cnd t69
     (bnd (sbin .eql x12 (.str [])) fun t71=>
     bnd (gdv t71 true (.tuple []) (some x13)) fun t73=>
     bnd (gdv t71 true (.tuple []) (ibin .eql t73 (.int .i64 0))) fun t74=>
     bnd (apick t71 t74 (.bool false)) fun t75=>
     bnd (gdv t75 true (.tuple []) (some x14)) fun t77=>
     bnd (gdv t75 true (.tuple []) (ibin .eql t77 (.int .i64 3))) fun t78=>
     bnd (apick t75 t78 (.bool false)) fun t79=>
     bnd (gdv t79 true ((.tuple []),H) (flatC C_L16_awake [] H)) fun r81=>
     bnd (apick t79 r81.1 (.bool false)) fun t82=>
     some (t82,r81.2))
     (L16_TemplateLimits_J5 x0 x1 x12 x13 x14 H0 H):=(CXM_eq [3,7,8,9,11,12,13,16,18] _ _ _ _).trans (by kernel_rfl)
theorem L16_TemplateLimits_J3_eq (x0 x1 x5 x6 x8 x9:AV) (H0 H:Hp):L16_TemplateLimits_J3 x0 x1 x5 x6 x8 x9 H0 H =
    bnd (aload true 12 x5 H) fun t54=>
    bnd (cvRd x9 H) fun t56=>
    bnd ((afill [(0,1,(.int .i64 1)),(2,1,t56)] [(.int .i64 0),(.int .i64 0),(.str [])]).map .agg) fun t57=>
    bnd ((setElems 3 [(0,t57)] [(.agg [(.int .i64 0),(.int .i64 0),(.str [])])]).map (.vs 3 .clip)) fun t58=>
    bnd (C_template_Replace [t54,t58,x8,(.int .i64 1),(.bool true)] H) fun r60=>
    bnd (aext r60.1 0) fun t61=>
    bnd (aext r60.1 1) fun t62=>
    bnd (aext r60.1 2) fun t63=>
    bnd (ibin .neq x6 (.int .i64 0)) fun t65=>
    cnd t65
     (some ((.bool false),r60.2))
     (L16_TemplateLimits_J4 x0 x1 t61 t62 t63 H0 r60.2):=(CXM_eq [3,7,8,9,11,12,13,16,18] _ _ _ _).trans (by kernel_rfl)
theorem L16_TemplateLimits_J7_eq (x0 x1 x5 x6 x8 x9 x11:AV) (H0 H:Hp):L16_TemplateLimits_J7 x0 x1 x5 x6 x8 x9 x11 H0 H =
    bnd (ibin .add x11 (.int .i64 1)) fun t49=>
    L16_TemplateLimits_L1 x0 x1 x5 x6 x8 x9 t49 H0 H:=(CXM_eq [3,7,8,9,11,12,13,16,18] _ _ _ _).trans (by kernel_rfl)
theorem L16_TemplateLimits_J6_eq (x0 x1 x5 x6 x8 x9 x11:AV) (H0 H:Hp):L16_TemplateLimits_J6 x0 x1 x5 x6 x8 x9 x11 H0 H =
    bnd (aindexS 1 x9 x11) fun t52=>
    bnd (astoreU 1 t52 (.int .u8 98) H) fun r_43=>
    L16_TemplateLimits_J7 x0 x1 x5 x6 x8 x9 x11 H0 r_43.2:=(CXM_eq [3,7,8,9,11,12,13,16,18] _ _ _ _).trans (by kernel_rfl)
theorem L16_TemplateLimits_L1_eq (x0 x1 x5 x6 x8 x9 x11:AV) (H0 H:Hp):L16_TemplateLimits_L1 x0 x1 x5 x6 x8 x9 x11 H0 H =
    bnd (ibin .lss x11 x1) fun t47=>
    cnd t47
     (L16_TemplateLimits_J6 x0 x1 x5 x6 x8 x9 x11 H0 H)
     (L16_TemplateLimits_J3 x0 x1 x5 x6 x8 x9 H0 H):=(LPL_eqm (C:=cfg) [3,7,8,9,11,12,13,16,18] (tame_block 2 (L16_TemplateLimits_K1_tame H0)) _ _).trans (by kernel_rfl)
theorem L16_TemplateLimits_J2_eq (x0 x1 x5 x6 x8 x9:AV) (H0 H:Hp):L16_TemplateLimits_J2 x0 x1 x5 x6 x8 x9 H0 H =
    L16_TemplateLimits_L1 x0 x1 x5 x6 x8 x9 (.int .i64 0) H0 H:=(CXM_eq [3,7,8,9,11,12,13,16,18] _ _ _ _).trans (by kernel_rfl)
theorem L16_TemplateLimits_J9_eq (x0 x1 x5 x6 x8 x9 x10:AV) (H0 H:Hp):L16_TemplateLimits_J9 x0 x1 x5 x6 x8 x9 x10 H0 H =
    bnd (ibin .add x10 (.int .i64 1)) fun t42=>
    L16_TemplateLimits_L2 x0 x1 x5 x6 x8 x9 t42 H0 H:=(CXM_eq [3,7,8,9,11,12,13,16,18] _ _ _ _).trans (by kernel_rfl)
theorem L16_TemplateLimits_J8_eq (x0 x1 x5 x6 x8 x9 x10:AV) (H0 H:Hp):L16_TemplateLimits_J8 x0 x1 x5 x6 x8 x9 x10 H0 H =
    bnd (sbin .add x8 (.str [97])) fun t44=>
    L16_TemplateLimits_J9 x0 x1 x5 x6 t44 x9 x10 H0 H:=(CXM_eq [3,7,8,9,11,12,13,16,18] _ _ _ _).trans (by kernel_rfl)
theorem L16_TemplateLimits_L2_eq (x0 x1 x5 x6 x8 x9 x10:AV) (H0 H:Hp):L16_TemplateLimits_L2 x0 x1 x5 x6 x8 x9 x10 H0 H =
    bnd (ibin .lss x10 x0) fun t40=>
    cnd t40
     (L16_TemplateLimits_J8 x0 x1 x5 x6 x8 x9 x10 H0 H)
     (L16_TemplateLimits_J2 x0 x1 x5 x6 x8 x9 H0 H):=(LPL_eqm (C:=cfg) [3,7,8,9,11,12,13,16,18] (tame_block 0 (L16_TemplateLimits_K2_tame H0)) _ _).trans (by kernel_rfl)
theorem L16_TemplateLimits_J1_eq (x0 x1:AV) (H0 H:Hp):L16_TemplateLimits_J1 x0 x1 H0 H =
    bnd (flatC C_R05_Default [] H) fun r31=>
    bnd (flatC C_R15_Compile [(.str [97]),(.int .i64 0),r31.1] r31.2) fun r32=>
    bnd (aext r32.1 0) fun t33=>
    bnd (aext r32.1 1) fun t34=>
    bnd (aext r32.1 2) fun t35=>
    bnd (some ((.ptr r32.2.length 0),r32.2++[.cells [(.str []),(.int .i64 0),(.int .i64 0),(.int .i64 0),(.int .u64 0),(.int .u64 0),(.int .u64 0),(.int .u64 0),(.int .i64 0),(.int .i64 0),(.int .i64 0),.nils]])) fun r5=>
    bnd (astoreU 12 r5.1 t33 r5.2) fun r_7=>
    bnd (amake 1 1 false (.int .u8 0) x1 x1 r_7.2) fun r37=>
    L16_TemplateLimits_L2 x0 x1 r5.1 t34 (.str []) r37.1 (.int .i64 0) H0 r37.2:=(CXM_eq [3,7,8,9,11,12,13,16,18] _ _ _ _).trans (by kernel_rfl)
theorem F_L16_TemplateLimits_eq (p0 p1:AV) (H:Hp):C_L16_TemplateLimits [p0,p1] H=F_L16_TemplateLimits p0 p1 H:=(callw_cxm (C:=cfg) (fn:=Tryz.f5) (c:=bodyOf Tryz.f5) (n:=101) [3,7,8,9,11,12,13,16,18] Tryz.func5 (by kernel_rfl) (by kernel_rfl) [p0,p1] (by kernel_rfl) H).trans (by kernel_rfl)

noncomputable def template_Expand_J1 (x7:AV) (H0 H:Hp):Res:=CXL cfg (callw cfg) (LPL cfg (cfg.keep 13) 76) (cfg.keep 13) 76 seqL blockL (sub (bodyOf Tryz.f13) [1,1,1]) (retL cfg 76 13 Tryz.f13 H0) [(7,x7)] H
noncomputable def template_Expand_K1 (H0:Hp):KL:=seqL (fun k al H=>CXL cfg (callw cfg) (LPL cfg (cfg.keep 13) 76) (cfg.keep 13) 76 seqL blockL (sub (bodyOf Tryz.f13) [1,1,1]) k (trimL (cfg.keep 13) (sub (bodyOf Tryz.f13) [1,1,1]) al) H) (retL cfg 76 13 Tryz.f13 H0)
theorem template_Expand_K1_tame (H0:Hp):Tame 76 (template_Expand_K1 H0):=tame_seq (C:=cfg) (kp:=cfg.keep 13) (sub (bodyOf Tryz.f13) [1,1,1]) (tame_ret 13 Tryz.f13 H0)
noncomputable def template_Expand_J3 (x1 x5 x7 x11 x12 x13:AV) (H0 H:Hp):Res:=CXL cfg (callw cfg) (LPL cfg (cfg.keep 13) 76) (cfg.keep 13) 76 seqL blockL (sub (bodyOf Tryz.f13) [1,1,0,1,0,0,1,1,1]) (seqL (fun k al H=>LPL cfg (cfg.keep 13) 76 (sub (bodyOf Tryz.f13) [1,1,0,1,0,0]) k (trimL (cfg.keep 13) (sub (bodyOf Tryz.f13) [1,1,0,1,0,0]) al) H) (blockL 0 (template_Expand_K1 H0))) [(1,x1),(5,x5),(7,x7),(11,x11),(12,x12),(13,x13)] H
noncomputable def template_Expand_K2 (H0:Hp):KL:=seqL (fun k al H=>CXL cfg (callw cfg) (LPL cfg (cfg.keep 13) 76) (cfg.keep 13) 76 seqL blockL (sub (bodyOf Tryz.f13) [1,1,0,1,0,0,1,1,1]) k (trimL (cfg.keep 13) (sub (bodyOf Tryz.f13) [1,1,0,1,0,0,1,1,1]) al) H) (seqL (fun k al H=>LPL cfg (cfg.keep 13) 76 (sub (bodyOf Tryz.f13) [1,1,0,1,0,0]) k (trimL (cfg.keep 13) (sub (bodyOf Tryz.f13) [1,1,0,1,0,0]) al) H) (blockL 0 (template_Expand_K1 H0)))
noncomputable def template_Expand_J5 (x1 x5 x7 x9 x11 x12 x13:AV) (H0 H:Hp):Res:=CXL cfg (callw cfg) (LPL cfg (cfg.keep 13) 76) (cfg.keep 13) 76 seqL blockL (sub (bodyOf Tryz.f13) [1,1,0,1,0,0,1,1,0,0,1,1,1]) (blockL 1 (template_Expand_K2 H0)) [(1,x1),(5,x5),(7,x7),(9,x9),(11,x11),(12,x12),(13,x13)] H
noncomputable def template_Expand_J4 (x1 x5 x7 x9 x11 x12 x13:AV) (H0 H:Hp):Res:=CXL cfg (callw cfg) (LPL cfg (cfg.keep 13) 76) (cfg.keep 13) 76 seqL blockL (sub (bodyOf Tryz.f13) [1,1,0,1,0,0,1,1,0,0,1,1]) (blockL 1 (template_Expand_K2 H0)) [(1,x1),(5,x5),(7,x7),(9,x9),(11,x11),(12,x12),(13,x13)] H
noncomputable def template_Expand_J2 (x1 x5 x7 x11 x12 x13 x14:AV) (H0 H:Hp):Res:=CXL cfg (callw cfg) (LPL cfg (cfg.keep 13) 76) (cfg.keep 13) 76 seqL blockL (sub (bodyOf Tryz.f13) [1,1,0,1,0,0,1,1]) (seqL (fun k al H=>LPL cfg (cfg.keep 13) 76 (sub (bodyOf Tryz.f13) [1,1,0,1,0,0]) k (trimL (cfg.keep 13) (sub (bodyOf Tryz.f13) [1,1,0,1,0,0]) al) H) (blockL 0 (template_Expand_K1 H0))) [(1,x1),(5,x5),(7,x7),(11,x11),(12,x12),(13,x13),(14,x14)] H
noncomputable def template_Expand_L1 (x1 x5 x7 x11 x12 x13:AV) (H0 H:Hp):Res:=LPL cfg (cfg.keep 13) 76 (sub (bodyOf Tryz.f13) [1,1,0,1,0,0]) (blockL 0 (template_Expand_K1 H0)) [(1,x1),(5,x5),(7,x7),(11,x11),(12,x12),(13,x13)] H
noncomputable def F_template_Expand (p0 p1 p2:AV) (H:Hp):Res:=
 bnd (abox p2 H) fun r5=>
 bnd (some ((.ptr r5.2.length 0),r5.2++[.bld 66 5 []])) fun r7=>
 bnd (alenD (.slice 56) p0) fun t12=>
 template_Expand_L1 p1 r5.1 r7.1 p0 t12 (.int .i64 0) H r7.2
theorem template_Expand_J1_eq (x7:AV) (H0 H:Hp):template_Expand_J1 x7 H0 H =
    bnd (stringE.run [x7] H) fun r75=>
    some (r75.1,r75.2):=(CXM_eq [4,7,8,11,12] _ _ _ _).trans (by kernel_rfl)
theorem template_Expand_J3_eq (x1 x5 x7 x11 x12 x13:AV) (H0 H:Hp):template_Expand_J3 x1 x5 x7 x11 x12 x13 H0 H =
    bnd (ibin .add x13 (.int .i64 1)) fun t74=>
    template_Expand_L1 x1 x5 x7 x11 x12 t74 H0 H:=(CXM_eq [4,7,8,11,12] _ _ _ _).trans (by kernel_rfl)
theorem template_Expand_J5_eq (x1 x5 x7 x9 x11 x12 x13:AV) (H0 H:Hp):template_Expand_J5 x1 x5 x7 x9 x11 x12 x13 H0 H =
    bnd (afield 0 x5) fun t44=>
    bnd (aload false 1 t44 H) fun t45=>
    bnd (afield 1 x9) fun t46=>
    bnd (aload false 1 t46 H) fun t47=>
    bnd (aindexS 2 t45 t47) fun t48=>
    bnd (aload true 2 t48 H) fun t49=>
    bnd (some ((.ptr H.length 0),H++[.cells [(.int .i64 0),(.int .i64 0)]])) fun r10=>
    bnd (astoreU 2 r10.1 t49 r10.2) fun r_18=>
    bnd (afield 0 r10.1) fun t50=>
    bnd (aload false 1 t50 r_18.2) fun t51=>
    bnd (ibin .geq t51 (.int .i64 0)) fun t52=>
    bnd (gdv t52 true (.tuple []) (afield 0 r10.1)) fun t54=>
    bnd (gdv t52 true (.tuple []) (aload false 1 t54 r_18.2)) fun t55=>
    bnd (gdv t52 true (.tuple []) (afield 1 r10.1)) fun t56=>
    bnd (gdv t52 true (.tuple []) (aload false 1 t56 r_18.2)) fun t57=>
    bnd (gdv t52 true (.tuple []) (ibin .leq t55 t57)) fun t58=>
    bnd (apick t52 t58 (.bool false)) fun t59=>
    bnd (gdv t59 true (.tuple []) (afield 1 r10.1)) fun t61=>
    bnd (gdv t59 true (.tuple []) (aload false 1 t61 r_18.2)) fun t62=>
    bnd (gdv t59 true (.tuple []) (some x1)) fun t63=>
    bnd (gdv t59 true (.tuple []) (alenD .string t63)) fun t64=>
    bnd (gdv t59 true (.tuple []) (ibin .leq t62 t64)) fun t65=>
    bnd (apick t59 t65 (.bool false)) fun t66=>
    cnd t66
     (bnd (afield 0 r10.1) fun t68=>
     bnd (aload false 1 t68 r_18.2) fun t69=>
     bnd (afield 1 r10.1) fun t70=>
     bnd (aload false 1 t70 r_18.2) fun t71=>
     bnd (asliceS x1 (some t69) (some t71) none) fun t72=>
     bnd (textE.run [x7,t72] r_18.2) fun r73=>
     template_Expand_J3 x1 x5 x7 x11 x12 x13 H0 r73.2)
     (template_Expand_J3 x1 x5 x7 x11 x12 x13 H0 r_18.2):=(CXM_eq [4,7,8,11,12] _ _ _ _).trans (by kernel_rfl)
theorem template_Expand_J4_eq (x1 x5 x7 x9 x11 x12 x13:AV) (H0 H:Hp):template_Expand_J4 x1 x5 x7 x9 x11 x12 x13 H0 H =
    bnd (afield 0 x9) fun t23=>
    bnd (aload false 1 t23 H) fun t24=>
    bnd (ibin .neq t24 (.int .i64 2)) fun t25=>
    bnd (gdv t25 false (.tuple []) (afield 1 x9)) fun t27=>
    bnd (gdv t25 false (.tuple []) (aload false 1 t27 H)) fun t28=>
    bnd (gdv t25 false (.tuple []) (ibin .lss t28 (.int .i64 0))) fun t29=>
    bnd (apick t25 (.bool true) t29) fun t30=>
    bnd (gdv t30 false (.tuple []) (afield 1 x9)) fun t32=>
    bnd (gdv t30 false (.tuple []) (aload false 1 t32 H)) fun t33=>
    bnd (gdv t30 false (.tuple []) (ibin .gtr t33 (.int .i64 9))) fun t34=>
    bnd (apick t30 (.bool true) t34) fun t35=>
    bnd (gdv t35 false (.tuple []) (afield 1 x9)) fun t37=>
    bnd (gdv t35 false (.tuple []) (aload false 1 t37 H)) fun t38=>
    bnd (gdv t35 false (.tuple []) (afield 0 x5)) fun t39=>
    bnd (gdv t35 false (.tuple []) (aload false 1 t39 H)) fun t40=>
    bnd (gdv t35 false (.tuple []) (alenD (.slice 63) t40)) fun t41=>
    bnd (gdv t35 false (.tuple []) (ibin .geq t38 t41)) fun t42=>
    bnd (apick t35 (.bool true) t42) fun t43=>
    cnd t43
     (template_Expand_J3 x1 x5 x7 x11 x12 x13 H0 H)
     (template_Expand_J5 x1 x5 x7 x9 x11 x12 x13 H0 H):=(CXM_eq [4,7,8,11,12] _ _ _ _).trans (by kernel_rfl)
theorem template_Expand_J2_eq (x1 x5 x7 x11 x12 x13 x14:AV) (H0 H:Hp):template_Expand_J2 x1 x5 x7 x11 x12 x13 x14 H0 H =
    bnd (aindexS 3 x11 x13) fun t15=>
    bnd (aload true 3 t15 H) fun t16=>
    bnd (some ((.ptr H.length 0),H++[.cells [(.int .i64 0),(.int .i64 0),(.str [])]])) fun r9=>
    bnd (astoreU 3 r9.1 t16 r9.2) fun r_10=>
    bnd (afield 0 r9.1) fun t17=>
    bnd (aload false 1 t17 r_10.2) fun t18=>
    bnd (ibin .eql t18 (.int .i64 1)) fun t19=>
    cnd t19
     (bnd (afield 2 r9.1) fun t20=>
     bnd (aload false 1 t20 r_10.2) fun t21=>
     bnd (textE.run [x7,t21] r_10.2) fun r22=>
     template_Expand_J4 x1 x5 x7 r9.1 x11 x12 x13 H0 r22.2)
     (template_Expand_J4 x1 x5 x7 r9.1 x11 x12 x13 H0 r_10.2):=(CXM_eq [4,7,8,11,12] _ _ _ _).trans (by kernel_rfl)
theorem template_Expand_L1_eq (x1 x5 x7 x11 x12 x13:AV) (H0 H:Hp):template_Expand_L1 x1 x5 x7 x11 x12 x13 H0 H =
    bnd (ibin .lss x13 x12) fun t14=>
    cnd t14
     (template_Expand_J2 x1 x5 x7 x11 x12 x13 t14 H0 H)
     (template_Expand_J1 x7 H0 H):=(LPL_eqm (C:=cfg) [4,7,8,11,12] (tame_block 0 (template_Expand_K1_tame H0)) _ _).trans (by kernel_rfl)
theorem F_template_Expand_eq (p0 p1 p2:AV) (H:Hp):C_template_Expand [p0,p1,p2] H=F_template_Expand p0 p1 p2 H:=(callw_cxm (C:=cfg) (fn:=Tryz.f13) (c:=bodyOf Tryz.f13) (n:=76) [4,7,8,11,12] Tryz.func13 (by kernel_rfl) (by kernel_rfl) [p0,p1,p2] (by kernel_rfl) H).trans (by kernel_rfl)

noncomputable def template_Replace_J4 (x15 x17:AV) (H0 H:Hp):Res:=CXL cfg (callw cfg) (LPL cfg (cfg.keep 17) 82) (cfg.keep 17) 82 seqL blockL (sub (bodyOf Tryz.f17) [1,1,1,1,1,1,1,1,1]) (retL cfg 82 17 Tryz.f17 H0) [(15,x15),(17,x17)] H
noncomputable def template_Replace_J3 (x2 x15 x16 x17:AV) (H0 H:Hp):Res:=CXL cfg (callw cfg) (LPL cfg (cfg.keep 17) 82) (cfg.keep 17) 82 seqL blockL (sub (bodyOf Tryz.f17) [1,1,1,1,1,1,1]) (retL cfg 82 17 Tryz.f17 H0) [(2,x2),(15,x15),(16,x16),(17,x17)] H
noncomputable def template_Replace_K1 (H0:Hp):KL:=seqL (fun k al H=>CXL cfg (callw cfg) (LPL cfg (cfg.keep 17) 82) (cfg.keep 17) 82 seqL blockL (sub (bodyOf Tryz.f17) [1,1,1,1,1,1,1]) k (trimL (cfg.keep 17) (sub (bodyOf Tryz.f17) [1,1,1,1,1,1,1]) al) H) (retL cfg 82 17 Tryz.f17 H0)
theorem template_Replace_K1_tame (H0:Hp):Tame 82 (template_Replace_K1 H0):=tame_seq (C:=cfg) (kp:=cfg.keep 17) (sub (bodyOf Tryz.f17) [1,1,1,1,1,1,1]) (tame_ret 17 Tryz.f17 H0)
noncomputable def template_Replace_J6 (x1 x2 x3 x4 x15 x16 x17 x31 x32 x33:AV) (H0 H:Hp):Res:=CXL cfg (callw cfg) (LPL cfg (cfg.keep 17) 82) (cfg.keep 17) 82 seqL blockL (sub (bodyOf Tryz.f17) [1,1,1,1,1,1,0,1,0,0,1,1,1]) (seqL (fun k al H=>LPL cfg (cfg.keep 17) 82 (sub (bodyOf Tryz.f17) [1,1,1,1,1,1,0,1,0,0]) k (trimL (cfg.keep 17) (sub (bodyOf Tryz.f17) [1,1,1,1,1,1,0,1,0,0]) al) H) (blockL 0 (template_Replace_K1 H0))) [(1,x1),(2,x2),(3,x3),(4,x4),(15,x15),(16,x16),(17,x17),(31,x31),(32,x32),(33,x33)] H
noncomputable def template_Replace_K2 (H0:Hp):KL:=seqL (fun k al H=>CXL cfg (callw cfg) (LPL cfg (cfg.keep 17) 82) (cfg.keep 17) 82 seqL blockL (sub (bodyOf Tryz.f17) [1,1,1,1,1,1,0,1,0,0,1,1,1]) k (trimL (cfg.keep 17) (sub (bodyOf Tryz.f17) [1,1,1,1,1,1,0,1,0,0,1,1,1]) al) H) (seqL (fun k al H=>LPL cfg (cfg.keep 17) 82 (sub (bodyOf Tryz.f17) [1,1,1,1,1,1,0,1,0,0]) k (trimL (cfg.keep 17) (sub (bodyOf Tryz.f17) [1,1,1,1,1,1,0,1,0,0]) al) H) (blockL 0 (template_Replace_K1 H0)))
noncomputable def template_Replace_J7 (x1 x2 x3 x4 x15 x16 x17 x19 x31 x32 x33:AV) (H0 H:Hp):Res:=CXL cfg (callw cfg) (LPL cfg (cfg.keep 17) 82) (cfg.keep 17) 82 seqL blockL (sub (bodyOf Tryz.f17) [1,1,1,1,1,1,0,1,0,0,1,1,0,0,1,1]) (blockL 1 (template_Replace_K2 H0)) [(1,x1),(2,x2),(3,x3),(4,x4),(15,x15),(16,x16),(17,x17),(19,x19),(31,x31),(32,x32),(33,x33)] H
noncomputable def template_Replace_J5 (x1 x2 x3 x4 x15 x16 x17 x31 x32 x33 x34:AV) (H0 H:Hp):Res:=CXL cfg (callw cfg) (LPL cfg (cfg.keep 17) 82) (cfg.keep 17) 82 seqL blockL (sub (bodyOf Tryz.f17) [1,1,1,1,1,1,0,1,0,0,1,1]) (seqL (fun k al H=>LPL cfg (cfg.keep 17) 82 (sub (bodyOf Tryz.f17) [1,1,1,1,1,1,0,1,0,0]) k (trimL (cfg.keep 17) (sub (bodyOf Tryz.f17) [1,1,1,1,1,1,0,1,0,0]) al) H) (blockL 0 (template_Replace_K1 H0))) [(1,x1),(2,x2),(3,x3),(4,x4),(15,x15),(16,x16),(17,x17),(31,x31),(32,x32),(33,x33),(34,x34)] H
noncomputable def template_Replace_L1 (x1 x2 x3 x4 x15 x16 x17 x31 x32 x33:AV) (H0 H:Hp):Res:=LPL cfg (cfg.keep 17) 82 (sub (bodyOf Tryz.f17) [1,1,1,1,1,1,0,1,0,0]) (blockL 0 (template_Replace_K1 H0)) [(1,x1),(2,x2),(3,x3),(4,x4),(15,x15),(16,x16),(17,x17),(31,x31),(32,x32),(33,x33)] H
noncomputable def template_Replace_J2 (x1 x2 x3 x4 x13:AV) (H0 H:Hp):Res:=CXL cfg (callw cfg) (LPL cfg (cfg.keep 17) 82) (cfg.keep 17) 82 seqL blockL (sub (bodyOf Tryz.f17) [1,1,1,1]) (retL cfg 82 17 Tryz.f17 H0) [(1,x1),(2,x2),(3,x3),(4,x4),(13,x13)] H
noncomputable def template_Replace_J1 (x1 x2 x3 x4 x5:AV) (H0 H:Hp):Res:=CXL cfg (callw cfg) (LPL cfg (cfg.keep 17) 82) (cfg.keep 17) 82 seqL blockL (sub (bodyOf Tryz.f17) [1,1]) (retL cfg 82 17 Tryz.f17 H0) [(1,x1),(2,x2),(3,x3),(4,x4),(5,x5)] H
noncomputable def F_template_Replace (p0 p1 p2 p3 p4:AV) (H:Hp):Res:=
 bnd (abox p0 H) fun r5=>
 bnd (ibin .lss p3 (.int .i64 1)) fun t21=>
 cnd t21
  (some ((.tuple [(.str []),(.int .i64 0),(.int .i64 2)]),r5.2))
  (template_Replace_J1 p1 p2 p3 p4 r5.1 H r5.2)
theorem template_Replace_J4_eq (x15 x17:AV) (H0 H:Hp):template_Replace_J4 x15 x17 H0 H =
    bnd (stringE.run [x15] H) fun r80=>
    some ((.tuple [r80.1,x17,(.int .i64 0)]),r80.2):=(CXM_eq [3,6,10,12,18,19,22] _ _ _ _).trans (by kernel_rfl)
theorem template_Replace_J3_eq (x2 x15 x16 x17:AV) (H0 H:Hp):template_Replace_J3 x2 x15 x16 x17 H0 H =
    bnd (asliceS x2 (some x16) none none) fun t76=>
    bnd (textE.run [x15,t76] H) fun r77=>
    bnd (lenE.run [x15] r77.2) fun r78=>
    bnd (ibin .gtr r78.1 (.int .i64 65536)) fun t79=>
    cnd t79
     (some ((.tuple [(.str []),(.int .i64 0),(.int .i64 3)]),r78.2))
     (template_Replace_J4 x15 x17 H0 r78.2):=(CXM_eq [3,6,10,12,18,19,22] _ _ _ _).trans (by kernel_rfl)
theorem template_Replace_J6_eq (x1 x2 x3 x4 x15 x16 x17 x31 x32 x33:AV) (H0 H:Hp):template_Replace_J6 x1 x2 x3 x4 x15 x16 x17 x31 x32 x33 H0 H =
    bnd (ibin .add x33 (.int .i64 1)) fun t73=>
    template_Replace_L1 x1 x2 x3 x4 x15 x16 x17 x31 x32 t73 H0 H:=(CXM_eq [3,6,10,12,18,19,22] _ _ _ _).trans (by kernel_rfl)
theorem template_Replace_J7_eq (x1 x2 x3 x4 x15 x16 x17 x19 x31 x32 x33:AV) (H0 H:Hp):template_Replace_J7 x1 x2 x3 x4 x15 x16 x17 x19 x31 x32 x33 H0 H =
    bnd (afield 0 x19) fun t52=>
    bnd (aload false 1 t52 H) fun t53=>
    bnd (aindexS 2 t53 (.int .i64 0)) fun t54=>
    bnd (afield 0 t54) fun t55=>
    bnd (aload false 1 t55 H) fun t56=>
    bnd (asliceS x2 (some x16) (some t56) none) fun t57=>
    bnd (textE.run [x15,t57] H) fun r58=>
    bnd (aload true 1 x19 r58.2) fun t61=>
    bnd (C_template_Expand [x1,x2,t61] r58.2) fun r62=>
    bnd (textE.run [x15,r62.1] r62.2) fun r63=>
    bnd (afield 0 x19) fun t64=>
    bnd (aload false 1 t64 r63.2) fun t65=>
    bnd (aindexS 2 t65 (.int .i64 0)) fun t66=>
    bnd (afield 1 t66) fun t67=>
    bnd (aload false 1 t67 r63.2) fun t68=>
    bnd (ibin .add x17 (.int .i64 1)) fun t70=>
    bnd (lenE.run [x15] r63.2) fun r71=>
    bnd (ibin .gtr r71.1 (.int .i64 65536)) fun t72=>
    cnd t72
     (some ((.tuple [(.str []),(.int .i64 0),(.int .i64 3)]),r71.2))
     (template_Replace_J6 x1 x2 x3 x4 x15 t68 t70 x31 x32 x33 H0 r71.2):=(CXM_eq [3,6,10,12,18,19,22] _ _ _ _).trans (by kernel_rfl)
theorem template_Replace_J5_eq (x1 x2 x3 x4 x15 x16 x17 x31 x32 x33 x34:AV) (H0 H:Hp):template_Replace_J5 x1 x2 x3 x4 x15 x16 x17 x31 x32 x33 x34 H0 H =
    bnd (aindexS 1 x31 x33) fun t36=>
    bnd (aload true 1 t36 H) fun t37=>
    bnd (some ((.ptr H.length 0),H++[.cells [.nils]])) fun r19=>
    bnd (astoreU 1 r19.1 t37 r19.2) fun r_18=>
    bnd (ibin .add x33 (.int .i64 1)) fun t39=>
    bnd (ibin .lss t39 x3) fun t41=>
    bnd (gdv t41 false (.tuple []) (some x17)) fun t43=>
    bnd (gdv t41 false (.tuple []) (ibin .gtr t43 (.int .i64 0))) fun t44=>
    bnd (gdv t41 false (.tuple []) (some t44)) fun t45=>
    bnd (gdv t45 true (.tuple []) (some x4)) fun t46=>
    bnd (gdv t45 true (.tuple []) (aun .not t46)) fun t47=>
    bnd (gdv t41 false (.tuple []) (apick t45 t47 (.bool false))) fun t48=>
    bnd (apick t41 (.bool true) t48) fun t49=>
    cnd t49
     (template_Replace_J6 x1 x2 x3 x4 x15 x16 x17 x31 x32 x33 H0 r_18.2)
     (template_Replace_J7 x1 x2 x3 x4 x15 x16 x17 r19.1 x31 x32 x33 H0 r_18.2):=(CXM_eq [3,6,10,12,18,19,22] _ _ _ _).trans (by kernel_rfl)
theorem template_Replace_L1_eq (x1 x2 x3 x4 x15 x16 x17 x31 x32 x33:AV) (H0 H:Hp):template_Replace_L1 x1 x2 x3 x4 x15 x16 x17 x31 x32 x33 H0 H =
    bnd (ibin .lss x33 x32) fun t34=>
    cnd t34
     (template_Replace_J5 x1 x2 x3 x4 x15 x16 x17 x31 x32 x33 t34 H0 H)
     (template_Replace_J3 x2 x15 x16 x17 H0 H):=(LPL_eqm (C:=cfg) [3,6,10,12,18,19,22] (tame_block 0 (template_Replace_K1_tame H0)) _ _).trans (by kernel_rfl)
theorem template_Replace_J2_eq (x1 x2 x3 x4 x13:AV) (H0 H:Hp):template_Replace_J2 x1 x2 x3 x4 x13 H0 H =
    bnd (some ((.ptr H.length 0),H++[.bld 66 5 []])) fun r15=>
    bnd (alenD (.slice 31) x13) fun t32=>
    template_Replace_L1 x1 x2 x3 x4 r15.1 (.int .i64 0) (.int .i64 0) x13 t32 (.int .i64 0) H0 r15.2:=(CXM_eq [3,6,10,12,18,19,22] _ _ _ _).trans (by kernel_rfl)
theorem template_Replace_J1_eq (x1 x2 x3 x4 x5:AV) (H0 H:Hp):template_Replace_J1 x1 x2 x3 x4 x5 H0 H =
    bnd (aload true 12 x5 H) fun t23=>
    bnd (flatC C_regex_All [t23,x2] H) fun r25=>
    bnd (aext r25.1 0) fun t26=>
    bnd (aext r25.1 1) fun t27=>
    bnd (ibin .neq t27 (.int .i64 0)) fun t29=>
    cnd t29
     (some ((.tuple [(.str []),(.int .i64 0),t27]),r25.2))
     (template_Replace_J2 x1 x2 x3 x4 t26 H0 r25.2):=(CXM_eq [3,6,10,12,18,19,22] _ _ _ _).trans (by kernel_rfl)
theorem F_template_Replace_eq (p0 p1 p2 p3 p4:AV) (H:Hp):C_template_Replace [p0,p1,p2,p3,p4] H=F_template_Replace p0 p1 p2 p3 p4 H:=(callw_cxm (C:=cfg) (fn:=Tryz.f17) (c:=bodyOf Tryz.f17) (n:=82) [3,6,10,12,18,19,22] Tryz.func17 (by kernel_rfl) (by kernel_rfl) [p0,p1,p2,p3,p4] (by kernel_rfl) H).trans (by kernel_rfl)

theorem user_ok:∀ f ∈ userList,UserOk Tryz.prog f:=
 userOk_cons Tryz.call3 (
 userOk_cons Tryz.call4 (
 userOk_cons Tryz.call5 (
 userOk_cons Tryz.call6 (
 userOk_cons Tryz.call7 (
 userOk_cons Tryz.call8 (
 userOk_cons Tryz.call9 (
 userOk_cons Tryz.call10 (
 userOk_cons Tryz.call11 (
 userOk_cons Tryz.call12 (
 userOk_cons Tryz.call13 (
 userOk_cons Tryz.call14 (
 userOk_cons Tryz.call15 (
 userOk_cons Tryz.call16 (
 userOk_cons Tryz.call17 (
 userOk_cons Tryz.call18 (
 userOk_cons Tryz.call19 (
 userOk_cons Tryz.call20 (
 userOk_cons Tryz.call21 (
 userOk_cons Tryz.call22 (
 userOk_cons Tryz.call23 (
 userOk_cons Tryz.call24 (
 userOk_cons Tryz.call25 (
 userOk_cons Tryz.call26 (
 userOk_cons Tryz.call27 (
 userOk_cons Tryz.call28 (
 userOk_cons Tryz.call29 (
 userOk_cons Tryz.call30 (
 userOk_cons Tryz.call31 (
 userOk_cons Tryz.call32 (
 userOk_cons Tryz.call33 (
 userOk_cons Tryz.call34 (
 userOk_cons Tryz.call35 (
 userOk_cons Tryz.call36 (
 userOk_cons Tryz.call37 (
 userOk_cons Tryz.call38 (
 userOk_cons Tryz.call40 (
 userOk_cons Tryz.call41 (
 userOk_cons Tryz.call42 (
 userOk_cons Tryz.call43 (
 userOk_cons Tryz.call44 (
 userOk_cons Tryz.call45 (
 userOk_cons Tryz.call46 (
 userOk_cons Tryz.call47 (
 userOk_cons Tryz.call48 (
 userOk_cons Tryz.call49 (
 userOk_cons Tryz.call50 (
 userOk_cons Tryz.call51 (
 userOk_cons Tryz.call52 (
 userOk_cons Tryz.call53 (
 userOk_cons Tryz.call54 (
 userOk_cons Tryz.call55 (
 userOk_cons Tryz.call56 (
 userOk_cons Tryz.call57 (
 userOk_cons Tryz.call58 (
 userOk_cons Tryz.call59 (
 userOk_cons Tryz.call60 (
 userOk_cons Tryz.call61 (
 userOk_cons Tryz.call62 (
 userOk_cons Tryz.call63 (
 userOk_cons Tryz.call64 (
 userOk_cons Tryz.call65 (
 userOk_cons Tryz.call66 (
 userOk_cons Tryz.call67 (
 userOk_cons Tryz.call68 (
 userOk_cons Tryz.call69 (
 userOk_cons Tryz.call70 (
 userOk_cons Tryz.call71 (
 userOk_cons Tryz.call72 (
 userOk_cons Tryz.call73 (
 userOk_cons Tryz.call74 (
 userOk_cons Tryz.call75 (
 userOk_cons Tryz.call76 (
 userOk_cons Tryz.call77 (
 userOk_cons Tryz.call78 (
 userOk_cons Tryz.call79 (
 userOk_cons Tryz.call80 (
 userOk_cons Tryz.call81 (
 userOk_cons Tryz.call82 (
 userOk_cons Tryz.call83 (
 userOk_cons Tryz.call84 (
 userOk_cons Tryz.call85 (
 userOk_cons Tryz.call86 (
 userOk_cons Tryz.call87 (
 userOk_cons Tryz.call88 (
 userOk_cons Tryz.call89 (
 userOk_cons Tryz.call90 (
 userOk_cons Tryz.call91 (
 userOk_cons Tryz.call92 (
 userOk_cons Tryz.call93 (
 userOk_cons Tryz.call94 (
 userOk_cons Tryz.call95 (
 userOk_cons Tryz.call96 (
 userOk_cons Tryz.call97 (
 userOk_cons Tryz.call98 (
 userOk_cons Tryz.call99 (
 userOk_cons Tryz.call100 (
 userOk_cons Tryz.call101 (
 userOk_cons Tryz.call102 (
 userOk_cons Tryz.call103 (
 userOk_cons Tryz.call104 (
 userOk_cons Tryz.call105 (
 userOk_cons Tryz.call106 (
 userOk_cons Tryz.call107 (
 userOk_cons Tryz.call108 (
 userOk_cons Tryz.call109 (
 userOk_cons Tryz.call110 (
 userOk_cons Tryz.call111 (
 userOk_cons Tryz.call112 (
 userOk_cons Tryz.call113 (
 userOk_cons Tryz.call114 (
 userOk_cons Tryz.call115 (
 userOk_cons Tryz.call116 (
 userOk_cons Tryz.call117 (
 userOk_cons Tryz.call118 (
 userOk_cons Tryz.call119 (
 userOk_cons Tryz.call120 (
 userOk_cons Tryz.call121 (
 userOk_cons Tryz.call122 (
 userOk_cons Tryz.call123 (
 userOk_cons Tryz.call124 (
 userOk_cons Tryz.call125 (
 userOk_cons Tryz.call126 (
 userOk_cons Tryz.call127 (
 userOk_cons Tryz.call128 (
 userOk_cons Tryz.call129 (
 userOk_cons Tryz.call130 (
 userOk_cons Tryz.call131 (
 userOk_cons Tryz.call132 (
 userOk_cons Tryz.call133 (
 userOk_cons Tryz.call134 (
 userOk_cons Tryz.call135 (
 userOk_cons Tryz.call136 (
 userOk_cons Tryz.call137 (
 userOk_cons Tryz.call138 (
 userOk_cons Tryz.call139 (
 userOk_cons Tryz.call140 (
 userOk_cons Tryz.call141 (
 userOk_cons Tryz.call142 (
 userOk_cons Tryz.call143 (
 userOk_cons Tryz.call144 (
 userOk_cons Tryz.call145 (
 userOk_cons Tryz.call146 (
 userOk_cons Tryz.call147 (
 userOk_cons Tryz.call148 (
 userOk_cons Tryz.call166 (
 userOk_cons Tryz.call167 (
 userOk_cons Tryz.call168 (
 userOk_cons Tryz.call169 (
 userOk_cons Tryz.call170 (
 userOk_cons Tryz.call171 (
 userOk_cons Tryz.call172 (
 userOk_cons Tryz.call173 (
 userOk_cons Tryz.call174 (
 userOk_cons Tryz.call175 (
 userOk_cons Tryz.call176 (
 userOk_cons Tryz.call177 (
 userOk_cons Tryz.call178 (
 userOk_cons Tryz.call179 (
 userOk_cons Tryz.call180 (
 userOk_cons Tryz.call181 (
 userOk_cons Tryz.call182 (
 userOk_cons Tryz.call183 (
 userOk_cons Tryz.call184 (
 userOk_cons Tryz.call185 (
 userOk_cons Tryz.call186 (
 userOk_cons Tryz.call187 (
 userOk_cons Tryz.call188 (
 userOk_cons Tryz.call189 (
 userOk_cons Tryz.call190 (
 userOk_cons Tryz.call191 (
 userOk_cons Tryz.call192 (
 userOk_cons Tryz.call193 (
 userOk_cons Tryz.call194 (
 userOk_cons Tryz.call195 (
 userOk_cons Tryz.call196 (
 userOk_cons Tryz.call197 (
 userOk_cons Tryz.call198 (
 userOk_cons Tryz.call199 (
 userOk_cons Tryz.call200 (
 userOk_cons Tryz.call201 (userOk_nil)))))))))))))))))))))))))))))))))))))))))))))))))))))))))))))))))))))))))))))))))))))))))))))))))))))))))))))))))))))))))))))))))))))))))))))))))))))))))))))))))))))))))))))))))))))
theorem eq_ok:∀ t ∈ eqList,Tryz.prog.stoodInHeld t=false∧Tryz.prog.eqGuardType Tryz.prog.depth t=false:=by
 intro t ht
 simp only [eqList,List.mem_cons,List.not_mem_nil,or_false] at ht
 rcases ht with rfl | rfl | rfl
 ·exact ⟨by kernel_rfl,Tryz.eqGuardType36⟩
 ·exact ⟨Tryz.stoodInHeld38,Tryz.eqGuardType38⟩
 ·exact ⟨Tryz.stoodInHeld56,Tryz.eqGuardType56⟩
theorem ext39_ok (args:Array Value) (w:World):(callFunc 39 args).run Tryz.prog w=(do pure (.value (← extF .same args)):Sem Next).run Tryz.prog w:=by kernel_rfl
theorem ext_ok:∀ f e,cfg.ext f=some e→∀ (args:Array Value) (w:World),(callFunc f args).run Tryz.prog w=(do pure (.value (← extF e args)):Sem Next).run Tryz.prog w:=by
 intro f e h
 have h2:=lookup_mem (l:=extList) h
 simp only [extList,List.mem_cons,Prod.mk.injEq,List.not_mem_nil,or_false] at h2
 rcases h2 with ⟨rfl,rfl⟩
 ·exact ext39_ok
theorem sum_ok:∀ f g,cfg.sum f=some g→cfg.user f=true∧SumOk cfg f g:=by
 intro f g h
 cases (show (none:Option (List AV→Option AV))=some g from h)
theorem eff_ok:∀ f g,cfg.eff f=some g→cfg.user f=true∧EffOk cfg f g:=by
 intro f g h
 have h2:=lookup_mem (l:=effList) h
 simp only [effList,List.mem_cons,Prod.mk.injEq,List.not_mem_nil,or_false] at h2
 rcases h2 with ⟨rfl,rfl⟩ | ⟨rfl,rfl⟩ | ⟨rfl,rfl⟩ | ⟨rfl,rfl⟩
 ·exact ⟨by kernel_rfl,byteE_ok (C:=cfg) rfl (fun _=>rfl)⟩
 ·exact ⟨by kernel_rfl,textE_ok (C:=cfg) rfl (fun _=>rfl)⟩
 ·exact ⟨by kernel_rfl,stringE_ok (C:=cfg) rfl (fun _=>rfl)⟩
 ·exact ⟨by kernel_rfl,lenE_ok (C:=cfg) rfl (fun _=>rfl)⟩
theorem cfg_ok:okCfg cfg:=
 ⟨fun t h=>eq_ok t (List.contains_iff_mem.1 h),fun f h=>user_ok f (List.contains_iff_mem.1 h),by kernel_rfl,ext_ok,sum_ok,eff_ok⟩
end Go.Am
