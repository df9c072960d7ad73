/-
  The functions of the translation over the abstract machine: written by program (wip/gen.py).
-/
import Derived.Test.YtehanadfidoodaaGreatDoorProg
import Derived.Test.YtehanadfidoodaaGreatDoorNkPx
namespace Go.Am
open Go.Proofs
set_option maxRecDepth 100000
set_option linter.unusedVariables false
set_option linter.unusedSimpArgs false

def keepList:List (Nat × List (Nat × List Nat)):=[(3,[(3,[2,3,4])]),
  (4,[(4,[5,6]),(5,[5,6,7]),(6,[5,6,7]),(7,[5,6,7]),(9,[])]),
  (5,[(4,[0,1,5,6,7]),(5,[0,1,5,6,7]),(6,[0,1,5,6,7]),(8,[0,1,5,6,7]),(10,[0,1,5,6,7]),(11,[0,6])]),
  (6,[(3,[1,2]),(4,[1,2,5]),(5,[1,2,5]),(6,[1,2,5]),(8,[1,2]),(11,[1,2,6]),(14,[1,2,6,8]),(16,[1,2,9,10]),(17,[1,2,9,10]),(20,[1,2,9,10,11,12]),(21,[1,2,9,10,11]),(22,[1,2,9,10])]),
  (7,[(3,[0,1,2]),(4,[0,1,2,7]),(5,[0,1,2,7]),(6,[0,1,2,7]),(8,[0,1,2]),(12,[0,1,2,8,9]),(15,[0,1,2,8,9,11]),(17,[0,1,2,8,12,13,14]),(18,[0,1,2,8,12,13,14]),(19,[0,1,2,8,12,13,14]),(24,[0,1,2,8,12,13,14]),(25,[0,1,2,8,12,13,14]),(27,[0,1,2,8,12,13,14,18,19,20]),(31,[])]),
  (8,[(3,[0,1]),(6,[5,6]),(7,[5,6,7]),(8,[5,6,7]),(9,[5,6,7]),(11,[5,6,7]),(12,[5,6,7,8]),(13,[5,6,7,8]),(14,[5,6,7,8]),(16,[])]),
  (9,[(3,[0,1]),(6,[0,1,5,6,7]),(7,[0,1,5,6,7]),(8,[0,1,5,6,7]),(9,[0,1,5,6,7,8]),(10,[0,1,5,6,7,8]),(11,[0,1,5,6,7,8]),(13,[0,1,5,6,7,8]),(14,[0,1,5,6,7]),(16,[0,6])]),
  (10,[(3,[2,3,4]),(1000004,[3,4])]),
  (11,[(3,[2,3,4]),(6,[2,3,4,7,8]),(1000006,[3,4])]),
  (13,[(3,[2,3,4]),(11,[3,4,7,8,15]),(19,[22,23,24,25,27,28,29]),(1000005,[3,4]),(1000007,[3,4]),(1000008,[3,4])]),
  (14,[(3,[2,3,4]),(8,[2,3,7,8,9,10,11,12,13,14]),(9,[2,3,7,8,9,10,11,12,13,14]),(10,[2,3,7,8,9,10,11,12,13,14]),(11,[2,3,7,8,9,10,11,12,13]),(13,[2,3,7,8,11,13]),(1000016,[3,15]),(1000017,[3,15])]),
  (15,[(3,[2]),(4,[2,7]),(5,[2,7]),(6,[2,7]),(8,[])]),
  (16,[(3,[0,3,4]),(4,[0,3,4]),(5,[0,3,4]),(6,[3])]),
  (18,[(3,[0,1]),(4,[0,1,5]),(5,[0,1,5]),(6,[0,1,5]),(8,[])]),
  (19,[(3,[2,3,4]),(7,[3,4,7,8,9,10]),(8,[3,4,7,8,9]),(9,[3,4,7,8,9,10]),(11,[3,4,9]),(13,[9]),(1000003,[3,4])]),
  (20,[(4,[2,7,8]),(5,[2,7,8]),(6,[2,7,8]),(7,[7]),(8,[2,3,4,7]),(9,[2,3,4,7,9]),(11,[2,3,4,7,9,10,11]),(12,[2,3,4,7,9,10,11]),(13,[2,3,4,7,9,10,11]),(15,[2,3,4,7,9,10]),(17,[2,3,4,7,9,10])]),
  (21,[(5,[1,5,6,7,8,15,16,17]),(6,[1,5,6,7,8,15,16,17,18]),(11,[1,5,6,7,8,11,15,16,17]),(12,[1,5,6,7,8,15,16,17]),(13,[5,6,7]),(16,[6])]),
  (22,[(4,[0,1,5,6,7]),(5,[0,1,5,6,7]),(6,[0,1,5,6,7]),(15,[5])]),
  (23,[(3,[0,1]),(4,[0,1,5]),(5,[0,1,5]),(6,[0,1,5]),(8,[])]),
  (24,[(9,[7,8,9,10,11,12])]),
  (25,[(3,[0,3,4]),(4,[0,3,4]),(5,[0,3,4]),(6,[3])]),
  (26,[(3,[0,3,4]),(4,[0,3,4]),(5,[0,3,4]),(7,[0,3,4]),(8,[3])]),
  (28,[(3,[0,1,2]),(5,[0,1,2]),(6,[0,1,2,18,19,20]),(7,[0,1,2,18,19,20,21]),(11,[0,1,2,18,19,20]),(12,[0,1,2])]),
  (30,[(3,[0,3,5,6]),(6,[0,3,5,6,10]),(9,[0,10]),(12,[10])]),
  (31,[(4,[0,1,2,3,4]),(5,[0,1,2,3,4]),(6,[0,1,2,3,4]),(9,[0,1,2,3,4,5,6]),(11,[0,1,2,3,4,5,6]),(14,[0,1,2,3])]),
  (32,[(3,[0,1])]),
  (33,[(4,[5,6,7])]),
  (34,[(3,[2,3,4]),(6,[7]),(1000003,[3,4])]),
  (36,[(3,[0]),(11,[0]),(13,[0])]),
  (37,[(1,[0,1]),(3,[0,1,18,19,20]),(4,[0,1,18,19,20,21]),(10,[0,1,18,19,20])]),
  (38,[(1000003,[1,2])]),
  (39,[(4,[1,5,12,13]),(5,[1,5,12,13,14]),(8,[1,5,6,12,13]),(10,[1,5,12,13]),(11,[5])]),
  (40,[(3,[0,1]),(5,[0,1]),(7,[0,1,5,6]),(8,[0,1,5,6]),(10,[0,1,5,6,7,8]),(11,[0,1,5,6,7,8]),(12,[0,1,5,6,7,8]),(14,[0,1,5,6,7]),(15,[5])]),
  (41,[(2,[0,3]),(3,[0,3]),(4,[0,3]),(5,[0,3,4]),(6,[0,3,4]),(7,[0,3,4]),(9,[0,3]),(11,[0])]),
  (42,[(4,[2,3,4,5,11,12,13,14]),(5,[2,3,4,5,11,12,13,14]),(6,[2,3,4,5,11,13,14]),(12,[2,3,4,5,11,12,13,14,15]),(14,[2,3,4,5,11,12,13,14,15]),(15,[11,12,13])]),
  (43,[(3,[0,1,6,7]),(4,[0,1,6,7]),(5,[0,1,6,7]),(8,[0,1,6,7,8,9]),(11,[0,1,6,7,8]),(12,[6])]),
  (44,[(1000002,[4])]),
  (45,[(3,[0,1,5,6]),(4,[0,1,5,6]),(5,[0,1,5,6]),(6,[5])]),
  (46,[(3,[0,3,4]),(4,[0,3,4]),(5,[0,3,4]),(6,[3])]),
  (47,[(3,[0,1]),(4,[0,1,5]),(5,[0,1,5]),(6,[0,1,5]),(8,[])]),
  (53,[(3,[0]),(5,[0,3,10,11,12]),(6,[0,3,10,11,12,13]),(9,[0,3,10,11,12]),(10,[3])]),
  (58,[(3,[0]),(5,[0]),(6,[0]),(10,[0,3]),(11,[0])]),
  (59,[(3,[0]),(6,[0,5]),(7,[0,5])]),
  (60,[(3,[0,3,5,6]),(6,[0,3,5,6,10]),(8,[0,5,6,10,12,31,32,33]),(9,[0,5,6,10,12,31,32,33,34]),(11,[0,5,6,10,12,31,32,33]),(12,[0,5,6,10,12]),(13,[0,10,15]),(16,[0,10,15,16,17]),(17,[0,10,15,16]),(20,[0,10]),(23,[10])]),
  (61,[(3,[0])]),
  (63,[(3,[2,3,4]),(4,[2,3,4,7]),(5,[2,3,4,7]),(6,[2,3,4,7]),(9,[])]),
  (64,[(3,[1]),(5,[1]),(6,[33,34,35]),(7,[33,34,35,36]),(10,[33,34,35]),(11,[])]),
  (65,[(3,[0,3,9,10,11]),(4,[0,3,9,10,11,12]),(8,[0,3,9,10,11]),(9,[0,3]),(11,[6,25,26,27]),(12,[6,25,26,27,28]),(14,[6,25,26,27]),(15,[6])]),
  (67,[(5,[2,3,4,5]),(8,[9])]),
  (68,[(3,[0])]),
  (69,[(3,[0,1,5,8,9,10]),(4,[0,1,5,8,9,10,11]),(7,[0,1,5,8,9,10]),(8,[5])]),
  (70,[(3,[1,5,8,9,10]),(4,[1,5,8,9,10,11]),(7,[1,5,8,9,10]),(8,[5])]),
  (72,[(4,[2,3,4,5]),(5,[2,3,4,5,26,27,28]),(6,[2,3,4,5,26,27,28,29]),(10,[2,3,4,5,10,11,26,27,28]),(13,[2,3,4,5,26,27,28]),(14,[]),(1000010,[4,5,10])]),
  (73,[(3,[1]),(5,[1]),(6,[1,3]),(7,[1,3]),(8,[1,3]),(10,[])]),
  (74,[(5,[2,3,4,5]),(8,[9])]),
  (75,[(3,[2,3,4,7,8]),(4,[2,3,4,7,8]),(5,[2,3,4,7,8]),(7,[7])]),
  (76,[(3,[0])]),
  (77,[(2,[0,7,8]),(3,[0,7,8,9]),(8,[0,7,8]),(9,[0])]),
  (78,[(4,[0,1,5]),(6,[5,6,21,22,23]),(7,[5,6,21,22,23,24]),(11,[5,6,21,22,23]),(12,[5])]),
  (79,[(4,[6])]),
  (80,[(3,[0]),(5,[0]),(9,[0,4])]),
  (81,[(4,[0,1,2]),(6,[0,1,2]),(9,[0,1,8]),(11,[0,1,8])]),
  (82,[(4,[0,1]),(7,[0,1])]),
  (83,[(3,[0,1]),(6,[1,6,7,8]),(7,[1,6,7,8]),(12,[6,7,8])]),
  (86,[(4,[0,1,2]),(7,[2,10]),(9,[2,10]),(12,[2,12,13])]),
  (94,[(4,[2,3,4,7]),(5,[2,3,4,7,8]),(6,[2,3,4,7,8]),(7,[2,3,4,7,8]),(8,[3,4,7])]),
  (102,[(5,[1,5,6,7,20,21,22]),(6,[1,5,6,7,20,21,22,23]),(10,[1,5,6,7,8,10,11,20,21,22]),(12,[1,5,6,7,20,21,22]),(13,[1,5,7]),(15,[1,5]),(18,[13])]),
  (103,[(3,[0,3,10,11,12]),(4,[0,3,10,11,12,13]),(7,[0,3,10,11,12]),(8,[3])]),
  (104,[(3,[0,1]),(6,[0])]),
  (105,[(3,[1,2])]),
  (106,[(5,[1,2,8,9,24,25]),(6,[1,2,8,9,24,25,26]),(9,[1,2,8,9,10,24,25]),(11,[1,2,8,9,24,25]),(12,[1,2,8,9]),(14,[1,2,8,9]),(16,[1,2]),(1000002,[3])]),
  (107,[(4,[4,5,6,7,9]),(8,[4,5,6,7,9]),(1000011,[4])]),
  (108,[(4,[0,2,4,7,8]),(12,[0,7,10]),(14,[0,7,10])]),
  (109,[(3,[1])]),
  (110,[(3,[1,2])]),
  (111,[(4,[2,3,4,5]),(5,[2,3,4,5,9]),(6,[2,3,4,5,9]),(7,[2,3,4,5,9]),(10,[2,3,4,5,9,10]),(13,[]),(1000010,[4,5,10])]),
  (112,[(5,[1,2])]),
  (115,[(2,[0,5,6]),(3,[0,5,6,7]),(6,[0,5,6]),(7,[0])]),
  (116,[(3,[0,1]),(5,[0,1]),(8,[6])]),
  (119,[(11,[0,1]),(13,[0,1])]),
  (120,[(7,[])]),
  (121,[(3,[4,9,10,11]),(4,[4,9,10,11,12]),(8,[4,7,9,10,11]),(9,[4,9,10,11]),(10,[4])]),
  (122,[(4,[0,2,7]),(6,[0,2,7])]),
  (123,[(4,[6])]),
  (124,[(4,[2,3,10]),(6,[2,3,10])]),
  (125,[(3,[0,1]),(6,[1,7]),(9,[1,7,8]),(11,[1,7,8]),(13,[1,7,8])]),
  (127,[(3,[0]),(4,[0,3]),(5,[0,3]),(6,[0,3]),(9,[])]),
  (138,[(2,[2,3,4,5,9]),(3,[2,3,4,5,9]),(4,[2,3,9])]),
  (142,[(4,[0,1,5]),(5,[0,1,5,6]),(6,[0,1,5,6]),(7,[0,1,5,6]),(11,[0,5])]),
  (147,[(3,[1,2])]),
  (149,[(3,[1,2,3,6,16,17,18]),(4,[1,2,3,6,16,17,18,19]),(6,[1,2,3,6,16,17,18]),(7,[1,2,3,6]),(8,[1,2,3,6,9]),(9,[1,2,3,6,9]),(14,[1,2,3,6,9,10,11]),(15,[1,2,3,6,9,10])]),
  (152,[(2,[0,4]),(3,[0,4]),(4,[0,4]),(7,[0,4,5]),(14,[5,6,7,8,9]),(16,[5,7,8,9]),(19,[9,11])]),
  (153,[(5,[])]),
  (157,[(3,[0,3,7,8]),(4,[0,3,7,8,9]),(8,[0,3,7,8]),(9,[3])]),
  (160,[(3,[0,1,2,6,9]),(4,[0,1,2,6,9]),(7,[0,1,2,6,9,10]),(9,[0,1,2,6,9,10]),(10,[0,1,6]),(11,[0,1,6,11]),(12,[0,1,6,11]),(13,[0,1,6,11]),(14,[0,1,6,7,11]),(15,[0,1,6,7,11]),(16,[0,1,6,7,11]),(17,[0,1,6,7,11]),(18,[0,1,6,7,11]),(20,[0,1,7,11]),(21,[])]),
  (161,[(5,[3,9]),(7,[9])]),
  (162,[(5,[0,4,7,8,9]),(12,[0,11,12]),(14,[0,11,12]),(1000002,[4]),(1000006,[10]),(1000011,[13])]),
  (163,[(3,[1,2])]),
  (164,[(2,[0,1,5]),(3,[0,1,5]),(4,[0,1,5]),(6,[0,1,5]),(8,[0,1]),(10,[0,1]),(12,[])]),
  (165,[(3,[1,2,5,6]),(4,[1,2,5,6]),(10,[5])]),
  (166,[(3,[0,1,5,6,7]),(4,[0,1,5,6,7]),(5,[0,1,5,6,7]),(6,[1,5,6]),(7,[1,5,6,8]),(8,[1,5,6,8]),(9,[1,5,6,8]),(10,[5,6])]),
  (167,[(6,[0])]),
  (169,[(2,[0,7,8]),(3,[0,7,8,9]),(8,[0,7,8]),(9,[0])]),
  (170,[(3,[0])]),
  (184,[(2,[0,1,7,8]),(3,[0,1,7,8,9]),(6,[0,1,7,8]),(7,[])]),
  (185,[(2,[0,1,7,8]),(3,[0,1,7,8,9]),(6,[0,1,7,8]),(7,[])]),
  (186,[(3,[1]),(5,[1]),(6,[1,27,28,29]),(7,[1,27,28,29,30]),(10,[1,27,28,29]),(11,[1]),(14,[1])]),
  (187,[(3,[0,1,5,6]),(4,[0,1,5,6,7]),(6,[0,1,5,6]),(7,[0,1])]),
  (189,[(2,[0,3]),(3,[0,3]),(4,[3])]),
  (190,[(3,[0,1,5,8,9]),(4,[0,1,5,8,9,10]),(8,[0,1,5,8,9]),(9,[1,5])]),
  (197,[(3,[0,5,10,11]),(4,[0,5,10,11,12]),(6,[0,5,10,11]),(7,[5])]),
  (199,[(5,[5,7]),(7,[])]),
  (200,[(1,[1,2,3]),(2,[1,2,3]),(3,[1,2,3]),(5,[1,2,3]),(7,[1])]),
  (201,[(5,[0,1,5,6,7]),(6,[0,1,5,6,7]),(7,[0,1,5,6,7]),(10,[0,5,6]),(11,[0,5,6]),(12,[0,5,6,8]),(13,[0,5,6,8]),(14,[0,5,6,8]),(17,[0,5,6]),(19,[5])]),
  (202,[(3,[1])]),
  (203,[(3,[1])]),
  (204,[(3,[1]),(5,[1]),(6,[1,3]),(7,[1,3]),(8,[1,3]),(10,[1]),(12,[1]),(15,[1])]),
  (205,[(2,[1,2,3,7]),(3,[1,2,3,7]),(4,[1,2,3,7]),(6,[])]),
  (208,[(3,[0,3,6,7]),(4,[0,3,6,7,8]),(8,[0,3,6,7]),(9,[3])]),
  (221,[(2,[0,7,8]),(3,[0,7,8,9]),(8,[0,7,8]),(9,[0])]),
  (222,[(3,[0]),(5,[3,10,11,12]),(6,[3,10,11,12,13]),(9,[3,5,10,11,12]),(11,[3,5,10,11,12]),(12,[3,10,11,12]),(13,[])]),
  (223,[(3,[0]),(5,[3,10,11,12]),(6,[3,10,11,12,13]),(9,[3,5,10,11,12]),(11,[3,5,10,11,12]),(12,[3,10,11,12]),(13,[])]),
  (224,[(3,[0,1,2,7,11,12]),(4,[0,1,2,7,11,12,13]),(8,[0,1,2,7,11,12]),(9,[7])]),
  (226,[(3,[0,3,5]),(4,[0,3,5,6]),(8,[0,3,5]),(9,[3])]),
  (231,[(2,[0,4]),(3,[0,4]),(4,[0,4]),(7,[0,4,5]),(14,[0,4,5,6,7,8]),(16,[0,4,5,6,7,8]),(18,[0,4,5,6,7,8]),(21,[5,7,10]),(23,[7,10])]),
  (233,[(3,[0,3,4]),(4,[0,3,4]),(5,[0,3,4]),(8,[3])]),
  (236,[(3,[0]),(4,[0,3]),(5,[0,3]),(6,[0,3]),(8,[0,3]),(9,[0,3,4]),(10,[0,3,4]),(11,[0,3,4]),(13,[])]),
  (237,[(3,[0]),(4,[0,3]),(5,[0,3]),(6,[0,3]),(8,[0,3]),(9,[0,3,4]),(10,[0,3,4]),(11,[0,3,4]),(13,[])]),
  (250,[(1,[0,1]),(2,[0,1]),(3,[1])]),
  (251,[(3,[0,1,6,7]),(4,[0,1,6,7]),(5,[0,1,6,7]),(8,[1,6]),(9,[1,6,8]),(10,[1,6,8]),(11,[1,6,8]),(14,[6])]),
  (252,[(3,[0,1,5,6]),(4,[0,1,5,6]),(5,[0,1,5,6]),(6,[5])])]
def userList:List Nat:=[3,4,5,6,7,8,9,10,11,12,13,14,15,16,17,18,19,20,21,22,23,24,25,26,27,28,29,30,31,32,33,34,35,36,37,38,39,40,41,42,43,44,45,46,47,48,49,50,51,52,53,54,55,56,57,58,59,60,61,62,63,64,65,66,67,68,69,70,71,72,73,74,75,76,77,78,79,80,81,82,83,84,85,86,87,88,89,90,91,92,93,94,95,96,97,98,99,100,101,102,103,104,105,106,107,108,109,110,111,112,113,114,115,116,117,118,119,120,121,122,123,124,125,126,127,128,129,130,131,132,133,134,135,136,137,138,139,140,141,142,143,144,145,146,147,148,149,150,151,152,153,154,155,156,157,158,159,160,161,162,163,164,165,166,167,168,169,170,171,172,173,174,175,176,177,178,179,180,181,182,183,184,185,186,187,188,189,190,191,192,193,194,195,196,197,198,199,200,201,202,203,204,205,206,207,208,209,210,211,212,213,214,215,216,217,218,219,220,221,222,223,224,226,227,228,229,230,231,232,233,234,235,236,237,238,240,241,242,243,244,245,246,247,248,250,251,252,253,254,255,256,257,258,259,261,262,263,264,265,266]
def pureList:List Nat:=[19,20]
def flatList:List Nat:=[15,16,17,18,19,20,21,22,23,24,25,26,27,31,34,38,39,40,41,46,47,52,62,63,64,66,67,70,71,72,73,74,75,76,77,83,84,85,88,89,94,105,106,107,109,110,111,112,113,114,115,118,121,125,127,128,131,134,135,138,140,146,147,148,151,152,153,155,157,158,159,161,163,164,165,166,169,170,173,178,180,183,185,186,187,188,189,190,197,199,200,204,205,208,220,221,222,223,224,226,231,233,234,235,236,237,246,250,251,252]
def extList:List (Nat × ExtK):=[(225,.cmp),(239,.same),(249,.indexByte)]
def roList:List Nat:=[53,54,61,78,90,103,136,181]
def eqList:List Nat:=[]
noncomputable def sumList:List (Nat × (List AV → Option AV)):=[(156,trimA),(168,itoaA)]
noncomputable def effList:List (Nat × EffFn):=[(87,namesE),(171,textE),(172,stringE),(196,byteE)]
def bldList:List (Nat × Nat):=[(192,5)]
def wrbList:List Nat:=[123]
def qkList:List (Nat × List Nat):=[(11,[12]),(14,[15])]
def linList:List Nat:=[22,32]
noncomputable def cfg:Cfg:={ P:=Tryz.prog,glob:=globF,sum:=fun f=>sumList.lookup f,user:=fun f=>userList.contains f,eqok:=fun t=>eqList.contains t,pure:=fun f=>pureList.contains f,flat:=fun f=>flatList.contains f,ext:=fun f=>extList.lookup f,keep:=keepTab keepList,eff:=fun f=>effList.lookup f,bld:=fun t=>bldList.lookup t,lin:=fun t=>linList.contains t,qk:=fun t a=>qkList.contains (t,a),wrb:=fun t=>wrbList.contains t,ro:=fun f=>roList.contains f }
noncomputable def C_L22_RunsPeeks:List AV → Hp → Res:=callw cfg 7
noncomputable def C_runs_Split:List AV → Hp → Res:=callw cfg 21
noncomputable def C_L22_small:List AV → Hp → Res:=callw cfg 26
noncomputable def C_tempfile_Open:List AV → Hp → Res:=callw cfg 28
noncomputable def C_store_New:List AV → Hp → Res:=callw cfg 29
noncomputable def C_runs_Write:List AV → Hp → Res:=callw cfg 30
noncomputable def C_R05_Default:List AV → Hp → Res:=callw cfg 31
noncomputable def C_runs_Open:List AV → Hp → Res:=callw cfg 32
noncomputable def C_runs_Reader_Next:List AV → Hp → Res:=callw cfg 33
noncomputable def C_memsort_Sort:List AV → Hp → Res:=callw cfg 34
noncomputable def C_store_Store_FailAfter:List AV → Hp → Res:=callw cfg 35
noncomputable def C_runs_Reader_Peek:List AV → Hp → Res:=callw cfg 36
noncomputable def C_store_Store_Restart:List AV → Hp → Res:=callw cfg 37
noncomputable def C_store_Store_List:List AV → Hp → Res:=callw cfg 53
noncomputable def C_sortkey_Check:List AV → Hp → Res:=callw cfg 64
noncomputable def C_sortkey_Order:List AV → Hp → Res:=callw cfg 67
noncomputable def C_memsort_once_of_string:List AV → Hp → Res:=callw cfg 70
noncomputable def C_sortkey_Compare:List AV → Hp → Res:=callw cfg 72
noncomputable def C_slices_Clone_of_string_string_:List AV → Hp → Res:=callw cfg 76
noncomputable def C_tempfile_valid:List AV → Hp → Res:=callw cfg 77
noncomputable def C_tempfile_Left:List AV → Hp → Res:=callw cfg 78
noncomputable def C_tempfile_Temps_New:List AV → Hp → Res:=callw cfg 80
noncomputable def C_tempfile_Temps_Write:List AV → Hp → Res:=callw cfg 81
noncomputable def C_tempfile_Temps_Seal:List AV → Hp → Res:=callw cfg 82
noncomputable def C_memsort_mergeSort_of_string:List AV → Hp → Res:=callw cfg 83
noncomputable def C_memsort_Sort_1:List AV → Hp → Res:=callw cfg 84
noncomputable def C_memsort_Sort_2:List AV → Hp → Res:=callw cfg 85
noncomputable def C_tempfile_Temps_Read:List AV → Hp → Res:=callw cfg 86
noncomputable def C_tempfile_owned_bytes:List AV → Hp → Res:=callw cfg 103
noncomputable def C_sortkey_valid:List AV → Hp → Res:=callw cfg 105
noncomputable def C_locale_Compare:List AV → Hp → Res:=callw cfg 106
noncomputable def C_sortkey_parts:List AV → Hp → Res:=callw cfg 107
noncomputable def C_sortkey_Extract:List AV → Hp → Res:=callw cfg 108
noncomputable def C_tempfile_prefix:List AV → Hp → Res:=callw cfg 114
noncomputable def C_store_Store_open:List AV → Hp → Res:=callw cfg 116
noncomputable def C_num_Format:List AV → Hp → Res:=callw cfg 118
noncomputable def C_store_Store_Create:List AV → Hp → Res:=callw cfg 119
noncomputable def C_tempfile_Temps_find:List AV → Hp → Res:=callw cfg 120
noncomputable def C_frame_Encode:List AV → Hp → Res:=callw cfg 121
noncomputable def C_store_Store_Append:List AV → Hp → Res:=callw cfg 122
noncomputable def C_store_Store_Sync:List AV → Hp → Res:=callw cfg 123
noncomputable def C_store_Store_Read:List AV → Hp → Res:=callw cfg 124
noncomputable def C_frame_Next:List AV → Hp → Res:=callw cfg 125
noncomputable def C_R05_IsName:List AV → Hp → Res:=callw cfg 127
noncomputable def C_slices_Contains_of_string_string:List AV → Hp → Res:=callw cfg 146
noncomputable def C_locale_valid:List AV → Hp → Res:=callw cfg 147
noncomputable def C_locale_Compare_1:List AV → Hp → Res:=callw cfg 148
noncomputable def C_locale_each:List AV → Hp → Res:=callw cfg 149
noncomputable def C_locale_Compare_1_1:List AV → Hp → Res:=callw cfg 150
noncomputable def C_strings_Compare:List AV → Hp → Res:=callw cfg 151
noncomputable def C_decimal_Prefix:List AV → Hp → Res:=callw cfg 152
noncomputable def C_sortkey_sign:List AV → Hp → Res:=callw cfg 153
noncomputable def C_sortkey_parts_1:List AV → Hp → Res:=callw cfg 154
noncomputable def C_sortkey_parts_2:List AV → Hp → Res:=callw cfg 155
noncomputable def C_sortkey_dict:List AV → Hp → Res:=callw cfg 157
noncomputable def C_sortkey_parts_3:List AV → Hp → Res:=callw cfg 158
noncomputable def C_locale_Upper:List AV → Hp → Res:=callw cfg 159
noncomputable def C_sortkey_field:List AV → Hp → Res:=callw cfg 160
noncomputable def C_R05_valid:List AV → Hp → Res:=callw cfg 163
noncomputable def C_store_Store_begin:List AV → Hp → Res:=callw cfg 167
noncomputable def C_store_fileName:List AV → Hp → Res:=callw cfg 169
noncomputable def C_frame_Record:List AV → Hp → Res:=callw cfg 170
noncomputable def C_frame_sum:List AV → Hp → Res:=callw cfg 173
noncomputable def C_slices_Index_of_string_string:List AV → Hp → Res:=callw cfg 185
noncomputable def C_locale_Check:List AV → Hp → Res:=callw cfg 186
noncomputable def C_locale_Default:List AV → Hp → Res:=callw cfg 187
noncomputable def C_internal_bytealg_CompareString:List AV → Hp → Res:=callw cfg 188
noncomputable def C_decimal_digits:List AV → Hp → Res:=callw cfg 189
noncomputable def C_decimal_value:List AV → Hp → Res:=callw cfg 190
noncomputable def C_sortkey_blank:List AV → Hp → Res:=callw cfg 195
noncomputable def C_locale_mapped:List AV → Hp → Res:=callw cfg 197
noncomputable def C_strings_IndexByte:List AV → Hp → Res:=callw cfg 198
noncomputable def C_R05_Check:List AV → Hp → Res:=callw cfg 204
noncomputable def C_frame_Crc:List AV → Hp → Res:=callw cfg 208
noncomputable def C_locale_name:List AV → Hp → Res:=callw cfg 221
noncomputable def C_locale_checkClasses:List AV → Hp → Res:=callw cfg 222
noncomputable def C_locale_checkElements:List AV → Hp → Res:=callw cfg 223
noncomputable def C_decimal_fraction:List AV → Hp → Res:=callw cfg 226
noncomputable def C_internal_stringslite_IndexByte:List AV → Hp → Res:=callw cfg 230
noncomputable def C_R05_Upper:List AV → Hp → Res:=callw cfg 234
noncomputable def C_R05_light:List AV → Hp → Res:=callw cfg 235
noncomputable def C_R05_checkClasses:List AV → Hp → Res:=callw cfg 236
noncomputable def C_R05_checkElements:List AV → Hp → Res:=callw cfg 237
noncomputable def C_R05_mapped:List AV → Hp → Res:=callw cfg 252
noncomputable def C_L22_awake:List AV → Hp → Res:=callw cfg 24
noncomputable def sortkey_Check_J3 (H0 H:Hp):Res:=CXL cfg (callw cfg) (LPL cfg (cfg.keep 64) 78) (cfg.keep 64) 78 seqL blockL (sub (bodyOf Tryz.f64) [1,1,1,1]) (retL cfg 78 64 Tryz.f64 H0) [] H
noncomputable def sortkey_Check_K1 (H0:Hp):KL:=seqL (fun k al H=>CXL cfg (callw cfg) (LPL cfg (cfg.keep 64) 78) (cfg.keep 64) 78 seqL blockL (sub (bodyOf Tryz.f64) [1,1,1,1]) k (trimL (cfg.keep 64) (sub (bodyOf Tryz.f64) [1,1,1,1]) al) H) (retL cfg 78 64 Tryz.f64 H0)
theorem sortkey_Check_K1_tame (H0:Hp):Tame 78 (sortkey_Check_K1 H0):=tame_seq (C:=cfg) (kp:=cfg.keep 64) (sub (bodyOf Tryz.f64) [1,1,1,1]) (tame_ret 64 Tryz.f64 H0)
noncomputable def sortkey_Check_J5 (x33 x34 x35:AV) (H0 H:Hp):Res:=CXL cfg (callw cfg) (LPL cfg (cfg.keep 64) 78) (cfg.keep 64) 78 seqL blockL (sub (bodyOf Tryz.f64) [1,1,1,0,1,0,0,1,1,1]) (seqL (fun k al H=>LPL cfg (cfg.keep 64) 78 (sub (bodyOf Tryz.f64) [1,1,1,0,1,0,0]) k (trimL (cfg.keep 64) (sub (bodyOf Tryz.f64) [1,1,1,0,1,0,0]) al) H) (blockL 0 (sortkey_Check_K1 H0))) [(33,x33),(34,x34),(35,x35)] H
noncomputable def sortkey_Check_J4 (x33 x34 x35 x36:AV) (H0 H:Hp):Res:=CXL cfg (callw cfg) (LPL cfg (cfg.keep 64) 78) (cfg.keep 64) 78 seqL blockL (sub (bodyOf Tryz.f64) [1,1,1,0,1,0,0,1,1]) (seqL (fun k al H=>LPL cfg (cfg.keep 64) 78 (sub (bodyOf Tryz.f64) [1,1,1,0,1,0,0]) k (trimL (cfg.keep 64) (sub (bodyOf Tryz.f64) [1,1,1,0,1,0,0]) al) H) (blockL 0 (sortkey_Check_K1 H0))) [(33,x33),(34,x34),(35,x35),(36,x36)] H
noncomputable def sortkey_Check_L1 (x33 x34 x35:AV) (H0 H:Hp):Res:=LPL cfg (cfg.keep 64) 78 (sub (bodyOf Tryz.f64) [1,1,1,0,1,0,0]) (blockL 0 (sortkey_Check_K1 H0)) [(33,x33),(34,x34),(35,x35)] H
noncomputable def sortkey_Check_J2 (x1:AV) (H0 H:Hp):Res:=CXL cfg (callw cfg) (LPL cfg (cfg.keep 64) 78) (cfg.keep 64) 78 seqL blockL (sub (bodyOf Tryz.f64) [1,1,1]) (retL cfg 78 64 Tryz.f64 H0) [(1,x1)] H
noncomputable def sortkey_Check_J1 (x1:AV) (H0 H:Hp):Res:=CXL cfg (callw cfg) (LPL cfg (cfg.keep 64) 78) (cfg.keep 64) 78 seqL blockL (sub (bodyOf Tryz.f64) [1,1]) (retL cfg 78 64 Tryz.f64 H0) [(1,x1)] H
noncomputable def F_sortkey_Check (p0:AV) (H:Hp):Res:=
  bnd (abox p0 H) fun r1=>
  bnd (afield 0 r1.1) fun t5=>
  bnd (aload false 1 t5 r1.2) fun t6=>
  bnd (alenD (.slice 149) t6) fun t7=>
  bnd (ibin .gtr t7 (.int .i64 8)) fun t8=>
  cnd t8
    (some ((.int .i64 3),r1.2))
    (sortkey_Check_J1 r1.1 H r1.2)
theorem sortkey_Check_J3_eq (H0 H:Hp):sortkey_Check_J3 H0 H =
    some ((.int .i64 0),H):=(CXM_eq [3,5,7,10,11] _ _ _ _).trans (by kernel_rfl)
theorem sortkey_Check_J5_eq (x33 x34 x35:AV) (H0 H:Hp):sortkey_Check_J5 x33 x34 x35 H0 H =
    bnd (ibin .add x35 (.int .i64 1)) fun t77=>
    sortkey_Check_L1 x33 x34 t77 H0 H:=(CXM_eq [3,5,7,10,11] _ _ _ _).trans (by kernel_rfl)
theorem sortkey_Check_J4_eq (x33 x34 x35 x36:AV) (H0 H:Hp):sortkey_Check_J4 x33 x34 x35 x36 H0 H =
    bnd (aindexS 5 x33 x35) fun t37=>
    bnd (aload true 5 t37 H) fun t38=>
    bnd (some ((.ptr H.length 0),H ++ [.cells [(.int .i64 0),(.int .i64 0),(.int .i64 0),(.int .i64 0),(.int .i64 0)]])) fun r4=>
    bnd (astoreU 5 r4.1 t38 r4.2) fun r_10=>
    bnd (afield 0 r4.1) fun t39=>
    bnd (aload false 1 t39 r_10.2) fun t40=>
    bnd (ibin .lss t40 (.int .i64 1)) fun t41=>
    bnd (gdv t41 false (.tuple []) (afield 1 r4.1)) fun t43=>
    bnd (gdv t41 false (.tuple []) (aload false 1 t43 r_10.2)) fun t44=>
    bnd (gdv t41 false (.tuple []) (ibin .lss t44 (.int .i64 1))) fun t45=>
    bnd (apick t41 (.bool true) t45) fun t46=>
    bnd (gdv t46 false (.tuple []) (afield 2 r4.1)) fun t48=>
    bnd (gdv t46 false (.tuple []) (aload false 1 t48 r_10.2)) fun t49=>
    bnd (gdv t46 false (.tuple []) (ibin .lss t49 (.int .i64 0))) fun t50=>
    bnd (apick t46 (.bool true) t50) fun t51=>
    bnd (gdv t51 false (.tuple []) (afield 3 r4.1)) fun t53=>
    bnd (gdv t51 false (.tuple []) (aload false 1 t53 r_10.2)) fun t54=>
    bnd (gdv t51 false (.tuple []) (ibin .lss t54 (.int .i64 0))) fun t55=>
    bnd (apick t51 (.bool true) t55) fun t56=>
    bnd (gdv t56 false (.tuple []) (afield 2 r4.1)) fun t58=>
    bnd (gdv t56 false (.tuple []) (aload false 1 t58 r_10.2)) fun t59=>
    bnd (gdv t56 false (.tuple []) (ibin .eql t59 (.int .i64 0))) fun t60=>
    bnd (gdv t56 false (.tuple []) (some t60)) fun t61=>
    bnd (gdv t61 true (.tuple []) (afield 3 r4.1)) fun t62=>
    bnd (gdv t61 true (.tuple []) (aload false 1 t62 r_10.2)) fun t63=>
    bnd (gdv t61 true (.tuple []) (ibin .neq t63 (.int .i64 0))) fun t64=>
    bnd (gdv t56 false (.tuple []) (apick t61 t64 (.bool false))) fun t65=>
    bnd (apick t56 (.bool true) t65) fun t66=>
    bnd (gdv t66 false (.tuple []) (afield 4 r4.1)) fun t68=>
    bnd (gdv t66 false (.tuple []) (aload false 1 t68 r_10.2)) fun t69=>
    bnd (gdv t66 false (.tuple []) (ibin .lss t69 (.int .i64 0))) fun t70=>
    bnd (apick t66 (.bool true) t70) fun t71=>
    bnd (gdv t71 false (.tuple []) (afield 4 r4.1)) fun t73=>
    bnd (gdv t71 false (.tuple []) (aload false 1 t73 r_10.2)) fun t74=>
    bnd (gdv t71 false (.tuple []) (ibin .gtr t74 (.int .i64 31))) fun t75=>
    bnd (apick t71 (.bool true) t75) fun t76=>
    cnd t76
      (some ((.int .i64 2),r_10.2))
      (sortkey_Check_J5 x33 x34 x35 H0 r_10.2):=(CXM_eq [3,5,7,10,11] _ _ _ _).trans (by kernel_rfl)
theorem sortkey_Check_L1_eq (x33 x34 x35:AV) (H0 H:Hp):sortkey_Check_L1 x33 x34 x35 H0 H =
    bnd (ibin .lss x35 x34) fun t36=>
    cnd t36
      (sortkey_Check_J4 x33 x34 x35 t36 H0 H)
      (sortkey_Check_J3 H0 H):=(LPL_eqm (C:=cfg) [3,5,7,10,11] (tame_block 0 (sortkey_Check_K1_tame H0)) _ _).trans (by kernel_rfl)
theorem sortkey_Check_J2_eq (x1:AV) (H0 H:Hp):sortkey_Check_J2 x1 H0 H =
    bnd (afield 0 x1) fun t32=>
    bnd (aload false 1 t32 H) fun t33=>
    bnd (alenD (.slice 149) t33) fun t34=>
    sortkey_Check_L1 t33 t34 (.int .i64 0) H0 H:=(CXM_eq [3,5,7,10,11] _ _ _ _).trans (by kernel_rfl)
theorem sortkey_Check_J1_eq (x1:AV) (H0 H:Hp):sortkey_Check_J1 x1 H0 H =
    bnd (afield 1 x1) fun t9=>
    bnd (aload false 1 t9 H) fun t10=>
    bnd (ibin .lss t10 (.int .i64 (-1))) fun t11=>
    bnd (gdv t11 false (.tuple []) (afield 1 x1)) fun t13=>
    bnd (gdv t11 false (.tuple []) (aload false 1 t13 H)) fun t14=>
    bnd (gdv t11 false (.tuple []) (ibin .gtr t14 (.int .i64 255))) fun t15=>
    bnd (apick t11 (.bool true) t15) fun t16=>
    bnd (gdv t16 false (.tuple []) (afield 1 x1)) fun t18=>
    bnd (gdv t16 false (.tuple []) (aload false 1 t18 H)) fun t19=>
    bnd (gdv t16 false (.tuple []) (ibin .eql t19 (.int .i64 10))) fun t20=>
    bnd (apick t16 (.bool true) t20) fun t21=>
    bnd (gdv t21 false (.tuple []) (afield 2 x1)) fun t23=>
    bnd (gdv t21 false (.tuple []) (aload false 1 t23 H)) fun t24=>
    bnd (gdv t21 false (.tuple []) (ibin .lss t24 (.int .i64 0))) fun t25=>
    bnd (apick t21 (.bool true) t25) fun t26=>
    bnd (gdv t26 false (.tuple []) (afield 2 x1)) fun t28=>
    bnd (gdv t26 false (.tuple []) (aload false 1 t28 H)) fun t29=>
    bnd (gdv t26 false (.tuple []) (ibin .gtr t29 (.int .i64 31))) fun t30=>
    bnd (apick t26 (.bool true) t30) fun t31=>
    cnd t31
      (some ((.int .i64 2),H))
      (sortkey_Check_J2 x1 H0 H):=(CXM_eq [3,5,7,10,11] _ _ _ _).trans (by kernel_rfl)
theorem F_sortkey_Check_eq (p0:AV) (H:Hp):C_sortkey_Check [p0] H = F_sortkey_Check p0 H:=(callw_cxm (C:=cfg) (fn:=Tryz.f64) (c:=bodyOf Tryz.f64) (n:=78) [3,5,7,10,11] Tryz.func64 (by kernel_rfl) (by kernel_rfl) [p0] (by kernel_rfl) H).trans (by kernel_rfl)

noncomputable def sortkey_Extract_J3 (x0 x7 x10:AV) (H0 H:Hp):Res:=CXL cfg (callw cfg) (LPL cfg (cfg.keep 108) 70) (cfg.keep 108) 70 seqL blockL (sub (bodyOf Tryz.f108) [1,1,1,1,1,1,1]) (retL cfg 70 108 Tryz.f108 H0) [(0,x0),(7,x7),(10,x10)] H
noncomputable def sortkey_Extract_J2 (x0 x7 x10:AV) (H0 H:Hp):Res:=CXL cfg (callw cfg) (LPL cfg (cfg.keep 108) 70) (cfg.keep 108) 70 seqL blockL (sub (bodyOf Tryz.f108) [1,1,1,1,1,1]) (retL cfg 70 108 Tryz.f108 H0) [(0,x0),(7,x7),(10,x10)] H
noncomputable def sortkey_Extract_J1 (x0 x2 x4 x7 x8:AV) (H0 H:Hp):Res:=CXL cfg (callw cfg) (LPL cfg (cfg.keep 108) 70) (cfg.keep 108) 70 seqL blockL (sub (bodyOf Tryz.f108) [1,1,1]) (retL cfg 70 108 Tryz.f108 H0) [(0,x0),(2,x2),(4,x4),(7,x7),(8,x8)] H
noncomputable def F_sortkey_Extract (p0 p1 p2:AV) (H:Hp):Res:=
  bnd (abox p1 H) fun r4=>
  bnd (afield 0 r4.1) fun t16=>
  bnd (aload false 1 t16 r4.2) fun t17=>
  bnd (amax2 t17 (.int .i64 1)) fun t18=>
  bnd (C_sortkey_field [p0,t18,p2] r4.2) fun r20=>
  bnd (aext r20.1 0) fun t21=>
  bnd (aext r20.1 1) fun t22=>
  bnd (aext r20.1 2) fun t23=>
  bnd (aun .not t23) fun t25=>
  cnd t25
    (some ((.str []),r20.2))
    (sortkey_Extract_J1 p0 p2 r4.1 t21 t22 H r20.2)
theorem sortkey_Extract_J3_eq (x0 x7 x10:AV) (H0 H:Hp):sortkey_Extract_J3 x0 x7 x10 H0 H =
    bnd (asliceS x0 (some x7) (some x10) none) fun t69=>
    some (t69,H):=(CXM_eq [4,12,14] _ _ _ _).trans (by kernel_rfl)
theorem sortkey_Extract_J2_eq (x0 x7 x10:AV) (H0 H:Hp):sortkey_Extract_J2 x0 x7 x10 H0 H =
    bnd (ibin .lss x10 x7) fun t65=>
    cnd t65
      (some ((.str []),H))
      (sortkey_Extract_J3 x0 x7 x10 H0 H):=(CXM_eq [4,12,14] _ _ _ _).trans (by kernel_rfl)
theorem sortkey_Extract_J1_eq (x0 x2 x4 x7 x8:AV) (H0 H:Hp):sortkey_Extract_J1 x0 x2 x4 x7 x8 H0 H =
    bnd (afield 1 x4) fun t27=>
    bnd (aload false 1 t27 H) fun t28=>
    bnd (amax2 t28 (.int .i64 1)) fun t29=>
    bnd (ibin .sub t29 (.int .i64 1)) fun t30=>
    bnd (ibin .sub x8 x7) fun t33=>
    bnd (amin2 t30 t33) fun t34=>
    bnd (ibin .add x7 t34) fun t35=>
    bnd (alenD .string x0) fun t37=>
    bnd (afield 2 x4) fun t38=>
    bnd (aload false 1 t38 H) fun t39=>
    bnd (ibin .gtr t39 (.int .i64 0)) fun t40=>
    cnd t40
      (bnd (afield 2 x4) fun t43=>
      bnd (aload false 1 t43 H) fun t44=>
      bnd (C_sortkey_field [x0,t44,x2] H) fun r46=>
      bnd (aext r46.1 0) fun t47=>
      bnd (aext r46.1 1) fun t48=>
      bnd (aext r46.1 2) fun t49=>
      cnd t49
        (bnd (afield 3 x4) fun t52=>
        bnd (aload false 1 t52 r46.2) fun t53=>
        bnd (ibin .gtr t53 (.int .i64 0)) fun t54=>
        cnd t54
          (bnd (afield 3 x4) fun t56=>
          bnd (aload false 1 t56 r46.2) fun t57=>
          bnd (ibin .sub t48 t47) fun t60=>
          bnd (amin2 t57 t60) fun t61=>
          bnd (ibin .add t47 t61) fun t62=>
          sortkey_Extract_J2 x0 t35 t62 H0 r46.2)
          (sortkey_Extract_J2 x0 t35 t48 H0 r46.2))
        (sortkey_Extract_J2 x0 t35 t37 H0 r46.2))
      (sortkey_Extract_J2 x0 t35 t37 H0 H):=(CXM_eq [4,12,14] _ _ _ _).trans (by kernel_rfl)
theorem F_sortkey_Extract_eq (p0 p1 p2:AV) (H:Hp):C_sortkey_Extract [p0,p1,p2] H = F_sortkey_Extract p0 p1 p2 H:=(callw_cxm (C:=cfg) (fn:=Tryz.f108) (c:=bodyOf Tryz.f108) (n:=70) [4,12,14] Tryz.func108 (by kernel_rfl) (by kernel_rfl) [p0,p1,p2] (by kernel_rfl) H).trans (by kernel_rfl)

noncomputable def sortkey_field_J2 (H0 H:Hp):Res:=CXL cfg (callw cfg) (LPL cfg (cfg.keep 160) 83) (cfg.keep 160) 83 seqL blockL (sub (bodyOf Tryz.f160) [1,1,1]) (retL cfg 83 160 Tryz.f160 H0) [] H
noncomputable def sortkey_field_K1 (H0:Hp):KL:=seqL (fun k al H=>CXL cfg (callw cfg) (LPL cfg (cfg.keep 160) 83) (cfg.keep 160) 83 seqL blockL (sub (bodyOf Tryz.f160) [1,1,1]) k (trimL (cfg.keep 160) (sub (bodyOf Tryz.f160) [1,1,1]) al) H) (retL cfg 83 160 Tryz.f160 H0)
theorem sortkey_field_K1_tame (H0:Hp):Tame 83 (sortkey_field_K1 H0):=tame_seq (C:=cfg) (kp:=cfg.keep 160) (sub (bodyOf Tryz.f160) [1,1,1]) (tame_ret 160 Tryz.f160 H0)
noncomputable def sortkey_field_J4 (x0 x1 x6 x11:AV) (H0 H:Hp):Res:=CXL cfg (callw cfg) (LPL cfg (cfg.keep 160) 83) (cfg.keep 160) 83 seqL blockL (sub (bodyOf Tryz.f160) [1,1,0,1,0,0,1,1]) (seqL (fun k al H=>LPL cfg (cfg.keep 160) 83 (sub (bodyOf Tryz.f160) [1,1,0,1,0,0]) k (trimL (cfg.keep 160) (sub (bodyOf Tryz.f160) [1,1,0,1,0,0]) al) H) (blockL 2 (sortkey_field_K1 H0))) [(0,x0),(1,x1),(6,x6),(11,x11)] H
noncomputable def sortkey_field_K2 (H0:Hp):KL:=seqL (fun k al H=>CXL cfg (callw cfg) (LPL cfg (cfg.keep 160) 83) (cfg.keep 160) 83 seqL blockL (sub (bodyOf Tryz.f160) [1,1,0,1,0,0,1,1]) k (trimL (cfg.keep 160) (sub (bodyOf Tryz.f160) [1,1,0,1,0,0,1,1]) al) H) (seqL (fun k al H=>LPL cfg (cfg.keep 160) 83 (sub (bodyOf Tryz.f160) [1,1,0,1,0,0]) k (trimL (cfg.keep 160) (sub (bodyOf Tryz.f160) [1,1,0,1,0,0]) al) H) (blockL 2 (sortkey_field_K1 H0)))
theorem sortkey_field_K2_tame (H0:Hp):Tame 83 (sortkey_field_K2 H0):=tame_seq (C:=cfg) (kp:=cfg.keep 160) (sub (bodyOf Tryz.f160) [1,1,0,1,0,0,1,1]) (tame_loop (C:=cfg) (kp:=cfg.keep 160) (sub (bodyOf Tryz.f160) [1,1,0,1,0,0]) (tame_block 2 (sortkey_field_K1_tame H0)))
noncomputable def sortkey_field_J7 (x0 x1 x7 x11:AV) (H0 H:Hp):Res:=CXL cfg (callw cfg) (LPL cfg (cfg.keep 160) 83) (cfg.keep 160) 83 seqL blockL (sub (bodyOf Tryz.f160) [1,1,0,1,0,0,1,0,0,1,1,1,1]) (blockL 3 (sortkey_field_K2 H0)) [(0,x0),(1,x1),(7,x7),(11,x11)] H
noncomputable def sortkey_field_J6 (x0 x1 x6 x7 x11:AV) (H0 H:Hp):Res:=CXL cfg (callw cfg) (LPL cfg (cfg.keep 160) 83) (cfg.keep 160) 83 seqL blockL (sub (bodyOf Tryz.f160) [1,1,0,1,0,0,1,0,0,1,1,1]) (blockL 3 (sortkey_field_K2 H0)) [(0,x0),(1,x1),(6,x6),(7,x7),(11,x11)] H
noncomputable def sortkey_field_K3 (H0:Hp):KL:=seqL (fun k al H=>CXL cfg (callw cfg) (LPL cfg (cfg.keep 160) 83) (cfg.keep 160) 83 seqL blockL (sub (bodyOf Tryz.f160) [1,1,0,1,0,0,1,0,0,1,1,1]) k (trimL (cfg.keep 160) (sub (bodyOf Tryz.f160) [1,1,0,1,0,0,1,0,0,1,1,1]) al) H) (blockL 3 (sortkey_field_K2 H0))
theorem sortkey_field_K3_tame (H0:Hp):Tame 83 (sortkey_field_K3 H0):=tame_seq (C:=cfg) (kp:=cfg.keep 160) (sub (bodyOf Tryz.f160) [1,1,0,1,0,0,1,0,0,1,1,1]) (tame_block 3 (sortkey_field_K2_tame H0))
noncomputable def sortkey_field_J8 (x0 x1 x6 x7 x11:AV) (H0 H:Hp):Res:=CXL cfg (callw cfg) (LPL cfg (cfg.keep 160) 83) (cfg.keep 160) 83 seqL blockL (sub (bodyOf Tryz.f160) [1,1,0,1,0,0,1,0,0,1,1,0,0,0,1]) (seqL (fun k al H=>LPL cfg (cfg.keep 160) 83 (sub (bodyOf Tryz.f160) [1,1,0,1,0,0,1,0,0,1,1,0,0,0]) k (trimL (cfg.keep 160) (sub (bodyOf Tryz.f160) [1,1,0,1,0,0,1,0,0,1,1,0,0,0]) al) H) (blockL 6 (sortkey_field_K3 H0))) [(0,x0),(1,x1),(6,x6),(7,x7),(11,x11)] H
noncomputable def sortkey_field_L2 (x0 x1 x6 x7 x11:AV) (H0 H:Hp):Res:=LPL cfg (cfg.keep 160) 83 (sub (bodyOf Tryz.f160) [1,1,0,1,0,0,1,0,0,1,1,0,0,0]) (blockL 6 (sortkey_field_K3 H0)) [(0,x0),(1,x1),(6,x6),(7,x7),(11,x11)] H
noncomputable def sortkey_field_J5 (x0 x1 x6 x7 x11:AV) (H0 H:Hp):Res:=CXL cfg (callw cfg) (LPL cfg (cfg.keep 160) 83) (cfg.keep 160) 83 seqL blockL (sub (bodyOf Tryz.f160) [1,1,0,1,0,0,1,0,0,1,1]) (blockL 3 (sortkey_field_K2 H0)) [(0,x0),(1,x1),(6,x6),(7,x7),(11,x11)] H
noncomputable def sortkey_field_K4 (H0:Hp):KL:=seqL (fun k al H=>CXL cfg (callw cfg) (LPL cfg (cfg.keep 160) 83) (cfg.keep 160) 83 seqL blockL (sub (bodyOf Tryz.f160) [1,1,0,1,0,0,1,0,0,1,1]) k (trimL (cfg.keep 160) (sub (bodyOf Tryz.f160) [1,1,0,1,0,0,1,0,0,1,1]) al) H) (blockL 3 (sortkey_field_K2 H0))
theorem sortkey_field_K4_tame (H0:Hp):Tame 83 (sortkey_field_K4 H0):=tame_seq (C:=cfg) (kp:=cfg.keep 160) (sub (bodyOf Tryz.f160) [1,1,0,1,0,0,1,0,0,1,1]) (tame_block 3 (sortkey_field_K2_tame H0))
noncomputable def sortkey_field_J9 (x0 x1 x6 x7 x11:AV) (H0 H:Hp):Res:=CXL cfg (callw cfg) (LPL cfg (cfg.keep 160) 83) (cfg.keep 160) 83 seqL blockL (sub (bodyOf Tryz.f160) [1,1,0,1,0,0,1,0,0,1,0,0,0,1]) (seqL (fun k al H=>LPL cfg (cfg.keep 160) 83 (sub (bodyOf Tryz.f160) [1,1,0,1,0,0,1,0,0,1,0,0,0]) k (trimL (cfg.keep 160) (sub (bodyOf Tryz.f160) [1,1,0,1,0,0,1,0,0,1,0,0,0]) al) H) (blockL 4 (sortkey_field_K4 H0))) [(0,x0),(1,x1),(6,x6),(7,x7),(11,x11)] H
noncomputable def sortkey_field_L3 (x0 x1 x6 x7 x11:AV) (H0 H:Hp):Res:=LPL cfg (cfg.keep 160) 83 (sub (bodyOf Tryz.f160) [1,1,0,1,0,0,1,0,0,1,0,0,0]) (blockL 4 (sortkey_field_K4 H0)) [(0,x0),(1,x1),(6,x6),(7,x7),(11,x11)] H
noncomputable def sortkey_field_J3 (x0 x1 x6 x11:AV) (H0 H:Hp):Res:=CXL cfg (callw cfg) (LPL cfg (cfg.keep 160) 83) (cfg.keep 160) 83 seqL blockL (sub (bodyOf Tryz.f160) [1,1,0,1,0,0,1]) (seqL (fun k al H=>LPL cfg (cfg.keep 160) 83 (sub (bodyOf Tryz.f160) [1,1,0,1,0,0]) k (trimL (cfg.keep 160) (sub (bodyOf Tryz.f160) [1,1,0,1,0,0]) al) H) (blockL 2 (sortkey_field_K1 H0))) [(0,x0),(1,x1),(6,x6),(11,x11)] H
noncomputable def sortkey_field_L1 (x0 x1 x6 x11:AV) (H0 H:Hp):Res:=LPL cfg (cfg.keep 160) 83 (sub (bodyOf Tryz.f160) [1,1,0,1,0,0]) (blockL 2 (sortkey_field_K1 H0)) [(0,x0),(1,x1),(6,x6),(11,x11)] H
noncomputable def sortkey_field_J1 (x0 x1 x6:AV) (H0 H:Hp):Res:=CXL cfg (callw cfg) (LPL cfg (cfg.keep 160) 83) (cfg.keep 160) 83 seqL blockL (sub (bodyOf Tryz.f160) [1,1]) (retL cfg 83 160 Tryz.f160 H0) [(0,x0),(1,x1),(6,x6)] H
noncomputable def sortkey_field_K5 (H0:Hp):KL:=seqL (fun k al H=>CXL cfg (callw cfg) (LPL cfg (cfg.keep 160) 83) (cfg.keep 160) 83 seqL blockL (sub (bodyOf Tryz.f160) [1,1]) k (trimL (cfg.keep 160) (sub (bodyOf Tryz.f160) [1,1]) al) H) (retL cfg 83 160 Tryz.f160 H0)
theorem sortkey_field_K5_tame (H0:Hp):Tame 83 (sortkey_field_K5 H0):=tame_seq (C:=cfg) (kp:=cfg.keep 160) (sub (bodyOf Tryz.f160) [1,1]) (tame_ret 160 Tryz.f160 H0)
noncomputable def sortkey_field_J10 (x0 x1 x2 x6 x9:AV) (H0 H:Hp):Res:=CXL cfg (callw cfg) (LPL cfg (cfg.keep 160) 83) (cfg.keep 160) 83 seqL blockL (sub (bodyOf Tryz.f160) [1,0,1,0,1,0,0,1]) (seqL (fun k al H=>LPL cfg (cfg.keep 160) 83 (sub (bodyOf Tryz.f160) [1,0,1,0,1,0,0]) k (trimL (cfg.keep 160) (sub (bodyOf Tryz.f160) [1,0,1,0,1,0,0]) al) H) (blockL 0 (sortkey_field_K5 H0))) [(0,x0),(1,x1),(2,x2),(6,x6),(9,x9)] H
noncomputable def sortkey_field_K6 (H0:Hp):KL:=seqL (fun k al H=>CXL cfg (callw cfg) (LPL cfg (cfg.keep 160) 83) (cfg.keep 160) 83 seqL blockL (sub (bodyOf Tryz.f160) [1,0,1,0,1,0,0,1]) k (trimL (cfg.keep 160) (sub (bodyOf Tryz.f160) [1,0,1,0,1,0,0,1]) al) H) (seqL (fun k al H=>LPL cfg (cfg.keep 160) 83 (sub (bodyOf Tryz.f160) [1,0,1,0,1,0,0]) k (trimL (cfg.keep 160) (sub (bodyOf Tryz.f160) [1,0,1,0,1,0,0]) al) H) (blockL 0 (sortkey_field_K5 H0)))
noncomputable def sortkey_field_J12 (x0 x1 x2 x6 x9 x10:AV) (H0 H:Hp):Res:=CXL cfg (callw cfg) (LPL cfg (cfg.keep 160) 83) (cfg.keep 160) 83 seqL blockL (sub (bodyOf Tryz.f160) [1,0,1,0,1,0,0,0,0,1,1,1]) (blockL 1 (sortkey_field_K6 H0)) [(0,x0),(1,x1),(2,x2),(6,x6),(9,x9),(10,x10)] H
noncomputable def sortkey_field_J11 (x0 x1 x2 x6 x9 x10:AV) (H0 H:Hp):Res:=CXL cfg (callw cfg) (LPL cfg (cfg.keep 160) 83) (cfg.keep 160) 83 seqL blockL (sub (bodyOf Tryz.f160) [1,0,1,0,1,0,0,0,0,1,1]) (blockL 1 (sortkey_field_K6 H0)) [(0,x0),(1,x1),(2,x2),(6,x6),(9,x9),(10,x10)] H
noncomputable def sortkey_field_L4 (x0 x1 x2 x6 x9:AV) (H0 H:Hp):Res:=LPL cfg (cfg.keep 160) 83 (sub (bodyOf Tryz.f160) [1,0,1,0,1,0,0]) (blockL 0 (sortkey_field_K5 H0)) [(0,x0),(1,x1),(2,x2),(6,x6),(9,x9)] H
noncomputable def F_sortkey_field (p0 p1 p2:AV) (H:Hp):Res:=
  bnd (ibin .geq p2 (.int .i64 0)) fun t13=>
  bnd (gdv t13 true (.tuple []) (some p2)) fun t15=>
  bnd (gdv t13 true (.tuple []) (ibin .leq t15 (.int .i64 255))) fun t16=>
  bnd (apick t13 t16 (.bool false)) fun t17=>
  cnd t17
    (sortkey_field_L4 p0 p1 p2 (.int .i64 0) (.int .i64 1) H H)
    (sortkey_field_J1 p0 p1 (.int .i64 0) H H)
theorem sortkey_field_J2_eq (H0 H:Hp):sortkey_field_J2 H0 H =
    some ((.tuple [(.int .i64 0),(.int .i64 0),(.bool false)]),H):=(CXM_eq [3,7,9,10,12,13,15,16,17,18,20,21] _ _ _ _).trans (by kernel_rfl)
theorem sortkey_field_J4_eq (x0 x1 x6 x11:AV) (H0 H:Hp):sortkey_field_J4 x0 x1 x6 x11 H0 H =
    bnd (ibin .add x11 (.int .i64 1)) fun t50=>
    sortkey_field_L1 x0 x1 x6 t50 H0 H:=(CXM_eq [3,7,9,10,12,13,15,16,17,18,20,21] _ _ _ _).trans (by kernel_rfl)
theorem sortkey_field_J7_eq (x0 x1 x7 x11:AV) (H0 H:Hp):sortkey_field_J7 x0 x1 x7 x11 H0 H =
    sortkey_field_J4 x0 x1 x7 x11 H0 H:=(CXM_eq [3,7,9,10,12,13,15,16,17,18,20,21] _ _ _ _).trans (by kernel_rfl)
theorem sortkey_field_J6_eq (x0 x1 x6 x7 x11:AV) (H0 H:Hp):sortkey_field_J6 x0 x1 x6 x7 x11 H0 H =
    bnd (ibin .eql x11 x1) fun t79=>
    cnd t79
      (some ((.tuple [x6,x7,(.bool true)]),H))
      (sortkey_field_J7 x0 x1 x7 x11 H0 H):=(CXM_eq [3,7,9,10,12,13,15,16,17,18,20,21] _ _ _ _).trans (by kernel_rfl)
theorem sortkey_field_J8_eq (x0 x1 x6 x7 x11:AV) (H0 H:Hp):sortkey_field_J8 x0 x1 x6 x7 x11 H0 H =
    bnd (ibin .add x7 (.int .i64 1)) fun t76=>
    sortkey_field_L2 x0 x1 x6 t76 x11 H0 H:=(CXM_eq [3,7,9,10,12,13,15,16,17,18,20,21] _ _ _ _).trans (by kernel_rfl)
theorem sortkey_field_L2_eq (x0 x1 x6 x7 x11:AV) (H0 H:Hp):sortkey_field_L2 x0 x1 x6 x7 x11 H0 H =
    bnd (alenD .string x0) fun t66=>
    bnd (ibin .lss x7 t66) fun t67=>
    bnd (gdv t67 true (.tuple []) (some x0)) fun t69=>
    bnd (gdv t67 true (.tuple []) (some x7)) fun t70=>
    bnd (gdv t67 true (.tuple []) (aindexStr t69 t70)) fun t71=>
    bnd (gdv t67 true ((.tuple []),H) (C_sortkey_blank [t71] H)) fun r72=>
    bnd (gdv t67 true (.tuple []) (aun .not r72.1)) fun t73=>
    bnd (apick t67 t73 (.bool false)) fun t74=>
    cnd t74
      (sortkey_field_J8 x0 x1 x6 x7 x11 H0 r72.2)
      (sortkey_field_J6 x0 x1 x6 x7 x11 H0 r72.2):=(LPL_eqm (C:=cfg) [3,7,9,10,12,13,15,16,17,18,20,21] (tame_block 6 (sortkey_field_K3_tame H0)) _ _).trans (by kernel_rfl)
theorem sortkey_field_J5_eq (x0 x1 x6 x7 x11:AV) (H0 H:Hp):sortkey_field_J5 x0 x1 x6 x7 x11 H0 H =
    sortkey_field_L2 x0 x1 x6 x7 x11 H0 H:=(CXM_eq [3,7,9,10,12,13,15,16,17,18,20,21] _ _ _ _).trans (by kernel_rfl)
theorem sortkey_field_J9_eq (x0 x1 x6 x7 x11:AV) (H0 H:Hp):sortkey_field_J9 x0 x1 x6 x7 x11 H0 H =
    bnd (ibin .add x7 (.int .i64 1)) fun t63=>
    sortkey_field_L3 x0 x1 x6 t63 x11 H0 H:=(CXM_eq [3,7,9,10,12,13,15,16,17,18,20,21] _ _ _ _).trans (by kernel_rfl)
theorem sortkey_field_L3_eq (x0 x1 x6 x7 x11:AV) (H0 H:Hp):sortkey_field_L3 x0 x1 x6 x7 x11 H0 H =
    bnd (alenD .string x0) fun t54=>
    bnd (ibin .lss x7 t54) fun t55=>
    bnd (gdv t55 true (.tuple []) (some x0)) fun t57=>
    bnd (gdv t55 true (.tuple []) (some x7)) fun t58=>
    bnd (gdv t55 true (.tuple []) (aindexStr t57 t58)) fun t59=>
    bnd (gdv t55 true ((.tuple []),H) (C_sortkey_blank [t59] H)) fun r60=>
    bnd (apick t55 r60.1 (.bool false)) fun t61=>
    cnd t61
      (sortkey_field_J9 x0 x1 x6 x7 x11 H0 r60.2)
      (sortkey_field_J5 x0 x1 x6 x7 x11 H0 r60.2):=(LPL_eqm (C:=cfg) [3,7,9,10,12,13,15,16,17,18,20,21] (tame_block 4 (sortkey_field_K4_tame H0)) _ _).trans (by kernel_rfl)
theorem sortkey_field_J3_eq (x0 x1 x6 x11:AV) (H0 H:Hp):sortkey_field_J3 x0 x1 x6 x11 H0 H =
    sortkey_field_L3 x0 x1 x6 x6 x11 H0 H:=(CXM_eq [3,7,9,10,12,13,15,16,17,18,20,21] _ _ _ _).trans (by kernel_rfl)
theorem sortkey_field_L1_eq (x0 x1 x6 x11:AV) (H0 H:Hp):sortkey_field_L1 x0 x1 x6 x11 H0 H =
    bnd (alenD .string x0) fun t47=>
    bnd (ibin .lss x6 t47) fun t48=>
    cnd t48
      (sortkey_field_J3 x0 x1 x6 x11 H0 H)
      (sortkey_field_J2 H0 H):=(LPL_eqm (C:=cfg) [3,7,9,10,12,13,15,16,17,18,20,21] (tame_block 2 (sortkey_field_K1_tame H0)) _ _).trans (by kernel_rfl)
theorem sortkey_field_J1_eq (x0 x1 x6:AV) (H0 H:Hp):sortkey_field_J1 x0 x1 x6 H0 H =
    sortkey_field_L1 x0 x1 x6 (.int .i64 1) H0 H:=(CXM_eq [3,7,9,10,12,13,15,16,17,18,20,21] _ _ _ _).trans (by kernel_rfl)
theorem sortkey_field_J10_eq (x0 x1 x2 x6 x9:AV) (H0 H:Hp):sortkey_field_J10 x0 x1 x2 x6 x9 H0 H =
    bnd (ibin .add x9 (.int .i64 1)) fun t19=>
    sortkey_field_L4 x0 x1 x2 x6 t19 H0 H:=(CXM_eq [3,7,9,10,12,13,15,16,17,18,20,21] _ _ _ _).trans (by kernel_rfl)
theorem sortkey_field_J12_eq (x0 x1 x2 x6 x9 x10:AV) (H0 H:Hp):sortkey_field_J12 x0 x1 x2 x6 x9 x10 H0 H =
    bnd (ibin .add x10 (.int .i64 1)) fun t43=>
    bnd (ibin .add x6 t43) fun t44=>
    sortkey_field_J10 x0 x1 x2 t44 x9 H0 H:=(CXM_eq [3,7,9,10,12,13,15,16,17,18,20,21] _ _ _ _).trans (by kernel_rfl)
theorem sortkey_field_J11_eq (x0 x1 x2 x6 x9 x10:AV) (H0 H:Hp):sortkey_field_J11 x0 x1 x2 x6 x9 x10 H0 H =
    bnd (ibin .eql x9 x1) fun t36=>
    cnd t36
      (bnd (ibin .add x6 x10) fun t40=>
      some ((.tuple [x6,t40,(.bool true)]),H))
      (sortkey_field_J12 x0 x1 x2 x6 x9 x10 H0 H):=(CXM_eq [3,7,9,10,12,13,15,16,17,18,20,21] _ _ _ _).trans (by kernel_rfl)
theorem sortkey_field_L4_eq (x0 x1 x2 x6 x9:AV) (H0 H:Hp):sortkey_field_L4 x0 x1 x2 x6 x9 H0 H =
    bnd (asliceS x0 (some x6) none none) fun t22=>
    bnd (cvInt .u8 x2) fun t24=>
    bnd (C_strings_IndexByte [t22,t24] H) fun r25=>
    bnd (ibin .lss r25.1 (.int .i64 0)) fun t27=>
    cnd t27
      (bnd (alenD .string x0) fun t30=>
      bnd (ibin .eql x9 x1) fun t33=>
      some ((.tuple [x6,t30,t33]),r25.2))
      (sortkey_field_J11 x0 x1 x2 x6 x9 r25.1 H0 r25.2):=(LPL_eqm (C:=cfg) [3,7,9,10,12,13,15,16,17,18,20,21] (tame_block 0 (sortkey_field_K5_tame H0)) _ _).trans (by kernel_rfl)
theorem F_sortkey_field_eq (p0 p1 p2:AV) (H:Hp):C_sortkey_field [p0,p1,p2] H = F_sortkey_field p0 p1 p2 H:=(callw_cxm (C:=cfg) (fn:=Tryz.f160) (c:=bodyOf Tryz.f160) (n:=83) [3,7,9,10,12,13,15,16,17,18,20,21] Tryz.func160 (by kernel_rfl) (by kernel_rfl) [p0,p1,p2] (by kernel_rfl) H).trans (by kernel_rfl)

noncomputable def F_sortkey_blank (p0:AV) (H:Hp):Res:=
  bnd (ibin .eql p0 (.int .u8 32)) fun t4=>
  bnd (gdv t4 false (.tuple []) (some p0)) fun t6=>
  bnd (gdv t4 false (.tuple []) (ibin .eql t6 (.int .u8 9))) fun t7=>
  bnd (apick t4 (.bool true) t7) fun t8=>
  some (t8,H)
theorem F_sortkey_blank_eq (p0:AV) (H:Hp):C_sortkey_blank [p0] H = F_sortkey_blank p0 H:=(callw_cxm (C:=cfg) (fn:=Tryz.f195) (c:=bodyOf Tryz.f195) (n:=9) [] Tryz.func195 (by kernel_rfl) (by kernel_rfl) [p0] (by kernel_rfl) H).trans (by kernel_rfl)

noncomputable def F_strings_IndexByte (p0 p1:AV) (H:Hp):Res:=
  bnd (C_internal_stringslite_IndexByte [p0,p1] H) fun r7=>
  some (r7.1,r7.2)
theorem F_strings_IndexByte_eq (p0 p1:AV) (H:Hp):C_strings_IndexByte [p0,p1] H = F_strings_IndexByte p0 p1 H:=(callw_cxm (C:=cfg) (fn:=Tryz.f198) (c:=bodyOf Tryz.f198) (n:=8) [] Tryz.func198 (by kernel_rfl) (by kernel_rfl) [p0,p1] (by kernel_rfl) H).trans (by kernel_rfl)

noncomputable def F_internal_stringslite_IndexByte (p0 p1:AV) (H:Hp):Res:=
  bnd (extC .indexByte [p0,p1] H) fun r7=>
  some (r7.1,r7.2)
theorem F_internal_stringslite_IndexByte_eq (p0 p1:AV) (H:Hp):C_internal_stringslite_IndexByte [p0,p1] H = F_internal_stringslite_IndexByte p0 p1 H:=(callw_cxm (C:=cfg) (fn:=Tryz.f230) (c:=bodyOf Tryz.f230) (n:=8) [] Tryz.func230 (by kernel_rfl) (by kernel_rfl) [p0,p1] (by kernel_rfl) H).trans (by kernel_rfl)

theorem V_memsort_Sort_1 (a b args:List AV) (H:Hp):acall cfg (callw cfg) (.fn (.func 84) a b) args H = flatC C_memsort_Sort_1 (a ++ args ++ b) H:=by kernel_rfl
theorem V_memsort_Sort_2 (a b args:List AV) (H:Hp):acall cfg (callw cfg) (.fn (.func 85) a b) args H = flatC C_memsort_Sort_2 (a ++ args ++ b) H:=by kernel_rfl
theorem V_locale_Compare_1 (a b args:List AV) (H:Hp):acall cfg (callw cfg) (.fn (.func 148) a b) args H = flatC C_locale_Compare_1 (a ++ args ++ b) H:=by kernel_rfl
theorem Q_locale_Compare_1 (a b args:List AV) (H:Hp):acallQ cfg (callw cfg) (.fn (.func 148) a b) args H = flatC C_locale_Compare_1 (a ++ args ++ b) H:=by kernel_rfl
theorem V_locale_Compare_1_1 (a b args:List AV) (H:Hp):acall cfg (callw cfg) (.fn (.func 150) a b) args H = C_locale_Compare_1_1 (a ++ args ++ b) H:=by kernel_rfl
theorem V_sortkey_parts_1 (a b args:List AV) (H:Hp):acall cfg (callw cfg) (.fn (.func 154) a b) args H = C_sortkey_parts_1 (a ++ args ++ b) H:=by kernel_rfl
theorem Q_sortkey_parts_2 (a b args:List AV) (H:Hp):acallQ cfg (callw cfg) (.fn (.func 155) a b) args H = flatC C_sortkey_parts_2 (a ++ args ++ b) H:=by kernel_rfl
theorem Q_sortkey_dict (a b args:List AV) (H:Hp):acallQ cfg (callw cfg) (.fn (.func 157) a b) args H = flatC C_sortkey_dict (a ++ args ++ b) H:=by kernel_rfl
theorem Q_sortkey_parts_3 (a b args:List AV) (H:Hp):acallQ cfg (callw cfg) (.fn (.func 158) a b) args H = flatC C_sortkey_parts_3 (a ++ args ++ b) H:=by kernel_rfl
theorem user_ok:∀ f ∈ userList,UserOk Tryz.prog f:=
  userOk_cons Tryz.call3 (
  userOk_cons Tryz.call4 (
  userOk_cons Tryz.call5 (
  userOk_cons Tryz.call6 (
  userOk_cons Tryz.call7 (
  userOk_cons Tryz.call8 (
  userOk_cons Tryz.call9 (
  userOk_cons Tryz.call10 (
  userOk_cons Tryz.call11 (
  userOk_cons Tryz.call12 (
  userOk_cons Tryz.call13 (
  userOk_cons Tryz.call14 (
  userOk_cons Tryz.call15 (
  userOk_cons Tryz.call16 (
  userOk_cons Tryz.call17 (
  userOk_cons Tryz.call18 (
  userOk_cons Tryz.call19 (
  userOk_cons Tryz.call20 (
  userOk_cons Tryz.call21 (
  userOk_cons Tryz.call22 (
  userOk_cons Tryz.call23 (
  userOk_cons Tryz.call24 (
  userOk_cons Tryz.call25 (
  userOk_cons Tryz.call26 (
  userOk_cons Tryz.call27 (
  userOk_cons Tryz.call28 (
  userOk_cons Tryz.call29 (
  userOk_cons Tryz.call30 (
  userOk_cons Tryz.call31 (
  userOk_cons Tryz.call32 (
  userOk_cons Tryz.call33 (
  userOk_cons Tryz.call34 (
  userOk_cons Tryz.call35 (
  userOk_cons Tryz.call36 (
  userOk_cons Tryz.call37 (
  userOk_cons Tryz.call38 (
  userOk_cons Tryz.call39 (
  userOk_cons Tryz.call40 (
  userOk_cons Tryz.call41 (
  userOk_cons Tryz.call42 (
  userOk_cons Tryz.call43 (
  userOk_cons Tryz.call44 (
  userOk_cons Tryz.call45 (
  userOk_cons Tryz.call46 (
  userOk_cons Tryz.call47 (
  userOk_cons Tryz.call48 (
  userOk_cons Tryz.call49 (
  userOk_cons Tryz.call50 (
  userOk_cons Tryz.call51 (
  userOk_cons Tryz.call52 (
  userOk_cons Tryz.call53 (
  userOk_cons Tryz.call54 (
  userOk_cons Tryz.call55 (
  userOk_cons Tryz.call56 (
  userOk_cons Tryz.call57 (
  userOk_cons Tryz.call58 (
  userOk_cons Tryz.call59 (
  userOk_cons Tryz.call60 (
  userOk_cons Tryz.call61 (
  userOk_cons Tryz.call62 (
  userOk_cons Tryz.call63 (
  userOk_cons Tryz.call64 (
  userOk_cons Tryz.call65 (
  userOk_cons Tryz.call66 (
  userOk_cons Tryz.call67 (
  userOk_cons Tryz.call68 (
  userOk_cons Tryz.call69 (
  userOk_cons Tryz.call70 (
  userOk_cons Tryz.call71 (
  userOk_cons Tryz.call72 (
  userOk_cons Tryz.call73 (
  userOk_cons Tryz.call74 (
  userOk_cons Tryz.call75 (
  userOk_cons Tryz.call76 (
  userOk_cons Tryz.call77 (
  userOk_cons Tryz.call78 (
  userOk_cons Tryz.call79 (
  userOk_cons Tryz.call80 (
  userOk_cons Tryz.call81 (
  userOk_cons Tryz.call82 (
  userOk_cons Tryz.call83 (
  userOk_cons Tryz.call84 (
  userOk_cons Tryz.call85 (
  userOk_cons Tryz.call86 (
  userOk_cons Tryz.call87 (
  userOk_cons Tryz.call88 (
  userOk_cons Tryz.call89 (
  userOk_cons Tryz.call90 (
  userOk_cons Tryz.call91 (
  userOk_cons Tryz.call92 (
  userOk_cons Tryz.call93 (
  userOk_cons Tryz.call94 (
  userOk_cons Tryz.call95 (
  userOk_cons Tryz.call96 (
  userOk_cons Tryz.call97 (
  userOk_cons Tryz.call98 (
  userOk_cons Tryz.call99 (
  userOk_cons Tryz.call100 (
  userOk_cons Tryz.call101 (
  userOk_cons Tryz.call102 (
  userOk_cons Tryz.call103 (
  userOk_cons Tryz.call104 (
  userOk_cons Tryz.call105 (
  userOk_cons Tryz.call106 (
  userOk_cons Tryz.call107 (
  userOk_cons Tryz.call108 (
  userOk_cons Tryz.call109 (
  userOk_cons Tryz.call110 (
  userOk_cons Tryz.call111 (
  userOk_cons Tryz.call112 (
  userOk_cons Tryz.call113 (
  userOk_cons Tryz.call114 (
  userOk_cons Tryz.call115 (
  userOk_cons Tryz.call116 (
  userOk_cons Tryz.call117 (
  userOk_cons Tryz.call118 (
  userOk_cons Tryz.call119 (
  userOk_cons Tryz.call120 (
  userOk_cons Tryz.call121 (
  userOk_cons Tryz.call122 (
  userOk_cons Tryz.call123 (
  userOk_cons Tryz.call124 (
  userOk_cons Tryz.call125 (
  userOk_cons Tryz.call126 (
  userOk_cons Tryz.call127 (
  userOk_cons Tryz.call128 (
  userOk_cons Tryz.call129 (
  userOk_cons Tryz.call130 (
  userOk_cons Tryz.call131 (
  userOk_cons Tryz.call132 (
  userOk_cons Tryz.call133 (
  userOk_cons Tryz.call134 (
  userOk_cons Tryz.call135 (
  userOk_cons Tryz.call136 (
  userOk_cons Tryz.call137 (
  userOk_cons Tryz.call138 (
  userOk_cons Tryz.call139 (
  userOk_cons Tryz.call140 (
  userOk_cons Tryz.call141 (
  userOk_cons Tryz.call142 (
  userOk_cons Tryz.call143 (
  userOk_cons Tryz.call144 (
  userOk_cons Tryz.call145 (
  userOk_cons Tryz.call146 (
  userOk_cons Tryz.call147 (
  userOk_cons Tryz.call148 (
  userOk_cons Tryz.call149 (
  userOk_cons Tryz.call150 (
  userOk_cons Tryz.call151 (
  userOk_cons Tryz.call152 (
  userOk_cons Tryz.call153 (
  userOk_cons Tryz.call154 (
  userOk_cons Tryz.call155 (
  userOk_cons Tryz.call156 (
  userOk_cons Tryz.call157 (
  userOk_cons Tryz.call158 (
  userOk_cons Tryz.call159 (
  userOk_cons Tryz.call160 (
  userOk_cons Tryz.call161 (
  userOk_cons Tryz.call162 (
  userOk_cons Tryz.call163 (
  userOk_cons Tryz.call164 (
  userOk_cons Tryz.call165 (
  userOk_cons Tryz.call166 (
  userOk_cons Tryz.call167 (
  userOk_cons Tryz.call168 (
  userOk_cons Tryz.call169 (
  userOk_cons Tryz.call170 (
  userOk_cons Tryz.call171 (
  userOk_cons Tryz.call172 (
  userOk_cons Tryz.call173 (
  userOk_cons Tryz.call174 (
  userOk_cons Tryz.call175 (
  userOk_cons Tryz.call176 (
  userOk_cons Tryz.call177 (
  userOk_cons Tryz.call178 (
  userOk_cons Tryz.call179 (
  userOk_cons Tryz.call180 (
  userOk_cons Tryz.call181 (
  userOk_cons Tryz.call182 (
  userOk_cons Tryz.call183 (
  userOk_cons Tryz.call184 (
  userOk_cons Tryz.call185 (
  userOk_cons Tryz.call186 (
  userOk_cons Tryz.call187 (
  userOk_cons Tryz.call188 (
  userOk_cons Tryz.call189 (
  userOk_cons Tryz.call190 (
  userOk_cons Tryz.call191 (
  userOk_cons Tryz.call192 (
  userOk_cons Tryz.call193 (
  userOk_cons Tryz.call194 (
  userOk_cons Tryz.call195 (
  userOk_cons Tryz.call196 (
  userOk_cons Tryz.call197 (
  userOk_cons Tryz.call198 (
  userOk_cons Tryz.call199 (
  userOk_cons Tryz.call200 (
  userOk_cons Tryz.call201 (
  userOk_cons Tryz.call202 (
  userOk_cons Tryz.call203 (
  userOk_cons Tryz.call204 (
  userOk_cons Tryz.call205 (
  userOk_cons Tryz.call206 (
  userOk_cons Tryz.call207 (
  userOk_cons Tryz.call208 (
  userOk_cons Tryz.call209 (
  userOk_cons Tryz.call210 (
  userOk_cons Tryz.call211 (
  userOk_cons Tryz.call212 (
  userOk_cons Tryz.call213 (
  userOk_cons Tryz.call214 (
  userOk_cons Tryz.call215 (
  userOk_cons Tryz.call216 (
  userOk_cons Tryz.call217 (
  userOk_cons Tryz.call218 (
  userOk_cons Tryz.call219 (
  userOk_cons Tryz.call220 (
  userOk_cons Tryz.call221 (
  userOk_cons Tryz.call222 (
  userOk_cons Tryz.call223 (
  userOk_cons Tryz.call224 (
  userOk_cons Tryz.call226 (
  userOk_cons Tryz.call227 (
  userOk_cons Tryz.call228 (
  userOk_cons Tryz.call229 (
  userOk_cons Tryz.call230 (
  userOk_cons Tryz.call231 (
  userOk_cons Tryz.call232 (
  userOk_cons Tryz.call233 (
  userOk_cons Tryz.call234 (
  userOk_cons Tryz.call235 (
  userOk_cons Tryz.call236 (
  userOk_cons Tryz.call237 (
  userOk_cons Tryz.call238 (
  userOk_cons Tryz.call240 (
  userOk_cons Tryz.call241 (
  userOk_cons Tryz.call242 (
  userOk_cons Tryz.call243 (
  userOk_cons Tryz.call244 (
  userOk_cons Tryz.call245 (
  userOk_cons Tryz.call246 (
  userOk_cons Tryz.call247 (
  userOk_cons Tryz.call248 (
  userOk_cons Tryz.call250 (
  userOk_cons Tryz.call251 (
  userOk_cons Tryz.call252 (
  userOk_cons Tryz.call253 (
  userOk_cons Tryz.call254 (
  userOk_cons Tryz.call255 (
  userOk_cons Tryz.call256 (
  userOk_cons Tryz.call257 (
  userOk_cons Tryz.call258 (
  userOk_cons Tryz.call259 (
  userOk_cons Tryz.call261 (
  userOk_cons Tryz.call262 (
  userOk_cons Tryz.call263 (
  userOk_cons Tryz.call264 (
  userOk_cons Tryz.call265 (
  userOk_cons Tryz.call266 (userOk_nil))))))))))))))))))))))))))))))))))))))))))))))))))))))))))))))))))))))))))))))))))))))))))))))))))))))))))))))))))))))))))))))))))))))))))))))))))))))))))))))))))))))))))))))))))))))))))))))))))))))))))))))))))))))))))))))))))))))))))))))))))))))))))))))))))))
theorem eq_ok:∀ t ∈ eqList,Tryz.prog.stoodInHeld t = false ∧ Tryz.prog.eqGuardType Tryz.prog.depth t = false:=by
  intro t ht
  simp only [eqList,List.mem_cons,List.not_mem_nil,or_false] at ht

theorem ext225_ok (args:Array Value) (w:World):(callFunc 225 args).run Tryz.prog w = (do pure (.value (← extF .cmp args)):Sem Next).run Tryz.prog w:=by kernel_rfl
theorem ext239_ok (args:Array Value) (w:World):(callFunc 239 args).run Tryz.prog w = (do pure (.value (← extF .same args)):Sem Next).run Tryz.prog w:=by kernel_rfl
theorem ext249_ok (args:Array Value) (w:World):(callFunc 249 args).run Tryz.prog w = (do pure (.value (← extF .indexByte args)):Sem Next).run Tryz.prog w:=by kernel_rfl
theorem ext_ok:∀ f e,cfg.ext f = some e → ∀ (args:Array Value) (w:World),(callFunc f args).run Tryz.prog w = (do pure (.value (← extF e args)):Sem Next).run Tryz.prog w:=by
  intro f e h
  have h2:=lookup_mem (l:=extList) h
  simp only [extList,List.mem_cons,Prod.mk.injEq,List.not_mem_nil,or_false] at h2
  rcases h2 with ⟨rfl,rfl⟩ | ⟨rfl,rfl⟩ | ⟨rfl,rfl⟩
  · exact ext225_ok
  · exact ext239_ok
  · exact ext249_ok
theorem sum_ok:∀ f g,cfg.sum f = some g → cfg.user f = true ∧ SumOk cfg f g:=by
  intro f g h
  have h2:=lookup_mem (l:=sumList) h
  simp only [sumList,List.mem_cons,Prod.mk.injEq,List.not_mem_nil,or_false] at h2
  rcases h2 with ⟨rfl,rfl⟩ | ⟨rfl,rfl⟩
  · exact ⟨by kernel_rfl,trimA_ok (C:=cfg) rfl (fun _=>rfl)⟩
  · exact ⟨by kernel_rfl,itoaA_ok (C:=cfg) rfl (fun _=>rfl)⟩
theorem eff_ok:∀ f g,cfg.eff f = some g → cfg.user f = true ∧ EffOk cfg f g:=by
  intro f g h
  have h2:=lookup_mem (l:=effList) h
  simp only [effList,List.mem_cons,Prod.mk.injEq,List.not_mem_nil,or_false] at h2
  rcases h2 with ⟨rfl,rfl⟩ | ⟨rfl,rfl⟩ | ⟨rfl,rfl⟩ | ⟨rfl,rfl⟩
  · exact ⟨by kernel_rfl,namesE_ok (C:=cfg) rfl (fun _=>rfl)⟩
  · exact ⟨by kernel_rfl,textE_ok (C:=cfg) rfl (fun _=>rfl)⟩
  · exact ⟨by kernel_rfl,stringE_ok (C:=cfg) rfl (fun _=>rfl)⟩
  · exact ⟨by kernel_rfl,byteE_ok (C:=cfg) rfl (fun _=>rfl)⟩
theorem cfg_ok:okCfg cfg:=
  ⟨fun t h=>eq_ok t (List.contains_iff_mem.1 h),fun f h=>user_ok f (List.contains_iff_mem.1 h),by kernel_rfl,ext_ok,sum_ok,eff_ok⟩
end Go.Am
