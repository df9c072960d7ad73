/-
  The functions of the translation over the abstract machine: written by program (wip/gen.py).
-/
import Derived.Test.YtehanadfidoodaaGreatDoorProg
import Derived.Test.YtehanadfidoodaaGreatDoorNkPgx
namespace Go.Am
open Go.Proofs
set_option maxRecDepth 100000
set_option linter.unusedVariables false
set_option linter.unusedSimpArgs false

def ZJ6:List (Nat × List (Nat × List Nat)):=[(3,[(3,[2,3,4])]),
 (4,[(4,[5,6]),(5,[5,6,7]),(6,[5,6,7]),(7,[5,6,7]),(9,[])]),
 (5,[(4,[0,1,5,6,7]),(5,[0,1,5,6,7]),(6,[0,1,5,6,7]),(8,[0,1,5,6,7]),(10,[0,1,5,6,7]),(11,[0,6])]),
 (6,[(3,[1,2]),(4,[1,2,5]),(5,[1,2,5]),(6,[1,2,5]),(8,[1,2]),(11,[1,2,6]),(14,[1,2,6,8]),(16,[1,2,9,10]),(17,[1,2,9,10]),(20,[1,2,9,10,11,12]),(21,[1,2,9,10,11]),(22,[1,2,9,10])]),
 (7,[(3,[0,1,2]),(4,[0,1,2,7]),(5,[0,1,2,7]),(6,[0,1,2,7]),(8,[0,1,2]),(12,[0,1,2,8,9]),(15,[0,1,2,8,9,11]),(17,[0,1,2,8,12,13,14]),(18,[0,1,2,8,12,13,14]),(19,[0,1,2,8,12,13,14]),(24,[0,1,2,8,12,13,14]),(25,[0,1,2,8,12,13,14]),(27,[0,1,2,8,12,13,14,18,19,20]),(31,[])]),
 (8,[(3,[0,1]),(6,[5,6]),(7,[5,6,7]),(8,[5,6,7]),(9,[5,6,7]),(11,[5,6,7]),(12,[5,6,7,8]),(13,[5,6,7,8]),(14,[5,6,7,8]),(16,[])]),
 (9,[(3,[0,1]),(6,[0,1,5,6,7]),(7,[0,1,5,6,7]),(8,[0,1,5,6,7]),(9,[0,1,5,6,7,8]),(10,[0,1,5,6,7,8]),(11,[0,1,5,6,7,8]),(13,[0,1,5,6,7,8]),(14,[0,1,5,6,7]),(16,[0,6])]),
 (10,[(3,[2,3,4]),(1000004,[3,4])]),
 (11,[(3,[2,3,4]),(6,[2,3,4,7,8]),(1000006,[3,4])]),
 (13,[(3,[2,3,4]),(11,[3,4,7,8,15]),(19,[22,23,24,25,27,28,29]),(1000005,[3,4]),(1000007,[3,4]),(1000008,[3,4])]),
 (14,[(3,[2,3,4]),(8,[2,3,7,8,9,10,11,12,13,14]),(9,[2,3,7,8,9,10,11,12,13,14]),(10,[2,3,7,8,9,10,11,12,13,14]),(11,[2,3,7,8,9,10,11,12,13]),(13,[2,3,7,8,11,13]),(1000016,[3,15]),(1000017,[3,15])]),
 (15,[(3,[2]),(4,[2,7]),(5,[2,7]),(6,[2,7]),(8,[])]),
 (16,[(3,[0,3,4]),(4,[0,3,4]),(5,[0,3,4]),(6,[3])]),
 (18,[(3,[0,1]),(4,[0,1,5]),(5,[0,1,5]),(6,[0,1,5]),(8,[])]),
 (19,[(3,[2,3,4]),(7,[3,4,7,8,9,10]),(8,[3,4,7,8,9]),(9,[3,4,7,8,9,10]),(11,[3,4,9]),(13,[9]),(1000003,[3,4])]),
 (20,[(4,[2,7,8]),(5,[2,7,8]),(6,[2,7,8]),(7,[7]),(8,[2,3,4,7]),(9,[2,3,4,7,9]),(11,[2,3,4,7,9,10,11]),(12,[2,3,4,7,9,10,11]),(13,[2,3,4,7,9,10,11]),(15,[2,3,4,7,9,10]),(17,[2,3,4,7,9,10])]),
 (21,[(5,[1,5,6,7,8,15,16,17]),(6,[1,5,6,7,8,15,16,17,18]),(11,[1,5,6,7,8,11,15,16,17]),(12,[1,5,6,7,8,15,16,17]),(13,[5,6,7]),(16,[6])]),
 (22,[(4,[0,1,5,6,7]),(5,[0,1,5,6,7]),(6,[0,1,5,6,7]),(15,[5])]),
 (23,[(3,[0,1]),(4,[0,1,5]),(5,[0,1,5]),(6,[0,1,5]),(8,[])]),
 (24,[(9,[7,8,9,10,11,12])]),
 (25,[(3,[0,3,4]),(4,[0,3,4]),(5,[0,3,4]),(6,[3])]),
 (26,[(3,[0,3,4]),(4,[0,3,4]),(5,[0,3,4]),(7,[0,3,4]),(8,[3])]),
 (28,[(3,[0,1,2]),(5,[0,1,2]),(6,[0,1,2,18,19,20]),(7,[0,1,2,18,19,20,21]),(11,[0,1,2,18,19,20]),(12,[0,1,2])]),
 (30,[(3,[0,3,5,6]),(6,[0,3,5,6,10]),(9,[0,10]),(12,[10])]),
 (31,[(4,[0,1,2,3,4]),(5,[0,1,2,3,4]),(6,[0,1,2,3,4]),(9,[0,1,2,3,4,5,6]),(11,[0,1,2,3,4,5,6]),(14,[0,1,2,3])]),
 (32,[(3,[0,1])]),
 (33,[(4,[5,6,7])]),
 (34,[(3,[2,3,4]),(6,[7]),(1000003,[3,4])]),
 (36,[(3,[0]),(11,[0]),(13,[0])]),
 (37,[(1,[0,1]),(3,[0,1,18,19,20]),(4,[0,1,18,19,20,21]),(10,[0,1,18,19,20])]),
 (38,[(1000003,[1,2])]),
 (39,[(4,[1,5,12,13]),(5,[1,5,12,13,14]),(8,[1,5,6,12,13]),(10,[1,5,12,13]),(11,[5])]),
 (40,[(3,[0,1]),(5,[0,1]),(7,[0,1,5,6]),(8,[0,1,5,6]),(10,[0,1,5,6,7,8]),(11,[0,1,5,6,7,8]),(12,[0,1,5,6,7,8]),(14,[0,1,5,6,7]),(15,[5])]),
 (41,[(2,[0,3]),(3,[0,3]),(4,[0,3]),(5,[0,3,4]),(6,[0,3,4]),(7,[0,3,4]),(9,[0,3]),(11,[0])]),
 (42,[(4,[2,3,4,5,11,12,13,14]),(5,[2,3,4,5,11,12,13,14]),(6,[2,3,4,5,11,13,14]),(12,[2,3,4,5,11,12,13,14,15]),(14,[2,3,4,5,11,12,13,14,15]),(15,[11,12,13])]),
 (43,[(3,[0,1,6,7]),(4,[0,1,6,7]),(5,[0,1,6,7]),(8,[0,1,6,7,8,9]),(11,[0,1,6,7,8]),(12,[6])]),
 (44,[(1000002,[4])]),
 (45,[(3,[0,1,5,6]),(4,[0,1,5,6]),(5,[0,1,5,6]),(6,[5])]),
 (46,[(3,[0,3,4]),(4,[0,3,4]),(5,[0,3,4]),(6,[3])]),
 (47,[(3,[0,1]),(4,[0,1,5]),(5,[0,1,5]),(6,[0,1,5]),(8,[])]),
 (53,[(3,[0]),(5,[0,3,10,11,12]),(6,[0,3,10,11,12,13]),(9,[0,3,10,11,12]),(10,[3])]),
 (58,[(3,[0]),(5,[0]),(6,[0]),(10,[0,3]),(11,[0])]),
 (59,[(3,[0]),(6,[0,5]),(7,[0,5])]),
 (60,[(3,[0,3,5,6]),(6,[0,3,5,6,10]),(8,[0,5,6,10,12,31,32,33]),(9,[0,5,6,10,12,31,32,33,34]),(11,[0,5,6,10,12,31,32,33]),(12,[0,5,6,10,12]),(13,[0,10,15]),(16,[0,10,15,16,17]),(17,[0,10,15,16]),(20,[0,10]),(23,[10])]),
 (61,[(3,[0])]),
 (63,[(3,[2,3,4]),(4,[2,3,4,7]),(5,[2,3,4,7]),(6,[2,3,4,7]),(9,[])]),
 (64,[(3,[1]),(5,[1]),(6,[33,34,35]),(7,[33,34,35,36]),(10,[33,34,35]),(11,[])]),
 (65,[(3,[0,3,9,10,11]),(4,[0,3,9,10,11,12]),(8,[0,3,9,10,11]),(9,[0,3]),(11,[6,25,26,27]),(12,[6,25,26,27,28]),(14,[6,25,26,27]),(15,[6])]),
 (67,[(5,[2,3,4,5]),(8,[9])]),
 (68,[(3,[0])]),
 (69,[(3,[0,1,5,8,9,10]),(4,[0,1,5,8,9,10,11]),(7,[0,1,5,8,9,10]),(8,[5])]),
 (70,[(3,[1,5,8,9,10]),(4,[1,5,8,9,10,11]),(7,[1,5,8,9,10]),(8,[5])]),
 (72,[(4,[2,3,4,5]),(5,[2,3,4,5,26,27,28]),(6,[2,3,4,5,26,27,28,29]),(10,[2,3,4,5,10,11,26,27,28]),(13,[2,3,4,5,26,27,28]),(14,[]),(1000010,[4,5,10])]),
 (73,[(3,[1]),(5,[1]),(6,[1,3]),(7,[1,3]),(8,[1,3]),(10,[])]),
 (74,[(5,[2,3,4,5]),(8,[9])]),
 (75,[(3,[2,3,4,7,8]),(4,[2,3,4,7,8]),(5,[2,3,4,7,8]),(7,[7])]),
 (76,[(3,[0])]),
 (77,[(2,[0,7,8]),(3,[0,7,8,9]),(8,[0,7,8]),(9,[0])]),
 (78,[(4,[0,1,5]),(6,[5,6,21,22,23]),(7,[5,6,21,22,23,24]),(11,[5,6,21,22,23]),(12,[5])]),
 (79,[(4,[6])]),
 (80,[(3,[0]),(5,[0]),(9,[0,4])]),
 (81,[(4,[0,1,2]),(6,[0,1,2]),(9,[0,1,8]),(11,[0,1,8])]),
 (82,[(4,[0,1]),(7,[0,1])]),
 (83,[(3,[0,1]),(6,[1,6,7,8]),(7,[1,6,7,8]),(12,[6,7,8])]),
 (86,[(4,[0,1,2]),(7,[2,10]),(9,[2,10]),(12,[2,12,13])]),
 (94,[(4,[2,3,4,7]),(5,[2,3,4,7,8]),(6,[2,3,4,7,8]),(7,[2,3,4,7,8]),(8,[3,4,7])]),
 (102,[(5,[1,5,6,7,20,21,22]),(6,[1,5,6,7,20,21,22,23]),(10,[1,5,6,7,8,10,11,20,21,22]),(12,[1,5,6,7,20,21,22]),(13,[1,5,7]),(15,[1,5]),(18,[13])]),
 (103,[(3,[0,3,10,11,12]),(4,[0,3,10,11,12,13]),(7,[0,3,10,11,12]),(8,[3])]),
 (105,[(3,[1,2])]),
 (106,[(5,[1,2,8,9,24,25]),(6,[1,2,8,9,24,25,26]),(9,[1,2,8,9,10,24,25]),(11,[1,2,8,9,24,25]),(12,[1,2,8,9]),(14,[1,2,8,9]),(16,[1,2]),(1000002,[3])]),
 (107,[(4,[4,5,6,7,9]),(8,[4,5,6,7,9]),(1000011,[4])]),
 (108,[(4,[0,2,4,7,8]),(12,[0,7,10]),(14,[0,7,10])]),
 (109,[(3,[1])]),
 (110,[(3,[1,2])]),
 (111,[(4,[2,3,4,5]),(5,[2,3,4,5,9]),(6,[2,3,4,5,9]),(7,[2,3,4,5,9]),(10,[2,3,4,5,9,10]),(13,[]),(1000010,[4,5,10])]),
 (112,[(5,[1,2])]),
 (115,[(2,[0,5,6]),(3,[0,5,6,7]),(6,[0,5,6]),(7,[0])]),
 (116,[(3,[0,1]),(5,[0,1]),(8,[6])]),
 (119,[(11,[0,1]),(13,[0,1])]),
 (120,[(7,[])]),
 (121,[(3,[4,9,10,11]),(4,[4,9,10,11,12]),(8,[4,7,9,10,11]),(9,[4,9,10,11]),(10,[4])]),
 (122,[(4,[0,2,7]),(6,[0,2,7])]),
 (123,[(4,[6])]),
 (124,[(4,[2,3,10]),(6,[2,3,10])]),
 (125,[(3,[0,1]),(6,[1,7]),(9,[1,7,8]),(11,[1,7,8]),(13,[1,7,8])]),
 (127,[(3,[0]),(4,[0,3]),(5,[0,3]),(6,[0,3]),(9,[])]),
 (138,[(2,[2,3,4,5,9]),(3,[2,3,4,5,9]),(4,[2,3,9])]),
 (142,[(4,[0,1,5]),(5,[0,1,5,6]),(6,[0,1,5,6]),(7,[0,1,5,6]),(11,[0,5])]),
 (147,[(3,[1,2])]),
 (149,[(3,[1,2,3,6,16,17,18]),(4,[1,2,3,6,16,17,18,19]),(6,[1,2,3,6,16,17,18]),(7,[1,2,3,6]),(8,[1,2,3,6,9]),(9,[1,2,3,6,9]),(14,[1,2,3,6,9,10,11]),(15,[1,2,3,6,9,10])]),
 (152,[(2,[0,4]),(3,[0,4]),(4,[0,4]),(7,[0,4,5]),(14,[5,6,7,8,9]),(16,[5,7,8,9]),(19,[9,11])]),
 (153,[(5,[])]),
 (157,[(3,[0,3,7,8]),(4,[0,3,7,8,9]),(8,[0,3,7,8]),(9,[3])]),
 (160,[(3,[0,1,2,6,9]),(4,[0,1,2,6,9]),(7,[0,1,2,6,9,10]),(9,[0,1,2,6,9,10]),(10,[0,1,6]),(11,[0,1,6,11]),(12,[0,1,6,11]),(13,[0,1,6,11]),(14,[0,1,6,7,11]),(15,[0,1,6,7,11]),(16,[0,1,6,7,11]),(17,[0,1,6,7,11]),(18,[0,1,6,7,11]),(20,[0,1,7,11]),(21,[])]),
 (161,[(5,[3,9]),(7,[9])]),
 (162,[(5,[0,4,7,8,9]),(12,[0,11,12]),(14,[0,11,12]),(1000002,[4]),(1000006,[10]),(1000011,[13])]),
 (163,[(3,[1,2])]),
 (164,[(2,[0,1,5]),(3,[0,1,5]),(4,[0,1,5]),(6,[0,1,5]),(8,[0,1]),(10,[0,1]),(12,[])]),
 (165,[(3,[1,2,5,6]),(4,[1,2,5,6]),(10,[5])]),
 (166,[(3,[0,1,5,6,7]),(4,[0,1,5,6,7]),(5,[0,1,5,6,7]),(6,[1,5,6]),(7,[1,5,6,8]),(8,[1,5,6,8]),(9,[1,5,6,8]),(10,[5,6])]),
 (167,[(6,[0])]),
 (169,[(2,[0,7,8]),(3,[0,7,8,9]),(8,[0,7,8]),(9,[0])]),
 (170,[(3,[0])]),
 (184,[(2,[0,1,7,8]),(3,[0,1,7,8,9]),(6,[0,1,7,8]),(7,[])]),
 (185,[(2,[0,1,7,8]),(3,[0,1,7,8,9]),(6,[0,1,7,8]),(7,[])]),
 (186,[(3,[1]),(5,[1]),(6,[1,27,28,29]),(7,[1,27,28,29,30]),(10,[1,27,28,29]),(11,[1]),(14,[1])]),
 (187,[(3,[0,1,5,6]),(4,[0,1,5,6,7]),(6,[0,1,5,6]),(7,[0,1])]),
 (189,[(2,[0,3]),(3,[0,3]),(4,[3])]),
 (190,[(3,[0,1,5,8,9]),(4,[0,1,5,8,9,10]),(8,[0,1,5,8,9]),(9,[1,5])]),
 (197,[(3,[0,5,10,11]),(4,[0,5,10,11,12]),(6,[0,5,10,11]),(7,[5])]),
 (199,[(5,[5,7]),(7,[])]),
 (200,[(1,[1,2,3]),(2,[1,2,3]),(3,[1,2,3]),(5,[1,2,3]),(7,[1])]),
 (201,[(5,[0,1,5,6,7]),(6,[0,1,5,6,7]),(7,[0,1,5,6,7]),(10,[0,5,6]),(11,[0,5,6]),(12,[0,5,6,8]),(13,[0,5,6,8]),(14,[0,5,6,8]),(17,[0,5,6]),(19,[5])]),
 (202,[(3,[1])]),
 (203,[(3,[1])]),
 (204,[(3,[1]),(5,[1]),(6,[1,3]),(7,[1,3]),(8,[1,3]),(10,[1]),(12,[1]),(15,[1])]),
 (205,[(2,[1,2,3,7]),(3,[1,2,3,7]),(4,[1,2,3,7]),(6,[])]),
 (208,[(3,[0,3,6,7]),(4,[0,3,6,7,8]),(8,[0,3,6,7]),(9,[3])]),
 (221,[(2,[0,7,8]),(3,[0,7,8,9]),(8,[0,7,8]),(9,[0])]),
 (222,[(3,[0]),(5,[3,10,11,12]),(6,[3,10,11,12,13]),(9,[3,5,10,11,12]),(11,[3,5,10,11,12]),(12,[3,10,11,12]),(13,[])]),
 (223,[(3,[0]),(5,[3,10,11,12]),(6,[3,10,11,12,13]),(9,[3,5,10,11,12]),(11,[3,5,10,11,12]),(12,[3,10,11,12]),(13,[])]),
 (224,[(3,[0,1,2,7,11,12]),(4,[0,1,2,7,11,12,13]),(8,[0,1,2,7,11,12]),(9,[7])]),
 (226,[(3,[0,3,5]),(4,[0,3,5,6]),(8,[0,3,5]),(9,[3])]),
 (231,[(2,[0,4]),(3,[0,4]),(4,[0,4]),(7,[0,4,5]),(14,[0,4,5,6,7,8]),(16,[0,4,5,6,7,8]),(18,[0,4,5,6,7,8]),(21,[5,7,10]),(23,[7,10])]),
 (233,[(3,[0,3,4]),(4,[0,3,4]),(5,[0,3,4]),(8,[3])]),
 (236,[(3,[0]),(4,[0,3]),(5,[0,3]),(6,[0,3]),(8,[0,3]),(9,[0,3,4]),(10,[0,3,4]),(11,[0,3,4]),(13,[])]),
 (237,[(3,[0]),(4,[0,3]),(5,[0,3]),(6,[0,3]),(8,[0,3]),(9,[0,3,4]),(10,[0,3,4]),(11,[0,3,4]),(13,[])]),
 (250,[(1,[0,1]),(2,[0,1]),(3,[1])]),
 (251,[(3,[0,1,6,7]),(4,[0,1,6,7]),(5,[0,1,6,7]),(8,[1,6]),(9,[1,6,8]),(10,[1,6,8]),(11,[1,6,8]),(14,[6])]),
 (252,[(3,[0,1,5,6]),(4,[0,1,5,6]),(5,[0,1,5,6]),(6,[5])])]
def ZBN:List Nat:=[3,4,5,6,7,8,9,10,11,12,13,14,15,16,17,18,19,20,21,22,23,24,25,26,27,28,29,30,31,32,33,34,35,36,37,38,39,40,41,42,43,44,45,46,47,48,49,50,51,52,53,54,55,56,57,58,59,60,61,62,63,64,65,66,67,68,69,70,71,72,73,74,75,76,77,78,79,80,81,82,83,84,85,86,87,88,89,90,91,92,93,94,95,96,97,98,99,100,101,102,103,104,105,106,107,108,109,110,111,112,113,114,115,116,117,118,119,120,121,122,123,124,125,126,127,128,129,130,131,132,133,134,135,136,137,138,139,140,141,142,143,144,145,146,147,148,149,150,151,152,153,154,155,156,157,158,159,160,161,162,163,164,165,166,167,168,169,170,171,172,173,174,175,176,177,178,179,180,181,182,183,184,185,186,187,188,189,190,191,192,193,194,195,196,197,198,199,200,201,202,203,204,205,206,207,208,209,210,211,212,213,214,215,216,217,218,219,220,221,222,223,224,226,227,228,229,230,231,232,233,234,235,236,237,238,240,241,242,243,244,245,246,247,248,250,251,252,253,254,255,256,257,258,259,261,262,263,264,265,266]
def ZJp:List Nat:=[19,20]
def ZIL:List Nat:=[15,16,17,18,19,20,21,22,23,24,25,26,27,31,34,38,39,40,41,46,47,52,62,63,64,66,67,70,71,72,73,74,75,76,77,83,84,85,88,89,94,105,106,107,109,110,111,112,113,114,115,118,121,125,127,128,131,134,135,138,140,146,147,148,151,152,153,155,157,158,159,161,163,164,165,166,169,170,173,178,180,183,185,186,187,188,189,190,197,199,200,204,205,208,220,221,222,223,224,226,231,233,234,235,236,237,246,250,251,252]
def Zyz:List (Nat × ExtK):=[(225,.cmp),(239,.same),(249,.indexByte)]
def ZMl:List Nat:=[53,54,61,78,90,103,136,181]
def ZAM:List Nat:=[]
noncomputable def ZyN:List (Nat × (List AV→Option AV)):=[(156,ZuA),(168,Zuv)]
noncomputable def Zyv:List (Nat × EffFn):=[(87,ZxJ),(104,ZK1),(171,Zy6),(172,Zms),(196,Zuo)]
def ZKv:List (Nat × Nat):=[(192,5)]
def ZLy:List Nat:=[123]
def ZMh:List (Nat × List Nat):=[(11,[12]),(14,[15])]
def ZKZ:List Nat:=[22,32]
noncomputable def cfg:Cfg:={ P:=Tryz.prog,glob:=Zj9,sum:=fun f=>ZyN.lookup f,user:=fun f=>ZBN.contains f,eqok:=fun t=>ZAM.contains t,pure:=fun f=>ZJp.contains f,flat:=fun f=>ZIL.contains f,ext:=fun f=>Zyz.lookup f,keep:=ZKV ZJ6,eff:=fun f=>Zyv.lookup f,bld:=fun t=>ZKv.lookup t,lin:=fun t=>ZKZ.contains t,qk:=fun t a=>ZMh.contains (t,a),wrb:=fun t=>ZLy.contains t,ro:=fun f=>ZMl.contains f }
noncomputable def Zlq:List AV→Hp→Res:=Za7 cfg 11
noncomputable def Zfy:List AV→Hp→Res:=Za7 cfg 28
noncomputable def ZoY:List AV→Hp→Res:=Za7 cfg 29
noncomputable def ZmB:List AV→Hp→Res:=Za7 cfg 30
noncomputable def Zl8:List AV→Hp→Res:=Za7 cfg 31
noncomputable def ZoX:List AV→Hp→Res:=Za7 cfg 32
noncomputable def ZfR:List AV→Hp→Res:=Za7 cfg 33
noncomputable def Zet:List AV→Hp→Res:=Za7 cfg 34
noncomputable def ZcB:List AV→Hp→Res:=Za7 cfg 36
noncomputable def Zhj:List AV→Hp→Res:=Za7 cfg 38
noncomputable def Zmz:List AV→Hp→Res:=Za7 cfg 39
noncomputable def ZsQ:List AV→Hp→Res:=Za7 cfg 41
noncomputable def Zkl:List AV→Hp→Res:=Za7 cfg 42
noncomputable def Zku:List AV→Hp→Res:=Za7 cfg 43
noncomputable def Zhm:List AV→Hp→Res:=Za7 cfg 44
noncomputable def Zff:List AV→Hp→Res:=Za7 cfg 45
noncomputable def Ziz:List AV→Hp→Res:=Za7 cfg 46
noncomputable def ZiA:List AV→Hp→Res:=Za7 cfg 47
noncomputable def ZcC:List AV→Hp→Res:=Za7 cfg 53
noncomputable def Zds:List AV→Hp→Res:=Za7 cfg 59
noncomputable def ZcG:List AV→Hp→Res:=Za7 cfg 64
noncomputable def ZdN:List AV→Hp→Res:=Za7 cfg 67
noncomputable def Zdc:List AV→Hp→Res:=Za7 cfg 70
noncomputable def Zce:List AV→Hp→Res:=Za7 cfg 72
noncomputable def ZaR:List AV→Hp→Res:=Za7 cfg 76
noncomputable def Zdd:List AV→Hp→Res:=Za7 cfg 77
noncomputable def ZiD:List AV→Hp→Res:=Za7 cfg 78
noncomputable def ZcU:List AV→Hp→Res:=Za7 cfg 80
noncomputable def Zcx:List AV→Hp→Res:=Za7 cfg 81
noncomputable def ZcK:List AV→Hp→Res:=Za7 cfg 82
noncomputable def Zb2:List AV→Hp→Res:=Za7 cfg 83
noncomputable def Zmx:List AV→Hp→Res:=Za7 cfg 84
noncomputable def Zmy:List AV→Hp→Res:=Za7 cfg 85
noncomputable def ZcJ:List AV→Hp→Res:=Za7 cfg 86
noncomputable def Zgd:List AV→Hp→Res:=Za7 cfg 88
noncomputable def Zdt:List AV→Hp→Res:=Za7 cfg 102
noncomputable def Zcy:List AV→Hp→Res:=Za7 cfg 103
noncomputable def ZcI:List AV→Hp→Res:=Za7 cfg 105
noncomputable def Zdb:List AV→Hp→Res:=Za7 cfg 106
noncomputable def ZdO:List AV→Hp→Res:=Za7 cfg 107
noncomputable def Zef:List AV→Hp→Res:=Za7 cfg 108
noncomputable def Zeg:List AV→Hp→Res:=Za7 cfg 114
noncomputable def ZcD:List AV→Hp→Res:=Za7 cfg 116
noncomputable def ZmA:List AV→Hp→Res:=Za7 cfg 118
noncomputable def ZeO:List AV→Hp→Res:=Za7 cfg 119
noncomputable def ZbO:List AV→Hp→Res:=Za7 cfg 120
noncomputable def ZjW:List AV→Hp→Res:=Za7 cfg 121
noncomputable def ZeN:List AV→Hp→Res:=Za7 cfg 122
noncomputable def ZfT:List AV→Hp→Res:=Za7 cfg 123
noncomputable def ZfS:List AV→Hp→Res:=Za7 cfg 124
noncomputable def Zmv:List AV→Hp→Res:=Za7 cfg 125
noncomputable def ZfP:List AV→Hp→Res:=Za7 cfg 127
noncomputable def Zeu:List AV→Hp→Res:=Za7 cfg 144
noncomputable def Zcr:List AV→Hp→Res:=Za7 cfg 145
noncomputable def Zb4:List AV→Hp→Res:=Za7 cfg 146
noncomputable def Zd7:List AV→Hp→Res:=Za7 cfg 147
noncomputable def ZdM:List AV→Hp→Res:=Za7 cfg 148
noncomputable def Zl9:List AV→Hp→Res:=Za7 cfg 149
noncomputable def ZeM:List AV→Hp→Res:=Za7 cfg 150
noncomputable def Zh4:List AV→Hp→Res:=Za7 cfg 151
noncomputable def ZeK:List AV→Hp→Res:=Za7 cfg 152
noncomputable def Zk0:List AV→Hp→Res:=Za7 cfg 153
noncomputable def Zh1:List AV→Hp→Res:=Za7 cfg 154
noncomputable def Zh2:List AV→Hp→Res:=Za7 cfg 155
noncomputable def ZjZ:List AV→Hp→Res:=Za7 cfg 157
noncomputable def Zh3:List AV→Hp→Res:=Za7 cfg 158
noncomputable def ZjY:List AV→Hp→Res:=Za7 cfg 159
noncomputable def Zfx:List AV→Hp→Res:=Za7 cfg 160
noncomputable def Zhl:List AV→Hp→Res:=Za7 cfg 163
noncomputable def Zdu:List AV→Hp→Res:=Za7 cfg 167
noncomputable def Zi2:List AV→Hp→Res:=Za7 cfg 169
noncomputable def ZjX:List AV→Hp→Res:=Za7 cfg 170
noncomputable def Zkn:List AV→Hp→Res:=Za7 cfg 173
noncomputable def Zc0:List AV→Hp→Res:=Za7 cfg 185
noncomputable def Zgc:List AV→Hp→Res:=Za7 cfg 186
noncomputable def Zmw:List AV→Hp→Res:=Za7 cfg 187
noncomputable def ZbM:List AV→Hp→Res:=Za7 cfg 188
noncomputable def ZeL:List AV→Hp→Res:=Za7 cfg 189
noncomputable def ZiB:List AV→Hp→Res:=Za7 cfg 190
noncomputable def ZcH:List AV→Hp→Res:=Za7 cfg 195
noncomputable def ZiC:List AV→Hp→Res:=Za7 cfg 197
noncomputable def Zfs:List AV→Hp→Res:=Za7 cfg 198
noncomputable def Zkm:List AV→Hp→Res:=Za7 cfg 204
noncomputable def ZoW:List AV→Hp→Res:=Za7 cfg 208
noncomputable def Zfg:List AV→Hp→Res:=Za7 cfg 221
noncomputable def ZcF:List AV→Hp→Res:=Za7 cfg 222
noncomputable def Zcw:List AV→Hp→Res:=Za7 cfg 223
noncomputable def ZfQ:List AV→Hp→Res:=Za7 cfg 226
noncomputable def Zda:List AV→Hp→Res:=Za7 cfg 230
noncomputable def Zv0:List AV→Hp→Res:=Za7 cfg 234
noncomputable def Zhk:List AV→Hp→Res:=Za7 cfg 235
noncomputable def ZdL:List AV→Hp→Res:=Za7 cfg 236
noncomputable def Zdr:List AV→Hp→Res:=Za7 cfg 237
noncomputable def Zmu:List AV→Hp→Res:=Za7 cfg 252
noncomputable def Zns (H0 H:Hp):Res:=CXL cfg (Za7 cfg) (LPL cfg (cfg.keep 64) 78) (cfg.keep 64) 78 seqL Za4 (sub (Za0 Tryz.f64) [1,1,1,1]) (retL cfg 78 64 Tryz.f64 H0) [] H
noncomputable def Zf6 (H0:Hp):KL:=seqL (fun k al H=>CXL cfg (Za7 cfg) (LPL cfg (cfg.keep 64) 78) (cfg.keep 64) 78 seqL Za4 (sub (Za0 Tryz.f64) [1,1,1,1]) k (Za8 (cfg.keep 64) (sub (Za0 Tryz.f64) [1,1,1,1]) al) H) (retL cfg 78 64 Tryz.f64 H0)
theorem Zqb (H0:Hp):Tame 78 (Zf6 H0):=Zan (C:=cfg) (kp:=cfg.keep 64) (sub (Za0 Tryz.f64) [1,1,1,1]) (Zaq 64 Tryz.f64 H0)
noncomputable def Zi6 (x33 x34 x35:AV) (H0 H:Hp):Res:=CXL cfg (Za7 cfg) (LPL cfg (cfg.keep 64) 78) (cfg.keep 64) 78 seqL Za4 (sub (Za0 Tryz.f64) [1,1,1,0,1,0,0,1,1,1]) (seqL (fun k al H=>LPL cfg (cfg.keep 64) 78 (sub (Za0 Tryz.f64) [1,1,1,0,1,0,0]) k (Za8 (cfg.keep 64) (sub (Za0 Tryz.f64) [1,1,1,0,1,0,0]) al) H) (Za4 0 (Zf6 H0))) [(33,x33),(34,x34),(35,x35)] H
noncomputable def Zi5 (x33 x34 x35 x36:AV) (H0 H:Hp):Res:=CXL cfg (Za7 cfg) (LPL cfg (cfg.keep 64) 78) (cfg.keep 64) 78 seqL Za4 (sub (Za0 Tryz.f64) [1,1,1,0,1,0,0,1,1]) (seqL (fun k al H=>LPL cfg (cfg.keep 64) 78 (sub (Za0 Tryz.f64) [1,1,1,0,1,0,0]) k (Za8 (cfg.keep 64) (sub (Za0 Tryz.f64) [1,1,1,0,1,0,0]) al) H) (Za4 0 (Zf6 H0))) [(33,x33),(34,x34),(35,x35),(36,x36)] H
noncomputable def Zf7 (x33 x34 x35:AV) (H0 H:Hp):Res:=LPL cfg (cfg.keep 64) 78 (sub (Za0 Tryz.f64) [1,1,1,0,1,0,0]) (Za4 0 (Zf6 H0)) [(33,x33),(34,x34),(35,x35)] H
noncomputable def Znr (x1:AV) (H0 H:Hp):Res:=CXL cfg (Za7 cfg) (LPL cfg (cfg.keep 64) 78) (cfg.keep 64) 78 seqL Za4 (sub (Za0 Tryz.f64) [1,1,1]) (retL cfg 78 64 Tryz.f64 H0) [(1,x1)] H
noncomputable def Znq (x1:AV) (H0 H:Hp):Res:=CXL cfg (Za7 cfg) (LPL cfg (cfg.keep 64) 78) (cfg.keep 64) 78 seqL Za4 (sub (Za0 Tryz.f64) [1,1]) (retL cfg 78 64 Tryz.f64 H0) [(1,x1)] H
noncomputable def Zo9 (p0:AV) (H:Hp):Res:=
 bnd (abox p0 H) fun r1=>
 bnd (Za5 0 r1.1) fun t5=>
 bnd (Za2 false 1 t5 r1.2) fun t6=>
 bnd (Zae (.slice 149) t6) fun t7=>
 bnd (ibin .gtr t7 (.int .i64 8)) fun t8=>
 cnd t8
  (some ((.int .i64 3),r1.2))
  (Znq r1.1 H r1.2)
theorem Zsq (H0 H:Hp):Zns H0 H =
    some ((.int .i64 0),H):=(Za3 [3,5,7,10,11] _ _ _ _).trans (by kernel_rfl)
theorem Zss (x33 x34 x35:AV) (H0 H:Hp):Zi6 x33 x34 x35 H0 H =
    bnd (ibin .add x35 (.int .i64 1)) fun t77=>
    Zf7 x33 x34 t77 H0 H:=(Za3 [3,5,7,10,11] _ _ _ _).trans (by kernel_rfl)
theorem Zsr (x33 x34 x35 x36:AV) (H0 H:Hp):Zi5 x33 x34 x35 x36 H0 H =
    bnd (Zaf 5 x33 x35) fun t37=>
    bnd (Za2 true 5 t37 H) fun t38=>
    bnd (some ((.ptr H.length 0),H++[.cells [(.int .i64 0),(.int .i64 0),(.int .i64 0),(.int .i64 0),(.int .i64 0)]])) fun r4=>
    bnd (Zab 5 r4.1 t38 r4.2) fun r_10=>
    bnd (Za5 0 r4.1) fun t39=>
    bnd (Za2 false 1 t39 r_10.2) fun t40=>
    bnd (ibin .lss t40 (.int .i64 1)) fun t41=>
    bnd (gdv t41 false (.tuple []) (Za5 1 r4.1)) fun t43=>
    bnd (gdv t41 false (.tuple []) (Za2 false 1 t43 r_10.2)) fun t44=>
    bnd (gdv t41 false (.tuple []) (ibin .lss t44 (.int .i64 1))) fun t45=>
    bnd (Zad t41 (.bool true) t45) fun t46=>
    bnd (gdv t46 false (.tuple []) (Za5 2 r4.1)) fun t48=>
    bnd (gdv t46 false (.tuple []) (Za2 false 1 t48 r_10.2)) fun t49=>
    bnd (gdv t46 false (.tuple []) (ibin .lss t49 (.int .i64 0))) fun t50=>
    bnd (Zad t46 (.bool true) t50) fun t51=>
    bnd (gdv t51 false (.tuple []) (Za5 3 r4.1)) fun t53=>
    bnd (gdv t51 false (.tuple []) (Za2 false 1 t53 r_10.2)) fun t54=>
    bnd (gdv t51 false (.tuple []) (ibin .lss t54 (.int .i64 0))) fun t55=>
    bnd (Zad t51 (.bool true) t55) fun t56=>
    bnd (gdv t56 false (.tuple []) (Za5 2 r4.1)) fun t58=>
    bnd (gdv t56 false (.tuple []) (Za2 false 1 t58 r_10.2)) fun t59=>
    bnd (gdv t56 false (.tuple []) (ibin .eql t59 (.int .i64 0))) fun t60=>
    bnd (gdv t56 false (.tuple []) (some t60)) fun t61=>
    bnd (gdv t61 true (.tuple []) (Za5 3 r4.1)) fun t62=>
    bnd (gdv t61 true (.tuple []) (Za2 false 1 t62 r_10.2)) fun t63=>
    bnd (gdv t61 true (.tuple []) (ibin .neq t63 (.int .i64 0))) fun t64=>
    bnd (gdv t56 false (.tuple []) (Zad t61 t64 (.bool false))) fun t65=>
    bnd (Zad t56 (.bool true) t65) fun t66=>
    bnd (gdv t66 false (.tuple []) (Za5 4 r4.1)) fun t68=>
    bnd (gdv t66 false (.tuple []) (Za2 false 1 t68 r_10.2)) fun t69=>
    bnd (gdv t66 false (.tuple []) (ibin .lss t69 (.int .i64 0))) fun t70=>
    bnd (Zad t66 (.bool true) t70) fun t71=>
    bnd (gdv t71 false (.tuple []) (Za5 4 r4.1)) fun t73=>
    bnd (gdv t71 false (.tuple []) (Za2 false 1 t73 r_10.2)) fun t74=>
    bnd (gdv t71 false (.tuple []) (ibin .gtr t74 (.int .i64 31))) fun t75=>
    bnd (Zad t71 (.bool true) t75) fun t76=>
    cnd t76
     (some ((.int .i64 2),r_10.2))
     (Zi6 x33 x34 x35 H0 r_10.2):=(Za3 [3,5,7,10,11] _ _ _ _).trans (by kernel_rfl)
theorem ZjK (x33 x34 x35:AV) (H0 H:Hp):Zf7 x33 x34 x35 H0 H =
    bnd (ibin .lss x35 x34) fun t36=>
    cnd t36
     (Zi5 x33 x34 x35 t36 H0 H)
     (Zns H0 H):=(Zar (C:=cfg) [3,5,7,10,11] (Zag 0 (Zqb H0)) _ _).trans (by kernel_rfl)
theorem Zsp (x1:AV) (H0 H:Hp):Znr x1 H0 H =
    bnd (Za5 0 x1) fun t32=>
    bnd (Za2 false 1 t32 H) fun t33=>
    bnd (Zae (.slice 149) t33) fun t34=>
    Zf7 t33 t34 (.int .i64 0) H0 H:=(Za3 [3,5,7,10,11] _ _ _ _).trans (by kernel_rfl)
theorem Zso (x1:AV) (H0 H:Hp):Znq x1 H0 H =
    bnd (Za5 1 x1) fun t9=>
    bnd (Za2 false 1 t9 H) fun t10=>
    bnd (ibin .lss t10 (.int .i64 (-1))) fun t11=>
    bnd (gdv t11 false (.tuple []) (Za5 1 x1)) fun t13=>
    bnd (gdv t11 false (.tuple []) (Za2 false 1 t13 H)) fun t14=>
    bnd (gdv t11 false (.tuple []) (ibin .gtr t14 (.int .i64 255))) fun t15=>
    bnd (Zad t11 (.bool true) t15) fun t16=>
    bnd (gdv t16 false (.tuple []) (Za5 1 x1)) fun t18=>
    bnd (gdv t16 false (.tuple []) (Za2 false 1 t18 H)) fun t19=>
    bnd (gdv t16 false (.tuple []) (ibin .eql t19 (.int .i64 10))) fun t20=>
    bnd (Zad t16 (.bool true) t20) fun t21=>
    bnd (gdv t21 false (.tuple []) (Za5 2 x1)) fun t23=>
    bnd (gdv t21 false (.tuple []) (Za2 false 1 t23 H)) fun t24=>
    bnd (gdv t21 false (.tuple []) (ibin .lss t24 (.int .i64 0))) fun t25=>
    bnd (Zad t21 (.bool true) t25) fun t26=>
    bnd (gdv t26 false (.tuple []) (Za5 2 x1)) fun t28=>
    bnd (gdv t26 false (.tuple []) (Za2 false 1 t28 H)) fun t29=>
    bnd (gdv t26 false (.tuple []) (ibin .gtr t29 (.int .i64 31))) fun t30=>
    bnd (Zad t26 (.bool true) t30) fun t31=>
    cnd t31
     (some ((.int .i64 2),H))
     (Znr x1 H0 H):=(Za3 [3,5,7,10,11] _ _ _ _).trans (by kernel_rfl)
theorem Zt2 (p0:AV) (H:Hp):ZcG [p0] H=Zo9 p0 H:=(Za9 (C:=cfg) (fn:=Tryz.f64) (c:=Za0 Tryz.f64) (n:=78) [3,5,7,10,11] Tryz.func64 (by kernel_rfl) (by kernel_rfl) [p0] (by kernel_rfl) H).trans (by kernel_rfl)

noncomputable def Zl4 (x0 x7 x10:AV) (H0 H:Hp):Res:=CXL cfg (Za7 cfg) (LPL cfg (cfg.keep 108) 70) (cfg.keep 108) 70 seqL Za4 (sub (Za0 Tryz.f108) [1,1,1,1,1,1,1]) (retL cfg 70 108 Tryz.f108 H0) [(0,x0),(7,x7),(10,x10)] H
noncomputable def ZbU (x0 x7 x10:AV) (H0 H:Hp):Res:=CXL cfg (Za7 cfg) (LPL cfg (cfg.keep 108) 70) (cfg.keep 108) 70 seqL Za4 (sub (Za0 Tryz.f108) [1,1,1,1,1,1]) (retL cfg 70 108 Tryz.f108 H0) [(0,x0),(7,x7),(10,x10)] H
noncomputable def Zl3 (x0 x2 x4 x7 x8:AV) (H0 H:Hp):Res:=CXL cfg (Za7 cfg) (LPL cfg (cfg.keep 108) 70) (cfg.keep 108) 70 seqL Za4 (sub (Za0 Tryz.f108) [1,1,1]) (retL cfg 70 108 Tryz.f108 H0) [(0,x0),(2,x2),(4,x4),(7,x7),(8,x8)] H
noncomputable def Zlu (p0 p1 p2:AV) (H:Hp):Res:=
 bnd (abox p1 H) fun r4=>
 bnd (Za5 0 r4.1) fun t16=>
 bnd (Za2 false 1 t16 r4.2) fun t17=>
 bnd (ZhY t17 (.int .i64 1)) fun t18=>
 bnd (Zfx [p0,t18,p2] r4.2) fun r20=>
 bnd (aext r20.1 0) fun t21=>
 bnd (aext r20.1 1) fun t22=>
 bnd (aext r20.1 2) fun t23=>
 bnd (aun .not t23) fun t25=>
 cnd t25
  (some ((.str []),r20.2))
  (Zl3 p0 p2 r4.1 t21 t22 H r20.2)
theorem Zqj (x0 x7 x10:AV) (H0 H:Hp):Zl4 x0 x7 x10 H0 H =
    bnd (ZaL x0 (some x7) (some x10) none) fun t69=>
    some (t69,H):=(Za3 [4,12,14] _ _ _ _).trans (by kernel_rfl)
theorem Zqi (x0 x7 x10:AV) (H0 H:Hp):ZbU x0 x7 x10 H0 H =
    bnd (ibin .lss x10 x7) fun t65=>
    cnd t65
     (some ((.str []),H))
     (Zl4 x0 x7 x10 H0 H):=(Za3 [4,12,14] _ _ _ _).trans (by kernel_rfl)
theorem Zqh (x0 x2 x4 x7 x8:AV) (H0 H:Hp):Zl3 x0 x2 x4 x7 x8 H0 H =
    bnd (Za5 1 x4) fun t27=>
    bnd (Za2 false 1 t27 H) fun t28=>
    bnd (ZhY t28 (.int .i64 1)) fun t29=>
    bnd (ibin .sub t29 (.int .i64 1)) fun t30=>
    bnd (ibin .sub x8 x7) fun t33=>
    bnd (ZdQ t30 t33) fun t34=>
    bnd (ibin .add x7 t34) fun t35=>
    bnd (Zae .string x0) fun t37=>
    bnd (Za5 2 x4) fun t38=>
    bnd (Za2 false 1 t38 H) fun t39=>
    bnd (ibin .gtr t39 (.int .i64 0)) fun t40=>
    cnd t40
     (bnd (Za5 2 x4) fun t43=>
     bnd (Za2 false 1 t43 H) fun t44=>
     bnd (Zfx [x0,t44,x2] H) fun r46=>
     bnd (aext r46.1 0) fun t47=>
     bnd (aext r46.1 1) fun t48=>
     bnd (aext r46.1 2) fun t49=>
     cnd t49
      (bnd (Za5 3 x4) fun t52=>
      bnd (Za2 false 1 t52 r46.2) fun t53=>
      bnd (ibin .gtr t53 (.int .i64 0)) fun t54=>
      cnd t54
       (bnd (Za5 3 x4) fun t56=>
       bnd (Za2 false 1 t56 r46.2) fun t57=>
       bnd (ibin .sub t48 t47) fun t60=>
       bnd (ZdQ t57 t60) fun t61=>
       bnd (ibin .add t47 t61) fun t62=>
       ZbU x0 t35 t62 H0 r46.2)
       (ZbU x0 t35 t48 H0 r46.2))
      (ZbU x0 t35 t37 H0 r46.2))
     (ZbU x0 t35 t37 H0 H):=(Za3 [4,12,14] _ _ _ _).trans (by kernel_rfl)
theorem Zqr (p0 p1 p2:AV) (H:Hp):Zef [p0,p1,p2] H=Zlu p0 p1 p2 H:=(Za9 (C:=cfg) (fn:=Tryz.f108) (c:=Za0 Tryz.f108) (n:=70) [4,12,14] Tryz.func108 (by kernel_rfl) (by kernel_rfl) [p0,p1,p2] (by kernel_rfl) H).trans (by kernel_rfl)

noncomputable def Znu (H0 H:Hp):Res:=CXL cfg (Za7 cfg) (LPL cfg (cfg.keep 160) 83) (cfg.keep 160) 83 seqL Za4 (sub (Za0 Tryz.f160) [1,1,1]) (retL cfg 83 160 Tryz.f160 H0) [] H
noncomputable def Zdo (H0:Hp):KL:=seqL (fun k al H=>CXL cfg (Za7 cfg) (LPL cfg (cfg.keep 160) 83) (cfg.keep 160) 83 seqL Za4 (sub (Za0 Tryz.f160) [1,1,1]) k (Za8 (cfg.keep 160) (sub (Za0 Tryz.f160) [1,1,1]) al) H) (retL cfg 83 160 Tryz.f160 H0)
theorem Zip (H0:Hp):Tame 83 (Zdo H0):=Zan (C:=cfg) (kp:=cfg.keep 160) (sub (Za0 Tryz.f160) [1,1,1]) (Zaq 160 Tryz.f160 H0)
noncomputable def Znw (x0 x1 x6 x11:AV) (H0 H:Hp):Res:=CXL cfg (Za7 cfg) (LPL cfg (cfg.keep 160) 83) (cfg.keep 160) 83 seqL Za4 (sub (Za0 Tryz.f160) [1,1,0,1,0,0,1,1]) (seqL (fun k al H=>LPL cfg (cfg.keep 160) 83 (sub (Za0 Tryz.f160) [1,1,0,1,0,0]) k (Za8 (cfg.keep 160) (sub (Za0 Tryz.f160) [1,1,0,1,0,0]) al) H) (Za4 2 (Zdo H0))) [(0,x0),(1,x1),(6,x6),(11,x11)] H
noncomputable def Zcv (H0:Hp):KL:=seqL (fun k al H=>CXL cfg (Za7 cfg) (LPL cfg (cfg.keep 160) 83) (cfg.keep 160) 83 seqL Za4 (sub (Za0 Tryz.f160) [1,1,0,1,0,0,1,1]) k (Za8 (cfg.keep 160) (sub (Za0 Tryz.f160) [1,1,0,1,0,0,1,1]) al) H) (seqL (fun k al H=>LPL cfg (cfg.keep 160) 83 (sub (Za0 Tryz.f160) [1,1,0,1,0,0]) k (Za8 (cfg.keep 160) (sub (Za0 Tryz.f160) [1,1,0,1,0,0]) al) H) (Za4 2 (Zdo H0)))
theorem Ziq (H0:Hp):Tame 83 (Zcv H0):=Zan (C:=cfg) (kp:=cfg.keep 160) (sub (Za0 Tryz.f160) [1,1,0,1,0,0,1,1]) (ZoU (C:=cfg) (kp:=cfg.keep 160) (sub (Za0 Tryz.f160) [1,1,0,1,0,0]) (Zag 2 (Zip H0)))
noncomputable def Znx (x0 x1 x7 x11:AV) (H0 H:Hp):Res:=CXL cfg (Za7 cfg) (LPL cfg (cfg.keep 160) 83) (cfg.keep 160) 83 seqL Za4 (sub (Za0 Tryz.f160) [1,1,0,1,0,0,1,0,0,1,1,1,1]) (Za4 3 (Zcv H0)) [(0,x0),(1,x1),(7,x7),(11,x11)] H
noncomputable def Zia (x0 x1 x6 x7 x11:AV) (H0 H:Hp):Res:=CXL cfg (Za7 cfg) (LPL cfg (cfg.keep 160) 83) (cfg.keep 160) 83 seqL Za4 (sub (Za0 Tryz.f160) [1,1,0,1,0,0,1,0,0,1,1,1]) (Za4 3 (Zcv H0)) [(0,x0),(1,x1),(6,x6),(7,x7),(11,x11)] H
noncomputable def Zib (H0:Hp):KL:=seqL (fun k al H=>CXL cfg (Za7 cfg) (LPL cfg (cfg.keep 160) 83) (cfg.keep 160) 83 seqL Za4 (sub (Za0 Tryz.f160) [1,1,0,1,0,0,1,0,0,1,1,1]) k (Za8 (cfg.keep 160) (sub (Za0 Tryz.f160) [1,1,0,1,0,0,1,0,0,1,1,1]) al) H) (Za4 3 (Zcv H0))
theorem Zqk (H0:Hp):Tame 83 (Zib H0):=Zan (C:=cfg) (kp:=cfg.keep 160) (sub (Za0 Tryz.f160) [1,1,0,1,0,0,1,0,0,1,1,1]) (Zag 3 (Ziq H0))
noncomputable def Zny (x0 x1 x6 x7 x11:AV) (H0 H:Hp):Res:=CXL cfg (Za7 cfg) (LPL cfg (cfg.keep 160) 83) (cfg.keep 160) 83 seqL Za4 (sub (Za0 Tryz.f160) [1,1,0,1,0,0,1,0,0,1,1,0,0,0,1]) (seqL (fun k al H=>LPL cfg (cfg.keep 160) 83 (sub (Za0 Tryz.f160) [1,1,0,1,0,0,1,0,0,1,1,0,0,0]) k (Za8 (cfg.keep 160) (sub (Za0 Tryz.f160) [1,1,0,1,0,0,1,0,0,1,1,0,0,0]) al) H) (Za4 6 (Zib H0))) [(0,x0),(1,x1),(6,x6),(7,x7),(11,x11)] H
noncomputable def Zfa (x0 x1 x6 x7 x11:AV) (H0 H:Hp):Res:=LPL cfg (cfg.keep 160) 83 (sub (Za0 Tryz.f160) [1,1,0,1,0,0,1,0,0,1,1,0,0,0]) (Za4 6 (Zib H0)) [(0,x0),(1,x1),(6,x6),(7,x7),(11,x11)] H
noncomputable def Zi9 (x0 x1 x6 x7 x11:AV) (H0 H:Hp):Res:=CXL cfg (Za7 cfg) (LPL cfg (cfg.keep 160) 83) (cfg.keep 160) 83 seqL Za4 (sub (Za0 Tryz.f160) [1,1,0,1,0,0,1,0,0,1,1]) (Za4 3 (Zcv H0)) [(0,x0),(1,x1),(6,x6),(7,x7),(11,x11)] H
noncomputable def Zic (H0:Hp):KL:=seqL (fun k al H=>CXL cfg (Za7 cfg) (LPL cfg (cfg.keep 160) 83) (cfg.keep 160) 83 seqL Za4 (sub (Za0 Tryz.f160) [1,1,0,1,0,0,1,0,0,1,1]) k (Za8 (cfg.keep 160) (sub (Za0 Tryz.f160) [1,1,0,1,0,0,1,0,0,1,1]) al) H) (Za4 3 (Zcv H0))
theorem Zql (H0:Hp):Tame 83 (Zic H0):=Zan (C:=cfg) (kp:=cfg.keep 160) (sub (Za0 Tryz.f160) [1,1,0,1,0,0,1,0,0,1,1]) (Zag 3 (Ziq H0))
noncomputable def Znz (x0 x1 x6 x7 x11:AV) (H0 H:Hp):Res:=CXL cfg (Za7 cfg) (LPL cfg (cfg.keep 160) 83) (cfg.keep 160) 83 seqL Za4 (sub (Za0 Tryz.f160) [1,1,0,1,0,0,1,0,0,1,0,0,0,1]) (seqL (fun k al H=>LPL cfg (cfg.keep 160) 83 (sub (Za0 Tryz.f160) [1,1,0,1,0,0,1,0,0,1,0,0,0]) k (Za8 (cfg.keep 160) (sub (Za0 Tryz.f160) [1,1,0,1,0,0,1,0,0,1,0,0,0]) al) H) (Za4 4 (Zic H0))) [(0,x0),(1,x1),(6,x6),(7,x7),(11,x11)] H
noncomputable def Zfb (x0 x1 x6 x7 x11:AV) (H0 H:Hp):Res:=LPL cfg (cfg.keep 160) 83 (sub (Za0 Tryz.f160) [1,1,0,1,0,0,1,0,0,1,0,0,0]) (Za4 4 (Zic H0)) [(0,x0),(1,x1),(6,x6),(7,x7),(11,x11)] H
noncomputable def Znv (x0 x1 x6 x11:AV) (H0 H:Hp):Res:=CXL cfg (Za7 cfg) (LPL cfg (cfg.keep 160) 83) (cfg.keep 160) 83 seqL Za4 (sub (Za0 Tryz.f160) [1,1,0,1,0,0,1]) (seqL (fun k al H=>LPL cfg (cfg.keep 160) 83 (sub (Za0 Tryz.f160) [1,1,0,1,0,0]) k (Za8 (cfg.keep 160) (sub (Za0 Tryz.f160) [1,1,0,1,0,0]) al) H) (Za4 2 (Zdo H0))) [(0,x0),(1,x1),(6,x6),(11,x11)] H
noncomputable def Zf9 (x0 x1 x6 x11:AV) (H0 H:Hp):Res:=LPL cfg (cfg.keep 160) 83 (sub (Za0 Tryz.f160) [1,1,0,1,0,0]) (Za4 2 (Zdo H0)) [(0,x0),(1,x1),(6,x6),(11,x11)] H
noncomputable def Zi8 (x0 x1 x6:AV) (H0 H:Hp):Res:=CXL cfg (Za7 cfg) (LPL cfg (cfg.keep 160) 83) (cfg.keep 160) 83 seqL Za4 (sub (Za0 Tryz.f160) [1,1]) (retL cfg 83 160 Tryz.f160 H0) [(0,x0),(1,x1),(6,x6)] H
noncomputable def Zf8 (H0:Hp):KL:=seqL (fun k al H=>CXL cfg (Za7 cfg) (LPL cfg (cfg.keep 160) 83) (cfg.keep 160) 83 seqL Za4 (sub (Za0 Tryz.f160) [1,1]) k (Za8 (cfg.keep 160) (sub (Za0 Tryz.f160) [1,1]) al) H) (retL cfg 83 160 Tryz.f160 H0)
theorem Zqm (H0:Hp):Tame 83 (Zf8 H0):=Zan (C:=cfg) (kp:=cfg.keep 160) (sub (Za0 Tryz.f160) [1,1]) (Zaq 160 Tryz.f160 H0)
noncomputable def ZlP (x0 x1 x2 x6 x9:AV) (H0 H:Hp):Res:=CXL cfg (Za7 cfg) (LPL cfg (cfg.keep 160) 83) (cfg.keep 160) 83 seqL Za4 (sub (Za0 Tryz.f160) [1,0,1,0,1,0,0,1]) (seqL (fun k al H=>LPL cfg (cfg.keep 160) 83 (sub (Za0 Tryz.f160) [1,0,1,0,1,0,0]) k (Za8 (cfg.keep 160) (sub (Za0 Tryz.f160) [1,0,1,0,1,0,0]) al) H) (Za4 0 (Zf8 H0))) [(0,x0),(1,x1),(2,x2),(6,x6),(9,x9)] H
noncomputable def ZnA (H0:Hp):KL:=seqL (fun k al H=>CXL cfg (Za7 cfg) (LPL cfg (cfg.keep 160) 83) (cfg.keep 160) 83 seqL Za4 (sub (Za0 Tryz.f160) [1,0,1,0,1,0,0,1]) k (Za8 (cfg.keep 160) (sub (Za0 Tryz.f160) [1,0,1,0,1,0,0,1]) al) H) (seqL (fun k al H=>LPL cfg (cfg.keep 160) 83 (sub (Za0 Tryz.f160) [1,0,1,0,1,0,0]) k (Za8 (cfg.keep 160) (sub (Za0 Tryz.f160) [1,0,1,0,1,0,0]) al) H) (Za4 0 (Zf8 H0)))
noncomputable def ZlR (x0 x1 x2 x6 x9 x10:AV) (H0 H:Hp):Res:=CXL cfg (Za7 cfg) (LPL cfg (cfg.keep 160) 83) (cfg.keep 160) 83 seqL Za4 (sub (Za0 Tryz.f160) [1,0,1,0,1,0,0,0,0,1,1,1]) (Za4 1 (ZnA H0)) [(0,x0),(1,x1),(2,x2),(6,x6),(9,x9),(10,x10)] H
noncomputable def ZlQ (x0 x1 x2 x6 x9 x10:AV) (H0 H:Hp):Res:=CXL cfg (Za7 cfg) (LPL cfg (cfg.keep 160) 83) (cfg.keep 160) 83 seqL Za4 (sub (Za0 Tryz.f160) [1,0,1,0,1,0,0,0,0,1,1]) (Za4 1 (ZnA H0)) [(0,x0),(1,x1),(2,x2),(6,x6),(9,x9),(10,x10)] H
noncomputable def Zfc (x0 x1 x2 x6 x9:AV) (H0 H:Hp):Res:=LPL cfg (cfg.keep 160) 83 (sub (Za0 Tryz.f160) [1,0,1,0,1,0,0]) (Za4 0 (Zf8 H0)) [(0,x0),(1,x1),(2,x2),(6,x6),(9,x9)] H
noncomputable def Zoc (p0 p1 p2:AV) (H:Hp):Res:=
 bnd (ibin .geq p2 (.int .i64 0)) fun t13=>
 bnd (gdv t13 true (.tuple []) (some p2)) fun t15=>
 bnd (gdv t13 true (.tuple []) (ibin .leq t15 (.int .i64 255))) fun t16=>
 bnd (Zad t13 t16 (.bool false)) fun t17=>
 cnd t17
  (Zfc p0 p1 p2 (.int .i64 0) (.int .i64 1) H H)
  (Zi8 p0 p1 (.int .i64 0) H H)
theorem Zsw (H0 H:Hp):Znu H0 H =
    some ((.tuple [(.int .i64 0),(.int .i64 0),(.bool false)]),H):=(Za3 [3,7,9,10,12,13,15,16,17,18,20,21] _ _ _ _).trans (by kernel_rfl)
theorem Zsy (x0 x1 x6 x11:AV) (H0 H:Hp):Znw x0 x1 x6 x11 H0 H =
    bnd (ibin .add x11 (.int .i64 1)) fun t50=>
    Zf9 x0 x1 x6 t50 H0 H:=(Za3 [3,7,9,10,12,13,15,16,17,18,20,21] _ _ _ _).trans (by kernel_rfl)
theorem ZsB (x0 x1 x7 x11:AV) (H0 H:Hp):Znx x0 x1 x7 x11 H0 H =
    Znw x0 x1 x7 x11 H0 H:=(Za3 [3,7,9,10,12,13,15,16,17,18,20,21] _ _ _ _).trans (by kernel_rfl)
theorem ZsA (x0 x1 x6 x7 x11:AV) (H0 H:Hp):Zia x0 x1 x6 x7 x11 H0 H =
    bnd (ibin .eql x11 x1) fun t79=>
    cnd t79
     (some ((.tuple [x6,x7,(.bool true)]),H))
     (Znx x0 x1 x7 x11 H0 H):=(Za3 [3,7,9,10,12,13,15,16,17,18,20,21] _ _ _ _).trans (by kernel_rfl)
theorem ZsC (x0 x1 x6 x7 x11:AV) (H0 H:Hp):Zny x0 x1 x6 x7 x11 H0 H =
    bnd (ibin .add x7 (.int .i64 1)) fun t76=>
    Zfa x0 x1 x6 t76 x11 H0 H:=(Za3 [3,7,9,10,12,13,15,16,17,18,20,21] _ _ _ _).trans (by kernel_rfl)
theorem ZjL (x0 x1 x6 x7 x11:AV) (H0 H:Hp):Zfa x0 x1 x6 x7 x11 H0 H =
    bnd (Zae .string x0) fun t66=>
    bnd (ibin .lss x7 t66) fun t67=>
    bnd (gdv t67 true (.tuple []) (some x0)) fun t69=>
    bnd (gdv t67 true (.tuple []) (some x7)) fun t70=>
    bnd (gdv t67 true (.tuple []) (Zal t69 t70)) fun t71=>
    bnd (gdv t67 true ((.tuple []),H) (ZcH [t71] H)) fun r72=>
    bnd (gdv t67 true (.tuple []) (aun .not r72.1)) fun t73=>
    bnd (Zad t67 t73 (.bool false)) fun t74=>
    cnd t74
     (Zny x0 x1 x6 x7 x11 H0 r72.2)
     (Zia x0 x1 x6 x7 x11 H0 r72.2):=(Zar (C:=cfg) [3,7,9,10,12,13,15,16,17,18,20,21] (Zag 6 (Zqk H0)) _ _).trans (by kernel_rfl)
theorem Zsz (x0 x1 x6 x7 x11:AV) (H0 H:Hp):Zi9 x0 x1 x6 x7 x11 H0 H =
    Zfa x0 x1 x6 x7 x11 H0 H:=(Za3 [3,7,9,10,12,13,15,16,17,18,20,21] _ _ _ _).trans (by kernel_rfl)
theorem ZsD (x0 x1 x6 x7 x11:AV) (H0 H:Hp):Znz x0 x1 x6 x7 x11 H0 H =
    bnd (ibin .add x7 (.int .i64 1)) fun t63=>
    Zfb x0 x1 x6 t63 x11 H0 H:=(Za3 [3,7,9,10,12,13,15,16,17,18,20,21] _ _ _ _).trans (by kernel_rfl)
theorem ZjM (x0 x1 x6 x7 x11:AV) (H0 H:Hp):Zfb x0 x1 x6 x7 x11 H0 H =
    bnd (Zae .string x0) fun t54=>
    bnd (ibin .lss x7 t54) fun t55=>
    bnd (gdv t55 true (.tuple []) (some x0)) fun t57=>
    bnd (gdv t55 true (.tuple []) (some x7)) fun t58=>
    bnd (gdv t55 true (.tuple []) (Zal t57 t58)) fun t59=>
    bnd (gdv t55 true ((.tuple []),H) (ZcH [t59] H)) fun r60=>
    bnd (Zad t55 r60.1 (.bool false)) fun t61=>
    cnd t61
     (Znz x0 x1 x6 x7 x11 H0 r60.2)
     (Zi9 x0 x1 x6 x7 x11 H0 r60.2):=(Zar (C:=cfg) [3,7,9,10,12,13,15,16,17,18,20,21] (Zag 4 (Zql H0)) _ _).trans (by kernel_rfl)
theorem Zsx (x0 x1 x6 x11:AV) (H0 H:Hp):Znv x0 x1 x6 x11 H0 H =
    Zfb x0 x1 x6 x6 x11 H0 H:=(Za3 [3,7,9,10,12,13,15,16,17,18,20,21] _ _ _ _).trans (by kernel_rfl)
theorem ZsE (x0 x1 x6 x11:AV) (H0 H:Hp):Zf9 x0 x1 x6 x11 H0 H =
    bnd (Zae .string x0) fun t47=>
    bnd (ibin .lss x6 t47) fun t48=>
    cnd t48
     (Znv x0 x1 x6 x11 H0 H)
     (Znu H0 H):=(Zar (C:=cfg) [3,7,9,10,12,13,15,16,17,18,20,21] (Zag 2 (Zip H0)) _ _).trans (by kernel_rfl)
theorem Zsv (x0 x1 x6:AV) (H0 H:Hp):Zi8 x0 x1 x6 H0 H =
    Zf9 x0 x1 x6 (.int .i64 1) H0 H:=(Za3 [3,7,9,10,12,13,15,16,17,18,20,21] _ _ _ _).trans (by kernel_rfl)
theorem Zrj (x0 x1 x2 x6 x9:AV) (H0 H:Hp):ZlP x0 x1 x2 x6 x9 H0 H =
    bnd (ibin .add x9 (.int .i64 1)) fun t19=>
    Zfc x0 x1 x2 x6 t19 H0 H:=(Za3 [3,7,9,10,12,13,15,16,17,18,20,21] _ _ _ _).trans (by kernel_rfl)
theorem Zrl (x0 x1 x2 x6 x9 x10:AV) (H0 H:Hp):ZlR x0 x1 x2 x6 x9 x10 H0 H =
    bnd (ibin .add x10 (.int .i64 1)) fun t43=>
    bnd (ibin .add x6 t43) fun t44=>
    ZlP x0 x1 x2 t44 x9 H0 H:=(Za3 [3,7,9,10,12,13,15,16,17,18,20,21] _ _ _ _).trans (by kernel_rfl)
theorem Zrk (x0 x1 x2 x6 x9 x10:AV) (H0 H:Hp):ZlQ x0 x1 x2 x6 x9 x10 H0 H =
    bnd (ibin .eql x9 x1) fun t36=>
    cnd t36
     (bnd (ibin .add x6 x10) fun t40=>
     some ((.tuple [x6,t40,(.bool true)]),H))
     (ZlR x0 x1 x2 x6 x9 x10 H0 H):=(Za3 [3,7,9,10,12,13,15,16,17,18,20,21] _ _ _ _).trans (by kernel_rfl)
theorem ZsF (x0 x1 x2 x6 x9:AV) (H0 H:Hp):Zfc x0 x1 x2 x6 x9 H0 H =
    bnd (ZaL x0 (some x6) none none) fun t22=>
    bnd (Zbl .u8 x2) fun t24=>
    bnd (Zfs [t22,t24] H) fun r25=>
    bnd (ibin .lss r25.1 (.int .i64 0)) fun t27=>
    cnd t27
     (bnd (Zae .string x0) fun t30=>
     bnd (ibin .eql x9 x1) fun t33=>
     some ((.tuple [x6,t30,t33]),r25.2))
     (ZlQ x0 x1 x2 x6 x9 r25.1 H0 r25.2):=(Zar (C:=cfg) [3,7,9,10,12,13,15,16,17,18,20,21] (Zag 0 (Zqm H0)) _ _).trans (by kernel_rfl)
theorem Zt5 (p0 p1 p2:AV) (H:Hp):Zfx [p0,p1,p2] H=Zoc p0 p1 p2 H:=(Za9 (C:=cfg) (fn:=Tryz.f160) (c:=Za0 Tryz.f160) (n:=83) [3,7,9,10,12,13,15,16,17,18,20,21] Tryz.func160 (by kernel_rfl) (by kernel_rfl) [p0,p1,p2] (by kernel_rfl) H).trans (by kernel_rfl)

noncomputable def Zob (p0:AV) (H:Hp):Res:=
 bnd (ibin .eql p0 (.int .u8 32)) fun t4=>
 bnd (gdv t4 false (.tuple []) (some p0)) fun t6=>
 bnd (gdv t4 false (.tuple []) (ibin .eql t6 (.int .u8 9))) fun t7=>
 bnd (Zad t4 (.bool true) t7) fun t8=>
 some (t8,H)
theorem Zt4 (p0:AV) (H:Hp):ZcH [p0] H=Zob p0 H:=(Za9 (C:=cfg) (fn:=Tryz.f195) (c:=Za0 Tryz.f195) (n:=9) [] Tryz.func195 (by kernel_rfl) (by kernel_rfl) [p0] (by kernel_rfl) H).trans (by kernel_rfl)

noncomputable def Zjv (p0 p1:AV) (H:Hp):Res:=
 bnd (Zda [p0,p1] H) fun r7=>
 some (r7.1,r7.2)
theorem Zp4 (p0 p1:AV) (H:Hp):Zfs [p0,p1] H=Zjv p0 p1 H:=(Za9 (C:=cfg) (fn:=Tryz.f198) (c:=Za0 Tryz.f198) (n:=8) [] Tryz.func198 (by kernel_rfl) (by kernel_rfl) [p0,p1] (by kernel_rfl) H).trans (by kernel_rfl)

noncomputable def Zde (p0 p1:AV) (H:Hp):Res:=
 bnd (extC .indexByte [p0,p1] H) fun r7=>
 some (r7.1,r7.2)
theorem Zgf (p0 p1:AV) (H:Hp):Zda [p0,p1] H=Zde p0 p1 H:=(Za9 (C:=cfg) (fn:=Tryz.f230) (c:=Za0 Tryz.f230) (n:=8) [] Tryz.func230 (by kernel_rfl) (by kernel_rfl) [p0,p1] (by kernel_rfl) H).trans (by kernel_rfl)

theorem ZvJ (a b args:List AV) (H:Hp):Zb0 cfg (Za7 cfg) (.fn (.func 84) a b) args H=Zaa Zmx (a++args++b) H:=by kernel_rfl
theorem ZvK (a b args:List AV) (H:Hp):Zb0 cfg (Za7 cfg) (.fn (.func 85) a b) args H=Zaa Zmy (a++args++b) H:=by kernel_rfl
theorem Ztq (a b args:List AV) (H:Hp):Zb0 cfg (Za7 cfg) (.fn (.func 148) a b) args H=Zaa ZdM (a++args++b) H:=by kernel_rfl
theorem Ztd (a b args:List AV) (H:Hp):ZbF cfg (Za7 cfg) (.fn (.func 148) a b) args H=Zaa ZdM (a++args++b) H:=by kernel_rfl
theorem ZqB (a b args:List AV) (H:Hp):Zb0 cfg (Za7 cfg) (.fn (.func 150) a b) args H=ZeM (a++args++b) H:=by kernel_rfl
theorem ZuR (a b args:List AV) (H:Hp):Zb0 cfg (Za7 cfg) (.fn (.func 154) a b) args H=Zh1 (a++args++b) H:=by kernel_rfl
theorem ZuO (a b args:List AV) (H:Hp):ZbF cfg (Za7 cfg) (.fn (.func 155) a b) args H=Zaa Zh2 (a++args++b) H:=by kernel_rfl
theorem Zyp (a b args:List AV) (H:Hp):ZbF cfg (Za7 cfg) (.fn (.func 157) a b) args H=Zaa ZjZ (a++args++b) H:=by kernel_rfl
theorem ZuP (a b args:List AV) (H:Hp):ZbF cfg (Za7 cfg) (.fn (.func 158) a b) args H=Zaa Zh3 (a++args++b) H:=by kernel_rfl
theorem ZLx:∀ f ∈ ZBN,Ztp Tryz.prog f:=
 Za1 Tryz.call3 (
 Za1 Tryz.call4 (
 Za1 Tryz.call5 (
 Za1 Tryz.call6 (
 Za1 Tryz.call7 (
 Za1 Tryz.call8 (
 Za1 Tryz.call9 (
 Za1 Tryz.call10 (
 Za1 Tryz.call11 (
 Za1 Tryz.call12 (
 Za1 Tryz.call13 (
 Za1 Tryz.call14 (
 Za1 Tryz.call15 (
 Za1 Tryz.call16 (
 Za1 Tryz.call17 (
 Za1 Tryz.call18 (
 Za1 Tryz.call19 (
 Za1 Tryz.call20 (
 Za1 Tryz.call21 (
 Za1 Tryz.call22 (
 Za1 Tryz.call23 (
 Za1 Tryz.call24 (
 Za1 Tryz.call25 (
 Za1 Tryz.call26 (
 Za1 Tryz.call27 (
 Za1 Tryz.call28 (
 Za1 Tryz.call29 (
 Za1 Tryz.call30 (
 Za1 Tryz.call31 (
 Za1 Tryz.call32 (
 Za1 Tryz.call33 (
 Za1 Tryz.call34 (
 Za1 Tryz.call35 (
 Za1 Tryz.call36 (
 Za1 Tryz.call37 (
 Za1 Tryz.call38 (
 Za1 Tryz.call39 (
 Za1 Tryz.call40 (
 Za1 Tryz.call41 (
 Za1 Tryz.call42 (
 Za1 Tryz.call43 (
 Za1 Tryz.call44 (
 Za1 Tryz.call45 (
 Za1 Tryz.call46 (
 Za1 Tryz.call47 (
 Za1 Tryz.call48 (
 Za1 Tryz.call49 (
 Za1 Tryz.call50 (
 Za1 Tryz.call51 (
 Za1 Tryz.call52 (
 Za1 Tryz.call53 (
 Za1 Tryz.call54 (
 Za1 Tryz.call55 (
 Za1 Tryz.call56 (
 Za1 Tryz.call57 (
 Za1 Tryz.call58 (
 Za1 Tryz.call59 (
 Za1 Tryz.call60 (
 Za1 Tryz.call61 (
 Za1 Tryz.call62 (
 Za1 Tryz.call63 (
 Za1 Tryz.call64 (
 Za1 Tryz.call65 (
 Za1 Tryz.call66 (
 Za1 Tryz.call67 (
 Za1 Tryz.call68 (
 Za1 Tryz.call69 (
 Za1 Tryz.call70 (
 Za1 Tryz.call71 (
 Za1 Tryz.call72 (
 Za1 Tryz.call73 (
 Za1 Tryz.call74 (
 Za1 Tryz.call75 (
 Za1 Tryz.call76 (
 Za1 Tryz.call77 (
 Za1 Tryz.call78 (
 Za1 Tryz.call79 (
 Za1 Tryz.call80 (
 Za1 Tryz.call81 (
 Za1 Tryz.call82 (
 Za1 Tryz.call83 (
 Za1 Tryz.call84 (
 Za1 Tryz.call85 (
 Za1 Tryz.call86 (
 Za1 Tryz.call87 (
 Za1 Tryz.call88 (
 Za1 Tryz.call89 (
 Za1 Tryz.call90 (
 Za1 Tryz.call91 (
 Za1 Tryz.call92 (
 Za1 Tryz.call93 (
 Za1 Tryz.call94 (
 Za1 Tryz.call95 (
 Za1 Tryz.call96 (
 Za1 Tryz.call97 (
 Za1 Tryz.call98 (
 Za1 Tryz.call99 (
 Za1 Tryz.call100 (
 Za1 Tryz.call101 (
 Za1 Tryz.call102 (
 Za1 Tryz.call103 (
 Za1 Tryz.call104 (
 Za1 Tryz.call105 (
 Za1 Tryz.call106 (
 Za1 Tryz.call107 (
 Za1 Tryz.call108 (
 Za1 Tryz.call109 (
 Za1 Tryz.call110 (
 Za1 Tryz.call111 (
 Za1 Tryz.call112 (
 Za1 Tryz.call113 (
 Za1 Tryz.call114 (
 Za1 Tryz.call115 (
 Za1 Tryz.call116 (
 Za1 Tryz.call117 (
 Za1 Tryz.call118 (
 Za1 Tryz.call119 (
 Za1 Tryz.call120 (
 Za1 Tryz.call121 (
 Za1 Tryz.call122 (
 Za1 Tryz.call123 (
 Za1 Tryz.call124 (
 Za1 Tryz.call125 (
 Za1 Tryz.call126 (
 Za1 Tryz.call127 (
 Za1 Tryz.call128 (
 Za1 Tryz.call129 (
 Za1 Tryz.call130 (
 Za1 Tryz.call131 (
 Za1 Tryz.call132 (
 Za1 Tryz.call133 (
 Za1 Tryz.call134 (
 Za1 Tryz.call135 (
 Za1 Tryz.call136 (
 Za1 Tryz.call137 (
 Za1 Tryz.call138 (
 Za1 Tryz.call139 (
 Za1 Tryz.call140 (
 Za1 Tryz.call141 (
 Za1 Tryz.call142 (
 Za1 Tryz.call143 (
 Za1 Tryz.call144 (
 Za1 Tryz.call145 (
 Za1 Tryz.call146 (
 Za1 Tryz.call147 (
 Za1 Tryz.call148 (
 Za1 Tryz.call149 (
 Za1 Tryz.call150 (
 Za1 Tryz.call151 (
 Za1 Tryz.call152 (
 Za1 Tryz.call153 (
 Za1 Tryz.call154 (
 Za1 Tryz.call155 (
 Za1 Tryz.call156 (
 Za1 Tryz.call157 (
 Za1 Tryz.call158 (
 Za1 Tryz.call159 (
 Za1 Tryz.call160 (
 Za1 Tryz.call161 (
 Za1 Tryz.call162 (
 Za1 Tryz.call163 (
 Za1 Tryz.call164 (
 Za1 Tryz.call165 (
 Za1 Tryz.call166 (
 Za1 Tryz.call167 (
 Za1 Tryz.call168 (
 Za1 Tryz.call169 (
 Za1 Tryz.call170 (
 Za1 Tryz.call171 (
 Za1 Tryz.call172 (
 Za1 Tryz.call173 (
 Za1 Tryz.call174 (
 Za1 Tryz.call175 (
 Za1 Tryz.call176 (
 Za1 Tryz.call177 (
 Za1 Tryz.call178 (
 Za1 Tryz.call179 (
 Za1 Tryz.call180 (
 Za1 Tryz.call181 (
 Za1 Tryz.call182 (
 Za1 Tryz.call183 (
 Za1 Tryz.call184 (
 Za1 Tryz.call185 (
 Za1 Tryz.call186 (
 Za1 Tryz.call187 (
 Za1 Tryz.call188 (
 Za1 Tryz.call189 (
 Za1 Tryz.call190 (
 Za1 Tryz.call191 (
 Za1 Tryz.call192 (
 Za1 Tryz.call193 (
 Za1 Tryz.call194 (
 Za1 Tryz.call195 (
 Za1 Tryz.call196 (
 Za1 Tryz.call197 (
 Za1 Tryz.call198 (
 Za1 Tryz.call199 (
 Za1 Tryz.call200 (
 Za1 Tryz.call201 (
 Za1 Tryz.call202 (
 Za1 Tryz.call203 (
 Za1 Tryz.call204 (
 Za1 Tryz.call205 (
 Za1 Tryz.call206 (
 Za1 Tryz.call207 (
 Za1 Tryz.call208 (
 Za1 Tryz.call209 (
 Za1 Tryz.call210 (
 Za1 Tryz.call211 (
 Za1 Tryz.call212 (
 Za1 Tryz.call213 (
 Za1 Tryz.call214 (
 Za1 Tryz.call215 (
 Za1 Tryz.call216 (
 Za1 Tryz.call217 (
 Za1 Tryz.call218 (
 Za1 Tryz.call219 (
 Za1 Tryz.call220 (
 Za1 Tryz.call221 (
 Za1 Tryz.call222 (
 Za1 Tryz.call223 (
 Za1 Tryz.call224 (
 Za1 Tryz.call226 (
 Za1 Tryz.call227 (
 Za1 Tryz.call228 (
 Za1 Tryz.call229 (
 Za1 Tryz.call230 (
 Za1 Tryz.call231 (
 Za1 Tryz.call232 (
 Za1 Tryz.call233 (
 Za1 Tryz.call234 (
 Za1 Tryz.call235 (
 Za1 Tryz.call236 (
 Za1 Tryz.call237 (
 Za1 Tryz.call238 (
 Za1 Tryz.call240 (
 Za1 Tryz.call241 (
 Za1 Tryz.call242 (
 Za1 Tryz.call243 (
 Za1 Tryz.call244 (
 Za1 Tryz.call245 (
 Za1 Tryz.call246 (
 Za1 Tryz.call247 (
 Za1 Tryz.call248 (
 Za1 Tryz.call250 (
 Za1 Tryz.call251 (
 Za1 Tryz.call252 (
 Za1 Tryz.call253 (
 Za1 Tryz.call254 (
 Za1 Tryz.call255 (
 Za1 Tryz.call256 (
 Za1 Tryz.call257 (
 Za1 Tryz.call258 (
 Za1 Tryz.call259 (
 Za1 Tryz.call261 (
 Za1 Tryz.call262 (
 Za1 Tryz.call263 (
 Za1 Tryz.call264 (
 Za1 Tryz.call265 (
 Za1 Tryz.call266 (ZF7))))))))))))))))))))))))))))))))))))))))))))))))))))))))))))))))))))))))))))))))))))))))))))))))))))))))))))))))))))))))))))))))))))))))))))))))))))))))))))))))))))))))))))))))))))))))))))))))))))))))))))))))))))))))))))))))))))))))))))))))))))))))))))))))))))
theorem ZMM:∀ t ∈ ZAM,Tryz.prog.stoodInHeld t=false∧Tryz.prog.eqGuardType Tryz.prog.depth t=false:=by
 intro t ht
 simp only [ZAM,List.mem_cons,List.not_mem_nil,or_false] at ht

theorem ZG7 (args:Array Value) (w:World):(callFunc 225 args).run Tryz.prog w=(do pure (.value (← extF .cmp args)):Sem Next).run Tryz.prog w:=by kernel_rfl
theorem ZG8 (args:Array Value) (w:World):(callFunc 239 args).run Tryz.prog w=(do pure (.value (← extF .same args)):Sem Next).run Tryz.prog w:=by kernel_rfl
theorem ZG9 (args:Array Value) (w:World):(callFunc 249 args).run Tryz.prog w=(do pure (.value (← extF .indexByte args)):Sem Next).run Tryz.prog w:=by kernel_rfl
theorem ZLX:∀ f e,cfg.ext f=some e→∀ (args:Array Value) (w:World),(callFunc f args).run Tryz.prog w=(do pure (.value (← extF e args)):Sem Next).run Tryz.prog w:=by
 intro f e h
 have h2:=Zra (l:=Zyz) h
 simp only [Zyz,List.mem_cons,Prod.mk.injEq,List.not_mem_nil,or_false] at h2
 rcases h2 with ⟨rfl,rfl⟩ | ⟨rfl,rfl⟩ | ⟨rfl,rfl⟩
 ·exact ZG7
 ·exact ZG8
 ·exact ZG9
theorem ZMr:∀ f g,cfg.sum f=some g→cfg.user f=true∧ZA4 cfg f g:=by
 intro f g h
 have h2:=Zra (l:=ZyN) h
 simp only [ZyN,List.mem_cons,Prod.mk.injEq,List.not_mem_nil,or_false] at h2
 rcases h2 with ⟨rfl,rfl⟩ | ⟨rfl,rfl⟩
 ·exact ⟨by kernel_rfl,ZJM (C:=cfg) rfl (fun _=>rfl)⟩
 ·exact ⟨by kernel_rfl,ZJ4 (C:=cfg) rfl (fun _=>rfl)⟩
theorem ZLT:∀ f g,cfg.eff f=some g→cfg.user f=true∧Zo5 cfg f g:=by
 intro f g h
 have h2:=Zra (l:=Zyv) h
 simp only [Zyv,List.mem_cons,Prod.mk.injEq,List.not_mem_nil,or_false] at h2
 rcases h2 with ⟨rfl,rfl⟩ | ⟨rfl,rfl⟩ | ⟨rfl,rfl⟩ | ⟨rfl,rfl⟩ | ⟨rfl,rfl⟩
 ·exact ⟨by kernel_rfl,ZGM (C:=cfg) rfl (fun _=>rfl)⟩
 ·exact ⟨by kernel_rfl,ZIS (C:=cfg) rfl (fun _=>rfl)⟩
 ·exact ⟨by kernel_rfl,ZJK (C:=cfg) rfl (fun _=>rfl)⟩
 ·exact ⟨by kernel_rfl,ZF2 (C:=cfg) rfl (fun _=>rfl)⟩
 ·exact ⟨by kernel_rfl,ZId (C:=cfg) rfl (fun _=>rfl)⟩
theorem ZLJ:Zgy cfg:=
 ⟨fun t h=>ZMM t (List.contains_iff_mem.1 h),fun f h=>ZLx f (List.contains_iff_mem.1 h),by kernel_rfl,ZLX,ZMr,ZLT⟩
end Go.Am
