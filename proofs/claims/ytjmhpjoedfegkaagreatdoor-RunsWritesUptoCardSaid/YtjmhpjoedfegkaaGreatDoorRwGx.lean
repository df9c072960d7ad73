/- The functions of the translation over the abstract machine -/
import Derived.Test.YtjmhpjoedfegkaaGreatDoorProg
import Derived.Test.YtjmhpjoedfegkaaGreatDoorRwFhx
open Option renaming some->i
open Bool renaming true->d,false->I
open Go.Proofs.Tryz
open Go.Am.AV renaming int->Q
open Go.IntKind renaming i64->J
open List renaming not_mem_nil->zA,mem_cons->zB,contains_iff_mem->zC
open Prod.mk renaming injEq->zD
namespace Go.Am
open Go.Proofs
set_option maxRecDepth 100000
noncomputable section
variable (p0 p1 p2 X W x2 x3 x4 x5 V O x8 x9 x10 U x12 x33 x34 x35 x36:AV)(Y H:Hp)
abbrev b6:dv:=[3,5,7,10,11]
abbrev b7:dv:=[3,5,7,8,10]
abbrev b8:dv:=[3,7,9,10,12,13,15,16,17,18,20,21]
abbrev b9:dv:=[6,7,10,11,13,14,17,19]
abbrev bf:AV:=.tuple []
def Ad:List (Nat×List (Nat×dv)):=[(3,[(3,[2,3]),(8,[2,3,5,6,7,9]),(14,[3,5,6,7,9,11,12]),(17,[3,5,6,7,9,11,12,13,14]),(18,[3,5,6,7,9,11,12,13,14,15]),(19,[3,5,6,7,9,11,12,13,14,15]),(20,[3,5,6,7,9,11,12,13,14,15]),(22,[]),(1000003,[2]),(1000020,[3])]),
 (4,[(3,[0,3,4]),(4,[0,3,4]),(5,[0,3,4]),(7,[0,3,4]),(8,[3])]),
 (6,[(9,[7,8,9,10,11,12])]),
 (9,[(3,[0,1,2]),(5,[0,1,2]),(6,[0,1,2,18,19,20]),(7,[0,1,2,18,19,20,21]),(11,[0,1,2,18,19,20]),(12,[0,1,2])]),
 (10,[(3,[0,1,2]),(5,[0,1,2]),(7,[0,1,2,8,9]),(8,[0,1,2,8,9]),(9,[0,1,2,8,9]),(12,[0,1,2]),(14,[0,1,2])]),
 (13,[(3,[0,3,5,6]),(6,[0,3,5,6,10]),(9,[0,10]),(12,[10])]),
 (14,[(4,[0,1,2,3,4]),(5,[0,1,2,3,4]),(6,[0,1,2,3,4]),(9,[0,1,2,3,4,5,6]),(11,[0,1,2,3,4,5,6]),(14,[0,1,2,3])]),
 (15,[(3,[0,3,5,6]),(6,[0,3,5,6,10]),(9,[0,10]),(12,[10])]),
 (16,[(3,[0,1]),(4,[0,1,5]),(5,[0,1,5]),(6,[0,1,5]),(8,[])]),
 (17,[(3,[0]),(5,[0,3,10,11,12]),(6,[0,3,10,11,12,13]),(9,[0,3,10,11,12]),(10,[3])]),
 (18,[(4,[0,3]),(5,[0,3,4]),(6,[0,3,4]),(7,[0,3,4]),(8,[3])]),
 (19,[(3,[0,1])]),
 (20,[(3,[0,1])]),
 (21,[(14,[10])]),
 (22,[(14,[10])]),
 (23,[(5,[1,5,6,7,8,15,16,17]),(6,[1,5,6,7,8,15,16,17,18]),(11,[1,5,6,7,8,11,15,16,17]),(12,[1,5,6,7,8,15,16,17]),(13,[5,6,7]),(16,[6])]),
 (24,[(4,[5,6,7])]),
 (25,[(3,[0]),(11,[0]),(13,[0])]),
 (26,[(2,[0,7,8]),(3,[0,7,8,9]),(8,[0,7,8]),(9,[0])]),
 (27,[(4,[0,1,5]),(6,[5,6,21,22,23]),(7,[5,6,21,22,23,24]),(11,[5,6,21,22,23]),(12,[5])]),
 (28,[(4,[6])]),
 (30,[(4,[0,1,5]),(6,[1,5,6,7]),(7,[1,5,6,7]),(8,[1,5,6,7]),(10,[5])]),
 (31,[(4,[0,5])]),
 (32,[(3,[0]),(5,[0]),(9,[0,4])]),
 (33,[(4,[0,1,2]),(6,[0,1,2]),(9,[0,1,8]),(11,[0,1,8])]),
 (34,[(3,[2,3,4]),(6,[7]),(1000003,[3,4])]),
 (35,[(4,[0,1]),(7,[0,1])]),
 (36,[(3,[0]),(5,[0]),(9,[0,4])]),
 (37,[(4,[0,1,2]),(6,[0,1,2]),(9,[0,1,8]),(11,[0,1,8])]),
 (38,[(4,[2,3,4,7]),(5,[2,3,4,7,8]),(6,[2,3,4,7,8]),(7,[2,3,4,7,8]),(8,[3,4,7])]),
 (39,[(4,[0,1]),(7,[0,1])]),
 (41,[(1,[0,1]),(3,[0,1,18,19,20]),(4,[0,1,18,19,20,21]),(10,[0,1,18,19,20])]),
 (42,[(4,[0,1]),(7,[0,1])]),
 (43,[(3,[0]),(7,[0,5,6,7]),(12,[0]),(14,[0])]),
 (44,[(4,[5,6,7])]),
 (45,[(1,[0,1]),(4,[0,1,4]),(5,[0,1,4]),(6,[0,1,4])]),
 (46,[(4,[0,1]),(7,[0,1])]),
 (47,[(3,[0])]),
 (48,[(4,[0,1,2]),(7,[2,10]),(9,[2,10]),(12,[2,12,13])]),
 (50,[(2,[0,5,6]),(3,[0,5,6,7]),(6,[0,5,6]),(7,[0])]),
 (51,[(3,[0,1]),(5,[0,1]),(8,[6])]),
 (53,[(3,[0]),(4,[0,3]),(5,[0,3]),(6,[0,3]),(9,[])]),
 (54,[(4,[0,5]),(5,[0,5,6]),(6,[0,5,6]),(7,[0,5,6]),(9,[0,5])]),
 (55,[(3,[0,1]),(5,[0,1]),(8,[6])]),
 (56,[(2,[0,1,4,5]),(3,[0,1,4,5]),(4,[0,1,4,5]),(6,[0,4])]),
 (58,[(11,[0,1]),(13,[0,1])]),
 (59,[(7,[])]),
 (60,[(3,[4,9,10,11]),(4,[4,9,10,11,12]),(8,[4,7,9,10,11]),(9,[4,9,10,11]),(10,[4])]),
 (61,[(3,[0,3,10,11,12]),(4,[0,3,10,11,12,13]),(7,[0,3,10,11,12]),(8,[3])]),
 (62,[(4,[0,2,7]),(6,[0,2,7])]),
 (63,[(3,[1]),(5,[1]),(6,[33,34,35]),(7,[33,34,35,36]),(10,[33,34,35]),(11,[])]),
 (64,[(3,[0,1]),(6,[1,6,7,8]),(7,[1,6,7,8]),(12,[6,7,8])]),
 (66,[(5,[2,3,4,5]),(8,[9])]),
 (67,[(3,[1,5,8,9,10]),(4,[1,5,8,9,10,11]),(7,[1,5,8,9,10]),(8,[5])]),
 (69,[(4,[2,3,4,5]),(5,[2,3,4,5,26,27,28]),(6,[2,3,4,5,26,27,28,29]),(10,[2,3,4,5,10,11,26,27,28]),(13,[2,3,4,5,26,27,28]),(14,[]),(1000010,[4,5,10])]),
 (70,[(4,[6])]),
 (71,[(3,[0]),(5,[0,3,4]),(6,[0,3,4]),(7,[0,3,4]),(10,[0,3,4,5]),(11,[0,3]),(13,[3])]),
 (72,[(3,[0,1]),(5,[0,1]),(7,[0,1]),(9,[0,1]),(11,[0,1])]),
 (73,[(3,[0,1]),(5,[0,1]),(7,[])]),
 (74,[(2,[0,1,5]),(3,[0,1,5]),(4,[0,1,5]),(6,[])]),
 (75,[(3,[0,4,5]),(4,[0,4,5]),(5,[0,4,5]),(8,[0,4,5,6]),(9,[4])]),
 (76,[(4,[0,3]),(6,[0,3,4,5]),(7,[0,3,4,5]),(8,[0,3,4,5]),(10,[3])]),
 (77,[(4,[0,2,7]),(6,[0,2,7])]),
 (78,[(3,[1]),(5,[1]),(6,[1,3]),(7,[1,3]),(8,[1,3]),(10,[])]),
 (79,[(2,[2,3,4,5,9]),(3,[2,3,4,5,9]),(4,[2,3,9])]),
 (80,[(3,[2,3,4,7,8]),(4,[2,3,4,7,8]),(5,[2,3,4,7,8]),(7,[7])]),
 (81,[(4,[0,5])]),
 (82,[(3,[0,1,5,6]),(4,[0,1,5,6]),(5,[0,1,5,6]),(7,[5])]),
 (85,[(4,[0,1,2]),(7,[2,10]),(9,[2,10]),(12,[2,12,13])]),
 (86,[(4,[2,3,10]),(6,[2,3,10])]),
 (87,[(3,[0,1]),(6,[1,7]),(9,[1,7,8]),(11,[1,7,8]),(13,[1,7,8])]),
 (88,[(6,[0])]),
 (89,[(3,[0])]),
 (90,[(2,[0,1,5]),(3,[0,1,5]),(4,[0,1,5]),(6,[])]),
 (92,[(2,[0,7,8]),(3,[0,7,8,9]),(8,[0,7,8]),(9,[0])]),
 (94,[(3,[0])]),
 (97,[(3,[1,2])]),
 (98,[(5,[1,2,8,9,24,25]),(6,[1,2,8,9,24,25,26]),(9,[1,2,8,9,10,24,25]),(11,[1,2,8,9,24,25]),(12,[1,2,8,9]),(14,[1,2,8,9]),(16,[1,2]),(1000002,[3])]),
 (99,[(4,[4,5,6,7,9]),(8,[4,5,6,7,9]),(1000011,[4])]),
 (100,[(4,[0,2,4,7,8]),(12,[0,7,10]),(14,[0,7,10])]),
 (101,[(3,[0]),(4,[0,3]),(5,[0,3]),(6,[0,3]),(9,[])]),
 (102,[(4,[0,3,4,5,6]),(5,[0,3,4,5,6]),(6,[0,3,4,5,6]),(9,[0,3,4,5,6]),(10,[0,3,4,5]),(12,[0,4])]),
 (103,[(3,[0])]),
 (104,[(4,[3,4,5]),(5,[3,4,5]),(6,[3,4,5]),(7,[3])]),
 (105,[(3,[1])]),
 (106,[(5,[2,3,4,5]),(8,[9])]),
 (107,[(4,[2,3,4,5]),(5,[2,3,4,5,9]),(6,[2,3,4,5,9]),(7,[2,3,4,5,9]),(10,[2,3,4,5,9,10]),(13,[]),(1000010,[4,5,10])]),
 (112,[(4,[0,2,3,10]),(7,[2,3,12])]),
 (113,[(3,[0,1]),(5,[0,1]),(8,[0,1,7]),(10,[0,1,7]),(12,[0,1,7])]),
 (116,[(2,[0,1,7,8]),(3,[0,1,7,8,9]),(6,[0,1,7,8]),(7,[])]),
 (118,[(3,[1,2])]),
 (120,[(3,[1,2,3,6,16,17,18]),(4,[1,2,3,6,16,17,18,19]),(6,[1,2,3,6,16,17,18]),(7,[1,2,3,6]),(8,[1,2,3,6,9]),(9,[1,2,3,6,9]),(14,[1,2,3,6,9,10,11]),(15,[1,2,3,6,9,10])]),
 (123,[(2,[0,4]),(3,[0,4]),(4,[0,4]),(7,[0,4,5]),(14,[5,6,7,8,9]),(16,[5,7,8,9]),(19,[9,11])]),
 (124,[(5,[])]),
 (128,[(3,[0,3,7,8]),(4,[0,3,7,8,9]),(8,[0,3,7,8]),(9,[3])]),
 (131,[(3,[0,1,2,6,9]),(4,[0,1,2,6,9]),(7,[0,1,2,6,9,10]),(9,[0,1,2,6,9,10]),(10,[0,1,6]),(11,[0,1,6,11]),(12,[0,1,6,11]),(13,[0,1,6,11]),(14,[0,1,6,7,11]),(15,[0,1,6,7,11]),(16,[0,1,6,7,11]),(17,[0,1,6,7,11]),(18,[0,1,6,7,11]),(20,[0,1,7,11]),(21,[])]),
 (133,[(3,[1,2])]),
 (134,[(5,[1,2])]),
 (136,[(5,[3,9]),(7,[9])]),
 (137,[(5,[0,4,7,8,9]),(12,[0,11,12]),(14,[0,11,12]),(1000002,[4]),(1000006,[10]),(1000011,[13])]),
 (150,[(3,[0,3,6,7]),(4,[0,3,6,7,8]),(8,[0,3,6,7]),(9,[3])]),
 (153,[(3,[1]),(5,[1]),(6,[1,27,28,29]),(7,[1,27,28,29,30]),(10,[1,27,28,29]),(11,[1]),(14,[1])]),
 (154,[(3,[0,1,5,6]),(4,[0,1,5,6,7]),(6,[0,1,5,6]),(7,[0,1])]),
 (156,[(2,[0,3]),(3,[0,3]),(4,[3])]),
 (157,[(3,[0,1,5,8,9]),(4,[0,1,5,8,9,10]),(8,[0,1,5,8,9]),(9,[1,5])]),
 (164,[(3,[0,5,10,11]),(4,[0,5,10,11,12]),(6,[0,5,10,11]),(7,[5])]),
 (167,[(3,[1,2])]),
 (168,[(2,[0,1,5]),(3,[0,1,5]),(4,[0,1,5]),(6,[0,1,5]),(8,[0,1]),(10,[0,1]),(12,[])]),
 (169,[(3,[1,2,5,6]),(4,[1,2,5,6]),(10,[5])]),
 (170,[(3,[0,1,5,6,7]),(4,[0,1,5,6,7]),(5,[0,1,5,6,7]),(6,[1,5,6]),(7,[1,5,6,8]),(8,[1,5,6,8]),(9,[1,5,6,8]),(10,[5,6])]),
 (171,[(5,[5,7]),(7,[])]),
 (172,[(1,[1,2,3]),(2,[1,2,3]),(3,[1,2,3]),(5,[1,2,3]),(7,[1])]),
 (173,[(5,[0,1,5,6,7]),(6,[0,1,5,6,7]),(7,[0,1,5,6,7]),(10,[0,5,6]),(11,[0,5,6]),(12,[0,5,6,8]),(13,[0,5,6,8]),(14,[0,5,6,8]),(17,[0,5,6]),(19,[5])]),
 (174,[(3,[1])]),
 (175,[(3,[1])]),
 (186,[(2,[0,7,8]),(3,[0,7,8,9]),(8,[0,7,8]),(9,[0])]),
 (187,[(3,[0]),(5,[3,10,11,12]),(6,[3,10,11,12,13]),(9,[3,5,10,11,12]),(11,[3,5,10,11,12]),(12,[3,10,11,12]),(13,[])]),
 (188,[(3,[0]),(5,[3,10,11,12]),(6,[3,10,11,12,13]),(9,[3,5,10,11,12]),(11,[3,5,10,11,12]),(12,[3,10,11,12]),(13,[])]),
 (189,[(3,[0,1,2,7,11,12]),(4,[0,1,2,7,11,12,13]),(8,[0,1,2,7,11,12]),(9,[7])]),
 (191,[(3,[0,3,5]),(4,[0,3,5,6]),(8,[0,3,5]),(9,[3])]),
 (196,[(3,[1]),(5,[1]),(6,[1,3]),(7,[1,3]),(8,[1,3]),(10,[1]),(12,[1]),(15,[1])]),
 (197,[(2,[1,2,3,7]),(3,[1,2,3,7]),(4,[1,2,3,7]),(6,[])]),
 (198,[(2,[0,4]),(3,[0,4]),(4,[0,4]),(7,[0,4,5]),(14,[0,4,5,6,7,8]),(16,[0,4,5,6,7,8]),(18,[0,4,5,6,7,8]),(21,[5,7,10]),(23,[7,10])]),
 (200,[(3,[0,3,4]),(4,[0,3,4]),(5,[0,3,4]),(8,[3])]),
 (211,[(3,[0]),(4,[0,3]),(5,[0,3]),(6,[0,3]),(8,[0,3]),(9,[0,3,4]),(10,[0,3,4]),(11,[0,3,4]),(13,[])]),
 (212,[(3,[0]),(4,[0,3]),(5,[0,3]),(6,[0,3]),(8,[0,3]),(9,[0,3,4]),(10,[0,3,4]),(11,[0,3,4]),(13,[])]),
 (213,[(1,[0,1]),(2,[0,1]),(3,[1])]),
 (214,[(3,[0,1,6,7]),(4,[0,1,6,7]),(5,[0,1,6,7]),(8,[1,6]),(9,[1,6,8]),(10,[1,6,8]),(11,[1,6,8]),(14,[6])]),
 (215,[(3,[0,1,5,6]),(4,[0,1,5,6]),(5,[0,1,5,6]),(6,[5])])]
def userList:dv:=[3,4,5,6,7,8,9,10,11,12,13,14,15,16,17,18,19,20,21,22,23,24,25,26,27,28,29,30,31,32,33,34,35,36,37,38,39,40,41,42,43,44,45,46,47,48,49,50,51,52,53,54,55,56,57,58,59,60,61,62,63,64,65,66,67,68,69,70,71,72,73,74,75,76,77,78,79,80,81,82,83,84,85,86,87,88,89,90,91,92,93,94,95,96,97,98,99,100,101,102,103,104,105,106,107,108,109,110,111,112,113,114,115,116,117,118,119,120,121,122,123,124,125,126,127,128,129,130,131,132,133,134,135,136,137,138,139,140,141,142,143,144,145,146,147,148,149,150,151,153,154,155,156,157,158,159,160,161,162,163,164,165,166,167,168,169,170,171,172,173,174,175,176,177,178,179,180,181,182,183,184,185,186,187,188,189,191,192,193,194,195,196,197,198,199,200,201,202,203,204,205,206,207,208,210,211,212,213,214,215,216,217,218,219]
def pureList:dv:=[]
def flatList:dv:=[4,5,6,14,16,23,26,29,34,38,47,49,50,53,54,57,60,63,64,65,66,67,68,69,71,74,75,78,79,80,87,92,93,94,97,98,99,101,103,105,106,107,113,114,116,118,119,122,123,124,126,128,129,130,133,134,135,136,150,153,154,155,156,157,164,167,168,169,170,171,172,186,187,188,189,191,196,197,198,200,201,210,211,212,213,214,215]
def extList:List (Nat×ExtK):=[(152,.same),(190,.cmp),(209,.indexByte)]
def roList:dv:=[17,18,27,30,61,76,104,236]
def eqList:dv:=[63,96]
noncomputable def sumList:List (Nat×(du->Option AV)):=[(91,ZcI),(127,ZcQ)]
noncomputable def effList:List (Nat×EffFn):=[(40,namesE),(84,forgetE),(95,textE),(96,stringE),(132,sealE),(163,byteE)]
def bldList:List (Nat×Nat):=[(133,5)]
def wrbList:dv:=[94]
def qkList:List (Nat×dv):=[(11,[12]),(14,[15])]
def linList:dv:=[27,48,102]
noncomputable def cfg:Cfg:={ P:=Tryz.prog,glob:=My,sum:=λf=>sumList.lookup f,user:=λf=>userList.contains f,eqok:=λt=>eqList.contains t,pure:=λf=>pureList.contains f,flat:=λf=>flatList.contains f,ext:=λf=>extList.lookup f,keep:=ZjV Ad,eff:=λf=>effList.lookup f,bld:=λt=>bldList.lookup t,lin:=λt=>linList.contains t,qk:=λt a=>qkList.contains (t,a),wrb:=λt=>wrbList.contains t,ro:=λf=>roList.contains f }
theorem Z9 {kp:Nat -> Option dv}{j:Code -> KL -> AL -> Hp -> Z3}{n:Nat}{c:Code}{k:KL}{u:AL}{H:Hp}{r:Z3}(cut:dv)(h:Ij cfg (Za cfg) j kp n Zc Z7 (Y7 cfg (Za cfg) j kp n Zc Z7) cut c k u H=r:=by kernel_rfl):Y7 cfg (Za cfg) j kp n Zc Z7 c k u H=r:=(GK cut c k u H).trans h
theorem Be {f:FuncId}{fn:Func}{args:du}{H:Hp}{r:Z3}(n:Nat)(cut:dv)(w:cfg.P.funcs[f]?=i fn)(u:L8 cfg f fn=i (Z1 fn):=by kernel_rfl)(j:fn.ntmps=n:=by kernel_rfl)(y:Nat.ble args.length n=d:=by kernel_rfl)(h:Ij cfg (Za cfg) (ZT cfg (cfg.keep f) n) (cfg.keep f) n Zc Z7 (Y7 cfg (Za cfg) (ZT cfg (cfg.keep f) n) (cfg.keep f) n Zc Z7) cut (Z1 fn) (Zd cfg n f fn H) (gZ 0 args) H=r:=by kernel_rfl):Za cfg f args H=r:=(Zb cut w u j args y H).trans h

def Cg:=Za cfg 3
def OD:=Za cfg 4
def OB:=Za cfg 5
def DQ:=Za cfg 6
def Mb:=Za cfg 7
def pY:=Za cfg 8
def VB:=Za cfg 9
def Sw:=Za cfg 10
def WT:=Za cfg 11
def Vw:=Za cfg 12
def GO:=Za cfg 13
def Q0:=Za cfg 14
def OG:=Za cfg 15
def Gm:=Za cfg 16
def Xw:=Za cfg 17
def Xv:=Za cfg 18
def Ma:=Za cfg 19
def fG:=Za cfg 20
def ZeM:=Za cfg 21
def OC:=Za cfg 22
def Cs:=Za cfg 23
def Vo:=Za cfg 24
def Wj:=Za cfg 25
def Uq:=Za cfg 26
def Qc:=Za cfg 27
def VR:=Za cfg 28
def Fz:=Za cfg 29
def Sv:=Za cfg 30
def Q8:=Za cfg 31
def XJ:=Za cfg 32
def Xh:=Za cfg 33
def Bv:=Za cfg 34
def Xq:=Za cfg 35
def Vx:=Za cfg 36
def WO:=Za cfg 37
def Sy:=Za cfg 38
def V6:=Za cfg 39
def Jn:=Za cfg 41
def YM:=Za cfg 42
def QU:=Za cfg 43
def Do:=Za cfg 44
def UH:=Za cfg 45
def Wh:=Za cfg 46
def Yq:=Za cfg 47
def YH:=Za cfg 48
def QW:=Za cfg 49
def G8:=Za cfg 50
def Wk:=Za cfg 51
def GR:=Za cfg 52
def Jm:=Za cfg 53
def Tb:=Za cfg 54
def WN:=Za cfg 55
def R8:=Za cfg 56
def Cr:=Za cfg 57
def JV:=Za cfg 58
def YZ:=Za cfg 59
def Nv:=Za cfg 60
def Vg:=Za cfg 61
def JU:=Za cfg 62
def Qa:=Za cfg 63
def YS:=Za cfg 64
def Cp:=Za cfg 65
def Gn:=Za cfg 66
def Up:=Za cfg 67
def Cq:=Za cfg 68
def VM:=Za cfg 69
def GQ:=Za cfg 70
def Ch:=Za cfg 71
def GM:=Za cfg 72
def Wx:=Za cfg 73
def MC:=Za cfg 74
def Cl:=Za cfg 75
def R9:=Za cfg 76
def GL:=Za cfg 77
def DT:=Za cfg 78
def Tc:=Za cfg 79
def fF:=Za cfg 80
def R7:=Za cfg 81
def KN:=Za cfg 82
def V5:=Za cfg 85
def GP:=Za cfg 86
def Te:=Za cfg 87
def UI:=Za cfg 88
def QT:=Za cfg 89
def VL:=Za cfg 90
def Rb:=Za cfg 92
def YW:=Za cfg 93
def Nw:=Za cfg 94
def VA:=Za cfg 97
def Uo:=Za cfg 98
def Qb:=Za cfg 99
def QV:=Za cfg 100
def Nu:=Za cfg 101
def Ta:=Za cfg 102
def Cn:=Za cfg 103
def Um:=Za cfg 104
def M7:=Za cfg 105
def M4:=Za cfg 106
def KO:=Za cfg 107
def R4:=Za cfg 112
def fD:=Za cfg 113
def M9:=Za cfg 114
def Ww:=Za cfg 116
def Ui:=Za cfg 118
def Q9:=Za cfg 119
def Lw:=Za cfg 120
def JT:=Za cfg 121
def Ds:=Za cfg 122
def JR:=Za cfg 123
def Nz:=Za cfg 124
def Dp:=Za cfg 125
def Dq:=Za cfg 126
def Ny:=Za cfg 128
def Dr:=Za cfg 129
def Nx:=Za cfg 130
def Gp:=Za cfg 131
def G2:=Za cfg 133
def KM:=Za cfg 134
def Wi:=Za cfg 135
def M6:=Za cfg 136
def FA:=Za cfg 137
def OH:=Za cfg 150
def Bu:=Za cfg 153
def Ra:=Za cfg 154
def We:=Za cfg 155
def JS:=Za cfg 156
def Td:=Za cfg 157
def Vz:=Za cfg 162
def Tf:=Za cfg 164
def G7:=Za cfg 165
def G1:=Za cfg 167
def DS:=Za cfg 168
def Fy:=Za cfg 169
def OE:=Za cfg 170
def Lv:=Za cfg 171
def M8:=Za cfg 172
def Co:=Za cfg 173
def Sx:=Za cfg 174
def M5:=Za cfg 175
def KP:=Za cfg 186
def Vy:=Za cfg 187
def Vf:=Za cfg 188
def V7:=Za cfg 189
def GN:=Za cfg 191
def Un:=Za cfg 195
def M3:=Za cfg 196
def Su:=Za cfg 197
def T8:=Za cfg 198
def QF:=Za cfg 199
def fE:=Za cfg 200
def OF:=Za cfg 201
def DR:=Za cfg 210
def Q7:=Za cfg 211
def UG:=Za cfg 212
def T9:=Za cfg 213
def Ci:=Za cfg 214
def Cj:=Za cfg 215
noncomputable abbrev a6 (f n:Nat):=Y7 cfg (Za cfg) (ZT cfg (cfg.keep f) n) (cfg.keep f) n Zc Z7
noncomputable abbrev a7 (f n:Nat)(F:Func)(p:Nat)(G:Hp):=λk K=>a6 f n (sub (Z1 F) (dx p)) (Zd cfg n f F G) k K
abbrev a8 (F:Func)(p:Nat):=sub (Z1 F) (dx p)
def Ax:Z3:=a7 63 78 f63 31 Y [] H
def Kv:KL:=Zc (λk h H=>a6 63 78 (a8 f63 31) k (Y3 (cfg.keep 63) (a8 f63 31) h) H) (Zd cfg 78 63 f63 Y)
theorem eM:ZV 78 (Kv Y):=Zv (C:=cfg) (kp:=cfg.keep 63) (a8 f63 31) (Zy 63 f63 Y)
def Rv:Z3:=a6 63 78 (a8 f63 1959) (Zc (λk h H=>ZT cfg (cfg.keep 63) 78 (a8 f63 244) k (Y3 (cfg.keep 63) (a8 f63 244) h) H) (Z7 0 (Kv Y))) [(33,x33),(34,x34),(35,x35)] H
def Ru:Z3:=a6 63 78 (a8 f63 979) (Zc (λk h H=>ZT cfg (cfg.keep 63) 78 (a8 f63 244) k (Y3 (cfg.keep 63) (a8 f63 244) h) H) (Z7 0 (Kv Y))) [(33,x33),(34,x34),(35,x35),(36,x36)] H
def Kw:Z3:=ZT cfg (cfg.keep 63) 78 (a8 f63 244) (Z7 0 (Kv Y)) [(33,x33),(34,x34),(35,x35)] H
def Aw:Z3:=a7 63 78 f63 15 Y [(1,W)] H
def Av:Z3:=a7 63 78 f63 7 Y [(1,W)] H
def Iv:Z3:=
 Z0 (ZY p0 H) λh=>
 Z0 (Z6 0 h.1) λt5=>
 Z0 (Z4 I 1 t5 h.2) λj=>
 Z0 (Zf (.slice 142) j) λu=>
 Z0 (Z2 .gtr u (Q J 8)) λw=>
 Zh w
  (i ((Q J 3),h.2))
  (Av h.1 H h.2)
theorem pD:Ax Y H =
 i ((Q J 0),H):=Z9 b6
theorem pF:Rv x33 x34 x35 Y H =
 Z0 (Z2 .add x35 (Q J 1)) λh=>
 Kw x33 x34 h Y H:=Z9 b6
theorem pE:Ru x33 x34 x35 x36 Y H =
 Z0 (Zr 5 x33 x35) λt37=>
 Z0 (Z4 d 5 t37 H) λD=>
 Z0 (i ((.ptr H.length 0),H++[.cells [(Q J 0),(Q J 0),(Q J 0),(Q J 0),(Q J 0)]])) λu=>
 Z0 (Zg 5 u.1 D u.2) λh=>
 Z0 (Z6 0 u.1) λE=>
 Z0 (Z4 I 1 E h.2) λF=>
 Z0 (Z2 .lss F (Q J 1)) λw=>
 Z0 (Z8 w I bf (Z6 1 u.1)) λG=>
 Z0 (Z8 w I bf (Z4 I 1 G h.2)) λL=>
 Z0 (Z8 w I bf (Z2 .lss L (Q J 1))) λM=>
 Z0 (Zm w (.bool d) M) λy=>
 Z0 (Z8 y I bf (Z6 2 u.1)) λN=>
 Z0 (Z8 y I bf (Z4 I 1 N h.2)) λP=>
 Z0 (Z8 y I bf (Z2 .lss P (Q J 0))) λR=>
 Z0 (Zm y (.bool d) R) λz=>
 Z0 (Z8 z I bf (Z6 3 u.1)) λS=>
 Z0 (Z8 z I bf (Z4 I 1 S h.2)) λT=>
 Z0 (Z8 z I bf (Z2 .lss T (Q J 0))) λZ=>
 Z0 (Zm z (.bool d) Z) λj=>
 Z0 (Z8 j I bf (Z6 2 u.1)) λaa=>
 Z0 (Z8 j I bf (Z4 I 1 aa h.2)) λab=>
 Z0 (Z8 j I bf (Z2 .eql ab (Q J 0))) λac=>
 Z0 (Z8 j I bf (i ac)) λA=>
 Z0 (Z8 A d bf (Z6 3 u.1)) λad=>
 Z0 (Z8 A d bf (Z4 I 1 ad h.2)) λae=>
 Z0 (Z8 A d bf (Z2 .neq ae (Q J 0))) λaf=>
 Z0 (Z8 j I bf (Zm A af (.bool I))) λag=>
 Z0 (Zm j (.bool d) ag) λB=>
 Z0 (Z8 B I bf (Z6 4 u.1)) λah=>
 Z0 (Z8 B I bf (Z4 I 1 ah h.2)) λai=>
 Z0 (Z8 B I bf (Z2 .lss ai (Q J 0))) λt70=>
 Z0 (Zm B (.bool d) t70) λC=>
 Z0 (Z8 C I bf (Z6 4 u.1)) λaj=>
 Z0 (Z8 C I bf (Z4 I 1 aj h.2)) λak=>
 Z0 (Z8 C I bf (Z2 .gtr ak (Q J 31))) λal=>
 Z0 (Zm C (.bool d) al) λam=>
 Zh am
  (i ((Q J 2),h.2))
  (Rv x33 x34 x35 Y h.2):=Z9 b6
theorem Nc:Kw x33 x34 x35 Y H =
 Z0 (Z2 .lss x35 x34) λh=>
 Zh h
  (Ru x33 x34 x35 h Y H)
  (Ax Y H):=(ZC (C:=cfg) [3,5,7,10,11] (Zo 0 (eM Y)) _ _).trans dz
theorem pC:Aw W Y H =
 Z0 (Z6 0 W) λj=>
 Z0 (Z4 I 1 j H) λh=>
 Z0 (Zf (.slice 142) h) λu=>
 Kw h u (Q J 0) Y H:=Z9 b6
theorem pB:Av W Y H =
 Z0 (Z6 1 W) λt9=>
 Z0 (Z4 I 1 t9 H) λy=>
 Z0 (Z2 .lss y (Q J (-1))) λh=>
 Z0 (Z8 h I bf (Z6 1 W)) λz=>
 Z0 (Z8 h I bf (Z4 I 1 z H)) λA=>
 Z0 (Z8 h I bf (Z2 .gtr A (Q J 255))) λB=>
 Z0 (Zm h (.bool d) B) λj=>
 Z0 (Z8 j I bf (Z6 1 W)) λC=>
 Z0 (Z8 j I bf (Z4 I 1 C H)) λD=>
 Z0 (Z8 j I bf (Z2 .eql D (Q J 10))) λE=>
 Z0 (Zm j (.bool d) E) λu=>
 Z0 (Z8 u I bf (Z6 2 W)) λF=>
 Z0 (Z8 u I bf (Z4 I 1 F H)) λG=>
 Z0 (Z8 u I bf (Z2 .lss G (Q J 0))) λL=>
 Z0 (Zm u (.bool d) L) λw=>
 Z0 (Z8 w I bf (Z6 2 W)) λM=>
 Z0 (Z8 w I bf (Z4 I 1 M H)) λN=>
 Z0 (Z8 w I bf (Z2 .gtr N (Q J 31))) λP=>
 Z0 (Zm w (.bool d) P) λR=>
 Zh R
  (i ((Q J 2),H))
  (Aw W Y H):=Z9 b6
theorem Zad:Qa [p0] H=Iv p0 H:=Be 78 [3,5,7,10,11] func63
def ZaX:Z3:=a7 78 45 f78 31 Y [] H
def TW:KL:=Zc (λk h H=>a6 78 45 (a8 f78 31) k (Y3 (cfg.keep 78) (a8 f78 31) h) H) (Zd cfg 45 78 f78 Y)
theorem Zdf:ZV 45 (TW Y):=Zv (C:=cfg) (kp:=cfg.keep 78) (a8 f78 31) (Zy 78 f78 Y)
def ZaZ:Z3:=a6 78 45 (a8 f78 979) (Zc (λk h H=>ZT cfg (cfg.keep 78) 45 (a8 f78 244) k (Y3 (cfg.keep 78) (a8 f78 244) h) H) (Z7 0 (TW Y))) [(1,W),(3,x3)] H
def ZaY:Z3:=a6 78 45 (a8 f78 489) (Zc (λk h H=>ZT cfg (cfg.keep 78) 45 (a8 f78 244) k (Y3 (cfg.keep 78) (a8 f78 244) h) H) (Z7 0 (TW Y))) [(1,W),(3,x3)] H
def TX:Z3:=ZT cfg (cfg.keep 78) 45 (a8 f78 244) (Z7 0 (TW Y)) [(1,W),(3,x3)] H
def ZaW:Z3:=a7 78 45 f78 15 Y [(1,W)] H
def ZaV:Z3:=a7 78 45 f78 7 Y [(1,W)] H
def ZdI:Z3:=
 Z0 (ZY p0 H) λh=>
 Z0 (Z6 0 h.1) λt4=>
 Z0 (Z4 I 1 t4 h.2) λt5=>
 Z0 (Zf (.slice 142) t5) λj=>
 Z0 (Z2 .gtr j (Q J 8)) λu=>
 Zh u
  (i ((Q J 3),h.2))
  (ZaV h.1 H h.2)
theorem Zhc:ZaX Y H =
 i ((Q J 0),H):=Z9 b7
theorem Zhe:ZaZ W x3 Y H =
 Z0 (Z2 .add x3 (Q J 1)) λt37=>
 TX W t37 Y H:=Z9 b7
theorem Zhd:ZaY W x3 Y H =
 Z0 (Z6 0 W) λj=>
 Z0 (Z4 I 1 j H) λu=>
 Z0 (Zr 5 u x3) λw=>
 Z0 (Z4 d 5 w H) λy=>
 Z0 (Ze M7 [y] H) λh=>
 Z0 (YU .not h.1) λz=>
 Zh z
  (i ((Q J 2),h.2))
  (ZaZ W x3 Y h.2):=Z9 b7
theorem IJ:TX W x3 Y H =
 Z0 (Z6 0 W) λh=>
 Z0 (Z4 I 1 h H) λj=>
 Z0 (Zf (.slice 142) j) λu=>
 Z0 (Z2 .lss x3 u) λw=>
 Zh w
  (ZaY W x3 Y H)
  (ZaX Y H):=(ZC (C:=cfg) [3,5,7,8,10] (Zo 0 (Zdf Y)) _ _).trans dz
theorem Zhb:ZaW W Y H =
 TX W (Q J 0) Y H:=Z9 b7
theorem Zha:ZaV W Y H =
 Z0 (Z6 1 W) λR=>
 Z0 (Z4 I 1 R H) λt9=>
 Z0 (Z2 .lss t9 (Q J (-1))) λh=>
 Z0 (Z8 h I bf (Z6 1 W)) λy=>
 Z0 (Z8 h I bf (Z4 I 1 y H)) λz=>
 Z0 (Z8 h I bf (Z2 .gtr z (Q J 255))) λA=>
 Z0 (Zm h (.bool d) A) λj=>
 Z0 (Z8 j I bf (Z6 1 W)) λB=>
 Z0 (Z8 j I bf (Z4 I 1 B H)) λC=>
 Z0 (Z8 j I bf (Z2 .eql C (Q J 10))) λD=>
 Z0 (Zm j (.bool d) D) λu=>
 Z0 (Z8 u I bf (Z6 2 W)) λE=>
 Z0 (Z8 u I bf (Z4 I 1 E H)) λF=>
 Z0 (Z8 u I bf (Z2 .lss F (Q J 0))) λG=>
 Z0 (Zm u (.bool d) G) λw=>
 Z0 (Z8 w I bf (Z6 2 W)) λL=>
 Z0 (Z8 w I bf (Z4 I 1 L H)) λM=>
 Z0 (Z8 w I bf (Z2 .gtr M (Q J 31))) λN=>
 Z0 (Zm w (.bool d) N) λP=>
 Zh P
  (i ((Q J 2),H))
  (ZaW W Y H):=Z9 b7
theorem Zj7:DT [p0] H=ZdI p0 H:=Be 45 [3,5,7,8,10] func78
def Lr:Z3:=a7 100 70 f100 255 Y [(0,X),(7,O),(10,x10)] H
def Wo:Z3:=a7 100 70 f100 127 Y [(0,X),(7,O),(10,x10)] H
def Lq:Z3:=a7 100 70 f100 15 Y [(0,X),(2,x2),(4,x4),(7,O),(8,x8)] H
def Ej:Z3:=
 Z0 (ZY p1 H) λj=>
 Z0 (Z6 0 j.1) λu=>
 Z0 (Z4 I 1 u j.2) λw=>
 Z0 (K9 w (Q J 1)) λy=>
 Z0 (Gp [p0,y,p2] j.2) λh=>
 Z0 (ZK h.1 0) λz=>
 Z0 (ZK h.1 1) λA=>
 Z0 (ZK h.1 2) λB=>
 Z0 (YU .not B) λC=>
 Zh C
  (i ((.str []),h.2))
  (Lq p0 p2 j.1 z A H h.2)
theorem eU:Lr X O x10 Y H =
 Z0 (ZR X (i O) (i x10) none) λh=>
 i (h,H):=Z9 [4,12,14]
theorem eT:Wo X O x10 Y H =
 Z0 (Z2 .lss x10 O) λh=>
 Zh h
  (i ((.str []),H))
  (Lr X O x10 Y H):=Z9 [4,12,14]
theorem eS:Lq X x2 x4 O x8 Y H =
 Z0 (Z6 1 x4) λy=>
 Z0 (Z4 I 1 y H) λz=>
 Z0 (K9 z (Q J 1)) λA=>
 Z0 (Z2 .sub A (Q J 1)) λB=>
 Z0 (Z2 .sub x8 O) λC=>
 Z0 (WU B C) λD=>
 Z0 (Z2 .add O D) λj=>
 Z0 (Zf .string X) λt37=>
 Z0 (Z6 2 x4) λE=>
 Z0 (Z4 I 1 E H) λF=>
 Z0 (Z2 .gtr F (Q J 0)) λG=>
 Zh G
  (Z0 (Z6 2 x4) λL=>
  Z0 (Z4 I 1 L H) λM=>
  Z0 (Gp [X,M,x2] H) λh=>
  Z0 (ZK h.1 0) λu=>
  Z0 (ZK h.1 1) λw=>
  Z0 (ZK h.1 2) λN=>
  Zh N
   (Z0 (Z6 3 x4) λP=>
   Z0 (Z4 I 1 P h.2) λR=>
   Z0 (Z2 .gtr R (Q J 0)) λS=>
   Zh S
    (Z0 (Z6 3 x4) λT=>
    Z0 (Z4 I 1 T h.2) λZ=>
    Z0 (Z2 .sub w u) λaa=>
    Z0 (WU Z aa) λab=>
    Z0 (Z2 .add u ab) λac=>
    Wo X j ac Y h.2)
    (Wo X j w Y h.2))
   (Wo X j t37 Y h.2))
  (Wo X j t37 Y H):=Z9 [4,12,14]
theorem fP:QV [p0,p1,p2] H=Ej p0 p1 p2 H:=Be 70 [4,12,14] func100
def HD:Z3:=a7 105 39 f105 7 Y [(1,W)] H
def ZdN:Z3:=
 Z0 (ZY p0 H) λh=>
 Z0 (Z6 0 h.1) λt3=>
 Z0 (Z4 I 1 t3 h.2) λt4=>
 Z0 (Z2 .lss t4 (Q J 1)) λt5=>
 Z0 (Z8 t5 I bf (Z6 1 h.1)) λT=>
 Z0 (Z8 t5 I bf (Z4 I 1 T h.2)) λZ=>
 Z0 (Z8 t5 I bf (Z2 .lss Z (Q J 1))) λt9=>
 Z0 (Zm t5 (.bool d) t9) λu=>
 Z0 (Z8 u I bf (Z6 2 h.1)) λz=>
 Z0 (Z8 u I bf (Z4 I 1 z h.2)) λA=>
 Z0 (Z8 u I bf (Z2 .lss A (Q J 0))) λB=>
 Z0 (Zm u (.bool d) B) λw=>
 Z0 (Z8 w I bf (Z6 3 h.1)) λC=>
 Z0 (Z8 w I bf (Z4 I 1 C h.2)) λD=>
 Z0 (Z8 w I bf (Z2 .lss D (Q J 0))) λE=>
 Z0 (Zm w (.bool d) E) λj=>
 Z0 (Z8 j I bf (Z6 2 h.1)) λF=>
 Z0 (Z8 j I bf (Z4 I 1 F h.2)) λG=>
 Z0 (Z8 j I bf (Z2 .eql G (Q J 0))) λL=>
 Z0 (Z8 j I bf (i L)) λy=>
 Z0 (Z8 y d bf (Z6 3 h.1)) λM=>
 Z0 (Z8 y d bf (Z4 I 1 M h.2)) λN=>
 Z0 (Z8 y d bf (Z2 .neq N (Q J 0))) λP=>
 Z0 (Z8 j I bf (Zm y P (.bool I))) λR=>
 Z0 (Zm j (.bool d) R) λS=>
 Zh S
  (i ((.bool I),h.2))
  (HD h.1 H h.2)
theorem Zhk:HD W Y H =
 Z0 (Z6 4 W) λj=>
 Z0 (Z4 I 1 j H) λu=>
 Z0 (Z2 .geq u (Q J 0)) λh=>
 Z0 (Z8 h d bf (Z6 4 W)) λw=>
 Z0 (Z8 h d bf (Z4 I 1 w H)) λy=>
 Z0 (Z8 h d bf (Z2 .leq y (Q J 31))) λt37=>
 Z0 (Zm h t37 (.bool I)) λz=>
 i (z,H):=Z9 [3]
theorem Zjc:M7 [p0] H=ZdN p0 H:=Be 39 [3] func105
def Az:Z3:=a7 131 83 f131 15 Y [] H
def UD:KL:=Zc (λk h H=>a6 131 83 (a8 f131 15) k (Y3 (cfg.keep 131) (a8 f131 15) h) H) (Zd cfg 83 131 f131 Y)
theorem RZ:ZV 83 (UD Y):=Zv (C:=cfg) (kp:=cfg.keep 131) (a8 f131 15) (Zy 131 f131 Y)
def AB:Z3:=a6 131 83 (a8 f131 467) (Zc (λk h H=>ZT cfg (cfg.keep 131) 83 (a8 f131 116) k (Y3 (cfg.keep 131) (a8 f131 116) h) H) (Z7 2 (UD Y))) [(0,X),(1,W),(6,V),(11,U)] H
def Vd:KL:=Zc (λk h H=>a6 131 83 (a8 f131 467) k (Y3 (cfg.keep 131) (a8 f131 467) h) H) (Zc (λk h H=>ZT cfg (cfg.keep 131) 83 (a8 f131 116) k (Y3 (cfg.keep 131) (a8 f131 116) h) H) (Z7 2 (UD Y)))
theorem T0:ZV 83 (Vd Y):=Zv (C:=cfg) (kp:=cfg.keep 131) (a8 f131 467) (Ov (C:=cfg) (kp:=cfg.keep 131) (a8 f131 116) (Zo 2 (RZ Y)))
def AC:Z3:=a6 131 83 (a8 f131 14927) (Z7 3 (Vd Y)) [(0,X),(1,W),(7,O),(11,U)] H
def Rz:Z3:=a6 131 83 (a8 f131 7463) (Z7 3 (Vd Y)) [(0,X),(1,W),(6,V),(7,O),(11,U)] H
def RA:KL:=Zc (λk h H=>a6 131 83 (a8 f131 7463) k (Y3 (cfg.keep 131) (a8 f131 7463) h) H) (Z7 3 (Vd Y))
theorem eV:ZV 83 (RA Y):=Zv (C:=cfg) (kp:=cfg.keep 131) (a8 f131 7463) (Zo 3 (T0 Y))
def AD:Z3:=a6 131 83 (a8 f131 59697) (Zc (λk h H=>ZT cfg (cfg.keep 131) 83 (a8 f131 29848) k (Y3 (cfg.keep 131) (a8 f131 29848) h) H) (Z7 6 (RA Y))) [(0,X),(1,W),(6,V),(7,O),(11,U)] H
def Kz:Z3:=ZT cfg (cfg.keep 131) 83 (a8 f131 29848) (Z7 6 (RA Y)) [(0,X),(1,W),(6,V),(7,O),(11,U)] H
def Ry:Z3:=a6 131 83 (a8 f131 3731) (Z7 3 (Vd Y)) [(0,X),(1,W),(6,V),(7,O),(11,U)] H
def RB:KL:=Zc (λk h H=>a6 131 83 (a8 f131 3731) k (Y3 (cfg.keep 131) (a8 f131 3731) h) H) (Z7 3 (Vd Y))
theorem eW:ZV 83 (RB Y):=Zv (C:=cfg) (kp:=cfg.keep 131) (a8 f131 3731) (Zo 3 (T0 Y))
def AE:Z3:=a6 131 83 (a8 f131 29841) (Zc (λk h H=>ZT cfg (cfg.keep 131) 83 (a8 f131 14920) k (Y3 (cfg.keep 131) (a8 f131 14920) h) H) (Z7 4 (RB Y))) [(0,X),(1,W),(6,V),(7,O),(11,U)] H
def KA:Z3:=ZT cfg (cfg.keep 131) 83 (a8 f131 14920) (Z7 4 (RB Y)) [(0,X),(1,W),(6,V),(7,O),(11,U)] H
def AA:Z3:=a6 131 83 (a8 f131 233) (Zc (λk h H=>ZT cfg (cfg.keep 131) 83 (a8 f131 116) k (Y3 (cfg.keep 131) (a8 f131 116) h) H) (Z7 2 (UD Y))) [(0,X),(1,W),(6,V),(11,U)] H
def Ky:Z3:=ZT cfg (cfg.keep 131) 83 (a8 f131 116) (Z7 2 (UD Y)) [(0,X),(1,W),(6,V),(11,U)] H
def Rx:Z3:=a7 131 83 f131 7 Y [(0,X),(1,W),(6,V)] H
def Kx:KL:=Zc (λk h H=>a6 131 83 (a8 f131 7) k (Y3 (cfg.keep 131) (a8 f131 7) h) H) (Zd cfg 83 131 f131 Y)
theorem eX:ZV 83 (Kx Y):=Zv (C:=cfg) (kp:=cfg.keep 131) (a8 f131 7) (Zy 131 f131 Y)
def Sq:Z3:=a6 131 83 (a8 f131 425) (Zc (λk h H=>ZT cfg (cfg.keep 131) 83 (a8 f131 212) k (Y3 (cfg.keep 131) (a8 f131 212) h) H) (Z7 0 (Kx Y))) [(0,X),(1,W),(2,x2),(6,V),(9,x9)] H
def AF:KL:=Zc (λk h H=>a6 131 83 (a8 f131 425) k (Y3 (cfg.keep 131) (a8 f131 425) h) H) (Zc (λk h H=>ZT cfg (cfg.keep 131) 83 (a8 f131 212) k (Y3 (cfg.keep 131) (a8 f131 212) h) H) (Z7 0 (Kx Y)))
def Ss:Z3:=a6 131 83 (a8 f131 6791) (Z7 1 (AF Y)) [(0,X),(1,W),(2,x2),(6,V),(9,x9),(10,x10)] H
def Sr:Z3:=a6 131 83 (a8 f131 3395) (Z7 1 (AF Y)) [(0,X),(1,W),(2,x2),(6,V),(9,x9),(10,x10)] H
def KB:Z3:=ZT cfg (cfg.keep 131) 83 (a8 f131 212) (Z7 0 (Kx Y)) [(0,X),(1,W),(2,x2),(6,V),(9,x9)] H
def Iy:Z3:=
 Z0 (Z2 .geq p2 (Q J 0)) λh=>
 Z0 (Z8 h d bf (i p2)) λj=>
 Z0 (Z8 h d bf (Z2 .leq j (Q J 255))) λu=>
 Z0 (Zm h u (.bool I)) λw=>
 Zh w
  (KB p0 p1 p2 (Q J 0) (Q J 1) H H)
  (Rx p0 p1 (Q J 0) H H)
theorem pJ:Az Y H =
 i ((.tuple [(Q J 0),(Q J 0),(.bool I)]),H):=Z9 b8
theorem pL:AB X W V U Y H =
 Z0 (Z2 .add U (Q J 1)) λh=>
 Ky X W V h Y H:=Z9 b8
theorem pO:AC X W O U Y H =
 AB X W O U Y H:=Z9 b8
theorem pN:Rz X W V O U Y H =
 Z0 (Z2 .eql U W) λh=>
 Zh h
  (i ((.tuple [V,O,(.bool d)]),H))
  (AC X W O U Y H):=Z9 b8
theorem pP:AD X W V O U Y H =
 Z0 (Z2 .add O (Q J 1)) λh=>
 Kz X W V h U Y H:=Z9 b8
theorem Nd:Kz X W V O U Y H =
 Z0 (Zf .string X) λu=>
 Z0 (Z2 .lss O u) λh=>
 Z0 (Z8 h d bf (i X)) λw=>
 Z0 (Z8 h d bf (i O)) λt70=>
 Z0 (Z8 h d bf (Zp w t70)) λy=>
 Z0 (Z8 h d (bf,H) (Vz [y] H)) λj=>
 Z0 (Z8 h d bf (YU .not j.1)) λz=>
 Z0 (Zm h z (.bool I)) λA=>
 Zh A
  (AD X W V O U Y j.2)
  (Rz X W V O U Y j.2):=(ZC (C:=cfg) [3,7,9,10,12,13,15,16,17,18,20,21] (Zo 6 (eV Y)) _ _).trans dz
theorem pM:Ry X W V O U Y H =
 Kz X W V O U Y H:=Z9 b8
theorem pQ:AE X W V O U Y H =
 Z0 (Z2 .add O (Q J 1)) λh=>
 KA X W V h U Y H:=Z9 b8
theorem Nf:KA X W V O U Y H =
 Z0 (Zf .string X) λu=>
 Z0 (Z2 .lss O u) λh=>
 Z0 (Z8 h d bf (i X)) λw=>
 Z0 (Z8 h d bf (i O)) λy=>
 Z0 (Z8 h d bf (Zp w y)) λz=>
 Z0 (Z8 h d (bf,H) (Vz [z] H)) λj=>
 Z0 (Zm h j.1 (.bool I)) λA=>
 Zh A
  (AE X W V O U Y j.2)
  (Ry X W V O U Y j.2):=(ZC (C:=cfg) [3,7,9,10,12,13,15,16,17,18,20,21] (Zo 4 (eW Y)) _ _).trans dz
theorem pK:AA X W V U Y H =
 KA X W V V U Y H:=Z9 b8
theorem pR:Ky X W V U Y H =
 Z0 (Zf .string X) λh=>
 Z0 (Z2 .lss V h) λj=>
 Zh j
  (AA X W V U Y H)
  (Az Y H):=(ZC (C:=cfg) [3,7,9,10,12,13,15,16,17,18,20,21] (Zo 2 (RZ Y)) _ _).trans dz
theorem pI:Rx X W V Y H =
 Ky X W V (Q J 1) Y H:=Z9 b8
theorem kM:Sq X W x2 V x9 Y H =
 Z0 (Z2 .add x9 (Q J 1)) λh=>
 KB X W x2 V h Y H:=Z9 b8
theorem kO:Ss X W x2 V x9 x10 Y H =
 Z0 (Z2 .add x10 (Q J 1)) λh=>
 Z0 (Z2 .add V h) λj=>
 Sq X W x2 j x9 Y H:=Z9 b8
theorem kN:Sr X W x2 V x9 x10 Y H =
 Z0 (Z2 .eql x9 W) λh=>
 Zh h
  (Z0 (Z2 .add V x10) λj=>
  i ((.tuple [V,j,(.bool d)]),H))
  (Ss X W x2 V x9 x10 Y H):=Z9 b8
theorem pS:KB X W x2 V x9 Y H =
 Z0 (ZR X (i V) none none) λj=>
 Z0 (ZS .u8 x2) λu=>
 Z0 (G7 [j,u] H) λh=>
 Z0 (Z2 .lss h.1 (Q J 0)) λw=>
 Zh w
  (Z0 (Zf .string X) λy=>
  Z0 (Z2 .eql x9 W) λz=>
  i ((.tuple [V,y,z]),h.2))
  (Sr X W x2 V x9 h.1 Y h.2):=(ZC (C:=cfg) [3,7,9,10,12,13,15,16,17,18,20,21] (Zo 0 (eX Y)) _ _).trans dz
theorem Zag:Gp [p0,p1,p2] H=Iy p0 p1 p2 H:=Be 83 [3,7,9,10,12,13,15,16,17,18,20,21] func131
def Zkb:Z3:=
 Z0 (Z2 .quo p0 p1) λh=>
 Z0 (Z2 .rem h (Q J 2)) λj=>
 Z0 (Z2 .eql j (Q J 1)) λt9=>
 i (t9,H)
theorem Zma:Wi [p0,p1] H=Zkb p0 p1 H:=Be 10 [] func135
def dN:Z3:=a7 137 84 f137 511 Y [(0,X),(11,U),(12,x12)] H
def Jw:Z3:=a7 137 84 f137 255 Y [(0,X),(11,U),(12,x12)] H
def dM:Z3:=a7 137 84 f137 31 Y [(0,X),(4,x4),(7,O),(8,x8),(9,x9)] H
def lH:Z3:=
 Z0 (ZY p1 H) λE=>
 Z0 (Co [p0,p2] E.2) λh=>
 XN E.1 h.2 λz4 w=>
 Z0 (Z6 0 z4) λy=>
 Z0 (Z4 I 1 y w) λz=>
 Z0 (Sx [z,(Q J 1)] w) λj=>
 Z0 (Z6 1 z4) λA=>
 Z0 (Xy I 1 A) λB=>
 Z0 (Sx [B,(Q J 1)] j.2) λu=>
 Z0 (Zf (.slice 209) h.1) λC=>
 Z0 (Z2 .gtr j.1 C) λD=>
 Zh D
  (i ((.str []),u.2))
  (dM p0 z4 h.1 j.1 u.1 H u.2)
theorem Zdn:dN X U x12 Y H =
 Z0 (ZR X (i U) (i x12) none) λh=>
 i (h,H):=Z9 [5,12,14]
theorem Zdm:Jw X U x12 Y H =
 Z0 (Z2 .leq x12 U) λh=>
 Zh h
  (i ((.str []),H))
  (dN X U x12 Y H):=Z9 [5,12,14]
theorem Zdl:dM X x4 O x8 x9 Y H =
 Z0 (Z2 .sub x8 (Q J 1)) λG=>
 Z0 (Zr 2 O G) λL=>
 Z0 (Z4 d 2 L H) λM=>
 Z0 (i ((.ptr H.length 0),H++[.cells [(Q J 0),(Q J 0)]])) λA=>
 Z0 (Zg 2 A.1 M A.2) λF=>
 XN A.1 F.2 λC y=>
 Z0 (Z6 0 C) λN=>
 Z0 (Xy I 1 N) λP=>
 Z0 (Z2 .sub x9 (Q J 1)) λR=>
 Z0 (Z6 1 C) λS=>
 Z0 (Z4 I 1 S y) λt37=>
 Z0 (Z6 0 C) λT=>
 Z0 (Z4 I 1 T y) λZ=>
 Z0 (Z2 .sub t37 Z) λaa=>
 Z0 (M5 [R,aa] y) λh=>
 Z0 (Z2 .add P h.1) λB=>
 Z0 (Zf .string X) λab=>
 Z0 (Z6 2 x4) λac=>
 Z0 (Z4 I 1 ac h.2) λad=>
 Z0 (Z2 .gtr ad (Q J 0)) λw=>
 Z0 (Z8 w d bf (Z6 2 x4)) λae=>
 Z0 (Z8 w d bf (Z4 I 1 ae h.2)) λaf=>
 Z0 (Z8 w d bf (i O)) λag=>
 Z0 (Z8 w d bf (Zf (.slice 209) ag)) λah=>
 Z0 (Z8 w d bf (Z2 .leq af ah)) λai=>
 Z0 (Zm w ai (.bool I)) λaj=>
 Zh aj
  (Z0 (Z6 2 x4) λak=>
  Z0 (Z4 I 1 ak h.2) λal=>
  Z0 (Z2 .sub al (Q J 1)) λam=>
  Z0 (Zr 2 O am) λan=>
  Z0 (Z4 d 2 an h.2) λao=>
  Z0 (i ((.ptr h.2.length 0),h.2++[.cells [(Q J 0),(Q J 0)]])) λz=>
  Z0 (Zg 2 z.1 ao z.2) λj=>
  Z0 (Z6 1 z.1) λap=>
  Z0 (Z4 I 1 ap j.2) λaq=>
  Z0 (Z6 3 x4) λar=>
  Z0 (Z4 I 1 ar j.2) λau=>
  Z0 (Z2 .gtr au (Q J 0)) λaw=>
  Zh aw
   (XN z.1 j.2 λD u=>
   Z0 (Z6 0 D) λax=>
   Z0 (Xy I 1 ax) λay=>
   Z0 (Z6 3 x4) λaz=>
   Z0 (Z4 I 1 az u) λba=>
   Z0 (Z6 1 D) λt70=>
   Z0 (Z4 I 1 t70 u) λbb=>
   Z0 (Z6 0 D) λt72=>
   Z0 (Z4 I 1 t72 u) λbc=>
   Z0 (Z2 .sub bb bc) λbd=>
   Z0 (M5 [ba,bd] u) λE=>
   Z0 (Z2 .add ay E.1) λbe=>
   Jw X B be Y E.2)
   (Jw X B aq Y j.2))
  (Jw X B ab Y h.2):=Z9 [5,12,14]
theorem ZeT:FA [p0,p1,p2] H=lH p0 p1 p2 H:=Be 84 [5,12,14] func137
def Ix:Z3:=
 Z0 (Z2 .eql p0 (.int .u8 32)) λt4=>
 Z0 (Z8 t4 I bf (i p0)) λh=>
 Z0 (Z8 t4 I bf (Z2 .eql h (.int .u8 9))) λj=>
 Z0 (Zm t4 (.bool d) j) λu=>
 i (u,H)
theorem Zaf:Vz [p0] H=Ix p0 H:=Be 9 [] func162
def PG:Z3:=
 Z0 (Un [p0,p1] H) λh=>
 i (h.1,h.2)
theorem ON:G7 [p0,p1] H=PG p0 p1 H:=Be 8 [] func165
def LM:Z3:=a7 173 78 f173 127 Y [(5,x5)] H
def mI:Z3:=a7 173 78 f173 63 Y [(0,X),(5,x5),(6,V)] H
def FS:KL:=Zc (λk h H=>a6 173 78 (a8 f173 63) k (Y3 (cfg.keep 173) (a8 f173 63) h) H) (Zd cfg 78 173 f173 Y)
theorem Zb0:ZV 78 (FS Y):=Zv (C:=cfg) (kp:=cfg.keep 173) (a8 f173 63) (Zy 173 f173 Y)
def FR:Z3:=a6 173 78 (a8 f173 2003) (Zc (λk h H=>ZT cfg (cfg.keep 173) 78 (a8 f173 500) k (Y3 (cfg.keep 173) (a8 f173 500) h) H) (Z7 2 (FS Y))) [(0,X),(5,x5),(6,V),(8,x8)] H
def mJ:Z3:=a6 173 78 (a8 f173 1001) (Zc (λk h H=>ZT cfg (cfg.keep 173) 78 (a8 f173 500) k (Y3 (cfg.keep 173) (a8 f173 500) h) H) (Z7 2 (FS Y))) [(0,X),(5,x5),(6,V),(8,x8)] H
def FU:Z3:=ZT cfg (cfg.keep 173) 78 (a8 f173 500) (Z7 2 (FS Y)) [(0,X),(5,x5),(6,V),(8,x8)] H
def LK:Z3:=a7 173 78 f173 31 Y [(0,X),(5,x5),(6,V)] H
def LO:KL:=Zc (λk h H=>a6 173 78 (a8 f173 31) k (Y3 (cfg.keep 173) (a8 f173 31) h) H) (Zd cfg 78 173 f173 Y)
theorem Zb1:ZV 78 (LO Y):=Zv (C:=cfg) (kp:=cfg.keep 173) (a8 f173 31) (Zy 173 f173 Y)
def mK:Z3:=a6 173 78 (a8 f173 245) (LO Y) [(0,X),(5,x5),(6,V)] H
def FT:KL:=Zc (λk h H=>a6 173 78 (a8 f173 245) k (Y3 (cfg.keep 173) (a8 f173 245) h) H) (LO Y)
theorem Zb2:ZV 78 (FT Y):=Zv (C:=cfg) (kp:=cfg.keep 173) (a8 f173 245) (Zb1 Y)
def LN:Z3:=a6 173 78 (a8 f173 7827) (Zc (λk h H=>ZT cfg (cfg.keep 173) 78 (a8 f173 1956) k (Y3 (cfg.keep 173) (a8 f173 1956) h) H) (Z7 0 (FT Y))) [(0,X),(1,W),(5,x5),(6,V),(7,O)] H
def mL:Z3:=a6 173 78 (a8 f173 3913) (Zc (λk h H=>ZT cfg (cfg.keep 173) 78 (a8 f173 1956) k (Y3 (cfg.keep 173) (a8 f173 1956) h) H) (Z7 0 (FT Y))) [(0,X),(1,W),(5,x5),(6,V),(7,O)] H
def FV:Z3:=ZT cfg (cfg.keep 173) 78 (a8 f173 1956) (Z7 0 (FT Y)) [(0,X),(1,W),(5,x5),(6,V),(7,O)] H
def Za6:Z3:=
 Z0 (Z2 .geq p1 (Q J 0)) λh=>
 Z0 (Z8 h d bf (i p1)) λj=>
 Z0 (Z8 h d bf (Z2 .leq j (Q J 255))) λu=>
 Z0 (Zm h u (.bool I)) λw=>
 Zh w
  (FV p0 p1 .nils (Q J 0) (Q J 0) H H)
  (LK p0 .nils (Q J 0) H H)
theorem Hx:LM x5 Y H =
 i (x5,H):=Z9 b9
theorem Hw:mI X x5 V Y H =
 Z0 (Zf .string X) λj=>
 Z0 (Z2 .gtr j (Q J 0)) λu=>
 Zh u
  (Z0 (Zf .string X) λw=>
  Z0 ((Yb [(0,1,V),(1,1,w)] [(Q J 0),(Q J 0)]).map .agg) λy=>
  Z0 ((ZB 2 [(0,y)] [(.agg [(Q J 0),(Q J 0)])]).map (.vs 2 .clip)) λz=>
  Z0 (Ya 2 16 x5 z H) λh=>
  LM h.1 Y h.2)
  (LM x5 Y H):=Z9 b9
theorem Hy:FR X x5 V x8 Y H =
 Z0 (Z2 .add x8 (Q J 1)) λh=>
 FU X x5 V h Y H:=Z9 b9
theorem Zfy:mJ X x5 V x8 Y H =
 Z0 (Zp X x8) λw=>
 Z0 (QF [w] H) λh=>
 Z0 (Z8 h.1 d bf (i X)) λy=>
 Z0 (Z8 h.1 d bf (i x8)) λz=>
 Z0 (Z8 h.1 d bf (Z2 .sub z (Q J 1))) λA=>
 Z0 (Z8 h.1 d bf (Zp y A)) λB=>
 Z0 (Z8 h.1 d (bf,h.2) (QF [B] h.2)) λj=>
 Z0 (Z8 h.1 d bf (YU .not j.1)) λC=>
 Z0 (Zm h.1 C (.bool I)) λD=>
 Zh D
  (Z0 ((Yb [(0,1,V),(1,1,x8)] [(Q J 0),(Q J 0)]).map .agg) λE=>
  Z0 ((ZB 2 [(0,E)] [(.agg [(Q J 0),(Q J 0)])]).map (.vs 2 .clip)) λF=>
  Z0 (Ya 2 16 x5 F j.2) λu=>
  FR X u.1 x8 x8 Y u.2)
  (FR X x5 V x8 Y j.2):=Z9 b9
theorem Rh:FU X x5 V x8 Y H =
 Z0 (Zf .string X) λh=>
 Z0 (Z2 .lss x8 h) λj=>
 Zh j
  (mJ X x5 V x8 Y H)
  (mI X x5 V Y H):=(ZC (C:=cfg) [6,7,10,11,13,14,17,19] (Zo 2 (Zb0 Y)) _ _).trans dz
theorem Zfx:LK X x5 V Y H =
 FU X x5 V (Q J 1) Y H:=Z9 b9
theorem Zfz:mK X x5 V Y H =
 Z0 (Zf .string X) λj=>
 Z0 ((Yb [(0,1,V),(1,1,j)] [(Q J 0),(Q J 0)]).map .agg) λu=>
 Z0 ((ZB 2 [(0,u)] [(.agg [(Q J 0),(Q J 0)])]).map (.vs 2 .clip)) λw=>
 Z0 (Ya 2 16 x5 w H) λh=>
 i (h.1,h.2):=Z9 b9
theorem Hz:LN X W x5 V O Y H =
 Z0 (Z2 .add O (Q J 1)) λh=>
 FV X W x5 V h Y H:=Z9 b9
theorem ZfA:mL X W x5 V O Y H =
 Z0 (Zp X O) λj=>
 Z0 (ZS .i64 j) λu=>
 Z0 (Z2 .eql u W) λw=>
 Zh w
  (Z0 ((Yb [(0,1,V),(1,1,O)] [(Q J 0),(Q J 0)]).map .agg) λy=>
  Z0 ((ZB 2 [(0,y)] [(.agg [(Q J 0),(Q J 0)])]).map (.vs 2 .clip)) λz=>
  Z0 (Ya 2 16 x5 z H) λh=>
  Z0 (Z2 .add O (Q J 1)) λA=>
  LN X W h.1 A O Y h.2)
  (LN X W x5 V O Y H):=Z9 b9
theorem HA:FV X W x5 V O Y H =
 Z0 (Zf .string X) λh=>
 Z0 (Z2 .lss O h) λj=>
 Zh j
  (mL X W x5 V O Y H)
  (mK X x5 V Y H):=(ZC (C:=cfg) [6,7,10,11,13,14,17,19] (Zo 0 (Zb2 Y)) _ _).trans dz
theorem Zgt:Co [p0,p1] H=Za6 p0 p1 H:=Be 78 [6,7,10,11,13,14,17,19] func173
def Zed:Z3:=a7 174 10 f174 7 Y [(1,W)] H
def Zgu:Z3:=
 Z0 (Z2 .gtr p0 p1) λh=>
 Zh h
  (i (p0,H))
  (Zed p1 H H)
theorem Zjw:Zed W Y H =
 i (W,H):=Z9 [3]
theorem Zld:Sx [p0,p1] H=Zgu p0 p1 H:=Be 10 [3] func174
def Zb4:Z3:=a7 175 10 f175 7 Y [(1,W)] H
def ZdL:Z3:=
 Z0 (Z2 .lss p0 p1) λh=>
 Zh h
  (i (p0,H))
  (Zb4 p1 H H)
theorem Zhh:Zb4 W Y H =
 i (W,H):=Z9 [3]
theorem Zja:M5 [p0,p1] H=ZdL p0 p1 H:=Be 10 [3] func175
def Ur:Z3:=
 Z0 (iL .indexByte [p0,p1] H) λh=>
 i (h.1,h.2)
theorem By:Un [p0,p1] H=Ur p0 p1 H:=Be 8 [] func195
def ZdK:Z3:=
 Z0 (Z2 .eql p0 (.int .u8 32)) λt4=>
 Z0 (Z8 t4 I bf (i p0)) λh=>
 Z0 (Z8 t4 I bf (Z2 .eql h (.int .u8 9))) λj=>
 Z0 (Zm t4 (.bool d) j) λu=>
 i (u,H)
theorem Zj9:QF [p0] H=ZdK p0 H:=Be 9 [] func199
theorem ZfH (a b args:du)(H:Hp):YJ cfg (Za cfg) (.fn (.func 65) a b) args H=Ze Cp (a++args++b) H:=dz
theorem ZfI (a b args:du)(H:Hp):YJ cfg (Za cfg) (.fn (.func 68) a b) args H=Ze Cq (a++args++b) H:=dz
theorem Zbe (a b args:du)(H:Hp):YJ cfg (Za cfg) (.fn (.func 119) a b) args H=Ze Q9 (a++args++b) H:=dz
theorem Zao (a b args:du)(H:Hp):XS cfg (Za cfg) (.fn (.func 119) a b) args H=Ze Q9 (a++args++b) H:=dz
theorem gU (a b args:du)(H:Hp):YJ cfg (Za cfg) (.fn (.func 121) a b) args H=JT (a++args++b) H:=dz
theorem Zdq (a b args:du)(H:Hp):YJ cfg (Za cfg) (.fn (.func 125) a b) args H=Dp (a++args++b) H:=dz
theorem Zd0 (a b args:du)(H:Hp):XS cfg (Za cfg) (.fn (.func 126) a b) args H=Ze Dq (a++args++b) H:=dz
theorem Zjl (a b args:du)(H:Hp):XS cfg (Za cfg) (.fn (.func 128) a b) args H=Ze Ny (a++args++b) H:=dz
theorem Zd1 (a b args:du)(H:Hp):XS cfg (Za cfg) (.fn (.func 129) a b) args H=Ze Dr (a++args++b) H:=dz
theorem fA:∀ f∈userList,HI Tryz.prog f:=
 Z5 call3 (
 Z5 call4 (
 Z5 call5 (
 Z5 call6 (
 Z5 call7 (
 Z5 call8 (
 Z5 call9 (
 Z5 call10 (
 Z5 call11 (
 Z5 call12 (
 Z5 call13 (
 Z5 call14 (
 Z5 call15 (
 Z5 call16 (
 Z5 call17 (
 Z5 call18 (
 Z5 call19 (
 Z5 call20 (
 Z5 call21 (
 Z5 call22 (
 Z5 call23 (
 Z5 call24 (
 Z5 call25 (
 Z5 call26 (
 Z5 call27 (
 Z5 call28 (
 Z5 call29 (
 Z5 call30 (
 Z5 call31 (
 Z5 call32 (
 Z5 call33 (
 Z5 call34 (
 Z5 call35 (
 Z5 call36 (
 Z5 call37 (
 Z5 call38 (
 Z5 call39 (
 Z5 call40 (
 Z5 call41 (
 Z5 call42 (
 Z5 call43 (
 Z5 call44 (
 Z5 call45 (
 Z5 call46 (
 Z5 call47 (
 Z5 call48 (
 Z5 call49 (
 Z5 call50 (
 Z5 call51 (
 Z5 call52 (
 Z5 call53 (
 Z5 call54 (
 Z5 call55 (
 Z5 call56 (
 Z5 call57 (
 Z5 call58 (
 Z5 call59 (
 Z5 call60 (
 Z5 call61 (
 Z5 call62 (
 Z5 call63 (
 Z5 call64 (
 Z5 call65 (
 Z5 call66 (
 Z5 call67 (
 Z5 call68 (
 Z5 call69 (
 Z5 call70 (
 Z5 call71 (
 Z5 call72 (
 Z5 call73 (
 Z5 call74 (
 Z5 call75 (
 Z5 call76 (
 Z5 call77 (
 Z5 call78 (
 Z5 call79 (
 Z5 call80 (
 Z5 call81 (
 Z5 call82 (
 Z5 call83 (
 Z5 call84 (
 Z5 call85 (
 Z5 call86 (
 Z5 call87 (
 Z5 call88 (
 Z5 call89 (
 Z5 call90 (
 Z5 call91 (
 Z5 call92 (
 Z5 call93 (
 Z5 call94 (
 Z5 call95 (
 Z5 call96 (
 Z5 call97 (
 Z5 call98 (
 Z5 call99 (
 Z5 call100 (
 Z5 call101 (
 Z5 call102 (
 Z5 call103 (
 Z5 call104 (
 Z5 call105 (
 Z5 call106 (
 Z5 call107 (
 Z5 call108 (
 Z5 call109 (
 Z5 call110 (
 Z5 call111 (
 Z5 call112 (
 Z5 call113 (
 Z5 call114 (
 Z5 call115 (
 Z5 call116 (
 Z5 call117 (
 Z5 call118 (
 Z5 call119 (
 Z5 call120 (
 Z5 call121 (
 Z5 call122 (
 Z5 call123 (
 Z5 call124 (
 Z5 call125 (
 Z5 call126 (
 Z5 call127 (
 Z5 call128 (
 Z5 call129 (
 Z5 call130 (
 Z5 call131 (
 Z5 call132 (
 Z5 call133 (
 Z5 call134 (
 Z5 call135 (
 Z5 call136 (
 Z5 call137 (
 Z5 call138 (
 Z5 call139 (
 Z5 call140 (
 Z5 call141 (
 Z5 call142 (
 Z5 call143 (
 Z5 call144 (
 Z5 call145 (
 Z5 call146 (
 Z5 call147 (
 Z5 call148 (
 Z5 call149 (
 Z5 call150 (
 Z5 call151 (
 Z5 call153 (
 Z5 call154 (
 Z5 call155 (
 Z5 call156 (
 Z5 call157 (
 Z5 call158 (
 Z5 call159 (
 Z5 call160 (
 Z5 call161 (
 Z5 call162 (
 Z5 call163 (
 Z5 call164 (
 Z5 call165 (
 Z5 call166 (
 Z5 call167 (
 Z5 call168 (
 Z5 call169 (
 Z5 call170 (
 Z5 call171 (
 Z5 call172 (
 Z5 call173 (
 Z5 call174 (
 Z5 call175 (
 Z5 call176 (
 Z5 call177 (
 Z5 call178 (
 Z5 call179 (
 Z5 call180 (
 Z5 call181 (
 Z5 call182 (
 Z5 call183 (
 Z5 call184 (
 Z5 call185 (
 Z5 call186 (
 Z5 call187 (
 Z5 call188 (
 Z5 call189 (
 Z5 call191 (
 Z5 call192 (
 Z5 call193 (
 Z5 call194 (
 Z5 call195 (
 Z5 call196 (
 Z5 call197 (
 Z5 call198 (
 Z5 call199 (
 Z5 call200 (
 Z5 call201 (
 Z5 call202 (
 Z5 call203 (
 Z5 call204 (
 Z5 call205 (
 Z5 call206 (
 Z5 call207 (
 Z5 call208 (
 Z5 call210 (
 Z5 call211 (
 Z5 call212 (
 Z5 call213 (
 Z5 call214 (
 Z5 call215 (
 Z5 call216 (
 Z5 call217 (
 Z5 call218 (
 Z5 call219 (kY))))))))))))))))))))))))))))))))))))))))))))))))))))))))))))))))))))))))))))))))))))))))))))))))))))))))))))))))))))))))))))))))))))))))))))))))))))))))))))))))))))))))))))))))))))))))))))))))))))))))))))))))))))))
theorem ZhR:∀ t∈eqList,Tryz.prog.stoodInHeld t=I/\Tryz.prog.eqGuardType Tryz.prog.depth t=I:=by
 intro t h;simp only[eqList,zB,zA,or_false]at h;rcases h with rfl|rfl
 ·exact⟨Tryz.stoodInHeld63,Tryz.eqGuardType63⟩
 ·exact⟨Tryz.stoodInHeld96,Tryz.eqGuardType96⟩
theorem L9 (args:Array Value)(w:World):(callFunc 152 args).run Tryz.prog w=(do pure (.value (<-Jz .same args)):Sem Next).run Tryz.prog w:=dz
theorem La (args:Array Value)(w:World):(callFunc 190 args).run Tryz.prog w=(do pure (.value (<-Jz .cmp args)):Sem Next).run Tryz.prog w:=dz
theorem Lb (args:Array Value)(w:World):(callFunc 209 args).run Tryz.prog w=(do pure (.value (<-Jz .indexByte args)):Sem Next).run Tryz.prog w:=dz
theorem Zbz:∀ f e,cfg.ext f=i e->∀ (args:Array Value) (w:World),(callFunc f args).run Tryz.prog w=(do pure (.value (<-Jz e args)):Sem Next).run Tryz.prog w:=by
 intro f e h;have j:=BQ (l:=extList) h;simp only[extList,zB,zD,zA,or_false]at j;rcases j with ⟨rfl,rfl⟩|⟨rfl,rfl⟩|⟨rfl,rfl⟩
 ·exact L9
 ·exact La
 ·exact Lb
theorem Zcn:∀ f g,cfg.sum f=i g->cfg.user f=d/\Zcw cfg f g:=by
 intro f g h;have j:=BQ (l:=sumList) h;simp only[sumList,zB,zD,zA,or_false]at j;rcases j with ⟨rfl,rfl⟩|⟨rfl,rfl⟩
 ·exact⟨by kernel_rfl,ZwR (C:=cfg) rfl (λ_=>rfl)⟩
 ·exact⟨by kernel_rfl,ZxP (C:=cfg) rfl (λ_=>rfl)⟩
theorem Zbt:∀ f g,cfg.eff f=i g->cfg.user f=d/\Bw cfg f g:=by
 intro f g h;have j:=BQ (l:=effList) h;simp only[effList,zB,zD,zA,or_false]at j;rcases j with ⟨rfl,rfl⟩|⟨rfl,rfl⟩|⟨rfl,rfl⟩|⟨rfl,rfl⟩|⟨rfl,rfl⟩|⟨rfl,rfl⟩
 ·exact⟨by kernel_rfl,Zub (C:=cfg) rfl (λ_=>rfl)⟩
 ·exact⟨by kernel_rfl,Zr3 (C:=cfg) rfl (λ_=>rfl)⟩
 ·exact⟨by kernel_rfl,ZxL (C:=cfg) rfl (λ_=>rfl)⟩
 ·exact⟨by kernel_rfl,Zsc (C:=cfg) rfl (λ_=>rfl)⟩
 ·exact⟨by kernel_rfl,ZxB (C:=cfg) rfl (λ_=>rfl)⟩
 ·exact⟨by kernel_rfl,ZvV (C:=cfg) rfl (λ_=>rfl)⟩
theorem cfg_ok:VG cfg:=
 ⟨λt h=>ZhR t (zC.1 h),λf h=>fA f (zC.1 h),by kernel_rfl,Zbz,Zcn,Zbt⟩
end
end Go.Am
