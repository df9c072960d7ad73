/-
  The functions of the translation over the abstract machine: written by program (wip/gen.py).
-/
import Derived.Test.YtehanadfidoodaaGreatDoorProg
import Derived.Test.YtehanadfidoodaaGreatDoorNkPgx
namespace Go.Am
open Go.Proofs
set_option maxRecDepth 100000
section
variable (p0 p1 p2 x0 x1 x2 x3 x4 x5 x6 x7 x8 x9 x10 x11 x12 x33 x34 x35 x36:AV)(H0 H:Hp)
def Ztk:List (Nat×List (Nat×List Nat)):=[(10,[(3,[2,3,4]),(1000004,[3,4])]),
 (20,[(4,[2,7,8]),(5,[2,7,8]),(6,[2,7,8]),(7,[7]),(8,[2,3,4,7]),(9,[2,3,4,7,9]),(11,[2,3,4,7,9,10,11]),(12,[2,3,4,7,9,10,11]),(13,[2,3,4,7,9,10,11]),(15,[2,3,4,7,9,10]),(17,[2,3,4,7,9,10])]),
 (28,[(3,[0,1,2]),(5,[0,1,2]),(6,[0,1,2,18,19,20]),(7,[0,1,2,18,19,20,21]),(11,[0,1,2,18,19,20]),(12,[0,1,2])]),
 (30,[(3,[0,3,5,6]),(6,[0,3,5,6,10]),(9,[0,10]),(12,[10])]),
 (31,[(4,[0,1,2,3,4]),(5,[0,1,2,3,4]),(6,[0,1,2,3,4]),(9,[0,1,2,3,4,5,6]),(11,[0,1,2,3,4,5,6]),(14,[0,1,2,3])]),
 (32,[(3,[0,1])]),
 (33,[(4,[5,6,7])]),
 (34,[(3,[2,3,4]),(6,[7]),(1000003,[3,4])]),
 (36,[(3,[0]),(11,[0]),(13,[0])]),
 (38,[(1000003,[1,2])]),
 (39,[(4,[1,5,12,13]),(5,[1,5,12,13,14]),(8,[1,5,6,12,13]),(10,[1,5,12,13]),(11,[5])]),
 (41,[(2,[0,3]),(3,[0,3]),(4,[0,3]),(5,[0,3,4]),(6,[0,3,4]),(7,[0,3,4]),(9,[0,3]),(11,[0])]),
 (42,[(4,[2,3,4,5,11,12,13,14]),(5,[2,3,4,5,11,12,13,14]),(6,[2,3,4,5,11,13,14]),(12,[2,3,4,5,11,12,13,14,15]),(14,[2,3,4,5,11,12,13,14,15]),(15,[11,12,13])]),
 (43,[(3,[0,1,6,7]),(4,[0,1,6,7]),(5,[0,1,6,7]),(8,[0,1,6,7,8,9]),(11,[0,1,6,7,8]),(12,[6])]),
 (44,[(1000002,[4])]),
 (45,[(3,[0,1,5,6]),(4,[0,1,5,6]),(5,[0,1,5,6]),(6,[5])]),
 (46,[(3,[0,3,4]),(4,[0,3,4]),(5,[0,3,4]),(6,[3])]),
 (47,[(3,[0,1]),(4,[0,1,5]),(5,[0,1,5]),(6,[0,1,5]),(8,[])]),
 (53,[(3,[0]),(5,[0,3,10,11,12]),(6,[0,3,10,11,12,13]),(9,[0,3,10,11,12]),(10,[3])]),
 (59,[(3,[0]),(6,[0,5]),(7,[0,5])]),
 (64,[(3,[1]),(5,[1]),(6,[33,34,35]),(7,[33,34,35,36]),(10,[33,34,35]),(11,[])]),
 (67,[(5,[2,3,4,5]),(8,[9])]),
 (70,[(3,[1,5,8,9,10]),(4,[1,5,8,9,10,11]),(7,[1,5,8,9,10]),(8,[5])]),
 (72,[(4,[2,3,4,5]),(5,[2,3,4,5,26,27,28]),(6,[2,3,4,5,26,27,28,29]),(10,[2,3,4,5,10,11,26,27,28]),(13,[2,3,4,5,26,27,28]),(14,[]),(1000010,[4,5,10])]),
 (73,[(3,[1]),(5,[1]),(6,[1,3]),(7,[1,3]),(8,[1,3]),(10,[])]),
 (74,[(5,[2,3,4,5]),(8,[9])]),
 (75,[(3,[2,3,4,7,8]),(4,[2,3,4,7,8]),(5,[2,3,4,7,8]),(7,[7])]),
 (76,[(3,[0])]),
 (77,[(2,[0,7,8]),(3,[0,7,8,9]),(8,[0,7,8]),(9,[0])]),
 (78,[(4,[0,1,5]),(6,[5,6,21,22,23]),(7,[5,6,21,22,23,24]),(11,[5,6,21,22,23]),(12,[5])]),
 (80,[(3,[0]),(5,[0]),(9,[0,4])]),
 (81,[(4,[0,1,2]),(6,[0,1,2]),(9,[0,1,8]),(11,[0,1,8])]),
 (82,[(4,[0,1]),(7,[0,1])]),
 (83,[(3,[0,1]),(6,[1,6,7,8]),(7,[1,6,7,8]),(12,[6,7,8])]),
 (86,[(4,[0,1,2]),(7,[2,10]),(9,[2,10]),(12,[2,12,13])]),
 (102,[(5,[1,5,6,7,20,21,22]),(6,[1,5,6,7,20,21,22,23]),(10,[1,5,6,7,8,10,11,20,21,22]),(12,[1,5,6,7,20,21,22]),(13,[1,5,7]),(15,[1,5]),(18,[13])]),
 (103,[(3,[0,3,10,11,12]),(4,[0,3,10,11,12,13]),(7,[0,3,10,11,12]),(8,[3])]),
 (105,[(3,[1,2])]),
 (106,[(5,[1,2,8,9,24,25]),(6,[1,2,8,9,24,25,26]),(9,[1,2,8,9,10,24,25]),(11,[1,2,8,9,24,25]),(12,[1,2,8,9]),(14,[1,2,8,9]),(16,[1,2]),(1000002,[3])]),
 (107,[(4,[4,5,6,7,9]),(8,[4,5,6,7,9]),(1000011,[4])]),
 (108,[(4,[0,2,4,7,8]),(12,[0,7,10]),(14,[0,7,10])]),
 (109,[(3,[1])]),
 (110,[(3,[1,2])]),
 (111,[(4,[2,3,4,5]),(5,[2,3,4,5,9]),(6,[2,3,4,5,9]),(7,[2,3,4,5,9]),(10,[2,3,4,5,9,10]),(13,[]),(1000010,[4,5,10])]),
 (112,[(5,[1,2])]),
 (116,[(3,[0,1]),(5,[0,1]),(8,[6])]),
 (119,[(11,[0,1]),(13,[0,1])]),
 (120,[(7,[])]),
 (121,[(3,[4,9,10,11]),(4,[4,9,10,11,12]),(8,[4,7,9,10,11]),(9,[4,9,10,11]),(10,[4])]),
 (122,[(4,[0,2,7]),(6,[0,2,7])]),
 (123,[(4,[6])]),
 (124,[(4,[2,3,10]),(6,[2,3,10])]),
 (125,[(3,[0,1]),(6,[1,7]),(9,[1,7,8]),(11,[1,7,8]),(13,[1,7,8])]),
 (127,[(3,[0]),(4,[0,3]),(5,[0,3]),(6,[0,3]),(9,[])]),
 (147,[(3,[1,2])]),
 (149,[(3,[1,2,3,6,16,17,18]),(4,[1,2,3,6,16,17,18,19]),(6,[1,2,3,6,16,17,18]),(7,[1,2,3,6]),(8,[1,2,3,6,9]),(9,[1,2,3,6,9]),(14,[1,2,3,6,9,10,11]),(15,[1,2,3,6,9,10])]),
 (152,[(2,[0,4]),(3,[0,4]),(4,[0,4]),(7,[0,4,5]),(14,[5,6,7,8,9]),(16,[5,7,8,9]),(19,[9,11])]),
 (153,[(5,[])]),
 (157,[(3,[0,3,7,8]),(4,[0,3,7,8,9]),(8,[0,3,7,8]),(9,[3])]),
 (160,[(3,[0,1,2,6,9]),(4,[0,1,2,6,9]),(7,[0,1,2,6,9,10]),(9,[0,1,2,6,9,10]),(10,[0,1,6]),(11,[0,1,6,11]),(12,[0,1,6,11]),(13,[0,1,6,11]),(14,[0,1,6,7,11]),(15,[0,1,6,7,11]),(16,[0,1,6,7,11]),(17,[0,1,6,7,11]),(18,[0,1,6,7,11]),(20,[0,1,7,11]),(21,[])]),
 (161,[(5,[3,9]),(7,[9])]),
 (162,[(5,[0,4,7,8,9]),(12,[0,11,12]),(14,[0,11,12]),(1000002,[4]),(1000006,[10]),(1000011,[13])]),
 (163,[(3,[1,2])]),
 (164,[(2,[0,1,5]),(3,[0,1,5]),(4,[0,1,5]),(6,[0,1,5]),(8,[0,1]),(10,[0,1]),(12,[])]),
 (165,[(3,[1,2,5,6]),(4,[1,2,5,6]),(10,[5])]),
 (166,[(3,[0,1,5,6,7]),(4,[0,1,5,6,7]),(5,[0,1,5,6,7]),(6,[1,5,6]),(7,[1,5,6,8]),(8,[1,5,6,8]),(9,[1,5,6,8]),(10,[5,6])]),
 (167,[(6,[0])]),
 (169,[(2,[0,7,8]),(3,[0,7,8,9]),(8,[0,7,8]),(9,[0])]),
 (170,[(3,[0])]),
 (185,[(2,[0,1,7,8]),(3,[0,1,7,8,9]),(6,[0,1,7,8]),(7,[])]),
 (186,[(3,[1]),(5,[1]),(6,[1,27,28,29]),(7,[1,27,28,29,30]),(10,[1,27,28,29]),(11,[1]),(14,[1])]),
 (187,[(3,[0,1,5,6]),(4,[0,1,5,6,7]),(6,[0,1,5,6]),(7,[0,1])]),
 (189,[(2,[0,3]),(3,[0,3]),(4,[3])]),
 (190,[(3,[0,1,5,8,9]),(4,[0,1,5,8,9,10]),(8,[0,1,5,8,9]),(9,[1,5])]),
 (197,[(3,[0,5,10,11]),(4,[0,5,10,11,12]),(6,[0,5,10,11]),(7,[5])]),
 (199,[(5,[5,7]),(7,[])]),
 (200,[(1,[1,2,3]),(2,[1,2,3]),(3,[1,2,3]),(5,[1,2,3]),(7,[1])]),
 (201,[(5,[0,1,5,6,7]),(6,[0,1,5,6,7]),(7,[0,1,5,6,7]),(10,[0,5,6]),(11,[0,5,6]),(12,[0,5,6,8]),(13,[0,5,6,8]),(14,[0,5,6,8]),(17,[0,5,6]),(19,[5])]),
 (202,[(3,[1])]),
 (203,[(3,[1])]),
 (204,[(3,[1]),(5,[1]),(6,[1,3]),(7,[1,3]),(8,[1,3]),(10,[1]),(12,[1]),(15,[1])]),
 (205,[(2,[1,2,3,7]),(3,[1,2,3,7]),(4,[1,2,3,7]),(6,[])]),
 (208,[(3,[0,3,6,7]),(4,[0,3,6,7,8]),(8,[0,3,6,7]),(9,[3])]),
 (221,[(2,[0,7,8]),(3,[0,7,8,9]),(8,[0,7,8]),(9,[0])]),
 (222,[(3,[0]),(5,[3,10,11,12]),(6,[3,10,11,12,13]),(9,[3,5,10,11,12]),(11,[3,5,10,11,12]),(12,[3,10,11,12]),(13,[])]),
 (223,[(3,[0]),(5,[3,10,11,12]),(6,[3,10,11,12,13]),(9,[3,5,10,11,12]),(11,[3,5,10,11,12]),(12,[3,10,11,12]),(13,[])]),
 (224,[(3,[0,1,2,7,11,12]),(4,[0,1,2,7,11,12,13]),(8,[0,1,2,7,11,12]),(9,[7])]),
 (226,[(3,[0,3,5]),(4,[0,3,5,6]),(8,[0,3,5]),(9,[3])]),
 (231,[(2,[0,4]),(3,[0,4]),(4,[0,4]),(7,[0,4,5]),(14,[0,4,5,6,7,8]),(16,[0,4,5,6,7,8]),(18,[0,4,5,6,7,8]),(21,[5,7,10]),(23,[7,10])]),
 (233,[(3,[0,3,4]),(4,[0,3,4]),(5,[0,3,4]),(8,[3])]),
 (236,[(3,[0]),(4,[0,3]),(5,[0,3]),(6,[0,3]),(8,[0,3]),(9,[0,3,4]),(10,[0,3,4]),(11,[0,3,4]),(13,[])]),
 (237,[(3,[0]),(4,[0,3]),(5,[0,3]),(6,[0,3]),(8,[0,3]),(9,[0,3,4]),(10,[0,3,4]),(11,[0,3,4]),(13,[])]),
 (250,[(1,[0,1]),(2,[0,1]),(3,[1])]),
 (251,[(3,[0,1,6,7]),(4,[0,1,6,7]),(5,[0,1,6,7]),(8,[1,6]),(9,[1,6,8]),(10,[1,6,8]),(11,[1,6,8]),(14,[6])]),
 (252,[(3,[0,1,5,6]),(4,[0,1,5,6]),(5,[0,1,5,6]),(6,[5])])]
def userList:List Nat:=[3,4,5,6,7,8,9,10,11,12,13,14,15,16,17,18,19,20,21,22,23,24,25,26,27,28,29,30,31,32,33,34,35,36,37,38,39,40,41,42,43,44,45,46,47,48,49,50,51,52,53,54,55,56,57,58,59,60,61,62,63,64,65,66,67,68,69,70,71,72,73,74,75,76,77,78,79,80,81,82,83,84,85,86,87,88,89,90,91,92,93,94,95,96,97,98,99,100,101,102,103,104,105,106,107,108,109,110,111,112,113,114,115,116,117,118,119,120,121,122,123,124,125,126,127,128,129,130,131,132,133,134,135,136,137,138,139,140,141,142,143,144,145,146,147,148,149,150,151,152,153,154,155,156,157,158,159,160,161,162,163,164,165,166,167,168,169,170,171,172,173,174,175,176,177,178,179,180,181,182,183,184,185,186,187,188,189,190,191,192,193,194,195,196,197,198,199,200,201,202,203,204,205,206,207,208,209,210,211,212,213,214,215,216,217,218,219,220,221,222,223,224,226,227,228,229,230,231,232,233,234,235,236,237,238,240,241,242,243,244,245,246,247,248,250,251,252,253,254,255,256,257,258,259,261,262,263,264,265,266]
def pureList:List Nat:=[19,20]
def flatList:List Nat:=[15,16,17,18,19,20,21,22,23,24,25,26,27,31,34,38,39,40,41,46,47,52,62,63,64,66,67,70,71,72,73,74,75,76,77,83,84,85,88,89,94,105,106,107,109,110,111,112,113,114,115,118,121,125,127,128,131,134,135,138,140,146,147,148,151,152,153,155,157,158,159,161,163,164,165,166,169,170,173,178,180,183,185,186,187,188,189,190,197,199,200,204,205,208,220,221,222,223,224,226,231,233,234,235,236,237,246,250,251,252]
def extList:List (Nat×ExtK):=[(225,.cmp),(239,.same),(249,.indexByte)]
def roList:List Nat:=[53,54,61,78,90,103,136,181]
def eqList:List Nat:=[]
noncomputable def sumList:List (Nat×(List AV→Option AV)):=[(156,Zbv),(168,Zbn)]
noncomputable def effList:List (Nat×EffFn):=[(87,namesE),(104,Zul),(171,textE),(172,stringE),(196,byteE)]
def bldList:List (Nat×Nat):=[(192,5)]
def wrbList:List Nat:=[123]
def qkList:List (Nat×List Nat):=[(11,[12]),(14,[15])]
def linList:List Nat:=[22,32]
noncomputable def cfg:Cfg:={ P:=Tryz.prog,glob:=DE,sum:=fun f=>sumList.lookup f,user:=fun f=>userList.contains f,eqok:=fun t=>eqList.contains t,pure:=fun f=>pureList.contains f,flat:=fun f=>flatList.contains f,ext:=fun f=>extList.lookup f,keep:=Zvf Ztk,eff:=fun f=>effList.lookup f,bld:=fun t=>bldList.lookup t,lin:=fun t=>linList.contains t,qk:=fun t a=>qkList.contains (t,a),wrb:=fun t=>wrbList.contains t,ro:=fun f=>roList.contains f }
theorem Z9 {kp:Nat → Option (List Nat)}{LP:Code → KL → AL → Hp → Z4}{n:Nat}{c:Code}{k:KL}{al:AL}{H:Hp}{r:Z4}(cut:List Nat)(h:HW cfg (Za cfg) LP kp n Zb Z7 (Y1 cfg (Za cfg) LP kp n Zb Z7) cut c k al H=r):Y1 cfg (Za cfg) LP kp n Zb Z7 c k al H=r:=(VI cut c k al H).trans h
noncomputable def PR:List AV→Hp→Z4:=Za cfg 10
noncomputable def Rc:List AV→Hp→Z4:=Za cfg 20
noncomputable def QQ:List AV→Hp→Z4:=Za cfg 28
noncomputable def Ei:List AV→Hp→Z4:=Za cfg 29
noncomputable def N3:List AV→Hp→Z4:=Za cfg 30
noncomputable def T7:List AV→Hp→Z4:=Za cfg 31
noncomputable def Eh:List AV→Hp→Z4:=Za cfg 32
noncomputable def Jb:List AV→Hp→Z4:=Za cfg 33
noncomputable def JD:List AV→Hp→Z4:=Za cfg 34
noncomputable def Wq:List AV→Hp→Z4:=Za cfg 36
noncomputable def KP:List AV→Hp→Z4:=Za cfg 38
noncomputable def N0:List AV→Hp→Z4:=Za cfg 39
noncomputable def IU:List AV→Hp→Z4:=Za cfg 41
noncomputable def R5:List AV→Hp→Z4:=Za cfg 42
noncomputable def Rw:List AV→Hp→Z4:=Za cfg 43
noncomputable def KT:List AV→Hp→Z4:=Za cfg 44
noncomputable def Qq:List AV→Hp→Z4:=Za cfg 45
noncomputable def PS:List AV→Hp→Z4:=Za cfg 46
noncomputable def BI:List AV→Hp→Z4:=Za cfg 47
noncomputable def Wr:List AV→Hp→Z4:=Za cfg 53
noncomputable def Vp:List AV→Hp→Z4:=Za cfg 59
noncomputable def WA:List AV→Hp→Z4:=Za cfg 64
noncomputable def VL:List AV→Hp→Z4:=Za cfg 67
noncomputable def V9:List AV→Hp→Z4:=Za cfg 70
noncomputable def W2:List AV→Hp→Z4:=Za cfg 72
noncomputable def KS:List AV→Hp→Z4:=Za cfg 73
noncomputable def R7:List AV→Hp→Z4:=Za cfg 74
noncomputable def Cn:List AV→Hp→Z4:=Za cfg 75
noncomputable def Yh:List AV→Hp→Z4:=Za cfg 76
noncomputable def Va:List AV→Hp→Z4:=Za cfg 77
noncomputable def BM:List AV→Hp→Z4:=Za cfg 78
noncomputable def WQ:List AV→Hp→Z4:=Za cfg 80
noncomputable def Wm:List AV→Hp→Z4:=Za cfg 81
noncomputable def WE:List AV→Hp→Z4:=Za cfg 82
noncomputable def Ys:List AV→Hp→Z4:=Za cfg 83
noncomputable def PY:List AV→Hp→Z4:=Za cfg 84
noncomputable def PZ:List AV→Hp→Z4:=Za cfg 85
noncomputable def WD:List AV→Hp→Z4:=Za cfg 86
noncomputable def JE:List AV→Hp→Z4:=Za cfg 88
noncomputable def Vq:List AV→Hp→Z4:=Za cfg 102
noncomputable def Wn:List AV→Hp→Z4:=Za cfg 103
noncomputable def WC:List AV→Hp→Z4:=Za cfg 105
noncomputable def V8:List AV→Hp→Z4:=Za cfg 106
noncomputable def VM:List AV→Hp→Z4:=Za cfg 107
noncomputable def Uk:List AV→Hp→Z4:=Za cfg 108
noncomputable def Ra:List AV→Hp→Z4:=Za cfg 109
noncomputable def QE:List AV→Hp→Z4:=Za cfg 110
noncomputable def Qs:List AV→Hp→Z4:=Za cfg 111
noncomputable def Qr:List AV→Hp→Z4:=Za cfg 112
noncomputable def Xw:List AV→Hp→Z4:=Za cfg 113
noncomputable def Ul:List AV→Hp→Z4:=Za cfg 114
noncomputable def Ws:List AV→Hp→Z4:=Za cfg 116
noncomputable def N1:List AV→Hp→Z4:=Za cfg 118
noncomputable def UY:List AV→Hp→Z4:=Za cfg 119
noncomputable def Xx:List AV→Hp→Z4:=Za cfg 120
noncomputable def Fz:List AV→Hp→Z4:=Za cfg 121
noncomputable def UX:List AV→Hp→Z4:=Za cfg 122
noncomputable def Jd:List AV→Hp→Z4:=Za cfg 123
noncomputable def Jc:List AV→Hp→Z4:=Za cfg 124
noncomputable def PW:List AV→Hp→Z4:=Za cfg 125
noncomputable def J9:List AV→Hp→Z4:=Za cfg 127
noncomputable def Uy:List AV→Hp→Z4:=Za cfg 144
noncomputable def We:List AV→Hp→Z4:=Za cfg 145
noncomputable def Yw:List AV→Hp→Z4:=Za cfg 146
noncomputable def V4:List AV→Hp→Z4:=Za cfg 147
noncomputable def VK:List AV→Hp→Z4:=Za cfg 148
noncomputable def T9:List AV→Hp→Z4:=Za cfg 149
noncomputable def UW:List AV→Hp→Z4:=Za cfg 150
noncomputable def Ky:List AV→Hp→Z4:=Za cfg 151
noncomputable def UU:List AV→Hp→Z4:=Za cfg 152
noncomputable def FE:List AV→Hp→Z4:=Za cfg 153
noncomputable def Kv:List AV→Hp→Z4:=Za cfg 154
noncomputable def Kw:List AV→Hp→Z4:=Za cfg 155
noncomputable def FC:List AV→Hp→Z4:=Za cfg 157
noncomputable def Kx:List AV→Hp→Z4:=Za cfg 158
noncomputable def FB:List AV→Hp→Z4:=Za cfg 159
noncomputable def QP:List AV→Hp→Z4:=Za cfg 160
noncomputable def R9:List AV→Hp→Z4:=Za cfg 161
noncomputable def Gv:List AV→Hp→Z4:=Za cfg 162
noncomputable def QD:List AV→Hp→Z4:=Za cfg 163
noncomputable def KR:List AV→Hp→Z4:=Za cfg 164
noncomputable def Gu:List AV→Hp→Z4:=Za cfg 165
noncomputable def Ee:List AV→Hp→Z4:=Za cfg 166
noncomputable def Vr:List AV→Hp→Z4:=Za cfg 167
noncomputable def GU:List AV→Hp→Z4:=Za cfg 169
noncomputable def FA:List AV→Hp→Z4:=Za cfg 170
noncomputable def Re:List AV→Hp→Z4:=Za cfg 173
noncomputable def XI:List AV→Hp→Z4:=Za cfg 185
noncomputable def JC:List AV→Hp→Z4:=Za cfg 186
noncomputable def PX:List AV→Hp→Z4:=Za cfg 187
noncomputable def Xt:List AV→Hp→Z4:=Za cfg 188
noncomputable def UV:List AV→Hp→Z4:=Za cfg 189
noncomputable def BJ:List AV→Hp→Z4:=Za cfg 190
noncomputable def WB:List AV→Hp→Z4:=Za cfg 195
noncomputable def BK:List AV→Hp→Z4:=Za cfg 197
noncomputable def QJ:List AV→Hp→Z4:=Za cfg 198
noncomputable def T8:List AV→Hp→Z4:=Za cfg 199
noncomputable def Rb:List AV→Hp→Z4:=Za cfg 200
noncomputable def PV:List AV→Hp→Z4:=Za cfg 201
noncomputable def Pd:List AV→Hp→Z4:=Za cfg 202
noncomputable def R8:List AV→Hp→Z4:=Za cfg 203
noncomputable def R6:List AV→Hp→Z4:=Za cfg 204
noncomputable def Pc:List AV→Hp→Z4:=Za cfg 205
noncomputable def Eg:List AV→Hp→Z4:=Za cfg 208
noncomputable def Qt:List AV→Hp→Z4:=Za cfg 221
noncomputable def Wz:List AV→Hp→Z4:=Za cfg 222
noncomputable def Wl:List AV→Hp→Z4:=Za cfg 223
noncomputable def Ja:List AV→Hp→Z4:=Za cfg 226
noncomputable def V7:List AV→Hp→Z4:=Za cfg 230
noncomputable def BG:List AV→Hp→Z4:=Za cfg 231
noncomputable def U8:List AV→Hp→Z4:=Za cfg 232
noncomputable def Cl:List AV→Hp→Z4:=Za cfg 233
noncomputable def Ef:List AV→Hp→Z4:=Za cfg 234
noncomputable def KQ:List AV→Hp→Z4:=Za cfg 235
noncomputable def VJ:List AV→Hp→Z4:=Za cfg 236
noncomputable def Vo:List AV→Hp→Z4:=Za cfg 237
noncomputable def BH:List AV→Hp→Z4:=Za cfg 250
noncomputable def PT:List AV→Hp→Z4:=Za cfg 251
noncomputable def PU:List AV→Hp→Z4:=Za cfg 252
noncomputable def Mm:Z4:=Y1 cfg (Za cfg) (ZQ cfg (cfg.keep 64) 78) (cfg.keep 64) 78 Zb Z7 (sub (Z1 Tryz.f64) [1,1,1,1]) (Zf cfg 78 64 Tryz.f64 H0) [] H
noncomputable def Qh:KL:=Zb (fun k al H=>Y1 cfg (Za cfg) (ZQ cfg (cfg.keep 64) 78) (cfg.keep 64) 78 Zb Z7 (sub (Z1 Tryz.f64) [1,1,1,1]) k (ZP (cfg.keep 64) (sub (Z1 Tryz.f64) [1,1,1,1]) al) H) (Zf cfg 78 64 Tryz.f64 H0)
theorem C7:ZL 78 (Qh H0):=Zu (C:=cfg) (kp:=cfg.keep 64) (sub (Z1 Tryz.f64) [1,1,1,1]) (Zv 64 Tryz.f64 H0)
noncomputable def B4:Z4:=Y1 cfg (Za cfg) (ZQ cfg (cfg.keep 64) 78) (cfg.keep 64) 78 Zb Z7 (sub (Z1 Tryz.f64) [1,1,1,0,1,0,0,1,1,1]) (Zb (fun k al H=>ZQ cfg (cfg.keep 64) 78 (sub (Z1 Tryz.f64) [1,1,1,0,1,0,0]) k (ZP (cfg.keep 64) (sub (Z1 Tryz.f64) [1,1,1,0,1,0,0]) al) H) (Z7 0 (Qh H0))) [(33,x33),(34,x34),(35,x35)] H
noncomputable def B3:Z4:=Y1 cfg (Za cfg) (ZQ cfg (cfg.keep 64) 78) (cfg.keep 64) 78 Zb Z7 (sub (Z1 Tryz.f64) [1,1,1,0,1,0,0,1,1]) (Zb (fun k al H=>ZQ cfg (cfg.keep 64) 78 (sub (Z1 Tryz.f64) [1,1,1,0,1,0,0]) k (ZP (cfg.keep 64) (sub (Z1 Tryz.f64) [1,1,1,0,1,0,0]) al) H) (Z7 0 (Qh H0))) [(33,x33),(34,x34),(35,x35),(36,x36)] H
noncomputable def Qi:Z4:=ZQ cfg (cfg.keep 64) 78 (sub (Z1 Tryz.f64) [1,1,1,0,1,0,0]) (Z7 0 (Qh H0)) [(33,x33),(34,x34),(35,x35)] H
noncomputable def Ml:Z4:=Y1 cfg (Za cfg) (ZQ cfg (cfg.keep 64) 78) (cfg.keep 64) 78 Zb Z7 (sub (Z1 Tryz.f64) [1,1,1]) (Zf cfg 78 64 Tryz.f64 H0) [(1,x1)] H
noncomputable def Mk:Z4:=Y1 cfg (Za cfg) (ZQ cfg (cfg.keep 64) 78) (cfg.keep 64) 78 Zb Z7 (sub (Z1 Tryz.f64) [1,1]) (Zf cfg 78 64 Tryz.f64 H0) [(1,x1)] H
noncomputable def Ld:Z4:=
 Z0 (ZU p0 H) fun r1=>
 Z0 (Z8 0 r1.1) fun t5=>
 Z0 (Z3 false 1 t5 r1.2) fun t6=>
 Z0 (Zj (.slice 149) t6) fun t7=>
 Z0 (Z5 .gtr t7 (.int .i64 8)) fun t8=>
 Zk t8
  (some ((.int .i64 3),r1.2))
  (Mk r1.1 H r1.2)
theorem Ir:Mm H0 H =
 some ((.int .i64 0),H):=Z9 [3,5,7,10,11] (by kernel_rfl)
theorem Iu:B4 x33 x34 x35 H0 H =
 Z0 (Z5 .add x35 (.int .i64 1)) fun t77=>
 Qi x33 x34 t77 H0 H:=Z9 [3,5,7,10,11] (by kernel_rfl)
theorem Is:B3 x33 x34 x35 x36 H0 H =
 Z0 (Zl 5 x33 x35) fun t37=>
 Z0 (Z3 true 5 t37 H) fun t38=>
 Z0 (some ((.ptr H.length 0),H++[.cells [(.int .i64 0),(.int .i64 0),(.int .i64 0),(.int .i64 0),(.int .i64 0)]])) fun r4=>
 Z0 (Zi 5 r4.1 t38 r4.2) fun r_10=>
 Z0 (Z8 0 r4.1) fun t39=>
 Z0 (Z3 false 1 t39 r_10.2) fun t40=>
 Z0 (Z5 .lss t40 (.int .i64 1)) fun t41=>
 Z0 (Z6 t41 false (.tuple []) (Z8 1 r4.1)) fun t43=>
 Z0 (Z6 t41 false (.tuple []) (Z3 false 1 t43 r_10.2)) fun t44=>
 Z0 (Z6 t41 false (.tuple []) (Z5 .lss t44 (.int .i64 1))) fun t45=>
 Z0 (Zg t41 (.bool true) t45) fun t46=>
 Z0 (Z6 t46 false (.tuple []) (Z8 2 r4.1)) fun t48=>
 Z0 (Z6 t46 false (.tuple []) (Z3 false 1 t48 r_10.2)) fun t49=>
 Z0 (Z6 t46 false (.tuple []) (Z5 .lss t49 (.int .i64 0))) fun t50=>
 Z0 (Zg t46 (.bool true) t50) fun t51=>
 Z0 (Z6 t51 false (.tuple []) (Z8 3 r4.1)) fun t53=>
 Z0 (Z6 t51 false (.tuple []) (Z3 false 1 t53 r_10.2)) fun t54=>
 Z0 (Z6 t51 false (.tuple []) (Z5 .lss t54 (.int .i64 0))) fun t55=>
 Z0 (Zg t51 (.bool true) t55) fun t56=>
 Z0 (Z6 t56 false (.tuple []) (Z8 2 r4.1)) fun t58=>
 Z0 (Z6 t56 false (.tuple []) (Z3 false 1 t58 r_10.2)) fun t59=>
 Z0 (Z6 t56 false (.tuple []) (Z5 .eql t59 (.int .i64 0))) fun t60=>
 Z0 (Z6 t56 false (.tuple []) (some t60)) fun t61=>
 Z0 (Z6 t61 true (.tuple []) (Z8 3 r4.1)) fun t62=>
 Z0 (Z6 t61 true (.tuple []) (Z3 false 1 t62 r_10.2)) fun t63=>
 Z0 (Z6 t61 true (.tuple []) (Z5 .neq t63 (.int .i64 0))) fun t64=>
 Z0 (Z6 t56 false (.tuple []) (Zg t61 t64 (.bool false))) fun t65=>
 Z0 (Zg t56 (.bool true) t65) fun t66=>
 Z0 (Z6 t66 false (.tuple []) (Z8 4 r4.1)) fun t68=>
 Z0 (Z6 t66 false (.tuple []) (Z3 false 1 t68 r_10.2)) fun t69=>
 Z0 (Z6 t66 false (.tuple []) (Z5 .lss t69 (.int .i64 0))) fun t70=>
 Z0 (Zg t66 (.bool true) t70) fun t71=>
 Z0 (Z6 t71 false (.tuple []) (Z8 4 r4.1)) fun t73=>
 Z0 (Z6 t71 false (.tuple []) (Z3 false 1 t73 r_10.2)) fun t74=>
 Z0 (Z6 t71 false (.tuple []) (Z5 .gtr t74 (.int .i64 31))) fun t75=>
 Z0 (Zg t71 (.bool true) t75) fun t76=>
 Zk t76
  (some ((.int .i64 2),r_10.2))
  (B4 x33 x34 x35 H0 r_10.2):=Z9 [3,5,7,10,11] (by kernel_rfl)
theorem Fj:Qi x33 x34 x35 H0 H =
 Z0 (Z5 .lss x35 x34) fun t36=>
 Zk t36
  (B3 x33 x34 x35 t36 H0 H)
  (Mm H0 H):=(Zx (C:=cfg) [3,5,7,10,11] (Zm 0 (C7 H0)) _ _).trans (by kernel_rfl)
theorem Iq:Ml x1 H0 H =
 Z0 (Z8 0 x1) fun t32=>
 Z0 (Z3 false 1 t32 H) fun t33=>
 Z0 (Zj (.slice 149) t33) fun t34=>
 Qi t33 t34 (.int .i64 0) H0 H:=Z9 [3,5,7,10,11] (by kernel_rfl)
theorem Ip:Mk x1 H0 H =
 Z0 (Z8 1 x1) fun t9=>
 Z0 (Z3 false 1 t9 H) fun t10=>
 Z0 (Z5 .lss t10 (.int .i64 (-1))) fun t11=>
 Z0 (Z6 t11 false (.tuple []) (Z8 1 x1)) fun t13=>
 Z0 (Z6 t11 false (.tuple []) (Z3 false 1 t13 H)) fun t14=>
 Z0 (Z6 t11 false (.tuple []) (Z5 .gtr t14 (.int .i64 255))) fun t15=>
 Z0 (Zg t11 (.bool true) t15) fun t16=>
 Z0 (Z6 t16 false (.tuple []) (Z8 1 x1)) fun t18=>
 Z0 (Z6 t16 false (.tuple []) (Z3 false 1 t18 H)) fun t19=>
 Z0 (Z6 t16 false (.tuple []) (Z5 .eql t19 (.int .i64 10))) fun t20=>
 Z0 (Zg t16 (.bool true) t20) fun t21=>
 Z0 (Z6 t21 false (.tuple []) (Z8 2 x1)) fun t23=>
 Z0 (Z6 t21 false (.tuple []) (Z3 false 1 t23 H)) fun t24=>
 Z0 (Z6 t21 false (.tuple []) (Z5 .lss t24 (.int .i64 0))) fun t25=>
 Z0 (Zg t21 (.bool true) t25) fun t26=>
 Z0 (Z6 t26 false (.tuple []) (Z8 2 x1)) fun t28=>
 Z0 (Z6 t26 false (.tuple []) (Z3 false 1 t28 H)) fun t29=>
 Z0 (Z6 t26 false (.tuple []) (Z5 .gtr t29 (.int .i64 31))) fun t30=>
 Z0 (Zg t26 (.bool true) t30) fun t31=>
 Zk t31
  (some ((.int .i64 2),H))
  (Ml x1 H0 H):=Z9 [3,5,7,10,11] (by kernel_rfl)
theorem O8:WA [p0] H=Ld p0 H:=(Zd (C:=cfg) (fn:=Tryz.f64) (c:=Z1 Tryz.f64) (n:=78) [3,5,7,10,11] Tryz.func64 (by kernel_rfl) (by kernel_rfl) [p0] (by kernel_rfl) H).trans (by kernel_rfl)
noncomputable def OP:Z4:=Y1 cfg (Za cfg) (ZQ cfg (cfg.keep 73) 45) (cfg.keep 73) 45 Zb Z7 (sub (Z1 Tryz.f73) [1,1,1,1]) (Zf cfg 45 73 Tryz.f73 H0) [] H
noncomputable def Da:KL:=Zb (fun k al H=>Y1 cfg (Za cfg) (ZQ cfg (cfg.keep 73) 45) (cfg.keep 73) 45 Zb Z7 (sub (Z1 Tryz.f73) [1,1,1,1]) k (ZP (cfg.keep 73) (sub (Z1 Tryz.f73) [1,1,1,1]) al) H) (Zf cfg 45 73 Tryz.f73 H0)
theorem ZbR:ZL 45 (Da H0):=Zu (C:=cfg) (kp:=cfg.keep 73) (sub (Z1 Tryz.f73) [1,1,1,1]) (Zv 73 Tryz.f73 H0)
noncomputable def OR:Z4:=Y1 cfg (Za cfg) (ZQ cfg (cfg.keep 73) 45) (cfg.keep 73) 45 Zb Z7 (sub (Z1 Tryz.f73) [1,1,1,0,1,0,0,1,1]) (Zb (fun k al H=>ZQ cfg (cfg.keep 73) 45 (sub (Z1 Tryz.f73) [1,1,1,0,1,0,0]) k (ZP (cfg.keep 73) (sub (Z1 Tryz.f73) [1,1,1,0,1,0,0]) al) H) (Z7 0 (Da H0))) [(1,x1),(3,x3)] H
noncomputable def OQ:Z4:=Y1 cfg (Za cfg) (ZQ cfg (cfg.keep 73) 45) (cfg.keep 73) 45 Zb Z7 (sub (Z1 Tryz.f73) [1,1,1,0,1,0,0,1]) (Zb (fun k al H=>ZQ cfg (cfg.keep 73) 45 (sub (Z1 Tryz.f73) [1,1,1,0,1,0,0]) k (ZP (cfg.keep 73) (sub (Z1 Tryz.f73) [1,1,1,0,1,0,0]) al) H) (Z7 0 (Da H0))) [(1,x1),(3,x3)] H
noncomputable def Db:Z4:=ZQ cfg (cfg.keep 73) 45 (sub (Z1 Tryz.f73) [1,1,1,0,1,0,0]) (Z7 0 (Da H0)) [(1,x1),(3,x3)] H
noncomputable def OO:Z4:=Y1 cfg (Za cfg) (ZQ cfg (cfg.keep 73) 45) (cfg.keep 73) 45 Zb Z7 (sub (Z1 Tryz.f73) [1,1,1]) (Zf cfg 45 73 Tryz.f73 H0) [(1,x1)] H
noncomputable def ON:Z4:=Y1 cfg (Za cfg) (ZQ cfg (cfg.keep 73) 45) (cfg.keep 73) 45 Zb Z7 (sub (Z1 Tryz.f73) [1,1]) (Zf cfg 45 73 Tryz.f73 H0) [(1,x1)] H
noncomputable def Zcl:Z4:=
 Z0 (ZU p0 H) fun r1=>
 Z0 (Z8 0 r1.1) fun t4=>
 Z0 (Z3 false 1 t4 r1.2) fun t5=>
 Z0 (Zj (.slice 149) t5) fun t6=>
 Z0 (Z5 .gtr t6 (.int .i64 8)) fun t7=>
 Zk t7
  (some ((.int .i64 3),r1.2))
  (ON r1.1 H r1.2)
theorem Zfh:OP H0 H =
 some ((.int .i64 0),H):=Z9 [3,5,7,8,10] (by kernel_rfl)
theorem Zfj:OR x1 x3 H0 H =
 Z0 (Z5 .add x3 (.int .i64 1)) fun t37=>
 Db x1 t37 H0 H:=Z9 [3,5,7,8,10] (by kernel_rfl)
theorem Zfi:OQ x1 x3 H0 H =
 Z0 (Z8 0 x1) fun t38=>
 Z0 (Z3 false 1 t38 H) fun t39=>
 Z0 (Zl 5 t39 x3) fun t41=>
 Z0 (Z3 true 5 t41 H) fun t42=>
 Z0 (Zc Ra [t42] H) fun r43=>
 Z0 (X9 .not r43.1) fun t44=>
 Zk t44
  (some ((.int .i64 2),r43.2))
  (OR x1 x3 H0 r43.2):=Z9 [3,5,7,8,10] (by kernel_rfl)
theorem Lu:Db x1 x3 H0 H =
 Z0 (Z8 0 x1) fun t32=>
 Z0 (Z3 false 1 t32 H) fun t33=>
 Z0 (Zj (.slice 149) t33) fun t34=>
 Z0 (Z5 .lss x3 t34) fun t35=>
 Zk t35
  (OQ x1 x3 H0 H)
  (OP H0 H):=(Zx (C:=cfg) [3,5,7,8,10] (Zm 0 (ZbR H0)) _ _).trans (by kernel_rfl)
theorem Zfg:OO x1 H0 H =
 Db x1 (.int .i64 0) H0 H:=Z9 [3,5,7,8,10] (by kernel_rfl)
theorem Zff:ON x1 H0 H =
 Z0 (Z8 1 x1) fun t8=>
 Z0 (Z3 false 1 t8 H) fun t9=>
 Z0 (Z5 .lss t9 (.int .i64 (-1))) fun t10=>
 Z0 (Z6 t10 false (.tuple []) (Z8 1 x1)) fun t12=>
 Z0 (Z6 t10 false (.tuple []) (Z3 false 1 t12 H)) fun t13=>
 Z0 (Z6 t10 false (.tuple []) (Z5 .gtr t13 (.int .i64 255))) fun t14=>
 Z0 (Zg t10 (.bool true) t14) fun t15=>
 Z0 (Z6 t15 false (.tuple []) (Z8 1 x1)) fun t17=>
 Z0 (Z6 t15 false (.tuple []) (Z3 false 1 t17 H)) fun t18=>
 Z0 (Z6 t15 false (.tuple []) (Z5 .eql t18 (.int .i64 10))) fun t19=>
 Z0 (Zg t15 (.bool true) t19) fun t20=>
 Z0 (Z6 t20 false (.tuple []) (Z8 2 x1)) fun t22=>
 Z0 (Z6 t20 false (.tuple []) (Z3 false 1 t22 H)) fun t23=>
 Z0 (Z6 t20 false (.tuple []) (Z5 .lss t23 (.int .i64 0))) fun t24=>
 Z0 (Zg t20 (.bool true) t24) fun t25=>
 Z0 (Z6 t25 false (.tuple []) (Z8 2 x1)) fun t27=>
 Z0 (Z6 t25 false (.tuple []) (Z3 false 1 t27 H)) fun t28=>
 Z0 (Z6 t25 false (.tuple []) (Z5 .gtr t28 (.int .i64 31))) fun t29=>
 Z0 (Zg t25 (.bool true) t29) fun t30=>
 Zk t30
  (some ((.int .i64 2),H))
  (OO x1 H0 H):=Z9 [3,5,7,8,10] (by kernel_rfl)
theorem Zhi:KS [p0] H=Zcl p0 H:=(Zd (C:=cfg) (fn:=Tryz.f73) (c:=Z1 Tryz.f73) (n:=45) [3,5,7,8,10] Tryz.func73 (by kernel_rfl) (by kernel_rfl) [p0] (by kernel_rfl) H).trans (by kernel_rfl)
noncomputable def RZ:Z4:=Y1 cfg (Za cfg) (ZQ cfg (cfg.keep 108) 70) (cfg.keep 108) 70 Zb Z7 (sub (Z1 Tryz.f108) [1,1,1,1,1,1,1]) (Zf cfg 70 108 Tryz.f108 H0) [(0,x0),(7,x7),(10,x10)] H
noncomputable def XD:Z4:=Y1 cfg (Za cfg) (ZQ cfg (cfg.keep 108) 70) (cfg.keep 108) 70 Zb Z7 (sub (Z1 Tryz.f108) [1,1,1,1,1,1]) (Zf cfg 70 108 Tryz.f108 H0) [(0,x0),(7,x7),(10,x10)] H
noncomputable def RY:Z4:=Y1 cfg (Za cfg) (ZQ cfg (cfg.keep 108) 70) (cfg.keep 108) 70 Zb Z7 (sub (Z1 Tryz.f108) [1,1,1]) (Zf cfg 70 108 Tryz.f108 H0) [(0,x0),(2,x2),(4,x4),(7,x7),(8,x8)] H
noncomputable def TI:Z4:=
 Z0 (ZU p1 H) fun r4=>
 Z0 (Z8 0 r4.1) fun t16=>
 Z0 (Z3 false 1 t16 r4.2) fun t17=>
 Z0 (GQ t17 (.int .i64 1)) fun t18=>
 Z0 (QP [p0,t18,p2] r4.2) fun r20=>
 Z0 (ZM r20.1 0) fun t21=>
 Z0 (ZM r20.1 1) fun t22=>
 Z0 (ZM r20.1 2) fun t23=>
 Z0 (X9 .not t23) fun t25=>
 Zk t25
  (some ((.str []),r20.2))
  (RY p0 p2 r4.1 t21 t22 H r20.2)
theorem Cf:RZ x0 x7 x10 H0 H =
 Z0 (ZX x0 (some x7) (some x10) none) fun t69=>
 some (t69,H):=Z9 [4,12,14] (by kernel_rfl)
theorem Ce:XD x0 x7 x10 H0 H =
 Z0 (Z5 .lss x10 x7) fun t65=>
 Zk t65
  (some ((.str []),H))
  (RZ x0 x7 x10 H0 H):=Z9 [4,12,14] (by kernel_rfl)
theorem Cd:RY x0 x2 x4 x7 x8 H0 H =
 Z0 (Z8 1 x4) fun t27=>
 Z0 (Z3 false 1 t27 H) fun t28=>
 Z0 (GQ t28 (.int .i64 1)) fun t29=>
 Z0 (Z5 .sub t29 (.int .i64 1)) fun t30=>
 Z0 (Z5 .sub x8 x7) fun t33=>
 Z0 (VO t30 t33) fun t34=>
 Z0 (Z5 .add x7 t34) fun t35=>
 Z0 (Zj .string x0) fun t37=>
 Z0 (Z8 2 x4) fun t38=>
 Z0 (Z3 false 1 t38 H) fun t39=>
 Z0 (Z5 .gtr t39 (.int .i64 0)) fun t40=>
 Zk t40
  (Z0 (Z8 2 x4) fun t43=>
  Z0 (Z3 false 1 t43 H) fun t44=>
  Z0 (QP [x0,t44,x2] H) fun r46=>
  Z0 (ZM r46.1 0) fun t47=>
  Z0 (ZM r46.1 1) fun t48=>
  Z0 (ZM r46.1 2) fun t49=>
  Zk t49
   (Z0 (Z8 3 x4) fun t52=>
   Z0 (Z3 false 1 t52 r46.2) fun t53=>
   Z0 (Z5 .gtr t53 (.int .i64 0)) fun t54=>
   Zk t54
    (Z0 (Z8 3 x4) fun t56=>
    Z0 (Z3 false 1 t56 r46.2) fun t57=>
    Z0 (Z5 .sub t48 t47) fun t60=>
    Z0 (VO t57 t60) fun t61=>
    Z0 (Z5 .add t47 t61) fun t62=>
    XD x0 t35 t62 H0 r46.2)
    (XD x0 t35 t48 H0 r46.2))
   (XD x0 t35 t37 H0 r46.2))
  (XD x0 t35 t37 H0 H):=Z9 [4,12,14] (by kernel_rfl)
theorem Cp:Uk [p0,p1,p2] H=TI p0 p1 p2 H:=(Zd (C:=cfg) (fn:=Tryz.f108) (c:=Z1 Tryz.f108) (n:=70) [4,12,14] Tryz.func108 (by kernel_rfl) (by kernel_rfl) [p0,p1,p2] (by kernel_rfl) H).trans (by kernel_rfl)
noncomputable def NF:Z4:=Y1 cfg (Za cfg) (ZQ cfg (cfg.keep 109) 39) (cfg.keep 109) 39 Zb Z7 (sub (Z1 Tryz.f109) [1,1]) (Zf cfg 39 109 Tryz.f109 H0) [(1,x1)] H
noncomputable def Zcq:Z4:=
 Z0 (ZU p0 H) fun r1=>
 Z0 (Z8 0 r1.1) fun t3=>
 Z0 (Z3 false 1 t3 r1.2) fun t4=>
 Z0 (Z5 .lss t4 (.int .i64 1)) fun t5=>
 Z0 (Z6 t5 false (.tuple []) (Z8 1 r1.1)) fun t7=>
 Z0 (Z6 t5 false (.tuple []) (Z3 false 1 t7 r1.2)) fun t8=>
 Z0 (Z6 t5 false (.tuple []) (Z5 .lss t8 (.int .i64 1))) fun t9=>
 Z0 (Zg t5 (.bool true) t9) fun t10=>
 Z0 (Z6 t10 false (.tuple []) (Z8 2 r1.1)) fun t12=>
 Z0 (Z6 t10 false (.tuple []) (Z3 false 1 t12 r1.2)) fun t13=>
 Z0 (Z6 t10 false (.tuple []) (Z5 .lss t13 (.int .i64 0))) fun t14=>
 Z0 (Zg t10 (.bool true) t14) fun t15=>
 Z0 (Z6 t15 false (.tuple []) (Z8 3 r1.1)) fun t17=>
 Z0 (Z6 t15 false (.tuple []) (Z3 false 1 t17 r1.2)) fun t18=>
 Z0 (Z6 t15 false (.tuple []) (Z5 .lss t18 (.int .i64 0))) fun t19=>
 Z0 (Zg t15 (.bool true) t19) fun t20=>
 Z0 (Z6 t20 false (.tuple []) (Z8 2 r1.1)) fun t22=>
 Z0 (Z6 t20 false (.tuple []) (Z3 false 1 t22 r1.2)) fun t23=>
 Z0 (Z6 t20 false (.tuple []) (Z5 .eql t23 (.int .i64 0))) fun t24=>
 Z0 (Z6 t20 false (.tuple []) (some t24)) fun t25=>
 Z0 (Z6 t25 true (.tuple []) (Z8 3 r1.1)) fun t26=>
 Z0 (Z6 t25 true (.tuple []) (Z3 false 1 t26 r1.2)) fun t27=>
 Z0 (Z6 t25 true (.tuple []) (Z5 .neq t27 (.int .i64 0))) fun t28=>
 Z0 (Z6 t20 false (.tuple []) (Zg t25 t28 (.bool false))) fun t29=>
 Z0 (Zg t20 (.bool true) t29) fun t30=>
 Zk t30
  (some ((.bool false),r1.2))
  (NF r1.1 H r1.2)
theorem Zfp:NF x1 H0 H =
 Z0 (Z8 4 x1) fun t31=>
 Z0 (Z3 false 1 t31 H) fun t32=>
 Z0 (Z5 .geq t32 (.int .i64 0)) fun t33=>
 Z0 (Z6 t33 true (.tuple []) (Z8 4 x1)) fun t35=>
 Z0 (Z6 t33 true (.tuple []) (Z3 false 1 t35 H)) fun t36=>
 Z0 (Z6 t33 true (.tuple []) (Z5 .leq t36 (.int .i64 31))) fun t37=>
 Z0 (Zg t33 t37 (.bool false)) fun t38=>
 some (t38,H):=Z9 [3] (by kernel_rfl)
theorem Zhn:Ra [p0] H=Zcq p0 H:=(Zd (C:=cfg) (fn:=Tryz.f109) (c:=Z1 Tryz.f109) (n:=39) [3] Tryz.func109 (by kernel_rfl) (by kernel_rfl) [p0] (by kernel_rfl) H).trans (by kernel_rfl)
noncomputable def Zib:Z4:=
 Z0 (Z5 .quo p0 p1) fun t7=>
 Z0 (Z5 .rem t7 (.int .i64 2)) fun t8=>
 Z0 (Z5 .eql t8 (.int .i64 1)) fun t9=>
 some (t9,H)
theorem ZjV:Xw [p0,p1] H=Zib p0 p1 H:=(Zd (C:=cfg) (fn:=Tryz.f113) (c:=Z1 Tryz.f113) (n:=10) [] Tryz.func113 (by kernel_rfl) (by kernel_rfl) [p0,p1] (by kernel_rfl) H).trans (by kernel_rfl)
noncomputable def Mo:Z4:=Y1 cfg (Za cfg) (ZQ cfg (cfg.keep 160) 83) (cfg.keep 160) 83 Zb Z7 (sub (Z1 Tryz.f160) [1,1,1]) (Zf cfg 83 160 Tryz.f160 H0) [] H
noncomputable def Vl:KL:=Zb (fun k al H=>Y1 cfg (Za cfg) (ZQ cfg (cfg.keep 160) 83) (cfg.keep 160) 83 Zb Z7 (sub (Z1 Tryz.f160) [1,1,1]) k (ZP (cfg.keep 160) (sub (Z1 Tryz.f160) [1,1,1]) al) H) (Zf cfg 83 160 Tryz.f160 H0)
theorem Bv:ZL 83 (Vl H0):=Zu (C:=cfg) (kp:=cfg.keep 160) (sub (Z1 Tryz.f160) [1,1,1]) (Zv 160 Tryz.f160 H0)
noncomputable def Mq:Z4:=Y1 cfg (Za cfg) (ZQ cfg (cfg.keep 160) 83) (cfg.keep 160) 83 Zb Z7 (sub (Z1 Tryz.f160) [1,1,0,1,0,0,1,1]) (Zb (fun k al H=>ZQ cfg (cfg.keep 160) 83 (sub (Z1 Tryz.f160) [1,1,0,1,0,0]) k (ZP (cfg.keep 160) (sub (Z1 Tryz.f160) [1,1,0,1,0,0]) al) H) (Z7 2 (Vl H0))) [(0,x0),(1,x1),(6,x6),(11,x11)] H
noncomputable def Wk:KL:=Zb (fun k al H=>Y1 cfg (Za cfg) (ZQ cfg (cfg.keep 160) 83) (cfg.keep 160) 83 Zb Z7 (sub (Z1 Tryz.f160) [1,1,0,1,0,0,1,1]) k (ZP (cfg.keep 160) (sub (Z1 Tryz.f160) [1,1,0,1,0,0,1,1]) al) H) (Zb (fun k al H=>ZQ cfg (cfg.keep 160) 83 (sub (Z1 Tryz.f160) [1,1,0,1,0,0]) k (ZP (cfg.keep 160) (sub (Z1 Tryz.f160) [1,1,0,1,0,0]) al) H) (Z7 2 (Vl H0)))
theorem Bw:ZL 83 (Wk H0):=Zu (C:=cfg) (kp:=cfg.keep 160) (sub (Z1 Tryz.f160) [1,1,0,1,0,0,1,1]) (T5 (C:=cfg) (kp:=cfg.keep 160) (sub (Z1 Tryz.f160) [1,1,0,1,0,0]) (Zm 2 (Bv H0)))
noncomputable def Mr:Z4:=Y1 cfg (Za cfg) (ZQ cfg (cfg.keep 160) 83) (cfg.keep 160) 83 Zb Z7 (sub (Z1 Tryz.f160) [1,1,0,1,0,0,1,0,0,1,1,1,1]) (Z7 3 (Wk H0)) [(0,x0),(1,x1),(7,x7),(11,x11)] H
noncomputable def B8:Z4:=Y1 cfg (Za cfg) (ZQ cfg (cfg.keep 160) 83) (cfg.keep 160) 83 Zb Z7 (sub (Z1 Tryz.f160) [1,1,0,1,0,0,1,0,0,1,1,1]) (Z7 3 (Wk H0)) [(0,x0),(1,x1),(6,x6),(7,x7),(11,x11)] H
noncomputable def B9:KL:=Zb (fun k al H=>Y1 cfg (Za cfg) (ZQ cfg (cfg.keep 160) 83) (cfg.keep 160) 83 Zb Z7 (sub (Z1 Tryz.f160) [1,1,0,1,0,0,1,0,0,1,1,1]) k (ZP (cfg.keep 160) (sub (Z1 Tryz.f160) [1,1,0,1,0,0,1,0,0,1,1,1]) al) H) (Z7 3 (Wk H0))
theorem Cg:ZL 83 (B9 H0):=Zu (C:=cfg) (kp:=cfg.keep 160) (sub (Z1 Tryz.f160) [1,1,0,1,0,0,1,0,0,1,1,1]) (Zm 3 (Bw H0))
noncomputable def Ms:Z4:=Y1 cfg (Za cfg) (ZQ cfg (cfg.keep 160) 83) (cfg.keep 160) 83 Zb Z7 (sub (Z1 Tryz.f160) [1,1,0,1,0,0,1,0,0,1,1,0,0,0,1]) (Zb (fun k al H=>ZQ cfg (cfg.keep 160) 83 (sub (Z1 Tryz.f160) [1,1,0,1,0,0,1,0,0,1,1,0,0,0]) k (ZP (cfg.keep 160) (sub (Z1 Tryz.f160) [1,1,0,1,0,0,1,0,0,1,1,0,0,0]) al) H) (Z7 6 (B9 H0))) [(0,x0),(1,x1),(6,x6),(7,x7),(11,x11)] H
noncomputable def Ql:Z4:=ZQ cfg (cfg.keep 160) 83 (sub (Z1 Tryz.f160) [1,1,0,1,0,0,1,0,0,1,1,0,0,0]) (Z7 6 (B9 H0)) [(0,x0),(1,x1),(6,x6),(7,x7),(11,x11)] H
noncomputable def B7:Z4:=Y1 cfg (Za cfg) (ZQ cfg (cfg.keep 160) 83) (cfg.keep 160) 83 Zb Z7 (sub (Z1 Tryz.f160) [1,1,0,1,0,0,1,0,0,1,1]) (Z7 3 (Wk H0)) [(0,x0),(1,x1),(6,x6),(7,x7),(11,x11)] H
noncomputable def Ba:KL:=Zb (fun k al H=>Y1 cfg (Za cfg) (ZQ cfg (cfg.keep 160) 83) (cfg.keep 160) 83 Zb Z7 (sub (Z1 Tryz.f160) [1,1,0,1,0,0,1,0,0,1,1]) k (ZP (cfg.keep 160) (sub (Z1 Tryz.f160) [1,1,0,1,0,0,1,0,0,1,1]) al) H) (Z7 3 (Wk H0))
theorem Ch:ZL 83 (Ba H0):=Zu (C:=cfg) (kp:=cfg.keep 160) (sub (Z1 Tryz.f160) [1,1,0,1,0,0,1,0,0,1,1]) (Zm 3 (Bw H0))
noncomputable def Mt:Z4:=Y1 cfg (Za cfg) (ZQ cfg (cfg.keep 160) 83) (cfg.keep 160) 83 Zb Z7 (sub (Z1 Tryz.f160) [1,1,0,1,0,0,1,0,0,1,0,0,0,1]) (Zb (fun k al H=>ZQ cfg (cfg.keep 160) 83 (sub (Z1 Tryz.f160) [1,1,0,1,0,0,1,0,0,1,0,0,0]) k (ZP (cfg.keep 160) (sub (Z1 Tryz.f160) [1,1,0,1,0,0,1,0,0,1,0,0,0]) al) H) (Z7 4 (Ba H0))) [(0,x0),(1,x1),(6,x6),(7,x7),(11,x11)] H
noncomputable def Qm:Z4:=ZQ cfg (cfg.keep 160) 83 (sub (Z1 Tryz.f160) [1,1,0,1,0,0,1,0,0,1,0,0,0]) (Z7 4 (Ba H0)) [(0,x0),(1,x1),(6,x6),(7,x7),(11,x11)] H
noncomputable def Mp:Z4:=Y1 cfg (Za cfg) (ZQ cfg (cfg.keep 160) 83) (cfg.keep 160) 83 Zb Z7 (sub (Z1 Tryz.f160) [1,1,0,1,0,0,1]) (Zb (fun k al H=>ZQ cfg (cfg.keep 160) 83 (sub (Z1 Tryz.f160) [1,1,0,1,0,0]) k (ZP (cfg.keep 160) (sub (Z1 Tryz.f160) [1,1,0,1,0,0]) al) H) (Z7 2 (Vl H0))) [(0,x0),(1,x1),(6,x6),(11,x11)] H
noncomputable def Qk:Z4:=ZQ cfg (cfg.keep 160) 83 (sub (Z1 Tryz.f160) [1,1,0,1,0,0]) (Z7 2 (Vl H0)) [(0,x0),(1,x1),(6,x6),(11,x11)] H
noncomputable def B6:Z4:=Y1 cfg (Za cfg) (ZQ cfg (cfg.keep 160) 83) (cfg.keep 160) 83 Zb Z7 (sub (Z1 Tryz.f160) [1,1]) (Zf cfg 83 160 Tryz.f160 H0) [(0,x0),(1,x1),(6,x6)] H
noncomputable def Qj:KL:=Zb (fun k al H=>Y1 cfg (Za cfg) (ZQ cfg (cfg.keep 160) 83) (cfg.keep 160) 83 Zb Z7 (sub (Z1 Tryz.f160) [1,1]) k (ZP (cfg.keep 160) (sub (Z1 Tryz.f160) [1,1]) al) H) (Zf cfg 83 160 Tryz.f160 H0)
theorem Ci:ZL 83 (Qj H0):=Zu (C:=cfg) (kp:=cfg.keep 160) (sub (Z1 Tryz.f160) [1,1]) (Zv 160 Tryz.f160 H0)
noncomputable def P8:Z4:=Y1 cfg (Za cfg) (ZQ cfg (cfg.keep 160) 83) (cfg.keep 160) 83 Zb Z7 (sub (Z1 Tryz.f160) [1,0,1,0,1,0,0,1]) (Zb (fun k al H=>ZQ cfg (cfg.keep 160) 83 (sub (Z1 Tryz.f160) [1,0,1,0,1,0,0]) k (ZP (cfg.keep 160) (sub (Z1 Tryz.f160) [1,0,1,0,1,0,0]) al) H) (Z7 0 (Qj H0))) [(0,x0),(1,x1),(2,x2),(6,x6),(9,x9)] H
noncomputable def Mu:KL:=Zb (fun k al H=>Y1 cfg (Za cfg) (ZQ cfg (cfg.keep 160) 83) (cfg.keep 160) 83 Zb Z7 (sub (Z1 Tryz.f160) [1,0,1,0,1,0,0,1]) k (ZP (cfg.keep 160) (sub (Z1 Tryz.f160) [1,0,1,0,1,0,0,1]) al) H) (Zb (fun k al H=>ZQ cfg (cfg.keep 160) 83 (sub (Z1 Tryz.f160) [1,0,1,0,1,0,0]) k (ZP (cfg.keep 160) (sub (Z1 Tryz.f160) [1,0,1,0,1,0,0]) al) H) (Z7 0 (Qj H0)))
noncomputable def Pa:Z4:=Y1 cfg (Za cfg) (ZQ cfg (cfg.keep 160) 83) (cfg.keep 160) 83 Zb Z7 (sub (Z1 Tryz.f160) [1,0,1,0,1,0,0,0,0,1,1,1]) (Z7 1 (Mu H0)) [(0,x0),(1,x1),(2,x2),(6,x6),(9,x9),(10,x10)] H
noncomputable def P9:Z4:=Y1 cfg (Za cfg) (ZQ cfg (cfg.keep 160) 83) (cfg.keep 160) 83 Zb Z7 (sub (Z1 Tryz.f160) [1,0,1,0,1,0,0,0,0,1,1]) (Z7 1 (Mu H0)) [(0,x0),(1,x1),(2,x2),(6,x6),(9,x9),(10,x10)] H
noncomputable def Qn:Z4:=ZQ cfg (cfg.keep 160) 83 (sub (Z1 Tryz.f160) [1,0,1,0,1,0,0]) (Z7 0 (Qj H0)) [(0,x0),(1,x1),(2,x2),(6,x6),(9,x9)] H
noncomputable def Lh:Z4:=
 Z0 (Z5 .geq p2 (.int .i64 0)) fun t13=>
 Z0 (Z6 t13 true (.tuple []) (some p2)) fun t15=>
 Z0 (Z6 t13 true (.tuple []) (Z5 .leq t15 (.int .i64 255))) fun t16=>
 Z0 (Zg t13 t16 (.bool false)) fun t17=>
 Zk t17
  (Qn p0 p1 p2 (.int .i64 0) (.int .i64 1) H H)
  (B6 p0 p1 (.int .i64 0) H H)
theorem Iy:Mo H0 H =
 some ((.tuple [(.int .i64 0),(.int .i64 0),(.bool false)]),H):=Z9 [3,7,9,10,12,13,15,16,17,18,20,21] (by kernel_rfl)
theorem IA:Mq x0 x1 x6 x11 H0 H =
 Z0 (Z5 .add x11 (.int .i64 1)) fun t50=>
 Qk x0 x1 x6 t50 H0 H:=Z9 [3,7,9,10,12,13,15,16,17,18,20,21] (by kernel_rfl)
theorem ID:Mr x0 x1 x7 x11 H0 H =
 Mq x0 x1 x7 x11 H0 H:=Z9 [3,7,9,10,12,13,15,16,17,18,20,21] (by kernel_rfl)
theorem IC:B8 x0 x1 x6 x7 x11 H0 H =
 Z0 (Z5 .eql x11 x1) fun t79=>
 Zk t79
  (some ((.tuple [x6,x7,(.bool true)]),H))
  (Mr x0 x1 x7 x11 H0 H):=Z9 [3,7,9,10,12,13,15,16,17,18,20,21] (by kernel_rfl)
theorem IE:Ms x0 x1 x6 x7 x11 H0 H =
 Z0 (Z5 .add x7 (.int .i64 1)) fun t76=>
 Ql x0 x1 x6 t76 x11 H0 H:=Z9 [3,7,9,10,12,13,15,16,17,18,20,21] (by kernel_rfl)
theorem Fk:Ql x0 x1 x6 x7 x11 H0 H =
 Z0 (Zj .string x0) fun t66=>
 Z0 (Z5 .lss x7 t66) fun t67=>
 Z0 (Z6 t67 true (.tuple []) (some x0)) fun t69=>
 Z0 (Z6 t67 true (.tuple []) (some x7)) fun t70=>
 Z0 (Z6 t67 true (.tuple []) (Zr t69 t70)) fun t71=>
 Z0 (Z6 t67 true ((.tuple []),H) (WB [t71] H)) fun r72=>
 Z0 (Z6 t67 true (.tuple []) (X9 .not r72.1)) fun t73=>
 Z0 (Zg t67 t73 (.bool false)) fun t74=>
 Zk t74
  (Ms x0 x1 x6 x7 x11 H0 r72.2)
  (B8 x0 x1 x6 x7 x11 H0 r72.2):=(Zx (C:=cfg) [3,7,9,10,12,13,15,16,17,18,20,21] (Zm 6 (Cg H0)) _ _).trans (by kernel_rfl)
theorem IB:B7 x0 x1 x6 x7 x11 H0 H =
 Ql x0 x1 x6 x7 x11 H0 H:=Z9 [3,7,9,10,12,13,15,16,17,18,20,21] (by kernel_rfl)
theorem IF:Mt x0 x1 x6 x7 x11 H0 H =
 Z0 (Z5 .add x7 (.int .i64 1)) fun t63=>
 Qm x0 x1 x6 t63 x11 H0 H:=Z9 [3,7,9,10,12,13,15,16,17,18,20,21] (by kernel_rfl)
theorem Fl:Qm x0 x1 x6 x7 x11 H0 H =
 Z0 (Zj .string x0) fun t54=>
 Z0 (Z5 .lss x7 t54) fun t55=>
 Z0 (Z6 t55 true (.tuple []) (some x0)) fun t57=>
 Z0 (Z6 t55 true (.tuple []) (some x7)) fun t58=>
 Z0 (Z6 t55 true (.tuple []) (Zr t57 t58)) fun t59=>
 Z0 (Z6 t55 true ((.tuple []),H) (WB [t59] H)) fun r60=>
 Z0 (Zg t55 r60.1 (.bool false)) fun t61=>
 Zk t61
  (Mt x0 x1 x6 x7 x11 H0 r60.2)
  (B7 x0 x1 x6 x7 x11 H0 r60.2):=(Zx (C:=cfg) [3,7,9,10,12,13,15,16,17,18,20,21] (Zm 4 (Ch H0)) _ _).trans (by kernel_rfl)
theorem Iz:Mp x0 x1 x6 x11 H0 H =
 Qm x0 x1 x6 x6 x11 H0 H:=Z9 [3,7,9,10,12,13,15,16,17,18,20,21] (by kernel_rfl)
theorem IG:Qk x0 x1 x6 x11 H0 H =
 Z0 (Zj .string x0) fun t47=>
 Z0 (Z5 .lss x6 t47) fun t48=>
 Zk t48
  (Mp x0 x1 x6 x11 H0 H)
  (Mo H0 H):=(Zx (C:=cfg) [3,7,9,10,12,13,15,16,17,18,20,21] (Zm 2 (Bv H0)) _ _).trans (by kernel_rfl)
theorem Ix:B6 x0 x1 x6 H0 H =
 Qk x0 x1 x6 (.int .i64 1) H0 H:=Z9 [3,7,9,10,12,13,15,16,17,18,20,21] (by kernel_rfl)
theorem HH:P8 x0 x1 x2 x6 x9 H0 H =
 Z0 (Z5 .add x9 (.int .i64 1)) fun t19=>
 Qn x0 x1 x2 x6 t19 H0 H:=Z9 [3,7,9,10,12,13,15,16,17,18,20,21] (by kernel_rfl)
theorem HJ:Pa x0 x1 x2 x6 x9 x10 H0 H =
 Z0 (Z5 .add x10 (.int .i64 1)) fun t43=>
 Z0 (Z5 .add x6 t43) fun t44=>
 P8 x0 x1 x2 t44 x9 H0 H:=Z9 [3,7,9,10,12,13,15,16,17,18,20,21] (by kernel_rfl)
theorem HI:P9 x0 x1 x2 x6 x9 x10 H0 H =
 Z0 (Z5 .eql x9 x1) fun t36=>
 Zk t36
  (Z0 (Z5 .add x6 x10) fun t40=>
  some ((.tuple [x6,t40,(.bool true)]),H))
  (Pa x0 x1 x2 x6 x9 x10 H0 H):=Z9 [3,7,9,10,12,13,15,16,17,18,20,21] (by kernel_rfl)
theorem IH:Qn x0 x1 x2 x6 x9 H0 H =
 Z0 (ZX x0 (some x6) none none) fun t22=>
 Z0 (Yg .u8 x2) fun t24=>
 Z0 (QJ [t22,t24] H) fun r25=>
 Z0 (Z5 .lss r25.1 (.int .i64 0)) fun t27=>
 Zk t27
  (Z0 (Zj .string x0) fun t30=>
  Z0 (Z5 .eql x9 x1) fun t33=>
  some ((.tuple [x6,t30,t33]),r25.2))
  (P9 x0 x1 x2 x6 x9 r25.1 H0 r25.2):=(Zx (C:=cfg) [3,7,9,10,12,13,15,16,17,18,20,21] (Zm 0 (Ci H0)) _ _).trans (by kernel_rfl)
theorem Ob:QP [p0,p1,p2] H=Lh p0 p1 p2 H:=(Zd (C:=cfg) (fn:=Tryz.f160) (c:=Z1 Tryz.f160) (n:=83) [3,7,9,10,12,13,15,16,17,18,20,21] Tryz.func160 (by kernel_rfl) (by kernel_rfl) [p0,p1,p2] (by kernel_rfl) H).trans (by kernel_rfl)
noncomputable def SH:Z4:=Y1 cfg (Za cfg) (ZQ cfg (cfg.keep 162) 84) (cfg.keep 162) 84 Zb Z7 (sub (Z1 Tryz.f162) [1,1,1,1,1,1,1,1]) (Zf cfg 84 162 Tryz.f162 H0) [(0,x0),(11,x11),(12,x12)] H
noncomputable def UD:Z4:=Y1 cfg (Za cfg) (ZQ cfg (cfg.keep 162) 84) (cfg.keep 162) 84 Zb Z7 (sub (Z1 Tryz.f162) [1,1,1,1,1,1,1]) (Zf cfg 84 162 Tryz.f162 H0) [(0,x0),(11,x11),(12,x12)] H
noncomputable def SG:Z4:=Y1 cfg (Za cfg) (ZQ cfg (cfg.keep 162) 84) (cfg.keep 162) 84 Zb Z7 (sub (Z1 Tryz.f162) [1,1,1,1]) (Zf cfg 84 162 Tryz.f162 H0) [(0,x0),(4,x4),(7,x7),(8,x8),(9,x9)] H
noncomputable def A9:Z4:=
 Z0 (ZU p1 H) fun r4=>
 Z0 (PV [p0,p2] r4.2) fun r16=>
 Xl r4.1 r16.2 fun z4 z4H=>
 Z0 (Z8 0 z4) fun t17=>
 Z0 (Z3 false 1 t17 z4H) fun t18=>
 Z0 (Pd [t18,(.int .i64 1)] z4H) fun r19=>
 Z0 (Z8 1 z4) fun t20=>
 Z0 (Yi false 1 t20) fun t21=>
 Z0 (Pd [t21,(.int .i64 1)] r19.2) fun r22=>
 Z0 (Zj (.slice 228) r16.1) fun t25=>
 Z0 (Z5 .gtr r19.1 t25) fun t26=>
 Zk t26
  (some ((.str []),r22.2))
  (SG p0 z4 r16.1 r19.1 r22.1 H r22.2)
theorem ZbZ:SH x0 x11 x12 H0 H =
 Z0 (ZX x0 (some x11) (some x12) none) fun t83=>
 some (t83,H):=Z9 [5,12,14] (by kernel_rfl)
theorem ZbY:UD x0 x11 x12 H0 H =
 Z0 (Z5 .leq x12 x11) fun t79=>
 Zk t79
  (some ((.str []),H))
  (SH x0 x11 x12 H0 H):=Z9 [5,12,14] (by kernel_rfl)
theorem ZbX:SG x0 x4 x7 x8 x9 H0 H =
 Z0 (Z5 .sub x8 (.int .i64 1)) fun t29=>
 Z0 (Zl 2 x7 t29) fun t30=>
 Z0 (Z3 true 2 t30 H) fun t31=>
 Z0 (some ((.ptr H.length 0),H++[.cells [(.int .i64 0),(.int .i64 0)]])) fun r10=>
 Z0 (Zi 2 r10.1 t31 r10.2) fun r_14=>
 Xl r10.1 r_14.2 fun z10 z10H=>
 Z0 (Z8 0 z10) fun t32=>
 Z0 (Yi false 1 t32) fun t33=>
 Z0 (Z5 .sub x9 (.int .i64 1)) fun t35=>
 Z0 (Z8 1 z10) fun t36=>
 Z0 (Z3 false 1 t36 z10H) fun t37=>
 Z0 (Z8 0 z10) fun t38=>
 Z0 (Z3 false 1 t38 z10H) fun t39=>
 Z0 (Z5 .sub t37 t39) fun t40=>
 Z0 (R8 [t35,t40] z10H) fun r41=>
 Z0 (Z5 .add t33 r41.1) fun t42=>
 Z0 (Zj .string x0) fun t44=>
 Z0 (Z8 2 x4) fun t45=>
 Z0 (Z3 false 1 t45 r41.2) fun t46=>
 Z0 (Z5 .gtr t46 (.int .i64 0)) fun t47=>
 Z0 (Z6 t47 true (.tuple []) (Z8 2 x4)) fun t49=>
 Z0 (Z6 t47 true (.tuple []) (Z3 false 1 t49 r41.2)) fun t50=>
 Z0 (Z6 t47 true (.tuple []) (some x7)) fun t51=>
 Z0 (Z6 t47 true (.tuple []) (Zj (.slice 228) t51)) fun t52=>
 Z0 (Z6 t47 true (.tuple []) (Z5 .leq t50 t52)) fun t53=>
 Z0 (Zg t47 t53 (.bool false)) fun t54=>
 Zk t54
  (Z0 (Z8 2 x4) fun t56=>
  Z0 (Z3 false 1 t56 r41.2) fun t57=>
  Z0 (Z5 .sub t57 (.int .i64 1)) fun t58=>
  Z0 (Zl 2 x7 t58) fun t59=>
  Z0 (Z3 true 2 t59 r41.2) fun t60=>
  Z0 (some ((.ptr r41.2.length 0),r41.2++[.cells [(.int .i64 0),(.int .i64 0)]])) fun r13=>
  Z0 (Zi 2 r13.1 t60 r13.2) fun r_44=>
  Z0 (Z8 1 r13.1) fun t61=>
  Z0 (Z3 false 1 t61 r_44.2) fun t62=>
  Z0 (Z8 3 x4) fun t63=>
  Z0 (Z3 false 1 t63 r_44.2) fun t64=>
  Z0 (Z5 .gtr t64 (.int .i64 0)) fun t65=>
  Zk t65
   (Xl r13.1 r_44.2 fun z13 z13H=>
   Z0 (Z8 0 z13) fun t66=>
   Z0 (Yi false 1 t66) fun t67=>
   Z0 (Z8 3 x4) fun t68=>
   Z0 (Z3 false 1 t68 z13H) fun t69=>
   Z0 (Z8 1 z13) fun t70=>
   Z0 (Z3 false 1 t70 z13H) fun t71=>
   Z0 (Z8 0 z13) fun t72=>
   Z0 (Z3 false 1 t72 z13H) fun t73=>
   Z0 (Z5 .sub t71 t73) fun t74=>
   Z0 (R8 [t69,t74] z13H) fun r75=>
   Z0 (Z5 .add t67 r75.1) fun t76=>
   UD x0 t42 t76 H0 r75.2)
   (UD x0 t42 t62 H0 r_44.2))
  (UD x0 t42 t44 H0 r41.2):=Z9 [5,12,14] (by kernel_rfl)
theorem Zd5:Gv [p0,p1,p2] H=A9 p0 p1 p2 H:=(Zd (C:=cfg) (fn:=Tryz.f162) (c:=Z1 Tryz.f162) (n:=84) [5,12,14] Tryz.func162 (by kernel_rfl) (by kernel_rfl) [p0,p1,p2] (by kernel_rfl) H).trans (by kernel_rfl)
noncomputable def Lg:Z4:=
 Z0 (Z5 .eql p0 (.int .u8 32)) fun t4=>
 Z0 (Z6 t4 false (.tuple []) (some p0)) fun t6=>
 Z0 (Z6 t4 false (.tuple []) (Z5 .eql t6 (.int .u8 9))) fun t7=>
 Z0 (Zg t4 (.bool true) t7) fun t8=>
 some (t8,H)
theorem Oa:WB [p0] H=Lg p0 H:=(Zd (C:=cfg) (fn:=Tryz.f195) (c:=Z1 Tryz.f195) (n:=9) [] Tryz.func195 (by kernel_rfl) (by kernel_rfl) [p0] (by kernel_rfl) H).trans (by kernel_rfl)
noncomputable def F4:Z4:=
 Z0 (V7 [p0,p1] H) fun r7=>
 some (r7.1,r7.2)
theorem Ep:QJ [p0,p1] H=F4 p0 p1 H:=(Zd (C:=cfg) (fn:=Tryz.f198) (c:=Z1 Tryz.f198) (n:=8) [] Tryz.func198 (by kernel_rfl) (by kernel_rfl) [p0,p1] (by kernel_rfl) H).trans (by kernel_rfl)
noncomputable def Tn:Z4:=Y1 cfg (Za cfg) (ZQ cfg (cfg.keep 201) 78) (cfg.keep 201) 78 Zb Z7 (sub (Z1 Tryz.f201) [1,1,1,1,1,1]) (Zf cfg 78 201 Tryz.f201 H0) [(5,x5)] H
noncomputable def Aw:Z4:=Y1 cfg (Za cfg) (ZQ cfg (cfg.keep 201) 78) (cfg.keep 201) 78 Zb Z7 (sub (Z1 Tryz.f201) [1,1,1,1,1]) (Zf cfg 78 201 Tryz.f201 H0) [(0,x0),(5,x5),(6,x6)] H
noncomputable def GM:KL:=Zb (fun k al H=>Y1 cfg (Za cfg) (ZQ cfg (cfg.keep 201) 78) (cfg.keep 201) 78 Zb Z7 (sub (Z1 Tryz.f201) [1,1,1,1,1]) k (ZP (cfg.keep 201) (sub (Z1 Tryz.f201) [1,1,1,1,1]) al) H) (Zf cfg 78 201 Tryz.f201 H0)
theorem OS:ZL 78 (GM H0):=Zu (C:=cfg) (kp:=cfg.keep 201) (sub (Z1 Tryz.f201) [1,1,1,1,1]) (Zv 201 Tryz.f201 H0)
noncomputable def GL:Z4:=Y1 cfg (Za cfg) (ZQ cfg (cfg.keep 201) 78) (cfg.keep 201) 78 Zb Z7 (sub (Z1 Tryz.f201) [1,1,1,1,0,1,0,0,1,1]) (Zb (fun k al H=>ZQ cfg (cfg.keep 201) 78 (sub (Z1 Tryz.f201) [1,1,1,1,0,1,0,0]) k (ZP (cfg.keep 201) (sub (Z1 Tryz.f201) [1,1,1,1,0,1,0,0]) al) H) (Z7 2 (GM H0))) [(0,x0),(5,x5),(6,x6),(8,x8)] H
noncomputable def Ax:Z4:=Y1 cfg (Za cfg) (ZQ cfg (cfg.keep 201) 78) (cfg.keep 201) 78 Zb Z7 (sub (Z1 Tryz.f201) [1,1,1,1,0,1,0,0,1]) (Zb (fun k al H=>ZQ cfg (cfg.keep 201) 78 (sub (Z1 Tryz.f201) [1,1,1,1,0,1,0,0]) k (ZP (cfg.keep 201) (sub (Z1 Tryz.f201) [1,1,1,1,0,1,0,0]) al) H) (Z7 2 (GM H0))) [(0,x0),(5,x5),(6,x6),(8,x8)] H
noncomputable def GO:Z4:=ZQ cfg (cfg.keep 201) 78 (sub (Z1 Tryz.f201) [1,1,1,1,0,1,0,0]) (Z7 2 (GM H0)) [(0,x0),(5,x5),(6,x6),(8,x8)] H
noncomputable def Tm:Z4:=Y1 cfg (Za cfg) (ZQ cfg (cfg.keep 201) 78) (cfg.keep 201) 78 Zb Z7 (sub (Z1 Tryz.f201) [1,1,1,1]) (Zf cfg 78 201 Tryz.f201 H0) [(0,x0),(5,x5),(6,x6)] H
noncomputable def Tp:KL:=Zb (fun k al H=>Y1 cfg (Za cfg) (ZQ cfg (cfg.keep 201) 78) (cfg.keep 201) 78 Zb Z7 (sub (Z1 Tryz.f201) [1,1,1,1]) k (ZP (cfg.keep 201) (sub (Z1 Tryz.f201) [1,1,1,1]) al) H) (Zf cfg 78 201 Tryz.f201 H0)
theorem OT:ZL 78 (Tp H0):=Zu (C:=cfg) (kp:=cfg.keep 201) (sub (Z1 Tryz.f201) [1,1,1,1]) (Zv 201 Tryz.f201 H0)
noncomputable def Ay:Z4:=Y1 cfg (Za cfg) (ZQ cfg (cfg.keep 201) 78) (cfg.keep 201) 78 Zb Z7 (sub (Z1 Tryz.f201) [1,1,1,0,1,0,1]) (Tp H0) [(0,x0),(5,x5),(6,x6)] H
noncomputable def GN:KL:=Zb (fun k al H=>Y1 cfg (Za cfg) (ZQ cfg (cfg.keep 201) 78) (cfg.keep 201) 78 Zb Z7 (sub (Z1 Tryz.f201) [1,1,1,0,1,0,1]) k (ZP (cfg.keep 201) (sub (Z1 Tryz.f201) [1,1,1,0,1,0,1]) al) H) (Tp H0)
theorem OU:ZL 78 (GN H0):=Zu (C:=cfg) (kp:=cfg.keep 201) (sub (Z1 Tryz.f201) [1,1,1,0,1,0,1]) (OT H0)
noncomputable def To:Z4:=Y1 cfg (Za cfg) (ZQ cfg (cfg.keep 201) 78) (cfg.keep 201) 78 Zb Z7 (sub (Z1 Tryz.f201) [1,1,1,0,1,0,0,1,0,0,1,1]) (Zb (fun k al H=>ZQ cfg (cfg.keep 201) 78 (sub (Z1 Tryz.f201) [1,1,1,0,1,0,0,1,0,0]) k (ZP (cfg.keep 201) (sub (Z1 Tryz.f201) [1,1,1,0,1,0,0,1,0,0]) al) H) (Z7 0 (GN H0))) [(0,x0),(1,x1),(5,x5),(6,x6),(7,x7)] H
noncomputable def Az:Z4:=Y1 cfg (Za cfg) (ZQ cfg (cfg.keep 201) 78) (cfg.keep 201) 78 Zb Z7 (sub (Z1 Tryz.f201) [1,1,1,0,1,0,0,1,0,0,1]) (Zb (fun k al H=>ZQ cfg (cfg.keep 201) 78 (sub (Z1 Tryz.f201) [1,1,1,0,1,0,0,1,0,0]) k (ZP (cfg.keep 201) (sub (Z1 Tryz.f201) [1,1,1,0,1,0,0,1,0,0]) al) H) (Z7 0 (GN H0))) [(0,x0),(1,x1),(5,x5),(6,x6),(7,x7)] H
noncomputable def GP:Z4:=ZQ cfg (cfg.keep 201) 78 (sub (Z1 Tryz.f201) [1,1,1,0,1,0,0,1,0,0]) (Z7 0 (GN H0)) [(0,x0),(1,x1),(5,x5),(6,x6),(7,x7)] H
noncomputable def O0:Z4:=
 Z0 (Z5 .geq p1 (.int .i64 0)) fun t10=>
 Z0 (Z6 t10 true (.tuple []) (some p1)) fun t12=>
 Z0 (Z6 t10 true (.tuple []) (Z5 .leq t12 (.int .i64 255))) fun t13=>
 Z0 (Zg t10 t13 (.bool false)) fun t14=>
 Zk t14
  (GP p0 p1 .nils (.int .i64 0) (.int .i64 0) H H)
  (Tm p0 .nils (.int .i64 0) H H)
theorem NA:Tn x5 H0 H =
 some (x5,H):=Z9 [6,7,10,11,13,14,17,19] (by kernel_rfl)
theorem Nz:Aw x0 x5 x6 H0 H =
 Z0 (Zj .string x0) fun t68=>
 Z0 (Z5 .gtr t68 (.int .i64 0)) fun t69=>
 Zk t69
  (Z0 (Zj .string x0) fun t73=>
  Z0 ((Yn [(0,1,x6),(1,1,t73)] [(.int .i64 0),(.int .i64 0)]).map .agg) fun t74=>
  Z0 ((Zz 2 [(0,t74)] [(.agg [(.int .i64 0),(.int .i64 0)])]).map (.vs 2 .clip)) fun t75=>
  Z0 (ZS 2 16 x5 t75 H) fun r76=>
  Tn r76.1 H0 r76.2)
  (Tn x5 H0 H):=Z9 [6,7,10,11,13,14,17,19] (by kernel_rfl)
theorem NB:GL x0 x5 x6 x8 H0 H =
 Z0 (Z5 .add x8 (.int .i64 1)) fun t47=>
 GO x0 x5 x6 t47 H0 H:=Z9 [6,7,10,11,13,14,17,19] (by kernel_rfl)
theorem ZdA:Ax x0 x5 x6 x8 H0 H =
 Z0 (Zr x0 x8) fun t50=>
 Z0 (U8 [t50] H) fun r51=>
 Z0 (Z6 r51.1 true (.tuple []) (some x0)) fun t53=>
 Z0 (Z6 r51.1 true (.tuple []) (some x8)) fun t54=>
 Z0 (Z6 r51.1 true (.tuple []) (Z5 .sub t54 (.int .i64 1))) fun t55=>
 Z0 (Z6 r51.1 true (.tuple []) (Zr t53 t55)) fun t56=>
 Z0 (Z6 r51.1 true ((.tuple []),r51.2) (U8 [t56] r51.2)) fun r57=>
 Z0 (Z6 r51.1 true (.tuple []) (X9 .not r57.1)) fun t58=>
 Z0 (Zg r51.1 t58 (.bool false)) fun t59=>
 Zk t59
  (Z0 ((Yn [(0,1,x6),(1,1,x8)] [(.int .i64 0),(.int .i64 0)]).map .agg) fun t63=>
  Z0 ((Zz 2 [(0,t63)] [(.agg [(.int .i64 0),(.int .i64 0)])]).map (.vs 2 .clip)) fun t64=>
  Z0 (ZS 2 16 x5 t64 r57.2) fun r65=>
  GL x0 r65.1 x8 x8 H0 r65.2)
  (GL x0 x5 x6 x8 H0 r57.2):=Z9 [6,7,10,11,13,14,17,19] (by kernel_rfl)
theorem GX:GO x0 x5 x6 x8 H0 H =
 Z0 (Zj .string x0) fun t44=>
 Z0 (Z5 .lss x8 t44) fun t45=>
 Zk t45
  (Ax x0 x5 x6 x8 H0 H)
  (Aw x0 x5 x6 H0 H):=(Zx (C:=cfg) [6,7,10,11,13,14,17,19] (Zm 2 (OS H0)) _ _).trans (by kernel_rfl)
theorem Zdz:Tm x0 x5 x6 H0 H =
 GO x0 x5 x6 (.int .i64 1) H0 H:=Z9 [6,7,10,11,13,14,17,19] (by kernel_rfl)
theorem ZdB:Ay x0 x5 x6 H0 H =
 Z0 (Zj .string x0) fun t38=>
 Z0 ((Yn [(0,1,x6),(1,1,t38)] [(.int .i64 0),(.int .i64 0)]).map .agg) fun t39=>
 Z0 ((Zz 2 [(0,t39)] [(.agg [(.int .i64 0),(.int .i64 0)])]).map (.vs 2 .clip)) fun t40=>
 Z0 (ZS 2 16 x5 t40 H) fun r41=>
 some (r41.1,r41.2):=Z9 [6,7,10,11,13,14,17,19] (by kernel_rfl)
theorem NC:To x0 x1 x5 x6 x7 H0 H =
 Z0 (Z5 .add x7 (.int .i64 1)) fun t20=>
 GP x0 x1 x5 x6 t20 H0 H:=Z9 [6,7,10,11,13,14,17,19] (by kernel_rfl)
theorem ZdC:Az x0 x1 x5 x6 x7 H0 H =
 Z0 (Zr x0 x7) fun t23=>
 Z0 (Yg .i64 t23) fun t24=>
 Z0 (Z5 .eql t24 x1) fun t26=>
 Zk t26
  (Z0 ((Yn [(0,1,x6),(1,1,x7)] [(.int .i64 0),(.int .i64 0)]).map .agg) fun t30=>
  Z0 ((Zz 2 [(0,t30)] [(.agg [(.int .i64 0),(.int .i64 0)])]).map (.vs 2 .clip)) fun t31=>
  Z0 (ZS 2 16 x5 t31 H) fun r32=>
  Z0 (Z5 .add x7 (.int .i64 1)) fun t34=>
  To x0 x1 r32.1 t34 x7 H0 r32.2)
  (To x0 x1 x5 x6 x7 H0 H):=Z9 [6,7,10,11,13,14,17,19] (by kernel_rfl)
theorem ND:GP x0 x1 x5 x6 x7 H0 H =
 Z0 (Zj .string x0) fun t17=>
 Z0 (Z5 .lss x7 t17) fun t18=>
 Zk t18
  (Az x0 x1 x5 x6 x7 H0 H)
  (Ay x0 x5 x6 H0 H):=(Zx (C:=cfg) [6,7,10,11,13,14,17,19] (Zm 0 (OU H0)) _ _).trans (by kernel_rfl)
theorem Zew:PV [p0,p1] H=O0 p0 p1 H:=(Zd (C:=cfg) (fn:=Tryz.f201) (c:=Z1 Tryz.f201) (n:=78) [6,7,10,11,13,14,17,19] Tryz.func201 (by kernel_rfl) (by kernel_rfl) [p0,p1] (by kernel_rfl) H).trans (by kernel_rfl)
noncomputable def ZcD:Z4:=Y1 cfg (Za cfg) (ZQ cfg (cfg.keep 202) 10) (cfg.keep 202) 10 Zb Z7 (sub (Z1 Tryz.f202) [1,1]) (Zf cfg 10 202 Tryz.f202 H0) [(1,x1)] H
noncomputable def Zex:Z4:=
 Z0 (Z5 .gtr p0 p1) fun t7=>
 Zk t7
  (some (p0,H))
  (ZcD p1 H H)
theorem ZhB:ZcD x1 H0 H =
 some (x1,H):=Z9 [3] (by kernel_rfl)
theorem Zj1:Pd [p0,p1] H=Zex p0 p1 H:=(Zd (C:=cfg) (fn:=Tryz.f202) (c:=Z1 Tryz.f202) (n:=10) [3] Tryz.func202 (by kernel_rfl) (by kernel_rfl) [p0,p1] (by kernel_rfl) H).trans (by kernel_rfl)
noncomputable def OW:Z4:=Y1 cfg (Za cfg) (ZQ cfg (cfg.keep 203) 10) (cfg.keep 203) 10 Zb Z7 (sub (Z1 Tryz.f203) [1,1]) (Zf cfg 10 203 Tryz.f203 H0) [(1,x1)] H
noncomputable def Zco:Z4:=
 Z0 (Z5 .lss p0 p1) fun t7=>
 Zk t7
  (some (p0,H))
  (OW p1 H H)
theorem Zfm:OW x1 H0 H =
 some (x1,H):=Z9 [3] (by kernel_rfl)
theorem Zhl:R8 [p0,p1] H=Zco p0 p1 H:=(Zd (C:=cfg) (fn:=Tryz.f203) (c:=Z1 Tryz.f203) (n:=10) [3] Tryz.func203 (by kernel_rfl) (by kernel_rfl) [p0,p1] (by kernel_rfl) H).trans (by kernel_rfl)
noncomputable def Vb:Z4:=
 Z0 (Zar .indexByte [p0,p1] H) fun r7=>
 some (r7.1,r7.2)
theorem JG:V7 [p0,p1] H=Vb p0 p1 H:=(Zd (C:=cfg) (fn:=Tryz.f230) (c:=Z1 Tryz.f230) (n:=8) [] Tryz.func230 (by kernel_rfl) (by kernel_rfl) [p0,p1] (by kernel_rfl) H).trans (by kernel_rfl)
noncomputable def Zcn:Z4:=
 Z0 (Z5 .eql p0 (.int .u8 32)) fun t4=>
 Z0 (Z6 t4 false (.tuple []) (some p0)) fun t6=>
 Z0 (Z6 t4 false (.tuple []) (Z5 .eql t6 (.int .u8 9))) fun t7=>
 Z0 (Zg t4 (.bool true) t7) fun t8=>
 some (t8,H)
theorem Zhk:U8 [p0] H=Zcn p0 H:=(Zd (C:=cfg) (fn:=Tryz.f232) (c:=Z1 Tryz.f232) (n:=9) [] Tryz.func232 (by kernel_rfl) (by kernel_rfl) [p0] (by kernel_rfl) H).trans (by kernel_rfl)
theorem ZdG (a b args:List AV)(H:Hp):Yr cfg (Za cfg) (.fn (.func 84) a b) args H=Zc PY (a++args++b) H:=by kernel_rfl
theorem ZdH (a b args:List AV)(H:Hp):Yr cfg (Za cfg) (.fn (.func 85) a b) args H=Zc PZ (a++args++b) H:=by kernel_rfl
theorem Za7 (a b args:List AV)(H:Hp):Yr cfg (Za cfg) (.fn (.func 148) a b) args H=Zc VK (a++args++b) H:=by kernel_rfl
theorem Oj (a b args:List AV)(H:Hp):Xk cfg (Za cfg) (.fn (.func 148) a b) args H=Zc VK (a++args++b) H:=by kernel_rfl
theorem CA (a b args:List AV)(H:Hp):Yr cfg (Za cfg) (.fn (.func 150) a b) args H=UW (a++args++b) H:=by kernel_rfl
theorem Zc5 (a b args:List AV)(H:Hp):Yr cfg (Za cfg) (.fn (.func 154) a b) args H=Kv (a++args++b) H:=by kernel_rfl
theorem ZbJ (a b args:List AV)(H:Hp):Xk cfg (Za cfg) (.fn (.func 155) a b) args H=Zc Kw (a++args++b) H:=by kernel_rfl
theorem Zhv (a b args:List AV)(H:Hp):Xk cfg (Za cfg) (.fn (.func 157) a b) args H=Zc FC (a++args++b) H:=by kernel_rfl
theorem ZbK (a b args:List AV)(H:Hp):Xk cfg (Za cfg) (.fn (.func 158) a b) args H=Zc Kx (a++args++b) H:=by kernel_rfl
theorem ZvO:∀ f∈userList,Za6 Tryz.prog f:=
 Z2 Tryz.call3 (
 Z2 Tryz.call4 (
 Z2 Tryz.call5 (
 Z2 Tryz.call6 (
 Z2 Tryz.call7 (
 Z2 Tryz.call8 (
 Z2 Tryz.call9 (
 Z2 Tryz.call10 (
 Z2 Tryz.call11 (
 Z2 Tryz.call12 (
 Z2 Tryz.call13 (
 Z2 Tryz.call14 (
 Z2 Tryz.call15 (
 Z2 Tryz.call16 (
 Z2 Tryz.call17 (
 Z2 Tryz.call18 (
 Z2 Tryz.call19 (
 Z2 Tryz.call20 (
 Z2 Tryz.call21 (
 Z2 Tryz.call22 (
 Z2 Tryz.call23 (
 Z2 Tryz.call24 (
 Z2 Tryz.call25 (
 Z2 Tryz.call26 (
 Z2 Tryz.call27 (
 Z2 Tryz.call28 (
 Z2 Tryz.call29 (
 Z2 Tryz.call30 (
 Z2 Tryz.call31 (
 Z2 Tryz.call32 (
 Z2 Tryz.call33 (
 Z2 Tryz.call34 (
 Z2 Tryz.call35 (
 Z2 Tryz.call36 (
 Z2 Tryz.call37 (
 Z2 Tryz.call38 (
 Z2 Tryz.call39 (
 Z2 Tryz.call40 (
 Z2 Tryz.call41 (
 Z2 Tryz.call42 (
 Z2 Tryz.call43 (
 Z2 Tryz.call44 (
 Z2 Tryz.call45 (
 Z2 Tryz.call46 (
 Z2 Tryz.call47 (
 Z2 Tryz.call48 (
 Z2 Tryz.call49 (
 Z2 Tryz.call50 (
 Z2 Tryz.call51 (
 Z2 Tryz.call52 (
 Z2 Tryz.call53 (
 Z2 Tryz.call54 (
 Z2 Tryz.call55 (
 Z2 Tryz.call56 (
 Z2 Tryz.call57 (
 Z2 Tryz.call58 (
 Z2 Tryz.call59 (
 Z2 Tryz.call60 (
 Z2 Tryz.call61 (
 Z2 Tryz.call62 (
 Z2 Tryz.call63 (
 Z2 Tryz.call64 (
 Z2 Tryz.call65 (
 Z2 Tryz.call66 (
 Z2 Tryz.call67 (
 Z2 Tryz.call68 (
 Z2 Tryz.call69 (
 Z2 Tryz.call70 (
 Z2 Tryz.call71 (
 Z2 Tryz.call72 (
 Z2 Tryz.call73 (
 Z2 Tryz.call74 (
 Z2 Tryz.call75 (
 Z2 Tryz.call76 (
 Z2 Tryz.call77 (
 Z2 Tryz.call78 (
 Z2 Tryz.call79 (
 Z2 Tryz.call80 (
 Z2 Tryz.call81 (
 Z2 Tryz.call82 (
 Z2 Tryz.call83 (
 Z2 Tryz.call84 (
 Z2 Tryz.call85 (
 Z2 Tryz.call86 (
 Z2 Tryz.call87 (
 Z2 Tryz.call88 (
 Z2 Tryz.call89 (
 Z2 Tryz.call90 (
 Z2 Tryz.call91 (
 Z2 Tryz.call92 (
 Z2 Tryz.call93 (
 Z2 Tryz.call94 (
 Z2 Tryz.call95 (
 Z2 Tryz.call96 (
 Z2 Tryz.call97 (
 Z2 Tryz.call98 (
 Z2 Tryz.call99 (
 Z2 Tryz.call100 (
 Z2 Tryz.call101 (
 Z2 Tryz.call102 (
 Z2 Tryz.call103 (
 Z2 Tryz.call104 (
 Z2 Tryz.call105 (
 Z2 Tryz.call106 (
 Z2 Tryz.call107 (
 Z2 Tryz.call108 (
 Z2 Tryz.call109 (
 Z2 Tryz.call110 (
 Z2 Tryz.call111 (
 Z2 Tryz.call112 (
 Z2 Tryz.call113 (
 Z2 Tryz.call114 (
 Z2 Tryz.call115 (
 Z2 Tryz.call116 (
 Z2 Tryz.call117 (
 Z2 Tryz.call118 (
 Z2 Tryz.call119 (
 Z2 Tryz.call120 (
 Z2 Tryz.call121 (
 Z2 Tryz.call122 (
 Z2 Tryz.call123 (
 Z2 Tryz.call124 (
 Z2 Tryz.call125 (
 Z2 Tryz.call126 (
 Z2 Tryz.call127 (
 Z2 Tryz.call128 (
 Z2 Tryz.call129 (
 Z2 Tryz.call130 (
 Z2 Tryz.call131 (
 Z2 Tryz.call132 (
 Z2 Tryz.call133 (
 Z2 Tryz.call134 (
 Z2 Tryz.call135 (
 Z2 Tryz.call136 (
 Z2 Tryz.call137 (
 Z2 Tryz.call138 (
 Z2 Tryz.call139 (
 Z2 Tryz.call140 (
 Z2 Tryz.call141 (
 Z2 Tryz.call142 (
 Z2 Tryz.call143 (
 Z2 Tryz.call144 (
 Z2 Tryz.call145 (
 Z2 Tryz.call146 (
 Z2 Tryz.call147 (
 Z2 Tryz.call148 (
 Z2 Tryz.call149 (
 Z2 Tryz.call150 (
 Z2 Tryz.call151 (
 Z2 Tryz.call152 (
 Z2 Tryz.call153 (
 Z2 Tryz.call154 (
 Z2 Tryz.call155 (
 Z2 Tryz.call156 (
 Z2 Tryz.call157 (
 Z2 Tryz.call158 (
 Z2 Tryz.call159 (
 Z2 Tryz.call160 (
 Z2 Tryz.call161 (
 Z2 Tryz.call162 (
 Z2 Tryz.call163 (
 Z2 Tryz.call164 (
 Z2 Tryz.call165 (
 Z2 Tryz.call166 (
 Z2 Tryz.call167 (
 Z2 Tryz.call168 (
 Z2 Tryz.call169 (
 Z2 Tryz.call170 (
 Z2 Tryz.call171 (
 Z2 Tryz.call172 (
 Z2 Tryz.call173 (
 Z2 Tryz.call174 (
 Z2 Tryz.call175 (
 Z2 Tryz.call176 (
 Z2 Tryz.call177 (
 Z2 Tryz.call178 (
 Z2 Tryz.call179 (
 Z2 Tryz.call180 (
 Z2 Tryz.call181 (
 Z2 Tryz.call182 (
 Z2 Tryz.call183 (
 Z2 Tryz.call184 (
 Z2 Tryz.call185 (
 Z2 Tryz.call186 (
 Z2 Tryz.call187 (
 Z2 Tryz.call188 (
 Z2 Tryz.call189 (
 Z2 Tryz.call190 (
 Z2 Tryz.call191 (
 Z2 Tryz.call192 (
 Z2 Tryz.call193 (
 Z2 Tryz.call194 (
 Z2 Tryz.call195 (
 Z2 Tryz.call196 (
 Z2 Tryz.call197 (
 Z2 Tryz.call198 (
 Z2 Tryz.call199 (
 Z2 Tryz.call200 (
 Z2 Tryz.call201 (
 Z2 Tryz.call202 (
 Z2 Tryz.call203 (
 Z2 Tryz.call204 (
 Z2 Tryz.call205 (
 Z2 Tryz.call206 (
 Z2 Tryz.call207 (
 Z2 Tryz.call208 (
 Z2 Tryz.call209 (
 Z2 Tryz.call210 (
 Z2 Tryz.call211 (
 Z2 Tryz.call212 (
 Z2 Tryz.call213 (
 Z2 Tryz.call214 (
 Z2 Tryz.call215 (
 Z2 Tryz.call216 (
 Z2 Tryz.call217 (
 Z2 Tryz.call218 (
 Z2 Tryz.call219 (
 Z2 Tryz.call220 (
 Z2 Tryz.call221 (
 Z2 Tryz.call222 (
 Z2 Tryz.call223 (
 Z2 Tryz.call224 (
 Z2 Tryz.call226 (
 Z2 Tryz.call227 (
 Z2 Tryz.call228 (
 Z2 Tryz.call229 (
 Z2 Tryz.call230 (
 Z2 Tryz.call231 (
 Z2 Tryz.call232 (
 Z2 Tryz.call233 (
 Z2 Tryz.call234 (
 Z2 Tryz.call235 (
 Z2 Tryz.call236 (
 Z2 Tryz.call237 (
 Z2 Tryz.call238 (
 Z2 Tryz.call240 (
 Z2 Tryz.call241 (
 Z2 Tryz.call242 (
 Z2 Tryz.call243 (
 Z2 Tryz.call244 (
 Z2 Tryz.call245 (
 Z2 Tryz.call246 (
 Z2 Tryz.call247 (
 Z2 Tryz.call248 (
 Z2 Tryz.call250 (
 Z2 Tryz.call251 (
 Z2 Tryz.call252 (
 Z2 Tryz.call253 (
 Z2 Tryz.call254 (
 Z2 Tryz.call255 (
 Z2 Tryz.call256 (
 Z2 Tryz.call257 (
 Z2 Tryz.call258 (
 Z2 Tryz.call259 (
 Z2 Tryz.call261 (
 Z2 Tryz.call262 (
 Z2 Tryz.call263 (
 Z2 Tryz.call264 (
 Z2 Tryz.call265 (
 Z2 Tryz.call266 (Zpa))))))))))))))))))))))))))))))))))))))))))))))))))))))))))))))))))))))))))))))))))))))))))))))))))))))))))))))))))))))))))))))))))))))))))))))))))))))))))))))))))))))))))))))))))))))))))))))))))))))))))))))))))))))))))))))))))))))))))))))))))))))))))))))))))))
theorem Zx8:∀ t∈eqList,Tryz.prog.stoodInHeld t=false∧Tryz.prog.eqGuardType Tryz.prog.depth t=false:=by
 intro t ht
 simp only[eqList,List.mem_cons,List.not_mem_nil,or_false]at ht
theorem Zqa (args:Array Value)(w:World):(callFunc 225 args).run Tryz.prog w=(do pure (.value (←EP .cmp args)):Sem Next).run Tryz.prog w:=by kernel_rfl
theorem Zqb (args:Array Value)(w:World):(callFunc 239 args).run Tryz.prog w=(do pure (.value (←EP .same args)):Sem Next).run Tryz.prog w:=by kernel_rfl
theorem Zqc (args:Array Value)(w:World):(callFunc 249 args).run Tryz.prog w=(do pure (.value (←EP .indexByte args)):Sem Next).run Tryz.prog w:=by kernel_rfl
theorem Zwm:∀ f e,cfg.ext f=some e→∀ (args:Array Value) (w:World),(callFunc f args).run Tryz.prog w=(do pure (.value (←EP e args)):Sem Next).run Tryz.prog w:=by
 intro f e h
 have h2:=Ho (l:=extList) h
 simp only[extList,List.mem_cons,Prod.mk.injEq,List.not_mem_nil,or_false]at h2
 rcases h2 with ⟨rfl,rfl⟩|⟨rfl,rfl⟩|⟨rfl,rfl⟩
 ·exact Zqa
 ·exact Zqb
 ·exact Zqc
theorem ZwQ:∀ f g,cfg.sum f=some g→cfg.user f=true∧Zjy cfg f g:=by
 intro f g h
 have h2:=Ho (l:=sumList) h
 simp only[sumList,List.mem_cons,Prod.mk.injEq,List.not_mem_nil,or_false]at h2
 rcases h2 with ⟨rfl,rfl⟩|⟨rfl,rfl⟩
 ·exact⟨by kernel_rfl,Zu3 (C:=cfg) rfl (fun _=>rfl)⟩
 ·exact⟨by kernel_rfl,Zti (C:=cfg) rfl (fun _=>rfl)⟩
theorem Zwi:∀ f g,cfg.eff f=some g→cfg.user f=true∧L8 cfg f g:=by
 intro f g h
 have h2:=Ho (l:=effList) h
 simp only[effList,List.mem_cons,Prod.mk.injEq,List.not_mem_nil,or_false]at h2
 rcases h2 with ⟨rfl,rfl⟩|⟨rfl,rfl⟩|⟨rfl,rfl⟩|⟨rfl,rfl⟩|⟨rfl,rfl⟩
 ·exact⟨by kernel_rfl,ZqS (C:=cfg) rfl (fun _=>rfl)⟩
 ·exact⟨by kernel_rfl,Zt5 (C:=cfg) rfl (fun _=>rfl)⟩
 ·exact⟨by kernel_rfl,Zu1 (C:=cfg) rfl (fun _=>rfl)⟩
 ·exact⟨by kernel_rfl,Zp5 (C:=cfg) rfl (fun _=>rfl)⟩
 ·exact⟨by kernel_rfl,Zsn (C:=cfg) rfl (fun _=>rfl)⟩
theorem Zw8:JZ cfg:=
 ⟨fun t h=>Zx8 t (List.contains_iff_mem.1 h),fun f h=>ZvO f (List.contains_iff_mem.1 h),by kernel_rfl,Zwm,ZwQ,Zwi⟩
end
end Go.Am
