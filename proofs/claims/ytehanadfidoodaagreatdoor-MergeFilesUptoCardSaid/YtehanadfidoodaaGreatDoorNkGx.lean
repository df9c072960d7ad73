/-
  The functions of the translation over the abstract machine: written by program (wip/gen.py).
-/
import Derived.Test.YtehanadfidoodaaGreatDoorProg
import Derived.Test.YtehanadfidoodaaGreatDoorNkPgx
namespace Go.Am
open Go.Proofs
set_option maxRecDepth 100000
set_option linter.unusedVariables false
set_option linter.unusedSimpArgs false
section
variable (p0 p1 p2 x0 x1 x2 x4 x6 x7 x8 x9 x10 x11 x33 x34 x35 x36:AV)(H0 H:Hp)
def Zbv:List (Nat×List (Nat×List Nat)):=[(14,[(3,[2,3,4]),(8,[2,3,7,8,9,10,11,12,13,14]),(9,[2,3,7,8,9,10,11,12,13,14]),(10,[2,3,7,8,9,10,11,12,13,14]),(11,[2,3,7,8,9,10,11,12,13]),(13,[2,3,7,8,11,13]),(1000016,[3,15]),(1000017,[3,15])]),
 (19,[(3,[2,3,4]),(7,[3,4,7,8,9,10]),(8,[3,4,7,8,9]),(9,[3,4,7,8,9,10]),(11,[3,4,9]),(13,[9]),(1000003,[3,4])]),
 (28,[(3,[0,1,2]),(5,[0,1,2]),(6,[0,1,2,18,19,20]),(7,[0,1,2,18,19,20,21]),(11,[0,1,2,18,19,20]),(12,[0,1,2])]),
 (30,[(3,[0,3,5,6]),(6,[0,3,5,6,10]),(9,[0,10]),(12,[10])]),
 (31,[(4,[0,1,2,3,4]),(5,[0,1,2,3,4]),(6,[0,1,2,3,4]),(9,[0,1,2,3,4,5,6]),(11,[0,1,2,3,4,5,6]),(14,[0,1,2,3])]),
 (32,[(3,[0,1])]),
 (33,[(4,[5,6,7])]),
 (34,[(3,[2,3,4]),(6,[7]),(1000003,[3,4])]),
 (36,[(3,[0]),(11,[0]),(13,[0])]),
 (38,[(1000003,[1,2])]),
 (39,[(4,[1,5,12,13]),(5,[1,5,12,13,14]),(8,[1,5,6,12,13]),(10,[1,5,12,13]),(11,[5])]),
 (41,[(2,[0,3]),(3,[0,3]),(4,[0,3]),(5,[0,3,4]),(6,[0,3,4]),(7,[0,3,4]),(9,[0,3]),(11,[0])]),
 (42,[(4,[2,3,4,5,11,12,13,14]),(5,[2,3,4,5,11,12,13,14]),(6,[2,3,4,5,11,13,14]),(12,[2,3,4,5,11,12,13,14,15]),(14,[2,3,4,5,11,12,13,14,15]),(15,[11,12,13])]),
 (43,[(3,[0,1,6,7]),(4,[0,1,6,7]),(5,[0,1,6,7]),(8,[0,1,6,7,8,9]),(11,[0,1,6,7,8]),(12,[6])]),
 (44,[(1000002,[4])]),
 (45,[(3,[0,1,5,6]),(4,[0,1,5,6]),(5,[0,1,5,6]),(6,[5])]),
 (46,[(3,[0,3,4]),(4,[0,3,4]),(5,[0,3,4]),(6,[3])]),
 (47,[(3,[0,1]),(4,[0,1,5]),(5,[0,1,5]),(6,[0,1,5]),(8,[])]),
 (53,[(3,[0]),(5,[0,3,10,11,12]),(6,[0,3,10,11,12,13]),(9,[0,3,10,11,12]),(10,[3])]),
 (59,[(3,[0]),(6,[0,5]),(7,[0,5])]),
 (60,[(3,[0,3,5,6]),(6,[0,3,5,6,10]),(8,[0,5,6,10,12,31,32,33]),(9,[0,5,6,10,12,31,32,33,34]),(11,[0,5,6,10,12,31,32,33]),(12,[0,5,6,10,12]),(13,[0,10,15]),(16,[0,10,15,16,17]),(17,[0,10,15,16]),(20,[0,10]),(23,[10])]),
 (61,[(3,[0])]),
 (64,[(3,[1]),(5,[1]),(6,[33,34,35]),(7,[33,34,35,36]),(10,[33,34,35]),(11,[])]),
 (65,[(3,[0,3,9,10,11]),(4,[0,3,9,10,11,12]),(8,[0,3,9,10,11]),(9,[0,3]),(11,[6,25,26,27]),(12,[6,25,26,27,28]),(14,[6,25,26,27]),(15,[6])]),
 (67,[(5,[2,3,4,5]),(8,[9])]),
 (68,[(3,[0])]),
 (69,[(3,[0,1,5,8,9,10]),(4,[0,1,5,8,9,10,11]),(7,[0,1,5,8,9,10]),(8,[5])]),
 (70,[(3,[1,5,8,9,10]),(4,[1,5,8,9,10,11]),(7,[1,5,8,9,10]),(8,[5])]),
 (72,[(4,[2,3,4,5]),(5,[2,3,4,5,26,27,28]),(6,[2,3,4,5,26,27,28,29]),(10,[2,3,4,5,10,11,26,27,28]),(13,[2,3,4,5,26,27,28]),(14,[]),(1000010,[4,5,10])]),
 (76,[(3,[0])]),
 (77,[(2,[0,7,8]),(3,[0,7,8,9]),(8,[0,7,8]),(9,[0])]),
 (78,[(4,[0,1,5]),(6,[5,6,21,22,23]),(7,[5,6,21,22,23,24]),(11,[5,6,21,22,23]),(12,[5])]),
 (80,[(3,[0]),(5,[0]),(9,[0,4])]),
 (81,[(4,[0,1,2]),(6,[0,1,2]),(9,[0,1,8]),(11,[0,1,8])]),
 (82,[(4,[0,1]),(7,[0,1])]),
 (83,[(3,[0,1]),(6,[1,6,7,8]),(7,[1,6,7,8]),(12,[6,7,8])]),
 (86,[(4,[0,1,2]),(7,[2,10]),(9,[2,10]),(12,[2,12,13])]),
 (102,[(5,[1,5,6,7,20,21,22]),(6,[1,5,6,7,20,21,22,23]),(10,[1,5,6,7,8,10,11,20,21,22]),(12,[1,5,6,7,20,21,22]),(13,[1,5,7]),(15,[1,5]),(18,[13])]),
 (103,[(3,[0,3,10,11,12]),(4,[0,3,10,11,12,13]),(7,[0,3,10,11,12]),(8,[3])]),
 (105,[(3,[1,2])]),
 (106,[(5,[1,2,8,9,24,25]),(6,[1,2,8,9,24,25,26]),(9,[1,2,8,9,10,24,25]),(11,[1,2,8,9,24,25]),(12,[1,2,8,9]),(14,[1,2,8,9]),(16,[1,2]),(1000002,[3])]),
 (107,[(4,[4,5,6,7,9]),(8,[4,5,6,7,9]),(1000011,[4])]),
 (108,[(4,[0,2,4,7,8]),(12,[0,7,10]),(14,[0,7,10])]),
 (116,[(3,[0,1]),(5,[0,1]),(8,[6])]),
 (119,[(11,[0,1]),(13,[0,1])]),
 (120,[(7,[])]),
 (121,[(3,[4,9,10,11]),(4,[4,9,10,11,12]),(8,[4,7,9,10,11]),(9,[4,9,10,11]),(10,[4])]),
 (122,[(4,[0,2,7]),(6,[0,2,7])]),
 (123,[(4,[6])]),
 (124,[(4,[2,3,10]),(6,[2,3,10])]),
 (125,[(3,[0,1]),(6,[1,7]),(9,[1,7,8]),(11,[1,7,8]),(13,[1,7,8])]),
 (127,[(3,[0]),(4,[0,3]),(5,[0,3]),(6,[0,3]),(9,[])]),
 (147,[(3,[1,2])]),
 (149,[(3,[1,2,3,6,16,17,18]),(4,[1,2,3,6,16,17,18,19]),(6,[1,2,3,6,16,17,18]),(7,[1,2,3,6]),(8,[1,2,3,6,9]),(9,[1,2,3,6,9]),(14,[1,2,3,6,9,10,11]),(15,[1,2,3,6,9,10])]),
 (152,[(2,[0,4]),(3,[0,4]),(4,[0,4]),(7,[0,4,5]),(14,[5,6,7,8,9]),(16,[5,7,8,9]),(19,[9,11])]),
 (153,[(5,[])]),
 (157,[(3,[0,3,7,8]),(4,[0,3,7,8,9]),(8,[0,3,7,8]),(9,[3])]),
 (160,[(3,[0,1,2,6,9]),(4,[0,1,2,6,9]),(7,[0,1,2,6,9,10]),(9,[0,1,2,6,9,10]),(10,[0,1,6]),(11,[0,1,6,11]),(12,[0,1,6,11]),(13,[0,1,6,11]),(14,[0,1,6,7,11]),(15,[0,1,6,7,11]),(16,[0,1,6,7,11]),(17,[0,1,6,7,11]),(18,[0,1,6,7,11]),(20,[0,1,7,11]),(21,[])]),
 (163,[(3,[1,2])]),
 (167,[(6,[0])]),
 (169,[(2,[0,7,8]),(3,[0,7,8,9]),(8,[0,7,8]),(9,[0])]),
 (170,[(3,[0])]),
 (185,[(2,[0,1,7,8]),(3,[0,1,7,8,9]),(6,[0,1,7,8]),(7,[])]),
 (186,[(3,[1]),(5,[1]),(6,[1,27,28,29]),(7,[1,27,28,29,30]),(10,[1,27,28,29]),(11,[1]),(14,[1])]),
 (187,[(3,[0,1,5,6]),(4,[0,1,5,6,7]),(6,[0,1,5,6]),(7,[0,1])]),
 (189,[(2,[0,3]),(3,[0,3]),(4,[3])]),
 (190,[(3,[0,1,5,8,9]),(4,[0,1,5,8,9,10]),(8,[0,1,5,8,9]),(9,[1,5])]),
 (197,[(3,[0,5,10,11]),(4,[0,5,10,11,12]),(6,[0,5,10,11]),(7,[5])]),
 (204,[(3,[1]),(5,[1]),(6,[1,3]),(7,[1,3]),(8,[1,3]),(10,[1]),(12,[1]),(15,[1])]),
 (208,[(3,[0,3,6,7]),(4,[0,3,6,7,8]),(8,[0,3,6,7]),(9,[3])]),
 (221,[(2,[0,7,8]),(3,[0,7,8,9]),(8,[0,7,8]),(9,[0])]),
 (222,[(3,[0]),(5,[3,10,11,12]),(6,[3,10,11,12,13]),(9,[3,5,10,11,12]),(11,[3,5,10,11,12]),(12,[3,10,11,12]),(13,[])]),
 (223,[(3,[0]),(5,[3,10,11,12]),(6,[3,10,11,12,13]),(9,[3,5,10,11,12]),(11,[3,5,10,11,12]),(12,[3,10,11,12]),(13,[])]),
 (224,[(3,[0,1,2,7,11,12]),(4,[0,1,2,7,11,12,13]),(8,[0,1,2,7,11,12]),(9,[7])]),
 (226,[(3,[0,3,5]),(4,[0,3,5,6]),(8,[0,3,5]),(9,[3])]),
 (236,[(3,[0]),(4,[0,3]),(5,[0,3]),(6,[0,3]),(8,[0,3]),(9,[0,3,4]),(10,[0,3,4]),(11,[0,3,4]),(13,[])]),
 (237,[(3,[0]),(4,[0,3]),(5,[0,3]),(6,[0,3]),(8,[0,3]),(9,[0,3,4]),(10,[0,3,4]),(11,[0,3,4]),(13,[])]),
 (252,[(3,[0,1,5,6]),(4,[0,1,5,6]),(5,[0,1,5,6]),(6,[5])])]
def userList:List Nat:=[3,4,5,6,7,8,9,10,11,12,13,14,15,16,17,18,19,20,21,22,23,24,25,26,27,28,29,30,31,32,33,34,35,36,37,38,39,40,41,42,43,44,45,46,47,48,49,50,51,52,53,54,55,56,57,58,59,60,61,62,63,64,65,66,67,68,69,70,71,72,73,74,75,76,77,78,79,80,81,82,83,84,85,86,87,88,89,90,91,92,93,94,95,96,97,98,99,100,101,102,103,104,105,106,107,108,109,110,111,112,113,114,115,116,117,118,119,120,121,122,123,124,125,126,127,128,129,130,131,132,133,134,135,136,137,138,139,140,141,142,143,144,145,146,147,148,149,150,151,152,153,154,155,156,157,158,159,160,161,162,163,164,165,166,167,168,169,170,171,172,173,174,175,176,177,178,179,180,181,182,183,184,185,186,187,188,189,190,191,192,193,194,195,196,197,198,199,200,201,202,203,204,205,206,207,208,209,210,211,212,213,214,215,216,217,218,219,220,221,222,223,224,226,227,228,229,230,231,232,233,234,235,236,237,238,240,241,242,243,244,245,246,247,248,250,251,252,253,254,255,256,257,258,259,261,262,263,264,265,266]
def pureList:List Nat:=[19,20]
def flatList:List Nat:=[15,16,17,18,19,20,21,22,23,24,25,26,27,31,34,38,39,40,41,46,47,52,62,63,64,66,67,70,71,72,73,74,75,76,77,83,84,85,88,89,94,105,106,107,109,110,111,112,113,114,115,118,121,125,127,128,131,134,135,138,140,146,147,148,151,152,153,155,157,158,159,161,163,164,165,166,169,170,173,178,180,183,185,186,187,188,189,190,197,199,200,204,205,208,220,221,222,223,224,226,231,233,234,235,236,237,246,250,251,252]
def extList:List (Nat×ExtK):=[(225,.cmp),(239,.same),(249,.indexByte)]
def roList:List Nat:=[53,54,61,78,90,103,136,181]
def eqList:List Nat:=[]
noncomputable def sumList:List (Nat×(List AV→Option AV)):=[(156,OL),(168,OG)]
noncomputable def effList:List (Nat×EffFn):=[(87,namesE),(101,Zj4),(104,growE),(171,textE),(172,stringE),(196,byteE)]
def bldList:List (Nat×Nat):=[(192,5)]
def wrbList:List Nat:=[123]
def qkList:List (Nat×List Nat):=[(11,[12]),(14,[15])]
def linList:List Nat:=[22,32]
noncomputable def cfg:Cfg:={ P:=Tryz.prog,glob:=Dy,sum:=fun f=>sumList.lookup f,user:=fun f=>userList.contains f,eqok:=fun t=>eqList.contains t,pure:=fun f=>pureList.contains f,flat:=fun f=>flatList.contains f,ext:=fun f=>extList.lookup f,keep:=Zj7 Zbv,eff:=fun f=>effList.lookup f,bld:=fun t=>bldList.lookup t,lin:=fun t=>linList.contains t,qk:=fun t a=>qkList.contains (t,a),wrb:=fun t=>wrbList.contains t,ro:=fun f=>roList.contains f }
theorem Zb {kp:Nat → Option (List Nat)}{LP:Code → KL → AL → Hp → Z3}{n:Nat}{c:Code}{k:KL}{al:AL}{H:Hp}{r:Z3}(cut:List Nat)(h:CI cfg (Za cfg) LP kp n Zc Z6 (Yl cfg (Za cfg) LP kp n Zc Z6) cut c k al H=r):Yl cfg (Za cfg) LP kp n Zc Z6 c k al H=r:=(VY cut c k al H).trans h
noncomputable def Pr:List AV→Hp→Z3:=Za cfg 14
noncomputable def U1:List AV→Hp→Z3:=Za cfg 19
noncomputable def Ja:List AV→Hp→Z3:=Za cfg 28
noncomputable def Lk:List AV→Hp→Z3:=Za cfg 29
noncomputable def Pz:List AV→Hp→Z3:=Za cfg 30
noncomputable def RQ:List AV→Hp→Z3:=Za cfg 31
noncomputable def R4:List AV→Hp→Z3:=Za cfg 32
noncomputable def Jt:List AV→Hp→Z3:=Za cfg 33
noncomputable def JY:List AV→Hp→Z3:=Za cfg 34
noncomputable def Wu:List AV→Hp→Z3:=Za cfg 36
noncomputable def Gm:List AV→Hp→Z3:=Za cfg 38
noncomputable def Px:List AV→Hp→Z3:=Za cfg 39
noncomputable def AC:List AV→Hp→Z3:=Za cfg 41
noncomputable def R1:List AV→Hp→Z3:=Za cfg 42
noncomputable def Bw:List AV→Hp→Z3:=Za cfg 43
noncomputable def Un:List AV→Hp→Z3:=Za cfg 44
noncomputable def VU:List AV→Hp→Z3:=Za cfg 45
noncomputable def BV:List AV→Hp→Z3:=Za cfg 46
noncomputable def J7:List AV→Hp→Z3:=Za cfg 47
noncomputable def Wv:List AV→Hp→Z3:=Za cfg 53
noncomputable def Wi:List AV→Hp→Z3:=Za cfg 59
noncomputable def RT:List AV→Hp→Z3:=Za cfg 60
noncomputable def WJ:List AV→Hp→Z3:=Za cfg 61
noncomputable def XT:List AV→Hp→Z3:=Za cfg 64
noncomputable def XA:List AV→Hp→Z3:=Za cfg 65
noncomputable def Tf:List AV→Hp→Z3:=Za cfg 66
noncomputable def WF:List AV→Hp→Z3:=Za cfg 67
noncomputable def XP:List AV→Hp→Z3:=Za cfg 68
noncomputable def J8:List AV→Hp→Z3:=Za cfg 69
noncomputable def XS:List AV→Hp→Z3:=Za cfg 70
noncomputable def Tg:List AV→Hp→Z3:=Za cfg 71
noncomputable def Xe:List AV→Hp→Z3:=Za cfg 72
noncomputable def Yd:List AV→Hp→Z3:=Za cfg 76
noncomputable def Vm:List AV→Hp→Z3:=Za cfg 77
noncomputable def BY:List AV→Hp→Z3:=Za cfg 78
noncomputable def XU:List AV→Hp→Z3:=Za cfg 80
noncomputable def Xi:List AV→Hp→Z3:=Za cfg 81
noncomputable def XC:List AV→Hp→Z3:=Za cfg 82
noncomputable def Yp:List AV→Hp→Z3:=Za cfg 83
noncomputable def Pv:List AV→Hp→Z3:=Za cfg 84
noncomputable def Pw:List AV→Hp→Z3:=Za cfg 85
noncomputable def WI:List AV→Hp→Z3:=Za cfg 86
noncomputable def JZ:List AV→Hp→Z3:=Za cfg 88
noncomputable def VE:List AV→Hp→Z3:=Za cfg 102
noncomputable def Xj:List AV→Hp→Z3:=Za cfg 103
noncomputable def WH:List AV→Hp→Z3:=Za cfg 105
noncomputable def Vl:List AV→Hp→Z3:=Za cfg 106
noncomputable def U2:List AV→Hp→Z3:=Za cfg 107
noncomputable def Uw:List AV→Hp→Z3:=Za cfg 108
noncomputable def Ux:List AV→Hp→Z3:=Za cfg 114
noncomputable def Ww:List AV→Hp→Z3:=Za cfg 116
noncomputable def Py:List AV→Hp→Z3:=Za cfg 118
noncomputable def Q8:List AV→Hp→Z3:=Za cfg 119
noncomputable def XD:List AV→Hp→Z3:=Za cfg 120
noncomputable def Fu:List AV→Hp→Z3:=Za cfg 121
noncomputable def Q7:List AV→Hp→Z3:=Za cfg 122
noncomputable def Jv:List AV→Hp→Z3:=Za cfg 123
noncomputable def Ju:List AV→Hp→Z3:=Za cfg 124
noncomputable def Pt:List AV→Hp→Z3:=Za cfg 125
noncomputable def Jr:List AV→Hp→Z3:=Za cfg 127
noncomputable def UO:List AV→Hp→Z3:=Za cfg 144
noncomputable def Wm:List AV→Hp→Z3:=Za cfg 145
noncomputable def Yt:List AV→Hp→Z3:=Za cfg 146
noncomputable def Vg:List AV→Hp→Z3:=Za cfg 147
noncomputable def U0:List AV→Hp→Z3:=Za cfg 148
noncomputable def RR:List AV→Hp→Z3:=Za cfg 149
noncomputable def Q6:List AV→Hp→Z3:=Za cfg 150
noncomputable def G1:List AV→Hp→Z3:=Za cfg 151
noncomputable def Q4:List AV→Hp→Z3:=Za cfg 152
noncomputable def Fz:List AV→Hp→Z3:=Za cfg 153
noncomputable def KY:List AV→Hp→Z3:=Za cfg 154
noncomputable def KZ:List AV→Hp→Z3:=Za cfg 155
noncomputable def Fy:List AV→Hp→Z3:=Za cfg 157
noncomputable def G0:List AV→Hp→Z3:=Za cfg 158
noncomputable def Fx:List AV→Hp→Z3:=Za cfg 159
noncomputable def J9:List AV→Hp→Z3:=Za cfg 160
noncomputable def Gp:List AV→Hp→Z3:=Za cfg 163
noncomputable def VF:List AV→Hp→Z3:=Za cfg 167
noncomputable def B9:List AV→Hp→Z3:=Za cfg 169
noncomputable def Fw:List AV→Hp→Z3:=Za cfg 170
noncomputable def R3:List AV→Hp→Z3:=Za cfg 173
noncomputable def XQ:List AV→Hp→Z3:=Za cfg 185
noncomputable def JX:List AV→Hp→Z3:=Za cfg 186
noncomputable def Pu:List AV→Hp→Z3:=Za cfg 187
noncomputable def Xz:List AV→Hp→Z3:=Za cfg 188
noncomputable def Q5:List AV→Hp→Z3:=Za cfg 189
noncomputable def BW:List AV→Hp→Z3:=Za cfg 190
noncomputable def WG:List AV→Hp→Z3:=Za cfg 195
noncomputable def BX:List AV→Hp→Z3:=Za cfg 197
noncomputable def J0:List AV→Hp→Z3:=Za cfg 198
noncomputable def R2:List AV→Hp→Z3:=Za cfg 204
noncomputable def Lj:List AV→Hp→Z3:=Za cfg 208
noncomputable def QK:List AV→Hp→Z3:=Za cfg 221
noncomputable def WE:List AV→Hp→Z3:=Za cfg 222
noncomputable def Wr:List AV→Hp→Z3:=Za cfg 223
noncomputable def Js:List AV→Hp→Z3:=Za cfg 226
noncomputable def Vk:List AV→Hp→Z3:=Za cfg 230
noncomputable def Zal:List AV→Hp→Z3:=Za cfg 234
noncomputable def Gn:List AV→Hp→Z3:=Za cfg 235
noncomputable def VZ:List AV→Hp→Z3:=Za cfg 236
noncomputable def VD:List AV→Hp→Z3:=Za cfg 237
noncomputable def Ps:List AV→Hp→Z3:=Za cfg 252
noncomputable def NF:Z3:=Yl cfg (Za cfg) (Ya cfg (cfg.keep 64) 78) (cfg.keep 64) 78 Zc Z6 (sub (Z1 Tryz.f64) [1,1,1,1]) (Zh cfg 78 64 Tryz.f64 H0) [] H
noncomputable def QA:KL:=Zc (fun k al H=>Yl cfg (Za cfg) (Ya cfg (cfg.keep 64) 78) (cfg.keep 64) 78 Zc Z6 (sub (Z1 Tryz.f64) [1,1,1,1]) k (ZX (cfg.keep 64) (sub (Z1 Tryz.f64) [1,1,1,1]) al) H) (Zh cfg 78 64 Tryz.f64 H0)
theorem EQ:ZR 78 (QA H0):=Zu (C:=cfg) (kp:=cfg.keep 64) (sub (Z1 Tryz.f64) [1,1,1,1]) (Zx 64 Tryz.f64 H0)
noncomputable def Bl:Z3:=Yl cfg (Za cfg) (Ya cfg (cfg.keep 64) 78) (cfg.keep 64) 78 Zc Z6 (sub (Z1 Tryz.f64) [1,1,1,0,1,0,0,1,1,1]) (Zc (fun k al H=>Ya cfg (cfg.keep 64) 78 (sub (Z1 Tryz.f64) [1,1,1,0,1,0,0]) k (ZX (cfg.keep 64) (sub (Z1 Tryz.f64) [1,1,1,0,1,0,0]) al) H) (Z6 0 (QA H0))) [(33,x33),(34,x34),(35,x35)] H
noncomputable def Bk:Z3:=Yl cfg (Za cfg) (Ya cfg (cfg.keep 64) 78) (cfg.keep 64) 78 Zc Z6 (sub (Z1 Tryz.f64) [1,1,1,0,1,0,0,1,1]) (Zc (fun k al H=>Ya cfg (cfg.keep 64) 78 (sub (Z1 Tryz.f64) [1,1,1,0,1,0,0]) k (ZX (cfg.keep 64) (sub (Z1 Tryz.f64) [1,1,1,0,1,0,0]) al) H) (Z6 0 (QA H0))) [(33,x33),(34,x34),(35,x35),(36,x36)] H
noncomputable def QB:Z3:=Ya cfg (cfg.keep 64) 78 (sub (Z1 Tryz.f64) [1,1,1,0,1,0,0]) (Z6 0 (QA H0)) [(33,x33),(34,x34),(35,x35)] H
noncomputable def NE:Z3:=Yl cfg (Za cfg) (Ya cfg (cfg.keep 64) 78) (cfg.keep 64) 78 Zc Z6 (sub (Z1 Tryz.f64) [1,1,1]) (Zh cfg 78 64 Tryz.f64 H0) [(1,x1)] H
noncomputable def ND:Z3:=Yl cfg (Za cfg) (Ya cfg (cfg.keep 64) 78) (cfg.keep 64) 78 Zc Z6 (sub (Z1 Tryz.f64) [1,1]) (Zh cfg 78 64 Tryz.f64 H0) [(1,x1)] H
noncomputable def Mn:Z3:=
 Z0 (Y4 p0 H) fun r1=>
 Z0 (Z8 0 r1.1) fun t5=>
 Z0 (Z4 false 1 t5 r1.2) fun t6=>
 Z0 (Zk (.slice 149) t6) fun t7=>
 Z0 (Z5 .gtr t7 (.int .i64 8)) fun t8=>
 Zm t8
  (some ((.int .i64 3),r1.2))
  (ND r1.1 H r1.2)
theorem Ab:NF H0 H =
 some ((.int .i64 0),H):=Zb [3,5,7,10,11] (by kernel_rfl)
theorem Ad:Bl x33 x34 x35 H0 H =
 Z0 (Z5 .add x35 (.int .i64 1)) fun t77=>
 QB x33 x34 t77 H0 H:=Zb [3,5,7,10,11] (by kernel_rfl)
theorem Ac:Bk x33 x34 x35 x36 H0 H =
 Z0 (Zl 5 x33 x35) fun t37=>
 Z0 (Z4 true 5 t37 H) fun t38=>
 Z0 (some ((.ptr H.length 0),H++[.cells [(.int .i64 0),(.int .i64 0),(.int .i64 0),(.int .i64 0),(.int .i64 0)]])) fun r4=>
 Z0 (Zi 5 r4.1 t38 r4.2) fun r_10=>
 Z0 (Z8 0 r4.1) fun t39=>
 Z0 (Z4 false 1 t39 r_10.2) fun t40=>
 Z0 (Z5 .lss t40 (.int .i64 1)) fun t41=>
 Z0 (Z7 t41 false (.tuple []) (Z8 1 r4.1)) fun t43=>
 Z0 (Z7 t41 false (.tuple []) (Z4 false 1 t43 r_10.2)) fun t44=>
 Z0 (Z7 t41 false (.tuple []) (Z5 .lss t44 (.int .i64 1))) fun t45=>
 Z0 (Zj t41 (.bool true) t45) fun t46=>
 Z0 (Z7 t46 false (.tuple []) (Z8 2 r4.1)) fun t48=>
 Z0 (Z7 t46 false (.tuple []) (Z4 false 1 t48 r_10.2)) fun t49=>
 Z0 (Z7 t46 false (.tuple []) (Z5 .lss t49 (.int .i64 0))) fun t50=>
 Z0 (Zj t46 (.bool true) t50) fun t51=>
 Z0 (Z7 t51 false (.tuple []) (Z8 3 r4.1)) fun t53=>
 Z0 (Z7 t51 false (.tuple []) (Z4 false 1 t53 r_10.2)) fun t54=>
 Z0 (Z7 t51 false (.tuple []) (Z5 .lss t54 (.int .i64 0))) fun t55=>
 Z0 (Zj t51 (.bool true) t55) fun t56=>
 Z0 (Z7 t56 false (.tuple []) (Z8 2 r4.1)) fun t58=>
 Z0 (Z7 t56 false (.tuple []) (Z4 false 1 t58 r_10.2)) fun t59=>
 Z0 (Z7 t56 false (.tuple []) (Z5 .eql t59 (.int .i64 0))) fun t60=>
 Z0 (Z7 t56 false (.tuple []) (some t60)) fun t61=>
 Z0 (Z7 t61 true (.tuple []) (Z8 3 r4.1)) fun t62=>
 Z0 (Z7 t61 true (.tuple []) (Z4 false 1 t62 r_10.2)) fun t63=>
 Z0 (Z7 t61 true (.tuple []) (Z5 .neq t63 (.int .i64 0))) fun t64=>
 Z0 (Z7 t56 false (.tuple []) (Zj t61 t64 (.bool false))) fun t65=>
 Z0 (Zj t56 (.bool true) t65) fun t66=>
 Z0 (Z7 t66 false (.tuple []) (Z8 4 r4.1)) fun t68=>
 Z0 (Z7 t66 false (.tuple []) (Z4 false 1 t68 r_10.2)) fun t69=>
 Z0 (Z7 t66 false (.tuple []) (Z5 .lss t69 (.int .i64 0))) fun t70=>
 Z0 (Zj t66 (.bool true) t70) fun t71=>
 Z0 (Z7 t71 false (.tuple []) (Z8 4 r4.1)) fun t73=>
 Z0 (Z7 t71 false (.tuple []) (Z4 false 1 t73 r_10.2)) fun t74=>
 Z0 (Z7 t71 false (.tuple []) (Z5 .gtr t74 (.int .i64 31))) fun t75=>
 Z0 (Zj t71 (.bool true) t75) fun t76=>
 Zm t76
  (some ((.int .i64 2),r_10.2))
  (Bl x33 x34 x35 H0 r_10.2):=Zb [3,5,7,10,11] (by kernel_rfl)
theorem Ff:QB x33 x34 x35 H0 H =
 Z0 (Z5 .lss x35 x34) fun t36=>
 Zm t36
  (Bk x33 x34 x35 t36 H0 H)
  (NF H0 H):=(Zy (C:=cfg) [3,5,7,10,11] (Zn 0 (EQ H0)) _ _).trans (by kernel_rfl)
theorem Aa:NE x1 H0 H =
 Z0 (Z8 0 x1) fun t32=>
 Z0 (Z4 false 1 t32 H) fun t33=>
 Z0 (Zk (.slice 149) t33) fun t34=>
 QB t33 t34 (.int .i64 0) H0 H:=Zb [3,5,7,10,11] (by kernel_rfl)
theorem A9:ND x1 H0 H =
 Z0 (Z8 1 x1) fun t9=>
 Z0 (Z4 false 1 t9 H) fun t10=>
 Z0 (Z5 .lss t10 (.int .i64 (-1))) fun t11=>
 Z0 (Z7 t11 false (.tuple []) (Z8 1 x1)) fun t13=>
 Z0 (Z7 t11 false (.tuple []) (Z4 false 1 t13 H)) fun t14=>
 Z0 (Z7 t11 false (.tuple []) (Z5 .gtr t14 (.int .i64 255))) fun t15=>
 Z0 (Zj t11 (.bool true) t15) fun t16=>
 Z0 (Z7 t16 false (.tuple []) (Z8 1 x1)) fun t18=>
 Z0 (Z7 t16 false (.tuple []) (Z4 false 1 t18 H)) fun t19=>
 Z0 (Z7 t16 false (.tuple []) (Z5 .eql t19 (.int .i64 10))) fun t20=>
 Z0 (Zj t16 (.bool true) t20) fun t21=>
 Z0 (Z7 t21 false (.tuple []) (Z8 2 x1)) fun t23=>
 Z0 (Z7 t21 false (.tuple []) (Z4 false 1 t23 H)) fun t24=>
 Z0 (Z7 t21 false (.tuple []) (Z5 .lss t24 (.int .i64 0))) fun t25=>
 Z0 (Zj t21 (.bool true) t25) fun t26=>
 Z0 (Z7 t26 false (.tuple []) (Z8 2 x1)) fun t28=>
 Z0 (Z7 t26 false (.tuple []) (Z4 false 1 t28 H)) fun t29=>
 Z0 (Z7 t26 false (.tuple []) (Z5 .gtr t29 (.int .i64 31))) fun t30=>
 Z0 (Zj t26 (.bool true) t30) fun t31=>
 Zm t31
  (some ((.int .i64 2),H))
  (NE x1 H0 H):=Zb [3,5,7,10,11] (by kernel_rfl)
theorem AQ:XT [p0] H=Mn p0 H:=(Zd (C:=cfg) (fn:=Tryz.f64) (c:=Z1 Tryz.f64) (n:=78) [3,5,7,10,11] Tryz.func64 (by kernel_rfl) (by kernel_rfl) [p0] (by kernel_rfl) H).trans (by kernel_rfl)
noncomputable def RN:Z3:=Yl cfg (Za cfg) (Ya cfg (cfg.keep 108) 70) (cfg.keep 108) 70 Zc Z6 (sub (Z1 Tryz.f108) [1,1,1,1,1,1,1]) (Zh cfg 70 108 Tryz.f108 H0) [(0,x0),(7,x7),(10,x10)] H
noncomputable def XI:Z3:=Yl cfg (Za cfg) (Ya cfg (cfg.keep 108) 70) (cfg.keep 108) 70 Zc Z6 (sub (Z1 Tryz.f108) [1,1,1,1,1,1]) (Zh cfg 70 108 Tryz.f108 H0) [(0,x0),(7,x7),(10,x10)] H
noncomputable def RM:Z3:=Yl cfg (Za cfg) (Ya cfg (cfg.keep 108) 70) (cfg.keep 108) 70 Zc Z6 (sub (Z1 Tryz.f108) [1,1,1]) (Zh cfg 70 108 Tryz.f108 H0) [(0,x0),(2,x2),(4,x4),(7,x7),(8,x8)] H
noncomputable def Tl:Z3:=
 Z0 (Y4 p1 H) fun r4=>
 Z0 (Z8 0 r4.1) fun t16=>
 Z0 (Z4 false 1 t16 r4.2) fun t17=>
 Z0 (B5 t17 (.int .i64 1)) fun t18=>
 Z0 (J9 [p0,t18,p2] r4.2) fun r20=>
 Z0 (ZK r20.1 0) fun t21=>
 Z0 (ZK r20.1 1) fun t22=>
 Z0 (ZK r20.1 2) fun t23=>
 Z0 (XF .not t23) fun t25=>
 Zm t25
  (some ((.str []),r20.2))
  (RM p0 p2 r4.1 t21 t22 H r20.2)
theorem EY:RN x0 x7 x10 H0 H =
 Z0 (Y9 x0 (some x7) (some x10) none) fun t69=>
 some (t69,H):=Zb [4,12,14] (by kernel_rfl)
theorem EX:XI x0 x7 x10 H0 H =
 Z0 (Z5 .lss x10 x7) fun t65=>
 Zm t65
  (some ((.str []),H))
  (RN x0 x7 x10 H0 H):=Zb [4,12,14] (by kernel_rfl)
theorem EW:RM x0 x2 x4 x7 x8 H0 H =
 Z0 (Z8 1 x4) fun t27=>
 Z0 (Z4 false 1 t27 H) fun t28=>
 Z0 (B5 t28 (.int .i64 1)) fun t29=>
 Z0 (Z5 .sub t29 (.int .i64 1)) fun t30=>
 Z0 (Z5 .sub x8 x7) fun t33=>
 Z0 (U3 t30 t33) fun t34=>
 Z0 (Z5 .add x7 t34) fun t35=>
 Z0 (Zk .string x0) fun t37=>
 Z0 (Z8 2 x4) fun t38=>
 Z0 (Z4 false 1 t38 H) fun t39=>
 Z0 (Z5 .gtr t39 (.int .i64 0)) fun t40=>
 Zm t40
  (Z0 (Z8 2 x4) fun t43=>
  Z0 (Z4 false 1 t43 H) fun t44=>
  Z0 (J9 [x0,t44,x2] H) fun r46=>
  Z0 (ZK r46.1 0) fun t47=>
  Z0 (ZK r46.1 1) fun t48=>
  Z0 (ZK r46.1 2) fun t49=>
  Zm t49
   (Z0 (Z8 3 x4) fun t52=>
   Z0 (Z4 false 1 t52 r46.2) fun t53=>
   Z0 (Z5 .gtr t53 (.int .i64 0)) fun t54=>
   Zm t54
    (Z0 (Z8 3 x4) fun t56=>
    Z0 (Z4 false 1 t56 r46.2) fun t57=>
    Z0 (Z5 .sub t48 t47) fun t60=>
    Z0 (U3 t57 t60) fun t61=>
    Z0 (Z5 .add t47 t61) fun t62=>
    XI x0 t35 t62 H0 r46.2)
    (XI x0 t35 t48 H0 r46.2))
   (XI x0 t35 t37 H0 r46.2))
  (XI x0 t35 t37 H0 H):=Zb [4,12,14] (by kernel_rfl)
theorem Sb:Uw [p0,p1,p2] H=Tl p0 p1 p2 H:=(Zd (C:=cfg) (fn:=Tryz.f108) (c:=Z1 Tryz.f108) (n:=70) [4,12,14] Tryz.func108 (by kernel_rfl) (by kernel_rfl) [p0,p1,p2] (by kernel_rfl) H).trans (by kernel_rfl)
noncomputable def NH:Z3:=Yl cfg (Za cfg) (Ya cfg (cfg.keep 160) 83) (cfg.keep 160) 83 Zc Z6 (sub (Z1 Tryz.f160) [1,1,1]) (Zh cfg 83 160 Tryz.f160 H0) [] H
noncomputable def VA:KL:=Zc (fun k al H=>Yl cfg (Za cfg) (Ya cfg (cfg.keep 160) 83) (cfg.keep 160) 83 Zc Z6 (sub (Z1 Tryz.f160) [1,1,1]) k (ZX (cfg.keep 160) (sub (Z1 Tryz.f160) [1,1,1]) al) H) (Zh cfg 83 160 Tryz.f160 H0)
theorem BK:ZR 83 (VA H0):=Zu (C:=cfg) (kp:=cfg.keep 160) (sub (Z1 Tryz.f160) [1,1,1]) (Zx 160 Tryz.f160 H0)
noncomputable def NJ:Z3:=Yl cfg (Za cfg) (Ya cfg (cfg.keep 160) 83) (cfg.keep 160) 83 Zc Z6 (sub (Z1 Tryz.f160) [1,1,0,1,0,0,1,1]) (Zc (fun k al H=>Ya cfg (cfg.keep 160) 83 (sub (Z1 Tryz.f160) [1,1,0,1,0,0]) k (ZX (cfg.keep 160) (sub (Z1 Tryz.f160) [1,1,0,1,0,0]) al) H) (Z6 2 (VA H0))) [(0,x0),(1,x1),(6,x6),(11,x11)] H
noncomputable def Wq:KL:=Zc (fun k al H=>Yl cfg (Za cfg) (Ya cfg (cfg.keep 160) 83) (cfg.keep 160) 83 Zc Z6 (sub (Z1 Tryz.f160) [1,1,0,1,0,0,1,1]) k (ZX (cfg.keep 160) (sub (Z1 Tryz.f160) [1,1,0,1,0,0,1,1]) al) H) (Zc (fun k al H=>Ya cfg (cfg.keep 160) 83 (sub (Z1 Tryz.f160) [1,1,0,1,0,0]) k (ZX (cfg.keep 160) (sub (Z1 Tryz.f160) [1,1,0,1,0,0]) al) H) (Z6 2 (VA H0)))
theorem BM:ZR 83 (Wq H0):=Zu (C:=cfg) (kp:=cfg.keep 160) (sub (Z1 Tryz.f160) [1,1,0,1,0,0,1,1]) (Lg (C:=cfg) (kp:=cfg.keep 160) (sub (Z1 Tryz.f160) [1,1,0,1,0,0]) (Zn 2 (BK H0)))
noncomputable def NK:Z3:=Yl cfg (Za cfg) (Ya cfg (cfg.keep 160) 83) (cfg.keep 160) 83 Zc Z6 (sub (Z1 Tryz.f160) [1,1,0,1,0,0,1,0,0,1,1,1,1]) (Z6 3 (Wq H0)) [(0,x0),(1,x1),(7,x7),(11,x11)] H
noncomputable def Bp:Z3:=Yl cfg (Za cfg) (Ya cfg (cfg.keep 160) 83) (cfg.keep 160) 83 Zc Z6 (sub (Z1 Tryz.f160) [1,1,0,1,0,0,1,0,0,1,1,1]) (Z6 3 (Wq H0)) [(0,x0),(1,x1),(6,x6),(7,x7),(11,x11)] H
noncomputable def Bq:KL:=Zc (fun k al H=>Yl cfg (Za cfg) (Ya cfg (cfg.keep 160) 83) (cfg.keep 160) 83 Zc Z6 (sub (Z1 Tryz.f160) [1,1,0,1,0,0,1,0,0,1,1,1]) k (ZX (cfg.keep 160) (sub (Z1 Tryz.f160) [1,1,0,1,0,0,1,0,0,1,1,1]) al) H) (Z6 3 (Wq H0))
theorem EZ:ZR 83 (Bq H0):=Zu (C:=cfg) (kp:=cfg.keep 160) (sub (Z1 Tryz.f160) [1,1,0,1,0,0,1,0,0,1,1,1]) (Zn 3 (BM H0))
noncomputable def NL:Z3:=Yl cfg (Za cfg) (Ya cfg (cfg.keep 160) 83) (cfg.keep 160) 83 Zc Z6 (sub (Z1 Tryz.f160) [1,1,0,1,0,0,1,0,0,1,1,0,0,0,1]) (Zc (fun k al H=>Ya cfg (cfg.keep 160) 83 (sub (Z1 Tryz.f160) [1,1,0,1,0,0,1,0,0,1,1,0,0,0]) k (ZX (cfg.keep 160) (sub (Z1 Tryz.f160) [1,1,0,1,0,0,1,0,0,1,1,0,0,0]) al) H) (Z6 6 (Bq H0))) [(0,x0),(1,x1),(6,x6),(7,x7),(11,x11)] H
noncomputable def QE:Z3:=Ya cfg (cfg.keep 160) 83 (sub (Z1 Tryz.f160) [1,1,0,1,0,0,1,0,0,1,1,0,0,0]) (Z6 6 (Bq H0)) [(0,x0),(1,x1),(6,x6),(7,x7),(11,x11)] H
noncomputable def Bo:Z3:=Yl cfg (Za cfg) (Ya cfg (cfg.keep 160) 83) (cfg.keep 160) 83 Zc Z6 (sub (Z1 Tryz.f160) [1,1,0,1,0,0,1,0,0,1,1]) (Z6 3 (Wq H0)) [(0,x0),(1,x1),(6,x6),(7,x7),(11,x11)] H
noncomputable def Br:KL:=Zc (fun k al H=>Yl cfg (Za cfg) (Ya cfg (cfg.keep 160) 83) (cfg.keep 160) 83 Zc Z6 (sub (Z1 Tryz.f160) [1,1,0,1,0,0,1,0,0,1,1]) k (ZX (cfg.keep 160) (sub (Z1 Tryz.f160) [1,1,0,1,0,0,1,0,0,1,1]) al) H) (Z6 3 (Wq H0))
theorem S3:ZR 83 (Br H0):=Zu (C:=cfg) (kp:=cfg.keep 160) (sub (Z1 Tryz.f160) [1,1,0,1,0,0,1,0,0,1,1]) (Zn 3 (BM H0))
noncomputable def NM:Z3:=Yl cfg (Za cfg) (Ya cfg (cfg.keep 160) 83) (cfg.keep 160) 83 Zc Z6 (sub (Z1 Tryz.f160) [1,1,0,1,0,0,1,0,0,1,0,0,0,1]) (Zc (fun k al H=>Ya cfg (cfg.keep 160) 83 (sub (Z1 Tryz.f160) [1,1,0,1,0,0,1,0,0,1,0,0,0]) k (ZX (cfg.keep 160) (sub (Z1 Tryz.f160) [1,1,0,1,0,0,1,0,0,1,0,0,0]) al) H) (Z6 4 (Br H0))) [(0,x0),(1,x1),(6,x6),(7,x7),(11,x11)] H
noncomputable def QF:Z3:=Ya cfg (cfg.keep 160) 83 (sub (Z1 Tryz.f160) [1,1,0,1,0,0,1,0,0,1,0,0,0]) (Z6 4 (Br H0)) [(0,x0),(1,x1),(6,x6),(7,x7),(11,x11)] H
noncomputable def NI:Z3:=Yl cfg (Za cfg) (Ya cfg (cfg.keep 160) 83) (cfg.keep 160) 83 Zc Z6 (sub (Z1 Tryz.f160) [1,1,0,1,0,0,1]) (Zc (fun k al H=>Ya cfg (cfg.keep 160) 83 (sub (Z1 Tryz.f160) [1,1,0,1,0,0]) k (ZX (cfg.keep 160) (sub (Z1 Tryz.f160) [1,1,0,1,0,0]) al) H) (Z6 2 (VA H0))) [(0,x0),(1,x1),(6,x6),(11,x11)] H
noncomputable def QD:Z3:=Ya cfg (cfg.keep 160) 83 (sub (Z1 Tryz.f160) [1,1,0,1,0,0]) (Z6 2 (VA H0)) [(0,x0),(1,x1),(6,x6),(11,x11)] H
noncomputable def Bn:Z3:=Yl cfg (Za cfg) (Ya cfg (cfg.keep 160) 83) (cfg.keep 160) 83 Zc Z6 (sub (Z1 Tryz.f160) [1,1]) (Zh cfg 83 160 Tryz.f160 H0) [(0,x0),(1,x1),(6,x6)] H
noncomputable def QC:KL:=Zc (fun k al H=>Yl cfg (Za cfg) (Ya cfg (cfg.keep 160) 83) (cfg.keep 160) 83 Zc Z6 (sub (Z1 Tryz.f160) [1,1]) k (ZX (cfg.keep 160) (sub (Z1 Tryz.f160) [1,1]) al) H) (Zh cfg 83 160 Tryz.f160 H0)
theorem S4:ZR 83 (QC H0):=Zu (C:=cfg) (kp:=cfg.keep 160) (sub (Z1 Tryz.f160) [1,1]) (Zx 160 Tryz.f160 H0)
noncomputable def TL:Z3:=Yl cfg (Za cfg) (Ya cfg (cfg.keep 160) 83) (cfg.keep 160) 83 Zc Z6 (sub (Z1 Tryz.f160) [1,0,1,0,1,0,0,1]) (Zc (fun k al H=>Ya cfg (cfg.keep 160) 83 (sub (Z1 Tryz.f160) [1,0,1,0,1,0,0]) k (ZX (cfg.keep 160) (sub (Z1 Tryz.f160) [1,0,1,0,1,0,0]) al) H) (Z6 0 (QC H0))) [(0,x0),(1,x1),(2,x2),(6,x6),(9,x9)] H
noncomputable def NN:KL:=Zc (fun k al H=>Yl cfg (Za cfg) (Ya cfg (cfg.keep 160) 83) (cfg.keep 160) 83 Zc Z6 (sub (Z1 Tryz.f160) [1,0,1,0,1,0,0,1]) k (ZX (cfg.keep 160) (sub (Z1 Tryz.f160) [1,0,1,0,1,0,0,1]) al) H) (Zc (fun k al H=>Ya cfg (cfg.keep 160) 83 (sub (Z1 Tryz.f160) [1,0,1,0,1,0,0]) k (ZX (cfg.keep 160) (sub (Z1 Tryz.f160) [1,0,1,0,1,0,0]) al) H) (Z6 0 (QC H0)))
noncomputable def TN:Z3:=Yl cfg (Za cfg) (Ya cfg (cfg.keep 160) 83) (cfg.keep 160) 83 Zc Z6 (sub (Z1 Tryz.f160) [1,0,1,0,1,0,0,0,0,1,1,1]) (Z6 1 (NN H0)) [(0,x0),(1,x1),(2,x2),(6,x6),(9,x9),(10,x10)] H
noncomputable def TM:Z3:=Yl cfg (Za cfg) (Ya cfg (cfg.keep 160) 83) (cfg.keep 160) 83 Zc Z6 (sub (Z1 Tryz.f160) [1,0,1,0,1,0,0,0,0,1,1]) (Z6 1 (NN H0)) [(0,x0),(1,x1),(2,x2),(6,x6),(9,x9),(10,x10)] H
noncomputable def QG:Z3:=Ya cfg (cfg.keep 160) 83 (sub (Z1 Tryz.f160) [1,0,1,0,1,0,0]) (Z6 0 (QC H0)) [(0,x0),(1,x1),(2,x2),(6,x6),(9,x9)] H
noncomputable def Mq:Z3:=
 Z0 (Z5 .geq p2 (.int .i64 0)) fun t13=>
 Z0 (Z7 t13 true (.tuple []) (some p2)) fun t15=>
 Z0 (Z7 t13 true (.tuple []) (Z5 .leq t15 (.int .i64 255))) fun t16=>
 Z0 (Zj t13 t16 (.bool false)) fun t17=>
 Zm t17
  (QG p0 p1 p2 (.int .i64 0) (.int .i64 1) H H)
  (Bn p0 p1 (.int .i64 0) H H)
theorem Ah:NH H0 H =
 some ((.tuple [(.int .i64 0),(.int .i64 0),(.bool false)]),H):=Zb [3,7,9,10,12,13,15,16,17,18,20,21] (by kernel_rfl)
theorem Aj:NJ x0 x1 x6 x11 H0 H =
 Z0 (Z5 .add x11 (.int .i64 1)) fun t50=>
 QD x0 x1 x6 t50 H0 H:=Zb [3,7,9,10,12,13,15,16,17,18,20,21] (by kernel_rfl)
theorem An:NK x0 x1 x7 x11 H0 H =
 NJ x0 x1 x7 x11 H0 H:=Zb [3,7,9,10,12,13,15,16,17,18,20,21] (by kernel_rfl)
theorem Al:Bp x0 x1 x6 x7 x11 H0 H =
 Z0 (Z5 .eql x11 x1) fun t79=>
 Zm t79
  (some ((.tuple [x6,x7,(.bool true)]),H))
  (NK x0 x1 x7 x11 H0 H):=Zb [3,7,9,10,12,13,15,16,17,18,20,21] (by kernel_rfl)
theorem Ao:NL x0 x1 x6 x7 x11 H0 H =
 Z0 (Z5 .add x7 (.int .i64 1)) fun t76=>
 QE x0 x1 x6 t76 x11 H0 H:=Zb [3,7,9,10,12,13,15,16,17,18,20,21] (by kernel_rfl)
theorem Fh:QE x0 x1 x6 x7 x11 H0 H =
 Z0 (Zk .string x0) fun t66=>
 Z0 (Z5 .lss x7 t66) fun t67=>
 Z0 (Z7 t67 true (.tuple []) (some x0)) fun t69=>
 Z0 (Z7 t67 true (.tuple []) (some x7)) fun t70=>
 Z0 (Z7 t67 true (.tuple []) (Zw t69 t70)) fun t71=>
 Z0 (Z7 t67 true ((.tuple []),H) (WG [t71] H)) fun r72=>
 Z0 (Z7 t67 true (.tuple []) (XF .not r72.1)) fun t73=>
 Z0 (Zj t67 t73 (.bool false)) fun t74=>
 Zm t74
  (NL x0 x1 x6 x7 x11 H0 r72.2)
  (Bp x0 x1 x6 x7 x11 H0 r72.2):=(Zy (C:=cfg) [3,7,9,10,12,13,15,16,17,18,20,21] (Zn 6 (EZ H0)) _ _).trans (by kernel_rfl)
theorem Ak:Bo x0 x1 x6 x7 x11 H0 H =
 QE x0 x1 x6 x7 x11 H0 H:=Zb [3,7,9,10,12,13,15,16,17,18,20,21] (by kernel_rfl)
theorem Ap:NM x0 x1 x6 x7 x11 H0 H =
 Z0 (Z5 .add x7 (.int .i64 1)) fun t63=>
 QF x0 x1 x6 t63 x11 H0 H:=Zb [3,7,9,10,12,13,15,16,17,18,20,21] (by kernel_rfl)
theorem Fi:QF x0 x1 x6 x7 x11 H0 H =
 Z0 (Zk .string x0) fun t54=>
 Z0 (Z5 .lss x7 t54) fun t55=>
 Z0 (Z7 t55 true (.tuple []) (some x0)) fun t57=>
 Z0 (Z7 t55 true (.tuple []) (some x7)) fun t58=>
 Z0 (Z7 t55 true (.tuple []) (Zw t57 t58)) fun t59=>
 Z0 (Z7 t55 true ((.tuple []),H) (WG [t59] H)) fun r60=>
 Z0 (Zj t55 r60.1 (.bool false)) fun t61=>
 Zm t61
  (NM x0 x1 x6 x7 x11 H0 r60.2)
  (Bo x0 x1 x6 x7 x11 H0 r60.2):=(Zy (C:=cfg) [3,7,9,10,12,13,15,16,17,18,20,21] (Zn 4 (S3 H0)) _ _).trans (by kernel_rfl)
theorem Ai:NI x0 x1 x6 x11 H0 H =
 QF x0 x1 x6 x6 x11 H0 H:=Zb [3,7,9,10,12,13,15,16,17,18,20,21] (by kernel_rfl)
theorem Aq:QD x0 x1 x6 x11 H0 H =
 Z0 (Zk .string x0) fun t47=>
 Z0 (Z5 .lss x6 t47) fun t48=>
 Zm t48
  (NI x0 x1 x6 x11 H0 H)
  (NH H0 H):=(Zy (C:=cfg) [3,7,9,10,12,13,15,16,17,18,20,21] (Zn 2 (BK H0)) _ _).trans (by kernel_rfl)
theorem Ag:Bn x0 x1 x6 H0 H =
 QD x0 x1 x6 (.int .i64 1) H0 H:=Zb [3,7,9,10,12,13,15,16,17,18,20,21] (by kernel_rfl)
theorem Cs:TL x0 x1 x2 x6 x9 H0 H =
 Z0 (Z5 .add x9 (.int .i64 1)) fun t19=>
 QG x0 x1 x2 x6 t19 H0 H:=Zb [3,7,9,10,12,13,15,16,17,18,20,21] (by kernel_rfl)
theorem Cu:TN x0 x1 x2 x6 x9 x10 H0 H =
 Z0 (Z5 .add x10 (.int .i64 1)) fun t43=>
 Z0 (Z5 .add x6 t43) fun t44=>
 TL x0 x1 x2 t44 x9 H0 H:=Zb [3,7,9,10,12,13,15,16,17,18,20,21] (by kernel_rfl)
theorem Ct:TM x0 x1 x2 x6 x9 x10 H0 H =
 Z0 (Z5 .eql x9 x1) fun t36=>
 Zm t36
  (Z0 (Z5 .add x6 x10) fun t40=>
  some ((.tuple [x6,t40,(.bool true)]),H))
  (TN x0 x1 x2 x6 x9 x10 H0 H):=Zb [3,7,9,10,12,13,15,16,17,18,20,21] (by kernel_rfl)
theorem Ar:QG x0 x1 x2 x6 x9 H0 H =
 Z0 (Y9 x0 (some x6) none none) fun t22=>
 Z0 (YR .u8 x2) fun t24=>
 Z0 (J0 [t22,t24] H) fun r25=>
 Z0 (Z5 .lss r25.1 (.int .i64 0)) fun t27=>
 Zm t27
  (Z0 (Zk .string x0) fun t30=>
  Z0 (Z5 .eql x9 x1) fun t33=>
  some ((.tuple [x6,t30,t33]),r25.2))
  (TM x0 x1 x2 x6 x9 r25.1 H0 r25.2):=(Zy (C:=cfg) [3,7,9,10,12,13,15,16,17,18,20,21] (Zn 0 (S4 H0)) _ _).trans (by kernel_rfl)
theorem AU:J9 [p0,p1,p2] H=Mq p0 p1 p2 H:=(Zd (C:=cfg) (fn:=Tryz.f160) (c:=Z1 Tryz.f160) (n:=83) [3,7,9,10,12,13,15,16,17,18,20,21] Tryz.func160 (by kernel_rfl) (by kernel_rfl) [p0,p1,p2] (by kernel_rfl) H).trans (by kernel_rfl)
noncomputable def Mp:Z3:=
 Z0 (Z5 .eql p0 (.int .u8 32)) fun t4=>
 Z0 (Z7 t4 false (.tuple []) (some p0)) fun t6=>
 Z0 (Z7 t4 false (.tuple []) (Z5 .eql t6 (.int .u8 9))) fun t7=>
 Z0 (Zj t4 (.bool true) t7) fun t8=>
 some (t8,H)
theorem AS:WG [p0] H=Mp p0 H:=(Zd (C:=cfg) (fn:=Tryz.f195) (c:=Z1 Tryz.f195) (n:=9) [] Tryz.func195 (by kernel_rfl) (by kernel_rfl) [p0] (by kernel_rfl) H).trans (by kernel_rfl)
noncomputable def DY:Z3:=
 Z0 (Vk [p0,p1] H) fun r7=>
 some (r7.1,r7.2)
theorem Lq:J0 [p0,p1] H=DY p0 p1 H:=(Zd (C:=cfg) (fn:=Tryz.f198) (c:=Z1 Tryz.f198) (n:=8) [] Tryz.func198 (by kernel_rfl) (by kernel_rfl) [p0,p1] (by kernel_rfl) H).trans (by kernel_rfl)
noncomputable def Vn:Z3:=
 Z0 (IG .indexByte [p0,p1] H) fun r7=>
 some (r7.1,r7.2)
theorem K1:Vk [p0,p1] H=Vn p0 p1 H:=(Zd (C:=cfg) (fn:=Tryz.f230) (c:=Z1 Tryz.f230) (n:=8) [] Tryz.func230 (by kernel_rfl) (by kernel_rfl) [p0,p1] (by kernel_rfl) H).trans (by kernel_rfl)
theorem Za2 (a b args:List AV)(H:Hp):Yf cfg (Za cfg) (.fn (.func 66) a b) args H=Ze Tf (a++args++b) H:=by kernel_rfl
theorem Za3 (a b args:List AV)(H:Hp):Yf cfg (Za cfg) (.fn (.func 71) a b) args H=Ze Tg (a++args++b) H:=by kernel_rfl
theorem Zba (a b args:List AV)(H:Hp):Yf cfg (Za cfg) (.fn (.func 84) a b) args H=Ze Pv (a++args++b) H:=by kernel_rfl
theorem Zbb (a b args:List AV)(H:Hp):Yf cfg (Za cfg) (.fn (.func 85) a b) args H=Ze Pw (a++args++b) H:=by kernel_rfl
theorem Ig (a b args:List AV)(H:Hp):Yf cfg (Za cfg) (.fn (.func 148) a b) args H=Ze U0 (a++args++b) H:=by kernel_rfl
theorem I3 (a b args:List AV)(H:Hp):Xl cfg (Za cfg) (.fn (.func 148) a b) args H=Ze U0 (a++args++b) H:=by kernel_rfl
theorem Ss (a b args:List AV)(H:Hp):Yf cfg (Za cfg) (.fn (.func 150) a b) args H=Q6 (a++args++b) H:=by kernel_rfl
theorem Za4 (a b args:List AV)(H:Hp):Yf cfg (Za cfg) (.fn (.func 154) a b) args H=KY (a++args++b) H:=by kernel_rfl
theorem OZ (a b args:List AV)(H:Hp):Xl cfg (Za cfg) (.fn (.func 155) a b) args H=Ze KZ (a++args++b) H:=by kernel_rfl
theorem Ze0 (a b args:List AV)(H:Hp):Xl cfg (Za cfg) (.fn (.func 157) a b) args H=Ze Fy (a++args++b) H:=by kernel_rfl
theorem Za0 (a b args:List AV)(H:Hp):Xl cfg (Za cfg) (.fn (.func 158) a b) args H=Ze G0 (a++args++b) H:=by kernel_rfl
theorem Zew:∀ f∈userList,Ep Tryz.prog f:=
 Z2 Tryz.call3 (
 Z2 Tryz.call4 (
 Z2 Tryz.call5 (
 Z2 Tryz.call6 (
 Z2 Tryz.call7 (
 Z2 Tryz.call8 (
 Z2 Tryz.call9 (
 Z2 Tryz.call10 (
 Z2 Tryz.call11 (
 Z2 Tryz.call12 (
 Z2 Tryz.call13 (
 Z2 Tryz.call14 (
 Z2 Tryz.call15 (
 Z2 Tryz.call16 (
 Z2 Tryz.call17 (
 Z2 Tryz.call18 (
 Z2 Tryz.call19 (
 Z2 Tryz.call20 (
 Z2 Tryz.call21 (
 Z2 Tryz.call22 (
 Z2 Tryz.call23 (
 Z2 Tryz.call24 (
 Z2 Tryz.call25 (
 Z2 Tryz.call26 (
 Z2 Tryz.call27 (
 Z2 Tryz.call28 (
 Z2 Tryz.call29 (
 Z2 Tryz.call30 (
 Z2 Tryz.call31 (
 Z2 Tryz.call32 (
 Z2 Tryz.call33 (
 Z2 Tryz.call34 (
 Z2 Tryz.call35 (
 Z2 Tryz.call36 (
 Z2 Tryz.call37 (
 Z2 Tryz.call38 (
 Z2 Tryz.call39 (
 Z2 Tryz.call40 (
 Z2 Tryz.call41 (
 Z2 Tryz.call42 (
 Z2 Tryz.call43 (
 Z2 Tryz.call44 (
 Z2 Tryz.call45 (
 Z2 Tryz.call46 (
 Z2 Tryz.call47 (
 Z2 Tryz.call48 (
 Z2 Tryz.call49 (
 Z2 Tryz.call50 (
 Z2 Tryz.call51 (
 Z2 Tryz.call52 (
 Z2 Tryz.call53 (
 Z2 Tryz.call54 (
 Z2 Tryz.call55 (
 Z2 Tryz.call56 (
 Z2 Tryz.call57 (
 Z2 Tryz.call58 (
 Z2 Tryz.call59 (
 Z2 Tryz.call60 (
 Z2 Tryz.call61 (
 Z2 Tryz.call62 (
 Z2 Tryz.call63 (
 Z2 Tryz.call64 (
 Z2 Tryz.call65 (
 Z2 Tryz.call66 (
 Z2 Tryz.call67 (
 Z2 Tryz.call68 (
 Z2 Tryz.call69 (
 Z2 Tryz.call70 (
 Z2 Tryz.call71 (
 Z2 Tryz.call72 (
 Z2 Tryz.call73 (
 Z2 Tryz.call74 (
 Z2 Tryz.call75 (
 Z2 Tryz.call76 (
 Z2 Tryz.call77 (
 Z2 Tryz.call78 (
 Z2 Tryz.call79 (
 Z2 Tryz.call80 (
 Z2 Tryz.call81 (
 Z2 Tryz.call82 (
 Z2 Tryz.call83 (
 Z2 Tryz.call84 (
 Z2 Tryz.call85 (
 Z2 Tryz.call86 (
 Z2 Tryz.call87 (
 Z2 Tryz.call88 (
 Z2 Tryz.call89 (
 Z2 Tryz.call90 (
 Z2 Tryz.call91 (
 Z2 Tryz.call92 (
 Z2 Tryz.call93 (
 Z2 Tryz.call94 (
 Z2 Tryz.call95 (
 Z2 Tryz.call96 (
 Z2 Tryz.call97 (
 Z2 Tryz.call98 (
 Z2 Tryz.call99 (
 Z2 Tryz.call100 (
 Z2 Tryz.call101 (
 Z2 Tryz.call102 (
 Z2 Tryz.call103 (
 Z2 Tryz.call104 (
 Z2 Tryz.call105 (
 Z2 Tryz.call106 (
 Z2 Tryz.call107 (
 Z2 Tryz.call108 (
 Z2 Tryz.call109 (
 Z2 Tryz.call110 (
 Z2 Tryz.call111 (
 Z2 Tryz.call112 (
 Z2 Tryz.call113 (
 Z2 Tryz.call114 (
 Z2 Tryz.call115 (
 Z2 Tryz.call116 (
 Z2 Tryz.call117 (
 Z2 Tryz.call118 (
 Z2 Tryz.call119 (
 Z2 Tryz.call120 (
 Z2 Tryz.call121 (
 Z2 Tryz.call122 (
 Z2 Tryz.call123 (
 Z2 Tryz.call124 (
 Z2 Tryz.call125 (
 Z2 Tryz.call126 (
 Z2 Tryz.call127 (
 Z2 Tryz.call128 (
 Z2 Tryz.call129 (
 Z2 Tryz.call130 (
 Z2 Tryz.call131 (
 Z2 Tryz.call132 (
 Z2 Tryz.call133 (
 Z2 Tryz.call134 (
 Z2 Tryz.call135 (
 Z2 Tryz.call136 (
 Z2 Tryz.call137 (
 Z2 Tryz.call138 (
 Z2 Tryz.call139 (
 Z2 Tryz.call140 (
 Z2 Tryz.call141 (
 Z2 Tryz.call142 (
 Z2 Tryz.call143 (
 Z2 Tryz.call144 (
 Z2 Tryz.call145 (
 Z2 Tryz.call146 (
 Z2 Tryz.call147 (
 Z2 Tryz.call148 (
 Z2 Tryz.call149 (
 Z2 Tryz.call150 (
 Z2 Tryz.call151 (
 Z2 Tryz.call152 (
 Z2 Tryz.call153 (
 Z2 Tryz.call154 (
 Z2 Tryz.call155 (
 Z2 Tryz.call156 (
 Z2 Tryz.call157 (
 Z2 Tryz.call158 (
 Z2 Tryz.call159 (
 Z2 Tryz.call160 (
 Z2 Tryz.call161 (
 Z2 Tryz.call162 (
 Z2 Tryz.call163 (
 Z2 Tryz.call164 (
 Z2 Tryz.call165 (
 Z2 Tryz.call166 (
 Z2 Tryz.call167 (
 Z2 Tryz.call168 (
 Z2 Tryz.call169 (
 Z2 Tryz.call170 (
 Z2 Tryz.call171 (
 Z2 Tryz.call172 (
 Z2 Tryz.call173 (
 Z2 Tryz.call174 (
 Z2 Tryz.call175 (
 Z2 Tryz.call176 (
 Z2 Tryz.call177 (
 Z2 Tryz.call178 (
 Z2 Tryz.call179 (
 Z2 Tryz.call180 (
 Z2 Tryz.call181 (
 Z2 Tryz.call182 (
 Z2 Tryz.call183 (
 Z2 Tryz.call184 (
 Z2 Tryz.call185 (
 Z2 Tryz.call186 (
 Z2 Tryz.call187 (
 Z2 Tryz.call188 (
 Z2 Tryz.call189 (
 Z2 Tryz.call190 (
 Z2 Tryz.call191 (
 Z2 Tryz.call192 (
 Z2 Tryz.call193 (
 Z2 Tryz.call194 (
 Z2 Tryz.call195 (
 Z2 Tryz.call196 (
 Z2 Tryz.call197 (
 Z2 Tryz.call198 (
 Z2 Tryz.call199 (
 Z2 Tryz.call200 (
 Z2 Tryz.call201 (
 Z2 Tryz.call202 (
 Z2 Tryz.call203 (
 Z2 Tryz.call204 (
 Z2 Tryz.call205 (
 Z2 Tryz.call206 (
 Z2 Tryz.call207 (
 Z2 Tryz.call208 (
 Z2 Tryz.call209 (
 Z2 Tryz.call210 (
 Z2 Tryz.call211 (
 Z2 Tryz.call212 (
 Z2 Tryz.call213 (
 Z2 Tryz.call214 (
 Z2 Tryz.call215 (
 Z2 Tryz.call216 (
 Z2 Tryz.call217 (
 Z2 Tryz.call218 (
 Z2 Tryz.call219 (
 Z2 Tryz.call220 (
 Z2 Tryz.call221 (
 Z2 Tryz.call222 (
 Z2 Tryz.call223 (
 Z2 Tryz.call224 (
 Z2 Tryz.call226 (
 Z2 Tryz.call227 (
 Z2 Tryz.call228 (
 Z2 Tryz.call229 (
 Z2 Tryz.call230 (
 Z2 Tryz.call231 (
 Z2 Tryz.call232 (
 Z2 Tryz.call233 (
 Z2 Tryz.call234 (
 Z2 Tryz.call235 (
 Z2 Tryz.call236 (
 Z2 Tryz.call237 (
 Z2 Tryz.call238 (
 Z2 Tryz.call240 (
 Z2 Tryz.call241 (
 Z2 Tryz.call242 (
 Z2 Tryz.call243 (
 Z2 Tryz.call244 (
 Z2 Tryz.call245 (
 Z2 Tryz.call246 (
 Z2 Tryz.call247 (
 Z2 Tryz.call248 (
 Z2 Tryz.call250 (
 Z2 Tryz.call251 (
 Z2 Tryz.call252 (
 Z2 Tryz.call253 (
 Z2 Tryz.call254 (
 Z2 Tryz.call255 (
 Z2 Tryz.call256 (
 Z2 Tryz.call257 (
 Z2 Tryz.call258 (
 Z2 Tryz.call259 (
 Z2 Tryz.call261 (
 Z2 Tryz.call262 (
 Z2 Tryz.call263 (
 Z2 Tryz.call264 (
 Z2 Tryz.call265 (
 Z2 Tryz.call266 (ZdG))))))))))))))))))))))))))))))))))))))))))))))))))))))))))))))))))))))))))))))))))))))))))))))))))))))))))))))))))))))))))))))))))))))))))))))))))))))))))))))))))))))))))))))))))))))))))))))))))))))))))))))))))))))))))))))))))))))))))))))))))))))))))))))))))))
theorem Zkj:∀ t∈eqList,Tryz.prog.stoodInHeld t=false∧Tryz.prog.eqGuardType Tryz.prog.depth t=false:=by
 intro t ht
 simp only[eqList,List.mem_cons,List.not_mem_nil,or_false]at ht
theorem ID (args:Array Value)(w:World):(callFunc 225 args).run Tryz.prog w=(do pure (.value (←Dv .cmp args)):Sem Next).run Tryz.prog w:=by kernel_rfl
theorem IE (args:Array Value)(w:World):(callFunc 239 args).run Tryz.prog w=(do pure (.value (←Dv .same args)):Sem Next).run Tryz.prog w:=by kernel_rfl
theorem IF (args:Array Value)(w:World):(callFunc 249 args).run Tryz.prog w=(do pure (.value (←Dv .indexByte args)):Sem Next).run Tryz.prog w:=by kernel_rfl
theorem ZgO:∀ f e,cfg.ext f=some e→∀ (args:Array Value) (w:World),(callFunc f args).run Tryz.prog w=(do pure (.value (←Dv e args)):Sem Next).run Tryz.prog w:=by
 intro f e h
 have h2:=DD (l:=extList) h
 simp only[extList,List.mem_cons,Prod.mk.injEq,List.not_mem_nil,or_false]at h2
 rcases h2 with ⟨rfl,rfl⟩|⟨rfl,rfl⟩|⟨rfl,rfl⟩
 ·exact ID
 ·exact IE
 ·exact IF
theorem ZhJ:∀ f g,cfg.sum f=some g→cfg.user f=true∧Zcs cfg f g:=by
 intro f g h
 have h2:=DD (l:=sumList) h
 simp only[sumList,List.mem_cons,Prod.mk.injEq,List.not_mem_nil,or_false]at h2
 rcases h2 with ⟨rfl,rfl⟩|⟨rfl,rfl⟩
 ·exact⟨by kernel_rfl,Zqp (C:=cfg) rfl (fun _=>rfl)⟩
 ·exact⟨by kernel_rfl,ZpE (C:=cfg) rfl (fun _=>rfl)⟩
theorem ZgJ:∀ f g,cfg.eff f=some g→cfg.user f=true∧GX cfg f g:=by
 intro f g h
 have h2:=DD (l:=effList) h
 simp only[effList,List.mem_cons,Prod.mk.injEq,List.not_mem_nil,or_false]at h2
 rcases h2 with ⟨rfl,rfl⟩|⟨rfl,rfl⟩|⟨rfl,rfl⟩|⟨rfl,rfl⟩|⟨rfl,rfl⟩|⟨rfl,rfl⟩
 ·exact⟨by kernel_rfl,Znj (C:=cfg) rfl (fun _=>rfl)⟩
 ·exact⟨by kernel_rfl,ZkG (C:=cfg) rfl (fun _=>rfl)⟩
 ·exact⟨by kernel_rfl,Zps (C:=cfg) rfl (fun _=>rfl)⟩
 ·exact⟨by kernel_rfl,Zqn (C:=cfg) rfl (fun _=>rfl)⟩
 ·exact⟨by kernel_rfl,Zlw (C:=cfg) rfl (fun _=>rfl)⟩
 ·exact⟨by kernel_rfl,ZoP (C:=cfg) rfl (fun _=>rfl)⟩
theorem cfg_ok:Ji cfg:=
 ⟨fun t h=>Zkj t (List.contains_iff_mem.1 h),fun f h=>Zew f (List.contains_iff_mem.1 h),by kernel_rfl,ZgO,ZhJ,ZgJ⟩
end
end Go.Am
