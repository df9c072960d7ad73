/-
  The functions of the translation over the abstract machine: written by program (wip/gen.py).
-/
import Derived.Test.YtehanadfidoodaaGreatDoorProg
import Derived.Test.YtehanadfidoodaaGreatDoorNkPgx
namespace Go.Am
open Go.Proofs
set_option maxRecDepth 100000
set_option linter.unusedVariables false
set_option linter.unusedSimpArgs false
section
variable (p0 p1 p2 x0 x1 x2 x4 x6 x7 x8 x9 x10 x11 x33 x34 x35 x36:AV)(H0 H:Hp)
def OU:List (Nat×List (Nat×List Nat)):=[(13,[(3,[2,3,4]),(11,[3,4,7,8,15]),(19,[22,23,24,25,27,28,29]),(1000005,[3,4]),(1000007,[3,4]),(1000008,[3,4])]),
 (28,[(3,[0,1,2]),(5,[0,1,2]),(6,[0,1,2,18,19,20]),(7,[0,1,2,18,19,20,21]),(11,[0,1,2,18,19,20]),(12,[0,1,2])]),
 (30,[(3,[0,3,5,6]),(6,[0,3,5,6,10]),(9,[0,10]),(12,[10])]),
 (31,[(4,[0,1,2,3,4]),(5,[0,1,2,3,4]),(6,[0,1,2,3,4]),(9,[0,1,2,3,4,5,6]),(11,[0,1,2,3,4,5,6]),(14,[0,1,2,3])]),
 (32,[(3,[0,1])]),
 (33,[(4,[5,6,7])]),
 (34,[(3,[2,3,4]),(6,[7]),(1000003,[3,4])]),
 (36,[(3,[0]),(11,[0]),(13,[0])]),
 (38,[(1000003,[1,2])]),
 (39,[(4,[1,5,12,13]),(5,[1,5,12,13,14]),(8,[1,5,6,12,13]),(10,[1,5,12,13]),(11,[5])]),
 (41,[(2,[0,3]),(3,[0,3]),(4,[0,3]),(5,[0,3,4]),(6,[0,3,4]),(7,[0,3,4]),(9,[0,3]),(11,[0])]),
 (42,[(4,[2,3,4,5,11,12,13,14]),(5,[2,3,4,5,11,12,13,14]),(6,[2,3,4,5,11,13,14]),(12,[2,3,4,5,11,12,13,14,15]),(14,[2,3,4,5,11,12,13,14,15]),(15,[11,12,13])]),
 (43,[(3,[0,1,6,7]),(4,[0,1,6,7]),(5,[0,1,6,7]),(8,[0,1,6,7,8,9]),(11,[0,1,6,7,8]),(12,[6])]),
 (44,[(1000002,[4])]),
 (45,[(3,[0,1,5,6]),(4,[0,1,5,6]),(5,[0,1,5,6]),(6,[5])]),
 (46,[(3,[0,3,4]),(4,[0,3,4]),(5,[0,3,4]),(6,[3])]),
 (47,[(3,[0,1]),(4,[0,1,5]),(5,[0,1,5]),(6,[0,1,5]),(8,[])]),
 (53,[(3,[0]),(5,[0,3,10,11,12]),(6,[0,3,10,11,12,13]),(9,[0,3,10,11,12]),(10,[3])]),
 (58,[(3,[0]),(5,[0]),(6,[0]),(10,[0,3]),(11,[0])]),
 (59,[(3,[0]),(6,[0,5]),(7,[0,5])]),
 (60,[(3,[0,3,5,6]),(6,[0,3,5,6,10]),(8,[0,5,6,10,12,31,32,33]),(9,[0,5,6,10,12,31,32,33,34]),(11,[0,5,6,10,12,31,32,33]),(12,[0,5,6,10,12]),(13,[0,10,15]),(16,[0,10,15,16,17]),(17,[0,10,15,16]),(20,[0,10]),(23,[10])]),
 (64,[(3,[1]),(5,[1]),(6,[33,34,35]),(7,[33,34,35,36]),(10,[33,34,35]),(11,[])]),
 (67,[(5,[2,3,4,5]),(8,[9])]),
 (70,[(3,[1,5,8,9,10]),(4,[1,5,8,9,10,11]),(7,[1,5,8,9,10]),(8,[5])]),
 (72,[(4,[2,3,4,5]),(5,[2,3,4,5,26,27,28]),(6,[2,3,4,5,26,27,28,29]),(10,[2,3,4,5,10,11,26,27,28]),(13,[2,3,4,5,26,27,28]),(14,[]),(1000010,[4,5,10])]),
 (76,[(3,[0])]),
 (77,[(2,[0,7,8]),(3,[0,7,8,9]),(8,[0,7,8]),(9,[0])]),
 (78,[(4,[0,1,5]),(6,[5,6,21,22,23]),(7,[5,6,21,22,23,24]),(11,[5,6,21,22,23]),(12,[5])]),
 (79,[(4,[6])]),
 (80,[(3,[0]),(5,[0]),(9,[0,4])]),
 (81,[(4,[0,1,2]),(6,[0,1,2]),(9,[0,1,8]),(11,[0,1,8])]),
 (82,[(4,[0,1]),(7,[0,1])]),
 (83,[(3,[0,1]),(6,[1,6,7,8]),(7,[1,6,7,8]),(12,[6,7,8])]),
 (86,[(4,[0,1,2]),(7,[2,10]),(9,[2,10]),(12,[2,12,13])]),
 (102,[(5,[1,5,6,7,20,21,22]),(6,[1,5,6,7,20,21,22,23]),(10,[1,5,6,7,8,10,11,20,21,22]),(12,[1,5,6,7,20,21,22]),(13,[1,5,7]),(15,[1,5]),(18,[13])]),
 (103,[(3,[0,3,10,11,12]),(4,[0,3,10,11,12,13]),(7,[0,3,10,11,12]),(8,[3])]),
 (105,[(3,[1,2])]),
 (106,[(5,[1,2,8,9,24,25]),(6,[1,2,8,9,24,25,26]),(9,[1,2,8,9,10,24,25]),(11,[1,2,8,9,24,25]),(12,[1,2,8,9]),(14,[1,2,8,9]),(16,[1,2]),(1000002,[3])]),
 (107,[(4,[4,5,6,7,9]),(8,[4,5,6,7,9]),(1000011,[4])]),
 (108,[(4,[0,2,4,7,8]),(12,[0,7,10]),(14,[0,7,10])]),
 (116,[(3,[0,1]),(5,[0,1]),(8,[6])]),
 (119,[(11,[0,1]),(13,[0,1])]),
 (120,[(7,[])]),
 (121,[(3,[4,9,10,11]),(4,[4,9,10,11,12]),(8,[4,7,9,10,11]),(9,[4,9,10,11]),(10,[4])]),
 (122,[(4,[0,2,7]),(6,[0,2,7])]),
 (123,[(4,[6])]),
 (124,[(4,[2,3,10]),(6,[2,3,10])]),
 (125,[(3,[0,1]),(6,[1,7]),(9,[1,7,8]),(11,[1,7,8]),(13,[1,7,8])]),
 (127,[(3,[0]),(4,[0,3]),(5,[0,3]),(6,[0,3]),(9,[])]),
 (147,[(3,[1,2])]),
 (149,[(3,[1,2,3,6,16,17,18]),(4,[1,2,3,6,16,17,18,19]),(6,[1,2,3,6,16,17,18]),(7,[1,2,3,6]),(8,[1,2,3,6,9]),(9,[1,2,3,6,9]),(14,[1,2,3,6,9,10,11]),(15,[1,2,3,6,9,10])]),
 (152,[(2,[0,4]),(3,[0,4]),(4,[0,4]),(7,[0,4,5]),(14,[5,6,7,8,9]),(16,[5,7,8,9]),(19,[9,11])]),
 (153,[(5,[])]),
 (157,[(3,[0,3,7,8]),(4,[0,3,7,8,9]),(8,[0,3,7,8]),(9,[3])]),
 (160,[(3,[0,1,2,6,9]),(4,[0,1,2,6,9]),(7,[0,1,2,6,9,10]),(9,[0,1,2,6,9,10]),(10,[0,1,6]),(11,[0,1,6,11]),(12,[0,1,6,11]),(13,[0,1,6,11]),(14,[0,1,6,7,11]),(15,[0,1,6,7,11]),(16,[0,1,6,7,11]),(17,[0,1,6,7,11]),(18,[0,1,6,7,11]),(20,[0,1,7,11]),(21,[])]),
 (163,[(3,[1,2])]),
 (167,[(6,[0])]),
 (169,[(2,[0,7,8]),(3,[0,7,8,9]),(8,[0,7,8]),(9,[0])]),
 (170,[(3,[0])]),
 (185,[(2,[0,1,7,8]),(3,[0,1,7,8,9]),(6,[0,1,7,8]),(7,[])]),
 (186,[(3,[1]),(5,[1]),(6,[1,27,28,29]),(7,[1,27,28,29,30]),(10,[1,27,28,29]),(11,[1]),(14,[1])]),
 (187,[(3,[0,1,5,6]),(4,[0,1,5,6,7]),(6,[0,1,5,6]),(7,[0,1])]),
 (189,[(2,[0,3]),(3,[0,3]),(4,[3])]),
 (190,[(3,[0,1,5,8,9]),(4,[0,1,5,8,9,10]),(8,[0,1,5,8,9]),(9,[1,5])]),
 (197,[(3,[0,5,10,11]),(4,[0,5,10,11,12]),(6,[0,5,10,11]),(7,[5])]),
 (204,[(3,[1]),(5,[1]),(6,[1,3]),(7,[1,3]),(8,[1,3]),(10,[1]),(12,[1]),(15,[1])]),
 (208,[(3,[0,3,6,7]),(4,[0,3,6,7,8]),(8,[0,3,6,7]),(9,[3])]),
 (221,[(2,[0,7,8]),(3,[0,7,8,9]),(8,[0,7,8]),(9,[0])]),
 (222,[(3,[0]),(5,[3,10,11,12]),(6,[3,10,11,12,13]),(9,[3,5,10,11,12]),(11,[3,5,10,11,12]),(12,[3,10,11,12]),(13,[])]),
 (223,[(3,[0]),(5,[3,10,11,12]),(6,[3,10,11,12,13]),(9,[3,5,10,11,12]),(11,[3,5,10,11,12]),(12,[3,10,11,12]),(13,[])]),
 (224,[(3,[0,1,2,7,11,12]),(4,[0,1,2,7,11,12,13]),(8,[0,1,2,7,11,12]),(9,[7])]),
 (226,[(3,[0,3,5]),(4,[0,3,5,6]),(8,[0,3,5]),(9,[3])]),
 (236,[(3,[0]),(4,[0,3]),(5,[0,3]),(6,[0,3]),(8,[0,3]),(9,[0,3,4]),(10,[0,3,4]),(11,[0,3,4]),(13,[])]),
 (237,[(3,[0]),(4,[0,3]),(5,[0,3]),(6,[0,3]),(8,[0,3]),(9,[0,3,4]),(10,[0,3,4]),(11,[0,3,4]),(13,[])]),
 (252,[(3,[0,1,5,6]),(4,[0,1,5,6]),(5,[0,1,5,6]),(6,[5])])]
def userList:List Nat:=[3,4,5,6,7,8,9,10,11,12,13,14,15,16,17,18,19,20,21,22,23,24,25,26,27,28,29,30,31,32,33,34,35,36,37,38,39,40,41,42,43,44,45,46,47,48,49,50,51,52,53,54,55,56,57,58,59,60,61,62,63,64,65,66,67,68,69,70,71,72,73,74,75,76,77,78,79,80,81,82,83,84,85,86,87,88,89,90,91,92,93,94,95,96,97,98,99,100,101,102,103,104,105,106,107,108,109,110,111,112,113,114,115,116,117,118,119,120,121,122,123,124,125,126,127,128,129,130,131,132,133,134,135,136,137,138,139,140,141,142,143,144,145,146,147,148,149,150,151,152,153,154,155,156,157,158,159,160,161,162,163,164,165,166,167,168,169,170,171,172,173,174,175,176,177,178,179,180,181,182,183,184,185,186,187,188,189,190,191,192,193,194,195,196,197,198,199,200,201,202,203,204,205,206,207,208,209,210,211,212,213,214,215,216,217,218,219,220,221,222,223,224,226,227,228,229,230,231,232,233,234,235,236,237,238,240,241,242,243,244,245,246,247,248,250,251,252,253,254,255,256,257,258,259,261,262,263,264,265,266]
def pureList:List Nat:=[19,20]
def flatList:List Nat:=[15,16,17,18,19,20,21,22,23,24,25,26,27,31,34,38,39,40,41,46,47,52,62,63,64,66,67,70,71,72,73,74,75,76,77,83,84,85,88,89,94,105,106,107,109,110,111,112,113,114,115,118,121,125,127,128,131,134,135,138,140,146,147,148,151,152,153,155,157,158,159,161,163,164,165,166,169,170,173,178,180,183,185,186,187,188,189,190,197,199,200,204,205,208,220,221,222,223,224,226,231,233,234,235,236,237,246,250,251,252]
def extList:List (Nat×ExtK):=[(225,.cmp),(239,.same),(249,.indexByte)]
def roList:List Nat:=[53,54,61,78,90,103,136,181]
def eqList:List Nat:=[]
noncomputable def sumList:List (Nat×(List AV→Option AV)):=[(156,Ig),(168,Ia)]
noncomputable def effList:List (Nat×EffFn):=[(87,namesE),(101,forgetE),(104,Zp3),(171,textE),(172,stringE),(196,byteE)]
def bldList:List (Nat×Nat):=[(192,5)]
def wrbList:List Nat:=[123]
def qkList:List (Nat×List Nat):=[(11,[12]),(14,[15])]
def linList:List Nat:=[22,32]
noncomputable def cfg:Cfg:={ P:=Tryz.prog,glob:=BS,sum:=fun f=>sumList.lookup f,user:=fun f=>userList.contains f,eqok:=fun t=>eqList.contains t,pure:=fun f=>pureList.contains f,flat:=fun f=>flatList.contains f,ext:=fun f=>extList.lookup f,keep:=Zhm OU,eff:=fun f=>effList.lookup f,bld:=fun t=>bldList.lookup t,lin:=fun t=>linList.contains t,qk:=fun t a=>qkList.contains (t,a),wrb:=fun t=>wrbList.contains t,ro:=fun f=>roList.contains f }
theorem Zb {kp:Nat → Option (List Nat)}{LP:Code → KL → AL → Hp → Z3}{n:Nat}{c:Code}{k:KL}{al:AL}{H:Hp}{r:Z3}(cut:List Nat)(h:Sv cfg (Za cfg) LP kp n Zd Z7 (Yl cfg (Za cfg) LP kp n Zd Z7) cut c k al H=r):Yl cfg (Za cfg) LP kp n Zd Z7 c k al H=r:=(VD cut c k al H).trans h
noncomputable def TG:List AV→Hp→Z3:=Za cfg 13
noncomputable def QO:List AV→Hp→Z3:=Za cfg 28
noncomputable def Ml:List AV→Hp→Z3:=Za cfg 29
noncomputable def TP:List AV→Hp→Z3:=Za cfg 30
noncomputable def R3:List AV→Hp→Z3:=Za cfg 31
noncomputable def Mk:List AV→Hp→Z3:=Za cfg 32
noncomputable def J7:List AV→Hp→Z3:=Za cfg 33
noncomputable def Jv:List AV→Hp→Z3:=Za cfg 34
noncomputable def Xo:List AV→Hp→Z3:=Za cfg 36
noncomputable def KK:List AV→Hp→Z3:=Za cfg 38
noncomputable def TN:List AV→Hp→Z3:=Za cfg 39
noncomputable def CV:List AV→Hp→Z3:=Za cfg 41
noncomputable def Fd:List AV→Hp→Z3:=Za cfg 42
noncomputable def GT:List AV→Hp→Z3:=Za cfg 43
noncomputable def U4:List AV→Hp→Z3:=Za cfg 44
noncomputable def WA:List AV→Hp→Z3:=Za cfg 45
noncomputable def TH:List AV→Hp→Z3:=Za cfg 46
noncomputable def Bh:List AV→Hp→Z3:=Za cfg 47
noncomputable def Wk:List AV→Hp→Z3:=Za cfg 53
noncomputable def U5:List AV→Hp→Z3:=Za cfg 58
noncomputable def Ye:List AV→Hp→Z3:=Za cfg 59
noncomputable def Qs:List AV→Hp→Z3:=Za cfg 60
noncomputable def Wr:List AV→Hp→Z3:=Za cfg 64
noncomputable def VG:List AV→Hp→Z3:=Za cfg 67
noncomputable def V2:List AV→Hp→Z3:=Za cfg 70
noncomputable def XU:List AV→Hp→Z3:=Za cfg 72
noncomputable def Yc:List AV→Hp→Z3:=Za cfg 76
noncomputable def V3:List AV→Hp→Z3:=Za cfg 77
noncomputable def Bk:List AV→Hp→Z3:=Za cfg 78
noncomputable def UU:List AV→Hp→Z3:=Za cfg 79
noncomputable def X2:List AV→Hp→Z3:=Za cfg 80
noncomputable def Wg:List AV→Hp→Z3:=Za cfg 81
noncomputable def Wv:List AV→Hp→Z3:=Za cfg 82
noncomputable def Yq:List AV→Hp→Z3:=Za cfg 83
noncomputable def TL:List AV→Hp→Z3:=Za cfg 84
noncomputable def TM:List AV→Hp→Z3:=Za cfg 85
noncomputable def Wu:List AV→Hp→Z3:=Za cfg 86
noncomputable def Jw:List AV→Hp→Z3:=Za cfg 88
noncomputable def W6:List AV→Hp→Z3:=Za cfg 102
noncomputable def Wh:List AV→Hp→Z3:=Za cfg 103
noncomputable def Wt:List AV→Hp→Z3:=Za cfg 105
noncomputable def V1:List AV→Hp→Z3:=Za cfg 106
noncomputable def VH:List AV→Hp→Z3:=Za cfg 107
noncomputable def Uh:List AV→Hp→Z3:=Za cfg 108
noncomputable def Ui:List AV→Hp→Z3:=Za cfg 114
noncomputable def Xp:List AV→Hp→Z3:=Za cfg 116
noncomputable def Ja:List AV→Hp→Z3:=Za cfg 117
noncomputable def TO:List AV→Hp→Z3:=Za cfg 118
noncomputable def UT:List AV→Hp→Z3:=Za cfg 119
noncomputable def Xq:List AV→Hp→Z3:=Za cfg 120
noncomputable def DK:List AV→Hp→Z3:=Za cfg 121
noncomputable def US:List AV→Hp→Z3:=Za cfg 122
noncomputable def J9:List AV→Hp→Z3:=Za cfg 123
noncomputable def J8:List AV→Hp→Z3:=Za cfg 124
noncomputable def TJ:List AV→Hp→Z3:=Za cfg 125
noncomputable def J5:List AV→Hp→Z3:=Za cfg 127
noncomputable def Uv:List AV→Hp→Z3:=Za cfg 144
noncomputable def Wa:List AV→Hp→Z3:=Za cfg 145
noncomputable def Yu:List AV→Hp→Z3:=Za cfg 146
noncomputable def WW:List AV→Hp→Z3:=Za cfg 147
noncomputable def VF:List AV→Hp→Z3:=Za cfg 148
noncomputable def R4:List AV→Hp→Z3:=Za cfg 149
noncomputable def UR:List AV→Hp→Z3:=Za cfg 150
noncomputable def Ku:List AV→Hp→Z3:=Za cfg 151
noncomputable def UP:List AV→Hp→Z3:=Za cfg 152
noncomputable def DO:List AV→Hp→Z3:=Za cfg 153
noncomputable def Kq:List AV→Hp→Z3:=Za cfg 154
noncomputable def Kr:List AV→Hp→Z3:=Za cfg 155
noncomputable def DN:List AV→Hp→Z3:=Za cfg 157
noncomputable def Ks:List AV→Hp→Z3:=Za cfg 158
noncomputable def DM:List AV→Hp→Z3:=Za cfg 159
noncomputable def QN:List AV→Hp→Z3:=Za cfg 160
noncomputable def KN:List AV→Hp→Z3:=Za cfg 163
noncomputable def Vi:List AV→Hp→Z3:=Za cfg 167
noncomputable def GA:List AV→Hp→Z3:=Za cfg 169
noncomputable def DL:List AV→Hp→Z3:=Za cfg 170
noncomputable def Ff:List AV→Hp→Z3:=Za cfg 173
noncomputable def XE:List AV→Hp→Z3:=Za cfg 185
noncomputable def Ju:List AV→Hp→Z3:=Za cfg 186
noncomputable def TK:List AV→Hp→Z3:=Za cfg 187
noncomputable def Xm:List AV→Hp→Z3:=Za cfg 188
noncomputable def UQ:List AV→Hp→Z3:=Za cfg 189
noncomputable def Bi:List AV→Hp→Z3:=Za cfg 190
noncomputable def Ws:List AV→Hp→Z3:=Za cfg 195
noncomputable def Bj:List AV→Hp→Z3:=Za cfg 197
noncomputable def QH:List AV→Hp→Z3:=Za cfg 198
noncomputable def Fe:List AV→Hp→Z3:=Za cfg 204
noncomputable def Mj:List AV→Hp→Z3:=Za cfg 208
noncomputable def Qr:List AV→Hp→Z3:=Za cfg 221
noncomputable def Wq:List AV→Hp→Z3:=Za cfg 222
noncomputable def Wf:List AV→Hp→Z3:=Za cfg 223
noncomputable def J6:List AV→Hp→Z3:=Za cfg 226
noncomputable def V0:List AV→Hp→Z3:=Za cfg 230
noncomputable def IJ:List AV→Hp→Z3:=Za cfg 234
noncomputable def KM:List AV→Hp→Z3:=Za cfg 235
noncomputable def VE:List AV→Hp→Z3:=Za cfg 236
noncomputable def Vh:List AV→Hp→Z3:=Za cfg 237
noncomputable def TI:List AV→Hp→Z3:=Za cfg 252
noncomputable def PO:Z3:=Yl cfg (Za cfg) (Y8 cfg (cfg.keep 64) 78) (cfg.keep 64) 78 Zd Z7 (sub (Z1 Tryz.f64) [1,1,1,1]) (Zi cfg 78 64 Tryz.f64 H0) [] H
noncomputable def Qi:KL:=Zd (fun k al H=>Yl cfg (Za cfg) (Y8 cfg (cfg.keep 64) 78) (cfg.keep 64) 78 Zd Z7 (sub (Z1 Tryz.f64) [1,1,1,1]) k (ZR (cfg.keep 64) (sub (Z1 Tryz.f64) [1,1,1,1]) al) H) (Zi cfg 78 64 Tryz.f64 H0)
theorem LN:ZT 78 (Qi H0):=Zw (C:=cfg) (kp:=cfg.keep 64) (sub (Z1 Tryz.f64) [1,1,1,1]) (ZA 64 Tryz.f64 H0)
noncomputable def GI:Z3:=Yl cfg (Za cfg) (Y8 cfg (cfg.keep 64) 78) (cfg.keep 64) 78 Zd Z7 (sub (Z1 Tryz.f64) [1,1,1,0,1,0,0,1,1,1]) (Zd (fun k al H=>Y8 cfg (cfg.keep 64) 78 (sub (Z1 Tryz.f64) [1,1,1,0,1,0,0]) k (ZR (cfg.keep 64) (sub (Z1 Tryz.f64) [1,1,1,0,1,0,0]) al) H) (Z7 0 (Qi H0))) [(33,x33),(34,x34),(35,x35)] H
noncomputable def GH:Z3:=Yl cfg (Za cfg) (Y8 cfg (cfg.keep 64) 78) (cfg.keep 64) 78 Zd Z7 (sub (Z1 Tryz.f64) [1,1,1,0,1,0,0,1,1]) (Zd (fun k al H=>Y8 cfg (cfg.keep 64) 78 (sub (Z1 Tryz.f64) [1,1,1,0,1,0,0]) k (ZR (cfg.keep 64) (sub (Z1 Tryz.f64) [1,1,1,0,1,0,0]) al) H) (Z7 0 (Qi H0))) [(33,x33),(34,x34),(35,x35),(36,x36)] H
noncomputable def Qj:Z3:=Y8 cfg (cfg.keep 64) 78 (sub (Z1 Tryz.f64) [1,1,1,0,1,0,0]) (Z7 0 (Qi H0)) [(33,x33),(34,x34),(35,x35)] H
noncomputable def PN:Z3:=Yl cfg (Za cfg) (Y8 cfg (cfg.keep 64) 78) (cfg.keep 64) 78 Zd Z7 (sub (Z1 Tryz.f64) [1,1,1]) (Zi cfg 78 64 Tryz.f64 H0) [(1,x1)] H
noncomputable def PM:Z3:=Yl cfg (Za cfg) (Y8 cfg (cfg.keep 64) 78) (cfg.keep 64) 78 Zd Z7 (sub (Z1 Tryz.f64) [1,1]) (Zi cfg 78 64 Tryz.f64 H0) [(1,x1)] H
noncomputable def Nw:Z3:=
 Z0 (ZW p0 H) fun r1=>
 Z0 (Z8 0 r1.1) fun t5=>
 Z0 (Z4 false 1 t5 r1.2) fun t6=>
 Z0 (Zk (.slice 149) t6) fun t7=>
 Z0 (Z5 .gtr t7 (.int .i64 8)) fun t8=>
 Zl t8
  (some ((.int .i64 3),r1.2))
  (PM r1.1 H r1.2)
theorem Cu:PO H0 H =
 some ((.int .i64 0),H):=Zb [3,5,7,10,11] (by kernel_rfl)
theorem Cw:GI x33 x34 x35 H0 H =
 Z0 (Z5 .add x35 (.int .i64 1)) fun t77=>
 Qj x33 x34 t77 H0 H:=Zb [3,5,7,10,11] (by kernel_rfl)
theorem Cv:GH x33 x34 x35 x36 H0 H =
 Z0 (Zn 5 x33 x35) fun t37=>
 Z0 (Z4 true 5 t37 H) fun t38=>
 Z0 (some ((.ptr H.length 0),H++[.cells [(.int .i64 0),(.int .i64 0),(.int .i64 0),(.int .i64 0),(.int .i64 0)]])) fun r4=>
 Z0 (Zh 5 r4.1 t38 r4.2) fun r_10=>
 Z0 (Z8 0 r4.1) fun t39=>
 Z0 (Z4 false 1 t39 r_10.2) fun t40=>
 Z0 (Z5 .lss t40 (.int .i64 1)) fun t41=>
 Z0 (Z6 t41 false (.tuple []) (Z8 1 r4.1)) fun t43=>
 Z0 (Z6 t41 false (.tuple []) (Z4 false 1 t43 r_10.2)) fun t44=>
 Z0 (Z6 t41 false (.tuple []) (Z5 .lss t44 (.int .i64 1))) fun t45=>
 Z0 (Zg t41 (.bool true) t45) fun t46=>
 Z0 (Z6 t46 false (.tuple []) (Z8 2 r4.1)) fun t48=>
 Z0 (Z6 t46 false (.tuple []) (Z4 false 1 t48 r_10.2)) fun t49=>
 Z0 (Z6 t46 false (.tuple []) (Z5 .lss t49 (.int .i64 0))) fun t50=>
 Z0 (Zg t46 (.bool true) t50) fun t51=>
 Z0 (Z6 t51 false (.tuple []) (Z8 3 r4.1)) fun t53=>
 Z0 (Z6 t51 false (.tuple []) (Z4 false 1 t53 r_10.2)) fun t54=>
 Z0 (Z6 t51 false (.tuple []) (Z5 .lss t54 (.int .i64 0))) fun t55=>
 Z0 (Zg t51 (.bool true) t55) fun t56=>
 Z0 (Z6 t56 false (.tuple []) (Z8 2 r4.1)) fun t58=>
 Z0 (Z6 t56 false (.tuple []) (Z4 false 1 t58 r_10.2)) fun t59=>
 Z0 (Z6 t56 false (.tuple []) (Z5 .eql t59 (.int .i64 0))) fun t60=>
 Z0 (Z6 t56 false (.tuple []) (some t60)) fun t61=>
 Z0 (Z6 t61 true (.tuple []) (Z8 3 r4.1)) fun t62=>
 Z0 (Z6 t61 true (.tuple []) (Z4 false 1 t62 r_10.2)) fun t63=>
 Z0 (Z6 t61 true (.tuple []) (Z5 .neq t63 (.int .i64 0))) fun t64=>
 Z0 (Z6 t56 false (.tuple []) (Zg t61 t64 (.bool false))) fun t65=>
 Z0 (Zg t56 (.bool true) t65) fun t66=>
 Z0 (Z6 t66 false (.tuple []) (Z8 4 r4.1)) fun t68=>
 Z0 (Z6 t66 false (.tuple []) (Z4 false 1 t68 r_10.2)) fun t69=>
 Z0 (Z6 t66 false (.tuple []) (Z5 .lss t69 (.int .i64 0))) fun t70=>
 Z0 (Zg t66 (.bool true) t70) fun t71=>
 Z0 (Z6 t71 false (.tuple []) (Z8 4 r4.1)) fun t73=>
 Z0 (Z6 t71 false (.tuple []) (Z4 false 1 t73 r_10.2)) fun t74=>
 Z0 (Z6 t71 false (.tuple []) (Z5 .gtr t74 (.int .i64 31))) fun t75=>
 Z0 (Zg t71 (.bool true) t75) fun t76=>
 Zl t76
  (some ((.int .i64 2),r_10.2))
  (GI x33 x34 x35 H0 r_10.2):=Zb [3,5,7,10,11] (by kernel_rfl)
theorem Dx:Qj x33 x34 x35 H0 H =
 Z0 (Z5 .lss x35 x34) fun t36=>
 Zl t36
  (GH x33 x34 x35 t36 H0 H)
  (PO H0 H):=(ZB (C:=cfg) [3,5,7,10,11] (Zo 0 (LN H0)) _ _).trans (by kernel_rfl)
theorem Ct:PN x1 H0 H =
 Z0 (Z8 0 x1) fun t32=>
 Z0 (Z4 false 1 t32 H) fun t33=>
 Z0 (Zk (.slice 149) t33) fun t34=>
 Qj t33 t34 (.int .i64 0) H0 H:=Zb [3,5,7,10,11] (by kernel_rfl)
theorem Cs:PM x1 H0 H =
 Z0 (Z8 1 x1) fun t9=>
 Z0 (Z4 false 1 t9 H) fun t10=>
 Z0 (Z5 .lss t10 (.int .i64 (-1))) fun t11=>
 Z0 (Z6 t11 false (.tuple []) (Z8 1 x1)) fun t13=>
 Z0 (Z6 t11 false (.tuple []) (Z4 false 1 t13 H)) fun t14=>
 Z0 (Z6 t11 false (.tuple []) (Z5 .gtr t14 (.int .i64 255))) fun t15=>
 Z0 (Zg t11 (.bool true) t15) fun t16=>
 Z0 (Z6 t16 false (.tuple []) (Z8 1 x1)) fun t18=>
 Z0 (Z6 t16 false (.tuple []) (Z4 false 1 t18 H)) fun t19=>
 Z0 (Z6 t16 false (.tuple []) (Z5 .eql t19 (.int .i64 10))) fun t20=>
 Z0 (Zg t16 (.bool true) t20) fun t21=>
 Z0 (Z6 t21 false (.tuple []) (Z8 2 x1)) fun t23=>
 Z0 (Z6 t21 false (.tuple []) (Z4 false 1 t23 H)) fun t24=>
 Z0 (Z6 t21 false (.tuple []) (Z5 .lss t24 (.int .i64 0))) fun t25=>
 Z0 (Zg t21 (.bool true) t25) fun t26=>
 Z0 (Z6 t26 false (.tuple []) (Z8 2 x1)) fun t28=>
 Z0 (Z6 t26 false (.tuple []) (Z4 false 1 t28 H)) fun t29=>
 Z0 (Z6 t26 false (.tuple []) (Z5 .gtr t29 (.int .i64 31))) fun t30=>
 Z0 (Zg t26 (.bool true) t30) fun t31=>
 Zl t31
  (some ((.int .i64 2),H))
  (PN x1 H0 H):=Zb [3,5,7,10,11] (by kernel_rfl)
theorem Hi:Wr [p0] H=Nw p0 H:=(Zc (C:=cfg) (fn:=Tryz.f64) (c:=Z1 Tryz.f64) (n:=78) [3,5,7,10,11] Tryz.func64 (by kernel_rfl) (by kernel_rfl) [p0] (by kernel_rfl) H).trans (by kernel_rfl)
noncomputable def FX:Z3:=Yl cfg (Za cfg) (Y8 cfg (cfg.keep 108) 70) (cfg.keep 108) 70 Zd Z7 (sub (Z1 Tryz.f108) [1,1,1,1,1,1,1]) (Zi cfg 70 108 Tryz.f108 H0) [(0,x0),(7,x7),(10,x10)] H
noncomputable def Xv:Z3:=Yl cfg (Za cfg) (Y8 cfg (cfg.keep 108) 70) (cfg.keep 108) 70 Zd Z7 (sub (Z1 Tryz.f108) [1,1,1,1,1,1]) (Zi cfg 70 108 Tryz.f108 H0) [(0,x0),(7,x7),(10,x10)] H
noncomputable def FW:Z3:=Yl cfg (Za cfg) (Y8 cfg (cfg.keep 108) 70) (cfg.keep 108) 70 Zd Z7 (sub (Z1 Tryz.f108) [1,1,1]) (Zi cfg 70 108 Tryz.f108 H0) [(0,x0),(2,x2),(4,x4),(7,x7),(8,x8)] H
noncomputable def Rx:Z3:=
 Z0 (ZW p1 H) fun r4=>
 Z0 (Z8 0 r4.1) fun t16=>
 Z0 (Z4 false 1 t16 r4.2) fun t17=>
 Z0 (Gw t17 (.int .i64 1)) fun t18=>
 Z0 (QN [p0,t18,p2] r4.2) fun r20=>
 Z0 (ZC r20.1 0) fun t21=>
 Z0 (ZC r20.1 1) fun t22=>
 Z0 (ZC r20.1 2) fun t23=>
 Z0 (Xa .not t23) fun t25=>
 Zl t25
  (some ((.str []),r20.2))
  (FW p0 p2 r4.1 t21 t22 H r20.2)
theorem LW:FX x0 x7 x10 H0 H =
 Z0 (Y7 x0 (some x7) (some x10) none) fun t69=>
 some (t69,H):=Zb [4,12,14] (by kernel_rfl)
theorem LV:Xv x0 x7 x10 H0 H =
 Z0 (Z5 .lss x10 x7) fun t65=>
 Zl t65
  (some ((.str []),H))
  (FX x0 x7 x10 H0 H):=Zb [4,12,14] (by kernel_rfl)
theorem LU:FW x0 x2 x4 x7 x8 H0 H =
 Z0 (Z8 1 x4) fun t27=>
 Z0 (Z4 false 1 t27 H) fun t28=>
 Z0 (Gw t28 (.int .i64 1)) fun t29=>
 Z0 (Z5 .sub t29 (.int .i64 1)) fun t30=>
 Z0 (Z5 .sub x8 x7) fun t33=>
 Z0 (VJ t30 t33) fun t34=>
 Z0 (Z5 .add x7 t34) fun t35=>
 Z0 (Zk .string x0) fun t37=>
 Z0 (Z8 2 x4) fun t38=>
 Z0 (Z4 false 1 t38 H) fun t39=>
 Z0 (Z5 .gtr t39 (.int .i64 0)) fun t40=>
 Zl t40
  (Z0 (Z8 2 x4) fun t43=>
  Z0 (Z4 false 1 t43 H) fun t44=>
  Z0 (QN [x0,t44,x2] H) fun r46=>
  Z0 (ZC r46.1 0) fun t47=>
  Z0 (ZC r46.1 1) fun t48=>
  Z0 (ZC r46.1 2) fun t49=>
  Zl t49
   (Z0 (Z8 3 x4) fun t52=>
   Z0 (Z4 false 1 t52 r46.2) fun t53=>
   Z0 (Z5 .gtr t53 (.int .i64 0)) fun t54=>
   Zl t54
    (Z0 (Z8 3 x4) fun t56=>
    Z0 (Z4 false 1 t56 r46.2) fun t57=>
    Z0 (Z5 .sub t48 t47) fun t60=>
    Z0 (VJ t57 t60) fun t61=>
    Z0 (Z5 .add t47 t61) fun t62=>
    Xv x0 t35 t62 H0 r46.2)
    (Xv x0 t35 t48 H0 r46.2))
   (Xv x0 t35 t37 H0 r46.2))
  (Xv x0 t35 t37 H0 H):=Zb [4,12,14] (by kernel_rfl)
theorem E3:Uh [p0,p1,p2] H=Rx p0 p1 p2 H:=(Zc (C:=cfg) (fn:=Tryz.f108) (c:=Z1 Tryz.f108) (n:=70) [4,12,14] Tryz.func108 (by kernel_rfl) (by kernel_rfl) [p0,p1,p2] (by kernel_rfl) H).trans (by kernel_rfl)
noncomputable def PQ:Z3:=Yl cfg (Za cfg) (Y8 cfg (cfg.keep 160) 83) (cfg.keep 160) 83 Zd Z7 (sub (Z1 Tryz.f160) [1,1,1]) (Zi cfg 83 160 Tryz.f160 H0) [] H
noncomputable def Vf:KL:=Zd (fun k al H=>Yl cfg (Za cfg) (Y8 cfg (cfg.keep 160) 83) (cfg.keep 160) 83 Zd Z7 (sub (Z1 Tryz.f160) [1,1,1]) k (ZR (cfg.keep 160) (sub (Z1 Tryz.f160) [1,1,1]) al) H) (Zi cfg 83 160 Tryz.f160 H0)
theorem B5:ZT 83 (Vf H0):=Zw (C:=cfg) (kp:=cfg.keep 160) (sub (Z1 Tryz.f160) [1,1,1]) (ZA 160 Tryz.f160 H0)
noncomputable def PS:Z3:=Yl cfg (Za cfg) (Y8 cfg (cfg.keep 160) 83) (cfg.keep 160) 83 Zd Z7 (sub (Z1 Tryz.f160) [1,1,0,1,0,0,1,1]) (Zd (fun k al H=>Y8 cfg (cfg.keep 160) 83 (sub (Z1 Tryz.f160) [1,1,0,1,0,0]) k (ZR (cfg.keep 160) (sub (Z1 Tryz.f160) [1,1,0,1,0,0]) al) H) (Z7 2 (Vf H0))) [(0,x0),(1,x1),(6,x6),(11,x11)] H
noncomputable def We:KL:=Zd (fun k al H=>Yl cfg (Za cfg) (Y8 cfg (cfg.keep 160) 83) (cfg.keep 160) 83 Zd Z7 (sub (Z1 Tryz.f160) [1,1,0,1,0,0,1,1]) k (ZR (cfg.keep 160) (sub (Z1 Tryz.f160) [1,1,0,1,0,0,1,1]) al) H) (Zd (fun k al H=>Y8 cfg (cfg.keep 160) 83 (sub (Z1 Tryz.f160) [1,1,0,1,0,0]) k (ZR (cfg.keep 160) (sub (Z1 Tryz.f160) [1,1,0,1,0,0]) al) H) (Z7 2 (Vf H0)))
theorem B6:ZT 83 (We H0):=Zw (C:=cfg) (kp:=cfg.keep 160) (sub (Z1 Tryz.f160) [1,1,0,1,0,0,1,1]) (Mf (C:=cfg) (kp:=cfg.keep 160) (sub (Z1 Tryz.f160) [1,1,0,1,0,0]) (Zo 2 (B5 H0)))
noncomputable def PT:Z3:=Yl cfg (Za cfg) (Y8 cfg (cfg.keep 160) 83) (cfg.keep 160) 83 Zd Z7 (sub (Z1 Tryz.f160) [1,1,0,1,0,0,1,0,0,1,1,1,1]) (Z7 3 (We H0)) [(0,x0),(1,x1),(7,x7),(11,x11)] H
noncomputable def GM:Z3:=Yl cfg (Za cfg) (Y8 cfg (cfg.keep 160) 83) (cfg.keep 160) 83 Zd Z7 (sub (Z1 Tryz.f160) [1,1,0,1,0,0,1,0,0,1,1,1]) (Z7 3 (We H0)) [(0,x0),(1,x1),(6,x6),(7,x7),(11,x11)] H
noncomputable def GN:KL:=Zd (fun k al H=>Yl cfg (Za cfg) (Y8 cfg (cfg.keep 160) 83) (cfg.keep 160) 83 Zd Z7 (sub (Z1 Tryz.f160) [1,1,0,1,0,0,1,0,0,1,1,1]) k (ZR (cfg.keep 160) (sub (Z1 Tryz.f160) [1,1,0,1,0,0,1,0,0,1,1,1]) al) H) (Z7 3 (We H0))
theorem LX:ZT 83 (GN H0):=Zw (C:=cfg) (kp:=cfg.keep 160) (sub (Z1 Tryz.f160) [1,1,0,1,0,0,1,0,0,1,1,1]) (Zo 3 (B6 H0))
noncomputable def PU:Z3:=Yl cfg (Za cfg) (Y8 cfg (cfg.keep 160) 83) (cfg.keep 160) 83 Zd Z7 (sub (Z1 Tryz.f160) [1,1,0,1,0,0,1,0,0,1,1,0,0,0,1]) (Zd (fun k al H=>Y8 cfg (cfg.keep 160) 83 (sub (Z1 Tryz.f160) [1,1,0,1,0,0,1,0,0,1,1,0,0,0]) k (ZR (cfg.keep 160) (sub (Z1 Tryz.f160) [1,1,0,1,0,0,1,0,0,1,1,0,0,0]) al) H) (Z7 6 (GN H0))) [(0,x0),(1,x1),(6,x6),(7,x7),(11,x11)] H
noncomputable def Qm:Z3:=Y8 cfg (cfg.keep 160) 83 (sub (Z1 Tryz.f160) [1,1,0,1,0,0,1,0,0,1,1,0,0,0]) (Z7 6 (GN H0)) [(0,x0),(1,x1),(6,x6),(7,x7),(11,x11)] H
noncomputable def GL:Z3:=Yl cfg (Za cfg) (Y8 cfg (cfg.keep 160) 83) (cfg.keep 160) 83 Zd Z7 (sub (Z1 Tryz.f160) [1,1,0,1,0,0,1,0,0,1,1]) (Z7 3 (We H0)) [(0,x0),(1,x1),(6,x6),(7,x7),(11,x11)] H
noncomputable def GO:KL:=Zd (fun k al H=>Yl cfg (Za cfg) (Y8 cfg (cfg.keep 160) 83) (cfg.keep 160) 83 Zd Z7 (sub (Z1 Tryz.f160) [1,1,0,1,0,0,1,0,0,1,1]) k (ZR (cfg.keep 160) (sub (Z1 Tryz.f160) [1,1,0,1,0,0,1,0,0,1,1]) al) H) (Z7 3 (We H0))
theorem LY:ZT 83 (GO H0):=Zw (C:=cfg) (kp:=cfg.keep 160) (sub (Z1 Tryz.f160) [1,1,0,1,0,0,1,0,0,1,1]) (Zo 3 (B6 H0))
noncomputable def PV:Z3:=Yl cfg (Za cfg) (Y8 cfg (cfg.keep 160) 83) (cfg.keep 160) 83 Zd Z7 (sub (Z1 Tryz.f160) [1,1,0,1,0,0,1,0,0,1,0,0,0,1]) (Zd (fun k al H=>Y8 cfg (cfg.keep 160) 83 (sub (Z1 Tryz.f160) [1,1,0,1,0,0,1,0,0,1,0,0,0]) k (ZR (cfg.keep 160) (sub (Z1 Tryz.f160) [1,1,0,1,0,0,1,0,0,1,0,0,0]) al) H) (Z7 4 (GO H0))) [(0,x0),(1,x1),(6,x6),(7,x7),(11,x11)] H
noncomputable def Qn:Z3:=Y8 cfg (cfg.keep 160) 83 (sub (Z1 Tryz.f160) [1,1,0,1,0,0,1,0,0,1,0,0,0]) (Z7 4 (GO H0)) [(0,x0),(1,x1),(6,x6),(7,x7),(11,x11)] H
noncomputable def PR:Z3:=Yl cfg (Za cfg) (Y8 cfg (cfg.keep 160) 83) (cfg.keep 160) 83 Zd Z7 (sub (Z1 Tryz.f160) [1,1,0,1,0,0,1]) (Zd (fun k al H=>Y8 cfg (cfg.keep 160) 83 (sub (Z1 Tryz.f160) [1,1,0,1,0,0]) k (ZR (cfg.keep 160) (sub (Z1 Tryz.f160) [1,1,0,1,0,0]) al) H) (Z7 2 (Vf H0))) [(0,x0),(1,x1),(6,x6),(11,x11)] H
noncomputable def Ql:Z3:=Y8 cfg (cfg.keep 160) 83 (sub (Z1 Tryz.f160) [1,1,0,1,0,0]) (Z7 2 (Vf H0)) [(0,x0),(1,x1),(6,x6),(11,x11)] H
noncomputable def GK:Z3:=Yl cfg (Za cfg) (Y8 cfg (cfg.keep 160) 83) (cfg.keep 160) 83 Zd Z7 (sub (Z1 Tryz.f160) [1,1]) (Zi cfg 83 160 Tryz.f160 H0) [(0,x0),(1,x1),(6,x6)] H
noncomputable def Qk:KL:=Zd (fun k al H=>Yl cfg (Za cfg) (Y8 cfg (cfg.keep 160) 83) (cfg.keep 160) 83 Zd Z7 (sub (Z1 Tryz.f160) [1,1]) k (ZR (cfg.keep 160) (sub (Z1 Tryz.f160) [1,1]) al) H) (Zi cfg 83 160 Tryz.f160 H0)
theorem LZ:ZT 83 (Qk H0):=Zw (C:=cfg) (kp:=cfg.keep 160) (sub (Z1 Tryz.f160) [1,1]) (ZA 160 Tryz.f160 H0)
noncomputable def RW:Z3:=Yl cfg (Za cfg) (Y8 cfg (cfg.keep 160) 83) (cfg.keep 160) 83 Zd Z7 (sub (Z1 Tryz.f160) [1,0,1,0,1,0,0,1]) (Zd (fun k al H=>Y8 cfg (cfg.keep 160) 83 (sub (Z1 Tryz.f160) [1,0,1,0,1,0,0]) k (ZR (cfg.keep 160) (sub (Z1 Tryz.f160) [1,0,1,0,1,0,0]) al) H) (Z7 0 (Qk H0))) [(0,x0),(1,x1),(2,x2),(6,x6),(9,x9)] H
noncomputable def PW:KL:=Zd (fun k al H=>Yl cfg (Za cfg) (Y8 cfg (cfg.keep 160) 83) (cfg.keep 160) 83 Zd Z7 (sub (Z1 Tryz.f160) [1,0,1,0,1,0,0,1]) k (ZR (cfg.keep 160) (sub (Z1 Tryz.f160) [1,0,1,0,1,0,0,1]) al) H) (Zd (fun k al H=>Y8 cfg (cfg.keep 160) 83 (sub (Z1 Tryz.f160) [1,0,1,0,1,0,0]) k (ZR (cfg.keep 160) (sub (Z1 Tryz.f160) [1,0,1,0,1,0,0]) al) H) (Z7 0 (Qk H0)))
noncomputable def RY:Z3:=Yl cfg (Za cfg) (Y8 cfg (cfg.keep 160) 83) (cfg.keep 160) 83 Zd Z7 (sub (Z1 Tryz.f160) [1,0,1,0,1,0,0,0,0,1,1,1]) (Z7 1 (PW H0)) [(0,x0),(1,x1),(2,x2),(6,x6),(9,x9),(10,x10)] H
noncomputable def RX:Z3:=Yl cfg (Za cfg) (Y8 cfg (cfg.keep 160) 83) (cfg.keep 160) 83 Zd Z7 (sub (Z1 Tryz.f160) [1,0,1,0,1,0,0,0,0,1,1]) (Z7 1 (PW H0)) [(0,x0),(1,x1),(2,x2),(6,x6),(9,x9),(10,x10)] H
noncomputable def Qo:Z3:=Y8 cfg (cfg.keep 160) 83 (sub (Z1 Tryz.f160) [1,0,1,0,1,0,0]) (Z7 0 (Qk H0)) [(0,x0),(1,x1),(2,x2),(6,x6),(9,x9)] H
noncomputable def Nz:Z3:=
 Z0 (Z5 .geq p2 (.int .i64 0)) fun t13=>
 Z0 (Z6 t13 true (.tuple []) (some p2)) fun t15=>
 Z0 (Z6 t13 true (.tuple []) (Z5 .leq t15 (.int .i64 255))) fun t16=>
 Z0 (Zg t13 t16 (.bool false)) fun t17=>
 Zl t17
  (Qo p0 p1 p2 (.int .i64 0) (.int .i64 1) H H)
  (GK p0 p1 (.int .i64 0) H H)
theorem CA:PQ H0 H =
 some ((.tuple [(.int .i64 0),(.int .i64 0),(.bool false)]),H):=Zb [3,7,9,10,12,13,15,16,17,18,20,21] (by kernel_rfl)
theorem CC:PS x0 x1 x6 x11 H0 H =
 Z0 (Z5 .add x11 (.int .i64 1)) fun t50=>
 Ql x0 x1 x6 t50 H0 H:=Zb [3,7,9,10,12,13,15,16,17,18,20,21] (by kernel_rfl)
theorem CF:PT x0 x1 x7 x11 H0 H =
 PS x0 x1 x7 x11 H0 H:=Zb [3,7,9,10,12,13,15,16,17,18,20,21] (by kernel_rfl)
theorem CE:GM x0 x1 x6 x7 x11 H0 H =
 Z0 (Z5 .eql x11 x1) fun t79=>
 Zl t79
  (some ((.tuple [x6,x7,(.bool true)]),H))
  (PT x0 x1 x7 x11 H0 H):=Zb [3,7,9,10,12,13,15,16,17,18,20,21] (by kernel_rfl)
theorem CG:PU x0 x1 x6 x7 x11 H0 H =
 Z0 (Z5 .add x7 (.int .i64 1)) fun t76=>
 Qm x0 x1 x6 t76 x11 H0 H:=Zb [3,7,9,10,12,13,15,16,17,18,20,21] (by kernel_rfl)
theorem Dy:Qm x0 x1 x6 x7 x11 H0 H =
 Z0 (Zk .string x0) fun t66=>
 Z0 (Z5 .lss x7 t66) fun t67=>
 Z0 (Z6 t67 true (.tuple []) (some x0)) fun t69=>
 Z0 (Z6 t67 true (.tuple []) (some x7)) fun t70=>
 Z0 (Z6 t67 true (.tuple []) (Zu t69 t70)) fun t71=>
 Z0 (Z6 t67 true ((.tuple []),H) (Ws [t71] H)) fun r72=>
 Z0 (Z6 t67 true (.tuple []) (Xa .not r72.1)) fun t73=>
 Z0 (Zg t67 t73 (.bool false)) fun t74=>
 Zl t74
  (PU x0 x1 x6 x7 x11 H0 r72.2)
  (GM x0 x1 x6 x7 x11 H0 r72.2):=(ZB (C:=cfg) [3,7,9,10,12,13,15,16,17,18,20,21] (Zo 6 (LX H0)) _ _).trans (by kernel_rfl)
theorem CD:GL x0 x1 x6 x7 x11 H0 H =
 Qm x0 x1 x6 x7 x11 H0 H:=Zb [3,7,9,10,12,13,15,16,17,18,20,21] (by kernel_rfl)
theorem CH:PV x0 x1 x6 x7 x11 H0 H =
 Z0 (Z5 .add x7 (.int .i64 1)) fun t63=>
 Qn x0 x1 x6 t63 x11 H0 H:=Zb [3,7,9,10,12,13,15,16,17,18,20,21] (by kernel_rfl)
theorem Dz:Qn x0 x1 x6 x7 x11 H0 H =
 Z0 (Zk .string x0) fun t54=>
 Z0 (Z5 .lss x7 t54) fun t55=>
 Z0 (Z6 t55 true (.tuple []) (some x0)) fun t57=>
 Z0 (Z6 t55 true (.tuple []) (some x7)) fun t58=>
 Z0 (Z6 t55 true (.tuple []) (Zu t57 t58)) fun t59=>
 Z0 (Z6 t55 true ((.tuple []),H) (Ws [t59] H)) fun r60=>
 Z0 (Zg t55 r60.1 (.bool false)) fun t61=>
 Zl t61
  (PV x0 x1 x6 x7 x11 H0 r60.2)
  (GL x0 x1 x6 x7 x11 H0 r60.2):=(ZB (C:=cfg) [3,7,9,10,12,13,15,16,17,18,20,21] (Zo 4 (LY H0)) _ _).trans (by kernel_rfl)
theorem CB:PR x0 x1 x6 x11 H0 H =
 Qn x0 x1 x6 x6 x11 H0 H:=Zb [3,7,9,10,12,13,15,16,17,18,20,21] (by kernel_rfl)
theorem CI:Ql x0 x1 x6 x11 H0 H =
 Z0 (Zk .string x0) fun t47=>
 Z0 (Z5 .lss x6 t47) fun t48=>
 Zl t48
  (PR x0 x1 x6 x11 H0 H)
  (PQ H0 H):=(ZB (C:=cfg) [3,7,9,10,12,13,15,16,17,18,20,21] (Zo 2 (B5 H0)) _ _).trans (by kernel_rfl)
theorem Cz:GK x0 x1 x6 H0 H =
 Ql x0 x1 x6 (.int .i64 1) H0 H:=Zb [3,7,9,10,12,13,15,16,17,18,20,21] (by kernel_rfl)
theorem Sf:RW x0 x1 x2 x6 x9 H0 H =
 Z0 (Z5 .add x9 (.int .i64 1)) fun t19=>
 Qo x0 x1 x2 x6 t19 H0 H:=Zb [3,7,9,10,12,13,15,16,17,18,20,21] (by kernel_rfl)
theorem Sh:RY x0 x1 x2 x6 x9 x10 H0 H =
 Z0 (Z5 .add x10 (.int .i64 1)) fun t43=>
 Z0 (Z5 .add x6 t43) fun t44=>
 RW x0 x1 x2 t44 x9 H0 H:=Zb [3,7,9,10,12,13,15,16,17,18,20,21] (by kernel_rfl)
theorem Sg:RX x0 x1 x2 x6 x9 x10 H0 H =
 Z0 (Z5 .eql x9 x1) fun t36=>
 Zl t36
  (Z0 (Z5 .add x6 x10) fun t40=>
  some ((.tuple [x6,t40,(.bool true)]),H))
  (RY x0 x1 x2 x6 x9 x10 H0 H):=Zb [3,7,9,10,12,13,15,16,17,18,20,21] (by kernel_rfl)
theorem CJ:Qo x0 x1 x2 x6 x9 H0 H =
 Z0 (Y7 x0 (some x6) none none) fun t22=>
 Z0 (YK .u8 x2) fun t24=>
 Z0 (QH [t22,t24] H) fun r25=>
 Z0 (Z5 .lss r25.1 (.int .i64 0)) fun t27=>
 Zl t27
  (Z0 (Zk .string x0) fun t30=>
  Z0 (Z5 .eql x9 x1) fun t33=>
  some ((.tuple [x6,t30,t33]),r25.2))
  (RX x0 x1 x2 x6 x9 r25.1 H0 r25.2):=(ZB (C:=cfg) [3,7,9,10,12,13,15,16,17,18,20,21] (Zo 0 (LZ H0)) _ _).trans (by kernel_rfl)
theorem Hm:QN [p0,p1,p2] H=Nz p0 p1 p2 H:=(Zc (C:=cfg) (fn:=Tryz.f160) (c:=Z1 Tryz.f160) (n:=83) [3,7,9,10,12,13,15,16,17,18,20,21] Tryz.func160 (by kernel_rfl) (by kernel_rfl) [p0,p1,p2] (by kernel_rfl) H).trans (by kernel_rfl)
noncomputable def Ny:Z3:=
 Z0 (Z5 .eql p0 (.int .u8 32)) fun t4=>
 Z0 (Z6 t4 false (.tuple []) (some p0)) fun t6=>
 Z0 (Z6 t4 false (.tuple []) (Z5 .eql t6 (.int .u8 9))) fun t7=>
 Z0 (Zg t4 (.bool true) t7) fun t8=>
 some (t8,H)
theorem Hl:Ws [p0] H=Ny p0 H:=(Zc (C:=cfg) (fn:=Tryz.f195) (c:=Z1 Tryz.f195) (n:=9) [] Tryz.func195 (by kernel_rfl) (by kernel_rfl) [p0] (by kernel_rfl) H).trans (by kernel_rfl)
noncomputable def Di:Z3:=
 Z0 (V0 [p0,p1] H) fun r7=>
 some (r7.1,r7.2)
theorem Mp:QH [p0,p1] H=Di p0 p1 H:=(Zc (C:=cfg) (fn:=Tryz.f198) (c:=Z1 Tryz.f198) (n:=8) [] Tryz.func198 (by kernel_rfl) (by kernel_rfl) [p0,p1] (by kernel_rfl) H).trans (by kernel_rfl)
noncomputable def V4:Z3:=
 Z0 (Ae .indexByte [p0,p1] H) fun r7=>
 some (r7.1,r7.2)
theorem Jy:V0 [p0,p1] H=V4 p0 p1 H:=(Zc (C:=cfg) (fn:=Tryz.f230) (c:=Z1 Tryz.f230) (n:=8) [] Tryz.func230 (by kernel_rfl) (by kernel_rfl) [p0,p1] (by kernel_rfl) H).trans (by kernel_rfl)
theorem OA (a b args:List AV)(H:Hp):Yp cfg (Za cfg) (.fn (.func 84) a b) args H=Ze TL (a++args++b) H:=by kernel_rfl
theorem OB (a b args:List AV)(H:Hp):Yp cfg (Za cfg) (.fn (.func 85) a b) args H=Ze TM (a++args++b) H:=by kernel_rfl
theorem HI (a b args:List AV)(H:Hp):Yp cfg (Za cfg) (.fn (.func 148) a b) args H=Ze VF (a++args++b) H:=by kernel_rfl
theorem Hv (a b args:List AV)(H:Hp):Xd cfg (Za cfg) (.fn (.func 148) a b) args H=Ze VF (a++args++b) H:=by kernel_rfl
theorem Eh (a b args:List AV)(H:Hp):Yp cfg (Za cfg) (.fn (.func 150) a b) args H=UR (a++args++b) H:=by kernel_rfl
theorem Iz (a b args:List AV)(H:Hp):Yp cfg (Za cfg) (.fn (.func 154) a b) args H=Kq (a++args++b) H:=by kernel_rfl
theorem Iw (a b args:List AV)(H:Hp):Xd cfg (Za cfg) (.fn (.func 155) a b) args H=Ze Kr (a++args++b) H:=by kernel_rfl
theorem Zcm (a b args:List AV)(H:Hp):Xd cfg (Za cfg) (.fn (.func 157) a b) args H=Ze DN (a++args++b) H:=by kernel_rfl
theorem Ix (a b args:List AV)(H:Hp):Xd cfg (Za cfg) (.fn (.func 158) a b) args H=Ze Ks (a++args++b) H:=by kernel_rfl
theorem ZcS:∀ f∈userList,Lv Tryz.prog f:=
 Z2 Tryz.call3 (
 Z2 Tryz.call4 (
 Z2 Tryz.call5 (
 Z2 Tryz.call6 (
 Z2 Tryz.call7 (
 Z2 Tryz.call8 (
 Z2 Tryz.call9 (
 Z2 Tryz.call10 (
 Z2 Tryz.call11 (
 Z2 Tryz.call12 (
 Z2 Tryz.call13 (
 Z2 Tryz.call14 (
 Z2 Tryz.call15 (
 Z2 Tryz.call16 (
 Z2 Tryz.call17 (
 Z2 Tryz.call18 (
 Z2 Tryz.call19 (
 Z2 Tryz.call20 (
 Z2 Tryz.call21 (
 Z2 Tryz.call22 (
 Z2 Tryz.call23 (
 Z2 Tryz.call24 (
 Z2 Tryz.call25 (
 Z2 Tryz.call26 (
 Z2 Tryz.call27 (
 Z2 Tryz.call28 (
 Z2 Tryz.call29 (
 Z2 Tryz.call30 (
 Z2 Tryz.call31 (
 Z2 Tryz.call32 (
 Z2 Tryz.call33 (
 Z2 Tryz.call34 (
 Z2 Tryz.call35 (
 Z2 Tryz.call36 (
 Z2 Tryz.call37 (
 Z2 Tryz.call38 (
 Z2 Tryz.call39 (
 Z2 Tryz.call40 (
 Z2 Tryz.call41 (
 Z2 Tryz.call42 (
 Z2 Tryz.call43 (
 Z2 Tryz.call44 (
 Z2 Tryz.call45 (
 Z2 Tryz.call46 (
 Z2 Tryz.call47 (
 Z2 Tryz.call48 (
 Z2 Tryz.call49 (
 Z2 Tryz.call50 (
 Z2 Tryz.call51 (
 Z2 Tryz.call52 (
 Z2 Tryz.call53 (
 Z2 Tryz.call54 (
 Z2 Tryz.call55 (
 Z2 Tryz.call56 (
 Z2 Tryz.call57 (
 Z2 Tryz.call58 (
 Z2 Tryz.call59 (
 Z2 Tryz.call60 (
 Z2 Tryz.call61 (
 Z2 Tryz.call62 (
 Z2 Tryz.call63 (
 Z2 Tryz.call64 (
 Z2 Tryz.call65 (
 Z2 Tryz.call66 (
 Z2 Tryz.call67 (
 Z2 Tryz.call68 (
 Z2 Tryz.call69 (
 Z2 Tryz.call70 (
 Z2 Tryz.call71 (
 Z2 Tryz.call72 (
 Z2 Tryz.call73 (
 Z2 Tryz.call74 (
 Z2 Tryz.call75 (
 Z2 Tryz.call76 (
 Z2 Tryz.call77 (
 Z2 Tryz.call78 (
 Z2 Tryz.call79 (
 Z2 Tryz.call80 (
 Z2 Tryz.call81 (
 Z2 Tryz.call82 (
 Z2 Tryz.call83 (
 Z2 Tryz.call84 (
 Z2 Tryz.call85 (
 Z2 Tryz.call86 (
 Z2 Tryz.call87 (
 Z2 Tryz.call88 (
 Z2 Tryz.call89 (
 Z2 Tryz.call90 (
 Z2 Tryz.call91 (
 Z2 Tryz.call92 (
 Z2 Tryz.call93 (
 Z2 Tryz.call94 (
 Z2 Tryz.call95 (
 Z2 Tryz.call96 (
 Z2 Tryz.call97 (
 Z2 Tryz.call98 (
 Z2 Tryz.call99 (
 Z2 Tryz.call100 (
 Z2 Tryz.call101 (
 Z2 Tryz.call102 (
 Z2 Tryz.call103 (
 Z2 Tryz.call104 (
 Z2 Tryz.call105 (
 Z2 Tryz.call106 (
 Z2 Tryz.call107 (
 Z2 Tryz.call108 (
 Z2 Tryz.call109 (
 Z2 Tryz.call110 (
 Z2 Tryz.call111 (
 Z2 Tryz.call112 (
 Z2 Tryz.call113 (
 Z2 Tryz.call114 (
 Z2 Tryz.call115 (
 Z2 Tryz.call116 (
 Z2 Tryz.call117 (
 Z2 Tryz.call118 (
 Z2 Tryz.call119 (
 Z2 Tryz.call120 (
 Z2 Tryz.call121 (
 Z2 Tryz.call122 (
 Z2 Tryz.call123 (
 Z2 Tryz.call124 (
 Z2 Tryz.call125 (
 Z2 Tryz.call126 (
 Z2 Tryz.call127 (
 Z2 Tryz.call128 (
 Z2 Tryz.call129 (
 Z2 Tryz.call130 (
 Z2 Tryz.call131 (
 Z2 Tryz.call132 (
 Z2 Tryz.call133 (
 Z2 Tryz.call134 (
 Z2 Tryz.call135 (
 Z2 Tryz.call136 (
 Z2 Tryz.call137 (
 Z2 Tryz.call138 (
 Z2 Tryz.call139 (
 Z2 Tryz.call140 (
 Z2 Tryz.call141 (
 Z2 Tryz.call142 (
 Z2 Tryz.call143 (
 Z2 Tryz.call144 (
 Z2 Tryz.call145 (
 Z2 Tryz.call146 (
 Z2 Tryz.call147 (
 Z2 Tryz.call148 (
 Z2 Tryz.call149 (
 Z2 Tryz.call150 (
 Z2 Tryz.call151 (
 Z2 Tryz.call152 (
 Z2 Tryz.call153 (
 Z2 Tryz.call154 (
 Z2 Tryz.call155 (
 Z2 Tryz.call156 (
 Z2 Tryz.call157 (
 Z2 Tryz.call158 (
 Z2 Tryz.call159 (
 Z2 Tryz.call160 (
 Z2 Tryz.call161 (
 Z2 Tryz.call162 (
 Z2 Tryz.call163 (
 Z2 Tryz.call164 (
 Z2 Tryz.call165 (
 Z2 Tryz.call166 (
 Z2 Tryz.call167 (
 Z2 Tryz.call168 (
 Z2 Tryz.call169 (
 Z2 Tryz.call170 (
 Z2 Tryz.call171 (
 Z2 Tryz.call172 (
 Z2 Tryz.call173 (
 Z2 Tryz.call174 (
 Z2 Tryz.call175 (
 Z2 Tryz.call176 (
 Z2 Tryz.call177 (
 Z2 Tryz.call178 (
 Z2 Tryz.call179 (
 Z2 Tryz.call180 (
 Z2 Tryz.call181 (
 Z2 Tryz.call182 (
 Z2 Tryz.call183 (
 Z2 Tryz.call184 (
 Z2 Tryz.call185 (
 Z2 Tryz.call186 (
 Z2 Tryz.call187 (
 Z2 Tryz.call188 (
 Z2 Tryz.call189 (
 Z2 Tryz.call190 (
 Z2 Tryz.call191 (
 Z2 Tryz.call192 (
 Z2 Tryz.call193 (
 Z2 Tryz.call194 (
 Z2 Tryz.call195 (
 Z2 Tryz.call196 (
 Z2 Tryz.call197 (
 Z2 Tryz.call198 (
 Z2 Tryz.call199 (
 Z2 Tryz.call200 (
 Z2 Tryz.call201 (
 Z2 Tryz.call202 (
 Z2 Tryz.call203 (
 Z2 Tryz.call204 (
 Z2 Tryz.call205 (
 Z2 Tryz.call206 (
 Z2 Tryz.call207 (
 Z2 Tryz.call208 (
 Z2 Tryz.call209 (
 Z2 Tryz.call210 (
 Z2 Tryz.call211 (
 Z2 Tryz.call212 (
 Z2 Tryz.call213 (
 Z2 Tryz.call214 (
 Z2 Tryz.call215 (
 Z2 Tryz.call216 (
 Z2 Tryz.call217 (
 Z2 Tryz.call218 (
 Z2 Tryz.call219 (
 Z2 Tryz.call220 (
 Z2 Tryz.call221 (
 Z2 Tryz.call222 (
 Z2 Tryz.call223 (
 Z2 Tryz.call224 (
 Z2 Tryz.call226 (
 Z2 Tryz.call227 (
 Z2 Tryz.call228 (
 Z2 Tryz.call229 (
 Z2 Tryz.call230 (
 Z2 Tryz.call231 (
 Z2 Tryz.call232 (
 Z2 Tryz.call233 (
 Z2 Tryz.call234 (
 Z2 Tryz.call235 (
 Z2 Tryz.call236 (
 Z2 Tryz.call237 (
 Z2 Tryz.call238 (
 Z2 Tryz.call240 (
 Z2 Tryz.call241 (
 Z2 Tryz.call242 (
 Z2 Tryz.call243 (
 Z2 Tryz.call244 (
 Z2 Tryz.call245 (
 Z2 Tryz.call246 (
 Z2 Tryz.call247 (
 Z2 Tryz.call248 (
 Z2 Tryz.call250 (
 Z2 Tryz.call251 (
 Z2 Tryz.call252 (
 Z2 Tryz.call253 (
 Z2 Tryz.call254 (
 Z2 Tryz.call255 (
 Z2 Tryz.call256 (
 Z2 Tryz.call257 (
 Z2 Tryz.call258 (
 Z2 Tryz.call259 (
 Z2 Tryz.call261 (
 Z2 Tryz.call262 (
 Z2 Tryz.call263 (
 Z2 Tryz.call264 (
 Z2 Tryz.call265 (
 Z2 Tryz.call266 (Zc3))))))))))))))))))))))))))))))))))))))))))))))))))))))))))))))))))))))))))))))))))))))))))))))))))))))))))))))))))))))))))))))))))))))))))))))))))))))))))))))))))))))))))))))))))))))))))))))))))))))))))))))))))))))))))))))))))))))))))))))))))))))))))))))))))))
theorem Ziw:∀ t∈eqList,Tryz.prog.stoodInHeld t=false∧Tryz.prog.eqGuardType Tryz.prog.depth t=false:=by
 intro t ht
 simp only[eqList,List.mem_cons,List.not_mem_nil,or_false]at ht
theorem Ab (args:Array Value)(w:World):(callFunc 225 args).run Tryz.prog w=(do pure (.value (←BP .cmp args)):Sem Next).run Tryz.prog w:=by kernel_rfl
theorem Ac (args:Array Value)(w:World):(callFunc 239 args).run Tryz.prog w=(do pure (.value (←BP .same args)):Sem Next).run Tryz.prog w:=by kernel_rfl
theorem Ad (args:Array Value)(w:World):(callFunc 249 args).run Tryz.prog w=(do pure (.value (←BP .indexByte args)):Sem Next).run Tryz.prog w:=by kernel_rfl
theorem Zf1:∀ f e,cfg.ext f=some e→∀ (args:Array Value) (w:World),(callFunc f args).run Tryz.prog w=(do pure (.value (←BP e args)):Sem Next).run Tryz.prog w:=by
 intro f e h
 have h2:=BX (l:=extList) h
 simp only[extList,List.mem_cons,Prod.mk.injEq,List.not_mem_nil,or_false]at h2
 rcases h2 with ⟨rfl,rfl⟩|⟨rfl,rfl⟩|⟨rfl,rfl⟩
 ·exact Ab
 ·exact Ac
 ·exact Ad
theorem ZfY:∀ f g,cfg.sum f=some g→cfg.user f=true∧ZaP cfg f g:=by
 intro f g h
 have h2:=BX (l:=sumList) h
 simp only[sumList,List.mem_cons,Prod.mk.injEq,List.not_mem_nil,or_false]at h2
 rcases h2 with ⟨rfl,rfl⟩|⟨rfl,rfl⟩
 ·exact⟨by kernel_rfl,ZoM (C:=cfg) rfl (fun _=>rfl)⟩
 ·exact⟨by kernel_rfl,ZnY (C:=cfg) rfl (fun _=>rfl)⟩
theorem ZeX:∀ f g,cfg.eff f=some g→cfg.user f=true∧Gn cfg f g:=by
 intro f g h
 have h2:=BX (l:=effList) h
 simp only[effList,List.mem_cons,Prod.mk.injEq,List.not_mem_nil,or_false]at h2
 rcases h2 with ⟨rfl,rfl⟩|⟨rfl,rfl⟩|⟨rfl,rfl⟩|⟨rfl,rfl⟩|⟨rfl,rfl⟩|⟨rfl,rfl⟩
 ·exact⟨by kernel_rfl,Zlw (C:=cfg) rfl (fun _=>rfl)⟩
 ·exact⟨by kernel_rfl,ZiS (C:=cfg) rfl (fun _=>rfl)⟩
 ·exact⟨by kernel_rfl,ZnM (C:=cfg) rfl (fun _=>rfl)⟩
 ·exact⟨by kernel_rfl,ZoK (C:=cfg) rfl (fun _=>rfl)⟩
 ·exact⟨by kernel_rfl,ZjH (C:=cfg) rfl (fun _=>rfl)⟩
 ·exact⟨by kernel_rfl,Zn4 (C:=cfg) rfl (fun _=>rfl)⟩
theorem cfg_ok:QW cfg:=
 ⟨fun t h=>Ziw t (List.contains_iff_mem.1 h),fun f h=>ZcS f (List.contains_iff_mem.1 h),by kernel_rfl,Zf1,ZfY,ZeX⟩
end
end Go.Am
