/- The functions of the translation over the abstract machine -/
import Derived.Test.YtnaneekpogohaaaGreatDoorProg
import Derived.Test.YtnaneekpogohaaaGreatDoorXeFex
open Go.Am.AV renaming int->J
open Go.IntKind renaming i64->zE
open List renaming not_mem_nil->zA,mem_cons->zB,contains_iff_mem->zC
open Prod.mk renaming injEq->zD
namespace Go.Am
open Go.Proofs
set_option maxRecDepth 100000
noncomputable section
variable (p0 p1 p2 x0 x1 x2 x3 x4 x6 x7 x8 x9 x10 x11 x33 x34 x35 x36:AV)(H0 H:Hp)
abbrev ai:List Nat:=[3,5,7,8,10]
abbrev aj:List Nat:=[3,5,7,10,11]
abbrev am:List Nat:=[3,7,9,10,12,13,15,16,17,18,20,21]
abbrev ap:AV:=.tuple []
def ZgU:List (Nat×List (Nat×List Nat)):=[(3,[(3,[1,3,5]),(4,[1,3,5,7]),(5,[1,3,5,7]),(6,[1,3,5,7]),(8,[1,3,5]),(12,[1,3,5,8,9]),(13,[1,3,5,8,9,10]),(14,[1,3,5,8,9,10]),(15,[1,3,5,8,9,10]),(19,[1,3,5,8,9,10]),(20,[1,3,5,8,9]),(24,[1,3,5,8,9]),(28,[1,3,8,9])]),
 (11,[(2,[0,3]),(3,[0,3]),(4,[0,3]),(6,[0])]),
 (12,[(4,[2,4]),(6,[2]),(8,[2]),(9,[2,8]),(10,[2,8]),(11,[2,8]),(13,[])]),
 (14,[(4,[0,1,2,3,4]),(5,[0,1,2,3,4]),(6,[0,1,2,3,4]),(9,[0,1,2,3,4,5,6]),(11,[0,1,2,3,4,5,6]),(14,[0,1,2,3])]),
 (16,[(11,[0,1]),(13,[0,1])]),
 (17,[(4,[0,2,7]),(6,[0,2,7])]),
 (18,[(4,[6])]),
 (20,[(4,[0,4,6,7,8,11,12]),(7,[4,6,7,8,11,12,14]),(13,[8,11,12,14,15,16,35]),(14,[8,11,12,14,15,16,35]),(17,[11,12,14,15,16,35]),(20,[10,11,12,14,15,16,35]),(24,[10,11,12,16,35]),(900002,[10,11,12,35])]),
 (21,[(1,[0,1]),(3,[0,1,18,19,20]),(4,[0,1,18,19,20,21]),(10,[0,1,18,19,20])]),
 (22,[(3,[0]),(5,[0,4,11,12,13]),(6,[0,4,11,12,13,14]),(10,[0,4,11,12,13]),(11,[0,4,11,12,13]),(12,[4])]),
 (23,[(4,[2,3,10]),(6,[2,3,10])]),
 (24,[(3,[0,1]),(4,[0,1,5]),(5,[0,1,5]),(6,[0,1,5]),(8,[])]),
 (25,[(3,[2,3,4]),(6,[7]),(1000003,[3,4])]),
 (26,[(3,[0]),(5,[0,3,10,11,12]),(6,[0,3,10,11,12,13]),(9,[0,3,10,11,12]),(10,[3])]),
 (27,[(5,[1,5,6,7,8,15,16,17]),(6,[1,5,6,7,8,15,16,17,18]),(11,[1,5,6,7,8,11,15,16,17]),(12,[1,5,6,7,8,15,16,17]),(13,[5,6,7]),(16,[6])]),
 (37,[(3,[1]),(5,[1]),(6,[1,3]),(7,[1,3]),(8,[1,3]),(10,[])]),
 (39,[(6,[0])]),
 (40,[(2,[0,7,8]),(3,[0,7,8,9]),(8,[0,7,8]),(9,[0])]),
 (41,[(3,[0,1]),(5,[0,1]),(8,[6])]),
 (42,[(3,[3,5,6]),(6,[3,6]),(8,[3]),(10,[3]),(11,[25,26,27]),(12,[25,26,27,28]),(15,[25,26,27]),(16,[])]),
 (43,[(3,[0,1,2]),(5,[0,1,2]),(6,[0,1,2,18,19,20]),(7,[0,1,2,18,19,20,21]),(11,[0,1,2,18,19,20]),(12,[0,1,2])]),
 (45,[(3,[0]),(5,[0]),(6,[0]),(10,[0,3]),(11,[0])]),
 (46,[(2,[0,13,14,15]),(3,[0,13,14,15,16]),(7,[0,8,9,13,14,15]),(11,[0,13,14,15]),(12,[])]),
 (47,[(3,[0,5,19,20,21]),(4,[0,5,19,20,21,22]),(7,[0,5,8,19,20,21,25,26,27]),(8,[0,5,8,19,20,21,25,26,27,28]),(10,[0,5,8,19,20,21,25,26,27]),(11,[0,5,8,19,20,21]),(14,[0,5,11,19,20,21]),(15,[0,5,19,20,21]),(16,[0,5])]),
 (48,[(3,[0,4,15,16,17]),(4,[0,4,15,16,17,18]),(6,[0,4,15,16,17]),(7,[0,4]),(9,[7,8]),(12,[7,8,9,10]),(14,[7,8,9])]),
 (50,[(4,[0,1,5]),(6,[5,6,21,22,23]),(7,[5,6,21,22,23,24]),(11,[5,6,21,22,23]),(12,[5])]),
 (51,[(4,[6])]),
 (52,[(3,[1]),(5,[1]),(6,[33,34,35]),(7,[33,34,35,36]),(10,[33,34,35]),(11,[])]),
 (53,[(3,[0])]),
 (54,[(3,[0,1]),(6,[1,6,7,8]),(7,[1,6,7,8]),(12,[6,7,8])]),
 (56,[(5,[2,3,4,5]),(8,[9])]),
 (57,[(3,[1,5,8,9,10]),(4,[1,5,8,9,10,11]),(7,[1,5,8,9,10]),(8,[5])]),
 (59,[(4,[2,3,4,5]),(5,[2,3,4,5,26,27,28]),(6,[2,3,4,5,26,27,28,29]),(10,[2,3,4,5,10,11,26,27,28]),(13,[2,3,4,5,26,27,28]),(14,[]),(1000010,[4,5,10])]),
 (71,[(3,[1])]),
 (72,[(2,[0,7,8]),(3,[0,7,8,9]),(8,[0,7,8]),(9,[0])]),
 (74,[(3,[0,3,5,6]),(6,[0,3,5,6,10]),(9,[0,10]),(12,[10])]),
 (76,[(3,[3,6,7,8]),(4,[3,6,7,8,9]),(6,[3,6,7,8]),(7,[3])]),
 (77,[(4,[1,5,12,13]),(5,[1,5,12,13,14]),(8,[1,5,6,12,13]),(10,[1,5,12,13]),(11,[5])]),
 (78,[(3,[0,1]),(6,[0,1,6]),(9,[0,6,48,49,50]),(10,[0,6,48,49,50,51]),(14,[0,6,48,49,50]),(15,[0,6,48,49,50]),(16,[6])]),
 (79,[(3,[0,1])]),
 (80,[(1000002,[4])]),
 (81,[(3,[0]),(6,[0,5]),(7,[0,5])]),
 (84,[(2,[0,5,6]),(3,[0,5,6,7]),(6,[0,5,6]),(7,[0])]),
 (86,[(3,[1,2])]),
 (87,[(5,[1,2,8,9,24,25]),(6,[1,2,8,9,24,25,26]),(9,[1,2,8,9,10,24,25]),(11,[1,2,8,9,24,25]),(12,[1,2,8,9]),(14,[1,2,8,9]),(16,[1,2]),(1000002,[3])]),
 (88,[(4,[4,5,6,7,9]),(8,[4,5,6,7,9]),(1000011,[4])]),
 (89,[(4,[0,2,4,7,8]),(12,[0,7,10]),(14,[0,7,10])]),
 (97,[(3,[0]),(5,[0]),(9,[0,4])]),
 (98,[(4,[0,1,2]),(6,[0,1,2]),(9,[0,1,8]),(11,[0,1,8])]),
 (99,[(4,[0,1]),(7,[0,1])]),
 (100,[(3,[0])]),
 (101,[(3,[0,3,5,6]),(6,[0,3,5,6,10]),(8,[0,5,6,10,12,31,32,33]),(9,[0,5,6,10,12,31,32,33,34]),(11,[0,5,6,10,12,31,32,33]),(12,[0,5,6,10,12]),(13,[0,10,15]),(16,[0,10,15,16,17]),(17,[0,10,15,16]),(20,[0,10]),(23,[10])]),
 (102,[(4,[0,1]),(7,[0,1])]),
 (104,[(5,[1,5,6,7,20,21,22]),(6,[1,5,6,7,20,21,22,23]),(10,[1,5,6,7,8,10,11,20,21,22]),(12,[1,5,6,7,20,21,22]),(13,[1,5,7]),(15,[1,5]),(18,[13])]),
 (107,[(3,[1,2])]),
 (109,[(3,[1,2,3,6,16,17,18]),(4,[1,2,3,6,16,17,18,19]),(6,[1,2,3,6,16,17,18]),(7,[1,2,3,6]),(8,[1,2,3,6,9]),(9,[1,2,3,6,9]),(14,[1,2,3,6,9,10,11]),(15,[1,2,3,6,9,10])]),
 (112,[(2,[0,4]),(3,[0,4]),(4,[0,4]),(7,[0,4,5]),(14,[5,6,7,8,9]),(16,[5,7,8,9]),(19,[9,11])]),
 (113,[(5,[])]),
 (117,[(3,[0,3,7,8]),(4,[0,3,7,8,9]),(8,[0,3,7,8]),(9,[3])]),
 (120,[(3,[0,1,2,6,9]),(4,[0,1,2,6,9]),(7,[0,1,2,6,9,10]),(9,[0,1,2,6,9,10]),(10,[0,1,6]),(11,[0,1,6,11]),(12,[0,1,6,11]),(13,[0,1,6,11]),(14,[0,1,6,7,11]),(15,[0,1,6,7,11]),(16,[0,1,6,7,11]),(17,[0,1,6,7,11]),(18,[0,1,6,7,11]),(20,[0,1,7,11]),(21,[])]),
 (125,[(7,[])]),
 (126,[(3,[4,9,10,11]),(4,[4,9,10,11,12]),(8,[4,7,9,10,11]),(9,[4,9,10,11]),(10,[4])]),
 (127,[(3,[0,3,10,11,12]),(4,[0,3,10,11,12,13]),(7,[0,3,10,11,12]),(8,[3])]),
 (129,[(3,[0]),(11,[0]),(13,[0])]),
 (131,[(4,[5,6,7])]),
 (143,[(3,[1]),(5,[1]),(6,[1,27,28,29]),(7,[1,27,28,29,30]),(10,[1,27,28,29]),(11,[1]),(14,[1])]),
 (144,[(3,[0,1,5,6]),(4,[0,1,5,6,7]),(6,[0,1,5,6]),(7,[0,1])]),
 (146,[(2,[0,3]),(3,[0,3]),(4,[3])]),
 (147,[(3,[0,1,5,8,9]),(4,[0,1,5,8,9,10]),(8,[0,1,5,8,9]),(9,[1,5])]),
 (155,[(3,[0,5,10,11]),(4,[0,5,10,11,12]),(6,[0,5,10,11]),(7,[5])]),
 (164,[(3,[0])]),
 (166,[(4,[0,1,2]),(7,[2,10]),(9,[2,10]),(12,[2,12,13])]),
 (173,[(2,[0,7,8]),(3,[0,7,8,9]),(8,[0,7,8]),(9,[0])]),
 (174,[(3,[0]),(5,[3,10,11,12]),(6,[3,10,11,12,13]),(9,[3,5,10,11,12]),(11,[3,5,10,11,12]),(12,[3,10,11,12]),(13,[])]),
 (175,[(3,[0]),(5,[3,10,11,12]),(6,[3,10,11,12,13]),(9,[3,5,10,11,12]),(11,[3,5,10,11,12]),(12,[3,10,11,12]),(13,[])]),
 (176,[(3,[0,1,2,7,11,12]),(4,[0,1,2,7,11,12,13]),(8,[0,1,2,7,11,12]),(9,[7])]),
 (178,[(3,[0,3,5]),(4,[0,3,5,6]),(8,[0,3,5]),(9,[3])]),
 (184,[(3,[1,2])]),
 (194,[(2,[0,1,7,8]),(3,[0,1,7,8,9]),(6,[0,1,7,8]),(7,[])]),
 (196,[(3,[0,1]),(6,[1,7]),(9,[1,7,8]),(11,[1,7,8]),(13,[1,7,8])]),
 (202,[(3,[1]),(5,[1]),(6,[1,3]),(7,[1,3]),(8,[1,3]),(10,[1]),(12,[1]),(15,[1])]),
 (209,[(3,[0,3,6,7]),(4,[0,3,6,7,8]),(8,[0,3,6,7]),(9,[3])]),
 (213,[(3,[0]),(4,[0,3]),(5,[0,3]),(6,[0,3]),(9,[])]),
 (215,[(3,[0]),(4,[0,3]),(5,[0,3]),(6,[0,3]),(8,[0,3]),(9,[0,3,4]),(10,[0,3,4]),(11,[0,3,4]),(13,[])]),
 (216,[(3,[0]),(4,[0,3]),(5,[0,3]),(6,[0,3]),(8,[0,3]),(9,[0,3,4]),(10,[0,3,4]),(11,[0,3,4]),(13,[])]),
 (219,[(3,[0,1,5,6]),(4,[0,1,5,6]),(5,[0,1,5,6]),(6,[5])])]
def userList:List Nat:=[3,4,5,6,7,8,9,10,11,12,13,14,15,16,17,18,19,20,21,22,23,24,25,26,27,28,29,30,31,32,33,34,35,36,37,38,39,40,41,42,43,44,45,46,47,48,49,50,51,52,53,54,55,56,57,58,59,60,61,62,63,64,65,66,67,68,69,70,71,72,73,74,75,76,77,78,79,80,81,82,83,84,85,86,87,88,89,90,91,92,93,94,95,96,97,98,99,100,101,102,103,104,105,106,107,108,109,110,111,112,113,114,115,116,117,118,119,120,121,122,123,124,125,126,127,128,129,130,131,132,133,134,135,136,137,138,139,140,141,142,143,144,145,146,147,148,149,150,151,152,153,154,155,156,157,158,159,160,161,162,163,164,165,166,167,168,169,170,171,172,173,174,175,176,178,179,180,181,182,183,184,185,186,187,188,189,190,191,192,193,194,195,196,197,198,199,202,203,204,205,206,207,208,209,210,211,213,214,215,216,217,218,219,220,221,222,223,224,225,226,227,228,229]
def pureList:List Nat:=[28,94]
def flatList:List Nat:=[11,12,13,14,24,25,27,29,30,31,32,34,35,36,37,38,40,52,53,54,55,56,57,58,59,61,64,65,66,69,70,71,72,76,77,83,84,86,87,88,91,92,93,103,107,108,111,112,113,115,117,118,119,121,122,124,126,143,144,145,146,147,155,157,158,159,160,163,164,173,174,175,176,178,184,185,186,187,188,189,194,195,196,202,203,204,206,207,209,213,214,215,216,217,218,219]
def extList:List (Nat×ExtK):=[(177,.cmp),(200,.same),(201,.indexByte)]
def roList:List Nat:=[26,50,67,100,127]
def eqList:List Nat:=[]
noncomputable def sumList:List (Nat×(List AV->Option AV)):=[(116,ZeZ),(162,ZeW)]
noncomputable def effList:List (Nat×EffFn):=[(49,namesE),(73,forgetE),(90,Zx0),(153,byteE),(154,stringE),(165,textE)]
def bldList:List (Nat×Nat):=[(201,5)]
def wrbList:List Nat:=[79]
def qkList:List (Nat×List Nat):=[(11,[12]),(14,[15])]
def linList:List Nat:=[29,38]
def farList:List (Nat×Nat×Nat×Nat):=[(35,12,50,11)]
def dfrList:List Nat:=[20]
noncomputable def cfg:Cfg:={ P:=Tryz.prog,glob:=TE,sum:=fun f=>sumList.lookup f,user:=fun f=>userList.contains f,eqok:=fun t=>eqList.contains t,pure:=fun f=>pureList.contains f,flat:=fun f=>flatList.contains f,ext:=fun f=>extList.lookup f,keep:=Zp8 ZgU,eff:=fun f=>effList.lookup f,bld:=fun t=>bldList.lookup t,lin:=fun t=>linList.contains t,qk:=fun t a=>qkList.contains (t,a),wrb:=fun t=>wrbList.contains t,ro:=fun f=>roList.contains f,far:=some fun t a u b=>farList.contains (t,a,u,b),dfr:=fun f=>dfrList.contains f }
theorem Z9 {kp:Nat -> Option (List Nat)}{g:Code -> KL -> AL -> Hp -> Z4}{n:Nat}{c:Code}{k:KL}{j:AL}{H:Hp}{r:Z4}(cut:List Nat)(h:HC cfg (Zb cfg) g kp n Zc Z7 (Yn cfg (Zb cfg) g kp n Zc Z7) cut c k j H=r:=by kernel_rfl):Yn cfg (Zb cfg) g kp n Zc Z7 c k j H=r:=(Zlz cut c k j H).trans h
theorem Be {f:FuncId}{fn:Func}{args:List AV}{H:Hp}{r:Z4}(n:Nat)(cut:List Nat)(u:cfg.P.funcs[f]?=some fn)(j:Tq cfg f fn=some (Z1 fn):=by kernel_rfl)(g:fn.ntmps=n:=by kernel_rfl)(w:Nat.ble args.length n=true:=by kernel_rfl)(h:HC cfg (Zb cfg) (Y5 cfg (cfg.keep f) n) (cfg.keep f) n Zc Z7 (Yn cfg (Zb cfg) (Y5 cfg (cfg.keep f) n) (cfg.keep f) n Zc Z7) cut (Z1 fn) (Zf cfg n f fn H) (Zac 0 args) H=r:=by kernel_rfl):Zb cfg f args H=r:=(Zd cut u j g args w H).trans h

def Gq:=Zb cfg 3
def GR:=Zb cfg 11
def AP:=Zb cfg 12
def Wj:=Zb cfg 13
def KJ:=Zb cfg 14
def ND:=Zb cfg 15
def Wx:=Zb cfg 16
def Ww:=Zb cfg 17
def Vy:=Zb cfg 18
def WV:=Zb cfg 19
def Xc:=Zb cfg 20
def VJ:=Zb cfg 21
def WM:=Zb cfg 22
def Vx:=Zb cfg 23
def Uf:=Zb cfg 24
def UA:=Zb cfg 25
def Xn:=Zb cfg 26
def EW:=Zb cfg 27
def Ny:=Zb cfg 37
def AQ:=Zb cfg 38
def UU:=Zb cfg 39
def FY:=Zb cfg 40
def Wi:=Zb cfg 41
def RR:=Zb cfg 42
def Wy:=Zb cfg 43
def EQ:=Zb cfg 44
def Vk:=Zb cfg 45
def Vi:=Zb cfg 46
def Wg:=Zb cfg 47
def XU:=Zb cfg 48
def VK:=Zb cfg 50
def Xv:=Zb cfg 51
def Wv:=Zb cfg 52
def Ym:=Zb cfg 53
def YO:=Zb cfg 54
def ES:=Zb cfg 55
def Qp:=Zb cfg 56
def UG:=Zb cfg 57
def ET:=Zb cfg 58
def WN:=Zb cfg 59
def RT:=Zb cfg 69
def Nz:=Zb cfg 71
def UH:=Zb cfg 72
def GP:=Zb cfg 74
def Wh:=Zb cfg 75
def PQ:=Zb cfg 76
def EU:=Zb cfg 77
def Vh:=Zb cfg 78
def NC:=Zb cfg 79
def NB:=Zb cfg 80
def XR:=Zb cfg 81
def Ja:=Zb cfg 83
def Gg:=Zb cfg 84
def GQ:=Zb cfg 85
def VI:=Zb cfg 86
def UF:=Zb cfg 87
def Qq:=Zb cfg 88
def J9:=Zb cfg 89
def Ue:=Zb cfg 97
def Vl:=Zb cfg 98
def VM:=Zb cfg 99
def Jt:=Zb cfg 100
def Qh:=Zb cfg 101
def WW:=Zb cfg 102
def Bj:=Zb cfg 103
def UT:=Zb cfg 104
def Uz:=Zb cfg 107
def Qn:=Zb cfg 108
def MA:=Zb cfg 109
def JX:=Zb cfg 110
def Du:=Zb cfg 111
def JV:=Zb cfg 112
def PV:=Zb cfg 113
def Dr:=Zb cfg 114
def Ds:=Zb cfg 115
def PU:=Zb cfg 117
def Dt:=Zb cfg 118
def PT:=Zb cfg 119
def Gp:=Zb cfg 120
def EV:=Zb cfg 124
def Xj:=Zb cfg 125
def PR:=Zb cfg 126
def XV:=Zb cfg 127
def Js:=Zb cfg 128
def Vw:=Zb cfg 129
def Vb:=Zb cfg 130
def Qo:=Zb cfg 131
def Bi:=Zb cfg 143
def FX:=Zb cfg 144
def Wb:=Zb cfg 145
def JW:=Zb cfg 146
def RQ:=Zb cfg 147
def VH:=Zb cfg 152
def RU:=Zb cfg 155
def Gf:=Zb cfg 156
def YQ:=Zb cfg 163
def PS:=Zb cfg 164
def VL:=Zb cfg 166
def KK:=Zb cfg 173
def VG:=Zb cfg 174
def Vj:=Zb cfg 175
def Va:=Zb cfg 176
def GO:=Zb cfg 178
def UE:=Zb cfg 183
def DS:=Zb cfg 184
def Wt:=Zb cfg 194
def NA:=Zb cfg 195
def ER:=Zb cfg 196
def Nx:=Zb cfg 202
def ZfA:=Zb cfg 207
def AR:=Zb cfg 209
def GN:=Zb cfg 213
def DR:=Zb cfg 214
def Qm:=Zb cfg 215
def US:=Zb cfg 216
def EP:=Zb cfg 219
noncomputable abbrev a7 (f n:Nat):=Yn cfg (Zb cfg) (Y5 cfg (cfg.keep f) n) (cfg.keep f) n Zc Z7
noncomputable abbrev a8 (f n:Nat)(F:Func)(p:List Nat)(G:Hp):=fun k K=>a7 f n (sub (Z1 F) p) (Zf cfg n f F G) k K
abbrev ah (F:Func):=sub (Z1 F)
def Zdi:Z4:=a8 37 45 Tryz.f37 [1,1,1,1] H0 [] H
def Tf:KL:=Zc (fun k g H=>a7 37 45 (ah Tryz.f37 [1,1,1,1]) k (Y3 (cfg.keep 37) (ah Tryz.f37 [1,1,1,1]) g) H) (Zf cfg 45 37 Tryz.f37 H0)
theorem Zfk:ZS 45 (Tf H0):=Zw (C:=cfg) (kp:=cfg.keep 37) (ah Tryz.f37 [1,1,1,1]) (Zy 37 Tryz.f37 H0)
def Zdk:Z4:=a7 37 45 (ah Tryz.f37 [1,1,1,0,1,0,0,1,1]) (Zc (fun k g H=>Y5 cfg (cfg.keep 37) 45 (ah Tryz.f37 [1,1,1,0,1,0,0]) k (Y3 (cfg.keep 37) (ah Tryz.f37 [1,1,1,0,1,0,0]) g) H) (Z7 0 (Tf H0))) [(1,x1),(3,x3)] H
def Zdj:Z4:=a7 37 45 (ah Tryz.f37 [1,1,1,0,1,0,0,1]) (Zc (fun k g H=>Y5 cfg (cfg.keep 37) 45 (ah Tryz.f37 [1,1,1,0,1,0,0]) k (Y3 (cfg.keep 37) (ah Tryz.f37 [1,1,1,0,1,0,0]) g) H) (Z7 0 (Tf H0))) [(1,x1),(3,x3)] H
def Tg:Z4:=Y5 cfg (cfg.keep 37) 45 (ah Tryz.f37 [1,1,1,0,1,0,0]) (Z7 0 (Tf H0)) [(1,x1),(3,x3)] H
def Zdh:Z4:=a8 37 45 Tryz.f37 [1,1,1] H0 [(1,x1)] H
def Zdg:Z4:=a8 37 45 Tryz.f37 [1,1] H0 [(1,x1)] H
def ZfE:Z4:=
 Z0 (ZQ p0 H) fun g=>
 Z0 (Z6 0 g.1) fun t4=>
 Z0 (Z3 false 1 t4 g.2) fun t5=>
 Z0 (Zk (.slice 119) t5) fun h=>
 Z0 (Z5 .gtr h (J zE 8)) fun j=>
 Zj j
  (some ((J zE 3),g.2))
  (Zdg g.1 H g.2)
theorem ZhA:Zdi H0 H =
 some ((J zE 0),H):=Z9 ai
theorem ZhC:Zdk x1 x3 H0 H =
 Z0 (Z5 .add x3 (J zE 1)) fun t37=>
 Tg x1 t37 H0 H:=Z9 ai
theorem ZhB:Zdj x1 x3 H0 H =
 Z0 (Z6 0 x1) fun h=>
 Z0 (Z3 false 1 h H) fun j=>
 Z0 (Zo 5 j x3) fun u=>
 Z0 (Z3 true 5 u H) fun w=>
 Z0 (Zh Nz [w] H) fun g=>
 Z0 (XL .not g.1) fun y=>
 Zj y
  (some ((J zE 2),g.2))
  (Zdk x1 x3 H0 g.2):=Z9 ai
theorem HP:Tg x1 x3 H0 H =
 Z0 (Z6 0 x1) fun g=>
 Z0 (Z3 false 1 g H) fun h=>
 Z0 (Zk (.slice 119) h) fun j=>
 Z0 (Z5 .lss x3 j) fun u=>
 Zj u
  (Zdj x1 x3 H0 H)
  (Zdi H0 H):=(ZC (C:=cfg) [3,5,7,8,10] (Zn 0 (Zfk H0)) _ _).trans (by kernel_rfl)
theorem Zhz:Zdh x1 H0 H =
 Tg x1 (J zE 0) H0 H:=Z9 ai
theorem Zhy:Zdg x1 H0 H =
 Z0 (Z6 1 x1) fun N=>
 Z0 (Z3 false 1 N H) fun t9=>
 Z0 (Z5 .lss t9 (J zE (-1))) fun g=>
 Z0 (Z8 g false ap (Z6 1 x1)) fun w=>
 Z0 (Z8 g false ap (Z3 false 1 w H)) fun y=>
 Z0 (Z8 g false ap (Z5 .gtr y (J zE 255))) fun z=>
 Z0 (Zi g (.bool true) z) fun h=>
 Z0 (Z8 h false ap (Z6 1 x1)) fun A=>
 Z0 (Z8 h false ap (Z3 false 1 A H)) fun B=>
 Z0 (Z8 h false ap (Z5 .eql B (J zE 10))) fun C=>
 Z0 (Zi h (.bool true) C) fun j=>
 Z0 (Z8 j false ap (Z6 2 x1)) fun D=>
 Z0 (Z8 j false ap (Z3 false 1 D H)) fun E=>
 Z0 (Z8 j false ap (Z5 .lss E (J zE 0))) fun F=>
 Z0 (Zi j (.bool true) F) fun u=>
 Z0 (Z8 u false ap (Z6 2 x1)) fun I=>
 Z0 (Z8 u false ap (Z3 false 1 I H)) fun K=>
 Z0 (Z8 u false ap (Z5 .gtr K (J zE 31))) fun L=>
 Z0 (Zi u (.bool true) L) fun M=>
 Zj M
  (some ((J zE 2),H))
  (Zdh x1 H0 H):=Z9 ai
theorem Zj9:Ny [p0] H=ZfE p0 H:=Be 45 [3,5,7,8,10] Tryz.func37
def Cl:Z4:=a8 52 78 Tryz.f52 [1,1,1,1] H0 [] H
def Kv:KL:=Zc (fun k g H=>a7 52 78 (ah Tryz.f52 [1,1,1,1]) k (Y3 (cfg.keep 52) (ah Tryz.f52 [1,1,1,1]) g) H) (Zf cfg 78 52 Tryz.f52 H0)
theorem OG:ZS 78 (Kv H0):=Zw (C:=cfg) (kp:=cfg.keep 52) (ah Tryz.f52 [1,1,1,1]) (Zy 52 Tryz.f52 H0)
def R8:Z4:=a7 52 78 (ah Tryz.f52 [1,1,1,0,1,0,0,1,1,1]) (Zc (fun k g H=>Y5 cfg (cfg.keep 52) 78 (ah Tryz.f52 [1,1,1,0,1,0,0]) k (Y3 (cfg.keep 52) (ah Tryz.f52 [1,1,1,0,1,0,0]) g) H) (Z7 0 (Kv H0))) [(33,x33),(34,x34),(35,x35)] H
def R7:Z4:=a7 52 78 (ah Tryz.f52 [1,1,1,0,1,0,0,1,1]) (Zc (fun k g H=>Y5 cfg (cfg.keep 52) 78 (ah Tryz.f52 [1,1,1,0,1,0,0]) k (Y3 (cfg.keep 52) (ah Tryz.f52 [1,1,1,0,1,0,0]) g) H) (Z7 0 (Kv H0))) [(33,x33),(34,x34),(35,x35),(36,x36)] H
def Kw:Z4:=Y5 cfg (cfg.keep 52) 78 (ah Tryz.f52 [1,1,1,0,1,0,0]) (Z7 0 (Kv H0)) [(33,x33),(34,x34),(35,x35)] H
def Cj:Z4:=a8 52 78 Tryz.f52 [1,1,1] H0 [(1,x1)] H
def Ci:Z4:=a8 52 78 Tryz.f52 [1,1] H0 [(1,x1)] H
def HH:Z4:=
 Z0 (ZQ p0 H) fun g=>
 Z0 (Z6 0 g.1) fun t5=>
 Z0 (Z3 false 1 t5 g.2) fun h=>
 Z0 (Zk (.slice 119) h) fun j=>
 Z0 (Z5 .gtr j (J zE 8)) fun u=>
 Zj u
  (some ((J zE 3),g.2))
  (Ci g.1 H g.2)
theorem Zco:Cl H0 H =
 some ((J zE 0),H):=Z9 aj
theorem Zcq:R8 x33 x34 x35 H0 H =
 Z0 (Z5 .add x35 (J zE 1)) fun g=>
 Kw x33 x34 g H0 H:=Z9 aj
theorem Zcp:R7 x33 x34 x35 x36 H0 H =
 Z0 (Zo 5 x33 x35) fun t37=>
 Z0 (Z3 true 5 t37 H) fun C=>
 Z0 (some ((.ptr H.length 0),H++[.cells [(J zE 0),(J zE 0),(J zE 0),(J zE 0),(J zE 0)]])) fun j=>
 Z0 (Za 5 j.1 C j.2) fun g=>
 Z0 (Z6 0 j.1) fun D=>
 Z0 (Z3 false 1 D g.2) fun E=>
 Z0 (Z5 .lss E (J zE 1)) fun u=>
 Z0 (Z8 u false ap (Z6 1 j.1)) fun F=>
 Z0 (Z8 u false ap (Z3 false 1 F g.2)) fun I=>
 Z0 (Z8 u false ap (Z5 .lss I (J zE 1))) fun K=>
 Z0 (Zi u (.bool true) K) fun w=>
 Z0 (Z8 w false ap (Z6 2 j.1)) fun L=>
 Z0 (Z8 w false ap (Z3 false 1 L g.2)) fun M=>
 Z0 (Z8 w false ap (Z5 .lss M (J zE 0))) fun N=>
 Z0 (Zi w (.bool true) N) fun y=>
 Z0 (Z8 y false ap (Z6 3 j.1)) fun O=>
 Z0 (Z8 y false ap (Z3 false 1 O g.2)) fun Q=>
 Z0 (Z8 y false ap (Z5 .lss Q (J zE 0))) fun R=>
 Z0 (Zi y (.bool true) R) fun h=>
 Z0 (Z8 h false ap (Z6 2 j.1)) fun S=>
 Z0 (Z8 h false ap (Z3 false 1 S g.2)) fun T=>
 Z0 (Z8 h false ap (Z5 .eql T (J zE 0))) fun U=>
 Z0 (Z8 h false ap (some U)) fun z=>
 Z0 (Z8 z true ap (Z6 3 j.1)) fun V=>
 Z0 (Z8 z true ap (Z3 false 1 V g.2)) fun W=>
 Z0 (Z8 z true ap (Z5 .neq W (J zE 0))) fun X=>
 Z0 (Z8 h false ap (Zi z X (.bool false))) fun Y=>
 Z0 (Zi h (.bool true) Y) fun A=>
 Z0 (Z8 A false ap (Z6 4 j.1)) fun Z=>
 Z0 (Z8 A false ap (Z3 false 1 Z g.2)) fun aa=>
 Z0 (Z8 A false ap (Z5 .lss aa (J zE 0))) fun t70=>
 Z0 (Zi A (.bool true) t70) fun B=>
 Z0 (Z8 B false ap (Z6 4 j.1)) fun ab=>
 Z0 (Z8 B false ap (Z3 false 1 ab g.2)) fun ac=>
 Z0 (Z8 B false ap (Z5 .gtr ac (J zE 31))) fun ad=>
 Z0 (Zi B (.bool true) ad) fun ae=>
 Zj ae
  (some ((J zE 2),g.2))
  (R8 x33 x34 x35 H0 g.2):=Z9 aj
theorem Px:Kw x33 x34 x35 H0 H =
 Z0 (Z5 .lss x35 x34) fun g=>
 Zj g
  (R7 x33 x34 x35 g H0 H)
  (Cl H0 H):=(ZC (C:=cfg) [3,5,7,10,11] (Zn 0 (OG H0)) _ _).trans (by kernel_rfl)
theorem Zcn:Cj x1 H0 H =
 Z0 (Z6 0 x1) fun h=>
 Z0 (Z3 false 1 h H) fun g=>
 Z0 (Zk (.slice 119) g) fun j=>
 Kw g j (J zE 0) H0 H:=Z9 aj
theorem Zcm:Ci x1 H0 H =
 Z0 (Z6 1 x1) fun t9=>
 Z0 (Z3 false 1 t9 H) fun w=>
 Z0 (Z5 .lss w (J zE (-1))) fun g=>
 Z0 (Z8 g false ap (Z6 1 x1)) fun y=>
 Z0 (Z8 g false ap (Z3 false 1 y H)) fun z=>
 Z0 (Z8 g false ap (Z5 .gtr z (J zE 255))) fun A=>
 Z0 (Zi g (.bool true) A) fun h=>
 Z0 (Z8 h false ap (Z6 1 x1)) fun B=>
 Z0 (Z8 h false ap (Z3 false 1 B H)) fun C=>
 Z0 (Z8 h false ap (Z5 .eql C (J zE 10))) fun D=>
 Z0 (Zi h (.bool true) D) fun j=>
 Z0 (Z8 j false ap (Z6 2 x1)) fun E=>
 Z0 (Z8 j false ap (Z3 false 1 E H)) fun F=>
 Z0 (Z8 j false ap (Z5 .lss F (J zE 0))) fun I=>
 Z0 (Zi j (.bool true) I) fun u=>
 Z0 (Z8 u false ap (Z6 2 x1)) fun K=>
 Z0 (Z8 u false ap (Z3 false 1 K H)) fun L=>
 Z0 (Z8 u false ap (Z5 .gtr L (J zE 31))) fun M=>
 Z0 (Zi u (.bool true) M) fun N=>
 Zj N
  (some ((J zE 2),H))
  (Cj x1 H0 H):=Z9 aj
theorem ZcY:Wv [p0] H=HH p0 H:=Be 78 [3,5,7,10,11] Tryz.func52
def Sw:Z4:=a8 71 39 Tryz.f71 [1,1] H0 [(1,x1)] H
def ZfF:Z4:=
 Z0 (ZQ p0 H) fun g=>
 Z0 (Z6 0 g.1) fun t3=>
 Z0 (Z3 false 1 t3 g.2) fun t4=>
 Z0 (Z5 .lss t4 (J zE 1)) fun t5=>
 Z0 (Z8 t5 false ap (Z6 1 g.1)) fun Q=>
 Z0 (Z8 t5 false ap (Z3 false 1 Q g.2)) fun R=>
 Z0 (Z8 t5 false ap (Z5 .lss R (J zE 1))) fun t9=>
 Z0 (Zi t5 (.bool true) t9) fun j=>
 Z0 (Z8 j false ap (Z6 2 g.1)) fun y=>
 Z0 (Z8 j false ap (Z3 false 1 y g.2)) fun z=>
 Z0 (Z8 j false ap (Z5 .lss z (J zE 0))) fun A=>
 Z0 (Zi j (.bool true) A) fun u=>
 Z0 (Z8 u false ap (Z6 3 g.1)) fun B=>
 Z0 (Z8 u false ap (Z3 false 1 B g.2)) fun C=>
 Z0 (Z8 u false ap (Z5 .lss C (J zE 0))) fun D=>
 Z0 (Zi u (.bool true) D) fun h=>
 Z0 (Z8 h false ap (Z6 2 g.1)) fun E=>
 Z0 (Z8 h false ap (Z3 false 1 E g.2)) fun F=>
 Z0 (Z8 h false ap (Z5 .eql F (J zE 0))) fun I=>
 Z0 (Z8 h false ap (some I)) fun w=>
 Z0 (Z8 w true ap (Z6 3 g.1)) fun K=>
 Z0 (Z8 w true ap (Z3 false 1 K g.2)) fun L=>
 Z0 (Z8 w true ap (Z5 .neq L (J zE 0))) fun M=>
 Z0 (Z8 h false ap (Zi w M (.bool false))) fun N=>
 Z0 (Zi h (.bool true) N) fun O=>
 Zj O
  (some ((.bool false),g.2))
  (Sw g.1 H g.2)
theorem ZhD:Sw x1 H0 H =
 Z0 (Z6 4 x1) fun h=>
 Z0 (Z3 false 1 h H) fun j=>
 Z0 (Z5 .geq j (J zE 0)) fun g=>
 Z0 (Z8 g true ap (Z6 4 x1)) fun u=>
 Z0 (Z8 g true ap (Z3 false 1 u H)) fun w=>
 Z0 (Z8 g true ap (Z5 .leq w (J zE 31))) fun t37=>
 Z0 (Zi g t37 (.bool false)) fun y=>
 some (y,H):=Z9 [3]
theorem Zja:Nz [p0] H=ZfF p0 H:=Be 39 [3] Tryz.func71
def Mv:Z4:=a8 89 70 Tryz.f89 [1,1,1,1,1,1,1] H0 [(0,x0),(7,x7),(10,x10)] H
def Wm:Z4:=a8 89 70 Tryz.f89 [1,1,1,1,1,1] H0 [(0,x0),(7,x7),(10,x10)] H
def Mu:Z4:=a8 89 70 Tryz.f89 [1,1,1] H0 [(0,x0),(2,x2),(4,x4),(7,x7),(8,x8)] H
def Lk:Z4:=
 Z0 (ZQ p1 H) fun h=>
 Z0 (Z6 0 h.1) fun j=>
 Z0 (Z3 false 1 j h.2) fun u=>
 Z0 (Qr u (J zE 1)) fun w=>
 Z0 (Gp [p0,w,p2] h.2) fun g=>
 Z0 (ZL g.1 0) fun y=>
 Z0 (ZL g.1 1) fun z=>
 Z0 (ZL g.1 2) fun A=>
 Z0 (XL .not A) fun B=>
 Zj B
  (some ((.str []),g.2))
  (Mu p0 p2 h.1 y z H g.2)
theorem OO:Mv x0 x7 x10 H0 H =
 Z0 (Y8 x0 (some x7) (some x10) none) fun g=>
 some (g,H):=Z9 [4,12,14]
theorem ON:Wm x0 x7 x10 H0 H =
 Z0 (Z5 .lss x10 x7) fun g=>
 Zj g
  (some ((.str []),H))
  (Mv x0 x7 x10 H0 H):=Z9 [4,12,14]
theorem OM:Mu x0 x2 x4 x7 x8 H0 H =
 Z0 (Z6 1 x4) fun w=>
 Z0 (Z3 false 1 w H) fun y=>
 Z0 (Qr y (J zE 1)) fun z=>
 Z0 (Z5 .sub z (J zE 1)) fun A=>
 Z0 (Z5 .sub x8 x7) fun B=>
 Z0 (VN A B) fun C=>
 Z0 (Z5 .add x7 C) fun h=>
 Z0 (Zk .string x0) fun t37=>
 Z0 (Z6 2 x4) fun D=>
 Z0 (Z3 false 1 D H) fun E=>
 Z0 (Z5 .gtr E (J zE 0)) fun F=>
 Zj F
  (Z0 (Z6 2 x4) fun I=>
  Z0 (Z3 false 1 I H) fun K=>
  Z0 (Gp [x0,K,x2] H) fun g=>
  Z0 (ZL g.1 0) fun j=>
  Z0 (ZL g.1 1) fun u=>
  Z0 (ZL g.1 2) fun L=>
  Zj L
   (Z0 (Z6 3 x4) fun M=>
   Z0 (Z3 false 1 M g.2) fun N=>
   Z0 (Z5 .gtr N (J zE 0)) fun O=>
   Zj O
    (Z0 (Z6 3 x4) fun Q=>
    Z0 (Z3 false 1 Q g.2) fun R=>
    Z0 (Z5 .sub u j) fun S=>
    Z0 (VN R S) fun T=>
    Z0 (Z5 .add j T) fun U=>
    Wm x0 h U H0 g.2)
    (Wm x0 h u H0 g.2))
   (Wm x0 h t37 H0 g.2))
  (Wm x0 h t37 H0 H):=Z9 [4,12,14]
theorem OY:J9 [p0,p1,p2] H=Lk p0 p1 p2 H:=Be 70 [4,12,14] Tryz.func89
def IU:Z4:=
 Z0 (ZQ p0 H) fun g=>
 Z0 (some ((.ptr g.2.length 0),g.2++[.cells [(.str []),.nils,(.str []),(.str []),.nils,.nils]])) fun z=>
 Z0 (Z6 1 g.1) fun t3=>
 Z0 (Z3 false 1 t3 z.2) fun t4=>
 Z0 (Y9 1 8 .nils t4 z.2) fun F=>
 Z0 (Z6 1 g.1) fun K=>
 Z0 (Za 1 K F.1 F.2) fun y=>
 Z0 (Z6 4 g.1) fun L=>
 Z0 (Z3 false 1 L y.2) fun M=>
 Z0 (Y9 5 48 .nils M y.2) fun I=>
 Z0 (Z6 4 g.1) fun A=>
 Z0 (Za 1 A I.1 I.2) fun h=>
 Z0 (Z6 5 g.1) fun B=>
 Z0 (Z3 false 1 B h.2) fun C=>
 Z0 (Y9 2 24 .nils C h.2) fun w=>
 Z0 (Z6 5 g.1) fun D=>
 Z0 (Za 1 D w.1 w.2) fun j=>
 Z0 (Z3 true 6 g.1 j.2) fun E=>
 Z0 (Za 6 z.1 E j.2) fun u=>
 Z0 (Z3 true 6 z.1 u.2) fun N=>
 some (N,u.2)
theorem Zf8:Bj [p0] H=IU p0 H:=Be 16 [] Tryz.func103
def Cp:Z4:=a8 120 83 Tryz.f120 [1,1,1] H0 [] H
def UP:KL:=Zc (fun k g H=>a7 120 83 (ah Tryz.f120 [1,1,1]) k (Y3 (cfg.keep 120) (ah Tryz.f120 [1,1,1]) g) H) (Zf cfg 83 120 Tryz.f120 H0)
theorem RB:ZS 83 (UP H0):=Zw (C:=cfg) (kp:=cfg.keep 120) (ah Tryz.f120 [1,1,1]) (Zy 120 Tryz.f120 H0)
def Cr:Z4:=a7 120 83 (ah Tryz.f120 [1,1,0,1,0,0,1,1]) (Zc (fun k g H=>Y5 cfg (cfg.keep 120) 83 (ah Tryz.f120 [1,1,0,1,0,0]) k (Y3 (cfg.keep 120) (ah Tryz.f120 [1,1,0,1,0,0]) g) H) (Z7 2 (UP H0))) [(0,x0),(1,x1),(6,x6),(11,x11)] H
def Vg:KL:=Zc (fun k g H=>a7 120 83 (ah Tryz.f120 [1,1,0,1,0,0,1,1]) k (Y3 (cfg.keep 120) (ah Tryz.f120 [1,1,0,1,0,0,1,1]) g) H) (Zc (fun k g H=>Y5 cfg (cfg.keep 120) 83 (ah Tryz.f120 [1,1,0,1,0,0]) k (Y3 (cfg.keep 120) (ah Tryz.f120 [1,1,0,1,0,0]) g) H) (Z7 2 (UP H0)))
theorem RC:ZS 83 (Vg H0):=Zw (C:=cfg) (kp:=cfg.keep 120) (ah Tryz.f120 [1,1,0,1,0,0,1,1]) (AH (C:=cfg) (kp:=cfg.keep 120) (ah Tryz.f120 [1,1,0,1,0,0]) (Zn 2 (RB H0)))
def Cs:Z4:=a7 120 83 (ah Tryz.f120 [1,1,0,1,0,0,1,0,0,1,1,1,1]) (Z7 3 (Vg H0)) [(0,x0),(1,x1),(7,x7),(11,x11)] H
def Rc:Z4:=a7 120 83 (ah Tryz.f120 [1,1,0,1,0,0,1,0,0,1,1,1]) (Z7 3 (Vg H0)) [(0,x0),(1,x1),(6,x6),(7,x7),(11,x11)] H
def Re:KL:=Zc (fun k g H=>a7 120 83 (ah Tryz.f120 [1,1,0,1,0,0,1,0,0,1,1,1]) k (Y3 (cfg.keep 120) (ah Tryz.f120 [1,1,0,1,0,0,1,0,0,1,1,1]) g) H) (Z7 3 (Vg H0))
theorem OP:ZS 83 (Re H0):=Zw (C:=cfg) (kp:=cfg.keep 120) (ah Tryz.f120 [1,1,0,1,0,0,1,0,0,1,1,1]) (Zn 3 (RC H0))
def Ct:Z4:=a7 120 83 (ah Tryz.f120 [1,1,0,1,0,0,1,0,0,1,1,0,0,0,1]) (Zc (fun k g H=>Y5 cfg (cfg.keep 120) 83 (ah Tryz.f120 [1,1,0,1,0,0,1,0,0,1,1,0,0,0]) k (Y3 (cfg.keep 120) (ah Tryz.f120 [1,1,0,1,0,0,1,0,0,1,1,0,0,0]) g) H) (Z7 6 (Re H0))) [(0,x0),(1,x1),(6,x6),(7,x7),(11,x11)] H
def Kz:Z4:=Y5 cfg (cfg.keep 120) 83 (ah Tryz.f120 [1,1,0,1,0,0,1,0,0,1,1,0,0,0]) (Z7 6 (Re H0)) [(0,x0),(1,x1),(6,x6),(7,x7),(11,x11)] H
def Rb:Z4:=a7 120 83 (ah Tryz.f120 [1,1,0,1,0,0,1,0,0,1,1]) (Z7 3 (Vg H0)) [(0,x0),(1,x1),(6,x6),(7,x7),(11,x11)] H
def Rf:KL:=Zc (fun k g H=>a7 120 83 (ah Tryz.f120 [1,1,0,1,0,0,1,0,0,1,1]) k (Y3 (cfg.keep 120) (ah Tryz.f120 [1,1,0,1,0,0,1,0,0,1,1]) g) H) (Z7 3 (Vg H0))
theorem OQ:ZS 83 (Rf H0):=Zw (C:=cfg) (kp:=cfg.keep 120) (ah Tryz.f120 [1,1,0,1,0,0,1,0,0,1,1]) (Zn 3 (RC H0))
def Cu:Z4:=a7 120 83 (ah Tryz.f120 [1,1,0,1,0,0,1,0,0,1,0,0,0,1]) (Zc (fun k g H=>Y5 cfg (cfg.keep 120) 83 (ah Tryz.f120 [1,1,0,1,0,0,1,0,0,1,0,0,0]) k (Y3 (cfg.keep 120) (ah Tryz.f120 [1,1,0,1,0,0,1,0,0,1,0,0,0]) g) H) (Z7 4 (Rf H0))) [(0,x0),(1,x1),(6,x6),(7,x7),(11,x11)] H
def KA:Z4:=Y5 cfg (cfg.keep 120) 83 (ah Tryz.f120 [1,1,0,1,0,0,1,0,0,1,0,0,0]) (Z7 4 (Rf H0)) [(0,x0),(1,x1),(6,x6),(7,x7),(11,x11)] H
def Cq:Z4:=a7 120 83 (ah Tryz.f120 [1,1,0,1,0,0,1]) (Zc (fun k g H=>Y5 cfg (cfg.keep 120) 83 (ah Tryz.f120 [1,1,0,1,0,0]) k (Y3 (cfg.keep 120) (ah Tryz.f120 [1,1,0,1,0,0]) g) H) (Z7 2 (UP H0))) [(0,x0),(1,x1),(6,x6),(11,x11)] H
def Ky:Z4:=Y5 cfg (cfg.keep 120) 83 (ah Tryz.f120 [1,1,0,1,0,0]) (Z7 2 (UP H0)) [(0,x0),(1,x1),(6,x6),(11,x11)] H
def Ra:Z4:=a8 120 83 Tryz.f120 [1,1] H0 [(0,x0),(1,x1),(6,x6)] H
def Kx:KL:=Zc (fun k g H=>a7 120 83 (ah Tryz.f120 [1,1]) k (Y3 (cfg.keep 120) (ah Tryz.f120 [1,1]) g) H) (Zf cfg 83 120 Tryz.f120 H0)
theorem OR:ZS 83 (Kx H0):=Zw (C:=cfg) (kp:=cfg.keep 120) (ah Tryz.f120 [1,1]) (Zy 120 Tryz.f120 H0)
def LO:Z4:=a7 120 83 (ah Tryz.f120 [1,0,1,0,1,0,0,1]) (Zc (fun k g H=>Y5 cfg (cfg.keep 120) 83 (ah Tryz.f120 [1,0,1,0,1,0,0]) k (Y3 (cfg.keep 120) (ah Tryz.f120 [1,0,1,0,1,0,0]) g) H) (Z7 0 (Kx H0))) [(0,x0),(1,x1),(2,x2),(6,x6),(9,x9)] H
def Cv:KL:=Zc (fun k g H=>a7 120 83 (ah Tryz.f120 [1,0,1,0,1,0,0,1]) k (Y3 (cfg.keep 120) (ah Tryz.f120 [1,0,1,0,1,0,0,1]) g) H) (Zc (fun k g H=>Y5 cfg (cfg.keep 120) 83 (ah Tryz.f120 [1,0,1,0,1,0,0]) k (Y3 (cfg.keep 120) (ah Tryz.f120 [1,0,1,0,1,0,0]) g) H) (Z7 0 (Kx H0)))
def LR:Z4:=a7 120 83 (ah Tryz.f120 [1,0,1,0,1,0,0,0,0,1,1,1]) (Z7 1 (Cv H0)) [(0,x0),(1,x1),(2,x2),(6,x6),(9,x9),(10,x10)] H
def LQ:Z4:=a7 120 83 (ah Tryz.f120 [1,0,1,0,1,0,0,0,0,1,1]) (Z7 1 (Cv H0)) [(0,x0),(1,x1),(2,x2),(6,x6),(9,x9),(10,x10)] H
def KB:Z4:=Y5 cfg (cfg.keep 120) 83 (ah Tryz.f120 [1,0,1,0,1,0,0]) (Z7 0 (Kx H0)) [(0,x0),(1,x1),(2,x2),(6,x6),(9,x9)] H
def HK:Z4:=
 Z0 (Z5 .geq p2 (J zE 0)) fun g=>
 Z0 (Z8 g true ap (some p2)) fun h=>
 Z0 (Z8 g true ap (Z5 .leq h (J zE 255))) fun j=>
 Z0 (Zi g j (.bool false)) fun u=>
 Zj u
  (KB p0 p1 p2 (J zE 0) (J zE 1) H H)
  (Ra p0 p1 (J zE 0) H H)
theorem Zcu:Cp H0 H =
 some ((.tuple [(J zE 0),(J zE 0),(.bool false)]),H):=Z9 am
theorem Zcw:Cr x0 x1 x6 x11 H0 H =
 Z0 (Z5 .add x11 (J zE 1)) fun g=>
 Ky x0 x1 x6 g H0 H:=Z9 am
theorem Zcz:Cs x0 x1 x7 x11 H0 H =
 Cr x0 x1 x7 x11 H0 H:=Z9 am
theorem Zcy:Rc x0 x1 x6 x7 x11 H0 H =
 Z0 (Z5 .eql x11 x1) fun g=>
 Zj g
  (some ((.tuple [x6,x7,(.bool true)]),H))
  (Cs x0 x1 x7 x11 H0 H):=Z9 am
theorem ZcA:Ct x0 x1 x6 x7 x11 H0 H =
 Z0 (Z5 .add x7 (J zE 1)) fun g=>
 Kz x0 x1 x6 g x11 H0 H:=Z9 am
theorem Py:Kz x0 x1 x6 x7 x11 H0 H =
 Z0 (Zk .string x0) fun j=>
 Z0 (Z5 .lss x7 j) fun g=>
 Z0 (Z8 g true ap (some x0)) fun u=>
 Z0 (Z8 g true ap (some x7)) fun t70=>
 Z0 (Z8 g true ap (Zx u t70)) fun w=>
 Z0 (Z8 g true (ap,H) (VH [w] H)) fun h=>
 Z0 (Z8 g true ap (XL .not h.1)) fun y=>
 Z0 (Zi g y (.bool false)) fun z=>
 Zj z
  (Ct x0 x1 x6 x7 x11 H0 h.2)
  (Rc x0 x1 x6 x7 x11 H0 h.2):=(ZC (C:=cfg) [3,7,9,10,12,13,15,16,17,18,20,21] (Zn 6 (OP H0)) _ _).trans (by kernel_rfl)
theorem Zcx:Rb x0 x1 x6 x7 x11 H0 H =
 Kz x0 x1 x6 x7 x11 H0 H:=Z9 am
theorem ZcB:Cu x0 x1 x6 x7 x11 H0 H =
 Z0 (Z5 .add x7 (J zE 1)) fun g=>
 KA x0 x1 x6 g x11 H0 H:=Z9 am
theorem Pz:KA x0 x1 x6 x7 x11 H0 H =
 Z0 (Zk .string x0) fun j=>
 Z0 (Z5 .lss x7 j) fun g=>
 Z0 (Z8 g true ap (some x0)) fun u=>
 Z0 (Z8 g true ap (some x7)) fun w=>
 Z0 (Z8 g true ap (Zx u w)) fun y=>
 Z0 (Z8 g true (ap,H) (VH [y] H)) fun h=>
 Z0 (Zi g h.1 (.bool false)) fun z=>
 Zj z
  (Cu x0 x1 x6 x7 x11 H0 h.2)
  (Rb x0 x1 x6 x7 x11 H0 h.2):=(ZC (C:=cfg) [3,7,9,10,12,13,15,16,17,18,20,21] (Zn 4 (OQ H0)) _ _).trans (by kernel_rfl)
theorem Zcv:Cq x0 x1 x6 x11 H0 H =
 KA x0 x1 x6 x6 x11 H0 H:=Z9 am
theorem ZcC:Ky x0 x1 x6 x11 H0 H =
 Z0 (Zk .string x0) fun g=>
 Z0 (Z5 .lss x6 g) fun h=>
 Zj h
  (Cq x0 x1 x6 x11 H0 H)
  (Cp H0 H):=(ZC (C:=cfg) [3,7,9,10,12,13,15,16,17,18,20,21] (Zn 2 (RB H0)) _ _).trans (by kernel_rfl)
theorem Zct:Ra x0 x1 x6 H0 H =
 Ky x0 x1 x6 (J zE 1) H0 H:=Z9 am
theorem Zbf:LO x0 x1 x2 x6 x9 H0 H =
 Z0 (Z5 .add x9 (J zE 1)) fun g=>
 KB x0 x1 x2 x6 g H0 H:=Z9 am
theorem Zbh:LR x0 x1 x2 x6 x9 x10 H0 H =
 Z0 (Z5 .add x10 (J zE 1)) fun g=>
 Z0 (Z5 .add x6 g) fun h=>
 LO x0 x1 x2 h x9 H0 H:=Z9 am
theorem Zbg:LQ x0 x1 x2 x6 x9 x10 H0 H =
 Z0 (Z5 .eql x9 x1) fun g=>
 Zj g
  (Z0 (Z5 .add x6 x10) fun h=>
  some ((.tuple [x6,h,(.bool true)]),H))
  (LR x0 x1 x2 x6 x9 x10 H0 H):=Z9 am
theorem ZcD:KB x0 x1 x2 x6 x9 H0 H =
 Z0 (Y8 x0 (some x6) none none) fun h=>
 Z0 (Yq .u8 x2) fun j=>
 Z0 (Gf [h,j] H) fun g=>
 Z0 (Z5 .lss g.1 (J zE 0)) fun u=>
 Zj u
  (Z0 (Zk .string x0) fun w=>
  Z0 (Z5 .eql x9 x1) fun y=>
  some ((.tuple [x6,w,y]),g.2))
  (LQ x0 x1 x2 x6 x9 g.1 H0 g.2):=(ZC (C:=cfg) [3,7,9,10,12,13,15,16,17,18,20,21] (Zn 0 (OR H0)) _ _).trans (by kernel_rfl)
theorem Zd1:Gp [p0,p1,p2] H=HK p0 p1 p2 H:=Be 83 [3,7,9,10,12,13,15,16,17,18,20,21] Tryz.func120
def HJ:Z4:=
 Z0 (Z5 .eql p0 (.int .u8 32)) fun t4=>
 Z0 (Z8 t4 false ap (some p0)) fun g=>
 Z0 (Z8 t4 false ap (Z5 .eql g (.int .u8 9))) fun h=>
 Z0 (Zi t4 (.bool true) h) fun j=>
 some (j,H)
theorem Zd0:VH [p0] H=HJ p0 H:=Be 9 [] Tryz.func152
def Pd:Z4:=
 Z0 (UE [p0,p1] H) fun g=>
 some (g.1,g.2)
theorem AZ:Gf [p0,p1] H=Pd p0 p1 H:=Be 8 [] Tryz.func156
def UI:Z4:=
 Z0 (Zay .indexByte [p0,p1] H) fun g=>
 some (g.1,g.2)
theorem Bl:UE [p0,p1] H=UI p0 p1 H:=Be 8 [] Tryz.func183
theorem Zgw (a b args:List AV)(H:Hp):Yf cfg (Zb cfg) (.fn (.func 55) a b) args H=Zh ES (a++args++b) H:=by kernel_rfl
theorem Zgx (a b args:List AV)(H:Hp):Yf cfg (Zb cfg) (.fn (.func 58) a b) args H=Zh ET (a++args++b) H:=by kernel_rfl
theorem Zds (a b args:List AV)(H:Hp):Yf cfg (Zb cfg) (.fn (.func 108) a b) args H=Zh Qn (a++args++b) H:=by kernel_rfl
theorem Zd4 (a b args:List AV)(H:Hp):XA cfg (Zb cfg) (.fn (.func 108) a b) args H=Zh Qn (a++args++b) H:=by kernel_rfl
theorem Za8 (a b args:List AV)(H:Hp):Yf cfg (Zb cfg) (.fn (.func 110) a b) args H=JX (a++args++b) H:=by kernel_rfl
theorem Zfm (a b args:List AV)(H:Hp):Yf cfg (Zb cfg) (.fn (.func 114) a b) args H=Dr (a++args++b) H:=by kernel_rfl
theorem Zfb (a b args:List AV)(H:Hp):XA cfg (Zb cfg) (.fn (.func 115) a b) args H=Zh Ds (a++args++b) H:=by kernel_rfl
theorem Zjl (a b args:List AV)(H:Hp):XA cfg (Zb cfg) (.fn (.func 117) a b) args H=Zh PU (a++args++b) H:=by kernel_rfl
theorem Zfc (a b args:List AV)(H:Hp):XA cfg (Zb cfg) (.fn (.func 118) a b) args H=Zh Dt (a++args++b) H:=by kernel_rfl
theorem ZjX:∀ f∈userList,Oa Tryz.prog f:=
 Z2 Tryz.call3 (
 Z2 Tryz.call4 (
 Z2 Tryz.call5 (
 Z2 Tryz.call6 (
 Z2 Tryz.call7 (
 Z2 Tryz.call8 (
 Z2 Tryz.call9 (
 Z2 Tryz.call10 (
 Z2 Tryz.call11 (
 Z2 Tryz.call12 (
 Z2 Tryz.call13 (
 Z2 Tryz.call14 (
 Z2 Tryz.call15 (
 Z2 Tryz.call16 (
 Z2 Tryz.call17 (
 Z2 Tryz.call18 (
 Z2 Tryz.call19 (
 Z2 Tryz.call20 (
 Z2 Tryz.call21 (
 Z2 Tryz.call22 (
 Z2 Tryz.call23 (
 Z2 Tryz.call24 (
 Z2 Tryz.call25 (
 Z2 Tryz.call26 (
 Z2 Tryz.call27 (
 Z2 Tryz.call28 (
 Z2 Tryz.call29 (
 Z2 Tryz.call30 (
 Z2 Tryz.call31 (
 Z2 Tryz.call32 (
 Z2 Tryz.call33 (
 Z2 Tryz.call34 (
 Z2 Tryz.call35 (
 Z2 Tryz.call36 (
 Z2 Tryz.call37 (
 Z2 Tryz.call38 (
 Z2 Tryz.call39 (
 Z2 Tryz.call40 (
 Z2 Tryz.call41 (
 Z2 Tryz.call42 (
 Z2 Tryz.call43 (
 Z2 Tryz.call44 (
 Z2 Tryz.call45 (
 Z2 Tryz.call46 (
 Z2 Tryz.call47 (
 Z2 Tryz.call48 (
 Z2 Tryz.call49 (
 Z2 Tryz.call50 (
 Z2 Tryz.call51 (
 Z2 Tryz.call52 (
 Z2 Tryz.call53 (
 Z2 Tryz.call54 (
 Z2 Tryz.call55 (
 Z2 Tryz.call56 (
 Z2 Tryz.call57 (
 Z2 Tryz.call58 (
 Z2 Tryz.call59 (
 Z2 Tryz.call60 (
 Z2 Tryz.call61 (
 Z2 Tryz.call62 (
 Z2 Tryz.call63 (
 Z2 Tryz.call64 (
 Z2 Tryz.call65 (
 Z2 Tryz.call66 (
 Z2 Tryz.call67 (
 Z2 Tryz.call68 (
 Z2 Tryz.call69 (
 Z2 Tryz.call70 (
 Z2 Tryz.call71 (
 Z2 Tryz.call72 (
 Z2 Tryz.call73 (
 Z2 Tryz.call74 (
 Z2 Tryz.call75 (
 Z2 Tryz.call76 (
 Z2 Tryz.call77 (
 Z2 Tryz.call78 (
 Z2 Tryz.call79 (
 Z2 Tryz.call80 (
 Z2 Tryz.call81 (
 Z2 Tryz.call82 (
 Z2 Tryz.call83 (
 Z2 Tryz.call84 (
 Z2 Tryz.call85 (
 Z2 Tryz.call86 (
 Z2 Tryz.call87 (
 Z2 Tryz.call88 (
 Z2 Tryz.call89 (
 Z2 Tryz.call90 (
 Z2 Tryz.call91 (
 Z2 Tryz.call92 (
 Z2 Tryz.call93 (
 Z2 Tryz.call94 (
 Z2 Tryz.call95 (
 Z2 Tryz.call96 (
 Z2 Tryz.call97 (
 Z2 Tryz.call98 (
 Z2 Tryz.call99 (
 Z2 Tryz.call100 (
 Z2 Tryz.call101 (
 Z2 Tryz.call102 (
 Z2 Tryz.call103 (
 Z2 Tryz.call104 (
 Z2 Tryz.call105 (
 Z2 Tryz.call106 (
 Z2 Tryz.call107 (
 Z2 Tryz.call108 (
 Z2 Tryz.call109 (
 Z2 Tryz.call110 (
 Z2 Tryz.call111 (
 Z2 Tryz.call112 (
 Z2 Tryz.call113 (
 Z2 Tryz.call114 (
 Z2 Tryz.call115 (
 Z2 Tryz.call116 (
 Z2 Tryz.call117 (
 Z2 Tryz.call118 (
 Z2 Tryz.call119 (
 Z2 Tryz.call120 (
 Z2 Tryz.call121 (
 Z2 Tryz.call122 (
 Z2 Tryz.call123 (
 Z2 Tryz.call124 (
 Z2 Tryz.call125 (
 Z2 Tryz.call126 (
 Z2 Tryz.call127 (
 Z2 Tryz.call128 (
 Z2 Tryz.call129 (
 Z2 Tryz.call130 (
 Z2 Tryz.call131 (
 Z2 Tryz.call132 (
 Z2 Tryz.call133 (
 Z2 Tryz.call134 (
 Z2 Tryz.call135 (
 Z2 Tryz.call136 (
 Z2 Tryz.call137 (
 Z2 Tryz.call138 (
 Z2 Tryz.call139 (
 Z2 Tryz.call140 (
 Z2 Tryz.call141 (
 Z2 Tryz.call142 (
 Z2 Tryz.call143 (
 Z2 Tryz.call144 (
 Z2 Tryz.call145 (
 Z2 Tryz.call146 (
 Z2 Tryz.call147 (
 Z2 Tryz.call148 (
 Z2 Tryz.call149 (
 Z2 Tryz.call150 (
 Z2 Tryz.call151 (
 Z2 Tryz.call152 (
 Z2 Tryz.call153 (
 Z2 Tryz.call154 (
 Z2 Tryz.call155 (
 Z2 Tryz.call156 (
 Z2 Tryz.call157 (
 Z2 Tryz.call158 (
 Z2 Tryz.call159 (
 Z2 Tryz.call160 (
 Z2 Tryz.call161 (
 Z2 Tryz.call162 (
 Z2 Tryz.call163 (
 Z2 Tryz.call164 (
 Z2 Tryz.call165 (
 Z2 Tryz.call166 (
 Z2 Tryz.call167 (
 Z2 Tryz.call168 (
 Z2 Tryz.call169 (
 Z2 Tryz.call170 (
 Z2 Tryz.call171 (
 Z2 Tryz.call172 (
 Z2 Tryz.call173 (
 Z2 Tryz.call174 (
 Z2 Tryz.call175 (
 Z2 Tryz.call176 (
 Z2 Tryz.call178 (
 Z2 Tryz.call179 (
 Z2 Tryz.call180 (
 Z2 Tryz.call181 (
 Z2 Tryz.call182 (
 Z2 Tryz.call183 (
 Z2 Tryz.call184 (
 Z2 Tryz.call185 (
 Z2 Tryz.call186 (
 Z2 Tryz.call187 (
 Z2 Tryz.call188 (
 Z2 Tryz.call189 (
 Z2 Tryz.call190 (
 Z2 Tryz.call191 (
 Z2 Tryz.call192 (
 Z2 Tryz.call193 (
 Z2 Tryz.call194 (
 Z2 Tryz.call195 (
 Z2 Tryz.call196 (
 Z2 Tryz.call197 (
 Z2 Tryz.call198 (
 Z2 Tryz.call199 (
 Z2 Tryz.call202 (
 Z2 Tryz.call203 (
 Z2 Tryz.call204 (
 Z2 Tryz.call205 (
 Z2 Tryz.call206 (
 Z2 Tryz.call207 (
 Z2 Tryz.call208 (
 Z2 Tryz.call209 (
 Z2 Tryz.call210 (
 Z2 Tryz.call211 (
 Z2 Tryz.call213 (
 Z2 Tryz.call214 (
 Z2 Tryz.call215 (
 Z2 Tryz.call216 (
 Z2 Tryz.call217 (
 Z2 Tryz.call218 (
 Z2 Tryz.call219 (
 Z2 Tryz.call220 (
 Z2 Tryz.call221 (
 Z2 Tryz.call222 (
 Z2 Tryz.call223 (
 Z2 Tryz.call224 (
 Z2 Tryz.call225 (
 Z2 Tryz.call226 (
 Z2 Tryz.call227 (
 Z2 Tryz.call228 (
 Z2 Tryz.call229 (ZiX)))))))))))))))))))))))))))))))))))))))))))))))))))))))))))))))))))))))))))))))))))))))))))))))))))))))))))))))))))))))))))))))))))))))))))))))))))))))))))))))))))))))))))))))))))))))))))))))))))))))))))))))))))))))))))))))
theorem Zqc:∀ t∈eqList,Tryz.prog.stoodInHeld t=false/\Tryz.prog.eqGuardType Tryz.prog.depth t=false:=by
 intro t g;simp only[eqList,zB,zA,or_false]at g
theorem ZdN (args:Array Value)(w:World):(callFunc 177 args).run Tryz.prog w=(do pure (.value (<-DG .cmp args)):Sem Next).run Tryz.prog w:=by kernel_rfl
theorem ZdO (args:Array Value)(w:World):(callFunc 200 args).run Tryz.prog w=(do pure (.value (<-DG .same args)):Sem Next).run Tryz.prog w:=by kernel_rfl
theorem ZdP (args:Array Value)(w:World):(callFunc 201 args).run Tryz.prog w=(do pure (.value (<-DG .indexByte args)):Sem Next).run Tryz.prog w:=by kernel_rfl
theorem Zmu:∀ f e,cfg.ext f=some e->∀ (args:Array Value) (w:World),(callFunc f args).run Tryz.prog w=(do pure (.value (<-DG e args)):Sem Next).run Tryz.prog w:=by
 intro f e h;have g:=TJ (l:=extList) h;simp only[extList,zB,zD,zA,or_false]at g;rcases g with ⟨rfl,rfl⟩|⟨rfl,rfl⟩|⟨rfl,rfl⟩
 ·exact ZdN
 ·exact ZdO
 ·exact ZdP
theorem Znv:∀ f g,cfg.sum f=some g->cfg.user f=true/\ZhH cfg f g:=by
 intro f g h;have j:=TJ (l:=sumList) h;simp only[sumList,zB,zD,zA,or_false]at j;rcases j with ⟨rfl,rfl⟩|⟨rfl,rfl⟩
 ·exact⟨by kernel_rfl,ZwI (C:=cfg) rfl (fun _=>rfl)⟩
 ·exact⟨by kernel_rfl,ZvQ (C:=cfg) rfl (fun _=>rfl)⟩
theorem Zmm:∀ f g,cfg.eff f=some g->cfg.user f=true/\FH cfg f g:=by
 intro f g h;have j:=TJ (l:=effList) h;simp only[effList,zB,zD,zA,or_false]at j;rcases j with ⟨rfl,rfl⟩|⟨rfl,rfl⟩|⟨rfl,rfl⟩|⟨rfl,rfl⟩|⟨rfl,rfl⟩|⟨rfl,rfl⟩
 ·exact⟨by kernel_rfl,Ztr (C:=cfg) rfl (fun _=>rfl)⟩
 ·exact⟨by kernel_rfl,Zqw (C:=cfg) rfl (fun _=>rfl)⟩
 ·exact⟨by kernel_rfl,ZvE (C:=cfg) rfl (fun _=>rfl)⟩
 ·exact⟨by kernel_rfl,ZuQ (C:=cfg) rfl (fun _=>rfl)⟩
 ·exact⟨by kernel_rfl,Zrq (C:=cfg) rfl (fun _=>rfl)⟩
 ·exact⟨by kernel_rfl,ZwE (C:=cfg) rfl (fun _=>rfl)⟩
theorem cfg_ok:Um cfg:=
 ⟨fun t h=>Zqc t (zC.1 h),fun f h=>ZjX f (zC.1 h),by kernel_rfl,Zmu,Znv,Zmm⟩
end
end Go.Am
