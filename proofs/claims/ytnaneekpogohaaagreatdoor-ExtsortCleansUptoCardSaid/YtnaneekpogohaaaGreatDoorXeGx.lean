/- The functions of the translation over the abstract machine -/
import Derived.Test.YtnaneekpogohaaaGreatDoorProg
import Derived.Test.YtnaneekpogohaaaGreatDoorXeFex
open Go.Am.AV renaming int->zE
open Go.IntKind renaming i64->J
open List renaming not_mem_nil->zA,mem_cons->zB,contains_iff_mem->zC
open Prod.mk renaming injEq->zD
namespace Go.Am
open Go.Proofs
set_option maxRecDepth 100000
noncomputable section
variable (p0 p1 p2 x0 x1 x2 x3 x4 x6 x7 x8 x9 x10 x11 x33 x34 x35 x36:AV)(H0 H:Hp)
abbrev ah:List Nat:=[3,5,7,8,10]
abbrev ai:List Nat:=[3,5,7,10,11]
abbrev aj:List Nat:=[3,7,9,10,12,13,15,16,17,18,20,21]
abbrev ak:AV:=.tuple []
def ZfI:List (Nat×List (Nat×List Nat)):=[(7,[(3,[1,2,3]),(7,[1,3,8,10]),(9,[1,3,8])]),
 (12,[(4,[2,4]),(6,[2]),(8,[2]),(9,[2,8]),(10,[2,8]),(11,[2,8]),(13,[])]),
 (14,[(4,[0,1,2,3,4]),(5,[0,1,2,3,4]),(6,[0,1,2,3,4]),(9,[0,1,2,3,4,5,6]),(11,[0,1,2,3,4,5,6]),(14,[0,1,2,3])]),
 (16,[(11,[0,1]),(13,[0,1])]),
 (17,[(4,[0,2,7]),(6,[0,2,7])]),
 (18,[(4,[6])]),
 (20,[(4,[0,4,6,7,8,11,12]),(7,[4,6,7,8,11,12,14]),(13,[8,11,12,14,15,16,35]),(14,[8,11,12,14,15,16,35]),(17,[11,12,14,15,16,35]),(20,[10,11,12,14,15,16,35]),(24,[10,11,12,16,35]),(900002,[10,11,12,35])]),
 (23,[(4,[2,3,10]),(6,[2,3,10])]),
 (25,[(3,[2,3,4]),(6,[7]),(1000003,[3,4])]),
 (26,[(3,[0]),(5,[0,3,10,11,12]),(6,[0,3,10,11,12,13]),(9,[0,3,10,11,12]),(10,[3])]),
 (27,[(5,[1,5,6,7,8,15,16,17]),(6,[1,5,6,7,8,15,16,17,18]),(11,[1,5,6,7,8,11,15,16,17]),(12,[1,5,6,7,8,15,16,17]),(13,[5,6,7]),(16,[6])]),
 (30,[(2,[0,3]),(3,[0,3]),(4,[0,3]),(6,[0])]),
 (32,[(4,[1])]),
 (34,[(3,[0,1]),(4,[0,1,5]),(5,[0,1,5]),(6,[0,1,5]),(8,[])]),
 (35,[(3,[0,3,4,5]),(5,[3,4,5,6,14,15,16]),(6,[3,4,5,6,14,15,16,17]),(9,[3,4,5,6,7,8,14,15,16]),(12,[3,4,5,6,9,14,15,16]),(13,[3,4,5,6,14,15,16]),(14,[3,4,5]),(15,[3,4,5,10]),(16,[3,4,5,10]),(17,[3,4,5,10]),(18,[4,5])]),
 (37,[(3,[1]),(5,[1]),(6,[1,3]),(7,[1,3]),(8,[1,3]),(10,[])]),
 (39,[(6,[0])]),
 (40,[(2,[0,7,8]),(3,[0,7,8,9]),(8,[0,7,8]),(9,[0])]),
 (41,[(3,[0,1]),(5,[0,1]),(8,[6])]),
 (42,[(3,[3,5,6]),(6,[3,6]),(8,[3]),(10,[3]),(11,[25,26,27]),(12,[25,26,27,28]),(15,[25,26,27]),(16,[])]),
 (43,[(3,[0,1,2]),(5,[0,1,2]),(6,[0,1,2,18,19,20]),(7,[0,1,2,18,19,20,21]),(11,[0,1,2,18,19,20]),(12,[0,1,2])]),
 (45,[(3,[0]),(5,[0]),(6,[0]),(10,[0,3]),(11,[0])]),
 (46,[(2,[0,13,14,15]),(3,[0,13,14,15,16]),(7,[0,8,9,13,14,15]),(11,[0,13,14,15]),(12,[])]),
 (47,[(3,[0,5,19,20,21]),(4,[0,5,19,20,21,22]),(7,[0,5,8,19,20,21,25,26,27]),(8,[0,5,8,19,20,21,25,26,27,28]),(10,[0,5,8,19,20,21,25,26,27]),(11,[0,5,8,19,20,21]),(14,[0,5,11,19,20,21]),(15,[0,5,19,20,21]),(16,[0,5])]),
 (48,[(3,[0,4,15,16,17]),(4,[0,4,15,16,17,18]),(6,[0,4,15,16,17]),(7,[0,4]),(9,[7,8]),(12,[7,8,9,10]),(14,[7,8,9])]),
 (50,[(4,[0,1,5]),(6,[5,6,21,22,23]),(7,[5,6,21,22,23,24]),(11,[5,6,21,22,23]),(12,[5])]),
 (51,[(4,[6])]),
 (52,[(3,[1]),(5,[1]),(6,[33,34,35]),(7,[33,34,35,36]),(10,[33,34,35]),(11,[])]),
 (53,[(3,[0])]),
 (54,[(3,[0,1]),(6,[1,6,7,8]),(7,[1,6,7,8]),(12,[6,7,8])]),
 (56,[(5,[2,3,4,5]),(8,[9])]),
 (57,[(3,[1,5,8,9,10]),(4,[1,5,8,9,10,11]),(7,[1,5,8,9,10]),(8,[5])]),
 (59,[(4,[2,3,4,5]),(5,[2,3,4,5,26,27,28]),(6,[2,3,4,5,26,27,28,29]),(10,[2,3,4,5,10,11,26,27,28]),(13,[2,3,4,5,26,27,28]),(14,[]),(1000010,[4,5,10])]),
 (71,[(3,[1])]),
 (72,[(2,[0,7,8]),(3,[0,7,8,9]),(8,[0,7,8]),(9,[0])]),
 (74,[(3,[0,3,5,6]),(6,[0,3,5,6,10]),(9,[0,10]),(12,[10])]),
 (76,[(3,[3,6,7,8]),(4,[3,6,7,8,9]),(6,[3,6,7,8]),(7,[3])]),
 (77,[(4,[1,5,12,13]),(5,[1,5,12,13,14]),(8,[1,5,6,12,13]),(10,[1,5,12,13]),(11,[5])]),
 (78,[(3,[0,1]),(6,[0,1,6]),(9,[0,6,48,49,50]),(10,[0,6,48,49,50,51]),(14,[0,6,48,49,50]),(15,[0,6,48,49,50]),(16,[6])]),
 (79,[(3,[0,1])]),
 (80,[(1000002,[4])]),
 (81,[(3,[0]),(6,[0,5]),(7,[0,5])]),
 (84,[(2,[0,5,6]),(3,[0,5,6,7]),(6,[0,5,6]),(7,[0])]),
 (86,[(3,[1,2])]),
 (87,[(5,[1,2,8,9,24,25]),(6,[1,2,8,9,24,25,26]),(9,[1,2,8,9,10,24,25]),(11,[1,2,8,9,24,25]),(12,[1,2,8,9]),(14,[1,2,8,9]),(16,[1,2]),(1000002,[3])]),
 (88,[(4,[4,5,6,7,9]),(8,[4,5,6,7,9]),(1000011,[4])]),
 (89,[(4,[0,2,4,7,8]),(12,[0,7,10]),(14,[0,7,10])]),
 (97,[(3,[0]),(5,[0]),(9,[0,4])]),
 (98,[(4,[0,1,2]),(6,[0,1,2]),(9,[0,1,8]),(11,[0,1,8])]),
 (99,[(4,[0,1]),(7,[0,1])]),
 (100,[(3,[0])]),
 (101,[(3,[0,3,5,6]),(6,[0,3,5,6,10]),(8,[0,5,6,10,12,31,32,33]),(9,[0,5,6,10,12,31,32,33,34]),(11,[0,5,6,10,12,31,32,33]),(12,[0,5,6,10,12]),(13,[0,10,15]),(16,[0,10,15,16,17]),(17,[0,10,15,16]),(20,[0,10]),(23,[10])]),
 (102,[(4,[0,1]),(7,[0,1])]),
 (104,[(5,[1,5,6,7,20,21,22]),(6,[1,5,6,7,20,21,22,23]),(10,[1,5,6,7,8,10,11,20,21,22]),(12,[1,5,6,7,20,21,22]),(13,[1,5,7]),(15,[1,5]),(18,[13])]),
 (107,[(3,[1,2])]),
 (109,[(3,[1,2,3,6,16,17,18]),(4,[1,2,3,6,16,17,18,19]),(6,[1,2,3,6,16,17,18]),(7,[1,2,3,6]),(8,[1,2,3,6,9]),(9,[1,2,3,6,9]),(14,[1,2,3,6,9,10,11]),(15,[1,2,3,6,9,10])]),
 (112,[(2,[0,4]),(3,[0,4]),(4,[0,4]),(7,[0,4,5]),(14,[5,6,7,8,9]),(16,[5,7,8,9]),(19,[9,11])]),
 (113,[(5,[])]),
 (117,[(3,[0,3,7,8]),(4,[0,3,7,8,9]),(8,[0,3,7,8]),(9,[3])]),
 (120,[(3,[0,1,2,6,9]),(4,[0,1,2,6,9]),(7,[0,1,2,6,9,10]),(9,[0,1,2,6,9,10]),(10,[0,1,6]),(11,[0,1,6,11]),(12,[0,1,6,11]),(13,[0,1,6,11]),(14,[0,1,6,7,11]),(15,[0,1,6,7,11]),(16,[0,1,6,7,11]),(17,[0,1,6,7,11]),(18,[0,1,6,7,11]),(20,[0,1,7,11]),(21,[])]),
 (125,[(7,[])]),
 (126,[(3,[4,9,10,11]),(4,[4,9,10,11,12]),(8,[4,7,9,10,11]),(9,[4,9,10,11]),(10,[4])]),
 (127,[(3,[0,3,10,11,12]),(4,[0,3,10,11,12,13]),(7,[0,3,10,11,12]),(8,[3])]),
 (129,[(3,[0]),(11,[0]),(13,[0])]),
 (131,[(4,[5,6,7])]),
 (143,[(3,[1]),(5,[1]),(6,[1,27,28,29]),(7,[1,27,28,29,30]),(10,[1,27,28,29]),(11,[1]),(14,[1])]),
 (144,[(3,[0,1,5,6]),(4,[0,1,5,6,7]),(6,[0,1,5,6]),(7,[0,1])]),
 (146,[(2,[0,3]),(3,[0,3]),(4,[3])]),
 (147,[(3,[0,1,5,8,9]),(4,[0,1,5,8,9,10]),(8,[0,1,5,8,9]),(9,[1,5])]),
 (155,[(3,[0,5,10,11]),(4,[0,5,10,11,12]),(6,[0,5,10,11]),(7,[5])]),
 (164,[(3,[0])]),
 (166,[(4,[0,1,2]),(7,[2,10]),(9,[2,10]),(12,[2,12,13])]),
 (173,[(2,[0,7,8]),(3,[0,7,8,9]),(8,[0,7,8]),(9,[0])]),
 (174,[(3,[0]),(5,[3,10,11,12]),(6,[3,10,11,12,13]),(9,[3,5,10,11,12]),(11,[3,5,10,11,12]),(12,[3,10,11,12]),(13,[])]),
 (175,[(3,[0]),(5,[3,10,11,12]),(6,[3,10,11,12,13]),(9,[3,5,10,11,12]),(11,[3,5,10,11,12]),(12,[3,10,11,12]),(13,[])]),
 (176,[(3,[0,1,2,7,11,12]),(4,[0,1,2,7,11,12,13]),(8,[0,1,2,7,11,12]),(9,[7])]),
 (178,[(3,[0,3,5]),(4,[0,3,5,6]),(8,[0,3,5]),(9,[3])]),
 (184,[(3,[1,2])]),
 (194,[(2,[0,1,7,8]),(3,[0,1,7,8,9]),(6,[0,1,7,8]),(7,[])]),
 (196,[(3,[0,1]),(6,[1,7]),(9,[1,7,8]),(11,[1,7,8]),(13,[1,7,8])]),
 (202,[(3,[1]),(5,[1]),(6,[1,3]),(7,[1,3]),(8,[1,3]),(10,[1]),(12,[1]),(15,[1])]),
 (209,[(3,[0,3,6,7]),(4,[0,3,6,7,8]),(8,[0,3,6,7]),(9,[3])]),
 (213,[(3,[0]),(4,[0,3]),(5,[0,3]),(6,[0,3]),(9,[])]),
 (215,[(3,[0]),(4,[0,3]),(5,[0,3]),(6,[0,3]),(8,[0,3]),(9,[0,3,4]),(10,[0,3,4]),(11,[0,3,4]),(13,[])]),
 (216,[(3,[0]),(4,[0,3]),(5,[0,3]),(6,[0,3]),(8,[0,3]),(9,[0,3,4]),(10,[0,3,4]),(11,[0,3,4]),(13,[])]),
 (219,[(3,[0,1,5,6]),(4,[0,1,5,6]),(5,[0,1,5,6]),(6,[5])])]
def userList:List Nat:=[3,4,5,6,7,8,9,10,11,12,13,14,15,16,17,18,19,20,21,22,23,24,25,26,27,28,29,30,31,32,33,34,35,36,37,38,39,40,41,42,43,44,45,46,47,48,49,50,51,52,53,54,55,56,57,58,59,60,61,62,63,64,65,66,67,68,69,70,71,72,73,74,75,76,77,78,79,80,81,82,83,84,85,86,87,88,89,90,91,92,93,94,95,96,97,98,99,100,101,102,103,104,105,106,107,108,109,110,111,112,113,114,115,116,117,118,119,120,121,122,123,124,125,126,127,128,129,130,131,132,133,134,135,136,137,138,139,140,141,142,143,144,145,146,147,148,149,150,151,152,153,154,155,156,157,158,159,160,161,162,163,164,165,166,167,168,169,170,171,172,173,174,175,176,178,179,180,181,182,183,184,185,186,187,188,189,190,191,192,193,194,195,196,197,198,199,202,203,204,205,206,207,208,209,210,211,213,214,215,216,217,218,219,220,221,222,223,224,225,226,227,228,229]
def pureList:List Nat:=[28,94]
def flatList:List Nat:=[11,12,13,14,24,25,27,29,30,31,32,34,35,36,37,38,40,52,53,54,55,56,57,58,59,61,64,65,66,69,70,71,72,76,77,83,84,86,87,88,91,92,93,103,107,108,111,112,113,115,117,118,119,121,122,124,126,143,144,145,146,147,155,157,158,159,160,163,164,173,174,175,176,178,184,185,186,187,188,189,194,195,196,202,203,204,206,207,209,213,214,215,216,217,218,219]
def extList:List (Nat×ExtK):=[(177,.cmp),(200,.same),(201,.indexByte)]
def roList:List Nat:=[26,50,67,100,127]
def eqList:List Nat:=[]
noncomputable def sumList:List (Nat×(List AV->Option AV)):=[(116,ZdJ),(162,ZdG)]
noncomputable def effList:List (Nat×EffFn):=[(49,namesE),(73,forgetE),(90,ZvR),(153,byteE),(154,stringE),(165,textE)]
def bldList:List (Nat×Nat):=[(201,5)]
def wrbList:List Nat:=[79]
def qkList:List (Nat×List Nat):=[(11,[12]),(14,[15])]
def linList:List Nat:=[29,38]
def farList:List (Nat×Nat×Nat×Nat):=[(35,12,50,11)]
def dfrList:List Nat:=[20]
noncomputable def cfg:Cfg:={ P:=Tryz.prog,glob:=RI,sum:=fun f=>sumList.lookup f,user:=fun f=>userList.contains f,eqok:=fun t=>eqList.contains t,pure:=fun f=>pureList.contains f,flat:=fun f=>flatList.contains f,ext:=fun f=>extList.lookup f,keep:=Zo3 ZfI,eff:=fun f=>effList.lookup f,bld:=fun t=>bldList.lookup t,lin:=fun t=>linList.contains t,qk:=fun t a=>qkList.contains (t,a),wrb:=fun t=>wrbList.contains t,ro:=fun f=>roList.contains f,far:=some fun t a u b=>farList.contains (t,a,u,b),dfr:=fun f=>dfrList.contains f }
theorem Z9 {kp:Nat -> Option (List Nat)}{g:Code -> KL -> AL -> Hp -> Z4}{n:Nat}{c:Code}{k:KL}{j:AL}{H:Hp}{r:Z4}(cut:List Nat)(h:SF cfg (Za cfg) g kp n Zc Z6 (Yl cfg (Za cfg) g kp n Zc Z6) cut c k j H=r:=by kernel_rfl):Yl cfg (Za cfg) g kp n Zc Z6 c k j H=r:=(Zkt cut c k j H).trans h
theorem Be {f:FuncId}{fn:Func}{args:List AV}{H:Hp}{r:Z4}(n:Nat)(cut:List Nat)(u:cfg.P.funcs[f]?=some fn)(j:Rs cfg f fn=some (Z1 fn):=by kernel_rfl)(g:fn.ntmps=n:=by kernel_rfl)(w:Nat.ble args.length n=true:=by kernel_rfl)(h:SF cfg (Za cfg) (Y4 cfg (cfg.keep f) n) (cfg.keep f) n Zc Z6 (Yl cfg (Za cfg) (Y4 cfg (cfg.keep f) n) (cfg.keep f) n Zc Z6) cut (Z1 fn) (Zg cfg n f fn H) (ID 0 args) H=r:=by kernel_rfl):Za cfg f args H=r:=(Ze cut u j g args w H).trans h

def T9:=Za cfg 7
def Hb:=Za cfg 12
def UN:=Za cfg 14
def PG:=Za cfg 15
def Jn:=Za cfg 16
def Jm:=Za cfg 17
def Gd:=Za cfg 18
def Xp:=Za cfg 20
def Gc:=Za cfg 23
def QS:=Za cfg 25
def Xh:=Za cfg 26
def LC:=Za cfg 27
def Zbl:=Za cfg 30
def Ha:=Za cfg 31
def Ik:=Za cfg 34
def TP:=Za cfg 35
def PB:=Za cfg 37
def Hc:=Za cfg 38
def Ur:=Za cfg 39
def Fa:=Za cfg 40
def W9:=Za cfg 41
def FX:=Za cfg 42
def Wn:=Za cfg 43
def Lw:=Za cfg 44
def V7:=Za cfg 45
def V5:=Za cfg 46
def W7:=Za cfg 47
def XM:=Za cfg 48
def KJ:=Za cfg 50
def Wm:=Za cfg 51
def Wl:=Za cfg 52
def Yk:=Za cfg 53
def YN:=Za cfg 54
def Ly:=Za cfg 55
def UW:=Za cfg 56
def Ub:=Za cfg 57
def Lz:=Za cfg 58
def WB:=Za cfg 59
def KH:=Za cfg 69
def PC:=Za cfg 71
def Uc:=Za cfg 72
def Gb:=Za cfg 74
def W8:=Za cfg 75
def TQ:=Za cfg 76
def LA:=Za cfg 77
def V4:=Za cfg 78
def PF:=Za cfg 79
def PE:=Za cfg 80
def XK:=Za cfg 81
def Qz:=Za cfg 83
def Ky:=Za cfg 84
def Ge:=Za cfg 85
def Vo:=Za cfg 86
def Ua:=Za cfg 87
def UX:=Za cfg 88
def Qy:=Za cfg 89
def VL:=Za cfg 97
def V8:=Za cfg 98
def Vq:=Za cfg 99
def QU:=Za cfg 100
def UO:=Za cfg 101
def WJ:=Za cfg 102
def GF:=Za cfg 103
def Uq:=Za cfg 104
def U5:=Za cfg 107
def UU:=Za cfg 108
def Nz:=Za cfg 109
def Jl:=Za cfg 110
def BQ:=Za cfg 111
def Jj:=Za cfg 112
def TW:=Za cfg 113
def BN:=Za cfg 114
def BO:=Za cfg 115
def TU:=Za cfg 117
def BP:=Za cfg 118
def TT:=Za cfg 119
def KI:=Za cfg 120
def LB:=Za cfg 124
def Xd:=Za cfg 125
def TR:=Za cfg 126
def XN:=Za cfg 127
def QT:=Za cfg 128
def Vg:=Za cfg 129
def WY:=Za cfg 130
def UV:=Za cfg 131
def GE:=Za cfg 143
def F9:=Za cfg 144
def W4:=Za cfg 145
def Jk:=Za cfg 146
def FW:=Za cfg 147
def Vn:=Za cfg 152
def FY:=Za cfg 155
def Kx:=Za cfg 156
def YP:=Za cfg 163
def TS:=Za cfg 164
def Vp:=Za cfg 166
def K4:=Za cfg 173
def Vm:=Za cfg 174
def V6:=Za cfg 175
def WX:=Za cfg 176
def Ga:=Za cfg 178
def U9:=Za cfg 183
def De:=Za cfg 184
def Wk:=Za cfg 194
def PD:=Za cfg 195
def Lx:=Za cfg 196
def PA:=Za cfg 202
def Zel:=Za cfg 207
def Hd:=Za cfg 209
def G9:=Za cfg 213
def Dd:=Za cfg 214
def UT:=Za cfg 215
def Up:=Za cfg 216
def Lv:=Za cfg 219
def Kp:=Za cfg 32
noncomputable abbrev a6 (f n:Nat):=Yl cfg (Za cfg) (Y4 cfg (cfg.keep f) n) (cfg.keep f) n Zc Z6
noncomputable abbrev a8 (f n:Nat)(F:Func)(p:List Nat)(G:Hp):=fun k K=>a6 f n (sub (Z1 F) p) (Zg cfg n f F G) k K
def ZbT:Z4:=a8 37 45 Tryz.f37 [1,1,1,1] H0 [] H
def Ri:KL:=Zc (fun k g H=>a6 37 45 (sub (Z1 Tryz.f37) [1,1,1,1]) k (Y3 (cfg.keep 37) (sub (Z1 Tryz.f37) [1,1,1,1]) g) H) (Zg cfg 45 37 Tryz.f37 H0)
theorem Ze5:ZR 45 (Ri H0):=Zw (C:=cfg) (kp:=cfg.keep 37) (sub (Z1 Tryz.f37) [1,1,1,1]) (ZB 37 Tryz.f37 H0)
def ZbV:Z4:=a6 37 45 (sub (Z1 Tryz.f37) [1,1,1,0,1,0,0,1,1]) (Zc (fun k g H=>Y4 cfg (cfg.keep 37) 45 (sub (Z1 Tryz.f37) [1,1,1,0,1,0,0]) k (Y3 (cfg.keep 37) (sub (Z1 Tryz.f37) [1,1,1,0,1,0,0]) g) H) (Z6 0 (Ri H0))) [(1,x1),(3,x3)] H
def ZbU:Z4:=a6 37 45 (sub (Z1 Tryz.f37) [1,1,1,0,1,0,0,1]) (Zc (fun k g H=>Y4 cfg (cfg.keep 37) 45 (sub (Z1 Tryz.f37) [1,1,1,0,1,0,0]) k (Y3 (cfg.keep 37) (sub (Z1 Tryz.f37) [1,1,1,0,1,0,0]) g) H) (Z6 0 (Ri H0))) [(1,x1),(3,x3)] H
def Rj:Z4:=Y4 cfg (cfg.keep 37) 45 (sub (Z1 Tryz.f37) [1,1,1,0,1,0,0]) (Z6 0 (Ri H0)) [(1,x1),(3,x3)] H
def ZbS:Z4:=a8 37 45 Tryz.f37 [1,1,1] H0 [(1,x1)] H
def ZbR:Z4:=a8 37 45 Tryz.f37 [1,1] H0 [(1,x1)] H
def Zer:Z4:=
 Z0 (ZN p0 H) fun g=>
 Z0 (Z7 0 g.1) fun t4=>
 Z0 (Z3 false 1 t4 g.2) fun t5=>
 Z0 (Zk (.slice 119) t5) fun h=>
 Z0 (Z5 .gtr h (zE J 8)) fun j=>
 Zj j
  (some ((zE J 3),g.2))
  (ZbR g.1 H g.2)
theorem Zgs:ZbT H0 H =
 some ((zE J 0),H):=Z9 ah
theorem Zgu:ZbV x1 x3 H0 H =
 Z0 (Z5 .add x3 (zE J 1)) fun t37=>
 Rj x1 t37 H0 H:=Z9 ah
theorem Zgt:ZbU x1 x3 H0 H =
 Z0 (Z7 0 x1) fun h=>
 Z0 (Z3 false 1 h H) fun j=>
 Z0 (Zo 5 j x3) fun u=>
 Z0 (Z3 true 5 u H) fun w=>
 Z0 (Zf PC [w] H) fun g=>
 Z0 (Xv .not g.1) fun y=>
 Zj y
  (some ((zE J 2),g.2))
  (ZbV x1 x3 H0 g.2):=Z9 ah
theorem SV:Rj x1 x3 H0 H =
 Z0 (Z7 0 x1) fun g=>
 Z0 (Z3 false 1 g H) fun h=>
 Z0 (Zk (.slice 119) h) fun j=>
 Z0 (Z5 .lss x3 j) fun u=>
 Zj u
  (ZbU x1 x3 H0 H)
  (ZbT H0 H):=(ZC (C:=cfg) [3,5,7,8,10] (Zn 0 (Ze5 H0)) _ _).trans (by kernel_rfl)
theorem Zgr:ZbS x1 H0 H =
 Rj x1 (zE J 0) H0 H:=Z9 ah
theorem Zgq:ZbR x1 H0 H =
 Z0 (Z7 1 x1) fun O=>
 Z0 (Z3 false 1 O H) fun t9=>
 Z0 (Z5 .lss t9 (zE J (-1))) fun g=>
 Z0 (Z8 g false ak (Z7 1 x1)) fun w=>
 Z0 (Z8 g false ak (Z3 false 1 w H)) fun y=>
 Z0 (Z8 g false ak (Z5 .gtr y (zE J 255))) fun z=>
 Z0 (Zi g (.bool true) z) fun h=>
 Z0 (Z8 h false ak (Z7 1 x1)) fun A=>
 Z0 (Z8 h false ak (Z3 false 1 A H)) fun B=>
 Z0 (Z8 h false ak (Z5 .eql B (zE J 10))) fun C=>
 Z0 (Zi h (.bool true) C) fun j=>
 Z0 (Z8 j false ak (Z7 2 x1)) fun D=>
 Z0 (Z8 j false ak (Z3 false 1 D H)) fun E=>
 Z0 (Z8 j false ak (Z5 .lss E (zE J 0))) fun F=>
 Z0 (Zi j (.bool true) F) fun u=>
 Z0 (Z8 u false ak (Z7 2 x1)) fun K=>
 Z0 (Z8 u false ak (Z3 false 1 K H)) fun L=>
 Z0 (Z8 u false ak (Z5 .gtr L (zE J 31))) fun M=>
 Z0 (Zi u (.bool true) M) fun N=>
 Zj N
  (some ((zE J 2),H))
  (ZbS x1 H0 H):=Z9 ah
theorem Zi5:PB [p0] H=Zer p0 H:=Be 45 [3,5,7,8,10] Tryz.func37
def EJ:Z4:=a8 52 78 Tryz.f52 [1,1,1,1] H0 [] H
def JQ:KL:=Zc (fun k g H=>a6 52 78 (sub (Z1 Tryz.f52) [1,1,1,1]) k (Y3 (cfg.keep 52) (sub (Z1 Tryz.f52) [1,1,1,1]) g) H) (Zg cfg 78 52 Tryz.f52 H0)
theorem I5:ZR 78 (JQ H0):=Zw (C:=cfg) (kp:=cfg.keep 52) (sub (Z1 Tryz.f52) [1,1,1,1]) (ZB 52 Tryz.f52 H0)
def Fl:Z4:=a6 52 78 (sub (Z1 Tryz.f52) [1,1,1,0,1,0,0,1,1,1]) (Zc (fun k g H=>Y4 cfg (cfg.keep 52) 78 (sub (Z1 Tryz.f52) [1,1,1,0,1,0,0]) k (Y3 (cfg.keep 52) (sub (Z1 Tryz.f52) [1,1,1,0,1,0,0]) g) H) (Z6 0 (JQ H0))) [(33,x33),(34,x34),(35,x35)] H
def Fk:Z4:=a6 52 78 (sub (Z1 Tryz.f52) [1,1,1,0,1,0,0,1,1]) (Zc (fun k g H=>Y4 cfg (cfg.keep 52) 78 (sub (Z1 Tryz.f52) [1,1,1,0,1,0,0]) k (Y3 (cfg.keep 52) (sub (Z1 Tryz.f52) [1,1,1,0,1,0,0]) g) H) (Z6 0 (JQ H0))) [(33,x33),(34,x34),(35,x35),(36,x36)] H
def JR:Z4:=Y4 cfg (cfg.keep 52) 78 (sub (Z1 Tryz.f52) [1,1,1,0,1,0,0]) (Z6 0 (JQ H0)) [(33,x33),(34,x34),(35,x35)] H
def EH:Z4:=a8 52 78 Tryz.f52 [1,1,1] H0 [(1,x1)] H
def EG:Z4:=a8 52 78 Tryz.f52 [1,1] H0 [(1,x1)] H
def SK:Z4:=
 Z0 (ZN p0 H) fun g=>
 Z0 (Z7 0 g.1) fun t5=>
 Z0 (Z3 false 1 t5 g.2) fun h=>
 Z0 (Zk (.slice 119) h) fun j=>
 Z0 (Z5 .gtr j (zE J 8)) fun u=>
 Zj u
  (some ((zE J 3),g.2))
  (EG g.1 H g.2)
theorem ZaX:EJ H0 H =
 some ((zE J 0),H):=Z9 ai
theorem ZaZ:Fl x33 x34 x35 H0 H =
 Z0 (Z5 .add x35 (zE J 1)) fun g=>
 JR x33 x34 g H0 H:=Z9 ai
theorem ZaY:Fk x33 x34 x35 x36 H0 H =
 Z0 (Zo 5 x33 x35) fun t37=>
 Z0 (Z3 true 5 t37 H) fun C=>
 Z0 (some ((.ptr H.length 0),H++[.cells [(zE J 0),(zE J 0),(zE J 0),(zE J 0),(zE J 0)]])) fun j=>
 Z0 (Zb 5 j.1 C j.2) fun g=>
 Z0 (Z7 0 j.1) fun D=>
 Z0 (Z3 false 1 D g.2) fun E=>
 Z0 (Z5 .lss E (zE J 1)) fun u=>
 Z0 (Z8 u false ak (Z7 1 j.1)) fun F=>
 Z0 (Z8 u false ak (Z3 false 1 F g.2)) fun K=>
 Z0 (Z8 u false ak (Z5 .lss K (zE J 1))) fun L=>
 Z0 (Zi u (.bool true) L) fun w=>
 Z0 (Z8 w false ak (Z7 2 j.1)) fun M=>
 Z0 (Z8 w false ak (Z3 false 1 M g.2)) fun N=>
 Z0 (Z8 w false ak (Z5 .lss N (zE J 0))) fun O=>
 Z0 (Zi w (.bool true) O) fun y=>
 Z0 (Z8 y false ak (Z7 3 j.1)) fun Q=>
 Z0 (Z8 y false ak (Z3 false 1 Q g.2)) fun R=>
 Z0 (Z8 y false ak (Z5 .lss R (zE J 0))) fun S=>
 Z0 (Zi y (.bool true) S) fun h=>
 Z0 (Z8 h false ak (Z7 2 j.1)) fun T=>
 Z0 (Z8 h false ak (Z3 false 1 T g.2)) fun U=>
 Z0 (Z8 h false ak (Z5 .eql U (zE J 0))) fun V=>
 Z0 (Z8 h false ak (some V)) fun z=>
 Z0 (Z8 z true ak (Z7 3 j.1)) fun W=>
 Z0 (Z8 z true ak (Z3 false 1 W g.2)) fun X=>
 Z0 (Z8 z true ak (Z5 .neq X (zE J 0))) fun Y=>
 Z0 (Z8 h false ak (Zi z Y (.bool false))) fun Z=>
 Z0 (Zi h (.bool true) Z) fun A=>
 Z0 (Z8 A false ak (Z7 4 j.1)) fun aa=>
 Z0 (Z8 A false ak (Z3 false 1 aa g.2)) fun ab=>
 Z0 (Z8 A false ak (Z5 .lss ab (zE J 0))) fun t70=>
 Z0 (Zi A (.bool true) t70) fun B=>
 Z0 (Z8 B false ak (Z7 4 j.1)) fun ac=>
 Z0 (Z8 B false ak (Z3 false 1 ac g.2)) fun ad=>
 Z0 (Z8 B false ak (Z5 .gtr ad (zE J 31))) fun ae=>
 Z0 (Zi B (.bool true) ae) fun af=>
 Zj af
  (some ((zE J 2),g.2))
  (Fl x33 x34 x35 H0 g.2):=Z9 ai
theorem Tz:JR x33 x34 x35 H0 H =
 Z0 (Z5 .lss x35 x34) fun g=>
 Zj g
  (Fk x33 x34 x35 g H0 H)
  (EJ H0 H):=(ZC (C:=cfg) [3,5,7,10,11] (Zn 0 (I5 H0)) _ _).trans (by kernel_rfl)
theorem ZaW:EH x1 H0 H =
 Z0 (Z7 0 x1) fun h=>
 Z0 (Z3 false 1 h H) fun g=>
 Z0 (Zk (.slice 119) g) fun j=>
 JR g j (zE J 0) H0 H:=Z9 ai
theorem ZaV:EG x1 H0 H =
 Z0 (Z7 1 x1) fun t9=>
 Z0 (Z3 false 1 t9 H) fun w=>
 Z0 (Z5 .lss w (zE J (-1))) fun g=>
 Z0 (Z8 g false ak (Z7 1 x1)) fun y=>
 Z0 (Z8 g false ak (Z3 false 1 y H)) fun z=>
 Z0 (Z8 g false ak (Z5 .gtr z (zE J 255))) fun A=>
 Z0 (Zi g (.bool true) A) fun h=>
 Z0 (Z8 h false ak (Z7 1 x1)) fun B=>
 Z0 (Z8 h false ak (Z3 false 1 B H)) fun C=>
 Z0 (Z8 h false ak (Z5 .eql C (zE J 10))) fun D=>
 Z0 (Zi h (.bool true) D) fun j=>
 Z0 (Z8 j false ak (Z7 2 x1)) fun E=>
 Z0 (Z8 j false ak (Z3 false 1 E H)) fun F=>
 Z0 (Z8 j false ak (Z5 .lss F (zE J 0))) fun K=>
 Z0 (Zi j (.bool true) K) fun u=>
 Z0 (Z8 u false ak (Z7 2 x1)) fun L=>
 Z0 (Z8 u false ak (Z3 false 1 L H)) fun M=>
 Z0 (Z8 u false ak (Z5 .gtr M (zE J 31))) fun N=>
 Z0 (Zi u (.bool true) N) fun O=>
 Zj O
  (some ((zE J 2),H))
  (EH x1 H0 H):=Z9 ai
theorem Zby:Wl [p0] H=SK p0 H:=Be 78 [3,5,7,10,11] Tryz.func52
def LX:Z4:=a8 71 39 Tryz.f71 [1,1] H0 [(1,x1)] H
def Zes:Z4:=
 Z0 (ZN p0 H) fun g=>
 Z0 (Z7 0 g.1) fun t3=>
 Z0 (Z3 false 1 t3 g.2) fun t4=>
 Z0 (Z5 .lss t4 (zE J 1)) fun t5=>
 Z0 (Z8 t5 false ak (Z7 1 g.1)) fun R=>
 Z0 (Z8 t5 false ak (Z3 false 1 R g.2)) fun S=>
 Z0 (Z8 t5 false ak (Z5 .lss S (zE J 1))) fun t9=>
 Z0 (Zi t5 (.bool true) t9) fun j=>
 Z0 (Z8 j false ak (Z7 2 g.1)) fun y=>
 Z0 (Z8 j false ak (Z3 false 1 y g.2)) fun z=>
 Z0 (Z8 j false ak (Z5 .lss z (zE J 0))) fun A=>
 Z0 (Zi j (.bool true) A) fun u=>
 Z0 (Z8 u false ak (Z7 3 g.1)) fun B=>
 Z0 (Z8 u false ak (Z3 false 1 B g.2)) fun C=>
 Z0 (Z8 u false ak (Z5 .lss C (zE J 0))) fun D=>
 Z0 (Zi u (.bool true) D) fun h=>
 Z0 (Z8 h false ak (Z7 2 g.1)) fun E=>
 Z0 (Z8 h false ak (Z3 false 1 E g.2)) fun F=>
 Z0 (Z8 h false ak (Z5 .eql F (zE J 0))) fun K=>
 Z0 (Z8 h false ak (some K)) fun w=>
 Z0 (Z8 w true ak (Z7 3 g.1)) fun L=>
 Z0 (Z8 w true ak (Z3 false 1 L g.2)) fun M=>
 Z0 (Z8 w true ak (Z5 .neq M (zE J 0))) fun N=>
 Z0 (Z8 h false ak (Zi w N (.bool false))) fun O=>
 Z0 (Zi h (.bool true) O) fun Q=>
 Zj Q
  (some ((.bool false),g.2))
  (LX g.1 H g.2)
theorem Zgv:LX x1 H0 H =
 Z0 (Z7 4 x1) fun h=>
 Z0 (Z3 false 1 h H) fun j=>
 Z0 (Z5 .geq j (zE J 0)) fun g=>
 Z0 (Z8 g true ak (Z7 4 x1)) fun u=>
 Z0 (Z8 g true ak (Z3 false 1 u H)) fun w=>
 Z0 (Z8 g true ak (Z5 .leq w (zE J 31))) fun t37=>
 Z0 (Zi g t37 (.bool false)) fun y=>
 some (y,H):=Z9 [3]
theorem Zi6:PC [p0] H=Zes p0 H:=Be 39 [3] Tryz.func71
def Nu:Z4:=a8 89 70 Tryz.f89 [1,1,1,1,1,1,1] H0 [(0,x0),(7,x7),(10,x10)] H
def We:Z4:=a8 89 70 Tryz.f89 [1,1,1,1,1,1] H0 [(0,x0),(7,x7),(10,x10)] H
def Nt:Z4:=a8 89 70 Tryz.f89 [1,1,1] H0 [(0,x0),(2,x2),(4,x4),(7,x7),(8,x8)] H
def Mb:Z4:=
 Z0 (ZN p1 H) fun h=>
 Z0 (Z7 0 h.1) fun j=>
 Z0 (Z3 false 1 j h.2) fun u=>
 Z0 (KN u (zE J 1)) fun w=>
 Z0 (KI [p0,w,p2] h.2) fun g=>
 Z0 (ZO g.1 0) fun y=>
 Z0 (ZO g.1 1) fun z=>
 Z0 (ZO g.1 2) fun A=>
 Z0 (Xv .not A) fun B=>
 Zj B
  (some ((.str []),g.2))
  (Nt p0 p2 h.1 y z H g.2)
theorem Ie:Nu x0 x7 x10 H0 H =
 Z0 (ZU x0 (some x7) (some x10) none) fun g=>
 some (g,H):=Z9 [4,12,14]
theorem Ic:We x0 x7 x10 H0 H =
 Z0 (Z5 .lss x10 x7) fun g=>
 Zj g
  (some ((.str []),H))
  (Nu x0 x7 x10 H0 H):=Z9 [4,12,14]
theorem Ib:Nt x0 x2 x4 x7 x8 H0 H =
 Z0 (Z7 1 x4) fun w=>
 Z0 (Z3 false 1 w H) fun y=>
 Z0 (KN y (zE J 1)) fun z=>
 Z0 (Z5 .sub z (zE J 1)) fun A=>
 Z0 (Z5 .sub x8 x7) fun B=>
 Z0 (UY A B) fun C=>
 Z0 (Z5 .add x7 C) fun h=>
 Z0 (Zk .string x0) fun t37=>
 Z0 (Z7 2 x4) fun D=>
 Z0 (Z3 false 1 D H) fun E=>
 Z0 (Z5 .gtr E (zE J 0)) fun F=>
 Zj F
  (Z0 (Z7 2 x4) fun K=>
  Z0 (Z3 false 1 K H) fun L=>
  Z0 (KI [x0,L,x2] H) fun g=>
  Z0 (ZO g.1 0) fun j=>
  Z0 (ZO g.1 1) fun u=>
  Z0 (ZO g.1 2) fun M=>
  Zj M
   (Z0 (Z7 3 x4) fun N=>
   Z0 (Z3 false 1 N g.2) fun O=>
   Z0 (Z5 .gtr O (zE J 0)) fun Q=>
   Zj Q
    (Z0 (Z7 3 x4) fun R=>
    Z0 (Z3 false 1 R g.2) fun S=>
    Z0 (Z5 .sub u j) fun T=>
    Z0 (UY S T) fun U=>
    Z0 (Z5 .add j U) fun V=>
    We x0 h V H0 g.2)
    (We x0 h u H0 g.2))
   (We x0 h t37 H0 g.2))
  (We x0 h t37 H0 H):=Z9 [4,12,14]
theorem Io:Qy [p0,p1,p2] H=Mb p0 p1 p2 H:=Be 70 [4,12,14] Tryz.func89
def Al:Z4:=
 Z0 (ZN p0 H) fun g=>
 Z0 (some ((.ptr g.2.length 0),g.2++[.cells [(.str []),.nils,(.str []),(.str []),.nils,.nils]])) fun z=>
 Z0 (Z7 1 g.1) fun t3=>
 Z0 (Z3 false 1 t3 z.2) fun t4=>
 Z0 (Y7 1 8 .nils t4 z.2) fun F=>
 Z0 (Z7 1 g.1) fun L=>
 Z0 (Zb 1 L F.1 F.2) fun y=>
 Z0 (Z7 4 g.1) fun M=>
 Z0 (Z3 false 1 M y.2) fun N=>
 Z0 (Y7 5 48 .nils N y.2) fun K=>
 Z0 (Z7 4 g.1) fun A=>
 Z0 (Zb 1 A K.1 K.2) fun h=>
 Z0 (Z7 5 g.1) fun B=>
 Z0 (Z3 false 1 B h.2) fun C=>
 Z0 (Y7 2 24 .nils C h.2) fun w=>
 Z0 (Z7 5 g.1) fun D=>
 Z0 (Zb 1 D w.1 w.2) fun j=>
 Z0 (Z3 true 6 g.1 j.2) fun E=>
 Z0 (Zb 6 z.1 E j.2) fun u=>
 Z0 (Z3 true 6 z.1 u.2) fun O=>
 some (O,u.2)
theorem ZdT:GF [p0] H=Al p0 H:=Be 16 [] Tryz.func103
def EL:Z4:=a8 120 83 Tryz.f120 [1,1,1] H0 [] H
def Ul:KL:=Zc (fun k g H=>a6 120 83 (sub (Z1 Tryz.f120) [1,1,1]) k (Y3 (cfg.keep 120) (sub (Z1 Tryz.f120) [1,1,1]) g) H) (Zg cfg 83 120 Tryz.f120 H0)
theorem FN:ZR 83 (Ul H0):=Zw (C:=cfg) (kp:=cfg.keep 120) (sub (Z1 Tryz.f120) [1,1,1]) (ZB 120 Tryz.f120 H0)
def EN:Z4:=a6 120 83 (sub (Z1 Tryz.f120) [1,1,0,1,0,0,1,1]) (Zc (fun k g H=>Y4 cfg (cfg.keep 120) 83 (sub (Z1 Tryz.f120) [1,1,0,1,0,0]) k (Y3 (cfg.keep 120) (sub (Z1 Tryz.f120) [1,1,0,1,0,0]) g) H) (Z6 2 (Ul H0))) [(0,x0),(1,x1),(6,x6),(11,x11)] H
def V3:KL:=Zc (fun k g H=>a6 120 83 (sub (Z1 Tryz.f120) [1,1,0,1,0,0,1,1]) k (Y3 (cfg.keep 120) (sub (Z1 Tryz.f120) [1,1,0,1,0,0,1,1]) g) H) (Zc (fun k g H=>Y4 cfg (cfg.keep 120) 83 (sub (Z1 Tryz.f120) [1,1,0,1,0,0]) k (Y3 (cfg.keep 120) (sub (Z1 Tryz.f120) [1,1,0,1,0,0]) g) H) (Z6 2 (Ul H0)))
theorem FO:ZR 83 (V3 H0):=Zw (C:=cfg) (kp:=cfg.keep 120) (sub (Z1 Tryz.f120) [1,1,0,1,0,0,1,1]) (CS (C:=cfg) (kp:=cfg.keep 120) (sub (Z1 Tryz.f120) [1,1,0,1,0,0]) (Zn 2 (FN H0)))
def EO:Z4:=a6 120 83 (sub (Z1 Tryz.f120) [1,1,0,1,0,0,1,0,0,1,1,1,1]) (Z6 3 (V3 H0)) [(0,x0),(1,x1),(7,x7),(11,x11)] H
def Fq:Z4:=a6 120 83 (sub (Z1 Tryz.f120) [1,1,0,1,0,0,1,0,0,1,1,1]) (Z6 3 (V3 H0)) [(0,x0),(1,x1),(6,x6),(7,x7),(11,x11)] H
def Fr:KL:=Zc (fun k g H=>a6 120 83 (sub (Z1 Tryz.f120) [1,1,0,1,0,0,1,0,0,1,1,1]) k (Y3 (cfg.keep 120) (sub (Z1 Tryz.f120) [1,1,0,1,0,0,1,0,0,1,1,1]) g) H) (Z6 3 (V3 H0))
theorem If:ZR 83 (Fr H0):=Zw (C:=cfg) (kp:=cfg.keep 120) (sub (Z1 Tryz.f120) [1,1,0,1,0,0,1,0,0,1,1,1]) (Zn 3 (FO H0))
def EP:Z4:=a6 120 83 (sub (Z1 Tryz.f120) [1,1,0,1,0,0,1,0,0,1,1,0,0,0,1]) (Zc (fun k g H=>Y4 cfg (cfg.keep 120) 83 (sub (Z1 Tryz.f120) [1,1,0,1,0,0,1,0,0,1,1,0,0,0]) k (Y3 (cfg.keep 120) (sub (Z1 Tryz.f120) [1,1,0,1,0,0,1,0,0,1,1,0,0,0]) g) H) (Z6 6 (Fr H0))) [(0,x0),(1,x1),(6,x6),(7,x7),(11,x11)] H
def JU:Z4:=Y4 cfg (cfg.keep 120) 83 (sub (Z1 Tryz.f120) [1,1,0,1,0,0,1,0,0,1,1,0,0,0]) (Z6 6 (Fr H0)) [(0,x0),(1,x1),(6,x6),(7,x7),(11,x11)] H
def Fp:Z4:=a6 120 83 (sub (Z1 Tryz.f120) [1,1,0,1,0,0,1,0,0,1,1]) (Z6 3 (V3 H0)) [(0,x0),(1,x1),(6,x6),(7,x7),(11,x11)] H
def Ft:KL:=Zc (fun k g H=>a6 120 83 (sub (Z1 Tryz.f120) [1,1,0,1,0,0,1,0,0,1,1]) k (Y3 (cfg.keep 120) (sub (Z1 Tryz.f120) [1,1,0,1,0,0,1,0,0,1,1]) g) H) (Z6 3 (V3 H0))
theorem Ig:ZR 83 (Ft H0):=Zw (C:=cfg) (kp:=cfg.keep 120) (sub (Z1 Tryz.f120) [1,1,0,1,0,0,1,0,0,1,1]) (Zn 3 (FO H0))
def EQ:Z4:=a6 120 83 (sub (Z1 Tryz.f120) [1,1,0,1,0,0,1,0,0,1,0,0,0,1]) (Zc (fun k g H=>Y4 cfg (cfg.keep 120) 83 (sub (Z1 Tryz.f120) [1,1,0,1,0,0,1,0,0,1,0,0,0]) k (Y3 (cfg.keep 120) (sub (Z1 Tryz.f120) [1,1,0,1,0,0,1,0,0,1,0,0,0]) g) H) (Z6 4 (Ft H0))) [(0,x0),(1,x1),(6,x6),(7,x7),(11,x11)] H
def JV:Z4:=Y4 cfg (cfg.keep 120) 83 (sub (Z1 Tryz.f120) [1,1,0,1,0,0,1,0,0,1,0,0,0]) (Z6 4 (Ft H0)) [(0,x0),(1,x1),(6,x6),(7,x7),(11,x11)] H
def EM:Z4:=a6 120 83 (sub (Z1 Tryz.f120) [1,1,0,1,0,0,1]) (Zc (fun k g H=>Y4 cfg (cfg.keep 120) 83 (sub (Z1 Tryz.f120) [1,1,0,1,0,0]) k (Y3 (cfg.keep 120) (sub (Z1 Tryz.f120) [1,1,0,1,0,0]) g) H) (Z6 2 (Ul H0))) [(0,x0),(1,x1),(6,x6),(11,x11)] H
def JT:Z4:=Y4 cfg (cfg.keep 120) 83 (sub (Z1 Tryz.f120) [1,1,0,1,0,0]) (Z6 2 (Ul H0)) [(0,x0),(1,x1),(6,x6),(11,x11)] H
def Fo:Z4:=a8 120 83 Tryz.f120 [1,1] H0 [(0,x0),(1,x1),(6,x6)] H
def JS:KL:=Zc (fun k g H=>a6 120 83 (sub (Z1 Tryz.f120) [1,1]) k (Y3 (cfg.keep 120) (sub (Z1 Tryz.f120) [1,1]) g) H) (Zg cfg 83 120 Tryz.f120 H0)
theorem Ih:ZR 83 (JS H0):=Zw (C:=cfg) (kp:=cfg.keep 120) (sub (Z1 Tryz.f120) [1,1]) (ZB 120 Tryz.f120 H0)
def MF:Z4:=a6 120 83 (sub (Z1 Tryz.f120) [1,0,1,0,1,0,0,1]) (Zc (fun k g H=>Y4 cfg (cfg.keep 120) 83 (sub (Z1 Tryz.f120) [1,0,1,0,1,0,0]) k (Y3 (cfg.keep 120) (sub (Z1 Tryz.f120) [1,0,1,0,1,0,0]) g) H) (Z6 0 (JS H0))) [(0,x0),(1,x1),(2,x2),(6,x6),(9,x9)] H
def ER:KL:=Zc (fun k g H=>a6 120 83 (sub (Z1 Tryz.f120) [1,0,1,0,1,0,0,1]) k (Y3 (cfg.keep 120) (sub (Z1 Tryz.f120) [1,0,1,0,1,0,0,1]) g) H) (Zc (fun k g H=>Y4 cfg (cfg.keep 120) 83 (sub (Z1 Tryz.f120) [1,0,1,0,1,0,0]) k (Y3 (cfg.keep 120) (sub (Z1 Tryz.f120) [1,0,1,0,1,0,0]) g) H) (Z6 0 (JS H0)))
def MI:Z4:=a6 120 83 (sub (Z1 Tryz.f120) [1,0,1,0,1,0,0,0,0,1,1,1]) (Z6 1 (ER H0)) [(0,x0),(1,x1),(2,x2),(6,x6),(9,x9),(10,x10)] H
def MH:Z4:=a6 120 83 (sub (Z1 Tryz.f120) [1,0,1,0,1,0,0,0,0,1,1]) (Z6 1 (ER H0)) [(0,x0),(1,x1),(2,x2),(6,x6),(9,x9),(10,x10)] H
def JW:Z4:=Y4 cfg (cfg.keep 120) 83 (sub (Z1 Tryz.f120) [1,0,1,0,1,0,0]) (Z6 0 (JS H0)) [(0,x0),(1,x1),(2,x2),(6,x6),(9,x9)] H
def SN:Z4:=
 Z0 (Z5 .geq p2 (zE J 0)) fun g=>
 Z0 (Z8 g true ak (some p2)) fun h=>
 Z0 (Z8 g true ak (Z5 .leq h (zE J 255))) fun j=>
 Z0 (Zi g j (.bool false)) fun u=>
 Zj u
  (JW p0 p1 p2 (zE J 0) (zE J 1) H H)
  (Fo p0 p1 (zE J 0) H H)
theorem Zb3:EL H0 H =
 some ((.tuple [(zE J 0),(zE J 0),(.bool false)]),H):=Z9 aj
theorem Zb5:EN x0 x1 x6 x11 H0 H =
 Z0 (Z5 .add x11 (zE J 1)) fun g=>
 JT x0 x1 x6 g H0 H:=Z9 aj
theorem Zb8:EO x0 x1 x7 x11 H0 H =
 EN x0 x1 x7 x11 H0 H:=Z9 aj
theorem Zb7:Fq x0 x1 x6 x7 x11 H0 H =
 Z0 (Z5 .eql x11 x1) fun g=>
 Zj g
  (some ((.tuple [x6,x7,(.bool true)]),H))
  (EO x0 x1 x7 x11 H0 H):=Z9 aj
theorem Zb9:EP x0 x1 x6 x7 x11 H0 H =
 Z0 (Z5 .add x7 (zE J 1)) fun g=>
 JU x0 x1 x6 g x11 H0 H:=Z9 aj
theorem TA:JU x0 x1 x6 x7 x11 H0 H =
 Z0 (Zk .string x0) fun j=>
 Z0 (Z5 .lss x7 j) fun g=>
 Z0 (Z8 g true ak (some x0)) fun u=>
 Z0 (Z8 g true ak (some x7)) fun t70=>
 Z0 (Z8 g true ak (Zx u t70)) fun w=>
 Z0 (Z8 g true (ak,H) (Vn [w] H)) fun h=>
 Z0 (Z8 g true ak (Xv .not h.1)) fun y=>
 Z0 (Zi g y (.bool false)) fun z=>
 Zj z
  (EP x0 x1 x6 x7 x11 H0 h.2)
  (Fq x0 x1 x6 x7 x11 H0 h.2):=(ZC (C:=cfg) [3,7,9,10,12,13,15,16,17,18,20,21] (Zn 6 (If H0)) _ _).trans (by kernel_rfl)
theorem Zb6:Fp x0 x1 x6 x7 x11 H0 H =
 JU x0 x1 x6 x7 x11 H0 H:=Z9 aj
theorem Zba:EQ x0 x1 x6 x7 x11 H0 H =
 Z0 (Z5 .add x7 (zE J 1)) fun g=>
 JV x0 x1 x6 g x11 H0 H:=Z9 aj
theorem TB:JV x0 x1 x6 x7 x11 H0 H =
 Z0 (Zk .string x0) fun j=>
 Z0 (Z5 .lss x7 j) fun g=>
 Z0 (Z8 g true ak (some x0)) fun u=>
 Z0 (Z8 g true ak (some x7)) fun w=>
 Z0 (Z8 g true ak (Zx u w)) fun y=>
 Z0 (Z8 g true (ak,H) (Vn [y] H)) fun h=>
 Z0 (Zi g h.1 (.bool false)) fun z=>
 Zj z
  (EQ x0 x1 x6 x7 x11 H0 h.2)
  (Fp x0 x1 x6 x7 x11 H0 h.2):=(ZC (C:=cfg) [3,7,9,10,12,13,15,16,17,18,20,21] (Zn 4 (Ig H0)) _ _).trans (by kernel_rfl)
theorem Zb4:EM x0 x1 x6 x11 H0 H =
 JV x0 x1 x6 x6 x11 H0 H:=Z9 aj
theorem Zbb:JT x0 x1 x6 x11 H0 H =
 Z0 (Zk .string x0) fun g=>
 Z0 (Z5 .lss x6 g) fun h=>
 Zj h
  (EM x0 x1 x6 x11 H0 H)
  (EL H0 H):=(ZC (C:=cfg) [3,7,9,10,12,13,15,16,17,18,20,21] (Zn 2 (FN H0)) _ _).trans (by kernel_rfl)
theorem Zb2:Fo x0 x1 x6 H0 H =
 JT x0 x1 x6 (zE J 1) H0 H:=Z9 aj
theorem ON:MF x0 x1 x2 x6 x9 H0 H =
 Z0 (Z5 .add x9 (zE J 1)) fun g=>
 JW x0 x1 x2 x6 g H0 H:=Z9 aj
theorem OP:MI x0 x1 x2 x6 x9 x10 H0 H =
 Z0 (Z5 .add x10 (zE J 1)) fun g=>
 Z0 (Z5 .add x6 g) fun h=>
 MF x0 x1 x2 h x9 H0 H:=Z9 aj
theorem OO:MH x0 x1 x2 x6 x9 x10 H0 H =
 Z0 (Z5 .eql x9 x1) fun g=>
 Zj g
  (Z0 (Z5 .add x6 x10) fun h=>
  some ((.tuple [x6,h,(.bool true)]),H))
  (MI x0 x1 x2 x6 x9 x10 H0 H):=Z9 aj
theorem Zbc:JW x0 x1 x2 x6 x9 H0 H =
 Z0 (ZU x0 (some x6) none none) fun h=>
 Z0 (Yv .u8 x2) fun j=>
 Z0 (Kx [h,j] H) fun g=>
 Z0 (Z5 .lss g.1 (zE J 0)) fun u=>
 Zj u
  (Z0 (Zk .string x0) fun w=>
  Z0 (Z5 .eql x9 x1) fun y=>
  some ((.tuple [x6,w,y]),g.2))
  (MH x0 x1 x2 x6 x9 g.1 H0 g.2):=(ZC (C:=cfg) [3,7,9,10,12,13,15,16,17,18,20,21] (Zn 0 (Ih H0)) _ _).trans (by kernel_rfl)
theorem ZbB:KI [p0,p1,p2] H=SN p0 p1 p2 H:=Be 83 [3,7,9,10,12,13,15,16,17,18,20,21] Tryz.func120
def SM:Z4:=
 Z0 (Z5 .eql p0 (.int .u8 32)) fun t4=>
 Z0 (Z8 t4 false ak (some p0)) fun g=>
 Z0 (Z8 t4 false ak (Z5 .eql g (.int .u8 9))) fun h=>
 Z0 (Zi t4 (.bool true) h) fun j=>
 some (j,H)
theorem ZbA:Vn [p0] H=SM p0 H:=Be 9 [] Tryz.func152
def Tf:Z4:=
 Z0 (U9 [p0,p1] H) fun g=>
 some (g.1,g.2)
theorem Hl:Kx [p0,p1] H=Tf p0 p1 H:=Be 8 [] Tryz.func156
def Ud:Z4:=
 Z0 (O1 .indexByte [p0,p1] H) fun g=>
 some (g.1,g.2)
theorem GH:U9 [p0,p1] H=Ud p0 p1 H:=Be 8 [] Tryz.func183
theorem Zfk (a b args:List AV)(H:Hp):Yd cfg (Za cfg) (.fn (.func 55) a b) args H=Zf Ly (a++args++b) H:=by kernel_rfl
theorem Zfl (a b args:List AV)(H:Hp):Yd cfg (Za cfg) (.fn (.func 58) a b) args H=Zf Lz (a++args++b) H:=by kernel_rfl
theorem Zc2 (a b args:List AV)(H:Hp):Yd cfg (Za cfg) (.fn (.func 108) a b) args H=Zf UU (a++args++b) H:=by kernel_rfl
theorem ZbF (a b args:List AV)(H:Hp):Xu cfg (Za cfg) (.fn (.func 108) a b) args H=Zf UU (a++args++b) H:=by kernel_rfl
theorem Iz (a b args:List AV)(H:Hp):Yd cfg (Za cfg) (.fn (.func 110) a b) args H=Jl (a++args++b) H:=by kernel_rfl
theorem Ze7 (a b args:List AV)(H:Hp):Yd cfg (Za cfg) (.fn (.func 114) a b) args H=BN (a++args++b) H:=by kernel_rfl
theorem ZdW (a b args:List AV)(H:Hp):Xu cfg (Za cfg) (.fn (.func 115) a b) args H=Zf BO (a++args++b) H:=by kernel_rfl
theorem Zil (a b args:List AV)(H:Hp):Xu cfg (Za cfg) (.fn (.func 117) a b) args H=Zf TU (a++args++b) H:=by kernel_rfl
theorem ZdX (a b args:List AV)(H:Hp):Xu cfg (Za cfg) (.fn (.func 118) a b) args H=Zf BP (a++args++b) H:=by kernel_rfl
theorem ZiV:∀ f∈userList,AB Tryz.prog f:=
 Z2 Tryz.call3 (
 Z2 Tryz.call4 (
 Z2 Tryz.call5 (
 Z2 Tryz.call6 (
 Z2 Tryz.call7 (
 Z2 Tryz.call8 (
 Z2 Tryz.call9 (
 Z2 Tryz.call10 (
 Z2 Tryz.call11 (
 Z2 Tryz.call12 (
 Z2 Tryz.call13 (
 Z2 Tryz.call14 (
 Z2 Tryz.call15 (
 Z2 Tryz.call16 (
 Z2 Tryz.call17 (
 Z2 Tryz.call18 (
 Z2 Tryz.call19 (
 Z2 Tryz.call20 (
 Z2 Tryz.call21 (
 Z2 Tryz.call22 (
 Z2 Tryz.call23 (
 Z2 Tryz.call24 (
 Z2 Tryz.call25 (
 Z2 Tryz.call26 (
 Z2 Tryz.call27 (
 Z2 Tryz.call28 (
 Z2 Tryz.call29 (
 Z2 Tryz.call30 (
 Z2 Tryz.call31 (
 Z2 Tryz.call32 (
 Z2 Tryz.call33 (
 Z2 Tryz.call34 (
 Z2 Tryz.call35 (
 Z2 Tryz.call36 (
 Z2 Tryz.call37 (
 Z2 Tryz.call38 (
 Z2 Tryz.call39 (
 Z2 Tryz.call40 (
 Z2 Tryz.call41 (
 Z2 Tryz.call42 (
 Z2 Tryz.call43 (
 Z2 Tryz.call44 (
 Z2 Tryz.call45 (
 Z2 Tryz.call46 (
 Z2 Tryz.call47 (
 Z2 Tryz.call48 (
 Z2 Tryz.call49 (
 Z2 Tryz.call50 (
 Z2 Tryz.call51 (
 Z2 Tryz.call52 (
 Z2 Tryz.call53 (
 Z2 Tryz.call54 (
 Z2 Tryz.call55 (
 Z2 Tryz.call56 (
 Z2 Tryz.call57 (
 Z2 Tryz.call58 (
 Z2 Tryz.call59 (
 Z2 Tryz.call60 (
 Z2 Tryz.call61 (
 Z2 Tryz.call62 (
 Z2 Tryz.call63 (
 Z2 Tryz.call64 (
 Z2 Tryz.call65 (
 Z2 Tryz.call66 (
 Z2 Tryz.call67 (
 Z2 Tryz.call68 (
 Z2 Tryz.call69 (
 Z2 Tryz.call70 (
 Z2 Tryz.call71 (
 Z2 Tryz.call72 (
 Z2 Tryz.call73 (
 Z2 Tryz.call74 (
 Z2 Tryz.call75 (
 Z2 Tryz.call76 (
 Z2 Tryz.call77 (
 Z2 Tryz.call78 (
 Z2 Tryz.call79 (
 Z2 Tryz.call80 (
 Z2 Tryz.call81 (
 Z2 Tryz.call82 (
 Z2 Tryz.call83 (
 Z2 Tryz.call84 (
 Z2 Tryz.call85 (
 Z2 Tryz.call86 (
 Z2 Tryz.call87 (
 Z2 Tryz.call88 (
 Z2 Tryz.call89 (
 Z2 Tryz.call90 (
 Z2 Tryz.call91 (
 Z2 Tryz.call92 (
 Z2 Tryz.call93 (
 Z2 Tryz.call94 (
 Z2 Tryz.call95 (
 Z2 Tryz.call96 (
 Z2 Tryz.call97 (
 Z2 Tryz.call98 (
 Z2 Tryz.call99 (
 Z2 Tryz.call100 (
 Z2 Tryz.call101 (
 Z2 Tryz.call102 (
 Z2 Tryz.call103 (
 Z2 Tryz.call104 (
 Z2 Tryz.call105 (
 Z2 Tryz.call106 (
 Z2 Tryz.call107 (
 Z2 Tryz.call108 (
 Z2 Tryz.call109 (
 Z2 Tryz.call110 (
 Z2 Tryz.call111 (
 Z2 Tryz.call112 (
 Z2 Tryz.call113 (
 Z2 Tryz.call114 (
 Z2 Tryz.call115 (
 Z2 Tryz.call116 (
 Z2 Tryz.call117 (
 Z2 Tryz.call118 (
 Z2 Tryz.call119 (
 Z2 Tryz.call120 (
 Z2 Tryz.call121 (
 Z2 Tryz.call122 (
 Z2 Tryz.call123 (
 Z2 Tryz.call124 (
 Z2 Tryz.call125 (
 Z2 Tryz.call126 (
 Z2 Tryz.call127 (
 Z2 Tryz.call128 (
 Z2 Tryz.call129 (
 Z2 Tryz.call130 (
 Z2 Tryz.call131 (
 Z2 Tryz.call132 (
 Z2 Tryz.call133 (
 Z2 Tryz.call134 (
 Z2 Tryz.call135 (
 Z2 Tryz.call136 (
 Z2 Tryz.call137 (
 Z2 Tryz.call138 (
 Z2 Tryz.call139 (
 Z2 Tryz.call140 (
 Z2 Tryz.call141 (
 Z2 Tryz.call142 (
 Z2 Tryz.call143 (
 Z2 Tryz.call144 (
 Z2 Tryz.call145 (
 Z2 Tryz.call146 (
 Z2 Tryz.call147 (
 Z2 Tryz.call148 (
 Z2 Tryz.call149 (
 Z2 Tryz.call150 (
 Z2 Tryz.call151 (
 Z2 Tryz.call152 (
 Z2 Tryz.call153 (
 Z2 Tryz.call154 (
 Z2 Tryz.call155 (
 Z2 Tryz.call156 (
 Z2 Tryz.call157 (
 Z2 Tryz.call158 (
 Z2 Tryz.call159 (
 Z2 Tryz.call160 (
 Z2 Tryz.call161 (
 Z2 Tryz.call162 (
 Z2 Tryz.call163 (
 Z2 Tryz.call164 (
 Z2 Tryz.call165 (
 Z2 Tryz.call166 (
 Z2 Tryz.call167 (
 Z2 Tryz.call168 (
 Z2 Tryz.call169 (
 Z2 Tryz.call170 (
 Z2 Tryz.call171 (
 Z2 Tryz.call172 (
 Z2 Tryz.call173 (
 Z2 Tryz.call174 (
 Z2 Tryz.call175 (
 Z2 Tryz.call176 (
 Z2 Tryz.call178 (
 Z2 Tryz.call179 (
 Z2 Tryz.call180 (
 Z2 Tryz.call181 (
 Z2 Tryz.call182 (
 Z2 Tryz.call183 (
 Z2 Tryz.call184 (
 Z2 Tryz.call185 (
 Z2 Tryz.call186 (
 Z2 Tryz.call187 (
 Z2 Tryz.call188 (
 Z2 Tryz.call189 (
 Z2 Tryz.call190 (
 Z2 Tryz.call191 (
 Z2 Tryz.call192 (
 Z2 Tryz.call193 (
 Z2 Tryz.call194 (
 Z2 Tryz.call195 (
 Z2 Tryz.call196 (
 Z2 Tryz.call197 (
 Z2 Tryz.call198 (
 Z2 Tryz.call199 (
 Z2 Tryz.call202 (
 Z2 Tryz.call203 (
 Z2 Tryz.call204 (
 Z2 Tryz.call205 (
 Z2 Tryz.call206 (
 Z2 Tryz.call207 (
 Z2 Tryz.call208 (
 Z2 Tryz.call209 (
 Z2 Tryz.call210 (
 Z2 Tryz.call211 (
 Z2 Tryz.call213 (
 Z2 Tryz.call214 (
 Z2 Tryz.call215 (
 Z2 Tryz.call216 (
 Z2 Tryz.call217 (
 Z2 Tryz.call218 (
 Z2 Tryz.call219 (
 Z2 Tryz.call220 (
 Z2 Tryz.call221 (
 Z2 Tryz.call222 (
 Z2 Tryz.call223 (
 Z2 Tryz.call224 (
 Z2 Tryz.call225 (
 Z2 Tryz.call226 (
 Z2 Tryz.call227 (
 Z2 Tryz.call228 (
 Z2 Tryz.call229 (ZhQ)))))))))))))))))))))))))))))))))))))))))))))))))))))))))))))))))))))))))))))))))))))))))))))))))))))))))))))))))))))))))))))))))))))))))))))))))))))))))))))))))))))))))))))))))))))))))))))))))))))))))))))))))))))))))))))))
theorem Zpb:∀ t∈eqList,Tryz.prog.stoodInHeld t=false/\Tryz.prog.eqGuardType Tryz.prog.depth t=false:=by
 intro t g;simp only[eqList,zB,zA,or_false]at g
theorem Zcn (args:Array Value)(w:World):(callFunc 177 args).run Tryz.prog w=(do pure (.value (<-D3 .cmp args)):Sem Next).run Tryz.prog w:=by kernel_rfl
theorem Zco (args:Array Value)(w:World):(callFunc 200 args).run Tryz.prog w=(do pure (.value (<-D3 .same args)):Sem Next).run Tryz.prog w:=by kernel_rfl
theorem Zcp (args:Array Value)(w:World):(callFunc 201 args).run Tryz.prog w=(do pure (.value (<-D3 .indexByte args)):Sem Next).run Tryz.prog w:=by kernel_rfl
theorem Zlo:∀ f e,cfg.ext f=some e->∀ (args:Array Value) (w:World),(callFunc f args).run Tryz.prog w=(do pure (.value (<-D3 e args)):Sem Next).run Tryz.prog w:=by
 intro f e h;have g:=RM (l:=extList) h;simp only[extList,zB,zD,zA,or_false]at g;rcases g with ⟨rfl,rfl⟩|⟨rfl,rfl⟩|⟨rfl,rfl⟩
 ·exact Zcn
 ·exact Zco
 ·exact Zcp
theorem Zmp:∀ f g,cfg.sum f=some g->cfg.user f=true/\Zgz cfg f g:=by
 intro f g h;have j:=RM (l:=sumList) h;simp only[sumList,zB,zD,zA,or_false]at j;rcases j with ⟨rfl,rfl⟩|⟨rfl,rfl⟩
 ·exact⟨by kernel_rfl,ZvC (C:=cfg) rfl (fun _=>rfl)⟩
 ·exact⟨by kernel_rfl,ZuJ (C:=cfg) rfl (fun _=>rfl)⟩
theorem Zlg:∀ f g,cfg.eff f=some g->cfg.user f=true/\DT cfg f g:=by
 intro f g h;have j:=RM (l:=effList) h;simp only[effList,zB,zD,zA,or_false]at j;rcases j with ⟨rfl,rfl⟩|⟨rfl,rfl⟩|⟨rfl,rfl⟩|⟨rfl,rfl⟩|⟨rfl,rfl⟩|⟨rfl,rfl⟩
 ·exact⟨by kernel_rfl,Zsm (C:=cfg) rfl (fun _=>rfl)⟩
 ·exact⟨by kernel_rfl,Zpx (C:=cfg) rfl (fun _=>rfl)⟩
 ·exact⟨by kernel_rfl,Zux (C:=cfg) rfl (fun _=>rfl)⟩
 ·exact⟨by kernel_rfl,ZtM (C:=cfg) rfl (fun _=>rfl)⟩
 ·exact⟨by kernel_rfl,Zqs (C:=cfg) rfl (fun _=>rfl)⟩
 ·exact⟨by kernel_rfl,Zvy (C:=cfg) rfl (fun _=>rfl)⟩
theorem cfg_ok:VS cfg:=
 ⟨fun t h=>Zpb t (zC.1 h),fun f h=>ZiV f (zC.1 h),by kernel_rfl,Zlo,Zmp,Zlg⟩
end
end Go.Am
