/- The functions of the translation over the abstract machine -/
import Derived.Test.YtnaneekpogohaaaGreatDoorProg
import Derived.Test.YtnaneekpogohaaaGreatDoorXeFex
open List renaming not_mem_nil->zA,mem_cons->zB,contains_iff_mem->zC
open Prod.mk renaming injEq->zD
namespace Go.Am
open Go.Proofs
set_option maxRecDepth 100000
noncomputable section
variable (p0 p1 p2 x0 x1 x2 x3 x4 x6 x7 x8 x9 x10 x11 x33 x34 x35 x36:AV)(H0 H:Hp)
def Zgj:List (Nat×List (Nat×List Nat)):=[(4,[(3,[1,2]),(8,[1,2,5,6,7,8,9]),(9,[1,2,5,6,7,8,9]),(10,[1,2,5,6,7,8,9]),(11,[1,2,5,6,8]),(1000011,[2,5])]),
 (11,[(2,[0,3]),(3,[0,3]),(4,[0,3]),(6,[0])]),
 (12,[(4,[2,4]),(6,[2]),(8,[2]),(9,[2,8]),(10,[2,8]),(11,[2,8]),(13,[])]),
 (14,[(4,[0,1,2,3,4]),(5,[0,1,2,3,4]),(6,[0,1,2,3,4]),(9,[0,1,2,3,4,5,6]),(11,[0,1,2,3,4,5,6]),(14,[0,1,2,3])]),
 (16,[(11,[0,1]),(13,[0,1])]),
 (17,[(4,[0,2,7]),(6,[0,2,7])]),
 (18,[(4,[6])]),
 (20,[(4,[0,4,6,7,8,11,12]),(7,[4,6,7,8,11,12,14]),(13,[8,11,12,14,15,16,35]),(14,[8,11,12,14,15,16,35]),(17,[11,12,14,15,16,35]),(20,[10,11,12,14,15,16,35]),(24,[10,11,12,16,35]),(900002,[10,11,12,35])]),
 (23,[(4,[2,3,10]),(6,[2,3,10])]),
 (24,[(3,[0,1]),(4,[0,1,5]),(5,[0,1,5]),(6,[0,1,5]),(8,[])]),
 (25,[(3,[2,3,4]),(6,[7]),(1000003,[3,4])]),
 (26,[(3,[0]),(5,[0,3,10,11,12]),(6,[0,3,10,11,12,13]),(9,[0,3,10,11,12]),(10,[3])]),
 (27,[(5,[1,5,6,7,8,15,16,17]),(6,[1,5,6,7,8,15,16,17,18]),(11,[1,5,6,7,8,11,15,16,17]),(12,[1,5,6,7,8,15,16,17]),(13,[5,6,7]),(16,[6])]),
 (28,[(3,[2,3,4]),(7,[3,4,7,8,9,10]),(8,[3,4,7,8,9]),(9,[3,4,7,8,9,10]),(11,[3,4,9]),(13,[9]),(1000003,[3,4])]),
 (29,[(3,[2,3,4]),(4,[2,3,4,7]),(5,[2,3,4,7]),(6,[2,3,4,7]),(9,[])]),
 (37,[(3,[1]),(5,[1]),(6,[1,3]),(7,[1,3]),(8,[1,3]),(10,[])]),
 (39,[(6,[0])]),
 (40,[(2,[0,7,8]),(3,[0,7,8,9]),(8,[0,7,8]),(9,[0])]),
 (41,[(3,[0,1]),(5,[0,1]),(8,[6])]),
 (42,[(3,[3,5,6]),(6,[3,6]),(8,[3]),(10,[3]),(11,[25,26,27]),(12,[25,26,27,28]),(15,[25,26,27]),(16,[])]),
 (43,[(3,[0,1,2]),(5,[0,1,2]),(6,[0,1,2,18,19,20]),(7,[0,1,2,18,19,20,21]),(11,[0,1,2,18,19,20]),(12,[0,1,2])]),
 (45,[(3,[0]),(5,[0]),(6,[0]),(10,[0,3]),(11,[0])]),
 (46,[(2,[0,13,14,15]),(3,[0,13,14,15,16]),(7,[0,8,9,13,14,15]),(11,[0,13,14,15]),(12,[])]),
 (47,[(3,[0,5,19,20,21]),(4,[0,5,19,20,21,22]),(7,[0,5,8,19,20,21,25,26,27]),(8,[0,5,8,19,20,21,25,26,27,28]),(10,[0,5,8,19,20,21,25,26,27]),(11,[0,5,8,19,20,21]),(14,[0,5,11,19,20,21]),(15,[0,5,19,20,21]),(16,[0,5])]),
 (48,[(3,[0,4,15,16,17]),(4,[0,4,15,16,17,18]),(6,[0,4,15,16,17]),(7,[0,4]),(9,[7,8]),(12,[7,8,9,10]),(14,[7,8,9])]),
 (50,[(4,[0,1,5]),(6,[5,6,21,22,23]),(7,[5,6,21,22,23,24]),(11,[5,6,21,22,23]),(12,[5])]),
 (51,[(4,[6])]),
 (52,[(3,[1]),(5,[1]),(6,[33,34,35]),(7,[33,34,35,36]),(10,[33,34,35]),(11,[])]),
 (53,[(3,[0])]),
 (54,[(3,[0,1]),(6,[1,6,7,8]),(7,[1,6,7,8]),(12,[6,7,8])]),
 (56,[(5,[2,3,4,5]),(8,[9])]),
 (57,[(3,[1,5,8,9,10]),(4,[1,5,8,9,10,11]),(7,[1,5,8,9,10]),(8,[5])]),
 (59,[(4,[2,3,4,5]),(5,[2,3,4,5,26,27,28]),(6,[2,3,4,5,26,27,28,29]),(10,[2,3,4,5,10,11,26,27,28]),(13,[2,3,4,5,26,27,28]),(14,[]),(1000010,[4,5,10])]),
 (60,[(3,[0,3,9,10,11]),(4,[0,3,9,10,11,12]),(8,[0,3,9,10,11]),(9,[0,3]),(11,[6,25,26,27]),(12,[6,25,26,27,28]),(14,[6,25,26,27]),(15,[6])]),
 (62,[(3,[0])]),
 (63,[(3,[0,1,5,8,9,10]),(4,[0,1,5,8,9,10,11]),(7,[0,1,5,8,9,10]),(8,[5])]),
 (71,[(3,[1])]),
 (72,[(2,[0,7,8]),(3,[0,7,8,9]),(8,[0,7,8]),(9,[0])]),
 (74,[(3,[0,3,5,6]),(6,[0,3,5,6,10]),(9,[0,10]),(12,[10])]),
 (76,[(3,[3,6,7,8]),(4,[3,6,7,8,9]),(6,[3,6,7,8]),(7,[3])]),
 (77,[(4,[1,5,12,13]),(5,[1,5,12,13,14]),(8,[1,5,6,12,13]),(10,[1,5,12,13]),(11,[5])]),
 (78,[(3,[0,1]),(6,[0,1,6]),(9,[0,6,48,49,50]),(10,[0,6,48,49,50,51]),(14,[0,6,48,49,50]),(15,[0,6,48,49,50]),(16,[6])]),
 (79,[(3,[0,1])]),
 (80,[(1000002,[4])]),
 (81,[(3,[0]),(6,[0,5]),(7,[0,5])]),
 (86,[(3,[1,2])]),
 (87,[(5,[1,2,8,9,24,25]),(6,[1,2,8,9,24,25,26]),(9,[1,2,8,9,10,24,25]),(11,[1,2,8,9,24,25]),(12,[1,2,8,9]),(14,[1,2,8,9]),(16,[1,2]),(1000002,[3])]),
 (88,[(4,[4,5,6,7,9]),(8,[4,5,6,7,9]),(1000011,[4])]),
 (89,[(4,[0,2,4,7,8]),(12,[0,7,10]),(14,[0,7,10])]),
 (97,[(3,[0]),(5,[0]),(9,[0,4])]),
 (98,[(4,[0,1,2]),(6,[0,1,2]),(9,[0,1,8]),(11,[0,1,8])]),
 (99,[(4,[0,1]),(7,[0,1])]),
 (100,[(3,[0])]),
 (101,[(3,[0,3,5,6]),(6,[0,3,5,6,10]),(8,[0,5,6,10,12,31,32,33]),(9,[0,5,6,10,12,31,32,33,34]),(11,[0,5,6,10,12,31,32,33]),(12,[0,5,6,10,12]),(13,[0,10,15]),(16,[0,10,15,16,17]),(17,[0,10,15,16]),(20,[0,10]),(23,[10])]),
 (102,[(4,[0,1]),(7,[0,1])]),
 (104,[(5,[1,5,6,7,20,21,22]),(6,[1,5,6,7,20,21,22,23]),(10,[1,5,6,7,8,10,11,20,21,22]),(12,[1,5,6,7,20,21,22]),(13,[1,5,7]),(15,[1,5]),(18,[13])]),
 (107,[(3,[1,2])]),
 (109,[(3,[1,2,3,6,16,17,18]),(4,[1,2,3,6,16,17,18,19]),(6,[1,2,3,6,16,17,18]),(7,[1,2,3,6]),(8,[1,2,3,6,9]),(9,[1,2,3,6,9]),(14,[1,2,3,6,9,10,11]),(15,[1,2,3,6,9,10])]),
 (112,[(2,[0,4]),(3,[0,4]),(4,[0,4]),(7,[0,4,5]),(14,[5,6,7,8,9]),(16,[5,7,8,9]),(19,[9,11])]),
 (113,[(5,[])]),
 (117,[(3,[0,3,7,8]),(4,[0,3,7,8,9]),(8,[0,3,7,8]),(9,[3])]),
 (120,[(3,[0,1,2,6,9]),(4,[0,1,2,6,9]),(7,[0,1,2,6,9,10]),(9,[0,1,2,6,9,10]),(10,[0,1,6]),(11,[0,1,6,11]),(12,[0,1,6,11]),(13,[0,1,6,11]),(14,[0,1,6,7,11]),(15,[0,1,6,7,11]),(16,[0,1,6,7,11]),(17,[0,1,6,7,11]),(18,[0,1,6,7,11]),(20,[0,1,7,11]),(21,[])]),
 (125,[(7,[])]),
 (126,[(3,[4,9,10,11]),(4,[4,9,10,11,12]),(8,[4,7,9,10,11]),(9,[4,9,10,11]),(10,[4])]),
 (127,[(3,[0,3,10,11,12]),(4,[0,3,10,11,12,13]),(7,[0,3,10,11,12]),(8,[3])]),
 (129,[(3,[0]),(11,[0]),(13,[0])]),
 (131,[(4,[5,6,7])]),
 (143,[(3,[1]),(5,[1]),(6,[1,27,28,29]),(7,[1,27,28,29,30]),(10,[1,27,28,29]),(11,[1]),(14,[1])]),
 (144,[(3,[0,1,5,6]),(4,[0,1,5,6,7]),(6,[0,1,5,6]),(7,[0,1])]),
 (146,[(2,[0,3]),(3,[0,3]),(4,[3])]),
 (147,[(3,[0,1,5,8,9]),(4,[0,1,5,8,9,10]),(8,[0,1,5,8,9]),(9,[1,5])]),
 (155,[(3,[0,5,10,11]),(4,[0,5,10,11,12]),(6,[0,5,10,11]),(7,[5])]),
 (164,[(3,[0])]),
 (166,[(4,[0,1,2]),(7,[2,10]),(9,[2,10]),(12,[2,12,13])]),
 (173,[(2,[0,7,8]),(3,[0,7,8,9]),(8,[0,7,8]),(9,[0])]),
 (174,[(3,[0]),(5,[3,10,11,12]),(6,[3,10,11,12,13]),(9,[3,5,10,11,12]),(11,[3,5,10,11,12]),(12,[3,10,11,12]),(13,[])]),
 (175,[(3,[0]),(5,[3,10,11,12]),(6,[3,10,11,12,13]),(9,[3,5,10,11,12]),(11,[3,5,10,11,12]),(12,[3,10,11,12]),(13,[])]),
 (178,[(3,[0,3,5]),(4,[0,3,5,6]),(8,[0,3,5]),(9,[3])]),
 (184,[(3,[1,2])]),
 (194,[(2,[0,1,7,8]),(3,[0,1,7,8,9]),(6,[0,1,7,8]),(7,[])]),
 (196,[(3,[0,1]),(6,[1,7]),(9,[1,7,8]),(11,[1,7,8]),(13,[1,7,8])]),
 (202,[(3,[1]),(5,[1]),(6,[1,3]),(7,[1,3]),(8,[1,3]),(10,[1]),(12,[1]),(15,[1])]),
 (209,[(3,[0,3,6,7]),(4,[0,3,6,7,8]),(8,[0,3,6,7]),(9,[3])]),
 (213,[(3,[0]),(4,[0,3]),(5,[0,3]),(6,[0,3]),(9,[])]),
 (215,[(3,[0]),(4,[0,3]),(5,[0,3]),(6,[0,3]),(8,[0,3]),(9,[0,3,4]),(10,[0,3,4]),(11,[0,3,4]),(13,[])]),
 (216,[(3,[0]),(4,[0,3]),(5,[0,3]),(6,[0,3]),(8,[0,3]),(9,[0,3,4]),(10,[0,3,4]),(11,[0,3,4]),(13,[])]),
 (219,[(3,[0,1,5,6]),(4,[0,1,5,6]),(5,[0,1,5,6]),(6,[5])])]
def userList:List Nat:=[3,4,5,6,7,8,9,10,11,12,13,14,15,16,17,18,19,20,21,22,23,24,25,26,27,28,29,30,31,32,33,34,35,36,37,38,39,40,41,42,43,44,45,46,47,48,49,50,51,52,53,54,55,56,57,58,59,60,61,62,63,64,65,66,67,68,69,70,71,72,73,74,75,76,77,78,79,80,81,82,83,84,85,86,87,88,89,90,91,92,93,94,95,96,97,98,99,100,101,102,103,104,105,106,107,108,109,110,111,112,113,114,115,116,117,118,119,120,121,122,123,124,125,126,127,128,129,130,131,132,133,134,135,136,137,138,139,140,141,142,143,144,145,146,147,148,149,150,151,152,153,154,155,156,157,158,159,160,161,162,163,164,165,166,167,168,169,170,171,172,173,174,175,176,178,179,180,181,182,183,184,185,186,187,188,189,190,191,192,193,194,195,196,197,198,199,202,203,204,205,206,207,208,209,210,211,213,214,215,216,217,218,219,220,221,222,223,224,225,226,227,228,229]
def pureList:List Nat:=[28,94]
def flatList:List Nat:=[11,12,13,14,24,25,27,29,30,31,32,34,35,36,37,38,40,52,53,54,55,56,57,58,59,61,64,65,66,69,70,71,72,76,77,83,84,86,87,88,91,92,93,103,107,108,111,112,113,115,117,118,119,121,122,124,126,143,144,145,146,147,155,157,158,159,160,163,164,173,174,175,176,178,184,185,186,187,188,189,194,195,196,202,203,204,206,207,209,213,214,215,216,217,218,219]
def extList:List (Nat×ExtK):=[(177,.cmp),(200,.same),(201,.indexByte)]
def roList:List Nat:=[26,50,67,100,127]
def eqList:List Nat:=[]
noncomputable def sumList:List (Nat×(List AV->Option AV)):=[(116,ZeA),(162,Zev)]
noncomputable def effList:List (Nat×EffFn):=[(49,namesE),(73,forgetE),(90,ZxM),(153,byteE),(154,stringE),(165,textE)]
def bldList:List (Nat×Nat):=[(201,5)]
def wrbList:List Nat:=[79]
def qkList:List (Nat×List Nat):=[(11,[12]),(14,[15])]
def linList:List Nat:=[29,38]
def farList:List (Nat×Nat×Nat×Nat):=[(35,12,50,11)]
def dfrList:List Nat:=[20]
noncomputable def cfg:Cfg:={ P:=Tryz.prog,glob:=RV,sum:=fun f=>sumList.lookup f,user:=fun f=>userList.contains f,eqok:=fun t=>eqList.contains t,pure:=fun f=>pureList.contains f,flat:=fun f=>flatList.contains f,ext:=fun f=>extList.lookup f,keep:=Zp4 Zgj,eff:=fun f=>effList.lookup f,bld:=fun t=>bldList.lookup t,lin:=fun t=>linList.contains t,qk:=fun t a=>qkList.contains (t,a),wrb:=fun t=>wrbList.contains t,ro:=fun f=>roList.contains f,far:=some fun t a u b=>farList.contains (t,a,u,b),dfr:=fun f=>dfrList.contains f }
theorem Za {kp:Nat -> Option (List Nat)}{g:Code -> KL -> AL -> Hp -> Z4}{n:Nat}{c:Code}{k:KL}{j:AL}{H:Hp}{r:Z4}(cut:List Nat)(h:Cr cfg (Z9 cfg) g kp n Zc Z6 (Y6 cfg (Z9 cfg) g kp n Zc Z6) cut c k j H=r:=by kernel_rfl):Y6 cfg (Z9 cfg) g kp n Zc Z6 c k j H=r:=(Zlo cut c k j H).trans h
theorem Be {f:FuncId}{fn:Func}{args:List AV}{H:Hp}{r:Z4}(n:Nat)(cut:List Nat)(u:cfg.P.funcs[f]?=some fn)(j:Di cfg f fn=some (Z1 fn):=by kernel_rfl)(g:fn.ntmps=n:=by kernel_rfl)(w:Nat.ble args.length n=true:=by kernel_rfl)(h:Cr cfg (Z9 cfg) (ZZ cfg (cfg.keep f) n) (cfg.keep f) n Zc Z6 (Y6 cfg (Z9 cfg) (ZZ cfg (cfg.keep f) n) (cfg.keep f) n Zc Z6) cut (Z1 fn) (Zi cfg n f fn H) (Lm 0 args) H=r:=by kernel_rfl):Z9 cfg f args H=r:=(Zd cut u j g args w H).trans h

def GQ:=Z9 cfg 4
def KQ:=Z9 cfg 11
def A0:=Z9 cfg 12
def Vj:=Z9 cfg 13
def DU:=Z9 cfg 14
def Aa:=Z9 cfg 15
def J3:=Z9 cfg 16
def J2:=Z9 cfg 17
def KO:=Z9 cfg 18
def P7:=Z9 cfg 20
def KN:=Z9 cfg 23
def Wh:=Z9 cfg 24
def WS:=Z9 cfg 25
def V9:=Z9 cfg 26
def Rh:=Z9 cfg 27
def Rg:=Z9 cfg 28
def KJ:=Z9 cfg 29
def PV:=Z9 cfg 37
def A8:=Z9 cfg 38
def Up:=Z9 cfg 39
def F9:=Z9 cfg 40
def W4:=Z9 cfg 41
def Rc:=Z9 cfg 42
def UT:=Z9 cfg 43
def LZ:=Z9 cfg 44
def WZ:=Z9 cfg 45
def Qf:=Z9 cfg 46
def QC:=Z9 cfg 47
def Qe:=Z9 cfg 48
def Ri:=Z9 cfg 50
def VD:=Z9 cfg 51
def Xc:=Z9 cfg 52
def Yi:=Z9 cfg 53
def YL:=Z9 cfg 54
def E2:=Z9 cfg 55
def Wg:=Z9 cfg 56
def Wf:=Z9 cfg 57
def E3:=Z9 cfg 58
def XA:=Z9 cfg 59
def F8:=Z9 cfg 60
def MG:=Z9 cfg 61
def XY:=Z9 cfg 62
def Kf:=Z9 cfg 63
def MH:=Z9 cfg 64
def Re:=Z9 cfg 69
def PW:=Z9 cfg 71
def U8:=Z9 cfg 72
def E6:=Z9 cfg 74
def W3:=Z9 cfg 75
def P8:=Z9 cfg 76
def E4:=Z9 cfg 77
def Qd:=Z9 cfg 78
def PZ:=Z9 cfg 79
def PY:=Z9 cfg 80
def Un:=Z9 cfg 81
def Qp:=Z9 cfg 83
def KP:=Z9 cfg 85
def Vg:=Z9 cfg 86
def U7:=Z9 cfg 87
def US:=Z9 cfg 88
def Qo:=Z9 cfg 89
def VE:=Z9 cfg 97
def V0:=Z9 cfg 98
def Vi:=Z9 cfg 99
def QF:=Z9 cfg 100
def NZ:=Z9 cfg 101
def UG:=Z9 cfg 102
def Gf:=Z9 cfg 103
def Uo:=Z9 cfg 104
def U0:=Z9 cfg 107
def UR:=Z9 cfg 108
def NY:=Z9 cfg 109
def J1:=Z9 cfg 110
def BD:=Z9 cfg 111
def QZ:=Z9 cfg 112
def Pd:=Z9 cfg 113
def BA:=Z9 cfg 114
def BB:=Z9 cfg 115
def Pc:=Z9 cfg 117
def BC:=Z9 cfg 118
def Pb:=Z9 cfg 119
def Kg:=Z9 cfg 120
def E5:=Z9 cfg 124
def Xh:=Z9 cfg 125
def P9:=Z9 cfg 126
def XD:=Z9 cfg 127
def QE:=Z9 cfg 128
def V8:=Z9 cfg 129
def WT:=Z9 cfg 130
def KM:=Z9 cfg 131
def Ge:=Z9 cfg 143
def E1:=Z9 cfg 144
def XX:=Z9 cfg 145
def J0:=Z9 cfg 146
def Rb:=Z9 cfg 147
def Vf:=Z9 cfg 152
def Rf:=Z9 cfg 155
def K8:=Z9 cfg 156
def YQ:=Z9 cfg 163
def Pa:=Z9 cfg 164
def Vh:=Z9 cfg 166
def JK:=Z9 cfg 173
def Ve:=Z9 cfg 174
def WY:=Z9 cfg 175
def KI:=Z9 cfg 178
def U6:=Z9 cfg 183
def D4:=Z9 cfg 184
def We:=Z9 cfg 194
def PX:=Z9 cfg 195
def E0:=Z9 cfg 196
def PU:=Z9 cfg 202
def Zfa:=Z9 cfg 207
def A9:=Z9 cfg 209
def KH:=Z9 cfg 213
def D3:=Z9 cfg 214
def UQ:=Z9 cfg 215
def Um:=Z9 cfg 216
def LY:=Z9 cfg 219
def TK:Z4:=Y6 cfg (Z9 cfg) (ZZ cfg (cfg.keep 29) 41) (cfg.keep 29) 41 Zc Z6 (sub (Z1 Tryz.f29) [1,1,1]) (Zi cfg 41 29 Tryz.f29 H0) [] H
def Ux:KL:=Zc (fun k g H=>Y6 cfg (Z9 cfg) (ZZ cfg (cfg.keep 29) 41) (cfg.keep 29) 41 Zc Z6 (sub (Z1 Tryz.f29) [1,1,1]) k (ZS (cfg.keep 29) (sub (Z1 Tryz.f29) [1,1,1]) g) H) (Zi cfg 41 29 Tryz.f29 H0)
theorem Sh:ZU 41 (Ux H0):=Zx (C:=cfg) (kp:=cfg.keep 29) (sub (Z1 Tryz.f29) [1,1,1]) (ZB 29 Tryz.f29 H0)
def TM:Z4:=Y6 cfg (Z9 cfg) (ZZ cfg (cfg.keep 29) 41) (cfg.keep 29) 41 Zc Z6 (sub (Z1 Tryz.f29) [1,1,0,1,0,0,1,1]) (Zc (fun k g H=>ZZ cfg (cfg.keep 29) 41 (sub (Z1 Tryz.f29) [1,1,0,1,0,0]) k (ZS (cfg.keep 29) (sub (Z1 Tryz.f29) [1,1,0,1,0,0]) g) H) (Z6 0 (Ux H0))) [(2,x2),(3,x3),(4,x4),(7,x7)] H
def TL:Z4:=Y6 cfg (Z9 cfg) (ZZ cfg (cfg.keep 29) 41) (cfg.keep 29) 41 Zc Z6 (sub (Z1 Tryz.f29) [1,1,0,1,0,0,1]) (Zc (fun k g H=>ZZ cfg (cfg.keep 29) 41 (sub (Z1 Tryz.f29) [1,1,0,1,0,0]) k (ZS (cfg.keep 29) (sub (Z1 Tryz.f29) [1,1,0,1,0,0]) g) H) (Z6 0 (Ux H0))) [(2,x2),(3,x3),(4,x4),(7,x7)] H
def Uy:Z4:=ZZ cfg (cfg.keep 29) 41 (sub (Z1 Tryz.f29) [1,1,0,1,0,0]) (Z6 0 (Ux H0)) [(2,x2),(3,x3),(4,x4),(7,x7)] H
def TJ:Z4:=Y6 cfg (Z9 cfg) (ZZ cfg (cfg.keep 29) 41) (cfg.keep 29) 41 Zc Z6 (sub (Z1 Tryz.f29) [1,1]) (Zi cfg 41 29 Tryz.f29 H0) [(2,x2),(3,x3),(4,x4)] H
def Nd:Z4:=
 Z0 (ZO p0 H) fun w=>
 Z0 (ZO p1 w.2) fun j=>
 Z0 (Z3 true 5 j.1 j.2) fun t9=>
 Z0 (Ze Xc [t9] j.2) fun g=>
 Z0 (Z5 .neq g.1 (.int .i64 0)) fun u=>
 Zk u
  (some ((.int .i64 (-1)),g.2))
  (TJ p2 w.1 j.1 H g.2)
theorem DA:TK H0 H =
 some ((.int .i64 (-1)),H):=Za [3,5,6,9]
theorem DB:TM x2 x3 x4 x7 H0 H =
 Z0 (Z5 .add x7 (.int .i64 1)) fun g=>
 Uy x2 x3 x4 g H0 H:=Za [3,5,6,9]
theorem AJ:TL x2 x3 x4 x7 H0 H =
 Z0 (Z3 true 6 x3 H) fun w=>
 Z0 (Z3 true 5 x4 H) fun y=>
 Z0 (Z5 .sub x7 (.int .i64 1)) fun z=>
 Z0 (Zn 1 x2 z) fun A=>
 Z0 (Z3 false 1 A H) fun B=>
 Z0 (Zn 1 x2 x7) fun C=>
 Z0 (Z3 false 1 C H) fun D=>
 Z0 (Ze Wg [w,y,B,D] H) fun g=>
 Z0 (Z5 .gtr g.1 (.int .i64 0)) fun j=>
 Z0 (Z8 j false (.tuple []) (Z7 3 x4)) fun E=>
 Z0 (Z8 j false (.tuple []) (Z3 false 1 E g.2)) fun F=>
 Z0 (Z8 j false (.tuple []) (some F)) fun u=>
 Z0 (Z8 u true (.tuple []) (some g.1)) fun I=>
 Z0 (Z8 u true (.tuple []) (Z5 .eql I (.int .i64 0))) fun t37=>
 Z0 (Z8 j false (.tuple []) (Zj u t37 (.bool false))) fun J=>
 Z0 (Zj j (.bool true) J) fun K=>
 Zk K
  (some (x7,g.2))
  (TM x2 x3 x4 x7 H0 g.2):=Za [3,5,6,9]
theorem Qj:Uy x2 x3 x4 x7 H0 H =
 Z0 (Zl (.slice 9) x2) fun g=>
 Z0 (Z5 .lss x7 g) fun j=>
 Zk j
  (TL x2 x3 x4 x7 H0 H)
  (TK H0 H):=(ZD (C:=cfg) [3,5,6,9] (Zm 0 (Sh H0)) _ _).trans (by kernel_rfl)
theorem Dz:TJ x2 x3 x4 H0 H =
 Uy x2 x3 x4 (.int .i64 1) H0 H:=Za [3,5,6,9]
theorem Ig:KJ [p0,p1,p2] H=Nd p0 p1 p2 H:=Be 41 [3,5,6,9] Tryz.func29
def ZcL:Z4:=Y6 cfg (Z9 cfg) (ZZ cfg (cfg.keep 37) 45) (cfg.keep 37) 45 Zc Z6 (sub (Z1 Tryz.f37) [1,1,1,1]) (Zi cfg 45 37 Tryz.f37 H0) [] H
def Ry:KL:=Zc (fun k g H=>Y6 cfg (Z9 cfg) (ZZ cfg (cfg.keep 37) 45) (cfg.keep 37) 45 Zc Z6 (sub (Z1 Tryz.f37) [1,1,1,1]) k (ZS (cfg.keep 37) (sub (Z1 Tryz.f37) [1,1,1,1]) g) H) (Zi cfg 45 37 Tryz.f37 H0)
theorem ZeP:ZU 45 (Ry H0):=Zx (C:=cfg) (kp:=cfg.keep 37) (sub (Z1 Tryz.f37) [1,1,1,1]) (ZB 37 Tryz.f37 H0)
def ZcN:Z4:=Y6 cfg (Z9 cfg) (ZZ cfg (cfg.keep 37) 45) (cfg.keep 37) 45 Zc Z6 (sub (Z1 Tryz.f37) [1,1,1,0,1,0,0,1,1]) (Zc (fun k g H=>ZZ cfg (cfg.keep 37) 45 (sub (Z1 Tryz.f37) [1,1,1,0,1,0,0]) k (ZS (cfg.keep 37) (sub (Z1 Tryz.f37) [1,1,1,0,1,0,0]) g) H) (Z6 0 (Ry H0))) [(1,x1),(3,x3)] H
def ZcM:Z4:=Y6 cfg (Z9 cfg) (ZZ cfg (cfg.keep 37) 45) (cfg.keep 37) 45 Zc Z6 (sub (Z1 Tryz.f37) [1,1,1,0,1,0,0,1]) (Zc (fun k g H=>ZZ cfg (cfg.keep 37) 45 (sub (Z1 Tryz.f37) [1,1,1,0,1,0,0]) k (ZS (cfg.keep 37) (sub (Z1 Tryz.f37) [1,1,1,0,1,0,0]) g) H) (Z6 0 (Ry H0))) [(1,x1),(3,x3)] H
def Rz:Z4:=ZZ cfg (cfg.keep 37) 45 (sub (Z1 Tryz.f37) [1,1,1,0,1,0,0]) (Z6 0 (Ry H0)) [(1,x1),(3,x3)] H
def ZcK:Z4:=Y6 cfg (Z9 cfg) (ZZ cfg (cfg.keep 37) 45) (cfg.keep 37) 45 Zc Z6 (sub (Z1 Tryz.f37) [1,1,1]) (Zi cfg 45 37 Tryz.f37 H0) [(1,x1)] H
def ZcJ:Z4:=Y6 cfg (Z9 cfg) (ZZ cfg (cfg.keep 37) 45) (cfg.keep 37) 45 Zc Z6 (sub (Z1 Tryz.f37) [1,1]) (Zi cfg 45 37 Tryz.f37 H0) [(1,x1)] H
def Zfe:Z4:=
 Z0 (ZO p0 H) fun g=>
 Z0 (Z7 0 g.1) fun t4=>
 Z0 (Z3 false 1 t4 g.2) fun t5=>
 Z0 (Zl (.slice 119) t5) fun j=>
 Z0 (Z5 .gtr j (.int .i64 8)) fun u=>
 Zk u
  (some ((.int .i64 3),g.2))
  (ZcJ g.1 H g.2)
theorem Zhg:ZcL H0 H =
 some ((.int .i64 0),H):=Za [3,5,7,8,10]
theorem Zhi:ZcN x1 x3 H0 H =
 Z0 (Z5 .add x3 (.int .i64 1)) fun t37=>
 Rz x1 t37 H0 H:=Za [3,5,7,8,10]
theorem Zhh:ZcM x1 x3 H0 H =
 Z0 (Z7 0 x1) fun j=>
 Z0 (Z3 false 1 j H) fun u=>
 Z0 (Zn 5 u x3) fun w=>
 Z0 (Z3 true 5 w H) fun y=>
 Z0 (Ze PW [y] H) fun g=>
 Z0 (Xv .not g.1) fun z=>
 Zk z
  (some ((.int .i64 2),g.2))
  (ZcN x1 x3 H0 g.2):=Za [3,5,7,8,10]
theorem CI:Rz x1 x3 H0 H =
 Z0 (Z7 0 x1) fun g=>
 Z0 (Z3 false 1 g H) fun j=>
 Z0 (Zl (.slice 119) j) fun u=>
 Z0 (Z5 .lss x3 u) fun w=>
 Zk w
  (ZcM x1 x3 H0 H)
  (ZcL H0 H):=(ZD (C:=cfg) [3,5,7,8,10] (Zm 0 (ZeP H0)) _ _).trans (by kernel_rfl)
theorem Zhf:ZcK x1 H0 H =
 Rz x1 (.int .i64 0) H0 H:=Za [3,5,7,8,10]
theorem Zhe:ZcJ x1 H0 H =
 Z0 (Z7 1 x1) fun N=>
 Z0 (Z3 false 1 N H) fun t9=>
 Z0 (Z5 .lss t9 (.int .i64 (-1))) fun g=>
 Z0 (Z8 g false (.tuple []) (Z7 1 x1)) fun y=>
 Z0 (Z8 g false (.tuple []) (Z3 false 1 y H)) fun z=>
 Z0 (Z8 g false (.tuple []) (Z5 .gtr z (.int .i64 255))) fun A=>
 Z0 (Zj g (.bool true) A) fun j=>
 Z0 (Z8 j false (.tuple []) (Z7 1 x1)) fun B=>
 Z0 (Z8 j false (.tuple []) (Z3 false 1 B H)) fun C=>
 Z0 (Z8 j false (.tuple []) (Z5 .eql C (.int .i64 10))) fun D=>
 Z0 (Zj j (.bool true) D) fun u=>
 Z0 (Z8 u false (.tuple []) (Z7 2 x1)) fun E=>
 Z0 (Z8 u false (.tuple []) (Z3 false 1 E H)) fun F=>
 Z0 (Z8 u false (.tuple []) (Z5 .lss F (.int .i64 0))) fun I=>
 Z0 (Zj u (.bool true) I) fun w=>
 Z0 (Z8 w false (.tuple []) (Z7 2 x1)) fun J=>
 Z0 (Z8 w false (.tuple []) (Z3 false 1 J H)) fun K=>
 Z0 (Z8 w false (.tuple []) (Z5 .gtr K (.int .i64 31))) fun L=>
 Z0 (Zj w (.bool true) L) fun M=>
 Zk M
  (some ((.int .i64 2),H))
  (ZcK x1 H0 H):=Za [3,5,7,8,10]
theorem ZiX:PV [p0] H=Zfe p0 H:=Be 45 [3,5,7,8,10] Tryz.func37
def Sz:Z4:=Y6 cfg (Z9 cfg) (ZZ cfg (cfg.keep 52) 78) (cfg.keep 52) 78 Zc Z6 (sub (Z1 Tryz.f52) [1,1,1,1]) (Zi cfg 78 52 Tryz.f52 H0) [] H
def JB:KL:=Zc (fun k g H=>Y6 cfg (Z9 cfg) (ZZ cfg (cfg.keep 52) 78) (cfg.keep 52) 78 Zc Z6 (sub (Z1 Tryz.f52) [1,1,1,1]) k (ZS (cfg.keep 52) (sub (Z1 Tryz.f52) [1,1,1,1]) g) H) (Zi cfg 78 52 Tryz.f52 H0)
theorem O3:ZU 78 (JB H0):=Zx (C:=cfg) (kp:=cfg.keep 52) (sub (Z1 Tryz.f52) [1,1,1,1]) (ZB 52 Tryz.f52 H0)
def Fl:Z4:=Y6 cfg (Z9 cfg) (ZZ cfg (cfg.keep 52) 78) (cfg.keep 52) 78 Zc Z6 (sub (Z1 Tryz.f52) [1,1,1,0,1,0,0,1,1,1]) (Zc (fun k g H=>ZZ cfg (cfg.keep 52) 78 (sub (Z1 Tryz.f52) [1,1,1,0,1,0,0]) k (ZS (cfg.keep 52) (sub (Z1 Tryz.f52) [1,1,1,0,1,0,0]) g) H) (Z6 0 (JB H0))) [(33,x33),(34,x34),(35,x35)] H
def Fk:Z4:=Y6 cfg (Z9 cfg) (ZZ cfg (cfg.keep 52) 78) (cfg.keep 52) 78 Zc Z6 (sub (Z1 Tryz.f52) [1,1,1,0,1,0,0,1,1]) (Zc (fun k g H=>ZZ cfg (cfg.keep 52) 78 (sub (Z1 Tryz.f52) [1,1,1,0,1,0,0]) k (ZS (cfg.keep 52) (sub (Z1 Tryz.f52) [1,1,1,0,1,0,0]) g) H) (Z6 0 (JB H0))) [(33,x33),(34,x34),(35,x35),(36,x36)] H
def JC:Z4:=ZZ cfg (cfg.keep 52) 78 (sub (Z1 Tryz.f52) [1,1,1,0,1,0,0]) (Z6 0 (JB H0)) [(33,x33),(34,x34),(35,x35)] H
def Sy:Z4:=Y6 cfg (Z9 cfg) (ZZ cfg (cfg.keep 52) 78) (cfg.keep 52) 78 Zc Z6 (sub (Z1 Tryz.f52) [1,1,1]) (Zi cfg 78 52 Tryz.f52 H0) [(1,x1)] H
def Sx:Z4:=Y6 cfg (Z9 cfg) (ZZ cfg (cfg.keep 52) 78) (cfg.keep 52) 78 Zc Z6 (sub (Z1 Tryz.f52) [1,1]) (Zi cfg 78 52 Tryz.f52 H0) [(1,x1)] H
def Cy:Z4:=
 Z0 (ZO p0 H) fun g=>
 Z0 (Z7 0 g.1) fun t5=>
 Z0 (Z3 false 1 t5 g.2) fun j=>
 Z0 (Zl (.slice 119) j) fun u=>
 Z0 (Z5 .gtr u (.int .i64 8)) fun w=>
 Zk w
  (some ((.int .i64 3),g.2))
  (Sx g.1 H g.2)
theorem ZbM:Sz H0 H =
 some ((.int .i64 0),H):=Za [3,5,7,10,11]
theorem ZbO:Fl x33 x34 x35 H0 H =
 Z0 (Z5 .add x35 (.int .i64 1)) fun g=>
 JC x33 x34 g H0 H:=Za [3,5,7,10,11]
theorem ZbN:Fk x33 x34 x35 x36 H0 H =
 Z0 (Zn 5 x33 x35) fun t37=>
 Z0 (Z3 true 5 t37 H) fun D=>
 Z0 (some ((.ptr H.length 0),H++[.cells [(.int .i64 0),(.int .i64 0),(.int .i64 0),(.int .i64 0),(.int .i64 0)]])) fun u=>
 Z0 (Zf 5 u.1 D u.2) fun g=>
 Z0 (Z7 0 u.1) fun E=>
 Z0 (Z3 false 1 E g.2) fun F=>
 Z0 (Z5 .lss F (.int .i64 1)) fun w=>
 Z0 (Z8 w false (.tuple []) (Z7 1 u.1)) fun I=>
 Z0 (Z8 w false (.tuple []) (Z3 false 1 I g.2)) fun J=>
 Z0 (Z8 w false (.tuple []) (Z5 .lss J (.int .i64 1))) fun K=>
 Z0 (Zj w (.bool true) K) fun y=>
 Z0 (Z8 y false (.tuple []) (Z7 2 u.1)) fun L=>
 Z0 (Z8 y false (.tuple []) (Z3 false 1 L g.2)) fun M=>
 Z0 (Z8 y false (.tuple []) (Z5 .lss M (.int .i64 0))) fun N=>
 Z0 (Zj y (.bool true) N) fun z=>
 Z0 (Z8 z false (.tuple []) (Z7 3 u.1)) fun O=>
 Z0 (Z8 z false (.tuple []) (Z3 false 1 O g.2)) fun Q=>
 Z0 (Z8 z false (.tuple []) (Z5 .lss Q (.int .i64 0))) fun R=>
 Z0 (Zj z (.bool true) R) fun j=>
 Z0 (Z8 j false (.tuple []) (Z7 2 u.1)) fun S=>
 Z0 (Z8 j false (.tuple []) (Z3 false 1 S g.2)) fun T=>
 Z0 (Z8 j false (.tuple []) (Z5 .eql T (.int .i64 0))) fun U=>
 Z0 (Z8 j false (.tuple []) (some U)) fun A=>
 Z0 (Z8 A true (.tuple []) (Z7 3 u.1)) fun V=>
 Z0 (Z8 A true (.tuple []) (Z3 false 1 V g.2)) fun W=>
 Z0 (Z8 A true (.tuple []) (Z5 .neq W (.int .i64 0))) fun X=>
 Z0 (Z8 j false (.tuple []) (Zj A X (.bool false))) fun Y=>
 Z0 (Zj j (.bool true) Y) fun B=>
 Z0 (Z8 B false (.tuple []) (Z7 4 u.1)) fun Z=>
 Z0 (Z8 B false (.tuple []) (Z3 false 1 Z g.2)) fun aa=>
 Z0 (Z8 B false (.tuple []) (Z5 .lss aa (.int .i64 0))) fun t70=>
 Z0 (Zj B (.bool true) t70) fun C=>
 Z0 (Z8 C false (.tuple []) (Z7 4 u.1)) fun ab=>
 Z0 (Z8 C false (.tuple []) (Z3 false 1 ab g.2)) fun ac=>
 Z0 (Z8 C false (.tuple []) (Z5 .gtr ac (.int .i64 31))) fun ad=>
 Z0 (Zj C (.bool true) ad) fun ae=>
 Zk ae
  (some ((.int .i64 2),g.2))
  (Fl x33 x34 x35 H0 g.2):=Za [3,5,7,10,11]
theorem TQ:JC x33 x34 x35 H0 H =
 Z0 (Z5 .lss x35 x34) fun g=>
 Zk g
  (Fk x33 x34 x35 g H0 H)
  (Sz H0 H):=(ZD (C:=cfg) [3,5,7,10,11] (Zm 0 (O3 H0)) _ _).trans (by kernel_rfl)
theorem ZbL:Sy x1 H0 H =
 Z0 (Z7 0 x1) fun j=>
 Z0 (Z3 false 1 j H) fun g=>
 Z0 (Zl (.slice 119) g) fun u=>
 JC g u (.int .i64 0) H0 H:=Za [3,5,7,10,11]
theorem ZbK:Sx x1 H0 H =
 Z0 (Z7 1 x1) fun t9=>
 Z0 (Z3 false 1 t9 H) fun y=>
 Z0 (Z5 .lss y (.int .i64 (-1))) fun g=>
 Z0 (Z8 g false (.tuple []) (Z7 1 x1)) fun z=>
 Z0 (Z8 g false (.tuple []) (Z3 false 1 z H)) fun A=>
 Z0 (Z8 g false (.tuple []) (Z5 .gtr A (.int .i64 255))) fun B=>
 Z0 (Zj g (.bool true) B) fun j=>
 Z0 (Z8 j false (.tuple []) (Z7 1 x1)) fun C=>
 Z0 (Z8 j false (.tuple []) (Z3 false 1 C H)) fun D=>
 Z0 (Z8 j false (.tuple []) (Z5 .eql D (.int .i64 10))) fun E=>
 Z0 (Zj j (.bool true) E) fun u=>
 Z0 (Z8 u false (.tuple []) (Z7 2 x1)) fun F=>
 Z0 (Z8 u false (.tuple []) (Z3 false 1 F H)) fun I=>
 Z0 (Z8 u false (.tuple []) (Z5 .lss I (.int .i64 0))) fun J=>
 Z0 (Zj u (.bool true) J) fun w=>
 Z0 (Z8 w false (.tuple []) (Z7 2 x1)) fun K=>
 Z0 (Z8 w false (.tuple []) (Z3 false 1 K H)) fun L=>
 Z0 (Z8 w false (.tuple []) (Z5 .gtr L (.int .i64 31))) fun M=>
 Z0 (Zj w (.bool true) M) fun N=>
 Zk N
  (some ((.int .i64 2),H))
  (Sy x1 H0 H):=Za [3,5,7,10,11]
theorem Zcq:Xc [p0] H=Cy p0 H:=Be 78 [3,5,7,10,11] Tryz.func52
def Er:Z4:=Y6 cfg (Z9 cfg) (ZZ cfg (cfg.keep 71) 39) (cfg.keep 71) 39 Zc Z6 (sub (Z1 Tryz.f71) [1,1]) (Zi cfg 39 71 Tryz.f71 H0) [(1,x1)] H
def Zff:Z4:=
 Z0 (ZO p0 H) fun g=>
 Z0 (Z7 0 g.1) fun t3=>
 Z0 (Z3 false 1 t3 g.2) fun t4=>
 Z0 (Z5 .lss t4 (.int .i64 1)) fun t5=>
 Z0 (Z8 t5 false (.tuple []) (Z7 1 g.1)) fun Q=>
 Z0 (Z8 t5 false (.tuple []) (Z3 false 1 Q g.2)) fun R=>
 Z0 (Z8 t5 false (.tuple []) (Z5 .lss R (.int .i64 1))) fun t9=>
 Z0 (Zj t5 (.bool true) t9) fun u=>
 Z0 (Z8 u false (.tuple []) (Z7 2 g.1)) fun z=>
 Z0 (Z8 u false (.tuple []) (Z3 false 1 z g.2)) fun A=>
 Z0 (Z8 u false (.tuple []) (Z5 .lss A (.int .i64 0))) fun B=>
 Z0 (Zj u (.bool true) B) fun w=>
 Z0 (Z8 w false (.tuple []) (Z7 3 g.1)) fun C=>
 Z0 (Z8 w false (.tuple []) (Z3 false 1 C g.2)) fun D=>
 Z0 (Z8 w false (.tuple []) (Z5 .lss D (.int .i64 0))) fun E=>
 Z0 (Zj w (.bool true) E) fun j=>
 Z0 (Z8 j false (.tuple []) (Z7 2 g.1)) fun F=>
 Z0 (Z8 j false (.tuple []) (Z3 false 1 F g.2)) fun I=>
 Z0 (Z8 j false (.tuple []) (Z5 .eql I (.int .i64 0))) fun J=>
 Z0 (Z8 j false (.tuple []) (some J)) fun y=>
 Z0 (Z8 y true (.tuple []) (Z7 3 g.1)) fun K=>
 Z0 (Z8 y true (.tuple []) (Z3 false 1 K g.2)) fun L=>
 Z0 (Z8 y true (.tuple []) (Z5 .neq L (.int .i64 0))) fun M=>
 Z0 (Z8 j false (.tuple []) (Zj y M (.bool false))) fun N=>
 Z0 (Zj j (.bool true) N) fun O=>
 Zk O
  (some ((.bool false),g.2))
  (Er g.1 H g.2)
theorem Zhj:Er x1 H0 H =
 Z0 (Z7 4 x1) fun j=>
 Z0 (Z3 false 1 j H) fun u=>
 Z0 (Z5 .geq u (.int .i64 0)) fun g=>
 Z0 (Z8 g true (.tuple []) (Z7 4 x1)) fun w=>
 Z0 (Z8 g true (.tuple []) (Z3 false 1 w H)) fun y=>
 Z0 (Z8 g true (.tuple []) (Z5 .leq y (.int .i64 31))) fun t37=>
 Z0 (Zj g t37 (.bool false)) fun z=>
 some (z,H):=Za [3]
theorem ZiY:PW [p0] H=Zff p0 H:=Be 39 [3] Tryz.func71
def NN:Z4:=Y6 cfg (Z9 cfg) (ZZ cfg (cfg.keep 89) 70) (cfg.keep 89) 70 Zc Z6 (sub (Z1 Tryz.f89) [1,1,1,1,1,1,1]) (Zi cfg 70 89 Tryz.f89 H0) [(0,x0),(7,x7),(10,x10)] H
def W8:Z4:=Y6 cfg (Z9 cfg) (ZZ cfg (cfg.keep 89) 70) (cfg.keep 89) 70 Zc Z6 (sub (Z1 Tryz.f89) [1,1,1,1,1,1]) (Zi cfg 70 89 Tryz.f89 H0) [(0,x0),(7,x7),(10,x10)] H
def NM:Z4:=Y6 cfg (Z9 cfg) (ZZ cfg (cfg.keep 89) 70) (cfg.keep 89) 70 Zc Z6 (sub (Z1 Tryz.f89) [1,1,1]) (Zi cfg 70 89 Tryz.f89 H0) [(0,x0),(2,x2),(4,x4),(7,x7),(8,x8)] H
def MM:Z4:=
 Z0 (ZO p1 H) fun j=>
 Z0 (Z7 0 j.1) fun u=>
 Z0 (Z3 false 1 u j.2) fun w=>
 Z0 (Ki w (.int .i64 1)) fun y=>
 Z0 (Kg [p0,y,p2] j.2) fun g=>
 Z0 (ZT g.1 0) fun z=>
 Z0 (ZT g.1 1) fun A=>
 Z0 (ZT g.1 2) fun B=>
 Z0 (Xv .not B) fun C=>
 Zk C
  (some ((.str []),g.2))
  (NM p0 p2 j.1 z A H g.2)
theorem Ob:NN x0 x7 x10 H0 H =
 Z0 (Yj x0 (some x7) (some x10) none) fun g=>
 some (g,H):=Za [4,12,14]
theorem Oa:W8 x0 x7 x10 H0 H =
 Z0 (Z5 .lss x10 x7) fun g=>
 Zk g
  (some ((.str []),H))
  (NN x0 x7 x10 H0 H):=Za [4,12,14]
theorem O9:NM x0 x2 x4 x7 x8 H0 H =
 Z0 (Z7 1 x4) fun y=>
 Z0 (Z3 false 1 y H) fun z=>
 Z0 (Ki z (.int .i64 1)) fun A=>
 Z0 (Z5 .sub A (.int .i64 1)) fun B=>
 Z0 (Z5 .sub x8 x7) fun C=>
 Z0 (UU B C) fun D=>
 Z0 (Z5 .add x7 D) fun j=>
 Z0 (Zl .string x0) fun t37=>
 Z0 (Z7 2 x4) fun E=>
 Z0 (Z3 false 1 E H) fun F=>
 Z0 (Z5 .gtr F (.int .i64 0)) fun I=>
 Zk I
  (Z0 (Z7 2 x4) fun J=>
  Z0 (Z3 false 1 J H) fun K=>
  Z0 (Kg [x0,K,x2] H) fun g=>
  Z0 (ZT g.1 0) fun u=>
  Z0 (ZT g.1 1) fun w=>
  Z0 (ZT g.1 2) fun L=>
  Zk L
   (Z0 (Z7 3 x4) fun M=>
   Z0 (Z3 false 1 M g.2) fun N=>
   Z0 (Z5 .gtr N (.int .i64 0)) fun O=>
   Zk O
    (Z0 (Z7 3 x4) fun Q=>
    Z0 (Z3 false 1 Q g.2) fun R=>
    Z0 (Z5 .sub w u) fun S=>
    Z0 (UU R S) fun T=>
    Z0 (Z5 .add u T) fun U=>
    W8 x0 j U H0 g.2)
    (W8 x0 j w H0 g.2))
   (W8 x0 j t37 H0 g.2))
  (W8 x0 j t37 H0 H):=Za [4,12,14]
theorem Ol:Qo [p0,p1,p2] H=MM p0 p1 p2 H:=Be 70 [4,12,14] Tryz.func89
def Ih:Z4:=
 Z0 (ZO p0 H) fun g=>
 Z0 (some ((.ptr g.2.length 0),g.2++[.cells [(.str []),.nils,(.str []),(.str []),.nils,.nils]])) fun A=>
 Z0 (Z7 1 g.1) fun t3=>
 Z0 (Z3 false 1 t3 A.2) fun t4=>
 Z0 (Ym 1 8 .nils t4 A.2) fun I=>
 Z0 (Z7 1 g.1) fun K=>
 Z0 (Zf 1 K I.1 I.2) fun z=>
 Z0 (Z7 4 g.1) fun L=>
 Z0 (Z3 false 1 L z.2) fun M=>
 Z0 (Ym 5 48 .nils M z.2) fun J=>
 Z0 (Z7 4 g.1) fun B=>
 Z0 (Zf 1 B J.1 J.2) fun j=>
 Z0 (Z7 5 g.1) fun C=>
 Z0 (Z3 false 1 C j.2) fun D=>
 Z0 (Ym 2 24 .nils D j.2) fun y=>
 Z0 (Z7 5 g.1) fun E=>
 Z0 (Zf 1 E y.1 y.2) fun u=>
 Z0 (Z3 true 6 g.1 u.2) fun F=>
 Z0 (Zf 6 A.1 F u.2) fun w=>
 Z0 (Z3 true 6 A.1 w.2) fun N=>
 some (N,w.2)
theorem ZeJ:Gf [p0] H=Ih p0 H:=Be 16 [] Tryz.func103
def SB:Z4:=Y6 cfg (Z9 cfg) (ZZ cfg (cfg.keep 120) 83) (cfg.keep 120) 83 Zc Z6 (sub (Z1 Tryz.f120) [1,1,1]) (Zi cfg 83 120 Tryz.f120 H0) [] H
def Uh:KL:=Zc (fun k g H=>Y6 cfg (Z9 cfg) (ZZ cfg (cfg.keep 120) 83) (cfg.keep 120) 83 Zc Z6 (sub (Z1 Tryz.f120) [1,1,1]) k (ZS (cfg.keep 120) (sub (Z1 Tryz.f120) [1,1,1]) g) H) (Zi cfg 83 120 Tryz.f120 H0)
theorem FX:ZU 83 (Uh H0):=Zx (C:=cfg) (kp:=cfg.keep 120) (sub (Z1 Tryz.f120) [1,1,1]) (ZB 120 Tryz.f120 H0)
def SD:Z4:=Y6 cfg (Z9 cfg) (ZZ cfg (cfg.keep 120) 83) (cfg.keep 120) 83 Zc Z6 (sub (Z1 Tryz.f120) [1,1,0,1,0,0,1,1]) (Zc (fun k g H=>ZZ cfg (cfg.keep 120) 83 (sub (Z1 Tryz.f120) [1,1,0,1,0,0]) k (ZS (cfg.keep 120) (sub (Z1 Tryz.f120) [1,1,0,1,0,0]) g) H) (Z6 2 (Uh H0))) [(0,x0),(1,x1),(6,x6),(11,x11)] H
def WX:KL:=Zc (fun k g H=>Y6 cfg (Z9 cfg) (ZZ cfg (cfg.keep 120) 83) (cfg.keep 120) 83 Zc Z6 (sub (Z1 Tryz.f120) [1,1,0,1,0,0,1,1]) k (ZS (cfg.keep 120) (sub (Z1 Tryz.f120) [1,1,0,1,0,0,1,1]) g) H) (Zc (fun k g H=>ZZ cfg (cfg.keep 120) 83 (sub (Z1 Tryz.f120) [1,1,0,1,0,0]) k (ZS (cfg.keep 120) (sub (Z1 Tryz.f120) [1,1,0,1,0,0]) g) H) (Z6 2 (Uh H0)))
theorem FY:ZU 83 (WX H0):=Zx (C:=cfg) (kp:=cfg.keep 120) (sub (Z1 Tryz.f120) [1,1,0,1,0,0,1,1]) (NQ (C:=cfg) (kp:=cfg.keep 120) (sub (Z1 Tryz.f120) [1,1,0,1,0,0]) (Zm 2 (FX H0)))
def SE:Z4:=Y6 cfg (Z9 cfg) (ZZ cfg (cfg.keep 120) 83) (cfg.keep 120) 83 Zc Z6 (sub (Z1 Tryz.f120) [1,1,0,1,0,0,1,0,0,1,1,1,1]) (Z6 3 (WX H0)) [(0,x0),(1,x1),(7,x7),(11,x11)] H
def Fq:Z4:=Y6 cfg (Z9 cfg) (ZZ cfg (cfg.keep 120) 83) (cfg.keep 120) 83 Zc Z6 (sub (Z1 Tryz.f120) [1,1,0,1,0,0,1,0,0,1,1,1]) (Z6 3 (WX H0)) [(0,x0),(1,x1),(6,x6),(7,x7),(11,x11)] H
def Fr:KL:=Zc (fun k g H=>Y6 cfg (Z9 cfg) (ZZ cfg (cfg.keep 120) 83) (cfg.keep 120) 83 Zc Z6 (sub (Z1 Tryz.f120) [1,1,0,1,0,0,1,0,0,1,1,1]) k (ZS (cfg.keep 120) (sub (Z1 Tryz.f120) [1,1,0,1,0,0,1,0,0,1,1,1]) g) H) (Z6 3 (WX H0))
theorem Oc:ZU 83 (Fr H0):=Zx (C:=cfg) (kp:=cfg.keep 120) (sub (Z1 Tryz.f120) [1,1,0,1,0,0,1,0,0,1,1,1]) (Zm 3 (FY H0))
def SF:Z4:=Y6 cfg (Z9 cfg) (ZZ cfg (cfg.keep 120) 83) (cfg.keep 120) 83 Zc Z6 (sub (Z1 Tryz.f120) [1,1,0,1,0,0,1,0,0,1,1,0,0,0,1]) (Zc (fun k g H=>ZZ cfg (cfg.keep 120) 83 (sub (Z1 Tryz.f120) [1,1,0,1,0,0,1,0,0,1,1,0,0,0]) k (ZS (cfg.keep 120) (sub (Z1 Tryz.f120) [1,1,0,1,0,0,1,0,0,1,1,0,0,0]) g) H) (Z6 6 (Fr H0))) [(0,x0),(1,x1),(6,x6),(7,x7),(11,x11)] H
def JF:Z4:=ZZ cfg (cfg.keep 120) 83 (sub (Z1 Tryz.f120) [1,1,0,1,0,0,1,0,0,1,1,0,0,0]) (Z6 6 (Fr H0)) [(0,x0),(1,x1),(6,x6),(7,x7),(11,x11)] H
def Fp:Z4:=Y6 cfg (Z9 cfg) (ZZ cfg (cfg.keep 120) 83) (cfg.keep 120) 83 Zc Z6 (sub (Z1 Tryz.f120) [1,1,0,1,0,0,1,0,0,1,1]) (Z6 3 (WX H0)) [(0,x0),(1,x1),(6,x6),(7,x7),(11,x11)] H
def Ft:KL:=Zc (fun k g H=>Y6 cfg (Z9 cfg) (ZZ cfg (cfg.keep 120) 83) (cfg.keep 120) 83 Zc Z6 (sub (Z1 Tryz.f120) [1,1,0,1,0,0,1,0,0,1,1]) k (ZS (cfg.keep 120) (sub (Z1 Tryz.f120) [1,1,0,1,0,0,1,0,0,1,1]) g) H) (Z6 3 (WX H0))
theorem Od:ZU 83 (Ft H0):=Zx (C:=cfg) (kp:=cfg.keep 120) (sub (Z1 Tryz.f120) [1,1,0,1,0,0,1,0,0,1,1]) (Zm 3 (FY H0))
def SG:Z4:=Y6 cfg (Z9 cfg) (ZZ cfg (cfg.keep 120) 83) (cfg.keep 120) 83 Zc Z6 (sub (Z1 Tryz.f120) [1,1,0,1,0,0,1,0,0,1,0,0,0,1]) (Zc (fun k g H=>ZZ cfg (cfg.keep 120) 83 (sub (Z1 Tryz.f120) [1,1,0,1,0,0,1,0,0,1,0,0,0]) k (ZS (cfg.keep 120) (sub (Z1 Tryz.f120) [1,1,0,1,0,0,1,0,0,1,0,0,0]) g) H) (Z6 4 (Ft H0))) [(0,x0),(1,x1),(6,x6),(7,x7),(11,x11)] H
def JG:Z4:=ZZ cfg (cfg.keep 120) 83 (sub (Z1 Tryz.f120) [1,1,0,1,0,0,1,0,0,1,0,0,0]) (Z6 4 (Ft H0)) [(0,x0),(1,x1),(6,x6),(7,x7),(11,x11)] H
def SC:Z4:=Y6 cfg (Z9 cfg) (ZZ cfg (cfg.keep 120) 83) (cfg.keep 120) 83 Zc Z6 (sub (Z1 Tryz.f120) [1,1,0,1,0,0,1]) (Zc (fun k g H=>ZZ cfg (cfg.keep 120) 83 (sub (Z1 Tryz.f120) [1,1,0,1,0,0]) k (ZS (cfg.keep 120) (sub (Z1 Tryz.f120) [1,1,0,1,0,0]) g) H) (Z6 2 (Uh H0))) [(0,x0),(1,x1),(6,x6),(11,x11)] H
def JE:Z4:=ZZ cfg (cfg.keep 120) 83 (sub (Z1 Tryz.f120) [1,1,0,1,0,0]) (Z6 2 (Uh H0)) [(0,x0),(1,x1),(6,x6),(11,x11)] H
def Fo:Z4:=Y6 cfg (Z9 cfg) (ZZ cfg (cfg.keep 120) 83) (cfg.keep 120) 83 Zc Z6 (sub (Z1 Tryz.f120) [1,1]) (Zi cfg 83 120 Tryz.f120 H0) [(0,x0),(1,x1),(6,x6)] H
def JD:KL:=Zc (fun k g H=>Y6 cfg (Z9 cfg) (ZZ cfg (cfg.keep 120) 83) (cfg.keep 120) 83 Zc Z6 (sub (Z1 Tryz.f120) [1,1]) k (ZS (cfg.keep 120) (sub (Z1 Tryz.f120) [1,1]) g) H) (Zi cfg 83 120 Tryz.f120 H0)
theorem Oe:ZU 83 (JD H0):=Zx (C:=cfg) (kp:=cfg.keep 120) (sub (Z1 Tryz.f120) [1,1]) (ZB 120 Tryz.f120 H0)
def L7:Z4:=Y6 cfg (Z9 cfg) (ZZ cfg (cfg.keep 120) 83) (cfg.keep 120) 83 Zc Z6 (sub (Z1 Tryz.f120) [1,0,1,0,1,0,0,1]) (Zc (fun k g H=>ZZ cfg (cfg.keep 120) 83 (sub (Z1 Tryz.f120) [1,0,1,0,1,0,0]) k (ZS (cfg.keep 120) (sub (Z1 Tryz.f120) [1,0,1,0,1,0,0]) g) H) (Z6 0 (JD H0))) [(0,x0),(1,x1),(2,x2),(6,x6),(9,x9)] H
def SH:KL:=Zc (fun k g H=>Y6 cfg (Z9 cfg) (ZZ cfg (cfg.keep 120) 83) (cfg.keep 120) 83 Zc Z6 (sub (Z1 Tryz.f120) [1,0,1,0,1,0,0,1]) k (ZS (cfg.keep 120) (sub (Z1 Tryz.f120) [1,0,1,0,1,0,0,1]) g) H) (Zc (fun k g H=>ZZ cfg (cfg.keep 120) 83 (sub (Z1 Tryz.f120) [1,0,1,0,1,0,0]) k (ZS (cfg.keep 120) (sub (Z1 Tryz.f120) [1,0,1,0,1,0,0]) g) H) (Z6 0 (JD H0)))
def L9:Z4:=Y6 cfg (Z9 cfg) (ZZ cfg (cfg.keep 120) 83) (cfg.keep 120) 83 Zc Z6 (sub (Z1 Tryz.f120) [1,0,1,0,1,0,0,0,0,1,1,1]) (Z6 1 (SH H0)) [(0,x0),(1,x1),(2,x2),(6,x6),(9,x9),(10,x10)] H
def L8:Z4:=Y6 cfg (Z9 cfg) (ZZ cfg (cfg.keep 120) 83) (cfg.keep 120) 83 Zc Z6 (sub (Z1 Tryz.f120) [1,0,1,0,1,0,0,0,0,1,1]) (Z6 1 (SH H0)) [(0,x0),(1,x1),(2,x2),(6,x6),(9,x9),(10,x10)] H
def JH:Z4:=ZZ cfg (cfg.keep 120) 83 (sub (Z1 Tryz.f120) [1,0,1,0,1,0,0]) (Z6 0 (JD H0)) [(0,x0),(1,x1),(2,x2),(6,x6),(9,x9)] H
def CB:Z4:=
 Z0 (Z5 .geq p2 (.int .i64 0)) fun g=>
 Z0 (Z8 g true (.tuple []) (some p2)) fun j=>
 Z0 (Z8 g true (.tuple []) (Z5 .leq j (.int .i64 255))) fun u=>
 Z0 (Zj g u (.bool false)) fun w=>
 Zk w
  (JH p0 p1 p2 (.int .i64 0) (.int .i64 1) H H)
  (Fo p0 p1 (.int .i64 0) H H)
theorem ZbS:SB H0 H =
 some ((.tuple [(.int .i64 0),(.int .i64 0),(.bool false)]),H):=Za [3,7,9,10,12,13,15,16,17,18,20,21]
theorem ZbU:SD x0 x1 x6 x11 H0 H =
 Z0 (Z5 .add x11 (.int .i64 1)) fun g=>
 JE x0 x1 x6 g H0 H:=Za [3,7,9,10,12,13,15,16,17,18,20,21]
theorem ZbX:SE x0 x1 x7 x11 H0 H =
 SD x0 x1 x7 x11 H0 H:=Za [3,7,9,10,12,13,15,16,17,18,20,21]
theorem ZbW:Fq x0 x1 x6 x7 x11 H0 H =
 Z0 (Z5 .eql x11 x1) fun g=>
 Zk g
  (some ((.tuple [x6,x7,(.bool true)]),H))
  (SE x0 x1 x7 x11 H0 H):=Za [3,7,9,10,12,13,15,16,17,18,20,21]
theorem ZbY:SF x0 x1 x6 x7 x11 H0 H =
 Z0 (Z5 .add x7 (.int .i64 1)) fun g=>
 JF x0 x1 x6 g x11 H0 H:=Za [3,7,9,10,12,13,15,16,17,18,20,21]
theorem TR:JF x0 x1 x6 x7 x11 H0 H =
 Z0 (Zl .string x0) fun u=>
 Z0 (Z5 .lss x7 u) fun g=>
 Z0 (Z8 g true (.tuple []) (some x0)) fun w=>
 Z0 (Z8 g true (.tuple []) (some x7)) fun t70=>
 Z0 (Z8 g true (.tuple []) (Zz w t70)) fun y=>
 Z0 (Z8 g true ((.tuple []),H) (Vf [y] H)) fun j=>
 Z0 (Z8 g true (.tuple []) (Xv .not j.1)) fun z=>
 Z0 (Zj g z (.bool false)) fun A=>
 Zk A
  (SF x0 x1 x6 x7 x11 H0 j.2)
  (Fq x0 x1 x6 x7 x11 H0 j.2):=(ZD (C:=cfg) [3,7,9,10,12,13,15,16,17,18,20,21] (Zm 6 (Oc H0)) _ _).trans (by kernel_rfl)
theorem ZbV:Fp x0 x1 x6 x7 x11 H0 H =
 JF x0 x1 x6 x7 x11 H0 H:=Za [3,7,9,10,12,13,15,16,17,18,20,21]
theorem ZbZ:SG x0 x1 x6 x7 x11 H0 H =
 Z0 (Z5 .add x7 (.int .i64 1)) fun g=>
 JG x0 x1 x6 g x11 H0 H:=Za [3,7,9,10,12,13,15,16,17,18,20,21]
theorem TS:JG x0 x1 x6 x7 x11 H0 H =
 Z0 (Zl .string x0) fun u=>
 Z0 (Z5 .lss x7 u) fun g=>
 Z0 (Z8 g true (.tuple []) (some x0)) fun w=>
 Z0 (Z8 g true (.tuple []) (some x7)) fun y=>
 Z0 (Z8 g true (.tuple []) (Zz w y)) fun z=>
 Z0 (Z8 g true ((.tuple []),H) (Vf [z] H)) fun j=>
 Z0 (Zj g j.1 (.bool false)) fun A=>
 Zk A
  (SG x0 x1 x6 x7 x11 H0 j.2)
  (Fp x0 x1 x6 x7 x11 H0 j.2):=(ZD (C:=cfg) [3,7,9,10,12,13,15,16,17,18,20,21] (Zm 4 (Od H0)) _ _).trans (by kernel_rfl)
theorem ZbT:SC x0 x1 x6 x11 H0 H =
 JG x0 x1 x6 x6 x11 H0 H:=Za [3,7,9,10,12,13,15,16,17,18,20,21]
theorem Zc0:JE x0 x1 x6 x11 H0 H =
 Z0 (Zl .string x0) fun g=>
 Z0 (Z5 .lss x6 g) fun j=>
 Zk j
  (SC x0 x1 x6 x11 H0 H)
  (SB H0 H):=(ZD (C:=cfg) [3,7,9,10,12,13,15,16,17,18,20,21] (Zm 2 (FX H0)) _ _).trans (by kernel_rfl)
theorem ZbR:Fo x0 x1 x6 H0 H =
 JE x0 x1 x6 (.int .i64 1) H0 H:=Za [3,7,9,10,12,13,15,16,17,18,20,21]
theorem Zaw:L7 x0 x1 x2 x6 x9 H0 H =
 Z0 (Z5 .add x9 (.int .i64 1)) fun g=>
 JH x0 x1 x2 x6 g H0 H:=Za [3,7,9,10,12,13,15,16,17,18,20,21]
theorem Zay:L9 x0 x1 x2 x6 x9 x10 H0 H =
 Z0 (Z5 .add x10 (.int .i64 1)) fun g=>
 Z0 (Z5 .add x6 g) fun j=>
 L7 x0 x1 x2 j x9 H0 H:=Za [3,7,9,10,12,13,15,16,17,18,20,21]
theorem Zax:L8 x0 x1 x2 x6 x9 x10 H0 H =
 Z0 (Z5 .eql x9 x1) fun g=>
 Zk g
  (Z0 (Z5 .add x6 x10) fun j=>
  some ((.tuple [x6,j,(.bool true)]),H))
  (L9 x0 x1 x2 x6 x9 x10 H0 H):=Za [3,7,9,10,12,13,15,16,17,18,20,21]
theorem Zc1:JH x0 x1 x2 x6 x9 H0 H =
 Z0 (Yj x0 (some x6) none none) fun j=>
 Z0 (Wl .u8 x2) fun u=>
 Z0 (K8 [j,u] H) fun g=>
 Z0 (Z5 .lss g.1 (.int .i64 0)) fun w=>
 Zk w
  (Z0 (Zl .string x0) fun y=>
  Z0 (Z5 .eql x9 x1) fun z=>
  some ((.tuple [x6,y,z]),g.2))
  (L8 x0 x1 x2 x6 x9 g.1 H0 g.2):=(ZD (C:=cfg) [3,7,9,10,12,13,15,16,17,18,20,21] (Zm 0 (Oe H0)) _ _).trans (by kernel_rfl)
theorem Zct:Kg [p0,p1,p2] H=CB p0 p1 p2 H:=Be 83 [3,7,9,10,12,13,15,16,17,18,20,21] Tryz.func120
def CA:Z4:=
 Z0 (Z5 .eql p0 (.int .u8 32)) fun t4=>
 Z0 (Z8 t4 false (.tuple []) (some p0)) fun g=>
 Z0 (Z8 t4 false (.tuple []) (Z5 .eql g (.int .u8 9))) fun j=>
 Z0 (Zj t4 (.bool true) j) fun u=>
 some (u,H)
theorem Zcs:Vf [p0] H=CA p0 H:=Be 9 [] Tryz.func152
def Ts:Z4:=
 Z0 (U6 [p0,p1] H) fun g=>
 some (g.1,g.2)
theorem Ag:K8 [p0,p1] H=Ts p0 p1 H:=Be 8 [] Tryz.func156
def U9:Z4:=
 Z0 (AC .indexByte [p0,p1] H) fun g=>
 some (g.1,g.2)
theorem Gh:U6 [p0,p1] H=U9 p0 p1 H:=Be 8 [] Tryz.func183
theorem ZfY (a b args:List AV)(H:Hp):Yd cfg (Z9 cfg) (.fn (.func 55) a b) args H=Ze E2 (a++args++b) H:=by kernel_rfl
theorem ZfZ (a b args:List AV)(H:Hp):Yd cfg (Z9 cfg) (.fn (.func 58) a b) args H=Ze E3 (a++args++b) H:=by kernel_rfl
theorem ZeR (a b args:List AV)(H:Hp):Yd cfg (Z9 cfg) (.fn (.func 61) a b) args H=Ze MG (a++args++b) H:=by kernel_rfl
theorem ZeS (a b args:List AV)(H:Hp):Yd cfg (Z9 cfg) (.fn (.func 64) a b) args H=Ze MH (a++args++b) H:=by kernel_rfl
theorem ZcU (a b args:List AV)(H:Hp):Yd cfg (Z9 cfg) (.fn (.func 108) a b) args H=Ze UR (a++args++b) H:=by kernel_rfl
theorem Zcx (a b args:List AV)(H:Hp):Xu cfg (Z9 cfg) (.fn (.func 108) a b) args H=Ze UR (a++args++b) H:=by kernel_rfl
theorem Ow (a b args:List AV)(H:Hp):Yd cfg (Z9 cfg) (.fn (.func 110) a b) args H=J1 (a++args++b) H:=by kernel_rfl
theorem ZeT (a b args:List AV)(H:Hp):Yd cfg (Z9 cfg) (.fn (.func 114) a b) args H=BA (a++args++b) H:=by kernel_rfl
theorem ZeM (a b args:List AV)(H:Hp):Xu cfg (Z9 cfg) (.fn (.func 115) a b) args H=Ze BB (a++args++b) H:=by kernel_rfl
theorem Zj9 (a b args:List AV)(H:Hp):Xu cfg (Z9 cfg) (.fn (.func 117) a b) args H=Ze Pc (a++args++b) H:=by kernel_rfl
theorem ZeN (a b args:List AV)(H:Hp):Xu cfg (Z9 cfg) (.fn (.func 118) a b) args H=Ze BC (a++args++b) H:=by kernel_rfl
theorem ZjO:∀ f∈userList,Is Tryz.prog f:=
 Z2 Tryz.call3 (
 Z2 Tryz.call4 (
 Z2 Tryz.call5 (
 Z2 Tryz.call6 (
 Z2 Tryz.call7 (
 Z2 Tryz.call8 (
 Z2 Tryz.call9 (
 Z2 Tryz.call10 (
 Z2 Tryz.call11 (
 Z2 Tryz.call12 (
 Z2 Tryz.call13 (
 Z2 Tryz.call14 (
 Z2 Tryz.call15 (
 Z2 Tryz.call16 (
 Z2 Tryz.call17 (
 Z2 Tryz.call18 (
 Z2 Tryz.call19 (
 Z2 Tryz.call20 (
 Z2 Tryz.call21 (
 Z2 Tryz.call22 (
 Z2 Tryz.call23 (
 Z2 Tryz.call24 (
 Z2 Tryz.call25 (
 Z2 Tryz.call26 (
 Z2 Tryz.call27 (
 Z2 Tryz.call28 (
 Z2 Tryz.call29 (
 Z2 Tryz.call30 (
 Z2 Tryz.call31 (
 Z2 Tryz.call32 (
 Z2 Tryz.call33 (
 Z2 Tryz.call34 (
 Z2 Tryz.call35 (
 Z2 Tryz.call36 (
 Z2 Tryz.call37 (
 Z2 Tryz.call38 (
 Z2 Tryz.call39 (
 Z2 Tryz.call40 (
 Z2 Tryz.call41 (
 Z2 Tryz.call42 (
 Z2 Tryz.call43 (
 Z2 Tryz.call44 (
 Z2 Tryz.call45 (
 Z2 Tryz.call46 (
 Z2 Tryz.call47 (
 Z2 Tryz.call48 (
 Z2 Tryz.call49 (
 Z2 Tryz.call50 (
 Z2 Tryz.call51 (
 Z2 Tryz.call52 (
 Z2 Tryz.call53 (
 Z2 Tryz.call54 (
 Z2 Tryz.call55 (
 Z2 Tryz.call56 (
 Z2 Tryz.call57 (
 Z2 Tryz.call58 (
 Z2 Tryz.call59 (
 Z2 Tryz.call60 (
 Z2 Tryz.call61 (
 Z2 Tryz.call62 (
 Z2 Tryz.call63 (
 Z2 Tryz.call64 (
 Z2 Tryz.call65 (
 Z2 Tryz.call66 (
 Z2 Tryz.call67 (
 Z2 Tryz.call68 (
 Z2 Tryz.call69 (
 Z2 Tryz.call70 (
 Z2 Tryz.call71 (
 Z2 Tryz.call72 (
 Z2 Tryz.call73 (
 Z2 Tryz.call74 (
 Z2 Tryz.call75 (
 Z2 Tryz.call76 (
 Z2 Tryz.call77 (
 Z2 Tryz.call78 (
 Z2 Tryz.call79 (
 Z2 Tryz.call80 (
 Z2 Tryz.call81 (
 Z2 Tryz.call82 (
 Z2 Tryz.call83 (
 Z2 Tryz.call84 (
 Z2 Tryz.call85 (
 Z2 Tryz.call86 (
 Z2 Tryz.call87 (
 Z2 Tryz.call88 (
 Z2 Tryz.call89 (
 Z2 Tryz.call90 (
 Z2 Tryz.call91 (
 Z2 Tryz.call92 (
 Z2 Tryz.call93 (
 Z2 Tryz.call94 (
 Z2 Tryz.call95 (
 Z2 Tryz.call96 (
 Z2 Tryz.call97 (
 Z2 Tryz.call98 (
 Z2 Tryz.call99 (
 Z2 Tryz.call100 (
 Z2 Tryz.call101 (
 Z2 Tryz.call102 (
 Z2 Tryz.call103 (
 Z2 Tryz.call104 (
 Z2 Tryz.call105 (
 Z2 Tryz.call106 (
 Z2 Tryz.call107 (
 Z2 Tryz.call108 (
 Z2 Tryz.call109 (
 Z2 Tryz.call110 (
 Z2 Tryz.call111 (
 Z2 Tryz.call112 (
 Z2 Tryz.call113 (
 Z2 Tryz.call114 (
 Z2 Tryz.call115 (
 Z2 Tryz.call116 (
 Z2 Tryz.call117 (
 Z2 Tryz.call118 (
 Z2 Tryz.call119 (
 Z2 Tryz.call120 (
 Z2 Tryz.call121 (
 Z2 Tryz.call122 (
 Z2 Tryz.call123 (
 Z2 Tryz.call124 (
 Z2 Tryz.call125 (
 Z2 Tryz.call126 (
 Z2 Tryz.call127 (
 Z2 Tryz.call128 (
 Z2 Tryz.call129 (
 Z2 Tryz.call130 (
 Z2 Tryz.call131 (
 Z2 Tryz.call132 (
 Z2 Tryz.call133 (
 Z2 Tryz.call134 (
 Z2 Tryz.call135 (
 Z2 Tryz.call136 (
 Z2 Tryz.call137 (
 Z2 Tryz.call138 (
 Z2 Tryz.call139 (
 Z2 Tryz.call140 (
 Z2 Tryz.call141 (
 Z2 Tryz.call142 (
 Z2 Tryz.call143 (
 Z2 Tryz.call144 (
 Z2 Tryz.call145 (
 Z2 Tryz.call146 (
 Z2 Tryz.call147 (
 Z2 Tryz.call148 (
 Z2 Tryz.call149 (
 Z2 Tryz.call150 (
 Z2 Tryz.call151 (
 Z2 Tryz.call152 (
 Z2 Tryz.call153 (
 Z2 Tryz.call154 (
 Z2 Tryz.call155 (
 Z2 Tryz.call156 (
 Z2 Tryz.call157 (
 Z2 Tryz.call158 (
 Z2 Tryz.call159 (
 Z2 Tryz.call160 (
 Z2 Tryz.call161 (
 Z2 Tryz.call162 (
 Z2 Tryz.call163 (
 Z2 Tryz.call164 (
 Z2 Tryz.call165 (
 Z2 Tryz.call166 (
 Z2 Tryz.call167 (
 Z2 Tryz.call168 (
 Z2 Tryz.call169 (
 Z2 Tryz.call170 (
 Z2 Tryz.call171 (
 Z2 Tryz.call172 (
 Z2 Tryz.call173 (
 Z2 Tryz.call174 (
 Z2 Tryz.call175 (
 Z2 Tryz.call176 (
 Z2 Tryz.call178 (
 Z2 Tryz.call179 (
 Z2 Tryz.call180 (
 Z2 Tryz.call181 (
 Z2 Tryz.call182 (
 Z2 Tryz.call183 (
 Z2 Tryz.call184 (
 Z2 Tryz.call185 (
 Z2 Tryz.call186 (
 Z2 Tryz.call187 (
 Z2 Tryz.call188 (
 Z2 Tryz.call189 (
 Z2 Tryz.call190 (
 Z2 Tryz.call191 (
 Z2 Tryz.call192 (
 Z2 Tryz.call193 (
 Z2 Tryz.call194 (
 Z2 Tryz.call195 (
 Z2 Tryz.call196 (
 Z2 Tryz.call197 (
 Z2 Tryz.call198 (
 Z2 Tryz.call199 (
 Z2 Tryz.call202 (
 Z2 Tryz.call203 (
 Z2 Tryz.call204 (
 Z2 Tryz.call205 (
 Z2 Tryz.call206 (
 Z2 Tryz.call207 (
 Z2 Tryz.call208 (
 Z2 Tryz.call209 (
 Z2 Tryz.call210 (
 Z2 Tryz.call211 (
 Z2 Tryz.call213 (
 Z2 Tryz.call214 (
 Z2 Tryz.call215 (
 Z2 Tryz.call216 (
 Z2 Tryz.call217 (
 Z2 Tryz.call218 (
 Z2 Tryz.call219 (
 Z2 Tryz.call220 (
 Z2 Tryz.call221 (
 Z2 Tryz.call222 (
 Z2 Tryz.call223 (
 Z2 Tryz.call224 (
 Z2 Tryz.call225 (
 Z2 Tryz.call226 (
 Z2 Tryz.call227 (
 Z2 Tryz.call228 (
 Z2 Tryz.call229 (ZiL)))))))))))))))))))))))))))))))))))))))))))))))))))))))))))))))))))))))))))))))))))))))))))))))))))))))))))))))))))))))))))))))))))))))))))))))))))))))))))))))))))))))))))))))))))))))))))))))))))))))))))))))))))))))))))))))
theorem Zqn:∀ t∈eqList,Tryz.prog.stoodInHeld t=false/\Tryz.prog.eqGuardType Tryz.prog.depth t=false:=by
 intro t g;simp only[eqList,zB,zA,or_false]at g
theorem Zdf (args:Array Value)(w:World):(callFunc 177 args).run Tryz.prog w=(do pure (.value (<-BQ .cmp args)):Sem Next).run Tryz.prog w:=by kernel_rfl
theorem Zdg (args:Array Value)(w:World):(callFunc 200 args).run Tryz.prog w=(do pure (.value (<-BQ .same args)):Sem Next).run Tryz.prog w:=by kernel_rfl
theorem Zdh (args:Array Value)(w:World):(callFunc 201 args).run Tryz.prog w=(do pure (.value (<-BQ .indexByte args)):Sem Next).run Tryz.prog w:=by kernel_rfl
theorem Zmj:∀ f e,cfg.ext f=some e->∀ (args:Array Value) (w:World),(callFunc f args).run Tryz.prog w=(do pure (.value (<-BQ e args)):Sem Next).run Tryz.prog w:=by
 intro f e h;have g:=T5 (l:=extList) h;simp only[extList,zB,zD,zA,or_false]at g;rcases g with ⟨rfl,rfl⟩|⟨rfl,rfl⟩|⟨rfl,rfl⟩
 ·exact Zdf
 ·exact Zdg
 ·exact Zdh
theorem Znp:∀ f g,cfg.sum f=some g->cfg.user f=true/\Zho cfg f g:=by
 intro f g h;have j:=T5 (l:=sumList) h;simp only[sumList,zB,zD,zA,or_false]at j;rcases j with ⟨rfl,rfl⟩|⟨rfl,rfl⟩
 ·exact⟨by kernel_rfl,Zxr (C:=cfg) rfl (fun _=>rfl)⟩
 ·exact⟨by kernel_rfl,ZwB (C:=cfg) rfl (fun _=>rfl)⟩
theorem Zmc:∀ f g,cfg.eff f=some g->cfg.user f=true/\DV cfg f g:=by
 intro f g h;have j:=T5 (l:=effList) h;simp only[effList,zB,zD,zA,or_false]at j;rcases j with ⟨rfl,rfl⟩|⟨rfl,rfl⟩|⟨rfl,rfl⟩|⟨rfl,rfl⟩|⟨rfl,rfl⟩|⟨rfl,rfl⟩
 ·exact⟨by kernel_rfl,ZtY (C:=cfg) rfl (fun _=>rfl)⟩
 ·exact⟨by kernel_rfl,ZqN (C:=cfg) rfl (fun _=>rfl)⟩
 ·exact⟨by kernel_rfl,Zwp (C:=cfg) rfl (fun _=>rfl)⟩
 ·exact⟨by kernel_rfl,Zvt (C:=cfg) rfl (fun _=>rfl)⟩
 ·exact⟨by kernel_rfl,ZrK (C:=cfg) rfl (fun _=>rfl)⟩
 ·exact⟨by kernel_rfl,Zxp (C:=cfg) rfl (fun _=>rfl)⟩
theorem cfg_ok:VM cfg:=
 ⟨fun t h=>Zqn t (zC.1 h),fun f h=>ZjO f (zC.1 h),by kernel_rfl,Zmj,Znp,Zmc⟩
end
end Go.Am
