/-
  The functions of the translation over the abstract machine: written by program (wip/gen.py).
-/
import Derived.Test.YtehanadfidoodaaGreatDoorProg
import Derived.Test.YtehanadfidoodaaGreatDoorTkPgx
namespace Go.Am
open Go.Proofs
set_option maxRecDepth 100000
set_option linter.unusedVariables false
set_option linter.unusedSimpArgs false

def ZHb:List (Nat × List (Nat × List Nat)):=[(3,[(3,[2,3,4])]),
 (15,[(3,[2]),(4,[2,7]),(5,[2,7]),(6,[2,7]),(8,[])]),
 (16,[(3,[0,3,4]),(4,[0,3,4]),(5,[0,3,4]),(6,[3])]),
 (18,[(3,[0,1]),(4,[0,1,5]),(5,[0,1,5]),(6,[0,1,5]),(8,[])]),
 (19,[(3,[2,3,4]),(7,[3,4,7,8,9,10]),(8,[3,4,7,8,9]),(9,[3,4,7,8,9,10]),(11,[3,4,9]),(13,[9]),(1000003,[3,4])]),
 (20,[(4,[2,7,8]),(5,[2,7,8]),(6,[2,7,8]),(7,[7]),(8,[2,3,4,7]),(9,[2,3,4,7,9]),(11,[2,3,4,7,9,10,11]),(12,[2,3,4,7,9,10,11]),(13,[2,3,4,7,9,10,11]),(15,[2,3,4,7,9,10]),(17,[2,3,4,7,9,10])]),
 (31,[(4,[0,1,2,3,4]),(5,[0,1,2,3,4]),(6,[0,1,2,3,4]),(9,[0,1,2,3,4,5,6]),(11,[0,1,2,3,4,5,6]),(14,[0,1,2,3])]),
 (34,[(3,[2,3,4]),(6,[7]),(1000003,[3,4])]),
 (63,[(3,[2,3,4]),(4,[2,3,4,7]),(5,[2,3,4,7]),(6,[2,3,4,7]),(9,[])]),
 (64,[(3,[1]),(5,[1]),(6,[33,34,35]),(7,[33,34,35,36]),(10,[33,34,35]),(11,[])]),
 (65,[(3,[0,3,9,10,11]),(4,[0,3,9,10,11,12]),(8,[0,3,9,10,11]),(9,[0,3]),(11,[6,25,26,27]),(12,[6,25,26,27,28]),(14,[6,25,26,27]),(15,[6])]),
 (67,[(5,[2,3,4,5]),(8,[9])]),
 (68,[(3,[0])]),
 (69,[(3,[0,1,5,8,9,10]),(4,[0,1,5,8,9,10,11]),(7,[0,1,5,8,9,10]),(8,[5])]),
 (70,[(3,[1,5,8,9,10]),(4,[1,5,8,9,10,11]),(7,[1,5,8,9,10]),(8,[5])]),
 (72,[(4,[2,3,4,5]),(5,[2,3,4,5,26,27,28]),(6,[2,3,4,5,26,27,28,29]),(10,[2,3,4,5,10,11,26,27,28]),(13,[2,3,4,5,26,27,28]),(14,[]),(1000010,[4,5,10])]),
 (73,[(3,[1]),(5,[1]),(6,[1,3]),(7,[1,3]),(8,[1,3]),(10,[])]),
 (74,[(5,[2,3,4,5]),(8,[9])]),
 (75,[(3,[2,3,4,7,8]),(4,[2,3,4,7,8]),(5,[2,3,4,7,8]),(7,[7])]),
 (76,[(3,[0])]),
 (83,[(3,[0,1]),(6,[1,6,7,8]),(7,[1,6,7,8]),(12,[6,7,8])]),
 (94,[(4,[2,3,4,7]),(5,[2,3,4,7,8]),(6,[2,3,4,7,8]),(7,[2,3,4,7,8]),(8,[3,4,7])]),
 (105,[(3,[1,2])]),
 (106,[(5,[1,2,8,9,24,25]),(6,[1,2,8,9,24,25,26]),(9,[1,2,8,9,10,24,25]),(11,[1,2,8,9,24,25]),(12,[1,2,8,9]),(14,[1,2,8,9]),(16,[1,2]),(1000002,[3])]),
 (107,[(4,[4,5,6,7,9]),(8,[4,5,6,7,9]),(1000011,[4])]),
 (108,[(4,[0,2,4,7,8]),(12,[0,7,10]),(14,[0,7,10])]),
 (109,[(3,[1])]),
 (110,[(3,[1,2])]),
 (111,[(4,[2,3,4,5]),(5,[2,3,4,5,9]),(6,[2,3,4,5,9]),(7,[2,3,4,5,9]),(10,[2,3,4,5,9,10]),(13,[]),(1000010,[4,5,10])]),
 (112,[(5,[1,2])]),
 (127,[(3,[0]),(4,[0,3]),(5,[0,3]),(6,[0,3]),(9,[])]),
 (138,[(2,[2,3,4,5,9]),(3,[2,3,4,5,9]),(4,[2,3,9])]),
 (147,[(3,[1,2])]),
 (149,[(3,[1,2,3,6,16,17,18]),(4,[1,2,3,6,16,17,18,19]),(6,[1,2,3,6,16,17,18]),(7,[1,2,3,6]),(8,[1,2,3,6,9]),(9,[1,2,3,6,9]),(14,[1,2,3,6,9,10,11]),(15,[1,2,3,6,9,10])]),
 (152,[(2,[0,4]),(3,[0,4]),(4,[0,4]),(7,[0,4,5]),(14,[5,6,7,8,9]),(16,[5,7,8,9]),(19,[9,11])]),
 (153,[(5,[])]),
 (157,[(3,[0,3,7,8]),(4,[0,3,7,8,9]),(8,[0,3,7,8]),(9,[3])]),
 (160,[(3,[0,1,2,6,9]),(4,[0,1,2,6,9]),(7,[0,1,2,6,9,10]),(9,[0,1,2,6,9,10]),(10,[0,1,6]),(11,[0,1,6,11]),(12,[0,1,6,11]),(13,[0,1,6,11]),(14,[0,1,6,7,11]),(15,[0,1,6,7,11]),(16,[0,1,6,7,11]),(17,[0,1,6,7,11]),(18,[0,1,6,7,11]),(20,[0,1,7,11]),(21,[])]),
 (161,[(5,[3,9]),(7,[9])]),
 (162,[(5,[0,4,7,8,9]),(12,[0,11,12]),(14,[0,11,12]),(1000002,[4]),(1000006,[10]),(1000011,[13])]),
 (163,[(3,[1,2])]),
 (164,[(2,[0,1,5]),(3,[0,1,5]),(4,[0,1,5]),(6,[0,1,5]),(8,[0,1]),(10,[0,1]),(12,[])]),
 (165,[(3,[1,2,5,6]),(4,[1,2,5,6]),(10,[5])]),
 (166,[(3,[0,1,5,6,7]),(4,[0,1,5,6,7]),(5,[0,1,5,6,7]),(6,[1,5,6]),(7,[1,5,6,8]),(8,[1,5,6,8]),(9,[1,5,6,8]),(10,[5,6])]),
 (186,[(3,[1]),(5,[1]),(6,[1,27,28,29]),(7,[1,27,28,29,30]),(10,[1,27,28,29]),(11,[1]),(14,[1])]),
 (187,[(3,[0,1,5,6]),(4,[0,1,5,6,7]),(6,[0,1,5,6]),(7,[0,1])]),
 (189,[(2,[0,3]),(3,[0,3]),(4,[3])]),
 (190,[(3,[0,1,5,8,9]),(4,[0,1,5,8,9,10]),(8,[0,1,5,8,9]),(9,[1,5])]),
 (197,[(3,[0,5,10,11]),(4,[0,5,10,11,12]),(6,[0,5,10,11]),(7,[5])]),
 (199,[(5,[5,7]),(7,[])]),
 (200,[(1,[1,2,3]),(2,[1,2,3]),(3,[1,2,3]),(5,[1,2,3]),(7,[1])]),
 (201,[(5,[0,1,5,6,7]),(6,[0,1,5,6,7]),(7,[0,1,5,6,7]),(10,[0,5,6]),(11,[0,5,6]),(12,[0,5,6,8]),(13,[0,5,6,8]),(14,[0,5,6,8]),(17,[0,5,6]),(19,[5])]),
 (202,[(3,[1])]),
 (203,[(3,[1])]),
 (204,[(3,[1]),(5,[1]),(6,[1,3]),(7,[1,3]),(8,[1,3]),(10,[1]),(12,[1]),(15,[1])]),
 (205,[(2,[1,2,3,7]),(3,[1,2,3,7]),(4,[1,2,3,7]),(6,[])]),
 (221,[(2,[0,7,8]),(3,[0,7,8,9]),(8,[0,7,8]),(9,[0])]),
 (222,[(3,[0]),(5,[3,10,11,12]),(6,[3,10,11,12,13]),(9,[3,5,10,11,12]),(11,[3,5,10,11,12]),(12,[3,10,11,12]),(13,[])]),
 (223,[(3,[0]),(5,[3,10,11,12]),(6,[3,10,11,12,13]),(9,[3,5,10,11,12]),(11,[3,5,10,11,12]),(12,[3,10,11,12]),(13,[])]),
 (224,[(3,[0,1,2,7,11,12]),(4,[0,1,2,7,11,12,13]),(8,[0,1,2,7,11,12]),(9,[7])]),
 (226,[(3,[0,3,5]),(4,[0,3,5,6]),(8,[0,3,5]),(9,[3])]),
 (231,[(2,[0,4]),(3,[0,4]),(4,[0,4]),(7,[0,4,5]),(14,[0,4,5,6,7,8]),(16,[0,4,5,6,7,8]),(18,[0,4,5,6,7,8]),(21,[5,7,10]),(23,[7,10])]),
 (233,[(3,[0,3,4]),(4,[0,3,4]),(5,[0,3,4]),(8,[3])]),
 (236,[(3,[0]),(4,[0,3]),(5,[0,3]),(6,[0,3]),(8,[0,3]),(9,[0,3,4]),(10,[0,3,4]),(11,[0,3,4]),(13,[])]),
 (237,[(3,[0]),(4,[0,3]),(5,[0,3]),(6,[0,3]),(8,[0,3]),(9,[0,3,4]),(10,[0,3,4]),(11,[0,3,4]),(13,[])]),
 (250,[(1,[0,1]),(2,[0,1]),(3,[1])]),
 (251,[(3,[0,1,6,7]),(4,[0,1,6,7]),(5,[0,1,6,7]),(8,[1,6]),(9,[1,6,8]),(10,[1,6,8]),(11,[1,6,8]),(14,[6])]),
 (252,[(3,[0,1,5,6]),(4,[0,1,5,6]),(5,[0,1,5,6]),(6,[5])])]
def userList:List Nat:=[3,4,5,6,7,8,9,10,11,12,13,14,15,16,17,18,19,20,21,22,23,24,25,26,27,28,29,30,31,32,33,34,35,36,37,38,39,40,41,42,43,44,45,46,47,48,49,50,51,52,53,54,55,56,57,58,59,60,61,62,63,64,65,66,67,68,69,70,71,72,73,74,75,76,77,78,79,80,81,82,83,84,85,86,87,88,89,90,91,92,93,94,95,96,97,98,99,100,101,102,103,104,105,106,107,108,109,110,111,112,113,114,115,116,117,118,119,120,121,122,123,124,125,126,127,128,129,130,131,132,133,134,135,136,137,138,139,140,141,142,143,144,145,146,147,148,149,150,151,152,153,154,155,156,157,158,159,160,161,162,163,164,165,166,167,168,169,170,171,172,173,174,175,176,177,178,179,180,181,182,183,184,185,186,187,188,189,190,191,192,193,194,195,196,197,198,199,200,201,202,203,204,205,206,207,208,209,210,211,212,213,214,215,216,217,218,219,220,221,222,223,224,226,227,228,229,230,231,232,233,234,235,236,237,238,240,241,242,243,244,245,246,247,248,250,251,252,253,254,255,256,257,258,259,261,262,263,264,265,266]
def pureList:List Nat:=[19,20]
def flatList:List Nat:=[15,16,17,18,19,20,31,34,62,63,64,66,67,70,71,72,73,74,75,76,83,84,85,94,105,106,107,109,110,111,112,113,127,138,147,148,151,152,153,155,157,158,159,161,163,164,165,166,186,187,188,189,190,197,199,200,204,205,221,222,223,224,226,231,233,234,235,236,237,250,251,252]
def extList:List (Nat × ExtK):=[(225,.cmp),(239,.same),(249,.indexByte)]
def roList:List Nat:=[]
def eqList:List Nat:=[]
noncomputable def sumList:List (Nat × (List AV→Option AV)):=[(156,ZsX)]
noncomputable def effList:List (Nat × EffFn):=[(104,growE),(172,stringE),(196,byteE)]
def bldList:List (Nat × Nat):=[(192,5)]
def wrbList:List Nat:=[123]
def qkList:List (Nat × List Nat):=[(11,[12]),(14,[15])]
def linList:List Nat:=[22,32]
noncomputable def cfg:Cfg:={ P:=Tryz.prog,glob:=ZsO,sum:=fun f=>sumList.lookup f,user:=fun f=>userList.contains f,eqok:=fun t=>eqList.contains t,pure:=fun f=>pureList.contains f,flat:=fun f=>flatList.contains f,ext:=fun f=>extList.lookup f,keep:=ZIC ZHb,eff:=fun f=>effList.lookup f,bld:=fun t=>bldList.lookup t,lin:=fun t=>linList.contains t,qk:=fun t a=>qkList.contains (t,a),wrb:=fun t=>wrbList.contains t,ro:=fun f=>roList.contains f }
noncomputable def Zi9:List AV→Hp→Res:=Za7 cfg 3
noncomputable def Zmq:List AV→Hp→Res:=Za7 cfg 15
noncomputable def ZqX:List AV→Hp→Res:=Za7 cfg 16
noncomputable def Zes:List AV→Hp→Res:=Za7 cfg 17
noncomputable def Zhb:List AV→Hp→Res:=Za7 cfg 18
noncomputable def Zd8:List AV→Hp→Res:=Za7 cfg 19
noncomputable def ZiZ:List AV→Hp→Res:=Za7 cfg 20
noncomputable def Zbh:List AV→Hp→Res:=Za7 cfg 31
noncomputable def ZdG:List AV→Hp→Res:=Za7 cfg 34
noncomputable def ZiS:List AV→Hp→Res:=Za7 cfg 62
noncomputable def ZeS:List AV→Hp→Res:=Za7 cfg 63
noncomputable def ZbR:List AV→Hp→Res:=Za7 cfg 64
noncomputable def ZbD:List AV→Hp→Res:=Za7 cfg 65
noncomputable def Zk7:List AV→Hp→Res:=Za7 cfg 66
noncomputable def Zci:List AV→Hp→Res:=Za7 cfg 67
noncomputable def ZbO:List AV→Hp→Res:=Za7 cfg 68
noncomputable def ZeE:List AV→Hp→Res:=Za7 cfg 69
noncomputable def ZbQ:List AV→Hp→Res:=Za7 cfg 70
noncomputable def Zk8:List AV→Hp→Res:=Za7 cfg 71
noncomputable def ZbZ:List AV→Hp→Res:=Za7 cfg 72
noncomputable def Zg2:List AV→Hp→Res:=Za7 cfg 73
noncomputable def ZiU:List AV→Hp→Res:=Za7 cfg 74
noncomputable def ZoH:List AV→Hp→Res:=Za7 cfg 75
noncomputable def ZaJ:List AV→Hp→Res:=Za7 cfg 76
noncomputable def ZaP:List AV→Hp→Res:=Za7 cfg 83
noncomputable def Zl8:List AV→Hp→Res:=Za7 cfg 84
noncomputable def Zl9:List AV→Hp→Res:=Za7 cfg 85
noncomputable def Zck:List AV→Hp→Res:=Za7 cfg 105
noncomputable def ZcL:List AV→Hp→Res:=Za7 cfg 106
noncomputable def Zd9:List AV→Hp→Res:=Za7 cfg 107
noncomputable def Zdy:List AV→Hp→Res:=Za7 cfg 108
noncomputable def ZiX:List AV→Hp→Res:=Za7 cfg 109
noncomputable def Zeu:List AV→Hp→Res:=Za7 cfg 110
noncomputable def Zek:List AV→Hp→Res:=Za7 cfg 111
noncomputable def Zej:List AV→Hp→Res:=Za7 cfg 112
noncomputable def ZbF:List AV→Hp→Res:=Za7 cfg 113
noncomputable def ZeQ:List AV→Hp→Res:=Za7 cfg 127
noncomputable def ZcG:List AV→Hp→Res:=Za7 cfg 147
noncomputable def Zd7:List AV→Hp→Res:=Za7 cfg 148
noncomputable def ZjL:List AV→Hp→Res:=Za7 cfg 149
noncomputable def ZdU:List AV→Hp→Res:=Za7 cfg 150
noncomputable def ZfQ:List AV→Hp→Res:=Za7 cfg 151
noncomputable def ZdS:List AV→Hp→Res:=Za7 cfg 152
noncomputable def Ziz:List AV→Hp→Res:=Za7 cfg 153
noncomputable def ZfN:List AV→Hp→Res:=Za7 cfg 154
noncomputable def ZfO:List AV→Hp→Res:=Za7 cfg 155
noncomputable def Ziy:List AV→Hp→Res:=Za7 cfg 157
noncomputable def ZfP:List AV→Hp→Res:=Za7 cfg 158
noncomputable def Zix:List AV→Hp→Res:=Za7 cfg 159
noncomputable def ZeF:List AV→Hp→Res:=Za7 cfg 160
noncomputable def ZiW:List AV→Hp→Res:=Za7 cfg 161
noncomputable def Zgn:List AV→Hp→Res:=Za7 cfg 162
noncomputable def Zet:List AV→Hp→Res:=Za7 cfg 163
noncomputable def Zg1:List AV→Hp→Res:=Za7 cfg 164
noncomputable def Zgm:List AV→Hp→Res:=Za7 cfg 165
noncomputable def Zne:List AV→Hp→Res:=Za7 cfg 166
noncomputable def Zfd:List AV→Hp→Res:=Za7 cfg 186
noncomputable def Zl7:List AV→Hp→Res:=Za7 cfg 187
noncomputable def ZbC:List AV→Hp→Res:=Za7 cfg 188
noncomputable def ZdT:List AV→Hp→Res:=Za7 cfg 189
noncomputable def Zhc:List AV→Hp→Res:=Za7 cfg 190
noncomputable def Zcj:List AV→Hp→Res:=Za7 cfg 195
noncomputable def Zhd:List AV→Hp→Res:=Za7 cfg 197
noncomputable def Zez:List AV→Hp→Res:=Za7 cfg 198
noncomputable def ZjK:List AV→Hp→Res:=Za7 cfg 199
noncomputable def ZiY:List AV→Hp→Res:=Za7 cfg 200
noncomputable def Zl6:List AV→Hp→Res:=Za7 cfg 201
noncomputable def ZkD:List AV→Hp→Res:=Za7 cfg 202
noncomputable def ZiV:List AV→Hp→Res:=Za7 cfg 203
noncomputable def ZiT:List AV→Hp→Res:=Za7 cfg 204
noncomputable def ZkC:List AV→Hp→Res:=Za7 cfg 205
noncomputable def Zel:List AV→Hp→Res:=Za7 cfg 221
noncomputable def Zch:List AV→Hp→Res:=Za7 cfg 222
noncomputable def Zcb:List AV→Hp→Res:=Za7 cfg 223
noncomputable def ZeR:List AV→Hp→Res:=Za7 cfg 226
noncomputable def ZcK:List AV→Hp→Res:=Za7 cfg 230
noncomputable def Zh9:List AV→Hp→Res:=Za7 cfg 231
noncomputable def Zds:List AV→Hp→Res:=Za7 cfg 232
noncomputable def ZoG:List AV→Hp→Res:=Za7 cfg 233
noncomputable def Znf:List AV→Hp→Res:=Za7 cfg 234
noncomputable def Zg0:List AV→Hp→Res:=Za7 cfg 235
noncomputable def Zd6:List AV→Hp→Res:=Za7 cfg 236
noncomputable def ZcT:List AV→Hp→Res:=Za7 cfg 237
noncomputable def Zha:List AV→Hp→Res:=Za7 cfg 250
noncomputable def Zl4:List AV→Hp→Res:=Za7 cfg 251
noncomputable def Zl5:List AV→Hp→Res:=Za7 cfg 252

noncomputable def Zm6 (H0 H:Hp):Res:=CXL cfg (Za7 cfg) (LPL cfg (cfg.keep 64) 78) (cfg.keep 64) 78 seqL Za3 (sub (Za0 Tryz.f64) [1,1,1,1]) (retL cfg 78 64 Tryz.f64 H0) [] H
noncomputable def Zea (H0:Hp):KL:=seqL (fun k al H=>CXL cfg (Za7 cfg) (LPL cfg (cfg.keep 64) 78) (cfg.keep 64) 78 seqL Za3 (sub (Za0 Tryz.f64) [1,1,1,1]) k (Za8 (cfg.keep 64) (sub (Za0 Tryz.f64) [1,1,1,1]) al) H) (retL cfg 78 64 Tryz.f64 H0)
theorem Zou (H0:Hp):Tame 78 (Zea H0):=Zak (C:=cfg) (kp:=cfg.keep 64) (sub (Za0 Tryz.f64) [1,1,1,1]) (Zao 64 Tryz.f64 H0)
noncomputable def ZgQ (x33 x34 x35:AV) (H0 H:Hp):Res:=CXL cfg (Za7 cfg) (LPL cfg (cfg.keep 64) 78) (cfg.keep 64) 78 seqL Za3 (sub (Za0 Tryz.f64) [1,1,1,0,1,0,0,1,1,1]) (seqL (fun k al H=>LPL cfg (cfg.keep 64) 78 (sub (Za0 Tryz.f64) [1,1,1,0,1,0,0]) k (Za8 (cfg.keep 64) (sub (Za0 Tryz.f64) [1,1,1,0,1,0,0]) al) H) (Za3 0 (Zea H0))) [(33,x33),(34,x34),(35,x35)] H
noncomputable def ZgP (x33 x34 x35 x36:AV) (H0 H:Hp):Res:=CXL cfg (Za7 cfg) (LPL cfg (cfg.keep 64) 78) (cfg.keep 64) 78 seqL Za3 (sub (Za0 Tryz.f64) [1,1,1,0,1,0,0,1,1]) (seqL (fun k al H=>LPL cfg (cfg.keep 64) 78 (sub (Za0 Tryz.f64) [1,1,1,0,1,0,0]) k (Za8 (cfg.keep 64) (sub (Za0 Tryz.f64) [1,1,1,0,1,0,0]) al) H) (Za3 0 (Zea H0))) [(33,x33),(34,x34),(35,x35),(36,x36)] H
noncomputable def Zeb (x33 x34 x35:AV) (H0 H:Hp):Res:=LPL cfg (cfg.keep 64) 78 (sub (Za0 Tryz.f64) [1,1,1,0,1,0,0]) (Za3 0 (Zea H0)) [(33,x33),(34,x34),(35,x35)] H
noncomputable def Zm5 (x1:AV) (H0 H:Hp):Res:=CXL cfg (Za7 cfg) (LPL cfg (cfg.keep 64) 78) (cfg.keep 64) 78 seqL Za3 (sub (Za0 Tryz.f64) [1,1,1]) (retL cfg 78 64 Tryz.f64 H0) [(1,x1)] H
noncomputable def Zm4 (x1:AV) (H0 H:Hp):Res:=CXL cfg (Za7 cfg) (LPL cfg (cfg.keep 64) 78) (cfg.keep 64) 78 seqL Za3 (sub (Za0 Tryz.f64) [1,1]) (retL cfg 78 64 Tryz.f64 H0) [(1,x1)] H
noncomputable def Zmv (p0:AV) (H:Hp):Res:=
 bnd (abox p0 H) fun r1=>
 bnd (Zaa 0 r1.1) fun t5=>
 bnd (Za2 false 1 t5 r1.2) fun t6=>
 bnd (Zaf (.slice 149) t6) fun t7=>
 bnd (ibin .gtr t7 (.int .i64 8)) fun t8=>
 cnd t8
  (some ((.int .i64 3),r1.2))
  (Zm4 r1.1 H r1.2)
theorem ZqE (H0 H:Hp):Zm6 H0 H =
    some ((.int .i64 0),H):=(Za4 [3,5,7,10,11] _ _ _ _).trans (by kernel_rfl)
theorem ZqG (x33 x34 x35:AV) (H0 H:Hp):ZgQ x33 x34 x35 H0 H =
    bnd (ibin .add x35 (.int .i64 1)) fun t77=>
    Zeb x33 x34 t77 H0 H:=(Za4 [3,5,7,10,11] _ _ _ _).trans (by kernel_rfl)
theorem ZqF (x33 x34 x35 x36:AV) (H0 H:Hp):ZgP x33 x34 x35 x36 H0 H =
    bnd (Zad 5 x33 x35) fun t37=>
    bnd (Za2 true 5 t37 H) fun t38=>
    bnd (some ((.ptr H.length 0),H++[.cells [(.int .i64 0),(.int .i64 0),(.int .i64 0),(.int .i64 0),(.int .i64 0)]])) fun r4=>
    bnd (Zag 5 r4.1 t38 r4.2) fun r_10=>
    bnd (Zaa 0 r4.1) fun t39=>
    bnd (Za2 false 1 t39 r_10.2) fun t40=>
    bnd (ibin .lss t40 (.int .i64 1)) fun t41=>
    bnd (gdv t41 false (.tuple []) (Zaa 1 r4.1)) fun t43=>
    bnd (gdv t41 false (.tuple []) (Za2 false 1 t43 r_10.2)) fun t44=>
    bnd (gdv t41 false (.tuple []) (ibin .lss t44 (.int .i64 1))) fun t45=>
    bnd (Zae t41 (.bool true) t45) fun t46=>
    bnd (gdv t46 false (.tuple []) (Zaa 2 r4.1)) fun t48=>
    bnd (gdv t46 false (.tuple []) (Za2 false 1 t48 r_10.2)) fun t49=>
    bnd (gdv t46 false (.tuple []) (ibin .lss t49 (.int .i64 0))) fun t50=>
    bnd (Zae t46 (.bool true) t50) fun t51=>
    bnd (gdv t51 false (.tuple []) (Zaa 3 r4.1)) fun t53=>
    bnd (gdv t51 false (.tuple []) (Za2 false 1 t53 r_10.2)) fun t54=>
    bnd (gdv t51 false (.tuple []) (ibin .lss t54 (.int .i64 0))) fun t55=>
    bnd (Zae t51 (.bool true) t55) fun t56=>
    bnd (gdv t56 false (.tuple []) (Zaa 2 r4.1)) fun t58=>
    bnd (gdv t56 false (.tuple []) (Za2 false 1 t58 r_10.2)) fun t59=>
    bnd (gdv t56 false (.tuple []) (ibin .eql t59 (.int .i64 0))) fun t60=>
    bnd (gdv t56 false (.tuple []) (some t60)) fun t61=>
    bnd (gdv t61 true (.tuple []) (Zaa 3 r4.1)) fun t62=>
    bnd (gdv t61 true (.tuple []) (Za2 false 1 t62 r_10.2)) fun t63=>
    bnd (gdv t61 true (.tuple []) (ibin .neq t63 (.int .i64 0))) fun t64=>
    bnd (gdv t56 false (.tuple []) (Zae t61 t64 (.bool false))) fun t65=>
    bnd (Zae t56 (.bool true) t65) fun t66=>
    bnd (gdv t66 false (.tuple []) (Zaa 4 r4.1)) fun t68=>
    bnd (gdv t66 false (.tuple []) (Za2 false 1 t68 r_10.2)) fun t69=>
    bnd (gdv t66 false (.tuple []) (ibin .lss t69 (.int .i64 0))) fun t70=>
    bnd (Zae t66 (.bool true) t70) fun t71=>
    bnd (gdv t71 false (.tuple []) (Zaa 4 r4.1)) fun t73=>
    bnd (gdv t71 false (.tuple []) (Za2 false 1 t73 r_10.2)) fun t74=>
    bnd (gdv t71 false (.tuple []) (ibin .gtr t74 (.int .i64 31))) fun t75=>
    bnd (Zae t71 (.bool true) t75) fun t76=>
    cnd t76
     (some ((.int .i64 2),r_10.2))
     (ZgQ x33 x34 x35 H0 r_10.2):=(Za4 [3,5,7,10,11] _ _ _ _).trans (by kernel_rfl)
theorem Ziu (x33 x34 x35:AV) (H0 H:Hp):Zeb x33 x34 x35 H0 H =
    bnd (ibin .lss x35 x34) fun t36=>
    cnd t36
     (ZgP x33 x34 x35 t36 H0 H)
     (Zm6 H0 H):=(Zap (C:=cfg) [3,5,7,10,11] (Zah 0 (Zou H0)) _ _).trans (by kernel_rfl)
theorem ZqD (x1:AV) (H0 H:Hp):Zm5 x1 H0 H =
    bnd (Zaa 0 x1) fun t32=>
    bnd (Za2 false 1 t32 H) fun t33=>
    bnd (Zaf (.slice 149) t33) fun t34=>
    Zeb t33 t34 (.int .i64 0) H0 H:=(Za4 [3,5,7,10,11] _ _ _ _).trans (by kernel_rfl)
theorem ZqC (x1:AV) (H0 H:Hp):Zm4 x1 H0 H =
    bnd (Zaa 1 x1) fun t9=>
    bnd (Za2 false 1 t9 H) fun t10=>
    bnd (ibin .lss t10 (.int .i64 (-1))) fun t11=>
    bnd (gdv t11 false (.tuple []) (Zaa 1 x1)) fun t13=>
    bnd (gdv t11 false (.tuple []) (Za2 false 1 t13 H)) fun t14=>
    bnd (gdv t11 false (.tuple []) (ibin .gtr t14 (.int .i64 255))) fun t15=>
    bnd (Zae t11 (.bool true) t15) fun t16=>
    bnd (gdv t16 false (.tuple []) (Zaa 1 x1)) fun t18=>
    bnd (gdv t16 false (.tuple []) (Za2 false 1 t18 H)) fun t19=>
    bnd (gdv t16 false (.tuple []) (ibin .eql t19 (.int .i64 10))) fun t20=>
    bnd (Zae t16 (.bool true) t20) fun t21=>
    bnd (gdv t21 false (.tuple []) (Zaa 2 x1)) fun t23=>
    bnd (gdv t21 false (.tuple []) (Za2 false 1 t23 H)) fun t24=>
    bnd (gdv t21 false (.tuple []) (ibin .lss t24 (.int .i64 0))) fun t25=>
    bnd (Zae t21 (.bool true) t25) fun t26=>
    bnd (gdv t26 false (.tuple []) (Zaa 2 x1)) fun t28=>
    bnd (gdv t26 false (.tuple []) (Za2 false 1 t28 H)) fun t29=>
    bnd (gdv t26 false (.tuple []) (ibin .gtr t29 (.int .i64 31))) fun t30=>
    bnd (Zae t26 (.bool true) t30) fun t31=>
    cnd t31
     (some ((.int .i64 2),H))
     (Zm5 x1 H0 H):=(Za4 [3,5,7,10,11] _ _ _ _).trans (by kernel_rfl)
theorem Zr5 (p0:AV) (H:Hp):ZbR [p0] H=Zmv p0 H:=(Zab (C:=cfg) (fn:=Tryz.f64) (c:=Za0 Tryz.f64) (n:=78) [3,5,7,10,11] Tryz.func64 (by kernel_rfl) (by kernel_rfl) [p0] (by kernel_rfl) H).trans (by kernel_rfl)

noncomputable def ZrD (H0 H:Hp):Res:=CXL cfg (Za7 cfg) (LPL cfg (cfg.keep 73) 45) (cfg.keep 73) 45 seqL Za3 (sub (Za0 Tryz.f73) [1,1,1,1]) (retL cfg 45 73 Tryz.f73 H0) [] H
noncomputable def Zhw (H0:Hp):KL:=seqL (fun k al H=>CXL cfg (Za7 cfg) (LPL cfg (cfg.keep 73) 45) (cfg.keep 73) 45 seqL Za3 (sub (Za0 Tryz.f73) [1,1,1,1]) k (Za8 (cfg.keep 73) (sub (Za0 Tryz.f73) [1,1,1,1]) al) H) (retL cfg 45 73 Tryz.f73 H0)
theorem Ztb (H0:Hp):Tame 45 (Zhw H0):=Zak (C:=cfg) (kp:=cfg.keep 73) (sub (Za0 Tryz.f73) [1,1,1,1]) (Zao 73 Tryz.f73 H0)
noncomputable def ZrF (x1 x3:AV) (H0 H:Hp):Res:=CXL cfg (Za7 cfg) (LPL cfg (cfg.keep 73) 45) (cfg.keep 73) 45 seqL Za3 (sub (Za0 Tryz.f73) [1,1,1,0,1,0,0,1,1]) (seqL (fun k al H=>LPL cfg (cfg.keep 73) 45 (sub (Za0 Tryz.f73) [1,1,1,0,1,0,0]) k (Za8 (cfg.keep 73) (sub (Za0 Tryz.f73) [1,1,1,0,1,0,0]) al) H) (Za3 0 (Zhw H0))) [(1,x1),(3,x3)] H
noncomputable def ZrE (x1 x3:AV) (H0 H:Hp):Res:=CXL cfg (Za7 cfg) (LPL cfg (cfg.keep 73) 45) (cfg.keep 73) 45 seqL Za3 (sub (Za0 Tryz.f73) [1,1,1,0,1,0,0,1]) (seqL (fun k al H=>LPL cfg (cfg.keep 73) 45 (sub (Za0 Tryz.f73) [1,1,1,0,1,0,0]) k (Za8 (cfg.keep 73) (sub (Za0 Tryz.f73) [1,1,1,0,1,0,0]) al) H) (Za3 0 (Zhw H0))) [(1,x1),(3,x3)] H
noncomputable def Zhx (x1 x3:AV) (H0 H:Hp):Res:=LPL cfg (cfg.keep 73) 45 (sub (Za0 Tryz.f73) [1,1,1,0,1,0,0]) (Za3 0 (Zhw H0)) [(1,x1),(3,x3)] H
noncomputable def ZrC (x1:AV) (H0 H:Hp):Res:=CXL cfg (Za7 cfg) (LPL cfg (cfg.keep 73) 45) (cfg.keep 73) 45 seqL Za3 (sub (Za0 Tryz.f73) [1,1,1]) (retL cfg 45 73 Tryz.f73 H0) [(1,x1)] H
noncomputable def ZrB (x1:AV) (H0 H:Hp):Res:=CXL cfg (Za7 cfg) (LPL cfg (cfg.keep 73) 45) (cfg.keep 73) 45 seqL Za3 (sub (Za0 Tryz.f73) [1,1]) (retL cfg 45 73 Tryz.f73 H0) [(1,x1)] H
noncomputable def ZtG (p0:AV) (H:Hp):Res:=
 bnd (abox p0 H) fun r1=>
 bnd (Zaa 0 r1.1) fun t4=>
 bnd (Za2 false 1 t4 r1.2) fun t5=>
 bnd (Zaf (.slice 149) t5) fun t6=>
 bnd (ibin .gtr t6 (.int .i64 8)) fun t7=>
 cnd t7
  (some ((.int .i64 3),r1.2))
  (ZrB r1.1 H r1.2)
theorem ZvR (H0 H:Hp):ZrD H0 H =
    some ((.int .i64 0),H):=(Za4 [3,5,7,8,10] _ _ _ _).trans (by kernel_rfl)
theorem ZvT (x1 x3:AV) (H0 H:Hp):ZrF x1 x3 H0 H =
    bnd (ibin .add x3 (.int .i64 1)) fun t37=>
    Zhx x1 t37 H0 H:=(Za4 [3,5,7,8,10] _ _ _ _).trans (by kernel_rfl)
theorem ZvS (x1 x3:AV) (H0 H:Hp):ZrE x1 x3 H0 H =
    bnd (Zaa 0 x1) fun t38=>
    bnd (Za2 false 1 t38 H) fun t39=>
    bnd (Zad 5 t39 x3) fun t41=>
    bnd (Za2 true 5 t41 H) fun t42=>
    bnd (Za5 ZiX [t42] H) fun r43=>
    bnd (aun .not r43.1) fun t44=>
    cnd t44
     (some ((.int .i64 2),r43.2))
     (ZrF x1 x3 H0 r43.2):=(Za4 [3,5,7,8,10] _ _ _ _).trans (by kernel_rfl)
theorem ZmE (x1 x3:AV) (H0 H:Hp):Zhx x1 x3 H0 H =
    bnd (Zaa 0 x1) fun t32=>
    bnd (Za2 false 1 t32 H) fun t33=>
    bnd (Zaf (.slice 149) t33) fun t34=>
    bnd (ibin .lss x3 t34) fun t35=>
    cnd t35
     (ZrE x1 x3 H0 H)
     (ZrD H0 H):=(Zap (C:=cfg) [3,5,7,8,10] (Zah 0 (Ztb H0)) _ _).trans (by kernel_rfl)
theorem ZvQ (x1:AV) (H0 H:Hp):ZrC x1 H0 H =
    Zhx x1 (.int .i64 0) H0 H:=(Za4 [3,5,7,8,10] _ _ _ _).trans (by kernel_rfl)
theorem ZvP (x1:AV) (H0 H:Hp):ZrB x1 H0 H =
    bnd (Zaa 1 x1) fun t8=>
    bnd (Za2 false 1 t8 H) fun t9=>
    bnd (ibin .lss t9 (.int .i64 (-1))) fun t10=>
    bnd (gdv t10 false (.tuple []) (Zaa 1 x1)) fun t12=>
    bnd (gdv t10 false (.tuple []) (Za2 false 1 t12 H)) fun t13=>
    bnd (gdv t10 false (.tuple []) (ibin .gtr t13 (.int .i64 255))) fun t14=>
    bnd (Zae t10 (.bool true) t14) fun t15=>
    bnd (gdv t15 false (.tuple []) (Zaa 1 x1)) fun t17=>
    bnd (gdv t15 false (.tuple []) (Za2 false 1 t17 H)) fun t18=>
    bnd (gdv t15 false (.tuple []) (ibin .eql t18 (.int .i64 10))) fun t19=>
    bnd (Zae t15 (.bool true) t19) fun t20=>
    bnd (gdv t20 false (.tuple []) (Zaa 2 x1)) fun t22=>
    bnd (gdv t20 false (.tuple []) (Za2 false 1 t22 H)) fun t23=>
    bnd (gdv t20 false (.tuple []) (ibin .lss t23 (.int .i64 0))) fun t24=>
    bnd (Zae t20 (.bool true) t24) fun t25=>
    bnd (gdv t25 false (.tuple []) (Zaa 2 x1)) fun t27=>
    bnd (gdv t25 false (.tuple []) (Za2 false 1 t27 H)) fun t28=>
    bnd (gdv t25 false (.tuple []) (ibin .gtr t28 (.int .i64 31))) fun t29=>
    bnd (Zae t25 (.bool true) t29) fun t30=>
    cnd t30
     (some ((.int .i64 2),H))
     (ZrC x1 H0 H):=(Za4 [3,5,7,8,10] _ _ _ _).trans (by kernel_rfl)
theorem Zxy (p0:AV) (H:Hp):Zg2 [p0] H=ZtG p0 H:=(Zab (C:=cfg) (fn:=Tryz.f73) (c:=Za0 Tryz.f73) (n:=45) [3,5,7,8,10] Tryz.func73 (by kernel_rfl) (by kernel_rfl) [p0] (by kernel_rfl) H).trans (by kernel_rfl)

noncomputable def ZjG (x0 x7 x10:AV) (H0 H:Hp):Res:=CXL cfg (Za7 cfg) (LPL cfg (cfg.keep 108) 70) (cfg.keep 108) 70 seqL Za3 (sub (Za0 Tryz.f108) [1,1,1,1,1,1,1]) (retL cfg 70 108 Tryz.f108 H0) [(0,x0),(7,x7),(10,x10)] H
noncomputable def ZbI (x0 x7 x10:AV) (H0 H:Hp):Res:=CXL cfg (Za7 cfg) (LPL cfg (cfg.keep 108) 70) (cfg.keep 108) 70 seqL Za3 (sub (Za0 Tryz.f108) [1,1,1,1,1,1]) (retL cfg 70 108 Tryz.f108 H0) [(0,x0),(7,x7),(10,x10)] H
noncomputable def ZjF (x0 x2 x4 x7 x8:AV) (H0 H:Hp):Res:=CXL cfg (Za7 cfg) (LPL cfg (cfg.keep 108) 70) (cfg.keep 108) 70 seqL Za3 (sub (Za0 Tryz.f108) [1,1,1]) (retL cfg 70 108 Tryz.f108 H0) [(0,x0),(2,x2),(4,x4),(7,x7),(8,x8)] H
noncomputable def Zkd (p0 p1 p2:AV) (H:Hp):Res:=
 bnd (abox p1 H) fun r4=>
 bnd (Zaa 0 r4.1) fun t16=>
 bnd (Za2 false 1 t16 r4.2) fun t17=>
 bnd (ZoS t17 (.int .i64 1)) fun t18=>
 bnd (ZeF [p0,t18,p2] r4.2) fun r20=>
 bnd (aext r20.1 0) fun t21=>
 bnd (aext r20.1 1) fun t22=>
 bnd (aext r20.1 2) fun t23=>
 bnd (aun .not t23) fun t25=>
 cnd t25
  (some ((.str []),r20.2))
  (ZjF p0 p2 r4.1 t21 t22 H r20.2)
theorem ZoC (x0 x7 x10:AV) (H0 H:Hp):ZjG x0 x7 x10 H0 H =
    bnd (ZaE x0 (some x7) (some x10) none) fun t69=>
    some (t69,H):=(Za4 [4,12,14] _ _ _ _).trans (by kernel_rfl)
theorem ZoB (x0 x7 x10:AV) (H0 H:Hp):ZbI x0 x7 x10 H0 H =
    bnd (ibin .lss x10 x7) fun t65=>
    cnd t65
     (some ((.str []),H))
     (ZjG x0 x7 x10 H0 H):=(Za4 [4,12,14] _ _ _ _).trans (by kernel_rfl)
theorem ZoA (x0 x2 x4 x7 x8:AV) (H0 H:Hp):ZjF x0 x2 x4 x7 x8 H0 H =
    bnd (Zaa 1 x4) fun t27=>
    bnd (Za2 false 1 t27 H) fun t28=>
    bnd (ZoS t28 (.int .i64 1)) fun t29=>
    bnd (ibin .sub t29 (.int .i64 1)) fun t30=>
    bnd (ibin .sub x8 x7) fun t33=>
    bnd (ZeI t30 t33) fun t34=>
    bnd (ibin .add x7 t34) fun t35=>
    bnd (Zaf .string x0) fun t37=>
    bnd (Zaa 2 x4) fun t38=>
    bnd (Za2 false 1 t38 H) fun t39=>
    bnd (ibin .gtr t39 (.int .i64 0)) fun t40=>
    cnd t40
     (bnd (Zaa 2 x4) fun t43=>
     bnd (Za2 false 1 t43 H) fun t44=>
     bnd (ZeF [x0,t44,x2] H) fun r46=>
     bnd (aext r46.1 0) fun t47=>
     bnd (aext r46.1 1) fun t48=>
     bnd (aext r46.1 2) fun t49=>
     cnd t49
      (bnd (Zaa 3 x4) fun t52=>
      bnd (Za2 false 1 t52 r46.2) fun t53=>
      bnd (ibin .gtr t53 (.int .i64 0)) fun t54=>
      cnd t54
       (bnd (Zaa 3 x4) fun t56=>
       bnd (Za2 false 1 t56 r46.2) fun t57=>
       bnd (ibin .sub t48 t47) fun t60=>
       bnd (ZeI t57 t60) fun t61=>
       bnd (ibin .add t47 t61) fun t62=>
       ZbI x0 t35 t62 H0 r46.2)
       (ZbI x0 t35 t48 H0 r46.2))
      (ZbI x0 t35 t37 H0 r46.2))
     (ZbI x0 t35 t37 H0 H):=(Za4 [4,12,14] _ _ _ _).trans (by kernel_rfl)
theorem ZoL (p0 p1 p2:AV) (H:Hp):Zdy [p0,p1,p2] H=Zkd p0 p1 p2 H:=(Zab (C:=cfg) (fn:=Tryz.f108) (c:=Za0 Tryz.f108) (n:=70) [4,12,14] Tryz.func108 (by kernel_rfl) (by kernel_rfl) [p0,p1,p2] (by kernel_rfl) H).trans (by kernel_rfl)

noncomputable def Zlv (x1:AV) (H0 H:Hp):Res:=CXL cfg (Za7 cfg) (LPL cfg (cfg.keep 109) 39) (cfg.keep 109) 39 seqL Za3 (sub (Za0 Tryz.f109) [1,1]) (retL cfg 39 109 Tryz.f109 H0) [(1,x1)] H
noncomputable def ZtL (p0:AV) (H:Hp):Res:=
 bnd (abox p0 H) fun r1=>
 bnd (Zaa 0 r1.1) fun t3=>
 bnd (Za2 false 1 t3 r1.2) fun t4=>
 bnd (ibin .lss t4 (.int .i64 1)) fun t5=>
 bnd (gdv t5 false (.tuple []) (Zaa 1 r1.1)) fun t7=>
 bnd (gdv t5 false (.tuple []) (Za2 false 1 t7 r1.2)) fun t8=>
 bnd (gdv t5 false (.tuple []) (ibin .lss t8 (.int .i64 1))) fun t9=>
 bnd (Zae t5 (.bool true) t9) fun t10=>
 bnd (gdv t10 false (.tuple []) (Zaa 2 r1.1)) fun t12=>
 bnd (gdv t10 false (.tuple []) (Za2 false 1 t12 r1.2)) fun t13=>
 bnd (gdv t10 false (.tuple []) (ibin .lss t13 (.int .i64 0))) fun t14=>
 bnd (Zae t10 (.bool true) t14) fun t15=>
 bnd (gdv t15 false (.tuple []) (Zaa 3 r1.1)) fun t17=>
 bnd (gdv t15 false (.tuple []) (Za2 false 1 t17 r1.2)) fun t18=>
 bnd (gdv t15 false (.tuple []) (ibin .lss t18 (.int .i64 0))) fun t19=>
 bnd (Zae t15 (.bool true) t19) fun t20=>
 bnd (gdv t20 false (.tuple []) (Zaa 2 r1.1)) fun t22=>
 bnd (gdv t20 false (.tuple []) (Za2 false 1 t22 r1.2)) fun t23=>
 bnd (gdv t20 false (.tuple []) (ibin .eql t23 (.int .i64 0))) fun t24=>
 bnd (gdv t20 false (.tuple []) (some t24)) fun t25=>
 bnd (gdv t25 true (.tuple []) (Zaa 3 r1.1)) fun t26=>
 bnd (gdv t25 true (.tuple []) (Za2 false 1 t26 r1.2)) fun t27=>
 bnd (gdv t25 true (.tuple []) (ibin .neq t27 (.int .i64 0))) fun t28=>
 bnd (gdv t20 false (.tuple []) (Zae t25 t28 (.bool false))) fun t29=>
 bnd (Zae t20 (.bool true) t29) fun t30=>
 cnd t30
  (some ((.bool false),r1.2))
  (Zlv r1.1 H r1.2)
theorem ZvZ (x1:AV) (H0 H:Hp):Zlv x1 H0 H =
    bnd (Zaa 4 x1) fun t31=>
    bnd (Za2 false 1 t31 H) fun t32=>
    bnd (ibin .geq t32 (.int .i64 0)) fun t33=>
    bnd (gdv t33 true (.tuple []) (Zaa 4 x1)) fun t35=>
    bnd (gdv t33 true (.tuple []) (Za2 false 1 t35 H)) fun t36=>
    bnd (gdv t33 true (.tuple []) (ibin .leq t36 (.int .i64 31))) fun t37=>
    bnd (Zae t33 t37 (.bool false)) fun t38=>
    some (t38,H):=(Za4 [3] _ _ _ _).trans (by kernel_rfl)
theorem ZxD (p0:AV) (H:Hp):ZiX [p0] H=ZtL p0 H:=(Zab (C:=cfg) (fn:=Tryz.f109) (c:=Za0 Tryz.f109) (n:=39) [3] Tryz.func109 (by kernel_rfl) (by kernel_rfl) [p0] (by kernel_rfl) H).trans (by kernel_rfl)

noncomputable def Zyf (p0 p1:AV) (H:Hp):Res:=
 bnd (ibin .quo p0 p1) fun t7=>
 bnd (ibin .rem t7 (.int .i64 2)) fun t8=>
 bnd (ibin .eql t8 (.int .i64 1)) fun t9=>
 some (t9,H)
theorem ZzO (p0 p1:AV) (H:Hp):ZbF [p0,p1] H=Zyf p0 p1 H:=(Zab (C:=cfg) (fn:=Tryz.f113) (c:=Za0 Tryz.f113) (n:=10) [] Tryz.func113 (by kernel_rfl) (by kernel_rfl) [p0,p1] (by kernel_rfl) H).trans (by kernel_rfl)

noncomputable def Zm8 (H0 H:Hp):Res:=CXL cfg (Za7 cfg) (LPL cfg (cfg.keep 160) 83) (cfg.keep 160) 83 seqL Za3 (sub (Za0 Tryz.f160) [1,1,1]) (retL cfg 83 160 Tryz.f160 H0) [] H
noncomputable def ZcS (H0:Hp):KL:=seqL (fun k al H=>CXL cfg (Za7 cfg) (LPL cfg (cfg.keep 160) 83) (cfg.keep 160) 83 seqL Za3 (sub (Za0 Tryz.f160) [1,1,1]) k (Za8 (cfg.keep 160) (sub (Za0 Tryz.f160) [1,1,1]) al) H) (retL cfg 83 160 Tryz.f160 H0)
theorem Zh7 (H0:Hp):Tame 83 (ZcS H0):=Zak (C:=cfg) (kp:=cfg.keep 160) (sub (Za0 Tryz.f160) [1,1,1]) (Zao 160 Tryz.f160 H0)
noncomputable def Zma (x0 x1 x6 x11:AV) (H0 H:Hp):Res:=CXL cfg (Za7 cfg) (LPL cfg (cfg.keep 160) 83) (cfg.keep 160) 83 seqL Za3 (sub (Za0 Tryz.f160) [1,1,0,1,0,0,1,1]) (seqL (fun k al H=>LPL cfg (cfg.keep 160) 83 (sub (Za0 Tryz.f160) [1,1,0,1,0,0]) k (Za8 (cfg.keep 160) (sub (Za0 Tryz.f160) [1,1,0,1,0,0]) al) H) (Za3 2 (ZcS H0))) [(0,x0),(1,x1),(6,x6),(11,x11)] H
noncomputable def Zca (H0:Hp):KL:=seqL (fun k al H=>CXL cfg (Za7 cfg) (LPL cfg (cfg.keep 160) 83) (cfg.keep 160) 83 seqL Za3 (sub (Za0 Tryz.f160) [1,1,0,1,0,0,1,1]) k (Za8 (cfg.keep 160) (sub (Za0 Tryz.f160) [1,1,0,1,0,0,1,1]) al) H) (seqL (fun k al H=>LPL cfg (cfg.keep 160) 83 (sub (Za0 Tryz.f160) [1,1,0,1,0,0]) k (Za8 (cfg.keep 160) (sub (Za0 Tryz.f160) [1,1,0,1,0,0]) al) H) (Za3 2 (ZcS H0)))
theorem Zh8 (H0:Hp):Tame 83 (Zca H0):=Zak (C:=cfg) (kp:=cfg.keep 160) (sub (Za0 Tryz.f160) [1,1,0,1,0,0,1,1]) (Znb (C:=cfg) (kp:=cfg.keep 160) (sub (Za0 Tryz.f160) [1,1,0,1,0,0]) (Zah 2 (Zh7 H0)))
noncomputable def Zmb (x0 x1 x7 x11:AV) (H0 H:Hp):Res:=CXL cfg (Za7 cfg) (LPL cfg (cfg.keep 160) 83) (cfg.keep 160) 83 seqL Za3 (sub (Za0 Tryz.f160) [1,1,0,1,0,0,1,0,0,1,1,1,1]) (Za3 3 (Zca H0)) [(0,x0),(1,x1),(7,x7),(11,x11)] H
noncomputable def ZgU (x0 x1 x6 x7 x11:AV) (H0 H:Hp):Res:=CXL cfg (Za7 cfg) (LPL cfg (cfg.keep 160) 83) (cfg.keep 160) 83 seqL Za3 (sub (Za0 Tryz.f160) [1,1,0,1,0,0,1,0,0,1,1,1]) (Za3 3 (Zca H0)) [(0,x0),(1,x1),(6,x6),(7,x7),(11,x11)] H
noncomputable def ZgV (H0:Hp):KL:=seqL (fun k al H=>CXL cfg (Za7 cfg) (LPL cfg (cfg.keep 160) 83) (cfg.keep 160) 83 seqL Za3 (sub (Za0 Tryz.f160) [1,1,0,1,0,0,1,0,0,1,1,1]) k (Za8 (cfg.keep 160) (sub (Za0 Tryz.f160) [1,1,0,1,0,0,1,0,0,1,1,1]) al) H) (Za3 3 (Zca H0))
theorem ZoD (H0:Hp):Tame 83 (ZgV H0):=Zak (C:=cfg) (kp:=cfg.keep 160) (sub (Za0 Tryz.f160) [1,1,0,1,0,0,1,0,0,1,1,1]) (Zah 3 (Zh8 H0))
noncomputable def Zmc (x0 x1 x6 x7 x11:AV) (H0 H:Hp):Res:=CXL cfg (Za7 cfg) (LPL cfg (cfg.keep 160) 83) (cfg.keep 160) 83 seqL Za3 (sub (Za0 Tryz.f160) [1,1,0,1,0,0,1,0,0,1,1,0,0,0,1]) (seqL (fun k al H=>LPL cfg (cfg.keep 160) 83 (sub (Za0 Tryz.f160) [1,1,0,1,0,0,1,0,0,1,1,0,0,0]) k (Za8 (cfg.keep 160) (sub (Za0 Tryz.f160) [1,1,0,1,0,0,1,0,0,1,1,0,0,0]) al) H) (Za3 6 (ZgV H0))) [(0,x0),(1,x1),(6,x6),(7,x7),(11,x11)] H
noncomputable def Zee (x0 x1 x6 x7 x11:AV) (H0 H:Hp):Res:=LPL cfg (cfg.keep 160) 83 (sub (Za0 Tryz.f160) [1,1,0,1,0,0,1,0,0,1,1,0,0,0]) (Za3 6 (ZgV H0)) [(0,x0),(1,x1),(6,x6),(7,x7),(11,x11)] H
noncomputable def ZgT (x0 x1 x6 x7 x11:AV) (H0 H:Hp):Res:=CXL cfg (Za7 cfg) (LPL cfg (cfg.keep 160) 83) (cfg.keep 160) 83 seqL Za3 (sub (Za0 Tryz.f160) [1,1,0,1,0,0,1,0,0,1,1]) (Za3 3 (Zca H0)) [(0,x0),(1,x1),(6,x6),(7,x7),(11,x11)] H
noncomputable def ZgW (H0:Hp):KL:=seqL (fun k al H=>CXL cfg (Za7 cfg) (LPL cfg (cfg.keep 160) 83) (cfg.keep 160) 83 seqL Za3 (sub (Za0 Tryz.f160) [1,1,0,1,0,0,1,0,0,1,1]) k (Za8 (cfg.keep 160) (sub (Za0 Tryz.f160) [1,1,0,1,0,0,1,0,0,1,1]) al) H) (Za3 3 (Zca H0))
theorem ZoE (H0:Hp):Tame 83 (ZgW H0):=Zak (C:=cfg) (kp:=cfg.keep 160) (sub (Za0 Tryz.f160) [1,1,0,1,0,0,1,0,0,1,1]) (Zah 3 (Zh8 H0))
noncomputable def Zmd (x0 x1 x6 x7 x11:AV) (H0 H:Hp):Res:=CXL cfg (Za7 cfg) (LPL cfg (cfg.keep 160) 83) (cfg.keep 160) 83 seqL Za3 (sub (Za0 Tryz.f160) [1,1,0,1,0,0,1,0,0,1,0,0,0,1]) (seqL (fun k al H=>LPL cfg (cfg.keep 160) 83 (sub (Za0 Tryz.f160) [1,1,0,1,0,0,1,0,0,1,0,0,0]) k (Za8 (cfg.keep 160) (sub (Za0 Tryz.f160) [1,1,0,1,0,0,1,0,0,1,0,0,0]) al) H) (Za3 4 (ZgW H0))) [(0,x0),(1,x1),(6,x6),(7,x7),(11,x11)] H
noncomputable def Zef (x0 x1 x6 x7 x11:AV) (H0 H:Hp):Res:=LPL cfg (cfg.keep 160) 83 (sub (Za0 Tryz.f160) [1,1,0,1,0,0,1,0,0,1,0,0,0]) (Za3 4 (ZgW H0)) [(0,x0),(1,x1),(6,x6),(7,x7),(11,x11)] H
noncomputable def Zm9 (x0 x1 x6 x11:AV) (H0 H:Hp):Res:=CXL cfg (Za7 cfg) (LPL cfg (cfg.keep 160) 83) (cfg.keep 160) 83 seqL Za3 (sub (Za0 Tryz.f160) [1,1,0,1,0,0,1]) (seqL (fun k al H=>LPL cfg (cfg.keep 160) 83 (sub (Za0 Tryz.f160) [1,1,0,1,0,0]) k (Za8 (cfg.keep 160) (sub (Za0 Tryz.f160) [1,1,0,1,0,0]) al) H) (Za3 2 (ZcS H0))) [(0,x0),(1,x1),(6,x6),(11,x11)] H
noncomputable def Zed (x0 x1 x6 x11:AV) (H0 H:Hp):Res:=LPL cfg (cfg.keep 160) 83 (sub (Za0 Tryz.f160) [1,1,0,1,0,0]) (Za3 2 (ZcS H0)) [(0,x0),(1,x1),(6,x6),(11,x11)] H
noncomputable def ZgS (x0 x1 x6:AV) (H0 H:Hp):Res:=CXL cfg (Za7 cfg) (LPL cfg (cfg.keep 160) 83) (cfg.keep 160) 83 seqL Za3 (sub (Za0 Tryz.f160) [1,1]) (retL cfg 83 160 Tryz.f160 H0) [(0,x0),(1,x1),(6,x6)] H
noncomputable def Zec (H0:Hp):KL:=seqL (fun k al H=>CXL cfg (Za7 cfg) (LPL cfg (cfg.keep 160) 83) (cfg.keep 160) 83 seqL Za3 (sub (Za0 Tryz.f160) [1,1]) k (Za8 (cfg.keep 160) (sub (Za0 Tryz.f160) [1,1]) al) H) (retL cfg 83 160 Tryz.f160 H0)
theorem ZoF (H0:Hp):Tame 83 (Zec H0):=Zak (C:=cfg) (kp:=cfg.keep 160) (sub (Za0 Tryz.f160) [1,1]) (Zao 160 Tryz.f160 H0)
noncomputable def Zkz (x0 x1 x2 x6 x9:AV) (H0 H:Hp):Res:=CXL cfg (Za7 cfg) (LPL cfg (cfg.keep 160) 83) (cfg.keep 160) 83 seqL Za3 (sub (Za0 Tryz.f160) [1,0,1,0,1,0,0,1]) (seqL (fun k al H=>LPL cfg (cfg.keep 160) 83 (sub (Za0 Tryz.f160) [1,0,1,0,1,0,0]) k (Za8 (cfg.keep 160) (sub (Za0 Tryz.f160) [1,0,1,0,1,0,0]) al) H) (Za3 0 (Zec H0))) [(0,x0),(1,x1),(2,x2),(6,x6),(9,x9)] H
noncomputable def Zme (H0:Hp):KL:=seqL (fun k al H=>CXL cfg (Za7 cfg) (LPL cfg (cfg.keep 160) 83) (cfg.keep 160) 83 seqL Za3 (sub (Za0 Tryz.f160) [1,0,1,0,1,0,0,1]) k (Za8 (cfg.keep 160) (sub (Za0 Tryz.f160) [1,0,1,0,1,0,0,1]) al) H) (seqL (fun k al H=>LPL cfg (cfg.keep 160) 83 (sub (Za0 Tryz.f160) [1,0,1,0,1,0,0]) k (Za8 (cfg.keep 160) (sub (Za0 Tryz.f160) [1,0,1,0,1,0,0]) al) H) (Za3 0 (Zec H0)))
noncomputable def ZkB (x0 x1 x2 x6 x9 x10:AV) (H0 H:Hp):Res:=CXL cfg (Za7 cfg) (LPL cfg (cfg.keep 160) 83) (cfg.keep 160) 83 seqL Za3 (sub (Za0 Tryz.f160) [1,0,1,0,1,0,0,0,0,1,1,1]) (Za3 1 (Zme H0)) [(0,x0),(1,x1),(2,x2),(6,x6),(9,x9),(10,x10)] H
noncomputable def ZkA (x0 x1 x2 x6 x9 x10:AV) (H0 H:Hp):Res:=CXL cfg (Za7 cfg) (LPL cfg (cfg.keep 160) 83) (cfg.keep 160) 83 seqL Za3 (sub (Za0 Tryz.f160) [1,0,1,0,1,0,0,0,0,1,1]) (Za3 1 (Zme H0)) [(0,x0),(1,x1),(2,x2),(6,x6),(9,x9),(10,x10)] H
noncomputable def Zeg (x0 x1 x2 x6 x9:AV) (H0 H:Hp):Res:=LPL cfg (cfg.keep 160) 83 (sub (Za0 Tryz.f160) [1,0,1,0,1,0,0]) (Za3 0 (Zec H0)) [(0,x0),(1,x1),(2,x2),(6,x6),(9,x9)] H
noncomputable def Zmy (p0 p1 p2:AV) (H:Hp):Res:=
 bnd (ibin .geq p2 (.int .i64 0)) fun t13=>
 bnd (gdv t13 true (.tuple []) (some p2)) fun t15=>
 bnd (gdv t13 true (.tuple []) (ibin .leq t15 (.int .i64 255))) fun t16=>
 bnd (Zae t13 t16 (.bool false)) fun t17=>
 cnd t17
  (Zeg p0 p1 p2 (.int .i64 0) (.int .i64 1) H H)
  (ZgS p0 p1 (.int .i64 0) H H)
theorem ZqK (H0 H:Hp):Zm8 H0 H =
    some ((.tuple [(.int .i64 0),(.int .i64 0),(.bool false)]),H):=(Za4 [3,7,9,10,12,13,15,16,17,18,20,21] _ _ _ _).trans (by kernel_rfl)
theorem ZqM (x0 x1 x6 x11:AV) (H0 H:Hp):Zma x0 x1 x6 x11 H0 H =
    bnd (ibin .add x11 (.int .i64 1)) fun t50=>
    Zed x0 x1 x6 t50 H0 H:=(Za4 [3,7,9,10,12,13,15,16,17,18,20,21] _ _ _ _).trans (by kernel_rfl)
theorem ZqP (x0 x1 x7 x11:AV) (H0 H:Hp):Zmb x0 x1 x7 x11 H0 H =
    Zma x0 x1 x7 x11 H0 H:=(Za4 [3,7,9,10,12,13,15,16,17,18,20,21] _ _ _ _).trans (by kernel_rfl)
theorem ZqO (x0 x1 x6 x7 x11:AV) (H0 H:Hp):ZgU x0 x1 x6 x7 x11 H0 H =
    bnd (ibin .eql x11 x1) fun t79=>
    cnd t79
     (some ((.tuple [x6,x7,(.bool true)]),H))
     (Zmb x0 x1 x7 x11 H0 H):=(Za4 [3,7,9,10,12,13,15,16,17,18,20,21] _ _ _ _).trans (by kernel_rfl)
theorem ZqQ (x0 x1 x6 x7 x11:AV) (H0 H:Hp):Zmc x0 x1 x6 x7 x11 H0 H =
    bnd (ibin .add x7 (.int .i64 1)) fun t76=>
    Zee x0 x1 x6 t76 x11 H0 H:=(Za4 [3,7,9,10,12,13,15,16,17,18,20,21] _ _ _ _).trans (by kernel_rfl)
theorem Ziv (x0 x1 x6 x7 x11:AV) (H0 H:Hp):Zee x0 x1 x6 x7 x11 H0 H =
    bnd (Zaf .string x0) fun t66=>
    bnd (ibin .lss x7 t66) fun t67=>
    bnd (gdv t67 true (.tuple []) (some x0)) fun t69=>
    bnd (gdv t67 true (.tuple []) (some x7)) fun t70=>
    bnd (gdv t67 true (.tuple []) (Zaj t69 t70)) fun t71=>
    bnd (gdv t67 true ((.tuple []),H) (Zcj [t71] H)) fun r72=>
    bnd (gdv t67 true (.tuple []) (aun .not r72.1)) fun t73=>
    bnd (Zae t67 t73 (.bool false)) fun t74=>
    cnd t74
     (Zmc x0 x1 x6 x7 x11 H0 r72.2)
     (ZgU x0 x1 x6 x7 x11 H0 r72.2):=(Zap (C:=cfg) [3,7,9,10,12,13,15,16,17,18,20,21] (Zah 6 (ZoD H0)) _ _).trans (by kernel_rfl)
theorem ZqN (x0 x1 x6 x7 x11:AV) (H0 H:Hp):ZgT x0 x1 x6 x7 x11 H0 H =
    Zee x0 x1 x6 x7 x11 H0 H:=(Za4 [3,7,9,10,12,13,15,16,17,18,20,21] _ _ _ _).trans (by kernel_rfl)
theorem ZqR (x0 x1 x6 x7 x11:AV) (H0 H:Hp):Zmd x0 x1 x6 x7 x11 H0 H =
    bnd (ibin .add x7 (.int .i64 1)) fun t63=>
    Zef x0 x1 x6 t63 x11 H0 H:=(Za4 [3,7,9,10,12,13,15,16,17,18,20,21] _ _ _ _).trans (by kernel_rfl)
theorem Ziw (x0 x1 x6 x7 x11:AV) (H0 H:Hp):Zef x0 x1 x6 x7 x11 H0 H =
    bnd (Zaf .string x0) fun t54=>
    bnd (ibin .lss x7 t54) fun t55=>
    bnd (gdv t55 true (.tuple []) (some x0)) fun t57=>
    bnd (gdv t55 true (.tuple []) (some x7)) fun t58=>
    bnd (gdv t55 true (.tuple []) (Zaj t57 t58)) fun t59=>
    bnd (gdv t55 true ((.tuple []),H) (Zcj [t59] H)) fun r60=>
    bnd (Zae t55 r60.1 (.bool false)) fun t61=>
    cnd t61
     (Zmd x0 x1 x6 x7 x11 H0 r60.2)
     (ZgT x0 x1 x6 x7 x11 H0 r60.2):=(Zap (C:=cfg) [3,7,9,10,12,13,15,16,17,18,20,21] (Zah 4 (ZoE H0)) _ _).trans (by kernel_rfl)
theorem ZqL (x0 x1 x6 x11:AV) (H0 H:Hp):Zm9 x0 x1 x6 x11 H0 H =
    Zef x0 x1 x6 x6 x11 H0 H:=(Za4 [3,7,9,10,12,13,15,16,17,18,20,21] _ _ _ _).trans (by kernel_rfl)
theorem ZqS (x0 x1 x6 x11:AV) (H0 H:Hp):Zed x0 x1 x6 x11 H0 H =
    bnd (Zaf .string x0) fun t47=>
    bnd (ibin .lss x6 t47) fun t48=>
    cnd t48
     (Zm9 x0 x1 x6 x11 H0 H)
     (Zm8 H0 H):=(Zap (C:=cfg) [3,7,9,10,12,13,15,16,17,18,20,21] (Zah 2 (Zh7 H0)) _ _).trans (by kernel_rfl)
theorem ZqJ (x0 x1 x6:AV) (H0 H:Hp):ZgS x0 x1 x6 H0 H =
    Zed x0 x1 x6 (.int .i64 1) H0 H:=(Za4 [3,7,9,10,12,13,15,16,17,18,20,21] _ _ _ _).trans (by kernel_rfl)
theorem ZpA (x0 x1 x2 x6 x9:AV) (H0 H:Hp):Zkz x0 x1 x2 x6 x9 H0 H =
    bnd (ibin .add x9 (.int .i64 1)) fun t19=>
    Zeg x0 x1 x2 x6 t19 H0 H:=(Za4 [3,7,9,10,12,13,15,16,17,18,20,21] _ _ _ _).trans (by kernel_rfl)
theorem ZpC (x0 x1 x2 x6 x9 x10:AV) (H0 H:Hp):ZkB x0 x1 x2 x6 x9 x10 H0 H =
    bnd (ibin .add x10 (.int .i64 1)) fun t43=>
    bnd (ibin .add x6 t43) fun t44=>
    Zkz x0 x1 x2 t44 x9 H0 H:=(Za4 [3,7,9,10,12,13,15,16,17,18,20,21] _ _ _ _).trans (by kernel_rfl)
theorem ZpB (x0 x1 x2 x6 x9 x10:AV) (H0 H:Hp):ZkA x0 x1 x2 x6 x9 x10 H0 H =
    bnd (ibin .eql x9 x1) fun t36=>
    cnd t36
     (bnd (ibin .add x6 x10) fun t40=>
     some ((.tuple [x6,t40,(.bool true)]),H))
     (ZkB x0 x1 x2 x6 x9 x10 H0 H):=(Za4 [3,7,9,10,12,13,15,16,17,18,20,21] _ _ _ _).trans (by kernel_rfl)
theorem ZqT (x0 x1 x2 x6 x9:AV) (H0 H:Hp):Zeg x0 x1 x2 x6 x9 H0 H =
    bnd (ZaE x0 (some x6) none none) fun t22=>
    bnd (ZbA .u8 x2) fun t24=>
    bnd (Zez [t22,t24] H) fun r25=>
    bnd (ibin .lss r25.1 (.int .i64 0)) fun t27=>
    cnd t27
     (bnd (Zaf .string x0) fun t30=>
     bnd (ibin .eql x9 x1) fun t33=>
     some ((.tuple [x6,t30,t33]),r25.2))
     (ZkA x0 x1 x2 x6 x9 r25.1 H0 r25.2):=(Zap (C:=cfg) [3,7,9,10,12,13,15,16,17,18,20,21] (Zah 0 (ZoF H0)) _ _).trans (by kernel_rfl)
theorem Zr8 (p0 p1 p2:AV) (H:Hp):ZeF [p0,p1,p2] H=Zmy p0 p1 p2 H:=(Zab (C:=cfg) (fn:=Tryz.f160) (c:=Za0 Tryz.f160) (n:=83) [3,7,9,10,12,13,15,16,17,18,20,21] Tryz.func160 (by kernel_rfl) (by kernel_rfl) [p0,p1,p2] (by kernel_rfl) H).trans (by kernel_rfl)

noncomputable def Zo3 (x0 x11 x12:AV) (H0 H:Hp):Res:=CXL cfg (Za7 cfg) (LPL cfg (cfg.keep 162) 84) (cfg.keep 162) 84 seqL Za3 (sub (Za0 Tryz.f162) [1,1,1,1,1,1,1,1]) (retL cfg 84 162 Tryz.f162 H0) [(0,x0),(11,x11),(12,x12)] H
noncomputable def ZdJ (x0 x11 x12:AV) (H0 H:Hp):Res:=CXL cfg (Za7 cfg) (LPL cfg (cfg.keep 162) 84) (cfg.keep 162) 84 seqL Za3 (sub (Za0 Tryz.f162) [1,1,1,1,1,1,1]) (retL cfg 84 162 Tryz.f162 H0) [(0,x0),(11,x11),(12,x12)] H
noncomputable def Zo2 (x0 x4 x7 x8 x9:AV) (H0 H:Hp):Res:=CXL cfg (Za7 cfg) (LPL cfg (cfg.keep 162) 84) (cfg.keep 162) 84 seqL Za3 (sub (Za0 Tryz.f162) [1,1,1,1]) (retL cfg 84 162 Tryz.f162 H0) [(0,x0),(4,x4),(7,x7),(8,x8),(9,x9)] H
noncomputable def ZpK (p0 p1 p2:AV) (H:Hp):Res:=
 bnd (abox p1 H) fun r4=>
 bnd (Zl6 [p0,p2] r4.2) fun r16=>
 frzK r4.1 r16.2 fun z4 z4H=>
 bnd (Zaa 0 z4) fun t17=>
 bnd (Za2 false 1 t17 z4H) fun t18=>
 bnd (ZkD [t18,(.int .i64 1)] z4H) fun r19=>
 bnd (Zaa 1 z4) fun t20=>
 bnd (Zcq false 1 t20) fun t21=>
 bnd (ZkD [t21,(.int .i64 1)] r19.2) fun r22=>
 bnd (Zaf (.slice 228) r16.1) fun t25=>
 bnd (ibin .gtr r19.1 t25) fun t26=>
 cnd t26
  (some ((.str []),r22.2))
  (Zo2 p0 z4 r16.1 r19.1 r22.1 H r22.2)
theorem Ztj (x0 x11 x12:AV) (H0 H:Hp):Zo3 x0 x11 x12 H0 H =
    bnd (ZaE x0 (some x11) (some x12) none) fun t83=>
    some (t83,H):=(Za4 [5,12,14] _ _ _ _).trans (by kernel_rfl)
theorem Zti (x0 x11 x12:AV) (H0 H:Hp):ZdJ x0 x11 x12 H0 H =
    bnd (ibin .leq x12 x11) fun t79=>
    cnd t79
     (some ((.str []),H))
     (Zo3 x0 x11 x12 H0 H):=(Za4 [5,12,14] _ _ _ _).trans (by kernel_rfl)
theorem Zth (x0 x4 x7 x8 x9:AV) (H0 H:Hp):Zo2 x0 x4 x7 x8 x9 H0 H =
    bnd (ibin .sub x8 (.int .i64 1)) fun t29=>
    bnd (Zad 2 x7 t29) fun t30=>
    bnd (Za2 true 2 t30 H) fun t31=>
    bnd (some ((.ptr H.length 0),H++[.cells [(.int .i64 0),(.int .i64 0)]])) fun r10=>
    bnd (Zag 2 r10.1 t31 r10.2) fun r_14=>
    frzK r10.1 r_14.2 fun z10 z10H=>
    bnd (Zaa 0 z10) fun t32=>
    bnd (Zcq false 1 t32) fun t33=>
    bnd (ibin .sub x9 (.int .i64 1)) fun t35=>
    bnd (Zaa 1 z10) fun t36=>
    bnd (Za2 false 1 t36 z10H) fun t37=>
    bnd (Zaa 0 z10) fun t38=>
    bnd (Za2 false 1 t38 z10H) fun t39=>
    bnd (ibin .sub t37 t39) fun t40=>
    bnd (ZiV [t35,t40] z10H) fun r41=>
    bnd (ibin .add t33 r41.1) fun t42=>
    bnd (Zaf .string x0) fun t44=>
    bnd (Zaa 2 x4) fun t45=>
    bnd (Za2 false 1 t45 r41.2) fun t46=>
    bnd (ibin .gtr t46 (.int .i64 0)) fun t47=>
    bnd (gdv t47 true (.tuple []) (Zaa 2 x4)) fun t49=>
    bnd (gdv t47 true (.tuple []) (Za2 false 1 t49 r41.2)) fun t50=>
    bnd (gdv t47 true (.tuple []) (some x7)) fun t51=>
    bnd (gdv t47 true (.tuple []) (Zaf (.slice 228) t51)) fun t52=>
    bnd (gdv t47 true (.tuple []) (ibin .leq t50 t52)) fun t53=>
    bnd (Zae t47 t53 (.bool false)) fun t54=>
    cnd t54
     (bnd (Zaa 2 x4) fun t56=>
     bnd (Za2 false 1 t56 r41.2) fun t57=>
     bnd (ibin .sub t57 (.int .i64 1)) fun t58=>
     bnd (Zad 2 x7 t58) fun t59=>
     bnd (Za2 true 2 t59 r41.2) fun t60=>
     bnd (some ((.ptr r41.2.length 0),r41.2++[.cells [(.int .i64 0),(.int .i64 0)]])) fun r13=>
     bnd (Zag 2 r13.1 t60 r13.2) fun r_44=>
     bnd (Zaa 1 r13.1) fun t61=>
     bnd (Za2 false 1 t61 r_44.2) fun t62=>
     bnd (Zaa 3 x4) fun t63=>
     bnd (Za2 false 1 t63 r_44.2) fun t64=>
     bnd (ibin .gtr t64 (.int .i64 0)) fun t65=>
     cnd t65
      (frzK r13.1 r_44.2 fun z13 z13H=>
      bnd (Zaa 0 z13) fun t66=>
      bnd (Zcq false 1 t66) fun t67=>
      bnd (Zaa 3 x4) fun t68=>
      bnd (Za2 false 1 t68 z13H) fun t69=>
      bnd (Zaa 1 z13) fun t70=>
      bnd (Za2 false 1 t70 z13H) fun t71=>
      bnd (Zaa 0 z13) fun t72=>
      bnd (Za2 false 1 t72 z13H) fun t73=>
      bnd (ibin .sub t71 t73) fun t74=>
      bnd (ZiV [t69,t74] z13H) fun r75=>
      bnd (ibin .add t67 r75.1) fun t76=>
      ZdJ x0 t42 t76 H0 r75.2)
      (ZdJ x0 t42 t62 H0 r_44.2))
     (ZdJ x0 t42 t44 H0 r41.2):=(Za4 [5,12,14] _ _ _ _).trans (by kernel_rfl)
theorem Zuh (p0 p1 p2:AV) (H:Hp):Zgn [p0,p1,p2] H=ZpK p0 p1 p2 H:=(Zab (C:=cfg) (fn:=Tryz.f162) (c:=Za0 Tryz.f162) (n:=84) [5,12,14] Tryz.func162 (by kernel_rfl) (by kernel_rfl) [p0,p1,p2] (by kernel_rfl) H).trans (by kernel_rfl)

noncomputable def Zmx (p0:AV) (H:Hp):Res:=
 bnd (ibin .eql p0 (.int .u8 32)) fun t4=>
 bnd (gdv t4 false (.tuple []) (some p0)) fun t6=>
 bnd (gdv t4 false (.tuple []) (ibin .eql t6 (.int .u8 9))) fun t7=>
 bnd (Zae t4 (.bool true) t7) fun t8=>
 some (t8,H)
theorem Zr7 (p0:AV) (H:Hp):Zcj [p0] H=Zmx p0 H:=(Zab (C:=cfg) (fn:=Tryz.f195) (c:=Za0 Tryz.f195) (n:=9) [] Tryz.func195 (by kernel_rfl) (by kernel_rfl) [p0] (by kernel_rfl) H).trans (by kernel_rfl)

noncomputable def Zic (p0 p1:AV) (H:Hp):Res:=
 bnd (ZcK [p0,p1] H) fun r7=>
 some (r7.1,r7.2)
theorem Znk (p0 p1:AV) (H:Hp):Zez [p0,p1] H=Zic p0 p1 H:=(Zab (C:=cfg) (fn:=Tryz.f198) (c:=Za0 Tryz.f198) (n:=8) [] Tryz.func198 (by kernel_rfl) (by kernel_rfl) [p0,p1] (by kernel_rfl) H).trans (by kernel_rfl)

noncomputable def ZjV (x5:AV) (H0 H:Hp):Res:=CXL cfg (Za7 cfg) (LPL cfg (cfg.keep 201) 78) (cfg.keep 201) 78 seqL Za3 (sub (Za0 Tryz.f201) [1,1,1,1,1,1]) (retL cfg 78 201 Tryz.f201 H0) [(5,x5)] H
noncomputable def Zq3 (x0 x5 x6:AV) (H0 H:Hp):Res:=CXL cfg (Za7 cfg) (LPL cfg (cfg.keep 201) 78) (cfg.keep 201) 78 seqL Za3 (sub (Za0 Tryz.f201) [1,1,1,1,1]) (retL cfg 78 201 Tryz.f201 H0) [(0,x0),(5,x5),(6,x6)] H
noncomputable def ZgC (H0:Hp):KL:=seqL (fun k al H=>CXL cfg (Za7 cfg) (LPL cfg (cfg.keep 201) 78) (cfg.keep 201) 78 seqL Za3 (sub (Za0 Tryz.f201) [1,1,1,1,1]) k (Za8 (cfg.keep 201) (sub (Za0 Tryz.f201) [1,1,1,1,1]) al) H) (retL cfg 78 201 Tryz.f201 H0)
theorem ZrG (H0:Hp):Tame 78 (ZgC H0):=Zak (C:=cfg) (kp:=cfg.keep 201) (sub (Za0 Tryz.f201) [1,1,1,1,1]) (Zao 201 Tryz.f201 H0)
noncomputable def ZgB (x0 x5 x6 x8:AV) (H0 H:Hp):Res:=CXL cfg (Za7 cfg) (LPL cfg (cfg.keep 201) 78) (cfg.keep 201) 78 seqL Za3 (sub (Za0 Tryz.f201) [1,1,1,1,0,1,0,0,1,1]) (seqL (fun k al H=>LPL cfg (cfg.keep 201) 78 (sub (Za0 Tryz.f201) [1,1,1,1,0,1,0,0]) k (Za8 (cfg.keep 201) (sub (Za0 Tryz.f201) [1,1,1,1,0,1,0,0]) al) H) (Za3 2 (ZgC H0))) [(0,x0),(5,x5),(6,x6),(8,x8)] H
noncomputable def Zq4 (x0 x5 x6 x8:AV) (H0 H:Hp):Res:=CXL cfg (Za7 cfg) (LPL cfg (cfg.keep 201) 78) (cfg.keep 201) 78 seqL Za3 (sub (Za0 Tryz.f201) [1,1,1,1,0,1,0,0,1]) (seqL (fun k al H=>LPL cfg (cfg.keep 201) 78 (sub (Za0 Tryz.f201) [1,1,1,1,0,1,0,0]) k (Za8 (cfg.keep 201) (sub (Za0 Tryz.f201) [1,1,1,1,0,1,0,0]) al) H) (Za3 2 (ZgC H0))) [(0,x0),(5,x5),(6,x6),(8,x8)] H
noncomputable def ZgE (x0 x5 x6 x8:AV) (H0 H:Hp):Res:=LPL cfg (cfg.keep 201) 78 (sub (Za0 Tryz.f201) [1,1,1,1,0,1,0,0]) (Za3 2 (ZgC H0)) [(0,x0),(5,x5),(6,x6),(8,x8)] H
noncomputable def ZjU (x0 x5 x6:AV) (H0 H:Hp):Res:=CXL cfg (Za7 cfg) (LPL cfg (cfg.keep 201) 78) (cfg.keep 201) 78 seqL Za3 (sub (Za0 Tryz.f201) [1,1,1,1]) (retL cfg 78 201 Tryz.f201 H0) [(0,x0),(5,x5),(6,x6)] H
noncomputable def ZjX (H0:Hp):KL:=seqL (fun k al H=>CXL cfg (Za7 cfg) (LPL cfg (cfg.keep 201) 78) (cfg.keep 201) 78 seqL Za3 (sub (Za0 Tryz.f201) [1,1,1,1]) k (Za8 (cfg.keep 201) (sub (Za0 Tryz.f201) [1,1,1,1]) al) H) (retL cfg 78 201 Tryz.f201 H0)
theorem ZrH (H0:Hp):Tame 78 (ZjX H0):=Zak (C:=cfg) (kp:=cfg.keep 201) (sub (Za0 Tryz.f201) [1,1,1,1]) (Zao 201 Tryz.f201 H0)
noncomputable def Zq5 (x0 x5 x6:AV) (H0 H:Hp):Res:=CXL cfg (Za7 cfg) (LPL cfg (cfg.keep 201) 78) (cfg.keep 201) 78 seqL Za3 (sub (Za0 Tryz.f201) [1,1,1,0,1,0,1]) (ZjX H0) [(0,x0),(5,x5),(6,x6)] H
noncomputable def ZgD (H0:Hp):KL:=seqL (fun k al H=>CXL cfg (Za7 cfg) (LPL cfg (cfg.keep 201) 78) (cfg.keep 201) 78 seqL Za3 (sub (Za0 Tryz.f201) [1,1,1,0,1,0,1]) k (Za8 (cfg.keep 201) (sub (Za0 Tryz.f201) [1,1,1,0,1,0,1]) al) H) (ZjX H0)
theorem ZrI (H0:Hp):Tame 78 (ZgD H0):=Zak (C:=cfg) (kp:=cfg.keep 201) (sub (Za0 Tryz.f201) [1,1,1,0,1,0,1]) (ZrH H0)
noncomputable def ZjW (x0 x1 x5 x6 x7:AV) (H0 H:Hp):Res:=CXL cfg (Za7 cfg) (LPL cfg (cfg.keep 201) 78) (cfg.keep 201) 78 seqL Za3 (sub (Za0 Tryz.f201) [1,1,1,0,1,0,0,1,0,0,1,1]) (seqL (fun k al H=>LPL cfg (cfg.keep 201) 78 (sub (Za0 Tryz.f201) [1,1,1,0,1,0,0,1,0,0]) k (Za8 (cfg.keep 201) (sub (Za0 Tryz.f201) [1,1,1,0,1,0,0,1,0,0]) al) H) (Za3 0 (ZgD H0))) [(0,x0),(1,x1),(5,x5),(6,x6),(7,x7)] H
noncomputable def Zq6 (x0 x1 x5 x6 x7:AV) (H0 H:Hp):Res:=CXL cfg (Za7 cfg) (LPL cfg (cfg.keep 201) 78) (cfg.keep 201) 78 seqL Za3 (sub (Za0 Tryz.f201) [1,1,1,0,1,0,0,1,0,0,1]) (seqL (fun k al H=>LPL cfg (cfg.keep 201) 78 (sub (Za0 Tryz.f201) [1,1,1,0,1,0,0,1,0,0]) k (Za8 (cfg.keep 201) (sub (Za0 Tryz.f201) [1,1,1,0,1,0,0,1,0,0]) al) H) (Za3 0 (ZgD H0))) [(0,x0),(1,x1),(5,x5),(6,x6),(7,x7)] H
noncomputable def ZgF (x0 x1 x5 x6 x7:AV) (H0 H:Hp):Res:=LPL cfg (cfg.keep 201) 78 (sub (Za0 Tryz.f201) [1,1,1,0,1,0,0,1,0,0]) (Za3 0 (ZgD H0)) [(0,x0),(1,x1),(5,x5),(6,x6),(7,x7)] H
noncomputable def Zr0 (p0 p1:AV) (H:Hp):Res:=
 bnd (ibin .geq p1 (.int .i64 0)) fun t10=>
 bnd (gdv t10 true (.tuple []) (some p1)) fun t12=>
 bnd (gdv t10 true (.tuple []) (ibin .leq t12 (.int .i64 255))) fun t13=>
 bnd (Zae t10 t13 (.bool false)) fun t14=>
 cnd t14
  (ZgF p0 p1 .nils (.int .i64 0) (.int .i64 0) H H)
  (ZjU p0 .nils (.int .i64 0) H H)
theorem Zlq (x5:AV) (H0 H:Hp):ZjV x5 H0 H =
    some (x5,H):=(Za4 [6,7,10,11,13,14,17,19] _ _ _ _).trans (by kernel_rfl)
theorem Zlp (x0 x5 x6:AV) (H0 H:Hp):Zq3 x0 x5 x6 H0 H =
    bnd (Zaf .string x0) fun t68=>
    bnd (ibin .gtr t68 (.int .i64 0)) fun t69=>
    cnd t69
     (bnd (Zaf .string x0) fun t73=>
     bnd ((ZbJ [(0,1,x6),(1,1,t73)] [(.int .i64 0),(.int .i64 0)]).map .agg) fun t74=>
     bnd ((Zau 2 [(0,t74)] [(.agg [(.int .i64 0),(.int .i64 0)])]).map (.vs 2 .clip)) fun t75=>
     bnd (ZaH 2 16 x5 t75 H) fun r76=>
     ZjV r76.1 H0 r76.2)
     (ZjV x5 H0 H):=(Za4 [6,7,10,11,13,14,17,19] _ _ _ _).trans (by kernel_rfl)
theorem Zlr (x0 x5 x6 x8:AV) (H0 H:Hp):ZgB x0 x5 x6 x8 H0 H =
    bnd (ibin .add x8 (.int .i64 1)) fun t47=>
    ZgE x0 x5 x6 t47 H0 H:=(Za4 [6,7,10,11,13,14,17,19] _ _ _ _).trans (by kernel_rfl)
theorem ZuJ (x0 x5 x6 x8:AV) (H0 H:Hp):Zq4 x0 x5 x6 x8 H0 H =
    bnd (Zaj x0 x8) fun t50=>
    bnd (Zds [t50] H) fun r51=>
    bnd (gdv r51.1 true (.tuple []) (some x0)) fun t53=>
    bnd (gdv r51.1 true (.tuple []) (some x8)) fun t54=>
    bnd (gdv r51.1 true (.tuple []) (ibin .sub t54 (.int .i64 1))) fun t55=>
    bnd (gdv r51.1 true (.tuple []) (Zaj t53 t55)) fun t56=>
    bnd (gdv r51.1 true ((.tuple []),r51.2) (Zds [t56] r51.2)) fun r57=>
    bnd (gdv r51.1 true (.tuple []) (aun .not r57.1)) fun t58=>
    bnd (Zae r51.1 t58 (.bool false)) fun t59=>
    cnd t59
     (bnd ((ZbJ [(0,1,x6),(1,1,x8)] [(.int .i64 0),(.int .i64 0)]).map .agg) fun t63=>
     bnd ((Zau 2 [(0,t63)] [(.agg [(.int .i64 0),(.int .i64 0)])]).map (.vs 2 .clip)) fun t64=>
     bnd (ZaH 2 16 x5 t64 r57.2) fun r65=>
     ZgB x0 r65.1 x8 x8 H0 r65.2)
     (ZgB x0 x5 x6 x8 H0 r57.2):=(Za4 [6,7,10,11,13,14,17,19] _ _ _ _).trans (by kernel_rfl)
theorem ZgL (x0 x5 x6 x8:AV) (H0 H:Hp):ZgE x0 x5 x6 x8 H0 H =
    bnd (Zaf .string x0) fun t44=>
    bnd (ibin .lss x8 t44) fun t45=>
    cnd t45
     (Zq4 x0 x5 x6 x8 H0 H)
     (Zq3 x0 x5 x6 H0 H):=(Zap (C:=cfg) [6,7,10,11,13,14,17,19] (Zah 2 (ZrG H0)) _ _).trans (by kernel_rfl)
theorem ZuI (x0 x5 x6:AV) (H0 H:Hp):ZjU x0 x5 x6 H0 H =
    ZgE x0 x5 x6 (.int .i64 1) H0 H:=(Za4 [6,7,10,11,13,14,17,19] _ _ _ _).trans (by kernel_rfl)
theorem ZuK (x0 x5 x6:AV) (H0 H:Hp):Zq5 x0 x5 x6 H0 H =
    bnd (Zaf .string x0) fun t38=>
    bnd ((ZbJ [(0,1,x6),(1,1,t38)] [(.int .i64 0),(.int .i64 0)]).map .agg) fun t39=>
    bnd ((Zau 2 [(0,t39)] [(.agg [(.int .i64 0),(.int .i64 0)])]).map (.vs 2 .clip)) fun t40=>
    bnd (ZaH 2 16 x5 t40 H) fun r41=>
    some (r41.1,r41.2):=(Za4 [6,7,10,11,13,14,17,19] _ _ _ _).trans (by kernel_rfl)
theorem Zls (x0 x1 x5 x6 x7:AV) (H0 H:Hp):ZjW x0 x1 x5 x6 x7 H0 H =
    bnd (ibin .add x7 (.int .i64 1)) fun t20=>
    ZgF x0 x1 x5 x6 t20 H0 H:=(Za4 [6,7,10,11,13,14,17,19] _ _ _ _).trans (by kernel_rfl)
theorem ZuL (x0 x1 x5 x6 x7:AV) (H0 H:Hp):Zq6 x0 x1 x5 x6 x7 H0 H =
    bnd (Zaj x0 x7) fun t23=>
    bnd (ZbA .i64 t23) fun t24=>
    bnd (ibin .eql t24 x1) fun t26=>
    cnd t26
     (bnd ((ZbJ [(0,1,x6),(1,1,x7)] [(.int .i64 0),(.int .i64 0)]).map .agg) fun t30=>
     bnd ((Zau 2 [(0,t30)] [(.agg [(.int .i64 0),(.int .i64 0)])]).map (.vs 2 .clip)) fun t31=>
     bnd (ZaH 2 16 x5 t31 H) fun r32=>
     bnd (ibin .add x7 (.int .i64 1)) fun t34=>
     ZjW x0 x1 r32.1 t34 x7 H0 r32.2)
     (ZjW x0 x1 x5 x6 x7 H0 H):=(Za4 [6,7,10,11,13,14,17,19] _ _ _ _).trans (by kernel_rfl)
theorem Zlt (x0 x1 x5 x6 x7:AV) (H0 H:Hp):ZgF x0 x1 x5 x6 x7 H0 H =
    bnd (Zaf .string x0) fun t17=>
    bnd (ibin .lss x7 t17) fun t18=>
    cnd t18
     (Zq6 x0 x1 x5 x6 x7 H0 H)
     (Zq5 x0 x5 x6 H0 H):=(Zap (C:=cfg) [6,7,10,11,13,14,17,19] (Zah 0 (ZrI H0)) _ _).trans (by kernel_rfl)
theorem Zvi (p0 p1:AV) (H:Hp):Zl6 [p0,p1] H=Zr0 p0 p1 H:=(Zab (C:=cfg) (fn:=Tryz.f201) (c:=Za0 Tryz.f201) (n:=78) [6,7,10,11,13,14,17,19] Tryz.func201 (by kernel_rfl) (by kernel_rfl) [p0,p1] (by kernel_rfl) H).trans (by kernel_rfl)

noncomputable def ZtS (x1:AV) (H0 H:Hp):Res:=CXL cfg (Za7 cfg) (LPL cfg (cfg.keep 202) 10) (cfg.keep 202) 10 seqL Za3 (sub (Za0 Tryz.f202) [1,1]) (retL cfg 10 202 Tryz.f202 H0) [(1,x1)] H
noncomputable def Zvj (p0 p1:AV) (H:Hp):Res:=
 bnd (ibin .gtr p0 p1) fun t7=>
 cnd t7
  (some (p0,H))
  (ZtS p1 H H)
theorem ZxM (x1:AV) (H0 H:Hp):ZtS x1 H0 H =
    some (x1,H):=(Za4 [3] _ _ _ _).trans (by kernel_rfl)
theorem ZyX (p0 p1:AV) (H:Hp):ZkD [p0,p1] H=Zvj p0 p1 H:=(Zab (C:=cfg) (fn:=Tryz.f202) (c:=Za0 Tryz.f202) (n:=10) [3] Tryz.func202 (by kernel_rfl) (by kernel_rfl) [p0,p1] (by kernel_rfl) H).trans (by kernel_rfl)

noncomputable def ZrK (x1:AV) (H0 H:Hp):Res:=CXL cfg (Za7 cfg) (LPL cfg (cfg.keep 203) 10) (cfg.keep 203) 10 seqL Za3 (sub (Za0 Tryz.f203) [1,1]) (retL cfg 10 203 Tryz.f203 H0) [(1,x1)] H
noncomputable def ZtJ (p0 p1:AV) (H:Hp):Res:=
 bnd (ibin .lss p0 p1) fun t7=>
 cnd t7
  (some (p0,H))
  (ZrK p1 H H)
theorem ZvW (x1:AV) (H0 H:Hp):ZrK x1 H0 H =
    some (x1,H):=(Za4 [3] _ _ _ _).trans (by kernel_rfl)
theorem ZxB (p0 p1:AV) (H:Hp):ZiV [p0,p1] H=ZtJ p0 p1 H:=(Zab (C:=cfg) (fn:=Tryz.f203) (c:=Za0 Tryz.f203) (n:=10) [3] Tryz.func203 (by kernel_rfl) (by kernel_rfl) [p0,p1] (by kernel_rfl) H).trans (by kernel_rfl)

noncomputable def ZcM (p0 p1:AV) (H:Hp):Res:=
 bnd (extC .indexByte [p0,p1] H) fun r7=>
 some (r7.1,r7.2)
theorem Zff (p0 p1:AV) (H:Hp):ZcK [p0,p1] H=ZcM p0 p1 H:=(Zab (C:=cfg) (fn:=Tryz.f230) (c:=Za0 Tryz.f230) (n:=8) [] Tryz.func230 (by kernel_rfl) (by kernel_rfl) [p0,p1] (by kernel_rfl) H).trans (by kernel_rfl)

noncomputable def ZtI (p0:AV) (H:Hp):Res:=
 bnd (ibin .eql p0 (.int .u8 32)) fun t4=>
 bnd (gdv t4 false (.tuple []) (some p0)) fun t6=>
 bnd (gdv t4 false (.tuple []) (ibin .eql t6 (.int .u8 9))) fun t7=>
 bnd (Zae t4 (.bool true) t7) fun t8=>
 some (t8,H)
theorem ZxA (p0:AV) (H:Hp):Zds [p0] H=ZtI p0 H:=(Zab (C:=cfg) (fn:=Tryz.f232) (c:=Za0 Tryz.f232) (n:=9) [] Tryz.func232 (by kernel_rfl) (by kernel_rfl) [p0] (by kernel_rfl) H).trans (by kernel_rfl)

theorem Ztp (a b args:List AV) (H:Hp):ZaN cfg (Za7 cfg) (.fn (.func 66) a b) args H=Za5 Zk7 (a++args++b) H:=by kernel_rfl
theorem Ztq (a b args:List AV) (H:Hp):ZaN cfg (Za7 cfg) (.fn (.func 71) a b) args H=Za5 Zk8 (a++args++b) H:=by kernel_rfl
theorem ZuQ (a b args:List AV) (H:Hp):ZaN cfg (Za7 cfg) (.fn (.func 84) a b) args H=Za5 Zl8 (a++args++b) H:=by kernel_rfl
theorem ZuR (a b args:List AV) (H:Hp):ZaN cfg (Za7 cfg) (.fn (.func 85) a b) args H=Za5 Zl9 (a++args++b) H:=by kernel_rfl
theorem ZrV (a b args:List AV) (H:Hp):ZaN cfg (Za7 cfg) (.fn (.func 148) a b) args H=Za5 Zd7 (a++args++b) H:=by kernel_rfl
theorem Zra (a b args:List AV) (H:Hp):Zbt cfg (Za7 cfg) (.fn (.func 148) a b) args H=Za5 Zd7 (a++args++b) H:=by kernel_rfl
theorem ZoR (a b args:List AV) (H:Hp):ZaN cfg (Za7 cfg) (.fn (.func 150) a b) args H=ZdU (a++args++b) H:=by kernel_rfl
theorem Ztr (a b args:List AV) (H:Hp):ZaN cfg (Za7 cfg) (.fn (.func 154) a b) args H=ZfN (a++args++b) H:=by kernel_rfl
theorem Zt3 (a b args:List AV) (H:Hp):Zbt cfg (Za7 cfg) (.fn (.func 155) a b) args H=Za5 ZfO (a++args++b) H:=by kernel_rfl
theorem ZxG (a b args:List AV) (H:Hp):Zbt cfg (Za7 cfg) (.fn (.func 157) a b) args H=Za5 Ziy (a++args++b) H:=by kernel_rfl
theorem Zt4 (a b args:List AV) (H:Hp):Zbt cfg (Za7 cfg) (.fn (.func 158) a b) args H=Za5 ZfP (a++args++b) H:=by kernel_rfl
theorem ZJ4:∀ f ∈ userList,ZrU Tryz.prog f:=
 Za1 Tryz.call3 (
 Za1 Tryz.call4 (
 Za1 Tryz.call5 (
 Za1 Tryz.call6 (
 Za1 Tryz.call7 (
 Za1 Tryz.call8 (
 Za1 Tryz.call9 (
 Za1 Tryz.call10 (
 Za1 Tryz.call11 (
 Za1 Tryz.call12 (
 Za1 Tryz.call13 (
 Za1 Tryz.call14 (
 Za1 Tryz.call15 (
 Za1 Tryz.call16 (
 Za1 Tryz.call17 (
 Za1 Tryz.call18 (
 Za1 Tryz.call19 (
 Za1 Tryz.call20 (
 Za1 Tryz.call21 (
 Za1 Tryz.call22 (
 Za1 Tryz.call23 (
 Za1 Tryz.call24 (
 Za1 Tryz.call25 (
 Za1 Tryz.call26 (
 Za1 Tryz.call27 (
 Za1 Tryz.call28 (
 Za1 Tryz.call29 (
 Za1 Tryz.call30 (
 Za1 Tryz.call31 (
 Za1 Tryz.call32 (
 Za1 Tryz.call33 (
 Za1 Tryz.call34 (
 Za1 Tryz.call35 (
 Za1 Tryz.call36 (
 Za1 Tryz.call37 (
 Za1 Tryz.call38 (
 Za1 Tryz.call39 (
 Za1 Tryz.call40 (
 Za1 Tryz.call41 (
 Za1 Tryz.call42 (
 Za1 Tryz.call43 (
 Za1 Tryz.call44 (
 Za1 Tryz.call45 (
 Za1 Tryz.call46 (
 Za1 Tryz.call47 (
 Za1 Tryz.call48 (
 Za1 Tryz.call49 (
 Za1 Tryz.call50 (
 Za1 Tryz.call51 (
 Za1 Tryz.call52 (
 Za1 Tryz.call53 (
 Za1 Tryz.call54 (
 Za1 Tryz.call55 (
 Za1 Tryz.call56 (
 Za1 Tryz.call57 (
 Za1 Tryz.call58 (
 Za1 Tryz.call59 (
 Za1 Tryz.call60 (
 Za1 Tryz.call61 (
 Za1 Tryz.call62 (
 Za1 Tryz.call63 (
 Za1 Tryz.call64 (
 Za1 Tryz.call65 (
 Za1 Tryz.call66 (
 Za1 Tryz.call67 (
 Za1 Tryz.call68 (
 Za1 Tryz.call69 (
 Za1 Tryz.call70 (
 Za1 Tryz.call71 (
 Za1 Tryz.call72 (
 Za1 Tryz.call73 (
 Za1 Tryz.call74 (
 Za1 Tryz.call75 (
 Za1 Tryz.call76 (
 Za1 Tryz.call77 (
 Za1 Tryz.call78 (
 Za1 Tryz.call79 (
 Za1 Tryz.call80 (
 Za1 Tryz.call81 (
 Za1 Tryz.call82 (
 Za1 Tryz.call83 (
 Za1 Tryz.call84 (
 Za1 Tryz.call85 (
 Za1 Tryz.call86 (
 Za1 Tryz.call87 (
 Za1 Tryz.call88 (
 Za1 Tryz.call89 (
 Za1 Tryz.call90 (
 Za1 Tryz.call91 (
 Za1 Tryz.call92 (
 Za1 Tryz.call93 (
 Za1 Tryz.call94 (
 Za1 Tryz.call95 (
 Za1 Tryz.call96 (
 Za1 Tryz.call97 (
 Za1 Tryz.call98 (
 Za1 Tryz.call99 (
 Za1 Tryz.call100 (
 Za1 Tryz.call101 (
 Za1 Tryz.call102 (
 Za1 Tryz.call103 (
 Za1 Tryz.call104 (
 Za1 Tryz.call105 (
 Za1 Tryz.call106 (
 Za1 Tryz.call107 (
 Za1 Tryz.call108 (
 Za1 Tryz.call109 (
 Za1 Tryz.call110 (
 Za1 Tryz.call111 (
 Za1 Tryz.call112 (
 Za1 Tryz.call113 (
 Za1 Tryz.call114 (
 Za1 Tryz.call115 (
 Za1 Tryz.call116 (
 Za1 Tryz.call117 (
 Za1 Tryz.call118 (
 Za1 Tryz.call119 (
 Za1 Tryz.call120 (
 Za1 Tryz.call121 (
 Za1 Tryz.call122 (
 Za1 Tryz.call123 (
 Za1 Tryz.call124 (
 Za1 Tryz.call125 (
 Za1 Tryz.call126 (
 Za1 Tryz.call127 (
 Za1 Tryz.call128 (
 Za1 Tryz.call129 (
 Za1 Tryz.call130 (
 Za1 Tryz.call131 (
 Za1 Tryz.call132 (
 Za1 Tryz.call133 (
 Za1 Tryz.call134 (
 Za1 Tryz.call135 (
 Za1 Tryz.call136 (
 Za1 Tryz.call137 (
 Za1 Tryz.call138 (
 Za1 Tryz.call139 (
 Za1 Tryz.call140 (
 Za1 Tryz.call141 (
 Za1 Tryz.call142 (
 Za1 Tryz.call143 (
 Za1 Tryz.call144 (
 Za1 Tryz.call145 (
 Za1 Tryz.call146 (
 Za1 Tryz.call147 (
 Za1 Tryz.call148 (
 Za1 Tryz.call149 (
 Za1 Tryz.call150 (
 Za1 Tryz.call151 (
 Za1 Tryz.call152 (
 Za1 Tryz.call153 (
 Za1 Tryz.call154 (
 Za1 Tryz.call155 (
 Za1 Tryz.call156 (
 Za1 Tryz.call157 (
 Za1 Tryz.call158 (
 Za1 Tryz.call159 (
 Za1 Tryz.call160 (
 Za1 Tryz.call161 (
 Za1 Tryz.call162 (
 Za1 Tryz.call163 (
 Za1 Tryz.call164 (
 Za1 Tryz.call165 (
 Za1 Tryz.call166 (
 Za1 Tryz.call167 (
 Za1 Tryz.call168 (
 Za1 Tryz.call169 (
 Za1 Tryz.call170 (
 Za1 Tryz.call171 (
 Za1 Tryz.call172 (
 Za1 Tryz.call173 (
 Za1 Tryz.call174 (
 Za1 Tryz.call175 (
 Za1 Tryz.call176 (
 Za1 Tryz.call177 (
 Za1 Tryz.call178 (
 Za1 Tryz.call179 (
 Za1 Tryz.call180 (
 Za1 Tryz.call181 (
 Za1 Tryz.call182 (
 Za1 Tryz.call183 (
 Za1 Tryz.call184 (
 Za1 Tryz.call185 (
 Za1 Tryz.call186 (
 Za1 Tryz.call187 (
 Za1 Tryz.call188 (
 Za1 Tryz.call189 (
 Za1 Tryz.call190 (
 Za1 Tryz.call191 (
 Za1 Tryz.call192 (
 Za1 Tryz.call193 (
 Za1 Tryz.call194 (
 Za1 Tryz.call195 (
 Za1 Tryz.call196 (
 Za1 Tryz.call197 (
 Za1 Tryz.call198 (
 Za1 Tryz.call199 (
 Za1 Tryz.call200 (
 Za1 Tryz.call201 (
 Za1 Tryz.call202 (
 Za1 Tryz.call203 (
 Za1 Tryz.call204 (
 Za1 Tryz.call205 (
 Za1 Tryz.call206 (
 Za1 Tryz.call207 (
 Za1 Tryz.call208 (
 Za1 Tryz.call209 (
 Za1 Tryz.call210 (
 Za1 Tryz.call211 (
 Za1 Tryz.call212 (
 Za1 Tryz.call213 (
 Za1 Tryz.call214 (
 Za1 Tryz.call215 (
 Za1 Tryz.call216 (
 Za1 Tryz.call217 (
 Za1 Tryz.call218 (
 Za1 Tryz.call219 (
 Za1 Tryz.call220 (
 Za1 Tryz.call221 (
 Za1 Tryz.call222 (
 Za1 Tryz.call223 (
 Za1 Tryz.call224 (
 Za1 Tryz.call226 (
 Za1 Tryz.call227 (
 Za1 Tryz.call228 (
 Za1 Tryz.call229 (
 Za1 Tryz.call230 (
 Za1 Tryz.call231 (
 Za1 Tryz.call232 (
 Za1 Tryz.call233 (
 Za1 Tryz.call234 (
 Za1 Tryz.call235 (
 Za1 Tryz.call236 (
 Za1 Tryz.call237 (
 Za1 Tryz.call238 (
 Za1 Tryz.call240 (
 Za1 Tryz.call241 (
 Za1 Tryz.call242 (
 Za1 Tryz.call243 (
 Za1 Tryz.call244 (
 Za1 Tryz.call245 (
 Za1 Tryz.call246 (
 Za1 Tryz.call247 (
 Za1 Tryz.call248 (
 Za1 Tryz.call250 (
 Za1 Tryz.call251 (
 Za1 Tryz.call252 (
 Za1 Tryz.call253 (
 Za1 Tryz.call254 (
 Za1 Tryz.call255 (
 Za1 Tryz.call256 (
 Za1 Tryz.call257 (
 Za1 Tryz.call258 (
 Za1 Tryz.call259 (
 Za1 Tryz.call261 (
 Za1 Tryz.call262 (
 Za1 Tryz.call263 (
 Za1 Tryz.call264 (
 Za1 Tryz.call265 (
 Za1 Tryz.call266 (ZE5))))))))))))))))))))))))))))))))))))))))))))))))))))))))))))))))))))))))))))))))))))))))))))))))))))))))))))))))))))))))))))))))))))))))))))))))))))))))))))))))))))))))))))))))))))))))))))))))))))))))))))))))))))))))))))))))))))))))))))))))))))))))))))))))))))
theorem ZK3:∀ t ∈ eqList,Tryz.prog.stoodInHeld t=false∧Tryz.prog.eqGuardType Tryz.prog.depth t=false:=by
 intro t ht
 simp only [eqList,List.mem_cons,List.not_mem_nil,or_false] at ht

theorem ZES (args:Array Value) (w:World):(callFunc 225 args).run Tryz.prog w=(do pure (.value (← extF .cmp args)):Sem Next).run Tryz.prog w:=by kernel_rfl
theorem ZET (args:Array Value) (w:World):(callFunc 239 args).run Tryz.prog w=(do pure (.value (← extF .same args)):Sem Next).run Tryz.prog w:=by kernel_rfl
theorem ZEU (args:Array Value) (w:World):(callFunc 249 args).run Tryz.prog w=(do pure (.value (← extF .indexByte args)):Sem Next).run Tryz.prog w:=by kernel_rfl
theorem ZJq:∀ f e,cfg.ext f=some e→∀ (args:Array Value) (w:World),(callFunc f args).run Tryz.prog w=(do pure (.value (← extF e args)):Sem Next).run Tryz.prog w:=by
 intro f e h
 have h2:=Zpn (l:=extList) h
 simp only [extList,List.mem_cons,Prod.mk.injEq,List.not_mem_nil,or_false] at h2
 rcases h2 with ⟨rfl,rfl⟩ | ⟨rfl,rfl⟩ | ⟨rfl,rfl⟩
 ·exact ZES
 ·exact ZET
 ·exact ZEU
theorem ZJN:∀ f g,cfg.sum f=some g→cfg.user f=true∧ZCj cfg f g:=by
 intro f g h
 have h2:=Zpn (l:=sumList) h
 simp only [sumList,List.mem_cons,Prod.mk.injEq,List.not_mem_nil,or_false] at h2
 rcases h2 with ⟨rfl,rfl⟩
 ·exact ⟨by kernel_rfl,ZHA (C:=cfg) rfl (fun _=>rfl)⟩
theorem ZJo:∀ f g,cfg.eff f=some g→cfg.user f=true∧ZsE cfg f g:=by
 intro f g h
 have h2:=Zpn (l:=effList) h
 simp only [effList,List.mem_cons,Prod.mk.injEq,List.not_mem_nil,or_false] at h2
 rcases h2 with ⟨rfl,rfl⟩ | ⟨rfl,rfl⟩ | ⟨rfl,rfl⟩
 ·exact ⟨by kernel_rfl,ZGZ (C:=cfg) rfl (fun _=>rfl)⟩
 ·exact ⟨by kernel_rfl,ZE2 (C:=cfg) rfl (fun _=>rfl)⟩
 ·exact ⟨by kernel_rfl,ZGs (C:=cfg) rfl (fun _=>rfl)⟩
theorem ZJe:Zfx cfg:=
 ⟨fun t h=>ZK3 t (List.contains_iff_mem.1 h),fun f h=>ZJ4 f (List.contains_iff_mem.1 h),by kernel_rfl,ZJq,ZJN,ZJo⟩
end Go.Am
