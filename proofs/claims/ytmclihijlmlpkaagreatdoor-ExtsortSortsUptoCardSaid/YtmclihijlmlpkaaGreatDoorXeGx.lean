/- The functions of the translation over the abstract machine -/
import Derived.Test.YtmclihijlmlpkaaGreatDoorProg
import Derived.Test.YtmclihijlmlpkaaGreatDoorXeFex
open Option renaming some->i
open Bool renaming true->d,false->I
open Go.Proofs.Tryz
open Go.Am.AV renaming int->Q
open Go.IntKind renaming i64->J
open List renaming not_mem_nil->zA,mem_cons->zB,contains_iff_mem->zC
open Prod.mk renaming injEq->zD
namespace Go.Am
open Go.Proofs
set_option maxRecDepth 100000
noncomputable section
variable (p0 p1 p2 X W x2 x3 x4 x5 V O x8 x9 x10 U x12 x33 x34 x35 x36:AV)(Y H:Hp)
abbrev b7:da:=[3,5,7,10,11]
abbrev b8:da:=[3,5,7,8,10]
abbrev b9:da:=[3,7,9,10,12,13,15,16,17,18,20,21]
abbrev bg:da:=[6,7,10,11,13,14,17,19]
abbrev bh:AV:=.tuple []
def ZfF:List (Nat×List (Nat×da)):=[(3,[(3,[1,2]),(1000003,[2])]),
 (4,[(2,[0,3]),(3,[0,3]),(4,[0,3]),(6,[0])]),
 (6,[(4,[1])]),
 (7,[(4,[0,4,6,7,8,11,12]),(7,[4,6,7,8,11,12,14]),(13,[8,11,12,14,15,16,35]),(14,[8,11,12,14,15,16,35]),(17,[11,12,14,15,16,35]),(20,[10,11,12,14,15,16,35]),(24,[10,11,12,16,35]),(900002,[10,11,12,35])]),
 (9,[(4,[0,1,2,3,4]),(5,[0,1,2,3,4]),(6,[0,1,2,3,4]),(9,[0,1,2,3,4,5,6]),(11,[0,1,2,3,4,5,6]),(14,[0,1,2,3])]),
 (10,[(4,[3,4,5,6,9]),(8,[3,4,5,6,9,12,13,14,15]),(9,[3,4,5,6,9,12,13,14,15]),(10,[3,4,5,6,9,12,13,14,15]),(12,[3,4,5,6,9,12,13,14,15,16,17]),(13,[3,4,5,6,9,12,13,14,15,16,17]),(14,[3,4,5,6,9,12,13,14,15,16,17]),(15,[3,4,5,6,9,12,13,14,15,16]),(18,[3,4,5,6,9,12,13,14]),(19,[3,4,5,6,9,12,14]),(20,[3,4,5,6,9,12,14]),(21,[3,4,5,9,12])]),
 (11,[(3,[0,1]),(4,[0,1,5]),(5,[0,1,5]),(6,[0,1,5]),(8,[])]),
 (12,[(3,[0,3,4,5]),(5,[3,4,5,6,14,15,16]),(6,[3,4,5,6,14,15,16,17]),(9,[3,4,5,6,7,8,14,15,16]),(12,[3,4,5,6,9,14,15,16]),(13,[3,4,5,6,14,15,16]),(14,[3,4,5]),(15,[3,4,5,10]),(16,[3,4,5,10]),(17,[3,4,5,10]),(18,[4,5])]),
 (13,[(3,[3,5,6]),(6,[3,6]),(8,[3]),(10,[3]),(11,[25,26,27]),(12,[25,26,27,28]),(15,[25,26,27]),(16,[])]),
 (14,[(3,[0,1,2]),(5,[0,1,2]),(6,[0,1,2,18,19,20]),(7,[0,1,2,18,19,20,21]),(11,[0,1,2,18,19,20]),(12,[0,1,2])]),
 (16,[(3,[0]),(5,[0]),(6,[0]),(10,[0,3]),(11,[0])]),
 (17,[(2,[0,13,14,15]),(3,[0,13,14,15,16]),(7,[0,8,9,13,14,15]),(11,[0,13,14,15]),(12,[])]),
 (18,[(3,[0,5,19,20,21]),(4,[0,5,19,20,21,22]),(7,[0,5,8,19,20,21,25,26,27]),(8,[0,5,8,19,20,21,25,26,27,28]),(10,[0,5,8,19,20,21,25,26,27]),(11,[0,5,8,19,20,21]),(14,[0,5,11,19,20,21]),(15,[0,5,19,20,21]),(16,[0,5])]),
 (19,[(3,[0,4,15,16,17]),(4,[0,4,15,16,17,18]),(6,[0,4,15,16,17]),(7,[0,4]),(9,[7,8]),(12,[7,8,9,10]),(14,[7,8,9])]),
 (20,[(4,[2,4]),(6,[2]),(8,[2]),(9,[2,8]),(10,[2,8]),(11,[2,8]),(13,[])]),
 (21,[(4,[0,1,5,6,7]),(5,[0,1,5,6,7]),(6,[0,1,5,6,7]),(15,[5])]),
 (22,[(4,[2,3,4,7]),(5,[2,3,4,7,8]),(6,[2,3,4,7,8]),(7,[2,3,4,7,8]),(8,[3,4,7])]),
 (23,[(3,[0,3,4]),(4,[0,3,4]),(5,[0,3,4]),(6,[3])]),
 (24,[(4,[3,5,6,9,11,12,13,14]),(5,[3,5,6,9,11,12,13,14]),(6,[3,5,6,9,11,12,13,14]),(8,[3,5,6,9,11,12,13,14,15,16]),(9,[3,5,6,9,11,12,13,14,15,16]),(10,[3,5,6,9,11,12,13,14,15,16]),(11,[3,5,6,9,11,12,13,14,15]),(13,[3,5,6,9,11,12,13,14,15]),(17,[3,5,6,9,11,12,13,14,17,18,19]),(18,[3,5,6,9,11,12,13,14,17,18,19]),(19,[3,5,6,9,11,12,13,14,17,18,19]),(20,[3,5,6,9,11,12,13,14,17,18,19,20]),(21,[3,5,6,9,11,12,13,14,17,18,19,20]),(22,[3,5,6,9,11,12,13,14,17,18,19,20]),(23,[3,5,6,9,11,12,13,14,17,18]),(25,[9,11,13])]),
 (26,[(3,[1]),(5,[1]),(6,[33,34,35]),(7,[33,34,35,36]),(10,[33,34,35]),(11,[])]),
 (27,[(2,[0,7,8]),(3,[0,7,8,9]),(8,[0,7,8]),(9,[0])]),
 (28,[(4,[0,1,5]),(6,[5,6,21,22,23]),(7,[5,6,21,22,23,24]),(11,[5,6,21,22,23]),(12,[5])]),
 (29,[(4,[6])]),
 (31,[(5,[1,5,6,7,8,15,16,17]),(6,[1,5,6,7,8,15,16,17,18]),(11,[1,5,6,7,8,11,15,16,17]),(12,[1,5,6,7,8,15,16,17]),(13,[5,6,7]),(16,[6])]),
 (32,[(3,[0,3,5,6]),(6,[0,3,5,6,10]),(9,[0,10]),(12,[10])]),
 (34,[(3,[3,6,7,8]),(4,[3,6,7,8,9]),(6,[3,6,7,8]),(7,[3])]),
 (35,[(4,[1,5,12,13]),(5,[1,5,12,13,14]),(8,[1,5,6,12,13]),(10,[1,5,12,13]),(11,[5])]),
 (36,[(3,[0,1]),(6,[0,1,6]),(9,[0,6,48,49,50]),(10,[0,6,48,49,50,51]),(14,[0,6,48,49,50]),(15,[0,6,48,49,50]),(16,[6])]),
 (37,[(3,[0,1])]),
 (38,[(1000002,[4])]),
 (39,[(3,[0]),(6,[0,5]),(7,[0,5])]),
 (40,[(3,[1]),(5,[1]),(6,[1,3]),(7,[1,3]),(8,[1,3]),(10,[])]),
 (42,[(2,[2,3,4,5,9]),(3,[2,3,4,5,9]),(4,[2,3,9])]),
 (43,[(3,[2,3,4,7,8]),(4,[2,3,4,7,8]),(5,[2,3,4,7,8]),(7,[7])]),
 (44,[(3,[0,3,4]),(4,[0,3,4]),(5,[0,3,4]),(6,[3])]),
 (45,[(3,[0,1]),(5,[0,1]),(7,[0,1,5,6]),(8,[0,1,5,6]),(10,[0,1,5,6,7,8]),(11,[0,1,5,6,7,8]),(12,[0,1,5,6,7,8]),(14,[0,1,5,6,7]),(15,[5])]),
 (46,[(4,[2,7,8]),(5,[2,7,8]),(6,[2,7,8]),(7,[7]),(8,[2,3,4,7]),(9,[2,3,4,7,9]),(11,[2,3,4,7,9,10,11]),(12,[2,3,4,7,9,10,11]),(13,[2,3,4,7,9,10,11]),(15,[2,3,4,7,9,10]),(17,[2,3,4,7,9,10])]),
 (48,[(3,[0]),(5,[0,3,10,11,12]),(6,[0,3,10,11,12,13]),(9,[0,3,10,11,12]),(10,[3])]),
 (50,[(3,[0,1]),(5,[0,1]),(8,[6])]),
 (53,[(3,[0])]),
 (55,[(3,[0]),(5,[0]),(9,[0,4])]),
 (56,[(4,[0,1,2]),(6,[0,1,2]),(9,[0,1,8]),(11,[0,1,8])]),
 (57,[(3,[2,3,4]),(6,[7]),(1000003,[3,4])]),
 (58,[(4,[0,1]),(7,[0,1])]),
 (59,[(3,[0])]),
 (60,[(3,[0,3,5,6]),(6,[0,3,5,6,10]),(8,[0,5,6,10,12,31,32,33]),(9,[0,5,6,10,12,31,32,33,34]),(11,[0,5,6,10,12,31,32,33]),(12,[0,5,6,10,12]),(13,[0,10,15]),(16,[0,10,15,16,17]),(17,[0,10,15,16]),(20,[0,10]),(23,[10])]),
 (61,[(4,[0,1]),(7,[0,1])]),
 (63,[(5,[1,5,6,7,20,21,22]),(6,[1,5,6,7,20,21,22,23]),(10,[1,5,6,7,8,10,11,20,21,22]),(12,[1,5,6,7,20,21,22]),(13,[1,5,7]),(15,[1,5]),(18,[13])]),
 (64,[(4,[2,3,4,5]),(5,[2,3,4,5,26,27,28]),(6,[2,3,4,5,26,27,28,29]),(10,[2,3,4,5,10,11,26,27,28]),(13,[2,3,4,5,26,27,28]),(14,[]),(1000010,[4,5,10])]),
 (65,[(3,[1])]),
 (66,[(5,[2,3,4,5]),(8,[9])]),
 (67,[(4,[2,3,4,5]),(5,[2,3,4,5,9]),(6,[2,3,4,5,9]),(7,[2,3,4,5,9]),(10,[2,3,4,5,9,10]),(13,[]),(1000010,[4,5,10])]),
 (69,[(6,[0])]),
 (72,[(11,[0,1]),(13,[0,1])]),
 (73,[(7,[])]),
 (74,[(3,[4,9,10,11]),(4,[4,9,10,11,12]),(8,[4,7,9,10,11]),(9,[4,9,10,11]),(10,[4])]),
 (75,[(3,[0,3,10,11,12]),(4,[0,3,10,11,12,13]),(7,[0,3,10,11,12]),(8,[3])]),
 (76,[(4,[0,2,7]),(6,[0,2,7])]),
 (77,[(3,[0,1]),(6,[1,6,7,8]),(7,[1,6,7,8]),(12,[6,7,8])]),
 (79,[(5,[2,3,4,5]),(8,[9])]),
 (80,[(3,[1,5,8,9,10]),(4,[1,5,8,9,10,11]),(7,[1,5,8,9,10]),(8,[5])]),
 (82,[(4,[6])]),
 (84,[(3,[0]),(11,[0]),(13,[0])]),
 (86,[(4,[5,6,7])]),
 (87,[(3,[1,2])]),
 (88,[(4,[4,5,6,7,9]),(8,[4,5,6,7,9]),(1000011,[4])]),
 (89,[(4,[0,2,4,7,8]),(12,[0,7,10]),(14,[0,7,10])]),
 (90,[(3,[1,2])]),
 (91,[(5,[1,2])]),
 (93,[(5,[3,9]),(7,[9])]),
 (94,[(5,[0,4,7,8,9]),(12,[0,11,12]),(14,[0,11,12]),(1000002,[4]),(1000006,[10]),(1000011,[13])]),
 (97,[(2,[0,7,8]),(3,[0,7,8,9]),(8,[0,7,8]),(9,[0])]),
 (99,[(3,[0])]),
 (102,[(5,[1,2,8,9,24,25]),(6,[1,2,8,9,24,25,26]),(9,[1,2,8,9,10,24,25]),(11,[1,2,8,9,24,25]),(12,[1,2,8,9]),(14,[1,2,8,9]),(16,[1,2]),(1000002,[3])]),
 (103,[(4,[0,1,2]),(7,[2,10]),(9,[2,10]),(12,[2,12,13])]),
 (104,[(2,[0,4]),(3,[0,4]),(4,[0,4]),(7,[0,4,5]),(14,[5,6,7,8,9]),(16,[5,7,8,9]),(19,[9,11])]),
 (105,[(5,[])]),
 (109,[(3,[0,3,7,8]),(4,[0,3,7,8,9]),(8,[0,3,7,8]),(9,[3])]),
 (112,[(3,[0,1,2,6,9]),(4,[0,1,2,6,9]),(7,[0,1,2,6,9,10]),(9,[0,1,2,6,9,10]),(10,[0,1,6]),(11,[0,1,6,11]),(12,[0,1,6,11]),(13,[0,1,6,11]),(14,[0,1,6,7,11]),(15,[0,1,6,7,11]),(16,[0,1,6,7,11]),(17,[0,1,6,7,11]),(18,[0,1,6,7,11]),(20,[0,1,7,11]),(21,[])]),
 (113,[(3,[1,2])]),
 (114,[(2,[0,1,5]),(3,[0,1,5]),(4,[0,1,5]),(6,[0,1,5]),(8,[0,1]),(10,[0,1]),(12,[])]),
 (115,[(3,[1,2,5,6]),(4,[1,2,5,6]),(10,[5])]),
 (116,[(3,[0,1,5,6,7]),(4,[0,1,5,6,7]),(5,[0,1,5,6,7]),(6,[1,5,6]),(7,[1,5,6,8]),(8,[1,5,6,8]),(9,[1,5,6,8]),(10,[5,6])]),
 (117,[(5,[5,7]),(7,[])]),
 (118,[(1,[1,2,3]),(2,[1,2,3]),(3,[1,2,3]),(5,[1,2,3]),(7,[1])]),
 (119,[(5,[0,1,5,6,7]),(6,[0,1,5,6,7]),(7,[0,1,5,6,7]),(10,[0,5,6]),(11,[0,5,6]),(12,[0,5,6,8]),(13,[0,5,6,8]),(14,[0,5,6,8]),(17,[0,5,6]),(19,[5])]),
 (120,[(3,[1])]),
 (121,[(3,[1])]),
 (125,[(2,[0,1,7,8]),(3,[0,1,7,8,9]),(6,[0,1,7,8]),(7,[])]),
 (128,[(3,[1,2])]),
 (130,[(3,[1,2,3,6,16,17,18]),(4,[1,2,3,6,16,17,18,19]),(6,[1,2,3,6,16,17,18]),(7,[1,2,3,6]),(8,[1,2,3,6,9]),(9,[1,2,3,6,9]),(14,[1,2,3,6,9,10,11]),(15,[1,2,3,6,9,10])]),
 (133,[(4,[2,3,10]),(6,[2,3,10])]),
 (134,[(3,[0,1]),(6,[1,7]),(9,[1,7,8]),(11,[1,7,8]),(13,[1,7,8])]),
 (135,[(2,[0,3]),(3,[0,3]),(4,[3])]),
 (136,[(3,[0,1,5,8,9]),(4,[0,1,5,8,9,10]),(8,[0,1,5,8,9]),(9,[1,5])]),
 (143,[(3,[0,5,10,11]),(4,[0,5,10,11,12]),(6,[0,5,10,11]),(7,[5])]),
 (145,[(3,[1]),(5,[1]),(6,[1,3]),(7,[1,3]),(8,[1,3]),(10,[1]),(12,[1]),(15,[1])]),
 (146,[(2,[1,2,3,7]),(3,[1,2,3,7]),(4,[1,2,3,7]),(6,[])]),
 (147,[(2,[0,4]),(3,[0,4]),(4,[0,4]),(7,[0,4,5]),(14,[0,4,5,6,7,8]),(16,[0,4,5,6,7,8]),(18,[0,4,5,6,7,8]),(21,[5,7,10]),(23,[7,10])]),
 (149,[(3,[0,3,4]),(4,[0,3,4]),(5,[0,3,4]),(8,[3])]),
 (163,[(3,[0,3,6,7]),(4,[0,3,6,7,8]),(8,[0,3,6,7]),(9,[3])]),
 (165,[(3,[1]),(5,[1]),(6,[1,27,28,29]),(7,[1,27,28,29,30]),(10,[1,27,28,29]),(11,[1]),(14,[1])]),
 (166,[(3,[0,1,5,6]),(4,[0,1,5,6,7]),(6,[0,1,5,6]),(7,[0,1])]),
 (168,[(3,[0,3,5]),(4,[0,3,5,6]),(8,[0,3,5]),(9,[3])]),
 (173,[(3,[0]),(4,[0,3]),(5,[0,3]),(6,[0,3]),(9,[])]),
 (175,[(3,[0]),(4,[0,3]),(5,[0,3]),(6,[0,3]),(8,[0,3]),(9,[0,3,4]),(10,[0,3,4]),(11,[0,3,4]),(13,[])]),
 (176,[(3,[0]),(4,[0,3]),(5,[0,3]),(6,[0,3]),(8,[0,3]),(9,[0,3,4]),(10,[0,3,4]),(11,[0,3,4]),(13,[])]),
 (177,[(1,[0,1]),(2,[0,1]),(3,[1])]),
 (178,[(3,[0,1,6,7]),(4,[0,1,6,7]),(5,[0,1,6,7]),(8,[1,6]),(9,[1,6,8]),(10,[1,6,8]),(11,[1,6,8]),(14,[6])]),
 (179,[(3,[0,1,5,6]),(4,[0,1,5,6]),(5,[0,1,5,6]),(6,[5])]),
 (190,[(2,[0,7,8]),(3,[0,7,8,9]),(8,[0,7,8]),(9,[0])]),
 (191,[(3,[0]),(5,[3,10,11,12]),(6,[3,10,11,12,13]),(9,[3,5,10,11,12]),(11,[3,5,10,11,12]),(12,[3,10,11,12]),(13,[])]),
 (192,[(3,[0]),(5,[3,10,11,12]),(6,[3,10,11,12,13]),(9,[3,5,10,11,12]),(11,[3,5,10,11,12]),(12,[3,10,11,12]),(13,[])]),
 (193,[(3,[0,1,2,7,11,12]),(4,[0,1,2,7,11,12,13]),(8,[0,1,2,7,11,12]),(9,[7])])]
def userList:da:=[3,4,5,6,7,8,9,10,11,12,13,14,15,16,17,18,19,20,21,22,23,24,25,26,27,28,29,30,31,32,33,34,35,36,37,38,39,40,41,42,43,44,45,46,47,48,49,50,51,52,53,54,55,56,57,58,59,60,61,62,63,64,65,66,67,68,69,70,71,72,73,74,75,76,77,78,79,80,81,82,83,84,85,86,87,88,89,90,91,92,93,94,95,96,97,98,99,100,101,102,103,104,105,106,107,108,109,110,111,112,113,114,115,116,117,118,119,120,121,122,123,124,125,126,127,128,129,130,131,132,133,134,135,136,137,138,139,140,141,142,143,144,145,146,147,148,149,150,151,152,153,154,155,156,157,158,159,160,161,162,163,165,166,167,168,169,170,171,172,173,174,175,176,177,178,179,180,181,182,183,184,185,186,187,188,189,190,191,192,193,195,196,198,199,200,201,202,203,204,206,207]
def pureList:da:=[46]
def flatList:da:=[4,5,6,9,11,12,20,21,22,25,26,27,31,34,35,40,41,42,43,44,45,47,49,53,57,62,64,65,66,67,71,74,77,78,79,80,81,87,88,90,91,92,93,97,98,99,102,104,105,107,109,110,111,113,114,115,116,117,118,125,126,128,129,132,134,135,136,143,145,146,147,149,150,163,165,166,167,168,173,174,175,176,177,178,179,190,191,192,193]
def extList:List (Nat×ExtK):=[(164,.same),(194,.cmp),(197,.indexByte)]
def roList:da:=[23,28,48,59,75]
def eqList:da:=[]
noncomputable def sumList:List (Nat×(c6->Option AV)):=[(96,Zc2),(108,Zc9)]
noncomputable def effList:List (Nat×EffFn):=[(30,forgetE),(68,namesE),(100,textE),(101,stringE),(142,byteE)]
def bldList:List (Nat×Nat):=[(146,5)]
def wrbList:da:=[68]
def qkList:List (Nat×da):=[(11,[12]),(14,[15])]
def linList:da:=[29,40]
def farList:List (Nat×Nat×Nat×Nat):=[(35,12,34,11)]
def dfrList:da:=[7]
noncomputable def cfg:Cfg:={ P:=Tryz.prog,glob:=Mi,sum:=λf=>sumList.lookup f,user:=λf=>userList.contains f,eqok:=λt=>eqList.contains t,pure:=λf=>pureList.contains f,flat:=λf=>flatList.contains f,ext:=λf=>extList.lookup f,keep:=Zqb ZfF,eff:=λf=>effList.lookup f,bld:=λt=>bldList.lookup t,lin:=λt=>linList.contains t,qk:=λt a=>qkList.contains (t,a),wrb:=λt=>wrbList.contains t,ro:=λf=>roList.contains f,far:=i λt a u b=>farList.contains (t,a,u,b),dfr:=λf=>dfrList.contains f }
theorem Z9 {kp:Nat -> Option da}{g:Code -> KL -> AL -> Hp -> Z4}{n:Nat}{c:Code}{k:KL}{j:AL}{H:Hp}{r:Z4}(cut:da)(h:Al cfg (Zb cfg) g kp n Za Z5 (Yg cfg (Zb cfg) g kp n Za Z5) cut c k j H=r:=by kernel_rfl):Yg cfg (Zb cfg) g kp n Za Z5 c k j H=r:=(ZmA cut c k j H).trans h
theorem Be {f:FuncId}{fn:Func}{args:c6}{H:Hp}{r:Z4}(n:Nat)(cut:da)(u:cfg.P.funcs[f]?=i fn)(j:Tz cfg f fn=i (Z1 fn):=by kernel_rfl)(g:fn.ntmps=n:=by kernel_rfl)(w:Nat.ble args.length n=d:=by kernel_rfl)(h:Al cfg (Zb cfg) (Y0 cfg (cfg.keep f) n) (cfg.keep f) n Za Z5 (Yg cfg (Zb cfg) (Y0 cfg (cfg.keep f) n) (cfg.keep f) n Za Z5) cut (Z1 fn) (Zf cfg n f fn H) (eV 0 args) H=r:=by kernel_rfl):Zb cfg f args H=r:=(Zd cut u j g args w H).trans h

def Mo:=Zb cfg 3
def nK:=Zb cfg 4
def IU:=Zb cfg 5
def Dl:=Zb cfg 6
def U6:=Zb cfg 7
def NK:=Zb cfg 8
def US:=Zb cfg 9
def eB:=Zb cfg 10
def dY:=Zb cfg 11
def PO:=Zb cfg 12
def RI:=Zb cfg 13
def Q1:=Zb cfg 14
def SB:=Zb cfg 15
def Vd:=Zb cfg 16
def Qu:=Zb cfg 17
def QX:=Zb cfg 18
def Qt:=Zb cfg 19
def O0:=Zb cfg 20
def IZ:=Zb cfg 21
def RF:=Zb cfg 22
def Ex:=Zb cfg 23
def Ew:=Zb cfg 24
def KA:=Zb cfg 25
def Wt:=Zb cfg 26
def Ue:=Zb cfg 27
def RK:=Zb cfg 28
def VN:=Zb cfg 29
def SH:=Zb cfg 31
def SI:=Zb cfg 32
def Wg:=Zb cfg 33
def PP:=Zb cfg 34
def SF:=Zb cfg 35
def Qr:=Zb cfg 36
def NJ:=Zb cfg 37
def NI:=Zb cfg 38
def Ut:=Zb cfg 39
def Qp:=Zb cfg 40
def O1:=Zb cfg 41
def RG:=Zb cfg 42
def Ev:=Zb cfg 43
def Dp:=Zb cfg 44
def eA:=Zb cfg 45
def IY:=Zb cfg 46
def QG:=Zb cfg 47
def Vo:=Zb cfg 48
def Wh:=Zb cfg 50
def G5:=Zb cfg 51
def Yr:=Zb cfg 53
def VO:=Zb cfg 55
def Ve:=Zb cfg 56
def Gz:=Zb cfg 57
def Vz:=Zb cfg 58
def QZ:=Zb cfg 59
def MZ:=Zb cfg 60
def UL:=Zb cfg 61
def GA:=Zb cfg 62
def Uu:=Zb cfg 63
def WL:=Zb cfg 64
def NF:=Zb cfg 65
def Do:=Zb cfg 66
def K0:=Zb cfg 67
def Uv:=Zb cfg 69
def SG:=Zb cfg 71
def Js:=Zb cfg 72
def Xo:=Zb cfg 73
def PQ:=Zb cfg 74
def XT:=Zb cfg 75
def Jr:=Zb cfg 76
def YR:=Zb cfg 77
def SD:=Zb cfg 78
def UZ:=Zb cfg 79
def Ud:=Zb cfg 80
def SE:=Zb cfg 81
def G4:=Zb cfg 82
def QY:=Zb cfg 83
def Vn:=Zb cfg 84
def V5:=Zb cfg 85
def G2:=Zb cfg 86
def Vx:=Zb cfg 87
def Q0:=Zb cfg 88
def QF:=Zb cfg 89
def Kj:=Zb cfg 90
def JZ:=Zb cfg 91
def Wf:=Zb cfg 92
def NE:=Zb cfg 93
def Fh:=Zb cfg 94
def FP:=Zb cfg 97
def YW:=Zb cfg 98
def PR:=Zb cfg 99
def Uc:=Zb cfg 102
def Vy:=Zb cfg 103
def Jo:=Zb cfg 104
def PU:=Zb cfg 105
def BT:=Zb cfg 106
def BU:=Zb cfg 107
def PT:=Zb cfg 109
def BV:=Zb cfg 110
def PS:=Zb cfg 111
def KB:=Zb cfg 112
def Ki:=Zb cfg 113
def Dn:=Zb cfg 114
def Ff:=Zb cfg 115
def IW:=Zb cfg 116
def MX:=Zb cfg 117
def NG:=Zb cfg 118
def SA:=Zb cfg 119
def Eu:=Zb cfg 120
def ND:=Zb cfg 121
def Ws:=Zb cfg 125
def NH:=Zb cfg 126
def U7:=Zb cfg 128
def UY:=Zb cfg 129
def MY:=Zb cfg 130
def Jq:=Zb cfg 131
def BW:=Zb cfg 132
def G3:=Zb cfg 133
def SC:=Zb cfg 134
def Jp:=Zb cfg 135
def RH:=Zb cfg 136
def Vw:=Zb cfg 141
def RJ:=Zb cfg 143
def Kr:=Zb cfg 144
def NC:=Zb cfg 145
def Et:=Zb cfg 146
def RD:=Zb cfg 147
def Qq:=Zb cfg 148
def dZ:=Zb cfg 149
def IX:=Zb cfg 150
def O2:=Zb cfg 163
def Gy:=Zb cfg 165
def FO:=Zb cfg 166
def W9:=Zb cfg 167
def G1:=Zb cfg 168
def Ub:=Zb cfg 172
def G0:=Zb cfg 173
def Dm:=Zb cfg 174
def UX:=Zb cfg 175
def Us:=Zb cfg 176
def RE:=Zb cfg 177
def Sy:=Zb cfg 178
def Sz:=Zb cfg 179
def K1:=Zb cfg 190
def Vv:=Zb cfg 191
def Vc:=Zb cfg 192
def V4:=Zb cfg 193
noncomputable abbrev a6 (f n:Nat):=Yg cfg (Zb cfg) (Y0 cfg (cfg.keep f) n) (cfg.keep f) n Za Z5
noncomputable abbrev a8 (f n:Nat)(F:Func)(p:Nat)(G:Hp):=λk K=>a6 f n (sub (Z1 F) (dd p)) (Zf cfg n f F G) k K
abbrev b6 (F:Func)(p:Nat):=sub (Z1 F) (dd p)
def Hv:Z4:=a8 26 78 f26 31 Y [] H
def JP:KL:=Za (λk g H=>a6 26 78 (b6 f26 31) k (Ya (cfg.keep 26) (b6 f26 31) g) H) (Zf cfg 78 26 f26 Y)
theorem dJ:ZH 78 (JP Y):=Zq (C:=cfg) (kp:=cfg.keep 26) (b6 f26 31) (Zv 26 f26 Y)
def R0:Z4:=a6 26 78 (b6 f26 1959) (Za (λk g H=>Y0 cfg (cfg.keep 26) 78 (b6 f26 244) k (Ya (cfg.keep 26) (b6 f26 244) g) H) (Z5 0 (JP Y))) [(33,x33),(34,x34),(35,x35)] H
def FZ:Z4:=a6 26 78 (b6 f26 979) (Za (λk g H=>Y0 cfg (cfg.keep 26) 78 (b6 f26 244) k (Ya (cfg.keep 26) (b6 f26 244) g) H) (Z5 0 (JP Y))) [(33,x33),(34,x34),(35,x35),(36,x36)] H
def JQ:Z4:=Y0 cfg (cfg.keep 26) 78 (b6 f26 244) (Z5 0 (JP Y)) [(33,x33),(34,x34),(35,x35)] H
def Hu:Z4:=a8 26 78 f26 15 Y [(1,W)] H
def Ht:Z4:=a8 26 78 f26 7 Y [(1,W)] H
def As:Z4:=
 Z0 (ZF p0 H) λg=>
 Z0 (Z8 0 g.1) λt5=>
 Z0 (Z2 I 1 t5 g.2) λh=>
 Z0 (Zk (.slice 103) h) λj=>
 Z0 (Z3 .gtr j (Q J 8)) λu=>
 Zl u
  (i ((Q J 3),g.2))
  (Ht g.1 H g.2)
theorem mH:Hv Y H =
 i ((Q J 0),H):=Z9 b7
theorem mJ:R0 x33 x34 x35 Y H =
 Z0 (Z3 .add x35 (Q J 1)) λg=>
 JQ x33 x34 g Y H:=Z9 b7
theorem mI:FZ x33 x34 x35 x36 Y H =
 Z0 (Zj 5 x33 x35) λt37=>
 Z0 (Z2 d 5 t37 H) λC=>
 Z0 (i ((.ptr H.length 0),H++[.cells [(Q J 0),(Q J 0),(Q J 0),(Q J 0),(Q J 0)]])) λj=>
 Z0 (Zc 5 j.1 C j.2) λg=>
 Z0 (Z8 0 j.1) λD=>
 Z0 (Z2 I 1 D g.2) λE=>
 Z0 (Z3 .lss E (Q J 1)) λu=>
 Z0 (Z7 u I bh (Z8 1 j.1)) λF=>
 Z0 (Z7 u I bh (Z2 I 1 F g.2)) λL=>
 Z0 (Z7 u I bh (Z3 .lss L (Q J 1))) λM=>
 Z0 (Zm u (.bool d) M) λw=>
 Z0 (Z7 w I bh (Z8 2 j.1)) λN=>
 Z0 (Z7 w I bh (Z2 I 1 N g.2)) λR=>
 Z0 (Z7 w I bh (Z3 .lss R (Q J 0))) λS=>
 Z0 (Zm w (.bool d) S) λy=>
 Z0 (Z7 y I bh (Z8 3 j.1)) λT=>
 Z0 (Z7 y I bh (Z2 I 1 T g.2)) λZ=>
 Z0 (Z7 y I bh (Z3 .lss Z (Q J 0))) λaa=>
 Z0 (Zm y (.bool d) aa) λh=>
 Z0 (Z7 h I bh (Z8 2 j.1)) λab=>
 Z0 (Z7 h I bh (Z2 I 1 ab g.2)) λac=>
 Z0 (Z7 h I bh (Z3 .eql ac (Q J 0))) λad=>
 Z0 (Z7 h I bh (i ad)) λz=>
 Z0 (Z7 z d bh (Z8 3 j.1)) λae=>
 Z0 (Z7 z d bh (Z2 I 1 ae g.2)) λaf=>
 Z0 (Z7 z d bh (Z3 .neq af (Q J 0))) λag=>
 Z0 (Z7 h I bh (Zm z ag (.bool I))) λah=>
 Z0 (Zm h (.bool d) ah) λA=>
 Z0 (Z7 A I bh (Z8 4 j.1)) λai=>
 Z0 (Z7 A I bh (Z2 I 1 ai g.2)) λaj=>
 Z0 (Z7 A I bh (Z3 .lss aj (Q J 0))) λt70=>
 Z0 (Zm A (.bool d) t70) λB=>
 Z0 (Z7 B I bh (Z8 4 j.1)) λak=>
 Z0 (Z7 B I bh (Z2 I 1 ak g.2)) λal=>
 Z0 (Z7 B I bh (Z3 .gtr al (Q J 31))) λam=>
 Z0 (Zm B (.bool d) am) λan=>
 Zl an
  (i ((Q J 2),g.2))
  (R0 x33 x34 x35 Y g.2):=Z9 b7
theorem PC:JQ x33 x34 x35 Y H =
 Z0 (Z3 .lss x35 x34) λg=>
 Zl g
  (FZ x33 x34 x35 g Y H)
  (Hv Y H):=(Zw (C:=cfg) [3,5,7,10,11] (Zg 0 (dJ Y)) _ _).trans df
theorem mG:Hu W Y H =
 Z0 (Z8 0 W) λh=>
 Z0 (Z2 I 1 h H) λg=>
 Z0 (Zk (.slice 103) g) λj=>
 JQ g j (Q J 0) Y H:=Z9 b7
theorem mF:Ht W Y H =
 Z0 (Z8 1 W) λt9=>
 Z0 (Z2 I 1 t9 H) λw=>
 Z0 (Z3 .lss w (Q J (-1))) λg=>
 Z0 (Z7 g I bh (Z8 1 W)) λy=>
 Z0 (Z7 g I bh (Z2 I 1 y H)) λz=>
 Z0 (Z7 g I bh (Z3 .gtr z (Q J 255))) λA=>
 Z0 (Zm g (.bool d) A) λh=>
 Z0 (Z7 h I bh (Z8 1 W)) λB=>
 Z0 (Z7 h I bh (Z2 I 1 B H)) λC=>
 Z0 (Z7 h I bh (Z3 .eql C (Q J 10))) λD=>
 Z0 (Zm h (.bool d) D) λj=>
 Z0 (Z7 j I bh (Z8 2 W)) λE=>
 Z0 (Z7 j I bh (Z2 I 1 E H)) λF=>
 Z0 (Z7 j I bh (Z3 .lss F (Q J 0))) λL=>
 Z0 (Zm j (.bool d) L) λu=>
 Z0 (Z7 u I bh (Z8 2 W)) λM=>
 Z0 (Z7 u I bh (Z2 I 1 M H)) λN=>
 Z0 (Z7 u I bh (Z3 .gtr N (Q J 31))) λR=>
 Z0 (Zm u (.bool d) R) λS=>
 Zl S
  (i ((Q J 2),H))
  (Hu W Y H):=Z9 b7
theorem nZ:Wt [p0] H=As p0 H:=Be 78 [3,5,7,10,11] func26
def pK:Z4:=a8 40 45 f40 31 Y [] H
def T9:KL:=Za (λk g H=>a6 40 45 (b6 f40 31) k (Ya (cfg.keep 40) (b6 f40 31) g) H) (Zf cfg 45 40 f40 Y)
theorem Zcz:ZH 45 (T9 Y):=Zq (C:=cfg) (kp:=cfg.keep 40) (b6 f40 31) (Zv 40 f40 Y)
def pM:Z4:=a6 40 45 (b6 f40 979) (Za (λk g H=>Y0 cfg (cfg.keep 40) 45 (b6 f40 244) k (Ya (cfg.keep 40) (b6 f40 244) g) H) (Z5 0 (T9 Y))) [(1,W),(3,x3)] H
def pL:Z4:=a6 40 45 (b6 f40 489) (Za (λk g H=>Y0 cfg (cfg.keep 40) 45 (b6 f40 244) k (Ya (cfg.keep 40) (b6 f40 244) g) H) (Z5 0 (T9 Y))) [(1,W),(3,x3)] H
def Ta:Z4:=Y0 cfg (cfg.keep 40) 45 (b6 f40 244) (Z5 0 (T9 Y)) [(1,W),(3,x3)] H
def pJ:Z4:=a8 40 45 f40 15 Y [(1,W)] H
def pI:Z4:=a8 40 45 f40 7 Y [(1,W)] H
def Zdc:Z4:=
 Z0 (ZF p0 H) λg=>
 Z0 (Z8 0 g.1) λt4=>
 Z0 (Z2 I 1 t4 g.2) λt5=>
 Z0 (Zk (.slice 103) t5) λh=>
 Z0 (Z3 .gtr h (Q J 8)) λj=>
 Zl j
  (i ((Q J 3),g.2))
  (pI g.1 H g.2)
theorem ZgY:pK Y H =
 i ((Q J 0),H):=Z9 b8
theorem Zh0:pM W x3 Y H =
 Z0 (Z3 .add x3 (Q J 1)) λt37=>
 Ta W t37 Y H:=Z9 b8
theorem ZgZ:pL W x3 Y H =
 Z0 (Z8 0 W) λh=>
 Z0 (Z2 I 1 h H) λj=>
 Z0 (Zj 5 j x3) λu=>
 Z0 (Z2 d 5 u H) λw=>
 Z0 (Ze NF [w] H) λg=>
 Z0 (Xa .not g.1) λy=>
 Zl y
  (i ((Q J 2),g.2))
  (pM W x3 Y g.2):=Z9 b8
theorem AF:Ta W x3 Y H =
 Z0 (Z8 0 W) λg=>
 Z0 (Z2 I 1 g H) λh=>
 Z0 (Zk (.slice 103) h) λj=>
 Z0 (Z3 .lss x3 j) λu=>
 Zl u
  (pL W x3 Y H)
  (pK Y H):=(Zw (C:=cfg) [3,5,7,8,10] (Zg 0 (Zcz Y)) _ _).trans df
theorem ZgX:pJ W Y H =
 Ta W (Q J 0) Y H:=Z9 b8
theorem ZgW:pI W Y H =
 Z0 (Z8 1 W) λS=>
 Z0 (Z2 I 1 S H) λt9=>
 Z0 (Z3 .lss t9 (Q J (-1))) λg=>
 Z0 (Z7 g I bh (Z8 1 W)) λw=>
 Z0 (Z7 g I bh (Z2 I 1 w H)) λy=>
 Z0 (Z7 g I bh (Z3 .gtr y (Q J 255))) λz=>
 Z0 (Zm g (.bool d) z) λh=>
 Z0 (Z7 h I bh (Z8 1 W)) λA=>
 Z0 (Z7 h I bh (Z2 I 1 A H)) λB=>
 Z0 (Z7 h I bh (Z3 .eql B (Q J 10))) λC=>
 Z0 (Zm h (.bool d) C) λj=>
 Z0 (Z7 j I bh (Z8 2 W)) λD=>
 Z0 (Z7 j I bh (Z2 I 1 D H)) λE=>
 Z0 (Z7 j I bh (Z3 .lss E (Q J 0))) λF=>
 Z0 (Zm j (.bool d) F) λu=>
 Z0 (Z7 u I bh (Z8 2 W)) λL=>
 Z0 (Z7 u I bh (Z2 I 1 L H)) λM=>
 Z0 (Z7 u I bh (Z3 .gtr M (Q J 31))) λN=>
 Z0 (Zm u (.bool d) N) λR=>
 Zl R
  (i ((Q J 2),H))
  (pJ W Y H):=Z9 b8
theorem Zjg:Qp [p0] H=Zdc p0 H:=Be 45 [3,5,7,8,10] func40
def aO:Z4:=
 Z0 (ZF p0 H) λg=>
 Z0 (i ((.ptr g.2.length 0),g.2++[.cells [(.str []),.nils,(.str []),(.str []),.nils,.nils]])) λz=>
 Z0 (Z8 1 g.1) λt3=>
 Z0 (Z2 I 1 t3 z.2) λt4=>
 Z0 (ZR 1 8 .nils t4 z.2) λF=>
 Z0 (Z8 1 g.1) λM=>
 Z0 (Zc 1 M F.1 F.2) λy=>
 Z0 (Z8 4 g.1) λN=>
 Z0 (Z2 I 1 N y.2) λR=>
 Z0 (ZR 5 48 .nils R y.2) λL=>
 Z0 (Z8 4 g.1) λA=>
 Z0 (Zc 1 A L.1 L.2) λh=>
 Z0 (Z8 5 g.1) λB=>
 Z0 (Z2 I 1 B h.2) λC=>
 Z0 (ZR 2 24 .nils C h.2) λw=>
 Z0 (Z8 5 g.1) λD=>
 Z0 (Zc 1 D w.1 w.2) λj=>
 Z0 (Z2 d 6 g.1 j.2) λE=>
 Z0 (Zc 6 z.1 E j.2) λu=>
 Z0 (Z2 d 6 z.1 u.2) λS=>
 i (S,u.2)
theorem Zci:GA [p0] H=aO p0 H:=Be 16 [] func62
def Cn:Z4:=a8 65 39 f65 7 Y [(1,W)] H
def Zdh:Z4:=
 Z0 (ZF p0 H) λg=>
 Z0 (Z8 0 g.1) λt3=>
 Z0 (Z2 I 1 t3 g.2) λt4=>
 Z0 (Z3 .lss t4 (Q J 1)) λt5=>
 Z0 (Z7 t5 I bh (Z8 1 g.1)) λZ=>
 Z0 (Z7 t5 I bh (Z2 I 1 Z g.2)) λt8=>
 Z0 (Z7 t5 I bh (Z3 .lss t8 (Q J 1))) λt9=>
 Z0 (Zm t5 (.bool d) t9) λj=>
 Z0 (Z7 j I bh (Z8 2 g.1)) λy=>
 Z0 (Z7 j I bh (Z2 I 1 y g.2)) λz=>
 Z0 (Z7 j I bh (Z3 .lss z (Q J 0))) λA=>
 Z0 (Zm j (.bool d) A) λu=>
 Z0 (Z7 u I bh (Z8 3 g.1)) λB=>
 Z0 (Z7 u I bh (Z2 I 1 B g.2)) λC=>
 Z0 (Z7 u I bh (Z3 .lss C (Q J 0))) λD=>
 Z0 (Zm u (.bool d) D) λh=>
 Z0 (Z7 h I bh (Z8 2 g.1)) λE=>
 Z0 (Z7 h I bh (Z2 I 1 E g.2)) λF=>
 Z0 (Z7 h I bh (Z3 .eql F (Q J 0))) λL=>
 Z0 (Z7 h I bh (i L)) λw=>
 Z0 (Z7 w d bh (Z8 3 g.1)) λM=>
 Z0 (Z7 w d bh (Z2 I 1 M g.2)) λN=>
 Z0 (Z7 w d bh (Z3 .neq N (Q J 0))) λR=>
 Z0 (Z7 h I bh (Zm w R (.bool I))) λS=>
 Z0 (Zm h (.bool d) S) λT=>
 Zl T
  (i ((.bool I),g.2))
  (Cn g.1 H g.2)
theorem Zh6:Cn W Y H =
 Z0 (Z8 4 W) λh=>
 Z0 (Z2 I 1 h H) λj=>
 Z0 (Z3 .geq j (Q J 0)) λg=>
 Z0 (Z7 g d bh (Z8 4 W)) λu=>
 Z0 (Z7 g d bh (Z2 I 1 u H)) λw=>
 Z0 (Z7 g d bh (Z3 .leq w (Q J 31))) λt37=>
 Z0 (Zm g t37 (.bool I)) λy=>
 i (y,H):=Z9 [3]
theorem Zjl:NF [p0] H=Zdh p0 H:=Be 39 [3] func65
def MR:Z4:=a8 89 70 f89 255 Y [(0,X),(7,O),(10,x10)] H
def Wm:Z4:=a8 89 70 f89 127 Y [(0,X),(7,O),(10,x10)] H
def MQ:Z4:=a8 89 70 f89 15 Y [(0,X),(2,x2),(4,x4),(7,O),(8,x8)] H
def LW:Z4:=
 Z0 (ZF p1 H) λh=>
 Z0 (Z8 0 h.1) λj=>
 Z0 (Z2 I 1 j h.2) λu=>
 Z0 (Q2 u (Q J 1)) λw=>
 Z0 (KB [p0,w,p2] h.2) λg=>
 Z0 (ZQ g.1 0) λy=>
 Z0 (ZQ g.1 1) λz=>
 Z0 (ZQ g.1 2) λA=>
 Z0 (Xa .not A) λB=>
 Zl B
  (i ((.str []),g.2))
  (MQ p0 p2 h.1 y z H g.2)
theorem dR:MR X O x10 Y H =
 Z0 (Y4 X (i O) (i x10) none) λg=>
 i (g,H):=Z9 [4,12,14]
theorem dQ:Wm X O x10 Y H =
 Z0 (Z3 .lss x10 O) λg=>
 Zl g
  (i ((.str []),H))
  (MR X O x10 Y H):=Z9 [4,12,14]
theorem dP:MQ X x2 x4 O x8 Y H =
 Z0 (Z8 1 x4) λw=>
 Z0 (Z2 I 1 w H) λy=>
 Z0 (Q2 y (Q J 1)) λz=>
 Z0 (Z3 .sub z (Q J 1)) λA=>
 Z0 (Z3 .sub x8 O) λB=>
 Z0 (Q3 A B) λC=>
 Z0 (Z3 .add O C) λh=>
 Z0 (Zk .string X) λt37=>
 Z0 (Z8 2 x4) λD=>
 Z0 (Z2 I 1 D H) λE=>
 Z0 (Z3 .gtr E (Q J 0)) λF=>
 Zl F
  (Z0 (Z8 2 x4) λL=>
  Z0 (Z2 I 1 L H) λM=>
  Z0 (KB [X,M,x2] H) λg=>
  Z0 (ZQ g.1 0) λj=>
  Z0 (ZQ g.1 1) λu=>
  Z0 (ZQ g.1 2) λN=>
  Zl N
   (Z0 (Z8 3 x4) λR=>
   Z0 (Z2 I 1 R g.2) λS=>
   Z0 (Z3 .gtr S (Q J 0)) λT=>
   Zl T
    (Z0 (Z8 3 x4) λZ=>
    Z0 (Z2 I 1 Z g.2) λaa=>
    Z0 (Z3 .sub u j) λab=>
    Z0 (Q3 aa ab) λac=>
    Z0 (Z3 .add j ac) λad=>
    Wm X h ad Y g.2)
    (Wm X h u Y g.2))
   (Wm X h t37 Y g.2))
  (Wm X h t37 Y H):=Z9 [4,12,14]
theorem eE:QF [p0,p1,p2] H=LW p0 p1 p2 H:=Be 70 [4,12,14] func89
def ZkT:Z4:=
 Z0 (Z3 .quo p0 p1) λg=>
 Z0 (Z3 .rem g (Q J 2)) λh=>
 Z0 (Z3 .eql h (Q J 1)) λt9=>
 i (t9,H)
theorem ZmG:Wf [p0,p1] H=ZkT p0 p1 H:=Be 10 [] func92
def bL:Z4:=a8 94 84 f94 511 Y [(0,X),(11,U),(12,x12)] H
def J6:Z4:=a8 94 84 f94 255 Y [(0,X),(11,U),(12,x12)] H
def bK:Z4:=a8 94 84 f94 31 Y [(0,X),(4,x4),(7,O),(8,x8),(9,x9)] H
def jE:Z4:=
 Z0 (ZF p1 H) λD=>
 Z0 (SA [p0,p2] D.2) λg=>
 Wy D.1 g.2 λz4 u=>
 Z0 (Z8 0 z4) λw=>
 Z0 (Z2 I 1 w u) λy=>
 Z0 (Eu [y,(Q J 1)] u) λh=>
 Z0 (Z8 1 z4) λz=>
 Z0 (Xk I 1 z) λA=>
 Z0 (Eu [A,(Q J 1)] h.2) λj=>
 Z0 (Zk (.slice 173) g.1) λB=>
 Z0 (Z3 .gtr h.1 B) λC=>
 Zl C
  (i ((.str []),j.2))
  (bK p0 z4 g.1 h.1 j.1 H j.2)
theorem ZcH:bL X U x12 Y H =
 Z0 (Y4 X (i U) (i x12) none) λg=>
 i (g,H):=Z9 [5,12,14]
theorem ZcG:J6 X U x12 Y H =
 Z0 (Z3 .leq x12 U) λg=>
 Zl g
  (i ((.str []),H))
  (bL X U x12 Y H):=Z9 [5,12,14]
theorem ZcF:bK X x4 O x8 x9 Y H =
 Z0 (Z3 .sub x8 (Q J 1)) λF=>
 Z0 (Zj 2 O F) λL=>
 Z0 (Z2 d 2 L H) λM=>
 Z0 (i ((.ptr H.length 0),H++[.cells [(Q J 0),(Q J 0)]])) λz=>
 Z0 (Zc 2 z.1 M z.2) λE=>
 Wy z.1 E.2 λB w=>
 Z0 (Z8 0 B) λN=>
 Z0 (Xk I 1 N) λR=>
 Z0 (Z3 .sub x9 (Q J 1)) λS=>
 Z0 (Z8 1 B) λT=>
 Z0 (Z2 I 1 T w) λt37=>
 Z0 (Z8 0 B) λZ=>
 Z0 (Z2 I 1 Z w) λaa=>
 Z0 (Z3 .sub t37 aa) λab=>
 Z0 (ND [S,ab] w) λg=>
 Z0 (Z3 .add R g.1) λA=>
 Z0 (Zk .string X) λac=>
 Z0 (Z8 2 x4) λad=>
 Z0 (Z2 I 1 ad g.2) λae=>
 Z0 (Z3 .gtr ae (Q J 0)) λu=>
 Z0 (Z7 u d bh (Z8 2 x4)) λaf=>
 Z0 (Z7 u d bh (Z2 I 1 af g.2)) λag=>
 Z0 (Z7 u d bh (i O)) λah=>
 Z0 (Z7 u d bh (Zk (.slice 173) ah)) λai=>
 Z0 (Z7 u d bh (Z3 .leq ag ai)) λaj=>
 Z0 (Zm u aj (.bool I)) λak=>
 Zl ak
  (Z0 (Z8 2 x4) λal=>
  Z0 (Z2 I 1 al g.2) λam=>
  Z0 (Z3 .sub am (Q J 1)) λan=>
  Z0 (Zj 2 O an) λao=>
  Z0 (Z2 d 2 ao g.2) λap=>
  Z0 (i ((.ptr g.2.length 0),g.2++[.cells [(Q J 0),(Q J 0)]])) λy=>
  Z0 (Zc 2 y.1 ap y.2) λh=>
  Z0 (Z8 1 y.1) λaq=>
  Z0 (Z2 I 1 aq h.2) λar=>
  Z0 (Z8 3 x4) λau=>
  Z0 (Z2 I 1 au h.2) λaw=>
  Z0 (Z3 .gtr aw (Q J 0)) λax=>
  Zl ax
   (Wy y.1 h.2 λC j=>
   Z0 (Z8 0 C) λay=>
   Z0 (Xk I 1 ay) λaz=>
   Z0 (Z8 3 x4) λba=>
   Z0 (Z2 I 1 ba j) λbb=>
   Z0 (Z8 1 C) λt70=>
   Z0 (Z2 I 1 t70 j) λbc=>
   Z0 (Z8 0 C) λt72=>
   Z0 (Z2 I 1 t72 j) λbd=>
   Z0 (Z3 .sub bc bd) λbe=>
   Z0 (ND [bb,be] j) λD=>
   Z0 (Z3 .add az D.1) λbf=>
   J6 X A bf Y D.2)
   (J6 X A ar Y h.2))
  (J6 X A ac Y g.2):=Z9 [5,12,14]
theorem Zev:Fh [p0,p1,p2] H=jE p0 p1 p2 H:=Be 84 [5,12,14] func94
def Hx:Z4:=a8 112 83 f112 15 Y [] H
def Uo:KL:=Za (λk g H=>a6 112 83 (b6 f112 15) k (Ya (cfg.keep 112) (b6 f112 15) g) H) (Zf cfg 83 112 f112 Y)
theorem Ru:ZH 83 (Uo Y):=Zq (C:=cfg) (kp:=cfg.keep 112) (b6 f112 15) (Zv 112 f112 Y)
def HA:Z4:=a6 112 83 (b6 f112 467) (Za (λk g H=>Y0 cfg (cfg.keep 112) 83 (b6 f112 116) k (Ya (cfg.keep 112) (b6 f112 116) g) H) (Z5 2 (Uo Y))) [(0,X),(1,W),(6,V),(11,U)] H
def Va:KL:=Za (λk g H=>a6 112 83 (b6 f112 467) k (Ya (cfg.keep 112) (b6 f112 467) g) H) (Za (λk g H=>Y0 cfg (cfg.keep 112) 83 (b6 f112 116) k (Ya (cfg.keep 112) (b6 f112 116) g) H) (Z5 2 (Uo Y)))
theorem Rv:ZH 83 (Va Y):=Zq (C:=cfg) (kp:=cfg.keep 112) (b6 f112 467) (Qn (C:=cfg) (kp:=cfg.keep 112) (b6 f112 116) (Zg 2 (Ru Y)))
def HC:Z4:=a6 112 83 (b6 f112 14927) (Z5 3 (Va Y)) [(0,X),(1,W),(7,O),(11,U)] H
def R4:Z4:=a6 112 83 (b6 f112 7463) (Z5 3 (Va Y)) [(0,X),(1,W),(6,V),(7,O),(11,U)] H
def R5:KL:=Za (λk g H=>a6 112 83 (b6 f112 7463) k (Ya (cfg.keep 112) (b6 f112 7463) g) H) (Z5 3 (Va Y))
theorem dS:ZH 83 (R5 Y):=Zq (C:=cfg) (kp:=cfg.keep 112) (b6 f112 7463) (Zg 3 (Rv Y))
def HD:Z4:=a6 112 83 (b6 f112 59697) (Za (λk g H=>Y0 cfg (cfg.keep 112) 83 (b6 f112 29848) k (Ya (cfg.keep 112) (b6 f112 29848) g) H) (Z5 6 (R5 Y))) [(0,X),(1,W),(6,V),(7,O),(11,U)] H
def JT:Z4:=Y0 cfg (cfg.keep 112) 83 (b6 f112 29848) (Z5 6 (R5 Y)) [(0,X),(1,W),(6,V),(7,O),(11,U)] H
def R3:Z4:=a6 112 83 (b6 f112 3731) (Z5 3 (Va Y)) [(0,X),(1,W),(6,V),(7,O),(11,U)] H
def R6:KL:=Za (λk g H=>a6 112 83 (b6 f112 3731) k (Ya (cfg.keep 112) (b6 f112 3731) g) H) (Z5 3 (Va Y))
theorem dT:ZH 83 (R6 Y):=Zq (C:=cfg) (kp:=cfg.keep 112) (b6 f112 3731) (Zg 3 (Rv Y))
def HE:Z4:=a6 112 83 (b6 f112 29841) (Za (λk g H=>Y0 cfg (cfg.keep 112) 83 (b6 f112 14920) k (Ya (cfg.keep 112) (b6 f112 14920) g) H) (Z5 4 (R6 Y))) [(0,X),(1,W),(6,V),(7,O),(11,U)] H
def JU:Z4:=Y0 cfg (cfg.keep 112) 83 (b6 f112 14920) (Z5 4 (R6 Y)) [(0,X),(1,W),(6,V),(7,O),(11,U)] H
def Hy:Z4:=a6 112 83 (b6 f112 233) (Za (λk g H=>Y0 cfg (cfg.keep 112) 83 (b6 f112 116) k (Ya (cfg.keep 112) (b6 f112 116) g) H) (Z5 2 (Uo Y))) [(0,X),(1,W),(6,V),(11,U)] H
def JS:Z4:=Y0 cfg (cfg.keep 112) 83 (b6 f112 116) (Z5 2 (Uo Y)) [(0,X),(1,W),(6,V),(11,U)] H
def R2:Z4:=a8 112 83 f112 7 Y [(0,X),(1,W),(6,V)] H
def JR:KL:=Za (λk g H=>a6 112 83 (b6 f112 7) k (Ya (cfg.keep 112) (b6 f112 7) g) H) (Zf cfg 83 112 f112 Y)
theorem dU:ZH 83 (JR Y):=Zq (C:=cfg) (kp:=cfg.keep 112) (b6 f112 7) (Zv 112 f112 Y)
def Ep:Z4:=a6 112 83 (b6 f112 425) (Za (λk g H=>Y0 cfg (cfg.keep 112) 83 (b6 f112 212) k (Ya (cfg.keep 112) (b6 f112 212) g) H) (Z5 0 (JR Y))) [(0,X),(1,W),(2,x2),(6,V),(9,x9)] H
def HF:KL:=Za (λk g H=>a6 112 83 (b6 f112 425) k (Ya (cfg.keep 112) (b6 f112 425) g) H) (Za (λk g H=>Y0 cfg (cfg.keep 112) 83 (b6 f112 212) k (Ya (cfg.keep 112) (b6 f112 212) g) H) (Z5 0 (JR Y)))
def Es:Z4:=a6 112 83 (b6 f112 6791) (Z5 1 (HF Y)) [(0,X),(1,W),(2,x2),(6,V),(9,x9),(10,x10)] H
def Er:Z4:=a6 112 83 (b6 f112 3395) (Z5 1 (HF Y)) [(0,X),(1,W),(2,x2),(6,V),(9,x9),(10,x10)] H
def JV:Z4:=Y0 cfg (cfg.keep 112) 83 (b6 f112 212) (Z5 0 (JR Y)) [(0,X),(1,W),(2,x2),(6,V),(9,x9)] H
def Av:Z4:=
 Z0 (Z3 .geq p2 (Q J 0)) λg=>
 Z0 (Z7 g d bh (i p2)) λh=>
 Z0 (Z7 g d bh (Z3 .leq h (Q J 255))) λj=>
 Z0 (Zm g j (.bool I)) λu=>
 Zl u
  (JV p0 p1 p2 (Q J 0) (Q J 1) H H)
  (R2 p0 p1 (Q J 0) H H)
theorem mN:Hx Y H =
 i ((.tuple [(Q J 0),(Q J 0),(.bool I)]),H):=Z9 b9
theorem mP:HA X W V U Y H =
 Z0 (Z3 .add U (Q J 1)) λg=>
 JS X W V g Y H:=Z9 b9
theorem mS:HC X W O U Y H =
 HA X W O U Y H:=Z9 b9
theorem mR:R4 X W V O U Y H =
 Z0 (Z3 .eql U W) λg=>
 Zl g
  (i ((.tuple [V,O,(.bool d)]),H))
  (HC X W O U Y H):=Z9 b9
theorem mT:HD X W V O U Y H =
 Z0 (Z3 .add O (Q J 1)) λg=>
 JT X W V g U Y H:=Z9 b9
theorem PD:JT X W V O U Y H =
 Z0 (Zk .string X) λj=>
 Z0 (Z3 .lss O j) λg=>
 Z0 (Z7 g d bh (i X)) λu=>
 Z0 (Z7 g d bh (i O)) λt70=>
 Z0 (Z7 g d bh (Zz u t70)) λw=>
 Z0 (Z7 g d (bh,H) (Vw [w] H)) λh=>
 Z0 (Z7 g d bh (Xa .not h.1)) λy=>
 Z0 (Zm g y (.bool I)) λz=>
 Zl z
  (HD X W V O U Y h.2)
  (R4 X W V O U Y h.2):=(Zw (C:=cfg) [3,7,9,10,12,13,15,16,17,18,20,21] (Zg 6 (dS Y)) _ _).trans df
theorem mQ:R3 X W V O U Y H =
 JT X W V O U Y H:=Z9 b9
theorem mU:HE X W V O U Y H =
 Z0 (Z3 .add O (Q J 1)) λg=>
 JU X W V g U Y H:=Z9 b9
theorem PE:JU X W V O U Y H =
 Z0 (Zk .string X) λj=>
 Z0 (Z3 .lss O j) λg=>
 Z0 (Z7 g d bh (i X)) λu=>
 Z0 (Z7 g d bh (i O)) λw=>
 Z0 (Z7 g d bh (Zz u w)) λy=>
 Z0 (Z7 g d (bh,H) (Vw [y] H)) λh=>
 Z0 (Zm g h.1 (.bool I)) λz=>
 Zl z
  (HE X W V O U Y h.2)
  (R3 X W V O U Y h.2):=(Zw (C:=cfg) [3,7,9,10,12,13,15,16,17,18,20,21] (Zg 4 (dT Y)) _ _).trans df
theorem mO:Hy X W V U Y H =
 JU X W V V U Y H:=Z9 b9
theorem mV:JS X W V U Y H =
 Z0 (Zk .string X) λg=>
 Z0 (Z3 .lss V g) λh=>
 Zl h
  (Hy X W V U Y H)
  (Hx Y H):=(Zw (C:=cfg) [3,7,9,10,12,13,15,16,17,18,20,21] (Zg 2 (Ru Y)) _ _).trans df
theorem mM:R2 X W V Y H =
 JS X W V (Q J 1) Y H:=Z9 b9
theorem iN:Ep X W x2 V x9 Y H =
 Z0 (Z3 .add x9 (Q J 1)) λg=>
 JV X W x2 V g Y H:=Z9 b9
theorem iP:Es X W x2 V x9 x10 Y H =
 Z0 (Z3 .add x10 (Q J 1)) λg=>
 Z0 (Z3 .add V g) λh=>
 Ep X W x2 h x9 Y H:=Z9 b9
theorem iO:Er X W x2 V x9 x10 Y H =
 Z0 (Z3 .eql x9 W) λg=>
 Zl g
  (Z0 (Z3 .add V x10) λh=>
  i ((.tuple [V,h,(.bool d)]),H))
  (Es X W x2 V x9 x10 Y H):=Z9 b9
theorem mW:JV X W x2 V x9 Y H =
 Z0 (Y4 X (i V) none none) λh=>
 Z0 (Yn .u8 x2) λj=>
 Z0 (Kr [h,j] H) λg=>
 Z0 (Z3 .lss g.1 (Q J 0)) λu=>
 Zl u
  (Z0 (Zk .string X) λw=>
  Z0 (Z3 .eql x9 W) λy=>
  i ((.tuple [V,w,y]),g.2))
  (Er X W x2 V x9 g.1 Y g.2):=(Zw (C:=cfg) [3,7,9,10,12,13,15,16,17,18,20,21] (Zg 0 (dU Y)) _ _).trans df
theorem oC:KB [p0,p1,p2] H=Av p0 p1 p2 H:=Be 83 [3,7,9,10,12,13,15,16,17,18,20,21] func112
def La:Z4:=a8 119 78 f119 127 Y [(5,x5)] H
def jY:Z4:=a8 119 78 f119 63 Y [(0,X),(5,x5),(6,V)] H
def FA:KL:=Za (λk g H=>a6 119 78 (b6 f119 63) k (Ya (cfg.keep 119) (b6 f119 63) g) H) (Zf cfg 78 119 f119 Y)
theorem pN:ZH 78 (FA Y):=Zq (C:=cfg) (kp:=cfg.keep 119) (b6 f119 63) (Zv 119 f119 Y)
def Fz:Z4:=a6 119 78 (b6 f119 2003) (Za (λk g H=>Y0 cfg (cfg.keep 119) 78 (b6 f119 500) k (Ya (cfg.keep 119) (b6 f119 500) g) H) (Z5 2 (FA Y))) [(0,X),(5,x5),(6,V),(8,x8)] H
def jZ:Z4:=a6 119 78 (b6 f119 1001) (Za (λk g H=>Y0 cfg (cfg.keep 119) 78 (b6 f119 500) k (Ya (cfg.keep 119) (b6 f119 500) g) H) (Z5 2 (FA Y))) [(0,X),(5,x5),(6,V),(8,x8)] H
def FC:Z4:=Y0 cfg (cfg.keep 119) 78 (b6 f119 500) (Z5 2 (FA Y)) [(0,X),(5,x5),(6,V),(8,x8)] H
def L9:Z4:=a8 119 78 f119 31 Y [(0,X),(5,x5),(6,V)] H
def Lc:KL:=Za (λk g H=>a6 119 78 (b6 f119 31) k (Ya (cfg.keep 119) (b6 f119 31) g) H) (Zf cfg 78 119 f119 Y)
theorem pO:ZH 78 (Lc Y):=Zq (C:=cfg) (kp:=cfg.keep 119) (b6 f119 31) (Zv 119 f119 Y)
def kA:Z4:=a6 119 78 (b6 f119 245) (Lc Y) [(0,X),(5,x5),(6,V)] H
def FB:KL:=Za (λk g H=>a6 119 78 (b6 f119 245) k (Ya (cfg.keep 119) (b6 f119 245) g) H) (Lc Y)
theorem pP:ZH 78 (FB Y):=Zq (C:=cfg) (kp:=cfg.keep 119) (b6 f119 245) (pO Y)
def Lb:Z4:=a6 119 78 (b6 f119 7827) (Za (λk g H=>Y0 cfg (cfg.keep 119) 78 (b6 f119 1956) k (Ya (cfg.keep 119) (b6 f119 1956) g) H) (Z5 0 (FB Y))) [(0,X),(1,W),(5,x5),(6,V),(7,O)] H
def kB:Z4:=a6 119 78 (b6 f119 3913) (Za (λk g H=>Y0 cfg (cfg.keep 119) 78 (b6 f119 1956) k (Ya (cfg.keep 119) (b6 f119 1956) g) H) (Z5 0 (FB Y))) [(0,X),(1,W),(5,x5),(6,V),(7,O)] H
def FE:Z4:=Y0 cfg (cfg.keep 119) 78 (b6 f119 1956) (Z5 0 (FB Y)) [(0,X),(1,W),(5,x5),(6,V),(7,O)] H
def nN:Z4:=
 Z0 (Z3 .geq p1 (Q J 0)) λg=>
 Z0 (Z7 g d bh (i p1)) λh=>
 Z0 (Z7 g d bh (Z3 .leq h (Q J 255))) λj=>
 Z0 (Zm g j (.bool I)) λu=>
 Zl u
  (FE p0 p1 .nils (Q J 0) (Q J 0) H H)
  (L9 p0 .nils (Q J 0) H H)
theorem Cg:La x5 Y H =
 i (x5,H):=Z9 bg
theorem Cf:jY X x5 V Y H =
 Z0 (Zk .string X) λh=>
 Z0 (Z3 .gtr h (Q J 0)) λj=>
 Zl j
  (Z0 (Zk .string X) λu=>
  Z0 ((Yq [(0,1,V),(1,1,u)] [(Q J 0),(Q J 0)]).map .agg) λw=>
  Z0 ((Zt 2 [(0,w)] [(.agg [(Q J 0),(Q J 0)])]).map (.vs 2 .clip)) λy=>
  Z0 (ZR 2 16 x5 y H) λg=>
  La g.1 Y g.2)
  (La x5 Y H):=Z9 bg
theorem Ch:Fz X x5 V x8 Y H =
 Z0 (Z3 .add x8 (Q J 1)) λg=>
 FC X x5 V g Y H:=Z9 bg
theorem ZeY:jZ X x5 V x8 Y H =
 Z0 (Zz X x8) λu=>
 Z0 (Qq [u] H) λg=>
 Z0 (Z7 g.1 d bh (i X)) λw=>
 Z0 (Z7 g.1 d bh (i x8)) λy=>
 Z0 (Z7 g.1 d bh (Z3 .sub y (Q J 1))) λz=>
 Z0 (Z7 g.1 d bh (Zz w z)) λA=>
 Z0 (Z7 g.1 d (bh,g.2) (Qq [A] g.2)) λh=>
 Z0 (Z7 g.1 d bh (Xa .not h.1)) λB=>
 Z0 (Zm g.1 B (.bool I)) λC=>
 Zl C
  (Z0 ((Yq [(0,1,V),(1,1,x8)] [(Q J 0),(Q J 0)]).map .agg) λD=>
  Z0 ((Zt 2 [(0,D)] [(.agg [(Q J 0),(Q J 0)])]).map (.vs 2 .clip)) λE=>
  Z0 (ZR 2 16 x5 E h.2) λj=>
  Fz X j.1 x8 x8 Y j.2)
  (Fz X x5 V x8 Y h.2):=Z9 bg
theorem FS:FC X x5 V x8 Y H =
 Z0 (Zk .string X) λg=>
 Z0 (Z3 .lss x8 g) λh=>
 Zl h
  (jZ X x5 V x8 Y H)
  (jY X x5 V Y H):=(Zw (C:=cfg) [6,7,10,11,13,14,17,19] (Zg 2 (pN Y)) _ _).trans df
theorem ZeX:L9 X x5 V Y H =
 FC X x5 V (Q J 1) Y H:=Z9 bg
theorem ZeZ:kA X x5 V Y H =
 Z0 (Zk .string X) λh=>
 Z0 ((Yq [(0,1,V),(1,1,h)] [(Q J 0),(Q J 0)]).map .agg) λj=>
 Z0 ((Zt 2 [(0,j)] [(.agg [(Q J 0),(Q J 0)])]).map (.vs 2 .clip)) λu=>
 Z0 (ZR 2 16 x5 u H) λg=>
 i (g.1,g.2):=Z9 bg
theorem Ci:Lb X W x5 V O Y H =
 Z0 (Z3 .add O (Q J 1)) λg=>
 FE X W x5 V g Y H:=Z9 bg
theorem Zf0:kB X W x5 V O Y H =
 Z0 (Zz X O) λh=>
 Z0 (Yn .i64 h) λj=>
 Z0 (Z3 .eql j W) λu=>
 Zl u
  (Z0 ((Yq [(0,1,V),(1,1,O)] [(Q J 0),(Q J 0)]).map .agg) λw=>
  Z0 ((Zt 2 [(0,w)] [(.agg [(Q J 0),(Q J 0)])]).map (.vs 2 .clip)) λy=>
  Z0 (ZR 2 16 x5 y H) λg=>
  Z0 (Z3 .add O (Q J 1)) λz=>
  Lb X W g.1 z O Y g.2)
  (Lb X W x5 V O Y H):=Z9 bg
theorem Cj:FE X W x5 V O Y H =
 Z0 (Zk .string X) λg=>
 Z0 (Z3 .lss O g) λh=>
 Zl h
  (kB X W x5 V O Y H)
  (kA X x5 V Y H):=(Zw (C:=cfg) [6,7,10,11,13,14,17,19] (Zg 0 (pP Y)) _ _).trans df
theorem Zgi:SA [p0,p1] H=nN p0 p1 H:=Be 78 [6,7,10,11,13,14,17,19] func119
def ZdB:Z4:=a8 120 10 f120 7 Y [(1,W)] H
def Zgj:Z4:=
 Z0 (Z3 .gtr p0 p1) λg=>
 Zl g
  (i (p0,H))
  (ZdB p1 H H)
theorem ZjJ:ZdB W Y H =
 i (W,H):=Z9 [3]
theorem ZlR:Eu [p0,p1] H=Zgj p0 p1 H:=Be 10 [3] func120
def pR:Z4:=a8 121 10 f121 7 Y [(1,W)] H
def Zdf:Z4:=
 Z0 (Z3 .lss p0 p1) λg=>
 Zl g
  (i (p0,H))
  (pR p1 H H)
theorem Zh3:pR W Y H =
 i (W,H):=Z9 [3]
theorem Zjj:ND [p0,p1] H=Zdf p0 p1 H:=Be 10 [3] func121
def Au:Z4:=
 Z0 (Z3 .eql p0 (.int .u8 32)) λt4=>
 Z0 (Z7 t4 I bh (i p0)) λg=>
 Z0 (Z7 t4 I bh (Z3 .eql g (.int .u8 9))) λh=>
 Z0 (Zm t4 (.bool d) h) λj=>
 i (j,H)
theorem oB:Vw [p0] H=Au p0 H:=Be 9 [] func141
def Pi:Z4:=
 Z0 (Ub [p0,p1] H) λg=>
 i (g.1,g.2)
theorem O9:Kr [p0,p1] H=Pi p0 p1 H:=Be 8 [] func144
def Zde:Z4:=
 Z0 (Z3 .eql p0 (.int .u8 32)) λt4=>
 Z0 (Z7 t4 I bh (i p0)) λg=>
 Z0 (Z7 t4 I bh (Z3 .eql g (.int .u8 9))) λh=>
 Z0 (Zm t4 (.bool d) h) λj=>
 i (j,H)
theorem Zji:Qq [p0] H=Zde p0 H:=Be 9 [] func148
def Uf:Z4:=
 Z0 (fR .indexByte [p0,p1] H) λg=>
 i (g.1,g.2)
theorem GC:Ub [p0,p1] H=Uf p0 p1 H:=Be 8 [] func172
theorem Zfe (a b args:c6)(H:Hp):Yu cfg (Zb cfg) (.fn (.func 78) a b) args H=Ze SD (a++args++b) H:=df
theorem Zff (a b args:c6)(H:Hp):Yu cfg (Zb cfg) (.fn (.func 81) a b) args H=Ze SE (a++args++b) H:=df
theorem ZcO (a b args:c6)(H:Hp):Yu cfg (Zb cfg) (.fn (.func 106) a b) args H=BT (a++args++b) H:=df
theorem Zcl (a b args:c6)(H:Hp):XG cfg (Zb cfg) (.fn (.func 107) a b) args H=Ze BU (a++args++b) H:=df
theorem ZjD (a b args:c6)(H:Hp):XG cfg (Zb cfg) (.fn (.func 109) a b) args H=Ze PT (a++args++b) H:=df
theorem Zcm (a b args:c6)(H:Hp):XG cfg (Zb cfg) (.fn (.func 110) a b) args H=Ze BV (a++args++b) H:=df
theorem Zad (a b args:c6)(H:Hp):Yu cfg (Zb cfg) (.fn (.func 129) a b) args H=Ze UY (a++args++b) H:=df
theorem oH (a b args:c6)(H:Hp):XG cfg (Zb cfg) (.fn (.func 129) a b) args H=Ze UY (a++args++b) H:=df
theorem eN (a b args:c6)(H:Hp):Yu cfg (Zb cfg) (.fn (.func 131) a b) args H=Jq (a++args++b) H:=df
theorem ZkQ:∀ f∈userList,cE Tryz.prog f:=
 Z6 call3 (
 Z6 call4 (
 Z6 call5 (
 Z6 call6 (
 Z6 call7 (
 Z6 call8 (
 Z6 call9 (
 Z6 call10 (
 Z6 call11 (
 Z6 call12 (
 Z6 call13 (
 Z6 call14 (
 Z6 call15 (
 Z6 call16 (
 Z6 call17 (
 Z6 call18 (
 Z6 call19 (
 Z6 call20 (
 Z6 call21 (
 Z6 call22 (
 Z6 call23 (
 Z6 call24 (
 Z6 call25 (
 Z6 call26 (
 Z6 call27 (
 Z6 call28 (
 Z6 call29 (
 Z6 call30 (
 Z6 call31 (
 Z6 call32 (
 Z6 call33 (
 Z6 call34 (
 Z6 call35 (
 Z6 call36 (
 Z6 call37 (
 Z6 call38 (
 Z6 call39 (
 Z6 call40 (
 Z6 call41 (
 Z6 call42 (
 Z6 call43 (
 Z6 call44 (
 Z6 call45 (
 Z6 call46 (
 Z6 call47 (
 Z6 call48 (
 Z6 call49 (
 Z6 call50 (
 Z6 call51 (
 Z6 call52 (
 Z6 call53 (
 Z6 call54 (
 Z6 call55 (
 Z6 call56 (
 Z6 call57 (
 Z6 call58 (
 Z6 call59 (
 Z6 call60 (
 Z6 call61 (
 Z6 call62 (
 Z6 call63 (
 Z6 call64 (
 Z6 call65 (
 Z6 call66 (
 Z6 call67 (
 Z6 call68 (
 Z6 call69 (
 Z6 call70 (
 Z6 call71 (
 Z6 call72 (
 Z6 call73 (
 Z6 call74 (
 Z6 call75 (
 Z6 call76 (
 Z6 call77 (
 Z6 call78 (
 Z6 call79 (
 Z6 call80 (
 Z6 call81 (
 Z6 call82 (
 Z6 call83 (
 Z6 call84 (
 Z6 call85 (
 Z6 call86 (
 Z6 call87 (
 Z6 call88 (
 Z6 call89 (
 Z6 call90 (
 Z6 call91 (
 Z6 call92 (
 Z6 call93 (
 Z6 call94 (
 Z6 call95 (
 Z6 call96 (
 Z6 call97 (
 Z6 call98 (
 Z6 call99 (
 Z6 call100 (
 Z6 call101 (
 Z6 call102 (
 Z6 call103 (
 Z6 call104 (
 Z6 call105 (
 Z6 call106 (
 Z6 call107 (
 Z6 call108 (
 Z6 call109 (
 Z6 call110 (
 Z6 call111 (
 Z6 call112 (
 Z6 call113 (
 Z6 call114 (
 Z6 call115 (
 Z6 call116 (
 Z6 call117 (
 Z6 call118 (
 Z6 call119 (
 Z6 call120 (
 Z6 call121 (
 Z6 call122 (
 Z6 call123 (
 Z6 call124 (
 Z6 call125 (
 Z6 call126 (
 Z6 call127 (
 Z6 call128 (
 Z6 call129 (
 Z6 call130 (
 Z6 call131 (
 Z6 call132 (
 Z6 call133 (
 Z6 call134 (
 Z6 call135 (
 Z6 call136 (
 Z6 call137 (
 Z6 call138 (
 Z6 call139 (
 Z6 call140 (
 Z6 call141 (
 Z6 call142 (
 Z6 call143 (
 Z6 call144 (
 Z6 call145 (
 Z6 call146 (
 Z6 call147 (
 Z6 call148 (
 Z6 call149 (
 Z6 call150 (
 Z6 call151 (
 Z6 call152 (
 Z6 call153 (
 Z6 call154 (
 Z6 call155 (
 Z6 call156 (
 Z6 call157 (
 Z6 call158 (
 Z6 call159 (
 Z6 call160 (
 Z6 call161 (
 Z6 call162 (
 Z6 call163 (
 Z6 call165 (
 Z6 call166 (
 Z6 call167 (
 Z6 call168 (
 Z6 call169 (
 Z6 call170 (
 Z6 call171 (
 Z6 call172 (
 Z6 call173 (
 Z6 call174 (
 Z6 call175 (
 Z6 call176 (
 Z6 call177 (
 Z6 call178 (
 Z6 call179 (
 Z6 call180 (
 Z6 call181 (
 Z6 call182 (
 Z6 call183 (
 Z6 call184 (
 Z6 call185 (
 Z6 call186 (
 Z6 call187 (
 Z6 call188 (
 Z6 call189 (
 Z6 call190 (
 Z6 call191 (
 Z6 call192 (
 Z6 call193 (
 Z6 call195 (
 Z6 call196 (
 Z6 call198 (
 Z6 call199 (
 Z6 call200 (
 Z6 call201 (
 Z6 call202 (
 Z6 call203 (
 Z6 call204 (
 Z6 call206 (
 Z6 call207 (Zj0)))))))))))))))))))))))))))))))))))))))))))))))))))))))))))))))))))))))))))))))))))))))))))))))))))))))))))))))))))))))))))))))))))))))))))))))))))))))))))))))))))))))))))))))))))))))))))))))))))))))))
theorem Zrn:∀ t∈eqList,Tryz.prog.stoodInHeld t=I/\Tryz.prog.eqGuardType Tryz.prog.depth t=I:=by
 intro t g;simp only[eqList,zB,zA,or_false]at g
theorem ZaB (args:Array Value)(w:World):(callFunc 164 args).run Tryz.prog w=(do pure (.value (<-D9 .same args)):Sem Next).run Tryz.prog w:=df
theorem ZaC (args:Array Value)(w:World):(callFunc 194 args).run Tryz.prog w=(do pure (.value (<-D9 .cmp args)):Sem Next).run Tryz.prog w:=df
theorem ZaD (args:Array Value)(w:World):(callFunc 197 args).run Tryz.prog w=(do pure (.value (<-D9 .indexByte args)):Sem Next).run Tryz.prog w:=df
theorem Znw:∀ f e,cfg.ext f=i e->∀ (args:Array Value) (w:World),(callFunc f args).run Tryz.prog w=(do pure (.value (<-D9 e args)):Sem Next).run Tryz.prog w:=by
 intro f e h;have g:=TU (l:=extList) h;simp only[extList,zB,zD,zA,or_false]at g;rcases g with ⟨rfl,rfl⟩|⟨rfl,rfl⟩|⟨rfl,rfl⟩
 ·exact ZaB
 ·exact ZaC
 ·exact ZaD
theorem Zoz:∀ f g,cfg.sum f=i g->cfg.user f=d/\Zhr cfg f g:=by
 intro f g h;have j:=TU (l:=sumList) h;simp only[sumList,zB,zD,zA,or_false]at j;rcases j with ⟨rfl,rfl⟩|⟨rfl,rfl⟩
 ·exact⟨by kernel_rfl,Zxk (C:=cfg) rfl (λ_=>rfl)⟩
 ·exact⟨by kernel_rfl,Zy8 (C:=cfg) rfl (λ_=>rfl)⟩
theorem Znp:∀ f g,cfg.eff f=i g->cfg.user f=d/\RL cfg f g:=by
 intro f g h;have j:=TU (l:=effList) h;simp only[effList,zB,zD,zA,or_false]at j;rcases j with ⟨rfl,rfl⟩|⟨rfl,rfl⟩|⟨rfl,rfl⟩|⟨rfl,rfl⟩|⟨rfl,rfl⟩
 ·exact⟨by kernel_rfl,ZrL (C:=cfg) rfl (λ_=>rfl)⟩
 ·exact⟨by kernel_rfl,ZuO (C:=cfg) rfl (λ_=>rfl)⟩
 ·exact⟨by kernel_rfl,Zy6 (C:=cfg) rfl (λ_=>rfl)⟩
 ·exact⟨by kernel_rfl,ZsR (C:=cfg) rfl (λ_=>rfl)⟩
 ·exact⟨by kernel_rfl,Zwm (C:=cfg) rfl (λ_=>rfl)⟩
theorem cfg_ok:VX cfg:=
 ⟨λt h=>Zrn t (zC.1 h),λf h=>ZkQ f (zC.1 h),by kernel_rfl,Znw,Zoz,Znp⟩
end
end Go.Am
