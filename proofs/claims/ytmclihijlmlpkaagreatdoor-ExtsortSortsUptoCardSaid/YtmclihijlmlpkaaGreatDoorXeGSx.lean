/- The functions of the translation over the abstract machine -/
import Derived.Test.YtmclihijlmlpkaaGreatDoorXeGx
open Option renaming some->b,none->d
open Bool renaming true->c,false->a
open Go.Proofs.Tryz
open Go.Am.AV renaming int->Q
open Go.IntKind renaming i64->J
namespace Go.Am
open Go.Proofs
set_option maxRecDepth 100000
noncomputable abbrev Y7 (f n:Nat):=Yg cfg (Zb cfg) (Y0 cfg (cfg.keep f) n) (cfg.keep f) n Za Z5
noncomputable abbrev C2 (f n:Nat):=Y0 cfg (cfg.keep f) n
noncomputable section
abbrev Sx (f n:Nat)(F:Func)(p:Nat):KL->AL->Hp->Z4:=λk g H=>Y7 f n (sub (Z1 F) (dd p)) k (Ya (cfg.keep f) (sub (Z1 F) (dd p)) g) H
abbrev Jt (f n:Nat)(F:Func)(p:Nat):KL->AL->Hp->Z4:=λk g H=>C2 f n (sub (Z1 F) (dd p)) k (Ya (cfg.keep f) (sub (Z1 F) (dd p)) g) H
variable (W I p2 p3 X U t s q x5 r O x x9 V P v x13 x18 x19 x20 x21 x22 x23 x24:AV)(Y H:Hp)
abbrev bk (F:Func)(p:Nat):=sub (Z1 F) (dd p)
abbrev bn:da:=[3,5,6,10,11]
abbrev bo:da:=[3,6,9,11,13]
def Zds:Z4:=
 Z0 (Q2 W (Q J 0)) λt4=>
 Z0 (Q3 t4 (Q J 262144)) λt5=>
 Z0 (b ((.map H.length),H++[.map [] 0])) λg=>
 Z0 ((Yq [(0,1,t5),(3,1,g.1)] [(Q J 0),(Q J 0),(Q J 0),.nilm,(.bool a),(Q J 0)]).map .agg) λj=>
 Z0 (ZF j g.2) λh=>
 b (h.1,h.2)
theorem Zjw:NK [W] H=Zds W H:=Be 9 [] func8
noncomputable abbrev bj (f n:Nat)(F:Func)(p:Nat)(G:Hp):=λk K=>Y7 f n (sub (Z1 F) (dd p)) (Zf cfg n f F G) k K
def HQ:Z4:=bj 14 39 f14 31 Y [(0,X),(1,U),(2,t)] H
def R9:KL:=Za (Sx 14 39 f14 31) (Zf cfg 39 14 f14 Y)
theorem dW:ZH 39 (R9 Y):=Zq (C:=cfg) (kp:=cfg.keep 14) (bk f14 31) (Zv 14 f14 Y)
def Zg5:Z4:=Y7 14 39 (bk f14 979) (Za (Jt 14 39 f14 244) (Z5 0 (R9 Y))) [(0,X),(1,U),(2,t),(18,x18),(19,x19),(20,x20),(21,x21)] H
def HR:Z4:=C2 14 39 (bk f14 244) (Z5 0 (R9 Y)) [(0,X),(1,U),(2,t),(18,x18),(19,x19),(20,x20)] H
def HP:Z4:=bj 14 39 f14 15 Y [(0,X),(1,U),(2,t)] H
def HO:Z4:=bj 14 39 f14 7 Y [(0,X),(1,U),(2,t)] H
def Ay:Z4:=
 Z0 (YJ (.pointer 67) .eql W .nilp) λg=>
 Zl g
 (b ((.tuple [.nilp,(Q J 5)]),H))
 (HO W I p2 H H)
theorem nH:HQ X U t Y H =
 Z0 (b ((.map H.length),H++[.map [] 0])) λg=>
 Z0 ((Yq [(0,1,X),(1,1,U),(3,1,g.1)] [.nilp,(.str []),.nils,.nilm]).map .agg) λj=>
 Z0 (Q2 (Q J 0) t) λu=>
 Z0 ((Yq [(0,4,j),(4,1,u)] [.nilp,(.str []),.nils,.nilm,(Q J 0),(Q J 0),(.bool a)]).map .agg) λt37=>
 Z0 (ZF t37 g.2) λh=>
 b ((.tuple [h.1,(Q J 0)]),h.2):=Z9 [3,5,7,11,12]
theorem nI:HR X U t x18 x19 x20 Y H =
 Z0 (Z3 .lss x20 x19) λg=>
 Zl g
 (Zg5 X U t x18 x19 x20 g Y H)
 (HQ X U t Y H):=(Zw (C:=cfg) [3,5,7,11,12] (Zg 0 (dW Y)) _ _).trans df
theorem nG:HP X U t Y H =
 Z0 (Kb RK [X,U] H) λg=>
 Z0 (Zk (.slice 9) g.1) λh=>
 HR X U t g.1 h (Q J 0) Y g.2:=Z9 [3,5,7,11,12]
theorem nF:HO X U t Y H =
 Z0 (Ze Ue [U] H) λg=>
 Z0 (Xa .not g.1) λh=>
 Zl h
 (b ((.tuple [.nilp,(Q J 4)]),g.2))
 (HP X U t Y g.2):=Z9 [3,5,7,11,12]
theorem oF:Q1 [W,I,p2] H=Ay W I p2 H:=Be 39 [3,5,7,11,12] func14
def BJ:Z4:=bj 16 47 f16 31 Y [(0,X)] H
def WY:KL:=Za (Sx 16 47 f16 31) (Zf cfg 47 16 f16 Y)
theorem NA:ZH 47 (WY Y):=Zq (C:=cfg) (kp:=cfg.keep 16) (bk f16 31) (Zv 16 f16 Y)
def BM:Z4:=Y7 16 47 (bk f16 1931) (Z5 1 (Za (Jt 16 47 f16 120) (Z5 0 (WY Y)))) [(0,X),(3,s)] H
def BK:Z4:=Y7 16 47 (bk f16 241) (Za (Jt 16 47 f16 120) (Z5 0 (WY Y))) [(0,X)] H
def WZ:Z4:=C2 16 47 (bk f16 120) (Z5 0 (WY Y)) [(0,X)] H
def BI:Z4:=bj 16 47 f16 15 Y [(0,X)] H
def BH:Z4:=bj 16 47 f16 7 Y [(0,X)] H
def Du:Z4:=
 Z0 (YJ (.pointer 85) .eql W .nilp) λg=>
 Zl g
 (b ((Q J 5),H))
 (BH W H H)
theorem LK:BJ X Y H =
 Z0 (ZD X) λh=>
 Z0 (Z8 6 h) λj=>
 Z0 (Zc 1 j (.bool c) H) λg=>
 b ((Q J 0),g.2):=Z9 bn
theorem LN:BM X s Y H =
 Z0 (ZD X) λh=>
 Z0 (Z8 0 h) λj=>
 Z0 (forgetE.run [j,s] H) λg=>
 WZ X Y g.2:=Z9 bn
theorem LM:BK X Y H =
 Z0 (ZD X) λu=>
 Z0 (Z8 0 u) λw=>
 Z0 (Z8 2 w) λy=>
 Z0 (Z2 a 1 y H) λz=>
 Z0 (Zj 1 z (Q J 0)) λA=>
 Z0 (Z2 a 1 A H) λj=>
 Z0 (ZD X) λB=>
 Z0 (Z8 0 B) λC=>
 Z0 (Z8 0 C) λD=>
 Z0 (Z2 a 1 D H) λE=>
 Z0 (VN [E,j] H) λg=>
 Z0 (Z3 .neq g.1 (Q J 0)) λh=>
 Z0 (Z7 h c bh (b g.1)) λF=>
 Z0 (Z7 h c bh (Z3 .neq F (Q J 5))) λL=>
 Z0 (Zm h L (.bool a)) λt37=>
 Zl t37
 (b (g.1,g.2))
 (BM X j Y g.2):=Z9 bn
theorem Kd:WZ X Y H =
 Z0 (ZD X) λg=>
 Z0 (Z8 0 g) λh=>
 Z0 (Z8 2 h) λj=>
 Z0 (Z2 a 1 j H) λu=>
 Z0 (Zk (.slice 9) u) λw=>
 Z0 (Z3 .gtr w (Q J 0)) λy=>
 Zl y
 (BK X Y H)
 (BJ X Y H):=(Zw (C:=cfg) [3,5,6,10,11] (Zg 0 (NA Y)) _ _).trans df
theorem LJ:BI X Y H =
 WZ X Y H:=Z9 bn
theorem LI:BH X Y H =
 Z0 (ZD X) λh=>
 Z0 (Z8 6 h) λt9=>
 Z0 (Z2 a 1 t9 H) λg=>
 Zl g
 (b ((Q J 8),H))
 (BI X Y H):=Z9 bn
theorem EC:Vd [W] H=Du W H:=Be 47 [3,5,6,10,11] func16
def Di:Z4:=bj 27 54 f27 7 Y [(0,X)] H
def QU:KL:=Za (Sx 27 54 f27 7) (Zf cfg 54 27 f27 Y)
theorem aA:ZH 54 (QU Y):=Zq (C:=cfg) (kp:=cfg.keep 27) (bk f27 7) (Zv 27 f27 Y)
def Dk:Z4:=Y7 27 54 (bk f27 423) (Za (Jt 27 54 f27 52) (Z5 0 (QU Y))) [(0,X),(7,O),(8,x)] H
def Dj:Z4:=Y7 27 54 (bk f27 211) (Za (Jt 27 54 f27 52) (Z5 0 (QU Y))) [(0,X),(7,O),(8,x),(9,x9)] H
def QV:Z4:=C2 27 54 (bk f27 52) (Z5 0 (QU Y)) [(0,X),(7,O),(8,x)] H
def C0:Z4:=
 Z0 (Zk .string W) λg=>
 QV W g (Q J 0) H H
theorem iU:Di X Y H =
 Z0 (YK .neq X (.str [])) λg=>
 Z0 (Z7 g c bh (b X)) λh=>
 Z0 (Z7 g c bh (Zk .string h)) λj=>
 Z0 (Z7 g c bh (Z3 .leq j (Q J 16))) λu=>
 Z0 (Zm g u (.bool a)) λw=>
 b (w,H):=Z9 [3,8,9]
theorem Pb:Dk X O x Y H =
 Z0 (Z3 .add x (Q J 1)) λg=>
 QV X O g Y H:=Z9 [3,8,9]
theorem iV:Dj X O x x9 Y H =
 Z0 (Zz X x) λg=>
 Z0 (Z3 .eql g (.int .u8 95)) λj=>
 Z0 (Z7 j a bh (b g)) λA=>
 Z0 (Z7 j a bh (Z3 .geq A (.int .u8 97))) λB=>
 Z0 (Z7 j a bh (b B)) λw=>
 Z0 (Z7 w c bh (b g)) λC=>
 Z0 (Z7 w c bh (Z3 .leq C (.int .u8 122))) λD=>
 Z0 (Z7 j a bh (Zm w D (.bool a))) λE=>
 Z0 (Zm j (.bool c) E) λu=>
 Z0 (Z7 u a bh (b g)) λF=>
 Z0 (Z7 u a bh (Z3 .geq F (.int .u8 65))) λL=>
 Z0 (Z7 u a bh (b L)) λy=>
 Z0 (Z7 y c bh (b g)) λM=>
 Z0 (Z7 y c bh (Z3 .leq M (.int .u8 90))) λN=>
 Z0 (Z7 u a bh (Zm y N (.bool a))) λR=>
 Z0 (Zm u (.bool c) R) λS=>
 Z0 (Xa .not S) λh=>
 Z0 (Z7 h c bh (b x)) λT=>
 Z0 (Z7 h c bh (Z3 .eql T (Q J 0))) λZ=>
 Z0 (Z7 h c bh (b Z)) λt37=>
 Z0 (Z7 t37 a bh (b g)) λaa=>
 Z0 (Z7 t37 a bh (Z3 .lss aa (.int .u8 48))) λab=>
 Z0 (Z7 h c bh (Zm t37 (.bool c) ab)) λac=>
 Z0 (Z7 h c bh (b ac)) λz=>
 Z0 (Z7 z a bh (b g)) λad=>
 Z0 (Z7 z a bh (Z3 .gtr ad (.int .u8 57))) λae=>
 Z0 (Z7 h c bh (Zm z (.bool c) ae)) λaf=>
 Z0 (Zm h af (.bool a)) λag=>
 Zl ag
 (b ((.bool a),H))
 (Dk X O x Y H):=Z9 [3,8,9]
theorem U0:QV X O x Y H =
 Z0 (Z3 .lss x O) λt9=>
 Zl t9
 (Dj X O x t9 Y H)
 (Di X Y H):=(Zw (C:=cfg) [3,8,9] (Zg 0 (aA Y)) _ _).trans df
theorem lO:Ue [W] H=C0 W H:=Be 54 [3,8,9] func27
def HM:Z4:=bj 28 56 f28 63 Y [(5,x5)] H
def R8:KL:=Za (Sx 28 56 f28 63) (Zf cfg 56 28 f28 Y)
theorem dV:ZH 56 (R8 Y):=Zq (C:=cfg) (kp:=cfg.keep 28) (bk f28 63) (Zv 28 f28 Y)
def Zg4:Z4:=Y7 28 56 (bk f28 2003) (Za (Jt 28 56 f28 500) (Z5 0 (R8 Y))) [(5,x5),(6,r),(21,x21),(22,x22),(23,x23),(24,x24)] H
def HN:Z4:=C2 28 56 (bk f28 500) (Z5 0 (R8 Y)) [(5,x5),(6,r),(21,x21),(22,x22),(23,x23)] H
def HL:Z4:=bj 28 56 f28 15 Y [(0,X),(1,U),(5,x5)] H
def Ax:Z4:=
 Z0 (YJ (.pointer 67) .eql W .nilp) λg=>
 Z0 (Z7 g a bh (b I)) λj=>
 Z0 (Z7 g a (bh,H) (Ze Ue [j] H)) λh=>
 Z0 (Z7 g a bh (Xa .not h.1)) λu=>
 Z0 (Zm g (.bool c) u) λw=>
 Zl w
 (b (.nils,h.2))
 (HL W I .nils H h.2)
theorem nC:HM x5 Y H =
 b (x5,H):=Z9 [4,7,11,12]
theorem nE:HN x5 r x21 x22 x23 Y H =
 Z0 (Z3 .lss x23 x22) λg=>
 Zl g
 (Zg4 x5 r x21 x22 x23 g Y H)
 (HM x5 Y H):=(Zw (C:=cfg) [4,7,11,12] (Zg 0 (dV Y)) _ _).trans df
theorem nB:HL X U x5 Y H =
 Z0 (Ze QG [U] H) λh=>
 Z0 (Kb Vo [X] h.2) λg=>
 Z0 (Zk (.slice 108) g.1) λj=>
 HN x5 h.1 g.1 j (Q J 0) Y g.2:=Z9 [4,7,11,12]
theorem oE:RK [W,I] H=Ax W I H:=Be 56 [4,7,11,12] func28
def Ji:Z4:=bj 29 19 f29 15 Y [(6,r)] H
def RQ:Z4:=
 Z0 (Wh [W,I] H) λg=>
 Z0 (ZQ g.1 0) λw=>
 Z0 (ZQ g.1 1) λh=>
 Z0 (Z3 .eql h (Q J 0)) λu=>
 Zl u
 (Z0 (G5 [W,I] g.2) λj=>
 Ji h H j.2)
 (Ji h H g.2)
theorem Up:Ji r Y H =
 b (r,H):=Z9 [4]
theorem HX:VN [W,I] H=RQ W I H:=Be 19 [4] func29
def E1:Z4:=
 Z0 (YK .add (.str [46,116,109,112,46]) W) λt4=>
 Z0 (YK .add t4 (.str [46])) λt5=>
 b (t5,H)
theorem eJ:QG [W] H=E1 W H:=Be 6 [] func47
def PG:Z4:=bj 48 38 f48 31 Y [(3,s)] H
def UF:KL:=Za (Sx 48 38 f48 31) (Zf cfg 38 48 f48 Y)
theorem HK:ZH 38 (UF Y):=Zq (C:=cfg) (kp:=cfg.keep 48) (bk f48 31) (Zv 48 f48 Y)
def PI:Z4:=Y7 48 38 (bk f48 1959) (Za (Jt 48 38 f48 244) (Z5 0 (UF Y))) [(0,X),(3,s),(10,V),(11,P),(12,v)] H
def PH:Z4:=Y7 48 38 (bk f48 979) (Za (Jt 48 38 f48 244) (Z5 0 (UF Y))) [(0,X),(3,s),(10,V),(11,P),(12,v),(13,x13)] H
def UG:Z4:=C2 48 38 (bk f48 244) (Z5 0 (UF Y)) [(0,X),(3,s),(10,V),(11,P),(12,v)] H
def PF:Z4:=bj 48 38 f48 7 Y [(0,X)] H
def Mv:Z4:=
 Z0 (YJ (.pointer 67) .eql W .nilp) λg=>
 Zl g
 (b (.nils,H))
 (PF W H H)
theorem OT:PG s Y H =
 b (s,H):=Z9 [3,6,9,10]
theorem OV:PI X s V P v Y H =
 Z0 (Z3 .add v (Q J 1)) λg=>
 UG X s V P g Y H:=Z9 [3,6,9,10]
theorem OU:PH X s V P v x13 Y H =
 Z0 (Zj 1 V v) λu=>
 Z0 (Z2 a 1 u H) λh=>
 Z0 (ZD X) λw=>
 Z0 (Z8 3 w) λy=>
 Z0 (Z2 a 1 y H) λz=>
 Z0 (Yo .string .nilp a z h H) λj=>
 Z0 (ZD j) λA=>
 Z0 (Z8 0 A) λB=>
 Z0 (Z2 a 1 B H) λC=>
 Z0 (Zk (.slice 5) C) λD=>
 Z0 (ZD j) λE=>
 Z0 (Z8 1 E) λF=>
 Z0 (Z2 a 1 F H) λL=>
 Z0 ((Yq [(0,1,h),(1,1,D),(2,1,L)] [(.str []),(Q J 0),(Q J 0)]).map .agg) λM=>
 Z0 ((Zt 3 [(0,M)] [(.agg [(.str []),(Q J 0),(Q J 0)])]).map (.vs 3 .clip)) λN=>
 Z0 (ZR 3 32 s N H) λg=>
 PI X g.1 V P v Y g.2:=Z9 [3,6,9,10]
theorem F3:UG X s V P v Y H =
 Z0 (Z3 .lss v P) λg=>
 Zl g
 (PH X s V P v g Y H)
 (PG s Y H):=(Zw (C:=cfg) [3,6,9,10] (Zg 0 (HK Y)) _ _).trans df
theorem OS:PF X Y H =
 Z0 (namesE.run [X] H) λg=>
 Z0 (Zk (.slice 9) g.1) λh=>
 UG X .nils g.1 h (Q J 0) Y g.2:=Z9 [3,6,9,10]
theorem aS:Vo [W] H=Mv W H:=Be 38 [3,6,9,10] func48
def PN:Z4:=bj 50 20 f50 63 Y [(6,r)] H
def PM:Z4:=bj 50 20 f50 15 Y [(0,X),(1,U)] H
def PL:Z4:=bj 50 20 f50 7 Y [(0,X),(1,U)] H
def Mz:Z4:=
 Z0 (YJ (.pointer 67) .eql W .nilp) λg=>
 Zl g
 (b ((.tuple [.nilp,(Q J 5)]),H))
 (PL W I H H)
theorem OY:PN r Y H =
 b ((.tuple [r,(Q J 0)]),H):=Z9 [3,5,8]
theorem F4:PM X U Y H =
 Z0 (ZD X) λh=>
 Z0 (Z8 3 h) λj=>
 Z0 (Z2 a 1 j H) λu=>
 Z0 (Yo .string .nilp a u U H) λg=>
 Z0 (YJ (.pointer 127) .eql g .nilp) λw=>
 Zl w
 (b ((.tuple [.nilp,(Q J 5)]),H))
 (PN g Y H):=Z9 [3,5,8]
theorem QE:PL X U Y H =
 Z0 (Uv [X] H) λg=>
 Zl g.1
 (b ((.tuple [.nilp,(Q J 19)]),g.2))
 (PM X U Y g.2):=Z9 [3,5,8]
theorem aW:Wh [W,I] H=Mz W I H:=Be 20 [3,5,8] func50
def My:Z4:=
 Z0 (ZD W) λS=>
 Z0 (Z8 3 S) λT=>
 Z0 (Z2 a 1 T H) λZ=>
 Z0 (Yo .string .nilp a Z I H) λj=>
 Z0 (YJ (.pointer 127) .neq j .nilp) λu=>
 Zl u
 (Z0 (ZD W) λw=>
 Z0 (Z8 1 w) λy=>
 Z0 (Z2 a 1 y H) λz=>
 Z0 (ZD j) λA=>
 Z0 (Z8 0 A) λB=>
 Z0 (Z2 a 1 B H) λC=>
 Z0 (Zk (.slice 5) C) λD=>
 Z0 (Z3 .sub z D) λE=>
 Z0 (ZD W) λF=>
 Z0 (Z8 1 F) λL=>
 Z0 (Zc 1 L E H) λg=>
 Z0 (ZD W) λM=>
 Z0 (Z8 3 M) λN=>
 Z0 (Z2 a 1 N g.2) λR=>
 Z0 (J7 .string R I g.2) λh=>
 b (bh,h.2))
 (b (bh,H))
theorem aV:G5 [W,I] H=My W I H:=Be 30 [] func51
def RB:Z4:=bj 55 63 f55 63 Y [(0,X),(4,q)] H
def RA:Z4:=bj 55 63 f55 15 Y [(0,X)] H
def Rz:Z4:=bj 55 63 f55 7 Y [(0,X)] H
def RR:Z4:=
 Z0 (YJ (.pointer 85) .eql W .nilp) λg=>
 Zl g
 (b ((.tuple [(.str []),(Q J 5)]),H))
 (Rz W H H)
theorem HS:RB X q Y H =
 Z0 (ZD X) λu=>
 Z0 (Z8 5 u) λw=>
 Z0 (Z2 a 1 w H) λy=>
 Z0 (Z3 .add y (Q J 1)) λz=>
 Z0 (ZD X) λA=>
 Z0 (Z8 5 A) λB=>
 Z0 (Zc 1 B z H) λg=>
 Z0 (ZD X) λC=>
 Z0 (Z8 0 C) λD=>
 Z0 (Z8 2 D) λE=>
 Z0 (Z2 a 1 E g.2) λF=>
 Z0 ((Zt 1 [(0,q)] [(.str [])]).map (.vs 1 .clip)) λL=>
 Z0 (ZR 1 16 F L g.2) λh=>
 Z0 (ZD X) λM=>
 Z0 (Z8 0 M) λN=>
 Z0 (Z8 2 N) λR=>
 Z0 (Zc 1 R h.1 h.2) λj=>
 b ((.tuple [q,(Q J 0)]),j.2):=Z9 [3,5,9]
theorem Gu:RA X Y H =
 Z0 (ZD X) λw=>
 Z0 (Z8 0 w) λy=>
 Z0 (Z8 1 y) λz=>
 Z0 (Z2 a 1 z H) λA=>
 Z0 (Ze QG [A] H) λh=>
 Z0 (ZD X) λB=>
 Z0 (Z8 5 B) λC=>
 Z0 (Z2 a 1 C h.2) λD=>
 Z0 (Z3 .add D (Q J 1)) λE=>
 Z0 (Ze SG [E] h.2) λj=>
 Z0 (YK .add h.1 j.1) λu=>
 Z0 (ZD X) λF=>
 Z0 (Z8 0 F) λL=>
 Z0 (Z8 0 L) λM=>
 Z0 (Z2 a 1 M j.2) λt37=>
 Z0 (Js [t37,u] j.2) λg=>
 Z0 (Z3 .neq g.1 (Q J 0)) λN=>
 Zl N
 (b ((.tuple [(.str []),g.1]),g.2))
 (RB X u Y g.2):=Z9 [3,5,9]
theorem Uq:Rz X Y H =
 Z0 (ZD X) λt9=>
 Z0 (Z8 6 t9) λh=>
 Z0 (Z2 a 1 h H) λg=>
 Z0 (Z7 g a bh (b X)) λj=>
 Z0 (Z7 g a bh (ZD j)) λu=>
 Z0 (Z7 g a bh (Z8 0 u)) λw=>
 Z0 (Z7 g a bh (Z8 0 w)) λy=>
 Z0 (Z7 g a bh (Z2 a 1 y H)) λz=>
 Z0 (Z7 g a bh (YJ (.pointer 67) .eql z .nilp)) λA=>
 Z0 (Zm g (.bool c) A) λB=>
 Zl B
 (b ((.tuple [(.str []),(Q J 8)]),H))
 (RA X Y H):=Z9 [3,5,9]
theorem HY:VO [W] H=RR W H:=Be 63 [3,5,9] func55
def BQ:Z4:=bj 56 51 f56 127 Y [(0,X),(1,U),(8,x)] H
def BP:Z4:=bj 56 51 f56 63 Y [(0,X),(1,U),(8,x)] H
def BO:Z4:=bj 56 51 f56 15 Y [(0,X),(1,U),(2,t)] H
def BN:Z4:=bj 56 51 f56 7 Y [(0,X),(1,U),(2,t)] H
def Dv:Z4:=
 Z0 (Xo [W,I] H) λg=>
 Z0 (Z3 .neq g.1 (Q J 0)) λh=>
 Zl h
 (b (g.1,g.2))
 (BN W I p2 H g.2)
theorem LO:BQ X U x Y H =
 Z0 (ZD X) λh=>
 Z0 (Z8 0 h) λj=>
 Z0 (Z8 0 j) λu=>
 Z0 (Z2 a 1 u H) λw=>
 Z0 (Jr [w,U,x] H) λg=>
 b (g.1,g.2):=Z9 [4,6,9,11]
theorem Kf:BP X U x Y H =
 Z0 (Zk .string x) λh=>
 Z0 (ZD X) λj=>
 Z0 (Z8 4 j) λu=>
 Z0 (Z2 a 1 u H) λw=>
 Z0 (ZD X) λy=>
 Z0 (Z8 0 y) λz=>
 Z0 (Kb XT [z] H) λg=>
 Z0 (Z3 .sub w g.1) λA=>
 Z0 (Z3 .gtr h A) λB=>
 Zl B
 (b ((Q J 11),g.2))
 (BQ X U x Y g.2):=Z9 [4,6,9,11]
theorem VH:BO X U t Y H =
 Z0 (Ze PQ [t] H) λg=>
 Z0 (ZQ g.1 0) λj=>
 Z0 (ZQ g.1 1) λh=>
 Z0 (Z3 .neq h (Q J 0)) λu=>
 Zl u
 (b (h,g.2))
 (BP X U j Y g.2):=Z9 [4,6,9,11]
theorem W7:BN X U t Y H =
 Z0 (ZD X) λg=>
 Z0 (Z8 0 g) λh=>
 Z0 (Z8 3 h) λj=>
 Z0 (Z2 a 1 j H) λu=>
 Z0 (Yo .string (.bool a) a u U H) λw=>
 Zl w
 (b ((Q J 8),H))
 (BO X U t Y H):=Z9 [4,6,9,11]
theorem ED:Ve [W,I,p2] H=Dv W I p2 H:=Be 51 [4,6,9,11] func56
def Fb:Z4:=bj 58 29 f58 15 Y [(0,X),(1,U)] H
def Fa:Z4:=bj 58 29 f58 7 Y [(0,X),(1,U)] H
def Rh:Z4:=
 Z0 (Xo [W,I] H) λg=>
 Z0 (Z3 .neq g.1 (Q J 0)) λh=>
 Zl h
 (b (g.1,g.2))
 (Fa W I H g.2)
theorem Sn:Fb X U Y H =
 Z0 (ZD X) λh=>
 Z0 (Z8 0 h) λj=>
 Z0 (Z8 3 j) λu=>
 Z0 (Z2 a 1 u H) λw=>
 Z0 (XC .string w U (.bool c) H) λg=>
 b ((Q J 0),g.2):=Z9 [4,7]
theorem KW:Fa X U Y H =
 Z0 (ZD X) λh=>
 Z0 (Z8 0 h) λj=>
 Z0 (Z8 0 j) λu=>
 Z0 (Z2 a 1 u H) λw=>
 Z0 (G4 [w,U] H) λg=>
 Z0 (Z3 .neq g.1 (Q J 0)) λy=>
 Zl y
 (b (g.1,g.2))
 (Fb X U Y g.2):=Z9 [4,7]
theorem SX:Vz [W,I] H=Rh W I H:=Be 29 [4,7] func58
def Fc:Z4:=bj 59 23 f59 7 Y [(0,X)] H
def Ri:Z4:=
 Z0 (YJ (.pointer 85) .eql W .nilp) λt4=>
 Z0 (Z7 t4 a bh (b W)) λB=>
 Z0 (Z7 t4 a bh (ZD B)) λC=>
 Z0 (Z7 t4 a bh (Z8 6 C)) λD=>
 Z0 (Z7 t4 a bh (Z2 a 1 D H)) λt9=>
 Z0 (Zm t4 (.bool c) t9) λg=>
 Z0 (Z7 g a bh (b W)) λh=>
 Z0 (Z7 g a bh (ZD h)) λj=>
 Z0 (Z7 g a bh (Z8 0 j)) λu=>
 Z0 (Z7 g a bh (Z8 0 u)) λw=>
 Z0 (Z7 g a bh (Z2 a 1 w H)) λy=>
 Z0 (Z7 g a bh (YJ (.pointer 67) .eql y .nilp)) λz=>
 Z0 (Zm g (.bool c) z) λA=>
 Zl A
 (b ((Q J 0),H))
 (Fc W H H)
theorem So:Fc X Y H =
 Z0 (ZD X) λh=>
 Z0 (Z8 0 h) λj=>
 Z0 (Kb XT [j] H) λg=>
 b (g.1,g.2):=Z9 [3]
theorem SY:QZ [W] H=Ri W H:=Be 23 [3] func59
def Gw:Z4:=bj 61 28 f61 15 Y [(0,X),(1,U)] H
def Gv:Z4:=bj 61 28 f61 7 Y [(0,X),(1,U)] H
def Bc:Z4:=
 Z0 (Xo [W,I] H) λg=>
 Z0 (Z3 .neq g.1 (Q J 0)) λh=>
 Zl h
 (b (g.1,g.2))
 (Gv W I H g.2)
theorem MV:Gw X U Y H =
 Z0 (ZD X) λh=>
 Z0 (Z8 0 h) λj=>
 Z0 (forgetE.run [j,U] H) λg=>
 b ((Q J 0),g.2):=Z9 [4,7]
theorem MU:Gv X U Y H =
 Z0 (ZD X) λh=>
 Z0 (Z8 0 h) λj=>
 Z0 (Z8 0 j) λu=>
 Z0 (Z2 a 1 u H) λw=>
 Z0 (VN [w,U] H) λg=>
 Z0 (Z3 .neq g.1 (Q J 0)) λy=>
 Zl y
 (b (g.1,g.2))
 (Gw X U Y g.2):=Z9 [4,7]
theorem L0:UL [W,I] H=Bc W I H:=Be 28 [4,7] func61
def WK:Z4:=bj 69 37 f69 7 Y [(0,X)] H
def Ph:Z4:=
 Z0 (ZD W) λt5=>
 Z0 (Z8 4 t5) λt6=>
 Z0 (Z2 a 1 t6 H) λt7=>
 Zl t7
 (WK W H H)
 (Z0 (ZD W) λu=>
 Z0 (Z8 5 u) λw=>
 Z0 (Z2 a 1 w H) λy=>
 Z0 (Z3 .eql y (Q J 1)) λz=>
 Zl z
 (Z0 (ZD W) λA=>
 Z0 (Z8 4 A) λB=>
 Z0 (Zc 1 B (.bool c) H) λg=>
 Z0 (ZD W) λC=>
 Z0 (Z8 5 C) λD=>
 Z0 (Zc 1 D (Q J 0) g.2) λh=>
 WK W H h.2)
 (Z0 (ZD W) λE=>
 Z0 (Z8 5 E) λF=>
 Z0 (Z2 a 1 F H) λL=>
 Z0 (Z3 .gtr L (Q J 1)) λM=>
 Zl M
 (Z0 (ZD W) λN=>
 Z0 (Z8 5 N) λR=>
 Z0 (Z2 a 1 R H) λS=>
 Z0 (Z3 .sub S (Q J 1)) λT=>
 Z0 (ZD W) λZ=>
 Z0 (Z8 5 Z) λaa=>
 Z0 (Zc 1 aa T H) λj=>
 WK W H j.2)
 (WK W H H)))
theorem WX:WK X Y H =
 Z0 (ZD X) λg=>
 Z0 (Z8 4 g) λh=>
 Z0 (Z2 a 1 h H) λj=>
 b (j,H):=Z9 [6]
theorem O8:Uv [W] H=Ph W H:=Be 37 [6] func69
def nW:Z4:=
 Z0 (iS Zc2 [W] H) λg=>
 b (g.1,g.2)
theorem Zgt:SG [W] H=nW W H:=Be 5 [] func71
def Jh:Z4:=bj 72 46 f72 15 Y [(0,X),(1,U)] H
def Ry:Z4:=bj 72 46 f72 7 Y [(0,X),(1,U)] H
def RP:Z4:=
 Z0 (YJ (.pointer 67) .eql W .nilp) λL=>
 Zl L
 (b ((Q J 5),H))
 (Z0 (Uv [W] H) λh=>
 Zl h.1
 (b ((Q J 19),h.2))
 (Z0 (Ze FP [I] h.2) λg=>
 Z0 (Xa .not g.1) λj=>
 Zl j
 (b ((Q J 4),g.2))
 (Z0 (ZD W) λu=>
 Z0 (Z8 3 u) λw=>
 Z0 (Z2 a 1 w g.2) λy=>
 Z0 (Yo .string .nilp a y I g.2) λz=>
 Z0 (YJ (.pointer 127) .neq z .nilp) λA=>
 Zl A
 (b ((Q J 6),g.2))
 (Z0 (ZD W) λB=>
 Z0 (Z8 3 B) λC=>
 Z0 (Z2 a 1 C g.2) λD=>
 Z0 (Jw D g.2) λE=>
 Z0 (Z3 .geq E (Q J 64)) λF=>
 Zl F
 (b ((Q J 3),g.2))
 (Ry W I H g.2)))))
theorem HJ:Jh X U Y H =
 Z0 (ZD X) λj=>
 Z0 (Z8 3 j) λu=>
 Z0 (Z2 a 1 u H) λw=>
 Z0 (b (.agg [.nils,(Q J 0)])) λy=>
 Z0 (ZF y H) λg=>
 Z0 (XC .string w U g.1 g.2) λh=>
 b ((Q J 0),h.2):=Z9 [11,13]
theorem HI:Ry X U Y H =
 Z0 (ZD X) λj=>
 Z0 (Z8 3 j) λu=>
 Z0 (Z2 a 1 u H) λw=>
 Z0 (YJ (.map 9 109) .eql w .nilm) λy=>
 Zl y
 (Z0 (b ((.map H.length),H++[.map [] 0])) λg=>
 Z0 (ZD X) λt37=>
 Z0 (Z8 3 t37) λz=>
 Z0 (Zc 1 z g.1 g.2) λh=>
 Jh X U Y h.2)
 (Jh X U Y H):=Z9 [11,13]
theorem HW:Js [W,I] H=RP W I H:=Be 46 [11,13] func72
def Fd:Z4:=bj 73 22 f73 7 Y [] H
def Rj:Z4:=
 Z0 (YJ (.pointer 85) .eql W .nilp) λC=>
 Zl C
 (b ((Q J 5),H))
 (Z0 (ZD W) λh=>
 Z0 (Z8 6 h) λj=>
 Z0 (Z2 a 1 j H) λu=>
 Zl u
 (b ((Q J 8),H))
 (Z0 (ZD W) λw=>
 Z0 (Z8 0 w) λy=>
 Z0 (Z8 2 y) λz=>
 Z0 (Z2 a 1 z H) λA=>
 Z0 (Ze YW [A,I] H) λg=>
 Z0 (Xa .not g.1) λB=>
 Zl B
 (b ((Q J 5),g.2))
 (Fd H g.2)))
theorem Sp:Fd Y H =
 b ((Q J 0),H):=Z9 [7]
theorem SZ:Xo [W,I] H=Rj W I H:=Be 22 [7] func73
def Im:Z4:=bj 74 27 f74 15 Y [(4,q)] H
def Qc:KL:=Za (Sx 74 27 f74 15) (Zf cfg 27 74 f74 Y)
theorem fZ:ZH 27 (Qc Y):=Zq (C:=cfg) (kp:=cfg.keep 74) (bk f74 15) (Zv 74 f74 Y)
def Ip:Z4:=Y7 74 27 (bk f74 935) (Za (Jt 74 27 f74 116) (Z5 0 (Qc Y))) [(4,q),(9,x9),(10,V),(11,P)] H
def Zie:KL:=Za (Sx 74 27 f74 935) (Za (Jt 74 27 f74 116) (Z5 0 (Qc Y)))
def Iq:Z4:=Y7 74 27 (bk f74 14951) (Z5 1 (Zie Y)) [(4,q),(7,O),(9,x9),(10,V),(11,P)] H
def Io:Z4:=Y7 74 27 (bk f74 467) (Za (Jt 74 27 f74 116) (Z5 0 (Qc Y))) [(4,q),(9,x9),(10,V),(11,P),(12,v)] H
def KM:Z4:=C2 74 27 (bk f74 116) (Z5 0 (Qc Y)) [(4,q),(9,x9),(10,V),(11,P)] H
def aI:Z4:=
 Z0 (b ((.ptr H.length 0),H++[.bld 146 5 []])) λh=>
 Z0 (Zk (.slice 9) W) λg=>
 KM h.1 W g (Q J 0) H h.2
theorem Zb8:Im q Y H =
 Z0 (stringE.run [q] H) λg=>
 b ((.tuple [g.1,(Q J 0)]),g.2):=Z9 [4,8,9,10]
theorem Zb9:Ip q x9 V P Y H =
 Z0 (Z3 .add P (Q J 1)) λg=>
 KM q x9 V g Y H:=Z9 [4,8,9,10]
theorem Zba:Iq q O x9 V P Y H =
 Z0 (textE.run [q,O] H) λg=>
 Ip q x9 V P Y g.2:=Z9 [4,8,9,10]
theorem MF:Io q x9 V P v Y H =
 Z0 (Zj 1 x9 P) λj=>
 Z0 (Z2 a 1 j H) λu=>
 Z0 (Ze PR [u] H) λg=>
 Z0 (ZQ g.1 0) λw=>
 Z0 (ZQ g.1 1) λh=>
 Z0 (Z3 .neq h (Q J 0)) λy=>
 Zl y
 (b ((.tuple [(.str []),h]),g.2))
 (Iq q w x9 V P Y g.2):=Z9 [4,8,9,10]
theorem MG:KM q x9 V P Y H =
 Z0 (Z3 .lss P V) λg=>
 Zl g
 (Io q x9 V P g Y H)
 (Im q Y H):=(Zw (C:=cfg) [4,8,9,10] (Zg 0 (fZ Y)) _ _).trans df
theorem Zcd:PQ [W] H=aI W H:=Be 27 [4,8,9,10] func74
def BR:Z4:=bj 75 29 f75 15 Y [(3,s)] H
def V0:KL:=Za (Sx 75 29 f75 15) (Zf cfg 29 75 f75 Y)
theorem NB:ZH 29 (V0 Y):=Zq (C:=cfg) (kp:=cfg.keep 75) (bk f75 15) (Zv 75 f75 Y)
def UR:Z4:=Y7 75 29 (bk f75 935) (Za (Jt 75 29 f75 116) (Z5 0 (V0 Y))) [(0,X),(3,s),(10,V),(11,P),(12,v)] H
def BS:Z4:=Y7 75 29 (bk f75 467) (Za (Jt 75 29 f75 116) (Z5 0 (V0 Y))) [(0,X),(3,s),(10,V),(11,P),(12,v),(13,x13)] H
def V1:Z4:=C2 75 29 (bk f75 116) (Z5 0 (V0 Y)) [(0,X),(3,s),(10,V),(11,P),(12,v)] H
def Dw:Z4:=
 Z0 (ZD W) λj=>
 Z0 (Z8 0 j) λu=>
 Z0 (Z2 a 1 u H) λt9=>
 Z0 (Kb Vo [t9] H) λg=>
 Z0 (Zk (.slice 108) g.1) λh=>
 V1 W (Q J 0) g.1 h (Q J 0) H g.2
theorem LQ:BR s Y H =
 b (s,H):=Z9 [4,7,8]
theorem Kg:UR X s V P v Y H =
 Z0 (Z3 .add v (Q J 1)) λg=>
 V1 X s V P g Y H:=Z9 [4,7,8]
theorem LR:BS X s V P v x13 Y H =
 Z0 (Zj 3 V v) λu=>
 Z0 (Z2 c 3 u H) λw=>
 Z0 (b ((.ptr H.length 0),H++[.cells [(.str []),(Q J 0),(Q J 0)]])) λj=>
 Z0 (Zc 3 j.1 w j.2) λg=>
 Z0 (ZD X) λy=>
 Z0 (Z8 2 y) λz=>
 Z0 (Z2 a 1 z g.2) λA=>
 Z0 (Z8 0 j.1) λB=>
 Z0 (Z2 a 1 B g.2) λC=>
 Z0 (Ze YW [A,C] g.2) λh=>
 Zl h.1
 (Z0 (Z8 1 j.1) λD=>
 Z0 (Z2 a 1 D h.2) λE=>
 Z0 (Z3 .add s E) λF=>
 UR X F V P v Y h.2)
 (UR X s V P v Y h.2):=Z9 [4,7,8]
theorem Kh:V1 X s V P v Y H =
 Z0 (Z3 .lss v P) λg=>
 Zl g
 (BS X s V P v g Y H)
 (BR s Y H):=(Zw (C:=cfg) [4,7,8] (Zg 0 (NB Y)) _ _).trans df
theorem EF:XT [W] H=Dw W H:=Be 29 [4,7,8] func75
def Rx:Z4:=bj 76 60 f76 31 Y [(0,X),(2,t),(7,O)] H
def Rw:Z4:=bj 76 60 f76 15 Y [(0,X),(2,t),(7,O)] H
def RO:Z4:=
 Z0 (Wh [W,I] H) λg=>
 Z0 (ZQ g.1 0) λj=>
 Z0 (ZQ g.1 1) λh=>
 Z0 (Z3 .neq h (Q J 0)) λu=>
 Zl u
 (b (h,g.2))
 (Rw W p2 j H g.2)
theorem HH:Rx X t O Y H =
 Z0 (ZD O) λw=>
 Z0 (Z8 0 w) λy=>
 Z0 (Z2 a 1 y H) λz=>
 Z0 (ZR 1 1 z t H) λj=>
 Z0 (ZD O) λt37=>
 Z0 (Z8 0 t37) λA=>
 Z0 (Zc 1 A j.1 j.2) λh=>
 Z0 (ZD X) λB=>
 Z0 (Z8 1 B) λC=>
 Z0 (Z2 a 1 C h.2) λD=>
 Z0 (Zk .string t) λE=>
 Z0 (Z3 .add D E) λF=>
 Z0 (ZD X) λL=>
 Z0 (Z8 1 L) λM=>
 Z0 (Zc 1 M F h.2) λg=>
 Z0 (ZD X) λN=>
 Z0 (Z8 2 N) λR=>
 Z0 (Z2 a 1 R g.2) λS=>
 Z0 (ZD X) λT=>
 Z0 (Z8 1 T) λZ=>
 Z0 (Z2 a 1 Z g.2) λaa=>
 Z0 (Q2 S aa) λab=>
 Z0 (ZD X) λac=>
 Z0 (Z8 2 ac) λad=>
 Z0 (Zc 1 ad ab g.2) λu=>
 b ((Q J 0),u.2):=Z9 [4,6]
theorem Gt:Rw X t O Y H =
 Z0 (ZD X) λg=>
 Z0 (Z8 1 g) λh=>
 Z0 (Z2 a 1 h H) λj=>
 Z0 (Zk .string t) λu=>
 Z0 (Z3 .add j u) λw=>
 Z0 (ZD X) λy=>
 Z0 (Z8 0 y) λz=>
 Z0 (Z2 a 1 z H) λA=>
 Z0 (Z3 .gtr w A) λB=>
 Zl B
 (b ((Q J 12),H))
 (Rx X t O Y H):=Z9 [4,6]
theorem HV:Jr [W,I,p2] H=RO W I p2 H:=Be 60 [4,6] func76
def Ky:Z4:=bj 82 24 f82 15 Y [(6,r)] H
def Mx:Z4:=
 Z0 (Wh [W,I] H) λg=>
 Z0 (ZQ g.1 0) λu=>
 Z0 (ZQ g.1 1) λh=>
 Z0 (Z3 .eql h (Q J 0)) λw=>
 Zl w
 (Z0 (ZD u) λy=>
 Z0 (Z8 0 y) λz=>
 Z0 (Z2 a 1 z g.2) λA=>
 Z0 (Zk (.slice 5) A) λB=>
 Z0 (ZD u) λC=>
 Z0 (Z8 1 C) λD=>
 Z0 (Zc 1 D B g.2) λj=>
 Ky h H j.2)
 (Ky h H g.2)
theorem QC:Ky r Y H =
 b (r,H):=Z9 [4]
theorem aU:G4 [W,I] H=Mx W I H:=Be 24 [4] func82
def Df:Z4:=bj 97 58 f97 7 Y [(0,X)] H
def QS:KL:=Za (Sx 97 58 f97 7) (Zf cfg 58 97 f97 Y)
theorem OZ:ZH 58 (QS Y):=Zq (C:=cfg) (kp:=cfg.keep 97) (bk f97 7) (Zv 97 f97 Y)
def Dh:Z4:=Y7 97 58 (bk f97 423) (Za (Jt 97 58 f97 52) (Z5 0 (QS Y))) [(0,X),(7,O),(8,x)] H
def Dg:Z4:=Y7 97 58 (bk f97 211) (Za (Jt 97 58 f97 52) (Z5 0 (QS Y))) [(0,X),(7,O),(8,x),(9,x9)] H
def QT:Z4:=C2 97 58 (bk f97 52) (Z5 0 (QS Y)) [(0,X),(7,O),(8,x)] H
def SW:Z4:=
 Z0 (Zk .string W) λg=>
 QT W g (Q J 0) H H
theorem iQ:Df X Y H =
 Z0 (YK .neq X (.str [])) λg=>
 Z0 (Z7 g c bh (b X)) λh=>
 Z0 (Z7 g c bh (Zk .string h)) λj=>
 Z0 (Z7 g c bh (Z3 .leq j (Q J 32))) λu=>
 Z0 (Zm g u (.bool a)) λw=>
 b (w,H):=Z9 [3,8,9]
theorem P9:Dh X O x Y H =
 Z0 (Z3 .add x (Q J 1)) λg=>
 QT X O g Y H:=Z9 [3,8,9]
theorem iR:Dg X O x x9 Y H =
 Z0 (Zz X x) λg=>
 Z0 (Z3 .geq g (.int .u8 97)) λj=>
 Z0 (Z7 j c bh (b g)) λB=>
 Z0 (Z7 j c bh (Z3 .leq B (.int .u8 122))) λC=>
 Z0 (Zm j C (.bool a)) λh=>
 Z0 (Z7 h a bh (b g)) λD=>
 Z0 (Z7 h a bh (Z3 .geq D (.int .u8 65))) λE=>
 Z0 (Z7 h a bh (b E)) λu=>
 Z0 (Z7 u c bh (b g)) λF=>
 Z0 (Z7 u c bh (Z3 .leq F (.int .u8 90))) λL=>
 Z0 (Z7 h a bh (Zm u L (.bool a))) λM=>
 Z0 (Zm h (.bool c) M) λw=>
 Z0 (Z7 w a bh (b g)) λN=>
 Z0 (Z7 w a bh (Z3 .eql N (.int .u8 95))) λR=>
 Z0 (Zm w (.bool c) R) λy=>
 Z0 (Z7 y a bh (b g)) λS=>
 Z0 (Z7 y a bh (Z3 .eql S (.int .u8 46))) λT=>
 Z0 (Zm y (.bool c) T) λZ=>
 Z0 (Xa .not Z) λt37=>
 Z0 (Z7 t37 c bh (b x)) λaa=>
 Z0 (Z7 t37 c bh (Z3 .eql aa (Q J 0))) λab=>
 Z0 (Z7 t37 c bh (b ab)) λz=>
 Z0 (Z7 z a bh (b g)) λac=>
 Z0 (Z7 z a bh (Z3 .lss ac (.int .u8 48))) λad=>
 Z0 (Z7 t37 c bh (Zm z (.bool c) ad)) λae=>
 Z0 (Z7 t37 c bh (b ae)) λA=>
 Z0 (Z7 A a bh (b g)) λaf=>
 Z0 (Z7 A a bh (Z3 .gtr af (.int .u8 57))) λag=>
 Z0 (Z7 t37 c bh (Zm A (.bool c) ag)) λah=>
 Z0 (Zm t37 ah (.bool a)) λai=>
 Zl ai
 (b ((.bool a),H))
 (Dh X O x Y H):=Z9 [3,8,9]
theorem VZ:QT X O x Y H =
 Z0 (Z3 .lss x O) λt9=>
 Zl t9
 (Dg X O x t9 Y H)
 (Df X Y H):=(Zw (C:=cfg) [3,8,9] (Zg 0 (OZ Y)) _ _).trans df
theorem lN:FP [W] H=SW W H:=Be 58 [3,8,9] func97
def VI:Z4:=
 Z0 (Ze Ws [W,I] H) λg=>
 Z0 (Z3 .geq g.1 (Q J 0)) λh=>
 b (h,g.2)
theorem KX:YW [W,I] H=VI W I H:=Be 9 [] func98
def Ir:Z4:=bj 99 23 f99 7 Y [(0,X)] H
def aJ:Z4:=
 Z0 (Zk .string W) λg=>
 Z0 (Z3 .gtr g (Q J 4096)) λh=>
 Zl h
 (b ((.tuple [(.str []),(Q J 3)]),H))
 (Ir W H H)
theorem Zbb:Ir X Y H =
 Z0 (Zk .string X) λt9=>
 Z0 (Z3 .shr t9 (.int .u64 8)) λj=>
 Z0 (Yn .u8 j) λu=>
 Z0 (Zk .string X) λw=>
 Z0 (Yn .u8 w) λy=>
 Z0 ((Zt 1 [(0,u),(1,y)] [(.int .u8 0),(.int .u8 0)]).map (.vs 1 .clip)) λz=>
 Z0 (Uh z H) λA=>
 Z0 (YK .add A X) λh=>
 Z0 (Ze NH [h] H) λg=>
 Z0 (YK .add h g.1) λB=>
 b ((.tuple [B,(Q J 0)]),g.2):=Z9 [3]
theorem Zce:PR [W] H=aJ W H:=Be 23 [3] func99
def F9:Z4:=bj 103 49 f103 255 Y [(2,t),(12,v),(13,x13)] H
def F8:Z4:=bj 103 49 f103 63 Y [(2,t),(10,V)] H
def F7:Z4:=bj 103 49 f103 31 Y [(2,t),(10,V)] H
def F6:Z4:=bj 103 49 f103 7 Y [(0,X),(1,U),(2,t)] H
def J1:Z4:=
 Z0 (Xo [W,I] H) λg=>
 Z0 (Z3 .neq g.1 (Q J 0)) λh=>
 Zl h
 (b ((.tuple [(.str []),(Q J 0),g.1]),g.2))
 (F6 W I p2 H g.2)
theorem Sm:F9 t v x13 Y H =
 Z0 (Z3 .add t x13) λg=>
 b ((.tuple [v,g,(Q J 0)]),H):=Z9 [4,7,9,12]
theorem Sk:F8 t V Y H =
 Z0 (Ze SC [V,(Q J 0)] H) λg=>
 Z0 (ZQ g.1 0) λj=>
 Z0 (ZQ g.1 1) λu=>
 Z0 (ZQ g.1 2) λh=>
 Z0 (Z3 .neq h (Q J 0)) λw=>
 Zl w
 (b ((.tuple [(.str []),(Q J 0),h]),g.2))
 (F9 t j u Y g.2):=Z9 [4,7,9,12]
theorem KV:F7 t V Y H =
 Z0 (YK .eql V (.str [])) λg=>
 Zl g
 (b ((.tuple [(.str []),(Q J 0),(Q J 5)]),H))
 (F8 t V Y H):=Z9 [4,7,9,12]
theorem KU:F6 X U t Y H =
 Z0 (ZD X) λj=>
 Z0 (Z8 0 j) λu=>
 Z0 (Z8 0 u) λw=>
 Z0 (Z2 a 1 w H) λy=>
 Z0 (G3 [y,U,t,(Q J 4102)] H) λg=>
 Z0 (ZQ g.1 0) λz=>
 Z0 (ZQ g.1 1) λh=>
 Z0 (Z3 .neq h (Q J 0)) λA=>
 Zl A
 (b ((.tuple [(.str []),(Q J 0),h]),g.2))
 (F7 t z Y g.2):=Z9 [4,7,9,12]
theorem G8:Vy [W,I,p2] H=J1 W I p2 H:=Be 49 [4,7,9,12] func103
def Ul:Z4:=bj 125 19 f125 7 Y [] H
def X7:KL:=Za (Sx 125 19 f125 7) (Zf cfg 19 125 f125 Y)
theorem KY:ZH 19 (X7 Y):=Zq (C:=cfg) (kp:=cfg.keep 125) (bk f125 7) (Zv 125 f125 Y)
def Un:Z4:=Y7 125 19 (bk f125 423) (Za (Jt 125 19 f125 52) (Z5 0 (X7 Y))) [(0,X),(1,U),(7,O),(8,x)] H
def Um:Z4:=Y7 125 19 (bk f125 211) (Za (Jt 125 19 f125 52) (Z5 0 (X7 Y))) [(0,X),(1,U),(7,O),(8,x),(9,x9)] H
def X8:Z4:=C2 125 19 (bk f125 52) (Z5 0 (X7 Y)) [(0,X),(1,U),(7,O),(8,x)] H
def UJ:Z4:=
 Z0 (Zk (.slice 9) W) λg=>
 X8 W I g (Q J 0) H H
theorem B4:Ul Y H =
 b ((Q J (-1)),H):=Z9 [3,6,7]
theorem B6:Un X U O x Y H =
 Z0 (Z3 .add x (Q J 1)) λg=>
 X8 X U O g Y H:=Z9 [3,6,7]
theorem B5:Um X U O x x9 Y H =
 Z0 (Zj 1 X x) λg=>
 Z0 (Z2 a 1 g H) λh=>
 Z0 (YK .eql U h) λj=>
 Zl j
 (b (x,H))
 (Un X U O x Y H):=Z9 [3,6,7]
theorem VD:X8 X U O x Y H =
 Z0 (Z3 .lss x O) λt9=>
 Zl t9
 (Um X U O x t9 Y H)
 (Ul Y H):=(Zw (C:=cfg) [3,6,7] (Zg 0 (KY Y)) _ _).trans df
theorem BY:Ws [W,I] H=UJ W I H:=Be 19 [3,6,7] func125
def Zdp:Z4:=
 Z0 (Ze O2 [W] H) λg=>
 Z0 (Yn .u8 g.1) λB=>
 Z0 (Z3 .shr g.1 (.int .u64 8)) λt9=>
 Z0 (Yn .u8 t9) λh=>
 Z0 (Z3 .shr g.1 (.int .u64 16)) λj=>
 Z0 (Yn .u8 j) λu=>
 Z0 (Z3 .shr g.1 (.int .u64 24)) λw=>
 Z0 (Yn .u8 w) λy=>
 Z0 ((Zt 1 [(0,B),(1,h),(2,u),(3,y)] [(.int .u8 0),(.int .u8 0),(.int .u8 0),(.int .u8 0)]).map (.vs 1 .clip)) λz=>
 Z0 (Uh z g.2) λA=>
 b (A,g.2)
theorem Zjt:NH [W] H=Zdp W H:=Be 19 [] func126
def PK:Z4:=bj 133 54 f133 31 Y [(2,t),(3,s),(10,V)] H
def PJ:Z4:=bj 133 54 f133 15 Y [(2,t),(3,s),(10,V)] H
def Mw:Z4:=
 Z0 (Wh [W,I] H) λg=>
 Z0 (ZQ g.1 0) λj=>
 Z0 (ZQ g.1 1) λh=>
 Z0 (Z3 .neq h (Q J 0)) λu=>
 Zl u
 (b ((.tuple [(.str []),h]),g.2))
 (PJ p2 p3 j H g.2)
theorem OX:PK t s V Y H =
 Z0 (ZD V) λt37=>
 Z0 (Z8 0 t37) λg=>
 Z0 (Z2 a 1 g H) λh=>
 Z0 (ZD V) λj=>
 Z0 (Z8 0 j) λu=>
 Z0 (Z2 a 1 u H) λw=>
 Z0 (Zk (.slice 5) w) λy=>
 Z0 (Z3 .sub y t) λz=>
 Z0 (Q3 s z) λA=>
 Z0 (Z3 .add t A) λB=>
 Z0 (YC 1 h (b t) (b B) d) λC=>
 Z0 (Uh C H) λD=>
 b ((.tuple [D,(Q J 0)]),H):=Z9 [4,6]
theorem OW:PJ t s V Y H =
 Z0 (Z3 .lss t (Q J 0)) λg=>
 Z0 (Z7 g a bh (b t)) λj=>
 Z0 (Z7 g a bh (b V)) λu=>
 Z0 (Z7 g a bh (ZD u)) λw=>
 Z0 (Z7 g a bh (Z8 0 w)) λy=>
 Z0 (Z7 g a bh (Z2 a 1 y H)) λz=>
 Z0 (Z7 g a bh (Zk (.slice 5) z)) λA=>
 Z0 (Z7 g a bh (Z3 .gtr j A)) λB=>
 Z0 (Zm g (.bool c) B) λh=>
 Z0 (Z7 h a bh (b s)) λC=>
 Z0 (Z7 h a bh (Z3 .lss C (Q J 0))) λD=>
 Z0 (Zm h (.bool c) D) λE=>
 Zl E
 (b ((.tuple [(.str []),(Q J 2)]),H))
 (PK t s V Y H):=Z9 [4,6]
theorem aT:G3 [W,I,p2,p3] H=Mw W I p2 p3 H:=Be 54 [4,6] func133
def kQ:Z4:=bj 134 58 f134 511 Y [(1,U),(7,O),(8,x)] H
def kP:Z4:=bj 134 58 f134 255 Y [(1,U),(7,O),(8,x)] H
def kO:Z4:=bj 134 58 f134 127 Y [(1,U),(7,O),(8,x)] H
def kN:Z4:=bj 134 58 f134 31 Y [(1,U),(7,O)] H
def kM:Z4:=bj 134 58 f134 7 Y [(0,X),(1,U)] H
def nT:Z4:=
 Z0 (Z3 .lss I (Q J 0)) λg=>
 Z0 (Z7 g a bh (b I)) λh=>
 Z0 (Z7 g a bh (b W)) λj=>
 Z0 (Z7 g a bh (Zk .string j)) λu=>
 Z0 (Z7 g a bh (Z3 .gtr h u)) λw=>
 Z0 (Zm g (.bool c) w) λy=>
 Zl y
 (b ((.tuple [(.str []),(Q J 0),(Q J 2)]),H))
 (kM W I H H)
theorem ZfA:kQ U O x Y H =
 Z0 (Z3 .add x (Q J 2)) λg=>
 Z0 (Y4 O (b (Q J 2)) (b g) d) λh=>
 Z0 (Z3 .add U x) λj=>
 Z0 (Z3 .add j (Q J 6)) λu=>
 b ((.tuple [h,u,(Q J 0)]),H):=Z9 bo
theorem Zfz:kP U O x Y H =
 Z0 (Z3 .add x (Q J 2)) λh=>
 Z0 (Z3 .add x (Q J 6)) λj=>
 Z0 (Y4 O (b h) (b j) d) λu=>
 Z0 (Z3 .add x (Q J 2)) λw=>
 Z0 (Y4 O d (b w) d) λy=>
 Z0 (Ze NH [y] H) λg=>
 Z0 (YK .neq u g.1) λz=>
 Zl z
 (b ((.tuple [(.str []),(Q J 0),(Q J 13)]),g.2))
 (kQ U O x Y g.2):=Z9 bo
theorem Zfy:kO U O x Y H =
 Z0 (Zk .string O) λg=>
 Z0 (Z3 .add x (Q J 6)) λh=>
 Z0 (Z3 .lss g h) λt37=>
 Zl t37
 (b ((.tuple [(.str []),(Q J 0),(Q J 14)]),H))
 (kP U O x Y H):=Z9 bo
theorem Zfx:kN U O Y H =
 Z0 (Zz O (Q J 0)) λh=>
 Z0 (Yn .i64 h) λj=>
 Z0 (Z3 .shl j (.int .u64 8)) λu=>
 Z0 (Zz O (Q J 1)) λw=>
 Z0 (Yn .i64 w) λy=>
 Z0 (Z3 .or u y) λg=>
 Z0 (Z3 .gtr g (Q J 4096)) λz=>
 Zl z
 (b ((.tuple [(.str []),(Q J 0),(Q J 13)]),H))
 (kO U O g Y H):=Z9 bo
theorem Zfw:kM X U Y H =
 Z0 (Y4 X (b U) d d) λg=>
 Z0 (Zk .string g) λh=>
 Z0 (Z3 .lss h (Q J 2)) λj=>
 Zl j
 (b ((.tuple [(.str []),(Q J 0),(Q J 14)]),H))
 (kN U g Y H):=Z9 bo
theorem Zgr:SC [W,I] H=nT W I H:=Be 58 [3,6,9,11,13] func134
def Zb5:Z4:=bj 163 33 f163 15 Y [(3,s)] H
def TP:KL:=Za (Sx 163 33 f163 15) (Zf cfg 33 163 f163 Y)
theorem ZcQ:ZH 33 (TP Y):=Zq (C:=cfg) (kp:=cfg.keep 163) (bk f163 15) (Zv 163 f163 Y)
def Zb7:Z4:=Y7 163 33 (bk f163 935) (Za (Jt 163 33 f163 116) (Z5 0 (TP Y))) [(0,X),(3,s),(6,r),(7,O)] H
def Zb6:Z4:=Y7 163 33 (bk f163 467) (Za (Jt 163 33 f163 116) (Z5 0 (TP Y))) [(0,X),(3,s),(6,r),(7,O),(8,x)] H
def TQ:Z4:=C2 163 33 (bk f163 116) (Z5 0 (TP Y)) [(0,X),(3,s),(6,r),(7,O)] H
def Zdo:Z4:=
 Z0 (Zk .string W) λg=>
 TQ W (.int .u32 4294967295) g (Q J 0) H H
theorem Zib:Zb5 s Y H =
 Z0 (Xa .xor s) λg=>
 b (g,H):=Z9 [4,8,9]
theorem Zid:Zb7 X s r O Y H =
 Z0 (Z3 .add O (Q J 1)) λg=>
 TQ X s r g Y H:=Z9 [4,8,9]
theorem Zic:Zb6 X s r O x Y H =
 Z0 (Zz X O) λj=>
 Z0 (Yn .u32 j) λu=>
 Z0 (Z3 .xor s u) λg=>
 Z0 (Z3 .and g (.int .u32 15)) λw=>
 Z0 (N7 16 1 Zri w) λy=>
 Z0 (Z2 a 1 y H) λz=>
 Z0 (Z3 .shr g (.int .u64 4)) λA=>
 Z0 (Z3 .xor z A) λh=>
 Z0 (Z3 .and h (.int .u32 15)) λB=>
 Z0 (N7 16 1 Zri B) λC=>
 Z0 (Z2 a 1 C H) λD=>
 Z0 (Z3 .shr h (.int .u64 4)) λE=>
 Z0 (Z3 .xor D E) λF=>
 Zb7 X F r O Y H:=Z9 [4,8,9]
theorem Il:TQ X s r O Y H =
 Z0 (Z3 .lss O r) λg=>
 Zl g
 (Zb6 X s r O g Y H)
 (Zb5 s Y H):=(Zw (C:=cfg) [4,8,9] (Zg 0 (ZcQ Y)) _ _).trans df
theorem Zjs:O2 [W] H=Zdo W H:=Be 33 [4,8,9] func163
end
end Go.Am
