/- The functions of the translation over the abstract machine -/
import Derived.Test.YtmclihijlmlpkaaGreatDoorXeGx
open Option renaming some->d
open Bool renaming true->b,false->a
open Go.Proofs.Tryz
open Go.Am.AV renaming int->Q
open Go.IntKind renaming i64->J
namespace Go.Am
open Go.Proofs
set_option maxRecDepth 100000
noncomputable abbrev ZZ (f n:Nat):=Yg cfg (Zb cfg) (Y0 cfg (cfg.keep f) n) (cfg.keep f) n Za Z5
noncomputable abbrev G9 (f n:Nat):=Y0 cfg (cfg.keep f) n
noncomputable section
abbrev KZ (f n:Nat)(F:Func)(p:Nat):KL->AL->Hp->Z4:=λk g H=>ZZ f n (sub (Z1 F) (dd p)) k (Ya (cfg.keep f) (sub (Z1 F) (dd p)) g) H
abbrev XN (f n:Nat)(F:Func)(p:Nat):KL->AL->Hp->Z4:=λk g H=>G9 f n (sub (Z1 F) (dd p)) k (Ya (cfg.keep f) (sub (Z1 F) (dd p)) g) H
variable (r p1 p2 p3 p4 X x1 x3 x4 P v x7 x8 x9 V x W x13 I U O x17 x18 x19 s t x22 x23 x25 x26 x27 x28 x31 x32 x33 x34 x35 x48 x49 x50 x51:AV)(Y H:Hp)
abbrev br (F:Func)(p:Nat):=sub (Z1 F) (dd p)
abbrev bt:da:=[4,7,13,14,17,20,24,900002]
abbrev bu:da:=[3,6,9,12,13,14,16,17,18]
abbrev bw:da:=[3,6,8,10,12,15,16]
abbrev bz:da:=[4,8,10,11,14,15,16]
abbrev c7:da:=[4,6,7,12,14]
abbrev c8:da:=[3,6,10,14,15,16]
abbrev c9:da:=[3,6,9,11,12,16,17,20,23]
abbrev cb:da:=[6,10,12,13,15,18]
def VA:Z4:=ZZ 7 86 (sub (Uz cfg 7 f7) [1,1,1,1,1,1,1]) (Zf cfg 86 7 f7 Y) [(10,V),(11,x),(12,W),(35,x35)] H
def VB:KL:=Za (λk g H=>ZZ 7 86 (sub (Uz cfg 7 f7) [1,1,1,1,1,1,1]) k (Ya (cfg.keep 7) (sub (Uz cfg 7 f7) [1,1,1,1,1,1,1]) g) H) (Zf cfg 86 7 f7 Y)
theorem fU:ZH 86 (VB Y):=Zq (C:=cfg) (kp:=cfg.keep 7) (sub (Uz cfg 7 f7) [1,1,1,1,1,1,1]) (Zv 7 f7 Y)
def Ib:Z4:=ZZ 7 86 (sub (Uz cfg 7 f7) [1,1,1,1,1,1,0,0,1,1,1,1,1,1,1]) (Z5 900001 (VB Y)) [(10,V),(11,x),(12,W),(16,O),(35,x35)] H
def Ia:Z4:=ZZ 7 86 (sub (Uz cfg 7 f7) [1,1,1,1,1,1,0,0,1,1,1,1,1]) (Z5 900001 (VB Y)) [(10,V),(11,x),(12,W),(14,I),(15,U),(16,O),(35,x35)] H
def KF:Z4:=ZZ 7 86 (sub (Uz cfg 7 f7) [1,1,1,1,1,1,0,0,1,1,1]) (Z5 900001 (VB Y)) [(11,x),(12,W),(14,I),(15,U),(16,O),(35,x35)] H
def TM:KL:=Za (λk g H=>ZZ 7 86 (sub (Uz cfg 7 f7) [1,1,1,1,1,1,0,0,1,1,1]) k (Ya (cfg.keep 7) (sub (Uz cfg 7 f7) [1,1,1,1,1,1,0,0,1,1,1]) g) H) (Z5 900001 (VB Y))
theorem fV:ZH 86 (TM Y):=Zq (C:=cfg) (kp:=cfg.keep 7) (sub (Uz cfg 7 f7) [1,1,1,1,1,1,0,0,1,1,1]) (Zg 900001 (fU Y))
def Ic:Z4:=ZZ 7 86 (sub (Uz cfg 7 f7) [1,1,1,1,1,1,0,0,1,1,0,0,0,1]) (Za (λk g H=>G9 7 86 (sub (Uz cfg 7 f7) [1,1,1,1,1,1,0,0,1,1,0,0,0]) k (Ya (cfg.keep 7) (sub (Uz cfg 7 f7) [1,1,1,1,1,1,0,0,1,1,0,0,0]) g) H) (Z5 0 (TM Y))) [(8,x8),(11,x),(12,W),(14,I),(15,U),(16,O),(35,x35)] H
def KG:Z4:=G9 7 86 (sub (Uz cfg 7 f7) [1,1,1,1,1,1,0,0,1,1,0,0,0]) (Z5 0 (TM Y)) [(8,x8),(11,x),(12,W),(14,I),(15,U),(16,O),(35,x35)] H
def I9:Z4:=ZZ 7 86 (sub (Uz cfg 7 f7) [1,1,1,1,1,1,0,0,1,1]) (Z5 900001 (VB Y)) [(8,x8),(11,x),(12,W),(14,I),(15,U),(16,O),(35,x35)] H
def I8:Z4:=ZZ 7 86 (sub (Uz cfg 7 f7) [1,1,1,1]) (Zf cfg 86 7 f7 Y) [(4,x4),(6,v),(7,x7),(8,x8),(11,x),(12,W),(14,I)] H
def I7:Z4:=ZZ 7 86 (sub (Uz cfg 7 f7) [1,1]) (Zf cfg 86 7 f7 Y) [(0,X),(4,x4),(6,v),(7,x7),(8,x8),(11,x),(12,W)] H
def PV:Z4:=
 Z0 (ZF p1 H) λL=>
 Z0 (ZF p2 L.2) λz=>
 Z0 (ZF p3 z.2) λy=>
 Z0 (d ((.ptr y.2.length 0),y.2++[.cells [(Q J 0),(Q J 0),(Q J 0),(Q J 0)]])) λh=>
 Z0 (d ((.ptr h.2.length 0),h.2++[.cells [(Q J 0)]])) λg=>
 Z0 (Z2 b 5 z.1 g.2) λA=>
 Z0 (Z2 b 2 y.1 g.2) λB=>
 Z0 (RI [r,A,B,p4] g.2) λu=>
 Z0 (Z3 .neq u.1 (Q J 0)) λC=>
 Zl C
 (Z0 (d (.agg [(Q J 0),(Q J 0),(Q J 0),(Q J 0)])) λD=>
 Z0 (Zc 4 h.1 D u.2) λw=>
 Z0 (Zc 1 g.1 u.1 w.2) λj=>
 Z0 (Z2 b 4 h.1 j.2) λE=>
 Z0 (Z2 a 1 g.1 j.2) λF=>
 d ((.tuple [.nils,E,F]),j.2))
 (I7 r p4 L.1 z.1 y.1 h.1 g.1 H u.2)
theorem ZaS:VA V x W x35 Y H =
 Z0 (Yu cfg (Zb cfg) x35 [] H) λg=>
 Z0 (Z2 b 4 x g.2) λh=>
 Z0 (Z2 a 1 W g.2) λj=>
 d ((.tuple [V,h,j]),g.2):=Z9 bt
theorem ZaW:Ib V x W O x35 Y H =
 Z0 (ZD O) λj=>
 Z0 (Z8 13 j) λu=>
 Z0 (Z2 b 4 u H) λw=>
 Z0 (Zc 4 x w H) λg=>
 Z0 (Zc 1 W (Q J 0) g.2) λh=>
 VA V x W x35 Y h.2:=Z9 bt
theorem ZaV:Ia V x W I U O x35 Y H =
 Z0 (Zc 1 U (.bool b) H) λh=>
 Z0 (Z2 a 1 I h.2) λy=>
 Z0 (Vd [y] h.2) λj=>
 Z0 (Zc 1 W j.1 j.2) λg=>
 Z0 (Z2 a 1 W g.2) λz=>
 Z0 (Z3 .neq z (Q J 0)) λA=>
 Zl A
 (Z0 (Zg7 W x) λ_=>
 Z0 (d (.agg [(Q J 0),(Q J 0),(Q J 0),(Q J 0)])) λB=>
 Z0 (Z2 a 1 W g.2) λC=>
 Z0 (Zc 4 x B g.2) λu=>
 Z0 (Zc 1 W C u.2) λw=>
 VA .nils x W x35 Y w.2)
 (Ib V x W O x35 Y g.2):=Z9 bt
theorem ZaU:KF x W I U O x35 Y H =
 Z0 (Qt [O] H) λh=>
 Z0 (ZQ h.1 0) λw=>
 Z0 (ZQ h.1 1) λt70=>
 Z0 (Zc 1 W t70 h.2) λg=>
 Z0 (Z2 a 1 W g.2) λy=>
 Z0 (Z3 .neq y (Q J 0)) λt72=>
 Zl t72
 (Z0 (Zg7 W x) λ_=>
 Z0 (d (.agg [(Q J 0),(Q J 0),(Q J 0),(Q J 0)])) λz=>
 Z0 (Z2 a 1 W g.2) λA=>
 Z0 (Zc 4 x z g.2) λj=>
 Z0 (Zc 1 W A j.2) λu=>
 VA .nils x W x35 Y u.2)
 (Ia w x W I U O x35 Y g.2):=Z9 bt
theorem ZaX:Ic x8 x W I U O x35 Y H =
 Z0 (Z8 1 x8) λw=>
 Z0 (Z2 a 1 w H) λy=>
 Z0 (QX [O,y] H) λh=>
 Z0 (Zc 1 W h.1 h.2) λg=>
 Z0 (Z2 a 1 W g.2) λz=>
 Z0 (Z3 .neq z (Q J 0)) λA=>
 Zl A
 (Z0 (Zg7 W x) λ_=>
 Z0 (d (.agg [(Q J 0),(Q J 0),(Q J 0),(Q J 0)])) λB=>
 Z0 (Z2 a 1 W g.2) λC=>
 Z0 (Zc 4 x B g.2) λj=>
 Z0 (Zc 1 W C j.2) λu=>
 VA .nils x W x35 Y u.2)
 (KG x8 x W I U O x35 Y g.2):=Z9 bt
theorem Gk:KG x8 x W I U O x35 Y H =
 Z0 (ZD O) λg=>
 Z0 (Z8 12 g) λh=>
 Z0 (Z2 a 1 h H) λj=>
 Z0 (Zk (.slice 9) j) λu=>
 Z0 (Z8 1 x8) λw=>
 Z0 (Z2 a 1 w H) λy=>
 Z0 (Z3 .gtr u y) λz=>
 Zl z
 (Ic x8 x W I U O x35 Y H)
 (KF x W I U O x35 Y H):=(Zw (C:=cfg) [4,7,13,14,17,20,24,900002] (Zg 0 (fV Y)) _ _).trans df
theorem ZaT:I9 x8 x W I U O x35 Y H =
 KG x8 x W I U O x35 Y H:=Z9 bt
theorem ZaR:I8 x4 v x7 x8 x W I Y H =
 Z0 (d ((.ptr H.length 0),H++[.cells [(.bool a)]])) λj=>
 Z0 (Zc 1 j.1 (.bool a) j.2) λg=>
 Z0 (d (.fn (.func 15) [] [W,j.1,I])) λA=>
 Z0 (Z2 a 1 I g.2) λB=>
 Z0 (Z2 b 6 v g.2) λt37=>
 Z0 (Z2 b 5 x7 g.2) λC=>
 Z0 ((Yq [(0,1,B),(1,6,t37),(7,5,C)] [.nilp,(.str []),.nils,(.str []),(.str []),.nils,.nils,.nils,(Q J 0),(Q J 0),(.bool a),(.bool a),.nils,(Q J 0),(Q J 0),(Q J 0),(Q J 0)]).map .agg) λD=>
 Z0 (ZF D g.2) λu=>
 Z0 (Z8 0 x8) λE=>
 Z0 (Z2 a 1 E u.2) λF=>
 Z0 (Qu [u.1,x4,F] u.2) λw=>
 Z0 (Zc 1 W w.1 w.2) λh=>
 Z0 (Z2 a 1 W h.2) λL=>
 Z0 (Z3 .neq L (Q J 0)) λM=>
 Zl M
 (Z0 (Zg7 W x) λ_=>
 Z0 (d (.agg [(Q J 0),(Q J 0),(Q J 0),(Q J 0)])) λN=>
 Z0 (Z2 a 1 W h.2) λR=>
 Z0 (Zc 4 x N h.2) λy=>
 Z0 (Zc 1 W R y.2) λz=>
 VA .nils x W A Y z.2)
 (I9 x8 x W I j.1 u.1 A Y h.2):=Z9 bt
theorem ZaQ:I7 X x4 v x7 x8 x W Y H =
 Z0 (Q1 [X,(.str [115,111,114,116]),(Q J 262144)] H) λj=>
 Z0 (ZQ j.1 0) λz=>
 Z0 (ZQ j.1 1) λA=>
 Z0 (d ((.ptr j.2.length 0),j.2++[.cells [.nilp]])) λu=>
 Z0 (Zc 1 u.1 z u.2) λw=>
 Z0 (Zc 1 W A w.2) λg=>
 Z0 (Z2 a 1 W g.2) λB=>
 Z0 (Z3 .neq B (Q J 0)) λC=>
 Zl C
 (Z0 (Zg7 W x) λ_=>
 Z0 (d (.agg [(Q J 0),(Q J 0),(Q J 0),(Q J 0)])) λD=>
 Z0 (Z2 a 1 W g.2) λE=>
 Z0 (Zc 4 x D g.2) λy=>
 Z0 (Zc 1 W E y.2) λh=>
 Z0 (Z2 b 4 x h.2) λF=>
 Z0 (Z2 a 1 W h.2) λL=>
 d ((.tuple [.nils,F,L]),h.2))
 (I8 x4 v x7 x8 x W u.1 Y g.2):=Z9 bt
theorem LT:U6 [r,p1,p2,p3,p4] H=PV r p1 p2 p3 p4 H:=(Zd (C:=cfg) (fn:=f7) (c:=Uz cfg 7 f7) (n:=86) [4,7,13,14,17,20,24,900002] func7 df df [r,p1,p2,p3,p4] df H).trans df
noncomputable abbrev bp (f n:Nat)(F:Func)(p:Nat)(G:Hp):=λk K=>ZZ f n (sub (Z1 F) (dd p)) (Zf cfg n f F G) k K
def I0:Z4:=bp 12 62 f12 63 Y [(4,x4),(5,P)] H
def KE:KL:=Za (KZ 12 62 f12 63) (Zf cfg 62 12 f12 Y)
theorem fS:ZH 62 (KE Y):=Zq (C:=cfg) (kp:=cfg.keep 12) (br f12 63) (Zv 12 f12 Y)
def I2:Z4:=ZZ 12 62 (br f12 2003) (Za (XN 12 62 f12 500) (Z5 2 (KE Y))) [(3,x3),(4,x4),(5,P),(10,V)] H
def I1:Z4:=ZZ 12 62 (br f12 1001) (Za (XN 12 62 f12 500) (Z5 2 (KE Y))) [(3,x3),(4,x4),(5,P),(10,V)] H
def TK:Z4:=G9 12 62 (br f12 500) (Z5 2 (KE Y)) [(3,x3),(4,x4),(5,P),(10,V)] H
def AZ:Z4:=bp 12 62 f12 31 Y [(3,x3),(4,x4),(5,P)] H
def Qa:KL:=Za (KZ 12 62 f12 31) (Zf cfg 62 12 f12 Y)
theorem fT:ZH 62 (Qa Y):=Zq (C:=cfg) (kp:=cfg.keep 12) (br f12 31) (Zv 12 f12 Y)
def I4:Z4:=ZZ 12 62 (br f12 1959) (Za (XN 12 62 f12 244) (Z5 0 (Qa Y))) [(3,x3),(4,x4),(5,P),(6,v),(14,I),(15,U),(16,O)] H
def I6:KL:=Za (KZ 12 62 f12 1959) (Za (XN 12 62 f12 244) (Z5 0 (Qa Y)))
def TJ:Z4:=ZZ 12 62 (br f12 62671) (Z5 1 (I6 Y)) [(3,x3),(4,x4),(5,P),(6,v),(9,x9),(14,I),(15,U),(16,O)] H
def I5:Z4:=ZZ 12 62 (br f12 15667) (Z5 1 (I6 Y)) [(3,x3),(4,x4),(5,P),(6,v),(7,x7),(8,x8),(14,I),(15,U),(16,O)] H
def I3:Z4:=ZZ 12 62 (br f12 979) (Za (XN 12 62 f12 244) (Z5 0 (Qa Y))) [(3,x3),(4,x4),(5,P),(6,v),(14,I),(15,U),(16,O),(17,x17)] H
def TL:Z4:=G9 12 62 (br f12 244) (Z5 0 (Qa Y)) [(3,x3),(4,x4),(5,P),(6,v),(14,I),(15,U),(16,O)] H
def AY:Z4:=bp 12 62 f12 7 Y [(0,X),(3,x3),(4,x4),(5,P)] H
def aG:Z4:=
 Z0 (ZF p1 H) λh=>
 Z0 (Z2 b 2 h.1 h.2) λj=>
 Z0 (Ze KA [j] h.2) λg=>
 Z0 (Xa .not g.1) λu=>
 Zl u
 (d ((.tuple [(Q J 0),(Q J 0)]),g.2))
 (AY r h.1 (Q J 0) (Q J 0) H g.2)
theorem ZaH:I0 x4 P Y H =
 d ((.tuple [x4,P]),H):=Z9 bu
theorem ZaJ:I2 x3 x4 P V Y H =
 Z0 (Z8 1 x3) λg=>
 Z0 (Z2 a 1 g H) λh=>
 Z0 (Z3 .add V h) λj=>
 Z0 (Z3 .sub j (Q J 1)) λu=>
 Z0 (Z8 1 x3) λw=>
 Z0 (Z2 a 1 w H) λy=>
 Z0 (Z3 .quo u y) λz=>
 TK x3 x4 P z Y H:=Z9 bu
theorem ZaI:I1 x3 x4 P V Y H =
 Z0 (Z3 .add P (Q J 1)) λg=>
 I2 x3 x4 g V Y H:=Z9 bu
theorem ZaO:TK x3 x4 P V Y H =
 Z0 (Z8 1 x3) λg=>
 Z0 (Z2 a 1 g H) λh=>
 Z0 (Z3 .gtr V h) λj=>
 Zl j
 (I1 x3 x4 P V Y H)
 (I0 x4 P Y H):=(Zw (C:=cfg) [3,6,9,12,13,14,16,17,18] (Zg 2 (fS Y)) _ _).trans df
theorem ZaG:AZ x3 x4 P Y H =
 TK x3 x4 P x4 Y H:=Z9 bu
theorem ZaL:I4 x3 x4 P v I U O Y H =
 Z0 (Z3 .add O (Q J 1)) λg=>
 TL x3 x4 P v I U g Y H:=Z9 bu
theorem ZaN:TJ x3 x4 P v x9 I U O Y H =
 Z0 (Z3 .add v x9) λg=>
 I4 x3 x4 P g I U O Y H:=Z9 bu
theorem ZaM:I5 x3 x4 P v x7 x8 I U O Y H =
 Z0 (Z3 .add x8 (Q J 16)) λh=>
 Z0 (Z3 .eql x7 (Q J 0)) λg=>
 Z0 (Z7 g a bh (d v)) λj=>
 Z0 (Z7 g a bh (d h)) λu=>
 Z0 (Z7 g a bh (Z3 .add j u)) λw=>
 Z0 (Z7 g a bh (Z8 0 x3)) λy=>
 Z0 (Z7 g a bh (Z2 a 1 y H)) λz=>
 Z0 (Z7 g a bh (Z3 .gtr w z)) λt37=>
 Z0 (Zm g (.bool b) t37) λA=>
 Zl A
 (Z0 (Z3 .add x4 (Q J 1)) λB=>
 TJ x3 B P (Q J 0) h I U O Y H)
 (TJ x3 x4 P v h I U O Y H):=Z9 bu
theorem ZaK:I3 x3 x4 P v I U O x17 Y H =
 Z0 (Zj 1 I O) λj=>
 Z0 (Z2 a 1 j H) λg=>
 Z0 (Z3 .lss g (Q J 0)) λh=>
 Z0 (Z7 h a bh (d g)) λu=>
 Z0 (Z7 h a bh (Z3 .gtr u (Q J 4096))) λw=>
 Z0 (Zm h (.bool b) w) λy=>
 Zl y
 (d ((.tuple [(Q J 0),(Q J 0)]),H))
 (I5 x3 x4 P v O g I U O Y H):=Z9 bu
theorem ZaP:TL x3 x4 P v I U O Y H =
 Z0 (Z3 .lss O U) λg=>
 Zl g
 (I3 x3 x4 P v I U O g Y H)
 (AZ x3 x4 P Y H):=(Zw (C:=cfg) [3,6,9,12,13,14,16,17,18] (Zg 0 (fT Y)) _ _).trans df
theorem ZaF:AY X x3 x4 P Y H =
 Z0 (Zk (.slice 3) X) λg=>
 TL x3 x4 P (Q J 0) X g (Q J 0) Y H:=Z9 bu
theorem Zcb:PO [r,p1] H=aG r p1 H:=Be 62 [3,6,9,12,13,14,16,17,18] func12
def CS:Z4:=bp 13 35 f13 127 Y [] H
def JB:KL:=Za (KZ 13 35 f13 127) (Zf cfg 35 13 f13 Y)
theorem cL:ZH 35 (JB Y):=Zq (C:=cfg) (kp:=cfg.keep 13) (br f13 127) (Zv 13 f13 Y)
def CU:Z4:=ZZ 13 35 (br f13 8103) (Za (XN 13 35 f13 1012) (Z5 0 (JB Y))) [(25,x25),(26,x26),(27,x27)] H
def CT:Z4:=ZZ 13 35 (br f13 4051) (Za (XN 13 35 f13 1012) (Z5 0 (JB Y))) [(25,x25),(26,x26),(27,x27),(28,x28)] H
def JC:Z4:=G9 13 35 (br f13 1012) (Z5 0 (JB Y)) [(25,x25),(26,x26),(27,x27)] H
def CR:Z4:=bp 13 35 f13 63 Y [(3,x3)] H
def CQ:Z4:=bp 13 35 f13 31 Y [(3,x3)] H
def CP:Z4:=bp 13 35 f13 15 Y [(3,x3),(6,v)] H
def CO:Z4:=bp 13 35 f13 7 Y [(3,x3),(5,P),(6,v)] H
def Ap:Z4:=
 Z0 (ZF p1 H) λj=>
 Z0 (ZF p2 j.2) λg=>
 Z0 (YJ (.pointer 67) .eql r .nilp) λh=>
 Zl h
 (d ((Q J 5),g.2))
 (CO p3 j.1 g.1 H g.2)
theorem lW:CS Y H =
 d ((Q J 0),H):=Z9 bw
theorem lX:CU x25 x26 x27 Y H =
 Z0 (Z3 .add x27 (Q J 1)) λg=>
 JC x25 x26 g Y H:=Z9 bw
theorem Pw:CT x25 x26 x27 x28 Y H =
 Z0 (Zj 1 x25 x27) λg=>
 Z0 (Z2 a 1 g H) λh=>
 Z0 (Zk .string h) λj=>
 Z0 (Z3 .gtr j (Q J 4096)) λu=>
 Zl u
 (d ((Q J 3),H))
 (CU x25 x26 x27 Y H):=Z9 bw
theorem Px:JC x25 x26 x27 Y H =
 Z0 (Z3 .lss x27 x26) λg=>
 Zl g
 (CT x25 x26 x27 g Y H)
 (CS Y H):=(Zw (C:=cfg) [3,6,8,10,12,15,16] (Zg 0 (cL Y)) _ _).trans df
theorem lV:CR x3 Y H =
 Z0 (Zk (.slice 9) x3) λg=>
 JC x3 g (Q J 0) Y H:=Z9 bw
theorem Pv:CQ x3 Y H =
 Z0 (Zk (.slice 9) x3) λg=>
 Z0 (Z3 .gtr g (Q J 8192)) λh=>
 Zl h
 (d ((Q J 3),H))
 (CR x3 Y H):=Z9 bw
theorem Kw:CP x3 v Y H =
 Z0 (Z2 b 2 v H) λh=>
 Z0 (Ze KA [h] H) λg=>
 Z0 (Xa .not g.1) λj=>
 Zl j
 (d ((Q J 2),g.2))
 (CQ x3 Y g.2):=Z9 bw
theorem UC:CO x3 P v Y H =
 Z0 (Z2 b 5 P H) λh=>
 Z0 (Ze Wt [h] H) λg=>
 Z0 (Z3 .neq g.1 (Q J 0)) λj=>
 Zl j
 (d (g.1,g.2))
 (CP x3 v Y g.2):=Z9 bw
theorem nR:RI [r,p1,p2,p3] H=Ap r p1 p2 p3 H:=Be 35 [3,6,8,10,12,15,16] func13
def SJ:Z4:=
 Z0 (Z2 a 1 r H) λt3=>
 Z0 (Z3 .neq t3 (Q J 0)) λt4=>
 Z0 (Z7 t4 b bh (Z2 a 1 p1 H)) λh=>
 Z0 (Z7 t4 b bh (Xa .not h)) λj=>
 Z0 (Zm t4 j (.bool a)) λu=>
 Zl u
 (Z0 (Z2 a 1 p2 H) λt9=>
 Z0 (Vd [t9] H) λg=>
 d (bh,g.2))
 (d (bh,H))
theorem lH:SB [r,p1,p2] H=SJ r p1 p2 H:=Be 11 [] func15
def Br:Z4:=bp 17 73 f17 7 Y [] H
def XJ:KL:=Za (KZ 17 73 f17 7) (Zf cfg 73 17 f17 Y)
theorem Nf:ZH 73 (XJ Y):=Zq (C:=cfg) (kp:=cfg.keep 17) (br f17 7) (Zv 17 f17 Y)
def Bu:Z4:=ZZ 17 73 (br f17 423) (Za (XN 17 73 f17 52) (Z5 0 (XJ Y))) [(0,X),(13,x13),(14,I),(15,U)] H
def Ae:KL:=Za (KZ 17 73 f17 423) (Za (XN 17 73 f17 52) (Z5 0 (XJ Y)))
def Bv:Z4:=ZZ 17 73 (br f17 6759) (Z5 1 (Ae Y)) [(0,X),(8,x8),(9,x9),(13,x13),(14,I),(15,U)] H
def Bt:Z4:=ZZ 17 73 (br f17 211) (Za (XN 17 73 f17 52) (Z5 0 (XJ Y))) [(0,X),(13,x13),(14,I),(15,U),(16,O)] H
def WU:Z4:=G9 17 73 (br f17 52) (Z5 0 (XJ Y)) [(0,X),(13,x13),(14,I),(15,U)] H
def Ds:Z4:=
 Z0 (Ze SH [p1,p2] H) λg=>
 Z0 (Zk (.slice 29) g.1) λh=>
 WU r g.1 h (Q J 0) H g.2
theorem Ls:Br Y H =
 d ((Q J 0),H):=Z9 [3,7,11,12]
theorem Lu:Bu X x13 I U Y H =
 Z0 (Z3 .add U (Q J 1)) λt72=>
 WU X x13 I t72 Y H:=Z9 [3,7,11,12]
theorem Lv:Bv X x8 x9 x13 I U Y H =
 Z0 (Wg [X] H) λj=>
 Z0 (ZD X) λz=>
 Z0 (Z8 12 z) λA=>
 Z0 (Z2 a 1 A j.2) λB=>
 Z0 ((Zt 1 [(0,x9)] [(.str [])]).map (.vs 1 .clip)) λC=>
 Z0 (ZR 1 16 B C j.2) λu=>
 Z0 (ZD X) λD=>
 Z0 (Z8 12 D) λE=>
 Z0 (Zc 1 E u.1 u.2) λg=>
 Z0 (ZD X) λF=>
 Z0 (Z8 13 F) λL=>
 Z0 (Z8 0 L) λM=>
 Z0 (Z2 a 1 M g.2) λN=>
 Z0 (Z3 .add N (Q J 1)) λR=>
 Z0 (ZD X) λS=>
 Z0 (Z8 13 S) λT=>
 Z0 (Z8 0 T) λZ=>
 Z0 (Zc 1 Z R g.2) λh=>
 Z0 (ZD X) λaa=>
 Z0 (Z8 13 aa) λab=>
 Z0 (Z8 2 ab) λac=>
 Z0 (Z2 a 1 ac h.2) λad=>
 Z0 (Ze PP [x8] h.2) λw=>
 Z0 (Q2 ad w.1) λae=>
 Z0 (ZD X) λaf=>
 Z0 (Z8 13 af) λt70=>
 Z0 (Z8 2 t70) λag=>
 Z0 (Zc 1 ag ae w.2) λy=>
 Bu X x13 I U Y y.2:=Z9 [3,7,11,12]
theorem Lt:Bt X x13 I U O Y H =
 Z0 (Zj 1 x13 U) λu=>
 Z0 (Z2 a 1 u H) λh=>
 Z0 (ZD X) λw=>
 Z0 (Z8 0 w) λy=>
 Z0 (Z2 a 1 y H) λz=>
 Z0 (ZD X) λA=>
 Z0 (Z8 1 A) λB=>
 Z0 (Z2 b 6 B H) λC=>
 Z0 (ZD X) λD=>
 Z0 (Z8 7 D) λE=>
 Z0 (Z2 b 5 E H) λF=>
 Z0 (SI [z,C,F,h] H) λg=>
 Z0 (ZQ g.1 0) λL=>
 Z0 (ZQ g.1 1) λj=>
 Z0 (Z3 .neq j (Q J 0)) λt37=>
 Zl t37
 (d (j,g.2))
 (Bv X h L x13 I U Y g.2):=Z9 [3,7,11,12]
theorem K5:WU X x13 I U Y H =
 Z0 (Z3 .lss U I) λg=>
 Zl g
 (Bt X x13 I U g Y H)
 (Br Y H):=(Zw (C:=cfg) [3,7,11,12] (Zg 0 (Nf Y)) _ _).trans df
theorem EA:Qu [r,p1,p2] H=Ds r p1 p2 H:=Be 73 [3,7,11,12] func17
def DK:Z4:=bp 18 60 f18 15 Y [(0,X),(5,P)] H
def XU:KL:=Za (KZ 18 60 f18 15) (Zf cfg 60 18 f18 Y)
theorem Jl:ZH 60 (XU Y):=Zq (C:=cfg) (kp:=cfg.keep 18) (br f18 15) (Zv 18 f18 Y)
def DM:Z4:=ZZ 18 60 (br f18 935) (Za (XN 18 60 f18 116) (Z5 0 (XU Y))) [(0,X),(5,P),(19,x19),(20,s),(21,t)] H
def Vf:KL:=Za (KZ 18 60 f18 935) (Za (XN 18 60 f18 116) (Z5 0 (XU Y)))
theorem MD:ZH 60 (Vf Y):=Zq (C:=cfg) (kp:=cfg.keep 18) (br f18 935) (Qn (C:=cfg) (kp:=cfg.keep 18) (br f18 116) (Zg 0 (Jl Y)))
def DN:Z4:=ZZ 18 60 (br f18 59807) (Z5 1 (Vf Y)) [(0,X),(5,P),(11,x),(19,x19),(20,s),(21,t)] H
def Qy:Z4:=ZZ 18 60 (br f18 14951) (Z5 1 (Vf Y)) [(0,X),(5,P),(8,x8),(19,x19),(20,s),(21,t)] H
def Vg:KL:=Za (KZ 18 60 f18 14951) (Z5 1 (Vf Y))
theorem ME:ZH 60 (Vg Y):=Zq (C:=cfg) (kp:=cfg.keep 18) (br f18 14951) (Zg 1 (MD Y))
def DP:Z4:=ZZ 18 60 (br f18 956839) (Za (XN 18 60 f18 119604) (Z5 2 (Vg Y))) [(0,X),(5,P),(8,x8),(19,x19),(20,s),(21,t),(25,x25),(26,x26),(27,x27)] H
def DO:Z4:=ZZ 18 60 (br f18 478419) (Za (XN 18 60 f18 119604) (Z5 2 (Vg Y))) [(0,X),(5,P),(8,x8),(19,x19),(20,s),(21,t),(25,x25),(26,x26),(27,x27),(28,x28)] H
def Vi:Z4:=G9 18 60 (br f18 119604) (Z5 2 (Vg Y)) [(0,X),(5,P),(8,x8),(19,x19),(20,s),(21,t),(25,x25),(26,x26),(27,x27)] H
def DL:Z4:=ZZ 18 60 (br f18 467) (Za (XN 18 60 f18 116) (Z5 0 (XU Y))) [(0,X),(5,P),(19,x19),(20,s),(21,t),(22,x22)] H
def Vh:Z4:=G9 18 60 (br f18 116) (Z5 0 (XU Y)) [(0,X),(5,P),(19,x19),(20,s),(21,t)] H
def Rb:Z4:=
 Z0 (ZD r) λh=>
 Z0 (Z8 12 h) λj=>
 Z0 (Z2 a 1 j H) λu=>
 Z0 (Zk (.slice 9) u) λw=>
 Z0 (Ze SF [w,p1] H) λg=>
 Z0 (Zk (.slice 40) g.1) λy=>
 Vh r .nils g.1 y (Q J 0) H g.2
theorem ER:DK X P Y H =
 Z0 (ZD X) λh=>
 Z0 (Z8 12 h) λj=>
 Z0 (Zc 1 j P H) λg=>
 d ((Q J 0),g.2):=Z9 bz
theorem ET:DM X P x19 s t Y H =
 Z0 (Z3 .add t (Q J 1)) λg=>
 Vh X P x19 s g Y H:=Z9 bz
theorem EV:DN X P x x19 s t Y H =
 Z0 ((Zt 1 [(0,x)] [(.str [])]).map (.vs 1 .clip)) λh=>
 Z0 (ZR 1 16 P h H) λg=>
 DM X g.1 x19 s t Y g.2:=Z9 bz
theorem EU:Qy X P x8 x19 s t Y H =
 Z0 (Qr [X,x8] H) λg=>
 Z0 (ZQ g.1 0) λj=>
 Z0 (ZQ g.1 1) λh=>
 Z0 (Z3 .neq h (Q J 0)) λu=>
 Zl u
 (d (h,g.2))
 (DN X P j x19 s t Y g.2):=Z9 bz
theorem EX:DP X P x8 x19 s t x25 x26 x27 Y H =
 Z0 (Z3 .add x27 (Q J 1)) λg=>
 Vi X P x8 x19 s t x25 x26 g Y H:=Z9 bz
theorem EW:DO X P x8 x19 s t x25 x26 x27 x28 Y H =
 Z0 (Zj 1 x25 x27) λh=>
 Z0 (Z2 a 1 h H) λj=>
 Z0 (ZD X) λu=>
 Z0 (Z8 12 u) λw=>
 Z0 (Z2 a 1 w H) λy=>
 Z0 (Zj 1 y j) λt37=>
 Z0 (Z2 a 1 t37 H) λz=>
 Z0 ((Zt 1 [(0,z)] [(.str [])]).map (.vs 1 .clip)) λA=>
 Z0 (ZR 1 16 x8 A H) λg=>
 DP X P g.1 x19 s t x25 x26 x27 Y g.2:=Z9 bz
theorem KK:Vi X P x8 x19 s t x25 x26 x27 Y H =
 Z0 (Z3 .lss x27 x26) λg=>
 Zl g
 (DO X P x8 x19 s t x25 x26 x27 g Y H)
 (Qy X P x8 x19 s t Y H):=(Zw (C:=cfg) [4,8,10,11,14,15,16] (Zg 2 (ME Y)) _ _).trans df
theorem ES:DL X P x19 s t x22 Y H =
 Z0 (Zj 1 x19 t) λh=>
 Z0 (Z2 a 1 h H) λg=>
 Z0 (Zk (.slice 3) g) λj=>
 Vi X P .nils x19 s t g j (Q J 0) Y H:=Z9 bz
theorem KJ:Vh X P x19 s t Y H =
 Z0 (Z3 .lss t s) λg=>
 Zl g
 (DL X P x19 s t g Y H)
 (DK X P Y H):=(Zw (C:=cfg) [4,8,10,11,14,15,16] (Zg 0 (Jl Y)) _ _).trans df
theorem SK:QX [r,p1] H=Rb r p1 H:=Be 60 [4,8,10,11,14,15,16] func18
def Bo:Z4:=ZZ 19 57 (br f19 4039) (Z5 3 (Za (XN 19 57 f19 252) (Z5 2 (Zf cfg 57 19 f19 Y)))) [(7,x7),(8,x8),(9,x9)] H
def Bn:Z4:=ZZ 19 57 (br f19 2019) (Z5 3 (Za (XN 19 57 f19 252) (Z5 2 (Zf cfg 57 19 f19 Y)))) [(7,x7),(8,x8),(9,x9),(10,V)] H
def WS:Z4:=G9 19 57 (br f19 252) (Z5 2 (Zf cfg 57 19 f19 Y)) [(7,x7),(8,x8)] H
def UN:Z4:=bp 19 57 f19 15 Y [(0,X),(4,x4)] H
def WR:KL:=Za (KZ 19 57 f19 15) (Zf cfg 57 19 f19 Y)
theorem Nd:ZH 57 (WR Y):=Zq (C:=cfg) (kp:=cfg.keep 19) (br f19 15) (Zv 19 f19 Y)
def Bq:Z4:=ZZ 19 57 (br f19 935) (Za (XN 19 57 f19 116) (Z5 0 (WR Y))) [(0,X),(4,x4),(15,U),(16,O),(17,x17)] H
def Bp:Z4:=ZZ 19 57 (br f19 467) (Za (XN 19 57 f19 116) (Z5 0 (WR Y))) [(0,X),(4,x4),(15,U),(16,O),(17,x17),(18,x18)] H
def WT:Z4:=G9 19 57 (br f19 116) (Z5 0 (WR Y)) [(0,X),(4,x4),(15,U),(16,O),(17,x17)] H
def Dr:Z4:=
 Z0 (ZD r) λh=>
 Z0 (Z8 12 h) λj=>
 Z0 (Z2 a 1 j H) λg=>
 Z0 (Zk (.slice 9) g) λu=>
 WT r .nils g u (Q J 0) H H
theorem Lp:Bo x7 x8 x9 Y H =
 Z0 ((Zt 1 [(0,x9)] [(.str [])]).map (.vs 1 .clip)) λh=>
 Z0 (ZR 1 16 x8 h H) λg=>
 WS x7 g.1 Y g.2:=Z9 c7
theorem VE:Bn x7 x8 x9 V Y H =
 Z0 (Xa .not V) λg=>
 Zl g
 (d ((.tuple [x8,(Q J 0)]),H))
 (Bo x7 x8 x9 Y H):=Z9 c7
theorem VF:WS x7 x8 Y H =
 Z0 (Ut [x7] H) λg=>
 Z0 (ZQ g.1 0) λj=>
 Z0 (ZQ g.1 1) λu=>
 Z0 (ZQ g.1 2) λh=>
 Z0 (Z3 .neq h (Q J 0)) λw=>
 Zl w
 (d ((.tuple [.nils,h]),g.2))
 (Bn x7 x8 j u Y g.2):=(Zw (C:=cfg) [4,6,7,12,14] (Zg 2 (Zv 19 f19 Y)) _ _).trans df
theorem Lo:UN X x4 Y H =
 Z0 (ZD X) λh=>
 Z0 (Z8 1 h) λj=>
 Z0 (Z2 b 6 j H) λu=>
 Z0 (ZD X) λw=>
 Z0 (Z8 7 w) λt37=>
 Z0 (Z2 b 5 t37 H) λy=>
 Z0 (NI [u,y,x4] H) λg=>
 WS g.1 .nils Y g.2:=Z9 c7
theorem Lr:Bq X x4 U O x17 Y H =
 Z0 (Z3 .add x17 (Q J 1)) λg=>
 WT X x4 U O g Y H:=Z9 c7
theorem Lq:Bp X x4 U O x17 x18 Y H =
 Z0 (Zj 1 U x17) λj=>
 Z0 (Z2 a 1 j H) λu=>
 Z0 (ZD X) λw=>
 Z0 (Z8 0 w) λy=>
 Z0 (Z2 a 1 y H) λz=>
 Z0 (NJ [z,u] H) λg=>
 Z0 ((Zt 1 [(0,g.1)] [.nilp]).map (.vs 1 .clip)) λA=>
 Z0 (ZR 1 8 x4 A g.2) λh=>
 Bq X h.1 U O x17 Y h.2:=Z9 c7
theorem K4:WT X x4 U O x17 Y H =
 Z0 (Z3 .lss x17 O) λg=>
 Zl g
 (Bp X x4 U O x17 g Y H)
 (UN X x4 Y H):=(Zw (C:=cfg) [4,6,7,12,14] (Zg 0 (Nd Y)) _ _).trans df
theorem Ez:Qt [r] H=Dr r H:=Be 57 [4,6,7,12,14] func19
def Aq:Z4:=
 Z0 (ZF r H) λg=>
 Z0 (Z8 0 g.1) λt3=>
 Z0 (Z2 a 1 t3 g.2) λt4=>
 Z0 (Z3 .geq t4 (Q J 64)) λt5=>
 Z0 (Z7 t5 b bh (Z8 0 g.1)) λD=>
 Z0 (Z7 t5 b bh (Z2 a 1 D g.2)) λE=>
 Z0 (Z7 t5 b bh (Z3 .leq E (Q J 65536))) λt9=>
 Z0 (Zm t5 t9 (.bool a)) λh=>
 Z0 (Z7 h b bh (Z8 1 g.1)) λu=>
 Z0 (Z7 h b bh (Z2 a 1 u g.2)) λw=>
 Z0 (Z7 h b bh (Z3 .geq w (Q J 2))) λy=>
 Z0 (Zm h y (.bool a)) λj=>
 Z0 (Z7 j b bh (Z8 1 g.1)) λz=>
 Z0 (Z7 j b bh (Z2 a 1 z g.2)) λA=>
 Z0 (Z7 j b bh (Z3 .leq A (Q J 32))) λB=>
 Z0 (Zm j B (.bool a)) λC=>
 d (C,g.2)
theorem nS:KA [r] H=Aq r H:=Be 21 [] func25
def lC:Z4:=bp 32 39 f32 127 Y [(10,V)] H
def lB:Z4:=bp 32 39 f32 63 Y [(0,X),(10,V)] H
def lA:Z4:=bp 32 39 f32 31 Y [(0,X),(3,x3),(5,P),(6,v),(10,V)] H
def kZ:Z4:=bp 32 39 f32 7 Y [(0,X),(3,x3),(5,P),(6,v)] H
def nY:Z4:=
 Z0 (ZF p1 H) λj=>
 Z0 (ZF p2 j.2) λg=>
 Z0 (YJ (.pointer 85) .eql r .nilp) λh=>
 Zl h
 (d ((.tuple [(.str []),(Q J 5)]),g.2))
 (kZ r p3 j.1 g.1 H g.2)
theorem ZfY:lC V Y H =
 d ((.tuple [V,(Q J 0)]),H):=Z9 [3,6,9,12]
theorem ZfX:lB X V Y H =
 Z0 (Vz [X,V] H) λg=>
 Z0 (Z3 .neq g.1 (Q J 0)) λh=>
 Zl h
 (d ((.tuple [(.str []),g.1]),g.2))
 (lC V Y g.2):=Z9 [3,6,9,12]
theorem ZfW:lA X x3 P v V Y H =
 Z0 (Z2 b 6 P H) λj=>
 Z0 (Z2 b 5 v H) λu=>
 Z0 (Ze Gz [j,u,x3] H) λh=>
 Z0 (Ve [X,V,h.1] h.2) λg=>
 Z0 (Z3 .neq g.1 (Q J 0)) λw=>
 Zl w
 (d ((.tuple [(.str []),g.1]),g.2))
 (lB X V Y g.2):=Z9 [3,6,9,12]
theorem ZfV:kZ X x3 P v Y H =
 Z0 (VO [X] H) λg=>
 Z0 (ZQ g.1 0) λj=>
 Z0 (ZQ g.1 1) λh=>
 Z0 (Z3 .neq h (Q J 0)) λu=>
 Zl u
 (d ((.tuple [(.str []),h]),g.2))
 (lA X x3 P v j Y g.2):=Z9 [3,6,9,12]
theorem Zgv:SI [r,p1,p2,p3] H=nY r p1 p2 p3 H:=Be 39 [3,6,9,12] func32
def Rc:Z4:=
 Z0 (ZD r) λt4=>
 Z0 (Z8 13 t4) λt5=>
 Z0 (Z8 3 t5) λB=>
 Z0 (Z2 a 1 B H) λC=>
 Z0 (ZD r) λt9=>
 Z0 (Z8 0 t9) λj=>
 Z0 (Z2 a 1 j H) λu=>
 Z0 (Kb QZ [u] H) λg=>
 Z0 (Q2 C g.1) λw=>
 Z0 (ZD r) λy=>
 Z0 (Z8 13 y) λz=>
 Z0 (Z8 3 z) λA=>
 Z0 (Zc 1 A w g.2) λh=>
 d (bh,h.2)
theorem SL:Wg [r] H=Rc r H:=Be 17 [] func33
def Ie:Z4:=bp 34 19 f34 15 Y [(3,x3)] H
def KH:KL:=Za (KZ 34 19 f34 15) (Zf cfg 19 34 f34 Y)
theorem fW:ZH 19 (KH Y):=Zq (C:=cfg) (kp:=cfg.keep 34) (br f34 15) (Zv 34 f34 Y)
def Ig:Z4:=ZZ 34 19 (br f34 935) (Za (XN 34 19 f34 116) (Z5 0 (KH Y))) [(3,x3),(6,v),(7,x7),(8,x8)] H
def If:Z4:=ZZ 34 19 (br f34 467) (Za (XN 34 19 f34 116) (Z5 0 (KH Y))) [(3,x3),(6,v),(7,x7),(8,x8),(9,x9)] H
def KI:Z4:=G9 34 19 (br f34 116) (Z5 0 (KH Y)) [(3,x3),(6,v),(7,x7),(8,x8)] H
def aH:Z4:=
 Z0 (Zk (.slice 9) r) λg=>
 KI (Q J 0) r g (Q J 0) H H
theorem ZaY:Ie x3 Y H =
 d (x3,H):=Z9 [4,6,7]
theorem Zb0:Ig x3 v x7 x8 Y H =
 Z0 (Z3 .add x8 (Q J 1)) λg=>
 KI x3 v x7 g Y H:=Z9 [4,6,7]
theorem ZaZ:If x3 v x7 x8 x9 Y H =
 Z0 (Zj 1 v x8) λg=>
 Z0 (Z2 a 1 g H) λh=>
 Z0 (Zk .string h) λj=>
 Z0 (Z3 .add j (Q J 16)) λu=>
 Z0 (Z3 .add x3 u) λw=>
 Ig w v x7 x8 Y H:=Z9 [4,6,7]
theorem MC:KI x3 v x7 x8 Y H =
 Z0 (Z3 .lss x8 x7) λt9=>
 Zl t9
 (If x3 v x7 x8 t9 Y H)
 (Ie x3 Y H):=(Zw (C:=cfg) [4,6,7] (Zg 0 (fW Y)) _ _).trans df
theorem Zcc:PP [r] H=aH r H:=Be 19 [4,6,7] func34
def Bj:Z4:=bp 36 67 f36 255 Y [(6,v)] H
def XI:KL:=Za (KZ 36 67 f36 255) (Zf cfg 67 36 f36 Y)
theorem Nc:ZH 67 (XI Y):=Zq (C:=cfg) (kp:=cfg.keep 36) (br f36 255) (Zv 36 f36 Y)
def Bl:Z4:=ZZ 36 67 (br f36 16295) (Za (XN 36 67 f36 2036) (Z5 0 (XI Y))) [(0,X),(6,v),(48,x48),(49,x49),(50,x50)] H
def Ad:KL:=Za (KZ 36 67 f36 16295) (Za (XN 36 67 f36 2036) (Z5 0 (XI Y)))
def Bm:Z4:=ZZ 36 67 (br f36 130355) (Z5 1 (Ad Y)) [(0,X),(6,v),(48,x48),(49,x49),(50,x50)] H
def Bk:Z4:=ZZ 36 67 (br f36 8147) (Za (XN 36 67 f36 2036) (Z5 0 (XI Y))) [(0,X),(6,v),(48,x48),(49,x49),(50,x50),(51,x51)] H
def WQ:Z4:=G9 36 67 (br f36 2036) (Z5 0 (XI Y)) [(0,X),(6,v),(48,x48),(49,x49),(50,x50)] H
def Bi:Z4:=bp 36 67 f36 31 Y [(0,X),(1,x1),(6,v)] H
def Bh:Z4:=bp 36 67 f36 7 Y [(0,X),(1,x1)] H
def Dq:Z4:=
 Z0 (Zk (.slice 9) p1) λg=>
 Z0 (Z3 .eql g (Q J 1)) λh=>
 Zl h
 (Z0 (Zj 1 p1 (Q J 0)) λj=>
 Z0 (Z2 a 1 j H) λu=>
 d ((.tuple [u,(Q J 0)]),H))
 (Bh r p1 H H)
theorem Lk:Bj v Y H =
 d ((.tuple [v,(Q J 0)]),H):=Z9 c8
theorem Lm:Bl X v x48 x49 x50 Y H =
 Z0 (Z3 .add x50 (Q J 1)) λg=>
 WQ X v x48 x49 g Y H:=Z9 c8
theorem Ln:Bm X v x48 x49 x50 Y H =
 Z0 (Wg [X] H) λg=>
 Bl X v x48 x49 x50 Y g.2:=Z9 c8
theorem Ll:Bk X v x48 x49 x50 x51 Y H =
 Z0 (Zj 1 x48 x50) λh=>
 Z0 (Z2 a 1 h H) λj=>
 Z0 (ZD X) λu=>
 Z0 (Z8 0 u) λw=>
 Z0 (Z2 a 1 w H) λy=>
 Z0 (UL [y,j] H) λg=>
 Z0 (Z3 .neq g.1 (Q J 0)) λz=>
 Zl z
 (d ((.tuple [(.str []),g.1]),g.2))
 (Bm X v x48 x49 x50 Y g.2):=Z9 c8
theorem K3:WQ X v x48 x49 x50 Y H =
 Z0 (Z3 .lss x50 x49) λg=>
 Zl g
 (Bk X v x48 x49 x50 g Y H)
 (Bj v Y H):=(Zw (C:=cfg) [3,6,10,14,15,16] (Zg 0 (Nc Y)) _ _).trans df
theorem Lj:Bi X x1 v Y H =
 Z0 (ZD X) λj=>
 Z0 (Z8 13 j) λu=>
 Z0 (Z8 1 u) λw=>
 Z0 (Z2 a 1 w H) λy=>
 Z0 (Z3 .add y (Q J 1)) λz=>
 Z0 (ZD X) λA=>
 Z0 (Z8 13 A) λB=>
 Z0 (Z8 1 B) λC=>
 Z0 (Zc 1 C z H) λg=>
 Z0 (Wg [X] g.2) λh=>
 Z0 (Zk (.slice 9) x1) λD=>
 WQ X v x1 D (Q J 0) Y h.2:=Z9 c8
theorem Li:Bh X x1 Y H =
 Z0 (ZD X) λj=>
 Z0 (Z8 0 j) λu=>
 Z0 (Z2 a 1 u H) λw=>
 Z0 (ZD X) λy=>
 Z0 (Z8 1 y) λz=>
 Z0 (Z2 b 6 z H) λA=>
 Z0 (ZD X) λB=>
 Z0 (Z8 7 B) λC=>
 Z0 (Z2 b 5 C H) λD=>
 Z0 (MZ [w,A,D,x1] H) λg=>
 Z0 (ZQ g.1 0) λE=>
 Z0 (ZQ g.1 1) λh=>
 Z0 (Z3 .neq h (Q J 0)) λF=>
 Zl F
 (d ((.tuple [(.str []),h]),g.2))
 (Bi X x1 E Y g.2):=Z9 c8
theorem Ey:Qr [r,p1] H=Dq r p1 H:=Be 67 [3,6,10,14,15,16] func36
def ZbB:Z4:=bp 37 11 f37 7 Y [(0,X),(1,x1)] H
def Zdr:Z4:=
 Z0 (YJ (.pointer 85) .eql r .nilp) λg=>
 Zl g
 (d (.nilp,H))
 (ZbB r p1 H H)
theorem ZiP:ZbB X x1 Y H =
 Z0 ((Yq [(0,1,X),(1,1,x1)] [.nilp,(.str []),(Q J 0),(.bool a),(.bool a),(.str [])]).map .agg) λt9=>
 Z0 (ZF t9 H) λg=>
 d (g.1,g.2):=Z9 [3]
theorem Zjv:NJ [r,p1] H=Zdr r p1 H:=Be 11 [3] func37
def Zdq:Z4:=
 Z0 (ZF r H) λL=>
 Z0 (ZF p1 L.2) λw=>
 Z0 (Z8 0 w.1) λN=>
 Z0 (Z2 a 1 N w.2) λR=>
 Z0 (ZR 5 40 .nils R w.2) λM=>
 Z0 (Z8 0 w.1) λA=>
 Z0 (Zc 1 A M.1 M.2) λz=>
 Wy w.1 z.2 λz4 y=>
 Z0 (Z2 b 6 L.1 y) λB=>
 Z0 (Ze GA [B] y) λg=>
 Z0 (Xk b 5 z4) λC=>
 Z0 (Z2 b 5 z4 g.2) λD=>
 Z0 (Ze Wt [D] g.2) λh=>
 Z0 (Z3 .eql h.1 (Q J 0)) λE=>
 Z0 (ZR 1 8 .nils p2 h.2) λj=>
 Z0 ((Yq [(0,6,g.1),(6,5,C),(11,1,E),(12,1,j.1)] [(.str []),.nils,(.str []),(.str []),.nils,.nils,.nils,(Q J 0),(Q J 0),(.bool a),(.bool a),(.bool a),.nils,(.str []),(.bool a)]).map .agg) λF=>
 Z0 (ZF F j.2) λu=>
 d (u.1,u.2)
theorem Zju:NI [r,p1,p2] H=Zdq r p1 p2 H:=Be 21 [] func38
def JK:Z4:=ZZ 39 61 (br f39 455) (Z5 1 (Za (XN 39 61 f39 28) (Z5 0 (Zf cfg 61 39 f39 Y)))) [(0,X),(5,P)] H
def JJ:Z4:=ZZ 39 61 (br f39 227) (Z5 1 (Za (XN 39 61 f39 28) (Z5 0 (Zf cfg 61 39 f39 Y)))) [(0,X),(5,P)] H
def WC:Z4:=G9 39 61 (br f39 28) (Z5 0 (Zf cfg 61 39 f39 Y)) [(0,X)] H
def TZ:Z4:=bp 39 61 f39 7 Y [(0,X)] H
def Pf:Z4:=
 Z0 (YJ (.pointer 122) .eql r .nilp) λt9=>
 Zl t9
 (d ((.tuple [(.str []),(.bool a),(Q J 5)]),H))
 (TZ r H H)
theorem Ah:JK X P Y H =
 Z0 (ZD X) λj=>
 Z0 (Z8 14 j) λu=>
 Z0 (Zc 1 u (.bool b) H) λh=>
 Z0 (ZD X) λw=>
 Z0 (Z8 13 w) λy=>
 Z0 (Zc 1 y P h.2) λg=>
 d ((.tuple [P,(.bool b),(Q J 0)]),g.2):=Z9 [3,6,7]
theorem Ag:JJ X P Y H =
 Z0 (ZD X) λw=>
 Z0 (Z8 14 w) λy=>
 Z0 (Z2 a 1 y H) λj=>
 Z0 (Z7 j b bh (d X)) λz=>
 Z0 (Z7 j b bh (ZD z)) λA=>
 Z0 (Z7 j b bh (Z8 11 A)) λB=>
 Z0 (Z7 j b bh (Z2 a 1 B H)) λC=>
 Z0 (Zm j C (.bool a)) λh=>
 Z0 (Z7 h b bh (d X)) λD=>
 Z0 (Z7 h b bh (ZD D)) λE=>
 Z0 (Z7 h b bh (Z8 6 E)) λF=>
 Z0 (Z7 h b bh (Z8 3 F)) λL=>
 Z0 (Z7 h b bh (Z2 a 1 L H)) λM=>
 Z0 (Zm h M (.bool a)) λg=>
 Z0 (Z7 g b bh (d X)) λt37=>
 Z0 (Z7 g b bh (ZD t37)) λN=>
 Z0 (Z7 g b bh (Z8 0 N)) λR=>
 Z0 (Z7 g b bh (Z2 b 6 R H)) λS=>
 Z0 (Z7 g b bh (d X)) λT=>
 Z0 (Z7 g b bh (ZD T)) λZ=>
 Z0 (Z7 g b bh (Z8 6 Z)) λaa=>
 Z0 (Z7 g b bh (Z2 b 5 aa H)) λab=>
 Z0 (Z7 g b bh (d X)) λac=>
 Z0 (Z7 g b bh (ZD ac)) λad=>
 Z0 (Z7 g b bh (Z8 13 ad)) λae=>
 Z0 (Z7 g b bh (Z2 a 1 ae H)) λaf=>
 Z0 (Z7 g b bh (d P)) λag=>
 Z0 (Z7 g b (bh,H) (Ze WL [S,ab,af,ag] H)) λu=>
 Z0 (Z7 g b bh (Z3 .eql u.1 (Q J 0))) λah=>
 Z0 (Zm g ah (.bool a)) λai=>
 Zl ai
 (WC X Y u.2)
 (JK X P Y u.2):=Z9 [3,6,7]
theorem WW:WC X Y H =
 Z0 (Uu [X] H) λg=>
 Z0 (ZQ g.1 0) λh=>
 Z0 (ZQ g.1 1) λj=>
 Z0 (ZQ g.1 2) λu=>
 Z0 (Xa .not j) λw=>
 Zl w
 (d ((.tuple [(.str []),(.bool a),u]),g.2))
 (JJ X h Y g.2):=(Zw (C:=cfg) [3,6,7] (Zg 0 (Zv 39 f39 Y)) _ _).trans df
theorem Af:TZ X Y H =
 WC X Y H:=Z9 [3,6,7]
theorem O6:Ut [r] H=Pf r H:=Be 61 [3,6,7] func39
def dA:Z4:=bp 60 74 f60 1023 Y [(10,V)] H
def Nv:Z4:=bp 60 74 f60 511 Y [(0,X),(10,V)] H
def GT:KL:=Za (KZ 60 74 f60 511) (Zf cfg 74 60 f60 Y)
theorem mD:ZH 74 (GT Y):=Zq (C:=cfg) (kp:=cfg.keep 60) (br f60 511) (Zv 60 f60 Y)
def dC:Z4:=ZZ 60 74 (br f60 32647) (Z5 3 (Za (XN 60 74 f60 2040) (Z5 2 (GT Y)))) [(0,X),(10,V),(15,U),(16,O)] H
def dB:Z4:=ZZ 60 74 (br f60 16323) (Z5 3 (Za (XN 60 74 f60 2040) (Z5 2 (GT Y)))) [(0,X),(10,V),(15,U),(16,O),(17,x17)] H
def GV:Z4:=G9 60 74 (br f60 2040) (Z5 2 (GT Y)) [(0,X),(10,V),(15,U)] H
def Nu:Z4:=bp 60 74 f60 127 Y [(0,X),(5,P),(6,v),(10,V),(12,W)] H
def GU:KL:=Za (KZ 60 74 f60 127) (Zf cfg 74 60 f60 Y)
theorem mE:ZH 74 (GU Y):=Zq (C:=cfg) (kp:=cfg.keep 60) (br f60 127) (Zv 60 f60 Y)
def dE:Z4:=ZZ 60 74 (br f60 8103) (Za (XN 60 74 f60 1012) (Z5 0 (GU Y))) [(0,X),(5,P),(6,v),(10,V),(12,W),(31,x31),(32,x32),(33,x33)] H
def dD:Z4:=ZZ 60 74 (br f60 4051) (Za (XN 60 74 f60 1012) (Z5 0 (GU Y))) [(0,X),(5,P),(6,v),(10,V),(12,W),(31,x31),(32,x32),(33,x33),(34,x34)] H
def GW:Z4:=G9 60 74 (br f60 1012) (Z5 0 (GU Y)) [(0,X),(5,P),(6,v),(10,V),(12,W),(31,x31),(32,x32),(33,x33)] H
def cZ:Z4:=bp 60 74 f60 31 Y [(0,X),(3,x3),(5,P),(6,v),(10,V)] H
def cY:Z4:=bp 60 74 f60 7 Y [(0,X),(3,x3),(5,P),(6,v)] H
def jI:Z4:=
 Z0 (ZF p1 H) λj=>
 Z0 (ZF p2 j.2) λg=>
 Z0 (YJ (.pointer 85) .eql r .nilp) λh=>
 Zl h
 (d ((.tuple [(.str []),(Q J 5)]),g.2))
 (cY r p3 j.1 g.1 H g.2)
theorem Zd2:dA V Y H =
 d ((.tuple [V,(Q J 0)]),H):=Z9 c9
theorem Zd1:Nv X V Y H =
 Z0 (Vz [X,V] H) λg=>
 Z0 (Z3 .neq g.1 (Q J 0)) λh=>
 Zl h
 (d ((.tuple [(.str []),g.1]),g.2))
 (dA V Y g.2):=Z9 c9
theorem Zd3:dC X V U O Y H =
 Z0 ((Zt 1 [(0,O)] [(.str [])]).map (.vs 1 .clip)) λh=>
 Z0 (Ve [X,V,h] H) λg=>
 Z0 (Z3 .neq g.1 (Q J 0)) λj=>
 Zl j
 (d ((.tuple [(.str []),g.1]),g.2))
 (GV X V U Y g.2):=Z9 c9
theorem Dd:dB X V U O x17 Y H =
 Z0 (Xa .not x17) λg=>
 Zl g
 (Nv X V Y H)
 (dC X V U O Y H):=Z9 c9
theorem De:GV X V U Y H =
 Z0 (Ut [U] H) λg=>
 Z0 (ZQ g.1 0) λj=>
 Z0 (ZQ g.1 1) λu=>
 Z0 (ZQ g.1 2) λh=>
 Z0 (Z3 .neq h (Q J 0)) λw=>
 Zl w
 (d ((.tuple [(.str []),h]),g.2))
 (dB X V U j u Y g.2):=(Zw (C:=cfg) [3,6,9,11,12,16,17,20,23] (Zg 2 (mD Y)) _ _).trans df
theorem Zd0:Nu X P v V W Y H =
 Z0 (Z2 b 6 P H) λh=>
 Z0 (Z2 b 5 v H) λj=>
 Z0 (NI [h,j,W] H) λg=>
 GV X V g.1 Y g.2:=Z9 c9
theorem Zd5:dE X P v V W x31 x32 x33 Y H =
 Z0 (Z3 .add x33 (Q J 1)) λg=>
 GW X P v V W x31 x32 g Y H:=Z9 c9
theorem Zd4:dD X P v V W x31 x32 x33 x34 Y H =
 Z0 (Zj 1 x31 x33) λj=>
 Z0 (Z2 a 1 j H) λu=>
 Z0 (NJ [X,u] H) λg=>
 Z0 ((Zt 1 [(0,g.1)] [.nilp]).map (.vs 1 .clip)) λw=>
 Z0 (ZR 1 8 W w g.2) λh=>
 dE X P v V h.1 x31 x32 x33 Y h.2:=Z9 c9
theorem En:GW X P v V W x31 x32 x33 Y H =
 Z0 (Z3 .lss x33 x32) λg=>
 Zl g
 (dD X P v V W x31 x32 x33 g Y H)
 (Nu X P v V W Y H):=(Zw (C:=cfg) [3,6,9,11,12,16,17,20,23] (Zg 0 (mE Y)) _ _).trans df
theorem ZcZ:cZ X x3 P v V Y H =
 Z0 (Zk (.slice 9) x3) λg=>
 GW X P v V .nils x3 g (Q J 0) Y H:=Z9 c9
theorem ZcY:cY X x3 P v Y H =
 Z0 (VO [X] H) λg=>
 Z0 (ZQ g.1 0) λj=>
 Z0 (ZQ g.1 1) λh=>
 Z0 (Z3 .neq h (Q J 0)) λu=>
 Zl u
 (d ((.tuple [(.str []),h]),g.2))
 (cZ X x3 P v j Y g.2):=Z9 c9
theorem ZeB:MZ [r,p1,p2,p3] H=jI r p1 p2 p3 H:=Be 74 [3,6,9,11,12,16,17,20,23] func60
def P2:Z4:=bp 63 67 f63 511 Y [(13,x13)] H
def P1:Z4:=bp 63 67 f63 127 Y [(1,x1),(5,P)] H
def WD:Z4:=bp 63 67 f63 63 Y [(1,x1),(5,P),(7,x7)] H
def WE:KL:=Za (KZ 63 67 f63 63) (Zf cfg 67 63 f63 Y)
theorem Sg:ZH 67 (WE Y):=Zq (C:=cfg) (kp:=cfg.keep 63) (br f63 63) (Zv 63 f63 Y)
def JL:Z4:=ZZ 63 67 (br f63 4007) (Za (XN 63 67 f63 500) (Z5 0 (WE Y))) [(1,x1),(5,P),(6,v),(7,x7),(20,s),(21,t),(22,x22)] H
def hU:KL:=Za (KZ 63 67 f63 4007) (Za (XN 63 67 f63 500) (Z5 0 (WE Y)))
def P4:Z4:=ZZ 63 67 (br f63 64103) (Z5 1 (hU Y)) [(1,x1),(5,P),(6,v),(7,x7),(8,x8),(10,V),(11,x),(20,s),(21,t),(22,x22)] H
def P3:Z4:=ZZ 63 67 (br f63 2003) (Za (XN 63 67 f63 500) (Z5 0 (WE Y))) [(1,x1),(5,P),(6,v),(7,x7),(20,s),(21,t),(22,x22),(23,x23)] H
def VV:Z4:=G9 63 67 (br f63 500) (Z5 0 (WE Y)) [(1,x1),(5,P),(6,v),(7,x7),(20,s),(21,t),(22,x22)] H
def Pg:Z4:=
 Z0 (ZF r H) λg=>
 Z0 (d ((.ptr g.2.length 0),g.2++[.cells [(.str []),(Q J 0),(.bool a)]])) λj=>
 Z0 (d (.fn (.func 83) [] [g.1])) λu=>
 Z0 (Z2 a 1 g.1 j.2) λw=>
 Z0 (ZD w) λy=>
 Z0 (Z8 12 y) λz=>
 Z0 (Z2 a 1 z j.2) λh=>
 Z0 (Zk (.slice 94) h) λA=>
 VV g.1 j.1 u (Q J 0) h A (Q J 0) H j.2
theorem Aj:P2 x13 Y H =
 d ((.tuple [x13,(.bool b),(Q J 0)]),H):=Z9 cb
theorem Ai:P1 x1 P Y H =
 Z0 (Z2 a 1 x1 H) λj=>
 Z0 (ZD j) λu=>
 Z0 (Z8 12 u) λw=>
 Z0 (Z2 a 1 w H) λy=>
 Z0 (Z8 1 P) λz=>
 Z0 (Z2 a 1 z H) λA=>
 Z0 (Zj 1 y A) λB=>
 Z0 (Z2 a 1 B H) λC=>
 Z0 (G2 [C] H) λg=>
 Z0 (ZQ g.1 0) λD=>
 Z0 (ZQ g.1 1) λF=>
 Z0 (ZQ g.1 2) λh=>
 Z0 (Z3 .neq h (Q J 0)) λE=>
 Zl E
 (d ((.tuple [(.str []),(.bool a),h]),g.2))
 (P2 D Y g.2):=Z9 cb
theorem BD:WD x1 P x7 Y H =
 Z0 (Z3 .neq x7 (Q J 0)) λg=>
 Z0 (Z7 g a bh (Z8 2 P)) λh=>
 Z0 (Z7 g a bh (Z2 a 1 h H)) λj=>
 Z0 (Z7 g a bh (Xa .not j)) λu=>
 Z0 (Zm g (.bool b) u) λw=>
 Zl w
 (d ((.tuple [(.str []),(.bool a),x7]),H))
 (P1 x1 P Y H):=Z9 cb
theorem BF:JL x1 P v x7 s t x22 Y H =
 Z0 (Z3 .add x22 (Q J 1)) λg=>
 VV x1 P v x7 s t g Y H:=Z9 cb
theorem BG:P4 x1 P v x7 x8 V x s t x22 Y H =
 Zl x
 (Z0 (V5 [P,x8,V,v] H) λg=>
 JL x1 P v x7 s t x22 Y g.2)
 (JL x1 P v x7 s t x22 Y H):=Z9 cb
theorem BE:P3 x1 P v x7 s t x22 x23 Y H =
 Z0 (Zj 1 s x22) λj=>
 Z0 (Z2 a 1 j H) λu=>
 Z0 (Vn [u] H) λg=>
 Z0 (ZQ g.1 0) λw=>
 Z0 (ZQ g.1 1) λy=>
 Z0 (ZQ g.1 2) λh=>
 Z0 (Z3 .neq h (Q J 0)) λz=>
 Zl z
 (WD x1 P h Y g.2)
 (P4 x1 P v x7 x22 w y s t x22 Y g.2):=Z9 cb
theorem UP:VV x1 P v x7 s t x22 Y H =
 Z0 (Z3 .lss x22 t) λg=>
 Zl g
 (P3 x1 P v x7 s t x22 g Y H)
 (WD x1 P x7 Y H):=(Zw (C:=cfg) [6,10,12,13,15,18] (Zg 0 (Sg Y)) _ _).trans df
theorem O7:Uu [r] H=Pg r H:=Be 67 [6,10,12,13,15,18] func63
def Rf:Z4:=
 Z0 (Z2 a 1 p2 H) λL=>
 Z0 (ZD L) λM=>
 Z0 (Z8 11 M) λN=>
 Z0 (Z2 a 1 N H) λt9=>
 Z0 (Z7 t9 b bh (Z2 a 1 p2 H)) λh=>
 Z0 (Z7 t9 b bh (ZD h)) λj=>
 Z0 (Z7 t9 b bh (Z8 0 j)) λu=>
 Z0 (Z7 t9 b bh (Z2 b 6 u H)) λw=>
 Z0 (Z7 t9 b bh (Z2 a 1 p2 H)) λy=>
 Z0 (Z7 t9 b bh (ZD y)) λz=>
 Z0 (Z7 t9 b bh (Z8 6 z)) λA=>
 Z0 (Z7 t9 b bh (Z2 b 5 A H)) λB=>
 Z0 (Z7 t9 b bh (d r)) λC=>
 Z0 (Z7 t9 b bh (d p1)) λD=>
 Z0 (Z7 t9 b (bh,H) (Ze UZ [w,B,C,D] H)) λg=>
 Z0 (Z7 t9 b bh (Z3 .lss g.1 (Q J 0))) λE=>
 Z0 (Zm t9 E (.bool a)) λF=>
 d (F,g.2)
theorem SV:QY [r,p1,p2] H=Rf r p1 p2 H:=Be 24 [] func83
def PB:Z4:=bp 84 68 f84 31 Y [(0,X)] H
def UE:Z4:=bp 84 68 f84 15 Y [(0,X)] H
def PA:Z4:=bp 84 68 f84 7 Y [(0,X)] H
def G7:Z4:=
 Z0 (YJ (.pointer 119) .eql r .nilp) λt9=>
 Zl t9
 (d ((.tuple [(.str []),(.bool a),(Q J 5)]),H))
 (PA r H H)
theorem F2:PB X Y H =
 Z0 (ZD X) λg=>
 Z0 (Z8 5 g) λh=>
 Z0 (Z2 a 1 h H) λj=>
 d ((.tuple [j,(.bool b),(Q J 0)]),H):=Z9 [3,11,13]
theorem Xe:UE X Y H =
 Z0 (ZD X) λg=>
 Z0 (Z8 3 g) λh=>
 Z0 (Z2 a 1 h H) λj=>
 Z0 (Xa .not j) λu=>
 Zl u
 (d ((.tuple [(.str []),(.bool a),(Q J 0)]),H))
 (PB X Y H):=Z9 [3,11,13]
theorem Xd:PA X Y H =
 Z0 (ZD X) λA=>
 Z0 (Z8 3 A) λB=>
 Z0 (Z2 a 1 B H) λC=>
 Z0 (Xa .not C) λh=>
 Z0 (Z7 h b bh (d X)) λD=>
 Z0 (Z7 h b bh (ZD D)) λE=>
 Z0 (Z7 h b bh (Z8 4 E)) λF=>
 Z0 (Z7 h b bh (Z2 a 1 F H)) λL=>
 Z0 (Z7 h b bh (Xa .not L)) λM=>
 Z0 (Zm h M (.bool a)) λN=>
 Zl N
 (Z0 (ZD X) λR=>
 Z0 (Z8 0 R) λS=>
 Z0 (Z2 a 1 S H) λT=>
 Z0 (ZD X) λZ=>
 Z0 (Z8 1 Z) λaa=>
 Z0 (Z2 a 1 aa H) λab=>
 Z0 (ZD X) λac=>
 Z0 (Z8 2 ac) λad=>
 Z0 (Z2 a 1 ad H) λae=>
 Z0 (Vy [T,ab,ae] H) λg=>
 Z0 (ZQ g.1 0) λaf=>
 Z0 (ZQ g.1 1) λt37=>
 Z0 (ZQ g.1 2) λj=>
 Z0 (Z3 .eql j (Q J 0)) λag=>
 Zl ag
 (Z0 (ZD X) λah=>
 Z0 (Z8 5 ah) λai=>
 Z0 (Zc 1 ai af g.2) λu=>
 Z0 (ZD X) λaj=>
 Z0 (Z8 2 aj) λak=>
 Z0 (Zc 1 ak t37 u.2) λw=>
 Z0 (ZD X) λal=>
 Z0 (Z8 3 al) λam=>
 Z0 (Zc 1 am (.bool b) w.2) λy=>
 UE X Y y.2)
 (Z0 (Z3 .eql j (Q J 5)) λan=>
 Zl an
 (Z0 (ZD X) λao=>
 Z0 (Z8 4 ao) λap=>
 Z0 (Zc 1 ap (.bool b) g.2) λz=>
 UE X Y z.2)
 (d ((.tuple [(.str []),(.bool a),j]),g.2))))
 (UE X Y H):=Z9 [3,11,13]
theorem Rg:Vn [r] H=G7 r H:=Be 68 [3,11,13] func84
def J0:Z4:=
 Z0 (ZD r) λt9=>
 Z0 (Z8 2 t9) λu=>
 Z0 (Z2 a 1 u H) λw=>
 Z0 (Xa .not w) λg=>
 Z0 (Z7 g a bh (d p3)) λy=>
 Z0 (Z7 g a bh (d p2)) λz=>
 Z0 (Z7 g a bh (d r)) λA=>
 Z0 (Z7 g a bh (ZD A)) λB=>
 Z0 (Z7 g a bh (Z8 0 B)) λC=>
 Z0 (Z7 g a bh (Z2 a 1 C H)) λD=>
 Z0 (Z7 g a (bh,H) (Yu cfg (Zb cfg) y [z,D] H)) λh=>
 Z0 (Zm g (.bool b) h.1) λE=>
 Zl E
 (Z0 ((Yq [(0,1,p2),(1,1,p1),(2,1,(.bool b))] [(.str []),(Q J 0),(.bool a)]).map .agg) λF=>
 Z0 (ZD r) λL=>
 Z0 (Zc 3 L F h.2) λj=>
 d (bh,j.2))
 (d (bh,h.2))
theorem RC:V5 [r,p1,p2,p3] H=J0 r p1 p2 p3 H:=Be 27 [] func85
def Kx:Z4:=bp 86 24 f86 15 Y [(5,P),(6,v),(7,x7)] H
def Mt:Z4:=
 Z0 (Vn [r] H) λg=>
 Z0 (ZQ g.1 0) λu=>
 Z0 (ZQ g.1 1) λh=>
 Z0 (ZQ g.1 2) λw=>
 Zl h
 (Z0 (ZD r) λz=>
 Z0 (Z8 3 z) λA=>
 Z0 (Zc 1 A (.bool a) g.2) λy=>
 Z0 (ZD r) λB=>
 Z0 (Z8 5 B) λC=>
 Z0 (Zc 1 C (.str []) y.2) λj=>
 Kx u h w H j.2)
 (Kx u h w H g.2)
theorem F1:Kx P v x7 Y H =
 d ((.tuple [P,v,x7]),H):=Z9 [4]
theorem aP:G2 [r] H=Mt r H:=Be 24 [4] func86
end
end Go.Am
