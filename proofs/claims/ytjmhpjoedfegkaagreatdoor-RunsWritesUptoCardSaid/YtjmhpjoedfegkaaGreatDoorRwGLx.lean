/- awake of chapter 22 and the O6 -/
import Derived.Test.YtjmhpjoedfegkaaGreatDoorRwGx
open Option renaming some->b
open Bool renaming true->c,false->a
open Go.Proofs.Tryz
open Go.Am.AV renaming int->Q
open Go.IntKind renaming i64->J
namespace Go.Am
open Go.Proofs
set_option maxRecDepth 100000
noncomputable abbrev T7 (f n:Nat):=Y7 cfg (Za cfg) (ZT cfg (cfg.keep f) n) (cfg.keep f) n Zc Z7
noncomputable abbrev Zvq (f n:Nat):=ZT cfg (cfg.keep f) n
noncomputable section
abbrev Zvp (f n:Nat)(F:Func)(p:Nat):KL->AL->Hp->Z3:=λk h H=>T7 f n (sub (Z1 F) (dx p)) k (Y3 (cfg.keep f) (sub (Z1 F) (dx p)) h) H
abbrev Zme (f n:Nat)(F:Func)(p:Nat):KL->AL->Hp->Z3:=λk h H=>Zvq f n (sub (Z1 F) (dx p)) k (Y3 (cfg.keep f) (sub (Z1 F) (dx p)) h) H
variable (r p1 p2 p3 p4 x0 x2 X o x v t s q W V U O I:AV)(Y H:Hp)
noncomputable abbrev c9 (f n:Nat)(F:Func)(p:Nat)(G:Hp):=λk K=>T7 f n (sub (Z1 F) (dx p)) (Zd cfg n f F G) k K
abbrev ce:dv:=[3,8,14,17,19,20,22]
def Eu:Z3:=c9 3 153 f3 32767 Y [] H
def QX:KL:=Zc (Zvp 3 153 f3 32767) (Zd cfg 153 3 f3 Y)
theorem OP:ZV 153 (QX Y):=Zv (C:=cfg) (kp:=cfg.keep 3) (sub (Z1 f3) [1,1,1,1,1,1,1,1,1,1,1,1,1,1]) (Zy 3 f3 Y)
def Ew:Z3:=T7 3 153 (sub (Z1 f3) [1,1,1,1,1,1,1,1,1,1,1,1,1,0,1,0,0,1,1]) (Zc (Zme 3 153 f3 262132) (Z7 0 (QX Y))) [(3,X),(5,x),(6,v),(7,t),(9,s),(11,W),(12,V),(13,U),(14,O),(15,I)] H
def Ev:Z3:=T7 3 153 (sub (Z1 f3) [1,1,1,1,1,1,1,1,1,1,1,1,1,0,1,0,0,1]) (Zc (Zme 3 153 f3 262132) (Z7 0 (QX Y))) [(3,X),(5,x),(6,v),(7,t),(9,s),(11,W),(12,V),(13,U),(14,O),(15,I)] H
def VO:Z3:=Zvq 3 153 (sub (Z1 f3) [1,1,1,1,1,1,1,1,1,1,1,1,1,0,1,0,0]) (Z7 0 (QX Y)) [(3,X),(5,x),(6,v),(7,t),(9,s),(11,W),(12,V),(13,U),(14,O),(15,I)] H
def Et:Z3:=c9 3 153 f3 16383 Y [(3,X),(5,x),(6,v),(7,t),(9,s),(11,W),(12,V),(13,U),(14,O)] H
def Es:Z3:=c9 3 153 f3 4095 Y [(3,X),(5,x),(6,v),(7,t),(9,s),(11,W),(12,V)] H
def Er:Z3:=c9 3 153 f3 127 Y [(2,x2),(3,X),(5,x),(6,v),(7,t),(9,s)] H
def Ep:Z3:=c9 3 153 f3 7 Y [(2,x2),(3,X)] H
def Ct:Z3:=
 Z0 (ZY r H) λP=>
 Z0 (ZY p1 P.2) λy=>
 Z0 (Z6 5 y.1) λA=>
 Z0 (Z4 a 1 A y.2) λB=>
 Z0 (Ze OD [B] y.2) λu=>
 Z0 (YU .not u.1) λh=>
 Z0 (Z8 h a (.tuple []) (Z6 0 y.1)) λC=>
 Z0 (Z8 h a (.tuple []) (Z4 c 5 C u.2)) λD=>
 Z0 (Z8 h a ((.tuple []),u.2) (Ze OB [D] u.2)) λw=>
 Z0 (Z8 h a (.tuple []) (YU .not w.1)) λE=>
 Z0 (Zm h (.bool c) E) λj=>
 Z0 (Z8 j a (.tuple []) (Z6 6 y.1)) λF=>
 Z0 (Z8 j a (.tuple []) (Z4 a 1 F w.2)) λG=>
 Z0 (Z8 j a (.tuple []) (Zf (.slice 67) G)) λL=>
 Z0 (Z8 j a (.tuple []) (Z2 .gtr L (Q J 40))) λM=>
 Z0 (Zm j (.bool c) M) λN=>
 Zh N
 (Z0 (Ze DQ [] w.2) λz=>
 b (z.1,z.2))
 (Ep P.1 y.1 H w.2)
theorem Tp:Eu Y H =
 Z0 (Ze DQ [] H) λh=>
 b (h.1,h.2):=Z9 ce
theorem gB:Ew X x v t s W V U O I Y H =
 Z0 (Z2 .add I (Q J 1)) λh=>
 VO X x v t s W V U O h Y H:=Z9 ce
theorem Tq:Ev X x v t s W V U O I Y H =
 XN X H λz3 A=>
 Z0 (Z6 6 z3) λB=>
 Z0 (Z4 a 1 B A) λC=>
 Z0 (Zr 3 C I) λD=>
 Z0 (Z4 c 3 D A) λE=>
 Z0 (ZeM [x,t,U,W,E] A) λz=>
 Z0 (Z6 6 z3) λF=>
 Z0 (Xy a 1 F) λG=>
 Z0 (Zr 3 G I) λL=>
 Z0 (Xy c 3 L) λM=>
 Z0 (OC [v,s,O,V,M] z.2) λj=>
 Z0 (Qg Tryz.prog cfg.eqok .neq 63 z.1 j.1) λh=>
 Z0 (Z8 h a (.tuple []) (b x)) λN=>
 Z0 (Z8 h a ((.tuple []),j.2) (Ve Xw [N] j.2)) λu=>
 Z0 (Z8 h a (.tuple []) (b v)) λP=>
 Z0 (Z8 h a ((.tuple []),u.2) (Ve Xv [P] u.2)) λw=>
 Z0 (Z8 h a ((.tuple []),w.2) (Ze Gm [u.1,w.1] w.2)) λy=>
 Z0 (Z8 h a (.tuple []) (YU .not y.1)) λR=>
 Z0 (Zm h (.bool c) R) λS=>
 Zh S
 (b ((.bool a),y.2))
 (Ew z3 x v t s W V U O I Y y.2):=Z9 ce
theorem Wz:VO X x v t s W V U O I Y H =
 Z0 (Z6 6 X) λh=>
 Z0 (Z4 a 1 h H) λj=>
 Z0 (Zf (.slice 67) j) λu=>
 Z0 (Z2 .lss I u) λw=>
 Zh w
 (Ev X x v t s W V U O I Y H)
 (Eu Y H):=(ZC (C:=cfg) [3,8,14,17,19,20,22] (Zo 0 (OP Y)) _ _).trans dz
theorem gA:Et X x v t s W V U O Y H =
 VO X x v t s W V U O (Q J 0) Y H:=Z9 ce
theorem fY:Es X x v t s W V Y H =
 Z0 (Ma [t,W] H) λh=>
 Z0 (fG [s,V] h.2) λj=>
 Z0 (Y5 (.pointer 104) .eql h.1 .nilp) λu=>
 Zh u
 (b ((.bool a),j.2))
 (Et X x v t s W V h.1 j.1 Y j.2):=Z9 ce
theorem fW:Er x2 X x v t s Y H =
 Z0 (Z6 2 x2) λR=>
 Z0 (Z4 a 1 R H) λS=>
 Z0 (WT [x,S] H) λD=>
 Z0 (Z6 2 x2) λT=>
 Z0 (Z4 a 1 T D.2) λt70=>
 Z0 (Vw [v,t70] D.2) λP=>
 Z0 (Ze Q0 [] P.2) λy=>
 Z0 (Z6 0 X) λZ=>
 Z0 (Z4 c 5 Z y.2) λaa=>
 Z0 (Z6 5 X) λab=>
 Z0 (Z4 a 1 ab y.2) λac=>
 Z0 (GO [t,y.1,aa,ac] y.2) λC=>
 Z0 (ZK C.1 0) λM=>
 Z0 (ZK C.1 1) λad=>
 Z0 (Ze Q0 [] C.2) λz=>
 Z0 (Z6 0 X) λae=>
 Z0 (Z4 c 5 ae z.2) λaf=>
 Z0 (Z6 5 X) λag=>
 Z0 (Z4 a 1 ag z.2) λah=>
 Z0 (OG [s,z.1,af,ah] z.2) λA=>
 Z0 (ZK A.1 0) λN=>
 Z0 (ZK A.1 1) λai=>
 Z0 (Y1 .neq M N) λB=>
 Z0 (Z8 B a (.tuple []) (b ad)) λaj=>
 Z0 (Z8 B a (.tuple []) (b ai)) λak=>
 Z0 (Z8 B a (.tuple []) (Z2 .neq aj ak)) λal=>
 Z0 (Zm B (.bool c) al) λh=>
 Z0 (Z8 h a (.tuple []) (b x)) λE=>
 Z0 (Z8 h a ((.tuple []),A.2) (Ve Xw [E] A.2)) λj=>
 Z0 (Z8 h a (.tuple []) (b v)) λF=>
 Z0 (Z8 h a ((.tuple []),j.2) (Ve Xv [F] j.2)) λu=>
 Z0 (Z8 h a ((.tuple []),u.2) (Ze Gm [j.1,u.1] u.2)) λw=>
 Z0 (Z8 h a (.tuple []) (YU .not w.1)) λG=>
 Z0 (Zm h (.bool c) G) λL=>
 Zh L
 (b ((.bool a),w.2))
 (Es X x v t s M N Y w.2):=Z9 ce
theorem fV:Ep x2 X Y H =
 XN x2 H λC D=>
 Z0 (Z6 0 C) λE=>
 Z0 (Z4 a 1 E D) λF=>
 Z0 (Mb [F] D) λw=>
 Z0 (Z6 0 C) λG=>
 Z0 (Xy a 1 G) λt37=>
 Z0 (pY [t37] w.2) λh=>
 Z0 (Z6 1 C) λL=>
 Z0 (Z4 a 1 L h.2) λM=>
 Z0 (VB [w.1,(.str [97]),M] h.2) λj=>
 Z0 (ZK j.1 0) λA=>
 Z0 (ZK j.1 1) λN=>
 Z0 (Z6 1 C) λP=>
 Z0 (Z4 a 1 P j.2) λR=>
 Z0 (Sw [h.1,(.str [97]),R] j.2) λu=>
 Z0 (ZK u.1 0) λB=>
 Z0 (ZK u.1 1) λS=>
 Z0 (Z2 .neq N S) λy=>
 Z0 (Z8 y a (.tuple []) (b A)) λT=>
 Z0 (Z8 y a (.tuple []) (Y5 (.pointer 87) .eql T .nilp)) λZ=>
 Z0 (Zm y (.bool c) Z) λz=>
 Z0 (Z8 z a (.tuple []) (b B)) λaa=>
 Z0 (Z8 z a (.tuple []) (Y5 (.pointer 90) .eql aa .nilp)) λab=>
 Z0 (Zm z (.bool c) ab) λac=>
 Zh ac
 (b ((.bool a),u.2))
 (Er C X w.1 h.1 A B Y u.2):=Z9 ce
theorem nM:Cg [r,p1] H=Ct r p1 H:=Be 153 [3,8,14,17,19,20,22] func3
def Zaj:Z3:=c9 4 30 f4 15 Y [(3,X)] H
def B1:KL:=Zc (Zvp 4 30 f4 15) (Zd cfg 30 4 f4 Y)
theorem ZcZ:ZV 30 (B1 Y):=Zv (C:=cfg) (kp:=cfg.keep 4) (sub (Z1 f4) [1,1,1]) (Zy 4 f4 Y)
def Zal:Z3:=T7 4 30 (sub (Z1 f4) [1,1,0,1,0,0,1,1]) (Zc (Zme 4 30 f4 116) (Z7 0 (B1 Y))) [(0,x0),(3,X),(4,o)] H
def Zmd:KL:=Zc (Zvp 4 30 f4 467) (Zc (Zme 4 30 f4 116) (Z7 0 (B1 Y)))
def Zam:Z3:=T7 4 30 (sub (Z1 f4) [1,1,0,1,0,0,1,0,0,1]) (Z7 1 (Zmd Y)) [(0,x0),(3,X),(4,o)] H
def Zak:Z3:=T7 4 30 (sub (Z1 f4) [1,1,0,1,0,0,1]) (Zc (Zme 4 30 f4 116) (Z7 0 (B1 Y))) [(0,x0),(3,X),(4,o)] H
def Tr:Z3:=Zvq 4 30 (sub (Z1 f4) [1,1,0,1,0,0]) (Z7 0 (B1 Y)) [(0,x0),(3,X),(4,o)] H
def ZdD:Z3:=
 Tr r (Q J 0) (Q J 0) H H
theorem ZgD:Zaj X Y H =
 Z0 (Z2 .leq X (Q J 5000)) λh=>
 b (h,H):=Z9 [4,5,7,8]
theorem ZgF:Zal x0 X o Y H =
 Z0 (Z2 .add o (Q J 1)) λh=>
 Tr x0 X h Y H:=Z9 [4,5,7,8]
theorem ZgG:Zam x0 X o Y H =
 Z0 (Zr 1 x0 o) λh=>
 Z0 (Z4 a 1 h H) λj=>
 Z0 (Zf .string j) λu=>
 Z0 (Z2 .add X u) λw=>
 Zal x0 w o Y H:=Z9 [4,5,7,8]
theorem ZgE:Zak x0 X o Y H =
 Z0 (Z2 .geq o (Q J 12)) λh=>
 Z0 (Z8 h a (.tuple []) (b x0)) λj=>
 Z0 (Z8 h a (.tuple []) (b o)) λu=>
 Z0 (Z8 h a (.tuple []) (Zr 1 j u)) λw=>
 Z0 (Z8 h a (.tuple []) (Z4 a 1 w H)) λy=>
 Z0 (Z8 h a (.tuple []) (Zf .string y)) λz=>
 Z0 (Z8 h a (.tuple []) (Z2 .gtr z (Q J 5000))) λA=>
 Z0 (Zm h (.bool c) A) λB=>
 Zh B
 (b ((.bool a),H))
 (Zam x0 X o Y H):=Z9 [4,5,7,8]
theorem IA:Tr x0 X o Y H =
 Z0 (Zf (.slice 9) x0) λh=>
 Z0 (Z2 .lss o h) λj=>
 Zh j
 (Zak x0 X o Y H)
 (Zaj X Y H):=(ZC (C:=cfg) [4,5,7,8] (Zo 0 (ZcZ Y)) _ _).trans dz
theorem Zj1:OD [r] H=ZdD r H:=Be 30 [4,5,7,8] func4
def ZdB:Z3:=
 Z0 (ZY r H) λh=>
 Z0 (Z6 0 h.1) λt3=>
 Z0 (Z4 a 1 t3 h.2) λt4=>
 Z0 (Zf (.slice 142) t4) λt5=>
 Z0 (Z2 .leq t5 (Q J 4)) λj=>
 b (j,h.2)
theorem ZiZ:OB [r] H=ZdB r H:=Be 7 [] func5
def MS:Z3:=c9 21 62 f21 7 Y [(10,q)] H
def Zm4:Z3:=
 Z0 (ZY p4 H) λD=>
 Z0 (b ((.ptr D.2.length 0),D.2++[.cells [(.str []),(.bool a),(Q J 0)]])) λh=>
 Z0 (Z6 0 D.1) λG=>
 Z0 (Z4 a 1 G h.2) λj=>
 Z0 (Z2 .eql j (Q J 0)) λL=>
 Zh L
 (Z0 (Wj [p2] h.2) λw=>
 Z0 (ZK w.1 0) λM=>
 Z0 (ZK w.1 1) λN=>
 Z0 (ZK w.1 2) λP=>
 Z0 ((Yb [(0,1,M),(1,1,N),(2,1,P)] [(.str []),(.bool a),(Q J 0)]).map .agg) λR=>
 Z0 (Zg 3 h.1 R w.2) λz=>
 Z0 (Z4 c 3 h.1 z.2) λu=>
 b (u,z.2))
 (Z0 (Z2 .eql j (Q J 1)) λS=>
 Zh S
 (Z0 (Vo [p2] h.2) λy=>
 Z0 (ZK y.1 0) λT=>
 Z0 (ZK y.1 1) λt37=>
 Z0 (ZK y.1 2) λZ=>
 Z0 ((Yb [(0,1,T),(1,1,t37),(2,1,Z)] [(.str []),(.bool a),(Q J 0)]).map .agg) λaa=>
 Z0 (Zg 3 h.1 aa y.2) λA=>
 Z0 (Z4 c 3 h.1 A.2) λu=>
 b (u,A.2))
 (Z0 (Z2 .eql j (Q J 2)) λab=>
 Zh ab
 (Z0 (Z6 1 D.1) λac=>
 Z0 (Z4 a 1 ac h.2) λad=>
 Z0 (WT [r,ad] h.2) λE=>
 MS h.1 H E.2)
 (Z0 (Z2 .eql j (Q J 3)) λae=>
 Zh ae
 (Z0 (Z6 2 D.1) λaf=>
 Z0 (Z4 a 1 af h.2) λag=>
 Z0 (Jn [r,ag] h.2) λF=>
 MS h.1 H F.2)
 (Z0 (Z2 .eql j (Q J 4)) λah=>
 Zh ah
 (Z0 (YM [p1,p3] h.2) λC=>
 Z0 ((Yb [(2,1,C.1)] [(.str []),(.bool a),(Q J 0)]).map .agg) λai=>
 Z0 (Zg 3 h.1 ai C.2) λB=>
 Z0 (Z4 c 3 h.1 B.2) λu=>
 b (u,B.2))
 (MS h.1 H h.2)))))
theorem Zmc:MS q Y H =
 Z0 (b (.agg [(.str []),(.bool a),(Q J 0)])) λj=>
 Z0 (Zg 3 q j H) λh=>
 Z0 (Z4 c 3 q h.2) λu=>
 b (u,h.2):=Z9 [14]
theorem Zo7:ZeM [r,p1,p2,p3,p4] H=Zm4 r p1 p2 p3 p4 H:=Be 62 [14] func21
def GZ:Z3:=c9 22 62 f22 7 Y [(10,q)] H
def ZdC:Z3:=
 Z0 (ZY p4 H) λD=>
 Z0 (b ((.ptr D.2.length 0),D.2++[.cells [(.str []),(.bool a),(Q J 0)]])) λh=>
 Z0 (Z6 0 D.1) λG=>
 Z0 (Z4 a 1 G h.2) λj=>
 Z0 (Z2 .eql j (Q J 0)) λL=>
 Zh L
 (Z0 (QU [p2] h.2) λw=>
 Z0 (ZK w.1 0) λM=>
 Z0 (ZK w.1 1) λN=>
 Z0 (ZK w.1 2) λP=>
 Z0 ((Yb [(0,1,M),(1,1,N),(2,1,P)] [(.str []),(.bool a),(Q J 0)]).map .agg) λR=>
 Z0 (Zg 3 h.1 R w.2) λz=>
 Z0 (Z4 c 3 h.1 z.2) λu=>
 b (u,z.2))
 (Z0 (Z2 .eql j (Q J 1)) λS=>
 Zh S
 (Z0 (Do [p2] h.2) λy=>
 Z0 (ZK y.1 0) λT=>
 Z0 (ZK y.1 1) λt37=>
 Z0 (ZK y.1 2) λZ=>
 Z0 ((Yb [(0,1,T),(1,1,t37),(2,1,Z)] [(.str []),(.bool a),(Q J 0)]).map .agg) λaa=>
 Z0 (Zg 3 h.1 aa y.2) λA=>
 Z0 (Z4 c 3 h.1 A.2) λu=>
 b (u,A.2))
 (Z0 (Z2 .eql j (Q J 2)) λab=>
 Zh ab
 (Z0 (Z6 1 D.1) λac=>
 Z0 (Z4 a 1 ac h.2) λad=>
 Z0 (Vw [r,ad] h.2) λE=>
 GZ h.1 H E.2)
 (Z0 (Z2 .eql j (Q J 3)) λae=>
 Zh ae
 (Z0 (Z6 2 D.1) λaf=>
 Z0 (Z4 a 1 af h.2) λag=>
 Z0 (UH [r,ag] h.2) λF=>
 GZ h.1 H F.2)
 (Z0 (Z2 .eql j (Q J 4)) λah=>
 Zh ah
 (Z0 (Wh [p1,p3] h.2) λC=>
 Z0 ((Yb [(2,1,C.1)] [(.str []),(.bool a),(Q J 0)]).map .agg) λai=>
 Z0 (Zg 3 h.1 ai C.2) λB=>
 Z0 (Z4 c 3 h.1 B.2) λu=>
 b (u,B.2))
 (GZ h.1 H h.2)))))
theorem ZgC:GZ q Y H =
 Z0 (b (.agg [(.str []),(.bool a),(Q J 0)])) λj=>
 Z0 (Zg 3 q j H) λh=>
 Z0 (Z4 c 3 q h.2) λu=>
 b (u,h.2):=Z9 [14]
theorem Zj0:OC [r,p1,p2,p3,p4] H=ZdC r p1 p2 p3 p4 H:=Be 62 [14] func22
end
end Go.Am
