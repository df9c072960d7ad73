/- The functions of the translation over the abstract machine -/
import Derived.Test.YtjmhpjoedfegkaaGreatDoorRwGx
open Option renaming some->b,none->d
open Bool renaming true->c,false->a
open Go.Proofs.Tryz
open Go.Am.AV renaming int->Q
open Go.IntKind renaming i64->J
namespace Go.Am
open Go.Proofs
set_option maxRecDepth 100000
noncomputable abbrev Y8 (f n:Nat):=Y7 cfg (Za cfg) (ZT cfg (cfg.keep f) n) (cfg.keep f) n Zc Z7
noncomputable abbrev Ly (f n:Nat):=ZT cfg (cfg.keep f) n
noncomputable section
abbrev Cf (f n:Nat)(F:Func)(p:Nat):KL->AL->Hp->Z3:=λk h H=>Y8 f n (sub (Z1 F) (dx p)) k (Y3 (cfg.keep f) (sub (Z1 F) (dx p)) h) H
abbrev Us (f n:Nat)(F:Func)(p:Nat):KL->AL->Hp->Z3:=λk h H=>Ly f n (sub (Z1 F) (dx p)) k (Y3 (cfg.keep f) (sub (Z1 F) (dx p)) h) H
variable (W x p2 p3 X V s r x4 x5 o I v x9 U O t x13 x18 x19 q x21 x22 x23 x24:AV)(Y H:Hp)
abbrev bh (F:Func)(p:Nat):=sub (Z1 F) (dx p)
abbrev bi:dv:=[3,5,7,11,12]
abbrev bj:dv:=[3,6,9,11,13]
def ZdT:Z3:=
 Z0 (K9 W (Q J 0)) λt4=>
 Z0 (WU t4 (Q J 262144)) λt5=>
 Z0 (b ((.map H.length),H++[.map [] 0])) λh=>
 Z0 ((Yb [(0,1,t5),(3,1,h.1)] [(Q J 0),(Q J 0),(Q J 0),.nilm,(.bool a),(Q J 0)]).map .agg) λu=>
 Z0 (ZY u h.2) λj=>
 b (j.1,j.2)
theorem Zji:Mb [W] H=ZdT W H:=Be 9 [] func7
noncomputable abbrev bg (f n:Nat)(F:Func)(p:Nat)(G:Hp):=λk K=>Y8 f n (sub (Z1 F) (dx p)) (Zd cfg n f F G) k K
def KF:Z3:=bg 9 39 f9 31 Y [(0,X),(1,V),(2,s)] H
def KG:KL:=Zc (Cf 9 39 f9 31) (Zd cfg 39 9 f9 Y)
theorem eZ:ZV 39 (KG Y):=Zv (C:=cfg) (kp:=cfg.keep 9) (bh f9 31) (Zy 9 f9 Y)
def AS:Z3:=Y8 9 39 (bh f9 1959) (Zc (Us 9 39 f9 244) (Z7 0 (KG Y))) [(0,X),(1,V),(2,s),(18,x18),(19,x19),(20,q)] H
def AR:Z3:=Y8 9 39 (bh f9 979) (Zc (Us 9 39 f9 244) (Z7 0 (KG Y))) [(0,X),(1,V),(2,s),(18,x18),(19,x19),(20,q),(21,x21)] H
def KH:Z3:=Ly 9 39 (bh f9 244) (Z7 0 (KG Y)) [(0,X),(1,V),(2,s),(18,x18),(19,x19),(20,q)] H
def AQ:Z3:=bg 9 39 f9 15 Y [(0,X),(1,V),(2,s)] H
def AP:Z3:=bg 9 39 f9 7 Y [(0,X),(1,V),(2,s)] H
def To:Z3:=
 Z0 (Y5 (.pointer 76) .eql W .nilp) λh=>
 Zh h
 (b ((.tuple [.nilp,(Q J 5)]),H))
 (AP W x p2 H H)
theorem Ns:KF X V s Y H =
 Z0 (b ((.map H.length),H++[.map [] 0])) λh=>
 Z0 ((Yb [(0,1,X),(1,1,V),(3,1,h.1)] [.nilp,(.str []),.nils,.nilm]).map .agg) λu=>
 Z0 (K9 (Q J 0) s) λw=>
 Z0 ((Yb [(0,4,u),(4,1,w)] [.nilp,(.str []),.nils,.nilm,(Q J 0),(Q J 0),(.bool a)]).map .agg) λt37=>
 Z0 (ZY t37 h.2) λj=>
 b ((.tuple [j.1,(Q J 0)]),j.2):=Z9 bi
theorem pX:AS X V s x18 x19 q Y H =
 Z0 (Z2 .add q (Q J 1)) λh=>
 KH X V s x18 x19 h Y H:=Z9 bi
theorem Nt:AR X V s x18 x19 q x21 Y H =
 Z0 (Zr 1 x18 q) λj=>
 Z0 (Z4 a 1 j H) λu=>
 Z0 (VR [X,u] H) λh=>
 Z0 (Z2 .neq h.1 (Q J 0)) λw=>
 Zh w
 (b ((.tuple [.nilp,h.1]),h.2))
 (AS X V s x18 x19 q Y h.2):=Z9 bi
theorem Gk:KH X V s x18 x19 q Y H =
 Z0 (Z2 .lss q x19) λh=>
 Zh h
 (AR X V s x18 x19 q h Y H)
 (KF X V s Y H):=(ZC (C:=cfg) [3,5,7,11,12] (Zo 0 (eZ Y)) _ _).trans dz
theorem Gj:AQ X V s Y H =
 Z0 (Ve Qc [X,V] H) λh=>
 Z0 (Zf (.slice 9) h.1) λj=>
 KH X V s h.1 j (Q J 0) Y h.2:=Z9 bi
theorem UT:AP X V s Y H =
 Z0 (Ze Uq [V] H) λh=>
 Z0 (YU .not h.1) λj=>
 Zh j
 (b ((.tuple [.nilp,(Q J 4)]),h.2))
 (AQ X V s Y h.2):=Z9 bi
theorem MR:VB [W,x,p2] H=To W x p2 H:=Be 39 [3,5,7,11,12] func9
def D5:Z3:=
 Z0 (Y5 (.pointer 76) .neq W .nilp) λt5=>
 Z0 (Z8 t5 c bf (b W)) λB=>
 Z0 (Z8 t5 c bf (Zw B)) λC=>
 Z0 (Z8 t5 c bf (Z6 4 C)) λt9=>
 Z0 (Z8 t5 c bf (Z4 a 1 t9 H)) λj=>
 Z0 (Z8 t5 c bf (YU .not j)) λu=>
 Z0 (Zm t5 u (.bool a)) λw=>
 Zh w
 (Z0 (K9 x (Q J 0)) λy=>
 Z0 (Zw W) λz=>
 Z0 (Z6 5 z) λA=>
 Z0 (Zg 1 A y H) λh=>
 b (bf,h.2))
 (b (bf,H))
theorem Lx:WT [W,x] H=D5 W x H:=Be 18 [] func11
def Nh:Z3:=bg 17 38 f17 31 Y [(3,r)] H
def UQ:KL:=Zc (Cf 17 38 f17 31) (Zd cfg 38 17 f17 Y)
theorem AK:ZV 38 (UQ Y):=Zv (C:=cfg) (kp:=cfg.keep 17) (bh f17 31) (Zy 17 f17 Y)
def Nj:Z3:=Y8 17 38 (bh f17 1959) (Zc (Us 17 38 f17 244) (Z7 0 (UQ Y))) [(0,X),(3,r),(10,U),(11,O),(12,t)] H
def Ni:Z3:=Y8 17 38 (bh f17 979) (Zc (Us 17 38 f17 244) (Z7 0 (UQ Y))) [(0,X),(3,r),(10,U),(11,O),(12,t),(13,x13)] H
def UR:Z3:=Ly 17 38 (bh f17 244) (Z7 0 (UQ Y)) [(0,X),(3,r),(10,U),(11,O),(12,t)] H
def Ng:Z3:=bg 17 38 f17 7 Y [(0,X)] H
def MM:Z3:=
 Z0 (Y5 (.pointer 76) .eql W .nilp) λh=>
 Zh h
 (b (.nils,H))
 (Ng W H H)
theorem bD:Nh r Y H =
 b (r,H):=Z9 [3,6,9,10]
theorem bF:Nj X r U O t Y H =
 Z0 (Z2 .add t (Q J 1)) λh=>
 UR X r U O h Y H:=Z9 [3,6,9,10]
theorem bE:Ni X r U O t x13 Y H =
 Z0 (Zr 1 U t) λw=>
 Z0 (Z4 a 1 w H) λj=>
 Z0 (Zw X) λy=>
 Z0 (Z6 3 y) λz=>
 Z0 (Z4 a 1 z H) λA=>
 Z0 (Yj .string .nilp a A j H) λu=>
 Z0 (Zw u) λB=>
 Z0 (Z6 0 B) λC=>
 Z0 (Z4 a 1 C H) λD=>
 Z0 (Zf (.slice 5) D) λE=>
 Z0 (Zw u) λF=>
 Z0 (Z6 1 F) λG=>
 Z0 (Z4 a 1 G H) λL=>
 Z0 ((Yb [(0,1,j),(1,1,E),(2,1,L)] [(.str []),(Q J 0),(Q J 0)]).map .agg) λM=>
 Z0 ((ZB 3 [(0,M)] [(.agg [(.str []),(Q J 0),(Q J 0)])]).map (.vs 3 .clip)) λN=>
 Z0 (Ya 3 32 r N H) λh=>
 Nj X h.1 U O t Y h.2:=Z9 [3,6,9,10]
theorem Fl:UR X r U O t Y H =
 Z0 (Z2 .lss t O) λh=>
 Zh h
 (Ni X r U O t h Y H)
 (Nh r Y H):=(ZC (C:=cfg) [3,6,9,10] (Zo 0 (AK Y)) _ _).trans dz
theorem bC:Ng X Y H =
 Z0 (namesE.run [X] H) λh=>
 Z0 (Zf (.slice 9) h.1) λj=>
 UR X .nils h.1 j (Q J 0) Y h.2:=Z9 [3,6,9,10]
theorem cC:Xw [W] H=MM W H:=Be 38 [3,6,9,10] func17
def DM:Z3:=bg 26 54 f26 7 Y [(0,X)] H
def Jk:KL:=Zc (Cf 26 54 f26 7) (Zd cfg 54 26 f26 Y)
theorem bK:ZV 54 (Jk Y):=Zv (C:=cfg) (kp:=cfg.keep 26) (bh f26 7) (Zy 26 f26 Y)
def DO:Z3:=Y8 26 54 (bh f26 423) (Zc (Us 26 54 f26 52) (Z7 0 (Jk Y))) [(0,X),(7,I),(8,v)] H
def DN:Z3:=Y8 26 54 (bh f26 211) (Zc (Us 26 54 f26 52) (Z7 0 (Jk Y))) [(0,X),(7,I),(8,v),(9,x9)] H
def Jl:Z3:=Ly 26 54 (bh f26 52) (Z7 0 (Jk Y)) [(0,X),(7,I),(8,v)] H
def CO:Z3:=
 Z0 (Zf .string W) λh=>
 Jl W h (Q J 0) H H
theorem kT:DM X Y H =
 Z0 (Y1 .neq X (.str [])) λh=>
 Z0 (Z8 h c bf (b X)) λj=>
 Z0 (Z8 h c bf (Zf .string j)) λu=>
 Z0 (Z8 h c bf (Z2 .leq u (Q J 16))) λw=>
 Z0 (Zm h w (.bool a)) λy=>
 b (y,H):=Z9 [3,8,9]
theorem Pz:DO X I v Y H =
 Z0 (Z2 .add v (Q J 1)) λh=>
 Jl X I h Y H:=Z9 [3,8,9]
theorem kU:DN X I v x9 Y H =
 Z0 (Zp X v) λh=>
 Z0 (Z2 .eql h (.int .u8 95)) λu=>
 Z0 (Z8 u a bf (b h)) λB=>
 Z0 (Z8 u a bf (Z2 .geq B (.int .u8 97))) λC=>
 Z0 (Z8 u a bf (b C)) λy=>
 Z0 (Z8 y c bf (b h)) λD=>
 Z0 (Z8 y c bf (Z2 .leq D (.int .u8 122))) λE=>
 Z0 (Z8 u a bf (Zm y E (.bool a))) λF=>
 Z0 (Zm u (.bool c) F) λw=>
 Z0 (Z8 w a bf (b h)) λG=>
 Z0 (Z8 w a bf (Z2 .geq G (.int .u8 65))) λL=>
 Z0 (Z8 w a bf (b L)) λz=>
 Z0 (Z8 z c bf (b h)) λM=>
 Z0 (Z8 z c bf (Z2 .leq M (.int .u8 90))) λN=>
 Z0 (Z8 w a bf (Zm z N (.bool a))) λP=>
 Z0 (Zm w (.bool c) P) λR=>
 Z0 (YU .not R) λj=>
 Z0 (Z8 j c bf (b v)) λS=>
 Z0 (Z8 j c bf (Z2 .eql S (Q J 0))) λT=>
 Z0 (Z8 j c bf (b T)) λt37=>
 Z0 (Z8 t37 a bf (b h)) λZ=>
 Z0 (Z8 t37 a bf (Z2 .lss Z (.int .u8 48))) λaa=>
 Z0 (Z8 j c bf (Zm t37 (.bool c) aa)) λab=>
 Z0 (Z8 j c bf (b ab)) λA=>
 Z0 (Z8 A a bf (b h)) λac=>
 Z0 (Z8 A a bf (Z2 .gtr ac (.int .u8 57))) λad=>
 Z0 (Z8 j c bf (Zm A (.bool c) ad)) λae=>
 Z0 (Zm j ae (.bool a)) λaf=>
 Zh af
 (b ((.bool a),H))
 (DO X I v Y H):=Z9 [3,8,9]
theorem U9:Jl X I v Y H =
 Z0 (Z2 .lss v I) λt9=>
 Zh t9
 (DN X I v t9 Y H)
 (DM X Y H):=(ZC (C:=cfg) [3,8,9] (Zo 0 (bK Y)) _ _).trans dz
theorem oB:Uq [W] H=CO W H:=Be 54 [3,8,9] func26
def AN:Z3:=bg 27 56 f27 63 Y [(5,x5)] H
def KD:KL:=Zc (Cf 27 56 f27 63) (Zd cfg 56 27 f27 Y)
theorem eY:ZV 56 (KD Y):=Zv (C:=cfg) (kp:=cfg.keep 27) (bh f27 63) (Zy 27 f27 Y)
def RD:Z3:=Y8 27 56 (bh f27 4007) (Zc (Us 27 56 f27 500) (Z7 0 (KD Y))) [(5,x5),(6,o),(21,x21),(22,x22),(23,x23)] H
def AO:Z3:=Y8 27 56 (bh f27 2003) (Zc (Us 27 56 f27 500) (Z7 0 (KD Y))) [(5,x5),(6,o),(21,x21),(22,x22),(23,x23),(24,x24)] H
def KE:Z3:=Ly 27 56 (bh f27 500) (Z7 0 (KD Y)) [(5,x5),(6,o),(21,x21),(22,x22),(23,x23)] H
def AM:Z3:=bg 27 56 f27 15 Y [(0,X),(1,V),(5,x5)] H
def Gq:Z3:=
 Z0 (Y5 (.pointer 76) .eql W .nilp) λh=>
 Z0 (Z8 h a bf (b x)) λu=>
 Z0 (Z8 h a (bf,H) (Ze Uq [u] H)) λj=>
 Z0 (Z8 h a bf (YU .not j.1)) λw=>
 Z0 (Zm h (.bool c) w) λy=>
 Zh y
 (b (.nils,j.2))
 (AM W x .nils H j.2)
theorem Nr:AN x5 Y H =
 b (x5,H):=Z9 [4,7,11,12]
theorem US:RD x5 o x21 x22 x23 Y H =
 Z0 (Z2 .add x23 (Q J 1)) λh=>
 KE x5 o x21 x22 h Y H:=Z9 [4,7,11,12]
theorem pW:AO x5 o x21 x22 x23 x24 Y H =
 Z0 (Zr 3 x21 x23) λB=>
 Z0 (Z4 c 3 B H) λC=>
 Z0 (b ((.ptr H.length 0),H++[.cells [(.str []),(Q J 0),(Q J 0)]])) λz=>
 Z0 (Zg 3 z.1 C z.2) λu=>
 Z0 (Zf .string o) λy=>
 Z0 (Z6 0 z.1) λD=>
 Z0 (Z4 a 1 D u.2) λE=>
 Z0 (Zf .string E) λF=>
 Z0 (Z2 .gtr F y) λh=>
 Z0 (Z8 h c bf (Z6 0 z.1)) λG=>
 Z0 (Z8 h c bf (Z4 a 1 G u.2)) λL=>
 Z0 (Z8 h c bf (b y)) λt37=>
 Z0 (Z8 h c bf (ZR L d (b t37) d)) λM=>
 Z0 (Z8 h c bf (b o)) λN=>
 Z0 (Z8 h c bf (Y1 .eql M N)) λP=>
 Z0 (Zm h P (.bool a)) λj=>
 Z0 (Z8 j c bf (Z6 0 z.1)) λR=>
 Z0 (Z8 j c bf (Z4 a 1 R u.2)) λS=>
 Z0 (Z8 j c bf (b y)) λT=>
 Z0 (Z8 j c bf (ZR S (b T) d d)) λZ=>
 Z0 (Z8 j c (bf,u.2) (Ze G8 [Z] u.2)) λw=>
 Z0 (Zm j w.1 (.bool a)) λaa=>
 Zh aa
 (Z0 (Z6 0 z.1) λab=>
 Z0 (Z4 a 1 ab w.2) λac=>
 Z0 ((ZB 1 [(0,ac)] [(.str [])]).map (.vs 1 .clip)) λad=>
 Z0 (Ya 1 16 x5 ad w.2) λA=>
 RD A.1 o x21 x22 x23 Y A.2)
 (RD x5 o x21 x22 x23 Y w.2):=Z9 [4,7,11,12]
theorem Gi:KE x5 o x21 x22 x23 Y H =
 Z0 (Z2 .lss x23 x22) λh=>
 Zh h
 (AO x5 o x21 x22 x23 h Y H)
 (AN x5 Y H):=(ZC (C:=cfg) [4,7,11,12] (Zo 0 (eY Y)) _ _).trans dz
theorem Nq:AM X V x5 Y H =
 Z0 (Ze QW [V] H) λj=>
 Z0 (Ve Xw [X] j.2) λh=>
 Z0 (Zf (.slice 96) h.1) λu=>
 KE x5 j.1 h.1 u (Q J 0) Y h.2:=Z9 [4,7,11,12]
theorem GW:Qc [W,x] H=Gq W x H:=Be 56 [4,7,11,12] func27
def JM:Z3:=bg 28 19 f28 15 Y [(6,o)] H
def Tn:Z3:=
 Z0 (Wk [W,x] H) λh=>
 Z0 (ZK h.1 0) λy=>
 Z0 (ZK h.1 1) λj=>
 Z0 (Z2 .eql j (Q J 0)) λw=>
 Zh w
 (Z0 (GR [W,x] h.2) λu=>
 JM j H u.2)
 (JM j H h.2)
theorem UE:JM o Y H =
 b (o,H):=Z9 [4]
theorem I2:VR [W,x] H=Tn W x H:=Be 19 [4] func28
def T6:Z3:=bg 32 63 f32 63 Y [(0,X),(4,x4)] H
def T5:Z3:=bg 32 63 f32 15 Y [(0,X)] H
def T4:Z3:=bg 32 63 f32 7 Y [(0,X)] H
def JX:Z3:=
 Z0 (Y5 (.pointer 87) .eql W .nilp) λh=>
 Zh h
 (b ((.tuple [(.str []),(Q J 5)]),H))
 (T4 W H H)
theorem AU:T6 X x4 Y H =
 Z0 (Zw X) λw=>
 Z0 (Z6 5 w) λy=>
 Z0 (Z4 a 1 y H) λz=>
 Z0 (Z2 .add z (Q J 1)) λA=>
 Z0 (Zw X) λB=>
 Z0 (Z6 5 B) λC=>
 Z0 (Zg 1 C A H) λh=>
 Z0 (Zw X) λD=>
 Z0 (Z6 0 D) λE=>
 Z0 (Z6 2 E) λF=>
 Z0 (Z4 a 1 F h.2) λG=>
 Z0 ((ZB 1 [(0,x4)] [(.str [])]).map (.vs 1 .clip)) λL=>
 Z0 (Ya 1 16 G L h.2) λj=>
 Z0 (Zw X) λM=>
 Z0 (Z6 0 M) λN=>
 Z0 (Z6 2 N) λP=>
 Z0 (Zg 1 P j.1 j.2) λu=>
 b ((.tuple [x4,(Q J 0)]),u.2):=Z9 [3,5,9]
theorem Br:T5 X Y H =
 Z0 (Zw X) λy=>
 Z0 (Z6 0 y) λz=>
 Z0 (Z6 1 z) λA=>
 Z0 (Z4 a 1 A H) λB=>
 Z0 (Ze QW [B] H) λj=>
 Z0 (Zw X) λC=>
 Z0 (Z6 5 C) λD=>
 Z0 (Z4 a 1 D j.2) λE=>
 Z0 (Z2 .add E (Q J 1)) λF=>
 Z0 (Ze Cr [F] j.2) λu=>
 Z0 (Y1 .add j.1 u.1) λw=>
 Z0 (Zw X) λG=>
 Z0 (Z6 0 G) λL=>
 Z0 (Z6 0 L) λM=>
 Z0 (Z4 a 1 M u.2) λt37=>
 Z0 (JV [t37,w] u.2) λh=>
 Z0 (Z2 .neq h.1 (Q J 0)) λN=>
 Zh N
 (b ((.tuple [(.str []),h.1]),h.2))
 (T6 X w Y h.2):=Z9 [3,5,9]
theorem UF:T4 X Y H =
 Z0 (Zw X) λt9=>
 Z0 (Z6 6 t9) λj=>
 Z0 (Z4 a 1 j H) λh=>
 Z0 (Z8 h a bf (b X)) λu=>
 Z0 (Z8 h a bf (Zw u)) λw=>
 Z0 (Z8 h a bf (Z6 0 w)) λy=>
 Z0 (Z8 h a bf (Z6 0 y)) λz=>
 Z0 (Z8 h a bf (Z4 a 1 z H)) λA=>
 Z0 (Z8 h a bf (Y5 (.pointer 76) .eql A .nilp)) λB=>
 Z0 (Zm h (.bool c) B) λC=>
 Zh C
 (b ((.tuple [(.str []),(Q J 8)]),H))
 (T5 X Y H):=Z9 [3,5,9]
theorem D6:XJ [W] H=JX W H:=Be 63 [3,5,9] func32
def Dk:Z3:=bg 33 51 f33 127 Y [(0,X),(1,V),(8,v)] H
def Dj:Z3:=bg 33 51 f33 63 Y [(0,X),(1,V),(8,v)] H
def Di:Z3:=bg 33 51 f33 15 Y [(0,X),(1,V),(2,s)] H
def Dh:Z3:=bg 33 51 f33 7 Y [(0,X),(1,V),(2,s)] H
def QG:Z3:=
 Z0 (YZ [W,x] H) λh=>
 Z0 (Z2 .neq h.1 (Q J 0)) λj=>
 Zh j
 (b (h.1,h.2))
 (Dh W x p2 H h.2)
theorem E8:Dk X V v Y H =
 Z0 (Zw X) λj=>
 Z0 (Z6 0 j) λu=>
 Z0 (Z6 0 u) λw=>
 Z0 (Z4 a 1 w H) λy=>
 Z0 (JU [y,V,v] H) λh=>
 b (h.1,h.2):=Z9 [4,6,9,11]
theorem KY:Dj X V v Y H =
 Z0 (Zf .string v) λj=>
 Z0 (Zw X) λu=>
 Z0 (Z6 4 u) λw=>
 Z0 (Z4 a 1 w H) λy=>
 Z0 (Zw X) λz=>
 Z0 (Z6 0 z) λA=>
 Z0 (Ve Vg [A] H) λh=>
 Z0 (Z2 .sub y h.1) λB=>
 Z0 (Z2 .gtr j B) λC=>
 Zh C
 (b ((Q J 11),h.2))
 (Dk X V v Y h.2):=Z9 [4,6,9,11]
theorem VK:Di X V s Y H =
 Z0 (Ze Nv [s] H) λh=>
 Z0 (ZK h.1 0) λu=>
 Z0 (ZK h.1 1) λj=>
 Z0 (Z2 .neq j (Q J 0)) λw=>
 Zh w
 (b (j,h.2))
 (Dj X V u Y h.2):=Z9 [4,6,9,11]
theorem Wd:Dh X V s Y H =
 Z0 (Zw X) λh=>
 Z0 (Z6 0 h) λj=>
 Z0 (Z6 3 j) λu=>
 Z0 (Z4 a 1 u H) λw=>
 Z0 (Yj .string (.bool a) a w V H) λy=>
 Zh y
 (b ((Q J 8),H))
 (Di X V s Y H):=Z9 [4,6,9,11]
theorem Gr:Xh [W,x,p2] H=QG W x p2 H:=Be 51 [4,6,9,11] func33
def Fw:Z3:=bg 35 29 f35 15 Y [(0,X),(1,V)] H
def Fu:Z3:=bg 35 29 f35 7 Y [(0,X),(1,V)] H
def Jo:Z3:=
 Z0 (YZ [W,x] H) λh=>
 Z0 (Z2 .neq h.1 (Q J 0)) λj=>
 Zh j
 (b (h.1,h.2))
 (Fu W x H h.2)
theorem C5:Fw X V Y H =
 Z0 (Zw X) λj=>
 Z0 (Z6 0 j) λu=>
 Z0 (Z6 3 u) λw=>
 Z0 (Z4 a 1 w H) λy=>
 Z0 (XL .string y V (.bool c) H) λh=>
 b ((Q J 0),h.2):=Z9 [4,7]
theorem GH:Fu X V Y H =
 Z0 (Zw X) λj=>
 Z0 (Z6 0 j) λu=>
 Z0 (Z6 0 u) λw=>
 Z0 (Z4 a 1 w H) λy=>
 Z0 (GQ [y,V] H) λh=>
 Z0 (Z2 .neq h.1 (Q J 0)) λz=>
 Zh z
 (b (h.1,h.2))
 (Fw X V Y h.2):=Z9 [4,7]
theorem GX:Xq [W,x] H=Jo W x H:=Be 29 [4,7] func35
def QQ:Z3:=Y8 41 84 (bh f41 487) (Zc (Us 41 84 f41 60) (Z7 0 (Zd cfg 84 41 f41 Y))) [(0,X),(1,V),(18,x18),(19,x19),(20,q)] H
def QP:Z3:=Y8 41 84 (bh f41 243) (Zc (Us 41 84 f41 60) (Z7 0 (Zd cfg 84 41 f41 Y))) [(0,X),(1,V),(18,x18),(19,x19),(20,q),(21,x21)] H
def Vn:Z3:=Ly 41 84 (bh f41 60) (Z7 0 (Zd cfg 84 41 f41 Y)) [(0,X),(1,V),(18,x18),(19,x19),(20,q)] H
def Fm:Z3:=bg 41 84 f41 3 Y [(0,X),(1,V)] H
def RJ:Z3:=
 Z0 (Y5 (.pointer 76) .eql W .nilp) λh=>
 Zh h
 (b (bf,H))
 (Fm W x H H)
theorem C4:QQ X V x18 x19 q Y H =
 Z0 (Z2 .add q (Q J 1)) λh=>
 Vn X V x18 x19 h Y H:=Z9 [1,4,10]
theorem C3:QP X V x18 x19 q x21 Y H =
 Z0 (Zr 1 x18 q) λz=>
 Z0 (Z4 a 1 z H) λA=>
 Z0 (Zw X) λB=>
 Z0 (Z6 3 B) λC=>
 Z0 (Z4 a 1 C H) λD=>
 Z0 (Yj .string .nilp a D A H) λh=>
 Z0 (Z2 .rem q (Q J 8)) λE=>
 Z0 (Z2 .mul (Q J 8) E) λF=>
 Z0 (Z2 .shr V F) λG=>
 Z0 (Z2 .rem G (.int .u64 256)) λL=>
 Z0 (ZS .i64 L) λt37=>
 Z0 (Zw h) λM=>
 Z0 (Z6 1 M) λN=>
 Z0 (Z4 a 1 N H) λP=>
 Z0 (Zw h) λR=>
 Z0 (Z6 0 R) λS=>
 Z0 (Z4 a 1 S H) λT=>
 Z0 (Zf (.slice 5) T) λZ=>
 Z0 (Zw h) λaa=>
 Z0 (Z6 1 aa) λab=>
 Z0 (Z4 a 1 ab H) λac=>
 Z0 (Z2 .sub Z ac) λad=>
 Z0 (WU t37 ad) λae=>
 Z0 (Z2 .add P ae) λj=>
 Z0 (Zw X) λaf=>
 Z0 (Z6 1 af) λag=>
 Z0 (Z4 a 1 ag H) λah=>
 Z0 (Zw h) λai=>
 Z0 (Z6 0 ai) λaj=>
 Z0 (Z4 a 1 aj H) λak=>
 Z0 (Zf (.slice 5) ak) λal=>
 Z0 (Z2 .sub al j) λam=>
 Z0 (Z2 .sub ah am) λan=>
 Z0 (Zw X) λao=>
 Z0 (Z6 1 ao) λap=>
 Z0 (Zg 1 ap an H) λu=>
 Z0 (Zw h) λt72=>
 Z0 (Z6 0 t72) λaq=>
 Z0 (Z4 a 1 aq u.2) λar=>
 Z0 (Yk 1 ar d (b j) (b j)) λau=>
 Z0 (Zw h) λaw=>
 Z0 (Z6 0 aw) λax=>
 Z0 (Zg 1 ax au u.2) λw=>
 Z0 (Zw h) λay=>
 Z0 (Z6 1 ay) λaz=>
 Z0 (Zg 1 az j w.2) λy=>
 QQ X V x18 x19 q Y y.2:=Z9 [1,4,10]
theorem GF:Vn X V x18 x19 q Y H =
 Z0 (Z2 .lss q x19) λh=>
 Zh h
 (QP X V x18 x19 q h Y H)
 (b (bf,H)):=(ZC (C:=cfg) [1,4,10] (Zo 0 (Zy 41 f41 Y)) _ _).trans dz
theorem C2:Fm X V Y H =
 Z0 (Zw X) λw=>
 Z0 (Z6 4 w) λy=>
 Z0 (Zg 1 y (.bool a) H) λj=>
 Z0 (Zw X) λz=>
 Z0 (Z6 5 z) λA=>
 Z0 (Zg 1 A (Q J 0) j.2) λu=>
 Z0 (namesE.run [X] u.2) λh=>
 Z0 (Zf (.slice 9) h.1) λB=>
 Vn X V h.1 B (Q J 0) Y h.2:=Z9 [1,4,10]
theorem CM:Jn [W,x] H=RJ W x H:=Be 84 [1,4,10] func41
def Bt:Z3:=bg 42 28 f42 15 Y [(0,X),(1,V)] H
def Bs:Z3:=bg 42 28 f42 7 Y [(0,X),(1,V)] H
def XP:Z3:=
 Z0 (YZ [W,x] H) λh=>
 Z0 (Z2 .neq h.1 (Q J 0)) λj=>
 Zh j
 (b (h.1,h.2))
 (Bs W x H h.2)
theorem Lu:Bt X V Y H =
 Z0 (Zw X) λj=>
 Z0 (Z6 0 j) λu=>
 Z0 (forgetE.run [u,V] H) λh=>
 b ((Q J 0),h.2):=Z9 [4,7]
theorem JP:Bs X V Y H =
 Z0 (Zw X) λj=>
 Z0 (Z6 0 j) λu=>
 Z0 (Z6 0 u) λw=>
 Z0 (Z4 a 1 w H) λy=>
 Z0 (VR [y,V] H) λh=>
 Z0 (Z2 .neq h.1 (Q J 0)) λz=>
 Zh z
 (b (h.1,h.2))
 (Bt X V Y h.2):=Z9 [4,7]
theorem W9:YM [W,x] H=XP W x H:=Be 28 [4,7] func42
def Ft:Z3:=bg 48 49 f48 255 Y [(2,s),(12,t),(13,x13)] H
def Fr:Z3:=bg 48 49 f48 63 Y [(2,s),(10,U)] H
def Fq:Z3:=bg 48 49 f48 31 Y [(2,s),(10,U)] H
def Fp:Z3:=bg 48 49 f48 7 Y [(0,X),(1,V),(2,s)] H
def Wl:Z3:=
 Z0 (YZ [W,x] H) λh=>
 Z0 (Z2 .neq h.1 (Q J 0)) λj=>
 Zh j
 (b ((.tuple [(.str []),(Q J 0),h.1]),h.2))
 (Fp W x p2 H h.2)
theorem GG:Ft s t x13 Y H =
 Z0 (Z2 .add s x13) λh=>
 b ((.tuple [t,h,(Q J 0)]),H):=Z9 [4,7,9,12]
theorem U6:Fr s U Y H =
 Z0 (Ze Te [U,(Q J 0)] H) λh=>
 Z0 (ZK h.1 0) λu=>
 Z0 (ZK h.1 1) λw=>
 Z0 (ZK h.1 2) λj=>
 Z0 (Z2 .neq j (Q J 0)) λy=>
 Zh y
 (b ((.tuple [(.str []),(Q J 0),j]),h.2))
 (Ft s u w Y h.2):=Z9 [4,7,9,12]
theorem U5:Fq s U Y H =
 Z0 (Y1 .eql U (.str [])) λh=>
 Zh h
 (b ((.tuple [(.str []),(Q J 0),(Q J 5)]),H))
 (Fr s U Y H):=Z9 [4,7,9,12]
theorem U4:Fp X V s Y H =
 Z0 (Zw X) λu=>
 Z0 (Z6 0 u) λw=>
 Z0 (Z6 0 w) λy=>
 Z0 (Z4 a 1 y H) λz=>
 Z0 (GP [z,V,s,(Q J 4102)] H) λh=>
 Z0 (ZK h.1 0) λA=>
 Z0 (ZK h.1 1) λj=>
 Z0 (Z2 .neq j (Q J 0)) λB=>
 Zh B
 (b ((.tuple [(.str []),(Q J 0),j]),h.2))
 (Fq s A Y h.2):=Z9 [4,7,9,12]
theorem Wy:YH [W,x,p2] H=Wl W x p2 H:=Be 49 [4,7,9,12] func48
def Eo:Z3:=
 Z0 (Y1 .add (.str [46,116,109,112,46]) W) λt4=>
 Z0 (Y1 .add t4 (.str [46])) λt5=>
 b (t5,H)
theorem fU:QW [W] H=Eo W H:=Be 6 [] func49
def KI:Z3:=bg 50 27 f50 7 Y [(0,X)] H
def U7:KL:=Zc (Cf 50 27 f50 7) (Zd cfg 27 50 f50 Y)
theorem C7:ZV 27 (U7 Y):=Zv (C:=cfg) (kp:=cfg.keep 50) (bh f50 7) (Zy 50 f50 Y)
def Py:Z3:=Y8 50 27 (bh f50 423) (Zc (Us 50 27 f50 52) (Z7 0 (U7 Y))) [(0,X),(5,x5),(6,o)] H
def Px:Z3:=Y8 50 27 (bh f50 211) (Zc (Us 50 27 f50 52) (Z7 0 (U7 Y))) [(0,X),(5,x5),(6,o),(7,I)] H
def U8:Z3:=Ly 50 27 (bh f50 52) (Z7 0 (U7 Y)) [(0,X),(5,x5),(6,o)] H
def PH:Z3:=
 Z0 (Zf .string W) λt5=>
 U8 W t5 (Q J 0) H H
theorem Ig:KI X Y H =
 Z0 (Y1 .neq X (.str [])) λh=>
 Z0 (Z8 h c bf (b X)) λj=>
 Z0 (Z8 h c bf (Zp j (Q J 0))) λu=>
 Z0 (Z8 h c bf (Z2 .neq u (.int .u8 48))) λw=>
 Z0 (Zm h w (.bool a)) λy=>
 b (y,H):=Z9 [3,6,7]
theorem Ii:Py X x5 o Y H =
 Z0 (Z2 .add o (Q J 1)) λh=>
 U8 X x5 h Y H:=Z9 [3,6,7]
theorem Ih:Px X x5 o I Y H =
 Z0 (Zp X o) λj=>
 Z0 (Z2 .lss j (.int .u8 48)) λh=>
 Z0 (Z8 h a bf (b X)) λu=>
 Z0 (Z8 h a bf (b o)) λw=>
 Z0 (Z8 h a bf (Zp u w)) λy=>
 Z0 (Z8 h a bf (Z2 .gtr y (.int .u8 57))) λz=>
 Z0 (Zm h (.bool c) z) λA=>
 Zh A
 (b ((.bool a),H))
 (Py X x5 o Y H):=Z9 [3,6,7]
theorem Dl:U8 X x5 o Y H =
 Z0 (Z2 .lss o x5) λh=>
 Zh h
 (Px X x5 o h Y H)
 (KI X Y H):=(ZC (C:=cfg) [3,6,7] (Zo 0 (C7 Y)) _ _).trans dz
theorem OO:G8 [W] H=PH W H:=Be 27 [3,6,7] func50
def Np:Z3:=bg 51 20 f51 63 Y [(6,o)] H
def No:Z3:=bg 51 20 f51 15 Y [(0,X),(1,V)] H
def Nn:Z3:=bg 51 20 f51 7 Y [(0,X),(1,V)] H
def MQ:Z3:=
 Z0 (Y5 (.pointer 76) .eql W .nilp) λh=>
 Zh h
 (b ((.tuple [.nilp,(Q J 5)]),H))
 (Nn W x H H)
theorem bI:Np o Y H =
 b ((.tuple [o,(Q J 0)]),H):=Z9 [3,5,8]
theorem Fo:No X V Y H =
 Z0 (Zw X) λj=>
 Z0 (Z6 3 j) λu=>
 Z0 (Z4 a 1 u H) λw=>
 Z0 (Yj .string .nilp a w V H) λh=>
 Z0 (Y5 (.pointer 100) .eql h .nilp) λy=>
 Zh y
 (b ((.tuple [.nilp,(Q J 5)]),H))
 (Np h Y H):=Z9 [3,5,8]
theorem QS:Nn X V Y H =
 Z0 (UI [X] H) λh=>
 Zh h.1
 (b ((.tuple [.nilp,(Q J 19)]),h.2))
 (No X V Y h.2):=Z9 [3,5,8]
theorem cG:Wk [W,x] H=MQ W x H:=Be 20 [3,5,8] func51
def MP:Z3:=
 Z0 (Zw W) λR=>
 Z0 (Z6 3 R) λS=>
 Z0 (Z4 a 1 S H) λT=>
 Z0 (Yj .string .nilp a T x H) λu=>
 Z0 (Y5 (.pointer 100) .neq u .nilp) λw=>
 Zh w
 (Z0 (Zw W) λy=>
 Z0 (Z6 1 y) λz=>
 Z0 (Z4 a 1 z H) λA=>
 Z0 (Zw u) λB=>
 Z0 (Z6 0 B) λC=>
 Z0 (Z4 a 1 C H) λD=>
 Z0 (Zf (.slice 5) D) λE=>
 Z0 (Z2 .sub A E) λF=>
 Z0 (Zw W) λG=>
 Z0 (Z6 1 G) λL=>
 Z0 (Zg 1 L F H) λh=>
 Z0 (Zw W) λM=>
 Z0 (Z6 3 M) λN=>
 Z0 (Z4 a 1 N h.2) λP=>
 Z0 (Jx .string P x h.2) λj=>
 b (bf,j.2))
 (b (bf,H))
theorem cF:GR [W,x] H=MP W x H:=Be 30 [] func52
def Zab:Z3:=
 Z0 (kR ZcI [W] H) λh=>
 b (h.1,h.2)
theorem Zgz:Cr [W] H=Zab W H:=Be 5 [] func57
def JL:Z3:=bg 58 46 f58 15 Y [(0,X),(1,V)] H
def T3:Z3:=bg 58 46 f58 7 Y [(0,X),(1,V)] H
def Tm:Z3:=
 Z0 (Y5 (.pointer 76) .eql W .nilp) λL=>
 Zh L
 (b ((Q J 5),H))
 (Z0 (UI [W] H) λj=>
 Zh j.1
 (b ((Q J 19),j.2))
 (Z0 (Ze Rb [x] j.2) λh=>
 Z0 (YU .not h.1) λu=>
 Zh u
 (b ((Q J 4),h.2))
 (Z0 (Zw W) λw=>
 Z0 (Z6 3 w) λy=>
 Z0 (Z4 a 1 y h.2) λz=>
 Z0 (Yj .string .nilp a z x h.2) λA=>
 Z0 (Y5 (.pointer 100) .neq A .nilp) λB=>
 Zh B
 (b ((Q J 6),h.2))
 (Z0 (Zw W) λC=>
 Z0 (Z6 3 C) λD=>
 Z0 (Z4 a 1 D h.2) λE=>
 Z0 (K7 E h.2) λF=>
 Z0 (Z2 .geq F (Q J 64)) λG=>
 Zh G
 (b ((Q J 3),h.2))
 (T3 W x H h.2)))))
theorem AJ:JL X V Y H =
 Z0 (Zw X) λu=>
 Z0 (Z6 3 u) λw=>
 Z0 (Z4 a 1 w H) λy=>
 Z0 (b (.agg [.nils,(Q J 0)])) λz=>
 Z0 (ZY z H) λh=>
 Z0 (XL .string y V h.1 h.2) λj=>
 b ((Q J 0),j.2):=Z9 [11,13]
theorem AI:T3 X V Y H =
 Z0 (Zw X) λu=>
 Z0 (Z6 3 u) λw=>
 Z0 (Z4 a 1 w H) λy=>
 Z0 (Y5 (.map 9 98) .eql y .nilm) λz=>
 Zh z
 (Z0 (b ((.map H.length),H++[.map [] 0])) λh=>
 Z0 (Zw X) λt37=>
 Z0 (Z6 3 t37) λA=>
 Z0 (Zg 1 A h.1 h.2) λj=>
 JL X V Y j.2)
 (JL X V Y H):=Z9 [11,13]
theorem I1:JV [W,x] H=Tm W x H:=Be 46 [11,13] func58
def Fx:Z3:=bg 59 22 f59 7 Y [] H
def Jp:Z3:=
 Z0 (Y5 (.pointer 87) .eql W .nilp) λD=>
 Zh D
 (b ((Q J 5),H))
 (Z0 (Zw W) λj=>
 Z0 (Z6 6 j) λu=>
 Z0 (Z4 a 1 u H) λw=>
 Zh w
 (b ((Q J 8),H))
 (Z0 (Zw W) λy=>
 Z0 (Z6 0 y) λz=>
 Z0 (Z6 2 z) λA=>
 Z0 (Z4 a 1 A H) λB=>
 Z0 (Ze YW [B,x] H) λh=>
 Z0 (YU .not h.1) λC=>
 Zh C
 (b ((Q J 5),h.2))
 (Fx H h.2)))
theorem C6:Fx Y H =
 b ((Q J 0),H):=Z9 [7]
theorem GY:YZ [W,x] H=Jp W x H:=Be 22 [7] func59
def IZ:Z3:=bg 60 27 f60 15 Y [(4,x4)] H
def Qp:KL:=Zc (Cf 60 27 f60 15) (Zd cfg 27 60 f60 Y)
theorem iP:ZV 27 (Qp Y):=Zv (C:=cfg) (kp:=cfg.keep 60) (bh f60 15) (Zy 60 f60 Y)
def O1:Z3:=Y8 60 27 (bh f60 935) (Zc (Us 60 27 f60 116) (Z7 0 (Qp Y))) [(4,x4),(9,x9),(10,U),(11,O)] H
def Zi9:KL:=Zc (Cf 60 27 f60 935) (Zc (Us 60 27 f60 116) (Z7 0 (Qp Y)))
def O2:Z3:=Y8 60 27 (bh f60 14951) (Z7 1 (Zi9 Y)) [(4,x4),(7,I),(9,x9),(10,U),(11,O)] H
def O0:Z3:=Y8 60 27 (bh f60 467) (Zc (Us 60 27 f60 116) (Z7 0 (Qp Y))) [(4,x4),(9,x9),(10,U),(11,O),(12,t)] H
def Gx:Z3:=Ly 60 27 (bh f60 116) (Z7 0 (Qp Y)) [(4,x4),(9,x9),(10,U),(11,O)] H
def bU:Z3:=
 Z0 (b ((.ptr H.length 0),H++[.bld 133 5 []])) λj=>
 Z0 (Zf (.slice 9) W) λh=>
 Gx j.1 W h (Q J 0) H j.2
theorem ZbH:IZ x4 Y H =
 Z0 (stringE.run [x4] H) λh=>
 b ((.tuple [h.1,(Q J 0)]),h.2):=Z9 [4,8,9,10]
theorem ZbI:O1 x4 x9 U O Y H =
 Z0 (Z2 .add O (Q J 1)) λh=>
 Gx x4 x9 U h Y H:=Z9 [4,8,9,10]
theorem ZbJ:O2 x4 I x9 U O Y H =
 Z0 (textE.run [x4,I] H) λh=>
 O1 x4 x9 U O Y h.2:=Z9 [4,8,9,10]
theorem Lc:O0 x4 x9 U O t Y H =
 Z0 (Zr 1 x9 O) λu=>
 Z0 (Z4 a 1 u H) λw=>
 Z0 (Ze Nw [w] H) λh=>
 Z0 (ZK h.1 0) λy=>
 Z0 (ZK h.1 1) λj=>
 Z0 (Z2 .neq j (Q J 0)) λz=>
 Zh z
 (b ((.tuple [(.str []),j]),h.2))
 (O2 x4 y x9 U O Y h.2):=Z9 [4,8,9,10]
theorem Ld:Gx x4 x9 U O Y H =
 Z0 (Z2 .lss O U) λh=>
 Zh h
 (O0 x4 x9 U O h Y H)
 (IZ x4 Y H):=(ZC (C:=cfg) [4,8,9,10] (Zo 0 (iP Y)) _ _).trans dz
theorem ZcS:Nv [W] H=bU W H:=Be 27 [4,8,9,10] func60
def Dm:Z3:=bg 61 29 f61 15 Y [(3,r)] H
def WX:KL:=Zc (Cf 61 29 f61 15) (Zd cfg 29 61 f61 Y)
theorem M1:ZV 29 (WX Y):=Zv (C:=cfg) (kp:=cfg.keep 61) (bh f61 15) (Zy 61 f61 Y)
def UZ:Z3:=Y8 61 29 (bh f61 935) (Zc (Us 61 29 f61 116) (Z7 0 (WX Y))) [(0,X),(3,r),(10,U),(11,O),(12,t)] H
def Dn:Z3:=Y8 61 29 (bh f61 467) (Zc (Us 61 29 f61 116) (Z7 0 (WX Y))) [(0,X),(3,r),(10,U),(11,O),(12,t),(13,x13)] H
def WY:Z3:=Ly 61 29 (bh f61 116) (Z7 0 (WX Y)) [(0,X),(3,r),(10,U),(11,O),(12,t)] H
def DV:Z3:=
 Z0 (Zw W) λu=>
 Z0 (Z6 0 u) λw=>
 Z0 (Z4 a 1 w H) λt9=>
 Z0 (Ve Xw [t9] H) λh=>
 Z0 (Zf (.slice 96) h.1) λj=>
 WY W (Q J 0) h.1 j (Q J 0) H h.2
theorem E9:Dm r Y H =
 b (r,H):=Z9 [4,7,8]
theorem KZ:UZ X r U O t Y H =
 Z0 (Z2 .add t (Q J 1)) λh=>
 WY X r U O h Y H:=Z9 [4,7,8]
theorem Ea:Dn X r U O t x13 Y H =
 Z0 (Zr 3 U t) λw=>
 Z0 (Z4 c 3 w H) λy=>
 Z0 (b ((.ptr H.length 0),H++[.cells [(.str []),(Q J 0),(Q J 0)]])) λu=>
 Z0 (Zg 3 u.1 y u.2) λh=>
 Z0 (Zw X) λz=>
 Z0 (Z6 2 z) λA=>
 Z0 (Z4 a 1 A h.2) λB=>
 Z0 (Z6 0 u.1) λC=>
 Z0 (Z4 a 1 C h.2) λD=>
 Z0 (Ze YW [B,D] h.2) λj=>
 Zh j.1
 (Z0 (Z6 1 u.1) λE=>
 Z0 (Z4 a 1 E j.2) λF=>
 Z0 (Z2 .add r F) λG=>
 UZ X G U O t Y j.2)
 (UZ X r U O t Y j.2):=Z9 [4,7,8]
theorem G0:WY X r U O t Y H =
 Z0 (Z2 .lss t O) λh=>
 Zh h
 (Dn X r U O t h Y H)
 (Dm r Y H):=(ZC (C:=cfg) [4,7,8] (Zo 0 (M1 Y)) _ _).trans dz
theorem SA:Vg [W] H=DV W H:=Be 29 [4,7,8] func61
def T2:Z3:=bg 62 60 f62 31 Y [(0,X),(2,s),(7,I)] H
def T1:Z3:=bg 62 60 f62 15 Y [(0,X),(2,s),(7,I)] H
def Tl:Z3:=
 Z0 (Wk [W,x] H) λh=>
 Z0 (ZK h.1 0) λu=>
 Z0 (ZK h.1 1) λj=>
 Z0 (Z2 .neq j (Q J 0)) λw=>
 Zh w
 (b (j,h.2))
 (T1 W p2 u H h.2)
theorem AH:T2 X s I Y H =
 Z0 (Zw I) λy=>
 Z0 (Z6 0 y) λz=>
 Z0 (Z4 a 1 z H) λA=>
 Z0 (Ya 1 1 A s H) λu=>
 Z0 (Zw I) λt37=>
 Z0 (Z6 0 t37) λB=>
 Z0 (Zg 1 B u.1 u.2) λj=>
 Z0 (Zw X) λC=>
 Z0 (Z6 1 C) λD=>
 Z0 (Z4 a 1 D j.2) λE=>
 Z0 (Zf .string s) λF=>
 Z0 (Z2 .add E F) λG=>
 Z0 (Zw X) λL=>
 Z0 (Z6 1 L) λM=>
 Z0 (Zg 1 M G j.2) λh=>
 Z0 (Zw X) λN=>
 Z0 (Z6 2 N) λP=>
 Z0 (Z4 a 1 P h.2) λR=>
 Z0 (Zw X) λS=>
 Z0 (Z6 1 S) λT=>
 Z0 (Z4 a 1 T h.2) λZ=>
 Z0 (K9 R Z) λaa=>
 Z0 (Zw X) λab=>
 Z0 (Z6 2 ab) λac=>
 Z0 (Zg 1 ac aa h.2) λw=>
 b ((Q J 0),w.2):=Z9 [4,6]
theorem Bq:T1 X s I Y H =
 Z0 (Zw X) λh=>
 Z0 (Z6 1 h) λj=>
 Z0 (Z4 a 1 j H) λu=>
 Z0 (Zf .string s) λw=>
 Z0 (Z2 .add u w) λy=>
 Z0 (Zw X) λz=>
 Z0 (Z6 0 z) λA=>
 Z0 (Z4 a 1 A H) λB=>
 Z0 (Z2 .gtr y B) λC=>
 Zh C
 (b ((Q J 12),H))
 (T2 X s I Y H):=Z9 [4,6]
theorem I0:JU [W,x,p2] H=Tl W x p2 H:=Be 60 [4,6] func62
def Gg:Z3:=bg 70 24 f70 15 Y [(6,o)] H
def MO:Z3:=
 Z0 (Wk [W,x] H) λh=>
 Z0 (ZK h.1 0) λw=>
 Z0 (ZK h.1 1) λj=>
 Z0 (Z2 .eql j (Q J 0)) λy=>
 Zh y
 (Z0 (Zw w) λz=>
 Z0 (Z6 0 z) λA=>
 Z0 (Z4 a 1 A h.2) λB=>
 Z0 (Zf (.slice 5) B) λC=>
 Z0 (Zw w) λD=>
 Z0 (Z6 1 D) λE=>
 Z0 (Zg 1 E C h.2) λu=>
 Gg j H u.2)
 (Gg j H h.2)
theorem QR:Gg o Y H =
 b (o,H):=Z9 [4]
theorem cE:GQ [W,x] H=MO W x H:=Be 24 [4] func70
def Nl:Z3:=bg 86 54 f86 31 Y [(2,s),(3,r),(10,U)] H
def Nk:Z3:=bg 86 54 f86 15 Y [(2,s),(3,r),(10,U)] H
def MN:Z3:=
 Z0 (Wk [W,x] H) λh=>
 Z0 (ZK h.1 0) λu=>
 Z0 (ZK h.1 1) λj=>
 Z0 (Z2 .neq j (Q J 0)) λw=>
 Zh w
 (b ((.tuple [(.str []),j]),h.2))
 (Nk p2 p3 u H h.2)
theorem bH:Nl s r U Y H =
 Z0 (Zw U) λt37=>
 Z0 (Z6 0 t37) λh=>
 Z0 (Z4 a 1 h H) λj=>
 Z0 (Zw U) λu=>
 Z0 (Z6 0 u) λw=>
 Z0 (Z4 a 1 w H) λy=>
 Z0 (Zf (.slice 5) y) λz=>
 Z0 (Z2 .sub z s) λA=>
 Z0 (WU r A) λB=>
 Z0 (Z2 .add s B) λC=>
 Z0 (Yk 1 j (b s) (b C) d) λD=>
 Z0 (XM D H) λE=>
 b ((.tuple [E,(Q J 0)]),H):=Z9 [4,6]
theorem bG:Nk s r U Y H =
 Z0 (Z2 .lss s (Q J 0)) λh=>
 Z0 (Z8 h a bf (b s)) λu=>
 Z0 (Z8 h a bf (b U)) λw=>
 Z0 (Z8 h a bf (Zw w)) λy=>
 Z0 (Z8 h a bf (Z6 0 y)) λz=>
 Z0 (Z8 h a bf (Z4 a 1 z H)) λA=>
 Z0 (Z8 h a bf (Zf (.slice 5) A)) λB=>
 Z0 (Z8 h a bf (Z2 .gtr u B)) λC=>
 Z0 (Zm h (.bool c) C) λj=>
 Z0 (Z8 j a bf (b r)) λD=>
 Z0 (Z8 j a bf (Z2 .lss D (Q J 0))) λE=>
 Z0 (Zm j (.bool c) E) λF=>
 Zh F
 (b ((.tuple [(.str []),(Q J 2)]),H))
 (Nl s r U Y H):=Z9 [4,6]
theorem cD:GP [W,x,p2,p3] H=MN W x p2 p3 H:=Be 54 [4,6] func86
def nA:Z3:=bg 87 58 f87 511 Y [(1,V),(7,I),(8,v)] H
def mZ:Z3:=bg 87 58 f87 255 Y [(1,V),(7,I),(8,v)] H
def mY:Z3:=bg 87 58 f87 127 Y [(1,V),(7,I),(8,v)] H
def mX:Z3:=bg 87 58 f87 31 Y [(1,V),(7,I)] H
def mW:Z3:=bg 87 58 f87 7 Y [(0,X),(1,V)] H
def CD:Z3:=
 Z0 (Z2 .lss x (Q J 0)) λh=>
 Z0 (Z8 h a bf (b x)) λj=>
 Z0 (Z8 h a bf (b W)) λu=>
 Z0 (Z8 h a bf (Zf .string u)) λw=>
 Z0 (Z8 h a bf (Z2 .gtr j w)) λy=>
 Z0 (Zm h (.bool c) y) λz=>
 Zh z
 (b ((.tuple [(.str []),(Q J 0),(Q J 2)]),H))
 (mW W x H H)
theorem Aa:nA V I v Y H =
 Z0 (Z2 .add v (Q J 2)) λh=>
 Z0 (ZR I (b (Q J 2)) (b h) d) λj=>
 Z0 (Z2 .add V v) λu=>
 Z0 (Z2 .add u (Q J 6)) λw=>
 b ((.tuple [j,w,(Q J 0)]),H):=Z9 bj
theorem A9:mZ V I v Y H =
 Z0 (Z2 .add v (Q J 2)) λj=>
 Z0 (Z2 .add v (Q J 6)) λu=>
 Z0 (ZR I (b j) (b u) d) λw=>
 Z0 (Z2 .add v (Q J 2)) λy=>
 Z0 (ZR I d (b y) d) λz=>
 Z0 (Ze M9 [z] H) λh=>
 Z0 (Y1 .neq w h.1) λA=>
 Zh A
 (b ((.tuple [(.str []),(Q J 0),(Q J 13)]),h.2))
 (nA V I v Y h.2):=Z9 bj
theorem A8:mY V I v Y H =
 Z0 (Zf .string I) λh=>
 Z0 (Z2 .add v (Q J 6)) λj=>
 Z0 (Z2 .lss h j) λt37=>
 Zh t37
 (b ((.tuple [(.str []),(Q J 0),(Q J 14)]),H))
 (mZ V I v Y H):=Z9 bj
theorem A6:mX V I Y H =
 Z0 (Zp I (Q J 0)) λj=>
 Z0 (ZS .i64 j) λu=>
 Z0 (Z2 .shl u (.int .u64 8)) λw=>
 Z0 (Zp I (Q J 1)) λy=>
 Z0 (ZS .i64 y) λz=>
 Z0 (Z2 .or w z) λh=>
 Z0 (Z2 .gtr h (Q J 4096)) λA=>
 Zh A
 (b ((.tuple [(.str []),(Q J 0),(Q J 13)]),H))
 (mY V I h Y H):=Z9 bj
theorem Ki:mW X V Y H =
 Z0 (ZR X (b V) d d) λh=>
 Z0 (Zf .string h) λj=>
 Z0 (Z2 .lss j (Q J 2)) λu=>
 Zh u
 (b ((.tuple [(.str []),(Q J 0),(Q J 14)]),H))
 (mX V h Y H):=Z9 bj
theorem Ir:Te [W,x] H=CD W x H:=Be 58 [3,6,9,11,13] func87
def WM:Z3:=bg 88 37 f88 7 Y [(0,X)] H
def PF:Z3:=
 Z0 (Zw W) λt5=>
 Z0 (Z6 4 t5) λt6=>
 Z0 (Z4 a 1 t6 H) λt7=>
 Zh t7
 (WM W H H)
 (Z0 (Zw W) λw=>
 Z0 (Z6 5 w) λy=>
 Z0 (Z4 a 1 y H) λz=>
 Z0 (Z2 .eql z (Q J 1)) λA=>
 Zh A
 (Z0 (Zw W) λB=>
 Z0 (Z6 4 B) λC=>
 Z0 (Zg 1 C (.bool c) H) λh=>
 Z0 (Zw W) λD=>
 Z0 (Z6 5 D) λE=>
 Z0 (Zg 1 E (Q J 0) h.2) λj=>
 WM W H j.2)
 (Z0 (Zw W) λF=>
 Z0 (Z6 5 F) λG=>
 Z0 (Z4 a 1 G H) λL=>
 Z0 (Z2 .gtr L (Q J 1)) λM=>
 Zh M
 (Z0 (Zw W) λN=>
 Z0 (Z6 5 N) λP=>
 Z0 (Z4 a 1 P H) λR=>
 Z0 (Z2 .sub R (Q J 1)) λS=>
 Z0 (Zw W) λT=>
 Z0 (Z6 5 T) λZ=>
 Z0 (Zg 1 Z S H) λu=>
 WM W H u.2)
 (WM W H H)))
theorem WW:WM X Y H =
 Z0 (Zw X) λh=>
 Z0 (Z6 4 h) λj=>
 Z0 (Z4 a 1 j H) λu=>
 b (u,H):=Z9 [6]
theorem OM:UI [W] H=PF W H:=Be 37 [6] func88
def DJ:Z3:=bg 92 58 f92 7 Y [(0,X)] H
def Ji:KL:=Zc (Cf 92 58 f92 7) (Zd cfg 58 92 f92 Y)
theorem bJ:ZV 58 (Ji Y):=Zv (C:=cfg) (kp:=cfg.keep 92) (bh f92 7) (Zy 92 f92 Y)
def DL:Z3:=Y8 92 58 (bh f92 423) (Zc (Us 92 58 f92 52) (Z7 0 (Ji Y))) [(0,X),(7,I),(8,v)] H
def DK:Z3:=Y8 92 58 (bh f92 211) (Zc (Us 92 58 f92 52) (Z7 0 (Ji Y))) [(0,X),(7,I),(8,v),(9,x9)] H
def Jj:Z3:=Ly 92 58 (bh f92 52) (Z7 0 (Ji Y)) [(0,X),(7,I),(8,v)] H
def CN:Z3:=
 Z0 (Zf .string W) λh=>
 Jj W h (Q J 0) H H
theorem kP:DJ X Y H =
 Z0 (Y1 .neq X (.str [])) λh=>
 Z0 (Z8 h c bf (b X)) λj=>
 Z0 (Z8 h c bf (Zf .string j)) λu=>
 Z0 (Z8 h c bf (Z2 .leq u (Q J 32))) λw=>
 Z0 (Zm h w (.bool a)) λy=>
 b (y,H):=Z9 [3,8,9]
theorem Pv:DL X I v Y H =
 Z0 (Z2 .add v (Q J 1)) λh=>
 Jj X I h Y H:=Z9 [3,8,9]
theorem kQ:DK X I v x9 Y H =
 Z0 (Zp X v) λh=>
 Z0 (Z2 .geq h (.int .u8 97)) λu=>
 Z0 (Z8 u c bf (b h)) λC=>
 Z0 (Z8 u c bf (Z2 .leq C (.int .u8 122))) λD=>
 Z0 (Zm u D (.bool a)) λj=>
 Z0 (Z8 j a bf (b h)) λE=>
 Z0 (Z8 j a bf (Z2 .geq E (.int .u8 65))) λF=>
 Z0 (Z8 j a bf (b F)) λw=>
 Z0 (Z8 w c bf (b h)) λG=>
 Z0 (Z8 w c bf (Z2 .leq G (.int .u8 90))) λL=>
 Z0 (Z8 j a bf (Zm w L (.bool a))) λM=>
 Z0 (Zm j (.bool c) M) λy=>
 Z0 (Z8 y a bf (b h)) λN=>
 Z0 (Z8 y a bf (Z2 .eql N (.int .u8 95))) λP=>
 Z0 (Zm y (.bool c) P) λz=>
 Z0 (Z8 z a bf (b h)) λR=>
 Z0 (Z8 z a bf (Z2 .eql R (.int .u8 46))) λS=>
 Z0 (Zm z (.bool c) S) λT=>
 Z0 (YU .not T) λt37=>
 Z0 (Z8 t37 c bf (b v)) λZ=>
 Z0 (Z8 t37 c bf (Z2 .eql Z (Q J 0))) λaa=>
 Z0 (Z8 t37 c bf (b aa)) λA=>
 Z0 (Z8 A a bf (b h)) λab=>
 Z0 (Z8 A a bf (Z2 .lss ab (.int .u8 48))) λac=>
 Z0 (Z8 t37 c bf (Zm A (.bool c) ac)) λad=>
 Z0 (Z8 t37 c bf (b ad)) λB=>
 Z0 (Z8 B a bf (b h)) λae=>
 Z0 (Z8 B a bf (Z2 .gtr ae (.int .u8 57))) λaf=>
 Z0 (Z8 t37 c bf (Zm B (.bool c) af)) λag=>
 Z0 (Zm t37 ag (.bool a)) λah=>
 Zh ah
 (b ((.bool a),H))
 (DL X I v Y H):=Z9 [3,8,9]
theorem U3:Jj X I v Y H =
 Z0 (Z2 .lss v I) λt9=>
 Zh t9
 (DK X I v t9 Y H)
 (DJ X Y H):=(ZC (C:=cfg) [3,8,9] (Zo 0 (bJ Y)) _ _).trans dz
theorem oA:Rb [W] H=CN W H:=Be 58 [3,8,9] func92
def VN:Z3:=
 Z0 (Ze Ww [W,x] H) λh=>
 Z0 (Z2 .geq h.1 (Q J 0)) λj=>
 b (j,h.2)
theorem GI:YW [W,x] H=VN W x H:=Be 9 [] func93
def O3:Z3:=bg 94 23 f94 7 Y [(0,X)] H
def bV:Z3:=
 Z0 (Zf .string W) λh=>
 Z0 (Z2 .gtr h (Q J 4096)) λj=>
 Zh j
 (b ((.tuple [(.str []),(Q J 3)]),H))
 (O3 W H H)
theorem ZbK:O3 X Y H =
 Z0 (Zf .string X) λt9=>
 Z0 (Z2 .shr t9 (.int .u64 8)) λu=>
 Z0 (ZS .u8 u) λw=>
 Z0 (Zf .string X) λy=>
 Z0 (ZS .u8 y) λz=>
 Z0 ((ZB 1 [(0,w),(1,z)] [(.int .u8 0),(.int .u8 0)]).map (.vs 1 .clip)) λA=>
 Z0 (XM A H) λB=>
 Z0 (Y1 .add B X) λj=>
 Z0 (Ze M9 [j] H) λh=>
 Z0 (Y1 .add j h.1) λC=>
 b ((.tuple [C,(Q J 0)]),h.2):=Z9 [3]
theorem ZcT:Nw [W] H=bV W H:=Be 23 [3] func94
def ZdR:Z3:=
 Z0 (Ze OH [W] H) λh=>
 Z0 (ZS .u8 h.1) λC=>
 Z0 (Z2 .shr h.1 (.int .u64 8)) λt9=>
 Z0 (ZS .u8 t9) λj=>
 Z0 (Z2 .shr h.1 (.int .u64 16)) λu=>
 Z0 (ZS .u8 u) λw=>
 Z0 (Z2 .shr h.1 (.int .u64 24)) λy=>
 Z0 (ZS .u8 y) λz=>
 Z0 ((ZB 1 [(0,C),(1,j),(2,w),(3,z)] [(.int .u8 0),(.int .u8 0),(.int .u8 0),(.int .u8 0)]).map (.vs 1 .clip)) λA=>
 Z0 (XM A h.2) λB=>
 b (B,h.2)
theorem Zjg:M9 [W] H=ZdR W H:=Be 19 [] func114
def UA:Z3:=bg 116 19 f116 7 Y [] H
def Xb:KL:=Zc (Cf 116 19 f116 7) (Zd cfg 19 116 f116 Y)
theorem GJ:ZV 19 (Xb Y):=Zv (C:=cfg) (kp:=cfg.keep 116) (bh f116 7) (Zy 116 f116 Y)
def UC:Z3:=Y8 116 19 (bh f116 423) (Zc (Us 116 19 f116 52) (Z7 0 (Xb Y))) [(0,X),(1,V),(7,I),(8,v)] H
def UB:Z3:=Y8 116 19 (bh f116 211) (Zc (Us 116 19 f116 52) (Z7 0 (Xb Y))) [(0,X),(1,V),(7,I),(8,v),(9,x9)] H
def Xc:Z3:=Ly 116 19 (bh f116 52) (Z7 0 (Xb Y)) [(0,X),(1,V),(7,I),(8,v)] H
def UV:Z3:=
 Z0 (Zf (.slice 9) W) λh=>
 Xc W x h (Q J 0) H H
theorem BZ:UA Y H =
 b ((Q J (-1)),H):=Z9 [3,6,7]
theorem D3:UC X V I v Y H =
 Z0 (Z2 .add v (Q J 1)) λh=>
 Xc X V I h Y H:=Z9 [3,6,7]
theorem D2:UB X V I v x9 Y H =
 Z0 (Zr 1 X v) λh=>
 Z0 (Z4 a 1 h H) λj=>
 Z0 (Y1 .eql V j) λu=>
 Zh u
 (b (v,H))
 (UC X V I v Y H):=Z9 [3,6,7]
theorem VI:Xc X V I v Y H =
 Z0 (Z2 .lss v I) λt9=>
 Zh t9
 (UB X V I v t9 Y H)
 (UA Y H):=(ZC (C:=cfg) [3,6,7] (Zo 0 (GJ Y)) _ _).trans dz
theorem Dv:Ww [W,x] H=UV W x H:=Be 19 [3,6,7] func116
def ZbE:Z3:=bg 150 33 f150 15 Y [(3,r)] H
def Pl:KL:=Zc (Cf 150 33 f150 15) (Zd cfg 33 150 f150 Y)
theorem Zds:ZV 33 (Pl Y):=Zv (C:=cfg) (kp:=cfg.keep 150) (bh f150 15) (Zy 150 f150 Y)
def ZbG:Z3:=Y8 150 33 (bh f150 935) (Zc (Us 150 33 f150 116) (Z7 0 (Pl Y))) [(0,X),(3,r),(6,o),(7,I)] H
def ZbF:Z3:=Y8 150 33 (bh f150 467) (Zc (Us 150 33 f150 116) (Z7 0 (Pl Y))) [(0,X),(3,r),(6,o),(7,I),(8,v)] H
def Pm:Z3:=Ly 150 33 (bh f150 116) (Z7 0 (Pl Y)) [(0,X),(3,r),(6,o),(7,I)] H
def ZdQ:Z3:=
 Z0 (Zf .string W) λh=>
 Pm W (.int .u32 4294967295) h (Q J 0) H H
theorem Zi6:ZbE r Y H =
 Z0 (YU .xor r) λh=>
 b (h,H):=Z9 [4,8,9]
theorem Zi8:ZbG X r o I Y H =
 Z0 (Z2 .add I (Q J 1)) λh=>
 Pm X r o h Y H:=Z9 [4,8,9]
theorem Zi7:ZbF X r o I v Y H =
 Z0 (Zp X I) λu=>
 Z0 (ZS .u32 u) λw=>
 Z0 (Z2 .xor r w) λh=>
 Z0 (Z2 .and h (.int .u32 15)) λy=>
 Z0 (NJ 16 1 ZqE y) λz=>
 Z0 (Z4 a 1 z H) λA=>
 Z0 (Z2 .shr h (.int .u64 4)) λB=>
 Z0 (Z2 .xor A B) λj=>
 Z0 (Z2 .and j (.int .u32 15)) λC=>
 Z0 (NJ 16 1 ZqE C) λD=>
 Z0 (Z4 a 1 D H) λE=>
 Z0 (Z2 .shr j (.int .u64 4)) λF=>
 Z0 (Z2 .xor E F) λG=>
 ZbG X G o I Y H:=Z9 [4,8,9]
theorem IY:Pm X r o I Y H =
 Z0 (Z2 .lss I o) λh=>
 Zh h
 (ZbF X r o I h Y H)
 (ZbE r Y H):=(ZC (C:=cfg) [4,8,9] (Zo 0 (Zds Y)) _ _).trans dz
theorem Zjf:OH [W] H=ZdQ W H:=Be 33 [4,8,9] func150
end
end Go.Am
