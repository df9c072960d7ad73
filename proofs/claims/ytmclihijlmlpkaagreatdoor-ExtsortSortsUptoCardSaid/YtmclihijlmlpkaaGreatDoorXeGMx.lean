/- The functions of the translation over the abstract machine -/
import Derived.Test.YtmclihijlmlpkaaGreatDoorXeGx
open Option renaming some->b,none->d
open Bool renaming true->c,false->a
open Go.Proofs.Tryz
open Go.Am.AV renaming int->Q
open Go.IntKind renaming i64->J
namespace Go.Am
open Go.Proofs
set_option maxRecDepth 100000
noncomputable abbrev VM (f n:Nat):=Yg cfg (Zb cfg) (Y0 cfg (cfg.keep f) n) (cfg.keep f) n Za Z5
noncomputable abbrev eL (f n:Nat):=Y0 cfg (cfg.keep f) n
noncomputable section
abbrev nJ (f n:Nat)(F:Func)(p:Nat):KL->AL->Hp->Z4:=λk g H=>VM f n (sub (Z1 F) (dd p)) k (Ya (cfg.keep f) (sub (Z1 F) (dd p)) g) H
abbrev PX (f n:Nat)(F:Func)(p:Nat):KL->AL->Hp->Z4:=λk g H=>eL f n (sub (Z1 F) (dd p)) k (Ya (cfg.keep f) (sub (Z1 F) (dd p)) g) H
variable (v t s p3 x0 r W U P q x6 X I O V x:AV)(Y H:Hp)
noncomputable abbrev be (f n:Nat)(F:Func)(p:Nat)(G:Hp):=λk K=>VM f n (sub (Z1 F) (dd p)) (Zf cfg n f F G) k K
abbrev bf (F:Func)(p:Nat):=sub (Z1 F) (dd p)
abbrev bi:da:=[5,6,7,8,12,13,15,17]
def ZdD:Z4:=be 22 33 f22 31 Y [(3,U),(4,P),(7,X)] H
def NR:KL:=Za (nJ 22 33 f22 31) (Zf cfg 33 22 f22 Y)
theorem Zf3:ZH 33 (NR Y):=Zq (C:=cfg) (kp:=cfg.keep 22) (bf f22 31) (Zv 22 f22 Y)
def ZdF:Z4:=VM 22 33 (bf f22 979) (Za (PX 22 33 f22 244) (Z5 0 (NR Y))) [(2,W),(3,U),(4,P),(7,X),(8,I)] H
def ZdE:Z4:=VM 22 33 (bf f22 489) (Za (PX 22 33 f22 244) (Z5 0 (NR Y))) [(2,W),(3,U),(4,P),(7,X),(8,I)] H
def NS:Z4:=eL 22 33 (bf f22 244) (Z5 0 (NR Y)) [(2,W),(3,U),(4,P),(7,X),(8,I)] H
def ZdC:Z4:=be 22 33 f22 15 Y [(2,W),(3,U),(4,P),(7,X)] H
def Zgk:Z4:=
 Z0 (ZF v H) λw=>
 Z0 (ZF t w.2) λj=>
 Z0 (Z2 c 5 j.1 j.2) λt9=>
 Z0 (Ze Qp [t9] j.2) λg=>
 Z0 (Z3 .neq g.1 (Q J 0)) λu=>
 Zl u
 (Z0 (ZR 1 16 .nils s g.2) λh=>
 b (h.1,h.2))
 (ZdC s w.1 j.1 .nils H g.2)
theorem ZjL:ZdD U P X Y H =
 Z0 (Z2 c 6 U H) λh=>
 Z0 (Z2 c 5 P H) λj=>
 Z0 (Ze Ev [h,j,X] H) λg=>
 b (g.1,g.2):=Z9 [4,6,7,8]
theorem ZjN:ZdF W U P X I Y H =
 Z0 (Z3 .add I (Q J 1)) λg=>
 NS W U P X g Y H:=Z9 [4,6,7,8]
theorem ZjM:ZdE W U P X I Y H =
 Z0 (Z2 c 6 U H) λh=>
 Z0 (Z2 c 5 P H) λj=>
 Z0 (Zj 1 W I) λu=>
 Z0 (Z2 a 1 u H) λw=>
 Z0 (Ze RG [h,j,X,w] H) λg=>
 ZdF W U P g.1 I Y g.2:=Z9 [4,6,7,8]
theorem bQ:NS W U P X I Y H =
 Z0 (Zk (.slice 9) W) λg=>
 Z0 (Z3 .lss I g) λh=>
 Zl h
 (ZdE W U P X I Y H)
 (ZdD U P X Y H):=(Zw (C:=cfg) [4,6,7,8] (Zg 0 (Zf3 Y)) _ _).trans df
theorem ZjK:ZdC W U P X Y H =
 NS W U P X (Q J 0) Y H:=Z9 [4,6,7,8]
theorem ZlS:RF [v,t,s] H=Zgk v t s H:=Be 33 [4,6,7,8] func22
def Ld:Z4:=be 42 43 f42 15 Y [(2,W),(3,U),(9,O)] H
def Lf:KL:=Za (nJ 42 43 f42 15) (Zf cfg 43 42 f42 Y)
theorem pY:ZH 43 (Lf Y):=Zq (C:=cfg) (kp:=cfg.keep 42) (bf f42 15) (Zv 42 f42 Y)
def kC:Z4:=VM 42 43 (bf f42 113) (Za (PX 42 43 f42 56) (Z5 0 (Lf Y))) [(2,W),(3,U),(4,P),(5,q),(9,O)] H
def FF:Z4:=eL 42 43 (bf f42 56) (Z5 0 (Lf Y)) [(2,W),(3,U),(4,P),(5,q),(9,O)] H
def nO:Z4:=
 Z0 (ZF v H) λh=>
 Z0 (ZF t h.2) λj=>
 Z0 (Zk (.slice 9) s) λg=>
 FF s p3 h.1 j.1 g H j.2
theorem Zf4:Ld W U O Y H =
 Z0 (YC 1 W d (b O) d) λu=>
 Z0 (ZR 1 16 .nils u H) λg=>
 Z0 ((Zt 1 [(0,U)] [(.str [])]).map (.vs 1 .clip)) λw=>
 Z0 (ZR 1 16 g.1 w g.2) λh=>
 Z0 (YC 1 W (b O) d d) λy=>
 Z0 (ZR 1 16 h.1 y h.2) λj=>
 b (j.1,j.2):=Z9 [3,4]
theorem Zf5:kC W U P q O Y H =
 Z0 (Z3 .sub O (Q J 1)) λg=>
 FF W U P q g Y H:=Z9 [3,4]
theorem Cr:FF W U P q O Y H =
 Z0 (Z3 .gtr O (Q J 0)) λg=>
 Z0 (Z7 g c bh (Z2 c 6 P H)) λj=>
 Z0 (Z7 g c bh (Z2 c 5 q H)) λu=>
 Z0 (Z7 g c bh (b W)) λw=>
 Z0 (Z7 g c bh (b O)) λy=>
 Z0 (Z7 g c bh (Z3 .sub y (Q J 1))) λz=>
 Z0 (Z7 g c bh (Zj 1 w z)) λA=>
 Z0 (Z7 g c bh (Z2 a 1 A H)) λB=>
 Z0 (Z7 g c bh (b U)) λD=>
 Z0 (Z7 g c (bh,H) (Ze Do [j,u,B,D] H)) λh=>
 Z0 (Z7 g c bh (Z3 .gtr h.1 (Q J 0))) λE=>
 Z0 (Zm g E (.bool a)) λF=>
 Zl F
 (kC W U P q O Y h.2)
 (Ld W U O Y h.2):=(Zw (C:=cfg) [3,4] (Zg 0 (pY Y)) _ _).trans df
theorem Zgl:RG [v,t,s,p3] H=nO v t s p3 H:=Be 43 [3,4] func42
def ZdG:Z4:=be 43 47 f43 15 Y [(7,X)] H
def NU:KL:=Za (nJ 43 47 f43 15) (Zf cfg 47 43 f43 Y)
theorem Zf6:ZH 47 (NU Y):=Zq (C:=cfg) (kp:=cfg.keep 43) (bf f43 15) (Zv 43 f43 Y)
def NT:Z4:=VM 43 47 (bf f43 467) (Za (PX 43 47 f43 116) (Z5 0 (NU Y))) [(2,W),(3,U),(4,P),(7,X),(8,I)] H
def ZdH:Z4:=VM 43 47 (bf f43 233) (Za (PX 43 47 f43 116) (Z5 0 (NU Y))) [(2,W),(3,U),(4,P),(7,X),(8,I)] H
def NV:Z4:=eL 43 47 (bf f43 116) (Z5 0 (NU Y)) [(2,W),(3,U),(4,P),(7,X),(8,I)] H
def Zgm:Z4:=
 Z0 (ZF v H) λg=>
 Z0 (ZF t g.2) λh=>
 NV s g.1 h.1 .nils (Q J 0) H h.2
theorem ZjO:ZdG X Y H =
 b (X,H):=Z9 [4,5,7]
theorem ZjP:NT W U P X I Y H =
 Z0 (Z3 .add I (Q J 1)) λg=>
 NV W U P X g Y H:=Z9 [4,5,7]
theorem GF:ZdH W U P X I Y H =
 Z0 (Z8 3 P) λw=>
 Z0 (Z2 a 1 w H) λy=>
 Z0 (Xa .not y) λj=>
 Z0 (Z7 j a bh (b X)) λz=>
 Z0 (Z7 j a bh (Zk (.slice 9) z)) λA=>
 Z0 (Z7 j a bh (Z3 .eql A (Q J 0))) λB=>
 Z0 (Zm j (.bool c) B) λg=>
 Z0 (Z7 g a bh (Z2 c 6 U H)) λC=>
 Z0 (Z7 g a bh (Z2 c 5 P H)) λD=>
 Z0 (Z7 g a bh (b X)) λE=>
 Z0 (Z7 g a bh (b X)) λF=>
 Z0 (Z7 g a bh (Zk (.slice 9) F)) λL=>
 Z0 (Z7 g a bh (Z3 .sub L (Q J 1))) λM=>
 Z0 (Z7 g a bh (Zj 1 E M)) λN=>
 Z0 (Z7 g a bh (Z2 a 1 N H)) λR=>
 Z0 (Z7 g a bh (b W)) λS=>
 Z0 (Z7 g a bh (b I)) λT=>
 Z0 (Z7 g a bh (Zj 1 S T)) λZ=>
 Z0 (Z7 g a bh (Z2 a 1 Z H)) λaa=>
 Z0 (Z7 g a (bh,H) (Ze K0 [C,D,R,aa] H)) λh=>
 Z0 (Z7 g a bh (Z3 .neq h.1 (Q J 0))) λt37=>
 Z0 (Zm g (.bool c) t37) λab=>
 Zl ab
 (Z0 (Zj 1 W I) λac=>
 Z0 (Z2 a 1 ac h.2) λad=>
 Z0 ((Zt 1 [(0,ad)] [(.str [])]).map (.vs 1 .clip)) λae=>
 Z0 (ZR 1 16 X ae h.2) λu=>
 NT W U P u.1 I Y u.2)
 (NT W U P X I Y h.2):=Z9 [4,5,7]
theorem bR:NV W U P X I Y H =
 Z0 (Zk (.slice 9) W) λg=>
 Z0 (Z3 .lss I g) λh=>
 Zl h
 (ZdH W U P X I Y H)
 (ZdG X Y H):=(Zw (C:=cfg) [4,5,7] (Zg 0 (Zf6 Y)) _ _).trans df
theorem ZlT:Ev [v,t,s] H=Zgm v t s H:=Be 47 [4,5,7] func43
def pW:Z4:=VM 46 103 (bf f46 1991) (Z5 3 (Za (PX 46 103 f46 124) (Z5 2 (Zf cfg 103 46 f46 Y)))) [(2,W),(3,U),(4,P),(7,X),(9,O),(10,V)] H
def Gc:Z4:=VM 46 103 (bf f46 995) (Z5 3 (Za (PX 46 103 f46 124) (Z5 2 (Zf cfg 103 46 f46 Y)))) [(2,W),(3,U),(4,P),(7,X),(9,O),(10,V)] H
def Tf:KL:=Za (nJ 46 103 f46 995) (Z5 3 (Za (PX 46 103 f46 124) (Z5 2 (Zf cfg 103 46 f46 Y))))
theorem ZcK:ZH 103 (Tf Y):=Zq (C:=cfg) (kp:=cfg.keep 46) (bf f46 995) (Zg 3 (Qn (C:=cfg) (kp:=cfg.keep 46) (bf f46 124) (Zg 2 (Zv 46 f46 Y))))
def Te:Z4:=VM 46 103 (bf f46 31827) (Za (PX 46 103 f46 7956) (Z5 4 (Tf Y))) [(2,W),(3,U),(4,P),(7,X),(9,O),(10,V),(11,x)] H
def pX:Z4:=VM 46 103 (bf f46 15913) (Za (PX 46 103 f46 7956) (Z5 4 (Tf Y))) [(2,W),(3,U),(4,P),(7,X),(9,O),(10,V),(11,x)] H
def Ti:Z4:=eL 46 103 (bf f46 7956) (Z5 4 (Tf Y)) [(2,W),(3,U),(4,P),(7,X),(9,O),(10,V),(11,x)] H
def Tg:Z4:=eL 46 103 (bf f46 124) (Z5 2 (Zf cfg 103 46 f46 Y)) [(2,W),(3,U),(4,P),(7,X),(9,O)] H
def pV:Z4:=be 46 103 f46 15 Y [(2,W),(3,U),(4,P),(7,X)] H
def ZmJ:KL:=Za (nJ 46 103 f46 15) (Zf cfg 103 46 f46 Y)
def ZmK:KL:=Za (nJ 46 103 f46 117) (ZmJ Y)
def ZmL:Z4:=eL 46 103 (bf f46 932) (Z5 0 (ZmK Y)) [(2,W),(7,X),(8,I)] H
def Zdj:Z4:=
 Z0 (ZF v H) λw=>
 Z0 (ZF t w.2) λh=>
 Z0 (Z2 c 5 h.1 h.2) λj=>
 Z0 (Ze Qp [j] h.2) λg=>
 Z0 (Z3 .neq g.1 (Q J 0)) λu=>
 Zl u
 (ZmL s .nils (Q J 0) H g.2)
 (pV s w.1 h.1 .nils H g.2)
theorem Zhc:pW W U P X O V Y H =
 Z0 (Zj 1 W V) λy=>
 Z0 (Z2 a 1 y H) λz=>
 Z0 (Zj 1 O V) λA=>
 Z0 (Z2 a 1 A H) λB=>
 Z0 (Zj 1 z B) λC=>
 Z0 (Z2 a 1 C H) λD=>
 Z0 ((Zt 1 [(0,D)] [(.str [])]).map (.vs 1 .clip)) λE=>
 Z0 (ZR 1 16 X E H) λg=>
 Z0 (Zj 1 O V) λF=>
 Z0 (Z2 a 1 F g.2) λj=>
 Z0 (Z3 .add j (Q J 1)) λu=>
 Z0 (Zj 1 O V) λw=>
 Z0 (Zc 1 w u g.2) λh=>
 Tg W U P g.1 O Y h.2:=Z9 bi
theorem AI:Gc W U P X O V Y H =
 Z0 (Z3 .lss V (Q J 0)) λh=>
 Zl h
 (Z0 (Z2 c 6 U H) λj=>
 Z0 (Z2 c 5 P H) λu=>
 Z0 (Ze Ev [j,u,X] H) λg=>
 cO Y g.1 g.2)
 (pW W U P X O V Y H):=Z9 bi
theorem Zhe:Te W U P X O V x Y H =
 Z0 (Z3 .add x (Q J 1)) λg=>
 Ti W U P X O V g Y H:=Z9 bi
theorem Zhd:pX W U P X O V x Y H =
 Z0 (Zj 1 O x) λu=>
 Z0 (Z2 a 1 u H) λw=>
 Z0 (Zj 1 W x) λy=>
 Z0 (Z2 a 1 y H) λz=>
 Z0 (Zk (.slice 9) z) λA=>
 Z0 (Z3 .lss w A) λh=>
 Z0 (Z7 h c bh (b V)) λB=>
 Z0 (Z7 h c bh (Z3 .lss B (Q J 0))) λC=>
 Z0 (Z7 h c bh (b C)) λg=>
 Z0 (Z7 g a bh (Z2 c 6 U H)) λD=>
 Z0 (Z7 g a bh (Z2 c 5 P H)) λE=>
 Z0 (Z7 g a bh (b W)) λF=>
 Z0 (Z7 g a bh (b V)) λL=>
 Z0 (Z7 g a bh (Zj 1 F L)) λM=>
 Z0 (Z7 g a bh (Z2 a 1 M H)) λN=>
 Z0 (Z7 g a bh (b O)) λR=>
 Z0 (Z7 g a bh (b V)) λS=>
 Z0 (Z7 g a bh (Zj 1 R S)) λT=>
 Z0 (Z7 g a bh (Z2 a 1 T H)) λZ=>
 Z0 (Z7 g a bh (Zj 1 N Z)) λaa=>
 Z0 (Z7 g a bh (Z2 a 1 aa H)) λab=>
 Z0 (Z7 g a bh (b W)) λac=>
 Z0 (Z7 g a bh (b x)) λad=>
 Z0 (Z7 g a bh (Zj 1 ac ad)) λae=>
 Z0 (Z7 g a bh (Z2 a 1 ae H)) λaf=>
 Z0 (Z7 g a bh (b O)) λag=>
 Z0 (Z7 g a bh (b x)) λah=>
 Z0 (Z7 g a bh (Zj 1 ag ah)) λai=>
 Z0 (Z7 g a bh (Z2 a 1 ai H)) λt70=>
 Z0 (Z7 g a bh (Zj 1 af t70)) λaj=>
 Z0 (Z7 g a bh (Z2 a 1 aj H)) λt72=>
 Z0 (Z7 g a (bh,H) (Ze Do [D,E,ab,t72] H)) λj=>
 Z0 (Z7 g a bh (Z3 .gtr j.1 (Q J 0))) λak=>
 Z0 (Z7 h c bh (Zm g (.bool c) ak)) λal=>
 Z0 (Zm h al (.bool a)) λam=>
 Zl am
 (Te W U P X O x x Y j.2)
 (Te W U P X O V x Y j.2):=Z9 bi
theorem AJ:Ti W U P X O V x Y H =
 Z0 (Zk (.slice 29) W) λg=>
 Z0 (Z3 .lss x g) λh=>
 Zl h
 (pX W U P X O V x Y H)
 (Gc W U P X O V Y H):=(Zw (C:=cfg) [5,6,7,8,12,13,15,17] (Zg 4 (ZcK Y)) _ _).trans df
theorem Th:Tg W U P X O Y H =
 Ti W U P X O (Q J (-1)) (Q J 0) Y H:=(Zw (C:=cfg) [5,6,7,8,12,13,15,17] (Zg 2 (Zv 46 f46 Y)) _ _).trans df
theorem Zhb:pV W U P X Y H =
 Z0 (Zk (.slice 29) W) λh=>
 Z0 (Uy 1 8 a (Q J 0) h h H) λg=>
 Tg W U P X g.1 Y g.2:=Z9 bi
theorem Zjn:IY [v,t,s] H=Zdj v t s H:=Be 103 [5,6,7,8,12,13,15,17] func46
def Uk:Z4:=be 53 8 f53 7 Y [(0,x0)] H
def UI:Z4:=
 Z0 (YJ (.slice 9) .eql v .nils) λt4=>
 Zl t4
 (b (.nils,H))
 (Uk v H H)
theorem B3:Uk x0 Y H =
 Z0 ((Zt 1 [] []).map (.vs 1 .clip)) λt5=>
 Z0 (ZR 1 16 t5 x0 H) λg=>
 b (g.1,g.2):=Z9 [3]
theorem BX:Yr [v] H=UI v H:=Be 8 [3] func53
def TX:Z4:=be 57 22 f57 31 Y [(7,X)] H
def IE:Z4:=be 57 22 f57 7 Y [(2,W),(3,U),(4,P)] H
def aN:Z4:=
 Z0 (ZF v H) λw=>
 Z0 (ZF t w.2) λh=>
 Z0 (Z2 c 5 h.1 h.2) λy=>
 Z0 (Ze Wt [y] h.2) λj=>
 Z0 (Z3 .neq j.1 (Q J 0)) λu=>
 Zl u
 (Z0 (Ze Yr [s] j.2) λg=>
 b (g.1,g.2))
 (IE s w.1 h.1 H j.2)
theorem MK:TX X Y H =
 b (X,H):=Z9 [3,6]
theorem Zbv:IE W U P Y H =
 Wy U H λz3 z=>
 Wy P z λz4 A=>
 Z0 (b (.fn (.func 78) [] [z3,z4])) λj=>
 Z0 (Ze YR [W,j] A) λg=>
 Z0 (Z8 3 z4) λu=>
 Z0 (Z2 a 1 u g.2) λw=>
 Zl w
 (Z0 (b (.fn (.func 81) [] [z3,z4])) λy=>
 Z0 (Ze Ud [g.1,y] g.2) λh=>
 TX h.1 Y h.2)
 (TX g.1 Y g.2):=Z9 [3,6]
theorem Zch:Gz [v,t,s] H=aN v t s H:=Be 22 [3,6] func57
def Qf:Z4:=be 77 67 f77 127 Y [(6,x6),(7,X),(8,I)] H
def WB:KL:=Za (nJ 77 67 f77 127) (Zf cfg 67 77 f77 Y)
theorem GR:ZH 67 (WB Y):=Zq (C:=cfg) (kp:=cfg.keep 77) (bf f77 127) (Zv 77 f77 Y)
def Qg:Z4:=VM 77 67 (bf f77 1009) (Za (PX 77 67 f77 504) (Z5 0 (WB Y))) [(1,r),(6,x6),(7,X),(8,I)] H
def YM:Z4:=eL 77 67 (bf f77 504) (Z5 0 (WB Y)) [(1,r),(6,x6),(7,X),(8,I)] H
def Qe:Z4:=be 77 67 f77 7 Y [(0,x0),(1,r)] H
def Xs:Z4:=
 Z0 (Zk (.slice 9) v) λh=>
 Z0 (Z3 .lss h (Q J 2)) λj=>
 Zl j
 (Z0 (Ze Yr [v] H) λg=>
 b (g.1,g.2))
 (Qe v t H H)
theorem U2:Qf x6 X I Y H =
 Z0 (ZR 1 16 I x6 H) λg=>
 Z0 (ZR 1 16 g.1 X g.2) λh=>
 b (h.1,h.2):=Z9 [3,7,12]
theorem U3:Qg r x6 X I Y H =
 Z0 (Zj 1 x6 (Q J 0)) λu=>
 Z0 (Z2 a 1 u H) λw=>
 Z0 (Zj 1 X (Q J 0)) λy=>
 Z0 (Z2 a 1 y H) λz=>
 Z0 (Yu cfg (Zb cfg) r [w,z] H) λg=>
 Zl g.1
 (Z0 (Zj 1 X (Q J 0)) λA=>
 Z0 (Z2 a 1 A g.2) λB=>
 Z0 ((Zt 1 [(0,B)] [(.str [])]).map (.vs 1 .clip)) λC=>
 Z0 (ZR 1 16 I C g.2) λh=>
 Z0 (YC 1 X (b (Q J 1)) d d) λD=>
 YM r x6 D h.1 Y h.2)
 (Z0 (Zj 1 x6 (Q J 0)) λE=>
 Z0 (Z2 a 1 E g.2) λF=>
 Z0 ((Zt 1 [(0,F)] [(.str [])]).map (.vs 1 .clip)) λL=>
 Z0 (ZR 1 16 I L g.2) λj=>
 Z0 (YC 1 x6 (b (Q J 1)) d d) λM=>
 YM r M X j.1 Y j.2):=Z9 [3,7,12]
theorem YY:YM r x6 X I Y H =
 Z0 (Zk (.slice 9) x6) λh=>
 Z0 (Z3 .gtr h (Q J 0)) λg=>
 Z0 (Z7 g c bh (b X)) λj=>
 Z0 (Z7 g c bh (Zk (.slice 9) j)) λu=>
 Z0 (Z7 g c bh (Z3 .gtr u (Q J 0))) λw=>
 Z0 (Zm g w (.bool a)) λt37=>
 Zl t37
 (Qg r x6 X I Y H)
 (Qf x6 X I Y H):=(Zw (C:=cfg) [3,7,12] (Zg 0 (GR Y)) _ _).trans df
theorem DZ:Qe x0 r Y H =
 Z0 (Zk (.slice 9) x0) λw=>
 Z0 (Z3 .quo w (Q J 2)) λu=>
 Z0 (YC 1 x0 d (b u) d) λy=>
 Z0 (Ze YR [y,r] H) λg=>
 Z0 (YC 1 x0 (b u) d d) λz=>
 Z0 (Ze YR [z,r] g.2) λh=>
 Z0 (Zk (.slice 9) x0) λA=>
 Z0 (Uy 1 16 a (.str []) (Q J 0) A h.2) λj=>
 YM r g.1 h.1 j.1 Y j.2:=Z9 [3,7,12]
theorem Wa:YR [v,t] H=Xs v t H:=Be 67 [3,7,12] func77
def SR:Z4:=
 Z0 (Z2 c 6 s H) λj=>
 Z0 (Z2 c 5 p3 H) λu=>
 Z0 (Ze UZ [j,u,v,t] H) λg=>
 Z0 (Z3 .gtr g.1 (Q J 0)) λh=>
 b (h,g.2)
theorem lL:SD [v,t,s,p3] H=SR v t s p3 H:=Be 13 [] func78
def KQ:Z4:=be 80 35 f80 15 Y [(5,q)] H
def Wq:KL:=Za (nJ 80 35 f80 15) (Zf cfg 35 80 f80 Y)
theorem TY:ZH 35 (Wq Y):=Zq (C:=cfg) (kp:=cfg.keep 80) (bf f80 15) (Zv 80 f80 Y)
def Wp:Z4:=VM 80 35 (bf f80 935) (Za (PX 80 35 f80 116) (Z5 0 (Wq Y))) [(1,r),(5,q),(8,I),(9,O),(10,V)] H
def VU:Z4:=VM 80 35 (bf f80 467) (Za (PX 80 35 f80 116) (Z5 0 (Wq Y))) [(1,r),(5,q),(8,I),(9,O),(10,V),(11,x)] H
def Wr:Z4:=eL 80 35 (bf f80 116) (Z5 0 (Wq Y)) [(1,r),(5,q),(8,I),(9,O),(10,V)] H
def G6:Z4:=
 Z0 (Zk (.slice 9) v) λt9=>
 Wr t .nils v t9 (Q J 0) H H
theorem Nr:KQ q Y H =
 b (q,H):=Z9 [4,7,8]
theorem Nt:Wp r q I O V Y H =
 Z0 (Z3 .add V (Q J 1)) λg=>
 Wr r q I O g Y H:=Z9 [4,7,8]
theorem Ns:VU r q I O V x Y H =
 Z0 (Zj 1 I V) λw=>
 Z0 (Z2 a 1 w H) λu=>
 Z0 (Zk (.slice 9) q) λy=>
 Z0 (Z3 .eql y (Q J 0)) λg=>
 Z0 (Z7 g a bh (b r)) λz=>
 Z0 (Z7 g a bh (b q)) λA=>
 Z0 (Z7 g a bh (b q)) λB=>
 Z0 (Z7 g a bh (Zk (.slice 9) B)) λC=>
 Z0 (Z7 g a bh (Z3 .sub C (Q J 1))) λD=>
 Z0 (Z7 g a bh (Zj 1 A D)) λE=>
 Z0 (Z7 g a bh (Z2 a 1 E H)) λF=>
 Z0 (Z7 g a bh (b u)) λL=>
 Z0 (Z7 g a (bh,H) (Yu cfg (Zb cfg) z [F,L] H)) λh=>
 Z0 (Z7 g a bh (Xa .not h.1)) λM=>
 Z0 (Zm g (.bool c) M) λN=>
 Zl N
 (Z0 ((Zt 1 [(0,u)] [(.str [])]).map (.vs 1 .clip)) λR=>
 Z0 (ZR 1 16 q R h.2) λj=>
 Wp r j.1 I O V Y j.2)
 (Wp r q I O V Y h.2):=Z9 [4,7,8]
theorem Je:Wr r q I O V Y H =
 Z0 (Z3 .lss V O) λg=>
 Zl g
 (VU r q I O V g Y H)
 (KQ q Y H):=(Zw (C:=cfg) [4,7,8] (Zg 0 (TY Y)) _ _).trans df
theorem Ms:Ud [v,t] H=G6 v t H:=Be 35 [4,7,8] func80
def SU:Z4:=
 Z0 (Z2 c 6 s H) λj=>
 Z0 (Z2 c 5 p3 H) λu=>
 Z0 (Ze WL [j,u,v,t] H) λg=>
 Z0 (Z3 .eql g.1 (Q J 0)) λh=>
 b (h,g.2)
theorem lM:SE [v,t,s,p3] H=SU v t s p3 H:=Be 13 [] func81
end
end Go.Am
