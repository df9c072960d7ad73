/- The functions of the translation over the abstract machine -/
import Derived.Test.YtjmhpjoedfegkaaGreatDoorRwGx
open Option renaming some->a,none->d
open Bool renaming true->c,false->b
open Go.Proofs.Tryz
open Go.Am.AV renaming int->Q
open Go.IntKind renaming i64->J
namespace Go.Am
open Go.Proofs
set_option maxRecDepth 100000
noncomputable abbrev ZJ (f n:Nat):=Y7 cfg (Za cfg) (ZT cfg (cfg.keep f) n) (cfg.keep f) n Zc Z7
noncomputable abbrev B3 (f n:Nat):=ZT cfg (cfg.keep f) n
noncomputable section
abbrev G6 (f n:Nat)(F:Func)(p:Nat):KL->AL->Hp->Z3:=λk h H=>ZJ f n (sub (Z1 F) (dx p)) k (Y3 (cfg.keep f) (sub (Z1 F) (dx p)) h) H
abbrev Xx (f n:Nat)(F:Func)(p:Nat):KL->AL->Hp->Z3:=λk h H=>B3 f n (sub (Z1 F) (dx p)) k (Y3 (cfg.keep f) (sub (Z1 F) (dx p)) h) H
variable (U x o p3 X W t I O V v s q x9 r x12 x13:AV)(Y H:Hp)
abbrev bn (F:Func)(p:Nat):=sub (Z1 F) (dx p)
abbrev bo:dv:=[3,5,8,9,12,14]
abbrev bp:dv:=[4,7,8,10]
abbrev br:dv:=[3,4,6]
abbrev bt:dv:=[3,6,7,10,11,13]
abbrev bu:dv:=[3,5,7,9,11]
abbrev bw:dv:=[5,6,9,10,12]
abbrev bx:dv:=[3,5,8,10,12]
def Zk9:Z3:=
 Z0 (K9 U (Q J 0)) λt4=>
 Z0 (WU t4 (Q J 262144)) λt5=>
 Z0 ((Yb [(0,1,t5)] [(Q J 0),.nils,(Q J 0),(.bool b),(Q J 0)]).map .agg) λj=>
 Z0 (ZY j H) λh=>
 a (h.1,h.2)
theorem Zm8:pY [U] H=Zk9 U H:=Be 8 [] func8
noncomputable abbrev bk (f n:Nat)(F:Func)(p:Nat)(G:Hp):=λk K=>ZJ f n (sub (Z1 F) (dx p)) (Zd cfg n f F G) k K
def aF:Z3:=bk 10 41 f10 127 Y [(0,X),(1,W),(2,t)] H
def Mh:Z3:=bk 10 41 f10 63 Y [(0,X),(1,W),(2,t)] H
def Mi:KL:=Zc (G6 10 41 f10 63) (Zd cfg 41 10 f10 Y)
theorem Zfw:ZV 41 (Mi Y):=Zv (C:=cfg) (kp:=cfg.keep 10) (bn f10 63) (Zy 10 f10 Y)
def Zeb:Z3:=ZJ 10 41 (bn f10 2003) (Zc (Xx 10 41 f10 500) (Z7 0 (Mi Y))) [(0,X),(1,W),(2,t),(8,q),(9,x9)] H
def Zea:Z3:=ZJ 10 41 (bn f10 1001) (Zc (Xx 10 41 f10 500) (Z7 0 (Mi Y))) [(0,X),(1,W),(2,t),(8,q),(9,x9)] H
def Mj:Z3:=B3 10 41 (bn f10 500) (Z7 0 (Mi Y)) [(0,X),(1,W),(2,t),(8,q),(9,x9)] H
def Ze9:Z3:=bk 10 41 f10 15 Y [(0,X),(1,W),(2,t)] H
def Ze8:Z3:=bk 10 41 f10 7 Y [(0,X),(1,W),(2,t)] H
def Zgs:Z3:=
 Z0 (Y5 (.pointer 79) .eql U .nilp) λh=>
 Zh h
 (a ((.tuple [.nilp,(Q J 5)]),H))
 (Ze8 U x o H H)
theorem dB:aF X W t Y H =
 Z0 ((Yb [(0,1,X),(1,1,W),(2,1,t)] [.nilp,(.str []),(Q J 0),(Q J 0),.nils,.nils,(.bool b)]).map .agg) λj=>
 Z0 (ZY j H) λh=>
 a ((.tuple [h.1,(Q J 0)]),h.2):=Z9 bo
theorem Zjr:Mh X W t Y H =
 Z0 (Z2 .lss t (Q J 0)) λh=>
 Zh h
 (aF X W (Q J 0) Y H)
 (aF X W t Y H):=Z9 bo
theorem Zjs:Zeb X W t q x9 Y H =
 Z0 (Z2 .add x9 (Q J 1)) λh=>
 Mj X W t q h Y H:=Z9 bo
theorem dC:Zea X W t q x9 Y H =
 Z0 (Zr 1 q x9) λj=>
 Z0 (Z4 b 1 j H) λu=>
 Z0 (Q8 [X,u] H) λh=>
 Z0 (Z2 .neq h.1 (Q J 0)) λw=>
 Zh w
 (a ((.tuple [.nilp,h.1]),h.2))
 (Zeb X W t q x9 Y h.2):=Z9 bo
theorem dD:Mj X W t q x9 Y H =
 Z0 (Zf (.slice 9) q) λh=>
 Z0 (Z2 .lss x9 h) λj=>
 Zh j
 (Zea X W t q x9 Y H)
 (Mh X W t Y H):=(ZC (C:=cfg) [3,5,8,9,12,14] (Zo 0 (Zfw Y)) _ _).trans dz
theorem dA:Ze9 X W t Y H =
 Z0 (Ve Sv [X,W] H) λh=>
 Mj X W t h.1 (Q J 0) Y h.2:=Z9 bo
theorem NG:Ze8 X W t Y H =
 Z0 (Ze Fz [W] H) λh=>
 Z0 (YU .not h.1) λj=>
 Zh j
 (a ((.tuple [.nilp,(Q J 4)]),h.2))
 (Ze9 X W t Y h.2):=Z9 bo
theorem Zlb:Sw [U,x,o] H=Zgs U x o H:=Be 41 [3,5,8,9,12,14] func10
def RE:Z3:=
 Z0 (Y5 (.pointer 79) .neq U .nilp) λt5=>
 Z0 (Z8 t5 c bf (a U)) λB=>
 Z0 (Z8 t5 c bf (Zw B)) λC=>
 Z0 (Z8 t5 c bf (Z6 3 C)) λt9=>
 Z0 (Z8 t5 c bf (Z4 b 1 t9 H)) λj=>
 Z0 (Z8 t5 c bf (YU .not j)) λu=>
 Z0 (Zm t5 u (.bool b)) λw=>
 Zh w
 (Z0 (K9 (Q J 0) x) λy=>
 Z0 (Zw U) λz=>
 Z0 (Z6 4 z) λA=>
 Z0 (Zg 1 A y H) λh=>
 a (bf,h.2))
 (a (bf,H))
theorem Cv:Vw [U,x] H=RE U x H:=Be 18 [] func12
def He:Z3:=bk 16 26 f16 15 Y [] H
def JZ:KL:=Zc (G6 16 26 f16 15) (Zd cfg 26 16 f16 Y)
theorem cR:ZV 26 (JZ Y):=Zv (C:=cfg) (kp:=cfg.keep 16) (bn f16 15) (Zy 16 f16 Y)
def Hg:Z3:=ZJ 16 26 (bn f16 467) (Zc (Xx 16 26 f16 116) (Z7 0 (JZ Y))) [(0,X),(1,W),(5,V)] H
def Hf:Z3:=ZJ 16 26 (bn f16 233) (Zc (Xx 16 26 f16 116) (Z7 0 (JZ Y))) [(0,X),(1,W),(5,V)] H
def K0:Z3:=B3 16 26 (bn f16 116) (Z7 0 (JZ Y)) [(0,X),(1,W),(5,V)] H
def Hd:Z3:=bk 16 26 f16 7 Y [(0,X),(1,W)] H
def Im:Z3:=
 Z0 (Zf (.slice 96) U) λj=>
 Z0 (Zf (.slice 96) x) λt9=>
 Z0 (Z2 .neq j t9) λh=>
 Zh h
 (a ((.bool b),H))
 (Hd U x H H)
theorem oF:He Y H =
 a ((.bool c),H):=Z9 [3,5,6,8]
theorem oH:Hg X W V Y H =
 Z0 (Z2 .add V (Q J 1)) λh=>
 K0 X W h Y H:=Z9 [3,5,6,8]
theorem oG:Hf X W V Y H =
 Z0 (Zr 3 X V) λh=>
 Z0 (Z4 c 3 h H) λj=>
 Z0 (Zr 3 W V) λu=>
 Z0 (Z4 c 3 u H) λw=>
 Z0 (Qg Tryz.prog cfg.eqok .neq 96 j w) λy=>
 Zh y
 (a ((.bool b),H))
 (Hg X W V Y H):=Z9 [3,5,6,8]
theorem PO:K0 X W V Y H =
 Z0 (Zf (.slice 96) X) λh=>
 Z0 (Z2 .lss V h) λj=>
 Zh j
 (Hf X W V Y H)
 (He Y H):=(ZC (C:=cfg) [3,5,6,8] (Zo 0 (cR Y)) _ _).trans dz
theorem oE:Hd X W Y H =
 K0 X W (Q J 0) Y H:=Z9 [3,5,6,8]
theorem Za3:Gm [U,x] H=Im U x H:=Be 26 [3,5,6,8] func16
def Ez:Z3:=bk 18 47 f18 31 Y [(3,I)] H
def QY:KL:=Zc (G6 18 47 f18 31) (Zd cfg 47 18 f18 Y)
theorem aA:ZV 47 (QY Y):=Zv (C:=cfg) (kp:=cfg.keep 18) (bn f18 31) (Zy 18 f18 Y)
def EB:Z3:=ZJ 18 47 (bn f18 979) (Zc (Xx 18 47 f18 244) (Z7 0 (QY Y))) [(0,X),(3,I),(4,O)] H
def EA:Z3:=ZJ 18 47 (bn f18 489) (Zc (Xx 18 47 f18 244) (Z7 0 (QY Y))) [(0,X),(3,I),(4,O)] H
def QZ:Z3:=B3 18 47 (bn f18 244) (Z7 0 (QY Y)) [(0,X),(3,I),(4,O)] H
def Ey:Z3:=bk 18 47 f18 15 Y [(0,X),(3,I)] H
def Cx:Z3:=
 Z0 (Y5 (.pointer 79) .eql U .nilp) λh=>
 Zh h
 (a (.nils,H))
 (Ey U .nils H H)
theorem gH:Ez I Y H =
 a (I,H):=Z9 [4,6,7,8]
theorem gJ:EB X I O Y H =
 Z0 (Z2 .add O (Q J 1)) λh=>
 QZ X I h Y H:=Z9 [4,6,7,8]
theorem gI:EA X I O Y H =
 Z0 (Zw X) λj=>
 Z0 (Z6 1 j) λu=>
 Z0 (Z4 b 1 u H) λw=>
 Z0 (Zr 3 w O) λy=>
 Z0 (Z6 0 y) λz=>
 Z0 (Z4 b 1 z H) λA=>
 Z0 (Zw X) λB=>
 Z0 (Z6 1 B) λC=>
 Z0 (Z4 b 1 C H) λD=>
 Z0 (Zr 3 D O) λE=>
 Z0 (Z6 1 E) λF=>
 Z0 (Z4 b 1 F H) λG=>
 Z0 (Zf .string G) λL=>
 Z0 (Zw X) λM=>
 Z0 (Z6 1 M) λt37=>
 Z0 (Z4 b 1 t37 H) λN=>
 Z0 (Zr 3 N O) λP=>
 Z0 (Z6 2 P) λR=>
 Z0 (Z4 b 1 R H) λS=>
 Z0 ((Yb [(0,1,A),(1,1,L),(2,1,S)] [(.str []),(Q J 0),(Q J 0)]).map .agg) λT=>
 Z0 ((ZB 3 [(0,T)] [(.agg [(.str []),(Q J 0),(Q J 0)])]).map (.vs 3 .clip)) λZ=>
 Z0 (Ya 3 32 I Z H) λh=>
 EB X h.1 O Y h.2:=Z9 [4,6,7,8]
theorem TI:QZ X I O Y H =
 Z0 (Zw X) λh=>
 Z0 (Z6 1 h) λj=>
 Z0 (Z4 b 1 j H) λu=>
 Z0 (Zf (.slice 102) u) λw=>
 Z0 (Z2 .lss O w) λy=>
 Zh y
 (EA X I O Y H)
 (Ez I Y H):=(ZC (C:=cfg) [4,6,7,8] (Zo 0 (aA Y)) _ _).trans dz
theorem gG:Ey X I Y H =
 QZ X I (Q J 0) Y H:=Z9 [4,6,7,8]
theorem nN:Xv [U] H=Cx U H:=Be 47 [4,6,7,8] func18
def lE:Z3:=
 Z0 (Ze Jm [U] H) λh=>
 Z0 (Z8 h.1 c bf (a U)) λj=>
 Z0 (Z8 h.1 c bf (Zf .string j)) λu=>
 Z0 (Z8 h.1 c bf (Z2 .leq u (Q J 16))) λw=>
 Z0 (Zm h.1 w (.bool b)) λt9=>
 a (t9,h.2)
theorem ZeQ:Fz [U] H=lE U H:=Be 10 [] func29
def Ze6:Z3:=bk 30 40 f30 63 Y [(5,V)] H
def Mf:KL:=Zc (G6 30 40 f30 63) (Zd cfg 40 30 f30 Y)
theorem Zfv:ZV 40 (Mf Y):=Zv (C:=cfg) (kp:=cfg.keep 30) (bn f30 63) (Zy 30 f30 Y)
def aE:Z3:=ZJ 30 40 (bn f30 2003) (Zc (Xx 30 40 f30 500) (Z7 0 (Mf Y))) [(1,W),(5,V),(6,v),(7,s)] H
def Ze7:Z3:=ZJ 30 40 (bn f30 1001) (Zc (Xx 30 40 f30 500) (Z7 0 (Mf Y))) [(1,W),(5,V),(6,v),(7,s)] H
def Mg:Z3:=B3 30 40 (bn f30 500) (Z7 0 (Mf Y)) [(1,W),(5,V),(6,v),(7,s)] H
def Ze5:Z3:=bk 30 40 f30 15 Y [(0,X),(1,W),(5,V)] H
def fL:Z3:=
 Z0 (Y5 (.pointer 79) .eql U .nilp) λt9=>
 Z0 (Z8 t9 b bf (a x)) λj=>
 Z0 (Z8 t9 b (bf,H) (Ze Fz [j] H)) λh=>
 Z0 (Z8 t9 b bf (YU .not h.1)) λu=>
 Z0 (Zm t9 (.bool c) u) λw=>
 Zh w
 (a (.nils,h.2))
 (Ze5 U x .nils H h.2)
theorem Zjq:Ze6 V Y H =
 a (V,H):=Z9 bp
theorem cY:aE W V v s Y H =
 Z0 (Z2 .add s (Q J 1)) λh=>
 Mg W V v h Y H:=Z9 bp
theorem cX:Ze7 W V v s Y H =
 Z0 (Zr 3 v s) λu=>
 Z0 (Z6 0 u) λw=>
 Z0 (Z4 b 1 w H) λy=>
 Z0 (Ze Tb [y,W] H) λh=>
 Zh h.1
 (Z0 (Zr 3 v s) λz=>
 Z0 (Z6 0 z) λA=>
 Z0 (Z4 b 1 A h.2) λB=>
 Z0 ((ZB 1 [(0,B)] [(.str [])]).map (.vs 1 .clip)) λt37=>
 Z0 (Ya 1 16 V t37 h.2) λj=>
 aE W j.1 v s Y j.2)
 (aE W V v s Y h.2):=Z9 bp
theorem cZ:Mg W V v s Y H =
 Z0 (Zf (.slice 96) v) λh=>
 Z0 (Z2 .lss s h) λj=>
 Zh j
 (Ze7 W V v s Y H)
 (Ze6 V Y H):=(ZC (C:=cfg) [4,7,8,10] (Zo 0 (Zfv Y)) _ _).trans dz
theorem Zjp:Ze5 X W V Y H =
 Z0 (Ve Xv [X] H) λh=>
 Mg W V h.1 (Q J 0) Y h.2:=Z9 bp
theorem lD:Sv [U,x] H=fL U x H:=Be 40 [4,7,8,10] func30
def PW:Z3:=bk 31 19 f31 15 Y [(0,X),(5,V)] H
def MG:Z3:=
 Z0 (WN [U,x] H) λh=>
 Z0 (ZK h.1 0) λu=>
 Z0 (ZK h.1 1) λj=>
 Z0 (Z2 .neq j (Q J 0)) λw=>
 Zh w
 (a (j,h.2))
 (PW U u H h.2)
theorem aB:PW X V Y H =
 Z0 (R8 [X,V] H) λh=>
 a ((Q J 0),h.2):=Z9 [4]
theorem bR:Q8 [U,x] H=MG U x H:=Be 19 [4] func31
def Hn:Z3:=bk 36 52 f36 63 Y [(0,X),(4,O)] H
def Hm:Z3:=bk 36 52 f36 15 Y [(0,X)] H
def Hl:Z3:=bk 36 52 f36 7 Y [(0,X)] H
def Tg:Z3:=
 Z0 (Y5 (.pointer 90) .eql U .nilp) λh=>
 Zh h
 (a ((.tuple [(.str []),(Q J 5)]),H))
 (Hl U H H)
theorem oL:Hn X O Y H =
 Z0 (Zw X) λw=>
 Z0 (Z6 3 w) λy=>
 Z0 (Z4 b 1 y H) λt37=>
 Z0 (Z2 .add t37 (Q J 1)) λz=>
 Z0 (Zw X) λA=>
 Z0 (Z6 3 A) λB=>
 Z0 (Zg 1 B z H) λh=>
 Z0 (Zw X) λC=>
 Z0 (Z6 4 C) λD=>
 Z0 (Z4 b 1 D h.2) λE=>
 Z0 ((ZB 1 [(0,O)] [(.str [])]).map (.vs 1 .clip)) λF=>
 Z0 (Ya 1 16 E F h.2) λj=>
 Z0 (Zw X) λG=>
 Z0 (Z6 4 G) λL=>
 Z0 (Zg 1 L j.1 j.2) λu=>
 a ((.tuple [O,(Q J 0)]),u.2):=Z9 [3,5,9]
theorem PZ:Hm X Y H =
 Z0 (Zw X) λw=>
 Z0 (Z6 1 w) λy=>
 Z0 (Z4 b 1 y H) λz=>
 Z0 (Y1 .add (.str [46,116,109,112,46]) z) λA=>
 Z0 (Y1 .add A (.str [46])) λB=>
 Z0 (Zw X) λC=>
 Z0 (Z6 3 C) λD=>
 Z0 (Z4 b 1 D H) λE=>
 Z0 (Z2 .add E (Q J 1)) λF=>
 Z0 (Ze Ch [F] H) λj=>
 Z0 (Y1 .add B j.1) λu=>
 Z0 (Zw X) λG=>
 Z0 (Z6 0 G) λL=>
 Z0 (Z4 b 1 L j.2) λM=>
 Z0 (GM [M,u] j.2) λh=>
 Z0 (Z2 .neq h.1 (Q J 0)) λN=>
 Zh N
 (a ((.tuple [(.str []),h.1]),h.2))
 (Hn X u Y h.2):=Z9 [3,5,9]
theorem Gb:Hl X Y H =
 Z0 (Zw X) λt9=>
 Z0 (Z6 6 t9) λh=>
 Z0 (Z4 b 1 h H) λj=>
 Zh j
 (a ((.tuple [(.str []),(Q J 8)]),H))
 (Hm X Y H):=Z9 [3,5,9]
theorem MH:Vx [U] H=Tg U H:=Be 52 [3,5,9] func36
def L3:Z3:=bk 37 47 f37 127 Y [(0,X),(1,W),(8,q)] H
def L2:Z3:=bk 37 47 f37 63 Y [(0,X),(1,W),(8,q)] H
def L1:Z3:=bk 37 47 f37 15 Y [(0,X),(1,W),(2,t)] H
def L0:Z3:=bk 37 47 f37 7 Y [(0,X),(1,W),(2,t)] H
def Dt:Z3:=
 Z0 (Wx [U,x] H) λh=>
 Z0 (Z2 .neq h.1 (Q J 0)) λj=>
 Zh j
 (a (h.1,h.2))
 (L0 U x o H h.2)
theorem dE:L3 X W q Y H =
 Z0 (Zw X) λj=>
 Z0 (Z6 0 j) λu=>
 Z0 (Z4 b 1 u H) λw=>
 Z0 (GL [w,W,q] H) λh=>
 a (h.1,h.2):=Z9 [4,6,9,11]
theorem RO:L2 X W q Y H =
 Z0 (Zf .string q) λj=>
 Z0 (Zw X) λu=>
 Z0 (Z6 2 u) λw=>
 Z0 (Z4 b 1 w H) λy=>
 Z0 (Ve R9 [X] H) λh=>
 Z0 (Z2 .sub y h.1) λz=>
 Z0 (Z2 .gtr j z) λA=>
 Zh A
 (a ((Q J 11),h.2))
 (L3 X W q Y h.2):=Z9 [4,6,9,11]
theorem Ju:L1 X W t Y H =
 Z0 (Ze Cl [t] H) λh=>
 Z0 (ZK h.1 0) λu=>
 Z0 (ZK h.1 1) λj=>
 Z0 (Z2 .neq j (Q J 0)) λw=>
 Zh w
 (a (j,h.2))
 (L2 X W u Y h.2):=Z9 [4,6,9,11]
theorem VC:L0 X W t Y H =
 Z0 (Zw X) λj=>
 Z0 (Z6 5 j) λu=>
 Z0 (Z4 b 1 u H) λw=>
 Z0 (Ze MC [w,W] H) λh=>
 Zh h.1
 (a ((Q J 8),h.2))
 (L1 X W t Y h.2):=Z9 [4,6,9,11]
theorem Th:WO [U,x,o] H=Dt U x o H:=Be 47 [4,6,9,11] func37
def EP:Z3:=bk 39 37 f39 15 Y [(0,X),(1,W)] H
def EO:Z3:=bk 39 37 f39 7 Y [(0,X),(1,W)] H
def Rd:Z3:=
 Z0 (Wx [U,x] H) λh=>
 Z0 (Z2 .neq h.1 (Q J 0)) λj=>
 Zh j
 (a (h.1,h.2))
 (EO U x H h.2)
theorem gR:EP X W Y H =
 Z0 (Zw X) λw=>
 Z0 (Z6 5 w) λy=>
 Z0 (Z4 b 1 y H) λz=>
 Z0 (KN [z,W] H) λh=>
 Z0 ((ZB 1 [(0,W)] [(.str [])]).map (.vs 1 .clip)) λA=>
 Z0 (Ya 1 16 h.1 A h.2) λj=>
 Z0 (Zw X) λB=>
 Z0 (Z6 5 B) λC=>
 Z0 (Zg 1 C j.1 j.2) λu=>
 a ((Q J 0),u.2):=Z9 [4,7]
theorem TR:EO X W Y H =
 Z0 (Zw X) λj=>
 Z0 (Z6 0 j) λu=>
 Z0 (Z4 b 1 u H) λw=>
 Z0 (R7 [w,W] H) λh=>
 Z0 (Z2 .neq h.1 (Q J 0)) λy=>
 Zh y
 (a (h.1,h.2))
 (EP X W Y h.2):=Z9 [4,7]
theorem PE:V6 [U,x] H=Rd U x H:=Be 37 [4,7] func39
def TL:Z3:=ZJ 45 61 (bn f45 499) (Zc (Xx 45 61 f45 124) (Z7 0 (Zd cfg 61 45 f45 Y))) [(0,X),(1,W),(4,O)] H
def TK:Z3:=ZJ 45 61 (bn f45 249) (Zc (Xx 45 61 f45 124) (Z7 0 (Zd cfg 61 45 f45 Y))) [(0,X),(1,W),(4,O)] H
def WC:Z3:=B3 45 61 (bn f45 124) (Z7 0 (Zd cfg 61 45 f45 Y)) [(0,X),(1,W),(4,O)] H
def TJ:Z3:=bk 45 61 f45 3 Y [(0,X),(1,W)] H
def PC:Z3:=
 Z0 (Y5 (.pointer 79) .eql U .nilp) λh=>
 Zh h
 (a (bf,H))
 (TJ U x H H)
theorem Ic:TL X W O Y H =
 Z0 (Z2 .add O (Q J 1)) λh=>
 WC X W h Y H:=Z9 [1,5,6]
theorem Ib:TK X W O Y H =
 Z0 (Z2 .rem O (Q J 8)) λz=>
 Z0 (Z2 .mul (Q J 8) z) λA=>
 Z0 (Z2 .shr W A) λB=>
 Z0 (Z2 .rem B (.int .u64 256)) λC=>
 Z0 (ZS .i64 C) λD=>
 Z0 (Zw X) λE=>
 Z0 (Z6 1 E) λF=>
 Z0 (Z4 b 1 F H) λG=>
 Z0 (Zr 3 G O) λL=>
 Z0 (Z4 c 3 L H) λt37=>
 Z0 (a ((.ptr H.length 0),H++[.cells [(.str []),(.str []),(Q J 0)]])) λu=>
 Z0 (Zg 3 u.1 t37 u.2) λh=>
 Z0 (Z6 1 u.1) λM=>
 Z0 (Z4 b 1 M h.2) λN=>
 Z0 (Z6 1 u.1) λP=>
 Z0 (Z4 b 1 P h.2) λR=>
 Z0 (Zf .string R) λS=>
 Z0 (Z6 2 u.1) λT=>
 Z0 (Z4 b 1 T h.2) λZ=>
 Z0 (Z2 .add Z D) λaa=>
 Z0 (WU S aa) λab=>
 Z0 (ZR N d (a ab) d) λac=>
 Z0 (Z6 1 u.1) λad=>
 Z0 (Zg 1 ad ac h.2) λw=>
 Z0 (Z6 1 u.1) λae=>
 Z0 (Z4 b 1 ae w.2) λaf=>
 Z0 (Zf .string af) λag=>
 Z0 (Z6 2 u.1) λah=>
 Z0 (Zg 1 ah ag w.2) λj=>
 Z0 (Zw X) λai=>
 Z0 (Z6 1 ai) λaj=>
 Z0 (Z4 b 1 aj j.2) λak=>
 Z0 (Z4 c 3 u.1 j.2) λal=>
 Z0 (Zr 3 ak O) λam=>
 Z0 (Zg 3 am al j.2) λy=>
 TL X W O Y y.2:=Z9 [1,5,6]
theorem UX:WC X W O Y H =
 Z0 (Zw X) λh=>
 Z0 (Z6 1 h) λj=>
 Z0 (Z4 b 1 j H) λu=>
 Z0 (Zf (.slice 102) u) λw=>
 Z0 (Z2 .lss O w) λy=>
 Zh y
 (TK X W O Y H)
 (a (bf,H)):=(ZC (C:=cfg) [1,5,6] (Zo 0 (Zy 45 f45 Y)) _ _).trans dz
theorem Ia:TJ X W Y H =
 Z0 (Zw X) λu=>
 Z0 (Z6 3 u) λw=>
 Z0 (Zg 1 w (.bool b) H) λh=>
 Z0 (Zw X) λy=>
 Z0 (Z6 4 y) λz=>
 Z0 (Zg 1 z (Q J 0) h.2) λj=>
 WC X W (Q J 0) Y j.2:=Z9 [1,5,6]
theorem OK:UH [U,x] H=PC U x H:=Be 61 [1,5,6] func45
def N1:Z3:=bk 46 31 f46 15 Y [(0,X),(1,W)] H
def N0:Z3:=bk 46 31 f46 7 Y [(0,X),(1,W)] H
def GS:Z3:=
 Z0 (Wx [U,x] H) λh=>
 Z0 (Z2 .neq h.1 (Q J 0)) λj=>
 Zh j
 (a (h.1,h.2))
 (N0 U x H h.2)
theorem aG:N1 X W Y H =
 Z0 (Zw X) λu=>
 Z0 (Z6 4 u) λw=>
 Z0 (Z4 b 1 w H) λy=>
 Z0 (KN [y,W] H) λh=>
 Z0 (Zw X) λz=>
 Z0 (Z6 4 z) λA=>
 Z0 (Zg 1 A h.1 h.2) λj=>
 a ((Q J 0),j.2):=Z9 [4,7]
theorem F1:N0 X W Y H =
 Z0 (Zw X) λj=>
 Z0 (Z6 0 j) λu=>
 Z0 (Z4 b 1 u H) λw=>
 Z0 (Q8 [w,W] H) λh=>
 Z0 (Z2 .neq h.1 (Q J 0)) λy=>
 Zh y
 (a (h.1,h.2))
 (N1 X W Y h.2):=Z9 [4,7]
theorem RF:Wh [U,x] H=GS U x H:=Be 31 [4,7] func46
def Ht:Z3:=bk 54 46 f54 31 Y [(0,X),(5,V)] H
def K5:KL:=Zc (G6 54 46 f54 31) (Zd cfg 46 54 f54 Y)
theorem dF:ZV 46 (K5 Y):=Zv (C:=cfg) (kp:=cfg.keep 54) (bn f54 31) (Zy 54 f54 Y)
def Hv:Z3:=ZJ 54 46 (bn f54 979) (Zc (Xx 54 46 f54 244) (Z7 0 (K5 Y))) [(0,X),(5,V),(6,v)] H
def Hu:Z3:=ZJ 54 46 (bn f54 489) (Zc (Xx 54 46 f54 244) (Z7 0 (K5 Y))) [(0,X),(5,V),(6,v)] H
def K6:Z3:=B3 54 46 (bn f54 244) (Z7 0 (K5 Y)) [(0,X),(5,V),(6,v)] H
def Hs:Z3:=bk 54 46 f54 15 Y [(0,X),(5,V)] H
def Ip:Z3:=
 Z0 (Y1 .add (.str [46,116,109,112,46]) x) λE=>
 Z0 (Y1 .add E (.str [46])) λt9=>
 Z0 (Zf .string U) λj=>
 Z0 (Zf .string t9) λu=>
 Z0 (Z2 .leq j u) λh=>
 Z0 (Z8 h b bf (a U)) λw=>
 Z0 (Z8 h b bf (a t9)) λy=>
 Z0 (Z8 h b bf (Zf .string y)) λz=>
 Z0 (Z8 h b bf (ZR w d (a z) d)) λA=>
 Z0 (Z8 h b bf (a t9)) λB=>
 Z0 (Z8 h b bf (Y1 .neq A B)) λC=>
 Z0 (Zm h (.bool c) C) λD=>
 Zh D
 (a ((.bool b),H))
 (Hs U t9 H H)
theorem oO:Ht X V Y H =
 Z0 (Zf .string V) λh=>
 Z0 (Zp X h) λj=>
 Z0 (Z2 .neq j (.int .u8 48)) λu=>
 a (u,H):=Z9 [4,6,7,9]
theorem oQ:Hv X V v Y H =
 Z0 (Z2 .add v (Q J 1)) λh=>
 K6 X V h Y H:=Z9 [4,6,7,9]
theorem oP:Hu X V v Y H =
 Z0 (Zp X v) λj=>
 Z0 (Z2 .lss j (.int .u8 48)) λh=>
 Z0 (Z8 h b bf (a X)) λu=>
 Z0 (Z8 h b bf (a v)) λt37=>
 Z0 (Z8 h b bf (Zp u t37)) λw=>
 Z0 (Z8 h b bf (Z2 .gtr w (.int .u8 57))) λy=>
 Z0 (Zm h (.bool c) y) λz=>
 Zh z
 (a ((.bool b),H))
 (Hv X V v Y H):=Z9 [4,6,7,9]
theorem N4:K6 X V v Y H =
 Z0 (Zf .string X) λh=>
 Z0 (Z2 .lss v h) λj=>
 Zh j
 (Hu X V v Y H)
 (Ht X V Y H):=(ZC (C:=cfg) [4,6,7,9] (Zo 0 (dF Y)) _ _).trans dz
theorem oN:Hs X V Y H =
 Z0 (Zf .string V) λh=>
 K6 X V h Y H:=Z9 [4,6,7,9]
theorem Za5:Tb [U,x] H=Ip U x H:=Be 46 [4,6,7,9] func54
def MW:Z3:=bk 55 17 f55 63 Y [(6,v)] H
def MV:Z3:=bk 55 17 f55 15 Y [(0,X),(1,W)] H
def MU:Z3:=bk 55 17 f55 7 Y [(0,X),(1,W)] H
def Ec:Z3:=
 Z0 (Y5 (.pointer 79) .eql U .nilp) λh=>
 Zh h
 (a ((.tuple [(Q J 0),(Q J 5)]),H))
 (MU U x H H)
theorem cT:MW v Y H =
 a ((.tuple [v,(Q J 0)]),H):=Z9 [3,5,8]
theorem RK:MV X W Y H =
 Z0 (VL [X,W] H) λh=>
 Z0 (Z2 .lss h.1 (Q J 0)) λj=>
 Zh j
 (a ((.tuple [(Q J 0),(Q J 5)]),h.2))
 (MW h.1 Y h.2):=Z9 [3,5,8]
theorem Jt:MU X W Y H =
 Z0 (QT [X] H) λh=>
 Zh h.1
 (a ((.tuple [(Q J 0),(Q J 19)]),h.2))
 (MV X W Y h.2):=Z9 [3,5,8]
theorem fI:WN [U,x] H=Ec U x H:=Be 17 [3,5,8] func55
def Dx:Z3:=bk 56 32 f56 7 Y [(0,X),(4,O)] H
def J2:KL:=Zc (G6 56 32 f56 7) (Zd cfg 32 56 f56 Y)
theorem aD:ZV 32 (J2 Y):=Zv (C:=cfg) (kp:=cfg.keep 56) (bn f56 7) (Zy 56 f56 Y)
def Dy:Z3:=ZJ 56 32 (bn f56 211) (Zc (Xx 56 32 f56 52) (Z7 0 (J2 Y))) [(0,X),(1,W),(4,O),(5,V)] H
def EJ:Z3:=ZJ 56 32 (bn f56 105) (Zc (Xx 56 32 f56 52) (Z7 0 (J2 Y))) [(0,X),(1,W),(4,O),(5,V)] H
def J3:Z3:=B3 56 32 (bn f56 52) (Z7 0 (J2 Y)) [(0,X),(1,W),(4,O),(5,V)] H
def CB:Z3:=
 J3 U x .nils (Q J 0) H H
theorem gP:Dx X O Y H =
 Z0 (Zw X) λj=>
 Z0 (Z6 1 j) λu=>
 Z0 (Zg 1 u O H) λh=>
 a (bf,h.2):=Z9 br
theorem TO:Dy X W O V Y H =
 Z0 (Z2 .add V (Q J 1)) λh=>
 J3 X W O h Y H:=Z9 br
theorem TN:EJ X W O V Y H =
 Z0 (Z2 .neq V W) λj=>
 Zh j
 (Z0 (Zw X) λu=>
 Z0 (Z6 1 u) λw=>
 Z0 (Z4 b 1 w H) λy=>
 Z0 (Zr 3 y V) λz=>
 Z0 (Z4 c 3 z H) λA=>
 Z0 ((ZB 3 [(0,A)] [(.agg [(.str []),(.str []),(Q J 0)])]).map (.vs 3 .clip)) λB=>
 Z0 (V1 c 3 40 O B H) λh=>
 Dy X W h.1 V Y h.2)
 (Dy X W O V Y H):=Z9 br
theorem TP:J3 X W O V Y H =
 Z0 (Zw X) λw=>
 Z0 (Z6 1 w) λt9=>
 Z0 (Z4 b 1 t9 H) λh=>
 Z0 (Zf (.slice 102) h) λj=>
 Z0 (Z2 .lss V j) λu=>
 Zh u
 (EJ X W O V Y H)
 (Dx X O Y H):=(ZC (C:=cfg) [3,4,6] (Zo 0 (aD Y)) _ _).trans dz
theorem nR:R8 [U,x] H=CB U x H:=Be 32 [3,4,6] func56
def LA:Z3:=bk 71 31 f71 63 Y [(3,I)] H
def Lz:Z3:=bk 71 31 f71 31 Y [(0,X),(3,I)] H
def KQ:KL:=Zc (G6 71 31 f71 31) (Zd cfg 31 71 f71 Y)
theorem Zap:ZV 31 (KQ Y):=Zv (C:=cfg) (kp:=cfg.keep 71) (bn f71 31) (Zy 71 f71 Y)
def lN:Z3:=ZJ 71 31 (bn f71 979) (Zc (Xx 71 31 f71 244) (Z7 0 (KQ Y))) [(0,X),(3,I),(4,O)] H
def Zlh:KL:=Zc (G6 71 31 f71 979) (Zc (Xx 71 31 f71 244) (Z7 0 (KQ Y)))
def LB:Z3:=ZJ 71 31 (bn f71 7827) (Z7 1 (Zlh Y)) [(0,X),(3,I),(4,O),(5,V)] H
def lM:Z3:=ZJ 71 31 (bn f71 489) (Zc (Xx 71 31 f71 244) (Z7 0 (KQ Y))) [(0,X),(3,I),(4,O)] H
def FB:Z3:=B3 71 31 (bn f71 244) (Z7 0 (KQ Y)) [(0,X),(3,I),(4,O)] H
def lL:Z3:=bk 71 31 f71 7 Y [(0,X)] H
def pZ:Z3:=
 Z0 (Z2 .eql U (Q J 0)) λh=>
 Zh h
 (a ((.str [48]),H))
 (lL U H H)
theorem Zf1:LA I Y H =
 a (I,H):=Z9 bt
theorem Zf0:Lz X I Y H =
 Z0 (Z2 .lss X (Q J 0)) λh=>
 Zh h
 (Z0 (Y1 .add (.str [45]) I) λj=>
 LA j Y H)
 (LA I Y H):=Z9 bt
theorem Zf3:lN X I O Y H =
 Z0 (Z2 .quo O (Q J 10)) λh=>
 FB X I h Y H:=Z9 bt
theorem Zf4:LB X I O V Y H =
 Z0 (Z2 .add (Q J 48) V) λh=>
 Z0 (ZS .u8 h) λj=>
 Z0 ((ZB 1 [(0,j)] [(.int .u8 0)]).map (.vs 1 .clip)) λu=>
 Z0 (XM u H) λw=>
 Z0 (Y1 .add w I) λy=>
 lN X y O Y H:=Z9 bt
theorem Zf2:lM X I O Y H =
 Z0 (Z2 .rem O (Q J 10)) λh=>
 Z0 (Z2 .lss h (Q J 0)) λj=>
 Zh j
 (Z0 (YU .neg h) λu=>
 LB X I O u Y H)
 (LB X I O h Y H):=Z9 bt
theorem Rf:FB X I O Y H =
 Z0 (Z2 .neq O (Q J 0)) λh=>
 Zh h
 (lM X I O Y H)
 (Lz X I Y H):=(ZC (C:=cfg) [3,6,7,10,11,13] (Zo 0 (Zap Y)) _ _).trans dz
theorem ZeZ:lL X Y H =
 FB X (.str []) X Y H:=Z9 bt
theorem Zgl:Ch [U] H=pZ U H:=Be 31 [3,6,7,10,11,13] func71
def PV:Z3:=bk 72 26 f72 127 Y [(0,X),(1,W)] H
def PU:Z3:=bk 72 26 f72 63 Y [(0,X),(1,W)] H
def PT:Z3:=bk 72 26 f72 31 Y [(0,X),(1,W)] H
def PS:Z3:=bk 72 26 f72 15 Y [(0,X),(1,W)] H
def PR:Z3:=bk 72 26 f72 7 Y [(0,X),(1,W)] H
def MF:Z3:=
 Z0 (Y5 (.pointer 79) .eql U .nilp) λh=>
 Zh h
 (a ((Q J 5),H))
 (PR U x H H)
theorem OZ:PV X W Y H =
 Z0 ((Yb [(0,1,W)] [(.str []),(.str []),(Q J 0)]).map .agg) λj=>
 Z0 (Ta [X,j] H) λh=>
 a ((Q J 0),h.2):=Z9 bu
theorem F0:PU X W Y H =
 Z0 (Zw X) λh=>
 Z0 (Z6 1 h) λj=>
 Z0 (Z4 b 1 j H) λu=>
 Z0 (Zf (.slice 102) u) λw=>
 Z0 (Z2 .geq w (Q J 64)) λy=>
 Zh y
 (a ((Q J 3),H))
 (PV X W Y H):=Z9 bu
theorem QH:PT X W Y H =
 Z0 (VL [X,W] H) λh=>
 Z0 (Z2 .geq h.1 (Q J 0)) λj=>
 Zh j
 (a ((Q J 6),h.2))
 (PU X W Y h.2):=Z9 bu
theorem Vh:PS X W Y H =
 Z0 (Ze Nu [W] H) λh=>
 Z0 (YU .not h.1) λj=>
 Zh j
 (a ((Q J 4),h.2))
 (PT X W Y h.2):=Z9 bu
theorem W4:PR X W Y H =
 Z0 (QT [X] H) λh=>
 Zh h.1
 (a ((Q J 19),h.2))
 (PS X W Y h.2):=Z9 bu
theorem bQ:GM [U,x] H=MF U x H:=Be 26 [3,5,7,9,11] func72
def Hr:Z3:=bk 73 18 f73 31 Y [] H
def Hq:Z3:=bk 73 18 f73 15 Y [(0,X),(1,W)] H
def Ho:Z3:=bk 73 18 f73 7 Y [(0,X),(1,W)] H
def Ti:Z3:=
 Z0 (Y5 (.pointer 90) .eql U .nilp) λh=>
 Zh h
 (a ((Q J 5),H))
 (Ho U x H H)
theorem oM:Hr Y H =
 a ((Q J 0),H):=Z9 [3,5,7]
theorem N3:Hq X W Y H =
 Z0 (Zw X) λj=>
 Z0 (Z6 4 j) λu=>
 Z0 (Z4 b 1 u H) λw=>
 Z0 (Ze MC [w,W] H) λh=>
 Z0 (YU .not h.1) λy=>
 Zh y
 (a ((Q J 5),h.2))
 (Hr Y h.2):=Z9 [3,5,7]
theorem Gc:Ho X W Y H =
 Z0 (Zw X) λj=>
 Z0 (Z6 6 j) λt9=>
 Z0 (Z4 b 1 t9 H) λh=>
 Zh h
 (a ((Q J 8),H))
 (Hq X W Y H):=Z9 [3,5,7]
theorem MI:Wx [U,x] H=Ti U x H:=Be 18 [3,5,7] func73
def Zh6:Z3:=bk 74 18 f74 7 Y [] H
def SE:KL:=Zc (G6 74 18 f74 7) (Zd cfg 18 74 f74 Y)
theorem Zh9:ZV 18 (SE Y):=Zv (C:=cfg) (kp:=cfg.keep 74) (bn f74 7) (Zy 74 f74 Y)
def Zh8:Z3:=ZJ 74 18 (bn f74 211) (Zc (Xx 74 18 f74 52) (Z7 0 (SE Y))) [(0,X),(1,W),(5,V)] H
def Zh7:Z3:=ZJ 74 18 (bn f74 105) (Zc (Xx 74 18 f74 52) (Z7 0 (SE Y))) [(0,X),(1,W),(5,V)] H
def SF:Z3:=B3 74 18 (bn f74 52) (Z7 0 (SE Y)) [(0,X),(1,W),(5,V)] H
def Zka:Z3:=
 SF U x (Q J 0) H H
theorem Zlj:Zh6 Y H =
 a ((.bool b),H):=Z9 br
theorem Zlk:Zh8 X W V Y H =
 Z0 (Z2 .add V (Q J 1)) λh=>
 SF X W h Y H:=Z9 br
theorem mG:Zh7 X W V Y H =
 Z0 (Zr 1 X V) λh=>
 Z0 (Z4 b 1 h H) λj=>
 Z0 (Y1 .eql j W) λu=>
 Zh u
 (a ((.bool c),H))
 (Zh8 X W V Y H):=Z9 br
theorem mH:SF X W V Y H =
 Z0 (Zf (.slice 9) X) λh=>
 Z0 (Z2 .lss V h) λt9=>
 Zh t9
 (Zh7 X W V Y H)
 (Zh6 Y H):=(ZC (C:=cfg) [3,4,6] (Zo 0 (Zh9 Y)) _ _).trans dz
theorem Zm9:MC [U,x] H=Zka U x H:=Be 18 [3,4,6] func74
def mB:Z3:=bk 75 30 f75 15 Y [(4,O)] H
def KS:KL:=Zc (G6 75 30 f75 15) (Zd cfg 30 75 f75 Y)
theorem ZaQ:ZV 30 (KS Y):=Zv (C:=cfg) (kp:=cfg.keep 75) (bn f75 15) (Zy 75 f75 Y)
def mD:Z3:=ZJ 75 30 (bn f75 467) (Zc (Xx 75 30 f75 116) (Z7 0 (KS Y))) [(0,X),(4,O),(5,V)] H
def Zli:KL:=Zc (G6 75 30 f75 467) (Zc (Xx 75 30 f75 116) (Z7 0 (KS Y)))
def mE:Z3:=ZJ 75 30 (bn f75 3731) (Z7 1 (Zli Y)) [(0,X),(4,O),(5,V),(6,v)] H
def mC:Z3:=ZJ 75 30 (bn f75 233) (Zc (Xx 75 30 f75 116) (Z7 0 (KS Y))) [(0,X),(4,O),(5,V)] H
def FQ:Z3:=B3 75 30 (bn f75 116) (Z7 0 (KS Y)) [(0,X),(4,O),(5,V)] H
def Za2:Z3:=
 FQ U .nils (Q J 0) H H
theorem Zfp:mB O Y H =
 Z0 (XM O H) λh=>
 a ((.tuple [h,(Q J 0)]),H):=Z9 [4,5,8,9]
theorem Zfq:mD X O V Y H =
 Z0 (Z2 .add V (Q J 1)) λh=>
 FQ X O h Y H:=Z9 [4,5,8,9]
theorem Zfr:mE X O V v Y H =
 Z0 (Ya 1 1 O v H) λh=>
 mD X h.1 V Y h.2:=Z9 [4,5,8,9]
theorem Hb:mC X O V Y H =
 Z0 (Zr 1 X V) λu=>
 Z0 (Z4 b 1 u H) λw=>
 Z0 (Ze Cn [w] H) λh=>
 Z0 (ZK h.1 0) λy=>
 Z0 (ZK h.1 1) λj=>
 Z0 (Z2 .neq j (Q J 0)) λz=>
 Zh z
 (a ((.tuple [(.str []),j]),h.2))
 (mE X O V y Y h.2):=Z9 [4,5,8,9]
theorem Hc:FQ X O V Y H =
 Z0 (Zf (.slice 9) X) λh=>
 Z0 (Z2 .lss V h) λj=>
 Zh j
 (mC X O V Y H)
 (mB O Y H):=(ZC (C:=cfg) [4,5,8,9] (Zo 0 (ZaQ Y)) _ _).trans dz
theorem Zgr:Cl [U] H=Za2 U H:=Be 30 [4,5,8,9] func75
def ER:Z3:=bk 76 44 f76 63 Y [(3,I)] H
def J4:KL:=Zc (G6 76 44 f76 63) (Zd cfg 44 76 f76 Y)
theorem aH:ZV 44 (J4 Y):=Zv (C:=cfg) (kp:=cfg.keep 76) (bn f76 63) (Zy 76 f76 Y)
def Dz:Z3:=ZJ 76 44 (bn f76 2003) (Zc (Xx 76 44 f76 500) (Z7 0 (J4 Y))) [(0,X),(3,I),(4,O),(5,V)] H
def ES:Z3:=ZJ 76 44 (bn f76 1001) (Zc (Xx 76 44 f76 500) (Z7 0 (J4 Y))) [(0,X),(3,I),(4,O),(5,V)] H
def J5:Z3:=B3 76 44 (bn f76 500) (Z7 0 (J4 Y)) [(0,X),(3,I),(4,O),(5,V)] H
def EQ:Z3:=bk 76 44 f76 15 Y [(0,X),(3,I)] H
def CC:Z3:=
 Z0 (Y5 (.pointer 90) .eql U .nilp) λh=>
 Z0 (Z8 h b bf (a U)) λt9=>
 Z0 (Z8 h b bf (Zw t9)) λj=>
 Z0 (Z8 h b bf (Z6 6 j)) λu=>
 Z0 (Z8 h b bf (Z4 b 1 u H)) λw=>
 Z0 (Zm h (.bool c) w) λy=>
 Zh y
 (a ((Q J 0),H))
 (EQ U (Q J 0) H H)
theorem gT:ER I Y H =
 a (I,H):=Z9 bp
theorem TT:Dz X I O V Y H =
 Z0 (Z2 .add V (Q J 1)) λh=>
 J5 X I O h Y H:=Z9 bp
theorem TS:ES X I O V Y H =
 Z0 (Zw X) λj=>
 Z0 (Z6 4 j) λu=>
 Z0 (Z4 b 1 u H) λw=>
 Z0 (Zr 3 O V) λy=>
 Z0 (Z6 0 y) λz=>
 Z0 (Z4 b 1 z H) λA=>
 Z0 (Ze MC [w,A] H) λh=>
 Zh h.1
 (Z0 (Zr 3 O V) λB=>
 Z0 (Z6 1 B) λC=>
 Z0 (Z4 b 1 C h.2) λD=>
 Z0 (Z2 .add I D) λE=>
 Dz X E O V Y h.2)
 (Dz X I O V Y h.2):=Z9 bp
theorem TU:J5 X I O V Y H =
 Z0 (Zf (.slice 96) O) λh=>
 Z0 (Z2 .lss V h) λj=>
 Zh j
 (ES X I O V Y H)
 (ER I Y H):=(ZC (C:=cfg) [4,7,8,10] (Zo 0 (aH Y)) _ _).trans dz
theorem gS:EQ X I Y H =
 Z0 (Zw X) λj=>
 Z0 (Z6 0 j) λu=>
 Z0 (Z4 b 1 u H) λw=>
 Z0 (Ve Xv [w] H) λh=>
 J5 X I h.1 (Q J 0) Y h.2:=Z9 bp
theorem nS:R9 [U] H=CC U H:=Be 44 [4,7,8,10] func76
def PQ:Z3:=bk 77 55 f77 31 Y [(0,X),(2,t),(7,s)] H
def PP:Z3:=bk 77 55 f77 15 Y [(0,X),(2,t),(7,s)] H
def ME:Z3:=
 Z0 (WN [U,x] H) λh=>
 Z0 (ZK h.1 0) λu=>
 Z0 (ZK h.1 1) λj=>
 Z0 (Z2 .neq j (Q J 0)) λw=>
 Zh w
 (a (j,h.2))
 (PP U o u H h.2)
theorem OY:PQ X t s Y H =
 Z0 (Zw X) λw=>
 Z0 (Z6 1 w) λy=>
 Z0 (Z4 b 1 y H) λz=>
 Z0 (Zw X) λA=>
 Z0 (Z6 1 A) λB=>
 Z0 (Z4 b 1 B H) λC=>
 Z0 (Zr 3 C s) λD=>
 Z0 (Z6 1 D) λE=>
 Z0 (Z4 b 1 E H) λF=>
 Z0 (Y1 .add F t) λG=>
 Z0 (Zr 3 z s) λL=>
 Z0 (Z6 1 L) λM=>
 Z0 (Zg 1 M G H) λh=>
 Z0 (Zw X) λN=>
 Z0 (Z6 2 N) λP=>
 Z0 (Z4 b 1 P h.2) λR=>
 Z0 (Ve Um [X] h.2) λj=>
 Z0 (K9 R j.1) λS=>
 Z0 (Zw X) λT=>
 Z0 (Z6 2 T) λZ=>
 Z0 (Zg 1 Z S j.2) λu=>
 a ((Q J 0),u.2):=Z9 [4,6]
theorem DZ:PP X t s Y H =
 Z0 (Zf .string t) λj=>
 Z0 (Zw X) λu=>
 Z0 (Z6 0 u) λw=>
 Z0 (Z4 b 1 w H) λy=>
 Z0 (Ve Um [X] H) λh=>
 Z0 (Z2 .sub y h.1) λz=>
 Z0 (Z2 .gtr j z) λA=>
 Zh A
 (a ((Q J 12),h.2))
 (PQ X t s Y h.2):=Z9 [4,6]
theorem bP:GL [U,x,o] H=ME U x o H:=Be 55 [4,6] func77
def EF:Z3:=bk 81 32 f81 15 Y [(0,X),(5,V)] H
def Cz:Z3:=
 Z0 (WN [U,x] H) λh=>
 Z0 (ZK h.1 0) λu=>
 Z0 (ZK h.1 1) λj=>
 Z0 (Z2 .neq j (Q J 0)) λw=>
 Zh w
 (a (j,h.2))
 (EF U u H h.2)
theorem gL:EF X V Y H =
 Z0 (Zw X) λj=>
 Z0 (Z6 1 j) λu=>
 Z0 (Z4 b 1 u H) λw=>
 Z0 (Zw X) λy=>
 Z0 (Z6 1 y) λz=>
 Z0 (Z4 b 1 z H) λA=>
 Z0 (Zr 3 A V) λB=>
 Z0 (Z6 1 B) λC=>
 Z0 (Z4 b 1 C H) λD=>
 Z0 (Zf .string D) λE=>
 Z0 (Zr 3 w V) λF=>
 Z0 (Z6 2 F) λG=>
 Z0 (Zg 1 G E H) λh=>
 a ((Q J 0),h.2):=Z9 [4]
theorem nP:R7 [U,x] H=Cz U x H:=Be 32 [4] func81
def dG:Z3:=bk 82 27 f82 15 Y [(5,V)] H
def BA:KL:=Zc (G6 82 27 f82 15) (Zd cfg 27 82 f82 Y)
theorem oR:ZV 27 (BA Y):=Zv (C:=cfg) (kp:=cfg.keep 82) (bn f82 15) (Zy 82 f82 Y)
def NH:Z3:=ZJ 82 27 (bn f82 467) (Zc (Xx 82 27 f82 116) (Z7 0 (BA Y))) [(0,X),(1,W),(5,V),(6,v)] H
def dH:Z3:=ZJ 82 27 (bn f82 233) (Zc (Xx 82 27 f82 116) (Z7 0 (BA Y))) [(0,X),(1,W),(5,V),(6,v)] H
def BB:Z3:=B3 82 27 (bn f82 116) (Z7 0 (BA Y)) [(0,X),(1,W),(5,V),(6,v)] H
def lF:Z3:=
 BB U x .nils (Q J 0) H H
theorem Zde:dG V Y H =
 a (V,H):=Z9 [4,5,7]
theorem EU:NH X W V v Y H =
 Z0 (Z2 .add v (Q J 1)) λh=>
 BB X W V h Y H:=Z9 [4,5,7]
theorem ET:dH X W V v Y H =
 Z0 (Zr 1 X v) λj=>
 Z0 (Z4 b 1 j H) λu=>
 Z0 (Y1 .neq u W) λw=>
 Zh w
 (Z0 (Zr 1 X v) λy=>
 Z0 (Z4 b 1 y H) λz=>
 Z0 ((ZB 1 [(0,z)] [(.str [])]).map (.vs 1 .clip)) λA=>
 Z0 (Ya 1 16 V A H) λh=>
 NH X W h.1 v Y h.2)
 (NH X W V v Y H):=Z9 [4,5,7]
theorem EV:BB X W V v Y H =
 Z0 (Zf (.slice 9) X) λt9=>
 Z0 (Z2 .lss v t9) λh=>
 Zh h
 (dH X W V v Y H)
 (dG V Y H):=(ZC (C:=cfg) [4,5,7] (Zo 0 (oR Y)) _ _).trans dz
theorem ZeR:KN [U,x] H=lF U x H:=Be 27 [4,5,7] func82
def EN:Z3:=bk 85 48 f85 255 Y [(2,t),(12,x12),(13,x13)] H
def EM:Z3:=bk 85 48 f85 63 Y [(2,t),(10,r)] H
def EL:Z3:=bk 85 48 f85 31 Y [(2,t),(10,r)] H
def EK:Z3:=bk 85 48 f85 7 Y [(0,X),(1,W),(2,t)] H
def Rc:Z3:=
 Z0 (Wx [U,x] H) λh=>
 Z0 (Z2 .neq h.1 (Q J 0)) λj=>
 Zh j
 (a ((.tuple [(.str []),(Q J 0),h.1]),h.2))
 (EK U x o H h.2)
theorem gQ:EN t x12 x13 Y H =
 Z0 (Z2 .add t x13) λh=>
 a ((.tuple [x12,h,(Q J 0)]),H):=Z9 [4,7,9,12]
theorem TQ:EM t r Y H =
 Z0 (Ze fD [r,(Q J 0)] H) λh=>
 Z0 (ZK h.1 0) λu=>
 Z0 (ZK h.1 1) λw=>
 Z0 (ZK h.1 2) λj=>
 Z0 (Z2 .neq j (Q J 0)) λy=>
 Zh y
 (a ((.tuple [(.str []),(Q J 0),j]),h.2))
 (EN t u w Y h.2):=Z9 [4,7,9,12]
theorem K4:EL t r Y H =
 Z0 (Y1 .eql r (.str [])) λh=>
 Zh h
 (a ((.tuple [(.str []),(Q J 0),(Q J 5)]),H))
 (EM t r Y H):=Z9 [4,7,9,12]
theorem VU:EK X W t Y H =
 Z0 (Zw X) λu=>
 Z0 (Z6 0 u) λw=>
 Z0 (Z4 b 1 w H) λy=>
 Z0 (R4 [y,W,t,(Q J 4102)] H) λh=>
 Z0 (ZK h.1 0) λz=>
 Z0 (ZK h.1 1) λj=>
 Z0 (Z2 .neq j (Q J 0)) λA=>
 Zh A
 (a ((.tuple [(.str []),(Q J 0),j]),h.2))
 (EL t z Y h.2):=Z9 [4,7,9,12]
theorem PD:V5 [U,x,o] H=Rc U x o H:=Be 48 [4,7,9,12] func85
def B9:Z3:=bk 89 24 f89 7 Y [(0,X)] H
def Ed:Z3:=
 Z0 (Zw U) λt4=>
 Z0 (Z6 4 t4) λt5=>
 Z0 (Z4 b 1 t5 H) λu=>
 Z0 (Z2 .eql u (Q J 1)) λw=>
 Zh w
 (Z0 (Zw U) λt9=>
 Z0 (Z6 3 t9) λj=>
 Z0 (Zg 1 j (.bool c) H) λh=>
 B9 U H h.2)
 (B9 U H H)
theorem RL:B9 X Y H =
 Z0 (Zw X) λj=>
 Z0 (Z6 4 j) λu=>
 Z0 (Z4 b 1 u H) λw=>
 Z0 (Z2 .sub w (Q J 1)) λy=>
 Z0 (K9 (Q J 0) y) λz=>
 Z0 (Zw X) λA=>
 Z0 (Z6 4 A) λB=>
 Z0 (Zg 1 B z H) λh=>
 Z0 (Zw X) λC=>
 Z0 (Z6 3 C) λD=>
 Z0 (Z4 b 1 D h.2) λE=>
 a (E,h.2):=Z9 [3]
theorem fJ:QT [U] H=Ed U H:=Be 24 [3] func89
def MX:Z3:=bk 90 26 f90 7 Y [] H
def Qd:KL:=Zc (G6 90 26 f90 7) (Zd cfg 26 90 f90 Y)
theorem Ie:ZV 26 (Qd Y):=Zv (C:=cfg) (kp:=cfg.keep 90) (bn f90 7) (Zy 90 f90 Y)
def MZ:Z3:=ZJ 90 26 (bn f90 211) (Zc (Xx 90 26 f90 52) (Z7 0 (Qd Y))) [(0,X),(1,W),(5,V)] H
def MY:Z3:=ZJ 90 26 (bn f90 105) (Zc (Xx 90 26 f90 52) (Z7 0 (Qd Y))) [(0,X),(1,W),(5,V)] H
def Qe:Z3:=B3 90 26 (bn f90 52) (Z7 0 (Qd Y)) [(0,X),(1,W),(5,V)] H
def Ee:Z3:=
 Qe U x (Q J 0) H H
theorem cU:MX Y H =
 a ((Q J (-1)),H):=Z9 br
theorem cV:MZ X W V Y H =
 Z0 (Z2 .add V (Q J 1)) λh=>
 Qe X W h Y H:=Z9 br
theorem RM:MY X W V Y H =
 Z0 (Zw X) λh=>
 Z0 (Z6 1 h) λj=>
 Z0 (Z4 b 1 j H) λu=>
 Z0 (Zr 3 u V) λw=>
 Z0 (Z6 0 w) λy=>
 Z0 (Z4 b 1 y H) λz=>
 Z0 (Y1 .eql z W) λA=>
 Zh A
 (a (V,H))
 (MZ X W V Y H):=Z9 br
theorem RN:Qe X W V Y H =
 Z0 (Zw X) λw=>
 Z0 (Z6 1 w) λt9=>
 Z0 (Z4 b 1 t9 H) λh=>
 Z0 (Zf (.slice 102) h) λj=>
 Z0 (Z2 .lss V j) λu=>
 Zh u
 (MY X W V Y H)
 (MX Y H):=(ZC (C:=cfg) [3,4,6] (Zo 0 (Ie Y)) _ _).trans dz
theorem fK:VL [U,x] H=Ee U x H:=Be 26 [3,4,6] func90
def II:Z3:=bk 101 62 f101 15 Y [] H
def Gt:KL:=Zc (G6 101 62 f101 15) (Zd cfg 62 101 f101 Y)
theorem gF:ZV 62 (Gt Y):=Zv (C:=cfg) (kp:=cfg.keep 101) (bn f101 15) (Zy 101 f101 Y)
def TH:Z3:=ZJ 101 62 (bn f101 467) (Zc (Xx 101 62 f101 116) (Z7 0 (Gt Y))) [(0,X),(3,I)] H
def TG:Z3:=ZJ 101 62 (bn f101 233) (Zc (Xx 101 62 f101 116) (Z7 0 (Gt Y))) [(0,X),(3,I)] H
def Gu:Z3:=B3 101 62 (bn f101 116) (Z7 0 (Gt Y)) [(0,X),(3,I)] H
def IH:Z3:=bk 101 62 f101 7 Y [(0,X)] H
def bO:Z3:=
 Z0 (Y1 .eql U (.str [])) λu=>
 Z0 (Z8 u b bf (a U)) λG=>
 Z0 (Z8 u b bf (Zf .string G)) λt9=>
 Z0 (Z8 u b bf (Z2 .gtr t9 (Q J 32))) λw=>
 Z0 (Zm u (.bool c) w) λh=>
 Z0 (Z8 h b bf (a U)) λy=>
 Z0 (Z8 h b bf (Zp y (Q J 0))) λz=>
 Z0 (Z8 h b bf (Z2 .geq z (.int .u8 48))) λA=>
 Z0 (Z8 h b bf (a A)) λj=>
 Z0 (Z8 j c bf (a U)) λB=>
 Z0 (Z8 j c bf (Zp B (Q J 0))) λC=>
 Z0 (Z8 j c bf (Z2 .leq C (.int .u8 57))) λD=>
 Z0 (Z8 h b bf (Zm j D (.bool b))) λE=>
 Z0 (Zm h (.bool c) E) λF=>
 Zh F
 (a ((.bool b),H))
 (IH U H H)
theorem ZaS:II Y H =
 a ((.bool c),H):=Z9 [3,5,6,9]
theorem ZaU:TH X I Y H =
 Z0 (Z2 .add I (Q J 1)) λh=>
 Gu X h Y H:=Z9 [3,5,6,9]
theorem ZaT:TG X I Y H =
 Z0 (Zp X I) λz=>
 Z0 (Z2 .or z (.int .u8 32)) λy=>
 Z0 (Z2 .lss y (.int .u8 97)) λw=>
 Z0 (Z8 w b bf (a y)) λA=>
 Z0 (Z8 w b bf (Z2 .gtr A (.int .u8 122))) λB=>
 Z0 (Zm w (.bool c) B) λt37=>
 Z0 (Z8 t37 c bf (a X)) λC=>
 Z0 (Z8 t37 c bf (a I)) λD=>
 Z0 (Z8 t37 c bf (Zp C D)) λE=>
 Z0 (Z8 t37 c bf (Z2 .lss E (.int .u8 48))) λF=>
 Z0 (Z8 t37 c bf (a F)) λh=>
 Z0 (Z8 h b bf (a X)) λG=>
 Z0 (Z8 h b bf (a I)) λL=>
 Z0 (Z8 h b bf (Zp G L)) λM=>
 Z0 (Z8 h b bf (Z2 .gtr M (.int .u8 57))) λN=>
 Z0 (Z8 t37 c bf (Zm h (.bool c) N)) λP=>
 Z0 (Zm t37 P (.bool b)) λj=>
 Z0 (Z8 j c bf (a X)) λR=>
 Z0 (Z8 j c bf (a I)) λS=>
 Z0 (Z8 j c bf (Zp R S)) λT=>
 Z0 (Z8 j c bf (Z2 .neq T (.int .u8 95))) λZ=>
 Z0 (Zm j Z (.bool b)) λu=>
 Z0 (Z8 u c bf (a X)) λaa=>
 Z0 (Z8 u c bf (a I)) λab=>
 Z0 (Z8 u c bf (Zp aa ab)) λac=>
 Z0 (Z8 u c bf (Z2 .neq ac (.int .u8 46))) λad=>
 Z0 (Zm u ad (.bool b)) λae=>
 Zh ae
 (a ((.bool b),H))
 (TH X I Y H):=Z9 [3,5,6,9]
theorem MT:Gu X I Y H =
 Z0 (Zf .string X) λh=>
 Z0 (Z2 .lss I h) λj=>
 Zh j
 (TG X I Y H)
 (II Y H):=(ZC (C:=cfg) [3,5,6,9] (Zo 0 (gF Y)) _ _).trans dz
theorem ZaR:IH X Y H =
 Gu X (Q J 0) Y H:=Z9 [3,5,6,9]
theorem ZcR:Nu [U] H=bO U H:=Be 62 [3,5,6,9] func101
def Ut:Z3:=bk 102 55 f102 63 Y [(0,X),(4,O)] H
def Hh:Z3:=bk 102 55 f102 31 Y [(0,X),(3,I),(4,O),(5,V)] H
def Uu:KL:=Zc (G6 102 55 f102 31) (Zd cfg 55 102 f102 Y)
theorem cW:ZV 55 (Uu Y):=Zv (C:=cfg) (kp:=cfg.keep 102) (bn f102 31) (Zy 102 f102 Y)
def Hk:Z3:=ZJ 102 55 (bn f102 979) (Zc (Xx 102 55 f102 244) (Z7 0 (Uu Y))) [(0,X),(3,I),(4,O),(5,V),(6,v)] H
def Zfu:KL:=Zc (G6 102 55 f102 979) (Zc (Xx 102 55 f102 244) (Z7 0 (Uu Y)))
def K2:Z3:=ZJ 102 55 (bn f102 3913) (Z7 1 (Zfu Y)) [(0,X),(3,I),(4,O),(5,V),(6,v)] H
def Hi:Z3:=ZJ 102 55 (bn f102 489) (Zc (Xx 102 55 f102 244) (Z7 0 (Uu Y))) [(0,X),(3,I),(4,O),(5,V),(6,v)] H
def K3:Z3:=B3 102 55 (bn f102 244) (Z7 0 (Uu Y)) [(0,X),(3,I),(4,O),(5,V),(6,v)] H
def Io:Z3:=
 Z0 (ZY x H) λh=>
 K3 U h.1 .nils (.bool b) (Q J 0) H h.2
theorem oI:Ut X O Y H =
 Z0 (Zw X) λj=>
 Z0 (Z6 1 j) λu=>
 Z0 (Zg 1 u O H) λh=>
 a (bf,h.2):=Z9 bw
theorem PX:Hh X I O V Y H =
 Z0 (YU .not V) λj=>
 Zh j
 (Z0 (Z4 c 3 I H) λu=>
 Z0 ((ZB 3 [(0,u)] [(.agg [(.str []),(.str []),(Q J 0)])]).map (.vs 3 .clip)) λw=>
 Z0 (V1 c 3 40 O w H) λh=>
 Ut X h.1 Y h.2)
 (Ut X O Y H):=Z9 bw
theorem oJ:Hk X I O V v Y H =
 Z0 (Z2 .add v (Q J 1)) λh=>
 K3 X I O V h Y H:=Z9 bw
theorem oK:K2 X I O V v Y H =
 Z0 (Zw X) λt37=>
 Z0 (Z6 1 t37) λj=>
 Z0 (Z4 b 1 j H) λu=>
 Z0 (Zr 3 u v) λw=>
 Z0 (Z4 c 3 w H) λy=>
 Z0 ((ZB 3 [(0,y)] [(.agg [(.str []),(.str []),(Q J 0)])]).map (.vs 3 .clip)) λz=>
 Z0 (V1 c 3 40 O z H) λh=>
 Hk X I h.1 V v Y h.2:=Z9 bw
theorem Ga:Hi X I O V v Y H =
 Z0 (YU .not V) λh=>
 Z0 (Z8 h c bf (a X)) λu=>
 Z0 (Z8 h c bf (Zw u)) λw=>
 Z0 (Z8 h c bf (Z6 1 w)) λy=>
 Z0 (Z8 h c bf (Z4 b 1 y H)) λz=>
 Z0 (Z8 h c bf (a v)) λA=>
 Z0 (Z8 h c bf (Zr 3 z A)) λB=>
 Z0 (Z8 h c bf (Z6 0 B)) λC=>
 Z0 (Z8 h c bf (Z4 b 1 C H)) λD=>
 Z0 (Z8 h c bf (Z6 0 I)) λE=>
 Z0 (Z8 h c bf (Z4 b 1 E H)) λF=>
 Z0 (Z8 h c bf (Y1 .gtr D F)) λG=>
 Z0 (Zm h G (.bool b)) λL=>
 Zh L
 (Z0 (Z4 c 3 I H) λM=>
 Z0 ((ZB 3 [(0,M)] [(.agg [(.str []),(.str []),(Q J 0)])]).map (.vs 3 .clip)) λN=>
 Z0 (V1 c 3 40 O N H) λj=>
 K2 X I j.1 (.bool c) v Y j.2)
 (K2 X I O V v Y H):=Z9 bw
theorem PY:K3 X I O V v Y H =
 Z0 (Zw X) λt9=>
 Z0 (Z6 1 t9) λh=>
 Z0 (Z4 b 1 h H) λj=>
 Z0 (Zf (.slice 102) j) λu=>
 Z0 (Z2 .lss v u) λw=>
 Zh w
 (Hi X I O V v Y H)
 (Hh X I O V Y H):=(ZC (C:=cfg) [5,6,9,10,12] (Zo 0 (cW Y)) _ _).trans dz
theorem Za4:Ta [U,x] H=Io U x H:=Be 55 [5,6,9,10,12] func102
def mF:Z3:=bk 103 20 f103 7 Y [(0,X)] H
def Cu:Z3:=
 Z0 (Zf .string U) λt5=>
 Z0 (Z2 .gtr t5 (Q J 4096)) λh=>
 Zh h
 (a ((.tuple [(.str []),(Q J 3)]),H))
 (mF U H H)
theorem Zfs:mF X Y H =
 Z0 (Zf .string X) λC=>
 Z0 (Z2 .quo C (Q J 256)) λt9=>
 Z0 (ZS .u8 t9) λj=>
 Z0 (Zf .string X) λu=>
 Z0 (Z2 .rem u (Q J 256)) λw=>
 Z0 (ZS .u8 w) λy=>
 Z0 ((ZB 1 [(0,j),(1,y)] [(.int .u8 0),(.int .u8 0)]).map (.vs 1 .clip)) λz=>
 Z0 (XM z H) λA=>
 Z0 (Y1 .add A X) λB=>
 Z0 (sealE.run [B] H) λh=>
 a ((.tuple [h.1,(Q J 0)]),h.2):=Z9 [3]
theorem Il:Cn [U] H=Cu U H:=Be 20 [3] func103
def EG:Z3:=bk 104 22 f104 31 Y [(3,I)] H
def J0:KL:=Zc (G6 104 22 f104 31) (Zd cfg 22 104 f104 Y)
theorem aC:ZV 22 (J0 Y):=Zv (C:=cfg) (kp:=cfg.keep 104) (bn f104 31) (Zy 104 f104 Y)
def EI:Z3:=ZJ 104 22 (bn f104 979) (Zc (Xx 104 22 f104 244) (Z7 0 (J0 Y))) [(3,I),(4,O),(5,V)] H
def EH:Z3:=ZJ 104 22 (bn f104 489) (Zc (Xx 104 22 f104 244) (Z7 0 (J0 Y))) [(3,I),(4,O),(5,V)] H
def J1:Z3:=B3 104 22 (bn f104 244) (Z7 0 (J0 Y)) [(3,I),(4,O),(5,V)] H
def CA:Z3:=
 Z0 (Ve Xv [U] H) λh=>
 J1 (Q J 0) h.1 (Q J 0) H h.2
theorem gM:EG I Y H =
 a (I,H):=Z9 [5,6,7]
theorem gO:EI I O V Y H =
 Z0 (Z2 .add V (Q J 1)) λh=>
 J1 I O h Y H:=Z9 [5,6,7]
theorem gN:EH I O V Y H =
 Z0 (Zr 3 O V) λh=>
 Z0 (Z6 1 h) λj=>
 Z0 (Z4 b 1 j H) λu=>
 Z0 (Z2 .add I u) λw=>
 EI w O V Y H:=Z9 [5,6,7]
theorem TM:J1 I O V Y H =
 Z0 (Zf (.slice 96) O) λh=>
 Z0 (Z2 .lss V h) λj=>
 Zh j
 (EH I O V Y H)
 (EG I Y H):=(ZC (C:=cfg) [5,6,7] (Zo 0 (aC Y)) _ _).trans dz
theorem nQ:Um [U] H=CA U H:=Be 22 [5,6,7] func104
def ED:Z3:=bk 112 53 f112 63 Y [(2,t),(3,I),(12,x12)] H
def EC:Z3:=bk 112 53 f112 15 Y [(0,X),(2,t),(3,I),(10,r)] H
def Cy:Z3:=
 Z0 (WN [U,x] H) λh=>
 Z0 (ZK h.1 0) λu=>
 Z0 (ZK h.1 1) λj=>
 Z0 (Z2 .neq j (Q J 0)) λw=>
 Zh w
 (a ((.tuple [(.str []),j]),h.2))
 (EC U o p3 u H h.2)
theorem gK:ED t I x12 Y H =
 Z0 (Zf .string x12) λh=>
 Z0 (Z2 .sub h t) λj=>
 Z0 (WU I j) λu=>
 Z0 (Z2 .add t u) λw=>
 Z0 (ZR x12 (a t) (a w) d) λy=>
 a ((.tuple [y,(Q J 0)]),H):=Z9 [4,7]
theorem K1:EC X t I r Y H =
 Z0 (Zw X) λu=>
 Z0 (Z6 1 u) λw=>
 Z0 (Z4 b 1 w H) λy=>
 Z0 (Zr 3 y r) λz=>
 Z0 (Z6 1 z) λA=>
 Z0 (Z4 b 1 A H) λj=>
 Z0 (Z2 .lss t (Q J 0)) λh=>
 Z0 (Z8 h b bf (a t)) λB=>
 Z0 (Z8 h b bf (a j)) λC=>
 Z0 (Z8 h b bf (Zf .string C)) λD=>
 Z0 (Z8 h b bf (Z2 .gtr B D)) λE=>
 Z0 (Zm h (.bool c) E) λt37=>
 Z0 (Z8 t37 b bf (a I)) λF=>
 Z0 (Z8 t37 b bf (Z2 .lss F (Q J 0))) λG=>
 Z0 (Zm t37 (.bool c) G) λL=>
 Zh L
 (a ((.tuple [(.str []),(Q J 2)]),H))
 (ED t I j Y H):=Z9 [4,7]
theorem nO:R4 [U,x,o,p3] H=Cy U x o p3 H:=Be 53 [4,7] func112
def Ze1:Z3:=bk 113 69 f113 255 Y [(0,X),(1,W),(7,s)] H
def Ze0:Z3:=bk 113 69 f113 127 Y [(0,X),(1,W),(7,s)] H
def ZdZ:Z3:=bk 113 69 f113 63 Y [(0,X),(1,W),(7,s)] H
def ZdY:Z3:=bk 113 69 f113 15 Y [(0,X),(1,W)] H
def ZdX:Z3:=bk 113 69 f113 7 Y [(0,X),(1,W)] H
def JW:Z3:=
 Z0 (Z2 .lss x (Q J 0)) λt9=>
 Z0 (Z8 t9 b bf (a x)) λh=>
 Z0 (Z8 t9 b bf (a U)) λj=>
 Z0 (Z8 t9 b bf (Zf .string j)) λu=>
 Z0 (Z8 t9 b bf (Z2 .gtr h u)) λw=>
 Z0 (Zm t9 (.bool c) w) λy=>
 Zh y
 (a ((.tuple [(.str []),(Q J 0),(Q J 2)]),H))
 (ZdX U x H H)
theorem Zjo:Ze1 X W s Y H =
 Z0 (Z2 .add W (Q J 2)) λh=>
 Z0 (Z2 .add W (Q J 2)) λj=>
 Z0 (Z2 .add j s) λu=>
 Z0 (ZR X (a h) (a u) d) λw=>
 Z0 (Z2 .add W (Q J 6)) λy=>
 Z0 (Z2 .add y s) λz=>
 a ((.tuple [w,z,(Q J 0)]),H):=Z9 bx
theorem cQ:Ze0 X W s Y H =
 Z0 (Z2 .add W (Q J 2)) λj=>
 Z0 (Z2 .add j s) λu=>
 Z0 (ZR X (a W) (a u) d) λw=>
 Z0 (sealE.run [w] H) λh=>
 Z0 (Z2 .add W (Q J 6)) λy=>
 Z0 (Z2 .add y s) λz=>
 Z0 (ZR X (a W) (a z) d) λA=>
 Z0 (Y1 .neq h.1 A) λB=>
 Zh B
 (a ((.tuple [(.str []),(Q J 0),(Q J 13)]),h.2))
 (Ze1 X W s Y h.2):=Z9 bx
theorem NF:ZdZ X W s Y H =
 Z0 (Zf .string X) λh=>
 Z0 (Z2 .sub h W) λt37=>
 Z0 (Z2 .add s (Q J 6)) λj=>
 Z0 (Z2 .lss t37 j) λu=>
 Zh u
 (a ((.tuple [(.str []),(Q J 0),(Q J 14)]),H))
 (Ze0 X W s Y H):=Z9 bx
theorem Bz:ZdY X W Y H =
 Z0 (Zp X W) λj=>
 Z0 (ZS .i64 j) λu=>
 Z0 (Z2 .mul u (Q J 256)) λw=>
 Z0 (Z2 .add W (Q J 1)) λy=>
 Z0 (Zp X y) λz=>
 Z0 (ZS .i64 z) λA=>
 Z0 (Z2 .add w A) λh=>
 Z0 (Z2 .gtr h (Q J 4096)) λB=>
 Zh B
 (a ((.tuple [(.str []),(Q J 0),(Q J 13)]),H))
 (ZdZ X W h Y H):=Z9 bx
theorem Uj:ZdX X W Y H =
 Z0 (Zf .string X) λh=>
 Z0 (Z2 .sub h W) λj=>
 Z0 (Z2 .lss j (Q J 2)) λu=>
 Zh u
 (a ((.tuple [(.str []),(Q J 0),(Q J 14)]),H))
 (ZdY X W Y H):=Z9 bx
theorem Q1:fD [U,x] H=JW U x H:=Be 69 [3,5,8,10,12] func113
end
end Go.Am
