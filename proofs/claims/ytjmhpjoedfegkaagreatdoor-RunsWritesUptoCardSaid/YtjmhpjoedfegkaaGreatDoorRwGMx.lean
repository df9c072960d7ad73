/- The functions of the translation over the abstract machine -/
import Derived.Test.YtjmhpjoedfegkaaGreatDoorRwGx
open Option renaming some->b,none->d
open Bool renaming true->c,false->a
open Go.Proofs.Tryz
open Go.Am.AV renaming int->Q
open Go.IntKind renaming i64->J
namespace Go.Am
open Go.Proofs
set_option maxRecDepth 100000
noncomputable abbrev JQ (f n:Nat):=Y7 cfg (Za cfg) (ZT cfg (cfg.keep f) n) (cfg.keep f) n Zc Z7
noncomputable abbrev Zjj (f n:Nat):=ZT cfg (cfg.keep f) n
noncomputable section
abbrev Zm2 (f n:Nat)(F:Func)(p:Nat):KL->AL->Hp->Z3:=λk h H=>JQ f n (sub (Z1 F) (dx p)) k (Y3 (cfg.keep f) (sub (Z1 F) (dx p)) h) H
abbrev Zan (f n:Nat)(F:Func)(p:Nat):KL->AL->Hp->Z3:=λk h H=>Zjj f n (sub (Z1 F) (dx p)) k (Y3 (cfg.keep f) (sub (Z1 F) (dx p)) h) H
variable (I v q p3 x0 t V U O s o X W r x x11:AV)(Y H:Hp)
noncomputable abbrev ae (f n:Nat)(F:Func)(p:Nat)(G:Hp):=λk K=>JQ f n (sub (Z1 F) (dx p)) (Zd cfg n f F G) k K
abbrev af (F:Func)(p:Nat):=sub (Z1 F) (dx p)
def Pq:Z3:=ae 34 22 f34 31 Y [(7,X)] H
def Og:Z3:=ae 34 22 f34 7 Y [(2,V),(3,U),(4,O)] H
def bZ:Z3:=
 Z0 (ZY I H) λy=>
 Z0 (ZY v y.2) λj=>
 Z0 (Z4 c 5 j.1 j.2) λz=>
 Z0 (Ze Qa [z] j.2) λu=>
 Z0 (Z2 .neq u.1 (Q J 0)) λw=>
 Zh w
 (Z0 (Ze Yq [q] u.2) λh=>
 b (h.1,h.2))
 (Og q y.1 j.1 H u.2)
theorem Lj:Pq X Y H =
 b (X,H):=Z9 [3,6]
theorem Zc7:Og V U O Y H =
 XN U H λz3 A=>
 XN O A λz4 B=>
 Z0 (b (.fn (.func 65) [] [z3,z4])) λu=>
 Z0 (Ze YS [V,u] B) λh=>
 Z0 (Z6 3 z4) λw=>
 Z0 (Z4 a 1 w h.2) λy=>
 Zh y
 (Z0 (b (.fn (.func 68) [] [z3,z4])) λz=>
 Z0 (Ze Up [h.1,z] h.2) λj=>
 Pq j.1 Y j.2)
 (Pq h.1 Y h.2):=Z9 [3,6]
theorem ZcW:Bv [I,v,q] H=bZ I v q H:=Be 22 [3,6] func34
def Zef:Z3:=ae 38 33 f38 31 Y [(3,U),(4,O),(7,X)] H
def Mm:KL:=Zc (Zm2 38 33 f38 31) (Zd cfg 33 38 f38 Y)
theorem ZfD:ZV 33 (Mm Y):=Zv (C:=cfg) (kp:=cfg.keep 38) (af f38 31) (Zy 38 f38 Y)
def Zeh:Z3:=JQ 38 33 (af f38 979) (Zc (Zan 38 33 f38 244) (Z7 0 (Mm Y))) [(2,V),(3,U),(4,O),(7,X),(8,W)] H
def Zeg:Z3:=JQ 38 33 (af f38 489) (Zc (Zan 38 33 f38 244) (Z7 0 (Mm Y))) [(2,V),(3,U),(4,O),(7,X),(8,W)] H
def Mn:Z3:=Zjj 38 33 (af f38 244) (Z7 0 (Mm Y)) [(2,V),(3,U),(4,O),(7,X),(8,W)] H
def Zee:Z3:=ae 38 33 f38 15 Y [(2,V),(3,U),(4,O),(7,X)] H
def Zgv:Z3:=
 Z0 (ZY I H) λy=>
 Z0 (ZY v y.2) λu=>
 Z0 (Z4 c 5 u.1 u.2) λt9=>
 Z0 (Ze DT [t9] u.2) λh=>
 Z0 (Z2 .neq h.1 (Q J 0)) λw=>
 Zh w
 (Z0 (Ya 1 16 .nils q h.2) λj=>
 b (j.1,j.2))
 (Zee q y.1 u.1 .nils H h.2)
theorem Zjy:Zef U O X Y H =
 Z0 (Z4 c 6 U H) λj=>
 Z0 (Z4 c 5 O H) λu=>
 Z0 (Ze fF [j,u,X] H) λh=>
 b (h.1,h.2):=Z9 [4,6,7,8]
theorem ZjA:Zeh V U O X W Y H =
 Z0 (Z2 .add W (Q J 1)) λh=>
 Mn V U O X h Y H:=Z9 [4,6,7,8]
theorem Zjz:Zeg V U O X W Y H =
 Z0 (Z4 c 6 U H) λj=>
 Z0 (Z4 c 5 O H) λu=>
 Z0 (Zr 1 V W) λw=>
 Z0 (Z4 a 1 w H) λy=>
 Z0 (Ze Tc [j,u,X,y] H) λh=>
 Zeh V U O h.1 W Y h.2:=Z9 [4,6,7,8]
theorem dS:Mn V U O X W Y H =
 Z0 (Zf (.slice 9) V) λh=>
 Z0 (Z2 .lss W h) λj=>
 Zh j
 (Zeg V U O X W Y H)
 (Zef U O X Y H):=(ZC (C:=cfg) [4,6,7,8] (Zo 0 (ZfD Y)) _ _).trans dz
theorem Zjx:Zee V U O X Y H =
 Mn V U O X (Q J 0) Y H:=Z9 [4,6,7,8]
theorem Zle:Sy [I,v,q] H=Zgv I v q H:=Be 33 [4,6,7,8] func38
def Uz:Z3:=ae 47 8 f47 7 Y [(0,x0)] H
def UU:Z3:=
 Z0 (Y5 (.slice 9) .eql I .nils) λt4=>
 Zh t4
 (b (.nils,H))
 (Uz I H H)
theorem BY:Uz x0 Y H =
 Z0 ((ZB 1 [] []).map (.vs 1 .clip)) λt5=>
 Z0 (Ya 1 16 t5 x0 H) λh=>
 b (h.1,h.2):=Z9 [3]
theorem Du:Yq [I] H=UU I H:=Be 8 [3] func47
def Qs:Z3:=ae 64 67 f64 127 Y [(6,o),(7,X),(8,W)] H
def WF:KL:=Zc (Zm2 64 67 f64 127) (Zd cfg 67 64 f64 Y)
theorem BR:ZV 67 (WF Y):=Zv (C:=cfg) (kp:=cfg.keep 64) (af f64 127) (Zy 64 f64 Y)
def Qt:Z3:=JQ 64 67 (af f64 1009) (Zc (Zan 64 67 f64 504) (Z7 0 (WF Y))) [(1,t),(6,o),(7,X),(8,W)] H
def YN:Z3:=Zjj 64 67 (af f64 504) (Z7 0 (WF Y)) [(1,t),(6,o),(7,X),(8,W)] H
def Qr:Z3:=ae 64 67 f64 7 Y [(0,x0),(1,t)] H
def Xu:Z3:=
 Z0 (Zf (.slice 9) I) λj=>
 Z0 (Z2 .lss j (Q J 2)) λu=>
 Zh u
 (Z0 (Ze Yq [I] H) λh=>
 b (h.1,h.2))
 (Qr I v H H)
theorem Ue:Qs o X W Y H =
 Z0 (Ya 1 16 W o H) λh=>
 Z0 (Ya 1 16 h.1 X h.2) λj=>
 b (j.1,j.2):=Z9 [3,7,12]
theorem Uf:Qt t o X W Y H =
 Z0 (Zr 1 o (Q J 0)) λw=>
 Z0 (Z4 a 1 w H) λy=>
 Z0 (Zr 1 X (Q J 0)) λz=>
 Z0 (Z4 a 1 z H) λA=>
 Z0 (YJ cfg (Za cfg) t [y,A] H) λh=>
 Zh h.1
 (Z0 (Zr 1 X (Q J 0)) λB=>
 Z0 (Z4 a 1 B h.2) λC=>
 Z0 ((ZB 1 [(0,C)] [(.str [])]).map (.vs 1 .clip)) λD=>
 Z0 (Ya 1 16 W D h.2) λj=>
 Z0 (Yk 1 X (b (Q J 1)) d d) λE=>
 YN t o E j.1 Y j.2)
 (Z0 (Zr 1 o (Q J 0)) λF=>
 Z0 (Z4 a 1 F h.2) λG=>
 Z0 ((ZB 1 [(0,G)] [(.str [])]).map (.vs 1 .clip)) λL=>
 Z0 (Ya 1 16 W L h.2) λu=>
 Z0 (Yk 1 o (b (Q J 1)) d d) λM=>
 YN t M X u.1 Y u.2):=Z9 [3,7,12]
theorem X3:YN t o X W Y H =
 Z0 (Zf (.slice 9) o) λj=>
 Z0 (Z2 .gtr j (Q J 0)) λh=>
 Z0 (Z8 h c bf (b X)) λu=>
 Z0 (Z8 h c bf (Zf (.slice 9) u)) λw=>
 Z0 (Z8 h c bf (Z2 .gtr w (Q J 0))) λy=>
 Z0 (Zm h y (.bool a)) λt37=>
 Zh t37
 (Qt t o X W Y H)
 (Qs o X W Y H):=(ZC (C:=cfg) [3,7,12] (Zo 0 (BR Y)) _ _).trans dz
theorem Fi:Qr x0 t Y H =
 Z0 (Zf (.slice 9) x0) λy=>
 Z0 (Z2 .quo y (Q J 2)) λw=>
 Z0 (Yk 1 x0 d (b w) d) λz=>
 Z0 (Ze YS [z,t] H) λh=>
 Z0 (Yk 1 x0 (b w) d d) λA=>
 Z0 (Ze YS [A,t] h.2) λj=>
 Z0 (Zf (.slice 9) x0) λB=>
 Z0 (K8 1 16 a (.str []) (Q J 0) B j.2) λu=>
 YN t h.1 j.1 u.1 Y u.2:=Z9 [3,7,12]
theorem Wf:YS [I,v] H=Xu I v H:=Be 67 [3,7,12] func64
def CI:Z3:=
 Z0 (Z4 c 6 q H) λu=>
 Z0 (Z4 c 5 p3 H) λw=>
 Z0 (Ze Gn [u,w,I,v] H) λh=>
 Z0 (Z2 .gtr h.1 (Q J 0)) λj=>
 b (j,h.2)
theorem nY:Cp [I,v,q,p3] H=CI I v q p3 H:=Be 13 [] func65
def GB:Z3:=ae 67 35 f67 15 Y [(5,s)] H
def Wu:KL:=Zc (Zm2 67 35 f67 15) (Zd cfg 35 67 f67 Y)
theorem Pr:ZV 35 (Wu Y):=Zv (C:=cfg) (kp:=cfg.keep 67) (af f67 15) (Zy 67 f67 Y)
def Wt:Z3:=JQ 67 35 (af f67 935) (Zc (Zan 67 35 f67 116) (Z7 0 (Wu Y))) [(1,t),(5,s),(8,W),(9,r),(10,x)] H
def U0:Z3:=JQ 67 35 (af f67 467) (Zc (Zan 67 35 f67 116) (Z7 0 (Wu Y))) [(1,t),(5,s),(8,W),(9,r),(10,x),(11,x11)] H
def Wv:Z3:=Zjj 67 35 (af f67 116) (Z7 0 (Wu Y)) [(1,t),(5,s),(8,W),(9,r),(10,x)] H
def GT:Z3:=
 Z0 (Zf (.slice 9) I) λt9=>
 Wv v .nils I t9 (Q J 0) H H
theorem NU:GB s Y H =
 b (s,H):=Z9 [4,7,8]
theorem NW:Wt t s W r x Y H =
 Z0 (Z2 .add x (Q J 1)) λh=>
 Wv t s W r h Y H:=Z9 [4,7,8]
theorem NV:U0 t s W r x x11 Y H =
 Z0 (Zr 1 W x) λy=>
 Z0 (Z4 a 1 y H) λw=>
 Z0 (Zf (.slice 9) s) λz=>
 Z0 (Z2 .eql z (Q J 0)) λh=>
 Z0 (Z8 h a bf (b t)) λA=>
 Z0 (Z8 h a bf (b s)) λB=>
 Z0 (Z8 h a bf (b s)) λC=>
 Z0 (Z8 h a bf (Zf (.slice 9) C)) λD=>
 Z0 (Z8 h a bf (Z2 .sub D (Q J 1))) λE=>
 Z0 (Z8 h a bf (Zr 1 B E)) λF=>
 Z0 (Z8 h a bf (Z4 a 1 F H)) λG=>
 Z0 (Z8 h a bf (b w)) λL=>
 Z0 (Z8 h a (bf,H) (YJ cfg (Za cfg) A [G,L] H)) λj=>
 Z0 (Z8 h a bf (YU .not j.1)) λM=>
 Z0 (Zm h (.bool c) M) λN=>
 Zh N
 (Z0 ((ZB 1 [(0,w)] [(.str [])]).map (.vs 1 .clip)) λP=>
 Z0 (Ya 1 16 s P j.2) λu=>
 Wt t u.1 W r x Y u.2)
 (Wt t s W r x Y j.2):=Z9 [4,7,8]
theorem JE:Wv t s W r x Y H =
 Z0 (Z2 .lss x r) λh=>
 Zh h
 (U0 t s W r x h Y H)
 (GB s Y H):=(ZC (C:=cfg) [4,7,8] (Zo 0 (Pr Y)) _ _).trans dz
theorem MK:Up [I,v] H=GT I v H:=Be 35 [4,7,8] func67
def CJ:Z3:=
 Z0 (Z4 c 6 q H) λu=>
 Z0 (Z4 c 5 p3 H) λw=>
 Z0 (Ze VM [u,w,I,v] H) λh=>
 Z0 (Z2 .eql h.1 (Q J 0)) λj=>
 b (j,h.2)
theorem nZ:Cq [I,v,q,p3] H=CJ I v q p3 H:=Be 13 [] func68
def LQ:Z3:=ae 79 43 f79 15 Y [(2,V),(3,U),(9,r)] H
def LR:KL:=Zc (Zm2 79 43 f79 15) (Zd cfg 43 79 f79 Y)
theorem Zb8:ZV 43 (LR Y):=Zv (C:=cfg) (kp:=cfg.keep 79) (af f79 15) (Zy 79 f79 Y)
def mM:Z3:=JQ 79 43 (af f79 113) (Zc (Zan 79 43 f79 56) (Z7 0 (LR Y))) [(2,V),(3,U),(4,O),(5,s),(9,r)] H
def FW:Z3:=Zjj 79 43 (af f79 56) (Z7 0 (LR Y)) [(2,V),(3,U),(4,O),(5,s),(9,r)] H
def Za7:Z3:=
 Z0 (ZY I H) λj=>
 Z0 (ZY v j.2) λu=>
 Z0 (Zf (.slice 9) q) λh=>
 FW q p3 j.1 u.1 h H u.2
theorem ZfE:LQ V U r Y H =
 Z0 (Yk 1 V d (b r) d) λw=>
 Z0 (Ya 1 16 .nils w H) λh=>
 Z0 ((ZB 1 [(0,U)] [(.str [])]).map (.vs 1 .clip)) λy=>
 Z0 (Ya 1 16 h.1 y h.2) λj=>
 Z0 (Yk 1 V (b r) d d) λz=>
 Z0 (Ya 1 16 j.1 z j.2) λu=>
 b (u.1,u.2):=Z9 [3,4]
theorem ZfF:mM V U O s r Y H =
 Z0 (Z2 .sub r (Q J 1)) λh=>
 FW V U O s h Y H:=Z9 [3,4]
theorem HH:FW V U O s r Y H =
 Z0 (Z2 .gtr r (Q J 0)) λh=>
 Z0 (Z8 h c bf (Z4 c 6 O H)) λu=>
 Z0 (Z8 h c bf (Z4 c 5 s H)) λw=>
 Z0 (Z8 h c bf (b V)) λy=>
 Z0 (Z8 h c bf (b r)) λz=>
 Z0 (Z8 h c bf (Z2 .sub z (Q J 1))) λA=>
 Z0 (Z8 h c bf (Zr 1 y A)) λB=>
 Z0 (Z8 h c bf (Z4 a 1 B H)) λD=>
 Z0 (Z8 h c bf (b U)) λE=>
 Z0 (Z8 h c (bf,H) (Ze M4 [u,w,D,E] H)) λj=>
 Z0 (Z8 h c bf (Z2 .gtr j.1 (Q J 0))) λF=>
 Z0 (Zm h F (.bool a)) λG=>
 Zh G
 (mM V U O s r Y j.2)
 (LQ V U r Y j.2):=(ZC (C:=cfg) [3,4] (Zo 0 (Zb8 Y)) _ _).trans dz
theorem Zgw:Tc [I,v,q,p3] H=Za7 I v q p3 H:=Be 43 [3,4] func79
def Zei:Z3:=ae 80 47 f80 15 Y [(7,X)] H
def Mp:KL:=Zc (Zm2 80 47 f80 15) (Zd cfg 47 80 f80 Y)
theorem ZfG:ZV 47 (Mp Y):=Zv (C:=cfg) (kp:=cfg.keep 80) (af f80 15) (Zy 80 f80 Y)
def Mo:Z3:=JQ 80 47 (af f80 467) (Zc (Zan 80 47 f80 116) (Z7 0 (Mp Y))) [(2,V),(3,U),(4,O),(7,X),(8,W)] H
def Zej:Z3:=JQ 80 47 (af f80 233) (Zc (Zan 80 47 f80 116) (Z7 0 (Mp Y))) [(2,V),(3,U),(4,O),(7,X),(8,W)] H
def Mq:Z3:=Zjj 80 47 (af f80 116) (Z7 0 (Mp Y)) [(2,V),(3,U),(4,O),(7,X),(8,W)] H
def Zgx:Z3:=
 Z0 (ZY I H) λh=>
 Z0 (ZY v h.2) λj=>
 Mq q h.1 j.1 .nils (Q J 0) H j.2
theorem ZjB:Zei X Y H =
 b (X,H):=Z9 [4,5,7]
theorem ZjC:Mo V U O X W Y H =
 Z0 (Z2 .add W (Q J 1)) λh=>
 Mq V U O X h Y H:=Z9 [4,5,7]
theorem BE:Zej V U O X W Y H =
 Z0 (Z6 3 O) λy=>
 Z0 (Z4 a 1 y H) λz=>
 Z0 (YU .not z) λu=>
 Z0 (Z8 u a bf (b X)) λA=>
 Z0 (Z8 u a bf (Zf (.slice 9) A)) λB=>
 Z0 (Z8 u a bf (Z2 .eql B (Q J 0))) λC=>
 Z0 (Zm u (.bool c) C) λh=>
 Z0 (Z8 h a bf (Z4 c 6 U H)) λD=>
 Z0 (Z8 h a bf (Z4 c 5 O H)) λE=>
 Z0 (Z8 h a bf (b X)) λF=>
 Z0 (Z8 h a bf (b X)) λG=>
 Z0 (Z8 h a bf (Zf (.slice 9) G)) λL=>
 Z0 (Z8 h a bf (Z2 .sub L (Q J 1))) λM=>
 Z0 (Z8 h a bf (Zr 1 F M)) λN=>
 Z0 (Z8 h a bf (Z4 a 1 N H)) λP=>
 Z0 (Z8 h a bf (b V)) λR=>
 Z0 (Z8 h a bf (b W)) λS=>
 Z0 (Z8 h a bf (Zr 1 R S)) λT=>
 Z0 (Z8 h a bf (Z4 a 1 T H)) λZ=>
 Z0 (Z8 h a (bf,H) (Ze KO [D,E,P,Z] H)) λj=>
 Z0 (Z8 h a bf (Z2 .neq j.1 (Q J 0))) λt37=>
 Z0 (Zm h (.bool c) t37) λaa=>
 Zh aa
 (Z0 (Zr 1 V W) λab=>
 Z0 (Z4 a 1 ab j.2) λac=>
 Z0 ((ZB 1 [(0,ac)] [(.str [])]).map (.vs 1 .clip)) λad=>
 Z0 (Ya 1 16 X ad j.2) λw=>
 Mo V U O w.1 W Y w.2)
 (Mo V U O X W Y j.2):=Z9 [4,5,7]
theorem dT:Mq V U O X W Y H =
 Z0 (Zf (.slice 9) V) λh=>
 Z0 (Z2 .lss W h) λj=>
 Zh j
 (Zej V U O X W Y H)
 (Zei X Y H):=(ZC (C:=cfg) [4,5,7] (Zo 0 (ZfG Y)) _ _).trans dz
theorem Zlf:fF [I,v,q] H=Zgx I v q H:=Be 47 [4,5,7] func80
end
end Go.Am
