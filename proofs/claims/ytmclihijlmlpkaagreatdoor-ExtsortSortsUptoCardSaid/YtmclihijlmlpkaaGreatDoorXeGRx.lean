/- The functions of the translation over the abstract machine -/
import Derived.Test.YtmclihijlmlpkaaGreatDoorXeGx
open Option renaming some->c
open Bool renaming true->b,false->a
open Go.Proofs.Tryz
open Go.Am.AV renaming int->Q
open Go.IntKind renaming i64->J
namespace Go.Am
open Go.Proofs
set_option maxRecDepth 100000
noncomputable abbrev XB (f n:Nat):=Yg cfg (Zb cfg) (Y0 cfg (cfg.keep f) n) (cfg.keep f) n Za Z5
noncomputable abbrev C1 (f n:Nat):=Y0 cfg (cfg.keep f) n
noncomputable section
abbrev MW (f n:Nat)(F:Func)(p:Nat):KL->AL->Hp->Z4:=λk g H=>XB f n (sub (Z1 F) (dd p)) k (Ya (cfg.keep f) (sub (Z1 F) (dd p)) g) H
abbrev UM (f n:Nat)(F:Func)(p:Nat):KL->AL->Hp->Z4:=λk g H=>C1 f n (sub (Z1 F) (dd p)) k (Ya (cfg.keep f) (sub (Z1 F) (dd p)) g) H
variable (p0 p1 p2 p3 p4 r q V I S P x8 T U Z W X R x O v t s:AV)(Y H:Hp)
noncomputable abbrev aa (f n:Nat)(F:Func)(p:Nat)(G:Hp):=λk K=>XB f n (sub (Z1 F) (dd p)) (Zf cfg n f F G) k K
abbrev ab (F:Func)(p:Nat):=sub (Z1 F) (dd p)
abbrev ac:da:=[4,9,10,13,14,15,18,20,21]
abbrev ae:da:=[4,6,8,10,11,13]
abbrev af:da:=[5,6,9,10,11,13,18,19,21,22,23,25]
def Oo:Z4:=aa 10 100 f10 511 Y [(3,V),(4,I),(5,S),(9,T),(12,Z)] H
def Ot:KL:=Za (MW 10 100 f10 511) (Zf cfg 100 10 f10 Y)
theorem Zf8:ZH 100 (Ot Y):=Zq (C:=cfg) (kp:=cfg.keep 10) (ab f10 511) (Zv 10 f10 Y)
def ZdN:Z4:=XB 10 100 (ab f10 4081) (Za (UM 10 100 f10 2040) (Z5 4 (Ot Y))) [(3,V),(4,I),(5,S),(6,P),(9,T),(12,Z),(14,X)] H
def M0:Z4:=C1 10 100 (ab f10 2040) (Z5 4 (Ot Y)) [(3,V),(4,I),(5,S),(6,P),(9,T),(12,Z),(14,X)] H
def On:Z4:=aa 10 100 f10 127 Y [(3,V),(4,I),(5,S),(6,P),(9,T),(12,Z),(13,W),(14,X)] H
def DC:KL:=Za (MW 10 100 f10 127) (Zf cfg 100 10 f10 Y)
theorem Cu:ZH 100 (DC Y):=Zq (C:=cfg) (kp:=cfg.keep 10) (ab f10 127) (Zv 10 f10 Y)
def ZdP:Z4:=XB 10 100 (ab f10 4051) (Za (UM 10 100 f10 1012) (Z5 0 (DC Y))) [(3,V),(4,I),(5,S),(6,P),(9,T),(12,Z),(13,W),(14,X),(15,R)] H
def Ou:KL:=Za (MW 10 100 f10 4051) (Za (UM 10 100 f10 1012) (Z5 0 (DC Y)))
theorem Zf9:ZH 100 (Ou Y):=Zq (C:=cfg) (kp:=cfg.keep 10) (ab f10 4051) (Qn (C:=cfg) (kp:=cfg.keep 10) (ab f10 1012) (Zg 0 (Cu Y)))
def Oq:Z4:=XB 10 100 (ab f10 32403) (Z5 1 (Ou Y)) [(3,V),(4,I),(5,S),(6,P),(9,T),(12,Z),(13,W),(14,X),(15,R),(16,x)] H
def NZ:KL:=Za (MW 10 100 f10 32403) (Z5 1 (Ou Y))
theorem Zfa:ZH 100 (NZ Y):=Zq (C:=cfg) (kp:=cfg.keep 10) (ab f10 32403) (Zg 1 (Zf9 Y))
def ZdR:Z4:=XB 10 100 (ab f10 1036883) (Za (UM 10 100 f10 259220) (Z5 2 (NZ Y))) [(3,V),(4,I),(5,S),(6,P),(9,T),(12,Z),(13,W),(14,X),(15,R),(16,x),(17,O)] H
def ZdQ:Z4:=XB 10 100 (ab f10 518441) (Za (UM 10 100 f10 259220) (Z5 2 (NZ Y))) [(3,V),(4,I),(5,S),(6,P),(9,T),(12,Z),(13,W),(14,X),(15,R),(16,x),(17,O)] H
def M2:Z4:=C1 10 100 (ab f10 259220) (Z5 2 (NZ Y)) [(3,V),(4,I),(5,S),(6,P),(9,T),(12,Z),(13,W),(14,X),(15,R),(16,x),(17,O)] H
def ZdO:Z4:=XB 10 100 (ab f10 2025) (Za (UM 10 100 f10 1012) (Z5 0 (DC Y))) [(3,V),(4,I),(5,S),(6,P),(9,T),(12,Z),(13,W),(14,X),(15,R)] H
def M1:Z4:=C1 10 100 (ab f10 1012) (Z5 0 (DC Y)) [(3,V),(4,I),(5,S),(6,P),(9,T),(12,Z),(13,W),(14,X),(15,R)] H
def ZdM:Z4:=aa 10 100 f10 7 Y [(3,V),(4,I),(5,S),(6,P),(9,T)] H
def Zgo:Z4:=
 Z0 (ZF p0 H) λC=>
 Z0 (ZF p1 C.2) λw=>
 Z0 (ZF p2 w.2) λu=>
 Z0 (c ((.ptr u.2.length 0),u.2++[.cells [(Q J 0),(Q J 0),(Q J 0),(Q J 0)]])) λj=>
 Z0 (Z2 b 5 w.1 j.2) λy=>
 Z0 (Z2 b 2 u.1 j.2) λz=>
 Z0 (Ze O0 [y,z,p3] j.2) λg=>
 Z0 (Z3 .neq g.1 (Q J 0)) λA=>
 Zl A
 (Z0 (c (.agg [(Q J 0),(Q J 0),(Q J 0),(Q J 0)])) λB=>
 Z0 (Zc 4 j.1 B g.2) λh=>
 Z0 (Z2 b 4 j.1 h.2) λv9=>
 c ((.tuple [.nils,v9,g.1]),h.2))
 (ZdM p3 C.1 w.1 u.1 j.1 H g.2)
theorem ZjW:Oo V I S T Z Y H =
 Z0 (Z2 b 6 I H) λj=>
 Z0 (Z2 b 5 S H) λu=>
 Z0 (Ze RF [j,u,V] H) λh=>
 Z0 (Z2 b 4 Z h.2) λw=>
 Z0 (Zc 4 T w h.2) λg=>
 Z0 (Z2 b 4 T g.2) λv9=>
 c ((.tuple [h.1,v9,(Q J 0)]),g.2):=Z9 ac
theorem ZjX:ZdN V I S P T Z X Y H =
 Z0 (Z2 b 6 I H) λj=>
 Z0 (Z2 b 5 S H) λu=>
 Z0 (Z2 b 2 P H) λw=>
 Z0 (Z2 b 4 Z H) λy=>
 Z0 (Ew [j,u,w,X,y] H) λg=>
 Z0 (ZQ g.1 0) λz=>
 Z0 (ZQ g.1 1) λA=>
 Z0 (Zc 4 Z A g.2) λh=>
 M0 V I S P T Z z Y h.2:=Z9 ac
theorem N6:M0 V I S P T Z X Y H =
 Z0 (Zk (.slice 29) X) λg=>
 Z0 (Z8 1 P) λh=>
 Z0 (Z2 a 1 h H) λj=>
 Z0 (Z3 .gtr g j) λu=>
 Zl u
 (ZdN V I S P T Z X Y H)
 (Oo V I S T Z Y H):=(Zw (C:=cfg) [4,9,10,13,14,15,18,20,21] (Zg 4 (Zf8 Y)) _ _).trans df
theorem ZjV:On V I S P T Z W X Y H =
 Z0 (Zk (.slice 29) W) λh=>
 Z0 (Z8 0 Z) λj=>
 Z0 (Zc 1 j h H) λg=>
 M0 V I S P T Z X Y g.2:=Z9 ac
theorem ZjZ:ZdP V I S P T Z W X R Y H =
 Z0 (Z3 .add R (Q J 1)) λg=>
 M1 V I S P T Z W X g Y H:=Z9 ac
theorem Zk0:Oq V I S P T Z W X R x Y H =
 Z0 (Z8 2 Z) λy=>
 Z0 (Z2 a 1 y H) λz=>
 Z0 (Q2 z x) λA=>
 Z0 (Z8 2 Z) λB=>
 Z0 (Zc 1 B A H) λg=>
 Z0 (Z2 b 6 I g.2) λC=>
 Z0 (Z2 b 5 S g.2) λD=>
 Z0 (Zj 1 W R) λE=>
 Z0 (Z2 a 1 E g.2) λF=>
 Z0 (Ze RF [C,D,F] g.2) λj=>
 Z0 ((Zt 1 [(0,j.1)] [.nils]).map (.vs 1 .clip)) λt70=>
 Z0 (Xu a 1 24 X t70 j.2) λh=>
 Z0 (Z8 3 Z) λt72=>
 Z0 (Z2 a 1 t72 h.2) λL=>
 Z0 (Kb Ex [h.1] h.2) λu=>
 Z0 (Q2 L u.1) λM=>
 Z0 (Z8 3 Z) λN=>
 Z0 (Zc 1 N M u.2) λw=>
 ZdP V I S P T Z W h.1 R Y w.2:=Z9 ac
theorem Zk2:ZdR V I S P T Z W X R x O Y H =
 Z0 (Z3 .add O (Q J 1)) λg=>
 M2 V I S P T Z W X R x g Y H:=Z9 ac
theorem Zk1:ZdQ V I S P T Z W X R x O Y H =
 Z0 (Zj 1 W R) λg=>
 Z0 (Z2 a 1 g H) λh=>
 Z0 (Zj 1 h O) λj=>
 Z0 (Z2 a 1 j H) λu=>
 Z0 (Zk .string u) λw=>
 Z0 (Z3 .add x w) λy=>
 Z0 (Z3 .add y (Q J 16)) λz=>
 ZdR V I S P T Z W X R z O Y H:=Z9 ac
theorem bW:M2 V I S P T Z W X R x O Y H =
 Z0 (Zj 1 W R) λg=>
 Z0 (Z2 a 1 g H) λh=>
 Z0 (Zk (.slice 9) h) λj=>
 Z0 (Z3 .lss O j) λu=>
 Zl u
 (ZdQ V I S P T Z W X R x O Y H)
 (Oq V I S P T Z W X R x Y H):=(Zw (C:=cfg) [4,9,10,13,14,15,18,20,21] (Zg 2 (Zfa Y)) _ _).trans df
theorem ZjY:ZdO V I S P T Z W X R Y H =
 M2 V I S P T Z W X R (Q J 0) (Q J 0) Y H:=Z9 ac
theorem bV:M1 V I S P T Z W X R Y H =
 Z0 (Zk (.slice 29) W) λg=>
 Z0 (Z3 .lss R g) λh=>
 Zl h
 (ZdO V I S P T Z W X R Y H)
 (On V I S P T Z W X Y H):=(Zw (C:=cfg) [4,9,10,13,14,15,18,20,21] (Zg 0 (Cu Y)) _ _).trans df
theorem ZjU:ZdM V I S P T Y H =
 Z0 (c (.agg [(Q J 0),(Q J 0),(Q J 0),(Q J 0)])) λu=>
 Z0 (c ((.ptr H.length 0),H++[.cells [(Q J 0),(Q J 0),(Q J 0),(Q J 0)]])) λg=>
 Z0 (Zc 4 g.1 u g.2) λj=>
 Z0 (Z8 0 P) λw=>
 Z0 (Z2 a 1 w j.2) λy=>
 Z0 (Ze IZ [V,y] j.2) λh=>
 M1 V I S P T g.1 h.1 .nils (Q J 0) Y h.2:=Z9 ac
theorem ZlV:eB [p0,p1,p2,p3] H=Zgo p0 p1 p2 p3 H:=Be 100 [4,9,10,13,14,15,18,20,21] func10
def Za4:Z4:=aa 20 32 f20 63 Y [] H
def Tn:KL:=Za (MW 20 32 f20 63) (Zf cfg 32 20 f20 Y)
theorem ZcM:ZH 32 (Tn Y):=Zq (C:=cfg) (kp:=cfg.keep 20) (ab f20 63) (Zv 20 f20 Y)
def Za6:Z4:=XB 20 32 (ab f20 2003) (Za (UM 20 32 f20 500) (Z5 0 (Tn Y))) [(2,q),(8,x8)] H
def Za5:Z4:=XB 20 32 (ab f20 1001) (Za (UM 20 32 f20 500) (Z5 0 (Tn Y))) [(2,q),(8,x8)] H
def To:Z4:=C1 20 32 (ab f20 500) (Z5 0 (Tn Y)) [(2,q),(8,x8)] H
def Za3:Z4:=aa 20 32 f20 31 Y [(2,q)] H
def Za2:Z4:=aa 20 32 f20 15 Y [(2,q)] H
def Za1:Z4:=aa 20 32 f20 7 Y [(2,q),(4,I)] H
def Zdl:Z4:=
 Z0 (ZF p0 H) λu=>
 Z0 (ZF p1 u.2) λh=>
 Z0 (Z2 b 5 u.1 h.2) λt9=>
 Z0 (Ze Qp [t9] h.2) λg=>
 Z0 (Z3 .neq g.1 (Q J 0)) λj=>
 Zl j
 (c (g.1,g.2))
 (Za1 p2 h.1 H g.2)
theorem Zhi:Za4 Y H =
 c ((Q J 0),H):=Z9 ae
theorem Zhj:Za6 q x8 Y H =
 Z0 (Z3 .add x8 (Q J 1)) λg=>
 To q g Y H:=Z9 ae
theorem AN:Za5 q x8 Y H =
 Z0 (Zj 1 q x8) λg=>
 Z0 (Z2 a 1 g H) λh=>
 Z0 (Zk .string h) λj=>
 Z0 (Z3 .gtr j (Q J 4096)) λu=>
 Zl u
 (c ((Q J 3),H))
 (Za6 q x8 Y H):=Z9 ae
theorem AO:To q x8 Y H =
 Z0 (Zk (.slice 9) q) λg=>
 Z0 (Z3 .lss x8 g) λh=>
 Zl h
 (Za5 q x8 Y H)
 (Za4 Y H):=(Zw (C:=cfg) [4,6,8,10,11,13] (Zg 0 (ZcM Y)) _ _).trans df
theorem Zhh:Za3 q Y H =
 To q (Q J 0) Y H:=Z9 ae
theorem AM:Za2 q Y H =
 Z0 (Zk (.slice 9) q) λg=>
 Z0 (Z3 .gtr g (Q J 8192)) λh=>
 Zl h
 (c ((Q J 3),H))
 (Za3 q Y H):=Z9 ae
theorem Tm:Za1 q I Y H =
 Z0 (Z2 b 2 I H) λh=>
 Z0 (Ze O1 [h] H) λg=>
 Z0 (Xa .not g.1) λj=>
 Zl j
 (c ((Q J 2),g.2))
 (Za2 q Y g.2):=Z9 ae
theorem Zjp:O0 [p0,p1,p2] H=Zdl p0 p1 p2 H:=Be 32 [4,6,8,10,11,13] func20
def ZdX:Z4:=aa 23 19 f23 15 Y [(3,V)] H
def M9:KL:=Za (MW 23 19 f23 15) (Zf cfg 19 23 f23 Y)
theorem Zfd:ZH 19 (M9 Y):=Zq (C:=cfg) (kp:=cfg.keep 23) (ab f23 15) (Zv 23 f23 Y)
def ZdZ:Z4:=XB 23 19 (ab f23 467) (Za (UM 23 19 f23 116) (Z5 0 (M9 Y))) [(0,r),(3,V),(4,I)] H
def ZdY:Z4:=XB 23 19 (ab f23 233) (Za (UM 23 19 f23 116) (Z5 0 (M9 Y))) [(0,r),(3,V),(4,I)] H
def Ma:Z4:=C1 23 19 (ab f23 116) (Z5 0 (M9 Y)) [(0,r),(3,V),(4,I)] H
def Zgq:Z4:=
 Ma p0 (Q J 0) (Q J 0) H H
theorem Zka:ZdX V Y H =
 c (V,H):=Z9 [4,5,6]
theorem Zkc:ZdZ r V I Y H =
 Z0 (Z3 .add I (Q J 1)) λg=>
 Ma r V g Y H:=Z9 [4,5,6]
theorem Zkb:ZdY r V I Y H =
 Z0 (Zj 1 r I) λh=>
 Z0 (Z2 a 1 h H) λj=>
 Z0 (Ze Dp [j] H) λg=>
 Z0 (Z3 .add V g.1) λu=>
 ZdZ r u I Y g.2:=Z9 [4,5,6]
theorem cD:Ma r V I Y H =
 Z0 (Zk (.slice 29) r) λg=>
 Z0 (Z3 .lss I g) λh=>
 Zl h
 (ZdY r V I Y H)
 (ZdX V Y H):=(Zw (C:=cfg) [4,5,6] (Zg 0 (Zfd Y)) _ _).trans df
theorem ZlX:Ex [p0] H=Zgq p0 H:=Be 19 [4,5,6] func23
def ZdS:Z4:=aa 24 116 f24 31 Y [(9,T),(11,U),(13,W)] H
def DD:KL:=Za (MW 24 116 f24 31) (Zf cfg 116 24 f24 Y)
theorem Cv:ZH 116 (DD Y):=Zq (C:=cfg) (kp:=cfg.keep 24) (ab f24 31) (Zv 24 f24 Y)
def Ov:Z4:=XB 24 116 (ab f24 979) (Za (UM 24 116 f24 244) (Z5 0 (DD Y))) [(3,V),(5,S),(6,P),(9,T),(11,U),(12,Z),(13,W),(14,X)] H
def Kk:KL:=Za (MW 24 116 f24 979) (Za (UM 24 116 f24 244) (Z5 0 (DD Y)))
theorem Cw:ZH 116 (Kk Y):=Zq (C:=cfg) (kp:=cfg.keep 24) (ab f24 979) (Qn (C:=cfg) (kp:=cfg.keep 24) (ab f24 244) (Zg 0 (Cv Y)))
def Ow:Z4:=XB 24 116 (ab f24 250495) (Z5 1 (Kk Y)) [(3,V),(5,S),(6,P),(9,T),(11,U),(12,Z),(13,W),(14,X),(17,O),(18,v)] H
def DE:KL:=Za (MW 24 116 f24 250495) (Z5 1 (Kk Y))
theorem Cx:ZH 116 (DE Y):=Zq (C:=cfg) (kp:=cfg.keep 24) (ab f24 250495) (Zg 1 (Cw Y))
def Ox:Z4:=XB 24 116 (ab f24 8015827) (Za (UM 24 116 f24 2003956) (Z5 4 (DE Y))) [(3,V),(5,S),(6,P),(9,T),(11,U),(12,Z),(13,W),(14,X),(17,O),(18,v),(19,t)] H
def M4:KL:=Za (MW 24 116 f24 8015827) (Za (UM 24 116 f24 2003956) (Z5 4 (DE Y)))
theorem Zfb:ZH 116 (M4 Y):=Zq (C:=cfg) (kp:=cfg.keep 24) (ab f24 8015827) (Qn (C:=cfg) (kp:=cfg.keep 24) (ab f24 2003956) (Zg 4 (Cx Y)))
def Zaa:Z4:=XB 24 116 (ab f24 513012883) (Za (UM 24 116 f24 128253220) (Z5 6 (Z5 5 (M4 Y)))) [(3,V),(5,S),(6,P),(9,T),(11,U),(12,Z),(13,W),(14,X),(17,O),(18,v),(19,t),(20,s)] H
def ZdW:Z4:=XB 24 116 (ab f24 256506441) (Za (UM 24 116 f24 128253220) (Z5 6 (Z5 5 (M4 Y)))) [(3,V),(5,S),(6,P),(9,T),(11,U),(12,Z),(13,W),(14,X),(17,O),(18,v),(19,t),(20,s)] H
def M7:Z4:=C1 24 116 (ab f24 128253220) (Z5 6 (Z5 5 (M4 Y))) [(3,V),(5,S),(6,P),(9,T),(11,U),(12,Z),(13,W),(14,X),(17,O),(18,v),(19,t),(20,s)] H
def ZdV:Z4:=XB 24 116 (ab f24 4007913) (Za (UM 24 116 f24 2003956) (Z5 4 (DE Y))) [(3,V),(5,S),(6,P),(9,T),(11,U),(12,Z),(13,W),(14,X),(17,O),(18,v),(19,t)] H
def M6:Z4:=C1 24 116 (ab f24 2003956) (Z5 4 (DE Y)) [(3,V),(5,S),(6,P),(9,T),(11,U),(12,Z),(13,W),(14,X),(17,O),(18,v),(19,t)] H
def ZdU:Z4:=XB 24 116 (ab f24 15655) (Z5 1 (Kk Y)) [(3,V),(5,S),(6,P),(9,T),(11,U),(12,Z),(13,W),(14,X),(15,R)] H
def M3:Z4:=XB 24 116 (ab f24 7827) (Z5 1 (Kk Y)) [(3,V),(5,S),(6,P),(9,T),(11,U),(12,Z),(13,W),(14,X),(15,R)] H
def M5:KL:=Za (MW 24 116 f24 7827) (Z5 1 (Kk Y))
theorem Zfc:ZH 116 (M5 Y):=Zq (C:=cfg) (kp:=cfg.keep 24) (ab f24 7827) (Zg 1 (Cw Y))
def Zac:Z4:=XB 24 116 (ab f24 250451) (Za (UM 24 116 f24 62612) (Z5 2 (M5 Y))) [(3,V),(5,S),(6,P),(9,T),(11,U),(12,Z),(13,W),(14,X),(15,R),(16,x)] H
def Zab:Z4:=XB 24 116 (ab f24 125225) (Za (UM 24 116 f24 62612) (Z5 2 (M5 Y))) [(3,V),(5,S),(6,P),(9,T),(11,U),(12,Z),(13,W),(14,X),(15,R),(16,x)] H
def M8:Z4:=C1 24 116 (ab f24 62612) (Z5 2 (M5 Y)) [(3,V),(5,S),(6,P),(9,T),(11,U),(12,Z),(13,W),(14,X),(15,R),(16,x)] H
def ZdT:Z4:=XB 24 116 (ab f24 489) (Za (UM 24 116 f24 244) (Z5 0 (DD Y))) [(3,V),(5,S),(6,P),(9,T),(11,U),(12,Z),(13,W),(14,X)] H
def DF:Z4:=C1 24 116 (ab f24 244) (Z5 0 (DD Y)) [(3,V),(5,S),(6,P),(9,T),(11,U),(12,Z),(13,W),(14,X)] H
def Zgp:Z4:=
 Z0 (ZF p0 H) λz=>
 Z0 (ZF p1 z.2) λA=>
 Z0 (ZF p2 A.2) λB=>
 Z0 (ZF p4 B.2) λj=>
 Z0 (c ((.ptr j.2.length 0),j.2++[.cells [(Q J 0),(Q J 0),(Q J 0),(Q J 0)]])) λg=>
 Z0 (Zk (.slice 29) p3) λu=>
 Z0 (Z8 1 B.1) λw=>
 Z0 (Z2 a 1 w g.2) λy=>
 Z0 (Ze eA [u,y] g.2) λh=>
 DF p3 z.1 A.1 j.1 g.1 h.1 .nils (Q J 0) H h.2
theorem Zk3:ZdS T U W Y H =
 Z0 (Z2 b 4 T H) λh=>
 Z0 (Zc 4 U h H) λg=>
 Z0 (Z2 b 4 U g.2) λj=>
 c ((.tuple [W,j]),g.2):=Z9 af
theorem bX:Ov V S P T U Z W X Y H =
 Z0 (Z3 .add X (Q J 1)) λg=>
 DF V S P T U Z W g Y H:=Z9 af
theorem Zk6:Ow V S P T U Z W X O v Y H =
 Z0 (Z8 3 T) λj=>
 Z0 (Z2 a 1 j H) λu=>
 Z0 (Q2 u v) λw=>
 Z0 (Z8 3 T) λy=>
 Z0 (Zc 1 y w H) λh=>
 Z0 ((Zt 1 [(0,O)] [.nils]).map (.vs 1 .clip)) λz=>
 Z0 (Xu a 1 24 W z h.2) λg=>
 Ov V S P T U Z g.1 X Y g.2:=Z9 af
theorem Zk8:Ox V S P T U Z W X O v t Y H =
 Z0 (Z3 .add t (Q J 1)) λg=>
 M6 V S P T U Z W X O v g Y H:=Z9 af
theorem Zhn:Zaa V S P T U Z W X O v t s Y H =
 Z0 (Z3 .add s (Q J 1)) λg=>
 M7 V S P T U Z W X O v t g Y H:=Z9 af
theorem Zk9:ZdW V S P T U Z W X O v t s Y H =
 Z0 (Zj 1 Z t) λy=>
 Z0 (Z2 a 1 y H) λz=>
 Z0 (Zj 1 z s) λA=>
 Z0 (Z2 a 1 A H) λh=>
 Z0 (Zj 1 V h) λj=>
 Z0 (Z2 a 1 j H) λu=>
 Z0 (Ze Dp [u] H) λg=>
 Z0 (Z3 .add v g.1) λw=>
 Zaa V S P T U Z W X O w t s Y g.2:=Z9 af
theorem cB:M7 V S P T U Z W X O v t s Y H =
 Z0 (Zj 1 Z t) λg=>
 Z0 (Z2 a 1 g H) λh=>
 Z0 (Zk (.slice 3) h) λj=>
 Z0 (Z3 .lss s j) λu=>
 Zl u
 (ZdW V S P T U Z W X O v t s Y H)
 (Ox V S P T U Z W X O v t Y H):=(Zw (C:=cfg) [5,6,9,10,11,13,18,19,21,22,23,25] (Zg 6 (Zg 5 (Zfb Y))) _ _).trans df
theorem Zk7:ZdV V S P T U Z W X O v t Y H =
 M7 V S P T U Z W X O v t (Q J 0) Y H:=Z9 af
theorem cA:M6 V S P T U Z W X O v t Y H =
 Z0 (Zk (.slice 40) Z) λg=>
 Z0 (Z3 .lss t g) λh=>
 Zl h
 (ZdV V S P T U Z W X O v t Y H)
 (Ow V S P T U Z W X O v Y H):=(Zw (C:=cfg) [5,6,9,10,11,13,18,19,21,22,23,25] (Zg 4 (Cx Y)) _ _).trans df
theorem Zk5:ZdU V S P T U Z W X R Y H =
 Z0 (Z2 b 6 S H) λw=>
 Z0 (Z2 b 5 P H) λy=>
 Z0 (IY [w,y,R] H) λg=>
 Z0 (Z8 1 T) λz=>
 Z0 (Z2 a 1 z g.2) λA=>
 Z0 (Z3 .add A (Q J 1)) λB=>
 Z0 (Z8 1 T) λt70=>
 Z0 (Zc 1 t70 B g.2) λu=>
 Z0 (Kb Ex [W] u.2) λh=>
 Z0 (Ze Dp [g.1] h.2) λj=>
 Z0 (Z3 .add h.1 j.1) λC=>
 M6 V S P T U Z W X g.1 C X Y j.2:=Z9 af
theorem bY:M3 V S P T U Z W X R Y H =
 Z0 (Zk (.slice 29) R) λh=>
 Z0 (Z3 .eql h (Q J 1)) λj=>
 Zl j
 (Z0 (Zj 1 R (Q J 0)) λu=>
 Z0 (Z2 a 1 u H) λw=>
 Z0 ((Zt 1 [(0,w)] [.nils]).map (.vs 1 .clip)) λy=>
 Z0 (Xu a 1 24 W y H) λg=>
 Ov V S P T U Z g.1 X Y g.2)
 (ZdU V S P T U Z W X R Y H):=Z9 af
theorem Zhp:Zac V S P T U Z W X R x Y H =
 Z0 (Z3 .add x (Q J 1)) λg=>
 M8 V S P T U Z W X R g Y H:=Z9 af
theorem Zho:Zab V S P T U Z W X R x Y H =
 Z0 (Zj 1 Z X) λh=>
 Z0 (Z2 a 1 h H) λj=>
 Z0 (Zj 1 j x) λu=>
 Z0 (Z2 a 1 u H) λw=>
 Z0 (Zj 1 V w) λy=>
 Z0 (Z2 a 1 y H) λz=>
 Z0 ((Zt 1 [(0,z)] [.nils]).map (.vs 1 .clip)) λA=>
 Z0 (Xu a 1 24 R A H) λg=>
 Zac V S P T U Z W X g.1 x Y g.2:=Z9 af
theorem cC:M8 V S P T U Z W X R x Y H =
 Z0 (Zj 1 Z X) λg=>
 Z0 (Z2 a 1 g H) λh=>
 Z0 (Zk (.slice 3) h) λt37=>
 Z0 (Z3 .lss x t37) λj=>
 Zl j
 (Zab V S P T U Z W X R x Y H)
 (M3 V S P T U Z W X R Y H):=(Zw (C:=cfg) [5,6,9,10,11,13,18,19,21,22,23,25] (Zg 2 (Zfc Y)) _ _).trans df
theorem Zk4:ZdT V S P T U Z W X Y H =
 M8 V S P T U Z W X .nils (Q J 0) Y H:=Z9 af
theorem bZ:DF V S P T U Z W X Y H =
 Z0 (Zk (.slice 40) Z) λg=>
 Z0 (Z3 .lss X g) λh=>
 Zl h
 (ZdT V S P T U Z W X Y H)
 (ZdS T U W Y H):=(Zw (C:=cfg) [5,6,9,10,11,13,18,19,21,22,23,25] (Zg 0 (Cv Y)) _ _).trans df
theorem ZlW:Ew [p0,p1,p2,p3,p4] H=Zgp p0 p1 p2 p3 p4 H:=Be 116 [5,6,9,10,11,13,18,19,21,22,23,25] func24
def Zdm:Z4:=
 Z0 (ZF p0 H) λg=>
 Z0 (Z8 0 g.1) λt3=>
 Z0 (Z2 a 1 t3 g.2) λt4=>
 Z0 (Z3 .geq t4 (Q J 64)) λt5=>
 Z0 (Z7 t5 b bh (Z8 0 g.1)) λD=>
 Z0 (Z7 t5 b bh (Z2 a 1 D g.2)) λE=>
 Z0 (Z7 t5 b bh (Z3 .leq E (Q J 65536))) λt9=>
 Z0 (Zm t5 t9 (.bool a)) λh=>
 Z0 (Z7 h b bh (Z8 1 g.1)) λu=>
 Z0 (Z7 h b bh (Z2 a 1 u g.2)) λw=>
 Z0 (Z7 h b bh (Z3 .geq w (Q J 2))) λy=>
 Z0 (Zm h y (.bool a)) λj=>
 Z0 (Z7 j b bh (Z8 1 g.1)) λz=>
 Z0 (Z7 j b bh (Z2 a 1 z g.2)) λA=>
 Z0 (Z7 j b bh (Z3 .leq A (Q J 32))) λB=>
 Z0 (Zm j B (.bool a)) λC=>
 c (C,g.2)
theorem Zjq:O1 [p0] H=Zdm p0 H:=Be 21 [] func41
def Za7:Z4:=aa 44 20 f44 15 Y [(3,V)] H
def Tp:KL:=Za (MW 44 20 f44 15) (Zf cfg 20 44 f44 Y)
theorem ZcN:ZH 20 (Tp Y):=Zq (C:=cfg) (kp:=cfg.keep 44) (ab f44 15) (Zv 44 f44 Y)
def Za9:Z4:=XB 44 20 (ab f44 467) (Za (UM 44 20 f44 116) (Z5 0 (Tp Y))) [(0,r),(3,V),(4,I)] H
def Za8:Z4:=XB 44 20 (ab f44 233) (Za (UM 44 20 f44 116) (Z5 0 (Tp Y))) [(0,r),(3,V),(4,I)] H
def Tq:Z4:=C1 44 20 (ab f44 116) (Z5 0 (Tp Y)) [(0,r),(3,V),(4,I)] H
def Zdn:Z4:=
 Tq p0 (Q J 0) (Q J 0) H H
theorem Zhk:Za7 V Y H =
 c (V,H):=Z9 [4,5,6]
theorem Zhm:Za9 r V I Y H =
 Z0 (Z3 .add I (Q J 1)) λg=>
 Tq r V g Y H:=Z9 [4,5,6]
theorem Zhl:Za8 r V I Y H =
 Z0 (Zj 1 r I) λg=>
 Z0 (Z2 a 1 g H) λh=>
 Z0 (Zk .string h) λj=>
 Z0 (Z3 .add V j) λu=>
 Z0 (Z3 .add u (Q J 6)) λw=>
 Za9 r w I Y H:=Z9 [4,5,6]
theorem AP:Tq r V I Y H =
 Z0 (Zk (.slice 9) r) λg=>
 Z0 (Z3 .lss I g) λh=>
 Zl h
 (Za8 r V I Y H)
 (Za7 V Y H):=(Zw (C:=cfg) [4,5,6] (Zg 0 (ZcN Y)) _ _).trans df
theorem Zjr:Dp [p0] H=Zdn p0 H:=Be 20 [4,5,6] func44
end
end Go.Am
