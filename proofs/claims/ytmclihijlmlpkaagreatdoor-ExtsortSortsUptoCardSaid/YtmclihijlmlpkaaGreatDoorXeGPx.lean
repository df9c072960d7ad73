/- The functions of the translation over the abstract machine -/
import Derived.Test.YtmclihijlmlpkaaGreatDoorXeGx
open Option renaming some->a
open Bool renaming true->c,false->b
open Go.Proofs.Tryz
open Go.Am.AV renaming int->Q
open Go.IntKind renaming i64->J
namespace Go.Am
open Go.Proofs
set_option maxRecDepth 100000
noncomputable abbrev QW (f n:Nat):=Yg cfg (Zb cfg) (Y0 cfg (cfg.keep f) n) (cfg.keep f) n Za Z5
noncomputable abbrev ZjB (f n:Nat):=Y0 cfg (cfg.keep f) n
noncomputable section
abbrev Zeq (f n:Nat)(F:Func)(p:Nat):KL->AL->Hp->Z4:=λk g H=>QW f n (sub (Z1 F) (dd p)) k (Ya (cfg.keep f) (sub (Z1 F) (dd p)) g) H
abbrev PY (f n:Nat)(F:Func)(p:Nat):KL->AL->Hp->Z4:=λk g H=>ZjB f n (sub (Z1 F) (dd p)) k (Ya (cfg.keep f) (sub (Z1 F) (dd p)) g) H
variable (r q P W X V U s x11 x I x14 v t O x18:AV)(Y H:Hp)
noncomputable abbrev ce (f n:Nat)(F:Func)(p:Nat)(G:Hp):=λk K=>QW f n (sub (Z1 F) (dd p)) (Zf cfg n f F G) k K
abbrev cf (F:Func)(p:Nat):=sub (Z1 F) (dd p)
abbrev cg:da:=[6,11,12,13,16]
abbrev ci:da:=[3,5,8,11,12,14,15]
def pZ:Z4:=ce 21 64 f21 31 Y [(5,X)] H
def Tk:KL:=Za (Zeq 21 64 f21 31) (Zf cfg 64 21 f21 Y)
theorem ZcL:ZH 64 (Tk Y):=Zq (C:=cfg) (kp:=cfg.keep 21) (cf f21 31) (Zv 21 f21 Y)
def Cs:Z4:=QW 21 64 (cf f21 979) (Za (PY 21 64 f21 244) (Z5 0 (Tk Y))) [(0,P),(1,W),(5,X),(6,V),(7,U)] H
def Za0:Z4:=QW 21 64 (cf f21 489) (Za (PY 21 64 f21 244) (Z5 0 (Tk Y))) [(0,P),(1,W),(5,X),(6,V),(7,U)] H
def Tl:Z4:=ZjB 21 64 (cf f21 244) (Z5 0 (Tk Y)) [(0,P),(1,W),(5,X),(6,V),(7,U)] H
def Zdk:Z4:=
 Tl r q .nils (Q J 0) (Q J 0) H H
theorem Zhf:pZ X Y H =
 a (X,H):=Z9 [5,6,15]
theorem Tj:Cs P W X V U Y H =
 Z0 (Z3 .add U (Q J 1)) λg=>
 Tl P W X V g Y H:=Z9 [5,6,15]
theorem Zhg:Za0 P W X V U Y H =
 Z0 (Zj 1 P U) λz=>
 Z0 (Z2 b 1 z H) λA=>
 Z0 (Zk .string A) λB=>
 Z0 (Z3 .add B (Q J 16)) λh=>
 Z0 (Zk (.slice 29) X) λj=>
 Z0 (Z3 .gtr j (Q J 0)) λg=>
 Z0 (Z7 g c bh (a V)) λC=>
 Z0 (Z7 g c bh (a h)) λD=>
 Z0 (Z7 g c bh (Z3 .add C D)) λE=>
 Z0 (Z7 g c bh (a W)) λF=>
 Z0 (Z7 g c bh (Z3 .leq E F)) λL=>
 Z0 (Zm g L (.bool b)) λM=>
 Zl M
 (Z0 (Z3 .sub j (Q J 1)) λN=>
 Z0 (Zj 1 X N) λt37=>
 Z0 (Z2 b 1 t37 H) λR=>
 Z0 (Zj 1 P U) λS=>
 Z0 (Z2 b 1 S H) λT=>
 Z0 ((Zt 1 [(0,T)] [(.str [])]).map (.vs 1 .clip)) λZ=>
 Z0 (ZR 1 16 R Z H) λu=>
 Z0 (Z3 .sub j (Q J 1)) λaa=>
 Z0 (Zj 1 X aa) λab=>
 Z0 (Zc 1 ab u.1 u.2) λy=>
 Z0 (Z3 .add V h) λac=>
 Cs P W X ac U Y y.2)
 (Z0 (Zj 1 P U) λad=>
 Z0 (Z2 b 1 ad H) λae=>
 Z0 ((Zt 1 [(0,ae)] [(.str [])]).map (.vs 1 .clip)) λaf=>
 Z0 ((Zt 1 [(0,af)] [.nils]).map (.vs 1 .clip)) λag=>
 Z0 (Xu b 1 24 X ag H) λw=>
 Cs P W w.1 h U Y w.2):=Z9 [5,6,15]
theorem AK:Tl P W X V U Y H =
 Z0 (Zk (.slice 9) P) λg=>
 Z0 (Z3 .lss U g) λh=>
 Zl h
 (Za0 P W X V U Y H)
 (pZ X Y H):=(Zw (C:=cfg) [5,6,15] (Zg 0 (ZcL Y)) _ _).trans df
theorem Zjo:IZ [r,q] H=Zdk r q H:=Be 64 [5,6,15] func21
def LF:Z4:=ce 31 61 f31 127 Y [(6,V)] H
def kW:Z4:=ce 31 61 f31 63 Y [(5,X),(6,V),(7,U)] H
def Kc:KL:=Za (Zeq 31 61 f31 63) (Zf cfg 61 31 f31 Y)
theorem ZbC:ZH 61 (Kc Y):=Zq (C:=cfg) (kp:=cfg.keep 31) (cf f31 63) (Zv 31 f31 Y)
def kY:Z4:=QW 31 61 (cf f31 4007) (Za (PY 31 61 f31 500) (Z5 0 (Kc Y))) [(1,W),(5,X),(6,V),(7,U),(8,s),(15,v),(16,t),(17,O)] H
def Zml:KL:=Za (Zeq 31 61 f31 4007) (Za (PY 31 61 f31 500) (Z5 0 (Kc Y)))
def LG:Z4:=QW 31 61 (cf f31 64103) (Z5 1 (Zml Y)) [(1,W),(5,X),(6,V),(7,U),(8,s),(11,x11),(15,v),(16,t),(17,O)] H
def kX:Z4:=QW 31 61 (cf f31 2003) (Za (PY 31 61 f31 500) (Z5 0 (Kc Y))) [(1,W),(5,X),(6,V),(7,U),(8,s),(15,v),(16,t),(17,O),(18,x18)] H
def FN:Z4:=ZjB 31 61 (cf f31 500) (Z5 0 (Kc Y)) [(1,W),(5,X),(6,V),(7,U),(8,s),(15,v),(16,t),(17,O)] H
def nX:Z4:=
 Z0 (Ze Yr [r] H) λg=>
 Z0 (Zk (.slice 9) g.1) λh=>
 FN q g.1 .nils (Q J 0) (Q J 0) g.1 h (Q J 0) H g.2
theorem ZfT:LF V Y H =
 a (V,H):=Z9 cg
theorem ZfS:kW X V U Y H =
 Z0 (Zk (.slice 9) X) λg=>
 Z0 (Z3 .gtr g (Q J 0)) λj=>
 Zl j
 (Z0 (YC 1 X (a U) (a g) (a g)) λu=>
 Z0 ((Zt 1 [(0,u)] [.nils]).map (.vs 1 .clip)) λw=>
 Z0 (Xu b 1 24 V w H) λh=>
 LF h.1 Y h.2)
 (LF V Y H):=Z9 cg
theorem FW:kY W X V U s v t O Y H =
 Z0 (Z3 .add O (Q J 1)) λg=>
 FN W X V U s v t g Y H:=Z9 cg
theorem FX:LG W X V U s x11 v t O Y H =
 Z0 (Z3 .add s x11) λg=>
 kY W X V U g v t O Y H:=Z9 cg
theorem ZfU:kX W X V U s v t O x18 Y H =
 Z0 (Zj 1 v O) λu=>
 Z0 (Z2 b 1 u H) λw=>
 Z0 (Zk .string w) λy=>
 Z0 (Z3 .add y (Q J 16)) λh=>
 Z0 (Z3 .gtr O U) λg=>
 Z0 (Z7 g c bh (a s)) λz=>
 Z0 (Z7 g c bh (a h)) λA=>
 Z0 (Z7 g c bh (Z3 .add z A)) λB=>
 Z0 (Z7 g c bh (a W)) λC=>
 Z0 (Z7 g c bh (Z3 .gtr B C)) λD=>
 Z0 (Zm g D (.bool b)) λE=>
 Zl E
 (Z0 (YC 1 X (a U) (a O) (a O)) λF=>
 Z0 ((Zt 1 [(0,F)] [.nils]).map (.vs 1 .clip)) λL=>
 Z0 (Xu b 1 24 V L H) λj=>
 LG W X j.1 O (Q J 0) h v t O Y j.2)
 (LG W X V U s h v t O Y H):=Z9 cg
theorem Hr:FN W X V U s v t O Y H =
 Z0 (Z3 .lss O t) λg=>
 Zl g
 (kX W X V U s v t O g Y H)
 (kW X V U Y H):=(Zw (C:=cfg) [6,11,12,13,16] (Zg 0 (ZbC Y)) _ _).trans df
theorem Zgu:SH [r,q] H=nX r q H:=Be 61 [6,11,12,13,16] func31
def kR:Z4:=ce 35 38 f35 31 Y [(5,X)] H
def K9:KL:=Za (Zeq 35 38 f35 31) (Zf cfg 38 35 f35 Y)
theorem Zbx:ZH 38 (K9 Y):=Zq (C:=cfg) (kp:=cfg.keep 35) (cf f35 31) (Zv 35 f35 Y)
def kT:Z4:=QW 35 38 (cf f35 1959) (Za (PY 35 38 f35 244) (Z5 0 (K9 Y))) [(1,W),(5,X),(12,x),(13,I)] H
def Zmi:KL:=Za (Zeq 35 38 f35 1959) (Za (PY 35 38 f35 244) (Z5 0 (K9 Y)))
def FI:Z4:=QW 35 38 (cf f35 15667) (Z5 1 (Zmi Y)) [(1,W),(5,X),(6,V),(12,x),(13,I)] H
def kS:Z4:=QW 35 38 (cf f35 979) (Za (PY 35 38 f35 244) (Z5 0 (K9 Y))) [(1,W),(5,X),(12,x),(13,I),(14,x14)] H
def FJ:Z4:=ZjB 35 38 (cf f35 244) (Z5 0 (K9 Y)) [(1,W),(5,X),(12,x),(13,I)] H
def nV:Z4:=
 Z0 (Q2 q (Q J 2)) λt9=>
 Z0 (Q3 t9 (Q J 32)) λg=>
 Z0 (Q2 r (Q J 0)) λh=>
 FJ g .nils h (Q J 0) H H
theorem ZfJ:kR X Y H =
 a (X,H):=Z9 [5,8,10,11]
theorem ZfL:kT W X x I Y H =
 Z0 (Z3 .add I (Q J 1)) λg=>
 FJ W X x g Y H:=Z9 [5,8,10,11]
theorem ZfM:FI W X V x I Y H =
 Z0 (Zk (.slice 40) X) λu=>
 Z0 (Z3 .sub u (Q J 1)) λj=>
 Z0 (Zj 1 X j) λw=>
 Z0 (Z2 b 1 w H) λy=>
 Z0 ((Zt 1 [(0,V)] [(Q J 0)]).map (.vs 1 .clip)) λz=>
 Z0 (ZR 1 8 y z H) λg=>
 Z0 (Zj 1 X j) λA=>
 Z0 (Zc 1 A g.1 g.2) λh=>
 kT W X x I Y h.2:=Z9 [5,8,10,11]
theorem ZfK:kS W X x I x14 Y H =
 Z0 (Z3 .rem I W) λh=>
 Z0 (Z3 .eql h (Q J 0)) λj=>
 Zl j
 (Z0 ((Zt 1 [(0,.nils)] [.nils]).map (.vs 1 .clip)) λu=>
 Z0 (Xu b 1 24 X u H) λg=>
 FI W g.1 I x I Y g.2)
 (FI W X I x I Y H):=Z9 [5,8,10,11]
theorem Hf:FJ W X x I Y H =
 Z0 (Z3 .lss I x) λg=>
 Zl g
 (kS W X x I g Y H)
 (kR X Y H):=(Zw (C:=cfg) [5,8,10,11] (Zg 0 (Zbx Y)) _ _).trans df
theorem Zgs:SF [r,q] H=nV r q H:=Be 38 [5,8,10,11] func35
def ZdI:Z4:=ce 45 37 f45 63 Y [(5,X)] H
def DB:KL:=Za (Zeq 45 37 f45 63) (Zf cfg 37 45 f45 Y)
theorem Ct:ZH 37 (DB Y):=Zq (C:=cfg) (kp:=cfg.keep 45) (cf f45 63) (Zv 45 f45 Y)
def Om:Z4:=QW 45 37 (cf f45 8011) (Z5 1 (Za (PY 45 37 f45 500) (Z5 0 (DB Y)))) [(0,P),(1,W),(5,X),(6,V),(7,U)] H
def NW:KL:=Za (Zeq 45 37 f45 8011) (Z5 1 (Za (PY 45 37 f45 500) (Z5 0 (DB Y))))
theorem Zf7:ZH 37 (NW Y):=Zq (C:=cfg) (kp:=cfg.keep 45) (cf f45 8011) (Zg 1 (Qn (C:=cfg) (kp:=cfg.keep 45) (cf f45 500) (Zg 0 (Ct Y))))
def ZdL:Z4:=QW 45 37 (cf f45 256339) (Za (PY 45 37 f45 64084) (Z5 2 (NW Y))) [(0,P),(1,W),(5,X),(6,V),(7,U),(8,s)] H
def ZdK:Z4:=QW 45 37 (cf f45 128169) (Za (PY 45 37 f45 64084) (Z5 2 (NW Y))) [(0,P),(1,W),(5,X),(6,V),(7,U),(8,s)] H
def NY:Z4:=ZjB 45 37 (cf f45 64084) (Z5 2 (NW Y)) [(0,P),(1,W),(5,X),(6,V),(7,U),(8,s)] H
def ZdJ:Z4:=QW 45 37 (cf f45 1001) (Za (PY 45 37 f45 500) (Z5 0 (DB Y))) [(0,P),(1,W),(5,X),(6,V)] H
def NX:Z4:=ZjB 45 37 (cf f45 500) (Z5 0 (DB Y)) [(0,P),(1,W),(5,X),(6,V)] H
def Ol:Z4:=ce 45 37 f45 15 Y [(0,P),(1,W)] H
def Ok:Z4:=ce 45 37 f45 7 Y [(0,P),(1,W)] H
def Zgn:Z4:=
 Z0 (Z3 .lss q (Q J 2)) λg=>
 Zl g
 (Ok r (Q J 2) H H)
 (Ok r q H H)
theorem ZjQ:ZdI X Y H =
 a (X,H):=Z9 ci
theorem bS:Om P W X V U Y H =
 Z0 ((Zt 1 [(0,U)] [.nils]).map (.vs 1 .clip)) λh=>
 Z0 (Xu b 1 24 X h H) λg=>
 NX P W g.1 V Y g.2:=Z9 ci
theorem ZjT:ZdL P W X V U s Y H =
 Z0 (Z3 .add s (Q J 1)) λg=>
 NY P W X V U g Y H:=Z9 ci
theorem ZjS:ZdK P W X V U s Y H =
 Z0 ((Zt 1 [(0,V)] [(Q J 0)]).map (.vs 1 .clip)) λh=>
 Z0 (ZR 1 8 U h H) λg=>
 Z0 (Z3 .add V (Q J 1)) λj=>
 ZdL P W X j g.1 s Y g.2:=Z9 ci
theorem bU:NY P W X V U s Y H =
 Z0 (Z3 .lss s W) λg=>
 Z0 (Z7 g c bh (a V)) λh=>
 Z0 (Z7 g c bh (a P)) λj=>
 Z0 (Z7 g c bh (Z3 .lss h j)) λu=>
 Z0 (Zm g u (.bool b)) λw=>
 Zl w
 (ZdK P W X V U s Y H)
 (Om P W X V U Y H):=(Zw (C:=cfg) [3,5,8,11,12,14,15] (Zg 2 (Zf7 Y)) _ _).trans df
theorem ZjR:ZdJ P W X V Y H =
 NY P W X V .nils (Q J 0) Y H:=Z9 ci
theorem bT:NX P W X V Y H =
 Z0 (Z3 .lss V P) λg=>
 Zl g
 (ZdJ P W X V Y H)
 (ZdI X Y H):=(Zw (C:=cfg) [3,5,8,11,12,14,15] (Zg 0 (Ct Y)) _ _).trans df
theorem N5:Ol P W Y H =
 NX P W .nils (Q J 0) Y H:=Z9 ci
theorem N4:Ok P W Y H =
 Z0 (Z3 .gtr W (Q J 32)) λg=>
 Zl g
 (Ol P (Q J 32) Y H)
 (Ol P W Y H):=Z9 ci
theorem ZlU:eA [r,q] H=Zgn r q H:=Be 37 [3,5,8,11,12,14,15] func45
end
end Go.Am
