/- awake of chapter 24 is what this one rests on -/
import Derived.Test.YtmclihijlmlpkaaGreatDoorXeGx
open Option renaming some->a
open Bool renaming true->I,false->G
open Go.Proofs.Tryz
open Go.Am.AV renaming int->Q
open Go.IntKind renaming i64->J
namespace Go.Am
open Go.Proofs
set_option maxRecDepth 100000
noncomputable abbrev dX (f n:Nat):=Yg cfg (Zb cfg) (Y0 cfg (cfg.keep f) n) (cfg.keep f) n Za Z5
noncomputable abbrev ZvP (f n:Nat):=Y0 cfg (cfg.keep f) n
noncomputable section
abbrev ZzD (f n:Nat)(F:Func)(p:da):KL->AL->Hp->Z4:=λk g H=>dX f n (sub (Z1 F) p) k (Ya (cfg.keep f) (sub (Z1 F) p) g) H
abbrev ZqC (f n:Nat)(F:Func)(p:da):KL->AL->Hp->Z4:=λk g H=>ZvP f n (sub (Z1 F) p) k (Ya (cfg.keep f) (sub (Z1 F) p) g) H
variable (V O X W K U P:AV)(Y H:Hp)
def Pj:Z4:=dX 3 82 (sub (Z1 f3) [1,1]) (Zf cfg 82 3 f3 Y) [(1,W),(2,K)] H
def Mp:Z4:=
 Z0 (ZF V H) λw=>
 Z0 (Ze nK [O] w.2) λg=>
 Z0 (Xa .not g.1) λh=>
 Z0 (Z7 h G (.tuple []) (Z2 I 7 w.1 g.2)) λy=>
 Z0 (Z7 h G ((.tuple []),g.2) (Ze IU [y] g.2)) λj=>
 Z0 (Z7 h G (.tuple []) (Xa .not j.1)) λz=>
 Z0 (Zm h (.bool I) z) λA=>
 Zl A
 (Z0 (Ze Dl [] j.2) λu=>
 a (u.1,u.2))
 (Pj O w.1 H j.2)
theorem Oa:Pj W K Y H =
 Wy K H λT S=>
 Z0 (NK [(Q J 262144)] (S++[.free])) λL=>
 Z0 (Ze US [] L.2) λM=>
 Z0 (Z8 0 T) λZ=>
 Z0 (Xk I 5 Z) λaa=>
 Z0 (Z8 5 T) λab=>
 Z0 (Xk I 2 ab) λac=>
 Z0 (U6 [L.1,M.1,aa,ac,W] M.2) λy=>
 Z0 (ZQ y.1 0) λad=>
 Z0 (ZQ y.1 1) λae=>
 Z0 (ZQ y.1 2) λaf=>
 Z0 (D2 (S.length+0) (a (.cells [(Q J 0),(Q J 0),(Q J 0),(Q J 0)])) y.2) λE=>
 Z0 (Zc 4 E.1 ae E.2) λC=>
 Z0 (Ze US [] (C.2++[.free])) λz=>
 Z0 (Z8 0 T) λag=>
 Z0 (Z2 I 5 ag z.2) λah=>
 Z0 (Z8 5 T) λai=>
 Z0 (Z2 I 2 ai z.2) λt37=>
 Z0 (eB [z.1,ah,t37,W] z.2) λA=>
 Z0 (ZQ A.1 0) λaj=>
 Z0 (ZQ A.1 1) λak=>
 Z0 (ZQ A.1 2) λal=>
 Z0 (D2 (C.2.length+0) (a (.cells [(Q J 0),(Q J 0),(Q J 0),(Q J 0)])) A.2) λF=>
 Z0 (Zc 4 F.1 ak F.2) λD=>
 Z0 (Z3 .eql af al) λB=>
 Z0 (Z7 B I (.tuple []) (a ad)) λam=>
 Z0 (Z7 B I (.tuple []) (a aj)) λan=>
 Z0 (Z7 B I ((.tuple []),D.2) (Ze dY [am,an] D.2)) λg=>
 Z0 (Zm B g.1 (.bool G)) λh=>
 Z0 (Z7 h I (.tuple []) (Z8 0 E.1)) λao=>
 Z0 (Z7 h I (.tuple []) (Z2 G 1 ao g.2)) λap=>
 Z0 (Z7 h I (.tuple []) (Z8 0 F.1)) λaq=>
 Z0 (Z7 h I (.tuple []) (Z2 G 1 aq g.2)) λar=>
 Z0 (Z7 h I (.tuple []) (Z3 .eql ap ar)) λau=>
 Z0 (Zm h au (.bool G)) λj=>
 Z0 (Z7 j I (.tuple []) (Z8 1 E.1)) λaw=>
 Z0 (Z7 j I (.tuple []) (Z2 G 1 aw g.2)) λax=>
 Z0 (Z7 j I (.tuple []) (Z8 1 F.1)) λay=>
 Z0 (Z7 j I (.tuple []) (Z2 G 1 ay g.2)) λaz=>
 Z0 (Z7 j I (.tuple []) (Z3 .eql ax az)) λba=>
 Z0 (Zm j ba (.bool G)) λu=>
 Z0 (Z7 u I (.tuple []) (Z8 2 E.1)) λbb=>
 Z0 (Z7 u I (.tuple []) (Z2 G 1 bb g.2)) λbc=>
 Z0 (Z7 u I (.tuple []) (Z8 2 F.1)) λbd=>
 Z0 (Z7 u I (.tuple []) (Z2 G 1 bd g.2)) λbe=>
 Z0 (Z7 u I (.tuple []) (Z3 .eql bc be)) λt70=>
 Z0 (Zm u t70 (.bool G)) λw=>
 Z0 (Z7 w I (.tuple []) (Z8 3 E.1)) λbf=>
 Z0 (Z7 w I (.tuple []) (Z2 G 1 bf g.2)) λbg=>
 Z0 (Z7 w I (.tuple []) (Z8 3 F.1)) λbh=>
 Z0 (Z7 w I (.tuple []) (Z2 G 1 bh g.2)) λbi=>
 Z0 (Z7 w I (.tuple []) (Z3 .eql bg bi)) λbj=>
 Z0 (Zm w bj (.bool G)) λR=>
 Z0 (Z7 R I ((.tuple []),g.2) (Ze Dl [] g.2)) λN=>
 Z0 (Zm R N.1 (.bool G)) λbk=>
 a (bk,N.2):=Z9 [3]
theorem aB:Mo [V,O] H=Mp V O H:=Be 82 [3] func3
def Zgx:Z4:=dX 4 23 (sub (Z1 f4) [1,1]) (Zf cfg 23 4 f4 Y) [(0,X)] H
def EG:KL:=Za (ZzD 4 23 f4 [1,1]) (Zf cfg 23 4 f4 Y)
theorem ZgA:ZH 23 (EG Y):=Zq (C:=cfg) (kp:=cfg.keep 4) (sub (Z1 f4) [1,1]) (Zv 4 f4 Y)
def Zgz:Z4:=dX 4 23 (sub (Z1 f4) [1,0,1,0,0,1,1]) (Za (ZqC 4 23 f4 [1,0,1,0,0]) (Z5 0 (EG Y))) [(0,X),(3,U)] H
def Zgy:Z4:=dX 4 23 (sub (Z1 f4) [1,0,1,0,0,1]) (Za (ZqC 4 23 f4 [1,0,1,0,0]) (Z5 0 (EG Y))) [(0,X),(3,U)] H
def EH:Z4:=ZvP 4 23 (sub (Z1 f4) [1,0,1,0,0]) (Z5 0 (EG Y)) [(0,X),(3,U)] H
def ZkS:Z4:=
 EH V (Q J 0) H H
theorem jJ:Zgx X Y H =
 Z0 (Zk (.slice 9) X) λg=>
 Z0 (Z3 .leq g (Q J 40)) λh=>
 a (h,H):=Z9 [3,4,6]
theorem ZlY:Zgz X U Y H =
 Z0 (Z3 .add U (Q J 1)) λg=>
 EH X g Y H:=Z9 [3,4,6]
theorem jK:Zgy X U Y H =
 Z0 (Zj 1 X U) λg=>
 Z0 (Z2 G 1 g H) λh=>
 Z0 (Zk .string h) λj=>
 Z0 (Z3 .gtr j (Q J 200)) λu=>
 Zl u
 (a ((.bool G),H))
 (Zgz X U Y H):=Z9 [3,4,6]
theorem Fi:EH X U Y H =
 Z0 (Zk (.slice 9) X) λu=>
 Z0 (Z3 .lss U u) λj=>
 Z0 (Z7 j I (.tuple []) (a U)) λt9=>
 Z0 (Z7 j I (.tuple []) (Z3 .lss t9 (Q J 41))) λg=>
 Z0 (Zm j g (.bool G)) λh=>
 Zl h
 (Zgy X U Y H)
 (Zgx X Y H):=(Zw (C:=cfg) [3,4,6] (Zg 0 (ZgA Y)) _ _).trans df
theorem ZmC:nK [V] H=ZkS V H:=Be 23 [3,4,6] func4
def Zd7:Z4:=
 Z0 (ZF V H) λg=>
 Z0 (Z8 0 g.1) λt3=>
 Z0 (Z8 0 t3) λt4=>
 Z0 (Z2 G 1 t4 g.2) λt5=>
 Z0 (Zk (.slice 103) t5) λh=>
 Z0 (Z3 .leq h (Q J 10)) λj=>
 a (j,g.2)
theorem Zja:IU [V] H=Zd7 V H:=Be 8 [] func5
def Zdu:Z4:=dX 11 26 (sub (Z1 f11) [1,1,1]) (Zf cfg 26 11 f11 Y) [] H
def NL:KL:=Za (ZzD 11 26 f11 [1,1,1]) (Zf cfg 26 11 f11 Y)
theorem ZeC:ZH 26 (NL Y):=Zq (C:=cfg) (kp:=cfg.keep 11) (sub (Z1 f11) [1,1,1]) (Zv 11 f11 Y)
def Zdw:Z4:=dX 11 26 (sub (Z1 f11) [1,1,0,1,0,0,1,1]) (Za (ZqC 11 26 f11 [1,1,0,1,0,0]) (Z5 0 (NL Y))) [(0,X),(1,W),(5,P)] H
def Zdv:Z4:=dX 11 26 (sub (Z1 f11) [1,1,0,1,0,0,1]) (Za (ZqC 11 26 f11 [1,1,0,1,0,0]) (Z5 0 (NL Y))) [(0,X),(1,W),(5,P)] H
def NM:Z4:=ZvP 11 26 (sub (Z1 f11) [1,1,0,1,0,0]) (Z5 0 (NL Y)) [(0,X),(1,W),(5,P)] H
def Zdt:Z4:=dX 11 26 (sub (Z1 f11) [1,1]) (Zf cfg 26 11 f11 Y) [(0,X),(1,W)] H
def Zgc:Z4:=
 Z0 (Zk (.slice 9) V) λh=>
 Z0 (Zk (.slice 9) O) λt9=>
 Z0 (Z3 .neq h t9) λg=>
 Zl g
 (a ((.bool G),H))
 (Zdt V O H H)
theorem Zjy:Zdu Y H =
 a ((.bool I),H):=Z9 [3,5,6,8]
theorem ZjA:Zdw X W P Y H =
 Z0 (Z3 .add P (Q J 1)) λg=>
 NM X W g Y H:=Z9 [3,5,6,8]
theorem Zjz:Zdv X W P Y H =
 Z0 (Zj 1 X P) λg=>
 Z0 (Z2 G 1 g H) λh=>
 Z0 (Zj 1 W P) λj=>
 Z0 (Z2 G 1 j H) λu=>
 Z0 (YK .neq h u) λw=>
 Zl w
 (a ((.bool G),H))
 (Zdw X W P Y H):=Z9 [3,5,6,8]
theorem aX:NM X W P Y H =
 Z0 (Zk (.slice 9) X) λg=>
 Z0 (Z3 .lss P g) λh=>
 Zl h
 (Zdv X W P Y H)
 (Zdu Y H):=(Zw (C:=cfg) [3,5,6,8] (Zg 0 (ZeC Y)) _ _).trans df
theorem Zjx:Zdt X W Y H =
 NM X W (Q J 0) Y H:=Z9 [3,5,6,8]
theorem ZlO:dY [V,O] H=Zgc V O H:=Be 26 [3,5,6,8] func11
end
end Go.Am
