/- The functions of the translation over the abstract machine -/
import Derived.Test.YtmclihijlmlpkaaGreatDoorXeGx
open Option renaming some->b,none->e
open Bool renaming true->c,false->a
open List renaming length->d
open Go.Proofs.Tryz
open Go.Am.AV renaming int->Q
open Go.IntKind renaming i64->J
namespace Go.Am
open Go.Proofs
set_option maxRecDepth 100000
noncomputable abbrev Zy (f n:Nat):=Yg cfg (Zb cfg) (Y0 cfg (cfg.keep f) n) (cfg.keep f) n Za Z5
noncomputable abbrev Xg (f n:Nat):=Y0 cfg (cfg.keep f) n
noncomputable section
abbrev YT (f n:Nat)(F:Func)(p:Nat):KL->AL->Hp->Z4:=λk g H=>Zy f n (sub (Z1 F) (dd p)) k (Ya (cfg.keep f) (sub (Z1 F) (dd p)) g) H
abbrev Y3 (f n:Nat)(F:Func)(p:Nat):KL->AL->Hp->Z4:=λk g H=>Xg f n (sub (Z1 F) (dd p)) k (Ya (cfg.keep f) (sub (Z1 F) (dd p)) g) H
variable (I p1 p2 p3 p4 X W P V O U x s x8 q v t r x13 x16 x17 x18 x19 x24 x25 x26 x27 x28 x29 x30:AV)(Y H:Hp)
noncomputable abbrev ah (f n:Nat)(F:Func)(p:Nat)(G:Hp):=λk K=>Zy f n (sub (Z1 F) (dd p)) (Zf cfg n f F G) k K
abbrev ai (F:Func)(p:Nat):=sub (Z1 F) (dd p)
abbrev aj:da:=[5,6,9,11,14]
abbrev ak:da:=[4,6,10,13,14]
abbrev am:da:=[4,6,7,10,13]
abbrev ap:da:=[6,9,11,12,14,16]
abbrev aq:da:=[3,4,7,14,16,19]
abbrev ar:da:=[4,8,9]
abbrev au:da:=[3,4,6,8,10,12]
abbrev aw:da:=[4,5,6,8,9,10]
abbrev ax:da:=[4,6,7,9,14,15]
abbrev ay:da:=[3,5,7,8,10,12,15]
abbrev az:da:=[3,4,7,14,16,18,21,23]
abbrev ba:da:=[3,5,7,10,11,14]
abbrev bb:da:=[3,5,6,8,10,11,13]
abbrev bc:da:=[4,5,8,10,11,14]
abbrev bd:da:=[3,6,9,11,12,13]
def aZ:Z4:=ah 9 55 f9 31 Y [(0,X),(1,W),(2,P),(3,V)] H
def J2:KL:=Za (YT 9 55 f9 31) (Zf cfg 55 9 f9 Y)
theorem lP:ZH 55 (J2 Y):=Zq (C:=cfg) (kp:=cfg.keep 9) (ai f9 31) (Zv 9 f9 Y)
def bB:Z4:=Zy 9 55 (ai f9 979) (Za (Y3 9 55 f9 244) (Z5 0 (J2 Y))) [(0,X),(1,W),(2,P),(3,V),(4,O)] H
def bC:KL:=Za (YT 9 55 f9 979) (Za (Y3 9 55 f9 244) (Z5 0 (J2 Y)))
def N0:Z4:=Zy 9 55 (ai f9 15655) (Z5 1 (bC Y)) [(0,X),(1,W),(2,P),(3,V),(4,O),(5,U),(6,x)] H
def PZ:Z4:=Zy 9 55 (ai f9 7827) (Z5 1 (bC Y)) [(0,X),(1,W),(2,P),(3,V),(4,O),(5,U),(6,x)] H
def bA:Z4:=Zy 9 55 (ai f9 489) (Za (Y3 9 55 f9 244) (Z5 0 (J2 Y))) [(0,X),(1,W),(2,P),(3,V),(4,O)] H
def J3:Z4:=Xg 9 55 (ai f9 244) (Z5 0 (J2 Y)) [(0,X),(1,W),(2,P),(3,V),(4,O)] H
def jB:Z4:=
 Z0 (b ((.ptr (d H) 0),H++[.cells [(.str []),.nils,(.str []),(.str []),.nils,.nils]])) λg=>
 Z0 ((Yq [(0,1,(.str [112,111,115,105,120]))] [(.str []),.nils,(.str []),(.str []),.nils,.nils]).map .agg) λu=>
 Z0 (b ((.ptr (d g.2) 0),g.2++[.cells [(.str []),.nils,(.str []),(.str []),.nils,.nils]])) λh=>
 Z0 (Zc 6 h.1 u h.2) λj=>
 J3 g.1 h.1 .nils .nils (Q J 0) H j.2
theorem Zcr:aZ X W P V Y H =
 Z0 (Uh P H) λu=>
 Z0 (Z8 2 W) λw=>
 Z0 (Zc 1 w u H) λj=>
 Z0 (Uh V j.2) λy=>
 Z0 (Z8 3 W) λz=>
 Z0 (Zc 1 z y j.2) λg=>
 Z0 (Z2 c 6 W g.2) λA=>
 Z0 (Zc 6 X A g.2) λh=>
 Z0 (Z2 c 6 X h.2) λB=>
 b (B,h.2):=Z9 aj
theorem Zct:bB X W P V O Y H =
 Z0 (Z3 .add O (Q J 1)) λg=>
 J3 X W P V g Y H:=Z9 aj
theorem Zcv:N0 X W P V O U x Y H =
 Z0 (Z8 1 W) λw=>
 Z0 (Z2 a 1 w H) λy=>
 Z0 ((Zt 1 [(0,O)] [(Q J 0)]).map (.vs 1 .clip)) λt37=>
 Z0 (ZR 1 8 y t37 H) λg=>
 Z0 (Z8 1 W) λz=>
 Z0 (Zc 1 z g.1 g.2) λu=>
 Z0 ((Zt 1 [(0,U)] [(.int .u8 0)]).map (.vs 1 .clip)) λA=>
 Z0 (ZR 1 1 P A u.2) λh=>
 Z0 ((Zt 1 [(0,x)] [(.int .u8 0)]).map (.vs 1 .clip)) λB=>
 Z0 (ZR 1 1 V B h.2) λj=>
 bB X W h.1 j.1 O Y j.2:=Z9 aj
theorem Zcu:PZ X W P V O U x Y H =
 Z0 (Z3 .geq O (Q J 97)) λg=>
 Z0 (Z7 g c bh (b O)) λh=>
 Z0 (Z7 g c bh (Z3 .leq h (Q J 122))) λj=>
 Z0 (Zm g j (.bool a)) λu=>
 Zl u
 (Z0 (Z3 .sub O (Q J 32)) λw=>
 Z0 (Yn .u8 w) λy=>
 N0 X W P V O U y Y H)
 (N0 X W P V O U x Y H):=Z9 aj
theorem Zcs:bA X W P V O Y H =
 Z0 (Yn .u8 O) λj=>
 Z0 (Yn .u8 O) λh=>
 Z0 (Z3 .geq O (Q J 65)) λg=>
 Z0 (Z7 g c bh (b O)) λu=>
 Z0 (Z7 g c bh (Z3 .leq u (Q J 90))) λw=>
 Z0 (Zm g w (.bool a)) λy=>
 Zl y
 (Z0 (Z3 .add O (Q J 32)) λz=>
 Z0 (Yn .u8 z) λA=>
 PZ X W P V O A h Y H)
 (PZ X W P V O j h Y H):=Z9 aj
theorem Zcw:J3 X W P V O Y H =
 Z0 (Z3 .lss O (Q J 256)) λt9=>
 Zl t9
 (bA X W P V O Y H)
 (aZ X W P V Y H):=(Zw (C:=cfg) [5,6,9,11,14] (Zg 0 (lP Y)) _ _).trans df
theorem Zes:US [] H=jB H:=Be 55 [5,6,9,11,14] func9
def MN:Z4:=ah 64 55 f64 31 Y [] H
def Vu:KL:=Za (YT 64 55 f64 31) (Zf cfg 55 64 f64 Y)
theorem Ak:ZH 55 (Vu Y):=Zq (C:=cfg) (kp:=cfg.keep 64) (ai f64 31) (Zv 64 f64 Y)
def MP:Z4:=Zy 64 55 (ai f64 1959) (Za (Y3 64 55 f64 244) (Z5 0 (Vu Y))) [(2,P),(3,V),(4,O),(5,U),(26,x26),(27,x27),(28,x28)] H
def ZbG:KL:=Za (YT 64 55 f64 1959) (Za (Y3 64 55 f64 244) (Z5 0 (Vu Y)))
def Qk:Z4:=Zy 64 55 (ai f64 31335) (Z5 1 (ZbG Y)) [(2,P),(3,V),(4,O),(5,U),(10,v),(11,t),(26,x26),(27,x27),(28,x28)] H
def MO:Z4:=Zy 64 55 (ai f64 979) (Za (Y3 64 55 f64 244) (Z5 0 (Vu Y))) [(2,P),(3,V),(4,O),(5,U),(26,x26),(27,x27),(28,x28),(29,x29)] H
def Ql:Z4:=Xg 64 55 (ai f64 244) (Z5 0 (Vu Y)) [(2,P),(3,V),(4,O),(5,U),(26,x26),(27,x27),(28,x28)] H
def MM:Z4:=ah 64 55 f64 15 Y [(2,P),(3,V),(4,O),(5,U)] H
def LV:Z4:=
 Z0 (ZF I H) λw=>
 Z0 (ZF p1 w.2) λh=>
 Z0 (Z2 c 5 h.1 h.2) λy=>
 Z0 (Ze Vx [y] h.2) λj=>
 Z0 (Zc 5 h.1 j.1 j.2) λg=>
 Z0 (Z8 0 h.1) λz=>
 Z0 (Z2 a 1 z g.2) λA=>
 Z0 (Zk (.slice 103) A) λB=>
 Z0 (Z3 .eql B (Q J 0)) λC=>
 Zl C
 (Z0 (Z2 c 6 w.1 g.2) λD=>
 Z0 (Z8 2 h.1) λE=>
 Z0 (Z2 a 1 E g.2) λF=>
 Z0 (Ze Q0 [D,F,p2,p3] g.2) λu=>
 b (u.1,u.2))
 (MM p2 p3 w.1 h.1 H g.2)
theorem dL:MN Y H =
 b ((Q J 0),H):=Z9 ak
theorem dN:MP P V O U x26 x27 x28 Y H =
 Z0 (Z3 .add x28 (Q J 1)) λg=>
 Ql P V O U x26 x27 g Y H:=Z9 ak
theorem dO:Qk P V O U v t x26 x27 x28 Y H =
 Wy O H λz4 L=>
 Wy U L λz5 M=>
 Wy v M λw g=>
 Z0 (Xk c 6 z4) λy=>
 Z0 (Z2 c 5 w g) λz=>
 Z0 (Z8 1 z5) λA=>
 Z0 (Z2 a 1 A g) λB=>
 Z0 (QF [P,z,B] g) λj=>
 Z0 (Xk c 5 w) λC=>
 Z0 (Z8 1 z5) λD=>
 Z0 (Xk a 1 D) λE=>
 Z0 (QF [V,C,E] j.2) λu=>
 Z0 (Ze Q0 [y,t,j.1,u.1] u.2) λh=>
 Z0 (Z3 .neq h.1 (Q J 0)) λF=>
 Zl F
 (b (h.1,h.2))
 (MP P V z4 z5 x26 x27 x28 Y h.2):=Z9 ak
theorem dM:MO P V O U x26 x27 x28 x29 Y H =
 Z0 (Zj 5 x26 x28) λu=>
 Z0 (Z2 c 5 u H) λw=>
 Z0 (b ((.ptr (d H) 0),H++[.cells [(Q J 0),(Q J 0),(Q J 0),(Q J 0),(Q J 0)]])) λh=>
 Z0 (Zc 5 h.1 w h.2) λg=>
 Z0 (Z8 4 h.1) λy=>
 Z0 (Z2 a 1 y g.2) λj=>
 Z0 (Z3 .eql j (Q J 0)) λz=>
 Zl z
 (Z0 (Z8 2 U) λA=>
 Z0 (Z2 a 1 A g.2) λt37=>
 Qk P V O U h.1 t37 x26 x27 x28 Y g.2)
 (Qk P V O U h.1 j x26 x27 x28 Y g.2):=Z9 ak
theorem Rt:Ql P V O U x26 x27 x28 Y H =
 Z0 (Z3 .lss x28 x27) λg=>
 Zl g
 (MO P V O U x26 x27 x28 g Y H)
 (MN Y H):=(Zw (C:=cfg) [4,6,10,13,14] (Zg 0 (Ak Y)) _ _).trans df
theorem dK:MM P V O U Y H =
 Z0 (Z8 0 U) λh=>
 Z0 (Z2 a 1 h H) λg=>
 Z0 (Zk (.slice 103) g) λj=>
 Ql P V O U g j (Q J 0) Y H:=Z9 ak
theorem eD:WL [I,p1,p2,p3] H=LV I p1 p2 p3 H:=Be 55 [4,6,10,13,14] func64
def pQ:Z4:=ah 66 38 f66 127 Y [(9,q)] H
def Cl:Z4:=ah 66 38 f66 31 Y [(2,P),(3,V),(4,O),(5,U)] H
def Zdd:Z4:=
 Z0 (ZF I H) λz=>
 Z0 (ZF p1 z.2) λh=>
 Z0 (Z2 c 5 h.1 h.2) λA=>
 Z0 (Ze Kj [A] h.2) λy=>
 Z0 (Zc 5 h.1 y.1 y.2) λj=>
 Z0 (Z2 c 6 z.1 j.2) λB=>
 Z0 (Z2 c 5 h.1 j.2) λC=>
 Z0 (Ze K0 [B,C,p2,p3] j.2) λg=>
 Z0 (Z3 .neq g.1 (Q J 0)) λu=>
 Z0 (Z7 u a bh (Z8 4 h.1)) λD=>
 Z0 (Z7 u a bh (Z2 a 1 D g.2)) λE=>
 Z0 (Zm u (.bool c) E) λw=>
 Z0 (Z7 w a bh (Z8 3 h.1)) λF=>
 Z0 (Z7 w a bh (Z2 a 1 F g.2)) λL=>
 Z0 (Zm w (.bool c) L) λM=>
 Zl M
 (b (g.1,g.2))
 (Cl p2 p3 z.1 h.1 H g.2)
theorem Zh2:pQ q Y H =
 b (q,H):=Z9 [5,8]
theorem Zh1:Cl P V O U Y H =
 Z0 (Z2 c 6 O H) λj=>
 Z0 (Ze JZ [j,P,V] H) λg=>
 Z0 (Z8 2 U) λu=>
 Z0 (Z2 a 1 u g.2) λw=>
 Z0 (Ze Wf [w,(Q J 2)] g.2) λh=>
 Zl h.1
 (Z0 (Xa .neg g.1) λy=>
 b (y,h.2))
 (pQ g.1 Y h.2):=Z9 [5,8]
theorem Zjh:Do [I,p1,p2,p3] H=Zdd I p1 p2 p3 H:=Be 38 [5,8] func66
def bH:Z4:=ah 67 59 f67 31 Y [] H
def J5:KL:=Za (YT 67 59 f67 31) (Zf cfg 59 67 f67 Y)
theorem lR:ZH 59 (J5 Y):=Zq (C:=cfg) (kp:=cfg.keep 67) (ai f67 31) (Zv 67 f67 Y)
def bJ:Z4:=Zy 67 59 (ai f67 979) (Za (Y3 67 59 f67 244) (Z5 0 (J5 Y))) [(2,P),(3,V),(4,O),(5,U),(9,q)] H
def ZjG:KL:=Za (YT 67 59 f67 979) (Za (Y3 67 59 f67 244) (Z5 0 (J5 Y)))
def GD:Z4:=Zy 67 59 (ai f67 7827) (Z5 1 (ZjG Y)) [(2,P),(3,V),(4,O),(5,U),(9,q),(10,v)] H
def bI:Z4:=Zy 67 59 (ai f67 489) (Za (Y3 67 59 f67 244) (Z5 0 (J5 Y))) [(2,P),(3,V),(4,O),(5,U),(9,q)] H
def GE:Z4:=Xg 67 59 (ai f67 244) (Z5 0 (J5 Y)) [(2,P),(3,V),(4,O),(5,U),(9,q)] H
def bG:Z4:=ah 67 59 f67 15 Y [(2,P),(3,V),(4,O),(5,U)] H
def jD:Z4:=
 Z0 (ZF I H) λw=>
 Z0 (ZF p1 w.2) λh=>
 Z0 (Z2 c 5 h.1 h.2) λy=>
 Z0 (Ze Kj [y] h.2) λj=>
 Z0 (Zc 5 h.1 j.1 j.2) λg=>
 Z0 (Z8 0 h.1) λz=>
 Z0 (Z2 a 1 z g.2) λA=>
 Z0 (Zk (.slice 103) A) λB=>
 Z0 (Z3 .eql B (Q J 0)) λC=>
 Zl C
 (Z0 (Z2 c 6 w.1 g.2) λD=>
 Z0 (Z8 2 h.1) λE=>
 Z0 (Z2 a 1 E g.2) λF=>
 Z0 (Ze NE [D,p2,p3,F] g.2) λu=>
 b (u.1,u.2))
 (bG p2 p3 w.1 h.1 H g.2)
theorem ZcB:bH Y H =
 b ((Q J 0),H):=Z9 am
theorem ZcD:bJ P V O U q Y H =
 Z0 (Z3 .add q (Q J 1)) λg=>
 GE P V O U g Y H:=Z9 am
theorem ZcE:GD P V O U q v Y H =
 Wy O H λz4 N=>
 Wy U N λz5 R=>
 Wy v R λj g=>
 Z0 (Xk c 6 z4) λy=>
 Z0 (Z2 c 5 j g) λz=>
 Z0 (Z8 1 z5) λA=>
 Z0 (Z2 a 1 A g) λB=>
 Z0 (Fh [P,z,B] g) λu=>
 Z0 (Xk c 5 j) λC=>
 Z0 (Z8 1 z5) λD=>
 Z0 (Xk a 1 D) λE=>
 Z0 (Fh [V,C,E] u.2) λw=>
 Z0 (Z8 4 j) λF=>
 Z0 (Xk a 1 F) λL=>
 Z0 (Ze NE [y,u.1,w.1,L] w.2) λh=>
 Z0 (Z3 .neq h.1 (Q J 0)) λM=>
 Zl M
 (b (h.1,h.2))
 (bJ P V z4 z5 q Y h.2):=Z9 am
theorem ZcC:bI P V O U q Y H =
 Z0 (Z8 0 U) λu=>
 Z0 (Z2 a 1 u H) λw=>
 Z0 (Zj 5 w q) λy=>
 Z0 (Z2 c 5 y H) λz=>
 Z0 (b ((.ptr (d H) 0),H++[.cells [(Q J 0),(Q J 0),(Q J 0),(Q J 0),(Q J 0)]])) λh=>
 Z0 (Zc 5 h.1 z h.2) λg=>
 Z0 (Z8 4 h.1) λA=>
 Z0 (Z2 a 1 A g.2) λt37=>
 Z0 (Z3 .eql t37 (Q J 0)) λB=>
 Zl B
 (Z0 (Z8 2 U) λC=>
 Z0 (Z2 a 1 C g.2) λD=>
 Z0 (Z8 4 h.1) λE=>
 Z0 (Zc 1 E D g.2) λj=>
 GD P V O U q h.1 Y j.2)
 (GD P V O U q h.1 Y g.2):=Z9 am
theorem E3:GE P V O U q Y H =
 Z0 (Z8 0 U) λg=>
 Z0 (Z2 a 1 g H) λh=>
 Z0 (Zk (.slice 103) h) λj=>
 Z0 (Z3 .lss q j) λu=>
 Zl u
 (bI P V O U q Y H)
 (bH Y H):=(Zw (C:=cfg) [4,6,7,10,13] (Zg 0 (lR Y)) _ _).trans df
theorem ZcA:bG P V O U Y H =
 GE P V O U (Q J 0) Y H:=Z9 am
theorem Zeu:K0 [I,p1,p2,p3] H=jD I p1 p2 p3 H:=Be 59 [4,6,7,10,13] func67
def Hw:Z4:=ah 79 39 f79 127 Y [(9,q)] H
def R1:Z4:=ah 79 39 f79 31 Y [(2,P),(3,V),(4,O),(5,U)] H
def At:Z4:=
 Z0 (ZF I H) λz=>
 Z0 (ZF p1 z.2) λh=>
 Z0 (Z2 c 5 h.1 h.2) λA=>
 Z0 (Ze Vx [A] h.2) λy=>
 Z0 (Zc 5 h.1 y.1 y.2) λj=>
 Z0 (Z2 c 6 z.1 j.2) λB=>
 Z0 (Z2 c 5 h.1 j.2) λC=>
 Z0 (Ze WL [B,C,p2,p3] j.2) λg=>
 Z0 (Z3 .neq g.1 (Q J 0)) λu=>
 Z0 (Z7 u a bh (Z8 4 h.1)) λD=>
 Z0 (Z7 u a bh (Z2 a 1 D g.2)) λE=>
 Z0 (Zm u (.bool c) E) λw=>
 Z0 (Z7 w a bh (Z8 3 h.1)) λF=>
 Z0 (Z7 w a bh (Z2 a 1 F g.2)) λL=>
 Z0 (Zm w (.bool c) L) λM=>
 Zl M
 (b (g.1,g.2))
 (R1 p2 p3 z.1 h.1 H g.2)
theorem mL:Hw q Y H =
 b (q,H):=Z9 [5,8]
theorem mK:R1 P V O U Y H =
 Z0 (Z2 c 6 O H) λh=>
 Z0 (Ze Uc [h,P,V] H) λg=>
 Z0 (Z8 2 U) λj=>
 Z0 (Z2 a 1 j g.2) λu=>
 Z0 (Z3 .and u (Q J 2)) λw=>
 Z0 (Z3 .neq w (Q J 0)) λy=>
 Zl y
 (Z0 (Xa .neg g.1) λt37=>
 b (t37,g.2))
 (Hw g.1 Y g.2):=Z9 [5,8]
theorem oA:UZ [I,p1,p2,p3] H=At I p1 p2 p3 H:=Be 39 [5,8] func79
def HG:Z4:=ah 87 8 f87 7 Y [(1,W),(2,P)] H
def RN:Z4:=
 Z0 (ZF I H) λj=>
 Z0 (b ((.ptr (d j.2) 0),j.2++[.cells [.nils,(Q J 0),(Q J 0),(.bool a),(.bool a)]])) λh=>
 Z0 (Z2 c 5 j.1 h.2) λt3=>
 Z0 (Ze Wt [t3] h.2) λu=>
 Z0 (Z3 .neq u.1 (Q J 0)) λt5=>
 Zl t5
 (Z0 ((Yq [(1,1,(Q J (-1)))] [.nils,(Q J 0),(Q J 0),(.bool a),(.bool a)]).map .agg) λw=>
 Z0 (Zc 5 h.1 w u.2) λg=>
 Z0 (Z2 c 5 h.1 g.2) λy=>
 b (y,g.2))
 (HG j.1 h.1 H u.2)
theorem mZ:HG W P Y H =
 Z0 (Z2 c 5 W H) λh=>
 Z0 (Zc 5 P h H) λg=>
 Z0 (Z2 c 5 P g.2) λj=>
 b (j,g.2):=Z9 [3]
theorem Mu:Vx [I] H=RN I H:=Be 8 [3] func87
def R7:Z4:=ah 88 50 f88 31 Y [(4,O),(5,U),(6,x),(7,s),(9,q)] H
def JW:Z4:=ah 88 50 f88 15 Y [(4,O),(5,U),(6,x),(7,s),(9,q)] H
def Aw:Z4:=
 Z0 (ZF I H) λj=>
 Z0 (ZF p1 j.2) λh=>
 Z0 (ZF p2 h.2) λu=>
 Z0 (ZF p3 u.2) λg=>
 Z0 (Z2 a 1 h.1 g.2) λw=>
 Z0 (Z3 .and w (Q J 2)) λy=>
 Z0 (Z3 .neq y (Q J 0)) λz=>
 Zl z
 (JW j.1 h.1 u.1 g.1 (Q J (-1)) H g.2)
 (JW j.1 h.1 u.1 g.1 (Q J 1) H g.2)
theorem mY:R7 O U x s q Y H =
 Z0 (b (.fn (.func 106) [] [U,x,s])) λh=>
 Z0 (Yu cfg (Zb cfg) h [(Q J 8),(.fn (.func 107) [] [])] H) λu=>
 Z0 (Yu cfg (Zb cfg) h [(Q J 16),(.fn (.func 109) [] [])] u.2) λw=>
 Wy O w.2 λz4 D=>
 Z0 (b (.fn (.func 110) [] [z4])) λy=>
 Z0 (Yu cfg (Zb cfg) h [(Q J 4),y] D) λg=>
 Z0 (Z2 c 6 z4 g.2) λz=>
 Z0 (Z2 a 1 x g.2) λA=>
 Z0 (Z2 a 1 s g.2) λB=>
 Z0 (Ze Uc [z,A,B] g.2) λj=>
 Z0 (Z3 .mul q j.1) λC=>
 b (C,j.2):=Z9 [4,8]
theorem mX:JW O U x s q Y H =
 Z0 (Z2 a 1 U H) λu=>
 Z0 (Z3 .and u (Q J 1)) λw=>
 Z0 (Z3 .neq w (Q J 0)) λy=>
 Zl y
 (Z0 (Z2 a 1 x H) λz=>
 Z0 (Ze Jo [z] H) λg=>
 Z0 (ZQ g.1 0) λA=>
 Z0 (ZQ g.1 1) λE=>
 Z0 (Z2 a 1 s g.2) λB=>
 Z0 (Ze Jo [B] g.2) λh=>
 Z0 (ZQ h.1 0) λC=>
 Z0 (ZQ h.1 1) λF=>
 Z0 (Ze PU [A,C] h.2) λj=>
 Z0 (Z3 .mul q j.1) λD=>
 b (D,j.2))
 (R7 O U x s q Y H):=Z9 [4,8]
theorem oD:Q0 [I,p1,p2,p3] H=Aw I p1 p2 p3 H:=Be 50 [4,8] func88
def pU:Z4:=ah 90 8 f90 7 Y [(1,W),(2,P)] H
def O5:Z4:=
 Z0 (ZF I H) λj=>
 Z0 (b ((.ptr (d j.2) 0),j.2++[.cells [.nils,(Q J 0),(Q J 0),(.bool a),(.bool a)]])) λh=>
 Z0 (Z2 c 5 j.1 h.2) λt3=>
 Z0 (Ze Qp [t3] h.2) λu=>
 Z0 (Z3 .neq u.1 (Q J 0)) λt5=>
 Zl t5
 (Z0 ((Yq [(1,1,(Q J (-1)))] [.nils,(Q J 0),(Q J 0),(.bool a),(.bool a)]).map .agg) λw=>
 Z0 (Zc 5 h.1 w u.2) λg=>
 Z0 (Z2 c 5 h.1 g.2) λy=>
 b (y,g.2))
 (pU j.1 h.1 H u.2)
theorem Zha:pU W P Y H =
 Z0 (Z2 c 5 W H) λh=>
 Z0 (Zc 5 P h H) λg=>
 Z0 (Z2 c 5 P g.2) λj=>
 b (j,g.2):=Z9 [3]
theorem aE:Kj [I] H=O5 I H:=Be 8 [3] func90
def aY:Z4:=ah 91 23 f91 15 Y [(1,W),(2,P)] H
def jA:Z4:=
 Z0 (ZF I H) λj=>
 Z0 (Z2 c 6 j.1 j.2) λC=>
 Z0 (Ze Ki [C] j.2) λB=>
 Z0 (Zc 6 j.1 B.1 B.2) λw=>
 Z0 (Z2 c 6 j.1 w.2) λy=>
 Z0 (Ze Ff [y,p1] w.2) λh=>
 Z0 (Z2 c 6 j.1 h.2) λz=>
 Z0 (Ze Ff [z,p2] h.2) λu=>
 Z0 (Ze Dn [h.1,u.1] u.2) λg=>
 Z0 (Z3 .neq g.1 (Q J 0)) λA=>
 Zl A
 (b (g.1,g.2))
 (aY p1 p2 H g.2)
theorem Zcq:aY W P Y H =
 Z0 (Ze IW [W,P] H) λg=>
 b (g.1,g.2):=Z9 [5]
theorem Zer:JZ [I,p1,p2] H=jA I p1 p2 H:=Be 23 [5] func91
def pS:Z4:=ah 93 30 f93 31 Y [(9,q)] H
def Tb:Z4:=ah 93 30 f93 15 Y [(3,V),(9,q)] H
def Zdg:Z4:=
 Z0 (ZF I H) λy=>
 Z0 (Ze Wf [p3,(Q J 1)] y.2) λg=>
 Zl g.1
 (Z0 (Ze MX [p1,p2] g.2) λj=>
 Tb p3 j.1 H j.2)
 (Z0 (Z2 c 6 y.1 g.2) λz=>
 Z0 (Z2 c 6 y.1 g.2) λA=>
 Z0 (Ze NG [A,p1,p3] g.2) λh=>
 Z0 (Z2 c 6 y.1 h.2) λB=>
 Z0 (Ze NG [B,p2,p3] h.2) λu=>
 Z0 (Ze JZ [z,h.1,u.1] u.2) λw=>
 Tb p3 w.1 H w.2)
theorem Zh5:pS q Y H =
 b (q,H):=Z9 [5,7]
theorem Zh4:Tb V q Y H =
 Z0 (Ze Wf [V,(Q J 2)] H) λg=>
 Zl g.1
 (Z0 (Xa .neg q) λh=>
 b (h,g.2))
 (pS q Y g.2):=Z9 [5,7]
theorem Zjk:NE [I,p1,p2,p3] H=Zdg I p1 p2 p3 H:=Be 30 [5,7] func93
def Ea:Z4:=ah 102 60 f102 255 Y [(1,W),(2,P)] H
def E9:Z4:=ah 102 60 f102 127 Y [(1,W),(2,P),(8,x8),(9,q)] H
def E8:Z4:=ah 102 60 f102 63 Y [(1,W),(2,P),(8,x8),(9,q)] H
def VK:KL:=Za (YT 102 60 f102 63) (Zf cfg 60 102 f102 Y)
theorem OL:ZH 60 (VK Y):=Zq (C:=cfg) (kp:=cfg.keep 102) (ai f102 63) (Zv 102 f102 Y)
def Ec:Z4:=Zy 102 60 (ai f102 4007) (Za (Y3 102 60 f102 500) (Z5 0 (VK Y))) [(1,W),(2,P),(8,x8),(9,q),(24,x24),(25,x25)] H
def ZcR:KL:=Za (YT 102 60 f102 4007) (Za (Y3 102 60 f102 500) (Z5 0 (VK Y)))
def Ed:Z4:=Zy 102 60 (ai f102 32051) (Z5 1 (ZcR Y)) [(1,W),(2,P),(8,x8),(9,q),(10,v),(24,x24),(25,x25)] H
def Eb:Z4:=Zy 102 60 (ai f102 2003) (Za (Y3 102 60 f102 500) (Z5 0 (VK Y))) [(1,W),(2,P),(8,x8),(9,q),(24,x24),(25,x25),(26,x26)] H
def QM:Z4:=Xg 102 60 (ai f102 500) (Z5 0 (VK Y)) [(1,W),(2,P),(8,x8),(9,q),(24,x24),(25,x25)] H
def SM:Z4:=
 Z0 (ZF I H) λu=>
 Z0 (Z2 c 6 u.1 u.2) λz=>
 Z0 (Ze U7 [z] u.2) λj=>
 Z0 (Zc 6 u.1 j.1 j.2) λy=>
 Wy u.1 y.2 λz3 D=>
 Z0 (b (.fn (.func 129) [] [z3])) λw=>
 Z0 (XG cfg (Zb cfg) w [p1] D) λg=>
 Z0 (Yu cfg (Zb cfg) w [p2] g.2) λh=>
 Z0 (Zk (.slice 3) g.1) λA=>
 Z0 (Zk (.slice 3) h.1) λB=>
 Z0 (Q3 A B) λC=>
 QM p1 p2 g.1 h.1 C (Q J 0) H h.2
theorem gL:Ea W P Y H =
 Z0 (Ze BW [W,P] H) λg=>
 b (g.1,g.2):=Z9 ap
theorem gJ:E9 W P x8 q Y H =
 Z0 (Zk (.slice 3) x8) λg=>
 Z0 (Zk (.slice 3) q) λh=>
 Z0 (Z3 .gtr g h) λj=>
 Zl j
 (b ((Q J 1),H))
 (Ea W P Y H):=Z9 ap
theorem gI:E8 W P x8 q Y H =
 Z0 (Zk (.slice 3) x8) λg=>
 Z0 (Zk (.slice 3) q) λh=>
 Z0 (Z3 .lss g h) λj=>
 Zl j
 (b ((Q J (-1)),H))
 (E9 W P x8 q Y H):=Z9 ap
theorem gQ:Ec W P x8 q x24 x25 Y H =
 Z0 (Z3 .add x25 (Q J 1)) λg=>
 QM W P x8 q x24 g Y H:=Z9 ap
theorem gR:Ed W P x8 q v x24 x25 Y H =
 Z0 (Zj 1 x8 v) λg=>
 Z0 (Z2 a 1 g H) λh=>
 Z0 (Zj 1 q v) λj=>
 Z0 (Z2 a 1 j H) λu=>
 Z0 (Z3 .gtr h u) λw=>
 Zl w
 (b ((Q J 1),H))
 (Ec W P x8 q x24 x25 Y H):=Z9 ap
theorem gO:Eb W P x8 q x24 x25 x26 Y H =
 Z0 (Zj 1 x8 x25) λg=>
 Z0 (Z2 a 1 g H) λh=>
 Z0 (Zj 1 q x25) λj=>
 Z0 (Z2 a 1 j H) λu=>
 Z0 (Z3 .lss h u) λw=>
 Zl w
 (b ((Q J (-1)),H))
 (Ed W P x8 q x25 x24 x25 Y H):=Z9 ap
theorem TT:QM W P x8 q x24 x25 Y H =
 Z0 (Z3 .lss x25 x24) λg=>
 Zl g
 (Eb W P x8 q x24 x25 g Y H)
 (E8 W P x8 q Y H):=(Zw (C:=cfg) [6,9,11,12,14,16] (Zg 0 (OL Y)) _ _).trans df
theorem lI:Uc [I,p1,p2] H=SM I p1 p2 H:=Be 60 [6,9,11,12,14,16] func102
def D6:Z4:=ah 104 116 f104 4095 Y [(9,q),(11,t)] H
def D5:Z4:=ah 104 116 f104 1023 Y [(5,U),(7,s),(8,x8),(9,q)] H
def WN:Z4:=ah 104 116 f104 511 Y [(5,U),(6,x),(7,s),(8,x8),(9,q)] H
def QI:Z4:=ah 104 116 f104 63 Y [(0,X),(4,O),(5,U)] H
def D4:Z4:=ah 104 116 f104 15 Y [(0,X),(4,O)] H
def D7:KL:=Za (YT 104 116 f104 15) (Zf cfg 116 104 f104 Y)
theorem OD:ZH 116 (D7 Y):=Zq (C:=cfg) (kp:=cfg.keep 104) (ai f104 15) (Zv 104 f104 Y)
def E5:Z4:=Zy 104 116 (ai f104 113) (Za (Y3 104 116 f104 56) (Z5 0 (D7 Y))) [(0,X),(4,O)] H
def QJ:Z4:=Xg 104 116 (ai f104 56) (Z5 0 (D7 Y)) [(0,X),(4,O)] H
def Zex:Z4:=
 QJ I (Q J 0) H H
theorem TD:D6 q t Y H =
 b ((.tuple [t,q]),H):=Z9 aq
theorem fJ:D5 U s x8 q Y H =
 Z0 (Ze RH [s,x8] H) λg=>
 Z0 (Q3 (Q J 10000000000000) g.1) λh=>
 Zl U
 (Z0 (Xa .neg h) λj=>
 D6 q j Y g.2)
 (D6 q h Y g.2):=Z9 aq
theorem fI:WN U x s x8 q Y H =
 Z0 (Z3 .eql x (Q J 0)) λg=>
 Z0 (Z7 g c bh (b x8)) λh=>
 Z0 (Z7 g c bh (YK .eql h (.str []))) λj=>
 Z0 (Zm g j (.bool a)) λu=>
 Zl u
 (b ((.tuple [(Q J 0),(Q J 0)]),H))
 (D5 U s x8 q Y H):=Z9 aq
theorem fH:QI X O U Y H =
 Z0 (Y4 X (b O) e e) λA=>
 Z0 (Ze Jp [A] H) λg=>
 Z0 (Z3 .add O g.1) λB=>
 Z0 (Y4 X (b O) (b B) e) λw=>
 Z0 (Z3 .add O g.1) λh=>
 Z0 (Zk .string X) λt70=>
 Z0 (Z3 .lss h t70) λu=>
 Z0 (Z7 u c bh (b X)) λC=>
 Z0 (Z7 u c bh (b h)) λD=>
 Z0 (Z7 u c bh (Zz C D)) λE=>
 Z0 (Z7 u c bh (Z3 .eql E (.int .u8 46))) λF=>
 Z0 (Zm u F (.bool a)) λL=>
 Zl L
 (Z0 (Z3 .add h (Q J 1)) λM=>
 Z0 (Y4 X (b M) e e) λN=>
 Z0 (Ze Jp [N] g.2) λj=>
 Z0 (Z3 .gtr g.1 (Q J 0)) λy=>
 Z0 (Z7 y a bh (b j.1)) λR=>
 Z0 (Z7 y a bh (Z3 .gtr R (Q J 0))) λS=>
 Z0 (Zm y (.bool c) S) λT=>
 Zl T
 (Z0 (Z3 .add h (Q J 1)) λZ=>
 Z0 (Z3 .add h (Q J 1)) λaa=>
 Z0 (Z3 .add aa j.1) λab=>
 Z0 (Y4 X (b Z) (b ab) e) λac=>
 Z0 (Z3 .add (Q J 1) j.1) λad=>
 Z0 (Z3 .add h ad) λz=>
 WN U g.1 w ac z Y j.2)
 (WN U g.1 w (.str []) h Y j.2))
 (WN U g.1 w (.str []) h Y g.2):=Z9 aq
theorem fG:D4 X O Y H =
 Z0 (Zk .string X) λu=>
 Z0 (Z3 .lss O u) λh=>
 Z0 (Z7 h c bh (b X)) λw=>
 Z0 (Z7 h c bh (b O)) λy=>
 Z0 (Z7 h c bh (Zz w y)) λt37=>
 Z0 (Z7 h c bh (Z3 .eql t37 (.int .u8 45))) λz=>
 Z0 (Zm h z (.bool a)) λg=>
 Z0 (Z7 g a bh (b O)) λA=>
 Z0 (Z7 g a bh (b X)) λB=>
 Z0 (Z7 g a bh (Zk .string B)) λC=>
 Z0 (Z7 g a bh (Z3 .lss A C)) λD=>
 Z0 (Z7 g a bh (b D)) λj=>
 Z0 (Z7 j c bh (b X)) λE=>
 Z0 (Z7 j c bh (b O)) λF=>
 Z0 (Z7 j c bh (Zz E F)) λL=>
 Z0 (Z7 j c bh (Z3 .eql L (.int .u8 43))) λM=>
 Z0 (Z7 g a bh (Zm j M (.bool a))) λN=>
 Z0 (Zm g (.bool c) N) λR=>
 Zl R
 (Z0 (Z3 .add O (Q J 1)) λS=>
 QI X S g Y H)
 (QI X O g Y H):=Z9 aq
theorem TE:E5 X O Y H =
 Z0 (Z3 .add O (Q J 1)) λg=>
 QJ X g Y H:=Z9 aq
theorem TF:QJ X O Y H =
 Z0 (Zk .string X) λj=>
 Z0 (Z3 .lss O j) λg=>
 Z0 (Z7 g c bh (b X)) λu=>
 Z0 (Z7 g c bh (b O)) λw=>
 Z0 (Z7 g c bh (Zz u w)) λy=>
 Z0 (Z7 g c bh (Z3 .eql y (.int .u8 32))) λz=>
 Z0 (Z7 g c bh (b z)) λh=>
 Z0 (Z7 h a bh (b X)) λA=>
 Z0 (Z7 h a bh (b O)) λB=>
 Z0 (Z7 h a bh (Zz A B)) λD=>
 Z0 (Z7 h a bh (Z3 .eql D (.int .u8 9))) λE=>
 Z0 (Z7 g c bh (Zm h (.bool c) E)) λF=>
 Z0 (Zm g F (.bool a)) λL=>
 Zl L
 (E5 X O Y H)
 (D4 X O Y H):=(Zw (C:=cfg) [3,4,7,14,16,19] (Zg 0 (OD Y)) _ _).trans df
theorem lF:Jo [I] H=Zex I H:=Be 116 [3,4,7,14,16,19] func104
def IL:Z4:=ah 105 13 f105 7 Y [] H
def aR:Z4:=
 Z0 (Z3 .lss I p1) λh=>
 Zl h
 (b ((Q J (-1)),H))
 (Z0 (Z3 .gtr I p1) λg=>
 Zl g
 (b ((Q J 1),H))
 (IL H H))
theorem ZbJ:IL Y H =
 b ((Q J 0),H):=Z9 [5]
theorem Zck:PU [I,p1] H=aR I p1 H:=Be 13 [5] func105
def LX:Z4:=
 Z0 (Z2 a 1 p2 H) λA=>
 Z0 (Z3 .and A I) λt9=>
 Z0 (Z3 .neq t9 (Q J 0)) λw=>
 Zl w
 (Z0 (Z2 a 1 p3 H) λy=>
 Z0 (XG cfg (Zb cfg) p1 [y] H) λg=>
 Z0 (Z2 a 1 p4 g.2) λz=>
 Z0 (XG cfg (Zb cfg) p1 [z] g.2) λh=>
 Z0 (Zc 1 p3 g.1 h.2) λj=>
 Z0 (Zc 1 p4 h.1 j.2) λu=>
 b (bh,u.2))
 (b (bh,H))
theorem eF:BT [I,p1,p2,p3,p4] H=LX I p1 p2 p3 p4 H:=Be 17 [] func106
def LY:Z4:=
 Z0 (iS Zc9 [I,(.str [32,9])] H) λg=>
 b (g.1,g.2)
theorem eG:BU [I] H=LY I H:=Be 5 [] func107
def IK:Z4:=ah 109 44 f109 15 Y [(3,V)] H
def KS:KL:=Za (YT 109 44 f109 15) (Zf cfg 44 109 f109 Y)
theorem iM:ZH 44 (KS Y):=Zq (C:=cfg) (kp:=cfg.keep 109) (ai f109 15) (Zv 109 f109 Y)
def Qm:Z4:=Zy 109 44 (ai f109 935) (Za (Y3 109 44 f109 116) (Z5 0 (KS Y))) [(0,X),(3,V),(7,s),(8,x8)] H
def P8:Z4:=Zy 109 44 (ai f109 467) (Za (Y3 109 44 f109 116) (Z5 0 (KS Y))) [(0,X),(3,V),(7,s),(8,x8),(9,q)] H
def KT:Z4:=Xg 109 44 (ai f109 116) (Z5 0 (KS Y)) [(0,X),(3,V),(7,s),(8,x8)] H
def aQ:Z4:=
 Z0 (b ((.ptr (d H) 0),H++[.bld 146 5 []])) λg=>
 Z0 (Zk .string I) λh=>
 KT I g.1 h (Q J 0) H g.2
theorem ZbH:IK V Y H =
 Z0 (stringE.run [V] H) λg=>
 b (g.1,g.2):=Z9 ar
theorem MS:Qm X V s x8 Y H =
 Z0 (Z3 .add x8 (Q J 1)) λg=>
 KT X V s g Y H:=Z9 ar
theorem ZbI:P8 X V s x8 q Y H =
 Z0 (Zz X x8) λg=>
 Z0 (Vw [g] H) λh=>
 Z0 (Z7 h.1 a bh (b g)) λB=>
 Z0 (Z7 h.1 a bh (Z3 .geq B (.int .u8 97))) λC=>
 Z0 (Z7 h.1 a bh (b C)) λw=>
 Z0 (Z7 w c bh (b g)) λD=>
 Z0 (Z7 w c bh (Z3 .leq D (.int .u8 122))) λE=>
 Z0 (Z7 h.1 a bh (Zm w E (.bool a))) λF=>
 Z0 (Zm h.1 (.bool c) F) λj=>
 Z0 (Z7 j a bh (b g)) λL=>
 Z0 (Z7 j a bh (Z3 .geq L (.int .u8 65))) λM=>
 Z0 (Z7 j a bh (b M)) λy=>
 Z0 (Z7 y c bh (b g)) λN=>
 Z0 (Z7 y c bh (Z3 .leq N (.int .u8 90))) λR=>
 Z0 (Z7 j a bh (Zm y R (.bool a))) λS=>
 Z0 (Zm j (.bool c) S) λu=>
 Z0 (Z7 u a bh (b g)) λT=>
 Z0 (Z7 u a bh (Z3 .geq T (.int .u8 48))) λZ=>
 Z0 (Z7 u a bh (b Z)) λz=>
 Z0 (Z7 z c bh (b g)) λaa=>
 Z0 (Z7 z c bh (Z3 .leq aa (.int .u8 57))) λt37=>
 Z0 (Z7 u a bh (Zm z t37 (.bool a))) λab=>
 Z0 (Zm u (.bool c) ab) λac=>
 Zl ac
 (Z0 (byteE.run [V,g] h.2) λA=>
 Qm X V s x8 Y A.2)
 (Qm X V s x8 Y h.2):=Z9 ar
theorem MT:KT X V s x8 Y H =
 Z0 (Z3 .lss x8 s) λt9=>
 Zl t9
 (P8 X V s x8 t9 Y H)
 (IK V Y H):=(Zw (C:=cfg) [4,8,9] (Zg 0 (iM Y)) _ _).trans df
theorem Zcj:PT [I] H=aQ I H:=Be 44 [4,8,9] func109
def LZ:Z4:=
 Z0 (Z2 c 6 p1 H) λt4=>
 Z0 (Ze PS [t4,I] H) λg=>
 b (g.1,g.2)
theorem eH:BV [I,p1] H=LZ I p1 H:=Be 7 [] func110
def aM:Z4:=
 Z0 (ZF I H) λg=>
 Z0 (Z2 c 6 g.1 g.2) λt5=>
 Z0 (Ze U7 [t5] g.2) λh=>
 Z0 (Su a 1 3 h.1) λu=>
 Z0 (Ze RJ [u,p1] h.2) λj=>
 b (j.1,j.2)
theorem Zcg:PS [I,p1] H=aM I p1 H:=Be 10 [] func111
def pH:Z4:=ah 113 8 f113 7 Y [(1,W),(2,P)] H
def O4:Z4:=
 Z0 (ZF I H) λj=>
 Z0 (b ((.ptr (d j.2) 0),j.2++[.cells [(.str []),.nils,(.str []),(.str []),.nils,.nils]])) λh=>
 Z0 (Z2 c 6 j.1 h.2) λt3=>
 Z0 (Ze NC [t3] h.2) λu=>
 Z0 (Z3 .neq u.1 (Q J 0)) λt5=>
 Zl t5
 (Z0 (Ze US [] u.2) λw=>
 Z0 (Zc 6 h.1 w.1 w.2) λg=>
 Z0 (Z2 c 6 h.1 g.2) λy=>
 b (y,g.2))
 (pH j.1 h.1 H u.2)
theorem ZgV:pH W P Y H =
 Z0 (Z2 c 6 W H) λh=>
 Z0 (Zc 6 P h H) λg=>
 Z0 (Z2 c 6 P g.2) λj=>
 b (j,g.2):=Z9 [3]
theorem aD:Ki [I] H=O4 I H:=Be 8 [3] func113
def pD:Z4:=ah 114 46 f114 31 Y [] H
def pC:Z4:=ah 114 46 f114 15 Y [(0,X),(1,W)] H
def Ce:Z4:=ah 114 46 f114 7 Y [(0,X),(1,W)] H
def Gb:KL:=Za (YT 114 46 f114 7) (Zf cfg 46 114 f114 Y)
theorem Zcx:ZH 46 (Gb Y):=Zq (C:=cfg) (kp:=cfg.keep 114) (ai f114 7) (Zv 114 f114 Y)
def pF:Z4:=Zy 114 46 (ai f114 211) (Za (Y3 114 46 f114 52) (Z5 0 (Gb Y))) [(0,X),(1,W),(5,U)] H
def ZmI:KL:=Za (YT 114 46 f114 211) (Za (Y3 114 46 f114 52) (Z5 0 (Gb Y)))
def pG:Z4:=Zy 114 46 (ai f114 841) (Z5 1 (ZmI Y)) [(0,X),(1,W),(5,U)] H
def pE:Z4:=Zy 114 46 (ai f114 105) (Za (Y3 114 46 f114 52) (Z5 0 (Gb Y))) [(0,X),(1,W),(5,U)] H
def T8:Z4:=Xg 114 46 (ai f114 52) (Z5 0 (Gb Y)) [(0,X),(1,W),(5,U)] H
def Zdb:Z4:=
 T8 I p1 (Q J 0) H H
theorem ZgR:pD Y H =
 b ((Q J 0),H):=Z9 au
theorem ZgQ:pC X W Y H =
 Z0 (Zk (.slice 3) X) λg=>
 Z0 (Zk (.slice 3) W) λh=>
 Z0 (Z3 .gtr g h) λj=>
 Zl j
 (b ((Q J 1),H))
 (pD Y H):=Z9 au
theorem ZgP:Ce X W Y H =
 Z0 (Zk (.slice 3) X) λt37=>
 Z0 (Zk (.slice 3) W) λg=>
 Z0 (Z3 .lss t37 g) λh=>
 Zl h
 (b ((Q J (-1)),H))
 (pC X W Y H):=Z9 au
theorem ZgT:pF X W U Y H =
 Z0 (Z3 .add U (Q J 1)) λg=>
 T8 X W g Y H:=Z9 au
theorem ZgU:pG X W U Y H =
 Z0 (Zj 1 X U) λg=>
 Z0 (Z2 a 1 g H) λh=>
 Z0 (Zj 1 W U) λj=>
 Z0 (Z2 a 1 j H) λu=>
 Z0 (Z3 .gtr h u) λw=>
 Zl w
 (b ((Q J 1),H))
 (pF X W U Y H):=Z9 au
theorem ZgS:pE X W U Y H =
 Z0 (Zj 1 X U) λg=>
 Z0 (Z2 a 1 g H) λh=>
 Z0 (Zj 1 W U) λj=>
 Z0 (Z2 a 1 j H) λu=>
 Z0 (Z3 .lss h u) λw=>
 Zl w
 (b ((Q J (-1)),H))
 (pG X W U Y H):=Z9 au
theorem AE:T8 X W U Y H =
 Z0 (Zk (.slice 3) X) λy=>
 Z0 (Z3 .lss U y) λt9=>
 Z0 (Z7 t9 c bh (b U)) λg=>
 Z0 (Z7 t9 c bh (b W)) λh=>
 Z0 (Z7 t9 c bh (Zk (.slice 3) h)) λj=>
 Z0 (Z7 t9 c bh (Z3 .lss g j)) λu=>
 Z0 (Zm t9 u (.bool a)) λw=>
 Zl w
 (pE X W U Y H)
 (Ce X W Y H):=(Zw (C:=cfg) [3,4,6,8,10,12] (Zg 0 (Zcx Y)) _ _).trans df
theorem Zjf:Dn [I,p1] H=Zdb I p1 H:=Be 46 [3,4,6,8,10,12] func114
def bE:Z4:=ah 115 42 f115 15 Y [(5,U)] H
def N3:KL:=Za (YT 115 42 f115 15) (Zf cfg 42 115 f115 Y)
theorem lQ:ZH 42 (N3 Y):=Zq (C:=cfg) (kp:=cfg.keep 115) (ai f115 15) (Zv 115 f115 Y)
def bF:Z4:=Zy 115 42 (ai f115 233) (Za (Y3 115 42 f115 116) (Z5 0 (N3 Y))) [(1,W),(2,P),(5,U),(6,x)] H
def J4:Z4:=Xg 115 42 (ai f115 116) (Z5 0 (N3 Y)) [(1,W),(2,P),(5,U),(6,x)] H
def jC:Z4:=
 Z0 (ZF I H) λg=>
 J4 p1 g.1 .nils (Q J 0) H g.2
theorem E2:bE U Y H =
 b (U,H):=Z9 [4,10]
theorem Zcy:bF W P U x Y H =
 Z0 (Z2 c 6 P H) λu=>
 Z0 (Ze Et [u,W,x] H) λg=>
 Z0 (Z3 .lss g.1 (Q J 0)) λw=>
 Zl w
 (Z0 (Z8 1 P) λy=>
 Z0 (Z2 a 1 y g.2) λz=>
 Z0 (Zz W x) λA=>
 Z0 (Zj 1 z A) λB=>
 Z0 (Z2 a 1 B g.2) λC=>
 Z0 ((Zt 1 [(0,C)] [(Q J 0)]).map (.vs 1 .clip)) λD=>
 Z0 (ZR 1 8 U D g.2) λh=>
 Z0 (Z3 .add x (Q J 1)) λE=>
 J4 W P h.1 E Y h.2)
 (Z0 (Z8 5 P) λF=>
 Z0 (Z2 a 1 F g.2) λL=>
 Z0 (Zj 2 L g.1) λM=>
 Z0 (Z8 1 M) λN=>
 Z0 (Z2 a 1 N g.2) λR=>
 Z0 ((Zt 1 [(0,R)] [(Q J 0)]).map (.vs 1 .clip)) λt37=>
 Z0 (ZR 1 8 U t37 g.2) λj=>
 Z0 (Z3 .add x (Q J 2)) λS=>
 J4 W P j.1 S Y j.2):=Z9 [4,10]
theorem BZ:J4 W P U x Y H =
 Z0 (Zk .string W) λg=>
 Z0 (Z3 .lss x g) λh=>
 Zl h
 (bF W P U x Y H)
 (bE U Y H):=(Zw (C:=cfg) [4,10] (Zg 0 (lQ Y)) _ _).trans df
theorem Zet:Ff [I,p1] H=jC I p1 H:=Be 42 [4,10] func115
def oN:Z4:=ah 116 38 f116 31 Y [(5,U),(6,x)] H
def RT:KL:=Za (YT 116 38 f116 31) (Zf cfg 38 116 f116 Y)
theorem Zcn:ZH 38 (RT Y):=Zq (C:=cfg) (kp:=cfg.keep 116) (ai f116 31) (Zv 116 f116 Y)
def oP:Z4:=Zy 116 38 (ai f116 979) (Za (Y3 116 38 f116 244) (Z5 2 (RT Y))) [(1,W),(5,U),(6,x),(8,x8)] H
def oO:Z4:=Zy 116 38 (ai f116 489) (Za (Y3 116 38 f116 244) (Z5 2 (RT Y))) [(1,W),(5,U),(6,x),(8,x8)] H
def RV:Z4:=Xg 116 38 (ai f116 244) (Z5 2 (RT Y)) [(1,W),(5,U),(6,x),(8,x8)] H
def oM:Z4:=ah 116 38 f116 15 Y [(1,W),(5,U),(6,x)] H
def RU:KL:=Za (YT 116 38 f116 15) (Zf cfg 38 116 f116 Y)
theorem Zco:ZH 38 (RU Y):=Zq (C:=cfg) (kp:=cfg.keep 116) (ai f116 15) (Zv 116 f116 Y)
def oR:Z4:=Zy 116 38 (ai f116 467) (Za (Y3 116 38 f116 116) (Z5 0 (RU Y))) [(0,X),(1,W),(5,U),(6,x),(7,s)] H
def oQ:Z4:=Zy 116 38 (ai f116 233) (Za (Y3 116 38 f116 116) (Z5 0 (RU Y))) [(0,X),(1,W),(5,U),(6,x),(7,s)] H
def RW:Z4:=Xg 116 38 (ai f116 116) (Z5 0 (RU Y)) [(0,X),(1,W),(5,U),(6,x),(7,s)] H
def ZoL:Z4:=
 RW I p1 .nils .nils (Q J 0) H H
theorem ZgD:oN U x Y H =
 Z0 (Ze Dn [U,x] H) λg=>
 b (g.1,g.2):=Z9 aw
theorem ZgF:oP W U x x8 Y H =
 Z0 (Z3 .add x8 (Q J 1)) λg=>
 RV W U x g Y H:=Z9 aw
theorem ZgE:oO W U x x8 Y H =
 Z0 (Zz W x8) λh=>
 Z0 (Yn .i64 h) λj=>
 Z0 ((Zt 1 [(0,j)] [(Q J 0)]).map (.vs 1 .clip)) λu=>
 Z0 (ZR 1 8 x u H) λg=>
 oP W U g.1 x8 Y g.2:=Z9 aw
theorem AB:RV W U x x8 Y H =
 Z0 (Zk .string W) λg=>
 Z0 (Z3 .lss x8 g) λh=>
 Zl h
 (oO W U x x8 Y H)
 (oN U x Y H):=(Zw (C:=cfg) [4,5,6,8,9,10] (Zg 2 (Zcn Y)) _ _).trans df
theorem ZgC:oM W U x Y H =
 RV W U x (Q J 0) Y H:=Z9 aw
theorem ZgH:oR X W U x s Y H =
 Z0 (Z3 .add s (Q J 1)) λg=>
 RW X W U x g Y H:=Z9 aw
theorem ZgG:oQ X W U x s Y H =
 Z0 (Zz X s) λh=>
 Z0 (Yn .i64 h) λj=>
 Z0 ((Zt 1 [(0,j)] [(Q J 0)]).map (.vs 1 .clip)) λu=>
 Z0 (ZR 1 8 U u H) λg=>
 oR X W g.1 x s Y g.2:=Z9 aw
theorem AC:RW X W U x s Y H =
 Z0 (Zk .string X) λg=>
 Z0 (Z3 .lss s g) λh=>
 Zl h
 (oQ X W U x s Y H)
 (oM W U x Y H):=(Zw (C:=cfg) [4,5,6,8,9,10] (Zg 0 (Zco Y)) _ _).trans df
theorem Zjb:IW [I,p1] H=ZoL I p1 H:=Be 38 [4,5,6,8,9,10] func116
def bP:Z4:=ah 117 25 f117 63 Y [] H
def bO:Z4:=ah 117 25 f117 31 Y [(5,U),(7,s)] H
def jF:Z4:=
 Z0 (Ze RD [I] H) λh=>
 Z0 (ZQ h.1 0) λj=>
 Z0 (ZQ h.1 1) λy=>
 Z0 (Ze RD [p1] h.2) λg=>
 Z0 (ZQ g.1 0) λu=>
 Z0 (ZQ g.1 1) λz=>
 Z0 (Z3 .lss j u) λw=>
 Zl w
 (b ((Q J (-1)),g.2))
 (bO j u H g.2)
theorem ZcI:bP Y H =
 b ((Q J 0),H):=Z9 [5,7]
theorem E4:bO U s Y H =
 Z0 (Z3 .gtr U s) λg=>
 Zl g
 (b ((Q J 1),H))
 (bP Y H):=Z9 [5,7]
theorem Zew:MX [I,p1] H=jF I p1 H:=Be 25 [5,7] func117
def Cp:Z4:=ah 118 31 f118 31 Y [(1,W)] H
def Tc:Z4:=ah 118 31 f118 15 Y [(1,W),(2,P),(3,V)] H
def Co:Z4:=ah 118 31 f118 7 Y [(1,W),(2,P),(3,V)] H
def Cq:KL:=Za (YT 118 31 f118 7) (Zf cfg 31 118 f118 Y)
theorem ZcJ:ZH 31 (Cq Y):=Zq (C:=cfg) (kp:=cfg.keep 118) (ai f118 7) (Zv 118 f118 Y)
def pT:Z4:=Zy 118 31 (ai f118 49) (Za (Y3 118 31 f118 24) (Z5 0 (Cq Y))) [(1,W),(2,P),(3,V)] H
def Td:Z4:=Xg 118 31 (ai f118 24) (Z5 0 (Cq Y)) [(1,W),(2,P),(3,V)] H
def Zdi:Z4:=
 Z0 (ZF I H) λg=>
 Td p1 p2 g.1 H g.2
theorem AG:Cp W Y H =
 b (W,H):=Z9 [2,3,5,7]
theorem Zh8:Tc W P V Y H =
 Z0 (Ze Wf [P,(Q J 4)] H) λg=>
 Zl g.1
 (Z0 (Z2 c 6 V g.2) λj=>
 Z0 (Ze IX [j,W] g.2) λh=>
 Cp h.1 Y h.2)
 (Cp W Y g.2):=Z9 [2,3,5,7]
theorem Zh7:Co W P V Y H =
 Z0 (Ze Wf [P,(Q J 16)] H) λg=>
 Zl g.1
 (Z0 (Ze dZ [W] g.2) λh=>
 Tc h.1 P V Y h.2)
 (Tc W P V Y g.2):=Z9 [2,3,5,7]
theorem Zh9:pT W P V Y H =
 Z0 (Y4 W (b (Q J 1)) e e) λg=>
 Td g P V Y H:=Z9 [2,3,5,7]
theorem AH:Td W P V Y H =
 Z0 (Ze Wf [P,(Q J 8)] H) λj=>
 Z0 (Z7 j.1 c bh (b W)) λu=>
 Z0 (Z7 j.1 c bh (Zk .string u)) λw=>
 Z0 (Z7 j.1 c bh (Z3 .gtr w (Q J 0))) λy=>
 Z0 (Zm j.1 y (.bool a)) λg=>
 Z0 (Z7 g c bh (b W)) λz=>
 Z0 (Z7 g c bh (Zz z (Q J 0))) λA=>
 Z0 (Z7 g c (bh,j.2) (Qq [A] j.2)) λh=>
 Z0 (Zm g h.1 (.bool a)) λB=>
 Zl B
 (pT W P V Y h.2)
 (Co W P V Y h.2):=(Zw (C:=cfg) [2,3,5,7] (Zg 0 (ZcJ Y)) _ _).trans df
theorem Zjm:NG [I,p1,p2] H=Zdi I p1 p2 H:=Be 31 [2,3,5,7] func118
def ID:Z4:=ah 128 16 f128 7 Y [(1,W),(2,P)] H
def PW:Z4:=
 Z0 (ZF I H) λj=>
 Z0 (b ((.ptr (d j.2) 0),j.2++[.cells [(.str []),.nils,(.str []),(.str []),.nils,.nils]])) λh=>
 Z0 (Z2 c 6 j.1 h.2) λt4=>
 Z0 (Ze Gy [t4] h.2) λu=>
 Z0 (Z3 .neq u.1 (Q J 0)) λy=>
 Zl y
 (Z0 (Ze FO [] u.2) λw=>
 Z0 (Zc 6 h.1 w.1 w.2) λg=>
 Z0 (Z2 c 6 h.1 g.2) λz=>
 b (z,g.2))
 (ID j.1 h.1 H u.2)
theorem Zbu:ID W P Y H =
 Z0 (Uy 1 8 a (Q J 0) (Q J 256) (Q J 256) H) λj=>
 Z0 (Z8 1 W) λw=>
 Z0 (Z2 a 1 w j.2) λy=>
 Z0 (AQ 1 j.1 y j.2) λu=>
 Z0 (Z8 1 W) λz=>
 Z0 (Zc 1 z j.1 u.2) λh=>
 Z0 (Z2 c 6 W h.2) λA=>
 Z0 (Zc 6 P A h.2) λg=>
 Z0 (Z2 c 6 P g.2) λB=>
 b (B,g.2):=Z9 [3]
theorem LU:U7 [I] H=PW I H:=Be 16 [3] func128
def Mr:Z4:=
 Z0 (b ((.ptr (d H) 0),H++[.cells [.nils]])) λg=>
 Z0 (Z2 c 6 p1 g.2) λt5=>
 Z0 (b (.fn (.func 131) [] [g.1])) λj=>
 Z0 (MY [t5,I,j] g.2) λh=>
 Z0 (Z2 a 1 g.1 h.2) λt9=>
 b (t9,h.2)
theorem aL:UY [I,p1] H=Mr I p1 H:=Be 10 [] func129
def cQ:Z4:=Zy 130 75 (ai f130 3991) (Z5 3 (Za (Y3 130 75 f130 124) (Z5 2 (Zf cfg 75 130 f130 Y)))) [(1,W),(2,P),(3,V),(6,x),(9,q),(10,v)] H
def Jc:Z4:=Zy 130 75 (ai f130 1995) (Z5 3 (Za (Y3 130 75 f130 124) (Z5 2 (Zf cfg 75 130 f130 Y)))) [(1,W),(2,P),(3,V),(6,x),(9,q),(10,v),(11,t)] H
def cP:Z4:=Zy 130 75 (ai f130 249) (Za (Y3 130 75 f130 124) (Z5 2 (Zf cfg 75 130 f130 Y))) [(1,W),(2,P),(3,V),(6,x),(9,q)] H
def GN:Z4:=Xg 130 75 (ai f130 124) (Z5 2 (Zf cfg 75 130 f130 Y)) [(1,W),(2,P),(3,V),(6,x),(9,q)] H
def Nn:Z4:=ah 130 75 f130 15 Y [(1,W),(2,P),(3,V),(6,x)] H
def GM:KL:=Za (YT 130 75 f130 15) (Zf cfg 75 130 f130 Y)
theorem lY:ZH 75 (GM Y):=Zq (C:=cfg) (kp:=cfg.keep 130) (ai f130 15) (Zv 130 f130 Y)
def cT:Z4:=Zy 130 75 (ai f130 935) (Za (Y3 130 75 f130 116) (Z5 0 (GM Y))) [(1,W),(2,P),(3,V),(6,x),(16,x16),(17,x17),(18,x18)] H
def cR:Z4:=Zy 130 75 (ai f130 467) (Za (Y3 130 75 f130 116) (Z5 0 (GM Y))) [(1,W),(2,P),(3,V),(6,x),(16,x16),(17,x17),(18,x18),(19,x19)] H
def GO:Z4:=Xg 130 75 (ai f130 116) (Z5 0 (GM Y)) [(1,W),(2,P),(3,V),(6,x),(16,x16),(17,x17),(18,x18)] H
def jG:Z4:=
 Z0 (ZF I H) λj=>
 Z0 (b ((.map (d j.2)),j.2++[.map [] 0])) λg=>
 Z0 (Z8 5 j.1) λu=>
 Z0 (Z2 a 1 u g.2) λh=>
 Z0 (Zk (.slice 198) h) λw=>
 GO p1 p2 j.1 g.1 h w (Q J 0) H g.2
theorem Ei:cQ W P V x q v Y H =
 Z0 (Zk .string v) λg=>
 Z0 (Z3 .add q g) λh=>
 GN W P V x h Y H:=Z9 ax
theorem Eh:Jc W P V x q v t Y H =
 Z0 (Yu cfg (Zb cfg) P [v,t] H) λg=>
 Z0 (Xa .not g.1) λt70=>
 Zl t70
 (b (bh,g.2))
 (cQ W P V x q v Y g.2):=Z9 ax
theorem ZcT:cP W P V x q Y H =
 Z0 (Z3 .add q (Q J 1)) λu=>
 Z0 (Y4 W (b q) (b u) e) λg=>
 Z0 (Z8 1 V) λt37=>
 Z0 (Z2 a 1 t37 H) λw=>
 Z0 (Zz W q) λy=>
 Z0 (Zj 1 w y) λz=>
 Z0 (Z2 a 1 z H) λh=>
 Z0 (Z3 .add q (Q J 2)) λA=>
 Z0 (Zk .string W) λB=>
 Z0 (Z3 .leq A B) λC=>
 Zl C
 (Z0 (Z3 .add q (Q J 2)) λD=>
 Z0 (Y4 W (b q) (b D) e) λE=>
 Z0 (Yo .string (Q J 0) c x E H) λj=>
 Z0 (ZQ j 0) λF=>
 Z0 (ZQ j 1) λL=>
 Zl L
 (Z0 (Z3 .add q (Q J 2)) λM=>
 Z0 (Y4 W (b q) (b M) e) λN=>
 Jc W P V x q N F Y H)
 (Jc W P V x q g h Y H))
 (Jc W P V x q g h Y H):=Z9 ax
theorem Da:GN W P V x q Y H =
 Z0 (Zk .string W) λg=>
 Z0 (Z3 .lss q g) λh=>
 Zl h
 (cP W P V x q Y H)
 (b (bh,H)):=(Zw (C:=cfg) [4,6,7,9,14,15] (Zg 2 (Zv 130 f130 Y)) _ _).trans df
theorem ZcS:Nn W P V x Y H =
 GN W P V x (Q J 0) Y H:=Z9 ax
theorem ZcV:cT W P V x x16 x17 x18 Y H =
 Z0 (Z3 .add x18 (Q J 1)) λg=>
 GO W P V x x16 x17 g Y H:=Z9 ax
theorem ZcU:cR W P V x x16 x17 x18 x19 Y H =
 Z0 (Zj 2 x16 x18) λu=>
 Z0 (Z2 c 2 u H) λw=>
 Z0 (b ((.ptr (d H) 0),H++[.cells [(.str []),(Q J 0)]])) λj=>
 Z0 (Zc 2 j.1 w j.2) λg=>
 Z0 (Z8 0 j.1) λy=>
 Z0 (Z2 a 1 y g.2) λz=>
 Z0 (Z8 1 j.1) λA=>
 Z0 (Z2 a 1 A g.2) λB=>
 Z0 (XC .string x z B g.2) λh=>
 cT W P V x x16 x17 x18 Y h.2:=Z9 ax
theorem Ej:GO W P V x x16 x17 x18 Y H =
 Z0 (Z3 .lss x18 x17) λg=>
 Zl g
 (cR W P V x x16 x17 x18 g Y H)
 (Nn W P V x Y H):=(Zw (C:=cfg) [4,6,7,9,14,15] (Zg 0 (lY Y)) _ _).trans df
theorem Zez:MY [I,p1,p2] H=jG I p1 p2 H:=Be 75 [4,6,7,9,14,15] func130
def RM (I p1 p2:AV)(H:Hp):Z4:=
 Z0 (Z2 a 1 p2 H) λj=>
 Z0 ((Zt 1 [(0,p1)] [(Q J 0)]).map (.vs 1 .clip)) λu=>
 Z0 (ZR 1 8 j u H) λh=>
 Z0 (Zc 1 p2 h.1 h.2) λg=>
 b ((.bool c),g.2)
theorem HU:Jq [I,p1,p2] H=RM I p1 p2 H:=Be 10 [] func131
def E0:Z4:=
 Z0 (Ze W9 [I,p1] H) λg=>
 b (g.1,g.2)
theorem eI:BW [I,p1] H=E0 I p1 H:=Be 8 [] func132
def E6:Z4:=ah 135 23 f135 15 Y [(3,V)] H
def D8:KL:=Za (YT 135 23 f135 15) (Zf cfg 23 135 f135 Y)
theorem OE:ZH 23 (D8 Y):=Zq (C:=cfg) (kp:=cfg.keep 135) (ai f135 15) (Zv 135 f135 Y)
def E7:Z4:=Zy 135 23 (ai f135 113) (Za (Y3 135 23 f135 56) (Z5 0 (D8 Y))) [(0,X),(3,V)] H
def QK:Z4:=Xg 135 23 (ai f135 56) (Z5 0 (D8 Y)) [(0,X),(3,V)] H
def Zey:Z4:=
 QK I (Q J 0) H H
theorem Jx:E6 V Y H =
 b (V,H):=Z9 [3,4]
theorem fK:E7 X V Y H =
 Z0 (Z3 .add V (Q J 1)) λg=>
 QK X g Y H:=Z9 [3,4]
theorem TG:QK X V Y H =
 Z0 (Zk .string X) λE=>
 Z0 (Z3 .lss V E) λh=>
 Z0 (Z7 h c bh (b X)) λt9=>
 Z0 (Z7 h c bh (b V)) λj=>
 Z0 (Z7 h c bh (Zz t9 j)) λu=>
 Z0 (Z7 h c bh (Z3 .geq u (.int .u8 48))) λw=>
 Z0 (Zm h w (.bool a)) λg=>
 Z0 (Z7 g c bh (b X)) λy=>
 Z0 (Z7 g c bh (b V)) λz=>
 Z0 (Z7 g c bh (Zz y z)) λA=>
 Z0 (Z7 g c bh (Z3 .leq A (.int .u8 57))) λB=>
 Z0 (Zm g B (.bool a)) λD=>
 Zl D
 (E7 X V Y H)
 (E6 V Y H):=(Zw (C:=cfg) [3,4] (Zg 0 (OE Y)) _ _).trans df
theorem lG:Jp [I] H=Zey I H:=Be 23 [3,4] func135
def CH:Z4:=ah 136 29 f136 15 Y [(1,W),(5,U)] H
def Jy:KL:=Za (YT 136 29 f136 15) (Zf cfg 29 136 f136 Y)
theorem cK:ZH 29 (Jy Y):=Zq (C:=cfg) (kp:=cfg.keep 136) (ai f136 15) (Zv 136 f136 Y)
def CJ:Z4:=Zy 136 29 (ai f136 935) (Za (Y3 136 29 f136 116) (Z5 0 (Jy Y))) [(0,X),(1,W),(5,U),(8,x8),(9,q)] H
def CI:Z4:=Zy 136 29 (ai f136 467) (Za (Y3 136 29 f136 116) (Z5 0 (Jy Y))) [(0,X),(1,W),(5,U),(8,x8),(9,q),(10,v)] H
def Jz:Z4:=Xg 136 29 (ai f136 116) (Z5 0 (Jy Y)) [(0,X),(1,W),(5,U),(8,x8),(9,q)] H
def Ao:Z4:=
 Z0 (Zk .string I) λg=>
 Jz I p1 (Q J 0) g (Q J 0) H H
theorem lS:CH W U Y H =
 Z0 (Z3 .mul U (Q J 10000)) λh=>
 Z0 (Ze G1 [W] H) λg=>
 Z0 (Z3 .add h g.1) λj=>
 Z0 (Q3 (Q J 10000000000001) j) λu=>
 b (u,g.2):=Z9 ar
theorem lU:CJ X W U x8 q Y H =
 Z0 (Z3 .add q (Q J 1)) λg=>
 Jz X W U x8 g Y H:=Z9 ar
theorem lT:CI X W U x8 q v Y H =
 Z0 (Z3 .mul (Q J 10) U) λh=>
 Z0 (Zz X q) λj=>
 Z0 (Z3 .sub j (.int .u8 48)) λu=>
 Z0 (Yn .i64 u) λw=>
 Z0 (Z3 .add h w) λg=>
 Z0 (Z3 .gtr g (Q J 1000000000)) λy=>
 Zl y
 (b ((Q J 10000000000001),H))
 (CJ X W g x8 q Y H):=Z9 ar
theorem Pu:Jz X W U x8 q Y H =
 Z0 (Z3 .lss q x8) λg=>
 Zl g
 (CI X W U x8 q g Y H)
 (CH W U Y H):=(Zw (C:=cfg) [4,8,9] (Zg 0 (cK Y)) _ _).trans df
theorem nQ:RH [I,p1] H=Ao I p1 H:=Be 29 [4,8,9] func136
def Hc:Z4:=ah 143 26 f143 15 Y [(5,U)] H
def JG:KL:=Za (YT 143 26 f143 15) (Zf cfg 26 143 f143 Y)
theorem cU:ZH 26 (JG Y):=Zq (C:=cfg) (kp:=cfg.keep 143) (ai f143 15) (Zv 143 f143 Y)
def He:Z4:=Zy 143 26 (ai f143 935) (Za (Y3 143 26 f143 116) (Z5 0 (JG Y))) [(0,X),(5,U),(10,v),(11,t)] H
def Hd:Z4:=Zy 143 26 (ai f143 467) (Za (Y3 143 26 f143 116) (Z5 0 (JG Y))) [(0,X),(5,U),(10,v),(11,t),(12,r)] H
def JH:Z4:=Xg 143 26 (ai f143 116) (Z5 0 (JG Y)) [(0,X),(5,U),(10,v),(11,t)] H
def Ar:Z4:=
 Z0 (fF p1 H) λg=>
 Z0 (Zk (.slice 5) g.1) λh=>
 JH I g.1 h (Q J 0) H g.2
theorem lZ:Hc U Y H =
 Z0 (Uh U H) λg=>
 b (g,H):=Z9 [4,6,7]
theorem mB:He X U v t Y H =
 Z0 (Z3 .add t (Q J 1)) λg=>
 JH X U v g Y H:=Z9 [4,6,7]
theorem mA:Hd X U v t r Y H =
 Z0 (Zj 1 U t) λh=>
 Z0 (Z2 a 1 h H) λj=>
 Z0 (Zz X j) λu=>
 Z0 (Zj 1 U t) λw=>
 Z0 (Zc 1 w u H) λg=>
 He X U v t Y g.2:=Z9 [4,6,7]
theorem Py:JH X U v t Y H =
 Z0 (Z3 .lss t v) λg=>
 Zl g
 (Hd X U v t g Y H)
 (Hc U Y H):=(Zw (C:=cfg) [4,6,7] (Zg 0 (cU Y)) _ _).trans df
theorem nU:RJ [I,p1] H=Ar I p1 H:=Be 26 [4,6,7] func143
def oW:Z4:=ah 145 43 f145 127 Y [(1,W)] H
def oV:Z4:=ah 145 43 f145 63 Y [(1,W)] H
def oU:Z4:=ah 145 43 f145 31 Y [(1,W)] H
def RX:KL:=Za (YT 145 43 f145 31) (Zf cfg 43 145 f145 Y)
theorem Zcp:ZH 43 (RX Y):=Zq (C:=cfg) (kp:=cfg.keep 145) (ai f145 31) (Zv 145 f145 Y)
def oY:Z4:=Zy 145 43 (ai f145 979) (Za (Y3 145 43 f145 244) (Z5 0 (RX Y))) [(1,W),(3,V)] H
def oX:Z4:=Zy 145 43 (ai f145 489) (Za (Y3 145 43 f145 244) (Z5 0 (RX Y))) [(1,W),(3,V)] H
def RY:Z4:=Xg 145 43 (ai f145 244) (Z5 0 (RX Y)) [(1,W),(3,V)] H
def oT:Z4:=ah 145 43 f145 15 Y [(1,W)] H
def oS:Z4:=ah 145 43 f145 7 Y [(1,W)] H
def Zd8:Z4:=
 Z0 (ZF I H) λg=>
 Z0 (Z8 0 g.1) λt5=>
 Z0 (Z2 a 1 t5 g.2) λj=>
 Z0 (Ze G0 [j] g.2) λh=>
 Z0 (Xa .not h.1) λu=>
 Zl u
 (b ((Q J 4),h.2))
 (oS g.1 H h.2)
theorem ZgM:oW W Y H =
 Z0 (Z8 5 W) λh=>
 Z0 (Z2 a 1 h H) λj=>
 Z0 (Ze Us [j] H) λg=>
 b (g.1,g.2):=Z9 ay
theorem ZgL:oV W Y H =
 Z0 (Z8 4 W) λh=>
 Z0 (Z2 a 1 h H) λj=>
 Z0 (Ze UX [j] H) λg=>
 Z0 (Z3 .neq g.1 (Q J 0)) λu=>
 Zl u
 (b (g.1,g.2))
 (oW W Y g.2):=Z9 ay
theorem ZgK:oU W Y H =
 Z0 (Z8 2 W) λh=>
 Z0 (Z2 a 1 h H) λj=>
 Z0 (Zk .string j) λu=>
 Z0 (Z3 .neq u (Q J 256)) λg=>
 Z0 (Z7 g a bh (Z8 3 W)) λw=>
 Z0 (Z7 g a bh (Z2 a 1 w H)) λy=>
 Z0 (Z7 g a bh (Zk .string y)) λz=>
 Z0 (Z7 g a bh (Z3 .neq z (Q J 256))) λA=>
 Z0 (Zm g (.bool c) A) λB=>
 Zl B
 (b ((Q J 2),H))
 (oV W Y H):=Z9 ay
theorem ZgO:oY W V Y H =
 Z0 (Z3 .add V (Q J 1)) λg=>
 RY W g Y H:=Z9 ay
theorem ZgN:oX W V Y H =
 Z0 (Z8 1 W) λh=>
 Z0 (Z2 a 1 h H) λj=>
 Z0 (Zj 1 j V) λu=>
 Z0 (Z2 a 1 u H) λw=>
 Z0 (Ze Dm [w] H) λg=>
 Z0 (Xa .not g.1) λy=>
 Zl y
 (b ((Q J 2),g.2))
 (oY W V Y g.2):=Z9 ay
theorem AD:RY W V Y H =
 Z0 (Z3 .lss V (Q J 256)) λg=>
 Zl g
 (oX W V Y H)
 (oU W Y H):=(Zw (C:=cfg) [3,5,7,8,10,12,15] (Zg 0 (Zcp Y)) _ _).trans df
theorem ZgJ:oT W Y H =
 RY W (Q J 0) Y H:=Z9 ay
theorem ZgI:oS W Y H =
 Z0 (Z8 1 W) λt9=>
 Z0 (Z2 a 1 t9 H) λg=>
 Z0 (Zk (.slice 3) g) λh=>
 Z0 (Z3 .neq h (Q J 256)) λj=>
 Zl j
 (b ((Q J 2),H))
 (oT W Y H):=Z9 ay
theorem Zjc:NC [I] H=Zd8 I H:=Be 43 [3,5,7,8,10,12,15] func145
def Zdx:Z4:=ah 146 35 f146 7 Y [] H
def NN:KL:=Za (YT 146 35 f146 7) (Zf cfg 35 146 f146 Y)
theorem ZeT:ZH 35 (NN Y):=Zq (C:=cfg) (kp:=cfg.keep 146) (ai f146 7) (Zv 146 f146 Y)
def Zdz:Z4:=Zy 146 35 (ai f146 211) (Za (Y3 146 35 f146 52) (Z5 0 (NN Y))) [(1,W),(2,P),(3,V),(7,s)] H
def Zdy:Z4:=Zy 146 35 (ai f146 105) (Za (Y3 146 35 f146 52) (Z5 0 (NN Y))) [(1,W),(2,P),(3,V),(7,s)] H
def NO:Z4:=Xg 146 35 (ai f146 52) (Z5 0 (NN Y)) [(1,W),(2,P),(3,V),(7,s)] H
def Zgg:Z4:=
 Z0 (ZF I H) λg=>
 NO p1 p2 g.1 (Q J 0) H g.2
theorem ZjE:Zdx Y H =
 b ((Q J (-1)),H):=Z9 [3,4,6]
theorem N1:Zdz W P V s Y H =
 Z0 (Z3 .add s (Q J 1)) λg=>
 NO W P V g Y H:=Z9 [3,4,6]
theorem ZjF:Zdy W P V s Y H =
 Z0 (Z3 .add P (Q J 2)) λh=>
 Z0 (Zk .string W) λj=>
 Z0 (Z3 .leq h j) λg=>
 Z0 (Z7 g c bh (b W)) λu=>
 Z0 (Z7 g c bh (b P)) λw=>
 Z0 (Z7 g c bh (b P)) λy=>
 Z0 (Z7 g c bh (Z3 .add y (Q J 2))) λz=>
 Z0 (Z7 g c bh (Y4 u (b w) (b z) e)) λA=>
 Z0 (Z7 g c bh (Z8 5 V)) λB=>
 Z0 (Z7 g c bh (Z2 a 1 B H)) λC=>
 Z0 (Z7 g c bh (b s)) λD=>
 Z0 (Z7 g c bh (Zj 2 C D)) λE=>
 Z0 (Z7 g c bh (Z8 0 E)) λF=>
 Z0 (Z7 g c bh (Z2 a 1 F H)) λL=>
 Z0 (Z7 g c bh (YK .eql A L)) λM=>
 Z0 (Zm g M (.bool a)) λN=>
 Zl N
 (b (s,H))
 (Zdz W P V s Y H):=Z9 [3,4,6]
theorem bD:NO W P V s Y H =
 Z0 (Z8 5 V) λt9=>
 Z0 (Z2 a 1 t9 H) λg=>
 Z0 (Zk (.slice 198) g) λh=>
 Z0 (Z3 .lss s h) λj=>
 Zl j
 (Zdy W P V s Y H)
 (Zdx Y H):=(Zw (C:=cfg) [3,4,6] (Zg 0 (ZeT Y)) _ _).trans df
theorem ZlP:Et [I,p1,p2] H=Zgg I p1 p2 H:=Be 35 [3,4,6] func146
def L3:Z4:=ah 147 112 f147 16383 Y [(7,s),(10,v)] H
def Fl:Z4:=ah 147 112 f147 8191 Y [(5,U),(7,s),(10,v)] H
def Fk:Z4:=ah 147 112 f147 2047 Y [(0,X),(4,O),(5,U),(6,x),(7,s),(8,x8)] H
def L2:Z4:=ah 147 112 f147 1023 Y [(0,X),(4,O),(5,U),(6,x),(7,s),(8,x8)] H
def K2:Z4:=ah 147 112 f147 511 Y [(0,X),(4,O),(5,U),(6,x),(7,s),(8,x8)] H
def Fj:Z4:=ah 147 112 f147 63 Y [(0,X),(4,O),(5,U)] H
def L1:Z4:=ah 147 112 f147 15 Y [(0,X),(4,O)] H
def L4:KL:=Za (YT 147 112 f147 15) (Zf cfg 112 147 f147 Y)
theorem oI:ZH 112 (L4 Y):=Zq (C:=cfg) (kp:=cfg.keep 147) (ai f147 15) (Zv 147 f147 Y)
def jL:Z4:=Zy 147 112 (ai f147 113) (Za (Y3 147 112 f147 56) (Z5 0 (L4 Y))) [(0,X),(4,O)] H
def Fm:Z4:=Xg 147 112 (ai f147 56) (Z5 0 (L4 Y)) [(0,X),(4,O)] H
def ZmD:Z4:=
 Fm I (Q J 0) H H
theorem C4:L3 s v Y H =
 b ((.tuple [v,s]),H):=Z9 az
theorem ZeI:Fl U s v Y H =
 Zl U
 (Z0 (Xa .neg v) λg=>
 L3 s g Y H)
 (L3 s v Y H):=Z9 az
theorem ZeH:Fk X O U x s x8 Y H =
 Z0 (Y4 X (b O) (b x) e) λh=>
 Z0 (Ze Sy [h,x8] H) λg=>
 Z0 (ZQ g.1 0) λj=>
 Z0 (ZQ g.1 1) λu=>
 Z0 (Xa .not u) λw=>
 Zl w
 (Fl U s (Q J 10000000000000) Y g.2)
 (Fl U s j Y g.2):=Z9 az
theorem ZeG:L2 X O U x s x8 Y H =
 Z0 (Zk .string x8) λg=>
 Z0 (Z3 .gtr g (Q J 4)) λh=>
 Zl h
 (Z0 (Y4 x8 e (b (Q J 4)) e) λj=>
 Fk X O U x s j Y H)
 (Fk X O U x s x8 Y H):=Z9 az
theorem ZeF:K2 X O U x s x8 Y H =
 Z0 (Z3 .eql s O) λg=>
 Zl g
 (b ((.tuple [(Q J 0),(Q J 0)]),H))
 (L2 X O U x s x8 Y H):=Z9 az
theorem ZeE:Fj X O U Y H =
 Z0 (Ze RE [X,O] H) λg=>
 Z0 (Zk .string X) λw=>
 Z0 (Z3 .lss g.1 w) λj=>
 Z0 (Z7 j c bh (b X)) λy=>
 Z0 (Z7 j c bh (b g.1)) λz=>
 Z0 (Z7 j c bh (Zz y z)) λA=>
 Z0 (Z7 j c bh (Z3 .eql A (.int .u8 46))) λB=>
 Z0 (Zm j B (.bool a)) λC=>
 Zl C
 (Z0 (Z3 .add g.1 (Q J 1)) λD=>
 Z0 (Ze RE [X,D] g.2) λh=>
 Z0 (Z3 .gtr g.1 O) λu=>
 Z0 (Z7 u a bh (b h.1)) λE=>
 Z0 (Z7 u a bh (b g.1)) λF=>
 Z0 (Z7 u a bh (Z3 .add F (Q J 1))) λL=>
 Z0 (Z7 u a bh (Z3 .gtr E L)) λM=>
 Z0 (Zm u (.bool c) M) λN=>
 Zl N
 (Z0 (Z3 .add g.1 (Q J 1)) λR=>
 Z0 (Y4 X (b R) (b h.1) e) λS=>
 K2 X O U g.1 h.1 S Y h.2)
 (K2 X O U g.1 g.1 (.str []) Y h.2))
 (K2 X O U g.1 g.1 (.str []) Y g.2):=Z9 az
theorem ZeD:L1 X O Y H =
 Z0 (Zk .string X) λu=>
 Z0 (Z3 .lss O u) λh=>
 Z0 (Z7 h c bh (b X)) λw=>
 Z0 (Z7 h c bh (b O)) λy=>
 Z0 (Z7 h c bh (Zz w y)) λt37=>
 Z0 (Z7 h c bh (Z3 .eql t37 (.int .u8 45))) λz=>
 Z0 (Zm h z (.bool a)) λg=>
 Z0 (Z7 g a bh (b O)) λA=>
 Z0 (Z7 g a bh (b X)) λB=>
 Z0 (Z7 g a bh (Zk .string B)) λC=>
 Z0 (Z7 g a bh (Z3 .lss A C)) λD=>
 Z0 (Z7 g a bh (b D)) λj=>
 Z0 (Z7 j c bh (b X)) λE=>
 Z0 (Z7 j c bh (b O)) λF=>
 Z0 (Z7 j c bh (Zz E F)) λL=>
 Z0 (Z7 j c bh (Z3 .eql L (.int .u8 43))) λM=>
 Z0 (Z7 g a bh (Zm j M (.bool a))) λN=>
 Z0 (Zm g (.bool c) N) λR=>
 Zl R
 (Z0 (Z3 .add O (Q J 1)) λS=>
 Fj X S g Y H)
 (Fj X O g Y H):=Z9 az
theorem C5:jL X O Y H =
 Z0 (Z3 .add O (Q J 1)) λg=>
 Fm X g Y H:=Z9 az
theorem C6:Fm X O Y H =
 Z0 (Zk .string X) λj=>
 Z0 (Z3 .lss O j) λg=>
 Z0 (Z7 g c bh (b X)) λu=>
 Z0 (Z7 g c bh (b O)) λw=>
 Z0 (Z7 g c bh (Zz u w)) λy=>
 Z0 (Z7 g c bh (Z3 .eql y (.int .u8 32))) λz=>
 Z0 (Z7 g c bh (b z)) λh=>
 Z0 (Z7 h a bh (b X)) λA=>
 Z0 (Z7 h a bh (b O)) λB=>
 Z0 (Z7 h a bh (Zz A B)) λD=>
 Z0 (Z7 h a bh (Z3 .eql D (.int .u8 9))) λE=>
 Z0 (Z7 g c bh (Zm h (.bool c) E)) λF=>
 Z0 (Zm g F (.bool a)) λL=>
 Zl L
 (jL X O Y H)
 (L1 X O Y H):=(Zw (C:=cfg) [3,4,7,14,16,18,21,23] (Zg 0 (oI Y)) _ _).trans df
theorem Zgd:RD [I] H=ZmD I H:=Be 112 [3,4,7,14,16,18,21,23] func147
def ZdA:Z4:=ah 149 47 f149 15 Y [(3,V)] H
def NP:KL:=Za (YT 149 47 f149 15) (Zf cfg 47 149 f149 Y)
theorem Zf2:ZH 47 (NP Y):=Zq (C:=cfg) (kp:=cfg.keep 149) (ai f149 15) (Zv 149 f149 Y)
def DA:Z4:=Zy 149 47 (ai f149 467) (Za (Y3 149 47 f149 116) (Z5 0 (NP Y))) [(0,X),(3,V),(4,O)] H
def Oj:Z4:=Zy 149 47 (ai f149 233) (Za (Y3 149 47 f149 116) (Z5 0 (NP Y))) [(0,X),(3,V),(4,O)] H
def NQ:Z4:=Xg 149 47 (ai f149 116) (Z5 0 (NP Y)) [(0,X),(3,V),(4,O)] H
def Zqy:Z4:=
 NQ I .nils (Q J 0) H H
theorem ZjH:ZdA V Y H =
 Z0 (Uh V H) λg=>
 b (g,H):=Z9 [4,5,8]
theorem bM:DA X V O Y H =
 Z0 (Z3 .add O (Q J 1)) λg=>
 NQ X V g Y H:=Z9 [4,5,8]
theorem ZjI:Oj X V O Y H =
 Z0 (Zz X O) λg=>
 Z0 (Qq [g] H) λh=>
 Z0 (Z7 h.1 a bh (b g)) λB=>
 Z0 (Z7 h.1 a bh (Z3 .geq B (.int .u8 48))) λC=>
 Z0 (Z7 h.1 a bh (b C)) λw=>
 Z0 (Z7 w c bh (b g)) λD=>
 Z0 (Z7 w c bh (Z3 .leq D (.int .u8 57))) λE=>
 Z0 (Z7 h.1 a bh (Zm w E (.bool a))) λF=>
 Z0 (Zm h.1 (.bool c) F) λj=>
 Z0 (Z7 j a bh (b g)) λL=>
 Z0 (Z7 j a bh (Z3 .geq L (.int .u8 97))) λM=>
 Z0 (Z7 j a bh (b M)) λy=>
 Z0 (Z7 y c bh (b g)) λN=>
 Z0 (Z7 y c bh (Z3 .leq N (.int .u8 122))) λR=>
 Z0 (Z7 j a bh (Zm y R (.bool a))) λS=>
 Z0 (Zm j (.bool c) S) λu=>
 Z0 (Z7 u a bh (b g)) λT=>
 Z0 (Z7 u a bh (Z3 .geq T (.int .u8 65))) λZ=>
 Z0 (Z7 u a bh (b Z)) λz=>
 Z0 (Z7 z c bh (b g)) λt37=>
 Z0 (Z7 z c bh (Z3 .leq t37 (.int .u8 90))) λaa=>
 Z0 (Z7 u a bh (Zm z aa (.bool a))) λab=>
 Z0 (Zm u (.bool c) ab) λac=>
 Zl ac
 (Z0 ((Zt 1 [(0,g)] [(.int .u8 0)]).map (.vs 1 .clip)) λad=>
 Z0 (ZR 1 1 V ad h.2) λA=>
 DA X A.1 O Y A.2)
 (DA X V O Y h.2):=Z9 [4,5,8]
theorem bN:NQ X V O Y H =
 Z0 (Zk .string X) λg=>
 Z0 (Z3 .lss O g) λt9=>
 Zl t9
 (Oj X V O Y H)
 (ZdA V Y H):=(Zw (C:=cfg) [4,5,8] (Zg 0 (Zf2 Y)) _ _).trans df
theorem ZlQ:dZ [I] H=Zqy I H:=Be 47 [4,5,8] func149
def Zd9:Z4:=
 Z0 (ZF I H) λg=>
 Z0 (Z2 c 6 g.1 g.2) λt5=>
 Z0 (Ze Ki [t5] g.2) λh=>
 Z0 (Su a 1 3 h.1) λu=>
 Z0 (Ze Sz [u,p1] h.2) λj=>
 b (j.1,j.2)
theorem Zjd:IX [I,p1] H=Zd9 I p1 H:=Be 10 [] func150
def IA:Z4:=ah 165 49 f165 63 Y [(1,W)] H
def Iz:Z4:=ah 165 49 f165 31 Y [(1,W)] H
def KN:KL:=Za (YT 165 49 f165 31) (Zf cfg 49 165 f165 Y)
theorem gH:ZH 49 (KN Y):=Zq (C:=cfg) (kp:=cfg.keep 165) (ai f165 31) (Zv 165 f165 Y)
def IC:Z4:=Zy 165 49 (ai f165 1959) (Za (Y3 165 49 f165 244) (Z5 0 (KN Y))) [(1,W),(27,x27),(28,x28),(29,x29)] H
def IB:Z4:=Zy 165 49 (ai f165 979) (Za (Y3 165 49 f165 244) (Z5 0 (KN Y))) [(1,W),(27,x27),(28,x28),(29,x29),(30,x30)] H
def KO:Z4:=Xg 165 49 (ai f165 244) (Z5 0 (KN Y)) [(1,W),(27,x27),(28,x28),(29,x29)] H
def Iy:Z4:=ah 165 49 f165 15 Y [(1,W)] H
def Ix:Z4:=ah 165 49 f165 7 Y [(1,W)] H
def aK:Z4:=
 Z0 (ZF I H) λg=>
 Z0 (Z8 0 g.1) λj=>
 Z0 (Z2 a 1 j g.2) λu=>
 Z0 (Ze K1 [u] g.2) λh=>
 Z0 (Xa .not h.1) λt9=>
 Zl t9
 (b ((Q J 4),h.2))
 (Ix g.1 H h.2)
theorem Zbr:IA W Y H =
 Z0 (Z8 5 W) λh=>
 Z0 (Z2 a 1 h H) λj=>
 Z0 (Ze Vc [j] H) λg=>
 b (g.1,g.2):=Z9 ba
theorem Zbq:Iz W Y H =
 Z0 (Z8 4 W) λh=>
 Z0 (Z2 a 1 h H) λj=>
 Z0 (Ze Vv [j] H) λg=>
 Z0 (Z3 .neq g.1 (Q J 0)) λu=>
 Zl u
 (b (g.1,g.2))
 (IA W Y g.2):=Z9 ba
theorem Zbt:IC W x27 x28 x29 Y H =
 Z0 (Z3 .add x29 (Q J 1)) λg=>
 KO W x27 x28 g Y H:=Z9 ba
theorem Zbs:IB W x27 x28 x29 x30 Y H =
 Z0 (Zj 1 x27 x29) λj=>
 Z0 (Z2 a 1 j H) λh=>
 Z0 (Z3 .lss h (Q J 0)) λg=>
 Z0 (Z7 g a bh (b h)) λu=>
 Z0 (Z7 g a bh (Z3 .gtr u (Q J 65535))) λt37=>
 Z0 (Zm g (.bool c) t37) λw=>
 Zl w
 (b ((Q J 2),H))
 (IC W x27 x28 x29 Y H):=Z9 ba
theorem MI:KO W x27 x28 x29 Y H =
 Z0 (Z3 .lss x29 x28) λg=>
 Zl g
 (IB W x27 x28 x29 g Y H)
 (Iz W Y H):=(Zw (C:=cfg) [3,5,7,10,11,14] (Zg 0 (gH Y)) _ _).trans df
theorem Zbp:Iy W Y H =
 Z0 (Z8 1 W) λh=>
 Z0 (Z2 a 1 h H) λg=>
 Z0 (Zk (.slice 3) g) λj=>
 KO W g j (Q J 0) Y H:=Z9 ba
theorem Zbo:Ix W Y H =
 Z0 (Z8 1 W) λj=>
 Z0 (Z2 a 1 j H) λu=>
 Z0 (Zk (.slice 3) u) λw=>
 Z0 (Z3 .neq w (Q J 256)) λg=>
 Z0 (Z7 g a bh (Z8 2 W)) λy=>
 Z0 (Z7 g a bh (Z2 a 1 y H)) λz=>
 Z0 (Z7 g a bh (Zk .string z)) λA=>
 Z0 (Z7 g a bh (Z3 .neq A (Q J 256))) λB=>
 Z0 (Zm g (.bool c) B) λh=>
 Z0 (Z7 h a bh (Z8 3 W)) λC=>
 Z0 (Z7 h a bh (Z2 a 1 C H)) λD=>
 Z0 (Z7 h a bh (Zk .string D)) λE=>
 Z0 (Z7 h a bh (Z3 .neq E (Q J 256))) λF=>
 Z0 (Zm h (.bool c) F) λL=>
 Zl L
 (b ((Q J 2),H))
 (Iy W Y H):=Z9 ba
theorem Zcf:Gy [I] H=aK I H:=Be 49 [3,5,7,10,11,14] func165
def Ee:Z4:=ah 166 18 f166 15 Y [(0,X),(1,W)] H
def QN:KL:=Za (YT 166 18 f166 15) (Zf cfg 18 166 f166 Y)
theorem OM:ZH 18 (QN Y):=Zq (C:=cfg) (kp:=cfg.keep 166) (ai f166 15) (Zv 166 f166 Y)
def Eg:Z4:=Zy 166 18 (ai f166 935) (Za (Y3 166 18 f166 116) (Z5 0 (QN Y))) [(0,X),(1,W),(5,U),(6,x)] H
def Ef:Z4:=Zy 166 18 (ai f166 467) (Za (Y3 166 18 f166 116) (Z5 0 (QN Y))) [(0,X),(1,W),(5,U),(6,x),(7,s)] H
def QO:Z4:=Xg 166 18 (ai f166 116) (Z5 0 (QN Y)) [(0,X),(1,W),(5,U),(6,x)] H
def SN:Z4:=
 Z0 (b ((.ptr (d H) 0),H++[.cells [(.str []),.nils,(.str []),(.str []),.nils,.nils]])) λh=>
 Z0 (Uy 1 8 a (Q J 0) (Q J 256) (Q J 256) h.2) λg=>
 Z0 (Zk (.slice 3) g.1) λt5=>
 QO h.1 g.1 t5 (Q J 0) H g.2
theorem gS:Ee X W Y H =
 Z0 (Ze V4 [(.int .u8 65),(.int .u8 90),(Q J 32)] H) λg=>
 Z0 (Ze V4 [(.int .u8 97),(.int .u8 122),(Q J (-32))] g.2) λh=>
 Z0 ((Yq [(0,1,(.str [112,111,115,105,120])),(1,1,W),(2,1,g.1),(3,1,h.1)] [(.str []),.nils,(.str []),(.str []),.nils,.nils]).map .agg) λu=>
 Z0 (Zc 6 X u h.2) λj=>
 Z0 (Z2 c 6 X j.2) λw=>
 b (w,j.2):=Z9 [4,6,7]
theorem gV:Eg X W U x Y H =
 Z0 (Z3 .add x (Q J 1)) λg=>
 QO X W U g Y H:=Z9 [4,6,7]
theorem gU:Ef X W U x s Y H =
 Z0 (Zj 1 W x) λh=>
 Z0 (Zc 1 h x H) λg=>
 Eg X W U x Y g.2:=Z9 [4,6,7]
theorem gW:QO X W U x Y H =
 Z0 (Z3 .lss x U) λg=>
 Zl g
 (Ef X W U x g Y H)
 (Ee X W Y H):=(Zw (C:=cfg) [4,6,7] (Zg 0 (OM Y)) _ _).trans df
theorem lJ:FO [] H=SN H:=Be 18 [4,6,7] func166
def FQ:Z4:=
 Z0 (fR .cmp [I,p1] H) λg=>
 b (g.1,g.2)
theorem GB:W9 [I,p1] H=FQ I p1 H:=Be 8 [] func167
def Pq:Z4:=ah 168 23 f168 15 Y [(3,V)] H
def UA:KL:=Za (YT 168 23 f168 15) (Zf cfg 23 168 f168 Y)
theorem CG:ZH 23 (UA Y):=Zq (C:=cfg) (kp:=cfg.keep 168) (ai f168 15) (Zv 168 f168 Y)
def Ku:Z4:=Zy 168 23 (ai f168 935) (Za (Y3 168 23 f168 116) (Z5 0 (UA Y))) [(0,X),(3,V),(5,U)] H
def Pt:Z4:=Zy 168 23 (ai f168 467) (Za (Y3 168 23 f168 116) (Z5 0 (UA Y))) [(0,X),(3,V),(5,U),(6,x)] H
def UB:Z4:=Xg 168 23 (ai f168 116) (Z5 0 (UA Y)) [(0,X),(3,V),(5,U)] H
def nP:Z4:=
 UB I (Q J 0) (Q J 0) H H
theorem OF:Pq V Y H =
 b (V,H):=Z9 ar
theorem DI:Ku X V U Y H =
 Z0 (Z3 .add U (Q J 1)) λg=>
 UB X V g Y H:=Z9 ar
theorem OG:Pt X V U x Y H =
 Z0 (Z3 .mul V (Q J 10)) λt9=>
 Z0 (Zk .string X) λg=>
 Z0 (Z3 .lss U g) λh=>
 Zl h
 (Z0 (Zz X U) λj=>
 Z0 (Z3 .sub j (.int .u8 48)) λu=>
 Z0 (Yn .i64 u) λw=>
 Z0 (Z3 .add t9 w) λy=>
 Ku X y U Y H)
 (Ku X t9 U Y H):=Z9 ar
theorem DJ:UB X V U Y H =
 Z0 (Z3 .lss U (Q J 4)) λg=>
 Zl g
 (Pt X V U g Y H)
 (Pq V Y H):=(Zw (C:=cfg) [4,8,9] (Zg 0 (CG Y)) _ _).trans df
theorem aF:G1 [I] H=nP I H:=Be 23 [4,8,9] func168
def jU:Z4:=ah 173 59 f173 15 Y [] H
def Fu:KL:=Za (YT 173 59 f173 15) (Zf cfg 59 173 f173 Y)
theorem pA:ZH 59 (Fu Y):=Zq (C:=cfg) (kp:=cfg.keep 173) (ai f173 15) (Zv 173 f173 Y)
def L8:Z4:=Zy 173 59 (ai f173 467) (Za (Y3 173 59 f173 116) (Z5 0 (Fu Y))) [(0,X),(3,V)] H
def L7:Z4:=Zy 173 59 (ai f173 233) (Za (Y3 173 59 f173 116) (Z5 0 (Fu Y))) [(0,X),(3,V)] H
def Fw:Z4:=Xg 173 59 (ai f173 116) (Z5 0 (Fu Y)) [(0,X),(3,V)] H
def jT:Z4:=ah 173 59 f173 7 Y [(0,X)] H
def nL:Z4:=
 Z0 (Zk .string I) λL=>
 Z0 (Z3 .eql L (Q J 0)) λj=>
 Z0 (Z7 j a bh (b I)) λt9=>
 Z0 (Z7 j a bh (Zk .string t9)) λu=>
 Z0 (Z7 j a bh (Z3 .gtr u (Q J 32))) λw=>
 Z0 (Zm j (.bool c) w) λg=>
 Z0 (Z7 g a bh (b I)) λy=>
 Z0 (Z7 g a bh (Zz y (Q J 0))) λz=>
 Z0 (Z7 g a bh (Z3 .geq z (.int .u8 48))) λA=>
 Z0 (Z7 g a bh (b A)) λh=>
 Z0 (Z7 h c bh (b I)) λB=>
 Z0 (Z7 h c bh (Zz B (Q J 0))) λC=>
 Z0 (Z7 h c bh (Z3 .leq C (.int .u8 57))) λD=>
 Z0 (Z7 g a bh (Zm h D (.bool a))) λE=>
 Z0 (Zm g (.bool c) E) λF=>
 Zl F
 (b ((.bool a),H))
 (jT I H H)
theorem ZeQ:jU Y H =
 b ((.bool c),H):=Z9 [3,5,6,9]
theorem ZeS:L8 X V Y H =
 Z0 (Z3 .add V (Q J 1)) λg=>
 Fw X g Y H:=Z9 [3,5,6,9]
theorem ZeR:L7 X V Y H =
 Z0 (Zz X V) λg=>
 Z0 (Z3 .geq g (.int .u8 97)) λj=>
 Z0 (Z7 j c bh (b g)) λz=>
 Z0 (Z7 j c bh (Z3 .leq z (.int .u8 122))) λA=>
 Z0 (Zm j A (.bool a)) λt37=>
 Z0 (Z7 t37 a bh (b g)) λB=>
 Z0 (Z7 t37 a bh (Z3 .geq B (.int .u8 65))) λC=>
 Z0 (Z7 t37 a bh (b C)) λu=>
 Z0 (Z7 u c bh (b g)) λD=>
 Z0 (Z7 u c bh (Z3 .leq D (.int .u8 90))) λE=>
 Z0 (Z7 t37 a bh (Zm u E (.bool a))) λF=>
 Z0 (Zm t37 (.bool c) F) λh=>
 Z0 (Z7 h a bh (b g)) λL=>
 Z0 (Z7 h a bh (Z3 .geq L (.int .u8 48))) λM=>
 Z0 (Z7 h a bh (b M)) λw=>
 Z0 (Z7 w c bh (b g)) λN=>
 Z0 (Z7 w c bh (Z3 .leq N (.int .u8 57))) λR=>
 Z0 (Z7 h a bh (Zm w R (.bool a))) λS=>
 Z0 (Zm h (.bool c) S) λy=>
 Z0 (Z7 y a bh (b g)) λT=>
 Z0 (Z7 y a bh (Z3 .eql T (.int .u8 95))) λZ=>
 Z0 (Zm y (.bool c) Z) λaa=>
 Z0 (Xa .not aa) λab=>
 Zl ab
 (b ((.bool a),H))
 (L8 X V Y H):=Z9 [3,5,6,9]
theorem Cb:Fw X V Y H =
 Z0 (Zk .string X) λg=>
 Z0 (Z3 .lss V g) λh=>
 Zl h
 (L7 X V Y H)
 (jU Y H):=(Zw (C:=cfg) [3,5,6,9] (Zg 0 (pA Y)) _ _).trans df
theorem ZeP:jT X Y H =
 Fw X (Q J 0) Y H:=Z9 [3,5,6,9]
theorem Zgf:G0 [I] H=nL I H:=Be 59 [3,5,6,9] func173
def Zda:Z4:=
 Z0 (Z3 .geq I (Q J 0)) λt4=>
 Z0 (Z7 t4 c bh (b I)) λg=>
 Z0 (Z7 t4 c bh (Z3 .leq g (Q J 65535))) λh=>
 Z0 (Zm t4 h (.bool a)) λj=>
 b (j,H)
theorem Zje:Dm [I] H=Zda I H:=Be 9 [] func174
def Pl:Z4:=ah 175 37 f175 15 Y [] H
def V2:KL:=Za (YT 175 37 f175 15) (Zf cfg 37 175 f175 Y)
theorem Ga:ZH 37 (V2 Y):=Zq (C:=cfg) (kp:=cfg.keep 175) (ai f175 15) (Zv 175 f175 Y)
def Ks:Z4:=Zy 175 37 (ai f175 467) (Za (Y3 175 37 f175 116) (Z5 0 (V2 Y))) [(0,X),(3,V)] H
def V3:KL:=Za (YT 175 37 f175 467) (Za (Y3 175 37 f175 116) (Z5 0 (V2 Y)))
theorem Cc:ZH 37 (V3 Y):=Zq (C:=cfg) (kp:=cfg.keep 175) (ai f175 467) (Qn (C:=cfg) (kp:=cfg.keep 175) (ai f175 116) (Zg 0 (Ga Y)))
def Pp:Z4:=Zy 175 37 (ai f175 59699) (Za (Y3 175 37 f175 14924) (Z5 2 (Z5 1 (V3 Y)))) [(0,X),(3,V),(4,O)] H
def Po:Z4:=Zy 175 37 (ai f175 29849) (Za (Y3 175 37 f175 14924) (Z5 2 (Z5 1 (V3 Y)))) [(0,X),(3,V),(4,O)] H
def Ux:Z4:=Xg 175 37 (ai f175 14924) (Z5 2 (Z5 1 (V3 Y))) [(0,X),(3,V),(4,O)] H
def Pn:Z4:=Zy 175 37 (ai f175 1865) (Z5 1 (V3 Y)) [(0,X),(3,V)] H
def Pm:Z4:=Zy 175 37 (ai f175 233) (Za (Y3 175 37 f175 116) (Z5 0 (V2 Y))) [(0,X),(3,V)] H
def Uw:Z4:=Xg 175 37 (ai f175 116) (Z5 0 (V2 Y)) [(0,X),(3,V)] H
def Pk:Z4:=ah 175 37 f175 7 Y [(0,X)] H
def Mq:Z4:=
 Z0 (Zk (.slice 243) I) λg=>
 Z0 (Z3 .gtr g (Q J 24)) λh=>
 Zl h
 (b ((Q J 3),H))
 (Pk I H H)
theorem Od:Pl Y H =
 b ((Q J 0),H):=Z9 bb
theorem Of:Ks X V Y H =
 Z0 (Z3 .add V (Q J 1)) λg=>
 Uw X g Y H:=Z9 bb
theorem Oi:Pp X V O Y H =
 Z0 (Z3 .add O (Q J 1)) λg=>
 Ux X V g Y H:=Z9 bb
theorem Oh:Po X V O Y H =
 Z0 (Zj 5 X O) λg=>
 Z0 (Z8 0 g) λh=>
 Z0 (Z2 a 1 h H) λj=>
 Z0 (Zj 5 X V) λu=>
 Z0 (Z8 0 u) λw=>
 Z0 (Z2 a 1 w H) λy=>
 Z0 (YK .eql j y) λz=>
 Zl z
 (b ((Q J 6),H))
 (Pp X V O Y H):=Z9 bb
theorem Dz:Ux X V O Y H =
 Z0 (Z3 .lss O V) λg=>
 Zl g
 (Po X V O Y H)
 (Ks X V Y H):=(Zw (C:=cfg) [3,5,6,8,10,11,13] (Zg 2 (Zg 1 (Cc Y))) _ _).trans df
theorem Og:Pn X V Y H =
 Ux X V (Q J 0) Y H:=Z9 bb
theorem Oe:Pm X V Y H =
 Z0 (Zj 5 X V) λh=>
 Z0 (Z8 0 h) λj=>
 Z0 (Z2 a 1 j H) λu=>
 Z0 (Ze G0 [u] H) λg=>
 Z0 (Xa .not g.1) λw=>
 Zl w
 (b ((Q J 4),g.2))
 (Pn X V Y g.2):=Z9 bb
theorem Dy:Uw X V Y H =
 Z0 (Zk (.slice 243) X) λg=>
 Z0 (Z3 .lss V g) λh=>
 Zl h
 (Pm X V Y H)
 (Pl Y H):=(Zw (C:=cfg) [3,5,6,8,10,11,13] (Zg 0 (Ga Y)) _ _).trans df
theorem Oc:Pk X Y H =
 Uw X (Q J 0) Y H:=Z9 bb
theorem aC:UX [I] H=Mq I H:=Be 37 [3,5,6,8,10,11,13] func175
def T0:Z4:=ah 176 46 f176 15 Y [] H
def Wu:KL:=Za (YT 176 46 f176 15) (Zf cfg 46 176 f176 Y)
theorem KC:ZH 46 (Wu Y):=Zq (C:=cfg) (kp:=cfg.keep 176) (ai f176 15) (Zv 176 f176 Y)
def Ju:Z4:=Zy 176 46 (ai f176 467) (Za (Y3 176 46 f176 116) (Z5 0 (Wu Y))) [(0,X),(3,V)] H
def Wv:KL:=Za (YT 176 46 f176 467) (Za (Y3 176 46 f176 116) (Z5 0 (Wu Y)))
theorem EK:ZH 46 (Wv Y):=Zq (C:=cfg) (kp:=cfg.keep 176) (ai f176 467) (Qn (C:=cfg) (kp:=cfg.keep 176) (ai f176 116) (Zg 0 (KC Y)))
def T7:Z4:=Zy 176 46 (ai f176 59699) (Za (Y3 176 46 f176 14924) (Z5 2 (Z5 1 (Wv Y)))) [(0,X),(3,V),(4,O)] H
def T6:Z4:=Zy 176 46 (ai f176 29849) (Za (Y3 176 46 f176 14924) (Z5 2 (Z5 1 (Wv Y)))) [(0,X),(3,V),(4,O)] H
def VQ:Z4:=Xg 176 46 (ai f176 14924) (Z5 2 (Z5 1 (Wv Y))) [(0,X),(3,V),(4,O)] H
def T5:Z4:=Zy 176 46 (ai f176 1865) (Z5 1 (Wv Y)) [(0,X),(3,V)] H
def T4:Z4:=Zy 176 46 (ai f176 233) (Za (Y3 176 46 f176 116) (Z5 0 (Wu Y))) [(0,X),(3,V)] H
def VP:Z4:=Xg 176 46 (ai f176 116) (Z5 0 (Wu Y)) [(0,X),(3,V)] H
def RZ:Z4:=ah 176 46 f176 7 Y [(0,X)] H
def Pe:Z4:=
 Z0 (Zk (.slice 198) I) λg=>
 Z0 (Z3 .gtr g (Q J 64)) λh=>
 Zl h
 (b ((Q J 3),H))
 (RZ I H H)
theorem A0:T0 Y H =
 b ((Q J 0),H):=Z9 bb
theorem A9:Ju X V Y H =
 Z0 (Z3 .add V (Q J 1)) λg=>
 VP X g Y H:=Z9 bb
theorem Ac:T7 X V O Y H =
 Z0 (Z3 .add O (Q J 1)) λg=>
 VQ X V g Y H:=Z9 bb
theorem Ab:T6 X V O Y H =
 Z0 (Zj 2 X O) λt37=>
 Z0 (Z8 0 t37) λg=>
 Z0 (Z2 a 1 g H) λh=>
 Z0 (Zj 2 X V) λj=>
 Z0 (Z8 0 j) λu=>
 Z0 (Z2 a 1 u H) λw=>
 Z0 (YK .eql h w) λy=>
 Zl y
 (b ((Q J 6),H))
 (T7 X V O Y H):=Z9 bb
theorem Bg:VQ X V O Y H =
 Z0 (Z3 .lss O V) λg=>
 Zl g
 (T6 X V O Y H)
 (Ju X V Y H):=(Zw (C:=cfg) [3,5,6,8,10,11,13] (Zg 2 (Zg 1 (EK Y))) _ _).trans df
theorem Aa:T5 X V Y H =
 VQ X V (Q J 0) Y H:=Z9 bb
theorem A8:T4 X V Y H =
 Z0 (Zj 2 X V) λj=>
 Z0 (Z8 0 j) λu=>
 Z0 (Z2 a 1 u H) λw=>
 Z0 (Zk .string w) λy=>
 Z0 (Z3 .neq y (Q J 2)) λg=>
 Z0 (Z7 g a bh (b X)) λz=>
 Z0 (Z7 g a bh (b V)) λA=>
 Z0 (Z7 g a bh (Zj 2 z A)) λB=>
 Z0 (Z7 g a bh (Z8 1 B)) λC=>
 Z0 (Z7 g a bh (Z2 a 1 C H)) λD=>
 Z0 (Z7 g a (bh,H) (Ze Dm [D] H)) λh=>
 Z0 (Z7 g a bh (Xa .not h.1)) λE=>
 Z0 (Zm g (.bool c) E) λF=>
 Zl F
 (b ((Q J 2),h.2))
 (T5 X V Y h.2):=Z9 bb
theorem Bf:VP X V Y H =
 Z0 (Zk (.slice 198) X) λg=>
 Z0 (Z3 .lss V g) λh=>
 Zl h
 (T4 X V Y H)
 (T0 Y H):=(Zw (C:=cfg) [3,5,6,8,10,11,13] (Zg 0 (KC Y)) _ _).trans df
theorem HZ:RZ X Y H =
 VP X (Q J 0) Y H:=Z9 bb
theorem O3:Us [I] H=Pe I H:=Be 46 [3,5,6,8,10,11,13] func176
def jM:Z4:=ah 177 24 f177 7 Y [(1,W)] H
def L5:KL:=Za (YT 177 24 f177 7) (Zf cfg 24 177 f177 Y)
theorem oJ:ZH 24 (L5 Y):=Zq (C:=cfg) (kp:=cfg.keep 177) (ai f177 7) (Zv 177 f177 Y)
def jN:Z4:=Zy 177 24 (ai f177 49) (Za (Y3 177 24 f177 24) (Z5 0 (L5 Y))) [(0,X),(1,W)] H
def Fo:Z4:=Xg 177 24 (ai f177 24) (Z5 0 (L5 Y)) [(0,X),(1,W)] H
def ZmE:Z4:=
 Fo I p1 H H
theorem FR:jM W Y H =
 b (W,H):=Z9 [2,3]
theorem ZeJ:jN X W Y H =
 Z0 (Z3 .add W (Q J 1)) λg=>
 Fo X g Y H:=Z9 [2,3]
theorem C7:Fo X W Y H =
 Z0 (Zk .string X) λF=>
 Z0 (Z3 .lss W F) λh=>
 Z0 (Z7 h c bh (b X)) λj=>
 Z0 (Z7 h c bh (b W)) λu=>
 Z0 (Z7 h c bh (Zz j u)) λw=>
 Z0 (Z7 h c bh (Z3 .geq w (.int .u8 48))) λy=>
 Z0 (Zm h y (.bool a)) λg=>
 Z0 (Z7 g c bh (b X)) λz=>
 Z0 (Z7 g c bh (b W)) λA=>
 Z0 (Z7 g c bh (Zz z A)) λB=>
 Z0 (Z7 g c bh (Z3 .leq B (.int .u8 57))) λD=>
 Z0 (Zm g D (.bool a)) λE=>
 Zl E
 (jN X W Y H)
 (jM W Y H):=(Zw (C:=cfg) [2,3] (Zg 0 (oJ Y)) _ _).trans df
theorem Zge:RE [I,p1] H=ZmE I p1 H:=Be 24 [2,3] func177
def jP:Z4:=ah 178 45 f178 31 Y [(6,x)] H
def Fp:KL:=Za (YT 178 45 f178 31) (Zf cfg 45 178 f178 Y)
theorem oK:ZH 45 (Fp Y):=Zq (C:=cfg) (kp:=cfg.keep 178) (ai f178 31) (Zv 178 f178 Y)
def L6:Z4:=Zy 178 45 (ai f178 979) (Za (Y3 178 45 f178 244) (Z5 2 (Fp Y))) [(1,W),(6,x),(8,x8)] H
def jQ:Z4:=Zy 178 45 (ai f178 489) (Za (Y3 178 45 f178 244) (Z5 2 (Fp Y))) [(1,W),(6,x),(8,x8)] H
def Fr:Z4:=Xg 178 45 (ai f178 244) (Z5 2 (Fp Y)) [(1,W),(6,x),(8,x8)] H
def jO:Z4:=ah 178 45 f178 15 Y [(1,W),(6,x)] H
def Fq:KL:=Za (YT 178 45 f178 15) (Zf cfg 45 178 f178 Y)
theorem oL:ZH 45 (Fq Y):=Zq (C:=cfg) (kp:=cfg.keep 178) (ai f178 15) (Zv 178 f178 Y)
def jS:Z4:=Zy 178 45 (ai f178 467) (Za (Y3 178 45 f178 116) (Z5 0 (Fq Y))) [(0,X),(1,W),(6,x),(7,s)] H
def jR:Z4:=Zy 178 45 (ai f178 233) (Za (Y3 178 45 f178 116) (Z5 0 (Fq Y))) [(0,X),(1,W),(6,x),(7,s)] H
def Ft:Z4:=Xg 178 45 (ai f178 116) (Z5 0 (Fq Y)) [(0,X),(1,W),(6,x),(7,s)] H
def ZmF:Z4:=
 Ft I p1 (Q J 0) (Q J 0) H H
theorem ZeL:jP x Y H =
 Z0 (Z3 .leq x (Q J 10000000000000)) λg=>
 b ((.tuple [x,g]),H):=Z9 bc
theorem C8:L6 W x x8 Y H =
 Z0 (Z3 .add x8 (Q J 1)) λg=>
 Fr W x g Y H:=Z9 bc
theorem ZeM:jQ W x x8 Y H =
 Z0 (Z3 .mul x (Q J 10)) λg=>
 Z0 (Zk .string W) λh=>
 Z0 (Z3 .lss x8 h) λj=>
 Zl j
 (Z0 (Zz W x8) λu=>
 Z0 (Z3 .sub u (.int .u8 48)) λw=>
 Z0 (Yn .i64 w) λy=>
 Z0 (Z3 .add g y) λz=>
 L6 W z x8 Y H)
 (L6 W g x8 Y H):=Z9 bc
theorem C9:Fr W x x8 Y H =
 Z0 (Z3 .lss x8 (Q J 4)) λg=>
 Zl g
 (jQ W x x8 Y H)
 (jP x Y H):=(Zw (C:=cfg) [4,5,8,10,11,14] (Zg 2 (oK Y)) _ _).trans df
theorem ZeK:jO W x Y H =
 Fr W x (Q J 0) Y H:=Z9 bc
theorem ZeO:jS X W x s Y H =
 Z0 (Z3 .add s (Q J 1)) λg=>
 Ft X W x g Y H:=Z9 bc
theorem ZeN:jR X W x s Y H =
 Z0 (Z3 .mul x (Q J 10)) λh=>
 Z0 (Zz X s) λj=>
 Z0 (Z3 .sub j (.int .u8 48)) λu=>
 Z0 (Yn .i64 u) λw=>
 Z0 (Z3 .add h w) λg=>
 Z0 (Z3 .gtr g (Q J 1000000000)) λy=>
 Zl y
 (b ((.tuple [(Q J 0),(.bool a)]),H))
 (jS X W g s Y H):=Z9 bc
theorem Ca:Ft X W x s Y H =
 Z0 (Zk .string X) λg=>
 Z0 (Z3 .lss s g) λh=>
 Zl h
 (jR X W x s Y H)
 (jO W x Y H):=(Zw (C:=cfg) [4,5,8,10,11,14] (Zg 0 (oL Y)) _ _).trans df
theorem An:Sy [I,p1] H=ZmF I p1 H:=Be 45 [4,5,8,10,11,14] func178
def jV:Z4:=ah 179 23 f179 15 Y [(5,U)] H
def Fx:KL:=Za (YT 179 23 f179 15) (Zf cfg 23 179 f179 Y)
theorem pB:ZH 23 (Fx Y):=Zq (C:=cfg) (kp:=cfg.keep 179) (ai f179 15) (Zv 179 f179 Y)
def jX:Z4:=Zy 179 23 (ai f179 467) (Za (Y3 179 23 f179 116) (Z5 0 (Fx Y))) [(0,X),(1,W),(5,U),(6,x)] H
def jW:Z4:=Zy 179 23 (ai f179 233) (Za (Y3 179 23 f179 116) (Z5 0 (Fx Y))) [(0,X),(1,W),(5,U),(6,x)] H
def Fy:Z4:=Xg 179 23 (ai f179 116) (Z5 0 (Fx Y)) [(0,X),(1,W),(5,U),(6,x)] H
def nM:Z4:=
 Fy I p1 .nils (Q J 0) H H
theorem ZeU:jV U Y H =
 Z0 (Uh U H) λg=>
 b (g,H):=Z9 [4,5,6]
theorem ZeW:jX X W U x Y H =
 Z0 (Z3 .add x (Q J 1)) λg=>
 Fy X W U g Y H:=Z9 [4,5,6]
theorem ZeV:jW X W U x Y H =
 Z0 (Zz W x) λh=>
 Z0 (Zz X h) λj=>
 Z0 ((Zt 1 [(0,j)] [(.int .u8 0)]).map (.vs 1 .clip)) λu=>
 Z0 (ZR 1 1 U u H) λg=>
 jX X W g.1 x Y g.2:=Z9 [4,5,6]
theorem Cd:Fy X W U x Y H =
 Z0 (Zk .string W) λt9=>
 Z0 (Z3 .lss x t9) λg=>
 Zl g
 (jW X W U x Y H)
 (jV U Y H):=(Zw (C:=cfg) [4,5,6] (Zg 0 (pB Y)) _ _).trans df
theorem Zgh:Sz [I,p1] H=nM I p1 H:=Be 23 [4,5,6] func179
def No:Z4:=ah 190 54 f190 7 Y [(0,X)] H
def GP:KL:=Za (YT 190 54 f190 7) (Zf cfg 54 190 f190 Y)
theorem mC:ZH 54 (GP Y):=Zq (C:=cfg) (kp:=cfg.keep 190) (ai f190 7) (Zv 190 f190 Y)
def Nq:Z4:=Zy 190 54 (ai f190 423) (Za (Y3 190 54 f190 52) (Z5 0 (GP Y))) [(0,X),(7,s),(8,x8)] H
def Np:Z4:=Zy 190 54 (ai f190 211) (Za (Y3 190 54 f190 52) (Z5 0 (GP Y))) [(0,X),(7,s),(8,x8),(9,q)] H
def GQ:Z4:=Xg 190 54 (ai f190 52) (Z5 0 (GP Y)) [(0,X),(7,s),(8,x8)] H
def jH:Z4:=
 Z0 (Zk .string I) λg=>
 GQ I g (Q J 0) H H
theorem ZcW:No X Y H =
 Z0 (YK .neq X (.str [])) λg=>
 Z0 (Z7 g c bh (b X)) λh=>
 Z0 (Z7 g c bh (Zk .string h)) λj=>
 Z0 (Z7 g c bh (Z3 .leq j (Q J 32))) λu=>
 Z0 (Zm g u (.bool a)) λw=>
 b (w,H):=Z9 [3,8,9]
theorem Ek:Nq X s x8 Y H =
 Z0 (Z3 .add x8 (Q J 1)) λg=>
 GQ X s g Y H:=Z9 [3,8,9]
theorem ZcX:Np X s x8 q Y H =
 Z0 (Zz X x8) λg=>
 Z0 (Z3 .eql g (.int .u8 95)) λj=>
 Z0 (Z7 j a bh (b g)) λA=>
 Z0 (Z7 j a bh (Z3 .geq A (.int .u8 97))) λB=>
 Z0 (Z7 j a bh (b B)) λw=>
 Z0 (Z7 w c bh (b g)) λC=>
 Z0 (Z7 w c bh (Z3 .leq C (.int .u8 122))) λD=>
 Z0 (Z7 j a bh (Zm w D (.bool a))) λE=>
 Z0 (Zm j (.bool c) E) λu=>
 Z0 (Z7 u a bh (b g)) λF=>
 Z0 (Z7 u a bh (Z3 .geq F (.int .u8 65))) λL=>
 Z0 (Z7 u a bh (b L)) λy=>
 Z0 (Z7 y c bh (b g)) λM=>
 Z0 (Z7 y c bh (Z3 .leq M (.int .u8 90))) λN=>
 Z0 (Z7 u a bh (Zm y N (.bool a))) λR=>
 Z0 (Zm u (.bool c) R) λS=>
 Z0 (Xa .not S) λh=>
 Z0 (Z7 h c bh (b x8)) λT=>
 Z0 (Z7 h c bh (Z3 .eql T (Q J 0))) λZ=>
 Z0 (Z7 h c bh (b Z)) λt37=>
 Z0 (Z7 t37 a bh (b g)) λaa=>
 Z0 (Z7 t37 a bh (Z3 .lss aa (.int .u8 48))) λab=>
 Z0 (Z7 h c bh (Zm t37 (.bool c) ab)) λac=>
 Z0 (Z7 h c bh (b ac)) λz=>
 Z0 (Z7 z a bh (b g)) λad=>
 Z0 (Z7 z a bh (Z3 .gtr ad (.int .u8 57))) λae=>
 Z0 (Z7 h c bh (Zm z (.bool c) ae)) λaf=>
 Z0 (Zm h af (.bool a)) λag=>
 Zl ag
 (b ((.bool a),H))
 (Nq X s x8 Y H):=Z9 [3,8,9]
theorem QP:GQ X s x8 Y H =
 Z0 (Z3 .lss x8 s) λt9=>
 Zl t9
 (Np X s x8 t9 Y H)
 (No X Y H):=(Zw (C:=cfg) [3,8,9] (Zg 0 (mC Y)) _ _).trans df
theorem ZeA:K1 [I] H=jH I H:=Be 54 [3,8,9] func190
def DT:Z4:=ah 191 28 f191 31 Y [] H
def XV:KL:=Za (YT 191 28 f191 31) (Zf cfg 28 191 f191 Y)
theorem MJ:ZH 28 (XV Y):=Zq (C:=cfg) (kp:=cfg.keep 191) (ai f191 31) (Zv 191 f191 Y)
def DV:Z4:=Zy 191 28 (ai f191 1959) (Za (Y3 191 28 f191 244) (Z5 0 (XV Y))) [(3,V),(10,v),(11,t),(12,r)] H
def DY:KL:=Za (YT 191 28 f191 1959) (Za (Y3 191 28 f191 244) (Z5 0 (XV Y)))
def DX:Z4:=Zy 191 28 (ai f191 31335) (Z5 1 (DY Y)) [(3,V),(5,U),(10,v),(11,t),(12,r)] H
def DW:Z4:=Zy 191 28 (ai f191 15667) (Z5 1 (DY Y)) [(3,V),(5,U),(10,v),(11,t),(12,r)] H
def DU:Z4:=Zy 191 28 (ai f191 979) (Za (Y3 191 28 f191 244) (Z5 0 (XV Y))) [(3,V),(10,v),(11,t),(12,r),(13,x13)] H
def Vk:Z4:=Xg 191 28 (ai f191 244) (Z5 0 (XV Y)) [(3,V),(10,v),(11,t),(12,r)] H
def DS:Z4:=ah 191 28 f191 7 Y [(0,X)] H
def Re:Z4:=
 Z0 (Zk (.slice 243) I) λg=>
 Z0 (Z3 .gtr g (Q J 24)) λh=>
 Zl h
 (b ((Q J 3),H))
 (DS I H H)
theorem Sa:DT Y H =
 b ((Q J 0),H):=Z9 bd
theorem Sd:DV V v t r Y H =
 Z0 (Z3 .add r (Q J 1)) λg=>
 Vk V v t g Y H:=Z9 bd
theorem Sf:DX V U v t r Y H =
 Z0 (Z8 0 U) λh=>
 Z0 (Z2 a 1 h H) λj=>
 Z0 (XC .string V j (.bool c) H) λg=>
 DV V v t r Y g.2:=Z9 bd
theorem Se:DW V U v t r Y H =
 Z0 (Z8 0 U) λg=>
 Z0 (Z2 a 1 g H) λh=>
 Z0 (Yo .string (.bool a) a V h H) λj=>
 Zl j
 (b ((Q J 6),H))
 (DX V U v t r Y H):=Z9 bd
theorem Sb:DU V v t r x13 Y H =
 Z0 (Zj 5 v r) λu=>
 Z0 (Z2 c 5 u H) λw=>
 Z0 (b ((.ptr (d H) 0),H++[.cells [(.str []),(.int .u64 0),(.int .u64 0),(.int .u64 0),(.int .u64 0)]])) λj=>
 Z0 (Zc 5 j.1 w j.2) λh=>
 Z0 (Z8 0 j.1) λy=>
 Z0 (Z2 a 1 y h.2) λz=>
 Z0 (Ze K1 [z] h.2) λg=>
 Z0 (Xa .not g.1) λA=>
 Zl A
 (b ((Q J 4),g.2))
 (DW V j.1 v t r Y g.2):=Z9 bd
theorem KP:Vk V v t r Y H =
 Z0 (Z3 .lss r t) λg=>
 Zl g
 (DU V v t r g Y H)
 (DT Y H):=(Zw (C:=cfg) [3,6,9,11,12,13] (Zg 0 (MJ Y)) _ _).trans df
theorem S9:DS X Y H =
 Z0 (b ((.map (d H)),H++[.map [] 0])) λh=>
 Z0 (Zk (.slice 243) X) λg=>
 Vk h.1 X g (Q J 0) Y h.2:=Z9 bd
theorem SO:Vv [I] H=Re I H:=Be 28 [3,6,9,11,12,13] func191
def Bx:Z4:=ah 192 38 f192 31 Y [] H
def XL:KL:=Za (YT 192 38 f192 31) (Zf cfg 38 192 f192 Y)
theorem Nl:ZH 38 (XL Y):=Zq (C:=cfg) (kp:=cfg.keep 192) (ai f192 31) (Zv 192 f192 Y)
def Bz:Z4:=Zy 192 38 (ai f192 1959) (Za (Y3 192 38 f192 244) (Z5 0 (XL Y))) [(3,V),(10,v),(11,t),(12,r)] H
def BC:KL:=Za (YT 192 38 f192 1959) (Za (Y3 192 38 f192 244) (Z5 0 (XL Y)))
def BB:Z4:=Zy 192 38 (ai f192 31335) (Z5 1 (BC Y)) [(3,V),(5,U),(10,v),(11,t),(12,r)] H
def BA:Z4:=Zy 192 38 (ai f192 15667) (Z5 1 (BC Y)) [(3,V),(5,U),(10,v),(11,t),(12,r)] H
def By:Z4:=Zy 192 38 (ai f192 979) (Za (Y3 192 38 f192 244) (Z5 0 (XL Y))) [(3,V),(10,v),(11,t),(12,r),(13,x13)] H
def WV:Z4:=Xg 192 38 (ai f192 244) (Z5 0 (XL Y)) [(3,V),(10,v),(11,t),(12,r)] H
def Bw:Z4:=ah 192 38 f192 7 Y [(0,X)] H
def Dt:Z4:=
 Z0 (Zk (.slice 198) I) λg=>
 Z0 (Z3 .gtr g (Q J 64)) λh=>
 Zl h
 (b ((Q J 3),H))
 (Bw I H H)
theorem Lz:Bx Y H =
 b ((Q J 0),H):=Z9 bd
theorem LB:Bz V v t r Y H =
 Z0 (Z3 .add r (Q J 1)) λt37=>
 WV V v t t37 Y H:=Z9 bd
theorem LD:BB V U v t r Y H =
 Z0 (Z8 0 U) λh=>
 Z0 (Z2 a 1 h H) λj=>
 Z0 (XC .string V j (.bool c) H) λg=>
 Bz V v t r Y g.2:=Z9 bd
theorem LC:BA V U v t r Y H =
 Z0 (Z8 0 U) λg=>
 Z0 (Z2 a 1 g H) λh=>
 Z0 (Yo .string (.bool a) a V h H) λj=>
 Zl j
 (b ((Q J 6),H))
 (BB V U v t r Y H):=Z9 bd
theorem LA:By V v t r x13 Y H =
 Z0 (Zj 2 v r) λw=>
 Z0 (Z2 c 2 w H) λy=>
 Z0 (b ((.ptr (d H) 0),H++[.cells [(.str []),(Q J 0)]])) λu=>
 Z0 (Zc 2 u.1 y u.2) λg=>
 Z0 (Z8 0 u.1) λz=>
 Z0 (Z2 a 1 z g.2) λA=>
 Z0 (Zk .string A) λB=>
 Z0 (Z3 .neq B (Q J 2)) λh=>
 Z0 (Z7 h a bh (Z8 1 u.1)) λC=>
 Z0 (Z7 h a bh (Z2 a 1 C g.2)) λD=>
 Z0 (Z7 h a bh (Z3 .lss D (Q J 0))) λE=>
 Z0 (Zm h (.bool c) E) λj=>
 Z0 (Z7 j a bh (Z8 1 u.1)) λF=>
 Z0 (Z7 j a bh (Z2 a 1 F g.2)) λL=>
 Z0 (Z7 j a bh (Z3 .gtr L (Q J 65535))) λM=>
 Z0 (Zm j (.bool c) M) λN=>
 Zl N
 (b ((Q J 2),g.2))
 (BA V u.1 v t r Y g.2):=Z9 bd
theorem K8:WV V v t r Y H =
 Z0 (Z3 .lss r t) λg=>
 Zl g
 (By V v t r g Y H)
 (Bx Y H):=(Zw (C:=cfg) [3,6,9,11,12,13] (Zg 0 (Nl Y)) _ _).trans df
theorem Ly:Bw X Y H =
 Z0 (b ((.map (d H)),H++[.map [] 0])) λh=>
 Z0 (Zk (.slice 198) X) λg=>
 WV h.1 X g (Q J 0) Y h.2:=Z9 bd
theorem EB:Vc [I] H=Dt I H:=Be 38 [3,6,9,11,12,13] func192
def El:Z4:=ah 193 40 f193 15 Y [(7,s)] H
def QQ:KL:=Za (YT 193 40 f193 15) (Zf cfg 40 193 f193 Y)
theorem ON:ZH 40 (QQ Y):=Zq (C:=cfg) (kp:=cfg.keep 193) (ai f193 15) (Zv 193 f193 Y)
def Db:Z4:=Zy 193 40 (ai f193 935) (Za (Y3 193 40 f193 116) (Z5 0 (QQ Y))) [(0,X),(1,W),(2,P),(7,s),(11,t),(12,r)] H
def Em:Z4:=Zy 193 40 (ai f193 467) (Za (Y3 193 40 f193 116) (Z5 0 (QQ Y))) [(0,X),(1,W),(2,P),(7,s),(11,t),(12,r),(13,x13)] H
def QR:Z4:=Xg 193 40 (ai f193 116) (Z5 0 (QQ Y)) [(0,X),(1,W),(2,P),(7,s),(11,t),(12,r)] H
def SP:Z4:=
 Z0 (Uy 1 1 a (.int .u8 0) (Q J 256) (Q J 256) H) λg=>
 Z0 (Zk (.slice 5) g.1) λh=>
 QR I p1 p2 g.1 h (Q J 0) H g.2
theorem gX:El s Y H =
 Z0 (Uh s H) λg=>
 b (g,H):=Z9 ar
theorem gZ:Db X W P s t r Y H =
 Z0 (Z3 .add r (Q J 1)) λt37=>
 QR X W P s t t37 Y H:=Z9 ar
theorem gY:Em X W P s t r x13 Y H =
 Z0 (Yn .u8 r) λu=>
 Z0 (Zj 1 s r) λw=>
 Z0 (Zc 1 w u H) λj=>
 Z0 (Yn .u8 r) λy=>
 Z0 (Z3 .geq y X) λg=>
 Z0 (Z7 g c bh (b r)) λz=>
 Z0 (Z7 g c bh (Yn .u8 z)) λA=>
 Z0 (Z7 g c bh (b W)) λB=>
 Z0 (Z7 g c bh (Z3 .leq A B)) λC=>
 Z0 (Zm g C (.bool a)) λD=>
 Zl D
 (Z0 (Z3 .add r P) λE=>
 Z0 (Yn .u8 E) λF=>
 Z0 (Zj 1 s r) λL=>
 Z0 (Zc 1 L F j.2) λh=>
 Db X W P s t r Y h.2)
 (Db X W P s t r Y j.2):=Z9 ar
theorem hE:QR X W P s t r Y H =
 Z0 (Z3 .lss r t) λg=>
 Zl g
 (Em X W P s t r g Y H)
 (El s Y H):=(Zw (C:=cfg) [4,8,9] (Zg 0 (ON Y)) _ _).trans df
theorem lK:V4 [I,p1,p2] H=SP I p1 p2 H:=Be 40 [4,8,9] func193
end
end Go.Am
