/-
  The functions of the translation over the abstract machine, a further part: written by program (wip/gen.py).
-/
import Derived.Test.YtehanadfidoodaaGreatDoorNkGx
namespace Go.Am
open Go.Proofs
set_option maxRecDepth 100000
noncomputable abbrev Zs (f n:Nat):=Y1 cfg (Za cfg) (ZQ cfg (cfg.keep f) n) (cfg.keep f) n Zb Z7
noncomputable abbrev Xa (f n:Nat):=ZQ cfg (cfg.keep f) n
noncomputable section
abbrev YH (f n:Nat)(F:Func)(p:List Nat):KL→AL→Hp→Z4:=fun k al H=>Zs f n (sub (Z1 F) p) k (ZP (cfg.keep f) (sub (Z1 F) p) al) H
abbrev ZV (f n:Nat)(F:Func)(p:List Nat):KL→AL→Hp→Z4:=fun k al H=>Xa f n (sub (Z1 F) p) k (ZP (cfg.keep f) (sub (Z1 F) p) al) H
variable (p0 p1 p2 p3 p4 x0 x1 x2 x3 x4 x5 x6 x7 x8 x9 x10 x11 x12 x13 x16 x17 x18 x19 x24 x25 x26 x27 x28 x29 x30:AV)(H0 H:Hp)
def Mn:Z4:=Zs 67 39 (sub (Z1 Tryz.f67) [1,1,1,1,1,1]) (Zf cfg 39 67 Tryz.f67 H0) [(9,x9)] H
def B5:Z4:=Zs 67 39 (sub (Z1 Tryz.f67) [1,1,1,1]) (Zf cfg 39 67 Tryz.f67 H0) [(2,x2),(3,x3),(4,x4),(5,x5)] H
def Lf:Z4:=
 Z0 (ZU p0 H) fun r4=>
 Z0 (ZU p1 r4.2) fun r5=>
 Z0 (Z3 true 5 r5.1 r5.2) fun t10=>
 Z0 (Zc WC [t10] r5.2) fun r11=>
 Z0 (Zi 5 r5.1 r11.1 r11.2) fun r_5=>
 Z0 (Z3 true 6 r4.1 r_5.2) fun t12=>
 Z0 (Z3 true 5 r5.1 r_5.2) fun t13=>
 Z0 (Zc W2 [t12,t13,p2,p3] r_5.2) fun r16=>
 Z0 (Z5 .neq r16.1 (.int .i64 0)) fun t18=>
 Z0 (Z6 t18 false (.tuple []) (Z8 4 r5.1)) fun t20=>
 Z0 (Z6 t18 false (.tuple []) (Z3 false 1 t20 r16.2)) fun t21=>
 Z0 (Zg t18 (.bool true) t21) fun t22=>
 Z0 (Z6 t22 false (.tuple []) (Z8 3 r5.1)) fun t24=>
 Z0 (Z6 t22 false (.tuple []) (Z3 false 1 t24 r16.2)) fun t25=>
 Z0 (Zg t22 (.bool true) t25) fun t26=>
 Zk t26
 (some (r16.1,r16.2))
 (B5 p2 p3 r4.1 r5.1 H r16.2)
theorem Iw:Mn x9 H0 H =
 some (x9,H):=Z9 [5,8] (by kernel_rfl)
theorem Iv:B5 x2 x3 x4 x5 H0 H =
 Z0 (Z3 true 6 x4 H) fun t28=>
 Z0 (Zc V8 [t28,x2,x3] H) fun r31=>
 Z0 (Z8 2 x5) fun t32=>
 Z0 (Z3 false 1 t32 r31.2) fun t33=>
 Z0 (Z5 .and t33 (.int .i64 2)) fun t34=>
 Z0 (Z5 .neq t34 (.int .i64 0)) fun t35=>
 Zk t35
 (Z0 (X9 .neg r31.1) fun t37=>
 some (t37,r31.2))
 (Mn r31.1 H0 r31.2):=Z9 [5,8] (by kernel_rfl)
theorem O9:VL [p0,p1,p2,p3] H=Lf p0 p1 p2 p3 H:=(Zd (C:=cfg) (fn:=Tryz.f67) (c:=Z1 Tryz.f67) (n:=39) [5,8] Tryz.func67 (by kernel_rfl) (by kernel_rfl) [p0,p1,p2,p3] (by kernel_rfl) H).trans (by kernel_rfl)
def RV:Z4:=Zs 72 55 (sub (Z1 Tryz.f72) [1,1,1,1]) (Zf cfg 55 72 Tryz.f72 H0) [] H
def Wy:KL:=Zb (YH 72 55 Tryz.f72 [1,1,1,1]) (Zf cfg 55 72 Tryz.f72 H0)
theorem MZ:ZL 55 (Wy H0):=Zu (C:=cfg) (kp:=cfg.keep 72) (sub (Z1 Tryz.f72) [1,1,1,1]) (Zv 72 Tryz.f72 H0)
def RX:Z4:=Zs 72 55 (sub (Z1 Tryz.f72) [1,1,1,0,1,0,0,1,1,1]) (Zb (ZV 72 55 Tryz.f72 [1,1,1,0,1,0,0]) (Z7 0 (Wy H0))) [(2,x2),(3,x3),(4,x4),(5,x5),(26,x26),(27,x27),(28,x28)] H
def Zb3:KL:=Zb (YH 72 55 Tryz.f72 [1,1,1,0,1,0,0,1,1,1]) (Zb (ZV 72 55 Tryz.f72 [1,1,1,0,1,0,0]) (Z7 0 (Wy H0)))
def U4:Z4:=Zs 72 55 (sub (Z1 Tryz.f72) [1,1,1,0,1,0,0,1,1,0,0,1,1,1]) (Z7 1 (Zb3 H0)) [(2,x2),(3,x3),(4,x4),(5,x5),(10,x10),(11,x11),(26,x26),(27,x27),(28,x28)] H
def RW:Z4:=Zs 72 55 (sub (Z1 Tryz.f72) [1,1,1,0,1,0,0,1,1]) (Zb (ZV 72 55 Tryz.f72 [1,1,1,0,1,0,0]) (Z7 0 (Wy H0))) [(2,x2),(3,x3),(4,x4),(5,x5),(26,x26),(27,x27),(28,x28),(29,x29)] H
def U5:Z4:=Xa 72 55 (sub (Z1 Tryz.f72) [1,1,1,0,1,0,0]) (Z7 0 (Wy H0)) [(2,x2),(3,x3),(4,x4),(5,x5),(26,x26),(27,x27),(28,x28)] H
def RU:Z4:=Zs 72 55 (sub (Z1 Tryz.f72) [1,1,1]) (Zf cfg 55 72 Tryz.f72 H0) [(2,x2),(3,x3),(4,x4),(5,x5)] H
def TH:Z4:=
 Z0 (ZU p0 H) fun r4=>
 Z0 (ZU p1 r4.2) fun r5=>
 Z0 (Z3 true 5 r5.1 r5.2) fun t13=>
 Z0 (Zc WC [t13] r5.2) fun r14=>
 Z0 (Zi 5 r5.1 r14.1 r14.2) fun r_5=>
 Z0 (Z8 0 r5.1) fun t15=>
 Z0 (Z3 false 1 t15 r_5.2) fun t16=>
 Z0 (Zj (.slice 149) t16) fun t17=>
 Z0 (Z5 .eql t17 (.int .i64 0)) fun t18=>
 Zk t18
 (Z0 (Z3 true 6 r4.1 r_5.2) fun t19=>
 Z0 (Z8 2 r5.1) fun t20=>
 Z0 (Z3 false 1 t20 r_5.2) fun t21=>
 Z0 (Zc VM [t19,t21,p2,p3] r_5.2) fun r24=>
 some (r24.1,r24.2))
 (RU p2 p3 r4.1 r5.1 H r_5.2)
theorem C9:RV H0 H =
 some ((.int .i64 0),H):=Z9 [4,6,10,13,14] (by kernel_rfl)
theorem Cb:RX x2 x3 x4 x5 x26 x27 x28 H0 H =
 Z0 (Z5 .add x28 (.int .i64 1)) fun t54=>
 U5 x2 x3 x4 x5 x26 x27 t54 H0 H:=Z9 [4,6,10,13,14] (by kernel_rfl)
theorem Cc:U4 x2 x3 x4 x5 x10 x11 x26 x27 x28 H0 H =
 Xl x4 H fun z4 z4H=>
 Xl x5 z4H fun z5 z5H=>
 Xl x10 z5H fun z10 z10H=>
 Z0 (Yi true 6 z4) fun t38=>
 Z0 (Z3 true 5 z10 z10H) fun t41=>
 Z0 (Z8 1 z5) fun t42=>
 Z0 (Z3 false 1 t42 z10H) fun t43=>
 Z0 (Uk [x2,t41,t43] z10H) fun r44=>
 Z0 (Yi true 5 z10) fun t46=>
 Z0 (Z8 1 z5) fun t47=>
 Z0 (Yi false 1 t47) fun t48=>
 Z0 (Uk [x3,t46,t48] r44.2) fun r49=>
 Z0 (Zc VM [t38,x11,r44.1,r49.1] r49.2) fun r50=>
 Z0 (Z5 .neq r50.1 (.int .i64 0)) fun t52=>
 Zk t52
 (some (r50.1,r50.2))
 (RX x2 x3 z4 z5 x26 x27 x28 H0 r50.2):=Z9 [4,6,10,13,14] (by kernel_rfl)
theorem Ca:RW x2 x3 x4 x5 x26 x27 x28 x29 H0 H =
 Z0 (Zl 5 x26 x28) fun t30=>
 Z0 (Z3 true 5 t30 H) fun t31=>
 Z0 (some ((.ptr H.length 0),H++[.cells [(.int .i64 0),(.int .i64 0),(.int .i64 0),(.int .i64 0),(.int .i64 0)]])) fun r10=>
 Z0 (Zi 5 r10.1 t31 r10.2) fun r_14=>
 Z0 (Z8 4 r10.1) fun t32=>
 Z0 (Z3 false 1 t32 r_14.2) fun t33=>
 Z0 (Z5 .eql t33 (.int .i64 0)) fun t35=>
 Zk t35
 (Z0 (Z8 2 x5) fun t36=>
 Z0 (Z3 false 1 t36 r_14.2) fun t37=>
 U4 x2 x3 x4 x5 r10.1 t37 x26 x27 x28 H0 r_14.2)
 (U4 x2 x3 x4 x5 r10.1 t33 x26 x27 x28 H0 r_14.2):=Z9 [4,6,10,13,14] (by kernel_rfl)
theorem Bu:U5 x2 x3 x4 x5 x26 x27 x28 H0 H =
 Z0 (Z5 .lss x28 x27) fun t29=>
 Zk t29
 (RW x2 x3 x4 x5 x26 x27 x28 t29 H0 H)
 (RV H0 H):=(Zx (C:=cfg) [4,6,10,13,14] (Zm 0 (MZ H0)) _ _).trans (by kernel_rfl)
theorem C8:RU x2 x3 x4 x5 H0 H =
 Z0 (Z8 0 x5) fun t25=>
 Z0 (Z3 false 1 t25 H) fun t26=>
 Z0 (Zj (.slice 149) t26) fun t27=>
 U5 x2 x3 x4 x5 t26 t27 (.int .i64 0) H0 H:=Z9 [4,6,10,13,14] (by kernel_rfl)
theorem Co:W2 [p0,p1,p2,p3] H=TH p0 p1 p2 p3 H:=(Zd (C:=cfg) (fn:=Tryz.f72) (c:=Z1 Tryz.f72) (n:=55) [4,6,10,13,14] Tryz.func72 (by kernel_rfl) (by kernel_rfl) [p0,p1,p2,p3] (by kernel_rfl) H).trans (by kernel_rfl)
def OV:Z4:=Zs 74 38 (sub (Z1 Tryz.f74) [1,1,1,1,1,1]) (Zf cfg 38 74 Tryz.f74 H0) [(9,x9)] H
def NE:Z4:=Zs 74 38 (sub (Z1 Tryz.f74) [1,1,1,1]) (Zf cfg 38 74 Tryz.f74 H0) [(2,x2),(3,x3),(4,x4),(5,x5)] H
def Zcm:Z4:=
 Z0 (ZU p0 H) fun r4=>
 Z0 (ZU p1 r4.2) fun r5=>
 Z0 (Z3 true 5 r5.1 r5.2) fun t10=>
 Z0 (Zc QE [t10] r5.2) fun r11=>
 Z0 (Zi 5 r5.1 r11.1 r11.2) fun r_5=>
 Z0 (Z3 true 6 r4.1 r_5.2) fun t12=>
 Z0 (Z3 true 5 r5.1 r_5.2) fun t13=>
 Z0 (Zc Qs [t12,t13,p2,p3] r_5.2) fun r16=>
 Z0 (Z5 .neq r16.1 (.int .i64 0)) fun t18=>
 Z0 (Z6 t18 false (.tuple []) (Z8 4 r5.1)) fun t20=>
 Z0 (Z6 t18 false (.tuple []) (Z3 false 1 t20 r16.2)) fun t21=>
 Z0 (Zg t18 (.bool true) t21) fun t22=>
 Z0 (Z6 t22 false (.tuple []) (Z8 3 r5.1)) fun t24=>
 Z0 (Z6 t22 false (.tuple []) (Z3 false 1 t24 r16.2)) fun t25=>
 Z0 (Zg t22 (.bool true) t25) fun t26=>
 Zk t26
 (some (r16.1,r16.2))
 (NE p2 p3 r4.1 r5.1 H r16.2)
theorem Zfl:OV x9 H0 H =
 some (x9,H):=Z9 [5,8] (by kernel_rfl)
theorem Zfk:NE x2 x3 x4 x5 H0 H =
 Z0 (Z3 true 6 x4 H) fun t28=>
 Z0 (Zc Qr [t28,x2,x3] H) fun r31=>
 Z0 (Z8 2 x5) fun t32=>
 Z0 (Z3 false 1 t32 r31.2) fun t33=>
 Z0 (Zc Xw [t33,(.int .i64 2)] r31.2) fun r34=>
 Zk r34.1
 (Z0 (X9 .neg r31.1) fun t36=>
 some (t36,r34.2))
 (OV r31.1 H0 r34.2):=Z9 [5,8] (by kernel_rfl)
theorem Zhj:R7 [p0,p1,p2,p3] H=Zcm p0 p1 p2 p3 H:=(Zd (C:=cfg) (fn:=Tryz.f74) (c:=Z1 Tryz.f74) (n:=38) [5,8] Tryz.func74 (by kernel_rfl) (by kernel_rfl) [p0,p1,p2,p3] (by kernel_rfl) H).trans (by kernel_rfl)
def Mv:Z4:=Zs 105 8 (sub (Z1 Tryz.f105) [1,1]) (Zf cfg 8 105 Tryz.f105 H0) [(1,x1),(2,x2)] H
def BO:Z4:=
 Z0 (ZU p0 H) fun r1=>
 Z0 (some ((.ptr r1.2.length 0),r1.2++[.cells [.nils,(.int .i64 0),(.int .i64 0),(.bool false),(.bool false)]])) fun r2=>
 Z0 (Z3 true 5 r1.1 r2.2) fun t3=>
 Z0 (Zc WA [t3] r2.2) fun r4=>
 Z0 (Z5 .neq r4.1 (.int .i64 0)) fun t5=>
 Zk t5
 (Z0 ((Yn [(1,1,(.int .i64 (-1)))] [.nils,(.int .i64 0),(.int .i64 0),(.bool false),(.bool false)]).map .agg) fun t6=>
 Z0 (Zi 5 r2.1 t6 r4.2) fun r_10=>
 Z0 (Z3 true 5 r2.1 r_10.2) fun v2=>
 some (v2,r_10.2))
 (Mv r1.1 r2.1 H r4.2)
theorem IK:Mv x1 x2 H0 H =
 Z0 (Z3 true 5 x1 H) fun t7=>
 Z0 (Zi 5 x2 t7 H) fun r_4=>
 Z0 (Z3 true 5 x2 r_4.2) fun v2=>
 some (v2,r_4.2):=Z9 [3] (by kernel_rfl)
theorem RB:WC [p0] H=BO p0 H:=(Zd (C:=cfg) (fn:=Tryz.f105) (c:=Z1 Tryz.f105) (n:=8) [3] Tryz.func105 (by kernel_rfl) (by kernel_rfl) [p0] (by kernel_rfl) H).trans (by kernel_rfl)
def TZ:Z4:=Zs 106 60 (sub (Z1 Tryz.f106) [1,1,1,1,1,1,1]) (Zf cfg 60 106 Tryz.f106 H0) [(1,x1),(2,x2)] H
def TY:Z4:=Zs 106 60 (sub (Z1 Tryz.f106) [1,1,1,1,1,1]) (Zf cfg 60 106 Tryz.f106 H0) [(1,x1),(2,x2),(8,x8),(9,x9)] H
def TX:Z4:=Zs 106 60 (sub (Z1 Tryz.f106) [1,1,1,1,1]) (Zf cfg 60 106 Tryz.f106 H0) [(1,x1),(2,x2),(8,x8),(9,x9)] H
def WP:KL:=Zb (YH 106 60 Tryz.f106 [1,1,1,1,1]) (Zf cfg 60 106 Tryz.f106 H0)
theorem ET:ZL 60 (WP H0):=Zu (C:=cfg) (kp:=cfg.keep 106) (sub (Z1 Tryz.f106) [1,1,1,1,1]) (Zv 106 Tryz.f106 H0)
def P1:Z4:=Zs 106 60 (sub (Z1 Tryz.f106) [1,1,1,1,0,1,0,0,1,1,1]) (Zb (ZV 106 60 Tryz.f106 [1,1,1,1,0,1,0,0]) (Z7 0 (WP H0))) [(1,x1),(2,x2),(8,x8),(9,x9),(24,x24),(25,x25)] H
def Zc8:KL:=Zb (YH 106 60 Tryz.f106 [1,1,1,1,0,1,0,0,1,1,1]) (Zb (ZV 106 60 Tryz.f106 [1,1,1,1,0,1,0,0]) (Z7 0 (WP H0)))
def P2:Z4:=Zs 106 60 (sub (Z1 Tryz.f106) [1,1,1,1,0,1,0,0,1,1,0,0,1,1]) (Z7 1 (Zc8 H0)) [(1,x1),(2,x2),(8,x8),(9,x9),(10,x10),(24,x24),(25,x25)] H
def P0:Z4:=Zs 106 60 (sub (Z1 Tryz.f106) [1,1,1,1,0,1,0,0,1,1]) (Zb (ZV 106 60 Tryz.f106 [1,1,1,1,0,1,0,0]) (Z7 0 (WP H0))) [(1,x1),(2,x2),(8,x8),(9,x9),(24,x24),(25,x25),(26,x26)] H
def Uq:Z4:=Xa 106 60 (sub (Z1 Tryz.f106) [1,1,1,1,0,1,0,0]) (Z7 0 (WP H0)) [(1,x1),(2,x2),(8,x8),(9,x9),(24,x24),(25,x25)] H
def N5:Z4:=
 Z0 (ZU p0 H) fun r3=>
 Z0 (Z3 true 6 r3.1 r3.2) fun t11=>
 Z0 (Zc V4 [t11] r3.2) fun r12=>
 Z0 (Zi 6 r3.1 r12.1 r12.2) fun r_4=>
 Xl r3.1 r_4.2 fun z3 z3H=>
 Z0 (some (.fn (.func 148) [] [z3])) fun t13=>
 Z0 (Xk cfg (Za cfg) t13 [p1] z3H) fun r16=>
 Z0 (Yr cfg (Za cfg) t13 [p2] r16.2) fun r19=>
 Z0 (Zj (.slice 3) r16.1) fun t21=>
 Z0 (Zj (.slice 3) r19.1) fun t23=>
 Z0 (VO t21 t23) fun t24=>
 Uq p1 p2 r16.1 r19.1 t24 (.int .i64 0) H r19.2
theorem Hi:TZ x1 x2 H0 H =
 Z0 (Zc Ky [x1,x2] H) fun r59=>
 some (r59.1,r59.2):=Z9 [6,9,11,12,14,16] (by kernel_rfl)
theorem Hh:TY x1 x2 x8 x9 H0 H =
 Z0 (Zj (.slice 3) x8) fun t53=>
 Z0 (Zj (.slice 3) x9) fun t55=>
 Z0 (Z5 .gtr t53 t55) fun t56=>
 Zk t56
 (some ((.int .i64 1),H))
 (TZ x1 x2 H0 H):=Z9 [6,9,11,12,14,16] (by kernel_rfl)
theorem Hg:TX x1 x2 x8 x9 H0 H =
 Z0 (Zj (.slice 3) x8) fun t48=>
 Z0 (Zj (.slice 3) x9) fun t50=>
 Z0 (Z5 .lss t48 t50) fun t51=>
 Zk t51
 (some ((.int .i64 (-1)),H))
 (TY x1 x2 x8 x9 H0 H):=Z9 [6,9,11,12,14,16] (by kernel_rfl)
theorem Hl:P1 x1 x2 x8 x9 x24 x25 H0 H =
 Z0 (Z5 .add x25 (.int .i64 1)) fun t46=>
 Uq x1 x2 x8 x9 x24 t46 H0 H:=Z9 [6,9,11,12,14,16] (by kernel_rfl)
theorem Hm:P2 x1 x2 x8 x9 x10 x24 x25 H0 H =
 Z0 (Zl 1 x8 x10) fun t39=>
 Z0 (Z3 false 1 t39 H) fun t40=>
 Z0 (Zl 1 x9 x10) fun t43=>
 Z0 (Z3 false 1 t43 H) fun t44=>
 Z0 (Z5 .gtr t40 t44) fun t45=>
 Zk t45
 (some ((.int .i64 1),H))
 (P1 x1 x2 x8 x9 x24 x25 H0 H):=Z9 [6,9,11,12,14,16] (by kernel_rfl)
theorem Hk:P0 x1 x2 x8 x9 x24 x25 x26 H0 H =
 Z0 (Zl 1 x8 x25) fun t30=>
 Z0 (Z3 false 1 t30 H) fun t31=>
 Z0 (Zl 1 x9 x25) fun t34=>
 Z0 (Z3 false 1 t34 H) fun t35=>
 Z0 (Z5 .lss t31 t35) fun t36=>
 Zk t36
 (some ((.int .i64 (-1)),H))
 (P2 x1 x2 x8 x9 x25 x24 x25 H0 H):=Z9 [6,9,11,12,14,16] (by kernel_rfl)
theorem DI:Uq x1 x2 x8 x9 x24 x25 H0 H =
 Z0 (Z5 .lss x25 x24) fun t26=>
 Zk t26
 (P0 x1 x2 x8 x9 x24 x25 t26 H0 H)
 (TX x1 x2 x8 x9 H0 H):=(Zx (C:=cfg) [6,9,11,12,14,16] (Zm 0 (ET H0)) _ _).trans (by kernel_rfl)
theorem I3:V8 [p0,p1,p2] H=N5 p0 p1 p2 H:=(Zd (C:=cfg) (fn:=Tryz.f106) (c:=Z1 Tryz.f106) (n:=60) [6,9,11,12,14,16] Tryz.func106 (by kernel_rfl) (by kernel_rfl) [p0,p1,p2] (by kernel_rfl) H).trans (by kernel_rfl)
def Bb:Z4:=Zs 107 50 (sub (Z1 Tryz.f107) [1,1,1,1]) (Zf cfg 50 107 Tryz.f107 H0) [(4,x4),(5,x5),(6,x6),(7,x7),(9,x9)] H
def Qo:Z4:=Zs 107 50 (sub (Z1 Tryz.f107) [1,1,1]) (Zf cfg 50 107 Tryz.f107 H0) [(4,x4),(5,x5),(6,x6),(7,x7),(9,x9)] H
def Li:Z4:=
 Z0 (ZU p0 H) fun r4=>
 Z0 (ZU p1 r4.2) fun r5=>
 Z0 (ZU p2 r5.2) fun r6=>
 Z0 (ZU p3 r6.2) fun r7=>
 Z0 (Z3 false 1 r5.1 r7.2) fun t15=>
 Z0 (Z5 .and t15 (.int .i64 2)) fun t16=>
 Z0 (Z5 .neq t16 (.int .i64 0)) fun t17=>
 Zk t17
 (Qo r4.1 r5.1 r6.1 r7.1 (.int .i64 (-1)) H r7.2)
 (Qo r4.1 r5.1 r6.1 r7.1 (.int .i64 1) H r7.2)
theorem IJ:Bb x4 x5 x6 x7 x9 H0 H =
 Z0 (some (.fn (.func 154) [] [x5,x6,x7])) fun t36=>
 Z0 (Yr cfg (Za cfg) t36 [(.int .i64 8),(.fn (.func 155) [] [])] H) fun r38=>
 Z0 (Yr cfg (Za cfg) t36 [(.int .i64 16),(.fn (.func 157) [] [])] r38.2) fun r40=>
 Xl x4 r40.2 fun z4 z4H=>
 Z0 (some (.fn (.func 158) [] [z4])) fun t42=>
 Z0 (Yr cfg (Za cfg) t36 [(.int .i64 4),t42] z4H) fun r43=>
 Z0 (Z3 true 6 z4 r43.2) fun t45=>
 Z0 (Z3 false 1 x6 r43.2) fun t46=>
 Z0 (Z3 false 1 x7 r43.2) fun t47=>
 Z0 (Zc V8 [t45,t46,t47] r43.2) fun r48=>
 Z0 (Z5 .mul x9 r48.1) fun t49=>
 some (t49,r48.2):=Z9 [4,8] (by kernel_rfl)
theorem II:Qo x4 x5 x6 x7 x9 H0 H =
 Z0 (Z3 false 1 x5 H) fun t18=>
 Z0 (Z5 .and t18 (.int .i64 1)) fun t19=>
 Z0 (Z5 .neq t19 (.int .i64 0)) fun t20=>
 Zk t20
 (Z0 (Z3 false 1 x6 H) fun t22=>
 Z0 (Zc UU [t22] H) fun r23=>
 Z0 (ZM r23.1 0) fun t24=>
 Z0 (ZM r23.1 1) fun t25=>
 Z0 (Z3 false 1 x7 r23.2) fun t27=>
 Z0 (Zc UU [t27] r23.2) fun r28=>
 Z0 (ZM r28.1 0) fun t29=>
 Z0 (ZM r28.1 1) fun t30=>
 Z0 (Zc FE [t24,t29] r28.2) fun r34=>
 Z0 (Z5 .mul x9 r34.1) fun t35=>
 some (t35,r34.2))
 (Bb x4 x5 x6 x7 x9 H0 H):=Z9 [4,8] (by kernel_rfl)
theorem Oc:VM [p0,p1,p2,p3] H=Li p0 p1 p2 p3 H:=(Zd (C:=cfg) (fn:=Tryz.f107) (c:=Z1 Tryz.f107) (n:=50) [4,8] Tryz.func107 (by kernel_rfl) (by kernel_rfl) [p0,p1,p2,p3] (by kernel_rfl) H).trans (by kernel_rfl)
def OZ:Z4:=Zs 110 8 (sub (Z1 Tryz.f110) [1,1]) (Zf cfg 8 110 Tryz.f110 H0) [(1,x1),(2,x2)] H
def El:Z4:=
 Z0 (ZU p0 H) fun r1=>
 Z0 (some ((.ptr r1.2.length 0),r1.2++[.cells [.nils,(.int .i64 0),(.int .i64 0),(.bool false),(.bool false)]])) fun r2=>
 Z0 (Z3 true 5 r1.1 r2.2) fun t3=>
 Z0 (Zc KS [t3] r2.2) fun r4=>
 Z0 (Z5 .neq r4.1 (.int .i64 0)) fun t5=>
 Zk t5
 (Z0 ((Yn [(1,1,(.int .i64 (-1)))] [.nils,(.int .i64 0),(.int .i64 0),(.bool false),(.bool false)]).map .agg) fun t6=>
 Z0 (Zi 5 r2.1 t6 r4.2) fun r_10=>
 Z0 (Z3 true 5 r2.1 r_10.2) fun v2=>
 some (v2,r_10.2))
 (OZ r1.1 r2.1 H r4.2)
theorem Zft:OZ x1 x2 H0 H =
 Z0 (Z3 true 5 x1 H) fun t7=>
 Z0 (Zi 5 x2 t7 H) fun r_4=>
 Z0 (Z3 true 5 x2 r_4.2) fun v2=>
 some (v2,r_4.2):=Z9 [3] (by kernel_rfl)
theorem Sb:QE [p0] H=El p0 H:=(Zd (C:=cfg) (fn:=Tryz.f110) (c:=Z1 Tryz.f110) (n:=8) [3] Tryz.func110 (by kernel_rfl) (by kernel_rfl) [p0] (by kernel_rfl) H).trans (by kernel_rfl)
def SD:Z4:=Zs 111 59 (sub (Z1 Tryz.f111) [1,1,1,1]) (Zf cfg 59 111 Tryz.f111 H0) [] H
def UC:KL:=Zb (YH 111 59 Tryz.f111 [1,1,1,1]) (Zf cfg 59 111 Tryz.f111 H0)
theorem If:ZL 59 (UC H0):=Zu (C:=cfg) (kp:=cfg.keep 111) (sub (Z1 Tryz.f111) [1,1,1,1]) (Zv 111 Tryz.f111 H0)
def SF:Z4:=Zs 111 59 (sub (Z1 Tryz.f111) [1,1,1,0,1,0,0,1,1]) (Zb (ZV 111 59 Tryz.f111 [1,1,1,0,1,0,0]) (Z7 0 (UC H0))) [(2,x2),(3,x3),(4,x4),(5,x5),(9,x9)] H
def Zhy:KL:=Zb (YH 111 59 Tryz.f111 [1,1,1,0,1,0,0,1,1]) (Zb (ZV 111 59 Tryz.f111 [1,1,1,0,1,0,0]) (Z7 0 (UC H0)))
def JK:Z4:=Zs 111 59 (sub (Z1 Tryz.f111) [1,1,1,0,1,0,0,1,0,0,1,1]) (Z7 1 (Zhy H0)) [(2,x2),(3,x3),(4,x4),(5,x5),(9,x9),(10,x10)] H
def SE:Z4:=Zs 111 59 (sub (Z1 Tryz.f111) [1,1,1,0,1,0,0,1]) (Zb (ZV 111 59 Tryz.f111 [1,1,1,0,1,0,0]) (Z7 0 (UC H0))) [(2,x2),(3,x3),(4,x4),(5,x5),(9,x9)] H
def JL:Z4:=Xa 111 59 (sub (Z1 Tryz.f111) [1,1,1,0,1,0,0]) (Z7 0 (UC H0)) [(2,x2),(3,x3),(4,x4),(5,x5),(9,x9)] H
def SC:Z4:=Zs 111 59 (sub (Z1 Tryz.f111) [1,1,1]) (Zf cfg 59 111 Tryz.f111 H0) [(2,x2),(3,x3),(4,x4),(5,x5)] H
def A8:Z4:=
 Z0 (ZU p0 H) fun r4=>
 Z0 (ZU p1 r4.2) fun r5=>
 Z0 (Z3 true 5 r5.1 r5.2) fun t12=>
 Z0 (Zc QE [t12] r5.2) fun r13=>
 Z0 (Zi 5 r5.1 r13.1 r13.2) fun r_5=>
 Z0 (Z8 0 r5.1) fun t14=>
 Z0 (Z3 false 1 t14 r_5.2) fun t15=>
 Z0 (Zj (.slice 149) t15) fun t16=>
 Z0 (Z5 .eql t16 (.int .i64 0)) fun t17=>
 Zk t17
 (Z0 (Z3 true 6 r4.1 r_5.2) fun t18=>
 Z0 (Z8 2 r5.1) fun t21=>
 Z0 (Z3 false 1 t21 r_5.2) fun t22=>
 Z0 (Zc R9 [t18,p2,p3,t22] r_5.2) fun r23=>
 some (r23.1,r23.2))
 (SC p2 p3 r4.1 r5.1 H r_5.2)
theorem ZbT:SD H0 H =
 some ((.int .i64 0),H):=Z9 [4,6,7,10,13] (by kernel_rfl)
theorem ZbV:SF x2 x3 x4 x5 x9 H0 H =
 Z0 (Z5 .add x9 (.int .i64 1)) fun t30=>
 JL x2 x3 x4 x5 t30 H0 H:=Z9 [4,6,7,10,13] (by kernel_rfl)
theorem ZbW:JK x2 x3 x4 x5 x9 x10 H0 H =
 Xl x4 H fun z4 z4H=>
 Xl x5 z4H fun z5 z5H=>
 Xl x10 z5H fun z10 z10H=>
 Z0 (Yi true 6 z4) fun t42=>
 Z0 (Z3 true 5 z10 z10H) fun t44=>
 Z0 (Z8 1 z5) fun t45=>
 Z0 (Z3 false 1 t45 z10H) fun t46=>
 Z0 (Gv [x2,t44,t46] z10H) fun r47=>
 Z0 (Yi true 5 z10) fun t49=>
 Z0 (Z8 1 z5) fun t50=>
 Z0 (Yi false 1 t50) fun t51=>
 Z0 (Gv [x3,t49,t51] r47.2) fun r52=>
 Z0 (Z8 4 z10) fun t53=>
 Z0 (Yi false 1 t53) fun t54=>
 Z0 (Zc R9 [t42,r47.1,r52.1,t54] r52.2) fun r55=>
 Z0 (Z5 .neq r55.1 (.int .i64 0)) fun t57=>
 Zk t57
 (some (r55.1,r55.2))
 (SF x2 x3 z4 z5 x9 H0 r55.2):=Z9 [4,6,7,10,13] (by kernel_rfl)
theorem ZbU:SE x2 x3 x4 x5 x9 H0 H =
 Z0 (Z8 0 x5) fun t31=>
 Z0 (Z3 false 1 t31 H) fun t32=>
 Z0 (Zl 5 t32 x9) fun t34=>
 Z0 (Z3 true 5 t34 H) fun t35=>
 Z0 (some ((.ptr H.length 0),H++[.cells [(.int .i64 0),(.int .i64 0),(.int .i64 0),(.int .i64 0),(.int .i64 0)]])) fun r10=>
 Z0 (Zi 5 r10.1 t35 r10.2) fun r_12=>
 Z0 (Z8 4 r10.1) fun t36=>
 Z0 (Z3 false 1 t36 r_12.2) fun t37=>
 Z0 (Z5 .eql t37 (.int .i64 0)) fun t38=>
 Zk t38
 (Z0 (Z8 2 x5) fun t39=>
 Z0 (Z3 false 1 t39 r_12.2) fun t40=>
 Z0 (Z8 4 r10.1) fun t41=>
 Z0 (Zi 1 t41 t40 r_12.2) fun r_35=>
 JK x2 x3 x4 x5 x9 r10.1 H0 r_35.2)
 (JK x2 x3 x4 x5 x9 r10.1 H0 r_12.2):=Z9 [4,6,7,10,13] (by kernel_rfl)
theorem TR:JL x2 x3 x4 x5 x9 H0 H =
 Z0 (Z8 0 x5) fun t25=>
 Z0 (Z3 false 1 t25 H) fun t26=>
 Z0 (Zj (.slice 149) t26) fun t27=>
 Z0 (Z5 .lss x9 t27) fun t28=>
 Zk t28
 (SE x2 x3 x4 x5 x9 H0 H)
 (SD H0 H):=(Zx (C:=cfg) [4,6,7,10,13] (Zm 0 (If H0)) _ _).trans (by kernel_rfl)
theorem ZbS:SC x2 x3 x4 x5 H0 H =
 JL x2 x3 x4 x5 (.int .i64 0) H0 H:=Z9 [4,6,7,10,13] (by kernel_rfl)
theorem Zd4:Qs [p0,p1,p2,p3] H=A8 p0 p1 p2 p3 H:=(Zd (C:=cfg) (fn:=Tryz.f111) (c:=Z1 Tryz.f111) (n:=59) [4,6,7,10,13] Tryz.func111 (by kernel_rfl) (by kernel_rfl) [p0,p1,p2,p3] (by kernel_rfl) H).trans (by kernel_rfl)
def Sy:Z4:=Zs 112 23 (sub (Z1 Tryz.f112) [1,1,1]) (Zf cfg 23 112 Tryz.f112 H0) [(1,x1),(2,x2)] H
def HY:Z4:=
 Z0 (ZU p0 H) fun r3=>
 Z0 (Z3 true 6 r3.1 r3.2) fun t8=>
 Z0 (Zc QD [t8] r3.2) fun r9=>
 Z0 (Zi 6 r3.1 r9.1 r9.2) fun r_4=>
 Z0 (Z3 true 6 r3.1 r_4.2) fun t10=>
 Z0 (Zc Gu [t10,p1] r_4.2) fun r12=>
 Z0 (Z3 true 6 r3.1 r12.2) fun t13=>
 Z0 (Zc Gu [t13,p2] r12.2) fun r15=>
 Z0 (Zc KR [r12.1,r15.1] r15.2) fun r16=>
 Z0 (Z5 .neq r16.1 (.int .i64 0)) fun t18=>
 Zk t18
 (some (r16.1,r16.2))
 (Sy p1 p2 H r16.2)
theorem ZbO:Sy x1 x2 H0 H =
 Z0 (Zc Ee [x1,x2] H) fun r22=>
 some (r22.1,r22.2):=Z9 [5] (by kernel_rfl)
theorem Zd2:Qr [p0,p1,p2] H=HY p0 p1 p2 H:=(Zd (C:=cfg) (fn:=Tryz.f112) (c:=Z1 Tryz.f112) (n:=23) [5] Tryz.func112 (by kernel_rfl) (by kernel_rfl) [p0,p1,p2] (by kernel_rfl) H).trans (by kernel_rfl)
def As:Z4:=Zs 127 59 (sub (Z1 Tryz.f127) [1,1,1]) (Zf cfg 59 127 Tryz.f127 H0) [] H
def GH:KL:=Zb (YH 127 59 Tryz.f127 [1,1,1]) (Zf cfg 59 127 Tryz.f127 H0)
theorem OF:ZL 59 (GH H0):=Zu (C:=cfg) (kp:=cfg.keep 127) (sub (Z1 Tryz.f127) [1,1,1]) (Zv 127 Tryz.f127 H0)
def Tl:Z4:=Zs 127 59 (sub (Z1 Tryz.f127) [1,1,0,1,0,0,1,1]) (Zb (ZV 127 59 Tryz.f127 [1,1,0,1,0,0]) (Z7 0 (GH H0))) [(0,x0),(3,x3)] H
def Tk:Z4:=Zs 127 59 (sub (Z1 Tryz.f127) [1,1,0,1,0,0,1]) (Zb (ZV 127 59 Tryz.f127 [1,1,0,1,0,0]) (Z7 0 (GH H0))) [(0,x0),(3,x3)] H
def GI:Z4:=Xa 127 59 (sub (Z1 Tryz.f127) [1,1,0,1,0,0]) (Z7 0 (GH H0)) [(0,x0),(3,x3)] H
def Ar:Z4:=Zs 127 59 (sub (Z1 Tryz.f127) [1,1]) (Zf cfg 59 127 Tryz.f127 H0) [(0,x0)] H
def IY:Z4:=
 Z0 (Zj .string p0) fun t6=>
 Z0 (Z5 .eql t6 (.int .i64 0)) fun t7=>
 Z0 (Z6 t7 false (.tuple []) (some p0)) fun t9=>
 Z0 (Z6 t7 false (.tuple []) (Zj .string t9)) fun t10=>
 Z0 (Z6 t7 false (.tuple []) (Z5 .gtr t10 (.int .i64 32))) fun t11=>
 Z0 (Zg t7 (.bool true) t11) fun t12=>
 Z0 (Z6 t12 false (.tuple []) (some p0)) fun t14=>
 Z0 (Z6 t12 false (.tuple []) (Zr t14 (.int .i64 0))) fun t15=>
 Z0 (Z6 t12 false (.tuple []) (Z5 .geq t15 (.int .u8 48))) fun t16=>
 Z0 (Z6 t12 false (.tuple []) (some t16)) fun t17=>
 Z0 (Z6 t17 true (.tuple []) (some p0)) fun t18=>
 Z0 (Z6 t17 true (.tuple []) (Zr t18 (.int .i64 0))) fun t19=>
 Z0 (Z6 t17 true (.tuple []) (Z5 .leq t19 (.int .u8 57))) fun t20=>
 Z0 (Z6 t12 false (.tuple []) (Zg t17 t20 (.bool false))) fun t21=>
 Z0 (Zg t12 (.bool true) t21) fun t22=>
 Zk t22
 (some ((.bool false),H))
 (Ar p0 H H)
theorem Zds:As H0 H =
 some ((.bool true),H):=Z9 [3,5,6,9] (by kernel_rfl)
theorem Zdu:Tl x0 x3 H0 H =
 Z0 (Z5 .add x3 (.int .i64 1)) fun t28=>
 GI x0 t28 H0 H:=Z9 [3,5,6,9] (by kernel_rfl)
theorem Zdt:Tk x0 x3 H0 H =
 Z0 (Zr x0 x3) fun t31=>
 Z0 (Z5 .geq t31 (.int .u8 97)) fun t33=>
 Z0 (Z6 t33 true (.tuple []) (some t31)) fun t35=>
 Z0 (Z6 t33 true (.tuple []) (Z5 .leq t35 (.int .u8 122))) fun t36=>
 Z0 (Zg t33 t36 (.bool false)) fun t37=>
 Z0 (Z6 t37 false (.tuple []) (some t31)) fun t39=>
 Z0 (Z6 t37 false (.tuple []) (Z5 .geq t39 (.int .u8 65))) fun t40=>
 Z0 (Z6 t37 false (.tuple []) (some t40)) fun t41=>
 Z0 (Z6 t41 true (.tuple []) (some t31)) fun t42=>
 Z0 (Z6 t41 true (.tuple []) (Z5 .leq t42 (.int .u8 90))) fun t43=>
 Z0 (Z6 t37 false (.tuple []) (Zg t41 t43 (.bool false))) fun t44=>
 Z0 (Zg t37 (.bool true) t44) fun t45=>
 Z0 (Z6 t45 false (.tuple []) (some t31)) fun t47=>
 Z0 (Z6 t45 false (.tuple []) (Z5 .geq t47 (.int .u8 48))) fun t48=>
 Z0 (Z6 t45 false (.tuple []) (some t48)) fun t49=>
 Z0 (Z6 t49 true (.tuple []) (some t31)) fun t50=>
 Z0 (Z6 t49 true (.tuple []) (Z5 .leq t50 (.int .u8 57))) fun t51=>
 Z0 (Z6 t45 false (.tuple []) (Zg t49 t51 (.bool false))) fun t52=>
 Z0 (Zg t45 (.bool true) t52) fun t53=>
 Z0 (Z6 t53 false (.tuple []) (some t31)) fun t55=>
 Z0 (Z6 t53 false (.tuple []) (Z5 .eql t55 (.int .u8 95))) fun t56=>
 Z0 (Zg t53 (.bool true) t56) fun t57=>
 Z0 (X9 .not t57) fun t58=>
 Zk t58
 (some ((.bool false),H))
 (Tl x0 x3 H0 H):=Z9 [3,5,6,9] (by kernel_rfl)
theorem Nv:GI x0 x3 H0 H =
 Z0 (Zj .string x0) fun t25=>
 Z0 (Z5 .lss x3 t25) fun t26=>
 Zk t26
 (Tk x0 x3 H0 H)
 (As H0 H):=(Zx (C:=cfg) [3,5,6,9] (Zm 0 (OF H0)) _ _).trans (by kernel_rfl)
theorem Zdr:Ar x0 H0 H =
 GI x0 (.int .i64 0) H0 H:=Z9 [3,5,6,9] (by kernel_rfl)
theorem Zet:J9 [p0] H=IY p0 H:=(Zd (C:=cfg) (fn:=Tryz.f127) (c:=Z1 Tryz.f127) (n:=59) [3,5,6,9] Tryz.func127 (by kernel_rfl) (by kernel_rfl) [p0] (by kernel_rfl) H).trans (by kernel_rfl)
def E0:Z4:=Zs 147 16 (sub (Z1 Tryz.f147) [1,1]) (Zf cfg 16 147 Tryz.f147 H0) [(1,x1),(2,x2)] H
def FF:Z4:=
 Z0 (ZU p0 H) fun r1=>
 Z0 (some ((.ptr r1.2.length 0),r1.2++[.cells [(.str []),.nils,(.str []),(.str []),.nils,.nils]])) fun r2=>
 Z0 (Z3 true 6 r1.1 r2.2) fun t4=>
 Z0 (Zc JC [t4] r2.2) fun r5=>
 Z0 (Z5 .neq r5.1 (.int .i64 0)) fun t6=>
 Zk t6
 (Z0 (Zc PX [] r5.2) fun r7=>
 Z0 (Zi 6 r2.1 r7.1 r7.2) fun r_16=>
 Z0 (Z3 true 6 r2.1 r_16.2) fun v2=>
 some (v2,r_16.2))
 (E0 r1.1 r2.1 H r5.2)
theorem ZaT:E0 x1 x2 H0 H =
 Z0 (VN 1 8 false (.int .i64 0) (.int .i64 256) (.int .i64 256) H) fun r8=>
 Z0 (Z8 1 x1) fun t10=>
 Z0 (Z3 false 1 t10 r8.2) fun t11=>
 Z0 (Ly 1 r8.1 t11 r8.2) fun r12=>
 Z0 (Z8 1 x1) fun t14=>
 Z0 (Zi 1 t14 r8.1 r12.2) fun r_8=>
 Z0 (Z3 true 6 x1 r_8.2) fun t15=>
 Z0 (Zi 6 x2 t15 r_8.2) fun r_10=>
 Z0 (Z3 true 6 x2 r_10.2) fun v2=>
 some (v2,r_10.2):=Z9 [3] (by kernel_rfl)
theorem TG:V4 [p0] H=FF p0 H:=(Zd (C:=cfg) (fn:=Tryz.f147) (c:=Z1 Tryz.f147) (n:=16) [3] Tryz.func147 (by kernel_rfl) (by kernel_rfl) [p0] (by kernel_rfl) H).trans (by kernel_rfl)
def Ry:Z4:=
 Z0 (some ((.ptr H.length 0),H++[.cells [.nils]])) fun r4=>
 Z0 (Z3 true 6 p1 r4.2) fun t5=>
 Z0 (some (.fn (.func 150) [] [r4.1])) fun t7=>
 Z0 (T9 [t5,p0,t7] r4.2) fun r8=>
 Z0 (Z3 false 1 r4.1 r8.2) fun t9=>
 some (t9,r8.2)
theorem Sh:VK [p0,p1] H=Ry p0 p1 H:=(Zd (C:=cfg) (fn:=Tryz.f148) (c:=Z1 Tryz.f148) (n:=10) [] Tryz.func148 (by kernel_rfl) (by kernel_rfl) [p0,p1] (by kernel_rfl) H).trans (by kernel_rfl)
def SY:Z4:=Zs 149 75 (sub (Z1 Tryz.f149) [1,1,1,1,0,0,1,0,1,1,1]) (Z7 3 (Zb (ZV 149 75 Tryz.f149 [1,1,1,1,0,0]) (Z7 2 (Zf cfg 75 149 Tryz.f149 H0)))) [(1,x1),(2,x2),(3,x3),(6,x6),(9,x9),(10,x10)] H
def UI:Z4:=Zs 149 75 (sub (Z1 Tryz.f149) [1,1,1,1,0,0,1,0,1,1]) (Z7 3 (Zb (ZV 149 75 Tryz.f149 [1,1,1,1,0,0]) (Z7 2 (Zf cfg 75 149 Tryz.f149 H0)))) [(1,x1),(2,x2),(3,x3),(6,x6),(9,x9),(10,x10),(11,x11)] H
def SX:Z4:=Zs 149 75 (sub (Z1 Tryz.f149) [1,1,1,1,0,0,1]) (Zb (ZV 149 75 Tryz.f149 [1,1,1,1,0,0]) (Z7 2 (Zf cfg 75 149 Tryz.f149 H0))) [(1,x1),(2,x2),(3,x3),(6,x6),(9,x9)] H
def JS:Z4:=Xa 149 75 (sub (Z1 Tryz.f149) [1,1,1,1,0,0]) (Z7 2 (Zf cfg 75 149 Tryz.f149 H0)) [(1,x1),(2,x2),(3,x3),(6,x6),(9,x9)] H
def FU:Z4:=Zs 149 75 (sub (Z1 Tryz.f149) [1,1,1]) (Zf cfg 75 149 Tryz.f149 H0) [(1,x1),(2,x2),(3,x3),(6,x6)] H
def JR:KL:=Zb (YH 149 75 Tryz.f149 [1,1,1]) (Zf cfg 75 149 Tryz.f149 H0)
theorem Ij:ZL 75 (JR H0):=Zu (C:=cfg) (kp:=cfg.keep 149) (sub (Z1 Tryz.f149) [1,1,1]) (Zv 149 Tryz.f149 H0)
def C0:Z4:=Zs 149 75 (sub (Z1 Tryz.f149) [1,1,0,1,0,0,1,1,1]) (Zb (ZV 149 75 Tryz.f149 [1,1,0,1,0,0]) (Z7 0 (JR H0))) [(1,x1),(2,x2),(3,x3),(6,x6),(16,x16),(17,x17),(18,x18)] H
def SZ:Z4:=Zs 149 75 (sub (Z1 Tryz.f149) [1,1,0,1,0,0,1,1]) (Zb (ZV 149 75 Tryz.f149 [1,1,0,1,0,0]) (Z7 0 (JR H0))) [(1,x1),(2,x2),(3,x3),(6,x6),(16,x16),(17,x17),(18,x18),(19,x19)] H
def JT:Z4:=Xa 149 75 (sub (Z1 Tryz.f149) [1,1,0,1,0,0]) (Z7 0 (JR H0)) [(1,x1),(2,x2),(3,x3),(6,x6),(16,x16),(17,x17),(18,x18)] H
def Ab:Z4:=
 Z0 (ZU p0 H) fun r3=>
 Z0 (some ((.map r3.2.length),r3.2++[.map [] 0])) fun r14=>
 Z0 (Z8 5 r3.1) fun t15=>
 Z0 (Z3 false 1 t15 r14.2) fun t16=>
 Z0 (Zj (.slice 210) t16) fun t17=>
 JT p1 p2 r3.1 r14.1 t16 t17 (.int .i64 0) H r14.2
theorem P4:SY x1 x2 x3 x6 x9 x10 H0 H =
 Z0 (Zj .string x10) fun t73=>
 Z0 (Z5 .add x9 t73) fun t74=>
 JS x1 x2 x3 x6 t74 H0 H:=Z9 [4,6,7,9,14,15] (by kernel_rfl)
theorem P3:UI x1 x2 x3 x6 x9 x10 x11 H0 H =
 Z0 (Yr cfg (Za cfg) x2 [x10,x11] H) fun r69=>
 Z0 (X9 .not r69.1) fun t70=>
 Zk t70
 (some ((.tuple []),r69.2))
 (SY x1 x2 x3 x6 x9 x10 H0 r69.2):=Z9 [4,6,7,9,14,15] (by kernel_rfl)
theorem Zca:SX x1 x2 x3 x6 x9 H0 H =
 Z0 (Z5 .add x9 (.int .i64 1)) fun t35=>
 Z0 (ZX x1 (some x9) (some t35) none) fun t36=>
 Z0 (Z8 1 x3) fun t37=>
 Z0 (Z3 false 1 t37 H) fun t38=>
 Z0 (Zr x1 x9) fun t41=>
 Z0 (Zl 1 t38 t41) fun t42=>
 Z0 (Z3 false 1 t42 H) fun t43=>
 Z0 (Z5 .add x9 (.int .i64 2)) fun t45=>
 Z0 (Zj .string x1) fun t47=>
 Z0 (Z5 .leq t45 t47) fun t48=>
 Zk t48
 (Z0 (Z5 .add x9 (.int .i64 2)) fun t54=>
 Z0 (ZX x1 (some x9) (some t54) none) fun t55=>
 Z0 (Y6 .string (.int .i64 0) true x6 t55 H) fun t56=>
 Z0 (ZM t56 0) fun t57=>
 Z0 (ZM t56 1) fun t58=>
 Zk t58
 (Z0 (Z5 .add x9 (.int .i64 2)) fun t63=>
 Z0 (ZX x1 (some x9) (some t63) none) fun t64=>
 UI x1 x2 x3 x6 x9 t64 t57 H0 H)
 (UI x1 x2 x3 x6 x9 t36 t43 H0 H))
 (UI x1 x2 x3 x6 x9 t36 t43 H0 H):=Z9 [4,6,7,9,14,15] (by kernel_rfl)
theorem KH:JS x1 x2 x3 x6 x9 H0 H =
 Z0 (Zj .string x1) fun t30=>
 Z0 (Z5 .lss x9 t30) fun t31=>
 Zk t31
 (SX x1 x2 x3 x6 x9 H0 H)
 (some ((.tuple []),H)):=(Zx (C:=cfg) [4,6,7,9,14,15] (Zm 2 (Zv 149 Tryz.f149 H0)) _ _).trans (by kernel_rfl)
theorem Zc9:FU x1 x2 x3 x6 H0 H =
 JS x1 x2 x3 x6 (.int .i64 0) H0 H:=Z9 [4,6,7,9,14,15] (by kernel_rfl)
theorem Zcc:C0 x1 x2 x3 x6 x16 x17 x18 H0 H =
 Z0 (Z5 .add x18 (.int .i64 1)) fun t27=>
 JT x1 x2 x3 x6 x16 x17 t27 H0 H:=Z9 [4,6,7,9,14,15] (by kernel_rfl)
theorem Zcb:SZ x1 x2 x3 x6 x16 x17 x18 x19 H0 H =
 Z0 (Zl 2 x16 x18) fun t20=>
 Z0 (Z3 true 2 t20 H) fun t21=>
 Z0 (some ((.ptr H.length 0),H++[.cells [(.str []),(.int .i64 0)]])) fun r8=>
 Z0 (Zi 2 r8.1 t21 r8.2) fun r_34=>
 Z0 (Z8 0 r8.1) fun t23=>
 Z0 (Z3 false 1 t23 r_34.2) fun t24=>
 Z0 (Z8 1 r8.1) fun t25=>
 Z0 (Z3 false 1 t25 r_34.2) fun t26=>
 Z0 (Xi .string x6 t24 t26 r_34.2) fun r_39=>
 C0 x1 x2 x3 x6 x16 x17 x18 H0 r_39.2:=Z9 [4,6,7,9,14,15] (by kernel_rfl)
theorem P5:JT x1 x2 x3 x6 x16 x17 x18 H0 H =
 Z0 (Z5 .lss x18 x17) fun t19=>
 Zk t19
 (SZ x1 x2 x3 x6 x16 x17 x18 t19 H0 H)
 (FU x1 x2 x3 x6 H0 H):=(Zx (C:=cfg) [4,6,7,9,14,15] (Zm 0 (Ij H0)) _ _).trans (by kernel_rfl)
theorem Zd9:T9 [p0,p1,p2] H=Ab p0 p1 p2 H:=(Zd (C:=cfg) (fn:=Tryz.f149) (c:=Z1 Tryz.f149) (n:=75) [4,6,7,9,14,15] Tryz.func149 (by kernel_rfl) (by kernel_rfl) [p0,p1,p2] (by kernel_rfl) H).trans (by kernel_rfl)
def BN (p0 p1 p2:AV)(H:Hp):Z4:=
 Z0 (Z3 false 1 p2 H) fun t6=>
 Z0 ((Zz 1 [(0,p1)] [(.int .i64 0)]).map (.vs 1 .clip)) fun t8=>
 Z0 (ZS 1 8 t6 t8 H) fun r9=>
 Z0 (Zi 1 p2 r9.1 r9.2) fun r_4=>
 some ((.bool true),r_4.2)
theorem MJ:UW [p0,p1,p2] H=BN p0 p1 p2 H:=(Zd (C:=cfg) (fn:=Tryz.f150) (c:=Z1 Tryz.f150) (n:=10) [] Tryz.func150 (by kernel_rfl) (by kernel_rfl) [p0,p1,p2] (by kernel_rfl) H).trans (by kernel_rfl)
def TM:Z4:=
 Z0 (Zc Xt [p0,p1] H) fun r7=>
 some (r7.1,r7.2)
theorem Ct:Ky [p0,p1] H=TM p0 p1 H:=(Zd (C:=cfg) (fn:=Tryz.f151) (c:=Z1 Tryz.f151) (n:=8) [] Tryz.func151 (by kernel_rfl) (by kernel_rfl) [p0,p1] (by kernel_rfl) H).trans (by kernel_rfl)
def KE:Z4:=Zs 152 116 (sub (Z1 Tryz.f152) [1,1,1,1,1,1,1,1,1,1,1]) (Zf cfg 116 152 Tryz.f152 H0) [(9,x9),(11,x11)] H
def KD:Z4:=Zs 152 116 (sub (Z1 Tryz.f152) [1,1,1,1,1,1,1,1,1]) (Zf cfg 116 152 Tryz.f152 H0) [(5,x5),(7,x7),(8,x8),(9,x9)] H
def W3:Z4:=Zs 152 116 (sub (Z1 Tryz.f152) [1,1,1,1,1,1,1,1]) (Zf cfg 116 152 Tryz.f152 H0) [(5,x5),(6,x6),(7,x7),(8,x8),(9,x9)] H
def Um:Z4:=Zs 152 116 (sub (Z1 Tryz.f152) [1,1,1,1,1]) (Zf cfg 116 152 Tryz.f152 H0) [(0,x0),(4,x4),(5,x5)] H
def KC:Z4:=Zs 152 116 (sub (Z1 Tryz.f152) [1,1,1]) (Zf cfg 116 152 Tryz.f152 H0) [(0,x0),(4,x4)] H
def KF:KL:=Zb (YH 152 116 Tryz.f152 [1,1,1]) (Zf cfg 116 152 Tryz.f152 H0)
theorem EJ:ZL 116 (KF H0):=Zu (C:=cfg) (kp:=cfg.keep 152) (sub (Z1 Tryz.f152) [1,1,1]) (Zv 152 Tryz.f152 H0)
def TT:Z4:=Zs 152 116 (sub (Z1 Tryz.f152) [1,1,0,0,0,1]) (Zb (ZV 152 116 Tryz.f152 [1,1,0,0,0]) (Z7 0 (KF H0))) [(0,x0),(4,x4)] H
def Un:Z4:=Xa 152 116 (sub (Z1 Tryz.f152) [1,1,0,0,0]) (Z7 0 (KF H0)) [(0,x0),(4,x4)] H
def Zd7:Z4:=
 Un p0 (.int .i64 0) H H
theorem Du:KE x9 x11 H0 H =
 some ((.tuple [x11,x9]),H):=Z9 [3,4,7,14,16,19] (by kernel_rfl)
theorem CT:KD x5 x7 x8 x9 H0 H =
 Z0 (Zc BJ [x7,x8] H) fun r109=>
 Z0 (VO (.int .i64 10000000000000) r109.1) fun t110=>
 Zk x5
 (Z0 (X9 .neg t110) fun t113=>
 KE x9 t113 H0 r109.2)
 (KE x9 t110 H0 r109.2):=Z9 [3,4,7,14,16,19] (by kernel_rfl)
theorem CS:W3 x5 x6 x7 x8 x9 H0 H =
 Z0 (Z5 .eql x6 (.int .i64 0)) fun t102=>
 Z0 (Z6 t102 true (.tuple []) (some x8)) fun t104=>
 Z0 (Z6 t102 true (.tuple []) (Yq .eql t104 (.str []))) fun t105=>
 Z0 (Zg t102 t105 (.bool false)) fun t106=>
 Zk t106
 (some ((.tuple [(.int .i64 0),(.int .i64 0)]),H))
 (KD x5 x7 x8 x9 H0 H):=Z9 [3,4,7,14,16,19] (by kernel_rfl)
theorem CR:Um x0 x4 x5 H0 H =
 Z0 (ZX x0 (some x4) none none) fun t57=>
 Z0 (Zc UV [t57] H) fun r58=>
 Z0 (Z5 .add x4 r58.1) fun t63=>
 Z0 (ZX x0 (some x4) (some t63) none) fun t64=>
 Z0 (Z5 .add x4 r58.1) fun t67=>
 Z0 (Zj .string x0) fun t70=>
 Z0 (Z5 .lss t67 t70) fun t71=>
 Z0 (Z6 t71 true (.tuple []) (some x0)) fun t73=>
 Z0 (Z6 t71 true (.tuple []) (some t67)) fun t74=>
 Z0 (Z6 t71 true (.tuple []) (Zr t73 t74)) fun t75=>
 Z0 (Z6 t71 true (.tuple []) (Z5 .eql t75 (.int .u8 46))) fun t76=>
 Z0 (Zg t71 t76 (.bool false)) fun t77=>
 Zk t77
 (Z0 (Z5 .add t67 (.int .i64 1)) fun t80=>
 Z0 (ZX x0 (some t80) none none) fun t81=>
 Z0 (Zc UV [t81] r58.2) fun r82=>
 Z0 (Z5 .gtr r58.1 (.int .i64 0)) fun t84=>
 Z0 (Z6 t84 false (.tuple []) (some r82.1)) fun t86=>
 Z0 (Z6 t84 false (.tuple []) (Z5 .gtr t86 (.int .i64 0))) fun t87=>
 Z0 (Zg t84 (.bool true) t87) fun t88=>
 Zk t88
 (Z0 (Z5 .add t67 (.int .i64 1)) fun t91=>
 Z0 (Z5 .add t67 (.int .i64 1)) fun t93=>
 Z0 (Z5 .add t93 r82.1) fun t95=>
 Z0 (ZX x0 (some t91) (some t95) none) fun t96=>
 Z0 (Z5 .add (.int .i64 1) r82.1) fun t99=>
 Z0 (Z5 .add t67 t99) fun t100=>
 W3 x5 r58.1 t64 t96 t100 H0 r82.2)
 (W3 x5 r58.1 t64 (.str []) t67 H0 r82.2))
 (W3 x5 r58.1 t64 (.str []) t67 H0 r58.2):=Z9 [3,4,7,14,16,19] (by kernel_rfl)
theorem CQ:KC x0 x4 H0 H =
 Z0 (Zj .string x0) fun t32=>
 Z0 (Z5 .lss x4 t32) fun t33=>
 Z0 (Z6 t33 true (.tuple []) (some x0)) fun t35=>
 Z0 (Z6 t33 true (.tuple []) (some x4)) fun t36=>
 Z0 (Z6 t33 true (.tuple []) (Zr t35 t36)) fun t37=>
 Z0 (Z6 t33 true (.tuple []) (Z5 .eql t37 (.int .u8 45))) fun t38=>
 Z0 (Zg t33 t38 (.bool false)) fun t39=>
 Z0 (Z6 t39 false (.tuple []) (some x4)) fun t42=>
 Z0 (Z6 t39 false (.tuple []) (some x0)) fun t43=>
 Z0 (Z6 t39 false (.tuple []) (Zj .string t43)) fun t44=>
 Z0 (Z6 t39 false (.tuple []) (Z5 .lss t42 t44)) fun t45=>
 Z0 (Z6 t39 false (.tuple []) (some t45)) fun t46=>
 Z0 (Z6 t46 true (.tuple []) (some x0)) fun t47=>
 Z0 (Z6 t46 true (.tuple []) (some x4)) fun t48=>
 Z0 (Z6 t46 true (.tuple []) (Zr t47 t48)) fun t49=>
 Z0 (Z6 t46 true (.tuple []) (Z5 .eql t49 (.int .u8 43))) fun t50=>
 Z0 (Z6 t39 false (.tuple []) (Zg t46 t50 (.bool false))) fun t51=>
 Z0 (Zg t39 (.bool true) t51) fun t52=>
 Zk t52
 (Z0 (Z5 .add x4 (.int .i64 1)) fun t54=>
 Um x0 t54 t39 H0 H)
 (Um x0 x4 t39 H0 H):=Z9 [3,4,7,14,16,19] (by kernel_rfl)
theorem Dv:TT x0 x4 H0 H =
 Z0 (Z5 .add x4 (.int .i64 1)) fun t29=>
 Un x0 t29 H0 H:=Z9 [3,4,7,14,16,19] (by kernel_rfl)
theorem Dw:Un x0 x4 H0 H =
 Z0 (Zj .string x0) fun t14=>
 Z0 (Z5 .lss x4 t14) fun t15=>
 Z0 (Z6 t15 true (.tuple []) (some x0)) fun t17=>
 Z0 (Z6 t15 true (.tuple []) (some x4)) fun t18=>
 Z0 (Z6 t15 true (.tuple []) (Zr t17 t18)) fun t19=>
 Z0 (Z6 t15 true (.tuple []) (Z5 .eql t19 (.int .u8 32))) fun t20=>
 Z0 (Z6 t15 true (.tuple []) (some t20)) fun t21=>
 Z0 (Z6 t21 false (.tuple []) (some x0)) fun t22=>
 Z0 (Z6 t21 false (.tuple []) (some x4)) fun t23=>
 Z0 (Z6 t21 false (.tuple []) (Zr t22 t23)) fun t24=>
 Z0 (Z6 t21 false (.tuple []) (Z5 .eql t24 (.int .u8 9))) fun t25=>
 Z0 (Z6 t15 true (.tuple []) (Zg t21 (.bool true) t25)) fun t26=>
 Z0 (Zg t15 t26 (.bool false)) fun t27=>
 Zk t27
 (TT x0 x4 H0 H)
 (KC x0 x4 H0 H):=(Zx (C:=cfg) [3,4,7,14,16,19] (Zm 0 (EJ H0)) _ _).trans (by kernel_rfl)
theorem I1:UU [p0] H=Zd7 p0 H:=(Zd (C:=cfg) (fn:=Tryz.f152) (c:=Z1 Tryz.f152) (n:=116) [3,4,7,14,16,19] Tryz.func152 (by kernel_rfl) (by kernel_rfl) [p0] (by kernel_rfl) H).trans (by kernel_rfl)
def E7:Z4:=Zs 153 13 (sub (Z1 Tryz.f153) [1,1]) (Zf cfg 13 153 Tryz.f153 H0) [] H
def So:Z4:=
 Z0 (Z5 .lss p0 p1) fun t8=>
 Zk t8
 (some ((.int .i64 (-1)),H))
 (Z0 (Z5 .gtr p0 p1) fun t12=>
 Zk t12
 (some ((.int .i64 1),H))
 (E7 H H))
theorem Zb6:E7 H0 H =
 some ((.int .i64 0),H):=Z9 [5] (by kernel_rfl)
theorem ZbE:FE [p0,p1] H=So p0 p1 H:=(Zd (C:=cfg) (fn:=Tryz.f153) (c:=Z1 Tryz.f153) (n:=13) [5] Tryz.func153 (by kernel_rfl) (by kernel_rfl) [p0,p1] (by kernel_rfl) H).trans (by kernel_rfl)
def TJ:Z4:=
 Z0 (Z3 false 1 p2 H) fun t7=>
 Z0 (Z5 .and t7 p0) fun t9=>
 Z0 (Z5 .neq t9 (.int .i64 0)) fun t10=>
 Zk t10
 (Z0 (Z3 false 1 p3 H) fun t12=>
 Z0 (Xk cfg (Za cfg) p1 [t12] H) fun r13=>
 Z0 (Z3 false 1 p4 r13.2) fun t15=>
 Z0 (Xk cfg (Za cfg) p1 [t15] r13.2) fun r16=>
 Z0 (Zi 1 p3 r13.1 r16.2) fun r_8=>
 Z0 (Zi 1 p4 r16.1 r_8.2) fun r_9=>
 some ((.tuple []),r_9.2))
 (some ((.tuple []),H))
theorem Cq:Kv [p0,p1,p2,p3,p4] H=TJ p0 p1 p2 p3 p4 H:=(Zd (C:=cfg) (fn:=Tryz.f154) (c:=Z1 Tryz.f154) (n:=17) [] Tryz.func154 (by kernel_rfl) (by kernel_rfl) [p0,p1,p2,p3,p4] (by kernel_rfl) H).trans (by kernel_rfl)
def TK:Z4:=
 Z0 (HM Zbv [p0,(.str [32,9])] H) fun r4=>
 some (r4.1,r4.2)
theorem Cr:Kw [p0] H=TK p0 H:=(Zd (C:=cfg) (fn:=Tryz.f155) (c:=Z1 Tryz.f155) (n:=5) [] Tryz.func155 (by kernel_rfl) (by kernel_rfl) [p0] (by kernel_rfl) H).trans (by kernel_rfl)
def E6:Z4:=Zs 157 44 (sub (Z1 Tryz.f157) [1,1,1]) (Zf cfg 44 157 Tryz.f157 H0) [(3,x3)] H
def J2:KL:=Zb (YH 157 44 Tryz.f157 [1,1,1]) (Zf cfg 44 157 Tryz.f157 H0)
theorem HG:ZL 44 (J2 H0):=Zu (C:=cfg) (kp:=cfg.keep 157) (sub (Z1 Tryz.f157) [1,1,1]) (Zv 157 Tryz.f157 H0)
def U6:Z4:=Zs 157 44 (sub (Z1 Tryz.f157) [1,1,0,1,0,0,1,1,1]) (Zb (ZV 157 44 Tryz.f157 [1,1,0,1,0,0]) (Z7 0 (J2 H0))) [(0,x0),(3,x3),(7,x7),(8,x8)] H
def DU:Z4:=Zs 157 44 (sub (Z1 Tryz.f157) [1,1,0,1,0,0,1,1]) (Zb (ZV 157 44 Tryz.f157 [1,1,0,1,0,0]) (Z7 0 (J2 H0))) [(0,x0),(3,x3),(7,x7),(8,x8),(9,x9)] H
def J3:Z4:=Xa 157 44 (sub (Z1 Tryz.f157) [1,1,0,1,0,0]) (Z7 0 (J2 H0)) [(0,x0),(3,x3),(7,x7),(8,x8)] H
def Sn:Z4:=
 Z0 (some ((.ptr H.length 0),H++[.bld 192 5 []])) fun r3=>
 Z0 (Zj .string p0) fun t7=>
 J3 p0 r3.1 t7 (.int .i64 0) H r3.2
theorem Zb4:E6 x3 H0 H =
 Z0 (stringE.run [x3] H) fun r43=>
 some (r43.1,r43.2):=Z9 [4,8,9] (by kernel_rfl)
theorem T0:U6 x0 x3 x7 x8 H0 H =
 Z0 (Z5 .add x8 (.int .i64 1)) fun t42=>
 J3 x0 x3 x7 t42 H0 H:=Z9 [4,8,9] (by kernel_rfl)
theorem Zb5:DU x0 x3 x7 x8 x9 H0 H =
 Z0 (Zr x0 x8) fun t13=>
 Z0 (WB [t13] H) fun r15=>
 Z0 (Z6 r15.1 false (.tuple []) (some t13)) fun t17=>
 Z0 (Z6 r15.1 false (.tuple []) (Z5 .geq t17 (.int .u8 97))) fun t18=>
 Z0 (Z6 r15.1 false (.tuple []) (some t18)) fun t19=>
 Z0 (Z6 t19 true (.tuple []) (some t13)) fun t20=>
 Z0 (Z6 t19 true (.tuple []) (Z5 .leq t20 (.int .u8 122))) fun t21=>
 Z0 (Z6 r15.1 false (.tuple []) (Zg t19 t21 (.bool false))) fun t22=>
 Z0 (Zg r15.1 (.bool true) t22) fun t23=>
 Z0 (Z6 t23 false (.tuple []) (some t13)) fun t25=>
 Z0 (Z6 t23 false (.tuple []) (Z5 .geq t25 (.int .u8 65))) fun t26=>
 Z0 (Z6 t23 false (.tuple []) (some t26)) fun t27=>
 Z0 (Z6 t27 true (.tuple []) (some t13)) fun t28=>
 Z0 (Z6 t27 true (.tuple []) (Z5 .leq t28 (.int .u8 90))) fun t29=>
 Z0 (Z6 t23 false (.tuple []) (Zg t27 t29 (.bool false))) fun t30=>
 Z0 (Zg t23 (.bool true) t30) fun t31=>
 Z0 (Z6 t31 false (.tuple []) (some t13)) fun t33=>
 Z0 (Z6 t31 false (.tuple []) (Z5 .geq t33 (.int .u8 48))) fun t34=>
 Z0 (Z6 t31 false (.tuple []) (some t34)) fun t35=>
 Z0 (Z6 t35 true (.tuple []) (some t13)) fun t36=>
 Z0 (Z6 t35 true (.tuple []) (Z5 .leq t36 (.int .u8 57))) fun t37=>
 Z0 (Z6 t31 false (.tuple []) (Zg t35 t37 (.bool false))) fun t38=>
 Z0 (Zg t31 (.bool true) t38) fun t39=>
 Zk t39
 (Z0 (byteE.run [x3,t13] r15.2) fun r41=>
 U6 x0 x3 x7 x8 H0 r41.2)
 (U6 x0 x3 x7 x8 H0 r15.2):=Z9 [4,8,9] (by kernel_rfl)
theorem T4:J3 x0 x3 x7 x8 H0 H =
 Z0 (Z5 .lss x8 x7) fun t9=>
 Zk t9
 (DU x0 x3 x7 x8 t9 H0 H)
 (E6 x3 H0 H):=(Zx (C:=cfg) [4,8,9] (Zm 0 (HG H0)) _ _).trans (by kernel_rfl)
theorem ZbD:FC [p0] H=Sn p0 H:=(Zd (C:=cfg) (fn:=Tryz.f157) (c:=Z1 Tryz.f157) (n:=44) [4,8,9] Tryz.func157 (by kernel_rfl) (by kernel_rfl) [p0] (by kernel_rfl) H).trans (by kernel_rfl)
def TL:Z4:=
 Z0 (Z3 true 6 p1 H) fun t4=>
 Z0 (Zc FB [t4,p0] H) fun r6=>
 some (r6.1,r6.2)
theorem Cs:Kx [p0,p1] H=TL p0 p1 H:=(Zd (C:=cfg) (fn:=Tryz.f158) (c:=Z1 Tryz.f158) (n:=7) [] Tryz.func158 (by kernel_rfl) (by kernel_rfl) [p0,p1] (by kernel_rfl) H).trans (by kernel_rfl)
def Si:Z4:=
 Z0 (ZU p0 H) fun r2=>
 Z0 (Z3 true 6 r2.1 r2.2) fun t5=>
 Z0 (Zc V4 [t5] r2.2) fun r6=>
 Z0 (PN false 1 3 r6.1) fun t7=>
 Z0 (Zc BK [t7,p1] r6.2) fun r9=>
 some (r9.1,r9.2)
theorem ZbA:FB [p0,p1] H=Si p0 p1 H:=(Zd (C:=cfg) (fn:=Tryz.f159) (c:=Z1 Tryz.f159) (n:=10) [] Tryz.func159 (by kernel_rfl) (by kernel_rfl) [p0,p1] (by kernel_rfl) H).trans (by kernel_rfl)
def OX:Z4:=Zs 161 30 (sub (Z1 Tryz.f161) [1,1,1,1]) (Zf cfg 30 161 Tryz.f161 H0) [(9,x9)] H
def Dc:Z4:=Zs 161 30 (sub (Z1 Tryz.f161) [1,1,1]) (Zf cfg 30 161 Tryz.f161 H0) [(3,x3),(9,x9)] H
def Zcp:Z4:=
 Z0 (ZU p0 H) fun r4=>
 Z0 (Zc Xw [p3,(.int .i64 1)] r4.2) fun r11=>
 Zk r11.1
 (Z0 (Zc T8 [p1,p2] r11.2) fun r14=>
 Dc p3 r14.1 H r14.2)
 (Z0 (Z3 true 6 r4.1 r11.2) fun t15=>
 Z0 (Z3 true 6 r4.1 r11.2) fun t16=>
 Z0 (Zc Rb [t16,p1,p3] r11.2) fun r19=>
 Z0 (Z3 true 6 r4.1 r19.2) fun t20=>
 Z0 (Zc Rb [t20,p2,p3] r19.2) fun r23=>
 Z0 (Zc Qr [t15,r19.1,r23.1] r23.2) fun r24=>
 Dc p3 r24.1 H r24.2)
theorem Zfo:OX x9 H0 H =
 some (x9,H):=Z9 [5,7] (by kernel_rfl)
theorem Zfn:Dc x3 x9 H0 H =
 Z0 (Zc Xw [x3,(.int .i64 2)] H) fun r26=>
 Zk r26.1
 (Z0 (X9 .neg x9) fun t28=>
 some (t28,r26.2))
 (OX x9 H0 r26.2):=Z9 [5,7] (by kernel_rfl)
theorem Zhm:R9 [p0,p1,p2,p3] H=Zcp p0 p1 p2 p3 H:=(Zd (C:=cfg) (fn:=Tryz.f161) (c:=Z1 Tryz.f161) (n:=30) [5,7] Tryz.func161 (by kernel_rfl) (by kernel_rfl) [p0,p1,p2,p3] (by kernel_rfl) H).trans (by kernel_rfl)
def OM:Z4:=Zs 163 8 (sub (Z1 Tryz.f163) [1,1]) (Zf cfg 8 163 Tryz.f163 H0) [(1,x1),(2,x2)] H
def Ek:Z4:=
 Z0 (ZU p0 H) fun r1=>
 Z0 (some ((.ptr r1.2.length 0),r1.2++[.cells [(.str []),.nils,(.str []),(.str []),.nils,.nils]])) fun r2=>
 Z0 (Z3 true 6 r1.1 r2.2) fun t3=>
 Z0 (Zc R6 [t3] r2.2) fun r4=>
 Z0 (Z5 .neq r4.1 (.int .i64 0)) fun t5=>
 Zk t5
 (Z0 (Zc T7 [] r4.2) fun r6=>
 Z0 (Zi 6 r2.1 r6.1 r6.2) fun r_10=>
 Z0 (Z3 true 6 r2.1 r_10.2) fun v2=>
 some (v2,r_10.2))
 (OM r1.1 r2.1 H r4.2)
theorem Zfe:OM x1 x2 H0 H =
 Z0 (Z3 true 6 x1 H) fun t7=>
 Z0 (Zi 6 x2 t7 H) fun r_4=>
 Z0 (Z3 true 6 x2 r_4.2) fun v2=>
 some (v2,r_4.2):=Z9 [3] (by kernel_rfl)
theorem Sa:QD [p0] H=Ek p0 H:=(Zd (C:=cfg) (fn:=Tryz.f163) (c:=Z1 Tryz.f163) (n:=8) [3] Tryz.func163 (by kernel_rfl) (by kernel_rfl) [p0] (by kernel_rfl) H).trans (by kernel_rfl)
def OI:Z4:=Zs 164 46 (sub (Z1 Tryz.f164) [1,1,1,1]) (Zf cfg 46 164 Tryz.f164 H0) [] H
def OH:Z4:=Zs 164 46 (sub (Z1 Tryz.f164) [1,1,1]) (Zf cfg 46 164 Tryz.f164 H0) [(0,x0),(1,x1)] H
def Ny:Z4:=Zs 164 46 (sub (Z1 Tryz.f164) [1,1]) (Zf cfg 46 164 Tryz.f164 H0) [(0,x0),(1,x1)] H
def Jl:KL:=Zb (YH 164 46 Tryz.f164 [1,1]) (Zf cfg 46 164 Tryz.f164 H0)
theorem ZbP:ZL 46 (Jl H0):=Zu (C:=cfg) (kp:=cfg.keep 164) (sub (Z1 Tryz.f164) [1,1]) (Zv 164 Tryz.f164 H0)
def OK:Z4:=Zs 164 46 (sub (Z1 Tryz.f164) [1,0,1,0,0,1,1]) (Zb (ZV 164 46 Tryz.f164 [1,0,1,0,0]) (Z7 0 (Jl H0))) [(0,x0),(1,x1),(5,x5)] H
def ZjX:KL:=Zb (YH 164 46 Tryz.f164 [1,0,1,0,0,1,1]) (Zb (ZV 164 46 Tryz.f164 [1,0,1,0,0]) (Z7 0 (Jl H0)))
def OL:Z4:=Zs 164 46 (sub (Z1 Tryz.f164) [1,0,1,0,0,1,0,0,1]) (Z7 1 (ZjX H0)) [(0,x0),(1,x1),(5,x5)] H
def OJ:Z4:=Zs 164 46 (sub (Z1 Tryz.f164) [1,0,1,0,0,1]) (Zb (ZV 164 46 Tryz.f164 [1,0,1,0,0]) (Z7 0 (Jl H0))) [(0,x0),(1,x1),(5,x5)] H
def D9:Z4:=Xa 164 46 (sub (Z1 Tryz.f164) [1,0,1,0,0]) (Z7 0 (Jl H0)) [(0,x0),(1,x1),(5,x5)] H
def Zck:Z4:=
 D9 p0 p1 (.int .i64 0) H H
theorem Zfa:OI H0 H =
 some ((.int .i64 0),H):=Z9 [3,4,6,8,10,12] (by kernel_rfl)
theorem Zf9:OH x0 x1 H0 H =
 Z0 (Zj (.slice 3) x0) fun t42=>
 Z0 (Zj (.slice 3) x1) fun t44=>
 Z0 (Z5 .gtr t42 t44) fun t45=>
 Zk t45
 (some ((.int .i64 1),H))
 (OI H0 H):=Z9 [3,4,6,8,10,12] (by kernel_rfl)
theorem Zf8:Ny x0 x1 H0 H =
 Z0 (Zj (.slice 3) x0) fun t37=>
 Z0 (Zj (.slice 3) x1) fun t39=>
 Z0 (Z5 .lss t37 t39) fun t40=>
 Zk t40
 (some ((.int .i64 (-1)),H))
 (OH x0 x1 H0 H):=Z9 [3,4,6,8,10,12] (by kernel_rfl)
theorem Zfc:OK x0 x1 x5 H0 H =
 Z0 (Z5 .add x5 (.int .i64 1)) fun t17=>
 D9 x0 x1 t17 H0 H:=Z9 [3,4,6,8,10,12] (by kernel_rfl)
theorem Zfd:OL x0 x1 x5 H0 H =
 Z0 (Zl 1 x0 x5) fun t29=>
 Z0 (Z3 false 1 t29 H) fun t30=>
 Z0 (Zl 1 x1 x5) fun t33=>
 Z0 (Z3 false 1 t33 H) fun t34=>
 Z0 (Z5 .gtr t30 t34) fun t35=>
 Zk t35
 (some ((.int .i64 1),H))
 (OK x0 x1 x5 H0 H):=Z9 [3,4,6,8,10,12] (by kernel_rfl)
theorem Zfb:OJ x0 x1 x5 H0 H =
 Z0 (Zl 1 x0 x5) fun t20=>
 Z0 (Z3 false 1 t20 H) fun t21=>
 Z0 (Zl 1 x1 x5) fun t24=>
 Z0 (Z3 false 1 t24 H) fun t25=>
 Z0 (Z5 .lss t21 t25) fun t26=>
 Zk t26
 (some ((.int .i64 (-1)),H))
 (OL x0 x1 x5 H0 H):=Z9 [3,4,6,8,10,12] (by kernel_rfl)
theorem Lt:D9 x0 x1 x5 H0 H =
 Z0 (Zj (.slice 3) x0) fun t8=>
 Z0 (Z5 .lss x5 t8) fun t9=>
 Z0 (Z6 t9 true (.tuple []) (some x5)) fun t11=>
 Z0 (Z6 t9 true (.tuple []) (some x1)) fun t12=>
 Z0 (Z6 t9 true (.tuple []) (Zj (.slice 3) t12)) fun t13=>
 Z0 (Z6 t9 true (.tuple []) (Z5 .lss t11 t13)) fun t14=>
 Z0 (Zg t9 t14 (.bool false)) fun t15=>
 Zk t15
 (OJ x0 x1 x5 H0 H)
 (Ny x0 x1 H0 H):=(Zx (C:=cfg) [3,4,6,8,10,12] (Zm 0 (ZbP H0)) _ _).trans (by kernel_rfl)
theorem Zhh:KR [p0,p1] H=Zck p0 p1 H:=(Zd (C:=cfg) (fn:=Tryz.f164) (c:=Z1 Tryz.f164) (n:=46) [3,4,6,8,10,12] Tryz.func164 (by kernel_rfl) (by kernel_rfl) [p0,p1] (by kernel_rfl) H).trans (by kernel_rfl)
def SA:Z4:=Zs 165 42 (sub (Z1 Tryz.f165) [1,1,1]) (Zf cfg 42 165 Tryz.f165 H0) [(5,x5)] H
def FH:KL:=Zb (YH 165 42 Tryz.f165 [1,1,1]) (Zf cfg 42 165 Tryz.f165 H0)
theorem Ie:ZL 42 (FH H0):=Zu (C:=cfg) (kp:=cfg.keep 165) (sub (Z1 Tryz.f165) [1,1,1]) (Zv 165 Tryz.f165 H0)
def SB:Z4:=Zs 165 42 (sub (Z1 Tryz.f165) [1,1,0,1,0,0,1]) (Zb (ZV 165 42 Tryz.f165 [1,1,0,1,0,0]) (Z7 0 (FH H0))) [(1,x1),(2,x2),(5,x5),(6,x6)] H
def UB:Z4:=Xa 165 42 (sub (Z1 Tryz.f165) [1,1,0,1,0,0]) (Z7 0 (FH H0)) [(1,x1),(2,x2),(5,x5),(6,x6)] H
def HZ:Z4:=
 Z0 (ZU p0 H) fun r2=>
 UB p1 r2.1 .nils (.int .i64 0) H r2.2
theorem TQ:SA x5 H0 H =
 some (x5,H):=Z9 [4,10] (by kernel_rfl)
theorem ZbQ:SB x1 x2 x5 x6 H0 H =
 Z0 (Z3 true 6 x2 H) fun t12=>
 Z0 (Zc Pc [t12,x1,x6] H) fun r15=>
 Z0 (Z5 .lss r15.1 (.int .i64 0)) fun t17=>
 Zk t17
 (Z0 (Z8 1 x2) fun t19=>
 Z0 (Z3 false 1 t19 r15.2) fun t20=>
 Z0 (Zr x1 x6) fun t23=>
 Z0 (Zl 1 t20 t23) fun t24=>
 Z0 (Z3 false 1 t24 r15.2) fun t25=>
 Z0 ((Zz 1 [(0,t25)] [(.int .i64 0)]).map (.vs 1 .clip)) fun t26=>
 Z0 (ZS 1 8 x5 t26 r15.2) fun r27=>
 Z0 (Z5 .add x6 (.int .i64 1)) fun t29=>
 UB x1 x2 r27.1 t29 H0 r27.2)
 (Z0 (Z8 5 x2) fun t31=>
 Z0 (Z3 false 1 t31 r15.2) fun t32=>
 Z0 (Zl 2 t32 r15.1) fun t34=>
 Z0 (Z8 1 t34) fun t35=>
 Z0 (Z3 false 1 t35 r15.2) fun t36=>
 Z0 ((Zz 1 [(0,t36)] [(.int .i64 0)]).map (.vs 1 .clip)) fun t37=>
 Z0 (ZS 1 8 x5 t37 r15.2) fun r38=>
 Z0 (Z5 .add x6 (.int .i64 2)) fun t40=>
 UB x1 x2 r38.1 t40 H0 r38.2):=Z9 [4,10] (by kernel_rfl)
theorem KA:UB x1 x2 x5 x6 H0 H =
 Z0 (Zj .string x1) fun t10=>
 Z0 (Z5 .lss x6 t10) fun t11=>
 Zk t11
 (SB x1 x2 x5 x6 H0 H)
 (SA x5 H0 H):=(Zx (C:=cfg) [4,10] (Zm 0 (Ie H0)) _ _).trans (by kernel_rfl)
theorem Zd3:Gu [p0,p1] H=HZ p0 p1 H:=(Zd (C:=cfg) (fn:=Tryz.f165) (c:=Z1 Tryz.f165) (n:=42) [4,10] Tryz.func165 (by kernel_rfl) (by kernel_rfl) [p0,p1] (by kernel_rfl) H).trans (by kernel_rfl)
def Oq:Z4:=Zs 166 38 (sub (Z1 Tryz.f166) [1,1,1,1]) (Zf cfg 38 166 Tryz.f166 H0) [(5,x5),(6,x6)] H
def BW:KL:=Zb (YH 166 38 Tryz.f166 [1,1,1,1]) (Zf cfg 38 166 Tryz.f166 H0)
theorem ZbL:ZL 38 (BW H0):=Zu (C:=cfg) (kp:=cfg.keep 166) (sub (Z1 Tryz.f166) [1,1,1,1]) (Zv 166 Tryz.f166 H0)
def Ou:Z4:=Zs 166 38 (sub (Z1 Tryz.f166) [1,1,1,0,1,0,0,1,1]) (Zb (ZV 166 38 Tryz.f166 [1,1,1,0,1,0,0]) (Z7 2 (BW H0))) [(1,x1),(5,x5),(6,x6),(8,x8)] H
def Ot:Z4:=Zs 166 38 (sub (Z1 Tryz.f166) [1,1,1,0,1,0,0,1]) (Zb (ZV 166 38 Tryz.f166 [1,1,1,0,1,0,0]) (Z7 2 (BW H0))) [(1,x1),(5,x5),(6,x6),(8,x8)] H
def BY:Z4:=Xa 166 38 (sub (Z1 Tryz.f166) [1,1,1,0,1,0,0]) (Z7 2 (BW H0)) [(1,x1),(5,x5),(6,x6),(8,x8)] H
def Oo:Z4:=Zs 166 38 (sub (Z1 Tryz.f166) [1,1,1]) (Zf cfg 38 166 Tryz.f166 H0) [(1,x1),(5,x5),(6,x6)] H
def BX:KL:=Zb (YH 166 38 Tryz.f166 [1,1,1]) (Zf cfg 38 166 Tryz.f166 H0)
theorem ZbM:ZL 38 (BX H0):=Zu (C:=cfg) (kp:=cfg.keep 166) (sub (Z1 Tryz.f166) [1,1,1]) (Zv 166 Tryz.f166 H0)
def Ow:Z4:=Zs 166 38 (sub (Z1 Tryz.f166) [1,1,0,1,0,0,1,1]) (Zb (ZV 166 38 Tryz.f166 [1,1,0,1,0,0]) (Z7 0 (BX H0))) [(0,x0),(1,x1),(5,x5),(6,x6),(7,x7)] H
def Ov:Z4:=Zs 166 38 (sub (Z1 Tryz.f166) [1,1,0,1,0,0,1]) (Zb (ZV 166 38 Tryz.f166 [1,1,0,1,0,0]) (Z7 0 (BX H0))) [(0,x0),(1,x1),(5,x5),(6,x6),(7,x7)] H
def BZ:Z4:=Xa 166 38 (sub (Z1 Tryz.f166) [1,1,0,1,0,0]) (Z7 0 (BX H0)) [(0,x0),(1,x1),(5,x5),(6,x6),(7,x7)] H
def ZlA:Z4:=
 BZ p0 p1 .nils .nils (.int .i64 0) H H
theorem ZeW:Oq x5 x6 H0 H =
 Z0 (Zc KR [x5,x6] H) fun r37=>
 some (r37.1,r37.2):=Z9 [4,5,6,8,9,10] (by kernel_rfl)
theorem ZeY:Ou x1 x5 x6 x8 H0 H =
 Z0 (Z5 .add x8 (.int .i64 1)) fun t27=>
 BY x1 x5 x6 t27 H0 H:=Z9 [4,5,6,8,9,10] (by kernel_rfl)
theorem ZeX:Ot x1 x5 x6 x8 H0 H =
 Z0 (Zr x1 x8) fun t31=>
 Z0 (Yg .i64 t31) fun t32=>
 Z0 ((Zz 1 [(0,t32)] [(.int .i64 0)]).map (.vs 1 .clip)) fun t33=>
 Z0 (ZS 1 8 x6 t33 H) fun r34=>
 Ou x1 x5 r34.1 x8 H0 r34.2:=Z9 [4,5,6,8,9,10] (by kernel_rfl)
theorem Lq:BY x1 x5 x6 x8 H0 H =
 Z0 (Zj .string x1) fun t24=>
 Z0 (Z5 .lss x8 t24) fun t25=>
 Zk t25
 (Ot x1 x5 x6 x8 H0 H)
 (Oq x5 x6 H0 H):=(Zx (C:=cfg) [4,5,6,8,9,10] (Zm 2 (ZbL H0)) _ _).trans (by kernel_rfl)
theorem ZeV:Oo x1 x5 x6 H0 H =
 BY x1 x5 x6 (.int .i64 0) H0 H:=Z9 [4,5,6,8,9,10] (by kernel_rfl)
theorem Zf0:Ow x0 x1 x5 x6 x7 H0 H =
 Z0 (Z5 .add x7 (.int .i64 1)) fun t14=>
 BZ x0 x1 x5 x6 t14 H0 H:=Z9 [4,5,6,8,9,10] (by kernel_rfl)
theorem ZeZ:Ov x0 x1 x5 x6 x7 H0 H =
 Z0 (Zr x0 x7) fun t18=>
 Z0 (Yg .i64 t18) fun t19=>
 Z0 ((Zz 1 [(0,t19)] [(.int .i64 0)]).map (.vs 1 .clip)) fun t20=>
 Z0 (ZS 1 8 x5 t20 H) fun r21=>
 Ow x0 x1 r21.1 x6 x7 H0 r21.2:=Z9 [4,5,6,8,9,10] (by kernel_rfl)
theorem Lr:BZ x0 x1 x5 x6 x7 H0 H =
 Z0 (Zj .string x0) fun t11=>
 Z0 (Z5 .lss x7 t11) fun t12=>
 Zk t12
 (Ov x0 x1 x5 x6 x7 H0 H)
 (Oo x1 x5 x6 H0 H):=(Zx (C:=cfg) [4,5,6,8,9,10] (Zm 0 (ZbM H0)) _ _).trans (by kernel_rfl)
theorem Zhd:Ee [p0,p1] H=ZlA p0 p1 H:=(Zd (C:=cfg) (fn:=Tryz.f166) (c:=Z1 Tryz.f166) (n:=38) [4,5,6,8,9,10] Tryz.func166 (by kernel_rfl) (by kernel_rfl) [p0,p1] (by kernel_rfl) H).trans (by kernel_rfl)
def LX:Z4:=Zs 186 49 (sub (Z1 Tryz.f186) [1,1,1,1,1]) (Zf cfg 49 186 Tryz.f186 H0) [(1,x1)] H
def LW:Z4:=Zs 186 49 (sub (Z1 Tryz.f186) [1,1,1,1]) (Zf cfg 49 186 Tryz.f186 H0) [(1,x1)] H
def QW:KL:=Zb (YH 186 49 Tryz.f186 [1,1,1,1]) (Zf cfg 49 186 Tryz.f186 H0)
theorem Hf:ZL 49 (QW H0):=Zu (C:=cfg) (kp:=cfg.keep 186) (sub (Z1 Tryz.f186) [1,1,1,1]) (Zv 186 Tryz.f186 H0)
def LZ:Z4:=Zs 186 49 (sub (Z1 Tryz.f186) [1,1,1,0,1,0,0,1,1,1]) (Zb (ZV 186 49 Tryz.f186 [1,1,1,0,1,0,0]) (Z7 0 (QW H0))) [(1,x1),(27,x27),(28,x28),(29,x29)] H
def LY:Z4:=Zs 186 49 (sub (Z1 Tryz.f186) [1,1,1,0,1,0,0,1,1]) (Zb (ZV 186 49 Tryz.f186 [1,1,1,0,1,0,0]) (Z7 0 (QW H0))) [(1,x1),(27,x27),(28,x28),(29,x29),(30,x30)] H
def QX:Z4:=Xa 186 49 (sub (Z1 Tryz.f186) [1,1,1,0,1,0,0]) (Z7 0 (QW H0)) [(1,x1),(27,x27),(28,x28),(29,x29)] H
def LV:Z4:=Zs 186 49 (sub (Z1 Tryz.f186) [1,1,1]) (Zf cfg 49 186 Tryz.f186 H0) [(1,x1)] H
def LU:Z4:=Zs 186 49 (sub (Z1 Tryz.f186) [1,1]) (Zf cfg 49 186 Tryz.f186 H0) [(1,x1)] H
def Sg:Z4:=
 Z0 (ZU p0 H) fun r1=>
 Z0 (Z8 0 r1.1) fun t6=>
 Z0 (Z3 false 1 t6 r1.2) fun t7=>
 Z0 (Zc Qt [t7] r1.2) fun r8=>
 Z0 (X9 .not r8.1) fun t9=>
 Zk t9
 (some ((.int .i64 4),r8.2))
 (LU r1.1 H r8.2)
theorem ZaQ:LX x1 H0 H =
 Z0 (Z8 5 x1) fun t46=>
 Z0 (Z3 false 1 t46 H) fun t47=>
 Z0 (Zc Wl [t47] H) fun r48=>
 some (r48.1,r48.2):=Z9 [3,5,7,10,11,14] (by kernel_rfl)
theorem ZaP:LW x1 H0 H =
 Z0 (Z8 4 x1) fun t40=>
 Z0 (Z3 false 1 t40 H) fun t41=>
 Z0 (Zc Wz [t41] H) fun r42=>
 Z0 (Z5 .neq r42.1 (.int .i64 0)) fun t44=>
 Zk t44
 (some (r42.1,r42.2))
 (LX x1 H0 r42.2):=Z9 [3,5,7,10,11,14] (by kernel_rfl)
theorem ZaS:LZ x1 x27 x28 x29 H0 H =
 Z0 (Z5 .add x29 (.int .i64 1)) fun t39=>
 QX x1 x27 x28 t39 H0 H:=Z9 [3,5,7,10,11,14] (by kernel_rfl)
theorem ZaR:LY x1 x27 x28 x29 x30 H0 H =
 Z0 (Zl 1 x27 x29) fun t31=>
 Z0 (Z3 false 1 t31 H) fun t32=>
 Z0 (Z5 .lss t32 (.int .i64 0)) fun t34=>
 Z0 (Z6 t34 false (.tuple []) (some t32)) fun t36=>
 Z0 (Z6 t34 false (.tuple []) (Z5 .gtr t36 (.int .i64 65535))) fun t37=>
 Z0 (Zg t34 (.bool true) t37) fun t38=>
 Zk t38
 (some ((.int .i64 2),H))
 (LZ x1 x27 x28 x29 H0 H):=Z9 [3,5,7,10,11,14] (by kernel_rfl)
theorem RO:QX x1 x27 x28 x29 H0 H =
 Z0 (Z5 .lss x29 x28) fun t30=>
 Zk t30
 (LY x1 x27 x28 x29 t30 H0 H)
 (LW x1 H0 H):=(Zx (C:=cfg) [3,5,7,10,11,14] (Zm 0 (Hf H0)) _ _).trans (by kernel_rfl)
theorem ZaO:LV x1 H0 H =
 Z0 (Z8 1 x1) fun t26=>
 Z0 (Z3 false 1 t26 H) fun t27=>
 Z0 (Zj (.slice 3) t27) fun t28=>
 QX x1 t27 t28 (.int .i64 0) H0 H:=Z9 [3,5,7,10,11,14] (by kernel_rfl)
theorem ZaN:LU x1 H0 H =
 Z0 (Z8 1 x1) fun t10=>
 Z0 (Z3 false 1 t10 H) fun t11=>
 Z0 (Zj (.slice 3) t11) fun t12=>
 Z0 (Z5 .neq t12 (.int .i64 256)) fun t13=>
 Z0 (Z6 t13 false (.tuple []) (Z8 2 x1)) fun t15=>
 Z0 (Z6 t13 false (.tuple []) (Z3 false 1 t15 H)) fun t16=>
 Z0 (Z6 t13 false (.tuple []) (Zj .string t16)) fun t17=>
 Z0 (Z6 t13 false (.tuple []) (Z5 .neq t17 (.int .i64 256))) fun t18=>
 Z0 (Zg t13 (.bool true) t18) fun t19=>
 Z0 (Z6 t19 false (.tuple []) (Z8 3 x1)) fun t21=>
 Z0 (Z6 t19 false (.tuple []) (Z3 false 1 t21 H)) fun t22=>
 Z0 (Z6 t19 false (.tuple []) (Zj .string t22)) fun t23=>
 Z0 (Z6 t19 false (.tuple []) (Z5 .neq t23 (.int .i64 256))) fun t24=>
 Z0 (Zg t19 (.bool true) t24) fun t25=>
 Zk t25
 (some ((.int .i64 2),H))
 (LV x1 H0 H):=Z9 [3,5,7,10,11,14] (by kernel_rfl)
theorem Zbz:JC [p0] H=Sg p0 H:=(Zd (C:=cfg) (fn:=Tryz.f186) (c:=Z1 Tryz.f186) (n:=49) [3,5,7,10,11,14] Tryz.func186 (by kernel_rfl) (by kernel_rfl) [p0] (by kernel_rfl) H).trans (by kernel_rfl)
def GV:Z4:=
 Z0 (Zar .cmp [p0,p1] H) fun r7=>
 some (r7.1,r7.2)
theorem JF:Xt [p0,p1] H=GV p0 p1 H:=(Zd (C:=cfg) (fn:=Tryz.f188) (c:=Z1 Tryz.f188) (n:=8) [] Tryz.func188 (by kernel_rfl) (by kernel_rfl) [p0,p1] (by kernel_rfl) H).trans (by kernel_rfl)
def TU:Z4:=Zs 189 23 (sub (Z1 Tryz.f189) [1,1,1]) (Zf cfg 23 189 Tryz.f189 H0) [(3,x3)] H
def KG:KL:=Zb (YH 189 23 Tryz.f189 [1,1,1]) (Zf cfg 23 189 Tryz.f189 H0)
theorem EK:ZL 23 (KG H0):=Zu (C:=cfg) (kp:=cfg.keep 189) (sub (Z1 Tryz.f189) [1,1,1]) (Zv 189 Tryz.f189 H0)
def TW:Z4:=Zs 189 23 (sub (Z1 Tryz.f189) [1,1,0,0,0,1]) (Zb (ZV 189 23 Tryz.f189 [1,1,0,0,0]) (Z7 0 (KG H0))) [(0,x0),(3,x3)] H
def Uo:Z4:=Xa 189 23 (sub (Z1 Tryz.f189) [1,1,0,0,0]) (Z7 0 (KG H0)) [(0,x0),(3,x3)] H
def Zd8:Z4:=
 Uo p0 (.int .i64 0) H H
theorem Q3:TU x3 H0 H =
 some (x3,H):=Z9 [3,4] (by kernel_rfl)
theorem CU:TW x0 x3 H0 H =
 Z0 (Z5 .add x3 (.int .i64 1)) fun t21=>
 Uo x0 t21 H0 H:=Z9 [3,4] (by kernel_rfl)
theorem Dx:Uo x0 x3 H0 H =
 Z0 (Zj .string x0) fun t6=>
 Z0 (Z5 .lss x3 t6) fun t7=>
 Z0 (Z6 t7 true (.tuple []) (some x0)) fun t9=>
 Z0 (Z6 t7 true (.tuple []) (some x3)) fun t10=>
 Z0 (Z6 t7 true (.tuple []) (Zr t9 t10)) fun t11=>
 Z0 (Z6 t7 true (.tuple []) (Z5 .geq t11 (.int .u8 48))) fun t12=>
 Z0 (Zg t7 t12 (.bool false)) fun t13=>
 Z0 (Z6 t13 true (.tuple []) (some x0)) fun t15=>
 Z0 (Z6 t13 true (.tuple []) (some x3)) fun t16=>
 Z0 (Z6 t13 true (.tuple []) (Zr t15 t16)) fun t17=>
 Z0 (Z6 t13 true (.tuple []) (Z5 .leq t17 (.int .u8 57))) fun t18=>
 Z0 (Zg t13 t18 (.bool false)) fun t19=>
 Zk t19
 (TW x0 x3 H0 H)
 (TU x3 H0 H):=(Zx (C:=cfg) [3,4] (Zm 0 (EK H0)) _ _).trans (by kernel_rfl)
theorem I2:UV [p0] H=Zd8 p0 H:=(Zd (C:=cfg) (fn:=Tryz.f189) (c:=Z1 Tryz.f189) (n:=23) [3,4] Tryz.func189 (by kernel_rfl) (by kernel_rfl) [p0] (by kernel_rfl) H).trans (by kernel_rfl)
def NT:Z4:=Zs 190 29 (sub (Z1 Tryz.f190) [1,1,1]) (Zf cfg 29 190 Tryz.f190 H0) [(1,x1),(5,x5)] H
def Q4:KL:=Zb (YH 190 29 Tryz.f190 [1,1,1]) (Zf cfg 29 190 Tryz.f190 H0)
theorem SU:ZL 29 (Q4 H0):=Zu (C:=cfg) (kp:=cfg.keep 190) (sub (Z1 Tryz.f190) [1,1,1]) (Zv 190 Tryz.f190 H0)
def NV:Z4:=Zs 190 29 (sub (Z1 Tryz.f190) [1,1,0,1,0,0,1,1,1]) (Zb (ZV 190 29 Tryz.f190 [1,1,0,1,0,0]) (Z7 0 (Q4 H0))) [(0,x0),(1,x1),(5,x5),(8,x8),(9,x9)] H
def NU:Z4:=Zs 190 29 (sub (Z1 Tryz.f190) [1,1,0,1,0,0,1,1]) (Zb (ZV 190 29 Tryz.f190 [1,1,0,1,0,0]) (Z7 0 (Q4 H0))) [(0,x0),(1,x1),(5,x5),(8,x8),(9,x9),(10,x10)] H
def Q5:Z4:=Xa 190 29 (sub (Z1 Tryz.f190) [1,1,0,1,0,0]) (Z7 0 (Q4 H0)) [(0,x0),(1,x1),(5,x5),(8,x8),(9,x9)] H
def Lb:Z4:=
 Z0 (Zj .string p0) fun t8=>
 Q5 p0 p1 (.int .i64 0) t8 (.int .i64 0) H H
theorem Ig:NT x1 x5 H0 H =
 Z0 (Z5 .mul x5 (.int .i64 10000)) fun t24=>
 Z0 (Zc Ja [x1] H) fun r26=>
 Z0 (Z5 .add t24 r26.1) fun t27=>
 Z0 (VO (.int .i64 10000000000001) t27) fun t28=>
 some (t28,r26.2):=Z9 [4,8,9] (by kernel_rfl)
theorem Ii:NV x0 x1 x5 x8 x9 H0 H =
 Z0 (Z5 .add x9 (.int .i64 1)) fun t22=>
 Q5 x0 x1 x5 x8 t22 H0 H:=Z9 [4,8,9] (by kernel_rfl)
theorem Ih:NU x0 x1 x5 x8 x9 x10 H0 H =
 Z0 (Z5 .mul (.int .i64 10) x5) fun t13=>
 Z0 (Zr x0 x9) fun t16=>
 Z0 (Z5 .sub t16 (.int .u8 48)) fun t17=>
 Z0 (Yg .i64 t17) fun t18=>
 Z0 (Z5 .add t13 t18) fun t19=>
 Z0 (Z5 .gtr t19 (.int .i64 1000000000)) fun t21=>
 Zk t21
 (some ((.int .i64 10000000000001),H))
 (NV x0 x1 t19 x8 x9 H0 H):=Z9 [4,8,9] (by kernel_rfl)
theorem Fe:Q5 x0 x1 x5 x8 x9 H0 H =
 Z0 (Z5 .lss x9 x8) fun t10=>
 Zk t10
 (NU x0 x1 x5 x8 x9 t10 H0 H)
 (NT x1 x5 H0 H):=(Zx (C:=cfg) [4,8,9] (Zm 0 (SU H0)) _ _).trans (by kernel_rfl)
theorem O2:BJ [p0,p1] H=Lb p0 p1 H:=(Zd (C:=cfg) (fn:=Tryz.f190) (c:=Z1 Tryz.f190) (n:=29) [4,8,9] Tryz.func190 (by kernel_rfl) (by kernel_rfl) [p0,p1] (by kernel_rfl) H).trans (by kernel_rfl)
def M5:Z4:=Zs 197 26 (sub (Z1 Tryz.f197) [1,1,1]) (Zf cfg 26 197 Tryz.f197 H0) [(5,x5)] H
def Q8:KL:=Zb (YH 197 26 Tryz.f197 [1,1,1]) (Zf cfg 26 197 Tryz.f197 H0)
theorem C1:ZL 26 (Q8 H0):=Zu (C:=cfg) (kp:=cfg.keep 197) (sub (Z1 Tryz.f197) [1,1,1]) (Zv 197 Tryz.f197 H0)
def M7:Z4:=Zs 197 26 (sub (Z1 Tryz.f197) [1,1,0,1,0,0,1,1,1]) (Zb (ZV 197 26 Tryz.f197 [1,1,0,1,0,0]) (Z7 0 (Q8 H0))) [(0,x0),(5,x5),(10,x10),(11,x11)] H
def M6:Z4:=Zs 197 26 (sub (Z1 Tryz.f197) [1,1,0,1,0,0,1,1]) (Zb (ZV 197 26 Tryz.f197 [1,1,0,1,0,0]) (Z7 0 (Q8 H0))) [(0,x0),(5,x5),(10,x10),(11,x11),(12,x12)] H
def Q9:Z4:=Xa 197 26 (sub (Z1 Tryz.f197) [1,1,0,1,0,0]) (Z7 0 (Q8 H0)) [(0,x0),(5,x5),(10,x10),(11,x11)] H
def Lc:Z4:=
 Z0 (CP p1 H) fun r8=>
 Z0 (Zj (.slice 5) r8.1) fun t10=>
 Q9 p0 r8.1 t10 (.int .i64 0) H r8.2
theorem Ik:M5 x5 H0 H =
 Z0 (UE x5 H) fun t25=>
 some (t25,H):=Z9 [4,6,7] (by kernel_rfl)
theorem Im:M7 x0 x5 x10 x11 H0 H =
 Z0 (Z5 .add x11 (.int .i64 1)) fun t23=>
 Q9 x0 x5 x10 t23 H0 H:=Z9 [4,6,7] (by kernel_rfl)
theorem Il:M6 x0 x5 x10 x11 x12 H0 H =
 Z0 (Zl 1 x5 x11) fun t19=>
 Z0 (Z3 false 1 t19 H) fun t20=>
 Z0 (Zr x0 t20) fun t21=>
 Z0 (Zl 1 x5 x11) fun t22=>
 Z0 (Zi 1 t22 t21 H) fun r_10=>
 M7 x0 x5 x10 x11 H0 r_10.2:=Z9 [4,6,7] (by kernel_rfl)
theorem Ff:Q9 x0 x5 x10 x11 H0 H =
 Z0 (Z5 .lss x11 x10) fun t12=>
 Zk t12
 (M6 x0 x5 x10 x11 t12 H0 H)
 (M5 x5 H0 H):=(Zx (C:=cfg) [4,6,7] (Zm 0 (C1 H0)) _ _).trans (by kernel_rfl)
theorem O4:BK [p0,p1] H=Lc p0 p1 H:=(Zd (C:=cfg) (fn:=Tryz.f197) (c:=Z1 Tryz.f197) (n:=26) [4,6,7] Tryz.func197 (by kernel_rfl) (by kernel_rfl) [p0,p1] (by kernel_rfl) H).trans (by kernel_rfl)
def SL:Z4:=Zs 199 25 (sub (Z1 Tryz.f199) [1,1,1,1,1]) (Zf cfg 25 199 Tryz.f199 H0) [] H
def SK:Z4:=Zs 199 25 (sub (Z1 Tryz.f199) [1,1,1,1]) (Zf cfg 25 199 Tryz.f199 H0) [(5,x5),(7,x7)] H
def Aa:Z4:=
 Z0 (Zc BG [p0] H) fun r11=>
 Z0 (ZM r11.1 0) fun t12=>
 Z0 (ZM r11.1 1) fun t13=>
 Z0 (Zc BG [p1] r11.2) fun r16=>
 Z0 (ZM r16.1 0) fun t17=>
 Z0 (ZM r16.1 1) fun t18=>
 Z0 (Z5 .lss t12 t17) fun t21=>
 Zk t21
 (some ((.int .i64 (-1)),r16.2))
 (SK t12 t17 H r16.2)
theorem Zc0:SL H0 H =
 some ((.int .i64 0),H):=Z9 [5,7] (by kernel_rfl)
theorem TS:SK x5 x7 H0 H =
 Z0 (Z5 .gtr x5 x7) fun t24=>
 Zk t24
 (some ((.int .i64 1),H))
 (SL H0 H):=Z9 [5,7] (by kernel_rfl)
theorem Zd6:T8 [p0,p1] H=Aa p0 p1 H:=(Zd (C:=cfg) (fn:=Tryz.f199) (c:=Z1 Tryz.f199) (n:=25) [5,7] Tryz.func199 (by kernel_rfl) (by kernel_rfl) [p0,p1] (by kernel_rfl) H).trans (by kernel_rfl)
def NH:Z4:=Zs 200 31 (sub (Z1 Tryz.f200) [1,1,1,1]) (Zf cfg 31 200 Tryz.f200 H0) [(1,x1)] H
def Dd:Z4:=Zs 200 31 (sub (Z1 Tryz.f200) [1,1,1]) (Zf cfg 31 200 Tryz.f200 H0) [(1,x1),(2,x2),(3,x3)] H
def NG:Z4:=Zs 200 31 (sub (Z1 Tryz.f200) [1,1]) (Zf cfg 31 200 Tryz.f200 H0) [(1,x1),(2,x2),(3,x3)] H
def NI:KL:=Zb (YH 200 31 Tryz.f200 [1,1]) (Zf cfg 31 200 Tryz.f200 H0)
theorem Zc1:ZL 31 (NI H0):=Zu (C:=cfg) (kp:=cfg.keep 200) (sub (Z1 Tryz.f200) [1,1]) (Zv 200 Tryz.f200 H0)
def OY:Z4:=Zs 200 31 (sub (Z1 Tryz.f200) [1,0,0,0,1]) (Zb (ZV 200 31 Tryz.f200 [1,0,0,0]) (Z7 0 (NI H0))) [(1,x1),(2,x2),(3,x3)] H
def De:Z4:=Xa 200 31 (sub (Z1 Tryz.f200) [1,0,0,0]) (Z7 0 (NI H0)) [(1,x1),(2,x2),(3,x3)] H
def Zcr:Z4:=
 Z0 (ZU p0 H) fun r3=>
 De p1 p2 r3.1 H r3.2
theorem Lv:NH x1 H0 H =
 some (x1,H):=Z9 [2,3,5,7] (by kernel_rfl)
theorem Zfr:Dd x1 x2 x3 H0 H =
 Z0 (Zc Xw [x2,(.int .i64 4)] H) fun r26=>
 Zk r26.1
 (Z0 (Z3 true 6 x3 r26.2) fun t27=>
 Z0 (Zc Ef [t27,x1] r26.2) fun r29=>
 NH r29.1 H0 r29.2)
 (NH x1 H0 r26.2):=Z9 [2,3,5,7] (by kernel_rfl)
theorem Zfq:NG x1 x2 x3 H0 H =
 Z0 (Zc Xw [x2,(.int .i64 16)] H) fun r22=>
 Zk r22.1
 (Z0 (Zc Cl [x1] r22.2) fun r24=>
 Dd r24.1 x2 x3 H0 r24.2)
 (Dd x1 x2 x3 H0 r22.2):=Z9 [2,3,5,7] (by kernel_rfl)
theorem Zfs:OY x1 x2 x3 H0 H =
 Z0 (ZX x1 (some (.int .i64 1)) none none) fun t20=>
 De t20 x2 x3 H0 H:=Z9 [2,3,5,7] (by kernel_rfl)
theorem Lw:De x1 x2 x3 H0 H =
 Z0 (Zc Xw [x2,(.int .i64 8)] H) fun r8=>
 Z0 (Z6 r8.1 true (.tuple []) (some x1)) fun t10=>
 Z0 (Z6 r8.1 true (.tuple []) (Zj .string t10)) fun t11=>
 Z0 (Z6 r8.1 true (.tuple []) (Z5 .gtr t11 (.int .i64 0))) fun t12=>
 Z0 (Zg r8.1 t12 (.bool false)) fun t13=>
 Z0 (Z6 t13 true (.tuple []) (some x1)) fun t15=>
 Z0 (Z6 t13 true (.tuple []) (Zr t15 (.int .i64 0))) fun t16=>
 Z0 (Z6 t13 true ((.tuple []),r8.2) (U8 [t16] r8.2)) fun r17=>
 Z0 (Zg t13 r17.1 (.bool false)) fun t18=>
 Zk t18
 (OY x1 x2 x3 H0 r17.2)
 (NG x1 x2 x3 H0 r17.2):=(Zx (C:=cfg) [2,3,5,7] (Zm 0 (Zc1 H0)) _ _).trans (by kernel_rfl)
theorem Zho:Rb [p0,p1,p2] H=Zcr p0 p1 p2 H:=(Zd (C:=cfg) (fn:=Tryz.f200) (c:=Z1 Tryz.f200) (n:=31) [2,3,5,7] Tryz.func200 (by kernel_rfl) (by kernel_rfl) [p0,p1,p2] (by kernel_rfl) H).trans (by kernel_rfl)
def OB:Z4:=Zs 204 43 (sub (Z1 Tryz.f204) [1,1,1,1,1,1]) (Zf cfg 43 204 Tryz.f204 H0) [(1,x1)] H
def OA:Z4:=Zs 204 43 (sub (Z1 Tryz.f204) [1,1,1,1,1]) (Zf cfg 43 204 Tryz.f204 H0) [(1,x1)] H
def Oz:Z4:=Zs 204 43 (sub (Z1 Tryz.f204) [1,1,1,1]) (Zf cfg 43 204 Tryz.f204 H0) [(1,x1)] H
def D1:KL:=Zb (YH 204 43 Tryz.f204 [1,1,1,1]) (Zf cfg 43 204 Tryz.f204 H0)
theorem ZbN:ZL 43 (D1 H0):=Zu (C:=cfg) (kp:=cfg.keep 204) (sub (Z1 Tryz.f204) [1,1,1,1]) (Zv 204 Tryz.f204 H0)
def OD:Z4:=Zs 204 43 (sub (Z1 Tryz.f204) [1,1,1,0,1,0,0,1,1]) (Zb (ZV 204 43 Tryz.f204 [1,1,1,0,1,0,0]) (Z7 0 (D1 H0))) [(1,x1),(3,x3)] H
def OC:Z4:=Zs 204 43 (sub (Z1 Tryz.f204) [1,1,1,0,1,0,0,1]) (Zb (ZV 204 43 Tryz.f204 [1,1,1,0,1,0,0]) (Z7 0 (D1 H0))) [(1,x1),(3,x3)] H
def D2:Z4:=Xa 204 43 (sub (Z1 Tryz.f204) [1,1,1,0,1,0,0]) (Z7 0 (D1 H0)) [(1,x1),(3,x3)] H
def Oy:Z4:=Zs 204 43 (sub (Z1 Tryz.f204) [1,1,1]) (Zf cfg 43 204 Tryz.f204 H0) [(1,x1)] H
def Ox:Z4:=Zs 204 43 (sub (Z1 Tryz.f204) [1,1]) (Zf cfg 43 204 Tryz.f204 H0) [(1,x1)] H
def Zch:Z4:=
 Z0 (ZU p0 H) fun r1=>
 Z0 (Z8 0 r1.1) fun t5=>
 Z0 (Z3 false 1 t5 r1.2) fun t6=>
 Z0 (Zc J9 [t6] r1.2) fun r7=>
 Z0 (X9 .not r7.1) fun t8=>
 Zk t8
 (some ((.int .i64 4),r7.2))
 (Ox r1.1 H r7.2)
theorem Zf5:OB x1 H0 H =
 Z0 (Z8 5 x1) fun t40=>
 Z0 (Z3 false 1 t40 H) fun t41=>
 Z0 (Zc Vo [t41] H) fun r42=>
 some (r42.1,r42.2):=Z9 [3,5,7,8,10,12,15] (by kernel_rfl)
theorem Zf4:OA x1 H0 H =
 Z0 (Z8 4 x1) fun t34=>
 Z0 (Z3 false 1 t34 H) fun t35=>
 Z0 (Zc VJ [t35] H) fun r36=>
 Z0 (Z5 .neq r36.1 (.int .i64 0)) fun t38=>
 Zk t38
 (some (r36.1,r36.2))
 (OB x1 H0 r36.2):=Z9 [3,5,7,8,10,12,15] (by kernel_rfl)
theorem Zf3:Oz x1 H0 H =
 Z0 (Z8 2 x1) fun t24=>
 Z0 (Z3 false 1 t24 H) fun t25=>
 Z0 (Zj .string t25) fun t26=>
 Z0 (Z5 .neq t26 (.int .i64 256)) fun t27=>
 Z0 (Z6 t27 false (.tuple []) (Z8 3 x1)) fun t29=>
 Z0 (Z6 t27 false (.tuple []) (Z3 false 1 t29 H)) fun t30=>
 Z0 (Z6 t27 false (.tuple []) (Zj .string t30)) fun t31=>
 Z0 (Z6 t27 false (.tuple []) (Z5 .neq t31 (.int .i64 256))) fun t32=>
 Z0 (Zg t27 (.bool true) t32) fun t33=>
 Zk t33
 (some ((.int .i64 2),H))
 (OA x1 H0 H):=Z9 [3,5,7,8,10,12,15] (by kernel_rfl)
theorem Zf7:OD x1 x3 H0 H =
 Z0 (Z5 .add x3 (.int .i64 1)) fun t16=>
 D2 x1 t16 H0 H:=Z9 [3,5,7,8,10,12,15] (by kernel_rfl)
theorem Zf6:OC x1 x3 H0 H =
 Z0 (Z8 1 x1) fun t17=>
 Z0 (Z3 false 1 t17 H) fun t18=>
 Z0 (Zl 1 t18 x3) fun t20=>
 Z0 (Z3 false 1 t20 H) fun t21=>
 Z0 (Zc KQ [t21] H) fun r22=>
 Z0 (X9 .not r22.1) fun t23=>
 Zk t23
 (some ((.int .i64 2),r22.2))
 (OD x1 x3 H0 r22.2):=Z9 [3,5,7,8,10,12,15] (by kernel_rfl)
theorem Ls:D2 x1 x3 H0 H =
 Z0 (Z5 .lss x3 (.int .i64 256)) fun t14=>
 Zk t14
 (OC x1 x3 H0 H)
 (Oz x1 H0 H):=(Zx (C:=cfg) [3,5,7,8,10,12,15] (Zm 0 (ZbN H0)) _ _).trans (by kernel_rfl)
theorem Zf2:Oy x1 H0 H =
 D2 x1 (.int .i64 0) H0 H:=Z9 [3,5,7,8,10,12,15] (by kernel_rfl)
theorem Zf1:Ox x1 H0 H =
 Z0 (Z8 1 x1) fun t9=>
 Z0 (Z3 false 1 t9 H) fun t10=>
 Z0 (Zj (.slice 3) t10) fun t11=>
 Z0 (Z5 .neq t11 (.int .i64 256)) fun t12=>
 Zk t12
 (some ((.int .i64 2),H))
 (Oy x1 H0 H):=Z9 [3,5,7,8,10,12,15] (by kernel_rfl)
theorem Zhe:R6 [p0] H=Zch p0 H:=(Zd (C:=cfg) (fn:=Tryz.f204) (c:=Z1 Tryz.f204) (n:=43) [3,5,7,8,10,12,15] Tryz.func204 (by kernel_rfl) (by kernel_rfl) [p0] (by kernel_rfl) H).trans (by kernel_rfl)
def Zcz:Z4:=Zs 205 35 (sub (Z1 Tryz.f205) [1,1]) (Zf cfg 35 205 Tryz.f205 H0) [] H
def Rf:KL:=Zb (YH 205 35 Tryz.f205 [1,1]) (Zf cfg 35 205 Tryz.f205 H0)
theorem Zdv:ZL 35 (Rf H0):=Zu (C:=cfg) (kp:=cfg.keep 205) (sub (Z1 Tryz.f205) [1,1]) (Zv 205 Tryz.f205 H0)
def ZcB:Z4:=Zs 205 35 (sub (Z1 Tryz.f205) [1,0,1,0,0,1,1]) (Zb (ZV 205 35 Tryz.f205 [1,0,1,0,0]) (Z7 0 (Rf H0))) [(1,x1),(2,x2),(3,x3),(7,x7)] H
def ZcA:Z4:=Zs 205 35 (sub (Z1 Tryz.f205) [1,0,1,0,0,1]) (Zb (ZV 205 35 Tryz.f205 [1,0,1,0,0]) (Z7 0 (Rf H0))) [(1,x1),(2,x2),(3,x3),(7,x7)] H
def Rg:Z4:=Xa 205 35 (sub (Z1 Tryz.f205) [1,0,1,0,0]) (Z7 0 (Rf H0)) [(1,x1),(2,x2),(3,x3),(7,x7)] H
def Zeu:Z4:=
 Z0 (ZU p0 H) fun r3=>
 Rg p1 p2 r3.1 (.int .i64 0) H r3.2
theorem Zhw:Zcz H0 H =
 some ((.int .i64 (-1)),H):=Z9 [3,4,6] (by kernel_rfl)
theorem FG:ZcB x1 x2 x3 x7 H0 H =
 Z0 (Z5 .add x7 (.int .i64 1)) fun t14=>
 Rg x1 x2 x3 t14 H0 H:=Z9 [3,4,6] (by kernel_rfl)
theorem Zhx:ZcA x1 x2 x3 x7 H0 H =
 Z0 (Z5 .add x2 (.int .i64 2)) fun t16=>
 Z0 (Zj .string x1) fun t18=>
 Z0 (Z5 .leq t16 t18) fun t19=>
 Z0 (Z6 t19 true (.tuple []) (some x1)) fun t21=>
 Z0 (Z6 t19 true (.tuple []) (some x2)) fun t22=>
 Z0 (Z6 t19 true (.tuple []) (some x2)) fun t23=>
 Z0 (Z6 t19 true (.tuple []) (Z5 .add t23 (.int .i64 2))) fun t24=>
 Z0 (Z6 t19 true (.tuple []) (ZX t21 (some t22) (some t24) none)) fun t25=>
 Z0 (Z6 t19 true (.tuple []) (Z8 5 x3)) fun t26=>
 Z0 (Z6 t19 true (.tuple []) (Z3 false 1 t26 H)) fun t27=>
 Z0 (Z6 t19 true (.tuple []) (some x7)) fun t28=>
 Z0 (Z6 t19 true (.tuple []) (Zl 2 t27 t28)) fun t29=>
 Z0 (Z6 t19 true (.tuple []) (Z8 0 t29)) fun t30=>
 Z0 (Z6 t19 true (.tuple []) (Z3 false 1 t30 H)) fun t31=>
 Z0 (Z6 t19 true (.tuple []) (Yq .eql t25 t31)) fun t32=>
 Z0 (Zg t19 t32 (.bool false)) fun t33=>
 Zk t33
 (some (x7,H))
 (ZcB x1 x2 x3 x7 H0 H):=Z9 [3,4,6] (by kernel_rfl)
theorem Sz:Rg x1 x2 x3 x7 H0 H =
 Z0 (Z8 5 x3) fun t9=>
 Z0 (Z3 false 1 t9 H) fun t10=>
 Z0 (Zj (.slice 210) t10) fun t11=>
 Z0 (Z5 .lss x7 t11) fun t12=>
 Zk t12
 (ZcA x1 x2 x3 x7 H0 H)
 (Zcz H0 H):=(Zx (C:=cfg) [3,4,6] (Zm 0 (Zdv H0)) _ _).trans (by kernel_rfl)
theorem ZiZ:Pc [p0,p1,p2] H=Zeu p0 p1 p2 H:=(Zd (C:=cfg) (fn:=Tryz.f205) (c:=Z1 Tryz.f205) (n:=35) [3,4,6] Tryz.func205 (by kernel_rfl) (by kernel_rfl) [p0,p1,p2] (by kernel_rfl) H).trans (by kernel_rfl)
def FV:Z4:=Zs 221 54 (sub (Z1 Tryz.f221) [1,1]) (Zf cfg 54 221 Tryz.f221 H0) [(0,x0)] H
def JU:KL:=Zb (YH 221 54 Tryz.f221 [1,1]) (Zf cfg 54 221 Tryz.f221 H0)
theorem Io:ZL 54 (JU H0):=Zu (C:=cfg) (kp:=cfg.keep 221) (sub (Z1 Tryz.f221) [1,1]) (Zv 221 Tryz.f221 H0)
def FX:Z4:=Zs 221 54 (sub (Z1 Tryz.f221) [1,0,1,0,0,1,1,1]) (Zb (ZV 221 54 Tryz.f221 [1,0,1,0,0]) (Z7 0 (JU H0))) [(0,x0),(7,x7),(8,x8)] H
def FW:Z4:=Zs 221 54 (sub (Z1 Tryz.f221) [1,0,1,0,0,1,1]) (Zb (ZV 221 54 Tryz.f221 [1,0,1,0,0]) (Z7 0 (JU H0))) [(0,x0),(7,x7),(8,x8),(9,x9)] H
def JV:Z4:=Xa 221 54 (sub (Z1 Tryz.f221) [1,0,1,0,0]) (Z7 0 (JU H0)) [(0,x0),(7,x7),(8,x8)] H
def Ac:Z4:=
 Z0 (Zj .string p0) fun t7=>
 JV p0 t7 (.int .i64 0) H H
theorem Zcd:FV x0 H0 H =
 Z0 (Yq .neq x0 (.str [])) fun t48=>
 Z0 (Z6 t48 true (.tuple []) (some x0)) fun t50=>
 Z0 (Z6 t48 true (.tuple []) (Zj .string t50)) fun t51=>
 Z0 (Z6 t48 true (.tuple []) (Z5 .leq t51 (.int .i64 32))) fun t52=>
 Z0 (Zg t48 t52 (.bool false)) fun t53=>
 some (t53,H):=Z9 [3,8,9] (by kernel_rfl)
theorem P6:FX x0 x7 x8 H0 H =
 Z0 (Z5 .add x8 (.int .i64 1)) fun t46=>
 JV x0 x7 t46 H0 H:=Z9 [3,8,9] (by kernel_rfl)
theorem Zce:FW x0 x7 x8 x9 H0 H =
 Z0 (Zr x0 x8) fun t13=>
 Z0 (Z5 .eql t13 (.int .u8 95)) fun t15=>
 Z0 (Z6 t15 false (.tuple []) (some t13)) fun t17=>
 Z0 (Z6 t15 false (.tuple []) (Z5 .geq t17 (.int .u8 97))) fun t18=>
 Z0 (Z6 t15 false (.tuple []) (some t18)) fun t19=>
 Z0 (Z6 t19 true (.tuple []) (some t13)) fun t20=>
 Z0 (Z6 t19 true (.tuple []) (Z5 .leq t20 (.int .u8 122))) fun t21=>
 Z0 (Z6 t15 false (.tuple []) (Zg t19 t21 (.bool false))) fun t22=>
 Z0 (Zg t15 (.bool true) t22) fun t23=>
 Z0 (Z6 t23 false (.tuple []) (some t13)) fun t25=>
 Z0 (Z6 t23 false (.tuple []) (Z5 .geq t25 (.int .u8 65))) fun t26=>
 Z0 (Z6 t23 false (.tuple []) (some t26)) fun t27=>
 Z0 (Z6 t27 true (.tuple []) (some t13)) fun t28=>
 Z0 (Z6 t27 true (.tuple []) (Z5 .leq t28 (.int .u8 90))) fun t29=>
 Z0 (Z6 t23 false (.tuple []) (Zg t27 t29 (.bool false))) fun t30=>
 Z0 (Zg t23 (.bool true) t30) fun t31=>
 Z0 (X9 .not t31) fun t33=>
 Z0 (Z6 t33 true (.tuple []) (some x8)) fun t35=>
 Z0 (Z6 t33 true (.tuple []) (Z5 .eql t35 (.int .i64 0))) fun t36=>
 Z0 (Z6 t33 true (.tuple []) (some t36)) fun t37=>
 Z0 (Z6 t37 false (.tuple []) (some t13)) fun t38=>
 Z0 (Z6 t37 false (.tuple []) (Z5 .lss t38 (.int .u8 48))) fun t39=>
 Z0 (Z6 t33 true (.tuple []) (Zg t37 (.bool true) t39)) fun t40=>
 Z0 (Z6 t33 true (.tuple []) (some t40)) fun t41=>
 Z0 (Z6 t41 false (.tuple []) (some t13)) fun t42=>
 Z0 (Z6 t41 false (.tuple []) (Z5 .gtr t42 (.int .u8 57))) fun t43=>
 Z0 (Z6 t33 true (.tuple []) (Zg t41 (.bool true) t43)) fun t44=>
 Z0 (Zg t33 t44 (.bool false)) fun t45=>
 Zk t45
 (some ((.bool false),H))
 (FX x0 x7 x8 H0 H):=Z9 [3,8,9] (by kernel_rfl)
theorem Ur:JV x0 x7 x8 H0 H =
 Z0 (Z5 .lss x8 x7) fun t9=>
 Zk t9
 (FW x0 x7 x8 t9 H0 H)
 (FV x0 H0 H):=(Zx (C:=cfg) [3,8,9] (Zm 0 (Io H0)) _ _).trans (by kernel_rfl)
theorem Zda:Qt [p0] H=Ac p0 H:=(Zd (C:=cfg) (fn:=Tryz.f221) (c:=Z1 Tryz.f221) (n:=54) [3,8,9] Tryz.func221 (by kernel_rfl) (by kernel_rfl) [p0] (by kernel_rfl) H).trans (by kernel_rfl)
def G6:Z4:=Zs 222 28 (sub (Z1 Tryz.f222) [1,1,1,1]) (Zf cfg 28 222 Tryz.f222 H0) [] H
def Xn:KL:=Zb (YH 222 28 Tryz.f222 [1,1,1,1]) (Zf cfg 28 222 Tryz.f222 H0)
theorem RP:ZL 28 (Xn H0):=Zu (C:=cfg) (kp:=cfg.keep 222) (sub (Z1 Tryz.f222) [1,1,1,1]) (Zv 222 Tryz.f222 H0)
def G8:Z4:=Zs 222 28 (sub (Z1 Tryz.f222) [1,1,1,0,1,0,0,1,1,1]) (Zb (ZV 222 28 Tryz.f222 [1,1,1,0,1,0,0]) (Z7 0 (Xn H0))) [(3,x3),(10,x10),(11,x11),(12,x12)] H
def Gb:KL:=Zb (YH 222 28 Tryz.f222 [1,1,1,0,1,0,0,1,1,1]) (Zb (ZV 222 28 Tryz.f222 [1,1,1,0,1,0,0]) (Z7 0 (Xn H0)))
def Ga:Z4:=Zs 222 28 (sub (Z1 Tryz.f222) [1,1,1,0,1,0,0,1,1,0,0,1,1,1]) (Z7 1 (Gb H0)) [(3,x3),(5,x5),(10,x10),(11,x11),(12,x12)] H
def G9:Z4:=Zs 222 28 (sub (Z1 Tryz.f222) [1,1,1,0,1,0,0,1,1,0,0,1,1]) (Z7 1 (Gb H0)) [(3,x3),(5,x5),(10,x10),(11,x11),(12,x12)] H
def G7:Z4:=Zs 222 28 (sub (Z1 Tryz.f222) [1,1,1,0,1,0,0,1,1]) (Zb (ZV 222 28 Tryz.f222 [1,1,1,0,1,0,0]) (Z7 0 (Xn H0))) [(3,x3),(10,x10),(11,x11),(12,x12),(13,x13)] H
def Wo:Z4:=Xa 222 28 (sub (Z1 Tryz.f222) [1,1,1,0,1,0,0]) (Z7 0 (Xn H0)) [(3,x3),(10,x10),(11,x11),(12,x12)] H
def G5:Z4:=Zs 222 28 (sub (Z1 Tryz.f222) [1,1]) (Zf cfg 28 222 Tryz.f222 H0) [(0,x0)] H
def Bh:Z4:=
 Z0 (Zj (.slice 264) p0) fun t7=>
 Z0 (Z5 .gtr t7 (.int .i64 24)) fun t8=>
 Zk t8
 (some ((.int .i64 3),H))
 (G5 p0 H H)
theorem Pw:G6 H0 H =
 some ((.int .i64 0),H):=Z9 [3,6,9,11,12,13] (by kernel_rfl)
theorem Py:G8 x3 x10 x11 x12 H0 H =
 Z0 (Z5 .add x12 (.int .i64 1)) fun t27=>
 Wo x3 x10 x11 t27 H0 H:=Z9 [3,6,9,11,12,13] (by kernel_rfl)
theorem PA:Ga x3 x5 x10 x11 x12 H0 H =
 Z0 (Z8 0 x5) fun t25=>
 Z0 (Z3 false 1 t25 H) fun t26=>
 Z0 (Xi .string x3 t26 (.bool true) H) fun r_11=>
 G8 x3 x10 x11 x12 H0 r_11.2:=Z9 [3,6,9,11,12,13] (by kernel_rfl)
theorem Pz:G9 x3 x5 x10 x11 x12 H0 H =
 Z0 (Z8 0 x5) fun t21=>
 Z0 (Z3 false 1 t21 H) fun t22=>
 Z0 (Y6 .string (.bool false) false x3 t22 H) fun t23=>
 Zk t23
 (some ((.int .i64 6),H))
 (Ga x3 x5 x10 x11 x12 H0 H):=Z9 [3,6,9,11,12,13] (by kernel_rfl)
theorem Px:G7 x3 x10 x11 x12 x13 H0 H =
 Z0 (Zl 5 x10 x12) fun t14=>
 Z0 (Z3 true 5 t14 H) fun t15=>
 Z0 (some ((.ptr H.length 0),H++[.cells [(.str []),(.int .u64 0),(.int .u64 0),(.int .u64 0),(.int .u64 0)]])) fun r5=>
 Z0 (Zi 5 r5.1 t15 r5.2) fun r_8=>
 Z0 (Z8 0 r5.1) fun t16=>
 Z0 (Z3 false 1 t16 r_8.2) fun t17=>
 Z0 (Zc Qt [t17] r_8.2) fun r18=>
 Z0 (X9 .not r18.1) fun t19=>
 Zk t19
 (some ((.int .i64 4),r18.2))
 (G9 x3 r5.1 x10 x11 x12 H0 r18.2):=Z9 [3,6,9,11,12,13] (by kernel_rfl)
theorem QY:Wo x3 x10 x11 x12 H0 H =
 Z0 (Z5 .lss x12 x11) fun t13=>
 Zk t13
 (G7 x3 x10 x11 x12 t13 H0 H)
 (G6 H0 H):=(Zx (C:=cfg) [3,6,9,11,12,13] (Zm 0 (RP H0)) _ _).trans (by kernel_rfl)
theorem Pv:G5 x0 H0 H =
 Z0 (some ((.map H.length),H++[.map [] 0])) fun r9=>
 Z0 (Zj (.slice 264) x0) fun t11=>
 Wo r9.1 x0 t11 (.int .i64 0) H0 r9.2:=Z9 [3,6,9,11,12,13] (by kernel_rfl)
theorem N6:Wz [p0] H=Bh p0 H:=(Zd (C:=cfg) (fn:=Tryz.f222) (c:=Z1 Tryz.f222) (n:=28) [3,6,9,11,12,13] Tryz.func222 (by kernel_rfl) (by kernel_rfl) [p0] (by kernel_rfl) H).trans (by kernel_rfl)
def Kc:Z4:=Zs 223 38 (sub (Z1 Tryz.f223) [1,1,1,1]) (Zf cfg 38 223 Tryz.f223 H0) [] H
def Xe:KL:=Zb (YH 223 38 Tryz.f223 [1,1,1,1]) (Zf cfg 38 223 Tryz.f223 H0)
theorem FT:ZL 38 (Xe H0):=Zu (C:=cfg) (kp:=cfg.keep 223) (sub (Z1 Tryz.f223) [1,1,1,1]) (Zv 223 Tryz.f223 H0)
def Kf:Z4:=Zs 223 38 (sub (Z1 Tryz.f223) [1,1,1,0,1,0,0,1,1,1]) (Zb (ZV 223 38 Tryz.f223 [1,1,1,0,1,0,0]) (Z7 0 (Xe H0))) [(3,x3),(10,x10),(11,x11),(12,x12)] H
def Ki:KL:=Zb (YH 223 38 Tryz.f223 [1,1,1,0,1,0,0,1,1,1]) (Zb (ZV 223 38 Tryz.f223 [1,1,1,0,1,0,0]) (Z7 0 (Xe H0)))
def Kh:Z4:=Zs 223 38 (sub (Z1 Tryz.f223) [1,1,1,0,1,0,0,1,1,0,0,1,1,1]) (Z7 1 (Ki H0)) [(3,x3),(5,x5),(10,x10),(11,x11),(12,x12)] H
def Kg:Z4:=Zs 223 38 (sub (Z1 Tryz.f223) [1,1,1,0,1,0,0,1,1,0,0,1,1]) (Z7 1 (Ki H0)) [(3,x3),(5,x5),(10,x10),(11,x11),(12,x12)] H
def Kd:Z4:=Zs 223 38 (sub (Z1 Tryz.f223) [1,1,1,0,1,0,0,1,1]) (Zb (ZV 223 38 Tryz.f223 [1,1,1,0,1,0,0]) (Z7 0 (Xe H0))) [(3,x3),(10,x10),(11,x11),(12,x12),(13,x13)] H
def W5:Z4:=Xa 223 38 (sub (Z1 Tryz.f223) [1,1,1,0,1,0,0]) (Z7 0 (Xe H0)) [(3,x3),(10,x10),(11,x11),(12,x12)] H
def Kb:Z4:=Zs 223 38 (sub (Z1 Tryz.f223) [1,1]) (Zf cfg 38 223 Tryz.f223 H0) [(0,x0)] H
def KU:Z4:=
 Z0 (Zj (.slice 210) p0) fun t7=>
 Z0 (Z5 .gtr t7 (.int .i64 64)) fun t8=>
 Zk t8
 (some ((.int .i64 3),H))
 (Kb p0 H H)
theorem Tv:Kc H0 H =
 some ((.int .i64 0),H):=Z9 [3,6,9,11,12,13] (by kernel_rfl)
theorem Tx:Kf x3 x10 x11 x12 H0 H =
 Z0 (Z5 .add x12 (.int .i64 1)) fun t37=>
 W5 x3 x10 x11 t37 H0 H:=Z9 [3,6,9,11,12,13] (by kernel_rfl)
theorem Tz:Kh x3 x5 x10 x11 x12 H0 H =
 Z0 (Z8 0 x5) fun t35=>
 Z0 (Z3 false 1 t35 H) fun t36=>
 Z0 (Xi .string x3 t36 (.bool true) H) fun r_11=>
 Kf x3 x10 x11 x12 H0 r_11.2:=Z9 [3,6,9,11,12,13] (by kernel_rfl)
theorem Ty:Kg x3 x5 x10 x11 x12 H0 H =
 Z0 (Z8 0 x5) fun t31=>
 Z0 (Z3 false 1 t31 H) fun t32=>
 Z0 (Y6 .string (.bool false) false x3 t32 H) fun t33=>
 Zk t33
 (some ((.int .i64 6),H))
 (Kh x3 x5 x10 x11 x12 H0 H):=Z9 [3,6,9,11,12,13] (by kernel_rfl)
theorem Tw:Kd x3 x10 x11 x12 x13 H0 H =
 Z0 (Zl 2 x10 x12) fun t14=>
 Z0 (Z3 true 2 t14 H) fun t15=>
 Z0 (some ((.ptr H.length 0),H++[.cells [(.str []),(.int .i64 0)]])) fun r5=>
 Z0 (Zi 2 r5.1 t15 r5.2) fun r_8=>
 Z0 (Z8 0 r5.1) fun t16=>
 Z0 (Z3 false 1 t16 r_8.2) fun t17=>
 Z0 (Zj .string t17) fun t18=>
 Z0 (Z5 .neq t18 (.int .i64 2)) fun t19=>
 Z0 (Z6 t19 false (.tuple []) (Z8 1 r5.1)) fun t21=>
 Z0 (Z6 t19 false (.tuple []) (Z3 false 1 t21 r_8.2)) fun t22=>
 Z0 (Z6 t19 false (.tuple []) (Z5 .lss t22 (.int .i64 0))) fun t23=>
 Z0 (Zg t19 (.bool true) t23) fun t24=>
 Z0 (Z6 t24 false (.tuple []) (Z8 1 r5.1)) fun t26=>
 Z0 (Z6 t24 false (.tuple []) (Z3 false 1 t26 r_8.2)) fun t27=>
 Z0 (Z6 t24 false (.tuple []) (Z5 .gtr t27 (.int .i64 65535))) fun t28=>
 Z0 (Zg t24 (.bool true) t28) fun t29=>
 Zk t29
 (some ((.int .i64 2),r_8.2))
 (Kg x3 r5.1 x10 x11 x12 H0 r_8.2):=Z9 [3,6,9,11,12,13] (by kernel_rfl)
theorem Qy:W5 x3 x10 x11 x12 H0 H =
 Z0 (Z5 .lss x12 x11) fun t13=>
 Zk t13
 (Kd x3 x10 x11 x12 t13 H0 H)
 (Kc H0 H):=(Zx (C:=cfg) [3,6,9,11,12,13] (Zm 0 (FT H0)) _ _).trans (by kernel_rfl)
theorem Tu:Kb x0 H0 H =
 Z0 (some ((.map H.length),H++[.map [] 0])) fun r9=>
 Z0 (Zj (.slice 210) x0) fun t11=>
 W5 r9.1 x0 t11 (.int .i64 0) H0 r9.2:=Z9 [3,6,9,11,12,13] (by kernel_rfl)
theorem Pe:Wl [p0] H=KU p0 H:=(Zd (C:=cfg) (fn:=Tryz.f223) (c:=Z1 Tryz.f223) (n:=38) [3,6,9,11,12,13] Tryz.func223 (by kernel_rfl) (by kernel_rfl) [p0] (by kernel_rfl) H).trans (by kernel_rfl)
def Fc:Z4:=Zs 226 23 (sub (Z1 Tryz.f226) [1,1,1]) (Zf cfg 23 226 Tryz.f226 H0) [(3,x3)] H
def Vu:KL:=Zb (YH 226 23 Tryz.f226 [1,1,1]) (Zf cfg 23 226 Tryz.f226 H0)
theorem NS:ZL 23 (Vu H0):=Zu (C:=cfg) (kp:=cfg.keep 226) (sub (Z1 Tryz.f226) [1,1,1]) (Zv 226 Tryz.f226 H0)
def QL:Z4:=Zs 226 23 (sub (Z1 Tryz.f226) [1,1,0,1,0,0,1,1,1]) (Zb (ZV 226 23 Tryz.f226 [1,1,0,1,0,0]) (Z7 0 (Vu H0))) [(0,x0),(3,x3),(5,x5)] H
def Fd:Z4:=Zs 226 23 (sub (Z1 Tryz.f226) [1,1,0,1,0,0,1,1]) (Zb (ZV 226 23 Tryz.f226 [1,1,0,1,0,0]) (Z7 0 (Vu H0))) [(0,x0),(3,x3),(5,x5),(6,x6)] H
def Vv:Z4:=Xa 226 23 (sub (Z1 Tryz.f226) [1,1,0,1,0,0]) (Z7 0 (Vu H0)) [(0,x0),(3,x3),(5,x5)] H
def O1:Z4:=
 Vv p0 (.int .i64 0) (.int .i64 0) H H
theorem EL:Fc x3 H0 H =
 some (x3,H):=Z9 [4,8,9] (by kernel_rfl)
theorem G3:QL x0 x3 x5 H0 H =
 Z0 (Z5 .add x5 (.int .i64 1)) fun t21=>
 Vv x0 x3 t21 H0 H:=Z9 [4,8,9] (by kernel_rfl)
theorem EM:Fd x0 x3 x5 x6 H0 H =
 Z0 (Z5 .mul x3 (.int .i64 10)) fun t9=>
 Z0 (Zj .string x0) fun t12=>
 Z0 (Z5 .lss x5 t12) fun t13=>
 Zk t13
 (Z0 (Zr x0 x5) fun t17=>
 Z0 (Z5 .sub t17 (.int .u8 48)) fun t18=>
 Z0 (Yg .i64 t18) fun t19=>
 Z0 (Z5 .add t9 t19) fun t20=>
 QL x0 t20 x5 H0 H)
 (QL x0 t9 x5 H0 H):=Z9 [4,8,9] (by kernel_rfl)
theorem G4:Vv x0 x3 x5 H0 H =
 Z0 (Z5 .lss x5 (.int .i64 4)) fun t6=>
 Zk t6
 (Fd x0 x3 x5 t6 H0 H)
 (Fc x3 H0 H):=(Zx (C:=cfg) [4,8,9] (Zm 0 (NS H0)) _ _).trans (by kernel_rfl)
theorem Sd:Ja [p0] H=O1 p0 H:=(Zd (C:=cfg) (fn:=Tryz.f226) (c:=Z1 Tryz.f226) (n:=23) [4,8,9] Tryz.func226 (by kernel_rfl) (by kernel_rfl) [p0] (by kernel_rfl) H).trans (by kernel_rfl)
def Tg:Z4:=Zs 231 112 (sub (Z1 Tryz.f231) [1,1,1,1,1,1,1,1,1,1,1,1,1]) (Zf cfg 112 231 Tryz.f231 H0) [(7,x7),(10,x10)] H
def GA:Z4:=Zs 231 112 (sub (Z1 Tryz.f231) [1,1,1,1,1,1,1,1,1,1,1,1]) (Zf cfg 112 231 Tryz.f231 H0) [(5,x5),(7,x7),(10,x10)] H
def Gz:Z4:=Zs 231 112 (sub (Z1 Tryz.f231) [1,1,1,1,1,1,1,1,1,1]) (Zf cfg 112 231 Tryz.f231 H0) [(0,x0),(4,x4),(5,x5),(6,x6),(7,x7),(8,x8)] H
def Tf:Z4:=Zs 231 112 (sub (Z1 Tryz.f231) [1,1,1,1,1,1,1,1,1]) (Zf cfg 112 231 Tryz.f231 H0) [(0,x0),(4,x4),(5,x5),(6,x6),(7,x7),(8,x8)] H
def Qu:Z4:=Zs 231 112 (sub (Z1 Tryz.f231) [1,1,1,1,1,1,1,1]) (Zf cfg 112 231 Tryz.f231 H0) [(0,x0),(4,x4),(5,x5),(6,x6),(7,x7),(8,x8)] H
def Gy:Z4:=Zs 231 112 (sub (Z1 Tryz.f231) [1,1,1,1,1]) (Zf cfg 112 231 Tryz.f231 H0) [(0,x0),(4,x4),(5,x5)] H
def Te:Z4:=Zs 231 112 (sub (Z1 Tryz.f231) [1,1,1]) (Zf cfg 112 231 Tryz.f231 H0) [(0,x0),(4,x4)] H
def Th:KL:=Zb (YH 231 112 Tryz.f231 [1,1,1]) (Zf cfg 112 231 Tryz.f231 H0)
theorem Ok:ZL 112 (Th H0):=Zu (C:=cfg) (kp:=cfg.keep 231) (sub (Z1 Tryz.f231) [1,1,1]) (Zv 231 Tryz.f231 H0)
def Ai:Z4:=Zs 231 112 (sub (Z1 Tryz.f231) [1,1,0,0,0,1]) (Zb (ZV 231 112 Tryz.f231 [1,1,0,0,0]) (Z7 0 (Th H0))) [(0,x0),(4,x4)] H
def GB:Z4:=Xa 231 112 (sub (Z1 Tryz.f231) [1,1,0,0,0]) (Z7 0 (Th H0)) [(0,x0),(4,x4)] H
def ZjS:Z4:=
 GB p0 (.int .i64 0) H H
theorem Nj:Tg x7 x10 H0 H =
 some ((.tuple [x10,x7]),H):=Z9 [3,4,7,14,16,18,21,23] (by kernel_rfl)
theorem Zdk:GA x5 x7 x10 H0 H =
 Zk x5
 (Z0 (X9 .neg x10) fun t109=>
 Tg x7 t109 H0 H)
 (Tg x7 x10 H0 H):=Z9 [3,4,7,14,16,18,21,23] (by kernel_rfl)
theorem Zdj:Gz x0 x4 x5 x6 x7 x8 H0 H =
 Z0 (ZX x0 (some x4) (some x6) none) fun t100=>
 Z0 (Zc PT [t100,x8] H) fun r102=>
 Z0 (ZM r102.1 0) fun t103=>
 Z0 (ZM r102.1 1) fun t104=>
 Z0 (X9 .not t104) fun t106=>
 Zk t106
 (GA x5 x7 (.int .i64 10000000000000) H0 r102.2)
 (GA x5 x7 t103 H0 r102.2):=Z9 [3,4,7,14,16,18,21,23] (by kernel_rfl)
theorem Zdi:Tf x0 x4 x5 x6 x7 x8 H0 H =
 Z0 (Zj .string x8) fun t92=>
 Z0 (Z5 .gtr t92 (.int .i64 4)) fun t93=>
 Zk t93
 (Z0 (ZX x8 none (some (.int .i64 4)) none) fun t95=>
 Gz x0 x4 x5 x6 x7 t95 H0 H)
 (Gz x0 x4 x5 x6 x7 x8 H0 H):=Z9 [3,4,7,14,16,18,21,23] (by kernel_rfl)
theorem Zdh:Qu x0 x4 x5 x6 x7 x8 H0 H =
 Z0 (Z5 .eql x7 x4) fun t90=>
 Zk t90
 (some ((.tuple [(.int .i64 0),(.int .i64 0)]),H))
 (Tf x0 x4 x5 x6 x7 x8 H0 H):=Z9 [3,4,7,14,16,18,21,23] (by kernel_rfl)
theorem Zdg:Gy x0 x4 x5 H0 H =
 Z0 (Zc BH [x0,x4] H) fun r57=>
 Z0 (Zj .string x0) fun t61=>
 Z0 (Z5 .lss r57.1 t61) fun t62=>
 Z0 (Z6 t62 true (.tuple []) (some x0)) fun t64=>
 Z0 (Z6 t62 true (.tuple []) (some r57.1)) fun t65=>
 Z0 (Z6 t62 true (.tuple []) (Zr t64 t65)) fun t66=>
 Z0 (Z6 t62 true (.tuple []) (Z5 .eql t66 (.int .u8 46))) fun t67=>
 Z0 (Zg t62 t67 (.bool false)) fun t68=>
 Zk t68
 (Z0 (Z5 .add r57.1 (.int .i64 1)) fun t71=>
 Z0 (Zc BH [x0,t71] r57.2) fun r72=>
 Z0 (Z5 .gtr r57.1 x4) fun t75=>
 Z0 (Z6 t75 false (.tuple []) (some r72.1)) fun t77=>
 Z0 (Z6 t75 false (.tuple []) (some r57.1)) fun t78=>
 Z0 (Z6 t75 false (.tuple []) (Z5 .add t78 (.int .i64 1))) fun t79=>
 Z0 (Z6 t75 false (.tuple []) (Z5 .gtr t77 t79)) fun t80=>
 Z0 (Zg t75 (.bool true) t80) fun t81=>
 Zk t81
 (Z0 (Z5 .add r57.1 (.int .i64 1)) fun t85=>
 Z0 (ZX x0 (some t85) (some r72.1) none) fun t87=>
 Qu x0 x4 x5 r57.1 r72.1 t87 H0 r72.2)
 (Qu x0 x4 x5 r57.1 r57.1 (.str []) H0 r72.2))
 (Qu x0 x4 x5 r57.1 r57.1 (.str []) H0 r57.2):=Z9 [3,4,7,14,16,18,21,23] (by kernel_rfl)
theorem Zdf:Te x0 x4 H0 H =
 Z0 (Zj .string x0) fun t32=>
 Z0 (Z5 .lss x4 t32) fun t33=>
 Z0 (Z6 t33 true (.tuple []) (some x0)) fun t35=>
 Z0 (Z6 t33 true (.tuple []) (some x4)) fun t36=>
 Z0 (Z6 t33 true (.tuple []) (Zr t35 t36)) fun t37=>
 Z0 (Z6 t33 true (.tuple []) (Z5 .eql t37 (.int .u8 45))) fun t38=>
 Z0 (Zg t33 t38 (.bool false)) fun t39=>
 Z0 (Z6 t39 false (.tuple []) (some x4)) fun t42=>
 Z0 (Z6 t39 false (.tuple []) (some x0)) fun t43=>
 Z0 (Z6 t39 false (.tuple []) (Zj .string t43)) fun t44=>
 Z0 (Z6 t39 false (.tuple []) (Z5 .lss t42 t44)) fun t45=>
 Z0 (Z6 t39 false (.tuple []) (some t45)) fun t46=>
 Z0 (Z6 t46 true (.tuple []) (some x0)) fun t47=>
 Z0 (Z6 t46 true (.tuple []) (some x4)) fun t48=>
 Z0 (Z6 t46 true (.tuple []) (Zr t47 t48)) fun t49=>
 Z0 (Z6 t46 true (.tuple []) (Z5 .eql t49 (.int .u8 43))) fun t50=>
 Z0 (Z6 t39 false (.tuple []) (Zg t46 t50 (.bool false))) fun t51=>
 Z0 (Zg t39 (.bool true) t51) fun t52=>
 Zk t52
 (Z0 (Z5 .add x4 (.int .i64 1)) fun t54=>
 Gy x0 t54 t39 H0 H)
 (Gy x0 x4 t39 H0 H):=Z9 [3,4,7,14,16,18,21,23] (by kernel_rfl)
theorem Nk:Ai x0 x4 H0 H =
 Z0 (Z5 .add x4 (.int .i64 1)) fun t29=>
 GB x0 t29 H0 H:=Z9 [3,4,7,14,16,18,21,23] (by kernel_rfl)
theorem Nl:GB x0 x4 H0 H =
 Z0 (Zj .string x0) fun t14=>
 Z0 (Z5 .lss x4 t14) fun t15=>
 Z0 (Z6 t15 true (.tuple []) (some x0)) fun t17=>
 Z0 (Z6 t15 true (.tuple []) (some x4)) fun t18=>
 Z0 (Z6 t15 true (.tuple []) (Zr t17 t18)) fun t19=>
 Z0 (Z6 t15 true (.tuple []) (Z5 .eql t19 (.int .u8 32))) fun t20=>
 Z0 (Z6 t15 true (.tuple []) (some t20)) fun t21=>
 Z0 (Z6 t21 false (.tuple []) (some x0)) fun t22=>
 Z0 (Z6 t21 false (.tuple []) (some x4)) fun t23=>
 Z0 (Z6 t21 false (.tuple []) (Zr t22 t23)) fun t24=>
 Z0 (Z6 t21 false (.tuple []) (Z5 .eql t24 (.int .u8 9))) fun t25=>
 Z0 (Z6 t15 true (.tuple []) (Zg t21 (.bool true) t25)) fun t26=>
 Z0 (Zg t15 t26 (.bool false)) fun t27=>
 Zk t27
 (Ai x0 x4 H0 H)
 (Te x0 x4 H0 H):=(Zx (C:=cfg) [3,4,7,14,16,18,21,23] (Zm 0 (Ok H0)) _ _).trans (by kernel_rfl)
theorem Zer:BG [p0] H=ZjS p0 H:=(Zd (C:=cfg) (fn:=Tryz.f231) (c:=Z1 Tryz.f231) (n:=112) [3,4,7,14,16,18,21,23] Tryz.func231 (by kernel_rfl) (by kernel_rfl) [p0] (by kernel_rfl) H).trans (by kernel_rfl)
def ZcC:Z4:=Zs 233 47 (sub (Z1 Tryz.f233) [1,1,1]) (Zf cfg 47 233 Tryz.f233 H0) [(3,x3)] H
def Rh:KL:=Zb (YH 233 47 Tryz.f233 [1,1,1]) (Zf cfg 47 233 Tryz.f233 H0)
theorem ZdE:ZL 47 (Rh H0):=Zu (C:=cfg) (kp:=cfg.keep 233) (sub (Z1 Tryz.f233) [1,1,1]) (Zv 233 Tryz.f233 H0)
def KZ:Z4:=Zs 233 47 (sub (Z1 Tryz.f233) [1,1,0,1,0,0,1,1]) (Zb (ZV 233 47 Tryz.f233 [1,1,0,1,0,0]) (Z7 0 (Rh H0))) [(0,x0),(3,x3),(4,x4)] H
def EB:Z4:=Zs 233 47 (sub (Z1 Tryz.f233) [1,1,0,1,0,0,1]) (Zb (ZV 233 47 Tryz.f233 [1,1,0,1,0,0]) (Z7 0 (Rh H0))) [(0,x0),(3,x3),(4,x4)] H
def Ri:Z4:=Xa 233 47 (sub (Z1 Tryz.f233) [1,1,0,1,0,0]) (Z7 0 (Rh H0)) [(0,x0),(3,x3),(4,x4)] H
def Zn9:Z4:=
 Ri p0 .nils (.int .i64 0) H H
theorem Zhz:ZcC x3 H0 H =
 Z0 (UE x3 H) fun t46=>
 some (t46,H):=Z9 [4,5,8] (by kernel_rfl)
theorem SI:KZ x0 x3 x4 H0 H =
 Z0 (Z5 .add x4 (.int .i64 1)) fun t11=>
 Ri x0 x3 t11 H0 H:=Z9 [4,5,8] (by kernel_rfl)
theorem ZhA:EB x0 x3 x4 H0 H =
 Z0 (Zr x0 x4) fun t14=>
 Z0 (U8 [t14] H) fun r16=>
 Z0 (Z6 r16.1 false (.tuple []) (some t14)) fun t18=>
 Z0 (Z6 r16.1 false (.tuple []) (Z5 .geq t18 (.int .u8 48))) fun t19=>
 Z0 (Z6 r16.1 false (.tuple []) (some t19)) fun t20=>
 Z0 (Z6 t20 true (.tuple []) (some t14)) fun t21=>
 Z0 (Z6 t20 true (.tuple []) (Z5 .leq t21 (.int .u8 57))) fun t22=>
 Z0 (Z6 r16.1 false (.tuple []) (Zg t20 t22 (.bool false))) fun t23=>
 Z0 (Zg r16.1 (.bool true) t23) fun t24=>
 Z0 (Z6 t24 false (.tuple []) (some t14)) fun t26=>
 Z0 (Z6 t24 false (.tuple []) (Z5 .geq t26 (.int .u8 97))) fun t27=>
 Z0 (Z6 t24 false (.tuple []) (some t27)) fun t28=>
 Z0 (Z6 t28 true (.tuple []) (some t14)) fun t29=>
 Z0 (Z6 t28 true (.tuple []) (Z5 .leq t29 (.int .u8 122))) fun t30=>
 Z0 (Z6 t24 false (.tuple []) (Zg t28 t30 (.bool false))) fun t31=>
 Z0 (Zg t24 (.bool true) t31) fun t32=>
 Z0 (Z6 t32 false (.tuple []) (some t14)) fun t34=>
 Z0 (Z6 t32 false (.tuple []) (Z5 .geq t34 (.int .u8 65))) fun t35=>
 Z0 (Z6 t32 false (.tuple []) (some t35)) fun t36=>
 Z0 (Z6 t36 true (.tuple []) (some t14)) fun t37=>
 Z0 (Z6 t36 true (.tuple []) (Z5 .leq t37 (.int .u8 90))) fun t38=>
 Z0 (Z6 t32 false (.tuple []) (Zg t36 t38 (.bool false))) fun t39=>
 Z0 (Zg t32 (.bool true) t39) fun t40=>
 Zk t40
 (Z0 ((Zz 1 [(0,t14)] [(.int .u8 0)]).map (.vs 1 .clip)) fun t43=>
 Z0 (ZS 1 1 x3 t43 r16.2) fun r44=>
 KZ x0 r44.1 x4 H0 r44.2)
 (KZ x0 x3 x4 H0 r16.2):=Z9 [4,5,8] (by kernel_rfl)
theorem SJ:Ri x0 x3 x4 H0 H =
 Z0 (Zj .string x0) fun t8=>
 Z0 (Z5 .lss x4 t8) fun t9=>
 Zk t9
 (EB x0 x3 x4 H0 H)
 (ZcC x3 H0 H):=(Zx (C:=cfg) [4,5,8] (Zm 0 (ZdE H0)) _ _).trans (by kernel_rfl)
theorem Zj0:Cl [p0] H=Zn9 p0 H:=(Zd (C:=cfg) (fn:=Tryz.f233) (c:=Z1 Tryz.f233) (n:=47) [4,5,8] Tryz.func233 (by kernel_rfl) (by kernel_rfl) [p0] (by kernel_rfl) H).trans (by kernel_rfl)
def Zci:Z4:=
 Z0 (ZU p0 H) fun r2=>
 Z0 (Z3 true 6 r2.1 r2.2) fun t5=>
 Z0 (Zc QD [t5] r2.2) fun r6=>
 Z0 (PN false 1 3 r6.1) fun t7=>
 Z0 (Zc PU [t7,p1] r6.2) fun r9=>
 some (r9.1,r9.2)
theorem Zhf:Ef [p0,p1] H=Zci p0 p1 H:=(Zd (C:=cfg) (fn:=Tryz.f234) (c:=Z1 Tryz.f234) (n:=10) [] Tryz.func234 (by kernel_rfl) (by kernel_rfl) [p0,p1] (by kernel_rfl) H).trans (by kernel_rfl)
def Zcj:Z4:=
 Z0 (Z5 .geq p0 (.int .i64 0)) fun t4=>
 Z0 (Z6 t4 true (.tuple []) (some p0)) fun t6=>
 Z0 (Z6 t4 true (.tuple []) (Z5 .leq t6 (.int .i64 65535))) fun t7=>
 Z0 (Zg t4 t7 (.bool false)) fun t8=>
 some (t8,H)
theorem Zhg:KQ [p0] H=Zcj p0 H:=(Zd (C:=cfg) (fn:=Tryz.f235) (c:=Z1 Tryz.f235) (n:=9) [] Tryz.func235 (by kernel_rfl) (by kernel_rfl) [p0] (by kernel_rfl) H).trans (by kernel_rfl)
def F7:Z4:=Zs 236 37 (sub (Z1 Tryz.f236) [1,1,1]) (Zf cfg 37 236 Tryz.f236 H0) [] H
def Wc:KL:=Zb (YH 236 37 Tryz.f236 [1,1,1]) (Zf cfg 37 236 Tryz.f236 H0)
theorem Jk:ZL 37 (Wc H0):=Zu (C:=cfg) (kp:=cfg.keep 236) (sub (Z1 Tryz.f236) [1,1,1]) (Zv 236 Tryz.f236 H0)
def QK:Z4:=Zs 236 37 (sub (Z1 Tryz.f236) [1,1,0,1,0,0,1,1]) (Zb (ZV 236 37 Tryz.f236 [1,1,0,1,0,0]) (Z7 0 (Wc H0))) [(0,x0),(3,x3)] H
def Wd:KL:=Zb (YH 236 37 Tryz.f236 [1,1,0,1,0,0,1,1]) (Zb (ZV 236 37 Tryz.f236 [1,1,0,1,0,0]) (Z7 0 (Wc H0)))
theorem Nw:ZL 37 (Wd H0):=Zu (C:=cfg) (kp:=cfg.keep 236) (sub (Z1 Tryz.f236) [1,1,0,1,0,0,1,1]) (T5 (C:=cfg) (kp:=cfg.keep 236) (sub (Z1 Tryz.f236) [1,1,0,1,0,0]) (Zm 0 (Jk H0)))
def Fb:Z4:=Zs 236 37 (sub (Z1 Tryz.f236) [1,1,0,1,0,0,1,0,0,1,1,0,0,1,1]) (Zb (ZV 236 37 Tryz.f236 [1,1,0,1,0,0,1,0,0,1,1,0,0]) (Z7 2 (Z7 1 (Wd H0)))) [(0,x0),(3,x3),(4,x4)] H
def Fa:Z4:=Zs 236 37 (sub (Z1 Tryz.f236) [1,1,0,1,0,0,1,0,0,1,1,0,0,1]) (Zb (ZV 236 37 Tryz.f236 [1,1,0,1,0,0,1,0,0,1,1,0,0]) (Z7 2 (Z7 1 (Wd H0)))) [(0,x0),(3,x3),(4,x4)] H
def Vt:Z4:=Xa 236 37 (sub (Z1 Tryz.f236) [1,1,0,1,0,0,1,0,0,1,1,0,0]) (Z7 2 (Z7 1 (Wd H0))) [(0,x0),(3,x3),(4,x4)] H
def F9:Z4:=Zs 236 37 (sub (Z1 Tryz.f236) [1,1,0,1,0,0,1,0,0,1]) (Z7 1 (Wd H0)) [(0,x0),(3,x3)] H
def F8:Z4:=Zs 236 37 (sub (Z1 Tryz.f236) [1,1,0,1,0,0,1]) (Zb (ZV 236 37 Tryz.f236 [1,1,0,1,0,0]) (Z7 0 (Wc H0))) [(0,x0),(3,x3)] H
def Vs:Z4:=Xa 236 37 (sub (Z1 Tryz.f236) [1,1,0,1,0,0]) (Z7 0 (Wc H0)) [(0,x0),(3,x3)] H
def F6:Z4:=Zs 236 37 (sub (Z1 Tryz.f236) [1,1]) (Zf cfg 37 236 Tryz.f236 H0) [(0,x0)] H
def Rx:Z4:=
 Z0 (Zj (.slice 264) p0) fun t6=>
 Z0 (Z5 .gtr t6 (.int .i64 24)) fun t7=>
 Zk t7
 (some ((.int .i64 3),H))
 (F6 p0 H H)
theorem Ev:F7 H0 H =
 some ((.int .i64 0),H):=Z9 [3,5,6,8,10,11,13] (by kernel_rfl)
theorem Ex:QK x0 x3 H0 H =
 Z0 (Z5 .add x3 (.int .i64 1)) fun t13=>
 Vs x0 t13 H0 H:=Z9 [3,5,6,8,10,11,13] (by kernel_rfl)
theorem EA:Fb x0 x3 x4 H0 H =
 Z0 (Z5 .add x4 (.int .i64 1)) fun t25=>
 Vt x0 x3 t25 H0 H:=Z9 [3,5,6,8,10,11,13] (by kernel_rfl)
theorem Ez:Fa x0 x3 x4 H0 H =
 Z0 (Zl 5 x0 x4) fun t28=>
 Z0 (Z8 0 t28) fun t29=>
 Z0 (Z3 false 1 t29 H) fun t30=>
 Z0 (Zl 5 x0 x3) fun t33=>
 Z0 (Z8 0 t33) fun t34=>
 Z0 (Z3 false 1 t34 H) fun t35=>
 Z0 (Yq .eql t30 t35) fun t36=>
 Zk t36
 (some ((.int .i64 6),H))
 (Fb x0 x3 x4 H0 H):=Z9 [3,5,6,8,10,11,13] (by kernel_rfl)
theorem KY:Vt x0 x3 x4 H0 H =
 Z0 (Z5 .lss x4 x3) fun t23=>
 Zk t23
 (Fa x0 x3 x4 H0 H)
 (QK x0 x3 H0 H):=(Zx (C:=cfg) [3,5,6,8,10,11,13] (Zm 2 (Zm 1 (Nw H0))) _ _).trans (by kernel_rfl)
theorem Ey:F9 x0 x3 H0 H =
 Vt x0 x3 (.int .i64 0) H0 H:=Z9 [3,5,6,8,10,11,13] (by kernel_rfl)
theorem Ew:F8 x0 x3 H0 H =
 Z0 (Zl 5 x0 x3) fun t16=>
 Z0 (Z8 0 t16) fun t17=>
 Z0 (Z3 false 1 t17 H) fun t18=>
 Z0 (Zc J9 [t18] H) fun r19=>
 Z0 (X9 .not r19.1) fun t20=>
 Zk t20
 (some ((.int .i64 4),r19.2))
 (F9 x0 x3 H0 r19.2):=Z9 [3,5,6,8,10,11,13] (by kernel_rfl)
theorem KX:Vs x0 x3 H0 H =
 Z0 (Zj (.slice 264) x0) fun t10=>
 Z0 (Z5 .lss x3 t10) fun t11=>
 Zk t11
 (F8 x0 x3 H0 H)
 (F7 H0 H):=(Zx (C:=cfg) [3,5,6,8,10,11,13] (Zm 0 (Jk H0)) _ _).trans (by kernel_rfl)
theorem Eu:F6 x0 H0 H =
 Vs x0 (.int .i64 0) H0 H:=Z9 [3,5,6,8,10,11,13] (by kernel_rfl)
theorem S9:VJ [p0] H=Rx p0 H:=(Zd (C:=cfg) (fn:=Tryz.f236) (c:=Z1 Tryz.f236) (n:=37) [3,5,6,8,10,11,13] Tryz.func236 (by kernel_rfl) (by kernel_rfl) [p0] (by kernel_rfl) H).trans (by kernel_rfl)
def D4:Z4:=Zs 237 46 (sub (Z1 Tryz.f237) [1,1,1]) (Zf cfg 46 237 Tryz.f237 H0) [] H
def XK:KL:=Zb (YH 237 46 Tryz.f237 [1,1,1]) (Zf cfg 46 237 Tryz.f237 H0)
theorem QR:ZL 46 (XK H0):=Zu (C:=cfg) (kp:=cfg.keep 237) (sub (Z1 Tryz.f237) [1,1,1]) (Zv 237 Tryz.f237 H0)
def Q1:Z4:=Zs 237 46 (sub (Z1 Tryz.f237) [1,1,0,1,0,0,1,1]) (Zb (ZV 237 46 Tryz.f237 [1,1,0,1,0,0]) (Z7 0 (XK H0))) [(0,x0),(3,x3)] H
def XL:KL:=Zb (YH 237 46 Tryz.f237 [1,1,0,1,0,0,1,1]) (Zb (ZV 237 46 Tryz.f237 [1,1,0,1,0,0]) (Z7 0 (XK H0)))
theorem Pl:ZL 46 (XL H0):=Zu (C:=cfg) (kp:=cfg.keep 237) (sub (Z1 Tryz.f237) [1,1,0,1,0,0,1,1]) (T5 (C:=cfg) (kp:=cfg.keep 237) (sub (Z1 Tryz.f237) [1,1,0,1,0,0]) (Zm 0 (QR H0)))
def D8:Z4:=Zs 237 46 (sub (Z1 Tryz.f237) [1,1,0,1,0,0,1,0,0,1,1,0,0,1,1]) (Zb (ZV 237 46 Tryz.f237 [1,1,0,1,0,0,1,0,0,1,1,0,0]) (Z7 2 (Z7 1 (XL H0)))) [(0,x0),(3,x3),(4,x4)] H
def D7:Z4:=Zs 237 46 (sub (Z1 Tryz.f237) [1,1,0,1,0,0,1,0,0,1,1,0,0,1]) (Zb (ZV 237 46 Tryz.f237 [1,1,0,1,0,0,1,0,0,1,1,0,0]) (Z7 2 (Z7 1 (XL H0)))) [(0,x0),(3,x3),(4,x4)] H
def WS:Z4:=Xa 237 46 (sub (Z1 Tryz.f237) [1,1,0,1,0,0,1,0,0,1,1,0,0]) (Z7 2 (Z7 1 (XL H0))) [(0,x0),(3,x3),(4,x4)] H
def D6:Z4:=Zs 237 46 (sub (Z1 Tryz.f237) [1,1,0,1,0,0,1,0,0,1]) (Z7 1 (XL H0)) [(0,x0),(3,x3)] H
def D5:Z4:=Zs 237 46 (sub (Z1 Tryz.f237) [1,1,0,1,0,0,1]) (Zb (ZV 237 46 Tryz.f237 [1,1,0,1,0,0]) (Z7 0 (XK H0))) [(0,x0),(3,x3)] H
def WR:Z4:=Xa 237 46 (sub (Z1 Tryz.f237) [1,1,0,1,0,0]) (Z7 0 (XK H0)) [(0,x0),(3,x3)] H
def D3:Z4:=Zs 237 46 (sub (Z1 Tryz.f237) [1,1]) (Zf cfg 46 237 Tryz.f237 H0) [(0,x0)] H
def F0:Z4:=
 Z0 (Zj (.slice 210) p0) fun t6=>
 Z0 (Z5 .gtr t6 (.int .i64 64)) fun t7=>
 Zk t7
 (some ((.int .i64 3),H))
 (D3 p0 H H)
theorem MO:D4 H0 H =
 some ((.int .i64 0),H):=Z9 [3,5,6,8,10,11,13] (by kernel_rfl)
theorem MQ:Q1 x0 x3 H0 H =
 Z0 (Z5 .add x3 (.int .i64 1)) fun t13=>
 WR x0 t13 H0 H:=Z9 [3,5,6,8,10,11,13] (by kernel_rfl)
theorem MT:D8 x0 x3 x4 H0 H =
 Z0 (Z5 .add x4 (.int .i64 1)) fun t34=>
 WS x0 x3 t34 H0 H:=Z9 [3,5,6,8,10,11,13] (by kernel_rfl)
theorem MS:D7 x0 x3 x4 H0 H =
 Z0 (Zl 2 x0 x4) fun t37=>
 Z0 (Z8 0 t37) fun t38=>
 Z0 (Z3 false 1 t38 H) fun t39=>
 Z0 (Zl 2 x0 x3) fun t42=>
 Z0 (Z8 0 t42) fun t43=>
 Z0 (Z3 false 1 t43 H) fun t44=>
 Z0 (Yq .eql t39 t44) fun t45=>
 Zk t45
 (some ((.int .i64 6),H))
 (D8 x0 x3 x4 H0 H):=Z9 [3,5,6,8,10,11,13] (by kernel_rfl)
theorem Ka:WS x0 x3 x4 H0 H =
 Z0 (Z5 .lss x4 x3) fun t32=>
 Zk t32
 (D7 x0 x3 x4 H0 H)
 (Q1 x0 x3 H0 H):=(Zx (C:=cfg) [3,5,6,8,10,11,13] (Zm 2 (Zm 1 (Pl H0))) _ _).trans (by kernel_rfl)
theorem MR:D6 x0 x3 H0 H =
 WS x0 x3 (.int .i64 0) H0 H:=Z9 [3,5,6,8,10,11,13] (by kernel_rfl)
theorem MP:D5 x0 x3 H0 H =
 Z0 (Zl 2 x0 x3) fun t16=>
 Z0 (Z8 0 t16) fun t17=>
 Z0 (Z3 false 1 t17 H) fun t18=>
 Z0 (Zj .string t18) fun t19=>
 Z0 (Z5 .neq t19 (.int .i64 2)) fun t20=>
 Z0 (Z6 t20 false (.tuple []) (some x0)) fun t22=>
 Z0 (Z6 t20 false (.tuple []) (some x3)) fun t23=>
 Z0 (Z6 t20 false (.tuple []) (Zl 2 t22 t23)) fun t24=>
 Z0 (Z6 t20 false (.tuple []) (Z8 1 t24)) fun t25=>
 Z0 (Z6 t20 false (.tuple []) (Z3 false 1 t25 H)) fun t26=>
 Z0 (Z6 t20 false ((.tuple []),H) (Zc KQ [t26] H)) fun r27=>
 Z0 (Z6 t20 false (.tuple []) (X9 .not r27.1)) fun t28=>
 Z0 (Zg t20 (.bool true) t28) fun t29=>
 Zk t29
 (some ((.int .i64 2),r27.2))
 (D6 x0 x3 H0 r27.2):=Z9 [3,5,6,8,10,11,13] (by kernel_rfl)
theorem K9:WR x0 x3 H0 H =
 Z0 (Zj (.slice 210) x0) fun t10=>
 Z0 (Z5 .lss x3 t10) fun t11=>
 Zk t11
 (D5 x0 x3 H0 H)
 (D4 H0 H):=(Zx (C:=cfg) [3,5,6,8,10,11,13] (Zm 0 (QR H0)) _ _).trans (by kernel_rfl)
theorem MN:D3 x0 H0 H =
 WR x0 (.int .i64 0) H0 H:=Z9 [3,5,6,8,10,11,13] (by kernel_rfl)
theorem Ej:Vo [p0] H=F0 p0 H:=(Zd (C:=cfg) (fn:=Tryz.f237) (c:=Z1 Tryz.f237) (n:=46) [3,5,6,8,10,11,13] Tryz.func237 (by kernel_rfl) (by kernel_rfl) [p0] (by kernel_rfl) H).trans (by kernel_rfl)
def Aj:Z4:=Zs 250 24 (sub (Z1 Tryz.f250) [1,1]) (Zf cfg 24 250 Tryz.f250 H0) [(1,x1)] H
def Ti:KL:=Zb (YH 250 24 Tryz.f250 [1,1]) (Zf cfg 24 250 Tryz.f250 H0)
theorem Ol:ZL 24 (Ti H0):=Zu (C:=cfg) (kp:=cfg.keep 250) (sub (Z1 Tryz.f250) [1,1]) (Zv 250 Tryz.f250 H0)
def Ak:Z4:=Zs 250 24 (sub (Z1 Tryz.f250) [1,0,0,0,1]) (Zb (ZV 250 24 Tryz.f250 [1,0,0,0]) (Z7 0 (Ti H0))) [(0,x0),(1,x1)] H
def GC:Z4:=Xa 250 24 (sub (Z1 Tryz.f250) [1,0,0,0]) (Z7 0 (Ti H0)) [(0,x0),(1,x1)] H
def ZjT:Z4:=
 GC p0 p1 H H
theorem GW:Aj x1 H0 H =
 some (x1,H):=Z9 [2,3] (by kernel_rfl)
theorem Zdl:Ak x0 x1 H0 H =
 Z0 (Z5 .add x1 (.int .i64 1)) fun t22=>
 GC x0 t22 H0 H:=Z9 [2,3] (by kernel_rfl)
theorem Nn:GC x0 x1 H0 H =
 Z0 (Zj .string x0) fun t7=>
 Z0 (Z5 .lss x1 t7) fun t8=>
 Z0 (Z6 t8 true (.tuple []) (some x0)) fun t10=>
 Z0 (Z6 t8 true (.tuple []) (some x1)) fun t11=>
 Z0 (Z6 t8 true (.tuple []) (Zr t10 t11)) fun t12=>
 Z0 (Z6 t8 true (.tuple []) (Z5 .geq t12 (.int .u8 48))) fun t13=>
 Z0 (Zg t8 t13 (.bool false)) fun t14=>
 Z0 (Z6 t14 true (.tuple []) (some x0)) fun t16=>
 Z0 (Z6 t14 true (.tuple []) (some x1)) fun t17=>
 Z0 (Z6 t14 true (.tuple []) (Zr t16 t17)) fun t18=>
 Z0 (Z6 t14 true (.tuple []) (Z5 .leq t18 (.int .u8 57))) fun t19=>
 Z0 (Zg t14 t19 (.bool false)) fun t20=>
 Zk t20
 (Ak x0 x1 H0 H)
 (Aj x1 H0 H):=(Zx (C:=cfg) [2,3] (Zm 0 (Ol H0)) _ _).trans (by kernel_rfl)
theorem Zes:BH [p0,p1] H=ZjT p0 p1 H:=(Zd (C:=cfg) (fn:=Tryz.f250) (c:=Z1 Tryz.f250) (n:=24) [2,3] Tryz.func250 (by kernel_rfl) (by kernel_rfl) [p0,p1] (by kernel_rfl) H).trans (by kernel_rfl)
def An:Z4:=Zs 251 45 (sub (Z1 Tryz.f251) [1,1,1,1]) (Zf cfg 45 251 Tryz.f251 H0) [(6,x6)] H
def GD:KL:=Zb (YH 251 45 Tryz.f251 [1,1,1,1]) (Zf cfg 45 251 Tryz.f251 H0)
theorem Om:ZL 45 (GD H0):=Zu (C:=cfg) (kp:=cfg.keep 251) (sub (Z1 Tryz.f251) [1,1,1,1]) (Zv 251 Tryz.f251 H0)
def Tj:Z4:=Zs 251 45 (sub (Z1 Tryz.f251) [1,1,1,0,1,0,0,1,1]) (Zb (ZV 251 45 Tryz.f251 [1,1,1,0,1,0,0]) (Z7 2 (GD H0))) [(1,x1),(6,x6),(8,x8)] H
def Ao:Z4:=Zs 251 45 (sub (Z1 Tryz.f251) [1,1,1,0,1,0,0,1]) (Zb (ZV 251 45 Tryz.f251 [1,1,1,0,1,0,0]) (Z7 2 (GD H0))) [(1,x1),(6,x6),(8,x8)] H
def GF:Z4:=Xa 251 45 (sub (Z1 Tryz.f251) [1,1,1,0,1,0,0]) (Z7 2 (GD H0)) [(1,x1),(6,x6),(8,x8)] H
def Al:Z4:=Zs 251 45 (sub (Z1 Tryz.f251) [1,1,1]) (Zf cfg 45 251 Tryz.f251 H0) [(1,x1),(6,x6)] H
def GE:KL:=Zb (YH 251 45 Tryz.f251 [1,1,1]) (Zf cfg 45 251 Tryz.f251 H0)
theorem On:ZL 45 (GE H0):=Zu (C:=cfg) (kp:=cfg.keep 251) (sub (Z1 Tryz.f251) [1,1,1]) (Zv 251 Tryz.f251 H0)
def Aq:Z4:=Zs 251 45 (sub (Z1 Tryz.f251) [1,1,0,1,0,0,1,1]) (Zb (ZV 251 45 Tryz.f251 [1,1,0,1,0,0]) (Z7 0 (GE H0))) [(0,x0),(1,x1),(6,x6),(7,x7)] H
def Ap:Z4:=Zs 251 45 (sub (Z1 Tryz.f251) [1,1,0,1,0,0,1]) (Zb (ZV 251 45 Tryz.f251 [1,1,0,1,0,0]) (Z7 0 (GE H0))) [(0,x0),(1,x1),(6,x6),(7,x7)] H
def GG:Z4:=Xa 251 45 (sub (Z1 Tryz.f251) [1,1,0,1,0,0]) (Z7 0 (GE H0)) [(0,x0),(1,x1),(6,x6),(7,x7)] H
def ZjU:Z4:=
 GG p0 p1 (.int .i64 0) (.int .i64 0) H H
theorem Zdn:An x6 H0 H =
 Z0 (Z5 .leq x6 (.int .i64 10000000000000)) fun t44=>
 some ((.tuple [x6,t44]),H):=Z9 [4,5,8,10,11,14] (by kernel_rfl)
theorem No:Tj x1 x6 x8 H0 H =
 Z0 (Z5 .add x8 (.int .i64 1)) fun t28=>
 GF x1 x6 t28 H0 H:=Z9 [4,5,8,10,11,14] (by kernel_rfl)
theorem Zdo:Ao x1 x6 x8 H0 H =
 Z0 (Z5 .mul x6 (.int .i64 10)) fun t30=>
 Z0 (Zj .string x1) fun t33=>
 Z0 (Z5 .lss x8 t33) fun t34=>
 Zk t34
 (Z0 (Zr x1 x8) fun t38=>
 Z0 (Z5 .sub t38 (.int .u8 48)) fun t39=>
 Z0 (Yg .i64 t39) fun t40=>
 Z0 (Z5 .add t30 t40) fun t41=>
 Tj x1 t41 x8 H0 H)
 (Tj x1 t30 x8 H0 H):=Z9 [4,5,8,10,11,14] (by kernel_rfl)
theorem Np:GF x1 x6 x8 H0 H =
 Z0 (Z5 .lss x8 (.int .i64 4)) fun t26=>
 Zk t26
 (Ao x1 x6 x8 H0 H)
 (An x6 H0 H):=(Zx (C:=cfg) [4,5,8,10,11,14] (Zm 2 (Om H0)) _ _).trans (by kernel_rfl)
theorem Zdm:Al x1 x6 H0 H =
 GF x1 x6 (.int .i64 0) H0 H:=Z9 [4,5,8,10,11,14] (by kernel_rfl)
theorem Zdq:Aq x0 x1 x6 x7 H0 H =
 Z0 (Z5 .add x7 (.int .i64 1)) fun t14=>
 GG x0 x1 x6 t14 H0 H:=Z9 [4,5,8,10,11,14] (by kernel_rfl)
theorem Zdp:Ap x0 x1 x6 x7 H0 H =
 Z0 (Z5 .mul x6 (.int .i64 10)) fun t16=>
 Z0 (Zr x0 x7) fun t19=>
 Z0 (Z5 .sub t19 (.int .u8 48)) fun t20=>
 Z0 (Yg .i64 t20) fun t21=>
 Z0 (Z5 .add t16 t21) fun t22=>
 Z0 (Z5 .gtr t22 (.int .i64 1000000000)) fun t24=>
 Zk t24
 (some ((.tuple [(.int .i64 0),(.bool false)]),H))
 (Aq x0 x1 t22 x7 H0 H):=Z9 [4,5,8,10,11,14] (by kernel_rfl)
theorem Nq:GG x0 x1 x6 x7 H0 H =
 Z0 (Zj .string x0) fun t11=>
 Z0 (Z5 .lss x7 t11) fun t12=>
 Zk t12
 (Ap x0 x1 x6 x7 H0 H)
 (Al x1 x6 H0 H):=(Zx (C:=cfg) [4,5,8,10,11,14] (Zm 0 (On H0)) _ _).trans (by kernel_rfl)
theorem L9:PT [p0,p1] H=ZjU p0 p1 H:=(Zd (C:=cfg) (fn:=Tryz.f251) (c:=Z1 Tryz.f251) (n:=45) [4,5,8,10,11,14] Tryz.func251 (by kernel_rfl) (by kernel_rfl) [p0,p1] (by kernel_rfl) H).trans (by kernel_rfl)
def At:Z4:=Zs 252 23 (sub (Z1 Tryz.f252) [1,1,1]) (Zf cfg 23 252 Tryz.f252 H0) [(5,x5)] H
def GJ:KL:=Zb (YH 252 23 Tryz.f252 [1,1,1]) (Zf cfg 23 252 Tryz.f252 H0)
theorem OG:ZL 23 (GJ H0):=Zu (C:=cfg) (kp:=cfg.keep 252) (sub (Z1 Tryz.f252) [1,1,1]) (Zv 252 Tryz.f252 H0)
def Av:Z4:=Zs 252 23 (sub (Z1 Tryz.f252) [1,1,0,1,0,0,1,1]) (Zb (ZV 252 23 Tryz.f252 [1,1,0,1,0,0]) (Z7 0 (GJ H0))) [(0,x0),(1,x1),(5,x5),(6,x6)] H
def Au:Z4:=Zs 252 23 (sub (Z1 Tryz.f252) [1,1,0,1,0,0,1]) (Zb (ZV 252 23 Tryz.f252 [1,1,0,1,0,0]) (Z7 0 (GJ H0))) [(0,x0),(1,x1),(5,x5),(6,x6)] H
def GK:Z4:=Xa 252 23 (sub (Z1 Tryz.f252) [1,1,0,1,0,0]) (Z7 0 (GJ H0)) [(0,x0),(1,x1),(5,x5),(6,x6)] H
def IZ:Z4:=
 GK p0 p1 .nils (.int .i64 0) H H
theorem Zdw:At x5 H0 H =
 Z0 (UE x5 H) fun t22=>
 some (t22,H):=Z9 [4,5,6] (by kernel_rfl)
theorem Zdy:Av x0 x1 x5 x6 H0 H =
 Z0 (Z5 .add x6 (.int .i64 1)) fun t12=>
 GK x0 x1 x5 t12 H0 H:=Z9 [4,5,6] (by kernel_rfl)
theorem Zdx:Au x0 x1 x5 x6 H0 H =
 Z0 (Zr x1 x6) fun t17=>
 Z0 (Zr x0 t17) fun t18=>
 Z0 ((Zz 1 [(0,t18)] [(.int .u8 0)]).map (.vs 1 .clip)) fun t19=>
 Z0 (ZS 1 1 x5 t19 H) fun r20=>
 Av x0 x1 r20.1 x6 H0 r20.2:=Z9 [4,5,6] (by kernel_rfl)
theorem Nx:GK x0 x1 x5 x6 H0 H =
 Z0 (Zj .string x1) fun t9=>
 Z0 (Z5 .lss x6 t9) fun t10=>
 Zk t10
 (Au x0 x1 x5 x6 H0 H)
 (At x5 H0 H):=(Zx (C:=cfg) [4,5,6] (Zm 0 (OG H0)) _ _).trans (by kernel_rfl)
theorem Zev:PU [p0,p1] H=IZ p0 p1 H:=(Zd (C:=cfg) (fn:=Tryz.f252) (c:=Z1 Tryz.f252) (n:=23) [4,5,6] Tryz.func252 (by kernel_rfl) (by kernel_rfl) [p0,p1] (by kernel_rfl) H).trans (by kernel_rfl)
end
end Go.Am
