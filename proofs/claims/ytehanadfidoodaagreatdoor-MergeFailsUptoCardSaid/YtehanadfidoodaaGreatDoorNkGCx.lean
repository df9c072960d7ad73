/-
  The functions of the translation over the abstract machine, a further part: written by program (wip/gen.py).
-/
import Derived.Test.YtehanadfidoodaaGreatDoorNkGx
namespace Go.Am
open Go.Proofs
set_option maxRecDepth 100000
set_option linter.unusedVariables false
set_option linter.unusedSimpArgs false
noncomputable abbrev Zz (f n:Nat):=Yl cfg (Za cfg) (Y8 cfg (cfg.keep f) n) (cfg.keep f) n Zd Z7
noncomputable abbrev Vv (f n:Nat):=Y8 cfg (cfg.keep f) n
noncomputable section
abbrev WG (f n:Nat)(F:Func)(p:List Nat):KL→AL→Hp→Z3:=fun k al H=>Zz f n (sub (Z1 F) p) k (ZR (cfg.keep f) (sub (Z1 F) p) al) H
abbrev Yd (f n:Nat)(F:Func)(p:List Nat):KL→AL→Hp→Z3:=fun k al H=>Vv f n (sub (Z1 F) p) k (ZR (cfg.keep f) (sub (Z1 F) p) al) H
variable (p0 p1 p2 p3 p4 x0 x1 x2 x3 x4 x5 x6 x7 x8 x9 x10 x11 x12 x13 x16 x17 x18 x19 x24 x25 x26 x27 x28 x29 x30:AV)(H0 H:Hp)
def PP:Z3:=Zz 67 39 (sub (Z1 Tryz.f67) [1,1,1,1,1,1]) (Zi cfg 39 67 Tryz.f67 H0) [(9,x9)] H
def GJ:Z3:=Zz 67 39 (sub (Z1 Tryz.f67) [1,1,1,1]) (Zi cfg 39 67 Tryz.f67 H0) [(2,x2),(3,x3),(4,x4),(5,x5)] H
def Nx:Z3:=
 Z0 (ZW p0 H) fun r4=>
 Z0 (ZW p1 r4.2) fun r5=>
 Z0 (Z4 true 5 r5.1 r5.2) fun t10=>
 Z0 (Ze Wt [t10] r5.2) fun r11=>
 Z0 (Zh 5 r5.1 r11.1 r11.2) fun r_5=>
 Z0 (Z4 true 6 r4.1 r_5.2) fun t12=>
 Z0 (Z4 true 5 r5.1 r_5.2) fun t13=>
 Z0 (Ze XU [t12,t13,p2,p3] r_5.2) fun r16=>
 Z0 (Z5 .neq r16.1 (.int .i64 0)) fun t18=>
 Z0 (Z6 t18 false (.tuple []) (Z8 4 r5.1)) fun t20=>
 Z0 (Z6 t18 false (.tuple []) (Z4 false 1 t20 r16.2)) fun t21=>
 Z0 (Zg t18 (.bool true) t21) fun t22=>
 Z0 (Z6 t22 false (.tuple []) (Z8 3 r5.1)) fun t24=>
 Z0 (Z6 t22 false (.tuple []) (Z4 false 1 t24 r16.2)) fun t25=>
 Z0 (Zg t22 (.bool true) t25) fun t26=>
 Zl t26
 (some (r16.1,r16.2))
 (GJ p2 p3 r4.1 r5.1 H r16.2)
theorem Cy:PP x9 H0 H =
 some (x9,H):=Zb [5,8] (by kernel_rfl)
theorem Cx:GJ x2 x3 x4 x5 H0 H =
 Z0 (Z4 true 6 x4 H) fun t28=>
 Z0 (Ze V1 [t28,x2,x3] H) fun r31=>
 Z0 (Z8 2 x5) fun t32=>
 Z0 (Z4 false 1 t32 r31.2) fun t33=>
 Z0 (Z5 .and t33 (.int .i64 2)) fun t34=>
 Z0 (Z5 .neq t34 (.int .i64 0)) fun t35=>
 Zl t35
 (Z0 (Xa .neg r31.1) fun t37=>
 some (t37,r31.2))
 (PP r31.1 H0 r31.2):=Zb [5,8] (by kernel_rfl)
theorem Hk:VG [p0,p1,p2,p3] H=Nx p0 p1 p2 p3 H:=(Zc (C:=cfg) (fn:=Tryz.f67) (c:=Z1 Tryz.f67) (n:=39) [5,8] Tryz.func67 (by kernel_rfl) (by kernel_rfl) [p0,p1,p2,p3] (by kernel_rfl) H).trans (by kernel_rfl)
def FT:Z3:=Zz 72 55 (sub (Z1 Tryz.f72) [1,1,1,1]) (Zi cfg 55 72 Tryz.f72 H0) [] H
def Wp:KL:=Zd (WG 72 55 Tryz.f72 [1,1,1,1]) (Zi cfg 55 72 Tryz.f72 H0)
theorem Ns:ZT 55 (Wp H0):=Zw (C:=cfg) (kp:=cfg.keep 72) (sub (Z1 Tryz.f72) [1,1,1,1]) (ZA 72 Tryz.f72 H0)
def FV:Z3:=Zz 72 55 (sub (Z1 Tryz.f72) [1,1,1,0,1,0,0,1,1,1]) (Zd (Yd 72 55 Tryz.f72 [1,1,1,0,1,0,0]) (Z7 0 (Wp H0))) [(2,x2),(3,x3),(4,x4),(5,x5),(26,x26),(27,x27),(28,x28)] H
def AQ:KL:=Zd (WG 72 55 Tryz.f72 [1,1,1,0,1,0,0,1,1,1]) (Zd (Yd 72 55 Tryz.f72 [1,1,1,0,1,0,0]) (Z7 0 (Wp H0)))
def VZ:Z3:=Zz 72 55 (sub (Z1 Tryz.f72) [1,1,1,0,1,0,0,1,1,0,0,1,1,1]) (Z7 1 (AQ H0)) [(2,x2),(3,x3),(4,x4),(5,x5),(10,x10),(11,x11),(26,x26),(27,x27),(28,x28)] H
def FU:Z3:=Zz 72 55 (sub (Z1 Tryz.f72) [1,1,1,0,1,0,0,1,1]) (Zd (Yd 72 55 Tryz.f72 [1,1,1,0,1,0,0]) (Z7 0 (Wp H0))) [(2,x2),(3,x3),(4,x4),(5,x5),(26,x26),(27,x27),(28,x28),(29,x29)] H
def U0:Z3:=Vv 72 55 (sub (Z1 Tryz.f72) [1,1,1,0,1,0,0]) (Z7 0 (Wp H0)) [(2,x2),(3,x3),(4,x4),(5,x5),(26,x26),(27,x27),(28,x28)] H
def FS:Z3:=Zz 72 55 (sub (Z1 Tryz.f72) [1,1,1]) (Zi cfg 55 72 Tryz.f72 H0) [(2,x2),(3,x3),(4,x4),(5,x5)] H
def Rw:Z3:=
 Z0 (ZW p0 H) fun r4=>
 Z0 (ZW p1 r4.2) fun r5=>
 Z0 (Z4 true 5 r5.1 r5.2) fun t13=>
 Z0 (Ze Wt [t13] r5.2) fun r14=>
 Z0 (Zh 5 r5.1 r14.1 r14.2) fun r_5=>
 Z0 (Z8 0 r5.1) fun t15=>
 Z0 (Z4 false 1 t15 r_5.2) fun t16=>
 Z0 (Zk (.slice 149) t16) fun t17=>
 Z0 (Z5 .eql t17 (.int .i64 0)) fun t18=>
 Zl t18
 (Z0 (Z4 true 6 r4.1 r_5.2) fun t19=>
 Z0 (Z8 2 r5.1) fun t20=>
 Z0 (Z4 false 1 t20 r_5.2) fun t21=>
 Z0 (Ze VH [t19,t21,p2,p3] r_5.2) fun r24=>
 some (r24.1,r24.2))
 (FS p2 p3 r4.1 r5.1 H r_5.2)
theorem LQ:FT H0 H =
 some ((.int .i64 0),H):=Zb [4,6,10,13,14] (by kernel_rfl)
theorem LS:FV x2 x3 x4 x5 x26 x27 x28 H0 H =
 Z0 (Z5 .add x28 (.int .i64 1)) fun t54=>
 U0 x2 x3 x4 x5 x26 x27 t54 H0 H:=Zb [4,6,10,13,14] (by kernel_rfl)
theorem LT:VZ x2 x3 x4 x5 x10 x11 x26 x27 x28 H0 H =
 X3 x4 H fun z4 z4H=>
 X3 x5 z4H fun z5 z5H=>
 X3 x10 z5H fun z10 z10H=>
 Z0 (Yr true 6 z4) fun t38=>
 Z0 (Z4 true 5 z10 z10H) fun t41=>
 Z0 (Z8 1 z5) fun t42=>
 Z0 (Z4 false 1 t42 z10H) fun t43=>
 Z0 (Uh [x2,t41,t43] z10H) fun r44=>
 Z0 (Yr true 5 z10) fun t46=>
 Z0 (Z8 1 z5) fun t47=>
 Z0 (Yr false 1 t47) fun t48=>
 Z0 (Uh [x3,t46,t48] r44.2) fun r49=>
 Z0 (Ze VH [t38,x11,r44.1,r49.1] r49.2) fun r50=>
 Z0 (Z5 .neq r50.1 (.int .i64 0)) fun t52=>
 Zl t52
 (some (r50.1,r50.2))
 (FV x2 x3 z4 z5 x26 x27 x28 H0 r50.2):=Zb [4,6,10,13,14] (by kernel_rfl)
theorem LR:FU x2 x3 x4 x5 x26 x27 x28 x29 H0 H =
 Z0 (Zn 5 x26 x28) fun t30=>
 Z0 (Z4 true 5 t30 H) fun t31=>
 Z0 (some ((.ptr H.length 0),H++[.cells [(.int .i64 0),(.int .i64 0),(.int .i64 0),(.int .i64 0),(.int .i64 0)]])) fun r10=>
 Z0 (Zh 5 r10.1 t31 r10.2) fun r_14=>
 Z0 (Z8 4 r10.1) fun t32=>
 Z0 (Z4 false 1 t32 r_14.2) fun t33=>
 Z0 (Z5 .eql t33 (.int .i64 0)) fun t35=>
 Zl t35
 (Z0 (Z8 2 x5) fun t36=>
 Z0 (Z4 false 1 t36 r_14.2) fun t37=>
 VZ x2 x3 x4 x5 r10.1 t37 x26 x27 x28 H0 r_14.2)
 (VZ x2 x3 x4 x5 r10.1 t33 x26 x27 x28 H0 r_14.2):=Zb [4,6,10,13,14] (by kernel_rfl)
theorem B4:U0 x2 x3 x4 x5 x26 x27 x28 H0 H =
 Z0 (Z5 .lss x28 x27) fun t29=>
 Zl t29
 (FU x2 x3 x4 x5 x26 x27 x28 t29 H0 H)
 (FT H0 H):=(ZB (C:=cfg) [4,6,10,13,14] (Zo 0 (Ns H0)) _ _).trans (by kernel_rfl)
theorem LO:FS x2 x3 x4 x5 H0 H =
 Z0 (Z8 0 x5) fun t25=>
 Z0 (Z4 false 1 t25 H) fun t26=>
 Z0 (Zk (.slice 149) t26) fun t27=>
 U0 x2 x3 x4 x5 t26 t27 (.int .i64 0) H0 H:=Zb [4,6,10,13,14] (by kernel_rfl)
theorem E2:XU [p0,p1,p2,p3] H=Rw p0 p1 p2 p3 H:=(Zc (C:=cfg) (fn:=Tryz.f72) (c:=Z1 Tryz.f72) (n:=55) [4,6,10,13,14] Tryz.func72 (by kernel_rfl) (by kernel_rfl) [p0,p1,p2,p3] (by kernel_rfl) H).trans (by kernel_rfl)
def PX:Z3:=Zz 105 8 (sub (Z1 Tryz.f105) [1,1]) (Zi cfg 8 105 Tryz.f105 H0) [(1,x1),(2,x2)] H
def Bm:Z3:=
 Z0 (ZW p0 H) fun r1=>
 Z0 (some ((.ptr r1.2.length 0),r1.2++[.cells [.nils,(.int .i64 0),(.int .i64 0),(.bool false),(.bool false)]])) fun r2=>
 Z0 (Z4 true 5 r1.1 r2.2) fun t3=>
 Z0 (Ze Wr [t3] r2.2) fun r4=>
 Z0 (Z5 .neq r4.1 (.int .i64 0)) fun t5=>
 Zl t5
 (Z0 ((YS [(1,1,(.int .i64 (-1)))] [.nils,(.int .i64 0),(.int .i64 0),(.bool false),(.bool false)]).map .agg) fun t6=>
 Z0 (Zh 5 r2.1 t6 r4.2) fun r_10=>
 Z0 (Z4 true 5 r2.1 r_10.2) fun v2=>
 some (v2,r_10.2))
 (PX r1.1 r2.1 H r4.2)
theorem CN:PX x1 x2 H0 H =
 Z0 (Z4 true 5 x1 H) fun t7=>
 Z0 (Zh 5 x2 t7 H) fun r_4=>
 Z0 (Z4 true 5 x2 r_4.2) fun v2=>
 some (v2,r_4.2):=Zb [3] (by kernel_rfl)
theorem Fu:Wt [p0] H=Bm p0 H:=(Zc (C:=cfg) (fn:=Tryz.f105) (c:=Z1 Tryz.f105) (n:=8) [3] Tryz.func105 (by kernel_rfl) (by kernel_rfl) [p0] (by kernel_rfl) H).trans (by kernel_rfl)
def RM:Z3:=Zz 106 60 (sub (Z1 Tryz.f106) [1,1,1,1,1,1,1]) (Zi cfg 60 106 Tryz.f106 H0) [(1,x1),(2,x2)] H
def RL:Z3:=Zz 106 60 (sub (Z1 Tryz.f106) [1,1,1,1,1,1]) (Zi cfg 60 106 Tryz.f106 H0) [(1,x1),(2,x2),(8,x8),(9,x9)] H
def RK:Z3:=Zz 106 60 (sub (Z1 Tryz.f106) [1,1,1,1,1]) (Zi cfg 60 106 Tryz.f106 H0) [(1,x1),(2,x2),(8,x8),(9,x9)] H
def WF:KL:=Zd (WG 106 60 Tryz.f106 [1,1,1,1,1]) (Zi cfg 60 106 Tryz.f106 H0)
theorem MM:ZT 60 (WF H0):=Zw (C:=cfg) (kp:=cfg.keep 106) (sub (Z1 Tryz.f106) [1,1,1,1,1]) (ZA 106 Tryz.f106 H0)
def RO:Z3:=Zz 106 60 (sub (Z1 Tryz.f106) [1,1,1,1,0,1,0,0,1,1,1]) (Zd (Yd 106 60 Tryz.f106 [1,1,1,1,0,1,0,0]) (Z7 0 (WF H0))) [(1,x1),(2,x2),(8,x8),(9,x9),(24,x24),(25,x25)] H
def IB:KL:=Zd (WG 106 60 Tryz.f106 [1,1,1,1,0,1,0,0,1,1,1]) (Zd (Yd 106 60 Tryz.f106 [1,1,1,1,0,1,0,0]) (Z7 0 (WF H0)))
def RP:Z3:=Zz 106 60 (sub (Z1 Tryz.f106) [1,1,1,1,0,1,0,0,1,1,0,0,1,1]) (Z7 1 (IB H0)) [(1,x1),(2,x2),(8,x8),(9,x9),(10,x10),(24,x24),(25,x25)] H
def RN:Z3:=Zz 106 60 (sub (Z1 Tryz.f106) [1,1,1,1,0,1,0,0,1,1]) (Zd (Yd 106 60 Tryz.f106 [1,1,1,1,0,1,0,0]) (Z7 0 (WF H0))) [(1,x1),(2,x2),(8,x8),(9,x9),(24,x24),(25,x25),(26,x26)] H
def Un:Z3:=Vv 106 60 (sub (Z1 Tryz.f106) [1,1,1,1,0,1,0,0]) (Z7 0 (WF H0)) [(1,x1),(2,x2),(8,x8),(9,x9),(24,x24),(25,x25)] H
def TR:Z3:=
 Z0 (ZW p0 H) fun r3=>
 Z0 (Z4 true 6 r3.1 r3.2) fun t11=>
 Z0 (Ze WW [t11] r3.2) fun r12=>
 Z0 (Zh 6 r3.1 r12.1 r12.2) fun r_4=>
 X3 r3.1 r_4.2 fun z3 z3H=>
 Z0 (some (.fn (.func 148) [] [z3])) fun t13=>
 Z0 (Xd cfg (Za cfg) t13 [p1] z3H) fun r16=>
 Z0 (Yp cfg (Za cfg) t13 [p2] r16.2) fun r19=>
 Z0 (Zk (.slice 3) r16.1) fun t21=>
 Z0 (Zk (.slice 3) r19.1) fun t23=>
 Z0 (VJ t21 t23) fun t24=>
 Un p1 p2 r16.1 r19.1 t24 (.int .i64 0) H r19.2
theorem ET:RM x1 x2 H0 H =
 Z0 (Ze Ku [x1,x2] H) fun r59=>
 some (r59.1,r59.2):=Zb [6,9,11,12,14,16] (by kernel_rfl)
theorem ES:RL x1 x2 x8 x9 H0 H =
 Z0 (Zk (.slice 3) x8) fun t53=>
 Z0 (Zk (.slice 3) x9) fun t55=>
 Z0 (Z5 .gtr t53 t55) fun t56=>
 Zl t56
 (some ((.int .i64 1),H))
 (RM x1 x2 H0 H):=Zb [6,9,11,12,14,16] (by kernel_rfl)
theorem ER:RK x1 x2 x8 x9 H0 H =
 Z0 (Zk (.slice 3) x8) fun t48=>
 Z0 (Zk (.slice 3) x9) fun t50=>
 Z0 (Z5 .lss t48 t50) fun t51=>
 Zl t51
 (some ((.int .i64 (-1)),H))
 (RL x1 x2 x8 x9 H0 H):=Zb [6,9,11,12,14,16] (by kernel_rfl)
theorem EV:RO x1 x2 x8 x9 x24 x25 H0 H =
 Z0 (Z5 .add x25 (.int .i64 1)) fun t46=>
 Un x1 x2 x8 x9 x24 t46 H0 H:=Zb [6,9,11,12,14,16] (by kernel_rfl)
theorem EW:RP x1 x2 x8 x9 x10 x24 x25 H0 H =
 Z0 (Zn 1 x8 x10) fun t39=>
 Z0 (Z4 false 1 t39 H) fun t40=>
 Z0 (Zn 1 x9 x10) fun t43=>
 Z0 (Z4 false 1 t43 H) fun t44=>
 Z0 (Z5 .gtr t40 t44) fun t45=>
 Zl t45
 (some ((.int .i64 1),H))
 (RO x1 x2 x8 x9 x24 x25 H0 H):=Zb [6,9,11,12,14,16] (by kernel_rfl)
theorem EU:RN x1 x2 x8 x9 x24 x25 x26 H0 H =
 Z0 (Zn 1 x8 x25) fun t30=>
 Z0 (Z4 false 1 t30 H) fun t31=>
 Z0 (Zn 1 x9 x25) fun t34=>
 Z0 (Z4 false 1 t34 H) fun t35=>
 Z0 (Z5 .lss t31 t35) fun t36=>
 Zl t36
 (some ((.int .i64 (-1)),H))
 (RP x1 x2 x8 x9 x25 x24 x25 H0 H):=Zb [6,9,11,12,14,16] (by kernel_rfl)
theorem BW:Un x1 x2 x8 x9 x24 x25 H0 H =
 Z0 (Z5 .lss x25 x24) fun t26=>
 Zl t26
 (RN x1 x2 x8 x9 x24 x25 t26 H0 H)
 (RK x1 x2 x8 x9 H0 H):=(ZB (C:=cfg) [6,9,11,12,14,16] (Zo 0 (MM H0)) _ _).trans (by kernel_rfl)
theorem C9:V1 [p0,p1,p2] H=TR p0 p1 p2 H:=(Zc (C:=cfg) (fn:=Tryz.f106) (c:=Z1 Tryz.f106) (n:=60) [6,9,11,12,14,16] Tryz.func106 (by kernel_rfl) (by kernel_rfl) [p0,p1,p2] (by kernel_rfl) H).trans (by kernel_rfl)
def GP:Z3:=Zz 107 50 (sub (Z1 Tryz.f107) [1,1,1,1]) (Zi cfg 50 107 Tryz.f107 H0) [(4,x4),(5,x5),(6,x6),(7,x7),(9,x9)] H
def Qp:Z3:=Zz 107 50 (sub (Z1 Tryz.f107) [1,1,1]) (Zi cfg 50 107 Tryz.f107 H0) [(4,x4),(5,x5),(6,x6),(7,x7),(9,x9)] H
def NA:Z3:=
 Z0 (ZW p0 H) fun r4=>
 Z0 (ZW p1 r4.2) fun r5=>
 Z0 (ZW p2 r5.2) fun r6=>
 Z0 (ZW p3 r6.2) fun r7=>
 Z0 (Z4 false 1 r5.1 r7.2) fun t15=>
 Z0 (Z5 .and t15 (.int .i64 2)) fun t16=>
 Z0 (Z5 .neq t16 (.int .i64 0)) fun t17=>
 Zl t17
 (Qp r4.1 r5.1 r6.1 r7.1 (.int .i64 (-1)) H r7.2)
 (Qp r4.1 r5.1 r6.1 r7.1 (.int .i64 1) H r7.2)
theorem CM:GP x4 x5 x6 x7 x9 H0 H =
 Z0 (some (.fn (.func 154) [] [x5,x6,x7])) fun t36=>
 Z0 (Yp cfg (Za cfg) t36 [(.int .i64 8),(.fn (.func 155) [] [])] H) fun r38=>
 Z0 (Yp cfg (Za cfg) t36 [(.int .i64 16),(.fn (.func 157) [] [])] r38.2) fun r40=>
 X3 x4 r40.2 fun z4 z4H=>
 Z0 (some (.fn (.func 158) [] [z4])) fun t42=>
 Z0 (Yp cfg (Za cfg) t36 [(.int .i64 4),t42] z4H) fun r43=>
 Z0 (Z4 true 6 z4 r43.2) fun t45=>
 Z0 (Z4 false 1 x6 r43.2) fun t46=>
 Z0 (Z4 false 1 x7 r43.2) fun t47=>
 Z0 (Ze V1 [t45,t46,t47] r43.2) fun r48=>
 Z0 (Z5 .mul x9 r48.1) fun t49=>
 some (t49,r48.2):=Zb [4,8] (by kernel_rfl)
theorem CK:Qp x4 x5 x6 x7 x9 H0 H =
 Z0 (Z4 false 1 x5 H) fun t18=>
 Z0 (Z5 .and t18 (.int .i64 1)) fun t19=>
 Z0 (Z5 .neq t19 (.int .i64 0)) fun t20=>
 Zl t20
 (Z0 (Z4 false 1 x6 H) fun t22=>
 Z0 (Ze UP [t22] H) fun r23=>
 Z0 (ZC r23.1 0) fun t24=>
 Z0 (ZC r23.1 1) fun t25=>
 Z0 (Z4 false 1 x7 r23.2) fun t27=>
 Z0 (Ze UP [t27] r23.2) fun r28=>
 Z0 (ZC r28.1 0) fun t29=>
 Z0 (ZC r28.1 1) fun t30=>
 Z0 (Ze DO [t24,t29] r28.2) fun r34=>
 Z0 (Z5 .mul x9 r34.1) fun t35=>
 some (t35,r34.2))
 (GP x4 x5 x6 x7 x9 H0 H):=Zb [4,8] (by kernel_rfl)
theorem Hn:VH [p0,p1,p2,p3] H=NA p0 p1 p2 p3 H:=(Zc (C:=cfg) (fn:=Tryz.f107) (c:=Z1 Tryz.f107) (n:=50) [4,8] Tryz.func107 (by kernel_rfl) (by kernel_rfl) [p0,p1,p2,p3] (by kernel_rfl) H).trans (by kernel_rfl)
def SF:Z3:=Zz 127 59 (sub (Z1 Tryz.f127) [1,1,1]) (Zi cfg 59 127 Tryz.f127 H0) [] H
def Gs:KL:=Zd (WG 127 59 Tryz.f127 [1,1,1]) (Zi cfg 59 127 Tryz.f127 H0)
theorem HF:ZT 59 (Gs H0):=Zw (C:=cfg) (kp:=cfg.keep 127) (sub (Z1 Tryz.f127) [1,1,1]) (ZA 127 Tryz.f127 H0)
def Ra:Z3:=Zz 127 59 (sub (Z1 Tryz.f127) [1,1,0,1,0,0,1,1]) (Zd (Yd 127 59 Tryz.f127 [1,1,0,1,0,0]) (Z7 0 (Gs H0))) [(0,x0),(3,x3)] H
def R9:Z3:=Zz 127 59 (sub (Z1 Tryz.f127) [1,1,0,1,0,0,1]) (Zd (Yd 127 59 Tryz.f127 [1,1,0,1,0,0]) (Z7 0 (Gs H0))) [(0,x0),(3,x3)] H
def Gt:Z3:=Vv 127 59 (sub (Z1 Tryz.f127) [1,1,0,1,0,0]) (Z7 0 (Gs H0)) [(0,x0),(3,x3)] H
def SE:Z3:=Zz 127 59 (sub (Z1 Tryz.f127) [1,1]) (Zi cfg 59 127 Tryz.f127 H0) [(0,x0)] H
def CZ:Z3:=
 Z0 (Zk .string p0) fun t6=>
 Z0 (Z5 .eql t6 (.int .i64 0)) fun t7=>
 Z0 (Z6 t7 false (.tuple []) (some p0)) fun t9=>
 Z0 (Z6 t7 false (.tuple []) (Zk .string t9)) fun t10=>
 Z0 (Z6 t7 false (.tuple []) (Z5 .gtr t10 (.int .i64 32))) fun t11=>
 Z0 (Zg t7 (.bool true) t11) fun t12=>
 Z0 (Z6 t12 false (.tuple []) (some p0)) fun t14=>
 Z0 (Z6 t12 false (.tuple []) (Zu t14 (.int .i64 0))) fun t15=>
 Z0 (Z6 t12 false (.tuple []) (Z5 .geq t15 (.int .u8 48))) fun t16=>
 Z0 (Z6 t12 false (.tuple []) (some t16)) fun t17=>
 Z0 (Z6 t17 true (.tuple []) (some p0)) fun t18=>
 Z0 (Z6 t17 true (.tuple []) (Zu t18 (.int .i64 0))) fun t19=>
 Z0 (Z6 t17 true (.tuple []) (Z5 .leq t19 (.int .u8 57))) fun t20=>
 Z0 (Z6 t12 false (.tuple []) (Zg t17 t20 (.bool false))) fun t21=>
 Z0 (Zg t12 (.bool true) t21) fun t22=>
 Zl t22
 (some ((.bool false),H))
 (SE p0 H H)
theorem Ou:SF H0 H =
 some ((.bool true),H):=Zb [3,5,6,9] (by kernel_rfl)
theorem Ow:Ra x0 x3 H0 H =
 Z0 (Z5 .add x3 (.int .i64 1)) fun t28=>
 Gt x0 t28 H0 H:=Zb [3,5,6,9] (by kernel_rfl)
theorem Ov:R9 x0 x3 H0 H =
 Z0 (Zu x0 x3) fun t31=>
 Z0 (Z5 .geq t31 (.int .u8 97)) fun t33=>
 Z0 (Z6 t33 true (.tuple []) (some t31)) fun t35=>
 Z0 (Z6 t33 true (.tuple []) (Z5 .leq t35 (.int .u8 122))) fun t36=>
 Z0 (Zg t33 t36 (.bool false)) fun t37=>
 Z0 (Z6 t37 false (.tuple []) (some t31)) fun t39=>
 Z0 (Z6 t37 false (.tuple []) (Z5 .geq t39 (.int .u8 65))) fun t40=>
 Z0 (Z6 t37 false (.tuple []) (some t40)) fun t41=>
 Z0 (Z6 t41 true (.tuple []) (some t31)) fun t42=>
 Z0 (Z6 t41 true (.tuple []) (Z5 .leq t42 (.int .u8 90))) fun t43=>
 Z0 (Z6 t37 false (.tuple []) (Zg t41 t43 (.bool false))) fun t44=>
 Z0 (Zg t37 (.bool true) t44) fun t45=>
 Z0 (Z6 t45 false (.tuple []) (some t31)) fun t47=>
 Z0 (Z6 t45 false (.tuple []) (Z5 .geq t47 (.int .u8 48))) fun t48=>
 Z0 (Z6 t45 false (.tuple []) (some t48)) fun t49=>
 Z0 (Z6 t49 true (.tuple []) (some t31)) fun t50=>
 Z0 (Z6 t49 true (.tuple []) (Z5 .leq t50 (.int .u8 57))) fun t51=>
 Z0 (Z6 t45 false (.tuple []) (Zg t49 t51 (.bool false))) fun t52=>
 Z0 (Zg t45 (.bool true) t52) fun t53=>
 Z0 (Z6 t53 false (.tuple []) (some t31)) fun t55=>
 Z0 (Z6 t53 false (.tuple []) (Z5 .eql t55 (.int .u8 95))) fun t56=>
 Z0 (Zg t53 (.bool true) t56) fun t57=>
 Z0 (Xa .not t57) fun t58=>
 Zl t58
 (some ((.bool false),H))
 (Ra x0 x3 H0 H):=Zb [3,5,6,9] (by kernel_rfl)
theorem Pb:Gt x0 x3 H0 H =
 Z0 (Zk .string x0) fun t25=>
 Z0 (Z5 .lss x3 t25) fun t26=>
 Zl t26
 (R9 x0 x3 H0 H)
 (SF H0 H):=(ZB (C:=cfg) [3,5,6,9] (Zo 0 (HF H0)) _ _).trans (by kernel_rfl)
theorem Ot:SE x0 H0 H =
 Gt x0 (.int .i64 0) H0 H:=Zb [3,5,6,9] (by kernel_rfl)
theorem Zai:J5 [p0] H=CZ p0 H:=(Zc (C:=cfg) (fn:=Tryz.f127) (c:=Z1 Tryz.f127) (n:=59) [3,5,6,9] Tryz.func127 (by kernel_rfl) (by kernel_rfl) [p0] (by kernel_rfl) H).trans (by kernel_rfl)
def M7:Z3:=Zz 147 16 (sub (Z1 Tryz.f147) [1,1]) (Zi cfg 16 147 Tryz.f147 H0) [(1,x1),(2,x2)] H
def DP:Z3:=
 Z0 (ZW p0 H) fun r1=>
 Z0 (some ((.ptr r1.2.length 0),r1.2++[.cells [(.str []),.nils,(.str []),(.str []),.nils,.nils]])) fun r2=>
 Z0 (Z4 true 6 r1.1 r2.2) fun t4=>
 Z0 (Ze Ju [t4] r2.2) fun r5=>
 Z0 (Z5 .neq r5.1 (.int .i64 0)) fun t6=>
 Zl t6
 (Z0 (Ze TK [] r5.2) fun r7=>
 Z0 (Zh 6 r2.1 r7.1 r7.2) fun r_16=>
 Z0 (Z4 true 6 r2.1 r_16.2) fun v2=>
 some (v2,r_16.2))
 (M7 r1.1 r2.1 H r5.2)
theorem AG:M7 x1 x2 H0 H =
 Z0 (JD 1 8 false (.int .i64 0) (.int .i64 256) (.int .i64 256) H) fun r8=>
 Z0 (Z8 1 x1) fun t10=>
 Z0 (Z4 false 1 t10 r8.2) fun t11=>
 Z0 (NJ 1 r8.1 t11 r8.2) fun r12=>
 Z0 (Z8 1 x1) fun t14=>
 Z0 (Zh 1 t14 r8.1 r12.2) fun r_8=>
 Z0 (Z4 true 6 x1 r_8.2) fun t15=>
 Z0 (Zh 6 x2 t15 r_8.2) fun r_10=>
 Z0 (Z4 true 6 x2 r_10.2) fun v2=>
 some (v2,r_10.2):=Zb [3] (by kernel_rfl)
theorem Rv:WW [p0] H=DP p0 H:=(Zc (C:=cfg) (fn:=Tryz.f147) (c:=Z1 Tryz.f147) (n:=16) [3] Tryz.func147 (by kernel_rfl) (by kernel_rfl) [p0] (by kernel_rfl) H).trans (by kernel_rfl)
def Fq:Z3:=
 Z0 (some ((.ptr H.length 0),H++[.cells [.nils]])) fun r4=>
 Z0 (Z4 true 6 p1 r4.2) fun t5=>
 Z0 (some (.fn (.func 150) [] [r4.1])) fun t7=>
 Z0 (R4 [t5,p0,t7] r4.2) fun r8=>
 Z0 (Z4 false 1 r4.1 r8.2) fun t9=>
 some (t9,r8.2)
theorem Lf:VF [p0,p1] H=Fq p0 p1 H:=(Zc (C:=cfg) (fn:=Tryz.f148) (c:=Z1 Tryz.f148) (n:=10) [] Tryz.func148 (by kernel_rfl) (by kernel_rfl) [p0,p1] (by kernel_rfl) H).trans (by kernel_rfl)
def LD:Z3:=Zz 149 75 (sub (Z1 Tryz.f149) [1,1,1,1,0,0,1,0,1,1,1]) (Z7 3 (Zd (Yd 149 75 Tryz.f149 [1,1,1,1,0,0]) (Z7 2 (Zi cfg 75 149 Tryz.f149 H0)))) [(1,x1),(2,x2),(3,x3),(6,x6),(9,x9),(10,x10)] H
def UD:Z3:=Zz 149 75 (sub (Z1 Tryz.f149) [1,1,1,1,0,0,1,0,1,1]) (Z7 3 (Zd (Yd 149 75 Tryz.f149 [1,1,1,1,0,0]) (Z7 2 (Zi cfg 75 149 Tryz.f149 H0)))) [(1,x1),(2,x2),(3,x3),(6,x6),(9,x9),(10,x10),(11,x11)] H
def LC:Z3:=Zz 149 75 (sub (Z1 Tryz.f149) [1,1,1,1,0,0,1]) (Zd (Yd 149 75 Tryz.f149 [1,1,1,1,0,0]) (Z7 2 (Zi cfg 75 149 Tryz.f149 H0))) [(1,x1),(2,x2),(3,x3),(6,x6),(9,x9)] H
def JK:Z3:=Vv 149 75 (sub (Z1 Tryz.f149) [1,1,1,1,0,0]) (Z7 2 (Zi cfg 75 149 Tryz.f149 H0)) [(1,x1),(2,x2),(3,x3),(6,x6),(9,x9)] H
def F2:Z3:=Zz 149 75 (sub (Z1 Tryz.f149) [1,1,1]) (Zi cfg 75 149 Tryz.f149 H0) [(1,x1),(2,x2),(3,x3),(6,x6)] H
def JJ:KL:=Zd (WG 149 75 Tryz.f149 [1,1,1]) (Zi cfg 75 149 Tryz.f149 H0)
theorem Cn:ZT 75 (JJ H0):=Zw (C:=cfg) (kp:=cfg.keep 149) (sub (Z1 Tryz.f149) [1,1,1]) (ZA 149 Tryz.f149 H0)
def LF:Z3:=Zz 149 75 (sub (Z1 Tryz.f149) [1,1,0,1,0,0,1,1,1]) (Zd (Yd 149 75 Tryz.f149 [1,1,0,1,0,0]) (Z7 0 (JJ H0))) [(1,x1),(2,x2),(3,x3),(6,x6),(16,x16),(17,x17),(18,x18)] H
def LE:Z3:=Zz 149 75 (sub (Z1 Tryz.f149) [1,1,0,1,0,0,1,1]) (Zd (Yd 149 75 Tryz.f149 [1,1,0,1,0,0]) (Z7 0 (JJ H0))) [(1,x1),(2,x2),(3,x3),(6,x6),(16,x16),(17,x17),(18,x18),(19,x19)] H
def JL:Z3:=Vv 149 75 (sub (Z1 Tryz.f149) [1,1,0,1,0,0]) (Z7 0 (JJ H0)) [(1,x1),(2,x2),(3,x3),(6,x6),(16,x16),(17,x17),(18,x18)] H
def Sx:Z3:=
 Z0 (ZW p0 H) fun r3=>
 Z0 (some ((.map r3.2.length),r3.2++[.map [] 0])) fun r14=>
 Z0 (Z8 5 r3.1) fun t15=>
 Z0 (Z4 false 1 t15 r14.2) fun t16=>
 Z0 (Zk (.slice 210) t16) fun t17=>
 JL p1 p2 r3.1 r14.1 t16 t17 (.int .i64 0) H r14.2
theorem RR:LD x1 x2 x3 x6 x9 x10 H0 H =
 Z0 (Zk .string x10) fun t73=>
 Z0 (Z5 .add x9 t73) fun t74=>
 JK x1 x2 x3 x6 t74 H0 H:=Zb [4,6,7,9,14,15] (by kernel_rfl)
theorem RQ:UD x1 x2 x3 x6 x9 x10 x11 H0 H =
 Z0 (Yp cfg (Za cfg) x2 [x10,x11] H) fun r69=>
 Z0 (Xa .not r69.1) fun t70=>
 Zl t70
 (some ((.tuple []),r69.2))
 (LD x1 x2 x3 x6 x9 x10 H0 r69.2):=Zb [4,6,7,9,14,15] (by kernel_rfl)
theorem ID:LC x1 x2 x3 x6 x9 H0 H =
 Z0 (Z5 .add x9 (.int .i64 1)) fun t35=>
 Z0 (Y7 x1 (some x9) (some t35) none) fun t36=>
 Z0 (Z8 1 x3) fun t37=>
 Z0 (Z4 false 1 t37 H) fun t38=>
 Z0 (Zu x1 x9) fun t41=>
 Z0 (Zn 1 t38 t41) fun t42=>
 Z0 (Z4 false 1 t42 H) fun t43=>
 Z0 (Z5 .add x9 (.int .i64 2)) fun t45=>
 Z0 (Zk .string x1) fun t47=>
 Z0 (Z5 .leq t45 t47) fun t48=>
 Zl t48
 (Z0 (Z5 .add x9 (.int .i64 2)) fun t54=>
 Z0 (Y7 x1 (some x9) (some t54) none) fun t55=>
 Z0 (ZZ .string (.int .i64 0) true x6 t55 H) fun t56=>
 Z0 (ZC t56 0) fun t57=>
 Z0 (ZC t56 1) fun t58=>
 Zl t58
 (Z0 (Z5 .add x9 (.int .i64 2)) fun t63=>
 Z0 (Y7 x1 (some x9) (some t63) none) fun t64=>
 UD x1 x2 x3 x6 x9 t64 t57 H0 H)
 (UD x1 x2 x3 x6 x9 t36 t43 H0 H))
 (UD x1 x2 x3 x6 x9 t36 t43 H0 H):=Zb [4,6,7,9,14,15] (by kernel_rfl)
theorem KD:JK x1 x2 x3 x6 x9 H0 H =
 Z0 (Zk .string x1) fun t30=>
 Z0 (Z5 .lss x9 t30) fun t31=>
 Zl t31
 (LC x1 x2 x3 x6 x9 H0 H)
 (some ((.tuple []),H)):=(ZB (C:=cfg) [4,6,7,9,14,15] (Zo 2 (ZA 149 Tryz.f149 H0)) _ _).trans (by kernel_rfl)
theorem IC:F2 x1 x2 x3 x6 H0 H =
 JK x1 x2 x3 x6 (.int .i64 0) H0 H:=Zb [4,6,7,9,14,15] (by kernel_rfl)
theorem IF:LF x1 x2 x3 x6 x16 x17 x18 H0 H =
 Z0 (Z5 .add x18 (.int .i64 1)) fun t27=>
 JL x1 x2 x3 x6 x16 x17 t27 H0 H:=Zb [4,6,7,9,14,15] (by kernel_rfl)
theorem IE:LE x1 x2 x3 x6 x16 x17 x18 x19 H0 H =
 Z0 (Zn 2 x16 x18) fun t20=>
 Z0 (Z4 true 2 t20 H) fun t21=>
 Z0 (some ((.ptr H.length 0),H++[.cells [(.str []),(.int .i64 0)]])) fun r8=>
 Z0 (Zh 2 r8.1 t21 r8.2) fun r_34=>
 Z0 (Z8 0 r8.1) fun t23=>
 Z0 (Z4 false 1 t23 r_34.2) fun t24=>
 Z0 (Z8 1 r8.1) fun t25=>
 Z0 (Z4 false 1 t25 r_34.2) fun t26=>
 Z0 (Xb .string x6 t24 t26 r_34.2) fun r_39=>
 LF x1 x2 x3 x6 x16 x17 x18 H0 r_39.2:=Zb [4,6,7,9,14,15] (by kernel_rfl)
theorem RT:JL x1 x2 x3 x6 x16 x17 x18 H0 H =
 Z0 (Z5 .lss x18 x17) fun t19=>
 Zl t19
 (LE x1 x2 x3 x6 x16 x17 x18 t19 H0 H)
 (F2 x1 x2 x3 x6 H0 H):=(ZB (C:=cfg) [4,6,7,9,14,15] (Zo 0 (Cn H0)) _ _).trans (by kernel_rfl)
theorem Ol:R4 [p0,p1,p2] H=Sx p0 p1 p2 H:=(Zc (C:=cfg) (fn:=Tryz.f149) (c:=Z1 Tryz.f149) (n:=75) [4,6,7,9,14,15] Tryz.func149 (by kernel_rfl) (by kernel_rfl) [p0,p1,p2] (by kernel_rfl) H).trans (by kernel_rfl)
def Bl (p0 p1 p2:AV)(H:Hp):Z3:=
 Z0 (Z4 false 1 p2 H) fun t6=>
 Z0 ((ZF 1 [(0,p1)] [(.int .i64 0)]).map (.vs 1 .clip)) fun t8=>
 Z0 (Y6 1 8 t6 t8 H) fun r9=>
 Z0 (Zh 1 p2 r9.1 r9.2) fun r_4=>
 some ((.bool true),r_4.2)
theorem Nb:UR [p0,p1,p2] H=Bl p0 p1 p2 H:=(Zc (C:=cfg) (fn:=Tryz.f150) (c:=Z1 Tryz.f150) (n:=10) [] Tryz.func150 (by kernel_rfl) (by kernel_rfl) [p0,p1,p2] (by kernel_rfl) H).trans (by kernel_rfl)
def RB:Z3:=
 Z0 (Ze Xm [p0,p1] H) fun r7=>
 some (r7.1,r7.2)
theorem E7:Ku [p0,p1] H=RB p0 p1 H:=(Zc (C:=cfg) (fn:=Tryz.f151) (c:=Z1 Tryz.f151) (n:=8) [] Tryz.func151 (by kernel_rfl) (by kernel_rfl) [p0,p1] (by kernel_rfl) H).trans (by kernel_rfl)
def KA:Z3:=Zz 152 116 (sub (Z1 Tryz.f152) [1,1,1,1,1,1,1,1,1,1,1]) (Zi cfg 116 152 Tryz.f152 H0) [(9,x9),(11,x11)] H
def Kz:Z3:=Zz 152 116 (sub (Z1 Tryz.f152) [1,1,1,1,1,1,1,1,1]) (Zi cfg 116 152 Tryz.f152 H0) [(5,x5),(7,x7),(8,x8),(9,x9)] H
def XV:Z3:=Zz 152 116 (sub (Z1 Tryz.f152) [1,1,1,1,1,1,1,1]) (Zi cfg 116 152 Tryz.f152 H0) [(5,x5),(6,x6),(7,x7),(8,x8),(9,x9)] H
def Uj:Z3:=Zz 152 116 (sub (Z1 Tryz.f152) [1,1,1,1,1]) (Zi cfg 116 152 Tryz.f152 H0) [(0,x0),(4,x4),(5,x5)] H
def Ky:Z3:=Zz 152 116 (sub (Z1 Tryz.f152) [1,1,1]) (Zi cfg 116 152 Tryz.f152 H0) [(0,x0),(4,x4)] H
def KB:KL:=Zd (WG 152 116 Tryz.f152 [1,1,1]) (Zi cfg 116 152 Tryz.f152 H0)
theorem ME:ZT 116 (KB H0):=Zw (C:=cfg) (kp:=cfg.keep 152) (sub (Z1 Tryz.f152) [1,1,1]) (ZA 152 Tryz.f152 H0)
def RH:Z3:=Zz 152 116 (sub (Z1 Tryz.f152) [1,1,0,0,0,1]) (Zd (Yd 152 116 Tryz.f152 [1,1,0,0,0]) (Z7 0 (KB H0))) [(0,x0),(4,x4)] H
def Uk:Z3:=Vv 152 116 (sub (Z1 Tryz.f152) [1,1,0,0,0]) (Z7 0 (KB H0)) [(0,x0),(4,x4)] H
def Oj:Z3:=
 Uk p0 (.int .i64 0) H H
theorem BI:KA x9 x11 H0 H =
 some ((.tuple [x11,x9]),H):=Zb [3,4,7,14,16,19] (by kernel_rfl)
theorem Ez:Kz x5 x7 x8 x9 H0 H =
 Z0 (Ze Bi [x7,x8] H) fun r109=>
 Z0 (VJ (.int .i64 10000000000000) r109.1) fun t110=>
 Zl x5
 (Z0 (Xa .neg t110) fun t113=>
 KA x9 t113 H0 r109.2)
 (KA x9 t110 H0 r109.2):=Zb [3,4,7,14,16,19] (by kernel_rfl)
theorem Ey:XV x5 x6 x7 x8 x9 H0 H =
 Z0 (Z5 .eql x6 (.int .i64 0)) fun t102=>
 Z0 (Z6 t102 true (.tuple []) (some x8)) fun t104=>
 Z0 (Z6 t102 true (.tuple []) (Yh .eql t104 (.str []))) fun t105=>
 Z0 (Zg t102 t105 (.bool false)) fun t106=>
 Zl t106
 (some ((.tuple [(.int .i64 0),(.int .i64 0)]),H))
 (Kz x5 x7 x8 x9 H0 H):=Zb [3,4,7,14,16,19] (by kernel_rfl)
theorem Ex:Uj x0 x4 x5 H0 H =
 Z0 (Y7 x0 (some x4) none none) fun t57=>
 Z0 (Ze UQ [t57] H) fun r58=>
 Z0 (Z5 .add x4 r58.1) fun t63=>
 Z0 (Y7 x0 (some x4) (some t63) none) fun t64=>
 Z0 (Z5 .add x4 r58.1) fun t67=>
 Z0 (Zk .string x0) fun t70=>
 Z0 (Z5 .lss t67 t70) fun t71=>
 Z0 (Z6 t71 true (.tuple []) (some x0)) fun t73=>
 Z0 (Z6 t71 true (.tuple []) (some t67)) fun t74=>
 Z0 (Z6 t71 true (.tuple []) (Zu t73 t74)) fun t75=>
 Z0 (Z6 t71 true (.tuple []) (Z5 .eql t75 (.int .u8 46))) fun t76=>
 Z0 (Zg t71 t76 (.bool false)) fun t77=>
 Zl t77
 (Z0 (Z5 .add t67 (.int .i64 1)) fun t80=>
 Z0 (Y7 x0 (some t80) none none) fun t81=>
 Z0 (Ze UQ [t81] r58.2) fun r82=>
 Z0 (Z5 .gtr r58.1 (.int .i64 0)) fun t84=>
 Z0 (Z6 t84 false (.tuple []) (some r82.1)) fun t86=>
 Z0 (Z6 t84 false (.tuple []) (Z5 .gtr t86 (.int .i64 0))) fun t87=>
 Z0 (Zg t84 (.bool true) t87) fun t88=>
 Zl t88
 (Z0 (Z5 .add t67 (.int .i64 1)) fun t91=>
 Z0 (Z5 .add t67 (.int .i64 1)) fun t93=>
 Z0 (Z5 .add t93 r82.1) fun t95=>
 Z0 (Y7 x0 (some t91) (some t95) none) fun t96=>
 Z0 (Z5 .add (.int .i64 1) r82.1) fun t99=>
 Z0 (Z5 .add t67 t99) fun t100=>
 XV x5 r58.1 t64 t96 t100 H0 r82.2)
 (XV x5 r58.1 t64 (.str []) t67 H0 r82.2))
 (XV x5 r58.1 t64 (.str []) t67 H0 r58.2):=Zb [3,4,7,14,16,19] (by kernel_rfl)
theorem Ew:Ky x0 x4 H0 H =
 Z0 (Zk .string x0) fun t32=>
 Z0 (Z5 .lss x4 t32) fun t33=>
 Z0 (Z6 t33 true (.tuple []) (some x0)) fun t35=>
 Z0 (Z6 t33 true (.tuple []) (some x4)) fun t36=>
 Z0 (Z6 t33 true (.tuple []) (Zu t35 t36)) fun t37=>
 Z0 (Z6 t33 true (.tuple []) (Z5 .eql t37 (.int .u8 45))) fun t38=>
 Z0 (Zg t33 t38 (.bool false)) fun t39=>
 Z0 (Z6 t39 false (.tuple []) (some x4)) fun t42=>
 Z0 (Z6 t39 false (.tuple []) (some x0)) fun t43=>
 Z0 (Z6 t39 false (.tuple []) (Zk .string t43)) fun t44=>
 Z0 (Z6 t39 false (.tuple []) (Z5 .lss t42 t44)) fun t45=>
 Z0 (Z6 t39 false (.tuple []) (some t45)) fun t46=>
 Z0 (Z6 t46 true (.tuple []) (some x0)) fun t47=>
 Z0 (Z6 t46 true (.tuple []) (some x4)) fun t48=>
 Z0 (Z6 t46 true (.tuple []) (Zu t47 t48)) fun t49=>
 Z0 (Z6 t46 true (.tuple []) (Z5 .eql t49 (.int .u8 43))) fun t50=>
 Z0 (Z6 t39 false (.tuple []) (Zg t46 t50 (.bool false))) fun t51=>
 Z0 (Zg t39 (.bool true) t51) fun t52=>
 Zl t52
 (Z0 (Z5 .add x4 (.int .i64 1)) fun t54=>
 Uj x0 t54 t39 H0 H)
 (Uj x0 x4 t39 H0 H):=Zb [3,4,7,14,16,19] (by kernel_rfl)
theorem BJ:RH x0 x4 H0 H =
 Z0 (Z5 .add x4 (.int .i64 1)) fun t29=>
 Uk x0 t29 H0 H:=Zb [3,4,7,14,16,19] (by kernel_rfl)
theorem BK:Uk x0 x4 H0 H =
 Z0 (Zk .string x0) fun t14=>
 Z0 (Z5 .lss x4 t14) fun t15=>
 Z0 (Z6 t15 true (.tuple []) (some x0)) fun t17=>
 Z0 (Z6 t15 true (.tuple []) (some x4)) fun t18=>
 Z0 (Z6 t15 true (.tuple []) (Zu t17 t18)) fun t19=>
 Z0 (Z6 t15 true (.tuple []) (Z5 .eql t19 (.int .u8 32))) fun t20=>
 Z0 (Z6 t15 true (.tuple []) (some t20)) fun t21=>
 Z0 (Z6 t21 false (.tuple []) (some x0)) fun t22=>
 Z0 (Z6 t21 false (.tuple []) (some x4)) fun t23=>
 Z0 (Z6 t21 false (.tuple []) (Zu t22 t23)) fun t24=>
 Z0 (Z6 t21 false (.tuple []) (Z5 .eql t24 (.int .u8 9))) fun t25=>
 Z0 (Z6 t15 true (.tuple []) (Zg t21 (.bool true) t25)) fun t26=>
 Z0 (Zg t15 t26 (.bool false)) fun t27=>
 Zl t27
 (RH x0 x4 H0 H)
 (Ky x0 x4 H0 H):=(ZB (C:=cfg) [3,4,7,14,16,19] (Zo 0 (ME H0)) _ _).trans (by kernel_rfl)
theorem C7:UP [p0] H=Oj p0 H:=(Zc (C:=cfg) (fn:=Tryz.f152) (c:=Z1 Tryz.f152) (n:=116) [3,4,7,14,16,19] Tryz.func152 (by kernel_rfl) (by kernel_rfl) [p0] (by kernel_rfl) H).trans (by kernel_rfl)
def Mc:Z3:=Zz 153 13 (sub (Z1 Tryz.f153) [1,1]) (Zi cfg 13 153 Tryz.f153 H0) [] H
def Ll:Z3:=
 Z0 (Z5 .lss p0 p1) fun t8=>
 Zl t8
 (some ((.int .i64 (-1)),H))
 (Z0 (Z5 .gtr p0 p1) fun t12=>
 Zl t12
 (some ((.int .i64 1),H))
 (Mc H H))
theorem AU:Mc H0 H =
 some ((.int .i64 0),H):=Zb [5] (by kernel_rfl)
theorem Iq:DO [p0,p1] H=Ll p0 p1 H:=(Zc (C:=cfg) (fn:=Tryz.f153) (c:=Z1 Tryz.f153) (n:=13) [5] Tryz.func153 (by kernel_rfl) (by kernel_rfl) [p0,p1] (by kernel_rfl) H).trans (by kernel_rfl)
def Ry:Z3:=
 Z0 (Z4 false 1 p2 H) fun t7=>
 Z0 (Z5 .and t7 p0) fun t9=>
 Z0 (Z5 .neq t9 (.int .i64 0)) fun t10=>
 Zl t10
 (Z0 (Z4 false 1 p3 H) fun t12=>
 Z0 (Xd cfg (Za cfg) p1 [t12] H) fun r13=>
 Z0 (Z4 false 1 p4 r13.2) fun t15=>
 Z0 (Xd cfg (Za cfg) p1 [t15] r13.2) fun r16=>
 Z0 (Zh 1 p3 r13.1 r16.2) fun r_8=>
 Z0 (Zh 1 p4 r16.1 r_8.2) fun r_9=>
 some ((.tuple []),r_9.2))
 (some ((.tuple []),H))
theorem E4:Kq [p0,p1,p2,p3,p4] H=Ry p0 p1 p2 p3 p4 H:=(Zc (C:=cfg) (fn:=Tryz.f154) (c:=Z1 Tryz.f154) (n:=17) [] Tryz.func154 (by kernel_rfl) (by kernel_rfl) [p0,p1,p2,p3,p4] (by kernel_rfl) H).trans (by kernel_rfl)
def Rz:Z3:=
 Z0 (Sk Ig [p0,(.str [32,9])] H) fun r4=>
 some (r4.1,r4.2)
theorem E5:Kr [p0] H=Rz p0 H:=(Zc (C:=cfg) (fn:=Tryz.f155) (c:=Z1 Tryz.f155) (n:=5) [] Tryz.func155 (by kernel_rfl) (by kernel_rfl) [p0] (by kernel_rfl) H).trans (by kernel_rfl)
def Mb:Z3:=Zz 157 44 (sub (Z1 Tryz.f157) [1,1,1]) (Zi cfg 44 157 Tryz.f157 H0) [(3,x3)] H
def QY:KL:=Zd (WG 157 44 Tryz.f157 [1,1,1]) (Zi cfg 44 157 Tryz.f157 H0)
theorem Se:ZT 44 (QY H0):=Zw (C:=cfg) (kp:=cfg.keep 157) (sub (Z1 Tryz.f157) [1,1,1]) (ZA 157 Tryz.f157 H0)
def U1:Z3:=Zz 157 44 (sub (Z1 Tryz.f157) [1,1,0,1,0,0,1,1,1]) (Zd (Yd 157 44 Tryz.f157 [1,1,0,1,0,0]) (Z7 0 (QY H0))) [(0,x0),(3,x3),(7,x7),(8,x8)] H
def D9:Z3:=Zz 157 44 (sub (Z1 Tryz.f157) [1,1,0,1,0,0,1,1]) (Zd (Yd 157 44 Tryz.f157 [1,1,0,1,0,0]) (Z7 0 (QY H0))) [(0,x0),(3,x3),(7,x7),(8,x8),(9,x9)] H
def QZ:Z3:=Vv 157 44 (sub (Z1 Tryz.f157) [1,1,0,1,0,0]) (Z7 0 (QY H0)) [(0,x0),(3,x3),(7,x7),(8,x8)] H
def Lk:Z3:=
 Z0 (some ((.ptr H.length 0),H++[.bld 192 5 []])) fun r3=>
 Z0 (Zk .string p0) fun t7=>
 QZ p0 r3.1 t7 (.int .i64 0) H r3.2
theorem AR:Mb x3 H0 H =
 Z0 (stringE.run [x3] H) fun r43=>
 some (r43.1,r43.2):=Zb [4,8,9] (by kernel_rfl)
theorem FY:U1 x0 x3 x7 x8 H0 H =
 Z0 (Z5 .add x8 (.int .i64 1)) fun t42=>
 QZ x0 x3 x7 t42 H0 H:=Zb [4,8,9] (by kernel_rfl)
theorem AS:D9 x0 x3 x7 x8 x9 H0 H =
 Z0 (Zu x0 x8) fun t13=>
 Z0 (Ws [t13] H) fun r15=>
 Z0 (Z6 r15.1 false (.tuple []) (some t13)) fun t17=>
 Z0 (Z6 r15.1 false (.tuple []) (Z5 .geq t17 (.int .u8 97))) fun t18=>
 Z0 (Z6 r15.1 false (.tuple []) (some t18)) fun t19=>
 Z0 (Z6 t19 true (.tuple []) (some t13)) fun t20=>
 Z0 (Z6 t19 true (.tuple []) (Z5 .leq t20 (.int .u8 122))) fun t21=>
 Z0 (Z6 r15.1 false (.tuple []) (Zg t19 t21 (.bool false))) fun t22=>
 Z0 (Zg r15.1 (.bool true) t22) fun t23=>
 Z0 (Z6 t23 false (.tuple []) (some t13)) fun t25=>
 Z0 (Z6 t23 false (.tuple []) (Z5 .geq t25 (.int .u8 65))) fun t26=>
 Z0 (Z6 t23 false (.tuple []) (some t26)) fun t27=>
 Z0 (Z6 t27 true (.tuple []) (some t13)) fun t28=>
 Z0 (Z6 t27 true (.tuple []) (Z5 .leq t28 (.int .u8 90))) fun t29=>
 Z0 (Z6 t23 false (.tuple []) (Zg t27 t29 (.bool false))) fun t30=>
 Z0 (Zg t23 (.bool true) t30) fun t31=>
 Z0 (Z6 t31 false (.tuple []) (some t13)) fun t33=>
 Z0 (Z6 t31 false (.tuple []) (Z5 .geq t33 (.int .u8 48))) fun t34=>
 Z0 (Z6 t31 false (.tuple []) (some t34)) fun t35=>
 Z0 (Z6 t35 true (.tuple []) (some t13)) fun t36=>
 Z0 (Z6 t35 true (.tuple []) (Z5 .leq t36 (.int .u8 57))) fun t37=>
 Z0 (Z6 t31 false (.tuple []) (Zg t35 t37 (.bool false))) fun t38=>
 Z0 (Zg t31 (.bool true) t38) fun t39=>
 Zl t39
 (Z0 (byteE.run [x3,t13] r15.2) fun r41=>
 U1 x0 x3 x7 x8 H0 r41.2)
 (U1 x0 x3 x7 x8 H0 r15.2):=Zb [4,8,9] (by kernel_rfl)
theorem FZ:QZ x0 x3 x7 x8 H0 H =
 Z0 (Z5 .lss x8 x7) fun t9=>
 Zl t9
 (D9 x0 x3 x7 x8 t9 H0 H)
 (Mb x3 H0 H):=(ZB (C:=cfg) [4,8,9] (Zo 0 (Se H0)) _ _).trans (by kernel_rfl)
theorem Ip:DN [p0] H=Lk p0 H:=(Zc (C:=cfg) (fn:=Tryz.f157) (c:=Z1 Tryz.f157) (n:=44) [4,8,9] Tryz.func157 (by kernel_rfl) (by kernel_rfl) [p0] (by kernel_rfl) H).trans (by kernel_rfl)
def RA:Z3:=
 Z0 (Z4 true 6 p1 H) fun t4=>
 Z0 (Ze DM [t4,p0] H) fun r6=>
 some (r6.1,r6.2)
theorem E6:Ks [p0,p1] H=RA p0 p1 H:=(Zc (C:=cfg) (fn:=Tryz.f158) (c:=Z1 Tryz.f158) (n:=7) [] Tryz.func158 (by kernel_rfl) (by kernel_rfl) [p0,p1] (by kernel_rfl) H).trans (by kernel_rfl)
def Lg:Z3:=
 Z0 (ZW p0 H) fun r2=>
 Z0 (Z4 true 6 r2.1 r2.2) fun t5=>
 Z0 (Ze WW [t5] r2.2) fun r6=>
 Z0 (TC false 1 3 r6.1) fun t7=>
 Z0 (Ze Bj [t7,p1] r6.2) fun r9=>
 some (r9.1,r9.2)
theorem Il:DM [p0,p1] H=Lg p0 p1 H:=(Zc (C:=cfg) (fn:=Tryz.f159) (c:=Z1 Tryz.f159) (n:=10) [] Tryz.func159 (by kernel_rfl) (by kernel_rfl) [p0,p1] (by kernel_rfl) H).trans (by kernel_rfl)
def HH:Z3:=Zz 163 8 (sub (Z1 Tryz.f163) [1,1]) (Zi cfg 8 163 Tryz.f163 H0) [(1,x1),(2,x2)] H
def Mn:Z3:=
 Z0 (ZW p0 H) fun r1=>
 Z0 (some ((.ptr r1.2.length 0),r1.2++[.cells [(.str []),.nils,(.str []),(.str []),.nils,.nils]])) fun r2=>
 Z0 (Z4 true 6 r1.1 r2.2) fun t3=>
 Z0 (Ze Fe [t3] r2.2) fun r4=>
 Z0 (Z5 .neq r4.1 (.int .i64 0)) fun t5=>
 Zl t5
 (Z0 (Ze R3 [] r4.2) fun r6=>
 Z0 (Zh 6 r2.1 r6.1 r6.2) fun r_10=>
 Z0 (Z4 true 6 r2.1 r_10.2) fun v2=>
 some (v2,r_10.2))
 (HH r1.1 r2.1 H r4.2)
theorem ZaO:HH x1 x2 H0 H =
 Z0 (Z4 true 6 x1 H) fun t7=>
 Z0 (Zh 6 x2 t7 H) fun r_4=>
 Z0 (Z4 true 6 x2 r_4.2) fun v2=>
 some (v2,r_4.2):=Zb [3] (by kernel_rfl)
theorem L9:KN [p0] H=Mn p0 H:=(Zc (C:=cfg) (fn:=Tryz.f163) (c:=Z1 Tryz.f163) (n:=8) [3] Tryz.func163 (by kernel_rfl) (by kernel_rfl) [p0] (by kernel_rfl) H).trans (by kernel_rfl)
def M4:Z3:=Zz 186 49 (sub (Z1 Tryz.f186) [1,1,1,1,1]) (Zi cfg 49 186 Tryz.f186 H0) [(1,x1)] H
def M3:Z3:=Zz 186 49 (sub (Z1 Tryz.f186) [1,1,1,1]) (Zi cfg 49 186 Tryz.f186 H0) [(1,x1)] H
def QS:KL:=Zd (WG 186 49 Tryz.f186 [1,1,1,1]) (Zi cfg 49 186 Tryz.f186 H0)
theorem EQ:ZT 49 (QS H0):=Zw (C:=cfg) (kp:=cfg.keep 186) (sub (Z1 Tryz.f186) [1,1,1,1]) (ZA 186 Tryz.f186 H0)
def M6:Z3:=Zz 186 49 (sub (Z1 Tryz.f186) [1,1,1,0,1,0,0,1,1,1]) (Zd (Yd 186 49 Tryz.f186 [1,1,1,0,1,0,0]) (Z7 0 (QS H0))) [(1,x1),(27,x27),(28,x28),(29,x29)] H
def M5:Z3:=Zz 186 49 (sub (Z1 Tryz.f186) [1,1,1,0,1,0,0,1,1]) (Zd (Yd 186 49 Tryz.f186 [1,1,1,0,1,0,0]) (Z7 0 (QS H0))) [(1,x1),(27,x27),(28,x28),(29,x29),(30,x30)] H
def QT:Z3:=Vv 186 49 (sub (Z1 Tryz.f186) [1,1,1,0,1,0,0]) (Z7 0 (QS H0)) [(1,x1),(27,x27),(28,x28),(29,x29)] H
def M2:Z3:=Zz 186 49 (sub (Z1 Tryz.f186) [1,1,1]) (Zi cfg 49 186 Tryz.f186 H0) [(1,x1)] H
def M1:Z3:=Zz 186 49 (sub (Z1 Tryz.f186) [1,1]) (Zi cfg 49 186 Tryz.f186 H0) [(1,x1)] H
def Ld:Z3:=
 Z0 (ZW p0 H) fun r1=>
 Z0 (Z8 0 r1.1) fun t6=>
 Z0 (Z4 false 1 t6 r1.2) fun t7=>
 Z0 (Ze Qr [t7] r1.2) fun r8=>
 Z0 (Xa .not r8.1) fun t9=>
 Zl t9
 (some ((.int .i64 4),r8.2))
 (M1 r1.1 H r8.2)
theorem AD:M4 x1 H0 H =
 Z0 (Z8 5 x1) fun t46=>
 Z0 (Z4 false 1 t46 H) fun t47=>
 Z0 (Ze Wf [t47] H) fun r48=>
 some (r48.1,r48.2):=Zb [3,5,7,10,11,14] (by kernel_rfl)
theorem AC:M3 x1 H0 H =
 Z0 (Z8 4 x1) fun t40=>
 Z0 (Z4 false 1 t40 H) fun t41=>
 Z0 (Ze Wq [t41] H) fun r42=>
 Z0 (Z5 .neq r42.1 (.int .i64 0)) fun t44=>
 Zl t44
 (some (r42.1,r42.2))
 (M4 x1 H0 r42.2):=Zb [3,5,7,10,11,14] (by kernel_rfl)
theorem AF:M6 x1 x27 x28 x29 H0 H =
 Z0 (Z5 .add x29 (.int .i64 1)) fun t39=>
 QT x1 x27 x28 t39 H0 H:=Zb [3,5,7,10,11,14] (by kernel_rfl)
theorem AE:M5 x1 x27 x28 x29 x30 H0 H =
 Z0 (Zn 1 x27 x29) fun t31=>
 Z0 (Z4 false 1 t31 H) fun t32=>
 Z0 (Z5 .lss t32 (.int .i64 0)) fun t34=>
 Z0 (Z6 t34 false (.tuple []) (some t32)) fun t36=>
 Z0 (Z6 t34 false (.tuple []) (Z5 .gtr t36 (.int .i64 65535))) fun t37=>
 Z0 (Zg t34 (.bool true) t37) fun t38=>
 Zl t38
 (some ((.int .i64 2),H))
 (M6 x1 x27 x28 x29 H0 H):=Zb [3,5,7,10,11,14] (by kernel_rfl)
theorem FN:QT x1 x27 x28 x29 H0 H =
 Z0 (Z5 .lss x29 x28) fun t30=>
 Zl t30
 (M5 x1 x27 x28 x29 t30 H0 H)
 (M3 x1 H0 H):=(ZB (C:=cfg) [3,5,7,10,11,14] (Zo 0 (EQ H0)) _ _).trans (by kernel_rfl)
theorem AB:M2 x1 H0 H =
 Z0 (Z8 1 x1) fun t26=>
 Z0 (Z4 false 1 t26 H) fun t27=>
 Z0 (Zk (.slice 3) t27) fun t28=>
 QT x1 t27 t28 (.int .i64 0) H0 H:=Zb [3,5,7,10,11,14] (by kernel_rfl)
theorem AA:M1 x1 H0 H =
 Z0 (Z8 1 x1) fun t10=>
 Z0 (Z4 false 1 t10 H) fun t11=>
 Z0 (Zk (.slice 3) t11) fun t12=>
 Z0 (Z5 .neq t12 (.int .i64 256)) fun t13=>
 Z0 (Z6 t13 false (.tuple []) (Z8 2 x1)) fun t15=>
 Z0 (Z6 t13 false (.tuple []) (Z4 false 1 t15 H)) fun t16=>
 Z0 (Z6 t13 false (.tuple []) (Zk .string t16)) fun t17=>
 Z0 (Z6 t13 false (.tuple []) (Z5 .neq t17 (.int .i64 256))) fun t18=>
 Z0 (Zg t13 (.bool true) t18) fun t19=>
 Z0 (Z6 t19 false (.tuple []) (Z8 3 x1)) fun t21=>
 Z0 (Z6 t19 false (.tuple []) (Z4 false 1 t21 H)) fun t22=>
 Z0 (Z6 t19 false (.tuple []) (Zk .string t22)) fun t23=>
 Z0 (Z6 t19 false (.tuple []) (Z5 .neq t23 (.int .i64 256))) fun t24=>
 Z0 (Zg t19 (.bool true) t24) fun t25=>
 Zl t25
 (some ((.int .i64 2),H))
 (M2 x1 H0 H):=Zb [3,5,7,10,11,14] (by kernel_rfl)
theorem Ik:Ju [p0] H=Ld p0 H:=(Zc (C:=cfg) (fn:=Tryz.f186) (c:=Z1 Tryz.f186) (n:=49) [3,5,7,10,11,14] Tryz.func186 (by kernel_rfl) (by kernel_rfl) [p0] (by kernel_rfl) H).trans (by kernel_rfl)
def GB:Z3:=
 Z0 (Ae .cmp [p0,p1] H) fun r7=>
 some (r7.1,r7.2)
theorem Jx:Xm [p0,p1] H=GB p0 p1 H:=(Zc (C:=cfg) (fn:=Tryz.f188) (c:=Z1 Tryz.f188) (n:=8) [] Tryz.func188 (by kernel_rfl) (by kernel_rfl) [p0,p1] (by kernel_rfl) H).trans (by kernel_rfl)
def RI:Z3:=Zz 189 23 (sub (Z1 Tryz.f189) [1,1,1]) (Zi cfg 23 189 Tryz.f189 H0) [(3,x3)] H
def KC:KL:=Zd (WG 189 23 Tryz.f189 [1,1,1]) (Zi cfg 23 189 Tryz.f189 H0)
theorem MF:ZT 23 (KC H0):=Zw (C:=cfg) (kp:=cfg.keep 189) (sub (Z1 Tryz.f189) [1,1,1]) (ZA 189 Tryz.f189 H0)
def RJ:Z3:=Zz 189 23 (sub (Z1 Tryz.f189) [1,1,0,0,0,1]) (Zd (Yd 189 23 Tryz.f189 [1,1,0,0,0]) (Z7 0 (KC H0))) [(0,x0),(3,x3)] H
def Ul:Z3:=Vv 189 23 (sub (Z1 Tryz.f189) [1,1,0,0,0]) (Z7 0 (KC H0)) [(0,x0),(3,x3)] H
def Ok:Z3:=
 Ul p0 (.int .i64 0) H H
theorem Q3:RI x3 H0 H =
 some (x3,H):=Zb [3,4] (by kernel_rfl)
theorem EA:RJ x0 x3 H0 H =
 Z0 (Z5 .add x3 (.int .i64 1)) fun t21=>
 Ul x0 t21 H0 H:=Zb [3,4] (by kernel_rfl)
theorem BM:Ul x0 x3 H0 H =
 Z0 (Zk .string x0) fun t6=>
 Z0 (Z5 .lss x3 t6) fun t7=>
 Z0 (Z6 t7 true (.tuple []) (some x0)) fun t9=>
 Z0 (Z6 t7 true (.tuple []) (some x3)) fun t10=>
 Z0 (Z6 t7 true (.tuple []) (Zu t9 t10)) fun t11=>
 Z0 (Z6 t7 true (.tuple []) (Z5 .geq t11 (.int .u8 48))) fun t12=>
 Z0 (Zg t7 t12 (.bool false)) fun t13=>
 Z0 (Z6 t13 true (.tuple []) (some x0)) fun t15=>
 Z0 (Z6 t13 true (.tuple []) (some x3)) fun t16=>
 Z0 (Z6 t13 true (.tuple []) (Zu t15 t16)) fun t17=>
 Z0 (Z6 t13 true (.tuple []) (Z5 .leq t17 (.int .u8 57))) fun t18=>
 Z0 (Zg t13 t18 (.bool false)) fun t19=>
 Zl t19
 (RJ x0 x3 H0 H)
 (RI x3 H0 H):=(ZB (C:=cfg) [3,4] (Zo 0 (MF H0)) _ _).trans (by kernel_rfl)
theorem C8:UQ [p0] H=Ok p0 H:=(Zc (C:=cfg) (fn:=Tryz.f189) (c:=Z1 Tryz.f189) (n:=23) [3,4] Tryz.func189 (by kernel_rfl) (by kernel_rfl) [p0] (by kernel_rfl) H).trans (by kernel_rfl)
def Pn:Z3:=Zz 190 29 (sub (Z1 Tryz.f190) [1,1,1]) (Zi cfg 29 190 Tryz.f190 H0) [(1,x1),(5,x5)] H
def Q4:KL:=Zd (WG 190 29 Tryz.f190 [1,1,1]) (Zi cfg 29 190 Tryz.f190 H0)
theorem Ly:ZT 29 (Q4 H0):=Zw (C:=cfg) (kp:=cfg.keep 190) (sub (Z1 Tryz.f190) [1,1,1]) (ZA 190 Tryz.f190 H0)
def Pp:Z3:=Zz 190 29 (sub (Z1 Tryz.f190) [1,1,0,1,0,0,1,1,1]) (Zd (Yd 190 29 Tryz.f190 [1,1,0,1,0,0]) (Z7 0 (Q4 H0))) [(0,x0),(1,x1),(5,x5),(8,x8),(9,x9)] H
def Po:Z3:=Zz 190 29 (sub (Z1 Tryz.f190) [1,1,0,1,0,0,1,1]) (Zd (Yd 190 29 Tryz.f190 [1,1,0,1,0,0]) (Z7 0 (Q4 H0))) [(0,x0),(1,x1),(5,x5),(8,x8),(9,x9),(10,x10)] H
def Q5:Z3:=Vv 190 29 (sub (Z1 Tryz.f190) [1,1,0,1,0,0]) (Z7 0 (Q4 H0)) [(0,x0),(1,x1),(5,x5),(8,x8),(9,x9)] H
def Nu:Z3:=
 Z0 (Zk .string p0) fun t8=>
 Q5 p0 p1 (.int .i64 0) t8 (.int .i64 0) H H
theorem Cj:Pn x1 x5 H0 H =
 Z0 (Z5 .mul x5 (.int .i64 10000)) fun t24=>
 Z0 (Ze J6 [x1] H) fun r26=>
 Z0 (Z5 .add t24 r26.1) fun t27=>
 Z0 (VJ (.int .i64 10000000000001) t27) fun t28=>
 some (t28,r26.2):=Zb [4,8,9] (by kernel_rfl)
theorem Cl:Pp x0 x1 x5 x8 x9 H0 H =
 Z0 (Z5 .add x9 (.int .i64 1)) fun t22=>
 Q5 x0 x1 x5 x8 t22 H0 H:=Zb [4,8,9] (by kernel_rfl)
theorem Ck:Po x0 x1 x5 x8 x9 x10 H0 H =
 Z0 (Z5 .mul (.int .i64 10) x5) fun t13=>
 Z0 (Zu x0 x9) fun t16=>
 Z0 (Z5 .sub t16 (.int .u8 48)) fun t17=>
 Z0 (YK .i64 t17) fun t18=>
 Z0 (Z5 .add t13 t18) fun t19=>
 Z0 (Z5 .gtr t19 (.int .i64 1000000000)) fun t21=>
 Zl t21
 (some ((.int .i64 10000000000001),H))
 (Pp x0 x1 t19 x8 x9 H0 H):=Zb [4,8,9] (by kernel_rfl)
theorem Ds:Q5 x0 x1 x5 x8 x9 H0 H =
 Z0 (Z5 .lss x9 x8) fun t10=>
 Zl t10
 (Po x0 x1 x5 x8 x9 t10 H0 H)
 (Pn x1 x5 H0 H):=(ZB (C:=cfg) [4,8,9] (Zo 0 (Ly H0)) _ _).trans (by kernel_rfl)
theorem Hc:Bi [p0,p1] H=Nu p0 p1 H:=(Zc (C:=cfg) (fn:=Tryz.f190) (c:=Z1 Tryz.f190) (n:=29) [4,8,9] Tryz.func190 (by kernel_rfl) (by kernel_rfl) [p0,p1] (by kernel_rfl) H).trans (by kernel_rfl)
def PA:Z3:=Zz 197 26 (sub (Z1 Tryz.f197) [1,1,1]) (Zi cfg 26 197 Tryz.f197 H0) [(5,x5)] H
def Q8:KL:=Zd (WG 197 26 Tryz.f197 [1,1,1]) (Zi cfg 26 197 Tryz.f197 H0)
theorem LG:ZT 26 (Q8 H0):=Zw (C:=cfg) (kp:=cfg.keep 197) (sub (Z1 Tryz.f197) [1,1,1]) (ZA 197 Tryz.f197 H0)
def PC:Z3:=Zz 197 26 (sub (Z1 Tryz.f197) [1,1,0,1,0,0,1,1,1]) (Zd (Yd 197 26 Tryz.f197 [1,1,0,1,0,0]) (Z7 0 (Q8 H0))) [(0,x0),(5,x5),(10,x10),(11,x11)] H
def PB:Z3:=Zz 197 26 (sub (Z1 Tryz.f197) [1,1,0,1,0,0,1,1]) (Zd (Yd 197 26 Tryz.f197 [1,1,0,1,0,0]) (Z7 0 (Q8 H0))) [(0,x0),(5,x5),(10,x10),(11,x11),(12,x12)] H
def Q9:Z3:=Vv 197 26 (sub (Z1 Tryz.f197) [1,1,0,1,0,0]) (Z7 0 (Q8 H0)) [(0,x0),(5,x5),(10,x10),(11,x11)] H
def Nv:Z3:=
 Z0 (Ev p1 H) fun r8=>
 Z0 (Zk (.slice 5) r8.1) fun t10=>
 Q9 p0 r8.1 t10 (.int .i64 0) H r8.2
theorem Co:PA x5 H0 H =
 Z0 (Q2 x5 H) fun t25=>
 some (t25,H):=Zb [4,6,7] (by kernel_rfl)
theorem Cq:PC x0 x5 x10 x11 H0 H =
 Z0 (Z5 .add x11 (.int .i64 1)) fun t23=>
 Q9 x0 x5 x10 t23 H0 H:=Zb [4,6,7] (by kernel_rfl)
theorem Cp:PB x0 x5 x10 x11 x12 H0 H =
 Z0 (Zn 1 x5 x11) fun t19=>
 Z0 (Z4 false 1 t19 H) fun t20=>
 Z0 (Zu x0 t20) fun t21=>
 Z0 (Zn 1 x5 x11) fun t22=>
 Z0 (Zh 1 t22 t21 H) fun r_10=>
 PC x0 x5 x10 x11 H0 r_10.2:=Zb [4,6,7] (by kernel_rfl)
theorem Dt:Q9 x0 x5 x10 x11 H0 H =
 Z0 (Z5 .lss x11 x10) fun t12=>
 Zl t12
 (PB x0 x5 x10 x11 t12 H0 H)
 (PA x5 H0 H):=(ZB (C:=cfg) [4,6,7] (Zo 0 (LG H0)) _ _).trans (by kernel_rfl)
theorem He:Bj [p0,p1] H=Nv p0 p1 H:=(Zc (C:=cfg) (fn:=Tryz.f197) (c:=Z1 Tryz.f197) (n:=26) [4,6,7] Tryz.func197 (by kernel_rfl) (by kernel_rfl) [p0,p1] (by kernel_rfl) H).trans (by kernel_rfl)
def HA:Z3:=Zz 204 43 (sub (Z1 Tryz.f204) [1,1,1,1,1,1]) (Zi cfg 43 204 Tryz.f204 H0) [(1,x1)] H
def Hz:Z3:=Zz 204 43 (sub (Z1 Tryz.f204) [1,1,1,1,1]) (Zi cfg 43 204 Tryz.f204 H0) [(1,x1)] H
def Hy:Z3:=Zz 204 43 (sub (Z1 Tryz.f204) [1,1,1,1]) (Zi cfg 43 204 Tryz.f204 H0) [(1,x1)] H
def Bv:KL:=Zd (WG 204 43 Tryz.f204 [1,1,1,1]) (Zi cfg 43 204 Tryz.f204 H0)
theorem Iy:ZT 43 (Bv H0):=Zw (C:=cfg) (kp:=cfg.keep 204) (sub (Z1 Tryz.f204) [1,1,1,1]) (ZA 204 Tryz.f204 H0)
def HD:Z3:=Zz 204 43 (sub (Z1 Tryz.f204) [1,1,1,0,1,0,0,1,1]) (Zd (Yd 204 43 Tryz.f204 [1,1,1,0,1,0,0]) (Z7 0 (Bv H0))) [(1,x1),(3,x3)] H
def HC:Z3:=Zz 204 43 (sub (Z1 Tryz.f204) [1,1,1,0,1,0,0,1]) (Zd (Yd 204 43 Tryz.f204 [1,1,1,0,1,0,0]) (Z7 0 (Bv H0))) [(1,x1),(3,x3)] H
def Bw:Z3:=Vv 204 43 (sub (Z1 Tryz.f204) [1,1,1,0,1,0,0]) (Z7 0 (Bv H0)) [(1,x1),(3,x3)] H
def Hx:Z3:=Zz 204 43 (sub (Z1 Tryz.f204) [1,1,1]) (Zi cfg 43 204 Tryz.f204 H0) [(1,x1)] H
def Hw:Z3:=Zz 204 43 (sub (Z1 Tryz.f204) [1,1]) (Zi cfg 43 204 Tryz.f204 H0) [(1,x1)] H
def IM:Z3:=
 Z0 (ZW p0 H) fun r1=>
 Z0 (Z8 0 r1.1) fun t5=>
 Z0 (Z4 false 1 t5 r1.2) fun t6=>
 Z0 (Ze J5 [t6] r1.2) fun r7=>
 Z0 (Xa .not r7.1) fun t8=>
 Zl t8
 (some ((.int .i64 4),r7.2))
 (Hw r1.1 H r7.2)
theorem ZaL:HA x1 H0 H =
 Z0 (Z8 5 x1) fun t40=>
 Z0 (Z4 false 1 t40 H) fun t41=>
 Z0 (Ze Vh [t41] H) fun r42=>
 some (r42.1,r42.2):=Zb [3,5,7,8,10,12,15] (by kernel_rfl)
theorem ZaK:Hz x1 H0 H =
 Z0 (Z8 4 x1) fun t34=>
 Z0 (Z4 false 1 t34 H) fun t35=>
 Z0 (Ze VE [t35] H) fun r36=>
 Z0 (Z5 .neq r36.1 (.int .i64 0)) fun t38=>
 Zl t38
 (some (r36.1,r36.2))
 (HA x1 H0 r36.2):=Zb [3,5,7,8,10,12,15] (by kernel_rfl)
theorem ZaJ:Hy x1 H0 H =
 Z0 (Z8 2 x1) fun t24=>
 Z0 (Z4 false 1 t24 H) fun t25=>
 Z0 (Zk .string t25) fun t26=>
 Z0 (Z5 .neq t26 (.int .i64 256)) fun t27=>
 Z0 (Z6 t27 false (.tuple []) (Z8 3 x1)) fun t29=>
 Z0 (Z6 t27 false (.tuple []) (Z4 false 1 t29 H)) fun t30=>
 Z0 (Z6 t27 false (.tuple []) (Zk .string t30)) fun t31=>
 Z0 (Z6 t27 false (.tuple []) (Z5 .neq t31 (.int .i64 256))) fun t32=>
 Z0 (Zg t27 (.bool true) t32) fun t33=>
 Zl t33
 (some ((.int .i64 2),H))
 (Hz x1 H0 H):=Zb [3,5,7,8,10,12,15] (by kernel_rfl)
theorem ZaN:HD x1 x3 H0 H =
 Z0 (Z5 .add x3 (.int .i64 1)) fun t16=>
 Bw x1 t16 H0 H:=Zb [3,5,7,8,10,12,15] (by kernel_rfl)
theorem ZaM:HC x1 x3 H0 H =
 Z0 (Z8 1 x1) fun t17=>
 Z0 (Z4 false 1 t17 H) fun t18=>
 Z0 (Zn 1 t18 x3) fun t20=>
 Z0 (Z4 false 1 t20 H) fun t21=>
 Z0 (Ze KM [t21] H) fun r22=>
 Z0 (Xa .not r22.1) fun t23=>
 Zl t23
 (some ((.int .i64 2),r22.2))
 (HD x1 x3 H0 r22.2):=Zb [3,5,7,8,10,12,15] (by kernel_rfl)
theorem NI:Bw x1 x3 H0 H =
 Z0 (Z5 .lss x3 (.int .i64 256)) fun t14=>
 Zl t14
 (HC x1 x3 H0 H)
 (Hy x1 H0 H):=(ZB (C:=cfg) [3,5,7,8,10,12,15] (Zo 0 (Iy H0)) _ _).trans (by kernel_rfl)
theorem ZaI:Hx x1 H0 H =
 Bw x1 (.int .i64 0) H0 H:=Zb [3,5,7,8,10,12,15] (by kernel_rfl)
theorem ZaH:Hw x1 H0 H =
 Z0 (Z8 1 x1) fun t9=>
 Z0 (Z4 false 1 t9 H) fun t10=>
 Z0 (Zk (.slice 3) t10) fun t11=>
 Z0 (Z5 .neq t11 (.int .i64 256)) fun t12=>
 Zl t12
 (some ((.int .i64 2),H))
 (Hx x1 H0 H):=Zb [3,5,7,8,10,12,15] (by kernel_rfl)
theorem Zce:Fe [p0] H=IM p0 H:=(Zc (C:=cfg) (fn:=Tryz.f204) (c:=Z1 Tryz.f204) (n:=43) [3,5,7,8,10,12,15] Tryz.func204 (by kernel_rfl) (by kernel_rfl) [p0] (by kernel_rfl) H).trans (by kernel_rfl)
def F3:Z3:=Zz 221 54 (sub (Z1 Tryz.f221) [1,1]) (Zi cfg 54 221 Tryz.f221 H0) [(0,x0)] H
def JM:KL:=Zd (WG 221 54 Tryz.f221 [1,1]) (Zi cfg 54 221 Tryz.f221 H0)
theorem Cr:ZT 54 (JM H0):=Zw (C:=cfg) (kp:=cfg.keep 221) (sub (Z1 Tryz.f221) [1,1]) (ZA 221 Tryz.f221 H0)
def F5:Z3:=Zz 221 54 (sub (Z1 Tryz.f221) [1,0,1,0,0,1,1,1]) (Zd (Yd 221 54 Tryz.f221 [1,0,1,0,0]) (Z7 0 (JM H0))) [(0,x0),(7,x7),(8,x8)] H
def F4:Z3:=Zz 221 54 (sub (Z1 Tryz.f221) [1,0,1,0,0,1,1]) (Zd (Yd 221 54 Tryz.f221 [1,0,1,0,0]) (Z7 0 (JM H0))) [(0,x0),(7,x7),(8,x8),(9,x9)] H
def JN:Z3:=Vv 221 54 (sub (Z1 Tryz.f221) [1,0,1,0,0]) (Z7 0 (JM H0)) [(0,x0),(7,x7),(8,x8)] H
def Sy:Z3:=
 Z0 (Zk .string p0) fun t7=>
 JN p0 t7 (.int .i64 0) H H
theorem IG:F3 x0 H0 H =
 Z0 (Yh .neq x0 (.str [])) fun t48=>
 Z0 (Z6 t48 true (.tuple []) (some x0)) fun t50=>
 Z0 (Z6 t48 true (.tuple []) (Zk .string t50)) fun t51=>
 Z0 (Z6 t48 true (.tuple []) (Z5 .leq t51 (.int .i64 32))) fun t52=>
 Z0 (Zg t48 t52 (.bool false)) fun t53=>
 some (t53,H):=Zb [3,8,9] (by kernel_rfl)
theorem RU:F5 x0 x7 x8 H0 H =
 Z0 (Z5 .add x8 (.int .i64 1)) fun t46=>
 JN x0 x7 t46 H0 H:=Zb [3,8,9] (by kernel_rfl)
theorem IH:F4 x0 x7 x8 x9 H0 H =
 Z0 (Zu x0 x8) fun t13=>
 Z0 (Z5 .eql t13 (.int .u8 95)) fun t15=>
 Z0 (Z6 t15 false (.tuple []) (some t13)) fun t17=>
 Z0 (Z6 t15 false (.tuple []) (Z5 .geq t17 (.int .u8 97))) fun t18=>
 Z0 (Z6 t15 false (.tuple []) (some t18)) fun t19=>
 Z0 (Z6 t19 true (.tuple []) (some t13)) fun t20=>
 Z0 (Z6 t19 true (.tuple []) (Z5 .leq t20 (.int .u8 122))) fun t21=>
 Z0 (Z6 t15 false (.tuple []) (Zg t19 t21 (.bool false))) fun t22=>
 Z0 (Zg t15 (.bool true) t22) fun t23=>
 Z0 (Z6 t23 false (.tuple []) (some t13)) fun t25=>
 Z0 (Z6 t23 false (.tuple []) (Z5 .geq t25 (.int .u8 65))) fun t26=>
 Z0 (Z6 t23 false (.tuple []) (some t26)) fun t27=>
 Z0 (Z6 t27 true (.tuple []) (some t13)) fun t28=>
 Z0 (Z6 t27 true (.tuple []) (Z5 .leq t28 (.int .u8 90))) fun t29=>
 Z0 (Z6 t23 false (.tuple []) (Zg t27 t29 (.bool false))) fun t30=>
 Z0 (Zg t23 (.bool true) t30) fun t31=>
 Z0 (Xa .not t31) fun t33=>
 Z0 (Z6 t33 true (.tuple []) (some x8)) fun t35=>
 Z0 (Z6 t33 true (.tuple []) (Z5 .eql t35 (.int .i64 0))) fun t36=>
 Z0 (Z6 t33 true (.tuple []) (some t36)) fun t37=>
 Z0 (Z6 t37 false (.tuple []) (some t13)) fun t38=>
 Z0 (Z6 t37 false (.tuple []) (Z5 .lss t38 (.int .u8 48))) fun t39=>
 Z0 (Z6 t33 true (.tuple []) (Zg t37 (.bool true) t39)) fun t40=>
 Z0 (Z6 t33 true (.tuple []) (some t40)) fun t41=>
 Z0 (Z6 t41 false (.tuple []) (some t13)) fun t42=>
 Z0 (Z6 t41 false (.tuple []) (Z5 .gtr t42 (.int .u8 57))) fun t43=>
 Z0 (Z6 t33 true (.tuple []) (Zg t41 (.bool true) t43)) fun t44=>
 Z0 (Zg t33 t44 (.bool false)) fun t45=>
 Zl t45
 (some ((.bool false),H))
 (F5 x0 x7 x8 H0 H):=Zb [3,8,9] (by kernel_rfl)
theorem Uo:JN x0 x7 x8 H0 H =
 Z0 (Z5 .lss x8 x7) fun t9=>
 Zl t9
 (F4 x0 x7 x8 t9 H0 H)
 (F3 x0 H0 H):=(ZB (C:=cfg) [3,8,9] (Zo 0 (Cr H0)) _ _).trans (by kernel_rfl)
theorem Om:Qr [p0] H=Sy p0 H:=(Zc (C:=cfg) (fn:=Tryz.f221) (c:=Z1 Tryz.f221) (n:=54) [3,8,9] Tryz.func221 (by kernel_rfl) (by kernel_rfl) [p0] (by kernel_rfl) H).trans (by kernel_rfl)
def G1:Z3:=Zz 222 28 (sub (Z1 Tryz.f222) [1,1,1,1]) (Zi cfg 28 222 Tryz.f222 H0) [] H
def Xh:KL:=Zd (WG 222 28 Tryz.f222 [1,1,1,1]) (Zi cfg 28 222 Tryz.f222 H0)
theorem FO:ZT 28 (Xh H0):=Zw (C:=cfg) (kp:=cfg.keep 222) (sub (Z1 Tryz.f222) [1,1,1,1]) (ZA 222 Tryz.f222 H0)
def G3:Z3:=Zz 222 28 (sub (Z1 Tryz.f222) [1,1,1,0,1,0,0,1,1,1]) (Zd (Yd 222 28 Tryz.f222 [1,1,1,0,1,0,0]) (Z7 0 (Xh H0))) [(3,x3),(10,x10),(11,x11),(12,x12)] H
def G6:KL:=Zd (WG 222 28 Tryz.f222 [1,1,1,0,1,0,0,1,1,1]) (Zd (Yd 222 28 Tryz.f222 [1,1,1,0,1,0,0]) (Z7 0 (Xh H0)))
def G5:Z3:=Zz 222 28 (sub (Z1 Tryz.f222) [1,1,1,0,1,0,0,1,1,0,0,1,1,1]) (Z7 1 (G6 H0)) [(3,x3),(5,x5),(10,x10),(11,x11),(12,x12)] H
def G4:Z3:=Zz 222 28 (sub (Z1 Tryz.f222) [1,1,1,0,1,0,0,1,1,0,0,1,1]) (Z7 1 (G6 H0)) [(3,x3),(5,x5),(10,x10),(11,x11),(12,x12)] H
def G2:Z3:=Zz 222 28 (sub (Z1 Tryz.f222) [1,1,1,0,1,0,0,1,1]) (Zd (Yd 222 28 Tryz.f222 [1,1,1,0,1,0,0]) (Z7 0 (Xh H0))) [(3,x3),(10,x10),(11,x11),(12,x12),(13,x13)] H
def Wi:Z3:=Vv 222 28 (sub (Z1 Tryz.f222) [1,1,1,0,1,0,0]) (Z7 0 (Xh H0)) [(3,x3),(10,x10),(11,x11),(12,x12)] H
def G0:Z3:=Zz 222 28 (sub (Z1 Tryz.f222) [1,1]) (Zi cfg 28 222 Tryz.f222 H0) [(0,x0)] H
def GU:Z3:=
 Z0 (Zk (.slice 264) p0) fun t7=>
 Z0 (Z5 .gtr t7 (.int .i64 24)) fun t8=>
 Zl t8
 (some ((.int .i64 3),H))
 (G0 p0 H H)
theorem Tn:G1 H0 H =
 some ((.int .i64 0),H):=Zb [3,6,9,11,12,13] (by kernel_rfl)
theorem Tp:G3 x3 x10 x11 x12 H0 H =
 Z0 (Z5 .add x12 (.int .i64 1)) fun t27=>
 Wi x3 x10 x11 t27 H0 H:=Zb [3,6,9,11,12,13] (by kernel_rfl)
theorem Tr:G5 x3 x5 x10 x11 x12 H0 H =
 Z0 (Z8 0 x5) fun t25=>
 Z0 (Z4 false 1 t25 H) fun t26=>
 Z0 (Xb .string x3 t26 (.bool true) H) fun r_11=>
 G3 x3 x10 x11 x12 H0 r_11.2:=Zb [3,6,9,11,12,13] (by kernel_rfl)
theorem Tq:G4 x3 x5 x10 x11 x12 H0 H =
 Z0 (Z8 0 x5) fun t21=>
 Z0 (Z4 false 1 t21 H) fun t22=>
 Z0 (ZZ .string (.bool false) false x3 t22 H) fun t23=>
 Zl t23
 (some ((.int .i64 6),H))
 (G5 x3 x5 x10 x11 x12 H0 H):=Zb [3,6,9,11,12,13] (by kernel_rfl)
theorem To:G2 x3 x10 x11 x12 x13 H0 H =
 Z0 (Zn 5 x10 x12) fun t14=>
 Z0 (Z4 true 5 t14 H) fun t15=>
 Z0 (some ((.ptr H.length 0),H++[.cells [(.str []),(.int .u64 0),(.int .u64 0),(.int .u64 0),(.int .u64 0)]])) fun r5=>
 Z0 (Zh 5 r5.1 t15 r5.2) fun r_8=>
 Z0 (Z8 0 r5.1) fun t16=>
 Z0 (Z4 false 1 t16 r_8.2) fun t17=>
 Z0 (Ze Qr [t17] r_8.2) fun r18=>
 Z0 (Xa .not r18.1) fun t19=>
 Zl t19
 (some ((.int .i64 4),r18.2))
 (G4 x3 r5.1 x10 x11 x12 H0 r18.2):=Zb [3,6,9,11,12,13] (by kernel_rfl)
theorem QU:Wi x3 x10 x11 x12 H0 H =
 Z0 (Z5 .lss x12 x11) fun t13=>
 Zl t13
 (G2 x3 x10 x11 x12 t13 H0 H)
 (G1 H0 H):=(ZB (C:=cfg) [3,6,9,11,12,13] (Zo 0 (FO H0)) _ _).trans (by kernel_rfl)
theorem Tm:G0 x0 H0 H =
 Z0 (some ((.map H.length),H++[.map [] 0])) fun r9=>
 Z0 (Zk (.slice 264) x0) fun t11=>
 Wi r9.1 x0 t11 (.int .i64 0) H0 r9.2:=Zb [3,6,9,11,12,13] (by kernel_rfl)
theorem TS:Wq [p0] H=GU p0 H:=(Zc (C:=cfg) (fn:=Tryz.f222) (c:=Z1 Tryz.f222) (n:=28) [3,6,9,11,12,13] Tryz.func222 (by kernel_rfl) (by kernel_rfl) [p0] (by kernel_rfl) H).trans (by kernel_rfl)
def K3:Z3:=Zz 223 38 (sub (Z1 Tryz.f223) [1,1,1,1]) (Zi cfg 38 223 Tryz.f223 H0) [] H
def X6:KL:=Zd (WG 223 38 Tryz.f223 [1,1,1,1]) (Zi cfg 38 223 Tryz.f223 H0)
theorem F1:ZT 38 (X6 H0):=Zw (C:=cfg) (kp:=cfg.keep 223) (sub (Z1 Tryz.f223) [1,1,1,1]) (ZA 223 Tryz.f223 H0)
def K5:Z3:=Zz 223 38 (sub (Z1 Tryz.f223) [1,1,1,0,1,0,0,1,1,1]) (Zd (Yd 223 38 Tryz.f223 [1,1,1,0,1,0,0]) (Z7 0 (X6 H0))) [(3,x3),(10,x10),(11,x11),(12,x12)] H
def K8:KL:=Zd (WG 223 38 Tryz.f223 [1,1,1,0,1,0,0,1,1,1]) (Zd (Yd 223 38 Tryz.f223 [1,1,1,0,1,0,0]) (Z7 0 (X6 H0)))
def K7:Z3:=Zz 223 38 (sub (Z1 Tryz.f223) [1,1,1,0,1,0,0,1,1,0,0,1,1,1]) (Z7 1 (K8 H0)) [(3,x3),(5,x5),(10,x10),(11,x11),(12,x12)] H
def K6:Z3:=Zz 223 38 (sub (Z1 Tryz.f223) [1,1,1,0,1,0,0,1,1,0,0,1,1]) (Z7 1 (K8 H0)) [(3,x3),(5,x5),(10,x10),(11,x11),(12,x12)] H
def K4:Z3:=Zz 223 38 (sub (Z1 Tryz.f223) [1,1,1,0,1,0,0,1,1]) (Zd (Yd 223 38 Tryz.f223 [1,1,1,0,1,0,0]) (Z7 0 (X6 H0))) [(3,x3),(10,x10),(11,x11),(12,x12),(13,x13)] H
def XW:Z3:=Vv 223 38 (sub (Z1 Tryz.f223) [1,1,1,0,1,0,0]) (Z7 0 (X6 H0)) [(3,x3),(10,x10),(11,x11),(12,x12)] H
def K2:Z3:=Zz 223 38 (sub (Z1 Tryz.f223) [1,1]) (Zi cfg 38 223 Tryz.f223 H0) [(0,x0)] H
def KO:Z3:=
 Z0 (Zk (.slice 210) p0) fun t7=>
 Z0 (Z5 .gtr t7 (.int .i64 64)) fun t8=>
 Zl t8
 (some ((.int .i64 3),H))
 (K2 p0 H H)
theorem Rg:K3 H0 H =
 some ((.int .i64 0),H):=Zb [3,6,9,11,12,13] (by kernel_rfl)
theorem Ri:K5 x3 x10 x11 x12 H0 H =
 Z0 (Z5 .add x12 (.int .i64 1)) fun t37=>
 XW x3 x10 x11 t37 H0 H:=Zb [3,6,9,11,12,13] (by kernel_rfl)
theorem Rk:K7 x3 x5 x10 x11 x12 H0 H =
 Z0 (Z8 0 x5) fun t35=>
 Z0 (Z4 false 1 t35 H) fun t36=>
 Z0 (Xb .string x3 t36 (.bool true) H) fun r_11=>
 K5 x3 x10 x11 x12 H0 r_11.2:=Zb [3,6,9,11,12,13] (by kernel_rfl)
theorem Rj:K6 x3 x5 x10 x11 x12 H0 H =
 Z0 (Z8 0 x5) fun t31=>
 Z0 (Z4 false 1 t31 H) fun t32=>
 Z0 (ZZ .string (.bool false) false x3 t32 H) fun t33=>
 Zl t33
 (some ((.int .i64 6),H))
 (K7 x3 x5 x10 x11 x12 H0 H):=Zb [3,6,9,11,12,13] (by kernel_rfl)
theorem Rh:K4 x3 x10 x11 x12 x13 H0 H =
 Z0 (Zn 2 x10 x12) fun t14=>
 Z0 (Z4 true 2 t14 H) fun t15=>
 Z0 (some ((.ptr H.length 0),H++[.cells [(.str []),(.int .i64 0)]])) fun r5=>
 Z0 (Zh 2 r5.1 t15 r5.2) fun r_8=>
 Z0 (Z8 0 r5.1) fun t16=>
 Z0 (Z4 false 1 t16 r_8.2) fun t17=>
 Z0 (Zk .string t17) fun t18=>
 Z0 (Z5 .neq t18 (.int .i64 2)) fun t19=>
 Z0 (Z6 t19 false (.tuple []) (Z8 1 r5.1)) fun t21=>
 Z0 (Z6 t19 false (.tuple []) (Z4 false 1 t21 r_8.2)) fun t22=>
 Z0 (Z6 t19 false (.tuple []) (Z5 .lss t22 (.int .i64 0))) fun t23=>
 Z0 (Zg t19 (.bool true) t23) fun t24=>
 Z0 (Z6 t24 false (.tuple []) (Z8 1 r5.1)) fun t26=>
 Z0 (Z6 t24 false (.tuple []) (Z4 false 1 t26 r_8.2)) fun t27=>
 Z0 (Z6 t24 false (.tuple []) (Z5 .gtr t27 (.int .i64 65535))) fun t28=>
 Z0 (Zg t24 (.bool true) t28) fun t29=>
 Zl t29
 (some ((.int .i64 2),r_8.2))
 (K6 x3 r5.1 x10 x11 x12 H0 r_8.2):=Zb [3,6,9,11,12,13] (by kernel_rfl)
theorem Qv:XW x3 x10 x11 x12 H0 H =
 Z0 (Z5 .lss x12 x11) fun t13=>
 Zl t13
 (K4 x3 x10 x11 x12 t13 H0 H)
 (K3 H0 H):=(ZB (C:=cfg) [3,6,9,11,12,13] (Zo 0 (F1 H0)) _ _).trans (by kernel_rfl)
theorem Rf:K2 x0 H0 H =
 Z0 (some ((.map H.length),H++[.map [] 0])) fun r9=>
 Z0 (Zk (.slice 210) x0) fun t11=>
 XW r9.1 x0 t11 (.int .i64 0) H0 r9.2:=Zb [3,6,9,11,12,13] (by kernel_rfl)
theorem RZ:Wf [p0] H=KO p0 H:=(Zc (C:=cfg) (fn:=Tryz.f223) (c:=Z1 Tryz.f223) (n:=38) [3,6,9,11,12,13] Tryz.func223 (by kernel_rfl) (by kernel_rfl) [p0] (by kernel_rfl) H).trans (by kernel_rfl)
def Dq:Z3:=Zz 226 23 (sub (Z1 Tryz.f226) [1,1,1]) (Zi cfg 23 226 Tryz.f226 H0) [(3,x3)] H
def Vn:KL:=Zd (WG 226 23 Tryz.f226 [1,1,1]) (Zi cfg 23 226 Tryz.f226 H0)
theorem Pm:ZT 23 (Vn H0):=Zw (C:=cfg) (kp:=cfg.keep 226) (sub (Z1 Tryz.f226) [1,1,1]) (ZA 226 Tryz.f226 H0)
def QK:Z3:=Zz 226 23 (sub (Z1 Tryz.f226) [1,1,0,1,0,0,1,1,1]) (Zd (Yd 226 23 Tryz.f226 [1,1,0,1,0,0]) (Z7 0 (Vn H0))) [(0,x0),(3,x3),(5,x5)] H
def Dr:Z3:=Zz 226 23 (sub (Z1 Tryz.f226) [1,1,0,1,0,0,1,1]) (Zd (Yd 226 23 Tryz.f226 [1,1,0,1,0,0]) (Z7 0 (Vn H0))) [(0,x0),(3,x3),(5,x5),(6,x6)] H
def Vo:Z3:=Vv 226 23 (sub (Z1 Tryz.f226) [1,1,0,1,0,0]) (Z7 0 (Vn H0)) [(0,x0),(3,x3),(5,x5)] H
def Hb:Z3:=
 Vo p0 (.int .i64 0) (.int .i64 0) H H
theorem MG:Dq x3 H0 H =
 some (x3,H):=Zb [4,8,9] (by kernel_rfl)
theorem KY:QK x0 x3 x5 H0 H =
 Z0 (Z5 .add x5 (.int .i64 1)) fun t21=>
 Vo x0 x3 t21 H0 H:=Zb [4,8,9] (by kernel_rfl)
theorem MH:Dr x0 x3 x5 x6 H0 H =
 Z0 (Z5 .mul x3 (.int .i64 10)) fun t9=>
 Z0 (Zk .string x0) fun t12=>
 Z0 (Z5 .lss x5 t12) fun t13=>
 Zl t13
 (Z0 (Zu x0 x5) fun t17=>
 Z0 (Z5 .sub t17 (.int .u8 48)) fun t18=>
 Z0 (YK .i64 t18) fun t19=>
 Z0 (Z5 .add t9 t19) fun t20=>
 QK x0 t20 x5 H0 H)
 (QK x0 t9 x5 H0 H):=Zb [4,8,9] (by kernel_rfl)
theorem KZ:Vo x0 x3 x5 H0 H =
 Z0 (Z5 .lss x5 (.int .i64 4)) fun t6=>
 Zl t6
 (Dr x0 x3 x5 t6 H0 H)
 (Dq x3 H0 H):=(ZB (C:=cfg) [4,8,9] (Zo 0 (Pm H0)) _ _).trans (by kernel_rfl)
theorem La:J6 [p0] H=Hb p0 H:=(Zc (C:=cfg) (fn:=Tryz.f226) (c:=Z1 Tryz.f226) (n:=23) [4,8,9] Tryz.func226 (by kernel_rfl) (by kernel_rfl) [p0] (by kernel_rfl) H).trans (by kernel_rfl)
def IN:Z3:=
 Z0 (ZW p0 H) fun r2=>
 Z0 (Z4 true 6 r2.1 r2.2) fun t5=>
 Z0 (Ze KN [t5] r2.2) fun r6=>
 Z0 (TC false 1 3 r6.1) fun t7=>
 Z0 (Ze TI [t7,p1] r6.2) fun r9=>
 some (r9.1,r9.2)
theorem Zcf:IJ [p0,p1] H=IN p0 p1 H:=(Zc (C:=cfg) (fn:=Tryz.f234) (c:=Z1 Tryz.f234) (n:=10) [] Tryz.func234 (by kernel_rfl) (by kernel_rfl) [p0,p1] (by kernel_rfl) H).trans (by kernel_rfl)
def IP:Z3:=
 Z0 (Z5 .geq p0 (.int .i64 0)) fun t4=>
 Z0 (Z6 t4 true (.tuple []) (some p0)) fun t6=>
 Z0 (Z6 t4 true (.tuple []) (Z5 .leq t6 (.int .i64 65535))) fun t7=>
 Z0 (Zg t4 t7 (.bool false)) fun t8=>
 some (t8,H)
theorem Zcg:KM [p0] H=IP p0 H:=(Zc (C:=cfg) (fn:=Tryz.f235) (c:=Z1 Tryz.f235) (n:=9) [] Tryz.func235 (by kernel_rfl) (by kernel_rfl) [p0] (by kernel_rfl) H).trans (by kernel_rfl)
def Dl:Z3:=Zz 236 37 (sub (Z1 Tryz.f236) [1,1,1]) (Zi cfg 37 236 Tryz.f236 H0) [] H
def W8:KL:=Zd (WG 236 37 Tryz.f236 [1,1,1]) (Zi cfg 37 236 Tryz.f236 H0)
theorem Jf:ZT 37 (W8 H0):=Zw (C:=cfg) (kp:=cfg.keep 236) (sub (Z1 Tryz.f236) [1,1,1]) (ZA 236 Tryz.f236 H0)
def QJ:Z3:=Zz 236 37 (sub (Z1 Tryz.f236) [1,1,0,1,0,0,1,1]) (Zd (Yd 236 37 Tryz.f236 [1,1,0,1,0,0]) (Z7 0 (W8 H0))) [(0,x0),(3,x3)] H
def W9:KL:=Zd (WG 236 37 Tryz.f236 [1,1,0,1,0,0,1,1]) (Zd (Yd 236 37 Tryz.f236 [1,1,0,1,0,0]) (Z7 0 (W8 H0)))
theorem Pc:ZT 37 (W9 H0):=Zw (C:=cfg) (kp:=cfg.keep 236) (sub (Z1 Tryz.f236) [1,1,0,1,0,0,1,1]) (Mf (C:=cfg) (kp:=cfg.keep 236) (sub (Z1 Tryz.f236) [1,1,0,1,0,0]) (Zo 0 (Jf H0)))
def Dp:Z3:=Zz 236 37 (sub (Z1 Tryz.f236) [1,1,0,1,0,0,1,0,0,1,1,0,0,1,1]) (Zd (Yd 236 37 Tryz.f236 [1,1,0,1,0,0,1,0,0,1,1,0,0]) (Z7 2 (Z7 1 (W9 H0)))) [(0,x0),(3,x3),(4,x4)] H
def Do:Z3:=Zz 236 37 (sub (Z1 Tryz.f236) [1,1,0,1,0,0,1,0,0,1,1,0,0,1]) (Zd (Yd 236 37 Tryz.f236 [1,1,0,1,0,0,1,0,0,1,1,0,0]) (Z7 2 (Z7 1 (W9 H0)))) [(0,x0),(3,x3),(4,x4)] H
def Vl:Z3:=Vv 236 37 (sub (Z1 Tryz.f236) [1,1,0,1,0,0,1,0,0,1,1,0,0]) (Z7 2 (Z7 1 (W9 H0))) [(0,x0),(3,x3),(4,x4)] H
def Dn:Z3:=Zz 236 37 (sub (Z1 Tryz.f236) [1,1,0,1,0,0,1,0,0,1]) (Z7 1 (W9 H0)) [(0,x0),(3,x3)] H
def Dm:Z3:=Zz 236 37 (sub (Z1 Tryz.f236) [1,1,0,1,0,0,1]) (Zd (Yd 236 37 Tryz.f236 [1,1,0,1,0,0]) (Z7 0 (W8 H0))) [(0,x0),(3,x3)] H
def Vk:Z3:=Vv 236 37 (sub (Z1 Tryz.f236) [1,1,0,1,0,0]) (Z7 0 (W8 H0)) [(0,x0),(3,x3)] H
def Dk:Z3:=Zz 236 37 (sub (Z1 Tryz.f236) [1,1]) (Zi cfg 37 236 Tryz.f236 H0) [(0,x0)] H
def Fp:Z3:=
 Z0 (Zk (.slice 264) p0) fun t6=>
 Z0 (Z5 .gtr t6 (.int .i64 24)) fun t7=>
 Zl t7
 (some ((.int .i64 3),H))
 (Dk p0 H H)
theorem Mt:Dl H0 H =
 some ((.int .i64 0),H):=Zb [3,5,6,8,10,11,13] (by kernel_rfl)
theorem Mv:QJ x0 x3 H0 H =
 Z0 (Z5 .add x3 (.int .i64 1)) fun t13=>
 Vk x0 t13 H0 H:=Zb [3,5,6,8,10,11,13] (by kernel_rfl)
theorem My:Dp x0 x3 x4 H0 H =
 Z0 (Z5 .add x4 (.int .i64 1)) fun t25=>
 Vl x0 x3 t25 H0 H:=Zb [3,5,6,8,10,11,13] (by kernel_rfl)
theorem Mx:Do x0 x3 x4 H0 H =
 Z0 (Zn 5 x0 x4) fun t28=>
 Z0 (Z8 0 t28) fun t29=>
 Z0 (Z4 false 1 t29 H) fun t30=>
 Z0 (Zn 5 x0 x3) fun t33=>
 Z0 (Z8 0 t33) fun t34=>
 Z0 (Z4 false 1 t34 H) fun t35=>
 Z0 (Yh .eql t30 t35) fun t36=>
 Zl t36
 (some ((.int .i64 6),H))
 (Dp x0 x3 x4 H0 H):=Zb [3,5,6,8,10,11,13] (by kernel_rfl)
theorem KU:Vl x0 x3 x4 H0 H =
 Z0 (Z5 .lss x4 x3) fun t23=>
 Zl t23
 (Do x0 x3 x4 H0 H)
 (QJ x0 x3 H0 H):=(ZB (C:=cfg) [3,5,6,8,10,11,13] (Zo 2 (Zo 1 (Pc H0))) _ _).trans (by kernel_rfl)
theorem Mw:Dn x0 x3 H0 H =
 Vl x0 x3 (.int .i64 0) H0 H:=Zb [3,5,6,8,10,11,13] (by kernel_rfl)
theorem Mu:Dm x0 x3 H0 H =
 Z0 (Zn 5 x0 x3) fun t16=>
 Z0 (Z8 0 t16) fun t17=>
 Z0 (Z4 false 1 t17 H) fun t18=>
 Z0 (Ze J5 [t18] H) fun r19=>
 Z0 (Xa .not r19.1) fun t20=>
 Zl t20
 (some ((.int .i64 4),r19.2))
 (Dn x0 x3 H0 r19.2):=Zb [3,5,6,8,10,11,13] (by kernel_rfl)
theorem KT:Vk x0 x3 H0 H =
 Z0 (Zk (.slice 264) x0) fun t10=>
 Z0 (Z5 .lss x3 t10) fun t11=>
 Zl t11
 (Dm x0 x3 H0 H)
 (Dl H0 H):=(ZB (C:=cfg) [3,5,6,8,10,11,13] (Zo 0 (Jf H0)) _ _).trans (by kernel_rfl)
theorem Ms:Dk x0 H0 H =
 Vk x0 (.int .i64 0) H0 H:=Zb [3,5,6,8,10,11,13] (by kernel_rfl)
theorem L8:VE [p0] H=Fp p0 H:=(Zc (C:=cfg) (fn:=Tryz.f236) (c:=Z1 Tryz.f236) (n:=37) [3,5,6,8,10,11,13] Tryz.func236 (by kernel_rfl) (by kernel_rfl) [p0] (by kernel_rfl) H).trans (by kernel_rfl)
def By:Z3:=Zz 237 46 (sub (Z1 Tryz.f237) [1,1,1]) (Zi cfg 46 237 Tryz.f237 H0) [] H
def XG:KL:=Zd (WG 237 46 Tryz.f237 [1,1,1]) (Zi cfg 46 237 Tryz.f237 H0)
theorem QP:ZT 46 (XG H0):=Zw (C:=cfg) (kp:=cfg.keep 237) (sub (Z1 Tryz.f237) [1,1,1]) (ZA 237 Tryz.f237 H0)
def UZ:Z3:=Zz 237 46 (sub (Z1 Tryz.f237) [1,1,0,1,0,0,1,1]) (Zd (Yd 237 46 Tryz.f237 [1,1,0,1,0,0]) (Z7 0 (XG H0))) [(0,x0),(3,x3)] H
def XH:KL:=Zd (WG 237 46 Tryz.f237 [1,1,0,1,0,0,1,1]) (Zd (Yd 237 46 Tryz.f237 [1,1,0,1,0,0]) (Z7 0 (XG H0)))
theorem Ta:ZT 46 (XH H0):=Zw (C:=cfg) (kp:=cfg.keep 237) (sub (Z1 Tryz.f237) [1,1,0,1,0,0,1,1]) (Mf (C:=cfg) (kp:=cfg.keep 237) (sub (Z1 Tryz.f237) [1,1,0,1,0,0]) (Zo 0 (QP H0)))
def BC:Z3:=Zz 237 46 (sub (Z1 Tryz.f237) [1,1,0,1,0,0,1,0,0,1,1,0,0,1,1]) (Zd (Yd 237 46 Tryz.f237 [1,1,0,1,0,0,1,0,0,1,1,0,0]) (Z7 2 (Z7 1 (XH H0)))) [(0,x0),(3,x3),(4,x4)] H
def BB:Z3:=Zz 237 46 (sub (Z1 Tryz.f237) [1,1,0,1,0,0,1,0,0,1,1,0,0,1]) (Zd (Yd 237 46 Tryz.f237 [1,1,0,1,0,0,1,0,0,1,1,0,0]) (Z7 2 (Z7 1 (XH H0)))) [(0,x0),(3,x3),(4,x4)] H
def WI:Z3:=Vv 237 46 (sub (Z1 Tryz.f237) [1,1,0,1,0,0,1,0,0,1,1,0,0]) (Z7 2 (Z7 1 (XH H0))) [(0,x0),(3,x3),(4,x4)] H
def BA:Z3:=Zz 237 46 (sub (Z1 Tryz.f237) [1,1,0,1,0,0,1,0,0,1]) (Z7 1 (XH H0)) [(0,x0),(3,x3)] H
def Bz:Z3:=Zz 237 46 (sub (Z1 Tryz.f237) [1,1,0,1,0,0,1]) (Zd (Yd 237 46 Tryz.f237 [1,1,0,1,0,0]) (Z7 0 (XG H0))) [(0,x0),(3,x3)] H
def WH:Z3:=Vv 237 46 (sub (Z1 Tryz.f237) [1,1,0,1,0,0]) (Z7 0 (XG H0)) [(0,x0),(3,x3)] H
def Bx:Z3:=Zz 237 46 (sub (Z1 Tryz.f237) [1,1]) (Zi cfg 46 237 Tryz.f237 H0) [(0,x0)] H
def Dg:Z3:=
 Z0 (Zk (.slice 210) p0) fun t6=>
 Z0 (Z5 .gtr t6 (.int .i64 64)) fun t7=>
 Zl t7
 (some ((.int .i64 3),H))
 (Bx p0 H H)
theorem Nh:By H0 H =
 some ((.int .i64 0),H):=Zb [3,5,6,8,10,11,13] (by kernel_rfl)
theorem Nj:UZ x0 x3 H0 H =
 Z0 (Z5 .add x3 (.int .i64 1)) fun t13=>
 WH x0 t13 H0 H:=Zb [3,5,6,8,10,11,13] (by kernel_rfl)
theorem Nn:BC x0 x3 x4 H0 H =
 Z0 (Z5 .add x4 (.int .i64 1)) fun t34=>
 WI x0 x3 t34 H0 H:=Zb [3,5,6,8,10,11,13] (by kernel_rfl)
theorem Nl:BB x0 x3 x4 H0 H =
 Z0 (Zn 2 x0 x4) fun t37=>
 Z0 (Z8 0 t37) fun t38=>
 Z0 (Z4 false 1 t38 H) fun t39=>
 Z0 (Zn 2 x0 x3) fun t42=>
 Z0 (Z8 0 t42) fun t43=>
 Z0 (Z4 false 1 t43 H) fun t44=>
 Z0 (Yh .eql t39 t44) fun t45=>
 Zl t45
 (some ((.int .i64 6),H))
 (BC x0 x3 x4 H0 H):=Zb [3,5,6,8,10,11,13] (by kernel_rfl)
theorem K1:WI x0 x3 x4 H0 H =
 Z0 (Z5 .lss x4 x3) fun t32=>
 Zl t32
 (BB x0 x3 x4 H0 H)
 (UZ x0 x3 H0 H):=(ZB (C:=cfg) [3,5,6,8,10,11,13] (Zo 2 (Zo 1 (Ta H0))) _ _).trans (by kernel_rfl)
theorem Nk:BA x0 x3 H0 H =
 WI x0 x3 (.int .i64 0) H0 H:=Zb [3,5,6,8,10,11,13] (by kernel_rfl)
theorem Ni:Bz x0 x3 H0 H =
 Z0 (Zn 2 x0 x3) fun t16=>
 Z0 (Z8 0 t16) fun t17=>
 Z0 (Z4 false 1 t17 H) fun t18=>
 Z0 (Zk .string t18) fun t19=>
 Z0 (Z5 .neq t19 (.int .i64 2)) fun t20=>
 Z0 (Z6 t20 false (.tuple []) (some x0)) fun t22=>
 Z0 (Z6 t20 false (.tuple []) (some x3)) fun t23=>
 Z0 (Z6 t20 false (.tuple []) (Zn 2 t22 t23)) fun t24=>
 Z0 (Z6 t20 false (.tuple []) (Z8 1 t24)) fun t25=>
 Z0 (Z6 t20 false (.tuple []) (Z4 false 1 t25 H)) fun t26=>
 Z0 (Z6 t20 false ((.tuple []),H) (Ze KM [t26] H)) fun r27=>
 Z0 (Z6 t20 false (.tuple []) (Xa .not r27.1)) fun t28=>
 Z0 (Zg t20 (.bool true) t28) fun t29=>
 Zl t29
 (some ((.int .i64 2),r27.2))
 (BA x0 x3 H0 r27.2):=Zb [3,5,6,8,10,11,13] (by kernel_rfl)
theorem K0:WH x0 x3 H0 H =
 Z0 (Zk (.slice 210) x0) fun t10=>
 Z0 (Z5 .lss x3 t10) fun t11=>
 Zl t11
 (Bz x0 x3 H0 H)
 (By H0 H):=(ZB (C:=cfg) [3,5,6,8,10,11,13] (Zo 0 (QP H0)) _ _).trans (by kernel_rfl)
theorem Ng:Bx x0 H0 H =
 WH x0 (.int .i64 0) H0 H:=Zb [3,5,6,8,10,11,13] (by kernel_rfl)
theorem Mm:Vh [p0] H=Dg p0 H:=(Zc (C:=cfg) (fn:=Tryz.f237) (c:=Z1 Tryz.f237) (n:=46) [3,5,6,8,10,11,13] Tryz.func237 (by kernel_rfl) (by kernel_rfl) [p0] (by kernel_rfl) H).trans (by kernel_rfl)
def SG:Z3:=Zz 252 23 (sub (Z1 Tryz.f252) [1,1,1]) (Zi cfg 23 252 Tryz.f252 H0) [(5,x5)] H
def Gu:KL:=Zd (WG 252 23 Tryz.f252 [1,1,1]) (Zi cfg 23 252 Tryz.f252 H0)
theorem HG:ZT 23 (Gu H0):=Zw (C:=cfg) (kp:=cfg.keep 252) (sub (Z1 Tryz.f252) [1,1,1]) (ZA 252 Tryz.f252 H0)
def SI:Z3:=Zz 252 23 (sub (Z1 Tryz.f252) [1,1,0,1,0,0,1,1]) (Zd (Yd 252 23 Tryz.f252 [1,1,0,1,0,0]) (Z7 0 (Gu H0))) [(0,x0),(1,x1),(5,x5),(6,x6)] H
def SH:Z3:=Zz 252 23 (sub (Z1 Tryz.f252) [1,1,0,1,0,0,1]) (Zd (Yd 252 23 Tryz.f252 [1,1,0,1,0,0]) (Z7 0 (Gu H0))) [(0,x0),(1,x1),(5,x5),(6,x6)] H
def Gv:Z3:=Vv 252 23 (sub (Z1 Tryz.f252) [1,1,0,1,0,0]) (Z7 0 (Gu H0)) [(0,x0),(1,x1),(5,x5),(6,x6)] H
def Ha:Z3:=
 Gv p0 p1 .nils (.int .i64 0) H H
theorem Ox:SG x5 H0 H =
 Z0 (Q2 x5 H) fun t22=>
 some (t22,H):=Zb [4,5,6] (by kernel_rfl)
theorem Oz:SI x0 x1 x5 x6 H0 H =
 Z0 (Z5 .add x6 (.int .i64 1)) fun t12=>
 Gv x0 x1 x5 t12 H0 H:=Zb [4,5,6] (by kernel_rfl)
theorem Oy:SH x0 x1 x5 x6 H0 H =
 Z0 (Zu x1 x6) fun t17=>
 Z0 (Zu x0 t17) fun t18=>
 Z0 ((ZF 1 [(0,t18)] [(.int .u8 0)]).map (.vs 1 .clip)) fun t19=>
 Z0 (Y6 1 1 x5 t19 H) fun r20=>
 SI x0 x1 r20.1 x6 H0 r20.2:=Zb [4,5,6] (by kernel_rfl)
theorem Pd:Gv x0 x1 x5 x6 H0 H =
 Z0 (Zk .string x1) fun t9=>
 Z0 (Z5 .lss x6 t9) fun t10=>
 Zl t10
 (SH x0 x1 x5 x6 H0 H)
 (SG x5 H0 H):=(ZB (C:=cfg) [4,5,6] (Zo 0 (HG H0)) _ _).trans (by kernel_rfl)
theorem Zaj:TI [p0,p1] H=Ha p0 p1 H:=(Zc (C:=cfg) (fn:=Tryz.f252) (c:=Z1 Tryz.f252) (n:=23) [4,5,6] Tryz.func252 (by kernel_rfl) (by kernel_rfl) [p0,p1] (by kernel_rfl) H).trans (by kernel_rfl)
end
end Go.Am
