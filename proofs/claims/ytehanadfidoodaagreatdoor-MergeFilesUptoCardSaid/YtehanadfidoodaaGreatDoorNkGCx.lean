/-
  The functions of the translation over the abstract machine, a further part: written by program (wip/gen.py).
-/
import Derived.Test.YtehanadfidoodaaGreatDoorNkGx
namespace Go.Am
open Go.Proofs
set_option maxRecDepth 100000
set_option linter.unusedVariables false
set_option linter.unusedSimpArgs false
noncomputable abbrev ZE (f n:Nat):=Yl cfg (Za cfg) (Ya cfg (cfg.keep f) n) (cfg.keep f) n Zc Z6
noncomputable abbrev VR (f n:Nat):=Ya cfg (cfg.keep f) n
noncomputable section
abbrev WV (f n:Nat)(F:Func)(p:List Nat):KL→AL→Hp→Z3:=fun k al H=>ZE f n (sub (Z1 F) p) k (ZX (cfg.keep f) (sub (Z1 F) p) al) H
abbrev Ye (f n:Nat)(F:Func)(p:List Nat):KL→AL→Hp→Z3:=fun k al H=>VR f n (sub (Z1 F) p) k (ZX (cfg.keep f) (sub (Z1 F) p) al) H
variable (p0 p1 p2 p3 p4 x0 x1 x2 x3 x4 x5 x6 x7 x8 x9 x10 x11 x12 x13 x16 x17 x18 x19 x24 x25 x26 x27 x28 x29 x30:AV)(H0 H:Hp)
def NG:Z3:=ZE 67 39 (sub (Z1 Tryz.f67) [1,1,1,1,1,1]) (Zh cfg 39 67 Tryz.f67 H0) [(9,x9)] H
def Bm:Z3:=ZE 67 39 (sub (Z1 Tryz.f67) [1,1,1,1]) (Zh cfg 39 67 Tryz.f67 H0) [(2,x2),(3,x3),(4,x4),(5,x5)] H
def Mo:Z3:=
 Z0 (Y4 p0 H) fun r4=>
 Z0 (Y4 p1 r4.2) fun r5=>
 Z0 (Z4 true 5 r5.1 r5.2) fun t10=>
 Z0 (Ze WH [t10] r5.2) fun r11=>
 Z0 (Zi 5 r5.1 r11.1 r11.2) fun r_5=>
 Z0 (Z4 true 6 r4.1 r_5.2) fun t12=>
 Z0 (Z4 true 5 r5.1 r_5.2) fun t13=>
 Z0 (Ze Xe [t12,t13,p2,p3] r_5.2) fun r16=>
 Z0 (Z5 .neq r16.1 (.int .i64 0)) fun t18=>
 Z0 (Z7 t18 false (.tuple []) (Z8 4 r5.1)) fun t20=>
 Z0 (Z7 t18 false (.tuple []) (Z4 false 1 t20 r16.2)) fun t21=>
 Z0 (Zj t18 (.bool true) t21) fun t22=>
 Z0 (Z7 t22 false (.tuple []) (Z8 3 r5.1)) fun t24=>
 Z0 (Z7 t22 false (.tuple []) (Z4 false 1 t24 r16.2)) fun t25=>
 Z0 (Zj t22 (.bool true) t25) fun t26=>
 Zm t26
 (some (r16.1,r16.2))
 (Bm p2 p3 r4.1 r5.1 H r16.2)
theorem Af:NG x9 H0 H =
 some (x9,H):=Zb [5,8] (by kernel_rfl)
theorem Ae:Bm x2 x3 x4 x5 H0 H =
 Z0 (Z4 true 6 x4 H) fun t28=>
 Z0 (Ze Vl [t28,x2,x3] H) fun r31=>
 Z0 (Z8 2 x5) fun t32=>
 Z0 (Z4 false 1 t32 r31.2) fun t33=>
 Z0 (Z5 .and t33 (.int .i64 2)) fun t34=>
 Z0 (Z5 .neq t34 (.int .i64 0)) fun t35=>
 Zm t35
 (Z0 (XF .neg r31.1) fun t37=>
 some (t37,r31.2))
 (NG r31.1 H0 r31.2):=Zb [5,8] (by kernel_rfl)
theorem AR:WF [p0,p1,p2,p3] H=Mo p0 p1 p2 p3 H:=(Zd (C:=cfg) (fn:=Tryz.f67) (c:=Z1 Tryz.f67) (n:=39) [5,8] Tryz.func67 (by kernel_rfl) (by kernel_rfl) [p0,p1,p2,p3] (by kernel_rfl) H).trans (by kernel_rfl)
def RJ:Z3:=ZE 72 55 (sub (Z1 Tryz.f72) [1,1,1,1]) (Zh cfg 55 72 Tryz.f72 H0) [] H
def WD:KL:=Zc (WV 72 55 Tryz.f72 [1,1,1,1]) (Zh cfg 55 72 Tryz.f72 H0)
theorem Mi:ZR 55 (WD H0):=Zu (C:=cfg) (kp:=cfg.keep 72) (sub (Z1 Tryz.f72) [1,1,1,1]) (Zx 72 Tryz.f72 H0)
def RL:Z3:=ZE 72 55 (sub (Z1 Tryz.f72) [1,1,1,0,1,0,0,1,1,1]) (Zc (Ye 72 55 Tryz.f72 [1,1,1,0,1,0,0]) (Z6 0 (WD H0))) [(2,x2),(3,x3),(4,x4),(5,x5),(26,x26),(27,x27),(28,x28)] H
def Ok:KL:=Zc (WV 72 55 Tryz.f72 [1,1,1,0,1,0,0,1,1,1]) (Zc (Ye 72 55 Tryz.f72 [1,1,1,0,1,0,0]) (Z6 0 (WD H0)))
def Uk:Z3:=ZE 72 55 (sub (Z1 Tryz.f72) [1,1,1,0,1,0,0,1,1,0,0,1,1,1]) (Z6 1 (Ok H0)) [(2,x2),(3,x3),(4,x4),(5,x5),(10,x10),(11,x11),(26,x26),(27,x27),(28,x28)] H
def RK:Z3:=ZE 72 55 (sub (Z1 Tryz.f72) [1,1,1,0,1,0,0,1,1]) (Zc (Ye 72 55 Tryz.f72 [1,1,1,0,1,0,0]) (Z6 0 (WD H0))) [(2,x2),(3,x3),(4,x4),(5,x5),(26,x26),(27,x27),(28,x28),(29,x29)] H
def Ul:Z3:=VR 72 55 (sub (Z1 Tryz.f72) [1,1,1,0,1,0,0]) (Z6 0 (WD H0)) [(2,x2),(3,x3),(4,x4),(5,x5),(26,x26),(27,x27),(28,x28)] H
def RI:Z3:=ZE 72 55 (sub (Z1 Tryz.f72) [1,1,1]) (Zh cfg 55 72 Tryz.f72 H0) [(2,x2),(3,x3),(4,x4),(5,x5)] H
def Tk:Z3:=
 Z0 (Y4 p0 H) fun r4=>
 Z0 (Y4 p1 r4.2) fun r5=>
 Z0 (Z4 true 5 r5.1 r5.2) fun t13=>
 Z0 (Ze WH [t13] r5.2) fun r14=>
 Z0 (Zi 5 r5.1 r14.1 r14.2) fun r_5=>
 Z0 (Z8 0 r5.1) fun t15=>
 Z0 (Z4 false 1 t15 r_5.2) fun t16=>
 Z0 (Zk (.slice 149) t16) fun t17=>
 Z0 (Z5 .eql t17 (.int .i64 0)) fun t18=>
 Zm t18
 (Z0 (Z4 true 6 r4.1 r_5.2) fun t19=>
 Z0 (Z8 2 r5.1) fun t20=>
 Z0 (Z4 false 1 t20 r_5.2) fun t21=>
 Z0 (Ze U2 [t19,t21,p2,p3] r_5.2) fun r24=>
 some (r24.1,r24.2))
 (RI p2 p3 r4.1 r5.1 H r_5.2)
theorem ES:RJ H0 H =
 some ((.int .i64 0),H):=Zb [4,6,10,13,14] (by kernel_rfl)
theorem EU:RL x2 x3 x4 x5 x26 x27 x28 H0 H =
 Z0 (Z5 .add x28 (.int .i64 1)) fun t54=>
 Ul x2 x3 x4 x5 x26 x27 t54 H0 H:=Zb [4,6,10,13,14] (by kernel_rfl)
theorem EV:Uk x2 x3 x4 x5 x10 x11 x26 x27 x28 H0 H =
 YU x4 H fun z4 z4H=>
 YU x5 z4H fun z5 z5H=>
 YU x10 z5H fun z10 z10H=>
 Z0 (YE true 6 z4) fun t38=>
 Z0 (Z4 true 5 z10 z10H) fun t41=>
 Z0 (Z8 1 z5) fun t42=>
 Z0 (Z4 false 1 t42 z10H) fun t43=>
 Z0 (Uw [x2,t41,t43] z10H) fun r44=>
 Z0 (YE true 5 z10) fun t46=>
 Z0 (Z8 1 z5) fun t47=>
 Z0 (YE false 1 t47) fun t48=>
 Z0 (Uw [x3,t46,t48] r44.2) fun r49=>
 Z0 (Ze U2 [t38,x11,r44.1,r49.1] r49.2) fun r50=>
 Z0 (Z5 .neq r50.1 (.int .i64 0)) fun t52=>
 Zm t52
 (some (r50.1,r50.2))
 (RL x2 x3 z4 z5 x26 x27 x28 H0 r50.2):=Zb [4,6,10,13,14] (by kernel_rfl)
theorem ET:RK x2 x3 x4 x5 x26 x27 x28 x29 H0 H =
 Z0 (Zl 5 x26 x28) fun t30=>
 Z0 (Z4 true 5 t30 H) fun t31=>
 Z0 (some ((.ptr H.length 0),H++[.cells [(.int .i64 0),(.int .i64 0),(.int .i64 0),(.int .i64 0),(.int .i64 0)]])) fun r10=>
 Z0 (Zi 5 r10.1 t31 r10.2) fun r_14=>
 Z0 (Z8 4 r10.1) fun t32=>
 Z0 (Z4 false 1 t32 r_14.2) fun t33=>
 Z0 (Z5 .eql t33 (.int .i64 0)) fun t35=>
 Zm t35
 (Z0 (Z8 2 x5) fun t36=>
 Z0 (Z4 false 1 t36 r_14.2) fun t37=>
 Uk x2 x3 x4 x5 r10.1 t37 x26 x27 x28 H0 r_14.2)
 (Uk x2 x3 x4 x5 r10.1 t33 x26 x27 x28 H0 r_14.2):=Zb [4,6,10,13,14] (by kernel_rfl)
theorem BJ:Ul x2 x3 x4 x5 x26 x27 x28 H0 H =
 Z0 (Z5 .lss x28 x27) fun t29=>
 Zm t29
 (RK x2 x3 x4 x5 x26 x27 x28 t29 H0 H)
 (RJ H0 H):=(Zy (C:=cfg) [4,6,10,13,14] (Zn 0 (Mi H0)) _ _).trans (by kernel_rfl)
theorem ER:RI x2 x3 x4 x5 H0 H =
 Z0 (Z8 0 x5) fun t25=>
 Z0 (Z4 false 1 t25 H) fun t26=>
 Z0 (Zk (.slice 149) t26) fun t27=>
 Ul x2 x3 x4 x5 t26 t27 (.int .i64 0) H0 H:=Zb [4,6,10,13,14] (by kernel_rfl)
theorem Sa:Xe [p0,p1,p2,p3] H=Tk p0 p1 p2 p3 H:=(Zd (C:=cfg) (fn:=Tryz.f72) (c:=Z1 Tryz.f72) (n:=55) [4,6,10,13,14] Tryz.func72 (by kernel_rfl) (by kernel_rfl) [p0,p1,p2,p3] (by kernel_rfl) H).trans (by kernel_rfl)
def NO:Z3:=ZE 105 8 (sub (Z1 Tryz.f105) [1,1]) (Zh cfg 8 105 Tryz.f105 H0) [(1,x1),(2,x2)] H
def D2:Z3:=
 Z0 (Y4 p0 H) fun r1=>
 Z0 (some ((.ptr r1.2.length 0),r1.2++[.cells [.nils,(.int .i64 0),(.int .i64 0),(.bool false),(.bool false)]])) fun r2=>
 Z0 (Z4 true 5 r1.1 r2.2) fun t3=>
 Z0 (Ze XT [t3] r2.2) fun r4=>
 Z0 (Z5 .neq r4.1 (.int .i64 0)) fun t5=>
 Zm t5
 (Z0 ((YZ [(1,1,(.int .i64 (-1)))] [.nils,(.int .i64 0),(.int .i64 0),(.bool false),(.bool false)]).map .agg) fun t6=>
 Z0 (Zi 5 r2.1 t6 r4.2) fun r_10=>
 Z0 (Z4 true 5 r2.1 r_10.2) fun v2=>
 some (v2,r_10.2))
 (NO r1.1 r2.1 H r4.2)
theorem Au:NO x1 x2 H0 H =
 Z0 (Z4 true 5 x1 H) fun t7=>
 Z0 (Zi 5 x2 t7 H) fun r_4=>
 Z0 (Z4 true 5 x2 r_4.2) fun v2=>
 some (v2,r_4.2):=Zb [3] (by kernel_rfl)
theorem Rm:WH [p0] H=D2 p0 H:=(Zd (C:=cfg) (fn:=Tryz.f105) (c:=Z1 Tryz.f105) (n:=8) [3] Tryz.func105 (by kernel_rfl) (by kernel_rfl) [p0] (by kernel_rfl) H).trans (by kernel_rfl)
def TB:Z3:=ZE 106 60 (sub (Z1 Tryz.f106) [1,1,1,1,1,1,1]) (Zh cfg 60 106 Tryz.f106 H0) [(1,x1),(2,x2)] H
def TA:Z3:=ZE 106 60 (sub (Z1 Tryz.f106) [1,1,1,1,1,1]) (Zh cfg 60 106 Tryz.f106 H0) [(1,x1),(2,x2),(8,x8),(9,x9)] H
def Tz:Z3:=ZE 106 60 (sub (Z1 Tryz.f106) [1,1,1,1,1]) (Zh cfg 60 106 Tryz.f106 H0) [(1,x1),(2,x2),(8,x8),(9,x9)] H
def WT:KL:=Zc (WV 106 60 Tryz.f106 [1,1,1,1,1]) (Zh cfg 60 106 Tryz.f106 H0)
theorem LQ:ZR 60 (WT H0):=Zu (C:=cfg) (kp:=cfg.keep 106) (sub (Z1 Tryz.f106) [1,1,1,1,1]) (Zx 106 Tryz.f106 H0)
def TD:Z3:=ZE 106 60 (sub (Z1 Tryz.f106) [1,1,1,1,0,1,0,0,1,1,1]) (Zc (Ye 106 60 Tryz.f106 [1,1,1,1,0,1,0,0]) (Z6 0 (WT H0))) [(1,x1),(2,x2),(8,x8),(9,x9),(24,x24),(25,x25)] H
def Za6:KL:=Zc (WV 106 60 Tryz.f106 [1,1,1,1,0,1,0,0,1,1,1]) (Zc (Ye 106 60 Tryz.f106 [1,1,1,1,0,1,0,0]) (Z6 0 (WT H0)))
def TE:Z3:=ZE 106 60 (sub (Z1 Tryz.f106) [1,1,1,1,0,1,0,0,1,1,0,0,1,1]) (Z6 1 (Za6 H0)) [(1,x1),(2,x2),(8,x8),(9,x9),(10,x10),(24,x24),(25,x25)] H
def TC:Z3:=ZE 106 60 (sub (Z1 Tryz.f106) [1,1,1,1,0,1,0,0,1,1]) (Zc (Ye 106 60 Tryz.f106 [1,1,1,1,0,1,0,0]) (Z6 0 (WT H0))) [(1,x1),(2,x2),(8,x8),(9,x9),(24,x24),(25,x25),(26,x26)] H
def UF:Z3:=VR 106 60 (sub (Z1 Tryz.f106) [1,1,1,1,0,1,0,0]) (Z6 0 (WT H0)) [(1,x1),(2,x2),(8,x8),(9,x9),(24,x24),(25,x25)] H
def PB:Z3:=
 Z0 (Y4 p0 H) fun r3=>
 Z0 (Z4 true 6 r3.1 r3.2) fun t11=>
 Z0 (Ze Vg [t11] r3.2) fun r12=>
 Z0 (Zi 6 r3.1 r12.1 r12.2) fun r_4=>
 YU r3.1 r_4.2 fun z3 z3H=>
 Z0 (some (.fn (.func 148) [] [z3])) fun t13=>
 Z0 (Xl cfg (Za cfg) t13 [p1] z3H) fun r16=>
 Z0 (Yf cfg (Za cfg) t13 [p2] r16.2) fun r19=>
 Z0 (Zk (.slice 3) r16.1) fun t21=>
 Z0 (Zk (.slice 3) r19.1) fun t23=>
 Z0 (U3 t21 t23) fun t24=>
 UF p1 p2 r16.1 r19.1 t24 (.int .i64 0) H r19.2
theorem C8:TB x1 x2 H0 H =
 Z0 (Ze G1 [x1,x2] H) fun r59=>
 some (r59.1,r59.2):=Zb [6,9,11,12,14,16] (by kernel_rfl)
theorem C7:TA x1 x2 x8 x9 H0 H =
 Z0 (Zk (.slice 3) x8) fun t53=>
 Z0 (Zk (.slice 3) x9) fun t55=>
 Z0 (Z5 .gtr t53 t55) fun t56=>
 Zm t56
 (some ((.int .i64 1),H))
 (TB x1 x2 H0 H):=Zb [6,9,11,12,14,16] (by kernel_rfl)
theorem C6:Tz x1 x2 x8 x9 H0 H =
 Z0 (Zk (.slice 3) x8) fun t48=>
 Z0 (Zk (.slice 3) x9) fun t50=>
 Z0 (Z5 .lss t48 t50) fun t51=>
 Zm t51
 (some ((.int .i64 (-1)),H))
 (TA x1 x2 x8 x9 H0 H):=Zb [6,9,11,12,14,16] (by kernel_rfl)
theorem Ca:TD x1 x2 x8 x9 x24 x25 H0 H =
 Z0 (Z5 .add x25 (.int .i64 1)) fun t46=>
 UF x1 x2 x8 x9 x24 t46 H0 H:=Zb [6,9,11,12,14,16] (by kernel_rfl)
theorem Cb:TE x1 x2 x8 x9 x10 x24 x25 H0 H =
 Z0 (Zl 1 x8 x10) fun t39=>
 Z0 (Z4 false 1 t39 H) fun t40=>
 Z0 (Zl 1 x9 x10) fun t43=>
 Z0 (Z4 false 1 t43 H) fun t44=>
 Z0 (Z5 .gtr t40 t44) fun t45=>
 Zm t45
 (some ((.int .i64 1),H))
 (TD x1 x2 x8 x9 x24 x25 H0 H):=Zb [6,9,11,12,14,16] (by kernel_rfl)
theorem C9:TC x1 x2 x8 x9 x24 x25 x26 H0 H =
 Z0 (Zl 1 x8 x25) fun t30=>
 Z0 (Z4 false 1 t30 H) fun t31=>
 Z0 (Zl 1 x9 x25) fun t34=>
 Z0 (Z4 false 1 t34 H) fun t35=>
 Z0 (Z5 .lss t31 t35) fun t36=>
 Zm t36
 (some ((.int .i64 (-1)),H))
 (TE x1 x2 x8 x9 x25 x24 x25 H0 H):=Zb [6,9,11,12,14,16] (by kernel_rfl)
theorem DC:UF x1 x2 x8 x9 x24 x25 H0 H =
 Z0 (Z5 .lss x25 x24) fun t26=>
 Zm t26
 (TC x1 x2 x8 x9 x24 x25 t26 H0 H)
 (Tz x1 x2 x8 x9 H0 H):=(Zy (C:=cfg) [6,9,11,12,14,16] (Zn 0 (LQ H0)) _ _).trans (by kernel_rfl)
theorem Hy:Vl [p0,p1,p2] H=PB p0 p1 p2 H:=(Zd (C:=cfg) (fn:=Tryz.f106) (c:=Z1 Tryz.f106) (n:=60) [6,9,11,12,14,16] Tryz.func106 (by kernel_rfl) (by kernel_rfl) [p0,p1,p2] (by kernel_rfl) H).trans (by kernel_rfl)
def Bs:Z3:=ZE 107 50 (sub (Z1 Tryz.f107) [1,1,1,1]) (Zh cfg 50 107 Tryz.f107 H0) [(4,x4),(5,x5),(6,x6),(7,x7),(9,x9)] H
def QH:Z3:=ZE 107 50 (sub (Z1 Tryz.f107) [1,1,1]) (Zh cfg 50 107 Tryz.f107 H0) [(4,x4),(5,x5),(6,x6),(7,x7),(9,x9)] H
def Mr:Z3:=
 Z0 (Y4 p0 H) fun r4=>
 Z0 (Y4 p1 r4.2) fun r5=>
 Z0 (Y4 p2 r5.2) fun r6=>
 Z0 (Y4 p3 r6.2) fun r7=>
 Z0 (Z4 false 1 r5.1 r7.2) fun t15=>
 Z0 (Z5 .and t15 (.int .i64 2)) fun t16=>
 Z0 (Z5 .neq t16 (.int .i64 0)) fun t17=>
 Zm t17
 (QH r4.1 r5.1 r6.1 r7.1 (.int .i64 (-1)) H r7.2)
 (QH r4.1 r5.1 r6.1 r7.1 (.int .i64 1) H r7.2)
theorem At:Bs x4 x5 x6 x7 x9 H0 H =
 Z0 (some (.fn (.func 154) [] [x5,x6,x7])) fun t36=>
 Z0 (Yf cfg (Za cfg) t36 [(.int .i64 8),(.fn (.func 155) [] [])] H) fun r38=>
 Z0 (Yf cfg (Za cfg) t36 [(.int .i64 16),(.fn (.func 157) [] [])] r38.2) fun r40=>
 YU x4 r40.2 fun z4 z4H=>
 Z0 (some (.fn (.func 158) [] [z4])) fun t42=>
 Z0 (Yf cfg (Za cfg) t36 [(.int .i64 4),t42] z4H) fun r43=>
 Z0 (Z4 true 6 z4 r43.2) fun t45=>
 Z0 (Z4 false 1 x6 r43.2) fun t46=>
 Z0 (Z4 false 1 x7 r43.2) fun t47=>
 Z0 (Ze Vl [t45,t46,t47] r43.2) fun r48=>
 Z0 (Z5 .mul x9 r48.1) fun t49=>
 some (t49,r48.2):=Zb [4,8] (by kernel_rfl)
theorem As:QH x4 x5 x6 x7 x9 H0 H =
 Z0 (Z4 false 1 x5 H) fun t18=>
 Z0 (Z5 .and t18 (.int .i64 1)) fun t19=>
 Z0 (Z5 .neq t19 (.int .i64 0)) fun t20=>
 Zm t20
 (Z0 (Z4 false 1 x6 H) fun t22=>
 Z0 (Ze Q4 [t22] H) fun r23=>
 Z0 (ZK r23.1 0) fun t24=>
 Z0 (ZK r23.1 1) fun t25=>
 Z0 (Z4 false 1 x7 r23.2) fun t27=>
 Z0 (Ze Q4 [t27] r23.2) fun r28=>
 Z0 (ZK r28.1 0) fun t29=>
 Z0 (ZK r28.1 1) fun t30=>
 Z0 (Ze Fz [t24,t29] r28.2) fun r34=>
 Z0 (Z5 .mul x9 r34.1) fun t35=>
 some (t35,r34.2))
 (Bs x4 x5 x6 x7 x9 H0 H):=Zb [4,8] (by kernel_rfl)
theorem AW:U2 [p0,p1,p2,p3] H=Mr p0 p1 p2 p3 H:=(Zd (C:=cfg) (fn:=Tryz.f107) (c:=Z1 Tryz.f107) (n:=50) [4,8] Tryz.func107 (by kernel_rfl) (by kernel_rfl) [p0,p1,p2,p3] (by kernel_rfl) H).trans (by kernel_rfl)
def CU:Z3:=ZE 127 59 (sub (Z1 Tryz.f127) [1,1,1]) (Zh cfg 59 127 Tryz.f127 H0) [] H
def B1:KL:=Zc (WV 127 59 Tryz.f127 [1,1,1]) (Zh cfg 59 127 Tryz.f127 H0)
theorem Ic:ZR 59 (B1 H0):=Zu (C:=cfg) (kp:=cfg.keep 127) (sub (Z1 Tryz.f127) [1,1,1]) (Zx 127 Tryz.f127 H0)
def RY:Z3:=ZE 127 59 (sub (Z1 Tryz.f127) [1,1,0,1,0,0,1,1]) (Zc (Ye 127 59 Tryz.f127 [1,1,0,1,0,0]) (Z6 0 (B1 H0))) [(0,x0),(3,x3)] H
def RX:Z3:=ZE 127 59 (sub (Z1 Tryz.f127) [1,1,0,1,0,0,1]) (Zc (Ye 127 59 Tryz.f127 [1,1,0,1,0,0]) (Z6 0 (B1 H0))) [(0,x0),(3,x3)] H
def B2:Z3:=VR 127 59 (sub (Z1 Tryz.f127) [1,1,0,1,0,0]) (Z6 0 (B1 H0)) [(0,x0),(3,x3)] H
def CT:Z3:=ZE 127 59 (sub (Z1 Tryz.f127) [1,1]) (Zh cfg 59 127 Tryz.f127 H0) [(0,x0)] H
def AF:Z3:=
 Z0 (Zk .string p0) fun t6=>
 Z0 (Z5 .eql t6 (.int .i64 0)) fun t7=>
 Z0 (Z7 t7 false (.tuple []) (some p0)) fun t9=>
 Z0 (Z7 t7 false (.tuple []) (Zk .string t9)) fun t10=>
 Z0 (Z7 t7 false (.tuple []) (Z5 .gtr t10 (.int .i64 32))) fun t11=>
 Z0 (Zj t7 (.bool true) t11) fun t12=>
 Z0 (Z7 t12 false (.tuple []) (some p0)) fun t14=>
 Z0 (Z7 t12 false (.tuple []) (Zw t14 (.int .i64 0))) fun t15=>
 Z0 (Z7 t12 false (.tuple []) (Z5 .geq t15 (.int .u8 48))) fun t16=>
 Z0 (Z7 t12 false (.tuple []) (some t16)) fun t17=>
 Z0 (Z7 t17 true (.tuple []) (some p0)) fun t18=>
 Z0 (Z7 t17 true (.tuple []) (Zw t18 (.int .i64 0))) fun t19=>
 Z0 (Z7 t17 true (.tuple []) (Z5 .leq t19 (.int .u8 57))) fun t20=>
 Z0 (Z7 t12 false (.tuple []) (Zj t17 t20 (.bool false))) fun t21=>
 Z0 (Zj t12 (.bool true) t21) fun t22=>
 Zm t22
 (some ((.bool false),H))
 (CT p0 H H)
theorem Zb2:CU H0 H =
 some ((.bool true),H):=Zb [3,5,6,9] (by kernel_rfl)
theorem Zb4:RY x0 x3 H0 H =
 Z0 (Z5 .add x3 (.int .i64 1)) fun t28=>
 B2 x0 t28 H0 H:=Zb [3,5,6,9] (by kernel_rfl)
theorem Zb3:RX x0 x3 H0 H =
 Z0 (Zw x0 x3) fun t31=>
 Z0 (Z5 .geq t31 (.int .u8 97)) fun t33=>
 Z0 (Z7 t33 true (.tuple []) (some t31)) fun t35=>
 Z0 (Z7 t33 true (.tuple []) (Z5 .leq t35 (.int .u8 122))) fun t36=>
 Z0 (Zj t33 t36 (.bool false)) fun t37=>
 Z0 (Z7 t37 false (.tuple []) (some t31)) fun t39=>
 Z0 (Z7 t37 false (.tuple []) (Z5 .geq t39 (.int .u8 65))) fun t40=>
 Z0 (Z7 t37 false (.tuple []) (some t40)) fun t41=>
 Z0 (Z7 t41 true (.tuple []) (some t31)) fun t42=>
 Z0 (Z7 t41 true (.tuple []) (Z5 .leq t42 (.int .u8 90))) fun t43=>
 Z0 (Z7 t37 false (.tuple []) (Zj t41 t43 (.bool false))) fun t44=>
 Z0 (Zj t37 (.bool true) t44) fun t45=>
 Z0 (Z7 t45 false (.tuple []) (some t31)) fun t47=>
 Z0 (Z7 t45 false (.tuple []) (Z5 .geq t47 (.int .u8 48))) fun t48=>
 Z0 (Z7 t45 false (.tuple []) (some t48)) fun t49=>
 Z0 (Z7 t49 true (.tuple []) (some t31)) fun t50=>
 Z0 (Z7 t49 true (.tuple []) (Z5 .leq t50 (.int .u8 57))) fun t51=>
 Z0 (Z7 t45 false (.tuple []) (Zj t49 t51 (.bool false))) fun t52=>
 Z0 (Zj t45 (.bool true) t52) fun t53=>
 Z0 (Z7 t53 false (.tuple []) (some t31)) fun t55=>
 Z0 (Z7 t53 false (.tuple []) (Z5 .eql t55 (.int .u8 95))) fun t56=>
 Z0 (Zj t53 (.bool true) t56) fun t57=>
 Z0 (XF .not t57) fun t58=>
 Zm t58
 (some ((.bool false),H))
 (RY x0 x3 H0 H):=Zb [3,5,6,9] (by kernel_rfl)
theorem PU:B2 x0 x3 H0 H =
 Z0 (Zk .string x0) fun t25=>
 Z0 (Z5 .lss x3 t25) fun t26=>
 Zm t26
 (RX x0 x3 H0 H)
 (CU H0 H):=(Zy (C:=cfg) [3,5,6,9] (Zn 0 (Ic H0)) _ _).trans (by kernel_rfl)
theorem Zb1:CT x0 H0 H =
 B2 x0 (.int .i64 0) H0 H:=Zb [3,5,6,9] (by kernel_rfl)
theorem ZbW:Jr [p0] H=AF p0 H:=(Zd (C:=cfg) (fn:=Tryz.f127) (c:=Z1 Tryz.f127) (n:=59) [3,5,6,9] Tryz.func127 (by kernel_rfl) (by kernel_rfl) [p0] (by kernel_rfl) H).trans (by kernel_rfl)
def MZ:Z3:=ZE 147 16 (sub (Z1 Tryz.f147) [1,1]) (Zh cfg 16 147 Tryz.f147 H0) [(1,x1),(2,x2)] H
def FA:Z3:=
 Z0 (Y4 p0 H) fun r1=>
 Z0 (some ((.ptr r1.2.length 0),r1.2++[.cells [(.str []),.nils,(.str []),(.str []),.nils,.nils]])) fun r2=>
 Z0 (Z4 true 6 r1.1 r2.2) fun t4=>
 Z0 (Ze JX [t4] r2.2) fun r5=>
 Z0 (Z5 .neq r5.1 (.int .i64 0)) fun t6=>
 Zm t6
 (Z0 (Ze Pu [] r5.2) fun r7=>
 Z0 (Zi 6 r2.1 r7.1 r7.2) fun r_16=>
 Z0 (Z4 true 6 r2.1 r_16.2) fun v2=>
 some (v2,r_16.2))
 (MZ r1.1 r2.1 H r5.2)
theorem O9:MZ x1 x2 H0 H =
 Z0 (K7 1 8 false (.int .i64 0) (.int .i64 256) (.int .i64 256) H) fun r8=>
 Z0 (Z8 1 x1) fun t10=>
 Z0 (Z4 false 1 t10 r8.2) fun t11=>
 Z0 (Mz 1 r8.1 t11 r8.2) fun r12=>
 Z0 (Z8 1 x1) fun t14=>
 Z0 (Zi 1 t14 r8.1 r12.2) fun r_8=>
 Z0 (Z4 true 6 x1 r_8.2) fun t15=>
 Z0 (Zi 6 x2 t15 r_8.2) fun r_10=>
 Z0 (Z4 true 6 x2 r_10.2) fun v2=>
 some (v2,r_10.2):=Zb [3] (by kernel_rfl)
theorem Th:Vg [p0] H=FA p0 H:=(Zd (C:=cfg) (fn:=Tryz.f147) (c:=Z1 Tryz.f147) (n:=16) [3] Tryz.func147 (by kernel_rfl) (by kernel_rfl) [p0] (by kernel_rfl) H).trans (by kernel_rfl)
def Ri:Z3:=
 Z0 (some ((.ptr H.length 0),H++[.cells [.nils]])) fun r4=>
 Z0 (Z4 true 6 p1 r4.2) fun t5=>
 Z0 (some (.fn (.func 150) [] [r4.1])) fun t7=>
 Z0 (RR [t5,p0,t7] r4.2) fun r8=>
 Z0 (Z4 false 1 r4.1 r8.2) fun t9=>
 some (t9,r8.2)
theorem Ea:U0 [p0,p1] H=Ri p0 p1 H:=(Zd (C:=cfg) (fn:=Tryz.f148) (c:=Z1 Tryz.f148) (n:=10) [] Tryz.func148 (by kernel_rfl) (by kernel_rfl) [p0,p1] (by kernel_rfl) H).trans (by kernel_rfl)
def Ey:Z3:=ZE 149 75 (sub (Z1 Tryz.f149) [1,1,1,1,0,0,1,0,1,1,1]) (Z6 3 (Zc (Ye 149 75 Tryz.f149 [1,1,1,1,0,0]) (Z6 2 (Zh cfg 75 149 Tryz.f149 H0)))) [(1,x1),(2,x2),(3,x3),(6,x6),(9,x9),(10,x10)] H
def UU:Z3:=ZE 149 75 (sub (Z1 Tryz.f149) [1,1,1,1,0,0,1,0,1,1]) (Z6 3 (Zc (Ye 149 75 Tryz.f149 [1,1,1,1,0,0]) (Z6 2 (Zh cfg 75 149 Tryz.f149 H0)))) [(1,x1),(2,x2),(3,x3),(6,x6),(9,x9),(10,x10),(11,x11)] H
def Ex:Z3:=ZE 149 75 (sub (Z1 Tryz.f149) [1,1,1,1,0,0,1]) (Zc (Ye 149 75 Tryz.f149 [1,1,1,1,0,0]) (Z6 2 (Zh cfg 75 149 Tryz.f149 H0))) [(1,x1),(2,x2),(3,x3),(6,x6),(9,x9)] H
def Kf:Z3:=VR 149 75 (sub (Z1 Tryz.f149) [1,1,1,1,0,0]) (Z6 2 (Zh cfg 75 149 Tryz.f149 H0)) [(1,x1),(2,x2),(3,x3),(6,x6),(9,x9)] H
def FP:Z3:=ZE 149 75 (sub (Z1 Tryz.f149) [1,1,1]) (Zh cfg 75 149 Tryz.f149 H0) [(1,x1),(2,x2),(3,x3),(6,x6)] H
def Kd:KL:=Zc (WV 149 75 Tryz.f149 [1,1,1]) (Zh cfg 75 149 Tryz.f149 H0)
theorem HM:ZR 75 (Kd H0):=Zu (C:=cfg) (kp:=cfg.keep 149) (sub (Z1 Tryz.f149) [1,1,1]) (Zx 149 Tryz.f149 H0)
def EA:Z3:=ZE 149 75 (sub (Z1 Tryz.f149) [1,1,0,1,0,0,1,1,1]) (Zc (Ye 149 75 Tryz.f149 [1,1,0,1,0,0]) (Z6 0 (Kd H0))) [(1,x1),(2,x2),(3,x3),(6,x6),(16,x16),(17,x17),(18,x18)] H
def Ez:Z3:=ZE 149 75 (sub (Z1 Tryz.f149) [1,1,0,1,0,0,1,1]) (Zc (Ye 149 75 Tryz.f149 [1,1,0,1,0,0]) (Z6 0 (Kd H0))) [(1,x1),(2,x2),(3,x3),(6,x6),(16,x16),(17,x17),(18,x18),(19,x19)] H
def Kg:Z3:=VR 149 75 (sub (Z1 Tryz.f149) [1,1,0,1,0,0]) (Z6 0 (Kd H0)) [(1,x1),(2,x2),(3,x3),(6,x6),(16,x16),(17,x17),(18,x18)] H
def CK:Z3:=
 Z0 (Y4 p0 H) fun r3=>
 Z0 (some ((.map r3.2.length),r3.2++[.map [] 0])) fun r14=>
 Z0 (Z8 5 r3.1) fun t15=>
 Z0 (Z4 false 1 t15 r14.2) fun t16=>
 Z0 (Zk (.slice 210) t16) fun t17=>
 Kg p1 p2 r3.1 r14.1 t16 t17 (.int .i64 0) H r14.2
theorem TG:Ey x1 x2 x3 x6 x9 x10 H0 H =
 Z0 (Zk .string x10) fun t73=>
 Z0 (Z5 .add x9 t73) fun t74=>
 Kf x1 x2 x3 x6 t74 H0 H:=Zb [4,6,7,9,14,15] (by kernel_rfl)
theorem TF:UU x1 x2 x3 x6 x9 x10 x11 H0 H =
 Z0 (Yf cfg (Za cfg) x2 [x10,x11] H) fun r69=>
 Z0 (XF .not r69.1) fun t70=>
 Zm t70
 (some ((.tuple []),r69.2))
 (Ey x1 x2 x3 x6 x9 x10 H0 r69.2):=Zb [4,6,7,9,14,15] (by kernel_rfl)
theorem Za8:Ex x1 x2 x3 x6 x9 H0 H =
 Z0 (Z5 .add x9 (.int .i64 1)) fun t35=>
 Z0 (Y9 x1 (some x9) (some t35) none) fun t36=>
 Z0 (Z8 1 x3) fun t37=>
 Z0 (Z4 false 1 t37 H) fun t38=>
 Z0 (Zw x1 x9) fun t41=>
 Z0 (Zl 1 t38 t41) fun t42=>
 Z0 (Z4 false 1 t42 H) fun t43=>
 Z0 (Z5 .add x9 (.int .i64 2)) fun t45=>
 Z0 (Zk .string x1) fun t47=>
 Z0 (Z5 .leq t45 t47) fun t48=>
 Zm t48
 (Z0 (Z5 .add x9 (.int .i64 2)) fun t54=>
 Z0 (Y9 x1 (some x9) (some t54) none) fun t55=>
 Z0 (Y8 .string (.int .i64 0) true x6 t55 H) fun t56=>
 Z0 (ZK t56 0) fun t57=>
 Z0 (ZK t56 1) fun t58=>
 Zm t58
 (Z0 (Z5 .add x9 (.int .i64 2)) fun t63=>
 Z0 (Y9 x1 (some x9) (some t63) none) fun t64=>
 UU x1 x2 x3 x6 x9 t64 t57 H0 H)
 (UU x1 x2 x3 x6 x9 t36 t43 H0 H))
 (UU x1 x2 x3 x6 x9 t36 t43 H0 H):=Zb [4,6,7,9,14,15] (by kernel_rfl)
theorem Gd:Kf x1 x2 x3 x6 x9 H0 H =
 Z0 (Zk .string x1) fun t30=>
 Z0 (Z5 .lss x9 t30) fun t31=>
 Zm t31
 (Ex x1 x2 x3 x6 x9 H0 H)
 (some ((.tuple []),H)):=(Zy (C:=cfg) [4,6,7,9,14,15] (Zn 2 (Zx 149 Tryz.f149 H0)) _ _).trans (by kernel_rfl)
theorem Za7:FP x1 x2 x3 x6 H0 H =
 Kf x1 x2 x3 x6 (.int .i64 0) H0 H:=Zb [4,6,7,9,14,15] (by kernel_rfl)
theorem Zaa:EA x1 x2 x3 x6 x16 x17 x18 H0 H =
 Z0 (Z5 .add x18 (.int .i64 1)) fun t27=>
 Kg x1 x2 x3 x6 x16 x17 t27 H0 H:=Zb [4,6,7,9,14,15] (by kernel_rfl)
theorem Za9:Ez x1 x2 x3 x6 x16 x17 x18 x19 H0 H =
 Z0 (Zl 2 x16 x18) fun t20=>
 Z0 (Z4 true 2 t20 H) fun t21=>
 Z0 (some ((.ptr H.length 0),H++[.cells [(.str []),(.int .i64 0)]])) fun r8=>
 Z0 (Zi 2 r8.1 t21 r8.2) fun r_34=>
 Z0 (Z8 0 r8.1) fun t23=>
 Z0 (Z4 false 1 t23 r_34.2) fun t24=>
 Z0 (Z8 1 r8.1) fun t25=>
 Z0 (Z4 false 1 t25 r_34.2) fun t26=>
 Z0 (Xh .string x6 t24 t26 r_34.2) fun r_39=>
 EA x1 x2 x3 x6 x16 x17 x18 H0 r_39.2:=Zb [4,6,7,9,14,15] (by kernel_rfl)
theorem TH:Kg x1 x2 x3 x6 x16 x17 x18 H0 H =
 Z0 (Z5 .lss x18 x17) fun t19=>
 Zm t19
 (Ez x1 x2 x3 x6 x16 x17 x18 t19 H0 H)
 (FP x1 x2 x3 x6 H0 H):=(Zy (C:=cfg) [4,6,7,9,14,15] (Zn 0 (HM H0)) _ _).trans (by kernel_rfl)
theorem ZaU:RR [p0,p1,p2] H=CK p0 p1 p2 H:=(Zd (C:=cfg) (fn:=Tryz.f149) (c:=Z1 Tryz.f149) (n:=75) [4,6,7,9,14,15] Tryz.func149 (by kernel_rfl) (by kernel_rfl) [p0,p1,p2] (by kernel_rfl) H).trans (by kernel_rfl)
def BZ (p0 p1 p2:AV)(H:Hp):Z3:=
 Z0 (Z4 false 1 p2 H) fun t6=>
 Z0 ((ZA 1 [(0,p1)] [(.int .i64 0)]).map (.vs 1 .clip)) fun t8=>
 Z0 (Y7 1 8 t6 t8 H) fun r9=>
 Z0 (Zi 1 p2 r9.1 r9.2) fun r_4=>
 some ((.bool true),r_4.2)
theorem M2:Q6 [p0,p1,p2] H=BZ p0 p1 p2 H:=(Zd (C:=cfg) (fn:=Tryz.f150) (c:=Z1 Tryz.f150) (n:=10) [] Tryz.func150 (by kernel_rfl) (by kernel_rfl) [p0,p1,p2] (by kernel_rfl) H).trans (by kernel_rfl)
def Tp:Z3:=
 Z0 (Ze Xz [p0,p1] H) fun r7=>
 some (r7.1,r7.2)
theorem Sg:G1 [p0,p1] H=Tp p0 p1 H:=(Zd (C:=cfg) (fn:=Tryz.f151) (c:=Z1 Tryz.f151) (n:=8) [] Tryz.func151 (by kernel_rfl) (by kernel_rfl) [p0,p1] (by kernel_rfl) H).trans (by kernel_rfl)
def Ga:Z3:=ZE 152 116 (sub (Z1 Tryz.f152) [1,1,1,1,1,1,1,1,1,1,1]) (Zh cfg 116 152 Tryz.f152 H0) [(9,x9),(11,x11)] H
def G9:Z3:=ZE 152 116 (sub (Z1 Tryz.f152) [1,1,1,1,1,1,1,1,1]) (Zh cfg 116 152 Tryz.f152 H0) [(5,x5),(7,x7),(8,x8),(9,x9)] H
def Wa:Z3:=ZE 152 116 (sub (Z1 Tryz.f152) [1,1,1,1,1,1,1,1]) (Zh cfg 116 152 Tryz.f152 H0) [(5,x5),(6,x6),(7,x7),(8,x8),(9,x9)] H
def UB:Z3:=ZE 152 116 (sub (Z1 Tryz.f152) [1,1,1,1,1]) (Zh cfg 116 152 Tryz.f152 H0) [(0,x0),(4,x4),(5,x5)] H
def G8:Z3:=ZE 152 116 (sub (Z1 Tryz.f152) [1,1,1]) (Zh cfg 116 152 Tryz.f152 H0) [(0,x0),(4,x4)] H
def Gb:KL:=Zc (WV 152 116 Tryz.f152 [1,1,1]) (Zh cfg 116 152 Tryz.f152 H0)
theorem LG:ZR 116 (Gb H0):=Zu (C:=cfg) (kp:=cfg.keep 152) (sub (Z1 Tryz.f152) [1,1,1]) (Zx 152 Tryz.f152 H0)
def Tw:Z3:=ZE 152 116 (sub (Z1 Tryz.f152) [1,1,0,0,0,1]) (Zc (Ye 152 116 Tryz.f152 [1,1,0,0,0]) (Z6 0 (Gb H0))) [(0,x0),(4,x4)] H
def UC:Z3:=VR 152 116 (sub (Z1 Tryz.f152) [1,1,0,0,0]) (Z6 0 (Gb H0)) [(0,x0),(4,x4)] H
def ZaS:Z3:=
 UC p0 (.int .i64 0) H H
theorem Dp:Ga x9 x11 H0 H =
 some ((.tuple [x11,x9]),H):=Zb [3,4,7,14,16,19] (by kernel_rfl)
theorem SL:G9 x5 x7 x8 x9 H0 H =
 Z0 (Ze BW [x7,x8] H) fun r109=>
 Z0 (U3 (.int .i64 10000000000000) r109.1) fun t110=>
 Zm x5
 (Z0 (XF .neg t110) fun t113=>
 Ga x9 t113 H0 r109.2)
 (Ga x9 t110 H0 r109.2):=Zb [3,4,7,14,16,19] (by kernel_rfl)
theorem SK:Wa x5 x6 x7 x8 x9 H0 H =
 Z0 (Z5 .eql x6 (.int .i64 0)) fun t102=>
 Z0 (Z7 t102 true (.tuple []) (some x8)) fun t104=>
 Z0 (Z7 t102 true (.tuple []) (Yx .eql t104 (.str []))) fun t105=>
 Z0 (Zj t102 t105 (.bool false)) fun t106=>
 Zm t106
 (some ((.tuple [(.int .i64 0),(.int .i64 0)]),H))
 (G9 x5 x7 x8 x9 H0 H):=Zb [3,4,7,14,16,19] (by kernel_rfl)
theorem SJ:UB x0 x4 x5 H0 H =
 Z0 (Y9 x0 (some x4) none none) fun t57=>
 Z0 (Ze Q5 [t57] H) fun r58=>
 Z0 (Z5 .add x4 r58.1) fun t63=>
 Z0 (Y9 x0 (some x4) (some t63) none) fun t64=>
 Z0 (Z5 .add x4 r58.1) fun t67=>
 Z0 (Zk .string x0) fun t70=>
 Z0 (Z5 .lss t67 t70) fun t71=>
 Z0 (Z7 t71 true (.tuple []) (some x0)) fun t73=>
 Z0 (Z7 t71 true (.tuple []) (some t67)) fun t74=>
 Z0 (Z7 t71 true (.tuple []) (Zw t73 t74)) fun t75=>
 Z0 (Z7 t71 true (.tuple []) (Z5 .eql t75 (.int .u8 46))) fun t76=>
 Z0 (Zj t71 t76 (.bool false)) fun t77=>
 Zm t77
 (Z0 (Z5 .add t67 (.int .i64 1)) fun t80=>
 Z0 (Y9 x0 (some t80) none none) fun t81=>
 Z0 (Ze Q5 [t81] r58.2) fun r82=>
 Z0 (Z5 .gtr r58.1 (.int .i64 0)) fun t84=>
 Z0 (Z7 t84 false (.tuple []) (some r82.1)) fun t86=>
 Z0 (Z7 t84 false (.tuple []) (Z5 .gtr t86 (.int .i64 0))) fun t87=>
 Z0 (Zj t84 (.bool true) t87) fun t88=>
 Zm t88
 (Z0 (Z5 .add t67 (.int .i64 1)) fun t91=>
 Z0 (Z5 .add t67 (.int .i64 1)) fun t93=>
 Z0 (Z5 .add t93 r82.1) fun t95=>
 Z0 (Y9 x0 (some t91) (some t95) none) fun t96=>
 Z0 (Z5 .add (.int .i64 1) r82.1) fun t99=>
 Z0 (Z5 .add t67 t99) fun t100=>
 Wa x5 r58.1 t64 t96 t100 H0 r82.2)
 (Wa x5 r58.1 t64 (.str []) t67 H0 r82.2))
 (Wa x5 r58.1 t64 (.str []) t67 H0 r58.2):=Zb [3,4,7,14,16,19] (by kernel_rfl)
theorem SI:G8 x0 x4 H0 H =
 Z0 (Zk .string x0) fun t32=>
 Z0 (Z5 .lss x4 t32) fun t33=>
 Z0 (Z7 t33 true (.tuple []) (some x0)) fun t35=>
 Z0 (Z7 t33 true (.tuple []) (some x4)) fun t36=>
 Z0 (Z7 t33 true (.tuple []) (Zw t35 t36)) fun t37=>
 Z0 (Z7 t33 true (.tuple []) (Z5 .eql t37 (.int .u8 45))) fun t38=>
 Z0 (Zj t33 t38 (.bool false)) fun t39=>
 Z0 (Z7 t39 false (.tuple []) (some x4)) fun t42=>
 Z0 (Z7 t39 false (.tuple []) (some x0)) fun t43=>
 Z0 (Z7 t39 false (.tuple []) (Zk .string t43)) fun t44=>
 Z0 (Z7 t39 false (.tuple []) (Z5 .lss t42 t44)) fun t45=>
 Z0 (Z7 t39 false (.tuple []) (some t45)) fun t46=>
 Z0 (Z7 t46 true (.tuple []) (some x0)) fun t47=>
 Z0 (Z7 t46 true (.tuple []) (some x4)) fun t48=>
 Z0 (Z7 t46 true (.tuple []) (Zw t47 t48)) fun t49=>
 Z0 (Z7 t46 true (.tuple []) (Z5 .eql t49 (.int .u8 43))) fun t50=>
 Z0 (Z7 t39 false (.tuple []) (Zj t46 t50 (.bool false))) fun t51=>
 Z0 (Zj t39 (.bool true) t51) fun t52=>
 Zm t52
 (Z0 (Z5 .add x4 (.int .i64 1)) fun t54=>
 UB x0 t54 t39 H0 H)
 (UB x0 x4 t39 H0 H):=Zb [3,4,7,14,16,19] (by kernel_rfl)
theorem Dq:Tw x0 x4 H0 H =
 Z0 (Z5 .add x4 (.int .i64 1)) fun t29=>
 UC x0 t29 H0 H:=Zb [3,4,7,14,16,19] (by kernel_rfl)
theorem Dr:UC x0 x4 H0 H =
 Z0 (Zk .string x0) fun t14=>
 Z0 (Z5 .lss x4 t14) fun t15=>
 Z0 (Z7 t15 true (.tuple []) (some x0)) fun t17=>
 Z0 (Z7 t15 true (.tuple []) (some x4)) fun t18=>
 Z0 (Z7 t15 true (.tuple []) (Zw t17 t18)) fun t19=>
 Z0 (Z7 t15 true (.tuple []) (Z5 .eql t19 (.int .u8 32))) fun t20=>
 Z0 (Z7 t15 true (.tuple []) (some t20)) fun t21=>
 Z0 (Z7 t21 false (.tuple []) (some x0)) fun t22=>
 Z0 (Z7 t21 false (.tuple []) (some x4)) fun t23=>
 Z0 (Z7 t21 false (.tuple []) (Zw t22 t23)) fun t24=>
 Z0 (Z7 t21 false (.tuple []) (Z5 .eql t24 (.int .u8 9))) fun t25=>
 Z0 (Z7 t15 true (.tuple []) (Zj t21 (.bool true) t25)) fun t26=>
 Z0 (Zj t15 t26 (.bool false)) fun t27=>
 Zm t27
 (Tw x0 x4 H0 H)
 (G8 x0 x4 H0 H):=(Zy (C:=cfg) [3,4,7,14,16,19] (Zn 0 (LG H0)) _ _).trans (by kernel_rfl)
theorem Hw:Q4 [p0] H=ZaS p0 H:=(Zd (C:=cfg) (fn:=Tryz.f152) (c:=Z1 Tryz.f152) (n:=116) [3,4,7,14,16,19] Tryz.func152 (by kernel_rfl) (by kernel_rfl) [p0] (by kernel_rfl) H).trans (by kernel_rfl)
def Lc:Z3:=ZE 153 13 (sub (Z1 Tryz.f153) [1,1]) (Zh cfg 13 153 Tryz.f153 H0) [] H
def Eg:Z3:=
 Z0 (Z5 .lss p0 p1) fun t8=>
 Zm t8
 (some ((.int .i64 (-1)),H))
 (Z0 (Z5 .gtr p0 p1) fun t12=>
 Zm t12
 (some ((.int .i64 1),H))
 (Lc H H))
theorem On:Lc H0 H =
 some ((.int .i64 0),H):=Zb [5] (by kernel_rfl)
theorem OU:Fz [p0,p1] H=Eg p0 p1 H:=(Zd (C:=cfg) (fn:=Tryz.f153) (c:=Z1 Tryz.f153) (n:=13) [5] Tryz.func153 (by kernel_rfl) (by kernel_rfl) [p0,p1] (by kernel_rfl) H).trans (by kernel_rfl)
def Tm:Z3:=
 Z0 (Z4 false 1 p2 H) fun t7=>
 Z0 (Z5 .and t7 p0) fun t9=>
 Z0 (Z5 .neq t9 (.int .i64 0)) fun t10=>
 Zm t10
 (Z0 (Z4 false 1 p3 H) fun t12=>
 Z0 (Xl cfg (Za cfg) p1 [t12] H) fun r13=>
 Z0 (Z4 false 1 p4 r13.2) fun t15=>
 Z0 (Xl cfg (Za cfg) p1 [t15] r13.2) fun r16=>
 Z0 (Zi 1 p3 r13.1 r16.2) fun r_8=>
 Z0 (Zi 1 p4 r16.1 r_8.2) fun r_9=>
 some ((.tuple []),r_9.2))
 (some ((.tuple []),H))
theorem Sd:KY [p0,p1,p2,p3,p4] H=Tm p0 p1 p2 p3 p4 H:=(Zd (C:=cfg) (fn:=Tryz.f154) (c:=Z1 Tryz.f154) (n:=17) [] Tryz.func154 (by kernel_rfl) (by kernel_rfl) [p0,p1,p2,p3,p4] (by kernel_rfl) H).trans (by kernel_rfl)
def Tn:Z3:=
 Z0 (Cy OL [p0,(.str [32,9])] H) fun r4=>
 some (r4.1,r4.2)
theorem Se:KZ [p0] H=Tn p0 H:=(Zd (C:=cfg) (fn:=Tryz.f155) (c:=Z1 Tryz.f155) (n:=5) [] Tryz.func155 (by kernel_rfl) (by kernel_rfl) [p0] (by kernel_rfl) H).trans (by kernel_rfl)
def Lb:Z3:=ZE 157 44 (sub (Z1 Tryz.f157) [1,1,1]) (Zh cfg 44 157 Tryz.f157 H0) [(3,x3)] H
def Jk:KL:=Zc (WV 157 44 Tryz.f157 [1,1,1]) (Zh cfg 44 157 Tryz.f157 H0)
theorem Cr:ZR 44 (Jk H0):=Zu (C:=cfg) (kp:=cfg.keep 157) (sub (Z1 Tryz.f157) [1,1,1]) (Zx 157 Tryz.f157 H0)
def Um:Z3:=ZE 157 44 (sub (Z1 Tryz.f157) [1,1,0,1,0,0,1,1,1]) (Zc (Ye 157 44 Tryz.f157 [1,1,0,1,0,0]) (Z6 0 (Jk H0))) [(0,x0),(3,x3),(7,x7),(8,x8)] H
def DO:Z3:=ZE 157 44 (sub (Z1 Tryz.f157) [1,1,0,1,0,0,1,1]) (Zc (Ye 157 44 Tryz.f157 [1,1,0,1,0,0]) (Z6 0 (Jk H0))) [(0,x0),(3,x3),(7,x7),(8,x8),(9,x9)] H
def Jl:Z3:=VR 157 44 (sub (Z1 Tryz.f157) [1,1,0,1,0,0]) (Z6 0 (Jk H0)) [(0,x0),(3,x3),(7,x7),(8,x8)] H
def Ef:Z3:=
 Z0 (some ((.ptr H.length 0),H++[.bld 192 5 []])) fun r3=>
 Z0 (Zk .string p0) fun t7=>
 Jl p0 r3.1 t7 (.int .i64 0) H r3.2
theorem Ol:Lb x3 H0 H =
 Z0 (stringE.run [x3] H) fun r43=>
 some (r43.1,r43.2):=Zb [4,8,9] (by kernel_rfl)
theorem RO:Um x0 x3 x7 x8 H0 H =
 Z0 (Z5 .add x8 (.int .i64 1)) fun t42=>
 Jl x0 x3 x7 t42 H0 H:=Zb [4,8,9] (by kernel_rfl)
theorem Om:DO x0 x3 x7 x8 x9 H0 H =
 Z0 (Zw x0 x8) fun t13=>
 Z0 (WG [t13] H) fun r15=>
 Z0 (Z7 r15.1 false (.tuple []) (some t13)) fun t17=>
 Z0 (Z7 r15.1 false (.tuple []) (Z5 .geq t17 (.int .u8 97))) fun t18=>
 Z0 (Z7 r15.1 false (.tuple []) (some t18)) fun t19=>
 Z0 (Z7 t19 true (.tuple []) (some t13)) fun t20=>
 Z0 (Z7 t19 true (.tuple []) (Z5 .leq t20 (.int .u8 122))) fun t21=>
 Z0 (Z7 r15.1 false (.tuple []) (Zj t19 t21 (.bool false))) fun t22=>
 Z0 (Zj r15.1 (.bool true) t22) fun t23=>
 Z0 (Z7 t23 false (.tuple []) (some t13)) fun t25=>
 Z0 (Z7 t23 false (.tuple []) (Z5 .geq t25 (.int .u8 65))) fun t26=>
 Z0 (Z7 t23 false (.tuple []) (some t26)) fun t27=>
 Z0 (Z7 t27 true (.tuple []) (some t13)) fun t28=>
 Z0 (Z7 t27 true (.tuple []) (Z5 .leq t28 (.int .u8 90))) fun t29=>
 Z0 (Z7 t23 false (.tuple []) (Zj t27 t29 (.bool false))) fun t30=>
 Z0 (Zj t23 (.bool true) t30) fun t31=>
 Z0 (Z7 t31 false (.tuple []) (some t13)) fun t33=>
 Z0 (Z7 t31 false (.tuple []) (Z5 .geq t33 (.int .u8 48))) fun t34=>
 Z0 (Z7 t31 false (.tuple []) (some t34)) fun t35=>
 Z0 (Z7 t35 true (.tuple []) (some t13)) fun t36=>
 Z0 (Z7 t35 true (.tuple []) (Z5 .leq t36 (.int .u8 57))) fun t37=>
 Z0 (Z7 t31 false (.tuple []) (Zj t35 t37 (.bool false))) fun t38=>
 Z0 (Zj t31 (.bool true) t38) fun t39=>
 Zm t39
 (Z0 (byteE.run [x3,t13] r15.2) fun r41=>
 Um x0 x3 x7 x8 H0 r41.2)
 (Um x0 x3 x7 x8 H0 r15.2):=Zb [4,8,9] (by kernel_rfl)
theorem RP:Jl x0 x3 x7 x8 H0 H =
 Z0 (Z5 .lss x8 x7) fun t9=>
 Zm t9
 (DO x0 x3 x7 x8 t9 H0 H)
 (Lb x3 H0 H):=(Zy (C:=cfg) [4,8,9] (Zn 0 (Cr H0)) _ _).trans (by kernel_rfl)
theorem OT:Fy [p0] H=Ef p0 H:=(Zd (C:=cfg) (fn:=Tryz.f157) (c:=Z1 Tryz.f157) (n:=44) [4,8,9] Tryz.func157 (by kernel_rfl) (by kernel_rfl) [p0] (by kernel_rfl) H).trans (by kernel_rfl)
def To:Z3:=
 Z0 (Z4 true 6 p1 H) fun t4=>
 Z0 (Ze Fx [t4,p0] H) fun r6=>
 some (r6.1,r6.2)
theorem Sf:G0 [p0,p1] H=To p0 p1 H:=(Zd (C:=cfg) (fn:=Tryz.f158) (c:=Z1 Tryz.f158) (n:=7) [] Tryz.func158 (by kernel_rfl) (by kernel_rfl) [p0,p1] (by kernel_rfl) H).trans (by kernel_rfl)
def Eb:Z3:=
 Z0 (Y4 p0 H) fun r2=>
 Z0 (Z4 true 6 r2.1 r2.2) fun t5=>
 Z0 (Ze Vg [t5] r2.2) fun r6=>
 Z0 (Po false 1 3 r6.1) fun t7=>
 Z0 (Ze BX [t7,p1] r6.2) fun r9=>
 some (r9.1,r9.2)
theorem OQ:Fx [p0,p1] H=Eb p0 p1 H:=(Zd (C:=cfg) (fn:=Tryz.f159) (c:=Z1 Tryz.f159) (n:=10) [] Tryz.func159 (by kernel_rfl) (by kernel_rfl) [p0,p1] (by kernel_rfl) H).trans (by kernel_rfl)
def If:Z3:=ZE 163 8 (sub (Z1 Tryz.f163) [1,1]) (Zh cfg 8 163 Tryz.f163 H0) [(1,x1),(2,x2)] H
def Lm:Z3:=
 Z0 (Y4 p0 H) fun r1=>
 Z0 (some ((.ptr r1.2.length 0),r1.2++[.cells [(.str []),.nils,(.str []),(.str []),.nils,.nils]])) fun r2=>
 Z0 (Z4 true 6 r1.1 r2.2) fun t3=>
 Z0 (Ze R2 [t3] r2.2) fun r4=>
 Z0 (Z5 .neq r4.1 (.int .i64 0)) fun t5=>
 Zm t5
 (Z0 (Ze RQ [] r4.2) fun r6=>
 Z0 (Zi 6 r2.1 r6.1 r6.2) fun r_10=>
 Z0 (Z4 true 6 r2.1 r_10.2) fun v2=>
 some (v2,r_10.2))
 (If r1.1 r2.1 H r4.2)
theorem Zcr:If x1 x2 H0 H =
 Z0 (Z4 true 6 x1 H) fun t7=>
 Z0 (Zi 6 x2 t7 H) fun r_4=>
 Z0 (Z4 true 6 x2 r_4.2) fun v2=>
 some (v2,r_4.2):=Zb [3] (by kernel_rfl)
theorem E5:Gp [p0] H=Lm p0 H:=(Zd (C:=cfg) (fn:=Tryz.f163) (c:=Z1 Tryz.f163) (n:=8) [3] Tryz.func163 (by kernel_rfl) (by kernel_rfl) [p0] (by kernel_rfl) H).trans (by kernel_rfl)
def MW:Z3:=ZE 186 49 (sub (Z1 Tryz.f186) [1,1,1,1,1]) (Zh cfg 49 186 Tryz.f186 H0) [(1,x1)] H
def MV:Z3:=ZE 186 49 (sub (Z1 Tryz.f186) [1,1,1,1]) (Zh cfg 49 186 Tryz.f186 H0) [(1,x1)] H
def Je:KL:=Zc (WV 186 49 Tryz.f186 [1,1,1,1]) (Zh cfg 49 186 Tryz.f186 H0)
theorem C5:ZR 49 (Je H0):=Zu (C:=cfg) (kp:=cfg.keep 186) (sub (Z1 Tryz.f186) [1,1,1,1]) (Zx 186 Tryz.f186 H0)
def MY:Z3:=ZE 186 49 (sub (Z1 Tryz.f186) [1,1,1,0,1,0,0,1,1,1]) (Zc (Ye 186 49 Tryz.f186 [1,1,1,0,1,0,0]) (Z6 0 (Je H0))) [(1,x1),(27,x27),(28,x28),(29,x29)] H
def MX:Z3:=ZE 186 49 (sub (Z1 Tryz.f186) [1,1,1,0,1,0,0,1,1]) (Zc (Ye 186 49 Tryz.f186 [1,1,1,0,1,0,0]) (Z6 0 (Je H0))) [(1,x1),(27,x27),(28,x28),(29,x29),(30,x30)] H
def Jf:Z3:=VR 186 49 (sub (Z1 Tryz.f186) [1,1,1,0,1,0,0]) (Z6 0 (Je H0)) [(1,x1),(27,x27),(28,x28),(29,x29)] H
def MU:Z3:=ZE 186 49 (sub (Z1 Tryz.f186) [1,1,1]) (Zh cfg 49 186 Tryz.f186 H0) [(1,x1)] H
def MT:Z3:=ZE 186 49 (sub (Z1 Tryz.f186) [1,1]) (Zh cfg 49 186 Tryz.f186 H0) [(1,x1)] H
def E9:Z3:=
 Z0 (Y4 p0 H) fun r1=>
 Z0 (Z8 0 r1.1) fun t6=>
 Z0 (Z4 false 1 t6 r1.2) fun t7=>
 Z0 (Ze QK [t7] r1.2) fun r8=>
 Z0 (XF .not r8.1) fun t9=>
 Zm t9
 (some ((.int .i64 4),r8.2))
 (MT r1.1 H r8.2)
theorem O6:MW x1 H0 H =
 Z0 (Z8 5 x1) fun t46=>
 Z0 (Z4 false 1 t46 H) fun t47=>
 Z0 (Ze Wr [t47] H) fun r48=>
 some (r48.1,r48.2):=Zb [3,5,7,10,11,14] (by kernel_rfl)
theorem O5:MV x1 H0 H =
 Z0 (Z8 4 x1) fun t40=>
 Z0 (Z4 false 1 t40 H) fun t41=>
 Z0 (Ze WE [t41] H) fun r42=>
 Z0 (Z5 .neq r42.1 (.int .i64 0)) fun t44=>
 Zm t44
 (some (r42.1,r42.2))
 (MW x1 H0 r42.2):=Zb [3,5,7,10,11,14] (by kernel_rfl)
theorem O8:MY x1 x27 x28 x29 H0 H =
 Z0 (Z5 .add x29 (.int .i64 1)) fun t39=>
 Jf x1 x27 x28 t39 H0 H:=Zb [3,5,7,10,11,14] (by kernel_rfl)
theorem O7:MX x1 x27 x28 x29 x30 H0 H =
 Z0 (Zl 1 x27 x29) fun t31=>
 Z0 (Z4 false 1 t31 H) fun t32=>
 Z0 (Z5 .lss t32 (.int .i64 0)) fun t34=>
 Z0 (Z7 t34 false (.tuple []) (some t32)) fun t36=>
 Z0 (Z7 t34 false (.tuple []) (Z5 .gtr t36 (.int .i64 65535))) fun t37=>
 Z0 (Zj t34 (.bool true) t37) fun t38=>
 Zm t38
 (some ((.int .i64 2),H))
 (MY x1 x27 x28 x29 H0 H):=Zb [3,5,7,10,11,14] (by kernel_rfl)
theorem RD:Jf x1 x27 x28 x29 H0 H =
 Z0 (Z5 .lss x29 x28) fun t30=>
 Zm t30
 (MX x1 x27 x28 x29 t30 H0 H)
 (MV x1 H0 H):=(Zy (C:=cfg) [3,5,7,10,11,14] (Zn 0 (C5 H0)) _ _).trans (by kernel_rfl)
theorem O4:MU x1 H0 H =
 Z0 (Z8 1 x1) fun t26=>
 Z0 (Z4 false 1 t26 H) fun t27=>
 Z0 (Zk (.slice 3) t27) fun t28=>
 Jf x1 t27 t28 (.int .i64 0) H0 H:=Zb [3,5,7,10,11,14] (by kernel_rfl)
theorem O3:MT x1 H0 H =
 Z0 (Z8 1 x1) fun t10=>
 Z0 (Z4 false 1 t10 H) fun t11=>
 Z0 (Zk (.slice 3) t11) fun t12=>
 Z0 (Z5 .neq t12 (.int .i64 256)) fun t13=>
 Z0 (Z7 t13 false (.tuple []) (Z8 2 x1)) fun t15=>
 Z0 (Z7 t13 false (.tuple []) (Z4 false 1 t15 H)) fun t16=>
 Z0 (Z7 t13 false (.tuple []) (Zk .string t16)) fun t17=>
 Z0 (Z7 t13 false (.tuple []) (Z5 .neq t17 (.int .i64 256))) fun t18=>
 Z0 (Zj t13 (.bool true) t18) fun t19=>
 Z0 (Z7 t19 false (.tuple []) (Z8 3 x1)) fun t21=>
 Z0 (Z7 t19 false (.tuple []) (Z4 false 1 t21 H)) fun t22=>
 Z0 (Z7 t19 false (.tuple []) (Zk .string t22)) fun t23=>
 Z0 (Z7 t19 false (.tuple []) (Z5 .neq t23 (.int .i64 256))) fun t24=>
 Z0 (Zj t19 (.bool true) t24) fun t25=>
 Zm t25
 (some ((.int .i64 2),H))
 (MU x1 H0 H):=Zb [3,5,7,10,11,14] (by kernel_rfl)
theorem OP:JX [p0] H=E9 p0 H:=(Zd (C:=cfg) (fn:=Tryz.f186) (c:=Z1 Tryz.f186) (n:=49) [3,5,7,10,11,14] Tryz.func186 (by kernel_rfl) (by kernel_rfl) [p0] (by kernel_rfl) H).trans (by kernel_rfl)
def Ba:Z3:=
 Z0 (IG .cmp [p0,p1] H) fun r7=>
 some (r7.1,r7.2)
theorem K0:Xz [p0,p1] H=Ba p0 p1 H:=(Zd (C:=cfg) (fn:=Tryz.f188) (c:=Z1 Tryz.f188) (n:=8) [] Tryz.func188 (by kernel_rfl) (by kernel_rfl) [p0,p1] (by kernel_rfl) H).trans (by kernel_rfl)
def Tx:Z3:=ZE 189 23 (sub (Z1 Tryz.f189) [1,1,1]) (Zh cfg 23 189 Tryz.f189 H0) [(3,x3)] H
def Gc:KL:=Zc (WV 189 23 Tryz.f189 [1,1,1]) (Zh cfg 23 189 Tryz.f189 H0)
theorem LH:ZR 23 (Gc H0):=Zu (C:=cfg) (kp:=cfg.keep 189) (sub (Z1 Tryz.f189) [1,1,1]) (Zx 189 Tryz.f189 H0)
def Ty:Z3:=ZE 189 23 (sub (Z1 Tryz.f189) [1,1,0,0,0,1]) (Zc (Ye 189 23 Tryz.f189 [1,1,0,0,0]) (Z6 0 (Gc H0))) [(0,x0),(3,x3)] H
def UD:Z3:=VR 189 23 (sub (Z1 Tryz.f189) [1,1,0,0,0]) (Z6 0 (Gc H0)) [(0,x0),(3,x3)] H
def ZaT:Z3:=
 UD p0 (.int .i64 0) H H
theorem Qf:Tx x3 H0 H =
 some (x3,H):=Zb [3,4] (by kernel_rfl)
theorem SM:Ty x0 x3 H0 H =
 Z0 (Z5 .add x3 (.int .i64 1)) fun t21=>
 UD x0 t21 H0 H:=Zb [3,4] (by kernel_rfl)
theorem Ds:UD x0 x3 H0 H =
 Z0 (Zk .string x0) fun t6=>
 Z0 (Z5 .lss x3 t6) fun t7=>
 Z0 (Z7 t7 true (.tuple []) (some x0)) fun t9=>
 Z0 (Z7 t7 true (.tuple []) (some x3)) fun t10=>
 Z0 (Z7 t7 true (.tuple []) (Zw t9 t10)) fun t11=>
 Z0 (Z7 t7 true (.tuple []) (Z5 .geq t11 (.int .u8 48))) fun t12=>
 Z0 (Zj t7 t12 (.bool false)) fun t13=>
 Z0 (Z7 t13 true (.tuple []) (some x0)) fun t15=>
 Z0 (Z7 t13 true (.tuple []) (some x3)) fun t16=>
 Z0 (Z7 t13 true (.tuple []) (Zw t15 t16)) fun t17=>
 Z0 (Z7 t13 true (.tuple []) (Z5 .leq t17 (.int .u8 57))) fun t18=>
 Z0 (Zj t13 t18 (.bool false)) fun t19=>
 Zm t19
 (Ty x0 x3 H0 H)
 (Tx x3 H0 H):=(Zy (C:=cfg) [3,4] (Zn 0 (LH H0)) _ _).trans (by kernel_rfl)
theorem Hx:Q5 [p0] H=ZaT p0 H:=(Zd (C:=cfg) (fn:=Tryz.f189) (c:=Z1 Tryz.f189) (n:=23) [3,4] Tryz.func189 (by kernel_rfl) (by kernel_rfl) [p0] (by kernel_rfl) H).trans (by kernel_rfl)
def N6:Z3:=ZE 190 29 (sub (Z1 Tryz.f190) [1,1,1]) (Zh cfg 29 190 Tryz.f190 H0) [(1,x1),(5,x5)] H
def Qg:KL:=Zc (WV 190 29 Tryz.f190 [1,1,1]) (Zh cfg 29 190 Tryz.f190 H0)
theorem Eu:ZR 29 (Qg H0):=Zu (C:=cfg) (kp:=cfg.keep 190) (sub (Z1 Tryz.f190) [1,1,1]) (Zx 190 Tryz.f190 H0)
def N8:Z3:=ZE 190 29 (sub (Z1 Tryz.f190) [1,1,0,1,0,0,1,1,1]) (Zc (Ye 190 29 Tryz.f190 [1,1,0,1,0,0]) (Z6 0 (Qg H0))) [(0,x0),(1,x1),(5,x5),(8,x8),(9,x9)] H
def N7:Z3:=ZE 190 29 (sub (Z1 Tryz.f190) [1,1,0,1,0,0,1,1]) (Zc (Ye 190 29 Tryz.f190 [1,1,0,1,0,0]) (Z6 0 (Qg H0))) [(0,x0),(1,x1),(5,x5),(8,x8),(9,x9),(10,x10)] H
def Qh:Z3:=VR 190 29 (sub (Z1 Tryz.f190) [1,1,0,1,0,0]) (Z6 0 (Qg H0)) [(0,x0),(1,x1),(5,x5),(8,x8),(9,x9)] H
def Mk:Z3:=
 Z0 (Zk .string p0) fun t8=>
 Qh p0 p1 (.int .i64 0) t8 (.int .i64 0) H H
theorem HJ:N6 x1 x5 H0 H =
 Z0 (Z5 .mul x5 (.int .i64 10000)) fun t24=>
 Z0 (Ze Js [x1] H) fun r26=>
 Z0 (Z5 .add t24 r26.1) fun t27=>
 Z0 (U3 (.int .i64 10000000000001) t27) fun t28=>
 some (t28,r26.2):=Zb [4,8,9] (by kernel_rfl)
theorem HL:N8 x0 x1 x5 x8 x9 H0 H =
 Z0 (Z5 .add x9 (.int .i64 1)) fun t22=>
 Qh x0 x1 x5 x8 t22 H0 H:=Zb [4,8,9] (by kernel_rfl)
theorem HK:N7 x0 x1 x5 x8 x9 x10 H0 H =
 Z0 (Z5 .mul (.int .i64 10) x5) fun t13=>
 Z0 (Zw x0 x9) fun t16=>
 Z0 (Z5 .sub t16 (.int .u8 48)) fun t17=>
 Z0 (YR .i64 t17) fun t18=>
 Z0 (Z5 .add t13 t18) fun t19=>
 Z0 (Z5 .gtr t19 (.int .i64 1000000000)) fun t21=>
 Zm t21
 (some ((.int .i64 10000000000001),H))
 (N8 x0 x1 t19 x8 x9 H0 H):=Zb [4,8,9] (by kernel_rfl)
theorem F8:Qh x0 x1 x5 x8 x9 H0 H =
 Z0 (Z5 .lss x9 x8) fun t10=>
 Zm t10
 (N7 x0 x1 x5 x8 x9 t10 H0 H)
 (N6 x1 x5 H0 H):=(Zy (C:=cfg) [4,8,9] (Zn 0 (Eu H0)) _ _).trans (by kernel_rfl)
theorem AI:BW [p0,p1] H=Mk p0 p1 H:=(Zd (C:=cfg) (fn:=Tryz.f190) (c:=Z1 Tryz.f190) (n:=29) [4,8,9] Tryz.func190 (by kernel_rfl) (by kernel_rfl) [p0,p1] (by kernel_rfl) H).trans (by kernel_rfl)
def Nl:Z3:=ZE 197 26 (sub (Z1 Tryz.f197) [1,1,1]) (Zh cfg 26 197 Tryz.f197 H0) [(5,x5)] H
def Qk:KL:=Zc (WV 197 26 Tryz.f197 [1,1,1]) (Zh cfg 26 197 Tryz.f197 H0)
theorem EB:ZR 26 (Qk H0):=Zu (C:=cfg) (kp:=cfg.keep 197) (sub (Z1 Tryz.f197) [1,1,1]) (Zx 197 Tryz.f197 H0)
def No:Z3:=ZE 197 26 (sub (Z1 Tryz.f197) [1,1,0,1,0,0,1,1,1]) (Zc (Ye 197 26 Tryz.f197 [1,1,0,1,0,0]) (Z6 0 (Qk H0))) [(0,x0),(5,x5),(10,x10),(11,x11)] H
def Nn:Z3:=ZE 197 26 (sub (Z1 Tryz.f197) [1,1,0,1,0,0,1,1]) (Zc (Ye 197 26 Tryz.f197 [1,1,0,1,0,0]) (Z6 0 (Qk H0))) [(0,x0),(5,x5),(10,x10),(11,x11),(12,x12)] H
def Ql:Z3:=VR 197 26 (sub (Z1 Tryz.f197) [1,1,0,1,0,0]) (Z6 0 (Qk H0)) [(0,x0),(5,x5),(10,x10),(11,x11)] H
def Ml:Z3:=
 Z0 (SH p1 H) fun r8=>
 Z0 (Zk (.slice 5) r8.1) fun t10=>
 Ql p0 r8.1 t10 (.int .i64 0) H r8.2
theorem HN:Nl x5 H0 H =
 Z0 (Qe x5 H) fun t25=>
 some (t25,H):=Zb [4,6,7] (by kernel_rfl)
theorem HP:No x0 x5 x10 x11 H0 H =
 Z0 (Z5 .add x11 (.int .i64 1)) fun t23=>
 Ql x0 x5 x10 t23 H0 H:=Zb [4,6,7] (by kernel_rfl)
theorem HO:Nn x0 x5 x10 x11 x12 H0 H =
 Z0 (Zl 1 x5 x11) fun t19=>
 Z0 (Z4 false 1 t19 H) fun t20=>
 Z0 (Zw x0 t20) fun t21=>
 Z0 (Zl 1 x5 x11) fun t22=>
 Z0 (Zi 1 t22 t21 H) fun r_10=>
 No x0 x5 x10 x11 H0 r_10.2:=Zb [4,6,7] (by kernel_rfl)
theorem F9:Ql x0 x5 x10 x11 H0 H =
 Z0 (Z5 .lss x11 x10) fun t12=>
 Zm t12
 (Nn x0 x5 x10 x11 t12 H0 H)
 (Nl x5 H0 H):=(Zy (C:=cfg) [4,6,7] (Zn 0 (EB H0)) _ _).trans (by kernel_rfl)
theorem AK:BX [p0,p1] H=Ml p0 p1 H:=(Zd (C:=cfg) (fn:=Tryz.f197) (c:=Z1 Tryz.f197) (n:=26) [4,6,7] Tryz.func197 (by kernel_rfl) (by kernel_rfl) [p0,p1] (by kernel_rfl) H).trans (by kernel_rfl)
def I8:Z3:=ZE 204 43 (sub (Z1 Tryz.f204) [1,1,1,1,1,1]) (Zh cfg 43 204 Tryz.f204 H0) [(1,x1)] H
def I7:Z3:=ZE 204 43 (sub (Z1 Tryz.f204) [1,1,1,1,1]) (Zh cfg 43 204 Tryz.f204 H0) [(1,x1)] H
def I6:Z3:=ZE 204 43 (sub (Z1 Tryz.f204) [1,1,1,1]) (Zh cfg 43 204 Tryz.f204 H0) [(1,x1)] H
def Db:KL:=Zc (WV 204 43 Tryz.f204 [1,1,1,1]) (Zh cfg 43 204 Tryz.f204 H0)
theorem Za1:ZR 43 (Db H0):=Zu (C:=cfg) (kp:=cfg.keep 204) (sub (Z1 Tryz.f204) [1,1,1,1]) (Zx 204 Tryz.f204 H0)
def Ia:Z3:=ZE 204 43 (sub (Z1 Tryz.f204) [1,1,1,0,1,0,0,1,1]) (Zc (Ye 204 43 Tryz.f204 [1,1,1,0,1,0,0]) (Z6 0 (Db H0))) [(1,x1),(3,x3)] H
def I9:Z3:=ZE 204 43 (sub (Z1 Tryz.f204) [1,1,1,0,1,0,0,1]) (Zc (Ye 204 43 Tryz.f204 [1,1,1,0,1,0,0]) (Z6 0 (Db H0))) [(1,x1),(3,x3)] H
def Dc:Z3:=VR 204 43 (sub (Z1 Tryz.f204) [1,1,1,0,1,0,0]) (Z6 0 (Db H0)) [(1,x1),(3,x3)] H
def I5:Z3:=ZE 204 43 (sub (Z1 Tryz.f204) [1,1,1]) (Zh cfg 43 204 Tryz.f204 H0) [(1,x1)] H
def I4:Z3:=ZE 204 43 (sub (Z1 Tryz.f204) [1,1]) (Zh cfg 43 204 Tryz.f204 H0) [(1,x1)] H
def Zao:Z3:=
 Z0 (Y4 p0 H) fun r1=>
 Z0 (Z8 0 r1.1) fun t5=>
 Z0 (Z4 false 1 t5 r1.2) fun t6=>
 Z0 (Ze Jr [t6] r1.2) fun r7=>
 Z0 (XF .not r7.1) fun t8=>
 Zm t8
 (some ((.int .i64 4),r7.2))
 (I4 r1.1 H r7.2)
theorem Zco:I8 x1 H0 H =
 Z0 (Z8 5 x1) fun t40=>
 Z0 (Z4 false 1 t40 H) fun t41=>
 Z0 (Ze VD [t41] H) fun r42=>
 some (r42.1,r42.2):=Zb [3,5,7,8,10,12,15] (by kernel_rfl)
theorem Zcn:I7 x1 H0 H =
 Z0 (Z8 4 x1) fun t34=>
 Z0 (Z4 false 1 t34 H) fun t35=>
 Z0 (Ze VZ [t35] H) fun r36=>
 Z0 (Z5 .neq r36.1 (.int .i64 0)) fun t38=>
 Zm t38
 (some (r36.1,r36.2))
 (I8 x1 H0 r36.2):=Zb [3,5,7,8,10,12,15] (by kernel_rfl)
theorem Zcm:I6 x1 H0 H =
 Z0 (Z8 2 x1) fun t24=>
 Z0 (Z4 false 1 t24 H) fun t25=>
 Z0 (Zk .string t25) fun t26=>
 Z0 (Z5 .neq t26 (.int .i64 256)) fun t27=>
 Z0 (Z7 t27 false (.tuple []) (Z8 3 x1)) fun t29=>
 Z0 (Z7 t27 false (.tuple []) (Z4 false 1 t29 H)) fun t30=>
 Z0 (Z7 t27 false (.tuple []) (Zk .string t30)) fun t31=>
 Z0 (Z7 t27 false (.tuple []) (Z5 .neq t31 (.int .i64 256))) fun t32=>
 Z0 (Zj t27 (.bool true) t32) fun t33=>
 Zm t33
 (some ((.int .i64 2),H))
 (I7 x1 H0 H):=Zb [3,5,7,8,10,12,15] (by kernel_rfl)
theorem Zcq:Ia x1 x3 H0 H =
 Z0 (Z5 .add x3 (.int .i64 1)) fun t16=>
 Dc x1 t16 H0 H:=Zb [3,5,7,8,10,12,15] (by kernel_rfl)
theorem Zcp:I9 x1 x3 H0 H =
 Z0 (Z8 1 x1) fun t17=>
 Z0 (Z4 false 1 t17 H) fun t18=>
 Z0 (Zl 1 t18 x3) fun t20=>
 Z0 (Z4 false 1 t20 H) fun t21=>
 Z0 (Ze Gn [t21] H) fun r22=>
 Z0 (XF .not r22.1) fun t23=>
 Zm t23
 (some ((.int .i64 2),r22.2))
 (Ia x1 x3 H0 r22.2):=Zb [3,5,7,8,10,12,15] (by kernel_rfl)
theorem My:Dc x1 x3 H0 H =
 Z0 (Z5 .lss x3 (.int .i64 256)) fun t14=>
 Zm t14
 (I9 x1 x3 H0 H)
 (I6 x1 H0 H):=(Zy (C:=cfg) [3,5,7,8,10,12,15] (Zn 0 (Za1 H0)) _ _).trans (by kernel_rfl)
theorem Zcl:I5 x1 H0 H =
 Dc x1 (.int .i64 0) H0 H:=Zb [3,5,7,8,10,12,15] (by kernel_rfl)
theorem Zck:I4 x1 H0 H =
 Z0 (Z8 1 x1) fun t9=>
 Z0 (Z4 false 1 t9 H) fun t10=>
 Z0 (Zk (.slice 3) t10) fun t11=>
 Z0 (Z5 .neq t11 (.int .i64 256)) fun t12=>
 Zm t12
 (some ((.int .i64 2),H))
 (I5 x1 H0 H):=Zb [3,5,7,8,10,12,15] (by kernel_rfl)
theorem ZdS:R2 [p0] H=Zao p0 H:=(Zd (C:=cfg) (fn:=Tryz.f204) (c:=Z1 Tryz.f204) (n:=43) [3,5,7,8,10,12,15] Tryz.func204 (by kernel_rfl) (by kernel_rfl) [p0] (by kernel_rfl) H).trans (by kernel_rfl)
def FQ:Z3:=ZE 221 54 (sub (Z1 Tryz.f221) [1,1]) (Zh cfg 54 221 Tryz.f221 H0) [(0,x0)] H
def Kh:KL:=Zc (WV 221 54 Tryz.f221 [1,1]) (Zh cfg 54 221 Tryz.f221 H0)
theorem HQ:ZR 54 (Kh H0):=Zu (C:=cfg) (kp:=cfg.keep 221) (sub (Z1 Tryz.f221) [1,1]) (Zx 221 Tryz.f221 H0)
def FS:Z3:=ZE 221 54 (sub (Z1 Tryz.f221) [1,0,1,0,0,1,1,1]) (Zc (Ye 221 54 Tryz.f221 [1,0,1,0,0]) (Z6 0 (Kh H0))) [(0,x0),(7,x7),(8,x8)] H
def FR:Z3:=ZE 221 54 (sub (Z1 Tryz.f221) [1,0,1,0,0,1,1]) (Zc (Ye 221 54 Tryz.f221 [1,0,1,0,0]) (Z6 0 (Kh H0))) [(0,x0),(7,x7),(8,x8),(9,x9)] H
def Ki:Z3:=VR 221 54 (sub (Z1 Tryz.f221) [1,0,1,0,0]) (Z6 0 (Kh H0)) [(0,x0),(7,x7),(8,x8)] H
def CM:Z3:=
 Z0 (Zk .string p0) fun t7=>
 Ki p0 t7 (.int .i64 0) H H
theorem Zab:FQ x0 H0 H =
 Z0 (Yx .neq x0 (.str [])) fun t48=>
 Z0 (Z7 t48 true (.tuple []) (some x0)) fun t50=>
 Z0 (Z7 t48 true (.tuple []) (Zk .string t50)) fun t51=>
 Z0 (Z7 t48 true (.tuple []) (Z5 .leq t51 (.int .i64 32))) fun t52=>
 Z0 (Zj t48 t52 (.bool false)) fun t53=>
 some (t53,H):=Zb [3,8,9] (by kernel_rfl)
theorem TI:FS x0 x7 x8 H0 H =
 Z0 (Z5 .add x8 (.int .i64 1)) fun t46=>
 Ki x0 x7 t46 H0 H:=Zb [3,8,9] (by kernel_rfl)
theorem Zac:FR x0 x7 x8 x9 H0 H =
 Z0 (Zw x0 x8) fun t13=>
 Z0 (Z5 .eql t13 (.int .u8 95)) fun t15=>
 Z0 (Z7 t15 false (.tuple []) (some t13)) fun t17=>
 Z0 (Z7 t15 false (.tuple []) (Z5 .geq t17 (.int .u8 97))) fun t18=>
 Z0 (Z7 t15 false (.tuple []) (some t18)) fun t19=>
 Z0 (Z7 t19 true (.tuple []) (some t13)) fun t20=>
 Z0 (Z7 t19 true (.tuple []) (Z5 .leq t20 (.int .u8 122))) fun t21=>
 Z0 (Z7 t15 false (.tuple []) (Zj t19 t21 (.bool false))) fun t22=>
 Z0 (Zj t15 (.bool true) t22) fun t23=>
 Z0 (Z7 t23 false (.tuple []) (some t13)) fun t25=>
 Z0 (Z7 t23 false (.tuple []) (Z5 .geq t25 (.int .u8 65))) fun t26=>
 Z0 (Z7 t23 false (.tuple []) (some t26)) fun t27=>
 Z0 (Z7 t27 true (.tuple []) (some t13)) fun t28=>
 Z0 (Z7 t27 true (.tuple []) (Z5 .leq t28 (.int .u8 90))) fun t29=>
 Z0 (Z7 t23 false (.tuple []) (Zj t27 t29 (.bool false))) fun t30=>
 Z0 (Zj t23 (.bool true) t30) fun t31=>
 Z0 (XF .not t31) fun t33=>
 Z0 (Z7 t33 true (.tuple []) (some x8)) fun t35=>
 Z0 (Z7 t33 true (.tuple []) (Z5 .eql t35 (.int .i64 0))) fun t36=>
 Z0 (Z7 t33 true (.tuple []) (some t36)) fun t37=>
 Z0 (Z7 t37 false (.tuple []) (some t13)) fun t38=>
 Z0 (Z7 t37 false (.tuple []) (Z5 .lss t38 (.int .u8 48))) fun t39=>
 Z0 (Z7 t33 true (.tuple []) (Zj t37 (.bool true) t39)) fun t40=>
 Z0 (Z7 t33 true (.tuple []) (some t40)) fun t41=>
 Z0 (Z7 t41 false (.tuple []) (some t13)) fun t42=>
 Z0 (Z7 t41 false (.tuple []) (Z5 .gtr t42 (.int .u8 57))) fun t43=>
 Z0 (Z7 t33 true (.tuple []) (Zj t41 (.bool true) t43)) fun t44=>
 Z0 (Zj t33 t44 (.bool false)) fun t45=>
 Zm t45
 (some ((.bool false),H))
 (FS x0 x7 x8 H0 H):=Zb [3,8,9] (by kernel_rfl)
theorem UG:Ki x0 x7 x8 H0 H =
 Z0 (Z5 .lss x8 x7) fun t9=>
 Zm t9
 (FR x0 x7 x8 t9 H0 H)
 (FQ x0 H0 H):=(Zy (C:=cfg) [3,8,9] (Zn 0 (HQ H0)) _ _).trans (by kernel_rfl)
theorem ZaV:QK [p0] H=CM p0 H:=(Zd (C:=cfg) (fn:=Tryz.f221) (c:=Z1 Tryz.f221) (n:=54) [3,8,9] Tryz.func221 (by kernel_rfl) (by kernel_rfl) [p0] (by kernel_rfl) H).trans (by kernel_rfl)
def GD:Z3:=ZE 222 28 (sub (Z1 Tryz.f222) [1,1,1,1]) (Zh cfg 28 222 Tryz.f222 H0) [] H
def Xo:KL:=Zc (WV 222 28 Tryz.f222 [1,1,1,1]) (Zh cfg 28 222 Tryz.f222 H0)
theorem RE:ZR 28 (Xo H0):=Zu (C:=cfg) (kp:=cfg.keep 222) (sub (Z1 Tryz.f222) [1,1,1,1]) (Zx 222 Tryz.f222 H0)
def GF:Z3:=ZE 222 28 (sub (Z1 Tryz.f222) [1,1,1,0,1,0,0,1,1,1]) (Zc (Ye 222 28 Tryz.f222 [1,1,1,0,1,0,0]) (Z6 0 (Xo H0))) [(3,x3),(10,x10),(11,x11),(12,x12)] H
def GI:KL:=Zc (WV 222 28 Tryz.f222 [1,1,1,0,1,0,0,1,1,1]) (Zc (Ye 222 28 Tryz.f222 [1,1,1,0,1,0,0]) (Z6 0 (Xo H0)))
def GH:Z3:=ZE 222 28 (sub (Z1 Tryz.f222) [1,1,1,0,1,0,0,1,1,0,0,1,1,1]) (Z6 1 (GI H0)) [(3,x3),(5,x5),(10,x10),(11,x11),(12,x12)] H
def GG:Z3:=ZE 222 28 (sub (Z1 Tryz.f222) [1,1,1,0,1,0,0,1,1,0,0,1,1]) (Z6 1 (GI H0)) [(3,x3),(5,x5),(10,x10),(11,x11),(12,x12)] H
def GE:Z3:=ZE 222 28 (sub (Z1 Tryz.f222) [1,1,1,0,1,0,0,1,1]) (Zc (Ye 222 28 Tryz.f222 [1,1,1,0,1,0,0]) (Z6 0 (Xo H0))) [(3,x3),(10,x10),(11,x11),(12,x12),(13,x13)] H
def Ws:Z3:=VR 222 28 (sub (Z1 Tryz.f222) [1,1,1,0,1,0,0]) (Z6 0 (Xo H0)) [(3,x3),(10,x10),(11,x11),(12,x12)] H
def GC:Z3:=ZE 222 28 (sub (Z1 Tryz.f222) [1,1]) (Zh cfg 28 222 Tryz.f222 H0) [(0,x0)] H
def Bx:Z3:=
 Z0 (Zk (.slice 264) p0) fun t7=>
 Z0 (Z5 .gtr t7 (.int .i64 24)) fun t8=>
 Zm t8
 (some ((.int .i64 3),H))
 (GC p0 H H)
theorem P8:GD H0 H =
 some ((.int .i64 0),H):=Zb [3,6,9,11,12,13] (by kernel_rfl)
theorem Pa:GF x3 x10 x11 x12 H0 H =
 Z0 (Z5 .add x12 (.int .i64 1)) fun t27=>
 Ws x3 x10 x11 t27 H0 H:=Zb [3,6,9,11,12,13] (by kernel_rfl)
theorem Pc:GH x3 x5 x10 x11 x12 H0 H =
 Z0 (Z8 0 x5) fun t25=>
 Z0 (Z4 false 1 t25 H) fun t26=>
 Z0 (Xh .string x3 t26 (.bool true) H) fun r_11=>
 GF x3 x10 x11 x12 H0 r_11.2:=Zb [3,6,9,11,12,13] (by kernel_rfl)
theorem Pb:GG x3 x5 x10 x11 x12 H0 H =
 Z0 (Z8 0 x5) fun t21=>
 Z0 (Z4 false 1 t21 H) fun t22=>
 Z0 (Y8 .string (.bool false) false x3 t22 H) fun t23=>
 Zm t23
 (some ((.int .i64 6),H))
 (GH x3 x5 x10 x11 x12 H0 H):=Zb [3,6,9,11,12,13] (by kernel_rfl)
theorem P9:GE x3 x10 x11 x12 x13 H0 H =
 Z0 (Zl 5 x10 x12) fun t14=>
 Z0 (Z4 true 5 t14 H) fun t15=>
 Z0 (some ((.ptr H.length 0),H++[.cells [(.str []),(.int .u64 0),(.int .u64 0),(.int .u64 0),(.int .u64 0)]])) fun r5=>
 Z0 (Zi 5 r5.1 t15 r5.2) fun r_8=>
 Z0 (Z8 0 r5.1) fun t16=>
 Z0 (Z4 false 1 t16 r_8.2) fun t17=>
 Z0 (Ze QK [t17] r_8.2) fun r18=>
 Z0 (XF .not r18.1) fun t19=>
 Zm t19
 (some ((.int .i64 4),r18.2))
 (GG x3 r5.1 x10 x11 x12 H0 r18.2):=Zb [3,6,9,11,12,13] (by kernel_rfl)
theorem Jg:Ws x3 x10 x11 x12 H0 H =
 Z0 (Z5 .lss x12 x11) fun t13=>
 Zm t13
 (GE x3 x10 x11 x12 t13 H0 H)
 (GD H0 H):=(Zy (C:=cfg) [3,6,9,11,12,13] (Zn 0 (RE H0)) _ _).trans (by kernel_rfl)
theorem P7:GC x0 H0 H =
 Z0 (some ((.map H.length),H++[.map [] 0])) fun r9=>
 Z0 (Zk (.slice 264) x0) fun t11=>
 Ws r9.1 x0 t11 (.int .i64 0) H0 r9.2:=Zb [3,6,9,11,12,13] (by kernel_rfl)
theorem PC:WE [p0] H=Bx p0 H:=(Zd (C:=cfg) (fn:=Tryz.f222) (c:=Z1 Tryz.f222) (n:=28) [3,6,9,11,12,13] Tryz.func222 (by kernel_rfl) (by kernel_rfl) [p0] (by kernel_rfl) H).trans (by kernel_rfl)
def KF:Z3:=ZE 223 38 (sub (Z1 Tryz.f223) [1,1,1,1]) (Zh cfg 38 223 Tryz.f223 H0) [] H
def Xd:KL:=Zc (WV 223 38 Tryz.f223 [1,1,1,1]) (Zh cfg 38 223 Tryz.f223 H0)
theorem FO:ZR 38 (Xd H0):=Zu (C:=cfg) (kp:=cfg.keep 223) (sub (Z1 Tryz.f223) [1,1,1,1]) (Zx 223 Tryz.f223 H0)
def KH:Z3:=ZE 223 38 (sub (Z1 Tryz.f223) [1,1,1,0,1,0,0,1,1,1]) (Zc (Ye 223 38 Tryz.f223 [1,1,1,0,1,0,0]) (Z6 0 (Xd H0))) [(3,x3),(10,x10),(11,x11),(12,x12)] H
def KK:KL:=Zc (WV 223 38 Tryz.f223 [1,1,1,0,1,0,0,1,1,1]) (Zc (Ye 223 38 Tryz.f223 [1,1,1,0,1,0,0]) (Z6 0 (Xd H0)))
def KJ:Z3:=ZE 223 38 (sub (Z1 Tryz.f223) [1,1,1,0,1,0,0,1,1,0,0,1,1,1]) (Z6 1 (KK H0)) [(3,x3),(5,x5),(10,x10),(11,x11),(12,x12)] H
def KI:Z3:=ZE 223 38 (sub (Z1 Tryz.f223) [1,1,1,0,1,0,0,1,1,0,0,1,1]) (Z6 1 (KK H0)) [(3,x3),(5,x5),(10,x10),(11,x11),(12,x12)] H
def KG:Z3:=ZE 223 38 (sub (Z1 Tryz.f223) [1,1,1,0,1,0,0,1,1]) (Zc (Ye 223 38 Tryz.f223 [1,1,1,0,1,0,0]) (Z6 0 (Xd H0))) [(3,x3),(10,x10),(11,x11),(12,x12),(13,x13)] H
def Wd:Z3:=VR 223 38 (sub (Z1 Tryz.f223) [1,1,1,0,1,0,0]) (Z6 0 (Xd H0)) [(3,x3),(10,x10),(11,x11),(12,x12)] H
def KE:Z3:=ZE 223 38 (sub (Z1 Tryz.f223) [1,1]) (Zh cfg 38 223 Tryz.f223 H0) [(0,x0)] H
def Gq:Z3:=
 Z0 (Zk (.slice 210) p0) fun t7=>
 Z0 (Z5 .gtr t7 (.int .i64 64)) fun t8=>
 Zm t8
 (some ((.int .i64 3),H))
 (KE p0 H H)
theorem T6:KF H0 H =
 some ((.int .i64 0),H):=Zb [3,6,9,11,12,13] (by kernel_rfl)
theorem T8:KH x3 x10 x11 x12 H0 H =
 Z0 (Z5 .add x12 (.int .i64 1)) fun t37=>
 Wd x3 x10 x11 t37 H0 H:=Zb [3,6,9,11,12,13] (by kernel_rfl)
theorem Ta:KJ x3 x5 x10 x11 x12 H0 H =
 Z0 (Z8 0 x5) fun t35=>
 Z0 (Z4 false 1 t35 H) fun t36=>
 Z0 (Xh .string x3 t36 (.bool true) H) fun r_11=>
 KH x3 x10 x11 x12 H0 r_11.2:=Zb [3,6,9,11,12,13] (by kernel_rfl)
theorem T9:KI x3 x5 x10 x11 x12 H0 H =
 Z0 (Z8 0 x5) fun t31=>
 Z0 (Z4 false 1 t31 H) fun t32=>
 Z0 (Y8 .string (.bool false) false x3 t32 H) fun t33=>
 Zm t33
 (some ((.int .i64 6),H))
 (KJ x3 x5 x10 x11 x12 H0 H):=Zb [3,6,9,11,12,13] (by kernel_rfl)
theorem T7:KG x3 x10 x11 x12 x13 H0 H =
 Z0 (Zl 2 x10 x12) fun t14=>
 Z0 (Z4 true 2 t14 H) fun t15=>
 Z0 (some ((.ptr H.length 0),H++[.cells [(.str []),(.int .i64 0)]])) fun r5=>
 Z0 (Zi 2 r5.1 t15 r5.2) fun r_8=>
 Z0 (Z8 0 r5.1) fun t16=>
 Z0 (Z4 false 1 t16 r_8.2) fun t17=>
 Z0 (Zk .string t17) fun t18=>
 Z0 (Z5 .neq t18 (.int .i64 2)) fun t19=>
 Z0 (Z7 t19 false (.tuple []) (Z8 1 r5.1)) fun t21=>
 Z0 (Z7 t19 false (.tuple []) (Z4 false 1 t21 r_8.2)) fun t22=>
 Z0 (Z7 t19 false (.tuple []) (Z5 .lss t22 (.int .i64 0))) fun t23=>
 Z0 (Zj t19 (.bool true) t23) fun t24=>
 Z0 (Z7 t24 false (.tuple []) (Z8 1 r5.1)) fun t26=>
 Z0 (Z7 t24 false (.tuple []) (Z4 false 1 t26 r_8.2)) fun t27=>
 Z0 (Z7 t24 false (.tuple []) (Z5 .gtr t27 (.int .i64 65535))) fun t28=>
 Z0 (Zj t24 (.bool true) t28) fun t29=>
 Zm t29
 (some ((.int .i64 2),r_8.2))
 (KI x3 r5.1 x10 x11 x12 H0 r_8.2):=Zb [3,6,9,11,12,13] (by kernel_rfl)
theorem QN:Wd x3 x10 x11 x12 H0 H =
 Z0 (Z5 .lss x12 x11) fun t13=>
 Zm t13
 (KG x3 x10 x11 x12 t13 H0 H)
 (KF H0 H):=(Zy (C:=cfg) [3,6,9,11,12,13] (Zn 0 (FO H0)) _ _).trans (by kernel_rfl)
theorem T5:KE x0 H0 H =
 Z0 (some ((.map H.length),H++[.map [] 0])) fun r9=>
 Z0 (Zk (.slice 210) x0) fun t11=>
 Wd r9.1 x0 t11 (.int .i64 0) H0 r9.2:=Zb [3,6,9,11,12,13] (by kernel_rfl)
theorem TP:Wr [p0] H=Gq p0 H:=(Zd (C:=cfg) (fn:=Tryz.f223) (c:=Z1 Tryz.f223) (n:=38) [3,6,9,11,12,13] Tryz.func223 (by kernel_rfl) (by kernel_rfl) [p0] (by kernel_rfl) H).trans (by kernel_rfl)
def F6:Z3:=ZE 226 23 (sub (Z1 Tryz.f226) [1,1,1]) (Zh cfg 23 226 Tryz.f226 H0) [(3,x3)] H
def VJ:KL:=Zc (WV 226 23 Tryz.f226 [1,1,1]) (Zh cfg 23 226 Tryz.f226 H0)
theorem N5:ZR 23 (VJ H0):=Zu (C:=cfg) (kp:=cfg.keep 226) (sub (Z1 Tryz.f226) [1,1,1]) (Zx 226 Tryz.f226 H0)
def J2:Z3:=ZE 226 23 (sub (Z1 Tryz.f226) [1,1,0,1,0,0,1,1,1]) (Zc (Ye 226 23 Tryz.f226 [1,1,0,1,0,0]) (Z6 0 (VJ H0))) [(0,x0),(3,x3),(5,x5)] H
def F7:Z3:=ZE 226 23 (sub (Z1 Tryz.f226) [1,1,0,1,0,0,1,1]) (Zc (Ye 226 23 Tryz.f226 [1,1,0,1,0,0]) (Z6 0 (VJ H0))) [(0,x0),(3,x3),(5,x5),(6,x6)] H
def VK:Z3:=VR 226 23 (sub (Z1 Tryz.f226) [1,1,0,1,0,0]) (Z6 0 (VJ H0)) [(0,x0),(3,x3),(5,x5)] H
def AH:Z3:=
 VK p0 (.int .i64 0) (.int .i64 0) H H
theorem LI:F6 x3 H0 H =
 some (x3,H):=Zb [4,8,9] (by kernel_rfl)
theorem GA:J2 x0 x3 x5 H0 H =
 Z0 (Z5 .add x5 (.int .i64 1)) fun t21=>
 VK x0 x3 t21 H0 H:=Zb [4,8,9] (by kernel_rfl)
theorem LJ:F7 x0 x3 x5 x6 H0 H =
 Z0 (Z5 .mul x3 (.int .i64 10)) fun t9=>
 Z0 (Zk .string x0) fun t12=>
 Z0 (Z5 .lss x5 t12) fun t13=>
 Zm t13
 (Z0 (Zw x0 x5) fun t17=>
 Z0 (Z5 .sub t17 (.int .u8 48)) fun t18=>
 Z0 (YR .i64 t18) fun t19=>
 Z0 (Z5 .add t9 t19) fun t20=>
 J2 x0 t20 x5 H0 H)
 (J2 x0 t9 x5 H0 H):=Zb [4,8,9] (by kernel_rfl)
theorem GB:VK x0 x3 x5 H0 H =
 Z0 (Z5 .lss x5 (.int .i64 4)) fun t6=>
 Zm t6
 (F7 x0 x3 x5 t6 H0 H)
 (F6 x3 H0 H):=(Zy (C:=cfg) [4,8,9] (Zn 0 (N5 H0)) _ _).trans (by kernel_rfl)
theorem E6:Js [p0] H=AH p0 H:=(Zd (C:=cfg) (fn:=Tryz.f226) (c:=Z1 Tryz.f226) (n:=23) [4,8,9] Tryz.func226 (by kernel_rfl) (by kernel_rfl) [p0] (by kernel_rfl) H).trans (by kernel_rfl)
def Zap:Z3:=
 Z0 (Y4 p0 H) fun r2=>
 Z0 (Z4 true 6 r2.1 r2.2) fun t5=>
 Z0 (Ze Gp [t5] r2.2) fun r6=>
 Z0 (Po false 1 3 r6.1) fun t7=>
 Z0 (Ze Ps [t7,p1] r6.2) fun r9=>
 some (r9.1,r9.2)
theorem ZdT:Zal [p0,p1] H=Zap p0 p1 H:=(Zd (C:=cfg) (fn:=Tryz.f234) (c:=Z1 Tryz.f234) (n:=10) [] Tryz.func234 (by kernel_rfl) (by kernel_rfl) [p0,p1] (by kernel_rfl) H).trans (by kernel_rfl)
def Zaq:Z3:=
 Z0 (Z5 .geq p0 (.int .i64 0)) fun t4=>
 Z0 (Z7 t4 true (.tuple []) (some p0)) fun t6=>
 Z0 (Z7 t4 true (.tuple []) (Z5 .leq t6 (.int .i64 65535))) fun t7=>
 Z0 (Zj t4 t7 (.bool false)) fun t8=>
 some (t8,H)
theorem ZdU:Gn [p0] H=Zaq p0 H:=(Zd (C:=cfg) (fn:=Tryz.f235) (c:=Z1 Tryz.f235) (n:=9) [] Tryz.func235 (by kernel_rfl) (by kernel_rfl) [p0] (by kernel_rfl) H).trans (by kernel_rfl)
def F1:Z3:=ZE 236 37 (sub (Z1 Tryz.f236) [1,1,1]) (Zh cfg 37 236 Tryz.f236 H0) [] H
def Wk:KL:=Zc (WV 236 37 Tryz.f236 [1,1,1]) (Zh cfg 37 236 Tryz.f236 H0)
theorem JC:ZR 37 (Wk H0):=Zu (C:=cfg) (kp:=cfg.keep 236) (sub (Z1 Tryz.f236) [1,1,1]) (Zx 236 Tryz.f236 H0)
def J1:Z3:=ZE 236 37 (sub (Z1 Tryz.f236) [1,1,0,1,0,0,1,1]) (Zc (Ye 236 37 Tryz.f236 [1,1,0,1,0,0]) (Z6 0 (Wk H0))) [(0,x0),(3,x3)] H
def Wl:KL:=Zc (WV 236 37 Tryz.f236 [1,1,0,1,0,0,1,1]) (Zc (Ye 236 37 Tryz.f236 [1,1,0,1,0,0]) (Z6 0 (Wk H0)))
theorem PV:ZR 37 (Wl H0):=Zu (C:=cfg) (kp:=cfg.keep 236) (sub (Z1 Tryz.f236) [1,1,0,1,0,0,1,1]) (Lg (C:=cfg) (kp:=cfg.keep 236) (sub (Z1 Tryz.f236) [1,1,0,1,0,0]) (Zn 0 (JC H0)))
def F5:Z3:=ZE 236 37 (sub (Z1 Tryz.f236) [1,1,0,1,0,0,1,0,0,1,1,0,0,1,1]) (Zc (Ye 236 37 Tryz.f236 [1,1,0,1,0,0,1,0,0,1,1,0,0]) (Z6 2 (Z6 1 (Wl H0)))) [(0,x0),(3,x3),(4,x4)] H
def F4:Z3:=ZE 236 37 (sub (Z1 Tryz.f236) [1,1,0,1,0,0,1,0,0,1,1,0,0,1]) (Zc (Ye 236 37 Tryz.f236 [1,1,0,1,0,0,1,0,0,1,1,0,0]) (Z6 2 (Z6 1 (Wl H0)))) [(0,x0),(3,x3),(4,x4)] H
def VH:Z3:=VR 236 37 (sub (Z1 Tryz.f236) [1,1,0,1,0,0,1,0,0,1,1,0,0]) (Z6 2 (Z6 1 (Wl H0))) [(0,x0),(3,x3),(4,x4)] H
def F3:Z3:=ZE 236 37 (sub (Z1 Tryz.f236) [1,1,0,1,0,0,1,0,0,1]) (Z6 1 (Wl H0)) [(0,x0),(3,x3)] H
def F2:Z3:=ZE 236 37 (sub (Z1 Tryz.f236) [1,1,0,1,0,0,1]) (Zc (Ye 236 37 Tryz.f236 [1,1,0,1,0,0]) (Z6 0 (Wk H0))) [(0,x0),(3,x3)] H
def VG:Z3:=VR 236 37 (sub (Z1 Tryz.f236) [1,1,0,1,0,0]) (Z6 0 (Wk H0)) [(0,x0),(3,x3)] H
def F0:Z3:=ZE 236 37 (sub (Z1 Tryz.f236) [1,1]) (Zh cfg 37 236 Tryz.f236 H0) [(0,x0)] H
def Rh:Z3:=
 Z0 (Zk (.slice 264) p0) fun t6=>
 Z0 (Z5 .gtr t6 (.int .i64 24)) fun t7=>
 Zm t7
 (some ((.int .i64 3),H))
 (F0 p0 H H)
theorem Lv:F1 H0 H =
 some ((.int .i64 0),H):=Zb [3,5,6,8,10,11,13] (by kernel_rfl)
theorem Lx:J1 x0 x3 H0 H =
 Z0 (Z5 .add x3 (.int .i64 1)) fun t13=>
 VG x0 t13 H0 H:=Zb [3,5,6,8,10,11,13] (by kernel_rfl)
theorem LA:F5 x0 x3 x4 H0 H =
 Z0 (Z5 .add x4 (.int .i64 1)) fun t25=>
 VH x0 x3 t25 H0 H:=Zb [3,5,6,8,10,11,13] (by kernel_rfl)
theorem Lz:F4 x0 x3 x4 H0 H =
 Z0 (Zl 5 x0 x4) fun t28=>
 Z0 (Z8 0 t28) fun t29=>
 Z0 (Z4 false 1 t29 H) fun t30=>
 Z0 (Zl 5 x0 x3) fun t33=>
 Z0 (Z8 0 t33) fun t34=>
 Z0 (Z4 false 1 t34 H) fun t35=>
 Z0 (Yx .eql t30 t35) fun t36=>
 Zm t36
 (some ((.int .i64 6),H))
 (F5 x0 x3 x4 H0 H):=Zb [3,5,6,8,10,11,13] (by kernel_rfl)
theorem Gv:VH x0 x3 x4 H0 H =
 Z0 (Z5 .lss x4 x3) fun t23=>
 Zm t23
 (F4 x0 x3 x4 H0 H)
 (J1 x0 x3 H0 H):=(Zy (C:=cfg) [3,5,6,8,10,11,13] (Zn 2 (Zn 1 (PV H0))) _ _).trans (by kernel_rfl)
theorem Ly:F3 x0 x3 H0 H =
 VH x0 x3 (.int .i64 0) H0 H:=Zb [3,5,6,8,10,11,13] (by kernel_rfl)
theorem Lw:F2 x0 x3 H0 H =
 Z0 (Zl 5 x0 x3) fun t16=>
 Z0 (Z8 0 t16) fun t17=>
 Z0 (Z4 false 1 t17 H) fun t18=>
 Z0 (Ze Jr [t18] H) fun r19=>
 Z0 (XF .not r19.1) fun t20=>
 Zm t20
 (some ((.int .i64 4),r19.2))
 (F3 x0 x3 H0 r19.2):=Zb [3,5,6,8,10,11,13] (by kernel_rfl)
theorem Gu:VG x0 x3 H0 H =
 Z0 (Zk (.slice 264) x0) fun t10=>
 Z0 (Z5 .lss x3 t10) fun t11=>
 Zm t11
 (F2 x0 x3 H0 H)
 (F1 H0 H):=(Zy (C:=cfg) [3,5,6,8,10,11,13] (Zn 0 (JC H0)) _ _).trans (by kernel_rfl)
theorem Lu:F0 x0 H0 H =
 VG x0 (.int .i64 0) H0 H:=Zb [3,5,6,8,10,11,13] (by kernel_rfl)
theorem E4:VZ [p0] H=Rh p0 H:=(Zd (C:=cfg) (fn:=Tryz.f236) (c:=Z1 Tryz.f236) (n:=37) [3,5,6,8,10,11,13] Tryz.func236 (by kernel_rfl) (by kernel_rfl) [p0] (by kernel_rfl) H).trans (by kernel_rfl)
def De:Z3:=ZE 237 46 (sub (Z1 Tryz.f237) [1,1,1]) (Zh cfg 46 237 Tryz.f237 H0) [] H
def XV:KL:=Zc (WV 237 46 Tryz.f237 [1,1,1]) (Zh cfg 46 237 Tryz.f237 H0)
theorem Jb:ZR 46 (XV H0):=Zu (C:=cfg) (kp:=cfg.keep 237) (sub (Z1 Tryz.f237) [1,1,1]) (Zx 237 Tryz.f237 H0)
def Qb:Z3:=ZE 237 46 (sub (Z1 Tryz.f237) [1,1,0,1,0,0,1,1]) (Zc (Ye 237 46 Tryz.f237 [1,1,0,1,0,0]) (Z6 0 (XV H0))) [(0,x0),(3,x3)] H
def XW:KL:=Zc (WV 237 46 Tryz.f237 [1,1,0,1,0,0,1,1]) (Zc (Ye 237 46 Tryz.f237 [1,1,0,1,0,0]) (Z6 0 (XV H0)))
theorem TX:ZR 46 (XW H0):=Zu (C:=cfg) (kp:=cfg.keep 237) (sub (Z1 Tryz.f237) [1,1,0,1,0,0,1,1]) (Lg (C:=cfg) (kp:=cfg.keep 237) (sub (Z1 Tryz.f237) [1,1,0,1,0,0]) (Zn 0 (Jb H0)))
def Di:Z3:=ZE 237 46 (sub (Z1 Tryz.f237) [1,1,0,1,0,0,1,0,0,1,1,0,0,1,1]) (Zc (Ye 237 46 Tryz.f237 [1,1,0,1,0,0,1,0,0,1,1,0,0]) (Z6 2 (Z6 1 (XW H0)))) [(0,x0),(3,x3),(4,x4)] H
def Dh:Z3:=ZE 237 46 (sub (Z1 Tryz.f237) [1,1,0,1,0,0,1,0,0,1,1,0,0,1]) (Zc (Ye 237 46 Tryz.f237 [1,1,0,1,0,0,1,0,0,1,1,0,0]) (Z6 2 (Z6 1 (XW H0)))) [(0,x0),(3,x3),(4,x4)] H
def WX:Z3:=VR 237 46 (sub (Z1 Tryz.f237) [1,1,0,1,0,0,1,0,0,1,1,0,0]) (Z6 2 (Z6 1 (XW H0))) [(0,x0),(3,x3),(4,x4)] H
def Dg:Z3:=ZE 237 46 (sub (Z1 Tryz.f237) [1,1,0,1,0,0,1,0,0,1]) (Z6 1 (XW H0)) [(0,x0),(3,x3)] H
def Df:Z3:=ZE 237 46 (sub (Z1 Tryz.f237) [1,1,0,1,0,0,1]) (Zc (Ye 237 46 Tryz.f237 [1,1,0,1,0,0]) (Z6 0 (XV H0))) [(0,x0),(3,x3)] H
def WW:Z3:=VR 237 46 (sub (Z1 Tryz.f237) [1,1,0,1,0,0]) (Z6 0 (XV H0)) [(0,x0),(3,x3)] H
def Dd:Z3:=ZE 237 46 (sub (Z1 Tryz.f237) [1,1]) (Zh cfg 46 237 Tryz.f237 H0) [(0,x0)] H
def DU:Z3:=
 Z0 (Zk (.slice 210) p0) fun t6=>
 Z0 (Z5 .gtr t6 (.int .i64 64)) fun t7=>
 Zm t7
 (some ((.int .i64 3),H))
 (Dd p0 H H)
theorem M7:De H0 H =
 some ((.int .i64 0),H):=Zb [3,5,6,8,10,11,13] (by kernel_rfl)
theorem M9:Qb x0 x3 H0 H =
 Z0 (Z5 .add x3 (.int .i64 1)) fun t13=>
 WW x0 t13 H0 H:=Zb [3,5,6,8,10,11,13] (by kernel_rfl)
theorem Mc:Di x0 x3 x4 H0 H =
 Z0 (Z5 .add x4 (.int .i64 1)) fun t34=>
 WX x0 x3 t34 H0 H:=Zb [3,5,6,8,10,11,13] (by kernel_rfl)
theorem Mb:Dh x0 x3 x4 H0 H =
 Z0 (Zl 2 x0 x4) fun t37=>
 Z0 (Z8 0 t37) fun t38=>
 Z0 (Z4 false 1 t38 H) fun t39=>
 Z0 (Zl 2 x0 x3) fun t42=>
 Z0 (Z8 0 t42) fun t43=>
 Z0 (Z4 false 1 t43 H) fun t44=>
 Z0 (Yx .eql t39 t44) fun t45=>
 Zm t45
 (some ((.int .i64 6),H))
 (Di x0 x3 x4 H0 H):=Zb [3,5,6,8,10,11,13] (by kernel_rfl)
theorem KD:WX x0 x3 x4 H0 H =
 Z0 (Z5 .lss x4 x3) fun t32=>
 Zm t32
 (Dh x0 x3 x4 H0 H)
 (Qb x0 x3 H0 H):=(Zy (C:=cfg) [3,5,6,8,10,11,13] (Zn 2 (Zn 1 (TX H0))) _ _).trans (by kernel_rfl)
theorem Ma:Dg x0 x3 H0 H =
 WX x0 x3 (.int .i64 0) H0 H:=Zb [3,5,6,8,10,11,13] (by kernel_rfl)
theorem M8:Df x0 x3 H0 H =
 Z0 (Zl 2 x0 x3) fun t16=>
 Z0 (Z8 0 t16) fun t17=>
 Z0 (Z4 false 1 t17 H) fun t18=>
 Z0 (Zk .string t18) fun t19=>
 Z0 (Z5 .neq t19 (.int .i64 2)) fun t20=>
 Z0 (Z7 t20 false (.tuple []) (some x0)) fun t22=>
 Z0 (Z7 t20 false (.tuple []) (some x3)) fun t23=>
 Z0 (Z7 t20 false (.tuple []) (Zl 2 t22 t23)) fun t24=>
 Z0 (Z7 t20 false (.tuple []) (Z8 1 t24)) fun t25=>
 Z0 (Z7 t20 false (.tuple []) (Z4 false 1 t25 H)) fun t26=>
 Z0 (Z7 t20 false ((.tuple []),H) (Ze Gn [t26] H)) fun r27=>
 Z0 (Z7 t20 false (.tuple []) (XF .not r27.1)) fun t28=>
 Z0 (Zj t20 (.bool true) t28) fun t29=>
 Zm t29
 (some ((.int .i64 2),r27.2))
 (Dg x0 x3 H0 r27.2):=Zb [3,5,6,8,10,11,13] (by kernel_rfl)
theorem KC:WW x0 x3 H0 H =
 Z0 (Zk (.slice 210) x0) fun t10=>
 Z0 (Z5 .lss x3 t10) fun t11=>
 Zm t11
 (Df x0 x3 H0 H)
 (De H0 H):=(Zy (C:=cfg) [3,5,6,8,10,11,13] (Zn 0 (Jb H0)) _ _).trans (by kernel_rfl)
theorem M6:Dd x0 H0 H =
 WW x0 (.int .i64 0) H0 H:=Zb [3,5,6,8,10,11,13] (by kernel_rfl)
theorem Ll:VD [p0] H=DU p0 H:=(Zd (C:=cfg) (fn:=Tryz.f237) (c:=Z1 Tryz.f237) (n:=46) [3,5,6,8,10,11,13] Tryz.func237 (by kernel_rfl) (by kernel_rfl) [p0] (by kernel_rfl) H).trans (by kernel_rfl)
def CV:Z3:=ZE 252 23 (sub (Z1 Tryz.f252) [1,1,1]) (Zh cfg 23 252 Tryz.f252 H0) [(5,x5)] H
def B3:KL:=Zc (WV 252 23 Tryz.f252 [1,1,1]) (Zh cfg 23 252 Tryz.f252 H0)
theorem Ie:ZR 23 (B3 H0):=Zu (C:=cfg) (kp:=cfg.keep 252) (sub (Z1 Tryz.f252) [1,1,1]) (Zx 252 Tryz.f252 H0)
def CY:Z3:=ZE 252 23 (sub (Z1 Tryz.f252) [1,1,0,1,0,0,1,1]) (Zc (Ye 252 23 Tryz.f252 [1,1,0,1,0,0]) (Z6 0 (B3 H0))) [(0,x0),(1,x1),(5,x5),(6,x6)] H
def CW:Z3:=ZE 252 23 (sub (Z1 Tryz.f252) [1,1,0,1,0,0,1]) (Zc (Ye 252 23 Tryz.f252 [1,1,0,1,0,0]) (Z6 0 (B3 H0))) [(0,x0),(1,x1),(5,x5),(6,x6)] H
def B4:Z3:=VR 252 23 (sub (Z1 Tryz.f252) [1,1,0,1,0,0]) (Z6 0 (B3 H0)) [(0,x0),(1,x1),(5,x5),(6,x6)] H
def AG:Z3:=
 B4 p0 p1 .nils (.int .i64 0) H H
theorem Zb5:CV x5 H0 H =
 Z0 (Qe x5 H) fun t22=>
 some (t22,H):=Zb [4,5,6] (by kernel_rfl)
theorem Zb7:CY x0 x1 x5 x6 H0 H =
 Z0 (Z5 .add x6 (.int .i64 1)) fun t12=>
 B4 x0 x1 x5 t12 H0 H:=Zb [4,5,6] (by kernel_rfl)
theorem Zb6:CW x0 x1 x5 x6 H0 H =
 Z0 (Zw x1 x6) fun t17=>
 Z0 (Zw x0 t17) fun t18=>
 Z0 ((ZA 1 [(0,t18)] [(.int .u8 0)]).map (.vs 1 .clip)) fun t19=>
 Z0 (Y7 1 1 x5 t19 H) fun r20=>
 CY x0 x1 r20.1 x6 H0 r20.2:=Zb [4,5,6] (by kernel_rfl)
theorem PW:B4 x0 x1 x5 x6 H0 H =
 Z0 (Zk .string x1) fun t9=>
 Z0 (Z5 .lss x6 t9) fun t10=>
 Zm t10
 (CW x0 x1 x5 x6 H0 H)
 (CV x5 H0 H):=(Zy (C:=cfg) [4,5,6] (Zn 0 (Ie H0)) _ _).trans (by kernel_rfl)
theorem ZbX:Ps [p0,p1] H=AG p0 p1 H:=(Zd (C:=cfg) (fn:=Tryz.f252) (c:=Z1 Tryz.f252) (n:=23) [4,5,6] Tryz.func252 (by kernel_rfl) (by kernel_rfl) [p0,p1] (by kernel_rfl) H).trans (by kernel_rfl)
end
end Go.Am
