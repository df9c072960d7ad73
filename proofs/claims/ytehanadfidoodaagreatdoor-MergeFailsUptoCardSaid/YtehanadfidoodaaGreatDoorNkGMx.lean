/-
  The functions of the translation over the abstract machine, a further part: written by program (wip/gen.py).
-/
import Derived.Test.YtehanadfidoodaaGreatDoorNkGx
namespace Go.Am
open Go.Proofs
set_option maxRecDepth 100000
set_option linter.unusedVariables false
set_option linter.unusedSimpArgs false
noncomputable abbrev Mi (f n:Nat):=Yl cfg (Za cfg) (Y8 cfg (cfg.keep f) n) (cfg.keep f) n Zd Z7
noncomputable abbrev Zmx (f n:Nat):=Y8 cfg (cfg.keep f) n
noncomputable section
abbrev Zqz (f n:Nat)(F:Func)(p:List Nat):KL→AL→Hp→Z3:=fun k al H=>Mi f n (sub (Z1 F) p) k (ZR (cfg.keep f) (sub (Z1 F) p) al) H
abbrev Zmz (f n:Nat)(F:Func)(p:List Nat):KL→AL→Hp→Z3:=fun k al H=>Zmx f n (sub (Z1 F) p) k (ZR (cfg.keep f) (sub (Z1 F) p) al) H
variable (p0 p1 p2 p3 x0 x1 x2 x3 x4 x5 x6 x7 x8 x9 x10 x11:AV)(H0 H:Hp)
def BY:Z3:=Mi 34 22 (sub (Z1 Tryz.f34) [1,1,1,1]) (Zi cfg 22 34 Tryz.f34 H0) [(7,x7)] H
def M8:Z3:=Mi 34 22 (sub (Z1 Tryz.f34) [1,1]) (Zi cfg 22 34 Tryz.f34 H0) [(2,x2),(3,x3),(4,x4)] H
def Lh:Z3:=
 Z0 (ZW p0 H) fun r3=>
 Z0 (ZW p1 r3.2) fun r4=>
 Z0 (Z4 true 5 r4.1 r4.2) fun t8=>
 Z0 (Ze Wr [t8] r4.2) fun r9=>
 Z0 (Z5 .neq r9.1 (.int .i64 0)) fun t10=>
 Zl t10
 (Z0 (Ze Yc [p2] r9.2) fun r12=>
 some (r12.1,r12.2))
 (M8 p2 r3.1 r4.1 H r9.2)
theorem FP:BY x7 H0 H =
 some (x7,H):=Zb [3,6] (by kernel_rfl)
theorem AH:M8 x2 x3 x4 H0 H =
 X3 x3 H fun z3 z3H=>
 X3 x4 z3H fun z4 z4H=>
 Z0 (some (.fn (.func 84) [] [z3,z4])) fun t14=>
 Z0 (Ze Yq [x2,t14] z4H) fun r15=>
 Z0 (Z8 3 z4) fun t16=>
 Z0 (Z4 false 1 t16 r15.2) fun t17=>
 Zl t17
 (Z0 (some (.fn (.func 85) [] [z3,z4])) fun t19=>
 Z0 (Ze V2 [r15.1,t19] r15.2) fun r20=>
 BY r20.1 H0 r20.2)
 (BY r15.1 H0 r15.2):=Zb [3,6] (by kernel_rfl)
theorem Im:Jv [p0,p1,p2] H=Lh p0 p1 p2 H:=(Zc (C:=cfg) (fn:=Tryz.f34) (c:=Z1 Tryz.f34) (n:=22) [3,6] Tryz.func34 (by kernel_rfl) (by kernel_rfl) [p0,p1,p2] (by kernel_rfl) H).trans (by kernel_rfl)
def QV:Z3:=Mi 70 35 (sub (Z1 Tryz.f70) [1,1,1]) (Zi cfg 35 70 Tryz.f70 H0) [(5,x5)] H
def XB:KL:=Zd (Zqz 70 35 Tryz.f70 [1,1,1]) (Zi cfg 35 70 Tryz.f70 H0)
theorem BZ:ZT 35 (XB H0):=Zw (C:=cfg) (kp:=cfg.keep 70) (sub (Z1 Tryz.f70) [1,1,1]) (ZA 70 Tryz.f70 H0)
def XA:Z3:=Mi 70 35 (sub (Z1 Tryz.f70) [1,1,0,1,0,0,1,1,1]) (Zd (Zmz 70 35 Tryz.f70 [1,1,0,1,0,0]) (Z7 0 (XB H0))) [(1,x1),(5,x5),(8,x8),(9,x9),(10,x10)] H
def WK:Z3:=Mi 70 35 (sub (Z1 Tryz.f70) [1,1,0,1,0,0,1,1]) (Zd (Zmz 70 35 Tryz.f70 [1,1,0,1,0,0]) (Z7 0 (XB H0))) [(1,x1),(5,x5),(8,x8),(9,x9),(10,x10),(11,x11)] H
def XC:Z3:=Zmx 70 35 (sub (Z1 Tryz.f70) [1,1,0,1,0,0]) (Z7 0 (XB H0)) [(1,x1),(5,x5),(8,x8),(9,x9),(10,x10)] H
def Jb:Z3:=
 Z0 (Zk (.slice 9) p0) fun t9=>
 XC p1 .nils p0 t9 (.int .i64 0) H H
theorem F6:QV x5 H0 H =
 some (x5,H):=Zb [4,7,8] (by kernel_rfl)
theorem F8:XA x1 x5 x8 x9 x10 H0 H =
 Z0 (Z5 .add x10 (.int .i64 1)) fun t33=>
 XC x1 x5 x8 x9 t33 H0 H:=Zb [4,7,8] (by kernel_rfl)
theorem F7:WK x1 x5 x8 x9 x10 x11 H0 H =
 Z0 (Zn 1 x8 x10) fun t12=>
 Z0 (Z4 false 1 t12 H) fun t13=>
 Z0 (Zk (.slice 9) x5) fun t15=>
 Z0 (Z5 .eql t15 (.int .i64 0)) fun t16=>
 Z0 (Z6 t16 false (.tuple []) (some x1)) fun t18=>
 Z0 (Z6 t16 false (.tuple []) (some x5)) fun t19=>
 Z0 (Z6 t16 false (.tuple []) (some x5)) fun t20=>
 Z0 (Z6 t16 false (.tuple []) (Zk (.slice 9) t20)) fun t21=>
 Z0 (Z6 t16 false (.tuple []) (Z5 .sub t21 (.int .i64 1))) fun t22=>
 Z0 (Z6 t16 false (.tuple []) (Zn 1 t19 t22)) fun t23=>
 Z0 (Z6 t16 false (.tuple []) (Z4 false 1 t23 H)) fun t24=>
 Z0 (Z6 t16 false (.tuple []) (some t13)) fun t25=>
 Z0 (Z6 t16 false ((.tuple []),H) (Yp cfg (Za cfg) t18 [t24,t25] H)) fun r26=>
 Z0 (Z6 t16 false (.tuple []) (Xa .not r26.1)) fun t27=>
 Z0 (Zg t16 (.bool true) t27) fun t28=>
 Zl t28
 (Z0 ((ZF 1 [(0,t13)] [(.str [])]).map (.vs 1 .clip)) fun t31=>
 Z0 (Y6 1 16 x5 t31 r26.2) fun r32=>
 XA x1 r32.1 x8 x9 x10 H0 r32.2)
 (XA x1 x5 x8 x9 x10 H0 r26.2):=Zb [4,7,8] (by kernel_rfl)
theorem UE:XC x1 x5 x8 x9 x10 H0 H =
 Z0 (Z5 .lss x10 x9) fun t11=>
 Zl t11
 (WK x1 x5 x8 x9 x10 t11 H0 H)
 (QV x5 H0 H):=(ZB (C:=cfg) [4,7,8] (Zo 0 (BZ H0)) _ _).trans (by kernel_rfl)
theorem Fr:V2 [p0,p1] H=Jb p0 p1 H:=(Zc (C:=cfg) (fn:=Tryz.f70) (c:=Z1 Tryz.f70) (n:=35) [4,7,8] Tryz.func70 (by kernel_rfl) (by kernel_rfl) [p0,p1] (by kernel_rfl) H).trans (by kernel_rfl)
def WV:Z3:=Mi 76 8 (sub (Z1 Tryz.f76) [1,1]) (Zi cfg 8 76 Tryz.f76 H0) [(0,x0)] H
def V5:Z3:=
 Z0 (Yj (.slice 9) .eql p0 .nils) fun t4=>
 Zl t4
 (some (.nils,H))
 (WV p0 H H)
theorem Jp:WV x0 H0 H =
 Z0 ((ZF 1 [] []).map (.vs 1 .clip)) fun t5=>
 Z0 (Y6 1 16 t5 x0 H) fun r7=>
 some (r7.1,r7.2):=Zb [3] (by kernel_rfl)
theorem Jz:Yc [p0] H=V5 p0 H:=(Zc (C:=cfg) (fn:=Tryz.f76) (c:=Z1 Tryz.f76) (n:=8) [3] Tryz.func76 (by kernel_rfl) (by kernel_rfl) [p0] (by kernel_rfl) H).trans (by kernel_rfl)
def VT:Z3:=Mi 83 67 (sub (Z1 Tryz.f83) [1,1,1,1,1,1]) (Zi cfg 67 83 Tryz.f83 H0) [(6,x6),(7,x7),(8,x8)] H
def XL:KL:=Zd (Zqz 83 67 Tryz.f83 [1,1,1,1,1,1]) (Zi cfg 67 83 Tryz.f83 H0)
theorem JO:ZT 67 (XL H0):=Zw (C:=cfg) (kp:=cfg.keep 83) (sub (Z1 Tryz.f83) [1,1,1,1,1,1]) (ZA 83 Tryz.f83 H0)
def VU:Z3:=Mi 83 67 (sub (Z1 Tryz.f83) [1,1,1,1,1,0,0,0,1]) (Zd (Zmz 83 67 Tryz.f83 [1,1,1,1,1,0,0,0]) (Z7 0 (XL H0))) [(1,x1),(6,x6),(7,x7),(8,x8)] H
def Yk:Z3:=Zmx 83 67 (sub (Z1 Tryz.f83) [1,1,1,1,1,0,0,0]) (Z7 0 (XL H0)) [(1,x1),(6,x6),(7,x7),(8,x8)] H
def VS:Z3:=Mi 83 67 (sub (Z1 Tryz.f83) [1,1]) (Zi cfg 67 83 Tryz.f83 H0) [(0,x0),(1,x1)] H
def YR:Z3:=
 Z0 (Zk (.slice 9) p0) fun t10=>
 Z0 (Z5 .lss t10 (.int .i64 2)) fun t11=>
 Zl t11
 (Z0 (Ze Yc [p0] H) fun r13=>
 some (r13.1,r13.2))
 (VS p0 p1 H H)
theorem WT:VT x6 x7 x8 H0 H =
 Z0 (Y6 1 16 x8 x6 H) fun r64=>
 Z0 (Y6 1 16 r64.1 x7 r64.2) fun r66=>
 some (r66.1,r66.2):=Zb [3,7,12] (by kernel_rfl)
theorem WU:VU x1 x6 x7 x8 H0 H =
 Z0 (Zn 1 x6 (.int .i64 0)) fun t40=>
 Z0 (Z4 false 1 t40 H) fun t41=>
 Z0 (Zn 1 x7 (.int .i64 0)) fun t43=>
 Z0 (Z4 false 1 t43 H) fun t44=>
 Z0 (Yp cfg (Za cfg) x1 [t41,t44] H) fun r45=>
 Zl r45.1
 (Z0 (Zn 1 x7 (.int .i64 0)) fun t48=>
 Z0 (Z4 false 1 t48 r45.2) fun t49=>
 Z0 ((ZF 1 [(0,t49)] [(.str [])]).map (.vs 1 .clip)) fun t50=>
 Z0 (Y6 1 16 x8 t50 r45.2) fun r51=>
 Z0 (YE 1 x7 (some (.int .i64 1)) none none) fun t53=>
 Yk x1 x6 t53 r51.1 H0 r51.2)
 (Z0 (Zn 1 x6 (.int .i64 0)) fun t56=>
 Z0 (Z4 false 1 t56 r45.2) fun t57=>
 Z0 ((ZF 1 [(0,t57)] [(.str [])]).map (.vs 1 .clip)) fun t58=>
 Z0 (Y6 1 16 x8 t58 r45.2) fun r59=>
 Z0 (YE 1 x6 (some (.int .i64 1)) none none) fun t61=>
 Yk x1 t61 x7 r59.1 H0 r59.2):=Zb [3,7,12] (by kernel_rfl)
theorem Yx:Yk x1 x6 x7 x8 H0 H =
 Z0 (Zk (.slice 9) x6) fun t31=>
 Z0 (Z5 .gtr t31 (.int .i64 0)) fun t32=>
 Z0 (Z6 t32 true (.tuple []) (some x7)) fun t34=>
 Z0 (Z6 t32 true (.tuple []) (Zk (.slice 9) t34)) fun t35=>
 Z0 (Z6 t32 true (.tuple []) (Z5 .gtr t35 (.int .i64 0))) fun t36=>
 Z0 (Zg t32 t36 (.bool false)) fun t37=>
 Zl t37
 (VU x1 x6 x7 x8 H0 H)
 (VT x6 x7 x8 H0 H):=(ZB (C:=cfg) [3,7,12] (Zo 0 (JO H0)) _ _).trans (by kernel_rfl)
theorem G7:VS x0 x1 H0 H =
 Z0 (Zk (.slice 9) x0) fun t15=>
 Z0 (Z5 .quo t15 (.int .i64 2)) fun t16=>
 Z0 (YE 1 x0 none (some t16) none) fun t19=>
 Z0 (Ze Yq [t19,x1] H) fun r21=>
 Z0 (YE 1 x0 (some t16) none none) fun t24=>
 Z0 (Ze Yq [t24,x1] r21.2) fun r26=>
 Z0 (Zk (.slice 9) x0) fun t28=>
 Z0 (JD 1 16 false (.str []) (.int .i64 0) t28 r26.2) fun r29=>
 Yk x1 r21.1 r26.1 r29.1 H0 r29.2:=Zb [3,7,12] (by kernel_rfl)
theorem Xn:Yq [p0,p1] H=YR p0 p1 H:=(Zc (C:=cfg) (fn:=Tryz.f83) (c:=Z1 Tryz.f83) (n:=67) [3,7,12] Tryz.func83 (by kernel_rfl) (by kernel_rfl) [p0,p1] (by kernel_rfl) H).trans (by kernel_rfl)
def TT:Z3:=
 Z0 (Z4 true 6 p2 H) fun t7=>
 Z0 (Z4 true 5 p3 H) fun t8=>
 Z0 (Ze VG [t7,t8,p0,p1] H) fun r11=>
 Z0 (Z5 .gtr r11.1 (.int .i64 0)) fun t12=>
 some (t12,r11.2)
theorem Ca:TL [p0,p1,p2,p3] H=TT p0 p1 p2 p3 H:=(Zc (C:=cfg) (fn:=Tryz.f84) (c:=Z1 Tryz.f84) (n:=13) [] Tryz.func84 (by kernel_rfl) (by kernel_rfl) [p0,p1,p2,p3] (by kernel_rfl) H).trans (by kernel_rfl)
def TU:Z3:=
 Z0 (Z4 true 6 p2 H) fun t7=>
 Z0 (Z4 true 5 p3 H) fun t8=>
 Z0 (Ze XU [t7,t8,p0,p1] H) fun r11=>
 Z0 (Z5 .eql r11.1 (.int .i64 0)) fun t12=>
 some (t12,r11.2)
theorem Cb:TM [p0,p1,p2,p3] H=TU p0 p1 p2 p3 H:=(Zc (C:=cfg) (fn:=Tryz.f85) (c:=Z1 Tryz.f85) (n:=13) [] Tryz.func85 (by kernel_rfl) (by kernel_rfl) [p0,p1,p2,p3] (by kernel_rfl) H).trans (by kernel_rfl)
end
end Go.Am
