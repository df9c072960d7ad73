/-
  The functions of the translation over the abstract machine, a further part: written by program (wip/gen.py).
-/
import Derived.Test.YtehanadfidoodaaGreatDoorNkGx
namespace Go.Am
open Go.Proofs
set_option maxRecDepth 100000
set_option linter.unusedVariables false
set_option linter.unusedSimpArgs false
noncomputable abbrev WO (f n:Nat):=Yl cfg (Za cfg) (Ya cfg (cfg.keep f) n) (cfg.keep f) n Zc Z6
noncomputable abbrev Zb0 (f n:Nat):=Ya cfg (cfg.keep f) n
noncomputable section
abbrev ZdP (f n:Nat)(F:Func)(p:List Nat):KL→AL→Hp→Z3:=fun k al H=>WO f n (sub (Z1 F) p) k (ZX (cfg.keep f) (sub (Z1 F) p) al) H
abbrev PO (f n:Nat)(F:Func)(p:List Nat):KL→AL→Hp→Z3:=fun k al H=>Zb0 f n (sub (Z1 F) p) k (ZX (cfg.keep f) (sub (Z1 F) p) al) H
variable (p0 p1 p2 p3 x0 x1 x2 x3 x4 x5 x6 x7 x8 x9 x10 x11 x12 x25 x26 x27 x28:AV)(H0 H:Hp)
def Qn:Z3:=WO 19 50 (sub (Z1 Tryz.f19) [1,1,1,1,1,1,1]) (Zh cfg 50 19 Tryz.f19 H0) [(9,x9)] H
def Qm:Z3:=WO 19 50 (sub (Z1 Tryz.f19) [1,1,1,1,1,1]) (Zh cfg 50 19 Tryz.f19 H0) [(3,x3),(4,x4),(9,x9)] H
def Qo:KL:=Zc (ZdP 19 50 Tryz.f19 [1,1,1,1,1,1]) (Zh cfg 50 19 Tryz.f19 H0)
theorem EF:ZR 50 (Qo H0):=Zu (C:=cfg) (kp:=cfg.keep 19) (sub (Z1 Tryz.f19) [1,1,1,1,1,1]) (Zx 19 Tryz.f19 H0)
def Ns:Z3:=WO 19 50 (sub (Z1 Tryz.f19) [1,1,1,1,1,0,1,0,0,1,1]) (Zc (PO 19 50 Tryz.f19 [1,1,1,1,1,0,1,0,0]) (Z6 0 (Qo H0))) [(3,x3),(4,x4),(7,x7),(8,x8),(9,x9)] H
def Nr:Z3:=WO 19 50 (sub (Z1 Tryz.f19) [1,1,1,1,1,0,1,0,0,1]) (Zc (PO 19 50 Tryz.f19 [1,1,1,1,1,0,1,0,0]) (Z6 0 (Qo H0))) [(3,x3),(4,x4),(7,x7),(8,x8),(9,x9),(10,x10)] H
def Qp:Z3:=Zb0 19 50 (sub (Z1 Tryz.f19) [1,1,1,1,1,0,1,0,0]) (Z6 0 (Qo H0)) [(3,x3),(4,x4),(7,x7),(8,x8),(9,x9),(10,x10)] H
def Nq:Z3:=WO 19 50 (sub (Z1 Tryz.f19) [1,1]) (Zh cfg 50 19 Tryz.f19 H0) [(2,x2),(3,x3),(4,x4)] H
def D1:Z3:=
 Z0 (Y4 p0 H) fun r3=>
 Z0 (Y4 p1 r3.2) fun r4=>
 Z0 (Z4 true 5 r4.1 r4.2) fun t11=>
 Z0 (Ze XT [t11] r4.2) fun r12=>
 Z0 (Z5 .neq r12.1 (.int .i64 0)) fun t13=>
 Zm t13
 (Z0 (XA [p2] r12.2) fun r15=>
 Nk H r15.1 r15.2)
 (Nq p2 r3.1 r4.1 H r12.2)
theorem HT:Qn x9 H0 H =
 Nk H0 x9 H:=Zb [3,8,9,11,13] (by kernel_rfl)
theorem HS:Qm x3 x4 x9 H0 H =
 Z0 (Z8 3 x4) fun t44=>
 Z0 (Z4 false 1 t44 H) fun t45=>
 Zm t45
 (Z0 (some (.fn (.func 71) [] [x3,x4])) fun t47=>
 Z0 (Ze XS [x9,t47] H) fun r48=>
 Qn r48.1 H0 r48.2)
 (Qn x9 H0 H):=Zb [3,8,9,11,13] (by kernel_rfl)
theorem HV:Ns x3 x4 x7 x8 x9 H0 H =
 Z0 (J8 [x8,x7] H) fun r26=>
 Qp x3 x4 x7 x8 x9 r26.1 H0 r26.2:=Zb [3,8,9,11,13] (by kernel_rfl)
theorem HU:Nr x3 x4 x7 x8 x9 x10 H0 H =
 Z0 (Zl 1 x8 x10) fun t30=>
 Z0 (Z4 false 1 t30 H) fun t31=>
 Z0 (Zl 1 t31 (.int .i64 0)) fun t32=>
 Z0 (Z4 false 1 t32 H) fun t33=>
 Z0 ((ZA 1 [(0,t33)] [(.str [])]).map (.vs 1 .clip)) fun t34=>
 Z0 (Y7 1 16 x9 t34 H) fun r35=>
 Z0 (Zl 1 x8 x10) fun t40=>
 Z0 (Z4 false 1 t40 r35.2) fun t41=>
 Z0 (YF 1 t41 (some (.int .i64 1)) none none) fun t42=>
 Z0 (Zl 1 x8 x10) fun t43=>
 Z0 (Zi 1 t43 t42 r35.2) fun r_23=>
 Ns x3 x4 x7 x8 r35.1 H0 r_23.2:=Zb [3,8,9,11,13] (by kernel_rfl)
theorem Fb:Qp x3 x4 x7 x8 x9 x10 H0 H =
 Z0 (Z5 .geq x10 (.int .i64 0)) fun t23=>
 Zm t23
 (Nr x3 x4 x7 x8 x9 x10 H0 H)
 (Qm x3 x4 x9 H0 H):=(Zy (C:=cfg) [3,8,9,11,13] (Zn 0 (EF H0)) _ _).trans (by kernel_rfl)
theorem HR:Nq x2 x3 x4 H0 H =
 YU x3 H fun z3 z3H=>
 YU x4 z3H fun z4 z4H=>
 Z0 (some (.fn (.func 66) [] [z3,z4])) fun t16=>
 Z0 (XP [x2] z4H) fun r18=>
 Z0 (J8 [r18.1,t16] r18.2) fun r21=>
 Qp z3 z4 t16 r18.1 .nils r21.1 H0 r21.2:=Zb [3,8,9,11,13] (by kernel_rfl)
theorem Rj:U1 [p0,p1,p2] H=D1 p0 p1 p2 H:=(Zd (C:=cfg) (fn:=Tryz.f19) (c:=Z1 Tryz.f19) (n:=50) [3,8,9,11,13] Tryz.func19 (by kernel_rfl) (by kernel_rfl) [p0,p1,p2] (by kernel_rfl) H).trans (by kernel_rfl)
def DE:Z3:=WO 34 22 (sub (Z1 Tryz.f34) [1,1,1,1]) (Zh cfg 22 34 Tryz.f34 H0) [(7,x7)] H
def L8:Z3:=WO 34 22 (sub (Z1 Tryz.f34) [1,1]) (Zh cfg 22 34 Tryz.f34 H0) [(2,x2),(3,x3),(4,x4)] H
def Ec:Z3:=
 Z0 (Y4 p0 H) fun r3=>
 Z0 (Y4 p1 r3.2) fun r4=>
 Z0 (Z4 true 5 r4.1 r4.2) fun t8=>
 Z0 (Ze XT [t8] r4.2) fun r9=>
 Z0 (Z5 .neq r9.1 (.int .i64 0)) fun t10=>
 Zm t10
 (Z0 (Ze Yd [p2] r9.2) fun r12=>
 some (r12.1,r12.2))
 (L8 p2 r3.1 r4.1 H r9.2)
theorem RF:DE x7 H0 H =
 some (x7,H):=Zb [3,6] (by kernel_rfl)
theorem Oa:L8 x2 x3 x4 H0 H =
 YU x3 H fun z3 z3H=>
 YU x4 z3H fun z4 z4H=>
 Z0 (some (.fn (.func 84) [] [z3,z4])) fun t14=>
 Z0 (Ze Yp [x2,t14] z4H) fun r15=>
 Z0 (Z8 3 z4) fun t16=>
 Z0 (Z4 false 1 t16 r15.2) fun t17=>
 Zm t17
 (Z0 (some (.fn (.func 85) [] [z3,z4])) fun t19=>
 Z0 (Ze XS [r15.1,t19] r15.2) fun r20=>
 DE r20.1 H0 r20.2)
 (DE r15.1 H0 r15.2):=Zb [3,6] (by kernel_rfl)
theorem OR:JY [p0,p1,p2] H=Ec p0 p1 p2 H:=(Zd (C:=cfg) (fn:=Tryz.f34) (c:=Z1 Tryz.f34) (n:=22) [3,6] Tryz.func34 (by kernel_rfl) (by kernel_rfl) [p0,p1,p2] (by kernel_rfl) H).trans (by kernel_rfl)
def Va:Z3:=WO 65 36 (sub (Z1 Tryz.f65) [1,1,1,1,1]) (Zh cfg 36 65 Tryz.f65 H0) [(6,x6)] H
def Yz:KL:=Zc (ZdP 65 36 Tryz.f65 [1,1,1,1,1]) (Zh cfg 36 65 Tryz.f65 H0)
theorem J4:ZR 36 (Yz H0):=Zu (C:=cfg) (kp:=cfg.keep 65) (sub (Z1 Tryz.f65) [1,1,1,1,1]) (Zx 65 Tryz.f65 H0)
def Vc:Z3:=WO 65 36 (sub (Z1 Tryz.f65) [1,1,1,1,0,1,0,0,1,1,1]) (Zc (PO 65 36 Tryz.f65 [1,1,1,1,0,1,0,0]) (Z6 2 (Yz H0))) [(6,x6),(25,x25),(26,x26),(27,x27)] H
def Vb:Z3:=WO 65 36 (sub (Z1 Tryz.f65) [1,1,1,1,0,1,0,0,1,1]) (Zc (PO 65 36 Tryz.f65 [1,1,1,1,0,1,0,0]) (Z6 2 (Yz H0))) [(6,x6),(25,x25),(26,x26),(27,x27),(28,x28)] H
def YB:Z3:=Zb0 65 36 (sub (Z1 Tryz.f65) [1,1,1,1,0,1,0,0]) (Z6 2 (Yz H0)) [(6,x6),(25,x25),(26,x26),(27,x27)] H
def Xr:Z3:=WO 65 36 (sub (Z1 Tryz.f65) [1,1,1]) (Zh cfg 36 65 Tryz.f65 H0) [(0,x0),(3,x3)] H
def YA:KL:=Zc (ZdP 65 36 Tryz.f65 [1,1,1]) (Zh cfg 36 65 Tryz.f65 H0)
theorem J5:ZR 36 (YA H0):=Zu (C:=cfg) (kp:=cfg.keep 65) (sub (Z1 Tryz.f65) [1,1,1]) (Zx 65 Tryz.f65 H0)
def Xs:Z3:=WO 65 36 (sub (Z1 Tryz.f65) [1,1,0,1,0,0,1,1,1]) (Zc (PO 65 36 Tryz.f65 [1,1,0,1,0,0]) (Z6 0 (YA H0))) [(0,x0),(3,x3),(9,x9),(10,x10),(11,x11)] H
def Vd:Z3:=WO 65 36 (sub (Z1 Tryz.f65) [1,1,0,1,0,0,1,1]) (Zc (PO 65 36 Tryz.f65 [1,1,0,1,0,0]) (Z6 0 (YA H0))) [(0,x0),(3,x3),(9,x9),(10,x10),(11,x11),(12,x12)] H
def YC:Z3:=Zb0 65 36 (sub (Z1 Tryz.f65) [1,1,0,1,0,0]) (Z6 0 (YA H0)) [(0,x0),(3,x3),(9,x9),(10,x10),(11,x11)] H
def Vp:Z3:=
 Z0 (Zk (.slice 32) p0) fun t10=>
 YC p0 (.int .i64 0) p0 t10 (.int .i64 0) H H
theorem JP:Va x6 H0 H =
 some (x6,H):=Zb [4,8,9,12,14,15] (by kernel_rfl)
theorem JR:Vc x6 x25 x26 x27 H0 H =
 Z0 (Z5 .add x27 (.int .i64 1)) fun t34=>
 YB x6 x25 x26 t34 H0 H:=Zb [4,8,9,12,14,15] (by kernel_rfl)
theorem JQ:Vb x6 x25 x26 x27 x28 H0 H =
 Z0 (Zl 1 x25 x27) fun t29=>
 Z0 (Z4 false 1 t29 H) fun t30=>
 Z0 (Y7 1 16 x6 t30 H) fun r33=>
 Vc r33.1 x25 x26 x27 H0 r33.2:=Zb [4,8,9,12,14,15] (by kernel_rfl)
theorem WB:YB x6 x25 x26 x27 H0 H =
 Z0 (Z5 .lss x27 x26) fun t28=>
 Zm t28
 (Vb x6 x25 x26 x27 t28 H0 H)
 (Va x6 H0 H):=(Zy (C:=cfg) [4,8,9,12,14,15] (Zn 2 (J4 H0)) _ _).trans (by kernel_rfl)
theorem JO:Xr x0 x3 H0 H =
 Z0 (growE.run [.nils,x3] H) fun r24=>
 Z0 (Zk (.slice 32) x0) fun t26=>
 YB r24.1 x0 t26 (.int .i64 0) H0 r24.2:=Zb [4,8,9,12,14,15] (by kernel_rfl)
theorem JT:Xs x0 x3 x9 x10 x11 H0 H =
 Z0 (Z5 .add x11 (.int .i64 1)) fun t22=>
 YC x0 x3 x9 x10 t22 H0 H:=Zb [4,8,9,12,14,15] (by kernel_rfl)
theorem JS:Vd x0 x3 x9 x10 x11 x12 H0 H =
 Z0 (Zl 1 x9 x11) fun t13=>
 Z0 (Z4 false 1 t13 H) fun t14=>
 Z0 (Zk (.slice 9) t14) fun t17=>
 Z0 (Z5 .add x3 t17) fun t18=>
 Z0 (Z5 .lss t18 (.int .i64 0)) fun t20=>
 Zm t20
 (Z0 ((none:Option AV)) fun t21=>
 Z0 ((none:Option AV)) fun tNone_17=>
 Xs x0 t18 x9 x10 x11 H0 H)
 (Xs x0 t18 x9 x10 x11 H0 H):=Zb [4,8,9,12,14,15] (by kernel_rfl)
theorem WC:YC x0 x3 x9 x10 x11 H0 H =
 Z0 (Z5 .lss x11 x10) fun t12=>
 Zm t12
 (Vd x0 x3 x9 x10 x11 t12 H0 H)
 (Xr x0 x3 H0 H):=(Zy (C:=cfg) [4,8,9,12,14,15] (Zn 0 (J5 H0)) _ _).trans (by kernel_rfl)
theorem K3:XA [p0] H=Vp p0 H:=(Zd (C:=cfg) (fn:=Tryz.f65) (c:=Z1 Tryz.f65) (n:=36) [4,8,9,12,14,15] Tryz.func65 (by kernel_rfl) (by kernel_rfl) [p0] (by kernel_rfl) H).trans (by kernel_rfl)
def Ti:Z3:=
 Z0 (Z4 true 6 p2 H) fun t7=>
 Z0 (Z4 true 5 p3 H) fun t8=>
 Z0 (Ze WF [t7,t8,p0,p1] H) fun r11=>
 Z0 (Z5 .gtr r11.1 (.int .i64 0)) fun t12=>
 some (t12,r11.2)
theorem S8:Tf [p0,p1,p2,p3] H=Ti p0 p1 p2 p3 H:=(Zd (C:=cfg) (fn:=Tryz.f66) (c:=Z1 Tryz.f66) (n:=13) [] Tryz.func66 (by kernel_rfl) (by kernel_rfl) [p0,p1,p2,p3] (by kernel_rfl) H).trans (by kernel_rfl)
def Vw:Z3:=WO 68 8 (sub (Z1 Tryz.f68) [1,1]) (Zh cfg 8 68 Tryz.f68 H0) [(0,x0)] H
def VP:Z3:=
 Z0 (Yn (.slice 32) .eql p0 .nils) fun t4=>
 Zm t4
 (some (.nils,H))
 (Vw p0 H H)
theorem Kv:Vw x0 H0 H =
 Z0 ((ZA 1 [] []).map (.vs 1 .clip)) fun t5=>
 Z0 (Gw false 1 24 t5 x0 H) fun r7=>
 some (r7.1,r7.2):=Zb [3] (by kernel_rfl)
theorem G2:XP [p0] H=VP p0 H:=(Zd (C:=cfg) (fn:=Tryz.f68) (c:=Z1 Tryz.f68) (n:=8) [3] Tryz.func68 (by kernel_rfl) (by kernel_rfl) [p0] (by kernel_rfl) H).trans (by kernel_rfl)
def Nt:Z3:=WO 69 38 (sub (Z1 Tryz.f69) [1,1,1]) (Zh cfg 38 69 Tryz.f69 H0) [(5,x5)] H
def Qr:KL:=Zc (ZdP 69 38 Tryz.f69 [1,1,1]) (Zh cfg 38 69 Tryz.f69 H0)
theorem EG:ZR 38 (Qr H0):=Zu (C:=cfg) (kp:=cfg.keep 69) (sub (Z1 Tryz.f69) [1,1,1]) (Zx 69 Tryz.f69 H0)
def Qq:Z3:=WO 69 38 (sub (Z1 Tryz.f69) [1,1,0,1,0,0,1,1,1]) (Zc (PO 69 38 Tryz.f69 [1,1,0,1,0,0]) (Z6 0 (Qr H0))) [(0,x0),(1,x1),(5,x5),(8,x8),(9,x9),(10,x10)] H
def Nu:Z3:=WO 69 38 (sub (Z1 Tryz.f69) [1,1,0,1,0,0,1,1]) (Zc (PO 69 38 Tryz.f69 [1,1,0,1,0,0]) (Z6 0 (Qr H0))) [(0,x0),(1,x1),(5,x5),(8,x8),(9,x9),(10,x10),(11,x11)] H
def Qs:Z3:=Zb0 69 38 (sub (Z1 Tryz.f69) [1,1,0,1,0,0]) (Z6 0 (Qr H0)) [(0,x0),(1,x1),(5,x5),(8,x8),(9,x9),(10,x10)] H
def Mm:Z3:=
 Z0 (Zk (.slice 32) p0) fun t9=>
 Qs p0 p1 (.int .i64 (-1)) p0 t9 (.int .i64 0) H H
theorem HW:Nt x5 H0 H =
 some (x5,H):=Zb [4,7,8] (by kernel_rfl)
theorem HY:Qq x0 x1 x5 x8 x9 x10 H0 H =
 Z0 (Z5 .add x10 (.int .i64 1)) fun t36=>
 Qs x0 x1 x5 x8 x9 t36 H0 H:=Zb [4,7,8] (by kernel_rfl)
theorem HX:Nu x0 x1 x5 x8 x9 x10 x11 H0 H =
 Z0 (Zl 1 x8 x10) fun t13=>
 Z0 (Z4 false 1 t13 H) fun t14=>
 Z0 (Zk (.slice 9) t14) fun t16=>
 Z0 (Z5 .gtr t16 (.int .i64 0)) fun t17=>
 Z0 (Z7 t17 true (.tuple []) (some x5)) fun t19=>
 Z0 (Z7 t17 true (.tuple []) (Z5 .lss t19 (.int .i64 0))) fun t20=>
 Z0 (Z7 t17 true (.tuple []) (some t20)) fun t21=>
 Z0 (Z7 t21 false (.tuple []) (some x1)) fun t22=>
 Z0 (Z7 t21 false (.tuple []) (some x0)) fun t23=>
 Z0 (Z7 t21 false (.tuple []) (some x5)) fun t24=>
 Z0 (Z7 t21 false (.tuple []) (Zl 1 t23 t24)) fun t25=>
 Z0 (Z7 t21 false (.tuple []) (Z4 false 1 t25 H)) fun t26=>
 Z0 (Z7 t21 false (.tuple []) (Zl 1 t26 (.int .i64 0))) fun t27=>
 Z0 (Z7 t21 false (.tuple []) (Z4 false 1 t27 H)) fun t28=>
 Z0 (Z7 t21 false (.tuple []) (some t14)) fun t29=>
 Z0 (Z7 t21 false (.tuple []) (Zl 1 t29 (.int .i64 0))) fun t30=>
 Z0 (Z7 t21 false (.tuple []) (Z4 false 1 t30 H)) fun t31=>
 Z0 (Z7 t21 false ((.tuple []),H) (Yf cfg (Za cfg) t22 [t28,t31] H)) fun r32=>
 Z0 (Z7 t17 true (.tuple []) (Zj t21 (.bool true) r32.1)) fun t33=>
 Z0 (Zj t17 t33 (.bool false)) fun t34=>
 Zm t34
 (Qq x0 x1 x10 x8 x9 x10 H0 r32.2)
 (Qq x0 x1 x5 x8 x9 x10 H0 r32.2):=Zb [4,7,8] (by kernel_rfl)
theorem Fc:Qs x0 x1 x5 x8 x9 x10 H0 H =
 Z0 (Z5 .lss x10 x9) fun t11=>
 Zm t11
 (Nu x0 x1 x5 x8 x9 x10 t11 H0 H)
 (Nt x5 H0 H):=(Zy (C:=cfg) [4,7,8] (Zn 0 (EG H0)) _ _).trans (by kernel_rfl)
theorem AM:J8 [p0,p1] H=Mm p0 p1 H:=(Zd (C:=cfg) (fn:=Tryz.f69) (c:=Z1 Tryz.f69) (n:=38) [4,7,8] Tryz.func69 (by kernel_rfl) (by kernel_rfl) [p0,p1] (by kernel_rfl) H).trans (by kernel_rfl)
def Jh:Z3:=WO 70 35 (sub (Z1 Tryz.f70) [1,1,1]) (Zh cfg 35 70 Tryz.f70 H0) [(5,x5)] H
def XL:KL:=Zc (ZdP 70 35 Tryz.f70 [1,1,1]) (Zh cfg 35 70 Tryz.f70 H0)
theorem DF:ZR 35 (XL H0):=Zu (C:=cfg) (kp:=cfg.keep 70) (sub (Z1 Tryz.f70) [1,1,1]) (Zx 70 Tryz.f70 H0)
def XK:Z3:=WO 70 35 (sub (Z1 Tryz.f70) [1,1,0,1,0,0,1,1,1]) (Zc (PO 70 35 Tryz.f70 [1,1,0,1,0,0]) (Z6 0 (XL H0))) [(1,x1),(5,x5),(8,x8),(9,x9),(10,x10)] H
def WY:Z3:=WO 70 35 (sub (Z1 Tryz.f70) [1,1,0,1,0,0,1,1]) (Zc (PO 70 35 Tryz.f70 [1,1,0,1,0,0]) (Z6 0 (XL H0))) [(1,x1),(5,x5),(8,x8),(9,x9),(10,x10),(11,x11)] H
def XM:Z3:=Zb0 70 35 (sub (Z1 Tryz.f70) [1,1,0,1,0,0]) (Z6 0 (XL H0)) [(1,x1),(5,x5),(8,x8),(9,x9),(10,x10)] H
def Jw:Z3:=
 Z0 (Zk (.slice 9) p0) fun t9=>
 XM p1 .nils p0 t9 (.int .i64 0) H H
theorem FT:Jh x5 H0 H =
 some (x5,H):=Zb [4,7,8] (by kernel_rfl)
theorem FV:XK x1 x5 x8 x9 x10 H0 H =
 Z0 (Z5 .add x10 (.int .i64 1)) fun t33=>
 XM x1 x5 x8 x9 t33 H0 H:=Zb [4,7,8] (by kernel_rfl)
theorem FU:WY x1 x5 x8 x9 x10 x11 H0 H =
 Z0 (Zl 1 x8 x10) fun t12=>
 Z0 (Z4 false 1 t12 H) fun t13=>
 Z0 (Zk (.slice 9) x5) fun t15=>
 Z0 (Z5 .eql t15 (.int .i64 0)) fun t16=>
 Z0 (Z7 t16 false (.tuple []) (some x1)) fun t18=>
 Z0 (Z7 t16 false (.tuple []) (some x5)) fun t19=>
 Z0 (Z7 t16 false (.tuple []) (some x5)) fun t20=>
 Z0 (Z7 t16 false (.tuple []) (Zk (.slice 9) t20)) fun t21=>
 Z0 (Z7 t16 false (.tuple []) (Z5 .sub t21 (.int .i64 1))) fun t22=>
 Z0 (Z7 t16 false (.tuple []) (Zl 1 t19 t22)) fun t23=>
 Z0 (Z7 t16 false (.tuple []) (Z4 false 1 t23 H)) fun t24=>
 Z0 (Z7 t16 false (.tuple []) (some t13)) fun t25=>
 Z0 (Z7 t16 false ((.tuple []),H) (Yf cfg (Za cfg) t18 [t24,t25] H)) fun r26=>
 Z0 (Z7 t16 false (.tuple []) (XF .not r26.1)) fun t27=>
 Z0 (Zj t16 (.bool true) t27) fun t28=>
 Zm t28
 (Z0 ((ZA 1 [(0,t13)] [(.str [])]).map (.vs 1 .clip)) fun t31=>
 Z0 (Y7 1 16 x5 t31 r26.2) fun r32=>
 XK x1 r32.1 x8 x9 x10 H0 r32.2)
 (XK x1 x5 x8 x9 x10 H0 r26.2):=Zb [4,7,8] (by kernel_rfl)
theorem UV:XM x1 x5 x8 x9 x10 H0 H =
 Z0 (Z5 .lss x10 x9) fun t11=>
 Zm t11
 (WY x1 x5 x8 x9 x10 t11 H0 H)
 (Jh x5 H0 H):=(Zy (C:=cfg) [4,7,8] (Zn 0 (DF H0)) _ _).trans (by kernel_rfl)
theorem Rk:XS [p0,p1] H=Jw p0 p1 H:=(Zd (C:=cfg) (fn:=Tryz.f70) (c:=Z1 Tryz.f70) (n:=35) [4,7,8] Tryz.func70 (by kernel_rfl) (by kernel_rfl) [p0,p1] (by kernel_rfl) H).trans (by kernel_rfl)
def Tj:Z3:=
 Z0 (Z4 true 6 p2 H) fun t7=>
 Z0 (Z4 true 5 p3 H) fun t8=>
 Z0 (Ze Xe [t7,t8,p0,p1] H) fun r11=>
 Z0 (Z5 .eql r11.1 (.int .i64 0)) fun t12=>
 some (t12,r11.2)
theorem S9:Tg [p0,p1,p2,p3] H=Tj p0 p1 p2 p3 H:=(Zd (C:=cfg) (fn:=Tryz.f71) (c:=Z1 Tryz.f71) (n:=13) [] Tryz.func71 (by kernel_rfl) (by kernel_rfl) [p0,p1,p2,p3] (by kernel_rfl) H).trans (by kernel_rfl)
def V9:Z3:=WO 76 8 (sub (Z1 Tryz.f76) [1,1]) (Zh cfg 8 76 Tryz.f76 H0) [(0,x0)] H
def Vo:Z3:=
 Z0 (Yn (.slice 9) .eql p0 .nils) fun t4=>
 Zm t4
 (some (.nils,H))
 (V9 p0 H H)
theorem JN:V9 x0 H0 H =
 Z0 ((ZA 1 [] []).map (.vs 1 .clip)) fun t5=>
 Z0 (Y7 1 16 t5 x0 H) fun r7=>
 some (r7.1,r7.2):=Zb [3] (by kernel_rfl)
theorem K2:Yd [p0] H=Vo p0 H:=(Zd (C:=cfg) (fn:=Tryz.f76) (c:=Z1 Tryz.f76) (n:=8) [3] Tryz.func76 (by kernel_rfl) (by kernel_rfl) [p0] (by kernel_rfl) H).trans (by kernel_rfl)
def Ue:Z3:=WO 83 67 (sub (Z1 Tryz.f83) [1,1,1,1,1,1]) (Zh cfg 67 83 Tryz.f83 H0) [(6,x6),(7,x7),(8,x8)] H
def W2:KL:=Zc (ZdP 83 67 Tryz.f83 [1,1,1,1,1,1]) (Zh cfg 67 83 Tryz.f83 H0)
theorem Kj:ZR 67 (W2 H0):=Zu (C:=cfg) (kp:=cfg.keep 83) (sub (Z1 Tryz.f83) [1,1,1,1,1,1]) (Zx 83 Tryz.f83 H0)
def Uf:Z3:=WO 83 67 (sub (Z1 Tryz.f83) [1,1,1,1,1,0,0,0,1]) (Zc (PO 83 67 Tryz.f83 [1,1,1,1,1,0,0,0]) (Z6 0 (W2 H0))) [(1,x1),(6,x6),(7,x7),(8,x8)] H
def Yk:Z3:=Zb0 83 67 (sub (Z1 Tryz.f83) [1,1,1,1,1,0,0,0]) (Z6 0 (W2 H0)) [(1,x1),(6,x6),(7,x7),(8,x8)] H
def Ud:Z3:=WO 83 67 (sub (Z1 Tryz.f83) [1,1]) (Zh cfg 67 83 Tryz.f83 H0) [(0,x0),(1,x1)] H
def YY:Z3:=
 Z0 (Zk (.slice 9) p0) fun t10=>
 Z0 (Z5 .lss t10 (.int .i64 2)) fun t11=>
 Zm t11
 (Z0 (Ze Yd [p0] H) fun r13=>
 some (r13.1,r13.2))
 (Ud p0 p1 H H)
theorem V7:Ue x6 x7 x8 H0 H =
 Z0 (Y7 1 16 x8 x6 H) fun r64=>
 Z0 (Y7 1 16 r64.1 x7 r64.2) fun r66=>
 some (r66.1,r66.2):=Zb [3,7,12] (by kernel_rfl)
theorem V8:Uf x1 x6 x7 x8 H0 H =
 Z0 (Zl 1 x6 (.int .i64 0)) fun t40=>
 Z0 (Z4 false 1 t40 H) fun t41=>
 Z0 (Zl 1 x7 (.int .i64 0)) fun t43=>
 Z0 (Z4 false 1 t43 H) fun t44=>
 Z0 (Yf cfg (Za cfg) x1 [t41,t44] H) fun r45=>
 Zm r45.1
 (Z0 (Zl 1 x7 (.int .i64 0)) fun t48=>
 Z0 (Z4 false 1 t48 r45.2) fun t49=>
 Z0 ((ZA 1 [(0,t49)] [(.str [])]).map (.vs 1 .clip)) fun t50=>
 Z0 (Y7 1 16 x8 t50 r45.2) fun r51=>
 Z0 (YF 1 x7 (some (.int .i64 1)) none none) fun t53=>
 Yk x1 x6 t53 r51.1 H0 r51.2)
 (Z0 (Zl 1 x6 (.int .i64 0)) fun t56=>
 Z0 (Z4 false 1 t56 r45.2) fun t57=>
 Z0 ((ZA 1 [(0,t57)] [(.str [])]).map (.vs 1 .clip)) fun t58=>
 Z0 (Y7 1 16 x8 t58 r45.2) fun r59=>
 Z0 (YF 1 x6 (some (.int .i64 1)) none none) fun t61=>
 Yk x1 t61 x7 r59.1 H0 r59.2):=Zb [3,7,12] (by kernel_rfl)
theorem Yy:Yk x1 x6 x7 x8 H0 H =
 Z0 (Zk (.slice 9) x6) fun t31=>
 Z0 (Z5 .gtr t31 (.int .i64 0)) fun t32=>
 Z0 (Z7 t32 true (.tuple []) (some x7)) fun t34=>
 Z0 (Z7 t32 true (.tuple []) (Zk (.slice 9) t34)) fun t35=>
 Z0 (Z7 t32 true (.tuple []) (Z5 .gtr t35 (.int .i64 0))) fun t36=>
 Z0 (Zj t32 t36 (.bool false)) fun t37=>
 Zm t37
 (Uf x1 x6 x7 x8 H0 H)
 (Ue x6 x7 x8 H0 H):=(Zy (C:=cfg) [3,7,12] (Zn 0 (Kj H0)) _ _).trans (by kernel_rfl)
theorem GJ:Ud x0 x1 H0 H =
 Z0 (Zk (.slice 9) x0) fun t15=>
 Z0 (Z5 .quo t15 (.int .i64 2)) fun t16=>
 Z0 (YF 1 x0 none (some t16) none) fun t19=>
 Z0 (Ze Yp [t19,x1] H) fun r21=>
 Z0 (YF 1 x0 (some t16) none none) fun t24=>
 Z0 (Ze Yp [t24,x1] r21.2) fun r26=>
 Z0 (Zk (.slice 9) x0) fun t28=>
 Z0 (K7 1 16 false (.str []) (.int .i64 0) t28 r26.2) fun r29=>
 Yk x1 r21.1 r26.1 r29.1 H0 r29.2:=Zb [3,7,12] (by kernel_rfl)
theorem XB:Yp [p0,p1] H=YY p0 p1 H:=(Zd (C:=cfg) (fn:=Tryz.f83) (c:=Z1 Tryz.f83) (n:=67) [3,7,12] Tryz.func83 (by kernel_rfl) (by kernel_rfl) [p0,p1] (by kernel_rfl) H).trans (by kernel_rfl)
def PD:Z3:=
 Z0 (Z4 true 6 p2 H) fun t7=>
 Z0 (Z4 true 5 p3 H) fun t8=>
 Z0 (Ze WF [t7,t8,p0,p1] H) fun r11=>
 Z0 (Z5 .gtr r11.1 (.int .i64 0)) fun t12=>
 some (t12,r11.2)
theorem Hz:Pv [p0,p1,p2,p3] H=PD p0 p1 p2 p3 H:=(Zd (C:=cfg) (fn:=Tryz.f84) (c:=Z1 Tryz.f84) (n:=13) [] Tryz.func84 (by kernel_rfl) (by kernel_rfl) [p0,p1,p2,p3] (by kernel_rfl) H).trans (by kernel_rfl)
def PE:Z3:=
 Z0 (Z4 true 6 p2 H) fun t7=>
 Z0 (Z4 true 5 p3 H) fun t8=>
 Z0 (Ze Xe [t7,t8,p0,p1] H) fun r11=>
 Z0 (Z5 .eql r11.1 (.int .i64 0)) fun t12=>
 some (t12,r11.2)
theorem HA:Pw [p0,p1,p2,p3] H=PE p0 p1 p2 p3 H:=(Zd (C:=cfg) (fn:=Tryz.f85) (c:=Z1 Tryz.f85) (n:=13) [] Tryz.func85 (by kernel_rfl) (by kernel_rfl) [p0,p1,p2,p3] (by kernel_rfl) H).trans (by kernel_rfl)
end
end Go.Am
