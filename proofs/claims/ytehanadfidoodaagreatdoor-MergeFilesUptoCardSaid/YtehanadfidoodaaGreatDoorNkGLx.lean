/-
  The functions of the translation over the abstract machine, a further part: written by program (wip/gen.py).
-/
import Derived.Test.YtehanadfidoodaaGreatDoorNkGx
namespace Go.Am
open Go.Proofs
set_option maxRecDepth 100000
set_option linter.unusedVariables false
set_option linter.unusedSimpArgs false
noncomputable abbrev ZZ (f n:Nat):=Yl cfg (Za cfg) (Ya cfg (cfg.keep f) n) (cfg.keep f) n Zc Z6
noncomputable abbrev FB (f n:Nat):=Ya cfg (cfg.keep f) n
noncomputable section
abbrev KX (f n:Nat)(F:Func)(p:List Nat):KL→AL→Hp→Z3:=fun k al H=>ZZ f n (sub (Z1 F) p) k (ZX (cfg.keep f) (sub (Z1 F) p) al) H
abbrev Wb (f n:Nat)(F:Func)(p:List Nat):KL→AL→Hp→Z3:=fun k al H=>FB f n (sub (Z1 F) p) k (ZX (cfg.keep f) (sub (Z1 F) p) al) H
variable (p0 p1 p2 p3 x0 x1 x2 x3 x4 x5 x6 x7 x8 x9 x10 x11 x12 x13 x14 x15 x16 x17 x20 x21 x22 x23 x31 x32 x33 x34:AV)(H0 H:Hp)
def Ts:Z3:=ZZ 14 119 (sub (Z1 Tryz.f14) [1,1,1,1,1,1,1,1]) (Zh cfg 119 14 Tryz.f14 H0) [(2,x2),(3,x3),(7,x7),(8,x8),(11,x11),(13,x13)] H
def G4:Z3:=ZZ 14 119 (sub (Z1 Tryz.f14) [1,1,1,1,1,1,1]) (Zh cfg 119 14 Tryz.f14 H0) [(2,x2),(3,x3),(7,x7),(8,x8),(9,x9),(10,x10),(11,x11),(12,x12),(13,x13)] H
def Uy:KL:=Zc (KX 14 119 Tryz.f14 [1,1,1,1,1,1,1]) (Zh cfg 119 14 Tryz.f14 H0)
theorem Lr:ZR 119 (Uy H0):=Zu (C:=cfg) (kp:=cfg.keep 14) (sub (Z1 Tryz.f14) [1,1,1,1,1,1,1]) (Zx 14 Tryz.f14 H0)
def Tu:Z3:=ZZ 14 119 (sub (Z1 Tryz.f14) [1,1,1,1,1,1,0,1,0,0,1,1]) (Zc (Wb 14 119 Tryz.f14 [1,1,1,1,1,1,0,1,0,0]) (Z6 0 (Uy H0))) [(2,x2),(3,x3),(7,x7),(8,x8),(9,x9),(10,x10),(11,x11),(12,x12),(13,x13),(14,x14)] H
def Tt:Z3:=ZZ 14 119 (sub (Z1 Tryz.f14) [1,1,1,1,1,1,0,1,0,0,1]) (Zc (Wb 14 119 Tryz.f14 [1,1,1,1,1,1,0,1,0,0]) (Z6 0 (Uy H0))) [(2,x2),(3,x3),(7,x7),(8,x8),(9,x9),(10,x10),(11,x11),(12,x12),(13,x13),(14,x14)] H
def Uz:Z3:=FB 14 119 (sub (Z1 Tryz.f14) [1,1,1,1,1,1,0,1,0,0]) (Z6 0 (Uy H0)) [(2,x2),(3,x3),(7,x7),(8,x8),(9,x9),(10,x10),(11,x11),(12,x12),(13,x13),(14,x14)] H
def Tr:Z3:=ZZ 14 119 (sub (Z1 Tryz.f14) [1,1]) (Zh cfg 119 14 Tryz.f14 H0) [(2,x2),(3,x3),(4,x4)] H
def PA:Z3:=
 Z0 (Y4 p0 H) fun r3=>
 Z0 (Y4 p1 r3.2) fun r4=>
 Z0 (Ze AC [p2] r4.2) fun r22=>
 Z0 (XF .not r22.1) fun t23=>
 Zm t23
 (Z0 (Ze Gm [] r22.2) fun r24=>
 some (r24.1,r24.2))
 (Tr p2 r3.1 r4.1 H r22.2)
theorem Sk:Ts x2 x3 x7 x8 x11 x13 H0 H =
 Z0 (some ((.ptr H.length 0),H++[.cells [.nils,(.int .i64 0),(.int .i64 0),(.bool false),(.bool false)]])) fun r15=>
 Z0 (Z8 1 r15.1) fun t73=>
 Z0 (Zi 1 t73 (.int .i64 (-2)) r15.2) fun r_20=>
 Z0 ((ZA 1 [(0,x11)] [(.str [])]).map (.vs 1 .clip)) fun t75=>
 YU x3 r_20.2 fun z3 z3H=>
 YU r15.1 z3H fun z15 z15H=>
 Z0 (YE true 6 z3) fun t77=>
 Z0 (YE true 5 z15) fun t78=>
 Z0 (VU [x7,t75] z15H) fun r81=>
 Z0 (Un [t77,t78,r81.1] r81.2) fun r82=>
 Z0 (Zk (.slice 9) x13) fun t84=>
 Z0 (Bw [r82.1,t84] r82.2) fun r85=>
 Z0 (ZK r85.1 0) fun t86=>
 Z0 (ZK r85.1 1) fun t87=>
 YU z3 r85.2 fun z3 z3H=>
 YU z15 z3H fun z15 z15H=>
 Z0 (YE true 6 z3) fun t89=>
 Z0 (YE true 5 z15) fun t90=>
 Z0 (VU [x7,x8] z15H) fun r93=>
 Z0 (Un [t89,t90,r93.1] r93.2) fun r94=>
 Z0 (Ze BV [x2] r94.2) fun r96=>
 Z0 (Zk (.slice 9) r96.1) fun t97=>
 Z0 (Bw [r94.1,t97] r96.2) fun r98=>
 Z0 (ZK r98.1 0) fun t99=>
 Z0 (ZK r98.1 1) fun t100=>
 Z0 (Z7 t87 true (.tuple []) (some t100)) fun t103=>
 Z0 (Zj t87 t103 (.bool false)) fun t104=>
 Z0 (Z7 t104 true (.tuple []) (some t86)) fun t106=>
 Z0 (Z7 t104 true (.tuple []) (some x13)) fun t107=>
 Z0 (Z7 t104 true ((.tuple []),r98.2) (Ze J7 [t106,t107] r98.2)) fun r108=>
 Z0 (Zj t104 r108.1 (.bool false)) fun t109=>
 Z0 (Z7 t109 true (.tuple []) (some t99)) fun t111=>
 Z0 (Z7 t109 true (.tuple []) (some x2)) fun t112=>
 Z0 (Z7 t109 true ((.tuple []),r108.2) (Ze BV [t112] r108.2)) fun r113=>
 Z0 (Z7 t109 true ((.tuple []),r113.2) (Ze J7 [t111,r113.1] r113.2)) fun r114=>
 Z0 (Zj t109 r114.1 (.bool false)) fun t115=>
 Z0 (Z7 t115 true ((.tuple []),r114.2) (Ze Gm [] r114.2)) fun r117=>
 Z0 (Zj t115 r117.1 (.bool false)) fun t118=>
 some (t118,r117.2):=Zb [3,9,10,11,13] (by kernel_rfl)
theorem Sj:G4 x2 x3 x7 x8 x9 x10 x11 x12 x13 H0 H =
 Z0 (XF .not x9) fun t62=>
 Z0 (Z7 t62 false (.tuple []) (some x12)) fun t64=>
 Z0 (Z7 t62 false (.tuple []) (Z5 .neq t64 (.int .i64 0))) fun t65=>
 Z0 (Zj t62 (.bool true) t65) fun t66=>
 Z0 (Z7 t66 false (.tuple []) (some x7)) fun t68=>
 Z0 (Z7 t66 false ((.tuple []),H) (JM WJ [t68] H)) fun r69=>
 Z0 (Z7 t66 false (.tuple []) (some x10)) fun t70=>
 Z0 (Z7 t66 false (.tuple []) (Z5 .neq r69.1 t70)) fun t71=>
 Z0 (Zj t66 (.bool true) t71) fun t72=>
 Zm t72
 (some ((.bool false),r69.2))
 (Ts x2 x3 x7 x8 x11 x13 H0 r69.2):=Zb [3,9,10,11,13] (by kernel_rfl)
theorem Sn:Tu x2 x3 x7 x8 x9 x10 x11 x12 x13 x14 H0 H =
 Z0 (Z5 .add x14 (.int .i64 1)) fun t52=>
 Uz x2 x3 x7 x8 x9 x10 x11 x12 x13 t52 H0 H:=Zb [3,9,10,11,13] (by kernel_rfl)
theorem Sm:Tt x2 x3 x7 x8 x9 x10 x11 x12 x13 x14 H0 H =
 Z0 (Zl 1 x13 x14) fun t56=>
 Z0 (Z4 false 1 t56 H) fun t57=>
 Z0 (Zk .string t57) fun t58=>
 Z0 (Z5 .add x10 t58) fun t59=>
 Z0 (Z5 .add t59 (.int .i64 6)) fun t60=>
 Tu x2 x3 x7 x8 x9 t60 x11 x12 x13 x14 H0 H:=Zb [3,9,10,11,13] (by kernel_rfl)
theorem D6:Uz x2 x3 x7 x8 x9 x10 x11 x12 x13 x14 H0 H =
 Z0 (Zk (.slice 9) x13) fun t49=>
 Z0 (Z5 .lss x14 t49) fun t50=>
 Zm t50
 (Tt x2 x3 x7 x8 x9 x10 x11 x12 x13 x14 H0 H)
 (G4 x2 x3 x7 x8 x9 x10 x11 x12 x13 H0 H):=(Zy (C:=cfg) [3,9,10,11,13] (Zn 0 (Lr H0)) _ _).trans (by kernel_rfl)
theorem Si:Tr x2 x3 x4 H0 H =
 Z0 (Z4 true 6 x3 H) fun t26=>
 Z0 (Z4 true 5 x4 H) fun t27=>
 Z0 (R1 [t26,t27,x2,(.bool false)] H) fun r29=>
 Z0 (ZK r29.1 0) fun t30=>
 Z0 (ZK r29.1 1) fun t31=>
 Z0 (ZK r29.1 2) fun t32=>
 Z0 (JM WJ [t30] r29.2) fun r34=>
 Z0 (Z4 true 6 x3 r34.2) fun t37=>
 Z0 (Z4 true 5 x4 r34.2) fun t38=>
 Z0 (RT [t30,t37,t38,t31] r34.2) fun r40=>
 Z0 (ZK r40.1 0) fun t41=>
 Z0 (ZK r40.1 1) fun t42=>
 Z0 (Z4 true 6 x3 r40.2) fun t43=>
 Z0 (Z4 true 5 x4 r40.2) fun t44=>
 Z0 (Ze U1 [t43,t44,x2] r40.2) fun r46=>
 Uz x2 x3 t30 t31 t32 r34.1 t41 t42 r46.1 (.int .i64 0) H0 r46.2:=Zb [3,9,10,11,13] (by kernel_rfl)
theorem Hv:Pr [p0,p1,p2] H=PA p0 p1 p2 H:=(Zd (C:=cfg) (fn:=Tryz.f14) (c:=Z1 Tryz.f14) (n:=119) [3,9,10,11,13] Tryz.func14 (by kernel_rfl) (by kernel_rfl) [p0,p1,p2] (by kernel_rfl) H).trans (by kernel_rfl)
def Hu:Z3:=ZZ 30 39 (sub (Z1 Tryz.f30) [1,1,1,1,1,1]) (Zh cfg 39 30 Tryz.f30 H0) [(10,x10)] H
def Ht:Z3:=ZZ 30 39 (sub (Z1 Tryz.f30) [1,1,1,1,1]) (Zh cfg 39 30 Tryz.f30 H0) [(0,x0),(10,x10)] H
def Hs:Z3:=ZZ 30 39 (sub (Z1 Tryz.f30) [1,1,1,1]) (Zh cfg 39 30 Tryz.f30 H0) [(0,x0),(3,x3),(5,x5),(6,x6),(10,x10)] H
def Hr:Z3:=ZZ 30 39 (sub (Z1 Tryz.f30) [1,1]) (Zh cfg 39 30 Tryz.f30 H0) [(0,x0),(3,x3),(5,x5),(6,x6)] H
def AP:Z3:=
 Z0 (Y4 p1 H) fun r5=>
 Z0 (Y4 p2 r5.2) fun r6=>
 Z0 (Yn (.pointer 117) .eql p0 .nilp) fun t13=>
 Zm t13
 (some ((.tuple [(.str []),(.int .i64 5)]),r6.2))
 (Hr p0 p3 r5.1 r6.1 H r6.2)
theorem ZbN:Hu x10 H0 H =
 some ((.tuple [x10,(.int .i64 0)]),H):=Zb [3,6,9,12] (by kernel_rfl)
theorem ZbM:Ht x0 x10 H0 H =
 Z0 (XC [x0,x10] H) fun r34=>
 Z0 (Z5 .neq r34.1 (.int .i64 0)) fun t36=>
 Zm t36
 (some ((.tuple [(.str []),r34.1]),r34.2))
 (Hu x10 H0 r34.2):=Zb [3,6,9,12] (by kernel_rfl)
theorem ZbL:Hs x0 x3 x5 x6 x10 H0 H =
 Z0 (Z4 true 6 x5 H) fun t24=>
 Z0 (Z4 true 5 x6 H) fun t25=>
 Z0 (Ze JY [t24,t25,x3] H) fun r27=>
 Z0 (Xi [x0,x10,r27.1] r27.2) fun r28=>
 Z0 (Z5 .neq r28.1 (.int .i64 0)) fun t30=>
 Zm t30
 (some ((.tuple [(.str []),r28.1]),r28.2))
 (Ht x0 x10 H0 r28.2):=Zb [3,6,9,12] (by kernel_rfl)
theorem ZbK:Hr x0 x3 x5 x6 H0 H =
 Z0 (XU [x0] H) fun r16=>
 Z0 (ZK r16.1 0) fun t17=>
 Z0 (ZK r16.1 1) fun t18=>
 Z0 (Z5 .neq t18 (.int .i64 0)) fun t20=>
 Zm t20
 (some ((.tuple [(.str []),t18]),r16.2))
 (Hs x0 x3 x5 x6 t17 H0 r16.2):=Zb [3,6,9,12] (by kernel_rfl)
theorem Zc1:Pz [p0,p1,p2,p3] H=AP p0 p1 p2 p3 H:=(Zd (C:=cfg) (fn:=Tryz.f30) (c:=Z1 Tryz.f30) (n:=39) [3,6,9,12] Tryz.func30 (by kernel_rfl) (by kernel_rfl) [p0,p1,p2,p3] (by kernel_rfl) H).trans (by kernel_rfl)
def Og:Z3:=ZZ 32 11 (sub (Z1 Tryz.f32) [1,1]) (Zh cfg 11 32 Tryz.f32 H0) [(0,x0),(1,x1)] H
def Zau:Z3:=
 Z0 (Yn (.pointer 117) .eql p0 .nilp) fun t6=>
 Zm t6
 (some (.nilp,H))
 (Og p0 p1 H H)
theorem Zdy:Og x0 x1 H0 H =
 Z0 ((YZ [(0,1,x0),(1,1,x1)] [.nilp,(.str []),(.int .i64 0),(.bool false),(.bool false),(.str [])]).map .agg) fun t9=>
 Z0 (Y4 t9 H) fun r10=>
 some (r10.1,r10.2):=Zb [3] (by kernel_rfl)
theorem ZdY:R4 [p0,p1] H=Zau p0 p1 H:=(Zd (C:=cfg) (fn:=Tryz.f32) (c:=Z1 Tryz.f32) (n:=11) [3] Tryz.func32 (by kernel_rfl) (by kernel_rfl) [p0,p1] (by kernel_rfl) H).trans (by kernel_rfl)
def J3:Z3:=ZZ 33 24 (sub (Z1 Tryz.f33) [1,1,1]) (Zh cfg 24 33 Tryz.f33 H0) [(5,x5),(6,x6),(7,x7)] H
def Rl:Z3:=
 Z0 (Wu [p0] H) fun r10=>
 Z0 (ZK r10.1 0) fun t11=>
 Z0 (ZK r10.1 1) fun t12=>
 Z0 (ZK r10.1 2) fun t13=>
 Zm t12
 (Z0 (ZH p0) fun t17=>
 Z0 (Z8 3 t17) fun t18=>
 Z0 (Zi 1 t18 (.bool false) r10.2) fun r_7=>
 Z0 (ZH p0) fun t19=>
 Z0 (Z8 5 t19) fun t20=>
 Z0 (Zi 1 t20 (.str []) r_7.2) fun r_10=>
 J3 t11 t12 t13 H r_10.2)
 (J3 t11 t12 t13 H r10.2)
theorem GK:J3 x5 x6 x7 H0 H =
 some ((.tuple [x5,x6,x7]),H):=Zb [4] (by kernel_rfl)
theorem Ee:Jt [p0] H=Rl p0 H:=(Zd (C:=cfg) (fn:=Tryz.f33) (c:=Z1 Tryz.f33) (n:=24) [4] Tryz.func33 (by kernel_rfl) (by kernel_rfl) [p0] (by kernel_rfl) H).trans (by kernel_rfl)
def Fe:Z3:=ZZ 36 68 (sub (Z1 Tryz.f36) [1,1,1,1]) (Zh cfg 68 36 Tryz.f36 H0) [(0,x0)] H
def VM:Z3:=ZZ 36 68 (sub (Z1 Tryz.f36) [1,1,1]) (Zh cfg 68 36 Tryz.f36 H0) [(0,x0)] H
def Fd:Z3:=ZZ 36 68 (sub (Z1 Tryz.f36) [1,1]) (Zh cfg 68 36 Tryz.f36 H0) [(0,x0)] H
def Jx:Z3:=
 Z0 (Yn (.pointer 125) .eql p0 .nilp) fun t9=>
 Zm t9
 (some ((.tuple [(.str []),(.bool false),(.int .i64 5)]),H))
 (Fd p0 H H)
theorem GL:Fe x0 H0 H =
 Z0 (ZH x0) fun t65=>
 Z0 (Z8 5 t65) fun t66=>
 Z0 (Z4 false 1 t66 H) fun t67=>
 some ((.tuple [t67,(.bool true),(.int .i64 0)]),H):=Zb [3,11,13] (by kernel_rfl)
theorem YO:VM x0 H0 H =
 Z0 (ZH x0) fun t60=>
 Z0 (Z8 3 t60) fun t61=>
 Z0 (Z4 false 1 t61 H) fun t62=>
 Z0 (XF .not t62) fun t63=>
 Zm t63
 (some ((.tuple [(.str []),(.bool false),(.int .i64 0)]),H))
 (Fe x0 H0 H):=Zb [3,11,13] (by kernel_rfl)
theorem YN:Fd x0 H0 H =
 Z0 (ZH x0) fun t11=>
 Z0 (Z8 3 t11) fun t12=>
 Z0 (Z4 false 1 t12 H) fun t13=>
 Z0 (XF .not t13) fun t14=>
 Z0 (Z7 t14 true (.tuple []) (some x0)) fun t16=>
 Z0 (Z7 t14 true (.tuple []) (ZH t16)) fun t17=>
 Z0 (Z7 t14 true (.tuple []) (Z8 4 t17)) fun t18=>
 Z0 (Z7 t14 true (.tuple []) (Z4 false 1 t18 H)) fun t19=>
 Z0 (Z7 t14 true (.tuple []) (XF .not t19)) fun t20=>
 Z0 (Zj t14 t20 (.bool false)) fun t21=>
 Zm t21
 (Z0 (ZH x0) fun t24=>
 Z0 (Z8 0 t24) fun t25=>
 Z0 (Z4 false 1 t25 H) fun t26=>
 Z0 (ZH x0) fun t28=>
 Z0 (Z8 1 t28) fun t29=>
 Z0 (Z4 false 1 t29 H) fun t30=>
 Z0 (ZH x0) fun t32=>
 Z0 (Z8 2 t32) fun t33=>
 Z0 (Z4 false 1 t33 H) fun t34=>
 Z0 (WI [t26,t30,t34] H) fun r35=>
 Z0 (ZK r35.1 0) fun t36=>
 Z0 (ZK r35.1 1) fun t37=>
 Z0 (ZK r35.1 2) fun t38=>
 Z0 (Z5 .eql t38 (.int .i64 0)) fun t42=>
 Zm t42
 (Z0 (ZH x0) fun t48=>
 Z0 (Z8 5 t48) fun t49=>
 Z0 (Zi 1 t49 t36 r35.2) fun r_34=>
 Z0 (ZH x0) fun t50=>
 Z0 (Z8 2 t50) fun t51=>
 Z0 (Zi 1 t51 t37 r_34.2) fun r_37=>
 Z0 (ZH x0) fun t52=>
 Z0 (Z8 3 t52) fun t53=>
 Z0 (Zi 1 t53 (.bool true) r_37.2) fun r_40=>
 VM x0 H0 r_40.2)
 (Z0 (Z5 .eql t38 (.int .i64 5)) fun t55=>
 Zm t55
 (Z0 (ZH x0) fun t57=>
 Z0 (Z8 4 t57) fun t58=>
 Z0 (Zi 1 t58 (.bool true) r35.2) fun r_44=>
 VM x0 H0 r_44.2)
 (some ((.tuple [(.str []),(.bool false),t38]),r35.2))))
 (VM x0 H0 H):=Zb [3,11,13] (by kernel_rfl)
theorem Bz:Wu [p0] H=Jx p0 H:=(Zd (C:=cfg) (fn:=Tryz.f36) (c:=Z1 Tryz.f36) (n:=68) [3,11,13] Tryz.func36 (by kernel_rfl) (by kernel_rfl) [p0] (by kernel_rfl) H).trans (by kernel_rfl)
def Zc8:Z3:=ZZ 41 38 (sub (Z1 Tryz.f41) [1,1]) (Zh cfg 38 41 Tryz.f41 H0) [(0,x0)] H
def D8:KL:=Zc (KX 41 38 Tryz.f41 [1,1]) (Zh cfg 38 41 Tryz.f41 H0)
theorem Mu:ZR 38 (D8 H0):=Zu (C:=cfg) (kp:=cfg.keep 41) (sub (Z1 Tryz.f41) [1,1]) (Zx 41 Tryz.f41 H0)
def So:Z3:=ZZ 41 38 (sub (Z1 Tryz.f41) [1,0,1,0,0,1,1]) (Zc (Wb 41 38 Tryz.f41 [1,0,1,0,0]) (Z6 0 (D8 H0))) [(0,x0),(3,x3)] H
def Sp:KL:=Zc (KX 41 38 Tryz.f41 [1,0,1,0,0,1,1]) (Zc (Wb 41 38 Tryz.f41 [1,0,1,0,0]) (Z6 0 (D8 H0)))
theorem Zcd:ZR 38 (Sp H0):=Zu (C:=cfg) (kp:=cfg.keep 41) (sub (Z1 Tryz.f41) [1,0,1,0,0,1,1]) (Lg (C:=cfg) (kp:=cfg.keep 41) (sub (Z1 Tryz.f41) [1,0,1,0,0]) (Zn 0 (Mu H0)))
def Zca:Z3:=ZZ 41 38 (sub (Z1 Tryz.f41) [1,0,1,0,0,1,0,0,1]) (Z6 1 (Sp H0)) [(0,x0),(3,x3)] H
def TT:KL:=Zc (KX 41 38 Tryz.f41 [1,0,1,0,0,1,0,0,1]) (Z6 1 (Sp H0))
theorem Zce:ZR 38 (TT H0):=Zu (C:=cfg) (kp:=cfg.keep 41) (sub (Z1 Tryz.f41) [1,0,1,0,0,1,0,0,1]) (Zn 1 (Zcd H0))
def Zcc:Z3:=ZZ 41 38 (sub (Z1 Tryz.f41) [1,0,1,0,0,1,0,0,0,1,0,0,1,1]) (Zc (Wb 41 38 Tryz.f41 [1,0,1,0,0,1,0,0,0,1,0,0]) (Z6 2 (TT H0))) [(0,x0),(3,x3),(4,x4)] H
def Zcb:Z3:=ZZ 41 38 (sub (Z1 Tryz.f41) [1,0,1,0,0,1,0,0,0,1,0,0,1]) (Zc (Wb 41 38 Tryz.f41 [1,0,1,0,0,1,0,0,0,1,0,0]) (Z6 2 (TT H0))) [(0,x0),(3,x3),(4,x4)] H
def D9:Z3:=FB 41 38 (sub (Z1 Tryz.f41) [1,0,1,0,0,1,0,0,0,1,0,0]) (Z6 2 (TT H0)) [(0,x0),(3,x3),(4,x4)] H
def Zc9:Z3:=ZZ 41 38 (sub (Z1 Tryz.f41) [1,0,1,0,0,1]) (Zc (Wb 41 38 Tryz.f41 [1,0,1,0,0]) (Z6 0 (D8 H0))) [(0,x0),(3,x3)] H
def TU:Z3:=FB 41 38 (sub (Z1 Tryz.f41) [1,0,1,0,0]) (Z6 0 (D8 H0)) [(0,x0),(3,x3)] H
def Zez:Z3:=
 TU p0 (.int .i64 0) H H
theorem Zfu:Zc8 x0 H0 H =
 Z0 (Zk (.slice 32) x0) fun t36=>
 Z0 (Z5 .leq t36 (.int .i64 8)) fun t37=>
 some (t37,H):=Zb [3,4,6,7,9,11] (by kernel_rfl)
theorem Zfw:So x0 x3 H0 H =
 Z0 (Z5 .add x3 (.int .i64 1)) fun t10=>
 TU x0 t10 H0 H:=Zb [3,4,6,7,9,11] (by kernel_rfl)
theorem Zfx:Zca x0 x3 H0 H =
 Z0 (Zl 1 x0 x3) fun t31=>
 Z0 (Z4 false 1 t31 H) fun t32=>
 Z0 (Zk (.slice 9) t32) fun t33=>
 Z0 (Z5 .gtr t33 (.int .i64 30)) fun t34=>
 Zm t34
 (some ((.bool false),H))
 (So x0 x3 H0 H):=Zb [3,4,6,7,9,11] (by kernel_rfl)
theorem Zfz:Zcc x0 x3 x4 H0 H =
 Z0 (Z5 .add x4 (.int .i64 1)) fun t19=>
 D9 x0 x3 t19 H0 H:=Zb [3,4,6,7,9,11] (by kernel_rfl)
theorem Zfy:Zcb x0 x3 x4 H0 H =
 Z0 (Zl 1 x0 x3) fun t22=>
 Z0 (Z4 false 1 t22 H) fun t23=>
 Z0 (Zl 1 t23 x4) fun t25=>
 Z0 (Z4 false 1 t25 H) fun t26=>
 Z0 (Zk .string t26) fun t27=>
 Z0 (Z5 .gtr t27 (.int .i64 200)) fun t28=>
 Zm t28
 (some ((.bool false),H))
 (Zcc x0 x3 x4 H0 H):=Zb [3,4,6,7,9,11] (by kernel_rfl)
theorem CP:D9 x0 x3 x4 H0 H =
 Z0 (Zl 1 x0 x3) fun t14=>
 Z0 (Z4 false 1 t14 H) fun t15=>
 Z0 (Zk (.slice 9) t15) fun t16=>
 Z0 (Z5 .lss x4 t16) fun t17=>
 Zm t17
 (Zcb x0 x3 x4 H0 H)
 (Zca x0 x3 H0 H):=(Zy (C:=cfg) [3,4,6,7,9,11] (Zn 2 (Zce H0)) _ _).trans (by kernel_rfl)
theorem Zfv:Zc9 x0 x3 H0 H =
 D9 x0 x3 (.int .i64 0) H0 H:=Zb [3,4,6,7,9,11] (by kernel_rfl)
theorem CO:TU x0 x3 H0 H =
 Z0 (Zk (.slice 32) x0) fun t7=>
 Z0 (Z5 .lss x3 t7) fun t8=>
 Zm t8
 (Zc9 x0 x3 H0 H)
 (Zc8 x0 H0 H):=(Zy (C:=cfg) [3,4,6,7,9,11] (Zn 0 (Mu H0)) _ _).trans (by kernel_rfl)
theorem Zgd:AC [p0] H=Zez p0 H:=(Zd (C:=cfg) (fn:=Tryz.f41) (c:=Z1 Tryz.f41) (n:=38) [3,4,6,7,9,11] Tryz.func41 (by kernel_rfl) (by kernel_rfl) [p0] (by kernel_rfl) H).trans (by kernel_rfl)
def AZ:Z3:=ZZ 42 70 (sub (Z1 Tryz.f42) [1,1,1,1]) (Zh cfg 70 42 Tryz.f42 H0) [(11,x11),(12,x12),(13,x13)] H
def JA:KL:=Zc (KX 42 70 Tryz.f42 [1,1,1,1]) (Zh cfg 70 42 Tryz.f42 H0)
theorem OV:ZR 70 (JA H0):=Zu (C:=cfg) (kp:=cfg.keep 42) (sub (Z1 Tryz.f42) [1,1,1,1]) (Zx 42 Tryz.f42 H0)
def I0:Z3:=ZZ 42 70 (sub (Z1 Tryz.f42) [1,1,1,0,1,0,0,1,1]) (Zc (Wb 42 70 Tryz.f42 [1,1,1,0,1,0,0]) (Z6 0 (JA H0))) [(2,x2),(3,x3),(4,x4),(5,x5),(11,x11),(12,x12),(13,x13),(14,x14)] H
def I1:KL:=Zc (KX 42 70 Tryz.f42 [1,1,1,0,1,0,0,1,1]) (Zc (Wb 42 70 Tryz.f42 [1,1,1,0,1,0,0]) (Z6 0 (JA H0)))
def Jz:Z3:=ZZ 42 70 (sub (Z1 Tryz.f42) [1,1,1,0,1,0,0,1,0,0,1,1]) (Z6 1 (I1 H0)) [(2,x2),(3,x3),(4,x4),(5,x5),(11,x11),(12,x12),(13,x13),(14,x14),(15,x15)] H
def Zge:KL:=Zc (KX 42 70 Tryz.f42 [1,1,1,0,1,0,0,1,0,0,1,1]) (Z6 1 (I1 H0))
def PM:Z3:=ZZ 42 70 (sub (Z1 Tryz.f42) [1,1,1,0,1,0,0,1,0,0,1,0,1,1,1,1]) (Zge H0) [(2,x2),(3,x3),(4,x4),(5,x5),(11,x11),(12,x12),(13,x13),(14,x14),(15,x15)] H
def PL:Z3:=ZZ 42 70 (sub (Z1 Tryz.f42) [1,1,1,0,1,0,0,1]) (Zc (Wb 42 70 Tryz.f42 [1,1,1,0,1,0,0]) (Z6 0 (JA H0))) [(2,x2),(3,x3),(4,x4),(5,x5),(11,x11),(13,x13),(14,x14)] H
def Da:Z3:=FB 42 70 (sub (Z1 Tryz.f42) [1,1,1,0,1,0,0]) (Z6 0 (JA H0)) [(2,x2),(3,x3),(4,x4),(5,x5),(11,x11),(12,x12),(13,x13),(14,x14)] H
def Zan:Z3:=
 Z0 (Y4 p0 H) fun r4=>
 Z0 (Y4 p1 r4.2) fun r5=>
 Z0 (Lk [(.int .i64 262144)] r5.2) fun r17=>
 Z0 (Ja [r17.1,(.str [109,101,114,103,101]),(.int .i64 262144)] r17.2) fun r18=>
 Z0 (ZK r18.1 0) fun t19=>
 Z0 (ZK r18.1 1) fun t20=>
 Da p2 p3 r4.1 r5.1 t19 t20 .nils (.int .i64 0) H r18.2
theorem Zcf:AZ x11 x12 x13 H0 H =
 Z0 (Z5 .eql x12 (.int .i64 0)) fun t69=>
 some ((.tuple [x11,x13,t69]),H):=Zb [5,6,12,14,15] (by kernel_rfl)
theorem Zcg:I0 x2 x3 x4 x5 x11 x12 x13 x14 H0 H =
 Z0 (Z5 .add x14 (.int .i64 1)) fun t30=>
 Da x2 x3 x4 x5 x11 x12 x13 t30 H0 H:=Zb [5,6,12,14,15] (by kernel_rfl)
theorem Zch:Jz x2 x3 x4 x5 x11 x12 x13 x14 x15 H0 H =
 Z0 ((ZA 1 [(0,x15)] [(.str [])]).map (.vs 1 .clip)) fun t64=>
 Z0 (Y7 1 16 x13 t64 H) fun r65=>
 I0 x2 x3 x4 x5 x11 x12 r65.1 x14 H0 r65.2:=Zb [5,6,12,14,15] (by kernel_rfl)
theorem Zci:PM x2 x3 x4 x5 x11 x12 x13 x14 x15 H0 H =
 Z0 (Z5 .eql x12 (.int .i64 0)) fun t58=>
 Zm t58
 (Z0 (XC [x11,x15] H) fun r61=>
 Jz x2 x3 x4 x5 x11 r61.1 x13 x14 x15 H0 r61.2)
 (Jz x2 x3 x4 x5 x11 x12 x13 x14 x15 H0 H):=Zb [5,6,12,14,15] (by kernel_rfl)
theorem Mv:PL x2 x3 x4 x5 x11 x13 x14 H0 H =
 Zm x3
 (Z0 (Z4 true 6 x4 H) fun t34=>
 Z0 (Z4 true 5 x5 H) fun t35=>
 Z0 (Zl 1 x2 x14) fun t38=>
 Z0 (Z4 false 1 t38 H) fun t39=>
 Z0 (Pz [x11,t34,t35,t39] H) fun r40=>
 Z0 (ZK r40.1 0) fun t41=>
 Z0 (ZK r40.1 1) fun t42=>
 Jz x2 x3 x4 x5 x11 t42 x13 x14 t41 H0 r40.2)
 (Z0 (XU [x11] H) fun r45=>
 Z0 (ZK r45.1 0) fun t46=>
 Z0 (ZK r45.1 1) fun t47=>
 Z0 (Z5 .eql t47 (.int .i64 0)) fun t49=>
 Zm t49
 (Z0 (Zl 1 x2 x14) fun t54=>
 Z0 (Z4 false 1 t54 r45.2) fun t55=>
 Z0 (Xi [x11,t46,t55] r45.2) fun r56=>
 PM x2 x3 x4 x5 x11 r56.1 x13 x14 t46 H0 r56.2)
 (PM x2 x3 x4 x5 x11 t47 x13 x14 t46 H0 r45.2)):=Zb [5,6,12,14,15] (by kernel_rfl)
theorem Mw:Da x2 x3 x4 x5 x11 x12 x13 x14 H0 H =
 Z0 (Zk (.slice 32) x2) fun t23=>
 Z0 (Z5 .lss x14 t23) fun t24=>
 Z0 (Z7 t24 true (.tuple []) (some x12)) fun t26=>
 Z0 (Z7 t24 true (.tuple []) (Z5 .eql t26 (.int .i64 0))) fun t27=>
 Z0 (Zj t24 t27 (.bool false)) fun t28=>
 Zm t28
 (PL x2 x3 x4 x5 x11 x13 x14 H0 H)
 (AZ x11 x12 x13 H0 H):=(Zy (C:=cfg) [5,6,12,14,15] (Zn 0 (OV H0)) _ _).trans (by kernel_rfl)
theorem ZdR:R1 [p0,p1,p2,p3] H=Zan p0 p1 p2 p3 H:=(Zd (C:=cfg) (fn:=Tryz.f42) (c:=Z1 Tryz.f42) (n:=70) [5,6,12,14,15] Tryz.func42 (by kernel_rfl) (by kernel_rfl) [p0,p1,p2,p3] (by kernel_rfl) H).trans (by kernel_rfl)
def Zjx:Z3:=ZZ 43 56 (sub (Z1 Tryz.f43) [1,1,1]) (Zh cfg 56 43 Tryz.f43 H0) [(6,x6)] H
def D7:KL:=Zc (KX 43 56 Tryz.f43 [1,1,1]) (Zh cfg 56 43 Tryz.f43 H0)
theorem Zc6:ZR 56 (D7 H0):=Zu (C:=cfg) (kp:=cfg.keep 43) (sub (Z1 Tryz.f43) [1,1,1]) (Zx 43 Tryz.f43 H0)
def Zc3:Z3:=ZZ 43 56 (sub (Z1 Tryz.f43) [1,1,0,1,0,0,1,1]) (Zc (Wb 43 56 Tryz.f43 [1,1,0,1,0,0]) (Z6 0 (D7 H0))) [(0,x0),(1,x1),(6,x6),(7,x7)] H
def Zc7:KL:=Zc (KX 43 56 Tryz.f43 [1,1,0,1,0,0,1,1]) (Zc (Wb 43 56 Tryz.f43 [1,1,0,1,0,0]) (Z6 0 (D7 H0)))
def Zc5:Z3:=ZZ 43 56 (sub (Z1 Tryz.f43) [1,1,0,1,0,0,1,0,0,1,1,1]) (Z6 1 (Zc7 H0)) [(0,x0),(1,x1),(6,x6),(7,x7),(8,x8)] H
def Zc4:Z3:=ZZ 43 56 (sub (Z1 Tryz.f43) [1,1,0,1,0,0,1,0,0,1,1]) (Z6 1 (Zc7 H0)) [(0,x0),(1,x1),(6,x6),(7,x7),(8,x8),(9,x9)] H
def Zc2:Z3:=ZZ 43 56 (sub (Z1 Tryz.f43) [1,1,0,1,0,0,1]) (Zc (Wb 43 56 Tryz.f43 [1,1,0,1,0,0]) (Z6 0 (D7 H0))) [(0,x0),(1,x1),(6,x6),(7,x7)] H
def TS:Z3:=FB 43 56 (sub (Z1 Tryz.f43) [1,1,0,1,0,0]) (Z6 0 (D7 H0)) [(0,x0),(1,x1),(6,x6),(7,x7)] H
def Zey:Z3:=
 TS p0 p1 .nils (.int .i64 0) H H
theorem Zfs:Zc3 x0 x1 x6 x7 H0 H =
 Z0 (Z5 .add x7 (.int .i64 1)) fun t18=>
 TS x0 x1 x6 t18 H0 H:=Zb [4,5,8,11,12] (by kernel_rfl)
theorem Zft:Zc5 x0 x1 x6 x7 x8 H0 H =
 Z0 ((ZA 1 [(0,x8)] [(.str [])]).map (.vs 1 .clip)) fun t53=>
 Z0 (Y7 1 16 x6 t53 H) fun r54=>
 Zc3 x0 x1 r54.1 x7 H0 r54.2:=Zb [4,5,8,11,12] (by kernel_rfl)
theorem RV:Zc4 x0 x1 x6 x7 x8 x9 H0 H =
 Z0 (XF .not x9) fun t29=>
 Zm t29
 (Z0 (Wi [x0] H) fun r32=>
 Z0 (ZK r32.1 0) fun t33=>
 Z0 (ZK r32.1 1) fun t34=>
 Z0 (ZK r32.1 2) fun t35=>
 Z0 (Yx .eql x8 (.str [])) fun t38=>
 Z0 (Z7 t38 true (.tuple []) (some t33)) fun t40=>
 Z0 (Z7 t38 true (.tuple []) (Yx .eql t40 (.str []))) fun t41=>
 Z0 (Zj t38 t41 (.bool false)) fun t42=>
 Z0 (Z7 t42 true (.tuple []) (some t34)) fun t44=>
 Z0 (Z7 t42 true (.tuple []) (XF .not t44)) fun t45=>
 Z0 (Zj t42 t45 (.bool false)) fun t46=>
 Z0 (Z7 t46 true (.tuple []) (some t35)) fun t48=>
 Z0 (Z7 t46 true (.tuple []) (Z5 .eql t48 (.int .i64 0))) fun t49=>
 Z0 (Zj t46 t49 (.bool false)) fun t50=>
 some ((.tuple [x6,t50]),r32.2))
 (Zc5 x0 x1 x6 x7 x8 H0 H):=Zb [4,5,8,11,12] (by kernel_rfl)
theorem RU:Zc2 x0 x1 x6 x7 H0 H =
 Z0 (Wi [x0] H) fun r21=>
 Z0 (ZK r21.1 0) fun t22=>
 Z0 (ZK r21.1 1) fun t23=>
 Z0 (ZK r21.1 2) fun t24=>
 Z0 (Z5 .neq t24 (.int .i64 0)) fun t26=>
 Zm t26
 (some ((.tuple [x6,(.bool false)]),r21.2))
 (Zc4 x0 x1 x6 x7 t22 t23 H0 r21.2):=Zb [4,5,8,11,12] (by kernel_rfl)
theorem RW:TS x0 x1 x6 x7 H0 H =
 Z0 (Z5 .leq x7 x1) fun t16=>
 Zm t16
 (Zc2 x0 x1 x6 x7 H0 H)
 (Zjx x6 H0 H):=(Zy (C:=cfg) [4,5,8,11,12] (Zn 0 (Zc6 H0)) _ _).trans (by kernel_rfl)
theorem Zgc:Bw [p0,p1] H=Zey p0 p1 H:=(Zd (C:=cfg) (fn:=Tryz.f43) (c:=Z1 Tryz.f43) (n:=56) [4,5,8,11,12] Tryz.func43 (by kernel_rfl) (by kernel_rfl) [p0,p1] (by kernel_rfl) H).trans (by kernel_rfl)
def Zat:Z3:=
 Z0 (Y4 p0 H) fun r3=>
 Z0 (Y4 p1 r3.2) fun r4=>
 Z0 (Z8 0 r4.1) fun t7=>
 Z0 (Z4 false 1 t7 r4.2) fun t8=>
 Z0 (Y7 5 40 .nils t8 r4.2) fun r9=>
 Z0 (Z8 0 r4.1) fun t10=>
 Z0 (Zi 1 t10 r9.1 r9.2) fun r_7=>
 YU r4.1 r_7.2 fun z4 z4H=>
 Z0 (Z4 true 6 r3.1 z4H) fun t11=>
 Z0 (Ze JZ [t11] z4H) fun r12=>
 Z0 (YE true 5 z4) fun t13=>
 Z0 (Z4 true 5 z4 r12.2) fun t14=>
 Z0 (Ze XT [t14] r12.2) fun r15=>
 Z0 (Z5 .eql r15.1 (.int .i64 0)) fun t16=>
 Z0 (Y7 1 8 .nils p2 r15.2) fun r18=>
 Z0 ((YZ [(0,6,r12.1),(6,5,t13),(11,1,t16),(12,1,r18.1)] [(.str []),.nils,(.str []),(.str []),.nils,.nils,.nils,(.int .i64 0),(.int .i64 0),(.bool false),(.bool false),(.bool false),.nils,(.str []),(.bool false)]).map .agg) fun t19=>
 Z0 (Y4 t19 r18.2) fun r20=>
 some (r20.1,r20.2)
theorem ZdX:Un [p0,p1,p2] H=Zat p0 p1 p2 H:=(Zd (C:=cfg) (fn:=Tryz.f44) (c:=Z1 Tryz.f44) (n:=21) [] Tryz.func44 (by kernel_rfl) (by kernel_rfl) [p0,p1,p2] (by kernel_rfl) H).trans (by kernel_rfl)
def El:Z3:=ZZ 45 23 (sub (Z1 Tryz.f45) [1,1,1]) (Zh cfg 23 45 Tryz.f45 H0) [(5,x5)] H
def K4:KL:=Zc (KX 45 23 Tryz.f45 [1,1,1]) (Zh cfg 23 45 Tryz.f45 H0)
theorem HE:ZR 23 (K4 H0):=Zu (C:=cfg) (kp:=cfg.keep 45) (sub (Z1 Tryz.f45) [1,1,1]) (Zx 45 Tryz.f45 H0)
def En:Z3:=ZZ 45 23 (sub (Z1 Tryz.f45) [1,1,0,1,0,0,1,1]) (Zc (Wb 45 23 Tryz.f45 [1,1,0,1,0,0]) (Z6 0 (K4 H0))) [(0,x0),(1,x1),(5,x5),(6,x6)] H
def Em:Z3:=ZZ 45 23 (sub (Z1 Tryz.f45) [1,1,0,1,0,0,1]) (Zc (Wb 45 23 Tryz.f45 [1,1,0,1,0,0]) (Z6 0 (K4 H0))) [(0,x0),(1,x1),(5,x5),(6,x6)] H
def K5:Z3:=FB 45 23 (sub (Z1 Tryz.f45) [1,1,0,1,0,0]) (Z6 0 (K4 H0)) [(0,x0),(1,x1),(5,x5),(6,x6)] H
def CJ:Z3:=
 K5 p0 p1 .nils (.int .i64 0) H H
theorem OW:El x5 H0 H =
 some (x5,H):=Zb [4,5,6] (by kernel_rfl)
theorem OY:En x0 x1 x5 x6 H0 H =
 Z0 (Z5 .add x6 (.int .i64 1)) fun t12=>
 K5 x0 x1 x5 t12 H0 H:=Zb [4,5,6] (by kernel_rfl)
theorem OX:Em x0 x1 x5 x6 H0 H =
 Z0 (Zl 1 x1 x6) fun t17=>
 Z0 (Z4 false 1 t17 H) fun t18=>
 Z0 (R4 [x0,t18] H) fun r19=>
 Z0 ((ZA 1 [(0,r19.1)] [.nilp]).map (.vs 1 .clip)) fun t20=>
 Z0 (Y7 1 8 x5 t20 r19.2) fun r21=>
 En x0 x1 r21.1 x6 H0 r21.2:=Zb [4,5,6] (by kernel_rfl)
theorem Tv:K5 x0 x1 x5 x6 H0 H =
 Z0 (Zk (.slice 9) x1) fun t9=>
 Z0 (Z5 .lss x6 t9) fun t10=>
 Zm t10
 (Em x0 x1 x5 x6 H0 H)
 (El x5 H0 H):=(Zy (C:=cfg) [4,5,6] (Zn 0 (HE H0)) _ _).trans (by kernel_rfl)
theorem ZaR:VU [p0,p1] H=CJ p0 p1 H:=(Zd (C:=cfg) (fn:=Tryz.f45) (c:=Z1 Tryz.f45) (n:=23) [4,5,6] Tryz.func45 (by kernel_rfl) (by kernel_rfl) [p0,p1] (by kernel_rfl) H).trans (by kernel_rfl)
def CQ:Z3:=ZZ 46 18 (sub (Z1 Tryz.f46) [1,1,1]) (Zh cfg 18 46 Tryz.f46 H0) [(3,x3)] H
def GY:KL:=Zc (KX 46 18 Tryz.f46 [1,1,1]) (Zh cfg 18 46 Tryz.f46 H0)
theorem I2:ZR 18 (GY H0):=Zu (C:=cfg) (kp:=cfg.keep 46) (sub (Z1 Tryz.f46) [1,1,1]) (Zx 46 Tryz.f46 H0)
def CS:Z3:=ZZ 46 18 (sub (Z1 Tryz.f46) [1,1,0,1,0,0,1,1]) (Zc (Wb 46 18 Tryz.f46 [1,1,0,1,0,0]) (Z6 0 (GY H0))) [(0,x0),(3,x3),(4,x4)] H
def CR:Z3:=ZZ 46 18 (sub (Z1 Tryz.f46) [1,1,0,1,0,0,1]) (Zc (Wb 46 18 Tryz.f46 [1,1,0,1,0,0]) (Z6 0 (GY H0))) [(0,x0),(3,x3),(4,x4)] H
def GZ:Z3:=FB 46 18 (sub (Z1 Tryz.f46) [1,1,0,1,0,0]) (Z6 0 (GY H0)) [(0,x0),(3,x3),(4,x4)] H
def AD:Z3:=
 GZ p0 .nils (.int .i64 0) H H
theorem ZaX:CQ x3 H0 H =
 some (x3,H):=Zb [4,5,6] (by kernel_rfl)
theorem ZaZ:CS x0 x3 x4 H0 H =
 Z0 (Z5 .add x4 (.int .i64 1)) fun t10=>
 GZ x0 x3 t10 H0 H:=Zb [4,5,6] (by kernel_rfl)
theorem ZaY:CR x0 x3 x4 H0 H =
 Z0 (Zl 1 x0 x4) fun t14=>
 Z0 (Z4 false 1 t14 H) fun t15=>
 Z0 (Y7 1 16 x3 t15 H) fun r16=>
 CS x0 r16.1 x4 H0 r16.2:=Zb [4,5,6] (by kernel_rfl)
theorem PN:GZ x0 x3 x4 H0 H =
 Z0 (Zk (.slice 32) x0) fun t7=>
 Z0 (Z5 .lss x4 t7) fun t8=>
 Zm t8
 (CR x0 x3 x4 H0 H)
 (CQ x3 H0 H):=(Zy (C:=cfg) [4,5,6] (Zn 0 (I2 H0)) _ _).trans (by kernel_rfl)
theorem ZbV:BV [p0] H=AD p0 H:=(Zd (C:=cfg) (fn:=Tryz.f46) (c:=Z1 Tryz.f46) (n:=18) [4,5,6] Tryz.func46 (by kernel_rfl) (by kernel_rfl) [p0] (by kernel_rfl) H).trans (by kernel_rfl)
def PR:Z3:=ZZ 47 26 (sub (Z1 Tryz.f47) [1,1,1]) (Zh cfg 26 47 Tryz.f47 H0) [] H
def Q9:KL:=Zc (KX 47 26 Tryz.f47 [1,1,1]) (Zh cfg 26 47 Tryz.f47 H0)
theorem Eo:ZR 26 (Q9 H0):=Zu (C:=cfg) (kp:=cfg.keep 47) (sub (Z1 Tryz.f47) [1,1,1]) (Zx 47 Tryz.f47 H0)
def PT:Z3:=ZZ 47 26 (sub (Z1 Tryz.f47) [1,1,0,1,0,0,1,1]) (Zc (Wb 47 26 Tryz.f47 [1,1,0,1,0,0]) (Z6 0 (Q9 H0))) [(0,x0),(1,x1),(5,x5)] H
def PS:Z3:=ZZ 47 26 (sub (Z1 Tryz.f47) [1,1,0,1,0,0,1]) (Zc (Wb 47 26 Tryz.f47 [1,1,0,1,0,0]) (Z6 0 (Q9 H0))) [(0,x0),(1,x1),(5,x5)] H
def Qa:Z3:=FB 47 26 (sub (Z1 Tryz.f47) [1,1,0,1,0,0]) (Z6 0 (Q9 H0)) [(0,x0),(1,x1),(5,x5)] H
def PQ:Z3:=ZZ 47 26 (sub (Z1 Tryz.f47) [1,1]) (Zh cfg 26 47 Tryz.f47 H0) [(0,x0),(1,x1)] H
def Mj:Z3:=
 Z0 (Zk (.slice 9) p0) fun t7=>
 Z0 (Zk (.slice 9) p1) fun t9=>
 Z0 (Z5 .neq t7 t9) fun t10=>
 Zm t10
 (some ((.bool false),H))
 (PQ p0 p1 H H)
theorem HG:PR H0 H =
 some ((.bool true),H):=Zb [3,5,6,8] (by kernel_rfl)
theorem HI:PT x0 x1 x5 H0 H =
 Z0 (Z5 .add x5 (.int .i64 1)) fun t16=>
 Qa x0 x1 t16 H0 H:=Zb [3,5,6,8] (by kernel_rfl)
theorem HH:PS x0 x1 x5 H0 H =
 Z0 (Zl 1 x0 x5) fun t19=>
 Z0 (Z4 false 1 t19 H) fun t20=>
 Z0 (Zl 1 x1 x5) fun t23=>
 Z0 (Z4 false 1 t23 H) fun t24=>
 Z0 (Yx .neq t20 t24) fun t25=>
 Zm t25
 (some ((.bool false),H))
 (PT x0 x1 x5 H0 H):=Zb [3,5,6,8] (by kernel_rfl)
theorem DZ:Qa x0 x1 x5 H0 H =
 Z0 (Zk (.slice 9) x0) fun t13=>
 Z0 (Z5 .lss x5 t13) fun t14=>
 Zm t14
 (PS x0 x1 x5 H0 H)
 (PR H0 H):=(Zy (C:=cfg) [3,5,6,8] (Zn 0 (Eo H0)) _ _).trans (by kernel_rfl)
theorem HF:PQ x0 x1 H0 H =
 Qa x0 x1 (.int .i64 0) H0 H:=Zb [3,5,6,8] (by kernel_rfl)
theorem AE:J7 [p0,p1] H=Mj p0 p1 H:=(Zd (C:=cfg) (fn:=Tryz.f47) (c:=Z1 Tryz.f47) (n:=26) [3,5,6,8] Tryz.func47 (by kernel_rfl) (by kernel_rfl) [p0,p1] (by kernel_rfl) H).trans (by kernel_rfl)
def Qu:Z3:=ZZ 59 61 (sub (Z1 Tryz.f59) [1,1,0,0,0,1,1,1]) (Z6 1 (Zc (Wb 59 61 Tryz.f59 [1,1,0,0]) (Z6 0 (Zh cfg 61 59 Tryz.f59 H0)))) [(0,x0),(5,x5)] H
def Qt:Z3:=ZZ 59 61 (sub (Z1 Tryz.f59) [1,1,0,0,0,1,1]) (Z6 1 (Zc (Wb 59 61 Tryz.f59 [1,1,0,0]) (Z6 0 (Zh cfg 61 59 Tryz.f59 H0)))) [(0,x0),(5,x5)] H
def W3:Z3:=FB 59 61 (sub (Z1 Tryz.f59) [1,1,0,0]) (Z6 0 (Zh cfg 61 59 Tryz.f59 H0)) [(0,x0)] H
def DH:Z3:=ZZ 59 61 (sub (Z1 Tryz.f59) [1,1]) (Zh cfg 61 59 Tryz.f59 H0) [(0,x0)] H
def DV:Z3:=
 Z0 (Yn (.pointer 134) .eql p0 .nilp) fun t9=>
 Zm t9
 (some ((.tuple [(.str []),(.bool false),(.int .i64 5)]),H))
 (DH p0 H H)
theorem Mf:Qu x0 x5 H0 H =
 Z0 (ZH x0) fun t56=>
 Z0 (Z8 14 t56) fun t57=>
 Z0 (Zi 1 t57 (.bool true) H) fun r_7=>
 Z0 (ZH x0) fun t58=>
 Z0 (Z8 13 t58) fun t59=>
 Z0 (Zi 1 t59 x5 r_7.2) fun r_10=>
 some ((.tuple [x5,(.bool true),(.int .i64 0)]),r_10.2):=Zb [3,6,7] (by kernel_rfl)
theorem Me:Qt x0 x5 H0 H =
 Z0 (ZH x0) fun t20=>
 Z0 (Z8 14 t20) fun t21=>
 Z0 (Z4 false 1 t21 H) fun t22=>
 Z0 (Z7 t22 true (.tuple []) (some x0)) fun t24=>
 Z0 (Z7 t22 true (.tuple []) (ZH t24)) fun t25=>
 Z0 (Z7 t22 true (.tuple []) (Z8 11 t25)) fun t26=>
 Z0 (Z7 t22 true (.tuple []) (Z4 false 1 t26 H)) fun t27=>
 Z0 (Zj t22 t27 (.bool false)) fun t28=>
 Z0 (Z7 t28 true (.tuple []) (some x0)) fun t30=>
 Z0 (Z7 t28 true (.tuple []) (ZH t30)) fun t31=>
 Z0 (Z7 t28 true (.tuple []) (Z8 6 t31)) fun t32=>
 Z0 (Z7 t28 true (.tuple []) (Z8 3 t32)) fun t33=>
 Z0 (Z7 t28 true (.tuple []) (Z4 false 1 t33 H)) fun t34=>
 Z0 (Zj t28 t34 (.bool false)) fun t35=>
 Z0 (Z7 t35 true (.tuple []) (some x0)) fun t37=>
 Z0 (Z7 t35 true (.tuple []) (ZH t37)) fun t38=>
 Z0 (Z7 t35 true (.tuple []) (Z8 0 t38)) fun t39=>
 Z0 (Z7 t35 true (.tuple []) (Z4 true 6 t39 H)) fun t40=>
 Z0 (Z7 t35 true (.tuple []) (some x0)) fun t41=>
 Z0 (Z7 t35 true (.tuple []) (ZH t41)) fun t42=>
 Z0 (Z7 t35 true (.tuple []) (Z8 6 t42)) fun t43=>
 Z0 (Z7 t35 true (.tuple []) (Z4 true 5 t43 H)) fun t44=>
 Z0 (Z7 t35 true (.tuple []) (some x0)) fun t45=>
 Z0 (Z7 t35 true (.tuple []) (ZH t45)) fun t46=>
 Z0 (Z7 t35 true (.tuple []) (Z8 13 t46)) fun t47=>
 Z0 (Z7 t35 true (.tuple []) (Z4 false 1 t47 H)) fun t48=>
 Z0 (Z7 t35 true (.tuple []) (some x5)) fun t49=>
 Z0 (Z7 t35 true ((.tuple []),H) (Ze Xe [t40,t44,t48,t49] H)) fun r50=>
 Z0 (Z7 t35 true (.tuple []) (Z5 .eql r50.1 (.int .i64 0))) fun t51=>
 Z0 (Zj t35 t51 (.bool false)) fun t52=>
 Zm t52
 (W3 x0 H0 r50.2)
 (Qu x0 x5 H0 r50.2):=Zb [3,6,7] (by kernel_rfl)
theorem We:W3 x0 H0 H =
 Z0 (VE [x0] H) fun r12=>
 Z0 (ZK r12.1 0) fun t13=>
 Z0 (ZK r12.1 1) fun t14=>
 Z0 (ZK r12.1 2) fun t15=>
 Z0 (XF .not t14) fun t17=>
 Zm t17
 (some ((.tuple [(.str []),(.bool false),t15]),r12.2))
 (Qt x0 t13 H0 r12.2):=(Zy (C:=cfg) [3,6,7] (Zn 0 (Zx 59 Tryz.f59 H0)) _ _).trans (by kernel_rfl)
theorem Md:DH x0 H0 H =
 W3 x0 H0 H:=Zb [3,6,7] (by kernel_rfl)
theorem Ln:Wi [p0] H=DV p0 H:=(Zd (C:=cfg) (fn:=Tryz.f59) (c:=Z1 Tryz.f59) (n:=61) [3,6,7] Tryz.func59 (by kernel_rfl) (by kernel_rfl) [p0] (by kernel_rfl) H).trans (by kernel_rfl)
def EK:Z3:=ZZ 60 74 (sub (Z1 Tryz.f60) [1,1,1,1,1,1,1,1,1]) (Zh cfg 74 60 Tryz.f60 H0) [(10,x10)] H
def FX:Z3:=ZZ 60 74 (sub (Z1 Tryz.f60) [1,1,1,1,1,1,1,1]) (Zh cfg 74 60 Tryz.f60 H0) [(0,x0),(10,x10)] H
def Km:KL:=Zc (KX 60 74 Tryz.f60 [1,1,1,1,1,1,1,1]) (Zh cfg 74 60 Tryz.f60 H0)
theorem HZ:ZR 74 (Km H0):=Zu (C:=cfg) (kp:=cfg.keep 60) (sub (Z1 Tryz.f60) [1,1,1,1,1,1,1,1]) (Zx 60 Tryz.f60 H0)
def EM:Z3:=ZZ 60 74 (sub (Z1 Tryz.f60) [1,1,1,1,1,1,1,0,0,0,0,1,1,1]) (Z6 3 (Zc (Wb 60 74 Tryz.f60 [1,1,1,1,1,1,1,0,0,0]) (Z6 2 (Km H0)))) [(0,x0),(10,x10),(15,x15),(16,x16)] H
def EL:Z3:=ZZ 60 74 (sub (Z1 Tryz.f60) [1,1,1,1,1,1,1,0,0,0,0,1,1]) (Z6 3 (Zc (Wb 60 74 Tryz.f60 [1,1,1,1,1,1,1,0,0,0]) (Z6 2 (Km H0)))) [(0,x0),(10,x10),(15,x15),(16,x16),(17,x17)] H
def Ko:Z3:=FB 60 74 (sub (Z1 Tryz.f60) [1,1,1,1,1,1,1,0,0,0]) (Z6 2 (Km H0)) [(0,x0),(10,x10),(15,x15)] H
def FW:Z3:=ZZ 60 74 (sub (Z1 Tryz.f60) [1,1,1,1,1,1]) (Zh cfg 74 60 Tryz.f60 H0) [(0,x0),(5,x5),(6,x6),(10,x10),(12,x12)] H
def Kn:KL:=Zc (KX 60 74 Tryz.f60 [1,1,1,1,1,1]) (Zh cfg 74 60 Tryz.f60 H0)
theorem A8:ZR 74 (Kn H0):=Zu (C:=cfg) (kp:=cfg.keep 60) (sub (Z1 Tryz.f60) [1,1,1,1,1,1]) (Zx 60 Tryz.f60 H0)
def EO:Z3:=ZZ 60 74 (sub (Z1 Tryz.f60) [1,1,1,1,1,0,1,0,0,1,1,1]) (Zc (Wb 60 74 Tryz.f60 [1,1,1,1,1,0,1,0,0]) (Z6 0 (Kn H0))) [(0,x0),(5,x5),(6,x6),(10,x10),(12,x12),(31,x31),(32,x32),(33,x33)] H
def EN:Z3:=ZZ 60 74 (sub (Z1 Tryz.f60) [1,1,1,1,1,0,1,0,0,1,1]) (Zc (Wb 60 74 Tryz.f60 [1,1,1,1,1,0,1,0,0]) (Z6 0 (Kn H0))) [(0,x0),(5,x5),(6,x6),(10,x10),(12,x12),(31,x31),(32,x32),(33,x33),(34,x34)] H
def Kp:Z3:=FB 60 74 (sub (Z1 Tryz.f60) [1,1,1,1,1,0,1,0,0]) (Z6 0 (Kn H0)) [(0,x0),(5,x5),(6,x6),(10,x10),(12,x12),(31,x31),(32,x32),(33,x33)] H
def EJ:Z3:=ZZ 60 74 (sub (Z1 Tryz.f60) [1,1,1,1]) (Zh cfg 74 60 Tryz.f60 H0) [(0,x0),(3,x3),(5,x5),(6,x6),(10,x10)] H
def EH:Z3:=ZZ 60 74 (sub (Z1 Tryz.f60) [1,1]) (Zh cfg 74 60 Tryz.f60 H0) [(0,x0),(3,x3),(5,x5),(6,x6)] H
def CN:Z3:=
 Z0 (Y4 p1 H) fun r5=>
 Z0 (Y4 p2 r5.2) fun r6=>
 Z0 (Yn (.pointer 117) .eql p0 .nilp) fun t22=>
 Zm t22
 (some ((.tuple [(.str []),(.int .i64 5)]),r6.2))
 (EH p0 p3 r5.1 r6.1 H r6.2)
theorem Zah:EK x10 H0 H =
 some ((.tuple [x10,(.int .i64 0)]),H):=Zb [3,6,9,11,12,16,17,20,23] (by kernel_rfl)
theorem Zag:FX x0 x10 H0 H =
 Z0 (XC [x0,x10] H) fun r69=>
 Z0 (Z5 .neq r69.1 (.int .i64 0)) fun t71=>
 Zm t71
 (some ((.tuple [(.str []),r69.1]),r69.2))
 (EK x10 H0 r69.2):=Zb [3,6,9,11,12,16,17,20,23] (by kernel_rfl)
theorem Zai:EM x0 x10 x15 x16 H0 H =
 Z0 ((ZA 1 [(0,x16)] [(.str [])]).map (.vs 1 .clip)) fun t62=>
 Z0 (Xi [x0,x10,t62] H) fun r63=>
 Z0 (Z5 .neq r63.1 (.int .i64 0)) fun t65=>
 Zm t65
 (some ((.tuple [(.str []),r63.1]),r63.2))
 (Ko x0 x10 x15 H0 r63.2):=Zb [3,6,9,11,12,16,17,20,23] (by kernel_rfl)
theorem Ge:EL x0 x10 x15 x16 x17 H0 H =
 Z0 (XF .not x17) fun t58=>
 Zm t58
 (FX x0 x10 H0 H)
 (EM x0 x10 x15 x16 H0 H):=Zb [3,6,9,11,12,16,17,20,23] (by kernel_rfl)
theorem Gf:Ko x0 x10 x15 H0 H =
 Z0 (Wi [x15] H) fun r50=>
 Z0 (ZK r50.1 0) fun t51=>
 Z0 (ZK r50.1 1) fun t52=>
 Z0 (ZK r50.1 2) fun t53=>
 Z0 (Z5 .neq t53 (.int .i64 0)) fun t55=>
 Zm t55
 (some ((.tuple [(.str []),t53]),r50.2))
 (EL x0 x10 x15 t51 t52 H0 r50.2):=(Zy (C:=cfg) [3,6,9,11,12,16,17,20,23] (Zn 2 (HZ H0)) _ _).trans (by kernel_rfl)
theorem Zaf:FW x0 x5 x6 x10 x12 H0 H =
 Z0 (Z4 true 6 x5 H) fun t44=>
 Z0 (Z4 true 5 x6 H) fun t45=>
 Z0 (Un [t44,t45,x12] H) fun r47=>
 Ko x0 x10 r47.1 H0 r47.2:=Zb [3,6,9,11,12,16,17,20,23] (by kernel_rfl)
theorem Zak:EO x0 x5 x6 x10 x12 x31 x32 x33 H0 H =
 Z0 (Z5 .add x33 (.int .i64 1)) fun t43=>
 Kp x0 x5 x6 x10 x12 x31 x32 t43 H0 H:=Zb [3,6,9,11,12,16,17,20,23] (by kernel_rfl)
theorem Zaj:EN x0 x5 x6 x10 x12 x31 x32 x33 x34 H0 H =
 Z0 (Zl 1 x31 x33) fun t35=>
 Z0 (Z4 false 1 t35 H) fun t36=>
 Z0 (R4 [x0,t36] H) fun r40=>
 Z0 ((ZA 1 [(0,r40.1)] [.nilp]).map (.vs 1 .clip)) fun t41=>
 Z0 (Y7 1 8 x12 t41 r40.2) fun r42=>
 EO x0 x5 x6 x10 r42.1 x31 x32 x33 H0 r42.2:=Zb [3,6,9,11,12,16,17,20,23] (by kernel_rfl)
theorem TJ:Kp x0 x5 x6 x10 x12 x31 x32 x33 H0 H =
 Z0 (Z5 .lss x33 x32) fun t34=>
 Zm t34
 (EN x0 x5 x6 x10 x12 x31 x32 x33 t34 H0 H)
 (FW x0 x5 x6 x10 x12 H0 H):=(Zy (C:=cfg) [3,6,9,11,12,16,17,20,23] (Zn 0 (A8 H0)) _ _).trans (by kernel_rfl)
theorem Zae:EJ x0 x3 x5 x6 x10 H0 H =
 Z0 (Zk (.slice 9) x3) fun t32=>
 Kp x0 x5 x6 x10 .nils x3 t32 (.int .i64 0) H0 H:=Zb [3,6,9,11,12,16,17,20,23] (by kernel_rfl)
theorem Zad:EH x0 x3 x5 x6 H0 H =
 Z0 (XU [x0] H) fun r25=>
 Z0 (ZK r25.1 0) fun t26=>
 Z0 (ZK r25.1 1) fun t27=>
 Z0 (Z5 .neq t27 (.int .i64 0)) fun t29=>
 Zm t29
 (some ((.tuple [(.str []),t27]),r25.2))
 (EJ x0 x3 x5 x6 t26 H0 r25.2):=Zb [3,6,9,11,12,16,17,20,23] (by kernel_rfl)
theorem ZaW:RT [p0,p1,p2,p3] H=CN p0 p1 p2 p3 H:=(Zd (C:=cfg) (fn:=Tryz.f60) (c:=Z1 Tryz.f60) (n:=74) [3,6,9,11,12,16,17,20,23] Tryz.func60 (by kernel_rfl) (by kernel_rfl) [p0,p1,p2,p3] (by kernel_rfl) H).trans (by kernel_rfl)
def Ed:Z3:=
 Z0 (Y4 p0 H) fun r1=>
 Z0 (some ((.ptr r1.2.length 0),r1.2++[.cells [(.str []),.nils,(.str []),(.str []),.nils,.nils]])) fun r2=>
 Z0 (Z8 1 r1.1) fun t3=>
 Z0 (Z4 false 1 t3 r2.2) fun t4=>
 Z0 (Y7 1 8 .nils t4 r2.2) fun r5=>
 Z0 (Z8 1 r1.1) fun t6=>
 Z0 (Zi 1 t6 r5.1 r5.2) fun r_7=>
 Z0 (Z8 4 r1.1) fun t7=>
 Z0 (Z4 false 1 t7 r_7.2) fun t8=>
 Z0 (Y7 5 48 .nils t8 r_7.2) fun r9=>
 Z0 (Z8 4 r1.1) fun t10=>
 Z0 (Zi 1 t10 r9.1 r9.2) fun r_12=>
 Z0 (Z8 5 r1.1) fun t11=>
 Z0 (Z4 false 1 t11 r_12.2) fun t12=>
 Z0 (Y7 2 24 .nils t12 r_12.2) fun r13=>
 Z0 (Z8 5 r1.1) fun t14=>
 Z0 (Zi 1 t14 r13.1 r13.2) fun r_17=>
 Z0 (Z4 true 6 r1.1 r_17.2) fun t15=>
 Z0 (Zi 6 r2.1 t15 r_17.2) fun r_19=>
 Z0 (Z4 true 6 r2.1 r_19.2) fun v2=>
 some (v2,r_19.2)
theorem OS:JZ [p0] H=Ed p0 H:=(Zd (C:=cfg) (fn:=Tryz.f88) (c:=Z1 Tryz.f88) (n:=16) [] Tryz.func88 (by kernel_rfl) (by kernel_rfl) [p0] (by kernel_rfl) H).trans (by kernel_rfl)
def DJ:Z3:=ZZ 102 67 (sub (Z1 Tryz.f102) [1,1,1,1,1,1,1,1]) (Zh cfg 67 102 Tryz.f102 H0) [(13,x13)] H
def DI:Z3:=ZZ 102 67 (sub (Z1 Tryz.f102) [1,1,1,1,1,1]) (Zh cfg 67 102 Tryz.f102 H0) [(1,x1),(5,x5)] H
def W4:Z3:=ZZ 102 67 (sub (Z1 Tryz.f102) [1,1,1,1,1]) (Zh cfg 67 102 Tryz.f102 H0) [(1,x1),(5,x5),(7,x7)] H
def W5:KL:=Zc (KX 102 67 Tryz.f102 [1,1,1,1,1]) (Zh cfg 67 102 Tryz.f102 H0)
theorem Pd:ZR 67 (W5 H0):=Zu (C:=cfg) (kp:=cfg.keep 102) (sub (Z1 Tryz.f102) [1,1,1,1,1]) (Zx 102 Tryz.f102 H0)
def Qv:Z3:=ZZ 102 67 (sub (Z1 Tryz.f102) [1,1,1,1,0,1,0,0,1,1,1]) (Zc (Wb 102 67 Tryz.f102 [1,1,1,1,0,1,0,0]) (Z6 0 (W5 H0))) [(1,x1),(5,x5),(6,x6),(7,x7),(20,x20),(21,x21),(22,x22)] H
def Ce:KL:=Zc (KX 102 67 Tryz.f102 [1,1,1,1,0,1,0,0,1,1,1]) (Zc (Wb 102 67 Tryz.f102 [1,1,1,1,0,1,0,0]) (Z6 0 (W5 H0)))
def DL:Z3:=ZZ 102 67 (sub (Z1 Tryz.f102) [1,1,1,1,0,1,0,0,1,1,0,0,1,1,1]) (Z6 1 (Ce H0)) [(1,x1),(5,x5),(6,x6),(7,x7),(8,x8),(10,x10),(11,x11),(20,x20),(21,x21),(22,x22)] H
def DK:Z3:=ZZ 102 67 (sub (Z1 Tryz.f102) [1,1,1,1,0,1,0,0,1,1]) (Zc (Wb 102 67 Tryz.f102 [1,1,1,1,0,1,0,0]) (Z6 0 (W5 H0))) [(1,x1),(5,x5),(6,x6),(7,x7),(20,x20),(21,x21),(22,x22),(23,x23)] H
def WZ:Z3:=FB 102 67 (sub (Z1 Tryz.f102) [1,1,1,1,0,1,0,0]) (Z6 0 (W5 H0)) [(1,x1),(5,x5),(6,x6),(7,x7),(20,x20),(21,x21),(22,x22)] H
def DW:Z3:=
 Z0 (Y4 p0 H) fun r1=>
 Z0 (some ((.ptr r1.2.length 0),r1.2++[.cells [(.str []),(.int .i64 0),(.bool false)]])) fun r5=>
 Z0 (some (.fn (.func 144) [] [r1.1])) fun t16=>
 Z0 (Z4 false 1 r1.1 r5.2) fun t17=>
 Z0 (ZH t17) fun t18=>
 Z0 (Z8 12 t18) fun t19=>
 Z0 (Z4 false 1 t19 r5.2) fun t20=>
 Z0 (Zk (.slice 52) t20) fun t21=>
 WZ r1.1 r5.1 t16 (.int .i64 0) t20 t21 (.int .i64 0) H r5.2
theorem Mh:DJ x13 H0 H =
 some ((.tuple [x13,(.bool true),(.int .i64 0)]),H):=Zb [6,10,12,13,15,18] (by kernel_rfl)
theorem Mg:DI x1 x5 H0 H =
 Z0 (Z4 false 1 x1 H) fun t51=>
 Z0 (ZH t51) fun t52=>
 Z0 (Z8 12 t52) fun t53=>
 Z0 (Z4 false 1 t53 H) fun t54=>
 Z0 (Z8 1 x5) fun t55=>
 Z0 (Z4 false 1 t55 H) fun t56=>
 Z0 (Zl 1 t54 t56) fun t57=>
 Z0 (Z4 false 1 t57 H) fun t58=>
 Z0 (Jt [t58] H) fun r59=>
 Z0 (ZK r59.1 0) fun t60=>
 Z0 (ZK r59.1 1) fun t61=>
 Z0 (ZK r59.1 2) fun t62=>
 Z0 (Z5 .neq t62 (.int .i64 0)) fun t64=>
 Zm t64
 (some ((.tuple [(.str []),(.bool false),t62]),r59.2))
 (DJ t60 H0 r59.2):=Zb [6,10,12,13,15,18] (by kernel_rfl)
theorem KM:W4 x1 x5 x7 H0 H =
 Z0 (Z5 .neq x7 (.int .i64 0)) fun t43=>
 Z0 (Z7 t43 false (.tuple []) (Z8 2 x5)) fun t45=>
 Z0 (Z7 t43 false (.tuple []) (Z4 false 1 t45 H)) fun t46=>
 Z0 (Z7 t43 false (.tuple []) (XF .not t46)) fun t47=>
 Z0 (Zj t43 (.bool true) t47) fun t48=>
 Zm t48
 (some ((.tuple [(.str []),(.bool false),x7]),H))
 (DI x1 x5 H0 H):=Zb [6,10,12,13,15,18] (by kernel_rfl)
theorem KO:Qv x1 x5 x6 x7 x20 x21 x22 H0 H =
 Z0 (Z5 .add x22 (.int .i64 1)) fun t41=>
 WZ x1 x5 x6 x7 x20 x21 t41 H0 H:=Zb [6,10,12,13,15,18] (by kernel_rfl)
theorem KP:DL x1 x5 x6 x7 x8 x10 x11 x20 x21 x22 H0 H =
 Zm x11
 (Z0 (Wm [x5,x8,x10,x6] H) fun r40=>
 Qv x1 x5 x6 x7 x20 x21 x22 H0 r40.2)
 (Qv x1 x5 x6 x7 x20 x21 x22 H0 H):=Zb [6,10,12,13,15,18] (by kernel_rfl)
theorem KN:DK x1 x5 x6 x7 x20 x21 x22 x23 H0 H =
 Z0 (Zl 1 x20 x22) fun t25=>
 Z0 (Z4 false 1 t25 H) fun t26=>
 Z0 (Wu [t26] H) fun r29=>
 Z0 (ZK r29.1 0) fun t30=>
 Z0 (ZK r29.1 1) fun t31=>
 Z0 (ZK r29.1 2) fun t32=>
 Z0 (Z5 .neq t32 (.int .i64 0)) fun t34=>
 Zm t34
 (W4 x1 x5 t32 H0 r29.2)
 (DL x1 x5 x6 x7 x22 t30 t31 x20 x21 x22 H0 r29.2):=Zb [6,10,12,13,15,18] (by kernel_rfl)
theorem VS:WZ x1 x5 x6 x7 x20 x21 x22 H0 H =
 Z0 (Z5 .lss x22 x21) fun t23=>
 Zm t23
 (DK x1 x5 x6 x7 x20 x21 x22 t23 H0 H)
 (W4 x1 x5 x7 H0 H):=(Zy (C:=cfg) [6,10,12,13,15,18] (Zn 0 (Pd H0)) _ _).trans (by kernel_rfl)
theorem Lo:VE [p0] H=DW p0 H:=(Zd (C:=cfg) (fn:=Tryz.f102) (c:=Z1 Tryz.f102) (n:=67) [6,10,12,13,15,18] Tryz.func102 (by kernel_rfl) (by kernel_rfl) [p0] (by kernel_rfl) H).trans (by kernel_rfl)
def By:Z3:=
 Z0 (Z4 false 1 p2 H) fun t6=>
 Z0 (ZH t6) fun t7=>
 Z0 (Z8 11 t7) fun t8=>
 Z0 (Z4 false 1 t8 H) fun t9=>
 Z0 (Z7 t9 true (.tuple []) (Z4 false 1 p2 H)) fun t11=>
 Z0 (Z7 t9 true (.tuple []) (ZH t11)) fun t12=>
 Z0 (Z7 t9 true (.tuple []) (Z8 0 t12)) fun t13=>
 Z0 (Z7 t9 true (.tuple []) (Z4 true 6 t13 H)) fun t14=>
 Z0 (Z7 t9 true (.tuple []) (Z4 false 1 p2 H)) fun t15=>
 Z0 (Z7 t9 true (.tuple []) (ZH t15)) fun t16=>
 Z0 (Z7 t9 true (.tuple []) (Z8 6 t16)) fun t17=>
 Z0 (Z7 t9 true (.tuple []) (Z4 true 5 t17 H)) fun t18=>
 Z0 (Z7 t9 true (.tuple []) (some p0)) fun t19=>
 Z0 (Z7 t9 true (.tuple []) (some p1)) fun t20=>
 Z0 (Z7 t9 true ((.tuple []),H) (Ze WF [t14,t18,t19,t20] H)) fun r21=>
 Z0 (Z7 t9 true (.tuple []) (Z5 .lss r21.1 (.int .i64 0))) fun t22=>
 Z0 (Zj t9 t22 (.bool false)) fun t23=>
 some (t23,r21.2)
theorem PF:UO [p0,p1,p2] H=By p0 p1 p2 H:=(Zd (C:=cfg) (fn:=Tryz.f144) (c:=Z1 Tryz.f144) (n:=24) [] Tryz.func144 (by kernel_rfl) (by kernel_rfl) [p0,p1,p2] (by kernel_rfl) H).trans (by kernel_rfl)
def UP:Z3:=
 Z0 (ZH p0) fun t9=>
 Z0 (Z8 2 t9) fun t10=>
 Z0 (Z4 false 1 t10 H) fun t11=>
 Z0 (XF .not t11) fun t12=>
 Z0 (Z7 t12 false (.tuple []) (some p3)) fun t14=>
 Z0 (Z7 t12 false (.tuple []) (some p2)) fun t15=>
 Z0 (Z7 t12 false (.tuple []) (some p0)) fun t16=>
 Z0 (Z7 t12 false (.tuple []) (ZH t16)) fun t17=>
 Z0 (Z7 t12 false (.tuple []) (Z8 0 t17)) fun t18=>
 Z0 (Z7 t12 false (.tuple []) (Z4 false 1 t18 H)) fun t19=>
 Z0 (Z7 t12 false ((.tuple []),H) (Yf cfg (Za cfg) t14 [t15,t19] H)) fun r20=>
 Z0 (Zj t12 (.bool true) r20.1) fun t21=>
 Zm t21
 (Z0 ((YZ [(0,1,p2),(1,1,p1),(2,1,(.bool true))] [(.str []),(.int .i64 0),(.bool false)]).map .agg) fun t25=>
 Z0 (ZH p0) fun t26=>
 Z0 (Zi 3 t26 t25 r20.2) fun r_15=>
 some ((.tuple []),r_15.2))
 (some ((.tuple []),r20.2))
theorem BU:Wm [p0,p1,p2,p3] H=UP p0 p1 p2 p3 H:=(Zd (C:=cfg) (fn:=Tryz.f145) (c:=Z1 Tryz.f145) (n:=27) [] Tryz.func145 (by kernel_rfl) (by kernel_rfl) [p0,p1,p2,p3] (by kernel_rfl) H).trans (by kernel_rfl)
end
end Go.Am
