/-
  The functions of the translation over the abstract machine, a further part: written by program (wip/gen.py).
-/
import Derived.Test.YtehanadfidoodaaGreatDoorNkGx
namespace Go.Am
open Go.Proofs
set_option maxRecDepth 100000
noncomputable abbrev U7 (f n:Nat):=Y1 cfg (Za cfg) (ZQ cfg (cfg.keep f) n) (cfg.keep f) n Zb Z7
noncomputable abbrev Zde (f n:Nat):=ZQ cfg (cfg.keep f) n
noncomputable section
abbrev Zha (f n:Nat)(F:Func)(p:List Nat):KL→AL→Hp→Z4:=fun k al H=>U7 f n (sub (Z1 F) p) k (ZP (cfg.keep f) (sub (Z1 F) p) al) H
abbrev Td (f n:Nat)(F:Func)(p:List Nat):KL→AL→Hp→Z4:=fun k al H=>Zde f n (sub (Z1 F) p) k (ZP (cfg.keep f) (sub (Z1 F) p) al) H
variable (p0 p1 p2 p3 x0 x1 x2 x3 x4 x5 x6 x7 x8 x9 x10 x11:AV)(H0 H:Hp)
def Za1:Z4:=U7 20 103 (sub (Z1 Tryz.f20) [1,1,1,1,0,0,0,1,1,1]) (Z7 3 (Zb (Td 20 103 Tryz.f20 [1,1,1,1,0,0]) (Z7 2 (Zf cfg 103 20 Tryz.f20 H0)))) [(2,x2),(3,x3),(4,x4),(7,x7),(9,x9),(10,x10)] H
def Jm:Z4:=U7 20 103 (sub (Z1 Tryz.f20) [1,1,1,1,0,0,0,1,1]) (Z7 3 (Zb (Td 20 103 Tryz.f20 [1,1,1,1,0,0]) (Z7 2 (Zf cfg 103 20 Tryz.f20 H0)))) [(2,x2),(3,x3),(4,x4),(7,x7),(9,x9),(10,x10)] H
def Dh:KL:=Zb (Zha 20 103 Tryz.f20 [1,1,1,1,0,0,0,1,1]) (Z7 3 (Zb (Td 20 103 Tryz.f20 [1,1,1,1,0,0]) (Z7 2 (Zf cfg 103 20 Tryz.f20 H0))))
theorem Zc2:ZL 103 (Dh H0):=Zu (C:=cfg) (kp:=cfg.keep 20) (sub (Z1 Tryz.f20) [1,1,1,1,0,0,0,1,1]) (Zm 3 (T5 (C:=cfg) (kp:=cfg.keep 20) (sub (Z1 Tryz.f20) [1,1,1,1,0,0]) (Zm 2 (Zv 20 Tryz.f20 H0))))
def Dg:Z4:=U7 20 103 (sub (Z1 Tryz.f20) [1,1,1,1,0,0,0,1,0,1,0,0,1,1]) (Zb (Td 20 103 Tryz.f20 [1,1,1,1,0,0,0,1,0,1,0,0]) (Z7 4 (Dh H0))) [(2,x2),(3,x3),(4,x4),(7,x7),(9,x9),(10,x10),(11,x11)] H
def Za2:Z4:=U7 20 103 (sub (Z1 Tryz.f20) [1,1,1,1,0,0,0,1,0,1,0,0,1]) (Zb (Td 20 103 Tryz.f20 [1,1,1,1,0,0,0,1,0,1,0,0]) (Z7 4 (Dh H0))) [(2,x2),(3,x3),(4,x4),(7,x7),(9,x9),(10,x10),(11,x11)] H
def Dk:Z4:=Zde 20 103 (sub (Z1 Tryz.f20) [1,1,1,1,0,0,0,1,0,1,0,0]) (Z7 4 (Dh H0)) [(2,x2),(3,x3),(4,x4),(7,x7),(9,x9),(10,x10),(11,x11)] H
def Dj:Z4:=Zde 20 103 (sub (Z1 Tryz.f20) [1,1,1,1,0,0]) (Z7 2 (Zf cfg 103 20 Tryz.f20 H0)) [(2,x2),(3,x3),(4,x4),(7,x7),(9,x9)] H
def Za0:Z4:=U7 20 103 (sub (Z1 Tryz.f20) [1,1,1]) (Zf cfg 103 20 Tryz.f20 H0) [(2,x2),(3,x3),(4,x4),(7,x7)] H
def NJ:KL:=Zb (Zha 20 103 Tryz.f20 [1,1,1]) (Zf cfg 103 20 Tryz.f20 H0)
theorem Zc3:ZL 103 (NJ H0):=Zu (C:=cfg) (kp:=cfg.keep 20) (sub (Z1 Tryz.f20) [1,1,1]) (Zv 20 Tryz.f20 H0)
def Za3:Z4:=U7 20 103 (sub (Z1 Tryz.f20) [1,1,0,1,0,1]) (NJ H0) [(7,x7)] H
def Di:KL:=Zb (Zha 20 103 Tryz.f20 [1,1,0,1,0,1]) (NJ H0)
theorem Zc4:ZL 103 (Di H0):=Zu (C:=cfg) (kp:=cfg.keep 20) (sub (Z1 Tryz.f20) [1,1,0,1,0,1]) (Zc3 H0)
def Za5:Z4:=U7 20 103 (sub (Z1 Tryz.f20) [1,1,0,1,0,0,1,0,0,1,1]) (Zb (Td 20 103 Tryz.f20 [1,1,0,1,0,0,1,0,0]) (Z7 0 (Di H0))) [(2,x2),(7,x7),(8,x8)] H
def Za4:Z4:=U7 20 103 (sub (Z1 Tryz.f20) [1,1,0,1,0,0,1,0,0,1]) (Zb (Td 20 103 Tryz.f20 [1,1,0,1,0,0,1,0,0]) (Z7 0 (Di H0))) [(2,x2),(7,x7),(8,x8)] H
def Dm:Z4:=Zde 20 103 (sub (Z1 Tryz.f20) [1,1,0,1,0,0,1,0,0]) (Z7 0 (Di H0)) [(2,x2),(7,x7),(8,x8)] H
def Zcs:Z4:=
 Z0 (ZU p0 H) fun r3=>
 Z0 (ZU p1 r3.2) fun r4=>
 Z0 (Z3 true 5 r4.1 r4.2) fun t12=>
 Z0 (Zc KS [t12] r4.2) fun r13=>
 Z0 (Z5 .neq r13.1 (.int .i64 0)) fun t14=>
 Zk t14
 (Dm p2 .nils (.int .i64 0) H r13.2)
 (Za0 p2 r3.1 r4.1 .nils H r13.2)
theorem Zfv:Za1 x2 x3 x4 x7 x9 x10 H0 H =
 Z0 (Zl 1 x2 x10) fun t87=>
 Z0 (Z3 false 1 t87 H) fun t88=>
 Z0 (Zl 1 x9 x10) fun t91=>
 Z0 (Z3 false 1 t91 H) fun t92=>
 Z0 (Zl 1 t88 t92) fun t93=>
 Z0 (Z3 false 1 t93 H) fun t94=>
 Z0 ((Zz 1 [(0,t94)] [(.str [])]).map (.vs 1 .clip)) fun t95=>
 Z0 (ZS 1 16 x7 t95 H) fun r96=>
 Z0 (Zl 1 x9 x10) fun t99=>
 Z0 (Z3 false 1 t99 r96.2) fun t100=>
 Z0 (Z5 .add t100 (.int .i64 1)) fun t101=>
 Z0 (Zl 1 x9 x10) fun t102=>
 Z0 (Zi 1 t102 t101 r96.2) fun r_17=>
 Dj x2 x3 x4 r96.1 x9 H0 r_17.2:=Z9 [5,6,7,8,12,13,15,17] (by kernel_rfl)
theorem Df:Jm x2 x3 x4 x7 x9 x10 H0 H =
 Z0 (Z5 .lss x10 (.int .i64 0)) fun t79=>
 Zk t79
 (Z0 (Z3 true 6 x3 H) fun t80=>
 Z0 (Z3 true 5 x4 H) fun t81=>
 Z0 (Zc Cn [t80,t81,x7] H) fun r83=>
 M4 H0 r83.1 r83.2)
 (Za1 x2 x3 x4 x7 x9 x10 H0 H):=Z9 [5,6,7,8,12,13,15,17] (by kernel_rfl)
theorem Zfx:Dg x2 x3 x4 x7 x9 x10 x11 H0 H =
 Z0 (Z5 .add x11 (.int .i64 1)) fun t36=>
 Dk x2 x3 x4 x7 x9 x10 t36 H0 H:=Z9 [5,6,7,8,12,13,15,17] (by kernel_rfl)
theorem Zfw:Za2 x2 x3 x4 x7 x9 x10 x11 H0 H =
 Z0 (Zl 1 x9 x11) fun t39=>
 Z0 (Z3 false 1 t39 H) fun t40=>
 Z0 (Zl 1 x2 x11) fun t43=>
 Z0 (Z3 false 1 t43 H) fun t44=>
 Z0 (Zj (.slice 9) t44) fun t45=>
 Z0 (Z5 .lss t40 t45) fun t46=>
 Z0 (Z6 t46 true (.tuple []) (some x10)) fun t48=>
 Z0 (Z6 t46 true (.tuple []) (Z5 .lss t48 (.int .i64 0))) fun t49=>
 Z0 (Z6 t46 true (.tuple []) (some t49)) fun t50=>
 Z0 (Z6 t50 false (.tuple []) (Z3 true 6 x3 H)) fun t51=>
 Z0 (Z6 t50 false (.tuple []) (Z3 true 5 x4 H)) fun t52=>
 Z0 (Z6 t50 false (.tuple []) (some x2)) fun t53=>
 Z0 (Z6 t50 false (.tuple []) (some x10)) fun t54=>
 Z0 (Z6 t50 false (.tuple []) (Zl 1 t53 t54)) fun t55=>
 Z0 (Z6 t50 false (.tuple []) (Z3 false 1 t55 H)) fun t56=>
 Z0 (Z6 t50 false (.tuple []) (some x9)) fun t57=>
 Z0 (Z6 t50 false (.tuple []) (some x10)) fun t58=>
 Z0 (Z6 t50 false (.tuple []) (Zl 1 t57 t58)) fun t59=>
 Z0 (Z6 t50 false (.tuple []) (Z3 false 1 t59 H)) fun t60=>
 Z0 (Z6 t50 false (.tuple []) (Zl 1 t56 t60)) fun t61=>
 Z0 (Z6 t50 false (.tuple []) (Z3 false 1 t61 H)) fun t62=>
 Z0 (Z6 t50 false (.tuple []) (some x2)) fun t63=>
 Z0 (Z6 t50 false (.tuple []) (some x11)) fun t64=>
 Z0 (Z6 t50 false (.tuple []) (Zl 1 t63 t64)) fun t65=>
 Z0 (Z6 t50 false (.tuple []) (Z3 false 1 t65 H)) fun t66=>
 Z0 (Z6 t50 false (.tuple []) (some x9)) fun t67=>
 Z0 (Z6 t50 false (.tuple []) (some x11)) fun t68=>
 Z0 (Z6 t50 false (.tuple []) (Zl 1 t67 t68)) fun t69=>
 Z0 (Z6 t50 false (.tuple []) (Z3 false 1 t69 H)) fun t70=>
 Z0 (Z6 t50 false (.tuple []) (Zl 1 t66 t70)) fun t71=>
 Z0 (Z6 t50 false (.tuple []) (Z3 false 1 t71 H)) fun t72=>
 Z0 (Z6 t50 false ((.tuple []),H) (Zc R7 [t51,t52,t62,t72] H)) fun r73=>
 Z0 (Z6 t50 false (.tuple []) (Z5 .gtr r73.1 (.int .i64 0))) fun t74=>
 Z0 (Z6 t46 true (.tuple []) (Zg t50 (.bool true) t74)) fun t75=>
 Z0 (Zg t46 t75 (.bool false)) fun t76=>
 Zk t76
 (Dg x2 x3 x4 x7 x9 x11 x11 H0 r73.2)
 (Dg x2 x3 x4 x7 x9 x10 x11 H0 r73.2):=Z9 [5,6,7,8,12,13,15,17] (by kernel_rfl)
theorem Dl:Dk x2 x3 x4 x7 x9 x10 x11 H0 H =
 Z0 (Zj (.slice 32) x2) fun t33=>
 Z0 (Z5 .lss x11 t33) fun t34=>
 Zk t34
 (Za2 x2 x3 x4 x7 x9 x10 x11 H0 H)
 (Jm x2 x3 x4 x7 x9 x10 H0 H):=(Zx (C:=cfg) [5,6,7,8,12,13,15,17] (Zm 4 (Zc2 H0)) _ _).trans (by kernel_rfl)
theorem QS:Dj x2 x3 x4 x7 x9 H0 H =
 Dk x2 x3 x4 x7 x9 (.int .i64 (-1)) (.int .i64 0) H0 H:=(Zx (C:=cfg) [5,6,7,8,12,13,15,17] (Zm 2 (Zv 20 Tryz.f20 H0)) _ _).trans (by kernel_rfl)
theorem Zfu:Za0 x2 x3 x4 x7 H0 H =
 Z0 (Zj (.slice 32) x2) fun t29=>
 Z0 (VN 1 8 false (.int .i64 0) t29 t29 H) fun r30=>
 Dj x2 x3 x4 x7 r30.1 H0 r30.2:=Z9 [5,6,7,8,12,13,15,17] (by kernel_rfl)
theorem Zfy:Za3 x7 H0 H =
 M4 H0 x7 H:=Z9 [5,6,7,8,12,13,15,17] (by kernel_rfl)
theorem ZfA:Za5 x2 x7 x8 H0 H =
 Z0 (Z5 .add x8 (.int .i64 1)) fun t20=>
 Dm x2 x7 t20 H0 H:=Z9 [5,6,7,8,12,13,15,17] (by kernel_rfl)
theorem Zfz:Za4 x2 x7 x8 H0 H =
 Z0 (Zl 1 x2 x8) fun t24=>
 Z0 (Z3 false 1 t24 H) fun t25=>
 Z0 (ZS 1 16 x7 t25 H) fun r26=>
 Za5 x2 r26.1 x8 H0 r26.2:=Z9 [5,6,7,8,12,13,15,17] (by kernel_rfl)
theorem Lx:Dm x2 x7 x8 H0 H =
 Z0 (Zj (.slice 32) x2) fun t17=>
 Z0 (Z5 .lss x8 t17) fun t18=>
 Zk t18
 (Za4 x2 x7 x8 H0 H)
 (Za3 x7 H0 H):=(Zx (C:=cfg) [5,6,7,8,12,13,15,17] (Zm 0 (Zc4 H0)) _ _).trans (by kernel_rfl)
theorem Zhp:Rc [p0,p1,p2] H=Zcs p0 p1 p2 H:=(Zd (C:=cfg) (fn:=Tryz.f20) (c:=Z1 Tryz.f20) (n:=103) [5,6,7,8,12,13,15,17] Tryz.func20 (by kernel_rfl) (by kernel_rfl) [p0,p1,p2] (by kernel_rfl) H).trans (by kernel_rfl)
def DJ:Z4:=U7 34 22 (sub (Z1 Tryz.f34) [1,1,1,1]) (Zf cfg 22 34 Tryz.f34 H0) [(7,x7)] H
def E1:Z4:=U7 34 22 (sub (Z1 Tryz.f34) [1,1]) (Zf cfg 22 34 Tryz.f34 H0) [(2,x2),(3,x3),(4,x4)] H
def Sj:Z4:=
 Z0 (ZU p0 H) fun r3=>
 Z0 (ZU p1 r3.2) fun r4=>
 Z0 (Z3 true 5 r4.1 r4.2) fun t8=>
 Z0 (Zc WA [t8] r4.2) fun r9=>
 Z0 (Z5 .neq r9.1 (.int .i64 0)) fun t10=>
 Zk t10
 (Z0 (Zc Yh [p2] r9.2) fun r12=>
 some (r12.1,r12.2))
 (E1 p2 r3.1 r4.1 H r9.2)
theorem RQ:DJ x7 H0 H =
 some (x7,H):=Z9 [3,6] (by kernel_rfl)
theorem ZaU:E1 x2 x3 x4 H0 H =
 Xl x3 H fun z3 z3H=>
 Xl x4 z3H fun z4 z4H=>
 Z0 (some (.fn (.func 84) [] [z3,z4])) fun t14=>
 Z0 (Zc Ys [x2,t14] z4H) fun r15=>
 Z0 (Z8 3 z4) fun t16=>
 Z0 (Z3 false 1 t16 r15.2) fun t17=>
 Zk t17
 (Z0 (some (.fn (.func 85) [] [z3,z4])) fun t19=>
 Z0 (Zc V9 [r15.1,t19] r15.2) fun r20=>
 DJ r20.1 H0 r20.2)
 (DJ r15.1 H0 r15.2):=Z9 [3,6] (by kernel_rfl)
theorem ZbB:JD [p0,p1,p2] H=Sj p0 p1 p2 H:=(Zd (C:=cfg) (fn:=Tryz.f34) (c:=Z1 Tryz.f34) (n:=22) [3,6] Tryz.func34 (by kernel_rfl) (by kernel_rfl) [p0,p1,p2] (by kernel_rfl) H).trans (by kernel_rfl)
def QZ:Z4:=U7 70 35 (sub (Z1 Tryz.f70) [1,1,1]) (Zf cfg 35 70 Tryz.f70 H0) [(5,x5)] H
def XF:KL:=Zb (Zha 70 35 Tryz.f70 [1,1,1]) (Zf cfg 35 70 Tryz.f70 H0)
theorem DK:ZL 35 (XF H0):=Zu (C:=cfg) (kp:=cfg.keep 70) (sub (Z1 Tryz.f70) [1,1,1]) (Zv 70 Tryz.f70 H0)
def XE:Z4:=U7 70 35 (sub (Z1 Tryz.f70) [1,1,0,1,0,0,1,1,1]) (Zb (Td 70 35 Tryz.f70 [1,1,0,1,0,0]) (Z7 0 (XF H0))) [(1,x1),(5,x5),(8,x8),(9,x9),(10,x10)] H
def WV:Z4:=U7 70 35 (sub (Z1 Tryz.f70) [1,1,0,1,0,0,1,1]) (Zb (Td 70 35 Tryz.f70 [1,1,0,1,0,0]) (Z7 0 (XF H0))) [(1,x1),(5,x5),(8,x8),(9,x9),(10,x10),(11,x11)] H
def XG:Z4:=Zde 70 35 (sub (Z1 Tryz.f70) [1,1,0,1,0,0]) (Z7 0 (XF H0)) [(1,x1),(5,x5),(8,x8),(9,x9),(10,x10)] H
def Je:Z4:=
 Z0 (Zj (.slice 9) p0) fun t9=>
 XG p1 .nils p0 t9 (.int .i64 0) H H
theorem FY:QZ x5 H0 H =
 some (x5,H):=Z9 [4,7,8] (by kernel_rfl)
theorem R0:XE x1 x5 x8 x9 x10 H0 H =
 Z0 (Z5 .add x10 (.int .i64 1)) fun t33=>
 XG x1 x5 x8 x9 t33 H0 H:=Z9 [4,7,8] (by kernel_rfl)
theorem FZ:WV x1 x5 x8 x9 x10 x11 H0 H =
 Z0 (Zl 1 x8 x10) fun t12=>
 Z0 (Z3 false 1 t12 H) fun t13=>
 Z0 (Zj (.slice 9) x5) fun t15=>
 Z0 (Z5 .eql t15 (.int .i64 0)) fun t16=>
 Z0 (Z6 t16 false (.tuple []) (some x1)) fun t18=>
 Z0 (Z6 t16 false (.tuple []) (some x5)) fun t19=>
 Z0 (Z6 t16 false (.tuple []) (some x5)) fun t20=>
 Z0 (Z6 t16 false (.tuple []) (Zj (.slice 9) t20)) fun t21=>
 Z0 (Z6 t16 false (.tuple []) (Z5 .sub t21 (.int .i64 1))) fun t22=>
 Z0 (Z6 t16 false (.tuple []) (Zl 1 t19 t22)) fun t23=>
 Z0 (Z6 t16 false (.tuple []) (Z3 false 1 t23 H)) fun t24=>
 Z0 (Z6 t16 false (.tuple []) (some t13)) fun t25=>
 Z0 (Z6 t16 false ((.tuple []),H) (Yr cfg (Za cfg) t18 [t24,t25] H)) fun r26=>
 Z0 (Z6 t16 false (.tuple []) (X9 .not r26.1)) fun t27=>
 Z0 (Zg t16 (.bool true) t27) fun t28=>
 Zk t28
 (Z0 ((Zz 1 [(0,t13)] [(.str [])]).map (.vs 1 .clip)) fun t31=>
 Z0 (ZS 1 16 x5 t31 r26.2) fun r32=>
 XE x1 r32.1 x8 x9 x10 H0 r32.2)
 (XE x1 x5 x8 x9 x10 H0 r26.2):=Z9 [4,7,8] (by kernel_rfl)
theorem UK:XG x1 x5 x8 x9 x10 H0 H =
 Z0 (Z5 .lss x10 x9) fun t11=>
 Zk t11
 (WV x1 x5 x8 x9 x10 t11 H0 H)
 (QZ x5 H0 H):=(Zx (C:=cfg) [4,7,8] (Zm 0 (DK H0)) _ _).trans (by kernel_rfl)
theorem Rz:V9 [p0,p1] H=Je p0 p1 H:=(Zd (C:=cfg) (fn:=Tryz.f70) (c:=Z1 Tryz.f70) (n:=35) [4,7,8] Tryz.func70 (by kernel_rfl) (by kernel_rfl) [p0,p1] (by kernel_rfl) H).trans (by kernel_rfl)
def ZcE:Z4:=U7 75 47 (sub (Z1 Tryz.f75) [1,1,1]) (Zf cfg 47 75 Tryz.f75 H0) [(7,x7)] H
def Rk:KL:=Zb (Zha 75 47 Tryz.f75 [1,1,1]) (Zf cfg 47 75 Tryz.f75 H0)
theorem ZdF:ZL 47 (Rk H0):=Zu (C:=cfg) (kp:=cfg.keep 75) (sub (Z1 Tryz.f75) [1,1,1]) (Zv 75 Tryz.f75 H0)
def Rj:Z4:=U7 75 47 (sub (Z1 Tryz.f75) [1,1,0,1,0,0,1,1]) (Zb (Td 75 47 Tryz.f75 [1,1,0,1,0,0]) (Z7 0 (Rk H0))) [(2,x2),(3,x3),(4,x4),(7,x7),(8,x8)] H
def ZcF:Z4:=U7 75 47 (sub (Z1 Tryz.f75) [1,1,0,1,0,0,1]) (Zb (Td 75 47 Tryz.f75 [1,1,0,1,0,0]) (Z7 0 (Rk H0))) [(2,x2),(3,x3),(4,x4),(7,x7),(8,x8)] H
def Rl:Z4:=Zde 75 47 (sub (Z1 Tryz.f75) [1,1,0,1,0,0]) (Z7 0 (Rk H0)) [(2,x2),(3,x3),(4,x4),(7,x7),(8,x8)] H
def Zey:Z4:=
 Z0 (ZU p0 H) fun r3=>
 Z0 (ZU p1 r3.2) fun r4=>
 Rl p2 r3.1 r4.1 .nils (.int .i64 0) H r4.2
theorem ZhC:ZcE x7 H0 H =
 some (x7,H):=Z9 [4,5,7] (by kernel_rfl)
theorem ZhD:Rj x2 x3 x4 x7 x8 H0 H =
 Z0 (Z5 .add x8 (.int .i64 1)) fun t14=>
 Rl x2 x3 x4 x7 t14 H0 H:=Z9 [4,5,7] (by kernel_rfl)
theorem JM:ZcF x2 x3 x4 x7 x8 H0 H =
 Z0 (Z8 3 x4) fun t15=>
 Z0 (Z3 false 1 t15 H) fun t16=>
 Z0 (X9 .not t16) fun t17=>
 Z0 (Z6 t17 false (.tuple []) (some x7)) fun t19=>
 Z0 (Z6 t17 false (.tuple []) (Zj (.slice 9) t19)) fun t20=>
 Z0 (Z6 t17 false (.tuple []) (Z5 .eql t20 (.int .i64 0))) fun t21=>
 Z0 (Zg t17 (.bool true) t21) fun t22=>
 Z0 (Z6 t22 false (.tuple []) (Z3 true 6 x3 H)) fun t24=>
 Z0 (Z6 t22 false (.tuple []) (Z3 true 5 x4 H)) fun t25=>
 Z0 (Z6 t22 false (.tuple []) (some x7)) fun t26=>
 Z0 (Z6 t22 false (.tuple []) (some x7)) fun t27=>
 Z0 (Z6 t22 false (.tuple []) (Zj (.slice 9) t27)) fun t28=>
 Z0 (Z6 t22 false (.tuple []) (Z5 .sub t28 (.int .i64 1))) fun t29=>
 Z0 (Z6 t22 false (.tuple []) (Zl 1 t26 t29)) fun t30=>
 Z0 (Z6 t22 false (.tuple []) (Z3 false 1 t30 H)) fun t31=>
 Z0 (Z6 t22 false (.tuple []) (some x2)) fun t32=>
 Z0 (Z6 t22 false (.tuple []) (some x8)) fun t33=>
 Z0 (Z6 t22 false (.tuple []) (Zl 1 t32 t33)) fun t34=>
 Z0 (Z6 t22 false (.tuple []) (Z3 false 1 t34 H)) fun t35=>
 Z0 (Z6 t22 false ((.tuple []),H) (Zc Qs [t24,t25,t31,t35] H)) fun r36=>
 Z0 (Z6 t22 false (.tuple []) (Z5 .neq r36.1 (.int .i64 0))) fun t37=>
 Z0 (Zg t22 (.bool true) t37) fun t38=>
 Zk t38
 (Z0 (Zl 1 x2 x8) fun t42=>
 Z0 (Z3 false 1 t42 r36.2) fun t43=>
 Z0 ((Zz 1 [(0,t43)] [(.str [])]).map (.vs 1 .clip)) fun t44=>
 Z0 (ZS 1 16 x7 t44 r36.2) fun r45=>
 Rj x2 x3 x4 r45.1 x8 H0 r45.2)
 (Rj x2 x3 x4 x7 x8 H0 r36.2):=Z9 [4,5,7] (by kernel_rfl)
theorem SM:Rl x2 x3 x4 x7 x8 H0 H =
 Z0 (Zj (.slice 9) x2) fun t11=>
 Z0 (Z5 .lss x8 t11) fun t12=>
 Zk t12
 (ZcF x2 x3 x4 x7 x8 H0 H)
 (ZcE x7 H0 H):=(Zx (C:=cfg) [4,5,7] (Zm 0 (ZdF H0)) _ _).trans (by kernel_rfl)
theorem Zj2:Cn [p0,p1,p2] H=Zey p0 p1 p2 H:=(Zd (C:=cfg) (fn:=Tryz.f75) (c:=Z1 Tryz.f75) (n:=47) [4,5,7] Tryz.func75 (by kernel_rfl) (by kernel_rfl) [p0,p1,p2] (by kernel_rfl) H).trans (by kernel_rfl)
def V3:Z4:=U7 76 8 (sub (Z1 Tryz.f76) [1,1]) (Zf cfg 8 76 Tryz.f76 H0) [(0,x0)] H
def Vc:Z4:=
 Z0 (X1 (.slice 9) .eql p0 .nils) fun t4=>
 Zk t4
 (some (.nils,H))
 (V3 p0 H H)
theorem Jy:V3 x0 H0 H =
 Z0 ((Zz 1 [] []).map (.vs 1 .clip)) fun t5=>
 Z0 (ZS 1 16 t5 x0 H) fun r7=>
 some (r7.1,r7.2):=Z9 [3] (by kernel_rfl)
theorem JH:Yh [p0] H=Vc p0 H:=(Zd (C:=cfg) (fn:=Tryz.f76) (c:=Z1 Tryz.f76) (n:=8) [3] Tryz.func76 (by kernel_rfl) (by kernel_rfl) [p0] (by kernel_rfl) H).trans (by kernel_rfl)
def VY:Z4:=U7 83 67 (sub (Z1 Tryz.f83) [1,1,1,1,1,1]) (Zf cfg 67 83 Tryz.f83 H0) [(6,x6),(7,x7),(8,x8)] H
def XP:KL:=Zb (Zha 83 67 Tryz.f83 [1,1,1,1,1,1]) (Zf cfg 67 83 Tryz.f83 H0)
theorem JW:ZL 67 (XP H0):=Zu (C:=cfg) (kp:=cfg.keep 83) (sub (Z1 Tryz.f83) [1,1,1,1,1,1]) (Zv 83 Tryz.f83 H0)
def VZ:Z4:=U7 83 67 (sub (Z1 Tryz.f83) [1,1,1,1,1,0,0,0,1]) (Zb (Td 83 67 Tryz.f83 [1,1,1,1,1,0,0,0]) (Z7 0 (XP H0))) [(1,x1),(6,x6),(7,x7),(8,x8)] H
def Yp:Z4:=Zde 83 67 (sub (Z1 Tryz.f83) [1,1,1,1,1,0,0,0]) (Z7 0 (XP H0)) [(1,x1),(6,x6),(7,x7),(8,x8)] H
def VX:Z4:=U7 83 67 (sub (Z1 Tryz.f83) [1,1]) (Zf cfg 67 83 Tryz.f83 H0) [(0,x0),(1,x1)] H
def YX:Z4:=
 Z0 (Zj (.slice 9) p0) fun t10=>
 Z0 (Z5 .lss t10 (.int .i64 2)) fun t11=>
 Zk t11
 (Z0 (Zc Yh [p0] H) fun r13=>
 some (r13.1,r13.2))
 (VX p0 p1 H H)
theorem V1:VY x6 x7 x8 H0 H =
 Z0 (ZS 1 16 x8 x6 H) fun r64=>
 Z0 (ZS 1 16 r64.1 x7 r64.2) fun r66=>
 some (r66.1,r66.2):=Z9 [3,7,12] (by kernel_rfl)
theorem V2:VZ x1 x6 x7 x8 H0 H =
 Z0 (Zl 1 x6 (.int .i64 0)) fun t40=>
 Z0 (Z3 false 1 t40 H) fun t41=>
 Z0 (Zl 1 x7 (.int .i64 0)) fun t43=>
 Z0 (Z3 false 1 t43 H) fun t44=>
 Z0 (Yr cfg (Za cfg) x1 [t41,t44] H) fun r45=>
 Zk r45.1
 (Z0 (Zl 1 x7 (.int .i64 0)) fun t48=>
 Z0 (Z3 false 1 t48 r45.2) fun t49=>
 Z0 ((Zz 1 [(0,t49)] [(.str [])]).map (.vs 1 .clip)) fun t50=>
 Z0 (ZS 1 16 x8 t50 r45.2) fun r51=>
 Z0 (YL 1 x7 (some (.int .i64 1)) none none) fun t53=>
 Yp x1 x6 t53 r51.1 H0 r51.2)
 (Z0 (Zl 1 x6 (.int .i64 0)) fun t56=>
 Z0 (Z3 false 1 t56 r45.2) fun t57=>
 Z0 ((Zz 1 [(0,t57)] [(.str [])]).map (.vs 1 .clip)) fun t58=>
 Z0 (ZS 1 16 x8 t58 r45.2) fun r59=>
 Z0 (YL 1 x6 (some (.int .i64 1)) none none) fun t61=>
 Yp x1 t61 x7 r59.1 H0 r59.2):=Z9 [3,7,12] (by kernel_rfl)
theorem Yz:Yp x1 x6 x7 x8 H0 H =
 Z0 (Zj (.slice 9) x6) fun t31=>
 Z0 (Z5 .gtr t31 (.int .i64 0)) fun t32=>
 Z0 (Z6 t32 true (.tuple []) (some x7)) fun t34=>
 Z0 (Z6 t32 true (.tuple []) (Zj (.slice 9) t34)) fun t35=>
 Z0 (Z6 t32 true (.tuple []) (Z5 .gtr t35 (.int .i64 0))) fun t36=>
 Z0 (Zg t32 t36 (.bool false)) fun t37=>
 Zk t37
 (VZ x1 x6 x7 x8 H0 H)
 (VY x6 x7 x8 H0 H):=(Zx (C:=cfg) [3,7,12] (Zm 0 (JW H0)) _ _).trans (by kernel_rfl)
theorem Gc:VX x0 x1 H0 H =
 Z0 (Zj (.slice 9) x0) fun t15=>
 Z0 (Z5 .quo t15 (.int .i64 2)) fun t16=>
 Z0 (YL 1 x0 none (some t16) none) fun t19=>
 Z0 (Zc Ys [t19,x1] H) fun r21=>
 Z0 (YL 1 x0 (some t16) none none) fun t24=>
 Z0 (Zc Ys [t24,x1] r21.2) fun r26=>
 Z0 (Zj (.slice 9) x0) fun t28=>
 Z0 (VN 1 16 false (.str []) (.int .i64 0) t28 r26.2) fun r29=>
 Yp x1 r21.1 r26.1 r29.1 H0 r29.2:=Z9 [3,7,12] (by kernel_rfl)
theorem Xu:Ys [p0,p1] H=YX p0 p1 H:=(Zd (C:=cfg) (fn:=Tryz.f83) (c:=Z1 Tryz.f83) (n:=67) [3,7,12] Tryz.func83 (by kernel_rfl) (by kernel_rfl) [p0,p1] (by kernel_rfl) H).trans (by kernel_rfl)
def N7:Z4:=
 Z0 (Z3 true 6 p2 H) fun t7=>
 Z0 (Z3 true 5 p3 H) fun t8=>
 Z0 (Zc VL [t7,t8,p0,p1] H) fun r11=>
 Z0 (Z5 .gtr r11.1 (.int .i64 0)) fun t12=>
 some (t12,r11.2)
theorem I4:PY [p0,p1,p2,p3] H=N7 p0 p1 p2 p3 H:=(Zd (C:=cfg) (fn:=Tryz.f84) (c:=Z1 Tryz.f84) (n:=13) [] Tryz.func84 (by kernel_rfl) (by kernel_rfl) [p0,p1,p2,p3] (by kernel_rfl) H).trans (by kernel_rfl)
def N8:Z4:=
 Z0 (Z3 true 6 p2 H) fun t7=>
 Z0 (Z3 true 5 p3 H) fun t8=>
 Z0 (Zc W2 [t7,t8,p0,p1] H) fun r11=>
 Z0 (Z5 .eql r11.1 (.int .i64 0)) fun t12=>
 some (t12,r11.2)
theorem I5:PZ [p0,p1,p2,p3] H=N8 p0 p1 p2 p3 H:=(Zd (C:=cfg) (fn:=Tryz.f85) (c:=Z1 Tryz.f85) (n:=13) [] Tryz.func85 (by kernel_rfl) (by kernel_rfl) [p0,p1,p2,p3] (by kernel_rfl) H).trans (by kernel_rfl)
end
end Go.Am
