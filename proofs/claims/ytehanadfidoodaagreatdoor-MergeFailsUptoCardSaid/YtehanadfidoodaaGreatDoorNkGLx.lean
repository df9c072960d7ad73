/-
  The functions of the translation over the abstract machine, a further part: written by program (wip/gen.py).
-/
import Derived.Test.YtehanadfidoodaaGreatDoorNkGx
namespace Go.Am
open Go.Proofs
set_option maxRecDepth 100000
set_option linter.unusedVariables false
set_option linter.unusedSimpArgs false
noncomputable abbrev Ya (f n:Nat):=Yl cfg (Za cfg) (Y8 cfg (cfg.keep f) n) (cfg.keep f) n Zd Z7
noncomputable abbrev Mq (f n:Nat):=Y8 cfg (cfg.keep f) n
noncomputable section
abbrev DJ (f n:Nat)(F:Func)(p:List Nat):KL→AL→Hp→Z3:=fun k al H=>Ya f n (sub (Z1 F) p) k (ZR (cfg.keep f) (sub (Z1 F) p) al) H
abbrev Vw (f n:Nat)(F:Func)(p:List Nat):KL→AL→Hp→Z3:=fun k al H=>Mq f n (sub (Z1 F) p) k (ZR (cfg.keep f) (sub (Z1 F) p) al) H
variable (p0 p1 p2 p3 x0 x1 x2 x3 x4 x5 x6 x7 x8 x9 x10 x11 x12 x13 x14 x15 x20 x21 x22 x23 x24 x25 x27 x28 x29:AV)(H0 H:Hp)
def RF:Z3:=Ya 13 179 (sub (Z1 Tryz.f13) [1,1,1,1,1,1,1,1,1,1,1,1,1,1,1,1]) (Zi cfg 179 13 Tryz.f13 H0) [(22,x22),(23,x23),(24,x24),(25,x25),(27,x27),(28,x28),(29,x29)] H
def RE:Z3:=Ya 13 179 (sub (Z1 Tryz.f13) [1,1,1,1,1,1,1,1,1]) (Zi cfg 179 13 Tryz.f13 H0) [(3,x3),(4,x4),(7,x7),(8,x8),(15,x15)] H
def RD:Z3:=Ya 13 179 (sub (Z1 Tryz.f13) [1,1]) (Zi cfg 179 13 Tryz.f13 H0) [(2,x2),(3,x3),(4,x4)] H
def TQ:Z3:=
 Z0 (ZW p0 H) fun r3=>
 Z0 (ZW p1 r3.2) fun r4=>
 Z0 (Ze CV [p2] r4.2) fun r31=>
 Z0 (Xa .not r31.1) fun t32=>
 Zl t32
 (Z0 (Ze KK [] r31.2) fun r33=>
 some (r33.1,r33.2))
 (RD p2 r3.1 r4.1 H r31.2)
theorem Eb:RF x22 x23 x24 x25 x27 x28 x29 H0 H =
 Z0 (Yh .eql x22 (.str [])) fun t151=>
 Z0 (Z6 t151 true (.tuple []) (some x23)) fun t153=>
 Z0 (Z6 t151 true (.tuple []) (Z5 .eql t153 (.int .i64 8))) fun t154=>
 Z0 (Zg t151 t154 (.bool false)) fun t155=>
 Z0 (Z6 t155 true (.tuple []) (some x24)) fun t157=>
 Z0 (Z6 t155 true (.tuple []) (Yh .eql t157 (.str []))) fun t158=>
 Z0 (Zg t155 t158 (.bool false)) fun t159=>
 Z0 (Z6 t159 true (.tuple []) (some x25)) fun t161=>
 Z0 (Z6 t159 true (.tuple []) (Z5 .eql t161 (.int .i64 5))) fun t162=>
 Z0 (Zg t159 t162 (.bool false)) fun t163=>
 Z0 (Z6 t163 true (.tuple []) (some x27)) fun t165=>
 Z0 (Z6 t163 true (.tuple []) (Yh .eql t165 (.str []))) fun t166=>
 Z0 (Zg t163 t166 (.bool false)) fun t167=>
 Z0 (Z6 t167 true (.tuple []) (some x28)) fun t169=>
 Z0 (Z6 t167 true (.tuple []) (Xa .not t169)) fun t170=>
 Z0 (Zg t167 t170 (.bool false)) fun t171=>
 Z0 (Z6 t171 true (.tuple []) (some x29)) fun t173=>
 Z0 (Z6 t171 true (.tuple []) (Z5 .eql t173 (.int .i64 5))) fun t174=>
 Z0 (Zg t171 t174 (.bool false)) fun t175=>
 Z0 (Z6 t175 true ((.tuple []),H) (Ze KK [] H)) fun r177=>
 Z0 (Zg t175 r177.1 (.bool false)) fun t178=>
 some (t178,r177.2):=Zb [3,11,19] (by kernel_rfl)
theorem Ea:RE x3 x4 x7 x8 x15 H0 H =
 Z0 (Ye [x15] H) fun r99=>
 Z0 (ZC r99.1 0) fun t100=>
 Z0 (ZC r99.1 1) fun t101=>
 Z0 (ZC r99.1 2) fun t102=>
 Z0 (Ye [x15] r99.2) fun r105=>
 Z0 (ZC r105.1 0) fun t106=>
 Z0 (ZC r105.1 1) fun t107=>
 Z0 (ZC r105.1 2) fun t108=>
 Z0 (Z4 true 6 x3 r105.2) fun t111=>
 Z0 (Z4 true 5 x4 r105.2) fun t112=>
 Z0 (Qs [x7,t111,t112,x8] r105.2) fun r114=>
 Z0 (ZC r114.1 0) fun t115=>
 Z0 (ZC r114.1 1) fun t116=>
 Z0 (Z4 true 6 x3 r114.2) fun t118=>
 Z0 (Z4 true 5 x4 r114.2) fun t119=>
 Z0 (Qs [.nilp,t118,t119,x8] r114.2) fun r121=>
 Z0 (ZC r121.1 0) fun t122=>
 Z0 (ZC r121.1 1) fun t123=>
 Z0 (Ye [.nilp] r121.2) fun r126=>
 Z0 (ZC r126.1 0) fun t127=>
 Z0 (ZC r126.1 1) fun t128=>
 Z0 (ZC r126.1 2) fun t129=>
 Z0 (Yh .neq t100 (.str [])) fun t131=>
 Z0 (Z6 t131 false (.tuple []) (some t101)) fun t133=>
 Z0 (Zg t131 (.bool true) t133) fun t134=>
 Z0 (Z6 t134 false (.tuple []) (some t106)) fun t136=>
 Z0 (Z6 t134 false (.tuple []) (Yh .neq t136 (.str []))) fun t137=>
 Z0 (Zg t134 (.bool true) t137) fun t138=>
 Z0 (Z6 t138 false (.tuple []) (some t107)) fun t140=>
 Z0 (Zg t138 (.bool true) t140) fun t141=>
 Z0 (Z6 t141 false (.tuple []) (some t102)) fun t143=>
 Z0 (Z6 t141 false (.tuple []) (Z5 .neq t143 (.int .i64 8))) fun t144=>
 Z0 (Zg t141 (.bool true) t144) fun t145=>
 Z0 (Z6 t145 false (.tuple []) (some t108)) fun t147=>
 Z0 (Z6 t145 false (.tuple []) (Z5 .neq t147 (.int .i64 8))) fun t148=>
 Z0 (Zg t145 (.bool true) t148) fun t149=>
 Zl t149
 (some ((.bool false),r126.2))
 (RF t115 t116 t122 t123 t127 t128 t129 H0 r126.2):=Zb [3,11,19] (by kernel_rfl)
theorem E9:RD x2 x3 x4 H0 H =
 Z0 (Z4 true 6 x3 H) fun t35=>
 Z0 (Z4 true 5 x4 H) fun t36=>
 Z0 (Fd [t35,t36,x2,(.bool false)] H) fun r38=>
 Z0 (ZC r38.1 0) fun t39=>
 Z0 (ZC r38.1 1) fun t40=>
 Z0 (ZC r38.1 2) fun t41=>
 Z0 (Ze TH [x2] r38.2) fun r43=>
 Z0 (Zk (.slice 9) r43.1) fun t44=>
 X3 x3 r43.2 fun z3 z3H=>
 X3 x4 z3H fun z4 z4H=>
 Z0 (Yr true 6 z3) fun t46=>
 Z0 (Yr true 5 z4) fun t47=>
 Z0 (WA [t39,t40] z4H) fun r50=>
 Z0 (U4 [t46,t47,r50.1] r50.2) fun r51=>
 Z0 (GT [r51.1,t44] r51.2) fun r53=>
 Z0 (ZC r53.1 0) fun t54=>
 Z0 (ZC r53.1 1) fun t55=>
 Z0 ((ZF 1 [(0,(.str [120]))] [(.str [])]).map (.vs 1 .clip)) fun t57=>
 Z0 (Y6 1 16 t40 t57 r53.2) fun r58=>
 X3 z3 r58.2 fun z3 z3H=>
 X3 z4 z3H fun z4 z4H=>
 Z0 (Yr true 6 z3) fun t60=>
 Z0 (Yr true 5 z4) fun t61=>
 Z0 (WA [t39,r58.1] z4H) fun r64=>
 Z0 (U4 [t60,t61,r64.1] r64.2) fun r65=>
 Z0 (GT [r65.1,t44] r65.2) fun r67=>
 Z0 (ZC r67.1 0) fun t68=>
 Z0 (ZC r67.1 1) fun t69=>
 X3 z3 r67.2 fun z3 z3H=>
 X3 z4 z3H fun z4 z4H=>
 Z0 (Yr true 6 z3) fun t70=>
 Z0 (Yr true 5 z4) fun t71=>
 Z0 (WA [t39,r58.1] z4H) fun r74=>
 Z0 (U4 [t70,t71,r74.1] r74.2) fun r75=>
 Z0 (Xa .not t41) fun t77=>
 Z0 (Z6 t77 false (.tuple []) (some t55)) fun t79=>
 Z0 (Z6 t77 false (.tuple []) (Xa .not t79)) fun t80=>
 Z0 (Zg t77 (.bool true) t80) fun t81=>
 Z0 (Z6 t81 false (.tuple []) (some t69)) fun t83=>
 Z0 (Z6 t81 false (.tuple []) (Xa .not t83)) fun t84=>
 Z0 (Zg t81 (.bool true) t84) fun t85=>
 Z0 (Z6 t85 false (.tuple []) (some t54)) fun t87=>
 Z0 (Z6 t85 false (.tuple []) (some t68)) fun t88=>
 Z0 (Z6 t85 false ((.tuple []),r75.2) (Ze Bh [t87,t88] r75.2)) fun r89=>
 Z0 (Z6 t85 false (.tuple []) (Xa .not r89.1)) fun t90=>
 Z0 (Zg t85 (.bool true) t90) fun t91=>
 Z0 (Z6 t91 false (.tuple []) (some t39)) fun t93=>
 Z0 (Z6 t91 false ((.tuple []),r89.2) (U5 [t93] r89.2)) fun r94=>
 Z0 (Z6 t91 false (.tuple []) (Z5 .neq r94.1 (.int .i64 0))) fun t95=>
 Z0 (Zg t91 (.bool true) t95) fun t96=>
 Zl t96
 (some ((.bool false),r94.2))
 (RE z3 z4 t39 r58.1 r75.1 H0 r94.2):=Zb [3,11,19] (by kernel_rfl)
theorem C6:TG [p0,p1,p2] H=TQ p0 p1 p2 H:=(Zc (C:=cfg) (fn:=Tryz.f13) (c:=Z1 Tryz.f13) (n:=179) [3,11,19] Tryz.func13 (by kernel_rfl) (by kernel_rfl) [p0,p1,p2] (by kernel_rfl) H).trans (by kernel_rfl)
def C5:Z3:=Ya 30 39 (sub (Z1 Tryz.f30) [1,1,1,1,1,1]) (Zi cfg 39 30 Tryz.f30 H0) [(10,x10)] H
def C4:Z3:=Ya 30 39 (sub (Z1 Tryz.f30) [1,1,1,1,1]) (Zi cfg 39 30 Tryz.f30 H0) [(0,x0),(10,x10)] H
def C3:Z3:=Ya 30 39 (sub (Z1 Tryz.f30) [1,1,1,1]) (Zi cfg 39 30 Tryz.f30 H0) [(0,x0),(3,x3),(5,x5),(6,x6),(10,x10)] H
def C2:Z3:=Ya 30 39 (sub (Z1 Tryz.f30) [1,1]) (Zi cfg 39 30 Tryz.f30 H0) [(0,x0),(3,x3),(5,x5),(6,x6)] H
def Hh:Z3:=
 Z0 (ZW p1 H) fun r5=>
 Z0 (ZW p2 r5.2) fun r6=>
 Z0 (Yj (.pointer 117) .eql p0 .nilp) fun t13=>
 Zl t13
 (some ((.tuple [(.str []),(.int .i64 5)]),r6.2))
 (C2 p0 p3 r5.1 r6.1 H r6.2)
theorem Za9:C5 x10 H0 H =
 some ((.tuple [x10,(.int .i64 0)]),H):=Zb [3,6,9,12] (by kernel_rfl)
theorem Za8:C4 x0 x10 H0 H =
 Z0 (Wv [x0,x10] H) fun r34=>
 Z0 (Z5 .neq r34.1 (.int .i64 0)) fun t36=>
 Zl t36
 (some ((.tuple [(.str []),r34.1]),r34.2))
 (C5 x10 H0 r34.2):=Zb [3,6,9,12] (by kernel_rfl)
theorem Za7:C3 x0 x3 x5 x6 x10 H0 H =
 Z0 (Z4 true 6 x5 H) fun t24=>
 Z0 (Z4 true 5 x6 H) fun t25=>
 Z0 (Ze Jv [t24,t25,x3] H) fun r27=>
 Z0 (Wg [x0,x10,r27.1] r27.2) fun r28=>
 Z0 (Z5 .neq r28.1 (.int .i64 0)) fun t30=>
 Zl t30
 (some ((.tuple [(.str []),r28.1]),r28.2))
 (C4 x0 x10 H0 r28.2):=Zb [3,6,9,12] (by kernel_rfl)
theorem Za6:C2 x0 x3 x5 x6 H0 H =
 Z0 (X2 [x0] H) fun r16=>
 Z0 (ZC r16.1 0) fun t17=>
 Z0 (ZC r16.1 1) fun t18=>
 Z0 (Z5 .neq t18 (.int .i64 0)) fun t20=>
 Zl t20
 (some ((.tuple [(.str []),t18]),r16.2))
 (C3 x0 x3 x5 x6 t17 H0 r16.2):=Zb [3,6,9,12] (by kernel_rfl)
theorem Zan:TP [p0,p1,p2,p3] H=Hh p0 p1 p2 p3 H:=(Zc (C:=cfg) (fn:=Tryz.f30) (c:=Z1 Tryz.f30) (n:=39) [3,6,9,12] Tryz.func30 (by kernel_rfl) (by kernel_rfl) [p0,p1,p2,p3] (by kernel_rfl) H).trans (by kernel_rfl)
def AM:Z3:=Ya 32 11 (sub (Z1 Tryz.f32) [1,1]) (Zi cfg 11 32 Tryz.f32 H0) [(0,x0),(1,x1)] H
def IU:Z3:=
 Z0 (Yj (.pointer 117) .eql p0 .nilp) fun t6=>
 Zl t6
 (some (.nilp,H))
 (AM p0 p1 H H)
theorem ZbV:AM x0 x1 H0 H =
 Z0 ((YS [(0,1,x0),(1,1,x1)] [.nilp,(.str []),(.int .i64 0),(.bool false),(.bool false),(.str [])]).map .agg) fun t9=>
 Z0 (ZW t9 H) fun r10=>
 some (r10.1,r10.2):=Zb [3] (by kernel_rfl)
theorem Zck:Mk [p0,p1] H=IU p0 p1 H:=(Zc (C:=cfg) (fn:=Tryz.f32) (c:=Z1 Tryz.f32) (n:=11) [3] Tryz.func32 (by kernel_rfl) (by kernel_rfl) [p0,p1] (by kernel_rfl) H).trans (by kernel_rfl)
def QL:Z3:=Ya 33 24 (sub (Z1 Tryz.f33) [1,1,1]) (Zi cfg 24 33 Tryz.f33 H0) [(5,x5),(6,x6),(7,x7)] H
def Ft:Z3:=
 Z0 (Xo [p0] H) fun r10=>
 Z0 (ZC r10.1 0) fun t11=>
 Z0 (ZC r10.1 1) fun t12=>
 Z0 (ZC r10.1 2) fun t13=>
 Zl t12
 (Z0 (Zy p0) fun t17=>
 Z0 (Z8 3 t17) fun t18=>
 Z0 (Zh 1 t18 (.bool false) r10.2) fun r_7=>
 Z0 (Zy p0) fun t19=>
 Z0 (Z8 5 t19) fun t20=>
 Z0 (Zh 1 t20 (.str []) r_7.2) fun r_10=>
 QL t11 t12 t13 H r_10.2)
 (QL t11 t12 t13 H r10.2)
theorem Ga:QL x5 x6 x7 H0 H =
 some ((.tuple [x5,x6,x7]),H):=Zb [4] (by kernel_rfl)
theorem Lj:J7 [p0] H=Ft p0 H:=(Zc (C:=cfg) (fn:=Tryz.f33) (c:=Z1 Tryz.f33) (n:=24) [4] Tryz.func33 (by kernel_rfl) (by kernel_rfl) [p0] (by kernel_rfl) H).trans (by kernel_rfl)
def Dw:Z3:=Ya 36 68 (sub (Z1 Tryz.f36) [1,1,1,1]) (Zi cfg 68 36 Tryz.f36 H0) [(0,x0)] H
def Vr:Z3:=Ya 36 68 (sub (Z1 Tryz.f36) [1,1,1]) (Zi cfg 68 36 Tryz.f36 H0) [(0,x0)] H
def Dv:Z3:=Ya 36 68 (sub (Z1 Tryz.f36) [1,1]) (Zi cfg 68 36 Tryz.f36 H0) [(0,x0)] H
def VI:Z3:=
 Z0 (Yj (.pointer 125) .eql p0 .nilp) fun t9=>
 Zl t9
 (some ((.tuple [(.str []),(.bool false),(.int .i64 5)]),H))
 (Dv p0 H H)
theorem Gb:Dw x0 H0 H =
 Z0 (Zy x0) fun t65=>
 Z0 (Z8 5 t65) fun t66=>
 Z0 (Z4 false 1 t66 H) fun t67=>
 some ((.tuple [t67,(.bool true),(.int .i64 0)]),H):=Zb [3,11,13] (by kernel_rfl)
theorem YG:Vr x0 H0 H =
 Z0 (Zy x0) fun t60=>
 Z0 (Z8 3 t60) fun t61=>
 Z0 (Z4 false 1 t61 H) fun t62=>
 Z0 (Xa .not t62) fun t63=>
 Zl t63
 (some ((.tuple [(.str []),(.bool false),(.int .i64 0)]),H))
 (Dw x0 H0 H):=Zb [3,11,13] (by kernel_rfl)
theorem Yn:Dv x0 H0 H =
 Z0 (Zy x0) fun t11=>
 Z0 (Z8 3 t11) fun t12=>
 Z0 (Z4 false 1 t12 H) fun t13=>
 Z0 (Xa .not t13) fun t14=>
 Z0 (Z6 t14 true (.tuple []) (some x0)) fun t16=>
 Z0 (Z6 t14 true (.tuple []) (Zy t16)) fun t17=>
 Z0 (Z6 t14 true (.tuple []) (Z8 4 t17)) fun t18=>
 Z0 (Z6 t14 true (.tuple []) (Z4 false 1 t18 H)) fun t19=>
 Z0 (Z6 t14 true (.tuple []) (Xa .not t19)) fun t20=>
 Z0 (Zg t14 t20 (.bool false)) fun t21=>
 Zl t21
 (Z0 (Zy x0) fun t24=>
 Z0 (Z8 0 t24) fun t25=>
 Z0 (Z4 false 1 t25 H) fun t26=>
 Z0 (Zy x0) fun t28=>
 Z0 (Z8 1 t28) fun t29=>
 Z0 (Z4 false 1 t29 H) fun t30=>
 Z0 (Zy x0) fun t32=>
 Z0 (Z8 2 t32) fun t33=>
 Z0 (Z4 false 1 t33 H) fun t34=>
 Z0 (Wu [t26,t30,t34] H) fun r35=>
 Z0 (ZC r35.1 0) fun t36=>
 Z0 (ZC r35.1 1) fun t37=>
 Z0 (ZC r35.1 2) fun t38=>
 Z0 (Z5 .eql t38 (.int .i64 0)) fun t42=>
 Zl t42
 (Z0 (Zy x0) fun t48=>
 Z0 (Z8 5 t48) fun t49=>
 Z0 (Zh 1 t49 t36 r35.2) fun r_34=>
 Z0 (Zy x0) fun t50=>
 Z0 (Z8 2 t50) fun t51=>
 Z0 (Zh 1 t51 t37 r_34.2) fun r_37=>
 Z0 (Zy x0) fun t52=>
 Z0 (Z8 3 t52) fun t53=>
 Z0 (Zh 1 t53 (.bool true) r_37.2) fun r_40=>
 Vr x0 H0 r_40.2)
 (Z0 (Z5 .eql t38 (.int .i64 5)) fun t55=>
 Zl t55
 (Z0 (Zy x0) fun t57=>
 Z0 (Z8 4 t57) fun t58=>
 Z0 (Zh 1 t58 (.bool true) r35.2) fun r_44=>
 Vr x0 H0 r_44.2)
 (some ((.tuple [(.str []),(.bool false),t38]),r35.2))))
 (Vr x0 H0 H):=Zb [3,11,13] (by kernel_rfl)
theorem Ux:Xo [p0] H=VI p0 H:=(Zc (C:=cfg) (fn:=Tryz.f36) (c:=Z1 Tryz.f36) (n:=68) [3,11,13] Tryz.func36 (by kernel_rfl) (by kernel_rfl) [p0] (by kernel_rfl) H).trans (by kernel_rfl)
def Zau:Z3:=Ya 41 38 (sub (Z1 Tryz.f41) [1,1]) (Zi cfg 38 41 Tryz.f41 H0) [(0,x0)] H
def Br:KL:=Zd (DJ 41 38 Tryz.f41 [1,1]) (Zi cfg 38 41 Tryz.f41 H0)
theorem ND:ZT 38 (Br H0):=Zw (C:=cfg) (kp:=cfg.keep 41) (sub (Z1 Tryz.f41) [1,1]) (ZA 41 Tryz.f41 H0)
def Ec:Z3:=Ya 41 38 (sub (Z1 Tryz.f41) [1,0,1,0,0,1,1]) (Zd (Vw 41 38 Tryz.f41 [1,0,1,0,0]) (Z7 0 (Br H0))) [(0,x0),(3,x3)] H
def Ed:KL:=Zd (DJ 41 38 Tryz.f41 [1,0,1,0,0,1,1]) (Zd (Vw 41 38 Tryz.f41 [1,0,1,0,0]) (Z7 0 (Br H0)))
theorem Zaz:ZT 38 (Ed H0):=Zw (C:=cfg) (kp:=cfg.keep 41) (sub (Z1 Tryz.f41) [1,0,1,0,0,1,1]) (Mf (C:=cfg) (kp:=cfg.keep 41) (sub (Z1 Tryz.f41) [1,0,1,0,0]) (Zo 0 (ND H0)))
def Zaw:Z3:=Ya 41 38 (sub (Z1 Tryz.f41) [1,0,1,0,0,1,0,0,1]) (Z7 1 (Ed H0)) [(0,x0),(3,x3)] H
def T7:KL:=Zd (DJ 41 38 Tryz.f41 [1,0,1,0,0,1,0,0,1]) (Z7 1 (Ed H0))
theorem ZaA:ZT 38 (T7 H0):=Zw (C:=cfg) (kp:=cfg.keep 41) (sub (Z1 Tryz.f41) [1,0,1,0,0,1,0,0,1]) (Zo 1 (Zaz H0))
def Zay:Z3:=Ya 41 38 (sub (Z1 Tryz.f41) [1,0,1,0,0,1,0,0,0,1,0,0,1,1]) (Zd (Vw 41 38 Tryz.f41 [1,0,1,0,0,1,0,0,0,1,0,0]) (Z7 2 (T7 H0))) [(0,x0),(3,x3),(4,x4)] H
def Zax:Z3:=Ya 41 38 (sub (Z1 Tryz.f41) [1,0,1,0,0,1,0,0,0,1,0,0,1]) (Zd (Vw 41 38 Tryz.f41 [1,0,1,0,0,1,0,0,0,1,0,0]) (Z7 2 (T7 H0))) [(0,x0),(3,x3),(4,x4)] H
def Bs:Z3:=Mq 41 38 (sub (Z1 Tryz.f41) [1,0,1,0,0,1,0,0,0,1,0,0]) (Z7 2 (T7 H0)) [(0,x0),(3,x3),(4,x4)] H
def Zav:Z3:=Ya 41 38 (sub (Z1 Tryz.f41) [1,0,1,0,0,1]) (Zd (Vw 41 38 Tryz.f41 [1,0,1,0,0]) (Z7 0 (Br H0))) [(0,x0),(3,x3)] H
def T8:Z3:=Mq 41 38 (sub (Z1 Tryz.f41) [1,0,1,0,0]) (Z7 0 (Br H0)) [(0,x0),(3,x3)] H
def ZcU:Z3:=
 T8 p0 (.int .i64 0) H H
theorem ZdJ:Zau x0 H0 H =
 Z0 (Zk (.slice 32) x0) fun t36=>
 Z0 (Z5 .leq t36 (.int .i64 8)) fun t37=>
 some (t37,H):=Zb [3,4,6,7,9,11] (by kernel_rfl)
theorem ZdL:Ec x0 x3 H0 H =
 Z0 (Z5 .add x3 (.int .i64 1)) fun t10=>
 T8 x0 t10 H0 H:=Zb [3,4,6,7,9,11] (by kernel_rfl)
theorem ZdM:Zaw x0 x3 H0 H =
 Z0 (Zn 1 x0 x3) fun t31=>
 Z0 (Z4 false 1 t31 H) fun t32=>
 Z0 (Zk (.slice 9) t32) fun t33=>
 Z0 (Z5 .gtr t33 (.int .i64 30)) fun t34=>
 Zl t34
 (some ((.bool false),H))
 (Ec x0 x3 H0 H):=Zb [3,4,6,7,9,11] (by kernel_rfl)
theorem ZdO:Zay x0 x3 x4 H0 H =
 Z0 (Z5 .add x4 (.int .i64 1)) fun t19=>
 Bs x0 x3 t19 H0 H:=Zb [3,4,6,7,9,11] (by kernel_rfl)
theorem ZdN:Zax x0 x3 x4 H0 H =
 Z0 (Zn 1 x0 x3) fun t22=>
 Z0 (Z4 false 1 t22 H) fun t23=>
 Z0 (Zn 1 t23 x4) fun t25=>
 Z0 (Z4 false 1 t25 H) fun t26=>
 Z0 (Zk .string t26) fun t27=>
 Z0 (Z5 .gtr t27 (.int .i64 200)) fun t28=>
 Zl t28
 (some ((.bool false),H))
 (Zay x0 x3 x4 H0 H):=Zb [3,4,6,7,9,11] (by kernel_rfl)
theorem SA:Bs x0 x3 x4 H0 H =
 Z0 (Zn 1 x0 x3) fun t14=>
 Z0 (Z4 false 1 t14 H) fun t15=>
 Z0 (Zk (.slice 9) t15) fun t16=>
 Z0 (Z5 .lss x4 t16) fun t17=>
 Zl t17
 (Zax x0 x3 x4 H0 H)
 (Zaw x0 x3 H0 H):=(ZB (C:=cfg) [3,4,6,7,9,11] (Zo 2 (ZaA H0)) _ _).trans (by kernel_rfl)
theorem ZdK:Zav x0 x3 H0 H =
 Bs x0 x3 (.int .i64 0) H0 H:=Zb [3,4,6,7,9,11] (by kernel_rfl)
theorem Sz:T8 x0 x3 H0 H =
 Z0 (Zk (.slice 32) x0) fun t7=>
 Z0 (Z5 .lss x3 t7) fun t8=>
 Zl t8
 (Zav x0 x3 H0 H)
 (Zau x0 H0 H):=(ZB (C:=cfg) [3,4,6,7,9,11] (Zo 0 (ND H0)) _ _).trans (by kernel_rfl)
theorem Zeq:CV [p0] H=ZcU p0 H:=(Zc (C:=cfg) (fn:=Tryz.f41) (c:=Z1 Tryz.f41) (n:=38) [3,4,6,7,9,11] Tryz.func41 (by kernel_rfl) (by kernel_rfl) [p0] (by kernel_rfl) H).trans (by kernel_rfl)
def Hr:Z3:=Ya 42 70 (sub (Z1 Tryz.f42) [1,1,1,1]) (Zi cfg 70 42 Tryz.f42 H0) [(11,x11),(12,x12),(13,x13)] H
def Je:KL:=Zd (DJ 42 70 Tryz.f42 [1,1,1,1]) (Zi cfg 70 42 Tryz.f42 H0)
theorem Ir:ZT 70 (Je H0):=Zw (C:=cfg) (kp:=cfg.keep 42) (sub (Z1 Tryz.f42) [1,1,1,1]) (ZA 42 Tryz.f42 H0)
def Hs:Z3:=Ya 42 70 (sub (Z1 Tryz.f42) [1,1,1,0,1,0,0,1,1]) (Zd (Vw 42 70 Tryz.f42 [1,1,1,0,1,0,0]) (Z7 0 (Je H0))) [(2,x2),(3,x3),(4,x4),(5,x5),(11,x11),(12,x12),(13,x13),(14,x14)] H
def Ht:KL:=Zd (DJ 42 70 Tryz.f42 [1,1,1,0,1,0,0,1,1]) (Zd (Vw 42 70 Tryz.f42 [1,1,1,0,1,0,0]) (Z7 0 (Je H0)))
def Jd:Z3:=Ya 42 70 (sub (Z1 Tryz.f42) [1,1,1,0,1,0,0,1,0,0,1,1]) (Z7 1 (Ht H0)) [(2,x2),(3,x3),(4,x4),(5,x5),(11,x11),(12,x12),(13,x13),(14,x14),(15,x15)] H
def Zer:KL:=Zd (DJ 42 70 Tryz.f42 [1,1,1,0,1,0,0,1,0,0,1,1]) (Z7 1 (Ht H0))
def P3:Z3:=Ya 42 70 (sub (Z1 Tryz.f42) [1,1,1,0,1,0,0,1,0,0,1,0,1,1,1,1]) (Zer H0) [(2,x2),(3,x3),(4,x4),(5,x5),(11,x11),(12,x12),(13,x13),(14,x14),(15,x15)] H
def P2:Z3:=Ya 42 70 (sub (Z1 Tryz.f42) [1,1,1,0,1,0,0,1]) (Zd (Vw 42 70 Tryz.f42 [1,1,1,0,1,0,0]) (Z7 0 (Je H0))) [(2,x2),(3,x3),(4,x4),(5,x5),(11,x11),(13,x13),(14,x14)] H
def Bt:Z3:=Mq 42 70 (sub (Z1 Tryz.f42) [1,1,1,0,1,0,0]) (Z7 0 (Je H0)) [(2,x2),(3,x3),(4,x4),(5,x5),(11,x11),(12,x12),(13,x13),(14,x14)] H
def IL:Z3:=
 Z0 (ZW p0 H) fun r4=>
 Z0 (ZW p1 r4.2) fun r5=>
 Z0 (Ml [(.int .i64 262144)] r5.2) fun r17=>
 Z0 (QO [r17.1,(.str [109,101,114,103,101]),(.int .i64 262144)] r17.2) fun r18=>
 Z0 (ZC r18.1 0) fun t19=>
 Z0 (ZC r18.1 1) fun t20=>
 Bt p2 p3 r4.1 r5.1 t19 t20 .nils (.int .i64 0) H r18.2
theorem ZaB:Hr x11 x12 x13 H0 H =
 Z0 (Z5 .eql x12 (.int .i64 0)) fun t69=>
 some ((.tuple [x11,x13,t69]),H):=Zb [5,6,12,14,15] (by kernel_rfl)
theorem ZaC:Hs x2 x3 x4 x5 x11 x12 x13 x14 H0 H =
 Z0 (Z5 .add x14 (.int .i64 1)) fun t30=>
 Bt x2 x3 x4 x5 x11 x12 x13 t30 H0 H:=Zb [5,6,12,14,15] (by kernel_rfl)
theorem ZaD:Jd x2 x3 x4 x5 x11 x12 x13 x14 x15 H0 H =
 Z0 ((ZF 1 [(0,x15)] [(.str [])]).map (.vs 1 .clip)) fun t64=>
 Z0 (Y6 1 16 x13 t64 H) fun r65=>
 Hs x2 x3 x4 x5 x11 x12 r65.1 x14 H0 r65.2:=Zb [5,6,12,14,15] (by kernel_rfl)
theorem ZaE:P3 x2 x3 x4 x5 x11 x12 x13 x14 x15 H0 H =
 Z0 (Z5 .eql x12 (.int .i64 0)) fun t58=>
 Zl t58
 (Z0 (Wv [x11,x15] H) fun r61=>
 Jd x2 x3 x4 x5 x11 r61.1 x13 x14 x15 H0 r61.2)
 (Jd x2 x3 x4 x5 x11 x12 x13 x14 x15 H0 H):=Zb [5,6,12,14,15] (by kernel_rfl)
theorem NE:P2 x2 x3 x4 x5 x11 x13 x14 H0 H =
 Zl x3
 (Z0 (Z4 true 6 x4 H) fun t34=>
 Z0 (Z4 true 5 x5 H) fun t35=>
 Z0 (Zn 1 x2 x14) fun t38=>
 Z0 (Z4 false 1 t38 H) fun t39=>
 Z0 (TP [x11,t34,t35,t39] H) fun r40=>
 Z0 (ZC r40.1 0) fun t41=>
 Z0 (ZC r40.1 1) fun t42=>
 Jd x2 x3 x4 x5 x11 t42 x13 x14 t41 H0 r40.2)
 (Z0 (X2 [x11] H) fun r45=>
 Z0 (ZC r45.1 0) fun t46=>
 Z0 (ZC r45.1 1) fun t47=>
 Z0 (Z5 .eql t47 (.int .i64 0)) fun t49=>
 Zl t49
 (Z0 (Zn 1 x2 x14) fun t54=>
 Z0 (Z4 false 1 t54 r45.2) fun t55=>
 Z0 (Wg [x11,t46,t55] r45.2) fun r56=>
 P3 x2 x3 x4 x5 x11 r56.1 x13 x14 t46 H0 r56.2)
 (P3 x2 x3 x4 x5 x11 t47 x13 x14 t46 H0 r45.2)):=Zb [5,6,12,14,15] (by kernel_rfl)
theorem NF:Bt x2 x3 x4 x5 x11 x12 x13 x14 H0 H =
 Z0 (Zk (.slice 32) x2) fun t23=>
 Z0 (Z5 .lss x14 t23) fun t24=>
 Z0 (Z6 t24 true (.tuple []) (some x12)) fun t26=>
 Z0 (Z6 t24 true (.tuple []) (Z5 .eql t26 (.int .i64 0))) fun t27=>
 Z0 (Zg t24 t27 (.bool false)) fun t28=>
 Zl t28
 (P2 x2 x3 x4 x5 x11 x13 x14 H0 H)
 (Hr x11 x12 x13 H0 H):=(ZB (C:=cfg) [5,6,12,14,15] (Zo 0 (Ir H0)) _ _).trans (by kernel_rfl)
theorem Zcd:Fd [p0,p1,p2,p3] H=IL p0 p1 p2 p3 H:=(Zc (C:=cfg) (fn:=Tryz.f42) (c:=Z1 Tryz.f42) (n:=70) [5,6,12,14,15] Tryz.func42 (by kernel_rfl) (by kernel_rfl) [p0,p1,p2,p3] (by kernel_rfl) H).trans (by kernel_rfl)
def ZhM:Z3:=Ya 43 56 (sub (Z1 Tryz.f43) [1,1,1]) (Zi cfg 56 43 Tryz.f43 H0) [(6,x6)] H
def Bq:KL:=Zd (DJ 43 56 Tryz.f43 [1,1,1]) (Zi cfg 56 43 Tryz.f43 H0)
theorem Zas:ZT 56 (Bq H0):=Zw (C:=cfg) (kp:=cfg.keep 43) (sub (Z1 Tryz.f43) [1,1,1]) (ZA 43 Tryz.f43 H0)
def Zap:Z3:=Ya 43 56 (sub (Z1 Tryz.f43) [1,1,0,1,0,0,1,1]) (Zd (Vw 43 56 Tryz.f43 [1,1,0,1,0,0]) (Z7 0 (Bq H0))) [(0,x0),(1,x1),(6,x6),(7,x7)] H
def Zat:KL:=Zd (DJ 43 56 Tryz.f43 [1,1,0,1,0,0,1,1]) (Zd (Vw 43 56 Tryz.f43 [1,1,0,1,0,0]) (Z7 0 (Bq H0)))
def Zar:Z3:=Ya 43 56 (sub (Z1 Tryz.f43) [1,1,0,1,0,0,1,0,0,1,1,1]) (Z7 1 (Zat H0)) [(0,x0),(1,x1),(6,x6),(7,x7),(8,x8)] H
def Zaq:Z3:=Ya 43 56 (sub (Z1 Tryz.f43) [1,1,0,1,0,0,1,0,0,1,1]) (Z7 1 (Zat H0)) [(0,x0),(1,x1),(6,x6),(7,x7),(8,x8),(9,x9)] H
def Zao:Z3:=Ya 43 56 (sub (Z1 Tryz.f43) [1,1,0,1,0,0,1]) (Zd (Vw 43 56 Tryz.f43 [1,1,0,1,0,0]) (Z7 0 (Bq H0))) [(0,x0),(1,x1),(6,x6),(7,x7)] H
def T6:Z3:=Mq 43 56 (sub (Z1 Tryz.f43) [1,1,0,1,0,0]) (Z7 0 (Bq H0)) [(0,x0),(1,x1),(6,x6),(7,x7)] H
def ZcT:Z3:=
 T6 p0 p1 .nils (.int .i64 0) H H
theorem ZdH:Zap x0 x1 x6 x7 H0 H =
 Z0 (Z5 .add x7 (.int .i64 1)) fun t18=>
 T6 x0 x1 x6 t18 H0 H:=Zb [4,5,8,11,12] (by kernel_rfl)
theorem ZdI:Zar x0 x1 x6 x7 x8 H0 H =
 Z0 ((ZF 1 [(0,x8)] [(.str [])]).map (.vs 1 .clip)) fun t53=>
 Z0 (Y6 1 16 x6 t53 H) fun r54=>
 Zap x0 x1 r54.1 x7 H0 r54.2:=Zb [4,5,8,11,12] (by kernel_rfl)
theorem R7:Zaq x0 x1 x6 x7 x8 x9 H0 H =
 Z0 (Xa .not x9) fun t29=>
 Zl t29
 (Z0 (Ye [x0] H) fun r32=>
 Z0 (ZC r32.1 0) fun t33=>
 Z0 (ZC r32.1 1) fun t34=>
 Z0 (ZC r32.1 2) fun t35=>
 Z0 (Yh .eql x8 (.str [])) fun t38=>
 Z0 (Z6 t38 true (.tuple []) (some t33)) fun t40=>
 Z0 (Z6 t38 true (.tuple []) (Yh .eql t40 (.str []))) fun t41=>
 Z0 (Zg t38 t41 (.bool false)) fun t42=>
 Z0 (Z6 t42 true (.tuple []) (some t34)) fun t44=>
 Z0 (Z6 t42 true (.tuple []) (Xa .not t44)) fun t45=>
 Z0 (Zg t42 t45 (.bool false)) fun t46=>
 Z0 (Z6 t46 true (.tuple []) (some t35)) fun t48=>
 Z0 (Z6 t46 true (.tuple []) (Z5 .eql t48 (.int .i64 0))) fun t49=>
 Z0 (Zg t46 t49 (.bool false)) fun t50=>
 some ((.tuple [x6,t50]),r32.2))
 (Zar x0 x1 x6 x7 x8 H0 H):=Zb [4,5,8,11,12] (by kernel_rfl)
theorem R6:Zao x0 x1 x6 x7 H0 H =
 Z0 (Ye [x0] H) fun r21=>
 Z0 (ZC r21.1 0) fun t22=>
 Z0 (ZC r21.1 1) fun t23=>
 Z0 (ZC r21.1 2) fun t24=>
 Z0 (Z5 .neq t24 (.int .i64 0)) fun t26=>
 Zl t26
 (some ((.tuple [x6,(.bool false)]),r21.2))
 (Zaq x0 x1 x6 x7 t22 t23 H0 r21.2):=Zb [4,5,8,11,12] (by kernel_rfl)
theorem R8:T6 x0 x1 x6 x7 H0 H =
 Z0 (Z5 .leq x7 x1) fun t16=>
 Zl t16
 (Zao x0 x1 x6 x7 H0 H)
 (ZhM x6 H0 H):=(ZB (C:=cfg) [4,5,8,11,12] (Zo 0 (Zas H0)) _ _).trans (by kernel_rfl)
theorem Zep:GT [p0,p1] H=ZcT p0 p1 H:=(Zc (C:=cfg) (fn:=Tryz.f43) (c:=Z1 Tryz.f43) (n:=56) [4,5,8,11,12] Tryz.func43 (by kernel_rfl) (by kernel_rfl) [p0,p1] (by kernel_rfl) H).trans (by kernel_rfl)
def IT:Z3:=
 Z0 (ZW p0 H) fun r3=>
 Z0 (ZW p1 r3.2) fun r4=>
 Z0 (Z8 0 r4.1) fun t7=>
 Z0 (Z4 false 1 t7 r4.2) fun t8=>
 Z0 (Y6 5 40 .nils t8 r4.2) fun r9=>
 Z0 (Z8 0 r4.1) fun t10=>
 Z0 (Zh 1 t10 r9.1 r9.2) fun r_7=>
 X3 r4.1 r_7.2 fun z4 z4H=>
 Z0 (Z4 true 6 r3.1 z4H) fun t11=>
 Z0 (Ze Jw [t11] z4H) fun r12=>
 Z0 (Yr true 5 z4) fun t13=>
 Z0 (Z4 true 5 z4 r12.2) fun t14=>
 Z0 (Ze Wr [t14] r12.2) fun r15=>
 Z0 (Z5 .eql r15.1 (.int .i64 0)) fun t16=>
 Z0 (Y6 1 8 .nils p2 r15.2) fun r18=>
 Z0 ((YS [(0,6,r12.1),(6,5,t13),(11,1,t16),(12,1,r18.1)] [(.str []),.nils,(.str []),(.str []),.nils,.nils,.nils,(.int .i64 0),(.int .i64 0),(.bool false),(.bool false),(.bool false),.nils,(.str []),(.bool false)]).map .agg) fun t19=>
 Z0 (ZW t19 r18.2) fun r20=>
 some (r20.1,r20.2)
theorem Zcj:U4 [p0,p1,p2] H=IT p0 p1 p2 H:=(Zc (C:=cfg) (fn:=Tryz.f44) (c:=Z1 Tryz.f44) (n:=21) [] Tryz.func44 (by kernel_rfl) (by kernel_rfl) [p0,p1,p2] (by kernel_rfl) H).trans (by kernel_rfl)
def Lr:Z3:=Ya 45 23 (sub (Z1 Tryz.f45) [1,1,1]) (Zi cfg 23 45 Tryz.f45 H0) [(5,x5)] H
def JA:KL:=Zd (DJ 45 23 Tryz.f45 [1,1,1]) (Zi cfg 23 45 Tryz.f45 H0)
theorem Ce:ZT 23 (JA H0):=Zw (C:=cfg) (kp:=cfg.keep 45) (sub (Z1 Tryz.f45) [1,1,1]) (ZA 45 Tryz.f45 H0)
def Lt:Z3:=Ya 45 23 (sub (Z1 Tryz.f45) [1,1,0,1,0,0,1,1]) (Zd (Vw 45 23 Tryz.f45 [1,1,0,1,0,0]) (Z7 0 (JA H0))) [(0,x0),(1,x1),(5,x5),(6,x6)] H
def Ls:Z3:=Ya 45 23 (sub (Z1 Tryz.f45) [1,1,0,1,0,0,1]) (Zd (Vw 45 23 Tryz.f45 [1,1,0,1,0,0]) (Z7 0 (JA H0))) [(0,x0),(1,x1),(5,x5),(6,x6)] H
def JB:Z3:=Mq 45 23 (sub (Z1 Tryz.f45) [1,1,0,1,0,0]) (Z7 0 (JA H0)) [(0,x0),(1,x1),(5,x5),(6,x6)] H
def Sw:Z3:=
 JB p0 p1 .nils (.int .i64 0) H H
theorem Is:Lr x5 H0 H =
 some (x5,H):=Zb [4,5,6] (by kernel_rfl)
theorem Iv:Lt x0 x1 x5 x6 H0 H =
 Z0 (Z5 .add x6 (.int .i64 1)) fun t12=>
 JB x0 x1 x5 t12 H0 H:=Zb [4,5,6] (by kernel_rfl)
theorem Iu:Ls x0 x1 x5 x6 H0 H =
 Z0 (Zn 1 x1 x6) fun t17=>
 Z0 (Z4 false 1 t17 H) fun t18=>
 Z0 (Mk [x0,t18] H) fun r19=>
 Z0 ((ZF 1 [(0,r19.1)] [.nilp]).map (.vs 1 .clip)) fun t20=>
 Z0 (Y6 1 8 x5 t20 r19.2) fun r21=>
 Lt x0 x1 r21.1 x6 H0 r21.2:=Zb [4,5,6] (by kernel_rfl)
theorem RG:JB x0 x1 x5 x6 H0 H =
 Z0 (Zk (.slice 9) x1) fun t9=>
 Z0 (Z5 .lss x6 t9) fun t10=>
 Zl t10
 (Ls x0 x1 x5 x6 H0 H)
 (Lr x5 H0 H):=(ZB (C:=cfg) [4,5,6] (Zo 0 (Ce H0)) _ _).trans (by kernel_rfl)
theorem Oi:WA [p0,p1] H=Sw p0 p1 H:=(Zc (C:=cfg) (fn:=Tryz.f45) (c:=Z1 Tryz.f45) (n:=23) [4,5,6] Tryz.func45 (by kernel_rfl) (by kernel_rfl) [p0,p1] (by kernel_rfl) H).trans (by kernel_rfl)
def SB:Z3:=Ya 46 18 (sub (Z1 Tryz.f46) [1,1,1]) (Zi cfg 18 46 Tryz.f46 H0) [(3,x3)] H
def Gp:KL:=Zd (DJ 46 18 Tryz.f46 [1,1,1]) (Zi cfg 18 46 Tryz.f46 H0)
theorem Hu:ZT 18 (Gp H0):=Zw (C:=cfg) (kp:=cfg.keep 46) (sub (Z1 Tryz.f46) [1,1,1]) (ZA 46 Tryz.f46 H0)
def SD:Z3:=Ya 46 18 (sub (Z1 Tryz.f46) [1,1,0,1,0,0,1,1]) (Zd (Vw 46 18 Tryz.f46 [1,1,0,1,0,0]) (Z7 0 (Gp H0))) [(0,x0),(3,x3),(4,x4)] H
def SC:Z3:=Ya 46 18 (sub (Z1 Tryz.f46) [1,1,0,1,0,0,1]) (Zd (Vw 46 18 Tryz.f46 [1,1,0,1,0,0]) (Z7 0 (Gp H0))) [(0,x0),(3,x3),(4,x4)] H
def Gq:Z3:=Mq 46 18 (sub (Z1 Tryz.f46) [1,1,0,1,0,0]) (Z7 0 (Gp H0)) [(0,x0),(3,x3),(4,x4)] H
def CW:Z3:=
 Gq p0 .nils (.int .i64 0) H H
theorem On:SB x3 H0 H =
 some (x3,H):=Zb [4,5,6] (by kernel_rfl)
theorem Oq:SD x0 x3 x4 H0 H =
 Z0 (Z5 .add x4 (.int .i64 1)) fun t10=>
 Gq x0 x3 t10 H0 H:=Zb [4,5,6] (by kernel_rfl)
theorem Oo:SC x0 x3 x4 H0 H =
 Z0 (Zn 1 x0 x4) fun t14=>
 Z0 (Z4 false 1 t14 H) fun t15=>
 Z0 (Y6 1 16 x3 t15 H) fun r16=>
 SD x0 r16.1 x4 H0 r16.2:=Zb [4,5,6] (by kernel_rfl)
theorem P4:Gq x0 x3 x4 H0 H =
 Z0 (Zk (.slice 32) x0) fun t7=>
 Z0 (Z5 .lss x4 t7) fun t8=>
 Zl t8
 (SC x0 x3 x4 H0 H)
 (SB x3 H0 H):=(ZB (C:=cfg) [4,5,6] (Zo 0 (Hu H0)) _ _).trans (by kernel_rfl)
theorem Zah:TH [p0] H=CW p0 H:=(Zc (C:=cfg) (fn:=Tryz.f46) (c:=Z1 Tryz.f46) (n:=18) [4,5,6] Tryz.func46 (by kernel_rfl) (by kernel_rfl) [p0] (by kernel_rfl) H).trans (by kernel_rfl)
def P8:Z3:=Ya 47 26 (sub (Z1 Tryz.f47) [1,1,1]) (Zi cfg 26 47 Tryz.f47 H0) [] H
def UX:KL:=Zd (DJ 47 26 Tryz.f47 [1,1,1]) (Zi cfg 26 47 Tryz.f47 H0)
theorem Lu:ZT 26 (UX H0):=Zw (C:=cfg) (kp:=cfg.keep 47) (sub (Z1 Tryz.f47) [1,1,1]) (ZA 47 Tryz.f47 H0)
def Pa:Z3:=Ya 47 26 (sub (Z1 Tryz.f47) [1,1,0,1,0,0,1,1]) (Zd (Vw 47 26 Tryz.f47 [1,1,0,1,0,0]) (Z7 0 (UX H0))) [(0,x0),(1,x1),(5,x5)] H
def P9:Z3:=Ya 47 26 (sub (Z1 Tryz.f47) [1,1,0,1,0,0,1]) (Zd (Vw 47 26 Tryz.f47 [1,1,0,1,0,0]) (Z7 0 (UX H0))) [(0,x0),(1,x1),(5,x5)] H
def UY:Z3:=Mq 47 26 (sub (Z1 Tryz.f47) [1,1,0,1,0,0]) (Z7 0 (UX H0)) [(0,x0),(1,x1),(5,x5)] H
def P7:Z3:=Ya 47 26 (sub (Z1 Tryz.f47) [1,1]) (Zi cfg 26 47 Tryz.f47 H0) [(0,x0),(1,x1)] H
def Nt:Z3:=
 Z0 (Zk (.slice 9) p0) fun t7=>
 Z0 (Zk (.slice 9) p1) fun t9=>
 Z0 (Z5 .neq t7 t9) fun t10=>
 Zl t10
 (some ((.bool false),H))
 (P7 p0 p1 H H)
theorem Cg:P8 H0 H =
 some ((.bool true),H):=Zb [3,5,6,8] (by kernel_rfl)
theorem Ci:Pa x0 x1 x5 H0 H =
 Z0 (Z5 .add x5 (.int .i64 1)) fun t16=>
 UY x0 x1 t16 H0 H:=Zb [3,5,6,8] (by kernel_rfl)
theorem Ch:P9 x0 x1 x5 H0 H =
 Z0 (Zn 1 x0 x5) fun t19=>
 Z0 (Z4 false 1 t19 H) fun t20=>
 Z0 (Zn 1 x1 x5) fun t23=>
 Z0 (Z4 false 1 t23 H) fun t24=>
 Z0 (Yh .neq t20 t24) fun t25=>
 Zl t25
 (some ((.bool false),H))
 (Pa x0 x1 x5 H0 H):=Zb [3,5,6,8] (by kernel_rfl)
theorem Dj:UY x0 x1 x5 H0 H =
 Z0 (Zk (.slice 9) x0) fun t13=>
 Z0 (Z5 .lss x5 t13) fun t14=>
 Zl t14
 (P9 x0 x1 x5 H0 H)
 (P8 H0 H):=(ZB (C:=cfg) [3,5,6,8] (Zo 0 (Lu H0)) _ _).trans (by kernel_rfl)
theorem Cf:P7 x0 x1 H0 H =
 UY x0 x1 (.int .i64 0) H0 H:=Zb [3,5,6,8] (by kernel_rfl)
theorem CY:Bh [p0,p1] H=Nt p0 p1 H:=(Zc (C:=cfg) (fn:=Tryz.f47) (c:=Z1 Tryz.f47) (n:=26) [3,5,6,8] Tryz.func47 (by kernel_rfl) (by kernel_rfl) [p0,p1] (by kernel_rfl) H).trans (by kernel_rfl)
def Qb:Z3:=Ya 59 61 (sub (Z1 Tryz.f59) [1,1,0,0,0,1,1,1]) (Z7 1 (Zd (Vw 59 61 Tryz.f59 [1,1,0,0]) (Z7 0 (Zi cfg 61 59 Tryz.f59 H0)))) [(0,x0),(5,x5)] H
def Qa:Z3:=Ya 59 61 (sub (Z1 Tryz.f59) [1,1,0,0,0,1,1]) (Z7 1 (Zd (Vw 59 61 Tryz.f59 [1,1,0,0]) (Z7 0 (Zi cfg 61 59 Tryz.f59 H0)))) [(0,x0),(5,x5)] H
def XN:Z3:=Mq 59 61 (sub (Z1 Tryz.f59) [1,1,0,0]) (Z7 0 (Zi cfg 61 59 Tryz.f59 H0)) [(0,x0)] H
def D1:Z3:=Ya 59 61 (sub (Z1 Tryz.f59) [1,1]) (Zi cfg 61 59 Tryz.f59 H0) [(0,x0)] H
def Vj:Z3:=
 Z0 (Yj (.pointer 134) .eql p0 .nilp) fun t9=>
 Zl t9
 (some ((.tuple [(.str []),(.bool false),(.int .i64 5)]),H))
 (D1 p0 H H)
theorem Np:Qb x0 x5 H0 H =
 Z0 (Zy x0) fun t56=>
 Z0 (Z8 14 t56) fun t57=>
 Z0 (Zh 1 t57 (.bool true) H) fun r_7=>
 Z0 (Zy x0) fun t58=>
 Z0 (Z8 13 t58) fun t59=>
 Z0 (Zh 1 t59 x5 r_7.2) fun r_10=>
 some ((.tuple [x5,(.bool true),(.int .i64 0)]),r_10.2):=Zb [3,6,7] (by kernel_rfl)
theorem No:Qa x0 x5 H0 H =
 Z0 (Zy x0) fun t20=>
 Z0 (Z8 14 t20) fun t21=>
 Z0 (Z4 false 1 t21 H) fun t22=>
 Z0 (Z6 t22 true (.tuple []) (some x0)) fun t24=>
 Z0 (Z6 t22 true (.tuple []) (Zy t24)) fun t25=>
 Z0 (Z6 t22 true (.tuple []) (Z8 11 t25)) fun t26=>
 Z0 (Z6 t22 true (.tuple []) (Z4 false 1 t26 H)) fun t27=>
 Z0 (Zg t22 t27 (.bool false)) fun t28=>
 Z0 (Z6 t28 true (.tuple []) (some x0)) fun t30=>
 Z0 (Z6 t28 true (.tuple []) (Zy t30)) fun t31=>
 Z0 (Z6 t28 true (.tuple []) (Z8 6 t31)) fun t32=>
 Z0 (Z6 t28 true (.tuple []) (Z8 3 t32)) fun t33=>
 Z0 (Z6 t28 true (.tuple []) (Z4 false 1 t33 H)) fun t34=>
 Z0 (Zg t28 t34 (.bool false)) fun t35=>
 Z0 (Z6 t35 true (.tuple []) (some x0)) fun t37=>
 Z0 (Z6 t35 true (.tuple []) (Zy t37)) fun t38=>
 Z0 (Z6 t35 true (.tuple []) (Z8 0 t38)) fun t39=>
 Z0 (Z6 t35 true (.tuple []) (Z4 true 6 t39 H)) fun t40=>
 Z0 (Z6 t35 true (.tuple []) (some x0)) fun t41=>
 Z0 (Z6 t35 true (.tuple []) (Zy t41)) fun t42=>
 Z0 (Z6 t35 true (.tuple []) (Z8 6 t42)) fun t43=>
 Z0 (Z6 t35 true (.tuple []) (Z4 true 5 t43 H)) fun t44=>
 Z0 (Z6 t35 true (.tuple []) (some x0)) fun t45=>
 Z0 (Z6 t35 true (.tuple []) (Zy t45)) fun t46=>
 Z0 (Z6 t35 true (.tuple []) (Z8 13 t46)) fun t47=>
 Z0 (Z6 t35 true (.tuple []) (Z4 false 1 t47 H)) fun t48=>
 Z0 (Z6 t35 true (.tuple []) (some x5)) fun t49=>
 Z0 (Z6 t35 true ((.tuple []),H) (Ze XU [t40,t44,t48,t49] H)) fun r50=>
 Z0 (Z6 t35 true (.tuple []) (Z5 .eql r50.1 (.int .i64 0))) fun t51=>
 Z0 (Zg t35 t51 (.bool false)) fun t52=>
 Zl t52
 (XN x0 H0 r50.2)
 (Qb x0 x5 H0 r50.2):=Zb [3,6,7] (by kernel_rfl)
theorem X7:XN x0 H0 H =
 Z0 (W6 [x0] H) fun r12=>
 Z0 (ZC r12.1 0) fun t13=>
 Z0 (ZC r12.1 1) fun t14=>
 Z0 (ZC r12.1 2) fun t15=>
 Z0 (Xa .not t14) fun t17=>
 Zl t17
 (some ((.tuple [(.str []),(.bool false),t15]),r12.2))
 (Qa x0 t13 H0 r12.2):=(ZB (C:=cfg) [3,6,7] (Zo 0 (ZA 59 Tryz.f59 H0)) _ _).trans (by kernel_rfl)
theorem K9:D1 x0 H0 H =
 XN x0 H0 H:=Zb [3,6,7] (by kernel_rfl)
theorem U6:Ye [p0] H=Vj p0 H:=(Zc (C:=cfg) (fn:=Tryz.f59) (c:=Z1 Tryz.f59) (n:=61) [3,6,7] Tryz.func59 (by kernel_rfl) (by kernel_rfl) [p0] (by kernel_rfl) H).trans (by kernel_rfl)
def ZcF:Z3:=Ya 60 74 (sub (Z1 Tryz.f60) [1,1,1,1]) (Zi cfg 74 60 Tryz.f60 H0) [(0,x0),(3,x3),(5,x5),(6,x6),(10,x10)] H
def LK:Z3:=Ya 60 74 (sub (Z1 Tryz.f60) [1,1]) (Zi cfg 74 60 Tryz.f60 H0) [(0,x0),(3,x3),(5,x5),(6,x6)] H
def R5:Z3:=
 Z0 (ZW p1 H) fun r5=>
 Z0 (ZW p2 r5.2) fun r6=>
 Z0 (Yj (.pointer 117) .eql p0 .nilp) fun t22=>
 Zl t22
 (some ((.tuple [(.str []),(.int .i64 5)]),r6.2))
 (LK p0 p3 r5.1 r6.1 H r6.2)
theorem II:LK x0 x3 x5 x6 H0 H =
 Z0 (X2 [x0] H) fun r25=>
 Z0 (ZC r25.1 0) fun t26=>
 Z0 (ZC r25.1 1) fun t27=>
 Z0 (Z5 .neq t27 (.int .i64 0)) fun t29=>
 Zl t29
 (some ((.tuple [(.str []),t27]),r25.2))
 (ZcF x0 x3 x5 x6 t26 H0 r25.2):=Zb [3,6,9,11,12,16,17,20,23] (by kernel_rfl)
theorem TW:Qs [p0,p1,p2,p3] H=R5 p0 p1 p2 p3 H:=(Zc (C:=cfg) (fn:=Tryz.f60) (c:=Z1 Tryz.f60) (n:=74) [3,6,9,11,12,16,17,20,23] Tryz.func60 (by kernel_rfl) (by kernel_rfl) [p0,p1,p2,p3] (by kernel_rfl) H).trans (by kernel_rfl)
def Li:Z3:=
 Z0 (ZW p0 H) fun r1=>
 Z0 (some ((.ptr r1.2.length 0),r1.2++[.cells [(.str []),.nils,(.str []),(.str []),.nils,.nils]])) fun r2=>
 Z0 (Z8 1 r1.1) fun t3=>
 Z0 (Z4 false 1 t3 r2.2) fun t4=>
 Z0 (Y6 1 8 .nils t4 r2.2) fun r5=>
 Z0 (Z8 1 r1.1) fun t6=>
 Z0 (Zh 1 t6 r5.1 r5.2) fun r_7=>
 Z0 (Z8 4 r1.1) fun t7=>
 Z0 (Z4 false 1 t7 r_7.2) fun t8=>
 Z0 (Y6 5 48 .nils t8 r_7.2) fun r9=>
 Z0 (Z8 4 r1.1) fun t10=>
 Z0 (Zh 1 t10 r9.1 r9.2) fun r_12=>
 Z0 (Z8 5 r1.1) fun t11=>
 Z0 (Z4 false 1 t11 r_12.2) fun t12=>
 Z0 (Y6 2 24 .nils t12 r_12.2) fun r13=>
 Z0 (Z8 5 r1.1) fun t14=>
 Z0 (Zh 1 t14 r13.1 r13.2) fun r_17=>
 Z0 (Z4 true 6 r1.1 r_17.2) fun t15=>
 Z0 (Zh 6 r2.1 t15 r_17.2) fun r_19=>
 Z0 (Z4 true 6 r2.1 r_19.2) fun v2=>
 some (v2,r_19.2)
theorem Io:Jw [p0] H=Li p0 H:=(Zc (C:=cfg) (fn:=Tryz.f88) (c:=Z1 Tryz.f88) (n:=16) [] Tryz.func88 (by kernel_rfl) (by kernel_rfl) [p0] (by kernel_rfl) H).trans (by kernel_rfl)
def D3:Z3:=Ya 102 67 (sub (Z1 Tryz.f102) [1,1,1,1,1,1,1,1]) (Zi cfg 67 102 Tryz.f102 H0) [(13,x13)] H
def D2:Z3:=Ya 102 67 (sub (Z1 Tryz.f102) [1,1,1,1,1,1]) (Zi cfg 67 102 Tryz.f102 H0) [(1,x1),(5,x5)] H
def XO:Z3:=Ya 102 67 (sub (Z1 Tryz.f102) [1,1,1,1,1]) (Zi cfg 67 102 Tryz.f102 H0) [(1,x1),(5,x5),(7,x7)] H
def XP:KL:=Zd (DJ 102 67 Tryz.f102 [1,1,1,1,1]) (Zi cfg 67 102 Tryz.f102 H0)
theorem Ts:ZT 67 (XP H0):=Zw (C:=cfg) (kp:=cfg.keep 102) (sub (Z1 Tryz.f102) [1,1,1,1,1]) (ZA 102 Tryz.f102 H0)
def Qc:Z3:=Ya 102 67 (sub (Z1 Tryz.f102) [1,1,1,1,0,1,0,0,1,1,1]) (Zd (Vw 102 67 Tryz.f102 [1,1,1,1,0,1,0,0]) (Z7 0 (XP H0))) [(1,x1),(5,x5),(6,x6),(7,x7),(20,x20),(21,x21),(22,x22)] H
def EZ:KL:=Zd (DJ 102 67 Tryz.f102 [1,1,1,1,0,1,0,0,1,1,1]) (Zd (Vw 102 67 Tryz.f102 [1,1,1,1,0,1,0,0]) (Z7 0 (XP H0)))
def D5:Z3:=Ya 102 67 (sub (Z1 Tryz.f102) [1,1,1,1,0,1,0,0,1,1,0,0,1,1,1]) (Z7 1 (EZ H0)) [(1,x1),(5,x5),(6,x6),(7,x7),(8,x8),(10,x10),(11,x11),(20,x20),(21,x21),(22,x22)] H
def D4:Z3:=Ya 102 67 (sub (Z1 Tryz.f102) [1,1,1,1,0,1,0,0,1,1]) (Zd (Vw 102 67 Tryz.f102 [1,1,1,1,0,1,0,0]) (Z7 0 (XP H0))) [(1,x1),(5,x5),(6,x6),(7,x7),(20,x20),(21,x21),(22,x22),(23,x23)] H
def WL:Z3:=Mq 102 67 (sub (Z1 Tryz.f102) [1,1,1,1,0,1,0,0]) (Z7 0 (XP H0)) [(1,x1),(5,x5),(6,x6),(7,x7),(20,x20),(21,x21),(22,x22)] H
def QI:Z3:=
 Z0 (ZW p0 H) fun r1=>
 Z0 (some ((.ptr r1.2.length 0),r1.2++[.cells [(.str []),(.int .i64 0),(.bool false)]])) fun r5=>
 Z0 (some (.fn (.func 144) [] [r1.1])) fun t16=>
 Z0 (Z4 false 1 r1.1 r5.2) fun t17=>
 Z0 (Zy t17) fun t18=>
 Z0 (Z8 12 t18) fun t19=>
 Z0 (Z4 false 1 t19 r5.2) fun t20=>
 Z0 (Zk (.slice 52) t20) fun t21=>
 WL r1.1 r5.1 t16 (.int .i64 0) t20 t21 (.int .i64 0) H r5.2
theorem Nr:D3 x13 H0 H =
 some ((.tuple [x13,(.bool true),(.int .i64 0)]),H):=Zb [6,10,12,13,15,18] (by kernel_rfl)
theorem Nq:D2 x1 x5 H0 H =
 Z0 (Z4 false 1 x1 H) fun t51=>
 Z0 (Zy t51) fun t52=>
 Z0 (Z8 12 t52) fun t53=>
 Z0 (Z4 false 1 t53 H) fun t54=>
 Z0 (Z8 1 x5) fun t55=>
 Z0 (Z4 false 1 t55 H) fun t56=>
 Z0 (Zn 1 t54 t56) fun t57=>
 Z0 (Z4 false 1 t57 H) fun t58=>
 Z0 (J7 [t58] H) fun r59=>
 Z0 (ZC r59.1 0) fun t60=>
 Z0 (ZC r59.1 1) fun t61=>
 Z0 (ZC r59.1 2) fun t62=>
 Z0 (Z5 .neq t62 (.int .i64 0)) fun t64=>
 Zl t64
 (some ((.tuple [(.str []),(.bool false),t62]),r59.2))
 (D3 t60 H0 r59.2):=Zb [6,10,12,13,15,18] (by kernel_rfl)
theorem Vx:XO x1 x5 x7 H0 H =
 Z0 (Z5 .neq x7 (.int .i64 0)) fun t43=>
 Z0 (Z6 t43 false (.tuple []) (Z8 2 x5)) fun t45=>
 Z0 (Z6 t43 false (.tuple []) (Z4 false 1 t45 H)) fun t46=>
 Z0 (Z6 t43 false (.tuple []) (Xa .not t46)) fun t47=>
 Z0 (Zg t43 (.bool true) t47) fun t48=>
 Zl t48
 (some ((.tuple [(.str []),(.bool false),x7]),H))
 (D2 x1 x5 H0 H):=Zb [6,10,12,13,15,18] (by kernel_rfl)
theorem Ka:Qc x1 x5 x6 x7 x20 x21 x22 H0 H =
 Z0 (Z5 .add x22 (.int .i64 1)) fun t41=>
 WL x1 x5 x6 x7 x20 x21 t41 H0 H:=Zb [6,10,12,13,15,18] (by kernel_rfl)
theorem Kb:D5 x1 x5 x6 x7 x8 x10 x11 x20 x21 x22 H0 H =
 Zl x11
 (Z0 (Wa [x5,x8,x10,x6] H) fun r40=>
 Qc x1 x5 x6 x7 x20 x21 x22 H0 r40.2)
 (Qc x1 x5 x6 x7 x20 x21 x22 H0 H):=Zb [6,10,12,13,15,18] (by kernel_rfl)
theorem Vy:D4 x1 x5 x6 x7 x20 x21 x22 x23 H0 H =
 Z0 (Zn 1 x20 x22) fun t25=>
 Z0 (Z4 false 1 t25 H) fun t26=>
 Z0 (Xo [t26] H) fun r29=>
 Z0 (ZC r29.1 0) fun t30=>
 Z0 (ZC r29.1 1) fun t31=>
 Z0 (ZC r29.1 2) fun t32=>
 Z0 (Z5 .neq t32 (.int .i64 0)) fun t34=>
 Zl t34
 (XO x1 x5 t32 H0 r29.2)
 (D5 x1 x5 x6 x7 x22 t30 t31 x20 x21 x22 H0 r29.2):=Zb [6,10,12,13,15,18] (by kernel_rfl)
theorem XX:WL x1 x5 x6 x7 x20 x21 x22 H0 H =
 Z0 (Z5 .lss x22 x21) fun t23=>
 Zl t23
 (D4 x1 x5 x6 x7 x20 x21 x22 t23 H0 H)
 (XO x1 x5 x7 H0 H):=(ZB (C:=cfg) [6,10,12,13,15,18] (Zo 0 (Ts H0)) _ _).trans (by kernel_rfl)
theorem KP:W6 [p0] H=QI p0 H:=(Zc (C:=cfg) (fn:=Tryz.f102) (c:=Z1 Tryz.f102) (n:=67) [6,10,12,13,15,18] Tryz.func102 (by kernel_rfl) (by kernel_rfl) [p0] (by kernel_rfl) H).trans (by kernel_rfl)
def GV:Z3:=
 Z0 (Z4 false 1 p2 H) fun t6=>
 Z0 (Zy t6) fun t7=>
 Z0 (Z8 11 t7) fun t8=>
 Z0 (Z4 false 1 t8 H) fun t9=>
 Z0 (Z6 t9 true (.tuple []) (Z4 false 1 p2 H)) fun t11=>
 Z0 (Z6 t9 true (.tuple []) (Zy t11)) fun t12=>
 Z0 (Z6 t9 true (.tuple []) (Z8 0 t12)) fun t13=>
 Z0 (Z6 t9 true (.tuple []) (Z4 true 6 t13 H)) fun t14=>
 Z0 (Z6 t9 true (.tuple []) (Z4 false 1 p2 H)) fun t15=>
 Z0 (Z6 t9 true (.tuple []) (Zy t15)) fun t16=>
 Z0 (Z6 t9 true (.tuple []) (Z8 6 t16)) fun t17=>
 Z0 (Z6 t9 true (.tuple []) (Z4 true 5 t17 H)) fun t18=>
 Z0 (Z6 t9 true (.tuple []) (some p0)) fun t19=>
 Z0 (Z6 t9 true (.tuple []) (some p1)) fun t20=>
 Z0 (Z6 t9 true ((.tuple []),H) (Ze VG [t14,t18,t19,t20] H)) fun r21=>
 Z0 (Z6 t9 true (.tuple []) (Z5 .lss r21.1 (.int .i64 0))) fun t22=>
 Z0 (Zg t9 t22 (.bool false)) fun t23=>
 some (t23,r21.2)
theorem TX:Uv [p0,p1,p2] H=GV p0 p1 p2 H:=(Zc (C:=cfg) (fn:=Tryz.f144) (c:=Z1 Tryz.f144) (n:=24) [] Tryz.func144 (by kernel_rfl) (by kernel_rfl) [p0,p1,p2] (by kernel_rfl) H).trans (by kernel_rfl)
def Uw:Z3:=
 Z0 (Zy p0) fun t9=>
 Z0 (Z8 2 t9) fun t10=>
 Z0 (Z4 false 1 t10 H) fun t11=>
 Z0 (Xa .not t11) fun t12=>
 Z0 (Z6 t12 false (.tuple []) (some p3)) fun t14=>
 Z0 (Z6 t12 false (.tuple []) (some p2)) fun t15=>
 Z0 (Z6 t12 false (.tuple []) (some p0)) fun t16=>
 Z0 (Z6 t12 false (.tuple []) (Zy t16)) fun t17=>
 Z0 (Z6 t12 false (.tuple []) (Z8 0 t17)) fun t18=>
 Z0 (Z6 t12 false (.tuple []) (Z4 false 1 t18 H)) fun t19=>
 Z0 (Z6 t12 false ((.tuple []),H) (Yp cfg (Za cfg) t14 [t15,t19] H)) fun r20=>
 Z0 (Zg t12 (.bool true) r20.1) fun t21=>
 Zl t21
 (Z0 ((YS [(0,1,p2),(1,1,p1),(2,1,(.bool true))] [(.str []),(.int .i64 0),(.bool false)]).map .agg) fun t25=>
 Z0 (Zy p0) fun t26=>
 Z0 (Zh 3 t26 t25 r20.2) fun r_15=>
 some ((.tuple []),r_15.2))
 (some ((.tuple []),r20.2))
theorem Bg:Wa [p0,p1,p2,p3] H=Uw p0 p1 p2 p3 H:=(Zc (C:=cfg) (fn:=Tryz.f145) (c:=Z1 Tryz.f145) (n:=27) [] Tryz.func145 (by kernel_rfl) (by kernel_rfl) [p0,p1,p2,p3] (by kernel_rfl) H).trans (by kernel_rfl)
end
end Go.Am
