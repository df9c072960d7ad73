/-
  The functions of the translation over the abstract machine, a further part: written by program (wip/gen.py).
-/
import Derived.Test.YtehanadfidoodaaGreatDoorNkGx
namespace Go.Am
open Go.Proofs
set_option maxRecDepth 100000
set_option linter.unusedVariables false
set_option linter.unusedSimpArgs false
noncomputable abbrev ZK (f n:Nat):=Yl cfg (Za cfg) (Y8 cfg (cfg.keep f) n) (cfg.keep f) n Zd Z7
noncomputable abbrev P5 (f n:Nat):=Y8 cfg (cfg.keep f) n
noncomputable section
abbrev TF (f n:Nat)(F:Func)(p:List Nat):KL→AL→Hp→Z3:=fun k al H=>ZK f n (sub (Z1 F) p) k (ZR (cfg.keep f) (sub (Z1 F) p) al) H
abbrev UW (f n:Nat)(F:Func)(p:List Nat):KL→AL→Hp→Z3:=fun k al H=>P5 f n (sub (Z1 F) p) k (ZR (cfg.keep f) (sub (Z1 F) p) al) H
variable (p0 p1 p2 p3 x0 x1 x2 x3 x4 x5 x6 x7 x8 x9 x10 x11 x12 x13 x18 x19 x20 x21 x22 x23 x24:AV)(H0 H:Hp)
def N8:Z3:=ZK 28 39 (sub (Z1 Tryz.f28) [1,1,1,1]) (Zi cfg 39 28 Tryz.f28 H0) [(0,x0),(1,x1),(2,x2)] H
def GR:KL:=Zd (TF 28 39 Tryz.f28 [1,1,1,1]) (Zi cfg 39 28 Tryz.f28 H0)
theorem E1:ZT 39 (GR H0):=Zw (C:=cfg) (kp:=cfg.keep 28) (sub (Z1 Tryz.f28) [1,1,1,1]) (ZA 28 Tryz.f28 H0)
def Zad:Z3:=ZK 28 39 (sub (Z1 Tryz.f28) [1,1,1,0,1,0,0,1,1]) (Zd (UW 28 39 Tryz.f28 [1,1,1,0,1,0,0]) (Z7 0 (GR H0))) [(0,x0),(1,x1),(2,x2),(18,x18),(19,x19),(20,x20),(21,x21)] H
def N9:Z3:=P5 28 39 (sub (Z1 Tryz.f28) [1,1,1,0,1,0,0]) (Z7 0 (GR H0)) [(0,x0),(1,x1),(2,x2),(18,x18),(19,x19),(20,x20)] H
def N7:Z3:=ZK 28 39 (sub (Z1 Tryz.f28) [1,1,1]) (Zi cfg 39 28 Tryz.f28 H0) [(0,x0),(1,x1),(2,x2)] H
def N6:Z3:=ZK 28 39 (sub (Z1 Tryz.f28) [1,1]) (Zi cfg 39 28 Tryz.f28 H0) [(0,x0),(1,x1),(2,x2)] H
def NC:Z3:=
 Z0 (Yj (.pointer 120) .eql p0 .nilp) fun t12=>
 Zl t12
 (some ((.tuple [.nilp,(.int .i64 5)]),H))
 (N6 p0 p1 p2 H H)
theorem CT:N8 x0 x1 x2 H0 H =
 Z0 (some ((.map H.length),H++[.map [] 0])) fun r33=>
 Z0 ((YS [(0,1,x0),(1,1,x1),(3,1,r33.1)] [.nilp,(.str []),.nils,.nilm]).map .agg) fun t34=>
 Z0 (Gw (.int .i64 0) x2) fun t36=>
 Z0 ((YS [(0,4,t34),(4,1,t36)] [.nilp,(.str []),.nils,.nilm,(.int .i64 0),(.int .i64 0),(.bool false)]).map .agg) fun t37=>
 Z0 (ZW t37 r33.2) fun r38=>
 some ((.tuple [r38.1,(.int .i64 0)]),r38.2):=Zb [3,5,7,11,12] (by kernel_rfl)
theorem CU:N9 x0 x1 x2 x18 x19 x20 H0 H =
 Z0 (Z5 .lss x20 x19) fun t21=>
 Zl t21
 (Zad x0 x1 x2 x18 x19 x20 t21 H0 H)
 (N8 x0 x1 x2 H0 H):=(ZB (C:=cfg) [3,5,7,11,12] (Zo 0 (E1 H0)) _ _).trans (by kernel_rfl)
theorem CS:N7 x0 x1 x2 H0 H =
 Z0 (D7 Bk [x0,x1] H) fun r18=>
 Z0 (Zk (.slice 9) r18.1) fun t19=>
 N9 x0 x1 x2 r18.1 t19 (.int .i64 0) H0 r18.2:=Zb [3,5,7,11,12] (by kernel_rfl)
theorem CR:N6 x0 x1 x2 H0 H =
 Z0 (Ze V3 [x1] H) fun r14=>
 Z0 (Xa .not r14.1) fun t15=>
 Zl t15
 (some ((.tuple [.nilp,(.int .i64 4)]),r14.2))
 (N7 x0 x1 x2 H0 r14.2):=Zb [3,5,7,11,12] (by kernel_rfl)
theorem Hq:QO [p0,p1,p2] H=NC p0 p1 p2 H:=(Zc (C:=cfg) (fn:=Tryz.f28) (c:=Z1 Tryz.f28) (n:=39) [3,5,7,11,12] Tryz.func28 (by kernel_rfl) (by kernel_rfl) [p0,p1,p2] (by kernel_rfl) H).trans (by kernel_rfl)
def IW:Z3:=
 Z0 (Gw p0 (.int .i64 0)) fun t4=>
 Z0 (VJ t4 (.int .i64 262144)) fun t5=>
 Z0 (some ((.map H.length),H++[.map [] 0])) fun r6=>
 Z0 ((YS [(0,1,t5),(3,1,r6.1)] [(.int .i64 0),(.int .i64 0),(.int .i64 0),.nilm,(.bool false),(.int .i64 0)]).map .agg) fun t7=>
 Z0 (ZW t7 r6.2) fun r8=>
 some (r8.1,r8.2)
theorem Zcl:Ml [p0] H=IW p0 H:=(Zc (C:=cfg) (fn:=Tryz.f29) (c:=Z1 Tryz.f29) (n:=9) [] Tryz.func29 (by kernel_rfl) (by kernel_rfl) [p0] (by kernel_rfl) H).trans (by kernel_rfl)
def DB:Z3:=ZK 53 38 (sub (Z1 Tryz.f53) [1,1,1,1]) (Zi cfg 38 53 Tryz.f53 H0) [(3,x3)] H
def Vs:KL:=Zd (TF 53 38 Tryz.f53 [1,1,1,1]) (Zi cfg 38 53 Tryz.f53 H0)
theorem N1:ZT 38 (Vs H0):=Zw (C:=cfg) (kp:=cfg.keep 53) (sub (Z1 Tryz.f53) [1,1,1,1]) (ZA 53 Tryz.f53 H0)
def DD:Z3:=ZK 53 38 (sub (Z1 Tryz.f53) [1,1,1,0,1,0,0,1,1,1]) (Zd (UW 53 38 Tryz.f53 [1,1,1,0,1,0,0]) (Z7 0 (Vs H0))) [(0,x0),(3,x3),(10,x10),(11,x11),(12,x12)] H
def DC:Z3:=ZK 53 38 (sub (Z1 Tryz.f53) [1,1,1,0,1,0,0,1,1]) (Zd (UW 53 38 Tryz.f53 [1,1,1,0,1,0,0]) (Z7 0 (Vs H0))) [(0,x0),(3,x3),(10,x10),(11,x11),(12,x12),(13,x13)] H
def Vt:Z3:=P5 53 38 (sub (Z1 Tryz.f53) [1,1,1,0,1,0,0]) (Z7 0 (Vs H0)) [(0,x0),(3,x3),(10,x10),(11,x11),(12,x12)] H
def DA:Z3:=ZK 53 38 (sub (Z1 Tryz.f53) [1,1]) (Zi cfg 38 53 Tryz.f53 H0) [(0,x0)] H
def Fw:Z3:=
 Z0 (Yj (.pointer 120) .eql p0 .nilp) fun t8=>
 Zl t8
 (some (.nils,H))
 (DA p0 H H)
theorem MS:DB x3 H0 H =
 some (x3,H):=Zb [3,6,9,10] (by kernel_rfl)
theorem MU:DD x0 x3 x10 x11 x12 H0 H =
 Z0 (Z5 .add x12 (.int .i64 1)) fun t36=>
 Vt x0 x3 x10 x11 t36 H0 H:=Zb [3,6,9,10] (by kernel_rfl)
theorem MT:DC x0 x3 x10 x11 x12 x13 H0 H =
 Z0 (Zn 1 x10 x12) fun t14=>
 Z0 (Z4 false 1 t14 H) fun t15=>
 Z0 (Zy x0) fun t17=>
 Z0 (Z8 3 t17) fun t18=>
 Z0 (Z4 false 1 t18 H) fun t19=>
 Z0 (ZZ .string .nilp false t19 t15 H) fun t21=>
 Z0 (Zy t21) fun t25=>
 Z0 (Z8 0 t25) fun t26=>
 Z0 (Z4 false 1 t26 H) fun t27=>
 Z0 (Zk (.slice 5) t27) fun t28=>
 Z0 (Zy t21) fun t30=>
 Z0 (Z8 1 t30) fun t31=>
 Z0 (Z4 false 1 t31 H) fun t32=>
 Z0 ((YS [(0,1,t15),(1,1,t28),(2,1,t32)] [(.str []),(.int .i64 0),(.int .i64 0)]).map .agg) fun t33=>
 Z0 ((ZF 3 [(0,t33)] [(.agg [(.str []),(.int .i64 0),(.int .i64 0)])]).map (.vs 3 .clip)) fun t34=>
 Z0 (Y6 3 32 x3 t34 H) fun r35=>
 DD x0 r35.1 x10 x11 x12 H0 r35.2:=Zb [3,6,9,10] (by kernel_rfl)
theorem Gc:Vt x0 x3 x10 x11 x12 H0 H =
 Z0 (Z5 .lss x12 x11) fun t13=>
 Zl t13
 (DC x0 x3 x10 x11 x12 t13 H0 H)
 (DB x3 H0 H):=(ZB (C:=cfg) [3,6,9,10] (Zo 0 (N1 H0)) _ _).trans (by kernel_rfl)
theorem MR:DA x0 H0 H =
 Z0 (namesE.run [x0] H) fun r10=>
 Z0 (Zk (.slice 9) r10.1) fun t11=>
 Vt x0 .nils r10.1 t11 (.int .i64 0) H0 r10.2:=Zb [3,6,9,10] (by kernel_rfl)
theorem Lm:Wk [p0] H=Fw p0 H:=(Zc (C:=cfg) (fn:=Tryz.f53) (c:=Z1 Tryz.f53) (n:=38) [3,6,9,10] Tryz.func53 (by kernel_rfl) (by kernel_rfl) [p0] (by kernel_rfl) H).trans (by kernel_rfl)
def Kg:Z3:=ZK 58 47 (sub (Z1 Tryz.f58) [1,1,1,1]) (Zi cfg 47 58 Tryz.f58 H0) [(0,x0)] H
def XZ:KL:=Zd (TF 58 47 Tryz.f58 [1,1,1,1]) (Zi cfg 47 58 Tryz.f58 H0)
theorem Fa:ZT 47 (XZ H0):=Zw (C:=cfg) (kp:=cfg.keep 58) (sub (Z1 Tryz.f58) [1,1,1,1]) (ZA 58 Tryz.f58 H0)
def Ki:Z3:=ZK 58 47 (sub (Z1 Tryz.f58) [1,1,1,0,0,0,1,0,1,1]) (Z7 1 (Zd (UW 58 47 Tryz.f58 [1,1,1,0,0,0]) (Z7 0 (XZ H0)))) [(0,x0),(3,x3)] H
def Kh:Z3:=ZK 58 47 (sub (Z1 Tryz.f58) [1,1,1,0,0,0,1]) (Zd (UW 58 47 Tryz.f58 [1,1,1,0,0,0]) (Z7 0 (XZ H0))) [(0,x0)] H
def W2:Z3:=P5 58 47 (sub (Z1 Tryz.f58) [1,1,1,0,0,0]) (Z7 0 (XZ H0)) [(0,x0)] H
def Kf:Z3:=ZK 58 47 (sub (Z1 Tryz.f58) [1,1,1]) (Zi cfg 47 58 Tryz.f58 H0) [(0,x0)] H
def Kd:Z3:=ZK 58 47 (sub (Z1 Tryz.f58) [1,1]) (Zi cfg 47 58 Tryz.f58 H0) [(0,x0)] H
def KQ:Z3:=
 Z0 (Yj (.pointer 117) .eql p0 .nilp) fun t6=>
 Zl t6
 (some ((.int .i64 5),H))
 (Kd p0 H H)
theorem Rp:Kg x0 H0 H =
 Z0 (Zy x0) fun t45=>
 Z0 (Z8 6 t45) fun t46=>
 Z0 (Zh 1 t46 (.bool true) H) fun r_3=>
 some ((.int .i64 0),r_3.2):=Zb [3,5,6,10,11] (by kernel_rfl)
theorem Rr:Ki x0 x3 H0 H =
 Z0 (Zy x0) fun t40=>
 Z0 (Z8 0 t40) fun t41=>
 Z0 (forgetE.run [t41,x3] H) fun r43=>
 W2 x0 H0 r43.2:=Zb [3,5,6,10,11] (by kernel_rfl)
theorem Rq:Kh x0 H0 H =
 Z0 (Zy x0) fun t19=>
 Z0 (Z8 0 t19) fun t20=>
 Z0 (Z8 2 t20) fun t21=>
 Z0 (Z4 false 1 t21 H) fun t22=>
 Z0 (Zn 1 t22 (.int .i64 0)) fun t23=>
 Z0 (Z4 false 1 t23 H) fun t24=>
 Z0 (Zy x0) fun t26=>
 Z0 (Z8 0 t26) fun t27=>
 Z0 (Z8 0 t27) fun t28=>
 Z0 (Z4 false 1 t28 H) fun t29=>
 Z0 (UU [t29,t24] H) fun r31=>
 Z0 (Z5 .neq r31.1 (.int .i64 0)) fun t33=>
 Z0 (Z6 t33 true (.tuple []) (some r31.1)) fun t35=>
 Z0 (Z6 t33 true (.tuple []) (Z5 .neq t35 (.int .i64 5))) fun t36=>
 Z0 (Zg t33 t36 (.bool false)) fun t37=>
 Zl t37
 (some (r31.1,r31.2))
 (Ki x0 t24 H0 r31.2):=Zb [3,5,6,10,11] (by kernel_rfl)
theorem Qy:W2 x0 H0 H =
 Z0 (Zy x0) fun t12=>
 Z0 (Z8 0 t12) fun t13=>
 Z0 (Z8 2 t13) fun t14=>
 Z0 (Z4 false 1 t14 H) fun t15=>
 Z0 (Zk (.slice 9) t15) fun t16=>
 Z0 (Z5 .gtr t16 (.int .i64 0)) fun t17=>
 Zl t17
 (Kh x0 H0 H)
 (Kg x0 H0 H):=(ZB (C:=cfg) [3,5,6,10,11] (Zo 0 (Fa H0)) _ _).trans (by kernel_rfl)
theorem Ro:Kf x0 H0 H =
 W2 x0 H0 H:=Zb [3,5,6,10,11] (by kernel_rfl)
theorem Rn:Kd x0 H0 H =
 Z0 (Zy x0) fun t8=>
 Z0 (Z8 6 t8) fun t9=>
 Z0 (Z4 false 1 t9 H) fun t10=>
 Zl t10
 (some ((.int .i64 8),H))
 (Kf x0 H0 H):=Zb [3,5,6,10,11] (by kernel_rfl)
theorem T0:U5 [p0] H=KQ p0 H:=(Zc (C:=cfg) (fn:=Tryz.f58) (c:=Z1 Tryz.f58) (n:=47) [3,5,6,10,11] Tryz.func58 (by kernel_rfl) (by kernel_rfl) [p0] (by kernel_rfl) H).trans (by kernel_rfl)
def KH:Z3:=ZK 77 54 (sub (Z1 Tryz.f77) [1,1]) (Zi cfg 54 77 Tryz.f77 H0) [(0,x0)] H
def Ut:KL:=Zd (TF 77 54 Tryz.f77 [1,1]) (Zi cfg 54 77 Tryz.f77 H0)
theorem MZ:ZT 54 (Ut H0):=Zw (C:=cfg) (kp:=cfg.keep 77) (sub (Z1 Tryz.f77) [1,1]) (ZA 77 Tryz.f77 H0)
def KJ:Z3:=ZK 77 54 (sub (Z1 Tryz.f77) [1,0,1,0,0,1,1,1]) (Zd (UW 77 54 Tryz.f77 [1,0,1,0,0]) (Z7 0 (Ut H0))) [(0,x0),(7,x7),(8,x8)] H
def KI:Z3:=ZK 77 54 (sub (Z1 Tryz.f77) [1,0,1,0,0,1,1]) (Zd (UW 77 54 Tryz.f77 [1,0,1,0,0]) (Z7 0 (Ut H0))) [(0,x0),(7,x7),(8,x8),(9,x9)] H
def Uu:Z3:=P5 77 54 (sub (Z1 Tryz.f77) [1,0,1,0,0]) (Z7 0 (Ut H0)) [(0,x0),(7,x7),(8,x8)] H
def P1:Z3:=
 Z0 (Zk .string p0) fun t7=>
 Uu p0 t7 (.int .i64 0) H H
theorem Sn:KH x0 H0 H =
 Z0 (Yh .neq x0 (.str [])) fun t48=>
 Z0 (Z6 t48 true (.tuple []) (some x0)) fun t50=>
 Z0 (Z6 t48 true (.tuple []) (Zk .string t50)) fun t51=>
 Z0 (Z6 t48 true (.tuple []) (Z5 .leq t51 (.int .i64 16))) fun t52=>
 Z0 (Zg t48 t52 (.bool false)) fun t53=>
 some (t53,H):=Zb [3,8,9] (by kernel_rfl)
theorem Dc:KJ x0 x7 x8 H0 H =
 Z0 (Z5 .add x8 (.int .i64 1)) fun t46=>
 Uu x0 x7 t46 H0 H:=Zb [3,8,9] (by kernel_rfl)
theorem So:KI x0 x7 x8 x9 H0 H =
 Z0 (Zu x0 x8) fun t13=>
 Z0 (Z5 .eql t13 (.int .u8 95)) fun t15=>
 Z0 (Z6 t15 false (.tuple []) (some t13)) fun t17=>
 Z0 (Z6 t15 false (.tuple []) (Z5 .geq t17 (.int .u8 97))) fun t18=>
 Z0 (Z6 t15 false (.tuple []) (some t18)) fun t19=>
 Z0 (Z6 t19 true (.tuple []) (some t13)) fun t20=>
 Z0 (Z6 t19 true (.tuple []) (Z5 .leq t20 (.int .u8 122))) fun t21=>
 Z0 (Z6 t15 false (.tuple []) (Zg t19 t21 (.bool false))) fun t22=>
 Z0 (Zg t15 (.bool true) t22) fun t23=>
 Z0 (Z6 t23 false (.tuple []) (some t13)) fun t25=>
 Z0 (Z6 t23 false (.tuple []) (Z5 .geq t25 (.int .u8 65))) fun t26=>
 Z0 (Z6 t23 false (.tuple []) (some t26)) fun t27=>
 Z0 (Z6 t27 true (.tuple []) (some t13)) fun t28=>
 Z0 (Z6 t27 true (.tuple []) (Z5 .leq t28 (.int .u8 90))) fun t29=>
 Z0 (Z6 t23 false (.tuple []) (Zg t27 t29 (.bool false))) fun t30=>
 Z0 (Zg t23 (.bool true) t30) fun t31=>
 Z0 (Xa .not t31) fun t33=>
 Z0 (Z6 t33 true (.tuple []) (some x8)) fun t35=>
 Z0 (Z6 t33 true (.tuple []) (Z5 .eql t35 (.int .i64 0))) fun t36=>
 Z0 (Z6 t33 true (.tuple []) (some t36)) fun t37=>
 Z0 (Z6 t37 false (.tuple []) (some t13)) fun t38=>
 Z0 (Z6 t37 false (.tuple []) (Z5 .lss t38 (.int .u8 48))) fun t39=>
 Z0 (Z6 t33 true (.tuple []) (Zg t37 (.bool true) t39)) fun t40=>
 Z0 (Z6 t33 true (.tuple []) (some t40)) fun t41=>
 Z0 (Z6 t41 false (.tuple []) (some t13)) fun t42=>
 Z0 (Z6 t41 false (.tuple []) (Z5 .gtr t42 (.int .u8 57))) fun t43=>
 Z0 (Z6 t33 true (.tuple []) (Zg t41 (.bool true) t43)) fun t44=>
 Z0 (Zg t33 t44 (.bool false)) fun t45=>
 Zl t45
 (some ((.bool false),H))
 (KJ x0 x7 x8 H0 H):=Zb [3,8,9] (by kernel_rfl)
theorem WR:Uu x0 x7 x8 H0 H =
 Z0 (Z5 .lss x8 x7) fun t9=>
 Zl t9
 (KI x0 x7 x8 t9 H0 H)
 (KH x0 H0 H):=(ZB (C:=cfg) [3,8,9] (Zo 0 (MZ H0)) _ _).trans (by kernel_rfl)
theorem Cd:V3 [p0] H=P1 p0 H:=(Zc (C:=cfg) (fn:=Tryz.f77) (c:=Z1 Tryz.f77) (n:=54) [3,8,9] Tryz.func77 (by kernel_rfl) (by kernel_rfl) [p0] (by kernel_rfl) H).trans (by kernel_rfl)
def N4:Z3:=ZK 78 56 (sub (Z1 Tryz.f78) [1,1,1,1,1]) (Zi cfg 56 78 Tryz.f78 H0) [(5,x5)] H
def GQ:KL:=Zd (TF 78 56 Tryz.f78 [1,1,1,1,1]) (Zi cfg 56 78 Tryz.f78 H0)
theorem E0:ZT 56 (GQ H0):=Zw (C:=cfg) (kp:=cfg.keep 78) (sub (Z1 Tryz.f78) [1,1,1,1,1]) (ZA 78 Tryz.f78 H0)
def Zac:Z3:=ZK 78 56 (sub (Z1 Tryz.f78) [1,1,1,1,0,1,0,0,1,1]) (Zd (UW 78 56 Tryz.f78 [1,1,1,1,0,1,0,0]) (Z7 0 (GQ H0))) [(5,x5),(6,x6),(21,x21),(22,x22),(23,x23),(24,x24)] H
def N5:Z3:=P5 78 56 (sub (Z1 Tryz.f78) [1,1,1,1,0,1,0,0]) (Z7 0 (GQ H0)) [(5,x5),(6,x6),(21,x21),(22,x22),(23,x23)] H
def N3:Z3:=ZK 78 56 (sub (Z1 Tryz.f78) [1,1,1]) (Zi cfg 56 78 Tryz.f78 H0) [(0,x0),(1,x1),(5,x5)] H
def NB:Z3:=
 Z0 (Yj (.pointer 120) .eql p0 .nilp) fun t11=>
 Z0 (Z6 t11 false (.tuple []) (some p1)) fun t13=>
 Z0 (Z6 t11 false ((.tuple []),H) (Ze V3 [t13] H)) fun r14=>
 Z0 (Z6 t11 false (.tuple []) (Xa .not r14.1)) fun t15=>
 Z0 (Zg t11 (.bool true) t15) fun t16=>
 Zl t16
 (some (.nils,r14.2))
 (N3 p0 p1 .nils H r14.2)
theorem CP:N4 x5 H0 H =
 some (x5,H):=Zb [4,7,11,12] (by kernel_rfl)
theorem CQ:N5 x5 x6 x21 x22 x23 H0 H =
 Z0 (Z5 .lss x23 x22) fun t24=>
 Zl t24
 (Zac x5 x6 x21 x22 x23 t24 H0 H)
 (N4 x5 H0 H):=(ZB (C:=cfg) [4,7,11,12] (Zo 0 (E0 H0)) _ _).trans (by kernel_rfl)
theorem CO:N3 x0 x1 x5 H0 H =
 Z0 (Ze Ui [x1] H) fun r19=>
 Z0 (D7 Wk [x0] r19.2) fun r21=>
 Z0 (Zk (.slice 142) r21.1) fun t22=>
 N5 x5 r19.1 r21.1 t22 (.int .i64 0) H0 r21.2:=Zb [4,7,11,12] (by kernel_rfl)
theorem Ho:Bk [p0,p1] H=NB p0 p1 H:=(Zc (C:=cfg) (fn:=Tryz.f78) (c:=Z1 Tryz.f78) (n:=56) [4,7,11,12] Tryz.func78 (by kernel_rfl) (by kernel_rfl) [p0,p1] (by kernel_rfl) H).trans (by kernel_rfl)
def UI:Z3:=ZK 79 19 (sub (Z1 Tryz.f79) [1,1,1]) (Zi cfg 19 79 Tryz.f79 H0) [(6,x6)] H
def Bp:Z3:=
 Z0 (Xp [p0,p1] H) fun r10=>
 Z0 (ZC r10.1 0) fun t11=>
 Z0 (ZC r10.1 1) fun t12=>
 Z0 (Z5 .eql t12 (.int .i64 0)) fun t14=>
 Zl t14
 (Z0 (Ja [p0,p1] r10.2) fun r17=>
 UI t12 H r17.2)
 (UI t12 H r10.2)
theorem Vg:UI x6 H0 H =
 some (x6,H):=Zb [4] (by kernel_rfl)
theorem Nf:UU [p0,p1] H=Bp p0 p1 H:=(Zc (C:=cfg) (fn:=Tryz.f79) (c:=Z1 Tryz.f79) (n:=19) [4] Tryz.func79 (by kernel_rfl) (by kernel_rfl) [p0,p1] (by kernel_rfl) H).trans (by kernel_rfl)
def Bc:Z3:=ZK 80 63 (sub (Z1 Tryz.f80) [1,1,1,1,1]) (Zi cfg 63 80 Tryz.f80 H0) [(0,x0),(4,x4)] H
def Bb:Z3:=ZK 80 63 (sub (Z1 Tryz.f80) [1,1,1]) (Zi cfg 63 80 Tryz.f80 H0) [(0,x0)] H
def Ba:Z3:=ZK 80 63 (sub (Z1 Tryz.f80) [1,1]) (Zi cfg 63 80 Tryz.f80 H0) [(0,x0)] H
def UV:Z3:=
 Z0 (Yj (.pointer 117) .eql p0 .nilp) fun t7=>
 Zl t7
 (some ((.tuple [(.str []),(.int .i64 5)]),H))
 (Ba p0 H H)
theorem Na:Bc x0 x4 H0 H =
 Z0 (Zy x0) fun t44=>
 Z0 (Z8 5 t44) fun t45=>
 Z0 (Z4 false 1 t45 H) fun t46=>
 Z0 (Z5 .add t46 (.int .i64 1)) fun t47=>
 Z0 (Zy x0) fun t48=>
 Z0 (Z8 5 t48) fun t49=>
 Z0 (Zh 1 t49 t47 H) fun r_18=>
 Z0 (Zy x0) fun t52=>
 Z0 (Z8 0 t52) fun t53=>
 Z0 (Z8 2 t53) fun t54=>
 Z0 (Z4 false 1 t54 r_18.2) fun t55=>
 Z0 ((ZF 1 [(0,x4)] [(.str [])]).map (.vs 1 .clip)) fun t57=>
 Z0 (Y6 1 16 t55 t57 r_18.2) fun r58=>
 Z0 (Zy x0) fun t59=>
 Z0 (Z8 0 t59) fun t60=>
 Z0 (Z8 2 t60) fun t61=>
 Z0 (Zh 1 t61 r58.1 r58.2) fun r_28=>
 some ((.tuple [x4,(.int .i64 0)]),r_28.2):=Zb [3,5,9] (by kernel_rfl)
theorem Jt:Bb x0 H0 H =
 Z0 (Zy x0) fun t21=>
 Z0 (Z8 0 t21) fun t22=>
 Z0 (Z8 1 t22) fun t23=>
 Z0 (Z4 false 1 t23 H) fun t24=>
 Z0 (Ze Ui [t24] H) fun r25=>
 Z0 (Zy x0) fun t27=>
 Z0 (Z8 5 t27) fun t28=>
 Z0 (Z4 false 1 t28 r25.2) fun t29=>
 Z0 (Z5 .add t29 (.int .i64 1)) fun t30=>
 Z0 (Ze TO [t30] r25.2) fun r31=>
 Z0 (Yh .add r25.1 r31.1) fun t32=>
 Z0 (Zy x0) fun t34=>
 Z0 (Z8 0 t34) fun t35=>
 Z0 (Z8 0 t35) fun t36=>
 Z0 (Z4 false 1 t36 r31.2) fun t37=>
 Z0 (UT [t37,t32] r31.2) fun r39=>
 Z0 (Z5 .neq r39.1 (.int .i64 0)) fun t41=>
 Zl t41
 (some ((.tuple [(.str []),r39.1]),r39.2))
 (Bc x0 t32 H0 r39.2):=Zb [3,5,9] (by kernel_rfl)
theorem XT:Ba x0 H0 H =
 Z0 (Zy x0) fun t9=>
 Z0 (Z8 6 t9) fun t10=>
 Z0 (Z4 false 1 t10 H) fun t11=>
 Z0 (Z6 t11 false (.tuple []) (some x0)) fun t13=>
 Z0 (Z6 t11 false (.tuple []) (Zy t13)) fun t14=>
 Z0 (Z6 t11 false (.tuple []) (Z8 0 t14)) fun t15=>
 Z0 (Z6 t11 false (.tuple []) (Z8 0 t15)) fun t16=>
 Z0 (Z6 t11 false (.tuple []) (Z4 false 1 t16 H)) fun t17=>
 Z0 (Z6 t11 false (.tuple []) (Yj (.pointer 120) .eql t17 .nilp)) fun t18=>
 Z0 (Zg t11 (.bool true) t18) fun t19=>
 Zl t19
 (some ((.tuple [(.str []),(.int .i64 8)]),H))
 (Bb x0 H0 H):=Zb [3,5,9] (by kernel_rfl)
theorem JZ:X2 [p0] H=UV p0 H:=(Zc (C:=cfg) (fn:=Tryz.f80) (c:=Z1 Tryz.f80) (n:=63) [3,5,9] Tryz.func80 (by kernel_rfl) (by kernel_rfl) [p0] (by kernel_rfl) H).trans (by kernel_rfl)
def Kn:Z3:=ZK 81 51 (sub (Z1 Tryz.f81) [1,1,1,1,1,1]) (Zi cfg 51 81 Tryz.f81 H0) [(0,x0),(1,x1),(8,x8)] H
def Km:Z3:=ZK 81 51 (sub (Z1 Tryz.f81) [1,1,1,1,1]) (Zi cfg 51 81 Tryz.f81 H0) [(0,x0),(1,x1),(8,x8)] H
def Kk:Z3:=ZK 81 51 (sub (Z1 Tryz.f81) [1,1,1]) (Zi cfg 51 81 Tryz.f81 H0) [(0,x0),(1,x1),(2,x2)] H
def Kj:Z3:=ZK 81 51 (sub (Z1 Tryz.f81) [1,1]) (Zi cfg 51 81 Tryz.f81 H0) [(0,x0),(1,x1),(2,x2)] H
def KR:Z3:=
 Z0 (Xq [p0,p1] H) fun r12=>
 Z0 (Z5 .neq r12.1 (.int .i64 0)) fun t14=>
 Zl t14
 (some (r12.1,r12.2))
 (Kj p0 p1 p2 H r12.2)
theorem Rs:Kn x0 x1 x8 H0 H =
 Z0 (Zy x0) fun t44=>
 Z0 (Z8 0 t44) fun t45=>
 Z0 (Z8 0 t45) fun t46=>
 Z0 (Z4 false 1 t46 H) fun t47=>
 Z0 (US [t47,x1,x8] H) fun r50=>
 some (r50.1,r50.2):=Zb [4,6,9,11] (by kernel_rfl)
theorem Qz:Km x0 x1 x8 H0 H =
 Z0 (Zk .string x8) fun t32=>
 Z0 (Zy x0) fun t34=>
 Z0 (Z8 4 t34) fun t35=>
 Z0 (Z4 false 1 t35 H) fun t36=>
 Z0 (Zy x0) fun t38=>
 Z0 (Z8 0 t38) fun t39=>
 Z0 (D7 Wh [t39] H) fun r40=>
 Z0 (Z5 .sub t36 r40.1) fun t41=>
 Z0 (Z5 .gtr t32 t41) fun t42=>
 Zl t42
 (some ((.int .i64 11),r40.2))
 (Kn x0 x1 x8 H0 r40.2):=Zb [4,6,9,11] (by kernel_rfl)
theorem WC:Kk x0 x1 x2 H0 H =
 Z0 (Ze DK [x2] H) fun r25=>
 Z0 (ZC r25.1 0) fun t26=>
 Z0 (ZC r25.1 1) fun t27=>
 Z0 (Z5 .neq t27 (.int .i64 0)) fun t29=>
 Zl t29
 (some (t27,r25.2))
 (Km x0 x1 t26 H0 r25.2):=Zb [4,6,9,11] (by kernel_rfl)
theorem Xk:Kj x0 x1 x2 H0 H =
 Z0 (Zy x0) fun t17=>
 Z0 (Z8 0 t17) fun t18=>
 Z0 (Z8 3 t18) fun t19=>
 Z0 (Z4 false 1 t19 H) fun t20=>
 Z0 (ZZ .string (.bool false) false t20 x1 H) fun t22=>
 Zl t22
 (some ((.int .i64 8),H))
 (Kk x0 x1 x2 H0 H):=Zb [4,6,9,11] (by kernel_rfl)
theorem T4:Wg [p0,p1,p2] H=KR p0 p1 p2 H:=(Zc (C:=cfg) (fn:=Tryz.f81) (c:=Z1 Tryz.f81) (n:=51) [4,6,9,11] Tryz.func81 (by kernel_rfl) (by kernel_rfl) [p0,p1,p2] (by kernel_rfl) H).trans (by kernel_rfl)
def Gk:Z3:=ZK 82 29 (sub (Z1 Tryz.f82) [1,1,1]) (Zi cfg 29 82 Tryz.f82 H0) [(0,x0),(1,x1)] H
def Gj:Z3:=ZK 82 29 (sub (Z1 Tryz.f82) [1,1]) (Zi cfg 29 82 Tryz.f82 H0) [(0,x0),(1,x1)] H
def GW:Z3:=
 Z0 (Xq [p0,p1] H) fun r9=>
 Z0 (Z5 .neq r9.1 (.int .i64 0)) fun t11=>
 Zl t11
 (some (r9.1,r9.2))
 (Gj p0 p1 H r9.2)
theorem Tz:Gk x0 x1 H0 H =
 Z0 (Zy x0) fun t24=>
 Z0 (Z8 0 t24) fun t25=>
 Z0 (Z8 3 t25) fun t26=>
 Z0 (Z4 false 1 t26 H) fun t27=>
 Z0 (Xb .string t27 x1 (.bool true) H) fun r_5=>
 some ((.int .i64 0),r_5.2):=Zb [4,7] (by kernel_rfl)
theorem J2:Gj x0 x1 H0 H =
 Z0 (Zy x0) fun t14=>
 Z0 (Z8 0 t14) fun t15=>
 Z0 (Z8 0 t15) fun t16=>
 Z0 (Z4 false 1 t16 H) fun t17=>
 Z0 (J9 [t17,x1] H) fun r19=>
 Z0 (Z5 .neq r19.1 (.int .i64 0)) fun t21=>
 Zl t21
 (some (r19.1,r19.2))
 (Gk x0 x1 H0 r19.2):=Zb [4,7] (by kernel_rfl)
theorem TZ:Wv [p0,p1] H=GW p0 p1 H:=(Zc (C:=cfg) (fn:=Tryz.f82) (c:=Z1 Tryz.f82) (n:=29) [4,7] Tryz.func82 (by kernel_rfl) (by kernel_rfl) [p0,p1] (by kernel_rfl) H).trans (by kernel_rfl)
def Gi:Z3:=ZK 86 49 (sub (Z1 Tryz.f86) [1,1,1,1,1,1,1]) (Zi cfg 49 86 Tryz.f86 H0) [(2,x2),(12,x12),(13,x13)] H
def Gh:Z3:=ZK 86 49 (sub (Z1 Tryz.f86) [1,1,1,1,1]) (Zi cfg 49 86 Tryz.f86 H0) [(2,x2),(10,x10)] H
def Gg:Z3:=ZK 86 49 (sub (Z1 Tryz.f86) [1,1,1,1]) (Zi cfg 49 86 Tryz.f86 H0) [(2,x2),(10,x10)] H
def Gf:Z3:=ZK 86 49 (sub (Z1 Tryz.f86) [1,1]) (Zi cfg 49 86 Tryz.f86 H0) [(0,x0),(1,x1),(2,x2)] H
def Uy:Z3:=
 Z0 (Xq [p0,p1] H) fun r16=>
 Z0 (Z5 .neq r16.1 (.int .i64 0)) fun t18=>
 Zl t18
 (some ((.tuple [(.str []),(.int .i64 0),r16.1]),r16.2))
 (Gf p0 p1 p2 H r16.2)
theorem Ty:Gi x2 x12 x13 H0 H =
 Z0 (Z5 .add x2 x13) fun t48=>
 some ((.tuple [x12,t48,(.int .i64 0)]),H):=Zb [4,7,9,12] (by kernel_rfl)
theorem Tx:Gh x2 x10 H0 H =
 Z0 (Ze TJ [x10,(.int .i64 0)] H) fun r38=>
 Z0 (ZC r38.1 0) fun t39=>
 Z0 (ZC r38.1 1) fun t40=>
 Z0 (ZC r38.1 2) fun t41=>
 Z0 (Z5 .neq t41 (.int .i64 0)) fun t43=>
 Zl t43
 (some ((.tuple [(.str []),(.int .i64 0),t41]),r38.2))
 (Gi x2 t39 t40 H0 r38.2):=Zb [4,7,9,12] (by kernel_rfl)
theorem J1:Gg x2 x10 H0 H =
 Z0 (Yh .eql x10 (.str [])) fun t35=>
 Zl t35
 (some ((.tuple [(.str []),(.int .i64 0),(.int .i64 5)]),H))
 (Gh x2 x10 H0 H):=Zb [4,7,9,12] (by kernel_rfl)
theorem J0:Gf x0 x1 x2 H0 H =
 Z0 (Zy x0) fun t22=>
 Z0 (Z8 0 t22) fun t23=>
 Z0 (Z8 0 t23) fun t24=>
 Z0 (Z4 false 1 t24 H) fun t25=>
 Z0 (J8 [t25,x1,x2,(.int .i64 4102)] H) fun r28=>
 Z0 (ZC r28.1 0) fun t29=>
 Z0 (ZC r28.1 1) fun t30=>
 Z0 (Z5 .neq t30 (.int .i64 0)) fun t32=>
 Zl t32
 (some ((.tuple [(.str []),(.int .i64 0),t30]),r28.2))
 (Gg x2 t29 H0 r28.2):=Zb [4,7,9,12] (by kernel_rfl)
theorem Jc:Wu [p0,p1,p2] H=Uy p0 p1 p2 H:=(Zc (C:=cfg) (fn:=Tryz.f86) (c:=Z1 Tryz.f86) (n:=49) [4,7,9,12] Tryz.func86 (by kernel_rfl) (by kernel_rfl) [p0,p1,p2] (by kernel_rfl) H).trans (by kernel_rfl)
def Ko:Z3:=ZK 103 29 (sub (Z1 Tryz.f103) [1,1,1]) (Zi cfg 29 103 Tryz.f103 H0) [(3,x3)] H
def W3:KL:=Zd (TF 103 29 Tryz.f103 [1,1,1]) (Zi cfg 29 103 Tryz.f103 H0)
theorem Fb:ZT 29 (W3 H0):=Zw (C:=cfg) (kp:=cfg.keep 103) (sub (Z1 Tryz.f103) [1,1,1]) (ZA 103 Tryz.f103 H0)
def Vz:Z3:=ZK 103 29 (sub (Z1 Tryz.f103) [1,1,0,1,0,0,1,1,1]) (Zd (UW 103 29 Tryz.f103 [1,1,0,1,0,0]) (Z7 0 (W3 H0))) [(0,x0),(3,x3),(10,x10),(11,x11),(12,x12)] H
def Kp:Z3:=ZK 103 29 (sub (Z1 Tryz.f103) [1,1,0,1,0,0,1,1]) (Zd (UW 103 29 Tryz.f103 [1,1,0,1,0,0]) (Z7 0 (W3 H0))) [(0,x0),(3,x3),(10,x10),(11,x11),(12,x12),(13,x13)] H
def W4:Z3:=P5 103 29 (sub (Z1 Tryz.f103) [1,1,0,1,0,0]) (Z7 0 (W3 H0)) [(0,x0),(3,x3),(10,x10),(11,x11),(12,x12)] H
def KS:Z3:=
 Z0 (Zy p0) fun t7=>
 Z0 (Z8 0 t7) fun t8=>
 Z0 (Z4 false 1 t8 H) fun t9=>
 Z0 (D7 Wk [t9] H) fun r10=>
 Z0 (Zk (.slice 142) r10.1) fun t11=>
 W4 p0 (.int .i64 0) r10.1 t11 (.int .i64 0) H r10.2
theorem Rt:Ko x3 H0 H =
 some (x3,H):=Zb [4,7,8] (by kernel_rfl)
theorem QA:Vz x0 x3 x10 x11 x12 H0 H =
 Z0 (Z5 .add x12 (.int .i64 1)) fun t27=>
 W4 x0 x3 x10 x11 t27 H0 H:=Zb [4,7,8] (by kernel_rfl)
theorem Ru:Kp x0 x3 x10 x11 x12 x13 H0 H =
 Z0 (Zn 3 x10 x12) fun t14=>
 Z0 (Z4 true 3 t14 H) fun t15=>
 Z0 (some ((.ptr H.length 0),H++[.cells [(.str []),(.int .i64 0),(.int .i64 0)]])) fun r5=>
 Z0 (Zh 3 r5.1 t15 r5.2) fun r_11=>
 Z0 (Zy x0) fun t17=>
 Z0 (Z8 2 t17) fun t18=>
 Z0 (Z4 false 1 t18 r_11.2) fun t19=>
 Z0 (Z8 0 r5.1) fun t20=>
 Z0 (Z4 false 1 t20 r_11.2) fun t21=>
 Z0 (Ze Yu [t19,t21] r_11.2) fun r22=>
 Zl r22.1
 (Z0 (Z8 1 r5.1) fun t24=>
 Z0 (Z4 false 1 t24 r22.2) fun t25=>
 Z0 (Z5 .add x3 t25) fun t26=>
 Vz x0 t26 x10 x11 x12 H0 r22.2)
 (Vz x0 x3 x10 x11 x12 H0 r22.2):=Zb [4,7,8] (by kernel_rfl)
theorem QB:W4 x0 x3 x10 x11 x12 H0 H =
 Z0 (Z5 .lss x12 x11) fun t13=>
 Zl t13
 (Kp x0 x3 x10 x11 x12 t13 H0 H)
 (Ko x3 H0 H):=(ZB (C:=cfg) [4,7,8] (Zo 0 (Fb H0)) _ _).trans (by kernel_rfl)
theorem T5:Wh [p0] H=KS p0 H:=(Zc (C:=cfg) (fn:=Tryz.f103) (c:=Z1 Tryz.f103) (n:=29) [4,7,8] Tryz.func103 (by kernel_rfl) (by kernel_rfl) [p0] (by kernel_rfl) H).trans (by kernel_rfl)
def RC:Z3:=
 Z0 (Yh .add (.str [46,116,109,112,46]) p0) fun t4=>
 Z0 (Yh .add t4 (.str [46])) fun t5=>
 some (t5,H)
theorem E8:Ui [p0] H=RC p0 H:=(Zc (C:=cfg) (fn:=Tryz.f114) (c:=Z1 Tryz.f114) (n:=6) [] Tryz.func114 (by kernel_rfl) (by kernel_rfl) [p0] (by kernel_rfl) H).trans (by kernel_rfl)
def DI:Z3:=ZK 116 20 (sub (Z1 Tryz.f116) [1,1,1,1,1]) (Zi cfg 20 116 Tryz.f116 H0) [(6,x6)] H
def DH:Z3:=ZK 116 20 (sub (Z1 Tryz.f116) [1,1,1]) (Zi cfg 20 116 Tryz.f116 H0) [(0,x0),(1,x1)] H
def DG:Z3:=ZK 116 20 (sub (Z1 Tryz.f116) [1,1]) (Zi cfg 20 116 Tryz.f116 H0) [(0,x0),(1,x1)] H
def FA:Z3:=
 Z0 (Yj (.pointer 120) .eql p0 .nilp) fun t8=>
 Zl t8
 (some ((.tuple [.nilp,(.int .i64 5)]),H))
 (DG p0 p1 H H)
theorem MX:DI x6 H0 H =
 some ((.tuple [x6,(.int .i64 0)]),H):=Zb [3,5,8] (by kernel_rfl)
theorem Gd:DH x0 x1 H0 H =
 Z0 (Zy x0) fun t12=>
 Z0 (Z8 3 t12) fun t13=>
 Z0 (Z4 false 1 t13 H) fun t14=>
 Z0 (ZZ .string .nilp false t14 x1 H) fun t16=>
 Z0 (Yj (.pointer 131) .eql t16 .nilp) fun t18=>
 Zl t18
 (some ((.tuple [.nilp,(.int .i64 5)]),H))
 (DI t16 H0 H):=Zb [3,5,8] (by kernel_rfl)
theorem Ud:DG x0 x1 H0 H =
 Z0 (Vi [x0] H) fun r10=>
 Zl r10.1
 (some ((.tuple [.nilp,(.int .i64 19)]),r10.2))
 (DH x0 x1 H0 r10.2):=Zb [3,5,8] (by kernel_rfl)
theorem Lq:Xp [p0,p1] H=FA p0 p1 H:=(Zc (C:=cfg) (fn:=Tryz.f116) (c:=Z1 Tryz.f116) (n:=20) [3,5,8] Tryz.func116 (by kernel_rfl) (by kernel_rfl) [p0,p1] (by kernel_rfl) H).trans (by kernel_rfl)
def Fz:Z3:=
 Z0 (Zy p0) fun t6=>
 Z0 (Z8 3 t6) fun t7=>
 Z0 (Z4 false 1 t7 H) fun t8=>
 Z0 (ZZ .string .nilp false t8 p1 H) fun t10=>
 Z0 (Yj (.pointer 131) .neq t10 .nilp) fun t12=>
 Zl t12
 (Z0 (Zy p0) fun t14=>
 Z0 (Z8 1 t14) fun t15=>
 Z0 (Z4 false 1 t15 H) fun t16=>
 Z0 (Zy t10) fun t18=>
 Z0 (Z8 0 t18) fun t19=>
 Z0 (Z4 false 1 t19 H) fun t20=>
 Z0 (Zk (.slice 5) t20) fun t21=>
 Z0 (Z5 .sub t16 t21) fun t22=>
 Z0 (Zy p0) fun t23=>
 Z0 (Z8 1 t23) fun t24=>
 Z0 (Zh 1 t24 t22 H) fun r_16=>
 Z0 (Zy p0) fun t26=>
 Z0 (Z8 3 t26) fun t27=>
 Z0 (Z4 false 1 t27 r_16.2) fun t28=>
 Z0 (Uz .string t28 p1 r_16.2) fun r_20=>
 some ((.tuple []),r_20.2))
 (some ((.tuple []),H))
theorem Lp:Ja [p0,p1] H=Fz p0 p1 H:=(Zc (C:=cfg) (fn:=Tryz.f117) (c:=Z1 Tryz.f117) (n:=30) [] Tryz.func117 (by kernel_rfl) (by kernel_rfl) [p0,p1] (by kernel_rfl) H).trans (by kernel_rfl)
def Hg:Z3:=
 Z0 (Sk Ia [p0] H) fun r4=>
 some (r4.1,r4.2)
theorem Zam:TO [p0] H=Hg p0 H:=(Zc (C:=cfg) (fn:=Tryz.f118) (c:=Z1 Tryz.f118) (n:=5) [] Tryz.func118 (by kernel_rfl) (by kernel_rfl) [p0] (by kernel_rfl) H).trans (by kernel_rfl)
def UH:Z3:=ZK 119 46 (sub (Z1 Tryz.f119) [1,1,1]) (Zi cfg 46 119 Tryz.f119 H0) [(0,x0),(1,x1)] H
def B9:Z3:=ZK 119 46 (sub (Z1 Tryz.f119) [1,1]) (Zi cfg 46 119 Tryz.f119 H0) [(0,x0),(1,x1)] H
def Bo:Z3:=
 Z0 (Yj (.pointer 120) .eql p0 .nilp) fun t7=>
 Zl t7
 (some ((.int .i64 5),H))
 (Z0 (Vi [p0] H) fun r10=>
 Zl r10.1
 (some ((.int .i64 19),r10.2))
 (Z0 (Ze GA [p1] r10.2) fun r13=>
 Z0 (Xa .not r13.1) fun t14=>
 Zl t14
 (some ((.int .i64 4),r13.2))
 (Z0 (Zy p0) fun t17=>
 Z0 (Z8 3 t17) fun t18=>
 Z0 (Z4 false 1 t18 r13.2) fun t19=>
 Z0 (ZZ .string .nilp false t19 p1 r13.2) fun t21=>
 Z0 (Yj (.pointer 131) .neq t21 .nilp) fun t22=>
 Zl t22
 (some ((.int .i64 6),r13.2))
 (Z0 (Zy p0) fun t25=>
 Z0 (Z8 3 t25) fun t26=>
 Z0 (Z4 false 1 t26 r13.2) fun t27=>
 Z0 (Q0 t27 r13.2) fun t28=>
 Z0 (Z5 .geq t28 (.int .i64 64)) fun t29=>
 Zl t29
 (some ((.int .i64 3),r13.2))
 (B9 p0 p1 H r13.2)))))
theorem N0:UH x0 x1 H0 H =
 Z0 (Zy x0) fun t40=>
 Z0 (Z8 3 t40) fun t41=>
 Z0 (Z4 false 1 t41 H) fun t42=>
 Z0 (some (.agg [.nils,(.int .i64 0)])) fun t44=>
 Z0 (ZW t44 H) fun r45=>
 Z0 (Xb .string t42 x1 r45.1 r45.2) fun r_6=>
 some ((.int .i64 0),r_6.2):=Zb [11,13] (by kernel_rfl)
theorem PZ:B9 x0 x1 H0 H =
 Z0 (Zy x0) fun t31=>
 Z0 (Z8 3 t31) fun t32=>
 Z0 (Z4 false 1 t32 H) fun t33=>
 Z0 (Yj (.map 9 129) .eql t33 .nilm) fun t34=>
 Zl t34
 (Z0 (some ((.map H.length),H++[.map [] 0])) fun r36=>
 Z0 (Zy x0) fun t37=>
 Z0 (Z8 3 t37) fun t38=>
 Z0 (Zh 1 t38 r36.1 r36.2) fun r_14=>
 UH x0 x1 H0 r_14.2)
 (UH x0 x1 H0 H):=Zb [11,13] (by kernel_rfl)
theorem Nd:UT [p0,p1] H=Bo p0 p1 H:=(Zc (C:=cfg) (fn:=Tryz.f119) (c:=Z1 Tryz.f119) (n:=46) [11,13] Tryz.func119 (by kernel_rfl) (by kernel_rfl) [p0,p1] (by kernel_rfl) H).trans (by kernel_rfl)
def Gl:Z3:=ZK 120 22 (sub (Z1 Tryz.f120) [1,1]) (Zi cfg 22 120 Tryz.f120 H0) [] H
def GX:Z3:=
 Z0 (Yj (.pointer 117) .eql p0 .nilp) fun t7=>
 Zl t7
 (some ((.int .i64 5),H))
 (Z0 (Zy p0) fun t10=>
 Z0 (Z8 6 t10) fun t11=>
 Z0 (Z4 false 1 t11 H) fun t12=>
 Zl t12
 (some ((.int .i64 8),H))
 (Z0 (Zy p0) fun t15=>
 Z0 (Z8 0 t15) fun t16=>
 Z0 (Z8 2 t16) fun t17=>
 Z0 (Z4 false 1 t17 H) fun t18=>
 Z0 (Ze Yu [t18,p1] H) fun r20=>
 Z0 (Xa .not r20.1) fun t21=>
 Zl t21
 (some ((.int .i64 5),r20.2))
 (Gl H r20.2)))
theorem TA:Gl H0 H =
 some ((.int .i64 0),H):=Zb [7] (by kernel_rfl)
theorem P0:Xq [p0,p1] H=GX p0 p1 H:=(Zc (C:=cfg) (fn:=Tryz.f120) (c:=Z1 Tryz.f120) (n:=22) [7] Tryz.func120 (by kernel_rfl) (by kernel_rfl) [p0,p1] (by kernel_rfl) H).trans (by kernel_rfl)
def NP:Z3:=ZK 121 27 (sub (Z1 Tryz.f121) [1,1,1]) (Zi cfg 27 121 Tryz.f121 H0) [(4,x4)] H
def VQ:KL:=Zd (TF 121 27 Tryz.f121 [1,1,1]) (Zi cfg 27 121 Tryz.f121 H0)
theorem EM:ZT 27 (VQ H0):=Zw (C:=cfg) (kp:=cfg.keep 121) (sub (Z1 Tryz.f121) [1,1,1]) (ZA 121 Tryz.f121 H0)
def NR:Z3:=ZK 121 27 (sub (Z1 Tryz.f121) [1,1,0,1,0,0,1,1,1]) (Zd (UW 121 27 Tryz.f121 [1,1,0,1,0,0]) (Z7 0 (VQ H0))) [(4,x4),(9,x9),(10,x10),(11,x11)] H
def Zbr:KL:=Zd (TF 121 27 Tryz.f121 [1,1,0,1,0,0,1,1,1]) (Zd (UW 121 27 Tryz.f121 [1,1,0,1,0,0]) (Z7 0 (VQ H0)))
def NS:Z3:=ZK 121 27 (sub (Z1 Tryz.f121) [1,1,0,1,0,0,1,1,0,0,1,1,1]) (Z7 1 (Zbr H0)) [(4,x4),(7,x7),(9,x9),(10,x10),(11,x11)] H
def NQ:Z3:=ZK 121 27 (sub (Z1 Tryz.f121) [1,1,0,1,0,0,1,1]) (Zd (UW 121 27 Tryz.f121 [1,1,0,1,0,0]) (Z7 0 (VQ H0))) [(4,x4),(9,x9),(10,x10),(11,x11),(12,x12)] H
def QR:Z3:=P5 121 27 (sub (Z1 Tryz.f121) [1,1,0,1,0,0]) (Z7 0 (VQ H0)) [(4,x4),(9,x9),(10,x10),(11,x11)] H
def Lb:Z3:=
 Z0 (some ((.ptr H.length 0),H++[.bld 192 5 []])) fun r4=>
 Z0 (Zk (.slice 9) p0) fun t10=>
 QR r4.1 p0 t10 (.int .i64 0) H r4.2
theorem Al:NP x4 H0 H =
 Z0 (stringE.run [x4] H) fun r26=>
 some ((.tuple [r26.1,(.int .i64 0)]),r26.2):=Zb [4,8,9,10] (by kernel_rfl)
theorem An:NR x4 x9 x10 x11 H0 H =
 Z0 (Z5 .add x11 (.int .i64 1)) fun t25=>
 QR x4 x9 x10 t25 H0 H:=Zb [4,8,9,10] (by kernel_rfl)
theorem Ao:NS x4 x7 x9 x10 x11 H0 H =
 Z0 (textE.run [x4,x7] H) fun r24=>
 NR x4 x9 x10 x11 H0 r24.2:=Zb [4,8,9,10] (by kernel_rfl)
theorem FG:NQ x4 x9 x10 x11 x12 H0 H =
 Z0 (Zn 1 x9 x11) fun t13=>
 Z0 (Z4 false 1 t13 H) fun t14=>
 Z0 (Ze DL [t14] H) fun r17=>
 Z0 (ZC r17.1 0) fun t18=>
 Z0 (ZC r17.1 1) fun t19=>
 Z0 (Z5 .neq t19 (.int .i64 0)) fun t21=>
 Zl t21
 (some ((.tuple [(.str []),t19]),r17.2))
 (NS x4 t18 x9 x10 x11 H0 r17.2):=Zb [4,8,9,10] (by kernel_rfl)
theorem FH:QR x4 x9 x10 x11 H0 H =
 Z0 (Z5 .lss x11 x10) fun t12=>
 Zl t12
 (NQ x4 x9 x10 x11 t12 H0 H)
 (NP x4 H0 H):=(ZB (C:=cfg) [4,8,9,10] (Zo 0 (EM H0)) _ _).trans (by kernel_rfl)
theorem Ii:DK [p0] H=Lb p0 H:=(Zc (C:=cfg) (fn:=Tryz.f121) (c:=Z1 Tryz.f121) (n:=27) [4,8,9,10] Tryz.func121 (by kernel_rfl) (by kernel_rfl) [p0] (by kernel_rfl) H).trans (by kernel_rfl)
def B8:Z3:=ZK 122 60 (sub (Z1 Tryz.f122) [1,1,1,1]) (Zi cfg 60 122 Tryz.f122 H0) [(0,x0),(2,x2),(7,x7)] H
def B7:Z3:=ZK 122 60 (sub (Z1 Tryz.f122) [1,1,1]) (Zi cfg 60 122 Tryz.f122 H0) [(0,x0),(2,x2),(7,x7)] H
def Bn:Z3:=
 Z0 (Xp [p0,p1] H) fun r12=>
 Z0 (ZC r12.1 0) fun t13=>
 Z0 (ZC r12.1 1) fun t14=>
 Z0 (Z5 .neq t14 (.int .i64 0)) fun t16=>
 Zl t16
 (some (t14,r12.2))
 (B7 p0 p2 t13 H r12.2)
theorem PY:B8 x0 x2 x7 H0 H =
 Z0 (Zy x7) fun t32=>
 Z0 (Z8 0 t32) fun t33=>
 Z0 (Z4 false 1 t33 H) fun t34=>
 Z0 (Y6 1 1 t34 x2 H) fun r36=>
 Z0 (Zy x7) fun t37=>
 Z0 (Z8 0 t37) fun t38=>
 Z0 (Zh 1 t38 r36.1 r36.2) fun r_10=>
 Z0 (Zy x0) fun t40=>
 Z0 (Z8 1 t40) fun t41=>
 Z0 (Z4 false 1 t41 r_10.2) fun t42=>
 Z0 (Zk .string x2) fun t44=>
 Z0 (Z5 .add t42 t44) fun t45=>
 Z0 (Zy x0) fun t46=>
 Z0 (Z8 1 t46) fun t47=>
 Z0 (Zh 1 t47 t45 r_10.2) fun r_18=>
 Z0 (Zy x0) fun t50=>
 Z0 (Z8 2 t50) fun t51=>
 Z0 (Z4 false 1 t51 r_18.2) fun t52=>
 Z0 (Zy x0) fun t54=>
 Z0 (Z8 1 t54) fun t55=>
 Z0 (Z4 false 1 t55 r_18.2) fun t56=>
 Z0 (Gw t52 t56) fun t57=>
 Z0 (Zy x0) fun t58=>
 Z0 (Z8 2 t58) fun t59=>
 Z0 (Zh 1 t59 t57 r_18.2) fun r_28=>
 some ((.int .i64 0),r_28.2):=Zb [4,6] (by kernel_rfl)
theorem Js:B7 x0 x2 x7 H0 H =
 Z0 (Zy x0) fun t19=>
 Z0 (Z8 1 t19) fun t20=>
 Z0 (Z4 false 1 t20 H) fun t21=>
 Z0 (Zk .string x2) fun t23=>
 Z0 (Z5 .add t21 t23) fun t24=>
 Z0 (Zy x0) fun t26=>
 Z0 (Z8 0 t26) fun t27=>
 Z0 (Z4 false 1 t27 H) fun t28=>
 Z0 (Z5 .gtr t24 t28) fun t29=>
 Zl t29
 (some ((.int .i64 12),H))
 (B8 x0 x2 x7 H0 H):=Zb [4,6] (by kernel_rfl)
theorem Nc:US [p0,p1,p2] H=Bn p0 p1 p2 H:=(Zc (C:=cfg) (fn:=Tryz.f122) (c:=Z1 Tryz.f122) (n:=60) [4,6] Tryz.func122 (by kernel_rfl) (by kernel_rfl) [p0,p1,p2] (by kernel_rfl) H).trans (by kernel_rfl)
def QM:Z3:=ZK 123 24 (sub (Z1 Tryz.f123) [1,1,1]) (Zi cfg 24 123 Tryz.f123 H0) [(6,x6)] H
def Fy:Z3:=
 Z0 (Xp [p0,p1] H) fun r10=>
 Z0 (ZC r10.1 0) fun t11=>
 Z0 (ZC r10.1 1) fun t12=>
 Z0 (Z5 .eql t12 (.int .i64 0)) fun t14=>
 Zl t14
 (Z0 (Zy t11) fun t17=>
 Z0 (Z8 0 t17) fun t18=>
 Z0 (Z4 false 1 t18 r10.2) fun t19=>
 Z0 (Zk (.slice 5) t19) fun t20=>
 Z0 (Zy t11) fun t21=>
 Z0 (Z8 1 t21) fun t22=>
 Z0 (Zh 1 t22 t20 r10.2) fun r_11=>
 QM t12 H r_11.2)
 (QM t12 H r10.2)
theorem Uc:QM x6 H0 H =
 some (x6,H):=Zb [4] (by kernel_rfl)
theorem Lo:J9 [p0,p1] H=Fy p0 p1 H:=(Zc (C:=cfg) (fn:=Tryz.f123) (c:=Z1 Tryz.f123) (n:=24) [4] Tryz.func123 (by kernel_rfl) (by kernel_rfl) [p0,p1] (by kernel_rfl) H).trans (by kernel_rfl)
def DF:Z3:=ZK 124 54 (sub (Z1 Tryz.f124) [1,1,1,1]) (Zi cfg 54 124 Tryz.f124 H0) [(2,x2),(3,x3),(10,x10)] H
def DE:Z3:=ZK 124 54 (sub (Z1 Tryz.f124) [1,1,1]) (Zi cfg 54 124 Tryz.f124 H0) [(2,x2),(3,x3),(10,x10)] H
def Fx:Z3:=
 Z0 (Xp [p0,p1] H) fun r15=>
 Z0 (ZC r15.1 0) fun t16=>
 Z0 (ZC r15.1 1) fun t17=>
 Z0 (Z5 .neq t17 (.int .i64 0)) fun t19=>
 Zl t19
 (some ((.tuple [(.str []),t17]),r15.2))
 (DE p2 p3 t16 H r15.2)
theorem MW:DF x2 x3 x10 H0 H =
 Z0 (Zy x10) fun t37=>
 Z0 (Z8 0 t37) fun t38=>
 Z0 (Z4 false 1 t38 H) fun t39=>
 Z0 (Zy x10) fun t44=>
 Z0 (Z8 0 t44) fun t45=>
 Z0 (Z4 false 1 t45 H) fun t46=>
 Z0 (Zk (.slice 5) t46) fun t47=>
 Z0 (Z5 .sub t47 x2) fun t49=>
 Z0 (VJ x3 t49) fun t50=>
 Z0 (Z5 .add x2 t50) fun t51=>
 Z0 (YE 1 t39 (some x2) (some t51) none) fun t52=>
 Z0 (Q2 t52 H) fun t53=>
 some ((.tuple [t53,(.int .i64 0)]),H):=Zb [4,6] (by kernel_rfl)
theorem MV:DE x2 x3 x10 H0 H =
 Z0 (Z5 .lss x2 (.int .i64 0)) fun t22=>
 Z0 (Z6 t22 false (.tuple []) (some x2)) fun t24=>
 Z0 (Z6 t22 false (.tuple []) (some x10)) fun t25=>
 Z0 (Z6 t22 false (.tuple []) (Zy t25)) fun t26=>
 Z0 (Z6 t22 false (.tuple []) (Z8 0 t26)) fun t27=>
 Z0 (Z6 t22 false (.tuple []) (Z4 false 1 t27 H)) fun t28=>
 Z0 (Z6 t22 false (.tuple []) (Zk (.slice 5) t28)) fun t29=>
 Z0 (Z6 t22 false (.tuple []) (Z5 .gtr t24 t29)) fun t30=>
 Z0 (Zg t22 (.bool true) t30) fun t31=>
 Z0 (Z6 t31 false (.tuple []) (some x3)) fun t33=>
 Z0 (Z6 t31 false (.tuple []) (Z5 .lss t33 (.int .i64 0))) fun t34=>
 Z0 (Zg t31 (.bool true) t34) fun t35=>
 Zl t35
 (some ((.tuple [(.str []),(.int .i64 2)]),H))
 (DF x2 x3 x10 H0 H):=Zb [4,6] (by kernel_rfl)
theorem Ln:J8 [p0,p1,p2,p3] H=Fx p0 p1 p2 p3 H:=(Zc (C:=cfg) (fn:=Tryz.f124) (c:=Z1 Tryz.f124) (n:=54) [4,6] Tryz.func124 (by kernel_rfl) (by kernel_rfl) [p0,p1,p2,p3] (by kernel_rfl) H).trans (by kernel_rfl)
def SX:Z3:=ZK 125 58 (sub (Z1 Tryz.f125) [1,1,1,1,1,1,1,1]) (Zi cfg 58 125 Tryz.f125 H0) [(1,x1),(7,x7),(8,x8)] H
def SW:Z3:=ZK 125 58 (sub (Z1 Tryz.f125) [1,1,1,1,1,1,1]) (Zi cfg 58 125 Tryz.f125 H0) [(1,x1),(7,x7),(8,x8)] H
def SV:Z3:=ZK 125 58 (sub (Z1 Tryz.f125) [1,1,1,1,1,1]) (Zi cfg 58 125 Tryz.f125 H0) [(1,x1),(7,x7),(8,x8)] H
def SU:Z3:=ZK 125 58 (sub (Z1 Tryz.f125) [1,1,1,1]) (Zi cfg 58 125 Tryz.f125 H0) [(1,x1),(7,x7)] H
def SR:Z3:=ZK 125 58 (sub (Z1 Tryz.f125) [1,1]) (Zi cfg 58 125 Tryz.f125 H0) [(0,x0),(1,x1)] H
def Hd:Z3:=
 Z0 (Z5 .lss p1 (.int .i64 0)) fun t10=>
 Z0 (Z6 t10 false (.tuple []) (some p1)) fun t12=>
 Z0 (Z6 t10 false (.tuple []) (some p0)) fun t13=>
 Z0 (Z6 t10 false (.tuple []) (Zk .string t13)) fun t14=>
 Z0 (Z6 t10 false (.tuple []) (Z5 .gtr t12 t14)) fun t15=>
 Z0 (Zg t10 (.bool true) t15) fun t16=>
 Zl t16
 (some ((.tuple [(.str []),(.int .i64 0),(.int .i64 2)]),H))
 (SR p0 p1 H H)
theorem OR:SX x1 x7 x8 H0 H =
 Z0 (Z5 .add x8 (.int .i64 2)) fun t52=>
 Z0 (Y7 x7 (some (.int .i64 2)) (some t52) none) fun t53=>
 Z0 (Z5 .add x1 x8) fun t56=>
 Z0 (Z5 .add t56 (.int .i64 6)) fun t57=>
 some ((.tuple [t53,t57,(.int .i64 0)]),H):=Zb [3,6,9,11,13] (by kernel_rfl)
theorem OQ:SW x1 x7 x8 H0 H =
 Z0 (Z5 .add x8 (.int .i64 2)) fun t40=>
 Z0 (Z5 .add x8 (.int .i64 6)) fun t42=>
 Z0 (Y7 x7 (some t40) (some t42) none) fun t43=>
 Z0 (Z5 .add x8 (.int .i64 2)) fun t46=>
 Z0 (Y7 x7 none (some t46) none) fun t47=>
 Z0 (Ze Ff [t47] H) fun r48=>
 Z0 (Yh .neq t43 r48.1) fun t49=>
 Zl t49
 (some ((.tuple [(.str []),(.int .i64 0),(.int .i64 13)]),r48.2))
 (SX x1 x7 x8 H0 r48.2):=Zb [3,6,9,11,13] (by kernel_rfl)
theorem OP:SV x1 x7 x8 H0 H =
 Z0 (Zk .string x7) fun t34=>
 Z0 (Z5 .add x8 (.int .i64 6)) fun t36=>
 Z0 (Z5 .lss t34 t36) fun t37=>
 Zl t37
 (some ((.tuple [(.str []),(.int .i64 0),(.int .i64 14)]),H))
 (SW x1 x7 x8 H0 H):=Zb [3,6,9,11,13] (by kernel_rfl)
theorem OO:SU x1 x7 H0 H =
 Z0 (Zu x7 (.int .i64 0)) fun t24=>
 Z0 (YK .i64 t24) fun t25=>
 Z0 (Z5 .shl t25 (.int .u64 8)) fun t26=>
 Z0 (Zu x7 (.int .i64 1)) fun t28=>
 Z0 (YK .i64 t28) fun t29=>
 Z0 (Z5 .or t26 t29) fun t30=>
 Z0 (Z5 .gtr t30 (.int .i64 4096)) fun t32=>
 Zl t32
 (some ((.tuple [(.str []),(.int .i64 0),(.int .i64 13)]),H))
 (SV x1 x7 t30 H0 H):=Zb [3,6,9,11,13] (by kernel_rfl)
theorem ON:SR x0 x1 H0 H =
 Z0 (Y7 x0 (some x1) none none) fun t19=>
 Z0 (Zk .string t19) fun t21=>
 Z0 (Z5 .lss t21 (.int .i64 2)) fun t22=>
 Zl t22
 (some ((.tuple [(.str []),(.int .i64 0),(.int .i64 14)]),H))
 (SU x1 t19 H0 H):=Zb [3,6,9,11,13] (by kernel_rfl)
theorem Zak:TJ [p0,p1] H=Hd p0 p1 H:=(Zc (C:=cfg) (fn:=Tryz.f125) (c:=Z1 Tryz.f125) (n:=58) [3,6,9,11,13] Tryz.func125 (by kernel_rfl) (by kernel_rfl) [p0,p1] (by kernel_rfl) H).trans (by kernel_rfl)
def WD:Z3:=
 Z0 (Ze XE [p0,p1] H) fun r7=>
 Z0 (Z5 .geq r7.1 (.int .i64 0)) fun t8=>
 some (t8,r7.2)
theorem J3:Yu [p0,p1] H=WD p0 p1 H:=(Zc (C:=cfg) (fn:=Tryz.f146) (c:=Z1 Tryz.f146) (n:=9) [] Tryz.func146 (by kernel_rfl) (by kernel_rfl) [p0,p1] (by kernel_rfl) H).trans (by kernel_rfl)
def XS:Z3:=ZK 167 37 (sub (Z1 Tryz.f167) [1,1]) (Zi cfg 37 167 Tryz.f167 H0) [(0,x0)] H
def Dh:Z3:=
 Z0 (Zy p0) fun t5=>
 Z0 (Z8 4 t5) fun t6=>
 Z0 (Z4 false 1 t6 H) fun t7=>
 Zl t7
 (XS p0 H H)
 (Z0 (Zy p0) fun t10=>
 Z0 (Z8 5 t10) fun t11=>
 Z0 (Z4 false 1 t11 H) fun t12=>
 Z0 (Z5 .eql t12 (.int .i64 1)) fun t13=>
 Zl t13
 (Z0 (Zy p0) fun t16=>
 Z0 (Z8 4 t16) fun t17=>
 Z0 (Zh 1 t17 (.bool true) H) fun r_13=>
 Z0 (Zy p0) fun t18=>
 Z0 (Z8 5 t18) fun t19=>
 Z0 (Zh 1 t19 (.int .i64 0) r_13.2) fun r_16=>
 XS p0 H r_16.2)
 (Z0 (Zy p0) fun t22=>
 Z0 (Z8 5 t22) fun t23=>
 Z0 (Z4 false 1 t23 H) fun t24=>
 Z0 (Z5 .gtr t24 (.int .i64 1)) fun t25=>
 Zl t25
 (Z0 (Zy p0) fun t27=>
 Z0 (Z8 5 t27) fun t28=>
 Z0 (Z4 false 1 t28 H) fun t29=>
 Z0 (Z5 .sub t29 (.int .i64 1)) fun t30=>
 Z0 (Zy p0) fun t31=>
 Z0 (Z8 5 t31) fun t32=>
 Z0 (Zh 1 t32 t30 H) fun r_27=>
 XS p0 H r_27.2)
 (XS p0 H H)))
theorem XY:XS x0 H0 H =
 Z0 (Zy x0) fun t34=>
 Z0 (Z8 4 t34) fun t35=>
 Z0 (Z4 false 1 t35 H) fun t36=>
 some (t36,H):=Zb [6] (by kernel_rfl)
theorem Mo:Vi [p0] H=Dh p0 H:=(Zc (C:=cfg) (fn:=Tryz.f167) (c:=Z1 Tryz.f167) (n:=37) [6] Tryz.func167 (by kernel_rfl) (by kernel_rfl) [p0] (by kernel_rfl) H).trans (by kernel_rfl)
def KE:Z3:=ZK 169 58 (sub (Z1 Tryz.f169) [1,1]) (Zi cfg 58 169 Tryz.f169 H0) [(0,x0)] H
def Ur:KL:=Zd (TF 169 58 Tryz.f169 [1,1]) (Zi cfg 58 169 Tryz.f169 H0)
theorem MY:ZT 58 (Ur H0):=Zw (C:=cfg) (kp:=cfg.keep 169) (sub (Z1 Tryz.f169) [1,1]) (ZA 169 Tryz.f169 H0)
def KG:Z3:=ZK 169 58 (sub (Z1 Tryz.f169) [1,0,1,0,0,1,1,1]) (Zd (UW 169 58 Tryz.f169 [1,0,1,0,0]) (Z7 0 (Ur H0))) [(0,x0),(7,x7),(8,x8)] H
def KF:Z3:=ZK 169 58 (sub (Z1 Tryz.f169) [1,0,1,0,0,1,1]) (Zd (UW 169 58 Tryz.f169 [1,0,1,0,0]) (Z7 0 (Ur H0))) [(0,x0),(7,x7),(8,x8),(9,x9)] H
def Us:Z3:=P5 169 58 (sub (Z1 Tryz.f169) [1,0,1,0,0]) (Z7 0 (Ur H0)) [(0,x0),(7,x7),(8,x8)] H
def TY:Z3:=
 Z0 (Zk .string p0) fun t7=>
 Us p0 t7 (.int .i64 0) H H
theorem Si:KE x0 H0 H =
 Z0 (Yh .neq x0 (.str [])) fun t52=>
 Z0 (Z6 t52 true (.tuple []) (some x0)) fun t54=>
 Z0 (Z6 t52 true (.tuple []) (Zk .string t54)) fun t55=>
 Z0 (Z6 t52 true (.tuple []) (Z5 .leq t55 (.int .i64 32))) fun t56=>
 Z0 (Zg t52 t56 (.bool false)) fun t57=>
 some (t57,H):=Zb [3,8,9] (by kernel_rfl)
theorem Da:KG x0 x7 x8 H0 H =
 Z0 (Z5 .add x8 (.int .i64 1)) fun t50=>
 Us x0 x7 t50 H0 H:=Zb [3,8,9] (by kernel_rfl)
theorem Sj:KF x0 x7 x8 x9 H0 H =
 Z0 (Zu x0 x8) fun t13=>
 Z0 (Z5 .geq t13 (.int .u8 97)) fun t15=>
 Z0 (Z6 t15 true (.tuple []) (some t13)) fun t17=>
 Z0 (Z6 t15 true (.tuple []) (Z5 .leq t17 (.int .u8 122))) fun t18=>
 Z0 (Zg t15 t18 (.bool false)) fun t19=>
 Z0 (Z6 t19 false (.tuple []) (some t13)) fun t21=>
 Z0 (Z6 t19 false (.tuple []) (Z5 .geq t21 (.int .u8 65))) fun t22=>
 Z0 (Z6 t19 false (.tuple []) (some t22)) fun t23=>
 Z0 (Z6 t23 true (.tuple []) (some t13)) fun t24=>
 Z0 (Z6 t23 true (.tuple []) (Z5 .leq t24 (.int .u8 90))) fun t25=>
 Z0 (Z6 t19 false (.tuple []) (Zg t23 t25 (.bool false))) fun t26=>
 Z0 (Zg t19 (.bool true) t26) fun t27=>
 Z0 (Z6 t27 false (.tuple []) (some t13)) fun t29=>
 Z0 (Z6 t27 false (.tuple []) (Z5 .eql t29 (.int .u8 95))) fun t30=>
 Z0 (Zg t27 (.bool true) t30) fun t31=>
 Z0 (Z6 t31 false (.tuple []) (some t13)) fun t33=>
 Z0 (Z6 t31 false (.tuple []) (Z5 .eql t33 (.int .u8 46))) fun t34=>
 Z0 (Zg t31 (.bool true) t34) fun t35=>
 Z0 (Xa .not t35) fun t37=>
 Z0 (Z6 t37 true (.tuple []) (some x8)) fun t39=>
 Z0 (Z6 t37 true (.tuple []) (Z5 .eql t39 (.int .i64 0))) fun t40=>
 Z0 (Z6 t37 true (.tuple []) (some t40)) fun t41=>
 Z0 (Z6 t41 false (.tuple []) (some t13)) fun t42=>
 Z0 (Z6 t41 false (.tuple []) (Z5 .lss t42 (.int .u8 48))) fun t43=>
 Z0 (Z6 t37 true (.tuple []) (Zg t41 (.bool true) t43)) fun t44=>
 Z0 (Z6 t37 true (.tuple []) (some t44)) fun t45=>
 Z0 (Z6 t45 false (.tuple []) (some t13)) fun t46=>
 Z0 (Z6 t45 false (.tuple []) (Z5 .gtr t46 (.int .u8 57))) fun t47=>
 Z0 (Z6 t37 true (.tuple []) (Zg t45 (.bool true) t47)) fun t48=>
 Z0 (Zg t37 t48 (.bool false)) fun t49=>
 Zl t49
 (some ((.bool false),H))
 (KG x0 x7 x8 H0 H):=Zb [3,8,9] (by kernel_rfl)
theorem WQ:Us x0 x7 x8 H0 H =
 Z0 (Z5 .lss x8 x7) fun t9=>
 Zl t9
 (KF x0 x7 x8 t9 H0 H)
 (KE x0 H0 H):=(ZB (C:=cfg) [3,8,9] (Zo 0 (MY H0)) _ _).trans (by kernel_rfl)
theorem Cc:GA [p0] H=TY p0 H:=(Zc (C:=cfg) (fn:=Tryz.f169) (c:=Z1 Tryz.f169) (n:=58) [3,8,9] Tryz.func169 (by kernel_rfl) (by kernel_rfl) [p0] (by kernel_rfl) H).trans (by kernel_rfl)
def NT:Z3:=ZK 170 23 (sub (Z1 Tryz.f170) [1,1]) (Zi cfg 23 170 Tryz.f170 H0) [(0,x0)] H
def Lc:Z3:=
 Z0 (Zk .string p0) fun t6=>
 Z0 (Z5 .gtr t6 (.int .i64 4096)) fun t7=>
 Zl t7
 (some ((.tuple [(.str []),(.int .i64 3)]),H))
 (NT p0 H H)
theorem Ap:NT x0 H0 H =
 Z0 (Zk .string x0) fun t9=>
 Z0 (Z5 .shr t9 (.int .u64 8)) fun t10=>
 Z0 (YK .u8 t10) fun t11=>
 Z0 (Zk .string x0) fun t13=>
 Z0 (YK .u8 t13) fun t14=>
 Z0 ((ZF 1 [(0,t11),(1,t14)] [(.int .u8 0),(.int .u8 0)]).map (.vs 1 .clip)) fun t15=>
 Z0 (Q2 t15 H) fun t16=>
 Z0 (Yh .add t16 x0) fun t18=>
 Z0 (Ze Ff [t18] H) fun r21=>
 Z0 (Yh .add t18 r21.1) fun t22=>
 some ((.tuple [t22,(.int .i64 0)]),r21.2):=Zb [3] (by kernel_rfl)
theorem Ij:DL [p0] H=Lc p0 H:=(Zc (C:=cfg) (fn:=Tryz.f170) (c:=Z1 Tryz.f170) (n:=23) [3] Tryz.func170 (by kernel_rfl) (by kernel_rfl) [p0] (by kernel_rfl) H).trans (by kernel_rfl)
def IR:Z3:=
 Z0 (Ze Mj [p0] H) fun r5=>
 Z0 (YK .u8 r5.1) fun t7=>
 Z0 (Z5 .shr r5.1 (.int .u64 8)) fun t9=>
 Z0 (YK .u8 t9) fun t10=>
 Z0 (Z5 .shr r5.1 (.int .u64 16)) fun t12=>
 Z0 (YK .u8 t12) fun t13=>
 Z0 (Z5 .shr r5.1 (.int .u64 24)) fun t15=>
 Z0 (YK .u8 t15) fun t16=>
 Z0 ((ZF 1 [(0,t7),(1,t10),(2,t13),(3,t16)] [(.int .u8 0),(.int .u8 0),(.int .u8 0),(.int .u8 0)]).map (.vs 1 .clip)) fun t17=>
 Z0 (Q2 t17 r5.2) fun t18=>
 some (t18,r5.2)
theorem Zci:Ff [p0] H=IR p0 H:=(Zc (C:=cfg) (fn:=Tryz.f173) (c:=Z1 Tryz.f173) (n:=19) [] Tryz.func173 (by kernel_rfl) (by kernel_rfl) [p0] (by kernel_rfl) H).trans (by kernel_rfl)
def Vc:Z3:=ZK 185 19 (sub (Z1 Tryz.f185) [1,1]) (Zi cfg 19 185 Tryz.f185 H0) [] H
def YC:KL:=Zd (TF 185 19 Tryz.f185 [1,1]) (Zi cfg 19 185 Tryz.f185 H0)
theorem J4:ZT 19 (YC H0):=Zw (C:=cfg) (kp:=cfg.keep 185) (sub (Z1 Tryz.f185) [1,1]) (ZA 185 Tryz.f185 H0)
def Ve:Z3:=ZK 185 19 (sub (Z1 Tryz.f185) [1,0,1,0,0,1,1,1]) (Zd (UW 185 19 Tryz.f185 [1,0,1,0,0]) (Z7 0 (YC H0))) [(0,x0),(1,x1),(7,x7),(8,x8)] H
def Vd:Z3:=ZK 185 19 (sub (Z1 Tryz.f185) [1,0,1,0,0,1,1]) (Zd (UW 185 19 Tryz.f185 [1,0,1,0,0]) (Z7 0 (YC H0))) [(0,x0),(1,x1),(7,x7),(8,x8),(9,x9)] H
def YD:Z3:=P5 185 19 (sub (Z1 Tryz.f185) [1,0,1,0,0]) (Z7 0 (YC H0)) [(0,x0),(1,x1),(7,x7),(8,x8)] H
def Vu:Z3:=
 Z0 (Zk (.slice 9) p0) fun t7=>
 YD p0 p1 t7 (.int .i64 0) H H
theorem JU:Vc H0 H =
 some ((.int .i64 (-1)),H):=Zb [3,6,7] (by kernel_rfl)
theorem JW:Ve x0 x1 x7 x8 H0 H =
 Z0 (Z5 .add x8 (.int .i64 1)) fun t18=>
 YD x0 x1 x7 t18 H0 H:=Zb [3,6,7] (by kernel_rfl)
theorem JV:Vd x0 x1 x7 x8 x9 H0 H =
 Z0 (Zn 1 x0 x8) fun t14=>
 Z0 (Z4 false 1 t14 H) fun t15=>
 Z0 (Yh .eql x1 t15) fun t16=>
 Zl t16
 (some (x8,H))
 (Ve x0 x1 x7 x8 H0 H):=Zb [3,6,7] (by kernel_rfl)
theorem Wz:YD x0 x1 x7 x8 H0 H =
 Z0 (Z5 .lss x8 x7) fun t9=>
 Zl t9
 (Vd x0 x1 x7 x8 t9 H0 H)
 (Vc H0 H):=(ZB (C:=cfg) [3,6,7] (Zo 0 (J4 H0)) _ _).trans (by kernel_rfl)
theorem Kv:XE [p0,p1] H=Vu p0 p1 H:=(Zc (C:=cfg) (fn:=Tryz.f185) (c:=Z1 Tryz.f185) (n:=19) [3,6,7] Tryz.func185 (by kernel_rfl) (by kernel_rfl) [p0,p1] (by kernel_rfl) H).trans (by kernel_rfl)
def Ai:Z3:=ZK 208 33 (sub (Z1 Tryz.f208) [1,1,1]) (Zi cfg 33 208 Tryz.f208 H0) [(3,x3)] H
def BQ:KL:=Zd (TF 208 33 Tryz.f208 [1,1,1]) (Zi cfg 33 208 Tryz.f208 H0)
theorem IA:ZT 33 (BQ H0):=Zw (C:=cfg) (kp:=cfg.keep 208) (sub (Z1 Tryz.f208) [1,1,1]) (ZA 208 Tryz.f208 H0)
def Ak:Z3:=ZK 208 33 (sub (Z1 Tryz.f208) [1,1,0,1,0,0,1,1,1]) (Zd (UW 208 33 Tryz.f208 [1,1,0,1,0,0]) (Z7 0 (BQ H0))) [(0,x0),(3,x3),(6,x6),(7,x7)] H
def Aj:Z3:=ZK 208 33 (sub (Z1 Tryz.f208) [1,1,0,1,0,0,1,1]) (Zd (UW 208 33 Tryz.f208 [1,1,0,1,0,0]) (Z7 0 (BQ H0))) [(0,x0),(3,x3),(6,x6),(7,x7),(8,x8)] H
def BR:Z3:=P5 208 33 (sub (Z1 Tryz.f208) [1,1,0,1,0,0]) (Z7 0 (BQ H0)) [(0,x0),(3,x3),(6,x6),(7,x7)] H
def IQ:Z3:=
 Z0 (Zk .string p0) fun t6=>
 BR p0 (.int .u32 4294967295) t6 (.int .i64 0) H H
theorem Zbo:Ai x3 H0 H =
 Z0 (Xa .xor x3) fun t32=>
 some (t32,H):=Zb [4,8,9] (by kernel_rfl)
theorem Zbq:Ak x0 x3 x6 x7 H0 H =
 Z0 (Z5 .add x7 (.int .i64 1)) fun t30=>
 BR x0 x3 x6 t30 H0 H:=Zb [4,8,9] (by kernel_rfl)
theorem Zbp:Aj x0 x3 x6 x7 x8 H0 H =
 Z0 (Zu x0 x7) fun t13=>
 Z0 (YK .u32 t13) fun t14=>
 Z0 (Z5 .xor x3 t14) fun t15=>
 Z0 (Z5 .and t15 (.int .u32 15)) fun t17=>
 Z0 (DQ 16 1 Zit t17) fun t18=>
 Z0 (Z4 false 1 t18 H) fun t19=>
 Z0 (Z5 .shr t15 (.int .u64 4)) fun t21=>
 Z0 (Z5 .xor t19 t21) fun t22=>
 Z0 (Z5 .and t22 (.int .u32 15)) fun t24=>
 Z0 (DQ 16 1 Zit t24) fun t25=>
 Z0 (Z4 false 1 t25 H) fun t26=>
 Z0 (Z5 .shr t22 (.int .u64 4)) fun t28=>
 Z0 (Z5 .xor t26 t28) fun t29=>
 Ak x0 t29 x6 x7 H0 H:=Zb [4,8,9] (by kernel_rfl)
theorem NO:BR x0 x3 x6 x7 H0 H =
 Z0 (Z5 .lss x7 x6) fun t8=>
 Zl t8
 (Aj x0 x3 x6 x7 t8 H0 H)
 (Ai x3 H0 H):=(ZB (C:=cfg) [4,8,9] (Zo 0 (IA H0)) _ _).trans (by kernel_rfl)
theorem Zch:Mj [p0] H=IQ p0 H:=(Zc (C:=cfg) (fn:=Tryz.f208) (c:=Z1 Tryz.f208) (n:=33) [4,8,9] Tryz.func208 (by kernel_rfl) (by kernel_rfl) [p0] (by kernel_rfl) H).trans (by kernel_rfl)
end
end Go.Am
