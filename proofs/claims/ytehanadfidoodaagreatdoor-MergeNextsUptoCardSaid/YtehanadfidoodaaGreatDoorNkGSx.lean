/-
  The functions of the translation over the abstract machine, a further part: written by program (wip/gen.py).
-/
import Derived.Test.YtehanadfidoodaaGreatDoorNkGx
namespace Go.Am
open Go.Proofs
set_option maxRecDepth 100000
noncomputable abbrev Y0 (f n:Nat):=Y1 cfg (Za cfg) (ZQ cfg (cfg.keep f) n) (cfg.keep f) n Zb Z7
noncomputable abbrev Es (f n:Nat):=ZQ cfg (cfg.keep f) n
noncomputable section
abbrev Ed (f n:Nat)(F:Func)(p:List Nat):KL→AL→Hp→Z4:=fun k al H=>Y0 f n (sub (Z1 F) p) k (ZP (cfg.keep f) (sub (Z1 F) p) al) H
abbrev Jj (f n:Nat)(F:Func)(p:List Nat):KL→AL→Hp→Z4:=fun k al H=>Es f n (sub (Z1 F) p) k (ZP (cfg.keep f) (sub (Z1 F) p) al) H
variable (p0 p1 p2 p3 x0 x1 x2 x3 x4 x5 x6 x7 x8 x9 x10 x11 x12 x13 x18 x19 x20 x21 x22 x23 x24:AV)(H0 H:Hp)
def MF:Z4:=Y0 28 39 (sub (Z1 Tryz.f28) [1,1,1,1]) (Zf cfg 39 28 Tryz.f28 H0) [(0,x0),(1,x1),(2,x2)] H
def Bf:KL:=Zb (Ed 28 39 Tryz.f28 [1,1,1,1]) (Zf cfg 39 28 Tryz.f28 H0)
theorem Ck:ZL 39 (Bf H0):=Zu (C:=cfg) (kp:=cfg.keep 28) (sub (Z1 Tryz.f28) [1,1,1,1]) (Zv 28 Tryz.f28 H0)
def Zem:Z4:=Y0 28 39 (sub (Z1 Tryz.f28) [1,1,1,0,1,0,0,1,1]) (Zb (Jj 28 39 Tryz.f28 [1,1,1,0,1,0,0]) (Z7 0 (Bf H0))) [(0,x0),(1,x1),(2,x2),(18,x18),(19,x19),(20,x20),(21,x21)] H
def MG:Z4:=Es 28 39 (sub (Z1 Tryz.f28) [1,1,1,0,1,0,0]) (Z7 0 (Bf H0)) [(0,x0),(1,x1),(2,x2),(18,x18),(19,x19),(20,x20)] H
def ME:Z4:=Y0 28 39 (sub (Z1 Tryz.f28) [1,1,1]) (Zf cfg 39 28 Tryz.f28 H0) [(0,x0),(1,x1),(2,x2)] H
def MD:Z4:=Y0 28 39 (sub (Z1 Tryz.f28) [1,1]) (Zf cfg 39 28 Tryz.f28 H0) [(0,x0),(1,x1),(2,x2)] H
def Lk:Z4:=
 Z0 (X1 (.pointer 120) .eql p0 .nilp) fun t12=>
 Zk t12
 (some ((.tuple [.nilp,(.int .i64 5)]),H))
 (MD p0 p1 p2 H H)
theorem IR:MF x0 x1 x2 H0 H =
 Z0 (some ((.map H.length),H++[.map [] 0])) fun r33=>
 Z0 ((Yn [(0,1,x0),(1,1,x1),(3,1,r33.1)] [.nilp,(.str []),.nils,.nilm]).map .agg) fun t34=>
 Z0 (GQ (.int .i64 0) x2) fun t36=>
 Z0 ((Yn [(0,4,t34),(4,1,t36)] [.nilp,(.str []),.nils,.nilm,(.int .i64 0),(.int .i64 0),(.bool false)]).map .agg) fun t37=>
 Z0 (ZU t37 r33.2) fun r38=>
 some ((.tuple [r38.1,(.int .i64 0)]),r38.2):=Z9 [3,5,7,11,12] (by kernel_rfl)
theorem IT:MG x0 x1 x2 x18 x19 x20 H0 H =
 Z0 (Z5 .lss x20 x19) fun t21=>
 Zk t21
 (Zem x0 x1 x2 x18 x19 x20 t21 H0 H)
 (MF x0 x1 x2 H0 H):=(Zx (C:=cfg) [3,5,7,11,12] (Zm 0 (Ck H0)) _ _).trans (by kernel_rfl)
theorem IQ:ME x0 x1 x2 H0 H =
 Z0 (DS BM [x0,x1] H) fun r18=>
 Z0 (Zj (.slice 9) r18.1) fun t19=>
 MG x0 x1 x2 r18.1 t19 (.int .i64 0) H0 r18.2:=Z9 [3,5,7,11,12] (by kernel_rfl)
theorem IP:MD x0 x1 x2 H0 H =
 Z0 (Zc Va [x1] H) fun r14=>
 Z0 (X9 .not r14.1) fun t15=>
 Zk t15
 (some ((.tuple [.nilp,(.int .i64 4)]),r14.2))
 (ME x0 x1 x2 H0 r14.2):=Z9 [3,5,7,11,12] (by kernel_rfl)
theorem Oe:QQ [p0,p1,p2] H=Lk p0 p1 p2 H:=(Zd (C:=cfg) (fn:=Tryz.f28) (c:=Z1 Tryz.f28) (n:=39) [3,5,7,11,12] Tryz.func28 (by kernel_rfl) (by kernel_rfl) [p0,p1,p2] (by kernel_rfl) H).trans (by kernel_rfl)
def Zcx:Z4:=
 Z0 (GQ p0 (.int .i64 0)) fun t4=>
 Z0 (VO t4 (.int .i64 262144)) fun t5=>
 Z0 (some ((.map H.length),H++[.map [] 0])) fun r6=>
 Z0 ((Yn [(0,1,t5),(3,1,r6.1)] [(.int .i64 0),(.int .i64 0),(.int .i64 0),.nilm,(.bool false),(.int .i64 0)]).map .agg) fun t7=>
 Z0 (ZU t7 r6.2) fun r8=>
 some (r8.1,r8.2)
theorem Zhu:Ei [p0] H=Zcx p0 H:=(Zd (C:=cfg) (fn:=Tryz.f29) (c:=Z1 Tryz.f29) (n:=9) [] Tryz.func29 (by kernel_rfl) (by kernel_rfl) [p0] (by kernel_rfl) H).trans (by kernel_rfl)
def Fo:Z4:=Y0 53 38 (sub (Z1 Tryz.f53) [1,1,1,1]) (Zf cfg 38 53 Tryz.f53 H0) [(3,x3)] H
def Vy:KL:=Zb (Ed 53 38 Tryz.f53 [1,1,1,1]) (Zf cfg 38 53 Tryz.f53 H0)
theorem Mz:ZL 38 (Vy H0):=Zu (C:=cfg) (kp:=cfg.keep 53) (sub (Z1 Tryz.f53) [1,1,1,1]) (Zv 53 Tryz.f53 H0)
def Fq:Z4:=Y0 53 38 (sub (Z1 Tryz.f53) [1,1,1,0,1,0,0,1,1,1]) (Zb (Jj 53 38 Tryz.f53 [1,1,1,0,1,0,0]) (Z7 0 (Vy H0))) [(0,x0),(3,x3),(10,x10),(11,x11),(12,x12)] H
def Fp:Z4:=Y0 53 38 (sub (Z1 Tryz.f53) [1,1,1,0,1,0,0,1,1]) (Zb (Jj 53 38 Tryz.f53 [1,1,1,0,1,0,0]) (Z7 0 (Vy H0))) [(0,x0),(3,x3),(10,x10),(11,x11),(12,x12),(13,x13)] H
def Vz:Z4:=Es 53 38 (sub (Z1 Tryz.f53) [1,1,1,0,1,0,0]) (Z7 0 (Vy H0)) [(0,x0),(3,x3),(10,x10),(11,x11),(12,x12)] H
def Fm:Z4:=Y0 53 38 (sub (Z1 Tryz.f53) [1,1]) (Zf cfg 38 53 Tryz.f53 H0) [(0,x0)] H
def RC:Z4:=
 Z0 (X1 (.pointer 120) .eql p0 .nilp) fun t8=>
 Zk t8
 (some (.nils,H))
 (Fm p0 H H)
theorem EY:Fo x3 H0 H =
 some (x3,H):=Z9 [3,6,9,10] (by kernel_rfl)
theorem S2:Fq x0 x3 x10 x11 x12 H0 H =
 Z0 (Z5 .add x12 (.int .i64 1)) fun t36=>
 Vz x0 x3 x10 x11 t36 H0 H:=Z9 [3,6,9,10] (by kernel_rfl)
theorem EZ:Fp x0 x3 x10 x11 x12 x13 H0 H =
 Z0 (Zl 1 x10 x12) fun t14=>
 Z0 (Z3 false 1 t14 H) fun t15=>
 Z0 (ZI x0) fun t17=>
 Z0 (Z8 3 t17) fun t18=>
 Z0 (Z3 false 1 t18 H) fun t19=>
 Z0 (Y6 .string .nilp false t19 t15 H) fun t21=>
 Z0 (ZI t21) fun t25=>
 Z0 (Z8 0 t25) fun t26=>
 Z0 (Z3 false 1 t26 H) fun t27=>
 Z0 (Zj (.slice 5) t27) fun t28=>
 Z0 (ZI t21) fun t30=>
 Z0 (Z8 1 t30) fun t31=>
 Z0 (Z3 false 1 t31 H) fun t32=>
 Z0 ((Yn [(0,1,t15),(1,1,t28),(2,1,t32)] [(.str []),(.int .i64 0),(.int .i64 0)]).map .agg) fun t33=>
 Z0 ((Zz 3 [(0,t33)] [(.agg [(.str []),(.int .i64 0),(.int .i64 0)])]).map (.vs 3 .clip)) fun t34=>
 Z0 (ZS 3 32 x3 t34 H) fun r35=>
 Fq x0 r35.1 x10 x11 x12 H0 r35.2:=Z9 [3,6,9,10] (by kernel_rfl)
theorem Gh:Vz x0 x3 x10 x11 x12 H0 H =
 Z0 (Z5 .lss x12 x11) fun t13=>
 Zk t13
 (Fp x0 x3 x10 x11 x12 t13 H0 H)
 (Fo x3 H0 H):=(Zx (C:=cfg) [3,6,9,10] (Zm 0 (Mz H0)) _ _).trans (by kernel_rfl)
theorem EX:Fm x0 H0 H =
 Z0 (namesE.run [x0] H) fun r10=>
 Z0 (Zj (.slice 9) r10.1) fun t11=>
 Vz x0 .nils r10.1 t11 (.int .i64 0) H0 r10.2:=Z9 [3,6,9,10] (by kernel_rfl)
theorem Sp:Wr [p0] H=RC p0 H:=(Zd (C:=cfg) (fn:=Tryz.f53) (c:=Z1 Tryz.f53) (n:=38) [3,6,9,10] Tryz.func53 (by kernel_rfl) (by kernel_rfl) [p0] (by kernel_rfl) H).trans (by kernel_rfl)
def KM:Z4:=Y0 77 54 (sub (Z1 Tryz.f77) [1,1]) (Zf cfg 54 77 Tryz.f77 H0) [(0,x0)] H
def Uw:KL:=Zb (Ed 77 54 Tryz.f77 [1,1]) (Zf cfg 54 77 Tryz.f77 H0)
theorem S7:ZL 54 (Uw H0):=Zu (C:=cfg) (kp:=cfg.keep 77) (sub (Z1 Tryz.f77) [1,1]) (Zv 77 Tryz.f77 H0)
def KO:Z4:=Y0 77 54 (sub (Z1 Tryz.f77) [1,0,1,0,0,1,1,1]) (Zb (Jj 77 54 Tryz.f77 [1,0,1,0,0]) (Z7 0 (Uw H0))) [(0,x0),(7,x7),(8,x8)] H
def KN:Z4:=Y0 77 54 (sub (Z1 Tryz.f77) [1,0,1,0,0,1,1]) (Zb (Jj 77 54 Tryz.f77 [1,0,1,0,0]) (Z7 0 (Uw H0))) [(0,x0),(7,x7),(8,x8),(9,x9)] H
def Ux:Z4:=Es 77 54 (sub (Z1 Tryz.f77) [1,0,1,0,0]) (Z7 0 (Uw H0)) [(0,x0),(7,x7),(8,x8)] H
def Nd:Z4:=
 Z0 (Zj .string p0) fun t7=>
 Ux p0 t7 (.int .i64 0) H H
theorem HO:KM x0 H0 H =
 Z0 (Yq .neq x0 (.str [])) fun t48=>
 Z0 (Z6 t48 true (.tuple []) (some x0)) fun t50=>
 Z0 (Z6 t48 true (.tuple []) (Zj .string t50)) fun t51=>
 Z0 (Z6 t48 true (.tuple []) (Z5 .leq t51 (.int .i64 16))) fun t52=>
 Z0 (Zg t48 t52 (.bool false)) fun t53=>
 some (t53,H):=Z9 [3,8,9] (by kernel_rfl)
theorem DX:KO x0 x7 x8 H0 H =
 Z0 (Z5 .add x8 (.int .i64 1)) fun t46=>
 Ux x0 x7 t46 H0 H:=Z9 [3,8,9] (by kernel_rfl)
theorem HP:KN x0 x7 x8 x9 H0 H =
 Z0 (Zr x0 x8) fun t13=>
 Z0 (Z5 .eql t13 (.int .u8 95)) fun t15=>
 Z0 (Z6 t15 false (.tuple []) (some t13)) fun t17=>
 Z0 (Z6 t15 false (.tuple []) (Z5 .geq t17 (.int .u8 97))) fun t18=>
 Z0 (Z6 t15 false (.tuple []) (some t18)) fun t19=>
 Z0 (Z6 t19 true (.tuple []) (some t13)) fun t20=>
 Z0 (Z6 t19 true (.tuple []) (Z5 .leq t20 (.int .u8 122))) fun t21=>
 Z0 (Z6 t15 false (.tuple []) (Zg t19 t21 (.bool false))) fun t22=>
 Z0 (Zg t15 (.bool true) t22) fun t23=>
 Z0 (Z6 t23 false (.tuple []) (some t13)) fun t25=>
 Z0 (Z6 t23 false (.tuple []) (Z5 .geq t25 (.int .u8 65))) fun t26=>
 Z0 (Z6 t23 false (.tuple []) (some t26)) fun t27=>
 Z0 (Z6 t27 true (.tuple []) (some t13)) fun t28=>
 Z0 (Z6 t27 true (.tuple []) (Z5 .leq t28 (.int .u8 90))) fun t29=>
 Z0 (Z6 t23 false (.tuple []) (Zg t27 t29 (.bool false))) fun t30=>
 Z0 (Zg t23 (.bool true) t30) fun t31=>
 Z0 (X9 .not t31) fun t33=>
 Z0 (Z6 t33 true (.tuple []) (some x8)) fun t35=>
 Z0 (Z6 t33 true (.tuple []) (Z5 .eql t35 (.int .i64 0))) fun t36=>
 Z0 (Z6 t33 true (.tuple []) (some t36)) fun t37=>
 Z0 (Z6 t37 false (.tuple []) (some t13)) fun t38=>
 Z0 (Z6 t37 false (.tuple []) (Z5 .lss t38 (.int .u8 48))) fun t39=>
 Z0 (Z6 t33 true (.tuple []) (Zg t37 (.bool true) t39)) fun t40=>
 Z0 (Z6 t33 true (.tuple []) (some t40)) fun t41=>
 Z0 (Z6 t41 false (.tuple []) (some t13)) fun t42=>
 Z0 (Z6 t41 false (.tuple []) (Z5 .gtr t42 (.int .u8 57))) fun t43=>
 Z0 (Z6 t33 true (.tuple []) (Zg t41 (.bool true) t43)) fun t44=>
 Z0 (Zg t33 t44 (.bool false)) fun t45=>
 Zk t45
 (some ((.bool false),H))
 (KO x0 x7 x8 H0 H):=Z9 [3,8,9] (by kernel_rfl)
theorem WY:Ux x0 x7 x8 H0 H =
 Z0 (Z5 .lss x8 x7) fun t9=>
 Zk t9
 (KN x0 x7 x8 t9 H0 H)
 (KM x0 H0 H):=(Zx (C:=cfg) [3,8,9] (Zm 0 (S7 H0)) _ _).trans (by kernel_rfl)
theorem I7:Va [p0] H=Nd p0 H:=(Zd (C:=cfg) (fn:=Tryz.f77) (c:=Z1 Tryz.f77) (n:=54) [3,8,9] Tryz.func77 (by kernel_rfl) (by kernel_rfl) [p0] (by kernel_rfl) H).trans (by kernel_rfl)
def MB:Z4:=Y0 78 56 (sub (Z1 Tryz.f78) [1,1,1,1,1]) (Zf cfg 56 78 Tryz.f78 H0) [(5,x5)] H
def Bc:KL:=Zb (Ed 78 56 Tryz.f78 [1,1,1,1,1]) (Zf cfg 56 78 Tryz.f78 H0)
theorem Cj:ZL 56 (Bc H0):=Zu (C:=cfg) (kp:=cfg.keep 78) (sub (Z1 Tryz.f78) [1,1,1,1,1]) (Zv 78 Tryz.f78 H0)
def Zel:Z4:=Y0 78 56 (sub (Z1 Tryz.f78) [1,1,1,1,0,1,0,0,1,1]) (Zb (Jj 78 56 Tryz.f78 [1,1,1,1,0,1,0,0]) (Z7 0 (Bc H0))) [(5,x5),(6,x6),(21,x21),(22,x22),(23,x23),(24,x24)] H
def MC:Z4:=Es 78 56 (sub (Z1 Tryz.f78) [1,1,1,1,0,1,0,0]) (Z7 0 (Bc H0)) [(5,x5),(6,x6),(21,x21),(22,x22),(23,x23)] H
def MA:Z4:=Y0 78 56 (sub (Z1 Tryz.f78) [1,1,1]) (Zf cfg 56 78 Tryz.f78 H0) [(0,x0),(1,x1),(5,x5)] H
def Lj:Z4:=
 Z0 (X1 (.pointer 120) .eql p0 .nilp) fun t11=>
 Z0 (Z6 t11 false (.tuple []) (some p1)) fun t13=>
 Z0 (Z6 t11 false ((.tuple []),H) (Zc Va [t13] H)) fun r14=>
 Z0 (Z6 t11 false (.tuple []) (X9 .not r14.1)) fun t15=>
 Z0 (Zg t11 (.bool true) t15) fun t16=>
 Zk t16
 (some (.nils,r14.2))
 (MA p0 p1 .nils H r14.2)
theorem IM:MB x5 H0 H =
 some (x5,H):=Z9 [4,7,11,12] (by kernel_rfl)
theorem IN:MC x5 x6 x21 x22 x23 H0 H =
 Z0 (Z5 .lss x23 x22) fun t24=>
 Zk t24
 (Zel x5 x6 x21 x22 x23 t24 H0 H)
 (MB x5 H0 H):=(Zx (C:=cfg) [4,7,11,12] (Zm 0 (Cj H0)) _ _).trans (by kernel_rfl)
theorem IL:MA x0 x1 x5 H0 H =
 Z0 (Zc Ul [x1] H) fun r19=>
 Z0 (DS Wr [x0] r19.2) fun r21=>
 Z0 (Zj (.slice 142) r21.1) fun t22=>
 MC x5 r19.1 r21.1 t22 (.int .i64 0) H0 r21.2:=Z9 [4,7,11,12] (by kernel_rfl)
theorem Od:BM [p0,p1] H=Lj p0 p1 H:=(Zd (C:=cfg) (fn:=Tryz.f78) (c:=Z1 Tryz.f78) (n:=56) [4,7,11,12] Tryz.func78 (by kernel_rfl) (by kernel_rfl) [p0,p1] (by kernel_rfl) H).trans (by kernel_rfl)
def BC:Z4:=Y0 80 63 (sub (Z1 Tryz.f80) [1,1,1,1,1]) (Zf cfg 63 80 Tryz.f80 H0) [(0,x0),(4,x4)] H
def BB:Z4:=Y0 80 63 (sub (Z1 Tryz.f80) [1,1,1]) (Zf cfg 63 80 Tryz.f80 H0) [(0,x0)] H
def BA:Z4:=Y0 80 63 (sub (Z1 Tryz.f80) [1,1]) (Zf cfg 63 80 Tryz.f80 H0) [(0,x0)] H
def BR:Z4:=
 Z0 (X1 (.pointer 117) .eql p0 .nilp) fun t7=>
 Zk t7
 (some ((.tuple [(.str []),(.int .i64 5)]),H))
 (BA p0 H H)
theorem MH:BC x0 x4 H0 H =
 Z0 (ZI x0) fun t44=>
 Z0 (Z8 5 t44) fun t45=>
 Z0 (Z3 false 1 t45 H) fun t46=>
 Z0 (Z5 .add t46 (.int .i64 1)) fun t47=>
 Z0 (ZI x0) fun t48=>
 Z0 (Z8 5 t48) fun t49=>
 Z0 (Zi 1 t49 t47 H) fun r_18=>
 Z0 (ZI x0) fun t52=>
 Z0 (Z8 0 t52) fun t53=>
 Z0 (Z8 2 t53) fun t54=>
 Z0 (Z3 false 1 t54 r_18.2) fun t55=>
 Z0 ((Zz 1 [(0,x4)] [(.str [])]).map (.vs 1 .clip)) fun t57=>
 Z0 (ZS 1 16 t55 t57 r_18.2) fun r58=>
 Z0 (ZI x0) fun t59=>
 Z0 (Z8 0 t59) fun t60=>
 Z0 (Z8 2 t60) fun t61=>
 Z0 (Zi 1 t61 r58.1 r58.2) fun r_28=>
 some ((.tuple [x4,(.int .i64 0)]),r_28.2):=Z9 [3,5,9] (by kernel_rfl)
theorem JB:BB x0 H0 H =
 Z0 (ZI x0) fun t21=>
 Z0 (Z8 0 t21) fun t22=>
 Z0 (Z8 1 t22) fun t23=>
 Z0 (Z3 false 1 t23 H) fun t24=>
 Z0 (Zc Ul [t24] H) fun r25=>
 Z0 (ZI x0) fun t27=>
 Z0 (Z8 5 t27) fun t28=>
 Z0 (Z3 false 1 t28 r25.2) fun t29=>
 Z0 (Z5 .add t29 (.int .i64 1)) fun t30=>
 Z0 (Zc N1 [t30] r25.2) fun r31=>
 Z0 (Yq .add r25.1 r31.1) fun t32=>
 Z0 (ZI x0) fun t34=>
 Z0 (Z8 0 t34) fun t35=>
 Z0 (Z8 0 t35) fun t36=>
 Z0 (Z3 false 1 t36 r31.2) fun t37=>
 Z0 (UY [t37,t32] r31.2) fun r39=>
 Z0 (Z5 .neq r39.1 (.int .i64 0)) fun t41=>
 Zk t41
 (some ((.tuple [(.str []),r39.1]),r39.2))
 (BC x0 t32 H0 r39.2):=Z9 [3,5,9] (by kernel_rfl)
theorem Vn:BA x0 H0 H =
 Z0 (ZI x0) fun t9=>
 Z0 (Z8 6 t9) fun t10=>
 Z0 (Z3 false 1 t10 H) fun t11=>
 Z0 (Z6 t11 false (.tuple []) (some x0)) fun t13=>
 Z0 (Z6 t11 false (.tuple []) (ZI t13)) fun t14=>
 Z0 (Z6 t11 false (.tuple []) (Z8 0 t14)) fun t15=>
 Z0 (Z6 t11 false (.tuple []) (Z8 0 t15)) fun t16=>
 Z0 (Z6 t11 false (.tuple []) (Z3 false 1 t16 H)) fun t17=>
 Z0 (Z6 t11 false (.tuple []) (X1 (.pointer 120) .eql t17 .nilp)) fun t18=>
 Z0 (Zg t11 (.bool true) t18) fun t19=>
 Zk t19
 (some ((.tuple [(.str []),(.int .i64 8)]),H))
 (BB x0 H0 H):=Z9 [3,5,9] (by kernel_rfl)
theorem MM:WQ [p0] H=BR p0 H:=(Zd (C:=cfg) (fn:=Tryz.f80) (c:=Z1 Tryz.f80) (n:=63) [3,5,9] Tryz.func80 (by kernel_rfl) (by kernel_rfl) [p0] (by kernel_rfl) H).trans (by kernel_rfl)
def Kr:Z4:=Y0 81 51 (sub (Z1 Tryz.f81) [1,1,1,1,1,1]) (Zf cfg 51 81 Tryz.f81 H0) [(0,x0),(1,x1),(8,x8)] H
def Kq:Z4:=Y0 81 51 (sub (Z1 Tryz.f81) [1,1,1,1,1]) (Zf cfg 51 81 Tryz.f81 H0) [(0,x0),(1,x1),(8,x8)] H
def Kp:Z4:=Y0 81 51 (sub (Z1 Tryz.f81) [1,1,1]) (Zf cfg 51 81 Tryz.f81 H0) [(0,x0),(1,x1),(2,x2)] H
def Ko:Z4:=Y0 81 51 (sub (Z1 Tryz.f81) [1,1]) (Zf cfg 51 81 Tryz.f81 H0) [(0,x0),(1,x1),(2,x2)] H
def KV:Z4:=
 Z0 (Xx [p0,p1] H) fun r12=>
 Z0 (Z5 .neq r12.1 (.int .i64 0)) fun t14=>
 Zk t14
 (some (r12.1,r12.2))
 (Ko p0 p1 p2 H r12.2)
theorem TD:Kr x0 x1 x8 H0 H =
 Z0 (ZI x0) fun t44=>
 Z0 (Z8 0 t44) fun t45=>
 Z0 (Z8 0 t45) fun t46=>
 Z0 (Z3 false 1 t46 H) fun t47=>
 Z0 (UX [t47,x1,x8] H) fun r50=>
 some (r50.1,r50.2):=Z9 [4,6,9,11] (by kernel_rfl)
theorem QA:Kq x0 x1 x8 H0 H =
 Z0 (Zj .string x8) fun t32=>
 Z0 (ZI x0) fun t34=>
 Z0 (Z8 4 t34) fun t35=>
 Z0 (Z3 false 1 t35 H) fun t36=>
 Z0 (ZI x0) fun t38=>
 Z0 (Z8 0 t38) fun t39=>
 Z0 (DS Wn [t39] H) fun r40=>
 Z0 (Z5 .sub t36 r40.1) fun t41=>
 Z0 (Z5 .gtr t32 t41) fun t42=>
 Zk t42
 (some ((.int .i64 11),r40.2))
 (Kr x0 x1 x8 H0 r40.2):=Z9 [4,6,9,11] (by kernel_rfl)
theorem WM:Kp x0 x1 x2 H0 H =
 Z0 (Zc Fz [x2] H) fun r25=>
 Z0 (ZM r25.1 0) fun t26=>
 Z0 (ZM r25.1 1) fun t27=>
 Z0 (Z5 .neq t27 (.int .i64 0)) fun t29=>
 Zk t29
 (some (t27,r25.2))
 (Kq x0 x1 t26 H0 r25.2):=Z9 [4,6,9,11] (by kernel_rfl)
theorem Xr:Ko x0 x1 x2 H0 H =
 Z0 (ZI x0) fun t17=>
 Z0 (Z8 0 t17) fun t18=>
 Z0 (Z8 3 t18) fun t19=>
 Z0 (Z3 false 1 t19 H) fun t20=>
 Z0 (Y6 .string (.bool false) false t20 x1 H) fun t22=>
 Zk t22
 (some ((.int .i64 8),H))
 (Kp x0 x1 x2 H0 H):=Z9 [4,6,9,11] (by kernel_rfl)
theorem Pf:Wm [p0,p1,p2] H=KV p0 p1 p2 H:=(Zd (C:=cfg) (fn:=Tryz.f81) (c:=Z1 Tryz.f81) (n:=51) [4,6,9,11] Tryz.func81 (by kernel_rfl) (by kernel_rfl) [p0,p1,p2] (by kernel_rfl) H).trans (by kernel_rfl)
def Gq:Z4:=Y0 82 29 (sub (Z1 Tryz.f82) [1,1,1]) (Zf cfg 29 82 Tryz.f82 H0) [(0,x0),(1,x1)] H
def Gp:Z4:=Y0 82 29 (sub (Z1 Tryz.f82) [1,1]) (Zf cfg 29 82 Tryz.f82 H0) [(0,x0),(1,x1)] H
def Bk:Z4:=
 Z0 (Xx [p0,p1] H) fun r9=>
 Z0 (Z5 .neq r9.1 (.int .i64 0)) fun t11=>
 Zk t11
 (some (r9.1,r9.2))
 (Gp p0 p1 H r9.2)
theorem PI:Gq x0 x1 H0 H =
 Z0 (ZI x0) fun t24=>
 Z0 (Z8 0 t24) fun t25=>
 Z0 (Z8 3 t25) fun t26=>
 Z0 (Z3 false 1 t26 H) fun t27=>
 Z0 (Xi .string t27 x1 (.bool true) H) fun r_5=>
 some ((.int .i64 0),r_5.2):=Z9 [4,7] (by kernel_rfl)
theorem J6:Gp x0 x1 H0 H =
 Z0 (ZI x0) fun t14=>
 Z0 (Z8 0 t14) fun t15=>
 Z0 (Z8 0 t15) fun t16=>
 Z0 (Z3 false 1 t16 H) fun t17=>
 Z0 (Jd [t17,x1] H) fun r19=>
 Z0 (Z5 .neq r19.1 (.int .i64 0)) fun t21=>
 Zk t21
 (some (r19.1,r19.2))
 (Gq x0 x1 H0 r19.2):=Z9 [4,7] (by kernel_rfl)
theorem Nb:WE [p0,p1] H=Bk p0 p1 H:=(Zd (C:=cfg) (fn:=Tryz.f82) (c:=Z1 Tryz.f82) (n:=29) [4,7] Tryz.func82 (by kernel_rfl) (by kernel_rfl) [p0,p1] (by kernel_rfl) H).trans (by kernel_rfl)
def Gn:Z4:=Y0 86 49 (sub (Z1 Tryz.f86) [1,1,1,1,1,1,1]) (Zf cfg 49 86 Tryz.f86 H0) [(2,x2),(12,x12),(13,x13)] H
def Gm:Z4:=Y0 86 49 (sub (Z1 Tryz.f86) [1,1,1,1,1]) (Zf cfg 49 86 Tryz.f86 H0) [(2,x2),(10,x10)] H
def Gl:Z4:=Y0 86 49 (sub (Z1 Tryz.f86) [1,1,1,1]) (Zf cfg 49 86 Tryz.f86 H0) [(2,x2),(10,x10)] H
def Gk:Z4:=Y0 86 49 (sub (Z1 Tryz.f86) [1,1]) (Zf cfg 49 86 Tryz.f86 H0) [(0,x0),(1,x1),(2,x2)] H
def UA:Z4:=
 Z0 (Xx [p0,p1] H) fun r16=>
 Z0 (Z5 .neq r16.1 (.int .i64 0)) fun t18=>
 Zk t18
 (some ((.tuple [(.str []),(.int .i64 0),r16.1]),r16.2))
 (Gk p0 p1 p2 H r16.2)
theorem PH:Gn x2 x12 x13 H0 H =
 Z0 (Z5 .add x2 x13) fun t48=>
 some ((.tuple [x12,t48,(.int .i64 0)]),H):=Z9 [4,7,9,12] (by kernel_rfl)
theorem PG:Gm x2 x10 H0 H =
 Z0 (Zc PW [x10,(.int .i64 0)] H) fun r38=>
 Z0 (ZM r38.1 0) fun t39=>
 Z0 (ZM r38.1 1) fun t40=>
 Z0 (ZM r38.1 2) fun t41=>
 Z0 (Z5 .neq t41 (.int .i64 0)) fun t43=>
 Zk t43
 (some ((.tuple [(.str []),(.int .i64 0),t41]),r38.2))
 (Gn x2 t39 t40 H0 r38.2):=Z9 [4,7,9,12] (by kernel_rfl)
theorem J5:Gl x2 x10 H0 H =
 Z0 (Yq .eql x10 (.str [])) fun t35=>
 Zk t35
 (some ((.tuple [(.str []),(.int .i64 0),(.int .i64 5)]),H))
 (Gm x2 x10 H0 H):=Z9 [4,7,9,12] (by kernel_rfl)
theorem J4:Gk x0 x1 x2 H0 H =
 Z0 (ZI x0) fun t22=>
 Z0 (Z8 0 t22) fun t23=>
 Z0 (Z8 0 t23) fun t24=>
 Z0 (Z3 false 1 t24 H) fun t25=>
 Z0 (Jc [t25,x1,x2,(.int .i64 4102)] H) fun r28=>
 Z0 (ZM r28.1 0) fun t29=>
 Z0 (ZM r28.1 1) fun t30=>
 Z0 (Z5 .neq t30 (.int .i64 0)) fun t32=>
 Zk t32
 (some ((.tuple [(.str []),(.int .i64 0),t30]),r28.2))
 (Gl x2 t29 H0 r28.2):=Z9 [4,7,9,12] (by kernel_rfl)
theorem Jg:WD [p0,p1,p2] H=UA p0 p1 p2 H:=(Zd (C:=cfg) (fn:=Tryz.f86) (c:=Z1 Tryz.f86) (n:=49) [4,7,9,12] Tryz.func86 (by kernel_rfl) (by kernel_rfl) [p0,p1,p2] (by kernel_rfl) H).trans (by kernel_rfl)
def Ks:Z4:=Y0 103 29 (sub (Z1 Tryz.f103) [1,1,1]) (Zf cfg 29 103 Tryz.f103 H0) [(3,x3)] H
def W8:KL:=Zb (Ed 103 29 Tryz.f103 [1,1,1]) (Zf cfg 29 103 Tryz.f103 H0)
theorem R4:ZL 29 (W8 H0):=Zu (C:=cfg) (kp:=cfg.keep 103) (sub (Z1 Tryz.f103) [1,1,1]) (Zv 103 Tryz.f103 H0)
def VE:Z4:=Y0 103 29 (sub (Z1 Tryz.f103) [1,1,0,1,0,0,1,1,1]) (Zb (Jj 103 29 Tryz.f103 [1,1,0,1,0,0]) (Z7 0 (W8 H0))) [(0,x0),(3,x3),(10,x10),(11,x11),(12,x12)] H
def Ku:Z4:=Y0 103 29 (sub (Z1 Tryz.f103) [1,1,0,1,0,0,1,1]) (Zb (Jj 103 29 Tryz.f103 [1,1,0,1,0,0]) (Z7 0 (W8 H0))) [(0,x0),(3,x3),(10,x10),(11,x11),(12,x12),(13,x13)] H
def W9:Z4:=Es 103 29 (sub (Z1 Tryz.f103) [1,1,0,1,0,0]) (Z7 0 (W8 H0)) [(0,x0),(3,x3),(10,x10),(11,x11),(12,x12)] H
def KW:Z4:=
 Z0 (ZI p0) fun t7=>
 Z0 (Z8 0 t7) fun t8=>
 Z0 (Z3 false 1 t8 H) fun t9=>
 Z0 (DS Wr [t9] H) fun r10=>
 Z0 (Zj (.slice 142) r10.1) fun t11=>
 W9 p0 (.int .i64 0) r10.1 t11 (.int .i64 0) H r10.2
theorem TE:Ks x3 H0 H =
 some (x3,H):=Z9 [4,7,8] (by kernel_rfl)
theorem QB:VE x0 x3 x10 x11 x12 H0 H =
 Z0 (Z5 .add x12 (.int .i64 1)) fun t27=>
 W9 x0 x3 x10 x11 t27 H0 H:=Z9 [4,7,8] (by kernel_rfl)
theorem TF:Ku x0 x3 x10 x11 x12 x13 H0 H =
 Z0 (Zl 3 x10 x12) fun t14=>
 Z0 (Z3 true 3 t14 H) fun t15=>
 Z0 (some ((.ptr H.length 0),H++[.cells [(.str []),(.int .i64 0),(.int .i64 0)]])) fun r5=>
 Z0 (Zi 3 r5.1 t15 r5.2) fun r_11=>
 Z0 (ZI x0) fun t17=>
 Z0 (Z8 2 t17) fun t18=>
 Z0 (Z3 false 1 t18 r_11.2) fun t19=>
 Z0 (Z8 0 r5.1) fun t20=>
 Z0 (Z3 false 1 t20 r_11.2) fun t21=>
 Z0 (Zc Yw [t19,t21] r_11.2) fun r22=>
 Zk r22.1
 (Z0 (Z8 1 r5.1) fun t24=>
 Z0 (Z3 false 1 t24 r22.2) fun t25=>
 Z0 (Z5 .add x3 t25) fun t26=>
 VE x0 t26 x10 x11 x12 H0 r22.2)
 (VE x0 x3 x10 x11 x12 H0 r22.2):=Z9 [4,7,8] (by kernel_rfl)
theorem QC:W9 x0 x3 x10 x11 x12 H0 H =
 Z0 (Z5 .lss x12 x11) fun t13=>
 Zk t13
 (Ku x0 x3 x10 x11 x12 t13 H0 H)
 (Ks x3 H0 H):=(Zx (C:=cfg) [4,7,8] (Zm 0 (R4 H0)) _ _).trans (by kernel_rfl)
theorem Pg:Wn [p0] H=KW p0 H:=(Zd (C:=cfg) (fn:=Tryz.f103) (c:=Z1 Tryz.f103) (n:=29) [4,7,8] Tryz.func103 (by kernel_rfl) (by kernel_rfl) [p0] (by kernel_rfl) H).trans (by kernel_rfl)
def TN:Z4:=
 Z0 (Yq .add (.str [46,116,109,112,46]) p0) fun t4=>
 Z0 (Yq .add t4 (.str [46])) fun t5=>
 some (t5,H)
theorem Cu:Ul [p0] H=TN p0 H:=(Zd (C:=cfg) (fn:=Tryz.f114) (c:=Z1 Tryz.f114) (n:=6) [] Tryz.func114 (by kernel_rfl) (by kernel_rfl) [p0] (by kernel_rfl) H).trans (by kernel_rfl)
def Fx:Z4:=Y0 116 20 (sub (Z1 Tryz.f116) [1,1,1,1,1]) (Zf cfg 20 116 Tryz.f116 H0) [(6,x6)] H
def Fw:Z4:=Y0 116 20 (sub (Z1 Tryz.f116) [1,1,1]) (Zf cfg 20 116 Tryz.f116 H0) [(0,x0),(1,x1)] H
def Fu:Z4:=Y0 116 20 (sub (Z1 Tryz.f116) [1,1]) (Zf cfg 20 116 Tryz.f116 H0) [(0,x0),(1,x1)] H
def RF:Z4:=
 Z0 (X1 (.pointer 120) .eql p0 .nilp) fun t8=>
 Zk t8
 (some ((.tuple [.nilp,(.int .i64 5)]),H))
 (Fu p0 p1 H H)
theorem S5:Fx x6 H0 H =
 some ((.tuple [x6,(.int .i64 0)]),H):=Z9 [3,5,8] (by kernel_rfl)
theorem Gi:Fw x0 x1 H0 H =
 Z0 (ZI x0) fun t12=>
 Z0 (Z8 3 t12) fun t13=>
 Z0 (Z3 false 1 t13 H) fun t14=>
 Z0 (Y6 .string .nilp false t14 x1 H) fun t16=>
 Z0 (X1 (.pointer 131) .eql t16 .nilp) fun t18=>
 Zk t18
 (some ((.tuple [.nilp,(.int .i64 5)]),H))
 (Fx t16 H0 H):=Z9 [3,5,8] (by kernel_rfl)
theorem Ui:Fu x0 x1 H0 H =
 Z0 (Vr [x0] H) fun r10=>
 Zk r10.1
 (some ((.tuple [.nilp,(.int .i64 19)]),r10.2))
 (Fw x0 x1 H0 r10.2):=Z9 [3,5,8] (by kernel_rfl)
theorem Ss:Ws [p0,p1] H=RF p0 p1 H:=(Zd (C:=cfg) (fn:=Tryz.f116) (c:=Z1 Tryz.f116) (n:=20) [3,5,8] Tryz.func116 (by kernel_rfl) (by kernel_rfl) [p0,p1] (by kernel_rfl) H).trans (by kernel_rfl)
def O6:Z4:=
 Z0 (HM Zbn [p0] H) fun r4=>
 some (r4.1,r4.2)
theorem ZeB:N1 [p0] H=O6 p0 H:=(Zd (C:=cfg) (fn:=Tryz.f118) (c:=Z1 Tryz.f118) (n:=5) [] Tryz.func118 (by kernel_rfl) (by kernel_rfl) [p0] (by kernel_rfl) H).trans (by kernel_rfl)
def UO:Z4:=Y0 119 46 (sub (Z1 Tryz.f119) [1,1,1]) (Zf cfg 46 119 Tryz.f119 H0) [(0,x0),(1,x1)] H
def Bz:Z4:=Y0 119 46 (sub (Z1 Tryz.f119) [1,1]) (Zf cfg 46 119 Tryz.f119 H0) [(0,x0),(1,x1)] H
def BQ:Z4:=
 Z0 (X1 (.pointer 120) .eql p0 .nilp) fun t7=>
 Zk t7
 (some ((.int .i64 5),H))
 (Z0 (Vr [p0] H) fun r10=>
 Zk r10.1
 (some ((.int .i64 19),r10.2))
 (Z0 (Zc GU [p1] r10.2) fun r13=>
 Z0 (X9 .not r13.1) fun t14=>
 Zk t14
 (some ((.int .i64 4),r13.2))
 (Z0 (ZI p0) fun t17=>
 Z0 (Z8 3 t17) fun t18=>
 Z0 (Z3 false 1 t18 r13.2) fun t19=>
 Z0 (Y6 .string .nilp false t19 p1 r13.2) fun t21=>
 Z0 (X1 (.pointer 131) .neq t21 .nilp) fun t22=>
 Zk t22
 (some ((.int .i64 6),r13.2))
 (Z0 (ZI p0) fun t25=>
 Z0 (Z8 3 t25) fun t26=>
 Z0 (Z3 false 1 t26 r13.2) fun t27=>
 Z0 (Q2 t27 r13.2) fun t28=>
 Z0 (Z5 .geq t28 (.int .i64 64)) fun t29=>
 Zk t29
 (some ((.int .i64 3),r13.2))
 (Bz p0 p1 H r13.2)))))
theorem My:UO x0 x1 H0 H =
 Z0 (ZI x0) fun t40=>
 Z0 (Z8 3 t40) fun t41=>
 Z0 (Z3 false 1 t41 H) fun t42=>
 Z0 (some (.agg [.nils,(.int .i64 0)])) fun t44=>
 Z0 (ZU t44 H) fun r45=>
 Z0 (Xi .string t42 x1 r45.1 r45.2) fun r_6=>
 some ((.int .i64 0),r_6.2):=Z9 [11,13] (by kernel_rfl)
theorem Mx:Bz x0 x1 H0 H =
 Z0 (ZI x0) fun t31=>
 Z0 (Z8 3 t31) fun t32=>
 Z0 (Z3 false 1 t32 H) fun t33=>
 Z0 (X1 (.map 9 129) .eql t33 .nilm) fun t34=>
 Zk t34
 (Z0 (some ((.map H.length),H++[.map [] 0])) fun r36=>
 Z0 (ZI x0) fun t37=>
 Z0 (Z8 3 t37) fun t38=>
 Z0 (Zi 1 t38 r36.1 r36.2) fun r_14=>
 UO x0 x1 H0 r_14.2)
 (UO x0 x1 H0 H):=Z9 [11,13] (by kernel_rfl)
theorem ML:UY [p0,p1] H=BQ p0 p1 H:=(Zd (C:=cfg) (fn:=Tryz.f119) (c:=Z1 Tryz.f119) (n:=46) [11,13] Tryz.func119 (by kernel_rfl) (by kernel_rfl) [p0,p1] (by kernel_rfl) H).trans (by kernel_rfl)
def Gs:Z4:=Y0 120 22 (sub (Z1 Tryz.f120) [1,1]) (Zf cfg 22 120 Tryz.f120 H0) [] H
def Bl:Z4:=
 Z0 (X1 (.pointer 117) .eql p0 .nilp) fun t7=>
 Zk t7
 (some ((.int .i64 5),H))
 (Z0 (ZI p0) fun t10=>
 Z0 (Z8 6 t10) fun t11=>
 Z0 (Z3 false 1 t11 H) fun t12=>
 Zk t12
 (some ((.int .i64 8),H))
 (Z0 (ZI p0) fun t15=>
 Z0 (Z8 0 t15) fun t16=>
 Z0 (Z8 2 t16) fun t17=>
 Z0 (Z3 false 1 t17 H) fun t18=>
 Z0 (Zc Yw [t18,p1] H) fun r20=>
 Z0 (X9 .not r20.1) fun t21=>
 Zk t21
 (some ((.int .i64 5),r20.2))
 (Gs H r20.2)))
theorem PJ:Gs H0 H =
 some ((.int .i64 0),H):=Z9 [7] (by kernel_rfl)
theorem Nc:Xx [p0,p1] H=Bl p0 p1 H:=(Zd (C:=cfg) (fn:=Tryz.f120) (c:=Z1 Tryz.f120) (n:=22) [7] Tryz.func120 (by kernel_rfl) (by kernel_rfl) [p0,p1] (by kernel_rfl) H).trans (by kernel_rfl)
def LG:Z4:=Y0 121 27 (sub (Z1 Tryz.f121) [1,1,1]) (Zf cfg 27 121 Tryz.f121 H0) [(4,x4)] H
def VU:KL:=Zb (Ed 121 27 Tryz.f121 [1,1,1]) (Zf cfg 27 121 Tryz.f121 H0)
theorem Ha:ZL 27 (VU H0):=Zu (C:=cfg) (kp:=cfg.keep 121) (sub (Z1 Tryz.f121) [1,1,1]) (Zv 121 Tryz.f121 H0)
def LI:Z4:=Y0 121 27 (sub (Z1 Tryz.f121) [1,1,0,1,0,0,1,1,1]) (Zb (Jj 121 27 Tryz.f121 [1,1,0,1,0,0]) (Z7 0 (VU H0))) [(4,x4),(9,x9),(10,x10),(11,x11)] H
def Zgi:KL:=Zb (Ed 121 27 Tryz.f121 [1,1,0,1,0,0,1,1,1]) (Zb (Jj 121 27 Tryz.f121 [1,1,0,1,0,0]) (Z7 0 (VU H0)))
def LJ:Z4:=Y0 121 27 (sub (Z1 Tryz.f121) [1,1,0,1,0,0,1,1,0,0,1,1,1]) (Z7 1 (Zgi H0)) [(4,x4),(7,x7),(9,x9),(10,x10),(11,x11)] H
def LH:Z4:=Y0 121 27 (sub (Z1 Tryz.f121) [1,1,0,1,0,0,1,1]) (Zb (Jj 121 27 Tryz.f121 [1,1,0,1,0,0]) (Z7 0 (VU H0))) [(4,x4),(9,x9),(10,x10),(11,x11),(12,x12)] H
def QV:Z4:=Es 121 27 (sub (Z1 Tryz.f121) [1,1,0,1,0,0]) (Z7 0 (VU H0)) [(4,x4),(9,x9),(10,x10),(11,x11)] H
def Se:Z4:=
 Z0 (some ((.ptr H.length 0),H++[.bld 192 5 []])) fun r4=>
 Z0 (Zj (.slice 9) p0) fun t10=>
 QV r4.1 p0 t10 (.int .i64 0) H r4.2
theorem Zaw:LG x4 H0 H =
 Z0 (stringE.run [x4] H) fun r26=>
 some ((.tuple [r26.1,(.int .i64 0)]),r26.2):=Z9 [4,8,9,10] (by kernel_rfl)
theorem Zax:LI x4 x9 x10 x11 H0 H =
 Z0 (Z5 .add x11 (.int .i64 1)) fun t25=>
 QV x4 x9 x10 t25 H0 H:=Z9 [4,8,9,10] (by kernel_rfl)
theorem Zay:LJ x4 x7 x9 x10 x11 H0 H =
 Z0 (textE.run [x4,x7] H) fun r24=>
 LI x4 x9 x10 x11 H0 r24.2:=Z9 [4,8,9,10] (by kernel_rfl)
theorem RH:LH x4 x9 x10 x11 x12 H0 H =
 Z0 (Zl 1 x9 x11) fun t13=>
 Z0 (Z3 false 1 t13 H) fun t14=>
 Z0 (Zc FA [t14] H) fun r17=>
 Z0 (ZM r17.1 0) fun t18=>
 Z0 (ZM r17.1 1) fun t19=>
 Z0 (Z5 .neq t19 (.int .i64 0)) fun t21=>
 Zk t21
 (some ((.tuple [(.str []),t19]),r17.2))
 (LJ x4 t18 x9 x10 x11 H0 r17.2):=Z9 [4,8,9,10] (by kernel_rfl)
theorem RI:QV x4 x9 x10 x11 H0 H =
 Z0 (Z5 .lss x11 x10) fun t12=>
 Zk t12
 (LH x4 x9 x10 x11 t12 H0 H)
 (LG x4 H0 H):=(Zx (C:=cfg) [4,8,9,10] (Zm 0 (Ha H0)) _ _).trans (by kernel_rfl)
theorem Zbx:Fz [p0] H=Se p0 H:=(Zd (C:=cfg) (fn:=Tryz.f121) (c:=Z1 Tryz.f121) (n:=27) [4,8,9,10] Tryz.func121 (by kernel_rfl) (by kernel_rfl) [p0] (by kernel_rfl) H).trans (by kernel_rfl)
def By:Z4:=Y0 122 60 (sub (Z1 Tryz.f122) [1,1,1,1]) (Zf cfg 60 122 Tryz.f122 H0) [(0,x0),(2,x2),(7,x7)] H
def Bx:Z4:=Y0 122 60 (sub (Z1 Tryz.f122) [1,1,1]) (Zf cfg 60 122 Tryz.f122 H0) [(0,x0),(2,x2),(7,x7)] H
def BP:Z4:=
 Z0 (Ws [p0,p1] H) fun r12=>
 Z0 (ZM r12.1 0) fun t13=>
 Z0 (ZM r12.1 1) fun t14=>
 Z0 (Z5 .neq t14 (.int .i64 0)) fun t16=>
 Zk t16
 (some (t14,r12.2))
 (Bx p0 p2 t13 H r12.2)
theorem Mw:By x0 x2 x7 H0 H =
 Z0 (ZI x7) fun t32=>
 Z0 (Z8 0 t32) fun t33=>
 Z0 (Z3 false 1 t33 H) fun t34=>
 Z0 (ZS 1 1 t34 x2 H) fun r36=>
 Z0 (ZI x7) fun t37=>
 Z0 (Z8 0 t37) fun t38=>
 Z0 (Zi 1 t38 r36.1 r36.2) fun r_10=>
 Z0 (ZI x0) fun t40=>
 Z0 (Z8 1 t40) fun t41=>
 Z0 (Z3 false 1 t41 r_10.2) fun t42=>
 Z0 (Zj .string x2) fun t44=>
 Z0 (Z5 .add t42 t44) fun t45=>
 Z0 (ZI x0) fun t46=>
 Z0 (Z8 1 t46) fun t47=>
 Z0 (Zi 1 t47 t45 r_10.2) fun r_18=>
 Z0 (ZI x0) fun t50=>
 Z0 (Z8 2 t50) fun t51=>
 Z0 (Z3 false 1 t51 r_18.2) fun t52=>
 Z0 (ZI x0) fun t54=>
 Z0 (Z8 1 t54) fun t55=>
 Z0 (Z3 false 1 t55 r_18.2) fun t56=>
 Z0 (GQ t52 t56) fun t57=>
 Z0 (ZI x0) fun t58=>
 Z0 (Z8 2 t58) fun t59=>
 Z0 (Zi 1 t59 t57 r_18.2) fun r_28=>
 some ((.int .i64 0),r_28.2):=Z9 [4,6] (by kernel_rfl)
theorem JA:Bx x0 x2 x7 H0 H =
 Z0 (ZI x0) fun t19=>
 Z0 (Z8 1 t19) fun t20=>
 Z0 (Z3 false 1 t20 H) fun t21=>
 Z0 (Zj .string x2) fun t23=>
 Z0 (Z5 .add t21 t23) fun t24=>
 Z0 (ZI x0) fun t26=>
 Z0 (Z8 0 t26) fun t27=>
 Z0 (Z3 false 1 t27 H) fun t28=>
 Z0 (Z5 .gtr t24 t28) fun t29=>
 Zk t29
 (some ((.int .i64 12),H))
 (By x0 x2 x7 H0 H):=Z9 [4,6] (by kernel_rfl)
theorem MK:UX [p0,p1,p2] H=BP p0 p1 p2 H:=(Zd (C:=cfg) (fn:=Tryz.f122) (c:=Z1 Tryz.f122) (n:=60) [4,6] Tryz.func122 (by kernel_rfl) (by kernel_rfl) [p0,p1,p2] (by kernel_rfl) H).trans (by kernel_rfl)
def QN:Z4:=Y0 123 24 (sub (Z1 Tryz.f123) [1,1,1]) (Zf cfg 24 123 Tryz.f123 H0) [(6,x6)] H
def RE:Z4:=
 Z0 (Ws [p0,p1] H) fun r10=>
 Z0 (ZM r10.1 0) fun t11=>
 Z0 (ZM r10.1 1) fun t12=>
 Z0 (Z5 .eql t12 (.int .i64 0)) fun t14=>
 Zk t14
 (Z0 (ZI t11) fun t17=>
 Z0 (Z8 0 t17) fun t18=>
 Z0 (Z3 false 1 t18 r10.2) fun t19=>
 Z0 (Zj (.slice 5) t19) fun t20=>
 Z0 (ZI t11) fun t21=>
 Z0 (Z8 1 t21) fun t22=>
 Z0 (Zi 1 t22 t20 r10.2) fun r_11=>
 QN t12 H r_11.2)
 (QN t12 H r10.2)
theorem Uh:QN x6 H0 H =
 some (x6,H):=Z9 [4] (by kernel_rfl)
theorem Sr:Jd [p0,p1] H=RE p0 p1 H:=(Zd (C:=cfg) (fn:=Tryz.f123) (c:=Z1 Tryz.f123) (n:=24) [4] Tryz.func123 (by kernel_rfl) (by kernel_rfl) [p0,p1] (by kernel_rfl) H).trans (by kernel_rfl)
def Ft:Z4:=Y0 124 54 (sub (Z1 Tryz.f124) [1,1,1,1]) (Zf cfg 54 124 Tryz.f124 H0) [(2,x2),(3,x3),(10,x10)] H
def Fr:Z4:=Y0 124 54 (sub (Z1 Tryz.f124) [1,1,1]) (Zf cfg 54 124 Tryz.f124 H0) [(2,x2),(3,x3),(10,x10)] H
def RD:Z4:=
 Z0 (Ws [p0,p1] H) fun r15=>
 Z0 (ZM r15.1 0) fun t16=>
 Z0 (ZM r15.1 1) fun t17=>
 Z0 (Z5 .neq t17 (.int .i64 0)) fun t19=>
 Zk t19
 (some ((.tuple [(.str []),t17]),r15.2))
 (Fr p2 p3 t16 H r15.2)
theorem S4:Ft x2 x3 x10 H0 H =
 Z0 (ZI x10) fun t37=>
 Z0 (Z8 0 t37) fun t38=>
 Z0 (Z3 false 1 t38 H) fun t39=>
 Z0 (ZI x10) fun t44=>
 Z0 (Z8 0 t44) fun t45=>
 Z0 (Z3 false 1 t45 H) fun t46=>
 Z0 (Zj (.slice 5) t46) fun t47=>
 Z0 (Z5 .sub t47 x2) fun t49=>
 Z0 (VO x3 t49) fun t50=>
 Z0 (Z5 .add x2 t50) fun t51=>
 Z0 (YL 1 t39 (some x2) (some t51) none) fun t52=>
 Z0 (UE t52 H) fun t53=>
 some ((.tuple [t53,(.int .i64 0)]),H):=Z9 [4,6] (by kernel_rfl)
theorem S3:Fr x2 x3 x10 H0 H =
 Z0 (Z5 .lss x2 (.int .i64 0)) fun t22=>
 Z0 (Z6 t22 false (.tuple []) (some x2)) fun t24=>
 Z0 (Z6 t22 false (.tuple []) (some x10)) fun t25=>
 Z0 (Z6 t22 false (.tuple []) (ZI t25)) fun t26=>
 Z0 (Z6 t22 false (.tuple []) (Z8 0 t26)) fun t27=>
 Z0 (Z6 t22 false (.tuple []) (Z3 false 1 t27 H)) fun t28=>
 Z0 (Z6 t22 false (.tuple []) (Zj (.slice 5) t28)) fun t29=>
 Z0 (Z6 t22 false (.tuple []) (Z5 .gtr t24 t29)) fun t30=>
 Z0 (Zg t22 (.bool true) t30) fun t31=>
 Z0 (Z6 t31 false (.tuple []) (some x3)) fun t33=>
 Z0 (Z6 t31 false (.tuple []) (Z5 .lss t33 (.int .i64 0))) fun t34=>
 Z0 (Zg t31 (.bool true) t34) fun t35=>
 Zk t35
 (some ((.tuple [(.str []),(.int .i64 2)]),H))
 (Ft x2 x3 x10 H0 H):=Z9 [4,6] (by kernel_rfl)
theorem Sq:Jc [p0,p1,p2,p3] H=RD p0 p1 p2 p3 H:=(Zd (C:=cfg) (fn:=Tryz.f124) (c:=Z1 Tryz.f124) (n:=54) [4,6] Tryz.func124 (by kernel_rfl) (by kernel_rfl) [p0,p1,p2,p3] (by kernel_rfl) H).trans (by kernel_rfl)
def AM:Z4:=Y0 125 58 (sub (Z1 Tryz.f125) [1,1,1,1,1,1,1,1]) (Zf cfg 58 125 Tryz.f125 H0) [(1,x1),(7,x7),(8,x8)] H
def AK:Z4:=Y0 125 58 (sub (Z1 Tryz.f125) [1,1,1,1,1,1,1]) (Zf cfg 58 125 Tryz.f125 H0) [(1,x1),(7,x7),(8,x8)] H
def AJ:Z4:=Y0 125 58 (sub (Z1 Tryz.f125) [1,1,1,1,1,1]) (Zf cfg 58 125 Tryz.f125 H0) [(1,x1),(7,x7),(8,x8)] H
def AI:Z4:=Y0 125 58 (sub (Z1 Tryz.f125) [1,1,1,1]) (Zf cfg 58 125 Tryz.f125 H0) [(1,x1),(7,x7)] H
def AH:Z4:=Y0 125 58 (sub (Z1 Tryz.f125) [1,1]) (Zf cfg 58 125 Tryz.f125 H0) [(0,x0),(1,x1)] H
def O3:Z4:=
 Z0 (Z5 .lss p1 (.int .i64 0)) fun t10=>
 Z0 (Z6 t10 false (.tuple []) (some p1)) fun t12=>
 Z0 (Z6 t10 false (.tuple []) (some p0)) fun t13=>
 Z0 (Z6 t10 false (.tuple []) (Zj .string t13)) fun t14=>
 Z0 (Z6 t10 false (.tuple []) (Z5 .gtr t12 t14)) fun t15=>
 Z0 (Zg t10 (.bool true) t15) fun t16=>
 Zk t16
 (some ((.tuple [(.str []),(.int .i64 0),(.int .i64 2)]),H))
 (AH p0 p1 H H)
theorem ZdX:AM x1 x7 x8 H0 H =
 Z0 (Z5 .add x8 (.int .i64 2)) fun t52=>
 Z0 (ZX x7 (some (.int .i64 2)) (some t52) none) fun t53=>
 Z0 (Z5 .add x1 x8) fun t56=>
 Z0 (Z5 .add t56 (.int .i64 6)) fun t57=>
 some ((.tuple [t53,t57,(.int .i64 0)]),H):=Z9 [3,6,9,11,13] (by kernel_rfl)
theorem ZdW:AK x1 x7 x8 H0 H =
 Z0 (Z5 .add x8 (.int .i64 2)) fun t40=>
 Z0 (Z5 .add x8 (.int .i64 6)) fun t42=>
 Z0 (ZX x7 (some t40) (some t42) none) fun t43=>
 Z0 (Z5 .add x8 (.int .i64 2)) fun t46=>
 Z0 (ZX x7 none (some t46) none) fun t47=>
 Z0 (Zc Re [t47] H) fun r48=>
 Z0 (Yq .neq t43 r48.1) fun t49=>
 Zk t49
 (some ((.tuple [(.str []),(.int .i64 0),(.int .i64 13)]),r48.2))
 (AM x1 x7 x8 H0 r48.2):=Z9 [3,6,9,11,13] (by kernel_rfl)
theorem ZdV:AJ x1 x7 x8 H0 H =
 Z0 (Zj .string x7) fun t34=>
 Z0 (Z5 .add x8 (.int .i64 6)) fun t36=>
 Z0 (Z5 .lss t34 t36) fun t37=>
 Zk t37
 (some ((.tuple [(.str []),(.int .i64 0),(.int .i64 14)]),H))
 (AK x1 x7 x8 H0 H):=Z9 [3,6,9,11,13] (by kernel_rfl)
theorem ZdU:AI x1 x7 H0 H =
 Z0 (Zr x7 (.int .i64 0)) fun t24=>
 Z0 (Yg .i64 t24) fun t25=>
 Z0 (Z5 .shl t25 (.int .u64 8)) fun t26=>
 Z0 (Zr x7 (.int .i64 1)) fun t28=>
 Z0 (Yg .i64 t28) fun t29=>
 Z0 (Z5 .or t26 t29) fun t30=>
 Z0 (Z5 .gtr t30 (.int .i64 4096)) fun t32=>
 Zk t32
 (some ((.tuple [(.str []),(.int .i64 0),(.int .i64 13)]),H))
 (AJ x1 x7 t30 H0 H):=Z9 [3,6,9,11,13] (by kernel_rfl)
theorem ZdT:AH x0 x1 H0 H =
 Z0 (ZX x0 (some x1) none none) fun t19=>
 Z0 (Zj .string t19) fun t21=>
 Z0 (Z5 .lss t21 (.int .i64 2)) fun t22=>
 Zk t22
 (some ((.tuple [(.str []),(.int .i64 0),(.int .i64 14)]),H))
 (AI x1 t19 H0 H):=Z9 [3,6,9,11,13] (by kernel_rfl)
theorem Zez:PW [p0,p1] H=O3 p0 p1 H:=(Zd (C:=cfg) (fn:=Tryz.f125) (c:=Z1 Tryz.f125) (n:=58) [3,6,9,11,13] Tryz.func125 (by kernel_rfl) (by kernel_rfl) [p0,p1] (by kernel_rfl) H).trans (by kernel_rfl)
def WN:Z4:=
 Z0 (Zc XI [p0,p1] H) fun r7=>
 Z0 (Z5 .geq r7.1 (.int .i64 0)) fun t8=>
 some (t8,r7.2)
theorem J7:Yw [p0,p1] H=WN p0 p1 H:=(Zd (C:=cfg) (fn:=Tryz.f146) (c:=Z1 Tryz.f146) (n:=9) [] Tryz.func146 (by kernel_rfl) (by kernel_rfl) [p0,p1] (by kernel_rfl) H).trans (by kernel_rfl)
def XZ:Z4:=Y0 167 37 (sub (Z1 Tryz.f167) [1,1]) (Zf cfg 37 167 Tryz.f167 H0) [(0,x0)] H
def F3:Z4:=
 Z0 (ZI p0) fun t5=>
 Z0 (Z8 4 t5) fun t6=>
 Z0 (Z3 false 1 t6 H) fun t7=>
 Zk t7
 (XZ p0 H H)
 (Z0 (ZI p0) fun t10=>
 Z0 (Z8 5 t10) fun t11=>
 Z0 (Z3 false 1 t11 H) fun t12=>
 Z0 (Z5 .eql t12 (.int .i64 1)) fun t13=>
 Zk t13
 (Z0 (ZI p0) fun t16=>
 Z0 (Z8 4 t16) fun t17=>
 Z0 (Zi 1 t17 (.bool true) H) fun r_13=>
 Z0 (ZI p0) fun t18=>
 Z0 (Z8 5 t18) fun t19=>
 Z0 (Zi 1 t19 (.int .i64 0) r_13.2) fun r_16=>
 XZ p0 H r_16.2)
 (Z0 (ZI p0) fun t22=>
 Z0 (Z8 5 t22) fun t23=>
 Z0 (Z3 false 1 t23 H) fun t24=>
 Z0 (Z5 .gtr t24 (.int .i64 1)) fun t25=>
 Zk t25
 (Z0 (ZI p0) fun t27=>
 Z0 (Z8 5 t27) fun t28=>
 Z0 (Z3 false 1 t28 H) fun t29=>
 Z0 (Z5 .sub t29 (.int .i64 1)) fun t30=>
 Z0 (ZI p0) fun t31=>
 Z0 (Z8 5 t31) fun t32=>
 Z0 (Zi 1 t32 t30 H) fun r_27=>
 XZ p0 H r_27.2)
 (XZ p0 H H)))
theorem W7:XZ x0 H0 H =
 Z0 (ZI x0) fun t34=>
 Z0 (Z8 4 t34) fun t35=>
 Z0 (Z3 false 1 t35 H) fun t36=>
 some (t36,H):=Z9 [6] (by kernel_rfl)
theorem Eo:Vr [p0] H=F3 p0 H:=(Zd (C:=cfg) (fn:=Tryz.f167) (c:=Z1 Tryz.f167) (n:=37) [6] Tryz.func167 (by kernel_rfl) (by kernel_rfl) [p0] (by kernel_rfl) H).trans (by kernel_rfl)
def KI:Z4:=Y0 169 58 (sub (Z1 Tryz.f169) [1,1]) (Zf cfg 58 169 Tryz.f169 H0) [(0,x0)] H
def Uu:KL:=Zb (Ed 169 58 Tryz.f169 [1,1]) (Zf cfg 58 169 Tryz.f169 H0)
theorem S6:ZL 58 (Uu H0):=Zu (C:=cfg) (kp:=cfg.keep 169) (sub (Z1 Tryz.f169) [1,1]) (Zv 169 Tryz.f169 H0)
def KK:Z4:=Y0 169 58 (sub (Z1 Tryz.f169) [1,0,1,0,0,1,1,1]) (Zb (Jj 169 58 Tryz.f169 [1,0,1,0,0]) (Z7 0 (Uu H0))) [(0,x0),(7,x7),(8,x8)] H
def KJ:Z4:=Y0 169 58 (sub (Z1 Tryz.f169) [1,0,1,0,0,1,1]) (Zb (Jj 169 58 Tryz.f169 [1,0,1,0,0]) (Z7 0 (Uu H0))) [(0,x0),(7,x7),(8,x8),(9,x9)] H
def Uv:Z4:=Es 169 58 (sub (Z1 Tryz.f169) [1,0,1,0,0]) (Z7 0 (Uu H0)) [(0,x0),(7,x7),(8,x8)] H
def Na:Z4:=
 Z0 (Zj .string p0) fun t7=>
 Uv p0 t7 (.int .i64 0) H H
theorem HK:KI x0 H0 H =
 Z0 (Yq .neq x0 (.str [])) fun t52=>
 Z0 (Z6 t52 true (.tuple []) (some x0)) fun t54=>
 Z0 (Z6 t52 true (.tuple []) (Zj .string t54)) fun t55=>
 Z0 (Z6 t52 true (.tuple []) (Z5 .leq t55 (.int .i64 32))) fun t56=>
 Z0 (Zg t52 t56 (.bool false)) fun t57=>
 some (t57,H):=Z9 [3,8,9] (by kernel_rfl)
theorem DW:KK x0 x7 x8 H0 H =
 Z0 (Z5 .add x8 (.int .i64 1)) fun t50=>
 Uv x0 x7 t50 H0 H:=Z9 [3,8,9] (by kernel_rfl)
theorem HL:KJ x0 x7 x8 x9 H0 H =
 Z0 (Zr x0 x8) fun t13=>
 Z0 (Z5 .geq t13 (.int .u8 97)) fun t15=>
 Z0 (Z6 t15 true (.tuple []) (some t13)) fun t17=>
 Z0 (Z6 t15 true (.tuple []) (Z5 .leq t17 (.int .u8 122))) fun t18=>
 Z0 (Zg t15 t18 (.bool false)) fun t19=>
 Z0 (Z6 t19 false (.tuple []) (some t13)) fun t21=>
 Z0 (Z6 t19 false (.tuple []) (Z5 .geq t21 (.int .u8 65))) fun t22=>
 Z0 (Z6 t19 false (.tuple []) (some t22)) fun t23=>
 Z0 (Z6 t23 true (.tuple []) (some t13)) fun t24=>
 Z0 (Z6 t23 true (.tuple []) (Z5 .leq t24 (.int .u8 90))) fun t25=>
 Z0 (Z6 t19 false (.tuple []) (Zg t23 t25 (.bool false))) fun t26=>
 Z0 (Zg t19 (.bool true) t26) fun t27=>
 Z0 (Z6 t27 false (.tuple []) (some t13)) fun t29=>
 Z0 (Z6 t27 false (.tuple []) (Z5 .eql t29 (.int .u8 95))) fun t30=>
 Z0 (Zg t27 (.bool true) t30) fun t31=>
 Z0 (Z6 t31 false (.tuple []) (some t13)) fun t33=>
 Z0 (Z6 t31 false (.tuple []) (Z5 .eql t33 (.int .u8 46))) fun t34=>
 Z0 (Zg t31 (.bool true) t34) fun t35=>
 Z0 (X9 .not t35) fun t37=>
 Z0 (Z6 t37 true (.tuple []) (some x8)) fun t39=>
 Z0 (Z6 t37 true (.tuple []) (Z5 .eql t39 (.int .i64 0))) fun t40=>
 Z0 (Z6 t37 true (.tuple []) (some t40)) fun t41=>
 Z0 (Z6 t41 false (.tuple []) (some t13)) fun t42=>
 Z0 (Z6 t41 false (.tuple []) (Z5 .lss t42 (.int .u8 48))) fun t43=>
 Z0 (Z6 t37 true (.tuple []) (Zg t41 (.bool true) t43)) fun t44=>
 Z0 (Z6 t37 true (.tuple []) (some t44)) fun t45=>
 Z0 (Z6 t45 false (.tuple []) (some t13)) fun t46=>
 Z0 (Z6 t45 false (.tuple []) (Z5 .gtr t46 (.int .u8 57))) fun t47=>
 Z0 (Z6 t37 true (.tuple []) (Zg t45 (.bool true) t47)) fun t48=>
 Z0 (Zg t37 t48 (.bool false)) fun t49=>
 Zk t49
 (some ((.bool false),H))
 (KK x0 x7 x8 H0 H):=Z9 [3,8,9] (by kernel_rfl)
theorem WX:Uv x0 x7 x8 H0 H =
 Z0 (Z5 .lss x8 x7) fun t9=>
 Zk t9
 (KJ x0 x7 x8 t9 H0 H)
 (KI x0 H0 H):=(Zx (C:=cfg) [3,8,9] (Zm 0 (S6 H0)) _ _).trans (by kernel_rfl)
theorem I6:GU [p0] H=Na p0 H:=(Zd (C:=cfg) (fn:=Tryz.f169) (c:=Z1 Tryz.f169) (n:=58) [3,8,9] Tryz.func169 (by kernel_rfl) (by kernel_rfl) [p0] (by kernel_rfl) H).trans (by kernel_rfl)
def LK:Z4:=Y0 170 23 (sub (Z1 Tryz.f170) [1,1]) (Zf cfg 23 170 Tryz.f170 H0) [(0,x0)] H
def Sf:Z4:=
 Z0 (Zj .string p0) fun t6=>
 Z0 (Z5 .gtr t6 (.int .i64 4096)) fun t7=>
 Zk t7
 (some ((.tuple [(.str []),(.int .i64 3)]),H))
 (LK p0 H H)
theorem Zaz:LK x0 H0 H =
 Z0 (Zj .string x0) fun t9=>
 Z0 (Z5 .shr t9 (.int .u64 8)) fun t10=>
 Z0 (Yg .u8 t10) fun t11=>
 Z0 (Zj .string x0) fun t13=>
 Z0 (Yg .u8 t13) fun t14=>
 Z0 ((Zz 1 [(0,t11),(1,t14)] [(.int .u8 0),(.int .u8 0)]).map (.vs 1 .clip)) fun t15=>
 Z0 (UE t15 H) fun t16=>
 Z0 (Yq .add t16 x0) fun t18=>
 Z0 (Zc Re [t18] H) fun r21=>
 Z0 (Yq .add t18 r21.1) fun t22=>
 some ((.tuple [t22,(.int .i64 0)]),r21.2):=Z9 [3] (by kernel_rfl)
theorem Zby:FA [p0] H=Sf p0 H:=(Zd (C:=cfg) (fn:=Tryz.f170) (c:=Z1 Tryz.f170) (n:=23) [3] Tryz.func170 (by kernel_rfl) (by kernel_rfl) [p0] (by kernel_rfl) H).trans (by kernel_rfl)
def Zcu:Z4:=
 Z0 (Zc Eg [p0] H) fun r5=>
 Z0 (Yg .u8 r5.1) fun t7=>
 Z0 (Z5 .shr r5.1 (.int .u64 8)) fun t9=>
 Z0 (Yg .u8 t9) fun t10=>
 Z0 (Z5 .shr r5.1 (.int .u64 16)) fun t12=>
 Z0 (Yg .u8 t12) fun t13=>
 Z0 (Z5 .shr r5.1 (.int .u64 24)) fun t15=>
 Z0 (Yg .u8 t15) fun t16=>
 Z0 ((Zz 1 [(0,t7),(1,t10),(2,t13),(3,t16)] [(.int .u8 0),(.int .u8 0),(.int .u8 0),(.int .u8 0)]).map (.vs 1 .clip)) fun t17=>
 Z0 (UE t17 r5.2) fun t18=>
 some (t18,r5.2)
theorem Zhr:Re [p0] H=Zcu p0 H:=(Zd (C:=cfg) (fn:=Tryz.f173) (c:=Z1 Tryz.f173) (n:=19) [] Tryz.func173 (by kernel_rfl) (by kernel_rfl) [p0] (by kernel_rfl) H).trans (by kernel_rfl)
def Vi:Z4:=Y0 185 19 (sub (Z1 Tryz.f185) [1,1]) (Zf cfg 19 185 Tryz.f185 H0) [] H
def YF:KL:=Zb (Ed 185 19 Tryz.f185 [1,1]) (Zf cfg 19 185 Tryz.f185 H0)
theorem J8:ZL 19 (YF H0):=Zu (C:=cfg) (kp:=cfg.keep 185) (sub (Z1 Tryz.f185) [1,1]) (Zv 185 Tryz.f185 H0)
def Vk:Z4:=Y0 185 19 (sub (Z1 Tryz.f185) [1,0,1,0,0,1,1,1]) (Zb (Jj 185 19 Tryz.f185 [1,0,1,0,0]) (Z7 0 (YF H0))) [(0,x0),(1,x1),(7,x7),(8,x8)] H
def Vj:Z4:=Y0 185 19 (sub (Z1 Tryz.f185) [1,0,1,0,0,1,1]) (Zb (Jj 185 19 Tryz.f185 [1,0,1,0,0]) (Z7 0 (YF H0))) [(0,x0),(1,x1),(7,x7),(8,x8),(9,x9)] H
def YG:Z4:=Es 185 19 (sub (Z1 Tryz.f185) [1,0,1,0,0]) (Z7 0 (YF H0)) [(0,x0),(1,x1),(7,x7),(8,x8)] H
def VA:Z4:=
 Z0 (Zj (.slice 9) p0) fun t7=>
 YG p0 p1 t7 (.int .i64 0) H H
theorem K3:Vi H0 H =
 some ((.int .i64 (-1)),H):=Z9 [3,6,7] (by kernel_rfl)
theorem K5:Vk x0 x1 x7 x8 H0 H =
 Z0 (Z5 .add x8 (.int .i64 1)) fun t18=>
 YG x0 x1 x7 t18 H0 H:=Z9 [3,6,7] (by kernel_rfl)
theorem K4:Vj x0 x1 x7 x8 x9 H0 H =
 Z0 (Zl 1 x0 x8) fun t14=>
 Z0 (Z3 false 1 t14 H) fun t15=>
 Z0 (Yq .eql x1 t15) fun t16=>
 Zk t16
 (some (x8,H))
 (Vk x0 x1 x7 x8 H0 H):=Z9 [3,6,7] (by kernel_rfl)
theorem WJ:YG x0 x1 x7 x8 H0 H =
 Z0 (Z5 .lss x8 x7) fun t9=>
 Zk t9
 (Vj x0 x1 x7 x8 t9 H0 H)
 (Vi H0 H):=(Zx (C:=cfg) [3,6,7] (Zm 0 (J8 H0)) _ _).trans (by kernel_rfl)
theorem Kz:XI [p0,p1] H=VA p0 p1 H:=(Zd (C:=cfg) (fn:=Tryz.f185) (c:=Z1 Tryz.f185) (n:=19) [3,6,7] Tryz.func185 (by kernel_rfl) (by kernel_rfl) [p0,p1] (by kernel_rfl) H).trans (by kernel_rfl)
def Zat:Z4:=Y0 208 33 (sub (Z1 Tryz.f208) [1,1,1]) (Zf cfg 33 208 Tryz.f208 H0) [(3,x3)] H
def DC:KL:=Zb (Ed 208 33 Tryz.f208 [1,1,1]) (Zf cfg 33 208 Tryz.f208 H0)
theorem Zc7:ZL 33 (DC H0):=Zu (C:=cfg) (kp:=cfg.keep 208) (sub (Z1 Tryz.f208) [1,1,1]) (Zv 208 Tryz.f208 H0)
def Zav:Z4:=Y0 208 33 (sub (Z1 Tryz.f208) [1,1,0,1,0,0,1,1,1]) (Zb (Jj 208 33 Tryz.f208 [1,1,0,1,0,0]) (Z7 0 (DC H0))) [(0,x0),(3,x3),(6,x6),(7,x7)] H
def Zau:Z4:=Y0 208 33 (sub (Z1 Tryz.f208) [1,1,0,1,0,0,1,1]) (Zb (Jj 208 33 Tryz.f208 [1,1,0,1,0,0]) (Z7 0 (DC H0))) [(0,x0),(3,x3),(6,x6),(7,x7),(8,x8)] H
def DD:Z4:=Es 208 33 (sub (Z1 Tryz.f208) [1,1,0,1,0,0]) (Z7 0 (DC H0)) [(0,x0),(3,x3),(6,x6),(7,x7)] H
def Zct:Z4:=
 Z0 (Zj .string p0) fun t6=>
 DD p0 (.int .u32 4294967295) t6 (.int .i64 0) H H
theorem Zgf:Zat x3 H0 H =
 Z0 (X9 .xor x3) fun t32=>
 some (t32,H):=Z9 [4,8,9] (by kernel_rfl)
theorem Zgh:Zav x0 x3 x6 x7 H0 H =
 Z0 (Z5 .add x7 (.int .i64 1)) fun t30=>
 DD x0 x3 x6 t30 H0 H:=Z9 [4,8,9] (by kernel_rfl)
theorem Zgg:Zau x0 x3 x6 x7 x8 H0 H =
 Z0 (Zr x0 x7) fun t13=>
 Z0 (Yg .u32 t13) fun t14=>
 Z0 (Z5 .xor x3 t14) fun t15=>
 Z0 (Z5 .and t15 (.int .u32 15)) fun t17=>
 Z0 (FI 16 1 ZnO t17) fun t18=>
 Z0 (Z3 false 1 t18 H) fun t19=>
 Z0 (Z5 .shr t15 (.int .u64 4)) fun t21=>
 Z0 (Z5 .xor t19 t21) fun t22=>
 Z0 (Z5 .and t22 (.int .u32 15)) fun t24=>
 Z0 (FI 16 1 ZnO t24) fun t25=>
 Z0 (Z3 false 1 t25 H) fun t26=>
 Z0 (Z5 .shr t22 (.int .u64 4)) fun t28=>
 Z0 (Z5 .xor t26 t28) fun t29=>
 Zav x0 t29 x6 x7 H0 H:=Z9 [4,8,9] (by kernel_rfl)
theorem LF:DD x0 x3 x6 x7 H0 H =
 Z0 (Z5 .lss x7 x6) fun t8=>
 Zk t8
 (Zau x0 x3 x6 x7 t8 H0 H)
 (Zat x3 H0 H):=(Zx (C:=cfg) [4,8,9] (Zm 0 (Zc7 H0)) _ _).trans (by kernel_rfl)
theorem Zhq:Eg [p0] H=Zct p0 H:=(Zd (C:=cfg) (fn:=Tryz.f208) (c:=Z1 Tryz.f208) (n:=33) [4,8,9] Tryz.func208 (by kernel_rfl) (by kernel_rfl) [p0] (by kernel_rfl) H).trans (by kernel_rfl)
end
end Go.Am
