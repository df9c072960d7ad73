/-
  The functions of the translation over the abstract machine, a further part: written by program (wip/gen.py).
-/
import Derived.Test.YtehanadfidoodaaGreatDoorNkGx
namespace Go.Am
open Go.Proofs
set_option maxRecDepth 100000
set_option linter.unusedVariables false
set_option linter.unusedSimpArgs false
noncomputable abbrev ZW (f n:Nat):=Yl cfg (Za cfg) (Ya cfg (cfg.keep f) n) (cfg.keep f) n Zc Z6
noncomputable abbrev Ls (f n:Nat):=Ya cfg (cfg.keep f) n
noncomputable section
abbrev Li (f n:Nat)(F:Func)(p:List Nat):KL→AL→Hp→Z3:=fun k al H=>ZW f n (sub (Z1 F) p) k (ZX (cfg.keep f) (sub (Z1 F) p) al) H
abbrev JB (f n:Nat)(F:Func)(p:List Nat):KL→AL→Hp→Z3:=fun k al H=>Ls f n (sub (Z1 F) p) k (ZX (cfg.keep f) (sub (Z1 F) p) al) H
variable (p0 p1 p2 p3 x0 x1 x2 x3 x4 x5 x6 x7 x8 x9 x10 x11 x12 x13 x18 x19 x20 x21 x22 x23 x24:AV)(H0 H:Hp)
def NZ:Z3:=ZW 28 39 (sub (Z1 Tryz.f28) [1,1,1,1]) (Zh cfg 39 28 Tryz.f28 H0) [(0,x0),(1,x1),(2,x2)] H
def Bu:KL:=Zc (Li 28 39 Tryz.f28 [1,1,1,1]) (Zh cfg 39 28 Tryz.f28 H0)
theorem S6:ZR 39 (Bu H0):=Zu (C:=cfg) (kp:=cfg.keep 28) (sub (Z1 Tryz.f28) [1,1,1,1]) (Zx 28 Tryz.f28 H0)
def ZbR:Z3:=ZW 28 39 (sub (Z1 Tryz.f28) [1,1,1,0,1,0,0,1,1]) (Zc (JB 28 39 Tryz.f28 [1,1,1,0,1,0,0]) (Z6 0 (Bu H0))) [(0,x0),(1,x1),(2,x2),(18,x18),(19,x19),(20,x20),(21,x21)] H
def M0:Z3:=Ls 28 39 (sub (Z1 Tryz.f28) [1,1,1,0,1,0,0]) (Z6 0 (Bu H0)) [(0,x0),(1,x1),(2,x2),(18,x18),(19,x19),(20,x20)] H
def NY:Z3:=ZW 28 39 (sub (Z1 Tryz.f28) [1,1,1]) (Zh cfg 39 28 Tryz.f28 H0) [(0,x0),(1,x1),(2,x2)] H
def NX:Z3:=ZW 28 39 (sub (Z1 Tryz.f28) [1,1]) (Zh cfg 39 28 Tryz.f28 H0) [(0,x0),(1,x1),(2,x2)] H
def Mt:Z3:=
 Z0 (Yn (.pointer 120) .eql p0 .nilp) fun t12=>
 Zm t12
 (some ((.tuple [.nilp,(.int .i64 5)]),H))
 (NX p0 p1 p2 H H)
theorem AA:NZ x0 x1 x2 H0 H =
 Z0 (some ((.map H.length),H++[.map [] 0])) fun r33=>
 Z0 ((YZ [(0,1,x0),(1,1,x1),(3,1,r33.1)] [.nilp,(.str []),.nils,.nilm]).map .agg) fun t34=>
 Z0 (B5 (.int .i64 0) x2) fun t36=>
 Z0 ((YZ [(0,4,t34),(4,1,t36)] [.nilp,(.str []),.nils,.nilm,(.int .i64 0),(.int .i64 0),(.bool false)]).map .agg) fun t37=>
 Z0 (Y4 t37 r33.2) fun r38=>
 some ((.tuple [r38.1,(.int .i64 0)]),r38.2):=Zb [3,5,7,11,12] (by kernel_rfl)
theorem AB:M0 x0 x1 x2 x18 x19 x20 H0 H =
 Z0 (Z5 .lss x20 x19) fun t21=>
 Zm t21
 (ZbR x0 x1 x2 x18 x19 x20 t21 H0 H)
 (NZ x0 x1 x2 H0 H):=(Zy (C:=cfg) [3,5,7,11,12] (Zn 0 (S6 H0)) _ _).trans (by kernel_rfl)
theorem Az:NY x0 x1 x2 H0 H =
 Z0 (JM BY [x0,x1] H) fun r18=>
 Z0 (Zk (.slice 9) r18.1) fun t19=>
 M0 x0 x1 x2 r18.1 t19 (.int .i64 0) H0 r18.2:=Zb [3,5,7,11,12] (by kernel_rfl)
theorem Ay:NX x0 x1 x2 H0 H =
 Z0 (Ze Vm [x1] H) fun r14=>
 Z0 (XF .not r14.1) fun t15=>
 Zm t15
 (some ((.tuple [.nilp,(.int .i64 4)]),r14.2))
 (NY x0 x1 x2 H0 r14.2):=Zb [3,5,7,11,12] (by kernel_rfl)
theorem AY:Ja [p0,p1,p2] H=Mt p0 p1 p2 H:=(Zd (C:=cfg) (fn:=Tryz.f28) (c:=Z1 Tryz.f28) (n:=39) [3,5,7,11,12] Tryz.func28 (by kernel_rfl) (by kernel_rfl) [p0,p1,p2] (by kernel_rfl) H).trans (by kernel_rfl)
def Zav:Z3:=
 Z0 (B5 p0 (.int .i64 0)) fun t4=>
 Z0 (U3 t4 (.int .i64 262144)) fun t5=>
 Z0 (some ((.map H.length),H++[.map [] 0])) fun r6=>
 Z0 ((YZ [(0,1,t5),(3,1,r6.1)] [(.int .i64 0),(.int .i64 0),(.int .i64 0),.nilm,(.bool false),(.int .i64 0)]).map .agg) fun t7=>
 Z0 (Y4 t7 r6.2) fun r8=>
 some (r8.1,r8.2)
theorem ZdZ:Lk [p0] H=Zav p0 H:=(Zd (C:=cfg) (fn:=Tryz.f29) (c:=Z1 Tryz.f29) (n:=9) [] Tryz.func29 (by kernel_rfl) (by kernel_rfl) [p0] (by kernel_rfl) H).trans (by kernel_rfl)
def Fk:Z3:=ZW 53 38 (sub (Z1 Tryz.f53) [1,1,1,1]) (Zh cfg 38 53 Tryz.f53 H0) [(3,x3)] H
def VN:KL:=Zc (Li 53 38 Tryz.f53 [1,1,1,1]) (Zh cfg 38 53 Tryz.f53 H0)
theorem NT:ZR 38 (VN H0):=Zu (C:=cfg) (kp:=cfg.keep 53) (sub (Z1 Tryz.f53) [1,1,1,1]) (Zx 53 Tryz.f53 H0)
def Fm:Z3:=ZW 53 38 (sub (Z1 Tryz.f53) [1,1,1,0,1,0,0,1,1,1]) (Zc (JB 53 38 Tryz.f53 [1,1,1,0,1,0,0]) (Z6 0 (VN H0))) [(0,x0),(3,x3),(10,x10),(11,x11),(12,x12)] H
def Fl:Z3:=ZW 53 38 (sub (Z1 Tryz.f53) [1,1,1,0,1,0,0,1,1]) (Zc (JB 53 38 Tryz.f53 [1,1,1,0,1,0,0]) (Z6 0 (VN H0))) [(0,x0),(3,x3),(10,x10),(11,x11),(12,x12),(13,x13)] H
def VO:Z3:=Ls 53 38 (sub (Z1 Tryz.f53) [1,1,1,0,1,0,0]) (Z6 0 (VN H0)) [(0,x0),(3,x3),(10,x10),(11,x11),(12,x12)] H
def Fj:Z3:=ZW 53 38 (sub (Z1 Tryz.f53) [1,1]) (Zh cfg 38 53 Tryz.f53 H0) [(0,x0)] H
def Rn:Z3:=
 Z0 (Yn (.pointer 120) .eql p0 .nilp) fun t8=>
 Zm t8
 (some (.nils,H))
 (Fj p0 H H)
theorem LW:Fk x3 H0 H =
 some (x3,H):=Zb [3,6,9,10] (by kernel_rfl)
theorem LY:Fm x0 x3 x10 x11 x12 H0 H =
 Z0 (Z5 .add x12 (.int .i64 1)) fun t36=>
 VO x0 x3 x10 x11 t36 H0 H:=Zb [3,6,9,10] (by kernel_rfl)
theorem LX:Fl x0 x3 x10 x11 x12 x13 H0 H =
 Z0 (Zl 1 x10 x12) fun t14=>
 Z0 (Z4 false 1 t14 H) fun t15=>
 Z0 (ZH x0) fun t17=>
 Z0 (Z8 3 t17) fun t18=>
 Z0 (Z4 false 1 t18 H) fun t19=>
 Z0 (Y8 .string .nilp false t19 t15 H) fun t21=>
 Z0 (ZH t21) fun t25=>
 Z0 (Z8 0 t25) fun t26=>
 Z0 (Z4 false 1 t26 H) fun t27=>
 Z0 (Zk (.slice 5) t27) fun t28=>
 Z0 (ZH t21) fun t30=>
 Z0 (Z8 1 t30) fun t31=>
 Z0 (Z4 false 1 t31 H) fun t32=>
 Z0 ((YZ [(0,1,t15),(1,1,t28),(2,1,t32)] [(.str []),(.int .i64 0),(.int .i64 0)]).map .agg) fun t33=>
 Z0 ((ZA 3 [(0,t33)] [(.agg [(.str []),(.int .i64 0),(.int .i64 0)])]).map (.vs 3 .clip)) fun t34=>
 Z0 (Y7 3 32 x3 t34 H) fun r35=>
 Fm x0 r35.1 x10 x11 x12 H0 r35.2:=Zb [3,6,9,10] (by kernel_rfl)
theorem GM:VO x0 x3 x10 x11 x12 H0 H =
 Z0 (Z5 .lss x12 x11) fun t13=>
 Zm t13
 (Fl x0 x3 x10 x11 x12 t13 H0 H)
 (Fk x3 H0 H):=(Zy (C:=cfg) [3,6,9,10] (Zn 0 (NT H0)) _ _).trans (by kernel_rfl)
theorem LV:Fj x0 H0 H =
 Z0 (namesE.run [x0] H) fun r10=>
 Z0 (Zk (.slice 9) r10.1) fun t11=>
 VO x0 .nils r10.1 t11 (.int .i64 0) H0 r10.2:=Zb [3,6,9,10] (by kernel_rfl)
theorem Eh:Wv [p0] H=Rn p0 H:=(Zd (C:=cfg) (fn:=Tryz.f53) (c:=Z1 Tryz.f53) (n:=38) [3,6,9,10] Tryz.func53 (by kernel_rfl) (by kernel_rfl) [p0] (by kernel_rfl) H).trans (by kernel_rfl)
def GV:Z3:=ZW 61 23 (sub (Z1 Tryz.f61) [1,1]) (Zh cfg 23 61 Tryz.f61 H0) [(0,x0)] H
def BB:Z3:=
 Z0 (Yn (.pointer 117) .eql p0 .nilp) fun t4=>
 Z0 (Z7 t4 false (.tuple []) (some p0)) fun t6=>
 Z0 (Z7 t4 false (.tuple []) (ZH t6)) fun t7=>
 Z0 (Z7 t4 false (.tuple []) (Z8 6 t7)) fun t8=>
 Z0 (Z7 t4 false (.tuple []) (Z4 false 1 t8 H)) fun t9=>
 Z0 (Zj t4 (.bool true) t9) fun t10=>
 Z0 (Z7 t10 false (.tuple []) (some p0)) fun t12=>
 Z0 (Z7 t10 false (.tuple []) (ZH t12)) fun t13=>
 Z0 (Z7 t10 false (.tuple []) (Z8 0 t13)) fun t14=>
 Z0 (Z7 t10 false (.tuple []) (Z8 0 t14)) fun t15=>
 Z0 (Z7 t10 false (.tuple []) (Z4 false 1 t15 H)) fun t16=>
 Z0 (Z7 t10 false (.tuple []) (Yn (.pointer 120) .eql t16 .nilp)) fun t17=>
 Z0 (Zj t10 (.bool true) t17) fun t18=>
 Zm t18
 (some ((.int .i64 0),H))
 (GV p0 H H)
theorem Pl:GV x0 H0 H =
 Z0 (ZH x0) fun t20=>
 Z0 (Z8 0 t20) fun t21=>
 Z0 (JM Xj [t21] H) fun r22=>
 some (r22.1,r22.2):=Zb [3] (by kernel_rfl)
theorem PI:WJ [p0] H=BB p0 H:=(Zd (C:=cfg) (fn:=Tryz.f61) (c:=Z1 Tryz.f61) (n:=23) [3] Tryz.func61 (by kernel_rfl) (by kernel_rfl) [p0] (by kernel_rfl) H).trans (by kernel_rfl)
def Gj:Z3:=ZW 77 54 (sub (Z1 Tryz.f77) [1,1]) (Zh cfg 54 77 Tryz.f77 H0) [(0,x0)] H
def UM:KL:=Zc (Li 77 54 Tryz.f77 [1,1]) (Zh cfg 54 77 Tryz.f77 H0)
theorem E3:ZR 54 (UM H0):=Zu (C:=cfg) (kp:=cfg.keep 77) (sub (Z1 Tryz.f77) [1,1]) (Zx 77 Tryz.f77 H0)
def Gl:Z3:=ZW 77 54 (sub (Z1 Tryz.f77) [1,0,1,0,0,1,1,1]) (Zc (JB 77 54 Tryz.f77 [1,0,1,0,0]) (Z6 0 (UM H0))) [(0,x0),(7,x7),(8,x8)] H
def Gk:Z3:=ZW 77 54 (sub (Z1 Tryz.f77) [1,0,1,0,0,1,1]) (Zc (JB 77 54 Tryz.f77 [1,0,1,0,0]) (Z6 0 (UM H0))) [(0,x0),(7,x7),(8,x8),(9,x9)] H
def UN:Z3:=Ls 77 54 (sub (Z1 Tryz.f77) [1,0,1,0,0]) (Z6 0 (UM H0)) [(0,x0),(7,x7),(8,x8)] H
def PK:Z3:=
 Z0 (Zk .string p0) fun t7=>
 UN p0 t7 (.int .i64 0) H H
theorem CA:Gj x0 H0 H =
 Z0 (Yx .neq x0 (.str [])) fun t48=>
 Z0 (Z7 t48 true (.tuple []) (some x0)) fun t50=>
 Z0 (Z7 t48 true (.tuple []) (Zk .string t50)) fun t51=>
 Z0 (Z7 t48 true (.tuple []) (Z5 .leq t51 (.int .i64 16))) fun t52=>
 Z0 (Zj t48 t52 (.bool false)) fun t53=>
 some (t53,H):=Zb [3,8,9] (by kernel_rfl)
theorem DQ:Gl x0 x7 x8 H0 H =
 Z0 (Z5 .add x8 (.int .i64 1)) fun t46=>
 UN x0 x7 t46 H0 H:=Zb [3,8,9] (by kernel_rfl)
theorem CB:Gk x0 x7 x8 x9 H0 H =
 Z0 (Zw x0 x8) fun t13=>
 Z0 (Z5 .eql t13 (.int .u8 95)) fun t15=>
 Z0 (Z7 t15 false (.tuple []) (some t13)) fun t17=>
 Z0 (Z7 t15 false (.tuple []) (Z5 .geq t17 (.int .u8 97))) fun t18=>
 Z0 (Z7 t15 false (.tuple []) (some t18)) fun t19=>
 Z0 (Z7 t19 true (.tuple []) (some t13)) fun t20=>
 Z0 (Z7 t19 true (.tuple []) (Z5 .leq t20 (.int .u8 122))) fun t21=>
 Z0 (Z7 t15 false (.tuple []) (Zj t19 t21 (.bool false))) fun t22=>
 Z0 (Zj t15 (.bool true) t22) fun t23=>
 Z0 (Z7 t23 false (.tuple []) (some t13)) fun t25=>
 Z0 (Z7 t23 false (.tuple []) (Z5 .geq t25 (.int .u8 65))) fun t26=>
 Z0 (Z7 t23 false (.tuple []) (some t26)) fun t27=>
 Z0 (Z7 t27 true (.tuple []) (some t13)) fun t28=>
 Z0 (Z7 t27 true (.tuple []) (Z5 .leq t28 (.int .u8 90))) fun t29=>
 Z0 (Z7 t23 false (.tuple []) (Zj t27 t29 (.bool false))) fun t30=>
 Z0 (Zj t23 (.bool true) t30) fun t31=>
 Z0 (XF .not t31) fun t33=>
 Z0 (Z7 t33 true (.tuple []) (some x8)) fun t35=>
 Z0 (Z7 t33 true (.tuple []) (Z5 .eql t35 (.int .i64 0))) fun t36=>
 Z0 (Z7 t33 true (.tuple []) (some t36)) fun t37=>
 Z0 (Z7 t37 false (.tuple []) (some t13)) fun t38=>
 Z0 (Z7 t37 false (.tuple []) (Z5 .lss t38 (.int .u8 48))) fun t39=>
 Z0 (Z7 t33 true (.tuple []) (Zj t37 (.bool true) t39)) fun t40=>
 Z0 (Z7 t33 true (.tuple []) (some t40)) fun t41=>
 Z0 (Z7 t41 false (.tuple []) (some t13)) fun t42=>
 Z0 (Z7 t41 false (.tuple []) (Z5 .gtr t42 (.int .u8 57))) fun t43=>
 Z0 (Z7 t33 true (.tuple []) (Zj t41 (.bool true) t43)) fun t44=>
 Z0 (Zj t33 t44 (.bool false)) fun t45=>
 Zm t45
 (some ((.bool false),H))
 (Gl x0 x7 x8 H0 H):=Zb [3,8,9] (by kernel_rfl)
theorem V5:UN x0 x7 x8 H0 H =
 Z0 (Z5 .lss x8 x7) fun t9=>
 Zm t9
 (Gk x0 x7 x8 t9 H0 H)
 (Gj x0 H0 H):=(Zy (C:=cfg) [3,8,9] (Zn 0 (E3 H0)) _ _).trans (by kernel_rfl)
theorem HD:Vm [p0] H=PK p0 H:=(Zd (C:=cfg) (fn:=Tryz.f77) (c:=Z1 Tryz.f77) (n:=54) [3,8,9] Tryz.func77 (by kernel_rfl) (by kernel_rfl) [p0] (by kernel_rfl) H).trans (by kernel_rfl)
def NV:Z3:=ZW 78 56 (sub (Z1 Tryz.f78) [1,1,1,1,1]) (Zh cfg 56 78 Tryz.f78 H0) [(5,x5)] H
def Bt:KL:=Zc (Li 78 56 Tryz.f78 [1,1,1,1,1]) (Zh cfg 56 78 Tryz.f78 H0)
theorem S5:ZR 56 (Bt H0):=Zu (C:=cfg) (kp:=cfg.keep 78) (sub (Z1 Tryz.f78) [1,1,1,1,1]) (Zx 78 Tryz.f78 H0)
def ZbQ:Z3:=ZW 78 56 (sub (Z1 Tryz.f78) [1,1,1,1,0,1,0,0,1,1]) (Zc (JB 78 56 Tryz.f78 [1,1,1,1,0,1,0,0]) (Z6 0 (Bt H0))) [(5,x5),(6,x6),(21,x21),(22,x22),(23,x23),(24,x24)] H
def NW:Z3:=Ls 78 56 (sub (Z1 Tryz.f78) [1,1,1,1,0,1,0,0]) (Z6 0 (Bt H0)) [(5,x5),(6,x6),(21,x21),(22,x22),(23,x23)] H
def NU:Z3:=ZW 78 56 (sub (Z1 Tryz.f78) [1,1,1]) (Zh cfg 56 78 Tryz.f78 H0) [(0,x0),(1,x1),(5,x5)] H
def Ms:Z3:=
 Z0 (Yn (.pointer 120) .eql p0 .nilp) fun t11=>
 Z0 (Z7 t11 false (.tuple []) (some p1)) fun t13=>
 Z0 (Z7 t11 false ((.tuple []),H) (Ze Vm [t13] H)) fun r14=>
 Z0 (Z7 t11 false (.tuple []) (XF .not r14.1)) fun t15=>
 Z0 (Zj t11 (.bool true) t15) fun t16=>
 Zm t16
 (some (.nils,r14.2))
 (NU p0 p1 .nils H r14.2)
theorem Aw:NV x5 H0 H =
 some (x5,H):=Zb [4,7,11,12] (by kernel_rfl)
theorem Ax:NW x5 x6 x21 x22 x23 H0 H =
 Z0 (Z5 .lss x23 x22) fun t24=>
 Zm t24
 (ZbQ x5 x6 x21 x22 x23 t24 H0 H)
 (NV x5 H0 H):=(Zy (C:=cfg) [4,7,11,12] (Zn 0 (S5 H0)) _ _).trans (by kernel_rfl)
theorem Av:NU x0 x1 x5 H0 H =
 Z0 (Ze Ux [x1] H) fun r19=>
 Z0 (JM Wv [x0] r19.2) fun r21=>
 Z0 (Zk (.slice 142) r21.1) fun t22=>
 NW x5 r19.1 r21.1 t22 (.int .i64 0) H0 r21.2:=Zb [4,7,11,12] (by kernel_rfl)
theorem AX:BY [p0,p1] H=Ms p0 p1 H:=(Zd (C:=cfg) (fn:=Tryz.f78) (c:=Z1 Tryz.f78) (n:=56) [4,7,11,12] Tryz.func78 (by kernel_rfl) (by kernel_rfl) [p0,p1] (by kernel_rfl) H).trans (by kernel_rfl)
def BS:Z3:=ZW 80 63 (sub (Z1 Tryz.f80) [1,1,1,1,1]) (Zh cfg 63 80 Tryz.f80 H0) [(0,x0),(4,x4)] H
def BR:Z3:=ZW 80 63 (sub (Z1 Tryz.f80) [1,1,1]) (Zh cfg 63 80 Tryz.f80 H0) [(0,x0)] H
def BQ:Z3:=ZW 80 63 (sub (Z1 Tryz.f80) [1,1]) (Zh cfg 63 80 Tryz.f80 H0) [(0,x0)] H
def D5:Z3:=
 Z0 (Yn (.pointer 117) .eql p0 .nilp) fun t7=>
 Zm t7
 (some ((.tuple [(.str []),(.int .i64 5)]),H))
 (BQ p0 H H)
theorem M1:BS x0 x4 H0 H =
 Z0 (ZH x0) fun t44=>
 Z0 (Z8 5 t44) fun t45=>
 Z0 (Z4 false 1 t45 H) fun t46=>
 Z0 (Z5 .add t46 (.int .i64 1)) fun t47=>
 Z0 (ZH x0) fun t48=>
 Z0 (Z8 5 t48) fun t49=>
 Z0 (Zi 1 t49 t47 H) fun r_18=>
 Z0 (ZH x0) fun t52=>
 Z0 (Z8 0 t52) fun t53=>
 Z0 (Z8 2 t53) fun t54=>
 Z0 (Z4 false 1 t54 r_18.2) fun t55=>
 Z0 ((ZA 1 [(0,x4)] [(.str [])]).map (.vs 1 .clip)) fun t57=>
 Z0 (Y7 1 16 t55 t57 r_18.2) fun r58=>
 Z0 (ZH x0) fun t59=>
 Z0 (Z8 0 t59) fun t60=>
 Z0 (Z8 2 t60) fun t61=>
 Z0 (Zi 1 t61 r58.1 r58.2) fun r_28=>
 some ((.tuple [x4,(.int .i64 0)]),r_28.2):=Zb [3,5,9] (by kernel_rfl)
theorem JW:BR x0 H0 H =
 Z0 (ZH x0) fun t21=>
 Z0 (Z8 0 t21) fun t22=>
 Z0 (Z8 1 t22) fun t23=>
 Z0 (Z4 false 1 t23 H) fun t24=>
 Z0 (Ze Ux [t24] H) fun r25=>
 Z0 (ZH x0) fun t27=>
 Z0 (Z8 5 t27) fun t28=>
 Z0 (Z4 false 1 t28 r25.2) fun t29=>
 Z0 (Z5 .add t29 (.int .i64 1)) fun t30=>
 Z0 (Ze Py [t30] r25.2) fun r31=>
 Z0 (Yx .add r25.1 r31.1) fun t32=>
 Z0 (ZH x0) fun t34=>
 Z0 (Z8 0 t34) fun t35=>
 Z0 (Z8 0 t35) fun t36=>
 Z0 (Z4 false 1 t36 r31.2) fun t37=>
 Z0 (Q8 [t37,t32] r31.2) fun r39=>
 Z0 (Z5 .neq r39.1 (.int .i64 0)) fun t41=>
 Zm t41
 (some ((.tuple [(.str []),r39.1]),r39.2))
 (BS x0 t32 H0 r39.2):=Zb [3,5,9] (by kernel_rfl)
theorem VB:BQ x0 H0 H =
 Z0 (ZH x0) fun t9=>
 Z0 (Z8 6 t9) fun t10=>
 Z0 (Z4 false 1 t10 H) fun t11=>
 Z0 (Z7 t11 false (.tuple []) (some x0)) fun t13=>
 Z0 (Z7 t11 false (.tuple []) (ZH t13)) fun t14=>
 Z0 (Z7 t11 false (.tuple []) (Z8 0 t14)) fun t15=>
 Z0 (Z7 t11 false (.tuple []) (Z8 0 t15)) fun t16=>
 Z0 (Z7 t11 false (.tuple []) (Z4 false 1 t16 H)) fun t17=>
 Z0 (Z7 t11 false (.tuple []) (Yn (.pointer 120) .eql t17 .nilp)) fun t18=>
 Z0 (Zj t11 (.bool true) t18) fun t19=>
 Zm t19
 (some ((.tuple [(.str []),(.int .i64 8)]),H))
 (BR x0 H0 H):=Zb [3,5,9] (by kernel_rfl)
theorem M5:XU [p0] H=D5 p0 H:=(Zd (C:=cfg) (fn:=Tryz.f80) (c:=Z1 Tryz.f80) (n:=63) [3,5,9] Tryz.func80 (by kernel_rfl) (by kernel_rfl) [p0] (by kernel_rfl) H).trans (by kernel_rfl)
def KU:Z3:=ZW 81 51 (sub (Z1 Tryz.f81) [1,1,1,1,1,1]) (Zh cfg 51 81 Tryz.f81 H0) [(0,x0),(1,x1),(8,x8)] H
def KT:Z3:=ZW 81 51 (sub (Z1 Tryz.f81) [1,1,1,1,1]) (Zh cfg 51 81 Tryz.f81 H0) [(0,x0),(1,x1),(8,x8)] H
def KS:Z3:=ZW 81 51 (sub (Z1 Tryz.f81) [1,1,1]) (Zh cfg 51 81 Tryz.f81 H0) [(0,x0),(1,x1),(2,x2)] H
def KR:Z3:=ZW 81 51 (sub (Z1 Tryz.f81) [1,1]) (Zh cfg 51 81 Tryz.f81 H0) [(0,x0),(1,x1),(2,x2)] H
def Gs:Z3:=
 Z0 (XD [p0,p1] H) fun r12=>
 Z0 (Z5 .neq r12.1 (.int .i64 0)) fun t14=>
 Zm t14
 (some (r12.1,r12.2))
 (KR p0 p1 p2 H r12.2)
theorem Tc:KU x0 x1 x8 H0 H =
 Z0 (ZH x0) fun t44=>
 Z0 (Z8 0 t44) fun t45=>
 Z0 (Z8 0 t45) fun t46=>
 Z0 (Z4 false 1 t46 H) fun t47=>
 Z0 (Q7 [t47,x1,x8] H) fun r50=>
 some (r50.1,r50.2):=Zb [4,6,9,11] (by kernel_rfl)
theorem QQ:KT x0 x1 x8 H0 H =
 Z0 (Zk .string x8) fun t32=>
 Z0 (ZH x0) fun t34=>
 Z0 (Z8 4 t34) fun t35=>
 Z0 (Z4 false 1 t35 H) fun t36=>
 Z0 (ZH x0) fun t38=>
 Z0 (Z8 0 t38) fun t39=>
 Z0 (JM Xj [t39] H) fun r40=>
 Z0 (Z5 .sub t36 r40.1) fun t41=>
 Z0 (Z5 .gtr t32 t41) fun t42=>
 Zm t42
 (some ((.int .i64 11),r40.2))
 (KU x0 x1 x8 H0 r40.2):=Zb [4,6,9,11] (by kernel_rfl)
theorem WQ:KS x0 x1 x2 H0 H =
 Z0 (Ze Fu [x2] H) fun r25=>
 Z0 (ZK r25.1 0) fun t26=>
 Z0 (ZK r25.1 1) fun t27=>
 Z0 (Z5 .neq t27 (.int .i64 0)) fun t29=>
 Zm t29
 (some (t27,r25.2))
 (KT x0 x1 t26 H0 r25.2):=Zb [4,6,9,11] (by kernel_rfl)
theorem Xw:KR x0 x1 x2 H0 H =
 Z0 (ZH x0) fun t17=>
 Z0 (Z8 0 t17) fun t18=>
 Z0 (Z8 3 t18) fun t19=>
 Z0 (Z4 false 1 t19 H) fun t20=>
 Z0 (Y8 .string (.bool false) false t20 x1 H) fun t22=>
 Zm t22
 (some ((.int .i64 8),H))
 (KS x0 x1 x2 H0 H):=Zb [4,6,9,11] (by kernel_rfl)
theorem TQ:Xi [p0,p1,p2] H=Gs p0 p1 p2 H:=(Zd (C:=cfg) (fn:=Tryz.f81) (c:=Z1 Tryz.f81) (n:=51) [4,6,9,11] Tryz.func81 (by kernel_rfl) (by kernel_rfl) [p0,p1,p2] (by kernel_rfl) H).trans (by kernel_rfl)
def GU:Z3:=ZW 82 29 (sub (Z1 Tryz.f82) [1,1,1]) (Zh cfg 29 82 Tryz.f82 H0) [(0,x0),(1,x1)] H
def GT:Z3:=ZW 82 29 (sub (Z1 Tryz.f82) [1,1]) (Zh cfg 29 82 Tryz.f82 H0) [(0,x0),(1,x1)] H
def BA:Z3:=
 Z0 (XD [p0,p1] H) fun r9=>
 Z0 (Z5 .neq r9.1 (.int .i64 0)) fun t11=>
 Zm t11
 (some (r9.1,r9.2))
 (GT p0 p1 H r9.2)
theorem Pk:GU x0 x1 H0 H =
 Z0 (ZH x0) fun t24=>
 Z0 (Z8 0 t24) fun t25=>
 Z0 (Z8 3 t25) fun t26=>
 Z0 (Z4 false 1 t26 H) fun t27=>
 Z0 (Xh .string t27 x1 (.bool true) H) fun r_5=>
 some ((.int .i64 0),r_5.2):=Zb [4,7] (by kernel_rfl)
theorem Jo:GT x0 x1 H0 H =
 Z0 (ZH x0) fun t14=>
 Z0 (Z8 0 t14) fun t15=>
 Z0 (Z8 0 t15) fun t16=>
 Z0 (Z4 false 1 t16 H) fun t17=>
 Z0 (Jv [t17,x1] H) fun r19=>
 Z0 (Z5 .neq r19.1 (.int .i64 0)) fun t21=>
 Zm t21
 (some (r19.1,r19.2))
 (GU x0 x1 H0 r19.2):=Zb [4,7] (by kernel_rfl)
theorem PH:XC [p0,p1] H=BA p0 p1 H:=(Zd (C:=cfg) (fn:=Tryz.f82) (c:=Z1 Tryz.f82) (n:=29) [4,7] Tryz.func82 (by kernel_rfl) (by kernel_rfl) [p0,p1] (by kernel_rfl) H).trans (by kernel_rfl)
def GS:Z3:=ZW 86 49 (sub (Z1 Tryz.f86) [1,1,1,1,1,1,1]) (Zh cfg 49 86 Tryz.f86 H0) [(2,x2),(12,x12),(13,x13)] H
def GR:Z3:=ZW 86 49 (sub (Z1 Tryz.f86) [1,1,1,1,1]) (Zh cfg 49 86 Tryz.f86 H0) [(2,x2),(10,x10)] H
def GQ:Z3:=ZW 86 49 (sub (Z1 Tryz.f86) [1,1,1,1]) (Zh cfg 49 86 Tryz.f86 H0) [(2,x2),(10,x10)] H
def GP:Z3:=ZW 86 49 (sub (Z1 Tryz.f86) [1,1]) (Zh cfg 49 86 Tryz.f86 H0) [(0,x0),(1,x1),(2,x2)] H
def UQ:Z3:=
 Z0 (XD [p0,p1] H) fun r16=>
 Z0 (Z5 .neq r16.1 (.int .i64 0)) fun t18=>
 Zm t18
 (some ((.tuple [(.str []),(.int .i64 0),r16.1]),r16.2))
 (GP p0 p1 p2 H r16.2)
theorem Pj:GS x2 x12 x13 H0 H =
 Z0 (Z5 .add x2 x13) fun t48=>
 some ((.tuple [x12,t48,(.int .i64 0)]),H):=Zb [4,7,9,12] (by kernel_rfl)
theorem Pi:GR x2 x10 H0 H =
 Z0 (Ze Pt [x10,(.int .i64 0)] H) fun r38=>
 Z0 (ZK r38.1 0) fun t39=>
 Z0 (ZK r38.1 1) fun t40=>
 Z0 (ZK r38.1 2) fun t41=>
 Z0 (Z5 .neq t41 (.int .i64 0)) fun t43=>
 Zm t43
 (some ((.tuple [(.str []),(.int .i64 0),t41]),r38.2))
 (GS x2 t39 t40 H0 r38.2):=Zb [4,7,9,12] (by kernel_rfl)
theorem Jn:GQ x2 x10 H0 H =
 Z0 (Yx .eql x10 (.str [])) fun t35=>
 Zm t35
 (some ((.tuple [(.str []),(.int .i64 0),(.int .i64 5)]),H))
 (GR x2 x10 H0 H):=Zb [4,7,9,12] (by kernel_rfl)
theorem Jm:GP x0 x1 x2 H0 H =
 Z0 (ZH x0) fun t22=>
 Z0 (Z8 0 t22) fun t23=>
 Z0 (Z8 0 t23) fun t24=>
 Z0 (Z4 false 1 t24 H) fun t25=>
 Z0 (Ju [t25,x1,x2,(.int .i64 4102)] H) fun r28=>
 Z0 (ZK r28.1 0) fun t29=>
 Z0 (ZK r28.1 1) fun t30=>
 Z0 (Z5 .neq t30 (.int .i64 0)) fun t32=>
 Zm t32
 (some ((.tuple [(.str []),(.int .i64 0),t30]),r28.2))
 (GQ x2 t29 H0 r28.2):=Zb [4,7,9,12] (by kernel_rfl)
theorem Jy:WI [p0,p1,p2] H=UQ p0 p1 p2 H:=(Zd (C:=cfg) (fn:=Tryz.f86) (c:=Z1 Tryz.f86) (n:=49) [4,7,9,12] Tryz.func86 (by kernel_rfl) (by kernel_rfl) [p0,p1,p2] (by kernel_rfl) H).trans (by kernel_rfl)
def KV:Z3:=ZW 103 29 (sub (Z1 Tryz.f103) [1,1,1]) (Zh cfg 29 103 Tryz.f103 H0) [(3,x3)] H
def Wg:KL:=Zc (Li 103 29 Tryz.f103 [1,1,1]) (Zh cfg 29 103 Tryz.f103 H0)
theorem FZ:ZR 29 (Wg H0):=Zu (C:=cfg) (kp:=cfg.keep 103) (sub (Z1 Tryz.f103) [1,1,1]) (Zx 103 Tryz.f103 H0)
def VT:Z3:=ZW 103 29 (sub (Z1 Tryz.f103) [1,1,0,1,0,0,1,1,1]) (Zc (JB 103 29 Tryz.f103 [1,1,0,1,0,0]) (Z6 0 (Wg H0))) [(0,x0),(3,x3),(10,x10),(11,x11),(12,x12)] H
def KW:Z3:=ZW 103 29 (sub (Z1 Tryz.f103) [1,1,0,1,0,0,1,1]) (Zc (JB 103 29 Tryz.f103 [1,1,0,1,0,0]) (Z6 0 (Wg H0))) [(0,x0),(3,x3),(10,x10),(11,x11),(12,x12),(13,x13)] H
def Wh:Z3:=Ls 103 29 (sub (Z1 Tryz.f103) [1,1,0,1,0,0]) (Z6 0 (Wg H0)) [(0,x0),(3,x3),(10,x10),(11,x11),(12,x12)] H
def Gt:Z3:=
 Z0 (ZH p0) fun t7=>
 Z0 (Z8 0 t7) fun t8=>
 Z0 (Z4 false 1 t8 H) fun t9=>
 Z0 (JM Wv [t9] H) fun r10=>
 Z0 (Zk (.slice 142) r10.1) fun t11=>
 Wh p0 (.int .i64 0) r10.1 t11 (.int .i64 0) H r10.2
theorem Td:KV x3 H0 H =
 some (x3,H):=Zb [4,7,8] (by kernel_rfl)
theorem QR:VT x0 x3 x10 x11 x12 H0 H =
 Z0 (Z5 .add x12 (.int .i64 1)) fun t27=>
 Wh x0 x3 x10 x11 t27 H0 H:=Zb [4,7,8] (by kernel_rfl)
theorem Te:KW x0 x3 x10 x11 x12 x13 H0 H =
 Z0 (Zl 3 x10 x12) fun t14=>
 Z0 (Z4 true 3 t14 H) fun t15=>
 Z0 (some ((.ptr H.length 0),H++[.cells [(.str []),(.int .i64 0),(.int .i64 0)]])) fun r5=>
 Z0 (Zi 3 r5.1 t15 r5.2) fun r_11=>
 Z0 (ZH x0) fun t17=>
 Z0 (Z8 2 t17) fun t18=>
 Z0 (Z4 false 1 t18 r_11.2) fun t19=>
 Z0 (Z8 0 r5.1) fun t20=>
 Z0 (Z4 false 1 t20 r_11.2) fun t21=>
 Z0 (Ze Yt [t19,t21] r_11.2) fun r22=>
 Zm r22.1
 (Z0 (Z8 1 r5.1) fun t24=>
 Z0 (Z4 false 1 t24 r22.2) fun t25=>
 Z0 (Z5 .add x3 t25) fun t26=>
 VT x0 t26 x10 x11 x12 H0 r22.2)
 (VT x0 x3 x10 x11 x12 H0 r22.2):=Zb [4,7,8] (by kernel_rfl)
theorem QS:Wh x0 x3 x10 x11 x12 H0 H =
 Z0 (Z5 .lss x12 x11) fun t13=>
 Zm t13
 (KW x0 x3 x10 x11 x12 t13 H0 H)
 (KV x3 H0 H):=(Zy (C:=cfg) [4,7,8] (Zn 0 (FZ H0)) _ _).trans (by kernel_rfl)
theorem TR:Xj [p0] H=Gt p0 H:=(Zd (C:=cfg) (fn:=Tryz.f103) (c:=Z1 Tryz.f103) (n:=29) [4,7,8] Tryz.func103 (by kernel_rfl) (by kernel_rfl) [p0] (by kernel_rfl) H).trans (by kernel_rfl)
def Tq:Z3:=
 Z0 (Yx .add (.str [46,116,109,112,46]) p0) fun t4=>
 Z0 (Yx .add t4 (.str [46])) fun t5=>
 some (t5,H)
theorem Sh:Ux [p0] H=Tq p0 H:=(Zd (C:=cfg) (fn:=Tryz.f114) (c:=Z1 Tryz.f114) (n:=6) [] Tryz.func114 (by kernel_rfl) (by kernel_rfl) [p0] (by kernel_rfl) H).trans (by kernel_rfl)
def Ft:Z3:=ZW 116 20 (sub (Z1 Tryz.f116) [1,1,1,1,1]) (Zh cfg 20 116 Tryz.f116 H0) [(6,x6)] H
def Fr:Z3:=ZW 116 20 (sub (Z1 Tryz.f116) [1,1,1]) (Zh cfg 20 116 Tryz.f116 H0) [(0,x0),(1,x1)] H
def Fq:Z3:=ZW 116 20 (sub (Z1 Tryz.f116) [1,1]) (Zh cfg 20 116 Tryz.f116 H0) [(0,x0),(1,x1)] H
def Rq:Z3:=
 Z0 (Yn (.pointer 120) .eql p0 .nilp) fun t8=>
 Zm t8
 (some ((.tuple [.nilp,(.int .i64 5)]),H))
 (Fq p0 p1 H H)
theorem E1:Ft x6 H0 H =
 some ((.tuple [x6,(.int .i64 0)]),H):=Zb [3,5,8] (by kernel_rfl)
theorem GN:Fr x0 x1 H0 H =
 Z0 (ZH x0) fun t12=>
 Z0 (Z8 3 t12) fun t13=>
 Z0 (Z4 false 1 t13 H) fun t14=>
 Z0 (Y8 .string .nilp false t14 x1 H) fun t16=>
 Z0 (Yn (.pointer 131) .eql t16 .nilp) fun t18=>
 Zm t18
 (some ((.tuple [.nilp,(.int .i64 5)]),H))
 (Ft t16 H0 H):=Zb [3,5,8] (by kernel_rfl)
theorem Uu:Fq x0 x1 H0 H =
 Z0 (VF [x0] H) fun r10=>
 Zm r10.1
 (some ((.tuple [.nilp,(.int .i64 19)]),r10.2))
 (Fr x0 x1 H0 r10.2):=Zb [3,5,8] (by kernel_rfl)
theorem Ek:Ww [p0,p1] H=Rq p0 p1 H:=(Zd (C:=cfg) (fn:=Tryz.f116) (c:=Z1 Tryz.f116) (n:=20) [3,5,8] Tryz.func116 (by kernel_rfl) (by kernel_rfl) [p0,p1] (by kernel_rfl) H).trans (by kernel_rfl)
def AO:Z3:=
 Z0 (Cy OG [p0] H) fun r4=>
 some (r4.1,r4.2)
theorem Zc0:Py [p0] H=AO p0 H:=(Zd (C:=cfg) (fn:=Tryz.f118) (c:=Z1 Tryz.f118) (n:=5) [] Tryz.func118 (by kernel_rfl) (by kernel_rfl) [p0] (by kernel_rfl) H).trans (by kernel_rfl)
def UY:Z3:=ZW 119 46 (sub (Z1 Tryz.f119) [1,1,1]) (Zh cfg 46 119 Tryz.f119 H0) [(0,x0),(1,x1)] H
def BP:Z3:=ZW 119 46 (sub (Z1 Tryz.f119) [1,1]) (Zh cfg 46 119 Tryz.f119 H0) [(0,x0),(1,x1)] H
def D4:Z3:=
 Z0 (Yn (.pointer 120) .eql p0 .nilp) fun t7=>
 Zm t7
 (some ((.int .i64 5),H))
 (Z0 (VF [p0] H) fun r10=>
 Zm r10.1
 (some ((.int .i64 19),r10.2))
 (Z0 (Ze B9 [p1] r10.2) fun r13=>
 Z0 (XF .not r13.1) fun t14=>
 Zm t14
 (some ((.int .i64 4),r13.2))
 (Z0 (ZH p0) fun t17=>
 Z0 (Z8 3 t17) fun t18=>
 Z0 (Z4 false 1 t18 r13.2) fun t19=>
 Z0 (Y8 .string .nilp false t19 p1 r13.2) fun t21=>
 Z0 (Yn (.pointer 131) .neq t21 .nilp) fun t22=>
 Zm t22
 (some ((.int .i64 6),r13.2))
 (Z0 (ZH p0) fun t25=>
 Z0 (Z8 3 t25) fun t26=>
 Z0 (Z4 false 1 t26 r13.2) fun t27=>
 Z0 (Qc t27 r13.2) fun t28=>
 Z0 (Z5 .geq t28 (.int .i64 64)) fun t29=>
 Zm t29
 (some ((.int .i64 3),r13.2))
 (BP p0 p1 H r13.2)))))
theorem NS:UY x0 x1 H0 H =
 Z0 (ZH x0) fun t40=>
 Z0 (Z8 3 t40) fun t41=>
 Z0 (Z4 false 1 t41 H) fun t42=>
 Z0 (some (.agg [.nils,(.int .i64 0)])) fun t44=>
 Z0 (Y4 t44 H) fun r45=>
 Z0 (Xh .string t42 x1 r45.1 r45.2) fun r_6=>
 some ((.int .i64 0),r_6.2):=Zb [11,13] (by kernel_rfl)
theorem NR:BP x0 x1 H0 H =
 Z0 (ZH x0) fun t31=>
 Z0 (Z8 3 t31) fun t32=>
 Z0 (Z4 false 1 t32 H) fun t33=>
 Z0 (Yn (.map 9 129) .eql t33 .nilm) fun t34=>
 Zm t34
 (Z0 (some ((.map H.length),H++[.map [] 0])) fun r36=>
 Z0 (ZH x0) fun t37=>
 Z0 (Z8 3 t37) fun t38=>
 Z0 (Zi 1 t38 r36.1 r36.2) fun r_14=>
 UY x0 x1 H0 r_14.2)
 (UY x0 x1 H0 H):=Zb [11,13] (by kernel_rfl)
theorem M4:Q8 [p0,p1] H=D4 p0 p1 H:=(Zd (C:=cfg) (fn:=Tryz.f119) (c:=Z1 Tryz.f119) (n:=46) [11,13] Tryz.func119 (by kernel_rfl) (by kernel_rfl) [p0,p1] (by kernel_rfl) H).trans (by kernel_rfl)
def GW:Z3:=ZW 120 22 (sub (Z1 Tryz.f120) [1,1]) (Zh cfg 22 120 Tryz.f120 H0) [] H
def BC:Z3:=
 Z0 (Yn (.pointer 117) .eql p0 .nilp) fun t7=>
 Zm t7
 (some ((.int .i64 5),H))
 (Z0 (ZH p0) fun t10=>
 Z0 (Z8 6 t10) fun t11=>
 Z0 (Z4 false 1 t11 H) fun t12=>
 Zm t12
 (some ((.int .i64 8),H))
 (Z0 (ZH p0) fun t15=>
 Z0 (Z8 0 t15) fun t16=>
 Z0 (Z8 2 t16) fun t17=>
 Z0 (Z4 false 1 t17 H) fun t18=>
 Z0 (Ze Yt [t18,p1] H) fun r20=>
 Z0 (XF .not r20.1) fun t21=>
 Zm t21
 (some ((.int .i64 5),r20.2))
 (GW H r20.2)))
theorem Pm:GW H0 H =
 some ((.int .i64 0),H):=Zb [7] (by kernel_rfl)
theorem PJ:XD [p0,p1] H=BC p0 p1 H:=(Zd (C:=cfg) (fn:=Tryz.f120) (c:=Z1 Tryz.f120) (n:=22) [7] Tryz.func120 (by kernel_rfl) (by kernel_rfl) [p0,p1] (by kernel_rfl) H).trans (by kernel_rfl)
def MH:Z3:=ZW 121 27 (sub (Z1 Tryz.f121) [1,1,1]) (Zh cfg 27 121 Tryz.f121 H0) [(4,x4)] H
def Ua:KL:=Zc (Li 121 27 Tryz.f121 [1,1,1]) (Zh cfg 27 121 Tryz.f121 H0)
theorem C0:ZR 27 (Ua H0):=Zu (C:=cfg) (kp:=cfg.keep 121) (sub (Z1 Tryz.f121) [1,1,1]) (Zx 121 Tryz.f121 H0)
def MJ:Z3:=ZW 121 27 (sub (Z1 Tryz.f121) [1,1,0,1,0,0,1,1,1]) (Zc (JB 121 27 Tryz.f121 [1,1,0,1,0,0]) (Z6 0 (Ua H0))) [(4,x4),(9,x9),(10,x10),(11,x11)] H
def Zd3:KL:=Zc (Li 121 27 Tryz.f121 [1,1,0,1,0,0,1,1,1]) (Zc (JB 121 27 Tryz.f121 [1,1,0,1,0,0]) (Z6 0 (Ua H0)))
def MK:Z3:=ZW 121 27 (sub (Z1 Tryz.f121) [1,1,0,1,0,0,1,1,0,0,1,1,1]) (Z6 1 (Zd3 H0)) [(4,x4),(7,x7),(9,x9),(10,x10),(11,x11)] H
def MI:Z3:=ZW 121 27 (sub (Z1 Tryz.f121) [1,1,0,1,0,0,1,1]) (Zc (JB 121 27 Tryz.f121 [1,1,0,1,0,0]) (Z6 0 (Ua H0))) [(4,x4),(9,x9),(10,x10),(11,x11),(12,x12)] H
def Jd:Z3:=Ls 121 27 (sub (Z1 Tryz.f121) [1,1,0,1,0,0]) (Z6 0 (Ua H0)) [(4,x4),(9,x9),(10,x10),(11,x11)] H
def E7:Z3:=
 Z0 (some ((.ptr H.length 0),H++[.bld 192 5 []])) fun r4=>
 Z0 (Zk (.slice 9) p0) fun t10=>
 Jd r4.1 p0 t10 (.int .i64 0) H r4.2
theorem IN:MH x4 H0 H =
 Z0 (stringE.run [x4] H) fun r26=>
 some ((.tuple [r26.1,(.int .i64 0)]),r26.2):=Zb [4,8,9,10] (by kernel_rfl)
theorem IP:MJ x4 x9 x10 x11 H0 H =
 Z0 (Z5 .add x11 (.int .i64 1)) fun t25=>
 Jd x4 x9 x10 t25 H0 H:=Zb [4,8,9,10] (by kernel_rfl)
theorem IQ:MK x4 x7 x9 x10 x11 H0 H =
 Z0 (textE.run [x4,x7] H) fun r24=>
 MJ x4 x9 x10 x11 H0 r24.2:=Zb [4,8,9,10] (by kernel_rfl)
theorem Rv:MI x4 x9 x10 x11 x12 H0 H =
 Z0 (Zl 1 x9 x11) fun t13=>
 Z0 (Z4 false 1 t13 H) fun t14=>
 Z0 (Ze Fw [t14] H) fun r17=>
 Z0 (ZK r17.1 0) fun t18=>
 Z0 (ZK r17.1 1) fun t19=>
 Z0 (Z5 .neq t19 (.int .i64 0)) fun t21=>
 Zm t21
 (some ((.tuple [(.str []),t19]),r17.2))
 (MK x4 t18 x9 x10 x11 H0 r17.2):=Zb [4,8,9,10] (by kernel_rfl)
theorem Rw:Jd x4 x9 x10 x11 H0 H =
 Z0 (Z5 .lss x11 x10) fun t12=>
 Zm t12
 (MI x4 x9 x10 x11 t12 H0 H)
 (MH x4 H0 H):=(Zy (C:=cfg) [4,8,9,10] (Zn 0 (C0 H0)) _ _).trans (by kernel_rfl)
theorem ON:Fu [p0] H=E7 p0 H:=(Zd (C:=cfg) (fn:=Tryz.f121) (c:=Z1 Tryz.f121) (n:=27) [4,8,9,10] Tryz.func121 (by kernel_rfl) (by kernel_rfl) [p0] (by kernel_rfl) H).trans (by kernel_rfl)
def BO:Z3:=ZW 122 60 (sub (Z1 Tryz.f122) [1,1,1,1]) (Zh cfg 60 122 Tryz.f122 H0) [(0,x0),(2,x2),(7,x7)] H
def BN:Z3:=ZW 122 60 (sub (Z1 Tryz.f122) [1,1,1]) (Zh cfg 60 122 Tryz.f122 H0) [(0,x0),(2,x2),(7,x7)] H
def D3:Z3:=
 Z0 (Ww [p0,p1] H) fun r12=>
 Z0 (ZK r12.1 0) fun t13=>
 Z0 (ZK r12.1 1) fun t14=>
 Z0 (Z5 .neq t14 (.int .i64 0)) fun t16=>
 Zm t16
 (some (t14,r12.2))
 (BN p0 p2 t13 H r12.2)
theorem NQ:BO x0 x2 x7 H0 H =
 Z0 (ZH x7) fun t32=>
 Z0 (Z8 0 t32) fun t33=>
 Z0 (Z4 false 1 t33 H) fun t34=>
 Z0 (Y7 1 1 t34 x2 H) fun r36=>
 Z0 (ZH x7) fun t37=>
 Z0 (Z8 0 t37) fun t38=>
 Z0 (Zi 1 t38 r36.1 r36.2) fun r_10=>
 Z0 (ZH x0) fun t40=>
 Z0 (Z8 1 t40) fun t41=>
 Z0 (Z4 false 1 t41 r_10.2) fun t42=>
 Z0 (Zk .string x2) fun t44=>
 Z0 (Z5 .add t42 t44) fun t45=>
 Z0 (ZH x0) fun t46=>
 Z0 (Z8 1 t46) fun t47=>
 Z0 (Zi 1 t47 t45 r_10.2) fun r_18=>
 Z0 (ZH x0) fun t50=>
 Z0 (Z8 2 t50) fun t51=>
 Z0 (Z4 false 1 t51 r_18.2) fun t52=>
 Z0 (ZH x0) fun t54=>
 Z0 (Z8 1 t54) fun t55=>
 Z0 (Z4 false 1 t55 r_18.2) fun t56=>
 Z0 (B5 t52 t56) fun t57=>
 Z0 (ZH x0) fun t58=>
 Z0 (Z8 2 t58) fun t59=>
 Z0 (Zi 1 t59 t57 r_18.2) fun r_28=>
 some ((.int .i64 0),r_28.2):=Zb [4,6] (by kernel_rfl)
theorem JV:BN x0 x2 x7 H0 H =
 Z0 (ZH x0) fun t19=>
 Z0 (Z8 1 t19) fun t20=>
 Z0 (Z4 false 1 t20 H) fun t21=>
 Z0 (Zk .string x2) fun t23=>
 Z0 (Z5 .add t21 t23) fun t24=>
 Z0 (ZH x0) fun t26=>
 Z0 (Z8 0 t26) fun t27=>
 Z0 (Z4 false 1 t27 H) fun t28=>
 Z0 (Z5 .gtr t24 t28) fun t29=>
 Zm t29
 (some ((.int .i64 12),H))
 (BO x0 x2 x7 H0 H):=Zb [4,6] (by kernel_rfl)
theorem M3:Q7 [p0,p1,p2] H=D3 p0 p1 p2 H:=(Zd (C:=cfg) (fn:=Tryz.f122) (c:=Z1 Tryz.f122) (n:=60) [4,6] Tryz.func122 (by kernel_rfl) (by kernel_rfl) [p0,p1,p2] (by kernel_rfl) H).trans (by kernel_rfl)
def J6:Z3:=ZW 123 24 (sub (Z1 Tryz.f123) [1,1,1]) (Zh cfg 24 123 Tryz.f123 H0) [(6,x6)] H
def Rp:Z3:=
 Z0 (Ww [p0,p1] H) fun r10=>
 Z0 (ZK r10.1 0) fun t11=>
 Z0 (ZK r10.1 1) fun t12=>
 Z0 (Z5 .eql t12 (.int .i64 0)) fun t14=>
 Zm t14
 (Z0 (ZH t11) fun t17=>
 Z0 (Z8 0 t17) fun t18=>
 Z0 (Z4 false 1 t18 r10.2) fun t19=>
 Z0 (Zk (.slice 5) t19) fun t20=>
 Z0 (ZH t11) fun t21=>
 Z0 (Z8 1 t21) fun t22=>
 Z0 (Zi 1 t22 t20 r10.2) fun r_11=>
 J6 t12 H r_11.2)
 (J6 t12 H r10.2)
theorem Ut:J6 x6 H0 H =
 some (x6,H):=Zb [4] (by kernel_rfl)
theorem Ej:Jv [p0,p1] H=Rp p0 p1 H:=(Zd (C:=cfg) (fn:=Tryz.f123) (c:=Z1 Tryz.f123) (n:=24) [4] Tryz.func123 (by kernel_rfl) (by kernel_rfl) [p0,p1] (by kernel_rfl) H).trans (by kernel_rfl)
def Fp:Z3:=ZW 124 54 (sub (Z1 Tryz.f124) [1,1,1,1]) (Zh cfg 54 124 Tryz.f124 H0) [(2,x2),(3,x3),(10,x10)] H
def Fo:Z3:=ZW 124 54 (sub (Z1 Tryz.f124) [1,1,1]) (Zh cfg 54 124 Tryz.f124 H0) [(2,x2),(3,x3),(10,x10)] H
def Ro:Z3:=
 Z0 (Ww [p0,p1] H) fun r15=>
 Z0 (ZK r15.1 0) fun t16=>
 Z0 (ZK r15.1 1) fun t17=>
 Z0 (Z5 .neq t17 (.int .i64 0)) fun t19=>
 Zm t19
 (some ((.tuple [(.str []),t17]),r15.2))
 (Fo p2 p3 t16 H r15.2)
theorem E0:Fp x2 x3 x10 H0 H =
 Z0 (ZH x10) fun t37=>
 Z0 (Z8 0 t37) fun t38=>
 Z0 (Z4 false 1 t38 H) fun t39=>
 Z0 (ZH x10) fun t44=>
 Z0 (Z8 0 t44) fun t45=>
 Z0 (Z4 false 1 t45 H) fun t46=>
 Z0 (Zk (.slice 5) t46) fun t47=>
 Z0 (Z5 .sub t47 x2) fun t49=>
 Z0 (U3 x3 t49) fun t50=>
 Z0 (Z5 .add x2 t50) fun t51=>
 Z0 (YF 1 t39 (some x2) (some t51) none) fun t52=>
 Z0 (Qe t52 H) fun t53=>
 some ((.tuple [t53,(.int .i64 0)]),H):=Zb [4,6] (by kernel_rfl)
theorem LZ:Fo x2 x3 x10 H0 H =
 Z0 (Z5 .lss x2 (.int .i64 0)) fun t22=>
 Z0 (Z7 t22 false (.tuple []) (some x2)) fun t24=>
 Z0 (Z7 t22 false (.tuple []) (some x10)) fun t25=>
 Z0 (Z7 t22 false (.tuple []) (ZH t25)) fun t26=>
 Z0 (Z7 t22 false (.tuple []) (Z8 0 t26)) fun t27=>
 Z0 (Z7 t22 false (.tuple []) (Z4 false 1 t27 H)) fun t28=>
 Z0 (Z7 t22 false (.tuple []) (Zk (.slice 5) t28)) fun t29=>
 Z0 (Z7 t22 false (.tuple []) (Z5 .gtr t24 t29)) fun t30=>
 Z0 (Zj t22 (.bool true) t30) fun t31=>
 Z0 (Z7 t31 false (.tuple []) (some x3)) fun t33=>
 Z0 (Z7 t31 false (.tuple []) (Z5 .lss t33 (.int .i64 0))) fun t34=>
 Z0 (Zj t31 (.bool true) t34) fun t35=>
 Zm t35
 (some ((.tuple [(.str []),(.int .i64 2)]),H))
 (Fp x2 x3 x10 H0 H):=Zb [4,6] (by kernel_rfl)
theorem Ei:Ju [p0,p1,p2,p3] H=Ro p0 p1 p2 p3 H:=(Zd (C:=cfg) (fn:=Tryz.f124) (c:=Z1 Tryz.f124) (n:=54) [4,6] Tryz.func124 (by kernel_rfl) (by kernel_rfl) [p0,p1,p2,p3] (by kernel_rfl) H).trans (by kernel_rfl)
def Hl:Z3:=ZW 125 58 (sub (Z1 Tryz.f125) [1,1,1,1,1,1,1,1]) (Zh cfg 58 125 Tryz.f125 H0) [(1,x1),(7,x7),(8,x8)] H
def Hk:Z3:=ZW 125 58 (sub (Z1 Tryz.f125) [1,1,1,1,1,1,1]) (Zh cfg 58 125 Tryz.f125 H0) [(1,x1),(7,x7),(8,x8)] H
def Hi:Z3:=ZW 125 58 (sub (Z1 Tryz.f125) [1,1,1,1,1,1]) (Zh cfg 58 125 Tryz.f125 H0) [(1,x1),(7,x7),(8,x8)] H
def Hh:Z3:=ZW 125 58 (sub (Z1 Tryz.f125) [1,1,1,1]) (Zh cfg 58 125 Tryz.f125 H0) [(1,x1),(7,x7)] H
def Hg:Z3:=ZW 125 58 (sub (Z1 Tryz.f125) [1,1]) (Zh cfg 58 125 Tryz.f125 H0) [(0,x0),(1,x1)] H
def AJ:Z3:=
 Z0 (Z5 .lss p1 (.int .i64 0)) fun t10=>
 Z0 (Z7 t10 false (.tuple []) (some p1)) fun t12=>
 Z0 (Z7 t10 false (.tuple []) (some p0)) fun t13=>
 Z0 (Z7 t10 false (.tuple []) (Zk .string t13)) fun t14=>
 Z0 (Z7 t10 false (.tuple []) (Z5 .gtr t12 t14)) fun t15=>
 Z0 (Zj t10 (.bool true) t15) fun t16=>
 Zm t16
 (some ((.tuple [(.str []),(.int .i64 0),(.int .i64 2)]),H))
 (Hg p0 p1 H H)
theorem Zbr:Hl x1 x7 x8 H0 H =
 Z0 (Z5 .add x8 (.int .i64 2)) fun t52=>
 Z0 (Y9 x7 (some (.int .i64 2)) (some t52) none) fun t53=>
 Z0 (Z5 .add x1 x8) fun t56=>
 Z0 (Z5 .add t56 (.int .i64 6)) fun t57=>
 some ((.tuple [t53,t57,(.int .i64 0)]),H):=Zb [3,6,9,11,13] (by kernel_rfl)
theorem Zbq:Hk x1 x7 x8 H0 H =
 Z0 (Z5 .add x8 (.int .i64 2)) fun t40=>
 Z0 (Z5 .add x8 (.int .i64 6)) fun t42=>
 Z0 (Y9 x7 (some t40) (some t42) none) fun t43=>
 Z0 (Z5 .add x8 (.int .i64 2)) fun t46=>
 Z0 (Y9 x7 none (some t46) none) fun t47=>
 Z0 (Ze R3 [t47] H) fun r48=>
 Z0 (Yx .neq t43 r48.1) fun t49=>
 Zm t49
 (some ((.tuple [(.str []),(.int .i64 0),(.int .i64 13)]),r48.2))
 (Hl x1 x7 x8 H0 r48.2):=Zb [3,6,9,11,13] (by kernel_rfl)
theorem Zbp:Hi x1 x7 x8 H0 H =
 Z0 (Zk .string x7) fun t34=>
 Z0 (Z5 .add x8 (.int .i64 6)) fun t36=>
 Z0 (Z5 .lss t34 t36) fun t37=>
 Zm t37
 (some ((.tuple [(.str []),(.int .i64 0),(.int .i64 14)]),H))
 (Hk x1 x7 x8 H0 H):=Zb [3,6,9,11,13] (by kernel_rfl)
theorem Zbo:Hh x1 x7 H0 H =
 Z0 (Zw x7 (.int .i64 0)) fun t24=>
 Z0 (YR .i64 t24) fun t25=>
 Z0 (Z5 .shl t25 (.int .u64 8)) fun t26=>
 Z0 (Zw x7 (.int .i64 1)) fun t28=>
 Z0 (YR .i64 t28) fun t29=>
 Z0 (Z5 .or t26 t29) fun t30=>
 Z0 (Z5 .gtr t30 (.int .i64 4096)) fun t32=>
 Zm t32
 (some ((.tuple [(.str []),(.int .i64 0),(.int .i64 13)]),H))
 (Hi x1 x7 t30 H0 H):=Zb [3,6,9,11,13] (by kernel_rfl)
theorem Zbn:Hg x0 x1 H0 H =
 Z0 (Y9 x0 (some x1) none none) fun t19=>
 Z0 (Zk .string t19) fun t21=>
 Z0 (Z5 .lss t21 (.int .i64 2)) fun t22=>
 Zm t22
 (some ((.tuple [(.str []),(.int .i64 0),(.int .i64 14)]),H))
 (Hh x1 t19 H0 H):=Zb [3,6,9,11,13] (by kernel_rfl)
theorem ZbY:Pt [p0,p1] H=AJ p0 p1 H:=(Zd (C:=cfg) (fn:=Tryz.f125) (c:=Z1 Tryz.f125) (n:=58) [3,6,9,11,13] Tryz.func125 (by kernel_rfl) (by kernel_rfl) [p0,p1] (by kernel_rfl) H).trans (by kernel_rfl)
def WR:Z3:=
 Z0 (Ze XQ [p0,p1] H) fun r7=>
 Z0 (Z5 .geq r7.1 (.int .i64 0)) fun t8=>
 some (t8,r7.2)
theorem Jp:Yt [p0,p1] H=WR p0 p1 H:=(Zd (C:=cfg) (fn:=Tryz.f146) (c:=Z1 Tryz.f146) (n:=9) [] Tryz.func146 (by kernel_rfl) (by kernel_rfl) [p0,p1] (by kernel_rfl) H).trans (by kernel_rfl)
def W8:Z3:=ZW 167 37 (sub (Z1 Tryz.f167) [1,1]) (Zh cfg 37 167 Tryz.f167 H0) [(0,x0)] H
def DX:Z3:=
 Z0 (ZH p0) fun t5=>
 Z0 (Z8 4 t5) fun t6=>
 Z0 (Z4 false 1 t6 H) fun t7=>
 Zm t7
 (W8 p0 H H)
 (Z0 (ZH p0) fun t10=>
 Z0 (Z8 5 t10) fun t11=>
 Z0 (Z4 false 1 t11 H) fun t12=>
 Z0 (Z5 .eql t12 (.int .i64 1)) fun t13=>
 Zm t13
 (Z0 (ZH p0) fun t16=>
 Z0 (Z8 4 t16) fun t17=>
 Z0 (Zi 1 t17 (.bool true) H) fun r_13=>
 Z0 (ZH p0) fun t18=>
 Z0 (Z8 5 t18) fun t19=>
 Z0 (Zi 1 t19 (.int .i64 0) r_13.2) fun r_16=>
 W8 p0 H r_16.2)
 (Z0 (ZH p0) fun t22=>
 Z0 (Z8 5 t22) fun t23=>
 Z0 (Z4 false 1 t23 H) fun t24=>
 Z0 (Z5 .gtr t24 (.int .i64 1)) fun t25=>
 Zm t25
 (Z0 (ZH p0) fun t27=>
 Z0 (Z8 5 t27) fun t28=>
 Z0 (Z4 false 1 t28 H) fun t29=>
 Z0 (Z5 .sub t29 (.int .i64 1)) fun t30=>
 Z0 (ZH p0) fun t31=>
 Z0 (Z8 5 t31) fun t32=>
 Z0 (Zi 1 t32 t30 H) fun r_27=>
 W8 p0 H r_27.2)
 (W8 p0 H H)))
theorem Wf:W8 x0 H0 H =
 Z0 (ZH x0) fun t34=>
 Z0 (Z8 4 t34) fun t35=>
 Z0 (Z4 false 1 t35 H) fun t36=>
 some (t36,H):=Zb [6] (by kernel_rfl)
theorem Lp:VF [p0] H=DX p0 H:=(Zd (C:=cfg) (fn:=Tryz.f167) (c:=Z1 Tryz.f167) (n:=37) [6] Tryz.func167 (by kernel_rfl) (by kernel_rfl) [p0] (by kernel_rfl) H).trans (by kernel_rfl)
def Gg:Z3:=ZW 169 58 (sub (Z1 Tryz.f169) [1,1]) (Zh cfg 58 169 Tryz.f169 H0) [(0,x0)] H
def UK:KL:=Zc (Li 169 58 Tryz.f169 [1,1]) (Zh cfg 58 169 Tryz.f169 H0)
theorem E2:ZR 58 (UK H0):=Zu (C:=cfg) (kp:=cfg.keep 169) (sub (Z1 Tryz.f169) [1,1]) (Zx 169 Tryz.f169 H0)
def Gi:Z3:=ZW 169 58 (sub (Z1 Tryz.f169) [1,0,1,0,0,1,1,1]) (Zc (JB 169 58 Tryz.f169 [1,0,1,0,0]) (Z6 0 (UK H0))) [(0,x0),(7,x7),(8,x8)] H
def Gh:Z3:=ZW 169 58 (sub (Z1 Tryz.f169) [1,0,1,0,0,1,1]) (Zc (JB 169 58 Tryz.f169 [1,0,1,0,0]) (Z6 0 (UK H0))) [(0,x0),(7,x7),(8,x8),(9,x9)] H
def UL:Z3:=Ls 169 58 (sub (Z1 Tryz.f169) [1,0,1,0,0]) (Z6 0 (UK H0)) [(0,x0),(7,x7),(8,x8)] H
def PG:Z3:=
 Z0 (Zk .string p0) fun t7=>
 UL p0 t7 (.int .i64 0) H H
theorem Cv:Gg x0 H0 H =
 Z0 (Yx .neq x0 (.str [])) fun t52=>
 Z0 (Z7 t52 true (.tuple []) (some x0)) fun t54=>
 Z0 (Z7 t52 true (.tuple []) (Zk .string t54)) fun t55=>
 Z0 (Z7 t52 true (.tuple []) (Z5 .leq t55 (.int .i64 32))) fun t56=>
 Z0 (Zj t52 t56 (.bool false)) fun t57=>
 some (t57,H):=Zb [3,8,9] (by kernel_rfl)
theorem DP:Gi x0 x7 x8 H0 H =
 Z0 (Z5 .add x8 (.int .i64 1)) fun t50=>
 UL x0 x7 t50 H0 H:=Zb [3,8,9] (by kernel_rfl)
theorem Cw:Gh x0 x7 x8 x9 H0 H =
 Z0 (Zw x0 x8) fun t13=>
 Z0 (Z5 .geq t13 (.int .u8 97)) fun t15=>
 Z0 (Z7 t15 true (.tuple []) (some t13)) fun t17=>
 Z0 (Z7 t15 true (.tuple []) (Z5 .leq t17 (.int .u8 122))) fun t18=>
 Z0 (Zj t15 t18 (.bool false)) fun t19=>
 Z0 (Z7 t19 false (.tuple []) (some t13)) fun t21=>
 Z0 (Z7 t19 false (.tuple []) (Z5 .geq t21 (.int .u8 65))) fun t22=>
 Z0 (Z7 t19 false (.tuple []) (some t22)) fun t23=>
 Z0 (Z7 t23 true (.tuple []) (some t13)) fun t24=>
 Z0 (Z7 t23 true (.tuple []) (Z5 .leq t24 (.int .u8 90))) fun t25=>
 Z0 (Z7 t19 false (.tuple []) (Zj t23 t25 (.bool false))) fun t26=>
 Z0 (Zj t19 (.bool true) t26) fun t27=>
 Z0 (Z7 t27 false (.tuple []) (some t13)) fun t29=>
 Z0 (Z7 t27 false (.tuple []) (Z5 .eql t29 (.int .u8 95))) fun t30=>
 Z0 (Zj t27 (.bool true) t30) fun t31=>
 Z0 (Z7 t31 false (.tuple []) (some t13)) fun t33=>
 Z0 (Z7 t31 false (.tuple []) (Z5 .eql t33 (.int .u8 46))) fun t34=>
 Z0 (Zj t31 (.bool true) t34) fun t35=>
 Z0 (XF .not t35) fun t37=>
 Z0 (Z7 t37 true (.tuple []) (some x8)) fun t39=>
 Z0 (Z7 t37 true (.tuple []) (Z5 .eql t39 (.int .i64 0))) fun t40=>
 Z0 (Z7 t37 true (.tuple []) (some t40)) fun t41=>
 Z0 (Z7 t41 false (.tuple []) (some t13)) fun t42=>
 Z0 (Z7 t41 false (.tuple []) (Z5 .lss t42 (.int .u8 48))) fun t43=>
 Z0 (Z7 t37 true (.tuple []) (Zj t41 (.bool true) t43)) fun t44=>
 Z0 (Z7 t37 true (.tuple []) (some t44)) fun t45=>
 Z0 (Z7 t45 false (.tuple []) (some t13)) fun t46=>
 Z0 (Z7 t45 false (.tuple []) (Z5 .gtr t46 (.int .u8 57))) fun t47=>
 Z0 (Z7 t37 true (.tuple []) (Zj t45 (.bool true) t47)) fun t48=>
 Z0 (Zj t37 t48 (.bool false)) fun t49=>
 Zm t49
 (some ((.bool false),H))
 (Gi x0 x7 x8 H0 H):=Zb [3,8,9] (by kernel_rfl)
theorem V4:UL x0 x7 x8 H0 H =
 Z0 (Z5 .lss x8 x7) fun t9=>
 Zm t9
 (Gh x0 x7 x8 t9 H0 H)
 (Gg x0 H0 H):=(Zy (C:=cfg) [3,8,9] (Zn 0 (E2 H0)) _ _).trans (by kernel_rfl)
theorem HC:B9 [p0] H=PG p0 H:=(Zd (C:=cfg) (fn:=Tryz.f169) (c:=Z1 Tryz.f169) (n:=58) [3,8,9] Tryz.func169 (by kernel_rfl) (by kernel_rfl) [p0] (by kernel_rfl) H).trans (by kernel_rfl)
def ML:Z3:=ZW 170 23 (sub (Z1 Tryz.f170) [1,1]) (Zh cfg 23 170 Tryz.f170 H0) [(0,x0)] H
def E8:Z3:=
 Z0 (Zk .string p0) fun t6=>
 Z0 (Z5 .gtr t6 (.int .i64 4096)) fun t7=>
 Zm t7
 (some ((.tuple [(.str []),(.int .i64 3)]),H))
 (ML p0 H H)
theorem IR:ML x0 H0 H =
 Z0 (Zk .string x0) fun t9=>
 Z0 (Z5 .shr t9 (.int .u64 8)) fun t10=>
 Z0 (YR .u8 t10) fun t11=>
 Z0 (Zk .string x0) fun t13=>
 Z0 (YR .u8 t13) fun t14=>
 Z0 ((ZA 1 [(0,t11),(1,t14)] [(.int .u8 0),(.int .u8 0)]).map (.vs 1 .clip)) fun t15=>
 Z0 (Qe t15 H) fun t16=>
 Z0 (Yx .add t16 x0) fun t18=>
 Z0 (Ze R3 [t18] H) fun r21=>
 Z0 (Yx .add t18 r21.1) fun t22=>
 some ((.tuple [t22,(.int .i64 0)]),r21.2):=Zb [3] (by kernel_rfl)
theorem OO:Fw [p0] H=E8 p0 H:=(Zd (C:=cfg) (fn:=Tryz.f170) (c:=Z1 Tryz.f170) (n:=23) [3] Tryz.func170 (by kernel_rfl) (by kernel_rfl) [p0] (by kernel_rfl) H).trans (by kernel_rfl)
def Zas:Z3:=
 Z0 (Ze Lj [p0] H) fun r5=>
 Z0 (YR .u8 r5.1) fun t7=>
 Z0 (Z5 .shr r5.1 (.int .u64 8)) fun t9=>
 Z0 (YR .u8 t9) fun t10=>
 Z0 (Z5 .shr r5.1 (.int .u64 16)) fun t12=>
 Z0 (YR .u8 t12) fun t13=>
 Z0 (Z5 .shr r5.1 (.int .u64 24)) fun t15=>
 Z0 (YR .u8 t15) fun t16=>
 Z0 ((ZA 1 [(0,t7),(1,t10),(2,t13),(3,t16)] [(.int .u8 0),(.int .u8 0),(.int .u8 0),(.int .u8 0)]).map (.vs 1 .clip)) fun t17=>
 Z0 (Qe t17 r5.2) fun t18=>
 some (t18,r5.2)
theorem ZdW:R3 [p0] H=Zas p0 H:=(Zd (C:=cfg) (fn:=Tryz.f173) (c:=Z1 Tryz.f173) (n:=19) [] Tryz.func173 (by kernel_rfl) (by kernel_rfl) [p0] (by kernel_rfl) H).trans (by kernel_rfl)
def Vx:Z3:=ZW 185 19 (sub (Z1 Tryz.f185) [1,1]) (Zh cfg 19 185 Tryz.f185 H0) [] H
def YJ:KL:=Zc (Li 185 19 Tryz.f185 [1,1]) (Zh cfg 19 185 Tryz.f185 H0)
theorem Jq:ZR 19 (YJ H0):=Zu (C:=cfg) (kp:=cfg.keep 185) (sub (Z1 Tryz.f185) [1,1]) (Zx 185 Tryz.f185 H0)
def Vz:Z3:=ZW 185 19 (sub (Z1 Tryz.f185) [1,0,1,0,0,1,1,1]) (Zc (JB 185 19 Tryz.f185 [1,0,1,0,0]) (Z6 0 (YJ H0))) [(0,x0),(1,x1),(7,x7),(8,x8)] H
def Vy:Z3:=ZW 185 19 (sub (Z1 Tryz.f185) [1,0,1,0,0,1,1]) (Zc (JB 185 19 Tryz.f185 [1,0,1,0,0]) (Z6 0 (YJ H0))) [(0,x0),(1,x1),(7,x7),(8,x8),(9,x9)] H
def YK:Z3:=Ls 185 19 (sub (Z1 Tryz.f185) [1,0,1,0,0]) (Z6 0 (YJ H0)) [(0,x0),(1,x1),(7,x7),(8,x8)] H
def VQ:Z3:=
 Z0 (Zk (.slice 9) p0) fun t7=>
 YK p0 p1 t7 (.int .i64 0) H H
theorem Kw:Vx H0 H =
 some ((.int .i64 (-1)),H):=Zb [3,6,7] (by kernel_rfl)
theorem Ky:Vz x0 x1 x7 x8 H0 H =
 Z0 (Z5 .add x8 (.int .i64 1)) fun t18=>
 YK x0 x1 x7 t18 H0 H:=Zb [3,6,7] (by kernel_rfl)
theorem Kx:Vy x0 x1 x7 x8 x9 H0 H =
 Z0 (Zl 1 x0 x8) fun t14=>
 Z0 (Z4 false 1 t14 H) fun t15=>
 Z0 (Yx .eql x1 t15) fun t16=>
 Zm t16
 (some (x8,H))
 (Vz x0 x1 x7 x8 H0 H):=Zb [3,6,7] (by kernel_rfl)
theorem WN:YK x0 x1 x7 x8 H0 H =
 Z0 (Z5 .lss x8 x7) fun t9=>
 Zm t9
 (Vy x0 x1 x7 x8 t9 H0 H)
 (Vx H0 H):=(Zy (C:=cfg) [3,6,7] (Zn 0 (Jq H0)) _ _).trans (by kernel_rfl)
theorem G3:XQ [p0,p1] H=VQ p0 p1 H:=(Zd (C:=cfg) (fn:=Tryz.f185) (c:=Z1 Tryz.f185) (n:=19) [3,6,7] Tryz.func185 (by kernel_rfl) (by kernel_rfl) [p0,p1] (by kernel_rfl) H).trans (by kernel_rfl)
def IK:Z3:=ZW 208 33 (sub (Z1 Tryz.f208) [1,1,1]) (Zh cfg 33 208 Tryz.f208 H0) [(3,x3)] H
def Dw:KL:=Zc (Li 208 33 Tryz.f208 [1,1,1]) (Zh cfg 33 208 Tryz.f208 H0)
theorem Za5:ZR 33 (Dw H0):=Zu (C:=cfg) (kp:=cfg.keep 208) (sub (Z1 Tryz.f208) [1,1,1]) (Zx 208 Tryz.f208 H0)
def IM:Z3:=ZW 208 33 (sub (Z1 Tryz.f208) [1,1,0,1,0,0,1,1,1]) (Zc (JB 208 33 Tryz.f208 [1,1,0,1,0,0]) (Z6 0 (Dw H0))) [(0,x0),(3,x3),(6,x6),(7,x7)] H
def IL:Z3:=ZW 208 33 (sub (Z1 Tryz.f208) [1,1,0,1,0,0,1,1]) (Zc (JB 208 33 Tryz.f208 [1,1,0,1,0,0]) (Z6 0 (Dw H0))) [(0,x0),(3,x3),(6,x6),(7,x7),(8,x8)] H
def Dx:Z3:=Ls 208 33 (sub (Z1 Tryz.f208) [1,1,0,1,0,0]) (Z6 0 (Dw H0)) [(0,x0),(3,x3),(6,x6),(7,x7)] H
def Zar:Z3:=
 Z0 (Zk .string p0) fun t6=>
 Dx p0 (.int .u32 4294967295) t6 (.int .i64 0) H H
theorem Zd0:IK x3 H0 H =
 Z0 (XF .xor x3) fun t32=>
 some (t32,H):=Zb [4,8,9] (by kernel_rfl)
theorem Zd2:IM x0 x3 x6 x7 H0 H =
 Z0 (Z5 .add x7 (.int .i64 1)) fun t30=>
 Dx x0 x3 x6 t30 H0 H:=Zb [4,8,9] (by kernel_rfl)
theorem Zd1:IL x0 x3 x6 x7 x8 H0 H =
 Z0 (Zw x0 x7) fun t13=>
 Z0 (YR .u32 t13) fun t14=>
 Z0 (Z5 .xor x3 t14) fun t15=>
 Z0 (Z5 .and t15 (.int .u32 15)) fun t17=>
 Z0 (FE 16 1 Zkg t17) fun t18=>
 Z0 (Z4 false 1 t18 H) fun t19=>
 Z0 (Z5 .shr t15 (.int .u64 4)) fun t21=>
 Z0 (Z5 .xor t19 t21) fun t22=>
 Z0 (Z5 .and t22 (.int .u32 15)) fun t24=>
 Z0 (FE 16 1 Zkg t24) fun t25=>
 Z0 (Z4 false 1 t25 H) fun t26=>
 Z0 (Z5 .shr t22 (.int .u64 4)) fun t28=>
 Z0 (Z5 .xor t26 t28) fun t29=>
 IM x0 t29 x6 x7 H0 H:=Zb [4,8,9] (by kernel_rfl)
theorem MG:Dx x0 x3 x6 x7 H0 H =
 Z0 (Z5 .lss x7 x6) fun t8=>
 Zm t8
 (IL x0 x3 x6 x7 t8 H0 H)
 (IK x3 H0 H):=(Zy (C:=cfg) [4,8,9] (Zn 0 (Za5 H0)) _ _).trans (by kernel_rfl)
theorem ZdV:Lj [p0] H=Zar p0 H:=(Zd (C:=cfg) (fn:=Tryz.f208) (c:=Z1 Tryz.f208) (n:=33) [4,8,9] Tryz.func208 (by kernel_rfl) (by kernel_rfl) [p0] (by kernel_rfl) H).trans (by kernel_rfl)
end
end Go.Am
