/-
  The functions of the translation over the abstract machine, a further part: written by program (wip/gen.py).
-/
import Derived.Test.YtehanadfidoodaaGreatDoorNkGx
namespace Go.Am
open Go.Proofs
set_option maxRecDepth 100000
noncomputable abbrev Yl (f n:Nat):=Y1 cfg (Za cfg) (ZQ cfg (cfg.keep f) n) (cfg.keep f) n Zb Z7
noncomputable abbrev Er (f n:Nat):=ZQ cfg (cfg.keep f) n
noncomputable section
abbrev Fy (f n:Nat)(F:Func)(p:List Nat):KL→AL→Hp→Z4:=fun k al H=>Yl f n (sub (Z1 F) p) k (ZP (cfg.keep f) (sub (Z1 F) p) al) H
abbrev VC (f n:Nat)(F:Func)(p:List Nat):KL→AL→Hp→Z4:=fun k al H=>Er f n (sub (Z1 F) p) k (ZP (cfg.keep f) (sub (Z1 F) p) al) H
variable (p0 p1 p2 p3 x0 x1 x2 x3 x4 x5 x6 x7 x8 x9 x10 x11 x12 x13 x14 x15 x20 x21 x22 x23:AV)(H0 H:Hp)
def TO:Z4:=Yl 10 52 (sub (Z1 Tryz.f10) [1,1]) (Zf cfg 52 10 Tryz.f10 H0) [(2,x2),(3,x3),(4,x4)] H
def N4:Z4:=
 Z0 (ZU p0 H) fun r3=>
 Z0 (ZU p1 r3.2) fun r4=>
 Z0 (Zc IU [p2] r4.2) fun r13=>
 Z0 (X9 .not r13.1) fun t14=>
 Zk t14
 (Z0 (Zc KP [] r13.2) fun r15=>
 some (r15.1,r15.2))
 (TO p2 r3.1 r4.1 H r13.2)
theorem Cv:TO x2 x3 x4 H0 H =
 Z0 (Z3 true 6 x3 H) fun t17=>
 Z0 (Z3 true 5 x4 H) fun t18=>
 Z0 (R5 [t17,t18,x2,(.bool false)] H) fun r20=>
 Z0 (ZM r20.1 0) fun t21=>
 Z0 (ZM r20.1 1) fun t22=>
 Z0 (ZM r20.1 2) fun t23=>
 Xl x3 r20.2 fun z3 z3H=>
 Xl x4 z3H fun z4 z4H=>
 Z0 (Yi true 6 z3) fun t25=>
 Z0 (Yi true 5 z4) fun t26=>
 Z0 (Qq [t21,t22] z4H) fun r29=>
 Z0 (KT [t25,t26,r29.1] r29.2) fun r30=>
 Z0 (Zc PS [x2] r30.2) fun r32=>
 Z0 (Zj (.slice 9) r32.1) fun t33=>
 Z0 (Rw [r30.1,t33] r32.2) fun r34=>
 Z0 (ZM r34.1 0) fun t35=>
 Z0 (ZM r34.1 1) fun t36=>
 Z0 (Z6 t23 true (.tuple []) (some t36)) fun t39=>
 Z0 (Zg t23 t39 (.bool false)) fun t40=>
 Z0 (Z6 t40 true (.tuple []) (some t35)) fun t42=>
 Z0 (Z6 t40 true (.tuple []) (Z3 true 6 z3 r34.2)) fun t43=>
 Z0 (Z6 t40 true (.tuple []) (Z3 true 5 z4 r34.2)) fun t44=>
 Z0 (Z6 t40 true (.tuple []) (some x2)) fun t45=>
 Z0 (Z6 t40 true ((.tuple []),r34.2) (Zc Rc [t43,t44,t45] r34.2)) fun r46=>
 Z0 (Z6 t40 true ((.tuple []),r46.2) (Zc BI [t42,r46.1] r46.2)) fun r47=>
 Z0 (Zg t40 r47.1 (.bool false)) fun t48=>
 Z0 (Z6 t48 true ((.tuple []),r47.2) (Zc KP [] r47.2)) fun r50=>
 Z0 (Zg t48 r50.1 (.bool false)) fun t51=>
 some (t51,r50.2):=Z9 [3] (by kernel_rfl)
theorem I0:PR [p0,p1,p2] H=N4 p0 p1 p2 H:=(Zd (C:=cfg) (fn:=Tryz.f10) (c:=Z1 Tryz.f10) (n:=52) [3] Tryz.func10 (by kernel_rfl) (by kernel_rfl) [p0,p1,p2] (by kernel_rfl) H).trans (by kernel_rfl)
def AX:Z4:=Yl 30 39 (sub (Z1 Tryz.f30) [1,1,1,1,1,1]) (Zf cfg 39 30 Tryz.f30 H0) [(10,x10)] H
def AW:Z4:=Yl 30 39 (sub (Z1 Tryz.f30) [1,1,1,1,1]) (Zf cfg 39 30 Tryz.f30 H0) [(0,x0),(10,x10)] H
def AU:Z4:=Yl 30 39 (sub (Z1 Tryz.f30) [1,1,1,1]) (Zf cfg 39 30 Tryz.f30 H0) [(0,x0),(3,x3),(5,x5),(6,x6),(10,x10)] H
def AS:Z4:=Yl 30 39 (sub (Z1 Tryz.f30) [1,1]) (Zf cfg 39 30 Tryz.f30 H0) [(0,x0),(3,x3),(5,x5),(6,x6)] H
def O7:Z4:=
 Z0 (ZU p1 H) fun r5=>
 Z0 (ZU p2 r5.2) fun r6=>
 Z0 (X1 (.pointer 117) .eql p0 .nilp) fun t13=>
 Zk t13
 (some ((.tuple [(.str []),(.int .i64 5)]),r6.2))
 (AS p0 p3 r5.1 r6.1 H r6.2)
theorem Zeg:AX x10 H0 H =
 some ((.tuple [x10,(.int .i64 0)]),H):=Z9 [3,6,9,12] (by kernel_rfl)
theorem Zef:AW x0 x10 H0 H =
 Z0 (WE [x0,x10] H) fun r34=>
 Z0 (Z5 .neq r34.1 (.int .i64 0)) fun t36=>
 Zk t36
 (some ((.tuple [(.str []),r34.1]),r34.2))
 (AX x10 H0 r34.2):=Z9 [3,6,9,12] (by kernel_rfl)
theorem Zee:AU x0 x3 x5 x6 x10 H0 H =
 Z0 (Z3 true 6 x5 H) fun t24=>
 Z0 (Z3 true 5 x6 H) fun t25=>
 Z0 (Zc JD [t24,t25,x3] H) fun r27=>
 Z0 (Wm [x0,x10,r27.1] r27.2) fun r28=>
 Z0 (Z5 .neq r28.1 (.int .i64 0)) fun t30=>
 Zk t30
 (some ((.tuple [(.str []),r28.1]),r28.2))
 (AW x0 x10 H0 r28.2):=Z9 [3,6,9,12] (by kernel_rfl)
theorem Zed:AS x0 x3 x5 x6 H0 H =
 Z0 (WQ [x0] H) fun r16=>
 Z0 (ZM r16.1 0) fun t17=>
 Z0 (ZM r16.1 1) fun t18=>
 Z0 (Z5 .neq t18 (.int .i64 0)) fun t20=>
 Zk t20
 (some ((.tuple [(.str []),t18]),r16.2))
 (AU x0 x3 x5 x6 t17 H0 r16.2):=Z9 [3,6,9,12] (by kernel_rfl)
theorem ZeC:N3 [p0,p1,p2,p3] H=O7 p0 p1 p2 p3 H:=(Zd (C:=cfg) (fn:=Tryz.f30) (c:=Z1 Tryz.f30) (n:=39) [3,6,9,12] Tryz.func30 (by kernel_rfl) (by kernel_rfl) [p0,p1,p2,p3] (by kernel_rfl) H).trans (by kernel_rfl)
def ZaZ:Z4:=Yl 32 11 (sub (Z1 Tryz.f32) [1,1]) (Zf cfg 11 32 Tryz.f32 H0) [(0,x0),(1,x1)] H
def Zcw:Z4:=
 Z0 (X1 (.pointer 117) .eql p0 .nilp) fun t6=>
 Zk t6
 (some (.nilp,H))
 (ZaZ p0 p1 H H)
theorem ZgT:ZaZ x0 x1 H0 H =
 Z0 ((Yn [(0,1,x0),(1,1,x1)] [.nilp,(.str []),(.int .i64 0),(.bool false),(.bool false),(.str [])]).map .agg) fun t9=>
 Z0 (ZU t9 H) fun r10=>
 some (r10.1,r10.2):=Z9 [3] (by kernel_rfl)
theorem Zht:Eh [p0,p1] H=Zcw p0 p1 H:=(Zd (C:=cfg) (fn:=Tryz.f32) (c:=Z1 Tryz.f32) (n:=11) [3] Tryz.func32 (by kernel_rfl) (by kernel_rfl) [p0,p1] (by kernel_rfl) H).trans (by kernel_rfl)
def QM:Z4:=Yl 33 24 (sub (Z1 Tryz.f33) [1,1,1]) (Zf cfg 24 33 Tryz.f33 H0) [(5,x5),(6,x6),(7,x7)] H
def RA:Z4:=
 Z0 (Wq [p0] H) fun r10=>
 Z0 (ZM r10.1 0) fun t11=>
 Z0 (ZM r10.1 1) fun t12=>
 Z0 (ZM r10.1 2) fun t13=>
 Zk t12
 (Z0 (ZI p0) fun t17=>
 Z0 (Z8 3 t17) fun t18=>
 Z0 (Zi 1 t18 (.bool false) r10.2) fun r_7=>
 Z0 (ZI p0) fun t19=>
 Z0 (Z8 5 t19) fun t20=>
 Z0 (Zi 1 t20 (.str []) r_7.2) fun r_10=>
 QM t11 t12 t13 H r_10.2)
 (QM t11 t12 t13 H r10.2)
theorem Gf:QM x5 x6 x7 H0 H =
 some ((.tuple [x5,x6,x7]),H):=Z9 [4] (by kernel_rfl)
theorem Sm:Jb [p0] H=RA p0 H:=(Zd (C:=cfg) (fn:=Tryz.f33) (c:=Z1 Tryz.f33) (n:=24) [4] Tryz.func33 (by kernel_rfl) (by kernel_rfl) [p0] (by kernel_rfl) H).trans (by kernel_rfl)
def Fi:Z4:=Yl 36 68 (sub (Z1 Tryz.f36) [1,1,1,1]) (Zf cfg 68 36 Tryz.f36 H0) [(0,x0)] H
def Vx:Z4:=Yl 36 68 (sub (Z1 Tryz.f36) [1,1,1]) (Zf cfg 68 36 Tryz.f36 H0) [(0,x0)] H
def Fh:Z4:=Yl 36 68 (sub (Z1 Tryz.f36) [1,1]) (Zf cfg 68 36 Tryz.f36 H0) [(0,x0)] H
def Jf:Z4:=
 Z0 (X1 (.pointer 125) .eql p0 .nilp) fun t9=>
 Zk t9
 (some ((.tuple [(.str []),(.bool false),(.int .i64 5)]),H))
 (Fh p0 H H)
theorem Gg:Fi x0 H0 H =
 Z0 (ZI x0) fun t65=>
 Z0 (Z8 5 t65) fun t66=>
 Z0 (Z3 false 1 t66 H) fun t67=>
 some ((.tuple [t67,(.bool true),(.int .i64 0)]),H):=Z9 [3,11,13] (by kernel_rfl)
theorem YO:Vx x0 H0 H =
 Z0 (ZI x0) fun t60=>
 Z0 (Z8 3 t60) fun t61=>
 Z0 (Z3 false 1 t61 H) fun t62=>
 Z0 (X9 .not t62) fun t63=>
 Zk t63
 (some ((.tuple [(.str []),(.bool false),(.int .i64 0)]),H))
 (Fi x0 H0 H):=Z9 [3,11,13] (by kernel_rfl)
theorem YN:Fh x0 H0 H =
 Z0 (ZI x0) fun t11=>
 Z0 (Z8 3 t11) fun t12=>
 Z0 (Z3 false 1 t12 H) fun t13=>
 Z0 (X9 .not t13) fun t14=>
 Z0 (Z6 t14 true (.tuple []) (some x0)) fun t16=>
 Z0 (Z6 t14 true (.tuple []) (ZI t16)) fun t17=>
 Z0 (Z6 t14 true (.tuple []) (Z8 4 t17)) fun t18=>
 Z0 (Z6 t14 true (.tuple []) (Z3 false 1 t18 H)) fun t19=>
 Z0 (Z6 t14 true (.tuple []) (X9 .not t19)) fun t20=>
 Z0 (Zg t14 t20 (.bool false)) fun t21=>
 Zk t21
 (Z0 (ZI x0) fun t24=>
 Z0 (Z8 0 t24) fun t25=>
 Z0 (Z3 false 1 t25 H) fun t26=>
 Z0 (ZI x0) fun t28=>
 Z0 (Z8 1 t28) fun t29=>
 Z0 (Z3 false 1 t29 H) fun t30=>
 Z0 (ZI x0) fun t32=>
 Z0 (Z8 2 t32) fun t33=>
 Z0 (Z3 false 1 t33 H) fun t34=>
 Z0 (WD [t26,t30,t34] H) fun r35=>
 Z0 (ZM r35.1 0) fun t36=>
 Z0 (ZM r35.1 1) fun t37=>
 Z0 (ZM r35.1 2) fun t38=>
 Z0 (Z5 .eql t38 (.int .i64 0)) fun t42=>
 Zk t42
 (Z0 (ZI x0) fun t48=>
 Z0 (Z8 5 t48) fun t49=>
 Z0 (Zi 1 t49 t36 r35.2) fun r_34=>
 Z0 (ZI x0) fun t50=>
 Z0 (Z8 2 t50) fun t51=>
 Z0 (Zi 1 t51 t37 r_34.2) fun r_37=>
 Z0 (ZI x0) fun t52=>
 Z0 (Z8 3 t52) fun t53=>
 Z0 (Zi 1 t53 (.bool true) r_37.2) fun r_40=>
 Vx x0 H0 r_40.2)
 (Z0 (Z5 .eql t38 (.int .i64 5)) fun t55=>
 Zk t55
 (Z0 (ZI x0) fun t57=>
 Z0 (Z8 4 t57) fun t58=>
 Z0 (Zi 1 t58 (.bool true) r35.2) fun r_44=>
 Vx x0 H0 r_44.2)
 (some ((.tuple [(.str []),(.bool false),t38]),r35.2))))
 (Vx x0 H0 H):=Z9 [3,11,13] (by kernel_rfl)
theorem Bj:Wq [p0] H=Jf p0 H:=(Zd (C:=cfg) (fn:=Tryz.f36) (c:=Z1 Tryz.f36) (n:=68) [3,11,13] Tryz.func36 (by kernel_rfl) (by kernel_rfl) [p0] (by kernel_rfl) H).trans (by kernel_rfl)
def ZeJ:Z4:=Yl 41 38 (sub (Z1 Tryz.f41) [1,1]) (Zf cfg 38 41 Tryz.f41 H0) [(0,x0)] H
def BT:KL:=Zb (Fy 41 38 Tryz.f41 [1,1]) (Zf cfg 38 41 Tryz.f41 H0)
theorem Ll:ZL 38 (BT H0):=Zu (C:=cfg) (kp:=cfg.keep 41) (sub (Z1 Tryz.f41) [1,1]) (Zv 41 Tryz.f41 H0)
def Cw:Z4:=Yl 41 38 (sub (Z1 Tryz.f41) [1,0,1,0,0,1,1]) (Zb (VC 41 38 Tryz.f41 [1,0,1,0,0]) (Z7 0 (BT H0))) [(0,x0),(3,x3)] H
def Cx:KL:=Zb (Fy 41 38 Tryz.f41 [1,0,1,0,0,1,1]) (Zb (VC 41 38 Tryz.f41 [1,0,1,0,0]) (Z7 0 (BT H0)))
theorem ZeO:ZL 38 (Cx H0):=Zu (C:=cfg) (kp:=cfg.keep 41) (sub (Z1 Tryz.f41) [1,0,1,0,0,1,1]) (T5 (C:=cfg) (kp:=cfg.keep 41) (sub (Z1 Tryz.f41) [1,0,1,0,0]) (Zm 0 (Ll H0)))
def ZeL:Z4:=Yl 41 38 (sub (Z1 Tryz.f41) [1,0,1,0,0,1,0,0,1]) (Z7 1 (Cx H0)) [(0,x0),(3,x3)] H
def Pi:KL:=Zb (Fy 41 38 Tryz.f41 [1,0,1,0,0,1,0,0,1]) (Z7 1 (Cx H0))
theorem ZeP:ZL 38 (Pi H0):=Zu (C:=cfg) (kp:=cfg.keep 41) (sub (Z1 Tryz.f41) [1,0,1,0,0,1,0,0,1]) (Zm 1 (ZeO H0))
def ZeN:Z4:=Yl 41 38 (sub (Z1 Tryz.f41) [1,0,1,0,0,1,0,0,0,1,0,0,1,1]) (Zb (VC 41 38 Tryz.f41 [1,0,1,0,0,1,0,0,0,1,0,0]) (Z7 2 (Pi H0))) [(0,x0),(3,x3),(4,x4)] H
def ZeM:Z4:=Yl 41 38 (sub (Z1 Tryz.f41) [1,0,1,0,0,1,0,0,0,1,0,0,1]) (Zb (VC 41 38 Tryz.f41 [1,0,1,0,0,1,0,0,0,1,0,0]) (Z7 2 (Pi H0))) [(0,x0),(3,x3),(4,x4)] H
def BU:Z4:=Er 41 38 (sub (Z1 Tryz.f41) [1,0,1,0,0,1,0,0,0,1,0,0]) (Z7 2 (Pi H0)) [(0,x0),(3,x3),(4,x4)] H
def ZeK:Z4:=Yl 41 38 (sub (Z1 Tryz.f41) [1,0,1,0,0,1]) (Zb (VC 41 38 Tryz.f41 [1,0,1,0,0]) (Z7 0 (BT H0))) [(0,x0),(3,x3)] H
def Pj:Z4:=Er 41 38 (sub (Z1 Tryz.f41) [1,0,1,0,0]) (Z7 0 (BT H0)) [(0,x0),(3,x3)] H
def Zia:Z4:=
 Pj p0 (.int .i64 0) H H
theorem Zj5:ZeJ x0 H0 H =
 Z0 (Zj (.slice 32) x0) fun t36=>
 Z0 (Z5 .leq t36 (.int .i64 8)) fun t37=>
 some (t37,H):=Z9 [3,4,6,7,9,11] (by kernel_rfl)
theorem Zj7:Cw x0 x3 H0 H =
 Z0 (Z5 .add x3 (.int .i64 1)) fun t10=>
 Pj x0 t10 H0 H:=Z9 [3,4,6,7,9,11] (by kernel_rfl)
theorem Zj8:ZeL x0 x3 H0 H =
 Z0 (Zl 1 x0 x3) fun t31=>
 Z0 (Z3 false 1 t31 H) fun t32=>
 Z0 (Zj (.slice 9) t32) fun t33=>
 Z0 (Z5 .gtr t33 (.int .i64 30)) fun t34=>
 Zk t34
 (some ((.bool false),H))
 (Cw x0 x3 H0 H):=Z9 [3,4,6,7,9,11] (by kernel_rfl)
theorem Zja:ZeN x0 x3 x4 H0 H =
 Z0 (Z5 .add x4 (.int .i64 1)) fun t19=>
 BU x0 x3 t19 H0 H:=Z9 [3,4,6,7,9,11] (by kernel_rfl)
theorem Zj9:ZeM x0 x3 x4 H0 H =
 Z0 (Zl 1 x0 x3) fun t22=>
 Z0 (Z3 false 1 t22 H) fun t23=>
 Z0 (Zl 1 t23 x4) fun t25=>
 Z0 (Z3 false 1 t25 H) fun t26=>
 Z0 (Zj .string t26) fun t27=>
 Z0 (Z5 .gtr t27 (.int .i64 200)) fun t28=>
 Zk t28
 (some ((.bool false),H))
 (ZeN x0 x3 x4 H0 H):=Z9 [3,4,6,7,9,11] (by kernel_rfl)
theorem Ae:BU x0 x3 x4 H0 H =
 Z0 (Zl 1 x0 x3) fun t14=>
 Z0 (Z3 false 1 t14 H) fun t15=>
 Z0 (Zj (.slice 9) t15) fun t16=>
 Z0 (Z5 .lss x4 t16) fun t17=>
 Zk t17
 (ZeM x0 x3 x4 H0 H)
 (ZeL x0 x3 H0 H):=(Zx (C:=cfg) [3,4,6,7,9,11] (Zm 2 (ZeP H0)) _ _).trans (by kernel_rfl)
theorem Zj6:ZeK x0 x3 H0 H =
 BU x0 x3 (.int .i64 0) H0 H:=Z9 [3,4,6,7,9,11] (by kernel_rfl)
theorem Ad:Pj x0 x3 H0 H =
 Z0 (Zj (.slice 32) x0) fun t7=>
 Z0 (Z5 .lss x3 t7) fun t8=>
 Zk t8
 (ZeK x0 x3 H0 H)
 (ZeJ x0 H0 H):=(Zx (C:=cfg) [3,4,6,7,9,11] (Zm 0 (Ll H0)) _ _).trans (by kernel_rfl)
theorem ZjR:IU [p0] H=Zia p0 H:=(Zd (C:=cfg) (fn:=Tryz.f41) (c:=Z1 Tryz.f41) (n:=38) [3,4,6,7,9,11] Tryz.func41 (by kernel_rfl) (by kernel_rfl) [p0] (by kernel_rfl) H).trans (by kernel_rfl)
def Of:Z4:=Yl 42 70 (sub (Z1 Tryz.f42) [1,1,1,1]) (Zf cfg 70 42 Tryz.f42 H0) [(11,x11),(12,x12),(13,x13)] H
def Ji:KL:=Zb (Fy 42 70 Tryz.f42 [1,1,1,1]) (Zf cfg 70 42 Tryz.f42 H0)
theorem ZbF:ZL 70 (Ji H0):=Zu (C:=cfg) (kp:=cfg.keep 42) (sub (Z1 Tryz.f42) [1,1,1,1]) (Zv 42 Tryz.f42 H0)
def Og:Z4:=Yl 42 70 (sub (Z1 Tryz.f42) [1,1,1,0,1,0,0,1,1]) (Zb (VC 42 70 Tryz.f42 [1,1,1,0,1,0,0]) (Z7 0 (Ji H0))) [(2,x2),(3,x3),(4,x4),(5,x5),(11,x11),(12,x12),(13,x13),(14,x14)] H
def Oh:KL:=Zb (Fy 42 70 Tryz.f42 [1,1,1,0,1,0,0,1,1]) (Zb (VC 42 70 Tryz.f42 [1,1,1,0,1,0,0]) (Z7 0 (Ji H0)))
def Jh:Z4:=Yl 42 70 (sub (Z1 Tryz.f42) [1,1,1,0,1,0,0,1,0,0,1,1]) (Z7 1 (Oh H0)) [(2,x2),(3,x3),(4,x4),(5,x5),(11,x11),(12,x12),(13,x13),(14,x14),(15,x15)] H
def ZjW:KL:=Zb (Fy 42 70 Tryz.f42 [1,1,1,0,1,0,0,1,0,0,1,1]) (Z7 1 (Oh H0))
def Ng:Z4:=Yl 42 70 (sub (Z1 Tryz.f42) [1,1,1,0,1,0,0,1,0,0,1,0,1,1,1,1]) (ZjW H0) [(2,x2),(3,x3),(4,x4),(5,x5),(11,x11),(12,x12),(13,x13),(14,x14),(15,x15)] H
def Nf:Z4:=Yl 42 70 (sub (Z1 Tryz.f42) [1,1,1,0,1,0,0,1]) (Zb (VC 42 70 Tryz.f42 [1,1,1,0,1,0,0]) (Z7 0 (Ji H0))) [(2,x2),(3,x3),(4,x4),(5,x5),(11,x11),(13,x13),(14,x14)] H
def BV:Z4:=Er 42 70 (sub (Z1 Tryz.f42) [1,1,1,0,1,0,0]) (Z7 0 (Ji H0)) [(2,x2),(3,x3),(4,x4),(5,x5),(11,x11),(12,x12),(13,x13),(14,x14)] H
def Zcg:Z4:=
 Z0 (ZU p0 H) fun r4=>
 Z0 (ZU p1 r4.2) fun r5=>
 Z0 (Ei [(.int .i64 262144)] r5.2) fun r17=>
 Z0 (QQ [r17.1,(.str [109,101,114,103,101]),(.int .i64 262144)] r17.2) fun r18=>
 Z0 (ZM r18.1 0) fun t19=>
 Z0 (ZM r18.1 1) fun t20=>
 BV p2 p3 r4.1 r5.1 t19 t20 .nils (.int .i64 0) H r18.2
theorem ZeQ:Of x11 x12 x13 H0 H =
 Z0 (Z5 .eql x12 (.int .i64 0)) fun t69=>
 some ((.tuple [x11,x13,t69]),H):=Z9 [5,6,12,14,15] (by kernel_rfl)
theorem ZeR:Og x2 x3 x4 x5 x11 x12 x13 x14 H0 H =
 Z0 (Z5 .add x14 (.int .i64 1)) fun t30=>
 BV x2 x3 x4 x5 x11 x12 x13 t30 H0 H:=Z9 [5,6,12,14,15] (by kernel_rfl)
theorem ZeS:Jh x2 x3 x4 x5 x11 x12 x13 x14 x15 H0 H =
 Z0 ((Zz 1 [(0,x15)] [(.str [])]).map (.vs 1 .clip)) fun t64=>
 Z0 (ZS 1 16 x13 t64 H) fun r65=>
 Og x2 x3 x4 x5 x11 x12 r65.1 x14 H0 r65.2:=Z9 [5,6,12,14,15] (by kernel_rfl)
theorem ZeT:Ng x2 x3 x4 x5 x11 x12 x13 x14 x15 H0 H =
 Z0 (Z5 .eql x12 (.int .i64 0)) fun t58=>
 Zk t58
 (Z0 (WE [x11,x15] H) fun r61=>
 Jh x2 x3 x4 x5 x11 r61.1 x13 x14 x15 H0 r61.2)
 (Jh x2 x3 x4 x5 x11 x12 x13 x14 x15 H0 H):=Z9 [5,6,12,14,15] (by kernel_rfl)
theorem Lm:Nf x2 x3 x4 x5 x11 x13 x14 H0 H =
 Zk x3
 (Z0 (Z3 true 6 x4 H) fun t34=>
 Z0 (Z3 true 5 x5 H) fun t35=>
 Z0 (Zl 1 x2 x14) fun t38=>
 Z0 (Z3 false 1 t38 H) fun t39=>
 Z0 (N3 [x11,t34,t35,t39] H) fun r40=>
 Z0 (ZM r40.1 0) fun t41=>
 Z0 (ZM r40.1 1) fun t42=>
 Jh x2 x3 x4 x5 x11 t42 x13 x14 t41 H0 r40.2)
 (Z0 (WQ [x11] H) fun r45=>
 Z0 (ZM r45.1 0) fun t46=>
 Z0 (ZM r45.1 1) fun t47=>
 Z0 (Z5 .eql t47 (.int .i64 0)) fun t49=>
 Zk t49
 (Z0 (Zl 1 x2 x14) fun t54=>
 Z0 (Z3 false 1 t54 r45.2) fun t55=>
 Z0 (Wm [x11,t46,t55] r45.2) fun r56=>
 Ng x2 x3 x4 x5 x11 r56.1 x13 x14 t46 H0 r56.2)
 (Ng x2 x3 x4 x5 x11 t47 x13 x14 t46 H0 r45.2)):=Z9 [5,6,12,14,15] (by kernel_rfl)
theorem Ln:BV x2 x3 x4 x5 x11 x12 x13 x14 H0 H =
 Z0 (Zj (.slice 32) x2) fun t23=>
 Z0 (Z5 .lss x14 t23) fun t24=>
 Z0 (Z6 t24 true (.tuple []) (some x12)) fun t26=>
 Z0 (Z6 t24 true (.tuple []) (Z5 .eql t26 (.int .i64 0))) fun t27=>
 Z0 (Zg t24 t27 (.bool false)) fun t28=>
 Zk t28
 (Nf x2 x3 x4 x5 x11 x13 x14 H0 H)
 (Of x11 x12 x13 H0 H):=(Zx (C:=cfg) [5,6,12,14,15] (Zm 0 (ZbF H0)) _ _).trans (by kernel_rfl)
theorem Zhc:R5 [p0,p1,p2,p3] H=Zcg p0 p1 p2 p3 H:=(Zd (C:=cfg) (fn:=Tryz.f42) (c:=Z1 Tryz.f42) (n:=70) [5,6,12,14,15] Tryz.func42 (by kernel_rfl) (by kernel_rfl) [p0,p1,p2,p3] (by kernel_rfl) H).trans (by kernel_rfl)
def Znb:Z4:=Yl 43 56 (sub (Z1 Tryz.f43) [1,1,1]) (Zf cfg 56 43 Tryz.f43 H0) [(6,x6)] H
def BS:KL:=Zb (Fy 43 56 Tryz.f43 [1,1,1]) (Zf cfg 56 43 Tryz.f43 H0)
theorem ZeH:ZL 56 (BS H0):=Zu (C:=cfg) (kp:=cfg.keep 43) (sub (Z1 Tryz.f43) [1,1,1]) (Zv 43 Tryz.f43 H0)
def ZeE:Z4:=Yl 43 56 (sub (Z1 Tryz.f43) [1,1,0,1,0,0,1,1]) (Zb (VC 43 56 Tryz.f43 [1,1,0,1,0,0]) (Z7 0 (BS H0))) [(0,x0),(1,x1),(6,x6),(7,x7)] H
def ZeI:KL:=Zb (Fy 43 56 Tryz.f43 [1,1,0,1,0,0,1,1]) (Zb (VC 43 56 Tryz.f43 [1,1,0,1,0,0]) (Z7 0 (BS H0)))
def ZeG:Z4:=Yl 43 56 (sub (Z1 Tryz.f43) [1,1,0,1,0,0,1,0,0,1,1,1]) (Z7 1 (ZeI H0)) [(0,x0),(1,x1),(6,x6),(7,x7),(8,x8)] H
def ZeF:Z4:=Yl 43 56 (sub (Z1 Tryz.f43) [1,1,0,1,0,0,1,0,0,1,1]) (Z7 1 (ZeI H0)) [(0,x0),(1,x1),(6,x6),(7,x7),(8,x8),(9,x9)] H
def ZeD:Z4:=Yl 43 56 (sub (Z1 Tryz.f43) [1,1,0,1,0,0,1]) (Zb (VC 43 56 Tryz.f43 [1,1,0,1,0,0]) (Z7 0 (BS H0))) [(0,x0),(1,x1),(6,x6),(7,x7)] H
def Ph:Z4:=Er 43 56 (sub (Z1 Tryz.f43) [1,1,0,1,0,0]) (Z7 0 (BS H0)) [(0,x0),(1,x1),(6,x6),(7,x7)] H
def Zi9:Z4:=
 Ph p0 p1 .nils (.int .i64 0) H H
theorem Zj3:ZeE x0 x1 x6 x7 H0 H =
 Z0 (Z5 .add x7 (.int .i64 1)) fun t18=>
 Ph x0 x1 x6 t18 H0 H:=Z9 [4,5,8,11,12] (by kernel_rfl)
theorem Zj4:ZeG x0 x1 x6 x7 x8 H0 H =
 Z0 ((Zz 1 [(0,x8)] [(.str [])]).map (.vs 1 .clip)) fun t53=>
 Z0 (ZS 1 16 x6 t53 H) fun r54=>
 ZeE x0 x1 r54.1 x7 H0 r54.2:=Z9 [4,5,8,11,12] (by kernel_rfl)
theorem Tb:ZeF x0 x1 x6 x7 x8 x9 H0 H =
 Z0 (X9 .not x9) fun t29=>
 Zk t29
 (Z0 (Vp [x0] H) fun r32=>
 Z0 (ZM r32.1 0) fun t33=>
 Z0 (ZM r32.1 1) fun t34=>
 Z0 (ZM r32.1 2) fun t35=>
 Z0 (Yq .eql x8 (.str [])) fun t38=>
 Z0 (Z6 t38 true (.tuple []) (some t33)) fun t40=>
 Z0 (Z6 t38 true (.tuple []) (Yq .eql t40 (.str []))) fun t41=>
 Z0 (Zg t38 t41 (.bool false)) fun t42=>
 Z0 (Z6 t42 true (.tuple []) (some t34)) fun t44=>
 Z0 (Z6 t42 true (.tuple []) (X9 .not t44)) fun t45=>
 Z0 (Zg t42 t45 (.bool false)) fun t46=>
 Z0 (Z6 t46 true (.tuple []) (some t35)) fun t48=>
 Z0 (Z6 t46 true (.tuple []) (Z5 .eql t48 (.int .i64 0))) fun t49=>
 Z0 (Zg t46 t49 (.bool false)) fun t50=>
 some ((.tuple [x6,t50]),r32.2))
 (ZeG x0 x1 x6 x7 x8 H0 H):=Z9 [4,5,8,11,12] (by kernel_rfl)
theorem Ta:ZeD x0 x1 x6 x7 H0 H =
 Z0 (Vp [x0] H) fun r21=>
 Z0 (ZM r21.1 0) fun t22=>
 Z0 (ZM r21.1 1) fun t23=>
 Z0 (ZM r21.1 2) fun t24=>
 Z0 (Z5 .neq t24 (.int .i64 0)) fun t26=>
 Zk t26
 (some ((.tuple [x6,(.bool false)]),r21.2))
 (ZeF x0 x1 x6 x7 t22 t23 H0 r21.2):=Z9 [4,5,8,11,12] (by kernel_rfl)
theorem Tc:Ph x0 x1 x6 x7 H0 H =
 Z0 (Z5 .leq x7 x1) fun t16=>
 Zk t16
 (ZeD x0 x1 x6 x7 H0 H)
 (Znb x6 H0 H):=(Zx (C:=cfg) [4,5,8,11,12] (Zm 0 (ZeH H0)) _ _).trans (by kernel_rfl)
theorem ZjQ:Rw [p0,p1] H=Zi9 p0 p1 H:=(Zd (C:=cfg) (fn:=Tryz.f43) (c:=Z1 Tryz.f43) (n:=56) [4,5,8,11,12] Tryz.func43 (by kernel_rfl) (by kernel_rfl) [p0,p1] (by kernel_rfl) H).trans (by kernel_rfl)
def Zcv:Z4:=
 Z0 (ZU p0 H) fun r3=>
 Z0 (ZU p1 r3.2) fun r4=>
 Z0 (Z8 0 r4.1) fun t7=>
 Z0 (Z3 false 1 t7 r4.2) fun t8=>
 Z0 (ZS 5 40 .nils t8 r4.2) fun r9=>
 Z0 (Z8 0 r4.1) fun t10=>
 Z0 (Zi 1 t10 r9.1 r9.2) fun r_7=>
 Xl r4.1 r_7.2 fun z4 z4H=>
 Z0 (Z3 true 6 r3.1 z4H) fun t11=>
 Z0 (Zc JE [t11] z4H) fun r12=>
 Z0 (Yi true 5 z4) fun t13=>
 Z0 (Z3 true 5 z4 r12.2) fun t14=>
 Z0 (Zc WA [t14] r12.2) fun r15=>
 Z0 (Z5 .eql r15.1 (.int .i64 0)) fun t16=>
 Z0 (ZS 1 8 .nils p2 r15.2) fun r18=>
 Z0 ((Yn [(0,6,r12.1),(6,5,t13),(11,1,t16),(12,1,r18.1)] [(.str []),.nils,(.str []),(.str []),.nils,.nils,.nils,(.int .i64 0),(.int .i64 0),(.bool false),(.bool false),(.bool false),.nils,(.str []),(.bool false)]).map .agg) fun t19=>
 Z0 (ZU t19 r18.2) fun r20=>
 some (r20.1,r20.2)
theorem Zhs:KT [p0,p1,p2] H=Zcv p0 p1 p2 H:=(Zd (C:=cfg) (fn:=Tryz.f44) (c:=Z1 Tryz.f44) (n:=21) [] Tryz.func44 (by kernel_rfl) (by kernel_rfl) [p0,p1,p2] (by kernel_rfl) H).trans (by kernel_rfl)
def Su:Z4:=Yl 45 23 (sub (Z1 Tryz.f45) [1,1,1]) (Zf cfg 23 45 Tryz.f45 H0) [(5,x5)] H
def JI:KL:=Zb (Fy 45 23 Tryz.f45 [1,1,1]) (Zf cfg 23 45 Tryz.f45 H0)
theorem I8:ZL 23 (JI H0):=Zu (C:=cfg) (kp:=cfg.keep 45) (sub (Z1 Tryz.f45) [1,1,1]) (Zv 45 Tryz.f45 H0)
def Sw:Z4:=Yl 45 23 (sub (Z1 Tryz.f45) [1,1,0,1,0,0,1,1]) (Zb (VC 45 23 Tryz.f45 [1,1,0,1,0,0]) (Z7 0 (JI H0))) [(0,x0),(1,x1),(5,x5),(6,x6)] H
def Sv:Z4:=Yl 45 23 (sub (Z1 Tryz.f45) [1,1,0,1,0,0,1]) (Zb (VC 45 23 Tryz.f45 [1,1,0,1,0,0]) (Z7 0 (JI H0))) [(0,x0),(1,x1),(5,x5),(6,x6)] H
def JJ:Z4:=Er 45 23 (sub (Z1 Tryz.f45) [1,1,0,1,0,0]) (Z7 0 (JI H0)) [(0,x0),(1,x1),(5,x5),(6,x6)] H
def HX:Z4:=
 JJ p0 p1 .nils (.int .i64 0) H H
theorem ZbG:Su x5 H0 H =
 some (x5,H):=Z9 [4,5,6] (by kernel_rfl)
theorem ZbI:Sw x0 x1 x5 x6 H0 H =
 Z0 (Z5 .add x6 (.int .i64 1)) fun t12=>
 JJ x0 x1 x5 t12 H0 H:=Z9 [4,5,6] (by kernel_rfl)
theorem ZbH:Sv x0 x1 x5 x6 H0 H =
 Z0 (Zl 1 x1 x6) fun t17=>
 Z0 (Z3 false 1 t17 H) fun t18=>
 Z0 (Eh [x0,t18] H) fun r19=>
 Z0 ((Zz 1 [(0,r19.1)] [.nilp]).map (.vs 1 .clip)) fun t20=>
 Z0 (ZS 1 8 x5 t20 r19.2) fun r21=>
 Sw x0 x1 r21.1 x6 H0 r21.2:=Z9 [4,5,6] (by kernel_rfl)
theorem TP:JJ x0 x1 x5 x6 H0 H =
 Z0 (Zj (.slice 9) x1) fun t9=>
 Z0 (Z5 .lss x6 t9) fun t10=>
 Zk t10
 (Sv x0 x1 x5 x6 H0 H)
 (Su x5 H0 H):=(Zx (C:=cfg) [4,5,6] (Zm 0 (I8 H0)) _ _).trans (by kernel_rfl)
theorem Zd1:Qq [p0,p1] H=HX p0 p1 H:=(Zd (C:=cfg) (fn:=Tryz.f45) (c:=Z1 Tryz.f45) (n:=23) [4,5,6] Tryz.func45 (by kernel_rfl) (by kernel_rfl) [p0,p1] (by kernel_rfl) H).trans (by kernel_rfl)
def Af:Z4:=Yl 46 18 (sub (Z1 Tryz.f46) [1,1,1]) (Zf cfg 18 46 Tryz.f46 H0) [(3,x3)] H
def Gw:KL:=Zb (Fy 46 18 Tryz.f46 [1,1,1]) (Zf cfg 18 46 Tryz.f46 H0)
theorem Oi:ZL 18 (Gw H0):=Zu (C:=cfg) (kp:=cfg.keep 46) (sub (Z1 Tryz.f46) [1,1,1]) (Zv 46 Tryz.f46 H0)
def Ah:Z4:=Yl 46 18 (sub (Z1 Tryz.f46) [1,1,0,1,0,0,1,1]) (Zb (VC 46 18 Tryz.f46 [1,1,0,1,0,0]) (Z7 0 (Gw H0))) [(0,x0),(3,x3),(4,x4)] H
def Ag:Z4:=Yl 46 18 (sub (Z1 Tryz.f46) [1,1,0,1,0,0,1]) (Zb (VC 46 18 Tryz.f46 [1,1,0,1,0,0]) (Z7 0 (Gw H0))) [(0,x0),(3,x3),(4,x4)] H
def Gx:Z4:=Er 46 18 (sub (Z1 Tryz.f46) [1,1,0,1,0,0]) (Z7 0 (Gw H0)) [(0,x0),(3,x3),(4,x4)] H
def IW:Z4:=
 Gx p0 .nils (.int .i64 0) H H
theorem Zdb:Af x3 H0 H =
 some (x3,H):=Z9 [4,5,6] (by kernel_rfl)
theorem Zdd:Ah x0 x3 x4 H0 H =
 Z0 (Z5 .add x4 (.int .i64 1)) fun t10=>
 Gx x0 x3 t10 H0 H:=Z9 [4,5,6] (by kernel_rfl)
theorem Zdc:Ag x0 x3 x4 H0 H =
 Z0 (Zl 1 x0 x4) fun t14=>
 Z0 (Z3 false 1 t14 H) fun t15=>
 Z0 (ZS 1 16 x3 t15 H) fun r16=>
 Ah x0 r16.1 x4 H0 r16.2:=Z9 [4,5,6] (by kernel_rfl)
theorem Nh:Gx x0 x3 x4 H0 H =
 Z0 (Zj (.slice 32) x0) fun t7=>
 Z0 (Z5 .lss x4 t7) fun t8=>
 Zk t8
 (Ag x0 x3 x4 H0 H)
 (Af x3 H0 H):=(Zx (C:=cfg) [4,5,6] (Zm 0 (Oi H0)) _ _).trans (by kernel_rfl)
theorem Zeq:PS [p0] H=IW p0 H:=(Zd (C:=cfg) (fn:=Tryz.f46) (c:=Z1 Tryz.f46) (n:=18) [4,5,6] Tryz.func46 (by kernel_rfl) (by kernel_rfl) [p0] (by kernel_rfl) H).trans (by kernel_rfl)
def Ns:Z4:=Yl 47 26 (sub (Z1 Tryz.f47) [1,1,1]) (Zf cfg 26 47 Tryz.f47 H0) [] H
def UZ:KL:=Zb (Fy 47 26 Tryz.f47 [1,1,1]) (Zf cfg 26 47 Tryz.f47 H0)
theorem Sx:ZL 26 (UZ H0):=Zu (C:=cfg) (kp:=cfg.keep 47) (sub (Z1 Tryz.f47) [1,1,1]) (Zv 47 Tryz.f47 H0)
def Nu:Z4:=Yl 47 26 (sub (Z1 Tryz.f47) [1,1,0,1,0,0,1,1]) (Zb (VC 47 26 Tryz.f47 [1,1,0,1,0,0]) (Z7 0 (UZ H0))) [(0,x0),(1,x1),(5,x5)] H
def Nt:Z4:=Yl 47 26 (sub (Z1 Tryz.f47) [1,1,0,1,0,0,1]) (Zb (VC 47 26 Tryz.f47 [1,1,0,1,0,0]) (Z7 0 (UZ H0))) [(0,x0),(1,x1),(5,x5)] H
def Q0:Z4:=Er 47 26 (sub (Z1 Tryz.f47) [1,1,0,1,0,0]) (Z7 0 (UZ H0)) [(0,x0),(1,x1),(5,x5)] H
def Nr:Z4:=Yl 47 26 (sub (Z1 Tryz.f47) [1,1]) (Zf cfg 26 47 Tryz.f47 H0) [(0,x0),(1,x1)] H
def La:Z4:=
 Z0 (Zj (.slice 9) p0) fun t7=>
 Z0 (Zj (.slice 9) p1) fun t9=>
 Z0 (Z5 .neq t7 t9) fun t10=>
 Zk t10
 (some ((.bool false),H))
 (Nr p0 p1 H H)
theorem Ia:Ns H0 H =
 some ((.bool true),H):=Z9 [3,5,6,8] (by kernel_rfl)
theorem Ic:Nu x0 x1 x5 H0 H =
 Z0 (Z5 .add x5 (.int .i64 1)) fun t16=>
 Q0 x0 x1 t16 H0 H:=Z9 [3,5,6,8] (by kernel_rfl)
theorem Ib:Nt x0 x1 x5 H0 H =
 Z0 (Zl 1 x0 x5) fun t19=>
 Z0 (Z3 false 1 t19 H) fun t20=>
 Z0 (Zl 1 x1 x5) fun t23=>
 Z0 (Z3 false 1 t23 H) fun t24=>
 Z0 (Yq .neq t20 t24) fun t25=>
 Zk t25
 (some ((.bool false),H))
 (Nu x0 x1 x5 H0 H):=Z9 [3,5,6,8] (by kernel_rfl)
theorem F5:Q0 x0 x1 x5 H0 H =
 Z0 (Zj (.slice 9) x0) fun t13=>
 Z0 (Z5 .lss x5 t13) fun t14=>
 Zk t14
 (Nt x0 x1 x5 H0 H)
 (Ns H0 H):=(Zx (C:=cfg) [3,5,6,8] (Zm 0 (Sx H0)) _ _).trans (by kernel_rfl)
theorem I9:Nr x0 x1 H0 H =
 Q0 x0 x1 (.int .i64 0) H0 H:=Z9 [3,5,6,8] (by kernel_rfl)
theorem IX:BI [p0,p1] H=La p0 p1 H:=(Zd (C:=cfg) (fn:=Tryz.f47) (c:=Z1 Tryz.f47) (n:=26) [3,5,6,8] Tryz.func47 (by kernel_rfl) (by kernel_rfl) [p0,p1] (by kernel_rfl) H).trans (by kernel_rfl)
def Qb:Z4:=Yl 59 61 (sub (Z1 Tryz.f59) [1,1,0,0,0,1,1,1]) (Z7 1 (Zb (VC 59 61 Tryz.f59 [1,1,0,0]) (Z7 0 (Zf cfg 61 59 Tryz.f59 H0)))) [(0,x0),(5,x5)] H
def Qa:Z4:=Yl 59 61 (sub (Z1 Tryz.f59) [1,1,0,0,0,1,1]) (Z7 1 (Zb (VC 59 61 Tryz.f59 [1,1,0,0]) (Z7 0 (Zf cfg 61 59 Tryz.f59 H0)))) [(0,x0),(5,x5)] H
def XQ:Z4:=Er 59 61 (sub (Z1 Tryz.f59) [1,1,0,0]) (Z7 0 (Zf cfg 61 59 Tryz.f59 H0)) [(0,x0)] H
def DL:Z4:=Yl 59 61 (sub (Z1 Tryz.f59) [1,1]) (Zf cfg 61 59 Tryz.f59 H0) [(0,x0)] H
def F1:Z4:=
 Z0 (X1 (.pointer 134) .eql p0 .nilp) fun t9=>
 Zk t9
 (some ((.tuple [(.str []),(.bool false),(.int .i64 5)]),H))
 (DL p0 H H)
theorem MW:Qb x0 x5 H0 H =
 Z0 (ZI x0) fun t56=>
 Z0 (Z8 14 t56) fun t57=>
 Z0 (Zi 1 t57 (.bool true) H) fun r_7=>
 Z0 (ZI x0) fun t58=>
 Z0 (Z8 13 t58) fun t59=>
 Z0 (Zi 1 t59 x5 r_7.2) fun r_10=>
 some ((.tuple [x5,(.bool true),(.int .i64 0)]),r_10.2):=Z9 [3,6,7] (by kernel_rfl)
theorem MV:Qa x0 x5 H0 H =
 Z0 (ZI x0) fun t20=>
 Z0 (Z8 14 t20) fun t21=>
 Z0 (Z3 false 1 t21 H) fun t22=>
 Z0 (Z6 t22 true (.tuple []) (some x0)) fun t24=>
 Z0 (Z6 t22 true (.tuple []) (ZI t24)) fun t25=>
 Z0 (Z6 t22 true (.tuple []) (Z8 11 t25)) fun t26=>
 Z0 (Z6 t22 true (.tuple []) (Z3 false 1 t26 H)) fun t27=>
 Z0 (Zg t22 t27 (.bool false)) fun t28=>
 Z0 (Z6 t28 true (.tuple []) (some x0)) fun t30=>
 Z0 (Z6 t28 true (.tuple []) (ZI t30)) fun t31=>
 Z0 (Z6 t28 true (.tuple []) (Z8 6 t31)) fun t32=>
 Z0 (Z6 t28 true (.tuple []) (Z8 3 t32)) fun t33=>
 Z0 (Z6 t28 true (.tuple []) (Z3 false 1 t33 H)) fun t34=>
 Z0 (Zg t28 t34 (.bool false)) fun t35=>
 Z0 (Z6 t35 true (.tuple []) (some x0)) fun t37=>
 Z0 (Z6 t35 true (.tuple []) (ZI t37)) fun t38=>
 Z0 (Z6 t35 true (.tuple []) (Z8 0 t38)) fun t39=>
 Z0 (Z6 t35 true (.tuple []) (Z3 true 6 t39 H)) fun t40=>
 Z0 (Z6 t35 true (.tuple []) (some x0)) fun t41=>
 Z0 (Z6 t35 true (.tuple []) (ZI t41)) fun t42=>
 Z0 (Z6 t35 true (.tuple []) (Z8 6 t42)) fun t43=>
 Z0 (Z6 t35 true (.tuple []) (Z3 true 5 t43 H)) fun t44=>
 Z0 (Z6 t35 true (.tuple []) (some x0)) fun t45=>
 Z0 (Z6 t35 true (.tuple []) (ZI t45)) fun t46=>
 Z0 (Z6 t35 true (.tuple []) (Z8 13 t46)) fun t47=>
 Z0 (Z6 t35 true (.tuple []) (Z3 false 1 t47 H)) fun t48=>
 Z0 (Z6 t35 true (.tuple []) (some x5)) fun t49=>
 Z0 (Z6 t35 true ((.tuple []),H) (Zc W2 [t40,t44,t48,t49] H)) fun r50=>
 Z0 (Z6 t35 true (.tuple []) (Z5 .eql r50.1 (.int .i64 0))) fun t51=>
 Z0 (Zg t35 t51 (.bool false)) fun t52=>
 Zk t52
 (XQ x0 H0 r50.2)
 (Qb x0 x5 H0 r50.2):=Z9 [3,6,7] (by kernel_rfl)
theorem W6:XQ x0 H0 H =
 Z0 (Vq [x0] H) fun r12=>
 Z0 (ZM r12.1 0) fun t13=>
 Z0 (ZM r12.1 1) fun t14=>
 Z0 (ZM r12.1 2) fun t15=>
 Z0 (X9 .not t14) fun t17=>
 Zk t17
 (some ((.tuple [(.str []),(.bool false),t15]),r12.2))
 (Qa x0 t13 H0 r12.2):=(Zx (C:=cfg) [3,6,7] (Zm 0 (Zv 59 Tryz.f59 H0)) _ _).trans (by kernel_rfl)
theorem MU:DL x0 H0 H =
 XQ x0 H0 H:=Z9 [3,6,7] (by kernel_rfl)
theorem Em:Vp [p0] H=F1 p0 H:=(Zd (C:=cfg) (fn:=Tryz.f59) (c:=Z1 Tryz.f59) (n:=61) [3,6,7] Tryz.func59 (by kernel_rfl) (by kernel_rfl) [p0] (by kernel_rfl) H).trans (by kernel_rfl)
def Sk:Z4:=
 Z0 (ZU p0 H) fun r1=>
 Z0 (some ((.ptr r1.2.length 0),r1.2++[.cells [(.str []),.nils,(.str []),(.str []),.nils,.nils]])) fun r2=>
 Z0 (Z8 1 r1.1) fun t3=>
 Z0 (Z3 false 1 t3 r2.2) fun t4=>
 Z0 (ZS 1 8 .nils t4 r2.2) fun r5=>
 Z0 (Z8 1 r1.1) fun t6=>
 Z0 (Zi 1 t6 r5.1 r5.2) fun r_7=>
 Z0 (Z8 4 r1.1) fun t7=>
 Z0 (Z3 false 1 t7 r_7.2) fun t8=>
 Z0 (ZS 5 48 .nils t8 r_7.2) fun r9=>
 Z0 (Z8 4 r1.1) fun t10=>
 Z0 (Zi 1 t10 r9.1 r9.2) fun r_12=>
 Z0 (Z8 5 r1.1) fun t11=>
 Z0 (Z3 false 1 t11 r_12.2) fun t12=>
 Z0 (ZS 2 24 .nils t12 r_12.2) fun r13=>
 Z0 (Z8 5 r1.1) fun t14=>
 Z0 (Zi 1 t14 r13.1 r13.2) fun r_17=>
 Z0 (Z3 true 6 r1.1 r_17.2) fun t15=>
 Z0 (Zi 6 r2.1 t15 r_17.2) fun r_19=>
 Z0 (Z3 true 6 r2.1 r_19.2) fun v2=>
 some (v2,r_19.2)
theorem ZbC:JE [p0] H=Sk p0 H:=(Zd (C:=cfg) (fn:=Tryz.f88) (c:=Z1 Tryz.f88) (n:=16) [] Tryz.func88 (by kernel_rfl) (by kernel_rfl) [p0] (by kernel_rfl) H).trans (by kernel_rfl)
def DN:Z4:=Yl 102 67 (sub (Z1 Tryz.f102) [1,1,1,1,1,1,1,1]) (Zf cfg 67 102 Tryz.f102 H0) [(13,x13)] H
def DM:Z4:=Yl 102 67 (sub (Z1 Tryz.f102) [1,1,1,1,1,1]) (Zf cfg 67 102 Tryz.f102 H0) [(1,x1),(5,x5)] H
def XR:Z4:=Yl 102 67 (sub (Z1 Tryz.f102) [1,1,1,1,1]) (Zf cfg 67 102 Tryz.f102 H0) [(1,x1),(5,x5),(7,x7)] H
def XS:KL:=Zb (Fy 102 67 Tryz.f102 [1,1,1,1,1]) (Zf cfg 67 102 Tryz.f102 H0)
theorem PB:ZL 67 (XS H0):=Zu (C:=cfg) (kp:=cfg.keep 102) (sub (Z1 Tryz.f102) [1,1,1,1,1]) (Zv 102 Tryz.f102 H0)
def Qc:Z4:=Yl 102 67 (sub (Z1 Tryz.f102) [1,1,1,1,0,1,0,0,1,1,1]) (Zb (VC 102 67 Tryz.f102 [1,1,1,1,0,1,0,0]) (Z7 0 (XS H0))) [(1,x1),(5,x5),(6,x6),(7,x7),(20,x20),(21,x21),(22,x22)] H
def Hr:KL:=Zb (Fy 102 67 Tryz.f102 [1,1,1,1,0,1,0,0,1,1,1]) (Zb (VC 102 67 Tryz.f102 [1,1,1,1,0,1,0,0]) (Z7 0 (XS H0)))
def DP:Z4:=Yl 102 67 (sub (Z1 Tryz.f102) [1,1,1,1,0,1,0,0,1,1,0,0,1,1,1]) (Z7 1 (Hr H0)) [(1,x1),(5,x5),(6,x6),(7,x7),(8,x8),(10,x10),(11,x11),(20,x20),(21,x21),(22,x22)] H
def DO:Z4:=Yl 102 67 (sub (Z1 Tryz.f102) [1,1,1,1,0,1,0,0,1,1]) (Zb (VC 102 67 Tryz.f102 [1,1,1,1,0,1,0,0]) (Z7 0 (XS H0))) [(1,x1),(5,x5),(6,x6),(7,x7),(20,x20),(21,x21),(22,x22),(23,x23)] H
def WW:Z4:=Er 102 67 (sub (Z1 Tryz.f102) [1,1,1,1,0,1,0,0]) (Z7 0 (XS H0)) [(1,x1),(5,x5),(6,x6),(7,x7),(20,x20),(21,x21),(22,x22)] H
def F2:Z4:=
 Z0 (ZU p0 H) fun r1=>
 Z0 (some ((.ptr r1.2.length 0),r1.2++[.cells [(.str []),(.int .i64 0),(.bool false)]])) fun r5=>
 Z0 (some (.fn (.func 144) [] [r1.1])) fun t16=>
 Z0 (Z3 false 1 r1.1 r5.2) fun t17=>
 Z0 (ZI t17) fun t18=>
 Z0 (Z8 12 t18) fun t19=>
 Z0 (Z3 false 1 t19 r5.2) fun t20=>
 Z0 (Zj (.slice 52) t20) fun t21=>
 WW r1.1 r5.1 t16 (.int .i64 0) t20 t21 (.int .i64 0) H r5.2
theorem MY:DN x13 H0 H =
 some ((.tuple [x13,(.bool true),(.int .i64 0)]),H):=Z9 [6,10,12,13,15,18] (by kernel_rfl)
theorem MX:DM x1 x5 H0 H =
 Z0 (Z3 false 1 x1 H) fun t51=>
 Z0 (ZI t51) fun t52=>
 Z0 (Z8 12 t52) fun t53=>
 Z0 (Z3 false 1 t53 H) fun t54=>
 Z0 (Z8 1 x5) fun t55=>
 Z0 (Z3 false 1 t55 H) fun t56=>
 Z0 (Zl 1 t54 t56) fun t57=>
 Z0 (Z3 false 1 t57 H) fun t58=>
 Z0 (Jb [t58] H) fun r59=>
 Z0 (ZM r59.1 0) fun t60=>
 Z0 (ZM r59.1 1) fun t61=>
 Z0 (ZM r59.1 2) fun t62=>
 Z0 (Z5 .neq t62 (.int .i64 0)) fun t64=>
 Zk t64
 (some ((.tuple [(.str []),(.bool false),t62]),r59.2))
 (DN t60 H0 r59.2):=Z9 [6,10,12,13,15,18] (by kernel_rfl)
theorem Kj:XR x1 x5 x7 H0 H =
 Z0 (Z5 .neq x7 (.int .i64 0)) fun t43=>
 Z0 (Z6 t43 false (.tuple []) (Z8 2 x5)) fun t45=>
 Z0 (Z6 t43 false (.tuple []) (Z3 false 1 t45 H)) fun t46=>
 Z0 (Z6 t43 false (.tuple []) (X9 .not t46)) fun t47=>
 Z0 (Zg t43 (.bool true) t47) fun t48=>
 Zk t48
 (some ((.tuple [(.str []),(.bool false),x7]),H))
 (DM x1 x5 H0 H):=Z9 [6,10,12,13,15,18] (by kernel_rfl)
theorem Kl:Qc x1 x5 x6 x7 x20 x21 x22 H0 H =
 Z0 (Z5 .add x22 (.int .i64 1)) fun t41=>
 WW x1 x5 x6 x7 x20 x21 t41 H0 H:=Z9 [6,10,12,13,15,18] (by kernel_rfl)
theorem Km:DP x1 x5 x6 x7 x8 x10 x11 x20 x21 x22 H0 H =
 Zk x11
 (Z0 (We [x5,x8,x10,x6] H) fun r40=>
 Qc x1 x5 x6 x7 x20 x21 x22 H0 r40.2)
 (Qc x1 x5 x6 x7 x20 x21 x22 H0 H):=Z9 [6,10,12,13,15,18] (by kernel_rfl)
theorem Kk:DO x1 x5 x6 x7 x20 x21 x22 x23 H0 H =
 Z0 (Zl 1 x20 x22) fun t25=>
 Z0 (Z3 false 1 t25 H) fun t26=>
 Z0 (Wq [t26] H) fun r29=>
 Z0 (ZM r29.1 0) fun t30=>
 Z0 (ZM r29.1 1) fun t31=>
 Z0 (ZM r29.1 2) fun t32=>
 Z0 (Z5 .neq t32 (.int .i64 0)) fun t34=>
 Zk t34
 (XR x1 x5 t32 H0 r29.2)
 (DP x1 x5 x6 x7 x22 t30 t31 x20 x21 x22 H0 r29.2):=Z9 [6,10,12,13,15,18] (by kernel_rfl)
theorem VD:WW x1 x5 x6 x7 x20 x21 x22 H0 H =
 Z0 (Z5 .lss x22 x21) fun t23=>
 Zk t23
 (DO x1 x5 x6 x7 x20 x21 x22 t23 H0 H)
 (XR x1 x5 x7 H0 H):=(Zx (C:=cfg) [6,10,12,13,15,18] (Zm 0 (PB H0)) _ _).trans (by kernel_rfl)
theorem En:Vq [p0] H=F2 p0 H:=(Zd (C:=cfg) (fn:=Tryz.f102) (c:=Z1 Tryz.f102) (n:=67) [6,10,12,13,15,18] Tryz.func102 (by kernel_rfl) (by kernel_rfl) [p0] (by kernel_rfl) H).trans (by kernel_rfl)
def Bi:Z4:=
 Z0 (Z3 false 1 p2 H) fun t6=>
 Z0 (ZI t6) fun t7=>
 Z0 (Z8 11 t7) fun t8=>
 Z0 (Z3 false 1 t8 H) fun t9=>
 Z0 (Z6 t9 true (.tuple []) (Z3 false 1 p2 H)) fun t11=>
 Z0 (Z6 t9 true (.tuple []) (ZI t11)) fun t12=>
 Z0 (Z6 t9 true (.tuple []) (Z8 0 t12)) fun t13=>
 Z0 (Z6 t9 true (.tuple []) (Z3 true 6 t13 H)) fun t14=>
 Z0 (Z6 t9 true (.tuple []) (Z3 false 1 p2 H)) fun t15=>
 Z0 (Z6 t9 true (.tuple []) (ZI t15)) fun t16=>
 Z0 (Z6 t9 true (.tuple []) (Z8 6 t16)) fun t17=>
 Z0 (Z6 t9 true (.tuple []) (Z3 true 5 t17 H)) fun t18=>
 Z0 (Z6 t9 true (.tuple []) (some p0)) fun t19=>
 Z0 (Z6 t9 true (.tuple []) (some p1)) fun t20=>
 Z0 (Z6 t9 true ((.tuple []),H) (Zc VL [t14,t18,t19,t20] H)) fun r21=>
 Z0 (Z6 t9 true (.tuple []) (Z5 .lss r21.1 (.int .i64 0))) fun t22=>
 Z0 (Zg t9 t22 (.bool false)) fun t23=>
 some (t23,r21.2)
theorem N9:Uy [p0,p1,p2] H=Bi p0 p1 p2 H:=(Zd (C:=cfg) (fn:=Tryz.f144) (c:=Z1 Tryz.f144) (n:=24) [] Tryz.func144 (by kernel_rfl) (by kernel_rfl) [p0,p1,p2] (by kernel_rfl) H).trans (by kernel_rfl)
def Uz:Z4:=
 Z0 (ZI p0) fun t9=>
 Z0 (Z8 2 t9) fun t10=>
 Z0 (Z3 false 1 t10 H) fun t11=>
 Z0 (X9 .not t11) fun t12=>
 Z0 (Z6 t12 false (.tuple []) (some p3)) fun t14=>
 Z0 (Z6 t12 false (.tuple []) (some p2)) fun t15=>
 Z0 (Z6 t12 false (.tuple []) (some p0)) fun t16=>
 Z0 (Z6 t12 false (.tuple []) (ZI t16)) fun t17=>
 Z0 (Z6 t12 false (.tuple []) (Z8 0 t17)) fun t18=>
 Z0 (Z6 t12 false (.tuple []) (Z3 false 1 t18 H)) fun t19=>
 Z0 (Z6 t12 false ((.tuple []),H) (Yr cfg (Za cfg) t14 [t15,t19] H)) fun r20=>
 Z0 (Zg t12 (.bool true) r20.1) fun t21=>
 Zk t21
 (Z0 ((Yn [(0,1,p2),(1,1,p1),(2,1,(.bool true))] [(.str []),(.int .i64 0),(.bool false)]).map .agg) fun t25=>
 Z0 (ZI p0) fun t26=>
 Z0 (Zi 3 t26 t25 r20.2) fun r_15=>
 some ((.tuple []),r_15.2))
 (some ((.tuple []),r20.2))
theorem BF:We [p0,p1,p2,p3] H=Uz p0 p1 p2 p3 H:=(Zd (C:=cfg) (fn:=Tryz.f145) (c:=Z1 Tryz.f145) (n:=27) [] Tryz.func145 (by kernel_rfl) (by kernel_rfl) [p0,p1,p2,p3] (by kernel_rfl) H).trans (by kernel_rfl)
end
end Go.Am
