/-
  The functions of the translation over the abstract machine, a further part: written by program (wip/gen.py).
-/
import Derived.Test.YtehanadfidoodaaGreatDoorNkGx
namespace Go.Am
open Go.Proofs
set_option maxRecDepth 100000
set_option linter.unusedVariables false
set_option linter.unusedSimpArgs false
noncomputable abbrev CXgL (f n:Nat):=CXL cfg (Za7 cfg) (LPL cfg (cfg.keep f) n) (cfg.keep f) n seqL Za4
noncomputable abbrev LPgL (f n:Nat):=LPL cfg (cfg.keep f) n
noncomputable section

def ZkG (x2 x3 x4 x7 x8:AV) (H0 H:Hp):Res:=CXgL 11 52 (sub (Za0 Tryz.f11) [1,1,1,1]) (retL cfg 52 11 Tryz.f11 H0) [(2,x2),(3,x3),(4,x4),(7,x7),(8,x8)] H
def ZkF (x2 x3 x4:AV) (H0 H:Hp):Res:=CXgL 11 52 (sub (Za0 Tryz.f11) [1,1]) (retL cfg 52 11 Tryz.f11 H0) [(2,x2),(3,x3),(4,x4)] H
def Zlr (p0 p1 p2:AV) (H:Hp):Res:=
 bnd (abox p0 H) fun r3=>
 bnd (abox p1 r3.2) fun r4=>
 bnd (Zaa ZsQ [p2] r4.2) fun r13=>
 bnd (aun .not r13.1) fun t14=>
 cnd t14
  (bnd (Zaa Zhj [] r13.2) fun r15=>
  some (r15.1,r15.2))
  (ZkF p2 r3.1 r4.1 H r13.2)
theorem ZpR (x2 x3 x4 x7 x8:AV) (H0 H:Hp):ZkG x2 x3 x4 x7 x8 H0 H =
    frzK x3 H fun z3 z3H=>
    frzK x4 z3H fun z4 z4H=>
    bnd (Zbj true 6 z3) fun t27=>
    bnd (Zbj true 5 z4) fun t28=>
    bnd (Zff [x7,x8] z4H) fun r31=>
    bnd (Zhm [t27,t28,r31.1] r31.2) fun r32=>
    bnd (Zaa Ziz [x2] r32.2) fun r34=>
    bnd (Zae (.slice 9) r34.1) fun t35=>
    bnd (Zku [r32.1,t35] r34.2) fun r36=>
    bnd (aext r36.1 0) fun t37=>
    bnd (aext r36.1 1) fun t38=>
    bnd (gdv t38 true (.tuple []) (some t37)) fun t41=>
    bnd (gdv t38 true (.tuple []) (Za2 true 6 z3 r36.2)) fun t42=>
    bnd (gdv t38 true (.tuple []) (Za2 true 5 z4 r36.2)) fun t43=>
    bnd (gdv t38 true (.tuple []) (some x2)) fun t44=>
    bnd (gdv t38 true ((.tuple []),r36.2) (Zaa Ziz [t44] r36.2)) fun r45=>
    bnd (gdv t38 true ((.tuple []),r45.2) (Zaa Zet [t42,t43,r45.1] r45.2)) fun r46=>
    bnd (gdv t38 true ((.tuple []),r46.2) (Zaa ZiA [t41,r46.1] r46.2)) fun r47=>
    bnd (Zad t38 r47.1 (.bool false)) fun t48=>
    bnd (gdv t48 true ((.tuple []),r47.2) (Zaa Zhj [] r47.2)) fun r50=>
    bnd (Zad t48 r50.1 (.bool false)) fun t51=>
    some (t51,r50.2):=(Za3 [3,6] _ _ _ _).trans (by kernel_rfl)
theorem ZpQ (x2 x3 x4:AV) (H0 H:Hp):ZkF x2 x3 x4 H0 H =
    bnd (Za2 true 6 x3 H) fun t17=>
    bnd (Za2 true 5 x4 H) fun t18=>
    bnd (Zkl [t17,t18,x2,(.bool true)] H) fun r20=>
    bnd (aext r20.1 0) fun t21=>
    bnd (aext r20.1 1) fun t22=>
    bnd (aext r20.1 2) fun t23=>
    bnd (aun .not t23) fun t25=>
    cnd t25
     (some ((.bool false),r20.2))
     (ZkG x2 x3 x4 t21 t22 H0 r20.2):=(Za3 [3,6] _ _ _ _).trans (by kernel_rfl)
theorem Zqp (p0 p1 p2:AV) (H:Hp):Zlq [p0,p1,p2] H=Zlr p0 p1 p2 H:=(Za9 (C:=cfg) (fn:=Tryz.f11) (c:=Za0 Tryz.f11) (n:=52) [3,6] Tryz.func11 (by kernel_rfl) (by kernel_rfl) [p0,p1,p2] (by kernel_rfl) H).trans (by kernel_rfl)

def Zs3 (x10:AV) (H0 H:Hp):Res:=CXgL 30 39 (sub (Za0 Tryz.f30) [1,1,1,1,1,1]) (retL cfg 39 30 Tryz.f30 H0) [(10,x10)] H
def Zs2 (x0 x10:AV) (H0 H:Hp):Res:=CXgL 30 39 (sub (Za0 Tryz.f30) [1,1,1,1,1]) (retL cfg 39 30 Tryz.f30 H0) [(0,x0),(10,x10)] H
def Zs1 (x0 x3 x5 x6 x10:AV) (H0 H:Hp):Res:=CXgL 30 39 (sub (Za0 Tryz.f30) [1,1,1,1]) (retL cfg 39 30 Tryz.f30 H0) [(0,x0),(3,x3),(5,x5),(6,x6),(10,x10)] H
def Zs0 (x0 x3 x5 x6:AV) (H0 H:Hp):Res:=CXgL 30 39 (sub (Za0 Tryz.f30) [1,1]) (retL cfg 39 30 Tryz.f30 H0) [(0,x0),(3,x3),(5,x5),(6,x6)] H
def Zt1 (p0 p1 p2 p3:AV) (H:Hp):Res:=
 bnd (abox p1 H) fun r5=>
 bnd (abox p2 r5.2) fun r6=>
 bnd (ebin (.pointer 117) .eql p0 .nilp) fun t13=>
 cnd t13
  (some ((.tuple [(.str []),(.int .i64 5)]),r6.2))
  (Zs0 p0 p3 r5.1 r6.1 H r6.2)
theorem Zwd (x10:AV) (H0 H:Hp):Zs3 x10 H0 H =
    some ((.tuple [x10,(.int .i64 0)]),H):=(Za3 [3,6,9,12] _ _ _ _).trans (by kernel_rfl)
theorem Zwc (x0 x10:AV) (H0 H:Hp):Zs2 x0 x10 H0 H =
    bnd (ZcK [x0,x10] H) fun r34=>
    bnd (ibin .neq r34.1 (.int .i64 0)) fun t36=>
    cnd t36
     (some ((.tuple [(.str []),r34.1]),r34.2))
     (Zs3 x10 H0 r34.2):=(Za3 [3,6,9,12] _ _ _ _).trans (by kernel_rfl)
theorem Zwb (x0 x3 x5 x6 x10:AV) (H0 H:Hp):Zs1 x0 x3 x5 x6 x10 H0 H =
    bnd (Za2 true 6 x5 H) fun t24=>
    bnd (Za2 true 5 x6 H) fun t25=>
    bnd (Zaa Zet [t24,t25,x3] H) fun r27=>
    bnd (Zcx [x0,x10,r27.1] r27.2) fun r28=>
    bnd (ibin .neq r28.1 (.int .i64 0)) fun t30=>
    cnd t30
     (some ((.tuple [(.str []),r28.1]),r28.2))
     (Zs2 x0 x10 H0 r28.2):=(Za3 [3,6,9,12] _ _ _ _).trans (by kernel_rfl)
theorem Zwa (x0 x3 x5 x6:AV) (H0 H:Hp):Zs0 x0 x3 x5 x6 H0 H =
    bnd (ZcU [x0] H) fun r16=>
    bnd (aext r16.1 0) fun t17=>
    bnd (aext r16.1 1) fun t18=>
    bnd (ibin .neq t18 (.int .i64 0)) fun t20=>
    cnd t20
     (some ((.tuple [(.str []),t18]),r16.2))
     (Zs1 x0 x3 x5 x6 t17 H0 r16.2):=(Za3 [3,6,9,12] _ _ _ _).trans (by kernel_rfl)
theorem Zwq (p0 p1 p2 p3:AV) (H:Hp):ZmB [p0,p1,p2,p3] H=Zt1 p0 p1 p2 p3 H:=(Za9 (C:=cfg) (fn:=Tryz.f30) (c:=Za0 Tryz.f30) (n:=39) [3,6,9,12] Tryz.func30 (by kernel_rfl) (by kernel_rfl) [p0,p1,p2,p3] (by kernel_rfl) H).trans (by kernel_rfl)

def Zu9 (x0 x1:AV) (H0 H:Hp):Res:=CXgL 32 11 (sub (Za0 Tryz.f32) [1,1]) (retL cfg 11 32 Tryz.f32 H0) [(0,x0),(1,x1)] H
def Zv9 (p0 p1:AV) (H:Hp):Res:=
 bnd (ebin (.pointer 117) .eql p0 .nilp) fun t6=>
 cnd t6
  (some (.nilp,H))
  (Zu9 p0 p1 H H)
theorem Zy0 (x0 x1:AV) (H0 H:Hp):Zu9 x0 x1 H0 H =
    bnd ((Zbq [(0,1,x0),(1,1,x1)] [.nilp,(.str []),(.int .i64 0),(.bool false),(.bool false),(.str [])]).map .agg) fun t9=>
    bnd (abox t9 H) fun r10=>
    some (r10.1,r10.2):=(Za3 [3] _ _ _ _).trans (by kernel_rfl)
theorem Zyn (p0 p1:AV) (H:Hp):ZoX [p0,p1] H=Zv9 p0 p1 H:=(Za9 (C:=cfg) (fn:=Tryz.f32) (c:=Za0 Tryz.f32) (n:=11) [3] Tryz.func32 (by kernel_rfl) (by kernel_rfl) [p0,p1] (by kernel_rfl) H).trans (by kernel_rfl)

def Zfv (x5 x6 x7:AV) (H0 H:Hp):Res:=CXgL 33 24 (sub (Za0 Tryz.f33) [1,1,1]) (retL cfg 24 33 Tryz.f33 H0) [(5,x5),(6,x6),(7,x7)] H
def Zkz (p0:AV) (H:Hp):Res:=
 bnd (ZcB [p0] H) fun r10=>
 bnd (aext r10.1 0) fun t11=>
 bnd (aext r10.1 1) fun t12=>
 bnd (aext r10.1 2) fun t13=>
 cnd t12
  (bnd (anil p0) fun t17=>
  bnd (Za5 3 t17) fun t18=>
  bnd (Zab 1 t18 (.bool false) r10.2) fun r_7=>
  bnd (anil p0) fun t19=>
  bnd (Za5 5 t19) fun t20=>
  bnd (Zab 1 t20 (.str []) r_7.2) fun r_10=>
  Zfv t11 t12 t13 H r_10.2)
  (Zfv t11 t12 t13 H r10.2)
theorem ZhE (x5 x6 x7:AV) (H0 H:Hp):Zfv x5 x6 x7 H0 H =
    some ((.tuple [x5,x6,x7]),H):=(Za3 [4] _ _ _ _).trans (by kernel_rfl)
theorem ZpJ (p0:AV) (H:Hp):ZfR [p0] H=Zkz p0 H:=(Za9 (C:=cfg) (fn:=Tryz.f33) (c:=Za0 Tryz.f33) (n:=24) [4] Tryz.func33 (by kernel_rfl) (by kernel_rfl) [p0] (by kernel_rfl) H).trans (by kernel_rfl)

def ZjJ (x0:AV) (H0 H:Hp):Res:=CXgL 36 68 (sub (Za0 Tryz.f36) [1,1,1,1]) (retL cfg 68 36 Tryz.f36 H0) [(0,x0)] H
def ZdB (x0:AV) (H0 H:Hp):Res:=CXgL 36 68 (sub (Za0 Tryz.f36) [1,1,1]) (retL cfg 68 36 Tryz.f36 H0) [(0,x0)] H
def ZjI (x0:AV) (H0 H:Hp):Res:=CXgL 36 68 (sub (Za0 Tryz.f36) [1,1]) (retL cfg 68 36 Tryz.f36 H0) [(0,x0)] H
def ZfV (p0:AV) (H:Hp):Res:=
 bnd (ebin (.pointer 125) .eql p0 .nilp) fun t9=>
 cnd t9
  (some ((.tuple [(.str []),(.bool false),(.int .i64 5)]),H))
  (ZjI p0 H H)
theorem ZhF (x0:AV) (H0 H:Hp):ZjJ x0 H0 H =
    bnd (anil x0) fun t65=>
    bnd (Za5 5 t65) fun t66=>
    bnd (Za2 false 1 t66 H) fun t67=>
    some ((.tuple [t67,(.bool true),(.int .i64 0)]),H):=(Za3 [3,11,13] _ _ _ _).trans (by kernel_rfl)
theorem Zbh (x0:AV) (H0 H:Hp):ZdB x0 H0 H =
    bnd (anil x0) fun t60=>
    bnd (Za5 3 t60) fun t61=>
    bnd (Za2 false 1 t61 H) fun t62=>
    bnd (aun .not t62) fun t63=>
    cnd t63
     (some ((.tuple [(.str []),(.bool false),(.int .i64 0)]),H))
     (ZjJ x0 H0 H):=(Za3 [3,11,13] _ _ _ _).trans (by kernel_rfl)
theorem Zbg (x0:AV) (H0 H:Hp):ZjI x0 H0 H =
    bnd (anil x0) fun t11=>
    bnd (Za5 3 t11) fun t12=>
    bnd (Za2 false 1 t12 H) fun t13=>
    bnd (aun .not t13) fun t14=>
    bnd (gdv t14 true (.tuple []) (some x0)) fun t16=>
    bnd (gdv t14 true (.tuple []) (anil t16)) fun t17=>
    bnd (gdv t14 true (.tuple []) (Za5 4 t17)) fun t18=>
    bnd (gdv t14 true (.tuple []) (Za2 false 1 t18 H)) fun t19=>
    bnd (gdv t14 true (.tuple []) (aun .not t19)) fun t20=>
    bnd (Zad t14 t20 (.bool false)) fun t21=>
    cnd t21
     (bnd (anil x0) fun t24=>
     bnd (Za5 0 t24) fun t25=>
     bnd (Za2 false 1 t25 H) fun t26=>
     bnd (anil x0) fun t28=>
     bnd (Za5 1 t28) fun t29=>
     bnd (Za2 false 1 t29 H) fun t30=>
     bnd (anil x0) fun t32=>
     bnd (Za5 2 t32) fun t33=>
     bnd (Za2 false 1 t33 H) fun t34=>
     bnd (ZcJ [t26,t30,t34] H) fun r35=>
     bnd (aext r35.1 0) fun t36=>
     bnd (aext r35.1 1) fun t37=>
     bnd (aext r35.1 2) fun t38=>
     bnd (ibin .eql t38 (.int .i64 0)) fun t42=>
     cnd t42
      (bnd (anil x0) fun t48=>
      bnd (Za5 5 t48) fun t49=>
      bnd (Zab 1 t49 t36 r35.2) fun r_34=>
      bnd (anil x0) fun t50=>
      bnd (Za5 2 t50) fun t51=>
      bnd (Zab 1 t51 t37 r_34.2) fun r_37=>
      bnd (anil x0) fun t52=>
      bnd (Za5 3 t52) fun t53=>
      bnd (Zab 1 t53 (.bool true) r_37.2) fun r_40=>
      ZdB x0 H0 r_40.2)
      (bnd (ibin .eql t38 (.int .i64 5)) fun t55=>
      cnd t55
       (bnd (anil x0) fun t57=>
       bnd (Za5 4 t57) fun t58=>
       bnd (Zab 1 t58 (.bool true) r35.2) fun r_44=>
       ZdB x0 H0 r_44.2)
       (some ((.tuple [(.str []),(.bool false),t38]),r35.2))))
     (ZdB x0 H0 H):=(Za3 [3,11,13] _ _ _ _).trans (by kernel_rfl)
theorem Zii (p0:AV) (H:Hp):ZcB [p0] H=ZfV p0 H:=(Za9 (C:=cfg) (fn:=Tryz.f36) (c:=Za0 Tryz.f36) (n:=68) [3,11,13] Tryz.func36 (by kernel_rfl) (by kernel_rfl) [p0] (by kernel_rfl) H).trans (by kernel_rfl)

def Zwx (x0:AV) (H0 H:Hp):Res:=CXgL 41 38 (sub (Za0 Tryz.f41) [1,1]) (retL cfg 38 41 Tryz.f41 H0) [(0,x0)] H
def ZiK (H0:Hp):KL:=seqL (fun k al H=>CXgL 41 38 (sub (Za0 Tryz.f41) [1,1]) k (Za8 (cfg.keep 41) (sub (Za0 Tryz.f41) [1,1]) al) H) (retL cfg 38 41 Tryz.f41 H0)
theorem Zog (H0:Hp):Tame 38 (ZiK H0):=Zan (C:=cfg) (kp:=cfg.keep 41) (sub (Za0 Tryz.f41) [1,1]) (Zaq 41 Tryz.f41 H0)
def Zqx (x0 x3:AV) (H0 H:Hp):Res:=CXgL 41 38 (sub (Za0 Tryz.f41) [1,0,1,0,0,1,1]) (seqL (fun k al H=>LPgL 41 38 (sub (Za0 Tryz.f41) [1,0,1,0,0]) k (Za8 (cfg.keep 41) (sub (Za0 Tryz.f41) [1,0,1,0,0]) al) H) (Za4 0 (ZiK H0))) [(0,x0),(3,x3)] H
def Zqy (H0:Hp):KL:=seqL (fun k al H=>CXgL 41 38 (sub (Za0 Tryz.f41) [1,0,1,0,0,1,1]) k (Za8 (cfg.keep 41) (sub (Za0 Tryz.f41) [1,0,1,0,0,1,1]) al) H) (seqL (fun k al H=>LPgL 41 38 (sub (Za0 Tryz.f41) [1,0,1,0,0]) k (Za8 (cfg.keep 41) (sub (Za0 Tryz.f41) [1,0,1,0,0]) al) H) (Za4 0 (ZiK H0)))
theorem ZwC (H0:Hp):Tame 38 (Zqy H0):=Zan (C:=cfg) (kp:=cfg.keep 41) (sub (Za0 Tryz.f41) [1,0,1,0,0,1,1]) (ZoU (C:=cfg) (kp:=cfg.keep 41) (sub (Za0 Tryz.f41) [1,0,1,0,0]) (Zag 0 (Zog H0)))
def Zwz (x0 x3:AV) (H0 H:Hp):Res:=CXgL 41 38 (sub (Za0 Tryz.f41) [1,0,1,0,0,1,0,0,1]) (Za4 1 (Zqy H0)) [(0,x0),(3,x3)] H
def ZlW (H0:Hp):KL:=seqL (fun k al H=>CXgL 41 38 (sub (Za0 Tryz.f41) [1,0,1,0,0,1,0,0,1]) k (Za8 (cfg.keep 41) (sub (Za0 Tryz.f41) [1,0,1,0,0,1,0,0,1]) al) H) (Za4 1 (Zqy H0))
theorem ZwD (H0:Hp):Tame 38 (ZlW H0):=Zan (C:=cfg) (kp:=cfg.keep 41) (sub (Za0 Tryz.f41) [1,0,1,0,0,1,0,0,1]) (Zag 1 (ZwC H0))
def ZwB (x0 x3 x4:AV) (H0 H:Hp):Res:=CXgL 41 38 (sub (Za0 Tryz.f41) [1,0,1,0,0,1,0,0,0,1,0,0,1,1]) (seqL (fun k al H=>LPgL 41 38 (sub (Za0 Tryz.f41) [1,0,1,0,0,1,0,0,0,1,0,0]) k (Za8 (cfg.keep 41) (sub (Za0 Tryz.f41) [1,0,1,0,0,1,0,0,0,1,0,0]) al) H) (Za4 2 (ZlW H0))) [(0,x0),(3,x3),(4,x4)] H
def ZwA (x0 x3 x4:AV) (H0 H:Hp):Res:=CXgL 41 38 (sub (Za0 Tryz.f41) [1,0,1,0,0,1,0,0,0,1,0,0,1]) (seqL (fun k al H=>LPgL 41 38 (sub (Za0 Tryz.f41) [1,0,1,0,0,1,0,0,0,1,0,0]) k (Za8 (cfg.keep 41) (sub (Za0 Tryz.f41) [1,0,1,0,0,1,0,0,0,1,0,0]) al) H) (Za4 2 (ZlW H0))) [(0,x0),(3,x3),(4,x4)] H
def ZiL (x0 x3 x4:AV) (H0 H:Hp):Res:=LPgL 41 38 (sub (Za0 Tryz.f41) [1,0,1,0,0,1,0,0,0,1,0,0]) (Za4 2 (ZlW H0)) [(0,x0),(3,x3),(4,x4)] H
def Zwy (x0 x3:AV) (H0 H:Hp):Res:=CXgL 41 38 (sub (Za0 Tryz.f41) [1,0,1,0,0,1]) (seqL (fun k al H=>LPgL 41 38 (sub (Za0 Tryz.f41) [1,0,1,0,0]) k (Za8 (cfg.keep 41) (sub (Za0 Tryz.f41) [1,0,1,0,0]) al) H) (Za4 0 (ZiK H0))) [(0,x0),(3,x3)] H
def ZlX (x0 x3:AV) (H0 H:Hp):Res:=LPgL 41 38 (sub (Za0 Tryz.f41) [1,0,1,0,0]) (Za4 0 (ZiK H0)) [(0,x0),(3,x3)] H
def ZyR (p0:AV) (H:Hp):Res:=
 ZlX p0 (.int .i64 0) H H
theorem ZzA (x0:AV) (H0 H:Hp):Zwx x0 H0 H =
    bnd (Zae (.slice 32) x0) fun t36=>
    bnd (ibin .leq t36 (.int .i64 8)) fun t37=>
    some (t37,H):=(Za3 [3,4,6,7,9,11] _ _ _ _).trans (by kernel_rfl)
theorem ZzC (x0 x3:AV) (H0 H:Hp):Zqx x0 x3 H0 H =
    bnd (ibin .add x3 (.int .i64 1)) fun t10=>
    ZlX x0 t10 H0 H:=(Za3 [3,4,6,7,9,11] _ _ _ _).trans (by kernel_rfl)
theorem ZzD (x0 x3:AV) (H0 H:Hp):Zwz x0 x3 H0 H =
    bnd (Zaf 1 x0 x3) fun t31=>
    bnd (Za2 false 1 t31 H) fun t32=>
    bnd (Zae (.slice 9) t32) fun t33=>
    bnd (ibin .gtr t33 (.int .i64 30)) fun t34=>
    cnd t34
     (some ((.bool false),H))
     (Zqx x0 x3 H0 H):=(Za3 [3,4,6,7,9,11] _ _ _ _).trans (by kernel_rfl)
theorem ZzF (x0 x3 x4:AV) (H0 H:Hp):ZwB x0 x3 x4 H0 H =
    bnd (ibin .add x4 (.int .i64 1)) fun t19=>
    ZiL x0 x3 t19 H0 H:=(Za3 [3,4,6,7,9,11] _ _ _ _).trans (by kernel_rfl)
theorem ZzE (x0 x3 x4:AV) (H0 H:Hp):ZwA x0 x3 x4 H0 H =
    bnd (Zaf 1 x0 x3) fun t22=>
    bnd (Za2 false 1 t22 H) fun t23=>
    bnd (Zaf 1 t23 x4) fun t25=>
    bnd (Za2 false 1 t25 H) fun t26=>
    bnd (Zae .string t26) fun t27=>
    bnd (ibin .gtr t27 (.int .i64 200)) fun t28=>
    cnd t28
     (some ((.bool false),H))
     (ZwB x0 x3 x4 H0 H):=(Za3 [3,4,6,7,9,11] _ _ _ _).trans (by kernel_rfl)
theorem ZrB (x0 x3 x4:AV) (H0 H:Hp):ZiL x0 x3 x4 H0 H =
    bnd (Zaf 1 x0 x3) fun t14=>
    bnd (Za2 false 1 t14 H) fun t15=>
    bnd (Zae (.slice 9) t15) fun t16=>
    bnd (ibin .lss x4 t16) fun t17=>
    cnd t17
     (ZwA x0 x3 x4 H0 H)
     (Zwz x0 x3 H0 H):=(Zar (C:=cfg) [3,4,6,7,9,11] (Zag 2 (ZwD H0)) _ _).trans (by kernel_rfl)
theorem ZzB (x0 x3:AV) (H0 H:Hp):Zwy x0 x3 H0 H =
    ZiL x0 x3 (.int .i64 0) H0 H:=(Za3 [3,4,6,7,9,11] _ _ _ _).trans (by kernel_rfl)
theorem ZrA (x0 x3:AV) (H0 H:Hp):ZlX x0 x3 H0 H =
    bnd (Zae (.slice 32) x0) fun t7=>
    bnd (ibin .lss x3 t7) fun t8=>
    cnd t8
     (Zwy x0 x3 H0 H)
     (Zwx x0 H0 H):=(Zar (C:=cfg) [3,4,6,7,9,11] (Zag 0 (Zog H0)) _ _).trans (by kernel_rfl)
theorem ZAi (p0:AV) (H:Hp):ZsQ [p0] H=ZyR p0 H:=(Za9 (C:=cfg) (fn:=Tryz.f41) (c:=Za0 Tryz.f41) (n:=38) [3,4,6,7,9,11] Tryz.func41 (by kernel_rfl) (by kernel_rfl) [p0] (by kernel_rfl) H).trans (by kernel_rfl)

def Zt9 (x11 x12 x13:AV) (H0 H:Hp):Res:=CXgL 42 70 (sub (Za0 Tryz.f42) [1,1,1,1]) (retL cfg 70 42 Tryz.f42 H0) [(11,x11),(12,x12),(13,x13)] H
def ZfY (H0:Hp):KL:=seqL (fun k al H=>CXgL 42 70 (sub (Za0 Tryz.f42) [1,1,1,1]) k (Za8 (cfg.keep 42) (sub (Za0 Tryz.f42) [1,1,1,1]) al) H) (retL cfg 70 42 Tryz.f42 H0)
theorem ZuK (H0:Hp):Tame 70 (ZfY H0):=Zan (C:=cfg) (kp:=cfg.keep 42) (sub (Za0 Tryz.f42) [1,1,1,1]) (Zaq 42 Tryz.f42 H0)
def Zta (x2 x3 x4 x5 x11 x12 x13 x14:AV) (H0 H:Hp):Res:=CXgL 42 70 (sub (Za0 Tryz.f42) [1,1,1,0,1,0,0,1,1]) (seqL (fun k al H=>LPgL 42 70 (sub (Za0 Tryz.f42) [1,1,1,0,1,0,0]) k (Za8 (cfg.keep 42) (sub (Za0 Tryz.f42) [1,1,1,0,1,0,0]) al) H) (Za4 0 (ZfY H0))) [(2,x2),(3,x3),(4,x4),(5,x5),(11,x11),(12,x12),(13,x13),(14,x14)] H
def Ztb (H0:Hp):KL:=seqL (fun k al H=>CXgL 42 70 (sub (Za0 Tryz.f42) [1,1,1,0,1,0,0,1,1]) k (Za8 (cfg.keep 42) (sub (Za0 Tryz.f42) [1,1,1,0,1,0,0,1,1]) al) H) (seqL (fun k al H=>LPgL 42 70 (sub (Za0 Tryz.f42) [1,1,1,0,1,0,0]) k (Za8 (cfg.keep 42) (sub (Za0 Tryz.f42) [1,1,1,0,1,0,0]) al) H) (Za4 0 (ZfY H0)))
def ZfX (x2 x3 x4 x5 x11 x12 x13 x14 x15:AV) (H0 H:Hp):Res:=CXgL 42 70 (sub (Za0 Tryz.f42) [1,1,1,0,1,0,0,1,0,0,1,1]) (Za4 1 (Ztb H0)) [(2,x2),(3,x3),(4,x4),(5,x5),(11,x11),(12,x12),(13,x13),(14,x14),(15,x15)] H
def ZAj (H0:Hp):KL:=seqL (fun k al H=>CXgL 42 70 (sub (Za0 Tryz.f42) [1,1,1,0,1,0,0,1,0,0,1,1]) k (Za8 (cfg.keep 42) (sub (Za0 Tryz.f42) [1,1,1,0,1,0,0,1,0,0,1,1]) al) H) (Za4 1 (Ztb H0))
def ZmM (x2 x3 x4 x5 x11 x12 x13 x14 x15:AV) (H0 H:Hp):Res:=CXgL 42 70 (sub (Za0 Tryz.f42) [1,1,1,0,1,0,0,1,0,0,1,0,1,1,1,1]) (ZAj H0) [(2,x2),(3,x3),(4,x4),(5,x5),(11,x11),(12,x12),(13,x13),(14,x14),(15,x15)] H
def ZmL (x2 x3 x4 x5 x11 x13 x14:AV) (H0 H:Hp):Res:=CXgL 42 70 (sub (Za0 Tryz.f42) [1,1,1,0,1,0,0,1]) (seqL (fun k al H=>LPgL 42 70 (sub (Za0 Tryz.f42) [1,1,1,0,1,0,0]) k (Za8 (cfg.keep 42) (sub (Za0 Tryz.f42) [1,1,1,0,1,0,0]) al) H) (Za4 0 (ZfY H0))) [(2,x2),(3,x3),(4,x4),(5,x5),(11,x11),(13,x13),(14,x14)] H
def ZiM (x2 x3 x4 x5 x11 x12 x13 x14:AV) (H0 H:Hp):Res:=LPgL 42 70 (sub (Za0 Tryz.f42) [1,1,1,0,1,0,0]) (Za4 0 (ZfY H0)) [(2,x2),(3,x3),(4,x4),(5,x5),(11,x11),(12,x12),(13,x13),(14,x14)] H
def Zv2 (p0 p1 p2 p3:AV) (H:Hp):Res:=
 bnd (abox p0 H) fun r4=>
 bnd (abox p1 r4.2) fun r5=>
 bnd (ZoY [(.int .i64 262144)] r5.2) fun r17=>
 bnd (Zfy [r17.1,(.str [109,101,114,103,101]),(.int .i64 262144)] r17.2) fun r18=>
 bnd (aext r18.1 0) fun t19=>
 bnd (aext r18.1 1) fun t20=>
 ZiM p2 p3 r4.1 r5.1 t19 t20 .nils (.int .i64 0) H r18.2
theorem ZwE (x11 x12 x13:AV) (H0 H:Hp):Zt9 x11 x12 x13 H0 H =
    bnd (ibin .eql x12 (.int .i64 0)) fun t69=>
    some ((.tuple [x11,x13,t69]),H):=(Za3 [5,6,12,14,15] _ _ _ _).trans (by kernel_rfl)
theorem ZwF (x2 x3 x4 x5 x11 x12 x13 x14:AV) (H0 H:Hp):Zta x2 x3 x4 x5 x11 x12 x13 x14 H0 H =
    bnd (ibin .add x14 (.int .i64 1)) fun t30=>
    ZiM x2 x3 x4 x5 x11 x12 x13 t30 H0 H:=(Za3 [5,6,12,14,15] _ _ _ _).trans (by kernel_rfl)
theorem ZwG (x2 x3 x4 x5 x11 x12 x13 x14 x15:AV) (H0 H:Hp):ZfX x2 x3 x4 x5 x11 x12 x13 x14 x15 H0 H =
    bnd ((Zau 1 [(0,x15)] [(.str [])]).map (.vs 1 .clip)) fun t64=>
    bnd (ZaH 1 16 x13 t64 H) fun r65=>
    Zta x2 x3 x4 x5 x11 x12 r65.1 x14 H0 r65.2:=(Za3 [5,6,12,14,15] _ _ _ _).trans (by kernel_rfl)
theorem ZwH (x2 x3 x4 x5 x11 x12 x13 x14 x15:AV) (H0 H:Hp):ZmM x2 x3 x4 x5 x11 x12 x13 x14 x15 H0 H =
    bnd (ibin .eql x12 (.int .i64 0)) fun t58=>
    cnd t58
     (bnd (ZcK [x11,x15] H) fun r61=>
     ZfX x2 x3 x4 x5 x11 r61.1 x13 x14 x15 H0 r61.2)
     (ZfX x2 x3 x4 x5 x11 x12 x13 x14 x15 H0 H):=(Za3 [5,6,12,14,15] _ _ _ _).trans (by kernel_rfl)
theorem Zoh (x2 x3 x4 x5 x11 x13 x14:AV) (H0 H:Hp):ZmL x2 x3 x4 x5 x11 x13 x14 H0 H =
    cnd x3
     (bnd (Za2 true 6 x4 H) fun t34=>
     bnd (Za2 true 5 x5 H) fun t35=>
     bnd (Zaf 1 x2 x14) fun t38=>
     bnd (Za2 false 1 t38 H) fun t39=>
     bnd (ZmB [x11,t34,t35,t39] H) fun r40=>
     bnd (aext r40.1 0) fun t41=>
     bnd (aext r40.1 1) fun t42=>
     ZfX x2 x3 x4 x5 x11 t42 x13 x14 t41 H0 r40.2)
     (bnd (ZcU [x11] H) fun r45=>
     bnd (aext r45.1 0) fun t46=>
     bnd (aext r45.1 1) fun t47=>
     bnd (ibin .eql t47 (.int .i64 0)) fun t49=>
     cnd t49
      (bnd (Zaf 1 x2 x14) fun t54=>
      bnd (Za2 false 1 t54 r45.2) fun t55=>
      bnd (Zcx [x11,t46,t55] r45.2) fun r56=>
      ZmM x2 x3 x4 x5 x11 r56.1 x13 x14 t46 H0 r56.2)
      (ZmM x2 x3 x4 x5 x11 t47 x13 x14 t46 H0 r45.2)):=(Za3 [5,6,12,14,15] _ _ _ _).trans (by kernel_rfl)
theorem Zoi (x2 x3 x4 x5 x11 x12 x13 x14:AV) (H0 H:Hp):ZiM x2 x3 x4 x5 x11 x12 x13 x14 H0 H =
    bnd (Zae (.slice 32) x2) fun t23=>
    bnd (ibin .lss x14 t23) fun t24=>
    bnd (gdv t24 true (.tuple []) (some x12)) fun t26=>
    bnd (gdv t24 true (.tuple []) (ibin .eql t26 (.int .i64 0))) fun t27=>
    bnd (Zad t24 t27 (.bool false)) fun t28=>
    cnd t28
     (ZmL x2 x3 x4 x5 x11 x13 x14 H0 H)
     (Zt9 x11 x12 x13 H0 H):=(Zar (C:=cfg) [5,6,12,14,15] (Zag 0 (ZuK H0)) _ _).trans (by kernel_rfl)
theorem Zyg (p0 p1 p2 p3:AV) (H:Hp):Zkl [p0,p1,p2,p3] H=Zv2 p0 p1 p2 p3 H:=(Za9 (C:=cfg) (fn:=Tryz.f42) (c:=Za0 Tryz.f42) (n:=70) [5,6,12,14,15] Tryz.func42 (by kernel_rfl) (by kernel_rfl) [p0,p1,p2,p3] (by kernel_rfl) H).trans (by kernel_rfl)

def ZDl (x6:AV) (H0 H:Hp):Res:=CXgL 43 56 (sub (Za0 Tryz.f43) [1,1,1]) (retL cfg 56 43 Tryz.f43 H0) [(6,x6)] H
def ZiJ (H0:Hp):KL:=seqL (fun k al H=>CXgL 43 56 (sub (Za0 Tryz.f43) [1,1,1]) k (Za8 (cfg.keep 43) (sub (Za0 Tryz.f43) [1,1,1]) al) H) (retL cfg 56 43 Tryz.f43 H0)
theorem Zwv (H0:Hp):Tame 56 (ZiJ H0):=Zan (C:=cfg) (kp:=cfg.keep 43) (sub (Za0 Tryz.f43) [1,1,1]) (Zaq 43 Tryz.f43 H0)
def Zws (x0 x1 x6 x7:AV) (H0 H:Hp):Res:=CXgL 43 56 (sub (Za0 Tryz.f43) [1,1,0,1,0,0,1,1]) (seqL (fun k al H=>LPgL 43 56 (sub (Za0 Tryz.f43) [1,1,0,1,0,0]) k (Za8 (cfg.keep 43) (sub (Za0 Tryz.f43) [1,1,0,1,0,0]) al) H) (Za4 0 (ZiJ H0))) [(0,x0),(1,x1),(6,x6),(7,x7)] H
def Zww (H0:Hp):KL:=seqL (fun k al H=>CXgL 43 56 (sub (Za0 Tryz.f43) [1,1,0,1,0,0,1,1]) k (Za8 (cfg.keep 43) (sub (Za0 Tryz.f43) [1,1,0,1,0,0,1,1]) al) H) (seqL (fun k al H=>LPgL 43 56 (sub (Za0 Tryz.f43) [1,1,0,1,0,0]) k (Za8 (cfg.keep 43) (sub (Za0 Tryz.f43) [1,1,0,1,0,0]) al) H) (Za4 0 (ZiJ H0)))
def Zwu (x0 x1 x6 x7 x8:AV) (H0 H:Hp):Res:=CXgL 43 56 (sub (Za0 Tryz.f43) [1,1,0,1,0,0,1,0,0,1,1,1]) (Za4 1 (Zww H0)) [(0,x0),(1,x1),(6,x6),(7,x7),(8,x8)] H
def Zwt (x0 x1 x6 x7 x8 x9:AV) (H0 H:Hp):Res:=CXgL 43 56 (sub (Za0 Tryz.f43) [1,1,0,1,0,0,1,0,0,1,1]) (Za4 1 (Zww H0)) [(0,x0),(1,x1),(6,x6),(7,x7),(8,x8),(9,x9)] H
def Zwr (x0 x1 x6 x7:AV) (H0 H:Hp):Res:=CXgL 43 56 (sub (Za0 Tryz.f43) [1,1,0,1,0,0,1]) (seqL (fun k al H=>LPgL 43 56 (sub (Za0 Tryz.f43) [1,1,0,1,0,0]) k (Za8 (cfg.keep 43) (sub (Za0 Tryz.f43) [1,1,0,1,0,0]) al) H) (Za4 0 (ZiJ H0))) [(0,x0),(1,x1),(6,x6),(7,x7)] H
def ZlV (x0 x1 x6 x7:AV) (H0 H:Hp):Res:=LPgL 43 56 (sub (Za0 Tryz.f43) [1,1,0,1,0,0]) (Za4 0 (ZiJ H0)) [(0,x0),(1,x1),(6,x6),(7,x7)] H
def ZyQ (p0 p1:AV) (H:Hp):Res:=
 ZlV p0 p1 .nils (.int .i64 0) H H
theorem Zzy (x0 x1 x6 x7:AV) (H0 H:Hp):Zws x0 x1 x6 x7 H0 H =
    bnd (ibin .add x7 (.int .i64 1)) fun t18=>
    ZlV x0 x1 x6 t18 H0 H:=(Za3 [4,5,8,11,12] _ _ _ _).trans (by kernel_rfl)
theorem Zzz (x0 x1 x6 x7 x8:AV) (H0 H:Hp):Zwu x0 x1 x6 x7 x8 H0 H =
    bnd ((Zau 1 [(0,x8)] [(.str [])]).map (.vs 1 .clip)) fun t53=>
    bnd (ZaH 1 16 x6 t53 H) fun r54=>
    Zws x0 x1 r54.1 x7 H0 r54.2:=(Za3 [4,5,8,11,12] _ _ _ _).trans (by kernel_rfl)
theorem Zlb (x0 x1 x6 x7 x8 x9:AV) (H0 H:Hp):Zwt x0 x1 x6 x7 x8 x9 H0 H =
    bnd (aun .not x9) fun t29=>
    cnd t29
     (bnd (Zds [x0] H) fun r32=>
     bnd (aext r32.1 0) fun t33=>
     bnd (aext r32.1 1) fun t34=>
     bnd (aext r32.1 2) fun t35=>
     bnd (sbin .eql x8 (.str [])) fun t38=>
     bnd (gdv t38 true (.tuple []) (some t33)) fun t40=>
     bnd (gdv t38 true (.tuple []) (sbin .eql t40 (.str []))) fun t41=>
     bnd (Zad t38 t41 (.bool false)) fun t42=>
     bnd (gdv t42 true (.tuple []) (some t34)) fun t44=>
     bnd (gdv t42 true (.tuple []) (aun .not t44)) fun t45=>
     bnd (Zad t42 t45 (.bool false)) fun t46=>
     bnd (gdv t46 true (.tuple []) (some t35)) fun t48=>
     bnd (gdv t46 true (.tuple []) (ibin .eql t48 (.int .i64 0))) fun t49=>
     bnd (Zad t46 t49 (.bool false)) fun t50=>
     some ((.tuple [x6,t50]),r32.2))
     (Zwu x0 x1 x6 x7 x8 H0 H):=(Za3 [4,5,8,11,12] _ _ _ _).trans (by kernel_rfl)
theorem Zla (x0 x1 x6 x7:AV) (H0 H:Hp):Zwr x0 x1 x6 x7 H0 H =
    bnd (Zds [x0] H) fun r21=>
    bnd (aext r21.1 0) fun t22=>
    bnd (aext r21.1 1) fun t23=>
    bnd (aext r21.1 2) fun t24=>
    bnd (ibin .neq t24 (.int .i64 0)) fun t26=>
    cnd t26
     (some ((.tuple [x6,(.bool false)]),r21.2))
     (Zwt x0 x1 x6 x7 t22 t23 H0 r21.2):=(Za3 [4,5,8,11,12] _ _ _ _).trans (by kernel_rfl)
theorem Zlc (x0 x1 x6 x7:AV) (H0 H:Hp):ZlV x0 x1 x6 x7 H0 H =
    bnd (ibin .leq x7 x1) fun t16=>
    cnd t16
     (Zwr x0 x1 x6 x7 H0 H)
     (ZDl x6 H0 H):=(Zar (C:=cfg) [4,5,8,11,12] (Zag 0 (Zwv H0)) _ _).trans (by kernel_rfl)
theorem ZAh (p0 p1:AV) (H:Hp):Zku [p0,p1] H=ZyQ p0 p1 H:=(Za9 (C:=cfg) (fn:=Tryz.f43) (c:=Za0 Tryz.f43) (n:=56) [4,5,8,11,12] Tryz.func43 (by kernel_rfl) (by kernel_rfl) [p0,p1] (by kernel_rfl) H).trans (by kernel_rfl)

def Zv8 (p0 p1 p2:AV) (H:Hp):Res:=
 bnd (abox p0 H) fun r3=>
 bnd (abox p1 r3.2) fun r4=>
 bnd (Za5 0 r4.1) fun t7=>
 bnd (Za2 false 1 t7 r4.2) fun t8=>
 bnd (ZaH 5 40 .nils t8 r4.2) fun r9=>
 bnd (Za5 0 r4.1) fun t10=>
 bnd (Zab 1 t10 r9.1 r9.2) fun r_7=>
 frzK r4.1 r_7.2 fun z4 z4H=>
 bnd (Za2 true 6 r3.1 z4H) fun t11=>
 bnd (Zaa Zgd [t11] z4H) fun r12=>
 bnd (Zbj true 5 z4) fun t13=>
 bnd (Za2 true 5 z4 r12.2) fun t14=>
 bnd (Zaa ZcG [t14] r12.2) fun r15=>
 bnd (ibin .eql r15.1 (.int .i64 0)) fun t16=>
 bnd (ZaH 1 8 .nils p2 r15.2) fun r18=>
 bnd ((Zbq [(0,6,r12.1),(6,5,t13),(11,1,t16),(12,1,r18.1)] [(.str []),.nils,(.str []),(.str []),.nils,.nils,.nils,(.int .i64 0),(.int .i64 0),(.bool false),(.bool false),(.bool false),.nils,(.str []),(.bool false)]).map .agg) fun t19=>
 bnd (abox t19 r18.2) fun r20=>
 some (r20.1,r20.2)
theorem Zym (p0 p1 p2:AV) (H:Hp):Zhm [p0,p1,p2] H=Zv8 p0 p1 p2 H:=(Za9 (C:=cfg) (fn:=Tryz.f44) (c:=Za0 Tryz.f44) (n:=21) [] Tryz.func44 (by kernel_rfl) (by kernel_rfl) [p0,p1,p2] (by kernel_rfl) H).trans (by kernel_rfl)

def ZpS (x5:AV) (H0 H:Hp):Res:=CXgL 45 23 (sub (Za0 Tryz.f45) [1,1,1]) (retL cfg 23 45 Tryz.f45 H0) [(5,x5)] H
def Zgh (H0:Hp):KL:=seqL (fun k al H=>CXgL 45 23 (sub (Za0 Tryz.f45) [1,1,1]) k (Za8 (cfg.keep 45) (sub (Za0 Tryz.f45) [1,1,1]) al) H) (retL cfg 23 45 Tryz.f45 H0)
theorem Zsb (H0:Hp):Tame 23 (Zgh H0):=Zan (C:=cfg) (kp:=cfg.keep 45) (sub (Za0 Tryz.f45) [1,1,1]) (Zaq 45 Tryz.f45 H0)
def ZpU (x0 x1 x5 x6:AV) (H0 H:Hp):Res:=CXgL 45 23 (sub (Za0 Tryz.f45) [1,1,0,1,0,0,1,1]) (seqL (fun k al H=>LPgL 45 23 (sub (Za0 Tryz.f45) [1,1,0,1,0,0]) k (Za8 (cfg.keep 45) (sub (Za0 Tryz.f45) [1,1,0,1,0,0]) al) H) (Za4 0 (Zgh H0))) [(0,x0),(1,x1),(5,x5),(6,x6)] H
def ZpT (x0 x1 x5 x6:AV) (H0 H:Hp):Res:=CXgL 45 23 (sub (Za0 Tryz.f45) [1,1,0,1,0,0,1]) (seqL (fun k al H=>LPgL 45 23 (sub (Za0 Tryz.f45) [1,1,0,1,0,0]) k (Za8 (cfg.keep 45) (sub (Za0 Tryz.f45) [1,1,0,1,0,0]) al) H) (Za4 0 (Zgh H0))) [(0,x0),(1,x1),(5,x5),(6,x6)] H
def Zgi (x0 x1 x5 x6:AV) (H0 H:Hp):Res:=LPgL 45 23 (sub (Za0 Tryz.f45) [1,1,0,1,0,0]) (Za4 0 (Zgh H0)) [(0,x0),(1,x1),(5,x5),(6,x6)] H
def Zrx (p0 p1:AV) (H:Hp):Res:=
 Zgi p0 p1 .nils (.int .i64 0) H H
theorem ZuL (x5:AV) (H0 H:Hp):ZpS x5 H0 H =
    some (x5,H):=(Za3 [4,5,6] _ _ _ _).trans (by kernel_rfl)
theorem ZuN (x0 x1 x5 x6:AV) (H0 H:Hp):ZpU x0 x1 x5 x6 H0 H =
    bnd (ibin .add x6 (.int .i64 1)) fun t12=>
    Zgi x0 x1 x5 t12 H0 H:=(Za3 [4,5,6] _ _ _ _).trans (by kernel_rfl)
theorem ZuM (x0 x1 x5 x6:AV) (H0 H:Hp):ZpT x0 x1 x5 x6 H0 H =
    bnd (Zaf 1 x1 x6) fun t17=>
    bnd (Za2 false 1 t17 H) fun t18=>
    bnd (ZoX [x0,t18] H) fun r19=>
    bnd ((Zau 1 [(0,r19.1)] [.nilp]).map (.vs 1 .clip)) fun t20=>
    bnd (ZaH 1 8 x5 t20 r19.2) fun r21=>
    ZpU x0 x1 r21.1 x6 H0 r21.2:=(Za3 [4,5,6] _ _ _ _).trans (by kernel_rfl)
theorem ZlA (x0 x1 x5 x6:AV) (H0 H:Hp):Zgi x0 x1 x5 x6 H0 H =
    bnd (Zae (.slice 9) x1) fun t9=>
    bnd (ibin .lss x6 t9) fun t10=>
    cnd t10
     (ZpT x0 x1 x5 x6 H0 H)
     (ZpS x5 H0 H):=(Zar (C:=cfg) [4,5,6] (Zag 0 (Zsb H0)) _ _).trans (by kernel_rfl)
theorem Zvu (p0 p1:AV) (H:Hp):Zff [p0,p1] H=Zrx p0 p1 H:=(Za9 (C:=cfg) (fn:=Tryz.f45) (c:=Za0 Tryz.f45) (n:=23) [4,5,6] Tryz.func45 (by kernel_rfl) (by kernel_rfl) [p0,p1] (by kernel_rfl) H).trans (by kernel_rfl)

def ZrC (x3:AV) (H0 H:Hp):Res:=CXgL 46 18 (sub (Za0 Tryz.f46) [1,1,1]) (retL cfg 18 46 Tryz.f46 H0) [(3,x3)] H
def ZhR (H0:Hp):KL:=seqL (fun k al H=>CXgL 46 18 (sub (Za0 Tryz.f46) [1,1,1]) k (Za8 (cfg.keep 46) (sub (Za0 Tryz.f46) [1,1,1]) al) H) (retL cfg 18 46 Tryz.f46 H0)
theorem Ztc (H0:Hp):Tame 18 (ZhR H0):=Zan (C:=cfg) (kp:=cfg.keep 46) (sub (Za0 Tryz.f46) [1,1,1]) (Zaq 46 Tryz.f46 H0)
def ZrE (x0 x3 x4:AV) (H0 H:Hp):Res:=CXgL 46 18 (sub (Za0 Tryz.f46) [1,1,0,1,0,0,1,1]) (seqL (fun k al H=>LPgL 46 18 (sub (Za0 Tryz.f46) [1,1,0,1,0,0]) k (Za8 (cfg.keep 46) (sub (Za0 Tryz.f46) [1,1,0,1,0,0]) al) H) (Za4 0 (ZhR H0))) [(0,x0),(3,x3),(4,x4)] H
def ZrD (x0 x3 x4:AV) (H0 H:Hp):Res:=CXgL 46 18 (sub (Za0 Tryz.f46) [1,1,0,1,0,0,1]) (seqL (fun k al H=>LPgL 46 18 (sub (Za0 Tryz.f46) [1,1,0,1,0,0]) k (Za8 (cfg.keep 46) (sub (Za0 Tryz.f46) [1,1,0,1,0,0]) al) H) (Za4 0 (ZhR H0))) [(0,x0),(3,x3),(4,x4)] H
def ZhS (x0 x3 x4:AV) (H0 H:Hp):Res:=LPgL 46 18 (sub (Za0 Tryz.f46) [1,1,0,1,0,0]) (Za4 0 (ZhR H0)) [(0,x0),(3,x3),(4,x4)] H
def ZsR (p0:AV) (H:Hp):Res:=
 ZhS p0 .nils (.int .i64 0) H H
theorem Zvz (x3:AV) (H0 H:Hp):ZrC x3 H0 H =
    some (x3,H):=(Za3 [4,5,6] _ _ _ _).trans (by kernel_rfl)
theorem ZvB (x0 x3 x4:AV) (H0 H:Hp):ZrE x0 x3 x4 H0 H =
    bnd (ibin .add x4 (.int .i64 1)) fun t10=>
    ZhS x0 x3 t10 H0 H:=(Za3 [4,5,6] _ _ _ _).trans (by kernel_rfl)
theorem ZvA (x0 x3 x4:AV) (H0 H:Hp):ZrD x0 x3 x4 H0 H =
    bnd (Zaf 1 x0 x4) fun t14=>
    bnd (Za2 false 1 t14 H) fun t15=>
    bnd (ZaH 1 16 x3 t15 H) fun r16=>
    ZrE x0 r16.1 x4 H0 r16.2:=(Za3 [4,5,6] _ _ _ _).trans (by kernel_rfl)
theorem ZmN (x0 x3 x4:AV) (H0 H:Hp):ZhS x0 x3 x4 H0 H =
    bnd (Zae (.slice 32) x0) fun t7=>
    bnd (ibin .lss x4 t7) fun t8=>
    cnd t8
     (ZrD x0 x3 x4 H0 H)
     (ZrC x3 H0 H):=(Zar (C:=cfg) [4,5,6] (Zag 0 (Ztc H0)) _ _).trans (by kernel_rfl)
theorem Zwk (p0:AV) (H:Hp):Ziz [p0] H=ZsR p0 H:=(Za9 (C:=cfg) (fn:=Tryz.f46) (c:=Za0 Tryz.f46) (n:=18) [4,5,6] Tryz.func46 (by kernel_rfl) (by kernel_rfl) [p0] (by kernel_rfl) H).trans (by kernel_rfl)

def ZmP (H0 H:Hp):Res:=CXgL 47 26 (sub (Za0 Tryz.f47) [1,1,1]) (retL cfg 26 47 Tryz.f47 H0) [] H
def ZeP (H0:Hp):KL:=seqL (fun k al H=>CXgL 47 26 (sub (Za0 Tryz.f47) [1,1,1]) k (Za8 (cfg.keep 47) (sub (Za0 Tryz.f47) [1,1,1]) al) H) (retL cfg 26 47 Tryz.f47 H0)
theorem ZpV (H0:Hp):Tame 26 (ZeP H0):=Zan (C:=cfg) (kp:=cfg.keep 47) (sub (Za0 Tryz.f47) [1,1,1]) (Zaq 47 Tryz.f47 H0)
def ZmR (x0 x1 x5:AV) (H0 H:Hp):Res:=CXgL 47 26 (sub (Za0 Tryz.f47) [1,1,0,1,0,0,1,1]) (seqL (fun k al H=>LPgL 47 26 (sub (Za0 Tryz.f47) [1,1,0,1,0,0]) k (Za8 (cfg.keep 47) (sub (Za0 Tryz.f47) [1,1,0,1,0,0]) al) H) (Za4 0 (ZeP H0))) [(0,x0),(1,x1),(5,x5)] H
def ZmQ (x0 x1 x5:AV) (H0 H:Hp):Res:=CXgL 47 26 (sub (Za0 Tryz.f47) [1,1,0,1,0,0,1]) (seqL (fun k al H=>LPgL 47 26 (sub (Za0 Tryz.f47) [1,1,0,1,0,0]) k (Za8 (cfg.keep 47) (sub (Za0 Tryz.f47) [1,1,0,1,0,0]) al) H) (Za4 0 (ZeP H0))) [(0,x0),(1,x1),(5,x5)] H
def ZeQ (x0 x1 x5:AV) (H0 H:Hp):Res:=LPgL 47 26 (sub (Za0 Tryz.f47) [1,1,0,1,0,0]) (Za4 0 (ZeP H0)) [(0,x0),(1,x1),(5,x5)] H
def ZmO (x0 x1:AV) (H0 H:Hp):Res:=CXgL 47 26 (sub (Za0 Tryz.f47) [1,1]) (retL cfg 26 47 Tryz.f47 H0) [(0,x0),(1,x1)] H
def Zo6 (p0 p1:AV) (H:Hp):Res:=
 bnd (Zae (.slice 9) p0) fun t7=>
 bnd (Zae (.slice 9) p1) fun t9=>
 bnd (ibin .neq t7 t9) fun t10=>
 cnd t10
  (some ((.bool false),H))
  (ZmO p0 p1 H H)
theorem Zsd (H0 H:Hp):ZmP H0 H =
    some ((.bool true),H):=(Za3 [3,5,6,8] _ _ _ _).trans (by kernel_rfl)
theorem Zsf (x0 x1 x5:AV) (H0 H:Hp):ZmR x0 x1 x5 H0 H =
    bnd (ibin .add x5 (.int .i64 1)) fun t16=>
    ZeQ x0 x1 t16 H0 H:=(Za3 [3,5,6,8] _ _ _ _).trans (by kernel_rfl)
theorem Zse (x0 x1 x5:AV) (H0 H:Hp):ZmQ x0 x1 x5 H0 H =
    bnd (Zaf 1 x0 x5) fun t19=>
    bnd (Za2 false 1 t19 H) fun t20=>
    bnd (Zaf 1 x1 x5) fun t23=>
    bnd (Za2 false 1 t23 H) fun t24=>
    bnd (sbin .neq t20 t24) fun t25=>
    cnd t25
     (some ((.bool false),H))
     (ZmR x0 x1 x5 H0 H):=(Za3 [3,5,6,8] _ _ _ _).trans (by kernel_rfl)
theorem Zjw (x0 x1 x5:AV) (H0 H:Hp):ZeQ x0 x1 x5 H0 H =
    bnd (Zae (.slice 9) x0) fun t13=>
    bnd (ibin .lss x5 t13) fun t14=>
    cnd t14
     (ZmQ x0 x1 x5 H0 H)
     (ZmP H0 H):=(Zar (C:=cfg) [3,5,6,8] (Zag 0 (ZpV H0)) _ _).trans (by kernel_rfl)
theorem Zsc (x0 x1:AV) (H0 H:Hp):ZmO x0 x1 H0 H =
    ZeQ x0 x1 (.int .i64 0) H0 H:=(Za3 [3,5,6,8] _ _ _ _).trans (by kernel_rfl)
theorem ZsS (p0 p1:AV) (H:Hp):ZiA [p0,p1] H=Zo6 p0 p1 H:=(Za9 (C:=cfg) (fn:=Tryz.f47) (c:=Za0 Tryz.f47) (n:=26) [3,5,6,8] Tryz.func47 (by kernel_rfl) (by kernel_rfl) [p0,p1] (by kernel_rfl) H).trans (by kernel_rfl)

def Zf0 (x0 x5:AV) (H0 H:Hp):Res:=CXgL 59 61 (sub (Za0 Tryz.f59) [1,1,0,0,0,1,1,1]) (Za4 1 (seqL (fun k al H=>LPgL 59 61 (sub (Za0 Tryz.f59) [1,1,0,0]) k (Za8 (cfg.keep 59) (sub (Za0 Tryz.f59) [1,1,0,0]) al) H) (Za4 0 (retL cfg 61 59 Tryz.f59 H0)))) [(0,x0),(5,x5)] H
def ZeZ (x0 x5:AV) (H0 H:Hp):Res:=CXgL 59 61 (sub (Za0 Tryz.f59) [1,1,0,0,0,1,1]) (Za4 1 (seqL (fun k al H=>LPgL 59 61 (sub (Za0 Tryz.f59) [1,1,0,0]) k (Za8 (cfg.keep 59) (sub (Za0 Tryz.f59) [1,1,0,0]) al) H) (Za4 0 (retL cfg 61 59 Tryz.f59 H0)))) [(0,x0),(5,x5)] H
def Zc9 (x0:AV) (H0 H:Hp):Res:=LPgL 59 61 (sub (Za0 Tryz.f59) [1,1,0,0]) (Za4 0 (retL cfg 61 59 Tryz.f59 H0)) [(0,x0)] H
def Zjg (x0:AV) (H0 H:Hp):Res:=CXgL 59 61 (sub (Za0 Tryz.f59) [1,1]) (retL cfg 61 59 Tryz.f59 H0) [(0,x0)] H
def Zjs (p0:AV) (H:Hp):Res:=
 bnd (ebin (.pointer 134) .eql p0 .nilp) fun t9=>
 cnd t9
  (some ((.tuple [(.str []),(.bool false),(.int .i64 5)]),H))
  (Zjg p0 H H)
theorem Zo1 (x0 x5:AV) (H0 H:Hp):Zf0 x0 x5 H0 H =
    bnd (anil x0) fun t56=>
    bnd (Za5 14 t56) fun t57=>
    bnd (Zab 1 t57 (.bool true) H) fun r_7=>
    bnd (anil x0) fun t58=>
    bnd (Za5 13 t58) fun t59=>
    bnd (Zab 1 t59 x5 r_7.2) fun r_10=>
    some ((.tuple [x5,(.bool true),(.int .i64 0)]),r_10.2):=(Za3 [3,6,7] _ _ _ _).trans (by kernel_rfl)
theorem Zo0 (x0 x5:AV) (H0 H:Hp):ZeZ x0 x5 H0 H =
    bnd (anil x0) fun t20=>
    bnd (Za5 14 t20) fun t21=>
    bnd (Za2 false 1 t21 H) fun t22=>
    bnd (gdv t22 true (.tuple []) (some x0)) fun t24=>
    bnd (gdv t22 true (.tuple []) (anil t24)) fun t25=>
    bnd (gdv t22 true (.tuple []) (Za5 11 t25)) fun t26=>
    bnd (gdv t22 true (.tuple []) (Za2 false 1 t26 H)) fun t27=>
    bnd (Zad t22 t27 (.bool false)) fun t28=>
    bnd (gdv t28 true (.tuple []) (some x0)) fun t30=>
    bnd (gdv t28 true (.tuple []) (anil t30)) fun t31=>
    bnd (gdv t28 true (.tuple []) (Za5 6 t31)) fun t32=>
    bnd (gdv t28 true (.tuple []) (Za5 3 t32)) fun t33=>
    bnd (gdv t28 true (.tuple []) (Za2 false 1 t33 H)) fun t34=>
    bnd (Zad t28 t34 (.bool false)) fun t35=>
    bnd (gdv t35 true (.tuple []) (some x0)) fun t37=>
    bnd (gdv t35 true (.tuple []) (anil t37)) fun t38=>
    bnd (gdv t35 true (.tuple []) (Za5 0 t38)) fun t39=>
    bnd (gdv t35 true (.tuple []) (Za2 true 6 t39 H)) fun t40=>
    bnd (gdv t35 true (.tuple []) (some x0)) fun t41=>
    bnd (gdv t35 true (.tuple []) (anil t41)) fun t42=>
    bnd (gdv t35 true (.tuple []) (Za5 6 t42)) fun t43=>
    bnd (gdv t35 true (.tuple []) (Za2 true 5 t43 H)) fun t44=>
    bnd (gdv t35 true (.tuple []) (some x0)) fun t45=>
    bnd (gdv t35 true (.tuple []) (anil t45)) fun t46=>
    bnd (gdv t35 true (.tuple []) (Za5 13 t46)) fun t47=>
    bnd (gdv t35 true (.tuple []) (Za2 false 1 t47 H)) fun t48=>
    bnd (gdv t35 true (.tuple []) (some x5)) fun t49=>
    bnd (gdv t35 true ((.tuple []),H) (Zaa Zce [t40,t44,t48,t49] H)) fun r50=>
    bnd (gdv t35 true (.tuple []) (ibin .eql r50.1 (.int .i64 0))) fun t51=>
    bnd (Zad t35 t51 (.bool false)) fun t52=>
    cnd t52
     (Zc9 x0 H0 r50.2)
     (Zf0 x0 x5 H0 r50.2):=(Za3 [3,6,7] _ _ _ _).trans (by kernel_rfl)
theorem Zcj (x0:AV) (H0 H:Hp):Zc9 x0 H0 H =
    bnd (Zdt [x0] H) fun r12=>
    bnd (aext r12.1 0) fun t13=>
    bnd (aext r12.1 1) fun t14=>
    bnd (aext r12.1 2) fun t15=>
    bnd (aun .not t14) fun t17=>
    cnd t17
     (some ((.tuple [(.str []),(.bool false),t15]),r12.2))
     (ZeZ x0 t13 H0 r12.2):=(Zar (C:=cfg) [3,6,7] (Zag 0 (Zaq 59 Tryz.f59 H0)) _ _).trans (by kernel_rfl)
theorem ZnZ (x0:AV) (H0 H:Hp):Zjg x0 H0 H =
    Zc9 x0 H0 H:=(Za3 [3,6,7] _ _ _ _).trans (by kernel_rfl)
theorem Zp1 (p0:AV) (H:Hp):Zds [p0] H=Zjs p0 H:=(Za9 (C:=cfg) (fn:=Tryz.f59) (c:=Za0 Tryz.f59) (n:=61) [3,6,7] Tryz.func59 (by kernel_rfl) (by kernel_rfl) [p0] (by kernel_rfl) H).trans (by kernel_rfl)

def ZpI (p0:AV) (H:Hp):Res:=
 bnd (abox p0 H) fun r1=>
 bnd (some ((.ptr r1.2.length 0),r1.2++[.cells [(.str []),.nils,(.str []),(.str []),.nils,.nils]])) fun r2=>
 bnd (Za5 1 r1.1) fun t3=>
 bnd (Za2 false 1 t3 r2.2) fun t4=>
 bnd (ZaH 1 8 .nils t4 r2.2) fun r5=>
 bnd (Za5 1 r1.1) fun t6=>
 bnd (Zab 1 t6 r5.1 r5.2) fun r_7=>
 bnd (Za5 4 r1.1) fun t7=>
 bnd (Za2 false 1 t7 r_7.2) fun t8=>
 bnd (ZaH 5 48 .nils t8 r_7.2) fun r9=>
 bnd (Za5 4 r1.1) fun t10=>
 bnd (Zab 1 t10 r9.1 r9.2) fun r_12=>
 bnd (Za5 5 r1.1) fun t11=>
 bnd (Za2 false 1 t11 r_12.2) fun t12=>
 bnd (ZaH 2 24 .nils t12 r_12.2) fun r13=>
 bnd (Za5 5 r1.1) fun t14=>
 bnd (Zab 1 t14 r13.1 r13.2) fun r_17=>
 bnd (Za2 true 6 r1.1 r_17.2) fun t15=>
 bnd (Zab 6 r2.1 t15 r_17.2) fun r_19=>
 bnd (Za2 true 6 r2.1 r_19.2) fun v2=>
 some (v2,r_19.2)
theorem ZuH (p0:AV) (H:Hp):Zgd [p0] H=ZpI p0 H:=(Za9 (C:=cfg) (fn:=Tryz.f88) (c:=Za0 Tryz.f88) (n:=16) [] Tryz.func88 (by kernel_rfl) (by kernel_rfl) [p0] (by kernel_rfl) H).trans (by kernel_rfl)

def Zji (x13:AV) (H0 H:Hp):Res:=CXgL 102 67 (sub (Za0 Tryz.f102) [1,1,1,1,1,1,1,1]) (retL cfg 67 102 Tryz.f102 H0) [(13,x13)] H
def Zjh (x1 x5:AV) (H0 H:Hp):Res:=CXgL 102 67 (sub (Za0 Tryz.f102) [1,1,1,1,1,1]) (retL cfg 67 102 Tryz.f102 H0) [(1,x1),(5,x5)] H
def Zca (x1 x5 x7:AV) (H0 H:Hp):Res:=CXgL 102 67 (sub (Za0 Tryz.f102) [1,1,1,1,1]) (retL cfg 67 102 Tryz.f102 H0) [(1,x1),(5,x5),(7,x7)] H
def Zcb (H0:Hp):KL:=seqL (fun k al H=>CXgL 102 67 (sub (Za0 Tryz.f102) [1,1,1,1,1]) k (Za8 (cfg.keep 102) (sub (Za0 Tryz.f102) [1,1,1,1,1]) al) H) (retL cfg 67 102 Tryz.f102 H0)
theorem Zmf (H0:Hp):Tame 67 (Zcb H0):=Zan (C:=cfg) (kp:=cfg.keep 102) (sub (Za0 Tryz.f102) [1,1,1,1,1]) (Zaq 102 Tryz.f102 H0)
def Zf1 (x1 x5 x6 x7 x20 x21 x22:AV) (H0 H:Hp):Res:=CXgL 102 67 (sub (Za0 Tryz.f102) [1,1,1,1,0,1,0,0,1,1,1]) (seqL (fun k al H=>LPgL 102 67 (sub (Za0 Tryz.f102) [1,1,1,1,0,1,0,0]) k (Za8 (cfg.keep 102) (sub (Za0 Tryz.f102) [1,1,1,1,0,1,0,0]) al) H) (Za4 0 (Zcb H0))) [(1,x1),(5,x5),(6,x6),(7,x7),(20,x20),(21,x21),(22,x22)] H
def Zrc (H0:Hp):KL:=seqL (fun k al H=>CXgL 102 67 (sub (Za0 Tryz.f102) [1,1,1,1,0,1,0,0,1,1,1]) k (Za8 (cfg.keep 102) (sub (Za0 Tryz.f102) [1,1,1,1,0,1,0,0,1,1,1]) al) H) (seqL (fun k al H=>LPgL 102 67 (sub (Za0 Tryz.f102) [1,1,1,1,0,1,0,0]) k (Za8 (cfg.keep 102) (sub (Za0 Tryz.f102) [1,1,1,1,0,1,0,0]) al) H) (Za4 0 (Zcb H0)))
def Zjk (x1 x5 x6 x7 x8 x10 x11 x20 x21 x22:AV) (H0 H:Hp):Res:=CXgL 102 67 (sub (Za0 Tryz.f102) [1,1,1,1,0,1,0,0,1,1,0,0,1,1,1]) (Za4 1 (Zrc H0)) [(1,x1),(5,x5),(6,x6),(7,x7),(8,x8),(10,x10),(11,x11),(20,x20),(21,x21),(22,x22)] H
def Zjj (x1 x5 x6 x7 x20 x21 x22 x23:AV) (H0 H:Hp):Res:=CXgL 102 67 (sub (Za0 Tryz.f102) [1,1,1,1,0,1,0,0,1,1]) (seqL (fun k al H=>LPgL 102 67 (sub (Za0 Tryz.f102) [1,1,1,1,0,1,0,0]) k (Za8 (cfg.keep 102) (sub (Za0 Tryz.f102) [1,1,1,1,0,1,0,0]) al) H) (Za4 0 (Zcb H0))) [(1,x1),(5,x5),(6,x6),(7,x7),(20,x20),(21,x21),(22,x22),(23,x23)] H
def ZcY (x1 x5 x6 x7 x20 x21 x22:AV) (H0 H:Hp):Res:=LPgL 102 67 (sub (Za0 Tryz.f102) [1,1,1,1,0,1,0,0]) (Za4 0 (Zcb H0)) [(1,x1),(5,x5),(6,x6),(7,x7),(20,x20),(21,x21),(22,x22)] H
def Zjt (p0:AV) (H:Hp):Res:=
 bnd (abox p0 H) fun r1=>
 bnd (some ((.ptr r1.2.length 0),r1.2++[.cells [(.str []),(.int .i64 0),(.bool false)]])) fun r5=>
 bnd (some (.fn (.func 144) [] [r1.1])) fun t16=>
 bnd (Za2 false 1 r1.1 r5.2) fun t17=>
 bnd (anil t17) fun t18=>
 bnd (Za5 12 t18) fun t19=>
 bnd (Za2 false 1 t19 r5.2) fun t20=>
 bnd (Zae (.slice 52) t20) fun t21=>
 ZcY r1.1 r5.1 t16 (.int .i64 0) t20 t21 (.int .i64 0) H r5.2
theorem Zo3 (x13:AV) (H0 H:Hp):Zji x13 H0 H =
    some ((.tuple [x13,(.bool true),(.int .i64 0)]),H):=(Za3 [6,10,12,13,15,18] _ _ _ _).trans (by kernel_rfl)
theorem Zo2 (x1 x5:AV) (H0 H:Hp):Zjh x1 x5 H0 H =
    bnd (Za2 false 1 x1 H) fun t51=>
    bnd (anil t51) fun t52=>
    bnd (Za5 12 t52) fun t53=>
    bnd (Za2 false 1 t53 H) fun t54=>
    bnd (Za5 1 x5) fun t55=>
    bnd (Za2 false 1 t55 H) fun t56=>
    bnd (Zaf 1 t54 t56) fun t57=>
    bnd (Za2 false 1 t57 H) fun t58=>
    bnd (ZfR [t58] H) fun r59=>
    bnd (aext r59.1 0) fun t60=>
    bnd (aext r59.1 1) fun t61=>
    bnd (aext r59.1 2) fun t62=>
    bnd (ibin .neq t62 (.int .i64 0)) fun t64=>
    cnd t64
     (some ((.tuple [(.str []),(.bool false),t62]),r59.2))
     (Zji t60 H0 r59.2):=(Za3 [6,10,12,13,15,18] _ _ _ _).trans (by kernel_rfl)
theorem ZgR (x1 x5 x7:AV) (H0 H:Hp):Zca x1 x5 x7 H0 H =
    bnd (ibin .neq x7 (.int .i64 0)) fun t43=>
    bnd (gdv t43 false (.tuple []) (Za5 2 x5)) fun t45=>
    bnd (gdv t43 false (.tuple []) (Za2 false 1 t45 H)) fun t46=>
    bnd (gdv t43 false (.tuple []) (aun .not t46)) fun t47=>
    bnd (Zad t43 (.bool true) t47) fun t48=>
    cnd t48
     (some ((.tuple [(.str []),(.bool false),x7]),H))
     (Zjh x1 x5 H0 H):=(Za3 [6,10,12,13,15,18] _ _ _ _).trans (by kernel_rfl)
theorem ZgT (x1 x5 x6 x7 x20 x21 x22:AV) (H0 H:Hp):Zf1 x1 x5 x6 x7 x20 x21 x22 H0 H =
    bnd (ibin .add x22 (.int .i64 1)) fun t41=>
    ZcY x1 x5 x6 x7 x20 x21 t41 H0 H:=(Za3 [6,10,12,13,15,18] _ _ _ _).trans (by kernel_rfl)
theorem ZgU (x1 x5 x6 x7 x8 x10 x11 x20 x21 x22:AV) (H0 H:Hp):Zjk x1 x5 x6 x7 x8 x10 x11 x20 x21 x22 H0 H =
    cnd x11
     (bnd (Zcr [x5,x8,x10,x6] H) fun r40=>
     Zf1 x1 x5 x6 x7 x20 x21 x22 H0 r40.2)
     (Zf1 x1 x5 x6 x7 x20 x21 x22 H0 H):=(Za3 [6,10,12,13,15,18] _ _ _ _).trans (by kernel_rfl)
theorem ZgS (x1 x5 x6 x7 x20 x21 x22 x23:AV) (H0 H:Hp):Zjj x1 x5 x6 x7 x20 x21 x22 x23 H0 H =
    bnd (Zaf 1 x20 x22) fun t25=>
    bnd (Za2 false 1 t25 H) fun t26=>
    bnd (ZcB [t26] H) fun r29=>
    bnd (aext r29.1 0) fun t30=>
    bnd (aext r29.1 1) fun t31=>
    bnd (aext r29.1 2) fun t32=>
    bnd (ibin .neq t32 (.int .i64 0)) fun t34=>
    cnd t34
     (Zca x1 x5 t32 H0 r29.2)
     (Zjk x1 x5 x6 x7 x22 t30 t31 x20 x21 x22 H0 r29.2):=(Za3 [6,10,12,13,15,18] _ _ _ _).trans (by kernel_rfl)
theorem ZdF (x1 x5 x6 x7 x20 x21 x22:AV) (H0 H:Hp):ZcY x1 x5 x6 x7 x20 x21 x22 H0 H =
    bnd (ibin .lss x22 x21) fun t23=>
    cnd t23
     (Zjj x1 x5 x6 x7 x20 x21 x22 t23 H0 H)
     (Zca x1 x5 x7 H0 H):=(Zar (C:=cfg) [6,10,12,13,15,18] (Zag 0 (Zmf H0)) _ _).trans (by kernel_rfl)
theorem Zp2 (p0:AV) (H:Hp):Zdt [p0] H=Zjt p0 H:=(Za9 (C:=cfg) (fn:=Tryz.f102) (c:=Za0 Tryz.f102) (n:=67) [6,10,12,13,15,18] Tryz.func102 (by kernel_rfl) (by kernel_rfl) [p0] (by kernel_rfl) H).trans (by kernel_rfl)

def Zih (p0 p1 p2:AV) (H:Hp):Res:=
 bnd (Za2 false 1 p2 H) fun t6=>
 bnd (anil t6) fun t7=>
 bnd (Za5 11 t7) fun t8=>
 bnd (Za2 false 1 t8 H) fun t9=>
 bnd (gdv t9 true (.tuple []) (Za2 false 1 p2 H)) fun t11=>
 bnd (gdv t9 true (.tuple []) (anil t11)) fun t12=>
 bnd (gdv t9 true (.tuple []) (Za5 0 t12)) fun t13=>
 bnd (gdv t9 true (.tuple []) (Za2 true 6 t13 H)) fun t14=>
 bnd (gdv t9 true (.tuple []) (Za2 false 1 p2 H)) fun t15=>
 bnd (gdv t9 true (.tuple []) (anil t15)) fun t16=>
 bnd (gdv t9 true (.tuple []) (Za5 6 t16)) fun t17=>
 bnd (gdv t9 true (.tuple []) (Za2 true 5 t17 H)) fun t18=>
 bnd (gdv t9 true (.tuple []) (some p0)) fun t19=>
 bnd (gdv t9 true (.tuple []) (some p1)) fun t20=>
 bnd (gdv t9 true ((.tuple []),H) (Zaa ZdN [t14,t18,t19,t20] H)) fun r21=>
 bnd (gdv t9 true (.tuple []) (ibin .lss r21.1 (.int .i64 0))) fun t22=>
 bnd (Zad t9 t22 (.bool false)) fun t23=>
 some (t23,r21.2)
theorem ZmG (p0 p1 p2:AV) (H:Hp):Zeu [p0,p1,p2] H=Zih p0 p1 p2 H:=(Za9 (C:=cfg) (fn:=Tryz.f144) (c:=Za0 Tryz.f144) (n:=24) [] Tryz.func144 (by kernel_rfl) (by kernel_rfl) [p0,p1,p2] (by kernel_rfl) H).trans (by kernel_rfl)

def Zev (p0 p1 p2 p3:AV) (H:Hp):Res:=
 bnd (anil p0) fun t9=>
 bnd (Za5 2 t9) fun t10=>
 bnd (Za2 false 1 t10 H) fun t11=>
 bnd (aun .not t11) fun t12=>
 bnd (gdv t12 false (.tuple []) (some p3)) fun t14=>
 bnd (gdv t12 false (.tuple []) (some p2)) fun t15=>
 bnd (gdv t12 false (.tuple []) (some p0)) fun t16=>
 bnd (gdv t12 false (.tuple []) (anil t16)) fun t17=>
 bnd (gdv t12 false (.tuple []) (Za5 0 t17)) fun t18=>
 bnd (gdv t12 false (.tuple []) (Za2 false 1 t18 H)) fun t19=>
 bnd (gdv t12 false ((.tuple []),H) (Zb0 cfg (Za7 cfg) t14 [t15,t19] H)) fun r20=>
 bnd (Zad t12 (.bool true) r20.1) fun t21=>
 cnd t21
  (bnd ((Zbq [(0,1,p2),(1,1,p1),(2,1,(.bool true))] [(.str []),(.int .i64 0),(.bool false)]).map .agg) fun t25=>
  bnd (anil p0) fun t26=>
  bnd (Zab 3 t26 t25 r20.2) fun r_15=>
  some ((.tuple []),r_15.2))
  (some ((.tuple []),r20.2))
theorem Ziy (p0 p1 p2 p3:AV) (H:Hp):Zcr [p0,p1,p2,p3] H=Zev p0 p1 p2 p3 H:=(Za9 (C:=cfg) (fn:=Tryz.f145) (c:=Za0 Tryz.f145) (n:=27) [] Tryz.func145 (by kernel_rfl) (by kernel_rfl) [p0,p1,p2,p3] (by kernel_rfl) H).trans (by kernel_rfl)

end
end Go.Am
