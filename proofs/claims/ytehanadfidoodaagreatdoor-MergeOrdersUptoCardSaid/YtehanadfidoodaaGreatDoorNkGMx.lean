/-
  The functions of the translation over the abstract machine, a further part: written by program (wip/gen.py).
-/
import Derived.Test.YtehanadfidoodaaGreatDoorNkGx
namespace Go.Am
open Go.Proofs
set_option maxRecDepth 100000
set_option linter.unusedVariables false
set_option linter.unusedSimpArgs false
noncomputable abbrev CXgM (f n:Nat):=CXL cfg (Za7 cfg) (LPL cfg (cfg.keep f) n) (cfg.keep f) n seqL Za4
noncomputable abbrev LPgM (f n:Nat):=LPL cfg (cfg.keep f) n
noncomputable section

def Zje (x7:AV) (H0 H:Hp):Res:=CXgM 34 22 (sub (Za0 Tryz.f34) [1,1,1,1]) (retL cfg 22 34 Tryz.f34 H0) [(7,x7)] H
def ZoM (x2 x3 x4:AV) (H0 H:Hp):Res:=CXgM 34 22 (sub (Za0 Tryz.f34) [1,1]) (retL cfg 22 34 Tryz.f34 H0) [(2,x2),(3,x3),(4,x4)] H
def ZpH (p0 p1 p2:AV) (H:Hp):Res:=
 bnd (abox p0 H) fun r3=>
 bnd (abox p1 r3.2) fun r4=>
 bnd (Za2 true 5 r4.1 r4.2) fun t8=>
 bnd (Zaa ZcG [t8] r4.2) fun r9=>
 bnd (ibin .neq r9.1 (.int .i64 0)) fun t10=>
 cnd t10
  (bnd (Zaa ZaR [p2] r9.2) fun r12=>
  some (r12.1,r12.2))
  (ZoM p2 r3.1 r4.1 H r9.2)
theorem ZkV (x7:AV) (H0 H:Hp):Zje x7 H0 H =
    some (x7,H):=(Za3 [3,6] _ _ _ _).trans (by kernel_rfl)
theorem Zu4 (x2 x3 x4:AV) (H0 H:Hp):ZoM x2 x3 x4 H0 H =
    frzK x3 H fun z3 z3H=>
    frzK x4 z3H fun z4 z4H=>
    bnd (some (.fn (.func 84) [] [z3,z4])) fun t14=>
    bnd (Zaa Zb2 [x2,t14] z4H) fun r15=>
    bnd (Za5 3 z4) fun t16=>
    bnd (Za2 false 1 t16 r15.2) fun t17=>
    cnd t17
     (bnd (some (.fn (.func 85) [] [z3,z4])) fun t19=>
     bnd (Zaa Zdc [r15.1,t19] r15.2) fun r20=>
     Zje r20.1 H0 r20.2)
     (Zje r15.1 H0 r15.2):=(Za3 [3,6] _ _ _ _).trans (by kernel_rfl)
theorem ZuG (p0 p1 p2:AV) (H:Hp):Zet [p0,p1,p2] H=ZpH p0 p1 p2 H:=(Za9 (C:=cfg) (fn:=Tryz.f34) (c:=Za0 Tryz.f34) (n:=22) [3,6] Tryz.func34 (by kernel_rfl) (by kernel_rfl) [p0,p1,p2] (by kernel_rfl) H).trans (by kernel_rfl)

def ZfG (x5:AV) (H0 H:Hp):Res:=CXgM 70 35 (sub (Za0 Tryz.f70) [1,1,1]) (retL cfg 35 70 Tryz.f70 H0) [(5,x5)] H
def ZbX (H0:Hp):KL:=seqL (fun k al H=>CXgM 70 35 (sub (Za0 Tryz.f70) [1,1,1]) k (Za8 (cfg.keep 70) (sub (Za0 Tryz.f70) [1,1,1]) al) H) (retL cfg 35 70 Tryz.f70 H0)
theorem Zjf (H0:Hp):Tame 35 (ZbX H0):=Zan (C:=cfg) (kp:=cfg.keep 70) (sub (Za0 Tryz.f70) [1,1,1]) (Zaq 70 Tryz.f70 H0)
def ZbW (x1 x5 x8 x9 x10:AV) (H0 H:Hp):Res:=CXgM 70 35 (sub (Za0 Tryz.f70) [1,1,0,1,0,0,1,1,1]) (seqL (fun k al H=>LPgM 70 35 (sub (Za0 Tryz.f70) [1,1,0,1,0,0]) k (Za8 (cfg.keep 70) (sub (Za0 Tryz.f70) [1,1,0,1,0,0]) al) H) (Za4 0 (ZbX H0))) [(1,x1),(5,x5),(8,x8),(9,x9),(10,x10)] H
def ZcX (x1 x5 x8 x9 x10 x11:AV) (H0 H:Hp):Res:=CXgM 70 35 (sub (Za0 Tryz.f70) [1,1,0,1,0,0,1,1]) (seqL (fun k al H=>LPgM 70 35 (sub (Za0 Tryz.f70) [1,1,0,1,0,0]) k (Za8 (cfg.keep 70) (sub (Za0 Tryz.f70) [1,1,0,1,0,0]) al) H) (Za4 0 (ZbX H0))) [(1,x1),(5,x5),(8,x8),(9,x9),(10,x10),(11,x11)] H
def ZbY (x1 x5 x8 x9 x10:AV) (H0 H:Hp):Res:=LPgM 70 35 (sub (Za0 Tryz.f70) [1,1,0,1,0,0]) (Za4 0 (ZbX H0)) [(1,x1),(5,x5),(8,x8),(9,x9),(10,x10)] H
def ZfU (p0 p1:AV) (H:Hp):Res:=
 bnd (Zae (.slice 9) p0) fun t9=>
 ZbY p1 .nils p0 t9 (.int .i64 0) H H
theorem Zkf (x5:AV) (H0 H:Hp):ZfG x5 H0 H =
    some (x5,H):=(Za3 [4,7,8] _ _ _ _).trans (by kernel_rfl)
theorem Zkh (x1 x5 x8 x9 x10:AV) (H0 H:Hp):ZbW x1 x5 x8 x9 x10 H0 H =
    bnd (ibin .add x10 (.int .i64 1)) fun t33=>
    ZbY x1 x5 x8 x9 t33 H0 H:=(Za3 [4,7,8] _ _ _ _).trans (by kernel_rfl)
theorem Zkg (x1 x5 x8 x9 x10 x11:AV) (H0 H:Hp):ZcX x1 x5 x8 x9 x10 x11 H0 H =
    bnd (Zaf 1 x8 x10) fun t12=>
    bnd (Za2 false 1 t12 H) fun t13=>
    bnd (Zae (.slice 9) x5) fun t15=>
    bnd (ibin .eql t15 (.int .i64 0)) fun t16=>
    bnd (gdv t16 false (.tuple []) (some x1)) fun t18=>
    bnd (gdv t16 false (.tuple []) (some x5)) fun t19=>
    bnd (gdv t16 false (.tuple []) (some x5)) fun t20=>
    bnd (gdv t16 false (.tuple []) (Zae (.slice 9) t20)) fun t21=>
    bnd (gdv t16 false (.tuple []) (ibin .sub t21 (.int .i64 1))) fun t22=>
    bnd (gdv t16 false (.tuple []) (Zaf 1 t19 t22)) fun t23=>
    bnd (gdv t16 false (.tuple []) (Za2 false 1 t23 H)) fun t24=>
    bnd (gdv t16 false (.tuple []) (some t13)) fun t25=>
    bnd (gdv t16 false ((.tuple []),H) (Zb0 cfg (Za7 cfg) t18 [t24,t25] H)) fun r26=>
    bnd (gdv t16 false (.tuple []) (aun .not r26.1)) fun t27=>
    bnd (Zad t16 (.bool true) t27) fun t28=>
    cnd t28
     (bnd ((Zau 1 [(0,t13)] [(.str [])]).map (.vs 1 .clip)) fun t31=>
     bnd (ZaH 1 16 x5 t31 r26.2) fun r32=>
     ZbW x1 r32.1 x8 x9 x10 H0 r32.2)
     (ZbW x1 x5 x8 x9 x10 H0 r26.2):=(Za3 [4,7,8] _ _ _ _).trans (by kernel_rfl)
theorem ZeA (x1 x5 x8 x9 x10:AV) (H0 H:Hp):ZbY x1 x5 x8 x9 x10 H0 H =
    bnd (ibin .lss x10 x9) fun t11=>
    cnd t11
     (ZcX x1 x5 x8 x9 x10 t11 H0 H)
     (ZfG x5 H0 H):=(Zar (C:=cfg) [4,7,8] (Zag 0 (Zjf H0)) _ _).trans (by kernel_rfl)
theorem Zky (p0 p1:AV) (H:Hp):Zdc [p0,p1] H=ZfU p0 p1 H:=(Za9 (C:=cfg) (fn:=Tryz.f70) (c:=Za0 Tryz.f70) (n:=35) [4,7,8] Tryz.func70 (by kernel_rfl) (by kernel_rfl) [p0,p1] (by kernel_rfl) H).trans (by kernel_rfl)

def Zd6 (x0:AV) (H0 H:Hp):Res:=CXgM 76 8 (sub (Za0 Tryz.f76) [1,1]) (retL cfg 8 76 Tryz.f76 H0) [(0,x0)] H
def Zdf (p0:AV) (H:Hp):Res:=
 bnd (ebin (.slice 9) .eql p0 .nils) fun t4=>
 cnd t4
  (some (.nils,H))
  (Zd6 p0 H H)
theorem Zg9 (x0:AV) (H0 H:Hp):Zd6 x0 H0 H =
    bnd ((Zau 1 [] []).map (.vs 1 .clip)) fun t5=>
    bnd (ZaH 1 16 t5 x0 H) fun r7=>
    some (r7.1,r7.2):=(Za3 [3] _ _ _ _).trans (by kernel_rfl)
theorem Zgg (p0:AV) (H:Hp):ZaR [p0] H=Zdf p0 H:=(Za9 (C:=cfg) (fn:=Tryz.f76) (c:=Za0 Tryz.f76) (n:=8) [3] Tryz.func76 (by kernel_rfl) (by kernel_rfl) [p0] (by kernel_rfl) H).trans (by kernel_rfl)

def ZdZ (x6 x7 x8:AV) (H0 H:Hp):Res:=CXgM 83 67 (sub (Za0 Tryz.f83) [1,1,1,1,1,1]) (retL cfg 67 83 Tryz.f83 H0) [(6,x6),(7,x7),(8,x8)] H
def Zc8 (H0:Hp):KL:=seqL (fun k al H=>CXgM 83 67 (sub (Za0 Tryz.f83) [1,1,1,1,1,1]) k (Za8 (cfg.keep 83) (sub (Za0 Tryz.f83) [1,1,1,1,1,1]) al) H) (retL cfg 67 83 Tryz.f83 H0)
theorem Zgv (H0:Hp):Tame 67 (Zc8 H0):=Zan (C:=cfg) (kp:=cfg.keep 83) (sub (Za0 Tryz.f83) [1,1,1,1,1,1]) (Zaq 83 Tryz.f83 H0)
def Ze0 (x1 x6 x7 x8:AV) (H0 H:Hp):Res:=CXgM 83 67 (sub (Za0 Tryz.f83) [1,1,1,1,1,0,0,0,1]) (seqL (fun k al H=>LPgM 83 67 (sub (Za0 Tryz.f83) [1,1,1,1,1,0,0,0]) k (Za8 (cfg.keep 83) (sub (Za0 Tryz.f83) [1,1,1,1,1,0,0,0]) al) H) (Za4 0 (Zc8 H0))) [(1,x1),(6,x6),(7,x7),(8,x8)] H
def ZaY (x1 x6 x7 x8:AV) (H0 H:Hp):Res:=LPgM 83 67 (sub (Za0 Tryz.f83) [1,1,1,1,1,0,0,0]) (Za4 0 (Zc8 H0)) [(1,x1),(6,x6),(7,x7),(8,x8)] H
def ZdY (x0 x1:AV) (H0 H:Hp):Res:=CXgM 83 67 (sub (Za0 Tryz.f83) [1,1]) (retL cfg 67 83 Tryz.f83 H0) [(0,x0),(1,x1)] H
def Zbp (p0 p1:AV) (H:Hp):Res:=
 bnd (Zae (.slice 9) p0) fun t10=>
 bnd (ibin .lss t10 (.int .i64 2)) fun t11=>
 cnd t11
  (bnd (Zaa ZaR [p0] H) fun r13=>
  some (r13.1,r13.2))
  (ZdY p0 p1 H H)
theorem Zd4 (x6 x7 x8:AV) (H0 H:Hp):ZdZ x6 x7 x8 H0 H =
    bnd (ZaH 1 16 x8 x6 H) fun r64=>
    bnd (ZaH 1 16 r64.1 x7 r64.2) fun r66=>
    some (r66.1,r66.2):=(Za3 [3,7,12] _ _ _ _).trans (by kernel_rfl)
theorem Zd5 (x1 x6 x7 x8:AV) (H0 H:Hp):Ze0 x1 x6 x7 x8 H0 H =
    bnd (Zaf 1 x6 (.int .i64 0)) fun t40=>
    bnd (Za2 false 1 t40 H) fun t41=>
    bnd (Zaf 1 x7 (.int .i64 0)) fun t43=>
    bnd (Za2 false 1 t43 H) fun t44=>
    bnd (Zb0 cfg (Za7 cfg) x1 [t41,t44] H) fun r45=>
    cnd r45.1
     (bnd (Zaf 1 x7 (.int .i64 0)) fun t48=>
     bnd (Za2 false 1 t48 r45.2) fun t49=>
     bnd ((Zau 1 [(0,t49)] [(.str [])]).map (.vs 1 .clip)) fun t50=>
     bnd (ZaH 1 16 x8 t50 r45.2) fun r51=>
     bnd (Zb1 1 x7 (some (.int .i64 1)) none none) fun t53=>
     ZaY x1 x6 t53 r51.1 H0 r51.2)
     (bnd (Zaf 1 x6 (.int .i64 0)) fun t56=>
     bnd (Za2 false 1 t56 r45.2) fun t57=>
     bnd ((Zau 1 [(0,t57)] [(.str [])]).map (.vs 1 .clip)) fun t58=>
     bnd (ZaH 1 16 x8 t58 r45.2) fun r59=>
     bnd (Zb1 1 x6 (some (.int .i64 1)) none none) fun t61=>
     ZaY x1 t61 x7 r59.1 H0 r59.2):=(Za3 [3,7,12] _ _ _ _).trans (by kernel_rfl)
theorem Zb7 (x1 x6 x7 x8:AV) (H0 H:Hp):ZaY x1 x6 x7 x8 H0 H =
    bnd (Zae (.slice 9) x6) fun t31=>
    bnd (ibin .gtr t31 (.int .i64 0)) fun t32=>
    bnd (gdv t32 true (.tuple []) (some x7)) fun t34=>
    bnd (gdv t32 true (.tuple []) (Zae (.slice 9) t34)) fun t35=>
    bnd (gdv t32 true (.tuple []) (ibin .gtr t35 (.int .i64 0))) fun t36=>
    bnd (Zad t32 t36 (.bool false)) fun t37=>
    cnd t37
     (Ze0 x1 x6 x7 x8 H0 H)
     (ZdZ x6 x7 x8 H0 H):=(Zar (C:=cfg) [3,7,12] (Zag 0 (Zgv H0)) _ _).trans (by kernel_rfl)
theorem ZhD (x0 x1:AV) (H0 H:Hp):ZdY x0 x1 H0 H =
    bnd (Zae (.slice 9) x0) fun t15=>
    bnd (ibin .quo t15 (.int .i64 2)) fun t16=>
    bnd (Zb1 1 x0 none (some t16) none) fun t19=>
    bnd (Zaa Zb2 [t19,x1] H) fun r21=>
    bnd (Zb1 1 x0 (some t16) none none) fun t24=>
    bnd (Zaa Zb2 [t24,x1] r21.2) fun r26=>
    bnd (Zae (.slice 9) x0) fun t28=>
    bnd (Zgj 1 16 false (.str []) (.int .i64 0) t28 r26.2) fun r29=>
    ZaY x1 r21.1 r26.1 r29.1 H0 r29.2:=(Za3 [3,7,12] _ _ _ _).trans (by kernel_rfl)
theorem ZbN (p0 p1:AV) (H:Hp):Zb2 [p0,p1] H=Zbp p0 p1 H:=(Za9 (C:=cfg) (fn:=Tryz.f83) (c:=Za0 Tryz.f83) (n:=67) [3,7,12] Tryz.func83 (by kernel_rfl) (by kernel_rfl) [p0,p1] (by kernel_rfl) H).trans (by kernel_rfl)

def ZmE (p0 p1 p2 p3:AV) (H:Hp):Res:=
 bnd (Za2 true 6 p2 H) fun t7=>
 bnd (Za2 true 5 p3 H) fun t8=>
 bnd (Zaa ZdN [t7,t8,p0,p1] H) fun r11=>
 bnd (ibin .gtr r11.1 (.int .i64 0)) fun t12=>
 some (t12,r11.2)
theorem Zs7 (p0 p1 p2 p3:AV) (H:Hp):Zmx [p0,p1,p2,p3] H=ZmE p0 p1 p2 p3 H:=(Za9 (C:=cfg) (fn:=Tryz.f84) (c:=Za0 Tryz.f84) (n:=13) [] Tryz.func84 (by kernel_rfl) (by kernel_rfl) [p0,p1,p2,p3] (by kernel_rfl) H).trans (by kernel_rfl)

def ZmF (p0 p1 p2 p3:AV) (H:Hp):Res:=
 bnd (Za2 true 6 p2 H) fun t7=>
 bnd (Za2 true 5 p3 H) fun t8=>
 bnd (Zaa Zce [t7,t8,p0,p1] H) fun r11=>
 bnd (ibin .eql r11.1 (.int .i64 0)) fun t12=>
 some (t12,r11.2)
theorem Zs8 (p0 p1 p2 p3:AV) (H:Hp):Zmy [p0,p1,p2,p3] H=ZmF p0 p1 p2 p3 H:=(Za9 (C:=cfg) (fn:=Tryz.f85) (c:=Za0 Tryz.f85) (n:=13) [] Tryz.func85 (by kernel_rfl) (by kernel_rfl) [p0,p1,p2,p3] (by kernel_rfl) H).trans (by kernel_rfl)

end
end Go.Am
