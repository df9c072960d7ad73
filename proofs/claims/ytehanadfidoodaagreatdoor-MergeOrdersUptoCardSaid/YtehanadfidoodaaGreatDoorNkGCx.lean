/-
  The functions of the translation over the abstract machine, a further part: written by program (wip/gen.py).
-/
import Derived.Test.YtehanadfidoodaaGreatDoorNkGx
namespace Go.Am
open Go.Proofs
set_option maxRecDepth 100000
set_option linter.unusedVariables false
set_option linter.unusedSimpArgs false
noncomputable abbrev CXgC (f n:Nat):=CXL cfg (Za7 cfg) (LPL cfg (cfg.keep f) n) (cfg.keep f) n seqL Za4
noncomputable abbrev LPgC (f n:Nat):=LPL cfg (cfg.keep f) n
noncomputable section

def Znt (x9:AV) (H0 H:Hp):Res:=CXgC 67 39 (sub (Za0 Tryz.f67) [1,1,1,1,1,1]) (retL cfg 39 67 Tryz.f67 H0) [(9,x9)] H
def Zi7 (x2 x3 x4 x5:AV) (H0 H:Hp):Res:=CXgC 67 39 (sub (Za0 Tryz.f67) [1,1,1,1]) (retL cfg 39 67 Tryz.f67 H0) [(2,x2),(3,x3),(4,x4),(5,x5)] H
def Zoa (p0 p1 p2 p3:AV) (H:Hp):Res:=
 bnd (abox p0 H) fun r4=>
 bnd (abox p1 r4.2) fun r5=>
 bnd (Za2 true 5 r5.1 r5.2) fun t10=>
 bnd (Zaa ZcI [t10] r5.2) fun r11=>
 bnd (Zab 5 r5.1 r11.1 r11.2) fun r_5=>
 bnd (Za2 true 6 r4.1 r_5.2) fun t12=>
 bnd (Za2 true 5 r5.1 r_5.2) fun t13=>
 bnd (Zaa Zce [t12,t13,p2,p3] r_5.2) fun r16=>
 bnd (ibin .neq r16.1 (.int .i64 0)) fun t18=>
 bnd (gdv t18 false (.tuple []) (Za5 4 r5.1)) fun t20=>
 bnd (gdv t18 false (.tuple []) (Za2 false 1 t20 r16.2)) fun t21=>
 bnd (Zad t18 (.bool true) t21) fun t22=>
 bnd (gdv t22 false (.tuple []) (Za5 3 r5.1)) fun t24=>
 bnd (gdv t22 false (.tuple []) (Za2 false 1 t24 r16.2)) fun t25=>
 bnd (Zad t22 (.bool true) t25) fun t26=>
 cnd t26
  (some (r16.1,r16.2))
  (Zi7 p2 p3 r4.1 r5.1 H r16.2)
theorem Zsu (x9:AV) (H0 H:Hp):Znt x9 H0 H =
    some (x9,H):=(Za3 [5,8] _ _ _ _).trans (by kernel_rfl)
theorem Zst (x2 x3 x4 x5:AV) (H0 H:Hp):Zi7 x2 x3 x4 x5 H0 H =
    bnd (Za2 true 6 x4 H) fun t28=>
    bnd (Zaa Zdb [t28,x2,x3] H) fun r31=>
    bnd (Za5 2 x5) fun t32=>
    bnd (Za2 false 1 t32 r31.2) fun t33=>
    bnd (ibin .and t33 (.int .i64 2)) fun t34=>
    bnd (ibin .neq t34 (.int .i64 0)) fun t35=>
    cnd t35
     (bnd (aun .neg r31.1) fun t37=>
     some (t37,r31.2))
     (Znt r31.1 H0 r31.2):=(Za3 [5,8] _ _ _ _).trans (by kernel_rfl)
theorem Zt3 (p0 p1 p2 p3:AV) (H:Hp):ZdN [p0,p1,p2,p3] H=Zoa p0 p1 p2 p3 H:=(Za9 (C:=cfg) (fn:=Tryz.f67) (c:=Za0 Tryz.f67) (n:=39) [5,8] Tryz.func67 (by kernel_rfl) (by kernel_rfl) [p0,p1,p2,p3] (by kernel_rfl) H).trans (by kernel_rfl)

def Zl0 (H0 H:Hp):Res:=CXgC 72 55 (sub (Za0 Tryz.f72) [1,1,1,1]) (retL cfg 55 72 Tryz.f72 H0) [] H
def ZcE (H0:Hp):KL:=seqL (fun k al H=>CXgC 72 55 (sub (Za0 Tryz.f72) [1,1,1,1]) k (Za8 (cfg.keep 72) (sub (Za0 Tryz.f72) [1,1,1,1]) al) H) (retL cfg 55 72 Tryz.f72 H0)
theorem Zo4 (H0:Hp):Tame 55 (ZcE H0):=Zan (C:=cfg) (kp:=cfg.keep 72) (sub (Za0 Tryz.f72) [1,1,1,1]) (Zaq 72 Tryz.f72 H0)
def Zl2 (x2 x3 x4 x5 x26 x27 x28:AV) (H0 H:Hp):Res:=CXgC 72 55 (sub (Za0 Tryz.f72) [1,1,1,0,1,0,0,1,1,1]) (seqL (fun k al H=>LPgC 72 55 (sub (Za0 Tryz.f72) [1,1,1,0,1,0,0]) k (Za8 (cfg.keep 72) (sub (Za0 Tryz.f72) [1,1,1,0,1,0,0]) al) H) (Za4 0 (ZcE H0))) [(2,x2),(3,x3),(4,x4),(5,x5),(26,x26),(27,x27),(28,x28)] H
def Zuc (H0:Hp):KL:=seqL (fun k al H=>CXgC 72 55 (sub (Za0 Tryz.f72) [1,1,1,0,1,0,0,1,1,1]) k (Za8 (cfg.keep 72) (sub (Za0 Tryz.f72) [1,1,1,0,1,0,0,1,1,1]) al) H) (seqL (fun k al H=>LPgC 72 55 (sub (Za0 Tryz.f72) [1,1,1,0,1,0,0]) k (Za8 (cfg.keep 72) (sub (Za0 Tryz.f72) [1,1,1,0,1,0,0]) al) H) (Za4 0 (ZcE H0)))
def Ze5 (x2 x3 x4 x5 x10 x11 x26 x27 x28:AV) (H0 H:Hp):Res:=CXgC 72 55 (sub (Za0 Tryz.f72) [1,1,1,0,1,0,0,1,1,0,0,1,1,1]) (Za4 1 (Zuc H0)) [(2,x2),(3,x3),(4,x4),(5,x5),(10,x10),(11,x11),(26,x26),(27,x27),(28,x28)] H
def Zl1 (x2 x3 x4 x5 x26 x27 x28 x29:AV) (H0 H:Hp):Res:=CXgC 72 55 (sub (Za0 Tryz.f72) [1,1,1,0,1,0,0,1,1]) (seqL (fun k al H=>LPgC 72 55 (sub (Za0 Tryz.f72) [1,1,1,0,1,0,0]) k (Za8 (cfg.keep 72) (sub (Za0 Tryz.f72) [1,1,1,0,1,0,0]) al) H) (Za4 0 (ZcE H0))) [(2,x2),(3,x3),(4,x4),(5,x5),(26,x26),(27,x27),(28,x28),(29,x29)] H
def Ze6 (x2 x3 x4 x5 x26 x27 x28:AV) (H0 H:Hp):Res:=LPgC 72 55 (sub (Za0 Tryz.f72) [1,1,1,0,1,0,0]) (Za4 0 (ZcE H0)) [(2,x2),(3,x3),(4,x4),(5,x5),(26,x26),(27,x27),(28,x28)] H
def ZkZ (x2 x3 x4 x5:AV) (H0 H:Hp):Res:=CXgC 72 55 (sub (Za0 Tryz.f72) [1,1,1]) (retL cfg 55 72 Tryz.f72 H0) [(2,x2),(3,x3),(4,x4),(5,x5)] H
def Zlt (p0 p1 p2 p3:AV) (H:Hp):Res:=
 bnd (abox p0 H) fun r4=>
 bnd (abox p1 r4.2) fun r5=>
 bnd (Za2 true 5 r5.1 r5.2) fun t13=>
 bnd (Zaa ZcI [t13] r5.2) fun r14=>
 bnd (Zab 5 r5.1 r14.1 r14.2) fun r_5=>
 bnd (Za5 0 r5.1) fun t15=>
 bnd (Za2 false 1 t15 r_5.2) fun t16=>
 bnd (Zae (.slice 149) t16) fun t17=>
 bnd (ibin .eql t17 (.int .i64 0)) fun t18=>
 cnd t18
  (bnd (Za2 true 6 r4.1 r_5.2) fun t19=>
  bnd (Za5 2 r5.1) fun t20=>
  bnd (Za2 false 1 t20 r_5.2) fun t21=>
  bnd (Zaa ZdO [t19,t21,p2,p3] r_5.2) fun r24=>
  some (r24.1,r24.2))
  (ZkZ p2 p3 r4.1 r5.1 H r_5.2)
theorem Zqd (H0 H:Hp):Zl0 H0 H =
    some ((.int .i64 0),H):=(Za3 [4,6,10,13,14] _ _ _ _).trans (by kernel_rfl)
theorem Zqf (x2 x3 x4 x5 x26 x27 x28:AV) (H0 H:Hp):Zl2 x2 x3 x4 x5 x26 x27 x28 H0 H =
    bnd (ibin .add x28 (.int .i64 1)) fun t54=>
    Ze6 x2 x3 x4 x5 x26 x27 t54 H0 H:=(Za3 [4,6,10,13,14] _ _ _ _).trans (by kernel_rfl)
theorem Zqg (x2 x3 x4 x5 x10 x11 x26 x27 x28:AV) (H0 H:Hp):Ze5 x2 x3 x4 x5 x10 x11 x26 x27 x28 H0 H =
    frzK x4 H fun z4 z4H=>
    frzK x5 z4H fun z5 z5H=>
    frzK x10 z5H fun z10 z10H=>
    bnd (Zbj true 6 z4) fun t38=>
    bnd (Za2 true 5 z10 z10H) fun t41=>
    bnd (Za5 1 z5) fun t42=>
    bnd (Za2 false 1 t42 z10H) fun t43=>
    bnd (Zef [x2,t41,t43] z10H) fun r44=>
    bnd (Zbj true 5 z10) fun t46=>
    bnd (Za5 1 z5) fun t47=>
    bnd (Zbj false 1 t47) fun t48=>
    bnd (Zef [x3,t46,t48] r44.2) fun r49=>
    bnd (Zaa ZdO [t38,x11,r44.1,r49.1] r49.2) fun r50=>
    bnd (ibin .neq r50.1 (.int .i64 0)) fun t52=>
    cnd t52
     (some (r50.1,r50.2))
     (Zl2 x2 x3 z4 z5 x26 x27 x28 H0 r50.2):=(Za3 [4,6,10,13,14] _ _ _ _).trans (by kernel_rfl)
theorem Zqe (x2 x3 x4 x5 x26 x27 x28 x29:AV) (H0 H:Hp):Zl1 x2 x3 x4 x5 x26 x27 x28 x29 H0 H =
    bnd (Zaf 5 x26 x28) fun t30=>
    bnd (Za2 true 5 t30 H) fun t31=>
    bnd (some ((.ptr H.length 0),H++[.cells [(.int .i64 0),(.int .i64 0),(.int .i64 0),(.int .i64 0),(.int .i64 0)]])) fun r10=>
    bnd (Zab 5 r10.1 t31 r10.2) fun r_14=>
    bnd (Za5 4 r10.1) fun t32=>
    bnd (Za2 false 1 t32 r_14.2) fun t33=>
    bnd (ibin .eql t33 (.int .i64 0)) fun t35=>
    cnd t35
     (bnd (Za5 2 x5) fun t36=>
     bnd (Za2 false 1 t36 r_14.2) fun t37=>
     Ze5 x2 x3 x4 x5 r10.1 t37 x26 x27 x28 H0 r_14.2)
     (Ze5 x2 x3 x4 x5 r10.1 t33 x26 x27 x28 H0 r_14.2):=(Za3 [4,6,10,13,14] _ _ _ _).trans (by kernel_rfl)
theorem Zio (x2 x3 x4 x5 x26 x27 x28:AV) (H0 H:Hp):Ze6 x2 x3 x4 x5 x26 x27 x28 H0 H =
    bnd (ibin .lss x28 x27) fun t29=>
    cnd t29
     (Zl1 x2 x3 x4 x5 x26 x27 x28 t29 H0 H)
     (Zl0 H0 H):=(Zar (C:=cfg) [4,6,10,13,14] (Zag 0 (Zo4 H0)) _ _).trans (by kernel_rfl)
theorem Zqc (x2 x3 x4 x5:AV) (H0 H:Hp):ZkZ x2 x3 x4 x5 H0 H =
    bnd (Za5 0 x5) fun t25=>
    bnd (Za2 false 1 t25 H) fun t26=>
    bnd (Zae (.slice 149) t26) fun t27=>
    Ze6 x2 x3 x4 x5 t26 t27 (.int .i64 0) H0 H:=(Za3 [4,6,10,13,14] _ _ _ _).trans (by kernel_rfl)
theorem Zqq (p0 p1 p2 p3:AV) (H:Hp):Zce [p0,p1,p2,p3] H=Zlt p0 p1 p2 p3 H:=(Za9 (C:=cfg) (fn:=Tryz.f72) (c:=Za0 Tryz.f72) (n:=55) [4,6,10,13,14] Tryz.func72 (by kernel_rfl) (by kernel_rfl) [p0,p1,p2,p3] (by kernel_rfl) H).trans (by kernel_rfl)

def ZnB (x1 x2:AV) (H0 H:Hp):Res:=CXgC 105 8 (sub (Za0 Tryz.f105) [1,1]) (retL cfg 8 105 Tryz.f105 H0) [(1,x1),(2,x2)] H
def ZiF (p0:AV) (H:Hp):Res:=
 bnd (abox p0 H) fun r1=>
 bnd (some ((.ptr r1.2.length 0),r1.2++[.cells [.nils,(.int .i64 0),(.int .i64 0),(.bool false),(.bool false)]])) fun r2=>
 bnd (Za2 true 5 r1.1 r2.2) fun t3=>
 bnd (Zaa ZcG [t3] r2.2) fun r4=>
 bnd (ibin .neq r4.1 (.int .i64 0)) fun t5=>
 cnd t5
  (bnd ((Zbq [(1,1,(.int .i64 (-1)))] [.nils,(.int .i64 0),(.int .i64 0),(.bool false),(.bool false)]).map .agg) fun t6=>
  bnd (Zab 5 r2.1 t6 r4.2) fun r_10=>
  bnd (Za2 true 5 r2.1 r_10.2) fun v2=>
  some (v2,r_10.2))
  (ZnB r1.1 r2.1 H r4.2)
theorem ZsI (x1 x2:AV) (H0 H:Hp):ZnB x1 x2 H0 H =
    bnd (Za2 true 5 x1 H) fun t7=>
    bnd (Zab 5 x2 t7 H) fun r_4=>
    bnd (Za2 true 5 x2 r_4.2) fun v2=>
    some (v2,r_4.2):=(Za3 [3] _ _ _ _).trans (by kernel_rfl)
theorem ZkA (p0:AV) (H:Hp):ZcI [p0] H=ZiF p0 H:=(Za9 (C:=cfg) (fn:=Tryz.f105) (c:=Za0 Tryz.f105) (n:=8) [3] Tryz.func105 (by kernel_rfl) (by kernel_rfl) [p0] (by kernel_rfl) H).trans (by kernel_rfl)

def ZlG (x1 x2:AV) (H0 H:Hp):Res:=CXgC 106 60 (sub (Za0 Tryz.f106) [1,1,1,1,1,1,1]) (retL cfg 60 106 Tryz.f106 H0) [(1,x1),(2,x2)] H
def ZlF (x1 x2 x8 x9:AV) (H0 H:Hp):Res:=CXgC 106 60 (sub (Za0 Tryz.f106) [1,1,1,1,1,1]) (retL cfg 60 106 Tryz.f106 H0) [(1,x1),(2,x2),(8,x8),(9,x9)] H
def ZlE (x1 x2 x8 x9:AV) (H0 H:Hp):Res:=CXgC 106 60 (sub (Za0 Tryz.f106) [1,1,1,1,1]) (retL cfg 60 106 Tryz.f106 H0) [(1,x1),(2,x2),(8,x8),(9,x9)] H
def ZcT (H0:Hp):KL:=seqL (fun k al H=>CXgC 106 60 (sub (Za0 Tryz.f106) [1,1,1,1,1]) k (Za8 (cfg.keep 106) (sub (Za0 Tryz.f106) [1,1,1,1,1]) al) H) (retL cfg 60 106 Tryz.f106 H0)
theorem Zpl (H0:Hp):Tame 60 (ZcT H0):=Zan (C:=cfg) (kp:=cfg.keep 106) (sub (Za0 Tryz.f106) [1,1,1,1,1]) (Zaq 106 Tryz.f106 H0)
def ZlI (x1 x2 x8 x9 x24 x25:AV) (H0 H:Hp):Res:=CXgC 106 60 (sub (Za0 Tryz.f106) [1,1,1,1,0,1,0,0,1,1,1]) (seqL (fun k al H=>LPgC 106 60 (sub (Za0 Tryz.f106) [1,1,1,1,0,1,0,0]) k (Za8 (cfg.keep 106) (sub (Za0 Tryz.f106) [1,1,1,1,0,1,0,0]) al) H) (Za4 0 (ZcT H0))) [(1,x1),(2,x2),(8,x8),(9,x9),(24,x24),(25,x25)] H
def ZuT (H0:Hp):KL:=seqL (fun k al H=>CXgC 106 60 (sub (Za0 Tryz.f106) [1,1,1,1,0,1,0,0,1,1,1]) k (Za8 (cfg.keep 106) (sub (Za0 Tryz.f106) [1,1,1,1,0,1,0,0,1,1,1]) al) H) (seqL (fun k al H=>LPgC 106 60 (sub (Za0 Tryz.f106) [1,1,1,1,0,1,0,0]) k (Za8 (cfg.keep 106) (sub (Za0 Tryz.f106) [1,1,1,1,0,1,0,0]) al) H) (Za4 0 (ZcT H0)))
def ZlJ (x1 x2 x8 x9 x10 x24 x25:AV) (H0 H:Hp):Res:=CXgC 106 60 (sub (Za0 Tryz.f106) [1,1,1,1,0,1,0,0,1,1,0,0,1,1]) (Za4 1 (ZuT H0)) [(1,x1),(2,x2),(8,x8),(9,x9),(10,x10),(24,x24),(25,x25)] H
def ZlH (x1 x2 x8 x9 x24 x25 x26:AV) (H0 H:Hp):Res:=CXgC 106 60 (sub (Za0 Tryz.f106) [1,1,1,1,0,1,0,0,1,1]) (seqL (fun k al H=>LPgC 106 60 (sub (Za0 Tryz.f106) [1,1,1,1,0,1,0,0]) k (Za8 (cfg.keep 106) (sub (Za0 Tryz.f106) [1,1,1,1,0,1,0,0]) al) H) (Za4 0 (ZcT H0))) [(1,x1),(2,x2),(8,x8),(9,x9),(24,x24),(25,x25),(26,x26)] H
def Zel (x1 x2 x8 x9 x24 x25:AV) (H0 H:Hp):Res:=LPgC 106 60 (sub (Za0 Tryz.f106) [1,1,1,1,0,1,0,0]) (Za4 0 (ZcT H0)) [(1,x1),(2,x2),(8,x8),(9,x9),(24,x24),(25,x25)] H
def ZmC (p0 p1 p2:AV) (H:Hp):Res:=
 bnd (abox p0 H) fun r3=>
 bnd (Za2 true 6 r3.1 r3.2) fun t11=>
 bnd (Zaa Zd7 [t11] r3.2) fun r12=>
 bnd (Zab 6 r3.1 r12.1 r12.2) fun r_4=>
 frzK r3.1 r_4.2 fun z3 z3H=>
 bnd (some (.fn (.func 148) [] [z3])) fun t13=>
 bnd (ZbF cfg (Za7 cfg) t13 [p1] z3H) fun r16=>
 bnd (Zb0 cfg (Za7 cfg) t13 [p2] r16.2) fun r19=>
 bnd (Zae (.slice 3) r16.1) fun t21=>
 bnd (Zae (.slice 3) r19.1) fun t23=>
 bnd (ZdQ t21 t23) fun t24=>
 Zel p1 p2 r16.1 r19.1 t24 (.int .i64 0) H r19.2
theorem Zr5 (x1 x2:AV) (H0 H:Hp):ZlG x1 x2 H0 H =
    bnd (Zaa Zh4 [x1,x2] H) fun r59=>
    some (r59.1,r59.2):=(Za3 [6,9,11,12,14,16] _ _ _ _).trans (by kernel_rfl)
theorem Zr4 (x1 x2 x8 x9:AV) (H0 H:Hp):ZlF x1 x2 x8 x9 H0 H =
    bnd (Zae (.slice 3) x8) fun t53=>
    bnd (Zae (.slice 3) x9) fun t55=>
    bnd (ibin .gtr t53 t55) fun t56=>
    cnd t56
     (some ((.int .i64 1),H))
     (ZlG x1 x2 H0 H):=(Za3 [6,9,11,12,14,16] _ _ _ _).trans (by kernel_rfl)
theorem Zr3 (x1 x2 x8 x9:AV) (H0 H:Hp):ZlE x1 x2 x8 x9 H0 H =
    bnd (Zae (.slice 3) x8) fun t48=>
    bnd (Zae (.slice 3) x9) fun t50=>
    bnd (ibin .lss t48 t50) fun t51=>
    cnd t51
     (some ((.int .i64 (-1)),H))
     (ZlF x1 x2 x8 x9 H0 H):=(Za3 [6,9,11,12,14,16] _ _ _ _).trans (by kernel_rfl)
theorem Zr7 (x1 x2 x8 x9 x24 x25:AV) (H0 H:Hp):ZlI x1 x2 x8 x9 x24 x25 H0 H =
    bnd (ibin .add x25 (.int .i64 1)) fun t46=>
    Zel x1 x2 x8 x9 x24 t46 H0 H:=(Za3 [6,9,11,12,14,16] _ _ _ _).trans (by kernel_rfl)
theorem Zr8 (x1 x2 x8 x9 x10 x24 x25:AV) (H0 H:Hp):ZlJ x1 x2 x8 x9 x10 x24 x25 H0 H =
    bnd (Zaf 1 x8 x10) fun t39=>
    bnd (Za2 false 1 t39 H) fun t40=>
    bnd (Zaf 1 x9 x10) fun t43=>
    bnd (Za2 false 1 t43 H) fun t44=>
    bnd (ibin .gtr t40 t44) fun t45=>
    cnd t45
     (some ((.int .i64 1),H))
     (ZlI x1 x2 x8 x9 x24 x25 H0 H):=(Za3 [6,9,11,12,14,16] _ _ _ _).trans (by kernel_rfl)
theorem Zr6 (x1 x2 x8 x9 x24 x25 x26:AV) (H0 H:Hp):ZlH x1 x2 x8 x9 x24 x25 x26 H0 H =
    bnd (Zaf 1 x8 x25) fun t30=>
    bnd (Za2 false 1 t30 H) fun t31=>
    bnd (Zaf 1 x9 x25) fun t34=>
    bnd (Za2 false 1 t34 H) fun t35=>
    bnd (ibin .lss t31 t35) fun t36=>
    cnd t36
     (some ((.int .i64 (-1)),H))
     (ZlJ x1 x2 x8 x9 x25 x24 x25 H0 H):=(Za3 [6,9,11,12,14,16] _ _ _ _).trans (by kernel_rfl)
theorem Zjd (x1 x2 x8 x9 x24 x25:AV) (H0 H:Hp):Zel x1 x2 x8 x9 x24 x25 H0 H =
    bnd (ibin .lss x25 x24) fun t26=>
    cnd t26
     (ZlH x1 x2 x8 x9 x24 x25 t26 H0 H)
     (ZlE x1 x2 x8 x9 H0 H):=(Zar (C:=cfg) [6,9,11,12,14,16] (Zag 0 (Zpl H0)) _ _).trans (by kernel_rfl)
theorem Zs6 (p0 p1 p2:AV) (H:Hp):Zdb [p0,p1,p2] H=ZmC p0 p1 p2 H:=(Za9 (C:=cfg) (fn:=Tryz.f106) (c:=Za0 Tryz.f106) (n:=60) [6,9,11,12,14,16] Tryz.func106 (by kernel_rfl) (by kernel_rfl) [p0,p1,p2] (by kernel_rfl) H).trans (by kernel_rfl)

def Zid (x4 x5 x6 x7 x9:AV) (H0 H:Hp):Res:=CXgC 107 50 (sub (Za0 Tryz.f107) [1,1,1,1]) (retL cfg 50 107 Tryz.f107 H0) [(4,x4),(5,x5),(6,x6),(7,x7),(9,x9)] H
def Zfd (x4 x5 x6 x7 x9:AV) (H0 H:Hp):Res:=CXgC 107 50 (sub (Za0 Tryz.f107) [1,1,1]) (retL cfg 50 107 Tryz.f107 H0) [(4,x4),(5,x5),(6,x6),(7,x7),(9,x9)] H
def Zod (p0 p1 p2 p3:AV) (H:Hp):Res:=
 bnd (abox p0 H) fun r4=>
 bnd (abox p1 r4.2) fun r5=>
 bnd (abox p2 r5.2) fun r6=>
 bnd (abox p3 r6.2) fun r7=>
 bnd (Za2 false 1 r5.1 r7.2) fun t15=>
 bnd (ibin .and t15 (.int .i64 2)) fun t16=>
 bnd (ibin .neq t16 (.int .i64 0)) fun t17=>
 cnd t17
  (Zfd r4.1 r5.1 r6.1 r7.1 (.int .i64 (-1)) H r7.2)
  (Zfd r4.1 r5.1 r6.1 r7.1 (.int .i64 1) H r7.2)
theorem ZsH (x4 x5 x6 x7 x9:AV) (H0 H:Hp):Zid x4 x5 x6 x7 x9 H0 H =
    bnd (some (.fn (.func 154) [] [x5,x6,x7])) fun t36=>
    bnd (Zb0 cfg (Za7 cfg) t36 [(.int .i64 8),(.fn (.func 155) [] [])] H) fun r38=>
    bnd (Zb0 cfg (Za7 cfg) t36 [(.int .i64 16),(.fn (.func 157) [] [])] r38.2) fun r40=>
    frzK x4 r40.2 fun z4 z4H=>
    bnd (some (.fn (.func 158) [] [z4])) fun t42=>
    bnd (Zb0 cfg (Za7 cfg) t36 [(.int .i64 4),t42] z4H) fun r43=>
    bnd (Za2 true 6 z4 r43.2) fun t45=>
    bnd (Za2 false 1 x6 r43.2) fun t46=>
    bnd (Za2 false 1 x7 r43.2) fun t47=>
    bnd (Zaa Zdb [t45,t46,t47] r43.2) fun r48=>
    bnd (ibin .mul x9 r48.1) fun t49=>
    some (t49,r48.2):=(Za3 [4,8] _ _ _ _).trans (by kernel_rfl)
theorem ZsG (x4 x5 x6 x7 x9:AV) (H0 H:Hp):Zfd x4 x5 x6 x7 x9 H0 H =
    bnd (Za2 false 1 x5 H) fun t18=>
    bnd (ibin .and t18 (.int .i64 1)) fun t19=>
    bnd (ibin .neq t19 (.int .i64 0)) fun t20=>
    cnd t20
     (bnd (Za2 false 1 x6 H) fun t22=>
     bnd (Zaa ZeK [t22] H) fun r23=>
     bnd (aext r23.1 0) fun t24=>
     bnd (aext r23.1 1) fun t25=>
     bnd (Za2 false 1 x7 r23.2) fun t27=>
     bnd (Zaa ZeK [t27] r23.2) fun r28=>
     bnd (aext r28.1 0) fun t29=>
     bnd (aext r28.1 1) fun t30=>
     bnd (Zaa Zk0 [t24,t29] r28.2) fun r34=>
     bnd (ibin .mul x9 r34.1) fun t35=>
     some (t35,r34.2))
     (Zid x4 x5 x6 x7 x9 H0 H):=(Za3 [4,8] _ _ _ _).trans (by kernel_rfl)
theorem Zt6 (p0 p1 p2 p3:AV) (H:Hp):ZdO [p0,p1,p2,p3] H=Zod p0 p1 p2 p3 H:=(Za9 (C:=cfg) (fn:=Tryz.f107) (c:=Za0 Tryz.f107) (n:=50) [4,8] Tryz.func107 (by kernel_rfl) (by kernel_rfl) [p0,p1,p2,p3] (by kernel_rfl) H).trans (by kernel_rfl)

def ZrG (H0 H:Hp):Res:=CXgC 127 59 (sub (Za0 Tryz.f127) [1,1,1]) (retL cfg 59 127 Tryz.f127 H0) [] H
def ZhT (H0:Hp):KL:=seqL (fun k al H=>CXgC 127 59 (sub (Za0 Tryz.f127) [1,1,1]) k (Za8 (cfg.keep 127) (sub (Za0 Tryz.f127) [1,1,1]) al) H) (retL cfg 59 127 Tryz.f127 H0)
theorem Ztm (H0:Hp):Tame 59 (ZhT H0):=Zan (C:=cfg) (kp:=cfg.keep 127) (sub (Za0 Tryz.f127) [1,1,1]) (Zaq 127 Tryz.f127 H0)
def Zle (x0 x3:AV) (H0 H:Hp):Res:=CXgC 127 59 (sub (Za0 Tryz.f127) [1,1,0,1,0,0,1,1]) (seqL (fun k al H=>LPgC 127 59 (sub (Za0 Tryz.f127) [1,1,0,1,0,0]) k (Za8 (cfg.keep 127) (sub (Za0 Tryz.f127) [1,1,0,1,0,0]) al) H) (Za4 0 (ZhT H0))) [(0,x0),(3,x3)] H
def Zld (x0 x3:AV) (H0 H:Hp):Res:=CXgC 127 59 (sub (Za0 Tryz.f127) [1,1,0,1,0,0,1]) (seqL (fun k al H=>LPgC 127 59 (sub (Za0 Tryz.f127) [1,1,0,1,0,0]) k (Za8 (cfg.keep 127) (sub (Za0 Tryz.f127) [1,1,0,1,0,0]) al) H) (Za4 0 (ZhT H0))) [(0,x0),(3,x3)] H
def ZhU (x0 x3:AV) (H0 H:Hp):Res:=LPgC 127 59 (sub (Za0 Tryz.f127) [1,1,0,1,0,0]) (Za4 0 (ZhT H0)) [(0,x0),(3,x3)] H
def ZrF (x0:AV) (H0 H:Hp):Res:=CXgC 127 59 (sub (Za0 Tryz.f127) [1,1]) (retL cfg 59 127 Tryz.f127 H0) [(0,x0)] H
def ZsT (p0:AV) (H:Hp):Res:=
 bnd (Zae .string p0) fun t6=>
 bnd (ibin .eql t6 (.int .i64 0)) fun t7=>
 bnd (gdv t7 false (.tuple []) (some p0)) fun t9=>
 bnd (gdv t7 false (.tuple []) (Zae .string t9)) fun t10=>
 bnd (gdv t7 false (.tuple []) (ibin .gtr t10 (.int .i64 32))) fun t11=>
 bnd (Zad t7 (.bool true) t11) fun t12=>
 bnd (gdv t12 false (.tuple []) (some p0)) fun t14=>
 bnd (gdv t12 false (.tuple []) (Zal t14 (.int .i64 0))) fun t15=>
 bnd (gdv t12 false (.tuple []) (ibin .geq t15 (.int .u8 48))) fun t16=>
 bnd (gdv t12 false (.tuple []) (some t16)) fun t17=>
 bnd (gdv t17 true (.tuple []) (some p0)) fun t18=>
 bnd (gdv t17 true (.tuple []) (Zal t18 (.int .i64 0))) fun t19=>
 bnd (gdv t17 true (.tuple []) (ibin .leq t19 (.int .u8 57))) fun t20=>
 bnd (gdv t12 false (.tuple []) (Zad t17 t20 (.bool false))) fun t21=>
 bnd (Zad t12 (.bool true) t21) fun t22=>
 cnd t22
  (some ((.bool false),H))
  (ZrF p0 H H)
theorem ZvD (H0 H:Hp):ZrG H0 H =
    some ((.bool true),H):=(Za3 [3,5,6,9] _ _ _ _).trans (by kernel_rfl)
theorem ZvF (x0 x3:AV) (H0 H:Hp):Zle x0 x3 H0 H =
    bnd (ibin .add x3 (.int .i64 1)) fun t28=>
    ZhU x0 t28 H0 H:=(Za3 [3,5,6,9] _ _ _ _).trans (by kernel_rfl)
theorem ZvE (x0 x3:AV) (H0 H:Hp):Zld x0 x3 H0 H =
    bnd (Zal x0 x3) fun t31=>
    bnd (ibin .geq t31 (.int .u8 97)) fun t33=>
    bnd (gdv t33 true (.tuple []) (some t31)) fun t35=>
    bnd (gdv t33 true (.tuple []) (ibin .leq t35 (.int .u8 122))) fun t36=>
    bnd (Zad t33 t36 (.bool false)) fun t37=>
    bnd (gdv t37 false (.tuple []) (some t31)) fun t39=>
    bnd (gdv t37 false (.tuple []) (ibin .geq t39 (.int .u8 65))) fun t40=>
    bnd (gdv t37 false (.tuple []) (some t40)) fun t41=>
    bnd (gdv t41 true (.tuple []) (some t31)) fun t42=>
    bnd (gdv t41 true (.tuple []) (ibin .leq t42 (.int .u8 90))) fun t43=>
    bnd (gdv t37 false (.tuple []) (Zad t41 t43 (.bool false))) fun t44=>
    bnd (Zad t37 (.bool true) t44) fun t45=>
    bnd (gdv t45 false (.tuple []) (some t31)) fun t47=>
    bnd (gdv t45 false (.tuple []) (ibin .geq t47 (.int .u8 48))) fun t48=>
    bnd (gdv t45 false (.tuple []) (some t48)) fun t49=>
    bnd (gdv t49 true (.tuple []) (some t31)) fun t50=>
    bnd (gdv t49 true (.tuple []) (ibin .leq t50 (.int .u8 57))) fun t51=>
    bnd (gdv t45 false (.tuple []) (Zad t49 t51 (.bool false))) fun t52=>
    bnd (Zad t45 (.bool true) t52) fun t53=>
    bnd (gdv t53 false (.tuple []) (some t31)) fun t55=>
    bnd (gdv t53 false (.tuple []) (ibin .eql t55 (.int .u8 95))) fun t56=>
    bnd (Zad t53 (.bool true) t56) fun t57=>
    bnd (aun .not t57) fun t58=>
    cnd t58
     (some ((.bool false),H))
     (Zle x0 x3 H0 H):=(Za3 [3,5,6,9] _ _ _ _).trans (by kernel_rfl)
theorem ZmS (x0 x3:AV) (H0 H:Hp):ZhU x0 x3 H0 H =
    bnd (Zae .string x0) fun t25=>
    bnd (ibin .lss x3 t25) fun t26=>
    cnd t26
     (Zld x0 x3 H0 H)
     (ZrG H0 H):=(Zar (C:=cfg) [3,5,6,9] (Zag 0 (Ztm H0)) _ _).trans (by kernel_rfl)
theorem ZvC (x0:AV) (H0 H:Hp):ZrF x0 H0 H =
    ZhU x0 (.int .i64 0) H0 H:=(Za3 [3,5,6,9] _ _ _ _).trans (by kernel_rfl)
theorem Zwl (p0:AV) (H:Hp):ZfP [p0] H=ZsT p0 H:=(Za9 (C:=cfg) (fn:=Tryz.f127) (c:=Za0 Tryz.f127) (n:=59) [3,5,6,9] Tryz.func127 (by kernel_rfl) (by kernel_rfl) [p0] (by kernel_rfl) H).trans (by kernel_rfl)

def ZoL (x1 x2:AV) (H0 H:Hp):Res:=CXgC 147 16 (sub (Za0 Tryz.f147) [1,1]) (retL cfg 16 147 Tryz.f147 H0) [(1,x1),(2,x2)] H
def Zk1 (p0:AV) (H:Hp):Res:=
 bnd (abox p0 H) fun r1=>
 bnd (some ((.ptr r1.2.length 0),r1.2++[.cells [(.str []),.nils,(.str []),(.str []),.nils,.nils]])) fun r2=>
 bnd (Za2 true 6 r1.1 r2.2) fun t4=>
 bnd (Zaa Zgc [t4] r2.2) fun r5=>
 bnd (ibin .neq r5.1 (.int .i64 0)) fun t6=>
 cnd t6
  (bnd (Zaa Zmw [] r5.2) fun r7=>
  bnd (Zab 6 r2.1 r7.1 r7.2) fun r_16=>
  bnd (Za2 true 6 r2.1 r_16.2) fun v2=>
  some (v2,r_16.2))
  (ZoL r1.1 r2.1 H r5.2)
theorem Zu3 (x1 x2:AV) (H0 H:Hp):ZoL x1 x2 H0 H =
    bnd (Zgj 1 8 false (.int .i64 0) (.int .i64 256) (.int .i64 256) H) fun r8=>
    bnd (Za5 1 x1) fun t10=>
    bnd (Za2 false 1 t10 r8.2) fun t11=>
    bnd (Zon 1 r8.1 t11 r8.2) fun r12=>
    bnd (Za5 1 x1) fun t14=>
    bnd (Zab 1 t14 r8.1 r12.2) fun r_8=>
    bnd (Za2 true 6 x1 r_8.2) fun t15=>
    bnd (Zab 6 x2 t15 r_8.2) fun r_10=>
    bnd (Za2 true 6 x2 r_10.2) fun v2=>
    some (v2,r_10.2):=(Za3 [3] _ _ _ _).trans (by kernel_rfl)
theorem Zls (p0:AV) (H:Hp):Zd7 [p0] H=Zk1 p0 H:=(Za9 (C:=cfg) (fn:=Tryz.f147) (c:=Za0 Tryz.f147) (n:=16) [3] Tryz.func147 (by kernel_rfl) (by kernel_rfl) [p0] (by kernel_rfl) H).trans (by kernel_rfl)

def Zkx (p0 p1:AV) (H:Hp):Res:=
 bnd (some ((.ptr H.length 0),H++[.cells [.nils]])) fun r4=>
 bnd (Za2 true 6 p1 r4.2) fun t5=>
 bnd (some (.fn (.func 150) [] [r4.1])) fun t7=>
 bnd (Zl9 [t5,p0,t7] r4.2) fun r8=>
 bnd (Za2 false 1 r4.1 r8.2) fun t9=>
 some (t9,r8.2)
theorem ZpF (p0 p1:AV) (H:Hp):ZdM [p0,p1] H=Zkx p0 p1 H:=(Za9 (C:=cfg) (fn:=Tryz.f148) (c:=Za0 Tryz.f148) (n:=10) [] Tryz.func148 (by kernel_rfl) (by kernel_rfl) [p0,p1] (by kernel_rfl) H).trans (by kernel_rfl)

def Zq4 (x1 x2 x3 x6 x9 x10:AV) (H0 H:Hp):Res:=CXgC 149 75 (sub (Za0 Tryz.f149) [1,1,1,1,0,0,1,0,1,1,1]) (Za4 3 (seqL (fun k al H=>LPgC 149 75 (sub (Za0 Tryz.f149) [1,1,1,1,0,0]) k (Za8 (cfg.keep 149) (sub (Za0 Tryz.f149) [1,1,1,1,0,0]) al) H) (Za4 2 (retL cfg 75 149 Tryz.f149 H0)))) [(1,x1),(2,x2),(3,x3),(6,x6),(9,x9),(10,x10)] H
def Zez (x1 x2 x3 x6 x9 x10 x11:AV) (H0 H:Hp):Res:=CXgC 149 75 (sub (Za0 Tryz.f149) [1,1,1,1,0,0,1,0,1,1]) (Za4 3 (seqL (fun k al H=>LPgC 149 75 (sub (Za0 Tryz.f149) [1,1,1,1,0,0]) k (Za8 (cfg.keep 149) (sub (Za0 Tryz.f149) [1,1,1,1,0,0]) al) H) (Za4 2 (retL cfg 75 149 Tryz.f149 H0)))) [(1,x1),(2,x2),(3,x3),(6,x6),(9,x9),(10,x10),(11,x11)] H
def Zq3 (x1 x2 x3 x6 x9:AV) (H0 H:Hp):Res:=CXgC 149 75 (sub (Za0 Tryz.f149) [1,1,1,1,0,0,1]) (seqL (fun k al H=>LPgC 149 75 (sub (Za0 Tryz.f149) [1,1,1,1,0,0]) k (Za8 (cfg.keep 149) (sub (Za0 Tryz.f149) [1,1,1,1,0,0]) al) H) (Za4 2 (retL cfg 75 149 Tryz.f149 H0))) [(1,x1),(2,x2),(3,x3),(6,x6),(9,x9)] H
def Zgr (x1 x2 x3 x6 x9:AV) (H0 H:Hp):Res:=LPgC 149 75 (sub (Za0 Tryz.f149) [1,1,1,1,0,0]) (Za4 2 (retL cfg 75 149 Tryz.f149 H0)) [(1,x1),(2,x2),(3,x3),(6,x6),(9,x9)] H
def Zkb (x1 x2 x3 x6:AV) (H0 H:Hp):Res:=CXgC 149 75 (sub (Za0 Tryz.f149) [1,1,1]) (retL cfg 75 149 Tryz.f149 H0) [(1,x1),(2,x2),(3,x3),(6,x6)] H
def Zgq (H0:Hp):KL:=seqL (fun k al H=>CXgC 149 75 (sub (Za0 Tryz.f149) [1,1,1]) k (Za8 (cfg.keep 149) (sub (Za0 Tryz.f149) [1,1,1]) al) H) (retL cfg 75 149 Tryz.f149 H0)
theorem Zsj (H0:Hp):Tame 75 (Zgq H0):=Zan (C:=cfg) (kp:=cfg.keep 149) (sub (Za0 Tryz.f149) [1,1,1]) (Zaq 149 Tryz.f149 H0)
def Zq6 (x1 x2 x3 x6 x16 x17 x18:AV) (H0 H:Hp):Res:=CXgC 149 75 (sub (Za0 Tryz.f149) [1,1,0,1,0,0,1,1,1]) (seqL (fun k al H=>LPgC 149 75 (sub (Za0 Tryz.f149) [1,1,0,1,0,0]) k (Za8 (cfg.keep 149) (sub (Za0 Tryz.f149) [1,1,0,1,0,0]) al) H) (Za4 0 (Zgq H0))) [(1,x1),(2,x2),(3,x3),(6,x6),(16,x16),(17,x17),(18,x18)] H
def Zq5 (x1 x2 x3 x6 x16 x17 x18 x19:AV) (H0 H:Hp):Res:=CXgC 149 75 (sub (Za0 Tryz.f149) [1,1,0,1,0,0,1,1]) (seqL (fun k al H=>LPgC 149 75 (sub (Za0 Tryz.f149) [1,1,0,1,0,0]) k (Za8 (cfg.keep 149) (sub (Za0 Tryz.f149) [1,1,0,1,0,0]) al) H) (Za4 0 (Zgq H0))) [(1,x1),(2,x2),(3,x3),(6,x6),(16,x16),(17,x17),(18,x18),(19,x19)] H
def Zgs (x1 x2 x3 x6 x16 x17 x18:AV) (H0 H:Hp):Res:=LPgC 149 75 (sub (Za0 Tryz.f149) [1,1,0,1,0,0]) (Za4 0 (Zgq H0)) [(1,x1),(2,x2),(3,x3),(6,x6),(16,x16),(17,x17),(18,x18)] H
def Zry (p0 p1 p2:AV) (H:Hp):Res:=
 bnd (abox p0 H) fun r3=>
 bnd (some ((.map r3.2.length),r3.2++[.map [] 0])) fun r14=>
 bnd (Za5 5 r3.1) fun t15=>
 bnd (Za2 false 1 t15 r14.2) fun t16=>
 bnd (Zae (.slice 210) t16) fun t17=>
 Zgs p1 p2 r3.1 r14.1 t16 t17 (.int .i64 0) H r14.2
theorem ZlL (x1 x2 x3 x6 x9 x10:AV) (H0 H:Hp):Zq4 x1 x2 x3 x6 x9 x10 H0 H =
    bnd (Zae .string x10) fun t73=>
    bnd (ibin .add x9 t73) fun t74=>
    Zgr x1 x2 x3 x6 t74 H0 H:=(Za3 [4,6,7,9,14,15] _ _ _ _).trans (by kernel_rfl)
theorem ZlK (x1 x2 x3 x6 x9 x10 x11:AV) (H0 H:Hp):Zez x1 x2 x3 x6 x9 x10 x11 H0 H =
    bnd (Zb0 cfg (Za7 cfg) x2 [x10,x11] H) fun r69=>
    bnd (aun .not r69.1) fun t70=>
    cnd t70
     (some ((.tuple []),r69.2))
     (Zq4 x1 x2 x3 x6 x9 x10 H0 r69.2):=(Za3 [4,6,7,9,14,15] _ _ _ _).trans (by kernel_rfl)
theorem ZuV (x1 x2 x3 x6 x9:AV) (H0 H:Hp):Zq3 x1 x2 x3 x6 x9 H0 H =
    bnd (ibin .add x9 (.int .i64 1)) fun t35=>
    bnd (ZaL x1 (some x9) (some t35) none) fun t36=>
    bnd (Za5 1 x3) fun t37=>
    bnd (Za2 false 1 t37 H) fun t38=>
    bnd (Zal x1 x9) fun t41=>
    bnd (Zaf 1 t38 t41) fun t42=>
    bnd (Za2 false 1 t42 H) fun t43=>
    bnd (ibin .add x9 (.int .i64 2)) fun t45=>
    bnd (Zae .string x1) fun t47=>
    bnd (ibin .leq t45 t47) fun t48=>
    cnd t48
     (bnd (ibin .add x9 (.int .i64 2)) fun t54=>
     bnd (ZaL x1 (some x9) (some t54) none) fun t55=>
     bnd (ZaK .string (.int .i64 0) true x6 t55 H) fun t56=>
     bnd (aext t56 0) fun t57=>
     bnd (aext t56 1) fun t58=>
     cnd t58
      (bnd (ibin .add x9 (.int .i64 2)) fun t63=>
      bnd (ZaL x1 (some x9) (some t63) none) fun t64=>
      Zez x1 x2 x3 x6 x9 t64 t57 H0 H)
      (Zez x1 x2 x3 x6 x9 t36 t43 H0 H))
     (Zez x1 x2 x3 x6 x9 t36 t43 H0 H):=(Za3 [4,6,7,9,14,15] _ _ _ _).trans (by kernel_rfl)
theorem Zhc (x1 x2 x3 x6 x9:AV) (H0 H:Hp):Zgr x1 x2 x3 x6 x9 H0 H =
    bnd (Zae .string x1) fun t30=>
    bnd (ibin .lss x9 t30) fun t31=>
    cnd t31
     (Zq3 x1 x2 x3 x6 x9 H0 H)
     (some ((.tuple []),H)):=(Zar (C:=cfg) [4,6,7,9,14,15] (Zag 2 (Zaq 149 Tryz.f149 H0)) _ _).trans (by kernel_rfl)
theorem ZuU (x1 x2 x3 x6:AV) (H0 H:Hp):Zkb x1 x2 x3 x6 H0 H =
    Zgr x1 x2 x3 x6 (.int .i64 0) H0 H:=(Za3 [4,6,7,9,14,15] _ _ _ _).trans (by kernel_rfl)
theorem ZuX (x1 x2 x3 x6 x16 x17 x18:AV) (H0 H:Hp):Zq6 x1 x2 x3 x6 x16 x17 x18 H0 H =
    bnd (ibin .add x18 (.int .i64 1)) fun t27=>
    Zgs x1 x2 x3 x6 x16 x17 t27 H0 H:=(Za3 [4,6,7,9,14,15] _ _ _ _).trans (by kernel_rfl)
theorem ZuW (x1 x2 x3 x6 x16 x17 x18 x19:AV) (H0 H:Hp):Zq5 x1 x2 x3 x6 x16 x17 x18 x19 H0 H =
    bnd (Zaf 2 x16 x18) fun t20=>
    bnd (Za2 true 2 t20 H) fun t21=>
    bnd (some ((.ptr H.length 0),H++[.cells [(.str []),(.int .i64 0)]])) fun r8=>
    bnd (Zab 2 r8.1 t21 r8.2) fun r_34=>
    bnd (Za5 0 r8.1) fun t23=>
    bnd (Za2 false 1 t23 r_34.2) fun t24=>
    bnd (Za5 1 r8.1) fun t25=>
    bnd (Za2 false 1 t25 r_34.2) fun t26=>
    bnd (ZbD .string x6 t24 t26 r_34.2) fun r_39=>
    Zq6 x1 x2 x3 x6 x16 x17 x18 H0 r_39.2:=(Za3 [4,6,7,9,14,15] _ _ _ _).trans (by kernel_rfl)
theorem ZlM (x1 x2 x3 x6 x16 x17 x18:AV) (H0 H:Hp):Zgs x1 x2 x3 x6 x16 x17 x18 H0 H =
    bnd (ibin .lss x18 x17) fun t19=>
    cnd t19
     (Zq5 x1 x2 x3 x6 x16 x17 x18 t19 H0 H)
     (Zkb x1 x2 x3 x6 H0 H):=(Zar (C:=cfg) [4,6,7,9,14,15] (Zag 0 (Zsj H0)) _ _).trans (by kernel_rfl)
theorem Zvx (p0 p1 p2:AV) (H:Hp):Zl9 [p0,p1,p2] H=Zry p0 p1 p2 H:=(Za9 (C:=cfg) (fn:=Tryz.f149) (c:=Za0 Tryz.f149) (n:=75) [4,6,7,9,14,15] Tryz.func149 (by kernel_rfl) (by kernel_rfl) [p0,p1,p2] (by kernel_rfl) H).trans (by kernel_rfl)

def ZiE (p0 p1 p2:AV) (H:Hp):Res:=
 bnd (Za2 false 1 p2 H) fun t6=>
 bnd ((Zau 1 [(0,p1)] [(.int .i64 0)]).map (.vs 1 .clip)) fun t8=>
 bnd (ZaH 1 8 t6 t8 H) fun r9=>
 bnd (Zab 1 p2 r9.1 r9.2) fun r_4=>
 some ((.bool true),r_4.2)
theorem ZnO (p0 p1 p2:AV) (H:Hp):ZeM [p0,p1,p2] H=ZiE p0 p1 p2 H:=(Za9 (C:=cfg) (fn:=Tryz.f150) (c:=Za0 Tryz.f150) (n:=10) [] Tryz.func150 (by kernel_rfl) (by kernel_rfl) [p0,p1,p2] (by kernel_rfl) H).trans (by kernel_rfl)

def Zly (p0 p1:AV) (H:Hp):Res:=
 bnd (Zaa ZbM [p0,p1] H) fun r7=>
 some (r7.1,r7.2)
theorem Zqv (p0 p1:AV) (H:Hp):Zh4 [p0,p1] H=Zly p0 p1 H:=(Za9 (C:=cfg) (fn:=Tryz.f151) (c:=Za0 Tryz.f151) (n:=8) [] Tryz.func151 (by kernel_rfl) (by kernel_rfl) [p0,p1] (by kernel_rfl) H).trans (by kernel_rfl)

def Zh9 (x9 x11:AV) (H0 H:Hp):Res:=CXgC 152 116 (sub (Za0 Tryz.f152) [1,1,1,1,1,1,1,1,1,1,1]) (retL cfg 116 152 Tryz.f152 H0) [(9,x9),(11,x11)] H
def Zh8 (x5 x7 x8 x9:AV) (H0 H:Hp):Res:=CXgC 152 116 (sub (Za0 Tryz.f152) [1,1,1,1,1,1,1,1,1]) (retL cfg 116 152 Tryz.f152 H0) [(5,x5),(7,x7),(8,x8),(9,x9)] H
def Zcf (x5 x6 x7 x8 x9:AV) (H0 H:Hp):Res:=CXgC 152 116 (sub (Za0 Tryz.f152) [1,1,1,1,1,1,1,1]) (retL cfg 116 152 Tryz.f152 H0) [(5,x5),(6,x6),(7,x7),(8,x8),(9,x9)] H
def Zeh (x0 x4 x5:AV) (H0 H:Hp):Res:=CXgC 152 116 (sub (Za0 Tryz.f152) [1,1,1,1,1]) (retL cfg 116 152 Tryz.f152 H0) [(0,x0),(4,x4),(5,x5)] H
def Zh7 (x0 x4:AV) (H0 H:Hp):Res:=CXgC 152 116 (sub (Za0 Tryz.f152) [1,1,1]) (retL cfg 116 152 Tryz.f152 H0) [(0,x0),(4,x4)] H
def Zha (H0:Hp):KL:=seqL (fun k al H=>CXgC 152 116 (sub (Za0 Tryz.f152) [1,1,1]) k (Za8 (cfg.keep 152) (sub (Za0 Tryz.f152) [1,1,1]) al) H) (retL cfg 116 152 Tryz.f152 H0)
theorem Zpf (H0:Hp):Tame 116 (Zha H0):=Zan (C:=cfg) (kp:=cfg.keep 152) (sub (Za0 Tryz.f152) [1,1,1]) (Zaq 152 Tryz.f152 H0)
def ZlB (x0 x4:AV) (H0 H:Hp):Res:=CXgC 152 116 (sub (Za0 Tryz.f152) [1,1,0,0,0,1]) (seqL (fun k al H=>LPgC 152 116 (sub (Za0 Tryz.f152) [1,1,0,0,0]) k (Za8 (cfg.keep 152) (sub (Za0 Tryz.f152) [1,1,0,0,0]) al) H) (Za4 0 (Zha H0))) [(0,x0),(4,x4)] H
def Zei (x0 x4:AV) (H0 H:Hp):Res:=LPgC 152 116 (sub (Za0 Tryz.f152) [1,1,0,0,0]) (Za4 0 (Zha H0)) [(0,x0),(4,x4)] H
def Zvv (p0:AV) (H:Hp):Res:=
 Zei p0 (.int .i64 0) H H
theorem Zj1 (x9 x11:AV) (H0 H:Hp):Zh9 x9 x11 H0 H =
    some ((.tuple [x11,x9]),H):=(Za3 [3,4,7,14,16,19] _ _ _ _).trans (by kernel_rfl)
theorem ZqR (x5 x7 x8 x9:AV) (H0 H:Hp):Zh8 x5 x7 x8 x9 H0 H =
    bnd (Zaa ZiB [x7,x8] H) fun r109=>
    bnd (ZdQ (.int .i64 10000000000000) r109.1) fun t110=>
    cnd x5
     (bnd (aun .neg t110) fun t113=>
     Zh9 x9 t113 H0 r109.2)
     (Zh9 x9 t110 H0 r109.2):=(Za3 [3,4,7,14,16,19] _ _ _ _).trans (by kernel_rfl)
theorem ZqQ (x5 x6 x7 x8 x9:AV) (H0 H:Hp):Zcf x5 x6 x7 x8 x9 H0 H =
    bnd (ibin .eql x6 (.int .i64 0)) fun t102=>
    bnd (gdv t102 true (.tuple []) (some x8)) fun t104=>
    bnd (gdv t102 true (.tuple []) (sbin .eql t104 (.str []))) fun t105=>
    bnd (Zad t102 t105 (.bool false)) fun t106=>
    cnd t106
     (some ((.tuple [(.int .i64 0),(.int .i64 0)]),H))
     (Zh8 x5 x7 x8 x9 H0 H):=(Za3 [3,4,7,14,16,19] _ _ _ _).trans (by kernel_rfl)
theorem ZqP (x0 x4 x5:AV) (H0 H:Hp):Zeh x0 x4 x5 H0 H =
    bnd (ZaL x0 (some x4) none none) fun t57=>
    bnd (Zaa ZeL [t57] H) fun r58=>
    bnd (ibin .add x4 r58.1) fun t63=>
    bnd (ZaL x0 (some x4) (some t63) none) fun t64=>
    bnd (ibin .add x4 r58.1) fun t67=>
    bnd (Zae .string x0) fun t70=>
    bnd (ibin .lss t67 t70) fun t71=>
    bnd (gdv t71 true (.tuple []) (some x0)) fun t73=>
    bnd (gdv t71 true (.tuple []) (some t67)) fun t74=>
    bnd (gdv t71 true (.tuple []) (Zal t73 t74)) fun t75=>
    bnd (gdv t71 true (.tuple []) (ibin .eql t75 (.int .u8 46))) fun t76=>
    bnd (Zad t71 t76 (.bool false)) fun t77=>
    cnd t77
     (bnd (ibin .add t67 (.int .i64 1)) fun t80=>
     bnd (ZaL x0 (some t80) none none) fun t81=>
     bnd (Zaa ZeL [t81] r58.2) fun r82=>
     bnd (ibin .gtr r58.1 (.int .i64 0)) fun t84=>
     bnd (gdv t84 false (.tuple []) (some r82.1)) fun t86=>
     bnd (gdv t84 false (.tuple []) (ibin .gtr t86 (.int .i64 0))) fun t87=>
     bnd (Zad t84 (.bool true) t87) fun t88=>
     cnd t88
      (bnd (ibin .add t67 (.int .i64 1)) fun t91=>
      bnd (ibin .add t67 (.int .i64 1)) fun t93=>
      bnd (ibin .add t93 r82.1) fun t95=>
      bnd (ZaL x0 (some t91) (some t95) none) fun t96=>
      bnd (ibin .add (.int .i64 1) r82.1) fun t99=>
      bnd (ibin .add t67 t99) fun t100=>
      Zcf x5 r58.1 t64 t96 t100 H0 r82.2)
      (Zcf x5 r58.1 t64 (.str []) t67 H0 r82.2))
     (Zcf x5 r58.1 t64 (.str []) t67 H0 r58.2):=(Za3 [3,4,7,14,16,19] _ _ _ _).trans (by kernel_rfl)
theorem ZqO (x0 x4:AV) (H0 H:Hp):Zh7 x0 x4 H0 H =
    bnd (Zae .string x0) fun t32=>
    bnd (ibin .lss x4 t32) fun t33=>
    bnd (gdv t33 true (.tuple []) (some x0)) fun t35=>
    bnd (gdv t33 true (.tuple []) (some x4)) fun t36=>
    bnd (gdv t33 true (.tuple []) (Zal t35 t36)) fun t37=>
    bnd (gdv t33 true (.tuple []) (ibin .eql t37 (.int .u8 45))) fun t38=>
    bnd (Zad t33 t38 (.bool false)) fun t39=>
    bnd (gdv t39 false (.tuple []) (some x4)) fun t42=>
    bnd (gdv t39 false (.tuple []) (some x0)) fun t43=>
    bnd (gdv t39 false (.tuple []) (Zae .string t43)) fun t44=>
    bnd (gdv t39 false (.tuple []) (ibin .lss t42 t44)) fun t45=>
    bnd (gdv t39 false (.tuple []) (some t45)) fun t46=>
    bnd (gdv t46 true (.tuple []) (some x0)) fun t47=>
    bnd (gdv t46 true (.tuple []) (some x4)) fun t48=>
    bnd (gdv t46 true (.tuple []) (Zal t47 t48)) fun t49=>
    bnd (gdv t46 true (.tuple []) (ibin .eql t49 (.int .u8 43))) fun t50=>
    bnd (gdv t39 false (.tuple []) (Zad t46 t50 (.bool false))) fun t51=>
    bnd (Zad t39 (.bool true) t51) fun t52=>
    cnd t52
     (bnd (ibin .add x4 (.int .i64 1)) fun t54=>
     Zeh x0 t54 t39 H0 H)
     (Zeh x0 x4 t39 H0 H):=(Za3 [3,4,7,14,16,19] _ _ _ _).trans (by kernel_rfl)
theorem Zj2 (x0 x4:AV) (H0 H:Hp):ZlB x0 x4 H0 H =
    bnd (ibin .add x4 (.int .i64 1)) fun t29=>
    Zei x0 t29 H0 H:=(Za3 [3,4,7,14,16,19] _ _ _ _).trans (by kernel_rfl)
theorem Zj3 (x0 x4:AV) (H0 H:Hp):Zei x0 x4 H0 H =
    bnd (Zae .string x0) fun t14=>
    bnd (ibin .lss x4 t14) fun t15=>
    bnd (gdv t15 true (.tuple []) (some x0)) fun t17=>
    bnd (gdv t15 true (.tuple []) (some x4)) fun t18=>
    bnd (gdv t15 true (.tuple []) (Zal t17 t18)) fun t19=>
    bnd (gdv t15 true (.tuple []) (ibin .eql t19 (.int .u8 32))) fun t20=>
    bnd (gdv t15 true (.tuple []) (some t20)) fun t21=>
    bnd (gdv t21 false (.tuple []) (some x0)) fun t22=>
    bnd (gdv t21 false (.tuple []) (some x4)) fun t23=>
    bnd (gdv t21 false (.tuple []) (Zal t22 t23)) fun t24=>
    bnd (gdv t21 false (.tuple []) (ibin .eql t24 (.int .u8 9))) fun t25=>
    bnd (gdv t15 true (.tuple []) (Zad t21 (.bool true) t25)) fun t26=>
    bnd (Zad t15 t26 (.bool false)) fun t27=>
    cnd t27
     (ZlB x0 x4 H0 H)
     (Zh7 x0 x4 H0 H):=(Zar (C:=cfg) [3,4,7,14,16,19] (Zag 0 (Zpf H0)) _ _).trans (by kernel_rfl)
theorem Zs4 (p0:AV) (H:Hp):ZeK [p0] H=Zvv p0 H:=(Za9 (C:=cfg) (fn:=Tryz.f152) (c:=Za0 Tryz.f152) (n:=116) [3,4,7,14,16,19] Tryz.func152 (by kernel_rfl) (by kernel_rfl) [p0] (by kernel_rfl) H).trans (by kernel_rfl)

def ZoR (H0 H:Hp):Res:=CXgC 153 13 (sub (Za0 Tryz.f153) [1,1]) (retL cfg 13 153 Tryz.f153 H0) [] H
def ZpL (p0 p1:AV) (H:Hp):Res:=
 bnd (ibin .lss p0 p1) fun t8=>
 cnd t8
  (some ((.int .i64 (-1)),H))
  (bnd (ibin .gtr p0 p1) fun t12=>
  cnd t12
   (some ((.int .i64 1),H))
   (ZoR H H))
theorem Zuf (H0 H:Hp):ZoR H0 H =
    some ((.int .i64 0),H):=(Za3 [5] _ _ _ _).trans (by kernel_rfl)
theorem ZuJ (p0 p1:AV) (H:Hp):Zk0 [p0,p1] H=ZpL p0 p1 H:=(Za9 (C:=cfg) (fn:=Tryz.f153) (c:=Za0 Tryz.f153) (n:=13) [5] Tryz.func153 (by kernel_rfl) (by kernel_rfl) [p0,p1] (by kernel_rfl) H).trans (by kernel_rfl)

def Zlv (p0 p1 p2 p3 p4:AV) (H:Hp):Res:=
 bnd (Za2 false 1 p2 H) fun t7=>
 bnd (ibin .and t7 p0) fun t9=>
 bnd (ibin .neq t9 (.int .i64 0)) fun t10=>
 cnd t10
  (bnd (Za2 false 1 p3 H) fun t12=>
  bnd (ZbF cfg (Za7 cfg) p1 [t12] H) fun r13=>
  bnd (Za2 false 1 p4 r13.2) fun t15=>
  bnd (ZbF cfg (Za7 cfg) p1 [t15] r13.2) fun r16=>
  bnd (Zab 1 p3 r13.1 r16.2) fun r_8=>
  bnd (Zab 1 p4 r16.1 r_8.2) fun r_9=>
  some ((.tuple []),r_9.2))
  (some ((.tuple []),H))
theorem Zqs (p0 p1 p2 p3 p4:AV) (H:Hp):Zh1 [p0,p1,p2,p3,p4] H=Zlv p0 p1 p2 p3 p4 H:=(Za9 (C:=cfg) (fn:=Tryz.f154) (c:=Za0 Tryz.f154) (n:=17) [] Tryz.func154 (by kernel_rfl) (by kernel_rfl) [p0,p1,p2,p3,p4] (by kernel_rfl) H).trans (by kernel_rfl)

def Zlw (p0:AV) (H:Hp):Res:=
 bnd (sumC ZuA [p0,(.str [32,9])] H) fun r4=>
 some (r4.1,r4.2)
theorem Zqt (p0:AV) (H:Hp):Zh2 [p0] H=Zlw p0 H:=(Za9 (C:=cfg) (fn:=Tryz.f155) (c:=Za0 Tryz.f155) (n:=5) [] Tryz.func155 (by kernel_rfl) (by kernel_rfl) [p0] (by kernel_rfl) H).trans (by kernel_rfl)

def ZoQ (x3:AV) (H0 H:Hp):Res:=CXgC 157 44 (sub (Za0 Tryz.f157) [1,1,1]) (retL cfg 44 157 Tryz.f157 H0) [(3,x3)] H
def ZfI (H0:Hp):KL:=seqL (fun k al H=>CXgC 157 44 (sub (Za0 Tryz.f157) [1,1,1]) k (Za8 (cfg.keep 157) (sub (Za0 Tryz.f157) [1,1,1]) al) H) (retL cfg 44 157 Tryz.f157 H0)
theorem Zri (H0:Hp):Tame 44 (ZfI H0):=Zan (C:=cfg) (kp:=cfg.keep 157) (sub (Za0 Tryz.f157) [1,1,1]) (Zaq 157 Tryz.f157 H0)
def Ze7 (x0 x3 x7 x8:AV) (H0 H:Hp):Res:=CXgC 157 44 (sub (Za0 Tryz.f157) [1,1,0,1,0,0,1,1,1]) (seqL (fun k al H=>LPgC 157 44 (sub (Za0 Tryz.f157) [1,1,0,1,0,0]) k (Za8 (cfg.keep 157) (sub (Za0 Tryz.f157) [1,1,0,1,0,0]) al) H) (Za4 0 (ZfI H0))) [(0,x0),(3,x3),(7,x7),(8,x8)] H
def Zjn (x0 x3 x7 x8 x9:AV) (H0 H:Hp):Res:=CXgC 157 44 (sub (Za0 Tryz.f157) [1,1,0,1,0,0,1,1]) (seqL (fun k al H=>LPgC 157 44 (sub (Za0 Tryz.f157) [1,1,0,1,0,0]) k (Za8 (cfg.keep 157) (sub (Za0 Tryz.f157) [1,1,0,1,0,0]) al) H) (Za4 0 (ZfI H0))) [(0,x0),(3,x3),(7,x7),(8,x8),(9,x9)] H
def ZfJ (x0 x3 x7 x8:AV) (H0 H:Hp):Res:=LPgC 157 44 (sub (Za0 Tryz.f157) [1,1,0,1,0,0]) (Za4 0 (ZfI H0)) [(0,x0),(3,x3),(7,x7),(8,x8)] H
def ZpK (p0:AV) (H:Hp):Res:=
 bnd (some ((.ptr H.length 0),H++[.bld 192 5 []])) fun r3=>
 bnd (Zae .string p0) fun t7=>
 ZfJ p0 r3.1 t7 (.int .i64 0) H r3.2
theorem Zud (x3:AV) (H0 H:Hp):ZoQ x3 H0 H =
    bnd (Zms.run [x3] H) fun r43=>
    some (r43.1,r43.2):=(Za3 [4,8,9] _ _ _ _).trans (by kernel_rfl)
theorem Zl5 (x0 x3 x7 x8:AV) (H0 H:Hp):Ze7 x0 x3 x7 x8 H0 H =
    bnd (ibin .add x8 (.int .i64 1)) fun t42=>
    ZfJ x0 x3 x7 t42 H0 H:=(Za3 [4,8,9] _ _ _ _).trans (by kernel_rfl)
theorem Zue (x0 x3 x7 x8 x9:AV) (H0 H:Hp):Zjn x0 x3 x7 x8 x9 H0 H =
    bnd (Zal x0 x8) fun t13=>
    bnd (ZcH [t13] H) fun r15=>
    bnd (gdv r15.1 false (.tuple []) (some t13)) fun t17=>
    bnd (gdv r15.1 false (.tuple []) (ibin .geq t17 (.int .u8 97))) fun t18=>
    bnd (gdv r15.1 false (.tuple []) (some t18)) fun t19=>
    bnd (gdv t19 true (.tuple []) (some t13)) fun t20=>
    bnd (gdv t19 true (.tuple []) (ibin .leq t20 (.int .u8 122))) fun t21=>
    bnd (gdv r15.1 false (.tuple []) (Zad t19 t21 (.bool false))) fun t22=>
    bnd (Zad r15.1 (.bool true) t22) fun t23=>
    bnd (gdv t23 false (.tuple []) (some t13)) fun t25=>
    bnd (gdv t23 false (.tuple []) (ibin .geq t25 (.int .u8 65))) fun t26=>
    bnd (gdv t23 false (.tuple []) (some t26)) fun t27=>
    bnd (gdv t27 true (.tuple []) (some t13)) fun t28=>
    bnd (gdv t27 true (.tuple []) (ibin .leq t28 (.int .u8 90))) fun t29=>
    bnd (gdv t23 false (.tuple []) (Zad t27 t29 (.bool false))) fun t30=>
    bnd (Zad t23 (.bool true) t30) fun t31=>
    bnd (gdv t31 false (.tuple []) (some t13)) fun t33=>
    bnd (gdv t31 false (.tuple []) (ibin .geq t33 (.int .u8 48))) fun t34=>
    bnd (gdv t31 false (.tuple []) (some t34)) fun t35=>
    bnd (gdv t35 true (.tuple []) (some t13)) fun t36=>
    bnd (gdv t35 true (.tuple []) (ibin .leq t36 (.int .u8 57))) fun t37=>
    bnd (gdv t31 false (.tuple []) (Zad t35 t37 (.bool false))) fun t38=>
    bnd (Zad t31 (.bool true) t38) fun t39=>
    cnd t39
     (bnd (Zuo.run [x3,t13] r15.2) fun r41=>
     Ze7 x0 x3 x7 x8 H0 r41.2)
     (Ze7 x0 x3 x7 x8 H0 r15.2):=(Za3 [4,8,9] _ _ _ _).trans (by kernel_rfl)
theorem Zl6 (x0 x3 x7 x8:AV) (H0 H:Hp):ZfJ x0 x3 x7 x8 H0 H =
    bnd (ibin .lss x8 x7) fun t9=>
    cnd t9
     (Zjn x0 x3 x7 x8 t9 H0 H)
     (ZoQ x3 H0 H):=(Zar (C:=cfg) [4,8,9] (Zag 0 (Zri H0)) _ _).trans (by kernel_rfl)
theorem ZuI (p0:AV) (H:Hp):ZjZ [p0] H=ZpK p0 H:=(Za9 (C:=cfg) (fn:=Tryz.f157) (c:=Za0 Tryz.f157) (n:=44) [4,8,9] Tryz.func157 (by kernel_rfl) (by kernel_rfl) [p0] (by kernel_rfl) H).trans (by kernel_rfl)

def Zlx (p0 p1:AV) (H:Hp):Res:=
 bnd (Za2 true 6 p1 H) fun t4=>
 bnd (Zaa ZjY [t4,p0] H) fun r6=>
 some (r6.1,r6.2)
theorem Zqu (p0 p1:AV) (H:Hp):Zh3 [p0,p1] H=Zlx p0 p1 H:=(Za9 (C:=cfg) (fn:=Tryz.f158) (c:=Za0 Tryz.f158) (n:=7) [] Tryz.func158 (by kernel_rfl) (by kernel_rfl) [p0,p1] (by kernel_rfl) H).trans (by kernel_rfl)

def ZpG (p0 p1:AV) (H:Hp):Res:=
 bnd (abox p0 H) fun r2=>
 bnd (Za2 true 6 r2.1 r2.2) fun t5=>
 bnd (Zaa Zd7 [t5] r2.2) fun r6=>
 bnd (Zmr false 1 3 r6.1) fun t7=>
 bnd (Zaa ZiC [t7,p1] r6.2) fun r9=>
 some (r9.1,r9.2)
theorem ZuF (p0 p1:AV) (H:Hp):ZjY [p0,p1] H=ZpG p0 p1 H:=(Za9 (C:=cfg) (fn:=Tryz.f159) (c:=Za0 Tryz.f159) (n:=10) [] Tryz.func159 (by kernel_rfl) (by kernel_rfl) [p0,p1] (by kernel_rfl) H).trans (by kernel_rfl)

def Zto (x1 x2:AV) (H0 H:Hp):Res:=CXgC 163 8 (sub (Za0 Tryz.f163) [1,1]) (retL cfg 8 163 Tryz.f163 H0) [(1,x1),(2,x2)] H
def Zp0 (p0:AV) (H:Hp):Res:=
 bnd (abox p0 H) fun r1=>
 bnd (some ((.ptr r1.2.length 0),r1.2++[.cells [(.str []),.nils,(.str []),(.str []),.nils,.nils]])) fun r2=>
 bnd (Za2 true 6 r1.1 r2.2) fun t3=>
 bnd (Zaa Zkm [t3] r2.2) fun r4=>
 bnd (ibin .neq r4.1 (.int .i64 0)) fun t5=>
 cnd t5
  (bnd (Zaa Zl8 [] r4.2) fun r6=>
  bnd (Zab 6 r2.1 r6.1 r6.2) fun r_10=>
  bnd (Za2 true 6 r2.1 r_10.2) fun v2=>
  some (v2,r_10.2))
  (Zto r1.1 r2.1 H r4.2)
theorem ZwQ (x1 x2:AV) (H0 H:Hp):Zto x1 x2 H0 H =
    bnd (Za2 true 6 x1 H) fun t7=>
    bnd (Zab 6 x2 t7 H) fun r_4=>
    bnd (Za2 true 6 x2 r_4.2) fun v2=>
    some (v2,r_4.2):=(Za3 [3] _ _ _ _).trans (by kernel_rfl)
theorem ZpA (p0:AV) (H:Hp):Zhl [p0] H=Zp0 p0 H:=(Za9 (C:=cfg) (fn:=Tryz.f163) (c:=Za0 Tryz.f163) (n:=8) [3] Tryz.func163 (by kernel_rfl) (by kernel_rfl) [p0] (by kernel_rfl) H).trans (by kernel_rfl)

def ZoI (x1:AV) (H0 H:Hp):Res:=CXgC 186 49 (sub (Za0 Tryz.f186) [1,1,1,1,1]) (retL cfg 49 186 Tryz.f186 H0) [(1,x1)] H
def ZoH (x1:AV) (H0 H:Hp):Res:=CXgC 186 49 (sub (Za0 Tryz.f186) [1,1,1,1]) (retL cfg 49 186 Tryz.f186 H0) [(1,x1)] H
def ZfD (H0:Hp):KL:=seqL (fun k al H=>CXgC 186 49 (sub (Za0 Tryz.f186) [1,1,1,1]) k (Za8 (cfg.keep 186) (sub (Za0 Tryz.f186) [1,1,1,1]) al) H) (retL cfg 49 186 Tryz.f186 H0)
theorem Zr2 (H0:Hp):Tame 49 (ZfD H0):=Zan (C:=cfg) (kp:=cfg.keep 186) (sub (Za0 Tryz.f186) [1,1,1,1]) (Zaq 186 Tryz.f186 H0)
def ZoK (x1 x27 x28 x29:AV) (H0 H:Hp):Res:=CXgC 186 49 (sub (Za0 Tryz.f186) [1,1,1,0,1,0,0,1,1,1]) (seqL (fun k al H=>LPgC 186 49 (sub (Za0 Tryz.f186) [1,1,1,0,1,0,0]) k (Za8 (cfg.keep 186) (sub (Za0 Tryz.f186) [1,1,1,0,1,0,0]) al) H) (Za4 0 (ZfD H0))) [(1,x1),(27,x27),(28,x28),(29,x29)] H
def ZoJ (x1 x27 x28 x29 x30:AV) (H0 H:Hp):Res:=CXgC 186 49 (sub (Za0 Tryz.f186) [1,1,1,0,1,0,0,1,1]) (seqL (fun k al H=>LPgC 186 49 (sub (Za0 Tryz.f186) [1,1,1,0,1,0,0]) k (Za8 (cfg.keep 186) (sub (Za0 Tryz.f186) [1,1,1,0,1,0,0]) al) H) (Za4 0 (ZfD H0))) [(1,x1),(27,x27),(28,x28),(29,x29),(30,x30)] H
def ZfE (x1 x27 x28 x29:AV) (H0 H:Hp):Res:=LPgC 186 49 (sub (Za0 Tryz.f186) [1,1,1,0,1,0,0]) (Za4 0 (ZfD H0)) [(1,x1),(27,x27),(28,x28),(29,x29)] H
def ZoG (x1:AV) (H0 H:Hp):Res:=CXgC 186 49 (sub (Za0 Tryz.f186) [1,1,1]) (retL cfg 49 186 Tryz.f186 H0) [(1,x1)] H
def ZoF (x1:AV) (H0 H:Hp):Res:=CXgC 186 49 (sub (Za0 Tryz.f186) [1,1]) (retL cfg 49 186 Tryz.f186 H0) [(1,x1)] H
def ZpE (p0:AV) (H:Hp):Res:=
 bnd (abox p0 H) fun r1=>
 bnd (Za5 0 r1.1) fun t6=>
 bnd (Za2 false 1 t6 r1.2) fun t7=>
 bnd (Zaa Zfg [t7] r1.2) fun r8=>
 bnd (aun .not r8.1) fun t9=>
 cnd t9
  (some ((.int .i64 4),r8.2))
  (ZoF r1.1 H r8.2)
theorem Zu0 (x1:AV) (H0 H:Hp):ZoI x1 H0 H =
    bnd (Za5 5 x1) fun t46=>
    bnd (Za2 false 1 t46 H) fun t47=>
    bnd (Zaa Zcw [t47] H) fun r48=>
    some (r48.1,r48.2):=(Za3 [3,5,7,10,11,14] _ _ _ _).trans (by kernel_rfl)
theorem ZtZ (x1:AV) (H0 H:Hp):ZoH x1 H0 H =
    bnd (Za5 4 x1) fun t40=>
    bnd (Za2 false 1 t40 H) fun t41=>
    bnd (Zaa ZcF [t41] H) fun r42=>
    bnd (ibin .neq r42.1 (.int .i64 0)) fun t44=>
    cnd t44
     (some (r42.1,r42.2))
     (ZoI x1 H0 r42.2):=(Za3 [3,5,7,10,11,14] _ _ _ _).trans (by kernel_rfl)
theorem Zu2 (x1 x27 x28 x29:AV) (H0 H:Hp):ZoK x1 x27 x28 x29 H0 H =
    bnd (ibin .add x29 (.int .i64 1)) fun t39=>
    ZfE x1 x27 x28 t39 H0 H:=(Za3 [3,5,7,10,11,14] _ _ _ _).trans (by kernel_rfl)
theorem Zu1 (x1 x27 x28 x29 x30:AV) (H0 H:Hp):ZoJ x1 x27 x28 x29 x30 H0 H =
    bnd (Zaf 1 x27 x29) fun t31=>
    bnd (Za2 false 1 t31 H) fun t32=>
    bnd (ibin .lss t32 (.int .i64 0)) fun t34=>
    bnd (gdv t34 false (.tuple []) (some t32)) fun t36=>
    bnd (gdv t34 false (.tuple []) (ibin .gtr t36 (.int .i64 65535))) fun t37=>
    bnd (Zad t34 (.bool true) t37) fun t38=>
    cnd t38
     (some ((.int .i64 2),H))
     (ZoK x1 x27 x28 x29 H0 H):=(Za3 [3,5,7,10,11,14] _ _ _ _).trans (by kernel_rfl)
theorem ZkT (x1 x27 x28 x29:AV) (H0 H:Hp):ZfE x1 x27 x28 x29 H0 H =
    bnd (ibin .lss x29 x28) fun t30=>
    cnd t30
     (ZoJ x1 x27 x28 x29 t30 H0 H)
     (ZoH x1 H0 H):=(Zar (C:=cfg) [3,5,7,10,11,14] (Zag 0 (Zr2 H0)) _ _).trans (by kernel_rfl)
theorem ZtY (x1:AV) (H0 H:Hp):ZoG x1 H0 H =
    bnd (Za5 1 x1) fun t26=>
    bnd (Za2 false 1 t26 H) fun t27=>
    bnd (Zae (.slice 3) t27) fun t28=>
    ZfE x1 t27 t28 (.int .i64 0) H0 H:=(Za3 [3,5,7,10,11,14] _ _ _ _).trans (by kernel_rfl)
theorem ZtX (x1:AV) (H0 H:Hp):ZoF x1 H0 H =
    bnd (Za5 1 x1) fun t10=>
    bnd (Za2 false 1 t10 H) fun t11=>
    bnd (Zae (.slice 3) t11) fun t12=>
    bnd (ibin .neq t12 (.int .i64 256)) fun t13=>
    bnd (gdv t13 false (.tuple []) (Za5 2 x1)) fun t15=>
    bnd (gdv t13 false (.tuple []) (Za2 false 1 t15 H)) fun t16=>
    bnd (gdv t13 false (.tuple []) (Zae .string t16)) fun t17=>
    bnd (gdv t13 false (.tuple []) (ibin .neq t17 (.int .i64 256))) fun t18=>
    bnd (Zad t13 (.bool true) t18) fun t19=>
    bnd (gdv t19 false (.tuple []) (Za5 3 x1)) fun t21=>
    bnd (gdv t19 false (.tuple []) (Za2 false 1 t21 H)) fun t22=>
    bnd (gdv t19 false (.tuple []) (Zae .string t22)) fun t23=>
    bnd (gdv t19 false (.tuple []) (ibin .neq t23 (.int .i64 256))) fun t24=>
    bnd (Zad t19 (.bool true) t24) fun t25=>
    cnd t25
     (some ((.int .i64 2),H))
     (ZoG x1 H0 H):=(Za3 [3,5,7,10,11,14] _ _ _ _).trans (by kernel_rfl)
theorem ZuE (p0:AV) (H:Hp):Zgc [p0] H=ZpE p0 H:=(Za9 (C:=cfg) (fn:=Tryz.f186) (c:=Za0 Tryz.f186) (n:=49) [3,5,7,10,11,14] Tryz.func186 (by kernel_rfl) (by kernel_rfl) [p0] (by kernel_rfl) H).trans (by kernel_rfl)

def Zi3 (p0 p1:AV) (H:Hp):Res:=
 bnd (extC .cmp [p0,p1] H) fun r7=>
 some (r7.1,r7.2)
theorem Zge (p0 p1:AV) (H:Hp):ZbM [p0,p1] H=Zi3 p0 p1 H:=(Za9 (C:=cfg) (fn:=Tryz.f188) (c:=Za0 Tryz.f188) (n:=8) [] Tryz.func188 (by kernel_rfl) (by kernel_rfl) [p0,p1] (by kernel_rfl) H).trans (by kernel_rfl)

def ZlC (x3:AV) (H0 H:Hp):Res:=CXgC 189 23 (sub (Za0 Tryz.f189) [1,1,1]) (retL cfg 23 189 Tryz.f189 H0) [(3,x3)] H
def Zhb (H0:Hp):KL:=seqL (fun k al H=>CXgC 189 23 (sub (Za0 Tryz.f189) [1,1,1]) k (Za8 (cfg.keep 189) (sub (Za0 Tryz.f189) [1,1,1]) al) H) (retL cfg 23 189 Tryz.f189 H0)
theorem Zpg (H0:Hp):Tame 23 (Zhb H0):=Zan (C:=cfg) (kp:=cfg.keep 189) (sub (Za0 Tryz.f189) [1,1,1]) (Zaq 189 Tryz.f189 H0)
def ZlD (x0 x3:AV) (H0 H:Hp):Res:=CXgC 189 23 (sub (Za0 Tryz.f189) [1,1,0,0,0,1]) (seqL (fun k al H=>LPgC 189 23 (sub (Za0 Tryz.f189) [1,1,0,0,0]) k (Za8 (cfg.keep 189) (sub (Za0 Tryz.f189) [1,1,0,0,0]) al) H) (Za4 0 (Zhb H0))) [(0,x0),(3,x3)] H
def Zej (x0 x3:AV) (H0 H:Hp):Res:=LPgC 189 23 (sub (Za0 Tryz.f189) [1,1,0,0,0]) (Za4 0 (Zhb H0)) [(0,x0),(3,x3)] H
def Zvw (p0:AV) (H:Hp):Res:=
 Zej p0 (.int .i64 0) H H
theorem ZeT (x3:AV) (H0 H:Hp):ZlC x3 H0 H =
    some (x3,H):=(Za3 [3,4] _ _ _ _).trans (by kernel_rfl)
theorem ZqS (x0 x3:AV) (H0 H:Hp):ZlD x0 x3 H0 H =
    bnd (ibin .add x3 (.int .i64 1)) fun t21=>
    Zej x0 t21 H0 H:=(Za3 [3,4] _ _ _ _).trans (by kernel_rfl)
theorem Zj4 (x0 x3:AV) (H0 H:Hp):Zej x0 x3 H0 H =
    bnd (Zae .string x0) fun t6=>
    bnd (ibin .lss x3 t6) fun t7=>
    bnd (gdv t7 true (.tuple []) (some x0)) fun t9=>
    bnd (gdv t7 true (.tuple []) (some x3)) fun t10=>
    bnd (gdv t7 true (.tuple []) (Zal t9 t10)) fun t11=>
    bnd (gdv t7 true (.tuple []) (ibin .geq t11 (.int .u8 48))) fun t12=>
    bnd (Zad t7 t12 (.bool false)) fun t13=>
    bnd (gdv t13 true (.tuple []) (some x0)) fun t15=>
    bnd (gdv t13 true (.tuple []) (some x3)) fun t16=>
    bnd (gdv t13 true (.tuple []) (Zal t15 t16)) fun t17=>
    bnd (gdv t13 true (.tuple []) (ibin .leq t17 (.int .u8 57))) fun t18=>
    bnd (Zad t13 t18 (.bool false)) fun t19=>
    cnd t19
     (ZlD x0 x3 H0 H)
     (ZlC x3 H0 H):=(Zar (C:=cfg) [3,4] (Zag 0 (Zpg H0)) _ _).trans (by kernel_rfl)
theorem Zs5 (p0:AV) (H:Hp):ZeL [p0] H=Zvw p0 H:=(Za9 (C:=cfg) (fn:=Tryz.f189) (c:=Za0 Tryz.f189) (n:=23) [3,4] Tryz.func189 (by kernel_rfl) (by kernel_rfl) [p0] (by kernel_rfl) H).trans (by kernel_rfl)

def Zn4 (x1 x5:AV) (H0 H:Hp):Res:=CXgC 190 29 (sub (Za0 Tryz.f190) [1,1,1]) (retL cfg 29 190 Tryz.f190 H0) [(1,x1),(5,x5)] H
def ZeU (H0:Hp):KL:=seqL (fun k al H=>CXgC 190 29 (sub (Za0 Tryz.f190) [1,1,1]) k (Za8 (cfg.keep 190) (sub (Za0 Tryz.f190) [1,1,1]) al) H) (retL cfg 29 190 Tryz.f190 H0)
theorem ZpZ (H0:Hp):Tame 29 (ZeU H0):=Zan (C:=cfg) (kp:=cfg.keep 190) (sub (Za0 Tryz.f190) [1,1,1]) (Zaq 190 Tryz.f190 H0)
def Zn6 (x0 x1 x5 x8 x9:AV) (H0 H:Hp):Res:=CXgC 190 29 (sub (Za0 Tryz.f190) [1,1,0,1,0,0,1,1,1]) (seqL (fun k al H=>LPgC 190 29 (sub (Za0 Tryz.f190) [1,1,0,1,0,0]) k (Za8 (cfg.keep 190) (sub (Za0 Tryz.f190) [1,1,0,1,0,0]) al) H) (Za4 0 (ZeU H0))) [(0,x0),(1,x1),(5,x5),(8,x8),(9,x9)] H
def Zn5 (x0 x1 x5 x8 x9 x10:AV) (H0 H:Hp):Res:=CXgC 190 29 (sub (Za0 Tryz.f190) [1,1,0,1,0,0,1,1]) (seqL (fun k al H=>LPgC 190 29 (sub (Za0 Tryz.f190) [1,1,0,1,0,0]) k (Za8 (cfg.keep 190) (sub (Za0 Tryz.f190) [1,1,0,1,0,0]) al) H) (Za4 0 (ZeU H0))) [(0,x0),(1,x1),(5,x5),(8,x8),(9,x9),(10,x10)] H
def ZeV (x0 x1 x5 x8 x9:AV) (H0 H:Hp):Res:=LPgC 190 29 (sub (Za0 Tryz.f190) [1,1,0,1,0,0]) (Za4 0 (ZeU H0)) [(0,x0),(1,x1),(5,x5),(8,x8),(9,x9)] H
def Zo7 (p0 p1:AV) (H:Hp):Res:=
 bnd (Zae .string p0) fun t8=>
 ZeV p0 p1 (.int .i64 0) t8 (.int .i64 0) H H
theorem Zsg (x1 x5:AV) (H0 H:Hp):Zn4 x1 x5 H0 H =
    bnd (ibin .mul x5 (.int .i64 10000)) fun t24=>
    bnd (Zaa ZfQ [x1] H) fun r26=>
    bnd (ibin .add t24 r26.1) fun t27=>
    bnd (ZdQ (.int .i64 10000000000001) t27) fun t28=>
    some (t28,r26.2):=(Za3 [4,8,9] _ _ _ _).trans (by kernel_rfl)
theorem Zsi (x0 x1 x5 x8 x9:AV) (H0 H:Hp):Zn6 x0 x1 x5 x8 x9 H0 H =
    bnd (ibin .add x9 (.int .i64 1)) fun t22=>
    ZeV x0 x1 x5 x8 t22 H0 H:=(Za3 [4,8,9] _ _ _ _).trans (by kernel_rfl)
theorem Zsh (x0 x1 x5 x8 x9 x10:AV) (H0 H:Hp):Zn5 x0 x1 x5 x8 x9 x10 H0 H =
    bnd (ibin .mul (.int .i64 10) x5) fun t13=>
    bnd (Zal x0 x9) fun t16=>
    bnd (ibin .sub t16 (.int .u8 48)) fun t17=>
    bnd (Zbl .i64 t17) fun t18=>
    bnd (ibin .add t13 t18) fun t19=>
    bnd (ibin .gtr t19 (.int .i64 1000000000)) fun t21=>
    cnd t21
     (some ((.int .i64 10000000000001),H))
     (Zn6 x0 x1 t19 x8 x9 H0 H):=(Za3 [4,8,9] _ _ _ _).trans (by kernel_rfl)
theorem ZjF (x0 x1 x5 x8 x9:AV) (H0 H:Hp):ZeV x0 x1 x5 x8 x9 H0 H =
    bnd (ibin .lss x9 x8) fun t10=>
    cnd t10
     (Zn5 x0 x1 x5 x8 x9 t10 H0 H)
     (Zn4 x1 x5 H0 H):=(Zar (C:=cfg) [4,8,9] (Zag 0 (ZpZ H0)) _ _).trans (by kernel_rfl)
theorem ZsW (p0 p1:AV) (H:Hp):ZiB [p0,p1] H=Zo7 p0 p1 H:=(Za9 (C:=cfg) (fn:=Tryz.f190) (c:=Za0 Tryz.f190) (n:=29) [4,8,9] Tryz.func190 (by kernel_rfl) (by kernel_rfl) [p0,p1] (by kernel_rfl) H).trans (by kernel_rfl)

def Znd (x5:AV) (H0 H:Hp):Res:=CXgC 197 26 (sub (Za0 Tryz.f197) [1,1,1]) (retL cfg 26 197 Tryz.f197 H0) [(5,x5)] H
def ZeX (H0:Hp):KL:=seqL (fun k al H=>CXgC 197 26 (sub (Za0 Tryz.f197) [1,1,1]) k (Za8 (cfg.keep 197) (sub (Za0 Tryz.f197) [1,1,1]) al) H) (retL cfg 26 197 Tryz.f197 H0)
theorem Zq7 (H0:Hp):Tame 26 (ZeX H0):=Zan (C:=cfg) (kp:=cfg.keep 197) (sub (Za0 Tryz.f197) [1,1,1]) (Zaq 197 Tryz.f197 H0)
def Znf (x0 x5 x10 x11:AV) (H0 H:Hp):Res:=CXgC 197 26 (sub (Za0 Tryz.f197) [1,1,0,1,0,0,1,1,1]) (seqL (fun k al H=>LPgC 197 26 (sub (Za0 Tryz.f197) [1,1,0,1,0,0]) k (Za8 (cfg.keep 197) (sub (Za0 Tryz.f197) [1,1,0,1,0,0]) al) H) (Za4 0 (ZeX H0))) [(0,x0),(5,x5),(10,x10),(11,x11)] H
def Zne (x0 x5 x10 x11 x12:AV) (H0 H:Hp):Res:=CXgC 197 26 (sub (Za0 Tryz.f197) [1,1,0,1,0,0,1,1]) (seqL (fun k al H=>LPgC 197 26 (sub (Za0 Tryz.f197) [1,1,0,1,0,0]) k (Za8 (cfg.keep 197) (sub (Za0 Tryz.f197) [1,1,0,1,0,0]) al) H) (Za4 0 (ZeX H0))) [(0,x0),(5,x5),(10,x10),(11,x11),(12,x12)] H
def ZeY (x0 x5 x10 x11:AV) (H0 H:Hp):Res:=LPgC 197 26 (sub (Za0 Tryz.f197) [1,1,0,1,0,0]) (Za4 0 (ZeX H0)) [(0,x0),(5,x5),(10,x10),(11,x11)] H
def Zo8 (p0 p1:AV) (H:Hp):Res:=
 bnd (ZqN p1 H) fun r8=>
 bnd (Zae (.slice 5) r8.1) fun t10=>
 ZeY p0 r8.1 t10 (.int .i64 0) H r8.2
theorem Zsk (x5:AV) (H0 H:Hp):Znd x5 H0 H =
    bnd (cvRd x5 H) fun t25=>
    some (t25,H):=(Za3 [4,6,7] _ _ _ _).trans (by kernel_rfl)
theorem Zsm (x0 x5 x10 x11:AV) (H0 H:Hp):Znf x0 x5 x10 x11 H0 H =
    bnd (ibin .add x11 (.int .i64 1)) fun t23=>
    ZeY x0 x5 x10 t23 H0 H:=(Za3 [4,6,7] _ _ _ _).trans (by kernel_rfl)
theorem Zsl (x0 x5 x10 x11 x12:AV) (H0 H:Hp):Zne x0 x5 x10 x11 x12 H0 H =
    bnd (Zaf 1 x5 x11) fun t19=>
    bnd (Za2 false 1 t19 H) fun t20=>
    bnd (Zal x0 t20) fun t21=>
    bnd (Zaf 1 x5 x11) fun t22=>
    bnd (Zab 1 t22 t21 H) fun r_10=>
    Znf x0 x5 x10 x11 H0 r_10.2:=(Za3 [4,6,7] _ _ _ _).trans (by kernel_rfl)
theorem ZjG (x0 x5 x10 x11:AV) (H0 H:Hp):ZeY x0 x5 x10 x11 H0 H =
    bnd (ibin .lss x11 x10) fun t12=>
    cnd t12
     (Zne x0 x5 x10 x11 t12 H0 H)
     (Znd x5 H0 H):=(Zar (C:=cfg) [4,6,7] (Zag 0 (Zq7 H0)) _ _).trans (by kernel_rfl)
theorem ZsY (p0 p1:AV) (H:Hp):ZiC [p0,p1] H=Zo8 p0 p1 H:=(Za9 (C:=cfg) (fn:=Tryz.f197) (c:=Za0 Tryz.f197) (n:=26) [4,6,7] Tryz.func197 (by kernel_rfl) (by kernel_rfl) [p0,p1] (by kernel_rfl) H).trans (by kernel_rfl)

def Zti (x1:AV) (H0 H:Hp):Res:=CXgC 204 43 (sub (Za0 Tryz.f204) [1,1,1,1,1,1]) (retL cfg 43 204 Tryz.f204 H0) [(1,x1)] H
def Zth (x1:AV) (H0 H:Hp):Res:=CXgC 204 43 (sub (Za0 Tryz.f204) [1,1,1,1,1]) (retL cfg 43 204 Tryz.f204 H0) [(1,x1)] H
def Ztg (x1:AV) (H0 H:Hp):Res:=CXgC 204 43 (sub (Za0 Tryz.f204) [1,1,1,1]) (retL cfg 43 204 Tryz.f204 H0) [(1,x1)] H
def ZiN (H0:Hp):KL:=seqL (fun k al H=>CXgC 204 43 (sub (Za0 Tryz.f204) [1,1,1,1]) k (Za8 (cfg.keep 204) (sub (Za0 Tryz.f204) [1,1,1,1]) al) H) (retL cfg 43 204 Tryz.f204 H0)
theorem ZuQ (H0:Hp):Tame 43 (ZiN H0):=Zan (C:=cfg) (kp:=cfg.keep 204) (sub (Za0 Tryz.f204) [1,1,1,1]) (Zaq 204 Tryz.f204 H0)
def Ztk (x1 x3:AV) (H0 H:Hp):Res:=CXgC 204 43 (sub (Za0 Tryz.f204) [1,1,1,0,1,0,0,1,1]) (seqL (fun k al H=>LPgC 204 43 (sub (Za0 Tryz.f204) [1,1,1,0,1,0,0]) k (Za8 (cfg.keep 204) (sub (Za0 Tryz.f204) [1,1,1,0,1,0,0]) al) H) (Za4 0 (ZiN H0))) [(1,x1),(3,x3)] H
def Ztj (x1 x3:AV) (H0 H:Hp):Res:=CXgC 204 43 (sub (Za0 Tryz.f204) [1,1,1,0,1,0,0,1]) (seqL (fun k al H=>LPgC 204 43 (sub (Za0 Tryz.f204) [1,1,1,0,1,0,0]) k (Za8 (cfg.keep 204) (sub (Za0 Tryz.f204) [1,1,1,0,1,0,0]) al) H) (Za4 0 (ZiN H0))) [(1,x1),(3,x3)] H
def ZiO (x1 x3:AV) (H0 H:Hp):Res:=LPgC 204 43 (sub (Za0 Tryz.f204) [1,1,1,0,1,0,0]) (Za4 0 (ZiN H0)) [(1,x1),(3,x3)] H
def Ztf (x1:AV) (H0 H:Hp):Res:=CXgC 204 43 (sub (Za0 Tryz.f204) [1,1,1]) (retL cfg 43 204 Tryz.f204 H0) [(1,x1)] H
def Zte (x1:AV) (H0 H:Hp):Res:=CXgC 204 43 (sub (Za0 Tryz.f204) [1,1]) (retL cfg 43 204 Tryz.f204 H0) [(1,x1)] H
def Zv3 (p0:AV) (H:Hp):Res:=
 bnd (abox p0 H) fun r1=>
 bnd (Za5 0 r1.1) fun t5=>
 bnd (Za2 false 1 t5 r1.2) fun t6=>
 bnd (Zaa ZfP [t6] r1.2) fun r7=>
 bnd (aun .not r7.1) fun t8=>
 cnd t8
  (some ((.int .i64 4),r7.2))
  (Zte r1.1 H r7.2)
theorem ZwN (x1:AV) (H0 H:Hp):Zti x1 H0 H =
    bnd (Za5 5 x1) fun t40=>
    bnd (Za2 false 1 t40 H) fun t41=>
    bnd (Zaa Zdr [t41] H) fun r42=>
    some (r42.1,r42.2):=(Za3 [3,5,7,8,10,12,15] _ _ _ _).trans (by kernel_rfl)
theorem ZwM (x1:AV) (H0 H:Hp):Zth x1 H0 H =
    bnd (Za5 4 x1) fun t34=>
    bnd (Za2 false 1 t34 H) fun t35=>
    bnd (Zaa ZdL [t35] H) fun r36=>
    bnd (ibin .neq r36.1 (.int .i64 0)) fun t38=>
    cnd t38
     (some (r36.1,r36.2))
     (Zti x1 H0 r36.2):=(Za3 [3,5,7,8,10,12,15] _ _ _ _).trans (by kernel_rfl)
theorem ZwL (x1:AV) (H0 H:Hp):Ztg x1 H0 H =
    bnd (Za5 2 x1) fun t24=>
    bnd (Za2 false 1 t24 H) fun t25=>
    bnd (Zae .string t25) fun t26=>
    bnd (ibin .neq t26 (.int .i64 256)) fun t27=>
    bnd (gdv t27 false (.tuple []) (Za5 3 x1)) fun t29=>
    bnd (gdv t27 false (.tuple []) (Za2 false 1 t29 H)) fun t30=>
    bnd (gdv t27 false (.tuple []) (Zae .string t30)) fun t31=>
    bnd (gdv t27 false (.tuple []) (ibin .neq t31 (.int .i64 256))) fun t32=>
    bnd (Zad t27 (.bool true) t32) fun t33=>
    cnd t33
     (some ((.int .i64 2),H))
     (Zth x1 H0 H):=(Za3 [3,5,7,8,10,12,15] _ _ _ _).trans (by kernel_rfl)
theorem ZwP (x1 x3:AV) (H0 H:Hp):Ztk x1 x3 H0 H =
    bnd (ibin .add x3 (.int .i64 1)) fun t16=>
    ZiO x1 t16 H0 H:=(Za3 [3,5,7,8,10,12,15] _ _ _ _).trans (by kernel_rfl)
theorem ZwO (x1 x3:AV) (H0 H:Hp):Ztj x1 x3 H0 H =
    bnd (Za5 1 x1) fun t17=>
    bnd (Za2 false 1 t17 H) fun t18=>
    bnd (Zaf 1 t18 x3) fun t20=>
    bnd (Za2 false 1 t20 H) fun t21=>
    bnd (Zaa Zhk [t21] H) fun r22=>
    bnd (aun .not r22.1) fun t23=>
    cnd t23
     (some ((.int .i64 2),r22.2))
     (Ztk x1 x3 H0 r22.2):=(Za3 [3,5,7,8,10,12,15] _ _ _ _).trans (by kernel_rfl)
theorem Zok (x1 x3:AV) (H0 H:Hp):ZiO x1 x3 H0 H =
    bnd (ibin .lss x3 (.int .i64 256)) fun t14=>
    cnd t14
     (Ztj x1 x3 H0 H)
     (Ztg x1 H0 H):=(Zar (C:=cfg) [3,5,7,8,10,12,15] (Zag 0 (ZuQ H0)) _ _).trans (by kernel_rfl)
theorem ZwK (x1:AV) (H0 H:Hp):Ztf x1 H0 H =
    ZiO x1 (.int .i64 0) H0 H:=(Za3 [3,5,7,8,10,12,15] _ _ _ _).trans (by kernel_rfl)
theorem ZwJ (x1:AV) (H0 H:Hp):Zte x1 H0 H =
    bnd (Za5 1 x1) fun t9=>
    bnd (Za2 false 1 t9 H) fun t10=>
    bnd (Zae (.slice 3) t10) fun t11=>
    bnd (ibin .neq t11 (.int .i64 256)) fun t12=>
    cnd t12
     (some ((.int .i64 2),H))
     (Ztf x1 H0 H):=(Za3 [3,5,7,8,10,12,15] _ _ _ _).trans (by kernel_rfl)
theorem Zyh (p0:AV) (H:Hp):Zkm [p0] H=Zv3 p0 H:=(Za9 (C:=cfg) (fn:=Tryz.f204) (c:=Za0 Tryz.f204) (n:=43) [3,5,7,8,10,12,15] Tryz.func204 (by kernel_rfl) (by kernel_rfl) [p0] (by kernel_rfl) H).trans (by kernel_rfl)

def Zkc (x0:AV) (H0 H:Hp):Res:=CXgC 221 54 (sub (Za0 Tryz.f221) [1,1]) (retL cfg 54 221 Tryz.f221 H0) [(0,x0)] H
def Zgt (H0:Hp):KL:=seqL (fun k al H=>CXgC 221 54 (sub (Za0 Tryz.f221) [1,1]) k (Za8 (cfg.keep 221) (sub (Za0 Tryz.f221) [1,1]) al) H) (retL cfg 54 221 Tryz.f221 H0)
theorem Zsn (H0:Hp):Tame 54 (Zgt H0):=Zan (C:=cfg) (kp:=cfg.keep 221) (sub (Za0 Tryz.f221) [1,1]) (Zaq 221 Tryz.f221 H0)
def Zke (x0 x7 x8:AV) (H0 H:Hp):Res:=CXgC 221 54 (sub (Za0 Tryz.f221) [1,0,1,0,0,1,1,1]) (seqL (fun k al H=>LPgC 221 54 (sub (Za0 Tryz.f221) [1,0,1,0,0]) k (Za8 (cfg.keep 221) (sub (Za0 Tryz.f221) [1,0,1,0,0]) al) H) (Za4 0 (Zgt H0))) [(0,x0),(7,x7),(8,x8)] H
def Zkd (x0 x7 x8 x9:AV) (H0 H:Hp):Res:=CXgC 221 54 (sub (Za0 Tryz.f221) [1,0,1,0,0,1,1]) (seqL (fun k al H=>LPgC 221 54 (sub (Za0 Tryz.f221) [1,0,1,0,0]) k (Za8 (cfg.keep 221) (sub (Za0 Tryz.f221) [1,0,1,0,0]) al) H) (Za4 0 (Zgt H0))) [(0,x0),(7,x7),(8,x8),(9,x9)] H
def Zgu (x0 x7 x8:AV) (H0 H:Hp):Res:=LPgC 221 54 (sub (Za0 Tryz.f221) [1,0,1,0,0]) (Za4 0 (Zgt H0)) [(0,x0),(7,x7),(8,x8)] H
def Zrz (p0:AV) (H:Hp):Res:=
 bnd (Zae .string p0) fun t7=>
 Zgu p0 t7 (.int .i64 0) H H
theorem ZuY (x0:AV) (H0 H:Hp):Zkc x0 H0 H =
    bnd (sbin .neq x0 (.str [])) fun t48=>
    bnd (gdv t48 true (.tuple []) (some x0)) fun t50=>
    bnd (gdv t48 true (.tuple []) (Zae .string t50)) fun t51=>
    bnd (gdv t48 true (.tuple []) (ibin .leq t51 (.int .i64 32))) fun t52=>
    bnd (Zad t48 t52 (.bool false)) fun t53=>
    some (t53,H):=(Za3 [3,8,9] _ _ _ _).trans (by kernel_rfl)
theorem ZlN (x0 x7 x8:AV) (H0 H:Hp):Zke x0 x7 x8 H0 H =
    bnd (ibin .add x8 (.int .i64 1)) fun t46=>
    Zgu x0 x7 t46 H0 H:=(Za3 [3,8,9] _ _ _ _).trans (by kernel_rfl)
theorem ZuZ (x0 x7 x8 x9:AV) (H0 H:Hp):Zkd x0 x7 x8 x9 H0 H =
    bnd (Zal x0 x8) fun t13=>
    bnd (ibin .eql t13 (.int .u8 95)) fun t15=>
    bnd (gdv t15 false (.tuple []) (some t13)) fun t17=>
    bnd (gdv t15 false (.tuple []) (ibin .geq t17 (.int .u8 97))) fun t18=>
    bnd (gdv t15 false (.tuple []) (some t18)) fun t19=>
    bnd (gdv t19 true (.tuple []) (some t13)) fun t20=>
    bnd (gdv t19 true (.tuple []) (ibin .leq t20 (.int .u8 122))) fun t21=>
    bnd (gdv t15 false (.tuple []) (Zad t19 t21 (.bool false))) fun t22=>
    bnd (Zad t15 (.bool true) t22) fun t23=>
    bnd (gdv t23 false (.tuple []) (some t13)) fun t25=>
    bnd (gdv t23 false (.tuple []) (ibin .geq t25 (.int .u8 65))) fun t26=>
    bnd (gdv t23 false (.tuple []) (some t26)) fun t27=>
    bnd (gdv t27 true (.tuple []) (some t13)) fun t28=>
    bnd (gdv t27 true (.tuple []) (ibin .leq t28 (.int .u8 90))) fun t29=>
    bnd (gdv t23 false (.tuple []) (Zad t27 t29 (.bool false))) fun t30=>
    bnd (Zad t23 (.bool true) t30) fun t31=>
    bnd (aun .not t31) fun t33=>
    bnd (gdv t33 true (.tuple []) (some x8)) fun t35=>
    bnd (gdv t33 true (.tuple []) (ibin .eql t35 (.int .i64 0))) fun t36=>
    bnd (gdv t33 true (.tuple []) (some t36)) fun t37=>
    bnd (gdv t37 false (.tuple []) (some t13)) fun t38=>
    bnd (gdv t37 false (.tuple []) (ibin .lss t38 (.int .u8 48))) fun t39=>
    bnd (gdv t33 true (.tuple []) (Zad t37 (.bool true) t39)) fun t40=>
    bnd (gdv t33 true (.tuple []) (some t40)) fun t41=>
    bnd (gdv t41 false (.tuple []) (some t13)) fun t42=>
    bnd (gdv t41 false (.tuple []) (ibin .gtr t42 (.int .u8 57))) fun t43=>
    bnd (gdv t33 true (.tuple []) (Zad t41 (.bool true) t43)) fun t44=>
    bnd (Zad t33 t44 (.bool false)) fun t45=>
    cnd t45
     (some ((.bool false),H))
     (Zke x0 x7 x8 H0 H):=(Za3 [3,8,9] _ _ _ _).trans (by kernel_rfl)
theorem Zem (x0 x7 x8:AV) (H0 H:Hp):Zgu x0 x7 x8 H0 H =
    bnd (ibin .lss x8 x7) fun t9=>
    cnd t9
     (Zkd x0 x7 x8 t9 H0 H)
     (Zkc x0 H0 H):=(Zar (C:=cfg) [3,8,9] (Zag 0 (Zsn H0)) _ _).trans (by kernel_rfl)
theorem Zvy (p0:AV) (H:Hp):Zfg [p0] H=Zrz p0 H:=(Za9 (C:=cfg) (fn:=Tryz.f221) (c:=Za0 Tryz.f221) (n:=54) [3,8,9] Tryz.func221 (by kernel_rfl) (by kernel_rfl) [p0] (by kernel_rfl) H).trans (by kernel_rfl)

def Zhx (H0 H:Hp):Res:=CXgC 222 28 (sub (Za0 Tryz.f222) [1,1,1,1]) (retL cfg 28 222 Tryz.f222 H0) [] H
def ZbI (H0:Hp):KL:=seqL (fun k al H=>CXgC 222 28 (sub (Za0 Tryz.f222) [1,1,1,1]) k (Za8 (cfg.keep 222) (sub (Za0 Tryz.f222) [1,1,1,1]) al) H) (retL cfg 28 222 Tryz.f222 H0)
theorem ZkU (H0:Hp):Tame 28 (ZbI H0):=Zan (C:=cfg) (kp:=cfg.keep 222) (sub (Za0 Tryz.f222) [1,1,1,1]) (Zaq 222 Tryz.f222 H0)
def Zhz (x3 x10 x11 x12:AV) (H0 H:Hp):Res:=CXgC 222 28 (sub (Za0 Tryz.f222) [1,1,1,0,1,0,0,1,1,1]) (seqL (fun k al H=>LPgC 222 28 (sub (Za0 Tryz.f222) [1,1,1,0,1,0,0]) k (Za8 (cfg.keep 222) (sub (Za0 Tryz.f222) [1,1,1,0,1,0,0]) al) H) (Za4 0 (ZbI H0))) [(3,x3),(10,x10),(11,x11),(12,x12)] H
def ZhC (H0:Hp):KL:=seqL (fun k al H=>CXgC 222 28 (sub (Za0 Tryz.f222) [1,1,1,0,1,0,0,1,1,1]) k (Za8 (cfg.keep 222) (sub (Za0 Tryz.f222) [1,1,1,0,1,0,0,1,1,1]) al) H) (seqL (fun k al H=>LPgC 222 28 (sub (Za0 Tryz.f222) [1,1,1,0,1,0,0]) k (Za8 (cfg.keep 222) (sub (Za0 Tryz.f222) [1,1,1,0,1,0,0]) al) H) (Za4 0 (ZbI H0)))
def ZhB (x3 x5 x10 x11 x12:AV) (H0 H:Hp):Res:=CXgC 222 28 (sub (Za0 Tryz.f222) [1,1,1,0,1,0,0,1,1,0,0,1,1,1]) (Za4 1 (ZhC H0)) [(3,x3),(5,x5),(10,x10),(11,x11),(12,x12)] H
def ZhA (x3 x5 x10 x11 x12:AV) (H0 H:Hp):Res:=CXgC 222 28 (sub (Za0 Tryz.f222) [1,1,1,0,1,0,0,1,1,0,0,1,1]) (Za4 1 (ZhC H0)) [(3,x3),(5,x5),(10,x10),(11,x11),(12,x12)] H
def Zhy (x3 x10 x11 x12 x13:AV) (H0 H:Hp):Res:=CXgC 222 28 (sub (Za0 Tryz.f222) [1,1,1,0,1,0,0,1,1]) (seqL (fun k al H=>LPgC 222 28 (sub (Za0 Tryz.f222) [1,1,1,0,1,0,0]) k (Za8 (cfg.keep 222) (sub (Za0 Tryz.f222) [1,1,1,0,1,0,0]) al) H) (Za4 0 (ZbI H0))) [(3,x3),(10,x10),(11,x11),(12,x12),(13,x13)] H
def Zcz (x3 x10 x11 x12:AV) (H0 H:Hp):Res:=LPgC 222 28 (sub (Za0 Tryz.f222) [1,1,1,0,1,0,0]) (Za4 0 (ZbI H0)) [(3,x3),(10,x10),(11,x11),(12,x12)] H
def Zhw (x0:AV) (H0 H:Hp):Res:=CXgC 222 28 (sub (Za0 Tryz.f222) [1,1]) (retL cfg 28 222 Tryz.f222 H0) [(0,x0)] H
def Zig (p0:AV) (H:Hp):Res:=
 bnd (Zae (.slice 264) p0) fun t7=>
 bnd (ibin .gtr t7 (.int .i64 24)) fun t8=>
 cnd t8
  (some ((.int .i64 3),H))
  (Zhw p0 H H)
theorem Zma (H0 H:Hp):Zhx H0 H =
    some ((.int .i64 0),H):=(Za3 [3,6,9,11,12,13] _ _ _ _).trans (by kernel_rfl)
theorem Zmc (x3 x10 x11 x12:AV) (H0 H:Hp):Zhz x3 x10 x11 x12 H0 H =
    bnd (ibin .add x12 (.int .i64 1)) fun t27=>
    Zcz x3 x10 x11 t27 H0 H:=(Za3 [3,6,9,11,12,13] _ _ _ _).trans (by kernel_rfl)
theorem Zme (x3 x5 x10 x11 x12:AV) (H0 H:Hp):ZhB x3 x5 x10 x11 x12 H0 H =
    bnd (Za5 0 x5) fun t25=>
    bnd (Za2 false 1 t25 H) fun t26=>
    bnd (ZbD .string x3 t26 (.bool true) H) fun r_11=>
    Zhz x3 x10 x11 x12 H0 r_11.2:=(Za3 [3,6,9,11,12,13] _ _ _ _).trans (by kernel_rfl)
theorem Zmd (x3 x5 x10 x11 x12:AV) (H0 H:Hp):ZhA x3 x5 x10 x11 x12 H0 H =
    bnd (Za5 0 x5) fun t21=>
    bnd (Za2 false 1 t21 H) fun t22=>
    bnd (ZaK .string (.bool false) false x3 t22 H) fun t23=>
    cnd t23
     (some ((.int .i64 6),H))
     (ZhB x3 x5 x10 x11 x12 H0 H):=(Za3 [3,6,9,11,12,13] _ _ _ _).trans (by kernel_rfl)
theorem Zmb (x3 x10 x11 x12 x13:AV) (H0 H:Hp):Zhy x3 x10 x11 x12 x13 H0 H =
    bnd (Zaf 5 x10 x12) fun t14=>
    bnd (Za2 true 5 t14 H) fun t15=>
    bnd (some ((.ptr H.length 0),H++[.cells [(.str []),(.int .u64 0),(.int .u64 0),(.int .u64 0),(.int .u64 0)]])) fun r5=>
    bnd (Zab 5 r5.1 t15 r5.2) fun r_8=>
    bnd (Za5 0 r5.1) fun t16=>
    bnd (Za2 false 1 t16 r_8.2) fun t17=>
    bnd (Zaa Zfg [t17] r_8.2) fun r18=>
    bnd (aun .not r18.1) fun t19=>
    cnd t19
     (some ((.int .i64 4),r18.2))
     (ZhA x3 r5.1 x10 x11 x12 H0 r18.2):=(Za3 [3,6,9,11,12,13] _ _ _ _).trans (by kernel_rfl)
theorem ZfF (x3 x10 x11 x12:AV) (H0 H:Hp):Zcz x3 x10 x11 x12 H0 H =
    bnd (ibin .lss x12 x11) fun t13=>
    cnd t13
     (Zhy x3 x10 x11 x12 t13 H0 H)
     (Zhx H0 H):=(Zar (C:=cfg) [3,6,9,11,12,13] (Zag 0 (ZkU H0)) _ _).trans (by kernel_rfl)
theorem Zm9 (x0:AV) (H0 H:Hp):Zhw x0 H0 H =
    bnd (some ((.map H.length),H++[.map [] 0])) fun r9=>
    bnd (Zae (.slice 264) x0) fun t11=>
    Zcz r9.1 x0 t11 (.int .i64 0) H0 r9.2:=(Za3 [3,6,9,11,12,13] _ _ _ _).trans (by kernel_rfl)
theorem ZmD (p0:AV) (H:Hp):ZcF [p0] H=Zig p0 H:=(Za9 (C:=cfg) (fn:=Tryz.f222) (c:=Za0 Tryz.f222) (n:=28) [3,6,9,11,12,13] Tryz.func222 (by kernel_rfl) (by kernel_rfl) [p0] (by kernel_rfl) H).trans (by kernel_rfl)

def ZgL (H0 H:Hp):Res:=CXgC 223 38 (sub (Za0 Tryz.f223) [1,1,1,1]) (retL cfg 38 223 Tryz.f223 H0) [] H
def ZbB (H0:Hp):KL:=seqL (fun k al H=>CXgC 223 38 (sub (Za0 Tryz.f223) [1,1,1,1]) k (Za8 (cfg.keep 223) (sub (Za0 Tryz.f223) [1,1,1,1]) al) H) (retL cfg 38 223 Tryz.f223 H0)
theorem Zka (H0:Hp):Tame 38 (ZbB H0):=Zan (C:=cfg) (kp:=cfg.keep 223) (sub (Za0 Tryz.f223) [1,1,1,1]) (Zaq 223 Tryz.f223 H0)
def ZgN (x3 x10 x11 x12:AV) (H0 H:Hp):Res:=CXgC 223 38 (sub (Za0 Tryz.f223) [1,1,1,0,1,0,0,1,1,1]) (seqL (fun k al H=>LPgC 223 38 (sub (Za0 Tryz.f223) [1,1,1,0,1,0,0]) k (Za8 (cfg.keep 223) (sub (Za0 Tryz.f223) [1,1,1,0,1,0,0]) al) H) (Za4 0 (ZbB H0))) [(3,x3),(10,x10),(11,x11),(12,x12)] H
def ZgQ (H0:Hp):KL:=seqL (fun k al H=>CXgC 223 38 (sub (Za0 Tryz.f223) [1,1,1,0,1,0,0,1,1,1]) k (Za8 (cfg.keep 223) (sub (Za0 Tryz.f223) [1,1,1,0,1,0,0,1,1,1]) al) H) (seqL (fun k al H=>LPgC 223 38 (sub (Za0 Tryz.f223) [1,1,1,0,1,0,0]) k (Za8 (cfg.keep 223) (sub (Za0 Tryz.f223) [1,1,1,0,1,0,0]) al) H) (Za4 0 (ZbB H0)))
def ZgP (x3 x5 x10 x11 x12:AV) (H0 H:Hp):Res:=CXgC 223 38 (sub (Za0 Tryz.f223) [1,1,1,0,1,0,0,1,1,0,0,1,1,1]) (Za4 1 (ZgQ H0)) [(3,x3),(5,x5),(10,x10),(11,x11),(12,x12)] H
def ZgO (x3 x5 x10 x11 x12:AV) (H0 H:Hp):Res:=CXgC 223 38 (sub (Za0 Tryz.f223) [1,1,1,0,1,0,0,1,1,0,0,1,1]) (Za4 1 (ZgQ H0)) [(3,x3),(5,x5),(10,x10),(11,x11),(12,x12)] H
def ZgM (x3 x10 x11 x12 x13:AV) (H0 H:Hp):Res:=CXgC 223 38 (sub (Za0 Tryz.f223) [1,1,1,0,1,0,0,1,1]) (seqL (fun k al H=>LPgC 223 38 (sub (Za0 Tryz.f223) [1,1,1,0,1,0,0]) k (Za8 (cfg.keep 223) (sub (Za0 Tryz.f223) [1,1,1,0,1,0,0]) al) H) (Za4 0 (ZbB H0))) [(3,x3),(10,x10),(11,x11),(12,x12),(13,x13)] H
def Zci (x3 x10 x11 x12:AV) (H0 H:Hp):Res:=LPgC 223 38 (sub (Za0 Tryz.f223) [1,1,1,0,1,0,0]) (Za4 0 (ZbB H0)) [(3,x3),(10,x10),(11,x11),(12,x12)] H
def ZgK (x0:AV) (H0 H:Hp):Res:=CXgC 223 38 (sub (Za0 Tryz.f223) [1,1]) (retL cfg 38 223 Tryz.f223 H0) [(0,x0)] H
def Zhn (p0:AV) (H:Hp):Res:=
 bnd (Zae (.slice 210) p0) fun t7=>
 bnd (ibin .gtr t7 (.int .i64 64)) fun t8=>
 cnd t8
  (some ((.int .i64 3),H))
  (ZgK p0 H H)
theorem Zlh (H0 H:Hp):ZgL H0 H =
    some ((.int .i64 0),H):=(Za3 [3,6,9,11,12,13] _ _ _ _).trans (by kernel_rfl)
theorem Zlj (x3 x10 x11 x12:AV) (H0 H:Hp):ZgN x3 x10 x11 x12 H0 H =
    bnd (ibin .add x12 (.int .i64 1)) fun t37=>
    Zci x3 x10 x11 t37 H0 H:=(Za3 [3,6,9,11,12,13] _ _ _ _).trans (by kernel_rfl)
theorem Zll (x3 x5 x10 x11 x12:AV) (H0 H:Hp):ZgP x3 x5 x10 x11 x12 H0 H =
    bnd (Za5 0 x5) fun t35=>
    bnd (Za2 false 1 t35 H) fun t36=>
    bnd (ZbD .string x3 t36 (.bool true) H) fun r_11=>
    ZgN x3 x10 x11 x12 H0 r_11.2:=(Za3 [3,6,9,11,12,13] _ _ _ _).trans (by kernel_rfl)
theorem Zlk (x3 x5 x10 x11 x12:AV) (H0 H:Hp):ZgO x3 x5 x10 x11 x12 H0 H =
    bnd (Za5 0 x5) fun t31=>
    bnd (Za2 false 1 t31 H) fun t32=>
    bnd (ZaK .string (.bool false) false x3 t32 H) fun t33=>
    cnd t33
     (some ((.int .i64 6),H))
     (ZgP x3 x5 x10 x11 x12 H0 H):=(Za3 [3,6,9,11,12,13] _ _ _ _).trans (by kernel_rfl)
theorem Zli (x3 x10 x11 x12 x13:AV) (H0 H:Hp):ZgM x3 x10 x11 x12 x13 H0 H =
    bnd (Zaf 2 x10 x12) fun t14=>
    bnd (Za2 true 2 t14 H) fun t15=>
    bnd (some ((.ptr H.length 0),H++[.cells [(.str []),(.int .i64 0)]])) fun r5=>
    bnd (Zab 2 r5.1 t15 r5.2) fun r_8=>
    bnd (Za5 0 r5.1) fun t16=>
    bnd (Za2 false 1 t16 r_8.2) fun t17=>
    bnd (Zae .string t17) fun t18=>
    bnd (ibin .neq t18 (.int .i64 2)) fun t19=>
    bnd (gdv t19 false (.tuple []) (Za5 1 r5.1)) fun t21=>
    bnd (gdv t19 false (.tuple []) (Za2 false 1 t21 r_8.2)) fun t22=>
    bnd (gdv t19 false (.tuple []) (ibin .lss t22 (.int .i64 0))) fun t23=>
    bnd (Zad t19 (.bool true) t23) fun t24=>
    bnd (gdv t24 false (.tuple []) (Za5 1 r5.1)) fun t26=>
    bnd (gdv t24 false (.tuple []) (Za2 false 1 t26 r_8.2)) fun t27=>
    bnd (gdv t24 false (.tuple []) (ibin .gtr t27 (.int .i64 65535))) fun t28=>
    bnd (Zad t24 (.bool true) t28) fun t29=>
    cnd t29
     (some ((.int .i64 2),r_8.2))
     (ZgO x3 r5.1 x10 x11 x12 H0 r_8.2):=(Za3 [3,6,9,11,12,13] _ _ _ _).trans (by kernel_rfl)
theorem Zfj (x3 x10 x11 x12:AV) (H0 H:Hp):Zci x3 x10 x11 x12 H0 H =
    bnd (ibin .lss x12 x11) fun t13=>
    cnd t13
     (ZgM x3 x10 x11 x12 t13 H0 H)
     (ZgL H0 H):=(Zar (C:=cfg) [3,6,9,11,12,13] (Zag 0 (Zka H0)) _ _).trans (by kernel_rfl)
theorem Zlg (x0:AV) (H0 H:Hp):ZgK x0 H0 H =
    bnd (some ((.map H.length),H++[.map [] 0])) fun r9=>
    bnd (Zae (.slice 210) x0) fun t11=>
    Zci r9.1 x0 t11 (.int .i64 0) H0 r9.2:=(Za3 [3,6,9,11,12,13] _ _ _ _).trans (by kernel_rfl)
theorem ZlS (p0:AV) (H:Hp):Zcw [p0] H=Zhn p0 H:=(Za9 (C:=cfg) (fn:=Tryz.f223) (c:=Za0 Tryz.f223) (n:=38) [3,6,9,11,12,13] Tryz.func223 (by kernel_rfl) (by kernel_rfl) [p0] (by kernel_rfl) H).trans (by kernel_rfl)

def ZjD (x3:AV) (H0 H:Hp):Res:=CXgC 226 23 (sub (Za0 Tryz.f226) [1,1,1]) (retL cfg 23 226 Tryz.f226 H0) [(3,x3)] H
def Zdy (H0:Hp):KL:=seqL (fun k al H=>CXgC 226 23 (sub (Za0 Tryz.f226) [1,1,1]) k (Za8 (cfg.keep 226) (sub (Za0 Tryz.f226) [1,1,1]) al) H) (retL cfg 23 226 Tryz.f226 H0)
theorem Zn3 (H0:Hp):Tame 23 (Zdy H0):=Zan (C:=cfg) (kp:=cfg.keep 226) (sub (Za0 Tryz.f226) [1,1,1]) (Zaq 226 Tryz.f226 H0)
def Zfu (x0 x3 x5:AV) (H0 H:Hp):Res:=CXgC 226 23 (sub (Za0 Tryz.f226) [1,1,0,1,0,0,1,1,1]) (seqL (fun k al H=>LPgC 226 23 (sub (Za0 Tryz.f226) [1,1,0,1,0,0]) k (Za8 (cfg.keep 226) (sub (Za0 Tryz.f226) [1,1,0,1,0,0]) al) H) (Za4 0 (Zdy H0))) [(0,x0),(3,x3),(5,x5)] H
def ZjE (x0 x3 x5 x6:AV) (H0 H:Hp):Res:=CXgC 226 23 (sub (Za0 Tryz.f226) [1,1,0,1,0,0,1,1]) (seqL (fun k al H=>LPgC 226 23 (sub (Za0 Tryz.f226) [1,1,0,1,0,0]) k (Za8 (cfg.keep 226) (sub (Za0 Tryz.f226) [1,1,0,1,0,0]) al) H) (Za4 0 (Zdy H0))) [(0,x0),(3,x3),(5,x5),(6,x6)] H
def Zdz (x0 x3 x5:AV) (H0 H:Hp):Res:=LPgC 226 23 (sub (Za0 Tryz.f226) [1,1,0,1,0,0]) (Za4 0 (Zdy H0)) [(0,x0),(3,x3),(5,x5)] H
def ZsV (p0:AV) (H:Hp):Res:=
 Zdz p0 (.int .i64 0) (.int .i64 0) H H
theorem Zph (x3:AV) (H0 H:Hp):ZjD x3 H0 H =
    some (x3,H):=(Za3 [4,8,9] _ _ _ _).trans (by kernel_rfl)
theorem Zhu (x0 x3 x5:AV) (H0 H:Hp):Zfu x0 x3 x5 H0 H =
    bnd (ibin .add x5 (.int .i64 1)) fun t21=>
    Zdz x0 x3 t21 H0 H:=(Za3 [4,8,9] _ _ _ _).trans (by kernel_rfl)
theorem Zpi (x0 x3 x5 x6:AV) (H0 H:Hp):ZjE x0 x3 x5 x6 H0 H =
    bnd (ibin .mul x3 (.int .i64 10)) fun t9=>
    bnd (Zae .string x0) fun t12=>
    bnd (ibin .lss x5 t12) fun t13=>
    cnd t13
     (bnd (Zal x0 x5) fun t17=>
     bnd (ibin .sub t17 (.int .u8 48)) fun t18=>
     bnd (Zbl .i64 t18) fun t19=>
     bnd (ibin .add t9 t19) fun t20=>
     Zfu x0 t20 x5 H0 H)
     (Zfu x0 t9 x5 H0 H):=(Za3 [4,8,9] _ _ _ _).trans (by kernel_rfl)
theorem Zhv (x0 x3 x5:AV) (H0 H:Hp):Zdz x0 x3 x5 H0 H =
    bnd (ibin .lss x5 (.int .i64 4)) fun t6=>
    cnd t6
     (ZjE x0 x3 x5 t6 H0 H)
     (ZjD x3 H0 H):=(Zar (C:=cfg) [4,8,9] (Zag 0 (Zn3 H0)) _ _).trans (by kernel_rfl)
theorem ZpB (p0:AV) (H:Hp):ZfQ [p0] H=ZsV p0 H:=(Za9 (C:=cfg) (fn:=Tryz.f226) (c:=Za0 Tryz.f226) (n:=23) [4,8,9] Tryz.func226 (by kernel_rfl) (by kernel_rfl) [p0] (by kernel_rfl) H).trans (by kernel_rfl)

def Zv4 (p0 p1:AV) (H:Hp):Res:=
 bnd (abox p0 H) fun r2=>
 bnd (Za2 true 6 r2.1 r2.2) fun t5=>
 bnd (Zaa Zhl [t5] r2.2) fun r6=>
 bnd (Zmr false 1 3 r6.1) fun t7=>
 bnd (Zaa Zmu [t7,p1] r6.2) fun r9=>
 some (r9.1,r9.2)
theorem Zyi (p0 p1:AV) (H:Hp):Zv0 [p0,p1] H=Zv4 p0 p1 H:=(Za9 (C:=cfg) (fn:=Tryz.f234) (c:=Za0 Tryz.f234) (n:=10) [] Tryz.func234 (by kernel_rfl) (by kernel_rfl) [p0,p1] (by kernel_rfl) H).trans (by kernel_rfl)

def Zv5 (p0:AV) (H:Hp):Res:=
 bnd (ibin .geq p0 (.int .i64 0)) fun t4=>
 bnd (gdv t4 true (.tuple []) (some p0)) fun t6=>
 bnd (gdv t4 true (.tuple []) (ibin .leq t6 (.int .i64 65535))) fun t7=>
 bnd (Zad t4 t7 (.bool false)) fun t8=>
 some (t8,H)
theorem Zyj (p0:AV) (H:Hp):Zhk [p0] H=Zv5 p0 H:=(Za9 (C:=cfg) (fn:=Tryz.f235) (c:=Za0 Tryz.f235) (n:=9) [] Tryz.func235 (by kernel_rfl) (by kernel_rfl) [p0] (by kernel_rfl) H).trans (by kernel_rfl)

def Zjy (H0 H:Hp):Res:=CXgC 236 37 (sub (Za0 Tryz.f236) [1,1,1]) (retL cfg 37 236 Tryz.f236 H0) [] H
def Zcp (H0:Hp):KL:=seqL (fun k al H=>CXgC 236 37 (sub (Za0 Tryz.f236) [1,1,1]) k (Za8 (cfg.keep 236) (sub (Za0 Tryz.f236) [1,1,1]) al) H) (retL cfg 37 236 Tryz.f236 H0)
theorem Zg0 (H0:Hp):Tame 37 (Zcp H0):=Zan (C:=cfg) (kp:=cfg.keep 236) (sub (Za0 Tryz.f236) [1,1,1]) (Zaq 236 Tryz.f236 H0)
def Zft (x0 x3:AV) (H0 H:Hp):Res:=CXgC 236 37 (sub (Za0 Tryz.f236) [1,1,0,1,0,0,1,1]) (seqL (fun k al H=>LPgC 236 37 (sub (Za0 Tryz.f236) [1,1,0,1,0,0]) k (Za8 (cfg.keep 236) (sub (Za0 Tryz.f236) [1,1,0,1,0,0]) al) H) (Za4 0 (Zcp H0))) [(0,x0),(3,x3)] H
def Zcq (H0:Hp):KL:=seqL (fun k al H=>CXgC 236 37 (sub (Za0 Tryz.f236) [1,1,0,1,0,0,1,1]) k (Za8 (cfg.keep 236) (sub (Za0 Tryz.f236) [1,1,0,1,0,0,1,1]) al) H) (seqL (fun k al H=>LPgC 236 37 (sub (Za0 Tryz.f236) [1,1,0,1,0,0]) k (Za8 (cfg.keep 236) (sub (Za0 Tryz.f236) [1,1,0,1,0,0]) al) H) (Za4 0 (Zcp H0)))
theorem ZmT (H0:Hp):Tame 37 (Zcq H0):=Zan (C:=cfg) (kp:=cfg.keep 236) (sub (Za0 Tryz.f236) [1,1,0,1,0,0,1,1]) (ZoU (C:=cfg) (kp:=cfg.keep 236) (sub (Za0 Tryz.f236) [1,1,0,1,0,0]) (Zag 0 (Zg0 H0)))
def ZjC (x0 x3 x4:AV) (H0 H:Hp):Res:=CXgC 236 37 (sub (Za0 Tryz.f236) [1,1,0,1,0,0,1,0,0,1,1,0,0,1,1]) (seqL (fun k al H=>LPgC 236 37 (sub (Za0 Tryz.f236) [1,1,0,1,0,0,1,0,0,1,1,0,0]) k (Za8 (cfg.keep 236) (sub (Za0 Tryz.f236) [1,1,0,1,0,0,1,0,0,1,1,0,0]) al) H) (Za4 2 (Za4 1 (Zcq H0)))) [(0,x0),(3,x3),(4,x4)] H
def ZjB (x0 x3 x4:AV) (H0 H:Hp):Res:=CXgC 236 37 (sub (Za0 Tryz.f236) [1,1,0,1,0,0,1,0,0,1,1,0,0,1]) (seqL (fun k al H=>LPgC 236 37 (sub (Za0 Tryz.f236) [1,1,0,1,0,0,1,0,0,1,1,0,0]) k (Za8 (cfg.keep 236) (sub (Za0 Tryz.f236) [1,1,0,1,0,0,1,0,0,1,1,0,0]) al) H) (Za4 2 (Za4 1 (Zcq H0)))) [(0,x0),(3,x3),(4,x4)] H
def Zdw (x0 x3 x4:AV) (H0 H:Hp):Res:=LPgC 236 37 (sub (Za0 Tryz.f236) [1,1,0,1,0,0,1,0,0,1,1,0,0]) (Za4 2 (Za4 1 (Zcq H0))) [(0,x0),(3,x3),(4,x4)] H
def ZjA (x0 x3:AV) (H0 H:Hp):Res:=CXgC 236 37 (sub (Za0 Tryz.f236) [1,1,0,1,0,0,1,0,0,1]) (Za4 1 (Zcq H0)) [(0,x0),(3,x3)] H
def Zjz (x0 x3:AV) (H0 H:Hp):Res:=CXgC 236 37 (sub (Za0 Tryz.f236) [1,1,0,1,0,0,1]) (seqL (fun k al H=>LPgC 236 37 (sub (Za0 Tryz.f236) [1,1,0,1,0,0]) k (Za8 (cfg.keep 236) (sub (Za0 Tryz.f236) [1,1,0,1,0,0]) al) H) (Za4 0 (Zcp H0))) [(0,x0),(3,x3)] H
def Zdv (x0 x3:AV) (H0 H:Hp):Res:=LPgC 236 37 (sub (Za0 Tryz.f236) [1,1,0,1,0,0]) (Za4 0 (Zcp H0)) [(0,x0),(3,x3)] H
def Zjx (x0:AV) (H0 H:Hp):Res:=CXgC 236 37 (sub (Za0 Tryz.f236) [1,1]) (retL cfg 37 236 Tryz.f236 H0) [(0,x0)] H
def Zkw (p0:AV) (H:Hp):Res:=
 bnd (Zae (.slice 264) p0) fun t6=>
 bnd (ibin .gtr t6 (.int .i64 24)) fun t7=>
 cnd t7
  (some ((.int .i64 3),H))
  (Zjx p0 H H)
theorem Zp6 (H0 H:Hp):Zjy H0 H =
    some ((.int .i64 0),H):=(Za3 [3,5,6,8,10,11,13] _ _ _ _).trans (by kernel_rfl)
theorem Zp8 (x0 x3:AV) (H0 H:Hp):Zft x0 x3 H0 H =
    bnd (ibin .add x3 (.int .i64 1)) fun t13=>
    Zdv x0 t13 H0 H:=(Za3 [3,5,6,8,10,11,13] _ _ _ _).trans (by kernel_rfl)
theorem Zpb (x0 x3 x4:AV) (H0 H:Hp):ZjC x0 x3 x4 H0 H =
    bnd (ibin .add x4 (.int .i64 1)) fun t25=>
    Zdw x0 x3 t25 H0 H:=(Za3 [3,5,6,8,10,11,13] _ _ _ _).trans (by kernel_rfl)
theorem Zpa (x0 x3 x4:AV) (H0 H:Hp):ZjB x0 x3 x4 H0 H =
    bnd (Zaf 5 x0 x4) fun t28=>
    bnd (Za5 0 t28) fun t29=>
    bnd (Za2 false 1 t29 H) fun t30=>
    bnd (Zaf 5 x0 x3) fun t33=>
    bnd (Za5 0 t33) fun t34=>
    bnd (Za2 false 1 t34 H) fun t35=>
    bnd (sbin .eql t30 t35) fun t36=>
    cnd t36
     (some ((.int .i64 6),H))
     (ZjC x0 x3 x4 H0 H):=(Za3 [3,5,6,8,10,11,13] _ _ _ _).trans (by kernel_rfl)
theorem Zhr (x0 x3 x4:AV) (H0 H:Hp):Zdw x0 x3 x4 H0 H =
    bnd (ibin .lss x4 x3) fun t23=>
    cnd t23
     (ZjB x0 x3 x4 H0 H)
     (Zft x0 x3 H0 H):=(Zar (C:=cfg) [3,5,6,8,10,11,13] (Zag 2 (Zag 1 (ZmT H0))) _ _).trans (by kernel_rfl)
theorem Zp9 (x0 x3:AV) (H0 H:Hp):ZjA x0 x3 H0 H =
    Zdw x0 x3 (.int .i64 0) H0 H:=(Za3 [3,5,6,8,10,11,13] _ _ _ _).trans (by kernel_rfl)
theorem Zp7 (x0 x3:AV) (H0 H:Hp):Zjz x0 x3 H0 H =
    bnd (Zaf 5 x0 x3) fun t16=>
    bnd (Za5 0 t16) fun t17=>
    bnd (Za2 false 1 t17 H) fun t18=>
    bnd (Zaa ZfP [t18] H) fun r19=>
    bnd (aun .not r19.1) fun t20=>
    cnd t20
     (some ((.int .i64 4),r19.2))
     (ZjA x0 x3 H0 r19.2):=(Za3 [3,5,6,8,10,11,13] _ _ _ _).trans (by kernel_rfl)
theorem Zhq (x0 x3:AV) (H0 H:Hp):Zdv x0 x3 H0 H =
    bnd (Zae (.slice 264) x0) fun t10=>
    bnd (ibin .lss x3 t10) fun t11=>
    cnd t11
     (Zjz x0 x3 H0 H)
     (Zjy H0 H):=(Zar (C:=cfg) [3,5,6,8,10,11,13] (Zag 0 (Zg0 H0)) _ _).trans (by kernel_rfl)
theorem Zp5 (x0:AV) (H0 H:Hp):Zjx x0 H0 H =
    Zdv x0 (.int .i64 0) H0 H:=(Za3 [3,5,6,8,10,11,13] _ _ _ _).trans (by kernel_rfl)
theorem Zpz (p0:AV) (H:Hp):ZdL [p0] H=Zkw p0 H:=(Za9 (C:=cfg) (fn:=Tryz.f236) (c:=Za0 Tryz.f236) (n:=37) [3,5,6,8,10,11,13] Tryz.func236 (by kernel_rfl) (by kernel_rfl) [p0] (by kernel_rfl) H).trans (by kernel_rfl)

def ZiQ (H0 H:Hp):Res:=CXgC 237 46 (sub (Za0 Tryz.f237) [1,1,1]) (retL cfg 46 237 Tryz.f237 H0) [] H
def Zc2 (H0:Hp):KL:=seqL (fun k al H=>CXgC 237 46 (sub (Za0 Tryz.f237) [1,1,1]) k (Za8 (cfg.keep 237) (sub (Za0 Tryz.f237) [1,1,1]) al) H) (retL cfg 46 237 Tryz.f237 H0)
theorem Zfz (H0:Hp):Tame 46 (Zc2 H0):=Zan (C:=cfg) (kp:=cfg.keep 237) (sub (Za0 Tryz.f237) [1,1,1]) (Zaq 237 Tryz.f237 H0)
def ZeR (x0 x3:AV) (H0 H:Hp):Res:=CXgC 237 46 (sub (Za0 Tryz.f237) [1,1,0,1,0,0,1,1]) (seqL (fun k al H=>LPgC 237 46 (sub (Za0 Tryz.f237) [1,1,0,1,0,0]) k (Za8 (cfg.keep 237) (sub (Za0 Tryz.f237) [1,1,0,1,0,0]) al) H) (Za4 0 (Zc2 H0))) [(0,x0),(3,x3)] H
def Zc3 (H0:Hp):KL:=seqL (fun k al H=>CXgC 237 46 (sub (Za0 Tryz.f237) [1,1,0,1,0,0,1,1]) k (Za8 (cfg.keep 237) (sub (Za0 Tryz.f237) [1,1,0,1,0,0,1,1]) al) H) (seqL (fun k al H=>LPgC 237 46 (sub (Za0 Tryz.f237) [1,1,0,1,0,0]) k (Za8 (cfg.keep 237) (sub (Za0 Tryz.f237) [1,1,0,1,0,0]) al) H) (Za4 0 (Zc2 H0)))
theorem ZlZ (H0:Hp):Tame 46 (Zc3 H0):=Zan (C:=cfg) (kp:=cfg.keep 237) (sub (Za0 Tryz.f237) [1,1,0,1,0,0,1,1]) (ZoU (C:=cfg) (kp:=cfg.keep 237) (sub (Za0 Tryz.f237) [1,1,0,1,0,0]) (Zag 0 (Zfz H0)))
def ZiU (x0 x3 x4:AV) (H0 H:Hp):Res:=CXgC 237 46 (sub (Za0 Tryz.f237) [1,1,0,1,0,0,1,0,0,1,1,0,0,1,1]) (seqL (fun k al H=>LPgC 237 46 (sub (Za0 Tryz.f237) [1,1,0,1,0,0,1,0,0,1,1,0,0]) k (Za8 (cfg.keep 237) (sub (Za0 Tryz.f237) [1,1,0,1,0,0,1,0,0,1,1,0,0]) al) H) (Za4 2 (Za4 1 (Zc3 H0)))) [(0,x0),(3,x3),(4,x4)] H
def ZiT (x0 x3 x4:AV) (H0 H:Hp):Res:=CXgC 237 46 (sub (Za0 Tryz.f237) [1,1,0,1,0,0,1,0,0,1,1,0,0,1]) (seqL (fun k al H=>LPgC 237 46 (sub (Za0 Tryz.f237) [1,1,0,1,0,0,1,0,0,1,1,0,0]) k (Za8 (cfg.keep 237) (sub (Za0 Tryz.f237) [1,1,0,1,0,0,1,0,0,1,1,0,0]) al) H) (Za4 2 (Za4 1 (Zc3 H0)))) [(0,x0),(3,x3),(4,x4)] H
def ZcW (x0 x3 x4:AV) (H0 H:Hp):Res:=LPgC 237 46 (sub (Za0 Tryz.f237) [1,1,0,1,0,0,1,0,0,1,1,0,0]) (Za4 2 (Za4 1 (Zc3 H0))) [(0,x0),(3,x3),(4,x4)] H
def ZiS (x0 x3:AV) (H0 H:Hp):Res:=CXgC 237 46 (sub (Za0 Tryz.f237) [1,1,0,1,0,0,1,0,0,1]) (Za4 1 (Zc3 H0)) [(0,x0),(3,x3)] H
def ZiR (x0 x3:AV) (H0 H:Hp):Res:=CXgC 237 46 (sub (Za0 Tryz.f237) [1,1,0,1,0,0,1]) (seqL (fun k al H=>LPgC 237 46 (sub (Za0 Tryz.f237) [1,1,0,1,0,0]) k (Za8 (cfg.keep 237) (sub (Za0 Tryz.f237) [1,1,0,1,0,0]) al) H) (Za4 0 (Zc2 H0))) [(0,x0),(3,x3)] H
def ZcV (x0 x3:AV) (H0 H:Hp):Res:=LPgC 237 46 (sub (Za0 Tryz.f237) [1,1,0,1,0,0]) (Za4 0 (Zc2 H0)) [(0,x0),(3,x3)] H
def ZiP (x0:AV) (H0 H:Hp):Res:=CXgC 237 46 (sub (Za0 Tryz.f237) [1,1]) (retL cfg 46 237 Tryz.f237 H0) [(0,x0)] H
def Zjr (p0:AV) (H:Hp):Res:=
 bnd (Zae (.slice 210) p0) fun t6=>
 bnd (ibin .gtr t6 (.int .i64 64)) fun t7=>
 cnd t7
  (some ((.int .i64 3),H))
  (ZiP p0 H H)
theorem ZnT (H0 H:Hp):ZiQ H0 H =
    some ((.int .i64 0),H):=(Za3 [3,5,6,8,10,11,13] _ _ _ _).trans (by kernel_rfl)
theorem ZnV (x0 x3:AV) (H0 H:Hp):ZeR x0 x3 H0 H =
    bnd (ibin .add x3 (.int .i64 1)) fun t13=>
    ZcV x0 t13 H0 H:=(Za3 [3,5,6,8,10,11,13] _ _ _ _).trans (by kernel_rfl)
theorem ZnY (x0 x3 x4:AV) (H0 H:Hp):ZiU x0 x3 x4 H0 H =
    bnd (ibin .add x4 (.int .i64 1)) fun t34=>
    ZcW x0 x3 t34 H0 H:=(Za3 [3,5,6,8,10,11,13] _ _ _ _).trans (by kernel_rfl)
theorem ZnX (x0 x3 x4:AV) (H0 H:Hp):ZiT x0 x3 x4 H0 H =
    bnd (Zaf 2 x0 x4) fun t37=>
    bnd (Za5 0 t37) fun t38=>
    bnd (Za2 false 1 t38 H) fun t39=>
    bnd (Zaf 2 x0 x3) fun t42=>
    bnd (Za5 0 t42) fun t43=>
    bnd (Za2 false 1 t43 H) fun t44=>
    bnd (sbin .eql t39 t44) fun t45=>
    cnd t45
     (some ((.int .i64 6),H))
     (ZiU x0 x3 x4 H0 H):=(Za3 [3,5,6,8,10,11,13] _ _ _ _).trans (by kernel_rfl)
theorem ZgJ (x0 x3 x4:AV) (H0 H:Hp):ZcW x0 x3 x4 H0 H =
    bnd (ibin .lss x4 x3) fun t32=>
    cnd t32
     (ZiT x0 x3 x4 H0 H)
     (ZeR x0 x3 H0 H):=(Zar (C:=cfg) [3,5,6,8,10,11,13] (Zag 2 (Zag 1 (ZlZ H0))) _ _).trans (by kernel_rfl)
theorem ZnW (x0 x3:AV) (H0 H:Hp):ZiS x0 x3 H0 H =
    ZcW x0 x3 (.int .i64 0) H0 H:=(Za3 [3,5,6,8,10,11,13] _ _ _ _).trans (by kernel_rfl)
theorem ZnU (x0 x3:AV) (H0 H:Hp):ZiR x0 x3 H0 H =
    bnd (Zaf 2 x0 x3) fun t16=>
    bnd (Za5 0 t16) fun t17=>
    bnd (Za2 false 1 t17 H) fun t18=>
    bnd (Zae .string t18) fun t19=>
    bnd (ibin .neq t19 (.int .i64 2)) fun t20=>
    bnd (gdv t20 false (.tuple []) (some x0)) fun t22=>
    bnd (gdv t20 false (.tuple []) (some x3)) fun t23=>
    bnd (gdv t20 false (.tuple []) (Zaf 2 t22 t23)) fun t24=>
    bnd (gdv t20 false (.tuple []) (Za5 1 t24)) fun t25=>
    bnd (gdv t20 false (.tuple []) (Za2 false 1 t25 H)) fun t26=>
    bnd (gdv t20 false ((.tuple []),H) (Zaa Zhk [t26] H)) fun r27=>
    bnd (gdv t20 false (.tuple []) (aun .not r27.1)) fun t28=>
    bnd (Zad t20 (.bool true) t28) fun t29=>
    cnd t29
     (some ((.int .i64 2),r27.2))
     (ZiS x0 x3 H0 r27.2):=(Za3 [3,5,6,8,10,11,13] _ _ _ _).trans (by kernel_rfl)
theorem ZgI (x0 x3:AV) (H0 H:Hp):ZcV x0 x3 H0 H =
    bnd (Zae (.slice 210) x0) fun t10=>
    bnd (ibin .lss x3 t10) fun t11=>
    cnd t11
     (ZiR x0 x3 H0 H)
     (ZiQ H0 H):=(Zar (C:=cfg) [3,5,6,8,10,11,13] (Zag 0 (Zfz H0)) _ _).trans (by kernel_rfl)
theorem ZnS (x0:AV) (H0 H:Hp):ZiP x0 H0 H =
    ZcV x0 (.int .i64 0) H0 H:=(Za3 [3,5,6,8,10,11,13] _ _ _ _).trans (by kernel_rfl)
theorem ZoZ (p0:AV) (H:Hp):Zdr [p0] H=Zjr p0 H:=(Za9 (C:=cfg) (fn:=Tryz.f237) (c:=Za0 Tryz.f237) (n:=46) [3,5,6,8,10,11,13] Tryz.func237 (by kernel_rfl) (by kernel_rfl) [p0] (by kernel_rfl) H).trans (by kernel_rfl)

def ZrH (x5:AV) (H0 H:Hp):Res:=CXgC 252 23 (sub (Za0 Tryz.f252) [1,1,1]) (retL cfg 23 252 Tryz.f252 H0) [(5,x5)] H
def ZhV (H0:Hp):KL:=seqL (fun k al H=>CXgC 252 23 (sub (Za0 Tryz.f252) [1,1,1]) k (Za8 (cfg.keep 252) (sub (Za0 Tryz.f252) [1,1,1]) al) H) (retL cfg 23 252 Tryz.f252 H0)
theorem Ztn (H0:Hp):Tame 23 (ZhV H0):=Zan (C:=cfg) (kp:=cfg.keep 252) (sub (Za0 Tryz.f252) [1,1,1]) (Zaq 252 Tryz.f252 H0)
def ZrJ (x0 x1 x5 x6:AV) (H0 H:Hp):Res:=CXgC 252 23 (sub (Za0 Tryz.f252) [1,1,0,1,0,0,1,1]) (seqL (fun k al H=>LPgC 252 23 (sub (Za0 Tryz.f252) [1,1,0,1,0,0]) k (Za8 (cfg.keep 252) (sub (Za0 Tryz.f252) [1,1,0,1,0,0]) al) H) (Za4 0 (ZhV H0))) [(0,x0),(1,x1),(5,x5),(6,x6)] H
def ZrI (x0 x1 x5 x6:AV) (H0 H:Hp):Res:=CXgC 252 23 (sub (Za0 Tryz.f252) [1,1,0,1,0,0,1]) (seqL (fun k al H=>LPgC 252 23 (sub (Za0 Tryz.f252) [1,1,0,1,0,0]) k (Za8 (cfg.keep 252) (sub (Za0 Tryz.f252) [1,1,0,1,0,0]) al) H) (Za4 0 (ZhV H0))) [(0,x0),(1,x1),(5,x5),(6,x6)] H
def ZhW (x0 x1 x5 x6:AV) (H0 H:Hp):Res:=LPgC 252 23 (sub (Za0 Tryz.f252) [1,1,0,1,0,0]) (Za4 0 (ZhV H0)) [(0,x0),(1,x1),(5,x5),(6,x6)] H
def ZsU (p0 p1:AV) (H:Hp):Res:=
 ZhW p0 p1 .nils (.int .i64 0) H H
theorem ZvG (x5:AV) (H0 H:Hp):ZrH x5 H0 H =
    bnd (cvRd x5 H) fun t22=>
    some (t22,H):=(Za3 [4,5,6] _ _ _ _).trans (by kernel_rfl)
theorem ZvI (x0 x1 x5 x6:AV) (H0 H:Hp):ZrJ x0 x1 x5 x6 H0 H =
    bnd (ibin .add x6 (.int .i64 1)) fun t12=>
    ZhW x0 x1 x5 t12 H0 H:=(Za3 [4,5,6] _ _ _ _).trans (by kernel_rfl)
theorem ZvH (x0 x1 x5 x6:AV) (H0 H:Hp):ZrI x0 x1 x5 x6 H0 H =
    bnd (Zal x1 x6) fun t17=>
    bnd (Zal x0 t17) fun t18=>
    bnd ((Zau 1 [(0,t18)] [(.int .u8 0)]).map (.vs 1 .clip)) fun t19=>
    bnd (ZaH 1 1 x5 t19 H) fun r20=>
    ZrJ x0 x1 r20.1 x6 H0 r20.2:=(Za3 [4,5,6] _ _ _ _).trans (by kernel_rfl)
theorem ZmU (x0 x1 x5 x6:AV) (H0 H:Hp):ZhW x0 x1 x5 x6 H0 H =
    bnd (Zae .string x1) fun t9=>
    bnd (ibin .lss x6 t9) fun t10=>
    cnd t10
     (ZrI x0 x1 x5 x6 H0 H)
     (ZrH x5 H0 H):=(Zar (C:=cfg) [4,5,6] (Zag 0 (Ztn H0)) _ _).trans (by kernel_rfl)
theorem Zwm (p0 p1:AV) (H:Hp):Zmu [p0,p1] H=ZsU p0 p1 H:=(Za9 (C:=cfg) (fn:=Tryz.f252) (c:=Za0 Tryz.f252) (n:=23) [4,5,6] Tryz.func252 (by kernel_rfl) (by kernel_rfl) [p0,p1] (by kernel_rfl) H).trans (by kernel_rfl)

end
end Go.Am
