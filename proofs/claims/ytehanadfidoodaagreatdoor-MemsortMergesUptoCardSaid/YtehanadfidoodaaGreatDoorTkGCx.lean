/-
  The functions of the translation over the abstract machine, a further part: written by program (wip/gen.py).
-/
import Derived.Test.YtehanadfidoodaaGreatDoorTkGx
namespace Go.Am
open Go.Proofs
set_option maxRecDepth 100000
set_option linter.unusedVariables false
set_option linter.unusedSimpArgs false
noncomputable abbrev CXgC (f n:Nat):=CXL cfg (Za7 cfg) (LPL cfg (cfg.keep f) n) (cfg.keep f) n seqL Za3
noncomputable abbrev LPgC (f n:Nat):=LPL cfg (cfg.keep f) n
noncomputable section

def Zm7 (x9:AV) (H0 H:Hp):Res:=CXgC 67 39 (sub (Za0 Tryz.f67) [1,1,1,1,1,1]) (retL cfg 39 67 Tryz.f67 H0) [(9,x9)] H
def ZgR (x2 x3 x4 x5:AV) (H0 H:Hp):Res:=CXgC 67 39 (sub (Za0 Tryz.f67) [1,1,1,1]) (retL cfg 39 67 Tryz.f67 H0) [(2,x2),(3,x3),(4,x4),(5,x5)] H
def Zmw (p0 p1 p2 p3:AV) (H:Hp):Res:=
 bnd (abox p0 H) fun r4=>
 bnd (abox p1 r4.2) fun r5=>
 bnd (Za2 true 5 r5.1 r5.2) fun t10=>
 bnd (Za5 Zck [t10] r5.2) fun r11=>
 bnd (Zag 5 r5.1 r11.1 r11.2) fun r_5=>
 bnd (Za2 true 6 r4.1 r_5.2) fun t12=>
 bnd (Za2 true 5 r5.1 r_5.2) fun t13=>
 bnd (Za5 ZbZ [t12,t13,p2,p3] r_5.2) fun r16=>
 bnd (ibin .neq r16.1 (.int .i64 0)) fun t18=>
 bnd (gdv t18 false (.tuple []) (Zaa 4 r5.1)) fun t20=>
 bnd (gdv t18 false (.tuple []) (Za2 false 1 t20 r16.2)) fun t21=>
 bnd (Zae t18 (.bool true) t21) fun t22=>
 bnd (gdv t22 false (.tuple []) (Zaa 3 r5.1)) fun t24=>
 bnd (gdv t22 false (.tuple []) (Za2 false 1 t24 r16.2)) fun t25=>
 bnd (Zae t22 (.bool true) t25) fun t26=>
 cnd t26
  (some (r16.1,r16.2))
  (ZgR p2 p3 r4.1 r5.1 H r16.2)
theorem ZqI (x9:AV) (H0 H:Hp):Zm7 x9 H0 H =
    some (x9,H):=(Za4 [5,8] _ _ _ _).trans (by kernel_rfl)
theorem ZqH (x2 x3 x4 x5:AV) (H0 H:Hp):ZgR x2 x3 x4 x5 H0 H =
    bnd (Za2 true 6 x4 H) fun t28=>
    bnd (Za5 ZcL [t28,x2,x3] H) fun r31=>
    bnd (Zaa 2 x5) fun t32=>
    bnd (Za2 false 1 t32 r31.2) fun t33=>
    bnd (ibin .and t33 (.int .i64 2)) fun t34=>
    bnd (ibin .neq t34 (.int .i64 0)) fun t35=>
    cnd t35
     (bnd (aun .neg r31.1) fun t37=>
     some (t37,r31.2))
     (Zm7 r31.1 H0 r31.2):=(Za4 [5,8] _ _ _ _).trans (by kernel_rfl)
theorem Zr6 (p0 p1 p2 p3:AV) (H:Hp):Zci [p0,p1,p2,p3] H=Zmw p0 p1 p2 p3 H:=(Zab (C:=cfg) (fn:=Tryz.f67) (c:=Za0 Tryz.f67) (n:=39) [5,8] Tryz.func67 (by kernel_rfl) (by kernel_rfl) [p0,p1,p2,p3] (by kernel_rfl) H).trans (by kernel_rfl)

def ZjC (H0 H:Hp):Res:=CXgC 72 55 (sub (Za0 Tryz.f72) [1,1,1,1]) (retL cfg 55 72 Tryz.f72 H0) [] H
def Zcg (H0:Hp):KL:=seqL (fun k al H=>CXgC 72 55 (sub (Za0 Tryz.f72) [1,1,1,1]) k (Za8 (cfg.keep 72) (sub (Za0 Tryz.f72) [1,1,1,1]) al) H) (retL cfg 55 72 Tryz.f72 H0)
theorem Zmp (H0:Hp):Tame 55 (Zcg H0):=Zak (C:=cfg) (kp:=cfg.keep 72) (sub (Za0 Tryz.f72) [1,1,1,1]) (Zao 72 Tryz.f72 H0)
def ZjE (x2 x3 x4 x5 x26 x27 x28:AV) (H0 H:Hp):Res:=CXgC 72 55 (sub (Za0 Tryz.f72) [1,1,1,0,1,0,0,1,1,1]) (seqL (fun k al H=>LPgC 72 55 (sub (Za0 Tryz.f72) [1,1,1,0,1,0,0]) k (Za8 (cfg.keep 72) (sub (Za0 Tryz.f72) [1,1,1,0,1,0,0]) al) H) (Za3 0 (Zcg H0))) [(2,x2),(3,x3),(4,x4),(5,x5),(26,x26),(27,x27),(28,x28)] H
def Zsw (H0:Hp):KL:=seqL (fun k al H=>CXgC 72 55 (sub (Za0 Tryz.f72) [1,1,1,0,1,0,0,1,1,1]) k (Za8 (cfg.keep 72) (sub (Za0 Tryz.f72) [1,1,1,0,1,0,0,1,1,1]) al) H) (seqL (fun k al H=>LPgC 72 55 (sub (Za0 Tryz.f72) [1,1,1,0,1,0,0]) k (Za8 (cfg.keep 72) (sub (Za0 Tryz.f72) [1,1,1,0,1,0,0]) al) H) (Za3 0 (Zcg H0)))
def Zdp (x2 x3 x4 x5 x10 x11 x26 x27 x28:AV) (H0 H:Hp):Res:=CXgC 72 55 (sub (Za0 Tryz.f72) [1,1,1,0,1,0,0,1,1,0,0,1,1,1]) (Za3 1 (Zsw H0)) [(2,x2),(3,x3),(4,x4),(5,x5),(10,x10),(11,x11),(26,x26),(27,x27),(28,x28)] H
def ZjD (x2 x3 x4 x5 x26 x27 x28 x29:AV) (H0 H:Hp):Res:=CXgC 72 55 (sub (Za0 Tryz.f72) [1,1,1,0,1,0,0,1,1]) (seqL (fun k al H=>LPgC 72 55 (sub (Za0 Tryz.f72) [1,1,1,0,1,0,0]) k (Za8 (cfg.keep 72) (sub (Za0 Tryz.f72) [1,1,1,0,1,0,0]) al) H) (Za3 0 (Zcg H0))) [(2,x2),(3,x3),(4,x4),(5,x5),(26,x26),(27,x27),(28,x28),(29,x29)] H
def Zdq (x2 x3 x4 x5 x26 x27 x28:AV) (H0 H:Hp):Res:=LPgC 72 55 (sub (Za0 Tryz.f72) [1,1,1,0,1,0,0]) (Za3 0 (Zcg H0)) [(2,x2),(3,x3),(4,x4),(5,x5),(26,x26),(27,x27),(28,x28)] H
def ZjB (x2 x3 x4 x5:AV) (H0 H:Hp):Res:=CXgC 72 55 (sub (Za0 Tryz.f72) [1,1,1]) (retL cfg 55 72 Tryz.f72 H0) [(2,x2),(3,x3),(4,x4),(5,x5)] H
def Zkc (p0 p1 p2 p3:AV) (H:Hp):Res:=
 bnd (abox p0 H) fun r4=>
 bnd (abox p1 r4.2) fun r5=>
 bnd (Za2 true 5 r5.1 r5.2) fun t13=>
 bnd (Za5 Zck [t13] r5.2) fun r14=>
 bnd (Zag 5 r5.1 r14.1 r14.2) fun r_5=>
 bnd (Zaa 0 r5.1) fun t15=>
 bnd (Za2 false 1 t15 r_5.2) fun t16=>
 bnd (Zaf (.slice 149) t16) fun t17=>
 bnd (ibin .eql t17 (.int .i64 0)) fun t18=>
 cnd t18
  (bnd (Za2 true 6 r4.1 r_5.2) fun t19=>
  bnd (Zaa 2 r5.1) fun t20=>
  bnd (Za2 false 1 t20 r_5.2) fun t21=>
  bnd (Za5 Zd9 [t19,t21,p2,p3] r_5.2) fun r24=>
  some (r24.1,r24.2))
  (ZjB p2 p3 r4.1 r5.1 H r_5.2)
theorem Zow (H0 H:Hp):ZjC H0 H =
    some ((.int .i64 0),H):=(Za4 [4,6,10,13,14] _ _ _ _).trans (by kernel_rfl)
theorem Zoy (x2 x3 x4 x5 x26 x27 x28:AV) (H0 H:Hp):ZjE x2 x3 x4 x5 x26 x27 x28 H0 H =
    bnd (ibin .add x28 (.int .i64 1)) fun t54=>
    Zdq x2 x3 x4 x5 x26 x27 t54 H0 H:=(Za4 [4,6,10,13,14] _ _ _ _).trans (by kernel_rfl)
theorem Zoz (x2 x3 x4 x5 x10 x11 x26 x27 x28:AV) (H0 H:Hp):Zdp x2 x3 x4 x5 x10 x11 x26 x27 x28 H0 H =
    frzK x4 H fun z4 z4H=>
    frzK x5 z4H fun z5 z5H=>
    frzK x10 z5H fun z10 z10H=>
    bnd (Zcq true 6 z4) fun t38=>
    bnd (Za2 true 5 z10 z10H) fun t41=>
    bnd (Zaa 1 z5) fun t42=>
    bnd (Za2 false 1 t42 z10H) fun t43=>
    bnd (Zdy [x2,t41,t43] z10H) fun r44=>
    bnd (Zcq true 5 z10) fun t46=>
    bnd (Zaa 1 z5) fun t47=>
    bnd (Zcq false 1 t47) fun t48=>
    bnd (Zdy [x3,t46,t48] r44.2) fun r49=>
    bnd (Za5 Zd9 [t38,x11,r44.1,r49.1] r49.2) fun r50=>
    bnd (ibin .neq r50.1 (.int .i64 0)) fun t52=>
    cnd t52
     (some (r50.1,r50.2))
     (ZjE x2 x3 z4 z5 x26 x27 x28 H0 r50.2):=(Za4 [4,6,10,13,14] _ _ _ _).trans (by kernel_rfl)
theorem Zox (x2 x3 x4 x5 x26 x27 x28 x29:AV) (H0 H:Hp):ZjD x2 x3 x4 x5 x26 x27 x28 x29 H0 H =
    bnd (Zad 5 x26 x28) fun t30=>
    bnd (Za2 true 5 t30 H) fun t31=>
    bnd (some ((.ptr H.length 0),H++[.cells [(.int .i64 0),(.int .i64 0),(.int .i64 0),(.int .i64 0),(.int .i64 0)]])) fun r10=>
    bnd (Zag 5 r10.1 t31 r10.2) fun r_14=>
    bnd (Zaa 4 r10.1) fun t32=>
    bnd (Za2 false 1 t32 r_14.2) fun t33=>
    bnd (ibin .eql t33 (.int .i64 0)) fun t35=>
    cnd t35
     (bnd (Zaa 2 x5) fun t36=>
     bnd (Za2 false 1 t36 r_14.2) fun t37=>
     Zdp x2 x3 x4 x5 r10.1 t37 x26 x27 x28 H0 r_14.2)
     (Zdp x2 x3 x4 x5 r10.1 t33 x26 x27 x28 H0 r_14.2):=(Za4 [4,6,10,13,14] _ _ _ _).trans (by kernel_rfl)
theorem Zh6 (x2 x3 x4 x5 x26 x27 x28:AV) (H0 H:Hp):Zdq x2 x3 x4 x5 x26 x27 x28 H0 H =
    bnd (ibin .lss x28 x27) fun t29=>
    cnd t29
     (ZjD x2 x3 x4 x5 x26 x27 x28 t29 H0 H)
     (ZjC H0 H):=(Zap (C:=cfg) [4,6,10,13,14] (Zah 0 (Zmp H0)) _ _).trans (by kernel_rfl)
theorem Zov (x2 x3 x4 x5:AV) (H0 H:Hp):ZjB x2 x3 x4 x5 H0 H =
    bnd (Zaa 0 x5) fun t25=>
    bnd (Za2 false 1 t25 H) fun t26=>
    bnd (Zaf (.slice 149) t26) fun t27=>
    Zdq x2 x3 x4 x5 t26 t27 (.int .i64 0) H0 H:=(Za4 [4,6,10,13,14] _ _ _ _).trans (by kernel_rfl)
theorem ZoK (p0 p1 p2 p3:AV) (H:Hp):ZbZ [p0,p1,p2,p3] H=Zkc p0 p1 p2 p3 H:=(Zab (C:=cfg) (fn:=Tryz.f72) (c:=Za0 Tryz.f72) (n:=55) [4,6,10,13,14] Tryz.func72 (by kernel_rfl) (by kernel_rfl) [p0,p1,p2,p3] (by kernel_rfl) H).trans (by kernel_rfl)

def ZrJ (x9:AV) (H0 H:Hp):Res:=CXgC 74 38 (sub (Za0 Tryz.f74) [1,1,1,1,1,1]) (retL cfg 38 74 Tryz.f74 H0) [(9,x9)] H
def Zlu (x2 x3 x4 x5:AV) (H0 H:Hp):Res:=CXgC 74 38 (sub (Za0 Tryz.f74) [1,1,1,1]) (retL cfg 38 74 Tryz.f74 H0) [(2,x2),(3,x3),(4,x4),(5,x5)] H
def ZtH (p0 p1 p2 p3:AV) (H:Hp):Res:=
 bnd (abox p0 H) fun r4=>
 bnd (abox p1 r4.2) fun r5=>
 bnd (Za2 true 5 r5.1 r5.2) fun t10=>
 bnd (Za5 Zeu [t10] r5.2) fun r11=>
 bnd (Zag 5 r5.1 r11.1 r11.2) fun r_5=>
 bnd (Za2 true 6 r4.1 r_5.2) fun t12=>
 bnd (Za2 true 5 r5.1 r_5.2) fun t13=>
 bnd (Za5 Zek [t12,t13,p2,p3] r_5.2) fun r16=>
 bnd (ibin .neq r16.1 (.int .i64 0)) fun t18=>
 bnd (gdv t18 false (.tuple []) (Zaa 4 r5.1)) fun t20=>
 bnd (gdv t18 false (.tuple []) (Za2 false 1 t20 r16.2)) fun t21=>
 bnd (Zae t18 (.bool true) t21) fun t22=>
 bnd (gdv t22 false (.tuple []) (Zaa 3 r5.1)) fun t24=>
 bnd (gdv t22 false (.tuple []) (Za2 false 1 t24 r16.2)) fun t25=>
 bnd (Zae t22 (.bool true) t25) fun t26=>
 cnd t26
  (some (r16.1,r16.2))
  (Zlu p2 p3 r4.1 r5.1 H r16.2)
theorem ZvV (x9:AV) (H0 H:Hp):ZrJ x9 H0 H =
    some (x9,H):=(Za4 [5,8] _ _ _ _).trans (by kernel_rfl)
theorem ZvU (x2 x3 x4 x5:AV) (H0 H:Hp):Zlu x2 x3 x4 x5 H0 H =
    bnd (Za2 true 6 x4 H) fun t28=>
    bnd (Za5 Zej [t28,x2,x3] H) fun r31=>
    bnd (Zaa 2 x5) fun t32=>
    bnd (Za2 false 1 t32 r31.2) fun t33=>
    bnd (Za5 ZbF [t33,(.int .i64 2)] r31.2) fun r34=>
    cnd r34.1
     (bnd (aun .neg r31.1) fun t36=>
     some (t36,r34.2))
     (ZrJ r31.1 H0 r34.2):=(Za4 [5,8] _ _ _ _).trans (by kernel_rfl)
theorem Zxz (p0 p1 p2 p3:AV) (H:Hp):ZiU [p0,p1,p2,p3] H=ZtH p0 p1 p2 p3 H:=(Zab (C:=cfg) (fn:=Tryz.f74) (c:=Za0 Tryz.f74) (n:=38) [5,8] Tryz.func74 (by kernel_rfl) (by kernel_rfl) [p0,p1,p2,p3] (by kernel_rfl) H).trans (by kernel_rfl)

def Zmf (x1 x2:AV) (H0 H:Hp):Res:=CXgC 105 8 (sub (Za0 Tryz.f105) [1,1]) (retL cfg 8 105 Tryz.f105 H0) [(1,x1),(2,x2)] H
def Zhg (p0:AV) (H:Hp):Res:=
 bnd (abox p0 H) fun r1=>
 bnd (some ((.ptr r1.2.length 0),r1.2++[.cells [.nils,(.int .i64 0),(.int .i64 0),(.bool false),(.bool false)]])) fun r2=>
 bnd (Za2 true 5 r1.1 r2.2) fun t3=>
 bnd (Za5 ZbR [t3] r2.2) fun r4=>
 bnd (ibin .neq r4.1 (.int .i64 0)) fun t5=>
 cnd t5
  (bnd ((ZbJ [(1,1,(.int .i64 (-1)))] [.nils,(.int .i64 0),(.int .i64 0),(.bool false),(.bool false)]).map .agg) fun t6=>
  bnd (Zag 5 r2.1 t6 r4.2) fun r_10=>
  bnd (Za2 true 5 r2.1 r_10.2) fun v2=>
  some (v2,r_10.2))
  (Zmf r1.1 r2.1 H r4.2)
theorem ZqW (x1 x2:AV) (H0 H:Hp):Zmf x1 x2 H0 H =
    bnd (Za2 true 5 x1 H) fun t7=>
    bnd (Zag 5 x2 t7 H) fun r_4=>
    bnd (Za2 true 5 x2 r_4.2) fun v2=>
    some (v2,r_4.2):=(Za4 [3] _ _ _ _).trans (by kernel_rfl)
theorem Zjo (p0:AV) (H:Hp):Zck [p0] H=Zhg p0 H:=(Zab (C:=cfg) (fn:=Tryz.f105) (c:=Za0 Tryz.f105) (n:=8) [3] Tryz.func105 (by kernel_rfl) (by kernel_rfl) [p0] (by kernel_rfl) H).trans (by kernel_rfl)

def Zkq (x1 x2:AV) (H0 H:Hp):Res:=CXgC 106 60 (sub (Za0 Tryz.f106) [1,1,1,1,1,1,1]) (retL cfg 60 106 Tryz.f106 H0) [(1,x1),(2,x2)] H
def Zkp (x1 x2 x8 x9:AV) (H0 H:Hp):Res:=CXgC 106 60 (sub (Za0 Tryz.f106) [1,1,1,1,1,1]) (retL cfg 60 106 Tryz.f106 H0) [(1,x1),(2,x2),(8,x8),(9,x9)] H
def Zko (x1 x2 x8 x9:AV) (H0 H:Hp):Res:=CXgC 106 60 (sub (Za0 Tryz.f106) [1,1,1,1,1]) (retL cfg 60 106 Tryz.f106 H0) [(1,x1),(2,x2),(8,x8),(9,x9)] H
def Zcr (H0:Hp):KL:=seqL (fun k al H=>CXgC 106 60 (sub (Za0 Tryz.f106) [1,1,1,1,1]) k (Za8 (cfg.keep 106) (sub (Za0 Tryz.f106) [1,1,1,1,1]) al) H) (retL cfg 60 106 Tryz.f106 H0)
theorem ZnE (H0:Hp):Tame 60 (Zcr H0):=Zak (C:=cfg) (kp:=cfg.keep 106) (sub (Za0 Tryz.f106) [1,1,1,1,1]) (Zao 106 Tryz.f106 H0)
def Zks (x1 x2 x8 x9 x24 x25:AV) (H0 H:Hp):Res:=CXgC 106 60 (sub (Za0 Tryz.f106) [1,1,1,1,0,1,0,0,1,1,1]) (seqL (fun k al H=>LPgC 106 60 (sub (Za0 Tryz.f106) [1,1,1,1,0,1,0,0]) k (Za8 (cfg.keep 106) (sub (Za0 Tryz.f106) [1,1,1,1,0,1,0,0]) al) H) (Za3 0 (Zcr H0))) [(1,x1),(2,x2),(8,x8),(9,x9),(24,x24),(25,x25)] H
def Ztt (H0:Hp):KL:=seqL (fun k al H=>CXgC 106 60 (sub (Za0 Tryz.f106) [1,1,1,1,0,1,0,0,1,1,1]) k (Za8 (cfg.keep 106) (sub (Za0 Tryz.f106) [1,1,1,1,0,1,0,0,1,1,1]) al) H) (seqL (fun k al H=>LPgC 106 60 (sub (Za0 Tryz.f106) [1,1,1,1,0,1,0,0]) k (Za8 (cfg.keep 106) (sub (Za0 Tryz.f106) [1,1,1,1,0,1,0,0]) al) H) (Za3 0 (Zcr H0)))
def Zkt (x1 x2 x8 x9 x10 x24 x25:AV) (H0 H:Hp):Res:=CXgC 106 60 (sub (Za0 Tryz.f106) [1,1,1,1,0,1,0,0,1,1,0,0,1,1]) (Za3 1 (Ztt H0)) [(1,x1),(2,x2),(8,x8),(9,x9),(10,x10),(24,x24),(25,x25)] H
def Zkr (x1 x2 x8 x9 x24 x25 x26:AV) (H0 H:Hp):Res:=CXgC 106 60 (sub (Za0 Tryz.f106) [1,1,1,1,0,1,0,0,1,1]) (seqL (fun k al H=>LPgC 106 60 (sub (Za0 Tryz.f106) [1,1,1,1,0,1,0,0]) k (Za8 (cfg.keep 106) (sub (Za0 Tryz.f106) [1,1,1,1,0,1,0,0]) al) H) (Za3 0 (Zcr H0))) [(1,x1),(2,x2),(8,x8),(9,x9),(24,x24),(25,x25),(26,x26)] H
def ZdC (x1 x2 x8 x9 x24 x25:AV) (H0 H:Hp):Res:=LPgC 106 60 (sub (Za0 Tryz.f106) [1,1,1,1,0,1,0,0]) (Za3 0 (Zcr H0)) [(1,x1),(2,x2),(8,x8),(9,x9),(24,x24),(25,x25)] H
def Zla (p0 p1 p2:AV) (H:Hp):Res:=
 bnd (abox p0 H) fun r3=>
 bnd (Za2 true 6 r3.1 r3.2) fun t11=>
 bnd (Za5 ZcG [t11] r3.2) fun r12=>
 bnd (Zag 6 r3.1 r12.1 r12.2) fun r_4=>
 frzK r3.1 r_4.2 fun z3 z3H=>
 bnd (some (.fn (.func 148) [] [z3])) fun t13=>
 bnd (Zbt cfg (Za7 cfg) t13 [p1] z3H) fun r16=>
 bnd (ZaN cfg (Za7 cfg) t13 [p2] r16.2) fun r19=>
 bnd (Zaf (.slice 3) r16.1) fun t21=>
 bnd (Zaf (.slice 3) r19.1) fun t23=>
 bnd (ZeI t21 t23) fun t24=>
 ZdC p1 p2 r16.1 r19.1 t24 (.int .i64 0) H r19.2
theorem Zpi (x1 x2:AV) (H0 H:Hp):Zkq x1 x2 H0 H =
    bnd (Za5 ZfQ [x1,x2] H) fun r59=>
    some (r59.1,r59.2):=(Za4 [6,9,11,12,14,16] _ _ _ _).trans (by kernel_rfl)
theorem Zph (x1 x2 x8 x9:AV) (H0 H:Hp):Zkp x1 x2 x8 x9 H0 H =
    bnd (Zaf (.slice 3) x8) fun t53=>
    bnd (Zaf (.slice 3) x9) fun t55=>
    bnd (ibin .gtr t53 t55) fun t56=>
    cnd t56
     (some ((.int .i64 1),H))
     (Zkq x1 x2 H0 H):=(Za4 [6,9,11,12,14,16] _ _ _ _).trans (by kernel_rfl)
theorem Zpg (x1 x2 x8 x9:AV) (H0 H:Hp):Zko x1 x2 x8 x9 H0 H =
    bnd (Zaf (.slice 3) x8) fun t48=>
    bnd (Zaf (.slice 3) x9) fun t50=>
    bnd (ibin .lss t48 t50) fun t51=>
    cnd t51
     (some ((.int .i64 (-1)),H))
     (Zkp x1 x2 x8 x9 H0 H):=(Za4 [6,9,11,12,14,16] _ _ _ _).trans (by kernel_rfl)
theorem Zpk (x1 x2 x8 x9 x24 x25:AV) (H0 H:Hp):Zks x1 x2 x8 x9 x24 x25 H0 H =
    bnd (ibin .add x25 (.int .i64 1)) fun t46=>
    ZdC x1 x2 x8 x9 x24 t46 H0 H:=(Za4 [6,9,11,12,14,16] _ _ _ _).trans (by kernel_rfl)
theorem Zpl (x1 x2 x8 x9 x10 x24 x25:AV) (H0 H:Hp):Zkt x1 x2 x8 x9 x10 x24 x25 H0 H =
    bnd (Zad 1 x8 x10) fun t39=>
    bnd (Za2 false 1 t39 H) fun t40=>
    bnd (Zad 1 x9 x10) fun t43=>
    bnd (Za2 false 1 t43 H) fun t44=>
    bnd (ibin .gtr t40 t44) fun t45=>
    cnd t45
     (some ((.int .i64 1),H))
     (Zks x1 x2 x8 x9 x24 x25 H0 H):=(Za4 [6,9,11,12,14,16] _ _ _ _).trans (by kernel_rfl)
theorem Zpj (x1 x2 x8 x9 x24 x25 x26:AV) (H0 H:Hp):Zkr x1 x2 x8 x9 x24 x25 x26 H0 H =
    bnd (Zad 1 x8 x25) fun t30=>
    bnd (Za2 false 1 t30 H) fun t31=>
    bnd (Zad 1 x9 x25) fun t34=>
    bnd (Za2 false 1 t34 H) fun t35=>
    bnd (ibin .lss t31 t35) fun t36=>
    cnd t36
     (some ((.int .i64 (-1)),H))
     (Zkt x1 x2 x8 x9 x25 x24 x25 H0 H):=(Za4 [6,9,11,12,14,16] _ _ _ _).trans (by kernel_rfl)
theorem Zi4 (x1 x2 x8 x9 x24 x25:AV) (H0 H:Hp):ZdC x1 x2 x8 x9 x24 x25 H0 H =
    bnd (ibin .lss x25 x24) fun t26=>
    cnd t26
     (Zkr x1 x2 x8 x9 x24 x25 t26 H0 H)
     (Zko x1 x2 x8 x9 H0 H):=(Zap (C:=cfg) [6,9,11,12,14,16] (Zah 0 (ZnE H0)) _ _).trans (by kernel_rfl)
theorem Zqh (p0 p1 p2:AV) (H:Hp):ZcL [p0,p1,p2] H=Zla p0 p1 p2 H:=(Zab (C:=cfg) (fn:=Tryz.f106) (c:=Za0 Tryz.f106) (n:=60) [6,9,11,12,14,16] Tryz.func106 (by kernel_rfl) (by kernel_rfl) [p0,p1,p2] (by kernel_rfl) H).trans (by kernel_rfl)

def ZgX (x4 x5 x6 x7 x9:AV) (H0 H:Hp):Res:=CXgC 107 50 (sub (Za0 Tryz.f107) [1,1,1,1]) (retL cfg 50 107 Tryz.f107 H0) [(4,x4),(5,x5),(6,x6),(7,x7),(9,x9)] H
def Zeh (x4 x5 x6 x7 x9:AV) (H0 H:Hp):Res:=CXgC 107 50 (sub (Za0 Tryz.f107) [1,1,1]) (retL cfg 50 107 Tryz.f107 H0) [(4,x4),(5,x5),(6,x6),(7,x7),(9,x9)] H
def Zmz (p0 p1 p2 p3:AV) (H:Hp):Res:=
 bnd (abox p0 H) fun r4=>
 bnd (abox p1 r4.2) fun r5=>
 bnd (abox p2 r5.2) fun r6=>
 bnd (abox p3 r6.2) fun r7=>
 bnd (Za2 false 1 r5.1 r7.2) fun t15=>
 bnd (ibin .and t15 (.int .i64 2)) fun t16=>
 bnd (ibin .neq t16 (.int .i64 0)) fun t17=>
 cnd t17
  (Zeh r4.1 r5.1 r6.1 r7.1 (.int .i64 (-1)) H r7.2)
  (Zeh r4.1 r5.1 r6.1 r7.1 (.int .i64 1) H r7.2)
theorem ZqV (x4 x5 x6 x7 x9:AV) (H0 H:Hp):ZgX x4 x5 x6 x7 x9 H0 H =
    bnd (some (.fn (.func 154) [] [x5,x6,x7])) fun t36=>
    bnd (ZaN cfg (Za7 cfg) t36 [(.int .i64 8),(.fn (.func 155) [] [])] H) fun r38=>
    bnd (ZaN cfg (Za7 cfg) t36 [(.int .i64 16),(.fn (.func 157) [] [])] r38.2) fun r40=>
    frzK x4 r40.2 fun z4 z4H=>
    bnd (some (.fn (.func 158) [] [z4])) fun t42=>
    bnd (ZaN cfg (Za7 cfg) t36 [(.int .i64 4),t42] z4H) fun r43=>
    bnd (Za2 true 6 z4 r43.2) fun t45=>
    bnd (Za2 false 1 x6 r43.2) fun t46=>
    bnd (Za2 false 1 x7 r43.2) fun t47=>
    bnd (Za5 ZcL [t45,t46,t47] r43.2) fun r48=>
    bnd (ibin .mul x9 r48.1) fun t49=>
    some (t49,r48.2):=(Za4 [4,8] _ _ _ _).trans (by kernel_rfl)
theorem ZqU (x4 x5 x6 x7 x9:AV) (H0 H:Hp):Zeh x4 x5 x6 x7 x9 H0 H =
    bnd (Za2 false 1 x5 H) fun t18=>
    bnd (ibin .and t18 (.int .i64 1)) fun t19=>
    bnd (ibin .neq t19 (.int .i64 0)) fun t20=>
    cnd t20
     (bnd (Za2 false 1 x6 H) fun t22=>
     bnd (Za5 ZdS [t22] H) fun r23=>
     bnd (aext r23.1 0) fun t24=>
     bnd (aext r23.1 1) fun t25=>
     bnd (Za2 false 1 x7 r23.2) fun t27=>
     bnd (Za5 ZdS [t27] r23.2) fun r28=>
     bnd (aext r28.1 0) fun t29=>
     bnd (aext r28.1 1) fun t30=>
     bnd (Za5 Ziz [t24,t29] r28.2) fun r34=>
     bnd (ibin .mul x9 r34.1) fun t35=>
     some (t35,r34.2))
     (ZgX x4 x5 x6 x7 x9 H0 H):=(Za4 [4,8] _ _ _ _).trans (by kernel_rfl)
theorem Zr9 (p0 p1 p2 p3:AV) (H:Hp):Zd9 [p0,p1,p2,p3] H=Zmz p0 p1 p2 p3 H:=(Zab (C:=cfg) (fn:=Tryz.f107) (c:=Za0 Tryz.f107) (n:=50) [4,8] Tryz.func107 (by kernel_rfl) (by kernel_rfl) [p0,p1,p2,p3] (by kernel_rfl) H).trans (by kernel_rfl)

def ZrN (x1 x2:AV) (H0 H:Hp):Res:=CXgC 110 8 (sub (Za0 Tryz.f110) [1,1]) (retL cfg 8 110 Tryz.f110 H0) [(1,x1),(2,x2)] H
def Znj (p0:AV) (H:Hp):Res:=
 bnd (abox p0 H) fun r1=>
 bnd (some ((.ptr r1.2.length 0),r1.2++[.cells [.nils,(.int .i64 0),(.int .i64 0),(.bool false),(.bool false)]])) fun r2=>
 bnd (Za2 true 5 r1.1 r2.2) fun t3=>
 bnd (Za5 Zg2 [t3] r2.2) fun r4=>
 bnd (ibin .neq r4.1 (.int .i64 0)) fun t5=>
 cnd t5
  (bnd ((ZbJ [(1,1,(.int .i64 (-1)))] [.nils,(.int .i64 0),(.int .i64 0),(.bool false),(.bool false)]).map .agg) fun t6=>
  bnd (Zag 5 r2.1 t6 r4.2) fun r_10=>
  bnd (Za2 true 5 r2.1 r_10.2) fun v2=>
  some (v2,r_10.2))
  (ZrN r1.1 r2.1 H r4.2)
theorem Zw3 (x1 x2:AV) (H0 H:Hp):ZrN x1 x2 H0 H =
    bnd (Za2 true 5 x1 H) fun t7=>
    bnd (Zag 5 x2 t7 H) fun r_4=>
    bnd (Za2 true 5 x2 r_4.2) fun v2=>
    some (v2,r_4.2):=(Za4 [3] _ _ _ _).trans (by kernel_rfl)
theorem ZnL (p0:AV) (H:Hp):Zeu [p0] H=Znj p0 H:=(Zab (C:=cfg) (fn:=Tryz.f110) (c:=Za0 Tryz.f110) (n:=8) [3] Tryz.func110 (by kernel_rfl) (by kernel_rfl) [p0] (by kernel_rfl) H).trans (by kernel_rfl)

def ZnZ (H0 H:Hp):Res:=CXgC 111 59 (sub (Za0 Tryz.f111) [1,1,1,1]) (retL cfg 59 111 Tryz.f111 H0) [] H
def ZdI (H0:Hp):KL:=seqL (fun k al H=>CXgC 111 59 (sub (Za0 Tryz.f111) [1,1,1,1]) k (Za8 (cfg.keep 111) (sub (Za0 Tryz.f111) [1,1,1,1]) al) H) (retL cfg 59 111 Tryz.f111 H0)
theorem Zql (H0:Hp):Tame 59 (ZdI H0):=Zak (C:=cfg) (kp:=cfg.keep 111) (sub (Za0 Tryz.f111) [1,1,1,1]) (Zao 111 Tryz.f111 H0)
def Zo1 (x2 x3 x4 x5 x9:AV) (H0 H:Hp):Res:=CXgC 111 59 (sub (Za0 Tryz.f111) [1,1,1,0,1,0,0,1,1]) (seqL (fun k al H=>LPgC 111 59 (sub (Za0 Tryz.f111) [1,1,1,0,1,0,0]) k (Za8 (cfg.keep 111) (sub (Za0 Tryz.f111) [1,1,1,0,1,0,0]) al) H) (Za3 0 (ZdI H0))) [(2,x2),(3,x3),(4,x4),(5,x5),(9,x9)] H
def ZxJ (H0:Hp):KL:=seqL (fun k al H=>CXgC 111 59 (sub (Za0 Tryz.f111) [1,1,1,0,1,0,0,1,1]) k (Za8 (cfg.keep 111) (sub (Za0 Tryz.f111) [1,1,1,0,1,0,0,1,1]) al) H) (seqL (fun k al H=>LPgC 111 59 (sub (Za0 Tryz.f111) [1,1,1,0,1,0,0]) k (Za8 (cfg.keep 111) (sub (Za0 Tryz.f111) [1,1,1,0,1,0,0]) al) H) (Za3 0 (ZdI H0)))
def Zfi (x2 x3 x4 x5 x9 x10:AV) (H0 H:Hp):Res:=CXgC 111 59 (sub (Za0 Tryz.f111) [1,1,1,0,1,0,0,1,0,0,1,1]) (Za3 1 (ZxJ H0)) [(2,x2),(3,x3),(4,x4),(5,x5),(9,x9),(10,x10)] H
def Zo0 (x2 x3 x4 x5 x9:AV) (H0 H:Hp):Res:=CXgC 111 59 (sub (Za0 Tryz.f111) [1,1,1,0,1,0,0,1]) (seqL (fun k al H=>LPgC 111 59 (sub (Za0 Tryz.f111) [1,1,1,0,1,0,0]) k (Za8 (cfg.keep 111) (sub (Za0 Tryz.f111) [1,1,1,0,1,0,0]) al) H) (Za3 0 (ZdI H0))) [(2,x2),(3,x3),(4,x4),(5,x5),(9,x9)] H
def Zfj (x2 x3 x4 x5 x9:AV) (H0 H:Hp):Res:=LPgC 111 59 (sub (Za0 Tryz.f111) [1,1,1,0,1,0,0]) (Za3 0 (ZdI H0)) [(2,x2),(3,x3),(4,x4),(5,x5),(9,x9)] H
def ZnY (x2 x3 x4 x5:AV) (H0 H:Hp):Res:=CXgC 111 59 (sub (Za0 Tryz.f111) [1,1,1]) (retL cfg 59 111 Tryz.f111 H0) [(2,x2),(3,x3),(4,x4),(5,x5)] H
def ZpJ (p0 p1 p2 p3:AV) (H:Hp):Res:=
 bnd (abox p0 H) fun r4=>
 bnd (abox p1 r4.2) fun r5=>
 bnd (Za2 true 5 r5.1 r5.2) fun t12=>
 bnd (Za5 Zeu [t12] r5.2) fun r13=>
 bnd (Zag 5 r5.1 r13.1 r13.2) fun r_5=>
 bnd (Zaa 0 r5.1) fun t14=>
 bnd (Za2 false 1 t14 r_5.2) fun t15=>
 bnd (Zaf (.slice 149) t15) fun t16=>
 bnd (ibin .eql t16 (.int .i64 0)) fun t17=>
 cnd t17
  (bnd (Za2 true 6 r4.1 r_5.2) fun t18=>
  bnd (Zaa 2 r5.1) fun t21=>
  bnd (Za2 false 1 t21 r_5.2) fun t22=>
  bnd (Za5 ZiW [t18,p2,p3,t22] r_5.2) fun r23=>
  some (r23.1,r23.2))
  (ZnY p2 p3 r4.1 r5.1 H r_5.2)
theorem Ztd (H0 H:Hp):ZnZ H0 H =
    some ((.int .i64 0),H):=(Za4 [4,6,7,10,13] _ _ _ _).trans (by kernel_rfl)
theorem Ztf (x2 x3 x4 x5 x9:AV) (H0 H:Hp):Zo1 x2 x3 x4 x5 x9 H0 H =
    bnd (ibin .add x9 (.int .i64 1)) fun t30=>
    Zfj x2 x3 x4 x5 t30 H0 H:=(Za4 [4,6,7,10,13] _ _ _ _).trans (by kernel_rfl)
theorem Ztg (x2 x3 x4 x5 x9 x10:AV) (H0 H:Hp):Zfi x2 x3 x4 x5 x9 x10 H0 H =
    frzK x4 H fun z4 z4H=>
    frzK x5 z4H fun z5 z5H=>
    frzK x10 z5H fun z10 z10H=>
    bnd (Zcq true 6 z4) fun t42=>
    bnd (Za2 true 5 z10 z10H) fun t44=>
    bnd (Zaa 1 z5) fun t45=>
    bnd (Za2 false 1 t45 z10H) fun t46=>
    bnd (Zgn [x2,t44,t46] z10H) fun r47=>
    bnd (Zcq true 5 z10) fun t49=>
    bnd (Zaa 1 z5) fun t50=>
    bnd (Zcq false 1 t50) fun t51=>
    bnd (Zgn [x3,t49,t51] r47.2) fun r52=>
    bnd (Zaa 4 z10) fun t53=>
    bnd (Zcq false 1 t53) fun t54=>
    bnd (Za5 ZiW [t42,r47.1,r52.1,t54] r52.2) fun r55=>
    bnd (ibin .neq r55.1 (.int .i64 0)) fun t57=>
    cnd t57
     (some (r55.1,r55.2))
     (Zo1 x2 x3 z4 z5 x9 H0 r55.2):=(Za4 [4,6,7,10,13] _ _ _ _).trans (by kernel_rfl)
theorem Zte (x2 x3 x4 x5 x9:AV) (H0 H:Hp):Zo0 x2 x3 x4 x5 x9 H0 H =
    bnd (Zaa 0 x5) fun t31=>
    bnd (Za2 false 1 t31 H) fun t32=>
    bnd (Zad 5 t32 x9) fun t34=>
    bnd (Za2 true 5 t34 H) fun t35=>
    bnd (some ((.ptr H.length 0),H++[.cells [(.int .i64 0),(.int .i64 0),(.int .i64 0),(.int .i64 0),(.int .i64 0)]])) fun r10=>
    bnd (Zag 5 r10.1 t35 r10.2) fun r_12=>
    bnd (Zaa 4 r10.1) fun t36=>
    bnd (Za2 false 1 t36 r_12.2) fun t37=>
    bnd (ibin .eql t37 (.int .i64 0)) fun t38=>
    cnd t38
     (bnd (Zaa 2 x5) fun t39=>
     bnd (Za2 false 1 t39 r_12.2) fun t40=>
     bnd (Zaa 4 r10.1) fun t41=>
     bnd (Zag 1 t41 t40 r_12.2) fun r_35=>
     Zfi x2 x3 x4 x5 x9 r10.1 H0 r_35.2)
     (Zfi x2 x3 x4 x5 x9 r10.1 H0 r_12.2):=(Za4 [4,6,7,10,13] _ _ _ _).trans (by kernel_rfl)
theorem Zkj (x2 x3 x4 x5 x9:AV) (H0 H:Hp):Zfj x2 x3 x4 x5 x9 H0 H =
    bnd (Zaa 0 x5) fun t25=>
    bnd (Za2 false 1 t25 H) fun t26=>
    bnd (Zaf (.slice 149) t26) fun t27=>
    bnd (ibin .lss x9 t27) fun t28=>
    cnd t28
     (Zo0 x2 x3 x4 x5 x9 H0 H)
     (ZnZ H0 H):=(Zap (C:=cfg) [4,6,7,10,13] (Zah 0 (Zql H0)) _ _).trans (by kernel_rfl)
theorem Ztc (x2 x3 x4 x5:AV) (H0 H:Hp):ZnY x2 x3 x4 x5 H0 H =
    Zfj x2 x3 x4 x5 (.int .i64 0) H0 H:=(Za4 [4,6,7,10,13] _ _ _ _).trans (by kernel_rfl)
theorem Zug (p0 p1 p2 p3:AV) (H:Hp):Zek [p0,p1,p2,p3] H=ZpJ p0 p1 p2 p3 H:=(Zab (C:=cfg) (fn:=Tryz.f111) (c:=Za0 Tryz.f111) (n:=59) [4,6,7,10,13] Tryz.func111 (by kernel_rfl) (by kernel_rfl) [p0,p1,p2,p3] (by kernel_rfl) H).trans (by kernel_rfl)

def ZnU (x1 x2:AV) (H0 H:Hp):Res:=CXgC 112 23 (sub (Za0 Tryz.f112) [1,1,1]) (retL cfg 23 112 Tryz.f112 H0) [(1,x1),(2,x2)] H
def ZpH (p0 p1 p2:AV) (H:Hp):Res:=
 bnd (abox p0 H) fun r3=>
 bnd (Za2 true 6 r3.1 r3.2) fun t8=>
 bnd (Za5 Zet [t8] r3.2) fun r9=>
 bnd (Zag 6 r3.1 r9.1 r9.2) fun r_4=>
 bnd (Za2 true 6 r3.1 r_4.2) fun t10=>
 bnd (Za5 Zgm [t10,p1] r_4.2) fun r12=>
 bnd (Za2 true 6 r3.1 r12.2) fun t13=>
 bnd (Za5 Zgm [t13,p2] r12.2) fun r15=>
 bnd (Za5 Zg1 [r12.1,r15.1] r15.2) fun r16=>
 bnd (ibin .neq r16.1 (.int .i64 0)) fun t18=>
 cnd t18
  (some (r16.1,r16.2))
  (ZnU p1 p2 H r16.2)
theorem Zt8 (x1 x2:AV) (H0 H:Hp):ZnU x1 x2 H0 H =
    bnd (Za5 Zne [x1,x2] H) fun r22=>
    some (r22.1,r22.2):=(Za4 [5] _ _ _ _).trans (by kernel_rfl)
theorem Zue (p0 p1 p2:AV) (H:Hp):Zej [p0,p1,p2] H=ZpH p0 p1 p2 H:=(Zab (C:=cfg) (fn:=Tryz.f112) (c:=Za0 Tryz.f112) (n:=23) [5] Tryz.func112 (by kernel_rfl) (by kernel_rfl) [p0,p1,p2] (by kernel_rfl) H).trans (by kernel_rfl)

def ZpZ (H0 H:Hp):Res:=CXgC 127 59 (sub (Za0 Tryz.f127) [1,1,1]) (retL cfg 59 127 Tryz.f127 H0) [] H
def Zgx (H0:Hp):KL:=seqL (fun k al H=>CXgC 127 59 (sub (Za0 Tryz.f127) [1,1,1]) k (Za8 (cfg.keep 127) (sub (Za0 Tryz.f127) [1,1,1]) al) H) (retL cfg 59 127 Tryz.f127 H0)
theorem Zrt (H0:Hp):Tame 59 (Zgx H0):=Zak (C:=cfg) (kp:=cfg.keep 127) (sub (Za0 Tryz.f127) [1,1,1]) (Zao 127 Tryz.f127 H0)
def ZjT (x0 x3:AV) (H0 H:Hp):Res:=CXgC 127 59 (sub (Za0 Tryz.f127) [1,1,0,1,0,0,1,1]) (seqL (fun k al H=>LPgC 127 59 (sub (Za0 Tryz.f127) [1,1,0,1,0,0]) k (Za8 (cfg.keep 127) (sub (Za0 Tryz.f127) [1,1,0,1,0,0]) al) H) (Za3 0 (Zgx H0))) [(0,x0),(3,x3)] H
def ZjS (x0 x3:AV) (H0 H:Hp):Res:=CXgC 127 59 (sub (Za0 Tryz.f127) [1,1,0,1,0,0,1]) (seqL (fun k al H=>LPgC 127 59 (sub (Za0 Tryz.f127) [1,1,0,1,0,0]) k (Za8 (cfg.keep 127) (sub (Za0 Tryz.f127) [1,1,0,1,0,0]) al) H) (Za3 0 (Zgx H0))) [(0,x0),(3,x3)] H
def Zgy (x0 x3:AV) (H0 H:Hp):Res:=LPgC 127 59 (sub (Za0 Tryz.f127) [1,1,0,1,0,0]) (Za3 0 (Zgx H0)) [(0,x0),(3,x3)] H
def ZpY (x0:AV) (H0 H:Hp):Res:=CXgC 127 59 (sub (Za0 Tryz.f127) [1,1]) (retL cfg 59 127 Tryz.f127 H0) [(0,x0)] H
def ZqY (p0:AV) (H:Hp):Res:=
 bnd (Zaf .string p0) fun t6=>
 bnd (ibin .eql t6 (.int .i64 0)) fun t7=>
 bnd (gdv t7 false (.tuple []) (some p0)) fun t9=>
 bnd (gdv t7 false (.tuple []) (Zaf .string t9)) fun t10=>
 bnd (gdv t7 false (.tuple []) (ibin .gtr t10 (.int .i64 32))) fun t11=>
 bnd (Zae t7 (.bool true) t11) fun t12=>
 bnd (gdv t12 false (.tuple []) (some p0)) fun t14=>
 bnd (gdv t12 false (.tuple []) (Zaj t14 (.int .i64 0))) fun t15=>
 bnd (gdv t12 false (.tuple []) (ibin .geq t15 (.int .u8 48))) fun t16=>
 bnd (gdv t12 false (.tuple []) (some t16)) fun t17=>
 bnd (gdv t17 true (.tuple []) (some p0)) fun t18=>
 bnd (gdv t17 true (.tuple []) (Zaj t18 (.int .i64 0))) fun t19=>
 bnd (gdv t17 true (.tuple []) (ibin .leq t19 (.int .u8 57))) fun t20=>
 bnd (gdv t12 false (.tuple []) (Zae t17 t20 (.bool false))) fun t21=>
 bnd (Zae t12 (.bool true) t21) fun t22=>
 cnd t22
  (some ((.bool false),H))
  (ZpY p0 H H)
theorem ZuB (H0 H:Hp):ZpZ H0 H =
    some ((.bool true),H):=(Za4 [3,5,6,9] _ _ _ _).trans (by kernel_rfl)
theorem ZuD (x0 x3:AV) (H0 H:Hp):ZjT x0 x3 H0 H =
    bnd (ibin .add x3 (.int .i64 1)) fun t28=>
    Zgy x0 t28 H0 H:=(Za4 [3,5,6,9] _ _ _ _).trans (by kernel_rfl)
theorem ZuC (x0 x3:AV) (H0 H:Hp):ZjS x0 x3 H0 H =
    bnd (Zaj x0 x3) fun t31=>
    bnd (ibin .geq t31 (.int .u8 97)) fun t33=>
    bnd (gdv t33 true (.tuple []) (some t31)) fun t35=>
    bnd (gdv t33 true (.tuple []) (ibin .leq t35 (.int .u8 122))) fun t36=>
    bnd (Zae t33 t36 (.bool false)) fun t37=>
    bnd (gdv t37 false (.tuple []) (some t31)) fun t39=>
    bnd (gdv t37 false (.tuple []) (ibin .geq t39 (.int .u8 65))) fun t40=>
    bnd (gdv t37 false (.tuple []) (some t40)) fun t41=>
    bnd (gdv t41 true (.tuple []) (some t31)) fun t42=>
    bnd (gdv t41 true (.tuple []) (ibin .leq t42 (.int .u8 90))) fun t43=>
    bnd (gdv t37 false (.tuple []) (Zae t41 t43 (.bool false))) fun t44=>
    bnd (Zae t37 (.bool true) t44) fun t45=>
    bnd (gdv t45 false (.tuple []) (some t31)) fun t47=>
    bnd (gdv t45 false (.tuple []) (ibin .geq t47 (.int .u8 48))) fun t48=>
    bnd (gdv t45 false (.tuple []) (some t48)) fun t49=>
    bnd (gdv t49 true (.tuple []) (some t31)) fun t50=>
    bnd (gdv t49 true (.tuple []) (ibin .leq t50 (.int .u8 57))) fun t51=>
    bnd (gdv t45 false (.tuple []) (Zae t49 t51 (.bool false))) fun t52=>
    bnd (Zae t45 (.bool true) t52) fun t53=>
    bnd (gdv t53 false (.tuple []) (some t31)) fun t55=>
    bnd (gdv t53 false (.tuple []) (ibin .eql t55 (.int .u8 95))) fun t56=>
    bnd (Zae t53 (.bool true) t56) fun t57=>
    bnd (aun .not t57) fun t58=>
    cnd t58
     (some ((.bool false),H))
     (ZjT x0 x3 H0 H):=(Za4 [3,5,6,9] _ _ _ _).trans (by kernel_rfl)
theorem Zll (x0 x3:AV) (H0 H:Hp):Zgy x0 x3 H0 H =
    bnd (Zaf .string x0) fun t25=>
    bnd (ibin .lss x3 t25) fun t26=>
    cnd t26
     (ZjS x0 x3 H0 H)
     (ZpZ H0 H):=(Zap (C:=cfg) [3,5,6,9] (Zah 0 (Zrt H0)) _ _).trans (by kernel_rfl)
theorem ZuA (x0:AV) (H0 H:Hp):ZpY x0 H0 H =
    Zgy x0 (.int .i64 0) H0 H:=(Za4 [3,5,6,9] _ _ _ _).trans (by kernel_rfl)
theorem Zvf (p0:AV) (H:Hp):ZeQ [p0] H=ZqY p0 H:=(Zab (C:=cfg) (fn:=Tryz.f127) (c:=Za0 Tryz.f127) (n:=59) [3,5,6,9] Tryz.func127 (by kernel_rfl) (by kernel_rfl) [p0] (by kernel_rfl) H).trans (by kernel_rfl)

def Zn3 (x1 x2:AV) (H0 H:Hp):Res:=CXgC 147 16 (sub (Za0 Tryz.f147) [1,1]) (retL cfg 16 147 Tryz.f147 H0) [(1,x1),(2,x2)] H
def ZiA (p0:AV) (H:Hp):Res:=
 bnd (abox p0 H) fun r1=>
 bnd (some ((.ptr r1.2.length 0),r1.2++[.cells [(.str []),.nils,(.str []),(.str []),.nils,.nils]])) fun r2=>
 bnd (Za2 true 6 r1.1 r2.2) fun t4=>
 bnd (Za5 Zfd [t4] r2.2) fun r5=>
 bnd (ibin .neq r5.1 (.int .i64 0)) fun t6=>
 cnd t6
  (bnd (Za5 Zl7 [] r5.2) fun r7=>
  bnd (Zag 6 r2.1 r7.1 r7.2) fun r_16=>
  bnd (Za2 true 6 r2.1 r_16.2) fun v2=>
  some (v2,r_16.2))
  (Zn3 r1.1 r2.1 H r5.2)
theorem Zsq (x1 x2:AV) (H0 H:Hp):Zn3 x1 x2 H0 H =
    bnd (Zda 1 8 false (.int .i64 0) (.int .i64 256) (.int .i64 256) H) fun r8=>
    bnd (Zaa 1 x1) fun t10=>
    bnd (Za2 false 1 t10 r8.2) fun t11=>
    bnd (ZmI 1 r8.1 t11 r8.2) fun r12=>
    bnd (Zaa 1 x1) fun t14=>
    bnd (Zag 1 t14 r8.1 r12.2) fun r_8=>
    bnd (Za2 true 6 x1 r_8.2) fun t15=>
    bnd (Zag 6 x2 t15 r_8.2) fun r_10=>
    bnd (Za2 true 6 x2 r_10.2) fun v2=>
    some (v2,r_10.2):=(Za4 [3] _ _ _ _).trans (by kernel_rfl)
theorem Zk9 (p0:AV) (H:Hp):ZcG [p0] H=ZiA p0 H:=(Zab (C:=cfg) (fn:=Tryz.f147) (c:=Za0 Tryz.f147) (n:=16) [3] Tryz.func147 (by kernel_rfl) (by kernel_rfl) [p0] (by kernel_rfl) H).trans (by kernel_rfl)

def Zjk (p0 p1:AV) (H:Hp):Res:=
 bnd (some ((.ptr H.length 0),H++[.cells [.nils]])) fun r4=>
 bnd (Za2 true 6 p1 r4.2) fun t5=>
 bnd (some (.fn (.func 150) [] [r4.1])) fun t7=>
 bnd (ZjL [t5,p0,t7] r4.2) fun r8=>
 bnd (Za2 false 1 r4.1 r8.2) fun t9=>
 some (t9,r8.2)
theorem ZnO (p0 p1:AV) (H:Hp):Zd7 [p0,p1] H=Zjk p0 p1 H:=(Zab (C:=cfg) (fn:=Tryz.f148) (c:=Za0 Tryz.f148) (n:=10) [] Tryz.func148 (by kernel_rfl) (by kernel_rfl) [p0,p1] (by kernel_rfl) H).trans (by kernel_rfl)

def Zoj (x1 x2 x3 x6 x9 x10:AV) (H0 H:Hp):Res:=CXgC 149 75 (sub (Za0 Tryz.f149) [1,1,1,1,0,0,1,0,1,1,1]) (Za3 3 (seqL (fun k al H=>LPgC 149 75 (sub (Za0 Tryz.f149) [1,1,1,1,0,0]) k (Za8 (cfg.keep 149) (sub (Za0 Tryz.f149) [1,1,1,1,0,0]) al) H) (Za3 2 (retL cfg 75 149 Tryz.f149 H0)))) [(1,x1),(2,x2),(3,x3),(6,x6),(9,x9),(10,x10)] H
def ZdL (x1 x2 x3 x6 x9 x10 x11:AV) (H0 H:Hp):Res:=CXgC 149 75 (sub (Za0 Tryz.f149) [1,1,1,1,0,0,1,0,1,1]) (Za3 3 (seqL (fun k al H=>LPgC 149 75 (sub (Za0 Tryz.f149) [1,1,1,1,0,0]) k (Za8 (cfg.keep 149) (sub (Za0 Tryz.f149) [1,1,1,1,0,0]) al) H) (Za3 2 (retL cfg 75 149 Tryz.f149 H0)))) [(1,x1),(2,x2),(3,x3),(6,x6),(9,x9),(10,x10),(11,x11)] H
def Zoi (x1 x2 x3 x6 x9:AV) (H0 H:Hp):Res:=CXgC 149 75 (sub (Za0 Tryz.f149) [1,1,1,1,0,0,1]) (seqL (fun k al H=>LPgC 149 75 (sub (Za0 Tryz.f149) [1,1,1,1,0,0]) k (Za8 (cfg.keep 149) (sub (Za0 Tryz.f149) [1,1,1,1,0,0]) al) H) (Za3 2 (retL cfg 75 149 Tryz.f149 H0))) [(1,x1),(2,x2),(3,x3),(6,x6),(9,x9)] H
def Zfr (x1 x2 x3 x6 x9:AV) (H0 H:Hp):Res:=LPgC 149 75 (sub (Za0 Tryz.f149) [1,1,1,1,0,0]) (Za3 2 (retL cfg 75 149 Tryz.f149 H0)) [(1,x1),(2,x2),(3,x3),(6,x6),(9,x9)] H
def ZiJ (x1 x2 x3 x6:AV) (H0 H:Hp):Res:=CXgC 149 75 (sub (Za0 Tryz.f149) [1,1,1]) (retL cfg 75 149 Tryz.f149 H0) [(1,x1),(2,x2),(3,x3),(6,x6)] H
def Zfq (H0:Hp):KL:=seqL (fun k al H=>CXgC 149 75 (sub (Za0 Tryz.f149) [1,1,1]) k (Za8 (cfg.keep 149) (sub (Za0 Tryz.f149) [1,1,1]) al) H) (retL cfg 75 149 Tryz.f149 H0)
theorem Zqp (H0:Hp):Tame 75 (Zfq H0):=Zak (C:=cfg) (kp:=cfg.keep 149) (sub (Za0 Tryz.f149) [1,1,1]) (Zao 149 Tryz.f149 H0)
def Zol (x1 x2 x3 x6 x16 x17 x18:AV) (H0 H:Hp):Res:=CXgC 149 75 (sub (Za0 Tryz.f149) [1,1,0,1,0,0,1,1,1]) (seqL (fun k al H=>LPgC 149 75 (sub (Za0 Tryz.f149) [1,1,0,1,0,0]) k (Za8 (cfg.keep 149) (sub (Za0 Tryz.f149) [1,1,0,1,0,0]) al) H) (Za3 0 (Zfq H0))) [(1,x1),(2,x2),(3,x3),(6,x6),(16,x16),(17,x17),(18,x18)] H
def Zok (x1 x2 x3 x6 x16 x17 x18 x19:AV) (H0 H:Hp):Res:=CXgC 149 75 (sub (Za0 Tryz.f149) [1,1,0,1,0,0,1,1]) (seqL (fun k al H=>LPgC 149 75 (sub (Za0 Tryz.f149) [1,1,0,1,0,0]) k (Za8 (cfg.keep 149) (sub (Za0 Tryz.f149) [1,1,0,1,0,0]) al) H) (Za3 0 (Zfq H0))) [(1,x1),(2,x2),(3,x3),(6,x6),(16,x16),(17,x17),(18,x18),(19,x19)] H
def Zfs (x1 x2 x3 x6 x16 x17 x18:AV) (H0 H:Hp):Res:=LPgC 149 75 (sub (Za0 Tryz.f149) [1,1,0,1,0,0]) (Za3 0 (Zfq H0)) [(1,x1),(2,x2),(3,x3),(6,x6),(16,x16),(17,x17),(18,x18)] H
def ZpM (p0 p1 p2:AV) (H:Hp):Res:=
 bnd (abox p0 H) fun r3=>
 bnd (some ((.map r3.2.length),r3.2++[.map [] 0])) fun r14=>
 bnd (Zaa 5 r3.1) fun t15=>
 bnd (Za2 false 1 t15 r14.2) fun t16=>
 bnd (Zaf (.slice 210) t16) fun t17=>
 Zfs p1 p2 r3.1 r14.1 t16 t17 (.int .i64 0) H r14.2
theorem Zkv (x1 x2 x3 x6 x9 x10:AV) (H0 H:Hp):Zoj x1 x2 x3 x6 x9 x10 H0 H =
    bnd (Zaf .string x10) fun t73=>
    bnd (ibin .add x9 t73) fun t74=>
    Zfr x1 x2 x3 x6 t74 H0 H:=(Za4 [4,6,7,9,14,15] _ _ _ _).trans (by kernel_rfl)
theorem Zku (x1 x2 x3 x6 x9 x10 x11:AV) (H0 H:Hp):ZdL x1 x2 x3 x6 x9 x10 x11 H0 H =
    bnd (ZaN cfg (Za7 cfg) x2 [x10,x11] H) fun r69=>
    bnd (aun .not r69.1) fun t70=>
    cnd t70
     (some ((.tuple []),r69.2))
     (Zoj x1 x2 x3 x6 x9 x10 H0 r69.2):=(Za4 [4,6,7,9,14,15] _ _ _ _).trans (by kernel_rfl)
theorem Ztv (x1 x2 x3 x6 x9:AV) (H0 H:Hp):Zoi x1 x2 x3 x6 x9 H0 H =
    bnd (ibin .add x9 (.int .i64 1)) fun t35=>
    bnd (ZaE x1 (some x9) (some t35) none) fun t36=>
    bnd (Zaa 1 x3) fun t37=>
    bnd (Za2 false 1 t37 H) fun t38=>
    bnd (Zaj x1 x9) fun t41=>
    bnd (Zad 1 t38 t41) fun t42=>
    bnd (Za2 false 1 t42 H) fun t43=>
    bnd (ibin .add x9 (.int .i64 2)) fun t45=>
    bnd (Zaf .string x1) fun t47=>
    bnd (ibin .leq t45 t47) fun t48=>
    cnd t48
     (bnd (ibin .add x9 (.int .i64 2)) fun t54=>
     bnd (ZaE x1 (some x9) (some t54) none) fun t55=>
     bnd (Zbb .string (.int .i64 0) true x6 t55 H) fun t56=>
     bnd (aext t56 0) fun t57=>
     bnd (aext t56 1) fun t58=>
     cnd t58
      (bnd (ibin .add x9 (.int .i64 2)) fun t63=>
      bnd (ZaE x1 (some x9) (some t63) none) fun t64=>
      ZdL x1 x2 x3 x6 x9 t64 t57 H0 H)
      (ZdL x1 x2 x3 x6 x9 t36 t43 H0 H))
     (ZdL x1 x2 x3 x6 x9 t36 t43 H0 H):=(Za4 [4,6,7,9,14,15] _ _ _ _).trans (by kernel_rfl)
theorem ZfZ (x1 x2 x3 x6 x9:AV) (H0 H:Hp):Zfr x1 x2 x3 x6 x9 H0 H =
    bnd (Zaf .string x1) fun t30=>
    bnd (ibin .lss x9 t30) fun t31=>
    cnd t31
     (Zoi x1 x2 x3 x6 x9 H0 H)
     (some ((.tuple []),H)):=(Zap (C:=cfg) [4,6,7,9,14,15] (Zah 2 (Zao 149 Tryz.f149 H0)) _ _).trans (by kernel_rfl)
theorem Ztu (x1 x2 x3 x6:AV) (H0 H:Hp):ZiJ x1 x2 x3 x6 H0 H =
    Zfr x1 x2 x3 x6 (.int .i64 0) H0 H:=(Za4 [4,6,7,9,14,15] _ _ _ _).trans (by kernel_rfl)
theorem Ztx (x1 x2 x3 x6 x16 x17 x18:AV) (H0 H:Hp):Zol x1 x2 x3 x6 x16 x17 x18 H0 H =
    bnd (ibin .add x18 (.int .i64 1)) fun t27=>
    Zfs x1 x2 x3 x6 x16 x17 t27 H0 H:=(Za4 [4,6,7,9,14,15] _ _ _ _).trans (by kernel_rfl)
theorem Ztw (x1 x2 x3 x6 x16 x17 x18 x19:AV) (H0 H:Hp):Zok x1 x2 x3 x6 x16 x17 x18 x19 H0 H =
    bnd (Zad 2 x16 x18) fun t20=>
    bnd (Za2 true 2 t20 H) fun t21=>
    bnd (some ((.ptr H.length 0),H++[.cells [(.str []),(.int .i64 0)]])) fun r8=>
    bnd (Zag 2 r8.1 t21 r8.2) fun r_34=>
    bnd (Zaa 0 r8.1) fun t23=>
    bnd (Za2 false 1 t23 r_34.2) fun t24=>
    bnd (Zaa 1 r8.1) fun t25=>
    bnd (Za2 false 1 t25 r_34.2) fun t26=>
    bnd (Zd2 .string x6 t24 t26 r_34.2) fun r_39=>
    Zol x1 x2 x3 x6 x16 x17 x18 H0 r_39.2:=(Za4 [4,6,7,9,14,15] _ _ _ _).trans (by kernel_rfl)
theorem Zkw (x1 x2 x3 x6 x16 x17 x18:AV) (H0 H:Hp):Zfs x1 x2 x3 x6 x16 x17 x18 H0 H =
    bnd (ibin .lss x18 x17) fun t19=>
    cnd t19
     (Zok x1 x2 x3 x6 x16 x17 x18 t19 H0 H)
     (ZiJ x1 x2 x3 x6 H0 H):=(Zap (C:=cfg) [4,6,7,9,14,15] (Zah 0 (Zqp H0)) _ _).trans (by kernel_rfl)
theorem Zul (p0 p1 p2:AV) (H:Hp):ZjL [p0,p1,p2] H=ZpM p0 p1 p2 H:=(Zab (C:=cfg) (fn:=Tryz.f149) (c:=Za0 Tryz.f149) (n:=75) [4,6,7,9,14,15] Tryz.func149 (by kernel_rfl) (by kernel_rfl) [p0,p1,p2] (by kernel_rfl) H).trans (by kernel_rfl)

def Zhe (p0 p1 p2:AV) (H:Hp):Res:=
 bnd (Za2 false 1 p2 H) fun t6=>
 bnd ((Zau 1 [(0,p1)] [(.int .i64 0)]).map (.vs 1 .clip)) fun t8=>
 bnd (ZaH 1 8 t6 t8 H) fun r9=>
 bnd (Zag 1 p2 r9.1 r9.2) fun r_4=>
 some ((.bool true),r_4.2)
theorem Zmg (p0 p1 p2:AV) (H:Hp):ZdU [p0,p1,p2] H=Zhe p0 p1 p2 H:=(Zab (C:=cfg) (fn:=Tryz.f150) (c:=Za0 Tryz.f150) (n:=10) [] Tryz.func150 (by kernel_rfl) (by kernel_rfl) [p0,p1,p2] (by kernel_rfl) H).trans (by kernel_rfl)

def Zkh (p0 p1:AV) (H:Hp):Res:=
 bnd (Za5 ZbC [p0,p1] H) fun r7=>
 some (r7.1,r7.2)
theorem ZoP (p0 p1:AV) (H:Hp):ZfQ [p0,p1] H=Zkh p0 p1 H:=(Zab (C:=cfg) (fn:=Tryz.f151) (c:=Za0 Tryz.f151) (n:=8) [] Tryz.func151 (by kernel_rfl) (by kernel_rfl) [p0,p1] (by kernel_rfl) H).trans (by kernel_rfl)

def ZfW (x9 x11:AV) (H0 H:Hp):Res:=CXgC 152 116 (sub (Za0 Tryz.f152) [1,1,1,1,1,1,1,1,1,1,1]) (retL cfg 116 152 Tryz.f152 H0) [(9,x9),(11,x11)] H
def ZfV (x5 x7 x8 x9:AV) (H0 H:Hp):Res:=CXgC 152 116 (sub (Za0 Tryz.f152) [1,1,1,1,1,1,1,1,1]) (retL cfg 116 152 Tryz.f152 H0) [(5,x5),(7,x7),(8,x8),(9,x9)] H
def Zc1 (x5 x6 x7 x8 x9:AV) (H0 H:Hp):Res:=CXgC 152 116 (sub (Za0 Tryz.f152) [1,1,1,1,1,1,1,1]) (retL cfg 116 152 Tryz.f152 H0) [(5,x5),(6,x6),(7,x7),(8,x8),(9,x9)] H
def Zdz (x0 x4 x5:AV) (H0 H:Hp):Res:=CXgC 152 116 (sub (Za0 Tryz.f152) [1,1,1,1,1]) (retL cfg 116 152 Tryz.f152 H0) [(0,x0),(4,x4),(5,x5)] H
def ZfU (x0 x4:AV) (H0 H:Hp):Res:=CXgC 152 116 (sub (Za0 Tryz.f152) [1,1,1]) (retL cfg 116 152 Tryz.f152 H0) [(0,x0),(4,x4)] H
def ZfX (H0:Hp):KL:=seqL (fun k al H=>CXgC 152 116 (sub (Za0 Tryz.f152) [1,1,1]) k (Za8 (cfg.keep 152) (sub (Za0 Tryz.f152) [1,1,1]) al) H) (retL cfg 116 152 Tryz.f152 H0)
theorem Znv (H0:Hp):Tame 116 (ZfX H0):=Zak (C:=cfg) (kp:=cfg.keep 152) (sub (Za0 Tryz.f152) [1,1,1]) (Zao 152 Tryz.f152 H0)
def Zkl (x0 x4:AV) (H0 H:Hp):Res:=CXgC 152 116 (sub (Za0 Tryz.f152) [1,1,0,0,0,1]) (seqL (fun k al H=>LPgC 152 116 (sub (Za0 Tryz.f152) [1,1,0,0,0]) k (Za8 (cfg.keep 152) (sub (Za0 Tryz.f152) [1,1,0,0,0]) al) H) (Za3 0 (ZfX H0))) [(0,x0),(4,x4)] H
def ZdA (x0 x4:AV) (H0 H:Hp):Res:=LPgC 152 116 (sub (Za0 Tryz.f152) [1,1,0,0,0]) (Za3 0 (ZfX H0)) [(0,x0),(4,x4)] H
def Zuj (p0:AV) (H:Hp):Res:=
 ZdA p0 (.int .i64 0) H H
theorem ZhS (x9 x11:AV) (H0 H:Hp):ZfW x9 x11 H0 H =
    some ((.tuple [x11,x9]),H):=(Za4 [3,4,7,14,16,19] _ _ _ _).trans (by kernel_rfl)
theorem Zp6 (x5 x7 x8 x9:AV) (H0 H:Hp):ZfV x5 x7 x8 x9 H0 H =
    bnd (Za5 Zhc [x7,x8] H) fun r109=>
    bnd (ZeI (.int .i64 10000000000000) r109.1) fun t110=>
    cnd x5
     (bnd (aun .neg t110) fun t113=>
     ZfW x9 t113 H0 r109.2)
     (ZfW x9 t110 H0 r109.2):=(Za4 [3,4,7,14,16,19] _ _ _ _).trans (by kernel_rfl)
theorem Zp5 (x5 x6 x7 x8 x9:AV) (H0 H:Hp):Zc1 x5 x6 x7 x8 x9 H0 H =
    bnd (ibin .eql x6 (.int .i64 0)) fun t102=>
    bnd (gdv t102 true (.tuple []) (some x8)) fun t104=>
    bnd (gdv t102 true (.tuple []) (sbin .eql t104 (.str []))) fun t105=>
    bnd (Zae t102 t105 (.bool false)) fun t106=>
    cnd t106
     (some ((.tuple [(.int .i64 0),(.int .i64 0)]),H))
     (ZfV x5 x7 x8 x9 H0 H):=(Za4 [3,4,7,14,16,19] _ _ _ _).trans (by kernel_rfl)
theorem Zp4 (x0 x4 x5:AV) (H0 H:Hp):Zdz x0 x4 x5 H0 H =
    bnd (ZaE x0 (some x4) none none) fun t57=>
    bnd (Za5 ZdT [t57] H) fun r58=>
    bnd (ibin .add x4 r58.1) fun t63=>
    bnd (ZaE x0 (some x4) (some t63) none) fun t64=>
    bnd (ibin .add x4 r58.1) fun t67=>
    bnd (Zaf .string x0) fun t70=>
    bnd (ibin .lss t67 t70) fun t71=>
    bnd (gdv t71 true (.tuple []) (some x0)) fun t73=>
    bnd (gdv t71 true (.tuple []) (some t67)) fun t74=>
    bnd (gdv t71 true (.tuple []) (Zaj t73 t74)) fun t75=>
    bnd (gdv t71 true (.tuple []) (ibin .eql t75 (.int .u8 46))) fun t76=>
    bnd (Zae t71 t76 (.bool false)) fun t77=>
    cnd t77
     (bnd (ibin .add t67 (.int .i64 1)) fun t80=>
     bnd (ZaE x0 (some t80) none none) fun t81=>
     bnd (Za5 ZdT [t81] r58.2) fun r82=>
     bnd (ibin .gtr r58.1 (.int .i64 0)) fun t84=>
     bnd (gdv t84 false (.tuple []) (some r82.1)) fun t86=>
     bnd (gdv t84 false (.tuple []) (ibin .gtr t86 (.int .i64 0))) fun t87=>
     bnd (Zae t84 (.bool true) t87) fun t88=>
     cnd t88
      (bnd (ibin .add t67 (.int .i64 1)) fun t91=>
      bnd (ibin .add t67 (.int .i64 1)) fun t93=>
      bnd (ibin .add t93 r82.1) fun t95=>
      bnd (ZaE x0 (some t91) (some t95) none) fun t96=>
      bnd (ibin .add (.int .i64 1) r82.1) fun t99=>
      bnd (ibin .add t67 t99) fun t100=>
      Zc1 x5 r58.1 t64 t96 t100 H0 r82.2)
      (Zc1 x5 r58.1 t64 (.str []) t67 H0 r82.2))
     (Zc1 x5 r58.1 t64 (.str []) t67 H0 r58.2):=(Za4 [3,4,7,14,16,19] _ _ _ _).trans (by kernel_rfl)
theorem Zp3 (x0 x4:AV) (H0 H:Hp):ZfU x0 x4 H0 H =
    bnd (Zaf .string x0) fun t32=>
    bnd (ibin .lss x4 t32) fun t33=>
    bnd (gdv t33 true (.tuple []) (some x0)) fun t35=>
    bnd (gdv t33 true (.tuple []) (some x4)) fun t36=>
    bnd (gdv t33 true (.tuple []) (Zaj t35 t36)) fun t37=>
    bnd (gdv t33 true (.tuple []) (ibin .eql t37 (.int .u8 45))) fun t38=>
    bnd (Zae t33 t38 (.bool false)) fun t39=>
    bnd (gdv t39 false (.tuple []) (some x4)) fun t42=>
    bnd (gdv t39 false (.tuple []) (some x0)) fun t43=>
    bnd (gdv t39 false (.tuple []) (Zaf .string t43)) fun t44=>
    bnd (gdv t39 false (.tuple []) (ibin .lss t42 t44)) fun t45=>
    bnd (gdv t39 false (.tuple []) (some t45)) fun t46=>
    bnd (gdv t46 true (.tuple []) (some x0)) fun t47=>
    bnd (gdv t46 true (.tuple []) (some x4)) fun t48=>
    bnd (gdv t46 true (.tuple []) (Zaj t47 t48)) fun t49=>
    bnd (gdv t46 true (.tuple []) (ibin .eql t49 (.int .u8 43))) fun t50=>
    bnd (gdv t39 false (.tuple []) (Zae t46 t50 (.bool false))) fun t51=>
    bnd (Zae t39 (.bool true) t51) fun t52=>
    cnd t52
     (bnd (ibin .add x4 (.int .i64 1)) fun t54=>
     Zdz x0 t54 t39 H0 H)
     (Zdz x0 x4 t39 H0 H):=(Za4 [3,4,7,14,16,19] _ _ _ _).trans (by kernel_rfl)
theorem ZhT (x0 x4:AV) (H0 H:Hp):Zkl x0 x4 H0 H =
    bnd (ibin .add x4 (.int .i64 1)) fun t29=>
    ZdA x0 t29 H0 H:=(Za4 [3,4,7,14,16,19] _ _ _ _).trans (by kernel_rfl)
theorem ZhU (x0 x4:AV) (H0 H:Hp):ZdA x0 x4 H0 H =
    bnd (Zaf .string x0) fun t14=>
    bnd (ibin .lss x4 t14) fun t15=>
    bnd (gdv t15 true (.tuple []) (some x0)) fun t17=>
    bnd (gdv t15 true (.tuple []) (some x4)) fun t18=>
    bnd (gdv t15 true (.tuple []) (Zaj t17 t18)) fun t19=>
    bnd (gdv t15 true (.tuple []) (ibin .eql t19 (.int .u8 32))) fun t20=>
    bnd (gdv t15 true (.tuple []) (some t20)) fun t21=>
    bnd (gdv t21 false (.tuple []) (some x0)) fun t22=>
    bnd (gdv t21 false (.tuple []) (some x4)) fun t23=>
    bnd (gdv t21 false (.tuple []) (Zaj t22 t23)) fun t24=>
    bnd (gdv t21 false (.tuple []) (ibin .eql t24 (.int .u8 9))) fun t25=>
    bnd (gdv t15 true (.tuple []) (Zae t21 (.bool true) t25)) fun t26=>
    bnd (Zae t15 t26 (.bool false)) fun t27=>
    cnd t27
     (Zkl x0 x4 H0 H)
     (ZfU x0 x4 H0 H):=(Zap (C:=cfg) [3,4,7,14,16,19] (Zah 0 (Znv H0)) _ _).trans (by kernel_rfl)
theorem Zqf (p0:AV) (H:Hp):ZdS [p0] H=Zuj p0 H:=(Zab (C:=cfg) (fn:=Tryz.f152) (c:=Za0 Tryz.f152) (n:=116) [3,4,7,14,16,19] Tryz.func152 (by kernel_rfl) (by kernel_rfl) [p0] (by kernel_rfl) H).trans (by kernel_rfl)

def Zn9 (H0 H:Hp):Res:=CXgC 153 13 (sub (Za0 Tryz.f153) [1,1]) (retL cfg 13 153 Tryz.f153 H0) [] H
def ZnT (p0 p1:AV) (H:Hp):Res:=
 bnd (ibin .lss p0 p1) fun t8=>
 cnd t8
  (some ((.int .i64 (-1)),H))
  (bnd (ibin .gtr p0 p1) fun t12=>
  cnd t12
   (some ((.int .i64 1),H))
   (Zn9 H H))
theorem Zsz (H0 H:Hp):Zn9 H0 H =
    some ((.int .i64 0),H):=(Za4 [5] _ _ _ _).trans (by kernel_rfl)
theorem Zt2 (p0 p1:AV) (H:Hp):Ziz [p0,p1] H=ZnT p0 p1 H:=(Zab (C:=cfg) (fn:=Tryz.f153) (c:=Za0 Tryz.f153) (n:=13) [5] Tryz.func153 (by kernel_rfl) (by kernel_rfl) [p0,p1] (by kernel_rfl) H).trans (by kernel_rfl)

def Zke (p0 p1 p2 p3 p4:AV) (H:Hp):Res:=
 bnd (Za2 false 1 p2 H) fun t7=>
 bnd (ibin .and t7 p0) fun t9=>
 bnd (ibin .neq t9 (.int .i64 0)) fun t10=>
 cnd t10
  (bnd (Za2 false 1 p3 H) fun t12=>
  bnd (Zbt cfg (Za7 cfg) p1 [t12] H) fun r13=>
  bnd (Za2 false 1 p4 r13.2) fun t15=>
  bnd (Zbt cfg (Za7 cfg) p1 [t15] r13.2) fun r16=>
  bnd (Zag 1 p3 r13.1 r16.2) fun r_8=>
  bnd (Zag 1 p4 r16.1 r_8.2) fun r_9=>
  some ((.tuple []),r_9.2))
  (some ((.tuple []),H))
theorem ZoM (p0 p1 p2 p3 p4:AV) (H:Hp):ZfN [p0,p1,p2,p3,p4] H=Zke p0 p1 p2 p3 p4 H:=(Zab (C:=cfg) (fn:=Tryz.f154) (c:=Za0 Tryz.f154) (n:=17) [] Tryz.func154 (by kernel_rfl) (by kernel_rfl) [p0,p1,p2,p3,p4] (by kernel_rfl) H).trans (by kernel_rfl)

def Zkf (p0:AV) (H:Hp):Res:=
 bnd (sumC ZsX [p0,(.str [32,9])] H) fun r4=>
 some (r4.1,r4.2)
theorem ZoN (p0:AV) (H:Hp):ZfO [p0] H=Zkf p0 H:=(Zab (C:=cfg) (fn:=Tryz.f155) (c:=Za0 Tryz.f155) (n:=5) [] Tryz.func155 (by kernel_rfl) (by kernel_rfl) [p0] (by kernel_rfl) H).trans (by kernel_rfl)

def Zn8 (x3:AV) (H0 H:Hp):Res:=CXgC 157 44 (sub (Za0 Tryz.f157) [1,1,1]) (retL cfg 44 157 Tryz.f157 H0) [(3,x3)] H
def ZeO (H0:Hp):KL:=seqL (fun k al H=>CXgC 157 44 (sub (Za0 Tryz.f157) [1,1,1]) k (Za8 (cfg.keep 157) (sub (Za0 Tryz.f157) [1,1,1]) al) H) (retL cfg 44 157 Tryz.f157 H0)
theorem Zpz (H0:Hp):Tame 44 (ZeO H0):=Zak (C:=cfg) (kp:=cfg.keep 157) (sub (Za0 Tryz.f157) [1,1,1]) (Zao 157 Tryz.f157 H0)
def Zdr (x0 x3 x7 x8:AV) (H0 H:Hp):Res:=CXgC 157 44 (sub (Za0 Tryz.f157) [1,1,0,1,0,0,1,1,1]) (seqL (fun k al H=>LPgC 157 44 (sub (Za0 Tryz.f157) [1,1,0,1,0,0]) k (Za8 (cfg.keep 157) (sub (Za0 Tryz.f157) [1,1,0,1,0,0]) al) H) (Za3 0 (ZeO H0))) [(0,x0),(3,x3),(7,x7),(8,x8)] H
def Zi8 (x0 x3 x7 x8 x9:AV) (H0 H:Hp):Res:=CXgC 157 44 (sub (Za0 Tryz.f157) [1,1,0,1,0,0,1,1]) (seqL (fun k al H=>LPgC 157 44 (sub (Za0 Tryz.f157) [1,1,0,1,0,0]) k (Za8 (cfg.keep 157) (sub (Za0 Tryz.f157) [1,1,0,1,0,0]) al) H) (Za3 0 (ZeO H0))) [(0,x0),(3,x3),(7,x7),(8,x8),(9,x9)] H
def ZeP (x0 x3 x7 x8:AV) (H0 H:Hp):Res:=LPgC 157 44 (sub (Za0 Tryz.f157) [1,1,0,1,0,0]) (Za3 0 (ZeO H0)) [(0,x0),(3,x3),(7,x7),(8,x8)] H
def ZnS (p0:AV) (H:Hp):Res:=
 bnd (some ((.ptr H.length 0),H++[.bld 192 5 []])) fun r3=>
 bnd (Zaf .string p0) fun t7=>
 ZeP p0 r3.1 t7 (.int .i64 0) H r3.2
theorem Zsx (x3:AV) (H0 H:Hp):Zn8 x3 H0 H =
    bnd (stringE.run [x3] H) fun r43=>
    some (r43.1,r43.2):=(Za4 [4,8,9] _ _ _ _).trans (by kernel_rfl)
theorem ZjH (x0 x3 x7 x8:AV) (H0 H:Hp):Zdr x0 x3 x7 x8 H0 H =
    bnd (ibin .add x8 (.int .i64 1)) fun t42=>
    ZeP x0 x3 x7 t42 H0 H:=(Za4 [4,8,9] _ _ _ _).trans (by kernel_rfl)
theorem Zsy (x0 x3 x7 x8 x9:AV) (H0 H:Hp):Zi8 x0 x3 x7 x8 x9 H0 H =
    bnd (Zaj x0 x8) fun t13=>
    bnd (Zcj [t13] H) fun r15=>
    bnd (gdv r15.1 false (.tuple []) (some t13)) fun t17=>
    bnd (gdv r15.1 false (.tuple []) (ibin .geq t17 (.int .u8 97))) fun t18=>
    bnd (gdv r15.1 false (.tuple []) (some t18)) fun t19=>
    bnd (gdv t19 true (.tuple []) (some t13)) fun t20=>
    bnd (gdv t19 true (.tuple []) (ibin .leq t20 (.int .u8 122))) fun t21=>
    bnd (gdv r15.1 false (.tuple []) (Zae t19 t21 (.bool false))) fun t22=>
    bnd (Zae r15.1 (.bool true) t22) fun t23=>
    bnd (gdv t23 false (.tuple []) (some t13)) fun t25=>
    bnd (gdv t23 false (.tuple []) (ibin .geq t25 (.int .u8 65))) fun t26=>
    bnd (gdv t23 false (.tuple []) (some t26)) fun t27=>
    bnd (gdv t27 true (.tuple []) (some t13)) fun t28=>
    bnd (gdv t27 true (.tuple []) (ibin .leq t28 (.int .u8 90))) fun t29=>
    bnd (gdv t23 false (.tuple []) (Zae t27 t29 (.bool false))) fun t30=>
    bnd (Zae t23 (.bool true) t30) fun t31=>
    bnd (gdv t31 false (.tuple []) (some t13)) fun t33=>
    bnd (gdv t31 false (.tuple []) (ibin .geq t33 (.int .u8 48))) fun t34=>
    bnd (gdv t31 false (.tuple []) (some t34)) fun t35=>
    bnd (gdv t35 true (.tuple []) (some t13)) fun t36=>
    bnd (gdv t35 true (.tuple []) (ibin .leq t36 (.int .u8 57))) fun t37=>
    bnd (gdv t31 false (.tuple []) (Zae t35 t37 (.bool false))) fun t38=>
    bnd (Zae t31 (.bool true) t38) fun t39=>
    cnd t39
     (bnd (byteE.run [x3,t13] r15.2) fun r41=>
     Zdr x0 x3 x7 x8 H0 r41.2)
     (Zdr x0 x3 x7 x8 H0 r15.2):=(Za4 [4,8,9] _ _ _ _).trans (by kernel_rfl)
theorem ZjI (x0 x3 x7 x8:AV) (H0 H:Hp):ZeP x0 x3 x7 x8 H0 H =
    bnd (ibin .lss x8 x7) fun t9=>
    cnd t9
     (Zi8 x0 x3 x7 x8 t9 H0 H)
     (Zn8 x3 H0 H):=(Zap (C:=cfg) [4,8,9] (Zah 0 (Zpz H0)) _ _).trans (by kernel_rfl)
theorem Zt1 (p0:AV) (H:Hp):Ziy [p0] H=ZnS p0 H:=(Zab (C:=cfg) (fn:=Tryz.f157) (c:=Za0 Tryz.f157) (n:=44) [4,8,9] Tryz.func157 (by kernel_rfl) (by kernel_rfl) [p0] (by kernel_rfl) H).trans (by kernel_rfl)

def Zkg (p0 p1:AV) (H:Hp):Res:=
 bnd (Za2 true 6 p1 H) fun t4=>
 bnd (Za5 Zix [t4,p0] H) fun r6=>
 some (r6.1,r6.2)
theorem ZoO (p0 p1:AV) (H:Hp):ZfP [p0,p1] H=Zkg p0 p1 H:=(Zab (C:=cfg) (fn:=Tryz.f158) (c:=Za0 Tryz.f158) (n:=7) [] Tryz.func158 (by kernel_rfl) (by kernel_rfl) [p0,p1] (by kernel_rfl) H).trans (by kernel_rfl)

def ZnP (p0 p1:AV) (H:Hp):Res:=
 bnd (abox p0 H) fun r2=>
 bnd (Za2 true 6 r2.1 r2.2) fun t5=>
 bnd (Za5 ZcG [t5] r2.2) fun r6=>
 bnd (Zl1 false 1 3 r6.1) fun t7=>
 bnd (Za5 Zhd [t7,p1] r6.2) fun r9=>
 some (r9.1,r9.2)
theorem ZsZ (p0 p1:AV) (H:Hp):Zix [p0,p1] H=ZnP p0 p1 H:=(Zab (C:=cfg) (fn:=Tryz.f159) (c:=Za0 Tryz.f159) (n:=10) [] Tryz.func159 (by kernel_rfl) (by kernel_rfl) [p0,p1] (by kernel_rfl) H).trans (by kernel_rfl)

def ZrL (x9:AV) (H0 H:Hp):Res:=CXgC 161 30 (sub (Za0 Tryz.f161) [1,1,1,1]) (retL cfg 30 161 Tryz.f161 H0) [(9,x9)] H
def Zhy (x3 x9:AV) (H0 H:Hp):Res:=CXgC 161 30 (sub (Za0 Tryz.f161) [1,1,1]) (retL cfg 30 161 Tryz.f161 H0) [(3,x3),(9,x9)] H
def ZtK (p0 p1 p2 p3:AV) (H:Hp):Res:=
 bnd (abox p0 H) fun r4=>
 bnd (Za5 ZbF [p3,(.int .i64 1)] r4.2) fun r11=>
 cnd r11.1
  (bnd (Za5 ZjK [p1,p2] r11.2) fun r14=>
  Zhy p3 r14.1 H r14.2)
  (bnd (Za2 true 6 r4.1 r11.2) fun t15=>
  bnd (Za2 true 6 r4.1 r11.2) fun t16=>
  bnd (Za5 ZiY [t16,p1,p3] r11.2) fun r19=>
  bnd (Za2 true 6 r4.1 r19.2) fun t20=>
  bnd (Za5 ZiY [t20,p2,p3] r19.2) fun r23=>
  bnd (Za5 Zej [t15,r19.1,r23.1] r23.2) fun r24=>
  Zhy p3 r24.1 H r24.2)
theorem ZvY (x9:AV) (H0 H:Hp):ZrL x9 H0 H =
    some (x9,H):=(Za4 [5,7] _ _ _ _).trans (by kernel_rfl)
theorem ZvX (x3 x9:AV) (H0 H:Hp):Zhy x3 x9 H0 H =
    bnd (Za5 ZbF [x3,(.int .i64 2)] H) fun r26=>
    cnd r26.1
     (bnd (aun .neg x9) fun t28=>
     some (t28,r26.2))
     (ZrL x9 H0 r26.2):=(Za4 [5,7] _ _ _ _).trans (by kernel_rfl)
theorem ZxC (p0 p1 p2 p3:AV) (H:Hp):ZiW [p0,p1,p2,p3] H=ZtK p0 p1 p2 p3 H:=(Zab (C:=cfg) (fn:=Tryz.f161) (c:=Za0 Tryz.f161) (n:=30) [5,7] Tryz.func161 (by kernel_rfl) (by kernel_rfl) [p0,p1,p2,p3] (by kernel_rfl) H).trans (by kernel_rfl)

def ZrA (x1 x2:AV) (H0 H:Hp):Res:=CXgC 163 8 (sub (Za0 Tryz.f163) [1,1]) (retL cfg 8 163 Tryz.f163 H0) [(1,x1),(2,x2)] H
def Zni (p0:AV) (H:Hp):Res:=
 bnd (abox p0 H) fun r1=>
 bnd (some ((.ptr r1.2.length 0),r1.2++[.cells [(.str []),.nils,(.str []),(.str []),.nils,.nils]])) fun r2=>
 bnd (Za2 true 6 r1.1 r2.2) fun t3=>
 bnd (Za5 ZiT [t3] r2.2) fun r4=>
 bnd (ibin .neq r4.1 (.int .i64 0)) fun t5=>
 cnd t5
  (bnd (Za5 Zbh [] r4.2) fun r6=>
  bnd (Zag 6 r2.1 r6.1 r6.2) fun r_10=>
  bnd (Za2 true 6 r2.1 r_10.2) fun v2=>
  some (v2,r_10.2))
  (ZrA r1.1 r2.1 H r4.2)
theorem ZvO (x1 x2:AV) (H0 H:Hp):ZrA x1 x2 H0 H =
    bnd (Za2 true 6 x1 H) fun t7=>
    bnd (Zag 6 x2 t7 H) fun r_4=>
    bnd (Za2 true 6 x2 r_4.2) fun v2=>
    some (v2,r_4.2):=(Za4 [3] _ _ _ _).trans (by kernel_rfl)
theorem ZnK (p0:AV) (H:Hp):Zet [p0] H=Zni p0 H:=(Zab (C:=cfg) (fn:=Tryz.f163) (c:=Za0 Tryz.f163) (n:=8) [3] Tryz.func163 (by kernel_rfl) (by kernel_rfl) [p0] (by kernel_rfl) H).trans (by kernel_rfl)

def Zrw (H0 H:Hp):Res:=CXgC 164 46 (sub (Za0 Tryz.f164) [1,1,1,1]) (retL cfg 46 164 Tryz.f164 H0) [] H
def Zrv (x0 x1:AV) (H0 H:Hp):Res:=CXgC 164 46 (sub (Za0 Tryz.f164) [1,1,1]) (retL cfg 46 164 Tryz.f164 H0) [(0,x0),(1,x1)] H
def Zlo (x0 x1:AV) (H0 H:Hp):Res:=CXgC 164 46 (sub (Za0 Tryz.f164) [1,1]) (retL cfg 46 164 Tryz.f164 H0) [(0,x0),(1,x1)] H
def ZeV (H0:Hp):KL:=seqL (fun k al H=>CXgC 164 46 (sub (Za0 Tryz.f164) [1,1]) k (Za8 (cfg.keep 164) (sub (Za0 Tryz.f164) [1,1]) al) H) (retL cfg 46 164 Tryz.f164 H0)
theorem Zt9 (H0:Hp):Tame 46 (ZeV H0):=Zak (C:=cfg) (kp:=cfg.keep 164) (sub (Za0 Tryz.f164) [1,1]) (Zao 164 Tryz.f164 H0)
def Zry (x0 x1 x5:AV) (H0 H:Hp):Res:=CXgC 164 46 (sub (Za0 Tryz.f164) [1,0,1,0,0,1,1]) (seqL (fun k al H=>LPgC 164 46 (sub (Za0 Tryz.f164) [1,0,1,0,0]) k (Za8 (cfg.keep 164) (sub (Za0 Tryz.f164) [1,0,1,0,0]) al) H) (Za3 0 (ZeV H0))) [(0,x0),(1,x1),(5,x5)] H
def ZzP (H0:Hp):KL:=seqL (fun k al H=>CXgC 164 46 (sub (Za0 Tryz.f164) [1,0,1,0,0,1,1]) k (Za8 (cfg.keep 164) (sub (Za0 Tryz.f164) [1,0,1,0,0,1,1]) al) H) (seqL (fun k al H=>LPgC 164 46 (sub (Za0 Tryz.f164) [1,0,1,0,0]) k (Za8 (cfg.keep 164) (sub (Za0 Tryz.f164) [1,0,1,0,0]) al) H) (Za3 0 (ZeV H0)))
def Zrz (x0 x1 x5:AV) (H0 H:Hp):Res:=CXgC 164 46 (sub (Za0 Tryz.f164) [1,0,1,0,0,1,0,0,1]) (Za3 1 (ZzP H0)) [(0,x0),(1,x1),(5,x5)] H
def Zrx (x0 x1 x5:AV) (H0 H:Hp):Res:=CXgC 164 46 (sub (Za0 Tryz.f164) [1,0,1,0,0,1]) (seqL (fun k al H=>LPgC 164 46 (sub (Za0 Tryz.f164) [1,0,1,0,0]) k (Za8 (cfg.keep 164) (sub (Za0 Tryz.f164) [1,0,1,0,0]) al) H) (Za3 0 (ZeV H0))) [(0,x0),(1,x1),(5,x5)] H
def Zhv (x0 x1 x5:AV) (H0 H:Hp):Res:=LPgC 164 46 (sub (Za0 Tryz.f164) [1,0,1,0,0]) (Za3 0 (ZeV H0)) [(0,x0),(1,x1),(5,x5)] H
def ZtF (p0 p1:AV) (H:Hp):Res:=
 Zhv p0 p1 (.int .i64 0) H H
theorem ZvK (H0 H:Hp):Zrw H0 H =
    some ((.int .i64 0),H):=(Za4 [3,4,6,8,10,12] _ _ _ _).trans (by kernel_rfl)
theorem ZvJ (x0 x1:AV) (H0 H:Hp):Zrv x0 x1 H0 H =
    bnd (Zaf (.slice 3) x0) fun t42=>
    bnd (Zaf (.slice 3) x1) fun t44=>
    bnd (ibin .gtr t42 t44) fun t45=>
    cnd t45
     (some ((.int .i64 1),H))
     (Zrw H0 H):=(Za4 [3,4,6,8,10,12] _ _ _ _).trans (by kernel_rfl)
theorem ZvI (x0 x1:AV) (H0 H:Hp):Zlo x0 x1 H0 H =
    bnd (Zaf (.slice 3) x0) fun t37=>
    bnd (Zaf (.slice 3) x1) fun t39=>
    bnd (ibin .lss t37 t39) fun t40=>
    cnd t40
     (some ((.int .i64 (-1)),H))
     (Zrv x0 x1 H0 H):=(Za4 [3,4,6,8,10,12] _ _ _ _).trans (by kernel_rfl)
theorem ZvM (x0 x1 x5:AV) (H0 H:Hp):Zry x0 x1 x5 H0 H =
    bnd (ibin .add x5 (.int .i64 1)) fun t17=>
    Zhv x0 x1 t17 H0 H:=(Za4 [3,4,6,8,10,12] _ _ _ _).trans (by kernel_rfl)
theorem ZvN (x0 x1 x5:AV) (H0 H:Hp):Zrz x0 x1 x5 H0 H =
    bnd (Zad 1 x0 x5) fun t29=>
    bnd (Za2 false 1 t29 H) fun t30=>
    bnd (Zad 1 x1 x5) fun t33=>
    bnd (Za2 false 1 t33 H) fun t34=>
    bnd (ibin .gtr t30 t34) fun t35=>
    cnd t35
     (some ((.int .i64 1),H))
     (Zry x0 x1 x5 H0 H):=(Za4 [3,4,6,8,10,12] _ _ _ _).trans (by kernel_rfl)
theorem ZvL (x0 x1 x5:AV) (H0 H:Hp):Zrx x0 x1 x5 H0 H =
    bnd (Zad 1 x0 x5) fun t20=>
    bnd (Za2 false 1 t20 H) fun t21=>
    bnd (Zad 1 x1 x5) fun t24=>
    bnd (Za2 false 1 t24 H) fun t25=>
    bnd (ibin .lss t21 t25) fun t26=>
    cnd t26
     (some ((.int .i64 (-1)),H))
     (Zrz x0 x1 x5 H0 H):=(Za4 [3,4,6,8,10,12] _ _ _ _).trans (by kernel_rfl)
theorem ZmD (x0 x1 x5:AV) (H0 H:Hp):Zhv x0 x1 x5 H0 H =
    bnd (Zaf (.slice 3) x0) fun t8=>
    bnd (ibin .lss x5 t8) fun t9=>
    bnd (gdv t9 true (.tuple []) (some x5)) fun t11=>
    bnd (gdv t9 true (.tuple []) (some x1)) fun t12=>
    bnd (gdv t9 true (.tuple []) (Zaf (.slice 3) t12)) fun t13=>
    bnd (gdv t9 true (.tuple []) (ibin .lss t11 t13)) fun t14=>
    bnd (Zae t9 t14 (.bool false)) fun t15=>
    cnd t15
     (Zrx x0 x1 x5 H0 H)
     (Zlo x0 x1 H0 H):=(Zap (C:=cfg) [3,4,6,8,10,12] (Zah 0 (Zt9 H0)) _ _).trans (by kernel_rfl)
theorem Zxx (p0 p1:AV) (H:Hp):Zg1 [p0,p1] H=ZtF p0 p1 H:=(Zab (C:=cfg) (fn:=Tryz.f164) (c:=Za0 Tryz.f164) (n:=46) [3,4,6,8,10,12] Tryz.func164 (by kernel_rfl) (by kernel_rfl) [p0,p1] (by kernel_rfl) H).trans (by kernel_rfl)

def ZnW (x5:AV) (H0 H:Hp):Res:=CXgC 165 42 (sub (Za0 Tryz.f165) [1,1,1]) (retL cfg 42 165 Tryz.f165 H0) [(5,x5)] H
def ZiC (H0:Hp):KL:=seqL (fun k al H=>CXgC 165 42 (sub (Za0 Tryz.f165) [1,1,1]) k (Za8 (cfg.keep 165) (sub (Za0 Tryz.f165) [1,1,1]) al) H) (retL cfg 42 165 Tryz.f165 H0)
theorem Zqk (H0:Hp):Tame 42 (ZiC H0):=Zak (C:=cfg) (kp:=cfg.keep 165) (sub (Za0 Tryz.f165) [1,1,1]) (Zao 165 Tryz.f165 H0)
def ZnX (x1 x2 x5 x6:AV) (H0 H:Hp):Res:=CXgC 165 42 (sub (Za0 Tryz.f165) [1,1,0,1,0,0,1]) (seqL (fun k al H=>LPgC 165 42 (sub (Za0 Tryz.f165) [1,1,0,1,0,0]) k (Za8 (cfg.keep 165) (sub (Za0 Tryz.f165) [1,1,0,1,0,0]) al) H) (Za3 0 (ZiC H0))) [(1,x1),(2,x2),(5,x5),(6,x6)] H
def ZdH (x1 x2 x5 x6:AV) (H0 H:Hp):Res:=LPgC 165 42 (sub (Za0 Tryz.f165) [1,1,0,1,0,0]) (Za3 0 (ZiC H0)) [(1,x1),(2,x2),(5,x5),(6,x6)] H
def ZpI (p0 p1:AV) (H:Hp):Res:=
 bnd (abox p0 H) fun r2=>
 ZdH p1 r2.1 .nils (.int .i64 0) H r2.2
theorem Zki (x5:AV) (H0 H:Hp):ZnW x5 H0 H =
    some (x5,H):=(Za4 [4,10] _ _ _ _).trans (by kernel_rfl)
theorem Zta (x1 x2 x5 x6:AV) (H0 H:Hp):ZnX x1 x2 x5 x6 H0 H =
    bnd (Za2 true 6 x2 H) fun t12=>
    bnd (Za5 ZkC [t12,x1,x6] H) fun r15=>
    bnd (ibin .lss r15.1 (.int .i64 0)) fun t17=>
    cnd t17
     (bnd (Zaa 1 x2) fun t19=>
     bnd (Za2 false 1 t19 r15.2) fun t20=>
     bnd (Zaj x1 x6) fun t23=>
     bnd (Zad 1 t20 t23) fun t24=>
     bnd (Za2 false 1 t24 r15.2) fun t25=>
     bnd ((Zau 1 [(0,t25)] [(.int .i64 0)]).map (.vs 1 .clip)) fun t26=>
     bnd (ZaH 1 8 x5 t26 r15.2) fun r27=>
     bnd (ibin .add x6 (.int .i64 1)) fun t29=>
     ZdH x1 x2 r27.1 t29 H0 r27.2)
     (bnd (Zaa 5 x2) fun t31=>
     bnd (Za2 false 1 t31 r15.2) fun t32=>
     bnd (Zad 2 t32 r15.1) fun t34=>
     bnd (Zaa 1 t34) fun t35=>
     bnd (Za2 false 1 t35 r15.2) fun t36=>
     bnd ((Zau 1 [(0,t36)] [(.int .i64 0)]).map (.vs 1 .clip)) fun t37=>
     bnd (ZaH 1 8 x5 t37 r15.2) fun r38=>
     bnd (ibin .add x6 (.int .i64 2)) fun t40=>
     ZdH x1 x2 r38.1 t40 H0 r38.2):=(Za4 [4,10] _ _ _ _).trans (by kernel_rfl)
theorem ZfS (x1 x2 x5 x6:AV) (H0 H:Hp):ZdH x1 x2 x5 x6 H0 H =
    bnd (Zaf .string x1) fun t10=>
    bnd (ibin .lss x6 t10) fun t11=>
    cnd t11
     (ZnX x1 x2 x5 x6 H0 H)
     (ZnW x5 H0 H):=(Zap (C:=cfg) [4,10] (Zah 0 (Zqk H0)) _ _).trans (by kernel_rfl)
theorem Zuf (p0 p1:AV) (H:Hp):Zgm [p0,p1] H=ZpI p0 p1 H:=(Zab (C:=cfg) (fn:=Tryz.f165) (c:=Za0 Tryz.f165) (n:=42) [4,10] Tryz.func165 (by kernel_rfl) (by kernel_rfl) [p0,p1] (by kernel_rfl) H).trans (by kernel_rfl)

def Zrg (x5 x6:AV) (H0 H:Hp):Res:=CXgC 166 38 (sub (Za0 Tryz.f166) [1,1,1,1]) (retL cfg 38 166 Tryz.f166 H0) [(5,x5),(6,x6)] H
def Zhj (H0:Hp):KL:=seqL (fun k al H=>CXgC 166 38 (sub (Za0 Tryz.f166) [1,1,1,1]) k (Za8 (cfg.keep 166) (sub (Za0 Tryz.f166) [1,1,1,1]) al) H) (retL cfg 38 166 Tryz.f166 H0)
theorem Zt5 (H0:Hp):Tame 38 (Zhj H0):=Zak (C:=cfg) (kp:=cfg.keep 166) (sub (Za0 Tryz.f166) [1,1,1,1]) (Zao 166 Tryz.f166 H0)
def Zri (x1 x5 x6 x8:AV) (H0 H:Hp):Res:=CXgC 166 38 (sub (Za0 Tryz.f166) [1,1,1,0,1,0,0,1,1]) (seqL (fun k al H=>LPgC 166 38 (sub (Za0 Tryz.f166) [1,1,1,0,1,0,0]) k (Za8 (cfg.keep 166) (sub (Za0 Tryz.f166) [1,1,1,0,1,0,0]) al) H) (Za3 2 (Zhj H0))) [(1,x1),(5,x5),(6,x6),(8,x8)] H
def Zrh (x1 x5 x6 x8:AV) (H0 H:Hp):Res:=CXgC 166 38 (sub (Za0 Tryz.f166) [1,1,1,0,1,0,0,1]) (seqL (fun k al H=>LPgC 166 38 (sub (Za0 Tryz.f166) [1,1,1,0,1,0,0]) k (Za8 (cfg.keep 166) (sub (Za0 Tryz.f166) [1,1,1,0,1,0,0]) al) H) (Za3 2 (Zhj H0))) [(1,x1),(5,x5),(6,x6),(8,x8)] H
def Zhl (x1 x5 x6 x8:AV) (H0 H:Hp):Res:=LPgC 166 38 (sub (Za0 Tryz.f166) [1,1,1,0,1,0,0]) (Za3 2 (Zhj H0)) [(1,x1),(5,x5),(6,x6),(8,x8)] H
def Zrf (x1 x5 x6:AV) (H0 H:Hp):Res:=CXgC 166 38 (sub (Za0 Tryz.f166) [1,1,1]) (retL cfg 38 166 Tryz.f166 H0) [(1,x1),(5,x5),(6,x6)] H
def Zhk (H0:Hp):KL:=seqL (fun k al H=>CXgC 166 38 (sub (Za0 Tryz.f166) [1,1,1]) k (Za8 (cfg.keep 166) (sub (Za0 Tryz.f166) [1,1,1]) al) H) (retL cfg 38 166 Tryz.f166 H0)
theorem Zt6 (H0:Hp):Tame 38 (Zhk H0):=Zak (C:=cfg) (kp:=cfg.keep 166) (sub (Za0 Tryz.f166) [1,1,1]) (Zao 166 Tryz.f166 H0)
def Zrk (x0 x1 x5 x6 x7:AV) (H0 H:Hp):Res:=CXgC 166 38 (sub (Za0 Tryz.f166) [1,1,0,1,0,0,1,1]) (seqL (fun k al H=>LPgC 166 38 (sub (Za0 Tryz.f166) [1,1,0,1,0,0]) k (Za8 (cfg.keep 166) (sub (Za0 Tryz.f166) [1,1,0,1,0,0]) al) H) (Za3 0 (Zhk H0))) [(0,x0),(1,x1),(5,x5),(6,x6),(7,x7)] H
def Zrj (x0 x1 x5 x6 x7:AV) (H0 H:Hp):Res:=CXgC 166 38 (sub (Za0 Tryz.f166) [1,1,0,1,0,0,1]) (seqL (fun k al H=>LPgC 166 38 (sub (Za0 Tryz.f166) [1,1,0,1,0,0]) k (Za8 (cfg.keep 166) (sub (Za0 Tryz.f166) [1,1,0,1,0,0]) al) H) (Za3 0 (Zhk H0))) [(0,x0),(1,x1),(5,x5),(6,x6),(7,x7)] H
def Zhm (x0 x1 x5 x6 x7:AV) (H0 H:Hp):Res:=LPgC 166 38 (sub (Za0 Tryz.f166) [1,1,0,1,0,0]) (Za3 0 (Zhk H0)) [(0,x0),(1,x1),(5,x5),(6,x6),(7,x7)] H
def ZAU (p0 p1:AV) (H:Hp):Res:=
 Zhm p0 p1 .nils .nils (.int .i64 0) H H
theorem Zvw (x5 x6:AV) (H0 H:Hp):Zrg x5 x6 H0 H =
    bnd (Za5 Zg1 [x5,x6] H) fun r37=>
    some (r37.1,r37.2):=(Za4 [4,5,6,8,9,10] _ _ _ _).trans (by kernel_rfl)
theorem Zvy (x1 x5 x6 x8:AV) (H0 H:Hp):Zri x1 x5 x6 x8 H0 H =
    bnd (ibin .add x8 (.int .i64 1)) fun t27=>
    Zhl x1 x5 x6 t27 H0 H:=(Za4 [4,5,6,8,9,10] _ _ _ _).trans (by kernel_rfl)
theorem Zvx (x1 x5 x6 x8:AV) (H0 H:Hp):Zrh x1 x5 x6 x8 H0 H =
    bnd (Zaj x1 x8) fun t31=>
    bnd (ZbA .i64 t31) fun t32=>
    bnd ((Zau 1 [(0,t32)] [(.int .i64 0)]).map (.vs 1 .clip)) fun t33=>
    bnd (ZaH 1 8 x6 t33 H) fun r34=>
    Zri x1 x5 r34.1 x8 H0 r34.2:=(Za4 [4,5,6,8,9,10] _ _ _ _).trans (by kernel_rfl)
theorem ZmA (x1 x5 x6 x8:AV) (H0 H:Hp):Zhl x1 x5 x6 x8 H0 H =
    bnd (Zaf .string x1) fun t24=>
    bnd (ibin .lss x8 t24) fun t25=>
    cnd t25
     (Zrh x1 x5 x6 x8 H0 H)
     (Zrg x5 x6 H0 H):=(Zap (C:=cfg) [4,5,6,8,9,10] (Zah 2 (Zt5 H0)) _ _).trans (by kernel_rfl)
theorem Zvv (x1 x5 x6:AV) (H0 H:Hp):Zrf x1 x5 x6 H0 H =
    Zhl x1 x5 x6 (.int .i64 0) H0 H:=(Za4 [4,5,6,8,9,10] _ _ _ _).trans (by kernel_rfl)
theorem ZvA (x0 x1 x5 x6 x7:AV) (H0 H:Hp):Zrk x0 x1 x5 x6 x7 H0 H =
    bnd (ibin .add x7 (.int .i64 1)) fun t14=>
    Zhm x0 x1 x5 x6 t14 H0 H:=(Za4 [4,5,6,8,9,10] _ _ _ _).trans (by kernel_rfl)
theorem Zvz (x0 x1 x5 x6 x7:AV) (H0 H:Hp):Zrj x0 x1 x5 x6 x7 H0 H =
    bnd (Zaj x0 x7) fun t18=>
    bnd (ZbA .i64 t18) fun t19=>
    bnd ((Zau 1 [(0,t19)] [(.int .i64 0)]).map (.vs 1 .clip)) fun t20=>
    bnd (ZaH 1 8 x5 t20 H) fun r21=>
    Zrk x0 x1 r21.1 x6 x7 H0 r21.2:=(Za4 [4,5,6,8,9,10] _ _ _ _).trans (by kernel_rfl)
theorem ZmB (x0 x1 x5 x6 x7:AV) (H0 H:Hp):Zhm x0 x1 x5 x6 x7 H0 H =
    bnd (Zaf .string x0) fun t11=>
    bnd (ibin .lss x7 t11) fun t12=>
    cnd t12
     (Zrj x0 x1 x5 x6 x7 H0 H)
     (Zrf x1 x5 x6 H0 H):=(Zap (C:=cfg) [4,5,6,8,9,10] (Zah 0 (Zt6 H0)) _ _).trans (by kernel_rfl)
theorem Zxt (p0 p1:AV) (H:Hp):Zne [p0,p1] H=ZAU p0 p1 H:=(Zab (C:=cfg) (fn:=Tryz.f166) (c:=Za0 Tryz.f166) (n:=38) [4,5,6,8,9,10] Tryz.func166 (by kernel_rfl) (by kernel_rfl) [p0,p1] (by kernel_rfl) H).trans (by kernel_rfl)

def Zn0 (x1:AV) (H0 H:Hp):Res:=CXgC 186 49 (sub (Za0 Tryz.f186) [1,1,1,1,1]) (retL cfg 49 186 Tryz.f186 H0) [(1,x1)] H
def ZmZ (x1:AV) (H0 H:Hp):Res:=CXgC 186 49 (sub (Za0 Tryz.f186) [1,1,1,1]) (retL cfg 49 186 Tryz.f186 H0) [(1,x1)] H
def ZeJ (H0:Hp):KL:=seqL (fun k al H=>CXgC 186 49 (sub (Za0 Tryz.f186) [1,1,1,1]) k (Za8 (cfg.keep 186) (sub (Za0 Tryz.f186) [1,1,1,1]) al) H) (retL cfg 49 186 Tryz.f186 H0)
theorem Zpf (H0:Hp):Tame 49 (ZeJ H0):=Zak (C:=cfg) (kp:=cfg.keep 186) (sub (Za0 Tryz.f186) [1,1,1,1]) (Zao 186 Tryz.f186 H0)
def Zn2 (x1 x27 x28 x29:AV) (H0 H:Hp):Res:=CXgC 186 49 (sub (Za0 Tryz.f186) [1,1,1,0,1,0,0,1,1,1]) (seqL (fun k al H=>LPgC 186 49 (sub (Za0 Tryz.f186) [1,1,1,0,1,0,0]) k (Za8 (cfg.keep 186) (sub (Za0 Tryz.f186) [1,1,1,0,1,0,0]) al) H) (Za3 0 (ZeJ H0))) [(1,x1),(27,x27),(28,x28),(29,x29)] H
def Zn1 (x1 x27 x28 x29 x30:AV) (H0 H:Hp):Res:=CXgC 186 49 (sub (Za0 Tryz.f186) [1,1,1,0,1,0,0,1,1]) (seqL (fun k al H=>LPgC 186 49 (sub (Za0 Tryz.f186) [1,1,1,0,1,0,0]) k (Za8 (cfg.keep 186) (sub (Za0 Tryz.f186) [1,1,1,0,1,0,0]) al) H) (Za3 0 (ZeJ H0))) [(1,x1),(27,x27),(28,x28),(29,x29),(30,x30)] H
def ZeK (x1 x27 x28 x29:AV) (H0 H:Hp):Res:=LPgC 186 49 (sub (Za0 Tryz.f186) [1,1,1,0,1,0,0]) (Za3 0 (ZeJ H0)) [(1,x1),(27,x27),(28,x28),(29,x29)] H
def ZmY (x1:AV) (H0 H:Hp):Res:=CXgC 186 49 (sub (Za0 Tryz.f186) [1,1,1]) (retL cfg 49 186 Tryz.f186 H0) [(1,x1)] H
def ZmX (x1:AV) (H0 H:Hp):Res:=CXgC 186 49 (sub (Za0 Tryz.f186) [1,1]) (retL cfg 49 186 Tryz.f186 H0) [(1,x1)] H
def ZnN (p0:AV) (H:Hp):Res:=
 bnd (abox p0 H) fun r1=>
 bnd (Zaa 0 r1.1) fun t6=>
 bnd (Za2 false 1 t6 r1.2) fun t7=>
 bnd (Za5 Zel [t7] r1.2) fun r8=>
 bnd (aun .not r8.1) fun t9=>
 cnd t9
  (some ((.int .i64 4),r8.2))
  (ZmX r1.1 H r8.2)
theorem Zsn (x1:AV) (H0 H:Hp):Zn0 x1 H0 H =
    bnd (Zaa 5 x1) fun t46=>
    bnd (Za2 false 1 t46 H) fun t47=>
    bnd (Za5 Zcb [t47] H) fun r48=>
    some (r48.1,r48.2):=(Za4 [3,5,7,10,11,14] _ _ _ _).trans (by kernel_rfl)
theorem Zsm (x1:AV) (H0 H:Hp):ZmZ x1 H0 H =
    bnd (Zaa 4 x1) fun t40=>
    bnd (Za2 false 1 t40 H) fun t41=>
    bnd (Za5 Zch [t41] H) fun r42=>
    bnd (ibin .neq r42.1 (.int .i64 0)) fun t44=>
    cnd t44
     (some (r42.1,r42.2))
     (Zn0 x1 H0 r42.2):=(Za4 [3,5,7,10,11,14] _ _ _ _).trans (by kernel_rfl)
theorem Zsp (x1 x27 x28 x29:AV) (H0 H:Hp):Zn2 x1 x27 x28 x29 H0 H =
    bnd (ibin .add x29 (.int .i64 1)) fun t39=>
    ZeK x1 x27 x28 t39 H0 H:=(Za4 [3,5,7,10,11,14] _ _ _ _).trans (by kernel_rfl)
theorem Zso (x1 x27 x28 x29 x30:AV) (H0 H:Hp):Zn1 x1 x27 x28 x29 x30 H0 H =
    bnd (Zad 1 x27 x29) fun t31=>
    bnd (Za2 false 1 t31 H) fun t32=>
    bnd (ibin .lss t32 (.int .i64 0)) fun t34=>
    bnd (gdv t34 false (.tuple []) (some t32)) fun t36=>
    bnd (gdv t34 false (.tuple []) (ibin .gtr t36 (.int .i64 65535))) fun t37=>
    bnd (Zae t34 (.bool true) t37) fun t38=>
    cnd t38
     (some ((.int .i64 2),H))
     (Zn2 x1 x27 x28 x29 H0 H):=(Za4 [3,5,7,10,11,14] _ _ _ _).trans (by kernel_rfl)
theorem Zjv (x1 x27 x28 x29:AV) (H0 H:Hp):ZeK x1 x27 x28 x29 H0 H =
    bnd (ibin .lss x29 x28) fun t30=>
    cnd t30
     (Zn1 x1 x27 x28 x29 t30 H0 H)
     (ZmZ x1 H0 H):=(Zap (C:=cfg) [3,5,7,10,11,14] (Zah 0 (Zpf H0)) _ _).trans (by kernel_rfl)
theorem Zsl (x1:AV) (H0 H:Hp):ZmY x1 H0 H =
    bnd (Zaa 1 x1) fun t26=>
    bnd (Za2 false 1 t26 H) fun t27=>
    bnd (Zaf (.slice 3) t27) fun t28=>
    ZeK x1 t27 t28 (.int .i64 0) H0 H:=(Za4 [3,5,7,10,11,14] _ _ _ _).trans (by kernel_rfl)
theorem Zsk (x1:AV) (H0 H:Hp):ZmX x1 H0 H =
    bnd (Zaa 1 x1) fun t10=>
    bnd (Za2 false 1 t10 H) fun t11=>
    bnd (Zaf (.slice 3) t11) fun t12=>
    bnd (ibin .neq t12 (.int .i64 256)) fun t13=>
    bnd (gdv t13 false (.tuple []) (Zaa 2 x1)) fun t15=>
    bnd (gdv t13 false (.tuple []) (Za2 false 1 t15 H)) fun t16=>
    bnd (gdv t13 false (.tuple []) (Zaf .string t16)) fun t17=>
    bnd (gdv t13 false (.tuple []) (ibin .neq t17 (.int .i64 256))) fun t18=>
    bnd (Zae t13 (.bool true) t18) fun t19=>
    bnd (gdv t19 false (.tuple []) (Zaa 3 x1)) fun t21=>
    bnd (gdv t19 false (.tuple []) (Za2 false 1 t21 H)) fun t22=>
    bnd (gdv t19 false (.tuple []) (Zaf .string t22)) fun t23=>
    bnd (gdv t19 false (.tuple []) (ibin .neq t23 (.int .i64 256))) fun t24=>
    bnd (Zae t19 (.bool true) t24) fun t25=>
    cnd t25
     (some ((.int .i64 2),H))
     (ZmY x1 H0 H):=(Za4 [3,5,7,10,11,14] _ _ _ _).trans (by kernel_rfl)
theorem ZsY (p0:AV) (H:Hp):Zfd [p0] H=ZnN p0 H:=(Zab (C:=cfg) (fn:=Tryz.f186) (c:=Za0 Tryz.f186) (n:=49) [3,5,7,10,11,14] Tryz.func186 (by kernel_rfl) (by kernel_rfl) [p0] (by kernel_rfl) H).trans (by kernel_rfl)

def ZgJ (p0 p1:AV) (H:Hp):Res:=
 bnd (extC .cmp [p0,p1] H) fun r7=>
 some (r7.1,r7.2)
theorem Zfe (p0 p1:AV) (H:Hp):ZbC [p0,p1] H=ZgJ p0 p1 H:=(Zab (C:=cfg) (fn:=Tryz.f188) (c:=Za0 Tryz.f188) (n:=8) [] Tryz.func188 (by kernel_rfl) (by kernel_rfl) [p0,p1] (by kernel_rfl) H).trans (by kernel_rfl)

def Zkm (x3:AV) (H0 H:Hp):Res:=CXgC 189 23 (sub (Za0 Tryz.f189) [1,1,1]) (retL cfg 23 189 Tryz.f189 H0) [(3,x3)] H
def ZfY (H0:Hp):KL:=seqL (fun k al H=>CXgC 189 23 (sub (Za0 Tryz.f189) [1,1,1]) k (Za8 (cfg.keep 189) (sub (Za0 Tryz.f189) [1,1,1]) al) H) (retL cfg 23 189 Tryz.f189 H0)
theorem Znw (H0:Hp):Tame 23 (ZfY H0):=Zak (C:=cfg) (kp:=cfg.keep 189) (sub (Za0 Tryz.f189) [1,1,1]) (Zao 189 Tryz.f189 H0)
def Zkn (x0 x3:AV) (H0 H:Hp):Res:=CXgC 189 23 (sub (Za0 Tryz.f189) [1,1,0,0,0,1]) (seqL (fun k al H=>LPgC 189 23 (sub (Za0 Tryz.f189) [1,1,0,0,0]) k (Za8 (cfg.keep 189) (sub (Za0 Tryz.f189) [1,1,0,0,0]) al) H) (Za3 0 (ZfY H0))) [(0,x0),(3,x3)] H
def ZdB (x0 x3:AV) (H0 H:Hp):Res:=LPgC 189 23 (sub (Za0 Tryz.f189) [1,1,0,0,0]) (Za3 0 (ZfY H0)) [(0,x0),(3,x3)] H
def Zuk (p0:AV) (H:Hp):Res:=
 ZdB p0 (.int .i64 0) H H
theorem ZdW (x3:AV) (H0 H:Hp):Zkm x3 H0 H =
    some (x3,H):=(Za4 [3,4] _ _ _ _).trans (by kernel_rfl)
theorem Zp7 (x0 x3:AV) (H0 H:Hp):Zkn x0 x3 H0 H =
    bnd (ibin .add x3 (.int .i64 1)) fun t21=>
    ZdB x0 t21 H0 H:=(Za4 [3,4] _ _ _ _).trans (by kernel_rfl)
theorem ZhV (x0 x3:AV) (H0 H:Hp):ZdB x0 x3 H0 H =
    bnd (Zaf .string x0) fun t6=>
    bnd (ibin .lss x3 t6) fun t7=>
    bnd (gdv t7 true (.tuple []) (some x0)) fun t9=>
    bnd (gdv t7 true (.tuple []) (some x3)) fun t10=>
    bnd (gdv t7 true (.tuple []) (Zaj t9 t10)) fun t11=>
    bnd (gdv t7 true (.tuple []) (ibin .geq t11 (.int .u8 48))) fun t12=>
    bnd (Zae t7 t12 (.bool false)) fun t13=>
    bnd (gdv t13 true (.tuple []) (some x0)) fun t15=>
    bnd (gdv t13 true (.tuple []) (some x3)) fun t16=>
    bnd (gdv t13 true (.tuple []) (Zaj t15 t16)) fun t17=>
    bnd (gdv t13 true (.tuple []) (ibin .leq t17 (.int .u8 57))) fun t18=>
    bnd (Zae t13 t18 (.bool false)) fun t19=>
    cnd t19
     (Zkn x0 x3 H0 H)
     (Zkm x3 H0 H):=(Zap (C:=cfg) [3,4] (Zah 0 (Znw H0)) _ _).trans (by kernel_rfl)
theorem Zqg (p0:AV) (H:Hp):ZdT [p0] H=Zuk p0 H:=(Zab (C:=cfg) (fn:=Tryz.f189) (c:=Za0 Tryz.f189) (n:=23) [3,4] Tryz.func189 (by kernel_rfl) (by kernel_rfl) [p0] (by kernel_rfl) H).trans (by kernel_rfl)

def ZlI (x1 x5:AV) (H0 H:Hp):Res:=CXgC 190 29 (sub (Za0 Tryz.f190) [1,1,1]) (retL cfg 29 190 Tryz.f190 H0) [(1,x1),(5,x5)] H
def ZdX (H0:Hp):KL:=seqL (fun k al H=>CXgC 190 29 (sub (Za0 Tryz.f190) [1,1,1]) k (Za8 (cfg.keep 190) (sub (Za0 Tryz.f190) [1,1,1]) al) H) (retL cfg 29 190 Tryz.f190 H0)
theorem Zof (H0:Hp):Tame 29 (ZdX H0):=Zak (C:=cfg) (kp:=cfg.keep 190) (sub (Za0 Tryz.f190) [1,1,1]) (Zao 190 Tryz.f190 H0)
def ZlK (x0 x1 x5 x8 x9:AV) (H0 H:Hp):Res:=CXgC 190 29 (sub (Za0 Tryz.f190) [1,1,0,1,0,0,1,1,1]) (seqL (fun k al H=>LPgC 190 29 (sub (Za0 Tryz.f190) [1,1,0,1,0,0]) k (Za8 (cfg.keep 190) (sub (Za0 Tryz.f190) [1,1,0,1,0,0]) al) H) (Za3 0 (ZdX H0))) [(0,x0),(1,x1),(5,x5),(8,x8),(9,x9)] H
def ZlJ (x0 x1 x5 x8 x9 x10:AV) (H0 H:Hp):Res:=CXgC 190 29 (sub (Za0 Tryz.f190) [1,1,0,1,0,0,1,1]) (seqL (fun k al H=>LPgC 190 29 (sub (Za0 Tryz.f190) [1,1,0,1,0,0]) k (Za8 (cfg.keep 190) (sub (Za0 Tryz.f190) [1,1,0,1,0,0]) al) H) (Za3 0 (ZdX H0))) [(0,x0),(1,x1),(5,x5),(8,x8),(9,x9),(10,x10)] H
def ZdY (x0 x1 x5 x8 x9:AV) (H0 H:Hp):Res:=LPgC 190 29 (sub (Za0 Tryz.f190) [1,1,0,1,0,0]) (Za3 0 (ZdX H0)) [(0,x0),(1,x1),(5,x5),(8,x8),(9,x9)] H
def Zms (p0 p1:AV) (H:Hp):Res:=
 bnd (Zaf .string p0) fun t8=>
 ZdY p0 p1 (.int .i64 0) t8 (.int .i64 0) H H
theorem Zqm (x1 x5:AV) (H0 H:Hp):ZlI x1 x5 H0 H =
    bnd (ibin .mul x5 (.int .i64 10000)) fun t24=>
    bnd (Za5 ZeR [x1] H) fun r26=>
    bnd (ibin .add t24 r26.1) fun t27=>
    bnd (ZeI (.int .i64 10000000000001) t27) fun t28=>
    some (t28,r26.2):=(Za4 [4,8,9] _ _ _ _).trans (by kernel_rfl)
theorem Zqo (x0 x1 x5 x8 x9:AV) (H0 H:Hp):ZlK x0 x1 x5 x8 x9 H0 H =
    bnd (ibin .add x9 (.int .i64 1)) fun t22=>
    ZdY x0 x1 x5 x8 t22 H0 H:=(Za4 [4,8,9] _ _ _ _).trans (by kernel_rfl)
theorem Zqn (x0 x1 x5 x8 x9 x10:AV) (H0 H:Hp):ZlJ x0 x1 x5 x8 x9 x10 H0 H =
    bnd (ibin .mul (.int .i64 10) x5) fun t13=>
    bnd (Zaj x0 x9) fun t16=>
    bnd (ibin .sub t16 (.int .u8 48)) fun t17=>
    bnd (ZbA .i64 t17) fun t18=>
    bnd (ibin .add t13 t18) fun t19=>
    bnd (ibin .gtr t19 (.int .i64 1000000000)) fun t21=>
    cnd t21
     (some ((.int .i64 10000000000001),H))
     (ZlK x0 x1 t19 x8 x9 H0 H):=(Za4 [4,8,9] _ _ _ _).trans (by kernel_rfl)
theorem Zil (x0 x1 x5 x8 x9:AV) (H0 H:Hp):ZdY x0 x1 x5 x8 x9 H0 H =
    bnd (ibin .lss x9 x8) fun t10=>
    cnd t10
     (ZlJ x0 x1 x5 x8 x9 t10 H0 H)
     (ZlI x1 x5 H0 H):=(Zap (C:=cfg) [4,8,9] (Zah 0 (Zof H0)) _ _).trans (by kernel_rfl)
theorem Zr2 (p0 p1:AV) (H:Hp):Zhc [p0,p1] H=Zms p0 p1 H:=(Zab (C:=cfg) (fn:=Tryz.f190) (c:=Za0 Tryz.f190) (n:=29) [4,8,9] Tryz.func190 (by kernel_rfl) (by kernel_rfl) [p0,p1] (by kernel_rfl) H).trans (by kernel_rfl)

def ZlO (x5:AV) (H0 H:Hp):Res:=CXgC 197 26 (sub (Za0 Tryz.f197) [1,1,1]) (retL cfg 26 197 Tryz.f197 H0) [(5,x5)] H
def Ze1 (H0:Hp):KL:=seqL (fun k al H=>CXgC 197 26 (sub (Za0 Tryz.f197) [1,1,1]) k (Za8 (cfg.keep 197) (sub (Za0 Tryz.f197) [1,1,1]) al) H) (retL cfg 26 197 Tryz.f197 H0)
theorem Zom (H0:Hp):Tame 26 (Ze1 H0):=Zak (C:=cfg) (kp:=cfg.keep 197) (sub (Za0 Tryz.f197) [1,1,1]) (Zao 197 Tryz.f197 H0)
def ZlQ (x0 x5 x10 x11:AV) (H0 H:Hp):Res:=CXgC 197 26 (sub (Za0 Tryz.f197) [1,1,0,1,0,0,1,1,1]) (seqL (fun k al H=>LPgC 197 26 (sub (Za0 Tryz.f197) [1,1,0,1,0,0]) k (Za8 (cfg.keep 197) (sub (Za0 Tryz.f197) [1,1,0,1,0,0]) al) H) (Za3 0 (Ze1 H0))) [(0,x0),(5,x5),(10,x10),(11,x11)] H
def ZlP (x0 x5 x10 x11 x12:AV) (H0 H:Hp):Res:=CXgC 197 26 (sub (Za0 Tryz.f197) [1,1,0,1,0,0,1,1]) (seqL (fun k al H=>LPgC 197 26 (sub (Za0 Tryz.f197) [1,1,0,1,0,0]) k (Za8 (cfg.keep 197) (sub (Za0 Tryz.f197) [1,1,0,1,0,0]) al) H) (Za3 0 (Ze1 H0))) [(0,x0),(5,x5),(10,x10),(11,x11),(12,x12)] H
def Ze2 (x0 x5 x10 x11:AV) (H0 H:Hp):Res:=LPgC 197 26 (sub (Za0 Tryz.f197) [1,1,0,1,0,0]) (Za3 0 (Ze1 H0)) [(0,x0),(5,x5),(10,x10),(11,x11)] H
def Zmt (p0 p1:AV) (H:Hp):Res:=
 bnd (Zp2 p1 H) fun r8=>
 bnd (Zaf (.slice 5) r8.1) fun t10=>
 Ze2 p0 r8.1 t10 (.int .i64 0) H r8.2
theorem Zqq (x5:AV) (H0 H:Hp):ZlO x5 H0 H =
    bnd (cvRd x5 H) fun t25=>
    some (t25,H):=(Za4 [4,6,7] _ _ _ _).trans (by kernel_rfl)
theorem Zqs (x0 x5 x10 x11:AV) (H0 H:Hp):ZlQ x0 x5 x10 x11 H0 H =
    bnd (ibin .add x11 (.int .i64 1)) fun t23=>
    Ze2 x0 x5 x10 t23 H0 H:=(Za4 [4,6,7] _ _ _ _).trans (by kernel_rfl)
theorem Zqr (x0 x5 x10 x11 x12:AV) (H0 H:Hp):ZlP x0 x5 x10 x11 x12 H0 H =
    bnd (Zad 1 x5 x11) fun t19=>
    bnd (Za2 false 1 t19 H) fun t20=>
    bnd (Zaj x0 t20) fun t21=>
    bnd (Zad 1 x5 x11) fun t22=>
    bnd (Zag 1 t22 t21 H) fun r_10=>
    ZlQ x0 x5 x10 x11 H0 r_10.2:=(Za4 [4,6,7] _ _ _ _).trans (by kernel_rfl)
theorem Zim (x0 x5 x10 x11:AV) (H0 H:Hp):Ze2 x0 x5 x10 x11 H0 H =
    bnd (ibin .lss x11 x10) fun t12=>
    cnd t12
     (ZlP x0 x5 x10 x11 t12 H0 H)
     (ZlO x5 H0 H):=(Zap (C:=cfg) [4,6,7] (Zah 0 (Zom H0)) _ _).trans (by kernel_rfl)
theorem Zr3 (p0 p1:AV) (H:Hp):Zhd [p0,p1] H=Zmt p0 p1 H:=(Zab (C:=cfg) (fn:=Tryz.f197) (c:=Za0 Tryz.f197) (n:=26) [4,6,7] Tryz.func197 (by kernel_rfl) (by kernel_rfl) [p0,p1] (by kernel_rfl) H).trans (by kernel_rfl)

def Zo7 (H0 H:Hp):Res:=CXgC 199 25 (sub (Za0 Tryz.f199) [1,1,1,1,1]) (retL cfg 25 199 Tryz.f199 H0) [] H
def Zo6 (x5 x7:AV) (H0 H:Hp):Res:=CXgC 199 25 (sub (Za0 Tryz.f199) [1,1,1,1]) (retL cfg 25 199 Tryz.f199 H0) [(5,x5),(7,x7)] H
def ZpL (p0 p1:AV) (H:Hp):Res:=
 bnd (Za5 Zh9 [p0] H) fun r11=>
 bnd (aext r11.1 0) fun t12=>
 bnd (aext r11.1 1) fun t13=>
 bnd (Za5 Zh9 [p1] r11.2) fun r16=>
 bnd (aext r16.1 0) fun t17=>
 bnd (aext r16.1 1) fun t18=>
 bnd (ibin .lss t12 t17) fun t21=>
 cnd t21
  (some ((.int .i64 (-1)),r16.2))
  (Zo6 t12 t17 H r16.2)
theorem Ztk (H0 H:Hp):Zo7 H0 H =
    some ((.int .i64 0),H):=(Za4 [5,7] _ _ _ _).trans (by kernel_rfl)
theorem Zkk (x5 x7:AV) (H0 H:Hp):Zo6 x5 x7 H0 H =
    bnd (ibin .gtr x5 x7) fun t24=>
    cnd t24
     (some ((.int .i64 1),H))
     (Zo7 H0 H):=(Za4 [5,7] _ _ _ _).trans (by kernel_rfl)
theorem Zui (p0 p1:AV) (H:Hp):ZjK [p0,p1] H=ZpL p0 p1 H:=(Zab (C:=cfg) (fn:=Tryz.f199) (c:=Za0 Tryz.f199) (n:=25) [5,7] Tryz.func199 (by kernel_rfl) (by kernel_rfl) [p0,p1] (by kernel_rfl) H).trans (by kernel_rfl)

def Zlx (x1:AV) (H0 H:Hp):Res:=CXgC 200 31 (sub (Za0 Tryz.f200) [1,1,1,1]) (retL cfg 31 200 Tryz.f200 H0) [(1,x1)] H
def Zhz (x1 x2 x3:AV) (H0 H:Hp):Res:=CXgC 200 31 (sub (Za0 Tryz.f200) [1,1,1]) (retL cfg 31 200 Tryz.f200 H0) [(1,x1),(2,x2),(3,x3)] H
def Zlw (x1 x2 x3:AV) (H0 H:Hp):Res:=CXgC 200 31 (sub (Za0 Tryz.f200) [1,1]) (retL cfg 31 200 Tryz.f200 H0) [(1,x1),(2,x2),(3,x3)] H
def Zly (H0:Hp):KL:=seqL (fun k al H=>CXgC 200 31 (sub (Za0 Tryz.f200) [1,1]) k (Za8 (cfg.keep 200) (sub (Za0 Tryz.f200) [1,1]) al) H) (retL cfg 31 200 Tryz.f200 H0)
theorem Ztl (H0:Hp):Tame 31 (Zly H0):=Zak (C:=cfg) (kp:=cfg.keep 200) (sub (Za0 Tryz.f200) [1,1]) (Zao 200 Tryz.f200 H0)
def ZrM (x1 x2 x3:AV) (H0 H:Hp):Res:=CXgC 200 31 (sub (Za0 Tryz.f200) [1,0,0,0,1]) (seqL (fun k al H=>LPgC 200 31 (sub (Za0 Tryz.f200) [1,0,0,0]) k (Za8 (cfg.keep 200) (sub (Za0 Tryz.f200) [1,0,0,0]) al) H) (Za3 0 (Zly H0))) [(1,x1),(2,x2),(3,x3)] H
def ZhA (x1 x2 x3:AV) (H0 H:Hp):Res:=LPgC 200 31 (sub (Za0 Tryz.f200) [1,0,0,0]) (Za3 0 (Zly H0)) [(1,x1),(2,x2),(3,x3)] H
def ZtM (p0 p1 p2:AV) (H:Hp):Res:=
 bnd (abox p0 H) fun r3=>
 ZhA p1 p2 r3.1 H r3.2
theorem ZmF (x1:AV) (H0 H:Hp):Zlx x1 H0 H =
    some (x1,H):=(Za4 [2,3,5,7] _ _ _ _).trans (by kernel_rfl)
theorem Zw1 (x1 x2 x3:AV) (H0 H:Hp):Zhz x1 x2 x3 H0 H =
    bnd (Za5 ZbF [x2,(.int .i64 4)] H) fun r26=>
    cnd r26.1
     (bnd (Za2 true 6 x3 r26.2) fun t27=>
     bnd (Za5 Znf [t27,x1] r26.2) fun r29=>
     Zlx r29.1 H0 r29.2)
     (Zlx x1 H0 r26.2):=(Za4 [2,3,5,7] _ _ _ _).trans (by kernel_rfl)
theorem Zw0 (x1 x2 x3:AV) (H0 H:Hp):Zlw x1 x2 x3 H0 H =
    bnd (Za5 ZbF [x2,(.int .i64 16)] H) fun r22=>
    cnd r22.1
     (bnd (Za5 ZoG [x1] r22.2) fun r24=>
     Zhz r24.1 x2 x3 H0 r24.2)
     (Zhz x1 x2 x3 H0 r22.2):=(Za4 [2,3,5,7] _ _ _ _).trans (by kernel_rfl)
theorem Zw2 (x1 x2 x3:AV) (H0 H:Hp):ZrM x1 x2 x3 H0 H =
    bnd (ZaE x1 (some (.int .i64 1)) none none) fun t20=>
    ZhA t20 x2 x3 H0 H:=(Za4 [2,3,5,7] _ _ _ _).trans (by kernel_rfl)
theorem ZmG (x1 x2 x3:AV) (H0 H:Hp):ZhA x1 x2 x3 H0 H =
    bnd (Za5 ZbF [x2,(.int .i64 8)] H) fun r8=>
    bnd (gdv r8.1 true (.tuple []) (some x1)) fun t10=>
    bnd (gdv r8.1 true (.tuple []) (Zaf .string t10)) fun t11=>
    bnd (gdv r8.1 true (.tuple []) (ibin .gtr t11 (.int .i64 0))) fun t12=>
    bnd (Zae r8.1 t12 (.bool false)) fun t13=>
    bnd (gdv t13 true (.tuple []) (some x1)) fun t15=>
    bnd (gdv t13 true (.tuple []) (Zaj t15 (.int .i64 0))) fun t16=>
    bnd (gdv t13 true ((.tuple []),r8.2) (Zds [t16] r8.2)) fun r17=>
    bnd (Zae t13 r17.1 (.bool false)) fun t18=>
    cnd t18
     (ZrM x1 x2 x3 H0 r17.2)
     (Zlw x1 x2 x3 H0 r17.2):=(Zap (C:=cfg) [2,3,5,7] (Zah 0 (Ztl H0)) _ _).trans (by kernel_rfl)
theorem ZxE (p0 p1 p2:AV) (H:Hp):ZiY [p0,p1,p2] H=ZtM p0 p1 p2 H:=(Zab (C:=cfg) (fn:=Tryz.f200) (c:=Za0 Tryz.f200) (n:=31) [2,3,5,7] Tryz.func200 (by kernel_rfl) (by kernel_rfl) [p0,p1,p2] (by kernel_rfl) H).trans (by kernel_rfl)

def Zrp (x1:AV) (H0 H:Hp):Res:=CXgC 204 43 (sub (Za0 Tryz.f204) [1,1,1,1,1,1]) (retL cfg 43 204 Tryz.f204 H0) [(1,x1)] H
def Zro (x1:AV) (H0 H:Hp):Res:=CXgC 204 43 (sub (Za0 Tryz.f204) [1,1,1,1,1]) (retL cfg 43 204 Tryz.f204 H0) [(1,x1)] H
def Zrn (x1:AV) (H0 H:Hp):Res:=CXgC 204 43 (sub (Za0 Tryz.f204) [1,1,1,1]) (retL cfg 43 204 Tryz.f204 H0) [(1,x1)] H
def Zhn (H0:Hp):KL:=seqL (fun k al H=>CXgC 204 43 (sub (Za0 Tryz.f204) [1,1,1,1]) k (Za8 (cfg.keep 204) (sub (Za0 Tryz.f204) [1,1,1,1]) al) H) (retL cfg 43 204 Tryz.f204 H0)
theorem Zt7 (H0:Hp):Tame 43 (Zhn H0):=Zak (C:=cfg) (kp:=cfg.keep 204) (sub (Za0 Tryz.f204) [1,1,1,1]) (Zao 204 Tryz.f204 H0)
def Zrr (x1 x3:AV) (H0 H:Hp):Res:=CXgC 204 43 (sub (Za0 Tryz.f204) [1,1,1,0,1,0,0,1,1]) (seqL (fun k al H=>LPgC 204 43 (sub (Za0 Tryz.f204) [1,1,1,0,1,0,0]) k (Za8 (cfg.keep 204) (sub (Za0 Tryz.f204) [1,1,1,0,1,0,0]) al) H) (Za3 0 (Zhn H0))) [(1,x1),(3,x3)] H
def Zrq (x1 x3:AV) (H0 H:Hp):Res:=CXgC 204 43 (sub (Za0 Tryz.f204) [1,1,1,0,1,0,0,1]) (seqL (fun k al H=>LPgC 204 43 (sub (Za0 Tryz.f204) [1,1,1,0,1,0,0]) k (Za8 (cfg.keep 204) (sub (Za0 Tryz.f204) [1,1,1,0,1,0,0]) al) H) (Za3 0 (Zhn H0))) [(1,x1),(3,x3)] H
def Zho (x1 x3:AV) (H0 H:Hp):Res:=LPgC 204 43 (sub (Za0 Tryz.f204) [1,1,1,0,1,0,0]) (Za3 0 (Zhn H0)) [(1,x1),(3,x3)] H
def Zrm (x1:AV) (H0 H:Hp):Res:=CXgC 204 43 (sub (Za0 Tryz.f204) [1,1,1]) (retL cfg 43 204 Tryz.f204 H0) [(1,x1)] H
def Zrl (x1:AV) (H0 H:Hp):Res:=CXgC 204 43 (sub (Za0 Tryz.f204) [1,1]) (retL cfg 43 204 Tryz.f204 H0) [(1,x1)] H
def ZtC (p0:AV) (H:Hp):Res:=
 bnd (abox p0 H) fun r1=>
 bnd (Zaa 0 r1.1) fun t5=>
 bnd (Za2 false 1 t5 r1.2) fun t6=>
 bnd (Za5 ZeQ [t6] r1.2) fun r7=>
 bnd (aun .not r7.1) fun t8=>
 cnd t8
  (some ((.int .i64 4),r7.2))
  (Zrl r1.1 H r7.2)
theorem ZvF (x1:AV) (H0 H:Hp):Zrp x1 H0 H =
    bnd (Zaa 5 x1) fun t40=>
    bnd (Za2 false 1 t40 H) fun t41=>
    bnd (Za5 ZcT [t41] H) fun r42=>
    some (r42.1,r42.2):=(Za4 [3,5,7,8,10,12,15] _ _ _ _).trans (by kernel_rfl)
theorem ZvE (x1:AV) (H0 H:Hp):Zro x1 H0 H =
    bnd (Zaa 4 x1) fun t34=>
    bnd (Za2 false 1 t34 H) fun t35=>
    bnd (Za5 Zd6 [t35] H) fun r36=>
    bnd (ibin .neq r36.1 (.int .i64 0)) fun t38=>
    cnd t38
     (some (r36.1,r36.2))
     (Zrp x1 H0 r36.2):=(Za4 [3,5,7,8,10,12,15] _ _ _ _).trans (by kernel_rfl)
theorem ZvD (x1:AV) (H0 H:Hp):Zrn x1 H0 H =
    bnd (Zaa 2 x1) fun t24=>
    bnd (Za2 false 1 t24 H) fun t25=>
    bnd (Zaf .string t25) fun t26=>
    bnd (ibin .neq t26 (.int .i64 256)) fun t27=>
    bnd (gdv t27 false (.tuple []) (Zaa 3 x1)) fun t29=>
    bnd (gdv t27 false (.tuple []) (Za2 false 1 t29 H)) fun t30=>
    bnd (gdv t27 false (.tuple []) (Zaf .string t30)) fun t31=>
    bnd (gdv t27 false (.tuple []) (ibin .neq t31 (.int .i64 256))) fun t32=>
    bnd (Zae t27 (.bool true) t32) fun t33=>
    cnd t33
     (some ((.int .i64 2),H))
     (Zro x1 H0 H):=(Za4 [3,5,7,8,10,12,15] _ _ _ _).trans (by kernel_rfl)
theorem ZvH (x1 x3:AV) (H0 H:Hp):Zrr x1 x3 H0 H =
    bnd (ibin .add x3 (.int .i64 1)) fun t16=>
    Zho x1 t16 H0 H:=(Za4 [3,5,7,8,10,12,15] _ _ _ _).trans (by kernel_rfl)
theorem ZvG (x1 x3:AV) (H0 H:Hp):Zrq x1 x3 H0 H =
    bnd (Zaa 1 x1) fun t17=>
    bnd (Za2 false 1 t17 H) fun t18=>
    bnd (Zad 1 t18 x3) fun t20=>
    bnd (Za2 false 1 t20 H) fun t21=>
    bnd (Za5 Zg0 [t21] H) fun r22=>
    bnd (aun .not r22.1) fun t23=>
    cnd t23
     (some ((.int .i64 2),r22.2))
     (Zrr x1 x3 H0 r22.2):=(Za4 [3,5,7,8,10,12,15] _ _ _ _).trans (by kernel_rfl)
theorem ZmC (x1 x3:AV) (H0 H:Hp):Zho x1 x3 H0 H =
    bnd (ibin .lss x3 (.int .i64 256)) fun t14=>
    cnd t14
     (Zrq x1 x3 H0 H)
     (Zrn x1 H0 H):=(Zap (C:=cfg) [3,5,7,8,10,12,15] (Zah 0 (Zt7 H0)) _ _).trans (by kernel_rfl)
theorem ZvC (x1:AV) (H0 H:Hp):Zrm x1 H0 H =
    Zho x1 (.int .i64 0) H0 H:=(Za4 [3,5,7,8,10,12,15] _ _ _ _).trans (by kernel_rfl)
theorem ZvB (x1:AV) (H0 H:Hp):Zrl x1 H0 H =
    bnd (Zaa 1 x1) fun t9=>
    bnd (Za2 false 1 t9 H) fun t10=>
    bnd (Zaf (.slice 3) t10) fun t11=>
    bnd (ibin .neq t11 (.int .i64 256)) fun t12=>
    cnd t12
     (some ((.int .i64 2),H))
     (Zrm x1 H0 H):=(Za4 [3,5,7,8,10,12,15] _ _ _ _).trans (by kernel_rfl)
theorem Zxu (p0:AV) (H:Hp):ZiT [p0] H=ZtC p0 H:=(Zab (C:=cfg) (fn:=Tryz.f204) (c:=Za0 Tryz.f204) (n:=43) [3,5,7,8,10,12,15] Tryz.func204 (by kernel_rfl) (by kernel_rfl) [p0] (by kernel_rfl) H).trans (by kernel_rfl)

def ZtO (H0 H:Hp):Res:=CXgC 205 35 (sub (Za0 Tryz.f205) [1,1]) (retL cfg 35 205 Tryz.f205 H0) [] H
def Zj0 (H0:Hp):KL:=seqL (fun k al H=>CXgC 205 35 (sub (Za0 Tryz.f205) [1,1]) k (Za8 (cfg.keep 205) (sub (Za0 Tryz.f205) [1,1]) al) H) (retL cfg 35 205 Tryz.f205 H0)
theorem ZuE (H0:Hp):Tame 35 (Zj0 H0):=Zak (C:=cfg) (kp:=cfg.keep 205) (sub (Za0 Tryz.f205) [1,1]) (Zao 205 Tryz.f205 H0)
def ZtQ (x1 x2 x3 x7:AV) (H0 H:Hp):Res:=CXgC 205 35 (sub (Za0 Tryz.f205) [1,0,1,0,0,1,1]) (seqL (fun k al H=>LPgC 205 35 (sub (Za0 Tryz.f205) [1,0,1,0,0]) k (Za8 (cfg.keep 205) (sub (Za0 Tryz.f205) [1,0,1,0,0]) al) H) (Za3 0 (Zj0 H0))) [(1,x1),(2,x2),(3,x3),(7,x7)] H
def ZtP (x1 x2 x3 x7:AV) (H0 H:Hp):Res:=CXgC 205 35 (sub (Za0 Tryz.f205) [1,0,1,0,0,1]) (seqL (fun k al H=>LPgC 205 35 (sub (Za0 Tryz.f205) [1,0,1,0,0]) k (Za8 (cfg.keep 205) (sub (Za0 Tryz.f205) [1,0,1,0,0]) al) H) (Za3 0 (Zj0 H0))) [(1,x1),(2,x2),(3,x3),(7,x7)] H
def Zj1 (x1 x2 x3 x7:AV) (H0 H:Hp):Res:=LPgC 205 35 (sub (Za0 Tryz.f205) [1,0,1,0,0]) (Za3 0 (Zj0 H0)) [(1,x1),(2,x2),(3,x3),(7,x7)] H
def Zvg (p0 p1 p2:AV) (H:Hp):Res:=
 bnd (abox p0 H) fun r3=>
 Zj1 p1 p2 r3.1 (.int .i64 0) H r3.2
theorem ZxH (H0 H:Hp):ZtO H0 H =
    some ((.int .i64 (-1)),H):=(Za4 [3,4,6] _ _ _ _).trans (by kernel_rfl)
theorem ZiB (x1 x2 x3 x7:AV) (H0 H:Hp):ZtQ x1 x2 x3 x7 H0 H =
    bnd (ibin .add x7 (.int .i64 1)) fun t14=>
    Zj1 x1 x2 x3 t14 H0 H:=(Za4 [3,4,6] _ _ _ _).trans (by kernel_rfl)
theorem ZxI (x1 x2 x3 x7:AV) (H0 H:Hp):ZtP x1 x2 x3 x7 H0 H =
    bnd (ibin .add x2 (.int .i64 2)) fun t16=>
    bnd (Zaf .string x1) fun t18=>
    bnd (ibin .leq t16 t18) fun t19=>
    bnd (gdv t19 true (.tuple []) (some x1)) fun t21=>
    bnd (gdv t19 true (.tuple []) (some x2)) fun t22=>
    bnd (gdv t19 true (.tuple []) (some x2)) fun t23=>
    bnd (gdv t19 true (.tuple []) (ibin .add t23 (.int .i64 2))) fun t24=>
    bnd (gdv t19 true (.tuple []) (ZaE t21 (some t22) (some t24) none)) fun t25=>
    bnd (gdv t19 true (.tuple []) (Zaa 5 x3)) fun t26=>
    bnd (gdv t19 true (.tuple []) (Za2 false 1 t26 H)) fun t27=>
    bnd (gdv t19 true (.tuple []) (some x7)) fun t28=>
    bnd (gdv t19 true (.tuple []) (Zad 2 t27 t28)) fun t29=>
    bnd (gdv t19 true (.tuple []) (Zaa 0 t29)) fun t30=>
    bnd (gdv t19 true (.tuple []) (Za2 false 1 t30 H)) fun t31=>
    bnd (gdv t19 true (.tuple []) (sbin .eql t25 t31)) fun t32=>
    bnd (Zae t19 t32 (.bool false)) fun t33=>
    cnd t33
     (some (x7,H))
     (ZtQ x1 x2 x3 x7 H0 H):=(Za4 [3,4,6] _ _ _ _).trans (by kernel_rfl)
theorem ZnV (x1 x2 x3 x7:AV) (H0 H:Hp):Zj1 x1 x2 x3 x7 H0 H =
    bnd (Zaa 5 x3) fun t9=>
    bnd (Za2 false 1 t9 H) fun t10=>
    bnd (Zaf (.slice 210) t10) fun t11=>
    bnd (ibin .lss x7 t11) fun t12=>
    cnd t12
     (ZtP x1 x2 x3 x7 H0 H)
     (ZtO H0 H):=(Zap (C:=cfg) [3,4,6] (Zah 0 (ZuE H0)) _ _).trans (by kernel_rfl)
theorem ZyV (p0 p1 p2:AV) (H:Hp):ZkC [p0,p1,p2] H=Zvg p0 p1 p2 H:=(Zab (C:=cfg) (fn:=Tryz.f205) (c:=Za0 Tryz.f205) (n:=35) [3,4,6] Tryz.func205 (by kernel_rfl) (by kernel_rfl) [p0,p1,p2] (by kernel_rfl) H).trans (by kernel_rfl)

def ZiK (x0:AV) (H0 H:Hp):Res:=CXgC 221 54 (sub (Za0 Tryz.f221) [1,1]) (retL cfg 54 221 Tryz.f221 H0) [(0,x0)] H
def Zft (H0:Hp):KL:=seqL (fun k al H=>CXgC 221 54 (sub (Za0 Tryz.f221) [1,1]) k (Za8 (cfg.keep 221) (sub (Za0 Tryz.f221) [1,1]) al) H) (retL cfg 54 221 Tryz.f221 H0)
theorem Zqt (H0:Hp):Tame 54 (Zft H0):=Zak (C:=cfg) (kp:=cfg.keep 221) (sub (Za0 Tryz.f221) [1,1]) (Zao 221 Tryz.f221 H0)
def ZiM (x0 x7 x8:AV) (H0 H:Hp):Res:=CXgC 221 54 (sub (Za0 Tryz.f221) [1,0,1,0,0,1,1,1]) (seqL (fun k al H=>LPgC 221 54 (sub (Za0 Tryz.f221) [1,0,1,0,0]) k (Za8 (cfg.keep 221) (sub (Za0 Tryz.f221) [1,0,1,0,0]) al) H) (Za3 0 (Zft H0))) [(0,x0),(7,x7),(8,x8)] H
def ZiL (x0 x7 x8 x9:AV) (H0 H:Hp):Res:=CXgC 221 54 (sub (Za0 Tryz.f221) [1,0,1,0,0,1,1]) (seqL (fun k al H=>LPgC 221 54 (sub (Za0 Tryz.f221) [1,0,1,0,0]) k (Za8 (cfg.keep 221) (sub (Za0 Tryz.f221) [1,0,1,0,0]) al) H) (Za3 0 (Zft H0))) [(0,x0),(7,x7),(8,x8),(9,x9)] H
def Zfu (x0 x7 x8:AV) (H0 H:Hp):Res:=LPgC 221 54 (sub (Za0 Tryz.f221) [1,0,1,0,0]) (Za3 0 (Zft H0)) [(0,x0),(7,x7),(8,x8)] H
def ZpN (p0:AV) (H:Hp):Res:=
 bnd (Zaf .string p0) fun t7=>
 Zfu p0 t7 (.int .i64 0) H H
theorem Zty (x0:AV) (H0 H:Hp):ZiK x0 H0 H =
    bnd (sbin .neq x0 (.str [])) fun t48=>
    bnd (gdv t48 true (.tuple []) (some x0)) fun t50=>
    bnd (gdv t48 true (.tuple []) (Zaf .string t50)) fun t51=>
    bnd (gdv t48 true (.tuple []) (ibin .leq t51 (.int .i64 32))) fun t52=>
    bnd (Zae t48 t52 (.bool false)) fun t53=>
    some (t53,H):=(Za4 [3,8,9] _ _ _ _).trans (by kernel_rfl)
theorem Zkx (x0 x7 x8:AV) (H0 H:Hp):ZiM x0 x7 x8 H0 H =
    bnd (ibin .add x8 (.int .i64 1)) fun t46=>
    Zfu x0 x7 t46 H0 H:=(Za4 [3,8,9] _ _ _ _).trans (by kernel_rfl)
theorem Ztz (x0 x7 x8 x9:AV) (H0 H:Hp):ZiL x0 x7 x8 x9 H0 H =
    bnd (Zaj x0 x8) fun t13=>
    bnd (ibin .eql t13 (.int .u8 95)) fun t15=>
    bnd (gdv t15 false (.tuple []) (some t13)) fun t17=>
    bnd (gdv t15 false (.tuple []) (ibin .geq t17 (.int .u8 97))) fun t18=>
    bnd (gdv t15 false (.tuple []) (some t18)) fun t19=>
    bnd (gdv t19 true (.tuple []) (some t13)) fun t20=>
    bnd (gdv t19 true (.tuple []) (ibin .leq t20 (.int .u8 122))) fun t21=>
    bnd (gdv t15 false (.tuple []) (Zae t19 t21 (.bool false))) fun t22=>
    bnd (Zae t15 (.bool true) t22) fun t23=>
    bnd (gdv t23 false (.tuple []) (some t13)) fun t25=>
    bnd (gdv t23 false (.tuple []) (ibin .geq t25 (.int .u8 65))) fun t26=>
    bnd (gdv t23 false (.tuple []) (some t26)) fun t27=>
    bnd (gdv t27 true (.tuple []) (some t13)) fun t28=>
    bnd (gdv t27 true (.tuple []) (ibin .leq t28 (.int .u8 90))) fun t29=>
    bnd (gdv t23 false (.tuple []) (Zae t27 t29 (.bool false))) fun t30=>
    bnd (Zae t23 (.bool true) t30) fun t31=>
    bnd (aun .not t31) fun t33=>
    bnd (gdv t33 true (.tuple []) (some x8)) fun t35=>
    bnd (gdv t33 true (.tuple []) (ibin .eql t35 (.int .i64 0))) fun t36=>
    bnd (gdv t33 true (.tuple []) (some t36)) fun t37=>
    bnd (gdv t37 false (.tuple []) (some t13)) fun t38=>
    bnd (gdv t37 false (.tuple []) (ibin .lss t38 (.int .u8 48))) fun t39=>
    bnd (gdv t33 true (.tuple []) (Zae t37 (.bool true) t39)) fun t40=>
    bnd (gdv t33 true (.tuple []) (some t40)) fun t41=>
    bnd (gdv t41 false (.tuple []) (some t13)) fun t42=>
    bnd (gdv t41 false (.tuple []) (ibin .gtr t42 (.int .u8 57))) fun t43=>
    bnd (gdv t33 true (.tuple []) (Zae t41 (.bool true) t43)) fun t44=>
    bnd (Zae t33 t44 (.bool false)) fun t45=>
    cnd t45
     (some ((.bool false),H))
     (ZiM x0 x7 x8 H0 H):=(Za4 [3,8,9] _ _ _ _).trans (by kernel_rfl)
theorem ZdD (x0 x7 x8:AV) (H0 H:Hp):Zfu x0 x7 x8 H0 H =
    bnd (ibin .lss x8 x7) fun t9=>
    cnd t9
     (ZiL x0 x7 x8 t9 H0 H)
     (ZiK x0 H0 H):=(Zap (C:=cfg) [3,8,9] (Zah 0 (Zqt H0)) _ _).trans (by kernel_rfl)
theorem Zum (p0:AV) (H:Hp):Zel [p0] H=ZpN p0 H:=(Zab (C:=cfg) (fn:=Tryz.f221) (c:=Za0 Tryz.f221) (n:=54) [3,8,9] Tryz.func221 (by kernel_rfl) (by kernel_rfl) [p0] (by kernel_rfl) H).trans (by kernel_rfl)

def Zgc (H0 H:Hp):Res:=CXgC 222 28 (sub (Za0 Tryz.f222) [1,1,1,1]) (retL cfg 28 222 Tryz.f222 H0) [] H
def Zbv (H0:Hp):KL:=seqL (fun k al H=>CXgC 222 28 (sub (Za0 Tryz.f222) [1,1,1,1]) k (Za8 (cfg.keep 222) (sub (Za0 Tryz.f222) [1,1,1,1]) al) H) (retL cfg 28 222 Tryz.f222 H0)
theorem Zjw (H0:Hp):Tame 28 (Zbv H0):=Zak (C:=cfg) (kp:=cfg.keep 222) (sub (Za0 Tryz.f222) [1,1,1,1]) (Zao 222 Tryz.f222 H0)
def Zge (x3 x10 x11 x12:AV) (H0 H:Hp):Res:=CXgC 222 28 (sub (Za0 Tryz.f222) [1,1,1,0,1,0,0,1,1,1]) (seqL (fun k al H=>LPgC 222 28 (sub (Za0 Tryz.f222) [1,1,1,0,1,0,0]) k (Za8 (cfg.keep 222) (sub (Za0 Tryz.f222) [1,1,1,0,1,0,0]) al) H) (Za3 0 (Zbv H0))) [(3,x3),(10,x10),(11,x11),(12,x12)] H
def Zgh (H0:Hp):KL:=seqL (fun k al H=>CXgC 222 28 (sub (Za0 Tryz.f222) [1,1,1,0,1,0,0,1,1,1]) k (Za8 (cfg.keep 222) (sub (Za0 Tryz.f222) [1,1,1,0,1,0,0,1,1,1]) al) H) (seqL (fun k al H=>LPgC 222 28 (sub (Za0 Tryz.f222) [1,1,1,0,1,0,0]) k (Za8 (cfg.keep 222) (sub (Za0 Tryz.f222) [1,1,1,0,1,0,0]) al) H) (Za3 0 (Zbv H0)))
def Zgg (x3 x5 x10 x11 x12:AV) (H0 H:Hp):Res:=CXgC 222 28 (sub (Za0 Tryz.f222) [1,1,1,0,1,0,0,1,1,0,0,1,1,1]) (Za3 1 (Zgh H0)) [(3,x3),(5,x5),(10,x10),(11,x11),(12,x12)] H
def Zgf (x3 x5 x10 x11 x12:AV) (H0 H:Hp):Res:=CXgC 222 28 (sub (Za0 Tryz.f222) [1,1,1,0,1,0,0,1,1,0,0,1,1]) (Za3 1 (Zgh H0)) [(3,x3),(5,x5),(10,x10),(11,x11),(12,x12)] H
def Zgd (x3 x10 x11 x12 x13:AV) (H0 H:Hp):Res:=CXgC 222 28 (sub (Za0 Tryz.f222) [1,1,1,0,1,0,0,1,1]) (seqL (fun k al H=>LPgC 222 28 (sub (Za0 Tryz.f222) [1,1,1,0,1,0,0]) k (Za8 (cfg.keep 222) (sub (Za0 Tryz.f222) [1,1,1,0,1,0,0]) al) H) (Za3 0 (Zbv H0))) [(3,x3),(10,x10),(11,x11),(12,x12),(13,x13)] H
def Zcc (x3 x10 x11 x12:AV) (H0 H:Hp):Res:=LPgC 222 28 (sub (Za0 Tryz.f222) [1,1,1,0,1,0,0]) (Za3 0 (Zbv H0)) [(3,x3),(10,x10),(11,x11),(12,x12)] H
def Zgb (x0:AV) (H0 H:Hp):Res:=CXgC 222 28 (sub (Za0 Tryz.f222) [1,1]) (retL cfg 28 222 Tryz.f222 H0) [(0,x0)] H
def ZgY (p0:AV) (H:Hp):Res:=
 bnd (Zaf (.slice 264) p0) fun t7=>
 bnd (ibin .gtr t7 (.int .i64 24)) fun t8=>
 cnd t8
  (some ((.int .i64 3),H))
  (Zgb p0 H H)
theorem ZkS (H0 H:Hp):Zgc H0 H =
    some ((.int .i64 0),H):=(Za4 [3,6,9,11,12,13] _ _ _ _).trans (by kernel_rfl)
theorem ZkU (x3 x10 x11 x12:AV) (H0 H:Hp):Zge x3 x10 x11 x12 H0 H =
    bnd (ibin .add x12 (.int .i64 1)) fun t27=>
    Zcc x3 x10 x11 t27 H0 H:=(Za4 [3,6,9,11,12,13] _ _ _ _).trans (by kernel_rfl)
theorem ZkW (x3 x5 x10 x11 x12:AV) (H0 H:Hp):Zgg x3 x5 x10 x11 x12 H0 H =
    bnd (Zaa 0 x5) fun t25=>
    bnd (Za2 false 1 t25 H) fun t26=>
    bnd (Zd2 .string x3 t26 (.bool true) H) fun r_11=>
    Zge x3 x10 x11 x12 H0 r_11.2:=(Za4 [3,6,9,11,12,13] _ _ _ _).trans (by kernel_rfl)
theorem ZkV (x3 x5 x10 x11 x12:AV) (H0 H:Hp):Zgf x3 x5 x10 x11 x12 H0 H =
    bnd (Zaa 0 x5) fun t21=>
    bnd (Za2 false 1 t21 H) fun t22=>
    bnd (Zbb .string (.bool false) false x3 t22 H) fun t23=>
    cnd t23
     (some ((.int .i64 6),H))
     (Zgg x3 x5 x10 x11 x12 H0 H):=(Za4 [3,6,9,11,12,13] _ _ _ _).trans (by kernel_rfl)
theorem ZkT (x3 x10 x11 x12 x13:AV) (H0 H:Hp):Zgd x3 x10 x11 x12 x13 H0 H =
    bnd (Zad 5 x10 x12) fun t14=>
    bnd (Za2 true 5 t14 H) fun t15=>
    bnd (some ((.ptr H.length 0),H++[.cells [(.str []),(.int .u64 0),(.int .u64 0),(.int .u64 0),(.int .u64 0)]])) fun r5=>
    bnd (Zag 5 r5.1 t15 r5.2) fun r_8=>
    bnd (Zaa 0 r5.1) fun t16=>
    bnd (Za2 false 1 t16 r_8.2) fun t17=>
    bnd (Za5 Zel [t17] r_8.2) fun r18=>
    bnd (aun .not r18.1) fun t19=>
    cnd t19
     (some ((.int .i64 4),r18.2))
     (Zgf x3 r5.1 x10 x11 x12 H0 r18.2):=(Za4 [3,6,9,11,12,13] _ _ _ _).trans (by kernel_rfl)
theorem ZeL (x3 x10 x11 x12:AV) (H0 H:Hp):Zcc x3 x10 x11 x12 H0 H =
    bnd (ibin .lss x12 x11) fun t13=>
    cnd t13
     (Zgd x3 x10 x11 x12 t13 H0 H)
     (Zgc H0 H):=(Zap (C:=cfg) [3,6,9,11,12,13] (Zah 0 (Zjw H0)) _ _).trans (by kernel_rfl)
theorem ZkR (x0:AV) (H0 H:Hp):Zgb x0 H0 H =
    bnd (some ((.map H.length),H++[.map [] 0])) fun r9=>
    bnd (Zaf (.slice 264) x0) fun t11=>
    Zcc r9.1 x0 t11 (.int .i64 0) H0 r9.2:=(Za4 [3,6,9,11,12,13] _ _ _ _).trans (by kernel_rfl)
theorem Zlb (p0:AV) (H:Hp):Zch [p0] H=ZgY p0 H:=(Zab (C:=cfg) (fn:=Tryz.f222) (c:=Za0 Tryz.f222) (n:=28) [3,6,9,11,12,13] Tryz.func222 (by kernel_rfl) (by kernel_rfl) [p0] (by kernel_rfl) H).trans (by kernel_rfl)

def ZfH (H0 H:Hp):Res:=CXgC 223 38 (sub (Za0 Tryz.f223) [1,1,1,1]) (retL cfg 38 223 Tryz.f223 H0) [] H
def Zbn (H0:Hp):KL:=seqL (fun k al H=>CXgC 223 38 (sub (Za0 Tryz.f223) [1,1,1,1]) k (Za8 (cfg.keep 223) (sub (Za0 Tryz.f223) [1,1,1,1]) al) H) (retL cfg 38 223 Tryz.f223 H0)
theorem ZiI (H0:Hp):Tame 38 (Zbn H0):=Zak (C:=cfg) (kp:=cfg.keep 223) (sub (Za0 Tryz.f223) [1,1,1,1]) (Zao 223 Tryz.f223 H0)
def ZfJ (x3 x10 x11 x12:AV) (H0 H:Hp):Res:=CXgC 223 38 (sub (Za0 Tryz.f223) [1,1,1,0,1,0,0,1,1,1]) (seqL (fun k al H=>LPgC 223 38 (sub (Za0 Tryz.f223) [1,1,1,0,1,0,0]) k (Za8 (cfg.keep 223) (sub (Za0 Tryz.f223) [1,1,1,0,1,0,0]) al) H) (Za3 0 (Zbn H0))) [(3,x3),(10,x10),(11,x11),(12,x12)] H
def ZfM (H0:Hp):KL:=seqL (fun k al H=>CXgC 223 38 (sub (Za0 Tryz.f223) [1,1,1,0,1,0,0,1,1,1]) k (Za8 (cfg.keep 223) (sub (Za0 Tryz.f223) [1,1,1,0,1,0,0,1,1,1]) al) H) (seqL (fun k al H=>LPgC 223 38 (sub (Za0 Tryz.f223) [1,1,1,0,1,0,0]) k (Za8 (cfg.keep 223) (sub (Za0 Tryz.f223) [1,1,1,0,1,0,0]) al) H) (Za3 0 (Zbn H0)))
def ZfL (x3 x5 x10 x11 x12:AV) (H0 H:Hp):Res:=CXgC 223 38 (sub (Za0 Tryz.f223) [1,1,1,0,1,0,0,1,1,0,0,1,1,1]) (Za3 1 (ZfM H0)) [(3,x3),(5,x5),(10,x10),(11,x11),(12,x12)] H
def ZfK (x3 x5 x10 x11 x12:AV) (H0 H:Hp):Res:=CXgC 223 38 (sub (Za0 Tryz.f223) [1,1,1,0,1,0,0,1,1,0,0,1,1]) (Za3 1 (ZfM H0)) [(3,x3),(5,x5),(10,x10),(11,x11),(12,x12)] H
def ZfI (x3 x10 x11 x12 x13:AV) (H0 H:Hp):Res:=CXgC 223 38 (sub (Za0 Tryz.f223) [1,1,1,0,1,0,0,1,1]) (seqL (fun k al H=>LPgC 223 38 (sub (Za0 Tryz.f223) [1,1,1,0,1,0,0]) k (Za8 (cfg.keep 223) (sub (Za0 Tryz.f223) [1,1,1,0,1,0,0]) al) H) (Za3 0 (Zbn H0))) [(3,x3),(10,x10),(11,x11),(12,x12),(13,x13)] H
def Zc3 (x3 x10 x11 x12:AV) (H0 H:Hp):Res:=LPgC 223 38 (sub (Za0 Tryz.f223) [1,1,1,0,1,0,0]) (Za3 0 (Zbn H0)) [(3,x3),(10,x10),(11,x11),(12,x12)] H
def ZfG (x0:AV) (H0 H:Hp):Res:=CXgC 223 38 (sub (Za0 Tryz.f223) [1,1]) (retL cfg 38 223 Tryz.f223 H0) [(0,x0)] H
def Zg3 (p0:AV) (H:Hp):Res:=
 bnd (Zaf (.slice 210) p0) fun t7=>
 bnd (ibin .gtr t7 (.int .i64 64)) fun t8=>
 cnd t8
  (some ((.int .i64 3),H))
  (ZfG p0 H H)
theorem Zk0 (H0 H:Hp):ZfH H0 H =
    some ((.int .i64 0),H):=(Za4 [3,6,9,11,12,13] _ _ _ _).trans (by kernel_rfl)
theorem Zk2 (x3 x10 x11 x12:AV) (H0 H:Hp):ZfJ x3 x10 x11 x12 H0 H =
    bnd (ibin .add x12 (.int .i64 1)) fun t37=>
    Zc3 x3 x10 x11 t37 H0 H:=(Za4 [3,6,9,11,12,13] _ _ _ _).trans (by kernel_rfl)
theorem Zk4 (x3 x5 x10 x11 x12:AV) (H0 H:Hp):ZfL x3 x5 x10 x11 x12 H0 H =
    bnd (Zaa 0 x5) fun t35=>
    bnd (Za2 false 1 t35 H) fun t36=>
    bnd (Zd2 .string x3 t36 (.bool true) H) fun r_11=>
    ZfJ x3 x10 x11 x12 H0 r_11.2:=(Za4 [3,6,9,11,12,13] _ _ _ _).trans (by kernel_rfl)
theorem Zk3 (x3 x5 x10 x11 x12:AV) (H0 H:Hp):ZfK x3 x5 x10 x11 x12 H0 H =
    bnd (Zaa 0 x5) fun t31=>
    bnd (Za2 false 1 t31 H) fun t32=>
    bnd (Zbb .string (.bool false) false x3 t32 H) fun t33=>
    cnd t33
     (some ((.int .i64 6),H))
     (ZfL x3 x5 x10 x11 x12 H0 H):=(Za4 [3,6,9,11,12,13] _ _ _ _).trans (by kernel_rfl)
theorem Zk1 (x3 x10 x11 x12 x13:AV) (H0 H:Hp):ZfI x3 x10 x11 x12 x13 H0 H =
    bnd (Zad 2 x10 x12) fun t14=>
    bnd (Za2 true 2 t14 H) fun t15=>
    bnd (some ((.ptr H.length 0),H++[.cells [(.str []),(.int .i64 0)]])) fun r5=>
    bnd (Zag 2 r5.1 t15 r5.2) fun r_8=>
    bnd (Zaa 0 r5.1) fun t16=>
    bnd (Za2 false 1 t16 r_8.2) fun t17=>
    bnd (Zaf .string t17) fun t18=>
    bnd (ibin .neq t18 (.int .i64 2)) fun t19=>
    bnd (gdv t19 false (.tuple []) (Zaa 1 r5.1)) fun t21=>
    bnd (gdv t19 false (.tuple []) (Za2 false 1 t21 r_8.2)) fun t22=>
    bnd (gdv t19 false (.tuple []) (ibin .lss t22 (.int .i64 0))) fun t23=>
    bnd (Zae t19 (.bool true) t23) fun t24=>
    bnd (gdv t24 false (.tuple []) (Zaa 1 r5.1)) fun t26=>
    bnd (gdv t24 false (.tuple []) (Za2 false 1 t26 r_8.2)) fun t27=>
    bnd (gdv t24 false (.tuple []) (ibin .gtr t27 (.int .i64 65535))) fun t28=>
    bnd (Zae t24 (.bool true) t28) fun t29=>
    cnd t29
     (some ((.int .i64 2),r_8.2))
     (ZfK x3 r5.1 x10 x11 x12 H0 r_8.2):=(Za4 [3,6,9,11,12,13] _ _ _ _).trans (by kernel_rfl)
theorem Zer (x3 x10 x11 x12:AV) (H0 H:Hp):Zc3 x3 x10 x11 x12 H0 H =
    bnd (ibin .lss x12 x11) fun t13=>
    cnd t13
     (ZfI x3 x10 x11 x12 t13 H0 H)
     (ZfH H0 H):=(Zap (C:=cfg) [3,6,9,11,12,13] (Zah 0 (ZiI H0)) _ _).trans (by kernel_rfl)
theorem ZjZ (x0:AV) (H0 H:Hp):ZfG x0 H0 H =
    bnd (some ((.map H.length),H++[.map [] 0])) fun r9=>
    bnd (Zaf (.slice 210) x0) fun t11=>
    Zc3 r9.1 x0 t11 (.int .i64 0) H0 r9.2:=(Za4 [3,6,9,11,12,13] _ _ _ _).trans (by kernel_rfl)
theorem ZkE (p0:AV) (H:Hp):Zcb [p0] H=Zg3 p0 H:=(Zab (C:=cfg) (fn:=Tryz.f223) (c:=Za0 Tryz.f223) (n:=38) [3,6,9,11,12,13] Tryz.func223 (by kernel_rfl) (by kernel_rfl) [p0] (by kernel_rfl) H).trans (by kernel_rfl)

def Zij (x3:AV) (H0 H:Hp):Res:=CXgC 226 23 (sub (Za0 Tryz.f226) [1,1,1]) (retL cfg 23 226 Tryz.f226 H0) [(3,x3)] H
def ZcW (H0:Hp):KL:=seqL (fun k al H=>CXgC 226 23 (sub (Za0 Tryz.f226) [1,1,1]) k (Za8 (cfg.keep 226) (sub (Za0 Tryz.f226) [1,1,1]) al) H) (retL cfg 23 226 Tryz.f226 H0)
theorem ZlH (H0:Hp):Tame 23 (ZcW H0):=Zak (C:=cfg) (kp:=cfg.keep 226) (sub (Za0 Tryz.f226) [1,1,1]) (Zao 226 Tryz.f226 H0)
def ZeB (x0 x3 x5:AV) (H0 H:Hp):Res:=CXgC 226 23 (sub (Za0 Tryz.f226) [1,1,0,1,0,0,1,1,1]) (seqL (fun k al H=>LPgC 226 23 (sub (Za0 Tryz.f226) [1,1,0,1,0,0]) k (Za8 (cfg.keep 226) (sub (Za0 Tryz.f226) [1,1,0,1,0,0]) al) H) (Za3 0 (ZcW H0))) [(0,x0),(3,x3),(5,x5)] H
def Zik (x0 x3 x5 x6:AV) (H0 H:Hp):Res:=CXgC 226 23 (sub (Za0 Tryz.f226) [1,1,0,1,0,0,1,1]) (seqL (fun k al H=>LPgC 226 23 (sub (Za0 Tryz.f226) [1,1,0,1,0,0]) k (Za8 (cfg.keep 226) (sub (Za0 Tryz.f226) [1,1,0,1,0,0]) al) H) (Za3 0 (ZcW H0))) [(0,x0),(3,x3),(5,x5),(6,x6)] H
def ZcX (x0 x3 x5:AV) (H0 H:Hp):Res:=LPgC 226 23 (sub (Za0 Tryz.f226) [1,1,0,1,0,0]) (Za3 0 (ZcW H0)) [(0,x0),(3,x3),(5,x5)] H
def Zr1 (p0:AV) (H:Hp):Res:=
 ZcX p0 (.int .i64 0) (.int .i64 0) H H
theorem Znx (x3:AV) (H0 H:Hp):Zij x3 H0 H =
    some (x3,H):=(Za4 [4,8,9] _ _ _ _).trans (by kernel_rfl)
theorem Zg9 (x0 x3 x5:AV) (H0 H:Hp):ZeB x0 x3 x5 H0 H =
    bnd (ibin .add x5 (.int .i64 1)) fun t21=>
    ZcX x0 x3 t21 H0 H:=(Za4 [4,8,9] _ _ _ _).trans (by kernel_rfl)
theorem Zny (x0 x3 x5 x6:AV) (H0 H:Hp):Zik x0 x3 x5 x6 H0 H =
    bnd (ibin .mul x3 (.int .i64 10)) fun t9=>
    bnd (Zaf .string x0) fun t12=>
    bnd (ibin .lss x5 t12) fun t13=>
    cnd t13
     (bnd (Zaj x0 x5) fun t17=>
     bnd (ibin .sub t17 (.int .u8 48)) fun t18=>
     bnd (ZbA .i64 t18) fun t19=>
     bnd (ibin .add t9 t19) fun t20=>
     ZeB x0 t20 x5 H0 H)
     (ZeB x0 t9 x5 H0 H):=(Za4 [4,8,9] _ _ _ _).trans (by kernel_rfl)
theorem Zga (x0 x3 x5:AV) (H0 H:Hp):ZcX x0 x3 x5 H0 H =
    bnd (ibin .lss x5 (.int .i64 4)) fun t6=>
    cnd t6
     (Zik x0 x3 x5 t6 H0 H)
     (Zij x3 H0 H):=(Zap (C:=cfg) [4,8,9] (Zah 0 (ZlH H0)) _ _).trans (by kernel_rfl)
theorem ZnM (p0:AV) (H:Hp):ZeR [p0] H=Zr1 p0 H:=(Zab (C:=cfg) (fn:=Tryz.f226) (c:=Za0 Tryz.f226) (n:=23) [4,8,9] Tryz.func226 (by kernel_rfl) (by kernel_rfl) [p0] (by kernel_rfl) H).trans (by kernel_rfl)

def ZjO (x7 x10:AV) (H0 H:Hp):Res:=CXgC 231 112 (sub (Za0 Tryz.f231) [1,1,1,1,1,1,1,1,1,1,1,1,1]) (retL cfg 112 231 Tryz.f231 H0) [(7,x7),(10,x10)] H
def Zgq (x5 x7 x10:AV) (H0 H:Hp):Res:=CXgC 231 112 (sub (Za0 Tryz.f231) [1,1,1,1,1,1,1,1,1,1,1,1]) (retL cfg 112 231 Tryz.f231 H0) [(5,x5),(7,x7),(10,x10)] H
def Zgp (x0 x4 x5 x6 x7 x8:AV) (H0 H:Hp):Res:=CXgC 231 112 (sub (Za0 Tryz.f231) [1,1,1,1,1,1,1,1,1,1]) (retL cfg 112 231 Tryz.f231 H0) [(0,x0),(4,x4),(5,x5),(6,x6),(7,x7),(8,x8)] H
def ZjN (x0 x4 x5 x6 x7 x8:AV) (H0 H:Hp):Res:=CXgC 231 112 (sub (Za0 Tryz.f231) [1,1,1,1,1,1,1,1,1]) (retL cfg 112 231 Tryz.f231 H0) [(0,x0),(4,x4),(5,x5),(6,x6),(7,x7),(8,x8)] H
def Zem (x0 x4 x5 x6 x7 x8:AV) (H0 H:Hp):Res:=CXgC 231 112 (sub (Za0 Tryz.f231) [1,1,1,1,1,1,1,1]) (retL cfg 112 231 Tryz.f231 H0) [(0,x0),(4,x4),(5,x5),(6,x6),(7,x7),(8,x8)] H
def Zgo (x0 x4 x5:AV) (H0 H:Hp):Res:=CXgC 231 112 (sub (Za0 Tryz.f231) [1,1,1,1,1]) (retL cfg 112 231 Tryz.f231 H0) [(0,x0),(4,x4),(5,x5)] H
def ZjM (x0 x4:AV) (H0 H:Hp):Res:=CXgC 231 112 (sub (Za0 Tryz.f231) [1,1,1]) (retL cfg 112 231 Tryz.f231 H0) [(0,x0),(4,x4)] H
def ZjP (H0:Hp):KL:=seqL (fun k al H=>CXgC 231 112 (sub (Za0 Tryz.f231) [1,1,1]) k (Za8 (cfg.keep 231) (sub (Za0 Tryz.f231) [1,1,1]) al) H) (retL cfg 112 231 Tryz.f231 H0)
theorem Zrb (H0:Hp):Tame 112 (ZjP H0):=Zak (C:=cfg) (kp:=cfg.keep 231) (sub (Za0 Tryz.f231) [1,1,1]) (Zao 231 Tryz.f231 H0)
def ZpQ (x0 x4:AV) (H0 H:Hp):Res:=CXgC 231 112 (sub (Za0 Tryz.f231) [1,1,0,0,0,1]) (seqL (fun k al H=>LPgC 231 112 (sub (Za0 Tryz.f231) [1,1,0,0,0]) k (Za8 (cfg.keep 231) (sub (Za0 Tryz.f231) [1,1,0,0,0]) al) H) (Za3 0 (ZjP H0))) [(0,x0),(4,x4)] H
def Zgr (x0 x4:AV) (H0 H:Hp):Res:=LPgC 231 112 (sub (Za0 Tryz.f231) [1,1,0,0,0]) (Za3 0 (ZjP H0)) [(0,x0),(4,x4)] H
def ZzL (p0:AV) (H:Hp):Res:=
 Zgr p0 (.int .i64 0) H H
theorem Zle (x7 x10:AV) (H0 H:Hp):ZjO x7 x10 H0 H =
    some ((.tuple [x10,x7]),H):=(Za4 [3,4,7,14,16,18,21,23] _ _ _ _).trans (by kernel_rfl)
theorem Zut (x5 x7 x10:AV) (H0 H:Hp):Zgq x5 x7 x10 H0 H =
    cnd x5
     (bnd (aun .neg x10) fun t109=>
     ZjO x7 t109 H0 H)
     (ZjO x7 x10 H0 H):=(Za4 [3,4,7,14,16,18,21,23] _ _ _ _).trans (by kernel_rfl)
theorem Zus (x0 x4 x5 x6 x7 x8:AV) (H0 H:Hp):Zgp x0 x4 x5 x6 x7 x8 H0 H =
    bnd (ZaE x0 (some x4) (some x6) none) fun t100=>
    bnd (Za5 Zl4 [t100,x8] H) fun r102=>
    bnd (aext r102.1 0) fun t103=>
    bnd (aext r102.1 1) fun t104=>
    bnd (aun .not t104) fun t106=>
    cnd t106
     (Zgq x5 x7 (.int .i64 10000000000000) H0 r102.2)
     (Zgq x5 x7 t103 H0 r102.2):=(Za4 [3,4,7,14,16,18,21,23] _ _ _ _).trans (by kernel_rfl)
theorem Zur (x0 x4 x5 x6 x7 x8:AV) (H0 H:Hp):ZjN x0 x4 x5 x6 x7 x8 H0 H =
    bnd (Zaf .string x8) fun t92=>
    bnd (ibin .gtr t92 (.int .i64 4)) fun t93=>
    cnd t93
     (bnd (ZaE x8 none (some (.int .i64 4)) none) fun t95=>
     Zgp x0 x4 x5 x6 x7 t95 H0 H)
     (Zgp x0 x4 x5 x6 x7 x8 H0 H):=(Za4 [3,4,7,14,16,18,21,23] _ _ _ _).trans (by kernel_rfl)
theorem Zuq (x0 x4 x5 x6 x7 x8:AV) (H0 H:Hp):Zem x0 x4 x5 x6 x7 x8 H0 H =
    bnd (ibin .eql x7 x4) fun t90=>
    cnd t90
     (some ((.tuple [(.int .i64 0),(.int .i64 0)]),H))
     (ZjN x0 x4 x5 x6 x7 x8 H0 H):=(Za4 [3,4,7,14,16,18,21,23] _ _ _ _).trans (by kernel_rfl)
theorem Zup (x0 x4 x5:AV) (H0 H:Hp):Zgo x0 x4 x5 H0 H =
    bnd (Za5 Zha [x0,x4] H) fun r57=>
    bnd (Zaf .string x0) fun t61=>
    bnd (ibin .lss r57.1 t61) fun t62=>
    bnd (gdv t62 true (.tuple []) (some x0)) fun t64=>
    bnd (gdv t62 true (.tuple []) (some r57.1)) fun t65=>
    bnd (gdv t62 true (.tuple []) (Zaj t64 t65)) fun t66=>
    bnd (gdv t62 true (.tuple []) (ibin .eql t66 (.int .u8 46))) fun t67=>
    bnd (Zae t62 t67 (.bool false)) fun t68=>
    cnd t68
     (bnd (ibin .add r57.1 (.int .i64 1)) fun t71=>
     bnd (Za5 Zha [x0,t71] r57.2) fun r72=>
     bnd (ibin .gtr r57.1 x4) fun t75=>
     bnd (gdv t75 false (.tuple []) (some r72.1)) fun t77=>
     bnd (gdv t75 false (.tuple []) (some r57.1)) fun t78=>
     bnd (gdv t75 false (.tuple []) (ibin .add t78 (.int .i64 1))) fun t79=>
     bnd (gdv t75 false (.tuple []) (ibin .gtr t77 t79)) fun t80=>
     bnd (Zae t75 (.bool true) t80) fun t81=>
     cnd t81
      (bnd (ibin .add r57.1 (.int .i64 1)) fun t85=>
      bnd (ZaE x0 (some t85) (some r72.1) none) fun t87=>
      Zem x0 x4 x5 r57.1 r72.1 t87 H0 r72.2)
      (Zem x0 x4 x5 r57.1 r57.1 (.str []) H0 r72.2))
     (Zem x0 x4 x5 r57.1 r57.1 (.str []) H0 r57.2):=(Za4 [3,4,7,14,16,18,21,23] _ _ _ _).trans (by kernel_rfl)
theorem Zuo (x0 x4:AV) (H0 H:Hp):ZjM x0 x4 H0 H =
    bnd (Zaf .string x0) fun t32=>
    bnd (ibin .lss x4 t32) fun t33=>
    bnd (gdv t33 true (.tuple []) (some x0)) fun t35=>
    bnd (gdv t33 true (.tuple []) (some x4)) fun t36=>
    bnd (gdv t33 true (.tuple []) (Zaj t35 t36)) fun t37=>
    bnd (gdv t33 true (.tuple []) (ibin .eql t37 (.int .u8 45))) fun t38=>
    bnd (Zae t33 t38 (.bool false)) fun t39=>
    bnd (gdv t39 false (.tuple []) (some x4)) fun t42=>
    bnd (gdv t39 false (.tuple []) (some x0)) fun t43=>
    bnd (gdv t39 false (.tuple []) (Zaf .string t43)) fun t44=>
    bnd (gdv t39 false (.tuple []) (ibin .lss t42 t44)) fun t45=>
    bnd (gdv t39 false (.tuple []) (some t45)) fun t46=>
    bnd (gdv t46 true (.tuple []) (some x0)) fun t47=>
    bnd (gdv t46 true (.tuple []) (some x4)) fun t48=>
    bnd (gdv t46 true (.tuple []) (Zaj t47 t48)) fun t49=>
    bnd (gdv t46 true (.tuple []) (ibin .eql t49 (.int .u8 43))) fun t50=>
    bnd (gdv t39 false (.tuple []) (Zae t46 t50 (.bool false))) fun t51=>
    bnd (Zae t39 (.bool true) t51) fun t52=>
    cnd t52
     (bnd (ibin .add x4 (.int .i64 1)) fun t54=>
     Zgo x0 t54 t39 H0 H)
     (Zgo x0 x4 t39 H0 H):=(Za4 [3,4,7,14,16,18,21,23] _ _ _ _).trans (by kernel_rfl)
theorem Zlf (x0 x4:AV) (H0 H:Hp):ZpQ x0 x4 H0 H =
    bnd (ibin .add x4 (.int .i64 1)) fun t29=>
    Zgr x0 t29 H0 H:=(Za4 [3,4,7,14,16,18,21,23] _ _ _ _).trans (by kernel_rfl)
theorem Zlg (x0 x4:AV) (H0 H:Hp):Zgr x0 x4 H0 H =
    bnd (Zaf .string x0) fun t14=>
    bnd (ibin .lss x4 t14) fun t15=>
    bnd (gdv t15 true (.tuple []) (some x0)) fun t17=>
    bnd (gdv t15 true (.tuple []) (some x4)) fun t18=>
    bnd (gdv t15 true (.tuple []) (Zaj t17 t18)) fun t19=>
    bnd (gdv t15 true (.tuple []) (ibin .eql t19 (.int .u8 32))) fun t20=>
    bnd (gdv t15 true (.tuple []) (some t20)) fun t21=>
    bnd (gdv t21 false (.tuple []) (some x0)) fun t22=>
    bnd (gdv t21 false (.tuple []) (some x4)) fun t23=>
    bnd (gdv t21 false (.tuple []) (Zaj t22 t23)) fun t24=>
    bnd (gdv t21 false (.tuple []) (ibin .eql t24 (.int .u8 9))) fun t25=>
    bnd (gdv t15 true (.tuple []) (Zae t21 (.bool true) t25)) fun t26=>
    bnd (Zae t15 t26 (.bool false)) fun t27=>
    cnd t27
     (ZpQ x0 x4 H0 H)
     (ZjM x0 x4 H0 H):=(Zap (C:=cfg) [3,4,7,14,16,18,21,23] (Zah 0 (Zrb H0)) _ _).trans (by kernel_rfl)
theorem Zvd (p0:AV) (H:Hp):Zh9 [p0] H=ZzL p0 H:=(Zab (C:=cfg) (fn:=Tryz.f231) (c:=Za0 Tryz.f231) (n:=112) [3,4,7,14,16,18,21,23] Tryz.func231 (by kernel_rfl) (by kernel_rfl) [p0] (by kernel_rfl) H).trans (by kernel_rfl)

def ZtR (x3:AV) (H0 H:Hp):Res:=CXgC 233 47 (sub (Za0 Tryz.f233) [1,1,1]) (retL cfg 47 233 Tryz.f233 H0) [(3,x3)] H
def Zj2 (H0:Hp):KL:=seqL (fun k al H=>CXgC 233 47 (sub (Za0 Tryz.f233) [1,1,1]) k (Za8 (cfg.keep 233) (sub (Za0 Tryz.f233) [1,1,1]) al) H) (retL cfg 47 233 Tryz.f233 H0)
theorem ZuN (H0:Hp):Tame 47 (Zj2 H0):=Zak (C:=cfg) (kp:=cfg.keep 233) (sub (Za0 Tryz.f233) [1,1,1]) (Zao 233 Tryz.f233 H0)
def Zg6 (x0 x3 x4:AV) (H0 H:Hp):Res:=CXgC 233 47 (sub (Za0 Tryz.f233) [1,1,0,1,0,0,1,1]) (seqL (fun k al H=>LPgC 233 47 (sub (Za0 Tryz.f233) [1,1,0,1,0,0]) k (Za8 (cfg.keep 233) (sub (Za0 Tryz.f233) [1,1,0,1,0,0]) al) H) (Za3 0 (Zj2 H0))) [(0,x0),(3,x3),(4,x4)] H
def Zns (x0 x3 x4:AV) (H0 H:Hp):Res:=CXgC 233 47 (sub (Za0 Tryz.f233) [1,1,0,1,0,0,1]) (seqL (fun k al H=>LPgC 233 47 (sub (Za0 Tryz.f233) [1,1,0,1,0,0]) k (Za8 (cfg.keep 233) (sub (Za0 Tryz.f233) [1,1,0,1,0,0]) al) H) (Za3 0 (Zj2 H0))) [(0,x0),(3,x3),(4,x4)] H
def Zj3 (x0 x3 x4:AV) (H0 H:Hp):Res:=LPgC 233 47 (sub (Za0 Tryz.f233) [1,1,0,1,0,0]) (Za3 0 (Zj2 H0)) [(0,x0),(3,x3),(4,x4)] H
def ZCh (p0:AV) (H:Hp):Res:=
 Zj3 p0 .nils (.int .i64 0) H H
theorem ZxK (x3:AV) (H0 H:Hp):ZtR x3 H0 H =
    bnd (cvRd x3 H) fun t46=>
    some (t46,H):=(Za4 [4,5,8] _ _ _ _).trans (by kernel_rfl)
theorem Zo4 (x0 x3 x4:AV) (H0 H:Hp):Zg6 x0 x3 x4 H0 H =
    bnd (ibin .add x4 (.int .i64 1)) fun t11=>
    Zj3 x0 x3 t11 H0 H:=(Za4 [4,5,8] _ _ _ _).trans (by kernel_rfl)
theorem ZxL (x0 x3 x4:AV) (H0 H:Hp):Zns x0 x3 x4 H0 H =
    bnd (Zaj x0 x4) fun t14=>
    bnd (Zds [t14] H) fun r16=>
    bnd (gdv r16.1 false (.tuple []) (some t14)) fun t18=>
    bnd (gdv r16.1 false (.tuple []) (ibin .geq t18 (.int .u8 48))) fun t19=>
    bnd (gdv r16.1 false (.tuple []) (some t19)) fun t20=>
    bnd (gdv t20 true (.tuple []) (some t14)) fun t21=>
    bnd (gdv t20 true (.tuple []) (ibin .leq t21 (.int .u8 57))) fun t22=>
    bnd (gdv r16.1 false (.tuple []) (Zae t20 t22 (.bool false))) fun t23=>
    bnd (Zae r16.1 (.bool true) t23) fun t24=>
    bnd (gdv t24 false (.tuple []) (some t14)) fun t26=>
    bnd (gdv t24 false (.tuple []) (ibin .geq t26 (.int .u8 97))) fun t27=>
    bnd (gdv t24 false (.tuple []) (some t27)) fun t28=>
    bnd (gdv t28 true (.tuple []) (some t14)) fun t29=>
    bnd (gdv t28 true (.tuple []) (ibin .leq t29 (.int .u8 122))) fun t30=>
    bnd (gdv t24 false (.tuple []) (Zae t28 t30 (.bool false))) fun t31=>
    bnd (Zae t24 (.bool true) t31) fun t32=>
    bnd (gdv t32 false (.tuple []) (some t14)) fun t34=>
    bnd (gdv t32 false (.tuple []) (ibin .geq t34 (.int .u8 65))) fun t35=>
    bnd (gdv t32 false (.tuple []) (some t35)) fun t36=>
    bnd (gdv t36 true (.tuple []) (some t14)) fun t37=>
    bnd (gdv t36 true (.tuple []) (ibin .leq t37 (.int .u8 90))) fun t38=>
    bnd (gdv t32 false (.tuple []) (Zae t36 t38 (.bool false))) fun t39=>
    bnd (Zae t32 (.bool true) t39) fun t40=>
    cnd t40
     (bnd ((Zau 1 [(0,t14)] [(.int .u8 0)]).map (.vs 1 .clip)) fun t43=>
     bnd (ZaH 1 1 x3 t43 r16.2) fun r44=>
     Zg6 x0 r44.1 x4 H0 r44.2)
     (Zg6 x0 x3 x4 H0 r16.2):=(Za4 [4,5,8] _ _ _ _).trans (by kernel_rfl)
theorem Zo5 (x0 x3 x4:AV) (H0 H:Hp):Zj3 x0 x3 x4 H0 H =
    bnd (Zaf .string x0) fun t8=>
    bnd (ibin .lss x4 t8) fun t9=>
    cnd t9
     (Zns x0 x3 x4 H0 H)
     (ZtR x3 H0 H):=(Zap (C:=cfg) [4,5,8] (Zah 0 (ZuN H0)) _ _).trans (by kernel_rfl)
theorem ZyW (p0:AV) (H:Hp):ZoG [p0] H=ZCh p0 H:=(Zab (C:=cfg) (fn:=Tryz.f233) (c:=Za0 Tryz.f233) (n:=47) [4,5,8] Tryz.func233 (by kernel_rfl) (by kernel_rfl) [p0] (by kernel_rfl) H).trans (by kernel_rfl)

def ZtD (p0 p1:AV) (H:Hp):Res:=
 bnd (abox p0 H) fun r2=>
 bnd (Za2 true 6 r2.1 r2.2) fun t5=>
 bnd (Za5 Zet [t5] r2.2) fun r6=>
 bnd (Zl1 false 1 3 r6.1) fun t7=>
 bnd (Za5 Zl5 [t7,p1] r6.2) fun r9=>
 some (r9.1,r9.2)
theorem Zxv (p0 p1:AV) (H:Hp):Znf [p0,p1] H=ZtD p0 p1 H:=(Zab (C:=cfg) (fn:=Tryz.f234) (c:=Za0 Tryz.f234) (n:=10) [] Tryz.func234 (by kernel_rfl) (by kernel_rfl) [p0,p1] (by kernel_rfl) H).trans (by kernel_rfl)

def ZtE (p0:AV) (H:Hp):Res:=
 bnd (ibin .geq p0 (.int .i64 0)) fun t4=>
 bnd (gdv t4 true (.tuple []) (some p0)) fun t6=>
 bnd (gdv t4 true (.tuple []) (ibin .leq t6 (.int .i64 65535))) fun t7=>
 bnd (Zae t4 t7 (.bool false)) fun t8=>
 some (t8,H)
theorem Zxw (p0:AV) (H:Hp):Zg0 [p0] H=ZtE p0 H:=(Zab (C:=cfg) (fn:=Tryz.f235) (c:=Za0 Tryz.f235) (n:=9) [] Tryz.func235 (by kernel_rfl) (by kernel_rfl) [p0] (by kernel_rfl) H).trans (by kernel_rfl)

def Zie (H0 H:Hp):Res:=CXgC 236 37 (sub (Za0 Tryz.f236) [1,1,1]) (retL cfg 37 236 Tryz.f236 H0) [] H
def Zc5 (H0:Hp):KL:=seqL (fun k al H=>CXgC 236 37 (sub (Za0 Tryz.f236) [1,1,1]) k (Za8 (cfg.keep 236) (sub (Za0 Tryz.f236) [1,1,1]) al) H) (retL cfg 37 236 Tryz.f236 H0)
theorem ZeU (H0:Hp):Tame 37 (Zc5 H0):=Zak (C:=cfg) (kp:=cfg.keep 236) (sub (Za0 Tryz.f236) [1,1,1]) (Zao 236 Tryz.f236 H0)
def ZeA (x0 x3:AV) (H0 H:Hp):Res:=CXgC 236 37 (sub (Za0 Tryz.f236) [1,1,0,1,0,0,1,1]) (seqL (fun k al H=>LPgC 236 37 (sub (Za0 Tryz.f236) [1,1,0,1,0,0]) k (Za8 (cfg.keep 236) (sub (Za0 Tryz.f236) [1,1,0,1,0,0]) al) H) (Za3 0 (Zc5 H0))) [(0,x0),(3,x3)] H
def Zc6 (H0:Hp):KL:=seqL (fun k al H=>CXgC 236 37 (sub (Za0 Tryz.f236) [1,1,0,1,0,0,1,1]) k (Za8 (cfg.keep 236) (sub (Za0 Tryz.f236) [1,1,0,1,0,0,1,1]) al) H) (seqL (fun k al H=>LPgC 236 37 (sub (Za0 Tryz.f236) [1,1,0,1,0,0]) k (Za8 (cfg.keep 236) (sub (Za0 Tryz.f236) [1,1,0,1,0,0]) al) H) (Za3 0 (Zc5 H0)))
theorem Zlm (H0:Hp):Tame 37 (Zc6 H0):=Zak (C:=cfg) (kp:=cfg.keep 236) (sub (Za0 Tryz.f236) [1,1,0,1,0,0,1,1]) (Znb (C:=cfg) (kp:=cfg.keep 236) (sub (Za0 Tryz.f236) [1,1,0,1,0,0]) (Zah 0 (ZeU H0)))
def Zii (x0 x3 x4:AV) (H0 H:Hp):Res:=CXgC 236 37 (sub (Za0 Tryz.f236) [1,1,0,1,0,0,1,0,0,1,1,0,0,1,1]) (seqL (fun k al H=>LPgC 236 37 (sub (Za0 Tryz.f236) [1,1,0,1,0,0,1,0,0,1,1,0,0]) k (Za8 (cfg.keep 236) (sub (Za0 Tryz.f236) [1,1,0,1,0,0,1,0,0,1,1,0,0]) al) H) (Za3 2 (Za3 1 (Zc6 H0)))) [(0,x0),(3,x3),(4,x4)] H
def Zih (x0 x3 x4:AV) (H0 H:Hp):Res:=CXgC 236 37 (sub (Za0 Tryz.f236) [1,1,0,1,0,0,1,0,0,1,1,0,0,1]) (seqL (fun k al H=>LPgC 236 37 (sub (Za0 Tryz.f236) [1,1,0,1,0,0,1,0,0,1,1,0,0]) k (Za8 (cfg.keep 236) (sub (Za0 Tryz.f236) [1,1,0,1,0,0,1,0,0,1,1,0,0]) al) H) (Za3 2 (Za3 1 (Zc6 H0)))) [(0,x0),(3,x3),(4,x4)] H
def ZcV (x0 x3 x4:AV) (H0 H:Hp):Res:=LPgC 236 37 (sub (Za0 Tryz.f236) [1,1,0,1,0,0,1,0,0,1,1,0,0]) (Za3 2 (Za3 1 (Zc6 H0))) [(0,x0),(3,x3),(4,x4)] H
def Zig (x0 x3:AV) (H0 H:Hp):Res:=CXgC 236 37 (sub (Za0 Tryz.f236) [1,1,0,1,0,0,1,0,0,1]) (Za3 1 (Zc6 H0)) [(0,x0),(3,x3)] H
def Zif (x0 x3:AV) (H0 H:Hp):Res:=CXgC 236 37 (sub (Za0 Tryz.f236) [1,1,0,1,0,0,1]) (seqL (fun k al H=>LPgC 236 37 (sub (Za0 Tryz.f236) [1,1,0,1,0,0]) k (Za8 (cfg.keep 236) (sub (Za0 Tryz.f236) [1,1,0,1,0,0]) al) H) (Za3 0 (Zc5 H0))) [(0,x0),(3,x3)] H
def ZcU (x0 x3:AV) (H0 H:Hp):Res:=LPgC 236 37 (sub (Za0 Tryz.f236) [1,1,0,1,0,0]) (Za3 0 (Zc5 H0)) [(0,x0),(3,x3)] H
def Zid (x0:AV) (H0 H:Hp):Res:=CXgC 236 37 (sub (Za0 Tryz.f236) [1,1]) (retL cfg 37 236 Tryz.f236 H0) [(0,x0)] H
def Zjj (p0:AV) (H:Hp):Res:=
 bnd (Zaf (.slice 264) p0) fun t6=>
 bnd (ibin .gtr t6 (.int .i64 24)) fun t7=>
 cnd t7
  (some ((.int .i64 3),H))
  (Zid p0 H H)
theorem Znm (H0 H:Hp):Zie H0 H =
    some ((.int .i64 0),H):=(Za4 [3,5,6,8,10,11,13] _ _ _ _).trans (by kernel_rfl)
theorem Zno (x0 x3:AV) (H0 H:Hp):ZeA x0 x3 H0 H =
    bnd (ibin .add x3 (.int .i64 1)) fun t13=>
    ZcU x0 t13 H0 H:=(Za4 [3,5,6,8,10,11,13] _ _ _ _).trans (by kernel_rfl)
theorem Znr (x0 x3 x4:AV) (H0 H:Hp):Zii x0 x3 x4 H0 H =
    bnd (ibin .add x4 (.int .i64 1)) fun t25=>
    ZcV x0 x3 t25 H0 H:=(Za4 [3,5,6,8,10,11,13] _ _ _ _).trans (by kernel_rfl)
theorem Znq (x0 x3 x4:AV) (H0 H:Hp):Zih x0 x3 x4 H0 H =
    bnd (Zad 5 x0 x4) fun t28=>
    bnd (Zaa 0 t28) fun t29=>
    bnd (Za2 false 1 t29 H) fun t30=>
    bnd (Zad 5 x0 x3) fun t33=>
    bnd (Zaa 0 t33) fun t34=>
    bnd (Za2 false 1 t34 H) fun t35=>
    bnd (sbin .eql t30 t35) fun t36=>
    cnd t36
     (some ((.int .i64 6),H))
     (Zii x0 x3 x4 H0 H):=(Za4 [3,5,6,8,10,11,13] _ _ _ _).trans (by kernel_rfl)
theorem Zg5 (x0 x3 x4:AV) (H0 H:Hp):ZcV x0 x3 x4 H0 H =
    bnd (ibin .lss x4 x3) fun t23=>
    cnd t23
     (Zih x0 x3 x4 H0 H)
     (ZeA x0 x3 H0 H):=(Zap (C:=cfg) [3,5,6,8,10,11,13] (Zah 2 (Zah 1 (Zlm H0))) _ _).trans (by kernel_rfl)
theorem Znp (x0 x3:AV) (H0 H:Hp):Zig x0 x3 H0 H =
    ZcV x0 x3 (.int .i64 0) H0 H:=(Za4 [3,5,6,8,10,11,13] _ _ _ _).trans (by kernel_rfl)
theorem Znn (x0 x3:AV) (H0 H:Hp):Zif x0 x3 H0 H =
    bnd (Zad 5 x0 x3) fun t16=>
    bnd (Zaa 0 t16) fun t17=>
    bnd (Za2 false 1 t17 H) fun t18=>
    bnd (Za5 ZeQ [t18] H) fun r19=>
    bnd (aun .not r19.1) fun t20=>
    cnd t20
     (some ((.int .i64 4),r19.2))
     (Zig x0 x3 H0 r19.2):=(Za4 [3,5,6,8,10,11,13] _ _ _ _).trans (by kernel_rfl)
theorem Zg4 (x0 x3:AV) (H0 H:Hp):ZcU x0 x3 H0 H =
    bnd (Zaf (.slice 264) x0) fun t10=>
    bnd (ibin .lss x3 t10) fun t11=>
    cnd t11
     (Zif x0 x3 H0 H)
     (Zie H0 H):=(Zap (C:=cfg) [3,5,6,8,10,11,13] (Zah 0 (ZeU H0)) _ _).trans (by kernel_rfl)
theorem Znl (x0:AV) (H0 H:Hp):Zid x0 H0 H =
    ZcU x0 (.int .i64 0) H0 H:=(Za4 [3,5,6,8,10,11,13] _ _ _ _).trans (by kernel_rfl)
theorem ZnJ (p0:AV) (H:Hp):Zd6 [p0] H=Zjj p0 H:=(Zab (C:=cfg) (fn:=Tryz.f236) (c:=Za0 Tryz.f236) (n:=37) [3,5,6,8,10,11,13] Tryz.func236 (by kernel_rfl) (by kernel_rfl) [p0] (by kernel_rfl) H).trans (by kernel_rfl)

def Zhq (H0 H:Hp):Res:=CXgC 237 46 (sub (Za0 Tryz.f237) [1,1,1]) (retL cfg 46 237 Tryz.f237 H0) [] H
def ZbS (H0:Hp):KL:=seqL (fun k al H=>CXgC 237 46 (sub (Za0 Tryz.f237) [1,1,1]) k (Za8 (cfg.keep 237) (sub (Za0 Tryz.f237) [1,1,1]) al) H) (retL cfg 46 237 Tryz.f237 H0)
theorem ZeG (H0:Hp):Tame 46 (ZbS H0):=Zak (C:=cfg) (kp:=cfg.keep 237) (sub (Za0 Tryz.f237) [1,1,1]) (Zao 237 Tryz.f237 H0)
def ZdV (x0 x3:AV) (H0 H:Hp):Res:=CXgC 237 46 (sub (Za0 Tryz.f237) [1,1,0,1,0,0,1,1]) (seqL (fun k al H=>LPgC 237 46 (sub (Za0 Tryz.f237) [1,1,0,1,0,0]) k (Za8 (cfg.keep 237) (sub (Za0 Tryz.f237) [1,1,0,1,0,0]) al) H) (Za3 0 (ZbS H0))) [(0,x0),(3,x3)] H
def ZbT (H0:Hp):KL:=seqL (fun k al H=>CXgC 237 46 (sub (Za0 Tryz.f237) [1,1,0,1,0,0,1,1]) k (Za8 (cfg.keep 237) (sub (Za0 Tryz.f237) [1,1,0,1,0,0,1,1]) al) H) (seqL (fun k al H=>LPgC 237 46 (sub (Za0 Tryz.f237) [1,1,0,1,0,0]) k (Za8 (cfg.keep 237) (sub (Za0 Tryz.f237) [1,1,0,1,0,0]) al) H) (Za3 0 (ZbS H0)))
theorem ZkK (H0:Hp):Tame 46 (ZbT H0):=Zak (C:=cfg) (kp:=cfg.keep 237) (sub (Za0 Tryz.f237) [1,1,0,1,0,0,1,1]) (Znb (C:=cfg) (kp:=cfg.keep 237) (sub (Za0 Tryz.f237) [1,1,0,1,0,0]) (Zah 0 (ZeG H0)))
def Zhu (x0 x3 x4:AV) (H0 H:Hp):Res:=CXgC 237 46 (sub (Za0 Tryz.f237) [1,1,0,1,0,0,1,0,0,1,1,0,0,1,1]) (seqL (fun k al H=>LPgC 237 46 (sub (Za0 Tryz.f237) [1,1,0,1,0,0,1,0,0,1,1,0,0]) k (Za8 (cfg.keep 237) (sub (Za0 Tryz.f237) [1,1,0,1,0,0,1,0,0,1,1,0,0]) al) H) (Za3 2 (Za3 1 (ZbT H0)))) [(0,x0),(3,x3),(4,x4)] H
def Zht (x0 x3 x4:AV) (H0 H:Hp):Res:=CXgC 237 46 (sub (Za0 Tryz.f237) [1,1,0,1,0,0,1,0,0,1,1,0,0,1]) (seqL (fun k al H=>LPgC 237 46 (sub (Za0 Tryz.f237) [1,1,0,1,0,0,1,0,0,1,1,0,0]) k (Za8 (cfg.keep 237) (sub (Za0 Tryz.f237) [1,1,0,1,0,0,1,0,0,1,1,0,0]) al) H) (Za3 2 (Za3 1 (ZbT H0)))) [(0,x0),(3,x3),(4,x4)] H
def Zct (x0 x3 x4:AV) (H0 H:Hp):Res:=LPgC 237 46 (sub (Za0 Tryz.f237) [1,1,0,1,0,0,1,0,0,1,1,0,0]) (Za3 2 (Za3 1 (ZbT H0))) [(0,x0),(3,x3),(4,x4)] H
def Zhs (x0 x3:AV) (H0 H:Hp):Res:=CXgC 237 46 (sub (Za0 Tryz.f237) [1,1,0,1,0,0,1,0,0,1]) (Za3 1 (ZbT H0)) [(0,x0),(3,x3)] H
def Zhr (x0 x3:AV) (H0 H:Hp):Res:=CXgC 237 46 (sub (Za0 Tryz.f237) [1,1,0,1,0,0,1]) (seqL (fun k al H=>LPgC 237 46 (sub (Za0 Tryz.f237) [1,1,0,1,0,0]) k (Za8 (cfg.keep 237) (sub (Za0 Tryz.f237) [1,1,0,1,0,0]) al) H) (Za3 0 (ZbS H0))) [(0,x0),(3,x3)] H
def Zcs (x0 x3:AV) (H0 H:Hp):Res:=LPgC 237 46 (sub (Za0 Tryz.f237) [1,1,0,1,0,0]) (Za3 0 (ZbS H0)) [(0,x0),(3,x3)] H
def Zhp (x0:AV) (H0 H:Hp):Res:=CXgC 237 46 (sub (Za0 Tryz.f237) [1,1]) (retL cfg 46 237 Tryz.f237 H0) [(0,x0)] H
def Zib (p0:AV) (H:Hp):Res:=
 bnd (Zaf (.slice 210) p0) fun t6=>
 bnd (ibin .gtr t6 (.int .i64 64)) fun t7=>
 cnd t7
  (some ((.int .i64 3),H))
  (Zhp p0 H H)
theorem Zmj (H0 H:Hp):Zhq H0 H =
    some ((.int .i64 0),H):=(Za4 [3,5,6,8,10,11,13] _ _ _ _).trans (by kernel_rfl)
theorem Zml (x0 x3:AV) (H0 H:Hp):ZdV x0 x3 H0 H =
    bnd (ibin .add x3 (.int .i64 1)) fun t13=>
    Zcs x0 t13 H0 H:=(Za4 [3,5,6,8,10,11,13] _ _ _ _).trans (by kernel_rfl)
theorem Zmo (x0 x3 x4:AV) (H0 H:Hp):Zhu x0 x3 x4 H0 H =
    bnd (ibin .add x4 (.int .i64 1)) fun t34=>
    Zct x0 x3 t34 H0 H:=(Za4 [3,5,6,8,10,11,13] _ _ _ _).trans (by kernel_rfl)
theorem Zmn (x0 x3 x4:AV) (H0 H:Hp):Zht x0 x3 x4 H0 H =
    bnd (Zad 2 x0 x4) fun t37=>
    bnd (Zaa 0 t37) fun t38=>
    bnd (Za2 false 1 t38 H) fun t39=>
    bnd (Zad 2 x0 x3) fun t42=>
    bnd (Zaa 0 t42) fun t43=>
    bnd (Za2 false 1 t43 H) fun t44=>
    bnd (sbin .eql t39 t44) fun t45=>
    cnd t45
     (some ((.int .i64 6),H))
     (Zhu x0 x3 x4 H0 H):=(Za4 [3,5,6,8,10,11,13] _ _ _ _).trans (by kernel_rfl)
theorem ZfF (x0 x3 x4:AV) (H0 H:Hp):Zct x0 x3 x4 H0 H =
    bnd (ibin .lss x4 x3) fun t32=>
    cnd t32
     (Zht x0 x3 x4 H0 H)
     (ZdV x0 x3 H0 H):=(Zap (C:=cfg) [3,5,6,8,10,11,13] (Zah 2 (Zah 1 (ZkK H0))) _ _).trans (by kernel_rfl)
theorem Zmm (x0 x3:AV) (H0 H:Hp):Zhs x0 x3 H0 H =
    Zct x0 x3 (.int .i64 0) H0 H:=(Za4 [3,5,6,8,10,11,13] _ _ _ _).trans (by kernel_rfl)
theorem Zmk (x0 x3:AV) (H0 H:Hp):Zhr x0 x3 H0 H =
    bnd (Zad 2 x0 x3) fun t16=>
    bnd (Zaa 0 t16) fun t17=>
    bnd (Za2 false 1 t17 H) fun t18=>
    bnd (Zaf .string t18) fun t19=>
    bnd (ibin .neq t19 (.int .i64 2)) fun t20=>
    bnd (gdv t20 false (.tuple []) (some x0)) fun t22=>
    bnd (gdv t20 false (.tuple []) (some x3)) fun t23=>
    bnd (gdv t20 false (.tuple []) (Zad 2 t22 t23)) fun t24=>
    bnd (gdv t20 false (.tuple []) (Zaa 1 t24)) fun t25=>
    bnd (gdv t20 false (.tuple []) (Za2 false 1 t25 H)) fun t26=>
    bnd (gdv t20 false ((.tuple []),H) (Za5 Zg0 [t26] H)) fun r27=>
    bnd (gdv t20 false (.tuple []) (aun .not r27.1)) fun t28=>
    bnd (Zae t20 (.bool true) t28) fun t29=>
    cnd t29
     (some ((.int .i64 2),r27.2))
     (Zhs x0 x3 H0 r27.2):=(Za4 [3,5,6,8,10,11,13] _ _ _ _).trans (by kernel_rfl)
theorem ZfE (x0 x3:AV) (H0 H:Hp):Zcs x0 x3 H0 H =
    bnd (Zaf (.slice 210) x0) fun t10=>
    bnd (ibin .lss x3 t10) fun t11=>
    cnd t11
     (Zhr x0 x3 H0 H)
     (Zhq H0 H):=(Zap (C:=cfg) [3,5,6,8,10,11,13] (Zah 0 (ZeG H0)) _ _).trans (by kernel_rfl)
theorem Zmi (x0:AV) (H0 H:Hp):Zhp x0 H0 H =
    Zcs x0 (.int .i64 0) H0 H:=(Za4 [3,5,6,8,10,11,13] _ _ _ _).trans (by kernel_rfl)
theorem Znh (p0:AV) (H:Hp):ZcT [p0] H=Zib p0 H:=(Zab (C:=cfg) (fn:=Tryz.f237) (c:=Za0 Tryz.f237) (n:=46) [3,5,6,8,10,11,13] Tryz.func237 (by kernel_rfl) (by kernel_rfl) [p0] (by kernel_rfl) H).trans (by kernel_rfl)

def ZpR (x1:AV) (H0 H:Hp):Res:=CXgC 250 24 (sub (Za0 Tryz.f250) [1,1]) (retL cfg 24 250 Tryz.f250 H0) [(1,x1)] H
def ZjQ (H0:Hp):KL:=seqL (fun k al H=>CXgC 250 24 (sub (Za0 Tryz.f250) [1,1]) k (Za8 (cfg.keep 250) (sub (Za0 Tryz.f250) [1,1]) al) H) (retL cfg 24 250 Tryz.f250 H0)
theorem Zrc (H0:Hp):Tame 24 (ZjQ H0):=Zak (C:=cfg) (kp:=cfg.keep 250) (sub (Za0 Tryz.f250) [1,1]) (Zao 250 Tryz.f250 H0)
def ZpS (x0 x1:AV) (H0 H:Hp):Res:=CXgC 250 24 (sub (Za0 Tryz.f250) [1,0,0,0,1]) (seqL (fun k al H=>LPgC 250 24 (sub (Za0 Tryz.f250) [1,0,0,0]) k (Za8 (cfg.keep 250) (sub (Za0 Tryz.f250) [1,0,0,0]) al) H) (Za3 0 (ZjQ H0))) [(0,x0),(1,x1)] H
def Zgs (x0 x1:AV) (H0 H:Hp):Res:=LPgC 250 24 (sub (Za0 Tryz.f250) [1,0,0,0]) (Za3 0 (ZjQ H0)) [(0,x0),(1,x1)] H
def ZzM (p0 p1:AV) (H:Hp):Res:=
 Zgs p0 p1 H H
theorem ZgK (x1:AV) (H0 H:Hp):ZpR x1 H0 H =
    some (x1,H):=(Za4 [2,3] _ _ _ _).trans (by kernel_rfl)
theorem Zuu (x0 x1:AV) (H0 H:Hp):ZpS x0 x1 H0 H =
    bnd (ibin .add x1 (.int .i64 1)) fun t22=>
    Zgs x0 t22 H0 H:=(Za4 [2,3] _ _ _ _).trans (by kernel_rfl)
theorem Zlh (x0 x1:AV) (H0 H:Hp):Zgs x0 x1 H0 H =
    bnd (Zaf .string x0) fun t7=>
    bnd (ibin .lss x1 t7) fun t8=>
    bnd (gdv t8 true (.tuple []) (some x0)) fun t10=>
    bnd (gdv t8 true (.tuple []) (some x1)) fun t11=>
    bnd (gdv t8 true (.tuple []) (Zaj t10 t11)) fun t12=>
    bnd (gdv t8 true (.tuple []) (ibin .geq t12 (.int .u8 48))) fun t13=>
    bnd (Zae t8 t13 (.bool false)) fun t14=>
    bnd (gdv t14 true (.tuple []) (some x0)) fun t16=>
    bnd (gdv t14 true (.tuple []) (some x1)) fun t17=>
    bnd (gdv t14 true (.tuple []) (Zaj t16 t17)) fun t18=>
    bnd (gdv t14 true (.tuple []) (ibin .leq t18 (.int .u8 57))) fun t19=>
    bnd (Zae t14 t19 (.bool false)) fun t20=>
    cnd t20
     (ZpS x0 x1 H0 H)
     (ZpR x1 H0 H):=(Zap (C:=cfg) [2,3] (Zah 0 (Zrc H0)) _ _).trans (by kernel_rfl)
theorem Zve (p0 p1:AV) (H:Hp):Zha [p0,p1] H=ZzM p0 p1 H:=(Zab (C:=cfg) (fn:=Tryz.f250) (c:=Za0 Tryz.f250) (n:=24) [2,3] Tryz.func250 (by kernel_rfl) (by kernel_rfl) [p0,p1] (by kernel_rfl) H).trans (by kernel_rfl)

def ZpU (x6:AV) (H0 H:Hp):Res:=CXgC 251 45 (sub (Za0 Tryz.f251) [1,1,1,1]) (retL cfg 45 251 Tryz.f251 H0) [(6,x6)] H
def Zgt (H0:Hp):KL:=seqL (fun k al H=>CXgC 251 45 (sub (Za0 Tryz.f251) [1,1,1,1]) k (Za8 (cfg.keep 251) (sub (Za0 Tryz.f251) [1,1,1,1]) al) H) (retL cfg 45 251 Tryz.f251 H0)
theorem Zrd (H0:Hp):Tame 45 (Zgt H0):=Zak (C:=cfg) (kp:=cfg.keep 251) (sub (Za0 Tryz.f251) [1,1,1,1]) (Zao 251 Tryz.f251 H0)
def ZjR (x1 x6 x8:AV) (H0 H:Hp):Res:=CXgC 251 45 (sub (Za0 Tryz.f251) [1,1,1,0,1,0,0,1,1]) (seqL (fun k al H=>LPgC 251 45 (sub (Za0 Tryz.f251) [1,1,1,0,1,0,0]) k (Za8 (cfg.keep 251) (sub (Za0 Tryz.f251) [1,1,1,0,1,0,0]) al) H) (Za3 2 (Zgt H0))) [(1,x1),(6,x6),(8,x8)] H
def ZpV (x1 x6 x8:AV) (H0 H:Hp):Res:=CXgC 251 45 (sub (Za0 Tryz.f251) [1,1,1,0,1,0,0,1]) (seqL (fun k al H=>LPgC 251 45 (sub (Za0 Tryz.f251) [1,1,1,0,1,0,0]) k (Za8 (cfg.keep 251) (sub (Za0 Tryz.f251) [1,1,1,0,1,0,0]) al) H) (Za3 2 (Zgt H0))) [(1,x1),(6,x6),(8,x8)] H
def Zgv (x1 x6 x8:AV) (H0 H:Hp):Res:=LPgC 251 45 (sub (Za0 Tryz.f251) [1,1,1,0,1,0,0]) (Za3 2 (Zgt H0)) [(1,x1),(6,x6),(8,x8)] H
def ZpT (x1 x6:AV) (H0 H:Hp):Res:=CXgC 251 45 (sub (Za0 Tryz.f251) [1,1,1]) (retL cfg 45 251 Tryz.f251 H0) [(1,x1),(6,x6)] H
def Zgu (H0:Hp):KL:=seqL (fun k al H=>CXgC 251 45 (sub (Za0 Tryz.f251) [1,1,1]) k (Za8 (cfg.keep 251) (sub (Za0 Tryz.f251) [1,1,1]) al) H) (retL cfg 45 251 Tryz.f251 H0)
theorem Zre (H0:Hp):Tame 45 (Zgu H0):=Zak (C:=cfg) (kp:=cfg.keep 251) (sub (Za0 Tryz.f251) [1,1,1]) (Zao 251 Tryz.f251 H0)
def ZpX (x0 x1 x6 x7:AV) (H0 H:Hp):Res:=CXgC 251 45 (sub (Za0 Tryz.f251) [1,1,0,1,0,0,1,1]) (seqL (fun k al H=>LPgC 251 45 (sub (Za0 Tryz.f251) [1,1,0,1,0,0]) k (Za8 (cfg.keep 251) (sub (Za0 Tryz.f251) [1,1,0,1,0,0]) al) H) (Za3 0 (Zgu H0))) [(0,x0),(1,x1),(6,x6),(7,x7)] H
def ZpW (x0 x1 x6 x7:AV) (H0 H:Hp):Res:=CXgC 251 45 (sub (Za0 Tryz.f251) [1,1,0,1,0,0,1]) (seqL (fun k al H=>LPgC 251 45 (sub (Za0 Tryz.f251) [1,1,0,1,0,0]) k (Za8 (cfg.keep 251) (sub (Za0 Tryz.f251) [1,1,0,1,0,0]) al) H) (Za3 0 (Zgu H0))) [(0,x0),(1,x1),(6,x6),(7,x7)] H
def Zgw (x0 x1 x6 x7:AV) (H0 H:Hp):Res:=LPgC 251 45 (sub (Za0 Tryz.f251) [1,1,0,1,0,0]) (Za3 0 (Zgu H0)) [(0,x0),(1,x1),(6,x6),(7,x7)] H
def ZzN (p0 p1:AV) (H:Hp):Res:=
 Zgw p0 p1 (.int .i64 0) (.int .i64 0) H H
theorem Zuw (x6:AV) (H0 H:Hp):ZpU x6 H0 H =
    bnd (ibin .leq x6 (.int .i64 10000000000000)) fun t44=>
    some ((.tuple [x6,t44]),H):=(Za4 [4,5,8,10,11,14] _ _ _ _).trans (by kernel_rfl)
theorem Zli (x1 x6 x8:AV) (H0 H:Hp):ZjR x1 x6 x8 H0 H =
    bnd (ibin .add x8 (.int .i64 1)) fun t28=>
    Zgv x1 x6 t28 H0 H:=(Za4 [4,5,8,10,11,14] _ _ _ _).trans (by kernel_rfl)
theorem Zux (x1 x6 x8:AV) (H0 H:Hp):ZpV x1 x6 x8 H0 H =
    bnd (ibin .mul x6 (.int .i64 10)) fun t30=>
    bnd (Zaf .string x1) fun t33=>
    bnd (ibin .lss x8 t33) fun t34=>
    cnd t34
     (bnd (Zaj x1 x8) fun t38=>
     bnd (ibin .sub t38 (.int .u8 48)) fun t39=>
     bnd (ZbA .i64 t39) fun t40=>
     bnd (ibin .add t30 t40) fun t41=>
     ZjR x1 t41 x8 H0 H)
     (ZjR x1 t30 x8 H0 H):=(Za4 [4,5,8,10,11,14] _ _ _ _).trans (by kernel_rfl)
theorem Zlj (x1 x6 x8:AV) (H0 H:Hp):Zgv x1 x6 x8 H0 H =
    bnd (ibin .lss x8 (.int .i64 4)) fun t26=>
    cnd t26
     (ZpV x1 x6 x8 H0 H)
     (ZpU x6 H0 H):=(Zap (C:=cfg) [4,5,8,10,11,14] (Zah 2 (Zrd H0)) _ _).trans (by kernel_rfl)
theorem Zuv (x1 x6:AV) (H0 H:Hp):ZpT x1 x6 H0 H =
    Zgv x1 x6 (.int .i64 0) H0 H:=(Za4 [4,5,8,10,11,14] _ _ _ _).trans (by kernel_rfl)
theorem Zuz (x0 x1 x6 x7:AV) (H0 H:Hp):ZpX x0 x1 x6 x7 H0 H =
    bnd (ibin .add x7 (.int .i64 1)) fun t14=>
    Zgw x0 x1 x6 t14 H0 H:=(Za4 [4,5,8,10,11,14] _ _ _ _).trans (by kernel_rfl)
theorem Zuy (x0 x1 x6 x7:AV) (H0 H:Hp):ZpW x0 x1 x6 x7 H0 H =
    bnd (ibin .mul x6 (.int .i64 10)) fun t16=>
    bnd (Zaj x0 x7) fun t19=>
    bnd (ibin .sub t19 (.int .u8 48)) fun t20=>
    bnd (ZbA .i64 t20) fun t21=>
    bnd (ibin .add t16 t21) fun t22=>
    bnd (ibin .gtr t22 (.int .i64 1000000000)) fun t24=>
    cnd t24
     (some ((.tuple [(.int .i64 0),(.bool false)]),H))
     (ZpX x0 x1 t22 x7 H0 H):=(Za4 [4,5,8,10,11,14] _ _ _ _).trans (by kernel_rfl)
theorem Zlk (x0 x1 x6 x7:AV) (H0 H:Hp):Zgw x0 x1 x6 x7 H0 H =
    bnd (Zaf .string x0) fun t11=>
    bnd (ibin .lss x7 t11) fun t12=>
    cnd t12
     (ZpW x0 x1 x6 x7 H0 H)
     (ZpT x1 x6 H0 H):=(Zap (C:=cfg) [4,5,8,10,11,14] (Zah 0 (Zre H0)) _ _).trans (by kernel_rfl)
theorem Zmr (p0 p1:AV) (H:Hp):Zl4 [p0,p1] H=ZzN p0 p1 H:=(Zab (C:=cfg) (fn:=Tryz.f251) (c:=Za0 Tryz.f251) (n:=45) [4,5,8,10,11,14] Tryz.func251 (by kernel_rfl) (by kernel_rfl) [p0,p1] (by kernel_rfl) H).trans (by kernel_rfl)

def Zq0 (x5:AV) (H0 H:Hp):Res:=CXgC 252 23 (sub (Za0 Tryz.f252) [1,1,1]) (retL cfg 23 252 Tryz.f252 H0) [(5,x5)] H
def Zgz (H0:Hp):KL:=seqL (fun k al H=>CXgC 252 23 (sub (Za0 Tryz.f252) [1,1,1]) k (Za8 (cfg.keep 252) (sub (Za0 Tryz.f252) [1,1,1]) al) H) (retL cfg 23 252 Tryz.f252 H0)
theorem Zru (H0:Hp):Tame 23 (Zgz H0):=Zak (C:=cfg) (kp:=cfg.keep 252) (sub (Za0 Tryz.f252) [1,1,1]) (Zao 252 Tryz.f252 H0)
def Zq2 (x0 x1 x5 x6:AV) (H0 H:Hp):Res:=CXgC 252 23 (sub (Za0 Tryz.f252) [1,1,0,1,0,0,1,1]) (seqL (fun k al H=>LPgC 252 23 (sub (Za0 Tryz.f252) [1,1,0,1,0,0]) k (Za8 (cfg.keep 252) (sub (Za0 Tryz.f252) [1,1,0,1,0,0]) al) H) (Za3 0 (Zgz H0))) [(0,x0),(1,x1),(5,x5),(6,x6)] H
def Zq1 (x0 x1 x5 x6:AV) (H0 H:Hp):Res:=CXgC 252 23 (sub (Za0 Tryz.f252) [1,1,0,1,0,0,1]) (seqL (fun k al H=>LPgC 252 23 (sub (Za0 Tryz.f252) [1,1,0,1,0,0]) k (Za8 (cfg.keep 252) (sub (Za0 Tryz.f252) [1,1,0,1,0,0]) al) H) (Za3 0 (Zgz H0))) [(0,x0),(1,x1),(5,x5),(6,x6)] H
def ZgA (x0 x1 x5 x6:AV) (H0 H:Hp):Res:=LPgC 252 23 (sub (Za0 Tryz.f252) [1,1,0,1,0,0]) (Za3 0 (Zgz H0)) [(0,x0),(1,x1),(5,x5),(6,x6)] H
def ZqZ (p0 p1:AV) (H:Hp):Res:=
 ZgA p0 p1 .nils (.int .i64 0) H H
theorem ZuF (x5:AV) (H0 H:Hp):Zq0 x5 H0 H =
    bnd (cvRd x5 H) fun t22=>
    some (t22,H):=(Za4 [4,5,6] _ _ _ _).trans (by kernel_rfl)
theorem ZuH (x0 x1 x5 x6:AV) (H0 H:Hp):Zq2 x0 x1 x5 x6 H0 H =
    bnd (ibin .add x6 (.int .i64 1)) fun t12=>
    ZgA x0 x1 x5 t12 H0 H:=(Za4 [4,5,6] _ _ _ _).trans (by kernel_rfl)
theorem ZuG (x0 x1 x5 x6:AV) (H0 H:Hp):Zq1 x0 x1 x5 x6 H0 H =
    bnd (Zaj x1 x6) fun t17=>
    bnd (Zaj x0 t17) fun t18=>
    bnd ((Zau 1 [(0,t18)] [(.int .u8 0)]).map (.vs 1 .clip)) fun t19=>
    bnd (ZaH 1 1 x5 t19 H) fun r20=>
    Zq2 x0 x1 r20.1 x6 H0 r20.2:=(Za4 [4,5,6] _ _ _ _).trans (by kernel_rfl)
theorem Zln (x0 x1 x5 x6:AV) (H0 H:Hp):ZgA x0 x1 x5 x6 H0 H =
    bnd (Zaf .string x1) fun t9=>
    bnd (ibin .lss x6 t9) fun t10=>
    cnd t10
     (Zq1 x0 x1 x5 x6 H0 H)
     (Zq0 x5 H0 H):=(Zap (C:=cfg) [4,5,6] (Zah 0 (Zru H0)) _ _).trans (by kernel_rfl)
theorem Zvh (p0 p1:AV) (H:Hp):Zl5 [p0,p1] H=ZqZ p0 p1 H:=(Zab (C:=cfg) (fn:=Tryz.f252) (c:=Za0 Tryz.f252) (n:=23) [4,5,6] Tryz.func252 (by kernel_rfl) (by kernel_rfl) [p0,p1] (by kernel_rfl) H).trans (by kernel_rfl)

end
end Go.Am
