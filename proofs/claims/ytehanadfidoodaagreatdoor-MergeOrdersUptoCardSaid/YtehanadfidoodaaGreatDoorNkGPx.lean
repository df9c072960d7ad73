/-
  The functions of the translation over the abstract machine, a further part: written by program (wip/gen.py).
-/
import Derived.Test.YtehanadfidoodaaGreatDoorNkGx
namespace Go.Am
open Go.Proofs
set_option maxRecDepth 100000
set_option linter.unusedVariables false
set_option linter.unusedSimpArgs false
noncomputable abbrev CXgP (f n:Nat):=CXL cfg (Za7 cfg) (LPL cfg (cfg.keep f) n) (cfg.keep f) n seqL Za4
noncomputable abbrev LPgP (f n:Nat):=LPL cfg (cfg.keep f) n
noncomputable section

def ZrW (x5:AV) (H0 H:Hp):Res:=CXgP 39 38 (sub (Za0 Tryz.f39) [1,1,1,1]) (retL cfg 38 39 Tryz.f39 H0) [(5,x5)] H
def Zfk (H0:Hp):KL:=seqL (fun k al H=>CXgP 39 38 (sub (Za0 Tryz.f39) [1,1,1,1]) k (Za8 (cfg.keep 39) (sub (Za0 Tryz.f39) [1,1,1,1]) al) H) (retL cfg 38 39 Tryz.f39 H0)
theorem Zu7 (H0:Hp):Tame 38 (Zfk H0):=Zan (C:=cfg) (kp:=cfg.keep 39) (sub (Za0 Tryz.f39) [1,1,1,1]) (Zaq 39 Tryz.f39 H0)
def ZrY (x1 x5 x12 x13:AV) (H0 H:Hp):Res:=CXgP 39 38 (sub (Za0 Tryz.f39) [1,1,1,0,1,0,0,1,1,1]) (seqL (fun k al H=>LPgP 39 38 (sub (Za0 Tryz.f39) [1,1,1,0,1,0,0]) k (Za8 (cfg.keep 39) (sub (Za0 Tryz.f39) [1,1,1,0,1,0,0]) al) H) (Za4 0 (Zfk H0))) [(1,x1),(5,x5),(12,x12),(13,x13)] H
def ZzX (H0:Hp):KL:=seqL (fun k al H=>CXgP 39 38 (sub (Za0 Tryz.f39) [1,1,1,0,1,0,0,1,1,1]) k (Za8 (cfg.keep 39) (sub (Za0 Tryz.f39) [1,1,1,0,1,0,0,1,1,1]) al) H) (seqL (fun k al H=>LPgP 39 38 (sub (Za0 Tryz.f39) [1,1,1,0,1,0,0]) k (Za8 (cfg.keep 39) (sub (Za0 Tryz.f39) [1,1,1,0,1,0,0]) al) H) (Za4 0 (Zfk H0)))
def Zi0 (x1 x5 x6 x12 x13:AV) (H0 H:Hp):Res:=CXgP 39 38 (sub (Za0 Tryz.f39) [1,1,1,0,1,0,0,1,1,0,0,1,1]) (Za4 1 (ZzX H0)) [(1,x1),(5,x5),(6,x6),(12,x12),(13,x13)] H
def ZrX (x1 x5 x12 x13 x14:AV) (H0 H:Hp):Res:=CXgP 39 38 (sub (Za0 Tryz.f39) [1,1,1,0,1,0,0,1,1]) (seqL (fun k al H=>LPgP 39 38 (sub (Za0 Tryz.f39) [1,1,1,0,1,0,0]) k (Za8 (cfg.keep 39) (sub (Za0 Tryz.f39) [1,1,1,0,1,0,0]) al) H) (Za4 0 (Zfk H0))) [(1,x1),(5,x5),(12,x12),(13,x13),(14,x14)] H
def Zi1 (x1 x5 x12 x13:AV) (H0 H:Hp):Res:=LPgP 39 38 (sub (Za0 Tryz.f39) [1,1,1,0,1,0,0]) (Za4 0 (Zfk H0)) [(1,x1),(5,x5),(12,x12),(13,x13)] H
def ZsZ (p0 p1:AV) (H:Hp):Res:=
 bnd (ZhY p1 (.int .i64 2)) fun t9=>
 bnd (ZdQ t9 (.int .i64 32)) fun t10=>
 bnd (ZhY p0 (.int .i64 0)) fun t12=>
 Zi1 t10 .nils t12 (.int .i64 0) H H
theorem Zw1 (x5:AV) (H0 H:Hp):ZrW x5 H0 H =
    some (x5,H):=(Za3 [5,8,10,11] _ _ _ _).trans (by kernel_rfl)
theorem Zw3 (x1 x5 x12 x13:AV) (H0 H:Hp):ZrY x1 x5 x12 x13 H0 H =
    bnd (ibin .add x13 (.int .i64 1)) fun t36=>
    Zi1 x1 x5 x12 t36 H0 H:=(Za3 [5,8,10,11] _ _ _ _).trans (by kernel_rfl)
theorem Zw4 (x1 x5 x6 x12 x13:AV) (H0 H:Hp):Zi0 x1 x5 x6 x12 x13 H0 H =
    bnd (Zae (.slice 22) x5) fun t24=>
    bnd (ibin .sub t24 (.int .i64 1)) fun t25=>
    bnd (Zaf 1 x5 t25) fun t30=>
    bnd (Za2 false 1 t30 H) fun t31=>
    bnd ((Zau 1 [(0,x6)] [(.int .i64 0)]).map (.vs 1 .clip)) fun t33=>
    bnd (ZaH 1 8 t31 t33 H) fun r34=>
    bnd (Zaf 1 x5 t25) fun t35=>
    bnd (Zab 1 t35 r34.1 r34.2) fun r_13=>
    ZrY x1 x5 x12 x13 H0 r_13.2:=(Za3 [5,8,10,11] _ _ _ _).trans (by kernel_rfl)
theorem Zw2 (x1 x5 x12 x13 x14:AV) (H0 H:Hp):ZrX x1 x5 x12 x13 x14 H0 H =
    bnd (ibin .rem x13 x1) fun t18=>
    bnd (ibin .eql t18 (.int .i64 0)) fun t19=>
    cnd t19
     (bnd ((Zau 1 [(0,.nils)] [.nils]).map (.vs 1 .clip)) fun t21=>
     bnd (ZiV false 1 24 x5 t21 H) fun r22=>
     Zi0 x1 r22.1 x13 x12 x13 H0 r22.2)
     (Zi0 x1 x5 x13 x12 x13 H0 H):=(Za3 [5,8,10,11] _ _ _ _).trans (by kernel_rfl)
theorem Znh (x1 x5 x12 x13:AV) (H0 H:Hp):Zi1 x1 x5 x12 x13 H0 H =
    bnd (ibin .lss x13 x12) fun t14=>
    cnd t14
     (ZrX x1 x5 x12 x13 t14 H0 H)
     (ZrW x5 H0 H):=(Zar (C:=cfg) [5,8,10,11] (Zag 0 (Zu7 H0)) _ _).trans (by kernel_rfl)
theorem Zwo (p0 p1:AV) (H:Hp):Zmz [p0,p1] H=ZsZ p0 p1 H:=(Za9 (C:=cfg) (fn:=Tryz.f39) (c:=Za0 Tryz.f39) (n:=38) [5,8,10,11] Tryz.func39 (by kernel_rfl) (by kernel_rfl) [p0,p1] (by kernel_rfl) H).trans (by kernel_rfl)

end
end Go.Am
