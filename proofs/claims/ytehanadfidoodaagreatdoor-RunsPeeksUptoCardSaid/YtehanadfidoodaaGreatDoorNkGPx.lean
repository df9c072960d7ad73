/-
  The functions of the translation over the abstract machine, a further part: written by program (wip/gen.py).
-/
import Derived.Test.YtehanadfidoodaaGreatDoorNkGx
namespace Go.Am
open Go.Proofs
set_option maxRecDepth 100000
set_option linter.unusedVariables false
set_option linter.unusedSimpArgs false
noncomputable abbrev CXgP (f n:Nat):=CXL cfg (callw cfg) (LPL cfg (cfg.keep f) n) (cfg.keep f) n seqL blockL
noncomputable abbrev LPgP (f n:Nat):=LPL cfg (cfg.keep f) n
noncomputable section

def runs_Split_J2 (x6:AV) (H0 H:Hp):Res:=CXgP 21 61 (sub (bodyOf Tryz.f21) [1,1,1,1,1,1]) (retL cfg 61 21 Tryz.f21 H0) [(6,x6)] H
def runs_Split_J1 (x5 x6 x7:AV) (H0 H:Hp):Res:=CXgP 21 61 (sub (bodyOf Tryz.f21) [1,1,1,1,1]) (retL cfg 61 21 Tryz.f21 H0) [(5,x5),(6,x6),(7,x7)] H
def runs_Split_K1 (H0:Hp):KL:=seqL (fun k al H=>CXgP 21 61 (sub (bodyOf Tryz.f21) [1,1,1,1,1]) k (trimL (cfg.keep 21) (sub (bodyOf Tryz.f21) [1,1,1,1,1]) al) H) (retL cfg 61 21 Tryz.f21 H0)
theorem runs_Split_K1_tame (H0:Hp):Tame 61 (runs_Split_K1 H0):=tame_seq (C:=cfg) (kp:=cfg.keep 21) (sub (bodyOf Tryz.f21) [1,1,1,1,1]) (tame_ret 21 Tryz.f21 H0)
def runs_Split_J4 (x1 x5 x6 x7 x8 x15 x16 x17:AV) (H0 H:Hp):Res:=CXgP 21 61 (sub (bodyOf Tryz.f21) [1,1,1,1,0,1,0,0,1,1,1]) (seqL (fun k al H=>LPgP 21 61 (sub (bodyOf Tryz.f21) [1,1,1,1,0,1,0,0]) k (trimL (cfg.keep 21) (sub (bodyOf Tryz.f21) [1,1,1,1,0,1,0,0]) al) H) (blockL 0 (runs_Split_K1 H0))) [(1,x1),(5,x5),(6,x6),(7,x7),(8,x8),(15,x15),(16,x16),(17,x17)] H
def runs_Split_K2 (H0:Hp):KL:=seqL (fun k al H=>CXgP 21 61 (sub (bodyOf Tryz.f21) [1,1,1,1,0,1,0,0,1,1,1]) k (trimL (cfg.keep 21) (sub (bodyOf Tryz.f21) [1,1,1,1,0,1,0,0,1,1,1]) al) H) (seqL (fun k al H=>LPgP 21 61 (sub (bodyOf Tryz.f21) [1,1,1,1,0,1,0,0]) k (trimL (cfg.keep 21) (sub (bodyOf Tryz.f21) [1,1,1,1,0,1,0,0]) al) H) (blockL 0 (runs_Split_K1 H0)))
def runs_Split_J5 (x1 x5 x6 x7 x8 x11 x15 x16 x17:AV) (H0 H:Hp):Res:=CXgP 21 61 (sub (bodyOf Tryz.f21) [1,1,1,1,0,1,0,0,1,1,0,0,1,1,1]) (blockL 1 (runs_Split_K2 H0)) [(1,x1),(5,x5),(6,x6),(7,x7),(8,x8),(11,x11),(15,x15),(16,x16),(17,x17)] H
def runs_Split_J3 (x1 x5 x6 x7 x8 x15 x16 x17 x18:AV) (H0 H:Hp):Res:=CXgP 21 61 (sub (bodyOf Tryz.f21) [1,1,1,1,0,1,0,0,1,1]) (seqL (fun k al H=>LPgP 21 61 (sub (bodyOf Tryz.f21) [1,1,1,1,0,1,0,0]) k (trimL (cfg.keep 21) (sub (bodyOf Tryz.f21) [1,1,1,1,0,1,0,0]) al) H) (blockL 0 (runs_Split_K1 H0))) [(1,x1),(5,x5),(6,x6),(7,x7),(8,x8),(15,x15),(16,x16),(17,x17),(18,x18)] H
def runs_Split_L1 (x1 x5 x6 x7 x8 x15 x16 x17:AV) (H0 H:Hp):Res:=LPgP 21 61 (sub (bodyOf Tryz.f21) [1,1,1,1,0,1,0,0]) (blockL 0 (runs_Split_K1 H0)) [(1,x1),(5,x5),(6,x6),(7,x7),(8,x8),(15,x15),(16,x16),(17,x17)] H
def F_runs_Split (p0 p1:AV) (H:Hp):Res:=
  bnd (flatC C_slices_Clone_of_string_string_ [p0] H) fun r14=>
  bnd (alenD (.slice 9) r14.1) fun t16=>
  runs_Split_L1 p1 r14.1 .nils (.int .i64 0) (.int .i64 0) r14.1 t16 (.int .i64 0) H r14.2
theorem runs_Split_J2_eq (x6:AV) (H0 H:Hp):runs_Split_J2 x6 H0 H =
    some (x6,H):=(CXM_eq [6,11,12,13,16] _ _ _ _).trans (by kernel_rfl)
theorem runs_Split_J1_eq (x5 x6 x7:AV) (H0 H:Hp):runs_Split_J1 x5 x6 x7 H0 H =
    bnd (alenD (.slice 9) x5) fun t49=>
    bnd (ibin .gtr t49 (.int .i64 0)) fun t51=>
    cnd t51
      (bnd (asliceV 1 x5 (some x7) (some t49) (some t49)) fun t57=>
      bnd ((setElems 1 [(0,t57)] [.nils]).map (.vs 1 .clip)) fun t58=>
      bnd (aappEL false 1 24 x6 t58 H) fun r59=>
      runs_Split_J2 r59.1 H0 r59.2)
      (runs_Split_J2 x6 H0 H):=(CXM_eq [6,11,12,13,16] _ _ _ _).trans (by kernel_rfl)
theorem runs_Split_J4_eq (x1 x5 x6 x7 x8 x15 x16 x17:AV) (H0 H:Hp):runs_Split_J4 x1 x5 x6 x7 x8 x15 x16 x17 H0 H =
    bnd (ibin .add x17 (.int .i64 1)) fun t47=>
    runs_Split_L1 x1 x5 x6 x7 x8 x15 x16 t47 H0 H:=(CXM_eq [6,11,12,13,16] _ _ _ _).trans (by kernel_rfl)
theorem runs_Split_J5_eq (x1 x5 x6 x7 x8 x11 x15 x16 x17:AV) (H0 H:Hp):runs_Split_J5 x1 x5 x6 x7 x8 x11 x15 x16 x17 H0 H =
    bnd (ibin .add x8 x11) fun t46=>
    runs_Split_J4 x1 x5 x6 x7 t46 x15 x16 x17 H0 H:=(CXM_eq [6,11,12,13,16] _ _ _ _).trans (by kernel_rfl)
theorem runs_Split_J3_eq (x1 x5 x6 x7 x8 x15 x16 x17 x18:AV) (H0 H:Hp):runs_Split_J3 x1 x5 x6 x7 x8 x15 x16 x17 x18 H0 H =
    bnd (aindexS 1 x15 x17) fun t20=>
    bnd (aload false 1 t20 H) fun t21=>
    bnd (alenD .string t21) fun t23=>
    bnd (ibin .add t23 (.int .i64 16)) fun t24=>
    bnd (ibin .gtr x17 x7) fun t27=>
    bnd (gdv t27 true (.tuple []) (some x8)) fun t29=>
    bnd (gdv t27 true (.tuple []) (some t24)) fun t30=>
    bnd (gdv t27 true (.tuple []) (ibin .add t29 t30)) fun t31=>
    bnd (gdv t27 true (.tuple []) (some x1)) fun t32=>
    bnd (gdv t27 true (.tuple []) (ibin .gtr t31 t32)) fun t33=>
    bnd (apick t27 t33 (.bool false)) fun t34=>
    cnd t34
      (bnd (asliceV 1 x5 (some x7) (some x17) (some x17)) fun t40=>
      bnd ((setElems 1 [(0,t40)] [.nils]).map (.vs 1 .clip)) fun t41=>
      bnd (aappEL false 1 24 x6 t41 H) fun r42=>
      runs_Split_J5 x1 x5 r42.1 x17 (.int .i64 0) t24 x15 x16 x17 H0 r42.2)
      (runs_Split_J5 x1 x5 x6 x7 x8 t24 x15 x16 x17 H0 H):=(CXM_eq [6,11,12,13,16] _ _ _ _).trans (by kernel_rfl)
theorem runs_Split_L1_eq (x1 x5 x6 x7 x8 x15 x16 x17:AV) (H0 H:Hp):runs_Split_L1 x1 x5 x6 x7 x8 x15 x16 x17 H0 H =
    bnd (ibin .lss x17 x16) fun t18=>
    cnd t18
      (runs_Split_J3 x1 x5 x6 x7 x8 x15 x16 x17 t18 H0 H)
      (runs_Split_J1 x5 x6 x7 H0 H):=(LPL_eqm (C:=cfg) [6,11,12,13,16] (tame_block 0 (runs_Split_K1_tame H0)) _ _).trans (by kernel_rfl)
theorem F_runs_Split_eq (p0 p1:AV) (H:Hp):C_runs_Split [p0,p1] H = F_runs_Split p0 p1 H:=(callw_cxm (C:=cfg) (fn:=Tryz.f21) (c:=bodyOf Tryz.f21) (n:=61) [6,11,12,13,16] Tryz.func21 (by kernel_rfl) (by kernel_rfl) [p0,p1] (by kernel_rfl) H).trans (by kernel_rfl)

end
end Go.Am
