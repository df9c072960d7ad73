/-
  The functions of the translation over the abstract machine, a further part: written by program (wip/gen.py).
-/
import Derived.Test.YtehanadfidoodaaGreatDoorNkGx
namespace Go.Am
open Go.Proofs
set_option maxRecDepth 100000
set_option linter.unusedVariables false
set_option linter.unusedSimpArgs false

noncomputable def slices_Clone_of_string_string__J1 (x0 : AV) (H0 H : Hp) : Res := CXL cfg (callw cfg) (LPL cfg (cfg.keep 76) 8) (cfg.keep 76) 8 seqL blockL (sub (bodyOf Tryz.f76) [1, 1]) (retL cfg 8 76 Tryz.f76 H0) [(0, x0)] H
noncomputable def F_slices_Clone_of_string_string_ (p0 : AV) (H : Hp) : Res :=
  bnd (ebin (.slice 9) .eql p0 .nils) fun t4 =>
  cnd t4
    (some (.nils, H))
    (slices_Clone_of_string_string__J1 p0 H H)
theorem slices_Clone_of_string_string__J1_eq (x0 : AV) (H0 H : Hp) : slices_Clone_of_string_string__J1 x0 H0 H =
    bnd ((setElems 1 [] []).map (.vs 1 .clip)) fun t5 =>
    bnd (aappE 1 16 t5 x0 H) fun r7 =>
    some (r7.1, r7.2) := (CXM_eq [3] _ _ _ _).trans (by kernel_rfl)
theorem F_slices_Clone_of_string_string__eq (p0 : AV) (H : Hp) : C_slices_Clone_of_string_string_ [p0] H = F_slices_Clone_of_string_string_ p0 H := (callw_cxm (C := cfg) (fn := Tryz.f76) (c := bodyOf Tryz.f76) (n := 8) [3] Tryz.func76 (by kernel_rfl) (by kernel_rfl) [p0] (by kernel_rfl) H).trans (by kernel_rfl)

end Go.Am
