/-
  What the rows' listed variables give to the machine.
-/
import Derived.Test.YtomfadecfjephaaGreatDoorUkGx
import Derived.Test.YtomfadecfjephaaGreatDoorEmVx
import Derived.Stop.LaidErr
import Derived.Lib.LaidTab
import Derived.Test.YtomfadecfjephaaGreatDoorRows
namespace Go.Am
open Go.Proofs Go.Lib
set_option maxRecDepth 100000
set_option linter.unusedVariables false
abbrev lvS : List (String × DataW Unit) := [("strconv.ErrSyntax", YtomfadecfjephaaGreatDoor.Rows.laid_strconv_ErrSyntax), ("unicode/utf8.first", YtomfadecfjephaaGreatDoor.Rows.laid_unicode_utf8_first)]
abbrev lvR : List (String × DataW Unit) := ("strconv.ErrRange", YtomfadecfjephaaGreatDoor.Rows.laid_strconv_ErrRange) :: lvS
abbrev lvP : List (String × DataW Unit) := ("internal/strconv.uint64pow10", YtomfadecfjephaaGreatDoor.Rows.laid_internal_strconv_uint64pow10) :: ("unicode/utf8.acceptRanges", YtomfadecfjephaaGreatDoor.Rows.laid_unicode_utf8_acceptRanges) :: lvR
abbrev lvAll : List (String × DataW Unit) := ("math/bits.deBruijn32tab", YtomfadecfjephaaGreatDoor.Rows.laid_math_bits_deBruijn32tab) :: ("math/bits.deBruijn64tab", YtomfadecfjephaaGreatDoor.Rows.laid_math_bits_deBruijn64tab) :: lvP
theorem star : "*" ++ "errors.errorString" = "*errors.errorString" := by decide
theorem row177 (u : TypeId) (h : Tryz.prog.typeName? 3 u = some "*errors.errorString") : u = 177 :=
  typeName_ptr_named (nm := "errors.errorString") (by rw [star]; kernel_rfl) (by kernel_rfl) (by decide) u (by rw [star]; exact h)
noncomputable def f179 : Field := match Tryz.prog.underlying 179 with
  | some (.struct fs) => fs.getD 0 default
  | _ => default
noncomputable def ms109 : Array (String × TypeId) := match Tryz.prog.underlying 109 with
  | some (.interface ms) => ms
  | _ => #[]
theorem under179 : Tryz.prog.underlying 179 = some (.struct #[f179]) := by kernel_rfl
theorem under109 : Tryz.prog.underlying 109 = some (.interface ms109) := by kernel_rfl
theorem f179_ok : f179.type = 9 ∧ f179.offset = 0 := ⟨by kernel_rfl, by kernel_rfl⟩
theorem err_laid {W : World} {n : String} {text : List UInt8} {r : List (String × DataW Unit)} (h : laidMet Tryz.prog ((n, .iface "*errors.errorString" (.ptr (.agg [.lit (.string text)]))) :: r) W) {g : Nat} (hg : Tryz.prog.globalNamed n = some g)
    (ht : (Tryz.prog.globals[g]?).map (·.type) = some 109) : ∃ (a : Addr) (el : TypeId) (fr : Nat × Nat), W.heap[g]? = some (.cells #[.iface 177 (.pointer (some a))] el fr) := by
  obtain ⟨a, s, hv, _⟩ := laid_sentinel h hg ht under109 row177 (te := 179) (by kernel_rfl) under179 (ts := 9) f179_ok.1 f179_ok.2 (by kernel_rfl) (by kernel_rfl) (by kernel_rfl)
  unfold World.var? at hv
  rw [hg] at hv
  simp only [Option.bind_some] at hv
  split at hv
  · rename_i cs el fr hh
    injection hv with hv
    subst hv
    exact ⟨a, el, fr, hh⟩
  · cases hv
theorem glob_laid {W : World} (h : laidMet Tryz.prog lvAll W) : GlobOk cfg (start W) := by
  have h3 := h.tail.tail
  have htab : TabIs Tryz.prog W "internal/strconv.uint64pow10" .u64 Lib.pow10Tab :=
    tabIs_of_head (g := 5) (t := 187) (e := 141) (n := 20) (by kernel_rfl) (by kernel_rfl) (by kernel_rfl) (by kernel_rfl) (by kernel_rfl) (by kernel_rfl) (rest := ("unicode/utf8.acceptRanges", YtomfadecfjephaaGreatDoor.Rows.laid_unicode_utf8_acceptRanges) :: lvR) h3
  obtain ⟨a7, el7, fr7, e7⟩ := err_laid (n := "strconv.ErrRange") (r := lvS) h3.tail.tail (g := 4) (by kernel_rfl) (by kernel_rfl)
  obtain ⟨a6, el6, fr6, e6⟩ := err_laid (n := "strconv.ErrSyntax") (r := [("unicode/utf8.first", YtomfadecfjephaaGreatDoor.Rows.laid_unicode_utf8_first)]) h3.tail.tail.tail (g := 3) (by kernel_rfl) (by kernel_rfl)
  refine glob_start fun g cs hg => ?_
  have hg : globF g = some cs := hg
  unfold globF at hg
  split at hg
  · rename_i hg3
    subst hg3
    injection hg with hg
    subst hg
    unfold TabIs World.var? at htab
    rw [show Tryz.prog.globalNamed "internal/strconv.uint64pow10" = some 5 by kernel_rfl] at htab
    simp only [Option.bind_some] at htab
    split at htab
    · rename_i vs el fr hh
      injection htab with htab
      subst htab
      refine ⟨.vp _ fun c hc => ?_, ?_, _, el, fr, hh, by simp, fun i c v hc hv => ?_⟩
      · obtain ⟨z, _, rfl⟩ := List.mem_map.1 hc
        exact .int _ _
      · refine List.all_eq_true.2 fun c hc => ?_
        obtain ⟨z, _, rfl⟩ := List.mem_map.1 hc
        rfl
      · simp only [List.getElem?_map, Option.map_eq_some_iff, List.getElem?_toArray] at hc hv
        obtain ⟨z, hz, rfl⟩ := hc
        obtain ⟨z', hz', rfl⟩ := hv
        rw [hz] at hz'
        injection hz' with hz'
        subst hz'
        exact .int _ _
    · cases htab
  · split at hg
    · rename_i hg67
      injection hg with hg
      subst hg
      have : ∃ (a : Addr) (el : TypeId) (fr : Nat × Nat), W.heap[g]? = some (.cells #[.iface 177 (.pointer (some a))] el fr) := by
        rcases hg67 with rfl | rfl
        · exact ⟨_, _, _, e6⟩
        · exact ⟨_, _, _, e7⟩
      obtain ⟨a, el, fr, hh⟩ := this
      refine ⟨.vp _ fun c hc => ?_, rfl, _, el, fr, hh, rfl, fun i c v hc hv => ?_⟩
      · obtain rfl : c = .iface 177 .undef := by simpa using hc
        exact .iface _ _ .undef
      · match i with
        | 0 =>
          simp at hc hv
          subst hc hv
          exact .iface _ _ _ (.undef _)
        | i + 1 => simp at hc
    · cases hg
end Go.Am
