/-
  The statement on checks: both checks and both prints give the same.
-/
import Derived.Test.YtijddagljnlfmaaGreatDoorSkE
import Derived.Test.YtijddagljnlfmaaGreatDoorSkW
namespace Go.Am
open Go.Proofs
set_option linter.unusedSimpArgs false
set_option linter.unusedVariables false

theorem Sl.str {x : AV} {l : List (List UInt8)} (h : Sl 1 x (l.map AV.str)) {i : Nat} {s : List UInt8} (hi : l[i]? = some s) : aindexS 1 x (.int .i64 (i : Int)) = some (.vp [.str s]) := h.idx (c := .str s) (by simp [hi])
theorem Sl.strlen {x : AV} {l : List (List UInt8)} (h : Sl 1 x (l.map AV.str)) (e : Nat) : alenD (.slice e) x = some (.int .i64 l.length) := by
  have := h.len e
  rwa [List.length_map] at this
theorem same_loop {x y : AV} {l m : List (List UInt8)} (hx : Sl 1 x (l.map AV.str)) (hy : Sl 1 y (m.map AV.str)) (hl : l.length = m.length) (hb : l.length ≤ 4611686018427387904) (H0 H : Hp) : ∀ (k i : Nat), l.length - i = k → i ≤ l.length →
    texttoolsref03_SameTexts_L1 x y (.int .i64 (i : Int)) H0 H = some (.bool (l.drop i == m.drop i), H) := by
  intro k
  induction k with
  | zero =>
    intro i hk hi
    rw [texttoolsref03_SameTexts_L1_eq]
    have hlt : decide ((i : Int) < (l.length : Int)) = false := by simp; omega
    have hd : l.drop i = [] := List.drop_eq_nil_iff.2 (by omega)
    have hd2 : m.drop i = [] := List.drop_eq_nil_iff.2 (by omega)
    simp only [go_sem, hx.strlen, hlt, texttoolsref03_SameTexts_J2_eq, hd, hd2]
    rfl
  | succ k ih =>
    intro i hk hi
    rw [texttoolsref03_SameTexts_L1_eq]
    have h1 : i < l.length := by omega
    have h2 : i < m.length := by omega
    have hlt : decide ((i : Int) < (l.length : Int)) = true := by simp; omega
    have hw : IntKind.i64.wrap ((i : Int) + 1) = ((i + 1 : Nat) : Int) := by rw [wrap64 (by omega) (by omega)]; omega
    simp only [go_sem, hx.strlen, hlt, texttoolsref03_SameTexts_J3_eq, hx.str (List.getElem?_eq_getElem h1), hy.str (List.getElem?_eq_getElem h2), aload_vpc]
    rw [List.drop_eq_getElem_cons h1, List.drop_eq_getElem_cons h2]
    cases e : (l[i] == m[i]) with
    | true =>
      simp only [go_sem, Bool.not_true, texttoolsref03_SameTexts_J4_eq, hw]
      rw [ih (i + 1) (by omega) (by omega)]
      have : ((l[i] :: l.drop (i + 1)) == (m[i] :: m.drop (i + 1))) = (l.drop (i + 1) == m.drop (i + 1)) := by
        rw [List.cons_beq_cons, e, Bool.true_and]
      rw [this]
    | false =>
      simp only [go_sem, Bool.not_false]
      have : ((l[i] :: l.drop (i + 1)) == (m[i] :: m.drop (i + 1))) = false := by
        rw [List.cons_beq_cons, e, Bool.false_and]
      rw [this]
theorem same_spec {x y : AV} {l m : List (List UInt8)} (hx : Sl 1 x (l.map AV.str)) (hy : Sl 1 y (m.map AV.str)) (hb : l.length ≤ 4611686018427387904) (H : Hp) :
    C_texttoolsref03_SameTexts [x, y] H = some (.bool (l == m), H) := by
  rw [F_texttoolsref03_SameTexts_eq]
  unfold F_texttoolsref03_SameTexts
  simp only [go_sem, hx.strlen, hy.strlen]
  by_cases hl : l.length = m.length
  · have c : (((l.length : Nat) : Int) != ((m.length : Nat) : Int)) = false := by simp; omega
    simp only [c, go_sem, texttoolsref03_SameTexts_J1_eq]
    have := same_loop hx hy hl hb H H l.length 0 (by omega) (by omega)
    rw [List.drop_zero, List.drop_zero] at this
    exact this
  · have c : (((l.length : Nat) : Int) != ((m.length : Nat) : Int)) = true := by simp; omega
    simp only [c, go_sem]
    have : (l == m) = false := by
      rw [beq_eq_false_iff_ne]
      intro e
      exact hl (by rw [e])
    rw [this]
theorem same_ok {x y : AV} {l m : List (List UInt8)} (hx : Sl 1 x (l.map AV.str)) (hy : Sl 1 y (m.map AV.str)) (hb : l.length ≤ 4611686018427387904) (H : Hp) : flatC C_texttoolsref03_SameTexts [x, y] H = some (.bool (l == m), H) := by
  obtain ⟨x', h1, h2⟩ := hx.close (H := []) (n := 0) (f := 5) (fun c hc => by obtain ⟨s, _, rfl⟩ := List.mem_map.1 hc; rfl)
  obtain ⟨y', h3, h4⟩ := hy.close (H := []) (n := 0) (f := 5) (fun c hc => by obtain ⟨s, _, rfl⟩ := List.mem_map.1 hc; rfl)
  exact flat2 h1 h3 (same_spec h2 h4 hb []) rfl
theorem keysS_len : ∀ l : List Ke, (keysS l).length = 2 * l.length := by
  intro l
  induction l with
  | nil => rfl
  | cons k l ih => simp only [keysS, List.length_cons, ih]; omega
theorem printS_len (p : Spec) : (printS p).length ≤ 100 := by
  unfold printS
  split
  · rename_i h
    obtain ⟨h1, _⟩ := checkS_zero h
    simp only [List.length_append, keysS_len, sepS]
    split <;> split <;> split <;> split <;> simp <;> omega
  · simp
theorem aload_vpl5 (a b c d e : AV) (H : Hp) : aload true 5 (.vp [a, b, c, d, e]) H = some (.agg [a, b, c, d, e]) := by simp [aload, Go.Am.apart]
theorem aloadv_vpl5 (a b c d e : AV) : aloadv true 5 (.vp [a, b, c, d, e]) = some (.agg [a, b, c, d, e]) := by simp [aloadv, Go.Am.apart]
theorem Checks_law {a : AV} {p : Spec} (h : SpecAV a p) (hw : ∀ k ∈ p.keys, KeOk k) (H : Hp) (awake : ∀ H, flatC C_texttoolslaw20_awake [] H = some (.bool true, H)) :
    ∃ H', C_texttoolslaw20_SortkeyChecks [a] H = some (.bool true, H') := by
  rw [F_texttoolslaw20_SortkeyChecks_eq]
  unfold F_texttoolslaw20_SortkeyChecks
  have hc := check_flat h
  have hr := rcheck_flat h
  have hp1 := pr_ok h hw
  have hp2 := rpr_ok h hw
  obtain ⟨x, rfl, hx⟩ := h
  simp only [Spec.cells] at hc hr hp1 hp2 ⊢
  obtain ⟨y1, e1, f1⟩ := hp1 (H ++ [.dead])
  obtain ⟨y2, e2, f2⟩ := hp2 (H ++ [.dead])
  have hb := printS_len p
  have c : (checkS p == checkS p) = true := by simp
  have c2 : (printS p == printS p) = true := by simp
  simp only [go_sem, frz_last, aload_vpl5, aloadv_vpl5, hc, hr, c, e1, e2, same_ok f1 f2 (by omega), c2, awake]
  exact ⟨_, rfl⟩
end Go.Am
