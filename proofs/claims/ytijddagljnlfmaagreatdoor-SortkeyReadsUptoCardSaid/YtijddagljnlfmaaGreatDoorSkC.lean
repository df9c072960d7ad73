/-
  The document's check of a specification.
-/
import Derived.Test.YtijddagljnlfmaaGreatDoorSkB
namespace Go.Am
set_option linter.unusedSimpArgs false
set_option linter.unusedVariables false

theorem right_spec (k : Ke) (H : Hp) : ∃ H', C_texttoolsref20_right [k.av] H = some (.bool (!keyBad k), H') := by
  rw [F_texttoolsref20_right_eq]
  unfold F_texttoolsref20_right Ke.av
  simp only [go_sem, Nat.zero_add, Ke.cells, List.getElem?_cons_zero, List.getElem?_cons_succ]
  unfold keyBad
  have j1 : ∀ b : Bool, b = (decide (k.fl < 0) || decide (31 < k.fl)) → ∃ H', texttoolsref20_right_J1 (.ptr H.length 0) H (H ++ [.cells [.int .i64 k.ff, .int .i64 k.fc, .int .i64 k.tf, .int .i64 k.tc, .int .i64 k.fl]]) = some (.bool (!b), H') := by
    intro b hb
    rw [texttoolsref20_right_J1_eq]
    simp only [go_sem, Nat.zero_add, List.getElem?_cons_zero, List.getElem?_cons_succ]
    cases e7 : decide (k.fl < 0) with
    | true =>
      have : decide (0 ≤ k.fl) = false := by simp at e7 ⊢; omega
      simp only [this, go_sem]
      rw [hb, e7]
      exact ⟨_, rfl⟩
    | false =>
      have : decide (0 ≤ k.fl) = true := by simp at e7 ⊢; omega
      simp only [this, go_sem, Nat.zero_add, List.getElem?_cons_zero, List.getElem?_cons_succ]
      have e : decide (k.fl ≤ 31) = !decide (31 < k.fl) := by rw [Bool.eq_iff_iff]; simp
      rw [hb, e7, e]
      exact ⟨_, rfl⟩
  cases e1 : decide (k.ff < 1) with
  | true => simp only [go_sem, Bool.true_or, Bool.not_true]; exact ⟨_, rfl⟩
  | false =>
  simp only [go_sem, Bool.false_or, Nat.zero_add, Ke.cells, List.getElem?_cons_zero, List.getElem?_cons_succ]
  cases e2 : decide (k.fc < 1) with
  | true => simp only [go_sem, Bool.true_or, Bool.not_true]; exact ⟨_, rfl⟩
  | false =>
  simp only [go_sem, Bool.false_or, Nat.zero_add, Ke.cells, List.getElem?_cons_zero, List.getElem?_cons_succ]
  cases e3 : decide (k.tf < 0) with
  | true => simp only [go_sem, Bool.true_or, Bool.not_true]; exact ⟨_, rfl⟩
  | false =>
  simp only [go_sem, Bool.false_or, Nat.zero_add, Ke.cells, List.getElem?_cons_zero, List.getElem?_cons_succ]
  cases e4 : decide (k.tc < 0) with
  | true => simp only [go_sem, Bool.true_or, Bool.not_true]; exact ⟨_, rfl⟩
  | false =>
  simp only [go_sem, Bool.false_or, Nat.zero_add, Ke.cells, List.getElem?_cons_zero, List.getElem?_cons_succ]
  cases e5 : (k.tf == 0) with
  | true =>
    simp only [go_sem, Bool.true_and, Nat.zero_add, Ke.cells, List.getElem?_cons_zero, List.getElem?_cons_succ]
    cases e6 : (k.tc != 0) with
    | true => simp only [go_sem, Bool.true_or, Bool.not_true]; exact ⟨_, rfl⟩
    | false => simp only [go_sem, Bool.false_or]; exact j1 _ rfl
  | false => simp only [go_sem, Bool.false_and, Bool.false_or]; exact j1 _ rfl
theorem right_flat (k : Ke) (H : Hp) : flatC C_texttoolsref20_right [k.av] H = some (.bool (!keyBad k), H) := by
  obtain ⟨H', h3⟩ := right_spec k []
  exact flat1 (k.close [] 0 4) h3 rfl
theorem rchk_L1 {x : AV} {l : List Ke} (h : Sl 5 x (l.map Ke.av)) (hl : l.length ≤ 8) (H0 : Hp) {o : Nat} {r : List AV} {H : Hp} (ho : H[o]? = some (.cells (x :: r))) : ∀ (m i : Nat), l.length - i = m → i ≤ l.length →
    texttoolsref20_Check_L1 (.ptr o 0) (.int .i64 (i : Int)) H0 H = some (.int .i64 (if (l.drop i).any keyBad then 2 else 0), H) := by
  have hlen := h.len 34
  rw [List.length_map] at hlen
  intro m
  induction m with
  | zero =>
    intro i hm hi
    rw [texttoolsref20_Check_L1_eq]
    have hlt : decide ((i : Int) < (l.length : Int)) = false := by simp; omega
    have hd : l.drop i = [] := List.drop_eq_nil_iff.2 (by omega)
    simp only [go_sem, Nat.zero_add, aload_f1 ho, List.getElem?_cons_zero, hlen, hlt, texttoolsref20_Check_J3_eq, hd, List.any_nil]
    rfl
  | succ m ih =>
    intro i hm hi
    rw [texttoolsref20_Check_L1_eq]
    have hl1 : i < l.length := by omega
    have hlt : decide ((i : Int) < (l.length : Int)) = true := by simp; omega
    have hw : IntKind.i64.wrap ((i : Int) + 1) = ((i + 1 : Nat) : Int) := by rw [wrap64 (by omega) (by omega)]; omega
    have hr := right_flat l[i] H
    unfold Ke.av at hr
    simp only [go_sem, Nat.zero_add, aload_f1 ho, List.getElem?_cons_zero, hlen, hlt, texttoolsref20_Check_J4_eq, h.key (List.getElem?_eq_getElem hl1), aload_vp5, hr, Bool.not_not]
    rw [List.drop_eq_getElem_cons hl1, List.any_cons]
    cases hb : keyBad l[i] with
    | true => simp only [go_sem, if_true, Bool.true_or]
    | false =>
      simp only [go_sem, Bool.false_or, texttoolsref20_Check_J5_eq, hw]
      exact ih (i + 1) (by omega) (by omega)
theorem rcheck_spec {a : AV} {p : Spec} (h : SpecAV a p) (H : Hp) : ∃ H', C_texttoolsref20_Check [a] H = some (.int .i64 (checkS p), H') := by
  obtain ⟨x, rfl, hx⟩ := h
  rw [F_texttoolsref20_Check_eq]
  unfold F_texttoolsref20_Check checkS
  have hlen := hx.len 34
  rw [List.length_map] at hlen
  simp only [go_sem, Nat.zero_add, Spec.cells, List.getElem?_cons_zero, List.getElem?_cons_succ, hlen]
  by_cases h8 : 8 < p.keys.length
  · have c1 : decide ((8 : Int) < (p.keys.length : Int)) = true := by simp; omega
    simp only [c1, go_sem, h8, if_true]
    exact ⟨_, rfl⟩
  have c1 : decide ((8 : Int) < (p.keys.length : Int)) = false := by simp; omega
  simp only [c1, go_sem, h8, if_false, texttoolsref20_Check_J1_eq, Nat.zero_add, Spec.cells, List.getElem?_cons_zero, List.getElem?_cons_succ]
  cases e1 : decide (p.sep < -1) with
  | true => simp only [go_sem, Bool.true_or, if_true]; exact ⟨_, rfl⟩
  | false =>
  simp only [go_sem, Bool.false_or, Nat.zero_add, Spec.cells, List.getElem?_cons_zero, List.getElem?_cons_succ]
  cases e2 : decide (255 < p.sep) with
  | true => simp only [go_sem, Bool.true_or, if_true]; exact ⟨_, rfl⟩
  | false =>
  simp only [go_sem, Bool.false_or, Nat.zero_add, Spec.cells, List.getElem?_cons_zero, List.getElem?_cons_succ]
  cases e3 : (p.sep == 10) with
  | true => simp only [go_sem, Bool.true_or, if_true]; exact ⟨_, rfl⟩
  | false =>
  simp only [go_sem, Bool.false_or, Nat.zero_add, Spec.cells, List.getElem?_cons_zero, List.getElem?_cons_succ]
  cases e4 : decide (p.flags < 0) with
  | true => simp only [go_sem, Bool.true_or, if_true]; exact ⟨_, rfl⟩
  | false =>
  simp only [go_sem, Bool.false_or, Nat.zero_add, Spec.cells, List.getElem?_cons_zero, List.getElem?_cons_succ]
  cases e5 : decide (31 < p.flags) with
  | true => simp only [go_sem, if_true]; exact ⟨_, rfl⟩
  | false =>
  simp only [go_sem, Bool.false_eq_true, if_false, texttoolsref20_Check_J2_eq]
  have := rchk_L1 hx (by omega) H (get_last H (.cells [x, .int .i64 p.sep, .int .i64 p.flags, .bool p.uniq, .bool p.stab])) p.keys.length 0 (by omega) (by omega)
  rw [show ((0 : Nat) : Int) = 0 from rfl, List.drop_zero] at this
  exact ⟨_, this⟩
theorem rcheck_flat {a : AV} {p : Spec} (h : SpecAV a p) (H : Hp) : flatC C_texttoolsref20_Check [a] H = some (.int .i64 (checkS p), H) := by
  obtain ⟨a', h1, h2⟩ := h.close [] 0 2
  obtain ⟨H', h3⟩ := rcheck_spec h2 []
  exact flat1 h1 h3 rfl
end Go.Am
