/-
  The document's fields of a line.
-/
import Derived.Test.YtijddagljnlfmaaGreatDoorSkT
namespace Go.Am
set_option linter.unusedSimpArgs false
set_option linter.unusedVariables false

def spanAV (p : Nat × Nat) : AV := .agg [.int .i64 p.1, .int .i64 p.2]
theorem fill_span (a b : Nat) : (afill [(0, 1, .int .i64 (a : Int)), (1, 1, .int .i64 (b : Int))] [.int .i64 0, .int .i64 0]).map AV.agg = some (spanAV (a, b)) := by
  simp [afill, AV.known, AV.cells, splice, spanAV]
theorem set_span (p : Nat × Nat) : (setElems 2 [(0, spanAV p)] [.agg [.int .i64 0, .int .i64 0]]).map (AV.vs 2 .clip) = some (.vs 2 .clip [spanAV p]) := by
  simp [setElems, AV.known, AV.cells, spanAV]
/-- A span more. -/
theorem app_span {H : Hp} {x : AV} {acc : List (Nat × Nat)} (h : Row H 2 x (acc.map spanAV)) (hl : acc.length ≤ 1048577) (p : Nat × Nat) :
    ∃ x' H', aappE 2 16 x (.vs 2 .clip [spanAV p]) H = some (x', H') ∧ Row H' 2 x' ((acc ++ [p]).map spanAV) ∧ (∀ (i : Nat) (c : List AV), H[i]? = some (.cells c) → H'[i]? = some (.cells c)) := by
  obtain ⟨x', H', h1, h2, _, h3, _⟩ := h.app 16 (.vs 2 .clip [spanAV p]) [spanAV p] (by simp [elems]) (by simp; omega)
  exact ⟨x', H', h1, by simpa using h2, h3⟩
theorem fields_byte_loop {line : List UInt8} (hlen : line.length ≤ 1048576) {sep : Int} (h0 : 0 ≤ sep) (h1 : sep ≤ 255) (H0 : Hp) : ∀ (k p f : Nat) (acc : List (Nat × Nat)) (x : AV) (H : Hp), line.length - p = k → p ≤ line.length → acc.length ≤ p →
    Row H 2 x (acc.map spanAV) → ∃ x' H', texttoolsref20_Fields_L2 (.str line) (.int .i64 sep) x (.int .i64 (f : Int)) (.int .i64 (p : Int)) H0 H = some (x', H') ∧
      Row H' 2 x' ((acc ++ fieldsB (UInt8.ofNat sep.toNat) (line.drop p) f p).map spanAV) ∧ (∀ (i : Nat) (c : List AV), H[i]? = some (.cells c) → H'[i]? = some (.cells c)) := by
  intro k
  induction k with
  | zero =>
    intro p f acc x H hk hp ha hr
    rw [texttoolsref20_Fields_L2_eq]
    have hlt : decide ((p : Int) < (line.length : Int)) = false := by simp; omega
    have hd : line.drop p = [] := List.drop_eq_nil_iff.2 (by omega)
    have hpl : p = line.length := by omega
    obtain ⟨x', H', g1, g2, g3⟩ := app_span hr (by omega) (f, line.length)
    simp only [go_sem, hlt, texttoolsref20_Fields_J6_eq, fill_span, set_span, g1, hd, fieldsB]
    exact ⟨x', H', rfl, by rw [hpl]; exact g2, g3⟩
  | succ k ih =>
    intro p f acc x H hk hp ha hr
    rw [texttoolsref20_Fields_L2_eq]
    have hl : p < line.length := by omega
    have hlt : decide ((p : Int) < (line.length : Int)) = true := by simp; omega
    have hw : IntKind.i64.wrap ((p : Int) + 1) = ((p + 1 : Nat) : Int) := by rw [wrap64 (by omega) (by omega)]; omega
    have hcv : cvInt .i64 (.int .u8 (line[p].toNat : Int)) = some (.int .i64 (line[p].toNat : Int)) := by
      have := line[p].toNat_lt
      simp only [cvInt]
      rw [wrap64 (by omega) (by omega)]
    have hb : (((line[p].toNat : Int)) == sep) = (line[p] == UInt8.ofNat sep.toNat) := by
      have := u8eq line[p] sep.toNat (by omega)
      rw [← this, show ((sep.toNat : Nat) : Int) = sep by omega]
    simp only [go_sem, hlt, texttoolsref20_Fields_J7_eq, aindexStr_of (List.getElem?_eq_getElem hl), hcv, hb]
    rw [drop_cons hl, fieldsB_cons]
    by_cases he : line[p] = UInt8.ofNat sep.toNat
    · have hbt : (line[p] == UInt8.ofNat sep.toNat) = true := by simpa using he
      obtain ⟨x1, H1, g1, g2, g3⟩ := app_span hr (by omega) (f, p)
      rw [if_pos he]
      simp only [hbt, go_sem, fill_span, set_span, g1, hw, texttoolsref20_Fields_J8_eq]
      obtain ⟨x', H', q1, q2, q3⟩ := ih (p + 1) (p + 1) (acc ++ [(f, p)]) x1 H1 (by omega) (by omega) (by simp; omega) g2
      exact ⟨x', H', q1, by simpa using q2, fun i c h => q3 i c (g3 i c h)⟩
    · have hbf : (line[p] == UInt8.ofNat sep.toNat) = false := by simpa using he
      simp only [hbf, go_sem, texttoolsref20_Fields_J8_eq, hw, he, if_false]
      exact ih (p + 1) f acc x H (by omega) (by omega) (by omega) hr
theorem fields_blank_loop {line : List UInt8} (hlen : line.length ≤ 1048576) (H0 : Hp) : ∀ (k p f : Nat) (acc : List (Nat × Nat)) (x : AV) (H : Hp), line.length - p = k → 1 ≤ p → (hp : p ≤ line.length) → acc.length ≤ p →
    Row H 2 x (acc.map spanAV) → ∃ x' H', texttoolsref20_Fields_L1 (.str line) x (.int .i64 (f : Int)) (.int .i64 (p : Int)) H0 H = some (x', H') ∧
      Row H' 2 x' ((acc ++ fieldsW (isBl (line.getD (p - 1) 0)) (line.drop p) f p).map spanAV) ∧ (∀ (i : Nat) (c : List AV), H[i]? = some (.cells c) → H'[i]? = some (.cells c)) := by
  intro k
  induction k with
  | zero =>
    intro p f acc x H hk h1 hp ha hr
    rw [texttoolsref20_Fields_L1_eq]
    have hlt : decide ((p : Int) < (line.length : Int)) = false := by simp; omega
    have hd : line.drop p = [] := List.drop_eq_nil_iff.2 (by omega)
    have hpl : p = line.length := by omega
    have hgt : decide ((0 : Int) < (line.length : Int)) = true := by simp; omega
    obtain ⟨x', H', g1, g2, g3⟩ := app_span hr (by omega) (f, line.length)
    simp only [go_sem, hlt, texttoolsref20_Fields_J2_eq, hgt, fill_span, set_span, g1, hd, fieldsW, texttoolsref20_Fields_J3_eq]
    exact ⟨x', H', rfl, by rw [hpl]; exact g2, g3⟩
  | succ k ih =>
    intro p f acc x H hk h1 hp ha hr
    rw [texttoolsref20_Fields_L1_eq]
    have hl : p < line.length := by omega
    have hl1 : p - 1 < line.length := by omega
    have hlt : decide ((p : Int) < (line.length : Int)) = true := by simp; omega
    have hw : IntKind.i64.wrap ((p : Int) + 1) = ((p + 1 : Nat) : Int) := by rw [wrap64 (by omega) (by omega)]; omega
    have hw2 : IntKind.i64.wrap ((p : Int) - 1) = ((p - 1 : Nat) : Int) := by rw [wrap64 (by omega) (by omega)]; omega
    have hg : line.getD (p - 1) 0 = line[p - 1] := by simp [List.getD_eq_getElem?_getD, hl1]
    have hg2 : line.getD (p + 1 - 1) 0 = line[p] := by simp [List.getD_eq_getElem?_getD, hl]
    simp only [go_sem, hlt, texttoolsref20_Fields_J4_eq, aindexStr_of (List.getElem?_eq_getElem hl), rblank_spec]
    rw [drop_cons hl, fieldsW_cons, hg]
    have stay : ∀ (q : Bool), (isBl line[p] && !isBl line[p - 1]) = false → ∃ x' H', texttoolsref20_Fields_J5 (.str line) x (.int .i64 (f : Int)) (.int .i64 (p : Int)) H0 H = some (x', H') ∧
        Row H' 2 x' ((acc ++ fieldsW (isBl line[p]) (line.drop (p + 1)) f (p + 1)).map spanAV) ∧ (∀ (i : Nat) (c : List AV), H[i]? = some (.cells c) → H'[i]? = some (.cells c)) := by
      intro q hq
      rw [texttoolsref20_Fields_J5_eq]
      simp only [go_sem, hw]
      have := ih (p + 1) f acc x H (by omega) (by omega) (by omega) (by omega) hr
      rw [hg2] at this
      exact this
    cases hb : isBl line[p] with
    | false =>
      rw [hb] at stay
      simp only [go_sem, Bool.false_and, Bool.false_eq_true, if_false]
      exact stay true rfl
    | true =>
      rw [hb] at stay
      simp only [go_sem, hw2, aindexStr_of (List.getElem?_eq_getElem hl1), rblank_spec, Bool.true_and]
      cases hb1 : isBl line[p - 1] with
      | true =>
        rw [hb1] at stay
        simp only [go_sem, Bool.not_true, Bool.false_eq_true, if_false]
        exact stay true rfl
      | false =>
        obtain ⟨x1, H1, g1, g2, g3⟩ := app_span hr (by omega) (f, p)
        simp only [go_sem, Bool.not_false, if_true, fill_span, set_span, g1, texttoolsref20_Fields_J5_eq, hw]
        obtain ⟨x', H', q1, q2, q3⟩ := ih (p + 1) p (acc ++ [(f, p)]) x1 H1 (by omega) (by omega) (by omega) (by simp; omega) g2
        rw [hg2, hb] at q2
        exact ⟨x', H', q1, by simpa using q2, fun i c h => q3 i c (g3 i c h)⟩
theorem fields_spec {line : List UInt8} (hlen : line.length ≤ 1048576) (sep : Int) (H : Hp) :
    ∃ x' H', C_texttoolsref20_Fields [.str line, .int .i64 sep] H = some (x', H') ∧ Row H' 2 x' ((fields line sep).map spanAV) ∧ (∀ (i : Nat) (c : List AV), H[i]? = some (.cells c) → H'[i]? = some (.cells c)) := by
  rw [F_texttoolsref20_Fields_eq]
  unfold F_texttoolsref20_Fields fields
  by_cases h : 0 ≤ sep ∧ sep ≤ 255
  · have c1 : decide ((0 : Int) ≤ sep) = true := by simp [h.1]
    have c2 : decide (sep ≤ (255 : Int)) = true := by simp [h.2]
    rw [if_pos h]
    simp only [go_sem, c1, c2]
    have := fields_byte_loop hlen h.1 h.2 H _ 0 0 [] .nils H rfl (by omega) (by simp) (.inl ⟨rfl, rfl⟩)
    simpa using this
  · rw [if_neg h]
    have main : ∃ x' H', texttoolsref20_Fields_J1 (.str line) .nils (.int .i64 0) H H = some (x', H') ∧ Row H' 2 x' ((fsAt line 0).map spanAV) ∧ (∀ (i : Nat) (c : List AV), H[i]? = some (.cells c) → H'[i]? = some (.cells c)) := by
      rw [texttoolsref20_Fields_J1_eq]
      cases hline : line with
      | nil =>
        rw [texttoolsref20_Fields_L1_eq]
        have e1 : decide ((1 : Int) < (([] : List UInt8).length : Int)) = false := by decide
        have e2 : decide ((0 : Int) < (([] : List UInt8).length : Int)) = false := by decide
        simp only [go_sem, e1, texttoolsref20_Fields_J2_eq, e2, texttoolsref20_Fields_J3_eq]
        exact ⟨_, _, rfl, .inl ⟨rfl, rfl⟩, fun _ _ h => h⟩
      | cons x l =>
        rw [← hline]
        have := fields_blank_loop hlen H _ 1 0 [] .nils H rfl (by omega) (by rw [hline]; simp) (by simp) (.inl ⟨rfl, rfl⟩)
        rw [hline] at this ⊢
        simpa [fsAt_cons] using this
    by_cases h1 : 0 ≤ sep
    · have c1 : decide ((0 : Int) ≤ sep) = true := by simp [h1]
      have c2 : decide (sep ≤ (255 : Int)) = false := by simp; omega
      simp only [go_sem, c1, c2]
      exact main
    · have c1 : decide ((0 : Int) ≤ sep) = false := by simp; omega
      simp only [go_sem, c1]
      exact main
end Go.Am
