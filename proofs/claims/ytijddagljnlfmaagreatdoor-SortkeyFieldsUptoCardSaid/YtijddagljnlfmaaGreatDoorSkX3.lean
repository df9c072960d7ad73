/-
  The statement on fields: the fields of a line, joined, are the line.
-/
import Derived.Test.YtijddagljnlfmaaGreatDoorSkX2
namespace Go.Am
set_option linter.unusedSimpArgs false
set_option linter.unusedVariables false

theorem fill_keF (i : Int) : (afill [(0, 1, .int .i64 i), (1, 1, .int .i64 1), (2, 1, .int .i64 i)] [.int .i64 0, .int .i64 0, .int .i64 0, .int .i64 0, .int .i64 0]).map AV.agg = some (.agg (keF i).cells) := by
  simp [afill, AV.known, AV.cells, splice, keF, Ke.cells]
theorem fill_keO (i : Int) : (afill [(0, 1, .int .i64 i), (1, 1, .int .i64 1)] [.int .i64 0, .int .i64 0, .int .i64 0, .int .i64 0, .int .i64 0]).map AV.agg = some (.agg (keO i).cells) := by
  simp [afill, AV.known, AV.cells, splice, keO, Ke.cells]
theorem set_b (v : Int) : (setElems 1 [(0, .int .u8 v)] [.int .u8 0]).map (AV.vs 1 .clip) = some (.vs 1 .clip [.int .u8 v]) := by
  simp [setElems, AV.known, AV.cells]
theorem J3_spec {line : List UInt8} (hlen : line.length ≤ 1048576) (sep : Int) {n : Nat} (hn : n = (fields line sep).length) (hnb : n ≤ 1048577)
    (h0 : ∀ p, (fields line sep)[0]? = some p → p.1 = 0) (he : fields line sep = [] → line = []) {x : AV} {H0 H : Hp} (hr : Row H 1 x (line.map bv)) (awake : ∀ H, flatC C_texttoolslaw20_awake [] H = some (.bool true, H)) :
    ∃ H', texttoolslaw20_SortkeyFields_J3 (.str line) (.int .i64 sep) (.int .i64 (n : Int)) x H0 H = some (.bool true, H') := by
  rw [texttoolslaw20_SortkeyFields_J3_eq]
  have hw : IntKind.i64.wrap ((n : Int) + 1) = ((n + 1 : Nat) : Int) := by rw [wrap64 (by omega) (by omega)]; omega
  obtain ⟨H1, e1, _⟩ := extract_spec hlen (keO_ok (i := ((n + 1 : Nat) : Int)) (by omega) (by omega)) sep H
  obtain ⟨H2, e2, _⟩ := extract_spec hlen (keO_ok (i := 1) (by omega) (by omega)) sep H1
  rw [ex_all (fields_in line sep) h0 he] at e2
  have ho : ex line (fields line sep) (keO ((n + 1 : Nat) : Int)) = [] := by rw [hn]; exact ex_out
  rw [ho] at e1
  have c1 : (line == line) = true := by simp
  have c2 : (([] : List UInt8) == []) = true := rfl
  simp only [go_sem, cv_row hr, c1, hw, fill_keO, e1, c2, e2, awake]
  exact ⟨_, rfl⟩
/-- The pieces one after the other. -/
theorem L1_spec {line : List UInt8} (hlen : line.length ≤ 1048576) {sep : Int} {by_ : Bool} (hby : by_ = true → 0 ≤ sep ∧ sep ≤ 255) {n : Nat} (hn : n = (fields line sep).length) (hnb : n ≤ 1048577)
    (hch : chE (if by_ then 1 else 0) (fun x => by_ = true → line[x]? = some (UInt8.ofNat sep.toNat)) line.length 0 (fields line sep)) (he : fields line sep = [] → line = []) (H0 : Hp) : ∀ (k i : Nat) (x : AV) (H : Hp), n - i = k → i ≤ n →
    Row H 1 x ((line.take (upTo (fields line sep) i)).map bv) →
    ∃ x' H', texttoolslaw20_SortkeyFields_L1 (.str line) (.int .i64 sep) (.int .i64 (n : Int)) (.bool by_) x (.int .i64 ((i + 1 : Nat) : Int)) H0 H = texttoolslaw20_SortkeyFields_J3 (.str line) (.int .i64 sep) (.int .i64 (n : Int)) x' H0 H' ∧ Row H' 1 x' (line.map bv) := by
  intro k
  induction k with
  | zero =>
    intro i x H hk hi hr
    rw [texttoolslaw20_SortkeyFields_L1_eq]
    have hle : decide (((i + 1 : Nat) : Int) ≤ (n : Int)) = false := by simp; omega
    simp only [go_sem, hle]
    refine ⟨x, H, rfl, ?_⟩
    have hin : i = n := by omega
    have : line.take (upTo (fields line sep) i) = line := by
      cases i with
      | zero =>
        have hf : fields line sep = [] := List.length_eq_zero_iff.1 (by omega)
        rw [he hf]; rfl
      | succ i =>
        have hl : i < (fields line sep).length := by omega
        have hg : (fields line sep)[i]? = some (fields line sep)[i] := List.getElem?_eq_getElem hl
        have := (chE_get _ _ _ _ hch hg).2.1 (by omega)
        unfold upTo
        simp only
        rw [getD_of hg, this]
        simp
    rw [this] at hr
    exact hr
  | succ k ih =>
    intro i x H hk hi hr
    have hl : i < (fields line sep).length := by omega
    obtain ⟨p, hp⟩ : ∃ p, (fields line sep)[i]? = some p := ⟨_, List.getElem?_eq_getElem hl⟩
    obtain ⟨b1, b2⟩ := fields_in line sep p (List.mem_of_getElem? hp)
    rw [texttoolslaw20_SortkeyFields_L1_eq]
    have hle : decide (((i + 1 : Nat) : Int) ≤ (n : Int)) = true := by simp; omega
    have hw : IntKind.i64.wrap (((i + 1 : Nat) : Int) + 1) = ((i + 1 + 1 : Nat) : Int) := by rw [wrap64 (by omega) (by omega)]; omega
    simp only [go_sem, hle]
    have j6 : ∀ (x : AV) (H : Hp), Row H 1 x ((line.take p.1).map bv) → ∃ x' H', texttoolslaw20_SortkeyFields_J6 (.str line) (.int .i64 sep) (.int .i64 (n : Int)) (.bool by_) x (.int .i64 ((i + 1 : Nat) : Int)) H0 H = texttoolslaw20_SortkeyFields_J3 (.str line) (.int .i64 sep) (.int .i64 (n : Int)) x' H0 H' ∧ Row H' 1 x' (line.map bv) := by
      intro x H hr
      rw [texttoolslaw20_SortkeyFields_J6_eq]
      obtain ⟨H1, e1, f1⟩ := extract_spec hlen (keF_ok (i := ((i + 1 : Nat) : Int)) (by omega) (by omega)) sep H
      rw [ex_field (fields_in line sep) hp] at e1
      have hr1 : Row H1 1 x ((line.take p.1).map bv) := hr.mono (fun i e h => f1 i _ h)
      obtain ⟨x2, H2, g1, g2, _⟩ := hr1.app 1 (.str ((line.take p.2).drop p.1)) (((line.take p.2).drop p.1).map bv) (by simp only [elems, if_true]; rfl) (by simp; omega)
      rw [← List.map_append, join_take line b1] at g2
      simp only [fill_keF, go_sem, e1, g1, texttoolslaw20_SortkeyFields_J5_eq, hw]
      refine ih (i + 1) x2 H2 (by omega) (by omega) ?_
      have : upTo (fields line sep) (i + 1) = p.2 := by unfold upTo; simp only; rw [getD_of hp]
      rw [this]
      exact g2
    rw [texttoolslaw20_SortkeyFields_J4_eq]
    cases i with
    | zero =>
      have hp0 : p.1 = 0 := (chE_get _ _ _ _ hch hp).1 rfl
      have hgt : decide ((1 : Int) < ((0 + 1 : Nat) : Int)) = false := by decide
      simp only [go_sem, hgt]
      apply j6
      rw [hp0]
      exact hr
    | succ i =>
      have hl0 : i < (fields line sep).length := by omega
      obtain ⟨q, hq⟩ : ∃ q, (fields line sep)[i]? = some q := ⟨_, List.getElem?_eq_getElem hl0⟩
      obtain ⟨c1, c2⟩ := (chE_get _ _ _ _ hch hq).2.2 p hp
      have hup : upTo (fields line sep) (i + 1) = q.2 := by unfold upTo; simp only; rw [getD_of hq]
      rw [hup] at hr
      have hgt : decide ((1 : Int) < ((i + 1 + 1 : Nat) : Int)) = true := by simp; omega
      cases hb : by_ with
      | false =>
        rw [hb] at j6 c2
        simp only [go_sem, hgt]
        apply j6
        have : p.1 = q.2 := by simpa using c2
        rw [this]
        exact hr
      | true =>
        rw [hb] at j6 c2
        obtain ⟨s0, s1⟩ := hby hb
        have hcv : cvInt .u8 (.int .i64 sep) = some (.int .u8 sep) := by
          have : IntKind.u8.wrap sep = sep := by
            unfold IntKind.wrap
            have e1 : (2 ^ IntKind.u8.bits : Int) = 256 := by decide
            have e3 : IntKind.u8.signed = false := rfl
            simp only [e1, e3, Bool.false_and, Bool.false_eq_true, if_false]
            omega
          simp [cvInt, this]
        have hbv : AV.int .u8 sep = bv (UInt8.ofNat sep.toNat) := by
          unfold bv
          congr 1
          simp
          omega
        obtain ⟨d1, d2⟩ := fields_in line sep q (List.mem_of_getElem? hq)
        obtain ⟨x2, H2, g1, g2, _⟩ := hr.app 1 (.vs 1 .clip [.int .u8 sep]) [.int .u8 sep] (by simp [elems]) (by simp; omega)
        simp only [go_sem, hgt, hcv, set_b, g1]
        apply j6
        have hpq : p.1 = q.2 + 1 := by simpa using c2
        rw [hpq, ← take_snoc (c1 hb), List.map_append, List.map_singleton, ← hbv]
        exact g2
theorem Fields_law {line : List UInt8} (hlen : line.length ≤ 1048576) (sep : Int) (H : Hp) (awake : ∀ H, flatC C_texttoolslaw20_awake [] H = some (.bool true, H)) :
    ∃ H', C_texttoolslaw20_SortkeyFields [.str line, .int .i64 sep] H = some (.bool true, H') := by
  rw [F_texttoolslaw20_SortkeyFields_eq]
  unfold F_texttoolslaw20_SortkeyFields
  by_cases h : 0 ≤ sep ∧ sep ≤ 255
  · have c1 : decide ((0 : Int) ≤ sep) = true := by simp [h.1]
    have c2 : decide (sep ≤ (255 : Int)) = true := by simp [h.2]
    have hf : fields line sep = fieldsB (UInt8.ofNat sep.toNat) line 0 0 := by unfold fields; rw [if_pos h]
    have hfl : (fields line sep).length = cB (UInt8.ofNat sep.toNat) line + 1 := by rw [hf, cB_len]
    have hcb := cB_le (UInt8.ofNat sep.toNat) line
    have hw : IntKind.i64.wrap (((0 + cB (UInt8.ofNat sep.toNat) (line.drop 0) : Nat) : Int) + 1) = (((fields line sep).length : Nat) : Int) := by rw [wrap64 (by simp; omega) (by simp; omega), hfl]; simp
    have hl2 := L2_byte hlen h.1 h.2 H H _ 0 0 rfl (by omega) (Nat.le_refl _)
    simp only [go_sem, c1, c2]
    refine Eq.mpr (by rw [show (AV.int .i64 0) = .int .i64 ((0 : Nat) : Int) from rfl, hl2]) ?_
    rw [texttoolslaw20_SortkeyFields_J1_eq]
    simp only [go_sem, hw, texttoolslaw20_SortkeyFields_J2_eq]
    have hch : chE (if true then 1 else 0) (fun x => true = true → line[x]? = some (UInt8.ofNat sep.toNat)) line.length 0 (fields line sep) := by
      have := fieldsB_ch (UInt8.ofNat sep.toNat) line line 0 0 (by simp) (by omega)
      rw [hf]
      simpa using this
    have hne : fields line sep = [] → line = [] := fun e => by rw [e] at hfl; simp at hfl
    obtain ⟨x', H', g1, g2⟩ := L1_spec hlen (sep := sep) (by_ := true) (fun _ => h) rfl (by omega) hch hne H _ 0 .nils H rfl (by omega) (.inl ⟨rfl, by simp [upTo]⟩)
    obtain ⟨H2, g3⟩ := J3_spec hlen sep rfl (by omega) (fun p hp => (chE_get _ _ _ _ hch hp).1 rfl) hne (H0 := H) g2 awake
    exact ⟨H2, by rw [← g3, ← g1]; rfl⟩
  · have hf : fields line sep = fsAt line 0 := by unfold fields; rw [if_neg h]
    have main : ∃ H', texttoolslaw20_SortkeyFields_L2 (.str line) (.int .i64 sep) (.int .i64 0) (.bool false) (.int .i64 0) H H = some (.bool true, H') := by
      rw [L2_blank hlen, ← hf, texttoolslaw20_SortkeyFields_J1_eq]
      simp only [go_sem, texttoolslaw20_SortkeyFields_J2_eq]
      have hlen2 : (fields line sep).length ≤ 1048577 := by
        rw [hf]
        cases hline : line with
        | nil => simp [fsAt]
        | cons a l =>
          rw [fsAt_cons, cW_len]
          have := cW_le l (isBl a)
          rw [hline] at hlen
          simp at hlen
          omega
      have hch : chE (if false then 1 else 0) (fun x => false = true → line[x]? = some (UInt8.ofNat sep.toNat)) line.length 0 (fields line sep) := by
        rw [hf]
        cases hline : line with
        | nil => simp [fsAt, chE]
        | cons a l =>
          rw [fsAt_cons]
          have := fieldsW_ch (a :: l) l (isBl a) 0 1 (by simp) (by simp)
          simpa using this
      have hne : fields line sep = [] → line = [] := fun e => by
        rw [hf] at e
        cases hline : line with
        | nil => rfl
        | cons a l =>
          rw [hline, fsAt_cons] at e
          have := fieldsW_pos l (isBl a) 0 1
          rw [e] at this
          simp at this
      obtain ⟨x', H', g1, g2⟩ := L1_spec hlen (sep := sep) (by_ := false) (fun e => by cases e) rfl hlen2 hch hne H _ 0 .nils H rfl (by omega) (.inl ⟨rfl, by simp [upTo]⟩)
      obtain ⟨H2, g3⟩ := J3_spec hlen sep rfl hlen2 (fun p hp => (chE_get _ _ _ _ hch hp).1 rfl) hne (H0 := H) g2 awake
      exact ⟨H2, by rw [← g3, ← g1]; rfl⟩
    by_cases h1 : 0 ≤ sep
    · have c1 : decide ((0 : Int) ≤ sep) = true := by simp [h1]
      have c2 : decide (sep ≤ (255 : Int)) = false := by simp; omega
      simp only [go_sem, c1, c2]
      exact main
    · have c1 : decide ((0 : Int) ≤ sep) = false := by simp; omega
      simp only [go_sem, c1]
      exact main
end Go.Am
