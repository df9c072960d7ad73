/-
  Numbers, flags and keys, as the document reads them.
-/
import Derived.Test.YtijddagljnlfmaaGreatDoorTkHx
import Derived.Test.YtijddagljnlfmaaGreatDoorTkGQx
namespace Go.Am
open Go.Proofs
set_option linter.unusedSimpArgs false
set_option linter.unusedVariables false

theorem rdigits_loop {s : List UInt8} (hs : s.length ≤ 4611686018427387904) (H0 H : Hp) : ∀ (k i : Nat), s.length - i = k → i ≤ s.length →
    texttoolsref20_digits_L1 (.str s) (.int .i64 (i : Int)) H0 H = some (.int .i64 ((i + digN (s.drop i) : Nat) : Int), H) := by
  intro k
  induction k with
  | zero =>
    intro i hk hi
    rw [texttoolsref20_digits_L1_eq]
    have hlt : decide ((i : Int) < (s.length : Int)) = false := by simp; omega
    have hd : s.drop i = [] := List.drop_eq_nil_iff.2 (by omega)
    simp only [go_sem, hlt, texttoolsref20_digits_J1_eq, hd, digN_nil, Nat.add_zero]
  | succ k ih =>
    intro i hk hi
    rw [texttoolsref20_digits_L1_eq]
    have h1 : i < s.length := by omega
    have hlt : decide ((i : Int) < (s.length : Int)) = true := by simp; omega
    have hw : IntKind.i64.wrap ((i : Int) + 1) = ((i + 1 : Nat) : Int) := by rw [wrap64 (by omega) (by omega)]; omega
    simp only [go_sem, hlt, aindexStr_of (List.getElem?_eq_getElem h1)]
    rw [drop_cons h1, digN_cons]
    unfold isDig
    cases e1 : decide ((48 : Int) ≤ (s[i].toNat : Int)) with
    | false => simp only [go_sem, texttoolsref20_digits_J1_eq, Bool.false_and, Bool.false_eq_true, if_false, Nat.add_zero]
    | true =>
      simp only [go_sem, aindexStr_of (List.getElem?_eq_getElem h1), Bool.true_and]
      cases e2 : decide ((s[i].toNat : Int) ≤ 57) with
      | false => simp only [go_sem, texttoolsref20_digits_J1_eq, Bool.false_eq_true, if_false, Nat.add_zero]
      | true =>
        simp only [go_sem, texttoolsref20_digits_J2_eq, hw, if_true]
        rw [ih (i + 1) (by omega) (by omega)]
        rw [show i + 1 + digN (s.drop (i + 1)) = i + (digN (s.drop (i + 1)) + 1) by omega]
theorem rdigits_ok {s : List UInt8} (hs : s.length ≤ 4611686018427387904) (H : Hp) : flatC C_texttoolsref20_digits [.str s] H = some (.int .i64 (digN s : Int), H) := by
  refine flat1 (a' := .str s) rfl (H1 := []) ((F_texttoolsref20_digits_eq _ _).trans ?_) rfl
  have := rdigits_loop hs [] [] s.length 0 (by omega) (by omega)
  rw [List.drop_zero, Nat.zero_add] at this
  exact this
/-! The number that digits spell, counted downwards. -/
theorem rDig_loop {k : List UInt8} (hd : ∀ b ∈ k, isDig b = true) (hk : k.length ≤ 4611686018427387904) (H0 H : Hp) : ∀ (m i : Nat), k.length - i = m → i ≤ k.length →
    texttoolsref01_Digits_L1 (.str k) (.int .i64 (i : Int)) H0 H = some (.bool true, H) := by
  intro m
  induction m with
  | zero =>
    intro i hm hi
    rw [texttoolsref01_Digits_L1_eq]
    have hlt : decide ((i : Int) < (k.length : Int)) = false := by simp; omega
    simp only [go_sem, hlt, texttoolsref01_Digits_J2_eq]
  | succ m ih =>
    intro i hm hi
    rw [texttoolsref01_Digits_L1_eq]
    have h1 : i < k.length := by omega
    have hlt : decide ((i : Int) < (k.length : Int)) = true := by simp; omega
    have hw : IntKind.i64.wrap ((i : Int) + 1) = ((i + 1 : Nat) : Int) := by rw [wrap64 (by omega) (by omega)]; omega
    have hc := isDig_iff (hd k[i] (List.getElem_mem h1))
    have e1 : decide ((k[i].toNat : Int) < 48) = false := by simp; omega
    have e2 : decide ((57 : Int) < (k[i].toNat : Int)) = false := by simp; omega
    simp only [go_sem, hlt, texttoolsref01_Digits_J3_eq, aindexStr_of (List.getElem?_eq_getElem h1), e1, e2, texttoolsref01_Digits_J4_eq, hw]
    exact ih (i + 1) (by omega) (by omega)
theorem rDig_ok {k : List UInt8} (hd : ∀ b ∈ k, isDig b = true) (hk : k.length ≤ 4611686018427387904) (H : Hp) : flatC C_texttoolsref01_Digits [.str k] H = some (.bool (decB k), H) := by
  refine flat1 (a' := .str k) rfl (H1 := []) ((F_texttoolsref01_Digits_eq _ _).trans ?_) rfl
  unfold F_texttoolsref01_Digits
  have hj1 : ∀ k : List UInt8, (∀ b ∈ k, isDig b = true) → k.length ≤ 4611686018427387904 → texttoolsref01_Digits_J1 (.str k) [] [] = some (.bool true, []) := by
    intro k hd hk
    rw [texttoolsref01_Digits_J1_eq]
    exact rDig_loop hd hk [] [] k.length 0 (by omega) (by omega)
  match k, hd, hk with
  | [], _, _ =>
    have c : (([] : List UInt8) == []) = true := rfl
    simp only [go_sem, c]
    rfl
  | [b], hd, hk =>
    have c : (([b] : List UInt8) == []) = false := rfl
    have c1 : decide ((1 : Int) < (([b] : List UInt8).length : Int)) = false := by simp
    simp only [go_sem, c, c1, hj1 [b] hd hk]
    have : decB [b] = true := by
      show (!(b == 48 && !(([] : List UInt8) == []))) = true
      have : (([] : List UInt8) == []) = true := rfl
      rw [this]
      simp
    rw [this]
  | b :: d :: r, hd, hk =>
    have c : ((b :: d :: r) == []) = false := rfl
    have c1 : decide ((1 : Int) < ((b :: d :: r).length : Int)) = true := by simp; omega
    have c2 : ((b.toNat : Int) == 48) = (b == 48) := u8eq b 48 (by decide)
    have hix : aindexStr (.str (b :: d :: r)) (.int .i64 0) = some (.int .u8 b.toNat) := aindexStr_of (s := b :: d :: r) (i := 0) rfl
    have hB : decB (b :: d :: r) = !(b == 48) := by
      show (!(b == 48 && !((d :: r) == []))) = !(b == 48)
      have : ((d :: r) == []) = false := rfl
      rw [this]
      simp
    simp only [go_sem, c, c1, hix, c2]
    rw [hB]
    cases e : (b == 48) with
    | true => simp only [go_sem, Bool.not_true]
    | false => simp only [go_sem, hj1 _ hd hk, Bool.not_false]
theorem quo10n {d : Nat} (hd : d < 10) : ibin .quo (.int .i64 (IntKind.i64.wrap (-9223372036854775808 + (d : Int)))) (.int .i64 10) = some (.int .i64 (-(((9223372036854775808 - d) / 10 : Nat) : Int))) := by
  rw [wrap64 (by omega) (by omega), quo10]
  have e : (-9223372036854775808 + (d : Int)) = -((9223372036854775808 - d : Nat) : Int) := by omega
  rw [e, Int.neg_tdiv, Int.tdiv_eq_ediv_of_nonneg (by omega)]
  rw [wrap64 (by omega) (by omega)]
  congr 2
theorem decVal_nil (v : Nat) : decVal v [] = v := (Eq.refl _).trans (Eq.refl _)
theorem rnum_loop {k : List UInt8} (hd : ∀ b ∈ k, isDig b = true) (hk : k.length ≤ 4611686018427387904) (H0 H : Hp) (B : Nat) (hB : B = 9223372036854775808) : ∀ (m i v : Nat), k.length - i = m → i ≤ k.length → v ≤ B →
    texttoolsref01_Parse_L1 (.str k) (.str k) (.int .i64 (-(v : Int))) (.int .i64 (i : Int)) H0 H =
      some (if decVal v (k.drop i) < B then .tuple [.int .i64 ((decVal v (k.drop i) : Nat) : Int), .int .i64 0] else .tuple [.int .i64 0, .int .i64 9], H) := by
  intro m
  induction m with
  | zero =>
    intro i v hm hi hv
    rw [texttoolsref01_Parse_L1_eq]
    have hlt : decide ((i : Int) < (k.length : Int)) = false := by simp; omega
    have hdn : k.drop i = [] := List.drop_eq_nil_iff.2 (by omega)
    have c : decide ((k.length : Int) < (k.length : Int)) = false := by simp
    simp only [go_sem, hlt, texttoolsref01_Parse_J3_eq, c, texttoolsref01_Parse_J4_eq, hdn, decVal_nil]
    by_cases h : v < B
    · have c2 : ((-(v : Int)) == -9223372036854775808) = false := by simp; omega
      have hn : aun .neg (.int .i64 (-(v : Int))) = some (.int .i64 (v : Int)) := by
        simp only [aun, Int.zero_sub, Int.neg_neg]
        rw [wrap64 (by omega) (by omega)]
      simp only [c2, go_sem, if_pos h, texttoolsref01_Parse_J5_eq, hn]
    · have c2 : ((-(v : Int)) == -9223372036854775808) = true := by simp; omega
      simp only [c2, go_sem, if_neg h]
  | succ m ih =>
    intro i v hm hi hv
    rw [texttoolsref01_Parse_L1_eq]
    have h1 : i < k.length := by omega
    have hlt : decide ((i : Int) < (k.length : Int)) = true := by simp; omega
    have hw : IntKind.i64.wrap ((i : Int) + 1) = ((i + 1 : Nat) : Int) := by rw [wrap64 (by omega) (by omega)]; omega
    have hc := isDig_iff (hd k[i] (List.getElem_mem h1))
    obtain ⟨d, hdd⟩ : ∃ d, d = k[i].toNat - 48 := ⟨_, rfl⟩
    have hd10 : d < 10 := by omega
    have hsub : ibin .sub (.int .u8 (k[i].toNat : Int)) (.int .u8 48) = some (.int .u8 (d : Int)) := by
      rw [ibin_sub]
      have e1 : (2 ^ IntKind.u8.bits : Int) = 256 := by decide
      have e3 : IntKind.u8.signed = false := rfl
      have : IntKind.u8.wrap ((k[i].toNat : Int) - 48) = (d : Int) := by
        unfold IntKind.wrap
        simp only [e1, e3, Bool.false_and, Bool.false_eq_true, if_false]
        omega
      rw [this]
    have hcv : cvInt .i64 (.int .u8 (d : Int)) = some (.int .i64 (d : Int)) := by
      simp only [cvInt]
      rw [wrap64 (by omega) (by omega)]
    rw [drop_cons h1, decVal_cons, ← hdd]
    have hge := decVal_ge (k.drop (i + 1)) (v * 10 + d)
    simp only [go_sem, hlt, texttoolsref01_Parse_J6_eq, aindexStr_of (List.getElem?_eq_getElem h1), hsub, hcv, quo10n hd10]
    by_cases hov : (9223372036854775808 - d) / 10 < v
    · have c : decide (-(v : Int) < -(((9223372036854775808 - d) / 10 : Nat) : Int)) = true := by simp; omega
      simp only [c, go_sem]
      rw [if_neg (by omega)]
    · have c : decide (-(v : Int) < -(((9223372036854775808 - d) / 10 : Nat) : Int)) = false := by simp; omega
      have hw1 : IntKind.i64.wrap (10 * -(v : Int)) = -((10 * v : Nat) : Int) := by rw [wrap64 (by omega) (by omega)]; omega
      have hw2 : IntKind.i64.wrap (-((10 * v : Nat) : Int) - (d : Int)) = -((v * 10 + d : Nat) : Int) := by rw [wrap64 (by omega) (by omega)]; omega
      simp only [c, go_sem, texttoolsref01_Parse_J8_eq, hw1, hw2, texttoolsref01_Parse_J7_eq, hw]
      exact ih (i + 1) (v * 10 + d) (by omega) (by omega) (by omega)
theorem rParse_ok {k : List UInt8} (hd : ∀ b ∈ k, isDig b = true) (hk : k.length ≤ 281474976710656) (H : Hp) : flatC C_texttoolsref01_Parse [.str k] H = some (.tuple [.int .i64 (numP k).1, .int .i64 (numP k).2], H) := by
  refine flat1 (a' := .str k) rfl (H1 := []) ((F_texttoolsref01_Parse_eq _ _).trans ?_) rfl
  have hj1 : texttoolsref01_Parse_J1 (.str k) (.str k) [] [] = some (.tuple [.int .i64 (numP k).1, .int .i64 (numP k).2], []) := by
    rw [texttoolsref01_Parse_J1_eq]
    unfold numP
    simp only [rDig_ok hd (by omega), go_sem]
    cases e : decB k with
    | false => simp only [go_sem, Bool.not_false, Bool.false_eq_true, if_false]
    | true =>
      have c : (k == [45, 48]) = false := by
        rw [beq_eq_false_iff_ne]
        intro h
        rw [h] at hd
        have := isDig_iff (hd 45 (by simp))
        have h45 : (45 : UInt8).toNat = 45 := rfl
        omega
      have hl := rnum_loop hd (by omega) [] [] 9223372036854775808 rfl k.length 0 0 (by omega) (by omega) (by omega)
      rw [List.drop_zero] at hl
      simp only [go_sem, Bool.not_true, c, texttoolsref01_Parse_J2_eq, if_true]
      refine Eq.trans hl ?_
      by_cases h : decVal 0 k < 9223372036854775808
      · rw [if_pos h, if_pos h]
      · rw [if_neg h, if_neg h]
  unfold F_texttoolsref01_Parse
  cases k with
  | nil =>
    have c : (([] : List UInt8) == []) = true := rfl
    simp only [go_sem, c, Bool.not_true]
    exact hj1
  | cons b r =>
    have hb := isDig_iff (hd b (by simp))
    have c : ((b :: r) == []) = false := rfl
    have c1 : ((b.toNat : Int) == 45) = false := by simp; omega
    have hix : aindexStr (.str (b :: r)) (.int .i64 0) = some (.int .u8 b.toNat) := aindexStr_of (s := b :: r) (i := 0) rfl
    simp only [go_sem, c, Bool.not_false, hix, c1]
    exact hj1
/-- A number at the beginning, as the document reads it: its value, what follows, two errors. -/
def numberR (s : List UInt8) (least : Int) : Int × List UInt8 × Int × Int :=
  if (numP (s.take (digN s))).2 = 1 then (0, s, 1, 0)
  else ((numP (s.take (digN s))).1, s.drop (digN s), 0, if (numP (s.take (digN s))).2 ≠ 0 ∨ (numP (s.take (digN s))).1 < least then 2 else 0)
theorem rnumber_ok {s : List UInt8} (hs : s.length ≤ 1048576) (least : Int) (H : Hp) : flatC C_texttoolsref20_number [.str s, .int .i64 least] H =
    some (.tuple [.int .i64 (numberR s least).1, .str (numberR s least).2.1, .int .i64 (numberR s least).2.2.1, .int .i64 (numberR s least).2.2.2], H) := by
  refine flat2 (a' := .str s) (b' := .int .i64 least) rfl rfl (H1 := []) ((F_texttoolsref20_number_eq _ _ _).trans ?_) rfl
  unfold F_texttoolsref20_number numberR
  have hdl := digN_le s
  have hsl := asliceS_hi (s := s) (n := (digN s : Int)) .i64 (by omega) (by omega)
  have hsr := asliceS_lo (s := s) (n := (digN s : Int)) .i64 (by omega) (by omega)
  rw [show ((digN s : Int)).toNat = digN s by omega] at hsl hsr
  simp only [rdigits_ok (s := s) (by omega), go_sem, hsl, rParse_ok (digN_take s) (by simp; omega), List.getElem?_cons_zero, List.getElem?_cons_succ]
  by_cases h1 : (numP (s.take (digN s))).2 = 1
  · have c : ((numP (s.take (digN s))).2 == 1) = true := by simpa using h1
    simp only [c, go_sem, if_pos h1]
  · have c : ((numP (s.take (digN s))).2 == 1) = false := by simpa using h1
    simp only [c, go_sem, if_neg h1, texttoolsref20_number_J1_eq]
    by_cases h2 : (numP (s.take (digN s))).2 = 0
    · have c2 : ((numP (s.take (digN s))).2 != 0) = false := by simpa using h2
      simp only [c2, go_sem]
      by_cases h3 : (numP (s.take (digN s))).1 < least
      · have c3 : decide ((numP (s.take (digN s))).1 < least) = true := by simpa using h3
        simp only [c3, go_sem, hsr, if_pos (Or.inr h3)]
      · have c3 : decide ((numP (s.take (digN s))).1 < least) = false := by simpa using h3
        have hn : ¬ ((numP (s.take (digN s))).2 ≠ 0 ∨ (numP (s.take (digN s))).1 < least) := fun h => h.elim (fun h => h h2) h3
        simp only [c3, go_sem, hsr, texttoolsref20_number_J2_eq, if_neg hn]
    · have c2 : ((numP (s.take (digN s))).2 != 0) = true := by simpa using h2
      simp only [c2, go_sem, hsr, if_pos (Or.inl h2)]
/-! Flags. -/
theorem rflag_spec (c : UInt8) (H : Hp) : flatC C_texttoolsref20_flag [.int .u8 c.toNat] H = some (.int .i64 (flagV c : Nat), H) := by
  refine flat1 (a' := .int .u8 c.toNat) rfl (H1 := []) ((F_texttoolsref20_flag_eq _ _).trans ?_) rfl
  unfold F_texttoolsref20_flag
  have e : ∀ n : Nat, n < 256 → ((c.toNat : Int) == (n : Int)) = (c == UInt8.ofNat n) := fun n h => u8eq c n h
  have e1 : ((c.toNat : Int) == 98) = (c == 98) := e 98 (by decide)
  have e2 : ((c.toNat : Int) == 100) = (c == 100) := e 100 (by decide)
  have e3 : ((c.toNat : Int) == 102) = (c == 102) := e 102 (by decide)
  have e4 : ((c.toNat : Int) == 110) = (c == 110) := e 110 (by decide)
  have e5 : ((c.toNat : Int) == 114) = (c == 114) := e 114 (by decide)
  simp only [go_sem, e4]
  by_cases h1 : c = 110
  · subst h1; rfl
  have d : (c == 110) = false := by simpa using h1
  simp only [d, go_sem, e5]
  by_cases h2 : c = 114
  · subst h2; rfl
  have d : (c == 114) = false := by simpa using h2
  simp only [d, go_sem, e3]
  by_cases h3 : c = 102
  · subst h3; rfl
  have d : (c == 102) = false := by simpa using h3
  simp only [d, go_sem, e1]
  by_cases h4 : c = 98
  · subst h4; rfl
  have d : (c == 98) = false := by simpa using h4
  simp only [d, go_sem, e2]
  by_cases h5 : c = 100
  · subst h5; rfl
  have d : (c == 100) = false := by simpa using h5
  simp only [d, go_sem, texttoolsref20_flag_J1_eq]
  have : flagV c = 0 := by unfold flagV; rw [if_neg h4, if_neg h5, if_neg h3, if_neg h1, if_neg h2]
  rw [this]
  rfl
theorem with_all : ((List.range 32).all fun n => (List.range 5).all fun j => decide ((if n.testBit j then n else n + 2 ^ j) = (n ||| 2 ^ j))) = true := by kernel_rfl
theorem with_ok {n j : Nat} (hn : n < 32) (hj : j < 5) (H : Hp) : flatC C_texttoolsref20_with [.int .i64 n, .int .i64 ((2 ^ j : Nat) : Int)] H = some (.int .i64 ((n ||| 2 ^ j : Nat) : Int), H) := by
  refine flat2 (a' := .int .i64 n) (b' := .int .i64 ((2 ^ j : Nat) : Int)) rfl rfl (H1 := []) ((F_texttoolsref20_with_eq _ _ _).trans ?_) rfl
  unfold F_texttoolsref20_with
  have hw := of_decide_eq_true (all_range (all_range with_all hn) hj)
  have h2 : 2 ^ j ≤ 16 := by
    have := Nat.pow_le_pow_right (n := 2) (by decide) (show j ≤ 4 by omega)
    omega
  simp only [has_ok hn hj, go_sem]
  cases hb : n.testBit j with
  | true => rw [hb] at hw; simp only [if_true] at hw; simp only [go_sem]; rw [← hw]
  | false =>
    rw [hb] at hw
    simp only [Bool.false_eq_true, if_false] at hw
    have : IntKind.i64.wrap ((n : Int) + ((2 ^ j : Nat) : Int)) = ((n ||| 2 ^ j : Nat) : Int) := by rw [← hw, wrap64 (by omega) (by omega)]; omega
    simp only [go_sem, texttoolsref20_with_J1_eq, this]
theorem flagV_pow (c : UInt8) (h : flagV c ≠ 0) : ∃ j, j < 5 ∧ flagV c = 2 ^ j := by
  unfold flagV at h ⊢
  split
  · exact ⟨3, by decide, rfl⟩
  · split
    · exact ⟨4, by decide, rfl⟩
    · split
      · exact ⟨2, by decide, rfl⟩
      · split
        · exact ⟨0, by decide, rfl⟩
        · split
          · exact ⟨1, by decide, rfl⟩
          · rename_i a b c d e
            rw [if_neg a, if_neg b, if_neg c, if_neg d, if_neg e] at h
            exact absurd rfl h
theorem withf_ok {n : Nat} (hn : n < 32) {c : UInt8} (hc : flagV c ≠ 0) (H : Hp) : flatC C_texttoolsref20_with [.int .i64 n, .int .i64 ((flagV c : Nat) : Int)] H = some (.int .i64 ((n ||| flagV c : Nat) : Int), H) := by
  obtain ⟨j, hj, e⟩ := flagV_pow c hc
  rw [e]
  exact with_ok hn hj H
theorem both_ok (a b : Int) (H : Hp) : flatC C_texttoolsref20_both [.int .i64 a, .int .i64 b] H = some (.int .i64 (if a = 0 then b else a), H) := by
  refine flat2 (a' := .int .i64 a) (b' := .int .i64 b) rfl rfl (H1 := []) ((F_texttoolsref20_both_eq _ _ _).trans ?_) rfl
  unfold F_texttoolsref20_both
  by_cases h : a = 0
  · have c : (a != 0) = false := by simpa using h
    simp only [go_sem, c, texttoolsref20_both_J1_eq, if_pos h]
  · have c : (a != 0) = true := by simpa using h
    simp only [go_sem, c, if_neg h]
end Go.Am
namespace Go.Am
open Go.Proofs
set_option linter.unusedSimpArgs false
set_option linter.unusedVariables false

theorem flat3 {f : List AV → Hp → Res} {a a' b b' c c' v : AV} {H H1 : Hp} (ha : closeV [] 0 6 a = some a') (hb : closeV [] 0 6 b = some b') (hcl : closeV [] 0 6 c = some c') (hc : f [a', b', c'] [] = some (v, H1)) (hv : flatV 3 v = true) : flatC f [a, b, c] H = some (v, H) :=
  flatC_of (args' := [a', b', c']) (by simp [ha, hb, hcl]) hc hv
structure Hf where
  field : Int
  chr : Int
  fl : Nat
  bad : Int
  rng : Int
def Hf.cells (h : Hf) : List AV := [.int .i64 h.field, .int .i64 h.chr, .int .i64 h.fl, .int .i64 h.bad, .int .i64 h.rng]
def z5 : List AV := [.int .i64 0, .int .i64 0, .int .i64 0, .int .i64 0, .int .i64 0]
def halfU (v : Int) (rng : Int) : Int × List UInt8 × Int × Int → Hf × List UInt8
  | (c, r2, e, f) => (⟨v, c, (flagsS r2 0).1, e, if rng = 0 then f else rng⟩, (flagsS r2 0).2)
def halfT (chr least : Int) : Int × List UInt8 × Int × Int → Hf × List UInt8
  | (v, r, bad, rng) => if bad = 0 ∧ r.head? = some 46 then halfU v rng (numberR r.tail least) else (⟨v, chr, (flagsS r 0).1, bad, rng⟩, (flagsS r 0).2)
def halfR (s : List UInt8) (chr least : Int) : Hf × List UInt8 := halfT chr least (numberR s 1)
theorem half_loop (H0 : Hp) : ∀ (s : List UInt8) (h : Hf) (H : Hp), h.fl < 32 → H[0]? = some (.cells z5) → H[1]? = some (.cells h.cells) →
    ∃ H', texttoolsref20_half_L1 (.str s) (.ptr 0 0) (.ptr 1 0) H0 H = some (.tuple [.agg ({ h with fl := (flagsS s h.fl).1 } : Hf).cells, .str (flagsS s h.fl).2], H') := by
  intro s
  induction s with
  | nil =>
    intro h H hf h0 h1
    rw [texttoolsref20_half_L1_eq]
    have c : decide ((0 : Int) < ((([] : List UInt8).length : Nat) : Int)) = false := by decide
    unfold z5 at h0
    unfold Hf.cells at h1
    simp only [go_sem, c, texttoolsref20_half_J2_eq, aload5 h1, astore5 h0, aload5 (get_set_self h0), flagsS]
    exact ⟨_, rfl⟩
  | cons b r ih =>
    intro h H hf h0 h1
    rw [texttoolsref20_half_L1_eq, flagsS_cons]
    have c : decide ((0 : Int) < (((b :: r).length : Nat) : Int)) = true := by simp only [List.length_cons, decide_eq_true_eq]; omega
    have hix : aindexStr (.str (b :: r)) (.int .i64 0) = some (.int .u8 b.toNat) := aindexStr_of (s := b :: r) (i := 0) rfl
    have hsl := asliceS_lo (s := b :: r) (n := (1 : Int)) .i64 (by omega) (by simp only [List.length_cons]; omega)
    rw [show ((1 : Int)).toNat = 1 from rfl, List.drop_one, List.tail_cons] at hsl
    simp only [go_sem, c, hix, rflag_spec]
    by_cases hz : flagV b = 0
    · have c2 : (((flagV b : Nat) : Int) != 0) = false := by simp; omega
      rw [if_pos hz]
      have h0' := h0
      have h1' := h1
      unfold z5 at h0'
      unfold Hf.cells at h1'
      simp only [c2, go_sem, texttoolsref20_half_J2_eq, aload5 h1', astore5 h0', aload5 (get_set_self h0')]
      exact ⟨_, rfl⟩
    · have c2 : (((flagV b : Nat) : Int) != 0) = true := by simp; omega
      have hl : aload false 1 (.ptr 1 2) H = some (.int .i64 h.fl) := by rw [aload_f1 h1]; rfl
      rw [if_neg hz]
      simp only [c2, go_sem, texttoolsref20_half_J3_eq, Nat.zero_add, hl, hix, rflag_spec, withf_ok hf hz]
      rw [astore1 h1 rfl rfl (by simp [Hf.cells])]
      simp only [go_sem, hsl]
      exact ih { h with fl := h.fl ||| flagV b } _ (or_ok hf (flagV_lt b)).2 (get_set_ne _ (by omega) h0) (get_set_self h1)
theorem fill4 (a b c d : Int) : (afill [(0, 1, .int .i64 a), (1, 1, .int .i64 b), (3, 1, .int .i64 c), (4, 1, .int .i64 d)] [.int .i64 0, .int .i64 0, .int .i64 0, .int .i64 0, .int .i64 0]).map AV.agg = some (.agg [.int .i64 a, .int .i64 b, .int .i64 0, .int .i64 c, .int .i64 d]) := by
  simp [afill, AV.known, AV.cells, splice]
theorem numberR_len (s : List UInt8) (l : Int) : (numberR s l).2.1.length ≤ s.length := by
  unfold numberR
  split <;> simp
theorem half_run {s : List UInt8} (hs : s.length ≤ 1048576) (chr least : Int) : ∃ H', C_texttoolsref20_half [.str s, .int .i64 chr, .int .i64 least] [] = some (.tuple [.agg (halfR s chr least).1.cells, .str (halfR s chr least).2], H') := by
  rw [F_texttoolsref20_half_eq]
  unfold F_texttoolsref20_half halfR
  have hl1 := numberR_len s 1
  have hn := rnumber_ok hs 1
  rcases ha : numberR s 1 with ⟨v, r, bad, rng⟩
  rw [ha] at hl1
  simp only [ha] at hn
  simp only at hl1
  have hb0 : ([AObj.cells [AV.int .i64 0, .int .i64 0, .int .i64 0, .int .i64 0, .int .i64 0], AObj.cells [AV.int .i64 0, .int .i64 0, .int .i64 0, .int .i64 0, .int .i64 0]] : Hp)[1]? = some (.cells [AV.int .i64 0, .int .i64 0, .int .i64 0, .int .i64 0, .int .i64 0]) := rfl
  simp only [bnd_some, List.length_nil, List.nil_append, hn, go_sem, List.getElem?_cons_zero, List.getElem?_cons_succ, fill4, List.length_cons, Nat.zero_add, List.cons_append, astore5 hb0, List.set_cons_succ, List.set_cons_zero]
  have h1 : ([AObj.cells [AV.int .i64 0, .int .i64 0, .int .i64 0, .int .i64 0, .int .i64 0], AObj.cells [AV.int .i64 v, .int .i64 chr, .int .i64 0, .int .i64 bad, .int .i64 rng]] : Hp)[1]? = some (.cells [AV.int .i64 v, .int .i64 chr, .int .i64 0, .int .i64 bad, .int .i64 rng]) := rfl
  have plain : ∃ H', texttoolsref20_half_J1 (.str r) (.ptr 0 0) (.ptr 1 0) [] [AObj.cells [AV.int .i64 0, .int .i64 0, .int .i64 0, .int .i64 0, .int .i64 0], AObj.cells [AV.int .i64 v, .int .i64 chr, .int .i64 0, .int .i64 bad, .int .i64 rng]] =
      some (.tuple [.agg (⟨v, chr, (flagsS r 0).1, bad, rng⟩ : Hf).cells, .str (flagsS r 0).2], H') := by
    rw [texttoolsref20_half_J1_eq]
    exact half_loop [] r ⟨v, chr, 0, bad, rng⟩ _ (by simp) rfl rfl
  simp only [aload_f1 h1, List.getElem?_cons_zero, List.getElem?_cons_succ, go_sem, halfT]
  by_cases hbad : bad = 0
  · have c : (bad == 0) = true := by simpa using hbad
    simp only [c, go_sem]
    cases r with
    | nil =>
      have c2 : decide ((0 : Int) < ((([] : List UInt8).length : Nat) : Int)) = false := by decide
      have hne : ¬ (bad = 0 ∧ ([] : List UInt8).head? = some 46) := fun h => by cases h.2
      simp only [c2, go_sem, if_neg hne]
      exact plain
    | cons x r' =>
      have c2 : decide ((0 : Int) < (((x :: r').length : Nat) : Int)) = true := by simp only [List.length_cons, decide_eq_true_eq]; omega
      have hix : aindexStr (.str (x :: r')) (.int .i64 0) = some (.int .u8 x.toNat) := aindexStr_of (s := x :: r') (i := 0) rfl
      have c3 : ((x.toNat : Int) == 46) = (x == 46) := u8eq x 46 (by decide)
      simp only [c2, go_sem, hix, c3]
      by_cases hx : x = 46
      · subst hx
        have c4 : ((46 : UInt8) == 46) = true := rfl
        have hsl := asliceS_lo (s := 46 :: r') (n := (1 : Int)) .i64 (by omega) (by simp only [List.length_cons]; omega)
        rw [show ((1 : Int)).toNat = 1 from rfl, List.drop_one, List.tail_cons] at hsl
        have hpos : (bad = 0 ∧ (46 :: r').head? = some 46) := ⟨hbad, rfl⟩
        have hn2 := rnumber_ok (s := r') (by simp at hl1; omega) least
        rcases hb : numberR r' least with ⟨c', r2, e, f⟩
        simp only [hb] at hn2
        subst hbad
        simp only [c4, go_sem, hsl, hn2, List.getElem?_cons_zero, List.getElem?_cons_succ, if_pos hpos, List.tail_cons, hb, halfU, Nat.zero_add]
        rw [astore1 h1 rfl rfl (by simp)]
        have g1 : ([AObj.cells [AV.int .i64 0, .int .i64 0, .int .i64 0, .int .i64 0, .int .i64 0], AObj.cells [AV.int .i64 v, .int .i64 c', .int .i64 0, .int .i64 0, .int .i64 rng]] : Hp)[1]? = some (.cells [AV.int .i64 v, .int .i64 c', .int .i64 0, .int .i64 0, .int .i64 rng]) := rfl
        simp only [go_sem, List.set_cons_succ, List.set_cons_zero, Nat.zero_add, aload_f1 g1, List.getElem?_cons_zero, List.getElem?_cons_succ, both_ok, if_true]
        rw [astore1 g1 rfl rfl (by simp)]
        have g2 : ([AObj.cells [AV.int .i64 0, .int .i64 0, .int .i64 0, .int .i64 0, .int .i64 0], AObj.cells [AV.int .i64 v, .int .i64 c', .int .i64 0, .int .i64 e, .int .i64 rng]] : Hp)[1]? = some (.cells [AV.int .i64 v, .int .i64 c', .int .i64 0, .int .i64 e, .int .i64 rng]) := rfl
        simp only [go_sem, List.set_cons_succ, List.set_cons_zero, Nat.zero_add, aload_f1 g2, List.getElem?_cons_zero, List.getElem?_cons_succ, both_ok]
        rw [astore1 g2 rfl rfl (by simp)]
        simp only [go_sem, List.set_cons_succ, List.set_cons_zero, texttoolsref20_half_J1_eq]
        exact half_loop [] r2 ⟨v, c', 0, e, if rng = 0 then f else rng⟩ _ (by simp) rfl rfl
      · have c4 : (x == 46) = false := by simpa using hx
        have hne : ¬ (bad = 0 ∧ (x :: r').head? = some 46) := fun h => by have := h.2; simp at this; exact hx this
        simp only [c4, go_sem, if_neg hne]
        exact plain
  · have c : (bad == 0) = false := by simpa using hbad
    have hne : ¬ (bad = 0 ∧ r.head? = some 46) := fun h => hbad h.1
    simp only [c, go_sem, if_neg hne]
    exact plain
theorem half_ok {s : List UInt8} (hs : s.length ≤ 1048576) (chr least : Int) (H : Hp) : flatC C_texttoolsref20_half [.str s, .int .i64 chr, .int .i64 least] H = some (.tuple [.agg (halfR s chr least).1.cells, .str (halfR s chr least).2], H) := by
  obtain ⟨H', h⟩ := half_run hs chr least
  exact flat3 (a' := .str s) (b' := .int .i64 chr) (c' := .int .i64 least) rfl rfl rfl h rfl
theorem halfR_facts (s : List UInt8) (c l : Int) : (halfR s c l).1.fl < 32 ∧ (halfR s c l).2.length ≤ s.length := by
  have h1 := numberR_len s 1
  unfold halfR
  rcases ha : numberR s 1 with ⟨v, r, bad, rng⟩
  rw [ha] at h1
  simp only at h1
  simp only [halfT]
  split
  · have h2 := numberR_len r.tail l
    rcases hb : numberR r.tail l with ⟨c', r2, e, f⟩
    rw [hb] at h2
    simp only [List.length_tail] at h2
    have h3 := flagsS_len r2 0
    simp only [halfU]
    exact ⟨flagsS_lt _ _ (by decide), by omega⟩
  · have h3 := flagsS_len r 0
    exact ⟨flagsS_lt _ _ (by decide), by simp only; omega⟩
/-! The key. -/
def keyRB (a b : Hf) (r : List UInt8) : Ke × Int :=
  if a.bad ≠ 0 ∨ b.bad ≠ 0 ∨ r ≠ [] then (keNil, 1) else if (if a.rng = 0 then b.rng else a.rng) ≠ 0 then (keNil, 2) else (⟨a.field, a.chr, b.field, b.chr, ((a.fl ||| b.fl : Nat) : Int)⟩, 0)
def hf0 : Hf := ⟨0, 0, 0, 0, 0⟩
def keyRT : Hf × List UInt8 → Ke × Int
  | (a, r) => if a.bad = 0 ∧ r.head? = some 44 then keyRB a (halfR r.tail 0 0).1 (halfR r.tail 0 0).2 else keyRB a hf0 r
def keyR (s : List UInt8) : Ke × Int := keyRT (halfR s 1 1)
def orUp (n b : Nat) : Nat → Nat
  | 0 => n
  | j + 1 => if b.testBit j then orUp n b j ||| 2 ^ j else orUp n b j
theorem orUp_all : ((List.range 32).all fun n => (List.range 32).all fun b => decide (orUp n b 5 = (n ||| b)) && (List.range 6).all fun j => decide (orUp n b j < 32)) = true := by kernel_rfl
theorem orUp_ok {n b : Nat} (hn : n < 32) (hb : b < 32) : orUp n b 5 = (n ||| b) ∧ ∀ j, j < 6 → orUp n b j < 32 := by
  have := all_range (all_range orUp_all hn) hb
  rw [Bool.and_eq_true] at this
  exact ⟨of_decide_eq_true this.1, fun j hj => of_decide_eq_true (all_range this.2 hj)⟩
def KR (x : List AV) (a b : Hf) : Hp := [.cells x, .cells a.cells, .cells b.cells]
theorem keyR_loop {a b : Hf} (ha : a.fl < 32) (hb : b.fl < 32) (H0 : Hp) : ∀ (k j : Nat), 5 - j = k → j ≤ 5 →
    texttoolsref20_key_L1 (.ptr 0 0) (.ptr 1 0) (.ptr 2 0) (.int .i64 (orUp a.fl b.fl j : Nat)) (.int .i64 ((2 ^ j : Nat) : Int)) H0 (KR z5 a b) =
      texttoolsref20_key_J4 (.ptr 0 0) (.ptr 1 0) (.ptr 2 0) (.int .i64 ((a.fl ||| b.fl : Nat) : Int)) H0 (KR z5 a b) := by
  intro k
  have h2 : (KR z5 a b)[2]? = some (.cells b.cells) := rfl
  obtain ⟨o1, o2⟩ := orUp_ok ha hb
  induction k with
  | zero =>
    intro j hk hj
    have h5 : j = 5 := by omega
    subst h5
    rw [texttoolsref20_key_L1_eq]
    have c : decide (((2 ^ 5 : Nat) : Int) ≤ 16) = false := by decide
    simp only [go_sem, c, o1]
  | succ k ih =>
    intro j hk hj
    rw [texttoolsref20_key_L1_eq]
    have hj5 : j < 5 := by omega
    have hp : 2 ^ j ≤ 16 := by
      have := Nat.pow_le_pow_right (n := 2) (by decide) (show j ≤ 4 by omega)
      omega
    have hp2 : 2 ^ (j + 1) = 2 * 2 ^ j := by rw [Nat.pow_succ]; omega
    have c : decide (((2 ^ j : Nat) : Int) ≤ 16) = true := by simp only [decide_eq_true_eq]; omega
    have hw : IntKind.i64.wrap (2 * ((2 ^ j : Nat) : Int)) = ((2 ^ (j + 1) : Nat) : Int) := by rw [wrap64 (by omega) (by omega)]; omega
    have hl : aload false 1 (.ptr 2 2) (KR z5 a b) = some (.int .i64 b.fl) := by rw [aload_f1 h2]; rfl
    have hstep : orUp a.fl b.fl (j + 1) = if b.fl.testBit j then orUp a.fl b.fl j ||| 2 ^ j else orUp a.fl b.fl j := rfl
    simp only [go_sem, c, texttoolsref20_key_J5_eq, Nat.zero_add, hl, has_ok hb hj5]
    cases hbit : b.fl.testBit j with
    | true =>
      rw [hbit] at hstep
      simp only [if_true] at hstep
      simp only [go_sem, with_ok (o2 j (by omega)) hj5, texttoolsref20_key_J6_eq, hw, ← hstep]
      exact ih (j + 1) (by omega) (by omega)
    | false =>
      rw [hbit] at hstep
      simp only [Bool.false_eq_true, if_false] at hstep
      simp only [go_sem, texttoolsref20_key_J6_eq, hw, ← hstep]
      exact ih (j + 1) (by omega) (by omega)
theorem keyRJ1 {a b : Hf} (ha : a.fl < 32) (hb : b.fl < 32) (r : List UInt8) : ∃ H', texttoolsref20_key_J1 (.str r) (.ptr 0 0) (.ptr 1 0) (.ptr 2 0) [] (KR z5 a b) = some (.tuple [.agg (keyRB a b r).1.cells, .int .i64 (keyRB a b r).2], H') := by
  rw [texttoolsref20_key_J1_eq]
  have h0 : (KR z5 a b)[0]? = some (.cells [.int .i64 0, .int .i64 0, .int .i64 0, .int .i64 0, .int .i64 0]) := rfl
  have h1 : (KR z5 a b)[1]? = some (.cells [.int .i64 a.field, .int .i64 a.chr, .int .i64 a.fl, .int .i64 a.bad, .int .i64 a.rng]) := rfl
  have h2 : (KR z5 a b)[2]? = some (.cells [.int .i64 b.field, .int .i64 b.chr, .int .i64 b.fl, .int .i64 b.bad, .int .i64 b.rng]) := rfl
  have hs : ∀ l, ((KR z5 a b).set 0 (.cells l))[0]? = some (.cells l) := fun l => get_set_self h0
  have hloop := keyR_loop ha hb [] 5 0 rfl (by omega)
  have fin : ∃ H', texttoolsref20_key_J4 (.ptr 0 0) (.ptr 1 0) (.ptr 2 0) (.int .i64 ((a.fl ||| b.fl : Nat) : Int)) [] (KR z5 a b) = some (.tuple [.agg [.int .i64 a.field, .int .i64 a.chr, .int .i64 b.field, .int .i64 b.chr, .int .i64 ((a.fl ||| b.fl : Nat) : Int)], .int .i64 0], H') := by
    rw [texttoolsref20_key_J4_eq]
    simp only [go_sem, Nat.zero_add, aload_f1 h1, aload_f1 h2, List.getElem?_cons_zero, List.getElem?_cons_succ, fill5, astore5 h0, aload5 (hs _)]
    exact ⟨_, rfl⟩
  have e2 : ∃ H', texttoolsref20_key_J2 (.ptr 0 0) (.ptr 1 0) (.ptr 2 0) [] (KR z5 a b) = some (.tuple [.agg (if (if a.rng = 0 then b.rng else a.rng) ≠ 0 then (keNil, (2 : Int)) else (⟨a.field, a.chr, b.field, b.chr, ((a.fl ||| b.fl : Nat) : Int)⟩, 0)).1.cells,
      .int .i64 (if (if a.rng = 0 then b.rng else a.rng) ≠ 0 then (keNil, (2 : Int)) else (⟨a.field, a.chr, b.field, b.chr, ((a.fl ||| b.fl : Nat) : Int)⟩, 0)).2], H') := by
    rw [texttoolsref20_key_J2_eq]
    simp only [go_sem, Nat.zero_add, aload_f1 h1, aload_f1 h2, List.getElem?_cons_zero, List.getElem?_cons_succ, both_ok]
    generalize (if a.rng = 0 then b.rng else a.rng) = R
    by_cases hR : R = 0
    · have c : (R != 0) = false := by simpa using hR
      have hl : aload false 1 (.ptr 1 2) (KR z5 a b) = some (.int .i64 a.fl) := by rw [aload_f1 h1]; rfl
      simp only [c, go_sem, texttoolsref20_key_J3_eq, Nat.zero_add, hl]
      obtain ⟨H', e⟩ := fin
      refine ⟨H', Eq.trans (Eq.trans rfl hloop) (e.trans ?_)⟩
      rw [if_neg (fun h => h hR)]
      rfl
    · have c : (R != 0) = true := by simpa using hR
      simp only [c, go_sem, astore5 h0, aload5 (hs _), if_pos hR, ne_eq, hR, not_false_eq_true, if_true]
      exact ⟨_, rfl⟩
  unfold keyRB
  simp only [go_sem, Nat.zero_add, aload_f1 h1, List.getElem?_cons_zero, List.getElem?_cons_succ]
  by_cases n1 : a.bad = 0
  · have c : (a.bad != 0) = false := by simpa using n1
    simp only [c, go_sem, Nat.zero_add, aload_f1 h2, List.getElem?_cons_zero, List.getElem?_cons_succ]
    by_cases n2 : b.bad = 0
    · have c : (b.bad != 0) = false := by simpa using n2
      simp only [c, go_sem]
      by_cases n3 : r = []
      · have c : (r == []) = true := by simpa using n3
        have hn : ¬ (a.bad ≠ 0 ∨ b.bad ≠ 0 ∨ r ≠ []) := fun h => h.elim (fun h => h n1) fun h => h.elim (fun h => h n2) fun h => h n3
        simp only [c, go_sem, Bool.not_true, if_neg hn]
        exact e2
      · have c : (r == []) = false := by simpa using n3
        have hn : (a.bad ≠ 0 ∨ b.bad ≠ 0 ∨ r ≠ []) := .inr (.inr n3)
        simp only [c, go_sem, Bool.not_false, if_pos hn, astore5 h0, aload5 (hs _)]
        exact ⟨_, rfl⟩
    · have c : (b.bad != 0) = true := by simpa using n2
      have hn : (a.bad ≠ 0 ∨ b.bad ≠ 0 ∨ r ≠ []) := .inr (.inl n2)
      simp only [c, go_sem, if_pos hn, astore5 h0, aload5 (hs _)]
      exact ⟨_, rfl⟩
  · have c : (a.bad != 0) = true := by simpa using n1
    have hn : (a.bad ≠ 0 ∨ b.bad ≠ 0 ∨ r ≠ []) := .inl n1
    simp only [c, go_sem, if_pos hn, astore5 h0, aload5 (hs _)]
    exact ⟨_, rfl⟩
theorem keyR_run {s : List UInt8} (hs : s.length ≤ 1048576) : ∃ H', C_texttoolsref20_key [.str s] [] = some (.tuple [.agg (keyR s).1.cells, .int .i64 (keyR s).2], H') := by
  rw [F_texttoolsref20_key_eq]
  unfold F_texttoolsref20_key keyR
  obtain ⟨f1, f2⟩ := halfR_facts s 1 1
  have hh := half_ok hs 1 1
  rcases ha : halfR s 1 1 with ⟨a, r⟩
  rw [ha] at f1 f2
  simp only [ha] at hh
  simp only at f1 f2
  have hb1 : ([AObj.cells z5, AObj.cells z5] : Hp)[1]? = some (.cells [AV.int .i64 0, .int .i64 0, .int .i64 0, .int .i64 0, .int .i64 0]) := rfl
  have hb2 : ([AObj.cells z5, AObj.cells a.cells, AObj.cells z5] : Hp)[2]? = some (.cells [AV.int .i64 0, .int .i64 0, .int .i64 0, .int .i64 0, .int .i64 0]) := rfl
  unfold z5 at hb1 hb2
  unfold Hf.cells at hb2
  simp only [bnd_some, List.length_nil, List.nil_append, hh, go_sem, List.getElem?_cons_zero, List.getElem?_cons_succ, List.length_cons, Nat.zero_add, List.cons_append, Hf.cells, astore5 hb1, List.set_cons_succ, List.set_cons_zero, Nat.reduceAdd, astore5 hb2]
  have hK : ([AObj.cells [AV.int .i64 0, .int .i64 0, .int .i64 0, .int .i64 0, .int .i64 0], AObj.cells [AV.int .i64 a.field, .int .i64 a.chr, .int .i64 a.fl, .int .i64 a.bad, .int .i64 a.rng], AObj.cells [AV.int .i64 0, .int .i64 0, .int .i64 0, .int .i64 0, .int .i64 0]] : Hp) = KR z5 a hf0 := rfl
  rw [hK]
  have h1 : (KR z5 a hf0)[1]? = some (.cells [.int .i64 a.field, .int .i64 a.chr, .int .i64 a.fl, .int .i64 a.bad, .int .i64 a.rng]) := rfl
  simp only [aload_f1 h1, List.getElem?_cons_zero, List.getElem?_cons_succ, go_sem, keyRT]
  have plain := keyRJ1 (a := a) (b := hf0) f1 (by decide) r
  by_cases hbad : a.bad = 0
  · have c : (a.bad == 0) = true := by simpa using hbad
    simp only [c, go_sem]
    cases r with
    | nil =>
      have c2 : decide ((0 : Int) < ((([] : List UInt8).length : Nat) : Int)) = false := by decide
      have hne : ¬ (a.bad = 0 ∧ ([] : List UInt8).head? = some 44) := fun h => by cases h.2
      simp only [c2, go_sem, if_neg hne]
      exact plain
    | cons x r' =>
      have c2 : decide ((0 : Int) < (((x :: r').length : Nat) : Int)) = true := by simp only [List.length_cons, decide_eq_true_eq]; omega
      have hix : aindexStr (.str (x :: r')) (.int .i64 0) = some (.int .u8 x.toNat) := aindexStr_of (s := x :: r') (i := 0) rfl
      have c3 : ((x.toNat : Int) == 44) = (x == 44) := u8eq x 44 (by decide)
      simp only [c2, go_sem, hix, c3]
      by_cases hx : x = 44
      · subst hx
        have c4 : ((44 : UInt8) == 44) = true := rfl
        have hsl := asliceS_lo (s := 44 :: r') (n := (1 : Int)) .i64 (by omega) (by simp only [List.length_cons]; omega)
        rw [show ((1 : Int)).toNat = 1 from rfl, List.drop_one, List.tail_cons] at hsl
        have hpos : (a.bad = 0 ∧ (44 :: r').head? = some 44) := ⟨hbad, rfl⟩
        obtain ⟨g1, g2⟩ := halfR_facts r' 0 0
        have hh2 := half_ok (s := r') (by simp at f2; omega) 0 0
        rcases hb : halfR r' 0 0 with ⟨b, r2⟩
        rw [hb] at g1 g2
        simp only [hb] at hh2
        simp only at g1
        have hk2 : (KR z5 a hf0)[2]? = some (.cells [.int .i64 0, .int .i64 0, .int .i64 ((0 : Nat) : Int), .int .i64 0, .int .i64 0]) := rfl
        have hset : (KR z5 a hf0).set 2 (.cells [.int .i64 b.field, .int .i64 b.chr, .int .i64 b.fl, .int .i64 b.bad, .int .i64 b.rng]) = KR z5 a b := rfl
        simp only [Hf.cells] at hh2
        simp only [c4, go_sem, hsl, hh2, List.getElem?_cons_zero, List.getElem?_cons_succ, if_pos hpos, List.tail_cons, hb, astore5 hk2, hset]
        exact keyRJ1 f1 g1 r2
      · have c4 : (x == 44) = false := by simpa using hx
        have hne : ¬ (a.bad = 0 ∧ (x :: r').head? = some 44) := fun h => by have := h.2; simp at this; exact hx this
        simp only [c4, go_sem, if_neg hne]
        exact plain
  · have c : (a.bad == 0) = false := by simpa using hbad
    have hne : ¬ (a.bad = 0 ∧ r.head? = some 44) := fun h => hbad h.1
    simp only [c, go_sem, if_neg hne]
    exact plain
theorem keyR_ok {s : List UInt8} (hs : s.length ≤ 1048576) (H : Hp) : flatC C_texttoolsref20_key [.str s] H = some (.tuple [.agg (keyR s).1.cells, .int .i64 (keyR s).2], H) := by
  obtain ⟨H', h⟩ := keyR_run hs
  exact flat1 (a' := .str s) rfl h rfl
end Go.Am
namespace Go.Am
open Go.Proofs
set_option linter.unusedSimpArgs false
set_option linter.unusedVariables false

theorem numP_cases (k : List UInt8) : (numP k).2 = 0 ∨ ((numP k).2 = 1 ∧ (numP k).1 = 0) ∨ ((numP k).2 = 9 ∧ (numP k).1 = 0) := by
  unfold numP
  split
  · split
    · exact .inl rfl
    · exact .inr (.inr ⟨rfl, rfl⟩)
  · exact .inr (.inl ⟨rfl, rfl⟩)
theorem num_rel (s : List UInt8) : (∃ r, numberS s = (0, r, false, false) ∧ ∀ l, numberR s l = (0, s, 1, 0)) ∨
    (∃ v r, 0 ≤ v ∧ numberS s = (v, r, true, false) ∧ ∀ l, numberR s l = (v, r, 0, if v < l then 2 else 0)) ∨
    (∃ r, numberS s = (1, r, true, true) ∧ ∀ l, numberR s l = (0, r, 0, 2)) := by
  have hnn := numP_fst (s.take (digN s))
  unfold numberS numberR
  rcases numP_cases (s.take (digN s)) with h | ⟨h, h0⟩ | ⟨h, h0⟩
  · refine .inr (.inl ⟨(numP (s.take (digN s))).1, s.drop (digN s), hnn.1, ?_, fun l => ?_⟩)
    · rw [if_neg (by omega), h]; rfl
    · rw [if_neg (by omega), h]
      simp
  · refine .inl ⟨s.drop (digN s), ?_, fun l => ?_⟩
    · rw [if_neg (by omega), h, h0]; rfl
    · rw [if_pos h]
  · refine .inr (.inr ⟨s.drop (digN s), ?_, fun l => ?_⟩)
    · rw [if_pos h]
    · rw [if_neg (by omega), h, h0]
      simp
/-- How the two ways to read a part of a key fit. -/
structure Fit (c l : Int) (a : Pl) (r : List UInt8) (h : Hf) (r' : List UInt8) : Prop where
  bad : h.bad = 0
  rest : r' = r
  fl : h.fl = a.fl
  rng : h.rng = 0 ↔ ¬ (a.big = true ∨ a.field < 1 ∨ (a.pt = true ∧ a.chr < l))
  field : h.rng = 0 → h.field = a.field
  chr : h.rng = 0 → h.chr = if a.pt then a.chr else c
theorem half_rel (s : List UInt8) (c l : Int) (hl : l ≤ 1) : ((readS s).2.2 = false ∧ (halfR s c l).1.bad ≠ 0) ∨
    ((readS s).2.2 = true ∧ Fit c l (readS s).1 (readS s).2.1 (halfR s c l).1 (halfR s c l).2 ∧ ((readS s).1.pt = false → (readS s).1.chr = 0)) := by
  unfold readS halfR
  rcases num_rel s with ⟨r, h1, h2⟩ | ⟨v, r, hv, h1, h2⟩ | ⟨r, h1, h2⟩
  · left
    rw [h1, h2]
    simp [readT, halfT]
  · rw [h1, h2]
    by_cases hd : r.head? = some 46
    · have c1 : ((some (46 : UInt8)) == some 46) = true := rfl
      simp only [readT, halfT, hd, c1, Bool.and_self, if_true, and_self]
      rcases num_rel r.tail with ⟨r2, g1, g2⟩ | ⟨v2, r2, hv2, g1, g2⟩ | ⟨r2, g1, g2⟩
      · left
        rw [g1, g2]
        simp [readU, halfU]
      · right
        rw [g1, g2]
        simp only [readU, halfU, if_true]
        refine ⟨trivial, ⟨rfl, rfl, rfl, ?_, fun _ => rfl, fun _ => rfl⟩, fun h => by cases h⟩
        simp only [Bool.or_self, Bool.false_eq_true, false_or, true_and]
        by_cases e1 : v < 1
        · simp [e1]
        · by_cases e2 : v2 < l <;> simp [e1, e2]
      · right
        rw [g1, g2]
        simp only [readU, halfU, if_true]
        refine ⟨trivial, ⟨rfl, rfl, rfl, ?_, fun _ => rfl, fun h => ?_⟩, fun h => by cases h⟩
        · simp only [Bool.false_or, true_or, not_true_eq_false, iff_false]
          by_cases e1 : v < 1 <;> simp [e1]
        · exfalso
          revert h
          by_cases e1 : v < 1 <;> simp [e1]
    · have c1 : (r.head? == some 46) = false := by simpa using hd
      right
      simp only [readT, halfT, c1, Bool.and_false, Bool.false_eq_true, if_false, if_true, hd, and_false]
      refine ⟨trivial, ⟨rfl, rfl, rfl, ?_, fun _ => rfl, fun _ => rfl⟩, fun _ => trivial⟩
      by_cases e1 : v < 1 <;> simp [e1]
  · rw [h1, h2]
    by_cases hd : r.head? = some 46
    · have c1 : ((some (46 : UInt8)) == some 46) = true := rfl
      simp only [readT, halfT, hd, c1, Bool.and_self, if_true, and_self]
      rcases num_rel r.tail with ⟨r2, g1, g2⟩ | ⟨v2, r2, hv2, g1, g2⟩ | ⟨r2, g1, g2⟩
      · left
        rw [g1, g2]
        simp [readU, halfU]
      · right
        rw [g1, g2]
        simp only [readU, halfU, if_true]
        refine ⟨trivial, ⟨rfl, rfl, rfl, by simp, fun h => by simp at h, fun h => by simp at h⟩, fun h => by cases h⟩
      · right
        rw [g1, g2]
        simp only [readU, halfU, if_true]
        refine ⟨trivial, ⟨rfl, rfl, rfl, by simp, fun h => by simp at h, fun h => by simp at h⟩, fun h => by cases h⟩
    · have c1 : (r.head? == some 46) = false := by simpa using hd
      right
      simp only [readT, halfT, c1, Bool.and_false, Bool.false_eq_true, if_false, if_true, hd, and_false]
      refine ⟨trivial, ⟨rfl, rfl, rfl, by simp, fun h => by simp at h, fun h => by simp at h⟩, fun _ => trivial⟩
theorem keyB_eq {a : Pl} {h : Hf} {r r' : List UInt8} (fa : Fit 1 1 a r h r') {b : Pl} {g : Hf} {sec : Bool} (hbad : g.bad = 0) (hfl : g.fl = b.fl)
    (hrng : g.rng = 0 ↔ ¬ (b.big = true ∨ (sec = true ∧ b.field < 1))) (hv : g.rng = 0 → g.field = b.field ∧ g.chr = b.chr) : keyRB h g [] = keyB a b sec := by
  unfold keyRB keyB
  have hn : ¬ (h.bad ≠ 0 ∨ g.bad ≠ 0 ∨ ([] : List UInt8) ≠ []) := fun e => e.elim (fun e => e fa.bad) fun e => e.elim (fun e => e hbad) fun e => e rfl
  rw [if_neg hn]
  have hiff : ((if h.rng = 0 then g.rng else h.rng) ≠ 0) ↔ ((a.big || (b.big || (decide (a.field < 1) || (decide ((if a.pt then a.chr else 1) < 1) || (sec && decide (b.field < 1)))))) = true) := by
    simp only [Bool.or_eq_true, decide_eq_true_eq, Bool.and_eq_true]
    have e1 : ((if a.pt = true then a.chr else 1) < 1) ↔ (a.pt = true ∧ a.chr < 1) := by
      cases a.pt <;> simp
    rw [e1]
    by_cases h0 : h.rng = 0
    · rw [if_pos h0]
      have := fa.rng.1 h0
      constructor
      · intro hg
        have : (b.big = true ∨ (sec = true ∧ b.field < 1)) := Classical.not_not.1 fun e => hg (hrng.2 e)
        rcases this with e | e
        · exact .inr (.inl e)
        · exact .inr (.inr (.inr (.inr e)))
      · intro hg e
        have h2 := hrng.1 e
        rcases hg with e | e | e | e | e
        · exact this (.inl e)
        · exact h2 (.inl e)
        · exact this (.inr (.inl e))
        · exact this (.inr (.inr e))
        · exact h2 (.inr e)
    · rw [if_neg h0]
      have : (a.big = true ∨ a.field < 1 ∨ (a.pt = true ∧ a.chr < 1)) := Classical.not_not.1 fun e => h0 (fa.rng.2 e)
      constructor
      · intro _
        rcases this with e | e | e
        · exact .inl e
        · exact .inr (.inr (.inl e))
        · exact .inr (.inr (.inr (.inl e)))
      · intro _ e
        exact h0 e
  by_cases hR : (if h.rng = 0 then g.rng else h.rng) ≠ 0
  · rw [if_pos hR, if_pos (hiff.1 hR)]
  · rw [if_neg hR, if_neg (fun e => hR (hiff.2 e))]
    have h0 : h.rng = 0 := by
      by_cases e : h.rng = 0
      · exact e
      · rw [if_neg e] at hR; exact absurd e hR
    rw [if_pos h0] at hR
    have g0 : g.rng = 0 := Classical.not_not.1 hR
    obtain ⟨v1, v2⟩ := hv g0
    rw [fa.field h0, fa.chr h0, v1, v2, fa.fl, hfl]
theorem keyR_eq (s : List UInt8) : keyR s = keyP s := by
  unfold keyR keyP
  have h1 := half_rel s 1 1 (by omega)
  rcases ha : readS s with ⟨a, r, ok⟩
  rcases hh : halfR s 1 1 with ⟨h, r'⟩
  rw [ha, hh] at h1
  simp only at h1
  simp only [keyT, keyRT]
  rcases h1 with ⟨rfl, hb⟩ | ⟨rfl, fa, _⟩
  · have hn : ¬ (h.bad = 0 ∧ r'.head? = some 44) := fun e => hb e.1
    rw [if_neg hn]
    simp only [Bool.false_and, Bool.false_eq_true, if_false, keyA, keyRB]
    rw [if_pos (.inl hb)]
  · have er := fa.rest
    subst er
    simp only [Bool.true_and]
    by_cases hd : r'.head? = some 44
    · have c1 : (r'.head? == some 44) = true := by simpa using hd
      rw [if_pos ⟨fa.bad, hd⟩, if_pos c1]
      have h2 := half_rel r'.tail 0 0 (by omega)
      rcases hb : readS r'.tail with ⟨b, r2, ok2⟩
      rcases hg : halfR r'.tail 0 0 with ⟨g, r2'⟩
      have hnn := readS_nn r'.tail
      rw [hb] at hnn
      rw [hb, hg] at h2
      simp only at h2 hnn ⊢
      simp only [keyU, keyA]
      rcases h2 with ⟨rfl, hbd⟩ | ⟨rfl, fb, hpt⟩
      · simp only [Bool.false_and, Bool.false_eq_true, if_false, keyRB]
        rw [if_pos (.inr (.inl hbd))]
      · have er2 := fb.rest
        subst er2
        simp only [Bool.true_and]
        by_cases hr : r2' = []
        · subst hr
          rw [if_pos (by rfl)]
          refine keyB_eq fa fb.bad fb.fl ?_ fun e => ⟨fb.field e, ?_⟩
          · rw [fb.rng]
            constructor
            · intro h e
              rcases e with e | e
              · exact h (.inl e)
              · exact h (.inr (.inl e.2))
            · intro h e
              rcases e with e | e | e
              · exact h (.inl e)
              · exact h (.inr ⟨rfl, e⟩)
              · omega
          · rw [fb.chr e]
            cases hp : b.pt with
            | true => rfl
            | false => simp [hpt hp]
        · have c2 : (r2' == []) = false := by simpa using hr
          rw [c2]
          simp only [Bool.false_eq_true, if_false, keyRB]
          rw [if_pos (.inr (.inr hr))]
    · have c1 : (r'.head? == some 44) = false := by simpa using hd
      have hn : ¬ (h.bad = 0 ∧ r'.head? = some 44) := fun e => hd e.2
      rw [if_neg hn, c1]
      simp only [Bool.false_eq_true, if_false, keyA, Bool.true_and]
      by_cases hr : r' = []
      · subst hr
        rw [if_pos (by rfl)]
        exact keyB_eq fa rfl rfl (by simp [hf0, pl0]) fun _ => ⟨rfl, rfl⟩
      · have c2 : (r' == []) = false := by simpa using hr
        rw [c2]
        simp only [Bool.false_eq_true, if_false, keyRB]
        rw [if_pos (.inr (.inr hr))]
end Go.Am
namespace Go.Am
open Go.Proofs
set_option linter.unusedSimpArgs false
set_option linter.unusedVariables false

/-- All that was there is there. -/
def Ka (H H' : Hp) : Prop := ∀ (i : Nat) (x : AObj), H[i]? = some x → H'[i]? = some x
/-- All but rights to append is as it was. -/
def Kp (H H' : Hp) : Prop := ∀ (i : Nat) (x : AObj), H[i]? = some x → (∀ e, x ≠ .tok e) → H'[i]? = some x
theorem Ka.refl (H : Hp) : Ka H H := fun _ _ h => h
theorem Ka.trans {A B C : Hp} (h : Ka A B) (k : Ka B C) : Ka A C := fun i x e => k i x (h i x e)
theorem Ka.push (H l : Hp) : Ka H (H ++ l) := fun i x h => get_push h l
theorem Ka.set {H H1 : Hp} (h : Ka H H1) {o : Nat} (ho : H.length ≤ o) (x : AObj) : Ka H (H1.set o x) := fun i y e => get_set_ne x (by have := lt_of_get e; omega) (h i y e)
theorem Ka.kp {H H' : Hp} (h : Ka H H') : Kp H H' := fun i x e _ => h i x e
theorem Kp.trans {A B C : Hp} (h : Kp A B) (k : Kp B C) : Kp A C := fun i x e he => k i x (h i x e he) he
theorem Kp.set {H H1 : Hp} (h : Kp H H1) {o : Nat} (ho : H.length ≤ o) (x : AObj) : Kp H (H1.set o x) := fun i y e he => get_set_ne x (by have := lt_of_get e; omega) (h i y e he)
theorem Kp.cells {H H' : Hp} (h : Kp H H') {i : Nat} {l : List AV} (e : H[i]? = some (.cells l)) : H'[i]? = some (.cells l) := h i _ e (fun _ he => by cases he)
theorem Row.ka {H H' : Hp} {k : Nat} {x : AV} {l : List AV} (h : Row H k x l) (hk : Ka H H') : Row H' k x l := h.mono fun i e hi => hk i _ hi

def pC (kx : AV) (st : Rs) : List AV := [kx, .int .i64 st.sep, .int .i64 st.flags, .bool st.uniq, .bool st.stab]
def zP : List AV := [.nils, .int .i64 0, .int .i64 0, .bool false, .bool false]
def simR (st : Rs) (c : UInt8) : Rs × Bool :=
  if flagV c ≠ 0 then ({ st with flags := st.flags ||| flagV c }, true) else if c = 117 then ({ st with uniq := true }, true) else if c = 115 then ({ st with stab := true }, true) else (st, false)
theorem simple_end {H : Hp} {o o2 : Nat} {a b c d e a' b' c' d' e' : AV} (H0 : Hp) (h : H[o]? = some (.cells [a, b, c, d, e])) (h2 : H[o2]? = some (.cells [a', b', c', d', e'])) :
    texttoolsref20_simple_J1 (.ptr o 0) (.ptr o2 0) H0 H = some (.tuple [.agg [a, b, c, d, e], .bool true], H.set o2 (.cells [a, b, c, d, e])) := by
  rw [texttoolsref20_simple_J1_eq]
  simp only [aload5 h, go_sem, astore5 h2, aload5 (get_set_self h2)]
theorem simple_spec {st : Rs} (hf : st.flags < 32) (kx : AV) (c : UInt8) (H : Hp) :
    ∃ H', C_texttoolsref20_simple [.agg (pC kx st), .int .u8 c.toNat] H = some (.tuple [.agg (pC kx (simR st c).1), .bool (simR st c).2], H') ∧ Ka H H' := by
  rw [F_texttoolsref20_simple_eq]
  unfold F_texttoolsref20_simple
  simp only [go_sem]
  have h1 : (H ++ [AObj.cells (pC kx st)] ++ [AObj.cells zP])[H.length]? = some (.cells (pC kx st)) := by simp
  have h2 : (H ++ [AObj.cells (pC kx st)] ++ [AObj.cells zP])[(H ++ [AObj.cells (pC kx st)]).length]? = some (.cells zP) := by simp
  have hk : Ka H (H ++ [AObj.cells (pC kx st)] ++ [AObj.cells zP]) := (Ka.push _ _).trans (Ka.push _ _)
  have hl2 : H.length + 1 = (H ++ [AObj.cells (pC kx st)]).length := by simp
  unfold zP at h1 h2 hk
  generalize H ++ [AObj.cells (pC kx st)] ++ [AObj.cells [.nils, .int .i64 0, .int .i64 0, .bool false, .bool false]] = G at h1 h2 hk ⊢
  generalize (H ++ [AObj.cells (pC kx st)]).length = o2 at h2 hl2 ⊢
  have hne : H.length ≠ o2 := by omega
  have e117 : ((c.toNat : Int) == 117) = (c == 117) := u8eq c 117 (by decide)
  have e115 : ((c.toNat : Int) == 115) = (c == 115) := u8eq c 115 (by decide)
  simp only [rflag_spec, go_sem, e117, e115, Nat.zero_add, simR]
  by_cases hz : flagV c = 0
  · have c2 : (((flagV c : Nat) : Int) != 0) = false := by simp; omega
    have hnz : ¬ flagV c ≠ 0 := by omega
    simp only [c2, go_sem, if_neg hnz]
    by_cases hu : c = 117
    · have d : (c == 117) = true := by simpa using hu
      simp only [d, go_sem, if_pos hu]
      rw [astore1 h1 rfl rfl (by simp [pC])]
      simp only [go_sem]
      have h3 := fun y => get_set_self (y := AObj.cells y) h1
      have h4 := fun y => get_set_ne (AObj.cells y) hne h2
      simp only [pC, List.set_cons_succ, List.set_cons_zero]
      rw [simple_end H (h3 _) (h4 _)]
      exact ⟨_, rfl, (hk.set (Nat.le_refl _) _).set (by omega) _⟩
    have d : (c == 117) = false := by simpa using hu
    simp only [d, go_sem, if_neg hu]
    by_cases hs : c = 115
    · have d : (c == 115) = true := by simpa using hs
      simp only [d, go_sem, if_pos hs]
      rw [astore1 h1 rfl rfl (by simp [pC])]
      simp only [go_sem]
      have h3 := fun y => get_set_self (y := AObj.cells y) h1
      have h4 := fun y => get_set_ne (AObj.cells y) hne h2
      simp only [pC, List.set_cons_succ, List.set_cons_zero]
      rw [simple_end H (h3 _) (h4 _)]
      exact ⟨_, rfl, (hk.set (Nat.le_refl _) _).set (by omega) _⟩
    have d : (c == 115) = false := by simpa using hs
    unfold pC at h1 ⊢
    simp only [d, go_sem, if_neg hs, aload5 h1, astore5 h2, aload5 (get_set_self h2)]
    exact ⟨_, rfl, hk.set (by omega) _⟩
  · have c2 : (((flagV c : Nat) : Int) != 0) = true := by simp; omega
    have hl : aload false 1 (.ptr H.length 2) G = some (.int .i64 st.flags) := by rw [aload_f1 h1]; rfl
    have hnz : flagV c ≠ 0 := hz
    simp only [c2, go_sem, if_pos hnz, hl, rflag_spec, withf_ok hf hnz]
    rw [astore1 h1 rfl rfl (by simp [pC])]
    simp only [go_sem]
    have h3 := fun y => get_set_self (y := AObj.cells y) h1
    have h4 := fun y => get_set_ne (AObj.cells y) hne h2
    simp only [pC, List.set_cons_succ, List.set_cons_zero]
    rw [simple_end H (h3 _) (h4 _)]
    exact ⟨_, rfl, (hk.set (Nat.le_refl _) _).set (by omega) _⟩

/-! ### With a value -/
def valR (st : Rs) (c : UInt8) (v : List UInt8) : Rs × Int :=
  if c = 116 then sepOp st v else if 8 ≤ st.keys.length then (st, 3) else ({ st with keys := st.keys ++ [(keyP v).1] }, (keyP v).2)
theorem valued_spec {st : Rs} {kx : AV} {H : Hp} (hk : Row H 5 kx (st.keys.map Ke.av)) (hkl : st.keys.length ≤ 8) {v : List UInt8} (hv : v.length ≤ 1048576) (c : UInt8) :
    ∃ kx' H', C_texttoolsref20_valued [.agg (pC kx st), .int .u8 c.toNat, .str v] H = some (.tuple [.agg (pC kx' (valR st c v).1), .int .i64 (valR st c v).2], H') ∧
      Row H' 5 kx' ((valR st c v).1.keys.map Ke.av) ∧ Kp H H' := by
  rw [F_texttoolsref20_valued_eq]
  unfold F_texttoolsref20_valued
  simp only [go_sem]
  have h1 : (H ++ [AObj.cells (pC kx st)] ++ [AObj.cells zP])[H.length]? = some (.cells (pC kx st)) := by simp
  have h2 : (H ++ [AObj.cells (pC kx st)] ++ [AObj.cells zP])[(H ++ [AObj.cells (pC kx st)]).length]? = some (.cells zP) := by simp
  have hka : Ka H (H ++ [AObj.cells (pC kx st)] ++ [AObj.cells zP]) := (Ka.push _ _).trans (Ka.push _ _)
  have hl2 : H.length + 1 = (H ++ [AObj.cells (pC kx st)]).length := by simp
  unfold zP at h1 h2 hka
  generalize H ++ [AObj.cells (pC kx st)] ++ [AObj.cells [.nils, .int .i64 0, .int .i64 0, .bool false, .bool false]] = G at h1 h2 hka ⊢
  generalize (H ++ [AObj.cells (pC kx st)]).length = o2 at h2 hl2 ⊢
  have hne : H.length ≠ o2 := by omega
  have e116 : ((c.toNat : Int) == 116) = (c == 116) := u8eq c 116 (by decide)
  simp only [e116, valR]
  have h1' := h1
  unfold pC at h1'
  have same : ∀ e : Int, ∃ kx' H', (bnd (aload true 5 (.ptr H.length 0) G) fun t => bnd (astoreU 5 (.ptr o2 0) t G) fun r => bnd (aload true 5 (.ptr o2 0) r.2) fun v6 => some (AV.tuple [v6, .int .i64 e], r.2)) = some (.tuple [.agg (pC kx' st), .int .i64 e], H') ∧ Row H' 5 kx' (st.keys.map Ke.av) ∧ Kp H H' := by
    intro e
    simp only [aload5 h1', go_sem, astore5 h2, aload5 (get_set_self h2)]
    exact ⟨kx, _, rfl, row_set (hk.ka hka) h2 _, (hka.set (by omega) _).kp⟩
  by_cases hc : c = 116
  · have d : (c == 116) = true := by simpa using hc
    simp only [d, go_sem, if_pos hc]
    by_cases hl : v.length = 1
    · obtain ⟨b, rfl⟩ : ∃ b, v = [b] := by
        match v, hl with
        | [b], _ => exact ⟨b, rfl⟩
      have c0 : ((([b] : List UInt8).length : Nat) : Int) = 1 := rfl
      have c1 : (((1 : Int)) != 1) = false := rfl
      have hix : aindexStr (.str [b]) (.int .i64 0) = some (.int .u8 b.toNat) := aindexStr_of (s := [b]) (i := 0) rfl
      have e10 : ((b.toNat : Int) == 10) = (b == 10) := u8eq b 10 (by decide)
      have hcv : cvInt .i64 (.int .u8 (b.toNat : Int)) = some (.int .i64 (b.toNat : Int)) := by
        have := b.toNat_lt
        simp only [cvInt]
        rw [wrap64 (by omega) (by omega)]
      simp only [go_sem, c0, c1, hix, e10, sepOp]
      by_cases hb : b = 10
      · have c3 : (b == 10) = true := by simpa using hb
        simp only [c3, go_sem, if_pos hb]
        exact same 18
      · have c3 : (b == 10) = false := by simpa using hb
        simp only [c3, go_sem, if_neg hb, texttoolsref20_valued_J3_eq, hix, hcv, Nat.zero_add]
        rw [astore1 h1 rfl rfl (by simp [pC])]
        have h3 := get_set_self (y := AObj.cells ((pC kx st).set 1 (.int .i64 (b.toNat : Int)))) h1
        have h4 := get_set_ne (AObj.cells ((pC kx st).set 1 (.int .i64 (b.toNat : Int)))) hne h2
        simp only [pC, List.set_cons_succ, List.set_cons_zero] at h3 h4 ⊢
        simp only [go_sem, aload5 h3, astore5 h4, aload5 (get_set_self h4)]
        exact ⟨kx, _, rfl, row_set (row_set (hk.ka hka) h1 _) h4 _, ((hka.set (Nat.le_refl _) _).set (by omega) _).kp⟩
    · have c1 : (((v.length : Nat) : Int) != 1) = true := by simp; omega
      have hs : sepOp st v = (st, 18) := by
        unfold sepOp
        split
        · simp at hl
        · rfl
      rw [hs]
      simp only [go_sem, c1]
      exact same 18
  · have d : (c == 116) = false := by simpa using hc
    have hlen := hk.len 34
    rw [List.length_map] at hlen
    have hkx : aload false 1 (.ptr H.length 0) G = some kx := by rw [aload_f1 h1]; rfl
    simp only [d, go_sem, if_neg hc, texttoolsref20_valued_J1_eq, Nat.zero_add, hkx, hlen]
    by_cases h8 : 8 ≤ st.keys.length
    · have c8 : decide ((8 : Int) ≤ (st.keys.length : Int)) = true := by simp; omega
      simp only [c8, go_sem, if_pos h8]
      exact same 3
    · have c8 : decide ((8 : Int) ≤ (st.keys.length : Int)) = false := by simp; omega
      simp only [c8, go_sem, if_neg h8, texttoolsref20_valued_J2_eq, keyR_ok hv, keyR_eq, List.getElem?_cons_zero, List.getElem?_cons_succ]
      simp only [astore_last5 G (keyP v).1 [.int .i64 0, .int .i64 0, .int .i64 0, .int .i64 0, .int .i64 0] rfl, go_sem, Nat.zero_add]
      have hpu : Ka G (G ++ [AObj.cells (keyP v).1.cells]) := Ka.push _ _
      have hk1 := (hk.ka hka).ka hpu
      obtain ⟨x', H', g1, g2, g3, g4, g5⟩ := hk1.app 40 (.vs 5 .clip [.agg (keyP v).1.cells]) [.agg (keyP v).1.cells] (by simp [elems]) (by simp; omega)
      have hal : aload true 5 (.ptr G.length 0) (G ++ [.cells (keyP v).1.cells]) = some (.agg (keyP v).1.cells) := aload_last5 G _ _ _ _ _
      have hkx2 : aload false 1 (.ptr H.length 0) (G ++ [.cells (keyP v).1.cells]) = some kx := by rw [aload_f1 (hpu _ _ h1)]; rfl
      have hkp : Kp (G ++ [AObj.cells (keyP v).1.cells]) H' := fun i x hx hnt => g5 i x (fun t e he hit => by
        subst hit
        rcases hk1 with ⟨q1, _⟩ | ⟨t', e', q1, q2⟩
        · rw [q1] at he; cases he
        · rw [q1] at he
          injection he with _ he _
          injection he with he _
          subst he
          rw [q2] at hx
          injection hx with hx
          exact hnt _ hx.symm) hx
      have h3 := hkp.cells (hpu _ _ h1)
      have h4 := hkp.cells (hpu _ _ h2)
      simp only [hkx2, hal, set_ke, g1, go_sem]
      have hxk : x'.known = true ∧ x'.cells = [x'] := by rcases g2 with ⟨rfl, _⟩ | ⟨t, e, rfl, _⟩ <;> exact ⟨rfl, rfl⟩
      rw [astore1 (v := x') h3 hxk.1 hxk.2 (by simp [pC])]
      have h5 := get_set_self (y := AObj.cells ((pC kx st).set 0 x')) h3
      have h6 := get_set_ne (AObj.cells ((pC kx st).set 0 x')) hne h4
      simp only [pC, List.set_cons_succ, List.set_cons_zero] at h5 h6 ⊢
      simp only [go_sem, aload5 h5, astore5 h6, aload5 (get_set_self h6)]
      refine ⟨x', _, rfl, ?_, (((hka.trans hpu).kp.trans hkp).set (Nat.le_refl _) _).set (by omega) _⟩
      rw [List.map_append]
      exact row_set (row_set g2 h3 _) h6 _
end Go.Am
namespace Go.Am
open Go.Proofs
set_option linter.unusedSimpArgs false
set_option linter.unusedVariables false

def Kx (o o2 : Nat) (H H' : Hp) : Prop := ∀ (i : Nat) (x : AObj), i ≠ o → i ≠ o2 → H[i]? = some x → (∀ e, x ≠ .tok e) → H'[i]? = some x
theorem Kp.kx {H H' : Hp} (h : Kp H H') (o o2 : Nat) : Kx o o2 H H' := fun i x _ _ e he => h i x e he
theorem Kx.trans {o o2 : Nat} {A B C : Hp} (h : Kx o o2 A B) (k : Kx o o2 B C) : Kx o o2 A C := fun i x h1 h2 e he => k i x h1 h2 (h i x h1 h2 e he) he
theorem Kx.set1 {o o2 : Nat} {A B : Hp} (h : Kx o o2 A B) (x : AObj) : Kx o o2 A (B.set o x) := fun i y h1 h2 e he => get_set_ne x (Ne.symm h1) (h i y h1 h2 e he)
theorem Kx.set2 {o o2 : Nat} {A B : Hp} (h : Kx o o2 A B) (x : AObj) : Kx o o2 A (B.set o2 x) := fun i y h1 h2 e he => get_set_ne x (Ne.symm h2) (h i y h1 h2 e he)
theorem valR_fit {st : Rs} (hkl : st.keys.length ≤ 8) (b : UInt8) (v : List UInt8) : (valR st b v).2 = (if b = 116 then sepOp st v else keyOp st v).2 ∧
    ((if b = 116 then sepOp st v else keyOp st v).2 = 0 → (valR st b v).1 = (if b = 116 then sepOp st v else keyOp st v).1) ∧ (if b = 116 then sepOp st v else keyOp st v).1.at_ = st.at_ := by
  unfold valR
  by_cases h : b = 116
  · simp only [if_pos h]
    exact ⟨trivial, fun _ => trivial, sepOp_at st v⟩
  · simp only [if_neg h]
    refine ⟨?_, ?_, keyOp_at st v⟩
    · unfold keyOp
      by_cases h8 : st.keys.length = 8
      · have c8 : 8 ≤ st.keys.length := by omega
        simp only [if_pos h8, if_pos c8]
      · have c8 : ¬ 8 ≤ st.keys.length := by omega
        simp only [if_neg h8, if_neg c8]
        by_cases he : (keyP v).2 = 0
        · simp only [if_pos he]; exact he
        · simp only [if_neg he]
    · unfold keyOp
      by_cases h8 : st.keys.length = 8
      · have c8 : 8 ≤ st.keys.length := by omega
        simp only [if_pos h8, if_pos c8]
        exact fun _ => trivial
      · have c8 : ¬ 8 ≤ st.keys.length := by omega
        simp only [if_neg h8, if_neg c8]
        by_cases he : (keyP v).2 = 0
        · simp only [if_pos he]; exact fun _ => trivial
        · simp only [if_neg he]; exact fun h => absurd h he

theorem simR_opt (args : List (List UInt8)) {z : UInt8} (h : ¬ (z = 116 ∨ z = 107)) (r : List UInt8) (st : Rs) : (optS args (z :: r) st = if (simR st z).2 then optS args r (simR st z).1 else (st, 18)) ∧ (simR st z).1.at_ = st.at_ ∧ (simR st z).1.keys = st.keys ∧ (st.flags < 32 → (simR st z).1.flags < 32) := by
  rw [optS_cons]
  unfold simR
  by_cases h1 : flagV z ≠ 0
  · simp only [if_pos h1]
    exact ⟨rfl, trivial, trivial, fun hf => (or_ok hf (flagV_lt z)).2⟩
  · simp only [if_neg h1]
    by_cases h2 : z = 117
    · simp only [if_pos h2]; exact ⟨rfl, trivial, trivial, fun h => h⟩
    · simp only [if_neg h2]
      by_cases h3 : z = 115
      · simp only [if_pos h3]; exact ⟨rfl, trivial, trivial, fun h => h⟩
      · simp only [if_neg h3, if_neg h]
        exact ⟨rfl, trivial, trivial, fun h => h⟩
section
variable {args : List (List UInt8)} {ax : AV} {o3 o6 : Nat} {s : List UInt8} (H0 : Hp)
/-- The end: the specification as it lies in object o3 goes out by object o6. -/
theorem opt_out {H : Hp} {st : Rs} {kx a b c d e : AV} (hne : o3 ≠ o6) (h3 : H[o3]? = some (.cells (pC kx st))) (h6 : H[o6]? = some (.cells [a, b, c, d, e])) (hk : Row H 5 kx (st.keys.map Ke.av)) (n : AV) (er : Int) :
    ∃ H', (bnd (aload true 5 (.ptr o3 0) H) fun t => bnd (astoreU 5 (.ptr o6 0) t H) fun r => bnd (aload true 5 (.ptr o6 0) r.2) fun v6 => some (AV.tuple [v6, n, .int .i64 er], r.2)) = some (.tuple [.agg (pC kx st), n, .int .i64 er], H') ∧
      Row H' 5 kx (st.keys.map Ke.av) ∧ Kx o3 o6 H H' := by
  unfold pC at h3 ⊢
  simp only [aload5 h3, go_sem, astore5 h6, aload5 (get_set_self h6)]
  exact ⟨_, rfl, row_set hk h6 _, Kx.set2 (fun i y _ _ e _ => e) _⟩
theorem opt_J7 {H : Hp} {st : Rs} {kx a b c d e : AV} (hne : o3 ≠ o6) (h3 : H[o3]? = some (.cells (pC kx st))) (h6 : H[o6]? = some (.cells [a, b, c, d, e])) (hk : Row H 5 kx (st.keys.map Ke.av)) (hkl : st.keys.length ≤ 8)
    {i : Nat} {z : UInt8} (hz : s[i]? = some z) {v : List UInt8} (hv : v.length ≤ 1048576) :
    ∃ kx' H', texttoolsref20_options_J7 (.ptr o3 0) (.ptr o6 0) (.str s) (.int .i64 (i : Int)) (.str v) (.int .i64 (st.at_ : Nat)) H0 H = some (.tuple [.agg (pC kx' (valR st z v).1), .int .i64 (st.at_ : Nat), .int .i64 (valR st z v).2], H') ∧
      Row H' 5 kx' ((valR st z v).1.keys.map Ke.av) ∧ Kx o3 o6 H H' := by
  rw [texttoolsref20_options_J7_eq]
  have hpu : Ka H (H ++ [AObj.free]) := Ka.push _ _
  have hl : aload true 5 (.ptr o3 0) (H ++ [AObj.free]) = some (.agg (pC kx st)) := aload5 (hpu _ _ h3)
  obtain ⟨kx', H2, q1, q2, q3⟩ := valued_spec (hk.ka hpu) hkl hv z
  have hfree : H2[H.length + 0]? = some .free := q3 _ _ (by simp) (by simp)
  have h62 := q3.cells (hpu _ _ h6)
  have h32 := q3.cells (hpu _ _ h3)
  have hn6 : H.length + 0 ≠ o6 := by have := lt_of_get h6; omega
  have hn3 : H.length + 0 ≠ o3 := by have := lt_of_get h3; omega
  simp only [hl, go_sem, aindexStr_of hz, q1, List.getElem?_cons_zero, List.getElem?_cons_succ, alag_free hfree]
  generalize ho : H.length + 0 = o at hfree hn6 hn3 ⊢
  generalize valR st z v = w at q2 ⊢
  have g1 := get_set_self (y := AObj.cells [.nils, .int .i64 0, .int .i64 0, .bool false, .bool false]) hfree
  have g2 := get_set_ne (AObj.cells [.nils, .int .i64 0, .int .i64 0, .bool false, .bool false]) hn6 h62
  unfold pC
  simp only [astore5 g1, go_sem]
  have g3 := get_set_self (y := AObj.cells [kx', .int .i64 w.1.sep, .int .i64 w.1.flags, .bool w.1.uniq, .bool w.1.stab]) g1
  have g4 := get_set_ne (AObj.cells [kx', .int .i64 w.1.sep, .int .i64 w.1.flags, .bool w.1.uniq, .bool w.1.stab]) hn6 g2
  simp only [aload5 g3, go_sem, astore5 g4, aload5 (get_set_self g4)]
  refine ⟨kx', _, rfl, ?_, fun j y j1 j2 e he => ?_⟩
  · have r1 : Row (H2.set o (.cells [.nils, .int .i64 0, .int .i64 0, .bool false, .bool false])) 5 kx' (w.1.keys.map Ke.av) := q2.mono fun i e hi => get_set_ne _ (fun he => by subst he; rw [hfree] at hi; cases hi) hi
    exact row_set (row_set r1 g1 _) g4 _
  · have hj := hpu _ _ e
    have hjo : o ≠ j := by have := lt_of_get e; omega
    exact get_set_ne _ (Ne.symm j2) (get_set_ne _ hjo (get_set_ne _ hjo (q3 _ _ hj he)))
theorem opt_loop (hax : Sl 1 ax (args.map AV.str)) (hb : args.length ≤ 2000000) (hall : ∀ s ∈ args, s.length ≤ 1048576) {at_ : Nat} (hat : at_ < args.length) (hne : o3 ≠ o6) (hs : s.length ≤ 1048576) : ∀ (k i : Nat) (st : Rs) (kx a b c d e : AV) (H : Hp), s.length - i = k → i ≤ s.length → st.at_ = at_ →
    st.flags < 32 → st.keys.length ≤ 8 → H[o3]? = some (.cells (pC kx st)) → H[o6]? = some (.cells [a, b, c, d, e]) → Row H 5 kx (st.keys.map Ke.av) →
    ∃ st1 kx1 H', texttoolsref20_options_L1 ax (.int .i64 (at_ : Nat)) (.ptr o3 0) (.ptr o6 0) (.str s) (.int .i64 (i : Int)) H0 H = some (.tuple [.agg (pC kx1 st1), .int .i64 ((optS args (s.drop i) st).1.at_ : Nat), .int .i64 (optS args (s.drop i) st).2], H') ∧
      Row H' 5 kx1 (st1.keys.map Ke.av) ∧ ((optS args (s.drop i) st).2 = 0 → st1 = (optS args (s.drop i) st).1) ∧ Kx o3 o6 H H' := by
  intro k
  induction k with
  | zero =>
    intro i st kx a b c d e H hk hi hsa hf hkl h3 h6 hr
    rw [texttoolsref20_options_L1_eq]
    have hlt : decide ((i : Int) < (s.length : Int)) = false := by simp; omega
    have hd : s.drop i = [] := List.drop_eq_nil_iff.2 (by omega)
    rw [hd]
    simp only [go_sem, hlt, texttoolsref20_options_J1_eq, optS]
    obtain ⟨H', q1, q2, q3⟩ := opt_out hne h3 h6 hr (.int .i64 (at_ : Nat)) 0
    exact ⟨st, kx, H', by rw [hsa]; exact q1, q2, fun _ => rfl, q3⟩
  | succ k ih =>
    intro i st kx a b c d e H hk hi hsa hf hkl h3 h6 hr
    rw [texttoolsref20_options_L1_eq]
    have h1 : i < s.length := by omega
    have hlt : decide ((i : Int) < (s.length : Int)) = true := by simp; omega
    have hw : IntKind.i64.wrap ((i : Int) + 1) = ((i + 1 : Nat) : Int) := by rw [wrap64 (by omega) (by omega)]; omega
    have hix := List.getElem?_eq_getElem h1
    rw [drop_cons h1]
    generalize s[i] = z at hix ⊢
    have e116 : ((z.toNat : Int) == 116) = (z == 116) := u8eq z 116 (by decide)
    have e107 : ((z.toNat : Int) == 107) = (z == 107) := u8eq z 107 (by decide)
    simp only [go_sem, hlt, texttoolsref20_options_J2_eq, aindexStr_of hix, e116]
    have hval : (z = 116 ∨ z = 107) → flagV z = 0 ∧ z ≠ 117 ∧ z ≠ 115 := by
      rintro (rfl | rfl) <;> decide
    by_cases hor : z = 116 ∨ z = 107
    · obtain ⟨v1, v2, v3⟩ := hval hor
      have hnz : ¬ flagV z ≠ 0 := by omega
      rw [optS_cons, if_neg hnz, if_neg v2, if_neg v3, if_pos hor]
      have hsl := asliceS_lo (s := s) (n := ((i + 1 : Nat) : Int)) .i64 (by omega) (by omega)
      rw [Int.toNat_natCast] at hsl
      have hrl : (s.drop (i + 1)).length ≤ 1048576 := by rw [List.length_drop]; omega
      have c36 : (z == 116) = true ∨ ((z == 116) = false ∧ (z == 107) = true) := by
        rcases hor with rfl | rfl
        · exact .inl rfl
        · exact .inr ⟨rfl, rfl⟩
      have fin : ∀ (v : List UInt8) (n : Nat), v.length ≤ 1048576 → valueS args st (s.drop (i + 1)) = some (v, n) → ∃ st1 kx1 H', texttoolsref20_options_J7 (.ptr o3 0) (.ptr o6 0) (.str s) (.int .i64 (i : Int)) (.str v) (.int .i64 (n : Nat)) H0 H =
          some (.tuple [.agg (pC kx1 st1), .int .i64 ((match valueS args st (s.drop (i + 1)) with | none => (st, 18) | some (v, a) => if z = 116 then sepOp { st with at_ := a } v else keyOp { st with at_ := a } v).1.at_ : Nat), .int .i64 (match valueS args st (s.drop (i + 1)) with | none => (st, 18) | some (v, a) => if z = 116 then sepOp { st with at_ := a } v else keyOp { st with at_ := a } v).2], H') ∧
          Row H' 5 kx1 (st1.keys.map Ke.av) ∧ ((match valueS args st (s.drop (i + 1)) with | none => (st, 18) | some (v, a) => if z = 116 then sepOp { st with at_ := a } v else keyOp { st with at_ := a } v).2 = 0 → st1 = (match valueS args st (s.drop (i + 1)) with | none => (st, 18) | some (v, a) => if z = 116 then sepOp { st with at_ := a } v else keyOp { st with at_ := a } v).1) ∧ Kx o3 o6 H H' := by
        intro v n hv he
        rw [he]
        simp only
        obtain ⟨kx', H', q1, q2, q3⟩ := opt_J7 (st := { st with at_ := n }) H0 hne h3 h6 hr hkl hix hv
        obtain ⟨f1, f2, f3⟩ := valR_fit (st := { st with at_ := n }) hkl z v
        exact ⟨_, kx', H', by rw [f3, ← f1]; exact q1, q2, f2, q3⟩
      have main : ∃ st1 kx1 H', (bnd (sbin .eql (.str (s.drop (i + 1))) (.str [])) fun t43 =>
          bnd (gdv t43 true (.tuple []) (some (.int .i64 (at_ : Nat)))) fun t45 =>
          bnd (gdv t43 true (.tuple []) (ibin .add t45 (.int .i64 1))) fun t46 =>
          bnd (gdv t43 true (.tuple []) (some ax)) fun t47 =>
          bnd (gdv t43 true (.tuple []) (alenD (.slice 9) t47)) fun t48 =>
          bnd (gdv t43 true (.tuple []) (ibin .geq t46 t48)) fun t49 =>
          bnd (apick t43 t49 (.bool false)) fun t50 =>
          cnd t50
            (bnd (aload true 5 (.ptr o3 0) H) fun t51 =>
            bnd (astoreU 5 (.ptr o6 0) t51 H) fun r =>
            bnd (aload true 5 (.ptr o6 0) r.2) fun v6 =>
            some ((.tuple [v6, .int .i64 (at_ : Nat), (.int .i64 18)]), r.2))
            (texttoolsref20_options_J6 ax (.int .i64 (at_ : Nat)) (.ptr o3 0) (.ptr o6 0) (.str s) (.int .i64 (i : Int)) (.str (s.drop (i + 1))) (.int .i64 (at_ : Nat)) H0 H)) =
          some (.tuple [.agg (pC kx1 st1), .int .i64 ((match valueS args st (s.drop (i + 1)) with | none => (st, 18) | some (v, a) => if z = 116 then sepOp { st with at_ := a } v else keyOp { st with at_ := a } v).1.at_ : Nat), .int .i64 (match valueS args st (s.drop (i + 1)) with | none => (st, 18) | some (v, a) => if z = 116 then sepOp { st with at_ := a } v else keyOp { st with at_ := a } v).2], H') ∧
          Row H' 5 kx1 (st1.keys.map Ke.av) ∧ ((match valueS args st (s.drop (i + 1)) with | none => (st, 18) | some (v, a) => if z = 116 then sepOp { st with at_ := a } v else keyOp { st with at_ := a } v).2 = 0 → st1 = (match valueS args st (s.drop (i + 1)) with | none => (st, 18) | some (v, a) => if z = 116 then sepOp { st with at_ := a } v else keyOp { st with at_ := a } v).1) ∧ Kx o3 o6 H H' := by
        by_cases he : s.drop (i + 1) = []
        · have c1 : (s.drop (i + 1) == []) = true := by rw [he]; rfl
          have hwa : IntKind.i64.wrap ((at_ : Int) + 1) = ((at_ + 1 : Nat) : Int) := by rw [wrap64 (by omega) (by omega)]; omega
          simp only [go_sem, c1, hwa, hax.strlen]
          by_cases hl : at_ + 1 < args.length
          · have c2 : decide ((args.length : Int) ≤ ((at_ + 1 : Nat) : Int)) = false := by simp; omega
            have hai : aindexS 1 ax (.int .i64 ((at_ + 1 : Nat) : Int)) = some (.vp [.str args[at_ + 1]]) := hax.str (List.getElem?_eq_getElem hl)
            simp only [c2, go_sem, texttoolsref20_options_J6_eq, c1, hwa, hai, aload_vpc]
            refine fin args[at_ + 1] (at_ + 1) (hall _ (List.getElem_mem hl)) ?_
            unfold valueS
            rw [if_pos he, hsa, List.getElem?_eq_getElem hl]
            rfl
          · have c2 : decide ((args.length : Int) ≤ ((at_ + 1 : Nat) : Int)) = true := by simp; omega
            have hvn : valueS args st (s.drop (i + 1)) = none := by
              unfold valueS
              rw [if_pos he, hsa, List.getElem?_eq_none (by omega)]
              rfl
            rw [hvn]
            simp only [c2, go_sem]
            obtain ⟨H', q1, q2, q3⟩ := opt_out hne h3 h6 hr (.int .i64 (at_ : Nat)) 18
            exact ⟨st, kx, H', by rw [hsa]; exact q1, q2, fun h => absurd h (by decide), q3⟩
        · have c1 : (s.drop (i + 1) == []) = false := by simpa using he
          simp only [go_sem, c1, texttoolsref20_options_J6_eq]
          refine fin (s.drop (i + 1)) at_ hrl ?_
          unfold valueS
          rw [if_neg he, hsa]
      rcases c36 with d | ⟨d, d7⟩
      · simp only [d, go_sem, hw, hsl]
        exact main
      · simp only [d, go_sem, aindexStr_of hix, e107, d7, hw, hsl]
        exact main
    · have d6 : (z == 116) = false := by simpa using fun h => hor (.inl h)
      have d7 : (z == 107) = false := by simpa using fun h => hor (.inr h)
      obtain ⟨s1, s2, s3, s4⟩ := simR_opt args hor (s.drop (i + 1)) st
      rw [s1]
      simp only [d6, go_sem, aindexStr_of hix, e107, d7, texttoolsref20_options_J4_eq]
      have hpu : Ka H (H ++ [AObj.free]) := Ka.push _ _
      have hl : aload true 5 (.ptr o3 0) (H ++ [AObj.free]) = some (.agg (pC kx st)) := aload5 (hpu _ _ h3)
      obtain ⟨H2, q1, q2⟩ := simple_spec hf kx z (H ++ [AObj.free])
      have hfree : H2[H.length + 0]? = some .free := q2 _ _ (by simp)
      have hk2 := hpu.trans q2
      have h62 := hk2 _ _ h6
      have h32 := hk2 _ _ h3
      have hn6 : H.length + 0 ≠ o6 := by have := lt_of_get h6; omega
      have hn3 : H.length + 0 ≠ o3 := by have := lt_of_get h3; omega
      simp only [hl, go_sem, q1, List.getElem?_cons_zero, List.getElem?_cons_succ, alag_free hfree]
      generalize ho : H.length + 0 = o at hfree hn6 hn3 ⊢
      generalize simR st z = w at s2 s3 s4 ⊢
      have g1 := get_set_self (y := AObj.cells [.nils, .int .i64 0, .int .i64 0, .bool false, .bool false]) hfree
      have g2 := get_set_ne (AObj.cells [.nils, .int .i64 0, .int .i64 0, .bool false, .bool false]) hn6 h62
      have g23 := get_set_ne (AObj.cells [.nils, .int .i64 0, .int .i64 0, .bool false, .bool false]) hn3 h32
      have ha := astore5 (a' := kx) (b' := .int .i64 w.1.sep) (c' := .int .i64 w.1.flags) (d' := .bool w.1.uniq) (e' := .bool w.1.stab) g1
      have g3 := get_set_self (y := AObj.cells (pC kx w.1)) g1
      have g4 := get_set_ne (AObj.cells (pC kx w.1)) hn6 g2
      have g43 := get_set_ne (AObj.cells (pC kx w.1)) hn3 g23
      have ha' : astoreU 5 (.ptr o 0) (.agg (pC kx w.1)) (H2.set o (.cells [.nils, .int .i64 0, .int .i64 0, .bool false, .bool false])) = some (.tuple [], (H2.set o (.cells [.nils, .int .i64 0, .int .i64 0, .bool false, .bool false])).set o (.cells (pC kx w.1))) := ha
      simp only [ha', go_sem]
      have hkG : Ka H ((H2.set o (.cells [.nils, .int .i64 0, .int .i64 0, .bool false, .bool false])).set o (.cells (pC kx w.1))) := (hk2.set (by omega) _).set (by omega) _
      generalize (H2.set o (.cells [.nils, .int .i64 0, .int .i64 0, .bool false, .bool false])).set o (.cells (pC kx w.1)) = G at g3 g4 g43 hkG ⊢
      cases hw2 : w.2 with
      | false =>
        simp only [go_sem, Bool.not_false, Bool.false_eq_true, if_false]
        obtain ⟨H', r1, r2, r3⟩ := opt_out hne g43 g4 (hr.ka hkG) (.int .i64 (at_ : Nat)) 18
        exact ⟨st, kx, H', by rw [hsa]; exact r1, r2, fun h => absurd h (by decide), (hkG.kp.kx _ _).trans r3⟩
      | true =>
        have hl3 : aload true 5 (.ptr o 0) G = some (.agg (pC kx w.1)) := aload5 g3
        have hs3 : astoreU 5 (.ptr o3 0) (.agg (pC kx w.1)) G = some (.tuple [], G.set o3 (.cells (pC kx w.1))) := astore5 g43
        simp only [go_sem, Bool.not_true, texttoolsref20_options_J5_eq, hl3, hs3, texttoolsref20_options_J3_eq, hw, if_true]
        obtain ⟨st1, kx1, H', r1, r2, r3, r4⟩ := ih (i + 1) w.1 kx a b c d e (G.set o3 (.cells (pC kx w.1))) (by omega) (by omega) (s2.trans hsa) (s4 hf) (by rw [s3]; exact hkl) (get_set_self g43) (get_set_ne _ hne g4) (by rw [s3]; exact row_set (hr.ka hkG) g43 _)
        exact ⟨st1, kx1, H', r1, r2, r3, ((hkG.kp.kx _ _).set1 _).trans r4⟩
end
end Go.Am
namespace Go.Am
open Go.Proofs
set_option linter.unusedSimpArgs false
set_option linter.unusedVariables false

theorem options_spec {args : List (List UInt8)} {ax : AV} (hax : Sl 1 ax (args.map AV.str)) (hb : args.length ≤ 2000000) (hall : ∀ s ∈ args, s.length ≤ 1048576) {st : Rs} {kx : AV} {H : Hp} {s : List UInt8} (hs : args[st.at_]? = some s) (hne : 1 ≤ s.length)
    (hf : st.flags < 32) (hkl : st.keys.length ≤ 8) (hr : Row H 5 kx (st.keys.map Ke.av)) :
    ∃ st1 kx1 H', C_texttoolsref20_options [.agg (pC kx st), ax, .int .i64 (st.at_ : Nat)] H = some (.tuple [.agg (pC kx1 st1), .int .i64 ((optS args (s.drop 1) st).1.at_ : Nat), .int .i64 (optS args (s.drop 1) st).2], H') ∧
      Row H' 5 kx1 (st1.keys.map Ke.av) ∧ ((optS args (s.drop 1) st).2 = 0 → st1 = (optS args (s.drop 1) st).1) ∧ Kp H H' := by
  rw [F_texttoolsref20_options_eq]
  unfold F_texttoolsref20_options
  have hix : aindexS 1 ax (.int .i64 (st.at_ : Nat)) = some (.vp [.str s]) := hax.str hs
  have h1 : (H ++ [AObj.cells (pC kx st)] ++ [AObj.cells [.nils, .int .i64 0, .int .i64 0, .bool false, .bool false]])[H.length]? = some (.cells (pC kx st)) := by simp
  have h2 : (H ++ [AObj.cells (pC kx st)] ++ [AObj.cells [.nils, .int .i64 0, .int .i64 0, .bool false, .bool false]])[H.length + 1]? = some (.cells [.nils, .int .i64 0, .int .i64 0, .bool false, .bool false]) := by
    rw [List.getElem?_append_right (by simp)]
    simp
  have hka : Ka H (H ++ [AObj.cells (pC kx st)] ++ [AObj.cells [.nils, .int .i64 0, .int .i64 0, .bool false, .bool false]]) := (Ka.push _ _).trans (Ka.push _ _)
  simp only [go_sem, hix, aload_vpc, List.length_append, List.length_cons, List.length_nil, Nat.zero_add]
  have hlt : st.at_ < args.length := lt_of_get hs
  obtain ⟨st1, kx1, H', q1, q2, q3, q4⟩ := opt_loop (o3 := H.length) (o6 := H.length + 1) H hax hb hall hlt (by omega) (hall s (List.mem_of_getElem? hs)) (s.length - 1) 1 st kx _ _ _ _ _ _ rfl hne rfl hf hkl h1 h2 (hr.ka hka)
  exact ⟨st1, kx1, H', q1, q2, q3, fun i x e he => q4 i x (by have := lt_of_get e; omega) (by have := lt_of_get e; omega) (hka _ _ e) he⟩

theorem rparse_end {args : List (List UInt8)} {ax : AV} (hax : Sl 1 ax (args.map AV.str)) (hb : args.length ≤ 2000000) {o o2 : Nat} (hne : o2 ≠ o) (H0 : Hp) {st : Rs} {kx : AV} {H : Hp} (hat : st.at_ ≤ args.length)
    {a b c d e : AV} (ho : H[o]? = some (.cells (pC kx st))) (hk : Row H 5 kx (st.keys.map Ke.av)) (h2 : H[o2]? = some (.cells [a, b, c, d, e])) :
    ∃ v x e n H', texttoolsref20_Parse_J1 ax (.ptr o2 0) (.ptr o 0) (.int .i64 (st.at_ : Nat)) H0 H = some (.tuple [v, x, .int .i64 e, .int .i64 (n : Nat)], H') ∧ Done args (st, 0) v x e n := by
  rw [texttoolsref20_Parse_J1_eq]
  obtain ⟨y, s1, s2, s3⟩ := hax.from (n := st.at_) (by simpa using hat)
  have h22 := get_set_ne AObj.dead (Ne.symm hne) h2
  obtain ⟨x', H1, g1, g2, g3, g4, g5⟩ := (show Row (H.set o .dead) 1 .nils [] from .inl ⟨rfl, rfl⟩).app 16 y _ (s3 _) (by simp; omega)
  have h21 := g4 _ _ h22
  have hx' : Sl 1 x' ((args.drop st.at_).map AV.str) := by
    rw [List.nil_append, ← List.map_drop] at g2
    exact g2.sl
  have hv5 : aloadv true 5 (.vp (pC kx st)) = some (.agg (pC kx st)) := (Eq.refl _).trans (Eq.refl _)
  have hst : astoreU 5 (.ptr o2 0) (.agg (pC kx st)) H1 = some (.tuple [], H1.set o2 (.cells (pC kx st))) := astore5 h21
  have hld : aload true 5 (.ptr o2 0) (H1.set o2 (.cells (pC kx st))) = some (.agg (pC kx st)) := aload5 (get_set_self h21)
  simp only [frz_of ho, hv5, go_sem, s1, g1, hst, hld]
  refine ⟨_, x', 0, 0, _, rfl, ?_⟩
  unfold Done
  rw [if_pos rfl]
  exact ⟨⟨kx, rfl, hk.sl⟩, hx', rfl, rfl⟩
theorem rparse_loop {args : List (List UInt8)} {ax : AV} (hax : Sl 1 ax (args.map AV.str)) (hb : args.length ≤ 2000000) (hall : ∀ s ∈ args, s.length ≤ 1048576) {o o2 : Nat} (hne : o2 ≠ o) (H0 : Hp) {a b c d e : AV} : ∀ (f : Nat) (st : Rs) (kx : AV) (H : Hp), args.length < st.at_ + f → st.at_ ≤ args.length →
    (st.at_ < args.length → RsOk args st) → H[o]? = some (.cells (pC kx st)) → Row H 5 kx (st.keys.map Ke.av) → H[o2]? = some (.cells [a, b, c, d, e]) →
    ∃ v x e n H', texttoolsref20_Parse_L1 ax (.ptr o2 0) (.ptr o 0) (.int .i64 (st.at_ : Nat)) H0 H = some (.tuple [v, x, .int .i64 e, .int .i64 (n : Nat)], H') ∧ Done args (parseL args f st) v x e n := by
  intro f
  induction f with
  | zero => intro st kx H hf hat; omega
  | succ f ih =>
    intro st kx H hf hat hok ho hk h2
    rw [texttoolsref20_Parse_L1_eq]
    simp only [go_sem, hax.strlen, parseL]
    have stop := rparse_end hax hb hne H0 hat ho hk h2
    by_cases hlt : st.at_ < args.length
    · have hok := hok hlt
      have c1 : decide ((st.at_ : Int) < (args.length : Int)) = true := by simp; omega
      have hs0 : args[st.at_]? = some args[st.at_] := List.getElem?_eq_getElem hlt
      have hix : aindexS 1 ax (.int .i64 (st.at_ : Int)) = some (.vp [.str args[st.at_]]) := hax.str hs0
      have hs := hall args[st.at_] (List.getElem_mem hlt)
      rw [hs0]
      generalize args[st.at_] = s at hs0 hix hs ⊢
      simp only [c1, go_sem, hix, aload_vpc]
      have hw : IntKind.i64.wrap ((st.at_ : Int) + 1) = ((st.at_ + 1 : Nat) : Int) := by rw [wrap64 (by omega) (by omega)]; omega
      match s, hix, hs, hs0 with
      | [], _, _, _ =>
        have c3 : decide ((1 : Int) < (([] : List UInt8).length : Int)) = false := by decide
        have c4 : ¬ ([] : List UInt8) = [45, 45] := by decide
        simp only [c3, go_sem, if_neg c4]
        exact stop
      | [y], _, _, _ =>
        have c3 : decide ((1 : Int) < (([y] : List UInt8).length : Int)) = false := by simp
        have c4 : ¬ [y] = [45, 45] := by simp
        simp only [c3, go_sem, if_neg c4]
        exact stop
      | y :: z :: r, hix, hs, hs0 =>
        have c3 : decide ((1 : Int) < ((y :: z :: r).length : Int)) = true := by simp; omega
        have hi0 : aindexStr (.str (y :: z :: r)) (.int .i64 0) = some (.int .u8 y.toNat) := aindexStr_of (s := y :: z :: r) (i := 0) rfl
        have e45 : ((y.toNat : Int) == 45) = (y == 45) := u8eq y 45 (by decide)
        simp only [c3, go_sem, hi0, e45]
        by_cases hy : y = 45
        · subst hy
          have c4 : ((45 : UInt8) == 45) = true := rfl
          simp only [c4, go_sem, texttoolsref20_Parse_J2_eq, hix, aload_vpc, if_true]
          by_cases hdd : (45 :: z :: r) = [45, 45]
          · have c2 : ((45 :: z :: r) == [45, 45]) = true := by simpa using hdd
            simp only [c2, go_sem, hw, if_pos hdd]
            exact rparse_end (st := { st with at_ := st.at_ + 1 }) hax hb hne H0 hlt ho hk h2
          · have c2 : ((45 :: z :: r) == [45, 45]) = false := by simpa using hdd
            have hl6 : aload true 5 (.ptr o 0) H = some (.agg (pC kx st)) := aload5 ho
            obtain ⟨st1, kx1, H1, q1, q2, q3, q4⟩ := options_spec hax hb hall hs0 (by simp) hok.flags hok.keys hk
            have hok1 := optS_ok (z :: r) st hok
            have hmono := optS_at args (z :: r) st
            rw [List.drop_one, List.tail_cons] at q1 q3
            have ho1 := q4.cells ho
            have h21 := q4.cells h2
            simp only [c2, go_sem, if_neg hdd, texttoolsref20_Parse_J3_eq, hl6, q1, List.getElem?_cons_zero, List.getElem?_cons_succ]
            generalize optS args (z :: r) st = q at q1 q3 hok1 hmono ⊢
            obtain ⟨st2, er⟩ := q
            simp only at q1 q3 hok1 hmono ⊢
            have hg := get_last H1 (.cells [.nils, .int .i64 0, .int .i64 0, .bool false, .bool false])
            have hs8 : astoreU 5 (.ptr H1.length 0) (.agg (pC kx1 st1)) (H1 ++ [AObj.cells [.nils, .int .i64 0, .int .i64 0, .bool false, .bool false]]) = some (.tuple [], (H1 ++ [AObj.cells [.nils, .int .i64 0, .int .i64 0, .bool false, .bool false]]).set H1.length (.cells (pC kx1 st1))) := astore5 hg
            simp only [hs8, go_sem, set_push]
            by_cases he : er = 0
            · have c5 : (er != 0) = false := by simpa using he
              have c6 : ¬ er ≠ 0 := by omega
              have hat1 := hok1.at_
              have e1 := q3 he
              subst e1
              have hw1 : IntKind.i64.wrap ((st1.at_ : Int) + 1) = ((st1.at_ + 1 : Nat) : Int) := by rw [wrap64 (by omega) (by omega)]; omega
              have hl8 : aload true 5 (.ptr H1.length 0) (H1 ++ [AObj.cells (pC kx1 st1)]) = some (.agg (pC kx1 st1)) := aload5 (get_last _ _)
              have ho2 := get_push ho1 [AObj.cells (pC kx1 st1)]
              have h22 := get_push h21 [AObj.cells (pC kx1 st1)]
              have hs6 : astoreU 5 (.ptr o 0) (.agg (pC kx1 st1)) (H1 ++ [AObj.cells (pC kx1 st1)]) = some (.tuple [], (H1 ++ [AObj.cells (pC kx1 st1)]).set o (.cells (pC kx1 st1))) := astore5 ho2
              simp only [c5, go_sem, if_neg c6, texttoolsref20_Parse_J4_eq, hl8, hw1, hs6]
              exact ih { st1 with at_ := st1.at_ + 1 } kx1 _ (by simp only; omega) hat1 (fun h => ⟨hok1.keys, hok1.good, hok1.sep, hok1.flags, h⟩) (get_set_self ho2) (row_set (q2.ka (Ka.push _ _)) ho2 _) (get_set_ne _ (Ne.symm hne) h22)
            · have c5 : (er != 0) = true := by simpa using he
              have h22 := get_push h21 [AObj.cells (pC kx1 st1)]
              simp only [c5, go_sem, if_pos he, astore5 h22, aload5 (get_set_self h22)]
              refine ⟨_, .nils, er, st2.at_, _, rfl, ?_⟩
              unfold Done
              rw [if_neg he]
              exact ⟨⟨.nils, rfl, .inl ⟨rfl, rfl⟩⟩, .inl ⟨rfl, rfl⟩, rfl, rfl⟩
        · have c4 : (y == 45) = false := by simpa using hy
          have hdd : ¬ (y :: z :: r) = [45, 45] := fun h => hy (by injection h)
          simp only [c4, go_sem, if_neg hdd, if_neg hy, hix, aload_vpc, hi0, e45]
          exact stop
    · have c1 : decide ((st.at_ : Int) < (args.length : Int)) = false := by simp; omega
      rw [List.getElem?_eq_none (by omega)]
      simp only [c1, go_sem]
      exact stop
theorem closeV_tup (H : Hp) (n f : Nat) (l : List AV) : closeV H n (f + 1) (.tuple l) = match l.mapM (closeV H n f) with
      | some l => some (.tuple l)
      | none => none := (Eq.refl _).trans (Eq.refl _)
theorem rparse_ok {args : List (List UInt8)} {ax : AV} (hax : Sl 1 ax (args.map AV.str)) (hb : args.length ≤ 2000000) (hall : ∀ s ∈ args, s.length ≤ 1048576) (H : Hp) :
    ∃ v x, flatC C_texttoolsref20_Parse [ax] H = some (.tuple [v, x, .int .i64 (parseS args).2.2.1, .int .i64 ((parseS args).2.2.2 : Nat)], H) ∧ SpecAV v (parseS args).1 ∧ Sl 1 x ((parseS args).2.1.map AV.str) := by
  obtain ⟨ax', h1, hax'⟩ := hax.close (H := []) (n := 0) (f := 5) (fun c hc => by obtain ⟨s, _, rfl⟩ := List.mem_map.1 hc; rfl)
  have run : ∃ v x H', C_texttoolsref20_Parse [ax'] [] = some (.tuple [v, x, .int .i64 (parseS args).2.2.1, .int .i64 ((parseS args).2.2.2 : Nat)], H') ∧ SpecAV v (parseS args).1 ∧ Sl 1 x ((parseS args).2.1.map AV.str) := by
    rw [F_texttoolsref20_Parse_eq]
    unfold F_texttoolsref20_Parse
    obtain ⟨v, x, e, n, H', q1, q2⟩ := rparse_loop (a := .nils) (b := .int .i64 0) (c := .int .i64 0) (d := .bool false) (e := .bool false) hax' hb hall (o := 1) (o2 := 0) (by omega) [] (args.length + 1) rs0 .nils
      [.cells [.nils, .int .i64 0, .int .i64 0, .bool false, .bool false], .cells [.nils, .int .i64 (-1), .int .i64 0, .bool false, .bool false]] (by simp only [rs0]; omega) (Nat.zero_le _)
      (fun h => ⟨by simp [rs0], by simp [rs0], by decide, by decide, h⟩) rfl (.inl ⟨rfl, rfl⟩) rfl
    have hs : astoreU 5 (.ptr 1 0) (.agg [.nils, .int .i64 (-1), .int .i64 0, .bool false, .bool false]) [.cells [.nils, .int .i64 0, .int .i64 0, .bool false, .bool false], .cells [.nils, .int .i64 0, .int .i64 0, .bool false, .bool false]] =
        some (.tuple [], [.cells [.nils, .int .i64 0, .int .i64 0, .bool false, .bool false], .cells [.nils, .int .i64 (-1), .int .i64 0, .bool false, .bool false]]) := astore5 rfl
    simp only [go_sem, fill_sep, List.length_nil, List.nil_append, List.length_cons, Nat.zero_add, List.cons_append, hs]
    have q1' : texttoolsref20_Parse_L1 ax' (.ptr 0 0) (.ptr 1 0) (.int .i64 0) [] [.cells [.nils, .int .i64 0, .int .i64 0, .bool false, .bool false], .cells [.nils, .int .i64 (-1), .int .i64 0, .bool false, .bool false]] = some (.tuple [v, x, .int .i64 e, .int .i64 (n : Nat)], H') := q1
    rw [q1']
    unfold Done at q2
    unfold parseS
    simp only
    by_cases hz : (parseL args (args.length + 1) rs0).2 = 0
    · rw [if_pos hz] at q2
      obtain ⟨z1, z2, rfl, rfl⟩ := q2
      simp only [if_pos hz]
      exact ⟨v, x, H', rfl, z1, z2⟩
    · rw [if_neg hz] at q2
      obtain ⟨z1, z2, rfl, rfl⟩ := q2
      simp only [if_neg hz]
      exact ⟨v, x, H', rfl, z1, z2⟩
  obtain ⟨v, x, H', q1, q2, q3⟩ := run
  obtain ⟨v', k1, k2⟩ := q2.close H' 0 1
  obtain ⟨x', k3, k4⟩ := q3.close (H := H') (n := 0) (f := 4) (fun c hc => by obtain ⟨s, _, rfl⟩ := List.mem_map.1 hc; rfl)
  refine ⟨v', x', flatC_cl (args' := [ax']) (by simp [h1]) q1 ?_, k2, k4⟩
  rw [closeV_tup]
  have e1 : closeV H' 0 5 (.int .i64 (parseS args).2.2.1) = some (.int .i64 (parseS args).2.2.1) := rfl
  have e2 : closeV H' 0 5 (.int .i64 ((parseS args).2.2.2 : Nat)) = some (.int .i64 ((parseS args).2.2.2 : Nat)) := rfl
  simp only [List.mapM_cons, List.mapM_nil, k1, k3, e1, e2]
  rfl
theorem Parses_law {args : List (List UInt8)} {ax : AV} (hax : Sl 1 ax (args.map AV.str)) (hb : args.length ≤ 2000000) (hall : ∀ s ∈ args, s.length ≤ 1048576) (H : Hp) (awake : ∀ H, flatC C_texttoolslaw20_awake [] H = some (.bool true, H)) :
    ∃ H', C_texttoolslaw20_SortkeyParses [ax] H = some (.bool true, H') := by
  rw [F_texttoolslaw20_SortkeyParses_eq]
  unfold F_texttoolslaw20_SortkeyParses
  have hkeys : (parseS args).1.keys.length ≤ 1000 := by
    have := (parseL_ok (args := args) (args.length + 1) rs0 rsg0 (Nat.zero_le _)).1.keys
    unfold parseS
    simp only
    split
    · simp only [Rs.spec]; omega
    · simp [spNil]
  obtain ⟨v, x, H1, q1, q2, q3, _⟩ := parse_spec hax hb hall H
  obtain ⟨v', x', p1, p2, p3⟩ := (show ∃ v' x', (∀ H, flatC C_texttoolsref20_Parse [ax] H = some (.tuple [v', x', .int .i64 (parseS args).2.2.1, .int .i64 ((parseS args).2.2.2 : Nat)], H)) ∧ SpecAV v' (parseS args).1 ∧ Sl 1 x' ((parseS args).2.1.map AV.str) from by
    obtain ⟨v, x, r1, r2, r3⟩ := rparse_ok hax hb hall []
    refine ⟨v, x, fun H => ?_, r2, r3⟩
    unfold flatC at r1 ⊢
    split at r1
    · split at r1
      · split at r1
        · simp only [Option.some.injEq, Prod.mk.injEq] at r1 ⊢
          exact ⟨r1.1, trivial⟩
        · cases r1
      · cases r1
    · cases r1)
  have hlen : (parseS args).2.1.length ≤ 4611686018427387904 := by
    obtain ⟨f1, f2⟩ := parseS_facts args
    by_cases he : (parseS args).2.2.1 = 0
    · obtain ⟨_, _, k, _, z4⟩ := f1 he
      rw [z4, List.length_drop]
      omega
    · rw [(f2 he).2]
      simp
  have hss := fun H => samesp_ok q2 p2 hkeys H
  generalize parseS args = q at q1 q2 q3 p1 p2 p3 hlen hss
  obtain ⟨p, rest, e, n⟩ := q
  simp only at q1 q2 q3 p1 p2 p3 hlen hss
  obtain ⟨kx, rfl, hkx⟩ := q2
  obtain ⟨kx', rfl, hkx'⟩ := p2
  simp only [Spec.cells] at q1 p1 hss
  have hg := get_last H1 (.cells [.nils, .int .i64 0, .int .i64 0, .bool false, .bool false])
  simp only [q1, go_sem, List.getElem?_cons_zero, List.getElem?_cons_succ, astore5 hg, set_push, p1]
  generalize hG : H1 ++ [AObj.cells [kx, .int .i64 p.sep, .int .i64 p.flags, .bool p.uniq, .bool p.stab]] = G
  have hG1 : G[H1.length]? = some (.cells [kx, .int .i64 p.sep, .int .i64 p.flags, .bool p.uniq, .bool p.stab]) := by rw [← hG]; exact get_last _ _
  have hg2 := get_last G (.cells [.nils, .int .i64 0, .int .i64 0, .bool false, .bool false])
  simp only [astore5 hg2, go_sem, set_push]
  have hg3 := get_last G (.cells [kx', .int .i64 p.sep, .int .i64 p.flags, .bool p.uniq, .bool p.stab])
  have hg4 := get_push hG1 [AObj.cells [kx', .int .i64 p.sep, .int .i64 p.flags, .bool p.uniq, .bool p.stab]]
  have c1 : (rest == rest) = true := by simp
  have c2 : (e == e) = true := by simp
  have c3 : ((n : Int) == (n : Int)) = true := by simp
  simp only [aload5 hg4, aload5 hg3, go_sem, hss, same_ok q3 p3 hlen, c1, c2, c3, awake]
  exact ⟨_, rfl⟩
end Go.Am
