/-
  Numbers and flags as text; slices that grow behind what was there.
-/
import Derived.Test.YtijddagljnlfmaaGreatDoorSkC
import Derived.Lib.ItoaLen
namespace Go.Am
open Go.Proofs
set_option linter.unusedSimpArgs false
set_option linter.unusedVariables false

/-! Rows that grow from object n on. -/
def RowN (n : Nat) (H : Hp) (k : Nat) (x : AV) (l : List AV) : Prop := x = .nils ∧ l = [] ∨ ∃ t e, x = .vs k (.own t e) l ∧ H[t]? = some (.tok e) ∧ n ≤ t
def Keep (n : Nat) (H H' : Hp) : Prop := ∀ i, i < n → H'[i]? = H[i]?
theorem Keep.refl (n : Nat) (H : Hp) : Keep n H H := fun _ _ => rfl
theorem Keep.trans {n : Nat} {A B C : Hp} (h : Keep n A B) (k : Keep n B C) : Keep n A C := fun i hi => (k i hi).trans (h i hi)
theorem Keep.push {n : Nat} (H : Hp) (hn : n ≤ H.length) (l : List AObj) : Keep n H (H ++ l) := fun i hi => List.getElem?_append_left (by omega)
theorem RowN.row {n : Nat} {H : Hp} {k : Nat} {x : AV} {l : List AV} (h : RowN n H k x l) : Row H k x l := h.imp id fun ⟨t, e, a, b, _⟩ => ⟨t, e, a, b⟩
theorem RowN.nil (n : Nat) (H : Hp) (k : Nat) : RowN n H k .nils [] := .inl ⟨rfl, rfl⟩
theorem RowN.sl {n : Nat} {H : Hp} {k : Nat} {x : AV} {l : List AV} (h : RowN n H k x l) : Sl k x l := h.imp id fun ⟨t, e, a, _⟩ => ⟨_, a⟩
theorem RowN.push {n : Nat} {H : Hp} {k : Nat} {x : AV} {l : List AV} (h : RowN n H k x l) (r : List AObj) : RowN n (H ++ r) k x l := h.imp id fun ⟨t, e, a, b, c⟩ => ⟨t, e, a, get_push b _, c⟩
theorem RowN.app {n : Nat} {H : Hp} {k : Nat} {x : AV} {l : List AV} (h : RowN n H k x l) (hn : n ≤ H.length) (bytes : Nat) (y : AV) (ys : List AV) (hy : elems k y H = some ys) (hf : (l.length + ys.length) * (bytes + 1) ≤ 140737488355328) :
    ∃ x' H', aappE k bytes x y H = some (x', H') ∧ RowN n H' k x' (l ++ ys) ∧ n ≤ H'.length ∧ Keep n H H' ∧ (∀ (i : Nat) (c : List AV), H[i]? = some (.cells c) → H'[i]? = some (.cells c)) := by
  unfold aappE
  simp only [hy]
  rcases h with ⟨rfl, rfl⟩ | ⟨t, e, rfl, ht, hnt⟩
  · by_cases hys : ys = []
    · subst hys
      exact ⟨.nils, H, by simp [aappend], .inl ⟨rfl, rfl⟩, hn, Keep.refl _ _, fun _ _ h => h⟩
    · have hfit : fits ys.length bytes = true := by simpa [fits] using hf
      exact ⟨.vs k (.own H.length ys.length) ys, H ++ [.tok ys.length], by simp only [aappend, hys, if_false, hfit, if_true], .inr ⟨H.length, ys.length, rfl, by simp, hn⟩, by simp; omega, Keep.push H hn _, fun i c h => get_push h _⟩
  · have hfit : fits (l.length + ys.length) bytes = true := by simpa [fits] using hf
    by_cases hys : ys = []
    · subst hys
      exact ⟨.vs k (.own t e) l, H, by simp only [aappend, List.length_nil, Nat.add_zero] at hfit ⊢; simp only [hfit, and_self, if_true], .inr ⟨t, e, by simp, ht, hnt⟩, hn, Keep.refl _ _, fun _ _ h => h⟩
    · refine ⟨_, _, by simp only [aappend, hfit, and_self, if_true, hys, if_false, ht], .inr ⟨t, e + ys.length, rfl, get_set_eq _ ht, hnt⟩, by simp; omega, fun i hi => List.getElem?_set_ne (by omega), fun i c h => ?_⟩
      refine get_set_ne _ (fun he => ?_) h
      subst he
      rw [ht] at h
      cases h
theorem take_keep {H0 H : Hp} (h : Keep H0.length H0 H) (hl : H0.length ≤ H.length) : H.take H0.length = H0 := by
  apply List.ext_getElem?
  intro i
  by_cases hi : i < H0.length
  · rw [List.getElem?_take_of_lt hi]; exact h i hi
  · rw [List.getElem?_eq_none (by simp; omega), List.getElem?_eq_none (by omega)]
theorem leave_row {H0 H : Hp} (h : Keep H0.length H0 H) (hl : H0.length ≤ H.length) {k : Nat} {x : AV} {l : List AV} (hx : Sl k x l) (hc : ∀ c ∈ l, closeV H H0.length 5 c = some c) : ∃ x', leaveP H0 x H = some (x', H0) ∧ Sl k x' l := by
  obtain ⟨x', h1, h2⟩ := hx.close (H := H) (n := H0.length) (f := 5) hc
  refine ⟨x', ?_, h2⟩
  unfold leaveP
  rw [if_pos (take_keep h hl), h1]

/-! Flags. -/
def chkAnd (n j : Nat) : Bool := match ibin .and (.int .i64 n) (.int .i64 ((2 ^ j : Nat) : Int)) with
  | some (.int .i64 m) => m == (if n.testBit j then ((2 ^ j : Nat) : Int) else 0)
  | _ => false
theorem chkAnd_all : ((List.range 32).all fun n => (List.range 5).all fun j => chkAnd n j) = true := by kernel_rfl
theorem all_range {n : Nat} {p : Nat → Bool} (h : (List.range n).all p = true) {i : Nat} (hi : i < n) : p i = true := List.all_eq_true.1 h i (List.mem_range.2 hi)
theorem and_ok {n j : Nat} (hn : n < 32) (hj : j < 5) : ibin .and (.int .i64 n) (.int .i64 ((2 ^ j : Nat) : Int)) = some (.int .i64 (if n.testBit j then ((2 ^ j : Nat) : Int) else 0)) := by
  have h := all_range (all_range chkAnd_all hn) hj
  unfold chkAnd at h
  split at h
  · rename_i m hm
    rw [hm]
    have : m = (if n.testBit j then ((2 ^ j : Nat) : Int) else 0) := by simpa using h
    rw [this]
  · cases h
noncomputable def chkHas (n j : Nat) : Bool := match F_texttoolsref20_Has (.int .i64 n) (.int .i64 ((2 ^ j : Nat) : Int)) [] with
  | some (.bool b, []) => b == n.testBit j
  | _ => false
theorem chkHas_all : ((List.range 32).all fun n => (List.range 5).all fun j => chkHas n j) = true := by kernel_rfl
theorem has_ok {n j : Nat} (hn : n < 32) (hj : j < 5) (H : Hp) : flatC C_texttoolsref20_Has [.int .i64 n, .int .i64 ((2 ^ j : Nat) : Int)] H = some (.bool (n.testBit j), H) := by
  have h := all_range (all_range chkHas_all hn) hj
  unfold chkHas at h
  split at h
  · rename_i b hb
    have : b = n.testBit j := by simpa using h
    subst this
    exact flat2 (a' := .int .i64 n) (b' := .int .i64 ((2 ^ j : Nat) : Int)) rfl rfl ((F_texttoolsref20_Has_eq _ _ _).trans hb) rfl
  · cases h
def letC : List UInt8 := [98, 100, 102, 110, 114]
def letJ : List Nat := [3, 4, 2, 0, 1]
noncomputable def chkFlag (i : Nat) : Bool := match F_sortkey_flag (.int .u8 (letC.getD i 0).toNat) [], F_texttoolsref20_flag (.int .u8 (letC.getD i 0).toNat) [] with
  | some (.int .i64 m, []), some (.int .i64 m', []) => m == ((2 ^ (letJ.getD i 0) : Nat) : Int) && m' == ((2 ^ (letJ.getD i 0) : Nat) : Int)
  | _, _ => false
theorem chkFlag_all : ((List.range 5).all chkFlag) = true := by kernel_rfl
theorem flag_ok {i : Nat} (hi : i < 5) (H : Hp) : flatC C_sortkey_flag [.int .u8 (letC.getD i 0).toNat] H = some (.int .i64 ((2 ^ (letJ.getD i 0) : Nat) : Int), H) ∧
    flatC C_texttoolsref20_flag [.int .u8 (letC.getD i 0).toNat] H = some (.int .i64 ((2 ^ (letJ.getD i 0) : Nat) : Int), H) := by
  have h := all_range chkFlag_all hi
  unfold chkFlag at h
  split at h
  · rename_i m m' h1 h2
    simp only [Bool.and_eq_true, beq_iff_eq] at h
    obtain ⟨rfl, rfl⟩ := h
    exact ⟨flat1 rfl ((F_sortkey_flag_eq _ _).trans h1) rfl, flat1 rfl ((F_texttoolsref20_flag_eq _ _).trans h2) rfl⟩
  · cases h
/-- The letters of flags, those from number i on. -/
def letFrom (n : Nat) : List (UInt8 × Nat) → List UInt8
  | [] => []
  | (c, j) :: r => (if n.testBit j then [c] else []) ++ letFrom n r
def letS (n : Nat) : List UInt8 := letFrom n (letC.zip letJ)
theorem let_len (n : Nat) : ∀ l : List (UInt8 × Nat), (letFrom n l).length ≤ l.length := by
  intro l
  induction l with
  | nil => simp [letFrom]
  | cons a l ih => obtain ⟨c, j⟩ := a; simp only [letFrom, List.length_append, List.length_cons]; split <;> simp <;> omega
theorem letS_len (n : Nat) : (letS n).length ≤ 5 := let_len n _
theorem let_drop (n i : Nat) (hi : i < 5) : letFrom n ((letC.zip letJ).drop i) = (if n.testBit (letJ.getD i 0) then [letC.getD i 0] else []) ++ letFrom n ((letC.zip letJ).drop (i + 1)) := by
  match i, hi with
  | 0, _ => rfl
  | 1, _ => rfl
  | 2, _ => rfl
  | 3, _ => rfl
  | 4, _ => rfl
theorem letJ_lt (i : Nat) (hi : i < 5) : letJ.getD i 0 < 5 := by
  match i, hi with
  | 0, _ => decide
  | 1, _ => decide
  | 2, _ => decide
  | 3, _ => decide
  | 4, _ => decide
theorem letC_get (i : Nat) (hi : i < 5) : letC[i]? = some (letC.getD i 0) ∧ (letC.take (i + 1)).drop i = [letC.getD i 0] := by
  match i, hi with
  | 0, _ => exact ⟨rfl, rfl⟩
  | 1, _ => exact ⟨rfl, rfl⟩
  | 2, _ => exact ⟨rfl, rfl⟩
  | 3, _ => exact ⟨rfl, rfl⟩
  | 4, _ => exact ⟨rfl, rfl⟩
theorem bit_ne (b : Bool) (j : Nat) : ((if b = true then ((2 ^ j : Nat) : Int) else 0) != 0) = b := by
  have := Nat.pow_pos (n := j) (a := 2) (by decide)
  cases b
  · rfl
  · simp only [if_true, bne_iff_ne, ne_eq]; omega
theorem slice_let (i : Nat) (hi : i < 5) : asliceS (.str letC) (some (.int .i64 (i : Int))) (some (.int .i64 ((i + 1 : Nat) : Int))) none = some (.str [letC.getD i 0]) := by
  have h5 : letC.length = 5 := rfl
  rw [asliceS_lh (s := letC) (n := (i : Int)) (m := ((i + 1 : Nat) : Int)) .i64 .i64 (by omega) (by omega) (by omega)]
  rw [show ((i + 1 : Nat) : Int).toNat = i + 1 by omega, show ((i : Nat) : Int).toNat = i by omega, (letC_get i hi).2]
theorem text_loop {n : Nat} (hn : n < 32) (H0 H : Hp) : ∀ (k i : Nat) (acc : List UInt8), 5 - i = k → i ≤ 5 → acc.length ≤ i →
    sortkey_text_L1 (.int .i64 n) (.str acc) (.int .i64 (i : Int)) H0 H = some (.str (acc ++ letFrom n ((letC.zip letJ).drop i)), H) := by
  intro k
  induction k with
  | zero =>
    intro i acc hk hi ha
    have h5 : i = 5 := by omega
    subst h5
    rw [sortkey_text_L1_eq]
    have hlt : decide (((5 : Nat) : Int) < 5) = false := by decide
    simp only [go_sem, hlt, sortkey_text_J1_eq]
    simp [letC, letJ, letFrom]
  | succ k ih =>
    intro i acc hk hi ha
    have h5 : i < 5 := by omega
    rw [sortkey_text_L1_eq]
    have hlt : decide ((i : Int) < 5) = true := by simp; omega
    have hw : IntKind.i64.wrap ((i : Int) + 1) = ((i + 1 : Nat) : Int) := by rw [wrap64 (by omega) (by omega)]; omega
    have hix : aindexStr (.str [98, 100, 102, 110, 114]) (.int .i64 (i : Int)) = some (.int .u8 (letC.getD i 0).toNat) := aindexStr_of (letC_get i h5).1
    have hsl := slice_let i h5
    unfold letC at hsl
    simp only [go_sem, hlt, sortkey_text_J2_eq, hix, (flag_ok h5 _).1, and_ok hn (letJ_lt i h5), bit_ne]
    rw [let_drop n i h5]
    cases hb : n.testBit (letJ.getD i 0) with
    | true =>
      simp only [go_sem, hw, hsl, sbin_add (a := acc) (b := [([98, 100, 102, 110, 114] : List UInt8).getD i 0]) (by simp; omega), sortkey_text_J3_eq, if_true]
      rw [ih (i + 1) _ (by omega) (by omega) (by simp; omega)]
      simp [letC]
    | false =>
      simp only [go_sem, hw, sortkey_text_J3_eq, Bool.false_eq_true, if_false, List.nil_append]
      exact ih (i + 1) _ (by omega) (by omega) (by omega)
theorem text_ok {n : Nat} (hn : n < 32) (H : Hp) : flatC C_sortkey_text [.int .i64 n] H = some (.str (letS n), H) :=
  flat1 (a' := .int .i64 n) rfl ((F_sortkey_text_eq _ _).trans (text_loop hn [] [] 5 0 [] rfl (by omega) (Nat.le_refl _))) rfl
theorem letters_loop {n : Nat} (hn : n < 32) (H0 H : Hp) : ∀ (k i : Nat) (acc : List UInt8), 5 - i = k → i ≤ 5 → acc.length ≤ i →
    texttoolsref20_letters_L1 (.int .i64 n) (.str acc) (.str letC) (.int .i64 (i : Int)) H0 H = some (.str (acc ++ letFrom n ((letC.zip letJ).drop i)), H) := by
  intro k
  induction k with
  | zero =>
    intro i acc hk hi ha
    have h5 : i = 5 := by omega
    subst h5
    rw [texttoolsref20_letters_L1_eq]
    have hlt : decide (((5 : Nat) : Int) < ((letC.length : Nat) : Int)) = false := by decide
    simp only [go_sem, hlt, texttoolsref20_letters_J1_eq]
    simp [letC, letJ, letFrom]
  | succ k ih =>
    intro i acc hk hi ha
    have h5 : i < 5 := by omega
    rw [texttoolsref20_letters_L1_eq]
    have hlt : decide ((i : Int) < ((letC.length : Nat) : Int)) = true := by simp [letC]; omega
    have hw : IntKind.i64.wrap ((i : Int) + 1) = ((i + 1 : Nat) : Int) := by rw [wrap64 (by omega) (by omega)]; omega
    simp only [go_sem, hlt, texttoolsref20_letters_J2_eq, aindexStr_of (letC_get i h5).1, (flag_ok h5 _).2, has_ok hn (letJ_lt i h5)]
    rw [let_drop n i h5]
    cases hb : n.testBit (letJ.getD i 0) with
    | true =>
      simp only [go_sem, hw, slice_let i h5, sbin_add (a := acc) (b := [letC.getD i 0]) (by simp; omega), texttoolsref20_letters_J3_eq, if_true]
      rw [ih (i + 1) _ (by omega) (by omega) (by simp; omega)]
      simp
    | false =>
      simp only [go_sem, hw, texttoolsref20_letters_J3_eq, Bool.false_eq_true, if_false, List.nil_append]
      exact ih (i + 1) _ (by omega) (by omega) (by omega)
theorem letters_ok {n : Nat} (hn : n < 32) (H : Hp) : flatC C_texttoolsref20_letters [.int .i64 n] H = some (.str (letS n), H) :=
  flat1 (a' := .int .i64 n) rfl ((F_texttoolsref20_letters_eq _ _).trans (letters_loop hn [] [] 5 0 [] rfl (by omega) (Nat.le_refl _))) rfl

/-! Numbers. -/
theorem nfmt_ok {n : Int} (h0 : -9223372036854775808 ≤ n) (h1 : n ≤ 9223372036854775807) (H : Hp) : flatC C_num_Format [.int .i64 n] H = some (.str (Lib.itoa n), H) := by
  refine flat1 (a' := .int .i64 n) rfl (H1 := []) ((F_num_Format_eq _ _).trans ?_) rfl
  unfold F_num_Format sumC itoaA
  simp only [h0, h1, and_self, if_true, go_sem]
theorem rem10 (a : Int) : ibin .rem (.int .i64 a) (.int .i64 10) = some (.int .i64 (a.tmod 10)) := by simp [ibin, ashift, intbin]
theorem quo10 (a : Int) : ibin .quo (.int .i64 a) (.int .i64 10) = some (.int .i64 (IntKind.i64.wrap (a.tdiv 10))) := by simp [ibin, ashift, intbin]
def digsS (N : Nat) : List UInt8 := if N = 0 then [] else Lib.decDigits N
theorem digsS_step {N : Nat} (h : 0 < N) (s : List UInt8) : digsS (N / 10) ++ ([UInt8.ofNat (48 + N % 10)] ++ s) = digsS N ++ s := by
  unfold digsS
  rw [if_neg (by omega : ¬ N = 0)]
  conv => rhs; rw [Lib.decDigits]
  by_cases h1 : N < 10
  · rw [dif_pos h1, if_pos (by omega), Nat.mod_eq_of_lt h1]; simp
  · rw [dif_neg h1, if_neg (by omega)]; simp
theorem digit_str {d : Nat} (hd : d < 10) : (bnd (ibin .add (.int .i64 48) (.int .i64 (d : Int))) fun t => bnd (cvInt .u8 t) fun t => bnd ((setElems 1 [(0, t)] [(.int .u8 0)]).map (AV.vs 1 .clip)) fun t => cvOfBytes t) = some (.str [UInt8.ofNat (48 + d)]) := by
  match d, hd with
  | 0, _ => rfl
  | 1, _ => rfl
  | 2, _ => rfl
  | 3, _ => rfl
  | 4, _ => rfl
  | 5, _ => rfl
  | 6, _ => rfl
  | 7, _ => rfl
  | 8, _ => rfl
  | 9, _ => rfl
theorem bnd_assoc4 {α β γ δ ε : Type} (a : Option α) (b : α → Option β) (c : β → Option γ) (d : γ → Option δ) (k : δ → Option ε) : (bnd a fun x => bnd (b x) fun y => bnd (c y) fun z => bnd (d z) k) = bnd (bnd a fun x => bnd (b x) fun y => bnd (c y) d) k := by
  cases a with
  | none => rfl
  | some x => simp only [bnd_some]; cases b x with
    | none => rfl
    | some y => simp only [bnd_some]; cases c y with
      | none => rfl
      | some z => simp only [bnd_some]
theorem rfmt_J6 {d : Nat} (hd : d < 10) (x0 x4 : AV) {s : List UInt8} (hs : s.length ≤ 1000) (H0 H : Hp) :
    texttoolsref01_Format_J6 x0 (.str s) x4 (.int .i64 (d : Int)) H0 H = texttoolsref01_Format_J5 x0 (.str ([UInt8.ofNat (48 + d)] ++ s)) x4 H0 H := by
  rw [texttoolsref01_Format_J6_eq, bnd_assoc4, digit_str hd]
  simp only [go_sem, sbin_add (a := [UInt8.ofNat (48 + d)]) (b := s) (by simp; omega)]
theorem fmt_loop (x0 : AV) (H0 H : Hp) : ∀ (k : Nat) (m : Int) (s : List UInt8), m.natAbs < 10 ^ k → s.length + k ≤ 1000 → -9223372036854775808 ≤ m → m ≤ 9223372036854775807 →
    texttoolsref01_Format_L1 x0 (.str s) (.int .i64 m) H0 H = texttoolsref01_Format_J2 x0 (.str (digsS m.natAbs ++ s)) H0 H := by
  intro k
  induction k with
  | zero =>
    intro m s hm hs h0 h1
    have : m = 0 := by simp at hm; omega
    subst this
    rw [texttoolsref01_Format_L1_eq]
    have c : ((0 : Int) != 0) = false := rfl
    simp only [go_sem, c]
    rfl
  | succ k ih =>
    intro m s hm hs h0 h1
    rw [texttoolsref01_Format_L1_eq]
    by_cases hz : m = 0
    · subst hz
      have c : ((0 : Int) != 0) = false := rfl
      simp only [go_sem, c]
      rfl
    have c : (m != 0) = true := by simpa using hz
    have hp : (10 : Nat) ^ (k + 1) = 10 ^ k * 10 := Nat.pow_succ 10 k
    have hdig : m.natAbs % 10 < 10 := by omega
    simp only [go_sem, c, texttoolsref01_Format_J4_eq, rem10]
    have fin : ∀ m' : Int, m' = m.tdiv 10 → m'.natAbs = m.natAbs / 10 → texttoolsref01_Format_J5 x0 (.str ([UInt8.ofNat (48 + m.natAbs % 10)] ++ s)) (.int .i64 m) H0 H = texttoolsref01_Format_J2 x0 (.str (digsS m.natAbs ++ s)) H0 H := by
      intro m' e1 e2
      rw [texttoolsref01_Format_J5_eq]
      simp only [quo10, go_sem]
      rw [← e1, wrap64 (by omega) (by omega), ih m' _ (by omega) (by simp; omega) (by omega) (by omega), e2, digsS_step (by omega)]
    by_cases hneg : m < 0
    · obtain ⟨N, rfl⟩ : ∃ N : Nat, m = -(N : Int) := ⟨m.natAbs, by omega⟩
      have ht : (-(N : Int)).tmod 10 = -((N % 10 : Nat) : Int) := by rw [Int.neg_tmod, Int.tmod_eq_emod_of_nonneg (by omega)]; omega
      have hq : (-(N : Int)).tdiv 10 = -((N / 10 : Nat) : Int) := by rw [Int.neg_tdiv, Int.tdiv_eq_ediv_of_nonneg (by omega)]; omega
      have hab : (-(N : Int)).natAbs = N := by omega
      rw [hab] at fin hdig ⊢
      rw [ht]
      have f2 := fin _ hq.symm (by omega)
      by_cases hd0 : N % 10 = 0
      · have c2 : decide (-((N % 10 : Nat) : Int) < 0) = false := by simp; omega
        simp only [c2, go_sem]
        have e : -((N % 10 : Nat) : Int) = ((N % 10 : Nat) : Int) := by omega
        rw [e, rfmt_J6 hdig _ _ (by omega)]
        exact f2
      · have c2 : decide (-((N % 10 : Nat) : Int) < 0) = true := by simp; omega
        have hn : aun .neg (.int .i64 (-((N % 10 : Nat) : Int))) = some (.int .i64 ((N % 10 : Nat) : Int)) := by
          simp only [aun, Int.zero_sub, Int.neg_neg]
          rw [wrap64 (by omega) (by omega)]
        simp only [c2, go_sem, hn]
        rw [rfmt_J6 hdig _ _ (by omega)]
        exact f2
    · obtain ⟨N, rfl⟩ : ∃ N : Nat, m = (N : Int) := ⟨m.natAbs, by omega⟩
      have ht : ((N : Int)).tmod 10 = ((N % 10 : Nat) : Int) := by rw [Int.tmod_eq_emod_of_nonneg (by omega)]; omega
      have hq : ((N : Int)).tdiv 10 = ((N / 10 : Nat) : Int) := by rw [Int.tdiv_eq_ediv_of_nonneg (by omega)]; omega
      have hab : ((N : Int)).natAbs = N := by omega
      rw [hab] at fin hdig ⊢
      rw [ht]
      have f2 := fin _ hq.symm (by omega)
      have c2 : decide (((N % 10 : Nat) : Int) < 0) = false := by simp; omega
      simp only [c2, go_sem]
      rw [rfmt_J6 hdig _ _ (by omega)]
      exact f2
theorem itoa_len {n : Int} (h0 : -9223372036854775808 ≤ n) (h1 : n ≤ 9223372036854775807) : (Lib.itoa n).length ≤ 21 := Lib.itoa_length_le n h0 h1
theorem rfmt_ok {n : Int} (h0 : -9223372036854775808 ≤ n) (h1 : n ≤ 9223372036854775807) (H : Hp) : flatC C_texttoolsref01_Format [.int .i64 n] H = some (.str (Lib.itoa n), H) := by
  refine flat1 (a' := .int .i64 n) rfl (H1 := []) ((F_texttoolsref01_Format_eq _ _).trans ?_) rfl
  unfold F_texttoolsref01_Format
  by_cases hz : n = 0
  · subst hz
    have c : ((0 : Int) == 0) = true := rfl
    simp only [go_sem, c]
    have : Lib.itoa 0 = [48] := by
      unfold Lib.itoa
      rw [if_neg (by omega)]
      show Lib.decDigits 0 = _
      rw [Lib.decDigits]
      rfl
    rw [this]
  · have c : (n == 0) = false := by simpa using hz
    have hl := itoa_len h0 h1
    have hp : n.natAbs < 10 ^ 19 := by omega
    simp only [go_sem, c, texttoolsref01_Format_J1_eq]
    rw [fmt_loop _ _ _ 19 n [] hp (by simp) h0 h1, texttoolsref01_Format_J2_eq]
    simp only [go_sem, List.append_nil, digsS]
    rw [if_neg (by omega : ¬ n.natAbs = 0)]
    unfold Lib.itoa at hl ⊢
    by_cases hneg : n < 0
    · have c2 : decide (n < 0) = true := by simpa using hneg
      rw [if_pos hneg] at hl ⊢
      simp at hl
      simp only [c2, go_sem, sbin_add (a := [45]) (b := Lib.decDigits n.natAbs) (by simp; omega), texttoolsref01_Format_J3_eq]
      rfl
    · have c2 : decide (n < 0) = false := by simpa using hneg
      rw [if_neg hneg]
      simp only [c2, go_sem, texttoolsref01_Format_J3_eq]
      have : n.natAbs = n.toNat := by omega
      rw [this]
end Go.Am
