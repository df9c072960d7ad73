/-
  Numbers and the parts of a key, as sortkey reads them.
-/
import Derived.Test.YtijddagljnlfmaaGreatDoorSkD
import Derived.Test.YtijddagljnlfmaaGreatDoorSkGR
namespace Go.Am
open Go.Proofs
set_option linter.unusedSimpArgs false
set_option linter.unusedVariables false

def isDig (b : UInt8) : Bool := decide ((48 : Int) ≤ (b.toNat : Int)) && decide ((b.toNat : Int) ≤ 57)
def digN (s : List UInt8) : Nat := (s.takeWhile isDig).length
theorem digN_nil : digN [] = 0 := rfl
theorem digN_cons (b : UInt8) (l : List UInt8) : digN (b :: l) = if isDig b then digN l + 1 else 0 := by
  unfold digN; rw [List.takeWhile_cons]; split <;> simp
theorem digN_le (l : List UInt8) : digN l ≤ l.length := by
  induction l with
  | nil => simp [digN_nil]
  | cons b l ih => rw [digN_cons]; split <;> simp; exact ih
theorem digN_take (l : List UInt8) : ∀ b ∈ l.take (digN l), isDig b = true := by
  induction l with
  | nil => simp [digN_nil]
  | cons b l ih =>
    rw [digN_cons]
    split
    · rename_i h
      intro x hx
      rw [List.take_succ_cons] at hx
      rcases List.mem_cons.1 hx with rfl | hx
      · exact h
      · exact ih x hx
    · simp
theorem digits_loop {s : List UInt8} (hs : s.length ≤ 4611686018427387904) (H0 H : Hp) : ∀ (k i : Nat), s.length - i = k → i ≤ s.length →
    sortkey_digits_L1 (.str s) (.int .i64 (i : Int)) H0 H = some (.int .i64 ((i + digN (s.drop i) : Nat) : Int), H) := by
  intro k
  induction k with
  | zero =>
    intro i hk hi
    rw [sortkey_digits_L1_eq]
    have hlt : decide ((i : Int) < (s.length : Int)) = false := by simp; omega
    have hd : s.drop i = [] := List.drop_eq_nil_iff.2 (by omega)
    simp only [go_sem, hlt, sortkey_digits_J1_eq, hd, digN_nil, Nat.add_zero]
  | succ k ih =>
    intro i hk hi
    rw [sortkey_digits_L1_eq]
    have h1 : i < s.length := by omega
    have hlt : decide ((i : Int) < (s.length : Int)) = true := by simp; omega
    have hw : IntKind.i64.wrap ((i : Int) + 1) = ((i + 1 : Nat) : Int) := by rw [wrap64 (by omega) (by omega)]; omega
    simp only [go_sem, hlt, aindexStr_of (List.getElem?_eq_getElem h1)]
    rw [drop_cons h1, digN_cons]
    unfold isDig
    cases e1 : decide ((48 : Int) ≤ (s[i].toNat : Int)) with
    | false => simp only [go_sem, sortkey_digits_J1_eq, Bool.false_and, Bool.false_eq_true, if_false, Nat.add_zero]
    | true =>
      simp only [go_sem, aindexStr_of (List.getElem?_eq_getElem h1), Bool.true_and]
      cases e2 : decide ((s[i].toNat : Int) ≤ 57) with
      | false => simp only [go_sem, sortkey_digits_J1_eq, Bool.false_eq_true, if_false, Nat.add_zero]
      | true =>
        simp only [go_sem, sortkey_digits_J2_eq, hw, if_true]
        rw [ih (i + 1) (by omega) (by omega)]
        rw [show i + 1 + digN (s.drop (i + 1)) = i + (digN (s.drop (i + 1)) + 1) by omega]
theorem digits_ok {s : List UInt8} (hs : s.length ≤ 4611686018427387904) (H : Hp) : flatC C_sortkey_digits [.str s] H = some (.int .i64 (digN s : Int), H) := by
  refine flat1 (a' := .str s) rfl (H1 := []) ((F_sortkey_digits_eq _ _).trans ?_) rfl
  have := digits_loop hs [] [] s.length 0 (by omega) (by omega)
  rw [List.drop_zero, Nat.zero_add] at this
  exact this

/-! The number that digits spell. -/
def decVal : Nat → List UInt8 → Nat
  | acc, [] => acc
  | acc, c :: r => decVal (acc * 10 + (c.toNat - 48)) r
theorem decVal_cons (acc : Nat) (c : UInt8) (r : List UInt8) : decVal acc (c :: r) = decVal (acc * 10 + (c.toNat - 48)) r := (Eq.refl _).trans (Eq.refl _)
theorem decVal_ge : ∀ (l : List UInt8) (acc : Nat), acc ≤ decVal acc l := by
  intro l
  induction l with
  | nil => intro acc; exact Nat.le_refl _
  | cons c r ih => intro acc; rw [decVal_cons]; have := ih (acc * 10 + (c.toNat - 48)); omega
theorem isDig_iff {b : UInt8} (h : isDig b = true) : 48 ≤ b.toNat ∧ b.toNat ≤ 57 := by
  unfold isDig at h
  simp only [Bool.and_eq_true, decide_eq_true_eq] at h
  omega
theorem parseU_dig : ∀ (l : List UInt8) (acc : Nat), (∀ b ∈ l, isDig b = true) → acc < 18446744073709551616 →
    Lib.parseUint10 acc l = if decVal acc l < 18446744073709551616 then .ok (decVal acc l) else .range := by
  intro l
  induction l with
  | nil => intro acc _ h; exact (if_pos h).symm
  | cons c r ih =>
    intro acc hd h
    have hc := isDig_iff (hd c (by simp))
    have hg := decVal_ge r (acc * 10 + (c.toNat - 48))
    simp only [Lib.parseUint10, decVal_cons]
    rw [if_pos hc]
    by_cases h1 : 1844674407370955162 ≤ acc
    · rw [if_pos h1, if_neg (by omega)]
    · rw [if_neg h1]
      by_cases h2 : 18446744073709551616 ≤ acc * 10 + (c.toNat - 48)
      · rw [if_pos h2, if_neg (by omega)]
      · rw [if_neg h2]
        exact ih _ (fun b hb => hd b (by simp [hb])) (by omega)
theorem atoi_dig {l : List UInt8} (hd : ∀ b ∈ l, isDig b = true) (hne : l ≠ []) : Lib.atoiAll l = if decVal 0 l < 9223372036854775808 then .ok ((decVal 0 l : Nat) : Int) else .range := by
  cases l with
  | nil => exact absurd rfl hne
  | cons c r =>
    have hc := isDig_iff (hd c (by simp))
    have h43 : ¬ (c.toNat = 43 ∨ c.toNat = 45) := by omega
    have h45 : ¬ c.toNat = 45 := by omega
    unfold Lib.atoiAll
    dsimp only
    rw [if_neg h43]
    unfold Lib.parseMag
    rw [if_neg (by simp : ¬ (c :: r) = []), parseU_dig (c :: r) 0 hd (by decide)]
    simp only [h45, not_false_eq_true, true_and, false_and, if_false]
    by_cases h1 : decVal 0 (c :: r) < 18446744073709551616
    · rw [if_pos h1]
      by_cases h2 : decVal 0 (c :: r) < 9223372036854775808
      · rw [if_pos h2]
        simp only
        rw [if_neg (by omega)]
      · rw [if_neg h2]
        simp only
        rw [if_pos (by omega)]
    · rw [if_neg h1, if_neg (by omega)]
/-- Do digits spell a number as it is written? -/
def decB (k : List UInt8) : Bool := match k with
  | [] => false
  | c :: r => !(c == 48 && !(r == []))
def numP (k : List UInt8) : Int × Int := if decB k then (if decVal 0 k < 9223372036854775808 then ((decVal 0 k : Nat), 0) else (0, 9)) else (0, 1)
theorem decimal_loop {k : List UInt8} (hd : ∀ b ∈ k, isDig b = true) (hk : k.length ≤ 4611686018427387904) (H0 H : Hp) : ∀ (m i : Nat), k.length - i = m → i ≤ k.length →
    num_decimal_L1 (.str k) (.int .i64 (k.length : Int)) (.int .i64 (i : Int)) H0 H = some (.bool true, H) := by
  intro m
  induction m with
  | zero =>
    intro i hm hi
    rw [num_decimal_L1_eq]
    have hlt : decide ((i : Int) < (k.length : Int)) = false := by simp; omega
    simp only [go_sem, hlt, num_decimal_J3_eq]
  | succ m ih =>
    intro i hm hi
    rw [num_decimal_L1_eq]
    have h1 : i < k.length := by omega
    have hlt : decide ((i : Int) < (k.length : Int)) = true := by simp; omega
    have hw : IntKind.i64.wrap ((i : Int) + 1) = ((i + 1 : Nat) : Int) := by rw [wrap64 (by omega) (by omega)]; omega
    have hc := isDig_iff (hd k[i] (List.getElem_mem h1))
    have e1 : decide ((k[i].toNat : Int) < 48) = false := by simp; omega
    have e2 : decide ((57 : Int) < (k[i].toNat : Int)) = false := by simp; omega
    simp only [go_sem, hlt, num_decimal_J4_eq, aindexStr_of (List.getElem?_eq_getElem h1), e1, e2, num_decimal_J5_eq, hw]
    exact ih (i + 1) (by omega) (by omega)
theorem decimal_ok {k : List UInt8} (hd : ∀ b ∈ k, isDig b = true) (hk : k.length ≤ 4611686018427387904) (H : Hp) : flatC C_num_decimal [.str k] H = some (.bool (decB k), H) := by
  refine flat1 (a' := .str k) rfl (H1 := []) ((F_num_decimal_eq _ _).trans ?_) rfl
  unfold F_num_decimal decB
  cases k with
  | nil =>
    have c2 : (([] : List UInt8) == []) = true := rfl
    simp only [go_sem, c2, Bool.not_true, num_decimal_J1_eq, c2]
  | cons b r =>
    have hb := isDig_iff (hd b (by simp))
    have c0 : ((b :: r) == []) = false := rfl
    have c1 : ((b.toNat : Int) == 45) = false := by simp; omega
    have c2 : ((b.toNat : Int) == 48) = (b == 48) := u8eq b 48 (by decide)
    have hix : aindexStr (.str (b :: r)) (.int .i64 0) = some (.int .u8 b.toNat) := aindexStr_of (s := b :: r) (i := 0) rfl
    have c3 : (!((b :: r) == [48])) = (!(b == 48 && (r == []))) := by rw [List.cons_beq_cons]
    have hj2 : num_decimal_J2 (.str (b :: r)) [] [] = some (.bool true, []) := by
      rw [num_decimal_J2_eq]
      simp only [go_sem]
      exact decimal_loop hd hk [] [] _ 0 rfl (by omega)
    simp only [go_sem, c0, Bool.not_false, hix, c1, num_decimal_J1_eq, c2]
    cases e : (b == 48) with
    | false => simp only [go_sem, hj2, Bool.false_and, Bool.not_false]
    | true =>
      simp only [go_sem, c3, e, Bool.true_and]
      cases e2 : (r == []) with
      | true => simp only [go_sem, Bool.not_true, hj2, Bool.not_false]
      | false => simp only [go_sem, Bool.not_false, Bool.not_true]
theorem ebinI_err (t : TypeId) (v : AV) : ebinI .neq (.iface t v) .nili = some (.bool true) := (Eq.refl _).trans (Eq.refl _)
theorem numParse_ok {k : List UInt8} (hd : ∀ b ∈ k, isDig b = true) (hk : k.length ≤ 281474976710656) (H : Hp) : flatC C_num_Parse [.str k] H = some (.tuple [.int .i64 (numP k).1, .int .i64 (numP k).2], H) := by
  refine flat1 (a' := .str k) rfl (H1 := []) ((F_num_Parse_eq _ _).trans ?_) rfl
  unfold F_num_Parse numP
  simp only [decimal_ok hd (by omega), go_sem]
  cases e : decB k with
  | false => simp only [go_sem, Bool.not_false, Bool.false_eq_true, if_false]
  | true =>
    have hne : k ≠ [] := by intro h; rw [h] at e; cases e
    have ha : atoiA [.str k] = some (match Lib.atoiAll k with | .ok v => .tuple [.int .i64 v, .nili] | .range => .tuple [.int .i64 (Lib.atoiSat k), .iface errT .undef] | _ => .tuple [.int .i64 0, .iface errT .undef]) := by
      show (if k.length ≤ 281474976710656 then _ else _) = _
      rw [if_pos hk]
      rfl
    rw [atoi_dig hd hne] at ha
    simp only [go_sem, Bool.not_true, num_Parse_J1_eq, sumC, ha, if_true]
    by_cases h : decVal 0 k < 9223372036854775808
    · simp only [if_pos h, go_sem, List.getElem?_cons_zero, List.getElem?_cons_succ, num_Parse_J2_eq]
    · simp only [if_neg h, go_sem, List.getElem?_cons_zero, List.getElem?_cons_succ, ebinI_err]
theorem numP_fst (k : List UInt8) : 0 ≤ (numP k).1 ∧ (numP k).1 ≤ 9223372036854775807 := by
  unfold numP
  split
  · split
    · simp only; omega
    · simp
  · simp

/-! A part of a key. -/
structure Pl where
  field : Int
  chr : Int
  fl : Nat
  pt : Bool
  big : Bool
def Pl.cells (p : Pl) : List AV := [.int .i64 p.field, .int .i64 p.chr, .int .i64 p.fl, .bool p.pt, .bool p.big]
def pl0 : Pl := ⟨0, 0, 0, false, false⟩
theorem astore1 {H : Hp} {o i : Nat} {l : List AV} {v : AV} (h : H[o]? = some (.cells l)) (hv : v.known = true) (hs : v.cells = [v]) (hi : i < l.length) : astoreU 1 (.ptr o i) v H = some (.tuple [], H.set o (.cells (l.set i v))) := by
  unfold astoreU
  have : astore 1 (.ptr o i) v H = some (H.set o (.cells (splice l i v.cells))) := by
    have : i + 1 ≤ l.length := hi
    simp [astore, h, hv, hs, this]
  rw [this, hs]
  have hsp : splice l i [v] = l.set i v := by
    unfold splice
    apply List.ext_getElem?
    intro j
    rw [List.getElem?_set]
    by_cases hj : i = j
    · subst hj
      simp [hi, Nat.min_eq_left (Nat.le_of_lt hi)]
    · rw [if_neg hj]
      by_cases h2 : j < i
      · rw [List.append_assoc, List.getElem?_append_left (by simp; omega)]
        simp [h2]
      · rw [List.append_assoc, List.getElem?_append_right (by simp; omega)]
        simp only [List.length_take, Nat.min_eq_left (Nat.le_of_lt hi)]
        rw [List.getElem?_append_right (by simp; omega)]
        simp
        congr 1
        omega
  rw [hsp]
theorem set_same {H : Hp} {o : Nat} {x : AObj} (h : H[o]? = some x) : H.set o x = H := by
  apply List.ext_getElem?
  intro i
  by_cases hi : o = i
  · subst hi; rw [List.getElem?_set_self (lt_of_get h), h]
  · rw [List.getElem?_set_ne hi]
theorem get_set_self {H : Hp} {o : Nat} {x y : AObj} (h : H[o]? = some x) : (H.set o y)[o]? = some y := List.getElem?_set_self (lt_of_get h)
/-- A number at the beginning: its value, what follows, whether there is one, whether it is too big. -/
def numberS (s : List UInt8) : Int × List UInt8 × Bool × Bool :=
  if (numP (s.take (digN s))).2 = 9 then (1, s.drop (digN s), true, true) else ((numP (s.take (digN s))).1, s.drop (digN s), (numP (s.take (digN s))).2 == 0, false)
theorem number_spec {s : List UInt8} (hs : s.length ≤ 1048576) {H : Hp} {o : Nat} {p : Pl} (ho : H[o]? = some (.cells p.cells)) :
    C_sortkey_place_number [.ptr o 0, .str s] H = some (.tuple [.int .i64 (numberS s).1, .str (numberS s).2.1, .bool (numberS s).2.2.1], H.set o (.cells { p with big := p.big || (numberS s).2.2.2 }.cells)) := by
  rw [F_sortkey_place_number_eq]
  unfold F_sortkey_place_number numberS
  have hdl := digN_le s
  have hsl := asliceS_hi (s := s) (n := (digN s : Int)) .i64 (by omega) (by omega)
  have hsr := asliceS_lo (s := s) (n := (digN s : Int)) .i64 (by omega) (by omega)
  rw [show ((digN s : Int)).toNat = digN s by omega] at hsl hsr
  simp only [digits_ok (s := s) (by omega), go_sem, hsl, numParse_ok (digN_take s) (by simp; omega), List.getElem?_cons_zero, List.getElem?_cons_succ]
  by_cases h9 : (numP (s.take (digN s))).2 = 9
  · have c : ((numP (s.take (digN s))).2 == 9) = true := by simpa using h9
    simp only [c, go_sem, Nat.zero_add, if_pos h9, hsr, Bool.or_true]
    rw [astore1 ho rfl rfl (by simp [Pl.cells])]
    rfl
  · have c : ((numP (s.take (digN s))).2 == 9) = false := by simpa using h9
    simp only [c, go_sem, if_neg h9, sortkey_place_number_J1_eq, hsr, Bool.or_false]
    rw [set_same ho]
/-- Flags at the beginning. -/
def flagV (c : UInt8) : Nat := if c = 98 then 8 else if c = 100 then 16 else if c = 102 then 4 else if c = 110 then 1 else if c = 114 then 2 else 0
theorem flagV_lt (c : UInt8) : flagV c < 32 := by unfold flagV; repeat' split
                                                  all_goals decide
theorem flag_spec (c : UInt8) (H : Hp) : flatC C_sortkey_flag [.int .u8 c.toNat] H = some (.int .i64 (flagV c : Nat), H) := by
  refine flat1 (a' := .int .u8 c.toNat) rfl (H1 := []) ((F_sortkey_flag_eq _ _).trans ?_) rfl
  unfold F_sortkey_flag flagV
  have e : ∀ n : Nat, n < 256 → ((c.toNat : Int) == (n : Int)) = (c == UInt8.ofNat n) := fun n h => u8eq c n h
  have e1 : ((c.toNat : Int) == 98) = (c == 98) := e 98 (by decide)
  have e2 : ((c.toNat : Int) == 100) = (c == 100) := e 100 (by decide)
  have e3 : ((c.toNat : Int) == 102) = (c == 102) := e 102 (by decide)
  have e4 : ((c.toNat : Int) == 110) = (c == 110) := e 110 (by decide)
  have e5 : ((c.toNat : Int) == 114) = (c == 114) := e 114 (by decide)
  simp only [go_sem, e1]
  by_cases h1 : c = 98
  · have d : (c == 98) = true := by simpa using h1
    simp only [d, go_sem, if_pos h1]; rfl
  have d : (c == 98) = false := by simpa using h1
  simp only [d, go_sem, if_neg h1, e2]
  by_cases h2 : c = 100
  · have d : (c == 100) = true := by simpa using h2
    simp only [d, go_sem, if_pos h2]; rfl
  have d : (c == 100) = false := by simpa using h2
  simp only [d, go_sem, if_neg h2, e3]
  by_cases h3 : c = 102
  · have d : (c == 102) = true := by simpa using h3
    simp only [d, go_sem, if_pos h3]; rfl
  have d : (c == 102) = false := by simpa using h3
  simp only [d, go_sem, if_neg h3, e4]
  by_cases h4 : c = 110
  · have d : (c == 110) = true := by simpa using h4
    simp only [d, go_sem, if_pos h4]; rfl
  have d : (c == 110) = false := by simpa using h4
  simp only [d, go_sem, if_neg h4, e5]
  by_cases h5 : c = 114
  · have d : (c == 114) = true := by simpa using h5
    simp only [d, go_sem, if_pos h5]; rfl
  have d : (c == 114) = false := by simpa using h5
  simp only [d, go_sem, if_neg h5, sortkey_flag_J1_eq]
  rfl
def chkOr (n j : Nat) : Bool := match ibin .or (.int .i64 n) (.int .i64 j) with
  | some (.int .i64 m) => m == ((n ||| j : Nat) : Int) && decide (n ||| j < 32)
  | _ => false
theorem chkOr_all : ((List.range 32).all fun n => (List.range 32).all fun j => chkOr n j) = true := by kernel_rfl
theorem or_ok {n j : Nat} (hn : n < 32) (hj : j < 32) : ibin .or (.int .i64 n) (.int .i64 j) = some (.int .i64 ((n ||| j : Nat) : Int)) ∧ n ||| j < 32 := by
  have h := all_range (all_range chkOr_all hn) hj
  unfold chkOr at h
  split at h
  · rename_i m hm
    simp only [Bool.and_eq_true, beq_iff_eq, decide_eq_true_eq] at h
    rw [hm, h.1]
    exact ⟨rfl, h.2⟩
  · cases h
def flagsS : List UInt8 → Nat → Nat × List UInt8
  | [], f => (f, [])
  | c :: r, f => if flagV c = 0 then (f, c :: r) else flagsS r (f ||| flagV c)
theorem flagsS_cons (c : UInt8) (r : List UInt8) (f : Nat) : flagsS (c :: r) f = if flagV c = 0 then (f, c :: r) else flagsS r (f ||| flagV c) := (Eq.refl _).trans (Eq.refl _)
theorem flagsS_lt : ∀ (s : List UInt8) (f : Nat), f < 32 → (flagsS s f).1 < 32 := by
  intro s
  induction s with
  | nil => intro f h; exact h
  | cons c r ih => intro f h; rw [flagsS_cons]; split; exact h; exact ih _ (or_ok h (flagV_lt c)).2
theorem flagsS_len : ∀ (s : List UInt8) (f : Nat), (flagsS s f).2.length ≤ s.length := by
  intro s
  induction s with
  | nil => intro f; exact Nat.le_refl _
  | cons c r ih => intro f; rw [flagsS_cons]; split; exact Nat.le_refl _; have := ih (f ||| flagV c); simp; omega
theorem flags_loop (H0 : Hp) {o : Nat} : ∀ (s : List UInt8) (p : Pl) (H : Hp), p.fl < 32 → H[o]? = some (.cells p.cells) →
    sortkey_place_read_L1 (.ptr o 0) (.str s) (.bool true) H0 H = some (.tuple [.str (flagsS s p.fl).2, .bool true], H.set o (.cells { p with fl := (flagsS s p.fl).1 }.cells)) := by
  intro s
  induction s with
  | nil =>
    intro p H hp ho
    rw [sortkey_place_read_L1_eq]
    have c : (!(([] : List UInt8) == [])) = false := rfl
    simp only [go_sem, c, sortkey_place_read_J2_eq, flagsS]
    rw [set_same ho]
  | cons b r ih =>
    intro p H hp ho
    rw [sortkey_place_read_L1_eq, flagsS_cons]
    have c : (!((b :: r) == [])) = true := rfl
    have hix : aindexStr (.str (b :: r)) (.int .i64 0) = some (.int .u8 b.toNat) := aindexStr_of (s := b :: r) (i := 0) rfl
    have hsl := asliceS_lo (s := b :: r) (n := (1 : Int)) .i64 (by omega) (by simp only [List.length_cons]; omega)
    rw [show ((1 : Int)).toNat = 1 from rfl, List.drop_one, List.tail_cons] at hsl
    simp only [go_sem, c, hix, flag_spec]
    by_cases hz : flagV b = 0
    · have c2 : (((flagV b : Nat) : Int) != 0) = false := by simp; omega
      simp only [c2, go_sem, sortkey_place_read_J2_eq, if_pos hz]
      rw [set_same ho]
    · have c2 : (((flagV b : Nat) : Int) != 0) = true := by simp; omega
      obtain ⟨q1, q2⟩ := or_ok hp (flagV_lt b)
      have hl : aload false 1 (.ptr o 2) H = some (.int .i64 p.fl) := by rw [aload_f1 ho]; rfl
      simp only [c2, go_sem, sortkey_place_read_J3_eq, Nat.zero_add, hl, hix, flag_spec, q1, if_neg hz]
      rw [astore1 ho rfl rfl (by simp [Pl.cells])]
      simp only [go_sem, hsl]
      have ho2 : (H.set o (.cells (p.cells.set 2 (.int .i64 ((p.fl ||| flagV b : Nat) : Int)))))[o]? = some (.cells { p with fl := p.fl ||| flagV b }.cells) := get_set_self ho
      rw [ih { p with fl := p.fl ||| flagV b } _ q2 ho2, List.set_set]
def readU (n : Int) (big : Bool) : Int × List UInt8 × Bool × Bool → Pl × List UInt8 × Bool
  | (n2, r2, ok2, big2) => if ok2 then (⟨n, n2, (flagsS r2 0).1, true, big || big2⟩, (flagsS r2 0).2, true) else (⟨n, n2, 0, true, big || big2⟩, r2, false)
def readT : Int × List UInt8 × Bool × Bool → Pl × List UInt8 × Bool
  | (n, r, ok, big) => if ok && (r.head? == some 46) then readU n big (numberS r.tail)
    else if ok then (⟨n, 0, (flagsS r 0).1, false, big⟩, (flagsS r 0).2, true) else (⟨n, 0, 0, false, big⟩, r, false)
def readS (s : List UInt8) : Pl × List UInt8 × Bool := readT (numberS s)
theorem prefix1 (s : List UInt8) (c : UInt8) (H : Hp) (hs : s.length ≤ 4611686018427387904) : C_strings_HasPrefix [.str s, .str [c]] H = some (.bool (s.head? == some c), H) := by
  rw [F_strings_HasPrefix_eq]
  unfold F_strings_HasPrefix
  rw [F_internal_stringslite_HasPrefix_eq]
  unfold F_internal_stringslite_HasPrefix
  cases s with
  | nil =>
    have c1 : decide (((([c] : List UInt8).length : Nat) : Int) ≤ ((([] : List UInt8).length : Nat) : Int)) = false := by simp
    simp only [go_sem, c1]
    rfl
  | cons b r =>
    have c1 : decide (((([c] : List UInt8).length : Nat) : Int) ≤ (((b :: r).length : Nat) : Int)) = true := by simp; omega
    have hsl := asliceS_hi (s := b :: r) (n := ((([c] : List UInt8).length : Nat) : Int)) .i64 (by simp) (by simp; omega)
    rw [show ((([c] : List UInt8).length : Nat) : Int).toNat = 1 from rfl, show (b :: r).take 1 = [b] from rfl] at hsl
    simp only [go_sem, c1, hsl]
    have : (([b] : List UInt8) == [c]) = ((b :: r).head? == some c) := by
      rw [Bool.eq_iff_iff]; simp
    rw [this]
theorem numberS_len (s : List UInt8) : (numberS s).2.1.length ≤ s.length := by
  unfold numberS
  split <;> simp
theorem z0 : ((0 : Nat) : Int) = 0 := rfl
theorem read_spec {s : List UInt8} (hs : s.length ≤ 1048576) {H : Hp} {o : Nat} (ho : H[o]? = some (.cells pl0.cells)) :
    C_sortkey_place_read [.ptr o 0, .str s] H = some (.tuple [.str (readS s).2.1, .bool (readS s).2.2], H.set o (.cells (readS s).1.cells)) := by
  rw [F_sortkey_place_read_eq]
  unfold F_sortkey_place_read readS
  have hl1 := numberS_len s
  have hn := number_spec hs ho
  rcases ha : numberS s with ⟨n, r, ok, big⟩
  rw [ha] at hl1 hn
  simp only at hl1
  have ho1 : (H.set o (.cells { pl0 with big := pl0.big || big }.cells))[o]? = some (.cells [.int .i64 0, .int .i64 0, .int .i64 0, .bool false, .bool big]) := by
    rw [get_set_self ho]
    simp [Pl.cells, pl0]
  simp only [hn, go_sem, List.getElem?_cons_zero, List.getElem?_cons_succ, Nat.zero_add]
  rw [astore1 ho1 rfl rfl (by simp)]
  have fin : ∀ (p : Pl) (r : List UInt8) (ok : Bool) (X : AObj), p.fl = 0 → sortkey_place_read_J1 (.ptr o 0) (.str r) (.bool ok) H (H.set o (.cells p.cells)) =
      some (if ok then (.tuple [.str (flagsS r 0).2, .bool true], H.set o (.cells { p with fl := (flagsS r 0).1 }.cells)) else (.tuple [.str r, .bool false], H.set o (.cells p.cells))) := by
    intro p r ok X hp
    rw [sortkey_place_read_J1_eq]
    cases ok with
    | true =>
      rw [flags_loop H r p _ (by omega) (get_set_self ho), hp, List.set_set]
      rfl
    | false =>
      rw [sortkey_place_read_L1_eq]
      simp only [go_sem, sortkey_place_read_J2_eq]
      rfl
  have hp1 := prefix1 r 46
  simp only [go_sem, List.set_set, List.set_cons_zero]
  cases ok with
  | false =>
    simp only [go_sem, readT, Bool.false_and, Bool.false_eq_true, if_false]
    have := fin ⟨n, 0, 0, false, big⟩ r false .dead rfl
    simp only [Pl.cells, z0, Bool.false_eq_true, if_false] at this ⊢
    exact this
  | true =>
    simp only [go_sem, hp1 _ (by omega), readT, Bool.true_and]
    cases hh : (r.head? == some 46) with
    | false =>
      simp only [go_sem, Bool.false_eq_true, if_false, if_true]
      have := fin ⟨n, 0, 0, false, big⟩ r true .dead rfl
      simp only [Pl.cells, z0, if_true] at this ⊢
      exact this
    | true =>
      have he : r.head? = some 46 := by simpa using hh
      obtain ⟨r', rfl⟩ : ∃ r', r = 46 :: r' := by
        cases r with
        | nil => simp at he
        | cons x r' => simp at he; exact ⟨r', by rw [he]⟩
      have hsl := asliceS_lo (s := 46 :: r') (n := (1 : Int)) .i64 (by omega) (by simp only [List.length_cons]; omega)
      rw [show ((1 : Int)).toNat = 1 from rfl, List.drop_one, List.tail_cons] at hsl
      have ho2 : (H.set o (.cells [.int .i64 n, .int .i64 0, .int .i64 0, .bool false, .bool big]))[o]? = some (.cells [.int .i64 n, .int .i64 0, .int .i64 0, .bool false, .bool big]) := get_set_self ho
      simp only [go_sem, if_true, List.tail_cons]
      rw [astore1 ho2 rfl rfl (by simp)]
      simp only [go_sem, hsl, List.set_set, List.set_cons_succ, List.set_cons_zero]
      have hl2 := numberS_len r'
      have ho3 : (H.set o (.cells [.int .i64 n, .int .i64 0, .int .i64 0, .bool true, .bool big]))[o]? = some (.cells (⟨n, 0, 0, true, big⟩ : Pl).cells) := get_set_self ho
      have hn2 := number_spec (s := r') (by simp at hl1; omega) ho3
      rcases hb : numberS r' with ⟨n2, r2, ok2, big2⟩
      rw [hb] at hl2 hn2
      simp only [Pl.cells, z0] at hn2
      simp only [hn2, go_sem, List.getElem?_cons_zero, List.getElem?_cons_succ, Nat.zero_add, List.set_set]
      have ho4 : (H.set o (.cells [.int .i64 n, .int .i64 0, .int .i64 0, .bool true, .bool (big || big2)]))[o]? = some (.cells [.int .i64 n, .int .i64 0, .int .i64 0, .bool true, .bool (big || big2)]) := get_set_self ho
      rw [astore1 ho4 rfl rfl (by simp)]
      simp only [go_sem, List.set_set, List.set_cons_succ, List.set_cons_zero, readU]
      have := fin ⟨n, n2, 0, true, big || big2⟩ r2 ok2 .dead rfl
      cases ok2 with
      | true => simp only [Pl.cells, z0, if_true] at this ⊢; exact this
      | false => simp only [Pl.cells, z0, Bool.false_eq_true, if_false] at this ⊢; exact this
end Go.Am
