/-
  Numbers and the parts of a key, as sortkey reads them.
-/
import Derived.Test.YtijddagljnlfmaaGreatDoorTkBx
import Derived.Test.YtijddagljnlfmaaGreatDoorTkGRx
namespace Go.Am
open Go.Proofs
set_option linter.unusedSimpArgs false
set_option linter.unusedVariables false

def isDig (b : UInt8) : Bool := decide ((48 : Int) ≤ (b.toNat : Int)) && decide ((b.toNat : Int) ≤ 57)
def digN (s : List UInt8) : Nat := (s.takeWhile isDig).length
theorem digN_nil : digN [] = 0 := rfl
theorem digN_cons (b : UInt8) (l : List UInt8) : digN (b :: l) = if isDig b then digN l + 1 else 0 := by
  unfold digN; rw [List.takeWhile_cons]; split <;> simp
theorem digN_le (l : List UInt8) : digN l ≤ l.length := by
  induction l with
  | nil => simp [digN_nil]
  | cons b l ih => rw [digN_cons]; split <;> simp; exact ih
theorem digN_take (l : List UInt8) : ∀ b ∈ l.take (digN l), isDig b = true := by
  induction l with
  | nil => simp [digN_nil]
  | cons b l ih =>
    rw [digN_cons]
    split
    · rename_i h
      intro x hx
      rw [List.take_succ_cons] at hx
      rcases List.mem_cons.1 hx with rfl | hx
      · exact h
      · exact ih x hx
    · simp
theorem digits_loop {s : List UInt8} (hs : s.length ≤ 4611686018427387904) (H0 H : Hp) : ∀ (k i : Nat), s.length - i = k → i ≤ s.length →
    sortkey_digits_L1 (.str s) (.int .i64 (i : Int)) H0 H = some (.int .i64 ((i + digN (s.drop i) : Nat) : Int), H) := by
  intro k
  induction k with
  | zero =>
    intro i hk hi
    rw [sortkey_digits_L1_eq]
    have hlt : decide ((i : Int) < (s.length : Int)) = false := by simp; omega
    have hd : s.drop i = [] := List.drop_eq_nil_iff.2 (by omega)
    simp only [go_sem, hlt, sortkey_digits_J1_eq, hd, digN_nil, Nat.add_zero]
  | succ k ih =>
    intro i hk hi
    rw [sortkey_digits_L1_eq]
    have h1 : i < s.length := by omega
    have hlt : decide ((i : Int) < (s.length : Int)) = true := by simp; omega
    have hw : IntKind.i64.wrap ((i : Int) + 1) = ((i + 1 : Nat) : Int) := by rw [wrap64 (by omega) (by omega)]; omega
    simp only [go_sem, hlt, aindexStr_of (List.getElem?_eq_getElem h1)]
    rw [drop_cons h1, digN_cons]
    unfold isDig
    cases e1 : decide ((48 : Int) ≤ (s[i].toNat : Int)) with
    | false => simp only [go_sem, sortkey_digits_J1_eq, Bool.false_and, Bool.false_eq_true, if_false, Nat.add_zero]
    | true =>
      simp only [go_sem, aindexStr_of (List.getElem?_eq_getElem h1), Bool.true_and]
      cases e2 : decide ((s[i].toNat : Int) ≤ 57) with
      | false => simp only [go_sem, sortkey_digits_J1_eq, Bool.false_eq_true, if_false, Nat.add_zero]
      | true =>
        simp only [go_sem, sortkey_digits_J2_eq, hw, if_true]
        rw [ih (i + 1) (by omega) (by omega)]
        rw [show i + 1 + digN (s.drop (i + 1)) = i + (digN (s.drop (i + 1)) + 1) by omega]
theorem digits_ok {s : List UInt8} (hs : s.length ≤ 4611686018427387904) (H : Hp) : flatC C_sortkey_digits [.str s] H = some (.int .i64 (digN s : Int), H) := by
  refine flat1 (a' := .str s) rfl (H1 := []) ((F_sortkey_digits_eq _ _).trans ?_) rfl
  have := digits_loop hs [] [] s.length 0 (by omega) (by omega)
  rw [List.drop_zero, Nat.zero_add] at this
  exact this

/-! The number that digits spell. -/
def decVal : Nat → List UInt8 → Nat
  | acc, [] => acc
  | acc, c :: r => decVal (acc * 10 + (c.toNat - 48)) r
theorem decVal_cons (acc : Nat) (c : UInt8) (r : List UInt8) : decVal acc (c :: r) = decVal (acc * 10 + (c.toNat - 48)) r := (Eq.refl _).trans (Eq.refl _)
theorem decVal_ge : ∀ (l : List UInt8) (acc : Nat), acc ≤ decVal acc l := by
  intro l
  induction l with
  | nil => intro acc; exact Nat.le_refl _
  | cons c r ih => intro acc; rw [decVal_cons]; have := ih (acc * 10 + (c.toNat - 48)); omega
theorem isDig_iff {b : UInt8} (h : isDig b = true) : 48 ≤ b.toNat ∧ b.toNat ≤ 57 := by
  unfold isDig at h
  simp only [Bool.and_eq_true, decide_eq_true_eq] at h
  omega
theorem parseU_dig : ∀ (l : List UInt8) (acc : Nat), (∀ b ∈ l, isDig b = true) → acc < 18446744073709551616 →
    Lib.parseUint10 acc l = if decVal acc l < 18446744073709551616 then .ok (decVal acc l) else .range := by
  intro l
  induction l with
  | nil => intro acc _ h; exact (if_pos h).symm
  | cons c r ih =>
    intro acc hd h
    have hc := isDig_iff (hd c (by simp))
    have hg := decVal_ge r (acc * 10 + (c.toNat - 48))
    simp only [Lib.parseUint10, decVal_cons]
    rw [if_pos hc]
    by_cases h1 : 1844674407370955162 ≤ acc
    · rw [if_pos h1, if_neg (by omega)]
    · rw [if_neg h1]
      by_cases h2 : 18446744073709551616 ≤ acc * 10 + (c.toNat - 48)
      · rw [if_pos h2, if_neg (by omega)]
      · rw [if_neg h2]
        exact ih _ (fun b hb => hd b (by simp [hb])) (by omega)
theorem atoi_dig {l : List UInt8} (hd : ∀ b ∈ l, isDig b = true) (hne : l ≠ []) : Lib.atoiAll l = if decVal 0 l < 9223372036854775808 then .ok ((decVal 0 l : Nat) : Int) else .range := by
  cases l with
  | nil => exact absurd rfl hne
  | cons c r =>
    have hc := isDig_iff (hd c (by simp))
    have h43 : ¬ (c.toNat = 43 ∨ c.toNat = 45) := by omega
    have h45 : ¬ c.toNat = 45 := by omega
    unfold Lib.atoiAll
    dsimp only
    rw [if_neg h43]
    unfold Lib.parseMag
    rw [if_neg (by simp : ¬ (c :: r) = []), parseU_dig (c :: r) 0 hd (by decide)]
    simp only [h45, not_false_eq_true, true_and, false_and, if_false]
    by_cases h1 : decVal 0 (c :: r) < 18446744073709551616
    · rw [if_pos h1]
      by_cases h2 : decVal 0 (c :: r) < 9223372036854775808
      · rw [if_pos h2]
        simp only
        rw [if_neg (by omega)]
      · rw [if_neg h2]
        simp only
        rw [if_pos (by omega)]
    · rw [if_neg h1, if_neg (by omega)]
/-- Do digits spell a number as it is written? -/
def decB (k : List UInt8) : Bool := match k with
  | [] => false
  | c :: r => !(c == 48 && !(r == []))
def numP (k : List UInt8) : Int × Int := if decB k then (if decVal 0 k < 9223372036854775808 then ((decVal 0 k : Nat), 0) else (0, 9)) else (0, 1)
theorem decimal_loop {k : List UInt8} (hd : ∀ b ∈ k, isDig b = true) (hk : k.length ≤ 4611686018427387904) (H0 H : Hp) : ∀ (m i : Nat), k.length - i = m → i ≤ k.length →
    num_decimal_L1 (.str k) (.int .i64 (k.length : Int)) (.int .i64 (i : Int)) H0 H = some (.bool true, H) := by
  intro m
  induction m with
  | zero =>
    intro i hm hi
    rw [num_decimal_L1_eq]
    have hlt : decide ((i : Int) < (k.length : Int)) = false := by simp; omega
    simp only [go_sem, hlt, num_decimal_J3_eq]
  | succ m ih =>
    intro i hm hi
    rw [num_decimal_L1_eq]
    have h1 : i < k.length := by omega
    have hlt : decide ((i : Int) < (k.length : Int)) = true := by simp; omega
    have hw : IntKind.i64.wrap ((i : Int) + 1) = ((i + 1 : Nat) : Int) := by rw [wrap64 (by omega) (by omega)]; omega
    have hc := isDig_iff (hd k[i] (List.getElem_mem h1))
    have e1 : decide ((k[i].toNat : Int) < 48) = false := by simp; omega
    have e2 : decide ((57 : Int) < (k[i].toNat : Int)) = false := by simp; omega
    simp only [go_sem, hlt, num_decimal_J4_eq, aindexStr_of (List.getElem?_eq_getElem h1), e1, e2, num_decimal_J5_eq, hw]
    exact ih (i + 1) (by omega) (by omega)
theorem decimal_ok {k : List UInt8} (hd : ∀ b ∈ k, isDig b = true) (hk : k.length ≤ 4611686018427387904) (H : Hp) : flatC C_num_decimal [.str k] H = some (.bool (decB k), H) := by
  refine flat1 (a' := .str k) rfl (H1 := []) ((F_num_decimal_eq _ _).trans ?_) rfl
  unfold F_num_decimal decB
  cases k with
  | nil =>
    have c2 : (([] : List UInt8) == []) = true := rfl
    simp only [go_sem, c2, Bool.not_true, num_decimal_J1_eq, c2]
  | cons b r =>
    have hb := isDig_iff (hd b (by simp))
    have c0 : ((b :: r) == []) = false := rfl
    have c1 : ((b.toNat : Int) == 45) = false := by simp; omega
    have c2 : ((b.toNat : Int) == 48) = (b == 48) := u8eq b 48 (by decide)
    have hix : aindexStr (.str (b :: r)) (.int .i64 0) = some (.int .u8 b.toNat) := aindexStr_of (s := b :: r) (i := 0) rfl
    have c3 : (!((b :: r) == [48])) = (!(b == 48 && (r == []))) := by rw [List.cons_beq_cons]
    have hj2 : num_decimal_J2 (.str (b :: r)) [] [] = some (.bool true, []) := by
      rw [num_decimal_J2_eq]
      simp only [go_sem]
      exact decimal_loop hd hk [] [] _ 0 rfl (by omega)
    simp only [go_sem, c0, Bool.not_false, hix, c1, num_decimal_J1_eq, c2]
    cases e : (b == 48) with
    | false => simp only [go_sem, hj2, Bool.false_and, Bool.not_false]
    | true =>
      simp only [go_sem, c3, e, Bool.true_and]
      cases e2 : (r == []) with
      | true => simp only [go_sem, Bool.not_true, hj2, Bool.not_false]
      | false => simp only [go_sem, Bool.not_false, Bool.not_true]
theorem ebinI_err (t : TypeId) (v : AV) : ebinI .neq (.iface t v) .nili = some (.bool true) := (Eq.refl _).trans (Eq.refl _)
theorem numParse_ok {k : List UInt8} (hd : ∀ b ∈ k, isDig b = true) (hk : k.length ≤ 281474976710656) (H : Hp) : flatC C_num_Parse [.str k] H = some (.tuple [.int .i64 (numP k).1, .int .i64 (numP k).2], H) := by
  refine flat1 (a' := .str k) rfl (H1 := []) ((F_num_Parse_eq _ _).trans ?_) rfl
  unfold F_num_Parse numP
  simp only [decimal_ok hd (by omega), go_sem]
  cases e : decB k with
  | false => simp only [go_sem, Bool.not_false, Bool.false_eq_true, if_false]
  | true =>
    have hne : k ≠ [] := by intro h; rw [h] at e; cases e
    have ha : atoiA [.str k] = some (match Lib.atoiAll k with | .ok v => .tuple [.int .i64 v, .nili] | .range => .tuple [.int .i64 (Lib.atoiSat k), .iface errT .undef] | _ => .tuple [.int .i64 0, .iface errT .undef]) := by
      show (if k.length ≤ 281474976710656 then _ else _) = _
      rw [if_pos hk]
      rfl
    rw [atoi_dig hd hne] at ha
    simp only [go_sem, Bool.not_true, num_Parse_J1_eq, sumC, ha, if_true]
    by_cases h : decVal 0 k < 9223372036854775808
    · simp only [if_pos h, go_sem, List.getElem?_cons_zero, List.getElem?_cons_succ, num_Parse_J2_eq]
    · simp only [if_neg h, go_sem, List.getElem?_cons_zero, List.getElem?_cons_succ, ebinI_err]
theorem numP_fst (k : List UInt8) : 0 ≤ (numP k).1 ∧ (numP k).1 ≤ 9223372036854775807 := by
  unfold numP
  split
  · split
    · simp only; omega
    · simp
  · simp

/-! A part of a key. -/
structure Pl where
  field : Int
  chr : Int
  fl : Nat
  pt : Bool
  big : Bool
def Pl.cells (p : Pl) : List AV := [.int .i64 p.field, .int .i64 p.chr, .int .i64 p.fl, .bool p.pt, .bool p.big]
def pl0 : Pl := ⟨0, 0, 0, false, false⟩
theorem astore1 {H : Hp} {o i : Nat} {l : List AV} {v : AV} (h : H[o]? = some (.cells l)) (hv : v.known = true) (hs : v.cells = [v]) (hi : i < l.length) : astoreU 1 (.ptr o i) v H = some (.tuple [], H.set o (.cells (l.set i v))) := by
  unfold astoreU
  have : astore 1 (.ptr o i) v H = some (H.set o (.cells (splice l i v.cells))) := by
    have : i + 1 ≤ l.length := hi
    simp [astore, h, hv, hs, this]
  rw [this, hs]
  have hsp : splice l i [v] = l.set i v := by
    unfold splice
    apply List.ext_getElem?
    intro j
    rw [List.getElem?_set]
    by_cases hj : i = j
    · subst hj
      simp [hi, Nat.min_eq_left (Nat.le_of_lt hi)]
    · rw [if_neg hj]
      by_cases h2 : j < i
      · rw [List.append_assoc, List.getElem?_append_left (by simp; omega)]
        simp [h2]
      · rw [List.append_assoc, List.getElem?_append_right (by simp; omega)]
        simp only [List.length_take, Nat.min_eq_left (Nat.le_of_lt hi)]
        rw [List.getElem?_append_right (by simp; omega)]
        simp
        congr 1
        omega
  rw [hsp]
theorem set_same {H : Hp} {o : Nat} {x : AObj} (h : H[o]? = some x) : H.set o x = H := by
  apply List.ext_getElem?
  intro i
  by_cases hi : o = i
  · subst hi; rw [List.getElem?_set_self (lt_of_get h), h]
  · rw [List.getElem?_set_ne hi]
theorem get_set_self {H : Hp} {o : Nat} {x y : AObj} (h : H[o]? = some x) : (H.set o y)[o]? = some y := List.getElem?_set_self (lt_of_get h)
/-- A number at the beginning: its value, what follows, whether there is one, whether it is too big. -/
def numberS (s : List UInt8) : Int × List UInt8 × Bool × Bool :=
  if (numP (s.take (digN s))).2 = 9 then (1, s.drop (digN s), true, true) else ((numP (s.take (digN s))).1, s.drop (digN s), (numP (s.take (digN s))).2 == 0, false)
theorem number_spec {s : List UInt8} (hs : s.length ≤ 1048576) {H : Hp} {o : Nat} {p : Pl} (ho : H[o]? = some (.cells p.cells)) :
    C_sortkey_place_number [.ptr o 0, .str s] H = some (.tuple [.int .i64 (numberS s).1, .str (numberS s).2.1, .bool (numberS s).2.2.1], H.set o (.cells { p with big := p.big || (numberS s).2.2.2 }.cells)) := by
  rw [F_sortkey_place_number_eq]
  unfold F_sortkey_place_number numberS
  have hdl := digN_le s
  have hsl := asliceS_hi (s := s) (n := (digN s : Int)) .i64 (by omega) (by omega)
  have hsr := asliceS_lo (s := s) (n := (digN s : Int)) .i64 (by omega) (by omega)
  rw [show ((digN s : Int)).toNat = digN s by omega] at hsl hsr
  simp only [digits_ok (s := s) (by omega), go_sem, hsl, numParse_ok (digN_take s) (by simp; omega), List.getElem?_cons_zero, List.getElem?_cons_succ]
  by_cases h9 : (numP (s.take (digN s))).2 = 9
  · have c : ((numP (s.take (digN s))).2 == 9) = true := by simpa using h9
    simp only [c, go_sem, Nat.zero_add, if_pos h9, hsr, Bool.or_true]
    rw [astore1 ho rfl rfl (by simp [Pl.cells])]
    rfl
  · have c : ((numP (s.take (digN s))).2 == 9) = false := by simpa using h9
    simp only [c, go_sem, if_neg h9, sortkey_place_number_J1_eq, hsr, Bool.or_false]
    rw [set_same ho]
/-- Flags at the beginning. -/
def flagV (c : UInt8) : Nat := if c = 98 then 8 else if c = 100 then 16 else if c = 102 then 4 else if c = 110 then 1 else if c = 114 then 2 else 0
theorem flagV_lt (c : UInt8) : flagV c < 32 := by unfold flagV; repeat' split
                                                  all_goals decide
theorem flag_spec (c : UInt8) (H : Hp) : flatC C_sortkey_flag [.int .u8 c.toNat] H = some (.int .i64 (flagV c : Nat), H) := by
  refine flat1 (a' := .int .u8 c.toNat) rfl (H1 := []) ((F_sortkey_flag_eq _ _).trans ?_) rfl
  unfold F_sortkey_flag flagV
  have e : ∀ n : Nat, n < 256 → ((c.toNat : Int) == (n : Int)) = (c == UInt8.ofNat n) := fun n h => u8eq c n h
  have e1 : ((c.toNat : Int) == 98) = (c == 98) := e 98 (by decide)
  have e2 : ((c.toNat : Int) == 100) = (c == 100) := e 100 (by decide)
  have e3 : ((c.toNat : Int) == 102) = (c == 102) := e 102 (by decide)
  have e4 : ((c.toNat : Int) == 110) = (c == 110) := e 110 (by decide)
  have e5 : ((c.toNat : Int) == 114) = (c == 114) := e 114 (by decide)
  simp only [go_sem, e1]
  by_cases h1 : c = 98
  · have d : (c == 98) = true := by simpa using h1
    simp only [d, go_sem, if_pos h1]; rfl
  have d : (c == 98) = false := by simpa using h1
  simp only [d, go_sem, if_neg h1, e2]
  by_cases h2 : c = 100
  · have d : (c == 100) = true := by simpa using h2
    simp only [d, go_sem, if_pos h2]; rfl
  have d : (c == 100) = false := by simpa using h2
  simp only [d, go_sem, if_neg h2, e3]
  by_cases h3 : c = 102
  · have d : (c == 102) = true := by simpa using h3
    simp only [d, go_sem, if_pos h3]; rfl
  have d : (c == 102) = false := by simpa using h3
  simp only [d, go_sem, if_neg h3, e4]
  by_cases h4 : c = 110
  · have d : (c == 110) = true := by simpa using h4
    simp only [d, go_sem, if_pos h4]; rfl
  have d : (c == 110) = false := by simpa using h4
  simp only [d, go_sem, if_neg h4, e5]
  by_cases h5 : c = 114
  · have d : (c == 114) = true := by simpa using h5
    simp only [d, go_sem, if_pos h5]; rfl
  have d : (c == 114) = false := by simpa using h5
  simp only [d, go_sem, if_neg h5, sortkey_flag_J1_eq]
  rfl
def chkOr (n j : Nat) : Bool := match ibin .or (.int .i64 n) (.int .i64 j) with
  | some (.int .i64 m) => m == ((n ||| j : Nat) : Int) && decide (n ||| j < 32)
  | _ => false
theorem chkOr_all : ((List.range 32).all fun n => (List.range 32).all fun j => chkOr n j) = true := by kernel_rfl
theorem or_ok {n j : Nat} (hn : n < 32) (hj : j < 32) : ibin .or (.int .i64 n) (.int .i64 j) = some (.int .i64 ((n ||| j : Nat) : Int)) ∧ n ||| j < 32 := by
  have h := all_range (all_range chkOr_all hn) hj
  unfold chkOr at h
  split at h
  · rename_i m hm
    simp only [Bool.and_eq_true, beq_iff_eq, decide_eq_true_eq] at h
    rw [hm, h.1]
    exact ⟨rfl, h.2⟩
  · cases h
def flagsS : List UInt8 → Nat → Nat × List UInt8
  | [], f => (f, [])
  | c :: r, f => if flagV c = 0 then (f, c :: r) else flagsS r (f ||| flagV c)
theorem flagsS_cons (c : UInt8) (r : List UInt8) (f : Nat) : flagsS (c :: r) f = if flagV c = 0 then (f, c :: r) else flagsS r (f ||| flagV c) := (Eq.refl _).trans (Eq.refl _)
theorem flagsS_lt : ∀ (s : List UInt8) (f : Nat), f < 32 → (flagsS s f).1 < 32 := by
  intro s
  induction s with
  | nil => intro f h; exact h
  | cons c r ih => intro f h; rw [flagsS_cons]; split; exact h; exact ih _ (or_ok h (flagV_lt c)).2
theorem flagsS_len : ∀ (s : List UInt8) (f : Nat), (flagsS s f).2.length ≤ s.length := by
  intro s
  induction s with
  | nil => intro f; exact Nat.le_refl _
  | cons c r ih => intro f; rw [flagsS_cons]; split; exact Nat.le_refl _; have := ih (f ||| flagV c); simp; omega
theorem flags_loop (H0 : Hp) {o : Nat} : ∀ (s : List UInt8) (p : Pl) (H : Hp), p.fl < 32 → H[o]? = some (.cells p.cells) →
    sortkey_place_read_L1 (.ptr o 0) (.str s) (.bool true) H0 H = some (.tuple [.str (flagsS s p.fl).2, .bool true], H.set o (.cells { p with fl := (flagsS s p.fl).1 }.cells)) := by
  intro s
  induction s with
  | nil =>
    intro p H hp ho
    rw [sortkey_place_read_L1_eq]
    have c : (!(([] : List UInt8) == [])) = false := rfl
    simp only [go_sem, c, sortkey_place_read_J2_eq, flagsS]
    rw [set_same ho]
  | cons b r ih =>
    intro p H hp ho
    rw [sortkey_place_read_L1_eq, flagsS_cons]
    have c : (!((b :: r) == [])) = true := rfl
    have hix : aindexStr (.str (b :: r)) (.int .i64 0) = some (.int .u8 b.toNat) := aindexStr_of (s := b :: r) (i := 0) rfl
    have hsl := asliceS_lo (s := b :: r) (n := (1 : Int)) .i64 (by omega) (by simp only [List.length_cons]; omega)
    rw [show ((1 : Int)).toNat = 1 from rfl, List.drop_one, List.tail_cons] at hsl
    simp only [go_sem, c, hix, flag_spec]
    by_cases hz : flagV b = 0
    · have c2 : (((flagV b : Nat) : Int) != 0) = false := by simp; omega
      simp only [c2, go_sem, sortkey_place_read_J2_eq, if_pos hz]
      rw [set_same ho]
    · have c2 : (((flagV b : Nat) : Int) != 0) = true := by simp; omega
      obtain ⟨q1, q2⟩ := or_ok hp (flagV_lt b)
      have hl : aload false 1 (.ptr o 2) H = some (.int .i64 p.fl) := by rw [aload_f1 ho]; rfl
      simp only [c2, go_sem, sortkey_place_read_J3_eq, Nat.zero_add, hl, hix, flag_spec, q1, if_neg hz]
      rw [astore1 ho rfl rfl (by simp [Pl.cells])]
      simp only [go_sem, hsl]
      have ho2 : (H.set o (.cells (p.cells.set 2 (.int .i64 ((p.fl ||| flagV b : Nat) : Int)))))[o]? = some (.cells { p with fl := p.fl ||| flagV b }.cells) := get_set_self ho
      rw [ih { p with fl := p.fl ||| flagV b } _ q2 ho2, List.set_set]
def readU (n : Int) (big : Bool) : Int × List UInt8 × Bool × Bool → Pl × List UInt8 × Bool
  | (n2, r2, ok2, big2) => if ok2 then (⟨n, n2, (flagsS r2 0).1, true, big || big2⟩, (flagsS r2 0).2, true) else (⟨n, n2, 0, true, big || big2⟩, r2, false)
def readT : Int × List UInt8 × Bool × Bool → Pl × List UInt8 × Bool
  | (n, r, ok, big) => if ok && (r.head? == some 46) then readU n big (numberS r.tail)
    else if ok then (⟨n, 0, (flagsS r 0).1, false, big⟩, (flagsS r 0).2, true) else (⟨n, 0, 0, false, big⟩, r, false)
def readS (s : List UInt8) : Pl × List UInt8 × Bool := readT (numberS s)
theorem prefix1 (s : List UInt8) (c : UInt8) (H : Hp) (hs : s.length ≤ 4611686018427387904) : C_strings_HasPrefix [.str s, .str [c]] H = some (.bool (s.head? == some c), H) := by
  rw [F_strings_HasPrefix_eq]
  unfold F_strings_HasPrefix
  rw [F_internal_stringslite_HasPrefix_eq]
  unfold F_internal_stringslite_HasPrefix
  cases s with
  | nil =>
    have c1 : decide (((([c] : List UInt8).length : Nat) : Int) ≤ ((([] : List UInt8).length : Nat) : Int)) = false := by simp
    simp only [go_sem, c1]
    rfl
  | cons b r =>
    have c1 : decide (((([c] : List UInt8).length : Nat) : Int) ≤ (((b :: r).length : Nat) : Int)) = true := by simp; omega
    have hsl := asliceS_hi (s := b :: r) (n := ((([c] : List UInt8).length : Nat) : Int)) .i64 (by simp) (by simp; omega)
    rw [show ((([c] : List UInt8).length : Nat) : Int).toNat = 1 from rfl, show (b :: r).take 1 = [b] from rfl] at hsl
    simp only [go_sem, c1, hsl]
    have : (([b] : List UInt8) == [c]) = ((b :: r).head? == some c) := by
      rw [Bool.eq_iff_iff]; simp
    rw [this]
theorem numberS_len (s : List UInt8) : (numberS s).2.1.length ≤ s.length := by
  unfold numberS
  split <;> simp
theorem z0 : ((0 : Nat) : Int) = 0 := rfl
theorem read_spec {s : List UInt8} (hs : s.length ≤ 1048576) {H : Hp} {o : Nat} (ho : H[o]? = some (.cells pl0.cells)) :
    C_sortkey_place_read [.ptr o 0, .str s] H = some (.tuple [.str (readS s).2.1, .bool (readS s).2.2], H.set o (.cells (readS s).1.cells)) := by
  rw [F_sortkey_place_read_eq]
  unfold F_sortkey_place_read readS
  have hl1 := numberS_len s
  have hn := number_spec hs ho
  rcases ha : numberS s with ⟨n, r, ok, big⟩
  rw [ha] at hl1 hn
  simp only at hl1
  have ho1 : (H.set o (.cells { pl0 with big := pl0.big || big }.cells))[o]? = some (.cells [.int .i64 0, .int .i64 0, .int .i64 0, .bool false, .bool big]) := by
    rw [get_set_self ho]
    simp [Pl.cells, pl0]
  simp only [hn, go_sem, List.getElem?_cons_zero, List.getElem?_cons_succ, Nat.zero_add]
  rw [astore1 ho1 rfl rfl (by simp)]
  have fin : ∀ (p : Pl) (r : List UInt8) (ok : Bool) (X : AObj), p.fl = 0 → sortkey_place_read_J1 (.ptr o 0) (.str r) (.bool ok) H (H.set o (.cells p.cells)) =
      some (if ok then (.tuple [.str (flagsS r 0).2, .bool true], H.set o (.cells { p with fl := (flagsS r 0).1 }.cells)) else (.tuple [.str r, .bool false], H.set o (.cells p.cells))) := by
    intro p r ok X hp
    rw [sortkey_place_read_J1_eq]
    cases ok with
    | true =>
      rw [flags_loop H r p _ (by omega) (get_set_self ho), hp, List.set_set]
      rfl
    | false =>
      rw [sortkey_place_read_L1_eq]
      simp only [go_sem, sortkey_place_read_J2_eq]
      rfl
  have hp1 := prefix1 r 46
  simp only [go_sem, List.set_set, List.set_cons_zero]
  cases ok with
  | false =>
    simp only [go_sem, readT, Bool.false_and, Bool.false_eq_true, if_false]
    have := fin ⟨n, 0, 0, false, big⟩ r false .dead rfl
    simp only [Pl.cells, z0, Bool.false_eq_true, if_false] at this ⊢
    exact this
  | true =>
    simp only [go_sem, hp1 _ (by omega), readT, Bool.true_and]
    cases hh : (r.head? == some 46) with
    | false =>
      simp only [go_sem, Bool.false_eq_true, if_false, if_true]
      have := fin ⟨n, 0, 0, false, big⟩ r true .dead rfl
      simp only [Pl.cells, z0, if_true] at this ⊢
      exact this
    | true =>
      have he : r.head? = some 46 := by simpa using hh
      obtain ⟨r', rfl⟩ : ∃ r', r = 46 :: r' := by
        cases r with
        | nil => simp at he
        | cons x r' => simp at he; exact ⟨r', by rw [he]⟩
      have hsl := asliceS_lo (s := 46 :: r') (n := (1 : Int)) .i64 (by omega) (by simp only [List.length_cons]; omega)
      rw [show ((1 : Int)).toNat = 1 from rfl, List.drop_one, List.tail_cons] at hsl
      have ho2 : (H.set o (.cells [.int .i64 n, .int .i64 0, .int .i64 0, .bool false, .bool big]))[o]? = some (.cells [.int .i64 n, .int .i64 0, .int .i64 0, .bool false, .bool big]) := get_set_self ho
      simp only [go_sem, if_true, List.tail_cons]
      rw [astore1 ho2 rfl rfl (by simp)]
      simp only [go_sem, hsl, List.set_set, List.set_cons_succ, List.set_cons_zero]
      have hl2 := numberS_len r'
      have ho3 : (H.set o (.cells [.int .i64 n, .int .i64 0, .int .i64 0, .bool true, .bool big]))[o]? = some (.cells (⟨n, 0, 0, true, big⟩ : Pl).cells) := get_set_self ho
      have hn2 := number_spec (s := r') (by simp at hl1; omega) ho3
      rcases hb : numberS r' with ⟨n2, r2, ok2, big2⟩
      rw [hb] at hl2 hn2
      simp only [Pl.cells, z0] at hn2
      simp only [hn2, go_sem, List.getElem?_cons_zero, List.getElem?_cons_succ, Nat.zero_add, List.set_set]
      have ho4 : (H.set o (.cells [.int .i64 n, .int .i64 0, .int .i64 0, .bool true, .bool (big || big2)]))[o]? = some (.cells [.int .i64 n, .int .i64 0, .int .i64 0, .bool true, .bool (big || big2)]) := get_set_self ho
      rw [astore1 ho4 rfl rfl (by simp)]
      simp only [go_sem, List.set_set, List.set_cons_succ, List.set_cons_zero, readU]
      have := fin ⟨n, n2, 0, true, big || big2⟩ r2 ok2 .dead rfl
      cases ok2 with
      | true => simp only [Pl.cells, z0, if_true] at this ⊢; exact this
      | false => simp only [Pl.cells, z0, Bool.false_eq_true, if_false] at this ⊢; exact this
end Go.Am
namespace Go.Am
open Go.Proofs
set_option linter.unusedSimpArgs false
set_option linter.unusedVariables false

theorem astore5 {H : Hp} {o : Nat} {a b c d e a' b' c' d' e' : AV} (h : H[o]? = some (.cells [a, b, c, d, e])) : astoreU 5 (.ptr o 0) (.agg [a', b', c', d', e']) H = some (.tuple [], H.set o (.cells [a', b', c', d', e'])) := by
  rw [astore_of (sz := 5) (v := .agg [a', b', c', d', e']) h rfl rfl (by simp)]
  simp [AV.cells, splice]
theorem aload5 {H : Hp} {o : Nat} {a b c d e : AV} (h : H[o]? = some (.cells [a, b, c, d, e])) : aload true 5 (.ptr o 0) H = some (.agg [a, b, c, d, e]) := by
  rw [aload_of h]
  simp [Go.Am.apart]
theorem fill5 (a b c d e : Int) : (afill [(0, 1, .int .i64 a), (1, 1, .int .i64 b), (2, 1, .int .i64 c), (3, 1, .int .i64 d), (4, 1, .int .i64 e)] [.int .i64 0, .int .i64 0, .int .i64 0, .int .i64 0, .int .i64 0]).map AV.agg = some (.agg [.int .i64 a, .int .i64 b, .int .i64 c, .int .i64 d, .int .i64 e]) := by
  simp [afill, AV.known, AV.cells, splice]
def keNil : Ke := ⟨0, 0, 0, 0, 0⟩
def keyB (a b : Pl) (second : Bool) : Ke × Int :=
  if a.big || (b.big || (decide (a.field < 1) || (decide ((if a.pt then a.chr else 1) < 1) || (second && decide (b.field < 1))))) then (keNil, 2)
  else (⟨a.field, (if a.pt then a.chr else 1), b.field, b.chr, ((a.fl ||| b.fl : Nat) : Int)⟩, 0)
def keyA (a b : Pl) (r : List UInt8) (ok second : Bool) : Ke × Int := if ok && (r == []) then keyB a b second else (keNil, 1)
def keyU (a : Pl) : Pl × List UInt8 × Bool → Ke × Int
  | (b, r, ok) => keyA a b r ok true
def keyT : Pl × List UInt8 × Bool → Ke × Int
  | (a, r, ok) => if ok && (r.head? == some 44) then keyU a (readS r.tail) else keyA a pl0 r ok false
def keyP (s : List UInt8) : Ke × Int := keyT (readS s)
def K0 (x : Ke) (a b : Pl) : Hp := [.cells x.cells, .cells a.cells, .cells b.cells]
theorem keyJ3 (a b : Pl) (ha : a.fl < 32) (hb : b.fl < 32) (second : Bool) : ∃ H', sortkey_key_J3 (.ptr 0 0) (.ptr 1 0) (.ptr 2 0) (.bool second) [] (K0 keNil { a with chr := if a.pt then a.chr else 1 } b) =
    some (.tuple [.agg (keyB a b second).1.cells, .int .i64 (keyB a b second).2], H') := by
  rw [sortkey_key_J3_eq]
  generalize hc : (if a.pt then a.chr else 1) = ch
  have h0 : (K0 keNil { a with chr := ch } b)[0]? = some (.cells [.int .i64 0, .int .i64 0, .int .i64 0, .int .i64 0, .int .i64 0]) := rfl
  have h1 : (K0 keNil { a with chr := ch } b)[1]? = some (.cells [.int .i64 a.field, .int .i64 ch, .int .i64 a.fl, .bool a.pt, .bool a.big]) := rfl
  have h2 : (K0 keNil { a with chr := ch } b)[2]? = some (.cells [.int .i64 b.field, .int .i64 b.chr, .int .i64 b.fl, .bool b.pt, .bool b.big]) := rfl
  generalize K0 keNil { a with chr := ch } b = H at h0 h1 h2 ⊢
  have hs : ∀ l, (H.set 0 (.cells l))[0]? = some (.cells l) := fun l => get_set_self h0
  unfold keyB
  rw [hc]
  have bad : (∃ H', (bnd (some (AV.agg [.int .i64 0, .int .i64 0, .int .i64 0, .int .i64 0, .int .i64 0])) fun t80_63 => bnd (astoreU 5 (.ptr 0 0) t80_63 H) fun r_64 => bnd (aload true 5 (.ptr 0 0) r_64.2) fun v2_65 => some (AV.tuple [v2_65, .int .i64 2], r_64.2)) =
      some (.tuple [.agg keNil.cells, .int .i64 2], H')) := by
    simp only [go_sem, astore5 h0, aload5 (hs _)]
    exact ⟨_, rfl⟩
  simp only [go_sem, Nat.zero_add, aload_f1 h1, List.getElem?_cons_zero, List.getElem?_cons_succ]
  cases e1 : a.big with
  | true => simp only [go_sem, Bool.true_or, if_true] at bad ⊢; exact bad
  | false =>
  simp only [go_sem, Nat.zero_add, aload_f1 h2, Bool.false_or, List.getElem?_cons_zero, List.getElem?_cons_succ]
  cases e2 : b.big with
  | true => simp only [go_sem, Bool.true_or, if_true] at bad ⊢; exact bad
  | false =>
  simp only [go_sem, Nat.zero_add, aload_f1 h1, Bool.false_or, List.getElem?_cons_zero, List.getElem?_cons_succ]
  cases e3 : decide (a.field < 1) with
  | true => simp only [go_sem, Bool.true_or, if_true] at bad ⊢; exact bad
  | false =>
  simp only [go_sem, Nat.zero_add, aload_f1 h1, Bool.false_or, List.getElem?_cons_zero, List.getElem?_cons_succ]
  cases e4 : decide (ch < 1) with
  | true => simp only [go_sem, Bool.true_or, if_true] at bad ⊢; exact bad
  | false =>
  have good : ∃ H', sortkey_key_J4 (.ptr 0 0) (.ptr 1 0) (.ptr 2 0) [] H = some (.tuple [.agg [.int .i64 a.field, .int .i64 ch, .int .i64 b.field, .int .i64 b.chr, .int .i64 ((a.fl ||| b.fl : Nat) : Int)], .int .i64 0], H') := by
    rw [sortkey_key_J4_eq]
    simp only [go_sem, Nat.zero_add, aload_f1 h1, aload_f1 h2, List.getElem?_cons_zero, List.getElem?_cons_succ, (or_ok ha hb).1, fill5, astore5 h0, aload5 (hs _)]
    exact ⟨_, rfl⟩
  cases second with
  | false =>
    simp only [go_sem, Bool.false_or, Bool.false_and, Bool.false_eq_true, if_false]
    exact good
  | true =>
    simp only [go_sem, Nat.zero_add, aload_f1 h2, Bool.false_or, Bool.true_and, List.getElem?_cons_zero, List.getElem?_cons_succ]
    cases e5 : decide (b.field < 1) with
    | true => simp only [go_sem, if_true] at bad ⊢; exact bad
    | false => simp only [go_sem, Bool.false_eq_true, if_false]; exact good
theorem keyJ1 (a b : Pl) (ha : a.fl < 32) (hb : b.fl < 32) (r : List UInt8) (ok second : Bool) : ∃ H', sortkey_key_J1 (.str r) (.ptr 0 0) (.ptr 1 0) (.ptr 2 0) (.bool ok) (.bool second) [] (K0 keNil a b) =
    some (.tuple [.agg (keyA a b r ok second).1.cells, .int .i64 (keyA a b r ok second).2], H') := by
  rw [sortkey_key_J1_eq]
  have h0 : (K0 keNil a b)[0]? = some (.cells [.int .i64 0, .int .i64 0, .int .i64 0, .int .i64 0, .int .i64 0]) := rfl
  have hs : ∀ l, ((K0 keNil a b).set 0 (.cells l))[0]? = some (.cells l) := fun l => get_set_self h0
  have h1 : (K0 keNil a b)[1]? = some (.cells [.int .i64 a.field, .int .i64 a.chr, .int .i64 a.fl, .bool a.pt, .bool a.big]) := rfl
  unfold keyA
  have good : ∃ H', sortkey_key_J2 (.ptr 0 0) (.ptr 1 0) (.ptr 2 0) (.bool second) [] (K0 keNil a b) = some (.tuple [.agg (keyB a b second).1.cells, .int .i64 (keyB a b second).2], H') := by
    rw [sortkey_key_J2_eq]
    have j3 := keyJ3 a b ha hb second
    simp only [go_sem, Nat.zero_add, aload_f1 h1, List.getElem?_cons_zero, List.getElem?_cons_succ]
    cases ep : a.pt with
    | true =>
      have hcond : (if a.pt = true then a.chr else 1) = a.chr := by rw [ep]; rfl
      rw [hcond, show ({ a with chr := a.chr } : Pl) = a from rfl] at j3
      simp only [go_sem, Bool.not_true]
      exact j3
    | false =>
      have hcond : (if a.pt = true then a.chr else 1) = 1 := by rw [ep]; rfl
      rw [hcond] at j3
      simp only [go_sem, Bool.not_false]
      rw [astore1 h1 rfl rfl (by simp)]
      simp only [go_sem]
      have : (K0 keNil a b).set 1 (.cells ([AV.int .i64 a.field, .int .i64 a.chr, .int .i64 a.fl, .bool a.pt, .bool a.big].set 1 (.int .i64 1))) = K0 keNil { a with chr := 1 } b := rfl
      rw [this]
      exact j3
  cases ok with
  | false =>
    simp only [go_sem, Bool.not_false, astore5 h0, aload5 (hs _), Bool.false_and, Bool.false_eq_true, if_false]
    exact ⟨_, rfl⟩
  | true =>
    simp only [go_sem, Bool.not_true, Bool.true_and]
    cases er : (r == []) with
    | false =>
      simp only [go_sem, Bool.not_false, astore5 h0, aload5 (hs _), Bool.false_eq_true, if_false]
      exact ⟨_, rfl⟩
    | true =>
      simp only [go_sem, Bool.not_true, if_true]
      exact good
theorem readS_facts (s : List UInt8) : (readS s).1.fl < 32 ∧ (readS s).2.1.length ≤ s.length := by
  have hl := numberS_len s
  unfold readS
  rcases ha : numberS s with ⟨n, r, ok, big⟩
  rw [ha] at hl
  simp only at hl
  simp only [readT]
  split
  · have hl2 := numberS_len r.tail
    rcases hb : numberS r.tail with ⟨n2, r2, ok2, big2⟩
    rw [hb] at hl2
    simp only at hl2
    simp only [List.length_tail] at hl2
    simp only [readU]
    split
    · have := flagsS_len r2 0
      exact ⟨flagsS_lt _ _ (by decide), by simp only; omega⟩
    · exact ⟨by simp, by simp only; omega⟩
  · split
    · have := flagsS_len r 0
      exact ⟨flagsS_lt _ _ (by decide), by simp only; omega⟩
    · exact ⟨by simp, by simp only; omega⟩
theorem key_run {s : List UInt8} (hs : s.length ≤ 1048576) : ∃ H', C_sortkey_key [.str s] [] = some (.tuple [.agg (keyP s).1.cells, .int .i64 (keyP s).2], H') := by
  rw [F_sortkey_key_eq]
  unfold F_sortkey_key keyP
  obtain ⟨f1, f2⟩ := readS_facts s
  have hb1 : ∀ H : Hp, abox (.agg [.int .i64 0, .int .i64 0, .int .i64 0, .bool false, .bool false]) H = some (.ptr H.length 0, H ++ [.cells pl0.cells]) := fun H => abox_of rfl
  have hr := read_spec hs (H := K0 keNil pl0 pl0) (o := 1) rfl
  rcases ha : readS s with ⟨a, r, ok⟩
  rw [ha] at hr f1 f2
  simp only at f1 f2
  have e1 : (K0 keNil pl0 pl0).set 1 (.cells a.cells) = K0 keNil a pl0 := rfl
  simp only [e1] at hr
  have hK : ([AObj.cells [AV.int .i64 0, .int .i64 0, .int .i64 0, .int .i64 0, .int .i64 0]] ++ [AObj.cells pl0.cells] ++ [AObj.cells pl0.cells] : Hp) = K0 keNil pl0 pl0 := rfl
  simp only [bnd_some, List.length_nil, List.nil_append, hb1, List.length_append, List.length_cons, Nat.zero_add, hK, Nat.reduceAdd]
  simp only [hr, go_sem, List.getElem?_cons_zero, List.getElem?_cons_succ, keyT]
  cases ok with
  | false =>
    simp only [go_sem, Bool.false_and, Bool.false_eq_true, if_false]
    exact keyJ1 a pl0 f1 (by decide) r false false
  | true =>
    simp only [go_sem, prefix1 r 44 _ (by omega), Bool.true_and]
    cases hh : (r.head? == some 44) with
    | false =>
      simp only [go_sem, Bool.false_eq_true, if_false]
      exact keyJ1 a pl0 f1 (by decide) r true false
    | true =>
      have he : r.head? = some 44 := by simpa using hh
      obtain ⟨r', rfl⟩ : ∃ r', r = 44 :: r' := by
        cases r with
        | nil => simp at he
        | cons x r' => simp at he; exact ⟨r', by rw [he]⟩
      have hsl := asliceS_lo (s := 44 :: r') (n := (1 : Int)) .i64 (by omega) (by simp only [List.length_cons]; omega)
      rw [show ((1 : Int)).toNat = 1 from rfl, List.drop_one, List.tail_cons] at hsl
      have hr2 := read_spec (s := r') (by simp at f2; omega) (H := K0 keNil a pl0) (o := 2) rfl
      obtain ⟨g1, g2⟩ := readS_facts r'
      rcases hb : readS r' with ⟨b, r2, ok2⟩
      rw [hb] at hr2 g1 g2
      simp only at g1
      have e2 : (K0 keNil a pl0).set 2 (.cells b.cells) = K0 keNil a b := rfl
      simp only [e2] at hr2
      simp only [go_sem, hsl, hr2, List.getElem?_cons_zero, List.getElem?_cons_succ, if_true, List.tail_cons, hb, keyU]
      exact keyJ1 a b f1 g1 r2 ok2 true
theorem key_ok {s : List UInt8} (hs : s.length ≤ 1048576) (H : Hp) : flatC C_sortkey_key [.str s] H = some (.tuple [.agg (keyP s).1.cells, .int .i64 (keyP s).2], H) := by
  obtain ⟨H', h⟩ := key_run hs
  exact flat1 (a' := .str s) rfl h rfl
/-- A key that is read is a good one. -/
theorem numberS_nn (s : List UInt8) : 0 ≤ (numberS s).1 ∧ (numberS s).1 ≤ 9223372036854775807 := by
  have := numP_fst (s.take (digN s))
  unfold numberS
  split <;> simp only <;> omega
theorem readS_nn (s : List UInt8) : (0 ≤ (readS s).1.field ∧ (readS s).1.field ≤ 9223372036854775807) ∧ 0 ≤ (readS s).1.chr ∧ (readS s).1.chr ≤ 9223372036854775807 := by
  have h1 := numberS_nn s
  unfold readS
  rcases ha : numberS s with ⟨n, r, ok, big⟩
  rw [ha] at h1
  simp only at h1
  simp only [readT]
  split
  · have h2 := numberS_nn r.tail
    rcases hb : numberS r.tail with ⟨n2, r2, ok2, big2⟩
    rw [hb] at h2
    simp only at h2
    simp only [readU]
    split <;> exact ⟨h1, h2⟩
  · split <;> exact ⟨h1, by simp only; omega⟩
theorem keyB_good {a b : Pl} {second : Bool} (ha : a.fl < 32) (hb : b.fl < 32) (a1 : a.field ≤ 9223372036854775807) (a2 : 0 ≤ a.chr ∧ a.chr ≤ 9223372036854775807) (b1 : 0 ≤ b.field ∧ b.field ≤ 9223372036854775807) (b2 : 0 ≤ b.chr ∧ b.chr ≤ 9223372036854775807)
    (hb0 : second = false → b.chr = 0) (h : (keyB a b second).2 = 0) : keyBad (keyB a b second).1 = false ∧ KeOk (keyB a b second).1 := by
  unfold keyB at h ⊢
  by_cases hn : (a.big || (b.big || (decide (a.field < 1) || (decide ((if a.pt then a.chr else 1) < 1) || (second && decide (b.field < 1)))))) = true
  · rw [if_pos hn] at h
    cases h
  · rw [if_neg hn]
    simp only [Bool.or_eq_true, decide_eq_true_eq, not_or, Bool.and_eq_true, not_and] at hn
    obtain ⟨n1, n2, n3, n4, n5⟩ := hn
    have hor := (or_ok ha hb).2
    constructor
    · unfold keyBad
      simp only [Bool.or_eq_false_iff, decide_eq_false_iff_not, Bool.and_eq_false_iff]
      refine ⟨by omega, by omega, by omega, by omega, ?_, by omega, by omega⟩
      cases second with
      | true => exact .inl (by have := n5 rfl; simp; omega)
      | false => exact .inr (by simp [hb0 rfl])
    · refine ⟨by simp only; omega, ?_, by simp only; omega, by simp only; omega⟩
      simp only
      split <;> omega
theorem keyP_good {s : List UInt8} (h : (keyP s).2 = 0) : keyBad (keyP s).1 = false ∧ KeOk (keyP s).1 := by
  unfold keyP at h ⊢
  obtain ⟨f1, _⟩ := readS_facts s
  obtain ⟨f2, f3⟩ := readS_nn s
  rcases ha : readS s with ⟨a, r, ok⟩
  rw [ha] at h f1 f2 f3
  simp only at f1 f2 f3
  simp only [keyT] at h ⊢
  split
  · rename_i hc
    rw [if_pos hc] at h
    obtain ⟨g1, _⟩ := readS_facts r.tail
    obtain ⟨g2, g3⟩ := readS_nn r.tail
    rcases hb : readS r.tail with ⟨b, r2, ok2⟩
    rw [hb] at h g1 g2 g3
    simp only at g1 g2 g3
    simp only [keyU, keyA] at h ⊢
    split
    · rename_i hd
      rw [if_pos hd] at h
      exact keyB_good f1 g1 f2.2 f3 g2 g3 (fun e => by cases e) h
    · rename_i hd
      rw [if_neg hd] at h
      cases h
  · rename_i hc
    rw [if_neg hc] at h
    simp only [keyA] at h ⊢
    split
    · rename_i hd
      rw [if_pos hd] at h
      exact keyB_good f1 (by decide) f2.2 f3 (by decide) (by decide) (fun _ => rfl) h
    · rename_i hd
      rw [if_neg hd] at h
      cases h
end Go.Am
namespace Go.Am
open Go.Proofs
set_option linter.unusedSimpArgs false
set_option linter.unusedVariables false

structure Rs where
  keys : List Ke
  sep : Int
  flags : Nat
  uniq : Bool
  stab : Bool
  at_ : Nat
def Rs.cells (st : Rs) (kx ax : AV) : List AV := [kx, .int .i64 st.sep, .int .i64 st.flags, .bool st.uniq, .bool st.stab, ax, .int .i64 st.at_]
def Rs.spec (st : Rs) : Spec := ⟨st.keys, st.sep, st.flags, st.stab, st.uniq⟩
/-- Object o is the reader in this state. -/
def Rd (ax : AV) (o : Nat) (H : Hp) (st : Rs) : Prop := ∃ kx, H[o]? = some (.cells (st.cells kx ax)) ∧ Row H 5 kx (st.keys.map Ke.av)
def Hold (o : Nat) (H H' : Hp) : Prop := ∀ (i : Nat) (c : List AV), i ≠ o → H[i]? = some (.cells c) → H'[i]? = some (.cells c)
theorem Hold.refl (o : Nat) (H : Hp) : Hold o H H := fun _ _ _ h => h
theorem Hold.trans {o : Nat} {A B C : Hp} (h : Hold o A B) (k : Hold o B C) : Hold o A C := fun i c hi hc => k i c hi (h i c hi hc)
theorem Hold.set {o : Nat} {H : Hp} (x : AObj) : Hold o H (H.set o x) := fun i c hi hc => get_set_ne x (Ne.symm hi) hc
theorem row_set {H : Hp} {o k : Nat} {x : AV} {l : List AV} {c : List AV} (h : Row H k x l) (ho : H[o]? = some (.cells c)) (y : AObj) : Row (H.set o y) k x l :=
  h.mono fun i e hi => get_set_ne y (fun he => by subst he; rw [ho] at hi; cases hi) hi

def valueS (args : List (List UInt8)) (st : Rs) (rest : List UInt8) : Option (List UInt8 × Nat) :=
  if rest = [] then args[st.at_ + 1]?.map fun v => (v, st.at_ + 1) else some (rest, st.at_)
def keyOp (st : Rs) (v : List UInt8) : Rs × Int :=
  if st.keys.length = 8 then (st, 3) else if (keyP v).2 = 0 then ({ st with keys := st.keys ++ [(keyP v).1] }, 0) else (st, (keyP v).2)
def sepOp (st : Rs) (v : List UInt8) : Rs × Int := match v with
  | [c] => if c = 10 then (st, 18) else ({ st with sep := c.toNat }, 0)
  | _ => (st, 18)
def optS (args : List (List UInt8)) : List UInt8 → Rs → Rs × Int
  | [], st => (st, 0)
  | c :: r, st => if flagV c ≠ 0 then optS args r { st with flags := st.flags ||| flagV c }
    else if c = 117 then optS args r { st with uniq := true }
    else if c = 115 then optS args r { st with stab := true }
    else if c = 116 ∨ c = 107 then match valueS args st r with
      | none => (st, 18)
      | some (v, a) => if c = 116 then sepOp { st with at_ := a } v else keyOp { st with at_ := a } v
    else (st, 18)
theorem optS_cons (args : List (List UInt8)) (c : UInt8) (r : List UInt8) (st : Rs) : optS args (c :: r) st = if flagV c ≠ 0 then optS args r { st with flags := st.flags ||| flagV c }
    else if c = 117 then optS args r { st with uniq := true }
    else if c = 115 then optS args r { st with stab := true }
    else if c = 116 ∨ c = 107 then match valueS args st r with
      | none => (st, 18)
      | some (v, a) => if c = 116 then sepOp { st with at_ := a } v else keyOp { st with at_ := a } v
    else (st, 18) := (Eq.refl _).trans (Eq.refl _)
structure RsOk (args : List (List UInt8)) (st : Rs) : Prop where
  keys : st.keys.length ≤ 8
  good : ∀ k ∈ st.keys, keyBad k = false ∧ KeOk k
  sep : -1 ≤ st.sep ∧ st.sep ≤ 255 ∧ st.sep ≠ 10
  flags : st.flags < 32
  at_ : st.at_ < args.length
theorem value_spec {args : List (List UInt8)} {ax : AV} (hax : Sl 1 ax (args.map AV.str)) (hb : args.length ≤ 2000000) {o : Nat} {H : Hp} {st : Rs} (hr : Rd ax o H st) (hat : st.at_ < args.length) (rest : List UInt8) :
    ∃ H', C_sortkey_reader_value [.ptr o 0, .str rest] H = some (match valueS args st rest with | some (v, a) => .tuple [.str v, .bool true] | none => .tuple [.str [], .bool false], H') ∧
      Rd ax o H' (match valueS args st rest with | some (v, a) => { st with at_ := a } | none => st) ∧ Hold o H H' := by
  obtain ⟨kx, ho, hk⟩ := hr
  rw [F_sortkey_reader_value_eq]
  unfold F_sortkey_reader_value valueS
  by_cases he : rest = []
  · subst he
    have c : (([] : List UInt8) == []) = true := rfl
    have hw : IntKind.i64.wrap ((st.at_ : Int) + 1) = ((st.at_ + 1 : Nat) : Int) := by rw [wrap64 (by omega) (by omega)]; omega
    have ho' := ho
    unfold Rs.cells at ho'
    simp only [go_sem, c, Bool.not_true, sortkey_reader_value_J1_eq, Nat.zero_add, aload_f1 ho', List.getElem?_cons_zero, List.getElem?_cons_succ, hw, hax.strlen, if_true]
    by_cases hlt : st.at_ + 1 < args.length
    · have c2 : decide ((args.length : Int) ≤ ((st.at_ + 1 : Nat) : Int)) = false := by simp; omega
      rw [List.getElem?_eq_getElem hlt]
      have ho2 : (H.set o (.cells ((st.cells kx ax).set 6 (.int .i64 ((st.at_ + 1 : Nat) : Int)))))[o]? = some (.cells [kx, .int .i64 st.sep, .int .i64 st.flags, .bool st.uniq, .bool st.stab, ax, .int .i64 ((st.at_ + 1 : Nat) : Int)]) := get_set_self ho
      have hix : aindexS 1 ax (.int .i64 ((st.at_ + 1 : Nat) : Int)) = some (.vp [.str args[st.at_ + 1]]) := hax.str (List.getElem?_eq_getElem hlt)
      simp only [c2, go_sem, sortkey_reader_value_J2_eq, Nat.zero_add, aload_f1 ho', List.getElem?_cons_zero, List.getElem?_cons_succ, hw]
      rw [astore1 ho rfl rfl (by simp [Rs.cells])]
      simp only [go_sem, Nat.zero_add, aload_f1 ho2, List.getElem?_cons_zero, List.getElem?_cons_succ, hix, aload_vpc, Option.map_some]
      exact ⟨_, rfl, ⟨kx, get_set_self ho, row_set hk ho _⟩, Hold.set _⟩
    · have c2 : decide ((args.length : Int) ≤ ((st.at_ + 1 : Nat) : Int)) = true := by simp; omega
      rw [List.getElem?_eq_none (by omega)]
      simp only [c2, go_sem, Option.map_none]
      exact ⟨_, rfl, ⟨kx, ho, hk⟩, Hold.refl _ _⟩
  · have c : (rest == []) = false := by simpa using he
    simp only [go_sem, c, Bool.not_false, he, if_false]
    exact ⟨_, rfl, ⟨kx, ho, hk⟩, Hold.refl _ _⟩
theorem set_ke (k : Ke) : (setElems 5 [(0, .agg k.cells)] [.agg [.int .i64 0, .int .i64 0, .int .i64 0, .int .i64 0, .int .i64 0]]).map (AV.vs 5 .clip) = some (.vs 5 .clip [.agg k.cells]) := by
  simp [setElems, AV.known, AV.cells, Ke.cells]
theorem rkey_spec {ax : AV} {o : Nat} {H : Hp} {st : Rs} (hr : Rd ax o H st) (hkl : st.keys.length ≤ 8) {v : List UInt8} (hv : v.length ≤ 1048576) :
    ∃ H', C_sortkey_reader_key [.ptr o 0, .str v] H = some (.int .i64 (keyOp st v).2, H') ∧ Rd ax o H' (keyOp st v).1 ∧ Hold o H H' := by
  obtain ⟨kx, ho, hk⟩ := hr
  rw [F_sortkey_reader_key_eq]
  unfold F_sortkey_reader_key keyOp
  have ho' := ho
  unfold Rs.cells at ho'
  have hlen := hk.len 34
  rw [List.length_map] at hlen
  simp only [go_sem, Nat.zero_add, aload_f1 ho', List.getElem?_cons_zero, hlen]
  by_cases h8 : st.keys.length = 8
  · have c : ((st.keys.length : Int) == 8) = true := by simp; omega
    simp only [c, go_sem, if_pos h8]
    exact ⟨_, rfl, ⟨kx, ho, hk⟩, Hold.refl _ _⟩
  have c : ((st.keys.length : Int) == 8) = false := by simp; omega
  simp only [c, go_sem, if_neg h8, sortkey_reader_key_J1_eq, key_ok hv, List.getElem?_cons_zero, List.getElem?_cons_succ]
  simp only [astore_last5 H (keyP v).1 [.int .i64 0, .int .i64 0, .int .i64 0, .int .i64 0, .int .i64 0] rfl, go_sem]
  have ho1 : (H ++ [AObj.cells (keyP v).1.cells])[o]? = some (.cells (st.cells kx ax)) := get_push ho _
  have ho1' := ho1
  simp only [Rs.cells] at ho1'
  have hk1 : Row (H ++ [AObj.cells (keyP v).1.cells]) 5 kx (st.keys.map Ke.av) := hk.mono fun i e h => get_push h _
  have hh1 : Hold o H (H ++ [AObj.cells (keyP v).1.cells]) := fun i c _ h => get_push h _
  by_cases he : (keyP v).2 = 0
  · have c2 : ((keyP v).2 == 0) = true := by simpa using he
    obtain ⟨x', H', g1, g2, g3, g4, g5⟩ := hk1.app 40 (.vs 5 .clip [.agg (keyP v).1.cells]) [.agg (keyP v).1.cells] (by simp [elems]) (by simp; omega)
    have hal : aload true 5 (.ptr H.length 0) (H ++ [.cells (keyP v).1.cells]) = some (.agg (keyP v).1.cells) := aload_last5 H _ _ _ _ _
    have ho2 := g4 _ _ ho1
    simp only [c2, go_sem, Nat.zero_add, aload_f1 ho1', List.getElem?_cons_zero, hal, set_ke, g1, if_pos he]
    rw [astore1 (v := x') ho2 (by rcases g2 with ⟨rfl, _⟩ | ⟨t, e, rfl, _⟩ <;> rfl) (by rcases g2 with ⟨rfl, _⟩ | ⟨t, e, rfl, _⟩ <;> rfl) (by simp [Rs.cells])]
    simp only [go_sem, sortkey_reader_key_J2_eq]
    rw [he]
    refine ⟨_, rfl, ⟨x', get_set_self ho2, ?_⟩, hh1.trans (Hold.trans (fun i c hi hc => g4 i c hc) (Hold.set _))⟩
    have := row_set g2 ho2 (.cells ((st.cells kx ax).set 0 x'))
    rw [List.map_append]
    exact this
  · have c2 : ((keyP v).2 == 0) = false := by simpa using he
    simp only [c2, go_sem, if_neg he, sortkey_reader_key_J2_eq]
    exact ⟨_, rfl, ⟨kx, ho1, hk1⟩, hh1⟩
theorem rsep_spec {ax : AV} {o : Nat} {H : Hp} {st : Rs} (hr : Rd ax o H st) (v : List UInt8) :
    ∃ H', C_sortkey_reader_separator [.ptr o 0, .str v] H = some (.int .i64 (sepOp st v).2, H') ∧ Rd ax o H' (sepOp st v).1 ∧ Hold o H H' := by
  obtain ⟨kx, ho, hk⟩ := hr
  rw [F_sortkey_reader_separator_eq]
  unfold F_sortkey_reader_separator
  by_cases h1 : v.length = 1
  · obtain ⟨b, rfl⟩ : ∃ b, v = [b] := by
      match v, h1 with
      | [b], _ => exact ⟨b, rfl⟩
    have c : ((([b] : List UInt8).length : Nat) : Int) = 1 := rfl
    have c1 : (((1 : Int)) != 1) = false := rfl
    have c2 : (([b] : List UInt8) == [10]) = (b == 10) := by rw [List.cons_beq_cons]; simp
    have hix : aindexStr (.str [b]) (.int .i64 0) = some (.int .u8 b.toNat) := aindexStr_of (s := [b]) (i := 0) rfl
    have hcv : cvInt .i64 (.int .u8 (b.toNat : Int)) = some (.int .i64 (b.toNat : Int)) := by
      have := b.toNat_lt
      simp only [cvInt]
      rw [wrap64 (by omega) (by omega)]
    simp only [go_sem, c, c1, c2, sepOp]
    by_cases hb : b = 10
    · have c3 : (b == 10) = true := by simpa using hb
      simp only [c3, go_sem, if_pos hb]
      exact ⟨_, rfl, ⟨kx, ho, hk⟩, Hold.refl _ _⟩
    · have c3 : (b == 10) = false := by simpa using hb
      simp only [c3, go_sem, if_neg hb, sortkey_reader_separator_J1_eq, hix, hcv, Nat.zero_add]
      rw [astore1 ho rfl rfl (by simp [Rs.cells])]
      exact ⟨_, rfl, ⟨kx, get_set_self ho, row_set hk ho _⟩, Hold.set _⟩
  · have c1 : (((v.length : Nat) : Int) != 1) = true := by simp; omega
    have hs : sepOp st v = (st, 18) := by
      unfold sepOp
      split
      · simp at h1
      · rfl
    rw [hs]
    simp only [go_sem, c1]
    exact ⟨_, rfl, ⟨kx, ho, hk⟩, Hold.refl _ _⟩
theorem option_spec {args : List (List UInt8)} {ax : AV} (hax : Sl 1 ax (args.map AV.str)) (hb : args.length ≤ 2000000) (hall : ∀ s ∈ args, s.length ≤ 1048576) {o : Nat} (H0 : Hp) : ∀ (s : List UInt8) (st : Rs) (H : Hp), s.length ≤ 1048576 → Rd ax o H st → st.keys.length ≤ 8 → st.flags < 32 → st.at_ < args.length →
    ∃ H', sortkey_reader_option_L1 (.ptr o 0) (.str s) H0 H = some (.int .i64 (optS args s st).2, H') ∧ Rd ax o H' (optS args s st).1 ∧ Hold o H H' := by
  intro s
  induction s with
  | nil =>
    intro st H hs hr hkl hf hat
    rw [sortkey_reader_option_L1_eq]
    have c : (([] : List UInt8) == []) = true := rfl
    simp only [go_sem, c, Bool.not_true, sortkey_reader_option_J1_eq, optS]
    exact ⟨_, rfl, hr, Hold.refl _ _⟩
  | cons b r ih =>
    intro st H hs hr hkl hf hat
    rw [sortkey_reader_option_L1_eq, optS_cons]
    have c : ((b :: r) == []) = false := rfl
    have hix : aindexStr (.str (b :: r)) (.int .i64 0) = some (.int .u8 b.toNat) := aindexStr_of (s := b :: r) (i := 0) rfl
    have hsl := asliceS_lo (s := b :: r) (n := (1 : Int)) .i64 (by omega) (by simp only [List.length_cons]; omega)
    rw [show ((1 : Int)).toNat = 1 from rfl, List.drop_one, List.tail_cons] at hsl
    have hrl : r.length ≤ 1048576 := by simp at hs; omega
    simp only [go_sem, c, Bool.not_false, sortkey_reader_option_J2_eq, hix, hsl, flag_spec]
    by_cases hz : flagV b = 0
    · have c2 : (((flagV b : Nat) : Int) != 0) = false := by simp; omega
      have e117 : ((b.toNat : Int) == 117) = (b == 117) := u8eq b 117 (by decide)
      have e115 : ((b.toNat : Int) == 115) = (b == 115) := u8eq b 115 (by decide)
      have e116 : ((b.toNat : Int) == 116) = (b == 116) := u8eq b 116 (by decide)
      have e107 : ((b.toNat : Int) == 107) = (b == 107) := u8eq b 107 (by decide)
      have hnz : ¬ flagV b ≠ 0 := by omega
      simp only [c2, go_sem, if_neg hnz, e117]
      obtain ⟨kx, ho, hk⟩ := hr
      by_cases h1 : b = 117
      · have d : (b == 117) = true := by simpa using h1
        simp only [d, go_sem, if_pos h1, Nat.zero_add]
        rw [astore1 ho rfl rfl (by simp [Rs.cells])]
        simp only [go_sem, sortkey_reader_option_J3_eq]
        obtain ⟨H', q1, q2, q3⟩ := ih { st with uniq := true } _ hrl ⟨kx, get_set_self ho, row_set hk ho _⟩ hkl hf hat
        exact ⟨H', q1, q2, (Hold.set _).trans q3⟩
      have d : (b == 117) = false := by simpa using h1
      simp only [d, go_sem, if_neg h1, e115]
      by_cases h2 : b = 115
      · have d : (b == 115) = true := by simpa using h2
        simp only [d, go_sem, if_pos h2, Nat.zero_add]
        rw [astore1 ho rfl rfl (by simp [Rs.cells])]
        simp only [go_sem, sortkey_reader_option_J3_eq]
        obtain ⟨H', q1, q2, q3⟩ := ih { st with stab := true } _ hrl ⟨kx, get_set_self ho, row_set hk ho _⟩ hkl hf hat
        exact ⟨H', q1, q2, (Hold.set _).trans q3⟩
      have d : (b == 115) = false := by simpa using h2
      simp only [d, go_sem, if_neg h2, e116]
      obtain ⟨H1, v1, v2, v3⟩ := value_spec hax hb ⟨kx, ho, hk⟩ hat r
      have hvl : ∀ v a, valueS args st r = some (v, a) → v.length ≤ 1048576 := by
        intro v a hv
        unfold valueS at hv
        split at hv
        · rw [Option.map_eq_some_iff] at hv
          obtain ⟨w, hw, he⟩ := hv
          cases he
          exact hall _ (List.mem_of_getElem? hw)
        · cases hv
          exact hrl
      by_cases h3 : b = 116
      · have d : (b == 116) = true := by simpa using h3
        have hor : b = 116 ∨ b = 107 := .inl h3
        simp only [d, go_sem, if_pos hor, v1]
        rcases hv : valueS args st r with _ | ⟨v, a⟩
        · rw [hv] at v2
          simp only [go_sem, List.getElem?_cons_zero, List.getElem?_cons_succ, Bool.not_false]
          exact ⟨_, rfl, v2, v3⟩
        · rw [hv] at v2
          simp only [go_sem, List.getElem?_cons_zero, List.getElem?_cons_succ, Bool.not_true, sortkey_reader_option_J4_eq, e116, d, sortkey_reader_option_J5_eq, V_sortkey_reader_separator, List.cons_append, List.nil_append, if_pos h3]
          obtain ⟨H', q1, q2, q3⟩ := rsep_spec v2 v
          simp only [q1, go_sem]
          exact ⟨_, rfl, q2, v3.trans q3⟩
      have d : (b == 116) = false := by simpa using h3
      simp only [d, go_sem, e107]
      by_cases h4 : b = 107
      · have d4 : (b == 107) = true := by simpa using h4
        have hor : b = 116 ∨ b = 107 := .inr h4
        simp only [d4, go_sem, if_pos hor, v1]
        rcases hv : valueS args st r with _ | ⟨v, a⟩
        · rw [hv] at v2
          simp only [go_sem, List.getElem?_cons_zero, List.getElem?_cons_succ, Bool.not_false]
          exact ⟨_, rfl, v2, v3⟩
        · rw [hv] at v2
          simp only [go_sem, List.getElem?_cons_zero, List.getElem?_cons_succ, Bool.not_true, sortkey_reader_option_J4_eq, e116, d, sortkey_reader_option_J5_eq, V_sortkey_reader_key, List.cons_append, List.nil_append, if_neg h3]
          obtain ⟨H', q1, q2, q3⟩ := rkey_spec v2 hkl (hvl v a hv)
          simp only [q1, go_sem]
          exact ⟨_, rfl, q2, v3.trans q3⟩
      · have d4 : (b == 107) = false := by simpa using h4
        have hor : ¬ (b = 116 ∨ b = 107) := fun h => h.elim h3 h4
        simp only [d4, go_sem, if_neg hor]
        exact ⟨_, rfl, ⟨kx, ho, hk⟩, Hold.refl _ _⟩
    · have c2 : (((flagV b : Nat) : Int) != 0) = true := by simp; omega
      obtain ⟨q1, q2⟩ := or_ok hf (flagV_lt b)
      obtain ⟨kx, ho, hk⟩ := hr
      have hl : aload false 1 (.ptr o 2) H = some (.int .i64 st.flags) := by rw [aload_f1 ho]; rfl
      have hnz : flagV b ≠ 0 := hz
      simp only [c2, go_sem, if_pos hnz, Nat.zero_add, hl, flag_spec, q1]
      rw [astore1 ho rfl rfl (by simp [Rs.cells])]
      simp only [go_sem, sortkey_reader_option_J3_eq]
      obtain ⟨H', r1, r2, r3⟩ := ih { st with flags := st.flags ||| flagV b } _ hrl ⟨kx, get_set_self ho, row_set hk ho _⟩ hkl q2 hat
      exact ⟨H', r1, r2, (Hold.set _).trans r3⟩
/-- What options leave. -/
theorem sepOp_ok {args : List (List UInt8)} {st : Rs} (h : RsOk args st) (v : List UInt8) : RsOk args (sepOp st v).1 := by
  unfold sepOp
  split
  · rename_i c
    split
    · exact h
    · rename_i hc
      have := c.toNat_lt
      refine ⟨h.keys, h.good, ⟨by simp only; omega, by simp only; omega, ?_⟩, h.flags, h.at_⟩
      simp only
      intro e
      apply hc
      apply UInt8.toNat_inj.1
      show c.toNat = 10
      omega
  · exact h
theorem keyOp_ok {args : List (List UInt8)} {st : Rs} (h : RsOk args st) (v : List UInt8) : RsOk args (keyOp st v).1 := by
  unfold keyOp
  split
  · exact h
  · rename_i h8
    split
    · rename_i he
      have := h.keys
      refine ⟨by simp; omega, fun k hk => ?_, h.sep, h.flags, h.at_⟩
      rcases List.mem_append.1 hk with hk | hk
      · exact h.good k hk
      · rw [List.mem_singleton.1 hk]
        exact keyP_good he
    · exact h
theorem optS_ok {args : List (List UInt8)} : ∀ (s : List UInt8) (st : Rs), RsOk args st → RsOk args (optS args s st).1 := by
  intro s
  induction s with
  | nil => intro st h; exact h
  | cons b r ih =>
    intro st h
    rw [optS_cons]
    split
    · exact ih _ ⟨h.keys, h.good, h.sep, (or_ok h.flags (flagV_lt b)).2, h.at_⟩
    · split
      · exact ih _ ⟨h.keys, h.good, h.sep, h.flags, h.at_⟩
      · split
        · exact ih _ ⟨h.keys, h.good, h.sep, h.flags, h.at_⟩
        · split
          · rcases hv : valueS args st r with _ | ⟨v, a⟩
            · exact h
            · have ha : a < args.length := by
                unfold valueS at hv
                split at hv
                · rw [Option.map_eq_some_iff] at hv
                  obtain ⟨w, hw, he⟩ := hv
                  cases he
                  exact lt_of_get hw
                · cases hv
                  exact h.at_
              have h2 : RsOk args { st with at_ := a } := ⟨h.keys, h.good, h.sep, h.flags, ha⟩
              simp only
              split
              · exact sepOp_ok h2 v
              · exact keyOp_ok h2 v
          · exact h
end Go.Am
namespace Go.Am
open Go.Proofs
set_option linter.unusedSimpArgs false
set_option linter.unusedVariables false

def parseL (args : List (List UInt8)) : Nat → Rs → Rs × Int
  | 0, st => (st, 0)
  | f + 1, st => match args[st.at_]? with
    | none => (st, 0)
    | some s => if s = [45, 45] then ({ st with at_ := st.at_ + 1 }, 0) else match s with
      | y :: b :: r => if y = 45 then (if (optS args (b :: r) st).2 ≠ 0 then optS args (b :: r) st else parseL args f { (optS args (b :: r) st).1 with at_ := (optS args (b :: r) st).1.at_ + 1 }) else (st, 0)
      | _ => (st, 0)
theorem sepOp_at (st : Rs) (v : List UInt8) : (sepOp st v).1.at_ = st.at_ := by
  unfold sepOp
  split
  · split <;> rfl
  · rfl
theorem keyOp_at (st : Rs) (v : List UInt8) : (keyOp st v).1.at_ = st.at_ := by
  unfold keyOp
  split
  · rfl
  · split <;> rfl
theorem optS_at (args : List (List UInt8)) : ∀ (s : List UInt8) (st : Rs), st.at_ ≤ (optS args s st).1.at_ := by
  intro s
  induction s with
  | nil => intro st; exact Nat.le_refl _
  | cons b r ih =>
    intro st
    rw [optS_cons]
    split
    · exact ih { st with flags := st.flags ||| flagV b }
    · split
      · exact ih { st with uniq := true }
      · split
        · exact ih { st with stab := true }
        · split
          · rcases hv : valueS args st r with _ | ⟨v, a⟩
            · exact Nat.le_refl _
            · have ha : st.at_ ≤ a := by
                unfold valueS at hv
                split at hv
                · rw [Option.map_eq_some_iff] at hv
                  obtain ⟨w, hw, he⟩ := hv
                  cases he
                  omega
                · cases hv
                  omega
              simp only
              split
              · rw [sepOp_at]; exact ha
              · rw [keyOp_at]; exact ha
          · exact Nat.le_refl _
def rs0 : Rs := ⟨[], -1, 0, false, false, 0⟩
def spNil : Spec := ⟨[], 0, 0, false, false⟩
def parseS (args : List (List UInt8)) : Spec × List (List UInt8) × Int × Nat :=
  let q := parseL args (args.length + 1) rs0
  if q.2 = 0 then (q.1.spec, args.drop q.1.at_, 0, 0) else (spNil, [], q.2, q.1.at_)
def Fr (o o2 : Nat) (H H' : Hp) : Prop := ∀ (i : Nat) (c : List AV), i ≠ o → i ≠ o2 → H[i]? = some (.cells c) → H'[i]? = some (.cells c)
theorem Fr.pre {o o2 : Nat} {A B C : Hp} (h : Hold o A B) (k : Fr o o2 B C) : Fr o o2 A C := fun i c h1 h2 hc => k i c h1 h2 (h i c h1 hc)
theorem aload7 {H : Hp} {o : Nat} {a b c d e f g : AV} (h : H[o]? = some (.cells [a, b, c, d, e, f, g])) : aload true 5 (.ptr o 0) H = some (.agg [a, b, c, d, e]) := by
  rw [aload_of h]
  simp [Go.Am.apart]
theorem Sl.from {k : Nat} {x : AV} {l : List AV} (h : Sl k x l) {n : Nat} (hn : n ≤ l.length) : ∃ y, asliceV k x (some (.int .i64 (n : Int))) none none = some y ∧ Sl k y (l.drop n) ∧ ∀ H, elems k y H = some (l.drop n) := by
  rcases h with ⟨rfl, rfl⟩ | ⟨tok, rfl⟩
  · have : n = 0 := by simpa using hn
    subst this
    exact ⟨.nils, by have := abounds_lo (n := 0) (len := 0) (cap := 0) .i64 (by omega) (by omega); simp [asliceV, this], .inl ⟨rfl, rfl⟩, fun H => rfl⟩
  · refine ⟨_, asliceV_lo k tok .i64 (by omega) (by omega), .inr ⟨_, rfl⟩, fun H => ?_⟩
    simp [elems]
theorem fill_sep : (afill [(1, 1, .int .i64 (-1))] [.nils, .int .i64 0, .int .i64 0, .bool false, .bool false]).map AV.agg = some (.agg [.nils, .int .i64 (-1), .int .i64 0, .bool false, .bool false]) := by
  simp [afill, AV.known, AV.cells, splice]
theorem fill_rd {ax : AV} {l : List AV} (h : Sl 1 ax l) : (afill [(0, 5, .agg [.nils, .int .i64 (-1), .int .i64 0, .bool false, .bool false]), (5, 1, ax)] [.nils, .int .i64 0, .int .i64 0, .bool false, .bool false, .nils, .int .i64 0]).map AV.agg =
    some (.agg [.nils, .int .i64 (-1), .int .i64 0, .bool false, .bool false, ax, .int .i64 0]) := by
  rcases h with ⟨rfl, _⟩ | ⟨tok, rfl⟩ <;> simp [afill, AV.known, AV.cells, splice]
/-- What Parse hands back, told by the reader's last state. -/
def Done (args : List (List UInt8)) (q : Rs × Int) (a x : AV) (e : Int) (n : Nat) : Prop :=
  if q.2 = 0 then SpecAV a q.1.spec ∧ Sl 1 x ((args.drop q.1.at_).map AV.str) ∧ e = 0 ∧ n = 0 else SpecAV a spNil ∧ Sl 1 x [] ∧ e = q.2 ∧ n = q.1.at_
theorem parse_end {args : List (List UInt8)} {ax : AV} (hax : Sl 1 ax (args.map AV.str)) (hb : args.length ≤ 2000000) {o o2 : Nat} (hne : o2 ≠ o) (H0 : Hp) {st : Rs} {H : Hp} (hr : Rd ax o H st) (hat : st.at_ ≤ args.length)
    {a b c d e : AV} (h2 : H[o2]? = some (.cells [a, b, c, d, e])) :
    ∃ v x e n H', sortkey_Parse_J1 ax (.ptr o2 0) (.ptr o 0) H0 H = some (.tuple [v, x, .int .i64 e, .int .i64 (n : Nat)], H') ∧ Done args (st, 0) v x e n ∧ Fr o o2 H H' := by
  obtain ⟨kx, ho, hk⟩ := hr
  unfold Rs.cells at ho
  rw [sortkey_Parse_J1_eq]
  obtain ⟨y, s1, s2, s3⟩ := hax.from (n := st.at_) (by simpa using hat)
  obtain ⟨x', H1, g1, g2, g3, g4, g5⟩ := (show Row H 1 .nils [] from .inl ⟨rfl, rfl⟩).app 16 y _ (s3 H) (by simp; omega)
  have ho1 := g4 _ _ ho
  have h21 := g4 _ _ h2
  have hx' : Sl 1 x' ((args.drop st.at_).map AV.str) := by
    rw [List.nil_append, ← List.map_drop] at g2
    rcases g2 with ⟨q1, q2⟩ | ⟨t, e, q1, _⟩
    · exact .inl ⟨q1, q2⟩
    · exact .inr ⟨_, q1⟩
  have hsl : Sl 5 kx (st.keys.map Ke.av) := by
    rcases hk with ⟨q1, q2⟩ | ⟨t, e, q1, _⟩
    · exact .inl ⟨q1, q2⟩
    · exact .inr ⟨_, q1⟩
  simp only [go_sem, Nat.zero_add, aload_f1 ho, List.getElem?_cons_zero, List.getElem?_cons_succ, s1, g1, aload7 ho1, astore5 h21, aload5 (get_set_self h21)]
  refine ⟨_, x', 0, 0, _, rfl, ?_, fun i c h1 h2 hc => get_set_ne _ (Ne.symm h2) (g4 i c hc)⟩
  unfold Done
  rw [if_pos rfl]
  exact ⟨⟨kx, rfl, hsl⟩, hx', rfl, rfl⟩
theorem parse_loop {args : List (List UInt8)} {ax : AV} (hax : Sl 1 ax (args.map AV.str)) (hb : args.length ≤ 2000000) (hall : ∀ s ∈ args, s.length ≤ 1048576) {o o2 : Nat} (hne : o2 ≠ o) (H0 : Hp) {a b c d e : AV} : ∀ (f : Nat) (st : Rs) (H : Hp), args.length < st.at_ + f → Rd ax o H st → st.at_ ≤ args.length →
    (st.at_ < args.length → RsOk args st) → H[o2]? = some (.cells [a, b, c, d, e]) →
    ∃ v x e n H', sortkey_Parse_L1 ax (.ptr o2 0) (.ptr o 0) H0 H = some (.tuple [v, x, .int .i64 e, .int .i64 (n : Nat)], H') ∧ Done args (parseL args f st) v x e n ∧ Fr o o2 H H' := by
  intro f
  induction f with
  | zero => intro st H hf hr hat; omega
  | succ f ih =>
    intro st H hf hr hat hok h2
    rw [sortkey_Parse_L1_eq]
    have hr0 := hr
    obtain ⟨kx, ho, hk⟩ := hr
    have ho' := ho
    unfold Rs.cells at ho'
    simp only [go_sem, Nat.zero_add, aload_f1 ho', List.getElem?_cons_zero, List.getElem?_cons_succ, hax.strlen, parseL]
    by_cases hlt : st.at_ < args.length
    · have hok := hok hlt
      have c1 : decide ((st.at_ : Int) < (args.length : Int)) = true := by simp; omega
      have hix : aindexS 1 ax (.int .i64 (st.at_ : Int)) = some (.vp [.str args[st.at_]]) := hax.str (List.getElem?_eq_getElem hlt)
      rw [List.getElem?_eq_getElem hlt]
      have hs := hall args[st.at_] (List.getElem_mem hlt)
      generalize args[st.at_] = s at hix hs ⊢
      simp only [c1, go_sem, sortkey_Parse_J2_eq, Nat.zero_add, aload_f1 ho', List.getElem?_cons_zero, List.getElem?_cons_succ, hix, aload_vpc]
      have hw : IntKind.i64.wrap ((st.at_ : Int) + 1) = ((st.at_ + 1 : Nat) : Int) := by rw [wrap64 (by omega) (by omega)]; omega
      by_cases hdd : s = [45, 45]
      · have c2 : (s == [45, 45]) = true := by simpa using hdd
        simp only [c2, go_sem, Nat.zero_add, aload_f1 ho', List.getElem?_cons_zero, List.getElem?_cons_succ, hw, if_pos hdd]
        rw [astore1 ho rfl rfl (by simp [Rs.cells])]
        simp only [go_sem]
        obtain ⟨v, x, e, n, H', r1, r2, r3⟩ := parse_end (st := { st with at_ := st.at_ + 1 }) hax hb hne H0 ⟨kx, get_set_self ho, row_set hk ho _⟩ hlt (get_set_ne _ (Ne.symm hne) h2)
        exact ⟨v, x, e, n, H', r1, r2, Fr.pre (Hold.set _) r3⟩
      have c2 : (s == [45, 45]) = false := by simpa using hdd
      simp only [c2, go_sem, if_neg hdd, sortkey_Parse_J4_eq]
      have stop := parse_end hax hb hne H0 hr0 hat h2
      match s, hix, hs, hdd, c2, stop with
      | [], _, _, _, _, stop =>
        have c3 : decide ((([] : List UInt8).length : Int) < 2) = true := by decide
        simp only [c3, go_sem]
        exact stop
      | [y], _, _, _, _, stop =>
        have c3 : decide ((([y] : List UInt8).length : Int) < 2) = true := by simp
        simp only [c3, go_sem]
        exact stop
      | y :: z :: r, _, hs, _, _, stop =>
        have c3 : decide (((y :: z :: r).length : Int) < 2) = false := by simp; omega
        have hi0 : aindexStr (.str (y :: z :: r)) (.int .i64 0) = some (.int .u8 y.toNat) := aindexStr_of (s := y :: z :: r) (i := 0) rfl
        have e45 : ((y.toNat : Int) != 45) = (y != 45) := by
          have : ((y.toNat : Int) == 45) = (y == 45) := u8eq y 45 (by decide)
          simp only [bne, this]
        simp only [c3, go_sem, hi0, e45]
        by_cases hy : y = 45
        · subst hy
          have c4 : ((45 : UInt8) != 45) = false := rfl
          have hsl := asliceS_lo (s := 45 :: z :: r) (n := (1 : Int)) .i64 (by omega) (by simp only [List.length_cons]; omega)
          rw [show ((1 : Int)).toNat = 1 from rfl, List.drop_one, List.tail_cons] at hsl
          obtain ⟨H1, q1, q2, q3⟩ := option_spec hax hb hall (H0 := H) (z :: r) st H (by simp at hs ⊢; omega) hr0 hok.keys hok.flags hlt
          have hok1 := optS_ok (z :: r) st hok
          simp only [c4, go_sem, sortkey_Parse_J5_eq, hsl, if_true]
          rw [F_sortkey_reader_option_eq]
          unfold F_sortkey_reader_option
          simp only [q1, go_sem]
          generalize hq : optS args (z :: r) st = q at q2 hok1 ⊢
          obtain ⟨st1, er⟩ := q
          simp only at q2 hok1 ⊢
          have h21 := q3 _ _ hne h2
          obtain ⟨kx1, ho1, hk1⟩ := q2
          by_cases he : er = 0
          · have c5 : (er != 0) = false := by simpa using he
            have c6 : ¬ er ≠ 0 := by omega
            have ho1' := ho1
            unfold Rs.cells at ho1'
            have hat1 := hok1.at_
            have hw1 : IntKind.i64.wrap ((st1.at_ : Int) + 1) = ((st1.at_ + 1 : Nat) : Int) := by rw [wrap64 (by omega) (by omega)]; omega
            simp only [c5, go_sem, if_neg c6, sortkey_Parse_J3_eq, Nat.zero_add, aload_f1 ho1', List.getElem?_cons_zero, List.getElem?_cons_succ, hw1]
            rw [astore1 ho1 rfl rfl (by simp [Rs.cells])]
            simp only [go_sem]
            have hmono : st.at_ ≤ st1.at_ := by
              have := optS_at args (z :: r) st
              rw [hq] at this
              exact this
            obtain ⟨v, x, e, n, H', r1, r2, r3⟩ := ih { st1 with at_ := st1.at_ + 1 } _ (by simp only; omega) ⟨kx1, get_set_self ho1, row_set hk1 ho1 _⟩ hat1 (fun h => ⟨hok1.keys, hok1.good, hok1.sep, hok1.flags, h⟩) (get_set_ne _ (Ne.symm hne) h21)
            exact ⟨v, x, e, n, H', r1, r2, Fr.pre (q3.trans (Hold.set _)) r3⟩
          · have c5 : (er != 0) = true := by simpa using he
            have hfld : afield 6 (.vp (st1.cells kx1 ax)) = some (.vp [.int .i64 st1.at_]) := rfl
            have h22 := get_set_ne (H := H1) AObj.dead (Ne.symm hne) h21
            simp only [c5, go_sem, if_pos he, frz_of ho1, hfld, aloadv_vpc, astore5 h22, aload5 (get_set_self h22)]
            refine ⟨_, .nils, er, st1.at_, _, rfl, ?_, fun i c h1 h2 hc => get_set_ne _ (Ne.symm h2) (get_set_ne _ (Ne.symm h1) (q3 i c h1 hc))⟩
            unfold Done
            rw [if_neg he]
            exact ⟨⟨.nils, rfl, .inl ⟨rfl, rfl⟩⟩, .inl ⟨rfl, rfl⟩, rfl, rfl⟩
        · have c4 : (y != 45) = true := by simpa using hy
          simp only [c4, go_sem, if_neg hy]
          exact stop
    · have c1 : decide ((st.at_ : Int) < (args.length : Int)) = false := by simp; omega
      rw [List.getElem?_eq_none (by omega)]
      simp only [c1, go_sem]
      exact parse_end hax hb hne H0 hr0 hat h2
theorem parse_spec {args : List (List UInt8)} {ax : AV} (hax : Sl 1 ax (args.map AV.str)) (hb : args.length ≤ 2000000) (hall : ∀ s ∈ args, s.length ≤ 1048576) (H : Hp) :
    ∃ v x H', C_sortkey_Parse [ax] H = some (.tuple [v, x, .int .i64 (parseS args).2.2.1, .int .i64 ((parseS args).2.2.2 : Nat)], H') ∧ SpecAV v (parseS args).1 ∧ Sl 1 x ((parseS args).2.1.map AV.str) ∧ (∀ (i : Nat) (c : List AV), H[i]? = some (.cells c) → H'[i]? = some (.cells c)) := by
  rw [F_sortkey_Parse_eq]
  unfold F_sortkey_Parse
  simp only [go_sem, fill_sep, fill_rd hax, List.length_append, List.length_cons, List.length_nil, Nat.zero_add]
  have h2 : (H ++ [AObj.cells [.nils, .int .i64 0, .int .i64 0, .bool false, .bool false]] ++ [AObj.cells [.nils, .int .i64 (-1), .int .i64 0, .bool false, .bool false, ax, .int .i64 0]])[H.length]? = some (.cells [.nils, .int .i64 0, .int .i64 0, .bool false, .bool false]) := by simp
  have ho : (H ++ [AObj.cells [.nils, .int .i64 0, .int .i64 0, .bool false, .bool false]] ++ [AObj.cells [.nils, .int .i64 (-1), .int .i64 0, .bool false, .bool false, ax, .int .i64 0]])[H.length + 1]? = some (.cells (rs0.cells .nils ax)) := by
    rw [List.getElem?_append_right (by simp)]
    simp [Rs.cells, rs0]
  obtain ⟨v, x, e, n, H', q1, q2, q3⟩ := parse_loop hax hb hall (o := H.length + 1) (o2 := H.length) (by omega) H (args.length + 1) rs0 _ (by simp only [rs0]; omega) ⟨.nils, ho, .inl ⟨rfl, rfl⟩⟩ (Nat.zero_le _)
    (fun h => ⟨by simp [rs0], by simp [rs0], by decide, by decide, h⟩) h2
  have q4 : ∀ (i : Nat) (c : List AV), H[i]? = some (.cells c) → H'[i]? = some (.cells c) := fun i c h => by
    have := lt_of_get h
    exact q3 i c (by omega) (by omega) (get_push (get_push h _) _)
  unfold Done at q2
  unfold parseS
  simp only
  split at q2
  · rename_i hz
    obtain ⟨a1, a2, rfl, rfl⟩ := q2
    simp only [if_pos hz]
    exact ⟨v, x, H', q1, a1, a2, q4⟩
  · rename_i hz
    obtain ⟨a1, a2, rfl, rfl⟩ := q2
    simp only [if_neg hz]
    exact ⟨v, x, H', q1, a1, by simpa using a2, q4⟩
end Go.Am
namespace Go.Am
open Go.Proofs
set_option linter.unusedSimpArgs false
set_option linter.unusedVariables false

structure RsG (st : Rs) : Prop where
  keys : st.keys.length ≤ 8
  good : ∀ k ∈ st.keys, keyBad k = false ∧ KeOk k
  sep : -1 ≤ st.sep ∧ st.sep ≤ 255 ∧ st.sep ≠ 10
  flags : st.flags < 32
theorem parseL_ok {args : List (List UInt8)} : ∀ (f : Nat) (st : Rs), RsG st → st.at_ ≤ args.length → RsG (parseL args f st).1 ∧ ((parseL args f st).2 = 0 → (parseL args f st).1.at_ ≤ args.length) ∧ ((parseL args f st).2 ≠ 0 → (parseL args f st).1.at_ < args.length) := by
  intro f
  induction f with
  | zero => intro st h hat; exact ⟨h, fun _ => hat, fun h => absurd rfl h⟩
  | succ f ih =>
    intro st h hat
    simp only [parseL]
    rcases hs : args[st.at_]? with _ | s
    · exact ⟨h, fun _ => hat, fun h => absurd rfl h⟩
    · have hlt := lt_of_get hs
      simp only
      split
      · exact ⟨⟨h.keys, h.good, h.sep, h.flags⟩, fun _ => hlt, fun h => absurd rfl h⟩
      · split
        · rename_i y b r _
          split
          · have h2 := optS_ok (args := args) (b :: r) st ⟨h.keys, h.good, h.sep, h.flags, hlt⟩
            split
            · rename_i he
              exact ⟨⟨h2.keys, h2.good, h2.sep, h2.flags⟩, fun e => absurd e he, fun _ => h2.at_⟩
            · exact ih _ ⟨h2.keys, h2.good, h2.sep, h2.flags⟩ h2.at_
          · exact ⟨h, fun _ => hat, fun h => absurd rfl h⟩
        · exact ⟨h, fun _ => hat, fun h => absurd rfl h⟩
theorem rsg0 : RsG rs0 := ⟨by simp [rs0], by simp [rs0], by decide, by decide⟩
theorem spec_zero {st : Rs} (h : RsG st) : checkS st.spec = 0 := by
  have h1 := h.keys
  have h2 := h.sep
  have h3 := h.flags
  unfold checkS Rs.spec
  simp only
  rw [if_neg (by omega)]
  have c : (decide (st.sep < -1) || (decide (255 < st.sep) || (st.sep == 10 || (decide ((st.flags : Int) < 0) || decide (31 < (st.flags : Int)))))) = false := by
    simp only [Bool.or_eq_false_iff, decide_eq_false_iff_not, beq_eq_false_iff_ne]
    omega
  rw [c]
  simp only [Bool.false_eq_true, if_false]
  rw [if_neg]
  intro ha
  obtain ⟨k, hk, hb⟩ := List.any_eq_true.1 ha
  rw [(h.good k hk).1] at hb
  cases hb
theorem parseS_facts (args : List (List UInt8)) : ((parseS args).2.2.1 = 0 → checkS (parseS args).1 = 0 ∧ (parseS args).2.2.2 = 0 ∧ ∃ k, k ≤ args.length ∧ (parseS args).2.1 = args.drop k) ∧
    ((parseS args).2.2.1 ≠ 0 → (parseS args).2.2.2 < args.length ∧ (parseS args).2.1 = []) := by
  obtain ⟨h1, h2, h3⟩ := parseL_ok (args := args) (args.length + 1) rs0 rsg0 (Nat.zero_le _)
  unfold parseS
  simp only
  by_cases hz : (parseL args (args.length + 1) rs0).2 = 0
  · simp only [if_pos hz]
    exact ⟨fun _ => ⟨spec_zero h1, trivial, _, h2 hz, rfl⟩, fun h => absurd rfl h⟩
  · simp only [if_neg hz]
    exact ⟨fun h => absurd h hz, fun _ => ⟨h3 hz, trivial⟩⟩
end Go.Am
namespace Go.Am
open Go.Proofs
set_option linter.unusedSimpArgs false
set_option linter.unusedVariables false

/-! Numbers. -/
/-! Flags. -/
/-! A part of a key. -/
/-! The arguments. -/
def run (args : List (List UInt8)) (st : Rs) : Rs × Int := parseL args (args.length + 1) st
end Go.Am
namespace Go.Am
open Go.Proofs
set_option linter.unusedSimpArgs false
set_option linter.unusedVariables false
set_option maxRecDepth 100000

noncomputable def fs34 : List Field := match Tryz.prog.underlying 34 with
  | some (.struct fs) => fs.toList
  | _ => []
theorem under34 : ∃ fs : Array Field, Tryz.prog.underlying 34 = some (.struct fs) ∧ fs.toList = fs34 := ⟨fs34.toArray, by kernel_rfl, by simp⟩
theorem fs34_ok : (fs34.all fun f => f.name != "_" && f.type == 3 && decide (f.offset < 5)) = true := by kernel_rfl
theorem under3 : Tryz.prog.underlying 3 = some (.int .i64) := by kernel_rfl
theorem agg3 : isAggT Tryz.prog 3 = some false := by kernel_rfl
theorem sz3 : szT Tryz.prog 3 = some 1 := by kernel_rfl
theorem eqok34 : cfg.eqok 34 = true := by kernel_rfl
theorem eq_same {P : Program} {rec : TypeId → AV → AV → Option Bool} (hg : isAggT P 3 = some false) (hs : szT P 3 = some 1) {xs : List AV} (hrec : ∀ (i : Nat) (x : AV), xs[i]? = some x → rec 3 x x = some true) : ∀ fs : List Field, (fs.all fun f => f.name != "_" && f.type == 3 && decide (f.offset < xs.length)) = true →
    aeqFields P rec xs xs fs = some true := by
  intro fs
  induction fs with
  | nil => intro _; rfl
  | cons f fs ih =>
    intro h
    rw [List.all_cons, Bool.and_eq_true] at h
    obtain ⟨h1, h2⟩ := h
    simp only [Bool.and_eq_true, bne_iff_ne, ne_eq, beq_iff_eq, decide_eq_true_eq] at h1
    obtain ⟨⟨n1, n2⟩, n3⟩ := h1
    have ha : apart false 1 xs f.offset = xs[f.offset]? := by simp [apart]
    unfold aeqFields
    rw [if_pos n1, n2, hg, hs]
    simp only [ha, List.getElem?_eq_getElem n3, hrec _ _ (List.getElem?_eq_getElem n3)]
    exact ih h2
theorem key_eq (k : Ke) : aeqBin Tryz.prog cfg.eqok .neq 34 (.agg k.cells) (.agg k.cells) = some (.bool false) := by
  have h : aeq Tryz.prog cfg.eqok 20 34 (.agg k.cells) (.agg k.cells) = some true := by
    obtain ⟨fs, h1, h2⟩ := under34
    unfold aeq
    rw [h1]
    simp only [eqok34, if_true]
    rw [h2]
    refine eq_same agg3 sz3 (fun i x hx => ?_) fs34 fs34_ok
    have hm := List.mem_of_getElem? hx
    simp only [Ke.cells, List.mem_cons, List.not_mem_nil, or_false] at hm
    have : ∃ n, x = .int .i64 n := by rcases hm with rfl | rfl | rfl | rfl | rfl <;> exact ⟨_, rfl⟩
    obtain ⟨n, rfl⟩ := this
    unfold aeq
    rw [under3]
    simp [aeqS]
  unfold aeqBin
  simp only [h]
  rfl
theorem samesp_loop {x y : AV} {l : List Ke} (hx : Sl 5 x (l.map Ke.av)) (hy : Sl 5 y (l.map Ke.av)) (hb : l.length ≤ 1000) {o o2 : Nat} {r r2 : List AV} {H : Hp} (ho : H[o]? = some (.cells (x :: r))) (ho2 : H[o2]? = some (.cells (y :: r2))) (H0 : Hp) : ∀ (m i : Nat), l.length - i = m → i ≤ l.length →
    texttoolsref20_SameSpec_L1 (.ptr o 0) (.ptr o2 0) (.int .i64 (i : Int)) H0 H = some (.bool true, H) := by
  have hlen := hx.len 34
  rw [List.length_map] at hlen
  intro m
  induction m with
  | zero =>
    intro i hm hi
    rw [texttoolsref20_SameSpec_L1_eq]
    have hlt : decide ((i : Int) < (l.length : Int)) = false := by simp; omega
    simp only [go_sem, Nat.zero_add, aload_f1 ho, List.getElem?_cons_zero, hlen, hlt, texttoolsref20_SameSpec_J2_eq]
  | succ m ih =>
    intro i hm hi
    rw [texttoolsref20_SameSpec_L1_eq]
    have h1 : i < l.length := by omega
    have hlt : decide ((i : Int) < (l.length : Int)) = true := by simp; omega
    have hw : IntKind.i64.wrap ((i : Int) + 1) = ((i + 1 : Nat) : Int) := by rw [wrap64 (by omega) (by omega)]; omega
    simp only [go_sem, Nat.zero_add, aload_f1 ho, aload_f1 ho2, List.getElem?_cons_zero, hlen, hlt, texttoolsref20_SameSpec_J3_eq, hx.key (List.getElem?_eq_getElem h1), hy.key (List.getElem?_eq_getElem h1), aload_vp5, key_eq, texttoolsref20_SameSpec_J4_eq, hw]
    exact ih (i + 1) (by omega) (by omega)
theorem samesp_run {a b : AV} {p : Spec} (ha : SpecAV a p) (hb : SpecAV b p) (hl : p.keys.length ≤ 1000) (H : Hp) : ∃ H', C_texttoolsref20_SameSpec [a, b] H = some (.bool true, H') := by
  obtain ⟨x, rfl, hx⟩ := ha
  obtain ⟨y, rfl, hy⟩ := hb
  rw [F_texttoolsref20_SameSpec_eq]
  unfold F_texttoolsref20_SameSpec
  have l1 := hx.len 34
  have l2 := hy.len 34
  rw [List.length_map] at l1 l2
  have ho : (H ++ [AObj.cells (p.cells x)] ++ [AObj.cells (p.cells y)])[H.length]? = some (.cells (p.cells x)) := by simp
  have ho2 : (H ++ [AObj.cells (p.cells x)] ++ [AObj.cells (p.cells y)])[H.length + 1]? = some (.cells (p.cells y)) := by rw [List.getElem?_append_right (by simp)]; simp
  have e1 : ∀ n : Int, (n != n) = false := fun n => by simp
  have e2 : ∀ b : Bool, (!(b == b)) = false := fun b => by cases b <;> rfl
  unfold Spec.cells at ho ho2
  simp only [Spec.cells, go_sem, List.length_append, List.length_cons, List.length_nil, Nat.zero_add]
  simp only [go_sem, Nat.zero_add, Nat.add_zero, aload_f1 ho, aload_f1 ho2, List.getElem?_cons_zero, List.getElem?_cons_succ, l1, l2, e1, e2, texttoolsref20_SameSpec_J1_eq]
  exact ⟨_, samesp_loop hx hy hl ho ho2 H p.keys.length 0 (by omega) (by omega)⟩
theorem samesp_ok {a b : AV} {p : Spec} (ha : SpecAV a p) (hb : SpecAV b p) (hl : p.keys.length ≤ 1000) (H : Hp) : flatC C_texttoolsref20_SameSpec [a, b] H = some (.bool true, H) := by
  obtain ⟨a', h1, h2⟩ := ha.close [] 0 2
  obtain ⟨b', h3, h4⟩ := hb.close [] 0 2
  obtain ⟨H', h5⟩ := samesp_run h2 h4 hl []
  exact flat2 h1 h3 h5 rfl
theorem Sl.elems {k : Nat} {x : AV} {l : List AV} (h : Sl k x l) (H : Hp) : Go.Am.elems k x H = some l := by
  rcases h with ⟨rfl, rfl⟩ | ⟨tok, rfl⟩
  · rfl
  · simp [Go.Am.elems]
theorem Row.sl {H : Hp} {k : Nat} {x : AV} {l : List AV} (h : Row H k x l) : Sl k x l := h.imp id fun ⟨t, e, a, _⟩ => ⟨_, a⟩
end Go.Am
