/-
  The fields of a line that blanks divide.
-/
import Derived.Test.YtijddagljnlfmaaGreatDoorSkS
namespace Go.Am
set_option linter.unusedSimpArgs false
set_option linter.unusedVariables false

def skipB (l : List UInt8) : Nat := (l.takeWhile isBl).length
def skipN (l : List UInt8) : Nat := (l.takeWhile fun b => !isBl b).length
theorem skipB_nil : skipB [] = 0 := rfl
theorem skipN_nil : skipN [] = 0 := rfl
theorem skipB_cons (b : UInt8) (l : List UInt8) : skipB (b :: l) = if isBl b then skipB l + 1 else 0 := by
  unfold skipB; rw [List.takeWhile_cons]; split <;> simp
theorem skipN_cons (b : UInt8) (l : List UInt8) : skipN (b :: l) = if isBl b then 0 else skipN l + 1 := by
  unfold skipN; rw [List.takeWhile_cons]; cases isBl b <;> simp
theorem skipB_le (l : List UInt8) : skipB l ≤ l.length := by
  induction l with
  | nil => simp [skipB_nil]
  | cons b l ih => rw [skipB_cons]; split <;> simp; exact ih
theorem skipN_le (l : List UInt8) : skipN l ≤ l.length := by
  induction l with
  | nil => simp [skipN_nil]
  | cons b l ih => rw [skipN_cons]; split <;> simp; exact ih
def fieldsW : Bool → List UInt8 → Nat → Nat → List (Nat × Nat)
  | _, [], f, p => [(f, p)]
  | q, b :: l, f, p => if isBl b && !q then (f, p) :: fieldsW (isBl b) l p (p + 1) else fieldsW (isBl b) l f (p + 1)
theorem fieldsW_cons (q : Bool) (b : UInt8) (l : List UInt8) (f p : Nat) : fieldsW q (b :: l) f p = if isBl b && !q then (f, p) :: fieldsW (isBl b) l p (p + 1) else fieldsW (isBl b) l f (p + 1) := (Eq.refl _).trans (Eq.refl _)
/-- The fields from place f on. -/
def fsAt : List UInt8 → Nat → List (Nat × Nat)
  | [], _ => []
  | x :: l, f => fieldsW (isBl x) l f (f + 1)
theorem fsAt_cons (x : UInt8) (l : List UInt8) (f : Nat) : fsAt (x :: l) f = fieldsW (isBl x) l f (f + 1) := (Eq.refl _).trans (Eq.refl _)
theorem fieldsW_N : ∀ (l : List UInt8) (f p : Nat), fieldsW false l f p = (f, p + skipN l) :: fsAt (l.drop (skipN l)) (p + skipN l) := by
  intro l
  induction l with
  | nil => intro f p; rfl
  | cons b l ih =>
    intro f p
    rw [fieldsW_cons, skipN_cons]
    cases hb : isBl b with
    | true => simp [fsAt, hb]
    | false =>
      simp only [Bool.false_and, Bool.false_eq_true, if_false]
      rw [ih]
      simp only [List.drop_succ_cons, show p + 1 + skipN l = p + (skipN l + 1) by omega]
theorem fieldsW_B : ∀ (l : List UInt8) (f p : Nat), fieldsW true l f p = match l.drop (skipB l) with
    | [] => [(f, p + skipB l)]
    | m :: l' => fieldsW false l' f (p + skipB l + 1) := by
  intro l
  induction l with
  | nil => intro f p; rfl
  | cons b l ih =>
    intro f p
    rw [fieldsW_cons, skipB_cons]
    cases hb : isBl b with
    | true =>
      simp only [Bool.not_true, Bool.and_false, Bool.false_eq_true, if_false, if_true, List.drop_succ_cons]
      rw [ih]
      simp only [show p + 1 + skipB l = p + (skipB l + 1) by omega]
    | false => simp
/-- Where a field ends that begins with l. -/
def endW (l : List UInt8) : Nat := skipB l + skipN (l.drop (skipB l))
theorem drop_head (l : List UInt8) {m : UInt8} {l' : List UInt8} (h : l.drop (skipB l) = m :: l') : isBl m = false := by
  induction l with
  | nil => simp at h
  | cons b l ih =>
    rw [skipB_cons] at h
    cases hb : isBl b with
    | true => simp [hb] at h; exact ih h
    | false => simp [hb] at h; rw [← h.1]; exact hb
theorem fsAt_step (l : List UInt8) (f : Nat) (h : 0 < l.length) : fsAt l f = (f, f + endW l) :: fsAt (l.drop (endW l)) (f + endW l) := by
  cases l with
  | nil => simp at h
  | cons x l =>
    rw [fsAt_cons]
    unfold endW
    rw [skipB_cons]
    cases hx : isBl x with
    | false =>
      simp only [Bool.false_eq_true, if_false, List.drop_zero, Nat.zero_add, skipN_cons, hx, List.drop_succ_cons]
      rw [fieldsW_N]
      simp only [show f + 1 + skipN l = f + (skipN l + 1) by omega]
    | true =>
      simp only [if_true]
      rw [fieldsW_B]
      simp only [List.drop_succ_cons]
      cases hd : l.drop (skipB l) with
      | nil =>
        have hlen : skipB l = l.length := by
          have := List.drop_eq_nil_iff.1 hd
          have := skipB_le l
          omega
        simp only [skipN_nil, Nat.add_zero]
        have : (x :: l).drop (skipB l + 1) = [] := by simp [hd]
        rw [this]
        simp [show f + 1 + skipB l = f + (skipB l + 1) by omega, fsAt]
      | cons m l' =>
        have hm := drop_head l hd
        simp only [skipN_cons, hm, Bool.false_eq_true, if_false]
        rw [fieldsW_N]
        have e1 : (x :: l).drop (skipB l + 1 + (skipN l' + 1)) = l'.drop (skipN l') := by
          have : (x :: l).drop (skipB l + 1 + (skipN l' + 1)) = (m :: l').drop (skipN l' + 1) := by
            rw [← hd, List.drop_drop, show skipB l + 1 + (skipN l' + 1) = (skipB l + (skipN l' + 1)) + 1 by omega, List.drop_succ_cons]
          rw [this, List.drop_succ_cons]
        rw [e1]
        simp only [show f + 1 + skipB l + 1 + skipN l' = f + (skipB l + 1 + (skipN l' + 1)) by omega]
theorem endW_pos (l : List UInt8) (h : 0 < l.length) : 0 < endW l := by
  cases l with
  | nil => simp at h
  | cons x l =>
    unfold endW
    rw [skipB_cons]
    cases hx : isBl x with
    | true => simp; omega
    | false => simp [skipN_cons, hx]
theorem endW_le (l : List UInt8) : endW l ≤ l.length := by
  unfold endW
  have h1 := skipB_le l
  have h2 := skipN_le (l.drop (skipB l))
  simp at h2
  omega
theorem aindexStr_of {s : List UInt8} {i : Nat} {b : UInt8} (h : s[i]? = some b) : aindexStr (.str s) (.int .i64 (i : Int)) = some (.int .u8 b.toNat) := by simp [aindexStr, h]
theorem drop_cons {s : List UInt8} {i : Nat} (h : i < s.length) : s.drop i = s[i] :: s.drop (i + 1) := List.drop_eq_getElem_cons h
theorem L3_spec {line : List UInt8} (hlen : line.length ≤ 1048576) (n f i : AV) (H0 H : Hp) : ∀ (k p : Nat), line.length - p = k → p ≤ line.length →
    sortkey_field_L3 (.str line) n f (.int .i64 (p : Int)) i H0 H = sortkey_field_J5 (.str line) n f (.int .i64 ((p + skipB (line.drop p) : Nat) : Int)) i H0 H := by
  intro k
  induction k with
  | zero =>
    intro p hk hp
    rw [sortkey_field_L3_eq]
    have hlt : decide ((p : Int) < (line.length : Int)) = false := by simp; omega
    have hd : line.drop p = [] := List.drop_eq_nil_iff.2 (by omega)
    simp only [go_sem, hlt, hd, skipB_nil, Nat.add_zero]
  | succ k ih =>
    intro p hk hp
    rw [sortkey_field_L3_eq]
    have hlt : decide ((p : Int) < (line.length : Int)) = true := by simp; omega
    have hl : p < line.length := by omega
    have hw : IntKind.i64.wrap ((p : Int) + 1) = ((p + 1 : Nat) : Int) := by rw [wrap64 (by omega) (by omega)]; omega
    simp only [go_sem, hlt, aindexStr_of (List.getElem?_eq_getElem hl), blank_spec]
    rw [drop_cons hl, skipB_cons]
    cases hb : isBl line[p] with
    | true =>
      simp only [go_sem, sortkey_field_J9_eq, hw, if_true]
      rw [ih (p + 1) (by omega) (by omega), show p + 1 + skipB (line.drop (p + 1)) = p + (skipB (line.drop (p + 1)) + 1) by omega]
    | false => simp [go_sem]
theorem L2_spec {line : List UInt8} (hlen : line.length ≤ 1048576) (n f i : AV) (H0 H : Hp) : ∀ (k p : Nat), line.length - p = k → p ≤ line.length →
    sortkey_field_L2 (.str line) n f (.int .i64 (p : Int)) i H0 H = sortkey_field_J6 (.str line) n f (.int .i64 ((p + skipN (line.drop p) : Nat) : Int)) i H0 H := by
  intro k
  induction k with
  | zero =>
    intro p hk hp
    rw [sortkey_field_L2_eq]
    have hlt : decide ((p : Int) < (line.length : Int)) = false := by simp; omega
    have hd : line.drop p = [] := List.drop_eq_nil_iff.2 (by omega)
    simp only [go_sem, hlt, hd, skipN_nil, Nat.add_zero]
  | succ k ih =>
    intro p hk hp
    rw [sortkey_field_L2_eq]
    have hlt : decide ((p : Int) < (line.length : Int)) = true := by simp; omega
    have hl : p < line.length := by omega
    have hw : IntKind.i64.wrap ((p : Int) + 1) = ((p + 1 : Nat) : Int) := by rw [wrap64 (by omega) (by omega)]; omega
    simp only [go_sem, hlt, aindexStr_of (List.getElem?_eq_getElem hl), blank_spec]
    rw [drop_cons hl, skipN_cons]
    cases hb : isBl line[p] with
    | false =>
      simp only [Bool.not_false, go_sem, sortkey_field_J8_eq, hw, Bool.false_eq_true, if_false]
      rw [ih (p + 1) (by omega) (by omega), show p + 1 + skipN (line.drop (p + 1)) = p + (skipN (line.drop (p + 1)) + 1) by omega]
    | true => simp [go_sem]
theorem field_blank_loop {line : List UInt8} (hlen : line.length ≤ 1048576) {n : Int} (H0 H : Hp) : ∀ (k f i : Nat), line.length - f = k → f ≤ line.length → i ≤ f + 1 → (i : Int) ≤ n →
    ∃ a b, sortkey_field_L1 (.str line) (.int .i64 n) (.int .i64 (f : Int)) (.int .i64 (i : Int)) H0 H = some (tup3 a b (decide (n < i + (fsAt (line.drop f) f).length)), H) ∧
      (n < i + (fsAt (line.drop f) f).length → (fsAt (line.drop f) f)[(n - i).toNat]? = some (a, b)) := by
  intro k
  induction k using Nat.strongRecOn with
  | _ k ih =>
    intro f i hk hf hi hn
    rw [sortkey_field_L1_eq]
    by_cases hfl : f < line.length
    · have hlt : decide ((f : Int) < (line.length : Int)) = true := by simp; omega
      have hdl : 0 < (line.drop f).length := by simp; omega
      simp only [go_sem, hlt, sortkey_field_J3_eq]
      rw [L3_spec hlen _ _ _ _ _ _ f rfl (by omega), sortkey_field_J5_eq]
      have hsb := skipB_le (line.drop f)
      have hse := endW_le (line.drop f)
      have hsp := endW_pos (line.drop f) hdl
      simp only [List.length_drop] at hsb hse
      rw [L2_spec hlen _ _ _ _ _ _ (f + skipB (line.drop f)) rfl (by omega), sortkey_field_J6_eq]
      have he : f + skipB (line.drop f) + skipN (line.drop (f + skipB (line.drop f))) = f + endW (line.drop f) := by
        unfold endW; rw [List.drop_drop]; omega
      rw [he, fsAt_step _ _ hdl, List.drop_drop]
      by_cases hni : (i : Int) = n
      · have hb : ((i : Int) == n) = true := by simp [hni]
        simp only [hb, go_sem]
        refine ⟨f, f + endW (line.drop f), ?_, fun _ => by simp [← hni]⟩
        have : (true : Bool) = decide (n < (i : Int) + ((f, f + endW (line.drop f)) :: fsAt (line.drop (f + endW (line.drop f))) (f + endW (line.drop f))).length) := by
          symm; simp; omega
        rw [← this]; rfl
      · have hb : ((i : Int) == n) = false := by simp [hni]
        have hw3 : IntKind.i64.wrap ((i : Int) + 1) = ((i + 1 : Nat) : Int) := by rw [wrap64 (by omega) (by omega)]; omega
        simp only [hb, go_sem, sortkey_field_J7_eq, sortkey_field_J4_eq, hw3]
        obtain ⟨a, b, q1, q2⟩ := ih (line.length - (f + endW (line.drop f))) (by omega) (f + endW (line.drop f)) (i + 1) rfl (by omega) (by omega) (by omega)
        refine ⟨a, b, ?_, fun h => ?_⟩
        · rw [q1]
          have : decide (n < ((i + 1 : Nat) : Int) + (fsAt (line.drop (f + endW (line.drop f))) (f + endW (line.drop f))).length) =
              decide (n < (i : Int) + ((f, f + endW (line.drop f)) :: fsAt (line.drop (f + endW (line.drop f))) (f + endW (line.drop f))).length) := by
            congr 1; simp; constructor <;> intro h <;> omega
          rw [this]
        · have hh : n < ((i + 1 : Nat) : Int) + (fsAt (line.drop (f + endW (line.drop f))) (f + endW (line.drop f))).length := by simp at h ⊢; omega
          have := q2 hh
          rw [show (n - (i : Int)).toNat = (n - ((i + 1 : Nat) : Int)).toNat + 1 by omega]
          simpa using this
    · have hlt : decide ((f : Int) < (line.length : Int)) = false := by simp; omega
      have hd : line.drop f = [] := List.drop_eq_nil_iff.2 (by omega)
      simp only [go_sem, hlt, sortkey_field_J2_eq, hd, fsAt]
      refine ⟨0, 0, ?_, fun h => by simp at h; omega⟩
      have : decide (n < (i : Int) + ([] : List (Nat × Nat)).length) = false := by simp; omega
      rw [this]; rfl
/-- The fields of a line. -/
def fields (line : List UInt8) (sep : Int) : List (Nat × Nat) := if 0 ≤ sep ∧ sep ≤ 255 then fieldsB (UInt8.ofNat sep.toNat) line 0 0 else fsAt line 0
theorem field_spec {line : List UInt8} (hlen : line.length ≤ 1048576) (sep : Int) {n : Int} (hn : 1 ≤ n) (H : Hp) :
    ∃ a b, C_sortkey_field [.str line, .int .i64 n, .int .i64 sep] H = some (tup3 a b (decide (n ≤ (fields line sep).length)), H) ∧
      (n ≤ (fields line sep).length → (fields line sep)[(n - 1).toNat]? = some (a, b)) := by
  rw [F_sortkey_field_eq]
  unfold F_sortkey_field fields
  by_cases h : 0 ≤ sep ∧ sep ≤ 255
  · have c1 : decide ((0 : Int) ≤ sep) = true := by simp [h.1]
    have c2 : decide (sep ≤ (255 : Int)) = true := by simp [h.2]
    rw [if_pos h]
    simp only [go_sem, c1, c2]
    obtain ⟨a, b, q1, q2⟩ := field_byte_loop hlen h.1 h.2 (n := n) H H _ 0 1 rfl (by omega) (by omega) (by omega)
    simp only [List.drop_zero] at q1 q2
    refine ⟨a, b, ?_, fun h => q2 (by omega)⟩
    have : decide (n ≤ ((fieldsB (UInt8.ofNat sep.toNat) line 0 0).length : Int)) = decide (n < ((1 : Nat) : Int) + (fieldsB (UInt8.ofNat sep.toNat) line 0 0).length) := by congr 1; simp; constructor <;> intro h <;> omega
    rw [this]
    exact q1
  · obtain ⟨a, b, q1, q2⟩ := field_blank_loop hlen (n := n) H H _ 0 1 rfl (by omega) (by omega) (by omega)
    simp only [List.drop_zero] at q1 q2
    have main : sortkey_field_J1 (.str line) (.int .i64 n) (.int .i64 0) H H = some (tup3 a b (decide (n ≤ ((fsAt line 0).length : Int))), H) := by
      rw [sortkey_field_J1_eq]
      have : decide (n ≤ ((fsAt line 0).length : Int)) = decide (n < ((1 : Nat) : Int) + (fsAt line 0).length) := by congr 1; simp; constructor <;> intro h <;> omega
      rw [this]
      exact q1
    refine ⟨a, b, ?_, fun h' => by rw [if_neg h] at h' ⊢; exact q2 (by omega)⟩
    rw [if_neg h]
    by_cases h1 : 0 ≤ sep
    · have c1 : decide ((0 : Int) ≤ sep) = true := by simp [h1]
      have c2 : decide (sep ≤ (255 : Int)) = false := by simp; omega
      simp only [go_sem, c1, c2]
      exact main
    · have c1 : decide ((0 : Int) ≤ sep) = false := by simp; omega
      simp only [go_sem, c1]
      exact main
end Go.Am
