/-
  The fields of a line, and the part of it that a key tells.
-/
import Derived.Test.YtijddagljnlfmaaGreatDoorSkG
import Derived.Test.YtijddagljnlfmaaGreatDoorBmT
namespace Go.Am
set_option linter.unusedSimpArgs false
set_option linter.unusedVariables false

theorem u8eq (b : UInt8) (n : Nat) (h : n < 256) : (((b.toNat : Int)) == (n : Int)) = (b == UInt8.ofNat n) := by
  rw [Bool.eq_iff_iff]
  simp only [beq_iff_eq]
  constructor
  · intro e
    have : b.toNat = n := by omega
    rw [← this]; simp
  · intro e
    subst e
    simp; omega
def isBl (b : UInt8) : Bool := b == 32 || b == 9
theorem blank_aux (b : UInt8) : (((b.toNat : Int)) == 32) = (b == 32) ∧ (((b.toNat : Int)) == 9) = (b == 9) := ⟨u8eq b 32 (by decide), u8eq b 9 (by decide)⟩
theorem blank_spec (b : UInt8) (H : Hp) : C_sortkey_blank [.int .u8 b.toNat] H = some (.bool (isBl b), H) := by
  rw [F_sortkey_blank_eq]
  unfold F_sortkey_blank isBl
  simp only [go_sem, (blank_aux b).1]
  cases (b == 32) <;> simp [go_sem, (blank_aux b).2]
theorem rblank_spec (b : UInt8) (H : Hp) : C_texttoolsref20_blank [.int .u8 b.toNat] H = some (.bool (isBl b), H) := by
  rw [F_texttoolsref20_blank_eq]
  unfold F_texttoolsref20_blank isBl
  simp only [go_sem, (blank_aux b).1]
  cases (b == 32) <;> simp [go_sem, (blank_aux b).2]
theorem most_spec (a b : Int) (H : Hp) : C_texttoolsref20_most [.int .i64 a, .int .i64 b] H = some (.int .i64 (max a b), H) := by
  rw [F_texttoolsref20_most_eq]
  unfold F_texttoolsref20_most
  by_cases h : b < a
  · have e : max a b = a := by omega
    simp [go_sem, h, e]
  · have e : max a b = b := by omega
    simp [go_sem, h, e, texttoolsref20_most_J1_eq]
theorem least_spec (a b : Int) (H : Hp) : C_texttoolsref20_least [.int .i64 a, .int .i64 b] H = some (.int .i64 (min a b), H) := by
  rw [F_texttoolsref20_least_eq]
  unfold F_texttoolsref20_least
  by_cases h : a < b
  · have e : min a b = a := by omega
    simp [go_sem, h, e]
  · have e : min a b = b := by omega
    simp [go_sem, h, e, texttoolsref20_least_J1_eq]
theorem indexByte_spec (s : List UInt8) (n : Int) (H : Hp) : C_strings_IndexByte [.str s, .int .u8 n] H = some (.int .i64 (indexB (UInt8.ofNat n.toNat) s 0), H) := by
  rw [F_strings_IndexByte_eq]
  unfold F_strings_IndexByte
  rw [F_internal_stringslite_IndexByte_eq]
  unfold F_internal_stringslite_IndexByte
  simp only [go_sem]

/-! The fields of a line whose separator is a byte. -/
def fieldsB (c : UInt8) : List UInt8 → Nat → Nat → List (Nat × Nat)
  | [], f, p => [(f, p)]
  | b :: l, f, p => if b = c then (f, p) :: fieldsB c l (p + 1) (p + 1) else fieldsB c l f (p + 1)
theorem fieldsB_cons (c b : UInt8) (l : List UInt8) (f p : Nat) : fieldsB c (b :: l) f p = if b = c then (f, p) :: fieldsB c l (p + 1) (p + 1) else fieldsB c l f (p + 1) := (Eq.refl _).trans (Eq.refl _)
theorem indexB_cons (c b : UInt8) (l : List UInt8) (k : Nat) : indexB c (b :: l) k = if b = c then (k : Int) else indexB c l (k + 1) := (Eq.refl _).trans (Eq.refl _)
theorem fieldsB_idx (c : UInt8) : ∀ (l : List UInt8) (f p k : Nat),
    (indexB c l k = -1 ∧ fieldsB c l f p = [(f, p + l.length)]) ∨ ∃ e, e < l.length ∧ indexB c l k = ((k + e : Nat) : Int) ∧ fieldsB c l f p = (f, p + e) :: fieldsB c (l.drop (e + 1)) (p + e + 1) (p + e + 1) := by
  intro l
  induction l with
  | nil => intro f p k; exact .inl ⟨rfl, rfl⟩
  | cons b l ih =>
    intro f p k
    rw [indexB_cons, fieldsB_cons]
    by_cases h : b = c
    · exact .inr ⟨0, by simp, by simp [h], by simp [h]⟩
    · simp only [h, if_false]
      rcases ih f (p + 1) (k + 1) with ⟨h1, h2⟩ | ⟨e, h0, h1, h2⟩
      · exact .inl ⟨h1, by rw [h2]; simp [Nat.add_comm, Nat.add_left_comm]⟩
      · refine .inr ⟨e + 1, by simp; omega, by rw [h1]; congr 1; omega, ?_⟩
        rw [h2, List.drop_succ_cons]
        simp only [show p + 1 + e = p + (e + 1) by omega]
theorem fieldsB_pos (c : UInt8) (l : List UInt8) (f p : Nat) : 0 < (fieldsB c l f p).length := by
  rcases fieldsB_idx c l f p 0 with ⟨_, h⟩ | ⟨e, _, _, h⟩ <;> rw [h] <;> simp
theorem nat64 (n : Nat) (h : n ≤ 100000000) : IntKind.i64.wrap ((n : Int)) = n := wrap64 (by omega) (by omega)
def tup3 (a b : Nat) (ok : Bool) : AV := .tuple [.int .i64 a, .int .i64 b, .bool ok]
theorem field_byte_loop {line : List UInt8} (hlen : line.length ≤ 1048576) {sep : Int} (h0 : 0 ≤ sep) (h1 : sep ≤ 255) {n : Int} (H0 H : Hp) : ∀ (k f i : Nat), line.length + 1 - f = k → f ≤ line.length → i ≤ f + 1 → (i : Int) ≤ n →
    ∃ a b, sortkey_field_L4 (.str line) (.int .i64 n) (.int .i64 sep) (.int .i64 (f : Int)) (.int .i64 (i : Int)) H0 H =
        some (tup3 a b (decide (n < i + (fieldsB (UInt8.ofNat sep.toNat) (line.drop f) f f).length)), H) ∧
      (n < i + (fieldsB (UInt8.ofNat sep.toNat) (line.drop f) f f).length → (fieldsB (UInt8.ofNat sep.toNat) (line.drop f) f f)[(n - i).toNat]? = some (a, b)) := by
  intro k
  induction k using Nat.strongRecOn with
  | _ k ih =>
    intro f i hk hf hi hn
    rw [sortkey_field_L4_eq]
    have hsl := asliceS_lo (s := line) (n := (f : Int)) .i64 (by omega) (by omega)
    have hft : ((f : Int)).toNat = f := by omega
    rw [hft] at hsl
    have hcv : cvInt .u8 (.int .i64 sep) = some (.int .u8 sep) := by
      have : IntKind.u8.wrap sep = sep := by
        unfold IntKind.wrap
        have e1 : (2 ^ IntKind.u8.bits : Int) = 256 := by decide
        have e3 : IntKind.u8.signed = false := rfl
        simp only [e1, e3, Bool.false_and, Bool.false_eq_true, if_false]
        omega
      simp [cvInt, this]
    simp only [hsl, go_sem, hcv, indexByte_spec]
    rcases fieldsB_idx (UInt8.ofNat sep.toNat) (line.drop f) f f 0 with ⟨g1, g2⟩ | ⟨e, g0, g1, g2⟩
    · have hneg : decide (indexB (UInt8.ofNat sep.toNat) (line.drop f) 0 < 0) = true := by rw [g1]; decide
      simp only [hneg, go_sem]
      rw [g2]
      refine ⟨f, line.length, ?_, fun h => ?_⟩
      · have : ((i : Int) == n) = decide (n < (i : Int) + ([(f, f + (line.drop f).length)] : List (Nat × Nat)).length) := by
          rw [Bool.eq_iff_iff]; simp; omega
        rw [this]; rfl
      · have hni : n = i := by simp at h; omega
        subst hni
        simp; omega
    · have hneg : decide (indexB (UInt8.ofNat sep.toNat) (line.drop f) 0 < 0) = false := by rw [g1]; simp
      simp only [hneg, go_sem, sortkey_field_J11_eq]
      rw [g1, g2]
      simp only [List.length_drop] at g0
      by_cases hni : (i : Int) = n
      · have hb : ((i : Int) == n) = true := by simp [hni]
        have hw : IntKind.i64.wrap ((f : Int) + ((0 + e : Nat) : Int)) = ((f + e : Nat) : Int) := by rw [wrap64 (by omega) (by omega)]; omega
        simp only [hb, go_sem, hw]
        refine ⟨f, f + e, ?_, fun _ => by simp [← hni]⟩
        have : (true : Bool) = decide (n < (i : Int) + ((f, f + e) :: fieldsB (UInt8.ofNat sep.toNat) ((line.drop f).drop (e + 1)) (f + e + 1) (f + e + 1)).length) := by
          symm; simp; omega
        rw [← this]; rfl
      · have hb : ((i : Int) == n) = false := by simp [hni]
        have hw1 : IntKind.i64.wrap (((0 + e : Nat) : Int) + 1) = ((e + 1 : Nat) : Int) := by rw [wrap64 (by omega) (by omega)]; omega
        have hw2 : IntKind.i64.wrap ((f : Int) + ((e + 1 : Nat) : Int)) = ((f + e + 1 : Nat) : Int) := by rw [wrap64 (by omega) (by omega)]; omega
        have hw3 : IntKind.i64.wrap ((i : Int) + 1) = ((i + 1 : Nat) : Int) := by rw [wrap64 (by omega) (by omega)]; omega
        simp only [hb, go_sem, sortkey_field_J12_eq, hw1, hw2, sortkey_field_J10_eq, hw3]
        obtain ⟨a, b, q1, q2⟩ := ih (line.length + 1 - (f + e + 1)) (by omega) (f + e + 1) (i + 1) rfl (by omega) (by omega) (by omega)
        rw [List.drop_drop, show f + (e + 1) = f + e + 1 by omega]
        refine ⟨a, b, ?_, fun h => ?_⟩
        · rw [q1]
          have : decide (n < ((i + 1 : Nat) : Int) + (fieldsB (UInt8.ofNat sep.toNat) (line.drop (f + e + 1)) (f + e + 1) (f + e + 1)).length) =
              decide (n < (i : Int) + ((f, f + e) :: fieldsB (UInt8.ofNat sep.toNat) (line.drop (f + e + 1)) (f + e + 1) (f + e + 1)).length) := by
            congr 1; simp; constructor <;> intro h <;> omega
          rw [this]
        · have hh : n < ((i + 1 : Nat) : Int) + (fieldsB (UInt8.ofNat sep.toNat) (line.drop (f + e + 1)) (f + e + 1) (f + e + 1)).length := by simp at h ⊢; omega
          have := q2 hh
          rw [show (n - (i : Int)).toNat = (n - ((i + 1 : Nat) : Int)).toNat + 1 by omega]
          simpa using this
end Go.Am
