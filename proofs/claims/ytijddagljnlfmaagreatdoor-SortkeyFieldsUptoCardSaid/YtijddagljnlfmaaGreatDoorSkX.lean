/-
  The fields of a line follow each other, and joined they are the line.
-/
import Derived.Test.YtijddagljnlfmaaGreatDoorSkV
namespace Go.Am
set_option linter.unusedSimpArgs false
set_option linter.unusedVariables false

/-- Fields that follow each other from s on to L, with g bytes between them. -/
def chE (g : Nat) (Q : Nat → Prop) (L : Nat) : Nat → List (Nat × Nat) → Prop
  | _, [] => True
  | s, p :: r => p.1 = s ∧ (r = [] → p.2 = L) ∧ (r ≠ [] → Q p.2) ∧ chE g Q L (p.2 + g) r
theorem chE_cons (g : Nat) (Q : Nat → Prop) (L s : Nat) (p : Nat × Nat) (r : List (Nat × Nat)) : chE g Q L s (p :: r) = (p.1 = s ∧ (r = [] → p.2 = L) ∧ (r ≠ [] → Q p.2) ∧ chE g Q L (p.2 + g) r) := (Eq.refl _).trans (Eq.refl _)
theorem chE_get {g : Nat} {Q : Nat → Prop} {L : Nat} : ∀ (fs : List (Nat × Nat)) (s i : Nat) (p : Nat × Nat), chE g Q L s fs → fs[i]? = some p →
    (i = 0 → p.1 = s) ∧ (i + 1 = fs.length → p.2 = L) ∧ (∀ q, fs[i + 1]? = some q → Q p.2 ∧ q.1 = p.2 + g) := by
  intro fs
  induction fs with
  | nil => intro s i p _ h; simp at h
  | cons x r ih =>
    intro s i p h hi
    rw [chE_cons] at h
    obtain ⟨h1, h2, h3, h4⟩ := h
    cases i with
    | zero =>
      simp at hi
      subst hi
      refine ⟨fun _ => h1, fun e => h2 ?_, fun q hq => ⟨h3 ?_, ?_⟩⟩
      · simp at e; exact e
      · intro e; subst e; simp at hq
      · simp at hq
        exact (ih _ 0 q h4 (by simpa using hq)).1 rfl
    | succ i =>
      simp at hi
      obtain ⟨_, a2, a3⟩ := ih _ i p h4 hi
      refine ⟨fun e => by omega, fun e => a2 (by simp at e; omega), fun q hq => a3 q (by simpa using hq)⟩
theorem fieldsB_ch (c : UInt8) (line : List UInt8) : ∀ (l : List UInt8) (f p : Nat), line.drop p = l → p ≤ line.length → chE 1 (fun x => line[x]? = some c) line.length f (fieldsB c l f p) := by
  intro l
  induction l with
  | nil =>
    intro f p h hp
    have := List.drop_eq_nil_iff.1 h
    simp only [fieldsB, chE_cons]
    exact ⟨trivial, fun _ => by omega, fun h => absurd rfl h, trivial⟩
  | cons b l ih =>
    intro f p h hp
    have hlt : p < line.length := by
      rcases Nat.lt_or_ge p line.length with h1 | h1
      · exact h1
      · rw [List.drop_eq_nil_iff.2 h1] at h; cases h
    rw [drop_cons hlt] at h
    injection h with h1 h2
    rw [fieldsB_cons]
    by_cases e : b = c
    · rw [if_pos e, chE_cons]
      refine ⟨rfl, fun hn => ?_, fun _ => ?_, ih (p + 1) (p + 1) h2 (by omega)⟩
      · have := fieldsB_pos c l (p + 1) (p + 1)
        rw [hn] at this
        simp at this
      · rw [List.getElem?_eq_getElem hlt, h1, e]
    · rw [if_neg e]
      exact ih f (p + 1) h2 (by omega)
theorem fieldsW_pos : ∀ (l : List UInt8) (q : Bool) (f p : Nat), 0 < (fieldsW q l f p).length := by
  intro l
  induction l with
  | nil => intro q f p; simp [fieldsW]
  | cons b l ih => intro q f p; rw [fieldsW_cons]; split <;> first | exact ih _ _ _ | exact Nat.succ_pos _
theorem fieldsW_ch (line : List UInt8) : ∀ (l : List UInt8) (q : Bool) (f p : Nat), line.drop p = l → p ≤ line.length → chE 0 (fun _ => True) line.length f (fieldsW q l f p) := by
  intro l
  induction l with
  | nil =>
    intro q f p h hp
    have := List.drop_eq_nil_iff.1 h
    simp only [fieldsW, chE_cons]
    exact ⟨trivial, fun _ => by omega, fun h => absurd rfl h, trivial⟩
  | cons b l ih =>
    intro q f p h hp
    have hlt : p < line.length := by
      rcases Nat.lt_or_ge p line.length with h1 | h1
      · exact h1
      · rw [List.drop_eq_nil_iff.2 h1] at h; cases h
    rw [drop_cons hlt] at h
    injection h with h1 h2
    rw [fieldsW_cons]
    split
    · rw [chE_cons]
      refine ⟨rfl, fun hn => ?_, fun _ => trivial, ih _ p (p + 1) h2 (by omega)⟩
      have := fieldsW_pos l (isBl b) p (p + 1)
      rw [hn] at this
      simp at this
    · exact ih _ f (p + 1) h2 (by omega)
/-- The part that is the field i (from 1 on) of a line. -/
def keF (i : Int) : Ke := ⟨i, 1, i, 0, 0⟩
def keO (i : Int) : Ke := ⟨i, 1, 0, 0, 0⟩
theorem keF_ok {i : Int} (h : 1 ≤ i) (h2 : i ≤ 100000000) : KeOk (keF i) := by
  constructor <;> simp only [keF] <;> omega
theorem keO_ok {i : Int} (h : 1 ≤ i) (h2 : i ≤ 100000000) : KeOk (keO i) := by
  constructor <;> simp only [keO] <;> omega
theorem ex_field {line : List UInt8} {fs : List (Nat × Nat)} (hin : ∀ x ∈ fs, x.1 ≤ x.2 ∧ x.2 ≤ line.length) {i : Nat} {p : Nat × Nat} (h : fs[i]? = some p) : ex line fs (keF (i + 1 : Nat)) = (line.take p.2).drop p.1 := by
  obtain ⟨a1, a2⟩ := hin p (List.mem_of_getElem? h)
  have hi : i < fs.length := (List.getElem?_eq_some_iff.1 h).1
  have e1 : max (((i + 1 : Nat)) : Int) 1 = ((i + 1 : Nat) : Int) := by omega
  have e2 : ((((i + 1 : Nat)) : Int) - 1).toNat = i := by omega
  have hE : exEnd line fs (keF (i + 1 : Nat)) = p.2 := by
    unfold exEnd keF
    simp only
    rw [if_pos (by omega), e2, getD_of h]
    simp
  have hF : exFrom p.1 p.2 (keF (i + 1 : Nat)) = p.1 := by
    unfold exFrom keF
    simp only
    omega
  unfold ex
  rw [hE]
  have e3 : max (keF (i + 1 : Nat)).ff 1 = ((i + 1 : Nat) : Int) := e1
  rw [e3, if_pos (by omega), e2, getD_of h]
  simp only [hF]
  rw [if_neg (by omega)]
theorem ex_out {line : List UInt8} {fs : List (Nat × Nat)} : ex line fs (keO ((fs.length + 1 : Nat))) = [] := by
  unfold ex
  have e3 : max (keO ((fs.length + 1 : Nat))).ff 1 = ((fs.length + 1 : Nat) : Int) := by simp only [keO]; omega
  rw [e3, if_neg (by omega)]
theorem ex_all {line : List UInt8} {fs : List (Nat × Nat)} (hin : ∀ x ∈ fs, x.1 ≤ x.2 ∧ x.2 ≤ line.length) (h : ∀ p, fs[0]? = some p → p.1 = 0) (he : fs = [] → line = []) : ex line fs (keO 1) = line := by
  cases fs with
  | nil =>
    rw [he rfl]
    unfold ex
    simp [keO]
  | cons p r =>
    have hp := h p (by simp)
    obtain ⟨a1, a2⟩ := hin p (by simp)
    have hE : exEnd line (p :: r) (keO 1) = line.length := by unfold exEnd keO; simp
    have hF : exFrom p.1 p.2 (keO 1) = 0 := by unfold exFrom keO; simp only; omega
    unfold ex
    have e3 : max (keO 1).ff 1 = 1 := by simp only [keO]; omega
    rw [e3, if_pos (by simp only [List.length_cons]; omega), hE]
    have e4 : (p :: r).getD ((1 : Int) - 1).toNat (0, 0) = p := by simp
    simp only [e4, hF]
    rw [if_neg (by omega)]
    simp
/-- Up to which byte the first i fields reach. -/
def upTo (fs : List (Nat × Nat)) (i : Nat) : Nat := match i with
  | 0 => 0
  | i + 1 => (fs.getD i (0, 0)).2
theorem join_take (line : List UInt8) {a b : Nat} (h : a ≤ b) : line.take a ++ (line.take b).drop a = line.take b := by
  have : (line.take b).take a = line.take a := by rw [List.take_take, Nat.min_eq_left h]
  rw [← this, List.take_append_drop]
theorem take_snoc {line : List UInt8} {a : Nat} {c : UInt8} (h : line[a]? = some c) : line.take a ++ [c] = line.take (a + 1) := by
  rw [List.take_add_one, h]
  rfl
theorem cv_row {H : Hp} {x : AV} {l : List UInt8} (h : Row H 1 x (l.map bv)) : cvOfBytes x = some (.str l) := by
  rcases h with ⟨rfl, h⟩ | ⟨t, e, rfl, _⟩
  · have : l = [] := by simpa using h
    subst this
    rfl
  · exact cvOf_map _ _
end Go.Am
