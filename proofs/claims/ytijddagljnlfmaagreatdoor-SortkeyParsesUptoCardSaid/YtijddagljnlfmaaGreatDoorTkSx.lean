/-
  The fields of a line, and the part of it that a key tells.
-/
import Derived.Test.YtijddagljnlfmaaGreatDoorTkGx
import Derived.Test.YtijddagljnlfmaaGreatDoorDmTx
namespace Go.Am
set_option linter.unusedSimpArgs false
set_option linter.unusedVariables false

theorem u8eq (b : UInt8) (n : Nat) (h : n < 256) : (((b.toNat : Int)) == (n : Int)) = (b == UInt8.ofNat n) := by
  rw [Bool.eq_iff_iff]
  simp only [beq_iff_eq]
  constructor
  · intro e
    have : b.toNat = n := by omega
    rw [← this]; simp
  · intro e
    subst e
    simp; omega
def isBl (b : UInt8) : Bool := b == 32 || b == 9
/-! The fields of a line whose separator is a byte. -/
def fieldsB (c : UInt8) : List UInt8 → Nat → Nat → List (Nat × Nat)
  | [], f, p => [(f, p)]
  | b :: l, f, p => if b = c then (f, p) :: fieldsB c l (p + 1) (p + 1) else fieldsB c l f (p + 1)
end Go.Am
namespace Go.Am
set_option linter.unusedSimpArgs false
set_option linter.unusedVariables false

def fieldsW : Bool → List UInt8 → Nat → Nat → List (Nat × Nat)
  | _, [], f, p => [(f, p)]
  | q, b :: l, f, p => if isBl b && !q then (f, p) :: fieldsW (isBl b) l p (p + 1) else fieldsW (isBl b) l f (p + 1)
/-- The fields from place f on. -/
def fsAt : List UInt8 → Nat → List (Nat × Nat)
  | [], _ => []
  | x :: l, f => fieldsW (isBl x) l f (f + 1)
theorem aindexStr_of {s : List UInt8} {i : Nat} {b : UInt8} (h : s[i]? = some b) : aindexStr (.str s) (.int .i64 (i : Int)) = some (.int .u8 b.toNat) := by simp [aindexStr, h]
theorem drop_cons {s : List UInt8} {i : Nat} (h : i < s.length) : s.drop i = s[i] :: s.drop (i + 1) := List.drop_eq_getElem_cons h
/-- The fields of a line. -/
def fields (line : List UInt8) (sep : Int) : List (Nat × Nat) := if 0 ≤ sep ∧ sep ≤ 255 then fieldsB (UInt8.ofNat sep.toNat) line 0 0 else fsAt line 0
end Go.Am
namespace Go.Am
set_option linter.unusedSimpArgs false
set_option linter.unusedVariables false

end Go.Am
namespace Go.Am
set_option linter.unusedSimpArgs false
set_option linter.unusedVariables false

structure Ke where
  ff : Int
  fc : Int
  tf : Int
  tc : Int
  fl : Int
def Ke.cells (k : Ke) : List AV := [.int .i64 k.ff, .int .i64 k.fc, .int .i64 k.tf, .int .i64 k.tc, .int .i64 k.fl]
structure KeOk (k : Ke) : Prop where
  ff : -9223372036854775808 ≤ k.ff ∧ k.ff ≤ 9223372036854775807
  fc : -9223372036854775808 ≤ k.fc ∧ k.fc ≤ 9223372036854775807
  tf : -9223372036854775808 ≤ k.tf ∧ k.tf ≤ 9223372036854775807
  tc : -9223372036854775808 ≤ k.tc ∧ k.tc ≤ 9223372036854775807
theorem set_push (H : Hp) (x y : AObj) : List.set (H ++ [x]) H.length y = H ++ [y] := by simp
theorem get_last (H : Hp) (x : AObj) : (H ++ [x])[H.length]? = some x := get_push_len _ _ _
theorem aload_f1 {H : Hp} {o off : Nat} {l : List AV} (h : H[o]? = some (.cells l)) : aload false 1 (.ptr o off) H = l[off]? := by rw [aload_of h]; simp [Go.Am.apart]

end Go.Am
