/-
  The part of a line that a key tells: both ways.
-/
import Derived.Test.YtijddagljnlfmaaGreatDoorSkU
namespace Go.Am
set_option linter.unusedSimpArgs false
set_option linter.unusedVariables false

theorem fieldsB_in (c : UInt8) (L : Nat) : ∀ (l : List UInt8) (f p : Nat), f ≤ p → p + l.length = L → ∀ x ∈ fieldsB c l f p, x.1 ≤ x.2 ∧ x.2 ≤ L := by
  intro l
  induction l with
  | nil => intro f p h1 h2 x hx; simp [fieldsB] at hx; subst hx; simp at h2; simp; omega
  | cons b l ih =>
    intro f p h1 h2 x hx
    rw [fieldsB_cons] at hx
    simp at h2
    split at hx
    · rcases List.mem_cons.1 hx with rfl | hx
      · simp; omega
      · exact ih (p + 1) (p + 1) (by omega) (by omega) x hx
    · exact ih f (p + 1) (by omega) (by omega) x hx
theorem fieldsW_in (L : Nat) : ∀ (l : List UInt8) (q : Bool) (f p : Nat), f ≤ p → p + l.length = L → ∀ x ∈ fieldsW q l f p, x.1 ≤ x.2 ∧ x.2 ≤ L := by
  intro l
  induction l with
  | nil => intro q f p h1 h2 x hx; simp [fieldsW] at hx; subst hx; simp at h2; simp; omega
  | cons b l ih =>
    intro q f p h1 h2 x hx
    rw [fieldsW_cons] at hx
    simp at h2
    split at hx
    · rcases List.mem_cons.1 hx with rfl | hx
      · simp; omega
      · exact ih _ p (p + 1) (by omega) (by omega) x hx
    · exact ih _ f (p + 1) (by omega) (by omega) x hx
theorem fields_in (line : List UInt8) (sep : Int) : ∀ x ∈ fields line sep, x.1 ≤ x.2 ∧ x.2 ≤ line.length := by
  intro x hx
  unfold fields at hx
  split at hx
  · exact fieldsB_in _ line.length line 0 0 (Nat.le_refl _) (by omega) x hx
  · cases line with
    | nil => simp [fsAt] at hx
    | cons a l => rw [fsAt_cons] at hx; exact fieldsW_in (a :: l).length l _ 0 1 (by omega) (by simp; omega) x hx

structure Ke where
  ff : Int
  fc : Int
  tf : Int
  tc : Int
  fl : Int
def Ke.cells (k : Ke) : List AV := [.int .i64 k.ff, .int .i64 k.fc, .int .i64 k.tf, .int .i64 k.tc, .int .i64 k.fl]
structure KeOk (k : Ke) : Prop where
  ff : -9223372036854775808 ≤ k.ff ∧ k.ff ≤ 9223372036854775807
  fc : -9223372036854775808 ≤ k.fc ∧ k.fc ≤ 9223372036854775807
  tf : -9223372036854775808 ≤ k.tf ∧ k.tf ≤ 9223372036854775807
  tc : -9223372036854775808 ≤ k.tc ∧ k.tc ≤ 9223372036854775807
def exFrom (lo hi : Nat) (k : Ke) : Nat := lo + (min (max k.fc 1 - 1) ((hi : Int) - lo)).toNat
def exEnd (line : List UInt8) (fs : List (Nat × Nat)) (k : Ke) : Nat :=
  if 0 < k.tf ∧ k.tf ≤ fs.length then (let p := fs.getD (k.tf - 1).toNat (0, 0); if 0 < k.tc then p.1 + (min k.tc ((p.2 : Int) - p.1)).toNat else p.2) else line.length
def ex (line : List UInt8) (fs : List (Nat × Nat)) (k : Ke) : List UInt8 :=
  if max k.ff 1 ≤ fs.length then
    (let p := fs.getD (max k.ff 1 - 1).toNat (0, 0); if exEnd line fs k < exFrom p.1 p.2 k then [] else (line.take (exEnd line fs k)).drop (exFrom p.1 p.2 k)) else []

theorem set_push (H : Hp) (x y : AObj) : List.set (H ++ [x]) H.length y = H ++ [y] := by simp
theorem get_last (H : Hp) (x : AObj) : (H ++ [x])[H.length]? = some x := get_push_len _ _ _
theorem aload_f1 {H : Hp} {o off : Nat} {l : List AV} (h : H[o]? = some (.cells l)) : aload false 1 (.ptr o off) H = l[off]? := by rw [aload_of h]; simp [Go.Am.apart]

theorem cut_spec {line : List UInt8} {f e : Nat} (hf : f ≤ line.length) (he : e ≤ line.length) (hlen : line.length ≤ 1048576) (H0 H : Hp) :
    sortkey_Extract_J2 (.str line) (.int .i64 (f : Int)) (.int .i64 (e : Int)) H0 H = some (.str (if e < f then [] else (line.take e).drop f), H) := by
  rw [sortkey_Extract_J2_eq]
  by_cases h : e < f
  · have c : decide ((e : Int) < (f : Int)) = true := by simp; omega
    simp only [go_sem, c, h, if_true]
  · have c : decide ((e : Int) < (f : Int)) = false := by simp; omega
    have hs := asliceS_lh (s := line) (n := (f : Int)) (m := (e : Int)) .i64 .i64 (by omega) (by omega) (by omega)
    have e1 : ((f : Int)).toNat = f := by omega
    have e2 : ((e : Int)).toNat = e := by omega
    rw [e1, e2] at hs
    simp only [go_sem, c, sortkey_Extract_J3_eq, hs, h, if_false]
theorem getD_of {fs : List (Nat × Nat)} {i : Nat} {p : Nat × Nat} (h : fs[i]? = some p) : fs.getD i (0, 0) = p := by simp [List.getD_eq_getElem?_getD, h]
theorem extract_spec {line : List UInt8} (hlen : line.length ≤ 1048576) {k : Ke} (hk : KeOk k) (sep : Int) (H : Hp) :
    ∃ H', C_sortkey_Extract [.str line, .agg k.cells, .int .i64 sep] H = some (.str (ex line (fields line sep) k), H') ∧ (∀ (i : Nat) (x : AObj), H[i]? = some x → H'[i]? = some x) := by
  rw [F_sortkey_Extract_eq]
  unfold F_sortkey_Extract
  have hbox : abox (.agg k.cells) H = some (.ptr H.length 0, H ++ [.cells k.cells]) := abox_of rfl
  have hget := get_last H (.cells k.cells)
  obtain ⟨a, b, q1, q2⟩ := field_spec hlen sep (n := max k.ff 1) (by omega) (H ++ [.cells k.cells])
  simp only [Ke.cells] at hbox hget q1 ⊢
  simp only [hbox, go_sem, Nat.zero_add, aload_f1 hget, List.getElem?_cons_zero]
  rw [q1]
  simp only [go_sem, tup3, List.getElem?_cons_zero, List.getElem?_cons_succ]
  have hold : ∀ (i : Nat) (x : AObj), H[i]? = some x → (H ++ [AObj.cells [.int .i64 k.ff, .int .i64 k.fc, .int .i64 k.tf, .int .i64 k.tc, .int .i64 k.fl]])[i]? = some x := fun i x h => get_push h _
  by_cases hin : max k.ff 1 ≤ ((fields line sep).length : Int)
  · have c1 : (!decide (max k.ff 1 ≤ ((fields line sep).length : Int))) = false := by simp [hin]
    have hab := q2 hin
    obtain ⟨r1, r2⟩ := fields_in line sep _ (List.mem_of_getElem? hab)
    simp only at r1 r2
    simp only [c1, go_sem, sortkey_Extract_J1_eq, Nat.zero_add, aload_f1 hget, Ke.cells, List.getElem?_cons_zero, List.getElem?_cons_succ]
    have hfc := hk.fc
    have w1 : IntKind.i64.wrap (max k.fc 1 - 1) = max k.fc 1 - 1 := wrap64 (by omega) (by omega)
    have w2 : IntKind.i64.wrap ((b : Int) - a) = (b : Int) - a := wrap64 (by omega) (by omega)
    have w3 : IntKind.i64.wrap ((a : Int) + min (max k.fc 1 - 1) ((b : Int) - a)) = ((exFrom a b k : Nat) : Int) := by rw [wrap64 (by omega) (by omega)]; unfold exFrom; omega
    have hfl : exFrom a b k ≤ line.length := by unfold exFrom; omega
    simp only [w1, w2, w3]
    have fin : ∀ e : Nat, e ≤ line.length → e = exEnd line (fields line sep) k → ex line (fields line sep) k = (if e < exFrom a b k then [] else (line.take e).drop (exFrom a b k)) := by
      intro e _ he
      subst he
      unfold ex
      rw [if_pos hin, getD_of hab]
    by_cases ht : 0 < k.tf
    · have c2 : decide ((0 : Int) < k.tf) = true := by simp [ht]
      obtain ⟨a2, b2, p1, p2⟩ := field_spec hlen sep (n := k.tf) (by omega) (H ++ [.cells k.cells])
      simp only [Ke.cells] at p1
      simp only [c2, go_sem, Nat.zero_add, aload_f1 hget, Ke.cells, List.getElem?_cons_zero, List.getElem?_cons_succ, p1, tup3]
      by_cases hin2 : k.tf ≤ ((fields line sep).length : Int)
      · have c3 : decide (k.tf ≤ ((fields line sep).length : Int)) = true := by simp [hin2]
        have hab2 := p2 hin2
        obtain ⟨s1, s2⟩ := fields_in line sep _ (List.mem_of_getElem? hab2)
        simp only at s1 s2
        simp only [c3, go_sem, Nat.zero_add, aload_f1 hget, Ke.cells, List.getElem?_cons_zero, List.getElem?_cons_succ]
        have htc := hk.tc
        by_cases hc : 0 < k.tc
        · have c4 : decide ((0 : Int) < k.tc) = true := by simp [hc]
          have w4 : IntKind.i64.wrap ((b2 : Int) - a2) = (b2 : Int) - a2 := wrap64 (by omega) (by omega)
          have w5 : IntKind.i64.wrap ((a2 : Int) + min k.tc ((b2 : Int) - a2)) = ((a2 + (min k.tc ((b2 : Int) - a2)).toNat : Nat) : Int) := by rw [wrap64 (by omega) (by omega)]; omega
          simp only [c4, go_sem, Nat.zero_add, aload_f1 hget, Ke.cells, List.getElem?_cons_zero, List.getElem?_cons_succ, w4, w5]
          rw [cut_spec hfl (by omega) hlen]
          rw [fin (a2 + (min k.tc ((b2 : Int) - a2)).toNat) (by omega) (by unfold exEnd; rw [if_pos ⟨ht, hin2⟩, getD_of hab2]; simp [hc])]
          exact ⟨_, rfl, hold⟩
        · have c4 : decide ((0 : Int) < k.tc) = false := by simp; omega
          simp only [c4, go_sem]
          rw [cut_spec hfl s2 hlen]
          rw [fin b2 s2 (by unfold exEnd; rw [if_pos ⟨ht, hin2⟩, getD_of hab2]; simp [hc])]
          exact ⟨_, rfl, hold⟩
      · have c3 : decide (k.tf ≤ ((fields line sep).length : Int)) = false := by simp; omega
        simp only [c3, go_sem]
        rw [cut_spec hfl (Nat.le_refl _) hlen]
        rw [fin line.length (Nat.le_refl _) (by unfold exEnd; rw [if_neg (fun h => hin2 h.2)])]
        exact ⟨_, rfl, hold⟩
    · have c2 : decide ((0 : Int) < k.tf) = false := by simp; omega
      simp only [c2, go_sem]
      rw [cut_spec hfl (Nat.le_refl _) hlen]
      rw [fin line.length (Nat.le_refl _) (by unfold exEnd; rw [if_neg (fun h => ht h.1)])]
      exact ⟨_, rfl, hold⟩
  · have c1 : (!decide (max k.ff 1 ≤ ((fields line sep).length : Int))) = true := by simp; omega
    simp only [c1, go_sem]
    have : ex line (fields line sep) k = [] := by unfold ex; rw [if_neg hin]
    rw [this]
    exact ⟨_, rfl, hold⟩
end Go.Am
