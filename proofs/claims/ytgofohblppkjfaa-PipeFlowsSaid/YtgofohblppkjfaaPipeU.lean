/-
  The lists of calls, the first example, and the statements.
-/
import Derived.Test.YtgofohblppkjfaaPipeT
namespace Go.Am
set_option linter.unusedSimpArgs false
set_option linter.unusedVariables false

/-- A list of calls as an argument. -/
def CArg (x : AV) (l : List Ca) : Prop := x = .nils ∧ l = [] ∨ ∃ t, x = .vs 3 t (l.map Ca.av)
theorem CArg.len {x : AV} {l : List Ca} (h : CArg x l) (e : Nat) : alenD (.slice e) x = some (.int .i64 l.length) := by
  rcases h with ⟨rfl, rfl⟩ | ⟨t, rfl⟩
  · rfl
  · simp [go_sem]
theorem CArg.get {x : AV} {l : List Ca} (h : CArg x l) {i : Nat} {c : Ca} (hi : l[i]? = some c) : aindexS 3 x (.int .i64 (i : Int)) = some (.vp [.int .i64 c.op, .str c.text, .int .i64 c.n]) := by
  rcases h with ⟨rfl, rfl⟩ | ⟨t, rfl⟩
  · simp at hi
  · simp [aindexS, hi, Ca.av, AV.cells]
theorem aload_vp3 (a b c : AV) (H : Hp) : aload true 3 (.vp [a, b, c]) H = some (.agg [a, b, c]) := by simp [aload, Go.Am.apart]
theorem aloadv_vp3 (a b c : AV) : aloadv true 3 (.vp [a, b, c]) = some (.agg [a, b, c]) := by simp [aloadv, Go.Am.apart]
theorem afield_vp0 (a b c : AV) : afield 0 (.vp [a, b, c]) = some (.vp [a, b, c]) := (Eq.refl _).trans (Eq.refl _)
theorem afield_vp1 (a b c : AV) : afield 1 (.vp [a, b, c]) = some (.vp [b, c]) := (Eq.refl _).trans (Eq.refl _)
theorem afield_vp2 (a b c : AV) : afield 2 (.vp [a, b, c]) = some (.vp [c]) := (Eq.refl _).trans (Eq.refl _)
theorem aload_vp1 (a : AV) (l : List AV) (H : Hp) : aload false 1 (.vp (a :: l)) H = some a := (Eq.refl _).trans (Eq.refl _)
theorem next64 {i : Nat} (h : i ≤ 1000000) : IntKind.i64.wrap ((i : Int) + 1) = ((i + 1 : Nat) : Int) := by rw [wrap64 (by omega) (by omega)]; rfl
def Few (l : List Ca) : Prop := l.length ≤ 60 ∧ ∀ c ∈ l, c.text.length ≤ 100
theorem few_loop {x : AV} {l : List Ca} (h : CArg x l) (H0 H : Hp) : ∀ (k i : Nat), l.length - i = k → i ≤ l.length → i ≤ 60 → (∀ (j : Nat) (c : Ca), j < i → l[j]? = some c → c.text.length ≤ 100) →
    ∃ b, texttoolslaw51_few_L1 x (.int .i64 (i : Int)) H0 H = some (.bool b, H) ∧ (b = true → Few l) := by
  intro k
  induction k with
  | zero =>
    intro i hk hi h60 hall
    rw [texttoolslaw51_few_L1_eq]
    have hlt : decide ((i : Int) < (l.length : Int)) = false := by simp; omega
    simp only [h.len, go_sem, hlt, texttoolslaw51_few_J1_eq]
    refine ⟨true, rfl, fun _ => ⟨by omega, fun c hc => ?_⟩⟩
    obtain ⟨j, hj, rfl⟩ := List.getElem_of_mem hc
    exact hall j _ (by omega) (List.getElem?_eq_getElem hj)
  | succ k ih =>
    intro i hk hi h60 hall
    rw [texttoolslaw51_few_L1_eq]
    have hlt : decide ((i : Int) < (l.length : Int)) = true := by simp; omega
    have hil : i < l.length := by omega
    have hc := List.getElem?_eq_getElem hil
    simp only [h.len, go_sem, hlt, texttoolslaw51_few_J2_eq]
    by_cases h6 : i < 60
    · have hge : decide ((60 : Int) ≤ (i : Int)) = false := by simp; omega
      simp only [hge, go_sem, h.get hc, afield_vp1, aload_vp1]
      by_cases h1 : (l[i]).text.length ≤ 100
      · have hd : decide ((100 : Int) < ((l[i]).text.length : Int)) = false := by simp; omega
        simp only [hd, go_sem, texttoolslaw51_few_J3_eq, next64 (by omega : i ≤ 1000000)]
        refine ih (i + 1) (by omega) (by omega) (by omega) fun j c hj hjc => ?_
        by_cases he : j = i
        · subst he
          rw [hc] at hjc
          injection hjc with hjc
          subst hjc
          exact h1
        · exact hall j c (by omega) hjc
      · have hd : decide ((100 : Int) < ((l[i]).text.length : Int)) = true := by simp; omega
        simp only [hd, go_sem]
        exact ⟨false, rfl, by simp⟩
    · have hge : decide ((60 : Int) ≤ (i : Int)) = true := by simp; omega
      simp only [hge, go_sem]
      exact ⟨false, rfl, by simp⟩
theorem few_spec {x : AV} {l : List Ca} (h : CArg x l) (H : Hp) : ∃ b, C_texttoolslaw51_few [x] H = some (.bool b, H) ∧ (b = true → Few l) := by
  rw [F_texttoolslaw51_few_eq]
  unfold F_texttoolslaw51_few
  exact few_loop h H H _ 0 rfl (Nat.zero_le _) (by omega) (by omega)

theorem awake_spec (H : Hp) : ∃ H', C_texttoolslaw51_awake [] H = some (.bool true, H') := by
  rw [F_texttoolslaw51_awake_eq]
  unfold F_texttoolslaw51_awake
  obtain ⟨H1, e1, p1, _⟩ := new_spec H 4
  have hroom : room 4 = 4 := by decide
  rw [hroom] at p1
  obtain ⟨H2, e2, p2, _⟩ := write_spec p1 (by decide) (by decide) [97, 98, 99, 100, 101, 102]
  have hw : wn 4 ⟨[], false, false⟩ [97, 98, 99, 100, 101, 102] = 4 := by decide
  simp only [hw, Bool.or_self, Bool.false_eq_true, if_false] at e2 p2
  have hp2 : ([] ++ List.take (Int.toNat 4) [97, 98, 99, 100, 101, 102] : List UInt8) = [97, 98, 99, 100] := by decide
  rw [hp2] at p2
  obtain ⟨H3, e3, p3, _⟩ := read_spec p2 2
  have hr : rn ⟨[97, 98, 99, 100], false, false⟩ 2 = 2 := by decide
  have ht3 : List.take (Int.toNat 2) ([97, 98, 99, 100] : List UInt8) = [97, 98] := by decide
  have hd3 : List.drop (Int.toNat 2) ([97, 98, 99, 100] : List UInt8) = [99, 100] := by decide
  simp only [hr, ht3, hd3, Bool.false_eq_true, if_false, Bool.and_false] at e3 p3
  obtain ⟨H4, e4, p4, _⟩ := write_spec p3 (by decide) (by decide) [101, 102]
  have hw4 : wn 4 ⟨[99, 100], false, false⟩ [101, 102] = 2 := by decide
  have hp4 : ([99, 100] ++ List.take (Int.toNat 2) [101, 102] : List UInt8) = [99, 100, 101, 102] := by decide
  simp only [hw4, Bool.or_self, Bool.false_eq_true, if_false, hp4] at e4 p4
  obtain ⟨H5, e5, p5, _⟩ := read_spec p4 9
  have hr5 : rn ⟨[99, 100, 101, 102], false, false⟩ 9 = 4 := by decide
  have ht5 : List.take (Int.toNat 4) ([99, 100, 101, 102] : List UInt8) = [99, 100, 101, 102] := by decide
  have hd5 : List.drop (Int.toNat 4) ([99, 100, 101, 102] : List UInt8) = [] := by decide
  simp only [hr5, ht5, hd5, Bool.false_eq_true, if_false, Bool.and_false] at e5 p5
  have e6 := len_spec p5
  have e7 := free_spec p5 (by decide) (by decide)
  have hq : qn 4 ⟨[], false, false⟩ = 4 := by decide
  simp only [hq, List.length_nil] at e6 e7
  have c1 : ((4 : Int) == 4) = true := by decide
  have c2 : ((0 : Int) == 0) = true := by decide
  have c3 : (([97, 98] : List UInt8) == [97, 98]) = true := by decide
  have c4 : ((2 : Int) == 2) = true := by decide
  have c5 : (([99, 100, 101, 102] : List UInt8) == [99, 100, 101, 102]) = true := by decide
  have c6 : ((((0 : Nat) : Int)) == 0) = true := by decide
  simp only [e1, e2, e3, e4, e5, e6, e7, go_sem, List.getElem?_cons_zero, List.getElem?_cons_succ, c1, c2, c3, c4, c5, c6, Bool.not_false]
  exact ⟨H5, rfl⟩
end Go.Am
