/-
  The statements about pipes, over the abstract machine.
-/
import Derived.Test.YtgofohblppkjfaaPipeU
import Derived.KernelRfl
namespace Go.Am
open Go.Proofs
set_option linter.unusedSimpArgs false
set_option linter.unusedVariables false

def andO (x y : Option Bool) : Option Bool :=
  match x with
  | some true => y
  | r => r
theorem aeq_res (a a' : List UInt8) (n n' : Int) (b b' : Bool) (e e' : Int) : aeq Try.prog cfg.eqok 20 37 (.agg [.str a, .int .i64 n, .bool b, .int .i64 e]) (.agg [.str a', .int .i64 n', .bool b', .int .i64 e']) =
    andO (some (a == a')) (andO (some (n == n')) (andO (some (b == b')) (andO (some (e == e')) (some true)))) := by kernel_rfl
theorem aeq_same (r : Rs) : aeqBin Try.prog cfg.eqok .neq 37 r.av r.av = some (.bool false) := by
  have : aeq Try.prog cfg.eqok 20 37 r.av r.av = some true := by
    refine (aeq_res r.text r.text r.n r.n r.ends r.ends r.err r.err).trans ?_
    simp [andO]
  simp [aeqBin, this]
theorem calls_loop {x : AV} {l : List Ca} (hx : CArg x l) (hF : Few l) {o o' : Nat} (ho : o ≠ o') {sz : Int} (h0 : 0 ≤ sz) (hs : sz ≤ 4096) (H0 : Hp) : ∀ (k i : Nat) (H : Hp) (p : PS), l.length - i = k → i ≤ l.length → (p.q.length : Int) ≤ sz →
    PAt H o sz p → RAt H o' sz p → ∃ H', texttoolslaw51_PipeCalls_L1 x (.ptr o 0) (.ptr o' 0) (.int .i64 (i : Int)) H0 H = some (.bool true, H') := by
  intro k
  induction k with
  | zero =>
    intro i H p hk hi hq hp hr
    rw [texttoolslaw51_PipeCalls_L1_eq]
    have hlt : decide ((i : Int) < (l.length : Int)) = false := by simp; omega
    obtain ⟨H', ha⟩ := awake_spec H
    have e1 : ((p.q.length : Int) == (p.q.length : Int)) = true := by simp
    have e2 : (qn sz p == qn sz p) = true := by simp
    simp only [hx.len, go_sem, hlt, texttoolslaw51_PipeCalls_J2_eq, len_spec hp, rlen_spec hr, e1, free_spec hp hs hq, rfree_spec hr hs hq, e2, ha]
    exact ⟨H', rfl⟩
  | succ k ih =>
    intro i H p hk hi hq hp hr
    rw [texttoolslaw51_PipeCalls_L1_eq]
    have hlt : decide ((i : Int) < (l.length : Int)) = true := by simp; omega
    have hil : i < l.length := by omega
    have hc := List.getElem?_eq_getElem hil
    have e1 : ((p.q.length : Int) != (p.q.length : Int)) = false := by simp
    have e2 : (qn sz p != qn sz p) = false := by simp
    obtain ⟨H1, d1, p1, f1⟩ := do_spec hp hs hq l[i]
    obtain ⟨H2, d2, p2, f2⟩ := model_spec (f1 _ _ (Ne.symm ho) hr) hs hq l[i]
    have hp2 : PAt H2 o sz (stepP sz p l[i]) := by
      obtain ⟨qv, a, b⟩ := p1
      refine ⟨qv, f2 _ _ ho a, b.mono fun t e ht => f2 _ _ (fun he => ?_) ht⟩
      subst he
      rw [f1 _ _ (Ne.symm ho) hr] at ht
      cases ht
    have hi60 := hF.1
    simp only [hx.len, go_sem, hlt, texttoolslaw51_PipeCalls_J3_eq, len_spec hp, rlen_spec hr, e1, free_spec hp hs hq, rfree_spec hr hs hq, e2, hx.get hc, aload_vp3, aloadv_vp3]
    rw [show (AV.agg [.int .i64 l[i].op, .str l[i].text, .int .i64 l[i].n]) = l[i].av from rfl, d1]
    simp only [go_sem, d2, aeq_same, texttoolslaw51_PipeCalls_J4_eq, next64 (by omega : i ≤ 1000000)]
    exact ih (i + 1) H2 _ (by omega) (by omega) (step_len _ hs hq h0) hp2 p2
theorem room_bound (n : Int) : 1 ≤ room n ∧ room n ≤ 4096 := by unfold room; omega
theorem PipeCalls_law (n : Int) {x : AV} {l : List Ca} (hx : CArg x l) (H : Hp) : ∃ H', C_texttoolslaw51_PipeCalls [.int .i64 n, x] H = some (.bool true, H') := by
  rw [F_texttoolslaw51_PipeCalls_eq]
  unfold F_texttoolslaw51_PipeCalls
  obtain ⟨b, hb, hF⟩ := few_spec hx H
  simp only [hb, go_sem]
  cases b with
  | false =>
    obtain ⟨H', ha⟩ := awake_spec H
    simp only [Bool.not_false, go_sem, ha]
    exact ⟨H', rfl⟩
  | true =>
    obtain ⟨hr1, hr2⟩ := room_bound n
    obtain ⟨H1, e1, p1, f1⟩ := new_spec H n
    obtain ⟨H2, e2, p2, f2⟩ := rnew_spec H1 n
    simp only [Bool.not_true, go_sem, texttoolslaw51_PipeCalls_J1_eq, e1, e2]
    have hlt := p1.lt
    exact calls_loop hx (hF rfl) (by omega) (by omega) hr2 H _ 0 H2 ⟨[], false, false⟩ rfl (Nat.zero_le _) (by simp; omega) (p1.rep f2) p2

/-! A nil pipe. -/
theorem len_nil (H : Hp) : C_pipe_Pipe_Len [.nilp] H = some (.int .i64 0, H) := by
  rw [F_pipe_Pipe_Len_eq]; unfold F_pipe_Pipe_Len; simp only [go_sem]
theorem free_nil (H : Hp) : C_pipe_Pipe_Free [.nilp] H = some (.int .i64 0, H) := by
  rw [F_pipe_Pipe_Free_eq]; unfold F_pipe_Pipe_Free; simp only [go_sem]
theorem write_nil (H : Hp) (s : AV) : C_pipe_Pipe_Write [.nilp, s] H = some (.tuple [.int .i64 0, .int .i64 5], H) := by
  rw [F_pipe_Pipe_Write_eq]; unfold F_pipe_Pipe_Write; simp only [go_sem]
theorem read_nil (H : Hp) (n : AV) : C_pipe_Pipe_Read [.nilp, n] H = some (.tuple [.str [], .bool false], H) := by
  rw [F_pipe_Pipe_Read_eq]; unfold F_pipe_Pipe_Read; simp only [go_sem]
theorem closeWriter_nil (H : Hp) : C_pipe_Pipe_CloseWriter [.nilp] H = some (.tuple [], H) := by
  rw [F_pipe_Pipe_CloseWriter_eq]; unfold F_pipe_Pipe_CloseWriter; simp only [go_sem]
theorem closeReader_nil (H : Hp) : C_pipe_Pipe_CloseReader [.nilp] H = some (.tuple [], H) := by
  rw [F_pipe_Pipe_CloseReader_eq]; unfold F_pipe_Pipe_CloseReader; simp only [go_sem]
def nilR (c : Ca) : Rs := ⟨[], 0, false, if c.op = 0 then 5 else 0⟩
theorem do_nil (H : Hp) (c : Ca) : ∃ H', C_texttoolslaw51_do [.nilp, c.av] H = some ((nilR c).av, H') := by
  have fin : ∀ (r : Rs),
      ∃ H', (bnd (astoreU 4 (.ptr (H ++ [AObj.cells [.int .i64 c.op, .str c.text, .int .i64 c.n]]).length 0) r.av (doH H c)) fun r1 =>
        bnd (aload true 4 (.ptr (H ++ [AObj.cells [.int .i64 c.op, .str c.text, .int .i64 c.n]]).length 0) r1.2) fun v => some (v, r1.2)) = some (r.av, H') :=
    fun r => ⟨_, do_end _ (doH_1 H c) rfl rfl⟩
  rw [F_texttoolslaw51_do_eq]
  unfold F_texttoolslaw51_do
  have hbox : abox c.av H = some (.ptr H.length 0, H ++ [.cells [.int .i64 c.op, .str c.text, .int .i64 c.n]]) := abox_of rfl
  simp only [hbox, go_sem]
  change ∃ H', (bnd (aload false 1 (.ptr H.length (0 + 0)) (doH H c)) _) = _
  simp only [go_sem, Nat.zero_add, aload_ff (doH_0 H c), List.getElem?_cons_zero]
  by_cases h0 : c.op = 0
  · have hb : (c.op == 0) = true := by simp [h0]
    simp only [hb, go_sem]
    change ∃ H', (bnd (aload false 1 (.ptr H.length 1) (doH H c)) fun t16 => bnd (C_pipe_Pipe_Write [.nilp, t16] (doH H c)) _) = _
    simp only [go_sem, Nat.zero_add, aload_ff (doH_0 H c), List.getElem?_cons_zero, List.getElem?_cons_succ, write_nil, fill_we, Option.map_some]
    have := fin (nilR c)
    simp only [nilR, h0, if_true] at this ⊢
    exact this
  · have hb : (c.op == 0) = false := by simp [h0]
    have e : nilR c = ⟨[], 0, false, 0⟩ := by simp [nilR, h0]
    have h := fin (nilR c)
    rw [e] at h ⊢
    simp only [hb, go_sem]
    by_cases h1 : c.op = 1
    · have hb : (c.op == 1) = true := by simp [h1]
      simp only [hb, go_sem]
      change ∃ H', (bnd (aload false 1 (.ptr H.length 2) (doH H c)) fun t16 => bnd (C_pipe_Pipe_Read [.nilp, t16] (doH H c)) _) = _
      simp only [go_sem, Nat.zero_add, aload_ff (doH_0 H c), List.getElem?_cons_zero, List.getElem?_cons_succ, read_nil, fill_re, Option.map_some]
      exact h
    · have hb : (c.op == 1) = false := by simp [h1]
      simp only [hb, go_sem]
      by_cases h2 : c.op = 2
      · have hb : (c.op == 2) = true := by simp [h2]
        simp only [hb, go_sem, closeWriter_nil, texttoolslaw51_do_J1_eq]
        exact h
      · have hb : (c.op == 2) = false := by simp [h2]
        simp only [hb, go_sem]
        by_cases h3 : c.op = 3
        · have hb : (c.op == 3) = true := by simp [h3]
          simp only [hb, go_sem, closeReader_nil, texttoolslaw51_do_J1_eq]
          exact h
        · have hb : (c.op == 3) = false := by simp [h3]
          simp only [hb, go_sem, texttoolslaw51_do_J1_eq]
          exact h
end Go.Am
