/-
  The statements about nil pipes and about pipes whose reader is closed, over the abstract machine.
-/
import Derived.Test.YtgofohblppkjfaaPipeV
namespace Go.Am
open Go.Proofs
set_option linter.unusedSimpArgs false
set_option linter.unusedVariables false

theorem set_push (H : Hp) (x y : AObj) : List.set (H ++ [x]) H.length y = H ++ [y] := by simp
theorem get_last (H : Hp) (x : AObj) : (H ++ [x])[H.length]? = some x := get_push_len _ _ _
theorem aload_vp4 (a b c d : AV) (H : Hp) : aload true 4 (.vp [a, b, c, d]) H = some (.agg [a, b, c, d]) := by simp [aload, Go.Am.apart]
theorem aloadv_vp4 (a b c d : AV) : aloadv true 4 (.vp [a, b, c, d]) = some (.agg [a, b, c, d]) := by simp [aloadv, Go.Am.apart]
theorem astore_last4 (H : Hp) {l c : List AV} (hl : l.length = 4) (hc : c.length = 4) : astoreU 4 (.ptr H.length 0) (.agg c) (H ++ [.cells l]) = some (.tuple [], H ++ [.cells c]) := by
  rw [astore_4 (get_last _ _) hl hc, set_push]
theorem astore_last1 (H : Hp) {l : List AV} {v : AV} {off : Nat} (hk : v.known = true) (hs : v.cells = [v]) (hl : off + 1 ≤ l.length) : astoreU 1 (.ptr H.length off) v (H ++ [.cells l]) = some (.tuple [], H ++ [.cells (l.set off v)]) := by
  rw [astore_1 (get_last _ _) hk hs hl, set_push]

theorem nil_loop {x : AV} {l : List Ca} (hx : CArg x l) (hF : Few l) (H0 : Hp) : ∀ (k i : Nat) (H : Hp), l.length - i = k → i ≤ l.length →
    ∃ H', texttoolslaw51_PipeNil_L1 x .nilp (.int .i64 (i : Int)) H0 H = some (.bool true, H') := by
  intro k
  induction k with
  | zero =>
    intro i H hk hi
    rw [texttoolslaw51_PipeNil_L1_eq]
    have hlt : decide ((i : Int) < (l.length : Int)) = false := by simp; omega
    obtain ⟨H', ha⟩ := awake_spec H
    simp only [hx.len, go_sem, hlt, texttoolslaw51_PipeNil_J2_eq, ha]
    exact ⟨H', rfl⟩
  | succ k ih =>
    intro i H hk hi
    rw [texttoolslaw51_PipeNil_L1_eq]
    have hlt : decide ((i : Int) < (l.length : Int)) = true := by simp; omega
    have hil : i < l.length := by omega
    have hc := List.getElem?_eq_getElem hil
    have hi60 := hF.1
    have c1 : ((0 : Int) != 0) = false := by decide
    simp only [hx.len, go_sem, hlt, texttoolslaw51_PipeNil_J3_eq, hx.get hc, afield_vp0, aload_vp1, astore_last4 H (rfl : List.length [AV.str [], .int .i64 0, .bool false, .int .i64 0] = 4) (rfl : List.length [AV.str [], .int .i64 0, .bool false, .int .i64 0] = 4)]
    have key : ∃ H', texttoolslaw51_PipeNil_J5 x .nilp (.int .i64 (i : Int)) (.ptr H.length 0) H0 (H ++ [.cells (nilR l[i]).av.cells]) = some (.bool true, H') := by
      rw [texttoolslaw51_PipeNil_J5_eq, frz_of (get_last _ _)]
      obtain ⟨H2, d⟩ := do_nil ((H ++ [AObj.cells (nilR l[i]).av.cells]).set H.length .dead) l[i]
      simp only [go_sem, hx.get hc, aload_vp3]
      rw [show (AV.agg [.int .i64 l[i].op, .str l[i].text, .int .i64 l[i].n]) = l[i].av from rfl, d]
      simp only [go_sem]
      rw [show aloadv true 4 (.vp (nilR l[i]).av.cells) = some (nilR l[i]).av from aloadv_vp4 _ _ _ _]
      simp only [go_sem, aeq_same, len_nil, free_nil, c1, texttoolslaw51_PipeNil_J4_eq, next64 (by omega : i ≤ 1000000)]
      exact ih (i + 1) H2 (by omega) (by omega)
    by_cases h0 : l[i].op = 0
    · have hb : (l[i].op == 0) = true := by simp [h0]
      simp only [hb, go_sem, Nat.zero_add, astore_last1 H (v := .int .i64 5) (off := 3) (l := [AV.str [], .int .i64 0, .bool false, .int .i64 0]) rfl rfl (by simp), List.set_cons_succ, List.set_cons_zero]
      simp only [nilR, h0, if_true, Rs.av, AV.cells] at key
      exact key
    · have hb : (l[i].op == 0) = false := by simp [h0]
      simp only [hb, go_sem]
      simp only [nilR, h0, if_false, Rs.av, AV.cells] at key
      exact key
theorem PipeNil_law {x : AV} {l : List Ca} (hx : CArg x l) (H : Hp) : ∃ H', C_texttoolslaw51_PipeNil [x] H = some (.bool true, H') := by
  rw [F_texttoolslaw51_PipeNil_eq]
  unfold F_texttoolslaw51_PipeNil
  obtain ⟨b, hb, hF⟩ := few_spec hx H
  simp only [hb, go_sem]
  cases b with
  | false =>
    obtain ⟨H', ha⟩ := awake_spec H
    simp only [Bool.not_false, go_sem, ha]
    exact ⟨H', rfl⟩
  | true =>
    simp only [Bool.not_true, go_sem, texttoolslaw51_PipeNil_J1_eq]
    exact nil_loop hx (hF rfl) H _ 0 H rfl (Nat.zero_le _)

/-! Pipes whose reader is closed. -/
theorem before_loop {x y : AV} {l : List Ca} (hx : CArg x l) (hF : Few l) {o : Nat} {sz : Int} (h0 : 0 ≤ sz) (hs : sz ≤ 4096) (H0 : Hp)
    (fin : ∀ (H : Hp) (p : PS), (p.q.length : Int) ≤ sz → PAt H o sz p → ∃ H', texttoolslaw51_PipeBreaks_J2 y (.ptr o 0) (.bool p.nw) H0 H = some (.bool true, H')) : ∀ (k i : Nat) (H : Hp) (p : PS), l.length - i = k → i ≤ l.length → (p.q.length : Int) ≤ sz →
    PAt H o sz p → ∃ H', texttoolslaw51_PipeBreaks_L2 x y (.ptr o 0) (.bool p.nw) (.int .i64 (i : Int)) H0 H = some (.bool true, H') := by
  intro k
  induction k with
  | zero =>
    intro i H p hk hi hq hp
    rw [texttoolslaw51_PipeBreaks_L2_eq]
    have hlt : decide ((i : Int) < (l.length : Int)) = false := by simp; omega
    simp only [hx.len, go_sem, hlt]
    exact fin H p hq hp
  | succ k ih =>
    intro i H p hk hi hq hp
    rw [texttoolslaw51_PipeBreaks_L2_eq]
    have hlt : decide ((i : Int) < (l.length : Int)) = true := by simp; omega
    have hil : i < l.length := by omega
    have hc := List.getElem?_eq_getElem hil
    have hi60 := hF.1
    obtain ⟨H1, d1, p1, f1⟩ := do_spec hp hs hq l[i]
    have hnw : (stepP sz p l[i]).nw = (p.nw || (l[i].op == 2)) := by
      unfold stepP
      by_cases h0 : l[i].op = 0
      · simp [h0]
      · by_cases h1 : l[i].op = 1
        · simp [h1]
        · by_cases h2 : l[i].op = 2
          · simp [h2]
          · by_cases h3 : l[i].op = 3
            · simp [h3]
            · simp [h0, h1, h2, h3]
    have hrec := ih (i + 1) H1 _ (by omega) (by omega) (step_len l[i] hs hq h0) p1
    rw [hnw] at hrec
    simp only [hx.len, go_sem, hlt, texttoolslaw51_PipeBreaks_J7_eq, hx.get hc, aload_vp3]
    rw [show (AV.agg [.int .i64 l[i].op, .str l[i].text, .int .i64 l[i].n]) = l[i].av from rfl, d1]
    cases hp' : p.nw with
    | true =>
      simp only [go_sem, texttoolslaw51_PipeBreaks_J8_eq, next64 (by omega : i ≤ 1000000)]
      simpa [hp'] using hrec
    | false =>
      simp only [go_sem, hx.get hc, afield_vp0, aload_vp1, texttoolslaw51_PipeBreaks_J8_eq, next64 (by omega : i ≤ 1000000)]
      simpa [hp'] using hrec
def wantR (nw : Bool) (c : Ca) : Rs := ⟨[], 0, if c.op = 1 then true else false, if c.op = 0 then (if nw then 8 else 15) else 0⟩
theorem step_gone {sz : Int} {nw : Bool} (c : Ca) : stepR sz ⟨[], nw, true⟩ c = wantR nw c ∧ stepP sz ⟨[], nw, true⟩ c = ⟨[], nw || (c.op == 2), true⟩ := by
  unfold stepR stepP wantR
  by_cases h0 : c.op = 0
  · simp [h0]
  · by_cases h1 : c.op = 1
    · simp [h1]
    · by_cases h2 : c.op = 2
      · simp [h2]
      · by_cases h3 : c.op = 3 <;> simp [h0, h1, h2, h3]
theorem aload_lastbut {H : Hp} {a : List AV} (b : AObj) (g : Bool) (sz off : Nat) : aload g sz (.ptr H.length off) ((H ++ [.cells a]) ++ [b]) = Go.Am.apart g sz a off := aload_of (get_push (get_last _ _) _) g sz
theorem aload_last {H : Hp} {a : List AV} (g : Bool) (sz off : Nat) : aload g sz (.ptr H.length off) (H ++ [.cells a]) = Go.Am.apart g sz a off := aload_of (get_last _ _) g sz
theorem apart_4 (a b c d : AV) : Go.Am.apart true 4 [a, b, c, d] 0 = some (.agg [a, b, c, d]) := by simp [Go.Am.apart]
theorem after_loop {x : AV} {l : List Ca} (hx : CArg x l) (hF : Few l) {o : Nat} {sz : Int} (h0 : 0 ≤ sz) (hs : sz ≤ 4096) (H0 : Hp) : ∀ (k i : Nat) (H : Hp) (nw : Bool), l.length - i = k → i ≤ l.length →
    PAt H o sz ⟨[], nw, true⟩ → ∃ H', texttoolslaw51_PipeBreaks_L1 x (.ptr o 0) (.bool nw) (.int .i64 (i : Int)) H0 H = some (.bool true, H') := by
  intro k
  induction k with
  | zero =>
    intro i H nw hk hi hp
    rw [texttoolslaw51_PipeBreaks_L1_eq]
    have hlt : decide ((i : Int) < (l.length : Int)) = false := by simp; omega
    obtain ⟨H', ha⟩ := awake_spec H
    simp only [hx.len, go_sem, hlt, texttoolslaw51_PipeBreaks_J3_eq, ha]
    exact ⟨H', rfl⟩
  | succ k ih =>
    intro i H nw hk hi hp
    rw [texttoolslaw51_PipeBreaks_L1_eq]
    have hlt : decide ((i : Int) < (l.length : Int)) = true := by simp; omega
    have hil : i < l.length := by omega
    have hc := List.getElem?_eq_getElem hil
    have hi60 := hF.1
    obtain ⟨H1, d1, p1, f1⟩ := do_spec hp hs (by simpa using h0) l[i]
    rw [(step_gone l[i]).1] at d1
    rw [(step_gone l[i]).2] at p1
    have c1 : ((0 : Int) != 0) = false := by decide
    have c2 : ((((0 : Nat) : Int)) != 0) = false := by decide
    have hz4 : List.length [AV.str [], .int .i64 0, .bool false, .int .i64 0] = 4 := rfl
    simp only [hx.len, go_sem, hlt, texttoolslaw51_PipeBreaks_J4_eq, hx.get hc, aload_vp3]
    rw [show (AV.agg [.int .i64 l[i].op, .str l[i].text, .int .i64 l[i].n]) = l[i].av from rfl, d1]
    simp only [go_sem]
    rw [show astoreU 4 (.ptr H1.length 0) (wantR nw l[i]).av (H1 ++ [.cells [AV.str [], .int .i64 0, .bool false, .int .i64 0]]) = some (.tuple [], H1 ++ [.cells (wantR nw l[i]).av.cells]) from astore_last4 H1 rfl rfl]
    simp only [go_sem, astore_last4 _ hz4 hz4, hx.get hc, afield_vp0, aload_vp1]
    have key : ∀ nw', nw' = (nw || l[i].op == 2) → ∃ H', texttoolslaw51_PipeBreaks_J6 x (.ptr o 0) (.bool nw') (.int .i64 (i : Int)) (.ptr H1.length 0) (.ptr (H1 ++ [AObj.cells (wantR nw l[i]).av.cells]).length 0) H0
        ((H1 ++ [.cells (wantR nw l[i]).av.cells]) ++ [.cells (wantR nw l[i]).av.cells]) = some (.bool true, H') := by
      intro nw' hnw'
      subst hnw'
      rw [texttoolslaw51_PipeBreaks_J6_eq, aload_lastbut, aload_last]
      rw [show Go.Am.apart true 4 (wantR nw l[i]).av.cells 0 = some (wantR nw l[i]).av from apart_4 _ _ _ _]
      have p2 : PAt ((H1 ++ [AObj.cells (wantR nw l[i]).av.cells]) ++ [.cells (wantR nw l[i]).av.cells]) o sz ⟨[], nw || l[i].op == 2, true⟩ := p1.rep fun j y hy => get_push (get_push hy _) _
      have hq0 : qn sz ⟨[], nw || l[i].op == 2, true⟩ = 0 := by simp [qn]
      have hfr := free_spec p2 hs (by simpa using h0)
      rw [hq0] at hfr
      simp only [go_sem, aeq_same, len_spec p2, hfr, List.length_nil, c1, c2, texttoolslaw51_PipeBreaks_J5_eq, next64 (by omega : i ≤ 1000000)]
      exact ih (i + 1) _ _ (by omega) (by omega) p2
    simp only [wantR, Rs.av, AV.cells] at key
    by_cases h0 : l[i].op = 0
    · have hb : (l[i].op == 0) = true := by simp [h0]
      have hn2 : (l[i].op == 2) = false := by simp [h0]
      have e1 : ((0 : Int) = 1) = False := by simp
      simp only [h0, e1, if_true, if_false] at key
      have := key nw (by simp)
      cases nw with
      | false =>
        simp only [hb, go_sem, Nat.zero_add, wantR, Rs.av, AV.cells, h0, e1, if_true, if_false, Bool.false_eq_true] at this ⊢
        rw [astore_last1 _ (v := .int .i64 15) rfl rfl (by simp)]
        simp only [go_sem, List.set_cons_succ, List.set_cons_zero]
        exact this
      | true =>
        simp only [hb, go_sem, Nat.zero_add, wantR, Rs.av, AV.cells, h0, e1, if_true, if_false, Bool.false_eq_true] at this ⊢
        rw [astore_last1 _ (v := .int .i64 15) rfl rfl (by simp)]
        simp only [go_sem, List.set_cons_succ, List.set_cons_zero]
        rw [astore_last1 _ (v := .int .i64 8) rfl rfl (by simp)]
        simp only [go_sem, List.set_cons_succ, List.set_cons_zero]
        exact this
    · have hb : (l[i].op == 0) = false := by simp [h0]
      simp only [hb, go_sem]
      by_cases h1 : l[i].op = 1
      · have hb : (l[i].op == 1) = true := by simp [h1]
        have e1 : ((1 : Int) = 0) = False := by simp
        simp only [h1, e1, if_true, if_false] at key
        have := key nw (by simp)
        simp only [hb, go_sem, Nat.zero_add, wantR, Rs.av, AV.cells, h1, e1, if_true, if_false] at this ⊢
        rw [astore_last1 _ (v := .bool true) rfl rfl (by simp)]
        simp only [go_sem, List.set_cons_succ, List.set_cons_zero]
        exact this
      · have hb : (l[i].op == 1) = false := by simp [h1]
        simp only [h0, h1, if_false] at key
        simp only [hb, go_sem, wantR, Rs.av, AV.cells, h0, h1, if_false]
        by_cases h2 : l[i].op = 2
        · have hb : (l[i].op == 2) = true := by simp [h2]
          simp only [hb, go_sem]
          exact key true (by simp [h2])
        · have hb : (l[i].op == 2) = false := by simp [h2]
          simp only [hb, go_sem]
          exact key nw (by simp [h2])
theorem PipeBreaks_law (n : Int) {x y : AV} {l m : List Ca} (hx : CArg x l) (hy : CArg y m) (H : Hp) : ∃ H', C_texttoolslaw51_PipeBreaks [.int .i64 n, x, y] H = some (.bool true, H') := by
  rw [F_texttoolslaw51_PipeBreaks_eq]
  unfold F_texttoolslaw51_PipeBreaks
  obtain ⟨b, hb, hF⟩ := few_spec hx H
  obtain ⟨b', hb', hF'⟩ := few_spec hy H
  obtain ⟨H', ha⟩ := awake_spec H
  simp only [hb, go_sem]
  cases b with
  | false =>
    simp only [Bool.not_false, go_sem, ha]
    exact ⟨H', rfl⟩
  | true =>
    simp only [Bool.not_true, go_sem, hb']
    cases b' with
    | false =>
      simp only [Bool.not_false, go_sem, ha]
      exact ⟨H', rfl⟩
    | true =>
      obtain ⟨hr1, hr2⟩ := room_bound n
      obtain ⟨H1, e1, p1, f1⟩ := new_spec H n
      simp only [Bool.not_true, go_sem, texttoolslaw51_PipeBreaks_J1_eq, e1]
      refine before_loop hx (hF rfl) (by omega) hr2 H (fun H2 p hq hp => ?_) _ 0 H1 ⟨[], false, false⟩ rfl (Nat.zero_le _) (by simp; omega) p1
      obtain ⟨H3, e3, p3, f3⟩ := closeReader_spec hp
      simp only [texttoolslaw51_PipeBreaks_J2_eq, e3, go_sem]
      exact after_loop hy (hF' rfl) (by omega) hr2 H _ 0 H3 _ rfl (Nat.zero_le _) p3
end Go.Am
