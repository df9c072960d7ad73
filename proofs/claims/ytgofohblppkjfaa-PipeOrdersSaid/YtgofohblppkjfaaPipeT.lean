/-
  A call of a method of either pipe.
-/
import Derived.Test.YtgofohblppkjfaaPipeS
namespace Go.Am
set_option linter.unusedSimpArgs false
set_option linter.unusedVariables false

def zeroR : List AV := [.str [], .int .i64 0, .bool false, .int .i64 0]
theorem fill_we (k k' : IntKind) (a b : Int) : afill [(1, 1, .int k a), (3, 1, .int k' b)] [.str [], .int .i64 0, .bool false, .int .i64 0] = some [.str [], .int k a, .bool false, .int k' b] := by
  simp [afill, AV.known, AV.cells, splice]
theorem fill_re (a : List UInt8) (b : Bool) : afill [(0, 1, .str a), (2, 1, .bool b)] [.str [], .int .i64 0, .bool false, .int .i64 0] = some [.str a, .int .i64 0, .bool b, .int .i64 0] := by
  simp [afill, AV.known, AV.cells, splice]
theorem astore_4 {H : Hp} {o : Nat} {l c : List AV} (h : H[o]? = some (.cells l)) (hl : l.length = 4) (hc : c.length = 4) :
    astoreU 4 (.ptr o 0) (.agg c) H = some (.tuple [], H.set o (.cells c)) := by
  rw [astore_of (v := .agg c) h rfl (by simpa [AV.cells] using hc) (by omega)]
  have : splice l 0 (AV.agg c).cells = c := by simp [splice, AV.cells, hl, hc]
  rw [this]
theorem aload_4 {H : Hp} {o : Nat} {c : List AV} (h : H[o]? = some (.cells c)) (hc : c.length = 4) : aload true 4 (.ptr o 0) H = some (.agg c) := by
  rw [aload_of h]
  have : c.take 4 = c := List.take_of_length_le (by omega)
  simp [apart, hc, this]
/-- The two variables of 'do'. -/
def doH (H : Hp) (c : Ca) : Hp := (H ++ [.cells [.int .i64 c.op, .str c.text, .int .i64 c.n]]) ++ [.cells [.str [], .int .i64 0, .bool false, .int .i64 0]]
theorem doH_0 (H : Hp) (c : Ca) : (doH H c)[H.length]? = some (.cells [.int .i64 c.op, .str c.text, .int .i64 c.n]) := get_push (get_push_len _ _ _) _
theorem doH_1 (H : Hp) (c : Ca) : (doH H c)[(H ++ [AObj.cells [.int .i64 c.op, .str c.text, .int .i64 c.n]]).length]? = some (.cells [.str [], .int .i64 0, .bool false, .int .i64 0]) := get_push_len _ _ _
theorem doH_old {H : Hp} {o : Nat} {x : AObj} (c : Ca) (h : H[o]? = some x) : (doH H c)[o]? = some x := get_push (get_push h _) _

theorem PAt.lt {H : Hp} {o : Nat} {sz : Int} {p : PS} (h : PAt H o sz p) : o < H.length := by
  obtain ⟨qv, h1, _⟩ := h
  exact lt_of_get h1
theorem PAt.setOther {H : Hp} {o i : Nat} {sz : Int} {p : PS} (h : PAt H o sz p) {c : List AV} (hi : H[i]? = some (.cells c)) (hn : i ≠ o) (y : AObj) : PAt (H.set i y) o sz p := by
  obtain ⟨qv, h1, h2⟩ := h
  exact ⟨qv, get_set_ne _ hn h1, h2.set hi y⟩
theorem RAt.lt {H : Hp} {o : Nat} {sz : Int} {p : PS} (h : RAt H o sz p) : o < H.length := lt_of_get h
theorem do_end {H1 : Hp} {i : Nat} (c : List AV) {l : List AV} (h : H1[i]? = some (.cells l)) (hl : l.length = 4) (hc : c.length = 4) :
    (bnd (astoreU 4 (.ptr i 0) (.agg c) H1) fun r => bnd (aload true 4 (.ptr i 0) r.2) fun v => some (v, r.2)) = some (.agg c, H1.set i (.cells c)) := by
  simp only [astore_4 h hl hc, go_sem, aload_4 (get_set_eq _ h) hc]

theorem do_spec {H : Hp} {o : Nat} {sz : Int} {p : PS} (h : PAt H o sz p) (hs : sz ≤ 4096) (hq : p.q.length ≤ sz) (c : Ca) :
    ∃ H', C_texttoolslaw51_do [.ptr o 0, c.av] H = some ((stepR sz p c).av, H') ∧ PAt H' o sz (stepP sz p c) ∧ Fr H H' o := by
  have hlt := h.lt
  have hP : PAt (doH H c) o sz p := h.rep fun i x hx => doH_old c hx
  have hne0 : H.length ≠ o := by omega
  have hne1 : (H ++ [AObj.cells [.int .i64 c.op, .str c.text, .int .i64 c.n]]).length ≠ o := by simp; omega
  -- what is done behind the call of the method
  have fin : ∀ {H1 : Hp} {p' : PS} (r : Rs), PAt H1 o sz p' → Fr (doH H c) H1 o →
      ∃ H', (bnd (astoreU 4 (.ptr (H ++ [AObj.cells [.int .i64 c.op, .str c.text, .int .i64 c.n]]).length 0) r.av H1) fun r1 =>
        bnd (aload true 4 (.ptr (H ++ [AObj.cells [.int .i64 c.op, .str c.text, .int .i64 c.n]]).length 0) r1.2) fun v => some (v, r1.2)) = some (r.av, H') ∧ PAt H' o sz p' ∧ Fr H H' o := by
    intro H1 p' r hp hf
    have hc := hf _ _ hne1 (doH_1 H c)
    refine ⟨_, do_end _ hc rfl rfl, hp.setOther hc hne1 _, fun i l hi hl => ?_⟩
    refine get_set_ne _ (fun he => ?_) (hf i l hi (doH_old c hl))
    have := lt_of_get hl
    rw [← he] at this
    simp at this
    omega
  rw [F_texttoolslaw51_do_eq]
  unfold F_texttoolslaw51_do
  have hbox : abox c.av H = some (.ptr H.length 0, H ++ [.cells [.int .i64 c.op, .str c.text, .int .i64 c.n]]) := abox_of rfl
  simp only [hbox, go_sem]
  change ∃ H', (bnd (aload false 1 (.ptr H.length (0 + 0)) (doH H c)) _) = _ ∧ _
  simp only [go_sem, Nat.zero_add, aload_ff (doH_0 H c), List.getElem?_cons_zero]
  by_cases h0 : c.op = 0
  · have hb : (c.op == 0) = true := by simp [h0]
    simp only [hb, go_sem]
    change ∃ H', (bnd (aload false 1 (.ptr H.length 1) (doH H c)) fun t16 => bnd (C_pipe_Pipe_Write [.ptr o 0, t16] (doH H c)) _) = _ ∧ _
    simp only [go_sem, Nat.zero_add, aload_ff (doH_0 H c), List.getElem?_cons_zero, List.getElem?_cons_succ]
    obtain ⟨H1, hw, hp, hf⟩ := write_spec hP hs hq c.text
    simp only [hw, go_sem, List.getElem?_cons_zero, List.getElem?_cons_succ, fill_we, Option.map_some]
    have := fin (stepR sz p c) hp hf
    simp only [stepR, stepP, h0, if_true] at this ⊢
    exact this
  · have hb : (c.op == 0) = false := by simp [h0]
    simp only [hb, go_sem]
    by_cases h1 : c.op = 1
    · have hb : (c.op == 1) = true := by simp [h1]
      simp only [hb, go_sem]
      change ∃ H', (bnd (aload false 1 (.ptr H.length 2) (doH H c)) fun t16 => bnd (C_pipe_Pipe_Read [.ptr o 0, t16] (doH H c)) _) = _ ∧ _
      simp only [go_sem, Nat.zero_add, aload_ff (doH_0 H c), List.getElem?_cons_zero, List.getElem?_cons_succ]
      obtain ⟨H1, hw, hp, hf⟩ := read_spec hP c.n
      simp only [hw, go_sem, List.getElem?_cons_zero, List.getElem?_cons_succ, fill_re, Option.map_some]
      have := fin (stepR sz p c) hp hf
      simp only [stepR, stepP, h0, h1, if_true, if_false] at this ⊢
      exact this
    · have hb : (c.op == 1) = false := by simp [h1]
      simp only [hb, go_sem]
      have e : ∀ r : Rs, r = ⟨[], 0, false, 0⟩ → stepR sz p c = r := by intro r hr; subst hr; simp [stepR, h0, h1]
      by_cases h2 : c.op = 2
      · have hb : (c.op == 2) = true := by simp [h2]
        simp only [hb, go_sem]
        change ∃ H', (bnd (C_pipe_Pipe_CloseWriter [.ptr o 0] (doH H c)) _) = _ ∧ _
        obtain ⟨H1, hw, hp, hf⟩ := closeWriter_spec hP
        simp only [hw, go_sem, texttoolslaw51_do_J1_eq]
        have := fin ⟨[], 0, false, 0⟩ hp hf
        rw [e _ rfl]
        simp only [stepP, h0, h1, h2, if_true, if_false] at this ⊢
        exact this
      · have hb : (c.op == 2) = false := by simp [h2]
        simp only [hb, go_sem]
        by_cases h3 : c.op = 3
        · have hb : (c.op == 3) = true := by simp [h3]
          simp only [hb, go_sem]
          change ∃ H', (bnd (C_pipe_Pipe_CloseReader [.ptr o 0] (doH H c)) _) = _ ∧ _
          obtain ⟨H1, hw, hp, hf⟩ := closeReader_spec hP
          simp only [hw, go_sem, texttoolslaw51_do_J1_eq]
          have := fin ⟨[], 0, false, 0⟩ hp hf
          rw [e _ rfl]
          simp only [stepP, h0, h1, h2, h3, if_true, if_false] at this ⊢
          exact this
        · have hb : (c.op == 3) = false := by simp [h3]
          simp only [hb, go_sem, texttoolslaw51_do_J1_eq]
          have := fin ⟨[], 0, false, 0⟩ hP (fun _ _ _ h => h)
          rw [e _ rfl]
          simp only [stepP, h0, h1, h2, h3, if_true, if_false] at this ⊢
          exact this
theorem model_spec {H : Hp} {o : Nat} {sz : Int} {p : PS} (h : RAt H o sz p) (hs : sz ≤ 4096) (hq : p.q.length ≤ sz) (c : Ca) :
    ∃ H', C_texttoolslaw51_model [.ptr o 0, c.av] H = some ((stepR sz p c).av, H') ∧ RAt H' o sz (stepP sz p c) ∧ FrA H H' o := by
  have hlt := h.lt
  have hP : RAt (doH H c) o sz p := doH_old c h
  have hne0 : H.length ≠ o := by omega
  have hne1 : (H ++ [AObj.cells [.int .i64 c.op, .str c.text, .int .i64 c.n]]).length ≠ o := by simp; omega
  -- what is done behind the call of the method
  have fin : ∀ {H1 : Hp} {p' : PS} (r : Rs), RAt H1 o sz p' → FrA (doH H c) H1 o →
      ∃ H', (bnd (astoreU 4 (.ptr (H ++ [AObj.cells [.int .i64 c.op, .str c.text, .int .i64 c.n]]).length 0) r.av H1) fun r1 =>
        bnd (aload true 4 (.ptr (H ++ [AObj.cells [.int .i64 c.op, .str c.text, .int .i64 c.n]]).length 0) r1.2) fun v => some (v, r1.2)) = some (r.av, H') ∧ RAt H' o sz p' ∧ FrA H H' o := by
    intro H1 p' r hp hf
    have hc := hf _ _ hne1 (doH_1 H c)
    refine ⟨_, do_end _ hc rfl rfl, get_set_ne _ hne1 hp, fun i l hi hl => ?_⟩
    refine get_set_ne _ (fun he => ?_) (hf i l hi (doH_old c hl))
    have := lt_of_get hl
    rw [← he] at this
    simp at this
    omega
  rw [F_texttoolslaw51_model_eq]
  unfold F_texttoolslaw51_model
  have hbox : abox c.av H = some (.ptr H.length 0, H ++ [.cells [.int .i64 c.op, .str c.text, .int .i64 c.n]]) := abox_of rfl
  simp only [hbox, go_sem]
  change ∃ H', (bnd (aload false 1 (.ptr H.length (0 + 0)) (doH H c)) _) = _ ∧ _
  simp only [go_sem, Nat.zero_add, aload_ff (doH_0 H c), List.getElem?_cons_zero]
  by_cases h0 : c.op = 0
  · have hb : (c.op == 0) = true := by simp [h0]
    simp only [hb, go_sem]
    change ∃ H', (bnd (aload false 1 (.ptr H.length 1) (doH H c)) fun t16 => bnd (C_texttoolsref51_Pipe_Write [.ptr o 0, t16] (doH H c)) _) = _ ∧ _
    simp only [go_sem, Nat.zero_add, aload_ff (doH_0 H c), List.getElem?_cons_zero, List.getElem?_cons_succ]
    obtain ⟨H1, hw, hp, hf⟩ := rwrite_spec hP hs hq c.text
    simp only [hw, go_sem, List.getElem?_cons_zero, List.getElem?_cons_succ, fill_we, Option.map_some]
    have := fin (stepR sz p c) hp hf
    simp only [stepR, stepP, h0, if_true] at this ⊢
    exact this
  · have hb : (c.op == 0) = false := by simp [h0]
    simp only [hb, go_sem]
    by_cases h1 : c.op = 1
    · have hb : (c.op == 1) = true := by simp [h1]
      simp only [hb, go_sem]
      change ∃ H', (bnd (aload false 1 (.ptr H.length 2) (doH H c)) fun t16 => bnd (C_texttoolsref51_Pipe_Read [.ptr o 0, t16] (doH H c)) _) = _ ∧ _
      simp only [go_sem, Nat.zero_add, aload_ff (doH_0 H c), List.getElem?_cons_zero, List.getElem?_cons_succ]
      obtain ⟨H1, hw, hp, hf⟩ := rread_spec hP c.n
      simp only [hw, go_sem, List.getElem?_cons_zero, List.getElem?_cons_succ, fill_re, Option.map_some]
      have := fin (stepR sz p c) hp hf
      simp only [stepR, stepP, h0, h1, if_true, if_false] at this ⊢
      exact this
    · have hb : (c.op == 1) = false := by simp [h1]
      simp only [hb, go_sem]
      have e : ∀ r : Rs, r = ⟨[], 0, false, 0⟩ → stepR sz p c = r := by intro r hr; subst hr; simp [stepR, h0, h1]
      by_cases h2 : c.op = 2
      · have hb : (c.op == 2) = true := by simp [h2]
        simp only [hb, go_sem]
        change ∃ H', (bnd (C_texttoolsref51_Pipe_CloseWriter [.ptr o 0] (doH H c)) _) = _ ∧ _
        obtain ⟨H1, hw, hp, hf⟩ := rcloseWriter_spec hP
        simp only [hw, go_sem, texttoolslaw51_model_J1_eq]
        have := fin ⟨[], 0, false, 0⟩ hp hf
        rw [e _ rfl]
        simp only [stepP, h0, h1, h2, if_true, if_false] at this ⊢
        exact this
      · have hb : (c.op == 2) = false := by simp [h2]
        simp only [hb, go_sem]
        by_cases h3 : c.op = 3
        · have hb : (c.op == 3) = true := by simp [h3]
          simp only [hb, go_sem]
          change ∃ H', (bnd (C_texttoolsref51_Pipe_CloseReader [.ptr o 0] (doH H c)) _) = _ ∧ _
          obtain ⟨H1, hw, hp, hf⟩ := rcloseReader_spec hP
          simp only [hw, go_sem, texttoolslaw51_model_J1_eq]
          have := fin ⟨[], 0, false, 0⟩ hp hf
          rw [e _ rfl]
          simp only [stepP, h0, h1, h2, h3, if_true, if_false] at this ⊢
          exact this
        · have hb : (c.op == 3) = false := by simp [h3]
          simp only [hb, go_sem, texttoolslaw51_model_J1_eq]
          have := fin ⟨[], 0, false, 0⟩ hP (fun _ _ _ h => h)
          rw [e _ rfl]
          simp only [stepP, h0, h1, h2, h3, if_true, if_false] at this ⊢
          exact this

end Go.Am
