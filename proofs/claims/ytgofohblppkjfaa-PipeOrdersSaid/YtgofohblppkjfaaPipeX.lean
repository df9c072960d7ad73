/-
  The statements about the order of bytes in pipes, over the abstract machine.
-/
import Derived.Test.YtgofohblppkjfaaPipeW
namespace Go.Am
open Go.Proofs
set_option linter.unusedSimpArgs false
set_option linter.unusedVariables false

theorem apart_3 (a b c : AV) : Go.Am.apart true 3 [a, b, c] 0 = some (.agg [a, b, c]) := by simp [Go.Am.apart]
theorem apart_1 (l : List AV) (off : Nat) : Go.Am.apart false 1 l off = l[off]? := by simp [Go.Am.apart]
theorem astore_last3 (H : Hp) {l c : List AV} (hl : l.length = 3) (hc : c.length = 3) : astoreU 3 (.ptr H.length 0) (.agg c) (H ++ [.cells l]) = some (.tuple [], H ++ [.cells c]) := by
  rw [astore_of (v := .agg c) (get_last _ _) rfl (by simpa [AV.cells] using hc) (by omega)]
  have : splice l 0 (AV.agg c).cells = c := by simp [splice, AV.cells, hl, hc]
  rw [this, set_push]

/-- What holds between the calls: all that was written is what was read and what is in the queue. -/
structure OInv (p : PS) (inn out : List UInt8) (closed ended : Bool) (i : Nat) : Prop where
  gone : p.gone = false
  nw : p.nw = closed
  eq : inn = out ++ p.q
  fin : ended = true → closed = true ∧ p.q = []
  small : inn.length ≤ 100 * i

/-- The last tests of a round. -/
theorem J6_ok {x : AV} {o : Nat} {sz : Int} {p : PS} {inn out : List UInt8} {closed ended : Bool} {n : Nat} (hs : sz ≤ 4096) (hq : (p.q.length : Int) ≤ sz) (H0 H : Hp) (i : Nat) (hi : i ≤ 1000000)
    (hp : PAt H o sz p) (hI : OInv p inn out closed ended n) (hn : n ≤ 100) :
    texttoolslaw51_PipeOrders_J6 x (.ptr o 0) (.int .i64 sz) (.str inn) (.str out) (.bool closed) (.bool ended) (.int .i64 (i : Int)) H0 H =
      texttoolslaw51_PipeOrders_L1 x (.ptr o 0) (.int .i64 sz) (.str inn) (.str out) (.bool closed) (.bool ended) (.int .i64 ((i + 1 : Nat) : Int)) H0 H := by
  rw [texttoolslaw51_PipeOrders_J6_eq]
  have hlen := hI.small
  have heq := hI.eq
  have hle : inn.length = out.length + p.q.length := by rw [heq]; simp
  have hw : IntKind.i64.wrap ((inn.length : Int) - out.length) = p.q.length := by rw [wrap64 (by omega) (by omega)]; omega
  have c1 : ((p.q.length : Int) != (p.q.length : Int)) = false := by simp
  have c2 : decide (sz < (p.q.length : Int)) = false := by simp; omega
  have c3 : decide ((inn.length : Int) < (out.length : Int)) = false := by simp; omega
  have c4 : inn.take ((out.length : Int)).toNat = out := by rw [heq]; simp
  have c5 : (!(out == out)) = false := by simp
  have hsl := asliceS_hi (s := inn) (n := (out.length : Int)) .i64 (by omega) (by omega)
  rw [c4] at hsl
  simp only [len_spec hp, go_sem, hw, c1, c2, c3, hsl, c5]
  rw [texttoolslaw51_PipeOrders_J7_eq]
  have hfree := free_spec hp hs hq
  have c6 : ended = true → (!(inn == out)) = false := by
    intro he
    have := (hI.fin he).2
    rw [this] at heq
    simp [heq]
  have c7 : closed = true → qn sz p = 0 := by intro hc; simp [qn, hI.nw, hc]
  have c8 : closed = false → qn sz p = sz - p.q.length := by intro hc; simp [qn, hI.nw, hc, hI.gone]
  have c9 : ((0 : Int) != 0) = false := by decide
  have hw2 : IntKind.i64.wrap (sz - p.q.length) = sz - p.q.length := wrap64 (by omega) (by omega)
  have c10 : (sz - (p.q.length : Int) != sz - (p.q.length : Int)) = false := by simp
  have hdone : texttoolslaw51_PipeOrders_J4 x (.ptr o 0) (.int .i64 sz) (.str inn) (.str out) (.bool closed) (.bool ended) (.int .i64 (i : Int)) H0 H =
      texttoolslaw51_PipeOrders_L1 x (.ptr o 0) (.int .i64 sz) (.str inn) (.str out) (.bool closed) (.bool ended) (.int .i64 ((i + 1 : Nat) : Int)) H0 H := by
    rw [texttoolslaw51_PipeOrders_J4_eq]
    simp only [go_sem, next64 hi]
  cases ended with
  | true =>
    obtain ⟨hc, hqe⟩ := hI.fin rfl
    subst hc
    have := c7 rfl
    rw [this] at hfree
    simp only [go_sem, Bool.not_true, c6 rfl, hfree, c9, hdone]
  | false =>
    cases closed with
    | true =>
      have := c7 rfl
      rw [this] at hfree
      simp only [go_sem, Bool.not_true, hfree, c9, hdone]
    | false =>
      have := c8 rfl
      rw [this] at hfree
      simp only [go_sem, Bool.not_true, Bool.not_false, hfree, len_spec hp, hw2, c10, hdone]

theorem orders_loop {x : AV} {l : List Ca} (hx : CArg x l) (hF : Few l) {o : Nat} {sz : Int} (h0 : 1 ≤ sz) (hs : sz ≤ 4096) (H0 : Hp) : ∀ (k i : Nat) (H : Hp) (p : PS) (inn out : List UInt8) (closed ended : Bool),
    l.length - i = k → i ≤ l.length → (p.q.length : Int) ≤ sz → PAt H o sz p → OInv p inn out closed ended i →
    ∃ H', texttoolslaw51_PipeOrders_L1 x (.ptr o 0) (.int .i64 sz) (.str inn) (.str out) (.bool closed) (.bool ended) (.int .i64 (i : Int)) H0 H = some (.bool true, H') := by
  intro k
  induction k with
  | zero =>
    intro i H p inn out closed ended hk hi hq hp hI
    rw [texttoolslaw51_PipeOrders_L1_eq]
    have hlt : decide ((i : Int) < (l.length : Int)) = false := by simp; omega
    obtain ⟨H', ha⟩ := awake_spec H
    simp only [hx.len, go_sem, hlt, texttoolslaw51_PipeOrders_J2_eq, ha]
    exact ⟨H', rfl⟩
  | succ k ih =>
    intro i H p inn out closed ended hk hi hq hp hI
    rw [texttoolslaw51_PipeOrders_L1_eq]
    have hlt : decide ((i : Int) < (l.length : Int)) = true := by simp; omega
    have hil : i < l.length := by omega
    have hc := List.getElem?_eq_getElem hil
    have hi60 := hF.1
    have htext : (l[i]).text.length ≤ 100 := hF.2 _ (List.getElem_mem hil)
    have hz3 : List.length [AV.int .i64 0, .str [], .int .i64 0] = 3 := rfl
    have hs3 : List.length [AV.int .i64 l[i].op, .str l[i].text, .int .i64 l[i].n] = 3 := rfl
    simp only [hx.len, go_sem, hlt, texttoolslaw51_PipeOrders_J3_eq, hx.get hc, aload_vp3, astore_last3 H hz3 hs3, Nat.zero_add, aload_last, apart_1, List.getElem?_cons_zero]
    have hp1 : PAt (H ++ [AObj.cells [AV.int .i64 l[i].op, .str l[i].text, .int .i64 l[i].n]]) o sz p := hp.rep fun j y hy => get_push hy _
    by_cases h3 : l[i].op = 3
    · have hb : (l[i].op == 3) = true := by simp [h3]
      simp only [hb, go_sem, texttoolslaw51_PipeOrders_J4_eq, next64 (by omega : i ≤ 1000000)]
      exact ih (i + 1) _ p inn out closed ended (by omega) (by omega) hq hp1 ⟨hI.gone, hI.nw, hI.eq, hI.fin, by have := hI.small; omega⟩
    · have hb : (l[i].op == 3) = false := by simp [h3]
      simp only [hb, go_sem]
      rw [texttoolslaw51_PipeOrders_J5_eq]
      simp only [free_spec hp1 hs hq, go_sem, aload_last, apart_3]
      rw [show (AV.agg [.int .i64 l[i].op, .str l[i].text, .int .i64 l[i].n]) = l[i].av from rfl]
      obtain ⟨H1, d1, p1, f1⟩ := do_spec hp1 hs hq l[i]
      have hcell : H1[H.length]? = some (.cells [AV.int .i64 l[i].op, .str l[i].text, .int .i64 l[i].n]) := f1 _ _ (by have := hp.lt; omega) (get_last _ _)
      have hcell2 : ∀ c, (H1 ++ [AObj.cells c])[H.length]? = some (.cells [AV.int .i64 l[i].op, .str l[i].text, .int .i64 l[i].n]) := fun c => get_push hcell _
      have hz4 : List.length [AV.str [], .int .i64 0, .bool false, .int .i64 0] = 4 := rfl
      rw [d1]
      simp only [go_sem]
      rw [show astoreU 4 (.ptr H1.length 0) (stepR sz p l[i]).av (H1 ++ [.cells [AV.str [], .int .i64 0, .bool false, .int .i64 0]]) = some (.tuple [], H1 ++ [.cells (stepR sz p l[i]).av.cells]) from astore_last4 H1 rfl rfl]
      simp only [go_sem, Nat.zero_add, aload_ff (hcell2 _), List.getElem?_cons_zero]
      have hp2 : PAt (H1 ++ [AObj.cells (stepR sz p l[i]).av.cells]) o sz (stepP sz p l[i]) := p1.rep fun j y hy => get_push hy _
      have hq2 := step_len l[i] hs hq (by omega : 0 ≤ sz)
      obtain ⟨hn0, hn1, hn2⟩ := qn_bound (p := p) hs hq
      by_cases h0 : l[i].op = 0
      · have hb : (l[i].op == 0) = true := by simp [h0]
        simp only [hb, go_sem, Nat.zero_add, aload_last, apart_1]
        simp only [stepR, stepP, h0, if_true, Rs.av, AV.cells, List.getElem?_cons_zero, List.getElem?_cons_succ, hI.nw, hI.gone, Bool.or_false] at hp2 hq2 ⊢
        have hmin : min (l[i].text.length : Int) (qn sz p) = wn sz p l[i].text := rfl
        have c1 : (wn sz p l[i].text != wn sz p l[i].text) = false := by simp
        have hb0 : 0 ≤ wn sz p l[i].text := by unfold wn; omega
        have hb1 : wn sz p l[i].text ≤ l[i].text.length := by unfold wn; omega
        have hsm := hI.small
        cases closed with
        | true =>
          have c2 : (!(true == ((8 : Int) == 8))) = false := by decide
          simp only [if_true, go_sem, c2, Bool.not_true, texttoolslaw51_PipeOrders_J8_eq, Nat.zero_add, aload_ff (hcell2 _), List.getElem?_cons_zero, List.getElem?_cons_succ, aload_last, apart_1] at hp2 hq2 ⊢
          have hsl := asliceS_hi (s := l[i].text) (n := 0) .i64 (by omega) (by omega)
          have hadd := sbin_add (a := inn) (b := l[i].text.take (Int.toNat 0)) (by simp; omega)
          simp only [hsl, go_sem, hadd]
          have e : inn ++ l[i].text.take (Int.toNat 0) = inn := by simp
          rw [e]
          have hI2 : OInv ⟨p.q, true, false⟩ inn out true ended (i + 1) := ⟨rfl, rfl, hI.eq, hI.fin, by omega⟩
          rw [J6_ok (p := ⟨p.q, true, false⟩) hs hq2 H0 _ i (by omega) hp2 hI2 (by omega)]
          exact ih (i + 1) _ ⟨p.q, true, false⟩ inn out true ended (by omega) (by omega) hq2 hp2 hI2
        | false =>
          have c2 : (!(false == ((0 : Int) == 8))) = false := by decide
          simp only [Bool.false_eq_true, if_false, go_sem, c2, Bool.not_false, texttoolslaw51_PipeOrders_J8_eq, Nat.zero_add, aload_ff (hcell2 _), List.getElem?_cons_zero, List.getElem?_cons_succ, aload_last, apart_1, hmin, c1] at hp2 hq2 ⊢
          have hsl := asliceS_hi (s := l[i].text) .i64 hb0 hb1
          have hadd := sbin_add (a := inn) (b := l[i].text.take (wn sz p l[i].text).toNat) (by simp; omega)
          simp only [hsl, go_sem, hadd]
          have hend : ended = false := by
            cases he : ended with
            | false => rfl
            | true => have := (hI.fin he).1; cases this
          subst hend
          have hI2 : OInv ⟨p.q ++ l[i].text.take (wn sz p l[i].text).toNat, false, false⟩ (inn ++ l[i].text.take (wn sz p l[i].text).toNat) out false false (i + 1) :=
            ⟨rfl, rfl, by rw [hI.eq]; simp, by simp, by simp only [List.length_append, List.length_take]; omega⟩
          rw [J6_ok hs hq2 H0 _ i (by omega) hp2 hI2 (by omega)]
          exact ih (i + 1) _ _ _ out false false (by omega) (by omega) hq2 hp2 hI2
      · have hb : (l[i].op == 0) = false := by simp [h0]
        simp only [hb, go_sem]
        by_cases h1 : l[i].op = 1
        · have hb : (l[i].op == 1) = true := by simp [h1]
          have e10 : ((1 : Int) = 0) = False := by simp
          simp only [hb, go_sem, Nat.zero_add, aload_last, apart_1]
          simp only [stepR, stepP, h1, e10, if_true, if_false, Rs.av, AV.cells, List.getElem?_cons_zero, List.getElem?_cons_succ, hI.gone, Bool.false_eq_true] at hp2 hq2 ⊢
          have hr0 : 0 ≤ rn p l[i].n := by unfold rn; omega
          have hr1 : rn p l[i].n ≤ p.q.length := by unfold rn; omega
          have hr2 : rn p l[i].n ≤ max 0 l[i].n := by unfold rn; omega
          have hsm := hI.small
          have hle : inn.length = out.length + p.q.length := by rw [hI.eq]; simp
          have hadd := sbin_add (a := out) (b := p.q.take (rn p l[i].n).toNat) (by simp; omega)
          have c1 : decide (max 0 l[i].n < ((p.q.take (rn p l[i].n).toNat).length : Int)) = false := by
            simp only [List.length_take, decide_eq_false_iff_not, Int.not_lt]
            omega
          have c2 : ended = true → (!(p.q.take (rn p l[i].n).toNat == [])) = false := by
            intro he
            simp [(hI.fin he).2]
          simp only [hadd, go_sem, Nat.zero_add]
          have hI2 : OInv ⟨p.q.drop (rn p l[i].n).toNat, p.nw, false⟩ inn (out ++ p.q.take (rn p l[i].n).toNat) closed ((p.q.drop (rn p l[i].n).toNat == []) && p.nw) (i + 1) := by
            refine ⟨rfl, hI.nw, by rw [hI.eq]; simp, fun he => ?_, by omega⟩
            simp only [Bool.and_eq_true, beq_iff_eq] at he
            exact ⟨by rw [← hI.nw]; exact he.2, he.1⟩
          have hJ : texttoolslaw51_PipeOrders_J9 x (.ptr o 0) (.int .i64 sz) (.str inn) (.str (out ++ p.q.take (rn p l[i].n).toNat)) (.bool closed) (.int .i64 (i : Int)) (.ptr H1.length 0) H0
              (H1 ++ [AObj.cells [AV.str (p.q.take (rn p l[i].n).toNat), .int .i64 0, .bool ((p.q.drop (rn p l[i].n).toNat == []) && p.nw), .int .i64 0]]) =
              texttoolslaw51_PipeOrders_L1 x (.ptr o 0) (.int .i64 sz) (.str inn) (.str (out ++ p.q.take (rn p l[i].n).toNat)) (.bool closed) (.bool ((p.q.drop (rn p l[i].n).toNat == []) && p.nw)) (.int .i64 ((i + 1 : Nat) : Int)) H0
              (H1 ++ [AObj.cells [AV.str (p.q.take (rn p l[i].n).toNat), .int .i64 0, .bool ((p.q.drop (rn p l[i].n).toNat == []) && p.nw), .int .i64 0]]) := by
            rw [texttoolslaw51_PipeOrders_J9_eq]
            simp only [go_sem, Nat.zero_add, aload_last, apart_1, List.getElem?_cons_zero, List.getElem?_cons_succ]
            exact J6_ok hs hq2 H0 _ i (by omega) hp2 hI2 (by omega)
          cases ended with
          | true =>
            simp only [go_sem, aload_last, apart_1, List.getElem?_cons_zero, List.getElem?_cons_succ, c2 rfl, Nat.zero_add, aload_ff (hcell2 _), c1, hJ]
            exact ih (i + 1) _ _ _ _ closed _ (by omega) (by omega) hq2 hp2 hI2
          | false =>
            simp only [go_sem, aload_last, apart_1, List.getElem?_cons_zero, List.getElem?_cons_succ, Nat.zero_add, aload_ff (hcell2 _), c1, hJ]
            exact ih (i + 1) _ _ _ _ closed _ (by omega) (by omega) hq2 hp2 hI2
        · have hb : (l[i].op == 1) = false := by simp [h1]
          simp only [hb, go_sem]
          by_cases h2 : l[i].op = 2
          · have hb : (l[i].op == 2) = true := by simp [h2]
            have e20 : ((2 : Int) = 0) = False := by simp
            have e21 : ((2 : Int) = 1) = False := by simp
            simp only [hb, go_sem]
            simp only [stepR, stepP, h2, e20, e21, if_true, if_false, Rs.av, AV.cells] at hp2 hq2 ⊢
            have hI2 : OInv ⟨p.q, true, p.gone⟩ inn out true ended (i + 1) := ⟨hI.gone, rfl, hI.eq, fun he => ⟨rfl, (hI.fin he).2⟩, by have := hI.small; omega⟩
            rw [J6_ok (p := ⟨p.q, true, p.gone⟩) hs hq2 H0 _ i (by omega) hp2 hI2 (by omega)]
            exact ih (i + 1) _ ⟨p.q, true, p.gone⟩ inn out true ended (by omega) (by omega) hq2 hp2 hI2
          · have hb : (l[i].op == 2) = false := by simp [h2]
            simp only [hb, go_sem]
            simp only [stepR, stepP, h0, h1, h2, h3, if_false, Rs.av, AV.cells] at hp2 hq2 ⊢
            have hI2 : OInv p inn out closed ended (i + 1) := ⟨hI.gone, hI.nw, hI.eq, hI.fin, by have := hI.small; omega⟩
            rw [J6_ok hs hq2 H0 _ i (by omega) hp2 hI2 (by omega)]
            exact ih (i + 1) _ _ inn out closed ended (by omega) (by omega) hq2 hp2 hI2
theorem PipeOrders_law (n : Int) {x : AV} {l : List Ca} (hx : CArg x l) (H : Hp) : ∃ H', C_texttoolslaw51_PipeOrders [.int .i64 n, x] H = some (.bool true, H') := by
  rw [F_texttoolslaw51_PipeOrders_eq]
  unfold F_texttoolslaw51_PipeOrders
  obtain ⟨b, hb, hF⟩ := few_spec hx H
  simp only [hb, go_sem]
  cases b with
  | false =>
    obtain ⟨H', ha⟩ := awake_spec H
    simp only [Bool.not_false, go_sem, ha]
    exact ⟨H', rfl⟩
  | true =>
    obtain ⟨hr1, hr2⟩ := room_bound n
    obtain ⟨H1, e1, p1, f1⟩ := new_spec H n
    have hr : max 1 (min n 4096) = room n := by unfold room; omega
    simp only [Bool.not_true, go_sem, texttoolslaw51_PipeOrders_J1_eq, e1, hr]
    exact orders_loop hx (hF rfl) hr1 hr2 H _ 0 H1 ⟨[], false, false⟩ [] [] false false rfl (Nat.zero_le _) (by simp; omega) p1 ⟨rfl, rfl, rfl, by simp, by simp⟩
end Go.Am
