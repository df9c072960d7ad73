/-
  A string that is written and read in parts, over the abstract machine.
-/
import Derived.Test.YtgofohblppkjfaaPipeW
namespace Go.Am
open Go.Proofs
set_option linter.unusedSimpArgs false
set_option linter.unusedVariables false

theorem wrap_small {n : Int} (h1 : 0 ≤ n) (h2 : n ≤ 100000000) : IntKind.i64.wrap n = n := wrap64 (by omega) (by omega)
/-- What was read is a beginning, what is in the queue follows it. -/
structure FInv (s : List UInt8) (sz : Int) (at_ : Nat) (out : List UInt8) (p : PS) : Prop where
  nw : p.nw = false
  gone : p.gone = false
  eq : out ++ p.q = s.take at_
  le : at_ ≤ s.length
  room : (p.q.length : Int) < sz

theorem flows_loop {s : List UInt8} (h600 : s.length ≤ 600) {part : Int} (hp0 : 0 ≤ part) (hp1 : part ≤ 255) {o : Nat} {sz : Int} (h0 : 1 ≤ sz) (hs : sz ≤ 4096) (H0 : Hp) : ∀ (k i at_ : Nat) (H : Hp) (p : PS) (out : List UInt8),
    s.length + 1 - out.length = k → i ≤ out.length → (out.length < s.length ∨ i = 0) → PAt H o sz p → FInv s sz at_ out p →
    ∃ H', texttoolslaw51_PipeFlows_L1 (.int .u8 part) (.str s) (.ptr o 0) (.str out) (.int .i64 (at_ : Int)) (.int .i64 (i : Int)) H0 H = some (.bool true, H') := by
  intro k
  induction k using Nat.strongRecOn with
  | _ k ih =>
    intro i at_ H p out hk hi hout hp hI
    have hlen : out.length + p.q.length = at_ := by
      have := congrArg List.length hI.eq
      simp only [List.length_append, List.length_take] at this
      have := hI.le
      omega
    have hle := hI.le
    have hroom := hI.room
    rw [texttoolslaw51_PipeFlows_L1_eq]
    have w1 : IntKind.i64.wrap (2 * (s.length : Int)) = 2 * s.length := wrap_small (by omega) (by omega)
    have w2 : IntKind.i64.wrap (2 * (s.length : Int) + 4) = 2 * s.length + 4 := wrap_small (by omega) (by omega)
    have hlt : decide ((i : Int) < 2 * (s.length : Int) + 4) = true := by simp; omega
    simp only [go_sem, w1, w2, hlt, texttoolslaw51_PipeFlows_J3_eq]
    have hsl := asliceS_lo (s := s) (n := (at_ : Int)) .i64 (by omega) (by omega)
    have hat : ((at_ : Int)).toNat = at_ := by omega
    rw [hat] at hsl
    obtain ⟨H1, e1, p1, f1⟩ := write_spec hp hs (by omega) (s.drop at_)
    simp only [hI.nw, hI.gone, Bool.or_self, Bool.false_eq_true, if_false] at e1 p1
    have hq : qn sz p = sz - p.q.length := by simp [qn, hI.nw, hI.gone]
    have hwn : wn sz p (s.drop at_) = min ((s.length - at_ : Nat) : Int) (sz - p.q.length) := by unfold wn; rw [hq, List.length_drop]
    have hw0 : 0 ≤ wn sz p (s.drop at_) := by omega
    have hw1 : wn sz p (s.drop at_) ≤ (s.length - at_ : Nat) := by omega
    have hw2 : (p.q.length : Int) + wn sz p (s.drop at_) ≤ sz := by omega
    have hw3 : at_ < s.length → 1 ≤ wn sz p (s.drop at_) := by intro h; omega
    generalize wn sz p (s.drop at_) = n at *
    clear hwn
    have c0 : ((0 : Int) != 0) = false := by decide
    simp only [hsl, go_sem, e1, List.getElem?_cons_zero, List.getElem?_cons_succ, c0, texttoolslaw51_PipeFlows_J5_eq]
    have w3 : IntKind.i64.wrap ((at_ : Int) + n) = (at_ : Int) + n := wrap_small (by omega) (by omega)
    have hcv : cvInt .i64 (.int .u8 part) = some (.int .i64 part) := by
      simp only [cvInt]; rw [wrap_small hp0 (by omega)]
    have w4 : IntKind.i64.wrap (1 + part) = 1 + part := wrap_small (by omega) (by omega)
    obtain ⟨H2, e2, p2, f2⟩ := read_spec p1 (1 + part)
    simp only [Bool.false_eq_true, if_false, Bool.and_false] at e2 p2
    have hrn : rn ⟨p.q ++ (s.drop at_).take n.toNat, false, false⟩ (1 + part) = min (max (1 + part) 0) ((p.q ++ (s.drop at_).take n.toNat).length : Int) := rfl
    have hlq : (p.q ++ (s.drop at_).take n.toNat).length = p.q.length + n.toNat := by simp; omega
    rw [hlq] at hrn
    generalize rn ⟨p.q ++ (s.drop at_).take n.toNat, false, false⟩ (1 + part) = m at *
    have hm0 : 0 ≤ m := by omega
    have hm1 : m ≤ (p.q.length + n.toNat : Nat) := by omega
    have hm2 : 0 < p.q.length + n.toNat → 1 ≤ m := by intro h; omega
    have hadd := sbin_add (a := out) (b := (p.q ++ (s.drop at_).take n.toNat).take m.toNat) (by simp; omega)
    -- what is so afterwards
    have hnat : (at_ : Int) + n = ((at_ + n.toNat : Nat) : Int) := by omega
    have hI2 : FInv s sz (at_ + n.toNat) (out ++ (p.q ++ (s.drop at_).take n.toNat).take m.toNat) ⟨(p.q ++ (s.drop at_).take n.toNat).drop m.toNat, false, false⟩ := by
      refine ⟨rfl, rfl, ?_, by omega, ?_⟩
      · simp only [List.append_assoc, List.take_append_drop]
        rw [← List.append_assoc, hI.eq, ← List.take_add]
      · simp only [List.length_drop, hlq]
        omega
    have hl2 : (out ++ (p.q ++ (s.drop at_).take n.toNat).take m.toNat).length = out.length + m.toNat := by
      simp only [List.length_append, List.length_take, List.length_drop]
      omega
    simp only [w3, go_sem, hcv, w4, e2, List.getElem?_cons_zero, List.getElem?_cons_succ, hadd, texttoolslaw51_PipeFlows_J6_eq]
    generalize hout2 : out ++ (p.q ++ (s.drop at_).take n.toNat).take m.toNat = out2 at *
    generalize hq2 : (p.q ++ (s.drop at_).take n.toNat).drop m.toNat = q2 at *
    have hlen2 : out2.length + q2.length = at_ + n.toNat := by
      have := congrArg List.length hI2.eq
      simp only [List.length_append, List.length_take] at this
      have := hI2.le
      omega
    have hgo : out2.length < s.length → ∃ H', texttoolslaw51_PipeFlows_J4 (.int .u8 part) (.str s) (.ptr o 0) (.str out2) (.int .i64 ((at_ : Int) + n)) (.int .i64 (i : Int)) H0 H2 = some (.bool true, H') := by
      intro hne
      rw [texttoolslaw51_PipeFlows_J4_eq]
      simp only [go_sem, next64 (by omega : i ≤ 1000000), hnat]
      have hgrow : 1 ≤ m := hm2 (by
        by_cases h : at_ < s.length
        · have := hw3 h; omega
        · omega)
      exact ih (s.length + 1 - out2.length) (by omega) (i + 1) (at_ + n.toNat) H2 _ out2 rfl (by omega) (.inl hne) p2 hI2
    by_cases hfull : at_ + n.toNat = s.length
    · have c1 : ((at_ : Int) + n == (s.length : Int)) = true := by simp; omega
      simp only [c1, go_sem]
      by_cases heq : out2 = s
      · have c2 : (out2 == s) = true := by simp [heq]
        simp only [c2, go_sem]
        obtain ⟨H3, e3, p3, f3⟩ := closeWriter_spec p2
        obtain ⟨H4, e4, p4, f4⟩ := read_spec p3 1
        have hqe : q2 = [] := by
          have : q2.length = 0 := by rw [heq] at hlen2; omega
          exact List.length_eq_zero_iff.1 this
        subst hqe
        obtain ⟨H5, e5⟩ := awake_spec H4
        have c3 : (([] : List UInt8) == []) = true := by decide
        simp only [Bool.false_eq_true, if_false, List.take_nil, List.drop_nil, c3, Bool.and_true] at e4
        simp only [e3, go_sem, e4, List.getElem?_cons_zero, List.getElem?_cons_succ, c3, e5]
        exact ⟨H5, rfl⟩
      · have c2 : (out2 == s) = false := by simp [heq]
        simp only [c2, go_sem]
        refine hgo ?_
        rcases Nat.lt_or_ge out2.length s.length with h | h
        · exact h
        · exfalso
          have hqe : q2 = [] := List.length_eq_zero_iff.1 (by omega)
          have := hI2.eq
          rw [hqe, List.append_nil, hfull, List.take_length] at this
          exact heq this
    · have c1 : ((at_ : Int) + n == (s.length : Int)) = false := by simp; omega
      simp only [c1, go_sem]
      exact hgo (by omega)
theorem PipeFlows_law {size part : Int} (hs0 : 0 ≤ size) (hs1 : size ≤ 255) (hp0 : 0 ≤ part) (hp1 : part ≤ 255) (s : List UInt8) (H : Hp) : ∃ H', C_texttoolslaw51_PipeFlows [.int .u8 size, .int .u8 part, .str s] H = some (.bool true, H') := by
  rw [F_texttoolslaw51_PipeFlows_eq]
  unfold F_texttoolslaw51_PipeFlows
  by_cases h : 600 < s.length
  · have c : decide ((600 : Int) < (s.length : Int)) = true := by simp; omega
    obtain ⟨H', ha⟩ := awake_spec H
    simp only [go_sem, c, ha]
    exact ⟨H', rfl⟩
  · have c : decide ((600 : Int) < (s.length : Int)) = false := by simp; omega
    have hcv : cvInt .i64 (.int .u8 size) = some (.int .i64 size) := by
      simp only [cvInt]; rw [wrap_small hs0 (by omega)]
    obtain ⟨hr1, hr2⟩ := room_bound size
    obtain ⟨H1, e1, p1, f1⟩ := new_spec H size
    simp only [go_sem, c, texttoolslaw51_PipeFlows_J1_eq, hcv, e1]
    exact flows_loop (by omega) hp0 hp1 hr1 hr2 H _ 0 0 H1 ⟨[], false, false⟩ [] rfl (Nat.le_refl _) (.inr rfl) p1 ⟨rfl, rfl, by simp, Nat.zero_le _, by simp; omega⟩
end Go.Am
