/-
  The statement on reading: what Parse hands back is valid, and the operands are the last arguments.
-/
import Derived.Test.YtijddagljnlfmaaGreatDoorSkN
namespace Go.Am
open Go.Proofs
set_option linter.unusedSimpArgs false
set_option linter.unusedVariables false

structure RsG (st : Rs) : Prop where
  keys : st.keys.length ≤ 8
  good : ∀ k ∈ st.keys, keyBad k = false ∧ KeOk k
  sep : -1 ≤ st.sep ∧ st.sep ≤ 255 ∧ st.sep ≠ 10
  flags : st.flags < 32
theorem parseL_ok {args : List (List UInt8)} : ∀ (f : Nat) (st : Rs), RsG st → st.at_ ≤ args.length → RsG (parseL args f st).1 ∧ ((parseL args f st).2 = 0 → (parseL args f st).1.at_ ≤ args.length) ∧ ((parseL args f st).2 ≠ 0 → (parseL args f st).1.at_ < args.length) := by
  intro f
  induction f with
  | zero => intro st h hat; exact ⟨h, fun _ => hat, fun h => absurd rfl h⟩
  | succ f ih =>
    intro st h hat
    simp only [parseL]
    rcases hs : args[st.at_]? with _ | s
    · exact ⟨h, fun _ => hat, fun h => absurd rfl h⟩
    · have hlt := lt_of_get hs
      simp only
      split
      · exact ⟨⟨h.keys, h.good, h.sep, h.flags⟩, fun _ => hlt, fun h => absurd rfl h⟩
      · split
        · rename_i y b r _
          split
          · have h2 := optS_ok (args := args) (b :: r) st ⟨h.keys, h.good, h.sep, h.flags, hlt⟩
            split
            · rename_i he
              exact ⟨⟨h2.keys, h2.good, h2.sep, h2.flags⟩, fun e => absurd e he, fun _ => h2.at_⟩
            · exact ih _ ⟨h2.keys, h2.good, h2.sep, h2.flags⟩ h2.at_
          · exact ⟨h, fun _ => hat, fun h => absurd rfl h⟩
        · exact ⟨h, fun _ => hat, fun h => absurd rfl h⟩
theorem rsg0 : RsG rs0 := ⟨by simp [rs0], by simp [rs0], by decide, by decide⟩
theorem spec_zero {st : Rs} (h : RsG st) : checkS st.spec = 0 := by
  have h1 := h.keys
  have h2 := h.sep
  have h3 := h.flags
  unfold checkS Rs.spec
  simp only
  rw [if_neg (by omega)]
  have c : (decide (st.sep < -1) || (decide (255 < st.sep) || (st.sep == 10 || (decide ((st.flags : Int) < 0) || decide (31 < (st.flags : Int)))))) = false := by
    simp only [Bool.or_eq_false_iff, decide_eq_false_iff_not, beq_eq_false_iff_ne]
    omega
  rw [c]
  simp only [Bool.false_eq_true, if_false]
  rw [if_neg]
  intro ha
  obtain ⟨k, hk, hb⟩ := List.any_eq_true.1 ha
  rw [(h.good k hk).1] at hb
  cases hb
theorem parseS_facts (args : List (List UInt8)) : ((parseS args).2.2.1 = 0 → checkS (parseS args).1 = 0 ∧ (parseS args).2.2.2 = 0 ∧ ∃ k, k ≤ args.length ∧ (parseS args).2.1 = args.drop k) ∧
    ((parseS args).2.2.1 ≠ 0 → (parseS args).2.2.2 < args.length ∧ (parseS args).2.1 = []) := by
  obtain ⟨h1, h2, h3⟩ := parseL_ok (args := args) (args.length + 1) rs0 rsg0 (Nat.zero_le _)
  unfold parseS
  simp only
  by_cases hz : (parseL args (args.length + 1) rs0).2 = 0
  · simp only [if_pos hz]
    exact ⟨fun _ => ⟨spec_zero h1, trivial, _, h2 hz, rfl⟩, fun h => absurd rfl h⟩
  · simp only [if_neg hz]
    exact ⟨fun h => absurd h hz, fun _ => ⟨h3 hz, trivial⟩⟩
theorem Reads_law {args : List (List UInt8)} {ax : AV} (hax : Sl 1 ax (args.map AV.str)) (hb : args.length ≤ 2000000) (hall : ∀ s ∈ args, s.length ≤ 1048576) (H : Hp) (awake : ∀ H, flatC C_texttoolslaw20_awake [] H = some (.bool true, H)) :
    ∃ H', C_texttoolslaw20_SortkeyReads [ax] H = some (.bool true, H') := by
  rw [F_texttoolslaw20_SortkeyReads_eq]
  unfold F_texttoolslaw20_SortkeyReads
  obtain ⟨v, x, H1, q1, q2, q3, _⟩ := parse_spec hax hb hall H
  obtain ⟨f1, f2⟩ := parseS_facts args
  generalize parseS args = q at q1 q2 q3 f1 f2
  obtain ⟨p, rest, e, n⟩ := q
  simp only at q1 q2 q3 f1 f2
  have hck := check_flat q2
  obtain ⟨kx, rfl, hkx⟩ := q2
  have hg := get_last H1 (.cells [.nils, .int .i64 0, .int .i64 0, .bool false, .bool false])
  simp only [Spec.cells] at q1 hck
  simp only [q1, go_sem, List.getElem?_cons_zero, List.getElem?_cons_succ, astore5 hg, set_push]
  by_cases he : e = 0
  · obtain ⟨z1, z2, k, z3, z4⟩ := f1 he
    subst z2
    have c : (e != 0) = false := by simpa using he
    have hrl : rest.length = args.length - k := by rw [z4, List.length_drop]
    have hw : IntKind.i64.wrap ((args.length : Int) - (rest.length : Int)) = ((k : Nat) : Int) := by rw [wrap64 (by omega) (by omega)]; omega
    have c0 : ((((0 : Nat) : Int)) == 0) = true := rfl
    have c1 : (checkS p == 0) = true := by simpa using z1
    have c2 : decide ((0 : Int) ≤ (k : Int)) = true := by simp
    obtain ⟨y, s1, s2, _⟩ := hax.from (n := k) (by simpa using z3)
    rw [← List.map_drop, ← z4] at s2
    have c3 : (rest == rest) = true := by simp
    simp only [c, go_sem, texttoolslaw20_SortkeyReads_J1_eq, hax.strlen, q3.strlen, hw, c0, aload_last5, hck, c1, c2, s1, same_ok q3 s2 (by omega), c3, awake]
    exact ⟨_, rfl⟩
  · obtain ⟨z1, z2⟩ := f2 he
    have c : (e != 0) = true := by simpa using he
    have c1 : decide ((0 : Int) ≤ (n : Int)) = true := by simp
    have c2 : decide ((n : Int) < (args.length : Int)) = true := by simp; omega
    have c3 : (((rest.length : Nat) : Int) == 0) = true := by rw [z2]; rfl
    simp only [c, go_sem, c1, hax.strlen, q3.strlen, c2, c3, awake]
    exact ⟨_, rfl⟩
end Go.Am
