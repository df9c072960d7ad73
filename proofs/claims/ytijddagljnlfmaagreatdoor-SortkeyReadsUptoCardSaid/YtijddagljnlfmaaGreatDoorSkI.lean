/-
  Arguments, as sortkey.Parse reads them.
-/
import Derived.Test.YtijddagljnlfmaaGreatDoorSkH
namespace Go.Am
open Go.Proofs
set_option linter.unusedSimpArgs false
set_option linter.unusedVariables false

theorem astore5 {H : Hp} {o : Nat} {a b c d e a' b' c' d' e' : AV} (h : H[o]? = some (.cells [a, b, c, d, e])) : astoreU 5 (.ptr o 0) (.agg [a', b', c', d', e']) H = some (.tuple [], H.set o (.cells [a', b', c', d', e'])) := by
  rw [astore_of (sz := 5) (v := .agg [a', b', c', d', e']) h rfl rfl (by simp)]
  simp [AV.cells, splice]
theorem aload5 {H : Hp} {o : Nat} {a b c d e : AV} (h : H[o]? = some (.cells [a, b, c, d, e])) : aload true 5 (.ptr o 0) H = some (.agg [a, b, c, d, e]) := by
  rw [aload_of h]
  simp [Go.Am.apart]
theorem fill5 (a b c d e : Int) : (afill [(0, 1, .int .i64 a), (1, 1, .int .i64 b), (2, 1, .int .i64 c), (3, 1, .int .i64 d), (4, 1, .int .i64 e)] [.int .i64 0, .int .i64 0, .int .i64 0, .int .i64 0, .int .i64 0]).map AV.agg = some (.agg [.int .i64 a, .int .i64 b, .int .i64 c, .int .i64 d, .int .i64 e]) := by
  simp [afill, AV.known, AV.cells, splice]
def keNil : Ke := ⟨0, 0, 0, 0, 0⟩
def keyB (a b : Pl) (second : Bool) : Ke × Int :=
  if a.big || (b.big || (decide (a.field < 1) || (decide ((if a.pt then a.chr else 1) < 1) || (second && decide (b.field < 1))))) then (keNil, 2)
  else (⟨a.field, (if a.pt then a.chr else 1), b.field, b.chr, ((a.fl ||| b.fl : Nat) : Int)⟩, 0)
def keyA (a b : Pl) (r : List UInt8) (ok second : Bool) : Ke × Int := if ok && (r == []) then keyB a b second else (keNil, 1)
def keyU (a : Pl) : Pl × List UInt8 × Bool → Ke × Int
  | (b, r, ok) => keyA a b r ok true
def keyT : Pl × List UInt8 × Bool → Ke × Int
  | (a, r, ok) => if ok && (r.head? == some 44) then keyU a (readS r.tail) else keyA a pl0 r ok false
def keyP (s : List UInt8) : Ke × Int := keyT (readS s)
def K0 (x : Ke) (a b : Pl) : Hp := [.cells x.cells, .cells a.cells, .cells b.cells]
theorem keyJ3 (a b : Pl) (ha : a.fl < 32) (hb : b.fl < 32) (second : Bool) : ∃ H', sortkey_key_J3 (.ptr 0 0) (.ptr 1 0) (.ptr 2 0) (.bool second) [] (K0 keNil { a with chr := if a.pt then a.chr else 1 } b) =
    some (.tuple [.agg (keyB a b second).1.cells, .int .i64 (keyB a b second).2], H') := by
  rw [sortkey_key_J3_eq]
  generalize hc : (if a.pt then a.chr else 1) = ch
  have h0 : (K0 keNil { a with chr := ch } b)[0]? = some (.cells [.int .i64 0, .int .i64 0, .int .i64 0, .int .i64 0, .int .i64 0]) := rfl
  have h1 : (K0 keNil { a with chr := ch } b)[1]? = some (.cells [.int .i64 a.field, .int .i64 ch, .int .i64 a.fl, .bool a.pt, .bool a.big]) := rfl
  have h2 : (K0 keNil { a with chr := ch } b)[2]? = some (.cells [.int .i64 b.field, .int .i64 b.chr, .int .i64 b.fl, .bool b.pt, .bool b.big]) := rfl
  generalize K0 keNil { a with chr := ch } b = H at h0 h1 h2 ⊢
  have hs : ∀ l, (H.set 0 (.cells l))[0]? = some (.cells l) := fun l => get_set_self h0
  unfold keyB
  rw [hc]
  have bad : (∃ H', (bnd (some (AV.agg [.int .i64 0, .int .i64 0, .int .i64 0, .int .i64 0, .int .i64 0])) fun t80_63 => bnd (astoreU 5 (.ptr 0 0) t80_63 H) fun r_64 => bnd (aload true 5 (.ptr 0 0) r_64.2) fun v2_65 => some (AV.tuple [v2_65, .int .i64 2], r_64.2)) =
      some (.tuple [.agg keNil.cells, .int .i64 2], H')) := by
    simp only [go_sem, astore5 h0, aload5 (hs _)]
    exact ⟨_, rfl⟩
  simp only [go_sem, Nat.zero_add, aload_f1 h1, List.getElem?_cons_zero, List.getElem?_cons_succ]
  cases e1 : a.big with
  | true => simp only [go_sem, Bool.true_or, if_true] at bad ⊢; exact bad
  | false =>
  simp only [go_sem, Nat.zero_add, aload_f1 h2, Bool.false_or, List.getElem?_cons_zero, List.getElem?_cons_succ]
  cases e2 : b.big with
  | true => simp only [go_sem, Bool.true_or, if_true] at bad ⊢; exact bad
  | false =>
  simp only [go_sem, Nat.zero_add, aload_f1 h1, Bool.false_or, List.getElem?_cons_zero, List.getElem?_cons_succ]
  cases e3 : decide (a.field < 1) with
  | true => simp only [go_sem, Bool.true_or, if_true] at bad ⊢; exact bad
  | false =>
  simp only [go_sem, Nat.zero_add, aload_f1 h1, Bool.false_or, List.getElem?_cons_zero, List.getElem?_cons_succ]
  cases e4 : decide (ch < 1) with
  | true => simp only [go_sem, Bool.true_or, if_true] at bad ⊢; exact bad
  | false =>
  have good : ∃ H', sortkey_key_J4 (.ptr 0 0) (.ptr 1 0) (.ptr 2 0) [] H = some (.tuple [.agg [.int .i64 a.field, .int .i64 ch, .int .i64 b.field, .int .i64 b.chr, .int .i64 ((a.fl ||| b.fl : Nat) : Int)], .int .i64 0], H') := by
    rw [sortkey_key_J4_eq]
    simp only [go_sem, Nat.zero_add, aload_f1 h1, aload_f1 h2, List.getElem?_cons_zero, List.getElem?_cons_succ, (or_ok ha hb).1, fill5, astore5 h0, aload5 (hs _)]
    exact ⟨_, rfl⟩
  cases second with
  | false =>
    simp only [go_sem, Bool.false_or, Bool.false_and, Bool.false_eq_true, if_false]
    exact good
  | true =>
    simp only [go_sem, Nat.zero_add, aload_f1 h2, Bool.false_or, Bool.true_and, List.getElem?_cons_zero, List.getElem?_cons_succ]
    cases e5 : decide (b.field < 1) with
    | true => simp only [go_sem, if_true] at bad ⊢; exact bad
    | false => simp only [go_sem, Bool.false_eq_true, if_false]; exact good
theorem keyJ1 (a b : Pl) (ha : a.fl < 32) (hb : b.fl < 32) (r : List UInt8) (ok second : Bool) : ∃ H', sortkey_key_J1 (.str r) (.ptr 0 0) (.ptr 1 0) (.ptr 2 0) (.bool ok) (.bool second) [] (K0 keNil a b) =
    some (.tuple [.agg (keyA a b r ok second).1.cells, .int .i64 (keyA a b r ok second).2], H') := by
  rw [sortkey_key_J1_eq]
  have h0 : (K0 keNil a b)[0]? = some (.cells [.int .i64 0, .int .i64 0, .int .i64 0, .int .i64 0, .int .i64 0]) := rfl
  have hs : ∀ l, ((K0 keNil a b).set 0 (.cells l))[0]? = some (.cells l) := fun l => get_set_self h0
  have h1 : (K0 keNil a b)[1]? = some (.cells [.int .i64 a.field, .int .i64 a.chr, .int .i64 a.fl, .bool a.pt, .bool a.big]) := rfl
  unfold keyA
  have good : ∃ H', sortkey_key_J2 (.ptr 0 0) (.ptr 1 0) (.ptr 2 0) (.bool second) [] (K0 keNil a b) = some (.tuple [.agg (keyB a b second).1.cells, .int .i64 (keyB a b second).2], H') := by
    rw [sortkey_key_J2_eq]
    have j3 := keyJ3 a b ha hb second
    simp only [go_sem, Nat.zero_add, aload_f1 h1, List.getElem?_cons_zero, List.getElem?_cons_succ]
    cases ep : a.pt with
    | true =>
      have hcond : (if a.pt = true then a.chr else 1) = a.chr := by rw [ep]; rfl
      rw [hcond, show ({ a with chr := a.chr } : Pl) = a from rfl] at j3
      simp only [go_sem, Bool.not_true]
      exact j3
    | false =>
      have hcond : (if a.pt = true then a.chr else 1) = 1 := by rw [ep]; rfl
      rw [hcond] at j3
      simp only [go_sem, Bool.not_false]
      rw [astore1 h1 rfl rfl (by simp)]
      simp only [go_sem]
      have : (K0 keNil a b).set 1 (.cells ([AV.int .i64 a.field, .int .i64 a.chr, .int .i64 a.fl, .bool a.pt, .bool a.big].set 1 (.int .i64 1))) = K0 keNil { a with chr := 1 } b := rfl
      rw [this]
      exact j3
  cases ok with
  | false =>
    simp only [go_sem, Bool.not_false, astore5 h0, aload5 (hs _), Bool.false_and, Bool.false_eq_true, if_false]
    exact ⟨_, rfl⟩
  | true =>
    simp only [go_sem, Bool.not_true, Bool.true_and]
    cases er : (r == []) with
    | false =>
      simp only [go_sem, Bool.not_false, astore5 h0, aload5 (hs _), Bool.false_eq_true, if_false]
      exact ⟨_, rfl⟩
    | true =>
      simp only [go_sem, Bool.not_true, if_true]
      exact good
theorem readS_facts (s : List UInt8) : (readS s).1.fl < 32 ∧ (readS s).2.1.length ≤ s.length := by
  have hl := numberS_len s
  unfold readS
  rcases ha : numberS s with ⟨n, r, ok, big⟩
  rw [ha] at hl
  simp only at hl
  simp only [readT]
  split
  · have hl2 := numberS_len r.tail
    rcases hb : numberS r.tail with ⟨n2, r2, ok2, big2⟩
    rw [hb] at hl2
    simp only at hl2
    simp only [List.length_tail] at hl2
    simp only [readU]
    split
    · have := flagsS_len r2 0
      exact ⟨flagsS_lt _ _ (by decide), by simp only; omega⟩
    · exact ⟨by simp, by simp only; omega⟩
  · split
    · have := flagsS_len r 0
      exact ⟨flagsS_lt _ _ (by decide), by simp only; omega⟩
    · exact ⟨by simp, by simp only; omega⟩
theorem key_run {s : List UInt8} (hs : s.length ≤ 1048576) : ∃ H', C_sortkey_key [.str s] [] = some (.tuple [.agg (keyP s).1.cells, .int .i64 (keyP s).2], H') := by
  rw [F_sortkey_key_eq]
  unfold F_sortkey_key keyP
  obtain ⟨f1, f2⟩ := readS_facts s
  have hb1 : ∀ H : Hp, abox (.agg [.int .i64 0, .int .i64 0, .int .i64 0, .bool false, .bool false]) H = some (.ptr H.length 0, H ++ [.cells pl0.cells]) := fun H => abox_of rfl
  have hr := read_spec hs (H := K0 keNil pl0 pl0) (o := 1) rfl
  rcases ha : readS s with ⟨a, r, ok⟩
  rw [ha] at hr f1 f2
  simp only at f1 f2
  have e1 : (K0 keNil pl0 pl0).set 1 (.cells a.cells) = K0 keNil a pl0 := rfl
  simp only [e1] at hr
  have hK : ([AObj.cells [AV.int .i64 0, .int .i64 0, .int .i64 0, .int .i64 0, .int .i64 0]] ++ [AObj.cells pl0.cells] ++ [AObj.cells pl0.cells] : Hp) = K0 keNil pl0 pl0 := rfl
  simp only [bnd_some, List.length_nil, List.nil_append, hb1, List.length_append, List.length_cons, Nat.zero_add, hK, Nat.reduceAdd]
  simp only [hr, go_sem, List.getElem?_cons_zero, List.getElem?_cons_succ, keyT]
  cases ok with
  | false =>
    simp only [go_sem, Bool.false_and, Bool.false_eq_true, if_false]
    exact keyJ1 a pl0 f1 (by decide) r false false
  | true =>
    simp only [go_sem, prefix1 r 44 _ (by omega), Bool.true_and]
    cases hh : (r.head? == some 44) with
    | false =>
      simp only [go_sem, Bool.false_eq_true, if_false]
      exact keyJ1 a pl0 f1 (by decide) r true false
    | true =>
      have he : r.head? = some 44 := by simpa using hh
      obtain ⟨r', rfl⟩ : ∃ r', r = 44 :: r' := by
        cases r with
        | nil => simp at he
        | cons x r' => simp at he; exact ⟨r', by rw [he]⟩
      have hsl := asliceS_lo (s := 44 :: r') (n := (1 : Int)) .i64 (by omega) (by simp only [List.length_cons]; omega)
      rw [show ((1 : Int)).toNat = 1 from rfl, List.drop_one, List.tail_cons] at hsl
      have hr2 := read_spec (s := r') (by simp at f2; omega) (H := K0 keNil a pl0) (o := 2) rfl
      obtain ⟨g1, g2⟩ := readS_facts r'
      rcases hb : readS r' with ⟨b, r2, ok2⟩
      rw [hb] at hr2 g1 g2
      simp only at g1
      have e2 : (K0 keNil a pl0).set 2 (.cells b.cells) = K0 keNil a b := rfl
      simp only [e2] at hr2
      simp only [go_sem, hsl, hr2, List.getElem?_cons_zero, List.getElem?_cons_succ, if_true, List.tail_cons, hb, keyU]
      exact keyJ1 a b f1 g1 r2 ok2 true
theorem key_ok {s : List UInt8} (hs : s.length ≤ 1048576) (H : Hp) : flatC C_sortkey_key [.str s] H = some (.tuple [.agg (keyP s).1.cells, .int .i64 (keyP s).2], H) := by
  obtain ⟨H', h⟩ := key_run hs
  exact flat1 (a' := .str s) rfl h rfl
/-- A key that is read is a good one. -/
theorem numberS_nn (s : List UInt8) : 0 ≤ (numberS s).1 ∧ (numberS s).1 ≤ 9223372036854775807 := by
  have := numP_fst (s.take (digN s))
  unfold numberS
  split <;> simp only <;> omega
theorem readS_nn (s : List UInt8) : (0 ≤ (readS s).1.field ∧ (readS s).1.field ≤ 9223372036854775807) ∧ 0 ≤ (readS s).1.chr ∧ (readS s).1.chr ≤ 9223372036854775807 := by
  have h1 := numberS_nn s
  unfold readS
  rcases ha : numberS s with ⟨n, r, ok, big⟩
  rw [ha] at h1
  simp only at h1
  simp only [readT]
  split
  · have h2 := numberS_nn r.tail
    rcases hb : numberS r.tail with ⟨n2, r2, ok2, big2⟩
    rw [hb] at h2
    simp only at h2
    simp only [readU]
    split <;> exact ⟨h1, h2⟩
  · split <;> exact ⟨h1, by simp only; omega⟩
theorem keyB_good {a b : Pl} {second : Bool} (ha : a.fl < 32) (hb : b.fl < 32) (a1 : a.field ≤ 9223372036854775807) (a2 : 0 ≤ a.chr ∧ a.chr ≤ 9223372036854775807) (b1 : 0 ≤ b.field ∧ b.field ≤ 9223372036854775807) (b2 : 0 ≤ b.chr ∧ b.chr ≤ 9223372036854775807)
    (hb0 : second = false → b.chr = 0) (h : (keyB a b second).2 = 0) : keyBad (keyB a b second).1 = false ∧ KeOk (keyB a b second).1 := by
  unfold keyB at h ⊢
  by_cases hn : (a.big || (b.big || (decide (a.field < 1) || (decide ((if a.pt then a.chr else 1) < 1) || (second && decide (b.field < 1)))))) = true
  · rw [if_pos hn] at h
    cases h
  · rw [if_neg hn]
    simp only [Bool.or_eq_true, decide_eq_true_eq, not_or, Bool.and_eq_true, not_and] at hn
    obtain ⟨n1, n2, n3, n4, n5⟩ := hn
    have hor := (or_ok ha hb).2
    constructor
    · unfold keyBad
      simp only [Bool.or_eq_false_iff, decide_eq_false_iff_not, Bool.and_eq_false_iff]
      refine ⟨by omega, by omega, by omega, by omega, ?_, by omega, by omega⟩
      cases second with
      | true => exact .inl (by have := n5 rfl; simp; omega)
      | false => exact .inr (by simp [hb0 rfl])
    · refine ⟨by simp only; omega, ?_, by simp only; omega, by simp only; omega⟩
      simp only
      split <;> omega
theorem keyP_good {s : List UInt8} (h : (keyP s).2 = 0) : keyBad (keyP s).1 = false ∧ KeOk (keyP s).1 := by
  unfold keyP at h ⊢
  obtain ⟨f1, _⟩ := readS_facts s
  obtain ⟨f2, f3⟩ := readS_nn s
  rcases ha : readS s with ⟨a, r, ok⟩
  rw [ha] at h f1 f2 f3
  simp only at f1 f2 f3
  simp only [keyT] at h ⊢
  split
  · rename_i hc
    rw [if_pos hc] at h
    obtain ⟨g1, _⟩ := readS_facts r.tail
    obtain ⟨g2, g3⟩ := readS_nn r.tail
    rcases hb : readS r.tail with ⟨b, r2, ok2⟩
    rw [hb] at h g1 g2 g3
    simp only at g1 g2 g3
    simp only [keyU, keyA] at h ⊢
    split
    · rename_i hd
      rw [if_pos hd] at h
      exact keyB_good f1 g1 f2.2 f3 g2 g3 (fun e => by cases e) h
    · rename_i hd
      rw [if_neg hd] at h
      cases h
  · rename_i hc
    rw [if_neg hc] at h
    simp only [keyA] at h ⊢
    split
    · rename_i hd
      rw [if_pos hd] at h
      exact keyB_good f1 (by decide) f2.2 f3 (by decide) (by decide) (fun _ => rfl) h
    · rename_i hd
      rw [if_neg hd] at h
      cases h
end Go.Am
