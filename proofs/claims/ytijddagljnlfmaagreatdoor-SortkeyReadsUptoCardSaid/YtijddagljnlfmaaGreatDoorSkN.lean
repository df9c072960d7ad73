/-
  sortkey.Parse as a whole; the statement on reading.
-/
import Derived.Test.YtijddagljnlfmaaGreatDoorSkJ
namespace Go.Am
open Go.Proofs
set_option linter.unusedSimpArgs false
set_option linter.unusedVariables false

def parseL (args : List (List UInt8)) : Nat → Rs → Rs × Int
  | 0, st => (st, 0)
  | f + 1, st => match args[st.at_]? with
    | none => (st, 0)
    | some s => if s = [45, 45] then ({ st with at_ := st.at_ + 1 }, 0) else match s with
      | y :: b :: r => if y = 45 then (if (optS args (b :: r) st).2 ≠ 0 then optS args (b :: r) st else parseL args f { (optS args (b :: r) st).1 with at_ := (optS args (b :: r) st).1.at_ + 1 }) else (st, 0)
      | _ => (st, 0)
theorem sepOp_at (st : Rs) (v : List UInt8) : (sepOp st v).1.at_ = st.at_ := by
  unfold sepOp
  split
  · split <;> rfl
  · rfl
theorem keyOp_at (st : Rs) (v : List UInt8) : (keyOp st v).1.at_ = st.at_ := by
  unfold keyOp
  split
  · rfl
  · split <;> rfl
theorem optS_at (args : List (List UInt8)) : ∀ (s : List UInt8) (st : Rs), st.at_ ≤ (optS args s st).1.at_ := by
  intro s
  induction s with
  | nil => intro st; exact Nat.le_refl _
  | cons b r ih =>
    intro st
    rw [optS_cons]
    split
    · exact ih { st with flags := st.flags ||| flagV b }
    · split
      · exact ih { st with uniq := true }
      · split
        · exact ih { st with stab := true }
        · split
          · rcases hv : valueS args st r with _ | ⟨v, a⟩
            · exact Nat.le_refl _
            · have ha : st.at_ ≤ a := by
                unfold valueS at hv
                split at hv
                · rw [Option.map_eq_some_iff] at hv
                  obtain ⟨w, hw, he⟩ := hv
                  cases he
                  omega
                · cases hv
                  omega
              simp only
              split
              · rw [sepOp_at]; exact ha
              · rw [keyOp_at]; exact ha
          · exact Nat.le_refl _
def rs0 : Rs := ⟨[], -1, 0, false, false, 0⟩
def spNil : Spec := ⟨[], 0, 0, false, false⟩
def parseS (args : List (List UInt8)) : Spec × List (List UInt8) × Int × Nat :=
  let q := parseL args (args.length + 1) rs0
  if q.2 = 0 then (q.1.spec, args.drop q.1.at_, 0, 0) else (spNil, [], q.2, q.1.at_)
def Fr (o o2 : Nat) (H H' : Hp) : Prop := ∀ (i : Nat) (c : List AV), i ≠ o → i ≠ o2 → H[i]? = some (.cells c) → H'[i]? = some (.cells c)
theorem Fr.pre {o o2 : Nat} {A B C : Hp} (h : Hold o A B) (k : Fr o o2 B C) : Fr o o2 A C := fun i c h1 h2 hc => k i c h1 h2 (h i c h1 hc)
theorem aload7 {H : Hp} {o : Nat} {a b c d e f g : AV} (h : H[o]? = some (.cells [a, b, c, d, e, f, g])) : aload true 5 (.ptr o 0) H = some (.agg [a, b, c, d, e]) := by
  rw [aload_of h]
  simp [Go.Am.apart]
theorem Sl.from {k : Nat} {x : AV} {l : List AV} (h : Sl k x l) {n : Nat} (hn : n ≤ l.length) : ∃ y, asliceV k x (some (.int .i64 (n : Int))) none none = some y ∧ Sl k y (l.drop n) ∧ ∀ H, elems k y H = some (l.drop n) := by
  rcases h with ⟨rfl, rfl⟩ | ⟨tok, rfl⟩
  · have : n = 0 := by simpa using hn
    subst this
    exact ⟨.nils, by have := abounds_lo (n := 0) (len := 0) (cap := 0) .i64 (by omega) (by omega); simp [asliceV, this], .inl ⟨rfl, rfl⟩, fun H => rfl⟩
  · refine ⟨_, asliceV_lo k tok .i64 (by omega) (by omega), .inr ⟨_, rfl⟩, fun H => ?_⟩
    simp [elems]
theorem fill_sep : (afill [(1, 1, .int .i64 (-1))] [.nils, .int .i64 0, .int .i64 0, .bool false, .bool false]).map AV.agg = some (.agg [.nils, .int .i64 (-1), .int .i64 0, .bool false, .bool false]) := by
  simp [afill, AV.known, AV.cells, splice]
theorem fill_rd {ax : AV} {l : List AV} (h : Sl 1 ax l) : (afill [(0, 5, .agg [.nils, .int .i64 (-1), .int .i64 0, .bool false, .bool false]), (5, 1, ax)] [.nils, .int .i64 0, .int .i64 0, .bool false, .bool false, .nils, .int .i64 0]).map AV.agg =
    some (.agg [.nils, .int .i64 (-1), .int .i64 0, .bool false, .bool false, ax, .int .i64 0]) := by
  rcases h with ⟨rfl, _⟩ | ⟨tok, rfl⟩ <;> simp [afill, AV.known, AV.cells, splice]
/-- What Parse hands back, told by the reader's last state. -/
def Done (args : List (List UInt8)) (q : Rs × Int) (a x : AV) (e : Int) (n : Nat) : Prop :=
  if q.2 = 0 then SpecAV a q.1.spec ∧ Sl 1 x ((args.drop q.1.at_).map AV.str) ∧ e = 0 ∧ n = 0 else SpecAV a spNil ∧ Sl 1 x [] ∧ e = q.2 ∧ n = q.1.at_
theorem parse_end {args : List (List UInt8)} {ax : AV} (hax : Sl 1 ax (args.map AV.str)) (hb : args.length ≤ 2000000) {o o2 : Nat} (hne : o2 ≠ o) (H0 : Hp) {st : Rs} {H : Hp} (hr : Rd ax o H st) (hat : st.at_ ≤ args.length)
    {a b c d e : AV} (h2 : H[o2]? = some (.cells [a, b, c, d, e])) :
    ∃ v x e n H', sortkey_Parse_J1 ax (.ptr o2 0) (.ptr o 0) H0 H = some (.tuple [v, x, .int .i64 e, .int .i64 (n : Nat)], H') ∧ Done args (st, 0) v x e n ∧ Fr o o2 H H' := by
  obtain ⟨kx, ho, hk⟩ := hr
  unfold Rs.cells at ho
  rw [sortkey_Parse_J1_eq]
  obtain ⟨y, s1, s2, s3⟩ := hax.from (n := st.at_) (by simpa using hat)
  obtain ⟨x', H1, g1, g2, g3, g4, g5⟩ := (show Row H 1 .nils [] from .inl ⟨rfl, rfl⟩).app 16 y _ (s3 H) (by simp; omega)
  have ho1 := g4 _ _ ho
  have h21 := g4 _ _ h2
  have hx' : Sl 1 x' ((args.drop st.at_).map AV.str) := by
    rw [List.nil_append, ← List.map_drop] at g2
    rcases g2 with ⟨q1, q2⟩ | ⟨t, e, q1, _⟩
    · exact .inl ⟨q1, q2⟩
    · exact .inr ⟨_, q1⟩
  have hsl : Sl 5 kx (st.keys.map Ke.av) := by
    rcases hk with ⟨q1, q2⟩ | ⟨t, e, q1, _⟩
    · exact .inl ⟨q1, q2⟩
    · exact .inr ⟨_, q1⟩
  simp only [go_sem, Nat.zero_add, aload_f1 ho, List.getElem?_cons_zero, List.getElem?_cons_succ, s1, g1, aload7 ho1, astore5 h21, aload5 (get_set_self h21)]
  refine ⟨_, x', 0, 0, _, rfl, ?_, fun i c h1 h2 hc => get_set_ne _ (Ne.symm h2) (g4 i c hc)⟩
  unfold Done
  rw [if_pos rfl]
  exact ⟨⟨kx, rfl, hsl⟩, hx', rfl, rfl⟩
theorem parse_loop {args : List (List UInt8)} {ax : AV} (hax : Sl 1 ax (args.map AV.str)) (hb : args.length ≤ 2000000) (hall : ∀ s ∈ args, s.length ≤ 1048576) {o o2 : Nat} (hne : o2 ≠ o) (H0 : Hp) {a b c d e : AV} : ∀ (f : Nat) (st : Rs) (H : Hp), args.length < st.at_ + f → Rd ax o H st → st.at_ ≤ args.length →
    (st.at_ < args.length → RsOk args st) → H[o2]? = some (.cells [a, b, c, d, e]) →
    ∃ v x e n H', sortkey_Parse_L1 ax (.ptr o2 0) (.ptr o 0) H0 H = some (.tuple [v, x, .int .i64 e, .int .i64 (n : Nat)], H') ∧ Done args (parseL args f st) v x e n ∧ Fr o o2 H H' := by
  intro f
  induction f with
  | zero => intro st H hf hr hat; omega
  | succ f ih =>
    intro st H hf hr hat hok h2
    rw [sortkey_Parse_L1_eq]
    have hr0 := hr
    obtain ⟨kx, ho, hk⟩ := hr
    have ho' := ho
    unfold Rs.cells at ho'
    simp only [go_sem, Nat.zero_add, aload_f1 ho', List.getElem?_cons_zero, List.getElem?_cons_succ, hax.strlen, parseL]
    by_cases hlt : st.at_ < args.length
    · have hok := hok hlt
      have c1 : decide ((st.at_ : Int) < (args.length : Int)) = true := by simp; omega
      have hix : aindexS 1 ax (.int .i64 (st.at_ : Int)) = some (.vp [.str args[st.at_]]) := hax.str (List.getElem?_eq_getElem hlt)
      rw [List.getElem?_eq_getElem hlt]
      have hs := hall args[st.at_] (List.getElem_mem hlt)
      generalize args[st.at_] = s at hix hs ⊢
      simp only [c1, go_sem, sortkey_Parse_J2_eq, Nat.zero_add, aload_f1 ho', List.getElem?_cons_zero, List.getElem?_cons_succ, hix, aload_vpc]
      have hw : IntKind.i64.wrap ((st.at_ : Int) + 1) = ((st.at_ + 1 : Nat) : Int) := by rw [wrap64 (by omega) (by omega)]; omega
      by_cases hdd : s = [45, 45]
      · have c2 : (s == [45, 45]) = true := by simpa using hdd
        simp only [c2, go_sem, Nat.zero_add, aload_f1 ho', List.getElem?_cons_zero, List.getElem?_cons_succ, hw, if_pos hdd]
        rw [astore1 ho rfl rfl (by simp [Rs.cells])]
        simp only [go_sem]
        obtain ⟨v, x, e, n, H', r1, r2, r3⟩ := parse_end (st := { st with at_ := st.at_ + 1 }) hax hb hne H0 ⟨kx, get_set_self ho, row_set hk ho _⟩ hlt (get_set_ne _ (Ne.symm hne) h2)
        exact ⟨v, x, e, n, H', r1, r2, Fr.pre (Hold.set _) r3⟩
      have c2 : (s == [45, 45]) = false := by simpa using hdd
      simp only [c2, go_sem, if_neg hdd, sortkey_Parse_J4_eq]
      have stop := parse_end hax hb hne H0 hr0 hat h2
      match s, hix, hs, hdd, c2, stop with
      | [], _, _, _, _, stop =>
        have c3 : decide ((([] : List UInt8).length : Int) < 2) = true := by decide
        simp only [c3, go_sem]
        exact stop
      | [y], _, _, _, _, stop =>
        have c3 : decide ((([y] : List UInt8).length : Int) < 2) = true := by simp
        simp only [c3, go_sem]
        exact stop
      | y :: z :: r, _, hs, _, _, stop =>
        have c3 : decide (((y :: z :: r).length : Int) < 2) = false := by simp; omega
        have hi0 : aindexStr (.str (y :: z :: r)) (.int .i64 0) = some (.int .u8 y.toNat) := aindexStr_of (s := y :: z :: r) (i := 0) rfl
        have e45 : ((y.toNat : Int) != 45) = (y != 45) := by
          have : ((y.toNat : Int) == 45) = (y == 45) := u8eq y 45 (by decide)
          simp only [bne, this]
        simp only [c3, go_sem, hi0, e45]
        by_cases hy : y = 45
        · subst hy
          have c4 : ((45 : UInt8) != 45) = false := rfl
          have hsl := asliceS_lo (s := 45 :: z :: r) (n := (1 : Int)) .i64 (by omega) (by simp only [List.length_cons]; omega)
          rw [show ((1 : Int)).toNat = 1 from rfl, List.drop_one, List.tail_cons] at hsl
          obtain ⟨H1, q1, q2, q3⟩ := option_spec hax hb hall (H0 := H) (z :: r) st H (by simp at hs ⊢; omega) hr0 hok.keys hok.flags hlt
          have hok1 := optS_ok (z :: r) st hok
          simp only [c4, go_sem, sortkey_Parse_J5_eq, hsl, if_true]
          rw [F_sortkey_reader_option_eq]
          unfold F_sortkey_reader_option
          simp only [q1, go_sem]
          generalize hq : optS args (z :: r) st = q at q2 hok1 ⊢
          obtain ⟨st1, er⟩ := q
          simp only at q2 hok1 ⊢
          have h21 := q3 _ _ hne h2
          obtain ⟨kx1, ho1, hk1⟩ := q2
          by_cases he : er = 0
          · have c5 : (er != 0) = false := by simpa using he
            have c6 : ¬ er ≠ 0 := by omega
            have ho1' := ho1
            unfold Rs.cells at ho1'
            have hat1 := hok1.at_
            have hw1 : IntKind.i64.wrap ((st1.at_ : Int) + 1) = ((st1.at_ + 1 : Nat) : Int) := by rw [wrap64 (by omega) (by omega)]; omega
            simp only [c5, go_sem, if_neg c6, sortkey_Parse_J3_eq, Nat.zero_add, aload_f1 ho1', List.getElem?_cons_zero, List.getElem?_cons_succ, hw1]
            rw [astore1 ho1 rfl rfl (by simp [Rs.cells])]
            simp only [go_sem]
            have hmono : st.at_ ≤ st1.at_ := by
              have := optS_at args (z :: r) st
              rw [hq] at this
              exact this
            obtain ⟨v, x, e, n, H', r1, r2, r3⟩ := ih { st1 with at_ := st1.at_ + 1 } _ (by simp only; omega) ⟨kx1, get_set_self ho1, row_set hk1 ho1 _⟩ hat1 (fun h => ⟨hok1.keys, hok1.good, hok1.sep, hok1.flags, h⟩) (get_set_ne _ (Ne.symm hne) h21)
            exact ⟨v, x, e, n, H', r1, r2, Fr.pre (q3.trans (Hold.set _)) r3⟩
          · have c5 : (er != 0) = true := by simpa using he
            have hfld : afield 6 (.vp (st1.cells kx1 ax)) = some (.vp [.int .i64 st1.at_]) := rfl
            have h22 := get_set_ne (H := H1) AObj.dead (Ne.symm hne) h21
            simp only [c5, go_sem, if_pos he, frz_of ho1, hfld, aloadv_vpc, astore5 h22, aload5 (get_set_self h22)]
            refine ⟨_, .nils, er, st1.at_, _, rfl, ?_, fun i c h1 h2 hc => get_set_ne _ (Ne.symm h2) (get_set_ne _ (Ne.symm h1) (q3 i c h1 hc))⟩
            unfold Done
            rw [if_neg he]
            exact ⟨⟨.nils, rfl, .inl ⟨rfl, rfl⟩⟩, .inl ⟨rfl, rfl⟩, rfl, rfl⟩
        · have c4 : (y != 45) = true := by simpa using hy
          simp only [c4, go_sem, if_neg hy]
          exact stop
    · have c1 : decide ((st.at_ : Int) < (args.length : Int)) = false := by simp; omega
      rw [List.getElem?_eq_none (by omega)]
      simp only [c1, go_sem]
      exact parse_end hax hb hne H0 hr0 hat h2
theorem parse_spec {args : List (List UInt8)} {ax : AV} (hax : Sl 1 ax (args.map AV.str)) (hb : args.length ≤ 2000000) (hall : ∀ s ∈ args, s.length ≤ 1048576) (H : Hp) :
    ∃ v x H', C_sortkey_Parse [ax] H = some (.tuple [v, x, .int .i64 (parseS args).2.2.1, .int .i64 ((parseS args).2.2.2 : Nat)], H') ∧ SpecAV v (parseS args).1 ∧ Sl 1 x ((parseS args).2.1.map AV.str) ∧ (∀ (i : Nat) (c : List AV), H[i]? = some (.cells c) → H'[i]? = some (.cells c)) := by
  rw [F_sortkey_Parse_eq]
  unfold F_sortkey_Parse
  simp only [go_sem, fill_sep, fill_rd hax, List.length_append, List.length_cons, List.length_nil, Nat.zero_add]
  have h2 : (H ++ [AObj.cells [.nils, .int .i64 0, .int .i64 0, .bool false, .bool false]] ++ [AObj.cells [.nils, .int .i64 (-1), .int .i64 0, .bool false, .bool false, ax, .int .i64 0]])[H.length]? = some (.cells [.nils, .int .i64 0, .int .i64 0, .bool false, .bool false]) := by simp
  have ho : (H ++ [AObj.cells [.nils, .int .i64 0, .int .i64 0, .bool false, .bool false]] ++ [AObj.cells [.nils, .int .i64 (-1), .int .i64 0, .bool false, .bool false, ax, .int .i64 0]])[H.length + 1]? = some (.cells (rs0.cells .nils ax)) := by
    rw [List.getElem?_append_right (by simp)]
    simp [Rs.cells, rs0]
  obtain ⟨v, x, e, n, H', q1, q2, q3⟩ := parse_loop hax hb hall (o := H.length + 1) (o2 := H.length) (by omega) H (args.length + 1) rs0 _ (by simp only [rs0]; omega) ⟨.nils, ho, .inl ⟨rfl, rfl⟩⟩ (Nat.zero_le _)
    (fun h => ⟨by simp [rs0], by simp [rs0], by decide, by decide, h⟩) h2
  have q4 : ∀ (i : Nat) (c : List AV), H[i]? = some (.cells c) → H'[i]? = some (.cells c) := fun i c h => by
    have := lt_of_get h
    exact q3 i c (by omega) (by omega) (get_push (get_push h _) _)
  unfold Done at q2
  unfold parseS
  simp only
  split at q2
  · rename_i hz
    obtain ⟨a1, a2, rfl, rfl⟩ := q2
    simp only [if_pos hz]
    exact ⟨v, x, H', q1, a1, a2, q4⟩
  · rename_i hz
    obtain ⟨a1, a2, rfl, rfl⟩ := q2
    simp only [if_neg hz]
    exact ⟨v, x, H', q1, a1, by simpa using a2, q4⟩
end Go.Am
