/-
  The reader of arguments: options, and the whole.
-/
import Derived.Test.YtijddagljnlfmaaGreatDoorSkI
import Derived.Test.YtijddagljnlfmaaGreatDoorSkF
namespace Go.Am
open Go.Proofs
set_option linter.unusedSimpArgs false
set_option linter.unusedVariables false

structure Rs where
  keys : List Ke
  sep : Int
  flags : Nat
  uniq : Bool
  stab : Bool
  at_ : Nat
def Rs.cells (st : Rs) (kx ax : AV) : List AV := [kx, .int .i64 st.sep, .int .i64 st.flags, .bool st.uniq, .bool st.stab, ax, .int .i64 st.at_]
def Rs.spec (st : Rs) : Spec := ⟨st.keys, st.sep, st.flags, st.stab, st.uniq⟩
/-- Object o is the reader in this state. -/
def Rd (ax : AV) (o : Nat) (H : Hp) (st : Rs) : Prop := ∃ kx, H[o]? = some (.cells (st.cells kx ax)) ∧ Row H 5 kx (st.keys.map Ke.av)
def Hold (o : Nat) (H H' : Hp) : Prop := ∀ (i : Nat) (c : List AV), i ≠ o → H[i]? = some (.cells c) → H'[i]? = some (.cells c)
theorem Hold.refl (o : Nat) (H : Hp) : Hold o H H := fun _ _ _ h => h
theorem Hold.trans {o : Nat} {A B C : Hp} (h : Hold o A B) (k : Hold o B C) : Hold o A C := fun i c hi hc => k i c hi (h i c hi hc)
theorem Hold.set {o : Nat} {H : Hp} (x : AObj) : Hold o H (H.set o x) := fun i c hi hc => get_set_ne x (Ne.symm hi) hc
theorem row_set {H : Hp} {o k : Nat} {x : AV} {l : List AV} {c : List AV} (h : Row H k x l) (ho : H[o]? = some (.cells c)) (y : AObj) : Row (H.set o y) k x l :=
  h.mono fun i e hi => get_set_ne y (fun he => by subst he; rw [ho] at hi; cases hi) hi

def valueS (args : List (List UInt8)) (st : Rs) (rest : List UInt8) : Option (List UInt8 × Nat) :=
  if rest = [] then args[st.at_ + 1]?.map fun v => (v, st.at_ + 1) else some (rest, st.at_)
def keyOp (st : Rs) (v : List UInt8) : Rs × Int :=
  if st.keys.length = 8 then (st, 3) else if (keyP v).2 = 0 then ({ st with keys := st.keys ++ [(keyP v).1] }, 0) else (st, (keyP v).2)
def sepOp (st : Rs) (v : List UInt8) : Rs × Int := match v with
  | [c] => if c = 10 then (st, 18) else ({ st with sep := c.toNat }, 0)
  | _ => (st, 18)
def optS (args : List (List UInt8)) : List UInt8 → Rs → Rs × Int
  | [], st => (st, 0)
  | c :: r, st => if flagV c ≠ 0 then optS args r { st with flags := st.flags ||| flagV c }
    else if c = 117 then optS args r { st with uniq := true }
    else if c = 115 then optS args r { st with stab := true }
    else if c = 116 ∨ c = 107 then match valueS args st r with
      | none => (st, 18)
      | some (v, a) => if c = 116 then sepOp { st with at_ := a } v else keyOp { st with at_ := a } v
    else (st, 18)
theorem optS_cons (args : List (List UInt8)) (c : UInt8) (r : List UInt8) (st : Rs) : optS args (c :: r) st = if flagV c ≠ 0 then optS args r { st with flags := st.flags ||| flagV c }
    else if c = 117 then optS args r { st with uniq := true }
    else if c = 115 then optS args r { st with stab := true }
    else if c = 116 ∨ c = 107 then match valueS args st r with
      | none => (st, 18)
      | some (v, a) => if c = 116 then sepOp { st with at_ := a } v else keyOp { st with at_ := a } v
    else (st, 18) := (Eq.refl _).trans (Eq.refl _)
structure RsOk (args : List (List UInt8)) (st : Rs) : Prop where
  keys : st.keys.length ≤ 8
  good : ∀ k ∈ st.keys, keyBad k = false ∧ KeOk k
  sep : -1 ≤ st.sep ∧ st.sep ≤ 255 ∧ st.sep ≠ 10
  flags : st.flags < 32
  at_ : st.at_ < args.length
theorem value_spec {args : List (List UInt8)} {ax : AV} (hax : Sl 1 ax (args.map AV.str)) (hb : args.length ≤ 2000000) {o : Nat} {H : Hp} {st : Rs} (hr : Rd ax o H st) (hat : st.at_ < args.length) (rest : List UInt8) :
    ∃ H', C_sortkey_reader_value [.ptr o 0, .str rest] H = some (match valueS args st rest with | some (v, a) => .tuple [.str v, .bool true] | none => .tuple [.str [], .bool false], H') ∧
      Rd ax o H' (match valueS args st rest with | some (v, a) => { st with at_ := a } | none => st) ∧ Hold o H H' := by
  obtain ⟨kx, ho, hk⟩ := hr
  rw [F_sortkey_reader_value_eq]
  unfold F_sortkey_reader_value valueS
  by_cases he : rest = []
  · subst he
    have c : (([] : List UInt8) == []) = true := rfl
    have hw : IntKind.i64.wrap ((st.at_ : Int) + 1) = ((st.at_ + 1 : Nat) : Int) := by rw [wrap64 (by omega) (by omega)]; omega
    have ho' := ho
    unfold Rs.cells at ho'
    simp only [go_sem, c, Bool.not_true, sortkey_reader_value_J1_eq, Nat.zero_add, aload_f1 ho', List.getElem?_cons_zero, List.getElem?_cons_succ, hw, hax.strlen, if_true]
    by_cases hlt : st.at_ + 1 < args.length
    · have c2 : decide ((args.length : Int) ≤ ((st.at_ + 1 : Nat) : Int)) = false := by simp; omega
      rw [List.getElem?_eq_getElem hlt]
      have ho2 : (H.set o (.cells ((st.cells kx ax).set 6 (.int .i64 ((st.at_ + 1 : Nat) : Int)))))[o]? = some (.cells [kx, .int .i64 st.sep, .int .i64 st.flags, .bool st.uniq, .bool st.stab, ax, .int .i64 ((st.at_ + 1 : Nat) : Int)]) := get_set_self ho
      have hix : aindexS 1 ax (.int .i64 ((st.at_ + 1 : Nat) : Int)) = some (.vp [.str args[st.at_ + 1]]) := hax.str (List.getElem?_eq_getElem hlt)
      simp only [c2, go_sem, sortkey_reader_value_J2_eq, Nat.zero_add, aload_f1 ho', List.getElem?_cons_zero, List.getElem?_cons_succ, hw]
      rw [astore1 ho rfl rfl (by simp [Rs.cells])]
      simp only [go_sem, Nat.zero_add, aload_f1 ho2, List.getElem?_cons_zero, List.getElem?_cons_succ, hix, aload_vpc, Option.map_some]
      exact ⟨_, rfl, ⟨kx, get_set_self ho, row_set hk ho _⟩, Hold.set _⟩
    · have c2 : decide ((args.length : Int) ≤ ((st.at_ + 1 : Nat) : Int)) = true := by simp; omega
      rw [List.getElem?_eq_none (by omega)]
      simp only [c2, go_sem, Option.map_none]
      exact ⟨_, rfl, ⟨kx, ho, hk⟩, Hold.refl _ _⟩
  · have c : (rest == []) = false := by simpa using he
    simp only [go_sem, c, Bool.not_false, he, if_false]
    exact ⟨_, rfl, ⟨kx, ho, hk⟩, Hold.refl _ _⟩
theorem set_ke (k : Ke) : (setElems 5 [(0, .agg k.cells)] [.agg [.int .i64 0, .int .i64 0, .int .i64 0, .int .i64 0, .int .i64 0]]).map (AV.vs 5 .clip) = some (.vs 5 .clip [.agg k.cells]) := by
  simp [setElems, AV.known, AV.cells, Ke.cells]
theorem rkey_spec {ax : AV} {o : Nat} {H : Hp} {st : Rs} (hr : Rd ax o H st) (hkl : st.keys.length ≤ 8) {v : List UInt8} (hv : v.length ≤ 1048576) :
    ∃ H', C_sortkey_reader_key [.ptr o 0, .str v] H = some (.int .i64 (keyOp st v).2, H') ∧ Rd ax o H' (keyOp st v).1 ∧ Hold o H H' := by
  obtain ⟨kx, ho, hk⟩ := hr
  rw [F_sortkey_reader_key_eq]
  unfold F_sortkey_reader_key keyOp
  have ho' := ho
  unfold Rs.cells at ho'
  have hlen := hk.len 34
  rw [List.length_map] at hlen
  simp only [go_sem, Nat.zero_add, aload_f1 ho', List.getElem?_cons_zero, hlen]
  by_cases h8 : st.keys.length = 8
  · have c : ((st.keys.length : Int) == 8) = true := by simp; omega
    simp only [c, go_sem, if_pos h8]
    exact ⟨_, rfl, ⟨kx, ho, hk⟩, Hold.refl _ _⟩
  have c : ((st.keys.length : Int) == 8) = false := by simp; omega
  simp only [c, go_sem, if_neg h8, sortkey_reader_key_J1_eq, key_ok hv, List.getElem?_cons_zero, List.getElem?_cons_succ]
  simp only [astore_last5 H (keyP v).1 [.int .i64 0, .int .i64 0, .int .i64 0, .int .i64 0, .int .i64 0] rfl, go_sem]
  have ho1 : (H ++ [AObj.cells (keyP v).1.cells])[o]? = some (.cells (st.cells kx ax)) := get_push ho _
  have ho1' := ho1
  simp only [Rs.cells] at ho1'
  have hk1 : Row (H ++ [AObj.cells (keyP v).1.cells]) 5 kx (st.keys.map Ke.av) := hk.mono fun i e h => get_push h _
  have hh1 : Hold o H (H ++ [AObj.cells (keyP v).1.cells]) := fun i c _ h => get_push h _
  by_cases he : (keyP v).2 = 0
  · have c2 : ((keyP v).2 == 0) = true := by simpa using he
    obtain ⟨x', H', g1, g2, g3, g4, g5⟩ := hk1.app 40 (.vs 5 .clip [.agg (keyP v).1.cells]) [.agg (keyP v).1.cells] (by simp [elems]) (by simp; omega)
    have hal : aload true 5 (.ptr H.length 0) (H ++ [.cells (keyP v).1.cells]) = some (.agg (keyP v).1.cells) := aload_last5 H _ _ _ _ _
    have ho2 := g4 _ _ ho1
    simp only [c2, go_sem, Nat.zero_add, aload_f1 ho1', List.getElem?_cons_zero, hal, set_ke, g1, if_pos he]
    rw [astore1 (v := x') ho2 (by rcases g2 with ⟨rfl, _⟩ | ⟨t, e, rfl, _⟩ <;> rfl) (by rcases g2 with ⟨rfl, _⟩ | ⟨t, e, rfl, _⟩ <;> rfl) (by simp [Rs.cells])]
    simp only [go_sem, sortkey_reader_key_J2_eq]
    rw [he]
    refine ⟨_, rfl, ⟨x', get_set_self ho2, ?_⟩, hh1.trans (Hold.trans (fun i c hi hc => g4 i c hc) (Hold.set _))⟩
    have := row_set g2 ho2 (.cells ((st.cells kx ax).set 0 x'))
    rw [List.map_append]
    exact this
  · have c2 : ((keyP v).2 == 0) = false := by simpa using he
    simp only [c2, go_sem, if_neg he, sortkey_reader_key_J2_eq]
    exact ⟨_, rfl, ⟨kx, ho1, hk1⟩, hh1⟩
theorem rsep_spec {ax : AV} {o : Nat} {H : Hp} {st : Rs} (hr : Rd ax o H st) (v : List UInt8) :
    ∃ H', C_sortkey_reader_separator [.ptr o 0, .str v] H = some (.int .i64 (sepOp st v).2, H') ∧ Rd ax o H' (sepOp st v).1 ∧ Hold o H H' := by
  obtain ⟨kx, ho, hk⟩ := hr
  rw [F_sortkey_reader_separator_eq]
  unfold F_sortkey_reader_separator
  by_cases h1 : v.length = 1
  · obtain ⟨b, rfl⟩ : ∃ b, v = [b] := by
      match v, h1 with
      | [b], _ => exact ⟨b, rfl⟩
    have c : ((([b] : List UInt8).length : Nat) : Int) = 1 := rfl
    have c1 : (((1 : Int)) != 1) = false := rfl
    have c2 : (([b] : List UInt8) == [10]) = (b == 10) := by rw [List.cons_beq_cons]; simp
    have hix : aindexStr (.str [b]) (.int .i64 0) = some (.int .u8 b.toNat) := aindexStr_of (s := [b]) (i := 0) rfl
    have hcv : cvInt .i64 (.int .u8 (b.toNat : Int)) = some (.int .i64 (b.toNat : Int)) := by
      have := b.toNat_lt
      simp only [cvInt]
      rw [wrap64 (by omega) (by omega)]
    simp only [go_sem, c, c1, c2, sepOp]
    by_cases hb : b = 10
    · have c3 : (b == 10) = true := by simpa using hb
      simp only [c3, go_sem, if_pos hb]
      exact ⟨_, rfl, ⟨kx, ho, hk⟩, Hold.refl _ _⟩
    · have c3 : (b == 10) = false := by simpa using hb
      simp only [c3, go_sem, if_neg hb, sortkey_reader_separator_J1_eq, hix, hcv, Nat.zero_add]
      rw [astore1 ho rfl rfl (by simp [Rs.cells])]
      exact ⟨_, rfl, ⟨kx, get_set_self ho, row_set hk ho _⟩, Hold.set _⟩
  · have c1 : (((v.length : Nat) : Int) != 1) = true := by simp; omega
    have hs : sepOp st v = (st, 18) := by
      unfold sepOp
      split
      · simp at h1
      · rfl
    rw [hs]
    simp only [go_sem, c1]
    exact ⟨_, rfl, ⟨kx, ho, hk⟩, Hold.refl _ _⟩
theorem option_spec {args : List (List UInt8)} {ax : AV} (hax : Sl 1 ax (args.map AV.str)) (hb : args.length ≤ 2000000) (hall : ∀ s ∈ args, s.length ≤ 1048576) {o : Nat} (H0 : Hp) : ∀ (s : List UInt8) (st : Rs) (H : Hp), s.length ≤ 1048576 → Rd ax o H st → st.keys.length ≤ 8 → st.flags < 32 → st.at_ < args.length →
    ∃ H', sortkey_reader_option_L1 (.ptr o 0) (.str s) H0 H = some (.int .i64 (optS args s st).2, H') ∧ Rd ax o H' (optS args s st).1 ∧ Hold o H H' := by
  intro s
  induction s with
  | nil =>
    intro st H hs hr hkl hf hat
    rw [sortkey_reader_option_L1_eq]
    have c : (([] : List UInt8) == []) = true := rfl
    simp only [go_sem, c, Bool.not_true, sortkey_reader_option_J1_eq, optS]
    exact ⟨_, rfl, hr, Hold.refl _ _⟩
  | cons b r ih =>
    intro st H hs hr hkl hf hat
    rw [sortkey_reader_option_L1_eq, optS_cons]
    have c : ((b :: r) == []) = false := rfl
    have hix : aindexStr (.str (b :: r)) (.int .i64 0) = some (.int .u8 b.toNat) := aindexStr_of (s := b :: r) (i := 0) rfl
    have hsl := asliceS_lo (s := b :: r) (n := (1 : Int)) .i64 (by omega) (by simp only [List.length_cons]; omega)
    rw [show ((1 : Int)).toNat = 1 from rfl, List.drop_one, List.tail_cons] at hsl
    have hrl : r.length ≤ 1048576 := by simp at hs; omega
    simp only [go_sem, c, Bool.not_false, sortkey_reader_option_J2_eq, hix, hsl, flag_spec]
    by_cases hz : flagV b = 0
    · have c2 : (((flagV b : Nat) : Int) != 0) = false := by simp; omega
      have e117 : ((b.toNat : Int) == 117) = (b == 117) := u8eq b 117 (by decide)
      have e115 : ((b.toNat : Int) == 115) = (b == 115) := u8eq b 115 (by decide)
      have e116 : ((b.toNat : Int) == 116) = (b == 116) := u8eq b 116 (by decide)
      have e107 : ((b.toNat : Int) == 107) = (b == 107) := u8eq b 107 (by decide)
      have hnz : ¬ flagV b ≠ 0 := by omega
      simp only [c2, go_sem, if_neg hnz, e117]
      obtain ⟨kx, ho, hk⟩ := hr
      by_cases h1 : b = 117
      · have d : (b == 117) = true := by simpa using h1
        simp only [d, go_sem, if_pos h1, Nat.zero_add]
        rw [astore1 ho rfl rfl (by simp [Rs.cells])]
        simp only [go_sem, sortkey_reader_option_J3_eq]
        obtain ⟨H', q1, q2, q3⟩ := ih { st with uniq := true } _ hrl ⟨kx, get_set_self ho, row_set hk ho _⟩ hkl hf hat
        exact ⟨H', q1, q2, (Hold.set _).trans q3⟩
      have d : (b == 117) = false := by simpa using h1
      simp only [d, go_sem, if_neg h1, e115]
      by_cases h2 : b = 115
      · have d : (b == 115) = true := by simpa using h2
        simp only [d, go_sem, if_pos h2, Nat.zero_add]
        rw [astore1 ho rfl rfl (by simp [Rs.cells])]
        simp only [go_sem, sortkey_reader_option_J3_eq]
        obtain ⟨H', q1, q2, q3⟩ := ih { st with stab := true } _ hrl ⟨kx, get_set_self ho, row_set hk ho _⟩ hkl hf hat
        exact ⟨H', q1, q2, (Hold.set _).trans q3⟩
      have d : (b == 115) = false := by simpa using h2
      simp only [d, go_sem, if_neg h2, e116]
      obtain ⟨H1, v1, v2, v3⟩ := value_spec hax hb ⟨kx, ho, hk⟩ hat r
      have hvl : ∀ v a, valueS args st r = some (v, a) → v.length ≤ 1048576 := by
        intro v a hv
        unfold valueS at hv
        split at hv
        · rw [Option.map_eq_some_iff] at hv
          obtain ⟨w, hw, he⟩ := hv
          cases he
          exact hall _ (List.mem_of_getElem? hw)
        · cases hv
          exact hrl
      by_cases h3 : b = 116
      · have d : (b == 116) = true := by simpa using h3
        have hor : b = 116 ∨ b = 107 := .inl h3
        simp only [d, go_sem, if_pos hor, v1]
        rcases hv : valueS args st r with _ | ⟨v, a⟩
        · rw [hv] at v2
          simp only [go_sem, List.getElem?_cons_zero, List.getElem?_cons_succ, Bool.not_false]
          exact ⟨_, rfl, v2, v3⟩
        · rw [hv] at v2
          simp only [go_sem, List.getElem?_cons_zero, List.getElem?_cons_succ, Bool.not_true, sortkey_reader_option_J4_eq, e116, d, sortkey_reader_option_J5_eq, V_sortkey_reader_separator, List.cons_append, List.nil_append, if_pos h3]
          obtain ⟨H', q1, q2, q3⟩ := rsep_spec v2 v
          simp only [q1, go_sem]
          exact ⟨_, rfl, q2, v3.trans q3⟩
      have d : (b == 116) = false := by simpa using h3
      simp only [d, go_sem, e107]
      by_cases h4 : b = 107
      · have d4 : (b == 107) = true := by simpa using h4
        have hor : b = 116 ∨ b = 107 := .inr h4
        simp only [d4, go_sem, if_pos hor, v1]
        rcases hv : valueS args st r with _ | ⟨v, a⟩
        · rw [hv] at v2
          simp only [go_sem, List.getElem?_cons_zero, List.getElem?_cons_succ, Bool.not_false]
          exact ⟨_, rfl, v2, v3⟩
        · rw [hv] at v2
          simp only [go_sem, List.getElem?_cons_zero, List.getElem?_cons_succ, Bool.not_true, sortkey_reader_option_J4_eq, e116, d, sortkey_reader_option_J5_eq, V_sortkey_reader_key, List.cons_append, List.nil_append, if_neg h3]
          obtain ⟨H', q1, q2, q3⟩ := rkey_spec v2 hkl (hvl v a hv)
          simp only [q1, go_sem]
          exact ⟨_, rfl, q2, v3.trans q3⟩
      · have d4 : (b == 107) = false := by simpa using h4
        have hor : ¬ (b = 116 ∨ b = 107) := fun h => h.elim h3 h4
        simp only [d4, go_sem, if_neg hor]
        exact ⟨_, rfl, ⟨kx, ho, hk⟩, Hold.refl _ _⟩
    · have c2 : (((flagV b : Nat) : Int) != 0) = true := by simp; omega
      obtain ⟨q1, q2⟩ := or_ok hf (flagV_lt b)
      obtain ⟨kx, ho, hk⟩ := hr
      have hl : aload false 1 (.ptr o 2) H = some (.int .i64 st.flags) := by rw [aload_f1 ho]; rfl
      have hnz : flagV b ≠ 0 := hz
      simp only [c2, go_sem, if_pos hnz, Nat.zero_add, hl, flag_spec, q1]
      rw [astore1 ho rfl rfl (by simp [Rs.cells])]
      simp only [go_sem, sortkey_reader_option_J3_eq]
      obtain ⟨H', r1, r2, r3⟩ := ih { st with flags := st.flags ||| flagV b } _ hrl ⟨kx, get_set_self ho, row_set hk ho _⟩ hkl q2 hat
      exact ⟨H', r1, r2, (Hold.set _).trans r3⟩
/-- What options leave. -/
theorem sepOp_ok {args : List (List UInt8)} {st : Rs} (h : RsOk args st) (v : List UInt8) : RsOk args (sepOp st v).1 := by
  unfold sepOp
  split
  · rename_i c
    split
    · exact h
    · rename_i hc
      have := c.toNat_lt
      refine ⟨h.keys, h.good, ⟨by simp only; omega, by simp only; omega, ?_⟩, h.flags, h.at_⟩
      simp only
      intro e
      apply hc
      apply UInt8.toNat_inj.1
      show c.toNat = 10
      omega
  · exact h
theorem keyOp_ok {args : List (List UInt8)} {st : Rs} (h : RsOk args st) (v : List UInt8) : RsOk args (keyOp st v).1 := by
  unfold keyOp
  split
  · exact h
  · rename_i h8
    split
    · rename_i he
      have := h.keys
      refine ⟨by simp; omega, fun k hk => ?_, h.sep, h.flags, h.at_⟩
      rcases List.mem_append.1 hk with hk | hk
      · exact h.good k hk
      · rw [List.mem_singleton.1 hk]
        exact keyP_good he
    · exact h
theorem optS_ok {args : List (List UInt8)} : ∀ (s : List UInt8) (st : Rs), RsOk args st → RsOk args (optS args s st).1 := by
  intro s
  induction s with
  | nil => intro st h; exact h
  | cons b r ih =>
    intro st h
    rw [optS_cons]
    split
    · exact ih _ ⟨h.keys, h.good, h.sep, (or_ok h.flags (flagV_lt b)).2, h.at_⟩
    · split
      · exact ih _ ⟨h.keys, h.good, h.sep, h.flags, h.at_⟩
      · split
        · exact ih _ ⟨h.keys, h.good, h.sep, h.flags, h.at_⟩
        · split
          · rcases hv : valueS args st r with _ | ⟨v, a⟩
            · exact h
            · have ha : a < args.length := by
                unfold valueS at hv
                split at hv
                · rw [Option.map_eq_some_iff] at hv
                  obtain ⟨w, hw, he⟩ := hv
                  cases he
                  exact lt_of_get hw
                · cases hv
                  exact h.at_
              have h2 : RsOk args { st with at_ := a } := ⟨h.keys, h.good, h.sep, h.flags, ha⟩
              simp only
              split
              · exact sepOp_ok h2 v
              · exact keyOp_ok h2 v
          · exact h
end Go.Am
