/-
  Sorting in the machine: merge sort with a comparison that is a function value.
-/
import Derived.Test.YtomfadecfjephaaDoorWkYax
import Derived.Test.YtomfadecfjephaaDoorWkGMx
namespace Go.Am
set_option linter.unusedSimpArgs false
set_option linter.unusedVariables false
set_option linter.unusedSectionVars false
set_option maxRecDepth 100000

abbrev Str := List UInt8
abbrev SS (x : AV) (l : List Str) : Prop := Sl 1 x (l.map AV.str)
theorem SS.len {x : AV} {l : List Str} (h : SS x l) (e : Nat) : alenD (.slice e) x = some (.int .i64 (l.length : Int)) := by
  have := Sl.len h e
  rwa [List.length_map] at this
theorem SS.idx {x : AV} {l : List Str} (h : SS x l) {i : Nat} {s : Str} (hi : l[i]? = some s) : aindexS 1 x (.int .i64 (i : Int)) = some (.vp [.str s]) := Sl.idx h (c := .str s) (by simp [hi])
theorem SS.closed {x : AV} {l : List Str} (h : SS x l) (H : Hp) (n f : Nat) : ∃ x', closeV H n (f + 2) x = some x' ∧ SS x' l :=
  Sl.close h (f := f + 1) (fun y hy => by obtain ⟨m, _, rfl⟩ := List.mem_map.1 hy; rfl)
theorem SS.lo {x : AV} {l : List Str} (h : SS x l) {n : Nat} (hn : n ≤ l.length) : ∃ x', asliceV 1 x (some (.int .i64 (n : Int))) none none = some x' ∧ SS x' (l.drop n) := by
  rcases h with ⟨rfl, h0⟩ | ⟨tok, rfl⟩
  · have : l = [] := List.map_eq_nil_iff.1 h0
    subst this
    have hn0 : n = 0 := by simpa using hn
    subst hn0
    exact ⟨.nils, asliceV_nils_lo 1 .i64, .inl ⟨rfl, rfl⟩⟩
  · exact ⟨_, asliceV_lo 1 tok .i64 (by omega) (by simp; omega), .inr ⟨tok, by simp⟩⟩
theorem asliceV_hi {l : List AV} {n : Nat} (z : Nat) (t : Tok) (h1 : n ≤ l.length) : ∃ t', asliceV z (.vs z t l) none (some (.int .i64 (n : Int))) none = some (.vs z t' (l.take n)) := by
  refine ⟨if n = l.length then t else .no, ?_⟩
  simp only [asliceV]
  delta abounds
  simp [abound, h1]
theorem SS.hi {x : AV} {l : List Str} (h : SS x l) {n : Nat} (hn : n ≤ l.length) : ∃ x', asliceV 1 x none (some (.int .i64 (n : Int))) none = some x' ∧ SS x' (l.take n) := by
  rcases h with ⟨rfl, h0⟩ | ⟨tok, rfl⟩
  · have : l = [] := List.map_eq_nil_iff.1 h0
    subst this
    have hn0 : n = 0 := by simpa using hn
    subst hn0
    refine ⟨.nils, ?_, .inl ⟨rfl, by simp⟩⟩
    simp only [asliceV]
    delta abounds
    simp [abound]
  · obtain ⟨t', h1⟩ := asliceV_hi 1 tok (l := l.map AV.str) (n := n) (by simp; omega)
    exact ⟨_, h1, .inr ⟨t', by simp⟩⟩
theorem SS.elems {x : AV} {l : List Str} (h : SS x l) (H : Hp) : elems 1 x H = some (l.map AV.str) := by
  rcases h with ⟨rfl, h0⟩ | ⟨tok, rfl⟩
  · rw [h0]; rfl
  · rfl
abbrev RS (H : Hp) (x : AV) (l : List Str) : Prop := RowN 0 H 1 x (l.map AV.str)
theorem RS.app {H : Hp} {x : AV} {l : List Str} (h : RS H x l) {y : AV} {m : List Str} (hy : SS y m) (hl : l.length + m.length ≤ 4194304) : ∃ x' H', aappE 1 16 x y H = some (x', H') ∧ RS H' x' (l ++ m) := by
  obtain ⟨x', H', q1, q2, _, _, _⟩ := RowN.app h (Nat.zero_le _) 16 y (m.map AV.str) (SS.elems hy H) (by simp; omega)
  exact ⟨x', H', q1, by show RowN 0 H' 1 x' ((l ++ m).map AV.str); rw [List.map_append]; exact q2⟩
theorem one_str (s : Str) : (setElems 1 [(0, AV.str s)] [(.str [])]).map (AV.vs 1 .clip) = some (.vs 1 .clip [.str s]) := rfl
theorem one_SS (s : Str) : SS (.vs 1 .clip [.str s]) [s] := .inr ⟨.clip, rfl⟩
theorem RS.done {H : Hp} {x : AV} {l : List Str} (h : RS H x l) (H1 : Hp) : ∃ x', closeV H1 0 6 x = some x' ∧ SS x' l := SS.closed h.sl H1 0 4
structure Fv (K : AV → Prop) (t : Str → Str → Bool) : Prop where
  close : ∀ v, K v → ∃ v', closeV [] 0 6 v = some v' ∧ K v'
  run : ∀ v, K v → ∀ a b : Str, a.length ≤ 1048576 → b.length ≤ 1048576 → ∀ H, acall cfg (callw cfg) v [.str a, .str b] H = some (.bool (t a b), H)
abbrev Lens (l : List Str) : Prop := ∀ s ∈ l, s.length ≤ 1048576
theorem merge_len {f : Str → Str → Int} : ∀ A B : List Str, (mergeL f A B).length = A.length + B.length := by
  intro A B
  induction A, B using mergeL.induct f with
  | case1 b => simp [mergeL_nil]
  | case2 a l => simp [mergeL_nil2]
  | case3 a l b m hc ih => rw [mergeL_cons, if_pos hc, List.length_cons, ih]; simp only [List.length_cons]; omega
  | case4 a l b m hc ih => rw [mergeL_cons, if_neg hc, List.length_cons, ih]; simp only [List.length_cons]; omega
theorem merge_mem' {f : Str → Str → Int} : ∀ (A B : List Str) (x : Str), x ∈ mergeL f A B → x ∈ A ∨ x ∈ B := by
  intro A B x
  induction A, B using mergeL.induct f with
  | case1 b => simp [mergeL_nil]
  | case2 a l => simp [mergeL_nil2]
  | case3 a l b m hc ih =>
    rw [mergeL_cons, if_pos hc, List.mem_cons]
    rintro (h | h)
    · exact .inr (by simp [h])
    · rcases ih h with h | h
      · exact .inl h
      · exact .inr (by simp [h])
  | case4 a l b m hc ih =>
    rw [mergeL_cons, if_neg hc, List.mem_cons]
    rintro (h | h)
    · exact .inl (by simp [h])
    · rcases ih h with h | h
      · exact .inl (by simp [h])
      · exact .inr h
theorem msort_facts {f : Str → Str → Int} : ∀ (n : Nat) (l : List Str), (msortN f n l).length = l.length ∧ ∀ s ∈ msortN f n l, s ∈ l := by
  intro n
  induction n with
  | zero => intro l; exact ⟨rfl, fun s h => h⟩
  | succ n ih =>
    intro l
    unfold msortN
    split
    · exact ⟨rfl, fun s h => h⟩
    · obtain ⟨a1, a2⟩ := ih (l.take (l.length / 2))
      obtain ⟨b1, b2⟩ := ih (l.drop (l.length / 2))
      refine ⟨by rw [merge_len, a1, b1, List.length_take, List.length_drop]; omega, fun s hs => ?_⟩
      rcases merge_mem' _ _ s hs with h | h
      · exact List.mem_of_mem_take (a2 s h)
      · exact List.mem_of_mem_drop (b2 s h)
section
variable {K : AV → Prop} {f : Str → Str → Int} (hK : Fv K fun a b => decide (0 < f a b))
include hK
theorem merge_loop {v : AV} (hv : K v) (H0 : Hp) : ∀ (A B acc : List Str) (x6 x7 x8 : AV) (H : Hp), SS x6 A → SS x7 B → RS H x8 acc → Lens A → Lens B → acc.length + A.length + B.length ≤ 4194304 →
    ∃ y H', memsort_mergeSort_of_string_L1 v x6 x7 x8 H0 H = some (y, H') ∧ RS H' y (acc ++ mergeL f A B) := by
  intro A B
  induction A, B using mergeL.induct f with
  | case1 B =>
    intro acc x6 x7 x8 H h6 h7 h8 hA hB hl
    obtain ⟨y1, H1, q1, q2⟩ := h8.app h6 (by omega)
    obtain ⟨y2, H2, q3, q4⟩ := q2.app h7 (by simp at hl ⊢; omega)
    refine ⟨y2, H2, ?_, by rw [mergeL_nil]; simpa using q4⟩
    have hl6 := SS.len h6 9
    rw [memsort_mergeSort_of_string_L1_eq]
    simp only [go_sem, hl6, List.length_nil, show decide ((0 : Int) < ((0 : Nat) : Int)) = false from rfl, memsort_mergeSort_of_string_J2_eq, q1, q3]
  | case2 a l =>
    intro acc x6 x7 x8 H h6 h7 h8 hA hB hl
    obtain ⟨y1, H1, q1, q2⟩ := h8.app h6 (by simp at hl ⊢; omega)
    obtain ⟨y2, H2, q3, q4⟩ := q2.app h7 (by simp at hl ⊢; omega)
    refine ⟨y2, H2, ?_, by rw [mergeL_nil2]; simpa using q4⟩
    have hl6 := SS.len h6 9
    have hl7 := SS.len h7 9
    have hp : decide ((0 : Int) < (((a :: l).length : Nat) : Int)) = true := by simp
    rw [memsort_mergeSort_of_string_L1_eq]
    simp only [go_sem, hl6, hl7, hp, List.length_nil, show decide ((0 : Int) < ((0 : Nat) : Int)) = false from rfl, memsort_mergeSort_of_string_J2_eq, q1, q3]
  | case3 a l b m hc ih =>
    intro acc x6 x7 x8 H h6 h7 h8 hA hB hl
    have hl6 := SS.len h6 9
    have hl7 := SS.len h7 9
    have hp : decide ((0 : Int) < (((a :: l).length : Nat) : Int)) = true := by simp
    have hp' : decide ((0 : Int) < (((b :: m).length : Nat) : Int)) = true := by simp
    have hi6 := SS.idx h6 (i := 0) (s := a) rfl
    have hi7 := SS.idx h7 (i := 0) (s := b) rfl
    obtain ⟨x7', r1, r2⟩ := SS.lo h7 (n := 1) (by simp)
    have hrun := hK.run v hv a b (hA a (by simp)) (hB b (by simp)) H
    obtain ⟨y1, H1, q1, q2⟩ := h8.app (one_SS b) (by simp at hl ⊢; omega)
    obtain ⟨y, H', q3, q4⟩ := ih (acc ++ [b]) x6 x7' y1 H1 h6 r2 q2 hA (fun s hs => hB s (by simp [hs])) (by simp at hl ⊢; omega)
    refine ⟨y, H', ?_, by rw [mergeL_cons, if_pos hc]; simpa using q4⟩
    rw [show ((0 : Nat) : Int) = 0 from rfl] at hi6 hi7
    rw [show ((1 : Nat) : Int) = 1 from rfl] at r1
    rw [memsort_mergeSort_of_string_L1_eq]
    simp only [go_sem, hl6, hl7, hp, hp', memsort_mergeSort_of_string_J3_eq, hi6, hi7, aload_vpc, hrun, decide_eq_true hc, one_str, q1, r1, q3]
  | case4 a l b m hc ih =>
    intro acc x6 x7 x8 H h6 h7 h8 hA hB hl
    have hl6 := SS.len h6 9
    have hl7 := SS.len h7 9
    have hp : decide ((0 : Int) < (((a :: l).length : Nat) : Int)) = true := by simp
    have hp' : decide ((0 : Int) < (((b :: m).length : Nat) : Int)) = true := by simp
    have hi6 := SS.idx h6 (i := 0) (s := a) rfl
    have hi7 := SS.idx h7 (i := 0) (s := b) rfl
    obtain ⟨x6', r1, r2⟩ := SS.lo h6 (n := 1) (by simp)
    have hrun := hK.run v hv a b (hA a (by simp)) (hB b (by simp)) H
    obtain ⟨y1, H1, q1, q2⟩ := h8.app (one_SS a) (by simp at hl ⊢; omega)
    obtain ⟨y, H', q3, q4⟩ := ih (acc ++ [a]) x6' x7 y1 H1 r2 h7 q2 (fun s hs => hA s (by simp [hs])) hB (by simp at hl ⊢; omega)
    refine ⟨y, H', ?_, by rw [mergeL_cons, if_neg hc]; simpa using q4⟩
    rw [show ((0 : Nat) : Int) = 0 from rfl] at hi6 hi7
    rw [show ((1 : Nat) : Int) = 1 from rfl] at r1
    rw [memsort_mergeSort_of_string_L1_eq]
    simp only [go_sem, hl6, hl7, hp, hp', memsort_mergeSort_of_string_J3_eq, hi6, hi7, aload_vpc, hrun, decide_eq_false hc, one_str, q1, r1, q3]
omit hK in
theorem clone_flat {x : AV} {l : List Str} (h : SS x l) (hl : l.length ≤ 1048576) (H : Hp) : ∃ y, flatC C_slices_Clone_of_string_string [x] H = some (y, H) ∧ SS y l := by
  obtain ⟨x', h1, h2⟩ := SS.closed h [] 0 4
  suffices hs : ∃ y H1, C_slices_Clone_of_string_string [x'] [] = some (y, H1) ∧ SS y l by
    obtain ⟨y, H1, q1, q2⟩ := hs
    obtain ⟨y', q3, q4⟩ := SS.closed q2 H1 0 4
    exact ⟨y', flatC_eq h1 q1 q3, q4⟩
  rw [F_slices_Clone_of_string_string_eq]
  unfold F_slices_Clone_of_string_string
  have h2' := h2
  rcases h2 with ⟨rfl, h0⟩ | ⟨tok, rfl⟩
  · have : l = [] := List.map_eq_nil_iff.1 h0
    subst this
    exact ⟨.nils, [], rfl, .inl ⟨rfl, rfl⟩⟩
  · have e1 : ebin (.slice 9) .eql (.vs 1 tok (l.map AV.str)) .nils = some (.bool false) := rfl
    have e2 : (setElems 1 [] []).map (AV.vs 1 .clip) = some (.vs 1 .clip []) := rfl
    simp only [e1, go_sem, slices_Clone_of_string_string_J1_eq, e2, aappE, SS.elems h2']
    unfold aappend
    have hf : fits (([] : List AV).length + (l.map AV.str).length) 16 = true := by simp [fits]; omega
    simp only [hf, and_self, if_true]
    by_cases h0 : l.map AV.str = []
    · exact ⟨.vs 1 .clip [], [], by simp [h0, bnd_some], .inr ⟨.clip, by rw [h0]⟩⟩
    · refine ⟨.vs 1 (.own 0 l.length) (l.map AV.str), [.tok l.length], by simp [h0, bnd_some], .inr ⟨_, rfl⟩⟩
theorem msort_flat : ∀ (n : Nat) (l : List Str) (x v : AV), l.length ≤ n → l.length ≤ 1048576 → Lens l → SS x l → K v → ∀ H, ∃ y, flatC C_memsort_mergeSort_of_string [x, v] H = some (y, H) ∧ SS y (msortN f n l) := by
  intro n
  induction n with
  | zero =>
    intro l x v hn hl hL hx hv H
    have : l = [] := List.length_eq_zero_iff.1 (by omega)
    subst this
    obtain ⟨x', c1, c2⟩ := SS.closed hx [] 0 4
    obtain ⟨v', c3, c4⟩ := hK.close v hv
    obtain ⟨y, p1, p2⟩ := clone_flat c2 hl []
    have p3 := SS.len c2 9
    obtain ⟨y', q1, q2⟩ := SS.closed p2 [] 0 4
    refine ⟨y', flatC_eq2 c1 c3 ?_ q1, q2⟩
    rw [F_memsort_mergeSort_of_string_eq]
    unfold F_memsort_mergeSort_of_string
    simp only [go_sem, p3, List.length_nil, show decide (((0 : Nat) : Int) < 2) = true from rfl, p1]
  | succ n ih =>
    intro l x v hn hl hL hx hv H
    obtain ⟨x', c1, c2⟩ := SS.closed hx [] 0 4
    obtain ⟨v', c3, c4⟩ := hK.close v hv
    have p3 := SS.len c2 9
    unfold msortN
    by_cases h2 : l.length < 2
    · have hd : decide ((l.length : Int) < 2) = true := by simp; omega
      obtain ⟨y, p1, p2⟩ := clone_flat c2 hl []
      obtain ⟨y', q1, q2⟩ := SS.closed p2 [] 0 4
      rw [if_pos h2]
      refine ⟨y', flatC_eq2 c1 c3 ?_ q1, q2⟩
      rw [F_memsort_mergeSort_of_string_eq]
      unfold F_memsort_mergeSort_of_string
      simp only [go_sem, p3, hd, p1]
    · rw [if_neg h2]
      have hd : decide ((l.length : Int) < 2) = false := by simp; omega
      have hq : ibin .quo (.int .i64 (l.length : Int)) (.int .i64 2) = some (.int .i64 ((l.length / 2 : Nat) : Int)) := by
        simp [ibin, ashift, intbin]
        exact wrap64 (by omega) (by omega)
      obtain ⟨xa, a1, a2⟩ := SS.hi c2 (n := l.length / 2) (by omega)
      obtain ⟨xb, b1, b2⟩ := SS.lo c2 (n := l.length / 2) (by omega)
      obtain ⟨ya, a3, a4⟩ := ih (l.take (l.length / 2)) xa v' (by rw [List.length_take]; omega) (by rw [List.length_take]; omega) (fun s hs => hL s (List.mem_of_mem_take hs)) a2 c4 []
      obtain ⟨yb, b3, b4⟩ := ih (l.drop (l.length / 2)) xb v' (by rw [List.length_drop]; omega) (by rw [List.length_drop]; omega) (fun s hs => hL s (List.mem_of_mem_drop hs)) b2 c4 []
      obtain ⟨fa1, fa2⟩ := msort_facts (f := f) n (l.take (l.length / 2))
      obtain ⟨fb1, fb2⟩ := msort_facts (f := f) n (l.drop (l.length / 2))
      have hmake : amake 1 16 false (.str []) (.int .i64 0) (.int .i64 (l.length : Int)) [] = some (.vs 1 (.own 0 0) [], [.tok 0]) := by
        have hf : fits (l.length : Int).toNat 16 = true := by simp [fits]; omega
        unfold amake
        dsimp only
        rw [if_pos ⟨Int.le_refl _, by omega, rfl, rfl, by decide, hf⟩]
        simp
      have hrow : RS [AObj.tok 0] (.vs 1 (.own 0 0) []) [] := .inr ⟨0, 0, rfl, rfl, Nat.le_refl _⟩
      obtain ⟨y, H', q1, q2⟩ := merge_loop hK c4 [] (msortN f n (l.take (l.length / 2))) (msortN f n (l.drop (l.length / 2))) [] ya yb _ _ a4 b4 hrow
        (fun s hs => hL s (List.mem_of_mem_take (fa2 s hs))) (fun s hs => hL s (List.mem_of_mem_drop (fb2 s hs))) (by rw [fa1, fb1, List.length_take, List.length_drop, List.length_nil]; omega)
      rw [List.nil_append] at q2
      obtain ⟨y', q3, q4⟩ := q2.done H'
      refine ⟨y', flatC_eq2 c1 c3 ?_ q3, q4⟩
      rw [F_memsort_mergeSort_of_string_eq]
      unfold F_memsort_mergeSort_of_string
      simp only [go_sem, p3, hd, memsort_mergeSort_of_string_J1_eq, hq, a1, a3, b1, b3, hmake, q1]
end
theorem onceL_len {g : Str → Str → Int} : ∀ (l out : List Str), (onceL g out l).length ≤ out.length + l.length := by
  intro l
  induction l with
  | nil => intro out; simp [onceL]
  | cons x l ih =>
    intro out
    unfold onceL
    refine Nat.le_trans (ih _) ?_
    split <;> simp <;> omega
theorem once_loop {K : AV → Prop} {g : Str → Str → Int} (hK : Fv K fun a b => g a b == 0) {v : AV} (hv : K v) {x : AV} {l : List Str} (hx : SS x l) (hL : Lens l) (hl : l.length ≤ 1048576) (H0 : Hp) : ∀ (r done out : List Str) (x5 : AV) (H : Hp), l = done ++ r → RS H x5 out → Lens out → out.length ≤ done.length →
    ∃ y H', memsort_once_of_string_L1 v x5 x (.int .i64 (l.length : Int)) (.int .i64 (done.length : Int)) H0 H = some (y, H') ∧ RS H' y (onceL g out r) := by
  intro r
  induction r with
  | nil =>
    intro done out x5 H hd h5 ho hod
    rw [List.append_nil] at hd
    subst hd
    have hlt : decide ((l.length : Int) < (l.length : Int)) = false := by simp
    refine ⟨x5, H, ?_, h5⟩
    rw [memsort_once_of_string_L1_eq]
    simp only [go_sem, hlt, memsort_once_of_string_J1_eq]
  | cons a r ih =>
    intro done out x5 H hd h5 ho hod
    have hlen : l.length = done.length + (r.length + 1) := by rw [hd]; simp
    have hlt : decide ((done.length : Int) < (l.length : Int)) = true := by simp; omega
    have hw1 : IntKind.i64.wrap ((done.length : Int) + 1) = ((done.length + 1 : Nat) : Int) := by rw [wrap64 (by omega) (by omega)]; omega
    have hia : l[done.length]? = some a := by rw [hd, List.getElem?_append_right (Nat.le_refl _)]; simp
    have hi := SS.idx hx hia
    have haL : a.length ≤ 1048576 := hL a (List.mem_of_getElem? hia)
    have h5l := SS.len h5.sl 9
    obtain ⟨y1, H1, q1, q2⟩ := h5.app (one_SS a) (by simp; omega)
    have keepit : ∀ out' x5' H', RS H' x5' out' → Lens out' → out'.length ≤ done.length + 1 → ∃ y H'', memsort_once_of_string_J3 v x5' x (.int .i64 (l.length : Int)) (.int .i64 (done.length : Int)) H0 H' = some (y, H'') ∧ RS H'' y (onceL g out' r) := fun out' x5' H' h1 h2 h3 => by
      obtain ⟨y, H'', p1, p2⟩ := ih (done ++ [a]) out' x5' H' (by rw [hd]; simp) h1 h2 (by simpa using h3)
      rw [List.length_append, List.length_singleton] at p1
      exact ⟨y, H'', by simp only [memsort_once_of_string_J3_eq, go_sem, hw1, p1], p2⟩
    have hlens' : Lens (out ++ [a]) := fun s hs => by
      rcases List.mem_append.1 hs with h | h
      · exact ho s h
      · rw [List.mem_singleton.1 h]; exact haL
    have hJ2 : ∃ y H', memsort_once_of_string_J2 v x5 x (.int .i64 (l.length : Int)) (.int .i64 (done.length : Int)) (.bool true) H0 H = some (y, H') ∧ RS H' y (onceL g out (a :: r)) := by
      rw [memsort_once_of_string_J2_eq]
      unfold onceL
      cases hol : out.getLast? with
      | none =>
        have : out = [] := List.getLast?_eq_none_iff.1 hol
        subst this
        rw [show sameLast g [] a = false from rfl]
        obtain ⟨y, H'', p1, p2⟩ := keepit _ _ _ q2 hlens' (by simp)
        refine ⟨y, H'', ?_, by simpa using p2⟩
        simp only [go_sem, hi, aload_vpc, h5l, List.length_nil, show (((0 : Nat) : Int) == 0) = true from rfl, one_str, q1, p1]
      | some z =>
        have hne : out ≠ [] := fun e => by subst e; simp at hol
        have hpos : 0 < out.length := List.length_pos_iff.2 hne
        have hzi : out[out.length - 1]? = some z := by rw [← List.getLast?_eq_getElem?]; exact hol
        have h0 : ((out.length : Int) == 0) = false := by rw [beq_eq_false_iff_ne]; omega
        have hwm : IntKind.i64.wrap ((out.length : Int) - 1) = ((out.length - 1 : Nat) : Int) := by rw [wrap64 (by omega) (by omega)]; omega
        have hiz := SS.idx h5.sl hzi
        have hrun := hK.run v hv z a (ho z (List.mem_of_getElem? hzi)) haL H
        have hsl : sameLast g out a = (g z a == 0) := by unfold sameLast; rw [hol]
        simp only [go_sem, hi, aload_vpc, h5l, h0, hwm, hiz, hrun, hsl]
        cases hg : (g z a == 0) with
        | true =>
          obtain ⟨y, H'', p1, p2⟩ := keepit _ _ _ h5 ho (by omega)
          exact ⟨y, H'', by simp only [Bool.not_true, go_sem, p1], by simpa using p2⟩
        | false =>
          obtain ⟨y, H'', p1, p2⟩ := keepit _ _ _ q2 hlens' (by simp; omega)
          exact ⟨y, H'', by simp only [Bool.not_false, go_sem, one_str, q1, p1], by simpa using p2⟩
    obtain ⟨y, H', p1, p2⟩ := hJ2
    refine ⟨y, H', ?_, p2⟩
    rw [memsort_once_of_string_L1_eq]
    simp only [go_sem, hlt, p1]
theorem once_flat {K : AV → Prop} {g : Str → Str → Int} (hK : Fv K fun a b => g a b == 0) {v : AV} (hv : K v) {x : AV} {l : List Str} (hx : SS x l) (hL : Lens l) (hl : l.length ≤ 1048576) (H : Hp) : ∃ y, flatC C_memsort_once_of_string [x, v] H = some (y, H) ∧ SS y (onceL g [] l) := by
  obtain ⟨x', c1, c2⟩ := SS.closed hx [] 0 4
  obtain ⟨v', c3, c4⟩ := hK.close v hv
  obtain ⟨y, H', p1, p2⟩ := once_loop hK c4 c2 hL hl [] l [] [] .nils [] rfl (RowN.nil _ _ _) (fun s hs => by cases hs) (Nat.le_refl _)
  rw [List.length_nil, show ((0 : Nat) : Int) = 0 from rfl] at p1
  obtain ⟨y', q1, q2⟩ := p2.done H'
  refine ⟨y', flatC_eq2 c1 c3 ?_ q1, q2⟩
  have p3 := SS.len c2 9
  rw [F_memsort_once_of_string_eq]
  unfold F_memsort_once_of_string
  simp only [go_sem, p3, p1]
end Go.Am
namespace Go.Am
open Go.Proofs Go.Proofs.YtomfadecfjephaaDoor
set_option maxRecDepth 100000
section
variable {H : Type}
theorem strs_tv {n : Nat} {d : DataW H} {vals : List AV} (h : TV Tryd.prog n 30 d vals) (hb : Small d) : ∃ (x : AV) (ks : List Str), vals = [x] ∧ Sl 1 x (ks.map AV.str) ∧ (∀ k ∈ ks, k.length ≤ 1048576) ∧ ks.length ≤ 1048576 :=
  list_tv (f := AV.str) (q := fun s : Str => s.length ≤ 1048576) under_30 cells_9 (fun m d' cs ht hb => by
    obtain ⟨s, es, rfl, _⟩ := ht.str under_9
    rw [es] at hb
    have hs : s.length ≤ 1048576 := small_str hb
    exact ⟨s, hs, by rw [agg_9, ofCells_one]⟩) h hb
theorem strs_of {d : DataW H} {a : AV} (h : AT Tryd.prog 30 d a) (hb : Small d) : ∃ l : List Str, SS a l ∧ Lens l ∧ l.length ≤ 1048576 := by
  obtain ⟨n, vals, ht, rfl⟩ := h
  obtain ⟨x, ks, rfl, h1, h2, h3⟩ := strs_tv ht hb
  rw [agg_30, ofCells_one]
  exact ⟨ks, h1, h2, h3⟩
end
end Go.Am
