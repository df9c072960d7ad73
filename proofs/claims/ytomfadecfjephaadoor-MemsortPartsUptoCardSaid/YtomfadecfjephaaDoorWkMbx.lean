/-
  Sorting in the machine: merge sort with a comparison that is a function value.
-/
import Derived.Test.YtomfadecfjephaaDoorWkYax
import Derived.Test.YtomfadecfjephaaDoorWkGMx
namespace Go.Am
set_option linter.unusedSimpArgs false
set_option linter.unusedVariables false
set_option linter.unusedSectionVars false
set_option maxRecDepth 100000

abbrev Str := List UInt8
abbrev SS (x : AV) (l : List Str) : Prop := Sl 1 x (l.map AV.str)
theorem SS.len {x : AV} {l : List Str} (h : SS x l) (e : Nat) : alenD (.slice e) x = some (.int .i64 (l.length : Int)) := by
  have := Sl.len h e
  rwa [List.length_map] at this
theorem SS.idx {x : AV} {l : List Str} (h : SS x l) {i : Nat} {s : Str} (hi : l[i]? = some s) : aindexS 1 x (.int .i64 (i : Int)) = some (.vp [.str s]) := Sl.idx h (c := .str s) (by simp [hi])
theorem SS.closed {x : AV} {l : List Str} (h : SS x l) (H : Hp) (n f : Nat) : ∃ x', closeV H n (f + 2) x = some x' ∧ SS x' l :=
  Sl.close h (f := f + 1) (fun y hy => by obtain ⟨m, _, rfl⟩ := List.mem_map.1 hy; rfl)
theorem SS.lo {x : AV} {l : List Str} (h : SS x l) {n : Nat} (hn : n ≤ l.length) : ∃ x', asliceV 1 x (some (.int .i64 (n : Int))) none none = some x' ∧ SS x' (l.drop n) := by
  rcases h with ⟨rfl, h0⟩ | ⟨tok, rfl⟩
  · have : l = [] := List.map_eq_nil_iff.1 h0
    subst this
    have hn0 : n = 0 := by simpa using hn
    subst hn0
    exact ⟨.nils, asliceV_nils_lo 1 .i64, .inl ⟨rfl, rfl⟩⟩
  · exact ⟨_, asliceV_lo 1 tok .i64 (by omega) (by simp; omega), .inr ⟨tok, by simp⟩⟩
theorem asliceV_hi {l : List AV} {n : Nat} (z : Nat) (t : Tok) (h1 : n ≤ l.length) : ∃ t', asliceV z (.vs z t l) none (some (.int .i64 (n : Int))) none = some (.vs z t' (l.take n)) := by
  refine ⟨if n = l.length then t else .no, ?_⟩
  simp only [asliceV]
  delta abounds
  simp [abound, h1]
theorem SS.hi {x : AV} {l : List Str} (h : SS x l) {n : Nat} (hn : n ≤ l.length) : ∃ x', asliceV 1 x none (some (.int .i64 (n : Int))) none = some x' ∧ SS x' (l.take n) := by
  rcases h with ⟨rfl, h0⟩ | ⟨tok, rfl⟩
  · have : l = [] := List.map_eq_nil_iff.1 h0
    subst this
    have hn0 : n = 0 := by simpa using hn
    subst hn0
    refine ⟨.nils, ?_, .inl ⟨rfl, by simp⟩⟩
    simp only [asliceV]
    delta abounds
    simp [abound]
  · obtain ⟨t', h1⟩ := asliceV_hi 1 tok (l := l.map AV.str) (n := n) (by simp; omega)
    exact ⟨_, h1, .inr ⟨t', by simp⟩⟩
theorem SS.elems {x : AV} {l : List Str} (h : SS x l) (H : Hp) : elems 1 x H = some (l.map AV.str) := by
  rcases h with ⟨rfl, h0⟩ | ⟨tok, rfl⟩
  · rw [h0]; rfl
  · rfl
abbrev RS (H : Hp) (x : AV) (l : List Str) : Prop := RowN 0 H 1 x (l.map AV.str)
theorem RS.app {H : Hp} {x : AV} {l : List Str} (h : RS H x l) {y : AV} {m : List Str} (hy : SS y m) (hl : l.length + m.length ≤ 4194304) : ∃ x' H', aappE 1 16 x y H = some (x', H') ∧ RS H' x' (l ++ m) := by
  obtain ⟨x', H', q1, q2, _, _, _⟩ := RowN.app h (Nat.zero_le _) 16 y (m.map AV.str) (SS.elems hy H) (by simp; omega)
  exact ⟨x', H', q1, by show RowN 0 H' 1 x' ((l ++ m).map AV.str); rw [List.map_append]; exact q2⟩
theorem one_str (s : Str) : (setElems 1 [(0, AV.str s)] [(.str [])]).map (AV.vs 1 .clip) = some (.vs 1 .clip [.str s]) := rfl
theorem one_SS (s : Str) : SS (.vs 1 .clip [.str s]) [s] := .inr ⟨.clip, rfl⟩
theorem RS.done {H : Hp} {x : AV} {l : List Str} (h : RS H x l) (H1 : Hp) : ∃ x', closeV H1 0 6 x = some x' ∧ SS x' l := SS.closed h.sl H1 0 4
structure Fv (K : AV → Prop) (t : Str → Str → Bool) : Prop where
  close : ∀ v, K v → ∃ v', closeV [] 0 6 v = some v' ∧ K v'
  run : ∀ v, K v → ∀ a b : Str, a.length ≤ 1048576 → b.length ≤ 1048576 → ∀ H, acall cfg (callw cfg) v [.str a, .str b] H = some (.bool (t a b), H)
abbrev Lens (l : List Str) : Prop := ∀ s ∈ l, s.length ≤ 1048576
theorem merge_len {f : Str → Str → Int} : ∀ A B : List Str, (mergeL f A B).length = A.length + B.length := by
  intro A B
  induction A, B using mergeL.induct f with
  | case1 b => simp [mergeL_nil]
  | case2 a l => simp [mergeL_nil2]
  | case3 a l b m hc ih => rw [mergeL_cons, if_pos hc, List.length_cons, ih]; simp only [List.length_cons]; omega
  | case4 a l b m hc ih => rw [mergeL_cons, if_neg hc, List.length_cons, ih]; simp only [List.length_cons]; omega
theorem merge_mem' {f : Str → Str → Int} : ∀ (A B : List Str) (x : Str), x ∈ mergeL f A B → x ∈ A ∨ x ∈ B := by
  intro A B x
  induction A, B using mergeL.induct f with
  | case1 b => simp [mergeL_nil]
  | case2 a l => simp [mergeL_nil2]
  | case3 a l b m hc ih =>
    rw [mergeL_cons, if_pos hc, List.mem_cons]
    rintro (h | h)
    · exact .inr (by simp [h])
    · rcases ih h with h | h
      · exact .inl h
      · exact .inr (by simp [h])
  | case4 a l b m hc ih =>
    rw [mergeL_cons, if_neg hc, List.mem_cons]
    rintro (h | h)
    · exact .inl (by simp [h])
    · rcases ih h with h | h
      · exact .inl (by simp [h])
      · exact .inr h
theorem msort_facts {f : Str → Str → Int} : ∀ (n : Nat) (l : List Str), (msortN f n l).length = l.length ∧ ∀ s ∈ msortN f n l, s ∈ l := by
  intro n
  induction n with
  | zero => intro l; exact ⟨rfl, fun s h => h⟩
  | succ n ih =>
    intro l
    unfold msortN
    split
    · exact ⟨rfl, fun s h => h⟩
    · obtain ⟨a1, a2⟩ := ih (l.take (l.length / 2))
      obtain ⟨b1, b2⟩ := ih (l.drop (l.length / 2))
      refine ⟨by rw [merge_len, a1, b1, List.length_take, List.length_drop]; omega, fun s hs => ?_⟩
      rcases merge_mem' _ _ s hs with h | h
      · exact List.mem_of_mem_take (a2 s h)
      · exact List.mem_of_mem_drop (b2 s h)
section
variable {K : AV → Prop} {f : Str → Str → Int} (hK : Fv K fun a b => decide (0 < f a b))
include hK
theorem merge_loop {v : AV} (hv : K v) (H0 : Hp) : ∀ (A B acc : List Str) (x6 x7 x8 : AV) (H : Hp), SS x6 A → SS x7 B → RS H x8 acc → Lens A → Lens B → acc.length + A.length + B.length ≤ 4194304 →
    ∃ y H', memsort_mergeSort_of_string_L1 v x6 x7 x8 H0 H = some (y, H') ∧ RS H' y (acc ++ mergeL f A B) := by
  intro A B
  induction A, B using mergeL.induct f with
  | case1 B =>
    intro acc x6 x7 x8 H h6 h7 h8 hA hB hl
    obtain ⟨y1, H1, q1, q2⟩ := h8.app h6 (by omega)
    obtain ⟨y2, H2, q3, q4⟩ := q2.app h7 (by simp at hl ⊢; omega)
    refine ⟨y2, H2, ?_, by rw [mergeL_nil]; simpa using q4⟩
    have hl6 := SS.len h6 9
    rw [memsort_mergeSort_of_string_L1_eq]
    simp only [go_sem, hl6, List.length_nil, show decide ((0 : Int) < ((0 : Nat) : Int)) = false from rfl, memsort_mergeSort_of_string_J2_eq, q1, q3]
  | case2 a l =>
    intro acc x6 x7 x8 H h6 h7 h8 hA hB hl
    obtain ⟨y1, H1, q1, q2⟩ := h8.app h6 (by simp at hl ⊢; omega)
    obtain ⟨y2, H2, q3, q4⟩ := q2.app h7 (by simp at hl ⊢; omega)
    refine ⟨y2, H2, ?_, by rw [mergeL_nil2]; simpa using q4⟩
    have hl6 := SS.len h6 9
    have hl7 := SS.len h7 9
    have hp : decide ((0 : Int) < (((a :: l).length : Nat) : Int)) = true := by simp
    rw [memsort_mergeSort_of_string_L1_eq]
    simp only [go_sem, hl6, hl7, hp, List.length_nil, show decide ((0 : Int) < ((0 : Nat) : Int)) = false from rfl, memsort_mergeSort_of_string_J2_eq, q1, q3]
  | case3 a l b m hc ih =>
    intro acc x6 x7 x8 H h6 h7 h8 hA hB hl
    have hl6 := SS.len h6 9
    have hl7 := SS.len h7 9
    have hp : decide ((0 : Int) < (((a :: l).length : Nat) : Int)) = true := by simp
    have hp' : decide ((0 : Int) < (((b :: m).length : Nat) : Int)) = true := by simp
    have hi6 := SS.idx h6 (i := 0) (s := a) rfl
    have hi7 := SS.idx h7 (i := 0) (s := b) rfl
    obtain ⟨x7', r1, r2⟩ := SS.lo h7 (n := 1) (by simp)
    have hrun := hK.run v hv a b (hA a (by simp)) (hB b (by simp)) H
    obtain ⟨y1, H1, q1, q2⟩ := h8.app (one_SS b) (by simp at hl ⊢; omega)
    obtain ⟨y, H', q3, q4⟩ := ih (acc ++ [b]) x6 x7' y1 H1 h6 r2 q2 hA (fun s hs => hB s (by simp [hs])) (by simp at hl ⊢; omega)
    refine ⟨y, H', ?_, by rw [mergeL_cons, if_pos hc]; simpa using q4⟩
    rw [show ((0 : Nat) : Int) = 0 from rfl] at hi6 hi7
    rw [show ((1 : Nat) : Int) = 1 from rfl] at r1
    rw [memsort_mergeSort_of_string_L1_eq]
    simp only [go_sem, hl6, hl7, hp, hp', memsort_mergeSort_of_string_J3_eq, hi6, hi7, aload_vpc, hrun, decide_eq_true hc, one_str, q1, r1, q3]
  | case4 a l b m hc ih =>
    intro acc x6 x7 x8 H h6 h7 h8 hA hB hl
    have hl6 := SS.len h6 9
    have hl7 := SS.len h7 9
    have hp : decide ((0 : Int) < (((a :: l).length : Nat) : Int)) = true := by simp
    have hp' : decide ((0 : Int) < (((b :: m).length : Nat) : Int)) = true := by simp
    have hi6 := SS.idx h6 (i := 0) (s := a) rfl
    have hi7 := SS.idx h7 (i := 0) (s := b) rfl
    obtain ⟨x6', r1, r2⟩ := SS.lo h6 (n := 1) (by simp)
    have hrun := hK.run v hv a b (hA a (by simp)) (hB b (by simp)) H
    obtain ⟨y1, H1, q1, q2⟩ := h8.app (one_SS a) (by simp at hl ⊢; omega)
    obtain ⟨y, H', q3, q4⟩ := ih (acc ++ [a]) x6' x7 y1 H1 r2 h7 q2 (fun s hs => hA s (by simp [hs])) hB (by simp at hl ⊢; omega)
    refine ⟨y, H', ?_, by rw [mergeL_cons, if_neg hc]; simpa using q4⟩
    rw [show ((0 : Nat) : Int) = 0 from rfl] at hi6 hi7
    rw [show ((1 : Nat) : Int) = 1 from rfl] at r1
    rw [memsort_mergeSort_of_string_L1_eq]
    simp only [go_sem, hl6, hl7, hp, hp', memsort_mergeSort_of_string_J3_eq, hi6, hi7, aload_vpc, hrun, decide_eq_false hc, one_str, q1, r1, q3]
omit hK in
theorem clone_flat {x : AV} {l : List Str} (h : SS x l) (hl : l.length ≤ 1048576) (H : Hp) : ∃ y, flatC C_slices_Clone_of_string_string [x] H = some (y, H) ∧ SS y l := by
  obtain ⟨x', h1, h2⟩ := SS.closed h [] 0 4
  suffices hs : ∃ y H1, C_slices_Clone_of_string_string [x'] [] = some (y, H1) ∧ SS y l by
    obtain ⟨y, H1, q1, q2⟩ := hs
    obtain ⟨y', q3, q4⟩ := SS.closed q2 H1 0 4
    exact ⟨y', flatC_eq h1 q1 q3, q4⟩
  rw [F_slices_Clone_of_string_string_eq]
  unfold F_slices_Clone_of_string_string
  have h2' := h2
  rcases h2 with ⟨rfl, h0⟩ | ⟨tok, rfl⟩
  · have : l = [] := List.map_eq_nil_iff.1 h0
    subst this
    exact ⟨.nils, [], rfl, .inl ⟨rfl, rfl⟩⟩
  · have e1 : ebin (.slice 9) .eql (.vs 1 tok (l.map AV.str)) .nils = some (.bool false) := rfl
    have e2 : (setElems 1 [] []).map (AV.vs 1 .clip) = some (.vs 1 .clip []) := rfl
    simp only [e1, go_sem, slices_Clone_of_string_string_J1_eq, e2, aappE, SS.elems h2']
    unfold aappend
    have hf : fits (([] : List AV).length + (l.map AV.str).length) 16 = true := by simp [fits]; omega
    simp only [hf, and_self, if_true]
    by_cases h0 : l.map AV.str = []
    · exact ⟨.vs 1 .clip [], [], by simp [h0, bnd_some], .inr ⟨.clip, by rw [h0]⟩⟩
    · refine ⟨.vs 1 (.own 0 l.length) (l.map AV.str), [.tok l.length], by simp [h0, bnd_some], .inr ⟨_, rfl⟩⟩
theorem msort_flat : ∀ (n : Nat) (l : List Str) (x v : AV), l.length ≤ n → l.length ≤ 1048576 → Lens l → SS x l → K v → ∀ H, ∃ y, flatC C_memsort_mergeSort_of_string [x, v] H = some (y, H) ∧ SS y (msortN f n l) := by
  intro n
  induction n with
  | zero =>
    intro l x v hn hl hL hx hv H
    have : l = [] := List.length_eq_zero_iff.1 (by omega)
    subst this
    obtain ⟨x', c1, c2⟩ := SS.closed hx [] 0 4
    obtain ⟨v', c3, c4⟩ := hK.close v hv
    obtain ⟨y, p1, p2⟩ := clone_flat c2 hl []
    have p3 := SS.len c2 9
    obtain ⟨y', q1, q2⟩ := SS.closed p2 [] 0 4
    refine ⟨y', flatC_eq2 c1 c3 ?_ q1, q2⟩
    rw [F_memsort_mergeSort_of_string_eq]
    unfold F_memsort_mergeSort_of_string
    simp only [go_sem, p3, List.length_nil, show decide (((0 : Nat) : Int) < 2) = true from rfl, p1]
  | succ n ih =>
    intro l x v hn hl hL hx hv H
    obtain ⟨x', c1, c2⟩ := SS.closed hx [] 0 4
    obtain ⟨v', c3, c4⟩ := hK.close v hv
    have p3 := SS.len c2 9
    unfold msortN
    by_cases h2 : l.length < 2
    · have hd : decide ((l.length : Int) < 2) = true := by simp; omega
      obtain ⟨y, p1, p2⟩ := clone_flat c2 hl []
      obtain ⟨y', q1, q2⟩ := SS.closed p2 [] 0 4
      rw [if_pos h2]
      refine ⟨y', flatC_eq2 c1 c3 ?_ q1, q2⟩
      rw [F_memsort_mergeSort_of_string_eq]
      unfold F_memsort_mergeSort_of_string
      simp only [go_sem, p3, hd, p1]
    · rw [if_neg h2]
      have hd : decide ((l.length : Int) < 2) = false := by simp; omega
      have hq : ibin .quo (.int .i64 (l.length : Int)) (.int .i64 2) = some (.int .i64 ((l.length / 2 : Nat) : Int)) := by
        simp [ibin, ashift, intbin]
        exact wrap64 (by omega) (by omega)
      obtain ⟨xa, a1, a2⟩ := SS.hi c2 (n := l.length / 2) (by omega)
      obtain ⟨xb, b1, b2⟩ := SS.lo c2 (n := l.length / 2) (by omega)
      obtain ⟨ya, a3, a4⟩ := ih (l.take (l.length / 2)) xa v' (by rw [List.length_take]; omega) (by rw [List.length_take]; omega) (fun s hs => hL s (List.mem_of_mem_take hs)) a2 c4 []
      obtain ⟨yb, b3, b4⟩ := ih (l.drop (l.length / 2)) xb v' (by rw [List.length_drop]; omega) (by rw [List.length_drop]; omega) (fun s hs => hL s (List.mem_of_mem_drop hs)) b2 c4 []
      obtain ⟨fa1, fa2⟩ := msort_facts (f := f) n (l.take (l.length / 2))
      obtain ⟨fb1, fb2⟩ := msort_facts (f := f) n (l.drop (l.length / 2))
      have hmake : amake 1 16 false (.str []) (.int .i64 0) (.int .i64 (l.length : Int)) [] = some (.vs 1 (.own 0 0) [], [.tok 0]) := by
        have hf : fits (l.length : Int).toNat 16 = true := by simp [fits]; omega
        unfold amake
        dsimp only
        rw [if_pos ⟨Int.le_refl _, by omega, rfl, rfl, by decide, hf⟩]
        simp
      have hrow : RS [AObj.tok 0] (.vs 1 (.own 0 0) []) [] := .inr ⟨0, 0, rfl, rfl, Nat.le_refl _⟩
      obtain ⟨y, H', q1, q2⟩ := merge_loop hK c4 [] (msortN f n (l.take (l.length / 2))) (msortN f n (l.drop (l.length / 2))) [] ya yb _ _ a4 b4 hrow
        (fun s hs => hL s (List.mem_of_mem_take (fa2 s hs))) (fun s hs => hL s (List.mem_of_mem_drop (fb2 s hs))) (by rw [fa1, fb1, List.length_take, List.length_drop, List.length_nil]; omega)
      rw [List.nil_append] at q2
      obtain ⟨y', q3, q4⟩ := q2.done H'
      refine ⟨y', flatC_eq2 c1 c3 ?_ q3, q4⟩
      rw [F_memsort_mergeSort_of_string_eq]
      unfold F_memsort_mergeSort_of_string
      simp only [go_sem, p3, hd, memsort_mergeSort_of_string_J1_eq, hq, a1, a3, b1, b3, hmake, q1]
end
theorem onceL_len {g : Str → Str → Int} : ∀ (l out : List Str), (onceL g out l).length ≤ out.length + l.length := by
  intro l
  induction l with
  | nil => intro out; simp [onceL]
  | cons x l ih =>
    intro out
    unfold onceL
    refine Nat.le_trans (ih _) ?_
    split <;> simp <;> omega
theorem onceL_mem {g : Str → Str → Int} : ∀ (l out : List Str), ∀ s ∈ onceL g out l, s ∈ out ∨ s ∈ l := by
  intro l
  induction l with
  | nil => intro out s hs; exact .inl hs
  | cons x l ih =>
    intro out s hs
    unfold onceL at hs
    rcases ih _ s hs with h | h
    · split at h
      · exact .inl h
      · rcases List.mem_append.1 h with h | h
        · exact .inl h
        · exact .inr (by rw [List.mem_singleton.1 h]; simp)
    · exact .inr (by simp [h])
theorem once_loop {K : AV → Prop} {g : Str → Str → Int} (hK : Fv K fun a b => g a b == 0) {v : AV} (hv : K v) {x : AV} {l : List Str} (hx : SS x l) (hL : Lens l) (hl : l.length ≤ 1048576) (H0 : Hp) : ∀ (r done out : List Str) (x5 : AV) (H : Hp), l = done ++ r → RS H x5 out → Lens out → out.length ≤ done.length →
    ∃ y H', memsort_once_of_string_L1 v x5 x (.int .i64 (l.length : Int)) (.int .i64 (done.length : Int)) H0 H = some (y, H') ∧ RS H' y (onceL g out r) := by
  intro r
  induction r with
  | nil =>
    intro done out x5 H hd h5 ho hod
    rw [List.append_nil] at hd
    subst hd
    have hlt : decide ((l.length : Int) < (l.length : Int)) = false := by simp
    refine ⟨x5, H, ?_, h5⟩
    rw [memsort_once_of_string_L1_eq]
    simp only [go_sem, hlt, memsort_once_of_string_J1_eq]
  | cons a r ih =>
    intro done out x5 H hd h5 ho hod
    have hlen : l.length = done.length + (r.length + 1) := by rw [hd]; simp
    have hlt : decide ((done.length : Int) < (l.length : Int)) = true := by simp; omega
    have hw1 : IntKind.i64.wrap ((done.length : Int) + 1) = ((done.length + 1 : Nat) : Int) := by rw [wrap64 (by omega) (by omega)]; omega
    have hia : l[done.length]? = some a := by rw [hd, List.getElem?_append_right (Nat.le_refl _)]; simp
    have hi := SS.idx hx hia
    have haL : a.length ≤ 1048576 := hL a (List.mem_of_getElem? hia)
    have h5l := SS.len h5.sl 9
    obtain ⟨y1, H1, q1, q2⟩ := h5.app (one_SS a) (by simp; omega)
    have keepit : ∀ out' x5' H', RS H' x5' out' → Lens out' → out'.length ≤ done.length + 1 → ∃ y H'', memsort_once_of_string_J3 v x5' x (.int .i64 (l.length : Int)) (.int .i64 (done.length : Int)) H0 H' = some (y, H'') ∧ RS H'' y (onceL g out' r) := fun out' x5' H' h1 h2 h3 => by
      obtain ⟨y, H'', p1, p2⟩ := ih (done ++ [a]) out' x5' H' (by rw [hd]; simp) h1 h2 (by simpa using h3)
      rw [List.length_append, List.length_singleton] at p1
      exact ⟨y, H'', by simp only [memsort_once_of_string_J3_eq, go_sem, hw1, p1], p2⟩
    have hlens' : Lens (out ++ [a]) := fun s hs => by
      rcases List.mem_append.1 hs with h | h
      · exact ho s h
      · rw [List.mem_singleton.1 h]; exact haL
    have hJ2 : ∃ y H', memsort_once_of_string_J2 v x5 x (.int .i64 (l.length : Int)) (.int .i64 (done.length : Int)) (.bool true) H0 H = some (y, H') ∧ RS H' y (onceL g out (a :: r)) := by
      rw [memsort_once_of_string_J2_eq]
      unfold onceL
      cases hol : out.getLast? with
      | none =>
        have : out = [] := List.getLast?_eq_none_iff.1 hol
        subst this
        rw [show sameLast g [] a = false from rfl]
        obtain ⟨y, H'', p1, p2⟩ := keepit _ _ _ q2 hlens' (by simp)
        refine ⟨y, H'', ?_, by simpa using p2⟩
        simp only [go_sem, hi, aload_vpc, h5l, List.length_nil, show (((0 : Nat) : Int) == 0) = true from rfl, one_str, q1, p1]
      | some z =>
        have hne : out ≠ [] := fun e => by subst e; simp at hol
        have hpos : 0 < out.length := List.length_pos_iff.2 hne
        have hzi : out[out.length - 1]? = some z := by rw [← List.getLast?_eq_getElem?]; exact hol
        have h0 : ((out.length : Int) == 0) = false := by rw [beq_eq_false_iff_ne]; omega
        have hwm : IntKind.i64.wrap ((out.length : Int) - 1) = ((out.length - 1 : Nat) : Int) := by rw [wrap64 (by omega) (by omega)]; omega
        have hiz := SS.idx h5.sl hzi
        have hrun := hK.run v hv z a (ho z (List.mem_of_getElem? hzi)) haL H
        have hsl : sameLast g out a = (g z a == 0) := by unfold sameLast; rw [hol]
        simp only [go_sem, hi, aload_vpc, h5l, h0, hwm, hiz, hrun, hsl]
        cases hg : (g z a == 0) with
        | true =>
          obtain ⟨y, H'', p1, p2⟩ := keepit _ _ _ h5 ho (by omega)
          exact ⟨y, H'', by simp only [Bool.not_true, go_sem, p1], by simpa using p2⟩
        | false =>
          obtain ⟨y, H'', p1, p2⟩ := keepit _ _ _ q2 hlens' (by simp; omega)
          exact ⟨y, H'', by simp only [Bool.not_false, go_sem, one_str, q1, p1], by simpa using p2⟩
    obtain ⟨y, H', p1, p2⟩ := hJ2
    refine ⟨y, H', ?_, p2⟩
    rw [memsort_once_of_string_L1_eq]
    simp only [go_sem, hlt, p1]
theorem once_flat {K : AV → Prop} {g : Str → Str → Int} (hK : Fv K fun a b => g a b == 0) {v : AV} (hv : K v) {x : AV} {l : List Str} (hx : SS x l) (hL : Lens l) (hl : l.length ≤ 1048576) (H : Hp) : ∃ y, flatC C_memsort_once_of_string [x, v] H = some (y, H) ∧ SS y (onceL g [] l) := by
  obtain ⟨x', c1, c2⟩ := SS.closed hx [] 0 4
  obtain ⟨v', c3, c4⟩ := hK.close v hv
  obtain ⟨y, H', p1, p2⟩ := once_loop hK c4 c2 hL hl [] l [] [] .nils [] rfl (RowN.nil _ _ _) (fun s hs => by cases hs) (Nat.le_refl _)
  rw [List.length_nil, show ((0 : Nat) : Int) = 0 from rfl] at p1
  obtain ⟨y', q1, q2⟩ := p2.done H'
  refine ⟨y', flatC_eq2 c1 c3 ?_ q1, q2⟩
  have p3 := SS.len c2 9
  rw [F_memsort_once_of_string_eq]
  unfold F_memsort_once_of_string
  simp only [go_sem, p3, p1]
end Go.Am
namespace Go.Am
open Go.Proofs Go.Proofs.YtomfadecfjephaaDoor
set_option maxRecDepth 100000
section
variable {H : Type}
theorem strs_tv {n : Nat} {d : DataW H} {vals : List AV} (h : TV Tryd.prog n 30 d vals) (hb : Small d) : ∃ (x : AV) (ks : List Str), vals = [x] ∧ Sl 1 x (ks.map AV.str) ∧ (∀ k ∈ ks, k.length ≤ 1048576) ∧ ks.length ≤ 1048576 :=
  list_tv (f := AV.str) (q := fun s : Str => s.length ≤ 1048576) under_30 cells_9 (fun m d' cs ht hb => by
    obtain ⟨s, es, rfl, _⟩ := ht.str under_9
    rw [es] at hb
    have hs : s.length ≤ 1048576 := small_str hb
    exact ⟨s, hs, by rw [agg_9, ofCells_one]⟩) h hb
end
end Go.Am
namespace Go.Am
set_option linter.unusedSimpArgs false
set_option linter.unusedVariables false
set_option linter.unusedSectionVars false
set_option maxRecDepth 100000

def SpecCells (l : List AV) (p : Spec) : Prop := ∃ x, l = p.cells x ∧ Sl 5 x (p.keys.map Ke.av)
theorem SpecCells.close {l : List AV} {p : Spec} (h : SpecCells l p) (H : Hp) (n f : Nat) : ∃ l', l.mapM (closeV H n (f + 3)) = some l' ∧ SpecCells l' p := by
  obtain ⟨x, rfl, hx⟩ := h
  obtain ⟨x', h1, h2⟩ := hx.close (H := H) (n := n) (f := f + 2) (fun c hc => by
    obtain ⟨k, _, rfl⟩ := List.mem_map.1 hc
    exact k.close H n f)
  refine ⟨p.cells x', ?_, x', rfl, h2⟩
  simp only [Spec.cells, List.mapM_cons, h1, List.mapM_nil]
  rfl
def ClK (g : Nat) (L : Loc) (p : Spec) (v : AV) : Prop := ∃ lc sc, v = .fn (.func g) [] [.vp lc, .vp sc] ∧ LocCells lc L ∧ SpecCells sc p
theorem closeV_fn2 (H : Hp) (n f : Nat) (g : Fn) (a b : AV) : closeV H n (f + 1) (.fn g [] [a, b]) = match closeV H n f a, closeV H n f b with
    | some a', some b' => some (.fn g [] [a', b'])
    | _, _ => none := by
  show (match ([] : List AV).mapM (closeV H n f), [a, b].mapM (closeV H n f) with
      | some a, some b => some (AV.fn g a b)
      | _, _ => none) = _
  simp only [List.mapM_nil, List.mapM_cons]
  cases closeV H n f a <;> cases closeV H n f b <;> rfl
theorem ClK.close {g : Nat} {L : Loc} {p : Spec} {v : AV} (h : ClK g L p v) : ∃ v', closeV [] 0 6 v = some v' ∧ ClK g L p v' := by
  obtain ⟨lc, sc, rfl, hl, hs⟩ := h
  obtain ⟨lc', l1, l2⟩ := hl.close [] 0 1
  obtain ⟨sc', s1, s2⟩ := hs.close [] 0 1
  refine ⟨.fn (.func g) [] [.vp lc', .vp sc'], ?_, lc', sc', rfl, l2, s2⟩
  rw [closeV_fn2, closeV_vpl, closeV_vpl, l1, s1]

theorem sort1_run (L : Loc) (hok : LocOk L) (p : Spec) (hks : ∀ k ∈ p.keys, KeOk k) : Fv (ClK 22 L p) fun a b => decide (0 < orderS L p a b) where
  close := fun v hv => ClK.close hv
  run := fun v hv a b ha hb H => by
    obtain ⟨lc, sc, rfl, hl, hs⟩ := hv
    rw [V_memsort_Sort_1]
    obtain ⟨lc', l1, l2⟩ := hl.close [] 0 2
    obtain ⟨sc', s1, s2⟩ := hs.close [] 0 2
    obtain ⟨x, c, e, rfl, hx, hc, he⟩ := l2
    obtain ⟨xs, rfl, hxs⟩ := s2
    have hcl : closeV [] 0 6 (.vp lc) = some (.vp (L.cells x c e)) := by rw [closeV_vpl, l1]
    have hcs : closeV [] 0 6 (.vp sc) = some (.vp (p.cells xs)) := by rw [closeV_vpl, s1]
    have ho := ord_flat (a := .agg (L.cells x c e)) (L := L) ⟨x, c, e, rfl, hx, hc, he⟩ hok (q := .agg (p.cells xs)) (p := p) ⟨xs, rfl, hxs⟩ hks a b ha hb []
    refine flat4 (a' := .str a) (b' := .str b) rfl rfl hcl hcs (H1 := []) ?_ rfl
    rw [F_memsort_Sort_1_eq]
    unfold F_memsort_Sort_1
    simp only [go_sem, aload_vpn 6 (L.cells x c e) rfl, aload_vpn 5 (p.cells xs) rfl, ho]

theorem sort2_run (L : Loc) (hok : LocOk L) (p : Spec) (hks : ∀ k ∈ p.keys, KeOk k) : Fv (ClK 25 L p) fun a b => lineS L p a b == 0 where
  close := fun v hv => ClK.close hv
  run := fun v hv a b ha hb H => by
    obtain ⟨lc, sc, rfl, hl, hs⟩ := hv
    rw [V_memsort_Sort_2]
    obtain ⟨lc', l1, l2⟩ := hl.close [] 0 2
    obtain ⟨sc', s1, s2⟩ := hs.close [] 0 2
    obtain ⟨x, c, e, rfl, hx, hc, he⟩ := l2
    obtain ⟨xs, rfl, hxs⟩ := s2
    have hcl : closeV [] 0 6 (.vp lc) = some (.vp (L.cells x c e)) := by rw [closeV_vpl, l1]
    have hcs : closeV [] 0 6 (.vp sc) = some (.vp (p.cells xs)) := by rw [closeV_vpl, s1]
    have ho := line_flat (a := .agg (L.cells x c e)) (L := L) ⟨x, c, e, rfl, hx, hc, he⟩ hok (q := .agg (p.cells xs)) (p := p) ⟨xs, rfl, hxs⟩ hks a b ha hb []
    refine flat4 (a' := .str a) (b' := .str b) rfl rfl hcl hcs (H1 := []) ?_ rfl
    rw [F_memsort_Sort_2_eq]
    unfold F_memsort_Sort_2
    simp only [go_sem, aload_vpn 6 (L.cells x c e) rfl, aload_vpn 5 (p.cells xs) rfl, ho]

theorem merge1_run (L : Loc) (hok : LocOk L) (p : Spec) (hks : ∀ k ∈ p.keys, KeOk k) : Fv (ClK 32 L p) fun a b => decide (0 < orderS L p a b) where
  close := fun v hv => ClK.close hv
  run := fun v hv a b ha hb H => by
    obtain ⟨lc, sc, rfl, hl, hs⟩ := hv
    rw [V_memsort_Merge_1]
    obtain ⟨lc', l1, l2⟩ := hl.close [] 0 2
    obtain ⟨sc', s1, s2⟩ := hs.close [] 0 2
    obtain ⟨x, c, e, rfl, hx, hc, he⟩ := l2
    obtain ⟨xs, rfl, hxs⟩ := s2
    have hcl : closeV [] 0 6 (.vp lc) = some (.vp (L.cells x c e)) := by rw [closeV_vpl, l1]
    have hcs : closeV [] 0 6 (.vp sc) = some (.vp (p.cells xs)) := by rw [closeV_vpl, s1]
    have ho := ord_flat (a := .agg (L.cells x c e)) (L := L) ⟨x, c, e, rfl, hx, hc, he⟩ hok (q := .agg (p.cells xs)) (p := p) ⟨xs, rfl, hxs⟩ hks a b ha hb []
    refine flat4 (a' := .str a) (b' := .str b) rfl rfl hcl hcs (H1 := []) ?_ rfl
    rw [F_memsort_Merge_1_eq]
    unfold F_memsort_Merge_1
    simp only [go_sem, aload_vpn 6 (L.cells x c e) rfl, aload_vpn 5 (p.cells xs) rfl, ho]

theorem merge2_run (L : Loc) (hok : LocOk L) (p : Spec) (hks : ∀ k ∈ p.keys, KeOk k) : Fv (ClK 35 L p) fun a b => lineS L p a b == 0 where
  close := fun v hv => ClK.close hv
  run := fun v hv a b ha hb H => by
    obtain ⟨lc, sc, rfl, hl, hs⟩ := hv
    rw [V_memsort_Merge_2]
    obtain ⟨lc', l1, l2⟩ := hl.close [] 0 2
    obtain ⟨sc', s1, s2⟩ := hs.close [] 0 2
    obtain ⟨x, c, e, rfl, hx, hc, he⟩ := l2
    obtain ⟨xs, rfl, hxs⟩ := s2
    have hcl : closeV [] 0 6 (.vp lc) = some (.vp (L.cells x c e)) := by rw [closeV_vpl, l1]
    have hcs : closeV [] 0 6 (.vp sc) = some (.vp (p.cells xs)) := by rw [closeV_vpl, s1]
    have ho := line_flat (a := .agg (L.cells x c e)) (L := L) ⟨x, c, e, rfl, hx, hc, he⟩ hok (q := .agg (p.cells xs)) (p := p) ⟨xs, rfl, hxs⟩ hks a b ha hb []
    refine flat4 (a' := .str a) (b' := .str b) rfl rfl hcl hcs (H1 := []) ?_ rfl
    rw [F_memsort_Merge_2_eq]
    unfold F_memsort_Merge_2
    simp only [go_sem, aload_vpn 6 (L.cells x c e) rfl, aload_vpn 5 (p.cells xs) rfl, ho]

def sortS (L : Loc) (p : Spec) (l : List Str) : List Str :=
  if (checkS p != 0) = true then l else if p.uniq then onceL (lineS L p) [] (insL (orderS L p) l) else insL (orderS L p) l
theorem ins_msort (L : Loc) (p : Spec) (l : List Str) : msortN (orderS L p) l.length l = insL (orderS L p) l := msort_ins (orderS_cm L p) l (Nat.le_refl _)
theorem ins_facts (L : Loc) (p : Spec) (l : List Str) : (insL (orderS L p) l).length = l.length ∧ ∀ s ∈ insL (orderS L p) l, s ∈ l := by
  rw [← ins_msort]
  exact msort_facts _ _
theorem flat3c {f : List AV → Hp → Res} {a a' b b' c c' v v' : AV} {H H1 : Hp} (ha : closeV [] 0 6 a = some a') (hb : closeV [] 0 6 b = some b') (hd : closeV [] 0 6 c = some c') (hc : f [a', b', c'] [] = some (v, H1)) (hv : closeV H1 0 6 v = some v') : flatC f [a, b, c] H = some (v', H) :=
  flatC_cl (args' := [a', b', c']) (by simp [ha, hb, hd]) hc hv
theorem sort_flat {a : AV} {L : Loc} (h : LocAV a L) (hok : LocOk L) {q : AV} {p : Spec} (hq : SpecAV q p) (hks : ∀ k ∈ p.keys, KeOk k) {x : AV} {l : List Str} (hx : SS x l) (hL : Lens l) (hl : l.length ≤ 1048576) (H : Hp) :
    ∃ y, flatC C_memsort_Sort [a, q, x] H = some (y, H) ∧ SS y (sortS L p l) := by
  obtain ⟨a1, h1, h2⟩ := h.close [] 0 2
  obtain ⟨q1, g1, g2⟩ := hq.close [] 0 2
  obtain ⟨x1, k1, k2⟩ := SS.closed hx [] 0 4
  have hck := fun H => check_flat g2 H
  obtain ⟨lx, c, e, rfl, hlx, hc, he⟩ := h2
  obtain ⟨xp, rfl, hxp⟩ := g2
  suffices hs : ∃ y H1, C_memsort_Sort [.agg (L.cells lx c e), .agg (p.cells xp), x1] [] = some (y, H1) ∧ SS y (sortS L p l) by
    obtain ⟨y, H1, r1, r2⟩ := hs
    obtain ⟨y', r3, r4⟩ := SS.closed r2 H1 0 4
    exact ⟨y', flat3c h1 g1 k1 r1 r3, r4⟩
  have hl5 : aload true 5 (.ptr 1 0) [AObj.cells (L.cells lx c e), .cells (p.cells xp)] = some (.agg (p.cells xp)) := by simp [aload, Go.Am.apart, Spec.cells]
  rw [F_memsort_Sort_eq]
  unfold F_memsort_Sort sortS
  cases hb : (checkS p != 0) with
  | true =>
    obtain ⟨y, p1, p2⟩ := clone_flat k2 hl [AObj.cells (L.cells lx c e), .cells (p.cells xp)]
    refine ⟨y, [AObj.cells (L.cells lx c e), .cells (p.cells xp)], ?_, by rw [if_pos rfl]; exact p2⟩
    simp only [go_sem, abox_agg, List.nil_append, List.length_nil, List.length_cons, List.cons_append, Nat.zero_add, hl5, hck, hb, p1]
  | false =>
    have hfz : ∀ (k : AV → Hp → Res), frzK (.ptr 0 0) [AObj.cells (L.cells lx c e), .cells (p.cells xp)] k = k (.vp (L.cells lx c e)) [.dead, .cells (p.cells xp)] := fun k => rfl
    have hfz2 : ∀ (k : AV → Hp → Res), frzK (.ptr 1 0) [AObj.dead, .cells (p.cells xp)] k = k (.vp (p.cells xp)) [.dead, .dead] := fun k => rfl
    have hK1 : ClK 22 L p (.fn (.func 22) [] [.vp (L.cells lx c e), .vp (p.cells xp)]) := ⟨_, _, rfl, ⟨lx, c, e, rfl, hlx, hc, he⟩, ⟨xp, rfl, hxp⟩⟩
    have hK2 : ClK 25 L p (.fn (.func 25) [] [.vp (L.cells lx c e), .vp (p.cells xp)]) := ⟨_, _, rfl, ⟨lx, c, e, rfl, hlx, hc, he⟩, ⟨xp, rfl, hxp⟩⟩
    obtain ⟨y, p1, p2⟩ := msort_flat (sort1_run L hok p hks) l.length l x1 _ (Nat.le_refl _) hl hL k2 hK1 [AObj.dead, .dead]
    rw [ins_msort] at p2
    obtain ⟨f1, f2⟩ := ins_facts L p l
    have hu1 : afield 3 (.vp (p.cells xp)) = some (.vp [.bool p.uniq, .bool p.stab]) := rfl
    simp only [go_sem, abox_agg, List.nil_append, List.length_nil, List.length_cons, List.cons_append, Nat.zero_add, hl5, hck, hb, memsort_Sort_J1_eq, hfz, hfz2, p1, hu1, aload_vpc, Bool.false_eq_true, if_false]
    cases hu : p.uniq with
    | true =>
      obtain ⟨z, o1, o2⟩ := once_flat (sort2_run L hok p hks) hK2 p2 (fun s hs => hL s (f2 s hs)) (by omega) [AObj.dead, .dead]
      exact ⟨z, [.dead, .dead], by simp only [go_sem, o1, memsort_Sort_J2_eq], by simpa using o2⟩
    | false => exact ⟨y, [.dead, .dead], by simp only [go_sem, memsort_Sort_J2_eq], by simpa using p2⟩

end Go.Am
namespace Go.Am
set_option linter.unusedSimpArgs false
set_option linter.unusedVariables false
set_option linter.unusedSectionVars false
set_option maxRecDepth 100000

def unsR (L : Loc) (p : Spec) : Nat → Str → List Str → Int
  | _, _, [] => -1
  | i, z, a :: r => if (decide (0 < orderS L p z a) || (p.uniq && orderS L p z a == 0)) = true then i else unsR L p (i + 1) a r
def unsS (L : Loc) (p : Spec) (l : List Str) : Int :=
  if (checkS p != 0) = true then -1 else match l with
    | [] => -1
    | a :: r => unsR L p 1 a r
theorem unsR_cons (L : Loc) (p : Spec) (i : Nat) (z a : Str) (r : List Str) : unsR L p i z (a :: r) = if (decide (0 < orderS L p z a) || (p.uniq && orderS L p z a == 0)) = true then (i : Int) else unsR L p (i + 1) a r := (Eq.refl _).trans (Eq.refl _)

theorem uns_loop {L : Loc} {lx c e : AV} (hav : LocAV (.agg (L.cells lx c e)) L) (hok : LocOk L) {p : Spec} {xp : AV} (hsp : SpecAV (.agg (p.cells xp)) p) (hks : ∀ k ∈ p.keys, KeOk k) {x : AV} {l : List Str} (hx : SS x l) (hL : Lens l) (hl : l.length ≤ 1048576) (H0 : Hp) :
    ∀ (r done : List Str) (z : Str), l = done ++ z :: r →
    memsort_Unsorted_L1 x (.ptr 0 0) (.ptr 1 0) (.int .i64 ((done.length + 1 : Nat) : Int)) H0 [AObj.cells (L.cells lx c e), .cells (p.cells xp)] = some (.int .i64 (unsR L p (done.length + 1) z r), [AObj.cells (L.cells lx c e), .cells (p.cells xp)]) := by
  have hl5 : aload true 5 (.ptr 1 0) [AObj.cells (L.cells lx c e), .cells (p.cells xp)] = some (.agg (p.cells xp)) := by simp [aload, Go.Am.apart, Spec.cells]
  have hl6 := load_loc L lx c e [.cells (p.cells xp)]
  have hu : aload false 1 (.ptr 1 (0 + 3)) [AObj.cells (L.cells lx c e), .cells (p.cells xp)] = some (.bool p.uniq) := aload_f1 (l := p.cells xp) rfl
  have p3 := SS.len hx 9
  intro r
  induction r with
  | nil =>
    intro done z hd
    have hlen : l.length = done.length + 1 := by rw [hd]; simp
    have hlt : decide (((done.length + 1 : Nat) : Int) < (l.length : Int)) = false := by simp; omega
    rw [memsort_Unsorted_L1_eq]
    simp only [go_sem, p3, hlt, memsort_Unsorted_J2_eq, unsR]
  | cons a r ih =>
    intro done z hd
    have hlen : l.length = done.length + (r.length + 2) := by rw [hd]; simp
    have hlt : decide (((done.length + 1 : Nat) : Int) < (l.length : Int)) = true := by simp; omega
    have hw1 : IntKind.i64.wrap (((done.length + 1 : Nat) : Int) + 1) = ((done.length + 1 + 1 : Nat) : Int) := by rw [wrap64 (by omega) (by omega)]; omega
    have hwm : IntKind.i64.wrap (((done.length + 1 : Nat) : Int) - 1) = (done.length : Int) := by rw [wrap64 (by omega) (by omega)]; omega
    have hiz : l[done.length]? = some z := by rw [hd, List.getElem?_append_right (Nat.le_refl _)]; simp
    have hia : l[done.length + 1]? = some a := by rw [hd, List.getElem?_append_right (by omega)]; simp
    have hcmp := ord_flat hav hok hsp hks z a (hL z (List.mem_of_getElem? hiz)) (hL a (List.mem_of_getElem? hia)) [AObj.cells (L.cells lx c e), .cells (p.cells xp)]
    have h1 := SS.idx hx hiz
    have h2 := SS.idx hx hia
    have ih' := ih (done ++ [z]) a (by rw [hd]; simp)
    rw [List.length_append, List.length_singleton] at ih'
    rw [memsort_Unsorted_L1_eq, unsR_cons]
    simp only [go_sem, p3, hlt, memsort_Unsorted_J3_eq, hl6, hl5, hwm, h1, h2, aload_vpc, hcmp]
    cases hc : decide (0 < orderS L p z a) with
    | true => simp only [go_sem, Bool.true_or, if_true]
    | false =>
      simp only [go_sem, hu]
      cases hq : p.uniq with
      | false => simp only [go_sem, Bool.false_and, Bool.or_false, Bool.false_eq_true, if_false, memsort_Unsorted_J4_eq, hw1, ih']
      | true =>
        simp only [go_sem]
        cases hz : (orderS L p z a == 0) with
        | true => simp only [go_sem, Bool.true_and, Bool.or_true, if_true]
        | false => simp only [go_sem, Bool.true_and, Bool.or_false, Bool.false_eq_true, if_false, memsort_Unsorted_J4_eq, hw1, ih']
theorem uns_flat {a : AV} {L : Loc} (h : LocAV a L) (hok : LocOk L) {q : AV} {p : Spec} (hq : SpecAV q p) (hks : ∀ k ∈ p.keys, KeOk k) {x : AV} {l : List Str} (hx : SS x l) (hL : Lens l) (hl : l.length ≤ 1048576) (H : Hp) :
    flatC C_memsort_Unsorted [a, q, x] H = some (.int .i64 (unsS L p l), H) := by
  obtain ⟨a1, h1, h2⟩ := h.close [] 0 2
  obtain ⟨q1, g1, g2⟩ := hq.close [] 0 2
  obtain ⟨x1, k1, k2⟩ := SS.closed hx [] 0 4
  have hck := fun H => check_flat g2 H
  have hav := h2
  have hsp := g2
  obtain ⟨lx, c, e, rfl, hlx, hc, he⟩ := h2
  obtain ⟨xp, rfl, hxp⟩ := g2
  have hl5 : aload true 5 (.ptr 1 0) [AObj.cells (L.cells lx c e), .cells (p.cells xp)] = some (.agg (p.cells xp)) := by simp [aload, Go.Am.apart, Spec.cells]
  have p3 := SS.len k2 9
  refine flat3 h1 g1 k1 (H1 := [AObj.cells (L.cells lx c e), .cells (p.cells xp)]) ?_ rfl
  rw [F_memsort_Unsorted_eq]
  unfold F_memsort_Unsorted unsS
  cases hb : (checkS p != 0) with
  | true => simp only [go_sem, abox_agg, List.nil_append, List.length_nil, List.length_cons, List.cons_append, Nat.zero_add, hl5, hck, hb, if_true]
  | false =>
    cases l with
    | nil =>
      have hlt : decide ((1 : Int) < ((([] : List Str).length : Nat) : Int)) = false := rfl
      simp only [go_sem, abox_agg, List.nil_append, List.length_nil, List.length_cons, List.cons_append, Nat.zero_add, hl5, hck, hb, memsort_Unsorted_J1_eq, memsort_Unsorted_L1_eq, p3, show decide ((1 : Int) < ((0 : Nat) : Int)) = false from rfl, memsort_Unsorted_J2_eq, Bool.false_eq_true, if_false]
    | cons z r =>
      have := uns_loop hav hok hsp hks k2 hL hl [] r [] z rfl
      rw [List.length_nil, show ((0 + 1 : Nat) : Int) = 1 from rfl] at this
      simp only [go_sem, abox_agg, List.nil_append, List.length_nil, List.length_cons, List.cons_append, Nat.zero_add, hl5, hck, hb, memsort_Unsorted_J1_eq, Bool.false_eq_true, if_false, Nat.reduceAdd]
      exact this

theorem same_loop {x y : AV} {l m : List Str} (hx : SS x l) (hy : SS y m) (hl : l.length ≤ 1048576) (hlm : l.length = m.length) (H0 H : Hp) : ∀ (k i : Nat), l.length - i = k → i ≤ l.length →
    R21_Same_L1 x y (.int .i64 (i : Int)) H0 H = some (.bool (decide (l.drop i = m.drop i)), H) := by
  have p3 := SS.len hx 9
  intro k
  induction k with
  | zero =>
    intro i hk hi
    have hlt : decide ((i : Int) < (l.length : Int)) = false := by simp; omega
    have e : l.drop i = m.drop i := by rw [List.drop_eq_nil_iff.2 (by omega), List.drop_eq_nil_iff.2 (by omega)]
    rw [R21_Same_L1_eq]
    simp only [go_sem, p3, hlt, R21_Same_J2_eq, decide_eq_true e]
  | succ k ih =>
    intro i hk hi
    have hlt : decide ((i : Int) < (l.length : Int)) = true := by simp; omega
    have hw : IntKind.i64.wrap ((i : Int) + 1) = ((i + 1 : Nat) : Int) := by rw [wrap64 (by omega) (by omega)]; omega
    have h1 := SS.idx hx (List.getElem?_eq_getElem (show i < l.length by omega))
    have h2 := SS.idx hy (List.getElem?_eq_getElem (show i < m.length by omega))
    have hsb : sbin .neq (.str l[i]) (.str m[i]) = some (.bool (l[i] != m[i])) := rfl
    rw [R21_Same_L1_eq, List.drop_eq_getElem_cons (show i < l.length by omega), List.drop_eq_getElem_cons (show i < m.length by omega)]
    simp only [go_sem, p3, hlt, R21_Same_J3_eq, h1, h2, aload_vpc, hsb]
    by_cases he : l[i] = m[i]
    · have : (l[i] != m[i]) = false := by simp [he]
      simp only [this, go_sem, R21_Same_J4_eq, hw]
      rw [ih (i + 1) (by omega) (by omega)]
      have e : decide (l[i] :: l.drop (i + 1) = m[i] :: m.drop (i + 1)) = decide (l.drop (i + 1) = m.drop (i + 1)) := by
        rw [decide_eq_decide, List.cons.injEq]
        exact ⟨fun h => h.2, fun h => ⟨he, h⟩⟩
      rw [e]
    · have : (l[i] != m[i]) = true := by simp [he]
      have e : decide (l[i] :: l.drop (i + 1) = m[i] :: m.drop (i + 1)) = false := by
        rw [decide_eq_false_iff_not, List.cons.injEq]
        exact fun h => he h.1
      simp only [this, go_sem, e]
theorem same_flat {x y : AV} {l m : List Str} (hx : SS x l) (hy : SS y m) (hl : l.length ≤ 1048576) (hm : m.length ≤ 1048576) (H : Hp) : flatC C_R21_Same [x, y] H = some (.bool (decide (l = m)), H) := by
  obtain ⟨x1, k1, k2⟩ := SS.closed hx [] 0 4
  obtain ⟨y1, g1, g2⟩ := SS.closed hy [] 0 4
  have p1 := SS.len k2 9
  have p2 := SS.len g2 9
  refine flat2 k1 g1 (H1 := []) ?_ rfl
  rw [F_R21_Same_eq]
  unfold F_R21_Same
  by_cases hlm : l.length = m.length
  · have hne : ((l.length : Int) != (m.length : Int)) = false := by simp [hlm]
    have := same_loop k2 g2 hl hlm [] [] l.length 0 rfl (Nat.zero_le _)
    rw [show ((0 : Nat) : Int) = 0 from rfl, List.drop_zero, List.drop_zero] at this
    simp only [go_sem, p1, p2, hne, R21_Same_J1_eq, this]
  · have hne : ((l.length : Int) != (m.length : Int)) = true := by simp; omega
    have : ¬ l = m := fun e => hlm (by rw [e])
    simp only [go_sem, p1, p2, hne, decide_eq_false this]

theorem defOk : LocOk defL := ⟨by decide, by simp [defL], by simp [defL], by simp [defL], fun c hc => (by cases hc), fun c hc => (by cases hc), by simp [defL], by simp [defL]⟩
def foldP : Spec := ⟨[], -1, 4, true, false⟩
def exA : List Str := [[98], [97], [66]]
theorem ex1 : sortS defL plainP exA = [[66], [97], [98]] := by kernel_rfl
theorem ex2 : sortS defL foldP exA = [[97], [98], [66]] := by kernel_rfl
theorem ex3 : unsS defL plainP [[97], [98], [98], [97]] = 3 := by kernel_rfl
theorem ex4 : decide (([[66], [97], [98]] : List Str) = [[66], [97], [98]]) = true := rfl
theorem specP (p : Spec) (h : p.keys = []) : SpecAV (.agg (p.cells .nils)) p := ⟨.nils, rfl, .inl ⟨rfl, by rw [h]; rfl⟩⟩
theorem noKeys {p : Spec} (h : p.keys = []) : ∀ k ∈ p.keys, KeOk k := fun k hk => by rw [h] at hk; cases hk
theorem listSS (l : List Str) (t : Tok) : SS (.vs 1 t (l.map AV.str)) l := .inr ⟨t, rfl⟩
theorem awake21 (H : Hp) : flatC C_L21_awake [] H = some (.bool true, H) := by
  suffices hs : ∃ H1, C_L21_awake [] [] = some (.bool true, H1) by
    obtain ⟨H1, hr⟩ := hs
    unfold flatC
    simp only [List.mapM_nil]
    show (match C_L21_awake [] [] with | some (v, H1) => _ | none => _) = _
    rw [hr]
    rfl
  have hA : Lens exA := fun s hs => by
    simp only [exA, List.mem_cons, List.not_mem_nil, or_false] at hs
    rcases hs with rfl | rfl | rfl <;> decide
  have hB : Lens [[97], [98], [98], [97]] := fun s hs => by
    simp only [List.mem_cons, List.not_mem_nil, or_false] at hs
    rcases hs with rfl | rfl | rfl | rfl <;> decide
  obtain ⟨d, d1, d2⟩ : ∃ d, (∀ H, flatC C_R05_Default [] H = some (d, H)) ∧ LocAV d defL := by
    obtain ⟨d, d1, d2⟩ := rdefault_flat []
    refine ⟨d, fun H => ?_, d2⟩
    obtain ⟨d', d3, _⟩ := rdefault_flat H
    unfold flatC at d1 d3 ⊢
    simp only [List.mapM_nil] at d1 d3 ⊢
    revert d1 d3
    show (match C_R05_Default [] [] with | some (v, H1) => (match closeV H1 0 6 v with | some v => some (v, _) | none => none) | none => none) = _ → (match C_R05_Default [] [] with | some (v, H1) => (match closeV H1 0 6 v with | some v => some (v, _) | none => none) | none => none) = _ → (match C_R05_Default [] [] with | some (v, H1) => (match closeV H1 0 6 v with | some v => some (v, _) | none => none) | none => none) = _
    cases C_R05_Default [] [] with
    | none => intro h; cases h
    | some r =>
      obtain ⟨v, H1⟩ := r
      dsimp only
      cases closeV H1 0 6 v with
      | none => intro h; cases h
      | some w =>
        intro h1 h2
        dsimp only at h1 h2 ⊢
        injection h1 with h1
        injection h1 with h1 _
        rw [h1]
  let H2 : Hp := [AObj.cells (plainP.cells .nils), .cells (foldP.cells .nils)]
  obtain ⟨y1, s1, s2⟩ := sort_flat d2 defOk (specP plainP rfl) (noKeys rfl) (listSS exA .clip) hA (by decide) H2
  obtain ⟨y2, s3, s4⟩ := sort_flat d2 defOk (specP foldP rfl) (noKeys rfl) (listSS exA .clip) hA (by decide) H2
  have s5 := uns_flat d2 defOk (specP plainP rfl) (noKeys rfl) (listSS [[97], [98], [98], [97]] .clip) hB (by decide) H2
  rw [ex1] at s2
  rw [ex2] at s4
  rw [ex3] at s5
  have s6 := same_flat s2 (listSS [[66], [97], [98]] .clip) (by decide) (by decide) H2
  have s7 := same_flat s4 (listSS [[97], [98], [66]] .clip) (by decide) (by decide) H2
  have e7 : decide (([[97], [98], [66]] : List Str) = [[97], [98], [66]]) = true := rfl
  rw [ex4] at s6
  rw [e7] at s7
  refine ⟨H2, ?_⟩
  have b1 : (setElems 1 [(0, (.str [98])), (1, (.str [97])), (2, (.str [66]))] [(.str []), (.str []), (.str [])]).map (AV.vs 1 .clip) = some (.vs 1 .clip (exA.map AV.str)) := rfl
  have b2 : (afill [(1, 1, (.int .i64 (-1)))] [.nils, (.int .i64 0), (.int .i64 0), (.bool false), (.bool false)]).map AV.agg = some (.agg (plainP.cells .nils)) := rfl
  have b3 : (afill [(1, 1, (.int .i64 (-1))), (2, 1, (.int .i64 4)), (4, 1, (.bool true))] [.nils, (.int .i64 0), (.int .i64 0), (.bool false), (.bool false)]).map AV.agg = some (.agg (foldP.cells .nils)) := rfl
  have b4 : (setElems 1 [(0, (.str [97])), (1, (.str [98])), (2, (.str [98])), (3, (.str [97]))] [(.str []), (.str []), (.str []), (.str [])]).map (AV.vs 1 .clip) = some (.vs 1 .clip (([[97], [98], [98], [97]] : List Str).map AV.str)) := rfl
  have b5 : (setElems 1 [(0, (.str [66])), (1, (.str [97])), (2, (.str [98]))] [(.str []), (.str []), (.str [])]).map (AV.vs 1 .clip) = some (.vs 1 .clip (([[66], [97], [98]] : List Str).map AV.str)) := rfl
  have b6 : (setElems 1 [(0, (.str [97])), (1, (.str [98])), (2, (.str [66]))] [(.str []), (.str []), (.str [])]).map (AV.vs 1 .clip) = some (.vs 1 .clip (([[97], [98], [66]] : List Str).map AV.str)) := rfl
  have st1 : astoreU 5 (.ptr 0 0) (.agg (plainP.cells .nils)) [AObj.cells [.nils, (.int .i64 0), (.int .i64 0), (.bool false), (.bool false)]] = some (.tuple [], [AObj.cells (plainP.cells .nils)]) := by simp [astoreU, astore, AV.known, AV.cells, Spec.cells, splice]
  have st2 : astoreU 5 (.ptr 1 0) (.agg (foldP.cells .nils)) [AObj.cells (plainP.cells .nils), AObj.cells [.nils, (.int .i64 0), (.int .i64 0), (.bool false), (.bool false)]] = some (.tuple [], H2) := by simp [astoreU, astore, AV.known, AV.cells, Spec.cells, splice, H2]
  have l0 : aload true 5 (.ptr 0 0) H2 = some (.agg (plainP.cells .nils)) := by simp [aload, Go.Am.apart, Spec.cells, H2]
  have l1 : aload true 5 (.ptr 1 0) H2 = some (.agg (foldP.cells .nils)) := by simp [aload, Go.Am.apart, Spec.cells, H2]
  rw [F_L21_awake_eq]
  unfold F_L21_awake
  simp only [b1, b2, b3, b4, b5, b6, go_sem, List.nil_append, List.length_nil, List.length_cons, List.cons_append, Nat.zero_add, st1, st2, d1, l0, l1, s1, s3, s5, s6, s7, beq_self_eq_true]
theorem lightL_flat {a : AV} {L : Loc} (h : LocAV a L) (H : Hp) : ∃ b, flatC C_L07_Light [a] H = some (.bool b, H) := by
  obtain ⟨a1, h1, h2⟩ := h.close [] 0 2
  obtain ⟨lx, c, e, rfl, hlx, hc, he⟩ := h2
  have f1 : aload false 1 (.ptr 0 (0 + 1)) [AObj.cells (L.cells lx c e)] = some lx := aload_f1 (l := L.cells lx c e) rfl
  have f2 : aload false 1 (.ptr 0 (0 + 2)) [AObj.cells (L.cells lx c e)] = some (.str L.lo) := aload_f1 (l := L.cells lx c e) rfl
  have f3 : aload false 1 (.ptr 0 (0 + 3)) [AObj.cells (L.cells lx c e)] = some (.str L.up) := aload_f1 (l := L.cells lx c e) rfl
  have f4 : aload false 1 (.ptr 0 (0 + 4)) [AObj.cells (L.cells lx c e)] = some c := aload_f1 (l := L.cells lx c e) rfl
  have f5 : aload false 1 (.ptr 0 (0 + 5)) [AObj.cells (L.cells lx c e)] = some e := aload_f1 (l := L.cells lx c e) rfl
  have n1 := hlx.len 3
  have n4 := hc.len 129
  have n5 := he.len 90
  rw [List.length_map] at n1 n4 n5
  suffices hs : ∃ b H1, C_L07_Light [.agg (L.cells lx c e)] [] = some (.bool b, H1) by
    obtain ⟨b, H1, hr⟩ := hs
    exact ⟨b, flat1 h1 hr rfl⟩
  rw [F_L07_Light_eq]
  unfold F_L07_Light
  simp only [go_sem, abox_agg, List.nil_append, List.length_nil, f1, n1]
  cases decide ((L.w.length : Int) ≤ 300) with
  | false => exact ⟨false, _, by simp only [go_sem]; rfl⟩
  | true =>
    simp only [go_sem, f2, alen_str]
    cases decide ((L.lo.length : Int) ≤ 300) with
    | false => exact ⟨false, _, by simp only [go_sem]; rfl⟩
    | true =>
      simp only [go_sem, f3, alen_str]
      cases decide ((L.up.length : Int) ≤ 300) with
      | false => exact ⟨false, _, by simp only [go_sem]; rfl⟩
      | true =>
        simp only [go_sem, f4, n4]
        cases decide ((L.cls.length : Int) ≤ 30) with
        | false => exact ⟨false, _, by simp only [go_sem]; rfl⟩
        | true =>
          simp only [go_sem, f5, n5]
          exact ⟨_, _, rfl⟩
theorem few_loop {x : AV} {l : List Str} (hx : SS x l) (hl : l.length ≤ 1048576) (H0 H : Hp) : ∀ (k i : Nat), l.length - i = k → i ≤ l.length →
    ∃ b, L21_few_L1 x (.int .i64 (i : Int)) H0 H = some (.bool b, H) := by
  have p3 := SS.len hx 9
  intro k
  induction k with
  | zero =>
    intro i hk hi
    have hlt : decide ((i : Int) < (l.length : Int)) = false := by simp; omega
    exact ⟨true, by rw [L21_few_L1_eq]; simp only [go_sem, p3, hlt, L21_few_J2_eq]⟩
  | succ k ih =>
    intro i hk hi
    have hlt : decide ((i : Int) < (l.length : Int)) = true := by simp; omega
    have hw : IntKind.i64.wrap ((i : Int) + 1) = ((i + 1 : Nat) : Int) := by rw [wrap64 (by omega) (by omega)]; omega
    have h1 := SS.idx hx (List.getElem?_eq_getElem (show i < l.length by omega))
    obtain ⟨b, hb⟩ := ih (i + 1) (by omega) (by omega)
    rw [L21_few_L1_eq]
    simp only [go_sem, p3, hlt, L21_few_J3_eq, h1, aload_vpc, alen_str]
    cases decide ((40 : Int) < (l[i].length : Int)) with
    | true => exact ⟨false, by simp only [go_sem]⟩
    | false => exact ⟨b, by simp only [go_sem, L21_few_J4_eq, hw, hb]⟩
theorem few_flat {a : AV} {L : Loc} (h : LocAV a L) {q : AV} {p : Spec} (hq : SpecAV q p) {x : AV} {l : List Str} (hx : SS x l) (hl : l.length ≤ 1048576) (H : Hp) : ∃ b, flatC C_L21_few [a, q, x] H = some (.bool b, H) := by
  obtain ⟨a1, h1, h2⟩ := h.close [] 0 2
  obtain ⟨q1, g1, g2⟩ := hq.close [] 0 2
  obtain ⟨x1, k1, k2⟩ := SS.closed hx [] 0 4
  have hav := h2
  obtain ⟨lx, c, e, rfl, hlx, hc, he⟩ := h2
  obtain ⟨xp, rfl, hxp⟩ := g2
  have p3 := SS.len k2 9
  have hl6 := load_loc L lx c e [.cells (p.cells xp)]
  have f0 : aload false 1 (.ptr 1 (0 + 0)) [AObj.cells (L.cells lx c e), .cells (p.cells xp)] = some xp := aload_f1 (l := p.cells xp) rfl
  have n0 := hxp.len 49
  rw [List.length_map] at n0
  obtain ⟨bl, hlight⟩ := lightL_flat hav [AObj.cells (L.cells lx c e), .cells (p.cells xp)]
  obtain ⟨bf, hfew⟩ := few_loop k2 hl [] [AObj.cells (L.cells lx c e), .cells (p.cells xp)] _ 0 rfl (Nat.zero_le _)
  rw [show ((0 : Nat) : Int) = 0 from rfl] at hfew
  suffices hs : ∃ b H1, C_L21_few [.agg (L.cells lx c e), .agg (p.cells xp), x1] [] = some (.bool b, H1) by
    obtain ⟨b, H1, hr⟩ := hs
    exact ⟨b, flat3 h1 g1 k1 hr rfl⟩
  rw [F_L21_few_eq]
  unfold F_L21_few
  simp only [go_sem, abox_agg, List.nil_append, List.length_nil, List.length_cons, List.cons_append, Nat.zero_add, p3]
  cases decide ((30 : Int) < (l.length : Int)) with
  | true => exact ⟨false, _, by simp only [go_sem]; rfl⟩
  | false =>
    simp only [go_sem, f0, n0]
    cases decide ((12 : Int) < (p.keys.length : Int)) with
    | true => exact ⟨false, _, by simp only [go_sem]; rfl⟩
    | false =>
      simp only [go_sem, hl6, hlight]
      cases bl with
      | false => exact ⟨false, _, by simp only [go_sem, Bool.not_false]; rfl⟩
      | true => exact ⟨bf, _, by simp only [go_sem, Bool.not_true, L21_few_J1_eq, hfew]; rfl⟩
theorem sortS_len (L : Loc) (p : Spec) (l : List Str) : (sortS L p l).length ≤ l.length := by
  obtain ⟨f1, f2⟩ := ins_facts L p l
  have := onceL_len (g := lineS L p) (insL (orderS L p) l) []
  unfold sortS
  split
  · exact Nat.le_refl _
  · split
    · simp at this; omega
    · omega
end Go.Am
namespace Go.Am
set_option linter.unusedSimpArgs false
set_option linter.unusedVariables false
set_option linter.unusedSectionVars false

section
variable {α : Type} {f : α → α → Int}
def Strict (f : α → α → Int) (l : List α) : Prop := l.Pairwise fun a b => f a b < 0
theorem Strict.srt {l : List α} (h : Strict f l) : Srt f l := List.Pairwise.imp (fun h => by omega) h
variable (h : Cm f)
include h
theorem eqv_trans {x y z : α} (h1 : eqv f x y = true) (h2 : eqv f y z = true) : eqv f x z = true := by
  rw [h.eqv_iff] at *
  have a := h.tr x y z (by omega) (by omega)
  have b := h.tr2 x y z (by omega) (by omega)
  omega
theorem eqv_symm {x y : α} (h1 : eqv f x y = true) : eqv f y x = true := by
  rw [h.eqv_iff] at *
  have := h.sym x y
  omega
theorem sameLast_iff (out : List α) (x : α) : sameLast f out x = true ↔ ∃ y, out.getLast? = some y ∧ f y x = 0 := by
  unfold sameLast
  cases out.getLast? with
  | none => simp
  | some y => simp
theorem once_spec : ∀ (l out : List α), Strict f out → (∀ a ∈ out, ∀ b ∈ l, f a b ≤ 0) → Srt f l →
    Strict f (onceL f out l) ∧ ∀ x, (onceL f out l).filter (eqv f x) = if out.filter (eqv f x) = [] then (l.filter (eqv f x)).take 1 else out.filter (eqv f x) := by
  intro l
  induction l with
  | nil =>
    intro out hs _ _
    refine ⟨hs, fun x => ?_⟩
    show out.filter (eqv f x) = _
    split
    · rename_i h0; rw [h0]; rfl
    · rfl
  | cons a l ih =>
    intro out hs hc hl
    have hl' := List.pairwise_cons.1 hl
    unfold onceL
    cases hsl : sameLast f out a with
    | true =>
      obtain ⟨y, hy, hya⟩ := (sameLast_iff h out a).1 hsl
      have hyo : y ∈ out := List.mem_of_getLast? hy
      obtain ⟨i1, i2⟩ := ih out hs (fun b hb c hc' => hc b hb c (by simp [hc'])) hl'.2
      refine ⟨i1, fun x => ?_⟩
      rw [if_pos rfl, i2]
      split
      · rename_i h0
        have : eqv f x a = false := by
          cases hxa : eqv f x a with
          | false => rfl
          | true =>
            have hay : eqv f a y = true := eqv_symm h ((h.eqv_iff y a).2 hya)
            have := eqv_trans h hxa hay
            have hm : y ∈ out.filter (eqv f x) := List.mem_filter.2 ⟨hyo, this⟩
            rw [h0] at hm
            cases hm
        rw [List.filter_cons, this]
        rfl
      · rfl
    | false =>
      have hout : ∀ b ∈ out, f b a < 0 := fun b hb => by
        cases hg : out.getLast? with
        | none => rw [List.getLast?_eq_none_iff.1 hg] at hb; cases hb
        | some y =>
          have hyo : y ∈ out := List.mem_of_getLast? hg
          have hya : f y a < 0 := by
            have h1 := hc y hyo a (by simp)
            have h2 : f y a ≠ 0 := fun e => by
              have := (sameLast_iff h out a).2 ⟨y, hg, e⟩
              rw [hsl] at this
              cases this
            omega
          have hby : f b y ≤ 0 := by
            obtain ⟨i, hi⟩ := List.getElem?_of_mem hb
            obtain ⟨hil, hie⟩ := List.getElem?_eq_some_iff.1 hi
            rw [List.getLast?_eq_getElem?] at hg
            obtain ⟨hjl, hje⟩ := List.getElem?_eq_some_iff.1 hg
            by_cases hij : i = out.length - 1
            · subst hij
              rw [hie] at hje
              rw [hje, h.self]; exact Int.le_refl _
            · have := List.pairwise_iff_getElem.1 hs i (out.length - 1) hil hjl (by omega)
              rw [hie, hje] at this
              omega
          exact h.le_lt hby hya
      have hs' : Strict f (out ++ [a]) := List.pairwise_append.2 ⟨hs, List.pairwise_singleton _ _, fun b hb c hc' => by rw [List.mem_singleton.1 hc']; exact hout b hb⟩
      obtain ⟨i1, i2⟩ := ih (out ++ [a]) hs' (fun b hb c hc' => by
        rcases List.mem_append.1 hb with hb | hb
        · exact hc b hb c (by simp [hc'])
        · rw [List.mem_singleton.1 hb]; exact hl'.1 c hc') hl'.2
      refine ⟨by simpa using i1, fun x => ?_⟩
      rw [if_neg (by decide), i2, List.filter_append]
      cases hxa : eqv f x a with
      | false => simp [List.filter_cons, hxa]
      | true =>
        have h0 : out.filter (eqv f x) = [] := by
          rw [List.filter_eq_nil_iff]
          intro b hb hxb
          have h1 := hout b hb
          have h2 := eqv_trans h (eqv_symm h hxb) hxa
          rw [h.eqv_iff] at h2
          omega
        rw [h0]
        simp [List.filter_cons, hxa]
end
section
variable {L : Loc} {p : Spec} (hv : checkS p = 0)
include hv
theorem valid_self : validP p = p := by
  unfold validP
  rw [if_neg (by simp [hv])]
theorem sort_valid (l : List Str) : sortS L p l = if p.uniq then onceL (orderS L p) [] (insL (orderS L p) l) else insL (orderS L p) l := by
  unfold sortS
  rw [if_neg (by simp [hv])]
  cases hu : p.uniq with
  | false => rfl
  | true =>
    have : lineS L p = orderS L p := funext fun a => funext fun b => (orderS_sure (by rw [valid_self hv, hu, Bool.or_true]) a b).symm
    rw [this]
theorem sort_srt (l : List Str) : Srt (orderS L p) (sortS L p l) ∧ (p.uniq = true → Strict (orderS L p) (sortS L p l)) ∧ ∀ x, (sortS L p l).filter (eqv (orderS L p) x) = if p.uniq then (l.filter (eqv (orderS L p) x)).take 1 else l.filter (eqv (orderS L p) x) := by
  have hc := orderS_cm L p
  obtain ⟨b1, b2⟩ := fold_ins hc l [] List.Pairwise.nil
  have b2' : ∀ x, (insL (orderS L p) l).filter (eqv (orderS L p) x) = l.filter (eqv (orderS L p) x) := fun x => by
    rw [show insL (orderS L p) l = l.foldl (insB (orderS L p)) [] from rfl, b2]; rfl
  rw [sort_valid hv]
  cases hu : p.uniq with
  | false => exact ⟨b1, fun h => (by cases h), b2'⟩
  | true =>
    obtain ⟨c1, c2⟩ := once_spec hc (insL (orderS L p) l) [] List.Pairwise.nil (fun a ha => by cases ha) b1
    refine ⟨c1.srt, fun _ => c1, fun x => ?_⟩
    rw [if_pos rfl, if_pos rfl, c2]
    show (if ([] : List Str) = [] then _ else _) = _
    rw [if_pos rfl, b2']
end
end Go.Am
namespace Go.Am
set_option linter.unusedSimpArgs false
set_option linter.unusedVariables false
set_option linter.unusedSectionVars false

section
variable {α : Type} {f : α → α → Int}
def leastG (f : α → α → Int) : List (List α) → Nat → Option (Nat × α) → Option (Nat × α)
  | [], _, b => b
  | x :: r, i, b => leastG f r (i + 1) (match x with
    | [] => b
    | a :: _ => match b with
      | none => some (i, a)
      | some (j, c) => if 0 < f c a then some (i, a) else some (j, c))
theorem leastG_nil (f : α → α → Int) (r : List (List α)) (i : Nat) (b : Option (Nat × α)) : leastG f ([] :: r) i b = leastG f r (i + 1) b := (Eq.refl _).trans (Eq.refl _)
theorem leastG_none (f : α → α → Int) (a : α) (t : List α) (r : List (List α)) (i : Nat) : leastG f ((a :: t) :: r) i none = leastG f r (i + 1) (some (i, a)) := (Eq.refl _).trans (Eq.refl _)
theorem leastG_some (f : α → α → Int) (a : α) (t : List α) (r : List (List α)) (i j : Nat) (c : α) : leastG f ((a :: t) :: r) i (some (j, c)) = leastG f r (i + 1) (if 0 < f c a then some (i, a) else some (j, c)) := (Eq.refl _).trans (Eq.refl _)
def mergeA (f : α → α → Int) : Nat → List (List α) → List α
  | 0, _ => []
  | n + 1, rest => match leastG f rest 0 none with
    | none => []
    | some (k, a) => a :: mergeA f n (rest.set k ((rest.getD k []).drop 1))
theorem mergeA_none {f : α → α → Int} {n : Nat} {rest : List (List α)} (h : leastG f rest 0 none = none) : mergeA f (n + 1) rest = [] := by rw [mergeA, h]
theorem mergeA_some {f : α → α → Int} {n : Nat} {rest : List (List α)} {k : Nat} {a : α} (h : leastG f rest 0 none = some (k, a)) : mergeA f (n + 1) rest = a :: mergeA f n (rest.set k ((rest.getD k []).drop 1)) := by rw [mergeA, h]
def total : List (List α) → Nat
  | [] => 0
  | x :: r => x.length + total r
theorem total_app (A B : List (List α)) : total (A ++ B) = total A + total B := by
  induction A with
  | nil => simp [total]
  | cons x A ih => simp only [List.cons_append, total, ih]; omega
theorem total_flat (A : List (List α)) : A.flatten.length = total A := by
  induction A with
  | nil => rfl
  | cons x A ih => simp [total, ih]
def Best (f : α → α → Int) (P : List (List α)) : Option (Nat × α) → Prop
  | none => ∀ l ∈ P, l = []
  | some (k, a) => ∃ A t B, P = A ++ (a :: t) :: B ∧ A.length = k ∧ (∀ l ∈ A, ∀ c, l.head? = some c → 0 < f c a) ∧ (∀ l ∈ B, ∀ c, l.head? = some c → f a c ≤ 0)
theorem least_at (f : α → α → Int) : ∀ (r P : List (List α)) (b : Option (Nat × α)), (∀ k a, b = some (k, a) → ∃ t, P[k]? = some (a :: t)) → (b = none → ∀ l ∈ P, l = []) →
    (∀ k a, leastG f r P.length b = some (k, a) → ∃ t, (P ++ r)[k]? = some (a :: t)) ∧ (leastG f r P.length b = none → ∀ l ∈ P ++ r, l = []) := by
  intro r
  induction r with
  | nil => intro P b h1 h2; rw [List.append_nil]; exact ⟨h1, h2⟩
  | cons x r ih =>
    intro P b h1 h2
    have grow : ∀ b', (∀ k a, b' = some (k, a) → ∃ t, (P ++ [x])[k]? = some (a :: t)) → (b' = none → ∀ l ∈ P ++ [x], l = []) → (∀ k a, leastG f r (P.length + 1) b' = some (k, a) → ∃ t, (P ++ x :: r)[k]? = some (a :: t)) ∧ (leastG f r (P.length + 1) b' = none → ∀ l ∈ P ++ x :: r, l = []) := fun b' g1 g2 => by
      have := ih (P ++ [x]) b' g1 g2
      rwa [List.length_append, List.length_singleton, List.append_assoc, List.singleton_append] at this
    have old : ∀ k a, b = some (k, a) → ∃ t, (P ++ [x])[k]? = some (a :: t) := fun k a e => by
      obtain ⟨t, ht⟩ := h1 k a e
      exact ⟨t, by rw [List.getElem?_append_left (List.getElem?_eq_some_iff.1 ht).1]; exact ht⟩
    cases x with
    | nil =>
      rw [leastG_nil]
      refine grow b old fun e l hl => ?_
      rcases List.mem_append.1 hl with hl | hl
      · exact h2 e l hl
      · exact List.mem_singleton.1 hl
    | cons a t =>
      have hnew : ∀ k a', some (P.length, a) = some (k, a') → ∃ t', (P ++ [a :: t])[k]? = some (a' :: t') := fun k a' e => by
        injection e with e
        injection e with e1 e2
        subst e1 e2
        exact ⟨t, by rw [List.getElem?_append_right (Nat.le_refl _)]; simp⟩
      cases b with
      | none =>
        rw [leastG_none]
        exact grow _ hnew fun e => (by cases e)
      | some q =>
        obtain ⟨j, c⟩ := q
        rw [leastG_some]
        split
        · exact grow _ hnew fun e => (by cases e)
        · exact grow _ old fun e => (by cases e)
variable (h : Cm f)
include h
theorem leastG_spec : ∀ (r P : List (List α)) (b : Option (Nat × α)), Best f P b → Best f (P ++ r) (leastG f r P.length b) := by
  intro r
  induction r with
  | nil => intro P b hb; rw [List.append_nil]; exact hb
  | cons x r ih =>
    intro P b hb
    have grow : ∀ b', Best f (P ++ [x]) b' → Best f (P ++ x :: r) (leastG f r (P.length + 1) b') := fun b' hb' => by
      have := ih (P ++ [x]) b' hb'
      rwa [List.length_append, List.length_singleton, List.append_assoc, List.singleton_append] at this
    cases x with
    | nil =>
      rw [leastG_nil]
      refine grow b ?_
      cases b with
      | none =>
        intro l hl
        rcases List.mem_append.1 hl with hl | hl
        · exact hb l hl
        · exact List.mem_singleton.1 hl
      | some q =>
        obtain ⟨k, a⟩ := q
        obtain ⟨A, t, B, rfl, hk, h1, h2⟩ := hb
        refine ⟨A, t, B ++ [[]], by simp, hk, h1, fun l hl c hc => ?_⟩
        rcases List.mem_append.1 hl with hl | hl
        · exact h2 l hl c hc
        · rw [List.mem_singleton.1 hl] at hc; cases hc
    | cons a t =>
      cases b with
      | none =>
        rw [leastG_none]
        refine grow _ ⟨P, t, [], rfl, rfl, fun l hl c hc => ?_, fun l hl => (by cases hl)⟩
        rw [hb l hl] at hc; cases hc
      | some q =>
        obtain ⟨j, c⟩ := q
        rw [leastG_some]
        obtain ⟨A, t', B, rfl, hk, h1, h2⟩ := hb
        split
        · rename_i hca
          have hac : f a c < 0 := by have := h.sym c a; omega
          refine grow _ ⟨A ++ (c :: t') :: B, t, [], rfl, rfl, fun l hl d hd => ?_, fun l hl => (by cases hl)⟩
          have key : f a d < 0 → 0 < f d a := fun hd => by have := h.sym d a; omega
          rcases List.mem_append.1 hl with hl | hl
          · have h3 := h1 l hl d hd
            have h4 : f c d < 0 := by have := h.sym d c; omega
            exact key (h.lt_le hac (by omega))
          · rcases List.mem_cons.1 hl with rfl | hl
            · injection hd with hd
              subst hd
              exact key hac
            · exact key (h.lt_le hac (h2 l hl d hd))
        · rename_i hca
          refine grow _ ⟨A, t', B ++ [a :: t], by simp, hk, h1, fun l hl d hd => ?_⟩
          rcases List.mem_append.1 hl with hl | hl
          · exact h2 l hl d hd
          · rw [List.mem_singleton.1 hl] at hd
            injection hd with hd
            subst hd
            omega
theorem merge_spec : ∀ (n : Nat) (rest : List (List α)), total rest ≤ n → (∀ l ∈ rest, Srt f l) →
    Srt f (mergeA f n rest) ∧ (∀ y ∈ mergeA f n rest, y ∈ rest.flatten) ∧ ∀ x, (mergeA f n rest).filter (eqv f x) = rest.flatten.filter (eqv f x) := by
  intro n
  induction n with
  | zero =>
    intro rest ht _
    have h0 : rest.flatten = [] := List.length_eq_zero_iff.1 (by rw [total_flat]; omega)
    exact ⟨List.Pairwise.nil, fun y hy => (by cases hy), fun x => by rw [h0]; rfl⟩
  | succ n ih =>
    intro rest ht hs
    have hb := leastG_spec h rest [] none (fun l hl => (by cases hl))
    rw [List.nil_append, List.length_nil] at hb
    cases hL : leastG f rest 0 none with
    | none =>
      rw [hL] at hb
      have h0 : rest.flatten = [] := by
        rw [List.flatten_eq_nil_iff]; exact hb
      rw [mergeA_none hL]
      exact ⟨List.Pairwise.nil, fun y hy => (by cases hy), fun x => by rw [h0]⟩
    | some q =>
      obtain ⟨k, a⟩ := q
      rw [hL] at hb
      obtain ⟨A, t, B, rfl, hk, h1, h2⟩ := hb
      rw [mergeA_some hL]
      have hset : (A ++ (a :: t) :: B).set k (((A ++ (a :: t) :: B).getD k []).drop 1) = A ++ t :: B := by
        subst hk
        rw [List.getD_eq_getElem?_getD, List.getElem?_append_right (Nat.le_refl _)]
        simp
      rw [hset]
      have hsa : Srt f (a :: t) := hs _ (by simp)
      have hs' : ∀ l ∈ A ++ t :: B, Srt f l := fun l hl => by
        rcases List.mem_append.1 hl with hl | hl
        · exact hs l (by simp [hl])
        · rcases List.mem_cons.1 hl with rfl | hl
          · exact (List.pairwise_cons.1 hsa).2
          · exact hs l (by simp [hl])
      obtain ⟨i1, i2, i3⟩ := ih (A ++ t :: B) (by rw [total_app] at ht ⊢; simp only [total, List.length_cons] at ht ⊢; omega) hs'
      have hA : ∀ y ∈ A.flatten, f a y < 0 := fun y hy => by
        obtain ⟨l, hl, hyl⟩ := List.mem_flatten.1 hy
        cases l with
        | nil => cases hyl
        | cons c l' =>
          have h3 := h1 _ hl c rfl
          have h4 : f a c < 0 := by have := h.sym c a; omega
          rcases List.mem_cons.1 hyl with e | e
          · rw [e]; exact h4
          · exact h.lt_le h4 ((List.pairwise_cons.1 (hs (c :: l') (by simp [hl]))).1 y e)
      have hall : ∀ y ∈ (A ++ t :: B).flatten, f a y ≤ 0 := fun y hy => by
        rw [List.flatten_append, List.flatten_cons] at hy
        rcases List.mem_append.1 hy with hy | hy
        · have := hA y hy; omega
        · rcases List.mem_append.1 hy with hy | hy
          · exact (List.pairwise_cons.1 hsa).1 y hy
          · obtain ⟨l, hl, hyl⟩ := List.mem_flatten.1 hy
            cases l with
            | nil => cases hyl
            | cons c l' =>
              have h3 := h2 _ hl c rfl
              rcases List.mem_cons.1 hyl with e | e
              · rw [e]; exact h3
              · exact h.le_trans h3 ((List.pairwise_cons.1 (hs (c :: l') (by simp [hl]))).1 y e)
      refine ⟨List.pairwise_cons.2 ⟨fun y hy => hall y (i2 y hy), i1⟩, fun y hy => ?_, fun x => ?_⟩
      · rcases List.mem_cons.1 hy with e | e
        · rw [e]; simp
        · have := i2 y e
          rw [List.flatten_append, List.flatten_cons] at this ⊢
          rcases List.mem_append.1 this with h | h
          · simp [h]
          · rcases List.mem_append.1 h with h | h
            · simp [h]
            · exact List.mem_append_right _ (List.mem_append_right _ h)
      · rw [List.filter_cons, i3, List.flatten_append, List.flatten_append, List.flatten_cons, List.flatten_cons, List.filter_append, List.filter_append, List.filter_append, List.filter_append, List.filter_cons]
        cases hx : eqv f x a with
        | false => simp
        | true =>
          have hA0 : A.flatten.filter (eqv f x) = [] := by
            rw [List.filter_eq_nil_iff]
            intro y hy hxy
            have h3 := eqv_trans h (eqv_symm h hx) hxy
            rw [h.eqv_iff] at h3
            have := hA y hy
            omega
          rw [hA0]
          simp
end
section
variable {L : Loc} {p : Spec} (hv : checkS p = 0)
include hv
def mergeS (L : Loc) (p : Spec) (ls : List (List Str)) : List Str :=
  if p.uniq then onceL (lineS L p) [] (mergeA (orderS L p) (total ls) ls) else mergeA (orderS L p) (total ls) ls
theorem merge_parts (ls : List (List Str)) : mergeS L p (ls.map (sortS L p)) = sortS L p ls.flatten := by
  have hc := orderS_cm L p
  obtain ⟨m1, _, m3⟩ := merge_spec hc (total (ls.map (sortS L p))) (ls.map (sortS L p)) (Nat.le_refl _) (fun l hl => by
    obtain ⟨k, _, rfl⟩ := List.mem_map.1 hl
    exact (sort_srt hv k).1)
  obtain ⟨s1, s2, s3⟩ := sort_srt (L := L) hv ls.flatten
  unfold mergeS
  cases hu : p.uniq with
  | false =>
    rw [if_neg (by decide)]
    refine srt_uniq hc _ _ m1 s1 fun x => ?_
    rw [m3, s3, hu, if_neg (by decide)]
    have : ∀ ls : List (List Str), (ls.map (sortS L p)).flatten.filter (eqv (orderS L p) x) = ls.flatten.filter (eqv (orderS L p) x) := by
      intro ls
      induction ls with
      | nil => rfl
      | cons l ls ih =>
        rw [List.map_cons, List.flatten_cons, List.flatten_cons, List.filter_append, List.filter_append, ih, (sort_srt hv l).2.2, hu, if_neg (by decide)]
    exact this ls
  | true =>
    have hg : lineS L p = orderS L p := funext fun a => funext fun b => (orderS_sure (by rw [valid_self hv, hu, Bool.or_true]) a b).symm
    rw [if_pos rfl, hg]
    obtain ⟨c1, c2⟩ := once_spec hc _ [] List.Pairwise.nil (fun a ha => by cases ha) m1
    refine srt_uniq hc _ _ c1.srt s1 fun x => ?_
    rw [c2, s3, hu, if_pos rfl]
    show (if ([] : List Str) = [] then _ else _) = _
    rw [if_pos rfl, m3]
    have : ∀ ls : List (List Str), ((ls.map (sortS L p)).flatten.filter (eqv (orderS L p) x)).take 1 = (ls.flatten.filter (eqv (orderS L p) x)).take 1 := by
      intro ls
      induction ls with
      | nil => rfl
      | cons l ls ih =>
        rw [List.map_cons, List.flatten_cons, List.flatten_cons, List.filter_append, List.filter_append, (sort_srt hv l).2.2, hu, if_pos rfl]
        cases hl : l.filter (eqv (orderS L p) x) with
        | nil => simpa using ih
        | cons a r => simp
    exact this ls
end
end Go.Am
namespace Go.Am
set_option linter.unusedSimpArgs false
set_option linter.unusedVariables false
set_option linter.unusedSectionVars false
set_option maxRecDepth 100000

section
variable {L : Loc} {lx c e : AV} (hav : LocAV (.agg (L.cells lx c e)) L) (hok : LocOk L) {p : Spec} {xp : AV} (hsp : SpecAV (.agg (p.cells xp)) p) (hks : ∀ k ∈ p.keys, KeOk k)
include hav hok hsp hks
section
variable {x2 x7 : AV} {l : List Str} (h2 : SS x2 l) {line : Str} (hline : line.length ≤ 1048576) {i9 : Nat} (hix : aindexS 1 x2 (.int .i64 (i9 : Int)) = some (.vp [.str line]))
include hline hix

omit hix in
end
end
end Go.Am
namespace Go.Am
set_option linter.unusedSimpArgs false
set_option linter.unusedVariables false
set_option linter.unusedSectionVars false
set_option maxRecDepth 100000

end Go.Am
namespace Go.Am
set_option linter.unusedSimpArgs false
set_option linter.unusedVariables false
set_option linter.unusedSectionVars false
set_option maxRecDepth 100000

theorem SS.cell {e : AV} {l : List Str} (h : SS e l) : e.cells = [e] ∧ e.known = true := by
  rcases h with ⟨rfl, _⟩ | ⟨t, rfl⟩ <;> exact ⟨rfl, rfl⟩
structure EE (es : List AV) (ls : List (List Str)) : Prop where
  len : es.length = ls.length
  at' : ∀ (i : Nat) (l : List Str), ls[i]? = some l → ∃ e, es[i]? = some e ∧ SS e l
theorem EE.nil : EE [] [] := ⟨rfl, fun i l h => by simp at h⟩
theorem EE.cell {es : List AV} {ls : List (List Str)} (h : EE es ls) : ∀ e ∈ es, ∃ l, SS e l ∧ l ∈ ls := fun e he => by
  obtain ⟨i, hi⟩ := List.getElem?_of_mem he
  have hl := (List.getElem?_eq_some_iff.1 hi).1
  rw [h.len] at hl
  obtain ⟨e', h1, h2⟩ := h.at' i ls[i] (List.getElem?_eq_getElem hl)
  rw [hi] at h1
  injection h1 with h1
  subst h1
  exact ⟨_, h2, List.getElem_mem _⟩
theorem flat_cells : ∀ {es : List AV}, (∀ e ∈ es, e.cells = [e]) → (es.map AV.cells).flatten = es := by
  intro es
  induction es with
  | nil => intro _; rfl
  | cons e es ih =>
    intro h
    rw [List.map_cons, List.flatten_cons, h e (by simp), ih (fun x hx => h x (by simp [hx]))]
    rfl
theorem EE.flat {es : List AV} {ls : List (List Str)} (h : EE es ls) : (es.map AV.cells).flatten = es := flat_cells fun e he => by
  obtain ⟨l, h1, _⟩ := h.cell e he
  exact h1.cell.1
theorem EE.set {es : List AV} {ls : List (List Str)} (h : EE es ls) {e : AV} {l : List Str} (he : SS e l) {i : Nat} (hi : i < ls.length) : EE (es.set i e) (ls.set i l) := by
  refine ⟨by simp [h.len], fun j m hm => ?_⟩
  by_cases hij : i = j
  · subst hij
    rw [List.getElem?_set_self hi] at hm
    injection hm with hm
    subst hm
    exact ⟨e, List.getElem?_set_self (by rw [h.len]; exact hi), he⟩
  · rw [List.getElem?_set_ne hij] at hm ⊢
    exact h.at' j m hm
theorem EE.app {es : List AV} {ls : List (List Str)} (h : EE es ls) {e : AV} {l : List Str} (he : SS e l) : EE (es ++ [e]) (ls ++ [l]) := by
  refine ⟨by simp [h.len], fun j m hm => ?_⟩
  by_cases hj : j < ls.length
  · rw [List.getElem?_append_left hj] at hm
    rw [List.getElem?_append_left (by rw [h.len]; exact hj)]
    exact h.at' j m hm
  · have hlt := (List.getElem?_eq_some_iff.1 hm).1
    have : j = ls.length := by simp at hlt; omega
    subst this
    rw [List.getElem?_append_right (Nat.le_refl _)] at hm
    simp at hm
    subst hm
    exact ⟨e, by rw [List.getElem?_append_right (by rw [h.len]; exact Nat.le_refl _), h.len]; simp, he⟩
def Rst (o : Nat) (H : Hp) (x : AV) (ls : List (List Str)) : Prop :=
  ls = [] ∧ (x = .nils ∨ x = .vs 1 .clip []) ∨ ∃ e es, x = .ws false 1 o e ls.length ∧ H[o]? = some (.row e es) ∧ EE es ls
theorem wp_load {o e i : Nat} {H : Hp} {es : List AV} {a : AV} (h : H[o]? = some (.row e es)) (hv : es[i]? = some a) : aload false 1 (.wp o e (i * 1)) H = some a := by
  simp [aload, h, Go.Am.apart, hv]
theorem splice1 {l : List AV} {i : Nat} {a : AV} (h : i < l.length) : splice l (i * 1) [a] = l.set i a := by
  unfold splice
  rw [Nat.mul_one, List.set_eq_take_append_cons_drop, if_pos h]
  simp
theorem wp_store {o e i : Nat} {H : Hp} {es : List AV} {a : AV} (h : H[o]? = some (.row e es)) (ha : a.cells = [a] ∧ a.known = true) (hi : i < es.length) : astoreU 1 (.wp o e (i * 1)) a H = some (.tuple [], H.set o (.row e (es.set i a))) := by
  unfold astoreU astore
  simp only [h]
  rw [if_pos ⟨trivial, ha.2, by rw [ha.1]; rfl, by omega⟩, ha.1, splice1 hi]
theorem ws_index {o e n i : Nat} (h : i < n) : aindexS 1 (.ws false 1 o e n) (.int .i64 (i : Int)) = some (.wp o e (i * 1)) := by
  unfold aindexS
  dsimp only
  rw [if_pos (by omega)]
  rfl
theorem Rst.get {o : Nat} {H : Hp} {x : AV} {ls : List (List Str)} (h : Rst o H x ls) {i : Nat} {l : List Str} (hi : ls[i]? = some l) : ∃ p a, aindexS 1 x (.int .i64 (i : Int)) = some p ∧ aload false 1 p H = some a ∧ SS a l := by
  rcases h with ⟨rfl, _⟩ | ⟨e, es, rfl, ho, he⟩
  · simp at hi
  · obtain ⟨a, h1, h2⟩ := he.at' i l hi
    exact ⟨_, a, ws_index (List.getElem?_eq_some_iff.1 hi).1, wp_load ho h1, h2⟩
theorem Rst.len {o : Nat} {H : Hp} {x : AV} {ls : List (List Str)} (h : Rst o H x ls) (e : Nat) : alenD (.slice e) x = some (.int .i64 (ls.length : Int)) := by
  rcases h with ⟨rfl, rfl | rfl⟩ | ⟨e, es, rfl, ho, he⟩ <;> rfl
theorem Rst.keep {o : Nat} {H H' : Hp} {x : AV} {ls : List (List Str)} (h : Rst o H x ls) (hk : Keep (o + 1) H H') : Rst o H' x ls := by
  rcases h with h | ⟨e, es, h1, ho, he⟩
  · exact .inl h
  · exact .inr ⟨e, es, h1, (hk o (by omega)).trans ho, he⟩
theorem Rst.put {o : Nat} {H : Hp} {x : AV} {ls : List (List Str)} (h : Rst o H x ls) {i : Nat} (hi : i < ls.length) {a : AV} {m : List Str} (ha : SS a m) : ∃ p H', aindexS 1 x (.int .i64 (i : Int)) = some p ∧ astoreU 1 p a H = some (.tuple [], H') ∧ Rst o H' x (ls.set i m) ∧ H'.length = H.length ∧ ∀ j, j ≠ o → H'[j]? = H[j]? := by
  rcases h with ⟨rfl, _⟩ | ⟨e, es, rfl, ho, he⟩
  · simp at hi
  · refine ⟨_, _, ws_index hi, wp_store ho ha.cell (by rw [he.len]; exact hi), .inr ⟨e, es.set i a, by rw [List.length_set], List.getElem?_set_self (List.getElem?_eq_some_iff.1 ho).1, he.set ha hi⟩, by simp, fun j hj => List.getElem?_set_ne (fun e => hj e.symm)⟩
theorem chunks_one2 : ∀ l : List AV, chunks false 1 l.length l = l := by
  intro l
  induction l with
  | nil => rfl
  | cons a l ih => simp only [List.length_cons, chunks]; rw [List.drop_one, List.tail_cons, ih]; rfl
def LL (H : Hp) (x : AV) (ls : List (List Str)) : Prop :=
  ls = [] ∧ (x = .nils ∨ x = .vs 1 .clip []) ∨ (∃ t es, x = .vs 1 t es ∧ EE es ls) ∨ ∃ o e es, x = .ws false 1 o e ls.length ∧ H[o]? = some (.row e es) ∧ EE es ls
theorem Rst.ll {o : Nat} {H : Hp} {x : AV} {ls : List (List Str)} (h : Rst o H x ls) : LL H x ls := by
  rcases h with h | ⟨e, es, h1, ho, he⟩
  · exact .inl h
  · exact .inr (.inr ⟨o, e, es, h1, ho, he⟩)
theorem LL.elems {H : Hp} {x : AV} {ls : List (List Str)} (h : LL H x ls) : ∃ es, elems 1 x H = some es ∧ EE es ls := by
  rcases h with ⟨rfl, rfl | rfl⟩ | ⟨t, es, rfl, he⟩ | ⟨o, e, es, rfl, ho, he⟩
  · exact ⟨[], rfl, EE.nil⟩
  · exact ⟨[], rfl, EE.nil⟩
  · exact ⟨es, rfl, he⟩
  · refine ⟨es, ?_, he⟩
    unfold Go.Am.elems
    dsimp only
    rw [if_pos ⟨rfl, .inr rfl⟩, ho]
    dsimp only
    rw [if_pos ⟨rfl, by rw [he.len]; omega⟩, ← he.len, chunks_one2]
theorem LL.len {H : Hp} {x : AV} {ls : List (List Str)} (h : LL H x ls) (e : Nat) : alenD (.slice e) x = some (.int .i64 (ls.length : Int)) := by
  rcases h with ⟨rfl, rfl | rfl⟩ | ⟨t, es, rfl, he⟩ | ⟨o, e, es, rfl, ho, he⟩
  · rfl
  · rfl
  · show some (AV.int .i64 (es.length : Int)) = _; rw [he.len]
  · rfl
theorem LL.get {H : Hp} {x : AV} {ls : List (List Str)} (h : LL H x ls) {i : Nat} {l : List Str} (hi : ls[i]? = some l) : ∃ p a, aindexS 1 x (.int .i64 (i : Int)) = some p ∧ aload false 1 p H = some a ∧ SS a l := by
  rcases h with ⟨rfl, _⟩ | ⟨t, es, rfl, he⟩ | ⟨o, e, es, rfl, ho, he⟩
  · simp at hi
  · obtain ⟨a, h1, h2⟩ := he.at' i l hi
    refine ⟨.vp a.cells, a, ?_, ?_, h2⟩
    · unfold aindexS
      dsimp only
      rw [if_pos ⟨rfl, by omega⟩, Int.toNat_natCast, h1]
    · rw [h2.cell.1]; rfl
  · obtain ⟨a, h1, h2⟩ := he.at' i l hi
    exact ⟨_, a, ws_index (List.getElem?_eq_some_iff.1 hi).1, wp_load ho h1, h2⟩

def codeL : Option (Nat × Str) → Int
  | none => -1
  | some (k, _) => (k : Int)
theorem codeL_none : codeL none = -1 := rfl
theorem codeL_some (k : Nat) (a : Str) : codeL (some (k, a)) = (k : Int) := rfl
theorem total_set {α : Type} : ∀ (ls : List (List α)) (k : Nat) (a : α) (t : List α), ls[k]? = some (a :: t) → total (ls.set k t) + 1 = total ls := by
  intro ls
  induction ls with
  | nil => intro k a t h; simp at h
  | cons x ls ih =>
    intro k a t h
    cases k with
    | zero => simp at h; subst h; simp [total]; omega
    | succ k => simp at h; have := ih k a t h; simp [total]; omega
theorem LL.keep {H H' : Hp} {x : AV} {ls : List (List Str)} (h : LL H x ls) (hk : Keep H.length H H') : LL H' x ls := by
  rcases h with h | h | ⟨o, e, es, h1, ho, he⟩
  · exact .inl h
  · exact .inr (.inl h)
  · exact .inr (.inr ⟨o, e, es, h1, (hk o (List.getElem?_eq_some_iff.1 ho).1).trans ho, he⟩)
abbrev Lenss (ls : List (List Str)) : Prop := ∀ l ∈ ls, Lens l
section
variable {K : AV → Prop} {f : Str → Str → Int} (hK : Fv K fun a b => decide (0 < f a b)) {v : AV} (hv : K v)
include hK hv
theorem least_loop {x : AV} {ls : List (List Str)} {H : Hp} (hx : LL H x ls) (hL : Lenss ls) (hl : ls.length ≤ 1048576) (hin : ∀ l ∈ ls, l.length ≤ 1048576) (H0 : Hp) : ∀ (r done : List (List Str)) (b : Option (Nat × Str)), ls = done ++ r →
    (∀ k a, b = some (k, a) → ∃ t, ls[k]? = some (a :: t)) →
    memsort_least_L1 x v (.int .i64 (codeL b)) x (.int .i64 (ls.length : Int)) (.int .i64 (done.length : Int)) H0 H = some (.int .i64 (codeL (leastG f r done.length b)), H) := by
  intro r
  induction r with
  | nil =>
    intro done b hd hb
    rw [List.append_nil] at hd
    subst hd
    have hlt : decide ((ls.length : Int) < (ls.length : Int)) = false := by simp
    rw [memsort_least_L1_eq]
    simp only [go_sem, hlt, memsort_least_J1_eq]
    rfl
  | cons y r ih =>
    intro done b hd hb
    have hlen : ls.length = done.length + (r.length + 1) := by rw [hd]; simp
    have hlt : decide ((done.length : Int) < (ls.length : Int)) = true := by simp; omega
    have hw1 : IntKind.i64.wrap ((done.length : Int) + 1) = ((done.length + 1 : Nat) : Int) := by rw [wrap64 (by omega) (by omega)]; omega
    have hiy : ls[done.length]? = some y := by rw [hd, List.getElem?_append_right (Nat.le_refl _)]; simp
    have hmy : y ∈ ls := List.mem_of_getElem? hiy
    obtain ⟨q, ay, g1, g2, g3⟩ := hx.get hiy
    have next : ∀ b', (∀ k a, b' = some (k, a) → ∃ t, ls[k]? = some (a :: t)) → memsort_least_J3 x v (.int .i64 (codeL b')) x (.int .i64 (ls.length : Int)) (.int .i64 (done.length : Int)) H0 H = some (.int .i64 (codeL (leastG f r (done.length + 1) b')), H) := fun b' hb' => by
      have := ih (done ++ [y]) b' (by rw [hd]; simp) hb'
      rw [List.length_append, List.length_singleton] at this
      rw [memsort_least_J3_eq]
      simp only [go_sem, hw1, this]
    have hn := SS.len g3 9
    rw [memsort_least_L1_eq]
    simp only [go_sem, hlt, memsort_least_J2_eq, g1, g2, hn]
    cases y with
    | nil =>
      have h0 : decide ((0 : Int) < ((([] : List Str).length : Nat) : Int)) = false := rfl
      simp only [h0, go_sem, leastG_nil]
      exact next b hb
    | cons a t =>
      have h1 : decide ((0 : Int) < (((a :: t).length : Nat) : Int)) = true := by simp
      have ha : a.length ≤ 1048576 := hL _ hmy a (by simp)
      have nn := next (some (done.length, a)) fun k a' e => by
        injection e with e
        injection e with e1 e2
        subst e1 e2
        exact ⟨t, hiy⟩
      rw [codeL_some] at nn
      have i0 : aindexS 1 ay (.int .i64 0) = some (.vp [.str a]) := SS.idx g3 (i := 0) rfl
      cases b with
      | none =>
        rw [leastG_none, codeL_none]
        have h2 : decide ((-1 : Int) < 0) = true := rfl
        simp only [h1, h2, go_sem]
        exact nn
      | some p =>
        obtain ⟨k, c⟩ := p
        obtain ⟨t', hk⟩ := hb k c rfl
        obtain ⟨q', ac, f1, f2, f3⟩ := hx.get hk
        have hc : c.length ≤ 1048576 := hL _ (List.mem_of_getElem? hk) c (by simp)
        have j0 : aindexS 1 ac (.int .i64 0) = some (.vp [.str c]) := SS.idx f3 (i := 0) rfl
        have hcall := hK.run v hv c a hc ha H
        have h2 : decide ((k : Int) < 0) = false := by simp
        have no := next (some (k, c)) hb
        rw [leastG_some]
        rw [codeL_some] at no ⊢
        simp only [h1, h2, go_sem, f1, f2, j0, i0, aload_vpc, hcall]
        by_cases hca : 0 < f c a
        · simp only [decide_eq_true hca, go_sem, if_pos hca]
          exact nn
        · simp only [decide_eq_false hca, go_sem, if_neg hca]
          exact no
theorem least_run {x : AV} {ls : List (List Str)} {H : Hp} (hx : LL H x ls) (hL : Lenss ls) (hl : ls.length ≤ 1048576) (hin : ∀ l ∈ ls, l.length ≤ 1048576) :
    C_memsort_least [x, v] H = some (.int .i64 (codeL (leastG f ls 0 none)), H) := by
  have h := least_loop hK hv hx hL hl hin H ls [] none rfl (fun k a e => by cases e)
  rw [List.length_nil, show ((0 : Nat) : Int) = 0 from rfl, codeL_none] at h
  rw [F_memsort_least_eq]
  unfold F_memsort_least
  simp only [go_sem, hx.len, h]
theorem merge_loop2 {x3 x4 : AV} (B : Hp) {o : Nat} (ho : B.length ≤ o) : ∀ (n : Nat) (rest : List (List Str)) (acc : List Str) (x x9 : AV) (H : Hp), total rest = n → Rst o H x rest → RowN (o + 1) H 1 x9 (acc.map AV.str) → Keep B.length B H → B.length ≤ H.length → Lenss rest → rest.length ≤ 1048576 → acc.length + n ≤ 1048576 →
    ∃ y H', memsort_Merge_L1 x3 x4 v x x9 (.int .i64 (codeL (leastG f rest 0 none))) B H = memsort_Merge_J2 x3 x4 y B H' ∧ SS y (acc ++ mergeA f n rest) ∧ Keep B.length B H' ∧ B.length ≤ H'.length := by
  intro n
  induction n with
  | zero =>
    intro rest acc x x9 H ht hx h9 hk hlB hL hl hac
    have hb := least_at f rest [] none (fun k a e => (by cases e)) (fun _ l hl => (by cases hl))
    rw [List.nil_append, List.length_nil] at hb
    have hnone : leastG f rest 0 none = none := by
      cases hg : leastG f rest 0 none with
      | none => rfl
      | some p =>
        obtain ⟨k, a⟩ := p
        obtain ⟨t, hk⟩ := hb.1 k a hg
        have := total_set rest k a t hk
        omega
    refine ⟨x9, H, ?_, by simpa [mergeA] using h9.sl, hk, hlB⟩
    rw [memsort_Merge_L1_eq, hnone, codeL_none]
    have h2 : decide ((0 : Int) ≤ -1) = false := rfl
    simp only [go_sem, h2]
  | succ n ih =>
    intro rest acc x x9 H ht hx h9 hk hlB hL hl hac
    have hb := least_at f rest [] none (fun k a e => (by cases e)) (fun _ l hl => (by cases hl))
    rw [List.nil_append, List.length_nil] at hb
    cases hg : leastG f rest 0 none with
    | none =>
      have h0 := hb.2 hg
      have : total rest = 0 := by rw [← total_flat, List.flatten_eq_nil_iff.2 h0]; rfl
      omega
    | some p =>
      obtain ⟨k, a⟩ := p
      obtain ⟨t, hkt⟩ := hb.1 k a hg
      have hkl : k < rest.length := (List.getElem?_eq_some_iff.1 hkt).1
      have hts := total_set rest k a t hkt
      have hdrop : (rest.getD k []).drop 1 = t := by rw [List.getD_eq_getElem?_getD, hkt]; rfl
      have hoH : o + 1 ≤ H.length := by
        rcases hx with ⟨rfl, _⟩ | ⟨e, es, _, h1, _⟩
        · simp at hkl
        · have := (List.getElem?_eq_some_iff.1 h1).1; omega
      obtain ⟨q, b, g1, g2, g3⟩ := Rst.ll hx |>.get hkt
      obtain ⟨y1, H1, q1, q2, q3, q4, _⟩ := h9.app hoH 16 (.vs 1 .clip [.str a]) [.str a] rfl (by simp; omega)
      have hx1 := hx.keep q4
      obtain ⟨q', b', e1, e2, e3⟩ := hx1.get hkt
      obtain ⟨b2, s1, s2⟩ := SS.lo e3 (n := 1) (by simp)
      rw [show ((1 : Nat) : Int) = 1 from rfl] at s1
      simp only [List.drop_one, List.tail_cons] at s2
      obtain ⟨p', H2, w1, w2, w3, w4, w5⟩ := hx1.put hkl s2
      have hrow2 : RowN (o + 1) H2 1 y1 ((acc ++ [a]).map AV.str) := by
        rw [List.map_append]
        rcases q2 with ⟨r1, r2⟩ | ⟨t', e', r1, r2, r3⟩
        · exact .inl ⟨r1, r2⟩
        · exact .inr ⟨t', e', r1, (w5 t' (by omega)).trans r2, r3⟩
      have hkB : Keep B.length B H2 := fun i hi => (w5 i (by omega)).trans ((q4 i (by omega)).trans (hk i hi))
      have hL2 : Lenss (rest.set k t) := fun l hl s hs => by
        rcases List.mem_or_eq_of_mem_set hl with h | h
        · exact hL l h s hs
        · subst h; exact hL _ (List.mem_of_getElem? hkt) s (by simp [hs])
      have hin2 : ∀ l ∈ rest.set k t, l.length ≤ 1048576 := fun l hl => by
        have h3 : ∀ (ls : List (List Str)), l ∈ ls → l.length ≤ total ls := by
          intro ls
          induction ls with
          | nil => intro h; cases h
          | cons z ls ih2 =>
            intro h
            rcases List.mem_cons.1 h with h | h
            · subst h; simp [total]
            · have := ih2 h; simp [total]; omega
        have := h3 _ hl
        omega
      have hlr := least_run hK hv w3.ll hL2 (by rw [List.length_set]; exact hl) hin2
      obtain ⟨y, H', m1, m2, m3, m4⟩ := ih (rest.set k t) (acc ++ [a]) x y1 H2 (by omega) w3 hrow2 hkB (by omega) hL2 (by rw [List.length_set]; exact hl) (by simp; omega)
      have hq' : q' = q := Option.some.inj (e1.symm.trans g1)
      have hp' : p' = q := Option.some.inj (w1.symm.trans g1)
      subst hq' hp'
      refine ⟨y, H', ?_, ?_, m3, m4⟩
      · have h2 : decide ((0 : Int) ≤ (k : Int)) = true := by simp
        have i0 : aindexS 1 b (.int .i64 0) = some (.vp [.str a]) := SS.idx g3 (i := 0) rfl
        rw [memsort_Merge_L1_eq, codeL_some]
        simp only [go_sem, h2, memsort_Merge_J4_eq, g1, g2, i0, aload_vpc, one_str, q1, e2, s1, w2, memsort_Merge_J5_eq, hlr]
        exact m1
      · rw [mergeA_some hg, hdrop]
        simpa using m2
end
end Go.Am
namespace Go.Am
set_option linter.unusedSimpArgs false
set_option linter.unusedVariables false
set_option linter.unusedSectionVars false
set_option maxRecDepth 100000

theorem clone2_app {x : AV} {ls : List (List Str)} {H : Hp} (h : LL H x ls) (hl : ls.length ≤ 1048576) : ∃ y H', aappEL false 1 24 (.vs 1 .clip []) x H = some (y, H') ∧ Rst H.length H' y ls ∧ Keep H.length H H' ∧ H.length ≤ H'.length := by
  obtain ⟨es, he1, he2⟩ := h.elems
  have hfit : fits (([] : List AV).length + es.length) 24 = true := by
    have := he2.len
    simp [fits]
    omega
  unfold aappEL
  rw [he1]
  dsimp only
  unfold aappL
  dsimp only
  rw [if_pos ⟨rfl, hfit⟩]
  by_cases h0 : es = []
  · subst h0
    have : ls = [] := List.length_eq_zero_iff.1 (by rw [← he2.len]; rfl)
    subst this
    exact ⟨_, _, rfl, .inl ⟨rfl, .inr rfl⟩, Keep.refl _ _, Nat.le_refl _⟩
  · rw [if_neg h0]
    refine ⟨_, _, rfl, .inr ⟨0, es, ?_, ?_, he2⟩, Keep.push H (Nat.le_refl _) _, by simp⟩
    · rw [List.length_nil, Nat.zero_add, he2.len]
    · rw [List.nil_append, he2.flat]; simp
theorem clone2_run {x : AV} {ls : List (List Str)} {H : Hp} (h : LL H x ls) (hl : ls.length ≤ 1048576) : ∃ y H', C_slices_Clone_of_string_string_ [x] H = some (y, H') ∧ Rst H.length H' y ls ∧ Keep H.length H H' ∧ H.length ≤ H'.length := by
  have one : (setElems 1 [] []).map (AV.vs 1 .clip) = some (.vs 1 .clip []) := rfl
  obtain ⟨y, H', p1, p2, p3, p4⟩ := clone2_app h hl
  rw [F_slices_Clone_of_string_string__eq]
  unfold F_slices_Clone_of_string_string_
  by_cases hx : x = .nils
  · subst hx
    have e : ebin (.slice 30) .eql .nils .nils = some (.bool true) := rfl
    have hls : ls = [] := by
      rcases h with ⟨h, _⟩ | ⟨t, es, h, _⟩ | ⟨o, e, es, h, _⟩
      · exact h
      · cases h
      · cases h
    exact ⟨.nils, H, by simp only [e, go_sem], .inl ⟨hls, .inl rfl⟩, Keep.refl _ _, Nat.le_refl _⟩
  · have e : ebin (.slice 30) .eql x .nils = some (.bool false) := by
      rcases h with ⟨_, h | h⟩ | ⟨t, es, h, _⟩ | ⟨o, e, es, h, _⟩
      · exact absurd h hx
      · rw [h]; rfl
      · rw [h]; rfl
      · rw [h]; rfl
    exact ⟨y, H', by simp only [e, go_sem, slices_Clone_of_string_string__J1_eq, one, p1], p2, p3, p4⟩
theorem total_len (ls : List (List Str)) : ∀ l ∈ ls, l.length ≤ total ls := by
  induction ls with
  | nil => intro l h; cases h
  | cons z ls ih =>
    intro l h
    rcases List.mem_cons.1 h with h | h
    · subst h; simp [total]
    · have := ih l h; simp [total]; omega
theorem merge_mem2 (f : Str → Str → Int) : ∀ (n : Nat) (rest : List (List Str)), ∀ s ∈ mergeA f n rest, s ∈ rest.flatten := by
  intro n
  induction n with
  | zero => intro rest s hs; cases hs
  | succ n ih =>
    intro rest s hs
    cases hg : leastG f rest 0 none with
    | none => rw [mergeA_none hg] at hs; cases hs
    | some p =>
      obtain ⟨k, a⟩ := p
      have hb := least_at f rest [] none (fun k a e => (by cases e)) (fun _ l hl => (by cases hl))
      rw [List.nil_append, List.length_nil] at hb
      obtain ⟨t, hkt⟩ := hb.1 k a hg
      rw [mergeA_some hg] at hs
      have hdrop : (rest.getD k []).drop 1 = t := by rw [List.getD_eq_getElem?_getD, hkt]; rfl
      rw [hdrop] at hs
      rcases List.mem_cons.1 hs with e | hs
      · exact List.mem_flatten.2 ⟨_, List.mem_of_getElem? hkt, by simp [e]⟩
      · obtain ⟨l, hl, hsl⟩ := List.mem_flatten.1 (ih _ s hs)
        rcases List.mem_or_eq_of_mem_set hl with h | h
        · exact List.mem_flatten.2 ⟨l, h, hsl⟩
        · subst h; exact List.mem_flatten.2 ⟨_, List.mem_of_getElem? hkt, by simp [hsl]⟩
theorem mergeA_len (f : Str → Str → Int) : ∀ (n : Nat) (rest : List (List Str)), (mergeA f n rest).length ≤ n := by
  intro n
  induction n with
  | zero => intro rest; exact Nat.le_refl _
  | succ n ih =>
    intro rest
    cases hg : leastG f rest 0 none with
    | none => rw [mergeA_none hg]; simp
    | some p =>
      obtain ⟨k, a⟩ := p
      rw [mergeA_some hg]
      have := ih (rest.set k ((rest.getD k []).drop 1))
      rw [List.length_cons]; omega
theorem merge_run {a : AV} {L : Loc} (h : LocAV a L) (hok : LocOk L) {q : AV} {p : Spec} (hq : SpecAV q p) (hks : ∀ k ∈ p.keys, KeOk k) (hv0 : checkS p = 0) {x : AV} {ls : List (List Str)} {B : Hp} (hx : LL B x ls) (hL : Lenss ls) (ht : total ls ≤ 1048576) (hl : ls.length ≤ 1048576) :
    ∃ y, C_memsort_Merge [a, q, x] B = some (y, B) ∧ SS y (mergeS L p ls) := by
  have hck := fun H => check_flat hq H
  obtain ⟨lx, c, e, rfl, hlx, hc, he⟩ := h
  obtain ⟨xp, rfl, hxp⟩ := hq
  have g1 : (B ++ [AObj.cells (L.cells lx c e), AObj.cells (p.cells xp)])[B.length]? = some (.cells (L.cells lx c e)) := by simp
  have g2 : (B ++ [AObj.cells (L.cells lx c e), AObj.cells (p.cells xp)])[B.length + 1]? = some (.cells (p.cells xp)) := by simp
  have hl5 : aload true 5 (.ptr (B.length + 1) 0) (B ++ [AObj.cells (L.cells lx c e), AObj.cells (p.cells xp)]) = some (.agg (p.cells xp)) := by rw [aload_of g2]; simp [Go.Am.apart, Spec.cells]
  generalize hH2 : B ++ [AObj.cells (L.cells lx c e), AObj.cells (p.cells xp)] = H2 at g1 g2 hl5
  have hH2l : H2.length = B.length + 2 := by rw [← hH2]; simp
  have hkB2 : Keep B.length B H2 := by rw [← hH2]; exact Keep.push B (Nat.le_refl _) _
  have g3 : (H2.set B.length .dead)[B.length + 1]? = some (.cells (p.cells xp)) := by rw [List.getElem?_set_ne (by omega)]; exact g2
  have hfz : ∀ (k : AV → Hp → Res), frzK (.ptr B.length 0) H2 k = k (.vp (L.cells lx c e)) (H2.set B.length .dead) := fun k => frz_of g1 k
  have hfz2 : ∀ (k : AV → Hp → Res), frzK (.ptr (B.length + 1) 0) (H2.set B.length .dead) k = k (.vp (p.cells xp)) ((H2.set B.length .dead).set (B.length + 1) .dead) := fun k => frz_of g3 k
  generalize hH4 : (H2.set B.length .dead).set (B.length + 1) .dead = H4 at hfz2
  have hH4l : H4.length = B.length + 2 := by rw [← hH4]; simp [hH2l]
  have hkB4 : Keep B.length B H4 := fun i hi => by rw [← hH4, List.getElem?_set_ne (by omega), List.getElem?_set_ne (by omega)]; exact hkB2 i hi
  have hK1 : ClK 32 L p (.fn (.func 32) [] [.vp (L.cells lx c e), .vp (p.cells xp)]) := ⟨_, _, rfl, ⟨lx, c, e, rfl, hlx, hc, he⟩, ⟨xp, rfl, hxp⟩⟩
  have hK2 : ClK 35 L p (.fn (.func 35) [] [.vp (L.cells lx c e), .vp (p.cells xp)]) := ⟨_, _, rfl, ⟨lx, c, e, rfl, hlx, hc, he⟩, ⟨xp, rfl, hxp⟩⟩
  obtain ⟨y1, H5, c1, c2, c3, c4⟩ := clone2_run (hx.keep hkB4) hl
  rw [hH4l] at c2 c3 c4
  have hkB5 : Keep B.length B H5 := fun i hi => (c3 i (by omega)).trans (hkB4 i hi)
  have hlr := least_run (merge1_run L hok p hks) hK1 c2.ll hL hl (fun l hl => by have := total_len ls l hl; omega)
  obtain ⟨y2, H6, m1, m2, m3, m4⟩ := merge_loop2 (merge1_run L hok p hks) hK1 (x3 := .vp (L.cells lx c e)) (x4 := .vp (p.cells xp)) B (o := B.length + 2) (by omega) (total ls) ls [] y1 .nils H5 rfl c2 (RowN.nil _ _ _) hkB5 (by omega) hL hl (by simpa using ht)
  rw [List.nil_append] at m2
  have hu1 : afield 3 (.vp (p.cells xp)) = some (.vp [.bool p.uniq, .bool p.stab]) := rfl
  have hckb : (checkS p != 0) = false := by simp [hv0]
  have hML : Lens (mergeA (orderS L p) (total ls) ls) := fun s hs => by
    obtain ⟨l, h1, h2⟩ := List.mem_flatten.1 (merge_mem2 _ _ _ s hs)
    exact hL l h1 s h2
  have hMl := mergeA_len (orderS L p) (total ls) ls
  have fin : ∀ {y : AV} {l : List Str}, SS y l → ∃ y', memsort_Merge_J3 y B H6 = some (y', B) ∧ SS y' l := fun {y l} hy => by
    obtain ⟨y', r1, r2⟩ := leave_row m3 m4 hy (fun c hc => by obtain ⟨m, _, rfl⟩ := List.mem_map.1 hc; rfl)
    exact ⟨y', by rw [memsort_Merge_J3_eq, r1], r2⟩
  have hJ2 : ∃ y, memsort_Merge_J2 (.vp (L.cells lx c e)) (.vp (p.cells xp)) y2 B H6 = some (y, B) ∧ SS y (mergeS L p ls) := by
    unfold mergeS
    rw [memsort_Merge_J2_eq]
    simp only [go_sem, hu1, aload_vpc]
    cases hu : p.uniq with
    | true =>
      obtain ⟨z, o1, o2⟩ := once_flat (merge2_run L hok p hks) hK2 m2 hML (by omega) H6
      obtain ⟨y, r1, r2⟩ := fin o2
      exact ⟨y, by simp only [go_sem, o1, r1], by simpa using r2⟩
    | false =>
      obtain ⟨y, r1, r2⟩ := fin m2
      exact ⟨y, by simp only [go_sem, r1], by simpa using r2⟩
  obtain ⟨y, j1, j2⟩ := hJ2
  refine ⟨y, ?_, j2⟩
  rw [F_memsort_Merge_eq]
  unfold F_memsort_Merge
  simp only [go_sem, abox_agg, List.length_append, List.length_singleton, List.append_assoc, List.singleton_append, hH2, hl5, hck, hckb, memsort_Merge_J1_eq, hfz, hfz2, c1, hlr, m1, j1]

def PL (x : AV) (ls : List (List Str)) : Prop := ls = [] ∧ x = .nils ∨ ∃ t es, x = .vs 1 t es ∧ EE es ls
theorem PL.ll {x : AV} {ls : List (List Str)} (h : PL x ls) (H : Hp) : LL H x ls := by
  rcases h with ⟨h1, h2⟩ | h
  · exact .inl ⟨h1, .inl h2⟩
  · exact .inr (.inl h)
theorem EE.cons {e : AV} {es : List AV} {l : List Str} {ls : List (List Str)} (he : SS e l) (h : EE es ls) : EE (e :: es) (l :: ls) :=
  ⟨by simp [h.len], fun i m hm => by
    cases i with
    | zero => simp at hm; subst hm; exact ⟨e, rfl, he⟩
    | succ i => simpa using h.at' i m (by simpa using hm)⟩
theorem EE.closed (H : Hp) (n f : Nat) : ∀ (es : List AV) (ls : List (List Str)), EE es ls → ∃ es', es.mapM (closeV H n (f + 2)) = some es' ∧ EE es' ls := by
  intro es
  induction es with
  | nil =>
    intro ls h
    have : ls = [] := List.length_eq_zero_iff.1 (by rw [← h.len]; rfl)
    subst this
    exact ⟨[], by simp, EE.nil⟩
  | cons e es ih =>
    intro ls h
    cases ls with
    | nil => have := h.len; simp at this
    | cons l ls =>
      obtain ⟨e0, h1, h2⟩ := h.at' 0 l rfl
      simp at h1
      subst h1
      obtain ⟨es', h3, h4⟩ := ih ls ⟨by simpa using h.len, fun i m hm => by simpa using h.at' (i + 1) m (by simpa using hm)⟩
      obtain ⟨e', h5, h6⟩ := SS.closed h2 H n f
      exact ⟨e' :: es', by simp [h5, h3], EE.cons h6 h4⟩
theorem PL.closed {x : AV} {ls : List (List Str)} (h : PL x ls) (H : Hp) (n f : Nat) : ∃ x', closeV H n (f + 3) x = some x' ∧ PL x' ls := by
  rcases h with ⟨rfl, rfl⟩ | ⟨t, es, rfl, h⟩
  · exact ⟨.nils, rfl, .inl ⟨rfl, rfl⟩⟩
  · obtain ⟨es', h1, h2⟩ := EE.closed H n f es ls h
    have e := closeV_vs H n (f + 2) 1 t es
    rw [h1] at e
    exact ⟨_, e, .inr ⟨_, es', rfl, h2⟩⟩
theorem all_loop {x : AV} {ls : List (List Str)} (hx : PL x ls) (ht : total ls ≤ 1048576) (hl : ls.length ≤ 1048576) (H0 : Hp) : ∀ (r done : List (List Str)) (y : AV) (H : Hp), ls = done ++ r → RS H y done.flatten →
    ∃ y' H', L21_all_L1 x y (.int .i64 (done.length : Int)) H0 H = some (y', H') ∧ SS y' ls.flatten := by
  intro r
  induction r with
  | nil =>
    intro done y H hd hy
    rw [List.append_nil] at hd
    subst hd
    have hlt : decide ((ls.length : Int) < (ls.length : Int)) = false := by simp
    refine ⟨y, H, ?_, hy.sl⟩
    rw [L21_all_L1_eq]
    simp only [go_sem, (hx.ll H).len, hlt, L21_all_J1_eq]
  | cons l r ih =>
    intro done y H hd hy
    have hlen : ls.length = done.length + (r.length + 1) := by rw [hd]; simp
    have hlt : decide ((done.length : Int) < (ls.length : Int)) = true := by simp; omega
    have hw1 : IntKind.i64.wrap ((done.length : Int) + 1) = ((done.length + 1 : Nat) : Int) := by rw [wrap64 (by omega) (by omega)]; omega
    have hiy : ls[done.length]? = some l := by rw [hd, List.getElem?_append_right (Nat.le_refl _)]; simp
    obtain ⟨q, a, g1, g2, g3⟩ := (hx.ll H).get hiy
    have hb : total done + l.length ≤ 1048576 := by rw [hd, total_app] at ht; simp [total] at ht; omega
    rw [← total_flat] at hb
    obtain ⟨y1, H1, q1, q2⟩ := hy.app g3 (by omega)
    obtain ⟨y', H', m1, m2⟩ := ih (done ++ [l]) y1 H1 (by rw [hd]; simp) (by simpa using q2)
    rw [List.length_append, List.length_singleton] at m1
    refine ⟨y', H', ?_, m2⟩
    rw [L21_all_L1_eq]
    simp only [go_sem, (hx.ll H).len, hlt, L21_all_J2_eq, g1, g2, q1, L21_all_J3_eq, hw1, m1]
theorem all_flat {x : AV} {ls : List (List Str)} (hx : PL x ls) (ht : total ls ≤ 1048576) (hl : ls.length ≤ 1048576) (H : Hp) : ∃ y, flatC C_L21_all [x] H = some (y, H) ∧ SS y ls.flatten := by
  obtain ⟨x', h1, h2⟩ := hx.closed [] 0 3
  obtain ⟨y, H1, r1, r2⟩ := all_loop h2 ht hl [] ls [] .nils [] rfl (RowN.nil _ _ _)
  rw [List.length_nil, show ((0 : Nat) : Int) = 0 from rfl] at r1
  obtain ⟨y', r3, r4⟩ := SS.closed r2 H1 0 4
  refine ⟨y', flatC_cl (args' := [x']) (by simp [h1]) (v := y) (H1 := H1) ?_ r3, r4⟩
  rw [F_L21_all_eq]
  unfold F_L21_all
  exact r1
theorem one_ss {y : AV} {l : List Str} (h : SS y l) : (setElems 1 [(0, y)] [.nils]).map (AV.vs 1 .clip) = some (.vs 1 .clip [y]) := by
  rcases h with ⟨rfl, _⟩ | ⟨t, rfl⟩ <;> rfl
def Gst (o : Nat) (H : Hp) (x : AV) (ls : List (List Str)) : Prop :=
  ls = [] ∧ x = .nils ∧ H.length = o ∨ ∃ e es, x = .ws false 1 o e ls.length ∧ H[o]? = some (.row e es) ∧ EE es ls
theorem Gst.ll {o : Nat} {H : Hp} {x : AV} {ls : List (List Str)} (h : Gst o H x ls) : LL H x ls := by
  rcases h with ⟨h1, h2, _⟩ | ⟨e, es, h1, ho, he⟩
  · exact .inl ⟨h1, .inl h2⟩
  · exact .inr (.inr ⟨o, e, es, h1, ho, he⟩)
theorem Gst.app {o : Nat} {H : Hp} {x : AV} {ls : List (List Str)} (h : Gst o H x ls) {y : AV} {l : List Str} (hy : SS y l) (hl : ls.length + 1 ≤ 1048576) : ∃ x' H', aappEL false 1 24 x (.vs 1 .clip [y]) H = some (x', H') ∧ Gst o H' x' (ls ++ [l]) ∧ ∀ j, j < o → H'[j]? = H[j]? := by
  have hel : elems 1 (.vs 1 .clip [y]) H = some [y] := rfl
  have hce : ([y].map AV.cells).flatten = [y] := flat_cells fun e he => by rw [List.mem_singleton.1 he]; exact hy.cell.1
  unfold aappEL
  rw [hel]
  dsimp only
  rcases h with ⟨rfl, rfl, rfl⟩ | ⟨e, es, rfl, ho, he⟩
  · have hfit : fits [y].length 24 = true := rfl
    unfold aappL
    dsimp only
    rw [if_neg (by simp), if_pos hfit, hce]
    exact ⟨_, _, rfl, .inr ⟨0, [y], rfl, by simp, EE.nil.app hy⟩, fun j hj => List.getElem?_append_left hj⟩
  · have hfit : fits (ls.length + [y].length) 24 = true := by simp [fits]; omega
    unfold aappL
    dsimp only
    rw [if_pos ⟨rfl, rfl, hfit⟩, if_neg (by simp), ho]
    dsimp only
    rw [if_pos ⟨rfl, by rw [he.len]; omega⟩, hce]
    exact ⟨_, _, rfl, .inr ⟨e + 1, es ++ [y], by simp, List.getElem?_set_self (List.getElem?_eq_some_iff.1 ho).1, he.app hy⟩, fun j hj => List.getElem?_set_ne (by omega)⟩
theorem sortS_mem {L : Loc} {p : Spec} (hv0 : checkS p = 0) {l : List Str} : ∀ s ∈ sortS L p l, s ∈ l := fun s hs => by
  rw [sort_valid hv0] at hs
  split at hs
  · rcases onceL_mem _ _ s hs with h | h
    · cases h
    · exact (ins_facts L p l).2 s h
  · exact (ins_facts L p l).2 s hs
section
variable {L : Loc} {lx c e : AV} (hav : LocAV (.agg (L.cells lx c e)) L) (hok : LocOk L) {p : Spec} {xp : AV} (hsp : SpecAV (.agg (p.cells xp)) p) (hks : ∀ k ∈ p.keys, KeOk k)
include hav hok hsp hks
theorem parts_loop {x2 : AV} {ls : List (List Str)} (hx : PL x2 ls) (hL : Lenss ls) (ht : total ls ≤ 1048576) (hl : ls.length ≤ 8) : ∀ (r done : List (List Str)) (y : AV) (H : Hp), ls = done ++ r → H[0]? = some (.cells (L.cells lx c e)) → H[1]? = some (.cells (p.cells xp)) → Gst 2 H y (done.map (sortS L p)) →
    ∃ y' H', L21_MemsortParts_L1 x2 (.ptr 0 0) (.ptr 1 0) y (.int .i64 (done.length : Int)) [] H = L21_MemsortParts_J2 x2 (.ptr 0 0) (.ptr 1 0) y' [] H' ∧ H'[0]? = some (.cells (L.cells lx c e)) ∧ H'[1]? = some (.cells (p.cells xp)) ∧ Gst 2 H' y' (ls.map (sortS L p)) := by
  intro r
  induction r with
  | nil =>
    intro done y H hd e0 e1 hy
    rw [List.append_nil] at hd
    subst hd
    have hlt : decide ((ls.length : Int) < (ls.length : Int)) = false := by simp
    refine ⟨y, H, ?_, e0, e1, hy⟩
    rw [L21_MemsortParts_L1_eq]
    simp only [go_sem, (hx.ll H).len, hlt]
  | cons l r ih =>
    intro done y H hd e0 e1 hy
    have hlen : ls.length = done.length + (r.length + 1) := by rw [hd]; simp
    have hlt : decide ((done.length : Int) < (ls.length : Int)) = true := by simp; omega
    have hw1 : IntKind.i64.wrap ((done.length : Int) + 1) = ((done.length + 1 : Nat) : Int) := by rw [wrap64 (by omega) (by omega)]; omega
    have hiy : ls[done.length]? = some l := by rw [hd, List.getElem?_append_right (Nat.le_refl _)]; simp
    have hml : l ∈ ls := List.mem_of_getElem? hiy
    obtain ⟨q, a, g1, g2, g3⟩ := (hx.ll H).get hiy
    have hl5 : aload true 5 (.ptr 1 0) H = some (.agg (p.cells xp)) := by rw [aload_of e1]; simp [Go.Am.apart, Spec.cells]
    have hl6 : aload true 6 (.ptr 0 0) H = some (.agg (L.cells lx c e)) := by rw [aload_of e0]; simp [Go.Am.apart, Loc.cells]
    have := total_len ls l hml
    obtain ⟨z, s1, s2⟩ := sort_flat hav hok hsp hks g3 (hL l hml) (by omega) H
    obtain ⟨y1, H1, q1, q2, q3⟩ := hy.app s2 (by simp; omega)
    obtain ⟨y', H', m1, m2, m3, m4⟩ := ih (done ++ [l]) y1 H1 (by rw [hd]; simp) ((q3 0 (by omega)).trans e0) ((q3 1 (by omega)).trans e1) (by simpa using q2)
    rw [List.length_append, List.length_singleton] at m1
    refine ⟨y', H', ?_, m2, m3, m4⟩
    rw [L21_MemsortParts_L1_eq]
    simp only [go_sem, (hx.ll H).len, hlt, L21_MemsortParts_J3_eq, hl6, hl5, g1, g2, s1, one_ss s2, q1, L21_MemsortParts_J4_eq, hw1, m1]
end
theorem Parts_law {a : AV} {L : Loc} (h : LocAV a L) (hok : LocOk L) {q : AV} {p : Spec} (hq : SpecAV q p) (hks : ∀ k ∈ p.keys, KeOk k) {x : AV} {ls : List (List Str)} (hx : PL x ls) (hL : Lenss ls) (ht : total ls ≤ 1048576) (hl : ls.length ≤ 1048576) :
    ∃ H', C_L21_MemsortParts [a, q, x] [] = some (.bool true, H') := by
  have hav := h
  have hsp := hq
  obtain ⟨lx, c, e, rfl, hlx, hc, he⟩ := h
  obtain ⟨xp, rfl, hxp⟩ := hq
  have hl6 : aload true 6 (.ptr 0 0) [AObj.cells (L.cells lx c e), .cells (p.cells xp)] = some (.agg (L.cells lx c e)) := load_loc L lx c e [.cells (p.cells xp)]
  have hl5 : aload true 5 (.ptr 1 0) [AObj.cells (L.cells lx c e), .cells (p.cells xp)] = some (.agg (p.cells xp)) := by simp [aload, Go.Am.apart, Spec.cells]
  have hck := fun H => rcheck_flat hsp H
  have hLf : Lens ls.flatten := fun s hs => by
    obtain ⟨l, h1, h2⟩ := List.mem_flatten.1 hs
    exact hL l h1 s h2
  have hlf : ls.flatten.length ≤ 1048576 := by rw [total_flat]; exact ht
  have hlen := (hx.ll []).len 30
  rw [F_L21_MemsortParts_eq]
  unfold F_L21_MemsortParts
  simp only [go_sem, abox_agg, List.nil_append, List.length_nil, List.length_cons, List.cons_append, Nat.zero_add, hlen]
  cases h8 : decide ((8 : Int) < (ls.length : Int)) with
  | true => exact ⟨_, by simp only [go_sem, awake21]; rfl⟩
  | false =>
    have hl8 : ls.length ≤ 8 := by simp at h8; omega
    obtain ⟨y0, a1, a2⟩ := all_flat hx ht hl [AObj.cells (L.cells lx c e), .cells (p.cells xp)]
    obtain ⟨b, hb⟩ := few_flat hav hsp a2 hlf [AObj.cells (L.cells lx c e), .cells (p.cells xp)]
    simp only [go_sem, hl6, hl5, a1, hb]
    cases b with
    | false => exact ⟨_, by simp only [Bool.not_false, go_sem, awake21]; rfl⟩
    | true =>
      simp only [Bool.not_true, go_sem, hl5, hck]
      cases hv : (checkS p != 0) with
      | true => exact ⟨_, by simp only [go_sem, awake21]; rfl⟩
      | false =>
        have hv0 : checkS p = 0 := by simpa using hv
        obtain ⟨y1, H1, m1, m2, m3, m4⟩ := parts_loop hav hok hsp hks hx hL ht hl8 ls [] .nils [AObj.cells (L.cells lx c e), .cells (p.cells xp)] rfl rfl rfl (.inl ⟨rfl, rfl, rfl⟩)
        rw [List.length_nil, show ((0 : Nat) : Int) = 0 from rfl] at m1
        have hfz : ∀ (k : AV → Hp → Res), frzK (.ptr 0 0) H1 k = k (.vp (L.cells lx c e)) (H1.set 0 .dead) := fun k => frz_of m2 k
        have g3 : (H1.set 0 .dead)[1]? = some (.cells (p.cells xp)) := by rw [List.getElem?_set_ne (by omega)]; exact m3
        have hfz2 : ∀ (k : AV → Hp → Res), frzK (.ptr 1 0) (H1.set 0 .dead) k = k (.vp (p.cells xp)) ((H1.set 0 .dead).set 1 .dead) := fun k => frz_of g3 k
        have hll : LL ((H1.set 0 .dead).set 1 .dead) y1 (ls.map (sortS L p)) := by
          rcases m4 with ⟨h1, h2, _⟩ | ⟨e', es, h1, ho, he'⟩
          · exact .inl ⟨h1, .inl h2⟩
          · exact .inr (.inr ⟨2, e', es, h1, by rw [List.getElem?_set_ne (by omega), List.getElem?_set_ne (by omega)]; exact ho, he'⟩)
        generalize (H1.set 0 .dead).set 1 .dead = H2 at hfz2 hll
        have htm : ∀ ls : List (List Str), total (ls.map (sortS L p)) ≤ total ls := by
          intro ls
          induction ls with
          | nil => exact Nat.le_refl _
          | cons l ls ih =>
            have := sortS_len L p l
            simp only [List.map_cons, total]; omega
        have := htm ls
        obtain ⟨y2, r1, r2⟩ := merge_run hav hok hsp hks hv0 hll (fun l hl s hs => by
          obtain ⟨k, hk, rfl⟩ := List.mem_map.1 hl
          exact hL k hk s (sortS_mem hv0 s hs)) (by omega) (by rw [List.length_map]; exact hl)
        rw [merge_parts hv0] at r2
        obtain ⟨y3, s1, s2⟩ := all_flat hx ht hl H2
        obtain ⟨y4, s3, s4⟩ := sort_flat hav hok hsp hks s2 hLf hlf H2
        have hln := sortS_len L p ls.flatten
        have s5 := same_flat r2 s4 (by omega) (by omega) H2
        rw [decide_eq_true rfl] at s5
        have v6 : aloadv true 6 (.vp (L.cells lx c e)) = some (.agg (L.cells lx c e)) := by simp [aloadv, Go.Am.apart, Loc.cells]
        have v5 : aloadv true 5 (.vp (p.cells xp)) = some (.agg (p.cells xp)) := by simp [aloadv, Go.Am.apart, Spec.cells]
        refine ⟨H2, ?_⟩
        simp only [go_sem, L21_MemsortParts_J1_eq, m1, L21_MemsortParts_J2_eq, hfz, hfz2, aload_vpn 6 (L.cells lx c e) rfl, aload_vpn 5 (p.cells xp) rfl, r1, v6, v5, s1, s3, s5, awake21]
end Go.Am
namespace Go.Am
open Go.Proofs Go.Proofs.YtomfadecfjephaaDoor
set_option maxRecDepth 100000
theorem under_42 : Tryd.prog.underlying 42 = some (.slice 30) := by kernel_rfl
theorem agg_42 : aggOf Tryd.prog 42 = false := by kernel_rfl
section
variable {H : Type}
theorem strs_tv2 {n : Nat} {d : DataW H} {vals : List AV} (h : TV Tryd.prog n 30 d vals) (hb : Small d) : ∃ (x : AV) (ks : List Str), vals = [x] ∧ SS x ks ∧ Lens ks ∧ ks.length ≤ Rows.uptoBulk d := by
  obtain ⟨x, ks, rfl, h1, h2, h3⟩ := strs_tv h hb
  refine ⟨x, ks, rfl, h1, h2, ?_⟩
  rcases h.slice under_30 with ⟨_, e⟩ | ⟨es, sp, l, m, rfl, e, g1, _, _⟩
  · injection e with e
    subst e
    rcases h1 with ⟨_, h0⟩ | ⟨t, h0⟩
    · have : ks = [] := List.map_eq_nil_iff.1 h0
      subst this
      exact Nat.zero_le _
    · cases h0
  · injection e with e
    subst e
    rcases h1 with ⟨h0, _⟩ | ⟨t, h0⟩
    · cases h0
    · injection h0 with _ _ h0
      have := congrArg List.length h0
      rw [List.length_map] at this
      have b := (bulk_all es).1
      rw [Rows.uptoBulk]
      omega
theorem pick (m : Nat) : ∀ (l : List AV) (es : List (DataW H)), l.length = es.length → (∀ (i : Nat) (x : AV) (d' : DataW H), l[i]? = some x → es[i]? = some d' → ∃ cs, x = ofCells (aggOf Tryd.prog 30) cs ∧ TV Tryd.prog m 30 d' cs) → Rows.uptoBulkAll es ≤ 1048576 →
    ∃ ls : List (List Str), EE l ls ∧ Lenss ls ∧ total ls ≤ Rows.uptoBulkAll es := by
  intro l
  induction l with
  | nil => intro es _ _ _; exact ⟨[], EE.nil, fun l hl => (by cases hl), Nat.zero_le _⟩
  | cons x l ih =>
    intro es hl h3 hb
    cases es with
    | nil => simp at hl
    | cons d es =>
      rw [Rows.uptoBulkAll] at hb
      obtain ⟨cs, e, ht⟩ := h3 0 x d rfl rfl
      obtain ⟨a, ks, rfl, g1, g2, g3⟩ := strs_tv2 ht (show Rows.uptoBulk d ≤ 1048576 by omega)
      rw [agg_30, ofCells_one] at e
      subst e
      obtain ⟨ls, i1, i2, i3⟩ := ih es (by simpa using hl) (fun i y d' hy hd => h3 (i + 1) y d' (by simpa using hy) (by simpa using hd)) (by omega)
      refine ⟨ks :: ls, EE.cons g1 i1, fun l hl => ?_, ?_⟩
      · rcases List.mem_cons.1 hl with e | hl
        · subst e; exact g2
        · exact i2 l hl
      · rw [Rows.uptoBulkAll, total]; omega
theorem lists_of {d : DataW H} {a : AV} (h : AT Tryd.prog 42 d a) (hb : Small d) : ∃ ls : List (List Str), PL a ls ∧ Lenss ls ∧ total ls ≤ 1048576 ∧ ls.length ≤ 1048576 := by
  obtain ⟨n, vals, ht, rfl⟩ := h
  rcases ht.slice under_42 with ⟨_, rfl⟩ | ⟨es, sp, l, m, rfl, rfl, h1, _, h3⟩
  · rw [agg_42, ofCells_one]
    exact ⟨[], .inl ⟨rfl, rfl⟩, fun l hl => (by cases hl), Nat.zero_le _, Nat.zero_le _⟩
  · rw [agg_42, ofCells_one, cells_30]
    have hb' : Rows.uptoBulkAll es ≤ 1048576 := by
      unfold Small at hb
      rw [Rows.uptoBulk] at hb
      omega
    have b := (small_slice hb).2
    obtain ⟨ls, i1, i2, i3⟩ := pick m l es h1 h3 hb'
    exact ⟨ls, .inr ⟨.no, l, rfl, i1⟩, i2, by omega, by rw [← i1.len]; omega⟩
end
end Go.Am
