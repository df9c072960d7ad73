/-
  Groups of numbers, in the machine, both ways; the laws of MergePlans and MergeGroups.
-/
import Derived.Test.YtehanadfidoodaaGreatDoorNkQax
import Derived.Test.YtehanadfidoodaaGreatDoorNkGPx
import Derived.Test.YtehanadfidoodaaGreatDoorNkAx
namespace Go.Am
set_option linter.unusedSimpArgs false
set_option linter.unusedVariables false
set_option linter.unusedSectionVars false
set_option maxRecDepth 100000

abbrev iv (n : Nat) : AV := .int .i64 (n : Int)
abbrev IS (x : AV) (l : List Nat) : Prop := Sl 1 x (l.map iv)
def ApI (H : Hp) (a : AV) (l : List Nat) : Prop := a = .nils ∧ l = [] ∨ ∃ t e, a = .vs 1 (.own t e) (l.map iv) ∧ H[t]? = some (.tok e)
theorem ApI.is {H : Hp} {a : AV} {l : List Nat} (h : ApI H a l) : IS a l := by
  rcases h with ⟨rfl, rfl⟩ | ⟨t, e, rfl, _⟩
  · exact .inl ⟨rfl, rfl⟩
  · exact .inr ⟨_, rfl⟩
theorem IS.cell {x : AV} {l : List Nat} (h : IS x l) : x.cells = [x] ∧ x.known = true := by
  rcases h with ⟨rfl, _⟩ | ⟨t, rfl⟩ <;> exact ⟨rfl, rfl⟩
theorem IS.len {x : AV} {l : List Nat} (h : IS x l) (e : Nat) : alenD (.slice e) x = some (.int .i64 (l.length : Int)) := by
  rcases h with ⟨rfl, h⟩ | ⟨t, rfl⟩
  · have : l = [] := by simpa using h
    subst this
    rfl
  · simp [alenD]
theorem ApI.app {H : Hp} {a : AV} {l : List Nat} (h : ApI H a l) (n : Nat) (hl : l.length ≤ 1048576) :
    ∃ (a' : AV) (H' : Hp), aappE 1 8 a (.vs 1 .clip [iv n]) H = some (a', H') ∧ ApI H' a' (l ++ [n]) ∧ ∀ (o e : Nat) (es : List AV), H[o]? = some (AObj.row e es) → H'[o]? = some (AObj.row e es) := by
  unfold aappE
  have he : Go.Am.elems 1 (.vs 1 .clip [iv n]) H = some [iv n] := rfl
  rw [he]
  have hfit : fits ((l.map iv).length + [iv n].length) 8 = true := by simp [fits]; omega
  have hone : fits [iv n].length 8 = true := rfl
  rcases h with ⟨rfl, rfl⟩ | ⟨t, e, rfl, ht⟩
  · refine ⟨.vs 1 (.own H.length 1) [iv n], H ++ [.tok 1], ?_, .inr ⟨H.length, 1, rfl, by simp⟩, fun o e' es ho => get_push ho _⟩
    simp only [aappend, hone, if_true]
    rw [if_neg (by simp)]
    rfl
  · refine ⟨.vs 1 (.own t (e + 1)) (l.map iv ++ [iv n]), H.set t (.tok (e + 1)), ?_, .inr ⟨t, e + 1, by simp, get_set_eq _ ht⟩, fun o e' es ho => ?_⟩
    · simp only [aappend, hfit, and_self, if_true, ht]
      rw [if_neg (by simp)]
      rfl
    · refine get_set_ne _ (fun he => ?_) ho
      subst he
      rw [ht] at ho
      cases ho
structure EI (es : List AV) (ls : List (List Nat)) : Prop where
  len : es.length = ls.length
  at' : ∀ (i : Nat) (l : List Nat), ls[i]? = some l → ∃ e, es[i]? = some e ∧ IS e l
theorem EI.nil : EI [] [] := ⟨rfl, fun i l h => by simp at h⟩
theorem EI.app {es : List AV} {ls : List (List Nat)} (h : EI es ls) {e : AV} {l : List Nat} (he : IS e l) : EI (es ++ [e]) (ls ++ [l]) := by
  refine ⟨by simp [h.len], fun j m hm => ?_⟩
  by_cases hj : j < ls.length
  · rw [List.getElem?_append_left hj] at hm
    rw [List.getElem?_append_left (by rw [h.len]; exact hj)]
    exact h.at' j m hm
  · have hlt := (List.getElem?_eq_some_iff.1 hm).1
    have : j = ls.length := by simp at hlt; omega
    subst this
    rw [List.getElem?_append_right (Nat.le_refl _)] at hm
    simp at hm
    subst hm
    exact ⟨e, by rw [List.getElem?_append_right (by rw [h.len]; exact Nat.le_refl _), h.len]; simp, he⟩
theorem EI.tail {e : AV} {es : List AV} {l : List Nat} {ls : List (List Nat)} (h : EI (e :: es) (l :: ls)) : IS e l ∧ EI es ls := by
  obtain ⟨e', h1, h2⟩ := h.at' 0 l rfl
  obtain rfl : e = e' := Option.some.inj h1
  exact ⟨h2, by have := h.len; simpa using this, fun i m hm => by
    obtain ⟨e', q1, q2⟩ := h.at' (i + 1) m (by simpa using hm)
    exact ⟨e', by simpa using q1, q2⟩⟩
theorem EI.cons {e : AV} {es : List AV} {l : List Nat} {ls : List (List Nat)} (h : IS e l) (k : EI es ls) : EI (e :: es) (l :: ls) :=
  ⟨by simp [k.len], fun i m hm => by
    cases i with
    | zero => simp at hm; subst hm; exact ⟨e, rfl, h⟩
    | succ i => simpa using k.at' i m (by simpa using hm)⟩
theorem mapM_ints (H : Hp) (n f : Nat) : ∀ l : List Nat, (l.map iv).mapM (closeV H n (f + 1)) = some (l.map iv) := by
  intro l
  induction l with
  | nil => rfl
  | cons a l ih => rw [List.map_cons, List.mapM_cons, ih]; rfl
theorem IS.close {x : AV} {l : List Nat} (h : IS x l) (H : Hp) (n f : Nat) : ∃ x', closeV H n (f + 2) x = some x' ∧ IS x' l := by
  rcases h with ⟨rfl, h⟩ | ⟨t, rfl⟩
  · exact ⟨.nils, rfl, .inl ⟨rfl, h⟩⟩
  · exact ⟨_, by rw [closeV_vs', mapM_ints], .inr ⟨_, rfl⟩⟩
theorem EI.close {es : List AV} {ls : List (List Nat)} (h : EI es ls) (H : Hp) (n f : Nat) : ∃ es', es.mapM (closeV H n (f + 2)) = some es' ∧ EI es' ls := by
  induction es generalizing ls with
  | nil =>
    have : ls = [] := List.length_eq_zero_iff.1 (by rw [← h.len]; rfl)
    subst this
    exact ⟨[], rfl, EI.nil⟩
  | cons e es ih =>
    cases ls with
    | nil => have := h.len; simp at this
    | cons l ls =>
      obtain ⟨h1, h2⟩ := h.tail
      obtain ⟨e', q1, q2⟩ := IS.close h1 H n f
      obtain ⟨es', q3, q4⟩ := ih h2
      exact ⟨e' :: es', by rw [List.mapM_cons, q1]; simp [q3], EI.cons q2 q4⟩
def IV (x : AV) (ls : List (List Nat)) : Prop := x = .nils ∧ ls = [] ∨ ∃ t es, x = .vs 1 t es ∧ EI es ls
theorem IV.len {x : AV} {ls : List (List Nat)} (h : IV x ls) (e : Nat) : alenD (.slice e) x = some (.int .i64 (ls.length : Int)) := by
  rcases h with ⟨rfl, rfl⟩ | ⟨t, es, rfl, he⟩
  · rfl
  · show some (AV.int .i64 (es.length : Int)) = _; rw [he.len]
theorem IV.get {x : AV} {ls : List (List Nat)} (h : IV x ls) {i : Nat} {l : List Nat} (hi : ls[i]? = some l) : ∃ a, aindexS 1 x (.int .i64 (i : Int)) = some (.vp [a]) ∧ IS a l := by
  rcases h with ⟨rfl, rfl⟩ | ⟨t, es, rfl, he⟩
  · simp at hi
  · obtain ⟨a, h1, h2⟩ := he.at' i l hi
    refine ⟨a, ?_, h2⟩
    unfold aindexS
    dsimp only
    rw [if_pos ⟨rfl, by omega⟩, Int.toNat_natCast, h1]
    dsimp only
    rw [h2.cell.1]
theorem IS.idx {x : AV} {l : List Nat} (h : IS x l) {i n : Nat} (hi : l[i]? = some n) : aindexS 1 x (.int .i64 (i : Int)) = some (.vp [iv n]) := Sl.idx h (c := iv n) (by simp [hi])
def RowI (H : Hp) (x : AV) (A : List (List Nat)) (k : List Nat) : Prop := ∃ o e es a, x = .ws false 1 o e (A.length + 1) ∧ H[o]? = some (.row e (es ++ [a])) ∧ EI es A ∧ ApI H a k
def RowA (H : Hp) (x : AV) (ls : List (List Nat)) : Prop := x = .nils ∧ ls = [] ∨ ∃ o e es, x = .ws false 1 o e ls.length ∧ H[o]? = some (.row e es) ∧ EI es ls
theorem RowI.all {H : Hp} {x : AV} {A : List (List Nat)} {k : List Nat} (h : RowI H x A k) : RowA H x (A ++ [k]) := by
  obtain ⟨o, e, es, a, rfl, h2, h3, h4⟩ := h
  exact .inr ⟨o, e, es ++ [a], by simp, h2, h3.app h4.is⟩
theorem RowA.close {H : Hp} {x : AV} {ls : List (List Nat)} (h : RowA H x ls) : ∃ x', closeV H 0 6 x = some x' ∧ IV x' ls := by
  rcases h with ⟨rfl, rfl⟩ | ⟨o, e, es, rfl, ho, he⟩
  · exact ⟨.nils, rfl, .inl ⟨rfl, rfl⟩⟩
  · obtain ⟨es', q1, q2⟩ := he.close H 0 3
    have hel : Go.Am.elems 1 (.ws false 1 o e ls.length) H = some es := by
      unfold Go.Am.elems
      dsimp only
      rw [if_pos ⟨rfl, .inr rfl⟩, ho]
      dsimp only
      rw [if_pos ⟨rfl, by rw [he.len]; omega⟩, ← he.len, chunks_one2]
    exact ⟨.vs 1 .no es', by rw [closeV_ws', if_neg (Nat.not_lt_zero _), hel]; dsimp only; rw [q1], .inr ⟨_, es', rfl, q2⟩⟩
theorem RowA.app {H : Hp} {x : AV} {ls : List (List Nat)} (h : RowA H x ls) {a : AV} {k : List Nat} (ha : ApI H a k) (hl : ls.length ≤ 1048576) :
    ∃ x' H', aappEL false 1 24 x (.vs 1 .clip [a]) H = some (x', H') ∧ RowI H' x' ls k := by
  unfold aappEL
  have he : Go.Am.elems 1 (.vs 1 .clip [a]) H = some [a] := rfl
  rw [he]
  dsimp only
  have hf1 : fits 1 24 = true := rfl
  have hfit : fits (ls.length + 1) 24 = true := by simp [fits]; omega
  rcases h with ⟨rfl, rfl⟩ | ⟨o, e, es, rfl, ho, hes⟩
  · refine ⟨.ws false 1 H.length 0 1, H ++ [.row 0 [a]], ?_, H.length, 0, [], a, rfl, by simp, EI.nil, ?_⟩
    · unfold aappL
      simp only [List.length_singleton, hf1, if_true, List.map_cons, List.map_nil, List.flatten_cons, List.flatten_nil, ha.is.cell.1, List.append_nil]
      rw [if_neg (by simp)]
    · exact ha.imp id fun ⟨t, e, a1, a2⟩ => ⟨t, e, a1, get_push a2 _⟩
  · refine ⟨.ws false 1 o (e + 1) (ls.length + 1), H.set o (.row (e + 1) (es ++ [a])), ?_, o, e + 1, es, a, rfl, get_set_eq _ ho, hes, ?_⟩
    · unfold aappL
      simp only [List.length_singleton, hfit, and_self, if_true, ho, hes.len, Nat.mul_one, List.map_cons, List.map_nil, List.flatten_cons, List.flatten_nil, ha.is.cell.1, List.append_nil]
      rw [if_neg (by simp)]
    · refine ha.imp id fun ⟨t, e', a1, a2⟩ => ⟨t, e', a1, get_set_ne _ (fun he => ?_) a2⟩
      subst he
      rw [ho] at a2
      cases a2
theorem one_iv (n : Nat) : (setElems 1 [(0, iv n)] [AV.int .i64 0]).map (AV.vs 1 .clip) = some (.vs 1 .clip [iv n]) := rfl
theorem rem64 {i w : Nat} (hw : 0 < w) : ibin .rem (iv i) (iv w) = some (iv (i % w)) := by
  unfold ibin ashift
  simp only [if_true, intbin]
  rw [if_neg (by omega)]
  congr 2
section
variable {w : Nat} (hw : 0 < w) (hw2 : w ≤ 32)
include hw hw2
theorem cnt_le (i : Nat) : cnt w i ≤ i := by
  by_cases h0 : i = 0
  · rw [h0, cnt_zero hw]; exact Nat.le_refl _
  · have h := Nat.pos_of_ne_zero h0
    by_cases hc : cnt w i = 0
    · omega
    · have h1 := cnt_bound (w := w) (i := i) (q := cnt w i - 1) hw (by omega)
      have : cnt w i - 1 ≤ (cnt w i - 1) * w := Nat.le_mul_of_pos_right _ hw
      omega
theorem plan_loop {n : Nat} (hn : n ≤ 5000) (H0 : Hp) : ∀ (k i : Nat) (x5 : AV) (H : Hp), n - i = k → i ≤ n → (i % w = 0 ∧ RowA H x5 (plan w i) ∨ ∃ A g, plan w i = A ++ [g] ∧ RowI H x5 A g) →
    ∃ y H', merge_Plan_L1 (iv w) x5 (iv n) (iv i) H0 H = some (y, H') ∧ RowA H' y (plan w n) := by
  intro k
  induction k with
  | zero =>
    intro i x5 H hk hi hr
    have : i = n := by omega
    subst this
    have hlt : decide ((i : Int) < (i : Int)) = false := by simp
    rw [merge_Plan_L1_eq]
    simp only [go_sem, hlt, merge_Plan_J1_eq]
    refine ⟨_, _, rfl, ?_⟩
    rcases hr with ⟨_, hr⟩ | ⟨A, g, hp, hr⟩
    · exact hr
    · rw [hp]; exact hr.all
  | succ k ih =>
    intro i x5 H hk hi hr
    have hlt : decide ((i : Int) < (n : Int)) = true := by rw [decide_eq_true_eq]; omega
    have hw1 : IntKind.i64.wrap ((i : Int) + 1) = ((i + 1 : Nat) : Int) := by rw [wrap64 (by omega) (by omega)]; omega
    -- the last group grows
    have grow : ∀ (A : List (List Nat)) (g : List Nat) (x : AV) (H : Hp), RowI H x A g → A.length ≤ 5000 → g.length ≤ 5000 → plan w (i + 1) = A ++ [g ++ [i]] →
        ∃ y H', merge_Plan_J4 (iv w) x (iv i) (iv n) (iv i) H0 H = some (y, H') ∧ RowA H' y (plan w n) := by
      intro A g x H hR hA hg hp
      obtain ⟨o, e, es, a, rfl, k2, k3, k4⟩ := hR
      have hal : alenD (.slice 22) (.ws false 1 o e (A.length + 1)) = some (.int .i64 ((A.length + 1 : Nat) : Int)) := rfl
      have hwm : IntKind.i64.wrap (((A.length + 1 : Nat) : Int) - 1) = (A.length : Int) := by rw [wrap64 (by omega) (by omega)]; omega
      have hix : aindexS 1 (.ws false 1 o e (A.length + 1)) (.int .i64 (A.length : Int)) = some (.wp o e (A.length * 1)) := ws_index (by omega)
      have hld : aload false 1 (.wp o e (A.length * 1)) H = some a := wp_load k2 (by rw [← k3.len, List.getElem?_append_right (Nat.le_refl _)]; simp)
      obtain ⟨a', H1, p1, p2, p3⟩ := k4.app i (by omega)
      have k2' := p3 o e _ k2
      have hsto := wp_store (a := a') k2' p2.is.cell (i := A.length) (by simp [k3.len])
      have hset : (es ++ [a]).set A.length a' = es ++ [a'] := by rw [← k3.len]; simp
      rw [hset] at hsto
      have hap : ApI (H1.set o (.row e (es ++ [a']))) a' (g ++ [i]) := by
        refine p2.imp id fun ⟨t, e', q1, q2⟩ => ⟨t, e', q1, get_set_ne _ (fun he => ?_) q2⟩
        subst he
        rw [k2'] at q2
        cases q2
      obtain ⟨y, H', m1, m2⟩ := ih (i + 1) (.ws false 1 o e (A.length + 1)) (H1.set o (.row e (es ++ [a']))) (by omega) (by omega) (.inr ⟨A, g ++ [i], hp, o, e, es, a', rfl, get_set_eq _ k2', k3, hap⟩)
      refine ⟨y, H', ?_, m2⟩
      rw [merge_Plan_J4_eq]
      simp only [hal, go_sem, hwm, hix, hld, one_iv, p1, hsto, merge_Plan_J3_eq, hw1]
      exact m1
    rw [merge_Plan_L1_eq]
    simp only [go_sem, hlt, merge_Plan_J2_eq, rem64 hw]
    by_cases h0 : i % w = 0
    · have hb : (((i % w : Nat) : Int) == 0) = true := by rw [h0]; rfl
      have hra : RowA H x5 (plan w i) := by
        rcases hr with ⟨_, hr⟩ | ⟨A, g, hp, hr⟩
        · exact hr
        · rw [hp]; exact hr.all
      have hcl := cnt_le hw hw2 i
      have hpl : (plan w i).length ≤ 5000 := by rw [plan_len]; omega
      obtain ⟨x', H1, q1, q2⟩ := hra.app (a := .nils) (k := []) (.inl ⟨rfl, rfl⟩) (by omega)
      have hone : (setElems 1 [(0, AV.nils)] [AV.nils]).map (AV.vs 1 .clip) = some (.vs 1 .clip [.nils]) := rfl
      obtain ⟨y, H', m1, m2⟩ := grow (plan w i) [] x' H1 q2 hpl (by simp) (plan_new hw h0)
      refine ⟨y, H', ?_, m2⟩
      simp only [hb, go_sem, hone, q1]
      exact m1
    · have hb : (((i % w : Nat) : Int) == 0) = false := by simp; omega
      obtain ⟨A, g, hp, hp2, hg⟩ := plan_old hw h0
      have hpl : (plan w i).length ≤ i := by rw [plan_len]; exact cnt_le hw hw2 i
      rcases hr with ⟨h1, _⟩ | ⟨A', g', hp', hr⟩
      · exact absurd h1 h0
      · rw [hp] at hp'
        have hlast := List.append_inj' hp' rfl
        obtain ⟨rfl, hg'⟩ := hlast
        injection hg' with hg' _
        subst hg'
        rw [hp, List.length_append] at hpl
        obtain ⟨y, H', m1, m2⟩ := grow A g x5 H hr (by omega) (by omega) hp2
        refine ⟨y, H', ?_, m2⟩
        simp only [hb, go_sem]
        exact m1
end
def waysN (ways : Int) : Nat := (min (max ways 2) 32).toNat
theorem waysN_ok (ways : Int) : 0 < waysN ways ∧ waysN ways ≤ 32 ∧ ((waysN ways : Nat) : Int) = min (max ways 2) 32 := by unfold waysN; omega
theorem plan_flat (n ways : Int) (hn : n ≤ 5000) (H : Hp) : ∃ y, flatC C_merge_Plan [.int .i64 n, .int .i64 ways] H = some (y, H) ∧ IV y (plan (waysN ways) n.toNat) := by
  obtain ⟨w1, w2, w3⟩ := waysN_ok ways
  have hp0 : plan (waysN ways) 0 = [] := by unfold plan; rw [cnt_zero w1]; rfl
  obtain ⟨y, H', m1, m2⟩ := plan_loop w1 w2 (n := n.toNat) (by omega) [] n.toNat 0 .nils [] (by omega) (by omega) (.inl ⟨by simp, .inl ⟨rfl, hp0⟩⟩)
  obtain ⟨y', c1, c2⟩ := m2.close
  refine ⟨y', ?_, c2⟩
  refine flatC_cl (args' := [.int .i64 n, .int .i64 ways]) (H1 := H') (v := y) rfl ?_ c1
  rw [F_merge_Plan_eq]
  unfold F_merge_Plan
  have hn0 : max n 0 = ((n.toNat : Nat) : Int) := by omega
  simp only [go_sem, ← w3, hn0]
  exact m1

section
variable {w : Nat} (hw : 0 < w) (hw2 : w ≤ 32)
include hw hw2
end
section
variable {x y : AV} {ls : List (List Nat)} (hx : IV x ls) (hy : IV y ls) (hl : ls.length ≤ 1048576) (hin : ∀ k ∈ ls, k.length ≤ 1048576)
include hx hy hl hin
end
section
variable {w n : Nat} (hw : 0 < w) (hw2 : w ≤ 32) (hn : n ≤ 5000) {x : AV} (hx : IV x (plan w n)) {a0 : AV}
include hw hw2 hn hx
theorem groups_in {q : Nat} (hq : q < cnt w n) (H0 H : Hp) : ∀ (m k : Nat), (grp w n q).length - k = m → k ≤ (grp w n q).length →
    L23_MergeGroups_L2 a0 (iv w) x (iv (q * w + k)) (iv q) (iv k) H0 H = L23_MergeGroups_J5 a0 (iv w) x (iv (q * w + (grp w n q).length)) (iv q) H0 H := by
  obtain ⟨a, e1, e2⟩ := hx.get (plan_get hq)
  have hal := e2.len 3
  have hb := cnt_bound hw hq
  have hgl : (grp w n q).length ≤ 32 := by rw [grp_len]; omega
  intro m
  induction m with
  | zero =>
    intro k hm hk
    have hlt : decide ((k : Int) < ((grp w n q).length : Int)) = false := by simp; omega
    have : k = (grp w n q).length := by omega
    rw [L23_MergeGroups_L2_eq]
    simp only [go_sem, e1, aload_vpc, hal, hlt, this]
    simp [cnd, this]
  | succ m ih =>
    intro k hm hk
    have hlt : decide ((k : Int) < ((grp w n q).length : Int)) = true := by rw [decide_eq_true_eq]; omega
    have hw1 : IntKind.i64.wrap ((k : Int) + 1) = ((k + 1 : Nat) : Int) := by rw [wrap64 (by omega) (by omega)]; omega
    have hw3 : IntKind.i64.wrap (((q * w + k : Nat) : Int) + 1) = ((q * w + (k + 1) : Nat) : Int) := by rw [wrap64 (by omega) (by omega)]; omega
    have i1 := e2.idx (grp_get (w := w) (i := n) (q := q) (k := k) (by omega))
    have hne : (((q * w + k : Nat) : Int) != ((q * w + k : Nat) : Int)) = false := by simp
    rw [L23_MergeGroups_L2_eq]
    simp only [go_sem, e1, aload_vpc, hal, hlt, L23_MergeGroups_J6_eq, i1, hne, L23_MergeGroups_J8_eq, hw3, L23_MergeGroups_J7_eq, hw1]
    exact ih (k + 1) (by omega) (by omega)
theorem groups_loop (H0 H : Hp) : ∀ (m q : Nat), cnt w n - q = m → q ≤ cnt w n →
    L23_MergeGroups_L1 a0 (iv w) x (iv (min (q * w) n)) (iv q) H0 H = L23_MergeGroups_J2 a0 (iv n) H0 H := by
  have hnl := hx.len 22
  rw [plan_len] at hnl
  have hcl := cnt_le hw hw2 n
  intro m
  induction m with
  | zero =>
    intro q hm hq
    have : q = cnt w n := by omega
    subst this
    have hlt : decide ((cnt w n : Int) < (cnt w n : Int)) = false := by simp
    have hla := cnt_last (w := w) (i := n) hw
    rw [L23_MergeGroups_L1_eq, Nat.min_eq_right hla]
    simp only [go_sem, hnl, hlt]
  | succ m ih =>
    intro q hm hq
    have hqc : q < cnt w n := by omega
    have hb := cnt_bound hw hqc
    have hlt : decide ((q : Int) < (cnt w n : Int)) = true := by rw [decide_eq_true_eq]; omega
    have hw1 : IntKind.i64.wrap ((q : Int) + 1) = ((q + 1 : Nat) : Int) := by rw [wrap64 (by omega) (by omega)]; omega
    obtain ⟨a, e1, e2⟩ := hx.get (plan_get hqc)
    have hal := e2.len 3
    have hi := groups_in hw hw2 hn hx (a0 := a0) hqc H0 H _ 0 rfl (Nat.zero_le _)
    rw [Nat.add_zero, show iv 0 = AV.int .i64 0 from rfl] at hi
    have hgl : (grp w n q).length = min w (n - q * w) := grp_len
    have c1 : decide (((grp w n q).length : Int) < 1) = false := by simp; omega
    have c2 : decide ((w : Int) < ((grp w n q).length : Int)) = false := by simp; omega
    have hnx : q * w + (grp w n q).length = min ((q + 1) * w) n := by rw [hgl, Nat.add_mul, Nat.one_mul]; omega
    have ih' := ih (q + 1) (by omega) (by omega)
    rw [← hnx] at ih'
    rw [L23_MergeGroups_L1_eq, Nat.min_eq_left (Nat.le_of_lt hb)]
    simp only [go_sem, hnl, hlt, L23_MergeGroups_J3_eq, hi, L23_MergeGroups_J5_eq, e1, aload_vpc, hal, c1, c2, hw1]
    by_cases hq1 : q + 1 < cnt w n
    · have hm1 := cnt_mid hw hq1
      have hfull : (grp w n q).length = w := by rw [Nat.add_mul, Nat.one_mul] at hm1; omega
      have c3 : decide (((q + 1 : Nat) : Int) < (cnt w n : Int)) = true := by rw [decide_eq_true_eq]; omega
      have c4 : (((grp w n q).length : Int) != (w : Int)) = false := by rw [hfull]; simp
      simp only [c3, c4, go_sem, e1, aload_vpc, hal, L23_MergeGroups_J4_eq, hw1]
      exact ih'
    · have c3 : decide (((q + 1 : Nat) : Int) < (cnt w n : Int)) = false := by simp; omega
      simp only [c3, go_sem, L23_MergeGroups_J4_eq, hw1]
      exact ih'
end
theorem Groups_law (n ways : Int) (H : Hp) : C_L23_MergeGroups [.int .i64 n, .int .i64 ways] H = some (.bool true, H) := by
  rw [F_L23_MergeGroups_eq]
  unfold F_L23_MergeGroups
  by_cases hn : 5000 < n
  · simp only [go_sem, decide_eq_true hn, awake23_ok]
  by_cases h2 : ways < 2
  · simp only [go_sem, decide_eq_false hn, decide_eq_true h2, awake23_ok]
  by_cases h3 : 32 < ways
  · simp only [go_sem, decide_eq_false hn, decide_eq_false h2, decide_eq_true h3, awake23_ok]
  obtain ⟨w1, w2, w3⟩ := waysN_ok ways
  have hw : ((waysN ways : Nat) : Int) = ways := by omega
  obtain ⟨y, e1, e2⟩ := plan_flat n ways (by omega) H
  have hloop := groups_loop (n := n.toNat) w1 w2 (by omega) e2 (a0 := .int .i64 n) H H _ 0 rfl (Nat.zero_le _)
  rw [show iv (waysN ways) = .int .i64 ways from by unfold iv; rw [hw], Nat.zero_mul, Nat.zero_min, show iv 0 = AV.int .i64 0 from rfl] at hloop
  simp only [go_sem, decide_eq_false hn, decide_eq_false h2, decide_eq_false h3, L23_MergeGroups_J1_eq, e1, hloop, L23_MergeGroups_J2_eq]
  by_cases h0 : 0 ≤ n
  · have hb : (((n.toNat : Nat) : Int) == n) = true := by rw [beq_iff_eq]; omega
    simp only [hb, go_sem, awake23_ok]
  · have hb : (((n.toNat : Nat) : Int) == n) = false := by rw [beq_eq_false_iff_ne]; omega
    have hb1 : decide (n < 1) = true := by rw [decide_eq_true_eq]; omega
    have hb0 : (((n.toNat : Nat) : Int) == 0) = true := by rw [beq_iff_eq]; omega
    simp only [hb, hb1, hb0, go_sem, awake23_ok]
end Go.Am
