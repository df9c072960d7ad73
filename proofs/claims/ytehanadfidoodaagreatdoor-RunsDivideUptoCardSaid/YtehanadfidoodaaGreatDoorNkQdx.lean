/-
  The laws of RunsSplits and RunsDivide, in the machine.
-/
import Derived.Test.YtehanadfidoodaaGreatDoorNkQcx
import Derived.Test.YtehanadfidoodaaGreatDoorNkAx
namespace Go.Am
set_option linter.unusedSimpArgs false
set_option linter.unusedVariables false
set_option linter.unusedSectionVars false
set_option maxRecDepth 100000

theorem samel_loop {x y : AV} {l m : List Str} (hx : SS x l) (hy : SS y m) (hl : l.length ≤ 1048576) (hlm : l.length = m.length) (H0 H : Hp) : ∀ (k i : Nat), l.length - i = k → i ≤ l.length →
    L22_SameLines_L1 x y (.int .i64 (i : Int)) H0 H = some (.bool (decide (l.drop i = m.drop i)), H) := by
  have p3 := SS.len hx 9
  intro k
  induction k with
  | zero =>
    intro i hk hi
    have hlt : decide ((i : Int) < (l.length : Int)) = false := by simp; omega
    have e : l.drop i = m.drop i := by rw [List.drop_eq_nil_iff.2 (by omega), List.drop_eq_nil_iff.2 (by omega)]
    rw [L22_SameLines_L1_eq]
    simp only [go_sem, p3, hlt, L22_SameLines_J2_eq, decide_eq_true e]
  | succ k ih =>
    intro i hk hi
    have hlt : decide ((i : Int) < (l.length : Int)) = true := by simp; omega
    have hw : IntKind.i64.wrap ((i : Int) + 1) = ((i + 1 : Nat) : Int) := by rw [wrap64 (by omega) (by omega)]; omega
    have h1 := SS.idx hx (List.getElem?_eq_getElem (show i < l.length by omega))
    have h2 := SS.idx hy (List.getElem?_eq_getElem (show i < m.length by omega))
    have hsb : sbin .neq (.str l[i]) (.str m[i]) = some (.bool (l[i] != m[i])) := rfl
    rw [L22_SameLines_L1_eq, List.drop_eq_getElem_cons (show i < l.length by omega), List.drop_eq_getElem_cons (show i < m.length by omega)]
    simp only [go_sem, p3, hlt, L22_SameLines_J3_eq, h1, h2, aload_vpc, hsb]
    by_cases he : l[i] = m[i]
    · have : (l[i] != m[i]) = false := by simp [he]
      simp only [this, go_sem, L22_SameLines_J4_eq, hw]
      rw [ih (i + 1) (by omega) (by omega)]
      have e : decide (l[i] :: l.drop (i + 1) = m[i] :: m.drop (i + 1)) = decide (l.drop (i + 1) = m.drop (i + 1)) := by
        rw [decide_eq_decide, List.cons.injEq]
        exact ⟨fun h => h.2, fun h => ⟨he, h⟩⟩
      rw [e]
    · have : (l[i] != m[i]) = true := by simp [he]
      have e : decide (l[i] :: l.drop (i + 1) = m[i] :: m.drop (i + 1)) = false := by
        rw [decide_eq_false_iff_not, List.cons.injEq]
        exact fun h => he h.1
      simp only [this, go_sem, e]
theorem samel_flat {x y : AV} {l m : List Str} (hx : SS x l) (hy : SS y m) (hl : l.length ≤ 1048576) (hm : m.length ≤ 1048576) (H : Hp) : flatC C_L22_SameLines [x, y] H = some (.bool (decide (l = m)), H) := by
  obtain ⟨x1, k1, k2⟩ := SS.closed hx [] 0 4
  obtain ⟨y1, g1, g2⟩ := SS.closed hy [] 0 4
  have p1 := SS.len k2 9
  have p2 := SS.len g2 9
  refine flat2 k1 g1 (H1 := []) ?_ rfl
  rw [F_L22_SameLines_eq]
  unfold F_L22_SameLines
  by_cases hlm : l.length = m.length
  · have hne : ((l.length : Int) != (m.length : Int)) = false := by simp [hlm]
    have := samel_loop k2 g2 hl hlm [] [] l.length 0 rfl (Nat.zero_le _)
    rw [show ((0 : Nat) : Int) = 0 from rfl, List.drop_zero, List.drop_zero] at this
    simp only [go_sem, p1, p2, hne, L22_SameLines_J1_eq, this]
  · have hne : ((l.length : Int) != (m.length : Int)) = true := by simp; omega
    have : ¬ l = m := fun e => hlm (by rw [e])
    simp only [go_sem, p1, p2, hne, decide_eq_false this]


theorem cost_loop {x : AV} {l : List Str} (hx : SS x l) (hL : Lens l) (hl : l.length ≤ 1048576) (H0 H : Hp) : ∀ (r d : List Str), l = d ++ r →
    L22_cost_L1 x (.int .i64 (costL cS d)) (.int .i64 (d.length : Int)) H0 H = some (.int .i64 (costL cS l), H) := by
  have hn := SS.len hx 9
  intro r
  induction r with
  | nil =>
    intro d hd
    rw [List.append_nil] at hd
    subst hd
    have hlt : decide ((l.length : Int) < (l.length : Int)) = false := by simp
    rw [L22_cost_L1_eq]
    simp only [go_sem, hn, hlt, L22_cost_J1_eq]
  | cons s r ih =>
    intro d hd
    have hLd : Lens d := fun t ht => hL t (by rw [hd]; simp [ht])
    have hcb := costL_bound d hLd
    have hs : s.length ≤ 1048576 := hL s (by rw [hd]; simp)
    have hlen : l.length = d.length + (r.length + 1) := by rw [hd]; simp
    have hlt : decide ((d.length : Int) < (l.length : Int)) = true := by simp; omega
    have hw1 : IntKind.i64.wrap ((d.length : Int) + 1) = ((d.length + 1 : Nat) : Int) := by rw [wrap64 (by omega) (by omega)]; omega
    have hwa : IntKind.i64.wrap (costL cS d + (s.length : Int)) = costL cS d + (s.length : Int) := wrap64 (by omega) (by omega)
    have hwb : IntKind.i64.wrap (costL cS d + (s.length : Int) + 16) = costL cS (d ++ [s]) := by
      rw [wrap64 (by omega) (by omega), costL_app]
      show _ = costL cS d + ((s.length : Int) + 16)
      omega
    have his : l[d.length]? = some s := by rw [hd, List.getElem?_append_right (Nat.le_refl _)]; simp
    have hidx := SS.idx hx his
    have ih' := ih (d ++ [s]) (by rw [hd]; simp)
    simp only [List.length_append, List.length_singleton] at ih'
    rw [L22_cost_L1_eq]
    simp only [go_sem, hn, hlt, L22_cost_J2_eq, hidx, aload_vpc, hwa, hwb, L22_cost_J3_eq, hw1]
    exact ih'
theorem cost_flat {x : AV} {l : List Str} (hx : SS x l) (hL : Lens l) (hl : l.length ≤ 1048576) (H : Hp) : flatC C_L22_cost [x] H = some (.int .i64 (costL cS l), H) := by
  obtain ⟨x1, k1, k2⟩ := SS.closed hx [] 0 4
  refine flat1 k1 (H1 := []) ?_ rfl
  rw [F_L22_cost_eq]
  unfold F_L22_cost
  exact cost_loop k2 hL hl [] [] l [] rfl
theorem flat_len (A : List (List Str)) : ∀ k ∈ A, k.length ≤ A.flatten.length := by
  induction A with
  | nil => intro k hk; cases hk
  | cons a A ih =>
    intro k hk
    rw [List.flatten_cons, List.length_append]
    rcases List.mem_cons.1 hk with e | hk
    · subst e; omega
    · have := ih k hk; omega
theorem ckAll_flat {mem : Int} (l : List Str) : (ckAll (ckRun cS mem l)).flatten = l := by
  have h := (ck_run cS mem l)
  unfold ckAll
  split
  · rename_i hc
    have := h.flat
    rw [hc, List.append_nil] at this
    exact this
  · rw [List.flatten_append]
    simpa using h.flat
theorem len_flatten : ∀ (A : List (List Str)), (∀ k ∈ A, k ≠ []) → A.length ≤ A.flatten.length := by
  intro A
  induction A with
  | nil => intro _; simp
  | cons k A ih =>
    intro h
    have h1 := ih fun k hk => h k (by simp [hk])
    have h2 : 0 < k.length := List.length_pos_iff.2 (h k (by simp))
    simp only [List.length_cons, List.flatten_cons, List.length_append]
    omega
theorem ckAll_len {mem : Int} (l : List Str) : (ckAll (ckRun cS mem l)).length ≤ l.length := by
  have h := ck_run cS mem l
  have := len_flatten (ckAll (ckRun cS mem l)) fun k hk => by
    unfold ckAll at hk
    split at hk
    · exact h.ne k hk
    · rename_i hc
      rcases List.mem_append.1 hk with hk | hk
      · exact h.ne k hk
      · rw [List.mem_singleton.1 hk]; exact hc
  rwa [ckAll_flat] at this
structure Dv (mem : Int) (l : List Str) (ls : List (List Str)) : Prop where
  flat : ls.flatten = l
  ne : ∀ k ∈ ls, k ≠ []
  fit : ∀ k ∈ ls, 1 < k.length → costL cS k ≤ mem
  next : ∀ (i : Nat) (a b : List Str) (x : Str), ls[i]? = some a → ls[i + 1]? = some b → b.head? = some x → mem < costL cS a + cS x
theorem dv_all (mem : Int) (l : List Str) : Dv mem l (ckAll (ckRun cS mem l)) := by
  have h := ck_run cS mem l
  refine ⟨ckAll_flat l, ?_, ?_, ?_⟩
  · intro k hk
    unfold ckAll at hk
    split at hk
    · exact h.ne k hk
    · rename_i hc
      rcases List.mem_append.1 hk with hk | hk
      · exact h.ne k hk
      · rw [List.mem_singleton.1 hk]; exact hc
  · intro k hk
    unfold ckAll at hk
    split at hk
    · exact h.fit k (by simp [hk])
    · exact h.fit k hk
  · intro i a b x h1 h2 h3
    unfold ckAll at h1 h2
    split at h1
    · rename_i hc
      rw [if_pos hc] at h2
      rw [h.emp hc] at h1
      simp at h1
    · rename_i hc
      rw [if_neg hc] at h2
      exact h.next i a b x h1 h2 h3
theorem divide_loop {x y : AV} {l : List Str} {ls : List (List Str)} {mem : Int} (hx : SS x l) (hL : Lens l) (hl : l.length ≤ 1048576) (hy : LsV y ls) (hD : Dv mem l ls) (hll : ls.length ≤ 1048576) (H0 : Hp) : ∀ (r d : List (List Str)) (x6 : AV) (H : Hp), ls = d ++ r → RS H x6 d.flatten →
    ∃ H', L22_RunsDivide_L1 x (.int .i64 mem) y x6 (.int .i64 (d.length : Int)) H0 H = some (.bool true, H') := by
  have hn := hy.len 32
  intro r
  induction r with
  | nil =>
    intro d x6 H hd h6
    rw [List.append_nil] at hd
    subst hd
    have hlt : decide ((ls.length : Int) < (ls.length : Int)) = false := by simp
    rw [hD.flat] at h6
    have hsame := samel_flat h6.sl hx (by omega) (by omega) H
    rw [L22_RunsDivide_L1_eq]
    simp only [go_sem, hn, hlt, L22_RunsDivide_J1_eq, hsame, decide_true, awake22_ok]
    exact ⟨_, rfl⟩
  | cons k r ih =>
    intro d x6 H hd h6
    have hlen : ls.length = d.length + (r.length + 1) := by rw [hd]; simp
    have hlt : decide ((d.length : Int) < (ls.length : Int)) = true := by simp; omega
    have hw1 : IntKind.i64.wrap ((d.length : Int) + 1) = ((d.length + 1 : Nat) : Int) := by rw [wrap64 (by omega) (by omega)]; omega
    have hik : ls[d.length]? = some k := by rw [hd, List.getElem?_append_right (Nat.le_refl _)]; simp
    obtain ⟨a, e1, e2⟩ := hy.get' hik
    have hmem : ∀ q ∈ ls, q.length ≤ l.length ∧ Lens q := fun q hq => by
      have := flat_len _ q hq
      rw [hD.flat] at this
      exact ⟨this, fun s hs => hL s (by rw [← hD.flat]; exact List.mem_flatten.2 ⟨q, hq, hs⟩)⟩
    have hkm : k ∈ ls := by rw [hd]; simp
    obtain ⟨hkl, hkL⟩ := hmem k hkm
    obtain ⟨s, t, hks⟩ : ∃ s t, k = s :: t := by
      cases hk : k with
      | nil => exact absurd hk (hD.ne k hkm)
      | cons s t => exact ⟨s, t, rfl⟩
    have hal := SS.len e2 9
    have hz : ((k.length : Int) == 0) = false := by rw [hks]; simp; omega
    have hcost := cost_flat e2 hkL (by omega) H
    have hd6 : d.flatten.length + k.length ≤ l.length := by
      rw [← hD.flat, hd, List.flatten_append, List.flatten_cons]
      simp only [List.length_append]
      omega
    obtain ⟨y6, H6, p1, p2⟩ := h6.app e2 (by omega)
    obtain ⟨H', hm⟩ := ih (d ++ [k]) y6 H6 (by rw [hd]; simp) (by rw [List.flatten_append]; simpa using p2)
    rw [List.length_append, List.length_singleton] at hm
    refine ⟨H', ?_⟩
    have fin : L22_RunsDivide_J5 x (.int .i64 mem) y x6 (.int .i64 (d.length : Int)) H0 H = some (.bool true, H') := by
      rw [L22_RunsDivide_J5_eq]
      simp only [go_sem, e1, aload_vpc, p1, L22_RunsDivide_J3_eq, hw1]
      exact hm
    have mid : L22_RunsDivide_J4 x (.int .i64 mem) y x6 (.int .i64 (d.length : Int)) H0 H = some (.bool true, H') := by
      rw [L22_RunsDivide_J4_eq]
      by_cases h0 : d = []
      · have hg : decide ((0 : Int) < (d.length : Int)) = false := by rw [h0]; rfl
        simp only [go_sem, hg, fin]
      · have hpos := List.length_pos_iff.2 h0
        have hg : decide ((0 : Int) < (d.length : Int)) = true := by rw [decide_eq_true_eq]; omega
        have hwm : IntKind.i64.wrap ((d.length : Int) - 1) = ((d.length - 1 : Nat) : Int) := by rw [wrap64 (by omega) (by omega)]; omega
        obtain ⟨q, hq⟩ : ∃ q, ls[d.length - 1]? = some q := ⟨ls[d.length - 1], List.getElem?_eq_getElem (by omega)⟩
        obtain ⟨b, f1, f2⟩ := hy.get' hq
        obtain ⟨hql, hqL⟩ := hmem q (List.mem_of_getElem? hq)
        have hqc := cost_flat f2 hqL (by omega) H
        have hqb := costL_bound q hqL
        have hsl := hkL s (by rw [hks]; simp)
        have i0 : aindexS 1 a (.int .i64 0) = some (.vp [.str s]) := SS.idx e2 (i := 0) (by rw [hks]; rfl)
        have hnx := hD.next (d.length - 1) q k s hq (by rw [show d.length - 1 + 1 = d.length by omega]; exact hik) (by rw [hks]; rfl)
        have hcs : cS s = (s.length : Int) + 16 := rfl
        have hwa : IntKind.i64.wrap (costL cS q + (s.length : Int)) = costL cS q + (s.length : Int) := wrap64 (by omega) (by omega)
        have hwb : IntKind.i64.wrap (costL cS q + (s.length : Int) + 16) = costL cS q + cS s := by rw [wrap64 (by omega) (by omega)]; omega
        have hle : decide (costL cS q + cS s ≤ mem) = false := by simp; omega
        simp only [go_sem, hg, hwm, f1, aload_vpc, hqc, e1, i0, hwa, hwb, hle, fin]
    rw [L22_RunsDivide_L1_eq]
    by_cases h1 : 1 < k.length
    · have hg : decide ((1 : Int) < (k.length : Int)) = true := by rw [decide_eq_true_eq]; omega
      have hle : decide (mem < costL cS k) = false := by have := hD.fit k hkm h1; simp; omega
      simp only [go_sem, hn, hlt, L22_RunsDivide_J2_eq, e1, aload_vpc, hal, hz, hg, hcost, hle, mid]
    · have hg : decide ((1 : Int) < (k.length : Int)) = false := by simp; omega
      simp only [go_sem, hn, hlt, L22_RunsDivide_J2_eq, e1, aload_vpc, hal, hz, hg, mid]
theorem Divide_law {x : AV} {l : List Str} (hx : SS x l) (hL : Lens l) (hl : l.length ≤ 1048576) (mem : Int) (H : Hp) : ∃ H', C_L22_RunsDivide [x, .int .i64 mem] H = some (.bool true, H') := by
  obtain ⟨y, h1, h2⟩ := split_flat (mem := mem) hx hL (by omega) H
  obtain ⟨H', hloop⟩ := divide_loop hx hL hl h2 (dv_all mem l) (by have := ckAll_len (mem := mem) l; omega) H _ [] .nils H rfl (.inl ⟨rfl, rfl⟩)
  refine ⟨H', ?_⟩
  rw [F_L22_RunsDivide_eq]
  unfold F_L22_RunsDivide
  simp only [h1, go_sem]
  exact hloop
end Go.Am
