/-
  The laws of RunsSplits and RunsDivide, in the machine.
-/
import Derived.Test.YtehanadfidoodaaGreatDoorNkQcx
import Derived.Test.YtehanadfidoodaaGreatDoorNkAx
namespace Go.Am
set_option linter.unusedSimpArgs false
set_option linter.unusedVariables false
set_option linter.unusedSectionVars false
set_option maxRecDepth 100000

theorem samel_loop {x y : AV} {l m : List Str} (hx : SS x l) (hy : SS y m) (hl : l.length ≤ 1048576) (hlm : l.length = m.length) (H0 H : Hp) : ∀ (k i : Nat), l.length - i = k → i ≤ l.length →
    L22_SameLines_L1 x y (.int .i64 (i : Int)) H0 H = some (.bool (decide (l.drop i = m.drop i)), H) := by
  have p3 := SS.len hx 9
  intro k
  induction k with
  | zero =>
    intro i hk hi
    have hlt : decide ((i : Int) < (l.length : Int)) = false := by simp; omega
    have e : l.drop i = m.drop i := by rw [List.drop_eq_nil_iff.2 (by omega), List.drop_eq_nil_iff.2 (by omega)]
    rw [L22_SameLines_L1_eq]
    simp only [go_sem, p3, hlt, L22_SameLines_J2_eq, decide_eq_true e]
  | succ k ih =>
    intro i hk hi
    have hlt : decide ((i : Int) < (l.length : Int)) = true := by simp; omega
    have hw : IntKind.i64.wrap ((i : Int) + 1) = ((i + 1 : Nat) : Int) := by rw [wrap64 (by omega) (by omega)]; omega
    have h1 := SS.idx hx (List.getElem?_eq_getElem (show i < l.length by omega))
    have h2 := SS.idx hy (List.getElem?_eq_getElem (show i < m.length by omega))
    have hsb : sbin .neq (.str l[i]) (.str m[i]) = some (.bool (l[i] != m[i])) := rfl
    rw [L22_SameLines_L1_eq, List.drop_eq_getElem_cons (show i < l.length by omega), List.drop_eq_getElem_cons (show i < m.length by omega)]
    simp only [go_sem, p3, hlt, L22_SameLines_J3_eq, h1, h2, aload_vpc, hsb]
    by_cases he : l[i] = m[i]
    · have : (l[i] != m[i]) = false := by simp [he]
      simp only [this, go_sem, L22_SameLines_J4_eq, hw]
      rw [ih (i + 1) (by omega) (by omega)]
      have e : decide (l[i] :: l.drop (i + 1) = m[i] :: m.drop (i + 1)) = decide (l.drop (i + 1) = m.drop (i + 1)) := by
        rw [decide_eq_decide, List.cons.injEq]
        exact ⟨fun h => h.2, fun h => ⟨he, h⟩⟩
      rw [e]
    · have : (l[i] != m[i]) = true := by simp [he]
      have e : decide (l[i] :: l.drop (i + 1) = m[i] :: m.drop (i + 1)) = false := by
        rw [decide_eq_false_iff_not, List.cons.injEq]
        exact fun h => he h.1
      simp only [this, go_sem, e]
theorem samel_flat {x y : AV} {l m : List Str} (hx : SS x l) (hy : SS y m) (hl : l.length ≤ 1048576) (hm : m.length ≤ 1048576) (H : Hp) : flatC C_L22_SameLines [x, y] H = some (.bool (decide (l = m)), H) := by
  obtain ⟨x1, k1, k2⟩ := SS.closed hx [] 0 4
  obtain ⟨y1, g1, g2⟩ := SS.closed hy [] 0 4
  have p1 := SS.len k2 9
  have p2 := SS.len g2 9
  refine flat2 k1 g1 (H1 := []) ?_ rfl
  rw [F_L22_SameLines_eq]
  unfold F_L22_SameLines
  by_cases hlm : l.length = m.length
  · have hne : ((l.length : Int) != (m.length : Int)) = false := by simp [hlm]
    have := samel_loop k2 g2 hl hlm [] [] l.length 0 rfl (Nat.zero_le _)
    rw [show ((0 : Nat) : Int) = 0 from rfl, List.drop_zero, List.drop_zero] at this
    simp only [go_sem, p1, p2, hne, L22_SameLines_J1_eq, this]
  · have hne : ((l.length : Int) != (m.length : Int)) = true := by simp; omega
    have : ¬ l = m := fun e => hlm (by rw [e])
    simp only [go_sem, p1, p2, hne, decide_eq_false this]


theorem splits_loop {x y : AV} {ls : List (List Str)} (hx : LsV x ls) (hy : LsV y ls) (hl : ls.length ≤ 1048576) (hin : ∀ k ∈ ls, k.length ≤ 1048576) (H0 H : Hp) : ∀ (r d : List (List Str)), ls = d ++ r →
    L22_RunsSplits_L1 x y (.int .i64 (d.length : Int)) H0 H = some (.bool true, H) := by
  have hn := hx.len 32
  intro r
  induction r with
  | nil =>
    intro d hd
    rw [List.append_nil] at hd
    subst hd
    have hlt : decide ((ls.length : Int) < (ls.length : Int)) = false := by simp
    rw [L22_RunsSplits_L1_eq]
    simp only [go_sem, hn, hlt, L22_RunsSplits_J2_eq, awake22_ok]
  | cons k r ih =>
    intro d hd
    have hlen : ls.length = d.length + (r.length + 1) := by rw [hd]; simp
    have hlt : decide ((d.length : Int) < (ls.length : Int)) = true := by simp; omega
    have hw1 : IntKind.i64.wrap ((d.length : Int) + 1) = ((d.length + 1 : Nat) : Int) := by rw [wrap64 (by omega) (by omega)]; omega
    have hik : ls[d.length]? = some k := by rw [hd, List.getElem?_append_right (Nat.le_refl _)]; simp
    obtain ⟨a, e1, e2⟩ := hx.get' hik
    obtain ⟨b, f1, f2⟩ := hy.get' hik
    have hkl := hin k (by rw [hd]; simp)
    have hsame := samel_flat e2 f2 hkl hkl H
    have ih' := ih (d ++ [k]) (by rw [hd]; simp)
    simp only [List.length_append, List.length_singleton] at ih'
    rw [L22_RunsSplits_L1_eq]
    simp only [go_sem, hn, hlt, L22_RunsSplits_J3_eq, e1, f1, aload_vpc, hsame, decide_true, Bool.not_true, L22_RunsSplits_J4_eq, hw1]
    exact ih'
theorem flat_len (A : List (List Str)) : ∀ k ∈ A, k.length ≤ A.flatten.length := by
  induction A with
  | nil => intro k hk; cases hk
  | cons a A ih =>
    intro k hk
    rw [List.flatten_cons, List.length_append]
    rcases List.mem_cons.1 hk with e | hk
    · subst e; omega
    · have := ih k hk; omega
theorem ckAll_flat {mem : Int} (l : List Str) : (ckAll (ckRun cS mem l)).flatten = l := by
  have h := (ck_run cS mem l)
  unfold ckAll
  split
  · rename_i hc
    have := h.flat
    rw [hc, List.append_nil] at this
    exact this
  · rw [List.flatten_append]
    simpa using h.flat
theorem len_flatten : ∀ (A : List (List Str)), (∀ k ∈ A, k ≠ []) → A.length ≤ A.flatten.length := by
  intro A
  induction A with
  | nil => intro _; simp
  | cons k A ih =>
    intro h
    have h1 := ih fun k hk => h k (by simp [hk])
    have h2 : 0 < k.length := List.length_pos_iff.2 (h k (by simp))
    simp only [List.length_cons, List.flatten_cons, List.length_append]
    omega
theorem ckAll_len {mem : Int} (l : List Str) : (ckAll (ckRun cS mem l)).length ≤ l.length := by
  have h := ck_run cS mem l
  have := len_flatten (ckAll (ckRun cS mem l)) fun k hk => by
    unfold ckAll at hk
    split at hk
    · exact h.ne k hk
    · rename_i hc
      rcases List.mem_append.1 hk with hk | hk
      · exact h.ne k hk
      · rw [List.mem_singleton.1 hk]; exact hc
  rwa [ckAll_flat] at this
theorem Splits_law {x : AV} {l : List Str} (hx : SS x l) (hL : Lens l) (hl : l.length ≤ 1048576) (mem : Int) (H : Hp) : C_L22_RunsSplits [x, .int .i64 mem] H = some (.bool true, H) := by
  obtain ⟨y, h1, h2⟩ := split_flat (mem := mem) hx hL (by omega) H
  obtain ⟨z, g1, g2⟩ := rsplit_flat (mem := mem) hx hL (by omega) H
  have hne : (((ckAll (ckRun cS mem l)).length : Int) != ((ckAll (ckRun cS mem l)).length : Int)) = false := by simp
  have hloop := splits_loop h2 g2 (by have := ckAll_len (mem := mem) l; omega) (fun k hk => by have := flat_len _ k hk; rw [ckAll_flat] at this; omega) H H _ [] rfl
  rw [List.length_nil, show ((0 : Nat) : Int) = 0 from rfl] at hloop
  rw [F_L22_RunsSplits_eq]
  unfold F_L22_RunsSplits
  simp only [h1, g1, go_sem, h2.len 32, g2.len 32, hne, L22_RunsSplits_J1_eq, hloop]

end Go.Am
