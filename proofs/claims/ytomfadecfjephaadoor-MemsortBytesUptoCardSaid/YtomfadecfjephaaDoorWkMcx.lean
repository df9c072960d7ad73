/-
  Sort and Unsorted, both ways.
-/
import Derived.Test.YtomfadecfjephaaDoorWkMbx
namespace Go.Am
set_option linter.unusedSimpArgs false
set_option linter.unusedVariables false
set_option linter.unusedSectionVars false
set_option maxRecDepth 100000

def SpecCells (l : List AV) (p : Spec) : Prop := ∃ x, l = p.cells x ∧ Sl 5 x (p.keys.map Ke.av)
theorem SpecCells.close {l : List AV} {p : Spec} (h : SpecCells l p) (H : Hp) (n f : Nat) : ∃ l', l.mapM (closeV H n (f + 3)) = some l' ∧ SpecCells l' p := by
  obtain ⟨x, rfl, hx⟩ := h
  obtain ⟨x', h1, h2⟩ := hx.close (H := H) (n := n) (f := f + 2) (fun c hc => by
    obtain ⟨k, _, rfl⟩ := List.mem_map.1 hc
    exact k.close H n f)
  refine ⟨p.cells x', ?_, x', rfl, h2⟩
  simp only [Spec.cells, List.mapM_cons, h1, List.mapM_nil]
  rfl
def ClK (g : Nat) (L : Loc) (p : Spec) (v : AV) : Prop := ∃ lc sc, v = .fn (.func g) [] [.vp lc, .vp sc] ∧ LocCells lc L ∧ SpecCells sc p
theorem closeV_fn2 (H : Hp) (n f : Nat) (g : Fn) (a b : AV) : closeV H n (f + 1) (.fn g [] [a, b]) = match closeV H n f a, closeV H n f b with
    | some a', some b' => some (.fn g [] [a', b'])
    | _, _ => none := by
  show (match ([] : List AV).mapM (closeV H n f), [a, b].mapM (closeV H n f) with
      | some a, some b => some (AV.fn g a b)
      | _, _ => none) = _
  simp only [List.mapM_nil, List.mapM_cons]
  cases closeV H n f a <;> cases closeV H n f b <;> rfl
theorem ClK.close {g : Nat} {L : Loc} {p : Spec} {v : AV} (h : ClK g L p v) : ∃ v', closeV [] 0 6 v = some v' ∧ ClK g L p v' := by
  obtain ⟨lc, sc, rfl, hl, hs⟩ := h
  obtain ⟨lc', l1, l2⟩ := hl.close [] 0 1
  obtain ⟨sc', s1, s2⟩ := hs.close [] 0 1
  refine ⟨.fn (.func g) [] [.vp lc', .vp sc'], ?_, lc', sc', rfl, l2, s2⟩
  rw [closeV_fn2, closeV_vpl, closeV_vpl, l1, s1]

theorem sort1_run (L : Loc) (hok : LocOk L) (p : Spec) (hks : ∀ k ∈ p.keys, KeOk k) : Fv (ClK 22 L p) fun a b => decide (0 < orderS L p a b) where
  close := fun v hv => ClK.close hv
  run := fun v hv a b ha hb H => by
    obtain ⟨lc, sc, rfl, hl, hs⟩ := hv
    rw [V_memsort_Sort_1]
    obtain ⟨lc', l1, l2⟩ := hl.close [] 0 2
    obtain ⟨sc', s1, s2⟩ := hs.close [] 0 2
    obtain ⟨x, c, e, rfl, hx, hc, he⟩ := l2
    obtain ⟨xs, rfl, hxs⟩ := s2
    have hcl : closeV [] 0 6 (.vp lc) = some (.vp (L.cells x c e)) := by rw [closeV_vpl, l1]
    have hcs : closeV [] 0 6 (.vp sc) = some (.vp (p.cells xs)) := by rw [closeV_vpl, s1]
    have ho := ord_flat (a := .agg (L.cells x c e)) (L := L) ⟨x, c, e, rfl, hx, hc, he⟩ hok (q := .agg (p.cells xs)) (p := p) ⟨xs, rfl, hxs⟩ hks a b ha hb []
    refine flat4 (a' := .str a) (b' := .str b) rfl rfl hcl hcs (H1 := []) ?_ rfl
    rw [F_memsort_Sort_1_eq]
    unfold F_memsort_Sort_1
    simp only [go_sem, aload_vpn 6 (L.cells x c e) rfl, aload_vpn 5 (p.cells xs) rfl, ho]

theorem sort2_run (L : Loc) (hok : LocOk L) (p : Spec) (hks : ∀ k ∈ p.keys, KeOk k) : Fv (ClK 25 L p) fun a b => lineS L p a b == 0 where
  close := fun v hv => ClK.close hv
  run := fun v hv a b ha hb H => by
    obtain ⟨lc, sc, rfl, hl, hs⟩ := hv
    rw [V_memsort_Sort_2]
    obtain ⟨lc', l1, l2⟩ := hl.close [] 0 2
    obtain ⟨sc', s1, s2⟩ := hs.close [] 0 2
    obtain ⟨x, c, e, rfl, hx, hc, he⟩ := l2
    obtain ⟨xs, rfl, hxs⟩ := s2
    have hcl : closeV [] 0 6 (.vp lc) = some (.vp (L.cells x c e)) := by rw [closeV_vpl, l1]
    have hcs : closeV [] 0 6 (.vp sc) = some (.vp (p.cells xs)) := by rw [closeV_vpl, s1]
    have ho := line_flat (a := .agg (L.cells x c e)) (L := L) ⟨x, c, e, rfl, hx, hc, he⟩ hok (q := .agg (p.cells xs)) (p := p) ⟨xs, rfl, hxs⟩ hks a b ha hb []
    refine flat4 (a' := .str a) (b' := .str b) rfl rfl hcl hcs (H1 := []) ?_ rfl
    rw [F_memsort_Sort_2_eq]
    unfold F_memsort_Sort_2
    simp only [go_sem, aload_vpn 6 (L.cells x c e) rfl, aload_vpn 5 (p.cells xs) rfl, ho]

def sortS (L : Loc) (p : Spec) (l : List Str) : List Str :=
  if (checkS p != 0) = true then l else if p.uniq then onceL (lineS L p) [] (insL (orderS L p) l) else insL (orderS L p) l
theorem ins_msort (L : Loc) (p : Spec) (l : List Str) : msortN (orderS L p) l.length l = insL (orderS L p) l := msort_ins (orderS_cm L p) l (Nat.le_refl _)
theorem ins_facts (L : Loc) (p : Spec) (l : List Str) : (insL (orderS L p) l).length = l.length ∧ ∀ s ∈ insL (orderS L p) l, s ∈ l := by
  rw [← ins_msort]
  exact msort_facts _ _
theorem flat3c {f : List AV → Hp → Res} {a a' b b' c c' v v' : AV} {H H1 : Hp} (ha : closeV [] 0 6 a = some a') (hb : closeV [] 0 6 b = some b') (hd : closeV [] 0 6 c = some c') (hc : f [a', b', c'] [] = some (v, H1)) (hv : closeV H1 0 6 v = some v') : flatC f [a, b, c] H = some (v', H) :=
  flatC_cl (args' := [a', b', c']) (by simp [ha, hb, hd]) hc hv
theorem sort_flat {a : AV} {L : Loc} (h : LocAV a L) (hok : LocOk L) {q : AV} {p : Spec} (hq : SpecAV q p) (hks : ∀ k ∈ p.keys, KeOk k) {x : AV} {l : List Str} (hx : SS x l) (hL : Lens l) (hl : l.length ≤ 1048576) (H : Hp) :
    ∃ y, flatC C_memsort_Sort [a, q, x] H = some (y, H) ∧ SS y (sortS L p l) := by
  obtain ⟨a1, h1, h2⟩ := h.close [] 0 2
  obtain ⟨q1, g1, g2⟩ := hq.close [] 0 2
  obtain ⟨x1, k1, k2⟩ := SS.closed hx [] 0 4
  have hck := fun H => check_flat g2 H
  obtain ⟨lx, c, e, rfl, hlx, hc, he⟩ := h2
  obtain ⟨xp, rfl, hxp⟩ := g2
  suffices hs : ∃ y H1, C_memsort_Sort [.agg (L.cells lx c e), .agg (p.cells xp), x1] [] = some (y, H1) ∧ SS y (sortS L p l) by
    obtain ⟨y, H1, r1, r2⟩ := hs
    obtain ⟨y', r3, r4⟩ := SS.closed r2 H1 0 4
    exact ⟨y', flat3c h1 g1 k1 r1 r3, r4⟩
  have hl5 : aload true 5 (.ptr 1 0) [AObj.cells (L.cells lx c e), .cells (p.cells xp)] = some (.agg (p.cells xp)) := by simp [aload, Go.Am.apart, Spec.cells]
  rw [F_memsort_Sort_eq]
  unfold F_memsort_Sort sortS
  cases hb : (checkS p != 0) with
  | true =>
    obtain ⟨y, p1, p2⟩ := clone_flat k2 hl [AObj.cells (L.cells lx c e), .cells (p.cells xp)]
    refine ⟨y, [AObj.cells (L.cells lx c e), .cells (p.cells xp)], ?_, by rw [if_pos rfl]; exact p2⟩
    simp only [go_sem, abox_agg, List.nil_append, List.length_nil, List.length_cons, List.cons_append, Nat.zero_add, hl5, hck, hb, p1]
  | false =>
    have hfz : ∀ (k : AV → Hp → Res), frzK (.ptr 0 0) [AObj.cells (L.cells lx c e), .cells (p.cells xp)] k = k (.vp (L.cells lx c e)) [.dead, .cells (p.cells xp)] := fun k => rfl
    have hfz2 : ∀ (k : AV → Hp → Res), frzK (.ptr 1 0) [AObj.dead, .cells (p.cells xp)] k = k (.vp (p.cells xp)) [.dead, .dead] := fun k => rfl
    have hK1 : ClK 22 L p (.fn (.func 22) [] [.vp (L.cells lx c e), .vp (p.cells xp)]) := ⟨_, _, rfl, ⟨lx, c, e, rfl, hlx, hc, he⟩, ⟨xp, rfl, hxp⟩⟩
    have hK2 : ClK 25 L p (.fn (.func 25) [] [.vp (L.cells lx c e), .vp (p.cells xp)]) := ⟨_, _, rfl, ⟨lx, c, e, rfl, hlx, hc, he⟩, ⟨xp, rfl, hxp⟩⟩
    obtain ⟨y, p1, p2⟩ := msort_flat (sort1_run L hok p hks) l.length l x1 _ (Nat.le_refl _) hl hL k2 hK1 [AObj.dead, .dead]
    rw [ins_msort] at p2
    obtain ⟨f1, f2⟩ := ins_facts L p l
    have hu1 : afield 3 (.vp (p.cells xp)) = some (.vp [.bool p.uniq, .bool p.stab]) := rfl
    simp only [go_sem, abox_agg, List.nil_append, List.length_nil, List.length_cons, List.cons_append, Nat.zero_add, hl5, hck, hb, memsort_Sort_J1_eq, hfz, hfz2, p1, hu1, aload_vpc, Bool.false_eq_true, if_false]
    cases hu : p.uniq with
    | true =>
      obtain ⟨z, o1, o2⟩ := once_flat (sort2_run L hok p hks) hK2 p2 (fun s hs => hL s (f2 s hs)) (by omega) [AObj.dead, .dead]
      exact ⟨z, [.dead, .dead], by simp only [go_sem, o1, memsort_Sort_J2_eq], by simpa using o2⟩
    | false => exact ⟨y, [.dead, .dead], by simp only [go_sem, memsort_Sort_J2_eq], by simpa using p2⟩

end Go.Am
namespace Go.Am
set_option linter.unusedSimpArgs false
set_option linter.unusedVariables false
set_option linter.unusedSectionVars false
set_option maxRecDepth 100000

def unsR (L : Loc) (p : Spec) : Nat → Str → List Str → Int
  | _, _, [] => -1
  | i, z, a :: r => if (decide (0 < orderS L p z a) || (p.uniq && orderS L p z a == 0)) = true then i else unsR L p (i + 1) a r
def unsS (L : Loc) (p : Spec) (l : List Str) : Int :=
  if (checkS p != 0) = true then -1 else match l with
    | [] => -1
    | a :: r => unsR L p 1 a r
theorem unsR_cons (L : Loc) (p : Spec) (i : Nat) (z a : Str) (r : List Str) : unsR L p i z (a :: r) = if (decide (0 < orderS L p z a) || (p.uniq && orderS L p z a == 0)) = true then (i : Int) else unsR L p (i + 1) a r := (Eq.refl _).trans (Eq.refl _)

theorem uns_loop {L : Loc} {lx c e : AV} (hav : LocAV (.agg (L.cells lx c e)) L) (hok : LocOk L) {p : Spec} {xp : AV} (hsp : SpecAV (.agg (p.cells xp)) p) (hks : ∀ k ∈ p.keys, KeOk k) {x : AV} {l : List Str} (hx : SS x l) (hL : Lens l) (hl : l.length ≤ 1048576) (H0 : Hp) :
    ∀ (r done : List Str) (z : Str), l = done ++ z :: r →
    memsort_Unsorted_L1 x (.ptr 0 0) (.ptr 1 0) (.int .i64 ((done.length + 1 : Nat) : Int)) H0 [AObj.cells (L.cells lx c e), .cells (p.cells xp)] = some (.int .i64 (unsR L p (done.length + 1) z r), [AObj.cells (L.cells lx c e), .cells (p.cells xp)]) := by
  have hl5 : aload true 5 (.ptr 1 0) [AObj.cells (L.cells lx c e), .cells (p.cells xp)] = some (.agg (p.cells xp)) := by simp [aload, Go.Am.apart, Spec.cells]
  have hl6 := load_loc L lx c e [.cells (p.cells xp)]
  have hu : aload false 1 (.ptr 1 (0 + 3)) [AObj.cells (L.cells lx c e), .cells (p.cells xp)] = some (.bool p.uniq) := aload_f1 (l := p.cells xp) rfl
  have p3 := SS.len hx 9
  intro r
  induction r with
  | nil =>
    intro done z hd
    have hlen : l.length = done.length + 1 := by rw [hd]; simp
    have hlt : decide (((done.length + 1 : Nat) : Int) < (l.length : Int)) = false := by simp; omega
    rw [memsort_Unsorted_L1_eq]
    simp only [go_sem, p3, hlt, memsort_Unsorted_J2_eq, unsR]
  | cons a r ih =>
    intro done z hd
    have hlen : l.length = done.length + (r.length + 2) := by rw [hd]; simp
    have hlt : decide (((done.length + 1 : Nat) : Int) < (l.length : Int)) = true := by simp; omega
    have hw1 : IntKind.i64.wrap (((done.length + 1 : Nat) : Int) + 1) = ((done.length + 1 + 1 : Nat) : Int) := by rw [wrap64 (by omega) (by omega)]; omega
    have hwm : IntKind.i64.wrap (((done.length + 1 : Nat) : Int) - 1) = (done.length : Int) := by rw [wrap64 (by omega) (by omega)]; omega
    have hiz : l[done.length]? = some z := by rw [hd, List.getElem?_append_right (Nat.le_refl _)]; simp
    have hia : l[done.length + 1]? = some a := by rw [hd, List.getElem?_append_right (by omega)]; simp
    have hcmp := ord_flat hav hok hsp hks z a (hL z (List.mem_of_getElem? hiz)) (hL a (List.mem_of_getElem? hia)) [AObj.cells (L.cells lx c e), .cells (p.cells xp)]
    have h1 := SS.idx hx hiz
    have h2 := SS.idx hx hia
    have ih' := ih (done ++ [z]) a (by rw [hd]; simp)
    rw [List.length_append, List.length_singleton] at ih'
    rw [memsort_Unsorted_L1_eq, unsR_cons]
    simp only [go_sem, p3, hlt, memsort_Unsorted_J3_eq, hl6, hl5, hwm, h1, h2, aload_vpc, hcmp]
    cases hc : decide (0 < orderS L p z a) with
    | true => simp only [go_sem, Bool.true_or, if_true]
    | false =>
      simp only [go_sem, hu]
      cases hq : p.uniq with
      | false => simp only [go_sem, Bool.false_and, Bool.or_false, Bool.false_eq_true, if_false, memsort_Unsorted_J4_eq, hw1, ih']
      | true =>
        simp only [go_sem]
        cases hz : (orderS L p z a == 0) with
        | true => simp only [go_sem, Bool.true_and, Bool.or_true, if_true]
        | false => simp only [go_sem, Bool.true_and, Bool.or_false, Bool.false_eq_true, if_false, memsort_Unsorted_J4_eq, hw1, ih']
theorem uns_flat {a : AV} {L : Loc} (h : LocAV a L) (hok : LocOk L) {q : AV} {p : Spec} (hq : SpecAV q p) (hks : ∀ k ∈ p.keys, KeOk k) {x : AV} {l : List Str} (hx : SS x l) (hL : Lens l) (hl : l.length ≤ 1048576) (H : Hp) :
    flatC C_memsort_Unsorted [a, q, x] H = some (.int .i64 (unsS L p l), H) := by
  obtain ⟨a1, h1, h2⟩ := h.close [] 0 2
  obtain ⟨q1, g1, g2⟩ := hq.close [] 0 2
  obtain ⟨x1, k1, k2⟩ := SS.closed hx [] 0 4
  have hck := fun H => check_flat g2 H
  have hav := h2
  have hsp := g2
  obtain ⟨lx, c, e, rfl, hlx, hc, he⟩ := h2
  obtain ⟨xp, rfl, hxp⟩ := g2
  have hl5 : aload true 5 (.ptr 1 0) [AObj.cells (L.cells lx c e), .cells (p.cells xp)] = some (.agg (p.cells xp)) := by simp [aload, Go.Am.apart, Spec.cells]
  have p3 := SS.len k2 9
  refine flat3 h1 g1 k1 (H1 := [AObj.cells (L.cells lx c e), .cells (p.cells xp)]) ?_ rfl
  rw [F_memsort_Unsorted_eq]
  unfold F_memsort_Unsorted unsS
  cases hb : (checkS p != 0) with
  | true => simp only [go_sem, abox_agg, List.nil_append, List.length_nil, List.length_cons, List.cons_append, Nat.zero_add, hl5, hck, hb, if_true]
  | false =>
    cases l with
    | nil =>
      have hlt : decide ((1 : Int) < ((([] : List Str).length : Nat) : Int)) = false := rfl
      simp only [go_sem, abox_agg, List.nil_append, List.length_nil, List.length_cons, List.cons_append, Nat.zero_add, hl5, hck, hb, memsort_Unsorted_J1_eq, memsort_Unsorted_L1_eq, p3, show decide ((1 : Int) < ((0 : Nat) : Int)) = false from rfl, memsort_Unsorted_J2_eq, Bool.false_eq_true, if_false]
    | cons z r =>
      have := uns_loop hav hok hsp hks k2 hL hl [] r [] z rfl
      rw [List.length_nil, show ((0 + 1 : Nat) : Int) = 1 from rfl] at this
      simp only [go_sem, abox_agg, List.nil_append, List.length_nil, List.length_cons, List.cons_append, Nat.zero_add, hl5, hck, hb, memsort_Unsorted_J1_eq, Bool.false_eq_true, if_false, Nat.reduceAdd]
      exact this

theorem same_loop {x y : AV} {l m : List Str} (hx : SS x l) (hy : SS y m) (hl : l.length ≤ 1048576) (hlm : l.length = m.length) (H0 H : Hp) : ∀ (k i : Nat), l.length - i = k → i ≤ l.length →
    R21_Same_L1 x y (.int .i64 (i : Int)) H0 H = some (.bool (decide (l.drop i = m.drop i)), H) := by
  have p3 := SS.len hx 9
  intro k
  induction k with
  | zero =>
    intro i hk hi
    have hlt : decide ((i : Int) < (l.length : Int)) = false := by simp; omega
    have e : l.drop i = m.drop i := by rw [List.drop_eq_nil_iff.2 (by omega), List.drop_eq_nil_iff.2 (by omega)]
    rw [R21_Same_L1_eq]
    simp only [go_sem, p3, hlt, R21_Same_J2_eq, decide_eq_true e]
  | succ k ih =>
    intro i hk hi
    have hlt : decide ((i : Int) < (l.length : Int)) = true := by simp; omega
    have hw : IntKind.i64.wrap ((i : Int) + 1) = ((i + 1 : Nat) : Int) := by rw [wrap64 (by omega) (by omega)]; omega
    have h1 := SS.idx hx (List.getElem?_eq_getElem (show i < l.length by omega))
    have h2 := SS.idx hy (List.getElem?_eq_getElem (show i < m.length by omega))
    have hsb : sbin .neq (.str l[i]) (.str m[i]) = some (.bool (l[i] != m[i])) := rfl
    rw [R21_Same_L1_eq, List.drop_eq_getElem_cons (show i < l.length by omega), List.drop_eq_getElem_cons (show i < m.length by omega)]
    simp only [go_sem, p3, hlt, R21_Same_J3_eq, h1, h2, aload_vpc, hsb]
    by_cases he : l[i] = m[i]
    · have : (l[i] != m[i]) = false := by simp [he]
      simp only [this, go_sem, R21_Same_J4_eq, hw]
      rw [ih (i + 1) (by omega) (by omega)]
      have e : decide (l[i] :: l.drop (i + 1) = m[i] :: m.drop (i + 1)) = decide (l.drop (i + 1) = m.drop (i + 1)) := by
        rw [decide_eq_decide, List.cons.injEq]
        exact ⟨fun h => h.2, fun h => ⟨he, h⟩⟩
      rw [e]
    · have : (l[i] != m[i]) = true := by simp [he]
      have e : decide (l[i] :: l.drop (i + 1) = m[i] :: m.drop (i + 1)) = false := by
        rw [decide_eq_false_iff_not, List.cons.injEq]
        exact fun h => he h.1
      simp only [this, go_sem, e]
theorem same_flat {x y : AV} {l m : List Str} (hx : SS x l) (hy : SS y m) (hl : l.length ≤ 1048576) (hm : m.length ≤ 1048576) (H : Hp) : flatC C_R21_Same [x, y] H = some (.bool (decide (l = m)), H) := by
  obtain ⟨x1, k1, k2⟩ := SS.closed hx [] 0 4
  obtain ⟨y1, g1, g2⟩ := SS.closed hy [] 0 4
  have p1 := SS.len k2 9
  have p2 := SS.len g2 9
  refine flat2 k1 g1 (H1 := []) ?_ rfl
  rw [F_R21_Same_eq]
  unfold F_R21_Same
  by_cases hlm : l.length = m.length
  · have hne : ((l.length : Int) != (m.length : Int)) = false := by simp [hlm]
    have := same_loop k2 g2 hl hlm [] [] l.length 0 rfl (Nat.zero_le _)
    rw [show ((0 : Nat) : Int) = 0 from rfl, List.drop_zero, List.drop_zero] at this
    simp only [go_sem, p1, p2, hne, R21_Same_J1_eq, this]
  · have hne : ((l.length : Int) != (m.length : Int)) = true := by simp; omega
    have : ¬ l = m := fun e => hlm (by rw [e])
    simp only [go_sem, p1, p2, hne, decide_eq_false this]

theorem defOk : LocOk defL := ⟨by decide, by simp [defL], by simp [defL], by simp [defL], fun c hc => (by cases hc), fun c hc => (by cases hc), by simp [defL], by simp [defL]⟩
def foldP : Spec := ⟨[], -1, 4, true, false⟩
def exA : List Str := [[98], [97], [66]]
theorem ex1 : sortS defL plainP exA = [[66], [97], [98]] := by kernel_rfl
theorem ex2 : sortS defL foldP exA = [[97], [98], [66]] := by kernel_rfl
theorem ex3 : unsS defL plainP [[97], [98], [98], [97]] = 3 := by kernel_rfl
theorem ex4 : decide (([[66], [97], [98]] : List Str) = [[66], [97], [98]]) = true := rfl
theorem specP (p : Spec) (h : p.keys = []) : SpecAV (.agg (p.cells .nils)) p := ⟨.nils, rfl, .inl ⟨rfl, by rw [h]; rfl⟩⟩
theorem noKeys {p : Spec} (h : p.keys = []) : ∀ k ∈ p.keys, KeOk k := fun k hk => by rw [h] at hk; cases hk
theorem listSS (l : List Str) (t : Tok) : SS (.vs 1 t (l.map AV.str)) l := .inr ⟨t, rfl⟩
theorem awake21 (H : Hp) : flatC C_L21_awake [] H = some (.bool true, H) := by
  suffices hs : ∃ H1, C_L21_awake [] [] = some (.bool true, H1) by
    obtain ⟨H1, hr⟩ := hs
    unfold flatC
    simp only [List.mapM_nil]
    show (match C_L21_awake [] [] with | some (v, H1) => _ | none => _) = _
    rw [hr]
    rfl
  have hA : Lens exA := fun s hs => by
    simp only [exA, List.mem_cons, List.not_mem_nil, or_false] at hs
    rcases hs with rfl | rfl | rfl <;> decide
  have hB : Lens [[97], [98], [98], [97]] := fun s hs => by
    simp only [List.mem_cons, List.not_mem_nil, or_false] at hs
    rcases hs with rfl | rfl | rfl | rfl <;> decide
  obtain ⟨d, d1, d2⟩ : ∃ d, (∀ H, flatC C_R05_Default [] H = some (d, H)) ∧ LocAV d defL := by
    obtain ⟨d, d1, d2⟩ := rdefault_flat []
    refine ⟨d, fun H => ?_, d2⟩
    obtain ⟨d', d3, _⟩ := rdefault_flat H
    unfold flatC at d1 d3 ⊢
    simp only [List.mapM_nil] at d1 d3 ⊢
    revert d1 d3
    show (match C_R05_Default [] [] with | some (v, H1) => (match closeV H1 0 6 v with | some v => some (v, _) | none => none) | none => none) = _ → (match C_R05_Default [] [] with | some (v, H1) => (match closeV H1 0 6 v with | some v => some (v, _) | none => none) | none => none) = _ → (match C_R05_Default [] [] with | some (v, H1) => (match closeV H1 0 6 v with | some v => some (v, _) | none => none) | none => none) = _
    cases C_R05_Default [] [] with
    | none => intro h; cases h
    | some r =>
      obtain ⟨v, H1⟩ := r
      dsimp only
      cases closeV H1 0 6 v with
      | none => intro h; cases h
      | some w =>
        intro h1 h2
        dsimp only at h1 h2 ⊢
        injection h1 with h1
        injection h1 with h1 _
        rw [h1]
  let H2 : Hp := [AObj.cells (plainP.cells .nils), .cells (foldP.cells .nils)]
  obtain ⟨y1, s1, s2⟩ := sort_flat d2 defOk (specP plainP rfl) (noKeys rfl) (listSS exA .clip) hA (by decide) H2
  obtain ⟨y2, s3, s4⟩ := sort_flat d2 defOk (specP foldP rfl) (noKeys rfl) (listSS exA .clip) hA (by decide) H2
  have s5 := uns_flat d2 defOk (specP plainP rfl) (noKeys rfl) (listSS [[97], [98], [98], [97]] .clip) hB (by decide) H2
  rw [ex1] at s2
  rw [ex2] at s4
  rw [ex3] at s5
  have s6 := same_flat s2 (listSS [[66], [97], [98]] .clip) (by decide) (by decide) H2
  have s7 := same_flat s4 (listSS [[97], [98], [66]] .clip) (by decide) (by decide) H2
  have e7 : decide (([[97], [98], [66]] : List Str) = [[97], [98], [66]]) = true := rfl
  rw [ex4] at s6
  rw [e7] at s7
  refine ⟨H2, ?_⟩
  have b1 : (setElems 1 [(0, (.str [98])), (1, (.str [97])), (2, (.str [66]))] [(.str []), (.str []), (.str [])]).map (AV.vs 1 .clip) = some (.vs 1 .clip (exA.map AV.str)) := rfl
  have b2 : (afill [(1, 1, (.int .i64 (-1)))] [.nils, (.int .i64 0), (.int .i64 0), (.bool false), (.bool false)]).map AV.agg = some (.agg (plainP.cells .nils)) := rfl
  have b3 : (afill [(1, 1, (.int .i64 (-1))), (2, 1, (.int .i64 4)), (4, 1, (.bool true))] [.nils, (.int .i64 0), (.int .i64 0), (.bool false), (.bool false)]).map AV.agg = some (.agg (foldP.cells .nils)) := rfl
  have b4 : (setElems 1 [(0, (.str [97])), (1, (.str [98])), (2, (.str [98])), (3, (.str [97]))] [(.str []), (.str []), (.str []), (.str [])]).map (AV.vs 1 .clip) = some (.vs 1 .clip (([[97], [98], [98], [97]] : List Str).map AV.str)) := rfl
  have b5 : (setElems 1 [(0, (.str [66])), (1, (.str [97])), (2, (.str [98]))] [(.str []), (.str []), (.str [])]).map (AV.vs 1 .clip) = some (.vs 1 .clip (([[66], [97], [98]] : List Str).map AV.str)) := rfl
  have b6 : (setElems 1 [(0, (.str [97])), (1, (.str [98])), (2, (.str [66]))] [(.str []), (.str []), (.str [])]).map (AV.vs 1 .clip) = some (.vs 1 .clip (([[97], [98], [66]] : List Str).map AV.str)) := rfl
  have st1 : astoreU 5 (.ptr 0 0) (.agg (plainP.cells .nils)) [AObj.cells [.nils, (.int .i64 0), (.int .i64 0), (.bool false), (.bool false)]] = some (.tuple [], [AObj.cells (plainP.cells .nils)]) := by simp [astoreU, astore, AV.known, AV.cells, Spec.cells, splice]
  have st2 : astoreU 5 (.ptr 1 0) (.agg (foldP.cells .nils)) [AObj.cells (plainP.cells .nils), AObj.cells [.nils, (.int .i64 0), (.int .i64 0), (.bool false), (.bool false)]] = some (.tuple [], H2) := by simp [astoreU, astore, AV.known, AV.cells, Spec.cells, splice, H2]
  have l0 : aload true 5 (.ptr 0 0) H2 = some (.agg (plainP.cells .nils)) := by simp [aload, Go.Am.apart, Spec.cells, H2]
  have l1 : aload true 5 (.ptr 1 0) H2 = some (.agg (foldP.cells .nils)) := by simp [aload, Go.Am.apart, Spec.cells, H2]
  rw [F_L21_awake_eq]
  unfold F_L21_awake
  simp only [b1, b2, b3, b4, b5, b6, go_sem, List.nil_append, List.length_nil, List.length_cons, List.cons_append, Nat.zero_add, st1, st2, d1, l0, l1, s1, s3, s5, s6, s7, beq_self_eq_true]
theorem lightL_flat {a : AV} {L : Loc} (h : LocAV a L) (H : Hp) : ∃ b, flatC C_L07_Light [a] H = some (.bool b, H) := by
  obtain ⟨a1, h1, h2⟩ := h.close [] 0 2
  obtain ⟨lx, c, e, rfl, hlx, hc, he⟩ := h2
  have f1 : aload false 1 (.ptr 0 (0 + 1)) [AObj.cells (L.cells lx c e)] = some lx := aload_f1 (l := L.cells lx c e) rfl
  have f2 : aload false 1 (.ptr 0 (0 + 2)) [AObj.cells (L.cells lx c e)] = some (.str L.lo) := aload_f1 (l := L.cells lx c e) rfl
  have f3 : aload false 1 (.ptr 0 (0 + 3)) [AObj.cells (L.cells lx c e)] = some (.str L.up) := aload_f1 (l := L.cells lx c e) rfl
  have f4 : aload false 1 (.ptr 0 (0 + 4)) [AObj.cells (L.cells lx c e)] = some c := aload_f1 (l := L.cells lx c e) rfl
  have f5 : aload false 1 (.ptr 0 (0 + 5)) [AObj.cells (L.cells lx c e)] = some e := aload_f1 (l := L.cells lx c e) rfl
  have n1 := hlx.len 3
  have n4 := hc.len 129
  have n5 := he.len 90
  rw [List.length_map] at n1 n4 n5
  suffices hs : ∃ b H1, C_L07_Light [.agg (L.cells lx c e)] [] = some (.bool b, H1) by
    obtain ⟨b, H1, hr⟩ := hs
    exact ⟨b, flat1 h1 hr rfl⟩
  rw [F_L07_Light_eq]
  unfold F_L07_Light
  simp only [go_sem, abox_agg, List.nil_append, List.length_nil, f1, n1]
  cases decide ((L.w.length : Int) ≤ 300) with
  | false => exact ⟨false, _, by simp only [go_sem]; rfl⟩
  | true =>
    simp only [go_sem, f2, alen_str]
    cases decide ((L.lo.length : Int) ≤ 300) with
    | false => exact ⟨false, _, by simp only [go_sem]; rfl⟩
    | true =>
      simp only [go_sem, f3, alen_str]
      cases decide ((L.up.length : Int) ≤ 300) with
      | false => exact ⟨false, _, by simp only [go_sem]; rfl⟩
      | true =>
        simp only [go_sem, f4, n4]
        cases decide ((L.cls.length : Int) ≤ 30) with
        | false => exact ⟨false, _, by simp only [go_sem]; rfl⟩
        | true =>
          simp only [go_sem, f5, n5]
          exact ⟨_, _, rfl⟩
theorem few_loop {x : AV} {l : List Str} (hx : SS x l) (hl : l.length ≤ 1048576) (H0 H : Hp) : ∀ (k i : Nat), l.length - i = k → i ≤ l.length →
    ∃ b, L21_few_L1 x (.int .i64 (i : Int)) H0 H = some (.bool b, H) := by
  have p3 := SS.len hx 9
  intro k
  induction k with
  | zero =>
    intro i hk hi
    have hlt : decide ((i : Int) < (l.length : Int)) = false := by simp; omega
    exact ⟨true, by rw [L21_few_L1_eq]; simp only [go_sem, p3, hlt, L21_few_J2_eq]⟩
  | succ k ih =>
    intro i hk hi
    have hlt : decide ((i : Int) < (l.length : Int)) = true := by simp; omega
    have hw : IntKind.i64.wrap ((i : Int) + 1) = ((i + 1 : Nat) : Int) := by rw [wrap64 (by omega) (by omega)]; omega
    have h1 := SS.idx hx (List.getElem?_eq_getElem (show i < l.length by omega))
    obtain ⟨b, hb⟩ := ih (i + 1) (by omega) (by omega)
    rw [L21_few_L1_eq]
    simp only [go_sem, p3, hlt, L21_few_J3_eq, h1, aload_vpc, alen_str]
    cases decide ((40 : Int) < (l[i].length : Int)) with
    | true => exact ⟨false, by simp only [go_sem]⟩
    | false => exact ⟨b, by simp only [go_sem, L21_few_J4_eq, hw, hb]⟩
theorem few_flat {a : AV} {L : Loc} (h : LocAV a L) {q : AV} {p : Spec} (hq : SpecAV q p) {x : AV} {l : List Str} (hx : SS x l) (hl : l.length ≤ 1048576) (H : Hp) : ∃ b, flatC C_L21_few [a, q, x] H = some (.bool b, H) := by
  obtain ⟨a1, h1, h2⟩ := h.close [] 0 2
  obtain ⟨q1, g1, g2⟩ := hq.close [] 0 2
  obtain ⟨x1, k1, k2⟩ := SS.closed hx [] 0 4
  have hav := h2
  obtain ⟨lx, c, e, rfl, hlx, hc, he⟩ := h2
  obtain ⟨xp, rfl, hxp⟩ := g2
  have p3 := SS.len k2 9
  have hl6 := load_loc L lx c e [.cells (p.cells xp)]
  have f0 : aload false 1 (.ptr 1 (0 + 0)) [AObj.cells (L.cells lx c e), .cells (p.cells xp)] = some xp := aload_f1 (l := p.cells xp) rfl
  have n0 := hxp.len 49
  rw [List.length_map] at n0
  obtain ⟨bl, hlight⟩ := lightL_flat hav [AObj.cells (L.cells lx c e), .cells (p.cells xp)]
  obtain ⟨bf, hfew⟩ := few_loop k2 hl [] [AObj.cells (L.cells lx c e), .cells (p.cells xp)] _ 0 rfl (Nat.zero_le _)
  rw [show ((0 : Nat) : Int) = 0 from rfl] at hfew
  suffices hs : ∃ b H1, C_L21_few [.agg (L.cells lx c e), .agg (p.cells xp), x1] [] = some (.bool b, H1) by
    obtain ⟨b, H1, hr⟩ := hs
    exact ⟨b, flat3 h1 g1 k1 hr rfl⟩
  rw [F_L21_few_eq]
  unfold F_L21_few
  simp only [go_sem, abox_agg, List.nil_append, List.length_nil, List.length_cons, List.cons_append, Nat.zero_add, p3]
  cases decide ((30 : Int) < (l.length : Int)) with
  | true => exact ⟨false, _, by simp only [go_sem]; rfl⟩
  | false =>
    simp only [go_sem, f0, n0]
    cases decide ((12 : Int) < (p.keys.length : Int)) with
    | true => exact ⟨false, _, by simp only [go_sem]; rfl⟩
    | false =>
      simp only [go_sem, hl6, hlight]
      cases bl with
      | false => exact ⟨false, _, by simp only [go_sem, Bool.not_false]; rfl⟩
      | true => exact ⟨bf, _, by simp only [go_sem, Bool.not_true, L21_few_J1_eq, hfew]; rfl⟩
theorem sortS_len (L : Loc) (p : Spec) (l : List Str) : (sortS L p l).length ≤ l.length := by
  obtain ⟨f1, f2⟩ := ins_facts L p l
  have := onceL_len (g := lineS L p) (insL (orderS L p) l) []
  unfold sortS
  split
  · exact Nat.le_refl _
  · split
    · simp at this; omega
    · omega
end Go.Am
namespace Go.Am
set_option linter.unusedSimpArgs false
set_option linter.unusedVariables false
set_option linter.unusedSectionVars false

section
variable {α : Type} {f : α → α → Int}
def Strict (f : α → α → Int) (l : List α) : Prop := l.Pairwise fun a b => f a b < 0
theorem Strict.srt {l : List α} (h : Strict f l) : Srt f l := List.Pairwise.imp (fun h => by omega) h
variable (h : Cm f)
include h
theorem eqv_trans {x y z : α} (h1 : eqv f x y = true) (h2 : eqv f y z = true) : eqv f x z = true := by
  rw [h.eqv_iff] at *
  have a := h.tr x y z (by omega) (by omega)
  have b := h.tr2 x y z (by omega) (by omega)
  omega
theorem eqv_symm {x y : α} (h1 : eqv f x y = true) : eqv f y x = true := by
  rw [h.eqv_iff] at *
  have := h.sym x y
  omega
theorem sameLast_iff (out : List α) (x : α) : sameLast f out x = true ↔ ∃ y, out.getLast? = some y ∧ f y x = 0 := by
  unfold sameLast
  cases out.getLast? with
  | none => simp
  | some y => simp
theorem once_spec : ∀ (l out : List α), Strict f out → (∀ a ∈ out, ∀ b ∈ l, f a b ≤ 0) → Srt f l →
    Strict f (onceL f out l) ∧ ∀ x, (onceL f out l).filter (eqv f x) = if out.filter (eqv f x) = [] then (l.filter (eqv f x)).take 1 else out.filter (eqv f x) := by
  intro l
  induction l with
  | nil =>
    intro out hs _ _
    refine ⟨hs, fun x => ?_⟩
    show out.filter (eqv f x) = _
    split
    · rename_i h0; rw [h0]; rfl
    · rfl
  | cons a l ih =>
    intro out hs hc hl
    have hl' := List.pairwise_cons.1 hl
    unfold onceL
    cases hsl : sameLast f out a with
    | true =>
      obtain ⟨y, hy, hya⟩ := (sameLast_iff h out a).1 hsl
      have hyo : y ∈ out := List.mem_of_getLast? hy
      obtain ⟨i1, i2⟩ := ih out hs (fun b hb c hc' => hc b hb c (by simp [hc'])) hl'.2
      refine ⟨i1, fun x => ?_⟩
      rw [if_pos rfl, i2]
      split
      · rename_i h0
        have : eqv f x a = false := by
          cases hxa : eqv f x a with
          | false => rfl
          | true =>
            have hay : eqv f a y = true := eqv_symm h ((h.eqv_iff y a).2 hya)
            have := eqv_trans h hxa hay
            have hm : y ∈ out.filter (eqv f x) := List.mem_filter.2 ⟨hyo, this⟩
            rw [h0] at hm
            cases hm
        rw [List.filter_cons, this]
        rfl
      · rfl
    | false =>
      have hout : ∀ b ∈ out, f b a < 0 := fun b hb => by
        cases hg : out.getLast? with
        | none => rw [List.getLast?_eq_none_iff.1 hg] at hb; cases hb
        | some y =>
          have hyo : y ∈ out := List.mem_of_getLast? hg
          have hya : f y a < 0 := by
            have h1 := hc y hyo a (by simp)
            have h2 : f y a ≠ 0 := fun e => by
              have := (sameLast_iff h out a).2 ⟨y, hg, e⟩
              rw [hsl] at this
              cases this
            omega
          have hby : f b y ≤ 0 := by
            obtain ⟨i, hi⟩ := List.getElem?_of_mem hb
            obtain ⟨hil, hie⟩ := List.getElem?_eq_some_iff.1 hi
            rw [List.getLast?_eq_getElem?] at hg
            obtain ⟨hjl, hje⟩ := List.getElem?_eq_some_iff.1 hg
            by_cases hij : i = out.length - 1
            · subst hij
              rw [hie] at hje
              rw [hje, h.self]; exact Int.le_refl _
            · have := List.pairwise_iff_getElem.1 hs i (out.length - 1) hil hjl (by omega)
              rw [hie, hje] at this
              omega
          exact h.le_lt hby hya
      have hs' : Strict f (out ++ [a]) := List.pairwise_append.2 ⟨hs, List.pairwise_singleton _ _, fun b hb c hc' => by rw [List.mem_singleton.1 hc']; exact hout b hb⟩
      obtain ⟨i1, i2⟩ := ih (out ++ [a]) hs' (fun b hb c hc' => by
        rcases List.mem_append.1 hb with hb | hb
        · exact hc b hb c (by simp [hc'])
        · rw [List.mem_singleton.1 hb]; exact hl'.1 c hc') hl'.2
      refine ⟨by simpa using i1, fun x => ?_⟩
      rw [if_neg (by decide), i2, List.filter_append]
      cases hxa : eqv f x a with
      | false => simp [List.filter_cons, hxa]
      | true =>
        have h0 : out.filter (eqv f x) = [] := by
          rw [List.filter_eq_nil_iff]
          intro b hb hxb
          have h1 := hout b hb
          have h2 := eqv_trans h (eqv_symm h hxb) hxa
          rw [h.eqv_iff] at h2
          omega
        rw [h0]
        simp [List.filter_cons, hxa]
end
def timesS (l : List Str) (s : Str) : Nat := (l.filter (· == s)).length
section
variable {L : Loc} {p : Spec} (hv : checkS p = 0)
include hv
theorem valid_self : validP p = p := by
  unfold validP
  rw [if_neg (by simp [hv])]
theorem sort_valid (l : List Str) : sortS L p l = if p.uniq then onceL (orderS L p) [] (insL (orderS L p) l) else insL (orderS L p) l := by
  unfold sortS
  rw [if_neg (by simp [hv])]
  cases hu : p.uniq with
  | false => rfl
  | true =>
    have : lineS L p = orderS L p := funext fun a => funext fun b => (orderS_sure (by rw [valid_self hv, hu, Bool.or_true]) a b).symm
    rw [this]
theorem sort_srt (l : List Str) : Srt (orderS L p) (sortS L p l) ∧ (p.uniq = true → Strict (orderS L p) (sortS L p l)) ∧ ∀ x, (sortS L p l).filter (eqv (orderS L p) x) = if p.uniq then (l.filter (eqv (orderS L p) x)).take 1 else l.filter (eqv (orderS L p) x) := by
  have hc := orderS_cm L p
  obtain ⟨b1, b2⟩ := fold_ins hc l [] List.Pairwise.nil
  have b2' : ∀ x, (insL (orderS L p) l).filter (eqv (orderS L p) x) = l.filter (eqv (orderS L p) x) := fun x => by
    rw [show insL (orderS L p) l = l.foldl (insB (orderS L p)) [] from rfl, b2]; rfl
  rw [sort_valid hv]
  cases hu : p.uniq with
  | false => exact ⟨b1, fun h => (by cases h), b2'⟩
  | true =>
    obtain ⟨c1, c2⟩ := once_spec hc (insL (orderS L p) l) [] List.Pairwise.nil (fun a ha => by cases ha) b1
    refine ⟨c1.srt, fun _ => c1, fun x => ?_⟩
    rw [if_pos rfl, if_pos rfl, c2]
    show (if ([] : List Str) = [] then _ else _) = _
    rw [if_pos rfl, b2']
end
end Go.Am
namespace Go.Am
set_option linter.unusedSimpArgs false
set_option linter.unusedVariables false
set_option linter.unusedSectionVars false
set_option maxRecDepth 100000

theorem times_loop {x : AV} {l : List Str} (hx : SS x l) (hl : l.length ≤ 1048576) (s : Str) (H0 H : Hp) : ∀ (r done : List Str) (n : Nat), l = done ++ r → n ≤ done.length →
    L21_times_L1 x (.str s) (.int .i64 (n : Int)) (.int .i64 (done.length : Int)) H0 H = some (.int .i64 ((n + timesS r s : Nat) : Int), H) := by
  have p3 := SS.len hx 9
  intro r
  induction r with
  | nil =>
    intro done n hd hn
    rw [List.append_nil] at hd
    subst hd
    have hlt : decide ((l.length : Int) < (l.length : Int)) = false := by simp
    rw [L21_times_L1_eq]
    simp only [go_sem, p3, hlt, L21_times_J1_eq]
    rfl
  | cons a r ih =>
    intro done n hd hn
    have hlen : l.length = done.length + (r.length + 1) := by rw [hd]; simp
    have hlt : decide ((done.length : Int) < (l.length : Int)) = true := by simp; omega
    have hw1 : IntKind.i64.wrap ((done.length : Int) + 1) = ((done.length + 1 : Nat) : Int) := by rw [wrap64 (by omega) (by omega)]; omega
    have hw2 : IntKind.i64.wrap ((n : Int) + 1) = ((n + 1 : Nat) : Int) := by rw [wrap64 (by omega) (by omega)]; omega
    have hi := SS.idx hx (i := done.length) (s := a) (by rw [hd, List.getElem?_append_right (Nat.le_refl _)]; simp)
    have hsb : sbin .eql (.str a) (.str s) = some (.bool (a == s)) := rfl
    rw [L21_times_L1_eq]
    cases he : (a == s) with
    | true =>
      have := ih (done ++ [a]) (n + 1) (by rw [hd]; simp) (by simp; omega)
      rw [List.length_append, List.length_singleton] at this
      have e2 : timesS (a :: r) s = timesS r s + 1 := by simp [timesS, List.filter_cons, he]
      simp only [go_sem, p3, hlt, L21_times_J2_eq, hi, aload_vpc, hsb, he, hw2, L21_times_J3_eq, hw1, this, e2]
      rw [show n + 1 + timesS r s = n + (timesS r s + 1) by omega]
    | false =>
      have := ih (done ++ [a]) n (by rw [hd]; simp) (by simp; omega)
      rw [List.length_append, List.length_singleton] at this
      have e2 : timesS (a :: r) s = timesS r s := by simp [timesS, List.filter_cons, he]
      simp only [go_sem, p3, hlt, L21_times_J2_eq, hi, aload_vpc, hsb, he, L21_times_J3_eq, hw1, this, e2]
theorem times_flat {x : AV} {l : List Str} (hx : SS x l) (hl : l.length ≤ 1048576) (s : Str) (H : Hp) : flatC C_L21_times [x, .str s] H = some (.int .i64 (timesS l s : Int), H) := by
  obtain ⟨x1, k1, k2⟩ := SS.closed hx [] 0 4
  have := times_loop k2 hl s [] [] l [] 0 rfl (Nat.le_refl _)
  rw [List.length_nil, show ((0 : Nat) : Int) = 0 from rfl, Nat.zero_add] at this
  refine flat2 k1 (b' := .str s) rfl (H1 := []) ?_ rfl
  rw [F_L21_times_eq]
  exact this
section
variable {L : Loc} {lx c e : AV} (hav : LocAV (.agg (L.cells lx c e)) L) (hok : LocOk L) {p : Spec} {xp : AV} (hsp : SpecAV (.agg (p.cells xp)) p) (hks : ∀ k ∈ p.keys, KeOk k)
include hav hok hsp hks
section
variable {x2 x7 : AV} {l : List Str} (h2 : SS x2 l) {line : Str} (hline : line.length ≤ 1048576) {i9 : Nat} (hix : aindexS 1 x2 (.int .i64 (i9 : Int)) = some (.vp [.str line]))
include hline hix

omit hix in
end
end
end Go.Am
namespace Go.Am
set_option linter.unusedSimpArgs false
set_option linter.unusedVariables false
set_option linter.unusedSectionVars false
set_option maxRecDepth 100000

theorem less_cmp : ∀ a b : List UInt8, Op.bytesLess a b = decide (cmpB a b < 0) := by
  intro a
  induction a with
  | nil => intro b; cases b <;> simp [Op.bytesLess, cmpB]
  | cons x a ih =>
    intro b
    cases b with
    | nil => simp [Op.bytesLess, cmpB]
    | cons y b =>
      simp only [Op.bytesLess, cmpB, ih b]
      by_cases h : x = y
      · subst h; simp
      · by_cases hl : x < y <;> simp [h, hl]
theorem gtr_false {a b : List UInt8} (h : cmpB a b ≤ 0) : (!(Op.bytesLess a b || a == b)) = false := by
  rw [less_cmp]
  by_cases h0 : cmpB a b = 0
  · rw [cmpB_zero a b h0]; simp
  · have : cmpB a b < 0 := by omega
    simp [this]
def bytesP (u : Bool) : Spec := ⟨[], -1, 0, false, u⟩
theorem bytesP_ok (u : Bool) : checkS (bytesP u) = 0 := by cases u <;> rfl
theorem defL_valid : validL defL = defL := by
  have : lcheckS defL = 0 := by kernel_rfl
  unfold validL
  rw [this]
  rfl
theorem wOf_def (b : UInt8) : wOf defL b = (b.toNat : Int) := by
  have := b.toNat_lt
  unfold wOf
  rw [List.getD_eq_getElem?_getD]
  simp [defL, this]
theorem wS_def : ∀ s : List UInt8, wS defL s = natS s := by
  intro s
  induction s with
  | nil => rfl
  | cons b s ih =>
    cases s with
    | nil => show [wOf defL b] = _; rw [wOf_def]; rfl
    | cons c r =>
      rw [wS_two, show defL.els.find? (matchE (b :: c :: r)) = none from rfl]
      show wOf defL b :: wS defL (c :: r) = _
      rw [ih, wOf_def]; rfl
theorem cmpS_def (a b : List UInt8) : cmpS defL a b = cmpB a b := by
  unfold cmpS
  rw [defL_valid, wS_def, wS_def, show ordS (natS a) (natS b) = cmpB a b from cmpB_ord a b]
  split <;> rfl
theorem line_def (u : Bool) (a b : List UInt8) : lineS defL (bytesP u) a b = cmpB a b := by
  unfold lineS
  rw [valid_self (bytesP_ok u)]
  have : lineV defL (bytesP u) a b = cmpS defL a b := by simp [lineV, bytesP, partsS, partsC, shapeS]
  rw [this, cmpS_def]
theorem order_def (u : Bool) (a b : List UInt8) : orderS defL (bytesP u) a b = cmpB a b := by
  unfold orderS
  rw [valid_self (bytesP_ok u), line_def]
  split
  · rfl
  · have : (bytesP u).flags.toNat.testBit 1 = false := by simp [bytesP]
    rw [this, if_neg (by decide), cmpS_def]
theorem rdefault_all : ∃ d, (∀ H, flatC C_R05_Default [] H = some (d, H)) ∧ LocAV d defL := by
  obtain ⟨d, d1, d2⟩ := rdefault_flat []
  refine ⟨d, fun H => ?_, d2⟩
  unfold flatC at d1 ⊢
  simp only [List.mapM_nil] at d1 ⊢
  revert d1
  show (match C_R05_Default [] [] with | some (v, H1) => (match closeV H1 0 6 v with | some v => some (v, _) | none => none) | none => none) = _ → (match C_R05_Default [] [] with | some (v, H1) => (match closeV H1 0 6 v with | some v => some (v, _) | none => none) | none => none) = _
  cases C_R05_Default [] [] with
  | none => intro h; cases h
  | some r =>
    obtain ⟨v, H1⟩ := r
    dsimp only
    cases closeV H1 0 6 v with
    | none => intro h; cases h
    | some w =>
      intro h1
      dsimp only at h1 ⊢
      injection h1 with h1
      injection h1 with h1 _
      rw [h1]
theorem bytes_walk2 {x0 x6 : AV} {u : Bool} {l out : List Str} (h0 : SS x0 l) (h6 : SS x6 out) (hll : l.length ≤ 1048576) (hol : out.length ≤ 1048576) (ht : ∀ s ∈ l, timesS out s ≠ 0) (hlen : u = false → out.length = l.length) (H : Hp) : ∀ (k i : Nat), l.length - i = k → i ≤ l.length →
    L21_MemsortBytes_L1 x0 (.bool u) x6 (.int .i64 (i : Int)) [] H = some (.bool true, H) := by
  have p3 := SS.len h0 9
  have p6 := SS.len h6 9
  intro k
  induction k with
  | zero =>
    intro i hk hi
    have hlt : decide ((i : Int) < (l.length : Int)) = false := by simp; omega
    rw [L21_MemsortBytes_L1_eq]
    cases u with
    | true => simp only [go_sem, p3, hlt, L21_MemsortBytes_J3_eq, awake21]
    | false =>
      rw [hlen rfl] at p6
      simp only [go_sem, p3, p6, hlt, L21_MemsortBytes_J3_eq, beq_self_eq_true, awake21]
  | succ k ih =>
    intro i hk hi
    have hlt : decide ((i : Int) < (l.length : Int)) = true := by simp; omega
    have hw1 : IntKind.i64.wrap ((i : Int) + 1) = ((i + 1 : Nat) : Int) := by rw [wrap64 (by omega) (by omega)]; omega
    have hix := SS.idx h0 (List.getElem?_eq_getElem (show i < l.length by omega))
    have ht1 := times_flat h6 hol l[i] H
    have hz : ((timesS out l[i] : Int) == 0) = false := by
      have := ht l[i] (List.getElem_mem _)
      rw [beq_eq_false_iff_ne]; omega
    rw [L21_MemsortBytes_L1_eq]
    simp only [go_sem, p3, hlt, L21_MemsortBytes_J4_eq, hix, aload_vpc, ht1, hz, L21_MemsortBytes_J5_eq, hw1]
    exact ih (i + 1) (by omega) (by omega)
theorem bytes_walk1 {x0 x6 : AV} {u : Bool} {out : List Str} (h6 : SS x6 out) (hol : out.length ≤ 1048576) (hs : Srt cmpB out) (hst : u = true → Strict cmpB out) (H : Hp) : ∀ (k i : Nat), out.length - i = k → 1 ≤ i → i ≤ out.length + 1 →
    L21_MemsortBytes_L2 x0 (.bool u) x6 (.int .i64 (i : Int)) [] H = L21_MemsortBytes_J2 x0 (.bool u) x6 [] H := by
  have p6 := SS.len h6 9
  intro k
  induction k with
  | zero =>
    intro i hk h1 h2
    have hlt : decide ((i : Int) < (out.length : Int)) = false := by simp; omega
    rw [L21_MemsortBytes_L2_eq]
    simp only [go_sem, p6, hlt]
  | succ k ih =>
    intro i hk h1 h2
    have hlt : decide ((i : Int) < (out.length : Int)) = true := by simp; omega
    have hw1 : IntKind.i64.wrap ((i : Int) + 1) = ((i + 1 : Nat) : Int) := by rw [wrap64 (by omega) (by omega)]; omega
    have hwm : IntKind.i64.wrap ((i : Int) - 1) = ((i - 1 : Nat) : Int) := by rw [wrap64 (by omega) (by omega)]; omega
    have ha := SS.idx h6 (List.getElem?_eq_getElem (show i - 1 < out.length by omega))
    have hb := SS.idx h6 (List.getElem?_eq_getElem (show i < out.length by omega))
    have hle := List.pairwise_iff_getElem.1 hs (i - 1) i (by omega) (by omega) (by omega)
    have hg : sbin .gtr (.str out[i - 1]) (.str out[i]) = some (.bool (!(Op.bytesLess out[i - 1] out[i] || out[i - 1] == out[i]))) := rfl
    have he : sbin .eql (.str out[i - 1]) (.str out[i]) = some (.bool (out[i - 1] == out[i])) := rfl
    rw [gtr_false hle] at hg
    rw [L21_MemsortBytes_L2_eq]
    cases u with
    | false =>
      simp only [go_sem, p6, hlt, L21_MemsortBytes_J6_eq, hwm, ha, hb, aload_vpc, hg, L21_MemsortBytes_J7_eq, hw1]
      exact ih (i + 1) (by omega) (by omega) (by omega)
    | true =>
      have hlt2 := List.pairwise_iff_getElem.1 (hst rfl) (i - 1) i (by omega) (by omega) (by omega)
      have hne : (out[i - 1] == out[i]) = false := by
        rw [beq_eq_false_iff_ne]
        intro e
        rw [e, cmpB_cm.self] at hlt2
        omega
      simp only [go_sem, p6, hlt, L21_MemsortBytes_J6_eq, hwm, ha, hb, aload_vpc, hg, he, hne, L21_MemsortBytes_J7_eq, hw1]
      exact ih (i + 1) (by omega) (by omega) (by omega)
theorem Bytes_law {x : AV} {l : List Str} (hx : SS x l) (hL : Lens l) (hl : l.length ≤ 1048576) (u : Bool) :
    ∃ H', C_L21_MemsortBytes [x, .bool u] [] = some (.bool true, H') := by
  obtain ⟨d, d1, d2⟩ := rdefault_all
  have hsp := specP (bytesP u) rfl
  have hks := noKeys (p := bytesP u) rfl
  have b1 : (afill [(1, 1, (.int .i64 (-1))), (3, 1, .bool u)] [.nils, (.int .i64 0), (.int .i64 0), (.bool false), (.bool false)]).map AV.agg = some (.agg ((bytesP u).cells .nils)) := rfl
  have st1 : astoreU 5 (.ptr 0 0) (.agg ((bytesP u).cells .nils)) [AObj.cells [.nils, (.int .i64 0), (.int .i64 0), (.bool false), (.bool false)]] = some (.tuple [], [AObj.cells ((bytesP u).cells .nils)]) := by simp [astoreU, astore, AV.known, AV.cells, Spec.cells, splice]
  have l0 : aload true 5 (.ptr 0 0) [AObj.cells ((bytesP u).cells .nils)] = some (.agg ((bytesP u).cells .nils)) := by simp [aload, Go.Am.apart, Spec.cells]
  obtain ⟨b, hb⟩ := few_flat d2 hsp hx hl [AObj.cells ((bytesP u).cells .nils)]
  obtain ⟨y1, s1, s2⟩ := sort_flat d2 defOk hsp hks hx hL hl [AObj.cells ((bytesP u).cells .nils)]
  have hln := sortS_len defL (bytesP u) l
  obtain ⟨f1, f2, f3⟩ := sort_srt (L := defL) (bytesP_ok u) l
  have hof : orderS defL (bytesP u) = cmpB := funext fun a => funext fun b => order_def u a b
  rw [hof] at f1 f2 f3
  have ht : ∀ s ∈ l, timesS (sortS defL (bytesP u) l) s ≠ 0 := fun s hs => by
    have hm : s ∈ l.filter (eqv cmpB s) := List.mem_filter.2 ⟨hs, by rw [cmpB_cm.eqv_iff]; exact cmpB_cm.self s⟩
    have hne : (sortS defL (bytesP u) l).filter (eqv cmpB s) ≠ [] := by
      rw [f3]
      split
      · intro e
        have := congrArg List.length e
        rw [List.length_take, List.length_nil] at this
        have := List.length_pos_iff.2 (List.ne_nil_of_mem hm)
        omega
      · exact List.ne_nil_of_mem hm
    obtain ⟨y, hy⟩ := List.exists_mem_of_ne_nil _ hne
    obtain ⟨hy1, hy2⟩ := List.mem_filter.1 hy
    rw [cmpB_cm.eqv_iff] at hy2
    have : s = y := cmpB_zero s y hy2
    subst this
    have : s ∈ (sortS defL (bytesP u) l).filter (· == s) := List.mem_filter.2 ⟨hy1, by simp⟩
    have := List.length_pos_iff.2 (List.ne_nil_of_mem this)
    unfold timesS
    omega
  have hlen : u = false → (sortS defL (bytesP u) l).length = l.length := fun hu => by
    rw [sort_valid (bytesP_ok u)]
    subst hu
    exact (ins_facts defL (bytesP false) l).1
  have w1 := bytes_walk1 (x0 := x) (u := u) s2 (by omega) f1 f2 [AObj.cells ((bytesP u).cells .nils)] _ 1 rfl (Nat.le_refl _) (by omega)
  rw [show ((1 : Nat) : Int) = 1 from rfl] at w1
  have w2 := bytes_walk2 hx s2 hl (by omega) ht hlen [AObj.cells ((bytesP u).cells .nils)] _ 0 rfl (Nat.zero_le _)
  rw [show ((0 : Nat) : Int) = 0 from rfl] at w2
  refine ⟨[AObj.cells ((bytesP u).cells .nils)], ?_⟩
  rw [F_L21_MemsortBytes_eq]
  unfold F_L21_MemsortBytes
  simp only [b1, go_sem, List.nil_append, List.length_nil, st1, d1, l0, hb]
  cases b with
  | false => simp only [Bool.not_false, go_sem, awake21]
  | true => simp only [Bool.not_true, go_sem, L21_MemsortBytes_J1_eq, d1, l0, s1, w1, L21_MemsortBytes_J2_eq, w2]
end Go.Am
