/-
  Sort and Unsorted, both ways.
-/
import Derived.Test.YtomfadecfjephaaGreatDoorVkMbx
namespace Go.Am
set_option linter.unusedSimpArgs false
set_option linter.unusedVariables false
set_option linter.unusedSectionVars false
set_option maxRecDepth 100000

def SpecCells (l : List AV) (p : Spec) : Prop := ∃ x, l = p.cells x ∧ Sl 5 x (p.keys.map Ke.av)
theorem SpecCells.close {l : List AV} {p : Spec} (h : SpecCells l p) (H : Hp) (n f : Nat) : ∃ l', l.mapM (closeV H n (f + 3)) = some l' ∧ SpecCells l' p := by
  obtain ⟨x, rfl, hx⟩ := h
  obtain ⟨x', h1, h2⟩ := hx.close (H := H) (n := n) (f := f + 2) (fun c hc => by
    obtain ⟨k, _, rfl⟩ := List.mem_map.1 hc
    exact k.close H n f)
  refine ⟨p.cells x', ?_, x', rfl, h2⟩
  simp only [Spec.cells, List.mapM_cons, h1, List.mapM_nil]
  rfl
def ClK (g : Nat) (L : Loc) (p : Spec) (v : AV) : Prop := ∃ lc sc, v = .fn (.func g) [] [.vp lc, .vp sc] ∧ LocCells lc L ∧ SpecCells sc p
theorem closeV_fn2 (H : Hp) (n f : Nat) (g : Fn) (a b : AV) : closeV H n (f + 1) (.fn g [] [a, b]) = match closeV H n f a, closeV H n f b with
    | some a', some b' => some (.fn g [] [a', b'])
    | _, _ => none := by
  show (match ([] : List AV).mapM (closeV H n f), [a, b].mapM (closeV H n f) with
      | some a, some b => some (AV.fn g a b)
      | _, _ => none) = _
  simp only [List.mapM_nil, List.mapM_cons]
  cases closeV H n f a <;> cases closeV H n f b <;> rfl
theorem ClK.close {g : Nat} {L : Loc} {p : Spec} {v : AV} (h : ClK g L p v) : ∃ v', closeV [] 0 6 v = some v' ∧ ClK g L p v' := by
  obtain ⟨lc, sc, rfl, hl, hs⟩ := h
  obtain ⟨lc', l1, l2⟩ := hl.close [] 0 1
  obtain ⟨sc', s1, s2⟩ := hs.close [] 0 1
  refine ⟨.fn (.func g) [] [.vp lc', .vp sc'], ?_, lc', sc', rfl, l2, s2⟩
  rw [closeV_fn2, closeV_vpl, closeV_vpl, l1, s1]

theorem sort1_run (L : Loc) (hok : LocOk L) (p : Spec) (hks : ∀ k ∈ p.keys, KeOk k) : Fv (ClK 28 L p) fun a b => decide (0 < orderS L p a b) where
  close := fun v hv => ClK.close hv
  run := fun v hv a b ha hb H => by
    obtain ⟨lc, sc, rfl, hl, hs⟩ := hv
    rw [V_memsort_Sort_1]
    obtain ⟨lc', l1, l2⟩ := hl.close [] 0 2
    obtain ⟨sc', s1, s2⟩ := hs.close [] 0 2
    obtain ⟨x, c, e, rfl, hx, hc, he⟩ := l2
    obtain ⟨xs, rfl, hxs⟩ := s2
    have hcl : closeV [] 0 6 (.vp lc) = some (.vp (L.cells x c e)) := by rw [closeV_vpl, l1]
    have hcs : closeV [] 0 6 (.vp sc) = some (.vp (p.cells xs)) := by rw [closeV_vpl, s1]
    have ho := ord_flat (a := .agg (L.cells x c e)) (L := L) ⟨x, c, e, rfl, hx, hc, he⟩ hok (q := .agg (p.cells xs)) (p := p) ⟨xs, rfl, hxs⟩ hks a b ha hb []
    refine flat4 (a' := .str a) (b' := .str b) rfl rfl hcl hcs (H1 := []) ?_ rfl
    rw [F_memsort_Sort_1_eq]
    unfold F_memsort_Sort_1
    simp only [go_sem, aload_vpn 6 (L.cells x c e) rfl, aload_vpn 5 (p.cells xs) rfl, ho]

theorem sort2_run (L : Loc) (hok : LocOk L) (p : Spec) (hks : ∀ k ∈ p.keys, KeOk k) : Fv (ClK 30 L p) fun a b => lineS L p a b == 0 where
  close := fun v hv => ClK.close hv
  run := fun v hv a b ha hb H => by
    obtain ⟨lc, sc, rfl, hl, hs⟩ := hv
    rw [V_memsort_Sort_2]
    obtain ⟨lc', l1, l2⟩ := hl.close [] 0 2
    obtain ⟨sc', s1, s2⟩ := hs.close [] 0 2
    obtain ⟨x, c, e, rfl, hx, hc, he⟩ := l2
    obtain ⟨xs, rfl, hxs⟩ := s2
    have hcl : closeV [] 0 6 (.vp lc) = some (.vp (L.cells x c e)) := by rw [closeV_vpl, l1]
    have hcs : closeV [] 0 6 (.vp sc) = some (.vp (p.cells xs)) := by rw [closeV_vpl, s1]
    have ho := line_flat (a := .agg (L.cells x c e)) (L := L) ⟨x, c, e, rfl, hx, hc, he⟩ hok (q := .agg (p.cells xs)) (p := p) ⟨xs, rfl, hxs⟩ hks a b ha hb []
    refine flat4 (a' := .str a) (b' := .str b) rfl rfl hcl hcs (H1 := []) ?_ rfl
    rw [F_memsort_Sort_2_eq]
    unfold F_memsort_Sort_2
    simp only [go_sem, aload_vpn 6 (L.cells x c e) rfl, aload_vpn 5 (p.cells xs) rfl, ho]

def sortS (L : Loc) (p : Spec) (l : List Str) : List Str :=
  if (checkS p != 0) = true then l else if p.uniq then onceL (lineS L p) [] (insL (orderS L p) l) else insL (orderS L p) l
theorem ins_msort (L : Loc) (p : Spec) (l : List Str) : msortN (orderS L p) l.length l = insL (orderS L p) l := msort_ins (orderS_cm L p) l (Nat.le_refl _)
theorem ins_facts (L : Loc) (p : Spec) (l : List Str) : (insL (orderS L p) l).length = l.length ∧ ∀ s ∈ insL (orderS L p) l, s ∈ l := by
  rw [← ins_msort]
  exact msort_facts _ _
theorem flat3c {f : List AV → Hp → Res} {a a' b b' c c' v v' : AV} {H H1 : Hp} (ha : closeV [] 0 6 a = some a') (hb : closeV [] 0 6 b = some b') (hd : closeV [] 0 6 c = some c') (hc : f [a', b', c'] [] = some (v, H1)) (hv : closeV H1 0 6 v = some v') : flatC f [a, b, c] H = some (v', H) :=
  flatC_cl (args' := [a', b', c']) (by simp [ha, hb, hd]) hc hv
theorem flat4c {f : List AV → Hp → Res} {a a' b b' c c' d d' v v' : AV} {H H1 : Hp} (ha : closeV [] 0 6 a = some a') (hb : closeV [] 0 6 b = some b') (hd : closeV [] 0 6 c = some c') (he : closeV [] 0 6 d = some d') (hc : f [a', b', c', d'] [] = some (v, H1)) (hv : closeV H1 0 6 v = some v') : flatC f [a, b, c, d] H = some (v', H) :=
  flatC_cl (args' := [a', b', c', d']) (by simp [ha, hb, hd, he]) hc hv
theorem sort_flat {a : AV} {L : Loc} (h : LocAV a L) (hok : LocOk L) {q : AV} {p : Spec} (hq : SpecAV q p) (hks : ∀ k ∈ p.keys, KeOk k) {x : AV} {l : List Str} (hx : SS x l) (hL : Lens l) (hl : l.length ≤ 1048576) (H : Hp) :
    ∃ y, flatC C_memsort_Sort [a, q, x] H = some (y, H) ∧ SS y (sortS L p l) := by
  obtain ⟨a1, h1, h2⟩ := h.close [] 0 2
  obtain ⟨q1, g1, g2⟩ := hq.close [] 0 2
  obtain ⟨x1, k1, k2⟩ := SS.closed hx [] 0 4
  have hck := fun H => check_flat g2 H
  obtain ⟨lx, c, e, rfl, hlx, hc, he⟩ := h2
  obtain ⟨xp, rfl, hxp⟩ := g2
  suffices hs : ∃ y H1, C_memsort_Sort [.agg (L.cells lx c e), .agg (p.cells xp), x1] [] = some (y, H1) ∧ SS y (sortS L p l) by
    obtain ⟨y, H1, r1, r2⟩ := hs
    obtain ⟨y', r3, r4⟩ := SS.closed r2 H1 0 4
    exact ⟨y', flat3c h1 g1 k1 r1 r3, r4⟩
  have hl5 : aload true 5 (.ptr 1 0) [AObj.cells (L.cells lx c e), .cells (p.cells xp)] = some (.agg (p.cells xp)) := by simp [aload, Go.Am.apart, Spec.cells]
  rw [F_memsort_Sort_eq]
  unfold F_memsort_Sort sortS
  cases hb : (checkS p != 0) with
  | true =>
    obtain ⟨y, p1, p2⟩ := clone_flat k2 hl [AObj.cells (L.cells lx c e), .cells (p.cells xp)]
    refine ⟨y, [AObj.cells (L.cells lx c e), .cells (p.cells xp)], ?_, by rw [if_pos rfl]; exact p2⟩
    simp only [go_sem, abox_agg, List.nil_append, List.length_nil, List.length_cons, List.cons_append, Nat.zero_add, hl5, hck, hb, p1]
  | false =>
    have hfz : ∀ (k : AV → Hp → Res), frzK (.ptr 0 0) [AObj.cells (L.cells lx c e), .cells (p.cells xp)] k = k (.vp (L.cells lx c e)) [.dead, .cells (p.cells xp)] := fun k => rfl
    have hfz2 : ∀ (k : AV → Hp → Res), frzK (.ptr 1 0) [AObj.dead, .cells (p.cells xp)] k = k (.vp (p.cells xp)) [.dead, .dead] := fun k => rfl
    have hK1 : ClK 28 L p (.fn (.func 28) [] [.vp (L.cells lx c e), .vp (p.cells xp)]) := ⟨_, _, rfl, ⟨lx, c, e, rfl, hlx, hc, he⟩, ⟨xp, rfl, hxp⟩⟩
    have hK2 : ClK 30 L p (.fn (.func 30) [] [.vp (L.cells lx c e), .vp (p.cells xp)]) := ⟨_, _, rfl, ⟨lx, c, e, rfl, hlx, hc, he⟩, ⟨xp, rfl, hxp⟩⟩
    obtain ⟨y, p1, p2⟩ := msort_flat (sort1_run L hok p hks) l.length l x1 _ (Nat.le_refl _) hl hL k2 hK1 [AObj.dead, .dead]
    rw [ins_msort] at p2
    obtain ⟨f1, f2⟩ := ins_facts L p l
    have hu1 : afield 3 (.vp (p.cells xp)) = some (.vp [.bool p.uniq, .bool p.stab]) := rfl
    simp only [go_sem, abox_agg, List.nil_append, List.length_nil, List.length_cons, List.cons_append, Nat.zero_add, hl5, hck, hb, memsort_Sort_J1_eq, hfz, hfz2, p1, hu1, aload_vpc, Bool.false_eq_true, if_false]
    cases hu : p.uniq with
    | true =>
      obtain ⟨z, o1, o2⟩ := once_flat (sort2_run L hok p hks) hK2 p2 (fun s hs => hL s (f2 s hs)) (by omega) [AObj.dead, .dead]
      exact ⟨z, [.dead, .dead], by simp only [go_sem, o1, memsort_Sort_J2_eq], by simpa using o2⟩
    | false => exact ⟨y, [.dead, .dead], by simp only [go_sem, memsort_Sort_J2_eq], by simpa using p2⟩

theorem ins_loop {L : Loc} {lx c e : AV} (hav : LocAV (.agg (L.cells lx c e)) L) (hok : LocOk L) {p : Spec} {xp : AV} (hsp : SpecAV (.agg (p.cells xp)) p) (hks : ∀ k ∈ p.keys, KeOk k) {x : AV} {S : List Str} (hx : SS x S) (hS : Lens S) (hl : S.length ≤ 1048576) (y : Str) (hy : y.length ≤ 1048576) (H0 : Hp) : ∀ k : Nat, k ≤ S.length →
    R21_insert_L1 x (.str y) (.ptr 0 0) (.ptr 1 0) (.int .i64 (k : Int)) H0 [AObj.cells (L.cells lx c e), .cells (p.cells xp)] = R21_insert_J1 x (.str y) (.int .i64 ((posB (orderS L p) S y k : Nat) : Int)) H0 [AObj.cells (L.cells lx c e), .cells (p.cells xp)] := by
  have hl5 : aload true 5 (.ptr 1 0) [AObj.cells (L.cells lx c e), .cells (p.cells xp)] = some (.agg (p.cells xp)) := by simp [aload, Go.Am.apart, Spec.cells]
  have hl6 := load_loc L lx c e [.cells (p.cells xp)]
  intro k
  induction k with
  | zero =>
    intro _
    rw [R21_insert_L1_eq]
    simp only [go_sem, show decide ((0 : Int) < ((0 : Nat) : Int)) = false from rfl, posB]
  | succ k ih =>
    intro hk
    have hlt : decide ((0 : Int) < ((k + 1 : Nat) : Int)) = true := decide_eq_true (by omega)
    have hw : IntKind.i64.wrap (((k + 1 : Nat) : Int) - 1) = (k : Int) := by rw [wrap64 (by omega) (by omega)]; omega
    have hi : S[k]? = some S[k] := List.getElem?_eq_getElem (by omega)
    have hix := SS.idx hx hi
    have hcmp := rord_flat hav hok hsp hks S[k] y (hS _ (List.getElem_mem (by omega))) hy [AObj.cells (L.cells lx c e), .cells (p.cells xp)]
    rw [R21_insert_L1_eq]
    unfold posB
    rw [hi]
    simp only [go_sem, hlt, hl6, hl5, hw, hix, aload_vpc, hcmp]
    by_cases hc : 0 < orderS L p S[k] y
    · simp only [decide_eq_true hc, go_sem, R21_insert_J2_eq, hw, if_pos hc]
      exact ih (by omega)
    · simp only [decide_eq_false hc, go_sem, if_neg hc]
theorem ins_flat {a : AV} {L : Loc} (h : LocAV a L) (hok : LocOk L) {q : AV} {p : Spec} (hq : SpecAV q p) (hks : ∀ k ∈ p.keys, KeOk k) {x : AV} {S : List Str} (hx : SS x S) (hS : Lens S) (hl : S.length ≤ 1048576) (y : Str) (hy : y.length ≤ 1048576) (H : Hp) :
    ∃ z, flatC C_R21_insert [a, q, x, .str y] H = some (z, H) ∧ SS z (insB (orderS L p) S y) := by
  obtain ⟨a1, h1, h2⟩ := h.close [] 0 2
  obtain ⟨q1, g1, g2⟩ := hq.close [] 0 2
  obtain ⟨x1, k1, k2⟩ := SS.closed hx [] 0 4
  have hav := h2
  have hsp := g2
  obtain ⟨lx, c, e, rfl, hlx, hc, he⟩ := h2
  obtain ⟨xp, rfl, hxp⟩ := g2
  suffices hs : ∃ z H1, C_R21_insert [.agg (L.cells lx c e), .agg (p.cells xp), x1, .str y] [] = some (z, H1) ∧ SS z (insB (orderS L p) S y) by
    obtain ⟨z, H1, r1, r2⟩ := hs
    obtain ⟨z', r3, r4⟩ := SS.closed r2 H1 0 4
    exact ⟨z', flat4c h1 g1 k1 (d' := .str y) rfl r1 r3, r4⟩
  have hlen := SS.len k2 9
  have hloop := ins_loop hav hok hsp hks k2 hS hl y hy [] S.length (Nat.le_refl _)
  have hp := posB_le (f := orderS L p) S y S.length
  unfold insB
  generalize posB (orderS L p) S y S.length = n at hloop hp ⊢
  obtain ⟨xa, a1', a2⟩ := SS.hi k2 hp
  obtain ⟨xb, b1, b2⟩ := SS.lo k2 hp
  obtain ⟨r1, H1, s1, s2⟩ := RS.app (H := [AObj.cells (L.cells lx c e), .cells (p.cells xp)]) (x := .nils) (l := []) (RowN.nil _ _ _) a2 (by rw [List.length_take]; simp; omega)
  obtain ⟨r2, H2, s3, s4⟩ := s2.app (one_SS y) (by simp; omega)
  obtain ⟨r3, H3, s5, s6⟩ := s4.app b2 (by simp; omega)
  refine ⟨r3, H3, ?_, by
    have h7 := s6.sl
    rwa [show [] ++ S.take n ++ [y] ++ S.drop n = S.take n ++ y :: S.drop n by simp] at h7⟩
  rw [F_R21_insert_eq]
  unfold F_R21_insert
  simp only [go_sem, abox_agg, List.nil_append, List.length_nil, List.length_cons, List.cons_append, Nat.zero_add, hlen, hloop, R21_insert_J1_eq, a1', s1, one_str, s3, b1, s5]

theorem ronce_loop {L : Loc} {lx c e : AV} (hav : LocAV (.agg (L.cells lx c e)) L) (hok : LocOk L) {p : Spec} {xp : AV} (hsp : SpecAV (.agg (p.cells xp)) p) (hks : ∀ k ∈ p.keys, KeOk k) {x : AV} {l : List Str} (hx : SS x l) (hL : Lens l) (hl : l.length ≤ 1048576) (H0 : Hp) :
    ∀ (r done out : List Str) (x7 : AV) (H : Hp), H[0]? = some (.cells (L.cells lx c e)) → H[1]? = some (.cells (p.cells xp)) → 2 ≤ H.length → l = done ++ r → RowN 2 H 1 x7 (out.map AV.str) → Lens out → out.length ≤ done.length →
    ∃ y H', R21_once_L1 x (.ptr 0 0) (.ptr 1 0) x7 (.int .i64 (done.length : Int)) H0 H = some (y, H') ∧ SS y (if p.uniq then onceL (lineS L p) out r else out ++ r) := by
  intro r
  induction r with
  | nil =>
    intro done out x7 H e0 e1 hlenH hd h7 ho hod
    rw [List.append_nil] at hd
    subst hd
    have hlt : decide ((l.length : Int) < (l.length : Int)) = false := by simp
    have p3 := SS.len hx 9
    refine ⟨x7, H, ?_, ?_⟩
    · rw [R21_once_L1_eq]
      simp only [go_sem, p3, hlt, R21_once_J1_eq]
    · have := h7.sl
      split <;> simpa [onceL] using this
  | cons a r ih =>
    intro done out x7 H e0 e1 hlenH hd h7 ho hod
    have hlen : l.length = done.length + (r.length + 1) := by rw [hd]; simp
    have hlt : decide ((done.length : Int) < (l.length : Int)) = true := by simp; omega
    have hw1 : IntKind.i64.wrap ((done.length : Int) + 1) = ((done.length + 1 : Nat) : Int) := by rw [wrap64 (by omega) (by omega)]; omega
    have p3 := SS.len hx 9
    have hia : l[done.length]? = some a := by rw [hd, List.getElem?_append_right (Nat.le_refl _)]; simp
    have hi := SS.idx hx hia
    have haL : a.length ≤ 1048576 := hL a (List.mem_of_getElem? hia)
    have h7l := SS.len h7.sl 9
    have hl5 : aload true 5 (.ptr 1 0) H = some (.agg (p.cells xp)) := by rw [aload_of e1]; simp [Go.Am.apart, Spec.cells]
    have hl6 : aload true 6 (.ptr 0 0) H = some (.agg (L.cells lx c e)) := by rw [aload_of e0]; simp [Go.Am.apart, Loc.cells]
    have hu : aload false 1 (.ptr 1 (0 + 3)) H = some (.bool p.uniq) := aload_f1 (l := p.cells xp) e1
    obtain ⟨y1, H1, q1, q2, q3, q4, q5⟩ := h7.app hlenH 16 (.vs 1 .clip [.str a]) [.str a] rfl (by simp; omega)
    have q2' : RowN 2 H1 1 y1 ((out ++ [a]).map AV.str) := by simpa using q2
    have hlens' : Lens (out ++ [a]) := fun s hs => by
      rcases List.mem_append.1 hs with h | h
      · exact ho s h
      · rw [List.mem_singleton.1 h]; exact haL
    have keepit : ∀ out' x7' H', H'[0]? = some (.cells (L.cells lx c e)) → H'[1]? = some (.cells (p.cells xp)) → 2 ≤ H'.length → RowN 2 H' 1 x7' (out'.map AV.str) → Lens out' → out'.length ≤ done.length + 1 → ∃ y H'', R21_once_J3 x (.ptr 0 0) (.ptr 1 0) x7' (.int .i64 (done.length : Int)) H0 H' = some (y, H'') ∧ SS y (if p.uniq then onceL (lineS L p) out' r else out' ++ r) := fun out' x7' H' g0 g1 gl h1 h2 h3 => by
      obtain ⟨y, H'', p1, p2⟩ := ih (done ++ [a]) out' x7' H' g0 g1 gl (by rw [hd]; simp) h1 h2 (by simpa using h3)
      rw [List.length_append, List.length_singleton] at p1
      exact ⟨y, H'', by simp only [R21_once_J3_eq, go_sem, hw1, p1], p2⟩
    obtain ⟨y, H', p1, p2⟩ := keepit (out ++ [a]) y1 H1 (q5 _ _ e0) (q5 _ _ e1) q3 q2' hlens' (by simp; omega)
    rw [R21_once_L1_eq]
    cases hq : p.uniq with
    | false =>
      rw [hq] at p2 hu
      refine ⟨y, H', ?_, by simpa using p2⟩
      simp only [go_sem, p3, hlt, R21_once_J2_eq, hu, Bool.not_false, hi, aload_vpc, one_str, q1, p1]
    | true =>
      rw [hq] at p2 hu
      cases hol : out.getLast? with
      | none =>
        have : out = [] := List.getLast?_eq_none_iff.1 hol
        subst this
        refine ⟨y, H', ?_, ?_⟩
        · simp only [go_sem, p3, hlt, R21_once_J2_eq, hu, Bool.not_true, h7l, List.length_nil, show (((0 : Nat) : Int) == 0) = true from rfl, hi, aload_vpc, one_str, q1, p1]
        · unfold onceL
          rw [show sameLast (lineS L p) [] a = false from rfl]
          simpa using p2
      | some z =>
        have hne : out ≠ [] := fun e => by subst e; simp at hol
        have hpos : 0 < out.length := List.length_pos_iff.2 hne
        have hzi : out[out.length - 1]? = some z := by rw [← List.getLast?_eq_getElem?]; exact hol
        have h0 : ((out.length : Int) == 0) = false := by rw [beq_eq_false_iff_ne]; omega
        have hwm : IntKind.i64.wrap ((out.length : Int) - 1) = ((out.length - 1 : Nat) : Int) := by rw [wrap64 (by omega) (by omega)]; omega
        have hiz := SS.idx h7.sl hzi
        have hcmp := rline_flat hav hok hsp hks z a (ho z (List.mem_of_getElem? hzi)) haL H
        have hsl : sameLast (lineS L p) out a = (lineS L p z a == 0) := by unfold sameLast; rw [hol]
        unfold onceL
        rw [hsl]
        cases hg : (lineS L p z a == 0) with
        | true =>
          have hne' : (lineS L p z a != 0) = false := by rw [bne, hg]; rfl
          obtain ⟨y', H'', r1, r2⟩ := keepit out x7 H e0 e1 hlenH h7 ho (by omega)
          rw [hq] at r2
          refine ⟨y', H'', ?_, by simpa using r2⟩
          simp only [go_sem, p3, hlt, R21_once_J2_eq, hu, Bool.not_true, h7l, h0, hl6, hl5, hwm, hiz, hi, aload_vpc, hcmp, hne', r1]
        | false =>
          have hne' : (lineS L p z a != 0) = true := by rw [bne, hg]; rfl
          refine ⟨y, H', ?_, by simpa using p2⟩
          simp only [go_sem, p3, hlt, R21_once_J2_eq, hu, Bool.not_true, h7l, h0, hl6, hl5, hwm, hiz, hi, aload_vpc, hcmp, hne', one_str, q1, p1]
theorem ronce_flat {a : AV} {L : Loc} (h : LocAV a L) (hok : LocOk L) {q : AV} {p : Spec} (hq : SpecAV q p) (hks : ∀ k ∈ p.keys, KeOk k) {x : AV} {l : List Str} (hx : SS x l) (hL : Lens l) (hl : l.length ≤ 1048576) (H : Hp) :
    ∃ z, flatC C_R21_once [a, q, x] H = some (z, H) ∧ SS z (if p.uniq then onceL (lineS L p) [] l else l) := by
  obtain ⟨a1, h1, h2⟩ := h.close [] 0 2
  obtain ⟨q1, g1, g2⟩ := hq.close [] 0 2
  obtain ⟨x1, k1, k2⟩ := SS.closed hx [] 0 4
  have hav := h2
  have hsp := g2
  obtain ⟨lx, c, e, rfl, hlx, hc, he⟩ := h2
  obtain ⟨xp, rfl, hxp⟩ := g2
  obtain ⟨y, H1, r1, r2⟩ := ronce_loop hav hok hsp hks k2 hL hl [] l [] [] .nils [AObj.cells (L.cells lx c e), .cells (p.cells xp)] rfl rfl (Nat.le_refl _) rfl (RowN.nil _ _ _) (fun s hs => by cases hs) (Nat.le_refl _)
  rw [List.length_nil, show ((0 : Nat) : Int) = 0 from rfl] at r1
  obtain ⟨y', r3, r4⟩ := SS.closed r2 H1 0 4
  refine ⟨y', flat3c h1 g1 k1 ?_ r3, by simpa using r4⟩
  rw [F_R21_once_eq]
  unfold F_R21_once
  simp only [go_sem, abox_agg, List.nil_append, List.length_nil, List.length_cons, List.cons_append, Nat.zero_add, r1]
theorem insL_cons_len (f : Str → Str → Int) : ∀ (l S : List Str), (l.foldl (insB f) S).length = S.length + l.length ∧ ∀ s ∈ l.foldl (insB f) S, s ∈ S ∨ s ∈ l := by
  intro l
  induction l with
  | nil => intro S; exact ⟨rfl, fun s h => .inl h⟩
  | cons y l ih =>
    intro S
    obtain ⟨a, b⟩ := ih (insB f S y)
    have hp := posB_le (f := f) S y S.length
    have hlen : (insB f S y).length = S.length + 1 := by unfold insB; rw [List.length_append, List.length_take, List.length_cons, List.length_drop]; omega
    refine ⟨by rw [List.foldl_cons, a, hlen, List.length_cons]; omega, fun s hs => ?_⟩
    rcases b s hs with h | h
    · unfold insB at h
      rcases List.mem_append.1 h with h | h
      · exact .inl (List.mem_of_mem_take h)
      · rcases List.mem_cons.1 h with h | h
        · exact .inr (by simp [h])
        · exact .inl (List.mem_of_mem_drop h)
    · exact .inr (by simp [h])
theorem rsort_loop {L : Loc} {lx c e : AV} (hav : LocAV (.agg (L.cells lx c e)) L) (hok : LocOk L) {p : Spec} {xp : AV} (hsp : SpecAV (.agg (p.cells xp)) p) (hks : ∀ k ∈ p.keys, KeOk k) {x : AV} {l : List Str} (hx : SS x l) (hL : Lens l) (hl : l.length ≤ 1048576) (H0 : Hp) :
    ∀ (r done S : List Str) (x7 : AV), l = done ++ r → SS x7 S → Lens S → S.length = done.length →
    ∃ y H', R21_Sort_L1 x (.ptr 0 0) (.ptr 1 0) x7 (.int .i64 (done.length : Int)) H0 [AObj.cells (L.cells lx c e), .cells (p.cells xp)] = some (y, H') ∧ SS y (if p.uniq then onceL (lineS L p) [] (r.foldl (insB (orderS L p)) S) else r.foldl (insB (orderS L p)) S) := by
  have hl5 : aload true 5 (.ptr 1 0) [AObj.cells (L.cells lx c e), .cells (p.cells xp)] = some (.agg (p.cells xp)) := by simp [aload, Go.Am.apart, Spec.cells]
  have hl6 := load_loc L lx c e [.cells (p.cells xp)]
  have p3 := SS.len hx 9
  intro r
  induction r with
  | nil =>
    intro done S x7 hd h7 hS hSl
    rw [List.append_nil] at hd
    subst hd
    have hlt : decide ((l.length : Int) < (l.length : Int)) = false := by simp
    obtain ⟨z, r1, r2⟩ := ronce_flat hav hok hsp hks h7 hS (by omega) [AObj.cells (L.cells lx c e), .cells (p.cells xp)]
    refine ⟨z, [AObj.cells (L.cells lx c e), .cells (p.cells xp)], ?_, r2⟩
    rw [R21_Sort_L1_eq]
    simp only [go_sem, p3, hlt, R21_Sort_J2_eq, hl6, hl5, r1]
  | cons a r ih =>
    intro done S x7 hd h7 hS hSl
    have hlen : l.length = done.length + (r.length + 1) := by rw [hd]; simp
    have hlt : decide ((done.length : Int) < (l.length : Int)) = true := by simp; omega
    have hw1 : IntKind.i64.wrap ((done.length : Int) + 1) = ((done.length + 1 : Nat) : Int) := by rw [wrap64 (by omega) (by omega)]; omega
    have hia : l[done.length]? = some a := by rw [hd, List.getElem?_append_right (Nat.le_refl _)]; simp
    have hi := SS.idx hx hia
    have haL : a.length ≤ 1048576 := hL a (List.mem_of_getElem? hia)
    obtain ⟨z, r1, r2⟩ := ins_flat hav hok hsp hks h7 hS (by omega) a haL [AObj.cells (L.cells lx c e), .cells (p.cells xp)]
    obtain ⟨f1, f2⟩ := insL_cons_len (orderS L p) [a] S
    rw [List.foldl_cons, List.foldl_nil] at f1 f2
    obtain ⟨y, H', r3, r4⟩ := ih (done ++ [a]) (insB (orderS L p) S a) z (by rw [hd]; simp) r2 (fun s hs => by
      rcases f2 s hs with h | h
      · exact hS s h
      · rw [List.mem_singleton.1 h]; exact haL) (by rw [f1]; simp; omega)
    rw [List.length_append, List.length_singleton] at r3
    refine ⟨y, H', ?_, by rw [List.foldl_cons]; exact r4⟩
    rw [R21_Sort_L1_eq]
    simp only [go_sem, p3, hlt, R21_Sort_J3_eq, hl6, hl5, hi, aload_vpc, r1, R21_Sort_J4_eq, hw1, r3]
theorem rsort_flat {a : AV} {L : Loc} (h : LocAV a L) (hok : LocOk L) {q : AV} {p : Spec} (hq : SpecAV q p) (hks : ∀ k ∈ p.keys, KeOk k) {x : AV} {l : List Str} (hx : SS x l) (hL : Lens l) (hl : l.length ≤ 1048576) (H : Hp) :
    ∃ y, flatC C_R21_Sort [a, q, x] H = some (y, H) ∧ SS y (sortS L p l) := by
  obtain ⟨a1, h1, h2⟩ := h.close [] 0 2
  obtain ⟨q1, g1, g2⟩ := hq.close [] 0 2
  obtain ⟨x1, k1, k2⟩ := SS.closed hx [] 0 4
  have hck := fun H => rcheck_flat g2 H
  have hav := h2
  have hsp := g2
  obtain ⟨lx, c, e, rfl, hlx, hc, he⟩ := h2
  obtain ⟨xp, rfl, hxp⟩ := g2
  suffices hs : ∃ y H1, C_R21_Sort [.agg (L.cells lx c e), .agg (p.cells xp), x1] [] = some (y, H1) ∧ SS y (sortS L p l) by
    obtain ⟨y, H1, r1, r2⟩ := hs
    obtain ⟨y', r3, r4⟩ := SS.closed r2 H1 0 4
    exact ⟨y', flat3c h1 g1 k1 r1 r3, r4⟩
  have hl5 : aload true 5 (.ptr 1 0) [AObj.cells (L.cells lx c e), .cells (p.cells xp)] = some (.agg (p.cells xp)) := by simp [aload, Go.Am.apart, Spec.cells]
  rw [F_R21_Sort_eq]
  unfold F_R21_Sort sortS
  cases hb : (checkS p != 0) with
  | true =>
    obtain ⟨y, H1, p1, p2⟩ := RS.app (H := [AObj.cells (L.cells lx c e), .cells (p.cells xp)]) (x := .nils) (l := []) (RowN.nil _ _ _) k2 (by simp; omega)
    refine ⟨y, H1, ?_, by rw [if_pos rfl]; exact p2.sl⟩
    simp only [go_sem, abox_agg, List.nil_append, List.length_nil, List.length_cons, List.cons_append, Nat.zero_add, hl5, hck, hb, p1]
  | false =>
    obtain ⟨y, H1, p1, p2⟩ := rsort_loop hav hok hsp hks k2 hL hl [] l [] [] .nils rfl (.inl ⟨rfl, rfl⟩) (fun s hs => by cases hs) rfl
    rw [List.length_nil, show ((0 : Nat) : Int) = 0 from rfl] at p1
    refine ⟨y, H1, ?_, by rw [if_neg (by decide)]; exact p2⟩
    simp only [go_sem, abox_agg, List.nil_append, List.length_nil, List.length_cons, List.cons_append, Nat.zero_add, hl5, hck, hb, R21_Sort_J1_eq, p1]
end Go.Am
namespace Go.Am
set_option linter.unusedSimpArgs false
set_option linter.unusedVariables false
set_option linter.unusedSectionVars false
set_option maxRecDepth 100000

def unsR (L : Loc) (p : Spec) : Nat → Str → List Str → Int
  | _, _, [] => -1
  | i, z, a :: r => if (decide (0 < orderS L p z a) || (p.uniq && orderS L p z a == 0)) = true then i else unsR L p (i + 1) a r
def unsS (L : Loc) (p : Spec) (l : List Str) : Int :=
  if (checkS p != 0) = true then -1 else match l with
    | [] => -1
    | a :: r => unsR L p 1 a r
theorem unsR_cons (L : Loc) (p : Spec) (i : Nat) (z a : Str) (r : List Str) : unsR L p i z (a :: r) = if (decide (0 < orderS L p z a) || (p.uniq && orderS L p z a == 0)) = true then (i : Int) else unsR L p (i + 1) a r := (Eq.refl _).trans (Eq.refl _)

theorem uns_loop {L : Loc} {lx c e : AV} (hav : LocAV (.agg (L.cells lx c e)) L) (hok : LocOk L) {p : Spec} {xp : AV} (hsp : SpecAV (.agg (p.cells xp)) p) (hks : ∀ k ∈ p.keys, KeOk k) {x : AV} {l : List Str} (hx : SS x l) (hL : Lens l) (hl : l.length ≤ 1048576) (H0 : Hp) :
    ∀ (r done : List Str) (z : Str), l = done ++ z :: r →
    memsort_Unsorted_L1 x (.ptr 0 0) (.ptr 1 0) (.int .i64 ((done.length + 1 : Nat) : Int)) H0 [AObj.cells (L.cells lx c e), .cells (p.cells xp)] = some (.int .i64 (unsR L p (done.length + 1) z r), [AObj.cells (L.cells lx c e), .cells (p.cells xp)]) := by
  have hl5 : aload true 5 (.ptr 1 0) [AObj.cells (L.cells lx c e), .cells (p.cells xp)] = some (.agg (p.cells xp)) := by simp [aload, Go.Am.apart, Spec.cells]
  have hl6 := load_loc L lx c e [.cells (p.cells xp)]
  have hu : aload false 1 (.ptr 1 (0 + 3)) [AObj.cells (L.cells lx c e), .cells (p.cells xp)] = some (.bool p.uniq) := aload_f1 (l := p.cells xp) rfl
  have p3 := SS.len hx 9
  intro r
  induction r with
  | nil =>
    intro done z hd
    have hlen : l.length = done.length + 1 := by rw [hd]; simp
    have hlt : decide (((done.length + 1 : Nat) : Int) < (l.length : Int)) = false := by simp; omega
    rw [memsort_Unsorted_L1_eq]
    simp only [go_sem, p3, hlt, memsort_Unsorted_J2_eq, unsR]
  | cons a r ih =>
    intro done z hd
    have hlen : l.length = done.length + (r.length + 2) := by rw [hd]; simp
    have hlt : decide (((done.length + 1 : Nat) : Int) < (l.length : Int)) = true := by simp; omega
    have hw1 : IntKind.i64.wrap (((done.length + 1 : Nat) : Int) + 1) = ((done.length + 1 + 1 : Nat) : Int) := by rw [wrap64 (by omega) (by omega)]; omega
    have hwm : IntKind.i64.wrap (((done.length + 1 : Nat) : Int) - 1) = (done.length : Int) := by rw [wrap64 (by omega) (by omega)]; omega
    have hiz : l[done.length]? = some z := by rw [hd, List.getElem?_append_right (Nat.le_refl _)]; simp
    have hia : l[done.length + 1]? = some a := by rw [hd, List.getElem?_append_right (by omega)]; simp
    have hcmp := ord_flat hav hok hsp hks z a (hL z (List.mem_of_getElem? hiz)) (hL a (List.mem_of_getElem? hia)) [AObj.cells (L.cells lx c e), .cells (p.cells xp)]
    have h1 := SS.idx hx hiz
    have h2 := SS.idx hx hia
    have ih' := ih (done ++ [z]) a (by rw [hd]; simp)
    rw [List.length_append, List.length_singleton] at ih'
    rw [memsort_Unsorted_L1_eq, unsR_cons]
    simp only [go_sem, p3, hlt, memsort_Unsorted_J3_eq, hl6, hl5, hwm, h1, h2, aload_vpc, hcmp]
    cases hc : decide (0 < orderS L p z a) with
    | true => simp only [go_sem, Bool.true_or, if_true]
    | false =>
      simp only [go_sem, hu]
      cases hq : p.uniq with
      | false => simp only [go_sem, Bool.false_and, Bool.or_false, Bool.false_eq_true, if_false, memsort_Unsorted_J4_eq, hw1, ih']
      | true =>
        simp only [go_sem]
        cases hz : (orderS L p z a == 0) with
        | true => simp only [go_sem, Bool.true_and, Bool.or_true, if_true]
        | false => simp only [go_sem, Bool.true_and, Bool.or_false, Bool.false_eq_true, if_false, memsort_Unsorted_J4_eq, hw1, ih']
theorem uns_flat {a : AV} {L : Loc} (h : LocAV a L) (hok : LocOk L) {q : AV} {p : Spec} (hq : SpecAV q p) (hks : ∀ k ∈ p.keys, KeOk k) {x : AV} {l : List Str} (hx : SS x l) (hL : Lens l) (hl : l.length ≤ 1048576) (H : Hp) :
    flatC C_memsort_Unsorted [a, q, x] H = some (.int .i64 (unsS L p l), H) := by
  obtain ⟨a1, h1, h2⟩ := h.close [] 0 2
  obtain ⟨q1, g1, g2⟩ := hq.close [] 0 2
  obtain ⟨x1, k1, k2⟩ := SS.closed hx [] 0 4
  have hck := fun H => check_flat g2 H
  have hav := h2
  have hsp := g2
  obtain ⟨lx, c, e, rfl, hlx, hc, he⟩ := h2
  obtain ⟨xp, rfl, hxp⟩ := g2
  have hl5 : aload true 5 (.ptr 1 0) [AObj.cells (L.cells lx c e), .cells (p.cells xp)] = some (.agg (p.cells xp)) := by simp [aload, Go.Am.apart, Spec.cells]
  have p3 := SS.len k2 9
  refine flat3 h1 g1 k1 (H1 := [AObj.cells (L.cells lx c e), .cells (p.cells xp)]) ?_ rfl
  rw [F_memsort_Unsorted_eq]
  unfold F_memsort_Unsorted unsS
  cases hb : (checkS p != 0) with
  | true => simp only [go_sem, abox_agg, List.nil_append, List.length_nil, List.length_cons, List.cons_append, Nat.zero_add, hl5, hck, hb, if_true]
  | false =>
    cases l with
    | nil =>
      have hlt : decide ((1 : Int) < ((([] : List Str).length : Nat) : Int)) = false := rfl
      simp only [go_sem, abox_agg, List.nil_append, List.length_nil, List.length_cons, List.cons_append, Nat.zero_add, hl5, hck, hb, memsort_Unsorted_J1_eq, memsort_Unsorted_L1_eq, p3, show decide ((1 : Int) < ((0 : Nat) : Int)) = false from rfl, memsort_Unsorted_J2_eq, Bool.false_eq_true, if_false]
    | cons z r =>
      have := uns_loop hav hok hsp hks k2 hL hl [] r [] z rfl
      rw [List.length_nil, show ((0 + 1 : Nat) : Int) = 1 from rfl] at this
      simp only [go_sem, abox_agg, List.nil_append, List.length_nil, List.length_cons, List.cons_append, Nat.zero_add, hl5, hck, hb, memsort_Unsorted_J1_eq, Bool.false_eq_true, if_false, Nat.reduceAdd]
      exact this

theorem runs_loop {L : Loc} {lx c e : AV} (hav : LocAV (.agg (L.cells lx c e)) L) (hok : LocOk L) {p : Spec} {xp : AV} (hsp : SpecAV (.agg (p.cells xp)) p) (hks : ∀ k ∈ p.keys, KeOk k) {x : AV} {l : List Str} (hx : SS x l) (hL : Lens l) (hl : l.length ≤ 1048576) (H0 : Hp) :
    ∀ (r done : List Str) (z : Str), l = done ++ z :: r →
    R21_Unsorted_L1 x (.ptr 0 0) (.ptr 1 0) (.int .i64 ((done.length + 1 : Nat) : Int)) H0 [AObj.cells (L.cells lx c e), .cells (p.cells xp)] = some (.int .i64 (unsR L p (done.length + 1) z r), [AObj.cells (L.cells lx c e), .cells (p.cells xp)]) := by
  have hl5 : aload true 5 (.ptr 1 0) [AObj.cells (L.cells lx c e), .cells (p.cells xp)] = some (.agg (p.cells xp)) := by simp [aload, Go.Am.apart, Spec.cells]
  have hl6 := load_loc L lx c e [.cells (p.cells xp)]
  have hu : aload false 1 (.ptr 1 (0 + 3)) [AObj.cells (L.cells lx c e), .cells (p.cells xp)] = some (.bool p.uniq) := aload_f1 (l := p.cells xp) rfl
  have p3 := SS.len hx 9
  intro r
  induction r with
  | nil =>
    intro done z hd
    have hlen : l.length = done.length + 1 := by rw [hd]; simp
    have hlt : decide (((done.length + 1 : Nat) : Int) < (l.length : Int)) = false := by simp; omega
    rw [R21_Unsorted_L1_eq]
    simp only [go_sem, p3, hlt, R21_Unsorted_J2_eq, unsR]
  | cons a r ih =>
    intro done z hd
    have hlen : l.length = done.length + (r.length + 2) := by rw [hd]; simp
    have hlt : decide (((done.length + 1 : Nat) : Int) < (l.length : Int)) = true := by simp; omega
    have hw1 : IntKind.i64.wrap (((done.length + 1 : Nat) : Int) + 1) = ((done.length + 1 + 1 : Nat) : Int) := by rw [wrap64 (by omega) (by omega)]; omega
    have hwm : IntKind.i64.wrap (((done.length + 1 : Nat) : Int) - 1) = (done.length : Int) := by rw [wrap64 (by omega) (by omega)]; omega
    have hiz : l[done.length]? = some z := by rw [hd, List.getElem?_append_right (Nat.le_refl _)]; simp
    have hia : l[done.length + 1]? = some a := by rw [hd, List.getElem?_append_right (by omega)]; simp
    have hcmp := rord_flat hav hok hsp hks z a (hL z (List.mem_of_getElem? hiz)) (hL a (List.mem_of_getElem? hia)) [AObj.cells (L.cells lx c e), .cells (p.cells xp)]
    have h1 := SS.idx hx hiz
    have h2 := SS.idx hx hia
    have ih' := ih (done ++ [z]) a (by rw [hd]; simp)
    rw [List.length_append, List.length_singleton] at ih'
    rw [R21_Unsorted_L1_eq, unsR_cons]
    simp only [go_sem, p3, hlt, R21_Unsorted_J3_eq, hl6, hl5, hwm, h1, h2, aload_vpc, hcmp]
    cases hc : decide (0 < orderS L p z a) with
    | true => simp only [go_sem, Bool.true_or, if_true]
    | false =>
      simp only [go_sem, hu]
      cases hq : p.uniq with
      | false => simp only [go_sem, Bool.false_and, Bool.or_false, Bool.false_eq_true, if_false, R21_Unsorted_J4_eq, hw1, ih']
      | true =>
        simp only [go_sem]
        cases hz : (orderS L p z a == 0) with
        | true => simp only [go_sem, Bool.true_and, Bool.or_true, if_true]
        | false => simp only [go_sem, Bool.true_and, Bool.or_false, Bool.false_eq_true, if_false, R21_Unsorted_J4_eq, hw1, ih']
theorem runs_flat {a : AV} {L : Loc} (h : LocAV a L) (hok : LocOk L) {q : AV} {p : Spec} (hq : SpecAV q p) (hks : ∀ k ∈ p.keys, KeOk k) {x : AV} {l : List Str} (hx : SS x l) (hL : Lens l) (hl : l.length ≤ 1048576) (H : Hp) :
    flatC C_R21_Unsorted [a, q, x] H = some (.int .i64 (unsS L p l), H) := by
  obtain ⟨a1, h1, h2⟩ := h.close [] 0 2
  obtain ⟨q1, g1, g2⟩ := hq.close [] 0 2
  obtain ⟨x1, k1, k2⟩ := SS.closed hx [] 0 4
  have hck := fun H => rcheck_flat g2 H
  have hav := h2
  have hsp := g2
  obtain ⟨lx, c, e, rfl, hlx, hc, he⟩ := h2
  obtain ⟨xp, rfl, hxp⟩ := g2
  have hl5 : aload true 5 (.ptr 1 0) [AObj.cells (L.cells lx c e), .cells (p.cells xp)] = some (.agg (p.cells xp)) := by simp [aload, Go.Am.apart, Spec.cells]
  have p3 := SS.len k2 9
  refine flat3 h1 g1 k1 (H1 := [AObj.cells (L.cells lx c e), .cells (p.cells xp)]) ?_ rfl
  rw [F_R21_Unsorted_eq]
  unfold F_R21_Unsorted unsS
  cases hb : (checkS p != 0) with
  | true => simp only [go_sem, abox_agg, List.nil_append, List.length_nil, List.length_cons, List.cons_append, Nat.zero_add, hl5, hck, hb, if_true]
  | false =>
    cases l with
    | nil =>
      have hlt : decide ((1 : Int) < ((([] : List Str).length : Nat) : Int)) = false := rfl
      simp only [go_sem, abox_agg, List.nil_append, List.length_nil, List.length_cons, List.cons_append, Nat.zero_add, hl5, hck, hb, R21_Unsorted_J1_eq, R21_Unsorted_L1_eq, p3, show decide ((1 : Int) < ((0 : Nat) : Int)) = false from rfl, R21_Unsorted_J2_eq, Bool.false_eq_true, if_false]
    | cons z r =>
      have := runs_loop hav hok hsp hks k2 hL hl [] r [] z rfl
      rw [List.length_nil, show ((0 + 1 : Nat) : Int) = 1 from rfl] at this
      simp only [go_sem, abox_agg, List.nil_append, List.length_nil, List.length_cons, List.cons_append, Nat.zero_add, hl5, hck, hb, R21_Unsorted_J1_eq, Bool.false_eq_true, if_false, Nat.reduceAdd]
      exact this

theorem same_loop {x y : AV} {l m : List Str} (hx : SS x l) (hy : SS y m) (hl : l.length ≤ 1048576) (hlm : l.length = m.length) (H0 H : Hp) : ∀ (k i : Nat), l.length - i = k → i ≤ l.length →
    R21_Same_L1 x y (.int .i64 (i : Int)) H0 H = some (.bool (decide (l.drop i = m.drop i)), H) := by
  have p3 := SS.len hx 9
  intro k
  induction k with
  | zero =>
    intro i hk hi
    have hlt : decide ((i : Int) < (l.length : Int)) = false := by simp; omega
    have e : l.drop i = m.drop i := by rw [List.drop_eq_nil_iff.2 (by omega), List.drop_eq_nil_iff.2 (by omega)]
    rw [R21_Same_L1_eq]
    simp only [go_sem, p3, hlt, R21_Same_J2_eq, decide_eq_true e]
  | succ k ih =>
    intro i hk hi
    have hlt : decide ((i : Int) < (l.length : Int)) = true := by simp; omega
    have hw : IntKind.i64.wrap ((i : Int) + 1) = ((i + 1 : Nat) : Int) := by rw [wrap64 (by omega) (by omega)]; omega
    have h1 := SS.idx hx (List.getElem?_eq_getElem (show i < l.length by omega))
    have h2 := SS.idx hy (List.getElem?_eq_getElem (show i < m.length by omega))
    have hsb : sbin .neq (.str l[i]) (.str m[i]) = some (.bool (l[i] != m[i])) := rfl
    rw [R21_Same_L1_eq, List.drop_eq_getElem_cons (show i < l.length by omega), List.drop_eq_getElem_cons (show i < m.length by omega)]
    simp only [go_sem, p3, hlt, R21_Same_J3_eq, h1, h2, aload_vpc, hsb]
    by_cases he : l[i] = m[i]
    · have : (l[i] != m[i]) = false := by simp [he]
      simp only [this, go_sem, R21_Same_J4_eq, hw]
      rw [ih (i + 1) (by omega) (by omega)]
      have e : decide (l[i] :: l.drop (i + 1) = m[i] :: m.drop (i + 1)) = decide (l.drop (i + 1) = m.drop (i + 1)) := by
        rw [decide_eq_decide, List.cons.injEq]
        exact ⟨fun h => h.2, fun h => ⟨he, h⟩⟩
      rw [e]
    · have : (l[i] != m[i]) = true := by simp [he]
      have e : decide (l[i] :: l.drop (i + 1) = m[i] :: m.drop (i + 1)) = false := by
        rw [decide_eq_false_iff_not, List.cons.injEq]
        exact fun h => he h.1
      simp only [this, go_sem, e]
theorem same_flat {x y : AV} {l m : List Str} (hx : SS x l) (hy : SS y m) (hl : l.length ≤ 1048576) (hm : m.length ≤ 1048576) (H : Hp) : flatC C_R21_Same [x, y] H = some (.bool (decide (l = m)), H) := by
  obtain ⟨x1, k1, k2⟩ := SS.closed hx [] 0 4
  obtain ⟨y1, g1, g2⟩ := SS.closed hy [] 0 4
  have p1 := SS.len k2 9
  have p2 := SS.len g2 9
  refine flat2 k1 g1 (H1 := []) ?_ rfl
  rw [F_R21_Same_eq]
  unfold F_R21_Same
  by_cases hlm : l.length = m.length
  · have hne : ((l.length : Int) != (m.length : Int)) = false := by simp [hlm]
    have := same_loop k2 g2 hl hlm [] [] l.length 0 rfl (Nat.zero_le _)
    rw [show ((0 : Nat) : Int) = 0 from rfl, List.drop_zero, List.drop_zero] at this
    simp only [go_sem, p1, p2, hne, R21_Same_J1_eq, this]
  · have hne : ((l.length : Int) != (m.length : Int)) = true := by simp; omega
    have : ¬ l = m := fun e => hlm (by rw [e])
    simp only [go_sem, p1, p2, hne, decide_eq_false this]

theorem defOk : LocOk defL := ⟨by decide, by simp [defL], by simp [defL], by simp [defL], fun c hc => (by cases hc), fun c hc => (by cases hc), by simp [defL], by simp [defL]⟩
def foldP : Spec := ⟨[], -1, 4, true, false⟩
def exA : List Str := [[98], [97], [66]]
theorem ex1 : sortS defL plainP exA = [[66], [97], [98]] := by kernel_rfl
theorem ex2 : sortS defL foldP exA = [[97], [98], [66]] := by kernel_rfl
theorem ex3 : unsS defL plainP [[97], [98], [98], [97]] = 3 := by kernel_rfl
theorem ex4 : decide (([[66], [97], [98]] : List Str) = [[66], [97], [98]]) = true := rfl
theorem specP (p : Spec) (h : p.keys = []) : SpecAV (.agg (p.cells .nils)) p := ⟨.nils, rfl, .inl ⟨rfl, by rw [h]; rfl⟩⟩
theorem noKeys {p : Spec} (h : p.keys = []) : ∀ k ∈ p.keys, KeOk k := fun k hk => by rw [h] at hk; cases hk
theorem listSS (l : List Str) (t : Tok) : SS (.vs 1 t (l.map AV.str)) l := .inr ⟨t, rfl⟩
theorem awake21 (H : Hp) : flatC C_L21_awake [] H = some (.bool true, H) := by
  suffices hs : ∃ H1, C_L21_awake [] [] = some (.bool true, H1) by
    obtain ⟨H1, hr⟩ := hs
    unfold flatC
    simp only [List.mapM_nil]
    show (match C_L21_awake [] [] with | some (v, H1) => _ | none => _) = _
    rw [hr]
    rfl
  have hA : Lens exA := fun s hs => by
    simp only [exA, List.mem_cons, List.not_mem_nil, or_false] at hs
    rcases hs with rfl | rfl | rfl <;> decide
  have hB : Lens [[97], [98], [98], [97]] := fun s hs => by
    simp only [List.mem_cons, List.not_mem_nil, or_false] at hs
    rcases hs with rfl | rfl | rfl | rfl <;> decide
  obtain ⟨d, d1, d2⟩ : ∃ d, (∀ H, flatC C_R05_Default [] H = some (d, H)) ∧ LocAV d defL := by
    obtain ⟨d, d1, d2⟩ := rdefault_flat []
    refine ⟨d, fun H => ?_, d2⟩
    obtain ⟨d', d3, _⟩ := rdefault_flat H
    unfold flatC at d1 d3 ⊢
    simp only [List.mapM_nil] at d1 d3 ⊢
    revert d1 d3
    show (match C_R05_Default [] [] with | some (v, H1) => (match closeV H1 0 6 v with | some v => some (v, _) | none => none) | none => none) = _ → (match C_R05_Default [] [] with | some (v, H1) => (match closeV H1 0 6 v with | some v => some (v, _) | none => none) | none => none) = _ → (match C_R05_Default [] [] with | some (v, H1) => (match closeV H1 0 6 v with | some v => some (v, _) | none => none) | none => none) = _
    cases C_R05_Default [] [] with
    | none => intro h; cases h
    | some r =>
      obtain ⟨v, H1⟩ := r
      dsimp only
      cases closeV H1 0 6 v with
      | none => intro h; cases h
      | some w =>
        intro h1 h2
        dsimp only at h1 h2 ⊢
        injection h1 with h1
        injection h1 with h1 _
        rw [h1]
  let H2 : Hp := [AObj.cells (plainP.cells .nils), .cells (foldP.cells .nils)]
  obtain ⟨y1, s1, s2⟩ := sort_flat d2 defOk (specP plainP rfl) (noKeys rfl) (listSS exA .clip) hA (by decide) H2
  obtain ⟨y2, s3, s4⟩ := sort_flat d2 defOk (specP foldP rfl) (noKeys rfl) (listSS exA .clip) hA (by decide) H2
  have s5 := uns_flat d2 defOk (specP plainP rfl) (noKeys rfl) (listSS [[97], [98], [98], [97]] .clip) hB (by decide) H2
  rw [ex1] at s2
  rw [ex2] at s4
  rw [ex3] at s5
  have s6 := same_flat s2 (listSS [[66], [97], [98]] .clip) (by decide) (by decide) H2
  have s7 := same_flat s4 (listSS [[97], [98], [66]] .clip) (by decide) (by decide) H2
  have e7 : decide (([[97], [98], [66]] : List Str) = [[97], [98], [66]]) = true := rfl
  rw [ex4] at s6
  rw [e7] at s7
  refine ⟨H2, ?_⟩
  have b1 : (setElems 1 [(0, (.str [98])), (1, (.str [97])), (2, (.str [66]))] [(.str []), (.str []), (.str [])]).map (AV.vs 1 .clip) = some (.vs 1 .clip (exA.map AV.str)) := rfl
  have b2 : (afill [(1, 1, (.int .i64 (-1)))] [.nils, (.int .i64 0), (.int .i64 0), (.bool false), (.bool false)]).map AV.agg = some (.agg (plainP.cells .nils)) := rfl
  have b3 : (afill [(1, 1, (.int .i64 (-1))), (2, 1, (.int .i64 4)), (4, 1, (.bool true))] [.nils, (.int .i64 0), (.int .i64 0), (.bool false), (.bool false)]).map AV.agg = some (.agg (foldP.cells .nils)) := rfl
  have b4 : (setElems 1 [(0, (.str [97])), (1, (.str [98])), (2, (.str [98])), (3, (.str [97]))] [(.str []), (.str []), (.str []), (.str [])]).map (AV.vs 1 .clip) = some (.vs 1 .clip (([[97], [98], [98], [97]] : List Str).map AV.str)) := rfl
  have b5 : (setElems 1 [(0, (.str [66])), (1, (.str [97])), (2, (.str [98]))] [(.str []), (.str []), (.str [])]).map (AV.vs 1 .clip) = some (.vs 1 .clip (([[66], [97], [98]] : List Str).map AV.str)) := rfl
  have b6 : (setElems 1 [(0, (.str [97])), (1, (.str [98])), (2, (.str [66]))] [(.str []), (.str []), (.str [])]).map (AV.vs 1 .clip) = some (.vs 1 .clip (([[97], [98], [66]] : List Str).map AV.str)) := rfl
  have st1 : astoreU 5 (.ptr 0 0) (.agg (plainP.cells .nils)) [AObj.cells [.nils, (.int .i64 0), (.int .i64 0), (.bool false), (.bool false)]] = some (.tuple [], [AObj.cells (plainP.cells .nils)]) := by simp [astoreU, astore, AV.known, AV.cells, Spec.cells, splice]
  have st2 : astoreU 5 (.ptr 1 0) (.agg (foldP.cells .nils)) [AObj.cells (plainP.cells .nils), AObj.cells [.nils, (.int .i64 0), (.int .i64 0), (.bool false), (.bool false)]] = some (.tuple [], H2) := by simp [astoreU, astore, AV.known, AV.cells, Spec.cells, splice, H2]
  have l0 : aload true 5 (.ptr 0 0) H2 = some (.agg (plainP.cells .nils)) := by simp [aload, Go.Am.apart, Spec.cells, H2]
  have l1 : aload true 5 (.ptr 1 0) H2 = some (.agg (foldP.cells .nils)) := by simp [aload, Go.Am.apart, Spec.cells, H2]
  rw [F_L21_awake_eq]
  unfold F_L21_awake
  simp only [b1, b2, b3, b4, b5, b6, go_sem, List.nil_append, List.length_nil, List.length_cons, List.cons_append, Nat.zero_add, st1, st2, d1, l0, l1, s1, s3, s5, s6, s7, beq_self_eq_true]
theorem lightL_flat {a : AV} {L : Loc} (h : LocAV a L) (H : Hp) : ∃ b, flatC C_L07_Light [a] H = some (.bool b, H) := by
  obtain ⟨a1, h1, h2⟩ := h.close [] 0 2
  obtain ⟨lx, c, e, rfl, hlx, hc, he⟩ := h2
  have f1 : aload false 1 (.ptr 0 (0 + 1)) [AObj.cells (L.cells lx c e)] = some lx := aload_f1 (l := L.cells lx c e) rfl
  have f2 : aload false 1 (.ptr 0 (0 + 2)) [AObj.cells (L.cells lx c e)] = some (.str L.lo) := aload_f1 (l := L.cells lx c e) rfl
  have f3 : aload false 1 (.ptr 0 (0 + 3)) [AObj.cells (L.cells lx c e)] = some (.str L.up) := aload_f1 (l := L.cells lx c e) rfl
  have f4 : aload false 1 (.ptr 0 (0 + 4)) [AObj.cells (L.cells lx c e)] = some c := aload_f1 (l := L.cells lx c e) rfl
  have f5 : aload false 1 (.ptr 0 (0 + 5)) [AObj.cells (L.cells lx c e)] = some e := aload_f1 (l := L.cells lx c e) rfl
  have n1 := hlx.len 3
  have n4 := hc.len 146
  have n5 := he.len 116
  rw [List.length_map] at n1 n4 n5
  suffices hs : ∃ b H1, C_L07_Light [.agg (L.cells lx c e)] [] = some (.bool b, H1) by
    obtain ⟨b, H1, hr⟩ := hs
    exact ⟨b, flat1 h1 hr rfl⟩
  rw [F_L07_Light_eq]
  unfold F_L07_Light
  simp only [go_sem, abox_agg, List.nil_append, List.length_nil, f1, n1]
  cases decide ((L.w.length : Int) ≤ 300) with
  | false => exact ⟨false, _, by simp only [go_sem]; rfl⟩
  | true =>
    simp only [go_sem, f2, alen_str]
    cases decide ((L.lo.length : Int) ≤ 300) with
    | false => exact ⟨false, _, by simp only [go_sem]; rfl⟩
    | true =>
      simp only [go_sem, f3, alen_str]
      cases decide ((L.up.length : Int) ≤ 300) with
      | false => exact ⟨false, _, by simp only [go_sem]; rfl⟩
      | true =>
        simp only [go_sem, f4, n4]
        cases decide ((L.cls.length : Int) ≤ 30) with
        | false => exact ⟨false, _, by simp only [go_sem]; rfl⟩
        | true =>
          simp only [go_sem, f5, n5]
          exact ⟨_, _, rfl⟩
theorem few_loop {x : AV} {l : List Str} (hx : SS x l) (hl : l.length ≤ 1048576) (H0 H : Hp) : ∀ (k i : Nat), l.length - i = k → i ≤ l.length →
    ∃ b, L21_few_L1 x (.int .i64 (i : Int)) H0 H = some (.bool b, H) := by
  have p3 := SS.len hx 9
  intro k
  induction k with
  | zero =>
    intro i hk hi
    have hlt : decide ((i : Int) < (l.length : Int)) = false := by simp; omega
    exact ⟨true, by rw [L21_few_L1_eq]; simp only [go_sem, p3, hlt, L21_few_J2_eq]⟩
  | succ k ih =>
    intro i hk hi
    have hlt : decide ((i : Int) < (l.length : Int)) = true := by simp; omega
    have hw : IntKind.i64.wrap ((i : Int) + 1) = ((i + 1 : Nat) : Int) := by rw [wrap64 (by omega) (by omega)]; omega
    have h1 := SS.idx hx (List.getElem?_eq_getElem (show i < l.length by omega))
    obtain ⟨b, hb⟩ := ih (i + 1) (by omega) (by omega)
    rw [L21_few_L1_eq]
    simp only [go_sem, p3, hlt, L21_few_J3_eq, h1, aload_vpc, alen_str]
    cases decide ((40 : Int) < (l[i].length : Int)) with
    | true => exact ⟨false, by simp only [go_sem]⟩
    | false => exact ⟨b, by simp only [go_sem, L21_few_J4_eq, hw, hb]⟩
theorem few_flat {a : AV} {L : Loc} (h : LocAV a L) {q : AV} {p : Spec} (hq : SpecAV q p) {x : AV} {l : List Str} (hx : SS x l) (hl : l.length ≤ 1048576) (H : Hp) : ∃ b, flatC C_L21_few [a, q, x] H = some (.bool b, H) := by
  obtain ⟨a1, h1, h2⟩ := h.close [] 0 2
  obtain ⟨q1, g1, g2⟩ := hq.close [] 0 2
  obtain ⟨x1, k1, k2⟩ := SS.closed hx [] 0 4
  have hav := h2
  obtain ⟨lx, c, e, rfl, hlx, hc, he⟩ := h2
  obtain ⟨xp, rfl, hxp⟩ := g2
  have p3 := SS.len k2 9
  have hl6 := load_loc L lx c e [.cells (p.cells xp)]
  have f0 : aload false 1 (.ptr 1 (0 + 0)) [AObj.cells (L.cells lx c e), .cells (p.cells xp)] = some xp := aload_f1 (l := p.cells xp) rfl
  have n0 := hxp.len 58
  rw [List.length_map] at n0
  obtain ⟨bl, hlight⟩ := lightL_flat hav [AObj.cells (L.cells lx c e), .cells (p.cells xp)]
  obtain ⟨bf, hfew⟩ := few_loop k2 hl [] [AObj.cells (L.cells lx c e), .cells (p.cells xp)] _ 0 rfl (Nat.zero_le _)
  rw [show ((0 : Nat) : Int) = 0 from rfl] at hfew
  suffices hs : ∃ b H1, C_L21_few [.agg (L.cells lx c e), .agg (p.cells xp), x1] [] = some (.bool b, H1) by
    obtain ⟨b, H1, hr⟩ := hs
    exact ⟨b, flat3 h1 g1 k1 hr rfl⟩
  rw [F_L21_few_eq]
  unfold F_L21_few
  simp only [go_sem, abox_agg, List.nil_append, List.length_nil, List.length_cons, List.cons_append, Nat.zero_add, p3]
  cases decide ((30 : Int) < (l.length : Int)) with
  | true => exact ⟨false, _, by simp only [go_sem]; rfl⟩
  | false =>
    simp only [go_sem, f0, n0]
    cases decide ((12 : Int) < (p.keys.length : Int)) with
    | true => exact ⟨false, _, by simp only [go_sem]; rfl⟩
    | false =>
      simp only [go_sem, hl6, hlight]
      cases bl with
      | false => exact ⟨false, _, by simp only [go_sem, Bool.not_false]; rfl⟩
      | true => exact ⟨bf, _, by simp only [go_sem, Bool.not_true, L21_few_J1_eq, hfew]; rfl⟩
theorem sortS_len (L : Loc) (p : Spec) (l : List Str) : (sortS L p l).length ≤ l.length := by
  obtain ⟨f1, f2⟩ := ins_facts L p l
  have := onceL_len (g := lineS L p) (insL (orderS L p) l) []
  unfold sortS
  split
  · exact Nat.le_refl _
  · split
    · simp at this; omega
    · omega
theorem Sorts_law {a : AV} {L : Loc} (h : LocAV a L) (hok : LocOk L) {q : AV} {p : Spec} (hq : SpecAV q p) (hks : ∀ k ∈ p.keys, KeOk k) {x : AV} {l : List Str} (hx : SS x l) (hL : Lens l) (hl : l.length ≤ 1048576) :
    ∃ H', C_L21_MemsortSorts [a, q, x] [] = some (.bool true, H') := by
  have hav := h
  have hsp := hq
  obtain ⟨lx, c, e, rfl, hlx, hc, he⟩ := h
  obtain ⟨xp, rfl, hxp⟩ := hq
  let H2 : Hp := [AObj.cells (L.cells lx c e), .cells (p.cells xp)]
  have hl6 : aload true 6 (.ptr 0 0) H2 = some (.agg (L.cells lx c e)) := load_loc L lx c e [.cells (p.cells xp)]
  have hl5 : aload true 5 (.ptr 1 0) H2 = some (.agg (p.cells xp)) := by simp [aload, Go.Am.apart, Spec.cells, H2]
  obtain ⟨b, hb⟩ := few_flat hav hsp hx hl H2
  obtain ⟨y1, s1, s2⟩ := sort_flat hav hok hsp hks hx hL hl H2
  obtain ⟨y2, s3, s4⟩ := rsort_flat hav hok hsp hks hx hL hl H2
  have s5 := uns_flat hav hok hsp hks hx hL hl H2
  have s6 := runs_flat hav hok hsp hks hx hL hl H2
  have hln := sortS_len L p l
  have s7 := same_flat s2 s4 (by omega) (by omega) H2
  rw [decide_eq_true rfl] at s7
  refine ⟨H2, ?_⟩
  rw [F_L21_MemsortSorts_eq]
  unfold F_L21_MemsortSorts
  have hH : [AObj.cells (L.cells lx c e), .cells (p.cells xp)] = H2 := rfl
  simp only [go_sem, abox_agg, List.nil_append, List.length_nil, List.length_cons, List.cons_append, Nat.zero_add, hH, hl6, hl5, hb]
  cases b with
  | false => simp only [Bool.not_false, go_sem, awake21]
  | true => simp only [Bool.not_true, go_sem, L21_MemsortSorts_J1_eq, hl6, hl5, s1, s3, s7, s5, s6, beq_self_eq_true, awake21]
end Go.Am
