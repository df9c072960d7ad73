/-
  The check of a locale; the default one; the one that counts.
-/
import Derived.Test.YtomfadecfjephaaGreatDoorUkEx
import Derived.Test.YtomfadecfjephaaGreatDoorUkAx
namespace Go.Am
set_option linter.unusedSimpArgs false
set_option linter.unusedVariables false
set_option maxRecDepth 100000

structure Loc where
  name : List UInt8
  w : List Int
  lo : List UInt8
  up : List UInt8
  cls : List (List UInt8 × List Int)
  els : List (List UInt8 × Int)
def Loc.cells (x c e : AV) (L : Loc) : List AV := [.str L.name, x, .str L.lo, .str L.up, c, e]
def LocAV (a : AV) (L : Loc) : Prop := ∃ x c e, a = .agg (L.cells x c e) ∧ Sl 1 x (L.w.map (AV.int .i64)) ∧ Sl 5 c (L.cls.map clsAV) ∧ Sl 2 e (L.els.map elAV)
structure LocOk (L : Loc) : Prop where
  name : L.name.length ≤ 4611686018427387904
  w : L.w.length ≤ 4611686018427387904
  lo : L.lo.length ≤ 4611686018427387904
  up : L.up.length ≤ 4611686018427387904
  cls : ClsOk L.cls
  els : ElsOk L.els
  ncls : L.cls.length ≤ 4611686018427387904
  nels : L.els.length ≤ 4611686018427387904
theorem cls_close (c : List UInt8 × List Int) (H : Hp) (n f : Nat) : closeV H n (f + 2) (clsAV c) = some (clsAV c) := by
  have : (AV.str c.1 :: c.2.map (AV.int .u64)).mapM (closeV H n (f + 1)) = some (AV.str c.1 :: c.2.map (AV.int .u64)) := mapM_id fun x hx => by
    rcases List.mem_cons.1 hx with rfl | hx
    · rfl
    · obtain ⟨m, _, rfl⟩ := List.mem_map.1 hx
      rfl
  rw [clsAV, closeV_aggl, this]
theorem el_close (c : List UInt8 × Int) (H : Hp) (n f : Nat) : closeV H n (f + 2) (elAV c) = some (elAV c) := (Eq.refl _).trans (Eq.refl _)
theorem LocAV.close {a : AV} {L : Loc} (h : LocAV a L) (H : Hp) (n f : Nat) : ∃ a', closeV H n (f + 4) a = some a' ∧ LocAV a' L := by
  obtain ⟨x, c, e, rfl, hx, hc, he⟩ := h
  obtain ⟨x', hx1, hx2⟩ := hx.close (H := H) (n := n) (f := f + 2) (fun y hy => by obtain ⟨m, _, rfl⟩ := List.mem_map.1 hy; rfl)
  obtain ⟨c', hc1, hc2⟩ := hc.close (H := H) (n := n) (f := f + 2) (fun y hy => by obtain ⟨m, _, rfl⟩ := List.mem_map.1 hy; exact cls_close m H n f)
  obtain ⟨e', he1, he2⟩ := he.close (H := H) (n := n) (f := f + 2) (fun y hy => by obtain ⟨m, _, rfl⟩ := List.mem_map.1 hy; exact el_close m H n f)
  refine ⟨.agg (L.cells x' c' e'), ?_, x', c', e', rfl, hx2, hc2, he2⟩
  have : (L.cells x c e).mapM (closeV H n (f + 3)) = some (L.cells x' c' e') := by
    simp only [Loc.cells, List.mapM_cons, hx1, hc1, he1, List.mapM_nil]
    rfl
  rw [closeV_aggl, this]

theorem cls_flat {x : AV} {l : List (List UInt8 × List Int)} (h : Sl 5 x (l.map clsAV)) (hok : ClsOk l) (hl : l.length ≤ 4611686018427387904) (H : Hp) : flatC C_locale_checkClasses [x] H = some (.int .i64 (clsS l), H) ∧ flatC C_R05_checkClasses [x] H = some (.int .i64 (clsS l), H) := by
  obtain ⟨x', h1, h2⟩ := h.close (H := []) (n := 0) (f := 5) (fun y hy => by obtain ⟨m, _, rfl⟩ := List.mem_map.1 hy; exact cls_close m [] 0 3)
  obtain ⟨H', h3⟩ := cls_spec h2 hok hl []
  exact ⟨flat1 h1 h3 rfl, flat1 h1 (rcls_spec h2 hok []) rfl⟩
theorem els_flat {x : AV} {l : List (List UInt8 × Int)} (h : Sl 2 x (l.map elAV)) (hok : ElsOk l) (hl : l.length ≤ 4611686018427387904) (H : Hp) : flatC C_locale_checkElements [x] H = some (.int .i64 (elsS l), H) ∧ flatC C_R05_checkElements [x] H = some (.int .i64 (elsS l), H) := by
  obtain ⟨x', h1, h2⟩ := h.close (H := []) (n := 0) (f := 5) (fun y hy => by obtain ⟨m, _, rfl⟩ := List.mem_map.1 hy; exact el_close m [] 0 3)
  obtain ⟨H', h3⟩ := els_spec h2 hok hl []
  exact ⟨flat1 h1 h3 rfl, flat1 h1 (rels_spec h2 hok []) rfl⟩

def wBad (n : Int) : Bool := decide (n < 0) || decide (65535 < n)
def tailS (L : Loc) : Int := if (clsS L.cls != 0) = true then clsS L.cls else elsS L.els
def lcheckS (L : Loc) : Int :=
  if nameS L.name then (if (L.w.length != 256 || (L.lo.length != 256 || L.up.length != 256)) = true then 2 else if L.w.any wBad then 2 else tailS L) else 4
theorem Sl.ints {x : AV} {l : List Int} (h : Sl 1 x (l.map (AV.int .i64))) {i : Nat} (hi : i < l.length) : aindexS 1 x (.int .i64 (i : Int)) = some (.vp [.int .i64 l[i]]) := h.idx (c := .int .i64 l[i]) (by simp [hi])
theorem beq256 (n : Nat) : ((n : Int) != 256) = (n != 256) := by rw [Bool.eq_iff_iff]; simp; omega
theorem lchk_loop {x c e : AV} {L : Loc} (hx : Sl 1 x (L.w.map (AV.int .i64))) (hc : Sl 5 c (L.cls.map clsAV)) (he : Sl 2 e (L.els.map elAV)) (hok : LocOk L) (hlw : L.w.length = 256) (H0 H : Hp) {o : Nat} (ho : H[o]? = some (.cells (L.cells x c e))) : ∀ (k i : Nat), L.w.length - i = k → i ≤ L.w.length →
    locale_Check_L1 (.ptr o 0) x (.int .i64 (L.w.length : Int)) (.int .i64 (i : Int)) H0 H = some (.int .i64 (if (L.w.drop i).any wBad then 2 else tailS L), H) := by
  intro k
  induction k with
  | zero =>
    intro i hk hi
    rw [locale_Check_L1_eq]
    have hlt : decide ((i : Int) < (L.w.length : Int)) = false := by simp; omega
    have hd : L.w.drop i = [] := List.drop_eq_nil_iff.2 (by omega)
    simp only [go_sem, hlt, hd, List.any_nil, Bool.false_eq_true, if_false, locale_Check_J3_eq, Nat.zero_add, aload_f1 ho, Loc.cells, List.getElem?_cons_zero, List.getElem?_cons_succ, (cls_flat hc hok.cls hok.ncls H).1]
    unfold tailS
    cases h1 : (clsS L.cls != 0) with
    | true => simp only [go_sem, if_true]
    | false => simp only [go_sem, Bool.false_eq_true, if_false, locale_Check_J4_eq, Nat.zero_add, aload_f1 ho, Loc.cells, List.getElem?_cons_zero, List.getElem?_cons_succ, (els_flat he hok.els hok.nels H).1]
  | succ k ih =>
    intro i hk hi
    rw [locale_Check_L1_eq]
    have hl1 : i < L.w.length := by omega
    have hlt : decide ((i : Int) < (L.w.length : Int)) = true := by simp; omega
    have hw : IntKind.i64.wrap ((i : Int) + 1) = ((i + 1 : Nat) : Int) := by rw [wrap64 (by omega) (by omega)]; omega
    simp only [go_sem, hlt, locale_Check_J5_eq, hx.ints hl1, aload_vpc]
    rw [List.drop_eq_getElem_cons hl1, List.any_cons]
    unfold wBad
    cases h1 : decide (L.w[i] < 0) with
    | true => simp only [go_sem, Bool.true_or, if_true]
    | false =>
      simp only [go_sem, Bool.false_or]
      cases h2 : decide (65535 < L.w[i]) with
      | true => simp only [go_sem, Bool.true_or, if_true]
      | false =>
        simp only [go_sem, Bool.false_or, locale_Check_J6_eq, hw]
        exact ih (i + 1) (by omega) (by omega)
theorem lchk_spec {a : AV} {L : Loc} (h : LocAV a L) (hok : LocOk L) (H : Hp) : ∃ H', C_locale_Check [a] H = some (.int .i64 (lcheckS L), H') := by
  obtain ⟨x, c, e, rfl, hx, hc, he⟩ := h
  rw [F_locale_Check_eq]
  unfold F_locale_Check lcheckS
  have hlen := hx.len 3
  rw [List.length_map] at hlen
  have hg := get_last H (.cells (L.cells x c e))
  simp only [go_sem, Nat.zero_add, aload_lastf, Loc.cells, List.getElem?_cons_zero, List.getElem?_cons_succ, name_flat L.name hok.name]
  cases hn : nameS L.name with
  | false => simp only [go_sem, Bool.not_false, Bool.false_eq_true, if_false]; exact ⟨_, rfl⟩
  | true =>
  simp only [go_sem, Bool.not_true, if_true, locale_Check_J1_eq, Nat.zero_add, aload_lastf, List.getElem?_cons_zero, List.getElem?_cons_succ, hlen, beq256]
  cases h1 : (L.w.length != 256) with
  | true => simp only [go_sem, Bool.true_or, if_true]; exact ⟨_, rfl⟩
  | false =>
  simp only [go_sem, Bool.false_or, Nat.zero_add, aload_lastf, List.getElem?_cons_zero, List.getElem?_cons_succ, alen_str, beq256]
  cases h2 : (L.lo.length != 256) with
  | true => simp only [go_sem, Bool.true_or, if_true]; exact ⟨_, rfl⟩
  | false =>
  simp only [go_sem, Bool.false_or, Nat.zero_add, aload_lastf, List.getElem?_cons_zero, List.getElem?_cons_succ, alen_str, beq256]
  cases h3 : (L.up.length != 256) with
  | true => simp only [go_sem, if_true]; exact ⟨_, rfl⟩
  | false =>
  have hlw : L.w.length = 256 := by simpa using h1
  have := lchk_loop hx hc he hok hlw H (H ++ [.cells (L.cells x c e)]) hg L.w.length 0 (by omega) (by omega)
  rw [show ((0 : Nat) : Int) = 0 from rfl, List.drop_zero] at this
  simp only [Loc.cells] at this
  simp only [go_sem, Bool.false_eq_true, if_false, locale_Check_J2_eq, Nat.zero_add, aload_lastf, List.getElem?_cons_zero, List.getElem?_cons_succ, hlen, this]
  exact ⟨_, rfl⟩
theorem rlchk_loop {x c e : AV} {L : Loc} (hx : Sl 1 x (L.w.map (AV.int .i64))) (hc : Sl 5 c (L.cls.map clsAV)) (he : Sl 2 e (L.els.map elAV)) (hok : LocOk L) (hlw : L.w.length = 256) (H0 H : Hp) {o : Nat} (ho : H[o]? = some (.cells (L.cells x c e))) : ∀ (k i : Nat), 256 - i = k → i ≤ 256 →
    R05_Check_L1 (.ptr o 0) (.int .i64 (i : Int)) H0 H = some (.int .i64 (if (L.w.drop i).any wBad then 2 else if (L.lo.length != 256 || L.up.length != 256) = true then 2 else tailS L), H) := by
  intro k
  induction k with
  | zero =>
    intro i hk hi
    rw [R05_Check_L1_eq]
    have hlt : decide ((i : Int) < 256) = false := by simp; omega
    have hd : L.w.drop i = [] := List.drop_eq_nil_iff.2 (by omega)
    simp only [go_sem, hlt, hd, List.any_nil, Bool.false_eq_true, if_false, R05_Check_J3_eq, Nat.zero_add, aload_f1 ho, Loc.cells, List.getElem?_cons_zero, List.getElem?_cons_succ, alen_str, beq256]
    cases h2 : (L.lo.length != 256) with
    | true => simp only [go_sem, Bool.true_or, if_true]
    | false =>
    simp only [go_sem, Bool.false_or, Nat.zero_add, aload_f1 ho, Loc.cells, List.getElem?_cons_zero, List.getElem?_cons_succ, alen_str, beq256]
    cases h3 : (L.up.length != 256) with
    | true => simp only [go_sem, if_true]
    | false =>
    simp only [go_sem, Bool.false_eq_true, if_false, R05_Check_J4_eq, Nat.zero_add, aload_f1 ho, Loc.cells, List.getElem?_cons_zero, List.getElem?_cons_succ, (cls_flat hc hok.cls hok.ncls H).2]
    unfold tailS
    cases h1 : (clsS L.cls != 0) with
    | true => simp only [go_sem, if_true]
    | false => simp only [go_sem, Bool.false_eq_true, if_false, R05_Check_J5_eq, Nat.zero_add, aload_f1 ho, Loc.cells, List.getElem?_cons_zero, List.getElem?_cons_succ, (els_flat he hok.els hok.nels H).2]
  | succ k ih =>
    intro i hk hi
    rw [R05_Check_L1_eq]
    have hl1 : i < L.w.length := by omega
    have hlt : decide ((i : Int) < 256) = true := by simp; omega
    have hw : IntKind.i64.wrap ((i : Int) + 1) = ((i + 1 : Nat) : Int) := by rw [wrap64 (by omega) (by omega)]; omega
    simp only [go_sem, hlt, R05_Check_J6_eq, Nat.zero_add, aload_f1 ho, Loc.cells, List.getElem?_cons_zero, List.getElem?_cons_succ, hx.ints hl1, aload_vpc, light_flat, Bool.not_not]
    rw [List.drop_eq_getElem_cons hl1, List.any_cons]
    have e : (decide (L.w[i] < 0) || decide (65535 < L.w[i])) = wBad L.w[i] := rfl
    rw [e]
    cases h1 : wBad L.w[i] with
    | true => simp only [go_sem, Bool.true_or, if_true]
    | false =>
      simp only [go_sem, Bool.false_or, R05_Check_J7_eq, hw]
      exact ih (i + 1) (by omega) (by omega)
theorem rlchk_spec {a : AV} {L : Loc} (h : LocAV a L) (hok : LocOk L) (H : Hp) : ∃ H', C_R05_Check [a] H = some (.int .i64 (lcheckS L), H') := by
  obtain ⟨x, c, e, rfl, hx, hc, he⟩ := h
  rw [F_R05_Check_eq]
  unfold F_R05_Check lcheckS
  have hlen := hx.len 3
  rw [List.length_map] at hlen
  have hg := get_last H (.cells (L.cells x c e))
  simp only [go_sem, Nat.zero_add, aload_lastf, Loc.cells, List.getElem?_cons_zero, List.getElem?_cons_succ, rname_flat L.name hok.name]
  cases hn : nameS L.name with
  | false => simp only [go_sem, Bool.not_false, Bool.false_eq_true, if_false]; exact ⟨_, rfl⟩
  | true =>
  simp only [go_sem, Bool.not_true, if_true, R05_Check_J1_eq, Nat.zero_add, aload_lastf, List.getElem?_cons_zero, List.getElem?_cons_succ, hlen, beq256]
  cases h1 : (L.w.length != 256) with
  | true => simp only [go_sem, Bool.true_or, if_true]; exact ⟨_, rfl⟩
  | false =>
  have hlw : L.w.length = 256 := by simpa using h1
  have := rlchk_loop hx hc he hok hlw H (H ++ [.cells (L.cells x c e)]) hg 256 0 (by omega) (by omega)
  rw [show ((0 : Nat) : Int) = 0 from rfl, List.drop_zero] at this
  simp only [Loc.cells] at this
  simp only [go_sem, Bool.false_or, R05_Check_J2_eq, this]
  refine ⟨_, congrArg some (Prod.ext (congrArg (AV.int .i64) ?_) rfl)⟩
  cases h2 : (L.lo.length != 256 || L.up.length != 256) <;> cases h3 : L.w.any wBad <;> simp
theorem lchk_flat {a : AV} {L : Loc} (h : LocAV a L) (hok : LocOk L) (H : Hp) : flatC C_locale_Check [a] H = some (.int .i64 (lcheckS L), H) ∧ flatC C_R05_Check [a] H = some (.int .i64 (lcheckS L), H) := by
  obtain ⟨a', h1, h2⟩ := h.close [] 0 2
  obtain ⟨H', h3⟩ := lchk_spec h2 hok []
  obtain ⟨H'', h4⟩ := rlchk_spec h2 hok []
  exact ⟨flat1 h1 h3 rfl, flat1 h1 h4 rfl⟩
end Go.Am
