/-
  The order of strings in a locale.
-/
import Derived.Test.YtomfadecfjephaaDoorWkMx
namespace Go.Am
set_option linter.unusedSimpArgs false
set_option linter.unusedVariables false
set_option maxRecDepth 100000

def LocCells (l : List AV) (L : Loc) : Prop := ∃ x c e, l = L.cells x c e ∧ Sl 1 x (L.w.map (AV.int .i64)) ∧ Sl 5 c (L.cls.map clsAV) ∧ Sl 2 e (L.els.map elAV)
theorem LocCells.close {l : List AV} {L : Loc} (h : LocCells l L) (H : Hp) (n f : Nat) : ∃ l', l.mapM (closeV H n (f + 3)) = some l' ∧ LocCells l' L := by
  obtain ⟨x, c, e, rfl, hx, hc, he⟩ := h
  obtain ⟨x', hx1, hx2⟩ := hx.close (H := H) (n := n) (f := f + 2) (fun y hy => by obtain ⟨m, _, rfl⟩ := List.mem_map.1 hy; rfl)
  obtain ⟨c', hc1, hc2⟩ := hc.close (H := H) (n := n) (f := f + 2) (fun y hy => by obtain ⟨m, _, rfl⟩ := List.mem_map.1 hy; exact cls_close m H n f)
  obtain ⟨e', he1, he2⟩ := he.close (H := H) (n := n) (f := f + 2) (fun y hy => by obtain ⟨m, _, rfl⟩ := List.mem_map.1 hy; exact el_close m H n f)
  refine ⟨L.cells x' c' e', ?_, x', c', e', rfl, hx2, hc2, he2⟩
  simp only [Loc.cells, List.mapM_cons, hx1, hc1, he1, List.mapM_nil]
  rfl
theorem closeV_vpl (H : Hp) (n f : Nat) (l : List AV) : closeV H n (f + 1) (.vp l) = match l.mapM (closeV H n f) with
      | some l => some (.vp l)
      | none => none := (Eq.refl _).trans (Eq.refl _)
theorem flatC_eq2 {f : List AV → Hp → Res} {a a' b b' v v' : AV} {H H1 : Hp} (ha : closeV [] 0 6 a = some a') (hb : closeV [] 0 6 b = some b') (hc : f [a', b'] [] = some (v, H1)) (hv : closeV H1 0 6 v = some v') : flatC f [a, b] H = some (v', H) := by
  unfold flatC
  simp [ha, hb, hc, hv]
theorem RowN.close {n : Nat} {H : Hp} {x : AV} {l : List Int} (h : RowN n H 1 x (l.map (AV.int .i64))) (H1 : Hp) : ∃ x', closeV H1 0 6 x = some x' ∧ Sl 1 x' (l.map (AV.int .i64)) :=
  h.sl.close (f := 5) (fun y hy => by obtain ⟨m, _, rfl⟩ := List.mem_map.1 hy; rfl)

theorem weights_flat {l : List AV} {L : Loc} (h : LocCells l L) (hw : L.w.length = 256) (hnew : ElsNew L.els) (hn : L.els.length ≤ 1048576) (s : List UInt8) (hs : s.length ≤ 1048576) (H : Hp) :
    ∃ v, flatC C_locale_Compare_1 [.str s, .vp l] H = some (v, H) ∧ Sl 1 v ((wS L s).map (AV.int .i64)) := by
  obtain ⟨l', h1, x, c, e, rfl, hx, hc, he⟩ := h.close [] 0 2
  have hcl : closeV [] 0 6 (.vp l) = some (.vp (L.cells x c e)) := by rw [closeV_vpl, h1]
  have hlen := he.len 90
  rw [List.length_map] at hlen
  obtain ⟨H1, es, k, q1, q2, q3, q4, q5, q6⟩ := each_els he hnew hn (.str s) (.fn (.func 50) [] [.ptr 0 0]) [AObj.cells [.nils]] L.els.length 0 [AObj.cells [.nils], .cells (L.cells x c e), .map [] 0] [] 0 (by omega) (by omega) rfl rfl (by simp)
  rw [show ((0 : Nat) : Int) = 0 from rfl] at q1
  have hst : WSt L x c e es [] H1 := ⟨⟨.nils, by rw [q2]; rfl, RowN.nil _ _ _⟩, by rw [q3]; rfl, ⟨k, q4⟩, q6⟩
  obtain ⟨H2, q7, ⟨⟨y, q8, q9⟩, _, _, _⟩⟩ := each_loop hx hw q5 s hs [AObj.cells [.nils]] s.length [] s [] H1 (Nat.le_refl _) rfl (by simp) hst
  rw [List.length_nil, show ((0 : Nat) : Int) = 0 from rfl] at q7
  rw [List.nil_append] at q9
  obtain ⟨v, q10, q11⟩ := q9.close H2
  refine ⟨v, flatC_eq2 (a' := .str s) rfl hcl ?_ q10, q11⟩
  rw [F_locale_Compare_1_eq]
  unfold F_locale_Compare_1
  have e1 : C_locale_each [.agg (L.cells x c e), .str s, .fn (.func 50) [] [.ptr 0 0]] [AObj.cells [.nils]] = some (.tuple [], H2) := by
    rw [F_locale_each_eq]
    unfold F_locale_each
    have hl5 : aload false 1 (.ptr 1 5) [AObj.cells [.nils], .cells (L.cells x c e), .map [] 0] = some e := by simp [aload, Go.Am.apart, Loc.cells]
    simp only [go_sem, List.length_cons, List.length_nil, List.cons_append, List.nil_append, Nat.zero_add, hl5, hlen, q1, locale_each_J1_eq, q7]
  simp only [go_sem, List.length_nil, List.nil_append, aload_vpn 6 (L.cells x c e) rfl, e1, aload_f1 q8, List.getElem?_cons_zero]

def matchE (r : List UInt8) (e : List UInt8 × Int) : Bool :=
  match r with
  | b :: c :: _ => e.1 == [b, c]
  | _ => false
def findR (r : List UInt8) : List (List UInt8 × Int) → Nat → Int
  | [], _ => -1
  | e :: l, k => if matchE r e then (k : Int) else findR r l (k + 1)
theorem find_loop {x c e : AV} {L : Loc} (he : Sl 2 e (L.els.map elAV)) (hl : L.els.length ≤ 1048576) (s done r : List UInt8) (hs : s.length ≤ 1048576) (hd : s = done ++ r) (H0 H : Hp) {o : Nat} (ho : H[o]? = some (.cells (L.cells x c e))) : ∀ (n k : Nat), L.els.length - k = n → k ≤ L.els.length →
    R05_find_L1 (.str s) (.int .i64 (done.length : Int)) (.ptr o 0) (.int .i64 (k : Int)) H0 H = some (.int .i64 (findR r (L.els.drop k) k), H) := by
  have hlen := he.len 90
  rw [List.length_map] at hlen
  have hsl : s.length = done.length + r.length := by rw [hd]; simp
  have hw2 : IntKind.i64.wrap ((done.length : Int) + 2) = ((done.length + 2 : Nat) : Int) := by rw [wrap64 (by omega) (by omega)]; omega
  intro n
  induction n with
  | zero =>
    intro k hn hk
    rw [R05_find_L1_eq]
    have hlt : decide ((k : Int) < (L.els.length : Int)) = false := by simp; omega
    have hdr : L.els.drop k = [] := List.drop_eq_nil_iff.2 (by omega)
    simp only [go_sem, Nat.zero_add, aload_f1 ho, Loc.cells, List.getElem?_cons_zero, List.getElem?_cons_succ, hlen, hlt, R05_find_J1_eq, hdr]
    rfl
  | succ n ih =>
    intro k hn hk
    rw [R05_find_L1_eq]
    have hk1 : k < L.els.length := by omega
    have hlt : decide ((k : Int) < (L.els.length : Int)) = true := by simp; omega
    have hwk : IntKind.i64.wrap ((k : Int) + 1) = ((k + 1 : Nat) : Int) := by rw [wrap64 (by omega) (by omega)]; omega
    rw [List.drop_eq_getElem_cons hk1]
    simp only [go_sem, Nat.zero_add, aload_f1 ho, Loc.cells, List.getElem?_cons_zero, List.getElem?_cons_succ, hlen, hlt, R05_find_J2_eq, hw2, alen_str]
    have h3 := ih (k + 1) (by omega) (by omega)
    match r, hd, hsl, h3 with
    | [], hd, hsl, h3 =>
      have hle : decide (((done.length + 2 : Nat) : Int) ≤ (s.length : Int)) = false := by simp at hsl ⊢; omega
      simp only [hle, go_sem, R05_find_J3_eq, hwk, h3]
      simp [findR, matchE]
    | [b], hd, hsl, h3 =>
      have hle : decide (((done.length + 2 : Nat) : Int) ≤ (s.length : Int)) = false := by simp at hsl ⊢; omega
      simp only [hle, go_sem, R05_find_J3_eq, hwk, h3]
      simp [findR, matchE]
    | b :: b2 :: r, hd, hsl, h3 =>
      have hle : decide (((done.length + 2 : Nat) : Int) ≤ (s.length : Int)) = true := by simp at hsl ⊢; omega
      have hs2 : (s.take (done.length + 2)).drop done.length = [b, b2] := by rw [hd, List.take_append]; simp
      have hsb : sbin .eql (.str [b, b2]) (.str L.els[k].1) = some (.bool (matchE (b :: b2 :: r) L.els[k])) := by
        show some (AV.bool ([b, b2] == L.els[k].1)) = some (.bool (L.els[k].1 == [b, b2]))
        congr 2
        rw [Bool.eq_iff_iff, beq_iff_eq, beq_iff_eq]; exact eq_comm
      simp only [hle, go_sem, slice_ij (show done.length ≤ done.length + 2 by omega) (show done.length + 2 ≤ s.length by simp at hsl; omega), hs2, Nat.zero_add, hw2, aload_f1 ho, Loc.cells, List.getElem?_cons_zero, List.getElem?_cons_succ, he.els (List.getElem?_eq_getElem hk1), afield_vpz, aload_vpc, hsb]
      have hfr : findR (b :: b2 :: r) (L.els[k] :: L.els.drop (k + 1)) k = if matchE (b :: b2 :: r) L.els[k] then (k : Int) else findR (b :: b2 :: r) (L.els.drop (k + 1)) (k + 1) := rfl
      rw [hfr]
      cases hm : matchE (b :: b2 :: r) L.els[k] with
      | true => simp only [go_sem, if_true]
      | false => simp only [go_sem, Bool.false_eq_true, if_false, R05_find_J3_eq, hwk, h3]
theorem wS_two (L : Loc) (b c : UInt8) (r : List UInt8) : wS L (b :: c :: r) = match L.els.find? (matchE (b :: c :: r)) with
    | some e => e.2 :: wS L r
    | none => wOf L b :: wS L (c :: r) := (Eq.refl _).trans (Eq.refl _)
theorem find_flat {a : AV} {L : Loc} (h : LocAV a L) (hl : L.els.length ≤ 1048576) (s done r : List UInt8) (hs : s.length ≤ 1048576) (hd : s = done ++ r) (H : Hp) : flatC C_R05_find [a, .str s, .int .i64 (done.length : Int)] H = some (.int .i64 (findR r L.els 0), H) := by
  obtain ⟨a1, h1, x, c, e, rfl, hx, hc, he⟩ := h.close [] 0 2
  have hrun : C_R05_find [.agg (L.cells x c e), .str s, .int .i64 (done.length : Int)] [] = some (.int .i64 (findR r L.els 0), [AObj.cells (L.cells x c e)]) := by
    rw [F_R05_find_eq]
    unfold F_R05_find
    have := find_loop (x := x) (c := c) he hl s done r hs hd [] [AObj.cells (L.cells x c e)] (o := 0) rfl L.els.length 0 (by omega) (by omega)
    rw [List.drop_zero, show ((0 : Nat) : Int) = 0 from rfl] at this
    simp only [go_sem, List.length_nil, List.nil_append, this]
  exact flatC_of (args' := [.agg (L.cells x c e), .str s, .int .i64 (done.length : Int)]) (by simp [h1]; rfl) hrun rfl
theorem findR_spec (r : List UInt8) : ∀ (l : List (List UInt8 × Int)) (k : Nat), match l.find? (matchE r) with
    | some e => ∃ i, findR r l k = ((k + i : Nat) : Int) ∧ l[i]? = some e
    | none => findR r l k = -1 := by
  intro l
  induction l with
  | nil => intro k; rfl
  | cons e l ih =>
    intro k
    rw [List.find?_cons]
    unfold findR
    cases hm : matchE r e with
    | true => exact ⟨0, by simp, rfl⟩
    | false =>
      have := ih (k + 1)
      simp only
      cases hf : l.find? (matchE r) with
      | none => rw [hf] at this; simpa using this
      | some e' =>
        rw [hf] at this
        obtain ⟨i, q1, q2⟩ := this
        exact ⟨i + 1, by simp only [Bool.false_eq_true, if_false]; rw [q1]; congr 1; omega, by simpa using q2⟩
theorem rweights_loop {x c e : AV} {L : Loc} (hx : Sl 1 x (L.w.map (AV.int .i64))) (hc : Sl 5 c (L.cls.map clsAV)) (he : Sl 2 e (L.els.map elAV)) (hw : L.w.length = 256) (hl : L.els.length ≤ 1048576) (s : List UInt8) (hs : s.length ≤ 1048576) (H0 : Hp) : ∀ (n : Nat) (done r : List UInt8) (acc : List Int) (y : AV) (H : Hp), r.length ≤ n → s = done ++ r → acc.length ≤ done.length → H[0]? = some (.cells (L.cells x c e)) → 1 ≤ H.length → RowN 1 H 1 y (acc.map (AV.int .i64)) →
    ∃ y' H', R05_weights_L1 (.str s) (.ptr 0 0) y (.int .i64 (done.length : Int)) H0 H = some (y', H') ∧ RowN 1 H' 1 y' ((acc ++ wS L r).map (AV.int .i64)) := by
  intro n
  induction n with
  | zero =>
    intro done r acc y H hr hd ha h0 hlen hrow
    have : r = [] := List.length_eq_zero_iff.1 (by omega)
    subst this
    rw [List.append_nil] at hd
    subst hd
    rw [R05_weights_L1_eq]
    have hlt : decide ((s.length : Int) < (s.length : Int)) = false := by simp
    simp only [go_sem, alen_str, hlt, R05_weights_J1_eq]
    exact ⟨y, H, rfl, by simpa [wS] using hrow⟩
  | succ n ih =>
    intro done r acc y H hr hd ha h0 hlen hrow
    cases r with
    | nil =>
      rw [List.append_nil] at hd
      subst hd
      rw [R05_weights_L1_eq]
      have hlt : decide ((s.length : Int) < (s.length : Int)) = false := by simp
      simp only [go_sem, alen_str, hlt, R05_weights_J1_eq]
      exact ⟨y, H, rfl, by simpa [wS] using hrow⟩
    | cons b r =>
      have hl0 : done.length < s.length := by rw [hd]; simp
      have hsl : s.length = done.length + (r.length + 1) := by rw [hd]; simp
      have hlt : decide ((done.length : Int) < (s.length : Int)) = true := by simp; omega
      have hw1 : IntKind.i64.wrap ((done.length : Int) + 1) = ((done.length + 1 : Nat) : Int) := by rw [wrap64 (by omega) (by omega)]; omega
      have hw2 : IntKind.i64.wrap ((done.length : Int) + 2) = ((done.length + 2 : Nat) : Int) := by rw [wrap64 (by omega) (by omega)]; omega
      have hb : s[done.length]? = some b := by rw [hd, List.getElem?_append_right (by omega)]; simp
      have hav : LocAV (.agg (L.cells x c e)) L := ⟨x, c, e, rfl, hx, hc, he⟩
      have hf := find_flat hav hl s done (b :: r) hs hd H
      have hagg : aload true 6 (.ptr 0 0) H = some (.agg (L.cells x c e)) := by rw [aload_of h0]; simp [Go.Am.apart, Loc.cells]
      have app : ∀ w : Int, ∃ y' H', aappE 1 8 y (.vs 1 .clip [.int .i64 w]) H = some (y', H') ∧ RowN 1 H' 1 y' ((acc ++ [w]).map (AV.int .i64)) ∧ 1 ≤ H'.length ∧ H'[0]? = some (.cells (L.cells x c e)) := fun w => by
        obtain ⟨y', H', q1, q2, q3, q4, q5⟩ := hrow.app hlen 8 (.vs 1 .clip [.int .i64 w]) [.int .i64 w] (by simp [elems]) (by simp; omega)
        exact ⟨y', H', q1, by simpa using q2, q3, q5 _ _ h0⟩
      rw [R05_weights_L1_eq]
      simp only [go_sem, alen_str, hlt, R05_weights_J2_eq, hagg, hf]
      have hsp := findR_spec (b :: r) L.els 0
      cases hfd : L.els.find? (matchE (b :: r)) with
      | none =>
        rw [hfd] at hsp
        simp only at hsp
        have hwS : wS L (b :: r) = wOf L b :: wS L r := by
          cases r with
          | nil => rfl
          | cons b2 r =>
            rw [wS_two, hfd]
        obtain ⟨y', H', q1, q2, q3, q4⟩ := app (wOf L b)
        obtain ⟨y2, H2, q5, q6⟩ := ih (done ++ [b]) r (acc ++ [wOf L b]) y' H' (by simp at hr; omega) (by rw [hd]; simp) (by simp; omega) q4 q3 q2
        rw [List.length_append, List.length_singleton] at q5
        have hneg : decide ((-1 : Int) < 0) = true := rfl
        rw [hsp, hwS]
        simp only [go_sem, hneg, Nat.zero_add, aload_f1 h0, Loc.cells, List.getElem?_cons_zero, List.getElem?_cons_succ, aindexStr_of hb, w_idx hx hw, aload_vpc, one_i64, q1, hw1, q5]
        exact ⟨y2, H2, rfl, by simpa using q6⟩
      | some el =>
        rw [hfd] at hsp
        simp only at hsp
        obtain ⟨i, q7, q8⟩ := hsp
        cases r with
        | nil =>
          have := List.find?_some hfd
          simp [matchE] at this
        | cons b2 r =>
          have hwS : wS L (b :: b2 :: r) = el.2 :: wS L r := by
            rw [wS_two, hfd]
          obtain ⟨y', H', q1, q2, q3, q4⟩ := app el.2
          obtain ⟨y2, H2, q5, q6⟩ := ih (done ++ [b, b2]) r (acc ++ [el.2]) y' H' (by simp at hr; omega) (by rw [hd]; simp) (by simp; omega) q4 q3 q2
          rw [List.length_append, show ([b, b2] : List UInt8).length = 2 from rfl] at q5
          rw [q7, hwS, Nat.zero_add]
          have hneg : decide ((i : Int) < 0) = false := by simp
          simp only [go_sem, hneg, Nat.zero_add, aload_f1 h0, Loc.cells, List.getElem?_cons_zero, List.getElem?_cons_succ, he.els q8, afield_vp1, aload_vpc, one_i64, q1, hw2, q5]
          exact ⟨y2, H2, rfl, by simpa using q6⟩
theorem rweights_flat {a : AV} {L : Loc} (h : LocAV a L) (hw : L.w.length = 256) (hl : L.els.length ≤ 1048576) (s : List UInt8) (hs : s.length ≤ 1048576) (H : Hp) :
    ∃ v, flatC C_R05_weights [a, .str s] H = some (v, H) ∧ Sl 1 v ((wS L s).map (AV.int .i64)) := by
  obtain ⟨a1, h1, x, c, e, rfl, hx, hc, he⟩ := h.close [] 0 2
  obtain ⟨y', H', q1, q2⟩ := rweights_loop hx hc he hw hl s hs [] s.length [] s [] .nils [AObj.cells (L.cells x c e)] (Nat.le_refl _) rfl (by simp) rfl (by simp) (RowN.nil _ _ _)
  rw [List.length_nil, show ((0 : Nat) : Int) = 0 from rfl] at q1
  rw [List.nil_append] at q2
  obtain ⟨v, q3, q4⟩ := q2.close H'
  refine ⟨v, flatC_eq2 h1 (b' := .str s) rfl ?_ q3, q4⟩
  rw [F_R05_weights_eq]
  unfold F_R05_weights
  simp only [go_sem, List.length_nil, List.nil_append, q1]
end Go.Am
namespace Go.Am
set_option linter.unusedSimpArgs false
set_option linter.unusedVariables false
set_option linter.unusedSectionVars false
set_option maxRecDepth 100000

def ordS : List Int → List Int → Int
  | [], [] => 0
  | [], _ :: _ => -1
  | _ :: _, [] => 1
  | a :: l, b :: m => if a < b then -1 else if b < a then 1 else ordS l m
theorem ordS_cons (a b : Int) (l m : List Int) : ordS (a :: l) (b :: m) = if a < b then -1 else if b < a then 1 else ordS l m := (Eq.refl _).trans (Eq.refl _)
theorem ordS_ends {l m : List Int} (h : l = [] ∨ m = []) : ordS l m = if l.length < m.length then -1 else if m.length < l.length then 1 else 0 := by
  rcases h with rfl | rfl
  · cases m <;> simp [ordS]
  · cases l <;> simp [ordS]
theorem cmpB_ord : ∀ a b : List UInt8, ordS (a.map fun c => (c.toNat : Int)) (b.map fun c => (c.toNat : Int)) = cmpB a b := by
  intro a
  induction a with
  | nil => intro b; cases b <;> simp [ordS, cmpB]
  | cons x a ih =>
    intro b
    cases b with
    | nil => simp [ordS, cmpB]
    | cons y b =>
      simp only [List.map_cons, ordS_cons, cmpB]
      by_cases h : x = y
      · subst h
        simp [ih b]
      · have hne : x.toNat ≠ y.toNat := fun e => h (UInt8.toNat_inj.1 e)
        by_cases hl : x < y
        · have : (x.toNat : Int) < y.toNat := by have := UInt8.lt_iff_toNat_lt.1 hl; omega
          simp [h, hl, this]
        · have h1 : ¬ (x.toNat : Int) < y.toNat := by
            intro h'
            exact hl (UInt8.lt_iff_toNat_lt.2 (by omega))
          have h2 : (y.toNat : Int) < x.toNat := by omega
          simp [h, hl, h1, h2]
theorem scmp_flat (a b : List UInt8) (H : Hp) : flatC C_strings_Compare [.str a, .str b] H = some (.int .i64 (cmpB a b), H) := by
  have h1 : ∀ H, flatC C_internal_bytealg_CompareString [.str a, .str b] H = some (.int .i64 (cmpB a b), H) := fun H => by
    refine flat2 (a' := .str a) (b' := .str b) (H1 := []) rfl rfl ?_ rfl
    rw [F_internal_bytealg_CompareString_eq]
    rfl
  refine flat2 (a' := .str a) (b' := .str b) (H1 := []) rfl rfl ?_ rfl
  rw [F_strings_Compare_eq]
  unfold F_strings_Compare
  simp only [h1, go_sem]

section
variable {x y : AV} {a b : List Int} (hx : Sl 1 x (a.map (AV.int .i64))) (hy : Sl 1 y (b.map (AV.int .i64))) (ha : a.length ≤ 4611686018427387904) (hb : b.length ≤ 4611686018427387904)
include hx hy ha hb
theorem order_loop (H0 H : Hp) : ∀ (k i : Nat), a.length - i = k → i ≤ a.length → i ≤ b.length →
    R05_order_L1 x y (.int .i64 (i : Int)) H0 H = some (.int .i64 (ordS (a.drop i) (b.drop i)), H) := by
  have hla := hx.len 3
  have hlb := hy.len 3
  rw [List.length_map] at hla hlb
  have fin : ∀ i, i ≤ a.length → i ≤ b.length → (i = a.length ∨ i = b.length) → R05_order_J1 x y H0 H = some (.int .i64 (ordS (a.drop i) (b.drop i)), H) := by
    intro i h1 h2 h3
    have he : a.drop i = [] ∨ b.drop i = [] := h3.imp (fun h => List.drop_eq_nil_iff.2 (by omega)) (fun h => List.drop_eq_nil_iff.2 (by omega))
    rw [ordS_ends he, R05_order_J1_eq]
    simp only [List.length_drop, go_sem, hla, hlb]
    by_cases hlt : a.length < b.length
    · have c : decide ((a.length : Int) < (b.length : Int)) = true := by simp; omega
      simp only [c, go_sem]
      rw [if_pos (by omega)]
    · have c : decide ((a.length : Int) < (b.length : Int)) = false := by simp; omega
      simp only [c, go_sem, R05_order_J2_eq, hla, hlb]
      rw [if_neg (by omega)]
      by_cases hgt : b.length < a.length
      · have c : decide ((b.length : Int) < (a.length : Int)) = true := by simp; omega
        simp only [c, go_sem]
        rw [if_pos (by omega)]
      · have c : decide ((b.length : Int) < (a.length : Int)) = false := by simp; omega
        simp only [c, go_sem, R05_order_J3_eq]
        rw [if_neg (by omega)]
  intro k
  induction k with
  | zero =>
    intro i hk h1 h2
    rw [R05_order_L1_eq]
    have hlt : decide ((i : Int) < (a.length : Int)) = false := by simp; omega
    simp only [go_sem, hla, hlt]
    exact fin i h1 h2 (.inl (by omega))
  | succ k ih =>
    intro i hk h1 h2
    rw [R05_order_L1_eq]
    have hi : i < a.length := by omega
    have hlt : decide ((i : Int) < (a.length : Int)) = true := by simp; omega
    have hw : IntKind.i64.wrap ((i : Int) + 1) = ((i + 1 : Nat) : Int) := by rw [wrap64 (by omega) (by omega)]; omega
    simp only [go_sem, hla, hlb, hlt]
    by_cases hib : i < b.length
    · have hltb : decide ((i : Int) < (b.length : Int)) = true := by simp; omega
      simp only [hltb, go_sem, R05_order_J4_eq, hx.ints hi, hy.ints hib, aload_vpc]
      rw [List.drop_eq_getElem_cons hi, List.drop_eq_getElem_cons hib, ordS_cons]
      by_cases c1 : a[i] < b[i]
      · simp only [decide_eq_true c1, go_sem, if_pos c1]
      · simp only [decide_eq_false c1, go_sem, if_neg c1, R05_order_J6_eq, hx.ints hi, hy.ints hib, aload_vpc]
        by_cases c2 : b[i] < a[i]
        · simp only [decide_eq_true c2, go_sem, if_pos c2]
        · simp only [decide_eq_false c2, go_sem, if_neg c2, R05_order_J5_eq, hw]
          exact ih (i + 1) (by omega) (by omega) (by omega)
    · have hltb : decide ((i : Int) < (b.length : Int)) = false := by simp; omega
      simp only [hltb, go_sem]
      exact fin i h1 h2 (.inr (by omega))
theorem order_spec (H : Hp) : C_R05_order [x, y] H = some (.int .i64 (ordS a b), H) := by
  rw [F_R05_order_eq]
  unfold F_R05_order
  have := order_loop hx hy ha hb H H a.length 0 rfl (by omega) (by omega)
  rw [show ((0 : Nat) : Int) = 0 from rfl, List.drop_zero, List.drop_zero] at this
  exact this
theorem pcmp_loop (s t : List UInt8) (H0 H : Hp) : ∀ (k i : Nat), min a.length b.length - i = k → i ≤ min a.length b.length →
    locale_Compare_L1 (.str s) (.str t) x y (.int .i64 ((min a.length b.length : Nat) : Int)) (.int .i64 (i : Int)) H0 H = some (.int .i64 (if (ordS (a.drop i) (b.drop i) != 0) = true then ordS (a.drop i) (b.drop i) else cmpB s t), H) := by
  have hla := hx.len 3
  have hlb := hy.len 3
  rw [List.length_map] at hla hlb
  intro k
  induction k with
  | zero =>
    intro i hk hi
    rw [locale_Compare_L1_eq]
    have hlt : decide ((i : Int) < ((min a.length b.length : Nat) : Int)) = false := by simp; omega
    have he : a.drop i = [] ∨ b.drop i = [] := by
      rcases Nat.le_total a.length b.length with h | h
      · exact .inl (List.drop_eq_nil_iff.2 (by omega))
      · exact .inr (List.drop_eq_nil_iff.2 (by omega))
    rw [ordS_ends he]
    simp only [List.length_drop, go_sem, hlt, locale_Compare_J1_eq, hla, hlb]
    by_cases h1 : a.length < b.length
    · have c : decide ((a.length : Int) < (b.length : Int)) = true := by simp; omega
      have h1' : a.length - i < b.length - i := by omega
      simp only [c, go_sem, h1', if_true]
      rfl
    · have c : decide ((a.length : Int) < (b.length : Int)) = false := by simp; omega
      have h1' : ¬ a.length - i < b.length - i := by omega
      simp only [c, go_sem, h1', if_false, locale_Compare_J2_eq, hla, hlb]
      by_cases h2 : b.length < a.length
      · have c : decide ((b.length : Int) < (a.length : Int)) = true := by simp; omega
        have h2' : b.length - i < a.length - i := by omega
        simp only [c, go_sem, h2', if_true]
        rfl
      · have c : decide ((b.length : Int) < (a.length : Int)) = false := by simp; omega
        have h2' : ¬ b.length - i < a.length - i := by omega
        simp only [c, go_sem, h2', if_false, locale_Compare_J3_eq, scmp_flat]
        rfl
  | succ k ih =>
    intro i hk hi
    rw [locale_Compare_L1_eq]
    have hia : i < a.length := by omega
    have hib : i < b.length := by omega
    have hlt : decide ((i : Int) < ((min a.length b.length : Nat) : Int)) = true := by simp; omega
    have hw : IntKind.i64.wrap ((i : Int) + 1) = ((i + 1 : Nat) : Int) := by rw [wrap64 (by omega) (by omega)]; omega
    simp only [go_sem, hlt, locale_Compare_J4_eq, hx.ints hia, hy.ints hib, aload_vpc]
    rw [List.drop_eq_getElem_cons hia, List.drop_eq_getElem_cons hib, ordS_cons]
    by_cases c1 : a[i] < b[i]
    · simp only [decide_eq_true c1, go_sem, if_pos c1]
      rfl
    · simp only [decide_eq_false c1, go_sem, if_neg c1, locale_Compare_J6_eq, hx.ints hia, hy.ints hib, aload_vpc]
      by_cases c2 : b[i] < a[i]
      · simp only [decide_eq_true c2, go_sem, if_pos c2]
        rfl
      · simp only [decide_eq_false c2, go_sem, if_neg c2, locale_Compare_J5_eq, hw]
        exact ih (i + 1) (by omega) (by omega)
end
theorem wS_len (L : Loc) : ∀ (n : Nat) (s : List UInt8), s.length ≤ n → (wS L s).length ≤ s.length := by
  intro n
  induction n with
  | zero => intro s h; have : s = [] := List.length_eq_zero_iff.1 (by omega); subst this; simp [wS]
  | succ n ih =>
    intro s h
    match s, h with
    | [], _ => simp [wS]
    | [b], _ => simp [wS]
    | b :: c :: r, h =>
      rw [wS_two]
      simp only [List.length_cons] at h
      cases L.els.find? (matchE (b :: c :: r)) with
      | none => have := ih (c :: r) (by simp; omega); simp only [List.length_cons] at this ⊢; omega
      | some e => have := ih r (by omega); simp only [List.length_cons]; omega
theorem validL_els (L : Loc) : (validL L).els.length ≤ 64 := by
  unfold validL
  cases h : (lcheckS L != 0) with
  | true => simp [defL]
  | false =>
    simp only [lcheckS, bne_eq_false_iff_eq] at h
    have : elsS L.els = 0 := by
      split at h
      · split at h
        · cases h
        · split at h
          · cases h
          · unfold tailS at h
            split at h
            · rename_i h1; simp [h] at h1
            · exact h
      · cases h
    unfold elsS at this
    split at this
    · cases this
    · simp; omega
def cmpS (L : Loc) (s t : List UInt8) : Int := if (ordS (wS (validL L) s) (wS (validL L) t) != 0) = true then ordS (wS (validL L) s) (wS (validL L) t) else cmpB s t
theorem lcmp_flat {v : AV} {L : Loc} (h : LocAV v L) (hok : LocOk L) (s t : List UInt8) (hs : s.length ≤ 1048576) (ht : t.length ≤ 1048576) (H : Hp) : flatC C_locale_Compare [v, .str s, .str t] H = some (.int .i64 (cmpS L s t), H) := by
  obtain ⟨a1, h1, h2⟩ := h.close [] 0 2
  have hv := fun H => valid_flat h2 hok H
  obtain ⟨x, c, e, rfl, hx, hc, he⟩ := h2
  obtain ⟨v', hv1, xv, cv, ev, rfl, hxv, hcv, hev⟩ := hv [AObj.cells (L.cells x c e)]
  have hlc : LocCells ((validL L).cells xv cv ev) (validL L) := ⟨xv, cv, ev, rfl, hxv, hcv, hev⟩
  obtain ⟨w1, q1, q2⟩ := weights_flat hlc (validL_w L) (validL_new L) (by have := validL_els L; omega) s hs [AObj.dead]
  obtain ⟨w2, q3, q4⟩ := weights_flat hlc (validL_w L) (validL_new L) (by have := validL_els L; omega) t ht [AObj.dead]
  have hl1 := wS_len (validL L) s.length s (Nat.le_refl _)
  have hl2 := wS_len (validL L) t.length t (Nat.le_refl _)
  have hrun : C_locale_Compare [.agg (L.cells x c e), .str s, .str t] [] = some (.int .i64 (cmpS L s t), [AObj.dead]) := by
    rw [F_locale_Compare_eq]
    unfold F_locale_Compare
    have hl : aload true 6 (.ptr 0 0) [AObj.cells (L.cells x c e)] = some (.agg (L.cells x c e)) := by simp [aload, Go.Am.apart, Loc.cells]
    have hst : astoreU 6 (.ptr 0 0) (.agg ((validL L).cells xv cv ev)) [AObj.cells (L.cells x c e)] = some (.tuple [], [AObj.cells ((validL L).cells xv cv ev)]) := by simp [astoreU, astore, AV.known, AV.cells, Loc.cells, splice]
    have hfz : ∀ k : AV → Hp → Res, frzK (.ptr 0 0) [AObj.cells ((validL L).cells xv cv ev)] k = k (.vp ((validL L).cells xv cv ev)) [AObj.dead] := fun k => rfl
    have a1 : alenD (.slice 3) w1 = some (.int .i64 (wS (validL L) s).length) := by have := q2.len 3; rwa [List.length_map] at this
    have a2 : alenD (.slice 3) w2 = some (.int .i64 (wS (validL L) t).length) := by have := q4.len 3; rwa [List.length_map] at this
    have hmin : amin2 (.int .i64 ((wS (validL L) s).length : Int)) (.int .i64 ((wS (validL L) t).length : Int)) = some (.int .i64 ((min (wS (validL L) s).length (wS (validL L) t).length : Nat) : Int)) := by
      unfold amin2
      simp only [if_true]
      congr 2
      split <;> omega
    have hlp := pcmp_loop q2 q4 (by omega) (by omega) s t [] [AObj.dead] _ 0 rfl (Nat.zero_le _)
    rw [show ((0 : Nat) : Int) = 0 from rfl, List.drop_zero, List.drop_zero] at hlp
    simp only [go_sem, List.length_nil, List.nil_append, hl, hv1, hst, hfz, Q_locale_Compare_1, V_locale_Compare_1, List.cons_append, q1, q3, a1, a2, hmin, hlp]
    rfl
  exact flatC_of (args' := [.agg (L.cells x c e), .str s, .str t]) (by simp [h1]; rfl) hrun rfl
end Go.Am
namespace Go.Am
set_option linter.unusedSimpArgs false
set_option linter.unusedVariables false
set_option maxRecDepth 100000

def natS (s : List UInt8) : List Int := s.map fun c => (c.toNat : Int)
theorem cv_u8 (b : UInt8) : cvInt .i64 (.int .u8 b.toNat) = some (.int .i64 (b.toNat : Int)) := by
  have := b.toNat_lt
  simp only [cvInt, wrap64 (show -(9223372036854775808 : Int) ≤ (b.toNat : Int) by omega) (by omega)]
theorem idx_done {s done r : List UInt8} {b : UInt8} (h : s = done ++ b :: r) : aindexStr (.str s) (.int .i64 (done.length : Int)) = some (.int .u8 b.toNat) :=
  aindexStr_of (by rw [h, List.getElem?_append_right (Nat.le_refl _)]; simp)
theorem RowN.appInt {n : Nat} {H : Hp} {y : AV} {acc : List Int} (h : RowN n H 1 y (acc.map (AV.int .i64))) (hn : n ≤ H.length) (hl : acc.length ≤ 1048576) (w : Int) :
    ∃ y' H', aappE 1 8 y (.vs 1 .clip [.int .i64 w]) H = some (y', H') ∧ RowN n H' 1 y' ((acc ++ [w]).map (AV.int .i64)) ∧ n ≤ H'.length ∧ (∀ i x, H[i]? = some x → i < n → H'[i]? = some x) := by
  obtain ⟨y', H', q1, q2, q3, q4, q5⟩ := h.app hn 8 (.vs 1 .clip [.int .i64 w]) [.int .i64 w] (by simp [elems]) (by simp; omega)
  exact ⟨y', H', q1, by simpa using q2, q3, fun i x hi hin => (q4 i hin).trans hi⟩
theorem order_flat {x y : AV} {a b : List Int} (hx : Sl 1 x (a.map (AV.int .i64))) (hy : Sl 1 y (b.map (AV.int .i64))) (ha : a.length ≤ 4611686018427387904) (hb : b.length ≤ 4611686018427387904) (H : Hp) :
    flatC C_R05_order [x, y] H = some (.int .i64 (ordS a b), H) := by
  obtain ⟨x', hx1, hx2⟩ := hx.close (H := []) (n := 0) (f := 5) (fun y hy => by obtain ⟨m, _, rfl⟩ := List.mem_map.1 hy; rfl)
  obtain ⟨y', hy1, hy2⟩ := hy.close (H := []) (n := 0) (f := 5) (fun y hy => by obtain ⟨m, _, rfl⟩ := List.mem_map.1 hy; rfl)
  exact flat2 hx1 hy1 (order_spec hx2 hy2 ha hb []) rfl
theorem natS_len (s : List UInt8) : (natS s).length = s.length := by simp [natS]
theorem natS_snoc (s : List UInt8) (b : UInt8) : natS (s ++ [b]) = natS s ++ [(b.toNat : Int)] := by simp [natS]
theorem bytes_L1 {x5 : AV} {a : List Int} (hx : Sl 1 x5 (a.map (AV.int .i64))) (t : List UInt8) (ht : t.length ≤ 1048576) (ha : a.length ≤ 1048576) (H0 : Hp) : ∀ (r done : List UInt8) (y : AV) (H : Hp), t = done ++ r → RowN 0 H 1 y ((natS done).map (AV.int .i64)) →
    ∃ H', R05_Bytes_L1 (.str t) x5 y (.int .i64 (done.length : Int)) H0 H = some (.int .i64 (ordS a (natS t)), H') := by
  intro r
  induction r with
  | nil =>
    intro done y H hd hy
    rw [List.append_nil] at hd
    subst hd
    refine ⟨H, ?_⟩
    rw [R05_Bytes_L1_eq]
    have hlt : decide ((t.length : Int) < (t.length : Int)) = false := by simp
    simp only [go_sem, alen_str, hlt, R05_Bytes_J2_eq, order_flat hx hy.sl (by omega) (by rw [natS_len]; omega)]
  | cons b r ih =>
    intro done y H hd hy
    have hlen : t.length = done.length + (r.length + 1) := by rw [hd]; simp
    have hlt : decide ((done.length : Int) < (t.length : Int)) = true := by simp; omega
    have hw1 : IntKind.i64.wrap ((done.length : Int) + 1) = ((done.length + 1 : Nat) : Int) := by rw [wrap64 (by omega) (by omega)]; omega
    obtain ⟨y', H1, q1, q2, q3, q4⟩ := hy.appInt (Nat.zero_le _) (by rw [natS_len]; omega) (b.toNat : Int)
    obtain ⟨H2, q5⟩ := ih (done ++ [b]) y' H1 (by rw [hd]; simp) (by rw [natS_snoc]; exact q2)
    rw [List.length_append, List.length_singleton] at q5
    refine ⟨H2, ?_⟩
    rw [R05_Bytes_L1_eq]
    simp only [go_sem, alen_str, hlt, R05_Bytes_J3_eq, idx_done hd, cv_u8, one_i64, q1, R05_Bytes_J4_eq, hw1, q5]
theorem bytes_L2 (s t : List UInt8) (hs : s.length ≤ 1048576) (ht : t.length ≤ 1048576) (H0 : Hp) : ∀ (r done : List UInt8) (y : AV) (H : Hp), s = done ++ r → RowN 0 H 1 y ((natS done).map (AV.int .i64)) →
    ∃ H', R05_Bytes_L2 (.str s) (.str t) y .nils (.int .i64 (done.length : Int)) H0 H = some (.int .i64 (ordS (natS s) (natS t)), H') := by
  intro r
  induction r with
  | nil =>
    intro done y H hd hy
    rw [List.append_nil] at hd
    subst hd
    obtain ⟨H', h⟩ := bytes_L1 hy.sl t ht (by rw [natS_len]; omega) H0 t [] .nils H rfl (RowN.nil _ _ _)
    rw [List.length_nil, show ((0 : Nat) : Int) = 0 from rfl] at h
    refine ⟨H', ?_⟩
    rw [R05_Bytes_L2_eq]
    have hlt : decide ((s.length : Int) < (s.length : Int)) = false := by simp
    simp only [go_sem, alen_str, hlt, R05_Bytes_J1_eq, h]
  | cons b r ih =>
    intro done y H hd hy
    have hlen : s.length = done.length + (r.length + 1) := by rw [hd]; simp
    have hlt : decide ((done.length : Int) < (s.length : Int)) = true := by simp; omega
    have hw1 : IntKind.i64.wrap ((done.length : Int) + 1) = ((done.length + 1 : Nat) : Int) := by rw [wrap64 (by omega) (by omega)]; omega
    obtain ⟨y', H1, q1, q2, q3, q4⟩ := hy.appInt (Nat.zero_le _) (by rw [natS_len]; omega) (b.toNat : Int)
    obtain ⟨H2, q5⟩ := ih (done ++ [b]) y' H1 (by rw [hd]; simp) (by rw [natS_snoc]; exact q2)
    rw [List.length_append, List.length_singleton] at q5
    refine ⟨H2, ?_⟩
    rw [R05_Bytes_L2_eq]
    simp only [go_sem, alen_str, hlt, R05_Bytes_J5_eq, idx_done hd, cv_u8, one_i64, q1, R05_Bytes_J6_eq, hw1, q5]
theorem bytes_flat (s t : List UInt8) (hs : s.length ≤ 1048576) (ht : t.length ≤ 1048576) (H : Hp) : flatC C_R05_Bytes [.str s, .str t] H = some (.int .i64 (cmpB s t), H) := by
  obtain ⟨H', h⟩ := bytes_L2 s t hs ht [] s [] .nils [] rfl (RowN.nil _ _ _)
  rw [List.length_nil, show ((0 : Nat) : Int) = 0 from rfl, show ordS (natS s) (natS t) = cmpB s t from cmpB_ord s t] at h
  refine flat2 (a' := .str s) (b' := .str t) (H1 := H') rfl rfl ?_ rfl
  rw [F_R05_Bytes_eq]
  exact h
theorem rcmp_flat {v : AV} {L : Loc} (h : LocAV v L) (hok : LocOk L) (s t : List UInt8) (hs : s.length ≤ 1048576) (ht : t.length ≤ 1048576) (H : Hp) : flatC C_R05_Compare [v, .str s, .str t] H = some (.int .i64 (cmpS L s t), H) := by
  obtain ⟨a1, h1, h2⟩ := h.close [] 0 2
  have hv := fun H => rvalid_flat h2 hok H
  obtain ⟨x, c, e, rfl, hx, hc, he⟩ := h2
  obtain ⟨v', hv1, xv, cv, ev, rfl, hxv, hcv, hev⟩ := hv [AObj.cells (L.cells x c e)]
  have hlv : LocAV (.agg ((validL L).cells xv cv ev)) (validL L) := ⟨xv, cv, ev, rfl, hxv, hcv, hev⟩
  obtain ⟨w1, q1, q2⟩ := rweights_flat hlv (validL_w L) (by have := validL_els L; omega) s hs [AObj.cells ((validL L).cells xv cv ev)]
  obtain ⟨w2, q3, q4⟩ := rweights_flat hlv (validL_w L) (by have := validL_els L; omega) t ht [AObj.cells ((validL L).cells xv cv ev)]
  have hl1 := wS_len (validL L) s.length s (Nat.le_refl _)
  have hl2 := wS_len (validL L) t.length t (Nat.le_refl _)
  have hrun : C_R05_Compare [.agg (L.cells x c e), .str s, .str t] [] = some (.int .i64 (cmpS L s t), [AObj.cells ((validL L).cells xv cv ev)]) := by
    rw [F_R05_Compare_eq]
    unfold F_R05_Compare
    have hl : aload true 6 (.ptr 0 0) [AObj.cells (L.cells x c e)] = some (.agg (L.cells x c e)) := by simp [aload, Go.Am.apart, Loc.cells]
    have hst : astoreU 6 (.ptr 0 0) (.agg ((validL L).cells xv cv ev)) [AObj.cells (L.cells x c e)] = some (.tuple [], [AObj.cells ((validL L).cells xv cv ev)]) := by simp [astoreU, astore, AV.known, AV.cells, Loc.cells, splice]
    have hl2' : aload true 6 (.ptr 0 0) [AObj.cells ((validL L).cells xv cv ev)] = some (.agg ((validL L).cells xv cv ev)) := by simp [aload, Go.Am.apart, Loc.cells]
    unfold cmpS
    simp only [go_sem, List.length_nil, List.nil_append, hl, hv1, hst, hl2', q1, q3, order_flat q2 q4 (by omega) (by omega)]
    cases hc : (ordS (wS (validL L) s) (wS (validL L) t) != 0) with
    | true => rfl
    | false => simp only [go_sem, R05_Compare_J1_eq, bytes_flat s t hs ht, Bool.false_eq_true, if_false]
  exact flatC_of (args' := [.agg (L.cells x c e), .str s, .str t]) (by simp [h1]; rfl) hrun rfl
end Go.Am
namespace Go.Am
set_option linter.unusedSimpArgs false
set_option linter.unusedVariables false
set_option maxRecDepth 100000

def isD (b : UInt8) : Bool := decide (48 ≤ (b.toNat : Int)) && decide ((b.toNat : Int) ≤ 57)
def skipD (l : List UInt8) : Nat := (l.takeWhile isD).length
theorem skipD_nil : skipD [] = 0 := rfl
theorem skipD_cons (b : UInt8) (l : List UInt8) : skipD (b :: l) = if isD b then skipD l + 1 else 0 := by
  unfold skipD; rw [List.takeWhile_cons]; split <;> simp_all
theorem skipD_le (l : List UInt8) : skipD l ≤ l.length := by
  induction l with
  | nil => simp [skipD]
  | cons b l ih => rw [skipD_cons]; split <;> simp <;> omega
theorem digits_loop {s : List UInt8} (hs : s.length ≤ 1048576) (H0 H : Hp) : ∀ (k p : Nat), s.length - p = k → p ≤ s.length →
    decimal_digits_L1 (.str s) (.int .i64 (p : Int)) H0 H = some (.int .i64 ((p + skipD (s.drop p) : Nat) : Int), H) := by
  intro k
  induction k with
  | zero =>
    intro p hk hp
    rw [decimal_digits_L1_eq]
    have hlt : decide ((p : Int) < (s.length : Int)) = false := by simp; omega
    have hd : s.drop p = [] := List.drop_eq_nil_iff.2 (by omega)
    simp only [go_sem, hlt, hd, skipD_nil, Nat.add_zero, decimal_digits_J1_eq]
  | succ k ih =>
    intro p hk hp
    rw [decimal_digits_L1_eq]
    have hlt : decide ((p : Int) < (s.length : Int)) = true := by simp; omega
    have hl : p < s.length := by omega
    have hw : IntKind.i64.wrap ((p : Int) + 1) = ((p + 1 : Nat) : Int) := by rw [wrap64 (by omega) (by omega)]; omega
    simp only [go_sem, hlt, aindexStr_of (List.getElem?_eq_getElem hl)]
    rw [drop_cons hl, skipD_cons]
    cases h1 : decide (48 ≤ ((s[p].toNat : Int))) with
    | false => simp only [isD, h1, go_sem, Bool.false_and, Bool.false_eq_true, if_false, Nat.add_zero, decimal_digits_J1_eq]
    | true =>
      cases h2 : decide (((s[p].toNat : Int)) ≤ 57) with
      | false => simp only [isD, h1, h2, go_sem, aindexStr_of (List.getElem?_eq_getElem hl), Bool.and_false, Bool.false_eq_true, if_false, Nat.add_zero, decimal_digits_J1_eq]
      | true =>
        simp only [isD, h1, h2, go_sem, aindexStr_of (List.getElem?_eq_getElem hl), Bool.and_true, if_true, decimal_digits_J2_eq, hw]
        rw [ih (p + 1) (by omega) (by omega), show p + 1 + skipD (s.drop (p + 1)) = p + (skipD (s.drop (p + 1)) + 1) by omega]
theorem digits_flat (s : List UInt8) (hs : s.length ≤ 1048576) (H : Hp) : flatC C_decimal_digits [.str s] H = some (.int .i64 (skipD s : Int), H) := by
  refine flat1 (a' := .str s) (H1 := []) rfl ?_ rfl
  rw [F_decimal_digits_eq]
  have := digits_loop hs [] [] s.length 0 rfl (by omega)
  rw [show ((0 : Nat) : Int) = 0 from rfl, List.drop_zero, Nat.zero_add] at this
  exact this
theorem rdigits_loop {s : List UInt8} (hs : s.length ≤ 1048576) (H0 H : Hp) : ∀ (k p : Nat), s.length - p = k → p ≤ s.length →
    R02_digits_L1 (.str s) (.int .i64 (p : Int)) H0 H = some (.int .i64 ((p + skipD (s.drop p) : Nat) : Int), H) := by
  intro k
  induction k with
  | zero =>
    intro p hk hp
    rw [R02_digits_L1_eq]
    have hlt : decide ((p : Int) < (s.length : Int)) = false := by simp; omega
    have hd : s.drop p = [] := List.drop_eq_nil_iff.2 (by omega)
    simp only [go_sem, hlt, hd, skipD_nil, Nat.add_zero, R02_digits_J1_eq]
  | succ k ih =>
    intro p hk hp
    rw [R02_digits_L1_eq]
    have hlt : decide ((p : Int) < (s.length : Int)) = true := by simp; omega
    have hl : p < s.length := by omega
    have hw : IntKind.i64.wrap ((p : Int) + 1) = ((p + 1 : Nat) : Int) := by rw [wrap64 (by omega) (by omega)]; omega
    simp only [go_sem, hlt, aindexStr_of (List.getElem?_eq_getElem hl)]
    rw [drop_cons hl, skipD_cons]
    cases h1 : decide (48 ≤ ((s[p].toNat : Int))) with
    | false => simp only [isD, h1, go_sem, Bool.false_and, Bool.false_eq_true, if_false, Nat.add_zero, R02_digits_J1_eq]
    | true =>
      cases h2 : decide (((s[p].toNat : Int)) ≤ 57) with
      | false => simp only [isD, h1, h2, go_sem, aindexStr_of (List.getElem?_eq_getElem hl), Bool.and_false, Bool.false_eq_true, if_false, Nat.add_zero, R02_digits_J1_eq]
      | true =>
        simp only [isD, h1, h2, go_sem, aindexStr_of (List.getElem?_eq_getElem hl), Bool.and_true, if_true, R02_digits_J2_eq, hw]
        rw [ih (p + 1) (by omega) (by omega), show p + 1 + skipD (s.drop (p + 1)) = p + (skipD (s.drop (p + 1)) + 1) by omega]
theorem rdigits_flat (s : List UInt8) (hs : s.length ≤ 1048576) {p : Nat} (hp : p ≤ s.length) (H : Hp) : flatC C_R02_digits [.str s, .int .i64 (p : Int)] H = some (.int .i64 ((p + skipD (s.drop p) : Nat) : Int), H) := by
  refine flat2 (a' := .str s) (b' := .int .i64 (p : Int)) (H1 := []) rfl rfl ?_ rfl
  rw [F_R02_digits_eq]
  exact rdigits_loop hs [] [] _ p rfl hp

def dg (b : UInt8) : Int := IntKind.u8.wrap ((b.toNat : Int) - 48)
theorem dg_range (b : UInt8) : 0 ≤ dg b ∧ dg b ≤ 255 := by
  unfold dg
  have h := b.toNat_lt
  show 0 ≤ ((b.toNat : Int) - 48) % 256 ∧ ((b.toNat : Int) - 48) % 256 ≤ 255
  omega
theorem cv_dg (b : UInt8) : cvInt .i64 (.int .u8 (IntKind.u8.wrap ((b.toNat : Int) - 48))) = some (.int .i64 (dg b)) := by
  have := dg_range b
  show some (AV.int .i64 (IntKind.i64.wrap (dg b))) = _
  rw [wrap64 (by omega) (by omega)]
def fr : Nat → List UInt8 → Int → Int
  | 0, _, d => d
  | k + 1, [], d => fr k [] (d * 10)
  | k + 1, b :: l, d => fr k l (d * 10 + dg b)
theorem fr_nil (k : Nat) (d : Int) : fr (k + 1) [] d = fr k [] (d * 10) := (Eq.refl _).trans (Eq.refl _)
theorem fr_cons (k : Nat) (b : UInt8) (l : List UInt8) (d : Int) : fr (k + 1) (b :: l) d = fr k l (d * 10 + dg b) := (Eq.refl _).trans (Eq.refl _)
theorem frac_loop (s : List UInt8) (hs : s.length ≤ 1048576) (H0 H : Hp) : ∀ (k i : Nat) (d p : Int), i + k = 4 → 0 ≤ d → d + 1000 ≤ 2000000000 * p → p * 10 ^ k ≤ 10000 →
    decimal_fraction_L1 (.str s) (.int .i64 d) (.int .i64 (i : Int)) H0 H = some (.int .i64 (fr k (s.drop i) d), H) := by
  intro k
  induction k with
  | zero =>
    intro i d p hik h0 h1 h2
    rw [decimal_fraction_L1_eq]
    have hlt : decide ((i : Int) < 4) = false := by simp; omega
    simp only [go_sem, hlt, decimal_fraction_J1_eq, fr]
  | succ k ih =>
    intro i d p hik h0 h1 h2
    rw [decimal_fraction_L1_eq]
    have hlt : decide ((i : Int) < 4) = true := by simp; omega
    have hwi : IntKind.i64.wrap ((i : Int) + 1) = ((i + 1 : Nat) : Int) := by rw [wrap64 (by omega) (by omega)]; omega
    have h2' : p * 10 * 10 ^ k ≤ 10000 := by rw [Int.mul_assoc, show (10 : Int) * 10 ^ k = 10 ^ (k + 1) by rw [Int.pow_succ, Int.mul_comm]]; exact h2
    have hpk : (1 : Int) ≤ 10 ^ k := Int.add_one_le_iff.2 (Int.pow_pos (by decide))
    have hp : p * 10 ≤ 10000 := by
      by_cases hp0 : 0 ≤ p
      · have := Int.mul_le_mul_of_nonneg_left hpk (show 0 ≤ p * 10 by omega)
        omega
      · omega
    have hwd : IntKind.i64.wrap (d * 10) = d * 10 := wrap64 (by omega) (by omega)
    simp only [go_sem, hlt, decimal_fraction_J2_eq, hwd, alen_str]
    by_cases hi : i < s.length
    · have hb := dg_range s[i]
      have hlti : decide ((i : Int) < (s.length : Int)) = true := by simp; omega
      have hwd2 : IntKind.i64.wrap (d * 10 + dg s[i]) = d * 10 + dg s[i] := wrap64 (by omega) (by omega)
      simp only [hlti, go_sem, aindexStr_of (List.getElem?_eq_getElem hi), cv_dg, hwd2, decimal_fraction_J3_eq, hwi]
      rw [ih (i + 1) _ (p * 10) (by omega) (by omega) (by omega) h2', drop_cons hi, fr_cons]
    · have hlti : decide ((i : Int) < (s.length : Int)) = false := by simp; omega
      have hd : s.drop i = [] := List.drop_eq_nil_iff.2 (by omega)
      have hd1 : s.drop (i + 1) = [] := List.drop_eq_nil_iff.2 (by omega)
      simp only [hlti, go_sem, decimal_fraction_J3_eq, hwi]
      rw [ih (i + 1) _ (p * 10) (by omega) (by omega) (by omega) h2', hd, hd1, fr_nil]
theorem frac_flat (s : List UInt8) (hs : s.length ≤ 1048576) (H : Hp) : flatC C_decimal_fraction [.str s] H = some (.int .i64 (fr 4 s 0), H) := by
  refine flat1 (a' := .str s) (H1 := []) rfl ?_ rfl
  rw [F_decimal_fraction_eq]
  have := frac_loop s hs [] [] 4 0 0 1 rfl (by omega) (by omega) (by decide)
  rw [show ((0 : Nat) : Int) = 0 from rfl, List.drop_zero] at this
  exact this
theorem rfrac_loop (s : List UInt8) (hs : s.length ≤ 1048576) (H0 H : Hp) : ∀ (k i : Nat) (d p : Int), i + k = 4 → 0 ≤ d → d + 1000 ≤ 2000000000 * p → p * 10 ^ k ≤ 10000 →
    R02_number_L1 (.str s) (.int .i64 d) (.int .i64 (i : Int)) H0 H = some (.tuple [.int .i64 (fr k (s.drop i) d), .bool (decide (fr k (s.drop i) d ≤ 10000000000000))], H) := by
  intro k
  induction k with
  | zero =>
    intro i d p hik h0 h1 h2
    rw [R02_number_L1_eq]
    have hlt : decide ((i : Int) < 4) = false := by simp; omega
    simp only [go_sem, hlt, R02_number_J2_eq, fr]
    rfl
  | succ k ih =>
    intro i d p hik h0 h1 h2
    rw [R02_number_L1_eq]
    have hlt : decide ((i : Int) < 4) = true := by simp; omega
    have hwi : IntKind.i64.wrap ((i : Int) + 1) = ((i + 1 : Nat) : Int) := by rw [wrap64 (by omega) (by omega)]; omega
    have h2' : p * 10 * 10 ^ k ≤ 10000 := by rw [Int.mul_assoc, show (10 : Int) * 10 ^ k = 10 ^ (k + 1) by rw [Int.pow_succ, Int.mul_comm]]; exact h2
    have hpk : (1 : Int) ≤ 10 ^ k := Int.add_one_le_iff.2 (Int.pow_pos (by decide))
    have hp : p * 10 ≤ 10000 := by
      by_cases hp0 : 0 ≤ p
      · have := Int.mul_le_mul_of_nonneg_left hpk (show 0 ≤ p * 10 by omega)
        omega
      · omega
    have hwd : IntKind.i64.wrap (d * 10) = d * 10 := wrap64 (by omega) (by omega)
    simp only [go_sem, hlt, R02_number_J3_eq, hwd, alen_str]
    by_cases hi : i < s.length
    · have hb := dg_range s[i]
      have hlti : decide ((i : Int) < (s.length : Int)) = true := by simp; omega
      have hwd2 : IntKind.i64.wrap (d * 10 + dg s[i]) = d * 10 + dg s[i] := wrap64 (by omega) (by omega)
      simp only [hlti, go_sem, aindexStr_of (List.getElem?_eq_getElem hi), cv_dg, hwd2, R02_number_J4_eq, hwi]
      rw [ih (i + 1) _ (p * 10) (by omega) (by omega) (by omega) h2', drop_cons hi, fr_cons]
    · have hlti : decide ((i : Int) < (s.length : Int)) = false := by simp; omega
      have hd : s.drop i = [] := List.drop_eq_nil_iff.2 (by omega)
      have hd1 : s.drop (i + 1) = [] := List.drop_eq_nil_iff.2 (by omega)
      simp only [hlti, go_sem, R02_number_J4_eq, hwi]
      rw [ih (i + 1) _ (p * 10) (by omega) (by omega) (by omega) h2', hd, hd1, fr_nil]
def valW : List UInt8 → Int → Option Int
  | [], d => some d
  | b :: l, d => if 1000000000 < d * 10 + dg b then none else valW l (d * 10 + dg b)
theorem valW_cons (b : UInt8) (l : List UInt8) (d : Int) : valW (b :: l) d = if 1000000000 < d * 10 + dg b then none else valW l (d * 10 + dg b) := (Eq.refl _).trans (Eq.refl _)
theorem fr_split : ∀ (k : Nat) (l : List UInt8) (d : Int), fr k l d = d * 10 ^ k + fr k l 0 := by
  intro k
  induction k with
  | zero => intro l d; simp [fr]
  | succ k ih =>
    intro l d
    cases l with
    | nil => rw [fr_nil, fr_nil, ih, ih _ (0 * 10), Int.pow_succ]; simp only [Int.zero_mul, Int.zero_add]; rw [Int.mul_assoc, Int.mul_comm 10]
    | cons b l => rw [fr_cons, fr_cons, ih, ih _ (0 * 10 + dg b), Int.pow_succ, Int.add_mul]; simp only [Int.zero_mul, Int.zero_add]; rw [Int.mul_assoc, Int.mul_comm 10]; omega
theorem fr4_range (l : List UInt8) : 0 ≤ fr 4 l 0 ∧ fr 4 l 0 ≤ 1000000 := by
  match l with
  | [] => simp [fr]
  | [a] => have := dg_range a; simp [fr]; omega
  | [a, b] => have := dg_range a; have := dg_range b; simp [fr]; omega
  | [a, b, c] => have := dg_range a; have := dg_range b; have := dg_range c; simp [fr]; omega
  | a :: b :: c :: d :: l => have := dg_range a; have := dg_range b; have := dg_range c; have := dg_range d; simp [fr]; omega
theorem fr4_take (l : List UInt8) : fr 4 (l.take 4) 0 = fr 4 l 0 := by
  match l with
  | [] => rfl
  | [a] => rfl
  | [a, b] => rfl
  | [a, b, c] => rfl
  | a :: b :: c :: d :: l => rfl
def numS (w f : List UInt8) : Option Int := match valW w 0 with
  | none => none
  | some d => some (d * 10000 + fr 4 f 0)
def valS (w f : List UInt8) : Int := match numS w f with
  | none => 10000000000001
  | some n => min 10000000000001 n
theorem value_loop (s f : List UInt8) (hs : s.length ≤ 1048576) (hf : f.length ≤ 1048576) (H0 H : Hp) : ∀ (r done : List UInt8) (d : Int), s = done ++ r → 0 ≤ d → d ≤ 1000000000 →
    decimal_value_L1 (.str s) (.str f) (.int .i64 d) (.int .i64 (s.length : Int)) (.int .i64 (done.length : Int)) H0 H = some (.int .i64 (match valW r d with
      | none => 10000000000001
      | some n => min 10000000000001 (n * 10000 + fr 4 f 0)), H) := by
  intro r
  induction r with
  | nil =>
    intro done d hd h0 h1
    rw [List.append_nil] at hd
    subst hd
    rw [decimal_value_L1_eq]
    have hlt : decide ((s.length : Int) < (s.length : Int)) = false := by simp
    have hfr := fr4_range f
    have hw1 : IntKind.i64.wrap (d * 10000) = d * 10000 := wrap64 (by omega) (by omega)
    have hw2 : IntKind.i64.wrap (d * 10000 + fr 4 f 0) = d * 10000 + fr 4 f 0 := wrap64 (by omega) (by omega)
    simp only [go_sem, hlt, decimal_value_J1_eq, hw1, frac_flat f hf, hw2, valW]
  | cons b r ih =>
    intro done d hd h0 h1
    have hlen : s.length = done.length + (r.length + 1) := by rw [hd]; simp
    have hlt : decide ((done.length : Int) < (s.length : Int)) = true := by simp; omega
    have hwi : IntKind.i64.wrap ((done.length : Int) + 1) = ((done.length + 1 : Nat) : Int) := by rw [wrap64 (by omega) (by omega)]; omega
    have hb := dg_range b
    have hw1 : IntKind.i64.wrap (10 * d) = d * 10 := by rw [wrap64 (by omega) (by omega)]; omega
    have hw2 : IntKind.i64.wrap (d * 10 + dg b) = d * 10 + dg b := wrap64 (by omega) (by omega)
    rw [decimal_value_L1_eq, valW_cons]
    simp only [go_sem, hlt, decimal_value_J2_eq, hw1, idx_done hd, cv_dg, hw2]
    by_cases hg : 1000000000 < d * 10 + dg b
    · simp only [decide_eq_true hg, go_sem, if_pos hg]
    · have := ih (done ++ [b]) (d * 10 + dg b) (by rw [hd]; simp) (by omega) (by omega)
      rw [List.length_append, List.length_singleton] at this
      simp only [decide_eq_false hg, go_sem, if_neg hg, decimal_value_J3_eq, hwi, this]
theorem value_flat (s f : List UInt8) (hs : s.length ≤ 1048576) (hf : f.length ≤ 1048576) (H : Hp) : flatC C_decimal_value [.str s, .str f] H = some (.int .i64 (valS s f), H) := by
  refine flat2 (a' := .str s) (b' := .str f) (H1 := []) rfl rfl ?_ rfl
  rw [F_decimal_value_eq]
  unfold F_decimal_value
  have := value_loop s f hs hf [] [] s [] 0 rfl (by omega) (by omega)
  rw [List.length_nil, show ((0 : Nat) : Int) = 0 from rfl] at this
  simp only [go_sem, this]
  unfold valS numS
  cases valW s 0 <;> rfl
theorem rnumber_loop (s f : List UInt8) (hs : s.length ≤ 1048576) (hf : f.length ≤ 1048576) (H0 H : Hp) : ∀ (r done : List UInt8) (d : Int), s = done ++ r → 0 ≤ d → d ≤ 1000000000 →
    R02_number_L2 (.str s) (.str f) (.int .i64 d) (.int .i64 (done.length : Int)) H0 H = some (match valW r d with
      | none => .tuple [.int .i64 0, .bool false]
      | some n => .tuple [.int .i64 (n * 10000 + fr 4 f 0), .bool (decide (n * 10000 + fr 4 f 0 ≤ 10000000000000))], H) := by
  intro r
  induction r with
  | nil =>
    intro done d hd h0 h1
    rw [List.append_nil] at hd
    subst hd
    rw [R02_number_L2_eq]
    have hlt : decide ((s.length : Int) < (s.length : Int)) = false := by simp
    have := rfrac_loop f hf H0 H 4 0 d 1 rfl h0 (by omega) (by decide)
    rw [show ((0 : Nat) : Int) = 0 from rfl, List.drop_zero, fr_split 4 f d] at this
    simp only [go_sem, hlt, R02_number_J1_eq, this, valW]
    rfl
  | cons b r ih =>
    intro done d hd h0 h1
    have hlen : s.length = done.length + (r.length + 1) := by rw [hd]; simp
    have hlt : decide ((done.length : Int) < (s.length : Int)) = true := by simp; omega
    have hwi : IntKind.i64.wrap ((done.length : Int) + 1) = ((done.length + 1 : Nat) : Int) := by rw [wrap64 (by omega) (by omega)]; omega
    have hb := dg_range b
    have hw1 : IntKind.i64.wrap (d * 10) = d * 10 := wrap64 (by omega) (by omega)
    have hw2 : IntKind.i64.wrap (d * 10 + dg b) = d * 10 + dg b := wrap64 (by omega) (by omega)
    rw [R02_number_L2_eq, valW_cons]
    simp only [go_sem, hlt, R02_number_J5_eq, hw1, idx_done hd, cv_dg, hw2]
    by_cases hg : 1000000000 < d * 10 + dg b
    · simp only [decide_eq_true hg, go_sem, if_pos hg]
    · have := ih (done ++ [b]) (d * 10 + dg b) (by rw [hd]; simp) (by omega) (by omega)
      rw [List.length_append, List.length_singleton] at this
      simp only [decide_eq_false hg, go_sem, if_neg hg, R02_number_J6_eq, hwi, this]
theorem rnumber_flat (s f : List UInt8) (hs : s.length ≤ 1048576) (hf : f.length ≤ 1048576) (H : Hp) : flatC C_R02_number [.str s, .str f] H = some (match numS s f with
      | none => .tuple [.int .i64 0, .bool false]
      | some n => .tuple [.int .i64 n, .bool (decide (n ≤ 10000000000000))], H) := by
  have := rnumber_loop s f hs hf [] [] s [] 0 rfl (by omega) (by omega)
  rw [List.length_nil, show ((0 : Nat) : Int) = 0 from rfl] at this
  unfold numS
  cases h : valW s 0 with
  | none =>
    rw [h] at this
    refine flat2 (a' := .str s) (b' := .str f) (H1 := []) rfl rfl ?_ rfl
    rw [F_R02_number_eq]
    exact this
  | some n =>
    rw [h] at this
    refine flat2 (a' := .str s) (b' := .str f) (H1 := []) rfl rfl ?_ rfl
    rw [F_R02_number_eq]
    exact this
end Go.Am
namespace Go.Am
set_option linter.unusedSimpArgs false
set_option linter.unusedVariables false
set_option maxRecDepth 100000

def finV (neg : Bool) (n : Nat) (w f : List UInt8) : Int :=
  if n = 0 ∧ f = [] then 0 else if neg then -(min 10000000000000 (valS w f)) else min 10000000000000 (valS w f)
def preV (neg : Bool) (r : List UInt8) : Int :=
  match r.drop (skipD r) with
  | [] => finV neg (skipD r) (r.take (skipD r)) []
  | b :: q => if (((b.toNat : Int) == 46) && (decide (0 < skipD r) || decide (0 < skipD q))) = true then finV neg (skipD r) (r.take (skipD r)) (q.take (skipD q)) else finV neg (skipD r) (r.take (skipD r)) []
theorem preV_nil {neg : Bool} {r : List UInt8} (h : r.drop (skipD r) = []) : preV neg r = finV neg (skipD r) (r.take (skipD r)) [] := by unfold preV; rw [h]
theorem preV_cons {neg : Bool} {r : List UInt8} {b : UInt8} {q : List UInt8} (h : r.drop (skipD r) = b :: q) : preV neg r = if (((b.toNat : Int) == 46) && (decide (0 < skipD r) || decide (0 < skipD q))) = true then finV neg (skipD r) (r.take (skipD r)) (q.take (skipD q)) else finV neg (skipD r) (r.take (skipD r)) [] := by unfold preV; rw [h]
theorem valW_range : ∀ (l : List UInt8) (d n : Int), 0 ≤ d → d ≤ 1000000000 → valW l d = some n → 0 ≤ n ∧ n ≤ 1000000000 := by
  intro l
  induction l with
  | nil => intro d n h0 h1 h; injection h with h; subst h; exact ⟨h0, h1⟩
  | cons b l ih =>
    intro d n h0 h1 h
    rw [valW_cons] at h
    have := dg_range b
    split at h
    · cases h
    · exact ih _ n (by omega) (by omega) h
theorem numS_range {w f : List UInt8} {n : Int} (h : numS w f = some n) : 0 ≤ n ∧ n ≤ 10000001000000 := by
  unfold numS at h
  split at h
  · cases h
  · rename_i d hd
    injection h with h
    have := valW_range w 0 d (by omega) (by omega) hd
    have := fr4_range f
    omega
theorem valS_range (w f : List UInt8) : 0 ≤ valS w f ∧ valS w f ≤ 10000000000001 := by
  unfold valS
  split
  · omega
  · rename_i n h
    have := numS_range h
    omega
theorem aext0 (x y : AV) : aext (.tuple [x, y]) 0 = some x := rfl
theorem aext1 (x y : AV) : aext (.tuple [x, y]) 1 = some y := rfl
theorem aun_neg (n : Int) : aun .neg (.int .i64 n) = some (.int .i64 (IntKind.i64.wrap (0 - n))) := (Eq.refl _).trans (Eq.refl _)
theorem pre_J3 (neg : Bool) (n : Nat) (w f : List UInt8) (hw : w.length ≤ 1048576) (hf : f.length ≤ 1048576) (e : Int) (H0 H : Hp) :
    ∃ e', decimal_Prefix_J3 (.bool neg) (.int .i64 (n : Int)) (.str w) (.str f) (.int .i64 e) H0 H = some (.tuple [.int .i64 (finV neg n w f), .int .i64 e'], H) := by
  have hv := valS_range w f
  have hmin : amin2 (.int .i64 10000000000000) (.int .i64 (valS w f)) = some (.int .i64 (min 10000000000000 (valS w f))) := by
    unfold amin2
    simp only [if_true]
    congr 2
    split <;> omega
  have hneg : IntKind.i64.wrap (0 - min 10000000000000 (valS w f)) = -(min 10000000000000 (valS w f)) := by rw [wrap64 (by omega) (by omega)]; omega
  have hJ4 : decimal_Prefix_J4 (.bool neg) (.str w) (.str f) (.int .i64 e) H0 H = some (.tuple [.int .i64 (if neg then -(min 10000000000000 (valS w f)) else min 10000000000000 (valS w f)), .int .i64 e], H) := by
    rw [decimal_Prefix_J4_eq]
    simp only [go_sem, value_flat w f hw hf, hmin]
    cases neg with
    | true => simp only [go_sem, aun_neg, hneg, decimal_Prefix_J5_eq, if_true]
    | false => simp only [go_sem, decimal_Prefix_J5_eq, Bool.false_eq_true, if_false]
  have hs : sbin .eql (.str f) (.str []) = some (.bool (f == [])) := rfl
  rw [decimal_Prefix_J3_eq]
  unfold finV
  cases n with
  | zero =>
    cases f with
    | nil => exact ⟨0, by simp [go_sem, sbin]; rfl⟩
    | cons b f =>
      have hs : sbin .eql (.str (b :: f)) (.str []) = some (.bool false) := rfl
      refine ⟨e, ?_⟩
      simp [go_sem, hs, hJ4]
  | succ n =>
    refine ⟨e, ?_⟩
    have h0 : (((n + 1 : Nat) : Int) == 0) = false := by
      rw [beq_eq_false_iff_ne]; omega
    simp only [go_sem, h0, hJ4]
    simp
theorem slice_lo {s : List UInt8} {i : Nat} (h : i ≤ s.length) : asliceS (.str s) (some (.int .i64 (i : Int))) none none = some (.str (s.drop i)) := by
  rw [asliceS_lo .i64 (by omega) (by omega)]; simp
theorem pre_J2 (s : List UInt8) (hs : s.length ≤ 1048576) (neg : Bool) {i : Nat} (hi : i ≤ s.length) (H0 H : Hp) :
    ∃ e, decimal_Prefix_J2 (.str s) (.int .i64 (i : Int)) (.bool neg) H0 H = some (.tuple [.int .i64 (preV neg (s.drop i)), .int .i64 e], H) := by
  have hr : (s.drop i).length = s.length - i := List.length_drop
  have hn := skipD_le (s.drop i)
  have hwn : IntKind.i64.wrap ((i : Int) + (skipD (s.drop i) : Int)) = ((i + skipD (s.drop i) : Nat) : Int) := by rw [wrap64 (by omega) (by omega)]; omega
  have htk : (s.take (i + skipD (s.drop i))).drop i = (s.drop i).take (skipD (s.drop i)) := by rw [List.drop_take]; congr 1; omega
  rw [decimal_Prefix_J2_eq]
  simp only [go_sem, slice_lo hi, digits_flat _ (show (s.drop i).length ≤ 1048576 by omega), hwn, slice_ij (show i ≤ i + skipD (s.drop i) by omega) (show i + skipD (s.drop i) ≤ s.length by omega), htk, alen_str]
  have htl : ((s.drop i).take (skipD (s.drop i))).length ≤ 1048576 := by rw [List.length_take]; omega
  by_cases hlt : i + skipD (s.drop i) < s.length
  · have c1 : decide (((i + skipD (s.drop i) : Nat) : Int) < (s.length : Int)) = true := by simp; omega
    have hd : (s.drop i).drop (skipD (s.drop i)) = s[i + skipD (s.drop i)] :: s.drop (i + skipD (s.drop i) + 1) := by
      rw [List.drop_drop, drop_cons hlt]
    have hw1 : IntKind.i64.wrap (((i + skipD (s.drop i) : Nat) : Int) + 1) = ((i + skipD (s.drop i) + 1 : Nat) : Int) := by rw [wrap64 (by omega) (by omega)]; omega
    have hq : (s.drop (i + skipD (s.drop i) + 1)).length = s.length - (i + skipD (s.drop i) + 1) := List.length_drop
    have hk := skipD_le (s.drop (i + skipD (s.drop i) + 1))
    rw [preV_cons hd]
    simp only [c1, go_sem, aindexStr_of (List.getElem?_eq_getElem hlt)]
    cases h46 : ((s[i + skipD (s.drop i)].toNat : Int) == 46) with
    | false =>
      simp only [go_sem, Bool.false_and, Bool.false_eq_true, if_false]
      exact pre_J3 neg _ _ _ htl (by simp) _ H0 H
    | true =>
      have hw2 : IntKind.i64.wrap (((i + skipD (s.drop i) + 1 : Nat) : Int) + (skipD (s.drop (i + skipD (s.drop i) + 1)) : Int)) = ((i + skipD (s.drop i) + 1 + skipD (s.drop (i + skipD (s.drop i) + 1)) : Nat) : Int) := by rw [wrap64 (by omega) (by omega)]; omega
      have hw3 : IntKind.i64.wrap ((1 : Int) + (skipD (s.drop (i + skipD (s.drop i) + 1)) : Int)) = ((1 + skipD (s.drop (i + skipD (s.drop i) + 1)) : Nat) : Int) := by rw [wrap64 (by omega) (by omega)]; omega
      have htq : (s.take (i + skipD (s.drop i) + 1 + skipD (s.drop (i + skipD (s.drop i) + 1)))).drop (i + skipD (s.drop i) + 1) = (s.drop (i + skipD (s.drop i) + 1)).take (skipD (s.drop (i + skipD (s.drop i) + 1))) := by rw [List.drop_take]; congr 1; omega
      have hfl : ((s.drop (i + skipD (s.drop i) + 1)).take (skipD (s.drop (i + skipD (s.drop i) + 1)))).length ≤ 1048576 := by rw [List.length_take]; omega
      have hpos : ∀ n : Nat, decide ((0 : Int) < (n : Int)) = decide (0 < n) := fun n => by simp
      simp only [go_sem, hw1, slice_lo (show i + skipD (s.drop i) + 1 ≤ s.length by omega), digits_flat _ (show (s.drop (i + skipD (s.drop i) + 1)).length ≤ 1048576 by omega), hpos, Bool.true_and]
      have hfin : ∃ e, (bnd (ibin .add (.int .i64 ((i + skipD (s.drop i) : Nat) : Int)) (.int .i64 1)) fun t91_34 =>
        bnd (ibin .add (.int .i64 ((i + skipD (s.drop i) : Nat) : Int)) (.int .i64 1)) fun t93_35 =>
        bnd (ibin .add t93_35 (.int .i64 (skipD (s.drop (i + skipD (s.drop i) + 1)) : Int))) fun t95_36 =>
        bnd (asliceS (.str s) (some t91_34) (some t95_36) none) fun t96_37 =>
        bnd (ibin .add (.int .i64 1) (.int .i64 (skipD (s.drop (i + skipD (s.drop i) + 1)) : Int))) fun t99_38 =>
        bnd (ibin .add (.int .i64 ((i + skipD (s.drop i) : Nat) : Int)) t99_38) fun t100_39 =>
        decimal_Prefix_J3 (.bool neg) (.int .i64 (skipD (s.drop i) : Int)) (.str ((s.drop i).take (skipD (s.drop i)))) t96_37 t100_39 H0 H) = some (.tuple [.int .i64 (finV neg (skipD (s.drop i)) ((s.drop i).take (skipD (s.drop i))) ((s.drop (i + skipD (s.drop i) + 1)).take (skipD (s.drop (i + skipD (s.drop i) + 1))))), .int .i64 e], H) := by
        simp only [go_sem, hw1, hw2, hw3, slice_ij (show i + skipD (s.drop i) + 1 ≤ i + skipD (s.drop i) + 1 + skipD (s.drop (i + skipD (s.drop i) + 1)) by omega) (show i + skipD (s.drop i) + 1 + skipD (s.drop (i + skipD (s.drop i) + 1)) ≤ s.length by omega), htq]
        exact pre_J3 neg _ _ _ htl hfl _ H0 H
      simp only [go_sem, hw1, hw2, hw3, slice_ij (show i + skipD (s.drop i) + 1 ≤ i + skipD (s.drop i) + 1 + skipD (s.drop (i + skipD (s.drop i) + 1)) by omega) (show i + skipD (s.drop i) + 1 + skipD (s.drop (i + skipD (s.drop i) + 1)) ≤ s.length by omega), htq] at hfin
      cases hn0 : decide (0 < skipD (s.drop i)) with
      | true =>
        simp only [go_sem, Bool.true_or, if_true, hw1, hw2, hw3, slice_ij (show i + skipD (s.drop i) + 1 ≤ i + skipD (s.drop i) + 1 + skipD (s.drop (i + skipD (s.drop i) + 1)) by omega) (show i + skipD (s.drop i) + 1 + skipD (s.drop (i + skipD (s.drop i) + 1)) ≤ s.length by omega), htq]
        exact hfin
      | false =>
        cases hk0 : decide (0 < skipD (s.drop (i + skipD (s.drop i) + 1))) with
        | true =>
          simp only [go_sem, hpos, hk0, Bool.or_true, if_true, hw1, hw2, hw3, slice_ij (show i + skipD (s.drop i) + 1 ≤ i + skipD (s.drop i) + 1 + skipD (s.drop (i + skipD (s.drop i) + 1)) by omega) (show i + skipD (s.drop i) + 1 + skipD (s.drop (i + skipD (s.drop i) + 1)) ≤ s.length by omega), htq]
          exact hfin
        | false =>
          simp only [go_sem, hpos, hk0, Bool.or_false, Bool.false_eq_true, if_false]
          exact pre_J3 neg _ _ _ htl (by simp) _ H0 H
  · have c1 : decide (((i + skipD (s.drop i) : Nat) : Int) < (s.length : Int)) = false := by simp; omega
    have hd : (s.drop i).drop (skipD (s.drop i)) = [] := List.drop_eq_nil_iff.2 (by omega)
    rw [preV_nil hd]
    simp only [c1, go_sem]
    exact pre_J3 neg _ _ _ htl (by simp) _ H0 H

def preG : List UInt8 → Int
  | [] => preV false []
  | b :: r => if (((b.toNat : Int) == 45) || ((b.toNat : Int) == 43)) = true then preV ((b.toNat : Int) == 45) r else preV ((b.toNat : Int) == 45) (b :: r)
theorem preG_cons (b : UInt8) (r : List UInt8) : preG (b :: r) = if (((b.toNat : Int) == 45) || ((b.toNat : Int) == 43)) = true then preV ((b.toNat : Int) == 45) r else preV ((b.toNat : Int) == 45) (b :: r) := (Eq.refl _).trans (Eq.refl _)
def preS (s : List UInt8) : Int := preG (s.drop (skipB s))

theorem pre_J1 (s : List UInt8) (hs : s.length ≤ 1048576) {i : Nat} (hi : i ≤ s.length) (H0 H : Hp) :
    ∃ e, decimal_Prefix_J1 (.str s) (.int .i64 (i : Int)) H0 H = some (.tuple [.int .i64 (preG (s.drop i)), .int .i64 e], H) := by
  rw [decimal_Prefix_J1_eq]
  by_cases hlt : i < s.length
  · have c1 : decide ((i : Int) < (s.length : Int)) = true := by simp; omega
    have hw1 : IntKind.i64.wrap ((i : Int) + 1) = ((i + 1 : Nat) : Int) := by rw [wrap64 (by omega) (by omega)]; omega
    have hix := aindexStr_of (List.getElem?_eq_getElem hlt)
    rw [drop_cons hlt]
    simp only [alen_str, go_sem, c1, hix, preG_cons]
    cases h45 : ((s[i].toNat : Int) == 45) with
    | true =>
      simp only [go_sem, c1, hix, hw1, Bool.true_or, if_true]
      exact pre_J2 s hs true (by omega) H0 H
    | false =>
      simp only [go_sem, alen_str, c1, hix]
      cases h43 : ((s[i].toNat : Int) == 43) with
      | true =>
        simp only [go_sem, c1, hix, hw1, Bool.or_true, if_true]
        exact pre_J2 s hs false (by omega) H0 H
      | false =>
        simp only [go_sem, Bool.or_false, Bool.or_self, Bool.false_eq_true, if_false]
        rw [← drop_cons hlt]
        exact pre_J2 s hs false (by omega) H0 H
  · have c1 : decide ((i : Int) < (s.length : Int)) = false := by simp; omega
    have hd : s.drop i = [] := List.drop_eq_nil_iff.2 (by omega)
    simp only [alen_str, go_sem, c1, hd]
    have := pre_J2 s hs false hi H0 H
    rw [hd] at this
    exact this
theorem pre_L1 (s : List UInt8) (hs : s.length ≤ 1048576) (H0 H : Hp) : ∀ (k i : Nat), s.length - i = k → i ≤ s.length →
    ∃ e, decimal_Prefix_L1 (.str s) (.int .i64 (i : Int)) H0 H = some (.tuple [.int .i64 (preG ((s.drop i).drop (skipB (s.drop i)))), .int .i64 e], H) := by
  intro k
  induction k with
  | zero =>
    intro i hk hi
    have hlt : decide ((i : Int) < (s.length : Int)) = false := by simp; omega
    have hd : s.drop i = [] := List.drop_eq_nil_iff.2 (by omega)
    rw [decimal_Prefix_L1_eq]
    simp only [alen_str, go_sem, hlt]
    have := pre_J1 s hs hi H0 H
    rw [hd] at this ⊢
    exact this
  | succ k ih =>
    intro i hk hi
    have hl : i < s.length := by omega
    have hlt : decide ((i : Int) < (s.length : Int)) = true := by simp; omega
    have hw1 : IntKind.i64.wrap ((i : Int) + 1) = ((i + 1 : Nat) : Int) := by rw [wrap64 (by omega) (by omega)]; omega
    have hix := aindexStr_of (List.getElem?_eq_getElem hl)
    have ih' := ih (i + 1) (by omega) (by omega)
    have hnext : isBl s[i] = true → (s.drop i).drop (skipB (s.drop i)) = (s.drop (i + 1)).drop (skipB (s.drop (i + 1))) := fun h => by
      rw [drop_cons hl, skipB_cons, h, if_pos rfl, List.drop_succ_cons]
    have hstop : isBl s[i] = false → (s.drop i).drop (skipB (s.drop i)) = s.drop i := fun h => by
      rw [drop_cons hl, skipB_cons, h]; simp
    have hb : isBl s[i] = (((s[i].toNat : Int) == 32) || ((s[i].toNat : Int) == 9)) := by
      rw [isBl, (blank_aux s[i]).1, (blank_aux s[i]).2]
    rw [decimal_Prefix_L1_eq]
    simp only [alen_str, go_sem, hlt, hix]
    cases h32 : ((s[i].toNat : Int) == 32) with
    | true =>
      simp only [go_sem, decimal_Prefix_J6_eq, hw1]
      rw [hnext (by rw [hb, h32]; rfl)]
      exact ih'
    | false =>
      simp only [go_sem, hix]
      cases h9 : ((s[i].toNat : Int) == 9) with
      | true =>
        simp only [go_sem, decimal_Prefix_J6_eq, hw1]
        rw [hnext (by rw [hb, h32, h9]; rfl)]
        exact ih'
      | false =>
        simp only [go_sem]
        rw [hstop (by rw [hb, h32, h9]; rfl)]
        exact pre_J1 s hs hi H0 H

theorem pre_flat (s : List UInt8) (hs : s.length ≤ 1048576) (H : Hp) : ∃ e, flatC C_decimal_Prefix [.str s] H = some (.tuple [.int .i64 (preS s), .int .i64 e], H) := by
  obtain ⟨e, h⟩ := pre_L1 s hs [] [] _ 0 rfl (Nat.zero_le _)
  rw [show ((0 : Nat) : Int) = 0 from rfl, List.drop_zero] at h
  refine ⟨e, flat1 (a' := .str s) (H1 := []) rfl ?_ rfl⟩
  rw [F_decimal_Prefix_eq]
  exact h

theorem rpre_J3 (s : List UInt8) (hs : s.length ≤ 1048576) (neg : Bool) {i n : Nat} (hn : i + n ≤ s.length) (f : List UInt8) (hf : f.length ≤ 1048576) (e : Int) (he : e = (i : Int) ↔ n = 0 ∧ f = []) (H0 H : Hp) :
    ∃ e', R02_Prefix_J3 (.str s) (.int .i64 (i : Int)) (.bool neg) (.int .i64 ((i + n : Nat) : Int)) (.int .i64 e) (.str f) H0 H = some (.tuple [.int .i64 (finV neg n ((s.drop i).take n) f), .int .i64 e'], H) := by
  have htk : (s.take (i + n)).drop i = (s.drop i).take n := by rw [List.drop_take]; congr 1; omega
  have hwl : ((s.drop i).take n).length ≤ 1048576 := by rw [List.length_take, List.length_drop]; omega
  have hv := valS_range ((s.drop i).take n) f
  have hneg : ∀ m : Int, 0 ≤ m → m ≤ 10000000000000 → IntKind.i64.wrap (0 - m) = -m := fun m h0 h1 => by rw [wrap64 (by omega) (by omega)]; omega
  have hJ6 : ∀ m : Int, 0 ≤ m → m ≤ 10000000000000 → R02_Prefix_J6 (.bool neg) (.int .i64 e) (.int .i64 m) H0 H = some (.tuple [.int .i64 (if neg then -m else m), .int .i64 e], H) := fun m h0 h1 => by
    rw [R02_Prefix_J6_eq]
    cases neg with
    | true => simp only [go_sem, aun_neg, hneg m h0 h1, R02_Prefix_J7_eq, if_true]
    | false => simp only [go_sem, R02_Prefix_J7_eq, Bool.false_eq_true, if_false]
  have hJ5 : ∀ f' : List UInt8, f'.length ≤ 1048576 → fr 4 f' 0 = fr 4 f 0 → R02_Prefix_J5 (.str s) (.int .i64 (i : Int)) (.bool neg) (.int .i64 ((i + n : Nat) : Int)) (.int .i64 e) (.str f') H0 H = some (.tuple [.int .i64 (if neg then -(min 10000000000000 (valS ((s.drop i).take n) f)) else min 10000000000000 (valS ((s.drop i).take n) f)), .int .i64 e], H) := fun f' h1 h2 => by
    have hnum : numS ((s.drop i).take n) f' = numS ((s.drop i).take n) f := by unfold numS; rw [h2]
    rw [R02_Prefix_J5_eq]
    simp only [go_sem, slice_ij (show i ≤ i + n by omega) hn, htk, rnumber_flat _ f' hwl h1, hnum]
    unfold valS
    cases hN : numS ((s.drop i).take n) f with
    | none =>
      simp only [go_sem, aext0, aext1, Bool.not_false]
      exact hJ6 _ (by omega) (by omega)
    | some m =>
      have hm := numS_range hN
      simp only [go_sem, aext0, aext1]
      by_cases hle : m ≤ 10000000000000
      · simp only [decide_eq_true hle, Bool.not_true, go_sem]
        rw [hJ6 m hm.1 hle, show min 10000000000000 (min 10000000000001 m) = m by omega]
      · simp only [decide_eq_false hle, Bool.not_false, go_sem]
        rw [hJ6 _ (by omega) (by omega), show min 10000000000000 (min 10000000000001 m) = (10000000000000 : Int) by omega]
  have hJ4 : R02_Prefix_J4 (.str s) (.int .i64 (i : Int)) (.bool neg) (.int .i64 ((i + n : Nat) : Int)) (.int .i64 e) (.str f) H0 H = some (.tuple [.int .i64 (if neg then -(min 10000000000000 (valS ((s.drop i).take n) f)) else min 10000000000000 (valS ((s.drop i).take n) f)), .int .i64 e], H) := by
    rw [R02_Prefix_J4_eq]
    simp only [go_sem, alen_str]
    by_cases h4 : 4 < f.length
    · have c : decide ((4 : Int) < (f.length : Int)) = true := by simp; omega
      have hsl : asliceS (.str f) none (some (.int .i64 4)) none = some (.str (f.take 4)) := asliceS_hi .i64 (by omega) (by omega)
      simp only [c, go_sem, hsl]
      exact hJ5 _ (by rw [List.length_take]; omega) (fr4_take f)
    · have c : decide ((4 : Int) < (f.length : Int)) = false := by simp; omega
      simp only [c, go_sem]
      exact hJ5 _ hf rfl
  rw [R02_Prefix_J3_eq]
  unfold finV
  by_cases hz : e = (i : Int)
  · have c : (e == (i : Int)) = true := by rw [beq_iff_eq]; exact hz
    refine ⟨0, ?_⟩
    simp only [go_sem, c, if_pos (he.1 hz)]
  · have c : (e == (i : Int)) = false := by rw [beq_eq_false_iff_ne]; exact hz
    refine ⟨e, ?_⟩
    simp only [go_sem, c, if_neg (fun h => hz (he.2 h)), hJ4]
theorem rpre_J2 (s : List UInt8) (hs : s.length ≤ 1048576) (neg : Bool) {i : Nat} (hi : i ≤ s.length) (H0 H : Hp) :
    ∃ e, R02_Prefix_J2 (.str s) (.int .i64 (i : Int)) (.bool neg) H0 H = some (.tuple [.int .i64 (preV neg (s.drop i)), .int .i64 e], H) := by
  have hr : (s.drop i).length = s.length - i := List.length_drop
  have hn := skipD_le (s.drop i)
  have hzero : ((i + skipD (s.drop i) : Nat) : Int) = (i : Int) ↔ skipD (s.drop i) = 0 ∧ ([] : List UInt8) = [] := ⟨fun h => ⟨by omega, rfl⟩, fun h => by omega⟩
  rw [R02_Prefix_J2_eq]
  simp only [go_sem, rdigits_flat s hs hi, alen_str]
  by_cases hlt : i + skipD (s.drop i) < s.length
  · have c1 : decide (((i + skipD (s.drop i) : Nat) : Int) < (s.length : Int)) = true := by simp; omega
    have hd : (s.drop i).drop (skipD (s.drop i)) = s[i + skipD (s.drop i)] :: s.drop (i + skipD (s.drop i) + 1) := by
      rw [List.drop_drop, drop_cons hlt]
    have hw1 : IntKind.i64.wrap (((i + skipD (s.drop i) : Nat) : Int) + 1) = ((i + skipD (s.drop i) + 1 : Nat) : Int) := by rw [wrap64 (by omega) (by omega)]; omega
    have hq : (s.drop (i + skipD (s.drop i) + 1)).length = s.length - (i + skipD (s.drop i) + 1) := List.length_drop
    have hk := skipD_le (s.drop (i + skipD (s.drop i) + 1))
    rw [preV_cons hd]
    simp only [c1, go_sem, aindexStr_of (List.getElem?_eq_getElem hlt)]
    cases h46 : ((s[i + skipD (s.drop i)].toNat : Int) == 46) with
    | false =>
      simp only [go_sem, Bool.false_and, Bool.false_eq_true, if_false]
      exact rpre_J3 s hs neg (by omega) [] (by simp) _ hzero H0 H
    | true =>
      have htq : (s.take (i + skipD (s.drop i) + 1 + skipD (s.drop (i + skipD (s.drop i) + 1)))).drop (i + skipD (s.drop i) + 1) = (s.drop (i + skipD (s.drop i) + 1)).take (skipD (s.drop (i + skipD (s.drop i) + 1))) := by rw [List.drop_take]; congr 1; omega
      have hfl : ((s.drop (i + skipD (s.drop i) + 1)).take (skipD (s.drop (i + skipD (s.drop i) + 1)))).length ≤ 1048576 := by rw [List.length_take]; omega
      have hp1 : decide ((i : Int) < ((i + skipD (s.drop i) : Nat) : Int)) = decide (0 < skipD (s.drop i)) := by
        rw [decide_eq_decide]; omega
      have hp2 : decide (((i + skipD (s.drop i) + 1 : Nat) : Int) < ((i + skipD (s.drop i) + 1 + skipD (s.drop (i + skipD (s.drop i) + 1)) : Nat) : Int)) = decide (0 < skipD (s.drop (i + skipD (s.drop i) + 1))) := by
        rw [decide_eq_decide]; omega
      have hsl := slice_ij (s := s) (show i + skipD (s.drop i) + 1 ≤ i + skipD (s.drop i) + 1 + skipD (s.drop (i + skipD (s.drop i) + 1)) by omega) (show i + skipD (s.drop i) + 1 + skipD (s.drop (i + skipD (s.drop i) + 1)) ≤ s.length by omega)
      rw [htq] at hsl
      have hlast := fun he => rpre_J3 s hs neg (i := i) (n := skipD (s.drop i)) (by omega) ((s.drop (i + skipD (s.drop i) + 1)).take (skipD (s.drop (i + skipD (s.drop i) + 1)))) hfl ((i + skipD (s.drop i) + 1 + skipD (s.drop (i + skipD (s.drop i) + 1)) : Nat) : Int) he H0 H
      have he : (decide (0 < skipD (s.drop i)) || decide (0 < skipD (s.drop (i + skipD (s.drop i) + 1)))) = true → (((i + skipD (s.drop i) + 1 + skipD (s.drop (i + skipD (s.drop i) + 1)) : Nat) : Int) = (i : Int) ↔ skipD (s.drop i) = 0 ∧ (s.drop (i + skipD (s.drop i) + 1)).take (skipD (s.drop (i + skipD (s.drop i) + 1))) = []) := fun hor => by
        rw [Bool.or_eq_true, decide_eq_true_eq, decide_eq_true_eq] at hor
        constructor
        · intro h; omega
        · rintro ⟨h1, h2⟩
          have := congrArg List.length h2
          rw [List.length_take, List.length_nil] at this
          omega
      simp only [go_sem, hw1, rdigits_flat s hs (show i + skipD (s.drop i) + 1 ≤ s.length by omega), hp1, Bool.true_and]
      cases hn0 : decide (0 < skipD (s.drop i)) with
      | true =>
        simp only [go_sem, Bool.true_or, if_true, hw1, hsl]
        exact hlast (he (by rw [hn0]; rfl))
      | false =>
        cases hk0 : decide (0 < skipD (s.drop (i + skipD (s.drop i) + 1))) with
        | true =>
          simp only [go_sem, hw1, hp2, hk0, Bool.or_true, if_true, hsl]
          exact hlast (he (by rw [hk0, Bool.or_true]))
        | false =>
          simp only [go_sem, hw1, hp2, hk0, Bool.or_false, Bool.false_eq_true, if_false]
          exact rpre_J3 s hs neg (by omega) [] (by simp) _ hzero H0 H
  · have c1 : decide (((i + skipD (s.drop i) : Nat) : Int) < (s.length : Int)) = false := by simp; omega
    have hd : (s.drop i).drop (skipD (s.drop i)) = [] := List.drop_eq_nil_iff.2 (by omega)
    rw [preV_nil hd]
    simp only [c1, go_sem]
    exact rpre_J3 s hs neg (by omega) [] (by simp) _ hzero H0 H

theorem rpre_J1 (s : List UInt8) (hs : s.length ≤ 1048576) {i : Nat} (hi : i ≤ s.length) (H0 H : Hp) :
    ∃ e, R02_Prefix_J1 (.str s) (.int .i64 (i : Int)) H0 H = some (.tuple [.int .i64 (preG (s.drop i)), .int .i64 e], H) := by
  rw [R02_Prefix_J1_eq]
  by_cases hlt : i < s.length
  · have c1 : decide ((i : Int) < (s.length : Int)) = true := by simp; omega
    have hw1 : IntKind.i64.wrap ((i : Int) + 1) = ((i + 1 : Nat) : Int) := by rw [wrap64 (by omega) (by omega)]; omega
    have hix := aindexStr_of (List.getElem?_eq_getElem hlt)
    rw [drop_cons hlt]
    simp only [alen_str, go_sem, c1, hix, preG_cons]
    cases h45 : ((s[i].toNat : Int) == 45) with
    | true =>
      simp only [go_sem, c1, hix, hw1, Bool.true_or, if_true]
      exact rpre_J2 s hs true (by omega) H0 H
    | false =>
      simp only [go_sem, alen_str, c1, hix]
      cases h43 : ((s[i].toNat : Int) == 43) with
      | true =>
        simp only [go_sem, c1, hix, hw1, Bool.or_true, if_true]
        exact rpre_J2 s hs false (by omega) H0 H
      | false =>
        simp only [go_sem, Bool.or_false, Bool.or_self, Bool.false_eq_true, if_false]
        rw [← drop_cons hlt]
        exact rpre_J2 s hs false (by omega) H0 H
  · have c1 : decide ((i : Int) < (s.length : Int)) = false := by simp; omega
    have hd : s.drop i = [] := List.drop_eq_nil_iff.2 (by omega)
    simp only [alen_str, go_sem, c1, hd]
    have := rpre_J2 s hs false hi H0 H
    rw [hd] at this
    exact this
theorem rpre_L1 (s : List UInt8) (hs : s.length ≤ 1048576) (H0 H : Hp) : ∀ (k i : Nat), s.length - i = k → i ≤ s.length →
    ∃ e, R02_Prefix_L1 (.str s) (.int .i64 (i : Int)) H0 H = some (.tuple [.int .i64 (preG ((s.drop i).drop (skipB (s.drop i)))), .int .i64 e], H) := by
  intro k
  induction k with
  | zero =>
    intro i hk hi
    have hlt : decide ((i : Int) < (s.length : Int)) = false := by simp; omega
    have hd : s.drop i = [] := List.drop_eq_nil_iff.2 (by omega)
    rw [R02_Prefix_L1_eq]
    simp only [alen_str, go_sem, hlt]
    have := rpre_J1 s hs hi H0 H
    rw [hd] at this ⊢
    exact this
  | succ k ih =>
    intro i hk hi
    have hl : i < s.length := by omega
    have hlt : decide ((i : Int) < (s.length : Int)) = true := by simp; omega
    have hw1 : IntKind.i64.wrap ((i : Int) + 1) = ((i + 1 : Nat) : Int) := by rw [wrap64 (by omega) (by omega)]; omega
    have hix := aindexStr_of (List.getElem?_eq_getElem hl)
    have ih' := ih (i + 1) (by omega) (by omega)
    have hnext : isBl s[i] = true → (s.drop i).drop (skipB (s.drop i)) = (s.drop (i + 1)).drop (skipB (s.drop (i + 1))) := fun h => by
      rw [drop_cons hl, skipB_cons, h, if_pos rfl, List.drop_succ_cons]
    have hstop : isBl s[i] = false → (s.drop i).drop (skipB (s.drop i)) = s.drop i := fun h => by
      rw [drop_cons hl, skipB_cons, h]; simp
    have hb : isBl s[i] = (((s[i].toNat : Int) == 32) || ((s[i].toNat : Int) == 9)) := by
      rw [isBl, (blank_aux s[i]).1, (blank_aux s[i]).2]
    rw [R02_Prefix_L1_eq]
    simp only [alen_str, go_sem, hlt, hix]
    cases h32 : ((s[i].toNat : Int) == 32) with
    | true =>
      simp only [go_sem, R02_Prefix_J8_eq, hw1]
      rw [hnext (by rw [hb, h32]; rfl)]
      exact ih'
    | false =>
      simp only [go_sem, hix]
      cases h9 : ((s[i].toNat : Int) == 9) with
      | true =>
        simp only [go_sem, R02_Prefix_J8_eq, hw1]
        rw [hnext (by rw [hb, h32, h9]; rfl)]
        exact ih'
      | false =>
        simp only [go_sem]
        rw [hstop (by rw [hb, h32, h9]; rfl)]
        exact rpre_J1 s hs hi H0 H

theorem rpre_flat (s : List UInt8) (hs : s.length ≤ 1048576) (H : Hp) : ∃ e, flatC C_R02_Prefix [.str s] H = some (.tuple [.int .i64 (preS s), .int .i64 e], H) := by
  obtain ⟨e, h⟩ := rpre_L1 s hs [] [] _ 0 rfl (Nat.zero_le _)
  rw [show ((0 : Nat) : Int) = 0 from rfl, List.drop_zero] at h
  refine ⟨e, flat1 (a' := .str s) (H1 := []) rfl ?_ rfl⟩
  rw [F_R02_Prefix_eq]
  exact h
def sgnS (a b : Int) : Int := if a < b then -1 else if b < a then 1 else 0
theorem sign_flat (a b : Int) (H : Hp) : flatC C_sortkey_sign [.int .i64 a, .int .i64 b] H = some (.int .i64 (sgnS a b), H) := by
  refine flat2 (a' := .int .i64 a) (b' := .int .i64 b) (H1 := []) rfl rfl ?_ rfl
  rw [F_sortkey_sign_eq]
  unfold F_sortkey_sign sgnS
  by_cases h : a < b
  · simp only [go_sem, decide_eq_true h, if_pos h]
  · by_cases h2 : b < a
    · simp only [go_sem, decide_eq_false h, if_neg h, decide_eq_true h2, if_pos h2]
    · simp only [go_sem, decide_eq_false h, if_neg h, decide_eq_false h2, if_neg h2, sortkey_sign_J1_eq]
theorem numbers_flat (s t : List UInt8) (hs : s.length ≤ 1048576) (ht : t.length ≤ 1048576) (H : Hp) : flatC C_R20_numbers [.str s, .str t] H = some (.int .i64 (sgnS (preS s) (preS t)), H) := by
  refine flat2 (a' := .str s) (b' := .str t) (H1 := []) rfl rfl ?_ rfl
  obtain ⟨e1, h1⟩ := rpre_flat s hs []
  obtain ⟨e2, h2⟩ := rpre_flat t ht []
  rw [F_R20_numbers_eq]
  unfold F_R20_numbers sgnS
  simp only [go_sem, h1, h2, aext0, aext1]
  by_cases h : preS s < preS t
  · simp only [go_sem, decide_eq_true h, if_pos h]
  · by_cases h2 : preS t < preS s
    · simp only [go_sem, decide_eq_false h, if_neg h, decide_eq_true h2, if_pos h2, R20_numbers_J1_eq]
    · simp only [go_sem, decide_eq_false h, if_neg h, decide_eq_false h2, if_neg h2, R20_numbers_J1_eq, R20_numbers_J2_eq]
end Go.Am
namespace Go.Am
set_option linter.unusedSimpArgs false
set_option linter.unusedVariables false
set_option maxRecDepth 100000

def dictC (b : UInt8) : Bool := isBl b || letter b.toNat || digit b.toNat
def dictS (s : List UInt8) : List UInt8 := s.filter dictC
theorem dictD_all : ((List.range 256).all fun n => (boolOf (dictD (.bool (isBl (UInt8.ofNat n))) (.int .u8 (n : Int))) == some (dictC (UInt8.ofNat n))) && (boolOf (rdictD (.bool (isBl (UInt8.ofNat n))) (.int .u8 (n : Int))) == some (dictC (UInt8.ofNat n)))) = true := by kernel_rfl
theorem dictD_ok (b : UInt8) : dictD (.bool (isBl b)) (.int .u8 b.toNat) = some (.bool (dictC b)) ∧ rdictD (.bool (isBl b)) (.int .u8 b.toNat) = some (.bool (dictC b)) := by
  have := all_range dictD_all (u8_lt b)
  rw [UInt8.ofNat_toNat, Bool.and_eq_true, beq_iff_eq, beq_iff_eq] at this
  exact ⟨boolOf_some this.1, boolOf_some this.2⟩
theorem byte_run (acc : List UInt8) (b : UInt8) (h : acc.length ≤ 1048576) : byteE.run [.ptr 0 0, .int .u8 b.toNat] [AObj.bld 104 5 acc] = some (.nili, [AObj.bld 104 5 (acc ++ [b])]) := by
  have hb := b.toNat_lt
  have h2 : acc.length + 1 ≤ maxB := by unfold maxB; omega
  have hby : byteM [.int .u8 b.toNat] = some fun l => if l.length + 1 ≤ maxB then some (.nili, l ++ [UInt8.ofNat (b.toNat : Int).toNat]) else none := by
    simp only [byteM, if_pos (show (0 : Int) ≤ (b.toNat : Int) ∧ (b.toNat : Int) < 256 by omega)]
  simp only [byteE, bByte, bldE, bldRun, hby, List.getElem?_cons_zero, bldF, bldT, bldU, and_self, if_true, if_pos h2, List.set_cons_zero, Int.toNat_natCast, UInt8.ofNat_toNat]
theorem string_run (acc : List UInt8) : stringE.run [.ptr 0 0] [AObj.bld 104 5 acc] = some (.str acc, [AObj.bld 104 5 acc]) := rfl
theorem dict_loop (s : List UInt8) (hs : s.length ≤ 1048576) (H0 : Hp) : ∀ (r done : List UInt8) (acc : List UInt8), s = done ++ r → acc.length ≤ done.length →
    ∃ H', sortkey_dict_L1 (.str s) (.ptr 0 0) (.int .i64 (s.length : Int)) (.int .i64 (done.length : Int)) H0 [AObj.bld 104 5 acc] = some (.str (acc ++ dictS r), H') := by
  intro r
  induction r with
  | nil =>
    intro done acc hd ha
    rw [List.append_nil] at hd
    subst hd
    have hlt : decide ((s.length : Int) < (s.length : Int)) = false := by simp
    refine ⟨[AObj.bld 104 5 acc], ?_⟩
    rw [sortkey_dict_L1_eq]
    simp only [go_sem, hlt, sortkey_dict_J1_eq, string_run]
    simp [dictS]
  | cons b r ih =>
    intro done acc hd ha
    have hlen : s.length = done.length + (r.length + 1) := by rw [hd]; simp
    have hlt : decide ((done.length : Int) < (s.length : Int)) = true := by simp; omega
    have hw1 : IntKind.i64.wrap ((done.length : Int) + 1) = ((done.length + 1 : Nat) : Int) := by rw [wrap64 (by omega) (by omega)]; omega
    rw [sortkey_dict_L1_eq]
    simp only [go_sem, hlt, sortkey_dict_J2_D_eq, idx_done hd, blank_spec, (dictD_ok b).1]
    cases hb : dictC b with
    | true =>
      obtain ⟨H', h⟩ := ih (done ++ [b]) (acc ++ [b]) (by rw [hd]; simp) (by simp; omega)
      rw [List.length_append, List.length_singleton] at h
      refine ⟨H', ?_⟩
      simp only [go_sem, byte_run acc b (by omega), sortkey_dict_J3_eq, hw1, h, dictS, List.filter_cons, hb, if_true, List.append_assoc, List.singleton_append]
    | false =>
      obtain ⟨H', h⟩ := ih (done ++ [b]) acc (by rw [hd]; simp) (by simp; omega)
      rw [List.length_append, List.length_singleton] at h
      refine ⟨H', ?_⟩
      simp only [go_sem, sortkey_dict_J3_eq, hw1, h, dictS, List.filter_cons, hb, Bool.false_eq_true, if_false]
theorem dict_flat (s : List UInt8) (hs : s.length ≤ 1048576) (H : Hp) : flatC C_sortkey_dict [.str s] H = some (.str (dictS s), H) := by
  obtain ⟨H', h⟩ := dict_loop s hs [] s [] [] rfl (Nat.le_refl _)
  rw [List.length_nil, show ((0 : Nat) : Int) = 0 from rfl, List.nil_append] at h
  refine flat1 (a' := .str s) (H1 := H') rfl ?_ rfl
  rw [F_sortkey_dict_eq]
  unfold F_sortkey_dict
  simp only [go_sem, List.length_nil, List.nil_append, h]
theorem rdict_loop (s : List UInt8) (hs : s.length ≤ 1048576) (H0 : Hp) : ∀ (r done : List UInt8) (acc : List UInt8) (x : AV) (H : Hp), s = done ++ r → acc.length ≤ done.length → RowN 0 H 1 x (acc.map by8) →
    ∃ H', R20_dict_L1 (.str s) x (.int .i64 (done.length : Int)) H0 H = some (.str (acc ++ dictS r), H') := by
  intro r
  induction r with
  | nil =>
    intro done acc x H hd ha hx
    rw [List.append_nil] at hd
    subst hd
    have hlt : decide ((s.length : Int) < (s.length : Int)) = false := by simp
    refine ⟨H, ?_⟩
    rw [R20_dict_L1_eq]
    simp only [go_sem, alen_str, hlt, R20_dict_J1_eq, row_str hx]
    simp [dictS]
  | cons b r ih =>
    intro done acc x H hd ha hx
    have hlen : s.length = done.length + (r.length + 1) := by rw [hd]; simp
    have hlt : decide ((done.length : Int) < (s.length : Int)) = true := by simp; omega
    have hw1 : IntKind.i64.wrap ((done.length : Int) + 1) = ((done.length + 1 : Nat) : Int) := by rw [wrap64 (by omega) (by omega)]; omega
    rw [R20_dict_L1_eq]
    simp only [go_sem, alen_str, hlt, R20_dict_J2_D_eq, idx_done hd, rblank_spec, (dictD_ok b).2]
    cases hb : dictC b with
    | true =>
      obtain ⟨x', H1, q1, q2, _, _, _⟩ := hx.app (Nat.zero_le _) 1 (.vs 1 .clip [by8 b]) [by8 b] (by simp [elems]) (by simp; omega)
      obtain ⟨H', h⟩ := ih (done ++ [b]) (acc ++ [b]) x' H1 (by rw [hd]; simp) (by simp; omega) (by simpa using q2)
      rw [List.length_append, List.length_singleton] at h
      refine ⟨H', ?_⟩
      simp only [go_sem, one_u8, q1, R20_dict_J3_eq, hw1, h, dictS, List.filter_cons, hb, if_true, List.append_assoc, List.singleton_append]
    | false =>
      obtain ⟨H', h⟩ := ih (done ++ [b]) acc x H (by rw [hd]; simp) (by simp; omega) hx
      rw [List.length_append, List.length_singleton] at h
      refine ⟨H', ?_⟩
      simp only [go_sem, R20_dict_J3_eq, hw1, h, dictS, List.filter_cons, hb, Bool.false_eq_true, if_false]
theorem rdict_flat (s : List UInt8) (hs : s.length ≤ 1048576) (H : Hp) : flatC C_R20_dict [.str s] H = some (.str (dictS s), H) := by
  obtain ⟨H', h⟩ := rdict_loop s hs [] s [] [] .nils [] rfl (Nat.le_refl _) (RowN.nil _ _ _)
  rw [List.length_nil, show ((0 : Nat) : Int) = 0 from rfl, List.nil_append] at h
  refine flat1 (a' := .str s) (H1 := H') rfl ?_ rfl
  rw [F_R20_dict_eq]
  exact h
theorem dict_len (s : List UInt8) : (dictS s).length ≤ s.length := List.length_filter_le _ _

def dropBl (s : List UInt8) : List UInt8 := s.drop (skipB s)
theorem dropBl_len (s : List UInt8) : (dropBl s).length ≤ s.length := by unfold dropBl; rw [List.length_drop]; omega
theorem dropBl_cons (b : UInt8) (s : List UInt8) : dropBl (b :: s) = if isBl b then dropBl s else b :: s := by
  unfold dropBl
  rw [skipB_cons]
  split <;> simp
theorem trim_blank (s : List UInt8) : Go.Lib.trimLeftS s [32, 9] = dropBl s := by
  unfold Go.Lib.trimLeftS
  induction s with
  | nil => rfl
  | cons b s ih =>
    rw [dropBl_cons, List.dropWhile_cons]
    have : ([32, 9] : List UInt8).contains b = isBl b := by
      rw [List.contains_cons, List.contains_cons, isBl]
      simp
    rw [this, ih]
theorem trim_flat (s : List UInt8) (H : Hp) : flatC C_sortkey_parts_2 [.str s] H = some (.str (dropBl s), H) := by
  refine flat1 (a' := .str s) (H1 := []) rfl ?_ rfl
  rw [F_sortkey_parts_2_eq]
  unfold F_sortkey_parts_2
  have : trimA [.str s, .str [32, 9]] = some (.str (dropBl s)) := by
    unfold trimA
    dsimp only
    rw [if_pos ⟨by decide, by decide⟩, trim_blank]
  simp only [go_sem, sumC, this]
theorem up_len (L : Loc) (s : List UInt8) : (upS L s).length = s.length := by simp [upS, mapS]
theorem fold_flat {l : List AV} {L : Loc} (h : LocCells l L) (hok : LocOk L) (s : List UInt8) (hs : s.length ≤ 1048576) (H : Hp) : flatC C_sortkey_parts_3 [.str s, .vp l] H = some (.str (upS L s), H) := by
  obtain ⟨l', h1, x, c, e, rfl, hx, hc, he⟩ := h.close [] 0 2
  have hcl : closeV [] 0 6 (.vp l) = some (.vp (L.cells x c e)) := by rw [closeV_vpl, h1]
  refine flat2 (a' := .str s) rfl hcl (H1 := []) ?_ rfl
  rw [F_sortkey_parts_3_eq]
  unfold F_sortkey_parts_3
  have hu := upper_flat (L := L) ⟨x, c, e, rfl, hx, hc, he⟩ hok s hs []
  simp only [go_sem, aload_vpn 6 (L.cells x c e) rfl, hu.1]

def shapeS (L : Loc) (n : Nat) (s : List UInt8) : List UInt8 :=
  let s1 := if n.testBit 3 then dropBl s else s
  let s2 := if n.testBit 4 then dictS s1 else s1
  if n.testBit 2 then upS L s2 else s2
theorem shape_len (L : Loc) (n : Nat) (s : List UInt8) : (shapeS L n s).length ≤ s.length := by
  have h1 := dropBl_len s
  have h2 := dict_len s
  have h3 := dict_len (dropBl s)
  simp only [shapeS]
  split <;> split <;> split <;> (try rw [up_len]) <;> omega
theorem ordS_one : ∀ a b : List Int, ordS a b = -1 ∨ ordS a b = 0 ∨ ordS a b = 1 := by
  intro a
  induction a with
  | nil => intro b; cases b <;> simp [ordS]
  | cons x a ih =>
    intro b
    cases b with
    | nil => simp [ordS]
    | cons y b =>
      rw [ordS_cons]
      split
      · simp
      · split
        · simp
        · exact ih b
theorem cmpB_one (a b : List UInt8) : cmpB a b = -1 ∨ cmpB a b = 0 ∨ cmpB a b = 1 := by rw [← cmpB_ord]; exact ordS_one _ _
theorem cmpS_one (L : Loc) (a b : List UInt8) : cmpS L a b = -1 ∨ cmpS L a b = 0 ∨ cmpS L a b = 1 := by
  unfold cmpS
  split
  · exact ordS_one _ _
  · exact cmpB_one _ _
theorem sgnS_one (a b : Int) : sgnS a b = -1 ∨ sgnS a b = 0 ∨ sgnS a b = 1 := by
  unfold sgnS
  split
  · simp
  · split <;> simp
def partsC (L : Loc) (n : Nat) (x y : List UInt8) : Int := if n.testBit 0 then sgnS (preS x) (preS y) else cmpS L (shapeS L n x) (shapeS L n y)
def partsS (L : Loc) (n : Nat) (x y : List UInt8) : Int := if n.testBit 1 then -partsC L n x y else partsC L n x y
theorem turn_mul {c t : Int} (hc : c = -1 ∨ c = 0 ∨ c = 1) (ht : t = 1 ∨ t = -1) : IntKind.i64.wrap (t * c) = if t = -1 then -c else c := by
  rcases ht with rfl | rfl <;> rcases hc with rfl | rfl | rfl <;> decide
end Go.Am
namespace Go.Am
set_option linter.unusedSimpArgs false
set_option linter.unusedVariables false
set_option maxRecDepth 100000

section
variable {n : Nat} (hn : n < 32)
include hn
theorem has1 (H : Hp) : flatC C_R20_Has [.int .i64 n, .int .i64 1] H = some (.bool (n.testBit 0), H) := has_ok (j := 0) hn (by decide) H
theorem has2 (H : Hp) : flatC C_R20_Has [.int .i64 n, .int .i64 2] H = some (.bool (n.testBit 1), H) := has_ok (j := 1) hn (by decide) H
theorem has4 (H : Hp) : flatC C_R20_Has [.int .i64 n, .int .i64 4] H = some (.bool (n.testBit 2), H) := has_ok (j := 2) hn (by decide) H
theorem has8 (H : Hp) : flatC C_R20_Has [.int .i64 n, .int .i64 8] H = some (.bool (n.testBit 3), H) := has_ok (j := 3) hn (by decide) H
theorem has16 (H : Hp) : flatC C_R20_Has [.int .i64 n, .int .i64 16] H = some (.bool (n.testBit 4), H) := has_ok (j := 4) hn (by decide) H
theorem and1 : ibin .and (.int .i64 n) (.int .i64 1) = some (.int .i64 (if n.testBit 0 then 1 else 0)) := and_ok (j := 0) hn (by decide)
theorem and2 : ibin .and (.int .i64 n) (.int .i64 2) = some (.int .i64 (if n.testBit 1 then 2 else 0)) := and_ok (j := 1) hn (by decide)
theorem and4 : ibin .and (.int .i64 n) (.int .i64 4) = some (.int .i64 (if n.testBit 2 then 4 else 0)) := and_ok (j := 2) hn (by decide)
theorem and8 : ibin .and (.int .i64 n) (.int .i64 8) = some (.int .i64 (if n.testBit 3 then 8 else 0)) := and_ok (j := 3) hn (by decide)
theorem and16 : ibin .and (.int .i64 n) (.int .i64 16) = some (.int .i64 (if n.testBit 4 then 16 else 0)) := and_ok (j := 4) hn (by decide)
end
theorem flat3 {f : List AV → Hp → Res} {a a' b b' c c' v : AV} {H H1 : Hp} (ha : closeV [] 0 6 a = some a') (hb : closeV [] 0 6 b = some b') (hd : closeV [] 0 6 c = some c') (hc : f [a', b', c'] [] = some (v, H1)) (hv : flatV 3 v = true) : flatC f [a, b, c] H = some (v, H) :=
  flatC_of (args' := [a', b', c']) (by simp [ha, hb, hd]) hc hv
theorem flat4 {f : List AV → Hp → Res} {a a' b b' c c' d d' v : AV} {H H1 : Hp} (ha : closeV [] 0 6 a = some a') (hb : closeV [] 0 6 b = some b') (hd : closeV [] 0 6 c = some c') (he : closeV [] 0 6 d = some d') (hc : f [a', b', c', d'] [] = some (v, H1)) (hv : flatV 3 v = true) : flatC f [a, b, c, d] H = some (v, H) :=
  flatC_of (args' := [a', b', c', d']) (by simp [ha, hb, hd, he]) hc hv
theorem load_loc (L : Loc) (x c e : AV) (r : List AObj) : aload true 6 (.ptr 0 0) (AObj.cells (L.cells x c e) :: r) = some (.agg (L.cells x c e)) := by simp [aload, Go.Am.apart, Loc.cells]

theorem shape_J1 {L : Loc} {x c e : AV} (hav : LocAV (.agg (L.cells x c e)) L) (hok : LocOk L) {n : Nat} (hn : n < 32) (s : List UInt8) (hs : s.length ≤ 1048576) (H0 : Hp) :
    R20_shape_J1 (.str s) (.int .i64 n) (.ptr 0 0) H0 [AObj.cells (L.cells x c e)] = some (.str (let s2 := if n.testBit 4 then dictS s else s
      if n.testBit 2 then upS L s2 else s2), [AObj.cells (L.cells x c e)]) := by
  have hJ2 : ∀ t : List UInt8, t.length ≤ 1048576 → R20_shape_J2 (.str t) (.int .i64 n) (.ptr 0 0) H0 [AObj.cells (L.cells x c e)] = some (.str (if n.testBit 2 then upS L t else t), [AObj.cells (L.cells x c e)]) := fun t ht => by
    rw [R20_shape_J2_eq]
    cases h : n.testBit 2 with
    | true => simp only [go_sem, has4 hn, h, load_loc, (upper_flat hav hok t ht _).2, R20_shape_J3_eq, if_true]
    | false => simp only [go_sem, has4 hn, h, R20_shape_J3_eq, Bool.false_eq_true, if_false]
  rw [R20_shape_J1_eq]
  cases h : n.testBit 4 with
  | true =>
    have := dict_len s
    simp only [go_sem, has16 hn, h, rdict_flat s hs, hJ2 (dictS s) (by omega), if_true]
  | false => simp only [go_sem, has16 hn, h, hJ2 s hs, Bool.false_eq_true, if_false]
theorem shape_loop {L : Loc} {x c e : AV} (hav : LocAV (.agg (L.cells x c e)) L) (hok : LocOk L) {n : Nat} (hn : n < 32) (H0 : Hp) : ∀ (s : List UInt8) (hs : s.length ≤ 1048576),
    R20_shape_L1 (.str s) (.int .i64 n) (.ptr 0 0) H0 [AObj.cells (L.cells x c e)] = some (.str (shapeS L n s), [AObj.cells (L.cells x c e)]) := by
  intro s
  induction s with
  | nil =>
    intro hs
    rw [R20_shape_L1_eq]
    have h0 : dropBl [] = [] := rfl
    cases h : n.testBit 3 with
    | true => simp only [go_sem, has8 hn, h, alen_str, List.length_nil, show decide ((0 : Int) < ((0 : Nat) : Int)) = false from rfl, shape_J1 hav hok hn [] hs, shapeS, if_true, h0]
    | false => simp only [go_sem, has8 hn, h, shape_J1 hav hok hn [] hs, shapeS, Bool.false_eq_true, if_false]
  | cons b s ih =>
    intro hs
    rw [R20_shape_L1_eq]
    have hlt : decide ((0 : Int) < ((b :: s).length : Int)) = true := by simp
    have h0 : aindexStr (.str (b :: s)) (.int .i64 0) = some (.int .u8 b.toNat) := aindexStr_of (i := 0) rfl
    have h1 : asliceS (.str (b :: s)) (some (.int .i64 1)) none none = some (.str s) := slice_lo (s := b :: s) (i := 1) (by simp)
    cases h : n.testBit 3 with
    | true =>
      simp only [go_sem, has8 hn, h, alen_str, hlt, h0, rblank_spec]
      cases hb : isBl b with
      | true =>
        simp only [go_sem, R20_shape_J4_eq, h1, ih (by simp at hs; omega)]
        simp only [shapeS, h, dropBl_cons, hb, if_true]
      | false =>
        simp only [go_sem, shape_J1 hav hok hn (b :: s) hs, shapeS, h, if_true, dropBl_cons, hb, Bool.false_eq_true, if_false]
    | false => simp only [go_sem, has8 hn, h, shape_J1 hav hok hn (b :: s) hs, shapeS, Bool.false_eq_true, if_false]
theorem shape_flat {a : AV} {L : Loc} (h : LocAV a L) (hok : LocOk L) {n : Nat} (hn : n < 32) (s : List UInt8) (hs : s.length ≤ 1048576) (H : Hp) : flatC C_R20_shape [a, .str s, .int .i64 n] H = some (.str (shapeS L n s), H) := by
  obtain ⟨a1, h1, h2⟩ := h.close [] 0 2
  have h2' := h2
  obtain ⟨x, c, e, rfl, hx, hc, he⟩ := h2
  refine flat3 h1 (b' := .str s) (c' := .int .i64 n) rfl rfl (H1 := [AObj.cells (L.cells x c e)]) ?_ rfl
  rw [F_R20_shape_eq]
  unfold F_R20_shape
  simp only [go_sem, List.length_nil, List.nil_append, shape_loop h2' hok hn [] s hs]
theorem neg_one {c : Int} (hc : c = -1 ∨ c = 0 ∨ c = 1) : IntKind.i64.wrap (0 - c) = -c := by rcases hc with rfl | rfl | rfl <;> decide
theorem rparts_flat {a : AV} {L : Loc} (h : LocAV a L) (hok : LocOk L) {n : Nat} (hn : n < 32) (s t : List UInt8) (hs : s.length ≤ 1048576) (ht : t.length ≤ 1048576) (H : Hp) : flatC C_R20_parts [a, .str s, .str t, .int .i64 n] H = some (.int .i64 (partsS L n s t), H) := by
  obtain ⟨a1, h1, h2⟩ := h.close [] 0 2
  have h2' := h2
  obtain ⟨x, c, e, rfl, hx, hc, he⟩ := h2
  refine flat4 h1 (b' := .str s) (c' := .str t) (d' := .int .i64 n) rfl rfl rfl (H1 := [AObj.cells (L.cells x c e)]) ?_ rfl
  have hJ1 : ∀ c : Int, c = -1 ∨ c = 0 ∨ c = 1 → ∀ H, R20_parts_J1 (.int .i64 n) (.int .i64 c) [] H = some (.int .i64 (if n.testBit 1 then -c else c), H) := fun c hc H => by
    rw [R20_parts_J1_eq]
    cases h : n.testBit 1 with
    | true => simp only [go_sem, has2 hn, h, aun_neg, neg_one hc, if_true]
    | false => simp only [go_sem, has2 hn, h, R20_parts_J2_eq, Bool.false_eq_true, if_false]
  have hl1 := shape_len L n s
  have hl2 := shape_len L n t
  rw [F_R20_parts_eq]
  unfold F_R20_parts partsS partsC
  cases hb : n.testBit 0 with
  | true => simp only [go_sem, List.length_nil, List.nil_append, has1 hn, hb, numbers_flat s t hs ht, hJ1 _ (sgnS_one _ _), if_true]
  | false => simp only [go_sem, List.length_nil, List.nil_append, has1 hn, hb, load_loc, shape_flat h2' hok hn s hs, shape_flat h2' hok hn t ht, rcmp_flat h2' hok (shapeS L n s) (shapeS L n t) (by omega) (by omega), hJ1 _ (cmpS_one _ _ _), Bool.false_eq_true, if_false]

def stf (z : AObj) (n : Nat) (x y : List UInt8) : Hp := [z, .cells [.int .i64 n], .cells [.str x], .cells [.str y]]
theorem change_spec {z : AObj} {n : Nat} {x y : List UInt8} {fnv : AV} {g : List UInt8 → List UInt8} {m : Int} {bit : Bool} (hand : ibin .and (.int .i64 n) (.int .i64 m) = some (.int .i64 (if bit then m else 0))) (hm : (m != 0) = true)
    (hf : ∀ s : List UInt8, (s = x ∨ s = y) → ∀ H, acallQ cfg (callw cfg) fnv [.str s] H = some (.str (g s), H)) :
    C_sortkey_parts_1 [.int .i64 m, fnv, .ptr 1 0, .ptr 2 0, .ptr 3 0] (stf z n x y) = some (.tuple [], stf z n (if bit then g x else x) (if bit then g y else y)) := by
  have l1 : aload false 1 (.ptr 1 0) (stf z n x y) = some (.int .i64 n) := aload_f1 (l := [.int .i64 n]) rfl
  have l2 : aload false 1 (.ptr 2 0) (stf z n x y) = some (.str x) := aload_f1 (l := [.str x]) rfl
  have l3 : aload false 1 (.ptr 3 0) (stf z n x y) = some (.str y) := aload_f1 (l := [.str y]) rfl
  have s1 : astoreU 1 (.ptr 2 0) (.str (g x)) (stf z n x y) = some (.tuple [], stf z n (g x) y) := by simp [astoreU, astore, stf, AV.known, AV.cells, splice]
  have s2 : astoreU 1 (.ptr 3 0) (.str (g y)) (stf z n (g x) y) = some (.tuple [], stf z n (g x) (g y)) := by simp [astoreU, astore, stf, AV.known, AV.cells, splice]
  rw [F_sortkey_parts_1_eq]
  unfold F_sortkey_parts_1
  cases bit with
  | true => simp only [go_sem, l1, hand, if_true, hm, l2, hf x (.inl rfl), l3, hf y (.inr rfl), s1, s2]
  | false => simp only [go_sem, l1, hand, Bool.false_eq_true, if_false, bne_self_eq_false]
theorem parts_flat {a : AV} {L : Loc} (h : LocAV a L) (hok : LocOk L) {n : Nat} (hn : n < 32) (s t : List UInt8) (hs : s.length ≤ 1048576) (ht : t.length ≤ 1048576) (H : Hp) : flatC C_sortkey_parts [a, .int .i64 n, .str s, .str t] H = some (.int .i64 (partsS L n s t), H) := by
  obtain ⟨a1, h1, h2⟩ := h.close [] 0 2
  have h2' := h2
  obtain ⟨x, c, e, rfl, hx, hc, he⟩ := h2
  have hcl : LocCells (L.cells x c e) L := ⟨x, c, e, rfl, hx, hc, he⟩
  suffices hs : ∃ H1, C_sortkey_parts [.agg (L.cells x c e), .int .i64 n, .str s, .str t] [] = some (.int .i64 (partsS L n s t), H1) by
    obtain ⟨H1, hr⟩ := hs
    exact flat4 h1 (b' := .int .i64 n) (c' := .str s) (d' := .str t) rfl rfl rfl hr rfl
  have l1 : ∀ z x y, aload false 1 (.ptr 1 0) (stf z n x y) = some (.int .i64 n) := fun z x y => aload_f1 (l := [.int .i64 n]) rfl
  have l2 : ∀ z x y, aload false 1 (.ptr 2 0) (stf z n x y) = some (.str x) := fun z x y => aload_f1 (l := [.str x]) rfl
  have l3 : ∀ z x y, aload false 1 (.ptr 3 0) (stf z n x y) = some (.str y) := fun z x y => aload_f1 (l := [.str y]) rfl
  have hJ2 : ∀ (z : Int) (hz : z = 1 ∨ z = -1), ∃ H1, sortkey_parts_J2 (.ptr 0 0) (.ptr 1 0) (.ptr 2 0) (.ptr 3 0) (.int .i64 z) [] (stf (.cells (L.cells x c e)) n s t) = some (.int .i64 (if z = -1 then -cmpS L (shapeS L n s) (shapeS L n t) else cmpS L (shapeS L n s) (shapeS L n t)), H1) := fun z hz => by
    have e1 := change_spec (z := .cells (L.cells x c e)) (n := n) (x := s) (y := t) (fnv := .fn (.func 55) [] []) (g := dropBl) (m := 8) (and8 hn) rfl (fun r _ H => by rw [Q_sortkey_parts_2]; exact trim_flat r H)
    have d1 := dropBl_len s
    have d2 := dropBl_len t
    have e2 := change_spec (z := .cells (L.cells x c e)) (n := n) (x := if n.testBit 3 then dropBl s else s) (y := if n.testBit 3 then dropBl t else t) (fnv := .fn (.func 57) [] []) (g := dictS) (m := 16) (and16 hn) rfl (fun r hr H => by
      rw [Q_sortkey_dict]
      refine dict_flat r ?_ H
      rcases hr with rfl | rfl <;> split <;> omega)
    have e3 := change_spec (z := .dead) (n := n) (x := if n.testBit 4 then dictS (if n.testBit 3 then dropBl s else s) else (if n.testBit 3 then dropBl s else s)) (y := if n.testBit 4 then dictS (if n.testBit 3 then dropBl t else t) else (if n.testBit 3 then dropBl t else t)) (fnv := .fn (.func 58) [] [.vp (L.cells x c e)]) (g := upS L) (m := 4) (and4 hn) rfl (fun r hr H => by
      rw [Q_sortkey_parts_3]
      refine fold_flat hcl hok r ?_ H
      have := dict_len s
      have := dict_len t
      have := dict_len (dropBl s)
      have := dict_len (dropBl t)
      rcases hr with rfl | rfl <;> split <;> split <;> omega)
    have hl1 := shape_len L n s
    have hl2 := shape_len L n t
    have hfz : ∀ (x' y' : List UInt8) (k : AV → Hp → Res), frzK (.ptr 0 0) (stf (.cells (L.cells x c e)) n x' y') k = k (.vp (L.cells x c e)) (stf .dead n x' y') := fun x' y' k => rfl
    refine ⟨stf .dead n (shapeS L n s) (shapeS L n t), ?_⟩
    rw [sortkey_parts_J2_eq]
    simp only [go_sem, V_sortkey_parts_1, List.nil_append, List.cons_append, e1, e2, hfz, e3, aload_vpn 6 (L.cells x c e) rfl, l2, l3]
    have hsh : ∀ r, (if n.testBit 2 = true then upS L (if n.testBit 4 = true then dictS (if n.testBit 3 = true then dropBl r else r) else if n.testBit 3 = true then dropBl r else r) else if n.testBit 4 = true then dictS (if n.testBit 3 = true then dropBl r else r) else if n.testBit 3 = true then dropBl r else r) = shapeS L n r := fun r => rfl
    simp only [hsh, lcmp_flat h2' hok (shapeS L n s) (shapeS L n t) (by omega) (by omega), go_sem, turn_mul (cmpS_one _ _ _) hz]
  have hJ1 : ∀ (z : Int) (hz : z = 1 ∨ z = -1), ∃ H1, sortkey_parts_J1 (.ptr 0 0) (.ptr 1 0) (.ptr 2 0) (.ptr 3 0) (.int .i64 z) [] (stf (.cells (L.cells x c e)) n s t) = some (.int .i64 (if z = -1 then -partsC L n s t else partsC L n s t), H1) := fun z hz => by
    rw [sortkey_parts_J1_eq]
    unfold partsC
    cases hb : n.testBit 0 with
    | true =>
      obtain ⟨e1, p1⟩ := pre_flat s hs (stf (.cells (L.cells x c e)) n s t)
      obtain ⟨e2, p2⟩ := pre_flat t ht (stf (.cells (L.cells x c e)) n s t)
      refine ⟨stf (.cells (L.cells x c e)) n s t, ?_⟩
      simp only [go_sem, l1, and1 hn, hb, if_true, show ((1 : Int) != 0) = true from rfl, l2, l3, p1, p2, aext0, aext1, sign_flat, turn_mul (sgnS_one _ _) hz]
    | false =>
      obtain ⟨H1, q⟩ := hJ2 z hz
      refine ⟨H1, ?_⟩
      simp only [go_sem, l1, and1 hn, hb, Bool.false_eq_true, if_false, bne_self_eq_false]
      exact q
  have b1 : ∀ (k : Int) (H : Hp), abox (.int .i64 k) H = some (.ptr H.length 0, H ++ [.cells [.int .i64 k]]) := fun k H => abox_of rfl
  have b2 : ∀ (k : List UInt8) (H : Hp), abox (.str k) H = some (.ptr H.length 0, H ++ [.cells [.str k]]) := fun k H => abox_of rfl
  rw [F_sortkey_parts_eq]
  unfold F_sortkey_parts
  have hst : [AObj.cells (L.cells x c e), .cells [.int .i64 n], .cells [.str s], .cells [.str t]] = stf (.cells (L.cells x c e)) n s t := rfl
  unfold partsS
  cases hb : n.testBit 1 with
  | true =>
    obtain ⟨H1, q⟩ := hJ1 (-1) (.inr rfl)
    refine ⟨H1, ?_⟩
    simp only [go_sem, b1, b2, List.length_nil, List.length_cons, List.nil_append, List.cons_append, Nat.zero_add, Nat.reduceAdd, hst, l1, and2 hn, hb, if_true, show ((2 : Int) != 0) = true from rfl]
    simpa using q
  | false =>
    obtain ⟨H1, q⟩ := hJ1 1 (.inl rfl)
    refine ⟨H1, ?_⟩
    simp only [go_sem, b1, b2, List.length_nil, List.length_cons, List.nil_append, List.cons_append, Nat.zero_add, Nat.reduceAdd, hst, l1, and2 hn, hb, Bool.false_eq_true, if_false, bne_self_eq_false]
    simpa using q
end Go.Am
namespace Go.Am
set_option linter.unusedSimpArgs false
set_option linter.unusedVariables false
set_option maxRecDepth 100000

def plainP : Spec := ⟨[], -1, 0, false, false⟩
def validP (p : Spec) : Spec := if (checkS p != 0) = true then plainP else p
theorem Sl.known {k : Nat} {x : AV} {l : List AV} (h : Sl k x l) : x.known = true := by
  rcases h with ⟨rfl, _⟩ | ⟨tok, rfl⟩ <;> rfl

theorem vspec_flat {a : AV} {p : Spec} (h : SpecAV a p) (H : Hp) : ∃ a', flatC C_sortkey_valid [a] H = some (a', H) ∧ SpecAV a' (validP p) := by
  obtain ⟨a1, h1, h2⟩ := h.close [] 0 2
  have hck := fun H => check_flat h2 H
  obtain ⟨x, rfl, hx⟩ := h2
  have hl : aload true 5 (.ptr 0 0) [AObj.cells (p.cells x), .cells [.nils, .int .i64 0, .int .i64 0, .bool false, .bool false]] = some (.agg (p.cells x)) := by simp [aload, Go.Am.apart, Spec.cells]
  unfold validP
  cases hb : (checkS p != 0) with
  | true =>
    have hfill : (afill [(1, 1, (.int .i64 (-1)))] [.nils, (.int .i64 0), (.int .i64 0), (.bool false), (.bool false)]).map AV.agg = some (.agg (plainP.cells .nils)) := rfl
    have hst : astoreU 5 (.ptr 1 0) (.agg (plainP.cells .nils)) [AObj.cells (p.cells x), .cells [.nils, .int .i64 0, .int .i64 0, .bool false, .bool false]] = some (.tuple [], [AObj.cells (p.cells x), .cells (plainP.cells .nils)]) := by simp [astoreU, astore, AV.known, AV.cells, Spec.cells, splice]
    have hl2 : aload true 5 (.ptr 1 0) [AObj.cells (p.cells x), .cells (plainP.cells .nils)] = some (.agg (plainP.cells .nils)) := by simp [aload, Go.Am.apart, Spec.cells]
    have hrun : C_sortkey_valid [.agg (p.cells x)] [] = some (.agg (plainP.cells .nils), [AObj.cells (p.cells x), .cells (plainP.cells .nils)]) := by
      rw [F_sortkey_valid_eq]
      unfold F_sortkey_valid
      simp only [go_sem, List.nil_append, List.length_nil, List.length_cons, List.cons_append, Nat.zero_add, hl, hck, hb, hfill, hst, hl2]
    obtain ⟨a', q1, q2⟩ := SpecAV.close (a := .agg (plainP.cells .nils)) (p := plainP) ⟨.nils, rfl, .inl ⟨rfl, rfl⟩⟩ [AObj.cells (p.cells x), .cells (plainP.cells .nils)] 0 2
    exact ⟨a', flatC_eq h1 hrun q1, by simpa using q2⟩
  | false =>
    have hst : astoreU 5 (.ptr 1 0) (.agg (p.cells x)) [AObj.cells (p.cells x), .cells [.nils, .int .i64 0, .int .i64 0, .bool false, .bool false]] = some (.tuple [], [AObj.cells (p.cells x), .cells (p.cells x)]) := by simp [astoreU, astore, AV.known, AV.cells, Spec.cells, splice]
    have hl2 : aload true 5 (.ptr 1 0) [AObj.cells (p.cells x), .cells (p.cells x)] = some (.agg (p.cells x)) := by simp [aload, Go.Am.apart, Spec.cells]
    have hrun : C_sortkey_valid [.agg (p.cells x)] [] = some (.agg (p.cells x), [AObj.cells (p.cells x), .cells (p.cells x)]) := by
      rw [F_sortkey_valid_eq]
      unfold F_sortkey_valid
      simp only [go_sem, List.nil_append, List.length_nil, List.length_cons, List.cons_append, Nat.zero_add, hl, hck, hb, sortkey_valid_J1_eq, hst, hl2]
    obtain ⟨a', q1, q2⟩ := SpecAV.close (a := .agg (p.cells x)) (p := p) ⟨x, rfl, hx⟩ [AObj.cells (p.cells x), .cells (p.cells x)] 0 2
    exact ⟨a', flatC_eq h1 hrun q1, by simpa using q2⟩

theorem rvspec_flat {a : AV} {p : Spec} (h : SpecAV a p) (H : Hp) : ∃ a', flatC C_R20_valid [a] H = some (a', H) ∧ SpecAV a' (validP p) := by
  obtain ⟨a1, h1, h2⟩ := h.close [] 0 2
  have hck := fun H => rcheck_flat h2 H
  obtain ⟨x, rfl, hx⟩ := h2
  have hl : aload true 5 (.ptr 0 0) [AObj.cells (p.cells x), .cells [.nils, .int .i64 0, .int .i64 0, .bool false, .bool false]] = some (.agg (p.cells x)) := by simp [aload, Go.Am.apart, Spec.cells]
  unfold validP
  cases hb : (checkS p != 0) with
  | true =>
    have hfill : (afill [(1, 1, (.int .i64 (-1)))] [.nils, (.int .i64 0), (.int .i64 0), (.bool false), (.bool false)]).map AV.agg = some (.agg (plainP.cells .nils)) := rfl
    have hst : astoreU 5 (.ptr 1 0) (.agg (plainP.cells .nils)) [AObj.cells (p.cells x), .cells [.nils, .int .i64 0, .int .i64 0, .bool false, .bool false]] = some (.tuple [], [AObj.cells (p.cells x), .cells (plainP.cells .nils)]) := by simp [astoreU, astore, AV.known, AV.cells, Spec.cells, splice]
    have hl2 : aload true 5 (.ptr 1 0) [AObj.cells (p.cells x), .cells (plainP.cells .nils)] = some (.agg (plainP.cells .nils)) := by simp [aload, Go.Am.apart, Spec.cells]
    have hrun : C_R20_valid [.agg (p.cells x)] [] = some (.agg (plainP.cells .nils), [AObj.cells (p.cells x), .cells (plainP.cells .nils)]) := by
      rw [F_R20_valid_eq]
      unfold F_R20_valid
      simp only [go_sem, List.nil_append, List.length_nil, List.length_cons, List.cons_append, Nat.zero_add, hl, hck, hb, hfill, hst, hl2]
    obtain ⟨a', q1, q2⟩ := SpecAV.close (a := .agg (plainP.cells .nils)) (p := plainP) ⟨.nils, rfl, .inl ⟨rfl, rfl⟩⟩ [AObj.cells (p.cells x), .cells (plainP.cells .nils)] 0 2
    exact ⟨a', flatC_eq h1 hrun q1, by simpa using q2⟩
  | false =>
    have hst : astoreU 5 (.ptr 1 0) (.agg (p.cells x)) [AObj.cells (p.cells x), .cells [.nils, .int .i64 0, .int .i64 0, .bool false, .bool false]] = some (.tuple [], [AObj.cells (p.cells x), .cells (p.cells x)]) := by simp [astoreU, astore, AV.known, AV.cells, Spec.cells, splice]
    have hl2 : aload true 5 (.ptr 1 0) [AObj.cells (p.cells x), .cells (p.cells x)] = some (.agg (p.cells x)) := by simp [aload, Go.Am.apart, Spec.cells]
    have hrun : C_R20_valid [.agg (p.cells x)] [] = some (.agg (p.cells x), [AObj.cells (p.cells x), .cells (p.cells x)]) := by
      rw [F_R20_valid_eq]
      unfold F_R20_valid
      simp only [go_sem, List.nil_append, List.length_nil, List.length_cons, List.cons_append, Nat.zero_add, hl, hck, hb, R20_valid_J1_eq, hst, hl2]
    obtain ⟨a', q1, q2⟩ := SpecAV.close (a := .agg (p.cells x)) (p := p) ⟨x, rfl, hx⟩ [AObj.cells (p.cells x), .cells (p.cells x)] 0 2
    exact ⟨a', flatC_eq h1 hrun q1, by simpa using q2⟩

theorem validP_ok (p : Spec) : (0 ≤ (validP p).flags ∧ (validP p).flags ≤ 31) ∧ (validP p).keys.length ≤ 8 ∧ ∀ k ∈ (validP p).keys, 0 ≤ k.fl ∧ k.fl ≤ 31 := by
  unfold validP
  cases hb : (checkS p != 0) with
  | true => simp [plainP]
  | false =>
    rw [bne_eq_false_iff_eq] at hb
    unfold checkS at hb
    split at hb
    · cases hb
    · split at hb
      · cases hb
      · split at hb
        · cases hb
        · rename_i h1 h2 h3
          simp only [Bool.or_eq_true, decide_eq_true_eq, not_or] at h2
          simp only [Bool.false_eq_true, if_false]
          refine ⟨by omega, by omega, fun k hk => ?_⟩
          have h4 : ¬ keyBad k = true := fun h => h3 (List.any_eq_true.2 ⟨k, hk, h⟩)
          simp only [keyBad, Bool.or_eq_true, decide_eq_true_eq, not_or] at h4
          omega
theorem validP_keys (p : Spec) (h : ∀ k ∈ p.keys, KeOk k) : ∀ k ∈ (validP p).keys, KeOk k := by
  unfold validP
  split
  · intro k hk; cases hk
  · exact h
theorem ex_len (line : List UInt8) (fs : List (Nat × Nat)) (k : Ke) : (ex line fs k).length ≤ line.length := by
  unfold ex
  split
  · dsimp only
    split
    · simp
    · rw [List.length_drop, List.length_take]; omega
  · simp
def flg (p : Spec) (k : Ke) : Nat := if (k.fl == 0) = true then p.flags.toNat else k.fl.toNat
def cmpK (L : Loc) (p : Spec) (a b : List UInt8) : List Ke → Int
  | [] => 0
  | k :: l => if (partsS L (flg p k) (ex a (fields a p.sep) k) (ex b (fields b p.sep) k) != 0) = true then partsS L (flg p k) (ex a (fields a p.sep) k) (ex b (fields b p.sep) k) else cmpK L p a b l
theorem cmpK_cons (L : Loc) (p : Spec) (a b : List UInt8) (k : Ke) (l : List Ke) : cmpK L p a b (k :: l) = if (partsS L (flg p k) (ex a (fields a p.sep) k) (ex b (fields b p.sep) k) != 0) = true then partsS L (flg p k) (ex a (fields a p.sep) k) (ex b (fields b p.sep) k) else cmpK L p a b l := (Eq.refl _).trans (Eq.refl _)
def lineV (L : Loc) (p : Spec) (a b : List UInt8) : Int := if (p.keys.length == 0) = true then partsS L p.flags.toNat a b else cmpK L p a b p.keys
def lineS (L : Loc) (p : Spec) (a b : List UInt8) : Int := lineV L (validP p) a b
end Go.Am
namespace Go.Am
set_option linter.unusedSimpArgs false
set_option linter.unusedVariables false
set_option maxRecDepth 100000

def CSt (lc sc : List AV) (x4 x5 : AV) (H : Hp) : Prop := (x4 = .vp lc ∧ x5 = .vp sc) ∨ (x4 = .ptr 0 0 ∧ x5 = .ptr 1 0 ∧ H = [.cells lc, .cells sc])
theorem CSt.frz {lc sc : List AV} {x4 x5 : AV} {H : Hp} (h : CSt lc sc x4 x5 H) (kc : List AV) : ∃ H2, ∀ K : AV → AV → AV → Hp → Res,
    (frzK x4 (H ++ [.cells kc]) fun z4 h4 => frzK x5 h4 fun z5 h5 => frzK (.ptr H.length 0) h5 fun z10 h10 => K z4 z5 z10 h10) = K (.vp lc) (.vp sc) (.vp kc) H2 := by
  rcases h with ⟨rfl, rfl⟩ | ⟨rfl, rfl, rfl⟩
  · refine ⟨H ++ [.dead], fun K => ?_⟩
    have hv : ∀ (l : List AV) (H : Hp) (k : AV → Hp → Res), frzK (.vp l) H k = k (.vp l) H := fun l H k => rfl
    rw [hv, hv, frz_last]
  · exact ⟨[.dead, .dead, .dead], fun K => rfl⟩
theorem CSt.fld {lc : List AV} {x : AV} {p : Spec} {x4 x5 : AV} {H : Hp} (h : CSt lc (p.cells x) x4 x5 H) :
    (∃ y, afield 0 x5 = some y ∧ ∀ r, aload false 1 y (H ++ r) = some x) ∧ (∃ y, afield 2 x5 = some y ∧ ∀ r, aload false 1 y (H ++ r) = some (.int .i64 p.flags)) := by
  rcases h with ⟨rfl, rfl⟩ | ⟨rfl, rfl, rfl⟩
  · exact ⟨⟨.vp (p.cells x), rfl, fun r => by simp only [Spec.cells, aload_vpc]⟩, ⟨.vp [.int .i64 p.flags, .bool p.uniq, .bool p.stab], rfl, fun r => by simp only [aload_vpc]⟩⟩
  · exact ⟨⟨.ptr 1 0, rfl, fun r => aload_f1 (l := p.cells x) rfl⟩, ⟨.ptr 1 2, rfl, fun r => aload_f1 (l := p.cells x) rfl⟩⟩
theorem vpf (x : AV) (p : Spec) : afield 1 (.vp (p.cells x)) = some (.vp [.int .i64 p.sep, .int .i64 p.flags, .bool p.uniq, .bool p.stab]) := rfl
theorem kef (k : Ke) : afield 4 (.vp k.cells) = some (.vp [.int .i64 k.fl]) := rfl
theorem aloadv_loc (L : Loc) (x c e : AV) : aloadv true 6 (.vp (L.cells x c e)) = some (.agg (L.cells x c e)) := rfl
theorem aloadv_ke (k : Ke) : aloadv true 5 (.vp k.cells) = some (.agg k.cells) := rfl
section
variable {L : Loc} {x c e : AV} (hav : LocAV (.agg (L.cells x c e)) L) (hok : LocOk L) {p : Spec} {xk : AV} (hk : Sl 5 xk (p.keys.map Ke.av)) (hlen : p.keys.length ≤ 8)
  (hks : ∀ k ∈ p.keys, KeOk k) (hkf : ∀ k ∈ p.keys, 0 ≤ k.fl ∧ k.fl ≤ 31) (hfl : 0 ≤ p.flags ∧ p.flags ≤ 31) (a b : List UInt8) (ha : a.length ≤ 1048576) (hb : b.length ≤ 1048576)
include hav hok hk hlen hks hkf hfl ha hb
theorem cmp_loop : ∀ (m i : Nat) (x4 x5 : AV) (H : Hp), p.keys.length - i = m → i ≤ p.keys.length → CSt (L.cells x c e) (p.cells xk) x4 x5 H →
    ∃ H', sortkey_Compare_L1 (.str a) (.str b) x4 x5 xk (.int .i64 (p.keys.length : Int)) (.int .i64 (i : Int)) [] H = some (.int .i64 (cmpK L p a b (p.keys.drop i)), H') := by
  intro m
  induction m with
  | zero =>
    intro i x4 x5 H hm hi hst
    have hlt : decide ((i : Int) < (p.keys.length : Int)) = false := by simp; omega
    have hd : p.keys.drop i = [] := List.drop_eq_nil_iff.2 (by omega)
    refine ⟨H, ?_⟩
    rw [sortkey_Compare_L1_eq]
    simp only [go_sem, hlt, sortkey_Compare_J2_eq, hd, cmpK]
  | succ m ih =>
    intro i x4 x5 H hm hi hst
    have hi1 : i < p.keys.length := by omega
    have hlt : decide ((i : Int) < (p.keys.length : Int)) = true := by simp; omega
    have hw : IntKind.i64.wrap ((i : Int) + 1) = ((i + 1 : Nat) : Int) := by rw [wrap64 (by omega) (by omega)]; omega
    have hmem : p.keys[i] ∈ p.keys := List.getElem_mem hi1
    have hko := hks _ hmem
    have hkf' := hkf _ hmem
    rw [List.drop_eq_getElem_cons hi1, cmpK_cons]
    have hget : p.keys[i]? = some p.keys[i] := List.getElem?_eq_getElem hi1
    generalize p.keys[i] = k at hko hkf' hget
    obtain ⟨_, y, hy1, hy2⟩ := hst.fld
    obtain ⟨H2, hfz⟩ := hst.frz k.cells
    obtain ⟨H3, e1, _⟩ := extract_spec ha hko p.sep H2
    obtain ⟨H4, e2, _⟩ := extract_spec hb hko p.sep H3
    have l1 := ex_len a (fields a p.sep) k
    have l2 := ex_len b (fields b p.sep) k
    have hn : flg p k < 32 := by unfold flg; split <;> omega
    have hp := parts_flat hav hok hn (ex a (fields a p.sep) k) (ex b (fields b p.sep) k) (by omega) (by omega) H4
    have hJ5 : ∃ H', sortkey_Compare_J5 (.str a) (.str b) x4 x5 (.ptr H.length 0) (.int .i64 (flg p k : Int)) xk (.int .i64 (p.keys.length : Int)) (.int .i64 (i : Int)) [] (H ++ [.cells k.cells]) = some (.int .i64 (if (partsS L (flg p k) (ex a (fields a p.sep) k) (ex b (fields b p.sep) k) != 0) = true then partsS L (flg p k) (ex a (fields a p.sep) k) (ex b (fields b p.sep) k) else cmpK L p a b (p.keys.drop (i + 1))), H') := by
      rw [sortkey_Compare_J5_eq, hfz]
      simp only [aloadv_loc, aload_vp5, vpf, aload_vpc, aloadv_vpc, aloadv_ke, go_sem, e1, e2, hp]
      cases hc : (partsS L (flg p k) (ex a (fields a p.sep) k) (ex b (fields b p.sep) k) != 0) with
      | true => exact ⟨H4, by simp only [go_sem, if_true]⟩
      | false =>
        obtain ⟨H5, q⟩ := ih (i + 1) (.vp (L.cells x c e)) (.vp (p.cells xk)) H4 (by omega) (by omega) (.inl ⟨rfl, rfl⟩)
        exact ⟨H5, by simp only [go_sem, Bool.false_eq_true, if_false, sortkey_Compare_J4_eq, hw, q]⟩
    obtain ⟨H', hJ5⟩ := hJ5
    refine ⟨H', ?_⟩
    have hst5 := astore_last5 H k [.int .i64 0, .int .i64 0, .int .i64 0, .int .i64 0, .int .i64 0] rfl
    have hlf : aload false 1 (.ptr H.length (0 + 4)) (H ++ [.cells k.cells]) = some (.int .i64 k.fl) := aload_lastf H k.cells 4
    rw [sortkey_Compare_L1_eq]
    simp only [go_sem, hlt, sortkey_Compare_J3_eq, hk.key hget, aload_vp5, hst5, hlf]
    cases h0 : (k.fl == 0) with
    | true =>
      have hf : (p.flags : Int) = ((flg p k : Nat) : Int) := by unfold flg; rw [h0, if_pos rfl]; omega
      simp only [go_sem, hy1, hy2, hf]
      exact hJ5
    | false =>
      have hf : (k.fl : Int) = ((flg p k : Nat) : Int) := by unfold flg; rw [h0, if_neg (by decide)]; omega
      simp only [go_sem]
      rw [hf]
      exact hJ5
theorem rcmp_loop : ∀ (m i : Nat) (x4 x5 : AV) (H : Hp), p.keys.length - i = m → i ≤ p.keys.length → CSt (L.cells x c e) (p.cells xk) x4 x5 H →
    ∃ H', R20_Compare_L1 (.str a) (.str b) x4 x5 (.int .i64 (i : Int)) [] H = some (.int .i64 (cmpK L p a b (p.keys.drop i)), H') := by
  intro m
  induction m with
  | zero =>
    intro i x4 x5 H hm hi hst
    have hlt : decide ((i : Int) < (p.keys.length : Int)) = false := by simp; omega
    have hd : p.keys.drop i = [] := List.drop_eq_nil_iff.2 (by omega)
    obtain ⟨⟨y, hy1, hy2⟩, _⟩ := hst.fld
    have hy2 := hy2 []
    rw [List.append_nil] at hy2
    have hlk := hk.len 49
    rw [List.length_map] at hlk
    refine ⟨H, ?_⟩
    rw [R20_Compare_L1_eq]
    simp only [go_sem, hy1, hy2, hlk, hlt, R20_Compare_J2_eq, hd, cmpK]
  | succ m ih =>
    intro i x4 x5 H hm hi hst
    have hi1 : i < p.keys.length := by omega
    have hlt : decide ((i : Int) < (p.keys.length : Int)) = true := by simp; omega
    have hw : IntKind.i64.wrap ((i : Int) + 1) = ((i + 1 : Nat) : Int) := by rw [wrap64 (by omega) (by omega)]; omega
    have hmem : p.keys[i] ∈ p.keys := List.getElem_mem hi1
    have hko := hks _ hmem
    have hkf' := hkf _ hmem
    rw [List.drop_eq_getElem_cons hi1, cmpK_cons]
    have hget : p.keys[i]? = some p.keys[i] := List.getElem?_eq_getElem hi1
    generalize p.keys[i] = k at hko hkf' hget
    obtain ⟨⟨y0, hy01, hy02⟩, y, hy1, hy2⟩ := hst.fld
    have hy02' := hy02 []
    rw [List.append_nil] at hy02'
    have hlk := hk.len 49
    rw [List.length_map] at hlk
    have hn : flg p k < 32 := by unfold flg; split <;> omega
    have hJ5 : ∀ k' : Ke, k' = { k with fl := (flg p k : Nat) } → ∃ H', R20_Compare_J5 (.str a) (.str b) x4 x5 (.int .i64 (i : Int)) (.ptr H.length 0) [] (H ++ [.cells k'.cells]) = some (.int .i64 (if (partsS L (flg p k) (ex a (fields a p.sep) k) (ex b (fields b p.sep) k) != 0) = true then partsS L (flg p k) (ex a (fields a p.sep) k) (ex b (fields b p.sep) k) else cmpK L p a b (p.keys.drop (i + 1))), H') := by
      intro k' hk'
      have hko' : KeOk k' := by subst hk'; exact ⟨hko.ff, hko.fc, hko.tf, hko.tc⟩
      have hex : ∀ (l : List UInt8) fs, ex l fs k' = ex l fs k := fun l fs => by subst hk'; rfl
      obtain ⟨H2, hfz⟩ := hst.frz k'.cells
      obtain ⟨H3, e1⟩ := rextract_spec ha hko' p.sep H2
      obtain ⟨H4, e2⟩ := rextract_spec hb hko' p.sep H3
      rw [hex] at e1 e2
      have l1 := ex_len a (fields a p.sep) k
      have l2 := ex_len b (fields b p.sep) k
      have hp := rparts_flat hav hok hn (ex a (fields a p.sep) k) (ex b (fields b p.sep) k) (by omega) (by omega) H4
      have hkfl : (k'.fl : Int) = ((flg p k : Nat) : Int) := by subst hk'; rfl
      rw [R20_Compare_J5_eq, hfz]
      simp only [aloadv_loc, aload_vp5, vpf, kef, aload_vpc, aloadv_vpc, aloadv_ke, go_sem, e1, e2, hkfl, hp]
      cases hc : (partsS L (flg p k) (ex a (fields a p.sep) k) (ex b (fields b p.sep) k) != 0) with
      | true => exact ⟨H4, by simp only [go_sem, if_true]⟩
      | false =>
        obtain ⟨H5, q⟩ := ih (i + 1) (.vp (L.cells x c e)) (.vp (p.cells xk)) H4 (by omega) (by omega) (.inl ⟨rfl, rfl⟩)
        exact ⟨H5, by simp only [go_sem, Bool.false_eq_true, if_false, R20_Compare_J4_eq, hw, q]⟩
    have hst5 := astore_last5 H k [.int .i64 0, .int .i64 0, .int .i64 0, .int .i64 0, .int .i64 0] rfl
    have hlf : aload false 1 (.ptr H.length (0 + 4)) (H ++ [.cells k.cells]) = some (.int .i64 k.fl) := aload_lastf H k.cells 4
    rw [R20_Compare_L1_eq]
    simp only [go_sem, hy01, hy02', hlk, hlt, R20_Compare_J3_eq, hk.key hget, aload_vp5, hst5, hlf]
    cases h0 : (k.fl == 0) with
    | true =>
      have hf : (p.flags : Int) = ((flg p k : Nat) : Int) := by unfold flg; rw [h0, if_pos rfl]; omega
      obtain ⟨H', q⟩ := hJ5 _ rfl
      have hs4 : astoreU 1 (.ptr H.length (0 + 4)) (.int .i64 (flg p k : Nat)) (H ++ [.cells k.cells]) = some (.tuple [], H ++ [.cells (Ke.cells { k with fl := (flg p k : Nat) })]) := by
        rw [astore_of (sz := 1) (v := .int .i64 (flg p k : Nat)) (get_last _ _) rfl rfl (by simp [Ke.cells])]
        simp [AV.cells, splice, Ke.cells]
      refine ⟨H', ?_⟩
      simp only [go_sem, hy1, hy2, hf, hs4]
      exact q
    | false =>
      have hf : (k.fl : Int) = ((flg p k : Nat) : Int) := by unfold flg; rw [h0, if_neg (by decide)]; omega
      obtain ⟨H', q⟩ := hJ5 k (by cases k; simp only at hf ⊢; rw [← hf])
      refine ⟨H', ?_⟩
      simp only [go_sem]
      exact q
end
end Go.Am
namespace Go.Am
set_option linter.unusedSimpArgs false
set_option linter.unusedVariables false
set_option maxRecDepth 100000

theorem line_flat {a : AV} {L : Loc} (h : LocAV a L) (hok : LocOk L) {q : AV} {p : Spec} (hq : SpecAV q p) (hks : ∀ k ∈ p.keys, KeOk k) (s t : List UInt8) (hs : s.length ≤ 1048576) (ht : t.length ≤ 1048576) (H : Hp) :
    flatC C_sortkey_Compare [a, q, .str s, .str t] H = some (.int .i64 (lineS L p s t), H) := by
  obtain ⟨a1, h1, h2⟩ := h.close [] 0 2
  obtain ⟨q1, g1, g2⟩ := hq.close [] 0 2
  have hav := h2
  have hv := fun H => vspec_flat g2 H
  obtain ⟨x, c, e, rfl, hx, hc, he⟩ := h2
  obtain ⟨xp, rfl, hxp⟩ := g2
  obtain ⟨v', hv1, xv, rfl, hxv⟩ := hv [AObj.cells (L.cells x c e), .cells (p.cells xp)]
  obtain ⟨hfl, hlen, hkf⟩ := validP_ok p
  have hks' := validP_keys p hks
  suffices hs : ∃ H1, C_sortkey_Compare [.agg (L.cells x c e), .agg (p.cells xp), .str s, .str t] [] = some (.int .i64 (lineS L p s t), H1) by
    obtain ⟨H1, hr⟩ := hs
    exact flat4 h1 g1 (c' := .str s) (d' := .str t) rfl rfl hr rfl
  have hl : aload true 5 (.ptr 1 0) [AObj.cells (L.cells x c e), .cells (p.cells xp)] = some (.agg (p.cells xp)) := by simp [aload, Go.Am.apart, Spec.cells]
  have hst : astoreU 5 (.ptr 1 0) (.agg ((validP p).cells xv)) [AObj.cells (L.cells x c e), .cells (p.cells xp)] = some (.tuple [], [AObj.cells (L.cells x c e), .cells ((validP p).cells xv)]) := by simp [astoreU, astore, AV.known, AV.cells, Spec.cells, splice]
  have hf0 : aload false 1 (.ptr 1 (0 + 0)) [AObj.cells (L.cells x c e), .cells ((validP p).cells xv)] = some xv := aload_f1 (l := (validP p).cells xv) rfl
  have hf2 : aload false 1 (.ptr 1 (0 + 2)) [AObj.cells (L.cells x c e), .cells ((validP p).cells xv)] = some (.int .i64 (validP p).flags) := aload_f1 (l := (validP p).cells xv) rfl
  have hlk := hxv.len 49
  rw [List.length_map] at hlk
  have hloc := load_loc L x c e [.cells ((validP p).cells xv)]
  have hn : (validP p).flags.toNat < 32 := by omega
  have hfi : ((validP p).flags : Int) = (((validP p).flags.toNat : Nat) : Int) := by omega
  have hp := parts_flat hav hok hn s t hs ht [AObj.cells (L.cells x c e), .cells ((validP p).cells xv)]
  rw [← hfi] at hp
  have hlen0 : (((validP p).keys.length : Int) == 0) = ((validP p).keys.length == 0) := by
    rw [Bool.eq_iff_iff, beq_iff_eq, beq_iff_eq]; omega
  rw [F_sortkey_Compare_eq]
  unfold F_sortkey_Compare lineS lineV
  cases h0 : ((validP p).keys.length == 0) with
  | true =>
    exact ⟨[AObj.cells (L.cells x c e), .cells ((validP p).cells xv)], by simp only [go_sem, abox_agg, List.nil_append, List.length_nil, List.length_cons, List.cons_append, hl, hv1, hst, hf0, hlk, hlen0, h0, hloc, hf2, hp, if_true, Nat.zero_add, Nat.reduceAdd]⟩
  | false =>
    obtain ⟨H', r⟩ := cmp_loop hav hok hxv hlen hks' hkf hfl s t hs ht _ 0 (.ptr 0 0) (.ptr 1 0) _ rfl (Nat.zero_le _) (.inr ⟨rfl, rfl, rfl⟩)
    rw [List.drop_zero, show ((0 : Nat) : Int) = 0 from rfl] at r
    refine ⟨H', ?_⟩
    simp only [go_sem, abox_agg, List.nil_append, List.length_nil, List.length_cons, List.cons_append, hl, hv1, hst, hf0, hlk, hlen0, h0, sortkey_Compare_J1_eq, r, Bool.false_eq_true, if_false, Nat.zero_add, Nat.reduceAdd]

theorem rline_flat {a : AV} {L : Loc} (h : LocAV a L) (hok : LocOk L) {q : AV} {p : Spec} (hq : SpecAV q p) (hks : ∀ k ∈ p.keys, KeOk k) (s t : List UInt8) (hs : s.length ≤ 1048576) (ht : t.length ≤ 1048576) (H : Hp) :
    flatC C_R20_Compare [a, q, .str s, .str t] H = some (.int .i64 (lineS L p s t), H) := by
  obtain ⟨a1, h1, h2⟩ := h.close [] 0 2
  obtain ⟨q1, g1, g2⟩ := hq.close [] 0 2
  have hav := h2
  have hv := fun H => rvspec_flat g2 H
  obtain ⟨x, c, e, rfl, hx, hc, he⟩ := h2
  obtain ⟨xp, rfl, hxp⟩ := g2
  obtain ⟨v', hv1, xv, rfl, hxv⟩ := hv [AObj.cells (L.cells x c e), .cells (p.cells xp)]
  obtain ⟨hfl, hlen, hkf⟩ := validP_ok p
  have hks' := validP_keys p hks
  suffices hs : ∃ H1, C_R20_Compare [.agg (L.cells x c e), .agg (p.cells xp), .str s, .str t] [] = some (.int .i64 (lineS L p s t), H1) by
    obtain ⟨H1, hr⟩ := hs
    exact flat4 h1 g1 (c' := .str s) (d' := .str t) rfl rfl hr rfl
  have hl : aload true 5 (.ptr 1 0) [AObj.cells (L.cells x c e), .cells (p.cells xp)] = some (.agg (p.cells xp)) := by simp [aload, Go.Am.apart, Spec.cells]
  have hst : astoreU 5 (.ptr 1 0) (.agg ((validP p).cells xv)) [AObj.cells (L.cells x c e), .cells (p.cells xp)] = some (.tuple [], [AObj.cells (L.cells x c e), .cells ((validP p).cells xv)]) := by simp [astoreU, astore, AV.known, AV.cells, Spec.cells, splice]
  have hf0 : aload false 1 (.ptr 1 (0 + 0)) [AObj.cells (L.cells x c e), .cells ((validP p).cells xv)] = some xv := aload_f1 (l := (validP p).cells xv) rfl
  have hf2 : aload false 1 (.ptr 1 (0 + 2)) [AObj.cells (L.cells x c e), .cells ((validP p).cells xv)] = some (.int .i64 (validP p).flags) := aload_f1 (l := (validP p).cells xv) rfl
  have hlk := hxv.len 49
  rw [List.length_map] at hlk
  have hloc := load_loc L x c e [.cells ((validP p).cells xv)]
  have hn : (validP p).flags.toNat < 32 := by omega
  have hfi : ((validP p).flags : Int) = (((validP p).flags.toNat : Nat) : Int) := by omega
  have hp := rparts_flat hav hok hn s t hs ht [AObj.cells (L.cells x c e), .cells ((validP p).cells xv)]
  rw [← hfi] at hp
  have hlen0 : (((validP p).keys.length : Int) == 0) = ((validP p).keys.length == 0) := by
    rw [Bool.eq_iff_iff, beq_iff_eq, beq_iff_eq]; omega
  rw [F_R20_Compare_eq]
  unfold F_R20_Compare lineS lineV
  cases h0 : ((validP p).keys.length == 0) with
  | true =>
    exact ⟨[AObj.cells (L.cells x c e), .cells ((validP p).cells xv)], by simp only [go_sem, abox_agg, List.nil_append, List.length_nil, List.length_cons, List.cons_append, hl, hv1, hst, hf0, hlk, hlen0, h0, hloc, hf2, hp, if_true, Nat.zero_add, Nat.reduceAdd]⟩
  | false =>
    obtain ⟨H', r⟩ := rcmp_loop hav hok hxv hlen hks' hkf hfl s t hs ht _ 0 (.ptr 0 0) (.ptr 1 0) _ rfl (Nat.zero_le _) (.inr ⟨rfl, rfl, rfl⟩)
    rw [List.drop_zero, show ((0 : Nat) : Int) = 0 from rfl] at r
    refine ⟨H', ?_⟩
    simp only [go_sem, abox_agg, List.nil_append, List.length_nil, List.length_cons, List.cons_append, hl, hv1, hst, hf0, hlk, hlen0, h0, R20_Compare_J1_eq, r, Bool.false_eq_true, if_false, Nat.zero_add, Nat.reduceAdd]

def orderS (L : Loc) (p : Spec) (s t : List UInt8) : Int :=
  if (lineS L (validP p) s t != 0 || (validP p).stab || (validP p).uniq) = true then lineS L (validP p) s t else if (validP p).flags.toNat.testBit 1 then -cmpS L s t else cmpS L s t

theorem ord_flat {a : AV} {L : Loc} (h : LocAV a L) (hok : LocOk L) {q : AV} {p : Spec} (hq : SpecAV q p) (hks : ∀ k ∈ p.keys, KeOk k) (s t : List UInt8) (hs : s.length ≤ 1048576) (ht : t.length ≤ 1048576) (H : Hp) :
    flatC C_sortkey_Order [a, q, .str s, .str t] H = some (.int .i64 (orderS L p s t), H) := by
  obtain ⟨a1, h1, h2⟩ := h.close [] 0 2
  obtain ⟨q1, g1, g2⟩ := hq.close [] 0 2
  have hav := h2
  have hv := fun H => vspec_flat g2 H
  obtain ⟨x, c, e, rfl, hx, hc, he⟩ := h2
  obtain ⟨xp, rfl, hxp⟩ := g2
  obtain ⟨v', hv1, xv, rfl, hxv⟩ := hv [AObj.cells (L.cells x c e), .cells (p.cells xp)]
  obtain ⟨hfl, hlen, hkf⟩ := validP_ok p
  have hks' := validP_keys p hks
  suffices hs : ∃ H1, C_sortkey_Order [.agg (L.cells x c e), .agg (p.cells xp), .str s, .str t] [] = some (.int .i64 (orderS L p s t), H1) by
    obtain ⟨H1, hr⟩ := hs
    exact flat4 h1 g1 (c' := .str s) (d' := .str t) rfl rfl hr rfl
  have hl : aload true 5 (.ptr 1 0) [AObj.cells (L.cells x c e), .cells (p.cells xp)] = some (.agg (p.cells xp)) := by simp [aload, Go.Am.apart, Spec.cells]
  have hst : astoreU 5 (.ptr 1 0) (.agg ((validP p).cells xv)) [AObj.cells (L.cells x c e), .cells (p.cells xp)] = some (.tuple [], [AObj.cells (L.cells x c e), .cells ((validP p).cells xv)]) := by simp [astoreU, astore, AV.known, AV.cells, Spec.cells, splice]
  have hl2 : aload true 5 (.ptr 1 0) [AObj.cells (L.cells x c e), .cells ((validP p).cells xv)] = some (.agg ((validP p).cells xv)) := by simp [aload, Go.Am.apart, Spec.cells]
  have hf2 : aload false 1 (.ptr 1 (0 + 2)) [AObj.cells (L.cells x c e), .cells ((validP p).cells xv)] = some (.int .i64 (validP p).flags) := aload_f1 (l := (validP p).cells xv) rfl
  have hf3 : aload false 1 (.ptr 1 (0 + 3)) [AObj.cells (L.cells x c e), .cells ((validP p).cells xv)] = some (.bool (validP p).uniq) := aload_f1 (l := (validP p).cells xv) rfl
  have hf4 : aload false 1 (.ptr 1 (0 + 4)) [AObj.cells (L.cells x c e), .cells ((validP p).cells xv)] = some (.bool (validP p).stab) := aload_f1 (l := (validP p).cells xv) rfl
  have hloc := load_loc L x c e [.cells ((validP p).cells xv)]
  have hn : (validP p).flags.toNat < 32 := by omega
  have hfi : ((validP p).flags : Int) = (((validP p).flags.toNat : Nat) : Int) := by omega
  have hline := line_flat hav hok (q := .agg ((validP p).cells xv)) ⟨xv, rfl, hxv⟩ hks' s t hs ht [AObj.cells (L.cells x c e), .cells ((validP p).cells xv)]
  have hcmp := lcmp_flat hav hok s t hs ht [AObj.cells (L.cells x c e), .cells ((validP p).cells xv)]
  have hneg := neg_one (cmpS_one L s t)
  have hbit := and2 hn
  have hJ1 : sortkey_Order_J1 (.str s) (.str t) (.ptr 0 0) (.ptr 1 0) [] [AObj.cells (L.cells x c e), .cells ((validP p).cells xv)] = some (.int .i64 (if (validP p).flags.toNat.testBit 1 then -cmpS L s t else cmpS L s t), [AObj.cells (L.cells x c e), .cells ((validP p).cells xv)]) := by
    rw [sortkey_Order_J1_eq]
    rw [hfi] at hf2
    cases hb : (validP p).flags.toNat.testBit 1 with
    | true =>
      rw [hb] at hbit
      simp only [go_sem, hloc, hcmp, hf2, hbit, aun_neg, hneg, if_true, show ((2 : Int) != 0) = true from rfl]
    | false =>
      rw [hb] at hbit
      simp only [go_sem, hloc, hcmp, hf2, hbit, sortkey_Order_J2_eq, Bool.false_eq_true, if_false, bne_self_eq_false]
  refine ⟨[AObj.cells (L.cells x c e), .cells ((validP p).cells xv)], ?_⟩
  rw [F_sortkey_Order_eq]
  unfold F_sortkey_Order orderS
  simp only [go_sem, abox_agg, List.nil_append, List.length_nil, List.length_cons, List.cons_append, hl, hv1, hst, hloc, hl2, hline, Nat.zero_add, Nat.reduceAdd]
  cases h0 : (lineS L (validP p) s t != 0) with
  | true => simp only [go_sem, Bool.true_or, if_true]
  | false =>
    simp only [go_sem, hf4, hf3]
    cases h4 : (validP p).stab with
    | true => simp only [go_sem, Bool.true_or, Bool.or_true, if_true]
    | false =>
      simp only [go_sem, hf3]
      cases h3 : (validP p).uniq with
      | true => simp only [go_sem, Bool.true_or, Bool.or_true, if_true]
      | false => simp only [go_sem, hJ1, Bool.or_false, Bool.false_eq_true, if_false]

theorem rord_flat {a : AV} {L : Loc} (h : LocAV a L) (hok : LocOk L) {q : AV} {p : Spec} (hq : SpecAV q p) (hks : ∀ k ∈ p.keys, KeOk k) (s t : List UInt8) (hs : s.length ≤ 1048576) (ht : t.length ≤ 1048576) (H : Hp) :
    flatC C_R20_Order [a, q, .str s, .str t] H = some (.int .i64 (orderS L p s t), H) := by
  obtain ⟨a1, h1, h2⟩ := h.close [] 0 2
  obtain ⟨q1, g1, g2⟩ := hq.close [] 0 2
  have hav := h2
  have hv := fun H => rvspec_flat g2 H
  obtain ⟨x, c, e, rfl, hx, hc, he⟩ := h2
  obtain ⟨xp, rfl, hxp⟩ := g2
  obtain ⟨v', hv1, xv, rfl, hxv⟩ := hv [AObj.cells (L.cells x c e), .cells (p.cells xp)]
  obtain ⟨hfl, hlen, hkf⟩ := validP_ok p
  have hks' := validP_keys p hks
  suffices hs : ∃ H1, C_R20_Order [.agg (L.cells x c e), .agg (p.cells xp), .str s, .str t] [] = some (.int .i64 (orderS L p s t), H1) by
    obtain ⟨H1, hr⟩ := hs
    exact flat4 h1 g1 (c' := .str s) (d' := .str t) rfl rfl hr rfl
  have hl : aload true 5 (.ptr 1 0) [AObj.cells (L.cells x c e), .cells (p.cells xp)] = some (.agg (p.cells xp)) := by simp [aload, Go.Am.apart, Spec.cells]
  have hst : astoreU 5 (.ptr 1 0) (.agg ((validP p).cells xv)) [AObj.cells (L.cells x c e), .cells (p.cells xp)] = some (.tuple [], [AObj.cells (L.cells x c e), .cells ((validP p).cells xv)]) := by simp [astoreU, astore, AV.known, AV.cells, Spec.cells, splice]
  have hl2 : aload true 5 (.ptr 1 0) [AObj.cells (L.cells x c e), .cells ((validP p).cells xv)] = some (.agg ((validP p).cells xv)) := by simp [aload, Go.Am.apart, Spec.cells]
  have hf2 : aload false 1 (.ptr 1 (0 + 2)) [AObj.cells (L.cells x c e), .cells ((validP p).cells xv)] = some (.int .i64 (validP p).flags) := aload_f1 (l := (validP p).cells xv) rfl
  have hf3 : aload false 1 (.ptr 1 (0 + 3)) [AObj.cells (L.cells x c e), .cells ((validP p).cells xv)] = some (.bool (validP p).uniq) := aload_f1 (l := (validP p).cells xv) rfl
  have hf4 : aload false 1 (.ptr 1 (0 + 4)) [AObj.cells (L.cells x c e), .cells ((validP p).cells xv)] = some (.bool (validP p).stab) := aload_f1 (l := (validP p).cells xv) rfl
  have hloc := load_loc L x c e [.cells ((validP p).cells xv)]
  have hn : (validP p).flags.toNat < 32 := by omega
  have hfi : ((validP p).flags : Int) = (((validP p).flags.toNat : Nat) : Int) := by omega
  have hline := rline_flat hav hok (q := .agg ((validP p).cells xv)) ⟨xv, rfl, hxv⟩ hks' s t hs ht [AObj.cells (L.cells x c e), .cells ((validP p).cells xv)]
  have hcmp := rcmp_flat hav hok s t hs ht [AObj.cells (L.cells x c e), .cells ((validP p).cells xv)]
  have hneg := neg_one (cmpS_one L s t)
  have hbit := fun H => has2 hn H
  have hJ1 : R20_Order_J1 (.str s) (.str t) (.ptr 0 0) (.ptr 1 0) [] [AObj.cells (L.cells x c e), .cells ((validP p).cells xv)] = some (.int .i64 (if (validP p).flags.toNat.testBit 1 then -cmpS L s t else cmpS L s t), [AObj.cells (L.cells x c e), .cells ((validP p).cells xv)]) := by
    rw [R20_Order_J1_eq]
    rw [hfi] at hf2
    cases hb : (validP p).flags.toNat.testBit 1 with
    | true =>
      rw [hb] at hbit
      simp only [go_sem, hloc, hcmp, hf2, hbit, aun_neg, hneg, if_true, show ((2 : Int) != 0) = true from rfl]
    | false =>
      rw [hb] at hbit
      simp only [go_sem, hloc, hcmp, hf2, hbit, R20_Order_J2_eq, Bool.false_eq_true, if_false, bne_self_eq_false]
  refine ⟨[AObj.cells (L.cells x c e), .cells ((validP p).cells xv)], ?_⟩
  rw [F_R20_Order_eq]
  unfold F_R20_Order orderS
  simp only [go_sem, abox_agg, List.nil_append, List.length_nil, List.length_cons, List.cons_append, hl, hv1, hst, hloc, hl2, hline, Nat.zero_add, Nat.reduceAdd]
  cases h0 : (lineS L (validP p) s t != 0) with
  | true => simp only [go_sem, Bool.true_or, if_true]
  | false =>
    simp only [go_sem, hf4, hf3]
    cases h4 : (validP p).stab with
    | true => simp only [go_sem, Bool.true_or, Bool.or_true, if_true]
    | false =>
      simp only [go_sem, hf3]
      cases h3 : (validP p).uniq with
      | true => simp only [go_sem, Bool.true_or, Bool.or_true, if_true]
      | false => simp only [go_sem, hJ1, Bool.or_false, Bool.false_eq_true, if_false]

end Go.Am
