/-
  Specifications of sorts as arguments; their check.
-/
import Derived.Test.YtijddagljnlfmaaGreatDoorSkV
import Derived.Test.YtijddagljnlfmaaGreatDoorSkGK
namespace Go.Am
set_option linter.unusedSimpArgs false
set_option linter.unusedVariables false

/-- A slice that is only looked at. -/
def Sl (k : Nat) (x : AV) (l : List AV) : Prop := x = .nils ∧ l = [] ∨ ∃ tok, x = .vs k tok l
theorem Sl.len {k : Nat} {x : AV} {l : List AV} (h : Sl k x l) (e : Nat) : alenD (.slice e) x = some (.int .i64 l.length) := by
  rcases h with ⟨rfl, rfl⟩ | ⟨tok, rfl⟩ <;> rfl
theorem Sl.idx {k : Nat} {x : AV} {l : List AV} (h : Sl k x l) {i : Nat} {c : AV} (hi : l[i]? = some c) : aindexS k x (.int .i64 (i : Int)) = some (.vp c.cells) := by
  rcases h with ⟨rfl, rfl⟩ | ⟨tok, rfl⟩
  · simp at hi
  · simp [aindexS, hi]
theorem mapM_id {f : AV → Option AV} : ∀ {l : List AV}, (∀ x ∈ l, f x = some x) → l.mapM f = some l := by
  intro l
  induction l with
  | nil => intro _; rfl
  | cons a l ih =>
    intro h
    rw [List.mapM_cons, h a (by simp), ih (fun x hx => h x (by simp [hx]))]
    rfl
theorem closeV_vs (H : Hp) (n f k : Nat) (tok : Tok) (l : List AV) : closeV H n (f + 1) (.vs k tok l) = match l.mapM (closeV H n f) with
      | some l => some (.vs k (match tok with | .own t e => if t < n then .own t e else .no | tok => tok) l)
      | none => none := (Eq.refl _).trans (Eq.refl _)
theorem closeV_aggl (H : Hp) (n f : Nat) (l : List AV) : closeV H n (f + 1) (.agg l) = match l.mapM (closeV H n f) with
      | some l => some (.agg l)
      | none => none := (Eq.refl _).trans (Eq.refl _)
theorem Sl.close {k : Nat} {x : AV} {l : List AV} (h : Sl k x l) {H : Hp} {n f : Nat} (hl : ∀ c ∈ l, closeV H n f c = some c) : ∃ x', closeV H n (f + 1) x = some x' ∧ Sl k x' l := by
  rcases h with ⟨rfl, rfl⟩ | ⟨tok, rfl⟩
  · exact ⟨.nils, rfl, .inl ⟨rfl, rfl⟩⟩
  · have e := closeV_vs H n f k tok l
    rw [mapM_id hl] at e
    exact ⟨_, e, .inr ⟨_, rfl⟩⟩
def Ke.av (k : Ke) : AV := .agg k.cells
theorem Ke.close (k : Ke) (H : Hp) (n f : Nat) : closeV H n (f + 2) k.av = some k.av := by
  have : k.cells.mapM (closeV H n (f + 1)) = some k.cells := mapM_id fun x hx => by
    simp only [Ke.cells, List.mem_cons, List.not_mem_nil, or_false] at hx
    rcases hx with rfl | rfl | rfl | rfl | rfl <;> rfl
  rw [Ke.av, closeV_aggl, this]
structure Spec where
  keys : List Ke
  sep : Int
  flags : Int
  stab : Bool
  uniq : Bool
def Spec.cells (x : AV) (p : Spec) : List AV := [x, .int .i64 p.sep, .int .i64 p.flags, .bool p.uniq, .bool p.stab]
/-- The value is the specification. -/
def SpecAV (a : AV) (p : Spec) : Prop := ∃ x, a = .agg (p.cells x) ∧ Sl 5 x (p.keys.map Ke.av)
theorem SpecAV.close {a : AV} {p : Spec} (h : SpecAV a p) (H : Hp) (n f : Nat) : ∃ a', closeV H n (f + 4) a = some a' ∧ SpecAV a' p := by
  obtain ⟨x, rfl, hx⟩ := h
  obtain ⟨x', h1, h2⟩ := hx.close (H := H) (n := n) (f := f + 2) (fun c hc => by
    obtain ⟨k, _, rfl⟩ := List.mem_map.1 hc
    exact k.close H n f)
  refine ⟨.agg (p.cells x'), ?_, x', rfl, h2⟩
  have : (p.cells x).mapM (closeV H n (f + 3)) = some (p.cells x') := by
    simp only [Spec.cells, List.mapM_cons, h1, List.mapM_nil]
    rfl
  rw [closeV_aggl, this]
theorem flat1 {f : List AV → Hp → Res} {a a' v : AV} {H H1 : Hp} (ha : closeV [] 0 6 a = some a') (hc : f [a'] [] = some (v, H1)) (hv : flatV 3 v = true) : flatC f [a] H = some (v, H) :=
  flatC_of (args' := [a']) (by simp [ha]) hc hv
theorem flat2 {f : List AV → Hp → Res} {a a' b b' v : AV} {H H1 : Hp} (ha : closeV [] 0 6 a = some a') (hb : closeV [] 0 6 b = some b') (hc : f [a', b'] [] = some (v, H1)) (hv : flatV 3 v = true) : flatC f [a, b] H = some (v, H) :=
  flatC_of (args' := [a', b']) (by simp [ha, hb]) hc hv

def keyBad (k : Ke) : Bool := decide (k.ff < 1) || (decide (k.fc < 1) || (decide (k.tf < 0) || (decide (k.tc < 0) || ((k.tf == 0 && k.tc != 0) || (decide (k.fl < 0) || decide (31 < k.fl))))))
def checkS (p : Spec) : Int :=
  if 8 < p.keys.length then 3 else if decide (p.sep < -1) || (decide (255 < p.sep) || (p.sep == 10 || (decide (p.flags < 0) || decide (31 < p.flags)))) then 2 else if p.keys.any keyBad then 2 else 0
theorem aload_vp5 (k : Ke) (H : Hp) : aload true 5 (.vp k.cells) H = some (.agg k.cells) := by simp [aload, Go.Am.apart, Ke.cells]
theorem astore_last5 (H : Hp) (k : Ke) (z : List AV) (hz : z.length = 5) : astoreU 5 (.ptr H.length 0) (.agg k.cells) (H ++ [.cells z]) = some (.tuple [], H ++ [.cells k.cells]) := by
  rw [astore_of (sz := 5) (v := .agg k.cells) (get_last _ _) rfl rfl (by omega)]
  simp [AV.cells, splice, hz, Ke.cells]
theorem aload_lastf (H : Hp) (l : List AV) (off : Nat) : aload false 1 (.ptr H.length off) (H ++ [.cells l]) = l[off]? := aload_f1 (get_last H _)
theorem abox_agg (l : List AV) (H : Hp) : abox (.agg l) H = some (.ptr H.length 0, H ++ [.cells l]) := abox_of rfl
attribute [go_sem] abox_agg aload_lastf
theorem Sl.key {x : AV} {l : List Ke} (h : Sl 5 x (l.map Ke.av)) {i : Nat} {k : Ke} (hi : l[i]? = some k) : aindexS 5 x (.int .i64 (i : Int)) = some (.vp k.cells) := h.idx (c := k.av) (by simp [hi])
theorem chk_J4 {x : AV} {l : List Ke} (h : Sl 5 x (l.map Ke.av)) {i : Nat} {k : Ke} (hi : l[i]? = some k) (n t : AV) (H0 H : Hp) :
    ∃ H', sortkey_Check_J4 x n (.int .i64 (i : Int)) t H0 H = if keyBad k then some (.int .i64 2, H') else sortkey_Check_J5 x n (.int .i64 (i : Int)) H0 H' := by
  rw [sortkey_Check_J4_eq]
  refine ⟨H ++ [.cells k.cells], ?_⟩
  have hg := get_last H (.cells k.cells)
  simp only [h.key hi, aload_vp5, go_sem, astore_last5 H k [.int .i64 0, .int .i64 0, .int .i64 0, .int .i64 0, .int .i64 0] rfl]
  simp only [go_sem, Nat.zero_add, aload_lastf, Ke.cells, List.getElem?_cons_zero, List.getElem?_cons_succ]
  unfold keyBad
  cases e1 : decide (k.ff < 1) with
  | true => simp only [go_sem, Bool.true_or, if_true]
  | false =>
  simp only [go_sem, Bool.false_or, Nat.zero_add, aload_lastf, Ke.cells, List.getElem?_cons_zero, List.getElem?_cons_succ]
  cases e2 : decide (k.fc < 1) with
  | true => simp only [go_sem, Bool.true_or, if_true]
  | false =>
  simp only [go_sem, Bool.false_or, Nat.zero_add, aload_lastf, Ke.cells, List.getElem?_cons_zero, List.getElem?_cons_succ]
  cases e3 : decide (k.tf < 0) with
  | true => simp only [go_sem, Bool.true_or, if_true]
  | false =>
  simp only [go_sem, Bool.false_or, Nat.zero_add, aload_lastf, Ke.cells, List.getElem?_cons_zero, List.getElem?_cons_succ]
  cases e4 : decide (k.tc < 0) with
  | true => simp only [go_sem, Bool.true_or, if_true]
  | false =>
  simp only [go_sem, Bool.false_or, Nat.zero_add, aload_lastf, Ke.cells, List.getElem?_cons_zero, List.getElem?_cons_succ]
  have last : ∀ b : Bool, b = false → True := fun _ _ => trivial
  cases e5 : (k.tf == 0) with
  | true =>
    simp only [go_sem, Bool.true_and, Nat.zero_add, aload_lastf, Ke.cells, List.getElem?_cons_zero, List.getElem?_cons_succ]
    cases e6 : (k.tc != 0) with
    | true => simp only [go_sem, Bool.true_or, if_true]
    | false =>
      simp only [go_sem, Bool.false_or, Nat.zero_add, aload_lastf, Ke.cells, List.getElem?_cons_zero, List.getElem?_cons_succ]
      cases e7 : decide (k.fl < 0) with
      | true => simp only [go_sem, Bool.true_or, if_true]
      | false =>
        simp only [go_sem, Bool.false_or, Nat.zero_add, aload_lastf, Ke.cells, List.getElem?_cons_zero, List.getElem?_cons_succ]
        cases e8 : decide (31 < k.fl) <;> simp [go_sem]
  | false =>
    simp only [go_sem, Bool.false_and, Bool.false_or, Nat.zero_add, aload_lastf, Ke.cells, List.getElem?_cons_zero, List.getElem?_cons_succ]
    cases e7 : decide (k.fl < 0) with
    | true => simp only [go_sem, Bool.true_or, if_true]
    | false =>
      simp only [go_sem, Bool.false_or, Nat.zero_add, aload_lastf, Ke.cells, List.getElem?_cons_zero, List.getElem?_cons_succ]
      cases e8 : decide (31 < k.fl) <;> simp [go_sem]
theorem chk_L1 {x : AV} {l : List Ke} (h : Sl 5 x (l.map Ke.av)) (hl : l.length ≤ 8) (H0 : Hp) : ∀ (m i : Nat) (H : Hp), l.length - i = m → i ≤ l.length →
    ∃ H', sortkey_Check_L1 x (.int .i64 (l.length : Int)) (.int .i64 (i : Int)) H0 H = some (.int .i64 (if (l.drop i).any keyBad then 2 else 0), H') := by
  intro m
  induction m with
  | zero =>
    intro i H hm hi
    rw [sortkey_Check_L1_eq]
    have hlt : decide ((i : Int) < (l.length : Int)) = false := by simp; omega
    have hd : l.drop i = [] := List.drop_eq_nil_iff.2 (by omega)
    simp only [go_sem, hlt, sortkey_Check_J3_eq, hd, List.any_nil]
    exact ⟨_, rfl⟩
  | succ m ih =>
    intro i H hm hi
    rw [sortkey_Check_L1_eq]
    have hl1 : i < l.length := by omega
    have hlt : decide ((i : Int) < (l.length : Int)) = true := by simp; omega
    have hw : IntKind.i64.wrap ((i : Int) + 1) = ((i + 1 : Nat) : Int) := by rw [wrap64 (by omega) (by omega)]; omega
    obtain ⟨H1, e1⟩ := chk_J4 h (List.getElem?_eq_getElem hl1) (.int .i64 (l.length : Int)) (.bool true) H0 H
    simp only [go_sem, hlt, e1]
    rw [List.drop_eq_getElem_cons hl1, List.any_cons]
    cases hb : keyBad l[i] with
    | true => simp only [if_true, Bool.true_or]; exact ⟨_, rfl⟩
    | false =>
      simp only [Bool.false_eq_true, if_false, Bool.false_or, sortkey_Check_J5_eq, go_sem, hw]
      exact ih (i + 1) H1 (by omega) (by omega)
theorem check_spec {a : AV} {p : Spec} (h : SpecAV a p) (H : Hp) : ∃ H', C_sortkey_Check [a] H = some (.int .i64 (checkS p), H') := by
  obtain ⟨x, rfl, hx⟩ := h
  rw [F_sortkey_Check_eq]
  unfold F_sortkey_Check checkS
  have hg := get_last H (.cells (p.cells x))
  have hlen := hx.len 34
  rw [List.length_map] at hlen
  simp only [go_sem, Nat.zero_add, aload_lastf, Spec.cells, List.getElem?_cons_zero, List.getElem?_cons_succ, hlen]
  by_cases h8 : 8 < p.keys.length
  · have c1 : decide ((8 : Int) < (p.keys.length : Int)) = true := by simp; omega
    simp only [c1, go_sem, h8, if_true]
    exact ⟨_, rfl⟩
  have c1 : decide ((8 : Int) < (p.keys.length : Int)) = false := by simp; omega
  simp only [c1, go_sem, h8, if_false, sortkey_Check_J1_eq, Nat.zero_add, aload_lastf, Spec.cells, List.getElem?_cons_zero, List.getElem?_cons_succ]
  cases e1 : decide (p.sep < -1) with
  | true => simp only [go_sem, Bool.true_or, if_true]; exact ⟨_, rfl⟩
  | false =>
  simp only [go_sem, Bool.false_or, Nat.zero_add, aload_lastf, Spec.cells, List.getElem?_cons_zero, List.getElem?_cons_succ]
  cases e2 : decide (255 < p.sep) with
  | true => simp only [go_sem, Bool.true_or, if_true]; exact ⟨_, rfl⟩
  | false =>
  simp only [go_sem, Bool.false_or, Nat.zero_add, aload_lastf, Spec.cells, List.getElem?_cons_zero, List.getElem?_cons_succ]
  cases e3 : (p.sep == 10) with
  | true => simp only [go_sem, Bool.true_or, if_true]; exact ⟨_, rfl⟩
  | false =>
  simp only [go_sem, Bool.false_or, Nat.zero_add, aload_lastf, Spec.cells, List.getElem?_cons_zero, List.getElem?_cons_succ]
  cases e4 : decide (p.flags < 0) with
  | true => simp only [go_sem, Bool.true_or, if_true]; exact ⟨_, rfl⟩
  | false =>
  simp only [go_sem, Bool.false_or, Nat.zero_add, aload_lastf, Spec.cells, List.getElem?_cons_zero, List.getElem?_cons_succ]
  cases e5 : decide (31 < p.flags) with
  | true => simp only [go_sem, if_true]; exact ⟨_, rfl⟩
  | false =>
  simp only [go_sem, Bool.false_eq_true, if_false, sortkey_Check_J2_eq, Nat.zero_add, aload_lastf, Spec.cells, List.getElem?_cons_zero, List.getElem?_cons_succ, hlen]
  have := chk_L1 hx (by omega) H p.keys.length 0 (H ++ [.cells (p.cells x)]) (by omega) (by omega)
  simpa [Spec.cells] using this
theorem check_flat {a : AV} {p : Spec} (h : SpecAV a p) (H : Hp) : flatC C_sortkey_Check [a] H = some (.int .i64 (checkS p), H) := by
  obtain ⟨a', h1, h2⟩ := h.close [] 0 2
  obtain ⟨H', h3⟩ := check_spec h2 []
  exact flat1 h1 h3 rfl
end Go.Am
