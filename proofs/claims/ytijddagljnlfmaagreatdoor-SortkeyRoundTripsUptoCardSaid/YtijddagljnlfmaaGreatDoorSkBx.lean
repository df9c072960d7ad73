/-
  Specifications of sorts as arguments; their check.
-/
import Derived.Test.YtijddagljnlfmaaGreatDoorSkSx
import Derived.Test.YtijddagljnlfmaaGreatDoorSkGKx
import Derived.Lib.ItoaLen
import Derived.Test.YtijddagljnlfmaaGreatDoorSkYx
import Derived.Test.YtijddagljnlfmaaGreatDoorRows
namespace Go.Am
set_option linter.unusedSimpArgs false
set_option linter.unusedVariables false

/-- A slice that is only looked at. -/
def Sl (k : Nat) (x : AV) (l : List AV) : Prop := x = .nils ∧ l = [] ∨ ∃ tok, x = .vs k tok l
theorem Sl.len {k : Nat} {x : AV} {l : List AV} (h : Sl k x l) (e : Nat) : alenD (.slice e) x = some (.int .i64 l.length) := by
  rcases h with ⟨rfl, rfl⟩ | ⟨tok, rfl⟩ <;> rfl
theorem Sl.idx {k : Nat} {x : AV} {l : List AV} (h : Sl k x l) {i : Nat} {c : AV} (hi : l[i]? = some c) : aindexS k x (.int .i64 (i : Int)) = some (.vp c.cells) := by
  rcases h with ⟨rfl, rfl⟩ | ⟨tok, rfl⟩
  · simp at hi
  · simp [aindexS, hi]
theorem mapM_id {f : AV → Option AV} : ∀ {l : List AV}, (∀ x ∈ l, f x = some x) → l.mapM f = some l := by
  intro l
  induction l with
  | nil => intro _; rfl
  | cons a l ih =>
    intro h
    rw [List.mapM_cons, h a (by simp), ih (fun x hx => h x (by simp [hx]))]
    rfl
theorem closeV_vs (H : Hp) (n f k : Nat) (tok : Tok) (l : List AV) : closeV H n (f + 1) (.vs k tok l) = match l.mapM (closeV H n f) with
      | some l => some (.vs k (match tok with | .own t e => if t < n then .own t e else .no | tok => tok) l)
      | none => none := (Eq.refl _).trans (Eq.refl _)
theorem closeV_aggl (H : Hp) (n f : Nat) (l : List AV) : closeV H n (f + 1) (.agg l) = match l.mapM (closeV H n f) with
      | some l => some (.agg l)
      | none => none := (Eq.refl _).trans (Eq.refl _)
theorem Sl.close {k : Nat} {x : AV} {l : List AV} (h : Sl k x l) {H : Hp} {n f : Nat} (hl : ∀ c ∈ l, closeV H n f c = some c) : ∃ x', closeV H n (f + 1) x = some x' ∧ Sl k x' l := by
  rcases h with ⟨rfl, rfl⟩ | ⟨tok, rfl⟩
  · exact ⟨.nils, rfl, .inl ⟨rfl, rfl⟩⟩
  · have e := closeV_vs H n f k tok l
    rw [mapM_id hl] at e
    exact ⟨_, e, .inr ⟨_, rfl⟩⟩
def Ke.av (k : Ke) : AV := .agg k.cells
theorem Ke.close (k : Ke) (H : Hp) (n f : Nat) : closeV H n (f + 2) k.av = some k.av := by
  have : k.cells.mapM (closeV H n (f + 1)) = some k.cells := mapM_id fun x hx => by
    simp only [Ke.cells, List.mem_cons, List.not_mem_nil, or_false] at hx
    rcases hx with rfl | rfl | rfl | rfl | rfl <;> rfl
  rw [Ke.av, closeV_aggl, this]
structure Spec where
  keys : List Ke
  sep : Int
  flags : Int
  stab : Bool
  uniq : Bool
def Spec.cells (x : AV) (p : Spec) : List AV := [x, .int .i64 p.sep, .int .i64 p.flags, .bool p.uniq, .bool p.stab]
/-- The value is the specification. -/
def SpecAV (a : AV) (p : Spec) : Prop := ∃ x, a = .agg (p.cells x) ∧ Sl 5 x (p.keys.map Ke.av)
theorem SpecAV.close {a : AV} {p : Spec} (h : SpecAV a p) (H : Hp) (n f : Nat) : ∃ a', closeV H n (f + 4) a = some a' ∧ SpecAV a' p := by
  obtain ⟨x, rfl, hx⟩ := h
  obtain ⟨x', h1, h2⟩ := hx.close (H := H) (n := n) (f := f + 2) (fun c hc => by
    obtain ⟨k, _, rfl⟩ := List.mem_map.1 hc
    exact k.close H n f)
  refine ⟨.agg (p.cells x'), ?_, x', rfl, h2⟩
  have : (p.cells x).mapM (closeV H n (f + 3)) = some (p.cells x') := by
    simp only [Spec.cells, List.mapM_cons, h1, List.mapM_nil]
    rfl
  rw [closeV_aggl, this]
theorem flat1 {f : List AV → Hp → Res} {a a' v : AV} {H H1 : Hp} (ha : closeV [] 0 6 a = some a') (hc : f [a'] [] = some (v, H1)) (hv : flatV 3 v = true) : flatC f [a] H = some (v, H) :=
  flatC_of (args' := [a']) (by simp [ha]) hc hv
theorem flat2 {f : List AV → Hp → Res} {a a' b b' v : AV} {H H1 : Hp} (ha : closeV [] 0 6 a = some a') (hb : closeV [] 0 6 b = some b') (hc : f [a', b'] [] = some (v, H1)) (hv : flatV 3 v = true) : flatC f [a, b] H = some (v, H) :=
  flatC_of (args' := [a', b']) (by simp [ha, hb]) hc hv

def keyBad (k : Ke) : Bool := decide (k.ff < 1) || (decide (k.fc < 1) || (decide (k.tf < 0) || (decide (k.tc < 0) || ((k.tf == 0 && k.tc != 0) || (decide (k.fl < 0) || decide (31 < k.fl))))))
def checkS (p : Spec) : Int :=
  if 8 < p.keys.length then 3 else if decide (p.sep < -1) || (decide (255 < p.sep) || (p.sep == 10 || (decide (p.flags < 0) || decide (31 < p.flags)))) then 2 else if p.keys.any keyBad then 2 else 0
theorem aload_vp5 (k : Ke) (H : Hp) : aload true 5 (.vp k.cells) H = some (.agg k.cells) := by simp [aload, Go.Am.apart, Ke.cells]
theorem astore_last5 (H : Hp) (k : Ke) (z : List AV) (hz : z.length = 5) : astoreU 5 (.ptr H.length 0) (.agg k.cells) (H ++ [.cells z]) = some (.tuple [], H ++ [.cells k.cells]) := by
  rw [astore_of (sz := 5) (v := .agg k.cells) (get_last _ _) rfl rfl (by omega)]
  simp [AV.cells, splice, hz, Ke.cells]
theorem aload_lastf (H : Hp) (l : List AV) (off : Nat) : aload false 1 (.ptr H.length off) (H ++ [.cells l]) = l[off]? := aload_f1 (get_last H _)
theorem abox_agg (l : List AV) (H : Hp) : abox (.agg l) H = some (.ptr H.length 0, H ++ [.cells l]) := abox_of rfl
attribute [go_sem] abox_agg aload_lastf
theorem Sl.key {x : AV} {l : List Ke} (h : Sl 5 x (l.map Ke.av)) {i : Nat} {k : Ke} (hi : l[i]? = some k) : aindexS 5 x (.int .i64 (i : Int)) = some (.vp k.cells) := h.idx (c := k.av) (by simp [hi])
theorem chk_J4 {x : AV} {l : List Ke} (h : Sl 5 x (l.map Ke.av)) {i : Nat} {k : Ke} (hi : l[i]? = some k) (n t : AV) (H0 H : Hp) :
    ∃ H', sortkey_Check_J4 x n (.int .i64 (i : Int)) t H0 H = if keyBad k then some (.int .i64 2, H') else sortkey_Check_J5 x n (.int .i64 (i : Int)) H0 H' := by
  rw [sortkey_Check_J4_eq]
  refine ⟨H ++ [.cells k.cells], ?_⟩
  have hg := get_last H (.cells k.cells)
  simp only [h.key hi, aload_vp5, go_sem, astore_last5 H k [.int .i64 0, .int .i64 0, .int .i64 0, .int .i64 0, .int .i64 0] rfl]
  simp only [go_sem, Nat.zero_add, aload_lastf, Ke.cells, List.getElem?_cons_zero, List.getElem?_cons_succ]
  unfold keyBad
  cases e1 : decide (k.ff < 1) with
  | true => simp only [go_sem, Bool.true_or, if_true]
  | false =>
  simp only [go_sem, Bool.false_or, Nat.zero_add, aload_lastf, Ke.cells, List.getElem?_cons_zero, List.getElem?_cons_succ]
  cases e2 : decide (k.fc < 1) with
  | true => simp only [go_sem, Bool.true_or, if_true]
  | false =>
  simp only [go_sem, Bool.false_or, Nat.zero_add, aload_lastf, Ke.cells, List.getElem?_cons_zero, List.getElem?_cons_succ]
  cases e3 : decide (k.tf < 0) with
  | true => simp only [go_sem, Bool.true_or, if_true]
  | false =>
  simp only [go_sem, Bool.false_or, Nat.zero_add, aload_lastf, Ke.cells, List.getElem?_cons_zero, List.getElem?_cons_succ]
  cases e4 : decide (k.tc < 0) with
  | true => simp only [go_sem, Bool.true_or, if_true]
  | false =>
  simp only [go_sem, Bool.false_or, Nat.zero_add, aload_lastf, Ke.cells, List.getElem?_cons_zero, List.getElem?_cons_succ]
  have last : ∀ b : Bool, b = false → True := fun _ _ => trivial
  cases e5 : (k.tf == 0) with
  | true =>
    simp only [go_sem, Bool.true_and, Nat.zero_add, aload_lastf, Ke.cells, List.getElem?_cons_zero, List.getElem?_cons_succ]
    cases e6 : (k.tc != 0) with
    | true => simp only [go_sem, Bool.true_or, if_true]
    | false =>
      simp only [go_sem, Bool.false_or, Nat.zero_add, aload_lastf, Ke.cells, List.getElem?_cons_zero, List.getElem?_cons_succ]
      cases e7 : decide (k.fl < 0) with
      | true => simp only [go_sem, Bool.true_or, if_true]
      | false =>
        simp only [go_sem, Bool.false_or, Nat.zero_add, aload_lastf, Ke.cells, List.getElem?_cons_zero, List.getElem?_cons_succ]
        cases e8 : decide (31 < k.fl) <;> simp [go_sem]
  | false =>
    simp only [go_sem, Bool.false_and, Bool.false_or, Nat.zero_add, aload_lastf, Ke.cells, List.getElem?_cons_zero, List.getElem?_cons_succ]
    cases e7 : decide (k.fl < 0) with
    | true => simp only [go_sem, Bool.true_or, if_true]
    | false =>
      simp only [go_sem, Bool.false_or, Nat.zero_add, aload_lastf, Ke.cells, List.getElem?_cons_zero, List.getElem?_cons_succ]
      cases e8 : decide (31 < k.fl) <;> simp [go_sem]
theorem chk_L1 {x : AV} {l : List Ke} (h : Sl 5 x (l.map Ke.av)) (hl : l.length ≤ 8) (H0 : Hp) : ∀ (m i : Nat) (H : Hp), l.length - i = m → i ≤ l.length →
    ∃ H', sortkey_Check_L1 x (.int .i64 (l.length : Int)) (.int .i64 (i : Int)) H0 H = some (.int .i64 (if (l.drop i).any keyBad then 2 else 0), H') := by
  intro m
  induction m with
  | zero =>
    intro i H hm hi
    rw [sortkey_Check_L1_eq]
    have hlt : decide ((i : Int) < (l.length : Int)) = false := by simp; omega
    have hd : l.drop i = [] := List.drop_eq_nil_iff.2 (by omega)
    simp only [go_sem, hlt, sortkey_Check_J3_eq, hd, List.any_nil]
    exact ⟨_, rfl⟩
  | succ m ih =>
    intro i H hm hi
    rw [sortkey_Check_L1_eq]
    have hl1 : i < l.length := by omega
    have hlt : decide ((i : Int) < (l.length : Int)) = true := by simp; omega
    have hw : IntKind.i64.wrap ((i : Int) + 1) = ((i + 1 : Nat) : Int) := by rw [wrap64 (by omega) (by omega)]; omega
    obtain ⟨H1, e1⟩ := chk_J4 h (List.getElem?_eq_getElem hl1) (.int .i64 (l.length : Int)) (.bool true) H0 H
    simp only [go_sem, hlt, e1]
    rw [List.drop_eq_getElem_cons hl1, List.any_cons]
    cases hb : keyBad l[i] with
    | true => simp only [if_true, Bool.true_or]; exact ⟨_, rfl⟩
    | false =>
      simp only [Bool.false_eq_true, if_false, Bool.false_or, sortkey_Check_J5_eq, go_sem, hw]
      exact ih (i + 1) H1 (by omega) (by omega)
theorem check_spec {a : AV} {p : Spec} (h : SpecAV a p) (H : Hp) : ∃ H', C_sortkey_Check [a] H = some (.int .i64 (checkS p), H') := by
  obtain ⟨x, rfl, hx⟩ := h
  rw [F_sortkey_Check_eq]
  unfold F_sortkey_Check checkS
  have hg := get_last H (.cells (p.cells x))
  have hlen := hx.len 34
  rw [List.length_map] at hlen
  simp only [go_sem, Nat.zero_add, aload_lastf, Spec.cells, List.getElem?_cons_zero, List.getElem?_cons_succ, hlen]
  by_cases h8 : 8 < p.keys.length
  · have c1 : decide ((8 : Int) < (p.keys.length : Int)) = true := by simp; omega
    simp only [c1, go_sem, h8, if_true]
    exact ⟨_, rfl⟩
  have c1 : decide ((8 : Int) < (p.keys.length : Int)) = false := by simp; omega
  simp only [c1, go_sem, h8, if_false, sortkey_Check_J1_eq, Nat.zero_add, aload_lastf, Spec.cells, List.getElem?_cons_zero, List.getElem?_cons_succ]
  cases e1 : decide (p.sep < -1) with
  | true => simp only [go_sem, Bool.true_or, if_true]; exact ⟨_, rfl⟩
  | false =>
  simp only [go_sem, Bool.false_or, Nat.zero_add, aload_lastf, Spec.cells, List.getElem?_cons_zero, List.getElem?_cons_succ]
  cases e2 : decide (255 < p.sep) with
  | true => simp only [go_sem, Bool.true_or, if_true]; exact ⟨_, rfl⟩
  | false =>
  simp only [go_sem, Bool.false_or, Nat.zero_add, aload_lastf, Spec.cells, List.getElem?_cons_zero, List.getElem?_cons_succ]
  cases e3 : (p.sep == 10) with
  | true => simp only [go_sem, Bool.true_or, if_true]; exact ⟨_, rfl⟩
  | false =>
  simp only [go_sem, Bool.false_or, Nat.zero_add, aload_lastf, Spec.cells, List.getElem?_cons_zero, List.getElem?_cons_succ]
  cases e4 : decide (p.flags < 0) with
  | true => simp only [go_sem, Bool.true_or, if_true]; exact ⟨_, rfl⟩
  | false =>
  simp only [go_sem, Bool.false_or, Nat.zero_add, aload_lastf, Spec.cells, List.getElem?_cons_zero, List.getElem?_cons_succ]
  cases e5 : decide (31 < p.flags) with
  | true => simp only [go_sem, if_true]; exact ⟨_, rfl⟩
  | false =>
  simp only [go_sem, Bool.false_eq_true, if_false, sortkey_Check_J2_eq, Nat.zero_add, aload_lastf, Spec.cells, List.getElem?_cons_zero, List.getElem?_cons_succ, hlen]
  have := chk_L1 hx (by omega) H p.keys.length 0 (H ++ [.cells (p.cells x)]) (by omega) (by omega)
  simpa [Spec.cells] using this
theorem check_flat {a : AV} {p : Spec} (h : SpecAV a p) (H : Hp) : flatC C_sortkey_Check [a] H = some (.int .i64 (checkS p), H) := by
  obtain ⟨a', h1, h2⟩ := h.close [] 0 2
  obtain ⟨H', h3⟩ := check_spec h2 []
  exact flat1 h1 h3 rfl
end Go.Am
namespace Go.Am
set_option linter.unusedSimpArgs false
set_option linter.unusedVariables false

theorem right_spec (k : Ke) (H : Hp) : ∃ H', C_texttoolsref20_right [k.av] H = some (.bool (!keyBad k), H') := by
  rw [F_texttoolsref20_right_eq]
  unfold F_texttoolsref20_right Ke.av
  simp only [go_sem, Nat.zero_add, Ke.cells, List.getElem?_cons_zero, List.getElem?_cons_succ]
  unfold keyBad
  have j1 : ∀ b : Bool, b = (decide (k.fl < 0) || decide (31 < k.fl)) → ∃ H', texttoolsref20_right_J1 (.ptr H.length 0) H (H ++ [.cells [.int .i64 k.ff, .int .i64 k.fc, .int .i64 k.tf, .int .i64 k.tc, .int .i64 k.fl]]) = some (.bool (!b), H') := by
    intro b hb
    rw [texttoolsref20_right_J1_eq]
    simp only [go_sem, Nat.zero_add, List.getElem?_cons_zero, List.getElem?_cons_succ]
    cases e7 : decide (k.fl < 0) with
    | true =>
      have : decide (0 ≤ k.fl) = false := by simp at e7 ⊢; omega
      simp only [this, go_sem]
      rw [hb, e7]
      exact ⟨_, rfl⟩
    | false =>
      have : decide (0 ≤ k.fl) = true := by simp at e7 ⊢; omega
      simp only [this, go_sem, Nat.zero_add, List.getElem?_cons_zero, List.getElem?_cons_succ]
      have e : decide (k.fl ≤ 31) = !decide (31 < k.fl) := by rw [Bool.eq_iff_iff]; simp
      rw [hb, e7, e]
      exact ⟨_, rfl⟩
  cases e1 : decide (k.ff < 1) with
  | true => simp only [go_sem, Bool.true_or, Bool.not_true]; exact ⟨_, rfl⟩
  | false =>
  simp only [go_sem, Bool.false_or, Nat.zero_add, Ke.cells, List.getElem?_cons_zero, List.getElem?_cons_succ]
  cases e2 : decide (k.fc < 1) with
  | true => simp only [go_sem, Bool.true_or, Bool.not_true]; exact ⟨_, rfl⟩
  | false =>
  simp only [go_sem, Bool.false_or, Nat.zero_add, Ke.cells, List.getElem?_cons_zero, List.getElem?_cons_succ]
  cases e3 : decide (k.tf < 0) with
  | true => simp only [go_sem, Bool.true_or, Bool.not_true]; exact ⟨_, rfl⟩
  | false =>
  simp only [go_sem, Bool.false_or, Nat.zero_add, Ke.cells, List.getElem?_cons_zero, List.getElem?_cons_succ]
  cases e4 : decide (k.tc < 0) with
  | true => simp only [go_sem, Bool.true_or, Bool.not_true]; exact ⟨_, rfl⟩
  | false =>
  simp only [go_sem, Bool.false_or, Nat.zero_add, Ke.cells, List.getElem?_cons_zero, List.getElem?_cons_succ]
  cases e5 : (k.tf == 0) with
  | true =>
    simp only [go_sem, Bool.true_and, Nat.zero_add, Ke.cells, List.getElem?_cons_zero, List.getElem?_cons_succ]
    cases e6 : (k.tc != 0) with
    | true => simp only [go_sem, Bool.true_or, Bool.not_true]; exact ⟨_, rfl⟩
    | false => simp only [go_sem, Bool.false_or]; exact j1 _ rfl
  | false => simp only [go_sem, Bool.false_and, Bool.false_or]; exact j1 _ rfl
theorem right_flat (k : Ke) (H : Hp) : flatC C_texttoolsref20_right [k.av] H = some (.bool (!keyBad k), H) := by
  obtain ⟨H', h3⟩ := right_spec k []
  exact flat1 (k.close [] 0 4) h3 rfl
theorem rchk_L1 {x : AV} {l : List Ke} (h : Sl 5 x (l.map Ke.av)) (hl : l.length ≤ 8) (H0 : Hp) {o : Nat} {r : List AV} {H : Hp} (ho : H[o]? = some (.cells (x :: r))) : ∀ (m i : Nat), l.length - i = m → i ≤ l.length →
    texttoolsref20_Check_L1 (.ptr o 0) (.int .i64 (i : Int)) H0 H = some (.int .i64 (if (l.drop i).any keyBad then 2 else 0), H) := by
  have hlen := h.len 34
  rw [List.length_map] at hlen
  intro m
  induction m with
  | zero =>
    intro i hm hi
    rw [texttoolsref20_Check_L1_eq]
    have hlt : decide ((i : Int) < (l.length : Int)) = false := by simp; omega
    have hd : l.drop i = [] := List.drop_eq_nil_iff.2 (by omega)
    simp only [go_sem, Nat.zero_add, aload_f1 ho, List.getElem?_cons_zero, hlen, hlt, texttoolsref20_Check_J3_eq, hd, List.any_nil]
    rfl
  | succ m ih =>
    intro i hm hi
    rw [texttoolsref20_Check_L1_eq]
    have hl1 : i < l.length := by omega
    have hlt : decide ((i : Int) < (l.length : Int)) = true := by simp; omega
    have hw : IntKind.i64.wrap ((i : Int) + 1) = ((i + 1 : Nat) : Int) := by rw [wrap64 (by omega) (by omega)]; omega
    have hr := right_flat l[i] H
    unfold Ke.av at hr
    simp only [go_sem, Nat.zero_add, aload_f1 ho, List.getElem?_cons_zero, hlen, hlt, texttoolsref20_Check_J4_eq, h.key (List.getElem?_eq_getElem hl1), aload_vp5, hr, Bool.not_not]
    rw [List.drop_eq_getElem_cons hl1, List.any_cons]
    cases hb : keyBad l[i] with
    | true => simp only [go_sem, if_true, Bool.true_or]
    | false =>
      simp only [go_sem, Bool.false_or, texttoolsref20_Check_J5_eq, hw]
      exact ih (i + 1) (by omega) (by omega)
theorem rcheck_spec {a : AV} {p : Spec} (h : SpecAV a p) (H : Hp) : ∃ H', C_texttoolsref20_Check [a] H = some (.int .i64 (checkS p), H') := by
  obtain ⟨x, rfl, hx⟩ := h
  rw [F_texttoolsref20_Check_eq]
  unfold F_texttoolsref20_Check checkS
  have hlen := hx.len 34
  rw [List.length_map] at hlen
  simp only [go_sem, Nat.zero_add, Spec.cells, List.getElem?_cons_zero, List.getElem?_cons_succ, hlen]
  by_cases h8 : 8 < p.keys.length
  · have c1 : decide ((8 : Int) < (p.keys.length : Int)) = true := by simp; omega
    simp only [c1, go_sem, h8, if_true]
    exact ⟨_, rfl⟩
  have c1 : decide ((8 : Int) < (p.keys.length : Int)) = false := by simp; omega
  simp only [c1, go_sem, h8, if_false, texttoolsref20_Check_J1_eq, Nat.zero_add, Spec.cells, List.getElem?_cons_zero, List.getElem?_cons_succ]
  cases e1 : decide (p.sep < -1) with
  | true => simp only [go_sem, Bool.true_or, if_true]; exact ⟨_, rfl⟩
  | false =>
  simp only [go_sem, Bool.false_or, Nat.zero_add, Spec.cells, List.getElem?_cons_zero, List.getElem?_cons_succ]
  cases e2 : decide (255 < p.sep) with
  | true => simp only [go_sem, Bool.true_or, if_true]; exact ⟨_, rfl⟩
  | false =>
  simp only [go_sem, Bool.false_or, Nat.zero_add, Spec.cells, List.getElem?_cons_zero, List.getElem?_cons_succ]
  cases e3 : (p.sep == 10) with
  | true => simp only [go_sem, Bool.true_or, if_true]; exact ⟨_, rfl⟩
  | false =>
  simp only [go_sem, Bool.false_or, Nat.zero_add, Spec.cells, List.getElem?_cons_zero, List.getElem?_cons_succ]
  cases e4 : decide (p.flags < 0) with
  | true => simp only [go_sem, Bool.true_or, if_true]; exact ⟨_, rfl⟩
  | false =>
  simp only [go_sem, Bool.false_or, Nat.zero_add, Spec.cells, List.getElem?_cons_zero, List.getElem?_cons_succ]
  cases e5 : decide (31 < p.flags) with
  | true => simp only [go_sem, if_true]; exact ⟨_, rfl⟩
  | false =>
  simp only [go_sem, Bool.false_eq_true, if_false, texttoolsref20_Check_J2_eq]
  have := rchk_L1 hx (by omega) H (get_last H (.cells [x, .int .i64 p.sep, .int .i64 p.flags, .bool p.uniq, .bool p.stab])) p.keys.length 0 (by omega) (by omega)
  rw [show ((0 : Nat) : Int) = 0 from rfl, List.drop_zero] at this
  exact ⟨_, this⟩
theorem rcheck_flat {a : AV} {p : Spec} (h : SpecAV a p) (H : Hp) : flatC C_texttoolsref20_Check [a] H = some (.int .i64 (checkS p), H) := by
  obtain ⟨a', h1, h2⟩ := h.close [] 0 2
  obtain ⟨H', h3⟩ := rcheck_spec h2 []
  exact flat1 h1 h3 rfl
end Go.Am
namespace Go.Am
open Go.Proofs
set_option linter.unusedSimpArgs false
set_option linter.unusedVariables false

/-! Rows that grow from object n on. -/
def RowN (n : Nat) (H : Hp) (k : Nat) (x : AV) (l : List AV) : Prop := x = .nils ∧ l = [] ∨ ∃ t e, x = .vs k (.own t e) l ∧ H[t]? = some (.tok e) ∧ n ≤ t
def Keep (n : Nat) (H H' : Hp) : Prop := ∀ i, i < n → H'[i]? = H[i]?
theorem Keep.refl (n : Nat) (H : Hp) : Keep n H H := fun _ _ => rfl
theorem Keep.trans {n : Nat} {A B C : Hp} (h : Keep n A B) (k : Keep n B C) : Keep n A C := fun i hi => (k i hi).trans (h i hi)
theorem Keep.push {n : Nat} (H : Hp) (hn : n ≤ H.length) (l : List AObj) : Keep n H (H ++ l) := fun i hi => List.getElem?_append_left (by omega)
theorem RowN.row {n : Nat} {H : Hp} {k : Nat} {x : AV} {l : List AV} (h : RowN n H k x l) : Row H k x l := h.imp id fun ⟨t, e, a, b, _⟩ => ⟨t, e, a, b⟩
theorem RowN.nil (n : Nat) (H : Hp) (k : Nat) : RowN n H k .nils [] := .inl ⟨rfl, rfl⟩
theorem RowN.sl {n : Nat} {H : Hp} {k : Nat} {x : AV} {l : List AV} (h : RowN n H k x l) : Sl k x l := h.imp id fun ⟨t, e, a, _⟩ => ⟨_, a⟩
theorem RowN.push {n : Nat} {H : Hp} {k : Nat} {x : AV} {l : List AV} (h : RowN n H k x l) (r : List AObj) : RowN n (H ++ r) k x l := h.imp id fun ⟨t, e, a, b, c⟩ => ⟨t, e, a, get_push b _, c⟩
theorem RowN.app {n : Nat} {H : Hp} {k : Nat} {x : AV} {l : List AV} (h : RowN n H k x l) (hn : n ≤ H.length) (bytes : Nat) (y : AV) (ys : List AV) (hy : elems k y H = some ys) (hf : (l.length + ys.length) * (bytes + 1) ≤ 140737488355328) :
    ∃ x' H', aappE k bytes x y H = some (x', H') ∧ RowN n H' k x' (l ++ ys) ∧ n ≤ H'.length ∧ Keep n H H' ∧ (∀ (i : Nat) (c : List AV), H[i]? = some (.cells c) → H'[i]? = some (.cells c)) := by
  unfold aappE
  simp only [hy]
  rcases h with ⟨rfl, rfl⟩ | ⟨t, e, rfl, ht, hnt⟩
  · by_cases hys : ys = []
    · subst hys
      exact ⟨.nils, H, by simp [aappend], .inl ⟨rfl, rfl⟩, hn, Keep.refl _ _, fun _ _ h => h⟩
    · have hfit : fits ys.length bytes = true := by simpa [fits] using hf
      exact ⟨.vs k (.own H.length ys.length) ys, H ++ [.tok ys.length], by simp only [aappend, hys, if_false, hfit, if_true], .inr ⟨H.length, ys.length, rfl, by simp, hn⟩, by simp; omega, Keep.push H hn _, fun i c h => get_push h _⟩
  · have hfit : fits (l.length + ys.length) bytes = true := by simpa [fits] using hf
    by_cases hys : ys = []
    · subst hys
      exact ⟨.vs k (.own t e) l, H, by simp only [aappend, List.length_nil, Nat.add_zero] at hfit ⊢; simp only [hfit, and_self, if_true], .inr ⟨t, e, by simp, ht, hnt⟩, hn, Keep.refl _ _, fun _ _ h => h⟩
    · refine ⟨_, _, by simp only [aappend, hfit, and_self, if_true, hys, if_false, ht], .inr ⟨t, e + ys.length, rfl, get_set_eq _ ht, hnt⟩, by simp; omega, fun i hi => List.getElem?_set_ne (by omega), fun i c h => ?_⟩
      refine get_set_ne _ (fun he => ?_) h
      subst he
      rw [ht] at h
      cases h
theorem take_keep {H0 H : Hp} (h : Keep H0.length H0 H) (hl : H0.length ≤ H.length) : H.take H0.length = H0 := by
  apply List.ext_getElem?
  intro i
  by_cases hi : i < H0.length
  · rw [List.getElem?_take_of_lt hi]; exact h i hi
  · rw [List.getElem?_eq_none (by simp; omega), List.getElem?_eq_none (by omega)]
theorem leave_row {H0 H : Hp} (h : Keep H0.length H0 H) (hl : H0.length ≤ H.length) {k : Nat} {x : AV} {l : List AV} (hx : Sl k x l) (hc : ∀ c ∈ l, closeV H H0.length 5 c = some c) : ∃ x', leaveP H0 x H = some (x', H0) ∧ Sl k x' l := by
  obtain ⟨x', h1, h2⟩ := hx.close (H := H) (n := H0.length) (f := 5) hc
  refine ⟨x', ?_, h2⟩
  unfold leaveP
  rw [if_pos (take_keep h hl), h1]

/-! Flags. -/
def chkAnd (n j : Nat) : Bool := match ibin .and (.int .i64 n) (.int .i64 ((2 ^ j : Nat) : Int)) with
  | some (.int .i64 m) => m == (if n.testBit j then ((2 ^ j : Nat) : Int) else 0)
  | _ => false
theorem chkAnd_all : ((List.range 32).all fun n => (List.range 5).all fun j => chkAnd n j) = true := by kernel_rfl
theorem all_range {n : Nat} {p : Nat → Bool} (h : (List.range n).all p = true) {i : Nat} (hi : i < n) : p i = true := List.all_eq_true.1 h i (List.mem_range.2 hi)
theorem and_ok {n j : Nat} (hn : n < 32) (hj : j < 5) : ibin .and (.int .i64 n) (.int .i64 ((2 ^ j : Nat) : Int)) = some (.int .i64 (if n.testBit j then ((2 ^ j : Nat) : Int) else 0)) := by
  have h := all_range (all_range chkAnd_all hn) hj
  unfold chkAnd at h
  split at h
  · rename_i m hm
    rw [hm]
    have : m = (if n.testBit j then ((2 ^ j : Nat) : Int) else 0) := by simpa using h
    rw [this]
  · cases h
noncomputable def chkHas (n j : Nat) : Bool := match F_texttoolsref20_Has (.int .i64 n) (.int .i64 ((2 ^ j : Nat) : Int)) [] with
  | some (.bool b, []) => b == n.testBit j
  | _ => false
theorem chkHas_all : ((List.range 32).all fun n => (List.range 5).all fun j => chkHas n j) = true := by kernel_rfl
theorem has_ok {n j : Nat} (hn : n < 32) (hj : j < 5) (H : Hp) : flatC C_texttoolsref20_Has [.int .i64 n, .int .i64 ((2 ^ j : Nat) : Int)] H = some (.bool (n.testBit j), H) := by
  have h := all_range (all_range chkHas_all hn) hj
  unfold chkHas at h
  split at h
  · rename_i b hb
    have : b = n.testBit j := by simpa using h
    subst this
    exact flat2 (a' := .int .i64 n) (b' := .int .i64 ((2 ^ j : Nat) : Int)) rfl rfl ((F_texttoolsref20_Has_eq _ _ _).trans hb) rfl
  · cases h
def letC : List UInt8 := [98, 100, 102, 110, 114]
def letJ : List Nat := [3, 4, 2, 0, 1]
noncomputable def chkFlag (i : Nat) : Bool := match F_sortkey_flag (.int .u8 (letC.getD i 0).toNat) [], F_texttoolsref20_flag (.int .u8 (letC.getD i 0).toNat) [] with
  | some (.int .i64 m, []), some (.int .i64 m', []) => m == ((2 ^ (letJ.getD i 0) : Nat) : Int) && m' == ((2 ^ (letJ.getD i 0) : Nat) : Int)
  | _, _ => false
theorem chkFlag_all : ((List.range 5).all chkFlag) = true := by kernel_rfl
theorem flag_ok {i : Nat} (hi : i < 5) (H : Hp) : flatC C_sortkey_flag [.int .u8 (letC.getD i 0).toNat] H = some (.int .i64 ((2 ^ (letJ.getD i 0) : Nat) : Int), H) ∧
    flatC C_texttoolsref20_flag [.int .u8 (letC.getD i 0).toNat] H = some (.int .i64 ((2 ^ (letJ.getD i 0) : Nat) : Int), H) := by
  have h := all_range chkFlag_all hi
  unfold chkFlag at h
  split at h
  · rename_i m m' h1 h2
    simp only [Bool.and_eq_true, beq_iff_eq] at h
    obtain ⟨rfl, rfl⟩ := h
    exact ⟨flat1 rfl ((F_sortkey_flag_eq _ _).trans h1) rfl, flat1 rfl ((F_texttoolsref20_flag_eq _ _).trans h2) rfl⟩
  · cases h
/-- The letters of flags, those from number i on. -/
def letFrom (n : Nat) : List (UInt8 × Nat) → List UInt8
  | [] => []
  | (c, j) :: r => (if n.testBit j then [c] else []) ++ letFrom n r
def letS (n : Nat) : List UInt8 := letFrom n (letC.zip letJ)
theorem let_len (n : Nat) : ∀ l : List (UInt8 × Nat), (letFrom n l).length ≤ l.length := by
  intro l
  induction l with
  | nil => simp [letFrom]
  | cons a l ih => obtain ⟨c, j⟩ := a; simp only [letFrom, List.length_append, List.length_cons]; split <;> simp <;> omega
theorem letS_len (n : Nat) : (letS n).length ≤ 5 := let_len n _
theorem let_drop (n i : Nat) (hi : i < 5) : letFrom n ((letC.zip letJ).drop i) = (if n.testBit (letJ.getD i 0) then [letC.getD i 0] else []) ++ letFrom n ((letC.zip letJ).drop (i + 1)) := by
  match i, hi with
  | 0, _ => rfl
  | 1, _ => rfl
  | 2, _ => rfl
  | 3, _ => rfl
  | 4, _ => rfl
theorem letJ_lt (i : Nat) (hi : i < 5) : letJ.getD i 0 < 5 := by
  match i, hi with
  | 0, _ => decide
  | 1, _ => decide
  | 2, _ => decide
  | 3, _ => decide
  | 4, _ => decide
theorem letC_get (i : Nat) (hi : i < 5) : letC[i]? = some (letC.getD i 0) ∧ (letC.take (i + 1)).drop i = [letC.getD i 0] := by
  match i, hi with
  | 0, _ => exact ⟨rfl, rfl⟩
  | 1, _ => exact ⟨rfl, rfl⟩
  | 2, _ => exact ⟨rfl, rfl⟩
  | 3, _ => exact ⟨rfl, rfl⟩
  | 4, _ => exact ⟨rfl, rfl⟩
theorem bit_ne (b : Bool) (j : Nat) : ((if b = true then ((2 ^ j : Nat) : Int) else 0) != 0) = b := by
  have := Nat.pow_pos (n := j) (a := 2) (by decide)
  cases b
  · rfl
  · simp only [if_true, bne_iff_ne, ne_eq]; omega
theorem slice_let (i : Nat) (hi : i < 5) : asliceS (.str letC) (some (.int .i64 (i : Int))) (some (.int .i64 ((i + 1 : Nat) : Int))) none = some (.str [letC.getD i 0]) := by
  have h5 : letC.length = 5 := rfl
  rw [asliceS_lh (s := letC) (n := (i : Int)) (m := ((i + 1 : Nat) : Int)) .i64 .i64 (by omega) (by omega) (by omega)]
  rw [show ((i + 1 : Nat) : Int).toNat = i + 1 by omega, show ((i : Nat) : Int).toNat = i by omega, (letC_get i hi).2]
theorem text_loop {n : Nat} (hn : n < 32) (H0 H : Hp) : ∀ (k i : Nat) (acc : List UInt8), 5 - i = k → i ≤ 5 → acc.length ≤ i →
    sortkey_text_L1 (.int .i64 n) (.str acc) (.int .i64 (i : Int)) H0 H = some (.str (acc ++ letFrom n ((letC.zip letJ).drop i)), H) := by
  intro k
  induction k with
  | zero =>
    intro i acc hk hi ha
    have h5 : i = 5 := by omega
    subst h5
    rw [sortkey_text_L1_eq]
    have hlt : decide (((5 : Nat) : Int) < 5) = false := by decide
    simp only [go_sem, hlt, sortkey_text_J1_eq]
    simp [letC, letJ, letFrom]
  | succ k ih =>
    intro i acc hk hi ha
    have h5 : i < 5 := by omega
    rw [sortkey_text_L1_eq]
    have hlt : decide ((i : Int) < 5) = true := by simp; omega
    have hw : IntKind.i64.wrap ((i : Int) + 1) = ((i + 1 : Nat) : Int) := by rw [wrap64 (by omega) (by omega)]; omega
    have hix : aindexStr (.str [98, 100, 102, 110, 114]) (.int .i64 (i : Int)) = some (.int .u8 (letC.getD i 0).toNat) := aindexStr_of (letC_get i h5).1
    have hsl := slice_let i h5
    unfold letC at hsl
    simp only [go_sem, hlt, sortkey_text_J2_eq, hix, (flag_ok h5 _).1, and_ok hn (letJ_lt i h5), bit_ne]
    rw [let_drop n i h5]
    cases hb : n.testBit (letJ.getD i 0) with
    | true =>
      simp only [go_sem, hw, hsl, sbin_add (a := acc) (b := [([98, 100, 102, 110, 114] : List UInt8).getD i 0]) (by simp; omega), sortkey_text_J3_eq, if_true]
      rw [ih (i + 1) _ (by omega) (by omega) (by simp; omega)]
      simp [letC]
    | false =>
      simp only [go_sem, hw, sortkey_text_J3_eq, Bool.false_eq_true, if_false, List.nil_append]
      exact ih (i + 1) _ (by omega) (by omega) (by omega)
theorem text_ok {n : Nat} (hn : n < 32) (H : Hp) : flatC C_sortkey_text [.int .i64 n] H = some (.str (letS n), H) :=
  flat1 (a' := .int .i64 n) rfl ((F_sortkey_text_eq _ _).trans (text_loop hn [] [] 5 0 [] rfl (by omega) (Nat.le_refl _))) rfl
theorem letters_loop {n : Nat} (hn : n < 32) (H0 H : Hp) : ∀ (k i : Nat) (acc : List UInt8), 5 - i = k → i ≤ 5 → acc.length ≤ i →
    texttoolsref20_letters_L1 (.int .i64 n) (.str acc) (.str letC) (.int .i64 (i : Int)) H0 H = some (.str (acc ++ letFrom n ((letC.zip letJ).drop i)), H) := by
  intro k
  induction k with
  | zero =>
    intro i acc hk hi ha
    have h5 : i = 5 := by omega
    subst h5
    rw [texttoolsref20_letters_L1_eq]
    have hlt : decide (((5 : Nat) : Int) < ((letC.length : Nat) : Int)) = false := by decide
    simp only [go_sem, hlt, texttoolsref20_letters_J1_eq]
    simp [letC, letJ, letFrom]
  | succ k ih =>
    intro i acc hk hi ha
    have h5 : i < 5 := by omega
    rw [texttoolsref20_letters_L1_eq]
    have hlt : decide ((i : Int) < ((letC.length : Nat) : Int)) = true := by simp [letC]; omega
    have hw : IntKind.i64.wrap ((i : Int) + 1) = ((i + 1 : Nat) : Int) := by rw [wrap64 (by omega) (by omega)]; omega
    simp only [go_sem, hlt, texttoolsref20_letters_J2_eq, aindexStr_of (letC_get i h5).1, (flag_ok h5 _).2, has_ok hn (letJ_lt i h5)]
    rw [let_drop n i h5]
    cases hb : n.testBit (letJ.getD i 0) with
    | true =>
      simp only [go_sem, hw, slice_let i h5, sbin_add (a := acc) (b := [letC.getD i 0]) (by simp; omega), texttoolsref20_letters_J3_eq, if_true]
      rw [ih (i + 1) _ (by omega) (by omega) (by simp; omega)]
      simp
    | false =>
      simp only [go_sem, hw, texttoolsref20_letters_J3_eq, Bool.false_eq_true, if_false, List.nil_append]
      exact ih (i + 1) _ (by omega) (by omega) (by omega)
theorem letters_ok {n : Nat} (hn : n < 32) (H : Hp) : flatC C_texttoolsref20_letters [.int .i64 n] H = some (.str (letS n), H) :=
  flat1 (a' := .int .i64 n) rfl ((F_texttoolsref20_letters_eq _ _).trans (letters_loop hn [] [] 5 0 [] rfl (by omega) (Nat.le_refl _))) rfl

/-! Numbers. -/
theorem nfmt_ok {n : Int} (h0 : -9223372036854775808 ≤ n) (h1 : n ≤ 9223372036854775807) (H : Hp) : flatC C_num_Format [.int .i64 n] H = some (.str (Lib.itoa n), H) := by
  refine flat1 (a' := .int .i64 n) rfl (H1 := []) ((F_num_Format_eq _ _).trans ?_) rfl
  unfold F_num_Format sumC itoaA
  simp only [h0, h1, and_self, if_true, go_sem]
theorem rem10 (a : Int) : ibin .rem (.int .i64 a) (.int .i64 10) = some (.int .i64 (a.tmod 10)) := by simp [ibin, ashift, intbin]
theorem quo10 (a : Int) : ibin .quo (.int .i64 a) (.int .i64 10) = some (.int .i64 (IntKind.i64.wrap (a.tdiv 10))) := by simp [ibin, ashift, intbin]
def digsS (N : Nat) : List UInt8 := if N = 0 then [] else Lib.decDigits N
theorem digsS_step {N : Nat} (h : 0 < N) (s : List UInt8) : digsS (N / 10) ++ ([UInt8.ofNat (48 + N % 10)] ++ s) = digsS N ++ s := by
  unfold digsS
  rw [if_neg (by omega : ¬ N = 0)]
  conv => rhs; rw [Lib.decDigits]
  by_cases h1 : N < 10
  · rw [dif_pos h1, if_pos (by omega), Nat.mod_eq_of_lt h1]; simp
  · rw [dif_neg h1, if_neg (by omega)]; simp
theorem digit_str {d : Nat} (hd : d < 10) : (bnd (ibin .add (.int .i64 48) (.int .i64 (d : Int))) fun t => bnd (cvInt .u8 t) fun t => bnd ((setElems 1 [(0, t)] [(.int .u8 0)]).map (AV.vs 1 .clip)) fun t => cvOfBytes t) = some (.str [UInt8.ofNat (48 + d)]) := by
  match d, hd with
  | 0, _ => rfl
  | 1, _ => rfl
  | 2, _ => rfl
  | 3, _ => rfl
  | 4, _ => rfl
  | 5, _ => rfl
  | 6, _ => rfl
  | 7, _ => rfl
  | 8, _ => rfl
  | 9, _ => rfl
theorem bnd_assoc4 {α β γ δ ε : Type} (a : Option α) (b : α → Option β) (c : β → Option γ) (d : γ → Option δ) (k : δ → Option ε) : (bnd a fun x => bnd (b x) fun y => bnd (c y) fun z => bnd (d z) k) = bnd (bnd a fun x => bnd (b x) fun y => bnd (c y) d) k := by
  cases a with
  | none => rfl
  | some x => simp only [bnd_some]; cases b x with
    | none => rfl
    | some y => simp only [bnd_some]; cases c y with
      | none => rfl
      | some z => simp only [bnd_some]
theorem rfmt_J6 {d : Nat} (hd : d < 10) (x0 x4 : AV) {s : List UInt8} (hs : s.length ≤ 1000) (H0 H : Hp) :
    texttoolsref01_Format_J6 x0 (.str s) x4 (.int .i64 (d : Int)) H0 H = texttoolsref01_Format_J5 x0 (.str ([UInt8.ofNat (48 + d)] ++ s)) x4 H0 H := by
  rw [texttoolsref01_Format_J6_eq, bnd_assoc4, digit_str hd]
  simp only [go_sem, sbin_add (a := [UInt8.ofNat (48 + d)]) (b := s) (by simp; omega)]
theorem fmt_loop (x0 : AV) (H0 H : Hp) : ∀ (k : Nat) (m : Int) (s : List UInt8), m.natAbs < 10 ^ k → s.length + k ≤ 1000 → -9223372036854775808 ≤ m → m ≤ 9223372036854775807 →
    texttoolsref01_Format_L1 x0 (.str s) (.int .i64 m) H0 H = texttoolsref01_Format_J2 x0 (.str (digsS m.natAbs ++ s)) H0 H := by
  intro k
  induction k with
  | zero =>
    intro m s hm hs h0 h1
    have : m = 0 := by simp at hm; omega
    subst this
    rw [texttoolsref01_Format_L1_eq]
    have c : ((0 : Int) != 0) = false := rfl
    simp only [go_sem, c]
    rfl
  | succ k ih =>
    intro m s hm hs h0 h1
    rw [texttoolsref01_Format_L1_eq]
    by_cases hz : m = 0
    · subst hz
      have c : ((0 : Int) != 0) = false := rfl
      simp only [go_sem, c]
      rfl
    have c : (m != 0) = true := by simpa using hz
    have hp : (10 : Nat) ^ (k + 1) = 10 ^ k * 10 := Nat.pow_succ 10 k
    have hdig : m.natAbs % 10 < 10 := by omega
    simp only [go_sem, c, texttoolsref01_Format_J4_eq, rem10]
    have fin : ∀ m' : Int, m' = m.tdiv 10 → m'.natAbs = m.natAbs / 10 → texttoolsref01_Format_J5 x0 (.str ([UInt8.ofNat (48 + m.natAbs % 10)] ++ s)) (.int .i64 m) H0 H = texttoolsref01_Format_J2 x0 (.str (digsS m.natAbs ++ s)) H0 H := by
      intro m' e1 e2
      rw [texttoolsref01_Format_J5_eq]
      simp only [quo10, go_sem]
      rw [← e1, wrap64 (by omega) (by omega), ih m' _ (by omega) (by simp; omega) (by omega) (by omega), e2, digsS_step (by omega)]
    by_cases hneg : m < 0
    · obtain ⟨N, rfl⟩ : ∃ N : Nat, m = -(N : Int) := ⟨m.natAbs, by omega⟩
      have ht : (-(N : Int)).tmod 10 = -((N % 10 : Nat) : Int) := by rw [Int.neg_tmod, Int.tmod_eq_emod_of_nonneg (by omega)]; omega
      have hq : (-(N : Int)).tdiv 10 = -((N / 10 : Nat) : Int) := by rw [Int.neg_tdiv, Int.tdiv_eq_ediv_of_nonneg (by omega)]; omega
      have hab : (-(N : Int)).natAbs = N := by omega
      rw [hab] at fin hdig ⊢
      rw [ht]
      have f2 := fin _ hq.symm (by omega)
      by_cases hd0 : N % 10 = 0
      · have c2 : decide (-((N % 10 : Nat) : Int) < 0) = false := by simp; omega
        simp only [c2, go_sem]
        have e : -((N % 10 : Nat) : Int) = ((N % 10 : Nat) : Int) := by omega
        rw [e, rfmt_J6 hdig _ _ (by omega)]
        exact f2
      · have c2 : decide (-((N % 10 : Nat) : Int) < 0) = true := by simp; omega
        have hn : aun .neg (.int .i64 (-((N % 10 : Nat) : Int))) = some (.int .i64 ((N % 10 : Nat) : Int)) := by
          simp only [aun, Int.zero_sub, Int.neg_neg]
          rw [wrap64 (by omega) (by omega)]
        simp only [c2, go_sem, hn]
        rw [rfmt_J6 hdig _ _ (by omega)]
        exact f2
    · obtain ⟨N, rfl⟩ : ∃ N : Nat, m = (N : Int) := ⟨m.natAbs, by omega⟩
      have ht : ((N : Int)).tmod 10 = ((N % 10 : Nat) : Int) := by rw [Int.tmod_eq_emod_of_nonneg (by omega)]; omega
      have hq : ((N : Int)).tdiv 10 = ((N / 10 : Nat) : Int) := by rw [Int.tdiv_eq_ediv_of_nonneg (by omega)]; omega
      have hab : ((N : Int)).natAbs = N := by omega
      rw [hab] at fin hdig ⊢
      rw [ht]
      have f2 := fin _ hq.symm (by omega)
      have c2 : decide (((N % 10 : Nat) : Int) < 0) = false := by simp; omega
      simp only [c2, go_sem]
      rw [rfmt_J6 hdig _ _ (by omega)]
      exact f2
theorem itoa_len {n : Int} (h0 : -9223372036854775808 ≤ n) (h1 : n ≤ 9223372036854775807) : (Lib.itoa n).length ≤ 21 := Lib.itoa_length_le n h0 h1
theorem rfmt_ok {n : Int} (h0 : -9223372036854775808 ≤ n) (h1 : n ≤ 9223372036854775807) (H : Hp) : flatC C_texttoolsref01_Format [.int .i64 n] H = some (.str (Lib.itoa n), H) := by
  refine flat1 (a' := .int .i64 n) rfl (H1 := []) ((F_texttoolsref01_Format_eq _ _).trans ?_) rfl
  unfold F_texttoolsref01_Format
  by_cases hz : n = 0
  · subst hz
    have c : ((0 : Int) == 0) = true := rfl
    simp only [go_sem, c]
    have : Lib.itoa 0 = [48] := by
      unfold Lib.itoa
      rw [if_neg (by omega)]
      show Lib.decDigits 0 = _
      rw [Lib.decDigits]
      rfl
    rw [this]
  · have c : (n == 0) = false := by simpa using hz
    have hl := itoa_len h0 h1
    have hp : n.natAbs < 10 ^ 19 := by omega
    simp only [go_sem, c, texttoolsref01_Format_J1_eq]
    rw [fmt_loop _ _ _ 19 n [] hp (by simp) h0 h1, texttoolsref01_Format_J2_eq]
    simp only [go_sem, List.append_nil, digsS]
    rw [if_neg (by omega : ¬ n.natAbs = 0)]
    unfold Lib.itoa at hl ⊢
    by_cases hneg : n < 0
    · have c2 : decide (n < 0) = true := by simpa using hneg
      rw [if_pos hneg] at hl ⊢
      simp at hl
      simp only [c2, go_sem, sbin_add (a := [45]) (b := Lib.decDigits n.natAbs) (by simp; omega), texttoolsref01_Format_J3_eq]
      rfl
    · have c2 : decide (n < 0) = false := by simpa using hneg
      rw [if_neg hneg]
      simp only [c2, go_sem, texttoolsref01_Format_J3_eq]
      have : n.natAbs = n.toNat := by omega
      rw [this]
end Go.Am
namespace Go.Am
open Go.Proofs
set_option linter.unusedSimpArgs false
set_option linter.unusedVariables false

def keyS (k : Ke) : List UInt8 :=
  Lib.itoa k.ff ++ ((if k.fc = 1 then [] else [46] ++ Lib.itoa k.fc) ++ ((if k.tf = 0 then [] else [44] ++ (Lib.itoa k.tf ++ (if k.tc = 0 then [] else [46] ++ Lib.itoa k.tc))) ++ letS k.fl.toNat))
def keysS : List Ke → List (List UInt8)
  | [] => []
  | k :: l => [45, 107] :: keyS k :: keysS l
def sepS (sep : Int) : List (List UInt8) := if 0 ≤ sep then [[45, 116], [UInt8.ofNat sep.toNat]] else []
def printS (p : Spec) : List (List UInt8) :=
  if checkS p = 0 then (if p.flags = 0 then [] else [[45] ++ letS p.flags.toNat]) ++ ((if p.stab then [[45, 115]] else []) ++ ((if p.uniq then [[45, 117]] else []) ++ (sepS p.sep ++ keysS p.keys))) else []
theorem checkS_zero {p : Spec} (h : checkS p = 0) : p.keys.length ≤ 8 ∧ p.sep ≤ 255 ∧ 0 ≤ p.flags ∧ p.flags ≤ 31 ∧ ∀ k ∈ p.keys, 0 ≤ k.fl ∧ k.fl ≤ 31 := by
  unfold checkS at h
  split at h
  · cases h
  · rename_i h8
    split at h
    · cases h
    · rename_i hs
      split at h
      · cases h
      · rename_i hk
        simp only [Bool.or_eq_true, decide_eq_true_eq, beq_iff_eq, not_or] at hs
        refine ⟨by omega, by omega, by omega, by omega, fun k hm => ?_⟩
        have : keyBad k = false := by
          cases hb : keyBad k with
          | false => rfl
          | true => exact absurd (List.any_eq_true.2 ⟨k, hm, hb⟩) hk
        unfold keyBad at this
        simp only [Bool.or_eq_false_iff, decide_eq_false_iff_not] at this
        omega
theorem set1 (v : List UInt8) : (setElems 1 [(0, .str v)] [.str []]).map (AV.vs 1 .clip) = some (.vs 1 .clip [.str v]) := by
  simp [setElems, AV.known, AV.cells]
theorem set2 (v w : List UInt8) : (setElems 1 [(0, .str v), (1, .str w)] [.str [], .str []]).map (AV.vs 1 .clip) = some (.vs 1 .clip [.str v, .str w]) := by
  simp [setElems, AV.known, AV.cells]
theorem bnd_assoc3 {α β γ δ : Type} (a : Option α) (b : α → Option β) (c : β → Option γ) (k : γ → Option δ) : (bnd a fun x => bnd (b x) fun y => bnd (c y) k) = bnd (bnd a fun x => bnd (b x) c) k := by
  cases a with
  | none => rfl
  | some x => simp only [bnd_some]; cases b x with
    | none => rfl
    | some y => simp only [bnd_some]
theorem byte_str {n : Int} (h0 : 0 ≤ n) (h1 : n ≤ 255) : (bnd (cvInt .u8 (.int .i64 n)) fun t => bnd ((setElems 1 [(0, t)] [(.int .u8 0)]).map (AV.vs 1 .clip)) cvOfBytes) = some (.str [UInt8.ofNat n.toNat]) := by
  have hcv : cvInt .u8 (.int .i64 n) = some (.int .u8 n) := by
    have : IntKind.u8.wrap n = n := by
      unfold IntKind.wrap
      have e1 : (2 ^ IntKind.u8.bits : Int) = 256 := by decide
      have e3 : IntKind.u8.signed = false := rfl
      simp only [e1, e3, Bool.false_and, Bool.false_eq_true, if_false]
      omega
    simp [cvInt, this]
  have hbv : AV.int .u8 n = bv (UInt8.ofNat n.toNat) := by
    unfold bv
    congr 1
    simp
    omega
  have hset : (setElems 1 [(0, .int .u8 n)] [.int .u8 0]).map (AV.vs 1 .clip) = some (.vs 1 .clip [.int .u8 n]) := by
    simp [setElems, AV.known, AV.cells]
  simp only [hcv, go_sem, hset]
  rw [hbv]
  exact cvOf_map .clip [UInt8.ofNat n.toNat]
theorem aload_last5 (H : Hp) (a b c d e : AV) : aload true 5 (.ptr H.length 0) (H ++ [.cells [a, b, c, d, e]]) = some (.agg [a, b, c, d, e]) := by
  rw [aload_of (get_last _ _)]
  simp [Go.Am.apart]
theorem keyT_spec {k : Ke} (hk : KeOk k) (h0 : 0 ≤ k.fl) (h1 : k.fl ≤ 31) (H : Hp) : ∃ H', C_sortkey_keyText [k.av] H = some (.str (keyS k), H') := by
  rw [F_sortkey_keyText_eq]
  unfold F_sortkey_keyText Ke.av keyS
  obtain ⟨n, hn⟩ : ∃ n : Nat, k.fl = (n : Int) := ⟨k.fl.toNat, by omega⟩
  have l1 := itoa_len hk.ff.1 hk.ff.2
  have l2 := itoa_len hk.fc.1 hk.fc.2
  have l3 := itoa_len hk.tf.1 hk.tf.2
  have l4 := itoa_len hk.tc.1 hk.tc.2
  have l5 := letS_len n
  simp only [go_sem, Nat.zero_add, Ke.cells, List.getElem?_cons_zero, List.getElem?_cons_succ, nfmt_ok hk.ff.1 hk.ff.2]
  have j2 : ∀ s : List UInt8, s.length ≤ 200 → ∃ H', sortkey_keyText_J2 (.ptr H.length 0) (.str s) H (H ++ [.cells [.int .i64 k.ff, .int .i64 k.fc, .int .i64 k.tf, .int .i64 k.tc, .int .i64 k.fl]]) = some (.str (s ++ letS k.fl.toNat), H') := by
    intro s hs
    rw [sortkey_keyText_J2_eq]
    simp only [go_sem, Nat.zero_add, List.getElem?_cons_zero, List.getElem?_cons_succ, hn, text_ok (n := n) (by omega), sbin_add (a := s) (b := letS n) (by omega)]
    exact ⟨_, by rw [show ((n : Int)).toNat = n by omega]⟩
  have j1 : ∀ s : List UInt8, s.length ≤ 100 → ∃ H', sortkey_keyText_J1 (.ptr H.length 0) (.str s) H (H ++ [.cells [.int .i64 k.ff, .int .i64 k.fc, .int .i64 k.tf, .int .i64 k.tc, .int .i64 k.fl]]) =
      some (.str (s ++ ((if k.tf = 0 then [] else [44] ++ (Lib.itoa k.tf ++ (if k.tc = 0 then [] else [46] ++ Lib.itoa k.tc))) ++ letS k.fl.toNat)), H') := by
    intro s hs
    rw [sortkey_keyText_J1_eq]
    simp only [go_sem, Nat.zero_add, List.getElem?_cons_zero, List.getElem?_cons_succ]
    by_cases ht : k.tf = 0
    · have c : (k.tf != 0) = false := by simpa using ht
      rw [if_pos ht]
      simp only [c, go_sem, List.nil_append]
      exact j2 s (by omega)
    · have c : (k.tf != 0) = true := by simpa using ht
      rw [if_neg ht]
      simp only [c, go_sem, Nat.zero_add, List.getElem?_cons_zero, List.getElem?_cons_succ, nfmt_ok hk.tf.1 hk.tf.2, sbin_add (a := [44]) (b := Lib.itoa k.tf) (by simp; omega),
        sbin_add (a := s) (b := [44] ++ Lib.itoa k.tf) (by simp; omega)]
      by_cases hc : k.tc = 0
      · have c : (k.tc != 0) = false := by simpa using hc
        rw [if_pos hc]
        simp only [c, go_sem]
        obtain ⟨H', e⟩ := j2 (s ++ ([44] ++ Lib.itoa k.tf)) (by simp; omega)
        exact ⟨H', by rw [e]; simp⟩
      · have c : (k.tc != 0) = true := by simpa using hc
        rw [if_neg hc]
        simp only [c, go_sem, Nat.zero_add, List.getElem?_cons_zero, List.getElem?_cons_succ, nfmt_ok hk.tc.1 hk.tc.2, sbin_add (a := [46]) (b := Lib.itoa k.tc) (by simp; omega),
          sbin_add (a := s ++ ([44] ++ Lib.itoa k.tf)) (b := [46] ++ Lib.itoa k.tc) (by simp; omega)]
        obtain ⟨H', e⟩ := j2 (s ++ ([44] ++ Lib.itoa k.tf) ++ ([46] ++ Lib.itoa k.tc)) (by simp; omega)
        exact ⟨H', by rw [e]; simp⟩
  by_cases hc : k.fc = 1
  · have c : (k.fc != 1) = false := by simpa using hc
    rw [if_pos hc]
    simp only [c, go_sem, List.nil_append]
    exact j1 _ (by omega)
  · have c : (k.fc != 1) = true := by simpa using hc
    rw [if_neg hc]
    simp only [c, go_sem, Nat.zero_add, List.getElem?_cons_zero, List.getElem?_cons_succ, nfmt_ok hk.fc.1 hk.fc.2, sbin_add (a := [46]) (b := Lib.itoa k.fc) (by simp; omega),
      sbin_add (a := Lib.itoa k.ff) (b := [46] ++ Lib.itoa k.fc) (by simp; omega)]
    obtain ⟨H', e⟩ := j1 (Lib.itoa k.ff ++ ([46] ++ Lib.itoa k.fc)) (by simp; omega)
    exact ⟨H', by rw [e]; simp⟩
theorem keyT_ok {k : Ke} (hk : KeOk k) (h0 : 0 ≤ k.fl) (h1 : k.fl ≤ 31) (H : Hp) : flatC C_sortkey_keyText [.agg k.cells] H = some (.str (keyS k), H) := by
  obtain ⟨H', h3⟩ := keyT_spec hk h0 h1 []
  exact flat1 (a := k.av) (k.close [] 0 4) h3 rfl
theorem rkeyT_spec {k : Ke} (hk : KeOk k) (h0 : 0 ≤ k.fl) (h1 : k.fl ≤ 31) (H : Hp) : ∃ H', C_texttoolsref20_text [k.av] H = some (.str (keyS k), H') := by
  rw [F_texttoolsref20_text_eq]
  unfold F_texttoolsref20_text Ke.av keyS
  obtain ⟨n, hn⟩ : ∃ n : Nat, k.fl = (n : Int) := ⟨k.fl.toNat, by omega⟩
  have l1 := itoa_len hk.ff.1 hk.ff.2
  have l2 := itoa_len hk.fc.1 hk.fc.2
  have l3 := itoa_len hk.tf.1 hk.tf.2
  have l4 := itoa_len hk.tc.1 hk.tc.2
  have l5 := letS_len n
  simp only [go_sem, Nat.zero_add, Ke.cells, List.getElem?_cons_zero, List.getElem?_cons_succ, rfmt_ok hk.ff.1 hk.ff.2]
  have j2 : ∀ s : List UInt8, s.length ≤ 200 → ∃ H', texttoolsref20_text_J2 (.ptr H.length 0) (.str s) H (H ++ [.cells [.int .i64 k.ff, .int .i64 k.fc, .int .i64 k.tf, .int .i64 k.tc, .int .i64 k.fl]]) = some (.str (s ++ letS k.fl.toNat), H') := by
    intro s hs
    rw [texttoolsref20_text_J2_eq]
    simp only [go_sem, Nat.zero_add, List.getElem?_cons_zero, List.getElem?_cons_succ, hn, letters_ok (n := n) (by omega), sbin_add (a := s) (b := letS n) (by omega)]
    exact ⟨_, by rw [show ((n : Int)).toNat = n by omega]⟩
  have j1 : ∀ s : List UInt8, s.length ≤ 100 → ∃ H', texttoolsref20_text_J1 (.ptr H.length 0) (.str s) H (H ++ [.cells [.int .i64 k.ff, .int .i64 k.fc, .int .i64 k.tf, .int .i64 k.tc, .int .i64 k.fl]]) =
      some (.str (s ++ ((if k.tf = 0 then [] else [44] ++ (Lib.itoa k.tf ++ (if k.tc = 0 then [] else [46] ++ Lib.itoa k.tc))) ++ letS k.fl.toNat)), H') := by
    intro s hs
    rw [texttoolsref20_text_J1_eq]
    simp only [go_sem, Nat.zero_add, List.getElem?_cons_zero, List.getElem?_cons_succ]
    by_cases ht : k.tf = 0
    · have c : (k.tf != 0) = false := by simpa using ht
      rw [if_pos ht]
      simp only [c, go_sem, List.nil_append]
      exact j2 s (by omega)
    · have c : (k.tf != 0) = true := by simpa using ht
      rw [if_neg ht]
      simp only [c, go_sem, Nat.zero_add, List.getElem?_cons_zero, List.getElem?_cons_succ, rfmt_ok hk.tf.1 hk.tf.2, sbin_add (a := s) (b := [44]) (by simp; omega),
        sbin_add (a := s ++ [44]) (b := Lib.itoa k.tf) (by simp; omega)]
      by_cases hc : k.tc = 0
      · have c : (k.tc != 0) = false := by simpa using hc
        rw [if_pos hc]
        simp only [c, go_sem]
        obtain ⟨H', e⟩ := j2 (s ++ [44] ++ Lib.itoa k.tf) (by simp; omega)
        exact ⟨H', by rw [e]; simp⟩
      · have c : (k.tc != 0) = true := by simpa using hc
        rw [if_neg hc]
        simp only [c, go_sem, Nat.zero_add, List.getElem?_cons_zero, List.getElem?_cons_succ, rfmt_ok hk.tc.1 hk.tc.2, sbin_add (a := s ++ [44] ++ Lib.itoa k.tf) (b := [46]) (by simp; omega),
          sbin_add (a := s ++ [44] ++ Lib.itoa k.tf ++ [46]) (b := Lib.itoa k.tc) (by simp; omega)]
        obtain ⟨H', e⟩ := j2 (s ++ [44] ++ Lib.itoa k.tf ++ [46] ++ Lib.itoa k.tc) (by simp; omega)
        exact ⟨H', by rw [e]; simp⟩
  by_cases hc : k.fc = 1
  · have c : (k.fc != 1) = false := by simpa using hc
    rw [if_pos hc]
    simp only [c, go_sem, List.nil_append]
    exact j1 _ (by omega)
  · have c : (k.fc != 1) = true := by simpa using hc
    rw [if_neg hc]
    simp only [c, go_sem, Nat.zero_add, List.getElem?_cons_zero, List.getElem?_cons_succ, rfmt_ok hk.fc.1 hk.fc.2, sbin_add (a := Lib.itoa k.ff) (b := [46]) (by simp; omega),
      sbin_add (a := Lib.itoa k.ff ++ [46]) (b := Lib.itoa k.fc) (by simp; omega)]
    obtain ⟨H', e⟩ := j1 (Lib.itoa k.ff ++ [46] ++ Lib.itoa k.fc) (by simp; omega)
    exact ⟨H', by rw [e]; simp⟩
theorem rkeyT_ok {k : Ke} (hk : KeOk k) (h0 : 0 ≤ k.fl) (h1 : k.fl ≤ 31) (H : Hp) : flatC C_texttoolsref20_text [.agg k.cells] H = some (.str (keyS k), H) := by
  obtain ⟨H', h3⟩ := rkeyT_spec hk h0 h1 []
  exact flat1 (a := k.av) (k.close [] 0 4) h3 rfl
theorem rlet_ok {n : Nat} (hn : n < 32) (H : Hp) : flatC C_texttoolsref20_letters [.int .i64 n] H = some (.str (letS n), H) := letters_ok hn H

theorem pr_L1 {x : AV} {l : List Ke} (h : Sl 5 x (l.map Ke.av)) (hl : l.length ≤ 8) (hk : ∀ k ∈ l, KeOk k ∧ 0 ≤ k.fl ∧ k.fl ≤ 31) {H0 : Hp} {r : List AV} : ∀ (m i : Nat) (y : AV) (acc : List (List UInt8)) (H : Hp), l.length - i = m → i ≤ l.length → acc.length ≤ 100 + 2 * i →
    RowN H0.length H 1 y (acc.map AV.str) → Keep H0.length H0 H → H0.length ≤ H.length → H[H0.length]? = some (.cells (x :: r)) →
    ∃ y', sortkey_Print_L1 y x (.int .i64 (l.length : Int)) (.int .i64 (i : Int)) H0 H = some (y', H0) ∧ Sl 1 y' ((acc ++ keysS (l.drop i)).map AV.str) := by
  have hlen := h.len 34
  rw [List.length_map] at hlen
  intro m
  induction m with
  | zero =>
    intro i y acc H hm hi ha hr hkp hle ho
    rw [sortkey_Print_L1_eq]
    have hlt : decide ((i : Int) < (l.length : Int)) = false := by simp; omega
    have hd : l.drop i = [] := List.drop_eq_nil_iff.2 (by omega)
    simp only [go_sem, Nat.zero_add, aload_f1 ho, List.getElem?_cons_zero, hlen, hlt, sortkey_Print_J6_eq, hd, keysS, List.append_nil]
    exact leave_row hkp hle hr.sl (fun c hc => by
      obtain ⟨s, _, rfl⟩ := List.mem_map.1 hc
      rfl)
  | succ m ih =>
    intro i y acc H hm hi ha hr hkp hle ho
    rw [sortkey_Print_L1_eq]
    have hl1 : i < l.length := by omega
    have hlt : decide ((i : Int) < (l.length : Int)) = true := by simp; omega
    have hw : IntKind.i64.wrap ((i : Int) + 1) = ((i + 1 : Nat) : Int) := by rw [wrap64 (by omega) (by omega)]; omega
    obtain ⟨k1, k2, k3⟩ := hk l[i] (List.getElem_mem hl1)
    simp only [go_sem, Nat.zero_add, aload_f1 ho, List.getElem?_cons_zero, hlen, hlt, sortkey_Print_J7_eq, h.key (List.getElem?_eq_getElem hl1), aload_vp5]
    simp only [astore_last5 H l[i] [.int .i64 0, .int .i64 0, .int .i64 0, .int .i64 0, .int .i64 0] rfl]
    obtain ⟨y1, H1, g1, g2, g3, g4, g5⟩ := (hr.push [.cells l[i].cells]).app (by simp; omega) 16 (.vs 1 .clip [.str [45, 107], .str (keyS l[i])]) [.str [45, 107], .str (keyS l[i])] (by simp [elems]) (by simp; omega)
    have hal : aload true 5 (.ptr H.length 0) (H ++ [.cells l[i].cells]) = some (.agg l[i].cells) := aload_last5 H _ _ _ _ _
    simp only [go_sem, hal]
    rw [List.drop_eq_getElem_cons hl1]
    simp only [keyT_ok k1 k2 k3, set2, go_sem, g1, sortkey_Print_J8_eq, hw]
    obtain ⟨y', q1, q2⟩ := ih (i + 1) y1 (acc ++ [[45, 107], keyS l[i]]) H1 (by omega) (by omega) (by simp; omega) (by simpa using g2) ((hkp.trans (Keep.push H hle [.cells l[i].cells])).trans g4) g3 (g5 _ _ (get_push ho _))
    refine ⟨y', q1, ?_⟩
    simpa [keysS] using q2
theorem pr_J4 {x : AV} {p : Spec} (h : Sl 5 x (p.keys.map Ke.av)) (hl : p.keys.length ≤ 8) (hk : ∀ k ∈ p.keys, KeOk k ∧ 0 ≤ k.fl ∧ k.fl ≤ 31) (hsep : p.sep ≤ 255) {H0 : Hp} {y : AV} {acc : List (List UInt8)} {H : Hp} (ha : acc.length ≤ 50)
    (hr : RowN H0.length H 1 y (acc.map AV.str)) (hkp : Keep H0.length H0 H) (hle : H0.length ≤ H.length) (ho : H[H0.length]? = some (.cells (p.cells x))) :
    ∃ y', sortkey_Print_J4 (.ptr H0.length 0) y H0 H = some (y', H0) ∧ Sl 1 y' ((acc ++ (sepS p.sep ++ keysS p.keys)).map AV.str) := by
  have hlen := h.len 34
  rw [List.length_map] at hlen
  rw [sortkey_Print_J4_eq]
  unfold Spec.cells at ho
  simp only [go_sem, Nat.zero_add, aload_f1 ho, List.getElem?_cons_zero, List.getElem?_cons_succ]
  unfold sepS
  by_cases hs : 0 ≤ p.sep
  · have c : decide (0 ≤ p.sep) = true := by simpa using hs
    obtain ⟨y1, H1, g1, g2, g3, g4, g5⟩ := hr.app hle 16 (.vs 1 .clip [.str [45, 116], .str [UInt8.ofNat p.sep.toNat]]) [.str [45, 116], .str [UInt8.ofNat p.sep.toNat]] (by simp [elems]) (by simp; omega)
    have hb : (bnd (cvInt .u8 (.int .i64 p.sep)) fun t => bnd ((setElems 1 [(0, t)] [(.int .u8 0)]).map (AV.vs 1 .clip)) cvOfBytes) = some (.str [UInt8.ofNat p.sep.toNat]) := byte_str hs hsep
    simp only [c, go_sem, if_pos hs, Nat.zero_add, aload_f1 ho, List.getElem?_cons_zero, List.getElem?_cons_succ]
    rw [bnd_assoc3, hb]
    simp only [go_sem, set2, g1, sortkey_Print_J5_eq, Nat.zero_add, aload_f1 (g5 _ _ ho), List.getElem?_cons_zero, hlen]
    obtain ⟨y', q1, q2⟩ := pr_L1 h hl hk p.keys.length 0 y1 (acc ++ [[45, 116], [UInt8.ofNat p.sep.toNat]]) H1 (by omega) (by omega) (by simp; omega) (by simpa using g2) (hkp.trans g4) g3 (g5 _ _ ho)
    exact ⟨y', q1, by simpa using q2⟩
  · have c : decide (0 ≤ p.sep) = false := by simpa using hs
    simp only [c, go_sem, if_neg hs, sortkey_Print_J5_eq, Nat.zero_add, aload_f1 ho, List.getElem?_cons_zero, hlen]
    obtain ⟨y', q1, q2⟩ := pr_L1 h hl hk p.keys.length 0 y acc H (by omega) (by omega) (by omega) hr hkp hle ho
    exact ⟨y', q1, by simpa using q2⟩
theorem pr_J3 {x : AV} {p : Spec} (h : Sl 5 x (p.keys.map Ke.av)) (hl : p.keys.length ≤ 8) (hk : ∀ k ∈ p.keys, KeOk k ∧ 0 ≤ k.fl ∧ k.fl ≤ 31) (hsep : p.sep ≤ 255) {H0 : Hp} {y : AV} {acc : List (List UInt8)} {H : Hp} (ha : acc.length ≤ 40)
    (hr : RowN H0.length H 1 y (acc.map AV.str)) (hkp : Keep H0.length H0 H) (hle : H0.length ≤ H.length) (ho : H[H0.length]? = some (.cells (p.cells x))) :
    ∃ y', sortkey_Print_J3 (.ptr H0.length 0) y H0 H = some (y', H0) ∧ Sl 1 y' ((acc ++ ((if p.uniq then [[45, 117]] else []) ++ (sepS p.sep ++ keysS p.keys))).map AV.str) := by
  rw [sortkey_Print_J3_eq]
  have ho2 := ho
  unfold Spec.cells at ho2
  simp only [go_sem, Nat.zero_add, aload_f1 ho2, List.getElem?_cons_zero, List.getElem?_cons_succ]
  cases hu : p.uniq with
  | true =>
    obtain ⟨y1, H1, g1, g2, g3, g4, g5⟩ := hr.app hle 16 (.vs 1 .clip [.str [45, 117]]) [.str [45, 117]] (by simp [elems]) (by simp; omega)
    simp only [go_sem, set1, g1, if_true]
    obtain ⟨y', q1, q2⟩ := pr_J4 h hl hk hsep (acc := acc ++ [[45, 117]]) (by simp; omega) (by simpa using g2) (hkp.trans g4) g3 (g5 _ _ ho)
    exact ⟨y', q1, by simpa using q2⟩
  | false =>
    simp only [go_sem, Bool.false_eq_true, if_false]
    obtain ⟨y', q1, q2⟩ := pr_J4 h hl hk hsep (acc := acc) (by omega) hr hkp hle ho
    exact ⟨y', q1, by simpa using q2⟩
theorem pr_J2 {x : AV} {p : Spec} (h : Sl 5 x (p.keys.map Ke.av)) (hl : p.keys.length ≤ 8) (hk : ∀ k ∈ p.keys, KeOk k ∧ 0 ≤ k.fl ∧ k.fl ≤ 31) (hsep : p.sep ≤ 255) {H0 : Hp} {y : AV} {acc : List (List UInt8)} {H : Hp} (ha : acc.length ≤ 30)
    (hr : RowN H0.length H 1 y (acc.map AV.str)) (hkp : Keep H0.length H0 H) (hle : H0.length ≤ H.length) (ho : H[H0.length]? = some (.cells (p.cells x))) :
    ∃ y', sortkey_Print_J2 (.ptr H0.length 0) y H0 H = some (y', H0) ∧ Sl 1 y' ((acc ++ ((if p.stab then [[45, 115]] else []) ++ ((if p.uniq then [[45, 117]] else []) ++ (sepS p.sep ++ keysS p.keys)))).map AV.str) := by
  rw [sortkey_Print_J2_eq]
  have ho2 := ho
  unfold Spec.cells at ho2
  simp only [go_sem, Nat.zero_add, aload_f1 ho2, List.getElem?_cons_zero, List.getElem?_cons_succ]
  cases hu : p.stab with
  | true =>
    obtain ⟨y1, H1, g1, g2, g3, g4, g5⟩ := hr.app hle 16 (.vs 1 .clip [.str [45, 115]]) [.str [45, 115]] (by simp [elems]) (by simp; omega)
    simp only [go_sem, set1, g1, if_true]
    obtain ⟨y', q1, q2⟩ := pr_J3 h hl hk hsep (acc := acc ++ [[45, 115]]) (by simp; omega) (by simpa using g2) (hkp.trans g4) g3 (g5 _ _ ho)
    exact ⟨y', q1, by simpa using q2⟩
  | false =>
    simp only [go_sem, Bool.false_eq_true, if_false]
    obtain ⟨y', q1, q2⟩ := pr_J3 h hl hk hsep (acc := acc) (by omega) hr hkp hle ho
    exact ⟨y', q1, by simpa using q2⟩
theorem pr_ok {a : AV} {p : Spec} (h : SpecAV a p) (hw : ∀ k ∈ p.keys, KeOk k) (H : Hp) : ∃ y, C_sortkey_Print [a] H = some (y, H) ∧ Sl 1 y ((printS p).map AV.str) := by
  rw [F_sortkey_Print_eq]
  unfold F_sortkey_Print printS
  have hck := check_flat h
  obtain ⟨x, rfl, hx⟩ := h
  unfold Spec.cells at hck
  simp only [Spec.cells, go_sem, aload_last5, hck]
  by_cases hz : checkS p = 0
  · have c : (checkS p != 0) = false := by simpa using hz
    obtain ⟨z1, z2, z3, z4, z5⟩ := checkS_zero hz
    have hkp : Keep H.length H (H ++ [.cells (p.cells x)]) := Keep.push H (Nat.le_refl _) _
    have hk : ∀ k ∈ p.keys, KeOk k ∧ 0 ≤ k.fl ∧ k.fl ≤ 31 := fun k hk => ⟨hw k hk, (z5 k hk).1, (z5 k hk).2⟩
    have ho := get_last H (.cells (p.cells x))
    simp only [c, go_sem, sortkey_Print_J1_eq, Nat.zero_add, List.getElem?_cons_zero, List.getElem?_cons_succ]
    rw [if_pos hz]
    by_cases hf : p.flags = 0
    · have c2 : (p.flags != 0) = false := by simpa using hf
      simp only [c2, go_sem]
      obtain ⟨y', q1, q2⟩ := pr_J2 hx z1 hk z2 (H0 := H) (acc := []) (by simp) (RowN.nil _ _ _) hkp (by simp) ho
      rw [if_pos hf]
      exact ⟨y', q1, by simpa using q2⟩
    · obtain ⟨n, hn⟩ : ∃ n : Nat, p.flags = (n : Int) := ⟨p.flags.toNat, by omega⟩
      have c2 : (((n : Nat) : Int) != 0) = true := by rw [← hn]; simpa using hf
      have ht := text_ok (n := n) (by omega) (H ++ [.cells (p.cells x)])
      have hll := letS_len n
      simp only [Spec.cells, hn] at ht
      obtain ⟨y1, H1, g1, g2, g3, g4, g5⟩ := (RowN.nil H.length (H ++ [.cells (p.cells x)]) 1).app (by simp) 16 (.vs 1 .clip [.str ([45] ++ letS n)]) [.str ([45] ++ letS n)] (by simp [elems]) (by simp)
      simp only [Spec.cells, hn] at g1
      simp only [c2, go_sem, Nat.zero_add, List.getElem?_cons_zero, List.getElem?_cons_succ, hn, ht, sbin_add (a := [45]) (b := letS n) (by simp; omega), set1]
      simp only [g1, go_sem]
      obtain ⟨y', q1, q2⟩ := pr_J2 hx z1 hk z2 (H0 := H) (acc := [[45] ++ letS n]) (by simp) (by simpa using g2) (hkp.trans g4) g3 (g5 _ _ ho)
      rw [if_neg (by omega)]
      exact ⟨y', q1, by simpa using q2⟩
  · have c : (checkS p != 0) = true := by simpa using hz
    rw [if_neg hz]
    simp only [c, go_sem]
    have : leaveP H .nils (H ++ [.cells [x, .int .i64 p.sep, .int .i64 p.flags, .bool p.uniq, .bool p.stab]]) = some (.nils, H) := by
      unfold leaveP
      rw [if_pos (by simp)]
      rfl
    exact ⟨.nils, this, .inl ⟨rfl, rfl⟩⟩

theorem rpr_L1 {x : AV} {l : List Ke} (h : Sl 5 x (l.map Ke.av)) (hl : l.length ≤ 8) (hk : ∀ k ∈ l, KeOk k ∧ 0 ≤ k.fl ∧ k.fl ≤ 31) {H0 : Hp} {r : List AV} : ∀ (m i : Nat) (y : AV) (acc : List (List UInt8)) (H : Hp), l.length - i = m → i ≤ l.length → acc.length ≤ 100 + 2 * i →
    RowN H0.length H 1 y (acc.map AV.str) → Keep H0.length H0 H → H0.length ≤ H.length → H[H0.length]? = some (.cells (x :: r)) →
    ∃ y', texttoolsref20_Print_L1 (.ptr H0.length 0) y (.int .i64 (i : Int)) H0 H = some (y', H0) ∧ Sl 1 y' ((acc ++ keysS (l.drop i)).map AV.str) := by
  have hlen := h.len 34
  rw [List.length_map] at hlen
  intro m
  induction m with
  | zero =>
    intro i y acc H hm hi ha hr hkp hle ho
    rw [texttoolsref20_Print_L1_eq]
    have hlt : decide ((i : Int) < (l.length : Int)) = false := by simp; omega
    have hd : l.drop i = [] := List.drop_eq_nil_iff.2 (by omega)
    simp only [go_sem, Nat.zero_add, aload_f1 ho, List.getElem?_cons_zero, hlen, hlt, texttoolsref20_Print_J6_eq, hd, keysS, List.append_nil]
    exact leave_row hkp hle hr.sl (fun c hc => by
      obtain ⟨s, _, rfl⟩ := List.mem_map.1 hc
      rfl)
  | succ m ih =>
    intro i y acc H hm hi ha hr hkp hle ho
    rw [texttoolsref20_Print_L1_eq]
    have hl1 : i < l.length := by omega
    have hlt : decide ((i : Int) < (l.length : Int)) = true := by simp; omega
    have hw : IntKind.i64.wrap ((i : Int) + 1) = ((i + 1 : Nat) : Int) := by rw [wrap64 (by omega) (by omega)]; omega
    obtain ⟨k1, k2, k3⟩ := hk l[i] (List.getElem_mem hl1)
    simp only [go_sem, Nat.zero_add, aload_f1 ho, List.getElem?_cons_zero, hlen, hlt, texttoolsref20_Print_J7_eq, h.key (List.getElem?_eq_getElem hl1), aload_vp5]
    obtain ⟨y1, H1, g1, g2, g3, g4, g5⟩ := hr.app hle 16 (.vs 1 .clip [.str [45, 107], .str (keyS l[i])]) [.str [45, 107], .str (keyS l[i])] (by simp [elems]) (by simp; omega)
    rw [List.drop_eq_getElem_cons hl1]
    simp only [rkeyT_ok k1 k2 k3, set2, go_sem, g1, texttoolsref20_Print_J8_eq, hw]
    obtain ⟨y', q1, q2⟩ := ih (i + 1) y1 (acc ++ [[45, 107], keyS l[i]]) H1 (by omega) (by omega) (by simp; omega) (by simpa using g2) (hkp.trans g4) g3 (g5 _ _ ho)
    refine ⟨y', q1, ?_⟩
    simpa [keysS] using q2
theorem rpr_J4 {x : AV} {p : Spec} (h : Sl 5 x (p.keys.map Ke.av)) (hl : p.keys.length ≤ 8) (hk : ∀ k ∈ p.keys, KeOk k ∧ 0 ≤ k.fl ∧ k.fl ≤ 31) (hsep : p.sep ≤ 255) {H0 : Hp} {y : AV} {acc : List (List UInt8)} {H : Hp} (ha : acc.length ≤ 50)
    (hr : RowN H0.length H 1 y (acc.map AV.str)) (hkp : Keep H0.length H0 H) (hle : H0.length ≤ H.length) (ho : H[H0.length]? = some (.cells (p.cells x))) :
    ∃ y', texttoolsref20_Print_J4 (.ptr H0.length 0) y H0 H = some (y', H0) ∧ Sl 1 y' ((acc ++ (sepS p.sep ++ keysS p.keys)).map AV.str) := by
  have hlen := h.len 34
  rw [List.length_map] at hlen
  rw [texttoolsref20_Print_J4_eq]
  unfold Spec.cells at ho
  simp only [go_sem, Nat.zero_add, aload_f1 ho, List.getElem?_cons_zero, List.getElem?_cons_succ]
  unfold sepS
  by_cases hs : 0 ≤ p.sep
  · have c : decide (0 ≤ p.sep) = true := by simpa using hs
    obtain ⟨y1, H1, g1, g2, g3, g4, g5⟩ := hr.app hle 16 (.vs 1 .clip [.str [45, 116], .str [UInt8.ofNat p.sep.toNat]]) [.str [45, 116], .str [UInt8.ofNat p.sep.toNat]] (by simp [elems]) (by simp; omega)
    have hb : (bnd (cvInt .u8 (.int .i64 p.sep)) fun t => bnd ((setElems 1 [(0, t)] [(.int .u8 0)]).map (AV.vs 1 .clip)) cvOfBytes) = some (.str [UInt8.ofNat p.sep.toNat]) := byte_str hs hsep
    simp only [c, go_sem, if_pos hs, Nat.zero_add, aload_f1 ho, List.getElem?_cons_zero, List.getElem?_cons_succ]
    rw [bnd_assoc3, hb]
    simp only [go_sem, set2, g1, texttoolsref20_Print_J5_eq, Nat.zero_add, aload_f1 (g5 _ _ ho), List.getElem?_cons_zero, hlen]
    obtain ⟨y', q1, q2⟩ := rpr_L1 h hl hk p.keys.length 0 y1 (acc ++ [[45, 116], [UInt8.ofNat p.sep.toNat]]) H1 (by omega) (by omega) (by simp; omega) (by simpa using g2) (hkp.trans g4) g3 (g5 _ _ ho)
    exact ⟨y', q1, by simpa using q2⟩
  · have c : decide (0 ≤ p.sep) = false := by simpa using hs
    simp only [c, go_sem, if_neg hs, texttoolsref20_Print_J5_eq, Nat.zero_add, aload_f1 ho, List.getElem?_cons_zero, hlen]
    obtain ⟨y', q1, q2⟩ := rpr_L1 h hl hk p.keys.length 0 y acc H (by omega) (by omega) (by omega) hr hkp hle ho
    exact ⟨y', q1, by simpa using q2⟩
theorem rpr_J3 {x : AV} {p : Spec} (h : Sl 5 x (p.keys.map Ke.av)) (hl : p.keys.length ≤ 8) (hk : ∀ k ∈ p.keys, KeOk k ∧ 0 ≤ k.fl ∧ k.fl ≤ 31) (hsep : p.sep ≤ 255) {H0 : Hp} {y : AV} {acc : List (List UInt8)} {H : Hp} (ha : acc.length ≤ 40)
    (hr : RowN H0.length H 1 y (acc.map AV.str)) (hkp : Keep H0.length H0 H) (hle : H0.length ≤ H.length) (ho : H[H0.length]? = some (.cells (p.cells x))) :
    ∃ y', texttoolsref20_Print_J3 (.ptr H0.length 0) y H0 H = some (y', H0) ∧ Sl 1 y' ((acc ++ ((if p.uniq then [[45, 117]] else []) ++ (sepS p.sep ++ keysS p.keys))).map AV.str) := by
  rw [texttoolsref20_Print_J3_eq]
  have ho2 := ho
  unfold Spec.cells at ho2
  simp only [go_sem, Nat.zero_add, aload_f1 ho2, List.getElem?_cons_zero, List.getElem?_cons_succ]
  cases hu : p.uniq with
  | true =>
    obtain ⟨y1, H1, g1, g2, g3, g4, g5⟩ := hr.app hle 16 (.vs 1 .clip [.str [45, 117]]) [.str [45, 117]] (by simp [elems]) (by simp; omega)
    simp only [go_sem, set1, g1, if_true]
    obtain ⟨y', q1, q2⟩ := rpr_J4 h hl hk hsep (acc := acc ++ [[45, 117]]) (by simp; omega) (by simpa using g2) (hkp.trans g4) g3 (g5 _ _ ho)
    exact ⟨y', q1, by simpa using q2⟩
  | false =>
    simp only [go_sem, Bool.false_eq_true, if_false]
    obtain ⟨y', q1, q2⟩ := rpr_J4 h hl hk hsep (acc := acc) (by omega) hr hkp hle ho
    exact ⟨y', q1, by simpa using q2⟩
theorem rpr_J2 {x : AV} {p : Spec} (h : Sl 5 x (p.keys.map Ke.av)) (hl : p.keys.length ≤ 8) (hk : ∀ k ∈ p.keys, KeOk k ∧ 0 ≤ k.fl ∧ k.fl ≤ 31) (hsep : p.sep ≤ 255) {H0 : Hp} {y : AV} {acc : List (List UInt8)} {H : Hp} (ha : acc.length ≤ 30)
    (hr : RowN H0.length H 1 y (acc.map AV.str)) (hkp : Keep H0.length H0 H) (hle : H0.length ≤ H.length) (ho : H[H0.length]? = some (.cells (p.cells x))) :
    ∃ y', texttoolsref20_Print_J2 (.ptr H0.length 0) y H0 H = some (y', H0) ∧ Sl 1 y' ((acc ++ ((if p.stab then [[45, 115]] else []) ++ ((if p.uniq then [[45, 117]] else []) ++ (sepS p.sep ++ keysS p.keys)))).map AV.str) := by
  rw [texttoolsref20_Print_J2_eq]
  have ho2 := ho
  unfold Spec.cells at ho2
  simp only [go_sem, Nat.zero_add, aload_f1 ho2, List.getElem?_cons_zero, List.getElem?_cons_succ]
  cases hu : p.stab with
  | true =>
    obtain ⟨y1, H1, g1, g2, g3, g4, g5⟩ := hr.app hle 16 (.vs 1 .clip [.str [45, 115]]) [.str [45, 115]] (by simp [elems]) (by simp; omega)
    simp only [go_sem, set1, g1, if_true]
    obtain ⟨y', q1, q2⟩ := rpr_J3 h hl hk hsep (acc := acc ++ [[45, 115]]) (by simp; omega) (by simpa using g2) (hkp.trans g4) g3 (g5 _ _ ho)
    exact ⟨y', q1, by simpa using q2⟩
  | false =>
    simp only [go_sem, Bool.false_eq_true, if_false]
    obtain ⟨y', q1, q2⟩ := rpr_J3 h hl hk hsep (acc := acc) (by omega) hr hkp hle ho
    exact ⟨y', q1, by simpa using q2⟩
theorem rpr_ok {a : AV} {p : Spec} (h : SpecAV a p) (hw : ∀ k ∈ p.keys, KeOk k) (H : Hp) : ∃ y, C_texttoolsref20_Print [a] H = some (y, H) ∧ Sl 1 y ((printS p).map AV.str) := by
  rw [F_texttoolsref20_Print_eq]
  unfold F_texttoolsref20_Print printS
  have hck := rcheck_flat h
  obtain ⟨x, rfl, hx⟩ := h
  unfold Spec.cells at hck
  simp only [Spec.cells, go_sem, aload_last5, hck]
  by_cases hz : checkS p = 0
  · have c : (checkS p != 0) = false := by simpa using hz
    obtain ⟨z1, z2, z3, z4, z5⟩ := checkS_zero hz
    have hkp : Keep H.length H (H ++ [.cells (p.cells x)]) := Keep.push H (Nat.le_refl _) _
    have hk : ∀ k ∈ p.keys, KeOk k ∧ 0 ≤ k.fl ∧ k.fl ≤ 31 := fun k hk => ⟨hw k hk, (z5 k hk).1, (z5 k hk).2⟩
    have ho := get_last H (.cells (p.cells x))
    simp only [c, go_sem, texttoolsref20_Print_J1_eq, Nat.zero_add, List.getElem?_cons_zero, List.getElem?_cons_succ]
    rw [if_pos hz]
    by_cases hf : p.flags = 0
    · have c2 : (p.flags != 0) = false := by simpa using hf
      simp only [c2, go_sem]
      obtain ⟨y', q1, q2⟩ := rpr_J2 hx z1 hk z2 (H0 := H) (acc := []) (by simp) (RowN.nil _ _ _) hkp (by simp) ho
      rw [if_pos hf]
      exact ⟨y', q1, by simpa using q2⟩
    · obtain ⟨n, hn⟩ : ∃ n : Nat, p.flags = (n : Int) := ⟨p.flags.toNat, by omega⟩
      have c2 : (((n : Nat) : Int) != 0) = true := by rw [← hn]; simpa using hf
      have ht := rlet_ok (n := n) (by omega) (H ++ [.cells (p.cells x)])
      have hll := letS_len n
      simp only [Spec.cells, hn] at ht
      obtain ⟨y1, H1, g1, g2, g3, g4, g5⟩ := (RowN.nil H.length (H ++ [.cells (p.cells x)]) 1).app (by simp) 16 (.vs 1 .clip [.str ([45] ++ letS n)]) [.str ([45] ++ letS n)] (by simp [elems]) (by simp)
      simp only [Spec.cells, hn] at g1
      simp only [c2, go_sem, Nat.zero_add, List.getElem?_cons_zero, List.getElem?_cons_succ, hn, ht, sbin_add (a := [45]) (b := letS n) (by simp; omega), set1]
      simp only [g1, go_sem]
      obtain ⟨y', q1, q2⟩ := rpr_J2 hx z1 hk z2 (H0 := H) (acc := [[45] ++ letS n]) (by simp) (by simpa using g2) (hkp.trans g4) g3 (g5 _ _ ho)
      rw [if_neg (by omega)]
      exact ⟨y', q1, by simpa using q2⟩
  · have c : (checkS p != 0) = true := by simpa using hz
    rw [if_neg hz]
    simp only [c, go_sem]
    have : leaveP H .nils (H ++ [.cells [x, .int .i64 p.sep, .int .i64 p.flags, .bool p.uniq, .bool p.stab]]) = some (.nils, H) := by
      unfold leaveP
      rw [if_pos (by simp)]
      rfl
    exact ⟨.nils, this, .inl ⟨rfl, rfl⟩⟩

end Go.Am
namespace Go.Am
set_option linter.unusedSimpArgs false
set_option linter.unusedVariables false

theorem afield_vp5 (a b c d e : AV) (H : Hp) : (afield 0 (.vp [a, b, c, d, e]) = some (.vp [a, b, c, d, e])) ∧ (afield 1 (.vp [a, b, c, d, e]) = some (.vp [b, c, d, e])) ∧ (afield 2 (.vp [a, b, c, d, e]) = some (.vp [c, d, e])) ∧ (afield 3 (.vp [a, b, c, d, e]) = some (.vp [d, e])) := ⟨rfl, rfl, rfl, rfl⟩
theorem afield_vp2 (a b : AV) : (afield 0 (.vp [a, b]) = some (.vp [a, b])) ∧ (afield 1 (.vp [a, b]) = some (.vp [b])) := ⟨rfl, rfl⟩
theorem aload_vpc (a : AV) (l : List AV) (H : Hp) : aload false 1 (.vp (a :: l)) H = some a := (Eq.refl _).trans (Eq.refl _)
theorem aloadv_vpc (a : AV) (l : List AV) : aloadv false 1 (.vp (a :: l)) = some a := (Eq.refl _).trans (Eq.refl _)
theorem aload_vp22 (a b : AV) (H : Hp) : aload true 2 (.vp [a, b]) H = some (.agg [a, b]) := by simp [aload, Go.Am.apart]
theorem idx_span {tok : Tok} {fs : List (Nat × Nat)} {i : Int} {p : Nat × Nat} (h0 : 0 ≤ i) (h : fs[i.toNat]? = some p) : aindexS 2 (.vs 2 tok (fs.map spanAV)) (.int .i64 i) = some (.vp [.int .i64 p.1, .int .i64 p.2]) := by
  simp [aindexS, h0, h, spanAV, AV.cells]
theorem astore_last2 (H : Hp) (a b : AV) : astoreU 2 (.ptr H.length 0) (.agg [a, b]) (H ++ [.cells [.int .i64 0, .int .i64 0]]) = some (.tuple [], H ++ [.cells [a, b]]) := by
  rw [astore_of (sz := 2) (v := .agg [a, b]) (get_last _ _) rfl rfl (by simp)]
  simp [AV.cells, splice]
theorem frz_last (H : Hp) (l : List AV) (k : AV → Hp → Res) : frzK (.ptr H.length 0) (H ++ [.cells l]) k = k (.vp l) (H ++ [.dead]) := by
  rw [frz_of (get_last _ _), set_push]
theorem rcut_spec {line : List UInt8} {f e : Nat} (hf : f ≤ line.length) (he : e ≤ line.length) (H0 H : Hp) :
    texttoolsref20_Extract_J2 (.str line) (.int .i64 (f : Int)) (.int .i64 (e : Int)) H0 H = some (.str (if e < f then [] else (line.take e).drop f), H) := by
  rw [texttoolsref20_Extract_J2_eq]
  by_cases h : e ≤ f
  · have c : decide ((e : Int) ≤ (f : Int)) = true := by simp; omega
    have hd : (if e < f then [] else (line.take e).drop f) = [] := by
      split
      · rfl
      · simp; omega
    simp only [go_sem, c, hd]
  · have c : decide ((e : Int) ≤ (f : Int)) = false := by simp; omega
    have hs := asliceS_lh (s := line) (n := (f : Int)) (m := (e : Int)) .i64 .i64 (by omega) (by omega) (by omega)
    have e1 : ((f : Int)).toNat = f := by omega
    have e2 : ((e : Int)).toNat = e := by omega
    rw [e1, e2] at hs
    have hd : ¬ e < f := by omega
    simp only [go_sem, c, texttoolsref20_Extract_J3_eq, hs, hd, if_false]
theorem rextract_spec {line : List UInt8} (hlen : line.length ≤ 1048576) {k : Ke} (hk : KeOk k) (sep : Int) (H : Hp) :
    ∃ H', C_texttoolsref20_Extract [.str line, .agg k.cells, .int .i64 sep] H = some (.str (ex line (fields line sep) k), H') := by
  rw [F_texttoolsref20_Extract_eq]
  unfold F_texttoolsref20_Extract
  have hbox : abox (.agg k.cells) H = some (.ptr H.length 0, H ++ [.cells k.cells]) := abox_of rfl
  have hget := get_last H (.cells k.cells)
  obtain ⟨x', H2, g1, g2, g3⟩ := fields_spec hlen sep (H ++ [.cells k.cells])
  have hget2 := g3 _ _ hget
  simp only [Ke.cells] at hbox hget hget2 g1 ⊢
  obtain ⟨v0, v1, v2, v3⟩ := afield_vp5 (.int .i64 k.ff) (.int .i64 k.fc) (.int .i64 k.tf) (.int .i64 k.tc) (.int .i64 k.fl) H
  simp only [hbox, go_sem, g1, frz_of hget2, v0, v1, aload_vpc, aloadv_vpc, most_spec, g2.len, List.length_map]
  by_cases hin : max k.ff 1 ≤ ((fields line sep).length : Int)
  · have c1 : decide (((fields line sep).length : Int) < max k.ff 1) = false := by simp; omega
    have hff := hk.ff
    have hfc := hk.fc
    have hix : (max k.ff 1 - 1).toNat < (fields line sep).length := by omega
    obtain ⟨⟨a, b⟩, hab⟩ : ∃ p, (fields line sep)[(max k.ff 1 - 1).toNat]? = some p := ⟨_, List.getElem?_eq_getElem hix⟩
    obtain ⟨r1, r2⟩ := fields_in line sep _ (List.mem_of_getElem? hab)
    simp only at r1 r2
    have w0 : IntKind.i64.wrap (max k.ff 1 - 1) = max k.ff 1 - 1 := wrap64 (by omega) (by omega)
    have w1 : IntKind.i64.wrap (max k.fc 1 - 1) = max k.fc 1 - 1 := wrap64 (by omega) (by omega)
    have w2 : IntKind.i64.wrap ((b : Int) - a) = (b : Int) - a := wrap64 (by omega) (by omega)
    have w3 : IntKind.i64.wrap ((a : Int) + min (max k.fc 1 - 1) ((b : Int) - a)) = ((exFrom a b k : Nat) : Int) := by rw [wrap64 (by omega) (by omega)]; unfold exFrom; omega
    have hfl : exFrom a b k ≤ line.length := by unfold exFrom; omega
    rcases g2 with ⟨_, hnil⟩ | ⟨tt, te, rfl, _⟩
    · have : fields line sep = [] := by simpa using hnil
      rw [this] at hix
      simp at hix
    have hidx := idx_span (tok := .own tt te) (fs := fields line sep) (i := max k.ff 1 - 1) (by omega) hab
    obtain ⟨u0, u1⟩ := afield_vp2 (.int .i64 (a : Int)) (.int .i64 (b : Int))
    simp only [c1, go_sem, texttoolsref20_Extract_J1_eq, w0, hidx, aload_vp22, astore_last2, frz_last, u0, u1, aloadv_vpc, aload_vpc, w1, w2, least_spec, w3, v2]
    have fin : ∀ e : Nat, e ≤ line.length → e = exEnd line (fields line sep) k → ex line (fields line sep) k = (if e < exFrom a b k then [] else (line.take e).drop (exFrom a b k)) := by
      intro e _ he
      subst he
      unfold ex
      rw [if_pos hin, getD_of hab]
    by_cases ht : 0 < k.tf
    · have c2 : decide ((0 : Int) < k.tf) = true := by simp [ht]
      have htf := hk.tf
      simp only [c2, go_sem, aload_vpc, List.length_map, v2]
      by_cases hin2 : k.tf ≤ ((fields line sep).length : Int)
      · have c3 : decide (k.tf ≤ ((fields line sep).length : Int)) = true := by simp [hin2]
        have hix2 : (k.tf - 1).toNat < (fields line sep).length := by omega
        obtain ⟨⟨a2, b2⟩, hab2⟩ : ∃ p, (fields line sep)[(k.tf - 1).toNat]? = some p := ⟨_, List.getElem?_eq_getElem hix2⟩
        obtain ⟨s1, s2⟩ := fields_in line sep _ (List.mem_of_getElem? hab2)
        simp only at s1 s2
        have w6 : IntKind.i64.wrap (k.tf - 1) = k.tf - 1 := wrap64 (by omega) (by omega)
        have hidx2 := idx_span (tok := .own tt te) (fs := fields line sep) (i := k.tf - 1) (by omega) hab2
        obtain ⟨t0, t1⟩ := afield_vp2 (.int .i64 (a2 : Int)) (.int .i64 (b2 : Int))
        simp only [c3, go_sem, v2, aload_vpc, w6, hidx2, aload_vp22, astore_last2]
        have htc := hk.tc
        simp only [Nat.zero_add, aload_f1 (get_last _ _), List.getElem?_cons_zero, List.getElem?_cons_succ, go_sem, v3, aload_vpc]
        by_cases hc : 0 < k.tc
        · have c4 : decide ((0 : Int) < k.tc) = true := by simp [hc]
          have w4 : IntKind.i64.wrap ((b2 : Int) - a2) = (b2 : Int) - a2 := wrap64 (by omega) (by omega)
          have w5 : IntKind.i64.wrap ((a2 : Int) + min k.tc ((b2 : Int) - a2)) = ((a2 + (min k.tc ((b2 : Int) - a2)).toNat : Nat) : Int) := by rw [wrap64 (by omega) (by omega)]; omega
          simp only [c4, go_sem, frz_last, t0, t1, aloadv_vpc, aload_vpc, v3, w4, least_spec, w5]
          rw [rcut_spec hfl (by omega)]
          rw [fin (a2 + (min k.tc ((b2 : Int) - a2)).toNat) (by omega) (by unfold exEnd; rw [if_pos ⟨ht, hin2⟩, getD_of hab2]; simp [hc])]
          exact ⟨_, rfl⟩
        · have c4 : decide ((0 : Int) < k.tc) = false := by simp; omega
          simp only [c4, go_sem]
          rw [rcut_spec hfl s2]
          rw [fin b2 s2 (by unfold exEnd; rw [if_pos ⟨ht, hin2⟩, getD_of hab2]; simp [hc])]
          exact ⟨_, rfl⟩
      · have c3 : decide (k.tf ≤ ((fields line sep).length : Int)) = false := by simp; omega
        simp only [c3, go_sem]
        rw [rcut_spec hfl (Nat.le_refl _)]
        rw [fin line.length (Nat.le_refl _) (by unfold exEnd; rw [if_neg (fun h => hin2 h.2)])]
        exact ⟨_, rfl⟩
    · have c2 : decide ((0 : Int) < k.tf) = false := by simp; omega
      simp only [aload_vpc, go_sem, c2]
      rw [rcut_spec hfl (Nat.le_refl _)]
      rw [fin line.length (Nat.le_refl _) (by unfold exEnd; rw [if_neg (fun h => ht h.1)])]
      exact ⟨_, rfl⟩
  · have c1 : decide (((fields line sep).length : Int) < max k.ff 1) = true := by simp; omega
    simp only [c1, go_sem]
    have : ex line (fields line sep) k = [] := by unfold ex; rw [if_neg hin]
    rw [this]
    exact ⟨_, rfl⟩
/-- The statement on parts, but for the examples. -/
theorem Extracts_law {line : List UInt8} (hlen : line.length ≤ 1048576) {k : Ke} (hk : KeOk k) (sep : Int) (H : Hp) (awake : ∀ H, flatC C_texttoolslaw20_awake [] H = some (.bool true, H)) :
    ∃ H', C_texttoolslaw20_SortkeyExtracts [.str line, .agg k.cells, .int .i64 sep] H = some (.bool true, H') := by
  rw [F_texttoolslaw20_SortkeyExtracts_eq]
  unfold F_texttoolslaw20_SortkeyExtracts
  have hbox : abox (.agg k.cells) H = some (.ptr H.length 0, H ++ [.cells k.cells]) := abox_of rfl
  have hl5 : ∀ H, aload true 5 (.vp k.cells) H = some (.agg k.cells) := fun H => by simp [aload, Go.Am.apart, Ke.cells]
  have hv5 : aloadv true 5 (.vp k.cells) = some (.agg k.cells) := by simp [aloadv, Go.Am.apart, Ke.cells]
  simp only [hbox, go_sem, frz_last, hl5, hv5]
  obtain ⟨H1, e1, f1⟩ := extract_spec hlen hk sep (H ++ [.dead])
  obtain ⟨H2, e2⟩ := rextract_spec hlen hk sep H1
  have c : (ex line (fields line sep) k == ex line (fields line sep) k) = true := by simp
  simp only [e1, go_sem, e2, c, awake]
  exact ⟨_, rfl⟩
end Go.Am
namespace Go.Am
open Go.Proofs
set_option linter.unusedSimpArgs false
set_option linter.unusedVariables false

theorem Sl.str {x : AV} {l : List (List UInt8)} (h : Sl 1 x (l.map AV.str)) {i : Nat} {s : List UInt8} (hi : l[i]? = some s) : aindexS 1 x (.int .i64 (i : Int)) = some (.vp [.str s]) := h.idx (c := .str s) (by simp [hi])
theorem Sl.strlen {x : AV} {l : List (List UInt8)} (h : Sl 1 x (l.map AV.str)) (e : Nat) : alenD (.slice e) x = some (.int .i64 l.length) := by
  have := h.len e
  rwa [List.length_map] at this
theorem same_loop {x y : AV} {l m : List (List UInt8)} (hx : Sl 1 x (l.map AV.str)) (hy : Sl 1 y (m.map AV.str)) (hl : l.length = m.length) (hb : l.length ≤ 4611686018427387904) (H0 H : Hp) : ∀ (k i : Nat), l.length - i = k → i ≤ l.length →
    texttoolsref03_SameTexts_L1 x y (.int .i64 (i : Int)) H0 H = some (.bool (l.drop i == m.drop i), H) := by
  intro k
  induction k with
  | zero =>
    intro i hk hi
    rw [texttoolsref03_SameTexts_L1_eq]
    have hlt : decide ((i : Int) < (l.length : Int)) = false := by simp; omega
    have hd : l.drop i = [] := List.drop_eq_nil_iff.2 (by omega)
    have hd2 : m.drop i = [] := List.drop_eq_nil_iff.2 (by omega)
    simp only [go_sem, hx.strlen, hlt, texttoolsref03_SameTexts_J2_eq, hd, hd2]
    rfl
  | succ k ih =>
    intro i hk hi
    rw [texttoolsref03_SameTexts_L1_eq]
    have h1 : i < l.length := by omega
    have h2 : i < m.length := by omega
    have hlt : decide ((i : Int) < (l.length : Int)) = true := by simp; omega
    have hw : IntKind.i64.wrap ((i : Int) + 1) = ((i + 1 : Nat) : Int) := by rw [wrap64 (by omega) (by omega)]; omega
    simp only [go_sem, hx.strlen, hlt, texttoolsref03_SameTexts_J3_eq, hx.str (List.getElem?_eq_getElem h1), hy.str (List.getElem?_eq_getElem h2), aload_vpc]
    rw [List.drop_eq_getElem_cons h1, List.drop_eq_getElem_cons h2]
    cases e : (l[i] == m[i]) with
    | true =>
      simp only [go_sem, Bool.not_true, texttoolsref03_SameTexts_J4_eq, hw]
      rw [ih (i + 1) (by omega) (by omega)]
      have : ((l[i] :: l.drop (i + 1)) == (m[i] :: m.drop (i + 1))) = (l.drop (i + 1) == m.drop (i + 1)) := by
        rw [List.cons_beq_cons, e, Bool.true_and]
      rw [this]
    | false =>
      simp only [go_sem, Bool.not_false]
      have : ((l[i] :: l.drop (i + 1)) == (m[i] :: m.drop (i + 1))) = false := by
        rw [List.cons_beq_cons, e, Bool.false_and]
      rw [this]
theorem same_spec {x y : AV} {l m : List (List UInt8)} (hx : Sl 1 x (l.map AV.str)) (hy : Sl 1 y (m.map AV.str)) (hb : l.length ≤ 4611686018427387904) (H : Hp) :
    C_texttoolsref03_SameTexts [x, y] H = some (.bool (l == m), H) := by
  rw [F_texttoolsref03_SameTexts_eq]
  unfold F_texttoolsref03_SameTexts
  simp only [go_sem, hx.strlen, hy.strlen]
  by_cases hl : l.length = m.length
  · have c : (((l.length : Nat) : Int) != ((m.length : Nat) : Int)) = false := by simp; omega
    simp only [c, go_sem, texttoolsref03_SameTexts_J1_eq]
    have := same_loop hx hy hl hb H H l.length 0 (by omega) (by omega)
    rw [List.drop_zero, List.drop_zero] at this
    exact this
  · have c : (((l.length : Nat) : Int) != ((m.length : Nat) : Int)) = true := by simp; omega
    simp only [c, go_sem]
    have : (l == m) = false := by
      rw [beq_eq_false_iff_ne]
      intro e
      exact hl (by rw [e])
    rw [this]
theorem same_ok {x y : AV} {l m : List (List UInt8)} (hx : Sl 1 x (l.map AV.str)) (hy : Sl 1 y (m.map AV.str)) (hb : l.length ≤ 4611686018427387904) (H : Hp) : flatC C_texttoolsref03_SameTexts [x, y] H = some (.bool (l == m), H) := by
  obtain ⟨x', h1, h2⟩ := hx.close (H := []) (n := 0) (f := 5) (fun c hc => by obtain ⟨s, _, rfl⟩ := List.mem_map.1 hc; rfl)
  obtain ⟨y', h3, h4⟩ := hy.close (H := []) (n := 0) (f := 5) (fun c hc => by obtain ⟨s, _, rfl⟩ := List.mem_map.1 hc; rfl)
  exact flat2 h1 h3 (same_spec h2 h4 hb []) rfl
theorem keysS_len : ∀ l : List Ke, (keysS l).length = 2 * l.length := by
  intro l
  induction l with
  | nil => rfl
  | cons k l ih => simp only [keysS, List.length_cons, ih]; omega
theorem printS_len (p : Spec) : (printS p).length ≤ 100 := by
  unfold printS
  split
  · rename_i h
    obtain ⟨h1, _⟩ := checkS_zero h
    simp only [List.length_append, keysS_len, sepS]
    split <;> split <;> split <;> split <;> simp <;> omega
  · simp
theorem aload_vpl5 (a b c d e : AV) (H : Hp) : aload true 5 (.vp [a, b, c, d, e]) H = some (.agg [a, b, c, d, e]) := by simp [aload, Go.Am.apart]
theorem aloadv_vpl5 (a b c d e : AV) : aloadv true 5 (.vp [a, b, c, d, e]) = some (.agg [a, b, c, d, e]) := by simp [aloadv, Go.Am.apart]
theorem Checks_law {a : AV} {p : Spec} (h : SpecAV a p) (hw : ∀ k ∈ p.keys, KeOk k) (H : Hp) (awake : ∀ H, flatC C_texttoolslaw20_awake [] H = some (.bool true, H)) :
    ∃ H', C_texttoolslaw20_SortkeyChecks [a] H = some (.bool true, H') := by
  rw [F_texttoolslaw20_SortkeyChecks_eq]
  unfold F_texttoolslaw20_SortkeyChecks
  have hc := check_flat h
  have hr := rcheck_flat h
  have hp1 := pr_ok h hw
  have hp2 := rpr_ok h hw
  obtain ⟨x, rfl, hx⟩ := h
  simp only [Spec.cells] at hc hr hp1 hp2 ⊢
  obtain ⟨y1, e1, f1⟩ := hp1 (H ++ [.dead])
  obtain ⟨y2, e2, f2⟩ := hp2 (H ++ [.dead])
  have hb := printS_len p
  have c : (checkS p == checkS p) = true := by simp
  have c2 : (printS p == printS p) = true := by simp
  simp only [go_sem, frz_last, aload_vpl5, aloadv_vpl5, hc, hr, c, e1, e2, same_ok f1 f2 (by omega), c2, awake]
  exact ⟨_, rfl⟩
end Go.Am
namespace Go.Am
open Go.Proofs
theorem under_23 : Tryz.prog.underlying 23 = some (.slice 34) := by kernel_rfl
theorem under_22 : Tryz.prog.underlying 22 = some (.slice 9) := by kernel_rfl
theorem under_4 : Tryz.prog.underlying 4 = some .bool := by kernel_rfl
theorem fields_25 : fieldTypes Tryz.prog 25 = some [23, 3, 3, 4, 4] := by kernel_rfl
theorem agg_25 : aggOf Tryz.prog 25 = true := by kernel_rfl
theorem agg_9 : aggOf Tryz.prog 9 = false := by kernel_rfl
theorem cells_34 : Tryz.prog.cellsOf 34 = 5 := by kernel_rfl
theorem cells_9 : Tryz.prog.cellsOf 9 = 1 := by kernel_rfl
theorem ofCells_one (v : AV) : ofCells false [v] = v := (Eq.refl _).trans (Eq.refl _)
theorem list_of {α : Type} {f : α → AV} {q : α → Prop} : ∀ l : List AV, (∀ x ∈ l, ∃ k, q k ∧ x = f k) → ∃ ks : List α, l = ks.map f ∧ ∀ k ∈ ks, q k := by
  intro l
  induction l with
  | nil => intro _; exact ⟨[], rfl, by simp⟩
  | cons x l ih =>
    intro h
    obtain ⟨k, h1, h2⟩ := h x (by simp)
    obtain ⟨ks, h3, h4⟩ := ih (fun y hy => h y (by simp [hy]))
    exact ⟨k :: ks, by simp [h2, h3], by simpa [h1] using h4⟩
theorem mem_data {l : List AV} {α : Type} {es : List α} (hl : l.length = es.length) {x : AV} (hx : x ∈ l) : ∃ (i : Nat) (d : α), l[i]? = some x ∧ es[i]? = some d := by
  obtain ⟨i, hi⟩ := List.getElem?_of_mem hx
  have : i < es.length := by rw [← hl]; exact lt_of_get hi
  exact ⟨i, es[i], hi, List.getElem?_eq_getElem this⟩
section
variable {H : Type}
theorem keys_tv {n : Nat} {d : DataW H} {vals : List AV} (h : TV Tryz.prog n 23 d vals) : ∃ (x : AV) (ks : List Ke), vals = [x] ∧ Sl 5 x (ks.map Ke.av) ∧ ∀ k ∈ ks, KeOk k := by
  rcases h.slice under_23 with ⟨_, rfl⟩ | ⟨es, sp, l, m, _, rfl, h1, _, h3⟩
  · exact ⟨.nils, [], rfl, .inl ⟨rfl, rfl⟩, by simp⟩
  · obtain ⟨ks, h4, h5⟩ := list_of (f := Ke.av) (q := KeOk) l (fun x hx => by
      obtain ⟨i, d', g1, g2⟩ := mem_data h1 hx
      obtain ⟨cs, e, ht⟩ := h3 i x d' g1 g2
      obtain ⟨k, hk, e2⟩ := key_tv ht
      exact ⟨k, hk, by rw [e, e2, agg_34]; rfl⟩)
    subst h4
    rw [cells_34]
    exact ⟨_, ks, rfl, .inr ⟨_, rfl⟩, h5⟩
theorem AT.slice1 {P : Program} {d : DataW H} {a : AV} {t e : TypeId} (hag : aggOf P t = false) (hu : P.underlying t = some (.slice e)) (h : AT P t d a) :
    a = .nils ∨ ∃ (es : List (DataW H)) (l : List AV) (m : Nat), a = .vs (P.cellsOf e) .no l ∧ l.length = es.length ∧ ∀ (i : Nat) (x : AV) (d' : DataW H), l[i]? = some x → es[i]? = some d' → ∃ cs, x = ofCells (aggOf P e) cs ∧ TV P m e d' cs := by
  obtain ⟨n, vals, ht, rfl⟩ := h
  rw [hag]
  rcases ht.slice hu with ⟨_, rfl⟩ | ⟨es, sp, l, m, _, rfl, h1, _, h3⟩
  · exact .inl (ofCells_one _)
  · exact .inr ⟨es, l, m, ofCells_one _, h1, h3⟩
theorem agg_22 : aggOf Tryz.prog 22 = false := by kernel_rfl
theorem strs_at {d : DataW H} {a : AV} (h : AT Tryz.prog 22 d a) : ∃ l : List (List UInt8), Sl 1 a (l.map AV.str) ∧ ∀ s ∈ l, s.length ≤ maxLen := by
  rcases h.slice1 agg_22 under_22 with e0 | ⟨es, l, m, e0, h1, h3⟩
  · exact ⟨[], .inl ⟨e0, rfl⟩, by simp⟩
  · obtain ⟨ks, h4, h5⟩ := list_of (f := AV.str) (q := fun s => s.length ≤ maxLen) l (fun x hx => by
      obtain ⟨i, d', g1, g2⟩ := mem_data h1 hx
      obtain ⟨cs, e, ht⟩ := h3 i x d' g1 g2
      obtain ⟨s, _, e3, hs⟩ := ht.str under_9
      exact ⟨s, hs, by rw [e, agg_9, e3, ofCells_one]⟩)
    exact ⟨ks, .inr ⟨.no, by rw [e0, h4, cells_9]⟩, h5⟩
theorem spec_of {d : DataW H} {a : AV} (h : AT Tryz.prog 25 d a) : ∃ p : Spec, SpecAV a p ∧ ∀ k ∈ p.keys, KeOk k := by
  obtain ⟨n, cs, ht, e0⟩ := h.agg agg_25
  subst e0
  obtain ⟨ds, parts, m, _, rfl, h1, h2, h3⟩ := ht.fields fields_25
  obtain ⟨a, b, c, d, e, rfl⟩ := five h1
  obtain ⟨a', b', c', d', e', rfl⟩ := five h2
  obtain ⟨x, ks, rfl, hx, hk⟩ := keys_tv (h3 0 23 a a' rfl rfl rfl)
  obtain ⟨y, _, rfl, _⟩ := (h3 1 3 b b' rfl rfl rfl).int under_3
  obtain ⟨z, _, rfl, _⟩ := (h3 2 3 c c' rfl rfl rfl).int under_3
  obtain ⟨u, _, rfl⟩ := (h3 3 4 d d' rfl rfl rfl).bool under_4
  obtain ⟨v, _, rfl⟩ := (h3 4 4 e e' rfl rfl rfl).bool under_4
  exact ⟨⟨ks, y, z, v, u⟩, ⟨x, rfl, hx⟩, hk⟩
end
end Go.Am
namespace Go.Am
open Go.Proofs Go.Proofs.YtijddagljnlfmaaGreatDoor
section
variable {H : Type}
theorem bulk_pos (d : DataW H) : 1 ≤ Rows.uptoBulk d := by
  cases d with
  | lit l => cases l <;> simp [Rows.uptoBulk]
  | _ => simp [Rows.uptoBulk]
theorem bulk_all (es : List (DataW H)) : es.length ≤ Rows.uptoBulkAll es ∧ ∀ d ∈ es, Rows.uptoBulk d ≤ Rows.uptoBulkAll es := by
  induction es with
  | nil => exact ⟨Nat.zero_le _, by simp⟩
  | cons x es ih =>
    have hp := bulk_pos x
    have e : Rows.uptoBulkAll (x :: es) = Rows.uptoBulk x + Rows.uptoBulkAll es := by rw [Rows.uptoBulkAll]
    rw [e]
    refine ⟨by simp only [List.length_cons]; omega, fun d hd => ?_⟩
    rcases List.mem_cons.1 hd with rfl | hd
    · omega
    · have := ih.2 d hd
      omega
theorem AT.slice2 {P : Program} {d : DataW H} {a : AV} {t e : TypeId} (hag : aggOf P t = false) (hu : P.underlying t = some (.slice e)) (h : AT P t d a) :
    a = .nils ∨ ∃ (es sp : List (DataW H)) (l : List AV) (m : Nat), d = .slice es sp ∧ a = .vs (P.cellsOf e) .no l ∧ l.length = es.length ∧ ∀ (i : Nat) (x : AV) (d' : DataW H), l[i]? = some x → es[i]? = some d' → ∃ cs, x = ofCells (aggOf P e) cs ∧ TV P m e d' cs := by
  obtain ⟨n, vals, ht, rfl⟩ := h
  rw [hag]
  rcases ht.slice hu with ⟨_, rfl⟩ | ⟨es, sp, l, m, h0, rfl, h1, _, h3⟩
  · exact .inl (ofCells_one _)
  · exact .inr ⟨es, sp, l, m, h0, ofCells_one _, h1, h3⟩
theorem strs_bulk {d : DataW H} {a : AV} (h : AT Tryz.prog 22 d a) (hk : Rows.uptoBulk d ≤ 1048576) : ∃ l : List (List UInt8), Sl 1 a (l.map AV.str) ∧ l.length ≤ 1048576 ∧ ∀ s ∈ l, s.length ≤ 1048576 := by
  rcases h.slice2 agg_22 under_22 with e0 | ⟨es, sp, l, m, ed, e0, h1, h3⟩
  · exact ⟨[], .inl ⟨e0, rfl⟩, by simp, by simp⟩
  · obtain ⟨b1, b2⟩ := bulk_all es
    rw [ed, Rows.uptoBulk] at hk
    obtain ⟨ks, h4, h5⟩ := list_of (f := AV.str) (q := fun s => s.length ≤ 1048576) l (fun x hx => by
      obtain ⟨i, d', g1, g2⟩ := mem_data h1 hx
      obtain ⟨cs, e, ht⟩ := h3 i x d' g1 g2
      obtain ⟨s, e2, e3, hs⟩ := ht.str under_9
      have := b2 d' (List.mem_of_getElem? g2)
      rw [e2, Rows.uptoBulk] at this
      exact ⟨s, by omega, by rw [e, agg_9, e3, ofCells_one]⟩)
    have hl : ks.length = l.length := by rw [h4, List.length_map]
    exact ⟨ks, .inr ⟨.no, by rw [e0, h4, cells_9]⟩, by omega, h5⟩
end
end Go.Am
