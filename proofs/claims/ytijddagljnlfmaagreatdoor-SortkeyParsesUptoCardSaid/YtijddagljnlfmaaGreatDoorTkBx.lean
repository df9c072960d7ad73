/-
  Specifications of sorts as arguments; their check.
-/
import Derived.Test.YtijddagljnlfmaaGreatDoorTkSx
import Derived.Test.YtijddagljnlfmaaGreatDoorTkGKx
import Derived.Lib.ItoaLen
import Derived.Test.YtijddagljnlfmaaGreatDoorTkYx
import Derived.Test.YtijddagljnlfmaaGreatDoorRows
namespace Go.Am
set_option linter.unusedSimpArgs false
set_option linter.unusedVariables false

/-- A slice that is only looked at. -/
def Sl (k : Nat) (x : AV) (l : List AV) : Prop := x = .nils ∧ l = [] ∨ ∃ tok, x = .vs k tok l
theorem Sl.len {k : Nat} {x : AV} {l : List AV} (h : Sl k x l) (e : Nat) : alenD (.slice e) x = some (.int .i64 l.length) := by
  rcases h with ⟨rfl, rfl⟩ | ⟨tok, rfl⟩ <;> rfl
theorem Sl.idx {k : Nat} {x : AV} {l : List AV} (h : Sl k x l) {i : Nat} {c : AV} (hi : l[i]? = some c) : aindexS k x (.int .i64 (i : Int)) = some (.vp c.cells) := by
  rcases h with ⟨rfl, rfl⟩ | ⟨tok, rfl⟩
  · simp at hi
  · simp [aindexS, hi]
theorem mapM_id {f : AV → Option AV} : ∀ {l : List AV}, (∀ x ∈ l, f x = some x) → l.mapM f = some l := by
  intro l
  induction l with
  | nil => intro _; rfl
  | cons a l ih =>
    intro h
    rw [List.mapM_cons, h a (by simp), ih (fun x hx => h x (by simp [hx]))]
    rfl
theorem closeV_vs (H : Hp) (n f k : Nat) (tok : Tok) (l : List AV) : closeV H n (f + 1) (.vs k tok l) = match l.mapM (closeV H n f) with
      | some l => some (.vs k (match tok with | .own t e => if t < n then .own t e else .no | tok => tok) l)
      | none => none := (Eq.refl _).trans (Eq.refl _)
theorem closeV_aggl (H : Hp) (n f : Nat) (l : List AV) : closeV H n (f + 1) (.agg l) = match l.mapM (closeV H n f) with
      | some l => some (.agg l)
      | none => none := (Eq.refl _).trans (Eq.refl _)
theorem Sl.close {k : Nat} {x : AV} {l : List AV} (h : Sl k x l) {H : Hp} {n f : Nat} (hl : ∀ c ∈ l, closeV H n f c = some c) : ∃ x', closeV H n (f + 1) x = some x' ∧ Sl k x' l := by
  rcases h with ⟨rfl, rfl⟩ | ⟨tok, rfl⟩
  · exact ⟨.nils, rfl, .inl ⟨rfl, rfl⟩⟩
  · have e := closeV_vs H n f k tok l
    rw [mapM_id hl] at e
    exact ⟨_, e, .inr ⟨_, rfl⟩⟩
def Ke.av (k : Ke) : AV := .agg k.cells
theorem Ke.close (k : Ke) (H : Hp) (n f : Nat) : closeV H n (f + 2) k.av = some k.av := by
  have : k.cells.mapM (closeV H n (f + 1)) = some k.cells := mapM_id fun x hx => by
    simp only [Ke.cells, List.mem_cons, List.not_mem_nil, or_false] at hx
    rcases hx with rfl | rfl | rfl | rfl | rfl <;> rfl
  rw [Ke.av, closeV_aggl, this]
structure Spec where
  keys : List Ke
  sep : Int
  flags : Int
  stab : Bool
  uniq : Bool
def Spec.cells (x : AV) (p : Spec) : List AV := [x, .int .i64 p.sep, .int .i64 p.flags, .bool p.uniq, .bool p.stab]
/-- The value is the specification. -/
def SpecAV (a : AV) (p : Spec) : Prop := ∃ x, a = .agg (p.cells x) ∧ Sl 5 x (p.keys.map Ke.av)
theorem SpecAV.close {a : AV} {p : Spec} (h : SpecAV a p) (H : Hp) (n f : Nat) : ∃ a', closeV H n (f + 4) a = some a' ∧ SpecAV a' p := by
  obtain ⟨x, rfl, hx⟩ := h
  obtain ⟨x', h1, h2⟩ := hx.close (H := H) (n := n) (f := f + 2) (fun c hc => by
    obtain ⟨k, _, rfl⟩ := List.mem_map.1 hc
    exact k.close H n f)
  refine ⟨.agg (p.cells x'), ?_, x', rfl, h2⟩
  have : (p.cells x).mapM (closeV H n (f + 3)) = some (p.cells x') := by
    simp only [Spec.cells, List.mapM_cons, h1, List.mapM_nil]
    rfl
  rw [closeV_aggl, this]
theorem flat1 {f : List AV → Hp → Res} {a a' v : AV} {H H1 : Hp} (ha : closeV [] 0 6 a = some a') (hc : f [a'] [] = some (v, H1)) (hv : flatV 3 v = true) : flatC f [a] H = some (v, H) :=
  flatC_of (args' := [a']) (by simp [ha]) hc hv
theorem flat2 {f : List AV → Hp → Res} {a a' b b' v : AV} {H H1 : Hp} (ha : closeV [] 0 6 a = some a') (hb : closeV [] 0 6 b = some b') (hc : f [a', b'] [] = some (v, H1)) (hv : flatV 3 v = true) : flatC f [a, b] H = some (v, H) :=
  flatC_of (args' := [a', b']) (by simp [ha, hb]) hc hv

def keyBad (k : Ke) : Bool := decide (k.ff < 1) || (decide (k.fc < 1) || (decide (k.tf < 0) || (decide (k.tc < 0) || ((k.tf == 0 && k.tc != 0) || (decide (k.fl < 0) || decide (31 < k.fl))))))
def checkS (p : Spec) : Int :=
  if 8 < p.keys.length then 3 else if decide (p.sep < -1) || (decide (255 < p.sep) || (p.sep == 10 || (decide (p.flags < 0) || decide (31 < p.flags)))) then 2 else if p.keys.any keyBad then 2 else 0
theorem aload_vp5 (k : Ke) (H : Hp) : aload true 5 (.vp k.cells) H = some (.agg k.cells) := by simp [aload, Go.Am.apart, Ke.cells]
theorem astore_last5 (H : Hp) (k : Ke) (z : List AV) (hz : z.length = 5) : astoreU 5 (.ptr H.length 0) (.agg k.cells) (H ++ [.cells z]) = some (.tuple [], H ++ [.cells k.cells]) := by
  rw [astore_of (sz := 5) (v := .agg k.cells) (get_last _ _) rfl rfl (by omega)]
  simp [AV.cells, splice, hz, Ke.cells]
theorem aload_lastf (H : Hp) (l : List AV) (off : Nat) : aload false 1 (.ptr H.length off) (H ++ [.cells l]) = l[off]? := aload_f1 (get_last H _)
theorem abox_agg (l : List AV) (H : Hp) : abox (.agg l) H = some (.ptr H.length 0, H ++ [.cells l]) := abox_of rfl
attribute [go_sem] abox_agg aload_lastf
theorem Sl.key {x : AV} {l : List Ke} (h : Sl 5 x (l.map Ke.av)) {i : Nat} {k : Ke} (hi : l[i]? = some k) : aindexS 5 x (.int .i64 (i : Int)) = some (.vp k.cells) := h.idx (c := k.av) (by simp [hi])
end Go.Am
namespace Go.Am
set_option linter.unusedSimpArgs false
set_option linter.unusedVariables false

end Go.Am
namespace Go.Am
open Go.Proofs
set_option linter.unusedSimpArgs false
set_option linter.unusedVariables false

/-! Rows that grow from object n on. -/
def RowN (n : Nat) (H : Hp) (k : Nat) (x : AV) (l : List AV) : Prop := x = .nils ∧ l = [] ∨ ∃ t e, x = .vs k (.own t e) l ∧ H[t]? = some (.tok e) ∧ n ≤ t
def Keep (n : Nat) (H H' : Hp) : Prop := ∀ i, i < n → H'[i]? = H[i]?
theorem Keep.refl (n : Nat) (H : Hp) : Keep n H H := fun _ _ => rfl
theorem Keep.trans {n : Nat} {A B C : Hp} (h : Keep n A B) (k : Keep n B C) : Keep n A C := fun i hi => (k i hi).trans (h i hi)
theorem Keep.push {n : Nat} (H : Hp) (hn : n ≤ H.length) (l : List AObj) : Keep n H (H ++ l) := fun i hi => List.getElem?_append_left (by omega)
theorem RowN.row {n : Nat} {H : Hp} {k : Nat} {x : AV} {l : List AV} (h : RowN n H k x l) : Row H k x l := h.imp id fun ⟨t, e, a, b, _⟩ => ⟨t, e, a, b⟩
theorem RowN.nil (n : Nat) (H : Hp) (k : Nat) : RowN n H k .nils [] := .inl ⟨rfl, rfl⟩
theorem RowN.sl {n : Nat} {H : Hp} {k : Nat} {x : AV} {l : List AV} (h : RowN n H k x l) : Sl k x l := h.imp id fun ⟨t, e, a, _⟩ => ⟨_, a⟩
theorem RowN.push {n : Nat} {H : Hp} {k : Nat} {x : AV} {l : List AV} (h : RowN n H k x l) (r : List AObj) : RowN n (H ++ r) k x l := h.imp id fun ⟨t, e, a, b, c⟩ => ⟨t, e, a, get_push b _, c⟩
theorem RowN.app {n : Nat} {H : Hp} {k : Nat} {x : AV} {l : List AV} (h : RowN n H k x l) (hn : n ≤ H.length) (bytes : Nat) (y : AV) (ys : List AV) (hy : elems k y H = some ys) (hf : (l.length + ys.length) * (bytes + 1) ≤ 140737488355328) :
    ∃ x' H', aappE k bytes x y H = some (x', H') ∧ RowN n H' k x' (l ++ ys) ∧ n ≤ H'.length ∧ Keep n H H' ∧ (∀ (i : Nat) (c : List AV), H[i]? = some (.cells c) → H'[i]? = some (.cells c)) := by
  unfold aappE
  simp only [hy]
  rcases h with ⟨rfl, rfl⟩ | ⟨t, e, rfl, ht, hnt⟩
  · by_cases hys : ys = []
    · subst hys
      exact ⟨.nils, H, by simp [aappend], .inl ⟨rfl, rfl⟩, hn, Keep.refl _ _, fun _ _ h => h⟩
    · have hfit : fits ys.length bytes = true := by simpa [fits] using hf
      exact ⟨.vs k (.own H.length ys.length) ys, H ++ [.tok ys.length], by simp only [aappend, hys, if_false, hfit, if_true], .inr ⟨H.length, ys.length, rfl, by simp, hn⟩, by simp; omega, Keep.push H hn _, fun i c h => get_push h _⟩
  · have hfit : fits (l.length + ys.length) bytes = true := by simpa [fits] using hf
    by_cases hys : ys = []
    · subst hys
      exact ⟨.vs k (.own t e) l, H, by simp only [aappend, List.length_nil, Nat.add_zero] at hfit ⊢; simp only [hfit, and_self, if_true], .inr ⟨t, e, by simp, ht, hnt⟩, hn, Keep.refl _ _, fun _ _ h => h⟩
    · refine ⟨_, _, by simp only [aappend, hfit, and_self, if_true, hys, if_false, ht], .inr ⟨t, e + ys.length, rfl, get_set_eq _ ht, hnt⟩, by simp; omega, fun i hi => List.getElem?_set_ne (by omega), fun i c h => ?_⟩
      refine get_set_ne _ (fun he => ?_) h
      subst he
      rw [ht] at h
      cases h
/-! Flags. -/
theorem all_range {n : Nat} {p : Nat → Bool} (h : (List.range n).all p = true) {i : Nat} (hi : i < n) : p i = true := List.all_eq_true.1 h i (List.mem_range.2 hi)
noncomputable def chkHas (n j : Nat) : Bool := match F_texttoolsref20_Has (.int .i64 n) (.int .i64 ((2 ^ j : Nat) : Int)) [] with
  | some (.bool b, []) => b == n.testBit j
  | _ => false
theorem chkHas_all : ((List.range 32).all fun n => (List.range 5).all fun j => chkHas n j) = true := by kernel_rfl
theorem has_ok {n j : Nat} (hn : n < 32) (hj : j < 5) (H : Hp) : flatC C_texttoolsref20_Has [.int .i64 n, .int .i64 ((2 ^ j : Nat) : Int)] H = some (.bool (n.testBit j), H) := by
  have h := all_range (all_range chkHas_all hn) hj
  unfold chkHas at h
  split at h
  · rename_i b hb
    have : b = n.testBit j := by simpa using h
    subst this
    exact flat2 (a' := .int .i64 n) (b' := .int .i64 ((2 ^ j : Nat) : Int)) rfl rfl ((F_texttoolsref20_Has_eq _ _ _).trans hb) rfl
  · cases h
/-! Numbers. -/
theorem quo10 (a : Int) : ibin .quo (.int .i64 a) (.int .i64 10) = some (.int .i64 (IntKind.i64.wrap (a.tdiv 10))) := by simp [ibin, ashift, intbin]
end Go.Am
namespace Go.Am
open Go.Proofs
set_option linter.unusedSimpArgs false
set_option linter.unusedVariables false

theorem set1 (v : List UInt8) : (setElems 1 [(0, .str v)] [.str []]).map (AV.vs 1 .clip) = some (.vs 1 .clip [.str v]) := by
  simp [setElems, AV.known, AV.cells]
theorem set2 (v w : List UInt8) : (setElems 1 [(0, .str v), (1, .str w)] [.str [], .str []]).map (AV.vs 1 .clip) = some (.vs 1 .clip [.str v, .str w]) := by
  simp [setElems, AV.known, AV.cells]
theorem aload_last5 (H : Hp) (a b c d e : AV) : aload true 5 (.ptr H.length 0) (H ++ [.cells [a, b, c, d, e]]) = some (.agg [a, b, c, d, e]) := by
  rw [aload_of (get_last _ _)]
  simp [Go.Am.apart]
end Go.Am
namespace Go.Am
set_option linter.unusedSimpArgs false
set_option linter.unusedVariables false

theorem aload_vpc (a : AV) (l : List AV) (H : Hp) : aload false 1 (.vp (a :: l)) H = some a := (Eq.refl _).trans (Eq.refl _)
theorem aloadv_vpc (a : AV) (l : List AV) : aloadv false 1 (.vp (a :: l)) = some a := (Eq.refl _).trans (Eq.refl _)
end Go.Am
namespace Go.Am
open Go.Proofs
set_option linter.unusedSimpArgs false
set_option linter.unusedVariables false

theorem Sl.str {x : AV} {l : List (List UInt8)} (h : Sl 1 x (l.map AV.str)) {i : Nat} {s : List UInt8} (hi : l[i]? = some s) : aindexS 1 x (.int .i64 (i : Int)) = some (.vp [.str s]) := h.idx (c := .str s) (by simp [hi])
theorem Sl.strlen {x : AV} {l : List (List UInt8)} (h : Sl 1 x (l.map AV.str)) (e : Nat) : alenD (.slice e) x = some (.int .i64 l.length) := by
  have := h.len e
  rwa [List.length_map] at this
theorem same_loop {x y : AV} {l m : List (List UInt8)} (hx : Sl 1 x (l.map AV.str)) (hy : Sl 1 y (m.map AV.str)) (hl : l.length = m.length) (hb : l.length ≤ 4611686018427387904) (H0 H : Hp) : ∀ (k i : Nat), l.length - i = k → i ≤ l.length →
    texttoolsref03_SameTexts_L1 x y (.int .i64 (i : Int)) H0 H = some (.bool (l.drop i == m.drop i), H) := by
  intro k
  induction k with
  | zero =>
    intro i hk hi
    rw [texttoolsref03_SameTexts_L1_eq]
    have hlt : decide ((i : Int) < (l.length : Int)) = false := by simp; omega
    have hd : l.drop i = [] := List.drop_eq_nil_iff.2 (by omega)
    have hd2 : m.drop i = [] := List.drop_eq_nil_iff.2 (by omega)
    simp only [go_sem, hx.strlen, hlt, texttoolsref03_SameTexts_J2_eq, hd, hd2]
    rfl
  | succ k ih =>
    intro i hk hi
    rw [texttoolsref03_SameTexts_L1_eq]
    have h1 : i < l.length := by omega
    have h2 : i < m.length := by omega
    have hlt : decide ((i : Int) < (l.length : Int)) = true := by simp; omega
    have hw : IntKind.i64.wrap ((i : Int) + 1) = ((i + 1 : Nat) : Int) := by rw [wrap64 (by omega) (by omega)]; omega
    simp only [go_sem, hx.strlen, hlt, texttoolsref03_SameTexts_J3_eq, hx.str (List.getElem?_eq_getElem h1), hy.str (List.getElem?_eq_getElem h2), aload_vpc]
    rw [List.drop_eq_getElem_cons h1, List.drop_eq_getElem_cons h2]
    cases e : (l[i] == m[i]) with
    | true =>
      simp only [go_sem, Bool.not_true, texttoolsref03_SameTexts_J4_eq, hw]
      rw [ih (i + 1) (by omega) (by omega)]
      have : ((l[i] :: l.drop (i + 1)) == (m[i] :: m.drop (i + 1))) = (l.drop (i + 1) == m.drop (i + 1)) := by
        rw [List.cons_beq_cons, e, Bool.true_and]
      rw [this]
    | false =>
      simp only [go_sem, Bool.not_false]
      have : ((l[i] :: l.drop (i + 1)) == (m[i] :: m.drop (i + 1))) = false := by
        rw [List.cons_beq_cons, e, Bool.false_and]
      rw [this]
theorem same_spec {x y : AV} {l m : List (List UInt8)} (hx : Sl 1 x (l.map AV.str)) (hy : Sl 1 y (m.map AV.str)) (hb : l.length ≤ 4611686018427387904) (H : Hp) :
    C_texttoolsref03_SameTexts [x, y] H = some (.bool (l == m), H) := by
  rw [F_texttoolsref03_SameTexts_eq]
  unfold F_texttoolsref03_SameTexts
  simp only [go_sem, hx.strlen, hy.strlen]
  by_cases hl : l.length = m.length
  · have c : (((l.length : Nat) : Int) != ((m.length : Nat) : Int)) = false := by simp; omega
    simp only [c, go_sem, texttoolsref03_SameTexts_J1_eq]
    have := same_loop hx hy hl hb H H l.length 0 (by omega) (by omega)
    rw [List.drop_zero, List.drop_zero] at this
    exact this
  · have c : (((l.length : Nat) : Int) != ((m.length : Nat) : Int)) = true := by simp; omega
    simp only [c, go_sem]
    have : (l == m) = false := by
      rw [beq_eq_false_iff_ne]
      intro e
      exact hl (by rw [e])
    rw [this]
theorem same_ok {x y : AV} {l m : List (List UInt8)} (hx : Sl 1 x (l.map AV.str)) (hy : Sl 1 y (m.map AV.str)) (hb : l.length ≤ 4611686018427387904) (H : Hp) : flatC C_texttoolsref03_SameTexts [x, y] H = some (.bool (l == m), H) := by
  obtain ⟨x', h1, h2⟩ := hx.close (H := []) (n := 0) (f := 5) (fun c hc => by obtain ⟨s, _, rfl⟩ := List.mem_map.1 hc; rfl)
  obtain ⟨y', h3, h4⟩ := hy.close (H := []) (n := 0) (f := 5) (fun c hc => by obtain ⟨s, _, rfl⟩ := List.mem_map.1 hc; rfl)
  exact flat2 h1 h3 (same_spec h2 h4 hb []) rfl
end Go.Am
namespace Go.Am
open Go.Proofs
theorem under_22 : Tryz.prog.underlying 22 = some (.slice 9) := by kernel_rfl
theorem agg_9 : aggOf Tryz.prog 9 = false := by kernel_rfl
theorem cells_9 : Tryz.prog.cellsOf 9 = 1 := by kernel_rfl
theorem ofCells_one (v : AV) : ofCells false [v] = v := (Eq.refl _).trans (Eq.refl _)
theorem list_of {α : Type} {f : α → AV} {q : α → Prop} : ∀ l : List AV, (∀ x ∈ l, ∃ k, q k ∧ x = f k) → ∃ ks : List α, l = ks.map f ∧ ∀ k ∈ ks, q k := by
  intro l
  induction l with
  | nil => intro _; exact ⟨[], rfl, by simp⟩
  | cons x l ih =>
    intro h
    obtain ⟨k, h1, h2⟩ := h x (by simp)
    obtain ⟨ks, h3, h4⟩ := ih (fun y hy => h y (by simp [hy]))
    exact ⟨k :: ks, by simp [h2, h3], by simpa [h1] using h4⟩
theorem mem_data {l : List AV} {α : Type} {es : List α} (hl : l.length = es.length) {x : AV} (hx : x ∈ l) : ∃ (i : Nat) (d : α), l[i]? = some x ∧ es[i]? = some d := by
  obtain ⟨i, hi⟩ := List.getElem?_of_mem hx
  have : i < es.length := by rw [← hl]; exact lt_of_get hi
  exact ⟨i, es[i], hi, List.getElem?_eq_getElem this⟩
section
variable {H : Type}
theorem agg_22 : aggOf Tryz.prog 22 = false := by kernel_rfl
end
end Go.Am
namespace Go.Am
open Go.Proofs Go.Proofs.YtijddagljnlfmaaGreatDoor
section
variable {H : Type}
theorem bulk_pos (d : DataW H) : 1 ≤ Rows.uptoBulk d := by
  cases d with
  | lit l => cases l <;> simp [Rows.uptoBulk]
  | _ => simp [Rows.uptoBulk]
theorem bulk_all (es : List (DataW H)) : es.length ≤ Rows.uptoBulkAll es ∧ ∀ d ∈ es, Rows.uptoBulk d ≤ Rows.uptoBulkAll es := by
  induction es with
  | nil => exact ⟨Nat.zero_le _, by simp⟩
  | cons x es ih =>
    have hp := bulk_pos x
    have e : Rows.uptoBulkAll (x :: es) = Rows.uptoBulk x + Rows.uptoBulkAll es := by rw [Rows.uptoBulkAll]
    rw [e]
    refine ⟨by simp only [List.length_cons]; omega, fun d hd => ?_⟩
    rcases List.mem_cons.1 hd with rfl | hd
    · omega
    · have := ih.2 d hd
      omega
theorem AT.slice2 {P : Program} {d : DataW H} {a : AV} {t e : TypeId} (hag : aggOf P t = false) (hu : P.underlying t = some (.slice e)) (h : AT P t d a) :
    a = .nils ∨ ∃ (es sp : List (DataW H)) (l : List AV) (m : Nat), d = .slice es sp ∧ a = .vs (P.cellsOf e) .no l ∧ l.length = es.length ∧ ∀ (i : Nat) (x : AV) (d' : DataW H), l[i]? = some x → es[i]? = some d' → ∃ cs, x = ofCells (aggOf P e) cs ∧ TV P m e d' cs := by
  obtain ⟨n, vals, ht, rfl⟩ := h
  rw [hag]
  rcases ht.slice hu with ⟨_, rfl⟩ | ⟨es, sp, l, m, h0, rfl, h1, _, h3⟩
  · exact .inl (ofCells_one _)
  · exact .inr ⟨es, sp, l, m, h0, ofCells_one _, h1, h3⟩
theorem strs_bulk {d : DataW H} {a : AV} (h : AT Tryz.prog 22 d a) (hk : Rows.uptoBulk d ≤ 1048576) : ∃ l : List (List UInt8), Sl 1 a (l.map AV.str) ∧ l.length ≤ 1048576 ∧ ∀ s ∈ l, s.length ≤ 1048576 := by
  rcases h.slice2 agg_22 under_22 with e0 | ⟨es, sp, l, m, ed, e0, h1, h3⟩
  · exact ⟨[], .inl ⟨e0, rfl⟩, by simp, by simp⟩
  · obtain ⟨b1, b2⟩ := bulk_all es
    rw [ed, Rows.uptoBulk] at hk
    obtain ⟨ks, h4, h5⟩ := list_of (f := AV.str) (q := fun s => s.length ≤ 1048576) l (fun x hx => by
      obtain ⟨i, d', g1, g2⟩ := mem_data h1 hx
      obtain ⟨cs, e, ht⟩ := h3 i x d' g1 g2
      obtain ⟨s, e2, e3, hs⟩ := ht.str under_9
      have := b2 d' (List.mem_of_getElem? g2)
      rw [e2, Rows.uptoBulk] at this
      exact ⟨s, by omega, by rw [e, agg_9, e3, ofCells_one]⟩)
    have hl : ks.length = l.length := by rw [h4, List.length_map]
    exact ⟨ks, .inr ⟨.no, by rw [e0, h4, cells_9]⟩, by omega, h5⟩
end
end Go.Am
