/-
  The arguments of the statements about orders of lines.
-/
import Derived.Test.YtomfadecfjephaaDoorWkNx
import Derived.Test.YtomfadecfjephaaDoorEmXx
import Derived.Test.YtomfadecfjephaaDoorRows
namespace Go.Am
open Go.Proofs Go.Proofs.YtomfadecfjephaaDoor
set_option linter.unusedVariables false
theorem laidOut : laidOutB Tryd.prog = true := by kernel_rfl
theorem own : ownKnob Tryd.prog.godebug = none := by kernel_rfl
def argTypes : List Nat := [3, 4, 9, 22, 23, 24, 26, 27, 29, 30, 42, 49, 90, 124, 125, 127, 129]
theorem argTypes_ok : argTypes.all (plainIn Tryd.prog argTypes) = true := by kernel_rfl
theorem under_4 : Tryd.prog.underlying 4 = some .bool := by kernel_rfl
theorem under_9 : Tryd.prog.underlying 9 = some .string := by kernel_rfl
theorem under_30 : Tryd.prog.underlying 30 = some (.slice 9) := by kernel_rfl
theorem agg_9 : aggOf Tryd.prog 9 = false := by kernel_rfl
theorem agg_30 : aggOf Tryd.prog 30 = false := by kernel_rfl
theorem cells_9 : Tryd.prog.cellsOf 9 = 1 := by kernel_rfl
theorem ofCells_one (v : AV) : ofCells false [v] = v := (Eq.refl _).trans (Eq.refl _)
theorem list_of {α : Type} {f : α → AV} {q : α → Prop} : ∀ l : List AV, (∀ x ∈ l, ∃ k, q k ∧ x = f k) → ∃ ks : List α, l = ks.map f ∧ ∀ k ∈ ks, q k := by
  intro l
  induction l with
  | nil => intro _; exact ⟨[], rfl, by simp⟩
  | cons x l ih =>
    intro h
    obtain ⟨k, h1, h2⟩ := h x (by simp)
    obtain ⟨ks, h3, h4⟩ := ih (fun y hy => h y (by simp [hy]))
    exact ⟨k :: ks, by simp [h2, h3], by simpa [h1] using h4⟩
theorem mem_data {l : List AV} {α : Type} {es : List α} (hl : l.length = es.length) {x : AV} (hx : x ∈ l) : ∃ (i : Nat) (d : α), l[i]? = some x ∧ es[i]? = some d := by
  obtain ⟨i, hi⟩ := List.getElem?_of_mem hx
  have : i < es.length := by rw [← hl]; exact lt_of_get hi
  exact ⟨i, es[i], hi, List.getElem?_eq_getElem this⟩
section
variable {H : Type}
theorem bulk_pos (d : DataW H) : 1 ≤ Rows.uptoBulk d := by
  cases d with
  | lit l => cases l <;> simp [Rows.uptoBulk]
  | _ => simp [Rows.uptoBulk]
theorem bulk_all (es : List (DataW H)) : es.length ≤ Rows.uptoBulkAll es ∧ ∀ d ∈ es, Rows.uptoBulk d ≤ Rows.uptoBulkAll es := by
  induction es with
  | nil => exact ⟨Nat.zero_le _, by simp⟩
  | cons x es ih =>
    have hp := bulk_pos x
    have e : Rows.uptoBulkAll (x :: es) = Rows.uptoBulk x + Rows.uptoBulkAll es := by rw [Rows.uptoBulkAll]
    rw [e]
    refine ⟨by simp only [List.length_cons]; omega, fun d hd => ?_⟩
    rcases List.mem_cons.1 hd with rfl | hd
    · omega
    · have := ih.2 d hd
      omega
abbrev Small (d : DataW H) : Prop := Rows.uptoBulk d ≤ 1048576
theorem small_slice {es sp : List (DataW H)} (h : Small (.slice es sp)) : (∀ d ∈ es, Small d) ∧ es.length ≤ 1048576 := by
  unfold Small at h ⊢
  rw [Rows.uptoBulk] at h
  obtain ⟨h1, h2⟩ := bulk_all es
  exact ⟨fun d hd => by have := h2 d hd; omega, by omega⟩
theorem small_str {s : List UInt8} (h : Small (.lit (.string s) : DataW H)) : s.length ≤ 1048576 := by
  unfold Small at h
  rw [Rows.uptoBulk] at h
  omega
theorem list_tv {α : Type} {f : α → AV} {q : α → Prop} {t e k : Nat} (hu : Tryd.prog.underlying t = some (.slice e)) (hc : Tryd.prog.cellsOf e = k)
    (hf : ∀ (m : Nat) (d' : DataW H) (cs : List AV), TV Tryd.prog m e d' cs → Small d' → ∃ y, q y ∧ ofCells (aggOf Tryd.prog e) cs = f y) {n : Nat} {d : DataW H} {vals : List AV} (h : TV Tryd.prog n t d vals) (hb : Small d) :
    ∃ (x : AV) (ks : List α), vals = [x] ∧ Sl k x (ks.map f) ∧ (∀ y ∈ ks, q y) ∧ ks.length ≤ 1048576 := by
  rcases h.slice hu with ⟨_, rfl⟩ | ⟨es, sp, l, m, rfl, rfl, h1, _, h3⟩
  · exact ⟨.nils, [], rfl, .inl ⟨rfl, rfl⟩, by simp, by simp⟩
  · obtain ⟨b1, b2⟩ := small_slice hb
    obtain ⟨ks, h4, h5⟩ := list_of (f := f) (q := q) l (fun x hx => by
      obtain ⟨i, d', g1, g2⟩ := mem_data h1 hx
      obtain ⟨cs, e, ht⟩ := h3 i x d' g1 g2
      obtain ⟨y, hy, e2⟩ := hf m d' cs ht (b1 _ (List.mem_of_getElem? g2))
      exact ⟨y, hy, by rw [e, e2]⟩)
    subst h4
    rw [hc]
    rw [List.length_map] at h1
    exact ⟨_, ks, rfl, .inr ⟨_, rfl⟩, h5, by omega⟩
end
end Go.Am
namespace Go.Am
set_option linter.unusedSimpArgs false
set_option linter.unusedVariables false

structure Cm {α : Type} (f : α → α → Int) : Prop where
  one : ∀ a b, f a b = -1 ∨ f a b = 0 ∨ f a b = 1
  sym : ∀ a b, f b a = -f a b
  tr : ∀ a b c, f a b ≤ 0 → f b c ≤ 0 → f a c ≤ 0 ∧ (f a c < 0 ↔ f a b < 0 ∨ f b c < 0)
theorem Cm.of {α : Type} {f g : α → α → Int} (h : Cm f) (e : ∀ a b, g a b = f a b) : Cm g := by
  have : g = f := funext fun a => funext fun b => e a b
  rw [this]; exact h
theorem Cm.comap {α β : Type} {f : β → β → Int} (h : Cm f) (g : α → β) : Cm fun a b => f (g a) (g b) :=
  ⟨fun a b => h.one _ _, fun a b => h.sym _ _, fun a b c => h.tr _ _ _⟩
theorem Cm.tr2 {α : Type} {f : α → α → Int} (h : Cm f) (a b c : α) (h1 : 0 ≤ f a b) (h2 : 0 ≤ f b c) : 0 ≤ f a c ∧ (0 < f a c ↔ 0 < f a b ∨ 0 < f b c) := by
  have e1 := h.sym a b
  have e2 := h.sym b c
  have e3 := h.sym a c
  have := h.tr c b a (by omega) (by omega)
  omega
theorem Cm.self {α : Type} {f : α → α → Int} (h : Cm f) (a : α) : f a a = 0 := by
  have := h.sym a a
  omega
theorem Cm.neg {α : Type} {f : α → α → Int} (h : Cm f) : Cm fun a b => -f a b := by
  refine ⟨fun a b => ?_, fun a b => ?_, fun a b c h1 h2 => ?_⟩
  · have := h.one a b
    show -f a b = _ ∨ -f a b = _ ∨ -f a b = _
    omega
  · have := h.sym a b
    show -f b a = - -f a b
    omega
  · have := h.tr2 a b c (by omega) (by omega)
    show -f a c ≤ 0 ∧ (-f a c < 0 ↔ -f a b < 0 ∨ -f b c < 0)
    omega
theorem Cm.lex {α : Type} {f g : α → α → Int} (h : Cm f) (k : Cm g) : Cm fun a b => if (f a b != 0) = true then f a b else g a b := by
  have e : ∀ a b, (if (f a b != 0) = true then f a b else g a b) = if f a b = 0 then g a b else f a b := fun a b => by
    by_cases h0 : f a b = 0 <;> simp [h0]
  refine Cm.of (f := fun a b => if f a b = 0 then g a b else f a b) ⟨fun a b => ?_, fun a b => ?_, fun a b c => ?_⟩ e
  · show (if f a b = 0 then g a b else f a b) = -1 ∨ _ ∨ _
    have h1 := h.one a b
    have h2 := k.one a b
    split <;> assumption
  · show (if f b a = 0 then g b a else f b a) = -(if f a b = 0 then g a b else f a b)
    have h1 := h.sym a b
    have h2 := k.sym a b
    split <;> split <;> omega
  · show (if f a b = 0 then g a b else f a b) ≤ 0 → (if f b c = 0 then g b c else f b c) ≤ 0 → (if f a c = 0 then g a c else f a c) ≤ 0 ∧ ((if f a c = 0 then g a c else f a c) < 0 ↔ (if f a b = 0 then g a b else f a b) < 0 ∨ (if f b c = 0 then g b c else f b c) < 0)
    have h1 := h.tr a b c
    have h2 := k.tr a b c
    intro q1 q2
    by_cases z1 : f a b = 0 <;> by_cases z2 : f b c = 0 <;> by_cases z3 : f a c = 0 <;> simp only [z1, z2, z3, if_true, if_false] at q1 q2 ⊢ <;> omega
theorem sgnS_cm : Cm sgnS := by
  refine ⟨sgnS_one, fun a b => ?_, fun a b c => ?_⟩
  · unfold sgnS
    split <;> split <;> (try split) <;> (try split) <;> omega
  · unfold sgnS
    intro h1 h2
    by_cases c1 : a < b <;> by_cases c2 : b < a <;> by_cases c3 : b < c <;> by_cases c4 : c < b <;> by_cases c5 : a < c <;> by_cases c6 : c < a <;> simp only [c1, c2, c3, c4, c5, c6, if_true, if_false] at h1 h2 ⊢ <;> omega
theorem ordS_cm : Cm ordS := by
  refine ⟨ordS_one, ?_, ?_⟩
  · intro a
    induction a with
    | nil => intro b; cases b <;> simp [ordS]
    | cons x a ih =>
      intro b
      cases b with
      | nil => simp [ordS]
      | cons y b =>
        rw [ordS_cons, ordS_cons]
        have := ih b
        split <;> split <;> (try split) <;> (try split) <;> omega
  · intro a
    induction a with
    | nil => intro b c; cases b <;> cases c <;> simp [ordS]
    | cons x a ih =>
      intro b c
      cases b with
      | nil => cases c <;> simp [ordS]
      | cons y b =>
        cases c with
        | nil => simp [ordS]
        | cons z c =>
          rw [ordS_cons, ordS_cons, ordS_cons]
          have := ih b c
          intro h1 h2
          by_cases c1 : x < y <;> by_cases c2 : y < x <;> by_cases c3 : y < z <;> by_cases c4 : z < y <;> by_cases c5 : x < z <;> by_cases c6 : z < x <;> simp only [c1, c2, c3, c4, c5, c6, if_true, if_false] at h1 h2 ⊢ <;> omega
theorem cmpB_cm : Cm cmpB := (ordS_cm.comap natS).of fun a b => (cmpB_ord a b).symm
theorem cmpB_zero : ∀ a b : List UInt8, cmpB a b = 0 → a = b := by
  intro a
  induction a with
  | nil => intro b h; cases b <;> simp_all [cmpB]
  | cons x a ih =>
    intro b h
    cases b with
    | nil => simp [cmpB] at h
    | cons y b =>
      rw [cmpB] at h
      split at h
      · rename_i e
        rw [e, ih b h]
      · split at h <;> omega
theorem cmpS_cm (L : Loc) : Cm (cmpS L) := (ordS_cm.comap (wS (validL L))).lex cmpB_cm
theorem partsC_cm (L : Loc) (n : Nat) : Cm (partsC L n) := by
  cases hb : n.testBit 0 with
  | true => exact (sgnS_cm.comap preS).of fun a b => by simp [partsC, hb]
  | false => exact ((cmpS_cm L).comap (shapeS L n)).of fun a b => by simp [partsC, hb]
theorem partsS_cm (L : Loc) (n : Nat) : Cm (partsS L n) := by
  cases hb : n.testBit 1 with
  | true => exact (partsC_cm L n).neg.of fun a b => by simp [partsS, hb]
  | false => exact (partsC_cm L n).of fun a b => by simp [partsS, hb]
theorem cmpK_cm (L : Loc) (p : Spec) : ∀ l : List Ke, Cm fun a b => cmpK L p a b l := by
  intro l
  induction l with
  | nil => exact ⟨fun _ _ => .inr (.inl rfl), fun _ _ => rfl, fun _ _ _ _ _ => ⟨Int.le_refl _, by simp [cmpK]⟩⟩
  | cons k l ih => exact (((partsS_cm L (flg p k)).comap fun a => ex a (fields a p.sep) k).lex ih).of fun a b => cmpK_cons L p a b k l
theorem lineV_cm (L : Loc) (p : Spec) : Cm (lineV L p) := by
  cases hb : (p.keys.length == 0) with
  | true => exact (partsS_cm L p.flags.toNat).of fun a b => by simp only [lineV, hb, if_true]
  | false => exact (cmpK_cm L p p.keys).of fun a b => by simp only [lineV, hb, Bool.false_eq_true, if_false]
theorem lineS_cm (L : Loc) (p : Spec) : Cm (lineS L p) := lineV_cm L (validP p)
theorem checkS_valid (p : Spec) : checkS (validP p) = 0 := by
  unfold validP
  cases hb : (checkS p != 0) with
  | true => rfl
  | false => simpa using hb
theorem validP_idem (p : Spec) : validP (validP p) = validP p := by
  show (if (checkS (validP p) != 0) = true then plainP else validP p) = validP p
  rw [checkS_valid]
  rfl
theorem lineS_valid (L : Loc) (p : Spec) (a b : List UInt8) : lineS L (validP p) a b = lineS L p a b := by unfold lineS; rw [validP_idem]
def lastS (L : Loc) (p : Spec) (a b : List UInt8) : Int := if (validP p).flags.toNat.testBit 1 then -cmpS L a b else cmpS L a b
theorem lastS_cm (L : Loc) (p : Spec) : Cm (lastS L p) := by
  cases hb : (validP p).flags.toNat.testBit 1 with
  | true => exact (cmpS_cm L).neg.of fun a b => by simp [lastS, hb]
  | false => exact (cmpS_cm L).of fun a b => by simp [lastS, hb]
theorem orderS_sure {L : Loc} {p : Spec} (h : ((validP p).stab || (validP p).uniq) = true) (a b : List UInt8) : orderS L p a b = lineS L p a b := by
  unfold orderS
  rw [lineS_valid, Bool.or_assoc, h, Bool.or_true, if_pos rfl]
theorem orderS_last {L : Loc} {p : Spec} (h : ((validP p).stab || (validP p).uniq) = false) (a b : List UInt8) : orderS L p a b = if (lineS L p a b != 0) = true then lineS L p a b else lastS L p a b := by
  unfold orderS lastS
  rw [lineS_valid, Bool.or_assoc, h, Bool.or_false]
theorem orderS_cm (L : Loc) (p : Spec) : Cm (orderS L p) := by
  cases hb : ((validP p).stab || (validP p).uniq) with
  | true => exact (lineS_cm L p).of (orderS_sure hb)
  | false => exact ((lineS_cm L p).lex (lastS_cm L p)).of (orderS_last hb)
end Go.Am
namespace Go.Am
set_option linter.unusedSimpArgs false
set_option linter.unusedVariables false
set_option linter.unusedSectionVars false

section
variable {α : Type} {f : α → α → Int}
def Srt (f : α → α → Int) (l : List α) : Prop := l.Pairwise fun a b => f a b ≤ 0
def eqv (f : α → α → Int) (x y : α) : Bool := f x y == 0
def mergeL (f : α → α → Int) : List α → List α → List α
  | [], b => b
  | a :: l, [] => a :: l
  | a :: l, b :: m => if 0 < f a b then b :: mergeL f (a :: l) m else a :: mergeL f l (b :: m)
termination_by a b => a.length + b.length
theorem mergeL_nil (b : List α) : mergeL f [] b = b := by rw [mergeL]
theorem mergeL_nil2 (a : List α) : mergeL f a [] = a := by cases a <;> rw [mergeL]
theorem mergeL_cons (a b : α) (l m : List α) : mergeL f (a :: l) (b :: m) = if 0 < f a b then b :: mergeL f (a :: l) m else a :: mergeL f l (b :: m) := by rw [mergeL]
def msortN (f : α → α → Int) : Nat → List α → List α
  | 0, l => l
  | n + 1, l => if l.length < 2 then l else mergeL f (msortN f n (l.take (l.length / 2))) (msortN f n (l.drop (l.length / 2)))
def posB (f : α → α → Int) (S : List α) (y : α) : Nat → Nat
  | 0 => 0
  | k + 1 => match S[k]? with
    | some s => if 0 < f s y then posB f S y k else k + 1
    | none => posB f S y k
def insB (f : α → α → Int) (S : List α) (y : α) : List α := S.take (posB f S y S.length) ++ y :: S.drop (posB f S y S.length)
def insL (f : α → α → Int) (l : List α) : List α := l.foldl (insB f) []
def sameLast (g : α → α → Int) (out : List α) (x : α) : Bool := match out.getLast? with
  | some y => g y x == 0
  | none => false
def onceL (g : α → α → Int) : List α → List α → List α
  | out, [] => out
  | out, x :: l => onceL g (if sameLast g out x = true then out else out ++ [x]) l
variable (h : Cm f)
include h
theorem Cm.eqv_iff (x y : α) : eqv f x y = true ↔ f x y = 0 := by unfold eqv; rw [beq_iff_eq]
theorem Cm.le_trans {a b c : α} (h1 : f a b ≤ 0) (h2 : f b c ≤ 0) : f a c ≤ 0 := (h.tr a b c h1 h2).1
theorem Cm.lt_le {a b c : α} (h1 : f a b < 0) (h2 : f b c ≤ 0) : f a c < 0 := (h.tr a b c (by omega) h2).2.2 (.inl h1)
theorem Cm.le_lt {a b c : α} (h1 : f a b ≤ 0) (h2 : f b c < 0) : f a c < 0 := (h.tr a b c h1 (by omega)).2.2 (.inr h2)
theorem srt_uniq : ∀ A B : List α, Srt f A → Srt f B → (∀ x, A.filter (eqv f x) = B.filter (eqv f x)) → A = B := by
  intro A
  have self : ∀ x, eqv f x x = true := fun x => by rw [h.eqv_iff]; exact h.self x
  induction A with
  | nil =>
    intro B _ _ hf
    cases B with
    | nil => rfl
    | cons b B =>
      have := hf b
      rw [List.filter_cons, self b] at this
      simp at this
  | cons a A ih =>
    intro B hA hB hf
    cases B with
    | nil =>
      have := hf a
      rw [List.filter_cons, self a] at this
      simp at this
    | cons b B =>
      have hA' := List.pairwise_cons.1 hA
      have hB' := List.pairwise_cons.1 hB
      have hbA : b ∈ a :: A := by
        have h1 : b ∈ (b :: B).filter (eqv f b) := List.mem_filter.2 ⟨by simp, self b⟩
        rw [← hf b] at h1
        exact (List.mem_filter.1 h1).1
      have haB : a ∈ b :: B := by
        have h1 : a ∈ (a :: A).filter (eqv f a) := List.mem_filter.2 ⟨by simp, self a⟩
        rw [hf a] at h1
        exact (List.mem_filter.1 h1).1
      have h1 : f a b ≤ 0 := by
        rcases List.mem_cons.1 hbA with e | e
        · rw [e, h.self]; exact Int.le_refl _
        · exact hA'.1 b e
      have h2 : f b a ≤ 0 := by
        rcases List.mem_cons.1 haB with e | e
        · rw [e, h.self]; exact Int.le_refl _
        · exact hB'.1 a e
      have h3 : f a b = 0 := by have := h.sym a b; omega
      have hab : a = b := by
        have := hf a
        rw [List.filter_cons, self a, List.filter_cons, (h.eqv_iff a b).2 h3] at this
        simp only [if_true, List.cons.injEq] at this
        exact this.1
      subst hab
      congr 1
      refine ih B hA'.2 hB'.2 fun x => ?_
      have := hf x
      rw [List.filter_cons, List.filter_cons] at this
      split at this
      · simpa using this
      · exact this
theorem merge_mem : ∀ (A B : List α) (x : α), x ∈ mergeL f A B ↔ x ∈ A ∨ x ∈ B := by
  intro A B x
  induction A, B using mergeL.induct f with
  | case1 b => simp [mergeL_nil]
  | case2 a l => simp [mergeL_nil2]
  | case3 a l b m hc ih =>
    rw [mergeL_cons, if_pos hc, List.mem_cons, ih]
    simp only [List.mem_cons]
    constructor
    · rintro (h | h | h) <;> simp [h]
    · rintro (h | h | h) <;> simp [h]
  | case4 a l b m hc ih =>
    rw [mergeL_cons, if_neg hc, List.mem_cons, ih]
    simp only [List.mem_cons]
    constructor
    · rintro (h | h | h) <;> simp [h]
    · rintro ((h | h) | h) <;> simp [h]
theorem merge_srt : ∀ A B : List α, Srt f A → Srt f B → Srt f (mergeL f A B) := by
  intro A B
  induction A, B using mergeL.induct f with
  | case1 b => intro _ hB; rw [mergeL_nil]; exact hB
  | case2 a l => intro hA _; rw [mergeL_nil2]; exact hA
  | case3 a l b m hc ih =>
    intro hA hB
    rw [mergeL_cons, if_pos hc]
    have hA' := List.pairwise_cons.1 hA
    have hB' := List.pairwise_cons.1 hB
    refine List.pairwise_cons.2 ⟨fun y hy => ?_, ih hA hB'.2⟩
    rcases (merge_mem h _ _ y).1 hy with hy | hy
    · have hba : f b a < 0 := by have := h.sym a b; omega
      rcases List.mem_cons.1 hy with e | e
      · rw [e]; omega
      · have := h.lt_le hba (hA'.1 y e); omega
    · exact hB'.1 y hy
  | case4 a l b m hc ih =>
    intro hA hB
    rw [mergeL_cons, if_neg hc]
    have hA' := List.pairwise_cons.1 hA
    have hB' := List.pairwise_cons.1 hB
    refine List.pairwise_cons.2 ⟨fun y hy => ?_, ih hA'.2 hB⟩
    rcases (merge_mem h _ _ y).1 hy with hy | hy
    · exact hA'.1 y hy
    · rcases List.mem_cons.1 hy with e | e
      · rw [e]; omega
      · exact h.le_trans (by omega) (hB'.1 y e)
theorem merge_filter (x : α) : ∀ A B : List α, Srt f A → (mergeL f A B).filter (eqv f x) = A.filter (eqv f x) ++ B.filter (eqv f x) := by
  intro A B
  induction A, B using mergeL.induct f with
  | case1 b => intro _; rw [mergeL_nil]; simp
  | case2 a l => intro _; rw [mergeL_nil2]; simp
  | case3 a l b m hc ih =>
    intro hA
    have hA' := List.pairwise_cons.1 hA
    rw [mergeL_cons, if_pos hc, List.filter_cons, ih hA]
    cases hb : eqv f x b with
    | false => simp only [List.filter_cons, hb, Bool.false_eq_true, if_false]
    | true =>
      rw [h.eqv_iff] at hb
      have hba : f b a < 0 := by have := h.sym a b; omega
      have hnil : (a :: l).filter (eqv f x) = [] := by
        rw [List.filter_eq_nil_iff]
        intro y hy hxy
        rw [h.eqv_iff] at hxy
        have h1 : f b y < 0 := by
          rcases List.mem_cons.1 hy with e | e
          · rw [e]; exact hba
          · exact h.lt_le hba (hA'.1 y e)
        have h2 := h.le_lt (a := x) (b := b) (c := y) (by omega) h1
        omega
      rw [hnil]
      simp [List.filter_cons, (h.eqv_iff x b).2 hb]
  | case4 a l b m hc ih =>
    intro hA
    have hA' := List.pairwise_cons.1 hA
    rw [mergeL_cons, if_neg hc, List.filter_cons, ih hA'.2, List.filter_cons (xs := l)]
    split <;> simp
theorem msort_spec : ∀ (n : Nat) (l : List α), l.length ≤ n → Srt f (msortN f n l) ∧ ∀ x, (msortN f n l).filter (eqv f x) = l.filter (eqv f x) := by
  intro n
  induction n with
  | zero => intro l hl; have : l = [] := List.length_eq_zero_iff.1 (by omega); subst this; exact ⟨List.Pairwise.nil, fun _ => rfl⟩
  | succ n ih =>
    intro l hl
    unfold msortN
    split
    · rename_i h2
      refine ⟨?_, fun _ => rfl⟩
      match l, h2 with
      | [], _ => exact List.Pairwise.nil
      | [a], _ => exact List.pairwise_singleton _ _
    · rename_i h2
      obtain ⟨a1, a2⟩ := ih (l.take (l.length / 2)) (by rw [List.length_take]; omega)
      obtain ⟨b1, b2⟩ := ih (l.drop (l.length / 2)) (by rw [List.length_drop]; omega)
      refine ⟨merge_srt h _ _ a1 b1, fun x => ?_⟩
      rw [merge_filter h x _ _ a1, a2, b2, ← List.filter_append, List.take_append_drop]
omit h in
theorem posB_le (S : List α) (y : α) : ∀ k, posB f S y k ≤ k := by
  intro k
  induction k with
  | zero => exact Nat.le_refl _
  | succ k ih =>
    unfold posB
    split
    · split <;> omega
    · omega
omit h in
theorem posB_above (S : List α) (y : α) : ∀ k, ∀ j s, posB f S y k ≤ j → j < k → S[j]? = some s → 0 < f s y := by
  intro k
  induction k with
  | zero => intro j s _ h2; omega
  | succ k ih =>
    intro j s h1 h2 hs
    unfold posB at h1
    by_cases hj : j = k
    · subst hj
      rw [hs] at h1
      simp only at h1
      split at h1
      · assumption
      · omega
    · split at h1
      · split at h1
        · exact ih j s h1 (by omega) hs
        · omega
      · exact ih j s h1 (by omega) hs
omit h in
theorem posB_at (S : List α) (y : α) : ∀ k, posB f S y k = 0 ∨ ∃ s, S[posB f S y k - 1]? = some s ∧ f s y ≤ 0 := by
  intro k
  induction k with
  | zero => exact .inl rfl
  | succ k ih =>
    unfold posB
    split
    · rename_i s hs
      split
      · exact ih
      · exact .inr ⟨s, by simpa using hs, by omega⟩
    · exact ih
theorem ins_srt {S : List α} (hS : Srt f S) (y : α) : Srt f (insB f S y) := by
  unfold insB
  have hle := posB_le (f := f) S y S.length
  have hS' : Srt f (S.take (posB f S y S.length) ++ S.drop (posB f S y S.length)) := by rw [List.take_append_drop]; exact hS
  obtain ⟨s1, s2, s3⟩ := List.pairwise_append.1 hS'
  have hdrop : ∀ z ∈ S.drop (posB f S y S.length), f y z < 0 := fun z hz => by
    obtain ⟨j, hj⟩ := List.getElem?_of_mem hz
    rw [List.getElem?_drop] at hj
    have hlt := (List.getElem?_eq_some_iff.1 hj).1
    have := posB_above S y S.length _ z (Nat.le_add_right _ _) hlt hj
    have := h.sym z y
    omega
  have htake : ∀ z ∈ S.take (posB f S y S.length), f z y ≤ 0 := fun z hz => by
    rcases posB_at (f := f) S y S.length with h0 | ⟨s, h1, h2⟩
    · rw [h0] at hz; simp at hz
    · obtain ⟨j, hj⟩ := List.getElem?_of_mem hz
      obtain ⟨hjl, hje⟩ := List.getElem?_eq_some_iff.1 hj
      rw [List.length_take] at hjl
      rw [List.getElem?_take_of_lt (by omega)] at hj
      by_cases he : j = posB f S y S.length - 1
      · rw [← he, hj] at h1
        injection h1 with h1
        rw [h1]; exact h2
      · have hzs : f z s ≤ 0 := by
          obtain ⟨hl1, e1⟩ := List.getElem?_eq_some_iff.1 hj
          obtain ⟨hl2, e2⟩ := List.getElem?_eq_some_iff.1 h1
          rw [← e1, ← e2]
          exact List.pairwise_iff_getElem.1 hS _ _ hl1 hl2 (by omega)
        exact h.le_trans hzs h2
  refine List.pairwise_append.2 ⟨s1, List.pairwise_cons.2 ⟨fun z hz => by have := hdrop z hz; omega, s2⟩, fun a ha b hb => ?_⟩
  rcases List.mem_cons.1 hb with e | e
  · rw [e]; exact htake a ha
  · exact s3 a ha b e
theorem ins_filter (S : List α) (y x : α) : (insB f S y).filter (eqv f x) = S.filter (eqv f x) ++ [y].filter (eqv f x) := by
  unfold insB
  have hS' : S.filter (eqv f x) = (S.take (posB f S y S.length)).filter (eqv f x) ++ (S.drop (posB f S y S.length)).filter (eqv f x) := by rw [← List.filter_append, List.take_append_drop]
  rw [hS', List.filter_append, List.append_assoc]
  congr 1
  rw [List.filter_cons, List.filter_cons, List.filter_nil]
  cases hxy : eqv f x y with
  | false => simp
  | true =>
    rw [h.eqv_iff] at hxy
    have : (S.drop (posB f S y S.length)).filter (eqv f x) = [] := by
      rw [List.filter_eq_nil_iff]
      intro z hz hxz
      rw [h.eqv_iff] at hxz
      obtain ⟨j, hj⟩ := List.getElem?_of_mem hz
      rw [List.getElem?_drop] at hj
      have hlt := (List.getElem?_eq_some_iff.1 hj).1
      have h1 := posB_above S y S.length _ z (Nat.le_add_right _ _) hlt hj
      have h2 := h.sym z y
      have h3 := h.le_lt (a := x) (b := y) (c := z) (by omega) (by omega)
      omega
    rw [this]
    simp
theorem fold_ins : ∀ (l S : List α), Srt f S → Srt f (l.foldl (insB f) S) ∧ ∀ x, (l.foldl (insB f) S).filter (eqv f x) = S.filter (eqv f x) ++ l.filter (eqv f x) := by
  intro l
  induction l with
  | nil => intro S hS; exact ⟨hS, fun x => by simp⟩
  | cons y l ih =>
    intro S hS
    obtain ⟨a, b⟩ := ih (insB f S y) (ins_srt h hS y)
    refine ⟨a, fun x => ?_⟩
    rw [List.foldl_cons, b, ins_filter h, List.append_assoc, ← List.filter_append]
    rfl
theorem msort_ins (l : List α) {n : Nat} (hn : l.length ≤ n) : msortN f n l = insL f l := by
  obtain ⟨a1, a2⟩ := msort_spec h n l hn
  obtain ⟨b1, b2⟩ := fold_ins h l [] List.Pairwise.nil
  exact srt_uniq h _ _ a1 b1 fun x => by rw [a2, show insL f l = l.foldl (insB f) [] from rfl, b2]; rfl
end
end Go.Am
