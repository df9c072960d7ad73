/-
  The comparisons are total orders of classes: plain law.
-/
import Derived.Test.YtomfadecfjephaaGreatDoorUkNx
namespace Go.Am
set_option linter.unusedSimpArgs false
set_option linter.unusedVariables false

structure Cm {α : Type} (f : α → α → Int) : Prop where
  one : ∀ a b, f a b = -1 ∨ f a b = 0 ∨ f a b = 1
  sym : ∀ a b, f b a = -f a b
  tr : ∀ a b c, f a b ≤ 0 → f b c ≤ 0 → f a c ≤ 0 ∧ (f a c < 0 ↔ f a b < 0 ∨ f b c < 0)
theorem Cm.of {α : Type} {f g : α → α → Int} (h : Cm f) (e : ∀ a b, g a b = f a b) : Cm g := by
  have : g = f := funext fun a => funext fun b => e a b
  rw [this]; exact h
theorem Cm.comap {α β : Type} {f : β → β → Int} (h : Cm f) (g : α → β) : Cm fun a b => f (g a) (g b) :=
  ⟨fun a b => h.one _ _, fun a b => h.sym _ _, fun a b c => h.tr _ _ _⟩
theorem Cm.tr2 {α : Type} {f : α → α → Int} (h : Cm f) (a b c : α) (h1 : 0 ≤ f a b) (h2 : 0 ≤ f b c) : 0 ≤ f a c ∧ (0 < f a c ↔ 0 < f a b ∨ 0 < f b c) := by
  have e1 := h.sym a b
  have e2 := h.sym b c
  have e3 := h.sym a c
  have := h.tr c b a (by omega) (by omega)
  omega
theorem Cm.self {α : Type} {f : α → α → Int} (h : Cm f) (a : α) : f a a = 0 := by
  have := h.sym a a
  omega
theorem Cm.neg {α : Type} {f : α → α → Int} (h : Cm f) : Cm fun a b => -f a b := by
  refine ⟨fun a b => ?_, fun a b => ?_, fun a b c h1 h2 => ?_⟩
  · have := h.one a b
    show -f a b = _ ∨ -f a b = _ ∨ -f a b = _
    omega
  · have := h.sym a b
    show -f b a = - -f a b
    omega
  · have := h.tr2 a b c (by omega) (by omega)
    show -f a c ≤ 0 ∧ (-f a c < 0 ↔ -f a b < 0 ∨ -f b c < 0)
    omega
theorem Cm.lex {α : Type} {f g : α → α → Int} (h : Cm f) (k : Cm g) : Cm fun a b => if (f a b != 0) = true then f a b else g a b := by
  have e : ∀ a b, (if (f a b != 0) = true then f a b else g a b) = if f a b = 0 then g a b else f a b := fun a b => by
    by_cases h0 : f a b = 0 <;> simp [h0]
  refine Cm.of (f := fun a b => if f a b = 0 then g a b else f a b) ⟨fun a b => ?_, fun a b => ?_, fun a b c => ?_⟩ e
  · show (if f a b = 0 then g a b else f a b) = -1 ∨ _ ∨ _
    have h1 := h.one a b
    have h2 := k.one a b
    split <;> assumption
  · show (if f b a = 0 then g b a else f b a) = -(if f a b = 0 then g a b else f a b)
    have h1 := h.sym a b
    have h2 := k.sym a b
    split <;> split <;> omega
  · show (if f a b = 0 then g a b else f a b) ≤ 0 → (if f b c = 0 then g b c else f b c) ≤ 0 → (if f a c = 0 then g a c else f a c) ≤ 0 ∧ ((if f a c = 0 then g a c else f a c) < 0 ↔ (if f a b = 0 then g a b else f a b) < 0 ∨ (if f b c = 0 then g b c else f b c) < 0)
    have h1 := h.tr a b c
    have h2 := k.tr a b c
    intro q1 q2
    by_cases z1 : f a b = 0 <;> by_cases z2 : f b c = 0 <;> by_cases z3 : f a c = 0 <;> simp only [z1, z2, z3, if_true, if_false] at q1 q2 ⊢ <;> omega
theorem sgnS_cm : Cm sgnS := by
  refine ⟨sgnS_one, fun a b => ?_, fun a b c => ?_⟩
  · unfold sgnS
    split <;> split <;> (try split) <;> (try split) <;> omega
  · unfold sgnS
    intro h1 h2
    by_cases c1 : a < b <;> by_cases c2 : b < a <;> by_cases c3 : b < c <;> by_cases c4 : c < b <;> by_cases c5 : a < c <;> by_cases c6 : c < a <;> simp only [c1, c2, c3, c4, c5, c6, if_true, if_false] at h1 h2 ⊢ <;> omega
theorem ordS_cm : Cm ordS := by
  refine ⟨ordS_one, ?_, ?_⟩
  · intro a
    induction a with
    | nil => intro b; cases b <;> simp [ordS]
    | cons x a ih =>
      intro b
      cases b with
      | nil => simp [ordS]
      | cons y b =>
        rw [ordS_cons, ordS_cons]
        have := ih b
        split <;> split <;> (try split) <;> (try split) <;> omega
  · intro a
    induction a with
    | nil => intro b c; cases b <;> cases c <;> simp [ordS]
    | cons x a ih =>
      intro b c
      cases b with
      | nil => cases c <;> simp [ordS]
      | cons y b =>
        cases c with
        | nil => simp [ordS]
        | cons z c =>
          rw [ordS_cons, ordS_cons, ordS_cons]
          have := ih b c
          intro h1 h2
          by_cases c1 : x < y <;> by_cases c2 : y < x <;> by_cases c3 : y < z <;> by_cases c4 : z < y <;> by_cases c5 : x < z <;> by_cases c6 : z < x <;> simp only [c1, c2, c3, c4, c5, c6, if_true, if_false] at h1 h2 ⊢ <;> omega
theorem cmpB_cm : Cm cmpB := (ordS_cm.comap natS).of fun a b => (cmpB_ord a b).symm
theorem cmpB_zero : ∀ a b : List UInt8, cmpB a b = 0 → a = b := by
  intro a
  induction a with
  | nil => intro b h; cases b <;> simp_all [cmpB]
  | cons x a ih =>
    intro b h
    cases b with
    | nil => simp [cmpB] at h
    | cons y b =>
      rw [cmpB] at h
      split at h
      · rename_i e
        rw [e, ih b h]
      · split at h <;> omega
theorem cmpS_cm (L : Loc) : Cm (cmpS L) := (ordS_cm.comap (wS (validL L))).lex cmpB_cm
theorem cmpS_zero {L : Loc} {a b : List UInt8} (h : cmpS L a b = 0) : a = b := by
  unfold cmpS at h
  split at h
  · rename_i h1
    simp [h] at h1
  · exact cmpB_zero a b h
theorem partsC_cm (L : Loc) (n : Nat) : Cm (partsC L n) := by
  cases hb : n.testBit 0 with
  | true => exact (sgnS_cm.comap preS).of fun a b => by simp [partsC, hb]
  | false => exact ((cmpS_cm L).comap (shapeS L n)).of fun a b => by simp [partsC, hb]
theorem partsS_cm (L : Loc) (n : Nat) : Cm (partsS L n) := by
  cases hb : n.testBit 1 with
  | true => exact (partsC_cm L n).neg.of fun a b => by simp [partsS, hb]
  | false => exact (partsC_cm L n).of fun a b => by simp [partsS, hb]
theorem cmpK_cm (L : Loc) (p : Spec) : ∀ l : List Ke, Cm fun a b => cmpK L p a b l := by
  intro l
  induction l with
  | nil => exact ⟨fun _ _ => .inr (.inl rfl), fun _ _ => rfl, fun _ _ _ _ _ => ⟨Int.le_refl _, by simp [cmpK]⟩⟩
  | cons k l ih => exact (((partsS_cm L (flg p k)).comap fun a => ex a (fields a p.sep) k).lex ih).of fun a b => cmpK_cons L p a b k l
theorem lineV_cm (L : Loc) (p : Spec) : Cm (lineV L p) := by
  cases hb : (p.keys.length == 0) with
  | true => exact (partsS_cm L p.flags.toNat).of fun a b => by simp only [lineV, hb, if_true]
  | false => exact (cmpK_cm L p p.keys).of fun a b => by simp only [lineV, hb, Bool.false_eq_true, if_false]
theorem lineS_cm (L : Loc) (p : Spec) : Cm (lineS L p) := lineV_cm L (validP p)
theorem checkS_valid (p : Spec) : checkS (validP p) = 0 := by
  unfold validP
  cases hb : (checkS p != 0) with
  | true => rfl
  | false => simpa using hb
theorem validP_idem (p : Spec) : validP (validP p) = validP p := by
  show (if (checkS (validP p) != 0) = true then plainP else validP p) = validP p
  rw [checkS_valid]
  rfl
theorem lineS_valid (L : Loc) (p : Spec) (a b : List UInt8) : lineS L (validP p) a b = lineS L p a b := by unfold lineS; rw [validP_idem]
def lastS (L : Loc) (p : Spec) (a b : List UInt8) : Int := if (validP p).flags.toNat.testBit 1 then -cmpS L a b else cmpS L a b
theorem lastS_cm (L : Loc) (p : Spec) : Cm (lastS L p) := by
  cases hb : (validP p).flags.toNat.testBit 1 with
  | true => exact (cmpS_cm L).neg.of fun a b => by simp [lastS, hb]
  | false => exact (cmpS_cm L).of fun a b => by simp [lastS, hb]
theorem orderS_sure {L : Loc} {p : Spec} (h : ((validP p).stab || (validP p).uniq) = true) (a b : List UInt8) : orderS L p a b = lineS L p a b := by
  unfold orderS
  rw [lineS_valid, Bool.or_assoc, h, Bool.or_true, if_pos rfl]
theorem orderS_last {L : Loc} {p : Spec} (h : ((validP p).stab || (validP p).uniq) = false) (a b : List UInt8) : orderS L p a b = if (lineS L p a b != 0) = true then lineS L p a b else lastS L p a b := by
  unfold orderS lastS
  rw [lineS_valid, Bool.or_assoc, h, Bool.or_false]
theorem orderS_cm (L : Loc) (p : Spec) : Cm (orderS L p) := by
  cases hb : ((validP p).stab || (validP p).uniq) with
  | true => exact (lineS_cm L p).of (orderS_sure hb)
  | false => exact ((lineS_cm L p).lex (lastS_cm L p)).of (orderS_last hb)
theorem orderS_line {L : Loc} {p : Spec} {a b : List UInt8} (h : lineS L p a b ≠ 0) : orderS L p a b = lineS L p a b := by
  unfold orderS
  rw [lineS_valid]
  have : (lineS L p a b != 0) = true := by simpa using h
  rw [this, Bool.true_or, Bool.true_or, if_pos rfl]
theorem orders_end (L : Loc) (p : Spec) (a b : List UInt8) :
    (((checkS p == 0) && (p.stab || p.uniq)) = true → orderS L p a b = lineS L p a b) ∧
    (((checkS p == 0) && (p.stab || p.uniq)) = false → (orderS L p a b = 0 ↔ a = b)) := by
  have hself : a = b → orderS L p a b = 0 := fun e => by subst e; exact (orderS_cm L p).self a
  have hlast : ((validP p).stab || (validP p).uniq) = false → orderS L p a b = 0 → a = b := fun hb h => by
    rw [orderS_last hb] at h
    split at h
    · rename_i h1; simp [h] at h1
    · unfold lastS at h
      split at h
      · exact cmpS_zero (L := L) (by omega)
      · exact cmpS_zero h
  cases hc : (checkS p == 0) with
  | true =>
    have hv : validP p = p := by
      unfold validP
      rw [if_neg (by simpa using hc)]
    rw [Bool.true_and]
    constructor
    · intro h; exact orderS_sure (by rw [hv]; exact h) a b
    · intro h; exact ⟨hlast (by rw [hv]; exact h), hself⟩
  | false =>
    have hv : validP p = plainP := by
      unfold validP
      rw [if_pos (by simpa using hc)]
    rw [Bool.false_and]
    exact ⟨fun h => (by cases h), fun _ => ⟨hlast (by rw [hv]; rfl), hself⟩⟩
end Go.Am
namespace Go.Am
set_option linter.unusedSimpArgs false
set_option linter.unusedVariables false
set_option maxRecDepth 100000

noncomputable def okT (ab bc ac : Int) : Bool := match F_L20_three (.int .i64 ab) (.int .i64 (-ab)) (.int .i64 bc) (.int .i64 ac) [] with
  | some (.bool true, []) => true
  | _ => false
theorem okT_some {ab bc ac : Int} (h : okT ab bc ac = true) : F_L20_three (.int .i64 ab) (.int .i64 (-ab)) (.int .i64 bc) (.int .i64 ac) [] = some (.bool true, []) := by
  unfold okT at h
  split at h
  · assumption
  · cases h
theorem three_flat {α : Type} {f : α → α → Int} (h : Cm f) (a b c : α) (H : Hp) : flatC C_L20_three [.int .i64 (f a b), .int .i64 (f b a), .int .i64 (f b c), .int .i64 (f a c)] H = some (.bool true, H) := by
  have h1 := h.one a b
  have h2 := h.one b c
  have h3 := h.one a c
  have h4 := h.sym a b
  have h5 := h.tr a b c
  have h6 := h.tr2 a b c
  rw [h4]
  refine flat4 (a' := .int .i64 (f a b)) (b' := .int .i64 (-f a b)) (c' := .int .i64 (f b c)) (d' := .int .i64 (f a c)) (H1 := []) rfl rfl rfl rfl ?_ rfl
  rw [F_L20_three_eq]
  apply okT_some
  generalize f a b = x at *
  generalize f b c = y at *
  generalize f a c = z at *
  rcases h1 with rfl | rfl | rfl <;> rcases h2 with rfl | rfl | rfl <;> rcases h3 with rfl | rfl | rfl <;> first | (exfalso; omega) | kernel_rfl
theorem Orders_law {a : AV} {L : Loc} (h : LocAV a L) (hok : LocOk L) {q : AV} {p : Spec} (hq : SpecAV q p) (hks : ∀ k ∈ p.keys, KeOk k) (s t u : List UInt8) (hs : s.length ≤ 1048576) (ht : t.length ≤ 1048576) (hu : u.length ≤ 1048576) :
    ∃ H', C_L20_SortkeyOrders [a, q, .str s, .str t, .str u] [] = some (.bool true, H') := by
  have c1 := fun H => line_flat h hok hq hks s t hs ht H
  have c2 := fun H => line_flat h hok hq hks t s ht hs H
  have c3 := fun H => line_flat h hok hq hks t u ht hu H
  have c4 := fun H => line_flat h hok hq hks s u hs hu H
  have o1 := fun H => ord_flat h hok hq hks s t hs ht H
  have o2 := fun H => ord_flat h hok hq hks t s ht hs H
  have o3 := fun H => ord_flat h hok hq hks t u ht hu H
  have o4 := fun H => ord_flat h hok hq hks s u hs hu H
  have t1 := fun H => three_flat (lineS_cm L p) s t u H
  have t2 := fun H => three_flat (orderS_cm L p) s t u H
  have ck := fun H => check_flat hq H
  obtain ⟨x, c, e, rfl, hx, hc, he⟩ := h
  obtain ⟨xp, rfl, hxp⟩ := hq
  have hl := load_loc L x c e [.cells (p.cells xp)]
  have hl1 : aload true 5 (.ptr 1 0) [AObj.cells (L.cells x c e), .cells (p.cells xp)] = some (.agg (p.cells xp)) := by simp [aload, Go.Am.apart, Spec.cells]
  have hf3 : aload false 1 (.ptr 1 (0 + 3)) [AObj.cells (L.cells x c e), .cells (p.cells xp)] = some (.bool p.uniq) := aload_f1 (l := p.cells xp) rfl
  have hf4 : aload false 1 (.ptr 1 (0 + 4)) [AObj.cells (L.cells x c e), .cells (p.cells xp)] = some (.bool p.stab) := aload_f1 (l := p.cells xp) rfl
  obtain ⟨e1, e2⟩ := orders_end L p s t
  have hJ2 : L20_SortkeyOrders_J2 (.str s) (.str t) (.ptr 1 0) (.int .i64 (lineS L p s t)) (.int .i64 (orderS L p s t)) [] [AObj.cells (L.cells x c e), .cells (p.cells xp)] = some (.bool true, [AObj.cells (L.cells x c e), .cells (p.cells xp)]) := by
    rw [L20_SortkeyOrders_J2_eq]
    have hexact : ∀ (hb : ((checkS p == 0) && (p.stab || p.uniq)) = true), (orderS L p s t == lineS L p s t) = true := fun hb => by rw [beq_iff_eq]; exact e1 hb
    have hq : ∀ x : Bool, ebin .bool .eql (.bool x) (.bool x) = some (.bool true) := fun x => by cases x <;> rfl
    have hsb : sbin .eql (.str s) (.str t) = some (.bool (s == t)) := rfl
    have hnot : ∀ (hb : ((checkS p == 0) && (p.stab || p.uniq)) = false), (orderS L p s t == 0) = (s == t) := fun hb => by
      rw [Bool.eq_iff_iff, beq_iff_eq, beq_iff_eq]; exact e2 hb
    cases hc : (checkS p == 0) with
    | false =>
      have := hnot (by rw [hc]; rfl)
      simp only [go_sem, hl1, ck, hc, Bool.not_false, hsb, this, hq, awake_ok]
    | true =>
      cases h4 : p.stab with
      | true =>
        have := hexact (by rw [hc, h4]; rfl)
        simp only [go_sem, hl1, ck, hc, hf4, h4, this, awake_ok]
      | false =>
        cases h3 : p.uniq with
        | true =>
          have := hexact (by rw [hc, h3, Bool.or_true]; rfl)
          simp only [go_sem, hl1, ck, hc, hf4, h4, hf3, h3, this, awake_ok]
        | false =>
          have := hnot (by rw [hc, h3, h4]; rfl)
          simp only [go_sem, hl1, ck, hc, hf4, h4, hf3, h3, Bool.not_false, hsb, this, hq, awake_ok]
  have hJ1 : L20_SortkeyOrders_J1 (.str s) (.str t) (.str u) (.ptr 0 0) (.ptr 1 0) (.int .i64 (lineS L p s t)) (.int .i64 (orderS L p s t)) [] [AObj.cells (L.cells x c e), .cells (p.cells xp)] = some (.bool true, [AObj.cells (L.cells x c e), .cells (p.cells xp)]) := by
    rw [L20_SortkeyOrders_J1_eq]
    simp only [go_sem, hl, hl1, o2, o3, o4, t2, Bool.not_true]
    by_cases h0 : lineS L p s t = 0
    · have c0 : (lineS L p s t != 0) = false := by simp [h0]
      simp only [c0, go_sem, hJ2]
    · have c0 : (lineS L p s t != 0) = true := by simp [h0]
      have c5 : (lineS L p s t != orderS L p s t) = false := by simp [orderS_line h0]
      simp only [c0, c5, go_sem, hJ2]
  refine ⟨[AObj.cells (L.cells x c e), .cells (p.cells xp)], ?_⟩
  rw [F_L20_SortkeyOrders_eq]
  unfold F_L20_SortkeyOrders
  simp only [go_sem, abox_agg, List.nil_append, List.length_nil, List.length_cons, List.cons_append, Nat.zero_add, Nat.reduceAdd, hl, hl1, c1, c2, c3, c4, o1, t1, Bool.not_true, hJ1]
end Go.Am
