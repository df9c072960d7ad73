/-
  The arguments that are specifications or lists of strings.
-/
import Derived.Test.YtijddagljnlfmaaGreatDoorSkY
import Derived.Test.YtijddagljnlfmaaGreatDoorSkF
namespace Go.Am
open Go.Proofs
theorem under_23 : Tryz.prog.underlying 23 = some (.slice 34) := by kernel_rfl
theorem under_22 : Tryz.prog.underlying 22 = some (.slice 9) := by kernel_rfl
theorem under_4 : Tryz.prog.underlying 4 = some .bool := by kernel_rfl
theorem fields_25 : fieldTypes Tryz.prog 25 = some [23, 3, 3, 4, 4] := by kernel_rfl
theorem agg_25 : aggOf Tryz.prog 25 = true := by kernel_rfl
theorem agg_9 : aggOf Tryz.prog 9 = false := by kernel_rfl
theorem cells_34 : Tryz.prog.cellsOf 34 = 5 := by kernel_rfl
theorem cells_9 : Tryz.prog.cellsOf 9 = 1 := by kernel_rfl
theorem ofCells_one (v : AV) : ofCells false [v] = v := (Eq.refl _).trans (Eq.refl _)
theorem list_of {α : Type} {f : α → AV} {q : α → Prop} : ∀ l : List AV, (∀ x ∈ l, ∃ k, q k ∧ x = f k) → ∃ ks : List α, l = ks.map f ∧ ∀ k ∈ ks, q k := by
  intro l
  induction l with
  | nil => intro _; exact ⟨[], rfl, by simp⟩
  | cons x l ih =>
    intro h
    obtain ⟨k, h1, h2⟩ := h x (by simp)
    obtain ⟨ks, h3, h4⟩ := ih (fun y hy => h y (by simp [hy]))
    exact ⟨k :: ks, by simp [h2, h3], by simpa [h1] using h4⟩
theorem mem_data {l : List AV} {α : Type} {es : List α} (hl : l.length = es.length) {x : AV} (hx : x ∈ l) : ∃ (i : Nat) (d : α), l[i]? = some x ∧ es[i]? = some d := by
  obtain ⟨i, hi⟩ := List.getElem?_of_mem hx
  have : i < es.length := by rw [← hl]; exact lt_of_get hi
  exact ⟨i, es[i], hi, List.getElem?_eq_getElem this⟩
section
variable {H : Type}
theorem keys_tv {n : Nat} {d : DataW H} {vals : List AV} (h : TV Tryz.prog n 23 d vals) : ∃ (x : AV) (ks : List Ke), vals = [x] ∧ Sl 5 x (ks.map Ke.av) ∧ ∀ k ∈ ks, KeOk k := by
  rcases h.slice under_23 with ⟨_, rfl⟩ | ⟨es, sp, l, m, _, rfl, h1, _, h3⟩
  · exact ⟨.nils, [], rfl, .inl ⟨rfl, rfl⟩, by simp⟩
  · obtain ⟨ks, h4, h5⟩ := list_of (f := Ke.av) (q := KeOk) l (fun x hx => by
      obtain ⟨i, d', g1, g2⟩ := mem_data h1 hx
      obtain ⟨cs, e, ht⟩ := h3 i x d' g1 g2
      obtain ⟨k, hk, e2⟩ := key_tv ht
      exact ⟨k, hk, by rw [e, e2, agg_34]; rfl⟩)
    subst h4
    rw [cells_34]
    exact ⟨_, ks, rfl, .inr ⟨_, rfl⟩, h5⟩
theorem AT.slice1 {P : Program} {d : DataW H} {a : AV} {t e : TypeId} (hag : aggOf P t = false) (hu : P.underlying t = some (.slice e)) (h : AT P t d a) :
    a = .nils ∨ ∃ (es : List (DataW H)) (l : List AV) (m : Nat), a = .vs (P.cellsOf e) .no l ∧ l.length = es.length ∧ ∀ (i : Nat) (x : AV) (d' : DataW H), l[i]? = some x → es[i]? = some d' → ∃ cs, x = ofCells (aggOf P e) cs ∧ TV P m e d' cs := by
  obtain ⟨n, vals, ht, rfl⟩ := h
  rw [hag]
  rcases ht.slice hu with ⟨_, rfl⟩ | ⟨es, sp, l, m, _, rfl, h1, _, h3⟩
  · exact .inl (ofCells_one _)
  · exact .inr ⟨es, l, m, ofCells_one _, h1, h3⟩
theorem agg_22 : aggOf Tryz.prog 22 = false := by kernel_rfl
theorem strs_at {d : DataW H} {a : AV} (h : AT Tryz.prog 22 d a) : ∃ l : List (List UInt8), Sl 1 a (l.map AV.str) ∧ ∀ s ∈ l, s.length ≤ maxLen := by
  rcases h.slice1 agg_22 under_22 with e0 | ⟨es, l, m, e0, h1, h3⟩
  · exact ⟨[], .inl ⟨e0, rfl⟩, by simp⟩
  · obtain ⟨ks, h4, h5⟩ := list_of (f := AV.str) (q := fun s => s.length ≤ maxLen) l (fun x hx => by
      obtain ⟨i, d', g1, g2⟩ := mem_data h1 hx
      obtain ⟨cs, e, ht⟩ := h3 i x d' g1 g2
      obtain ⟨s, _, e3, hs⟩ := ht.str under_9
      exact ⟨s, hs, by rw [e, agg_9, e3, ofCells_one]⟩)
    exact ⟨ks, .inr ⟨.no, by rw [e0, h4, cells_9]⟩, h5⟩
theorem spec_of {d : DataW H} {a : AV} (h : AT Tryz.prog 25 d a) : ∃ p : Spec, SpecAV a p ∧ ∀ k ∈ p.keys, KeOk k := by
  obtain ⟨n, cs, ht, e0⟩ := h.agg agg_25
  subst e0
  obtain ⟨ds, parts, m, _, rfl, h1, h2, h3⟩ := ht.fields fields_25
  obtain ⟨a, b, c, d, e, rfl⟩ := five h1
  obtain ⟨a', b', c', d', e', rfl⟩ := five h2
  obtain ⟨x, ks, rfl, hx, hk⟩ := keys_tv (h3 0 23 a a' rfl rfl rfl)
  obtain ⟨y, _, rfl, _⟩ := (h3 1 3 b b' rfl rfl rfl).int under_3
  obtain ⟨z, _, rfl, _⟩ := (h3 2 3 c c' rfl rfl rfl).int under_3
  obtain ⟨u, _, rfl⟩ := (h3 3 4 d d' rfl rfl rfl).bool under_4
  obtain ⟨v, _, rfl⟩ := (h3 4 4 e e' rfl rfl rfl).bool under_4
  exact ⟨⟨ks, y, z, v, u⟩, ⟨x, rfl, hx⟩, hk⟩
end
end Go.Am
