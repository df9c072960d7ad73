/-
  Lists of strings as arguments, with the bound on what they hold.
-/
import Derived.Test.YtijddagljnlfmaaGreatDoorSkY2
import Derived.Test.YtijddagljnlfmaaGreatDoorRows
namespace Go.Am
open Go.Proofs Go.Proofs.YtijddagljnlfmaaGreatDoor
section
variable {H : Type}
theorem bulk_pos (d : DataW H) : 1 ≤ Rows.uptoBulk d := by
  cases d with
  | lit l => cases l <;> simp [Rows.uptoBulk]
  | _ => simp [Rows.uptoBulk]
theorem bulk_all (es : List (DataW H)) : es.length ≤ Rows.uptoBulkAll es ∧ ∀ d ∈ es, Rows.uptoBulk d ≤ Rows.uptoBulkAll es := by
  induction es with
  | nil => exact ⟨Nat.zero_le _, by simp⟩
  | cons x es ih =>
    have hp := bulk_pos x
    have e : Rows.uptoBulkAll (x :: es) = Rows.uptoBulk x + Rows.uptoBulkAll es := by rw [Rows.uptoBulkAll]
    rw [e]
    refine ⟨by simp only [List.length_cons]; omega, fun d hd => ?_⟩
    rcases List.mem_cons.1 hd with rfl | hd
    · omega
    · have := ih.2 d hd
      omega
theorem AT.slice2 {P : Program} {d : DataW H} {a : AV} {t e : TypeId} (hag : aggOf P t = false) (hu : P.underlying t = some (.slice e)) (h : AT P t d a) :
    a = .nils ∨ ∃ (es sp : List (DataW H)) (l : List AV) (m : Nat), d = .slice es sp ∧ a = .vs (P.cellsOf e) .no l ∧ l.length = es.length ∧ ∀ (i : Nat) (x : AV) (d' : DataW H), l[i]? = some x → es[i]? = some d' → ∃ cs, x = ofCells (aggOf P e) cs ∧ TV P m e d' cs := by
  obtain ⟨n, vals, ht, rfl⟩ := h
  rw [hag]
  rcases ht.slice hu with ⟨_, rfl⟩ | ⟨es, sp, l, m, h0, rfl, h1, _, h3⟩
  · exact .inl (ofCells_one _)
  · exact .inr ⟨es, sp, l, m, h0, ofCells_one _, h1, h3⟩
theorem strs_bulk {d : DataW H} {a : AV} (h : AT Tryz.prog 22 d a) (hk : Rows.uptoBulk d ≤ 1048576) : ∃ l : List (List UInt8), Sl 1 a (l.map AV.str) ∧ l.length ≤ 1048576 ∧ ∀ s ∈ l, s.length ≤ 1048576 := by
  rcases h.slice2 agg_22 under_22 with e0 | ⟨es, sp, l, m, ed, e0, h1, h3⟩
  · exact ⟨[], .inl ⟨e0, rfl⟩, by simp, by simp⟩
  · obtain ⟨b1, b2⟩ := bulk_all es
    rw [ed, Rows.uptoBulk] at hk
    obtain ⟨ks, h4, h5⟩ := list_of (f := AV.str) (q := fun s => s.length ≤ 1048576) l (fun x hx => by
      obtain ⟨i, d', g1, g2⟩ := mem_data h1 hx
      obtain ⟨cs, e, ht⟩ := h3 i x d' g1 g2
      obtain ⟨s, e2, e3, hs⟩ := ht.str under_9
      have := b2 d' (List.mem_of_getElem? g2)
      rw [e2, Rows.uptoBulk] at this
      exact ⟨s, by omega, by rw [e, agg_9, e3, ofCells_one]⟩)
    have hl : ks.length = l.length := by rw [h4, List.length_map]
    exact ⟨ks, .inr ⟨.no, by rw [e0, h4, cells_9]⟩, by omega, h5⟩
end
end Go.Am
