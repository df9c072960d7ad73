/-
  The arguments of the statements about orders of lines.
-/
import Derived.Test.YtomfadecfjephaaGreatDoorUkNx
import Derived.Test.YtomfadecfjephaaGreatDoorEmXx
import Derived.Test.YtomfadecfjephaaGreatDoorRows
namespace Go.Am
open Go.Proofs Go.Proofs.YtomfadecfjephaaGreatDoor
set_option linter.unusedVariables false
theorem laidOut : laidOutB Tryz.prog = true := by kernel_rfl
theorem own : ownKnob Tryz.prog.godebug = none := by kernel_rfl
def argTypes : List Nat := [3, 4, 9, 22, 23, 24, 26, 27, 29, 30, 36, 58, 116, 141, 142, 144, 146]
theorem argTypes_ok : argTypes.all (plainIn Tryz.prog argTypes) = true := by kernel_rfl
theorem under_3 : Tryz.prog.underlying 3 = some (.int .i64) := by kernel_rfl
theorem under_4 : Tryz.prog.underlying 4 = some .bool := by kernel_rfl
theorem under_9 : Tryz.prog.underlying 9 = some .string := by kernel_rfl
theorem under_22 : Tryz.prog.underlying 22 = some (.slice 3) := by kernel_rfl
theorem under_23 : Tryz.prog.underlying 23 = some (.slice 146) := by kernel_rfl
theorem under_24 : Tryz.prog.underlying 24 = some (.slice 116) := by kernel_rfl
theorem under_27 : Tryz.prog.underlying 27 = some (.slice 58) := by kernel_rfl
theorem under_141 : Tryz.prog.underlying 141 = some (.int .u64) := by kernel_rfl
theorem under_142 : Tryz.prog.underlying 142 = some (.array 4 141) := by kernel_rfl
theorem fields_58 : fieldTypes Tryz.prog 58 = some [3, 3, 3, 3, 3] := by kernel_rfl
theorem fields_29 : fieldTypes Tryz.prog 29 = some [27, 3, 3, 4, 4] := by kernel_rfl
theorem fields_26 : fieldTypes Tryz.prog 26 = some [9, 22, 9, 9, 23, 24] := by kernel_rfl
theorem fields_116 : fieldTypes Tryz.prog 116 = some [9, 3] := by kernel_rfl
theorem fields_146 : fieldTypes Tryz.prog 146 = some [9, 144] := by kernel_rfl
theorem fields_144 : fieldTypes Tryz.prog 144 = some [142] := by kernel_rfl
theorem agg_3 : aggOf Tryz.prog 3 = false := by kernel_rfl
theorem agg_26 : aggOf Tryz.prog 26 = true := by kernel_rfl
theorem agg_29 : aggOf Tryz.prog 29 = true := by kernel_rfl
theorem agg_58 : aggOf Tryz.prog 58 = true := by kernel_rfl
theorem agg_116 : aggOf Tryz.prog 116 = true := by kernel_rfl
theorem agg_146 : aggOf Tryz.prog 146 = true := by kernel_rfl
theorem cells_3 : Tryz.prog.cellsOf 3 = 1 := by kernel_rfl
theorem cells_58 : Tryz.prog.cellsOf 58 = 5 := by kernel_rfl
theorem cells_116 : Tryz.prog.cellsOf 116 = 2 := by kernel_rfl
theorem cells_146 : Tryz.prog.cellsOf 146 = 5 := by kernel_rfl
theorem list_of {α : Type} {f : α → AV} {q : α → Prop} : ∀ l : List AV, (∀ x ∈ l, ∃ k, q k ∧ x = f k) → ∃ ks : List α, l = ks.map f ∧ ∀ k ∈ ks, q k := by
  intro l
  induction l with
  | nil => intro _; exact ⟨[], rfl, by simp⟩
  | cons x l ih =>
    intro h
    obtain ⟨k, h1, h2⟩ := h x (by simp)
    obtain ⟨ks, h3, h4⟩ := ih (fun y hy => h y (by simp [hy]))
    exact ⟨k :: ks, by simp [h2, h3], by simpa [h1] using h4⟩
theorem mem_data {l : List AV} {α : Type} {es : List α} (hl : l.length = es.length) {x : AV} (hx : x ∈ l) : ∃ (i : Nat) (d : α), l[i]? = some x ∧ es[i]? = some d := by
  obtain ⟨i, hi⟩ := List.getElem?_of_mem hx
  have : i < es.length := by rw [← hl]; exact lt_of_get hi
  exact ⟨i, es[i], hi, List.getElem?_eq_getElem this⟩
theorem one_of {α : Type} {l : List α} (h : l.length = 1) : ∃ a, l = [a] := match l, h with | [a], _ => ⟨a, rfl⟩
theorem two_of {α : Type} {l : List α} (h : l.length = 2) : ∃ a b, l = [a, b] := match l, h with | [a, b], _ => ⟨a, b, rfl⟩
theorem four_of {α : Type} {l : List α} (h : l.length = 4) : ∃ a b c d, l = [a, b, c, d] := match l, h with | [a, b, c, d], _ => ⟨a, b, c, d, rfl⟩
theorem five_of {α : Type} {l : List α} (h : l.length = 5) : ∃ a b c d e, l = [a, b, c, d, e] := match l, h with | [a, b, c, d, e], _ => ⟨a, b, c, d, e, rfl⟩
theorem six_of {α : Type} {l : List α} (h : l.length = 6) : ∃ a b c d e f, l = [a, b, c, d, e, f] := match l, h with | [a, b, c, d, e, f], _ => ⟨a, b, c, d, e, f, rfl⟩
theorem wf64 {n : Int} (h : (Lit.int .i64 n).wf = true) : -9223372036854775808 ≤ n ∧ n ≤ 9223372036854775807 := by
  have e1 : IntKind.i64.min = -9223372036854775808 := by decide
  have e2 : IntKind.i64.max = 9223372036854775807 := by decide
  simp only [Lit.wf, e1, e2, Bool.and_eq_true, decide_eq_true_eq] at h
  exact h
section
variable {H : Type}
theorem bulk_pos (d : DataW H) : 1 ≤ Rows.uptoBulk d := by
  cases d with
  | lit l => cases l <;> simp [Rows.uptoBulk]
  | _ => simp [Rows.uptoBulk]
theorem bulk_all (es : List (DataW H)) : es.length ≤ Rows.uptoBulkAll es ∧ ∀ d ∈ es, Rows.uptoBulk d ≤ Rows.uptoBulkAll es := by
  induction es with
  | nil => exact ⟨Nat.zero_le _, by simp⟩
  | cons x es ih =>
    have hp := bulk_pos x
    have e : Rows.uptoBulkAll (x :: es) = Rows.uptoBulk x + Rows.uptoBulkAll es := by rw [Rows.uptoBulkAll]
    rw [e]
    refine ⟨by simp only [List.length_cons]; omega, fun d hd => ?_⟩
    rcases List.mem_cons.1 hd with rfl | hd
    · omega
    · have := ih.2 d hd
      omega
abbrev Small (d : DataW H) : Prop := Rows.uptoBulk d ≤ 1048576
theorem small_agg {ds : List (DataW H)} (h : Small (.agg ds)) {i : Nat} {d : DataW H} (hi : ds[i]? = some d) : Small d := by
  unfold Small at h ⊢
  rw [Rows.uptoBulk] at h
  have := (bulk_all ds).2 d (List.mem_of_getElem? hi)
  omega
theorem small_slice {es sp : List (DataW H)} (h : Small (.slice es sp)) : (∀ d ∈ es, Small d) ∧ es.length ≤ 1048576 := by
  unfold Small at h ⊢
  rw [Rows.uptoBulk] at h
  obtain ⟨h1, h2⟩ := bulk_all es
  exact ⟨fun d hd => by have := h2 d hd; omega, by omega⟩
theorem small_str {s : List UInt8} (h : Small (.lit (.string s) : DataW H)) : s.length ≤ 1048576 := by
  unfold Small at h
  rw [Rows.uptoBulk] at h
  omega
theorem key_tv {n : Nat} {d : DataW H} {cs : List AV} (h : TV Tryz.prog n 58 d cs) : ∃ k : Ke, KeOk k ∧ cs = k.cells := by
  obtain ⟨ds, parts, m, rfl, rfl, h1, h2, h3⟩ := h.fields fields_58
  obtain ⟨a, b, c, d, e, rfl⟩ := five_of h1
  obtain ⟨a', b', c', d', e', rfl⟩ := five_of h2
  obtain ⟨x, _, rfl, hx⟩ := (h3 0 3 a a' rfl rfl rfl).int under_3
  obtain ⟨y, _, rfl, hy⟩ := (h3 1 3 b b' rfl rfl rfl).int under_3
  obtain ⟨z, _, rfl, hz⟩ := (h3 2 3 c c' rfl rfl rfl).int under_3
  obtain ⟨u, _, rfl, hu⟩ := (h3 3 3 d d' rfl rfl rfl).int under_3
  obtain ⟨v, _, rfl, hv⟩ := (h3 4 3 e e' rfl rfl rfl).int under_3
  exact ⟨⟨x, y, z, u, v⟩, ⟨wf64 hx, wf64 hy, wf64 hz, wf64 hu⟩, rfl⟩
theorem list_tv {α : Type} {f : α → AV} {q : α → Prop} {t e k : Nat} (hu : Tryz.prog.underlying t = some (.slice e)) (hc : Tryz.prog.cellsOf e = k)
    (hf : ∀ (m : Nat) (d' : DataW H) (cs : List AV), TV Tryz.prog m e d' cs → Small d' → ∃ y, q y ∧ ofCells (aggOf Tryz.prog e) cs = f y) {n : Nat} {d : DataW H} {vals : List AV} (h : TV Tryz.prog n t d vals) (hb : Small d) :
    ∃ (x : AV) (ks : List α), vals = [x] ∧ Sl k x (ks.map f) ∧ (∀ y ∈ ks, q y) ∧ ks.length ≤ 1048576 := by
  rcases h.slice hu with ⟨_, rfl⟩ | ⟨es, sp, l, m, rfl, rfl, h1, _, h3⟩
  · exact ⟨.nils, [], rfl, .inl ⟨rfl, rfl⟩, by simp, by simp⟩
  · obtain ⟨b1, b2⟩ := small_slice hb
    obtain ⟨ks, h4, h5⟩ := list_of (f := f) (q := q) l (fun x hx => by
      obtain ⟨i, d', g1, g2⟩ := mem_data h1 hx
      obtain ⟨cs, e, ht⟩ := h3 i x d' g1 g2
      obtain ⟨y, hy, e2⟩ := hf m d' cs ht (b1 _ (List.mem_of_getElem? g2))
      exact ⟨y, hy, by rw [e, e2]⟩)
    subst h4
    rw [hc]
    rw [List.length_map] at h1
    exact ⟨_, ks, rfl, .inr ⟨_, rfl⟩, h5, by omega⟩
theorem keys_tv {n : Nat} {d : DataW H} {vals : List AV} (h : TV Tryz.prog n 27 d vals) (hb : Small d) : ∃ (x : AV) (ks : List Ke), vals = [x] ∧ Sl 5 x (ks.map Ke.av) ∧ (∀ k ∈ ks, KeOk k) ∧ ks.length ≤ 1048576 :=
  list_tv under_27 cells_58 (fun m d' cs ht hb => by
    obtain ⟨k, hk, e2⟩ := key_tv ht
    exact ⟨k, hk, by rw [e2, agg_58]; rfl⟩) h hb
theorem spec_of {d : DataW H} {a : AV} (h : AT Tryz.prog 29 d a) (hb : Small d) : ∃ p : Spec, SpecAV a p ∧ ∀ k ∈ p.keys, KeOk k := by
  obtain ⟨n, cs, ht, e0⟩ := h.agg agg_29
  subst e0
  obtain ⟨ds, parts, m, rfl, rfl, h1, h2, h3⟩ := ht.fields fields_29
  obtain ⟨a, b, c, d, e, rfl⟩ := five_of h1
  obtain ⟨a', b', c', d', e', rfl⟩ := five_of h2
  obtain ⟨x, ks, rfl, hx, hk, _⟩ := keys_tv (h3 0 27 a a' rfl rfl rfl) (small_agg hb (i := 0) rfl)
  obtain ⟨y, _, rfl, _⟩ := (h3 1 3 b b' rfl rfl rfl).int under_3
  obtain ⟨z, _, rfl, _⟩ := (h3 2 3 c c' rfl rfl rfl).int under_3
  obtain ⟨u, _, rfl⟩ := (h3 3 4 d d' rfl rfl rfl).bool under_4
  obtain ⟨v, _, rfl⟩ := (h3 4 4 e e' rfl rfl rfl).bool under_4
  exact ⟨⟨ks, y, z, v, u⟩, ⟨x, rfl, hx⟩, hk⟩
theorem ints_tv {n : Nat} {d : DataW H} {vals : List AV} (h : TV Tryz.prog n 22 d vals) (hb : Small d) : ∃ (x : AV) (ks : List Int), vals = [x] ∧ Sl 1 x (ks.map (AV.int .i64)) ∧ (∀ k ∈ ks, True) ∧ ks.length ≤ 1048576 :=
  list_tv under_22 cells_3 (fun m d' cs ht hb => by
    obtain ⟨y, _, rfl, _⟩ := ht.int under_3
    exact ⟨y, trivial, by rw [agg_3]; rfl⟩) h hb
theorem els_tv {n : Nat} {d : DataW H} {vals : List AV} (h : TV Tryz.prog n 24 d vals) (hb : Small d) : ∃ (x : AV) (ks : List (List UInt8 × Int)), vals = [x] ∧ Sl 2 x (ks.map elAV) ∧ (∀ k ∈ ks, k.1.length ≤ 4611686018427387904) ∧ ks.length ≤ 1048576 :=
  list_tv under_24 cells_116 (fun m d' cs ht hb => by
    obtain ⟨ds, parts, m, rfl, rfl, h1, h2, h3⟩ := ht.fields fields_116
    obtain ⟨a, b, rfl⟩ := two_of h1
    obtain ⟨a', b', rfl⟩ := two_of h2
    have s0 := small_agg hb (i := 0) rfl
    obtain ⟨s, es, rfl, hs⟩ := (h3 0 9 a a' rfl rfl rfl).str under_9
    rw [es] at s0
    obtain ⟨y, _, rfl, _⟩ := (h3 1 3 b b' rfl rfl rfl).int under_3
    exact ⟨(s, y), Nat.le_trans (small_str s0) (by decide), by rw [agg_116]; rfl⟩) h hb
theorem four_tv {n : Nat} {d : DataW H} {vals : List AV} (h : TV Tryz.prog n 142 d vals) : ∃ ks : List Int, ks.length = 4 ∧ vals = ks.map (AV.int .u64) := by
  cases n with
  | zero => exact h.elim
  | succ n =>
    unfold TV at h
    rw [under_142] at h
    obtain ⟨ds, parts, rfl, rfl, h1, h2, h3⟩ := h
    obtain ⟨a, b, c, d, rfl⟩ := four_of h1
    obtain ⟨a', b', c', d', rfl⟩ := four_of h2
    obtain ⟨x, _, rfl, _⟩ := (h3 0 a a' rfl rfl).int under_141
    obtain ⟨y, _, rfl, _⟩ := (h3 1 b b' rfl rfl).int under_141
    obtain ⟨z, _, rfl, _⟩ := (h3 2 c c' rfl rfl).int under_141
    obtain ⟨u, _, rfl, _⟩ := (h3 3 d d' rfl rfl).int under_141
    exact ⟨[x, y, z, u], rfl, rfl⟩
theorem clss_tv {n : Nat} {d : DataW H} {vals : List AV} (h : TV Tryz.prog n 23 d vals) (hb : Small d) : ∃ (x : AV) (ks : List (List UInt8 × List Int)), vals = [x] ∧ Sl 5 x (ks.map clsAV) ∧ (∀ k ∈ ks, k.2.length = 4 ∧ k.1.length ≤ 4611686018427387904) ∧ ks.length ≤ 1048576 :=
  list_tv under_23 cells_146 (fun m d' cs ht hb => by
    obtain ⟨ds, parts, m, rfl, rfl, h1, h2, h3⟩ := ht.fields fields_146
    obtain ⟨a, b, rfl⟩ := two_of h1
    obtain ⟨a', b', rfl⟩ := two_of h2
    have s0 := small_agg hb (i := 0) rfl
    obtain ⟨s, es, rfl, hs⟩ := (h3 0 9 a a' rfl rfl rfl).str under_9
    rw [es] at s0
    obtain ⟨ds2, parts2, m2, rfl, rfl, g1, g2, g3⟩ := (h3 1 144 b b' rfl rfl rfl).fields fields_144
    obtain ⟨c, rfl⟩ := one_of g1
    obtain ⟨c', rfl⟩ := one_of g2
    obtain ⟨ks, hk, rfl⟩ := four_tv (g3 0 142 c c' rfl rfl rfl)
    exact ⟨(s, ks), ⟨hk, Nat.le_trans (small_str s0) (by decide)⟩, by rw [agg_146]; simp [clsAV, ofCells]⟩) h hb
theorem loc_of {d : DataW H} {a : AV} (h : AT Tryz.prog 26 d a) (hb : Small d) : ∃ L : Loc, LocAV a L ∧ LocOk L := by
  obtain ⟨n, cs, ht, e0⟩ := h.agg agg_26
  subst e0
  obtain ⟨ds, parts, m, rfl, rfl, h1, h2, h3⟩ := ht.fields fields_26
  obtain ⟨a, b, c, d, e, f, rfl⟩ := six_of h1
  obtain ⟨a', b', c', d', e', f', rfl⟩ := six_of h2
  have s0 := small_agg hb (i := 0) rfl
  have s2 := small_agg hb (i := 2) rfl
  have s3 := small_agg hb (i := 3) rfl
  obtain ⟨nm, e0, rfl, _⟩ := (h3 0 9 a a' rfl rfl rfl).str under_9
  obtain ⟨x, w, rfl, hx, _, hw⟩ := ints_tv (h3 1 22 b b' rfl rfl rfl) (small_agg hb (i := 1) rfl)
  obtain ⟨lo, e2, rfl, _⟩ := (h3 2 9 c c' rfl rfl rfl).str under_9
  obtain ⟨up, e3, rfl, _⟩ := (h3 3 9 d d' rfl rfl rfl).str under_9
  obtain ⟨y, cl, rfl, hy, hcl, hncl⟩ := clss_tv (h3 4 23 e e' rfl rfl rfl) (small_agg hb (i := 4) rfl)
  obtain ⟨z, el, rfl, hz, hel, hnel⟩ := els_tv (h3 5 24 f f' rfl rfl rfl) (small_agg hb (i := 5) rfl)
  rw [e0] at s0
  rw [e2] at s2
  rw [e3] at s3
  have := small_str s0
  have := small_str s2
  have := small_str s3
  exact ⟨⟨nm, w, lo, up, cl, el⟩, ⟨x, y, z, rfl, hx, hy, hz⟩, ⟨by show nm.length ≤ _; omega, by show w.length ≤ _; omega, by show lo.length ≤ _; omega, by show up.length ≤ _; omega, hcl, hel, by show cl.length ≤ _; omega, by show el.length ≤ _; omega⟩⟩
theorem str_bulk {d : DataW H} {a : AV} (h : AT Tryz.prog 9 d a) (hk : Rows.uptoBulk d ≤ 1048576) : ∃ s : List UInt8, a = .str s ∧ s.length ≤ 1048576 := by
  obtain ⟨s, e, e2, hs⟩ := h.str under_9
  rw [e, Rows.uptoBulk] at hk
  exact ⟨s, e2, by omega⟩
end
end Go.Am
