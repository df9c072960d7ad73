/-
  What the functions of the pipe compute.
-/
import Derived.Test.YtgofohblppkjfaaPipeF
import Derived.Test.YtgofohblppkjfaaAmT
namespace Go.Am
set_option linter.unusedSimpArgs false
set_option linter.unusedVariables false

/-- The state of a pipe. -/
structure PS where
  q : List UInt8
  nw : Bool
  gone : Bool
def qn (sz : Int) (p : PS) : Int := if p.nw || p.gone then 0 else sz - p.q.length
/-- The pipe of the program, at object o. -/
def PAt (H : Hp) (o : Nat) (sz : Int) (p : PS) : Prop :=
  ∃ qv, H[o]? = some (.cells [.int .i64 sz, qv, .bool p.nw, .bool p.gone]) ∧ Row H 1 qv (p.q.map bv)
/-- The pipe of the document, at object o. -/
def RAt (H : Hp) (o : Nat) (sz : Int) (p : PS) : Prop := H[o]? = some (.cells [.int .i64 sz, .str p.q, .bool p.nw, .bool p.gone])
/-- Other objects with cells stay. -/
def Fr (H H' : Hp) (o : Nat) : Prop := ∀ (i : Nat) (l : List AV), i ≠ o → H[i]? = some (.cells l) → H'[i]? = some (.cells l)
/-- All other objects stay. -/
def FrA (H H' : Hp) (o : Nat) : Prop := ∀ (i : Nat) (x : AObj), i ≠ o → H[i]? = some x → H'[i]? = some x

theorem aload_ff {H : Hp} {o off : Nat} {l : List AV} (h : H[o]? = some (.cells l)) : aload false 1 (.ptr o off) H = l[off]? := aload_of h false 1
theorem len_spec {H : Hp} {o : Nat} {sz : Int} {p : PS} (h : PAt H o sz p) : C_pipe_Pipe_Len [.ptr o 0] H = some (.int .i64 p.q.length, H) := by
  obtain ⟨qv, h1, h2⟩ := h
  rw [F_pipe_Pipe_Len_eq]
  unfold F_pipe_Pipe_Len
  simp [go_sem, pipe_Pipe_Len_J1_eq, aload_ff h1, h2.len]
theorem free_spec {H : Hp} {o : Nat} {sz : Int} {p : PS} (h : PAt H o sz p) (hs : sz ≤ 4096) (hq : p.q.length ≤ sz) : C_pipe_Pipe_Free [.ptr o 0] H = some (.int .i64 (qn sz p), H) := by
  obtain ⟨qv, h1, h2⟩ := h
  obtain ⟨q, nw, gone⟩ := p
  rw [F_pipe_Pipe_Free_eq]
  unfold F_pipe_Pipe_Free
  simp only [go_sem, pipe_Pipe_Free_J1_eq, aload_ff h1]
  simp only at hq h2
  have hw : IntKind.i64.wrap (sz - q.length) = sz - q.length := wrap64 (by omega) (by omega)
  cases nw <;> cases gone <;> simp [go_sem, aload_ff h1, qn, h2.len]
  exact hw
theorem qn_bound {sz : Int} {p : PS} (hs : sz ≤ 4096) (hq : p.q.length ≤ sz) : 0 ≤ qn sz p ∧ qn sz p ≤ 4096 ∧ qn sz p ≤ sz - p.q.length := by
  unfold qn
  split <;> omega
theorem PAt.rep {H : Hp} {o : Nat} {sz : Int} {p : PS} (h : PAt H o sz p) {H' : Hp} (hf : ∀ (i : Nat) (x : AObj), H[i]? = some x → H'[i]? = some x) : PAt H' o sz p := by
  obtain ⟨qv, h1, h2⟩ := h
  exact ⟨qv, hf _ _ h1, h2.mono fun _ _ h => hf _ _ h⟩
/-- What a write takes. -/
def wn (sz : Int) (p : PS) (s : List UInt8) : Int := min (s.length : Int) (qn sz p)
theorem astore_1 {H : Hp} {o off : Nat} {l : List AV} {v : AV} (h : H[o]? = some (.cells l)) (hk : v.known = true) (hs : v.cells = [v]) (hl : off + 1 ≤ l.length) :
    astoreU 1 (.ptr o off) v H = some (.tuple [], H.set o (.cells (l.set off v))) := by
  rw [astore_of h hk (by rw [hs]; rfl) hl, hs]
  have : splice l off [v] = l.set off v := by
    unfold splice
    rw [List.set_eq_take_append_cons_drop, if_pos (by omega)]
    simp
  rw [this]
theorem write_spec {H : Hp} {o : Nat} {sz : Int} {p : PS} (h : PAt H o sz p) (hs : sz ≤ 4096) (hq : p.q.length ≤ sz) (s : List UInt8) :
    ∃ H', C_pipe_Pipe_Write [.ptr o 0, .str s] H = some (.tuple [.int .i64 (if p.nw || p.gone then 0 else wn sz p s), .int .i64 (if p.nw then 8 else if p.gone then 15 else 0)], H') ∧
      PAt H' o sz ⟨if p.nw || p.gone then p.q else p.q ++ s.take (wn sz p s).toNat, p.nw, p.gone⟩ ∧ Fr H H' o := by
  obtain ⟨qv, h1, h2⟩ := id h
  have hfree := free_spec h hs hq
  obtain ⟨hn0, hn1, hn2⟩ := qn_bound (p := p) hs hq
  obtain ⟨q, nw, gone⟩ := p
  simp only at *
  rw [F_pipe_Pipe_Write_eq]
  unfold F_pipe_Pipe_Write
  simp only [go_sem, aload_ff h1, Nat.zero_add, List.getElem?_cons_succ, List.getElem?_cons_zero]
  cases nw
  · cases gone
    · simp only [go_sem, pipe_Pipe_Write_J1_eq, hfree, aload_ff h1, Nat.zero_add, List.getElem?_cons_succ, List.getElem?_cons_zero, Bool.or_self, Bool.false_eq_true, if_false]
      have hw : (min (s.length : Int) (qn sz ⟨q, false, false⟩)) = wn sz ⟨q, false, false⟩ s := rfl
      rw [hw]
      have hb0 : 0 ≤ wn sz ⟨q, false, false⟩ s := by unfold wn; omega
      have hb1 : wn sz ⟨q, false, false⟩ s ≤ s.length := by unfold wn; omega
      have hb2 : wn sz ⟨q, false, false⟩ s ≤ 4096 := by unfold wn; omega
      have hb3 : q.length + wn sz ⟨q, false, false⟩ s ≤ 4096 := by unfold wn; omega
      generalize wn sz ⟨q, false, false⟩ s = n at *
      obtain ⟨qv', H1, ha, hr, hle, hc1, hc2⟩ := h2.app 1 (.str (s.take n.toNat)) _ rfl (by simp; omega)
      have h3 := hc1 _ _ h1
      have hv : qv'.known = true ∧ qv'.cells = [qv'] := by rcases hr with ⟨rfl, _⟩ | ⟨t, e, rfl, _⟩ <;> exact ⟨rfl, rfl⟩
      rw [asliceS_hi _ hb0 hb1]
      simp only [go_sem, ha]
      rw [astore_1 h3 hv.1 hv.2 (by simp)]
      simp only [go_sem]
      refine ⟨_, rfl, ⟨qv', get_set_eq _ h3, ?_⟩, ?_⟩
      · have e1 : (List.map bv q ++ List.map (fun b => AV.int .u8 b.toNat) (s.take n.toNat)) = List.map bv (q ++ s.take n.toNat) := by rw [List.map_append]; rfl
        rw [e1] at hr
        refine hr.mono fun i e hi => get_set_ne _ (fun he => ?_) hi
        subst he
        rw [h3] at hi
        cases hi
      · intro i l hi hl
        exact get_set_ne _ (Ne.symm hi) (hc1 _ _ hl)
    · exact ⟨H, by simp [go_sem], h, fun _ _ _ h => h⟩
  · exact ⟨H, by simp [go_sem], by simpa using h, fun _ _ _ h => h⟩
/-- What a read gives. -/
def rn (p : PS) (n : Int) : Int := min (max n 0) (p.q.length : Int)
theorem Row.cell {H : Hp} {k : Nat} {x : AV} {l : List AV} (h : Row H k x l) : x.known = true ∧ x.cells = [x] := by
  rcases h with ⟨rfl, _⟩ | ⟨t, e, rfl, _⟩ <;> exact ⟨rfl, rfl⟩
theorem Row.take {H : Hp} {x : AV} {q : List UInt8} (h : Row H 1 x (q.map bv)) {n : Int} (h0 : 0 ≤ n) (h1 : n ≤ q.length) :
    ∃ y, asliceV 1 x none (some (.int .i64 n)) (some (.int .i64 n)) = some y ∧ cvOfBytes y = some (.str (q.take n.toNat)) := by
  rcases h with ⟨rfl, h⟩ | ⟨t, e, rfl, _⟩
  · have : q = [] := by simpa using h
    subst this
    have : n = 0 := by simp at h1; omega
    subst this
    exact ⟨_, asliceV_nils_hm _ _, rfl⟩
  · refine ⟨_, asliceV_hm _ _ _ h0 (by simpa using h1), ?_⟩
    rw [← List.map_take, cvOf_map]
theorem Row.drop {H : Hp} {x : AV} {q : List UInt8} (h : Row H 1 x (q.map bv)) {n : Int} (h0 : 0 ≤ n) (h1 : n ≤ q.length) :
    ∃ y, asliceV 1 x (some (.int .i64 n)) none none = some y ∧ Row H 1 y ((q.drop n.toNat).map bv) := by
  rcases h with ⟨rfl, h⟩ | ⟨t, e, rfl, ht⟩
  · have : q = [] := by simpa using h
    subst this
    have : n = 0 := by simp at h1; omega
    subst this
    exact ⟨_, asliceV_nils_lo _ _, .inl ⟨rfl, rfl⟩⟩
  · exact ⟨_, asliceV_lo _ _ _ h0 (by simpa using h1), .inr ⟨t, e, by rw [List.map_drop], ht⟩⟩
theorem Row.set {H : Hp} {k o : Nat} {x : AV} {l : List AV} (h : Row H k x l) {c : List AV} (ho : H[o]? = some (.cells c)) (y : AObj) : Row (H.set o y) k x l :=
  h.mono fun i e hi => get_set_ne _ (fun he => by subst he; rw [ho] at hi; cases hi) hi
theorem Fr.set (H : Hp) (o : Nat) (y : AObj) : Fr H (H.set o y) o := fun _ _ hi hl => get_set_ne _ (Ne.symm hi) hl
theorem FrA.set (H : Hp) (o : Nat) (y : AObj) : FrA H (H.set o y) o := fun _ _ hi hl => get_set_ne _ (Ne.symm hi) hl
theorem read_spec {H : Hp} {o : Nat} {sz : Int} {p : PS} (h : PAt H o sz p) (n : Int) :
    ∃ H', C_pipe_Pipe_Read [.ptr o 0, .int .i64 n] H = some (.tuple [.str (if p.gone then [] else p.q.take (rn p n).toNat), .bool (if p.gone then true else (p.q.drop (rn p n).toNat == []) && p.nw)], H') ∧
      PAt H' o sz ⟨if p.gone then p.q else p.q.drop (rn p n).toNat, p.nw, p.gone⟩ ∧ Fr H H' o := by
  obtain ⟨qv, h1, h2⟩ := id h
  obtain ⟨q, nw, gone⟩ := p
  simp only at *
  rw [F_pipe_Pipe_Read_eq]
  unfold F_pipe_Pipe_Read
  simp only [go_sem, aload_ff h1, Nat.zero_add, List.getElem?_cons_succ, List.getElem?_cons_zero]
  cases gone
  · have hr : min (max n 0) (q.length : Int) = rn ⟨q, nw, false⟩ n := rfl
    simp only [go_sem, pipe_Pipe_Read_J1_eq, aload_ff h1, Nat.zero_add, List.getElem?_cons_succ, List.getElem?_cons_zero, Bool.false_eq_true, if_false, h2.len, List.length_map, hr]
    have hb0 : 0 ≤ rn ⟨q, nw, false⟩ n := by unfold rn; simp only; omega
    have hb1 : rn ⟨q, nw, false⟩ n ≤ q.length := by unfold rn; simp only; omega
    generalize rn ⟨q, nw, false⟩ n = m at *
    obtain ⟨y, hy, hyc⟩ := h2.take hb0 hb1
    obtain ⟨z, hz, hzr⟩ := h2.drop hb0 hb1
    simp only [go_sem, hy, hz, hyc]
    rw [astore_1 h1 hzr.cell.1 hzr.cell.2 (by simp)]
    have h3 := get_set_eq (.cells ([AV.int .i64 sz, qv, .bool nw, .bool false].set 1 z)) h1
    have h4 := hzr.set h1 (.cells ([AV.int .i64 sz, qv, .bool nw, .bool false].set 1 z))
    have hf := Fr.set H o (.cells ([AV.int .i64 sz, qv, .bool nw, .bool false].set 1 z))
    simp only [List.set_cons_succ, List.set_cons_zero, Nat.zero_add] at h3 h4 hf ⊢
    simp only [go_sem, aload_ff h3, Nat.zero_add, List.set_cons_succ, List.set_cons_zero, List.getElem?_cons_succ, List.getElem?_cons_zero, hzr.len, List.length_map]
    by_cases he : q.drop m.toNat = []
    · have hne : ((((q.drop m.toNat).length : Int)) == 0) = true := by rw [he]; rfl
      have hne2 : (q.drop m.toNat == []) = true := by rw [he]; rfl
      simp only [hne, hne2, go_sem, Nat.zero_add, aload_ff h3, List.getElem?_cons_succ, List.getElem?_cons_zero, Bool.true_and]
      exact ⟨_, rfl, ⟨z, h3, h4⟩, hf⟩
    · have hne : ((((q.drop m.toNat).length : Int)) == 0) = false := by
        have : (q.drop m.toNat).length ≠ 0 := fun h => he (List.length_eq_zero_iff.1 h)
        simp only [beq_eq_false_iff_ne, ne_eq]
        omega
      have hne2 : (q.drop m.toNat == []) = false := by simpa using he
      simp only [hne, hne2, go_sem]
      exact ⟨_, rfl, ⟨z, h3, h4⟩, hf⟩
  · exact ⟨H, by simp [go_sem], by simpa using h, fun _ _ _ h => h⟩
theorem closeWriter_spec {H : Hp} {o : Nat} {sz : Int} {p : PS} (h : PAt H o sz p) :
    ∃ H', C_pipe_Pipe_CloseWriter [.ptr o 0] H = some (.tuple [], H') ∧ PAt H' o sz ⟨p.q, true, p.gone⟩ ∧ Fr H H' o := by
  obtain ⟨qv, h1, h2⟩ := h
  rw [F_pipe_Pipe_CloseWriter_eq]
  unfold F_pipe_Pipe_CloseWriter
  simp only [go_sem, astore_1 (v := .bool true) h1 rfl rfl (by simp : 0 + 2 + 1 ≤ _)]
  exact ⟨_, rfl, ⟨qv, get_set_eq _ h1, h2.set h1 _⟩, Fr.set _ _ _⟩
theorem closeReader_spec {H : Hp} {o : Nat} {sz : Int} {p : PS} (h : PAt H o sz p) :
    ∃ H', C_pipe_Pipe_CloseReader [.ptr o 0] H = some (.tuple [], H') ∧ PAt H' o sz ⟨[], p.nw, true⟩ ∧ Fr H H' o := by
  obtain ⟨qv, h1, h2⟩ := h
  rw [F_pipe_Pipe_CloseReader_eq]
  unfold F_pipe_Pipe_CloseReader
  have h3 := get_set_eq (.cells ([AV.int .i64 sz, qv, .bool p.nw, .bool p.gone].set 3 (.bool true))) h1
  simp only [go_sem, Nat.zero_add, astore_1 (v := .bool true) (off := 3) h1 rfl rfl (by simp), astore_1 (v := .nils) (off := 1) h3 rfl rfl (by simp)]
  exact ⟨_, rfl, ⟨.nils, get_set_eq _ h3, .inl ⟨rfl, rfl⟩⟩, fun i l hi hl => get_set_ne _ (Ne.symm hi) (get_set_ne _ (Ne.symm hi) hl)⟩
def room (n : Int) : Int := min (max n 1) 4096
theorem new_spec (H : Hp) (n : Int) :
    ∃ H', C_pipe_New [.int .i64 n] H = some (.ptr H.length 0, H') ∧ PAt H' H.length (room n) ⟨[], false, false⟩ ∧ (∀ (i : Nat) (x : AObj), H[i]? = some x → H'[i]? = some x) := by
  rw [F_pipe_New_eq]
  unfold F_pipe_New
  simp only [go_sem, afill, AV.known, AV.cells, List.length_cons, List.length_nil, splice]
  simp only [Nat.zero_add, Nat.reduceAdd, Nat.reduceLeDiff, and_self, if_true, Option.map_some, go_sem, List.take_zero, List.nil_append, List.cons_append, List.drop_succ_cons, List.drop_zero]
  rw [abox_of rfl]
  simp only [go_sem]
  refine ⟨_, rfl, ⟨.nils, by rw [get_push_len]; rfl, .inl ⟨rfl, rfl⟩⟩, fun i x h => get_push h _⟩
/-! The document's pipe. -/
theorem rlen_spec {H : Hp} {o : Nat} {sz : Int} {p : PS} (h : RAt H o sz p) : C_texttoolsref51_Pipe_Len [.ptr o 0] H = some (.int .i64 p.q.length, H) := by
  rw [F_texttoolsref51_Pipe_Len_eq]
  unfold F_texttoolsref51_Pipe_Len
  simp [go_sem, texttoolsref51_Pipe_Len_J1_eq, aload_ff h]
theorem rfree_spec {H : Hp} {o : Nat} {sz : Int} {p : PS} (h : RAt H o sz p) (hs : sz ≤ 4096) (hq : p.q.length ≤ sz) : C_texttoolsref51_Pipe_Free [.ptr o 0] H = some (.int .i64 (qn sz p), H) := by
  obtain ⟨q, nw, gone⟩ := p
  rw [F_texttoolsref51_Pipe_Free_eq]
  unfold F_texttoolsref51_Pipe_Free
  simp only [go_sem, texttoolsref51_Pipe_Free_J1_eq, aload_ff h]
  simp only at hq
  have hw : IntKind.i64.wrap (sz - q.length) = sz - q.length := wrap64 (by omega) (by omega)
  cases nw <;> cases gone <;> simp [go_sem, aload_ff h, qn]
  exact hw
theorem rwrite_spec {H : Hp} {o : Nat} {sz : Int} {p : PS} (h : RAt H o sz p) (hs : sz ≤ 4096) (hq : p.q.length ≤ sz) (s : List UInt8) :
    ∃ H', C_texttoolsref51_Pipe_Write [.ptr o 0, .str s] H = some (.tuple [.int .i64 (if p.nw || p.gone then 0 else wn sz p s), .int .i64 (if p.nw then 8 else if p.gone then 15 else 0)], H') ∧
      RAt H' o sz ⟨if p.nw || p.gone then p.q else p.q ++ s.take (wn sz p s).toNat, p.nw, p.gone⟩ ∧ FrA H H' o := by
  obtain ⟨hn0, hn1, hn2⟩ := qn_bound (p := p) hs hq
  obtain ⟨q, nw, gone⟩ := p
  simp only at *
  rw [F_texttoolsref51_Pipe_Write_eq]
  unfold F_texttoolsref51_Pipe_Write
  simp only [go_sem, texttoolsref51_Pipe_Write_J1_eq, texttoolsref51_Pipe_Write_J2_eq, texttoolsref51_Pipe_Write_J3_eq, aload_ff h, Nat.zero_add, List.getElem?_cons_succ, List.getElem?_cons_zero]
  cases nw
  · cases gone
    · simp only [go_sem, aload_ff h, Nat.zero_add, List.getElem?_cons_succ, List.getElem?_cons_zero, Bool.or_self, Bool.false_eq_true, if_false]
      have hw0 : IntKind.i64.wrap (sz - q.length) = sz - q.length := wrap64 (by omega) (by omega)
      have hw : (min (s.length : Int) (sz - q.length)) = wn sz ⟨q, false, false⟩ s := rfl
      rw [hw0, hw]
      have hb0 : 0 ≤ wn sz ⟨q, false, false⟩ s := by unfold wn; omega
      have hb1 : wn sz ⟨q, false, false⟩ s ≤ s.length := by unfold wn; omega
      have hb2 : wn sz ⟨q, false, false⟩ s ≤ 4096 := by unfold wn; omega
      generalize wn sz ⟨q, false, false⟩ s = n at *
      rw [asliceS_hi _ hb0 hb1]
      have hadd := sbin_add (a := q) (b := s.take n.toNat) (by simp; omega)
      simp only [go_sem, hadd, Nat.zero_add, astore_1 (v := .str (q ++ s.take n.toNat)) h rfl rfl (by simp : 1 + 1 ≤ _)]
      exact ⟨_, rfl, get_set_eq _ h, FrA.set _ _ _⟩
    · exact ⟨H, by simp [go_sem, aload_ff h], h, fun _ _ _ h => h⟩
  · exact ⟨H, by simp [go_sem], by simpa using h, fun _ _ _ h => h⟩
theorem rread_spec {H : Hp} {o : Nat} {sz : Int} {p : PS} (h : RAt H o sz p) (n : Int) :
    ∃ H', C_texttoolsref51_Pipe_Read [.ptr o 0, .int .i64 n] H = some (.tuple [.str (if p.gone then [] else p.q.take (rn p n).toNat), .bool (if p.gone then true else (p.q.drop (rn p n).toNat == []) && p.nw)], H') ∧
      RAt H' o sz ⟨if p.gone then p.q else p.q.drop (rn p n).toNat, p.nw, p.gone⟩ ∧ FrA H H' o := by
  obtain ⟨q, nw, gone⟩ := p
  simp only at *
  rw [F_texttoolsref51_Pipe_Read_eq]
  unfold F_texttoolsref51_Pipe_Read
  simp only [go_sem, texttoolsref51_Pipe_Read_J1_eq, aload_ff h, Nat.zero_add, List.getElem?_cons_succ, List.getElem?_cons_zero]
  cases gone
  · have hr : max 0 (min n (q.length : Int)) = rn ⟨q, nw, false⟩ n := by unfold rn; simp only; omega
    simp only [go_sem, texttoolsref51_Pipe_Read_J2_eq, aload_ff h, Nat.zero_add, List.getElem?_cons_succ, List.getElem?_cons_zero, Bool.false_eq_true, if_false, hr]
    have hb0 : 0 ≤ rn ⟨q, nw, false⟩ n := by unfold rn; simp only; omega
    have hb1 : rn ⟨q, nw, false⟩ n ≤ q.length := by unfold rn; simp only; omega
    generalize rn ⟨q, nw, false⟩ n = m at *
    have h3 := get_set_eq (.cells ([AV.int .i64 sz, .str q, .bool nw, .bool false].set 1 (.str (q.drop m.toNat)))) h
    have hf := FrA.set H o (.cells ([AV.int .i64 sz, .str q, .bool nw, .bool false].set 1 (.str (q.drop m.toNat))))
    simp only [List.set_cons_succ, List.set_cons_zero, Nat.zero_add] at h3 hf ⊢
    simp only [go_sem, asliceS_hi _ hb0 hb1, asliceS_lo _ hb0 hb1, Nat.zero_add, astore_1 (v := .str (q.drop m.toNat)) h rfl rfl (by simp : 1 + 1 ≤ _), List.set_cons_succ, List.set_cons_zero,
      aload_ff h3, List.getElem?_cons_succ, List.getElem?_cons_zero]
    cases nw
    · exact ⟨_, by simp [go_sem], h3, hf⟩
    · simp only [go_sem, aload_ff h3, Nat.zero_add, List.getElem?_cons_succ, List.getElem?_cons_zero, Bool.and_true]
      exact ⟨_, rfl, h3, hf⟩
  · exact ⟨H, by simp [go_sem], by simpa using h, fun _ _ _ h => h⟩
theorem rcloseWriter_spec {H : Hp} {o : Nat} {sz : Int} {p : PS} (h : RAt H o sz p) :
    ∃ H', C_texttoolsref51_Pipe_CloseWriter [.ptr o 0] H = some (.tuple [], H') ∧ RAt H' o sz ⟨p.q, true, p.gone⟩ ∧ FrA H H' o := by
  rw [F_texttoolsref51_Pipe_CloseWriter_eq]
  unfold F_texttoolsref51_Pipe_CloseWriter
  simp only [go_sem, astore_1 (v := .bool true) h rfl rfl (by simp : 0 + 2 + 1 ≤ _)]
  exact ⟨_, rfl, get_set_eq _ h, FrA.set _ _ _⟩
theorem rcloseReader_spec {H : Hp} {o : Nat} {sz : Int} {p : PS} (h : RAt H o sz p) :
    ∃ H', C_texttoolsref51_Pipe_CloseReader [.ptr o 0] H = some (.tuple [], H') ∧ RAt H' o sz ⟨[], p.nw, true⟩ ∧ FrA H H' o := by
  rw [F_texttoolsref51_Pipe_CloseReader_eq]
  unfold F_texttoolsref51_Pipe_CloseReader
  have h3 := get_set_eq (.cells ([AV.int .i64 sz, .str p.q, .bool p.nw, .bool p.gone].set 3 (.bool true))) h
  simp only [go_sem, Nat.zero_add, astore_1 (v := .bool true) (off := 3) h rfl rfl (by simp), astore_1 (v := .str []) (off := 1) h3 rfl rfl (by simp)]
  exact ⟨_, rfl, get_set_eq _ h3, fun i l hi hl => get_set_ne _ (Ne.symm hi) (get_set_ne _ (Ne.symm hi) hl)⟩
theorem rnew_spec (H : Hp) (n : Int) :
    ∃ H', C_texttoolsref51_New [.int .i64 n] H = some (.ptr H.length 0, H') ∧ RAt H' H.length (room n) ⟨[], false, false⟩ ∧ (∀ (i : Nat) (x : AObj), H[i]? = some x → H'[i]? = some x) := by
  rw [F_texttoolsref51_New_eq]
  unfold F_texttoolsref51_New
  have hr : max 1 (min n 4096) = room n := by unfold room; omega
  simp only [go_sem, hr, afill, AV.known, AV.cells, List.length_cons, List.length_nil, splice]
  simp only [Nat.zero_add, Nat.reduceAdd, Nat.reduceLeDiff, and_self, if_true, Option.map_some, go_sem, List.take_zero, List.nil_append, List.cons_append, List.drop_succ_cons, List.drop_zero]
  rw [abox_of rfl]
  simp only [go_sem]
  refine ⟨_, rfl, by unfold RAt; rw [get_push_len]; rfl, fun i x h => get_push h _⟩

/-! A call of a method. -/
structure Ca where
  op : Int
  text : List UInt8
  n : Int
def Ca.av (c : Ca) : AV := .agg [.int .i64 c.op, .str c.text, .int .i64 c.n]
structure Rs where
  text : List UInt8
  n : Int
  ends : Bool
  err : Int
def Rs.av (r : Rs) : AV := .agg [.str r.text, .int .i64 r.n, .bool r.ends, .int .i64 r.err]
def stepR (sz : Int) (p : PS) (c : Ca) : Rs :=
  if c.op = 0 then ⟨[], if p.nw || p.gone then 0 else wn sz p c.text, false, if p.nw then 8 else if p.gone then 15 else 0⟩
  else if c.op = 1 then ⟨if p.gone then [] else p.q.take (rn p c.n).toNat, 0, if p.gone then true else (p.q.drop (rn p c.n).toNat == []) && p.nw, 0⟩
  else ⟨[], 0, false, 0⟩
def stepP (sz : Int) (p : PS) (c : Ca) : PS :=
  if c.op = 0 then ⟨if p.nw || p.gone then p.q else p.q ++ c.text.take (wn sz p c.text).toNat, p.nw, p.gone⟩
  else if c.op = 1 then ⟨if p.gone then p.q else p.q.drop (rn p c.n).toNat, p.nw, p.gone⟩
  else if c.op = 2 then ⟨p.q, true, p.gone⟩
  else if c.op = 3 then ⟨[], p.nw, true⟩
  else p
theorem step_len {sz : Int} {p : PS} (c : Ca) (hs : sz ≤ 4096) (hq : p.q.length ≤ sz) (h0 : 0 ≤ sz) : ((stepP sz p c).q.length : Int) ≤ sz := by
  obtain ⟨hn0, hn1, hn2⟩ := qn_bound (p := p) hs hq
  unfold stepP
  split
  · simp only
    split
    · exact hq
    · have : (wn sz p c.text).toNat ≤ sz - p.q.length := by unfold wn; omega
      simp only [List.length_append, List.length_take]
      omega
  · split
    · simp only
      split
      · exact hq
      · simp only [List.length_drop]; omega
    · split
      · exact hq
      · split
        · simpa using h0
        · exact hq
end Go.Am
