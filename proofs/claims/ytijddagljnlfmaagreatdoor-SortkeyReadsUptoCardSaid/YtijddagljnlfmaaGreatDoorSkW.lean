/-
  The document's part of a line that a key tells.
-/
import Derived.Test.YtijddagljnlfmaaGreatDoorSkV
namespace Go.Am
set_option linter.unusedSimpArgs false
set_option linter.unusedVariables false

theorem afield_vp5 (a b c d e : AV) (H : Hp) : (afield 0 (.vp [a, b, c, d, e]) = some (.vp [a, b, c, d, e])) ∧ (afield 1 (.vp [a, b, c, d, e]) = some (.vp [b, c, d, e])) ∧ (afield 2 (.vp [a, b, c, d, e]) = some (.vp [c, d, e])) ∧ (afield 3 (.vp [a, b, c, d, e]) = some (.vp [d, e])) := ⟨rfl, rfl, rfl, rfl⟩
theorem afield_vp2 (a b : AV) : (afield 0 (.vp [a, b]) = some (.vp [a, b])) ∧ (afield 1 (.vp [a, b]) = some (.vp [b])) := ⟨rfl, rfl⟩
theorem aload_vpc (a : AV) (l : List AV) (H : Hp) : aload false 1 (.vp (a :: l)) H = some a := (Eq.refl _).trans (Eq.refl _)
theorem aloadv_vpc (a : AV) (l : List AV) : aloadv false 1 (.vp (a :: l)) = some a := (Eq.refl _).trans (Eq.refl _)
theorem aload_vp22 (a b : AV) (H : Hp) : aload true 2 (.vp [a, b]) H = some (.agg [a, b]) := by simp [aload, Go.Am.apart]
theorem idx_span {tok : Tok} {fs : List (Nat × Nat)} {i : Int} {p : Nat × Nat} (h0 : 0 ≤ i) (h : fs[i.toNat]? = some p) : aindexS 2 (.vs 2 tok (fs.map spanAV)) (.int .i64 i) = some (.vp [.int .i64 p.1, .int .i64 p.2]) := by
  simp [aindexS, h0, h, spanAV, AV.cells]
theorem astore_last2 (H : Hp) (a b : AV) : astoreU 2 (.ptr H.length 0) (.agg [a, b]) (H ++ [.cells [.int .i64 0, .int .i64 0]]) = some (.tuple [], H ++ [.cells [a, b]]) := by
  rw [astore_of (sz := 2) (v := .agg [a, b]) (get_last _ _) rfl rfl (by simp)]
  simp [AV.cells, splice]
theorem frz_last (H : Hp) (l : List AV) (k : AV → Hp → Res) : frzK (.ptr H.length 0) (H ++ [.cells l]) k = k (.vp l) (H ++ [.dead]) := by
  rw [frz_of (get_last _ _), set_push]
theorem rcut_spec {line : List UInt8} {f e : Nat} (hf : f ≤ line.length) (he : e ≤ line.length) (H0 H : Hp) :
    texttoolsref20_Extract_J2 (.str line) (.int .i64 (f : Int)) (.int .i64 (e : Int)) H0 H = some (.str (if e < f then [] else (line.take e).drop f), H) := by
  rw [texttoolsref20_Extract_J2_eq]
  by_cases h : e ≤ f
  · have c : decide ((e : Int) ≤ (f : Int)) = true := by simp; omega
    have hd : (if e < f then [] else (line.take e).drop f) = [] := by
      split
      · rfl
      · simp; omega
    simp only [go_sem, c, hd]
  · have c : decide ((e : Int) ≤ (f : Int)) = false := by simp; omega
    have hs := asliceS_lh (s := line) (n := (f : Int)) (m := (e : Int)) .i64 .i64 (by omega) (by omega) (by omega)
    have e1 : ((f : Int)).toNat = f := by omega
    have e2 : ((e : Int)).toNat = e := by omega
    rw [e1, e2] at hs
    have hd : ¬ e < f := by omega
    simp only [go_sem, c, texttoolsref20_Extract_J3_eq, hs, hd, if_false]
theorem rextract_spec {line : List UInt8} (hlen : line.length ≤ 1048576) {k : Ke} (hk : KeOk k) (sep : Int) (H : Hp) :
    ∃ H', C_texttoolsref20_Extract [.str line, .agg k.cells, .int .i64 sep] H = some (.str (ex line (fields line sep) k), H') := by
  rw [F_texttoolsref20_Extract_eq]
  unfold F_texttoolsref20_Extract
  have hbox : abox (.agg k.cells) H = some (.ptr H.length 0, H ++ [.cells k.cells]) := abox_of rfl
  have hget := get_last H (.cells k.cells)
  obtain ⟨x', H2, g1, g2, g3⟩ := fields_spec hlen sep (H ++ [.cells k.cells])
  have hget2 := g3 _ _ hget
  simp only [Ke.cells] at hbox hget hget2 g1 ⊢
  obtain ⟨v0, v1, v2, v3⟩ := afield_vp5 (.int .i64 k.ff) (.int .i64 k.fc) (.int .i64 k.tf) (.int .i64 k.tc) (.int .i64 k.fl) H
  simp only [hbox, go_sem, g1, frz_of hget2, v0, v1, aload_vpc, aloadv_vpc, most_spec, g2.len, List.length_map]
  by_cases hin : max k.ff 1 ≤ ((fields line sep).length : Int)
  · have c1 : decide (((fields line sep).length : Int) < max k.ff 1) = false := by simp; omega
    have hff := hk.ff
    have hfc := hk.fc
    have hix : (max k.ff 1 - 1).toNat < (fields line sep).length := by omega
    obtain ⟨⟨a, b⟩, hab⟩ : ∃ p, (fields line sep)[(max k.ff 1 - 1).toNat]? = some p := ⟨_, List.getElem?_eq_getElem hix⟩
    obtain ⟨r1, r2⟩ := fields_in line sep _ (List.mem_of_getElem? hab)
    simp only at r1 r2
    have w0 : IntKind.i64.wrap (max k.ff 1 - 1) = max k.ff 1 - 1 := wrap64 (by omega) (by omega)
    have w1 : IntKind.i64.wrap (max k.fc 1 - 1) = max k.fc 1 - 1 := wrap64 (by omega) (by omega)
    have w2 : IntKind.i64.wrap ((b : Int) - a) = (b : Int) - a := wrap64 (by omega) (by omega)
    have w3 : IntKind.i64.wrap ((a : Int) + min (max k.fc 1 - 1) ((b : Int) - a)) = ((exFrom a b k : Nat) : Int) := by rw [wrap64 (by omega) (by omega)]; unfold exFrom; omega
    have hfl : exFrom a b k ≤ line.length := by unfold exFrom; omega
    rcases g2 with ⟨_, hnil⟩ | ⟨tt, te, rfl, _⟩
    · have : fields line sep = [] := by simpa using hnil
      rw [this] at hix
      simp at hix
    have hidx := idx_span (tok := .own tt te) (fs := fields line sep) (i := max k.ff 1 - 1) (by omega) hab
    obtain ⟨u0, u1⟩ := afield_vp2 (.int .i64 (a : Int)) (.int .i64 (b : Int))
    simp only [c1, go_sem, texttoolsref20_Extract_J1_eq, w0, hidx, aload_vp22, astore_last2, frz_last, u0, u1, aloadv_vpc, aload_vpc, w1, w2, least_spec, w3, v2]
    have fin : ∀ e : Nat, e ≤ line.length → e = exEnd line (fields line sep) k → ex line (fields line sep) k = (if e < exFrom a b k then [] else (line.take e).drop (exFrom a b k)) := by
      intro e _ he
      subst he
      unfold ex
      rw [if_pos hin, getD_of hab]
    by_cases ht : 0 < k.tf
    · have c2 : decide ((0 : Int) < k.tf) = true := by simp [ht]
      have htf := hk.tf
      simp only [c2, go_sem, aload_vpc, List.length_map, v2]
      by_cases hin2 : k.tf ≤ ((fields line sep).length : Int)
      · have c3 : decide (k.tf ≤ ((fields line sep).length : Int)) = true := by simp [hin2]
        have hix2 : (k.tf - 1).toNat < (fields line sep).length := by omega
        obtain ⟨⟨a2, b2⟩, hab2⟩ : ∃ p, (fields line sep)[(k.tf - 1).toNat]? = some p := ⟨_, List.getElem?_eq_getElem hix2⟩
        obtain ⟨s1, s2⟩ := fields_in line sep _ (List.mem_of_getElem? hab2)
        simp only at s1 s2
        have w6 : IntKind.i64.wrap (k.tf - 1) = k.tf - 1 := wrap64 (by omega) (by omega)
        have hidx2 := idx_span (tok := .own tt te) (fs := fields line sep) (i := k.tf - 1) (by omega) hab2
        obtain ⟨t0, t1⟩ := afield_vp2 (.int .i64 (a2 : Int)) (.int .i64 (b2 : Int))
        simp only [c3, go_sem, v2, aload_vpc, w6, hidx2, aload_vp22, astore_last2]
        have htc := hk.tc
        simp only [Nat.zero_add, aload_f1 (get_last _ _), List.getElem?_cons_zero, List.getElem?_cons_succ, go_sem, v3, aload_vpc]
        by_cases hc : 0 < k.tc
        · have c4 : decide ((0 : Int) < k.tc) = true := by simp [hc]
          have w4 : IntKind.i64.wrap ((b2 : Int) - a2) = (b2 : Int) - a2 := wrap64 (by omega) (by omega)
          have w5 : IntKind.i64.wrap ((a2 : Int) + min k.tc ((b2 : Int) - a2)) = ((a2 + (min k.tc ((b2 : Int) - a2)).toNat : Nat) : Int) := by rw [wrap64 (by omega) (by omega)]; omega
          simp only [c4, go_sem, frz_last, t0, t1, aloadv_vpc, aload_vpc, v3, w4, least_spec, w5]
          rw [rcut_spec hfl (by omega)]
          rw [fin (a2 + (min k.tc ((b2 : Int) - a2)).toNat) (by omega) (by unfold exEnd; rw [if_pos ⟨ht, hin2⟩, getD_of hab2]; simp [hc])]
          exact ⟨_, rfl⟩
        · have c4 : decide ((0 : Int) < k.tc) = false := by simp; omega
          simp only [c4, go_sem]
          rw [rcut_spec hfl s2]
          rw [fin b2 s2 (by unfold exEnd; rw [if_pos ⟨ht, hin2⟩, getD_of hab2]; simp [hc])]
          exact ⟨_, rfl⟩
      · have c3 : decide (k.tf ≤ ((fields line sep).length : Int)) = false := by simp; omega
        simp only [c3, go_sem]
        rw [rcut_spec hfl (Nat.le_refl _)]
        rw [fin line.length (Nat.le_refl _) (by unfold exEnd; rw [if_neg (fun h => hin2 h.2)])]
        exact ⟨_, rfl⟩
    · have c2 : decide ((0 : Int) < k.tf) = false := by simp; omega
      simp only [aload_vpc, go_sem, c2]
      rw [rcut_spec hfl (Nat.le_refl _)]
      rw [fin line.length (Nat.le_refl _) (by unfold exEnd; rw [if_neg (fun h => ht h.1)])]
      exact ⟨_, rfl⟩
  · have c1 : decide (((fields line sep).length : Int) < max k.ff 1) = true := by simp; omega
    simp only [c1, go_sem]
    have : ex line (fields line sep) k = [] := by unfold ex; rw [if_neg hin]
    rw [this]
    exact ⟨_, rfl⟩
/-- The statement on parts, but for the examples. -/
theorem Extracts_law {line : List UInt8} (hlen : line.length ≤ 1048576) {k : Ke} (hk : KeOk k) (sep : Int) (H : Hp) (awake : ∀ H, flatC C_texttoolslaw20_awake [] H = some (.bool true, H)) :
    ∃ H', C_texttoolslaw20_SortkeyExtracts [.str line, .agg k.cells, .int .i64 sep] H = some (.bool true, H') := by
  rw [F_texttoolslaw20_SortkeyExtracts_eq]
  unfold F_texttoolslaw20_SortkeyExtracts
  have hbox : abox (.agg k.cells) H = some (.ptr H.length 0, H ++ [.cells k.cells]) := abox_of rfl
  have hl5 : ∀ H, aload true 5 (.vp k.cells) H = some (.agg k.cells) := fun H => by simp [aload, Go.Am.apart, Ke.cells]
  have hv5 : aloadv true 5 (.vp k.cells) = some (.agg k.cells) := by simp [aloadv, Go.Am.apart, Ke.cells]
  simp only [hbox, go_sem, frz_last, hl5, hv5]
  obtain ⟨H1, e1, f1⟩ := extract_spec hlen hk sep (H ++ [.dead])
  obtain ⟨H2, e2⟩ := rextract_spec hlen hk sep H1
  have c : (ex line (fields line sep) k == ex line (fields line sep) k) = true := by simp
  simp only [e1, go_sem, e2, c, awake]
  exact ⟨_, rfl⟩
end Go.Am
