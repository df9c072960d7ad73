/-
  Specifications as arguments: printed both ways. Written by program (wip/sk/ske.py).
-/
import Derived.Test.YtijddagljnlfmaaGreatDoorSkD
namespace Go.Am
open Go.Proofs
set_option linter.unusedSimpArgs false
set_option linter.unusedVariables false

def keyS (k : Ke) : List UInt8 :=
  Lib.itoa k.ff ++ ((if k.fc = 1 then [] else [46] ++ Lib.itoa k.fc) ++ ((if k.tf = 0 then [] else [44] ++ (Lib.itoa k.tf ++ (if k.tc = 0 then [] else [46] ++ Lib.itoa k.tc))) ++ letS k.fl.toNat))
def keysS : List Ke → List (List UInt8)
  | [] => []
  | k :: l => [45, 107] :: keyS k :: keysS l
def sepS (sep : Int) : List (List UInt8) := if 0 ≤ sep then [[45, 116], [UInt8.ofNat sep.toNat]] else []
def printS (p : Spec) : List (List UInt8) :=
  if checkS p = 0 then (if p.flags = 0 then [] else [[45] ++ letS p.flags.toNat]) ++ ((if p.stab then [[45, 115]] else []) ++ ((if p.uniq then [[45, 117]] else []) ++ (sepS p.sep ++ keysS p.keys))) else []
theorem checkS_zero {p : Spec} (h : checkS p = 0) : p.keys.length ≤ 8 ∧ p.sep ≤ 255 ∧ 0 ≤ p.flags ∧ p.flags ≤ 31 ∧ ∀ k ∈ p.keys, 0 ≤ k.fl ∧ k.fl ≤ 31 := by
  unfold checkS at h
  split at h
  · cases h
  · rename_i h8
    split at h
    · cases h
    · rename_i hs
      split at h
      · cases h
      · rename_i hk
        simp only [Bool.or_eq_true, decide_eq_true_eq, beq_iff_eq, not_or] at hs
        refine ⟨by omega, by omega, by omega, by omega, fun k hm => ?_⟩
        have : keyBad k = false := by
          cases hb : keyBad k with
          | false => rfl
          | true => exact absurd (List.any_eq_true.2 ⟨k, hm, hb⟩) hk
        unfold keyBad at this
        simp only [Bool.or_eq_false_iff, decide_eq_false_iff_not] at this
        omega
theorem set1 (v : List UInt8) : (setElems 1 [(0, .str v)] [.str []]).map (AV.vs 1 .clip) = some (.vs 1 .clip [.str v]) := by
  simp [setElems, AV.known, AV.cells]
theorem set2 (v w : List UInt8) : (setElems 1 [(0, .str v), (1, .str w)] [.str [], .str []]).map (AV.vs 1 .clip) = some (.vs 1 .clip [.str v, .str w]) := by
  simp [setElems, AV.known, AV.cells]
theorem bnd_assoc3 {α β γ δ : Type} (a : Option α) (b : α → Option β) (c : β → Option γ) (k : γ → Option δ) : (bnd a fun x => bnd (b x) fun y => bnd (c y) k) = bnd (bnd a fun x => bnd (b x) c) k := by
  cases a with
  | none => rfl
  | some x => simp only [bnd_some]; cases b x with
    | none => rfl
    | some y => simp only [bnd_some]
theorem byte_str {n : Int} (h0 : 0 ≤ n) (h1 : n ≤ 255) : (bnd (cvInt .u8 (.int .i64 n)) fun t => bnd ((setElems 1 [(0, t)] [(.int .u8 0)]).map (AV.vs 1 .clip)) cvOfBytes) = some (.str [UInt8.ofNat n.toNat]) := by
  have hcv : cvInt .u8 (.int .i64 n) = some (.int .u8 n) := by
    have : IntKind.u8.wrap n = n := by
      unfold IntKind.wrap
      have e1 : (2 ^ IntKind.u8.bits : Int) = 256 := by decide
      have e3 : IntKind.u8.signed = false := rfl
      simp only [e1, e3, Bool.false_and, Bool.false_eq_true, if_false]
      omega
    simp [cvInt, this]
  have hbv : AV.int .u8 n = bv (UInt8.ofNat n.toNat) := by
    unfold bv
    congr 1
    simp
    omega
  have hset : (setElems 1 [(0, .int .u8 n)] [.int .u8 0]).map (AV.vs 1 .clip) = some (.vs 1 .clip [.int .u8 n]) := by
    simp [setElems, AV.known, AV.cells]
  simp only [hcv, go_sem, hset]
  rw [hbv]
  exact cvOf_map .clip [UInt8.ofNat n.toNat]
theorem aload_last5 (H : Hp) (a b c d e : AV) : aload true 5 (.ptr H.length 0) (H ++ [.cells [a, b, c, d, e]]) = some (.agg [a, b, c, d, e]) := by
  rw [aload_of (get_last _ _)]
  simp [Go.Am.apart]
theorem keyT_spec {k : Ke} (hk : KeOk k) (h0 : 0 ≤ k.fl) (h1 : k.fl ≤ 31) (H : Hp) : ∃ H', C_sortkey_keyText [k.av] H = some (.str (keyS k), H') := by
  rw [F_sortkey_keyText_eq]
  unfold F_sortkey_keyText Ke.av keyS
  obtain ⟨n, hn⟩ : ∃ n : Nat, k.fl = (n : Int) := ⟨k.fl.toNat, by omega⟩
  have l1 := itoa_len hk.ff.1 hk.ff.2
  have l2 := itoa_len hk.fc.1 hk.fc.2
  have l3 := itoa_len hk.tf.1 hk.tf.2
  have l4 := itoa_len hk.tc.1 hk.tc.2
  have l5 := letS_len n
  simp only [go_sem, Nat.zero_add, Ke.cells, List.getElem?_cons_zero, List.getElem?_cons_succ, nfmt_ok hk.ff.1 hk.ff.2]
  have j2 : ∀ s : List UInt8, s.length ≤ 200 → ∃ H', sortkey_keyText_J2 (.ptr H.length 0) (.str s) H (H ++ [.cells [.int .i64 k.ff, .int .i64 k.fc, .int .i64 k.tf, .int .i64 k.tc, .int .i64 k.fl]]) = some (.str (s ++ letS k.fl.toNat), H') := by
    intro s hs
    rw [sortkey_keyText_J2_eq]
    simp only [go_sem, Nat.zero_add, List.getElem?_cons_zero, List.getElem?_cons_succ, hn, text_ok (n := n) (by omega), sbin_add (a := s) (b := letS n) (by omega)]
    exact ⟨_, by rw [show ((n : Int)).toNat = n by omega]⟩
  have j1 : ∀ s : List UInt8, s.length ≤ 100 → ∃ H', sortkey_keyText_J1 (.ptr H.length 0) (.str s) H (H ++ [.cells [.int .i64 k.ff, .int .i64 k.fc, .int .i64 k.tf, .int .i64 k.tc, .int .i64 k.fl]]) =
      some (.str (s ++ ((if k.tf = 0 then [] else [44] ++ (Lib.itoa k.tf ++ (if k.tc = 0 then [] else [46] ++ Lib.itoa k.tc))) ++ letS k.fl.toNat)), H') := by
    intro s hs
    rw [sortkey_keyText_J1_eq]
    simp only [go_sem, Nat.zero_add, List.getElem?_cons_zero, List.getElem?_cons_succ]
    by_cases ht : k.tf = 0
    · have c : (k.tf != 0) = false := by simpa using ht
      rw [if_pos ht]
      simp only [c, go_sem, List.nil_append]
      exact j2 s (by omega)
    · have c : (k.tf != 0) = true := by simpa using ht
      rw [if_neg ht]
      simp only [c, go_sem, Nat.zero_add, List.getElem?_cons_zero, List.getElem?_cons_succ, nfmt_ok hk.tf.1 hk.tf.2, sbin_add (a := [44]) (b := Lib.itoa k.tf) (by simp; omega),
        sbin_add (a := s) (b := [44] ++ Lib.itoa k.tf) (by simp; omega)]
      by_cases hc : k.tc = 0
      · have c : (k.tc != 0) = false := by simpa using hc
        rw [if_pos hc]
        simp only [c, go_sem]
        obtain ⟨H', e⟩ := j2 (s ++ ([44] ++ Lib.itoa k.tf)) (by simp; omega)
        exact ⟨H', by rw [e]; simp⟩
      · have c : (k.tc != 0) = true := by simpa using hc
        rw [if_neg hc]
        simp only [c, go_sem, Nat.zero_add, List.getElem?_cons_zero, List.getElem?_cons_succ, nfmt_ok hk.tc.1 hk.tc.2, sbin_add (a := [46]) (b := Lib.itoa k.tc) (by simp; omega),
          sbin_add (a := s ++ ([44] ++ Lib.itoa k.tf)) (b := [46] ++ Lib.itoa k.tc) (by simp; omega)]
        obtain ⟨H', e⟩ := j2 (s ++ ([44] ++ Lib.itoa k.tf) ++ ([46] ++ Lib.itoa k.tc)) (by simp; omega)
        exact ⟨H', by rw [e]; simp⟩
  by_cases hc : k.fc = 1
  · have c : (k.fc != 1) = false := by simpa using hc
    rw [if_pos hc]
    simp only [c, go_sem, List.nil_append]
    exact j1 _ (by omega)
  · have c : (k.fc != 1) = true := by simpa using hc
    rw [if_neg hc]
    simp only [c, go_sem, Nat.zero_add, List.getElem?_cons_zero, List.getElem?_cons_succ, nfmt_ok hk.fc.1 hk.fc.2, sbin_add (a := [46]) (b := Lib.itoa k.fc) (by simp; omega),
      sbin_add (a := Lib.itoa k.ff) (b := [46] ++ Lib.itoa k.fc) (by simp; omega)]
    obtain ⟨H', e⟩ := j1 (Lib.itoa k.ff ++ ([46] ++ Lib.itoa k.fc)) (by simp; omega)
    exact ⟨H', by rw [e]; simp⟩
theorem keyT_ok {k : Ke} (hk : KeOk k) (h0 : 0 ≤ k.fl) (h1 : k.fl ≤ 31) (H : Hp) : flatC C_sortkey_keyText [.agg k.cells] H = some (.str (keyS k), H) := by
  obtain ⟨H', h3⟩ := keyT_spec hk h0 h1 []
  exact flat1 (a := k.av) (k.close [] 0 4) h3 rfl
theorem rkeyT_spec {k : Ke} (hk : KeOk k) (h0 : 0 ≤ k.fl) (h1 : k.fl ≤ 31) (H : Hp) : ∃ H', C_texttoolsref20_text [k.av] H = some (.str (keyS k), H') := by
  rw [F_texttoolsref20_text_eq]
  unfold F_texttoolsref20_text Ke.av keyS
  obtain ⟨n, hn⟩ : ∃ n : Nat, k.fl = (n : Int) := ⟨k.fl.toNat, by omega⟩
  have l1 := itoa_len hk.ff.1 hk.ff.2
  have l2 := itoa_len hk.fc.1 hk.fc.2
  have l3 := itoa_len hk.tf.1 hk.tf.2
  have l4 := itoa_len hk.tc.1 hk.tc.2
  have l5 := letS_len n
  simp only [go_sem, Nat.zero_add, Ke.cells, List.getElem?_cons_zero, List.getElem?_cons_succ, rfmt_ok hk.ff.1 hk.ff.2]
  have j2 : ∀ s : List UInt8, s.length ≤ 200 → ∃ H', texttoolsref20_text_J2 (.ptr H.length 0) (.str s) H (H ++ [.cells [.int .i64 k.ff, .int .i64 k.fc, .int .i64 k.tf, .int .i64 k.tc, .int .i64 k.fl]]) = some (.str (s ++ letS k.fl.toNat), H') := by
    intro s hs
    rw [texttoolsref20_text_J2_eq]
    simp only [go_sem, Nat.zero_add, List.getElem?_cons_zero, List.getElem?_cons_succ, hn, letters_ok (n := n) (by omega), sbin_add (a := s) (b := letS n) (by omega)]
    exact ⟨_, by rw [show ((n : Int)).toNat = n by omega]⟩
  have j1 : ∀ s : List UInt8, s.length ≤ 100 → ∃ H', texttoolsref20_text_J1 (.ptr H.length 0) (.str s) H (H ++ [.cells [.int .i64 k.ff, .int .i64 k.fc, .int .i64 k.tf, .int .i64 k.tc, .int .i64 k.fl]]) =
      some (.str (s ++ ((if k.tf = 0 then [] else [44] ++ (Lib.itoa k.tf ++ (if k.tc = 0 then [] else [46] ++ Lib.itoa k.tc))) ++ letS k.fl.toNat)), H') := by
    intro s hs
    rw [texttoolsref20_text_J1_eq]
    simp only [go_sem, Nat.zero_add, List.getElem?_cons_zero, List.getElem?_cons_succ]
    by_cases ht : k.tf = 0
    · have c : (k.tf != 0) = false := by simpa using ht
      rw [if_pos ht]
      simp only [c, go_sem, List.nil_append]
      exact j2 s (by omega)
    · have c : (k.tf != 0) = true := by simpa using ht
      rw [if_neg ht]
      simp only [c, go_sem, Nat.zero_add, List.getElem?_cons_zero, List.getElem?_cons_succ, rfmt_ok hk.tf.1 hk.tf.2, sbin_add (a := s) (b := [44]) (by simp; omega),
        sbin_add (a := s ++ [44]) (b := Lib.itoa k.tf) (by simp; omega)]
      by_cases hc : k.tc = 0
      · have c : (k.tc != 0) = false := by simpa using hc
        rw [if_pos hc]
        simp only [c, go_sem]
        obtain ⟨H', e⟩ := j2 (s ++ [44] ++ Lib.itoa k.tf) (by simp; omega)
        exact ⟨H', by rw [e]; simp⟩
      · have c : (k.tc != 0) = true := by simpa using hc
        rw [if_neg hc]
        simp only [c, go_sem, Nat.zero_add, List.getElem?_cons_zero, List.getElem?_cons_succ, rfmt_ok hk.tc.1 hk.tc.2, sbin_add (a := s ++ [44] ++ Lib.itoa k.tf) (b := [46]) (by simp; omega),
          sbin_add (a := s ++ [44] ++ Lib.itoa k.tf ++ [46]) (b := Lib.itoa k.tc) (by simp; omega)]
        obtain ⟨H', e⟩ := j2 (s ++ [44] ++ Lib.itoa k.tf ++ [46] ++ Lib.itoa k.tc) (by simp; omega)
        exact ⟨H', by rw [e]; simp⟩
  by_cases hc : k.fc = 1
  · have c : (k.fc != 1) = false := by simpa using hc
    rw [if_pos hc]
    simp only [c, go_sem, List.nil_append]
    exact j1 _ (by omega)
  · have c : (k.fc != 1) = true := by simpa using hc
    rw [if_neg hc]
    simp only [c, go_sem, Nat.zero_add, List.getElem?_cons_zero, List.getElem?_cons_succ, rfmt_ok hk.fc.1 hk.fc.2, sbin_add (a := Lib.itoa k.ff) (b := [46]) (by simp; omega),
      sbin_add (a := Lib.itoa k.ff ++ [46]) (b := Lib.itoa k.fc) (by simp; omega)]
    obtain ⟨H', e⟩ := j1 (Lib.itoa k.ff ++ [46] ++ Lib.itoa k.fc) (by simp; omega)
    exact ⟨H', by rw [e]; simp⟩
theorem rkeyT_ok {k : Ke} (hk : KeOk k) (h0 : 0 ≤ k.fl) (h1 : k.fl ≤ 31) (H : Hp) : flatC C_texttoolsref20_text [.agg k.cells] H = some (.str (keyS k), H) := by
  obtain ⟨H', h3⟩ := rkeyT_spec hk h0 h1 []
  exact flat1 (a := k.av) (k.close [] 0 4) h3 rfl
theorem rlet_ok {n : Nat} (hn : n < 32) (H : Hp) : flatC C_texttoolsref20_letters [.int .i64 n] H = some (.str (letS n), H) := letters_ok hn H

theorem pr_L1 {x : AV} {l : List Ke} (h : Sl 5 x (l.map Ke.av)) (hl : l.length ≤ 8) (hk : ∀ k ∈ l, KeOk k ∧ 0 ≤ k.fl ∧ k.fl ≤ 31) {H0 : Hp} {r : List AV} : ∀ (m i : Nat) (y : AV) (acc : List (List UInt8)) (H : Hp), l.length - i = m → i ≤ l.length → acc.length ≤ 100 + 2 * i →
    RowN H0.length H 1 y (acc.map AV.str) → Keep H0.length H0 H → H0.length ≤ H.length → H[H0.length]? = some (.cells (x :: r)) →
    ∃ y', sortkey_Print_L1 y x (.int .i64 (l.length : Int)) (.int .i64 (i : Int)) H0 H = some (y', H0) ∧ Sl 1 y' ((acc ++ keysS (l.drop i)).map AV.str) := by
  have hlen := h.len 34
  rw [List.length_map] at hlen
  intro m
  induction m with
  | zero =>
    intro i y acc H hm hi ha hr hkp hle ho
    rw [sortkey_Print_L1_eq]
    have hlt : decide ((i : Int) < (l.length : Int)) = false := by simp; omega
    have hd : l.drop i = [] := List.drop_eq_nil_iff.2 (by omega)
    simp only [go_sem, Nat.zero_add, aload_f1 ho, List.getElem?_cons_zero, hlen, hlt, sortkey_Print_J6_eq, hd, keysS, List.append_nil]
    exact leave_row hkp hle hr.sl (fun c hc => by
      obtain ⟨s, _, rfl⟩ := List.mem_map.1 hc
      rfl)
  | succ m ih =>
    intro i y acc H hm hi ha hr hkp hle ho
    rw [sortkey_Print_L1_eq]
    have hl1 : i < l.length := by omega
    have hlt : decide ((i : Int) < (l.length : Int)) = true := by simp; omega
    have hw : IntKind.i64.wrap ((i : Int) + 1) = ((i + 1 : Nat) : Int) := by rw [wrap64 (by omega) (by omega)]; omega
    obtain ⟨k1, k2, k3⟩ := hk l[i] (List.getElem_mem hl1)
    simp only [go_sem, Nat.zero_add, aload_f1 ho, List.getElem?_cons_zero, hlen, hlt, sortkey_Print_J7_eq, h.key (List.getElem?_eq_getElem hl1), aload_vp5]
    simp only [astore_last5 H l[i] [.int .i64 0, .int .i64 0, .int .i64 0, .int .i64 0, .int .i64 0] rfl]
    obtain ⟨y1, H1, g1, g2, g3, g4, g5⟩ := (hr.push [.cells l[i].cells]).app (by simp; omega) 16 (.vs 1 .clip [.str [45, 107], .str (keyS l[i])]) [.str [45, 107], .str (keyS l[i])] (by simp [elems]) (by simp; omega)
    have hal : aload true 5 (.ptr H.length 0) (H ++ [.cells l[i].cells]) = some (.agg l[i].cells) := aload_last5 H _ _ _ _ _
    simp only [go_sem, hal]
    rw [List.drop_eq_getElem_cons hl1]
    simp only [keyT_ok k1 k2 k3, set2, go_sem, g1, sortkey_Print_J8_eq, hw]
    obtain ⟨y', q1, q2⟩ := ih (i + 1) y1 (acc ++ [[45, 107], keyS l[i]]) H1 (by omega) (by omega) (by simp; omega) (by simpa using g2) ((hkp.trans (Keep.push H hle [.cells l[i].cells])).trans g4) g3 (g5 _ _ (get_push ho _))
    refine ⟨y', q1, ?_⟩
    simpa [keysS] using q2
theorem pr_J4 {x : AV} {p : Spec} (h : Sl 5 x (p.keys.map Ke.av)) (hl : p.keys.length ≤ 8) (hk : ∀ k ∈ p.keys, KeOk k ∧ 0 ≤ k.fl ∧ k.fl ≤ 31) (hsep : p.sep ≤ 255) {H0 : Hp} {y : AV} {acc : List (List UInt8)} {H : Hp} (ha : acc.length ≤ 50)
    (hr : RowN H0.length H 1 y (acc.map AV.str)) (hkp : Keep H0.length H0 H) (hle : H0.length ≤ H.length) (ho : H[H0.length]? = some (.cells (p.cells x))) :
    ∃ y', sortkey_Print_J4 (.ptr H0.length 0) y H0 H = some (y', H0) ∧ Sl 1 y' ((acc ++ (sepS p.sep ++ keysS p.keys)).map AV.str) := by
  have hlen := h.len 34
  rw [List.length_map] at hlen
  rw [sortkey_Print_J4_eq]
  unfold Spec.cells at ho
  simp only [go_sem, Nat.zero_add, aload_f1 ho, List.getElem?_cons_zero, List.getElem?_cons_succ]
  unfold sepS
  by_cases hs : 0 ≤ p.sep
  · have c : decide (0 ≤ p.sep) = true := by simpa using hs
    obtain ⟨y1, H1, g1, g2, g3, g4, g5⟩ := hr.app hle 16 (.vs 1 .clip [.str [45, 116], .str [UInt8.ofNat p.sep.toNat]]) [.str [45, 116], .str [UInt8.ofNat p.sep.toNat]] (by simp [elems]) (by simp; omega)
    have hb : (bnd (cvInt .u8 (.int .i64 p.sep)) fun t => bnd ((setElems 1 [(0, t)] [(.int .u8 0)]).map (AV.vs 1 .clip)) cvOfBytes) = some (.str [UInt8.ofNat p.sep.toNat]) := byte_str hs hsep
    simp only [c, go_sem, if_pos hs, Nat.zero_add, aload_f1 ho, List.getElem?_cons_zero, List.getElem?_cons_succ]
    rw [bnd_assoc3, hb]
    simp only [go_sem, set2, g1, sortkey_Print_J5_eq, Nat.zero_add, aload_f1 (g5 _ _ ho), List.getElem?_cons_zero, hlen]
    obtain ⟨y', q1, q2⟩ := pr_L1 h hl hk p.keys.length 0 y1 (acc ++ [[45, 116], [UInt8.ofNat p.sep.toNat]]) H1 (by omega) (by omega) (by simp; omega) (by simpa using g2) (hkp.trans g4) g3 (g5 _ _ ho)
    exact ⟨y', q1, by simpa using q2⟩
  · have c : decide (0 ≤ p.sep) = false := by simpa using hs
    simp only [c, go_sem, if_neg hs, sortkey_Print_J5_eq, Nat.zero_add, aload_f1 ho, List.getElem?_cons_zero, hlen]
    obtain ⟨y', q1, q2⟩ := pr_L1 h hl hk p.keys.length 0 y acc H (by omega) (by omega) (by omega) hr hkp hle ho
    exact ⟨y', q1, by simpa using q2⟩
theorem pr_J3 {x : AV} {p : Spec} (h : Sl 5 x (p.keys.map Ke.av)) (hl : p.keys.length ≤ 8) (hk : ∀ k ∈ p.keys, KeOk k ∧ 0 ≤ k.fl ∧ k.fl ≤ 31) (hsep : p.sep ≤ 255) {H0 : Hp} {y : AV} {acc : List (List UInt8)} {H : Hp} (ha : acc.length ≤ 40)
    (hr : RowN H0.length H 1 y (acc.map AV.str)) (hkp : Keep H0.length H0 H) (hle : H0.length ≤ H.length) (ho : H[H0.length]? = some (.cells (p.cells x))) :
    ∃ y', sortkey_Print_J3 (.ptr H0.length 0) y H0 H = some (y', H0) ∧ Sl 1 y' ((acc ++ ((if p.uniq then [[45, 117]] else []) ++ (sepS p.sep ++ keysS p.keys))).map AV.str) := by
  rw [sortkey_Print_J3_eq]
  have ho2 := ho
  unfold Spec.cells at ho2
  simp only [go_sem, Nat.zero_add, aload_f1 ho2, List.getElem?_cons_zero, List.getElem?_cons_succ]
  cases hu : p.uniq with
  | true =>
    obtain ⟨y1, H1, g1, g2, g3, g4, g5⟩ := hr.app hle 16 (.vs 1 .clip [.str [45, 117]]) [.str [45, 117]] (by simp [elems]) (by simp; omega)
    simp only [go_sem, set1, g1, if_true]
    obtain ⟨y', q1, q2⟩ := pr_J4 h hl hk hsep (acc := acc ++ [[45, 117]]) (by simp; omega) (by simpa using g2) (hkp.trans g4) g3 (g5 _ _ ho)
    exact ⟨y', q1, by simpa using q2⟩
  | false =>
    simp only [go_sem, Bool.false_eq_true, if_false]
    obtain ⟨y', q1, q2⟩ := pr_J4 h hl hk hsep (acc := acc) (by omega) hr hkp hle ho
    exact ⟨y', q1, by simpa using q2⟩
theorem pr_J2 {x : AV} {p : Spec} (h : Sl 5 x (p.keys.map Ke.av)) (hl : p.keys.length ≤ 8) (hk : ∀ k ∈ p.keys, KeOk k ∧ 0 ≤ k.fl ∧ k.fl ≤ 31) (hsep : p.sep ≤ 255) {H0 : Hp} {y : AV} {acc : List (List UInt8)} {H : Hp} (ha : acc.length ≤ 30)
    (hr : RowN H0.length H 1 y (acc.map AV.str)) (hkp : Keep H0.length H0 H) (hle : H0.length ≤ H.length) (ho : H[H0.length]? = some (.cells (p.cells x))) :
    ∃ y', sortkey_Print_J2 (.ptr H0.length 0) y H0 H = some (y', H0) ∧ Sl 1 y' ((acc ++ ((if p.stab then [[45, 115]] else []) ++ ((if p.uniq then [[45, 117]] else []) ++ (sepS p.sep ++ keysS p.keys)))).map AV.str) := by
  rw [sortkey_Print_J2_eq]
  have ho2 := ho
  unfold Spec.cells at ho2
  simp only [go_sem, Nat.zero_add, aload_f1 ho2, List.getElem?_cons_zero, List.getElem?_cons_succ]
  cases hu : p.stab with
  | true =>
    obtain ⟨y1, H1, g1, g2, g3, g4, g5⟩ := hr.app hle 16 (.vs 1 .clip [.str [45, 115]]) [.str [45, 115]] (by simp [elems]) (by simp; omega)
    simp only [go_sem, set1, g1, if_true]
    obtain ⟨y', q1, q2⟩ := pr_J3 h hl hk hsep (acc := acc ++ [[45, 115]]) (by simp; omega) (by simpa using g2) (hkp.trans g4) g3 (g5 _ _ ho)
    exact ⟨y', q1, by simpa using q2⟩
  | false =>
    simp only [go_sem, Bool.false_eq_true, if_false]
    obtain ⟨y', q1, q2⟩ := pr_J3 h hl hk hsep (acc := acc) (by omega) hr hkp hle ho
    exact ⟨y', q1, by simpa using q2⟩
theorem pr_ok {a : AV} {p : Spec} (h : SpecAV a p) (hw : ∀ k ∈ p.keys, KeOk k) (H : Hp) : ∃ y, C_sortkey_Print [a] H = some (y, H) ∧ Sl 1 y ((printS p).map AV.str) := by
  rw [F_sortkey_Print_eq]
  unfold F_sortkey_Print printS
  have hck := check_flat h
  obtain ⟨x, rfl, hx⟩ := h
  unfold Spec.cells at hck
  simp only [Spec.cells, go_sem, aload_last5, hck]
  by_cases hz : checkS p = 0
  · have c : (checkS p != 0) = false := by simpa using hz
    obtain ⟨z1, z2, z3, z4, z5⟩ := checkS_zero hz
    have hkp : Keep H.length H (H ++ [.cells (p.cells x)]) := Keep.push H (Nat.le_refl _) _
    have hk : ∀ k ∈ p.keys, KeOk k ∧ 0 ≤ k.fl ∧ k.fl ≤ 31 := fun k hk => ⟨hw k hk, (z5 k hk).1, (z5 k hk).2⟩
    have ho := get_last H (.cells (p.cells x))
    simp only [c, go_sem, sortkey_Print_J1_eq, Nat.zero_add, List.getElem?_cons_zero, List.getElem?_cons_succ]
    rw [if_pos hz]
    by_cases hf : p.flags = 0
    · have c2 : (p.flags != 0) = false := by simpa using hf
      simp only [c2, go_sem]
      obtain ⟨y', q1, q2⟩ := pr_J2 hx z1 hk z2 (H0 := H) (acc := []) (by simp) (RowN.nil _ _ _) hkp (by simp) ho
      rw [if_pos hf]
      exact ⟨y', q1, by simpa using q2⟩
    · obtain ⟨n, hn⟩ : ∃ n : Nat, p.flags = (n : Int) := ⟨p.flags.toNat, by omega⟩
      have c2 : (((n : Nat) : Int) != 0) = true := by rw [← hn]; simpa using hf
      have ht := text_ok (n := n) (by omega) (H ++ [.cells (p.cells x)])
      have hll := letS_len n
      simp only [Spec.cells, hn] at ht
      obtain ⟨y1, H1, g1, g2, g3, g4, g5⟩ := (RowN.nil H.length (H ++ [.cells (p.cells x)]) 1).app (by simp) 16 (.vs 1 .clip [.str ([45] ++ letS n)]) [.str ([45] ++ letS n)] (by simp [elems]) (by simp)
      simp only [Spec.cells, hn] at g1
      simp only [c2, go_sem, Nat.zero_add, List.getElem?_cons_zero, List.getElem?_cons_succ, hn, ht, sbin_add (a := [45]) (b := letS n) (by simp; omega), set1]
      simp only [g1, go_sem]
      obtain ⟨y', q1, q2⟩ := pr_J2 hx z1 hk z2 (H0 := H) (acc := [[45] ++ letS n]) (by simp) (by simpa using g2) (hkp.trans g4) g3 (g5 _ _ ho)
      rw [if_neg (by omega)]
      exact ⟨y', q1, by simpa using q2⟩
  · have c : (checkS p != 0) = true := by simpa using hz
    rw [if_neg hz]
    simp only [c, go_sem]
    have : leaveP H .nils (H ++ [.cells [x, .int .i64 p.sep, .int .i64 p.flags, .bool p.uniq, .bool p.stab]]) = some (.nils, H) := by
      unfold leaveP
      rw [if_pos (by simp)]
      rfl
    exact ⟨.nils, this, .inl ⟨rfl, rfl⟩⟩

theorem rpr_L1 {x : AV} {l : List Ke} (h : Sl 5 x (l.map Ke.av)) (hl : l.length ≤ 8) (hk : ∀ k ∈ l, KeOk k ∧ 0 ≤ k.fl ∧ k.fl ≤ 31) {H0 : Hp} {r : List AV} : ∀ (m i : Nat) (y : AV) (acc : List (List UInt8)) (H : Hp), l.length - i = m → i ≤ l.length → acc.length ≤ 100 + 2 * i →
    RowN H0.length H 1 y (acc.map AV.str) → Keep H0.length H0 H → H0.length ≤ H.length → H[H0.length]? = some (.cells (x :: r)) →
    ∃ y', texttoolsref20_Print_L1 (.ptr H0.length 0) y (.int .i64 (i : Int)) H0 H = some (y', H0) ∧ Sl 1 y' ((acc ++ keysS (l.drop i)).map AV.str) := by
  have hlen := h.len 34
  rw [List.length_map] at hlen
  intro m
  induction m with
  | zero =>
    intro i y acc H hm hi ha hr hkp hle ho
    rw [texttoolsref20_Print_L1_eq]
    have hlt : decide ((i : Int) < (l.length : Int)) = false := by simp; omega
    have hd : l.drop i = [] := List.drop_eq_nil_iff.2 (by omega)
    simp only [go_sem, Nat.zero_add, aload_f1 ho, List.getElem?_cons_zero, hlen, hlt, texttoolsref20_Print_J6_eq, hd, keysS, List.append_nil]
    exact leave_row hkp hle hr.sl (fun c hc => by
      obtain ⟨s, _, rfl⟩ := List.mem_map.1 hc
      rfl)
  | succ m ih =>
    intro i y acc H hm hi ha hr hkp hle ho
    rw [texttoolsref20_Print_L1_eq]
    have hl1 : i < l.length := by omega
    have hlt : decide ((i : Int) < (l.length : Int)) = true := by simp; omega
    have hw : IntKind.i64.wrap ((i : Int) + 1) = ((i + 1 : Nat) : Int) := by rw [wrap64 (by omega) (by omega)]; omega
    obtain ⟨k1, k2, k3⟩ := hk l[i] (List.getElem_mem hl1)
    simp only [go_sem, Nat.zero_add, aload_f1 ho, List.getElem?_cons_zero, hlen, hlt, texttoolsref20_Print_J7_eq, h.key (List.getElem?_eq_getElem hl1), aload_vp5]
    obtain ⟨y1, H1, g1, g2, g3, g4, g5⟩ := hr.app hle 16 (.vs 1 .clip [.str [45, 107], .str (keyS l[i])]) [.str [45, 107], .str (keyS l[i])] (by simp [elems]) (by simp; omega)
    rw [List.drop_eq_getElem_cons hl1]
    simp only [rkeyT_ok k1 k2 k3, set2, go_sem, g1, texttoolsref20_Print_J8_eq, hw]
    obtain ⟨y', q1, q2⟩ := ih (i + 1) y1 (acc ++ [[45, 107], keyS l[i]]) H1 (by omega) (by omega) (by simp; omega) (by simpa using g2) (hkp.trans g4) g3 (g5 _ _ ho)
    refine ⟨y', q1, ?_⟩
    simpa [keysS] using q2
theorem rpr_J4 {x : AV} {p : Spec} (h : Sl 5 x (p.keys.map Ke.av)) (hl : p.keys.length ≤ 8) (hk : ∀ k ∈ p.keys, KeOk k ∧ 0 ≤ k.fl ∧ k.fl ≤ 31) (hsep : p.sep ≤ 255) {H0 : Hp} {y : AV} {acc : List (List UInt8)} {H : Hp} (ha : acc.length ≤ 50)
    (hr : RowN H0.length H 1 y (acc.map AV.str)) (hkp : Keep H0.length H0 H) (hle : H0.length ≤ H.length) (ho : H[H0.length]? = some (.cells (p.cells x))) :
    ∃ y', texttoolsref20_Print_J4 (.ptr H0.length 0) y H0 H = some (y', H0) ∧ Sl 1 y' ((acc ++ (sepS p.sep ++ keysS p.keys)).map AV.str) := by
  have hlen := h.len 34
  rw [List.length_map] at hlen
  rw [texttoolsref20_Print_J4_eq]
  unfold Spec.cells at ho
  simp only [go_sem, Nat.zero_add, aload_f1 ho, List.getElem?_cons_zero, List.getElem?_cons_succ]
  unfold sepS
  by_cases hs : 0 ≤ p.sep
  · have c : decide (0 ≤ p.sep) = true := by simpa using hs
    obtain ⟨y1, H1, g1, g2, g3, g4, g5⟩ := hr.app hle 16 (.vs 1 .clip [.str [45, 116], .str [UInt8.ofNat p.sep.toNat]]) [.str [45, 116], .str [UInt8.ofNat p.sep.toNat]] (by simp [elems]) (by simp; omega)
    have hb : (bnd (cvInt .u8 (.int .i64 p.sep)) fun t => bnd ((setElems 1 [(0, t)] [(.int .u8 0)]).map (AV.vs 1 .clip)) cvOfBytes) = some (.str [UInt8.ofNat p.sep.toNat]) := byte_str hs hsep
    simp only [c, go_sem, if_pos hs, Nat.zero_add, aload_f1 ho, List.getElem?_cons_zero, List.getElem?_cons_succ]
    rw [bnd_assoc3, hb]
    simp only [go_sem, set2, g1, texttoolsref20_Print_J5_eq, Nat.zero_add, aload_f1 (g5 _ _ ho), List.getElem?_cons_zero, hlen]
    obtain ⟨y', q1, q2⟩ := rpr_L1 h hl hk p.keys.length 0 y1 (acc ++ [[45, 116], [UInt8.ofNat p.sep.toNat]]) H1 (by omega) (by omega) (by simp; omega) (by simpa using g2) (hkp.trans g4) g3 (g5 _ _ ho)
    exact ⟨y', q1, by simpa using q2⟩
  · have c : decide (0 ≤ p.sep) = false := by simpa using hs
    simp only [c, go_sem, if_neg hs, texttoolsref20_Print_J5_eq, Nat.zero_add, aload_f1 ho, List.getElem?_cons_zero, hlen]
    obtain ⟨y', q1, q2⟩ := rpr_L1 h hl hk p.keys.length 0 y acc H (by omega) (by omega) (by omega) hr hkp hle ho
    exact ⟨y', q1, by simpa using q2⟩
theorem rpr_J3 {x : AV} {p : Spec} (h : Sl 5 x (p.keys.map Ke.av)) (hl : p.keys.length ≤ 8) (hk : ∀ k ∈ p.keys, KeOk k ∧ 0 ≤ k.fl ∧ k.fl ≤ 31) (hsep : p.sep ≤ 255) {H0 : Hp} {y : AV} {acc : List (List UInt8)} {H : Hp} (ha : acc.length ≤ 40)
    (hr : RowN H0.length H 1 y (acc.map AV.str)) (hkp : Keep H0.length H0 H) (hle : H0.length ≤ H.length) (ho : H[H0.length]? = some (.cells (p.cells x))) :
    ∃ y', texttoolsref20_Print_J3 (.ptr H0.length 0) y H0 H = some (y', H0) ∧ Sl 1 y' ((acc ++ ((if p.uniq then [[45, 117]] else []) ++ (sepS p.sep ++ keysS p.keys))).map AV.str) := by
  rw [texttoolsref20_Print_J3_eq]
  have ho2 := ho
  unfold Spec.cells at ho2
  simp only [go_sem, Nat.zero_add, aload_f1 ho2, List.getElem?_cons_zero, List.getElem?_cons_succ]
  cases hu : p.uniq with
  | true =>
    obtain ⟨y1, H1, g1, g2, g3, g4, g5⟩ := hr.app hle 16 (.vs 1 .clip [.str [45, 117]]) [.str [45, 117]] (by simp [elems]) (by simp; omega)
    simp only [go_sem, set1, g1, if_true]
    obtain ⟨y', q1, q2⟩ := rpr_J4 h hl hk hsep (acc := acc ++ [[45, 117]]) (by simp; omega) (by simpa using g2) (hkp.trans g4) g3 (g5 _ _ ho)
    exact ⟨y', q1, by simpa using q2⟩
  | false =>
    simp only [go_sem, Bool.false_eq_true, if_false]
    obtain ⟨y', q1, q2⟩ := rpr_J4 h hl hk hsep (acc := acc) (by omega) hr hkp hle ho
    exact ⟨y', q1, by simpa using q2⟩
theorem rpr_J2 {x : AV} {p : Spec} (h : Sl 5 x (p.keys.map Ke.av)) (hl : p.keys.length ≤ 8) (hk : ∀ k ∈ p.keys, KeOk k ∧ 0 ≤ k.fl ∧ k.fl ≤ 31) (hsep : p.sep ≤ 255) {H0 : Hp} {y : AV} {acc : List (List UInt8)} {H : Hp} (ha : acc.length ≤ 30)
    (hr : RowN H0.length H 1 y (acc.map AV.str)) (hkp : Keep H0.length H0 H) (hle : H0.length ≤ H.length) (ho : H[H0.length]? = some (.cells (p.cells x))) :
    ∃ y', texttoolsref20_Print_J2 (.ptr H0.length 0) y H0 H = some (y', H0) ∧ Sl 1 y' ((acc ++ ((if p.stab then [[45, 115]] else []) ++ ((if p.uniq then [[45, 117]] else []) ++ (sepS p.sep ++ keysS p.keys)))).map AV.str) := by
  rw [texttoolsref20_Print_J2_eq]
  have ho2 := ho
  unfold Spec.cells at ho2
  simp only [go_sem, Nat.zero_add, aload_f1 ho2, List.getElem?_cons_zero, List.getElem?_cons_succ]
  cases hu : p.stab with
  | true =>
    obtain ⟨y1, H1, g1, g2, g3, g4, g5⟩ := hr.app hle 16 (.vs 1 .clip [.str [45, 115]]) [.str [45, 115]] (by simp [elems]) (by simp; omega)
    simp only [go_sem, set1, g1, if_true]
    obtain ⟨y', q1, q2⟩ := rpr_J3 h hl hk hsep (acc := acc ++ [[45, 115]]) (by simp; omega) (by simpa using g2) (hkp.trans g4) g3 (g5 _ _ ho)
    exact ⟨y', q1, by simpa using q2⟩
  | false =>
    simp only [go_sem, Bool.false_eq_true, if_false]
    obtain ⟨y', q1, q2⟩ := rpr_J3 h hl hk hsep (acc := acc) (by omega) hr hkp hle ho
    exact ⟨y', q1, by simpa using q2⟩
theorem rpr_ok {a : AV} {p : Spec} (h : SpecAV a p) (hw : ∀ k ∈ p.keys, KeOk k) (H : Hp) : ∃ y, C_texttoolsref20_Print [a] H = some (y, H) ∧ Sl 1 y ((printS p).map AV.str) := by
  rw [F_texttoolsref20_Print_eq]
  unfold F_texttoolsref20_Print printS
  have hck := rcheck_flat h
  obtain ⟨x, rfl, hx⟩ := h
  unfold Spec.cells at hck
  simp only [Spec.cells, go_sem, aload_last5, hck]
  by_cases hz : checkS p = 0
  · have c : (checkS p != 0) = false := by simpa using hz
    obtain ⟨z1, z2, z3, z4, z5⟩ := checkS_zero hz
    have hkp : Keep H.length H (H ++ [.cells (p.cells x)]) := Keep.push H (Nat.le_refl _) _
    have hk : ∀ k ∈ p.keys, KeOk k ∧ 0 ≤ k.fl ∧ k.fl ≤ 31 := fun k hk => ⟨hw k hk, (z5 k hk).1, (z5 k hk).2⟩
    have ho := get_last H (.cells (p.cells x))
    simp only [c, go_sem, texttoolsref20_Print_J1_eq, Nat.zero_add, List.getElem?_cons_zero, List.getElem?_cons_succ]
    rw [if_pos hz]
    by_cases hf : p.flags = 0
    · have c2 : (p.flags != 0) = false := by simpa using hf
      simp only [c2, go_sem]
      obtain ⟨y', q1, q2⟩ := rpr_J2 hx z1 hk z2 (H0 := H) (acc := []) (by simp) (RowN.nil _ _ _) hkp (by simp) ho
      rw [if_pos hf]
      exact ⟨y', q1, by simpa using q2⟩
    · obtain ⟨n, hn⟩ : ∃ n : Nat, p.flags = (n : Int) := ⟨p.flags.toNat, by omega⟩
      have c2 : (((n : Nat) : Int) != 0) = true := by rw [← hn]; simpa using hf
      have ht := rlet_ok (n := n) (by omega) (H ++ [.cells (p.cells x)])
      have hll := letS_len n
      simp only [Spec.cells, hn] at ht
      obtain ⟨y1, H1, g1, g2, g3, g4, g5⟩ := (RowN.nil H.length (H ++ [.cells (p.cells x)]) 1).app (by simp) 16 (.vs 1 .clip [.str ([45] ++ letS n)]) [.str ([45] ++ letS n)] (by simp [elems]) (by simp)
      simp only [Spec.cells, hn] at g1
      simp only [c2, go_sem, Nat.zero_add, List.getElem?_cons_zero, List.getElem?_cons_succ, hn, ht, sbin_add (a := [45]) (b := letS n) (by simp; omega), set1]
      simp only [g1, go_sem]
      obtain ⟨y', q1, q2⟩ := rpr_J2 hx z1 hk z2 (H0 := H) (acc := [[45] ++ letS n]) (by simp) (by simpa using g2) (hkp.trans g4) g3 (g5 _ _ ho)
      rw [if_neg (by omega)]
      exact ⟨y', q1, by simpa using q2⟩
  · have c : (checkS p != 0) = true := by simpa using hz
    rw [if_neg hz]
    simp only [c, go_sem]
    have : leaveP H .nils (H ++ [.cells [x, .int .i64 p.sep, .int .i64 p.flags, .bool p.uniq, .bool p.stab]]) = some (.nils, H) := by
      unfold leaveP
      rw [if_pos (by simp)]
      rfl
    exact ⟨.nils, this, .inl ⟨rfl, rfl⟩⟩

end Go.Am
