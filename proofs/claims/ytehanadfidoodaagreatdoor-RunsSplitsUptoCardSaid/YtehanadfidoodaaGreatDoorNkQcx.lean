/-
  Dividing lines into chunks, in the machine, both ways.
-/
import Derived.Test.YtehanadfidoodaaGreatDoorNkQax
import Derived.Test.YtehanadfidoodaaGreatDoorNkGPx
namespace Go.Am
set_option linter.unusedSimpArgs false
set_option linter.unusedVariables false
set_option linter.unusedSectionVars false
set_option maxRecDepth 100000

def cS (s : Str) : Int := (s.length : Int) + 16
theorem costL_bound : ∀ (k : List Str), Lens k → 0 ≤ costL cS k ∧ costL cS k ≤ (k.length : Int) * 1048592 := by
  have : ∀ (k : List Str) (n : Int), Lens k → n ≤ k.foldl (fun n x => n + cS x) n ∧ k.foldl (fun n x => n + cS x) n ≤ n + (k.length : Int) * 1048592 := by
    intro k
    induction k with
    | nil => intro n _; simp
    | cons s k ih =>
      intro n hL
      have hs := hL s (by simp)
      obtain ⟨h1, h2⟩ := ih (n + cS s) fun t ht => hL t (by simp [ht])
      rw [List.foldl_cons]
      simp only [List.length_cons]
      have : cS s = (s.length : Int) + 16 := rfl
      constructor <;> omega
  intro k hk
  have := this k 0 hk
  unfold costL
  simpa using this
section
variable {mem : Int} {l : List Str}
theorem ck_parts {d : List Str} (hd : CkOk cS mem d (ckRun cS mem d)) : (ckRun cS mem d).cur.length ≤ d.length ∧ d.drop (d.length - (ckRun cS mem d).cur.length) = (ckRun cS mem d).cur := by
  have h := hd.flat
  generalize (ckRun cS mem d) = s at h
  subst h
  constructor
  · simp
  · rw [List.length_append, Nat.add_sub_cancel, List.drop_append_of_le_length (Nat.le_refl _), List.drop_length]; rfl
theorem ck_len {d : List Str} (hd : CkOk cS mem d (ckRun cS mem d)) : (ckRun cS mem d).done.length ≤ d.length := by
  have h := hd.flat
  have hne := hd.ne
  generalize (ckRun cS mem d) = s at h hne
  subst h
  have : ∀ (A : List (List Str)), (∀ k ∈ A, k ≠ []) → A.length ≤ A.flatten.length := by
    intro A
    induction A with
    | nil => intro _; simp
    | cons k A ih =>
      intro h
      have h1 := ih fun k hk => h k (by simp [hk])
      have h2 : 0 < k.length := List.length_pos_iff.2 (h k (by simp))
      simp only [List.length_cons, List.flatten_cons, List.length_append]
      omega
  have := this s.done hne
  simp only [List.length_append]
  omega
theorem take_drop_mid {d r : List Str} {i : Nat} (hi : i ≤ d.length) : ((d ++ r).take d.length).drop i = d.drop i := by simp
theorem ckStep_old {s : Ck Str} {x : Str} (h : s.cur = [] ∨ s.cost + cS x ≤ mem) : ckStep cS mem s x = ⟨s.done, s.cur ++ [x], s.cost + cS x⟩ := by
  unfold ckStep
  rw [if_neg]
  rintro ⟨h1, h2⟩
  rcases h with h | h
  · exact h1 h
  · omega
theorem ckStep_new {s : Ck Str} {x : Str} (h1 : s.cur ≠ []) (h2 : mem < s.cost + cS x) : ckStep cS mem s x = ⟨s.done ++ [s.cur], [x], cS x⟩ := by
  unfold ckStep
  rw [if_pos ⟨h1, h2⟩]
theorem lens_cur {d : List Str} (hL : Lens d) (hd : CkOk cS mem d (ckRun cS mem d)) : Lens (ckRun cS mem d).cur := fun s hs => hL s (by
  have h := hd.flat
  rw [← h]
  simp [hs])
theorem split_loop {x : AV} (hx : SS x l) (hL : Lens l) (hl : l.length ≤ 1048576) (H0 : Hp) : ∀ (r d : List Str) (x6 : AV) (H : Hp), l = d ++ r → (∃ o, Rst o H x6 (ckRun cS mem d).done) →
    ∃ y H', runs_Split_L1 (.int .i64 mem) x x6 (.int .i64 ((d.length - (ckRun cS mem d).cur.length : Nat) : Int)) (.int .i64 (ckRun cS mem d).cost) x (.int .i64 (l.length : Int)) (.int .i64 (d.length : Int)) H0 H = some (y, H') ∧ LL H' y (ckAll (ckRun cS mem l)) := by
  have hn := SS.len hx 9
  intro r
  induction r with
  | nil =>
    intro d x6 H hd ⟨o, hr⟩
    rw [List.append_nil] at hd
    subst hd
    have hok := ck_run cS mem l
    obtain ⟨hp1, hp2⟩ := ck_parts hok
    have hlt : decide ((l.length : Int) < (l.length : Int)) = false := by simp
    rw [runs_Split_L1_eq]
    simp only [go_sem, hlt, runs_Split_J1_eq, hn, runs_Split_J2_eq]
    by_cases h0 : l = []
    · subst h0
      have h1 : decide ((0 : Int) < ((([] : List Str).length : Nat) : Int)) = false := rfl
      simp only [h1, go_sem]
      exact ⟨_, _, rfl, hr.ll⟩
    · have h1 : decide ((0 : Int) < (l.length : Int)) = true := by have := List.length_pos_iff.2 h0; simp; exact this
      obtain ⟨a, q1, q2⟩ := hx.cut (i := l.length - (ckRun cS mem l).cur.length) (j := l.length) (by omega) (Nat.le_refl _)
      rw [List.take_length, hp2] at q2
      have hone : (setElems 1 [(0, a)] [AV.nils]).map (AV.vs 1 .clip) = some (.vs 1 .clip [a]) := by
        simp only [setElems, q2.cell.1, q2.cell.2]; rfl
      obtain ⟨o', x', H', p1, p2, p3, p4⟩ := hr.app q2 (by have := ck_len hok; omega)
      simp only [h1, go_sem, q1, hone, p1]
      refine ⟨_, _, rfl, ?_⟩
      unfold ckAll
      rw [if_neg (ck_cur cS mem h0)]
      exact p2.ll
  | cons s r ih =>
    intro d x6 H hd ⟨o, hr⟩
    have hok := ck_run cS mem d
    obtain ⟨hp1, hp2⟩ := ck_parts hok
    have hLd : Lens d := fun t ht => hL t (by rw [hd]; simp [ht])
    have hcb := costL_bound _ (lens_cur hLd hok)
    rw [← hok.cost] at hcb
    have hs : s.length ≤ 1048576 := hL s (by rw [hd]; simp)
    have hlen : l.length = d.length + (r.length + 1) := by rw [hd]; simp
    have hlt : decide ((d.length : Int) < (l.length : Int)) = true := by simp; omega
    have hw1 : IntKind.i64.wrap ((d.length : Int) + 1) = ((d.length + 1 : Nat) : Int) := by rw [wrap64 (by omega) (by omega)]; omega
    have hwc : IntKind.i64.wrap ((s.length : Int) + 16) = cS s := by rw [wrap64 (by omega) (by omega)]; rfl
    have hcs : cS s = (s.length : Int) + 16 := rfl
    have hwa : IntKind.i64.wrap ((ckRun cS mem d).cost + cS s) = (ckRun cS mem d).cost + cS s := wrap64 (by omega) (by omega)
    have hwz : IntKind.i64.wrap (0 + cS s) = cS s := by rw [wrap64 (by omega) (by omega)]; omega
    have his : l[d.length]? = some s := by rw [hd, List.getElem?_append_right (Nat.le_refl _)]; simp
    have hidx := SS.idx hx his
    have ih' := fun x6 H h => ih (d ++ [s]) x6 H (by rw [hd]; simp) h
    simp only [ckRun_snoc, List.length_append, List.length_singleton] at ih'
    rw [runs_Split_L1_eq]
    simp only [go_sem, hlt, runs_Split_J3_eq, hidx, aload_vpc, hwc]
    by_cases hc : (ckRun cS mem d).cur = []
    · have hgt : decide (((d.length - (ckRun cS mem d).cur.length : Nat) : Int) < (d.length : Int)) = false := by rw [hc]; simp
      have hst := ckStep_old (mem := mem) (s := ckRun cS mem d) (x := s) (.inl hc)
      rw [hst] at ih'
      obtain ⟨y, H', m1, m2⟩ := ih' x6 H ⟨o, hr⟩
      refine ⟨y, H', ?_, m2⟩
      simp only [hgt, go_sem, runs_Split_J5_eq, hwa, runs_Split_J4_eq, hw1]
      rw [show d.length - (ckRun cS mem d).cur.length = d.length + 1 - ((ckRun cS mem d).cur ++ [s]).length by rw [hc]; simp]
      exact m1
    · have hgt : decide (((d.length - (ckRun cS mem d).cur.length : Nat) : Int) < (d.length : Int)) = true := by have := List.length_pos_iff.2 hc; simp; omega
      by_cases hm : mem < (ckRun cS mem d).cost + cS s
      · have hst := ckStep_new (mem := mem) hc hm
        rw [hst] at ih'
        obtain ⟨a, q1, q2⟩ := hx.cut (i := d.length - (ckRun cS mem d).cur.length) (j := d.length) (by omega) (by omega)
        rw [hd, take_drop_mid (by omega), hp2] at q2
        have hone : (setElems 1 [(0, a)] [AV.nils]).map (AV.vs 1 .clip) = some (.vs 1 .clip [a]) := by
          simp only [setElems, q2.cell.1, q2.cell.2]; rfl
        obtain ⟨o', x', H1, p1, p2, p3, p4⟩ := hr.app q2 (by have := ck_len hok; omega)
        obtain ⟨y, H', m1, m2⟩ := ih' x' H1 ⟨o', p2⟩
        refine ⟨y, H', ?_, m2⟩
        simp only [hgt, go_sem, hwa, decide_eq_true hm, q1, hone, p1, runs_Split_J5_eq, hwz, runs_Split_J4_eq, hw1]
        exact m1
      · have hst := ckStep_old (mem := mem) (s := ckRun cS mem d) (x := s) (.inr (by omega))
        rw [hst] at ih'
        obtain ⟨y, H', m1, m2⟩ := ih' x6 H ⟨o, hr⟩
        refine ⟨y, H', ?_, m2⟩
        simp only [hgt, go_sem, hwa, decide_eq_false hm, runs_Split_J5_eq, runs_Split_J4_eq, hw1]
        rw [show d.length - (ckRun cS mem d).cur.length = d.length + 1 - ((ckRun cS mem d).cur ++ [s]).length by simp]
        exact m1
theorem split_flat {x : AV} (hx : SS x l) (hL : Lens l) (hl : l.length ≤ 1048576) (H : Hp) : ∃ y, flatC C_runs_Split [x, .int .i64 mem] H = some (y, H) ∧ LsV y (ckAll (ckRun cS mem l)) := by
  obtain ⟨x1, h1, h2⟩ := SS.closed hx [] 0 4
  obtain ⟨x2, g1, g2⟩ := clone_flat h2 hl []
  obtain ⟨y, H', m1, m2⟩ := split_loop (mem := mem) g2 hL hl [] l [] .nils [] rfl ⟨0, .inl ⟨rfl, .inl rfl⟩⟩
  obtain ⟨y', c1, c2⟩ := m2.close0
  refine ⟨y', ?_, c2⟩
  refine flatC_cl (args' := [x1, .int .i64 mem]) (H1 := H') (v := y) (by rw [List.mapM_cons, h1]; rfl) ?_ c1
  rw [F_runs_Split_eq]
  unfold F_runs_Split
  simp only [g1, go_sem, SS.len g2 9]
  exact m1

def ApS (H : Hp) (a : AV) (l : List Str) : Prop := (∃ t e, a = .vs 1 (.own t e) (l.map AV.str) ∧ H[t]? = some (.tok e)) ∨ a = .vs 1 .clip (l.map AV.str)
theorem ApS.ss {H : Hp} {a : AV} {l : List Str} (h : ApS H a l) : SS a l := by
  rcases h with ⟨t, e, rfl, _⟩ | rfl
  · exact .inr ⟨_, rfl⟩
  · exact .inr ⟨_, rfl⟩
theorem ApS.app {H : Hp} {a : AV} {l : List Str} (h : ApS H a l) (s : Str) (hl : l.length ≤ 1048576) :
    ∃ (a' : AV) (H' : Hp), aappE 1 16 a (.vs 1 .clip [.str s]) H = some (a', H') ∧ ApS H' a' (l ++ [s]) ∧ ∀ (o e : Nat) (es : List AV), H[o]? = some (AObj.row e es) → H'[o]? = some (AObj.row e es) := by
  unfold aappE
  have he : Go.Am.elems 1 (.vs 1 .clip [.str s]) H = some [.str s] := rfl
  rw [he]
  have hfit : fits ((l.map AV.str).length + [AV.str s].length) 16 = true := by simp [fits]; omega
  rcases h with ⟨t, e, rfl, ht⟩ | rfl
  · refine ⟨.vs 1 (.own t (e + 1)) (l.map AV.str ++ [.str s]), H.set t (.tok (e + 1)), ?_, .inl ⟨t, e + 1, by simp, get_set_eq _ ht⟩, fun o e' es ho => ?_⟩
    · simp only [aappend, hfit, and_self, if_true, ht]
      rw [if_neg (by simp)]
      rfl
    · refine get_set_ne _ (fun he => ?_) ho
      subst he
      rw [ht] at ho
      cases ho
  · refine ⟨.vs 1 (.own H.length ((l.map AV.str).length + 1)) (l.map AV.str ++ [.str s]), H ++ [.tok ((l.map AV.str).length + 1)], ?_, .inl ⟨H.length, (l.map AV.str).length + 1, by simp, by simp⟩, fun o e' es ho => get_push ho _⟩
    simp only [aappend, hfit, and_self, if_true]
    rw [if_neg (by simp)]
    rfl
def RowL (H : Hp) (x : AV) (A : List (List Str)) (k : List Str) : Prop := ∃ o e es a, x = .ws false 1 o e (A.length + 1) ∧ H[o]? = some (.row e (es ++ [a])) ∧ EE es A ∧ ApS H a k
theorem RowL.rst {H : Hp} {x : AV} {A : List (List Str)} {k : List Str} (h : RowL H x A k) : ∃ o, Rst o H x (A ++ [k]) := by
  obtain ⟨o, e, es, a, rfl, h2, h3, h4⟩ := h
  exact ⟨o, .inr ⟨e, es ++ [a], by simp, h2, h3.app h4.ss⟩⟩
theorem rsplit_loop {x : AV} (hx : SS x l) (hL : Lens l) (hl : l.length ≤ 1048576) (H0 : Hp) : ∀ (r d : List Str) (x5 : AV) (H : Hp), l = d ++ r → (d = [] ∧ x5 = .nils ∨ d ≠ [] ∧ RowL H x5 (ckRun cS mem d).done (ckRun cS mem d).cur) →
    ∃ y H', R22_Split_L1 x (.int .i64 mem) x5 (.int .i64 (ckRun cS mem d).cost) (.int .i64 (d.length : Int)) H0 H = some (y, H') ∧ LL H' y (ckAll (ckRun cS mem l)) := by
  have hn := SS.len hx 9
  intro r
  induction r with
  | nil =>
    intro d x5 H hd hr
    rw [List.append_nil] at hd
    subst hd
    have hlt : decide ((l.length : Int) < (l.length : Int)) = false := by simp
    rw [R22_Split_L1_eq]
    simp only [go_sem, hn, hlt, R22_Split_J1_eq]
    refine ⟨_, _, rfl, ?_⟩
    rcases hr with ⟨rfl, rfl⟩ | ⟨h0, hr⟩
    · exact .inl ⟨rfl, .inl rfl⟩
    · obtain ⟨o, ho⟩ := hr.rst
      unfold ckAll
      rw [if_neg (ck_cur cS mem h0)]
      exact ho.ll
  | cons s r ih =>
    intro d x5 H hd hr
    have hok := ck_run cS mem d
    obtain ⟨hp1, hp2⟩ := ck_parts hok
    have hLd : Lens d := fun t ht => hL t (by rw [hd]; simp [ht])
    have hcb := costL_bound _ (lens_cur hLd hok)
    rw [← hok.cost] at hcb
    have hs : s.length ≤ 1048576 := hL s (by rw [hd]; simp)
    have hlen : l.length = d.length + (r.length + 1) := by rw [hd]; simp
    have hlt : decide ((d.length : Int) < (l.length : Int)) = true := by simp; omega
    have hw1 : IntKind.i64.wrap ((d.length : Int) + 1) = ((d.length + 1 : Nat) : Int) := by rw [wrap64 (by omega) (by omega)]; omega
    have hwc : IntKind.i64.wrap ((s.length : Int) + 16) = cS s := by rw [wrap64 (by omega) (by omega)]; rfl
    have hcs : cS s = (s.length : Int) + 16 := rfl
    have hwa : IntKind.i64.wrap ((ckRun cS mem d).cost + cS s) = (ckRun cS mem d).cost + cS s := wrap64 (by omega) (by omega)
    have his : l[d.length]? = some s := by rw [hd, List.getElem?_append_right (Nat.le_refl _)]; simp
    have hidx := SS.idx hx his
    have ih' := fun x5 H h => ih (d ++ [s]) x5 H (by rw [hd]; simp) (.inr ⟨by simp, h⟩)
    simp only [ckRun_snoc, List.length_append, List.length_singleton] at ih'
    have one1 : (setElems 1 [(0, AV.str s)] [AV.str []]).map (AV.vs 1 .clip) = some (.vs 1 .clip [.str s]) := rfl
    have one2 : (setElems 1 [(0, AV.vs 1 .clip [.str s])] [AV.nils]).map (AV.vs 1 .clip) = some (.vs 1 .clip [.vs 1 .clip [.str s]]) := rfl
    rw [R22_Split_L1_eq]
    simp only [go_sem, hn, hlt, R22_Split_J2_eq, hidx, aload_vpc, hwc]
    rcases hr with ⟨rfl, rfl⟩ | ⟨h0, hr⟩
    · have hst := ckStep_old (mem := mem) (s := ckRun cS mem []) (x := s) (.inl rfl)
      rw [hst] at ih'
      have hl0 : decide ((0 : Int) < 0) = false := rfl
      have hR : Rst 0 H .nils [] := .inl ⟨rfl, .inl rfl⟩
      have hone : (setElems 1 [(0, AV.str s)] [AV.str []]).map (AV.vs 1 .clip) = some (.vs 1 .clip [.str s]) := rfl
      have happ : aappEL false 1 24 .nils (.vs 1 .clip [.vs 1 .clip [.str s]]) H = some (.ws false 1 H.length 0 1, H ++ [.row 0 [.vs 1 .clip [.str s]]]) := by
        unfold aappEL
        have he : Go.Am.elems 1 (.vs 1 .clip [.vs 1 .clip [.str s]]) H = some [.vs 1 .clip [.str s]] := rfl
        rw [he]
        dsimp only
        unfold aappL
        dsimp only
        rw [if_neg (by simp), if_pos (show fits _ 24 = true from rfl)]
        rfl
      obtain ⟨y, H', m1, m2⟩ := ih' (.ws false 1 H.length 0 1) (H ++ [.row 0 [.vs 1 .clip [.str s]]]) ⟨H.length, 0, [], .vs 1 .clip [.str s], rfl, by simp, EE.nil, .inr rfl⟩
      refine ⟨y, H', ?_, m2⟩
      simp only [hl0, go_sem, one1, one2, happ, R22_Split_J3_eq, hw1]
      have : (ckRun cS mem []).cost + cS s = cS s := by show 0 + cS s = cS s; omega
      rw [this] at m1
      exact m1
    · obtain ⟨o, e, es, a, rfl, k2, k3, k4⟩ := hr
      have hne := ck_cur cS mem h0
      have hdl := ck_len hok
      have hgt : decide ((0 : Int) < (((ckRun cS mem d).done.length + 1 : Nat) : Int)) = true := by rw [decide_eq_true_eq]; omega
      have hal : alenD (.slice 32) (.ws false 1 o e ((ckRun cS mem d).done.length + 1)) = some (.int .i64 (((ckRun cS mem d).done.length + 1 : Nat) : Int)) := rfl
      have hwm : IntKind.i64.wrap ((((ckRun cS mem d).done.length + 1 : Nat) : Int) - 1) = ((ckRun cS mem d).done.length : Int) := by rw [wrap64 (by omega) (by omega)]; omega
      have hix : aindexS 1 (.ws false 1 o e ((ckRun cS mem d).done.length + 1)) (.int .i64 ((ckRun cS mem d).done.length : Int)) = some (.wp o e ((ckRun cS mem d).done.length * 1)) := ws_index (by omega)
      by_cases hm : mem < (ckRun cS mem d).cost + cS s
      · have hst := ckStep_new (mem := mem) hne hm
        rw [hst] at ih'
        have hle : decide ((ckRun cS mem d).cost + cS s ≤ mem) = false := by simp; omega
        have happ : aappEL false 1 24 (.ws false 1 o e ((ckRun cS mem d).done.length + 1)) (.vs 1 .clip [.vs 1 .clip [.str s]]) H = some (.ws false 1 o (e + 1) ((ckRun cS mem d).done.length + 1 + 1), H.set o (.row (e + 1) (es ++ [a] ++ [.vs 1 .clip [.str s]]))) := by
          unfold aappEL
          have he : Go.Am.elems 1 (.vs 1 .clip [.vs 1 .clip [.str s]]) H = some [.vs 1 .clip [.str s]] := rfl
          rw [he]
          dsimp only
          unfold aappL
          dsimp only
          rw [if_pos ⟨rfl, rfl, by simp [fits]; omega⟩, if_neg (by simp), k2]
          dsimp only
          rw [if_pos ⟨rfl, by simp [k3.len]⟩]
          rfl
        obtain ⟨y, H', m1, m2⟩ := ih' (.ws false 1 o (e + 1) ((ckRun cS mem d).done.length + 1 + 1)) (H.set o (.row (e + 1) (es ++ [a] ++ [.vs 1 .clip [.str s]]))) ⟨o, e + 1, es ++ [a], .vs 1 .clip [.str s], by simp, get_set_eq _ k2, k3.app k4.ss, .inr rfl⟩
        refine ⟨y, H', ?_, m2⟩
        simp only [hal, hgt, go_sem, hwa, hle, one1, one2, happ, R22_Split_J3_eq, hw1]
        simpa using m1
      · have hst := ckStep_old (mem := mem) (s := ckRun cS mem d) (x := s) (.inr (by omega))
        rw [hst] at ih'
        have hle : decide ((ckRun cS mem d).cost + cS s ≤ mem) = true := by simp; omega
        have hld : aload false 1 (.wp o e ((ckRun cS mem d).done.length * 1)) H = some a := wp_load k2 (by rw [← k3.len, List.getElem?_append_right (Nat.le_refl _)]; simp)
        obtain ⟨a', H1, p1, p2, p3⟩ := k4.app s (by omega)
        have k2' := p3 o e _ k2
        have hsto := wp_store (a := a') k2' p2.ss.cell (i := (ckRun cS mem d).done.length) (by simp [k3.len])
        have hset : (es ++ [a]).set (ckRun cS mem d).done.length a' = es ++ [a'] := by rw [← k3.len]; simp
        rw [hset] at hsto
        have hap : ApS (H1.set o (.row e (es ++ [a']))) a' ((ckRun cS mem d).cur ++ [s]) := by
          rcases p2 with ⟨t, e', q1, q2⟩ | q
          · refine .inl ⟨t, e', q1, get_set_ne _ (fun he => ?_) q2⟩
            subst he
            rw [k2'] at q2
            cases q2
          · exact .inr q
        obtain ⟨y, H', m1, m2⟩ := ih' (.ws false 1 o e ((ckRun cS mem d).done.length + 1)) (H1.set o (.row e (es ++ [a']))) ⟨o, e, es, a', rfl, get_set_eq _ k2', k3, hap⟩
        refine ⟨y, H', ?_, m2⟩
        simp only [hal, hgt, go_sem, hwa, hle, hwm, hix, hld, one1, p1, hsto, R22_Split_J3_eq, hw1]
        exact m1
theorem rsplit_flat {x : AV} (hx : SS x l) (hL : Lens l) (hl : l.length ≤ 1048576) (H : Hp) : ∃ y, flatC C_R22_Split [x, .int .i64 mem] H = some (y, H) ∧ LsV y (ckAll (ckRun cS mem l)) := by
  obtain ⟨x1, h1, h2⟩ := SS.closed hx [] 0 4
  obtain ⟨y, H', m1, m2⟩ := rsplit_loop (mem := mem) h2 hL hl [] l [] .nils [] rfl (.inl ⟨rfl, rfl⟩)
  obtain ⟨y', c1, c2⟩ := m2.close0
  refine ⟨y', ?_, c2⟩
  refine flatC_cl (args' := [x1, .int .i64 mem]) (H1 := H') (v := y) (by rw [List.mapM_cons, h1]; rfl) ?_ c1
  rw [F_R22_Split_eq]
  unfold F_R22_Split
  exact m1
end
end Go.Am
