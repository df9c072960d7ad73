/-
  THE ABSTRACT MACHINE, part L: a region, in whatever order.
-/
import Derived.Test.YtijddagljnlfmaaGreatDoorBmKx
namespace Go.Am
open RowKit

section
variable {C : Cfg} {call : CallF} {ops : Array Oper}

/-! ### What an operation looks at -/
theorem map_congr_ev {ev ev' : Operand → AV} {xs : Array Operand} (h : ∀ x ∈ xs, ev x = ev' x) : xs.toList.map ev = xs.toList.map ev' :=
  List.map_congr_left fun x hx => h x (by simpa using hx)
theorem opt_congr_ev {ev ev' : Operand → AV} {x : Option Operand} (h : ∀ y ∈ x.toArray, ev y = ev' y) : x.map ev = x.map ev' := by
  cases x with
  | none => rfl
  | some y => simp [h y (by simp)]

theorem apure_congr {ev ev' : Operand → AV} {op : Op} (h : ∀ x ∈ op.operands, ev x = ev' x) : apure C ev op = apure C ev' op := by
  cases op <;> simp only [Op.operands] at h
  case call c =>
    obtain ⟨callee, args, argTypes⟩ := c
    cases callee with
    | value f => rfl
    | invoke r m => rfl
    | builtin b =>
      have ha : ∀ x ∈ args, ev x = ev' x := fun x hx => h x (by simp [Call.operands, hx])
      cases b <;> try rfl
      case len =>
        simp only [apure]
        split
        · rename_i hargs _
          obtain rfl := one_of_toList hargs
          simp [ha]
        · rfl
      all_goals
        simp only [apure]
        split
        · rename_i hargs
          obtain rfl := two_of_toList hargs
          simp [ha]
        · rfl
  case build t ps =>
    have : (ps.toList.map fun p => (p.1, ev p.2)) = ps.toList.map fun p => (p.1, ev' p.2) := List.map_congr_left fun p hp => by
      rw [h p.2 (by simp; exact ⟨p.1, by simpa using hp⟩)]
    simp only [apure, this]
  case buildSlice t n ps =>
    have : (ps.toList.map fun p => (p.1, ev p.2)) = ps.toList.map fun p => (p.1, ev' p.2) := List.map_congr_left fun p hp => by
      rw [h p.2 (by simp; exact ⟨p.1, by simpa using hp⟩)]
    simp only [apure, this]
  case makeFunc fn first captured =>
    cases fn <;> simp only [apure]
    rw [map_congr_ev (xs := first) (fun x hx => h x (by simp [hx])), map_congr_ev (xs := captured) (fun x hx => h x (by simp [hx]))]
  case slice t x lo hi mx =>
    simp only [apure]
    rw [h x (by simp), opt_congr_ev (x := lo) (fun y hy => h y (by simp at hy ⊢; simp [hy])), opt_congr_ev (x := hi) (fun y hy => h y (by simp at hy ⊢; simp [hy])), opt_congr_ev (x := mx) (fun y hy => h y (by simp at hy ⊢; simp [hy]))]
  all_goals first
    | rfl
    | (simp only [apure]; simp [h])

theorem aheap_congr {ev ev' : Operand → AV} {H : Hp} {op : Op} (h : ∀ x ∈ op.operands, ev x = ev' x) : aheap C call ev H op = aheap C call ev' H op := by
  cases op <;> simp only [Op.operands] at h
  case call c =>
    obtain ⟨callee, args, argTypes⟩ := c
    cases callee with
    | value f =>
      simp only [aheap]
      rw [h f (by simp [Call.operands]), map_congr_ev (xs := args) (fun x hx => h x (by simp [Call.operands, hx]))]
    | invoke r m => rfl
    | builtin b =>
      have ha : ∀ x ∈ args, ev x = ev' x := fun x hx => h x (by simp [Call.operands, hx])
      cases b <;> try rfl
      all_goals
        simp only [aheap]
        split
        · rename_i hargs hts
          obtain rfl := two_of_toList hargs
          simp [ha]
        · rfl
  case makeMap t r => cases r <;> rfl
  all_goals first
    | rfl
    | (simp only [aheap]; simp [h])

theorem aop_congr {ev ev' : Operand → AV} {H : Hp} {fl : Bool} {op : Op} (h : ∀ x ∈ op.operands, ev x = ev' x) : aop C call ev H fl op = aop C call ev' H fl op := by
  unfold aop
  rw [apure_congr h, aheap_congr h]

theorem eval_congr {tm tm' : List AV} {o : Oper} (h : ∀ t ∈ o.looksAt ops, tm[t]? = tm'[t]?) : ∀ x ∈ o.op.operands, eval C tm x = eval C tm' x := by
  intro x hx
  cases x with
  | tmp t =>
    simp only [eval, List.getD_eq_getElem?_getD]
    rw [h t]
    unfold Oper.looksAt
    rw [List.mem_append]
    left
    rw [List.mem_filterMap]
    exact ⟨.tmp t, by simpa using hx, rfl⟩
  | _ => rfl

theorem awanted_congr {tm tm' : List AV} {o : Oper} (h : ∀ t ∈ o.looksAt ops, tm[t]? = tm'[t]?) : awanted ops tm o = awanted ops tm' o := by
  unfold awanted
  cases hg : o.guard with
  | none => rfl
  | some p =>
    obtain ⟨j, want⟩ := p
    simp only
    cases hj : ops[j]? with
    | none => rfl
    | some g =>
      simp only
      cases hd : g.dst with
      | none => rfl
      | some d =>
        simp only
        rw [h d]
        unfold Oper.looksAt
        simp [hg, hj, hd]

theorem oVal_congr {tm tm' : List AV} {o : Oper} {fl : Bool} {H : Hp} (h : ∀ t ∈ o.looksAt ops, tm[t]? = tm'[t]?) : oVal C call ops fl o tm H = oVal C call ops fl o tm' H := by
  unfold oVal
  rw [awanted_congr h, aop_congr (eval_congr h)]

theorem looks_put {tm : List AV} {o : Oper} {dst : Option Tmp} {v : AV} (h : ∀ d, dst = some d → d ∉ o.looksAt ops) : ∀ t ∈ o.looksAt ops, (aput tm dst v)[t]? = tm[t]? := by
  intro t ht
  cases dst with
  | none => rfl
  | some d =>
    have : d ≠ t := fun e => h d rfl (e ▸ ht)
    simp [aput, List.getElem?_set_ne this]

/-! ### What does not look at objects, or does not change them -/
theorem acallF_quiet {id : FuncId} {args : List AV} {H H' : Hp} {v : AV} (hq : quiet C id = true) (h : acallF C call id args H = some (v, H')) : H' = H ∧ ∀ H2, acallF C call id args H2 = some (v, H2) := by
  unfold acallF at h ⊢
  cases he : C.ext id with
  | some e =>
    simp only [he] at h ⊢
    unfold extC at h ⊢
    cases hx : extA e args with
    | none => simp [hx] at h
    | some u =>
      simp only [hx, Option.some.injEq, Prod.mk.injEq] at h ⊢
      obtain ⟨rfl, rfl⟩ := h
      simp
  | none =>
    cases hs : C.sum id with
    | some g =>
      simp only [he, hs] at h ⊢
      unfold sumC at h ⊢
      cases hx : g args with
      | none => simp [hx] at h
      | some u =>
        simp only [hx, Option.some.injEq, Prod.mk.injEq] at h ⊢
        obtain ⟨rfl, rfl⟩ := h
        simp
    | none =>
    unfold quiet at hq
    simp only [he, hs, Option.isSome_none, Bool.false_or, Bool.and_eq_true] at hq
    simp only [he, hs, hq.1, hq.2, if_true] at h ⊢
    unfold flatC at h ⊢
    split at h
    · rename_i args1 hm
      split at h
      · rename_i v1 H1 hc
        split at h
        · rename_i hf
          simp only [Option.some.injEq, Prod.mk.injEq] at h
          obtain ⟨rfl, rfl⟩ := h
          refine ⟨rfl, fun H2 => ?_⟩
          simp only [hf, if_true]
        · cases h
      · cases h
    · cases h
theorem aop_blind {ev : Operand → AV} (hev : ∀ f, ev (.func f) = .fn (.func f) [] []) {H H' : Hp} {fl : Bool} {op : Op} {v : AV} (hb : touch C op = 0 ∨ fl = true) (h : aop C call ev H fl op = some (v, H')) : H' = H ∧ ∀ H2, aop C call ev H2 fl op = some (v, H2) := by
  unfold aop at h ⊢
  split at h
  · rename_i v' hp
    simp only [Option.some.injEq, Prod.mk.injEq] at h
    obtain ⟨rfl, rfl⟩ := h
    exact ⟨rfl, fun H2 => rfl⟩
  · split at h
    · cases h
    · rename_i hfl
      have ht : touch C op = 0 := by
        rcases hb with hb | hb
        · exact hb
        · exact absurd hb hfl
      simp only [hfl]
      cases op with
      | call c =>
        obtain ⟨callee, args, argTypes⟩ := c
        cases callee with
        | value f =>
          cases f with
          | func id =>
            have hq : quiet C id = true := by
              cases hq : quiet C id with
              | true => rfl
              | false => simp [touch, hq] at ht
            simp only [aheap, acall, hev, List.nil_append, List.append_nil] at h ⊢
            exact acallF_quiet hq h
          | _ => simp [touch] at ht
        | invoke r m => simp [touch] at ht
        | builtin b => cases b <;> first | (simp [touch] at ht; done) | (simp [aheap] at h; done)
      | _ => first | (simp [touch] at ht; done) | (simp [aheap] at h; done)
theorem aop_still {ev : Operand → AV} (hev : ∀ f, ev (.func f) = .fn (.func f) [] []) {H H' : Hp} {fl : Bool} {op : Op} {v : AV} (hb : touch C op ≤ 1 ∨ fl = true) (h : aop C call ev H fl op = some (v, H')) : H' = H := by
  by_cases h0 : touch C op = 0 ∨ fl = true
  · exact (aop_blind hev h0 h).1
  · have ht : touch C op = 1 := by
      rcases hb with hb | hb
      · have : touch C op ≠ 0 := fun e => h0 (.inl e)
        omega
      · exact absurd (.inr hb) h0
    unfold aop at h
    split at h
    · simp only [Option.some.injEq, Prod.mk.injEq] at h
      exact h.2.symm
    · split at h
      · cases h
      · cases op with
        | load t a =>
          simp only [aheap] at h
          split at h
          · rename_i g sz _ _
            cases hl : aload g sz (ev a) H with
            | none => simp [hl] at h
            | some r => simp [hl] at h; exact h.2.symm
          · cases h
        | lookup t x k ck =>
          simp only [aheap] at h
          split at h
          · rename_i d e _
            split at h
            · rename_i z _
              cases hl : alookup d z ck (ev x) (ev k) H with
              | none => simp [hl] at h
              | some r => simp [hl] at h; exact h.2.symm
            · cases h
          · cases h
        | call c =>
          obtain ⟨callee, args, argTypes⟩ := c
          cases callee with
          | value f => exfalso; cases f <;> simp [touch] at ht; split at ht <;> omega
          | invoke r m => simp [touch] at ht
          | builtin b => cases b <;> first | (simp [touch] at ht; done) | (simp [aheap] at h; done)
        | _ => first | (simp [touch] at ht; done) | (simp [aheap] at h; done)

theorem oVal_blind {o : Oper} {fl : Bool} {tm : List AV} {H H' : Hp} {v : AV} (hb : touch C o.op = 0 ∨ fl = true) (h : oVal C call ops fl o tm H = some (v, H')) : H' = H ∧ ∀ H2, oVal C call ops fl o tm H2 = some (v, H2) := by
  unfold oVal at h ⊢
  split at h
  · cases h
  · rename_i hw
    simp only [Option.some.injEq, Prod.mk.injEq] at h
    obtain ⟨rfl, rfl⟩ := h
    exact ⟨rfl, fun H2 => rfl⟩
  · rename_i hw
    obtain ⟨h1, h2⟩ := aop_blind (fun _ => rfl) hb h
    exact ⟨h1, fun H2 => h2 H2⟩
theorem oVal_still {o : Oper} {fl : Bool} {tm : List AV} {H H' : Hp} {v : AV} (hb : touch C o.op ≤ 1 ∨ fl = true) (h : oVal C call ops fl o tm H = some (v, H')) : H' = H := by
  unfold oVal at h
  split at h
  · cases h
  · simp only [Option.some.injEq, Prod.mk.injEq] at h
    exact h.2.symm
  · exact aop_still (fun _ => rfl) hb h

theorem aput_comm {tm : List AV} {x y : Option Tmp} {v u : AV} (h : ∀ d, x = some d → y ≠ some d) : aput (aput tm x v) y u = aput (aput tm y u) x v := by
  cases x with
  | none => rfl
  | some d =>
    cases y with
    | none => rfl
    | some e =>
      have hne : d ≠ e := fun he => h d rfl (he ▸ rfl)
      simp only [aput]
      exact List.set_comm _ _ hne

/-- May two operations change places? -/
def compat (C : Cfg) (fi fj : Bool) (x y : Op) : Prop := (touch C x = 0 ∨ fi = true) ∨ (touch C y = 0 ∨ fj = true) ∨ (touch C x ≤ 1 ∧ touch C y ≤ 1)

theorem oStep_comm {oi oj : Oper} {fi fj : Bool} {s s1 s12 : St} (hap : oi.apart ops oj = true) (hc : compat C fi fj oi.op oj.op) (h1 : oStep C call ops fi oi s = some s1) (h2 : oStep C call ops fj oj s1 = some s12) :
    ∃ s2, oStep C call ops fj oj s = some s2 ∧ oStep C call ops fi oi s2 = some s12 := by
  obtain ⟨a1, a2, a3⟩ := Oper.apart_spec hap
  obtain ⟨tm, H⟩ := s
  unfold oStep at h1 h2 ⊢
  simp only at h1
  cases hv1 : oVal C call ops fi oi tm H with
  | none => simp [hv1] at h1
  | some p =>
    obtain ⟨v, H1⟩ := p
    simp only [hv1, Option.some.injEq] at h1
    subst h1
    simp only at h2
    rw [oVal_congr (looks_put a1)] at h2
    cases hv2 : oVal C call ops fj oj tm H1 with
    | none => simp [hv2] at h2
    | some q =>
      obtain ⟨u, H2⟩ := q
      simp only [hv2, Option.some.injEq] at h2
      subst h2
      have key : ∃ Hj, oVal C call ops fj oj tm H = some (u, Hj) ∧ oVal C call ops fi oi tm Hj = some (v, H2) := by
        rcases hc with hc | hc | ⟨hc1, hc2⟩
        · obtain ⟨rfl, hall⟩ := oVal_blind hc hv1
          exact ⟨H2, hv2, hall H2⟩
        · obtain ⟨rfl, hall⟩ := oVal_blind hc hv2
          exact ⟨H, hall H, hv1⟩
        · obtain rfl := oVal_still (.inl hc1) hv1
          obtain rfl := oVal_still (.inl hc2) hv2
          exact ⟨_, hv2, hv1⟩
      obtain ⟨Hj, k1, k2⟩ := key
      refine ⟨(aput tm oj.dst u, Hj), by simp [k1], ?_⟩
      simp only
      rw [oVal_congr (looks_put a3), k2]
      simp only [Option.some.injEq, Prod.mk.injEq, and_true]
      exact (aput_comm a2).symm

/-! ### Any order -/
/-- Whatever order is picked from here on: it ends in r. -/
def Any (C : Cfg) (call : CallF) (ops : Array Oper) : Nat → Array Bool → St → St → Prop
  | 0, listed, s, r => Region.ready .any ops listed = [] ∧ s = r
  | n + 1, listed, s, r => (Region.ready .any ops listed = [] → s = r) ∧
      ∀ i ∈ Region.ready .any ops listed, ∃ o s', ops[i]? = some o ∧ oStep C call ops (floats C ops i) o s = some s' ∧ Any C call ops n (listed.setIfInBounds i true) s' r

/-- With an operation all those are listed that it waits for. -/
def Closed (ops : Array Oper) (listed : Array Bool) : Prop := ∀ j o, ops[j]? = some o → listed.getD j false = true → ∀ e ∈ o.after, Region.binds .any e = true → listed.getD e.on false = true

theorem Closed.set {listed : Array Bool} (h : Closed ops listed) {i : Nat} (hi : i ∈ Region.ready .any ops listed) : Closed ops (listed.setIfInBounds i true) := by
  intro j o ho hj e he hb
  by_cases hij : i = j
  · subst hij
    obtain ⟨_, o', ho', hall⟩ := mem_ready.1 hi
    rw [ho] at ho'
    injection ho' with ho'
    subst ho'
    exact getD_set_true (hall e he hb)
  · rw [getD_set_ne false hij] at hj
    exact getD_set_true (h j o ho hj e he hb)

theorem behind_listed {listed : Array Bool} (h : Closed ops listed) : ∀ (n j i : Nat), behind ops n j i = true → (∀ o, ops[j]? = some o → ∀ e ∈ o.after, Region.binds .any e = true → listed.getD e.on false = true) → listed.getD i false = true := by
  intro n
  induction n with
  | zero => intro j i hb; simp [behind] at hb
  | succ n ih =>
    intro j i hb hj
    unfold behind at hb
    split at hb
    · cases hb
    · rename_i o ho
      rw [List.any_eq_true] at hb
      obtain ⟨e, he, hbe⟩ := hb
      rw [Bool.and_eq_true, Bool.or_eq_true] at hbe
      obtain ⟨hbind, hor⟩ := hbe
      have hl := hj o ho e (by simpa using he) hbind
      rcases hor with hor | hor
      · rw [← beq_iff_eq.1 hor]; exact hl
      · exact ih e.on i hor (fun o' ho' e' he' hb' => h e.on o' ho' hl e' he' hb')

theorem unlisted {listed : Array Bool} {i : Nat} (h : listed.getD i true = false) : listed.getD i false = false := by
  rcases Nat.lt_or_ge i listed.size with h' | h'
  · simp [h'] at h ⊢; exact h
  · simp [Array.getElem?_eq_none h'] at h

theorem any_first {i : Nat} {oi : Oper} (hi : ops[i]? = some oi) : ∀ (n : Nat) (listed : Array Bool) (s s1 r : St), Closed ops listed →
    (∀ j oj, ops[j]? = some oj → j ≠ i → listed.getD j true = false → behind ops ops.size j i = true ∨ (oi.apart ops oj = true ∧ compat C (floats C ops i) (floats C ops j) oi.op oj.op)) →
    i ∈ Region.ready .any ops listed → oStep C call ops (floats C ops i) oi s = some s1 → Any C call ops n (listed.setIfInBounds i true) s1 r → Any C call ops (n + 1) listed s r := by
  intro n
  induction n with
  | zero =>
    intro listed s s1 r _ _ hr hs H
    refine ⟨fun h => (by rw [h] at hr; cases hr), fun j hj => ?_⟩
    by_cases hji : j = i
    · subst hji; exact ⟨oi, s1, hi, hs, H⟩
    · have := ready_mono hj hji
      rw [H.1] at this
      cases this
  | succ n ih =>
    intro listed s s1 r hcl hfree hr hs H
    refine ⟨fun h => (by rw [h] at hr; cases hr), fun j hj => ?_⟩
    by_cases hji : j = i
    · subst hji; exact ⟨oi, s1, hi, hs, H⟩
    · obtain ⟨oj, s12, hoj, hsj, Hj⟩ := H.2 j (ready_mono hj hji)
      obtain ⟨hjun, oj', hoj', hall⟩ := mem_ready.1 hj
      rw [hoj] at hoj'
      injection hoj' with hoj'
      subst hoj'
      rcases hfree j oj hoj hji hjun with hb | ⟨hap, hco⟩
      · exfalso
        have h1 := behind_listed hcl ops.size j i hb (fun o ho e he hbd => by rw [hoj] at ho; injection ho with ho; subst ho; exact hall e he hbd)
        rw [unlisted (mem_ready.1 hr).1] at h1
        cases h1
      · obtain ⟨s2, h2, h3⟩ := oStep_comm hap hco hs hsj
        refine ⟨oj, s2, hoj, h2, ih (listed.setIfInBounds j true) s2 s12 r (hcl.set hj) (fun k ok hk hki hun => hfree k ok hk hki ?_) (ready_mono hr (Ne.symm hji)) h3 ?_⟩
        · by_cases hjk : j = k
          · subst hjk; exact hjun
          · rw [getD_set_ne true hjk] at hun; exact hun
        · rw [Array.setIfInBounds_comm _ _ hji]
          exact Hj

theorem compat_of {i j : Nat} {oi oj : Oper} (hi : ops[i]? = some oi) (hj : ops[j]? = some oj) (hne : j ≠ i) (h1 : behind ops ops.size i j = false) (h2 : behind ops ops.size j i = false) : compat C (floats C ops i) (floats C ops j) oi.op oj.op := by
  by_cases hc : clash C oi.op oj.op = true
  · have hil : i < ops.size := (Array.getElem?_eq_some_iff.1 hi).1
    have hjl : j < ops.size := (Array.getElem?_eq_some_iff.1 hj).1
    have hor : touch C oi.op ≤ 1 ∨ 2 ≤ touch C oi.op := by omega
    have hfl : ∀ (i j : Nat) (oi oj : Oper), ops[i]? = some oi → ops[j]? = some oj → j ≠ i → j < ops.size → behind ops ops.size i j = false → behind ops ops.size j i = false → clash C oi.op oj.op = true → (touch C oi.op ≤ 1 ∨ 2 ≤ touch C oj.op) → floats C ops i = true := by
      intro i j oi oj hi hj hne hjl h1 h2 hc ho
      unfold floats
      simp only [hi]
      rw [List.any_eq_true]
      refine ⟨j, List.mem_range.2 hjl, ?_⟩
      simp [hne, hj, hc, h1, h2]
      exact ho
    by_cases ha : touch C oi.op ≤ 1 ∨ 2 ≤ touch C oj.op
    · exact .inl (.inr (hfl i j oi oj hi hj hne hjl h1 h2 hc ha))
    · refine .inr (.inl (.inr (hfl j i oj oi hj hi (Ne.symm hne) hil h2 h1 ?_ (.inl (by omega)))))
      unfold clash at hc ⊢
      split at hc
      · cases hc
      · cases hc
      · cases hc
      · rename_i h1 h2 h3
        split
        · rename_i h; exact absurd h (by omega)
        · rename_i h; exact absurd h (by omega)
        · omega
        · rfl
  · unfold clash at hc
    split at hc
    · rename_i h; exact .inl (.inl h)
    · rename_i h _; exact .inr (.inl (.inl h))
    · rename_i h h'; exact .inr (.inr ⟨by omega, by omega⟩)
    · exact absurd rfl hc

theorem orderOk_spec (h : orderOk ops = true) : Region.noSelect ops = true ∧ ∀ k o, ops[k]? = some o → (∀ e ∈ o.after, Region.binds .any e = true → e.on < k) ∧
    ∀ j oj, ops[j]? = some oj → k < j → behind ops ops.size j k = true ∨ o.apart ops oj = true := by
  unfold orderOk at h
  rw [Bool.and_eq_true, List.all_eq_true] at h
  refine ⟨h.1, fun k o ho => ?_⟩
  have hkl : k < ops.size := (Array.getElem?_eq_some_iff.1 ho).1
  have hk := h.2 k (List.mem_range.2 hkl)
  simp only [ho, Bool.and_eq_true, List.all_eq_true] at hk
  refine ⟨fun e he hb => ?_, fun j oj hj hkj => ?_⟩
  · have := hk.1 e (by simpa using he)
    simpa [hb] using this
  · have hjl : j < ops.size := (Array.getElem?_eq_some_iff.1 hj).1
    have := hk.2 j (List.mem_range.2 hjl)
    simp only [hj, Bool.or_eq_true, decide_eq_true_eq] at this
    rcases this with h' | h'
    · omega
    · exact h'

theorem floats_sound (draw : Bool) (i : Nat) : (draw && floats C ops i) = if draw then floats C ops i else false := by cases draw <;> rfl

/-- One run in the order of the text serves every order. -/
theorem any_of_exec (hok : orderOk ops = true) : ∀ (l : List Oper) (k : Nat) (listed : Array Bool) (s r : St), (∀ j, l[j]? = ops[k + j]?) → listed.size = ops.size → (∀ x, x < ops.size → listed.getD x false = decide (x < k)) → k ≤ ops.size →
    execOps C call ops true k l s = some r → Any C call ops l.length listed s r := by
  obtain ⟨hns, hspec⟩ := orderOk_spec hok
  intro l
  induction l with
  | nil =>
    intro k listed s r hl hsz hlist hk h
    simp [execOps] at h
    refine ⟨?_, h⟩
    rw [List.eq_nil_iff_forall_not_mem]
    intro i hi
    obtain ⟨h1, o, ho, _⟩ := mem_ready.1 hi
    have hil : i < ops.size := (Array.getElem?_eq_some_iff.1 ho).1
    have hkl : ops.size ≤ k := by
      have := hl 0
      simp at this
      exact this
    have := hlist i hil
    rw [unlisted h1] at this
    simp at this
    omega
  | cons o l ih =>
    intro k listed s r hl hsz hlist hk h
    have h0 : ops[k]? = some o := by simpa using (hl 0).symm
    have hkl : k < ops.size := (Array.getElem?_eq_some_iff.1 h0).1
    unfold execOps at h
    simp only [Bool.true_and] at h
    split at h
    · rename_i s' hs'
      have hcl : Closed ops listed := by
        intro j oj hj hjl e he hb
        have hjl' : j < ops.size := (Array.getElem?_eq_some_iff.1 hj).1
        rw [hlist j hjl'] at hjl
        have := (hspec j oj hj).1 e he hb
        rw [hlist e.on (by omega)]
        simp at hjl ⊢
        omega
      have hready : k ∈ Region.ready .any ops listed := by
        rw [mem_ready]
        refine ⟨?_, o, h0, fun e he hb => ?_⟩
        · have := hlist k hkl
          simp at this
          have hk' : k < listed.size := by omega
          simp [hk'] at this ⊢
          exact this
        · have := (hspec k o h0).1 e he hb
          rw [hlist e.on (by omega)]
          simpa using this
      refine any_first h0 l.length listed s s' r hcl (fun j oj hj hjk hun => ?_) hready hs' (ih (k + 1) _ s' r (fun j => by have := hl (j + 1); simpa [Nat.add_assoc, Nat.add_comm 1 j] using this) (by simpa using hsz) (fun x hx => ?_) (by omega) h)
      · have hjl : j < ops.size := (Array.getElem?_eq_some_iff.1 hj).1
        have hkj : k < j := by
          have := hlist j hjl
          rw [unlisted hun] at this
          simp at this
          omega
        rcases (hspec k o h0).2 j oj hj hkj with hb | hap
        · exact .inl hb
        · by_cases hb : behind ops ops.size j k = true
          · exact .inl hb
          · refine .inr ⟨hap, compat_of h0 hj hjk ?_ (by simpa using hb)⟩
            cases hbb : behind ops ops.size k j with
            | false => rfl
            | true =>
              exfalso
              have := behind_listed hcl ops.size k j hbb (fun o' ho' e he hb' => by
                rw [h0] at ho'
                injection ho' with ho'
                subst ho'
                have := (hspec k o h0).1 e he hb'
                rw [hlist e.on (by omega)]
                simpa using this)
              rw [unlisted hun] at this
              cases this
      · by_cases hxk : k = x
        · subst hxk
          have hk' : k < listed.size := by omega
          simp [hk']
        · rw [getD_set_ne false hxk, hlist x hx]
          simp
          omega
    · cases h
end
end Go.Am
