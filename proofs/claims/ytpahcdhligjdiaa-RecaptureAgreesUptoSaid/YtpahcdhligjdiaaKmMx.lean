/-
  THE ABSTRACT MACHINE, part M: code.
-/
import Derived.Test.YtpahcdhligjdiaaKmFsx
import Derived.Scope
namespace Go.Am
open RowKit

section
variable {C:Cfg} {call:CallF} {W0:World} {S0:Snap} {D:Act→Prop}

def FRel (S:Snap) (tm:List AV) (tmps:Array Value):Prop:=tm.length=tmps.size∧∀ (i:Nat) (a:AV) (v:Value),tm[i]?=some a→tmps[i]?=some v→VRel S a v

theorem FRel.mono {S S':Snap} (hx:Ext S S') {tm:List AV} {tmps:Array Value} (h:FRel S tm tmps):FRel S' tm tmps:=⟨h.1,fun i a v ha hv=>(h.2 i a v ha hv).mono hx⟩
theorem FRel.getD {S:Snap} {tm:List AV} {tmps:Array Value} (h:FRel S tm tmps) (t:Nat):VRel S (tm.getD t (.tuple [])) (tmps.getD t undef):=by
 by_cases ht:t < tmps.size
 ·have ht':t < tm.length:=by rw [h.1];exact ht
  have:=h.2 t tm[t] tmps[t] (List.getElem?_eq_getElem ht') (Array.getElem?_eq_getElem ht)
  simpa [List.getD_eq_getElem?_getD,ht,ht'] using this
 ·have ht':¬ t < tm.length:=by rw [h.1];exact ht
  have e1:tm.getD t (.tuple [])=.tuple []:=by rw [List.getD_eq_getElem?_getD,List.getElem?_eq_none (by omega)];rfl
  have e2:tmps.getD t undef=undef:=by simp [ht]
  rw [e1,e2]
  exact .tuple [] #[] rfl (by simp)
theorem FRel.put {S:Snap} {tm:List AV} {a:Act} (h:FRel S tm a.tmps) {v:AV} {u:Value} (hv:VRel S v u) (d:Option Tmp):FRel S (aput tm d v) (a.put d u).tmps:=by
 cases d with
 | none=>exact h
 | some d =>
  refine ⟨by simp [aput,Act.put,h.1],fun i x y hx hy=>?_⟩
  simp only [aput,Act.put] at hx hy
  by_cases hi:d=i
  ·subst hi
   have hl:=lt_of_get hx
   simp at hl
   have hl':d < a.tmps.size:=by rw [← h.1];exact hl
   simp [hl] at hx
   simp [hl'] at hy
   subst hx hy
   exact hv
  ·rw [List.getElem?_set_ne hi] at hx
   rw [Array.getElem?_setIfInBounds_ne hi] at hy
   exact h.2 i x y hx hy

theorem GlobOk.mono {S S':Snap} (hx:Ext S S') (h:GlobOk C S):GlobOk C S':=fun g cs hg=>⟨(h g cs hg).1.mono hx,(h g cs hg).2.1,(h g cs hg).2.2.mono hx⟩

theorem eval_sound {S:Snap} (hG:GlobOk C S) {tm:List AV} {a:Act} (h:FRel S tm a.tmps) (x:Operand):VRel S (eval C tm x) (a.eval x):=by
 cases x with
 | tmp t=>exact h.getD t
 | const v=>exact ofConst_sound 4 v
 | global g =>
  simp only [eval,Act.eval]
  split
  ·exact (hG g _ ‹_›).1
  ·exact .undef _
 | func f=>exact .fn (.func f) [] [] #[] #[] rfl rfl (by simp) (by simp)

def Rel (C:Cfg) (W0:World) (S0:Snap) (D:Act→Prop) (s:St) (a:Act) (w:World):Prop:=∃ S,S.w=w∧Ext S0 S∧Inv W0 S s.2∧GlobOk C S∧FRel S s.1 a.tmps∧D a

theorem awanted_sound {S:Snap} {ops:Array Oper} {tm:List AV} {tmps:Array Value} {o:Oper} {b:Bool} (h:FRel S tm tmps) (hw:awanted ops tm o=some b):Region.wanted o (yielded ops tmps)=b:=by
 unfold awanted at hw
 unfold Region.wanted
 cases hg:o.guard with
 | none=>simp only [hg] at hw ⊢;injection hw
 | some p =>
  obtain ⟨j,want⟩:=p
  simp only [hg] at hw ⊢
  cases hj:ops[j]? with
  | none =>
   simp only [hj] at hw
   injection hw with hw
   subst hw
   simp [yielded,hj]
  | some g =>
   cases hd:g.dst with
   | none =>
    simp only [hj,hd] at hw
    injection hw with hw
    subst hw
    simp [yielded,hj,hd]
   | some d =>
    simp only [hj,hd] at hw
    by_cases hlt:d < tmps.size
    ·have hlt':d < tm.length:=by rw [h.1];exact hlt
     have hr:=h.2 d tm[d] tmps[d] (List.getElem?_eq_getElem hlt') (Array.getElem?_eq_getElem hlt)
     rw [List.getElem?_eq_getElem hlt'] at hw
     have hy:yielded ops tmps j=match tmps[d] with | .bool b=>some b | _=>none:=by
      simp only [yielded,hj,hd,Option.bind_some,Array.getElem?_eq_getElem hlt]
      cases tmps[d] <;> rfl
     rw [hy]
     generalize tm[d]=x at hr hw
     generalize tmps[d]=y at hr
     cases hr <;> simp at hw <;> first
      | (subst hw;rfl)
      | (subst hw;simp)
    ·have hlt':¬ d < tm.length:=by rw [h.1];exact hlt
     rw [List.getElem?_eq_none (Nat.le_of_not_lt hlt')] at hw
     injection hw with hw
     subst hw
     simp [yielded,hj,hd,Array.getElem?_eq_none (Nat.le_of_not_lt hlt)]

theorem oStep_wp (hC : okCfg C) (hcall : CallsOk C W0 call) {ops : Array Oper} {fl : Bool} {o : Oper} {i : Nat} (hD : ∀ a v, D a → D (a.put o.dst v)) {s s' : St} {a : Act} {w : World} {K : Act → World → Prop} {Q : Exit → Act → World → Prop} (ho : ops[i]? = some o)
    (h:oStep C call ops fl o s=some s') (hr:Rel C W0 S0 D s a w) (hK:∀ a' w',Rel C W0 S0 D s' a' w'→K a' w'):wpOp C.P ops Q i K a w:=by
 obtain ⟨S,rfl,hx,hI,hG,hF,hd⟩:=hr
 obtain ⟨tm,H⟩:=s
 unfold oStep oVal at h
 unfold wpOp
 simp only [ho]
 cases hw:awanted ops tm o with
 | none=>simp [hw] at h
 | some b =>
  rw [awanted_sound hF hw]
  cases b with
  | false =>
   simp only [hw,Option.some.injEq] at h
   subst h
   simp only [Bool.false_eq_true,if_false]
   exact hK _ _ ⟨S,rfl,hx,hI,hG,hF.put (.tuple [] #[] rfl (by simp)) _,hD _ _ hd⟩
  | true =>
   simp only [hw] at h
   cases hop:aop C call (eval C tm) H fl o.op with
   | none=>simp [hop] at h
   | some p =>
    obtain ⟨v,H'⟩:=p
    simp only [hop,Option.some.injEq] at h
    subst h
    simp only [if_true]
    refine .inl (aop_sound hC hcall (eval_sound hG hF) hop hI hG fun v' S' hx' hI' hv=>hK _ _ ⟨S',rfl,hx.trans hx',hI',hG.mono hx',(hF.mono hx').put hv _,hD _ _ hd⟩)

theorem lag_sound {S : Snap} {H H' : Hp} {tm : List AV} {o : Oper} {a : Act} {next : Act → World → Prop} {Q : Exit → Act → World → Prop} {v : AV} {p : Nat}
    (hev:∀ x,VRel S (eval C tm x) (a.eval x)) (h:alag p (lagV C (eval C tm) o.op) H=some (v,H')) (hI:Inv W0 S H)
    (hn:∀ v' S',Ext S S'→Inv W0 S' H'→VRel S' v v'→next (a.put o.dst v') S'.w):o.wp C.P a S.w next Q:=by
 unfold alag at h
 split at h
 ·rename_i cs hcs
  split at h
  ·rename_i hp
   split at h
   rotate_left
   ·cases h
   simp only [Option.some.injEq,Prod.mk.injEq] at h
   obtain ⟨rfl,rfl⟩:=h
   generalize hop:o.op=op at hcs
   cases op with
   | alloc e =>
    simp only [lagV] at hcs
    split at hcs
    ·rename_i z hz
     split at hcs
     ·rename_i hkn
      injection hcs with hcs
      subst hcs
      obtain ⟨zc,hzr,hzv⟩:=zeroT_sound hz
      obtain ⟨h1,h2,h3,h4⟩:=newRow_at (P:=C.P) hI hp ((hzv S).cells (by simp only [Bool.and_eq_true] at hkn;exact hkn.1)) e
      refine upon_value (w':=(S.obj p (.cells zc.cells e)).w) ?_ (hn _ _ h2 h3 (.ptr _ 0 _ h4))
      simp [execOp,hop,Instr.alloc,hzr,newVar,h1]
     ·cases hcs
    ·cases hcs
   | box e x =>
    simp only [lagV] at hcs
    split at hcs
    ·rename_i hkn
     injection hcs with hcs
     subst hcs
     obtain ⟨h1,h2,h3,h4⟩:=newRow_at (P:=C.P) hI hp ((hev x).cells hkn) e
     refine upon_value (w':=(S.obj p (.cells (a.eval x).cells e)).w) ?_ (hn _ _ h2 h3 (.ptr _ 0 _ h4))
     simp [execOp,hop,Instr.box,newVar,h1]
    ·cases hcs
   | makeMap t r =>
    cases r with
    | some r=>cases hcs
    | none =>
     simp only [lagV,Option.some.injEq] at hcs
     subst hcs
     obtain ⟨h1,h2,h3,h4⟩:=newMap_at (P:=C.P) t hI hp
     refine upon_value (w':=(S.obj p (.map #[] 0)).w) ?_ (hn _ _ h2 h3 h4)
     simp [execOp,hop,h1]
   | _=>cases hcs
  ·cases h
 ·cases h
theorem rStep_wp (hC : okCfg C) (hcall : CallsOk C W0 call) {ops : Array Oper} {draw : Bool} {o : Oper} {b i : Nat} (hD : ∀ a v, D a → D (a.put o.dst v)) {s s' : St} {a : Act} {w : World} {K : Act → World → Prop} {Q : Exit → Act → World → Prop} (ho : ops[i]? = some o)
    (h:rStep C call ops draw b i o s=some s') (hr:Rel C W0 S0 D s a w) (hK:∀ a' w',Rel C W0 S0 D s' a' w'→K a' w'):wpOp C.P ops Q i K a w:=by
 unfold rStep at h
 split at h
 ·rename_i hl
  have hg:o.guard=none:=(lag_fresh ho (by rw [Bool.and_eq_true] at hl;exact hl.2)).2
  split at h
  ·cases h
  ·split at h
   ·rename_i v H' hal
    injection h with h
    subst h
    obtain ⟨S,rfl,hx,hI,hG,hF,hd⟩:=hr
    obtain ⟨tm,H⟩:=s
    unfold wpOp
    simp only [ho]
    have hw:Region.wanted o (yielded ops a.tmps)=true:=by unfold Region.wanted;simp [hg]
    rw [hw]
    simp only [if_true]
    refine .inl (lag_sound (eval_sound hG hF) hal hI fun v' S' hx' hI' hv=>hK _ _ ⟨S',rfl,hx.trans hx',hI',hG.mono hx',(hF.mono hx').put hv _,hD _ _ hd⟩)
   ·cases h
 ·exact oStep_wp hC hcall hD ho h hr hK

theorem any_wp (hC : okCfg C) (hcall : CallsOk C W0 call) {ops : Array Oper} (hD : ∀ (i : Nat) o, ops[i]? = some o → ∀ a v, D a → D (a.put o.dst v)) {Q : Exit → Act → World → Prop} {b : Nat} {r : St} (hQ : ∀ a w, Rel C W0 S0 D r a w → Q .normal a w) : ∀ (n : Nat) (listed : Array Bool) (s : St) (a : Act) (w : World),
    Any C call ops b n listed s r→Rel C W0 S0 D s a w→wpAny C.P .any ops Q n listed a w:=by
 intro n
 induction n with
 | zero =>
  intro listed s a w h hr
  obtain ⟨h1,rfl⟩:=h
  exact ⟨h1,hQ a w hr⟩
 | succ n ih =>
  intro listed s a w h hr
  refine ⟨fun h0=>?_,fun i hi=>?_⟩
  ·have:=h.1 h0
   subst this
   exact hQ a w hr
  ·obtain ⟨o,s',ho,hs,hn⟩:=h.2 i hi
   exact rStep_wp hC hcall (hD i o ho) ho hs hr fun a' w' hr'=>ih _ s' a' w' hn hr'

theorem text_wp (hC : okCfg C) (hcall : CallsOk C W0 call) {ops : Array Oper} (hD : ∀ (i : Nat) o, ops[i]? = some o → ∀ a v, D a → D (a.put o.dst v)) {b : Nat} {Q : Exit → Act → World → Prop} {r : St} (hQ : ∀ a w, Rel C W0 S0 D r a w → Q .normal a w) : ∀ (l : List Oper) (k : Nat) (s : St) (a : Act) (w : World),
    (∀ j,l[j]?=ops[k+j]?)→execOps C call ops false b k l s=some r→Rel C W0 S0 D s a w→wpOps C.P ops Q (List.range' k l.length) a w:=by
 intro l
 induction l with
 | nil =>
  intro k s a w _ h hr
  simp [execOps] at h
  subst h
  exact hQ a w hr
 | cons o l ih =>
  intro k s a w hl h hr
  have h0:ops[k]?=some o:=by simpa using (hl 0).symm
  unfold execOps at h
  split at h
  ·rename_i s' hs'
   rw [List.length_cons,List.range'_succ,wpOps_cons]
   exact rStep_wp hC hcall (hD k o h0) h0 hs' hr fun a' w' hr'=>ih (k+1) s' a' w' (fun j=>by have:=hl (j+1);simpa [Nat.add_assoc,Nat.add_comm 1 j] using this) h hr'
  ·cases h

theorem keepFrom_length (keep:List Nat):∀ (l:List AV) (i:Nat),(keepFrom keep i l).length=l.length:=by
 intro l
 induction l with
 | nil=>intro i;rfl
 | cons a l ih=>intro i;simp [keepFrom,ih]
theorem keepFrom_get (keep:List Nat):∀ (l:List AV) (i j:Nat) (a:AV),(keepFrom keep i l)[j]?=some a→a=.undef ∨ l[j]?=some a:=by
 intro l
 induction l with
 | nil=>intro i j a h;simp [keepFrom] at h
 | cons x l ih =>
  intro i j a h
  cases j with
  | zero =>
   simp only [keepFrom,List.getElem?_cons_zero,Option.some.injEq] at h
   split at h
   ·right;simp [h]
   ·left;exact h.symm
  | succ j=>simpa using ih (i+1) j a (by simpa [keepFrom] using h)

theorem Rel.trim {kp:Nat→Option (List Nat)} {c:Code} {s:St} {a:Act} {w:World} (h:Rel C W0 S0 D s a w):Rel C W0 S0 D (trim kp c s) a w:=by
 unfold Go.Am.trim
 split
 ·exact h
 ·split
  ·exact h
  ·obtain ⟨S,h1,h2,h3,h4,h5,h6⟩:=h
   refine ⟨S,h1,h2,h3,h4,⟨by rw [keepFrom_length];exact h5.1,fun i x v hx hv=>?_⟩,h6⟩
   rcases keepFrom_get _ _ _ _ _ hx with rfl | hx
   ·exact .undef _
   ·exact h5.2 i x v hx hv

theorem Inv.freeze {S : Snap} {H : List AObj} (hI : Inv W0 S H) {o b : Nat} {l : List AV} (ho : H[o]? = some (.cells l)) (hb : S.phi o = some b) :
    ∃ S':Snap,S'.w=S.w∧Ext S S'∧Inv W0 S' (H.set o .dead)∧VRel S' (.vp l) (.pointer (some ⟨b,0,none⟩)):=by
 obtain ⟨b',c,el,hb',hB,hc,hs,hrel,hnp,hcell⟩:=hI.objs o _ ho
 rw [hb] at hb'
 injection hb' with hb'
 subst hb'
 have hx:Ext S { S with pub:=fun b' i=>S.pub b' i ∨ b'=b } :=
  ⟨⟨fun _ _ h=>h,fun _ _ h=>⟨.inl h,rfl⟩,fun _ e b hw sz h=>⟨e,b,hw,sz,h,Nat.le_refl _,fun _=>⟨rfl,rfl,rfl⟩⟩⟩,rfl,fun b' i hp hl=>hp.elim id fun e=>by have:=hI.lim;omega⟩
 refine ⟨{ S with pub:=fun b' i=>S.pub b' i ∨ b'=b },rfl,hx,?_,?_⟩
 ·refine ⟨hI.below,?_,?_,?_,hI.tinj,hI.apart,?_,hI.dom,hI.tdom,hI.lim⟩
  ·intro o' x hx'
   by_cases he:o=o'
   ·subst he
    have hl:=lt_of_get ho
    simp [hl] at hx'
    subst hx'
    trivial
   ·rw [List.getElem?_set_ne he] at hx'
    have hr:=hI.objs o' x hx'
    have hne:∀ b',S.phi o'=some b'→x ≠ .dead→b' ≠ b:=by
     intro b' h1 h2 h3
     subst h3
     exact he (hI.inj o o' _ hb h1 (by rw [ho];simp) (by rw [hx'];simpa using h2))
    cases x with
    | cells l' =>
     obtain ⟨b',c',el',h1,h2,h3,h4,h5,h6,h7⟩:=hr
     refine ⟨b',c',el',h1,h2,h3,h4,fun i y v hy hv=>(h5 i y v hy hv).mono hx,fun i hp=>?_,h7⟩
     rcases hp with hp | hp
     ·exact h6 i hp
     ·exact hne b' h1 (by simp) hp
    | bld T u l' =>
     obtain ⟨b',h1,h2,h3,h4,h5⟩:=hr
     refine ⟨b',h1,h2,h3,fun i hp=>?_,fun v g hv hg=>?_⟩
     ·rcases hp with hp | hp
      ·exact h4 i hp
      ·exact hne b' h1 (by simp) hp
     ·obtain ⟨⟨n,hw,sz,q⟩,q2⟩:=h5 v g hv hg
      refine ⟨⟨n,hw,sz,q⟩,fun i hp=>?_⟩
      rcases hp with hp | hp
      ·exact q2 i hp
      ·subst hp;exact hI.apart _ _ _ _ _ _ q hb
    | row e l' =>
     obtain ⟨b',sz,c',el',fz,h1,h2,h3,h4,h5,h6,h7,h8,h9⟩:=hr
     refine ⟨b',sz,c',el',fz,h1,h2,h3,h4,h5,fun i y v hy hv=>(h6 i y v hy hv).mono hx,fun i hp=>?_,h8,h9⟩
     rcases hp with hp | hp
     ·exact h7 i hp
     ·subst hp;exact hI.apart _ _ _ _ _ _ h1 hb
    | tok e =>
     obtain ⟨b',hw,sz,c',el',fz,h1,h2,h3,h4,h5,h6,h7⟩:=hr
     refine ⟨b',hw,sz,c',el',fz,h1,h2,h3,h4,h5,fun i hi hp=>?_,h7⟩
     rcases hp with hp | hp
     ·exact h6 i hi hp
     ·subst hp;exact hI.apart _ _ _ _ _ _ h1 hb
    | map es clock =>
     obtain ⟨b',es',h1,h2,h3,h4,h5,h6⟩:=hr
     refine ⟨b',es',h1,h2,h3,h4,fun i hp=>?_,fun i k v n e he1 he2=>?_⟩
     ·rcases hp with hp | hp
      ·exact h5 i hp
      ·exact hne b' h1 (by simp) hp
     ·obtain ⟨q1,q2,q3⟩:=h6 i k v n e he1 he2
      exact ⟨q1.mono hx,q2.mono hx,q3⟩
    | siter s pos =>
     obtain ⟨b',s',h1,h2,h3,h4,h5⟩:=hr
     refine ⟨b',s',h1,h2,h3,h4,fun i hp=>?_⟩
     rcases hp with hp | hp
     ·exact h5 i hp
     ·exact hne b' h1 (by simp) hp
    | dead=>trivial
    | free=>exact hr
  ·intro o' ho'
   rw [List.length_set] at ho'
   exact hI.past o' ho'
  ·intro o1 o2 b' h1 h2 h3 h4
   refine hI.inj o1 o2 b' h1 h2 (fun h=>h3 ?_) (fun h=>h4 ?_)
   ·by_cases he:o=o1
    ·subst he;rw [ho] at h;cases h
    ·rw [List.getElem?_set_ne he];exact h
   ·by_cases he:o=o2
    ·subst he;rw [ho] at h;cases h
    ·rw [List.getElem?_set_ne he];exact h
  ·intro b' i hp
   rcases hp with hp | hp
   ·exact hI.puball b' i hp
   ·subst hp;exact hI.dom o _ hb
 ·have hcl : ∀ i, i < l.length → S.w.cell? ⟨b, 0 + i, none⟩ = some (c.getD i undef) := by
     intro i hi
     have hi':i < c.size:=by omega
     simp [World.cell?,hc,hi',Nat.zero_add]
  refine .vp l b 0 (fun i=>c.getD i undef) hcell (fun i hi=>⟨hcl i hi,.inr rfl⟩) (fun i x hx'=>?_)
  have hi:i < c.size:=by rw [hs];exact lt_of_get hx'
  refine (hrel i x _ hx' ?_).mono hx
  simp [hi]
theorem Rel.frz1 {s:St} {a:Act} {w:World} (h:Rel C W0 S0 D s a w) (t:Nat):Rel C W0 S0 D (frz1 s t) a w:=by
 obtain ⟨tm,H⟩:=s
 have hid:Rel C W0 S0 D (tm.set t (tm.getD t (.tuple [])),H) a w:=by
  have:tm.set t (tm.getD t (.tuple []))=tm:=by
   apply List.ext_getElem?
   intro i
   by_cases he:t=i
   ·subst he
    by_cases hl:t < tm.length
    ·simp [hl,List.getD_eq_getElem?_getD]
    ·simp [hl]
   ·rw [List.getElem?_set_ne he]
  rw [this];exact h
 unfold Go.Am.frz1 frzV
 simp only
 split
 ·rename_i o he
  split
  ·rename_i l hl
   obtain ⟨S,h1,h2,h3,h4,h5,h6⟩:=h
   have hr:=h5.getD t
   rw [he] at hr
   generalize hv:a.tmps.getD t undef=v at hr
   cases hr with
   | ptr _ _ b hb =>
   obtain ⟨S',g1,g2,g3,g4⟩:=h3.freeze hl hb
   refine ⟨S',g1.trans h1,h2.trans g2,g3,h4.mono g2,⟨by simp [h5.1],fun i x y hx hy=>?_⟩,h6⟩
   by_cases hi:t=i
   ·subst hi
    have hlt:=lt_of_get hx
    simp at hlt
    have hlt':t < a.tmps.size:=by rw [← h5.1];exact hlt
    simp [hlt] at hx
    subst hx
    have:y=a.tmps.getD t undef:=by simp [hlt'] at hy ⊢;exact hy.symm
    rw [this,hv]
    exact g4
   ·rw [List.getElem?_set_ne hi] at hx
    exact (h5.2 i x y hx hy).mono g2
  ·rename_i hl
   exfalso
   obtain ⟨S,h1,h2,h3,h4,h5,h6⟩:=h
   have hr:=h5.getD t
   rw [he] at hr
   generalize hv:a.tmps.getD t undef=v at hr
   cases hr with
   | ptr _ _ b hb =>
   rw [(h3.objs o _ hl).1] at hb
   cases hb
  ·rename_i hn
   exact hid
 ·exact hid
theorem Rel.frzs {kp:Nat→Option (List Nat)} {id:Nat} {s:St} {a:Act} {w:World} (h:Rel C W0 S0 D s a w):Rel C W0 S0 D (frzs kp id s) a w:=by
 unfold Go.Am.frzs
 split
 ·exact h
 ·rename_i ts _
  unfold frzL
  rename_i hk;clear hk
  induction ts generalizing s with
  | nil=>exact h
  | cons t ts ih=>exact ih (h.frz1 t)

def toExit:AExit→Exit
 | .normal=>.normal
 | .exit id=>.exit id
 | .goto l=>.goto l
 | .ret=>.ret

def Post (C:Cfg) (W0:World) (S0:Snap) (D:Act→Prop) (e:AExit) (s:St):Exit→Act→World→Prop:=fun e' a w=>e'=toExit e∧Rel C W0 S0 D s a w

theorem Rel.resv {s:St} {a:Act} {w:World} (h:Rel C W0 S0 D s a w) (n:Nat):Rel C W0 S0 D (s.1,resvH n s.2) a w:=by
 cases n with
 | zero=>exact h
 | succ n =>
  obtain ⟨S,h1,h2,h3,h4⟩:=h
  exact ⟨S,h1,h2,h3.resv (n+1),h4⟩
theorem resvH_length (n:Nat) (H:Hp):(resvH n H).length=H.length+n:=by
 cases n with
 | zero=>rfl
 | succ n=>simp [resvH]
theorem exec_noGoto {kp:Nat→Option (List Nat)} {n:Nat}:∀ (c:Code) (s s':St) (e:AExit),noGoto c=true→exec C call kp n c s=some (e,s')→∀ l,e ≠ .goto l:=by
 intro c
 induction c with
 | seq a b iha ihb =>
  intro s s' e hg h
  simp only [noGoto,Bool.and_eq_true] at hg
  simp only [exec] at h
  split at h
  ·exact ihb _ _ _ hg.2 h
  ·exact iha _ _ _ hg.1 h
 | cond o x y ihx ihy =>
  intro s s' e hg h
  simp only [noGoto,Bool.and_eq_true] at hg
  simp only [exec] at h
  split at h
  ·split at h
   ·exact ihx _ _ _ hg.1 h
   ·exact ihy _ _ _ hg.2 h
  ·cases h
 | block id c ih =>
  intro s s' e hg h
  simp only [noGoto] at hg
  simp only [exec] at h
  split at h
  ·split at h <;>
   ·simp only [Option.some.injEq,Prod.mk.injEq] at h
    intro l hl
    rw [← h.1] at hl
    cases hl
  ·exact ih _ _ _ hg h
 | loop c ih =>
  intro s s' e hg h
  simp only [noGoto] at hg
  simp only [exec] at h
  have key:∀ (j:Nat) (s:St),loopN (fun s=>exec C call kp n c (trim kp c s)) j s=some (e,s')→∀ l,e ≠ .goto l:=by
   intro j
   induction j with
   | zero=>intro s h;simp [loopN] at h
   | succ j ihj =>
    intro s h
    simp only [loopN] at h
    split at h
    ·exact ihj _ h
    ·exact ih _ _ _ hg h
  exact key _ _ h
 | scope c ih =>
  intro s s' e hg h
  simp only [noGoto] at hg
  simp only [exec] at h
  rw [if_pos hg] at h
  exact ih _ _ _ hg h
 | goto l=>intro s s' e hg;simp [noGoto] at hg
 | region id ops draw =>
  intro s s' e hg h
  simp only [exec] at h
  split at h
  ·cases h
  ·split at h
   ·simp only [Option.some.injEq,Prod.mk.injEq] at h
    intro l hl
    rw [← h.1] at hl
    cases hl
   ·cases h
 | skip | exit _ | label _ | ret =>
  intro s s' e hg h
  simp only [exec,Option.some.injEq,Prod.mk.injEq] at h
  intro l hl
  rw [← h.1] at hl
  cases hl
 | _=>intro s s' e hg h;simp [exec] at h
def KeepsD (D:Act→Prop):Code→Prop
 | .region _ ops _=>∀ (i:Nat) o,ops[i]?=some o→∀ a v,D a→D (a.put o.dst v)
 | .seq x y=>KeepsD D x∧KeepsD D y
 | .cond _ x y=>KeepsD D x∧KeepsD D y
 | .block _ c=>KeepsD D c
 | .loop c=>KeepsD D c
 | .scope c=>KeepsD D c
 | _=>True
theorem keepsD_all {D:Act→Prop} (h:∀ a dst v,D a→D (a.put dst v)):∀ c:Code,KeepsD D c:=by
 intro c
 induction c with
 | region id ops draw=>exact fun i o _ a v ha=>h a _ v ha
 | seq x y ihx ihy=>exact ⟨ihx,ihy⟩
 | cond c x y ihx ihy=>exact ⟨ihx,ihy⟩
 | block id c ih=>exact ih
 | loop c ih=>exact ih
 | scope c ih=>exact ih
 | _=>trivial
theorem exec_wp (hC : okCfg C) (hcall : CallsOk C W0 call) (hfr : Framed call) {kp : Nat → Option (List Nat)} {n : Nat} : ∀ (c : Code) (s s' : St) (e : AExit) (a : Act) (w : World), KeepsD D c →
    exec C call kp n c s=some (e,s')→Rel C W0 S0 D s a w→c.wp C.P (Post C W0 S0 D e s') a w:=by
 intro c
 induction c with
 | skip=>intro s s' e a w hk h hr;simp [exec] at h;obtain ⟨rfl,rfl⟩:=h;exact wp_skip ⟨rfl,hr⟩
 | region id ops draw =>
  intro s s' e a w hk h hr
  simp only [exec] at h
  have hr:=hr.frzs (kp:=kp) (id:=id)
  generalize frzs kp id s=s at h hr
  split at h
  ·cases h
  ·rename_i hdr
   split at h
   ·rename_i r hex
    simp only [Option.some.injEq,Prod.mk.injEq] at h
    obtain ⟨rfl,rfl⟩:=h
    cases draw with
    | false =>
     refine wp_region ?_
     have:=text_wp (S0:=S0) (Q:=Post C W0 S0 D .normal r) hC hcall hk (fun a w hr=>⟨rfl,hr⟩) ops.toList 0 _ a w (by simp) hex (hr.resv _)
     rw [Array.length_toList] at this
     rw [List.range_eq_range']
     exact this
    | true =>
     have hdr2:orderOk ops=true∧farAll C ops (eval C s.1)=true:=by simpa using hdr
     have hok:=hdr2.1
     obtain ⟨hFA,hFK⟩:=farAll_at hdr2.2
     refine wp_region_any hC.2.2.1 ?_
     have hr:=hr.resv (lags C ops ops.size)
     simp only [if_true] at hex
     have hany:=any_of_exec hfr hFK hok ops.toList 0 (Array.replicate ops.size false) (s.1,resvH (lags C ops ops.size) s.2) r hFA (by simp) (by simp) (fun x hx=>by simp [hx]) (Nat.zero_le _) (by rw [resvH_length];omega) hex
     rw [Array.length_toList] at hany
     refine any_wp (S0:=S0) hC hcall hk (fun a w hr=>⟨rfl,hr⟩) ops.size _ _ a _ hany ?_
     obtain ⟨S,rfl,hx,hI,hG,hF,hd⟩:=hr
     exact ⟨S.drew,rfl,hx.trans (Ext.drew S),hI.drew,hG.mono (Ext.drew S),hF.mono (Ext.drew S),hd⟩
   ·cases h
 | seq x y ihx ihy =>
  intro s s' e a w hk h hr
  simp only [exec] at h
  cases hx:exec C call kp n x s with
  | none=>simp [hx] at h
  | some p =>
   obtain ⟨e1,s1⟩:=p
   refine wp_seq (wp_mono (ihx s s1 e1 a w hk.1 hx hr) fun e' a' w' hp=>?_)
   obtain ⟨rfl,hr'⟩:=hp
   cases e1 with
   | normal =>
    simp only [hx] at h
    exact ihy _ s' e a' w' hk.2 h hr'.trim
   | _ =>
    simp only [hx,Option.some.injEq,Prod.mk.injEq] at h
    obtain ⟨rfl,rfl⟩:=h
    exact ⟨rfl,hr'⟩
 | cond c x y ihx ihy =>
  intro s s' e a w hk h hr
  simp only [exec] at h
  split at h
  ·rename_i t ht
   have hrr:=hr
   obtain ⟨S,rfl,hx,hI,hG,hF,hd⟩:=hr
   have hc:=eval_sound hG hF c
   rw [ht] at hc
   generalize hcv:a.eval c=cv at hc
   cases hc with | bool _ =>
   cases t with
   | true=>exact wp_cond_true hcv (ihx s s' e a _ hk.1 (by simpa using h) hrr)
   | false=>exact wp_cond_false hcv (ihy s s' e a _ hk.2 (by simpa using h) hrr)
  ·cases h
 | block id c ih =>
  intro s s' e a w hk h hr
  simp only [exec] at h
  cases hx:exec C call kp n c s with
  | none=>simp [hx] at h
  | some p =>
   obtain ⟨e1,s1⟩:=p
   refine wp_block (wp_mono (ih s s1 e1 a w hk hx hr) fun e' a' w' hp=>?_)
   obtain ⟨rfl,hr'⟩:=hp
   cases e1 with
   | exit i =>
    simp only [hx] at h
    simp only [toExit,Exit.inBlock]
    split at h
    ·rename_i hi
     simp only [Option.some.injEq,Prod.mk.injEq] at h
     obtain ⟨rfl,rfl⟩:=h
     rw [if_pos hi]
     exact ⟨rfl,hr'⟩
    ·rename_i hi
     simp only [Option.some.injEq,Prod.mk.injEq] at h
     obtain ⟨rfl,rfl⟩:=h
     rw [if_neg hi]
     exact ⟨rfl,hr'⟩
   | _ =>
    simp only [hx,Option.some.injEq,Prod.mk.injEq] at h
    obtain ⟨rfl,rfl⟩:=h
    exact ⟨rfl,hr'⟩
 | loop c ih =>
  intro s s' e a w hk h hr
  simp only [exec] at h
  refine wp_loop_rounds n ?_
  have key:∀ (m:Nat) (s:St) (a:Act) (w:World),loopN (fun s=>exec C call kp n c (trim kp c s)) m s=some (e,s')→Rel C W0 S0 D s a w→Code.rounds C.P c (Post C W0 S0 D e s') m a w:=by
   intro m
   induction m with
   | zero=>intro s a w h;simp [loopN] at h
   | succ m ihm =>
    intro s a w h hr
    simp only [loopN] at h
    rw [rounds_succ]
    cases hx:exec C call kp n c (trim kp c s) with
    | none=>simp [hx] at h
    | some p =>
     obtain ⟨e1,s1⟩:=p
     refine wp_mono (ih _ s1 e1 a w hk hx hr.trim) fun e' a' w' hp=>?_
     obtain ⟨rfl,hr'⟩:=hp
     cases e1 with
     | normal =>
      simp only [hx] at h
      exact ihm s1 a' w' h hr'
     | _ =>
      simp only [hx,Option.some.injEq,Prod.mk.injEq] at h
      obtain ⟨rfl,rfl⟩:=h
      exact ⟨rfl,hr'⟩
  exact key n s a w h hr
 | rangeFunc f p x y _ _=>intro s s' e a w hk h;simp [exec] at h
 | exit id=>intro s s' e a w hk h hr;simp [exec] at h;obtain ⟨rfl,rfl⟩:=h;exact wp_exit ⟨rfl,hr⟩
 | scope c ih =>
  intro s s' e a w hk h hr
  simp only [exec] at h
  split at h
  ·rename_i hg
   refine wp_scope_straight (wp_mono (ih s s' e a w hk h hr) fun e' a' w' hp=>?_)
   obtain ⟨rfl,hr'⟩:=hp
   cases e with
   | goto l=>exact absurd rfl (exec_noGoto c s s' _ hg h l)
   | normal=>exact ⟨rfl,hr'⟩
   | exit i=>exact ⟨rfl,hr'⟩
   | ret=>exact ⟨rfl,hr'⟩
  ·cases h
 | label l=>intro s s' e a w hk h hr;simp [exec] at h;obtain ⟨rfl,rfl⟩:=h;exact wp_label ⟨rfl,hr⟩
 | goto l=>intro s s' e a w hk h hr;simp [exec] at h;obtain ⟨rfl,rfl⟩:=h;exact wp_goto ⟨rfl,hr⟩
 | ret=>intro s s' e a w hk h hr;simp [exec] at h;obtain ⟨rfl,rfl⟩:=h;exact wp_ret ⟨rfl,hr⟩
 | refuse s=>intro s s' e a w hk h;simp [exec] at h
end
end Go.Am
