/-
  THE ABSTRACT MACHINE, part V: from the machine to a statement about a function of plain data that answers true.
-/
import Derived.Test.YtpahcdhligjdiaaKmUx
import Derived.ProofKit
import Derived.Below
import Derived.ChangeSame
namespace Go.Am
open Go.WideShapes Go.ChangeShapes Go.ChangeAt RowKit

section
variable {H:Type} {enc:TypeId × Value→H} {P:Program} {W:World} {S:Snap}

def AT {H:Type} (P:Program) (t:TypeId) (d:DataW H) (a:AV):Prop:=∃ n vals,TV P n t d vals∧a=ofCells (aggOf P t) vals
def aggD:TypeDesc→Bool
 | .struct _=>true
 | .array _ _=>true
 | _=>false
theorem aggOf_eq {t:TypeId} {d:TypeDesc} (h:P.underlying t=some d):aggOf P t=aggD d:=by
 unfold aggOf isAggT
 rw [h]
 cases d <;> rfl
theorem arg_rel (hl : laidOutB P = true) (hw : S.w = W) (hp : ∀ b i, b < W.heap.size → S.pub b i) {L : List Nat} (hL : L.all (plainIn P L) = true) {r : Reach} {b0 : Nat} {t : TypeId} {v : Value} {d : DataW H} {ps : List MemPlace}
    (ht:L.contains t=true) (hlt:t < P.types.size) (hval:Value.okWide P W r b0 t v) (hd:DataW.Trod enc P W 0 (fun _=>true) true t v d ps):∃ a,AT P t d a∧VRel S a v:=by
 obtain ⟨n,hn⟩:=hd
 obtain ⟨as,h1,h2⟩:=read_rel hl hw hp hL n t _ _ ht hlt hn
 refine ⟨_,⟨n,as,h1,rfl⟩,?_⟩
 have hpl:plainIn P L t=true:=List.all_eq_true.1 hL t (List.contains_iff_mem.1 ht)
 unfold plainIn at hpl
 have one:aggOf P t=false→v.cells=#[v]→VRel S (ofCells (aggOf P t) as) v:=by
  intro hg hv
  rw [hg]
  rw [hv] at h2
  have hlen:=h2.1
  simp at hlen
  obtain ⟨x,rfl⟩:=List.length_eq_one_iff.1 hlen
  exact h2.2.2 0 x v rfl rfl
 have agg:aggOf P t=true→(∃ cs,v=.agg cs)→VRel S (ofCells (aggOf P t) as) v:=by
  rintro hg ⟨cs,rfl⟩
  rw [hg]
  refine .agg as cs h2.2.1 ?_ fun i c w hc hw'=>?_
  ·have:=h2.1;simp [Value.cells] at this;exact this.symm
  ·refine h2.2.2 i c w hc ?_
   simpa [Value.cells] using hw'
 cases hu:P.underlying t with
 | none=>simp [hu] at hpl
 | some dd =>
  have hag:=aggOf_eq hu
  cases dd with
  | bool=>obtain ⟨b,rfl⟩:=okWide_bool hu hval;exact one hag rfl
  | int k=>obtain ⟨b,rfl⟩:=okWide_int hu hval;exact one hag rfl
  | string=>obtain ⟨b,rfl⟩:=okWide_string hu hval;exact one hag rfl
  | pointer e=>obtain ⟨b,rfl⟩:=okWide_pointer hu hval;exact one hag rfl
  | slice e=>obtain ⟨b,l,c,rfl⟩:=okWide_slice hu hval;exact one hag rfl
  | struct fs=>obtain ⟨cs,h,_⟩:=okWide_struct hu hval;exact agg hag ⟨cs,h⟩
  | array n e =>
   simp only [Value.okWide,hu] at hval
   obtain ⟨cs,h,_⟩:=hval
   exact agg hag ⟨cs,h⟩
  | _=>simp [hu] at hpl

theorem args_rel (hl : laidOutB P = true) (hw : S.w = W) (hp : ∀ b i, b < W.heap.size → S.pub b i) {L : List Nat} (hL : L.all (plainIn P L) = true) {r : Reach} {b0 : Nat} : ∀ (ts : List TypeId) (vs : List Value) (ds : List (DataW H)) (ps : List MemPlace),
    (∀ t ∈ ts,L.contains t=true∧t < P.types.size)→(∀ (j:Nat) (t:TypeId) (v:Value),ts[j]?=some t→vs[j]?=some v→Value.okWide P W r b0 t v)→DataW.TrodAll enc P W 0 (fun _=>true) true ts vs ds ps →
    vs.length=ts.length∧ds.length=ts.length∧∃ avs:List AV,avs.length=ts.length∧(∀ (j:Nat) (t:TypeId) (d:DataW H) (a:AV),ts[j]?=some t→ds[j]?=some d→avs[j]?=some a→AT P t d a)∧(∀ (j:Nat) (a:AV) (v:Value),avs[j]?=some a→vs[j]?=some v→VRel S a v):=by
 intro ts
 induction ts with
 | nil =>
  intro vs ds ps _ _ h
  obtain ⟨rfl,rfl,rfl⟩:=trodAll_nil h
  exact ⟨rfl,rfl,[],rfl,by simp,by simp⟩
 | cons t ts ih =>
  intro vs ds ps hts hval h
  obtain ⟨v,vs',d,ds',p,q,rfl,rfl,rfl,h1,h2⟩:=trodAll_cons h
  obtain ⟨ht,hlt⟩:=hts t (by simp)
  obtain ⟨a,ha,hr⟩:=arg_rel hl hw hp hL ht hlt (hval 0 t v rfl rfl) h1
  obtain ⟨q1,q2,avs,q3,q4,q5⟩:=ih vs' ds' q (fun t h=>hts t (by simp [h])) (fun j t v hj hv=>hval (j+1) t v (by simpa using hj) (by simpa using hv)) h2
  refine ⟨by simp [q1],by simp [q2],a :: avs,by simp [q3],fun j t' d' x hj hd hx=>?_,fun j x w hx hw'=>?_⟩
  ·cases j with
   | zero =>
    simp only [List.getElem?_cons_zero,Option.some.injEq] at hj hd hx
    subst hj hd hx
    exact ha
   | succ j=>exact q4 j t' d' x (by simpa using hj) (by simpa using hd) (by simpa using hx)
  ·cases j with
   | zero =>
    simp only [List.getElem?_cons_zero,Option.some.injEq] at hx hw'
    subst hx hw'
    exact hr
   | succ j=>exact q5 j x w (by simpa using hx) (by simpa using hw')

theorem trodAll_stays (hl : laidOutB P = true) {W' : World} (hb : Below W.heap.size W W') (sp : Nat → Bool) : ∀ (ts : List TypeId) (vs : List Value) (ds : List (DataW H)) (ps : List MemPlace),
    (∀ t ∈ ts,P.readableRec t=true∧t < P.types.size)→DataW.TrodAll enc P W 0 (fun _=>true) true ts vs ds ps→(∀ p ∈ ps,p.block < W.heap.size)→(∀ p ∈ ps,sp p.block=true)→DataW.TrodAll enc P W' 0 sp true ts vs ds ps:=by
 intro ts
 induction ts with
 | nil =>
  intro vs ds ps _ h _ _
  obtain ⟨rfl,rfl,rfl⟩:=trodAll_nil h
  rfl
 | cons t ts ih =>
  intro vs ds ps hts h hlt hsp
  obtain ⟨v,vs',d,ds',p,q,rfl,rfl,rfl,h1,h2⟩:=trodAll_cons h
  refine trodAll_cons_mk (WideElems.Trod_stays hl (hts t (by simp)).1 (hts t (by simp)).2 h1 (fun x hx=>hb.same (hlt x (by simp [hx]))) (fun x hx=>hsp x (by simp [hx]))) ?_
  exact ih vs' ds' q (fun t h=>hts t (by simp [h])) h2 (fun x hx=>hlt x (by simp [hx])) (fun x hx=>hsp x (by simp [hx]))
end

def start (W:World):Snap:={ w:=W,phi:=fun _=>none,pub:=fun b _=>b < W.heap.size,tk:=fun _=>none,lim:=0 }
theorem start_inv (W:World):Inv W (start W) [] :=
 ⟨Below.refl _ _,by simp,fun _ _=>⟨rfl,rfl⟩,by simp [start],by simp [start],by simp [start],fun _ _ h=>h,by simp [start],by simp [start],Nat.zero_le _⟩

theorem glob_start {C : Cfg} {W : World} (h : ∀ g cs, C.glob g = some cs → Sc 0 (.vp cs) ∧ cs.all AV.isCell = true ∧ ∃ (vs : Array Value) (el : TypeId) (fr : Nat × Nat), W.heap[g]? = some (.cells vs el fr) ∧ vs.size = cs.length ∧
    ∀ (i:Nat) (c:AV) (v:Value),cs[i]?=some c→vs[i]?=some v→VRel (start W) c v):GlobOk C (start W):=by
 intro g cs hg
 obtain ⟨h1,h2,vs,el,fr,h3,h4,h5⟩:=h g cs hg
 have hlt:g < W.heap.size:=(Array.getElem?_eq_some_iff.1 h3).1
 have hc:∀ i,W.cell? ⟨g,i,none⟩=vs[i]?:=fun i=>by simp [World.cell?,h3]
 refine ⟨.vp cs g 0 (fun i=>vs.getD i undef) h2 (fun i hi=>⟨?_,hlt⟩) (fun i c hi=>?_),h1,vs,h4,fun i=>⟨hlt,hc i⟩⟩
 ·show W.cell? _=_
  rw [Nat.zero_add,hc i]
  have:i < vs.size:=by omega
  simp [Array.getD_eq_getD_getElem?,this]
 ·have hlt2:i < vs.size:=by rw [h4];exact lt_of_get hi
  refine h5 i c _ hi ?_
  simp [Array.getD_eq_getD_getElem?,hlt2]
theorem law_contract {H : Type} {enc : TypeId × Value → H} {C : Cfg} (hC : okCfg C) {f : FuncId} {fn : Func} {s : ChangeSpec} {apart : Bool} (hl : laidOutB C.P = true) {L : List Nat} (hL : L.all (plainIn C.P L) = true)
    (hpar:fn.params.toList.all (fun t=>L.contains t && decide (t < C.P.types.size) && C.P.readableRec t)=true)
    (hvars:s.vars=[]) (hspec:∀ ds:List (DataW H),ds.length=fn.params.toList.length→s.fn H ds={ results:=[.lit (.bool true)],args:=ds })
    {rt:TypeId} (hres:fn.resultTypes=#[rt]) (hrt:C.P.underlying rt=some .bool)
    (K:List (DataW H)→Prop) (law:∀ (ds:List (DataW H)) (avs:List AV),ds.length=fn.params.toList.length→avs.length=fn.params.toList.length→(∀ (j:Nat) (t:TypeId) (d:DataW H) (a:AV),fn.params.toList[j]?=some t→ds[j]?=some d→avs[j]?=some a→AT C.P t d a)→K ds→∃ H',callw C f avs []=some (.bool true,H'))
    (W:World) (base:Nat) (args:Array Value) (ds gs:List (DataW H)) (before:List MemPlace)
    (hval:∀ (j:Nat) t v,fn.params[j]?=some t→args[j]?=some v→Value.okWide C.P W .any base t v)
    (hW:DataW.Whole enc C.P fn.params.toList s.vars apart W args.toList ds gs before) (hK:K ds) (hg:GlobOk C (start W)) :
    Calls C.P f args W fun e W'=>∃ v,e=.returned v∧s.post enc C.P fn apart true false false W args v W':=by
 have hW':=hW
 obtain ⟨p,q,hA,hV,rfl,hfz,hnd⟩:=hW
 rw [hvars] at hV
 obtain ⟨rfl,rfl⟩:=trodVars_none hV
 have hp3:∀ t ∈ fn.params.toList,L.contains t=true∧t < C.P.types.size∧C.P.readableRec t=true:=fun t ht=>by
  have:=List.all_eq_true.1 hpar t ht
  simpa [and_assoc] using this
 obtain ⟨q1,q2,avs,q3,q4,q5⟩:=args_rel (S:=start W) hl rfl (fun _ _ h=>h) hL _ _ _ _ (fun t ht=>⟨(hp3 t ht).1,(hp3 t ht).2.1⟩) (fun j t v hj hv=>hval j t v (by simpa using hj) (by simpa using hv)) hA
 obtain ⟨H',hcall⟩:=law ds avs q2 q3 q4 hK
 have hlt:∀ x ∈ p++[],x.block < W.heap.size:=fun x hx=>hW'.lt x hx
 refine (callw_sound (W0:=W) hC f avs [] H' _ hcall (start W) args (start_inv W) hg (by rw [← Array.length_toList,q1,q3]) (fun j a u ha hu=>q5 j a u ha (by simpa using hu))).mono fun e W' h=>?_
 obtain ⟨v',S',he,hw',_,hI,hv⟩:=h
 cases hv with | bool _ =>
 have hb:Below W.heap.size W W':=by rw [← hw'];exact hI.below
 refine ⟨_,he,ds,[],p++[],[],p,[],hW',?_,?_,?_,hb.frame _,fun h=>by cases h⟩
 ·rw [List.append_nil,hspec ds q2,hres]
  exact trodAll_cons_mk (shut_bool hrt true) trodAll_mk0
 ·rw [List.append_nil,hspec ds q2]
  exact trodAll_stays hl hb _ _ _ _ _ (fun t ht=>⟨(hp3 t ht).2.2,(hp3 t ht).2.1⟩) hA (fun x hx=>hlt x (by simp [hx])) (fun x hx=>by simpa using hlt x (by simp [hx]))
 ·rw [List.append_nil,hspec ds q2,hvars]
  rfl
def fieldTypes (P:Program) (t:TypeId):Option (List Nat) :=
 match P.underlying t with
 | some (.struct fs)=>some (fs.toList.map (·.type))
 | _=>none
section
variable {H:Type} {P:Program} {d:DataW H}
theorem TV.int {n:Nat} {t:TypeId} {k:IntKind} {vals:List AV} (hu:P.underlying t=some (.int k)) (h:TV P n t d vals):∃ m,d=.lit (.int k m)∧vals=[.int k m]∧(Lit.int k m).wf=true:=by
 cases n with
 | zero=>exact h.elim
 | succ n=>unfold TV at h;rw [hu] at h;exact h
theorem TV.bool {n:Nat} {t:TypeId} {vals:List AV} (hu:P.underlying t=some .bool) (h:TV P n t d vals):∃ m,d=.lit (.bool m)∧vals=[.bool m]:=by
 cases n with
 | zero=>exact h.elim
 | succ n=>unfold TV at h;rw [hu] at h;exact h
theorem TV.str {n:Nat} {t:TypeId} {vals:List AV} (hu:P.underlying t=some .string) (h:TV P n t d vals):∃ s:List UInt8,d=.lit (.string s)∧vals=[.str s]∧s.length≤maxLen:=by
 cases n with
 | zero=>exact h.elim
 | succ n=>unfold TV at h;rw [hu] at h;exact h
theorem TV.fields {n : Nat} {t : TypeId} {ts : List Nat} {vals : List AV} (hf : fieldTypes P t = some ts) (h : TV P n t d vals) :
    ∃ (ds:List (DataW H)) (parts:List (List AV)) (m:Nat),d=.agg ds∧vals=parts.flatten∧parts.length=ts.length∧ds.length=ts.length ∧
     ∀ (i:Nat) (u:TypeId) (p:List AV) (d':DataW H),ts[i]?=some u→parts[i]?=some p→ds[i]?=some d'→TV P m u d' p:=by
 cases n with
 | zero=>exact h.elim
 | succ n =>
  unfold TV at h
  unfold fieldTypes at hf
  split at hf
  ·rename_i fs hu
   injection hf with hf
   subst hf
   rw [hu] at h
   obtain ⟨ds,parts,h0,h1,h2,h3,h4⟩:=h
   refine ⟨ds,parts,n,h0,h1,by simp [h2],by simp [h3],fun i u p d' hu' hp hd=>?_⟩
   rw [List.getElem?_map,Option.map_eq_some_iff] at hu'
   obtain ⟨f,hf,rfl⟩:=hu'
   exact h4 i f p d' (by simpa using hf) hp hd
  ·cases hf
theorem three {α:Type} {l:List α} (h:l.length=3):∃ a b c,l=[a,b,c]:=by
 match l,h with
 | [a,b,c],_=>exact ⟨a,b,c,rfl⟩
end
end Go.Am
