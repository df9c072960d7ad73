/-
  THE ABSTRACT MACHINE, part L: a region, in whatever order.
-/
import Derived.Test.YtpahcdhligjdiaaKmFrx
namespace Go.Am
open RowKit

section
variable {C:Cfg} {call:CallF} {ops:Array Oper}

theorem map_congr_ev {ev ev':Operand→AV} {xs:Array Operand} (h:∀ x ∈ xs,ev x=ev' x):xs.toList.map ev=xs.toList.map ev' :=
 List.map_congr_left fun x hx=>h x (by simpa using hx)
theorem opt_congr_ev {ev ev':Operand→AV} {x:Option Operand} (h:∀ y ∈ x.toArray,ev y=ev' y):x.map ev=x.map ev':=by
 cases x with
 | none=>rfl
 | some y=>simp [h y (by simp)]

theorem apure_congr {ev ev':Operand→AV} {op:Op} (h:∀ x ∈ op.operands,ev x=ev' x):apure C ev op=apure C ev' op:=by
 cases op <;> simp only [Op.operands] at h
 case call c =>
  obtain ⟨callee,args,argTypes⟩:=c
  cases callee with
  | value f=>rfl
  | invoke r m=>rfl
  | builtin b =>
   have ha:∀ x ∈ args,ev x=ev' x:=fun x hx=>h x (by simp [Call.operands,hx])
   cases b <;> try rfl
   case len =>
    simp only [apure]
    split
    ·rename_i hargs _
     obtain rfl:=one_of_toList hargs
     simp [ha]
    ·rfl
   all_goals
    simp only [apure]
    split
    ·rename_i hargs
     obtain rfl:=two_of_toList hargs
     simp [ha]
    ·rfl
 case build t ps =>
  have:(ps.toList.map fun p=>(p.1,ev p.2))=ps.toList.map fun p=>(p.1,ev' p.2):=List.map_congr_left fun p hp=>by
   rw [h p.2 (by simp;exact ⟨p.1,by simpa using hp⟩)]
  simp only [apure,this]
 case buildSlice t n ps =>
  have:(ps.toList.map fun p=>(p.1,ev p.2))=ps.toList.map fun p=>(p.1,ev' p.2):=List.map_congr_left fun p hp=>by
   rw [h p.2 (by simp;exact ⟨p.1,by simpa using hp⟩)]
  simp only [apure,this]
 case makeFunc fn first captured =>
  cases fn <;> simp only [apure]
  rw [map_congr_ev (xs:=first) (fun x hx=>h x (by simp [hx])),map_congr_ev (xs:=captured) (fun x hx=>h x (by simp [hx]))]
 case slice t x lo hi mx =>
  simp only [apure]
  rw [h x (by simp),opt_congr_ev (x:=lo) (fun y hy=>h y (by simp at hy ⊢;simp [hy])),opt_congr_ev (x:=hi) (fun y hy=>h y (by simp at hy ⊢;simp [hy])),opt_congr_ev (x:=mx) (fun y hy=>h y (by simp at hy ⊢;simp [hy]))]
 all_goals first
  | rfl
  | (simp only [apure];simp [h])

theorem aheap_congr {ev ev':Operand→AV} {H:Hp} {op:Op} (h:∀ x ∈ op.operands,ev x=ev' x):aheap C call ev H op=aheap C call ev' H op:=by
 cases op <;> simp only [Op.operands] at h
 case call c =>
  obtain ⟨callee,args,argTypes⟩:=c
  cases callee with
  | value f =>
   simp only [aheap]
   rw [h f (by simp [Call.operands]),map_congr_ev (xs:=args) (fun x hx=>h x (by simp [Call.operands,hx]))]
  | invoke r m =>
   simp only [aheap]
   rw [h r (by simp [Call.operands]),map_congr_ev (xs:=args) (fun x hx=>h x (by simp [Call.operands,hx]))]
  | builtin b =>
   have ha:∀ x ∈ args,ev x=ev' x:=fun x hx=>h x (by simp [Call.operands,hx])
   cases b <;> try rfl
   all_goals
    simp only [aheap]
    split
    ·rename_i hargs hts
     first
      | (obtain rfl:=two_of_toList hargs;simp [ha])
      | (obtain rfl:=one_of_toList hargs;simp [ha])
    ·rfl
 case makeMap t r=>cases r <;> rfl
 all_goals first
  | rfl
  | (simp only [aheap];simp [h])

theorem aop_congr {ev ev':Operand→AV} {H:Hp} {fl:Bool} {op:Op} (h:∀ x ∈ op.operands,ev x=ev' x):aop C call ev H fl op=aop C call ev' H fl op:=by
 unfold aop
 rw [apure_congr h,aheap_congr h]

theorem eval_congr {tm tm':List AV} {o:Oper} (h:∀ t ∈ o.looksAt ops,tm[t]?=tm'[t]?):∀ x ∈ o.op.operands,eval C tm x=eval C tm' x:=by
 intro x hx
 cases x with
 | tmp t =>
  simp only [eval,List.getD_eq_getElem?_getD]
  rw [h t]
  unfold Oper.looksAt
  rw [List.mem_append]
  left
  rw [List.mem_filterMap]
  exact ⟨.tmp t,by simpa using hx,rfl⟩
 | _=>rfl

theorem awanted_congr {tm tm':List AV} {o:Oper} (h:∀ t ∈ o.looksAt ops,tm[t]?=tm'[t]?):awanted ops tm o=awanted ops tm' o:=by
 unfold awanted
 cases hg:o.guard with
 | none=>rfl
 | some p =>
  obtain ⟨j,want⟩:=p
  simp only
  cases hj:ops[j]? with
  | none=>rfl
  | some g =>
   simp only
   cases hd:g.dst with
   | none=>rfl
   | some d =>
    simp only
    rw [h d]
    unfold Oper.looksAt
    simp [hg,hj,hd]

theorem oVal_congr {tm tm':List AV} {o:Oper} {fl:Bool} {H:Hp} (h:∀ t ∈ o.looksAt ops,tm[t]?=tm'[t]?):oVal C call ops fl o tm H=oVal C call ops fl o tm' H:=by
 unfold oVal
 rw [awanted_congr h,aop_congr (eval_congr h)]

theorem looks_put {tm:List AV} {o:Oper} {dst:Option Tmp} {v:AV} (h:∀ d,dst=some d→d ∉ o.looksAt ops):∀ t ∈ o.looksAt ops,(aput tm dst v)[t]?=tm[t]?:=by
 intro t ht
 cases dst with
 | none=>rfl
 | some d =>
  have:d ≠ t:=fun e=>h d rfl (e ▸ ht)
  simp [aput,List.getElem?_set_ne this]

theorem acallF_quiet {id:FuncId} {args:List AV} {H H':Hp} {v:AV} (hq:quiet C id=true) (h:acallF C call id args H=some (v,H')):H'=H∧∀ H2,acallF C call id args H2=some (v,H2):=by
 unfold acallF at h ⊢
 cases he:C.ext id with
 | some e =>
  simp only [he] at h ⊢
  unfold extC at h ⊢
  cases hx:extA e args with
  | none=>simp [hx] at h
  | some u =>
   simp only [hx,Option.some.injEq,Prod.mk.injEq] at h ⊢
   obtain ⟨rfl,rfl⟩:=h
   simp
 | none =>
  cases hs:C.sum id with
  | some g =>
   simp only [he,hs] at h ⊢
   unfold sumC at h ⊢
   cases hx:g args with
   | none=>simp [hx] at h
   | some u =>
    simp only [hx,Option.some.injEq,Prod.mk.injEq] at h ⊢
    obtain ⟨rfl,rfl⟩:=h
    simp
  | none =>
  unfold quiet at hq
  simp only [he,hs,Option.isSome_none,Bool.false_or,Bool.and_eq_true,Option.isNone_iff_eq_none] at hq
  obtain ⟨⟨hq1,hq2⟩,hq3⟩:=hq
  simp only [he,hs,hq1,hq2,hq3,if_true] at h ⊢
  unfold flatC at h ⊢
  split at h
  ·rename_i args1 hm
   split at h
   ·rename_i v1 H1 hc
    split at h
    ·rename_i v2 hf
     simp only [Option.some.injEq,Prod.mk.injEq] at h
     obtain ⟨rfl,rfl⟩:=h
     exact ⟨rfl,fun H2=>rfl⟩
    ·cases h
   ·cases h
  ·cases h
theorem cvStrH_still {x:AV} {H H':Hp} {v:AV} (h:cvStrH x H=some (v,H')):H'=H:=by
 unfold cvStrH at h
 split at h
 ·split at h
  ·simp only [Option.some.injEq,Prod.mk.injEq] at h
   exact h.2.symm
  ·cases h
 ·cases h
theorem elems_push {k:Nat} {x:AV} {H:Hp} {v:List AV} (h:elems k x H=some v) (l:Hp):elems k x (H++l)=some v:=by
 cases x with
 | rs ag k' o off len cap =>
  unfold elems at h ⊢
  simp only at h ⊢
  split at h
  ·rename_i hc
   rw [if_pos hc]
   split at h
   ·rename_i cs ho
    rw [List.getElem?_append_left (lt_of_get ho),ho]
    exact h
   ·cases h
  ·cases h
 | ws ag k' o e len =>
  unfold elems at h ⊢
  simp only at h ⊢
  split at h
  ·rename_i hc
   rw [if_pos hc]
   split at h
   ·rename_i e' cs ho
    rw [List.getElem?_append_left (lt_of_get ho),ho]
    exact h
   ·cases h
  ·cases h
 | _=>exact h
theorem cvStrH_push {x:AV} {H H':Hp} {v:AV} (h:cvStrH x H=some (v,H')) (l:Hp):cvStrH x (H++l)=some (v,H++l):=by
 unfold cvStrH at h ⊢
 split at h
 ·rename_i xs hel
  have:elemsS x (H++l)=some xs:=by
   unfold elemsS at hel ⊢
   split at hel
   ·cases hel
   ·exact elems_push hel l
  rw [this]
  split at h
  ·rename_i s hs
   simp only [Option.some.injEq,Prod.mk.injEq] at h
   simp only [hs,h.1]
  ·cases h
 ·cases h
theorem aop_blind {ev:Operand→AV} (hev:∀ f,ev (.func f)=.fn (.func f) [] []) {H H':Hp} {fl:Bool} {op:Op} {v:AV} (hb:touch C op=0 ∨ fl=true) (h:aop C call ev H fl op=some (v,H')):H'=H∧∀ H2,aop C call ev H2 fl op=some (v,H2):=by
 unfold aop at h ⊢
 split at h
 ·rename_i v' hp
  simp only [Option.some.injEq,Prod.mk.injEq] at h
  obtain ⟨rfl,rfl⟩:=h
  exact ⟨rfl,fun H2=>rfl⟩
 ·split at h
  ·cases h
  ·rename_i hfl
   have ht:touch C op=0:=by
    rcases hb with hb | hb
    ·exact hb
    ·exact absurd hb hfl
   simp only [hfl]
   cases op with
   | call c =>
    obtain ⟨callee,args,argTypes⟩:=c
    cases callee with
    | value f =>
     cases f with
     | func id =>
      have hq:quiet C id=true:=by
       cases hq:quiet C id with
       | true=>rfl
       | false=>simp [touch,hq] at ht
      simp only [aheap,qcall,acall,hev,List.nil_append,List.append_nil,Bool.false_eq_true,if_false] at h ⊢
      exact acallF_quiet hq h
     | tmp t =>
      have hq:qcall C (.tmp t) args=true:=by
       cases hq:qcall C (.tmp t) args with
       | true=>rfl
       | false=>simp [touch,hq] at ht
      simp only [aheap,hq,if_true] at h ⊢
      unfold acallQ qC at h ⊢
      split at h
      ·rename_i id first captured hf
       split at h
       ·rename_i hqq
        simp only [if_pos hqq,Bool.false_eq_true,if_false]
        exact acallF_quiet hqq h
       ·cases h
      ·cases h
     | _=>simp [touch,qcall] at ht
    | invoke r m=>simp [touch] at ht
    | builtin b=>cases b <;> first | (simp [touch] at ht;done) | (simp [aheap] at h;done)
   | convert s d x=>simp only [touch] at ht;split at ht <;> cases ht
   | _=>first | (simp [touch] at ht;done) | (simp [aheap] at h;done)
theorem aop_still {ev:Operand→AV} (hev:∀ f,ev (.func f)=.fn (.func f) [] []) {H H':Hp} {fl:Bool} {op:Op} {v:AV} (hb:touch C op≤1 ∨ fl=true) (h:aop C call ev H fl op=some (v,H')):H'=H:=by
 by_cases h0:touch C op=0 ∨ fl=true
 ·exact (aop_blind hev h0 h).1
 ·have ht : touch C op = 1 := by
     rcases hb with hb | hb
     ·have:touch C op ≠ 0:=fun e=>h0 (.inl e)
      omega
     ·exact absurd (.inr hb) h0
  unfold aop at h
  split at h
  ·simp only [Option.some.injEq,Prod.mk.injEq] at h
   exact h.2.symm
  ·split at h
   ·cases h
   ·cases op with
    | load t a =>
     simp only [aheap] at h
     split at h
     ·rename_i g sz _ _
      cases hl:aload g sz (ev a) H with
      | none=>simp [hl] at h
      | some r=>simp [hl] at h;exact h.2.symm
     ·cases h
    | lookup t x k ck =>
     simp only [aheap] at h
     split at h
     ·rename_i d e _
      split at h
      ·rename_i z _
       cases hl:alookup d z ck (ev x) (ev k) H with
       | none=>simp [hl] at h
       | some r=>simp [hl] at h;exact h.2.symm
      ·cases h
     ·cases h
    | call c =>
     obtain ⟨callee,args,argTypes⟩:=c
     cases callee with
     | value f=>exfalso;cases f <;> simp only [touch] at ht <;> split at ht <;> omega
     | invoke r m=>simp [touch] at ht
     | builtin b =>
      cases b <;> first | (simp [touch] at ht;done) | skip
      simp only [aheap] at h
      split at h
      ·rename_i x t _ _
       split at h
       ·cases hl:alenM (ev x) H with
        | none=>simp [hl] at h
        | some r=>simp [hl] at h;exact h.2.symm
       ·cases h
      ·cases h
    | convert s d x =>
     have hw:C.wrb d=false:=by
      cases hw:C.wrb d with
      | false=>rfl
      | true=>simp [touch,hw] at ht
     simp only [aheap,hw,Bool.false_and] at h
     split at h
     ·split at h
      ·exact cvStrH_still h
      ·cases h
     ·cases h
     ·cases h
    | _=>first | (simp [touch] at ht;done) | (simp [aheap] at h;done)

theorem acallF_ro {id:FuncId} {args:List AV} {H H':Hp} {v:AV} (h1:C.ro id=true) (h2:C.flat id=false) (h3:C.ext id=none) (h4:C.sum id=none) (h5:C.eff id=none) (h:acallF C call id args H=some (v,H')):H'=H:=by
 unfold acallF at h
 simp only [h1,h2,h3,h4,h5,Bool.false_eq_true,if_false,if_true] at h
 split at h
 ·unfold roC at h
  split at h
  ·split at h
   ·split at h
    ·simp only [Option.some.injEq,Prod.mk.injEq] at h
     exact h.2.symm
    ·cases h
   ·cases h
  ·cases h
 ·cases h
theorem aop_ro {ev:Operand→AV} (hev:∀ f,ev (.func f)=.fn (.func f) [] []) {H H':Hp} {fl:Bool} {op:Op} {v:AV} (hb:roOp C op=true) (h:aop C call ev H fl op=some (v,H')):H'=H:=by
 unfold aop at h
 split at h
 ·simp only [Option.some.injEq,Prod.mk.injEq] at h
  exact h.2.symm
 ·split at h
  ·cases h
  ·unfold roOp at hb
   split at hb
   ·simp only [Bool.and_eq_true,Bool.not_eq_true',Option.isNone_iff_eq_none] at hb
    obtain ⟨⟨⟨⟨b1,b2⟩,b3⟩,b4⟩,b5⟩:=hb
    simp only [aheap,qcall,acall,hev,List.nil_append,List.append_nil,Bool.false_eq_true,if_false] at h
    exact acallF_ro b1 b2 b3 b4 b5 h
   ·cases hb
theorem acallF_gro {id:FuncId} {args:List AV} {H H':Hp} {v:AV} (h0:C.gro id=true) (h1:C.ro id=false) (h2:C.flat id=false) (h3:C.ext id=none) (h4:C.sum id=none) (h5:C.eff id=none) (h:acallF C call id args H=some (v,H')):∃ l,H'=H++l:=by
 unfold acallF at h
 simp only [h0,h1,h2,h3,h4,h5,Bool.false_eq_true,if_false,if_true] at h
 split at h
 ·unfold groC at h
  split at h
  ·rename_i v1 H1 hc
   split at h
   ·rename_i ht
    have ht:=eqbH_eq _ _ ht
    simp only [Option.some.injEq,Prod.mk.injEq] at h
    obtain ⟨rfl,rfl⟩:=h
    exact ⟨H1.drop H.length,by conv=>{ lhs;rw [← List.take_append_drop H.length H1] };rw [ht]⟩
   ·cases h
  ·cases h
 ·cases h
theorem aop_gro {ev:Operand→AV} (hev:∀ f,ev (.func f)=.fn (.func f) [] []) {H H':Hp} {fl:Bool} {op:Op} {v:AV} (hb:groOp C op=true) (h:aop C call ev H fl op=some (v,H')):∃ l,H'=H++l:=by
 unfold aop at h
 split at h
 ·simp only [Option.some.injEq,Prod.mk.injEq] at h
  exact ⟨[],by rw [← h.2];simp⟩
 ·split at h
  ·cases h
  ·unfold groOp at hb
   split at hb
   ·simp only [Bool.and_eq_true,Bool.not_eq_true',Option.isNone_iff_eq_none] at hb
    obtain ⟨⟨⟨⟨⟨b0,b1⟩,b2⟩,b3⟩,b4⟩,b5⟩:=hb
    simp only [aheap,qcall,acall,hev,List.nil_append,List.append_nil,Bool.false_eq_true,if_false] at h
    exact acallF_gro b0 b1 b2 b3 b4 b5 h
   ·cases hb
theorem still_fresh {op:Op} (h:fresh op=true):roOp C op=false:=by
 cases op <;> first | rfl | (simp [fresh] at h;done)
theorem oVal_blind {o:Oper} {fl:Bool} {tm:List AV} {H H':Hp} {v:AV} (hb:touch C o.op=0 ∨ fl=true) (h:oVal C call ops fl o tm H=some (v,H')):H'=H∧∀ H2,oVal C call ops fl o tm H2=some (v,H2):=by
 unfold oVal at h ⊢
 split at h
 ·cases h
 ·rename_i hw
  simp only [Option.some.injEq,Prod.mk.injEq] at h
  obtain ⟨rfl,rfl⟩:=h
  exact ⟨rfl,fun H2=>rfl⟩
 ·rename_i hw
  obtain ⟨h1,h2⟩:=aop_blind (fun _=>rfl) hb h
  exact ⟨h1,fun H2=>h2 H2⟩
theorem oVal_still {o:Oper} {fl:Bool} {tm:List AV} {H H':Hp} {v:AV} (hb:touch C o.op≤1 ∨ fl=true) (h:oVal C call ops fl o tm H=some (v,H')):H'=H:=by
 unfold oVal at h
 split at h
 ·cases h
 ·simp only [Option.some.injEq,Prod.mk.injEq] at h
  exact h.2.symm
 ·exact aop_still (fun _=>rfl) hb h

theorem oVal_ro {o:Oper} {fl:Bool} {tm:List AV} {H H':Hp} {v:AV} (hb:roOp C o.op=true) (h:oVal C call ops fl o tm H=some (v,H')):H'=H:=by
 unfold oVal at h
 split at h
 ·cases h
 ·simp only [Option.some.injEq,Prod.mk.injEq] at h
  exact h.2.symm
 ·exact aop_ro (fun _=>rfl) hb h
theorem oVal_still2 {o:Oper} {fl:Bool} {tm:List AV} {H H':Hp} {v:AV} (hb:still C o.op=true) (h:oVal C call ops fl o tm H=some (v,H')):H'=H:=by
 unfold still at hb
 rw [Bool.or_eq_true,decide_eq_true_eq] at hb
 rcases hb with hb | hb
 ·exact oVal_still (.inl hb) h
 ·exact oVal_ro hb h
theorem aput_comm {tm:List AV} {x y:Option Tmp} {v u:AV} (h:∀ d,x=some d→y ≠ some d):aput (aput tm x v) y u=aput (aput tm y u) x v:=by
 cases x with
 | none=>rfl
 | some d =>
  cases y with
  | none=>rfl
  | some e =>
   have hne:d ≠ e:=fun he=>h d rfl (he ▸ rfl)
   simp only [aput]
   exact List.set_comm _ _ hne

theorem aload_push {g:Bool} {sz:Nat} {a:AV} {H:Hp} {v:AV} (h:aload g sz a H=some v) (l:Hp):aload g sz a (H++l)=some v:=by
 cases a with
 | ptr o off =>
  unfold aload at h ⊢
  simp only at h ⊢
  split at h
  ·rename_i c hc
   rw [List.getElem?_append_left (lt_of_get hc),hc]
   exact h
  ·cases h
 | wp o e off =>
  unfold aload at h ⊢
  simp only at h ⊢
  split at h
  ·rename_i e' c hc
   rw [List.getElem?_append_left (lt_of_get hc),hc]
   exact h
  ·cases h
 | _=>exact h
theorem entries_push {x:AV} {H:Hp} {v:List (AV × AV × Nat)} (h:entries x H=some v) (l:Hp):entries x (H++l)=some v:=by
 cases x with
 | map o =>
  unfold entries at h ⊢
  simp only at h ⊢
  split at h
  ·rename_i c k hc
   rw [List.getElem?_append_left (lt_of_get hc),hc]
   exact h
  ·cases h
 | _=>exact h
theorem alookup_push {d:TypeDesc} {z:AV} {ck:Bool} {x k:AV} {H:Hp} {v:AV} (h:alookup d z ck x k H=some v) (l:Hp):alookup d z ck x k (H++l)=some v:=by
 unfold alookup at h ⊢
 cases he:entries x H with
 | none=>simp [he] at h
 | some es=>rw [entries_push he l];rw [he] at h;exact h
theorem alenM_push {x:AV} {H:Hp} {v:AV} (h:alenM x H=some v) (l:Hp):alenM x (H++l)=some v:=by
 unfold alenM at h ⊢
 cases he:entries x H with
 | none=>simp [he] at h
 | some es=>rw [entries_push he l];rw [he] at h;exact h
theorem aop_push {ev:Operand→AV} (hev:∀ f,ev (.func f)=.fn (.func f) [] []) {H H':Hp} {fl:Bool} {op:Op} {v:AV} (hb:touch C op≤1) (h:aop C call ev H fl op=some (v,H')) (l:Hp):aop C call ev (H++l) fl op=some (v,H++l):=by
 by_cases h0:touch C op=0 ∨ fl=true
 ·exact (aop_blind hev h0 h).2 _
 ·have ht : touch C op = 1 := by
     have:touch C op ≠ 0:=fun e=>h0 (.inl e)
     omega
  have hfl:¬ fl=true:=fun e=>h0 (.inr e)
  unfold aop at h ⊢
  split at h
  ·rename_i v' hp
   simp only [Option.some.injEq,Prod.mk.injEq] at h
   obtain ⟨rfl,rfl⟩:=h
   rfl
  ·rw [if_neg hfl] at h ⊢
   cases op with
   | load t a =>
    simp only [aheap] at h ⊢
    split at h
    ·rename_i g sz _ _
     cases hl:aload g sz (ev a) H with
     | none=>simp [hl] at h
     | some r =>
      simp [hl] at h
      obtain ⟨rfl,rfl⟩:=h
      simp [aload_push hl l]
    ·cases h
   | lookup t x k ck =>
    simp only [aheap] at h ⊢
    split at h
    ·rename_i d e _
     split at h
     ·rename_i z _
      cases hl:alookup d z ck (ev x) (ev k) H with
      | none=>simp [hl] at h
      | some r =>
       simp [hl] at h
       obtain ⟨rfl,rfl⟩:=h
       simp [alookup_push hl l]
     ·cases h
    ·cases h
   | call c =>
    obtain ⟨callee,args,argTypes⟩:=c
    cases callee with
    | value f=>exfalso;cases f <;> simp only [touch] at ht <;> split at ht <;> omega
    | invoke r m=>simp [touch] at ht
    | builtin b =>
     cases b <;> first | (simp [touch] at ht;done) | skip
     simp only [aheap] at h ⊢
     split at h
     ·rename_i x t _ _
      split at h
      ·cases hl:alenM (ev x) H with
       | none=>simp [hl] at h
       | some r =>
        simp [hl] at h
        obtain ⟨rfl,rfl⟩:=h
        simp [alenM_push hl l]
      ·cases h
     ·cases h
   | convert s d x =>
    have hw:C.wrb d=false:=by
     cases hw:C.wrb d with
     | false=>rfl
     | true=>simp [touch,hw] at ht
    simp only [aheap,hw,Bool.false_and] at h ⊢
    split at h
    ·split at h
     ·rename_i h8
      simp only [h8,if_true]
      exact cvStrH_push h l
     ·cases h
    ·cases h
    ·cases h
   | _=>first | (simp [touch] at ht;done) | (simp [aheap] at h;done)
theorem oVal_push {o:Oper} {fl:Bool} {tm:List AV} {H H':Hp} {v:AV} (hb:touch C o.op≤1) (h:oVal C call ops fl o tm H=some (v,H')) (l:Hp):oVal C call ops fl o tm (H++l)=some (v,H++l):=by
 unfold oVal at h ⊢
 split at h
 ·cases h
 ·simp only [Option.some.injEq,Prod.mk.injEq] at h
  obtain ⟨rfl,rfl⟩:=h
  rfl
 ·exact aop_push (fun _=>rfl) hb h l
theorem oVal_fresh {o:Oper} {fl:Bool} {tm:List AV} {H H':Hp} {v:AV} (hb:fresh o.op=true) (h:oVal C call ops fl o tm H=some (v,H')):∃ l,H'=H++l:=by
 unfold oVal at h
 split at h
 ·cases h
 ·simp only [Option.some.injEq,Prod.mk.injEq] at h
  exact ⟨[],by rw [← h.2];simp⟩
 ·unfold aop at h
  split at h
  ·simp only [Option.some.injEq,Prod.mk.injEq] at h
   exact ⟨[],by rw [← h.2];simp⟩
  ·split at h
   ·cases h
   ·generalize o.op=op at hb h
    cases op with
    | alloc e =>
     simp only [aheap] at h
     split at h
     ·split at h
      ·split at h
       ·simp only [Option.some.injEq,Prod.mk.injEq] at h
        exact ⟨_,h.2.symm⟩
       ·cases h
      ·split at h
       ·simp only [Option.some.injEq,Prod.mk.injEq] at h
        exact ⟨_,h.2.symm⟩
       ·cases h
     ·cases h
    | box e x =>
     simp only [aheap] at h
     unfold abox at h
     split at h
     ·simp only [Option.some.injEq,Prod.mk.injEq] at h
      exact ⟨_,h.2.symm⟩
     ·cases h
    | makeMap t r =>
     cases r with
     | none =>
      simp only [aheap,Option.some.injEq,Prod.mk.injEq] at h
      exact ⟨_,h.2.symm⟩
     | some r=>simp [fresh] at hb
    | _=>simp [fresh] at hb
theorem oVal_grows {o:Oper} {fl:Bool} {tm:List AV} {H H':Hp} {v:AV} (hb:grows C o.op=true) (h:oVal C call ops fl o tm H=some (v,H')):∃ l,H'=H++l:=by
 unfold grows at hb
 rw [Bool.or_eq_true] at hb
 rcases hb with hb | hb
 ·exact oVal_fresh hb h
 ·unfold oVal at h
  split at h
  ·cases h
  ·simp only [Option.some.injEq,Prod.mk.injEq] at h
   exact ⟨[],by rw [← h.2];simp⟩
  ·exact aop_gro (fun _=>rfl) hb h
def compat (C:Cfg) (fi fj:Bool) (x y:Op):Prop:=(touch C x=0 ∨ fi=true) ∨ (touch C y=0 ∨ fj=true) ∨ (still C x=true∧still C y=true) ∨ (touch C x≤1∧grows C y=true) ∨ twoSt C x y=true ∨ farB C x y=true
def isK (k:Nat) (x:AObj):Bool :=
 match k,x with
 | 1,.row _ _=>true
 | 2,.cells _=>true
 | _,_=>false
theorem astoreU_k {k sz : Nat} {a v r : AV} {H H' : Hp} (hk : k = 1 ∨ k = 2) (hs : stV k a = true) (h : astoreU sz a v H = some (r, H')) :
    ∃ (o:Nat) (x y:AObj),H[o]?=some x∧isK k x=true∧isK k y=true∧H'=H.set o y∧∀ H2:Hp,H2[o]?=some x→astoreU sz a v H2=some (r,H2.set o y):=by
 unfold astoreU at h
 split at h
 ·rename_i H1 h1
  simp only [Option.some.injEq,Prod.mk.injEq] at h
  obtain ⟨rfl,rfl⟩:=h
  unfold astore at h1
  split at h1
  ·rename_i o off
   have hk2:k=2:=by
    rcases hk with rfl | rfl
    ·cases hs
    ·rfl
   subst hk2
   split at h1
   ·rename_i l hl
    split at h1
    ·rename_i hc
     injection h1 with h1
     subst h1
     exact ⟨o,_,_,hl,rfl,rfl,rfl,fun H2 h2=>by unfold astoreU astore;simp only [h2];rw [if_pos hc]⟩
    ·cases h1
   ·cases h1
  ·rename_i o e off
   have hk1:k=1:=by
    rcases hk with rfl | rfl
    ·rfl
    ·cases hs
   subst hk1
   split at h1
   ·rename_i e' l hl
    split at h1
    ·rename_i hc
     injection h1 with h1
     subst h1
     exact ⟨o,_,_,hl,rfl,rfl,rfl,fun H2 h2=>by unfold astoreU astore;simp only [h2];rw [if_pos hc]⟩
    ·cases h1
   ·cases h1
  ·cases h1
 ·cases h
theorem oVal_k {o : Oper} {fl : Bool} {tm : List AV} {H H' : Hp} {v : AV} {k : Nat} (hk : k = 1 ∨ k = 2) (hs : stC C o.op = k) (h : oVal C call ops fl o tm H = some (v, H')) :
    (H'=H∧∀ H2,oVal C call ops fl o tm H2=some (v,H2)) ∨
    ∃ (q:Nat) (x y:AObj),H[q]?=some x∧isK k x=true∧isK k y=true∧H'=H.set q y∧∀ H2:Hp,H2[q]?=some x→oVal C call ops fl o tm H2=some (v,H2.set q y):=by
 unfold oVal at h ⊢
 split at h
 ·cases h
 ·rename_i hw
  simp only [Option.some.injEq,Prod.mk.injEq] at h
  obtain ⟨rfl,rfl⟩:=h
  exact .inl ⟨rfl,fun H2=>rfl⟩
 ·rename_i hw
  obtain ⟨t,a,x,hop⟩:∃ t a x,o.op=.store t a x:=by
   generalize o.op=op at hs
   cases op with
   | store t a x=>exact ⟨t,a,x,rfl⟩
   | _=>(have:k=0:=hs.symm);omega
  rw [hop] at hs h ⊢
  unfold aop at h ⊢
  have hp:apure C (eval C tm) (.store t a x)=none:=rfl
  rw [hp] at h ⊢
  dsimp only at h ⊢
  split at h
  ·cases h
  ·rename_i hfl
   simp only [aheap] at h ⊢
   split at h
   ·split at h
    ·rename_i hv
     rw [hs] at hv
     obtain ⟨q,x1,y1,h1,h2,h3,h4,h5⟩:=astoreU_k hk hv h
     rw [hs]
     refine .inr ⟨q,x1,y1,h1,h2,h3,h4,fun H2 h6=>?_⟩
     rw [if_neg hfl,if_pos hv]
     exact h5 H2 h6
    ·cases h
   ·cases h
theorem stC_fresh {x:Op} (h:fresh x=true):stC C x=0:=by
 cases x <;> first | rfl | (simp [fresh] at h;done)
theorem oVal_two {oi oj : Oper} {fi fj : Bool} {tm tm' : List AV} {H H1 H2 : Hp} {v u : AV} (h : twoSt C oi.op oj.op = true) (h1 : oVal C call ops fi oi tm H = some (v, H1)) (h2 : oVal C call ops fj oj tm' H1 = some (u, H2)) :
    ∃ Hj,oVal C call ops fj oj tm' H=some (u,Hj)∧oVal C call ops fi oi tm Hj=some (v,H2):=by
 have key:∀ k k',(k=1∧k'=2) ∨ (k=2∧k'=1)→stC C oi.op=k→stC C oj.op=k'→∃ Hj,oVal C call ops fj oj tm' H=some (u,Hj)∧oVal C call ops fi oi tm Hj=some (v,H2):=by
  intro k k' hkk hi hj
  have hk:k=1 ∨ k=2:=by omega
  have hk':k'=1 ∨ k'=2:=by omega
  rcases oVal_k hk hi h1 with ⟨rfl,ha⟩ | ⟨q,x,y,g1,g2,g3,rfl,g5⟩
  ·exact ⟨H2,h2,ha _⟩
  ·rcases oVal_k hk' hj h2 with ⟨rfl,hb⟩ | ⟨p,x',y',f1,f2,f3,rfl,f5⟩
   ·exact ⟨H,hb _,h1⟩
   ·have hne : q ≠ p := by
       rintro rfl
       have hlt:q < H.length:=lt_of_get g1
       rw [List.getElem?_set_self hlt] at f1
       injection f1 with f1
       subst f1
       rcases hkk with ⟨rfl,rfl⟩ | ⟨rfl,rfl⟩ <;> cases y <;> simp [isK] at g3 f2
    rw [List.getElem?_set_ne hne] at f1
    refine ⟨H.set p y',f5 H f1,?_⟩
    rw [g5 (H.set p y') (by rw [List.getElem?_set_ne hne.symm];exact g1),List.set_comm _ _ hne]
 unfold twoSt at h
 simp only [Bool.or_eq_true,Bool.and_eq_true,decide_eq_true_eq] at h
 rcases h with ⟨a,b⟩ | ⟨a,b⟩
 ·exact key 1 2 (by omega) a b
 ·exact key 2 1 (by omega) a b


def rVal (C:Cfg) (call:CallF) (ops:Array Oper) (draw:Bool) (b i:Nat) (o:Oper) (tm:List AV) (H:Hp):Option (AV × Hp) :=
 if draw && lag C ops i then (if floats C ops i then none else alag (b+lags C ops i) (lagV C (eval C tm) o.op) H) else oVal C call ops (draw && floats C ops i) o tm H
theorem rStep_val {draw:Bool} {b i:Nat} {o:Oper} {s:St}:rStep C call ops draw b i o s=match rVal C call ops draw b i o s.1 s.2 with | some (v,H)=>some (aput s.1 o.dst v,H) | none=>none:=by
 unfold rStep rVal
 by_cases h:(draw && lag C ops i)=true
 ·rw [if_pos h,if_pos h]
  by_cases hf:floats C ops i=true
  ·rw [if_pos hf,if_pos hf]
  ·rw [if_neg hf,if_neg hf]
   rfl
 ·rw [if_neg h,if_neg h]
  rfl
theorem lagV_congr {ev ev':Operand→AV} {op:Op} (h:∀ x ∈ op.operands,ev x=ev' x):lagV C ev op=lagV C ev' op:=by
 cases op <;> try rfl
 case makeMap t r=>cases r <;> rfl
 case box t x=>simp only [lagV];rw [h x (by simp [Op.operands])]
theorem rVal_congr {draw:Bool} {b i:Nat} {tm tm':List AV} {o:Oper} {H:Hp} (h:∀ t ∈ o.looksAt ops,tm[t]?=tm'[t]?):rVal C call ops draw b i o tm H=rVal C call ops draw b i o tm' H:=by
 unfold rVal
 rw [oVal_congr h,lagV_congr (eval_congr h)]
theorem alag_fr (p:Nat) (cs:Option AObj):Frm (alag p cs):=by
 cases cs with
 | none=>exact fr_none
 | some l =>
  intro H v H' h
  unfold alag at h
  simp only at h
  split at h
  ·rename_i hp
   split at h
   ·rename_i hT
    simp only [Option.some.injEq,Prod.mk.injEq] at h
    obtain ⟨rfl,rfl⟩:=h
    refine ⟨by simp,fun o ho hf=>?_⟩
    obtain ⟨h1,h2⟩:=free_of_set hf (fun e=>by rw [e] at hT;cases hT)
    refine ⟨h2,fun x=>?_⟩
    unfold alag
    simp only
    rw [List.getElem?_set_ne h1,hp]
    simp only
    rw [if_pos hT,List.set_comm _ _ h1]
   ·cases h
  ·cases h
theorem rVal_fr (hc:Framed call) (draw:Bool) (b i:Nat) (o:Oper) (tm:List AV):Frm (rVal C call ops draw b i o tm):=by
 unfold rVal
 exact fr_ite _ (fun _=>fr_ite _ (fun _=>fr_none) fun _=>alag_fr _ _) fun _=>oVal_fr hc _ _ _ _
theorem lags_lt {j n:Nat} (h:lag C ops j=true) (hj:j < n):lags C ops j < lags C ops n:=by
 unfold lags
 have h1:(List.range (j+1)).countP (lag C ops)=(List.range j).countP (lag C ops)+1:=by
  rw [List.range_succ,List.countP_append]
  simp [h]
 have h2:(List.range (j+1)).countP (lag C ops)≤(List.range n).countP (lag C ops):=List.Sublist.countP_le (List.range_sublist.2 (by omega))
 omega
theorem lag_fresh {i:Nat} {o:Oper} (h:ops[i]?=some o) (hl:lag C ops i=true):fresh o.op=true∧o.guard=none:=by
 unfold lag at hl
 simp only [h,Bool.and_eq_true] at hl
 exact ⟨hl.1.1,by simpa using hl.1.2⟩
theorem touch_fresh {op:Op} (h:fresh op=true):touch C op=2:=by
 cases op <;> first | rfl | (simp [fresh] at h;done)
theorem rStep_len (hc:Framed call) {draw:Bool} {b i:Nat} {o:Oper} {s s':St} (h:rStep C call ops draw b i o s=some s'):s.2.length≤s'.2.length:=by
 rw [rStep_val] at h
 cases hv:rVal C call ops draw b i o s.1 s.2 with
 | none=>simp [hv] at h
 | some p =>
  obtain ⟨v,H⟩:=p
  simp only [hv,Option.some.injEq] at h
  subst h
  exact (rVal_fr hc draw b i o s.1 s.2 v H hv).1

def FarAt (C:Cfg) (ops:Array Oper) (tm:List AV):Prop:=∀ (i j:Nat) (x y:Oper) (p:Nat × Nat),ops[i]?=some x→ops[j]?=some y→farP C x.op y.op=some p→twoO (eval C tm (.tmp p.1)) (eval C tm (.tmp p.2))=true
def FarK (C:Cfg) (ops:Array Oper):Prop:=∀ (i j:Nat) (x y:Oper) (p:Nat × Nat),ops[i]?=some x→ops[j]?=some y→farP C x.op y.op=some p→keptSlot ops p.1=true∧keptSlot ops p.2=true
theorem farAll_at {tm:List AV} (h:farAll C ops (eval C tm)=true):FarAt C ops tm∧FarK C ops:=by
 have key:∀ (i j:Nat) (x y:Oper) (p:Nat × Nat),ops[i]?=some x→ops[j]?=some y→farP C x.op y.op=some p→p ∈ farL C ops:=by
  intro i j x y p hi hj hp
  unfold farL
  cases hf:C.far with
  | none=>unfold farP at hp;rw [hf] at hp;cases hp
  | some f =>
   dsimp only
   rw [List.mem_flatMap]
   refine ⟨x,by rw [Array.mem_toList_iff];exact Array.mem_of_getElem? hi,?_⟩
   rw [List.mem_filterMap]
   exact ⟨y,by rw [Array.mem_toList_iff];exact Array.mem_of_getElem? hj,hp⟩
 unfold farAll farKept farEv at h
 rw [Bool.and_eq_true,List.all_eq_true,List.all_eq_true] at h
 refine ⟨fun i j x y p hi hj hp=>h.2 p (key i j x y p hi hj hp),fun i j x y p hi hj hp=>?_⟩
 have:=h.1 p (key i j x y p hi hj hp)
 rwa [Bool.and_eq_true] at this
theorem kept_put {a k:Nat} {o:Oper} {tm:List AV} {v:AV} (h:keptSlot ops a=true) (ho:ops[k]?=some o):eval C (aput tm o.dst v) (.tmp a)=eval C tm (.tmp a):=by
 unfold keptSlot at h
 rw [List.all_eq_true] at h
 have:=h o (by rw [Array.mem_toList_iff];exact Array.mem_of_getElem? ho)
 cases hd:o.dst with
 | none=>rfl
 | some d =>
  rw [hd] at this
  simp only [Bool.not_eq_true'] at this
  have hne:=Nat.ne_of_beq_eq_false this
  show (tm.set d v).getD a (.tuple [])=tm.getD a (.tuple [])
  rw [List.getD_eq_getElem?_getD,List.getD_eq_getElem?_getD,List.getElem?_set_ne hne]
theorem FarAt.put {tm:List AV} (h:FarAt C ops tm) (hK:FarK C ops) {k:Nat} {o:Oper} {v:AV} (ho:ops[k]?=some o):FarAt C ops (aput tm o.dst v):=by
 intro i j x y p hi hj hp
 obtain ⟨k1,k2⟩:=hK i j x y p hi hj hp
 rw [kept_put k1 ho,kept_put k2 ho]
 exact h i j x y p hi hj hp
theorem oVal_ld {o : Oper} {fl : Bool} {tm : List AV} {H H' : Hp} {v : AV} {t a q off : Nat} (hop : o.op = .load t (.tmp a)) (ha : eval C tm (.tmp a) = .ptr q off) (h : oVal C call ops fl o tm H = some (v, H')) :
    H'=H∧∀ H2:Hp,H2[q]?=H[q]?→oVal C call ops fl o tm H2=some (v,H2):=by
 unfold oVal at h ⊢
 split at h
 ·cases h
 ·rename_i hw
  simp only [Option.some.injEq,Prod.mk.injEq] at h
  obtain ⟨rfl,rfl⟩:=h
  exact ⟨rfl,fun H2 _=>rfl⟩
 ·rename_i hw
  rw [hop] at h ⊢
  unfold aop at h ⊢
  have hp:apure C (eval C tm) (.load t (.tmp a))=none:=by
   simp only [apure,ha,aloadv]
   split <;> rfl
  rw [hp] at h ⊢
  dsimp only at h ⊢
  split at h
  ·cases h
  ·rename_i hfl
   simp only [aheap,ha] at h ⊢
   split at h
   ·rename_i g sz hg hz
    cases hl:aload g sz (.ptr q off) H with
    | none=>rw [hl] at h;cases h
    | some r =>
     rw [hl] at h
     simp only [Option.map_some,Option.some.injEq,Prod.mk.injEq] at h
     obtain ⟨rfl,rfl⟩:=h
     refine ⟨rfl,fun H2 h2=>?_⟩
     rw [if_neg hfl]
     have:aload g sz (.ptr q off) H2=aload g sz (.ptr q off) H:=by unfold aload;simp only [h2]
     rw [this,hl]
     rfl
   ·cases h
theorem oVal_st {o : Oper} {fl : Bool} {tm : List AV} {H H' : Hp} {v : AV} {t a q off : Nat} {w : Operand} (hop : o.op = .store t (.tmp a) w) (ha : eval C tm (.tmp a) = .ptr q off) (h : oVal C call ops fl o tm H = some (v, H')) :
    (H'=H∧∀ H2,oVal C call ops fl o tm H2=some (v,H2)) ∨ ∃ x y:AObj,H[q]?=some x∧H'=H.set q y∧∀ H2:Hp,H2[q]?=some x→oVal C call ops fl o tm H2=some (v,H2.set q y):=by
 unfold oVal at h ⊢
 split at h
 ·cases h
 ·rename_i hw
  simp only [Option.some.injEq,Prod.mk.injEq] at h
  obtain ⟨rfl,rfl⟩:=h
  exact .inl ⟨rfl,fun H2=>rfl⟩
 ·rename_i hw
  rw [hop] at h ⊢
  unfold aop at h ⊢
  have hp:apure C (eval C tm) (.store t (.tmp a) w)=none:=rfl
  rw [hp] at h ⊢
  dsimp only at h ⊢
  split at h
  ·cases h
  ·rename_i hfl
   simp only [aheap,ha] at h ⊢
   split at h
   ·split at h
    ·rename_i hv
     unfold astoreU astore at h
     dsimp only at h
     cases hq:H[q]? with
     | none=>rw [hq] at h;cases h
     | some x =>
      cases x with
      | cells l =>
       rw [hq] at h
       dsimp only at h
       split at h
       ·rename_i H1 h1
        split at h1
        ·rename_i hc
         injection h1 with h1
         subst h1
         simp only [Option.some.injEq,Prod.mk.injEq] at h
         obtain ⟨rfl,rfl⟩:=h
         refine .inr ⟨_,_,rfl,rfl,fun H2 h2=>?_⟩
         rw [if_neg hfl,if_pos hv]
         unfold astoreU astore
         simp only [h2]
         rw [if_pos hc]
        ·cases h1
       ·cases h
      | _=>rw [hq] at h;cases h
    ·cases h
   ·cases h
theorem farP_some {x y:Op} {p:Nat × Nat} (h:farP C x y=some p):∃ t u w,x=.load t (.tmp p.1)∧y=.store u (.tmp p.2) w:=by
 unfold farP at h
 split at h
 ·cases h
 ·split at h
  ·split at h
   ·injection h with h
    subst h
    exact ⟨_,_,_,rfl,rfl⟩
   ·cases h
  ·cases h
theorem oVal_far {i j : Nat} {oi oj : Oper} {fi fj : Bool} {tm : List AV} {H H1 H2 : Hp} {v u : AV} (hF : FarAt C ops tm) (hi : ops[i]? = some oi) (hj : ops[j]? = some oj) (h : farB C oi.op oj.op = true)
    (h1:oVal C call ops fi oi tm H=some (v,H1)) (h2:oVal C call ops fj oj tm H1=some (u,H2)) :
    ∃ Hj,oVal C call ops fj oj tm H=some (u,Hj)∧oVal C call ops fi oi tm Hj=some (v,H2):=by
 have hp:∀ {x y:AV},twoO x y=true→∃ q o q' o',x=.ptr q o∧y=.ptr q' o'∧q ≠ q':=by
  intro x y h
  unfold twoO at h
  split at h
  ·simp only [Bool.not_eq_true'] at h
   exact ⟨_,_,_,_,rfl,rfl,Nat.ne_of_beq_eq_false h⟩
  ·cases h
 unfold farB at h
 rw [Bool.or_eq_true] at h
 rcases h with h | h
 ·obtain ⟨p,hq⟩:=Option.isSome_iff_exists.1 h
  obtain ⟨t,w,z,e1,e2⟩:=farP_some hq
  obtain ⟨q,o,q',o',g1,g2,hne⟩:=hp (hF i j oi oj p hi hj hq)
  obtain ⟨rfl,k1⟩:=oVal_ld e1 g1 h1
  rcases oVal_st e2 g2 h2 with ⟨rfl,k2⟩ | ⟨x,y,k2,rfl,k3⟩
  ·exact ⟨_,h2,h1⟩
  ·exact ⟨_,h2,k1 _ (List.getElem?_set_ne hne.symm)⟩
 ·obtain ⟨p,hq⟩:=Option.isSome_iff_exists.1 h
  obtain ⟨t,w,z,e1,e2⟩:=farP_some hq
  obtain ⟨q,o,q',o',g1,g2,hne⟩:=hp (hF j i oj oi p hj hi hq)
  obtain ⟨rfl,k1⟩:=oVal_ld e1 g1 h2
  rcases oVal_st e2 g2 h1 with ⟨rfl,k2⟩ | ⟨x,y,k2,rfl,k3⟩
  ·exact ⟨_,h2,h1⟩
  ·exact ⟨_,k1 _ (List.getElem?_set_ne hne.symm).symm,h1⟩
theorem rStep_comm (hfr : Framed call) {b i j : Nat} {oi oj : Oper} {s s1 s12 : St} (hF : FarAt C ops s.1) (hi : ops[i]? = some oi) (hj : ops[j]? = some oj) (hlen : b + lags C ops ops.size ≤ s.2.length) (hap : oi.apart ops oj = true)
    (hc:lag C ops j=true ∨ (lag C ops j=false∧compat C (floats C ops i) (floats C ops j) oi.op oj.op)) (h1:rStep C call ops true b i oi s=some s1) (h2:rStep C call ops true b j oj s1=some s12) :
    ∃ s2,rStep C call ops true b j oj s=some s2∧rStep C call ops true b i oi s2=some s12:=by
 obtain ⟨a1,a2,a3⟩:=Oper.apart_spec hap
 obtain ⟨tm,H⟩:=s
 rw [rStep_val] at h1 h2
 simp only at h1 hlen
 cases hv1:rVal C call ops true b i oi tm H with
 | none=>simp [hv1] at h1
 | some p =>
  obtain ⟨v,H1⟩:=p
  simp only [hv1,Option.some.injEq] at h1
  subst h1
  simp only at h2
  rw [rVal_congr (looks_put a1)] at h2
  cases hv2:rVal C call ops true b j oj tm H1 with
  | none=>simp [hv2] at h2
  | some q =>
   obtain ⟨u,H2⟩:=q
   simp only [hv2,Option.some.injEq] at h2
   subst h2
   have key:∃ Hj,rVal C call ops true b j oj tm H=some (u,Hj)∧rVal C call ops true b i oi tm Hj=some (v,H2):=by
    rcases hc with hl | ⟨hl,hc⟩
    ·have hjl:j < ops.size:=(Array.getElem?_eq_some_iff.1 hj).1
     have hlt:=lags_lt hl hjl
     unfold rVal at hv2
     simp only [hl,Bool.and_self,if_true] at hv2
     split at hv2
     ·cases hv2
     ·rename_i hfj
      unfold alag at hv2
      split at hv2
      ·rename_i cs hcs
       split at hv2
       ·rename_i hp
        split at hv2
        ·rename_i hT
         simp only [Option.some.injEq,Prod.mk.injEq] at hv2
         obtain ⟨rfl,rfl⟩:=hv2
         obtain ⟨_,hf⟩:=rVal_fr hfr true b i oi tm H v H1 hv1
         obtain ⟨g1,g2⟩:=hf _ (by omega) hp
         refine ⟨H.set (b+lags C ops j) cs,?_,g2 _⟩
         unfold rVal
         simp only [hl,Bool.and_self,if_true]
         rw [if_neg hfj]
         unfold alag
         rw [hcs]
         simp only
         rw [g1]
         simp only [hT,if_true]
        ·cases hv2
       ·cases hv2
      ·cases hv2
    ·have e2:∀ H,rVal C call ops true b j oj tm H=oVal C call ops (floats C ops j) oj tm H:=fun H=>by unfold rVal;simp [hl]
     rw [e2] at hv2
     simp only [e2]
     cases hli:lag C ops i with
     | true =>
      have hi2:=touch_fresh (C:=C) (lag_fresh hi hli).1
      rcases hc with hc | hc | ⟨hc1,hc2⟩ | ⟨hc1,hc2⟩ | hc | hc
      rotate_right
      ·exfalso
       unfold farB at hc
       rw [Bool.or_eq_true] at hc
       have hfi:=(lag_fresh hi hli).1
       rcases hc with hc | hc <;> obtain ⟨p,hq⟩:=Option.isSome_iff_exists.1 hc <;> obtain ⟨t,w,z,e1,e2⟩:=farP_some hq
       ·rw [e1] at hfi;cases hfi
       ·rw [e2] at hfi;cases hfi
      ·exfalso
       rcases hc with hc | hc
       ·omega
       ·unfold rVal at hv1
        simp only [hli,Bool.and_self,if_true] at hv1
        rw [if_pos hc] at hv1
        cases hv1
      ·obtain ⟨rfl,hall⟩:=oVal_blind hc hv2
       exact ⟨H,hall H,hv1⟩
      ·exfalso
       unfold still at hc1
       rw [still_fresh (lag_fresh hi hli).1,Bool.or_false,decide_eq_true_eq] at hc1
       omega
      ·omega
      ·exfalso
       have:=stC_fresh (C:=C) (lag_fresh hi hli).1
       unfold twoSt at hc
       rw [this] at hc
       simp at hc
     | false =>
      have e1:∀ H,rVal C call ops true b i oi tm H=oVal C call ops (floats C ops i) oi tm H:=fun H=>by unfold rVal;simp [hli]
      rw [e1] at hv1
      simp only [e1]
      rcases hc with hc | hc | ⟨hc1,hc2⟩ | ⟨hc1,hc2⟩ | hc | hc
      rotate_right
      ·exact oVal_far hF hi hj hc hv1 hv2
      rotate_right
      ·exact oVal_two hc hv1 hv2
      ·obtain ⟨rfl,hall⟩:=oVal_blind hc hv1
       exact ⟨H2,hv2,hall H2⟩
      ·obtain ⟨rfl,hall⟩:=oVal_blind hc hv2
       exact ⟨H,hall H,hv1⟩
      ·obtain rfl:=oVal_still2 hc1 hv1
       obtain rfl:=oVal_still2 hc2 hv2
       exact ⟨_,hv2,hv1⟩
      ·obtain rfl:=oVal_still (.inl hc1) hv1
       obtain ⟨l,rfl⟩:=oVal_grows hc2 hv2
       exact ⟨_,hv2,oVal_push hc1 hv1 l⟩
   obtain ⟨Hj,k1,k2⟩:=key
   refine ⟨(aput tm oj.dst u,Hj),by rw [rStep_val];simp [k1],?_⟩
   rw [rStep_val]
   simp only
   rw [rVal_congr (looks_put a3),k2]
   simp only [Option.some.injEq,Prod.mk.injEq,and_true]
   exact (aput_comm a2).symm

def Any (C:Cfg) (call:CallF) (ops:Array Oper) (b:Nat):Nat→Array Bool→St→St→Prop
 | 0,listed,s,r=>Region.ready .any ops listed=[]∧s=r
 | n + 1, listed, s, r => (Region.ready .any ops listed = [] → s = r) ∧
     ∀ i ∈ Region.ready .any ops listed,∃ o s',ops[i]?=some o∧rStep C call ops true b i o s=some s'∧Any C call ops b n (listed.setIfInBounds i true) s' r

def Closed (ops:Array Oper) (listed:Array Bool):Prop:=∀ j o,ops[j]?=some o→listed.getD j false=true→∀ e ∈ o.after,Region.binds .any e=true→listed.getD e.on false=true

theorem Closed.set {listed:Array Bool} (h:Closed ops listed) {i:Nat} (hi:i ∈ Region.ready .any ops listed):Closed ops (listed.setIfInBounds i true):=by
 intro j o ho hj e he hb
 by_cases hij:i=j
 ·subst hij
  obtain ⟨_,o',ho',hall⟩:=mem_ready.1 hi
  rw [ho] at ho'
  injection ho' with ho'
  subst ho'
  exact getD_set_true (hall e he hb)
 ·rw [getD_set_ne false hij] at hj
  exact getD_set_true (h j o ho hj e he hb)

theorem behind_listed {listed:Array Bool} (h:Closed ops listed):∀ (n j i:Nat),behind ops n j i=true→(∀ o,ops[j]?=some o→∀ e ∈ o.after,Region.binds .any e=true→listed.getD e.on false=true)→listed.getD i false=true:=by
 intro n
 induction n with
 | zero=>intro j i hb;simp [behind] at hb
 | succ n ih =>
  intro j i hb hj
  unfold behind at hb
  split at hb
  ·cases hb
  ·rename_i o ho
   rw [List.any_eq_true] at hb
   obtain ⟨e,he,hbe⟩:=hb
   rw [Bool.and_eq_true,Bool.or_eq_true] at hbe
   obtain ⟨hbind,hor⟩:=hbe
   have hl:=hj o ho e (by simpa using he) hbind
   rcases hor with hor | hor
   ·rw [← beq_iff_eq.1 hor];exact hl
   ·exact ih e.on i hor (fun o' ho' e' he' hb'=>h e.on o' ho' hl e' he' hb')

theorem unlisted {listed:Array Bool} {i:Nat} (h:listed.getD i true=false):listed.getD i false=false:=by
 rcases Nat.lt_or_ge i listed.size with h' | h'
 ·simp [h'] at h ⊢;exact h
 ·simp [Array.getElem?_eq_none h'] at h

theorem any_first (hfr : Framed call) (hK : FarK C ops) {b i : Nat} {oi : Oper} (hi : ops[i]? = some oi) : ∀ (n : Nat) (listed : Array Bool) (s s1 r : St), FarAt C ops s.1 → b + lags C ops ops.size ≤ s.2.length → Closed ops listed →
    (∀ j oj,ops[j]?=some oj→j ≠ i→listed.getD j true=false→behind ops ops.size j i=true ∨ (oi.apart ops oj=true∧(lag C ops j=true ∨ (lag C ops j=false∧compat C (floats C ops i) (floats C ops j) oi.op oj.op)))) →
    i ∈ Region.ready .any ops listed→rStep C call ops true b i oi s=some s1→Any C call ops b n (listed.setIfInBounds i true) s1 r→Any C call ops b (n+1) listed s r:=by
 intro n
 induction n with
 | zero =>
  intro listed s s1 r _ _ _ _ hr hs H
  refine ⟨fun h=>(by rw [h] at hr;cases hr),fun j hj=>?_⟩
  by_cases hji:j=i
  ·subst hji;exact ⟨oi,s1,hi,hs,H⟩
  ·have:=ready_mono hj hji
   rw [H.1] at this
   cases this
 | succ n ih =>
  intro listed s s1 r hF hlen hcl hfree hr hs H
  refine ⟨fun h=>(by rw [h] at hr;cases hr),fun j hj=>?_⟩
  by_cases hji:j=i
  ·subst hji;exact ⟨oi,s1,hi,hs,H⟩
  ·obtain ⟨oj,s12,hoj,hsj,Hj⟩:=H.2 j (ready_mono hj hji)
   obtain ⟨hjun,oj',hoj',hall⟩:=mem_ready.1 hj
   rw [hoj] at hoj'
   injection hoj' with hoj'
   subst hoj'
   rcases hfree j oj hoj hji hjun with hb | ⟨hap,hco⟩
   ·exfalso
    have h1:=behind_listed hcl ops.size j i hb (fun o ho e he hbd=>by rw [hoj] at ho;injection ho with ho;subst ho;exact hall e he hbd)
    rw [unlisted (mem_ready.1 hr).1] at h1
    cases h1
   ·obtain ⟨s2,h2,h3⟩:=rStep_comm hfr hF hi hoj hlen hap hco hs hsj
    have hF2:FarAt C ops s2.1:=by
     rw [rStep_val] at h2
     cases hv:rVal C call ops true b j oj s.1 s.2 with
     | none=>rw [hv] at h2;cases h2
     | some p =>
      rw [hv] at h2
      simp only [Option.some.injEq] at h2
      rw [← h2]
      exact hF.put hK hoj
    refine ⟨oj,s2,hoj,h2,ih (listed.setIfInBounds j true) s2 s12 r hF2 (Nat.le_trans hlen (rStep_len hfr h2)) (hcl.set hj) (fun k ok hk hki hun=>hfree k ok hk hki ?_) (ready_mono hr (Ne.symm hji)) h3 ?_⟩
    ·by_cases hjk:j=k
     ·subst hjk;exact hjun
     ·rw [getD_set_ne true hjk] at hun;exact hun
    ·rw [Array.setIfInBounds_comm _ _ hji]
     exact Hj

theorem compat_of {i j:Nat} {oi oj:Oper} (hij:i < j) (hi:ops[i]?=some oi) (hj:ops[j]?=some oj) (hne:j ≠ i) (h1:behind ops ops.size i j=false) (h2:behind ops ops.size j i=false):lag C ops j=true ∨ (lag C ops j=false∧compat C (floats C ops i) (floats C ops j) oi.op oj.op):=by
 cases hlag:lag C ops j with
 | true=>exact .inl rfl
 | false =>
 refine .inr ⟨rfl,?_⟩
 by_cases hfr:touch C oi.op≤1∧grows C oj.op=true
 ·exact .inr (.inr (.inr (.inl hfr)))
 by_cases hc:clash C oi.op oj.op=true
 ·have hil:i < ops.size:=(Array.getElem?_eq_some_iff.1 hi).1
  have hjl:j < ops.size:=(Array.getElem?_eq_some_iff.1 hj).1
  have hor:touch C oi.op≤1 ∨ 2≤touch C oi.op:=by omega
  have hfl:∀ (i j:Nat) (oi oj:Oper),ops[i]?=some oi→ops[j]?=some oj→j ≠ i→j < ops.size→behind ops ops.size i j=false→behind ops ops.size j i=false→clash C oi.op oj.op=true→(touch C oi.op≤1 ∨ 2≤touch C oj.op)→¬ (touch C oi.op≤1∧grows C oj.op=true∧i < j)→¬ (i < j∧lag C ops j=true)→¬ (j < i∧lag C ops i=true)→floats C ops i=true:=by
   intro i j oi oj hi hj hne hjl h1 h2 hc ho hnf hg1 hg2
   unfold floats
   simp only [hi]
   rw [List.any_eq_true]
   refine ⟨j,List.mem_range.2 hjl,?_⟩
   have hnf2:(decide (touch C oi.op≤1) && grows C oj.op && decide (i < j))=false:=by
    rw [Bool.eq_false_iff]
    intro e
    simp only [Bool.and_eq_true,decide_eq_true_eq] at e
    exact hnf ⟨e.1.1,e.1.2,e.2⟩
   have hg1':(decide (i < j) && lag C ops j)=false:=by
    rw [Bool.eq_false_iff]
    intro e
    simp only [Bool.and_eq_true,decide_eq_true_eq] at e
    exact hg1 e
   have hg2':(decide (j < i) && lag C ops i)=false:=by
    rw [Bool.eq_false_iff]
    intro e
    simp only [Bool.and_eq_true,decide_eq_true_eq] at e
    exact hg2 e
   simp only [hj,hc,h1,h2,hnf2,hg1',hg2',bne_iff_ne,ne_eq,hne,not_false_eq_true,Bool.true_and,Bool.not_false,Bool.and_true,Bool.and_eq_true,Bool.or_eq_true,decide_eq_true_eq]
   exact ⟨trivial,ho⟩
  by_cases ha:touch C oi.op≤1 ∨ 2≤touch C oj.op
  ·exact .inl (.inr (hfl i j oi oj hi hj hne hjl h1 h2 hc ha (fun e=>hfr ⟨e.1,e.2.1⟩) (fun e=>by rw [hlag] at e;cases e.2) (fun e=>by omega)))
  ·refine .inr (.inl (.inr (hfl j i oj oi hj hi (Ne.symm hne) hil h2 h1 ?_ (.inl (by omega)) (fun e=>by omega) (fun e=>by omega) (fun e=>by rw [hlag] at e;cases e.2))))
   have ht:twoSt C oj.op oi.op=twoSt C oi.op oj.op:=by
    unfold twoSt
    rw [Bool.and_comm (decide (stC C oj.op=1)),Bool.and_comm (decide (stC C oj.op=2)),Bool.or_comm]
   have ht2:farB C oj.op oi.op=farB C oi.op oj.op:=by
    unfold farB
    rw [Bool.or_comm]
   unfold clash at hc ⊢
   rw [Bool.or_comm (decide (touch C oj.op=0)),Bool.and_comm (still C oj.op),ht,ht2]
   exact hc
 ·unfold clash at hc
  simp only [Bool.not_eq_true',Bool.not_eq_false,Bool.or_eq_true,decide_eq_true_eq,Bool.and_eq_true] at hc
  rcases hc with (((h | h) | h) | h) | h
  ·exact .inl (.inl h)
  ·exact .inr (.inl (.inl h))
  ·exact .inr (.inr (.inl h))
  ·exact .inr (.inr (.inr (.inr (.inl h))))
  ·exact .inr (.inr (.inr (.inr (.inr h))))

theorem orderOk_spec (h : orderOk ops = true) : Region.noSelect ops = true ∧ ∀ k o, ops[k]? = some o → (∀ e ∈ o.after, Region.binds .any e = true → e.on < k) ∧
    ∀ j oj,ops[j]?=some oj→k < j→behind ops ops.size j k=true ∨ o.apart ops oj=true:=by
 unfold orderOk at h
 rw [Bool.and_eq_true,List.all_eq_true] at h
 refine ⟨h.1,fun k o ho=>?_⟩
 have hkl:k < ops.size:=(Array.getElem?_eq_some_iff.1 ho).1
 have hk:=h.2 k (List.mem_range.2 hkl)
 simp only [ho,Bool.and_eq_true,List.all_eq_true] at hk
 refine ⟨fun e he hb=>?_,fun j oj hj hkj=>?_⟩
 ·have:=hk.1 e (by simpa using he)
  simpa [hb] using this
 ·have hjl:j < ops.size:=(Array.getElem?_eq_some_iff.1 hj).1
  have:=hk.2 j (List.mem_range.2 hjl)
  simp only [hj,Bool.or_eq_true,decide_eq_true_eq] at this
  rcases this with h' | h'
  ·omega
  ·exact h'

theorem any_of_exec (hfr : Framed call) (hK : FarK C ops) {b : Nat} (hok : orderOk ops = true) : ∀ (l : List Oper) (k : Nat) (listed : Array Bool) (s r : St), FarAt C ops s.1 → (∀ j, l[j]? = ops[k + j]?) → listed.size = ops.size → (∀ x, x < ops.size → listed.getD x false = decide (x < k)) → k ≤ ops.size → b + lags C ops ops.size ≤ s.2.length →
    execOps C call ops true b k l s=some r→Any C call ops b l.length listed s r:=by
 obtain ⟨hns,hspec⟩:=orderOk_spec hok
 intro l
 induction l with
 | nil =>
  intro k listed s r hF hl hsz hlist hk hlen h
  simp [execOps] at h
  refine ⟨?_,h⟩
  rw [List.eq_nil_iff_forall_not_mem]
  intro i hi
  obtain ⟨h1,o,ho,_⟩:=mem_ready.1 hi
  have hil:i < ops.size:=(Array.getElem?_eq_some_iff.1 ho).1
  have hkl:ops.size≤k:=by
   have:=hl 0
   simp at this
   exact this
  have:=hlist i hil
  rw [unlisted h1] at this
  simp at this
  omega
 | cons o l ih =>
  intro k listed s r hF hl hsz hlist hk hlen h
  have h0:ops[k]?=some o:=by simpa using (hl 0).symm
  have hkl:k < ops.size:=(Array.getElem?_eq_some_iff.1 h0).1
  unfold execOps at h
  split at h
  ·rename_i s' hs'
   have hcl:Closed ops listed:=by
    intro j oj hj hjl e he hb
    have hjl':j < ops.size:=(Array.getElem?_eq_some_iff.1 hj).1
    rw [hlist j hjl'] at hjl
    have:=(hspec j oj hj).1 e he hb
    rw [hlist e.on (by omega)]
    simp at hjl ⊢
    omega
   have hready:k ∈ Region.ready .any ops listed:=by
    rw [mem_ready]
    refine ⟨?_,o,h0,fun e he hb=>?_⟩
    ·have:=hlist k hkl
     simp at this
     have hk':k < listed.size:=by omega
     simp [hk'] at this ⊢
     exact this
    ·have:=(hspec k o h0).1 e he hb
     rw [hlist e.on (by omega)]
     simpa using this
   have hF2:FarAt C ops s'.1:=by
    have h2:=hs'
    rw [rStep_val] at h2
    cases hv:rVal C call ops true b k o s.1 s.2 with
    | none=>rw [hv] at h2;cases h2
    | some p =>
     rw [hv] at h2
     simp only [Option.some.injEq] at h2
     rw [← h2]
     exact hF.put hK h0
   refine any_first hfr hK h0 l.length listed s s' r hF hlen hcl (fun j oj hj hjk hun=>?_) hready hs' (ih (k+1) _ s' r hF2 (fun j=>by have:=hl (j+1);simpa [Nat.add_assoc,Nat.add_comm 1 j] using this) (by simpa using hsz) (fun x hx=>?_) (by omega) (Nat.le_trans hlen (rStep_len hfr hs')) h)
   ·have hjl:j < ops.size:=(Array.getElem?_eq_some_iff.1 hj).1
    have hkj:k < j:=by
     have:=hlist j hjl
     rw [unlisted hun] at this
     simp at this
     omega
    rcases (hspec k o h0).2 j oj hj hkj with hb | hap
    ·exact .inl hb
    ·by_cases hb:behind ops ops.size j k=true
     ·exact .inl hb
     ·refine .inr ⟨hap,compat_of hkj h0 hj hjk ?_ (by simpa using hb)⟩
      cases hbb:behind ops ops.size k j with
      | false=>rfl
      | true =>
       exfalso
       have:=behind_listed hcl ops.size k j hbb (fun o' ho' e he hb'=>by
        rw [h0] at ho'
        injection ho' with ho'
        subst ho'
        have:=(hspec k o h0).1 e he hb'
        rw [hlist e.on (by omega)]
        simpa using this)
       rw [unlisted hun] at this
       cases this
   ·by_cases hxk:k=x
    ·subst hxk
     have hk':k < listed.size:=by omega
     simp [hk']
    ·rw [getD_set_ne false hxk,hlist x hx]
     simp
     omega
  ·cases h
end
end Go.Am
