/-
  THE ABSTRACT MACHINE, part L: a region, in whatever order.
-/
import Derived.Test.YtehanadfidoodaaGreatDoorEmFrx
namespace Go.Am
open RowKit
section
variable {C:Cfg}{call:ZD}{ops:Array Oper}
theorem PD {ev ev':Operand→AV}{xs:Array Operand}(h:∀ x∈xs,ev x=ev' x):xs.toList.map ev=xs.toList.map ev' :=
 List.map_congr_left fun x hx=>h x (by simpa using hx)
theorem PI {ev ev':Operand→AV}{x:Option Operand}(h:∀ y∈x.toArray,ev y=ev' y):x.map ev=x.map ev':=by
 cases x with
 |none=>rfl
 |some y=>simp[h y (by simp)]
theorem Zgk {ev ev':Operand→AV}{op:Op}(h:∀ x∈op.operands,ev x=ev' x):ZS C ev op=ZS C ev' op:=by
 cases op <;> simp only[Op.operands]at h
 case call c =>
  obtain⟨callee,args,argTypes⟩:=c
  cases callee with
  |value f=>rfl
  |invoke r m=>rfl
  |builtin b =>
   have ha:∀ x∈args,ev x=ev' x:=fun x hx=>h x (by simp[Call.operands,hx])
   cases b <;> try rfl
   case len =>
    simp only[ZS]
    split
    ·rename_i hargs _
     obtain rfl:=VC hargs
     simp[ha]
    ·rfl
   all_goals
    simp only[ZS]
    split
    ·rename_i hargs
     obtain rfl:=X1 hargs
     simp[ha]
    ·rfl
 case build t ps =>
  have:(ps.toList.map fun p=>(p.1,ev p.2))=ps.toList.map fun p=>(p.1,ev' p.2):=List.map_congr_left fun p hp=>by
   rw[h p.2 (by simp;exact⟨p.1,by simpa using hp⟩)]
  simp only[ZS,this]
 case buildSlice t n ps =>
  have:(ps.toList.map fun p=>(p.1,ev p.2))=ps.toList.map fun p=>(p.1,ev' p.2):=List.map_congr_left fun p hp=>by
   rw[h p.2 (by simp;exact⟨p.1,by simpa using hp⟩)]
  simp only[ZS,this]
 case makeFunc fn first captured =>
  cases fn <;> simp only[ZS]
  rw[PD (xs:=first) (fun x hx=>h x (by simp[hx])),PD (xs:=captured) (fun x hx=>h x (by simp[hx]))]
 case slice t x lo hi mx =>
  simp only[ZS]
  rw[h x (by simp),PI (x:=lo) (fun y hy=>h y (by simp at hy ⊢;simp[hy])),PI (x:=hi) (fun y hy=>h y (by simp at hy ⊢;simp[hy])),PI (x:=mx) (fun y hy=>h y (by simp at hy ⊢;simp[hy]))]
 all_goals first
  |rfl
  |(simp only[ZS];simp[h])
theorem Zge {ev ev':Operand→AV}{H:Hp}{op:Op}(h:∀ x∈op.operands,ev x=ev' x):ZE C call ev H op=ZE C call ev' H op:=by
 cases op <;> simp only[Op.operands]at h
 case call c =>
  obtain⟨callee,args,argTypes⟩:=c
  cases callee with
  |value f =>
   simp only[ZE]
   rw[h f (by simp[Call.operands]),PD (xs:=args) (fun x hx=>h x (by simp[Call.operands,hx]))]
  |invoke r m=>rfl
  |builtin b =>
   have ha:∀ x∈args,ev x=ev' x:=fun x hx=>h x (by simp[Call.operands,hx])
   cases b <;> try rfl
   all_goals
    simp only[ZE]
    split
    ·rename_i hargs hts
     first
      |(obtain rfl:=X1 hargs;simp[ha])
      |(obtain rfl:=VC hargs;simp[ha])
    ·rfl
 case makeMap t r=>cases r <;> rfl
 all_goals first
  |rfl
  |(simp only[ZE];simp[h])
theorem Zkd {ev ev':Operand→AV}{H:Hp}{fl:Bool}{op:Op}(h:∀ x∈op.operands,ev x=ev' x):Xl C call ev H fl op=Xl C call ev' H fl op:=by
 unfold Xl
 rw[Zgk h,Zge h]
theorem Zbe {tm tm':List AV}{o:Oper}(h:∀ t∈o.looksAt ops,tm[t]?=tm'[t]?):∀ x∈o.op.operands,eval C tm x=eval C tm' x:=by
 intro x hx
 cases x with
 |tmp t =>
  simp only[eval,List.getD_eq_getElem?_getD]
  rw[h t]
  unfold Oper.looksAt
  rw[List.mem_append]
  left
  rw[List.mem_filterMap]
  exact⟨.tmp t,by simpa using hx,rfl⟩
 |_=>rfl
theorem ZdW {tm tm':List AV}{o:Oper}(h:∀ t∈o.looksAt ops,tm[t]?=tm'[t]?):Wx ops tm o=Wx ops tm' o:=by
 unfold Wx
 cases hg:o.guard with
 |none=>rfl
 |some p =>
  obtain⟨j,want⟩:=p
  simp only
  cases hj:ops[j]? with
  |none=>rfl
  |some g =>
   simp only
   cases hd:g.dst with
   |none=>rfl
   |some d =>
    simp only
    rw[h d]
    unfold Oper.looksAt
    simp[hg,hj,hd]
theorem Zjl {tm tm':List AV}{o:Oper}{fl:Bool}{H:Hp}(h:∀ t∈o.looksAt ops,tm[t]?=tm'[t]?):Wo C call ops fl o tm H=Wo C call ops fl o tm' H:=by
 unfold Wo
 rw[ZdW h,Zkd (Zbe h)]
theorem Zdk {tm:List AV}{o:Oper}{dst:Option Tmp}{v:AV}(h:∀ d,dst=some d→d∉o.looksAt ops):∀ t∈o.looksAt ops,(Wl tm dst v)[t]?=tm[t]?:=by
 intro t ht
 cases dst with
 |none=>rfl
 |some d =>
  have:d≠t:=fun e=>h d rfl (e ▸ ht)
  simp[Wl,List.getElem?_set_ne this]
theorem HJ {id:FuncId}{args:List AV}{H H':Hp}{v:AV}(hq:Ie C id=true)(h:Xc C call id args H=some (v,H')):H'=H∧∀ H2,Xc C call id args H2=some (v,H2):=by
 unfold Xc at h ⊢
 cases he:C.ext id with
 |some e =>
  simp only[he]at h ⊢
  unfold Ae at h ⊢
  cases hx:Zf0 e args with
  |none=>simp[hx]at h
  |some u =>
   simp only[hx,Option.some.injEq,Prod.mk.injEq]at h ⊢
   obtain⟨rfl,rfl⟩:=h
   simp
 |none =>
  cases hs:C.sum id with
  |some g =>
   simp only[he,hs]at h ⊢
   unfold Sk at h ⊢
   cases hx:g args with
   |none=>simp[hx]at h
   |some u =>
    simp only[hx,Option.some.injEq,Prod.mk.injEq]at h ⊢
    obtain⟨rfl,rfl⟩:=h
    simp
  |none =>
  unfold Ie at hq
  simp only[he,hs,Option.isSome_none,Bool.false_or,Bool.and_eq_true,Option.isNone_iff_eq_none]at hq
  obtain⟨⟨hq1,hq2⟩,hq3⟩:=hq
  simp only[he,hs,hq1,hq2,hq3,if_true]at h ⊢
  unfold Ze at h ⊢
  split at h
  ·rename_i args1 hm
   split at h
   ·rename_i v1 H1 hc
    split at h
    ·rename_i v2 hf
     simp only[Option.some.injEq,Prod.mk.injEq]at h
     obtain⟨rfl,rfl⟩:=h
     exact⟨rfl,fun H2=>rfl⟩
    ·cases h
   ·cases h
  ·cases h
theorem ZeP {x:AV}{H H':Hp}{v:AV}(h:Jj x H=some (v,H')):H'=H:=by
 unfold Jj at h
 split at h
 ·split at h
  ·simp only[Option.some.injEq,Prod.mk.injEq]at h
   exact h.2.symm
  ·cases h
 ·cases h
theorem Ziv {k:Nat}{x:AV}{H:Hp}{v:List AV}(h:elems k x H=some v)(l:Hp):elems k x (H++l)=some v:=by
 cases x with
 |rs ag k' o off len cap =>
  unfold elems at h ⊢
  simp only at h ⊢
  split at h
  ·rename_i hc
   rw[if_pos hc]
   split at h
   ·rename_i cs ho
    rw[List.getElem?_append_left (Zf ho),ho]
    exact h
   ·cases h
  ·cases h
 |ws ag k' o e len =>
  unfold elems at h ⊢
  simp only at h ⊢
  split at h
  ·rename_i hc
   rw[if_pos hc]
   split at h
   ·rename_i e' cs ho
    rw[List.getElem?_append_left (Zf ho),ho]
    exact h
   ·cases h
  ·cases h
 |_=>exact h
theorem Zgw {x:AV}{H H':Hp}{v:AV}(h:Jj x H=some (v,H'))(l:Hp):Jj x (H++l)=some (v,H++l):=by
 unfold Jj at h ⊢
 split at h
 ·rename_i xs hel
  have:UB x (H++l)=some xs:=by
   unfold UB at hel ⊢
   split at hel
   ·cases hel
   ·exact Ziv hel l
  rw[this]
  split at h
  ·rename_i s hs
   simp only[Option.some.injEq,Prod.mk.injEq]at h
   simp only[hs,h.1]
  ·cases h
 ·cases h
theorem HR {ev:Operand→AV}(hev:∀ f,ev (.func f)=.fn (.func f) [] []){H H':Hp}{fl:Bool}{op:Op}{v:AV}(hb:ZP C op=0∨fl=true)(h:Xl C call ev H fl op=some (v,H')):H'=H∧∀ H2,Xl C call ev H2 fl op=some (v,H2):=by
 unfold Xl at h ⊢
 split at h
 ·rename_i v' hp
  simp only[Option.some.injEq,Prod.mk.injEq]at h
  obtain⟨rfl,rfl⟩:=h
  exact⟨rfl,fun H2=>rfl⟩
 ·split at h
  ·cases h
  ·rename_i hfl
   have ht:ZP C op=0:=by
    rcases hb with hb|hb
    ·exact hb
    ·exact absurd hb hfl
   simp only[hfl]
   cases op with
   |call c =>
    obtain⟨callee,args,argTypes⟩:=c
    cases callee with
    |value f =>
     cases f with
     |func id =>
      have hq:Ie C id=true:=by
       cases hq:Ie C id with
       |true=>rfl
       |false=>simp[ZP,hq]at ht
      simp only[ZE,S7,Yp,hev,List.nil_append,List.append_nil,Bool.false_eq_true,if_false]at h ⊢
      exact HJ hq h
     |tmp t =>
      have hq:S7 C (.tmp t) args=true:=by
       cases hq:S7 C (.tmp t) args with
       |true=>rfl
       |false=>simp[ZP,hq]at ht
      simp only[ZE,hq,if_true]at h ⊢
      unfold Xd qC at h ⊢
      split at h
      ·rename_i id first captured hf
       split at h
       ·rename_i hqq
        simp only[if_pos hqq,Bool.false_eq_true,if_false]
        exact HJ hqq h
       ·cases h
      ·cases h
     |_=>simp[ZP,S7]at ht
    |invoke r m=>simp[ZP]at ht
    |builtin b=>cases b <;> first|(simp[ZP]at ht;done)|(simp[ZE]at h;done)
   |convert s d x=>simp only[ZP]at ht;split at ht <;> cases ht
   |_=>first|(simp[ZP]at ht;done)|(simp[ZE]at h;done)
theorem Zkf {ev:Operand→AV}(hev:∀ f,ev (.func f)=.fn (.func f) [] []){H H':Hp}{fl:Bool}{op:Op}{v:AV}(hb:ZP C op≤1∨fl=true)(h:Xl C call ev H fl op=some (v,H')):H'=H:=by
 by_cases h0:ZP C op=0∨fl=true
 ·exact (HR hev h0 h).1
 ·have ht:ZP C op=1:=by
   rcases hb with hb|hb
   ·have:ZP C op≠0:=fun e=>h0 (.inl e)
    omega
   ·exact absurd (.inr hb) h0
  unfold Xl at h
  split at h
  ·simp only[Option.some.injEq,Prod.mk.injEq]at h
   exact h.2.symm
  ·split at h
   ·cases h
   ·cases op with
    |load t a =>
     simp only[ZE]at h
     split at h
     ·rename_i g sz _ _
      cases hl:Z4 g sz (ev a) H with
      |none=>simp[hl]at h
      |some r=>simp[hl]at h;exact h.2.symm
     ·cases h
    |lookup t x k ck =>
     simp only[ZE]at h
     split at h
     ·rename_i d e _
      split at h
      ·rename_i z _
       cases hl:ZZ d z ck (ev x) (ev k) H with
       |none=>simp[hl]at h
       |some r=>simp[hl]at h;exact h.2.symm
      ·cases h
     ·cases h
    |call c =>
     obtain⟨callee,args,argTypes⟩:=c
     cases callee with
     |value f=>exfalso;cases f <;> simp only[ZP]at ht <;> split at ht <;> omega
     |invoke r m=>simp[ZP]at ht
     |builtin b =>
      cases b <;> first|(simp[ZP]at ht;done)|skip
      simp only[ZE]at h
      split at h
      ·rename_i x t _ _
       split at h
       ·cases hl:Q0 (ev x) H with
        |none=>simp[hl]at h
        |some r=>simp[hl]at h;exact h.2.symm
       ·cases h
      ·cases h
    |convert s d x =>
     have hw:C.wrb d=false:=by
      cases hw:C.wrb d with
      |false=>rfl
      |true=>simp[ZP,hw]at ht
     simp only[ZE,hw,Bool.false_and]at h
     split at h
     ·split at h
      ·exact ZeP h
      ·cases h
     ·cases h
     ·cases h
    |_=>first|(simp[ZP]at ht;done)|(simp[ZE]at h;done)
theorem Zk3 {id:FuncId}{args:List AV}{H H':Hp}{v:AV}(h1:C.ro id=true)(h2:C.flat id=false)(h3:C.ext id=none)(h4:C.sum id=none)(h5:C.eff id=none)(h:Xc C call id args H=some (v,H')):H'=H:=by
 unfold Xc at h
 simp only[h1,h2,h3,h4,h5,Bool.false_eq_true,if_false,if_true]at h
 split at h
 ·unfold D7 at h
  split at h
  ·split at h
   ·split at h
    ·simp only[Option.some.injEq,Prod.mk.injEq]at h
     exact h.2.symm
    ·cases h
   ·cases h
  ·cases h
 ·cases h
theorem ZqL {ev:Operand→AV}(hev:∀ f,ev (.func f)=.fn (.func f) [] []){H H':Hp}{fl:Bool}{op:Op}{v:AV}(hb:ZfK C op=true)(h:Xl C call ev H fl op=some (v,H')):H'=H:=by
 unfold Xl at h
 split at h
 ·simp only[Option.some.injEq,Prod.mk.injEq]at h
  exact h.2.symm
 ·split at h
  ·cases h
  ·unfold ZfK at hb
   split at hb
   ·simp only[Bool.and_eq_true,Bool.not_eq_true',Option.isNone_iff_eq_none]at hb
    obtain⟨⟨⟨⟨b1,b2⟩,b3⟩,b4⟩,b5⟩:=hb
    simp only[ZE,S7,Yp,hev,List.nil_append,List.append_nil,Bool.false_eq_true,if_false]at h
    exact Zk3 b1 b2 b3 b4 b5 h
   ·cases hb
theorem Zh9 {op:Op}(h:JH op=true):ZfK C op=false:=by
 cases op <;> first|rfl|(simp[JH]at h;done)
theorem S4 {o:Oper}{fl:Bool}{tm:List AV}{H H':Hp}{v:AV}(hb:ZP C o.op=0∨fl=true)(h:Wo C call ops fl o tm H=some (v,H')):H'=H∧∀ H2,Wo C call ops fl o tm H2=some (v,H2):=by
 unfold Wo at h ⊢
 split at h
 ·cases h
 ·rename_i hw
  simp only[Option.some.injEq,Prod.mk.injEq]at h
  obtain⟨rfl,rfl⟩:=h
  exact⟨rfl,fun H2=>rfl⟩
 ·rename_i hw
  obtain⟨h1,h2⟩:=HR (fun _=>rfl) hb h
  exact⟨h1,fun H2=>h2 H2⟩
theorem ZbH {o:Oper}{fl:Bool}{tm:List AV}{H H':Hp}{v:AV}(hb:ZP C o.op≤1∨fl=true)(h:Wo C call ops fl o tm H=some (v,H')):H'=H:=by
 unfold Wo at h
 split at h
 ·cases h
 ·simp only[Option.some.injEq,Prod.mk.injEq]at h
  exact h.2.symm
 ·exact Zkf (fun _=>rfl) hb h
theorem Zq8 {o:Oper}{fl:Bool}{tm:List AV}{H H':Hp}{v:AV}(hb:ZfK C o.op=true)(h:Wo C call ops fl o tm H=some (v,H')):H'=H:=by
 unfold Wo at h
 split at h
 ·cases h
 ·simp only[Option.some.injEq,Prod.mk.injEq]at h
  exact h.2.symm
 ·exact ZqL (fun _=>rfl) hb h
theorem Ob {o:Oper}{fl:Bool}{tm:List AV}{H H':Hp}{v:AV}(hb:Md C o.op=true)(h:Wo C call ops fl o tm H=some (v,H')):H'=H:=by
 unfold Md at hb
 rw[Bool.or_eq_true,decide_eq_true_eq]at hb
 rcases hb with hb|hb
 ·exact ZbH (.inl hb) h
 ·exact Zq8 hb h
theorem Zkh {tm:List AV}{x y:Option Tmp}{v u:AV}(h:∀ d,x=some d→y≠some d):Wl (Wl tm x v) y u=Wl (Wl tm y u) x v:=by
 cases x with
 |none=>rfl
 |some d =>
  cases y with
  |none=>rfl
  |some e =>
   have hne:d≠e:=fun he=>h d rfl (he ▸ rfl)
   simp only[Wl]
   exact List.set_comm _ _ hne
theorem Zi4 {g:Bool}{sz:Nat}{a:AV}{H:Hp}{v:AV}(h:Z4 g sz a H=some v)(l:Hp):Z4 g sz a (H++l)=some v:=by
 cases a with
 |ptr o off =>
  unfold Z4 at h ⊢
  simp only at h ⊢
  split at h
  ·rename_i c hc
   rw[List.getElem?_append_left (Zf hc),hc]
   exact h
  ·cases h
 |wp o e off =>
  unfold Z4 at h ⊢
  simp only at h ⊢
  split at h
  ·rename_i e' c hc
   rw[List.getElem?_append_left (Zf hc),hc]
   exact h
  ·cases h
 |_=>exact h
theorem HX {x:AV}{H:Hp}{v:List (AV×AV×Nat)}(h:YP x H=some v)(l:Hp):YP x (H++l)=some v:=by
 cases x with
 |map o =>
  unfold YP at h ⊢
  simp only at h ⊢
  split at h
  ·rename_i c k hc
   rw[List.getElem?_append_left (Zf hc),hc]
   exact h
  ·cases h
 |_=>exact h
theorem ZeB {d:TypeDesc}{z:AV}{ck:Bool}{x k:AV}{H:Hp}{v:AV}(h:ZZ d z ck x k H=some v)(l:Hp):ZZ d z ck x k (H++l)=some v:=by
 unfold ZZ at h ⊢
 cases he:YP x H with
 |none=>simp[he]at h
 |some es=>rw[HX he l];rw[he]at h;exact h
theorem Zi0 {x:AV}{H:Hp}{v:AV}(h:Q0 x H=some v)(l:Hp):Q0 x (H++l)=some v:=by
 unfold Q0 at h ⊢
 cases he:YP x H with
 |none=>simp[he]at h
 |some es=>rw[HX he l];rw[he]at h;exact h
theorem ZmY {ev:Operand→AV}(hev:∀ f,ev (.func f)=.fn (.func f) [] []){H H':Hp}{fl:Bool}{op:Op}{v:AV}(hb:ZP C op≤1)(h:Xl C call ev H fl op=some (v,H'))(l:Hp):Xl C call ev (H++l) fl op=some (v,H++l):=by
 by_cases h0:ZP C op=0∨fl=true
 ·exact (HR hev h0 h).2 _
 ·have ht:ZP C op=1:=by
   have:ZP C op≠0:=fun e=>h0 (.inl e)
   omega
  have hfl:¬ fl=true:=fun e=>h0 (.inr e)
  unfold Xl at h ⊢
  split at h
  ·rename_i v' hp
   simp only[Option.some.injEq,Prod.mk.injEq]at h
   obtain⟨rfl,rfl⟩:=h
   rfl
  ·rw[if_neg hfl]at h ⊢
   cases op with
   |load t a =>
    simp only[ZE]at h ⊢
    split at h
    ·rename_i g sz _ _
     cases hl:Z4 g sz (ev a) H with
     |none=>simp[hl]at h
     |some r =>
      simp[hl]at h
      obtain⟨rfl,rfl⟩:=h
      simp[Zi4 hl l]
    ·cases h
   |lookup t x k ck =>
    simp only[ZE]at h ⊢
    split at h
    ·rename_i d e _
     split at h
     ·rename_i z _
      cases hl:ZZ d z ck (ev x) (ev k) H with
      |none=>simp[hl]at h
      |some r =>
       simp[hl]at h
       obtain⟨rfl,rfl⟩:=h
       simp[ZeB hl l]
     ·cases h
    ·cases h
   |call c =>
    obtain⟨callee,args,argTypes⟩:=c
    cases callee with
    |value f=>exfalso;cases f <;> simp only[ZP]at ht <;> split at ht <;> omega
    |invoke r m=>simp[ZP]at ht
    |builtin b =>
     cases b <;> first|(simp[ZP]at ht;done)|skip
     simp only[ZE]at h ⊢
     split at h
     ·rename_i x t _ _
      split at h
      ·cases hl:Q0 (ev x) H with
       |none=>simp[hl]at h
       |some r =>
        simp[hl]at h
        obtain⟨rfl,rfl⟩:=h
        simp[Zi0 hl l]
      ·cases h
     ·cases h
   |convert s d x =>
    have hw:C.wrb d=false:=by
     cases hw:C.wrb d with
     |false=>rfl
     |true=>simp[ZP,hw]at ht
    simp only[ZE,hw,Bool.false_and]at h ⊢
    split at h
    ·split at h
     ·rename_i h8
      simp only[h8,if_true]
      exact Zgw h l
     ·cases h
    ·cases h
    ·cases h
   |_=>first|(simp[ZP]at ht;done)|(simp[ZE]at h;done)
theorem ZlF {o:Oper}{fl:Bool}{tm:List AV}{H H':Hp}{v:AV}(hb:ZP C o.op≤1)(h:Wo C call ops fl o tm H=some (v,H'))(l:Hp):Wo C call ops fl o tm (H++l)=some (v,H++l):=by
 unfold Wo at h ⊢
 split at h
 ·cases h
 ·simp only[Option.some.injEq,Prod.mk.injEq]at h
  obtain⟨rfl,rfl⟩:=h
  rfl
 ·exact ZmY (fun _=>rfl) hb h l
theorem Zjm {o:Oper}{fl:Bool}{tm:List AV}{H H':Hp}{v:AV}(hb:JH o.op=true)(h:Wo C call ops fl o tm H=some (v,H')):∃ l,H'=H++l:=by
 unfold Wo at h
 split at h
 ·cases h
 ·simp only[Option.some.injEq,Prod.mk.injEq]at h
  exact⟨[],by rw[←h.2];simp⟩
 ·unfold Xl at h
  split at h
  ·simp only[Option.some.injEq,Prod.mk.injEq]at h
   exact⟨[],by rw[←h.2];simp⟩
  ·split at h
   ·cases h
   ·generalize o.op=op at hb h
    cases op with
    |alloc e =>
     simp only[ZE]at h
     split at h
     ·split at h
      ·split at h
       ·simp only[Option.some.injEq,Prod.mk.injEq]at h
        exact⟨_,h.2.symm⟩
       ·cases h
      ·split at h
       ·simp only[Option.some.injEq,Prod.mk.injEq]at h
        exact⟨_,h.2.symm⟩
       ·cases h
     ·cases h
    |box e x =>
     simp only[ZE]at h
     unfold ZW at h
     split at h
     ·simp only[Option.some.injEq,Prod.mk.injEq]at h
      exact⟨_,h.2.symm⟩
     ·cases h
    |_=>simp[JH]at hb
def ZeN (C:Cfg)(fi fj:Bool)(x y:Op):Prop:=(ZP C x=0∨fi=true)∨(ZP C y=0∨fj=true)∨(Md C x=true∧Md C y=true)∨(ZP C x≤1∧JH y=true)
def UF (C:Cfg)(call:ZD)(ops:Array Oper)(draw:Bool)(b i:Nat)(o:Oper)(tm:List AV)(H:Hp):Option (AV×Hp) :=
 if draw&&Wm C ops i then (if YV C ops i then none else Rb (b+WB C ops i) (Py C (eval C tm) o.op) H) else Wo C call ops (draw&&YV C ops i) o tm H
theorem FR {draw:Bool}{b i:Nat}{o:Oper}{s:St}:XD C call ops draw b i o s=match UF C call ops draw b i o s.1 s.2 with|some (v,H)=>some (Wl s.1 o.dst v,H)|none=>none:=by
 unfold XD UF
 by_cases h:(draw&&Wm C ops i)=true
 ·rw[if_pos h,if_pos h]
  by_cases hf:YV C ops i=true
  ·rw[if_pos hf,if_pos hf]
  ·rw[if_neg hf,if_neg hf]
   rfl
 ·rw[if_neg h,if_neg h]
  rfl
theorem Zj5 {ev ev':Operand→AV}{op:Op}(h:∀ x∈op.operands,ev x=ev' x):Py C ev op=Py C ev' op:=by
 cases op <;> try rfl
 case box t x=>simp only[Py];rw[h x (by simp[Op.operands])]
theorem ZbQ {draw:Bool}{b i:Nat}{tm tm':List AV}{o:Oper}{H:Hp}(h:∀ t∈o.looksAt ops,tm[t]?=tm'[t]?):UF C call ops draw b i o tm H=UF C call ops draw b i o tm' H:=by
 unfold UF
 rw[Zjl h,Zj5 (Zbe h)]
theorem Zpk (p:Nat)(cs:Option (List AV)):YI (Rb p cs):=by
 cases cs with
 |none=>exact Zq
 |some l =>
  intro H v H' h
  unfold Rb at h
  simp only at h
  split at h
  ·rename_i hp
   simp only[Option.some.injEq,Prod.mk.injEq]at h
   obtain⟨rfl,rfl⟩:=h
   refine⟨by simp,fun o ho hf=>?_⟩
   obtain⟨h1,h2⟩:=Fl hf (by simp)
   refine⟨h2,fun x=>?_⟩
   unfold Rb
   simp only
   rw[List.getElem?_set_ne h1,hp]
   simp only
   rw[List.set_comm _ _ h1]
  ·cases h
theorem ZcJ (hc:W7 call)(draw:Bool)(b i:Nat)(o:Oper)(tm:List AV):YI (UF C call ops draw b i o tm):=by
 unfold UF
 exact Y1 _ (fun _=>Y1 _ (fun _=>Zq) fun _=>Zpk _ _) fun _=>Zq7 hc _ _ _ _
theorem Zhn {j n:Nat}(h:Wm C ops j=true)(hj:j<n):WB C ops j<WB C ops n:=by
 unfold WB
 have h1:(List.range (j+1)).countP (Wm C ops)=(List.range j).countP (Wm C ops)+1:=by
  rw[List.range_succ,List.countP_append]
  simp[h]
 have h2:(List.range (j+1)).countP (Wm C ops)≤(List.range n).countP (Wm C ops):=List.Sublist.countP_le (List.range_sublist.2 (by omega))
 omega
theorem Av {i:Nat}{o:Oper}(h:ops[i]?=some o)(hl:Wm C ops i=true):JH o.op=true∧o.guard=none:=by
 unfold Wm at hl
 simp only[h,Bool.and_eq_true]at hl
 exact⟨hl.1.1,by simpa using hl.1.2⟩
theorem Zhc {op:Op}(h:JH op=true):ZP C op=2:=by
 cases op <;> first|rfl|(simp[JH]at h;done)
theorem Zdv (hc:W7 call){draw:Bool}{b i:Nat}{o:Oper}{s s':St}(h:XD C call ops draw b i o s=some s'):s.2.length≤s'.2.length:=by
 rw[FR]at h
 cases hv:UF C call ops draw b i o s.1 s.2 with
 |none=>simp[hv]at h
 |some p =>
  obtain⟨v,H⟩:=p
  simp only[hv,Option.some.injEq]at h
  subst h
  exact (ZcJ hc draw b i o s.1 s.2 v H hv).1
theorem Zjs (hfr:W7 call){b i j:Nat}{oi oj:Oper}{s s1 s12:St}(hi:ops[i]?=some oi)(hj:ops[j]?=some oj)(hlen:b+WB C ops ops.size≤s.2.length)(hap:oi.apart ops oj=true)
 (hc:Wm C ops j=true∨(Wm C ops j=false∧ZeN C (YV C ops i) (YV C ops j) oi.op oj.op)) (h1:XD C call ops true b i oi s=some s1) (h2:XD C call ops true b j oj s1=some s12) :
 ∃ s2,XD C call ops true b j oj s=some s2∧XD C call ops true b i oi s2=some s12:=by
 obtain⟨a1,a2,a3⟩:=Oper.apart_spec hap
 obtain⟨tm,H⟩:=s
 rw[FR]at h1 h2
 simp only at h1 hlen
 cases hv1:UF C call ops true b i oi tm H with
 |none=>simp[hv1]at h1
 |some p =>
  obtain⟨v,H1⟩:=p
  simp only[hv1,Option.some.injEq]at h1
  subst h1
  simp only at h2
  rw[ZbQ (Zdk a1)]at h2
  cases hv2:UF C call ops true b j oj tm H1 with
  |none=>simp[hv2]at h2
  |some q =>
   obtain⟨u,H2⟩:=q
   simp only[hv2,Option.some.injEq]at h2
   subst h2
   have key:∃ Hj,UF C call ops true b j oj tm H=some (u,Hj)∧UF C call ops true b i oi tm Hj=some (v,H2):=by
    rcases hc with hl|⟨hl,hc⟩
    ·have hjl:j<ops.size:=(Array.getElem?_eq_some_iff.1 hj).1
     have hlt:=Zhn hl hjl
     unfold UF at hv2
     simp only[hl,Bool.and_self,if_true]at hv2
     split at hv2
     ·cases hv2
     ·rename_i hfj
      unfold Rb at hv2
      split at hv2
      ·rename_i cs hcs
       split at hv2
       ·rename_i hp
        simp only[Option.some.injEq,Prod.mk.injEq]at hv2
        obtain⟨rfl,rfl⟩:=hv2
        obtain⟨_,hf⟩:=ZcJ hfr true b i oi tm H v H1 hv1
        obtain⟨g1,g2⟩:=hf _ (by omega) hp
        refine⟨H.set (b+WB C ops j) (.cells cs),?_,g2 _⟩
        unfold UF
        simp only[hl,Bool.and_self,if_true]
        rw[if_neg hfj]
        unfold Rb
        rw[hcs]
        simp only
        rw[g1]
       ·cases hv2
      ·cases hv2
    ·have e2:∀ H,UF C call ops true b j oj tm H=Wo C call ops (YV C ops j) oj tm H:=fun H=>by unfold UF;simp[hl]
     rw[e2]at hv2
     simp only[e2]
     cases hli:Wm C ops i with
     |true =>
      have hi2:=Zhc (C:=C) (Av hi hli).1
      rcases hc with hc|hc|⟨hc1,hc2⟩|⟨hc1,hc2⟩
      ·exfalso
       rcases hc with hc|hc
       ·omega
       ·unfold UF at hv1
        simp only[hli,Bool.and_self,if_true]at hv1
        rw[if_pos hc]at hv1
        cases hv1
      ·obtain⟨rfl,hall⟩:=S4 hc hv2
       exact⟨H,hall H,hv1⟩
      ·exfalso
       unfold Md at hc1
       rw[Zh9 (Av hi hli).1,Bool.or_false,decide_eq_true_eq]at hc1
       omega
      ·omega
     |false =>
      have e1:∀ H,UF C call ops true b i oi tm H=Wo C call ops (YV C ops i) oi tm H:=fun H=>by unfold UF;simp[hli]
      rw[e1]at hv1
      simp only[e1]
      rcases hc with hc|hc|⟨hc1,hc2⟩|⟨hc1,hc2⟩
      ·obtain⟨rfl,hall⟩:=S4 hc hv1
       exact⟨H2,hv2,hall H2⟩
      ·obtain⟨rfl,hall⟩:=S4 hc hv2
       exact⟨H,hall H,hv1⟩
      ·obtain rfl:=Ob hc1 hv1
       obtain rfl:=Ob hc2 hv2
       exact⟨_,hv2,hv1⟩
      ·obtain rfl:=ZbH (.inl hc1) hv1
       obtain⟨l,rfl⟩:=Zjm hc2 hv2
       exact⟨_,hv2,ZlF hc1 hv1 l⟩
   obtain⟨Hj,k1,k2⟩:=key
   refine⟨(Wl tm oj.dst u,Hj),by rw[FR];simp[k1],?_⟩
   rw[FR]
   simp only
   rw[ZbQ (Zdk a3),k2]
   simp only[Option.some.injEq,Prod.mk.injEq,and_true]
   exact (Zkh a2).symm
def Any (C:Cfg)(call:ZD)(ops:Array Oper)(b:Nat):Nat→Array Bool→St→St→Prop
 |0,listed,s,r=>Region.ready .any ops listed=[]∧s=r
 |n+1,listed,s,r=>(Region.ready .any ops listed=[]→s=r) ∧
  ∀ i∈Region.ready .any ops listed,∃ o s',ops[i]?=some o∧XD C call ops true b i o s=some s'∧Any C call ops b n (listed.setIfInBounds i true) s' r
def Closed (ops:Array Oper)(listed:Array Bool):Prop:=∀ j o,ops[j]?=some o→listed.getD j false=true→∀ e∈o.after,Region.binds .any e=true→listed.getD e.on false=true
theorem Closed.set {listed:Array Bool}(h:Closed ops listed){i:Nat}(hi:i∈Region.ready .any ops listed):Closed ops (listed.setIfInBounds i true):=by
 intro j o ho hj e he hb
 by_cases hij:i=j
 ·subst hij
  obtain⟨_,o',ho',hall⟩:=mem_ready.1 hi
  rw[ho]at ho'
  injection ho' with ho'
  subst ho'
  exact getD_set_true (hall e he hb)
 ·rw[getD_set_ne false hij]at hj
  exact getD_set_true (h j o ho hj e he hb)
theorem SK {listed:Array Bool}(h:Closed ops listed):∀ (n j i:Nat),X4 ops n j i=true→(∀ o,ops[j]?=some o→∀ e∈o.after,Region.binds .any e=true→listed.getD e.on false=true)→listed.getD i false=true:=by
 intro n
 induction n with
 |zero=>intro j i hb;simp[X4]at hb
 |succ n ih =>
  intro j i hb hj
  unfold X4 at hb
  split at hb
  ·cases hb
  ·rename_i o ho
   rw[List.any_eq_true]at hb
   obtain⟨e,he,hbe⟩:=hb
   rw[Bool.and_eq_true,Bool.or_eq_true]at hbe
   obtain⟨hbind,hor⟩:=hbe
   have hl:=hj o ho e (by simpa using he) hbind
   rcases hor with hor|hor
   ·rw[←beq_iff_eq.1 hor];exact hl
   ·exact ih e.on i hor (fun o' ho' e' he' hb'=>h e.on o' ho' hl e' he' hb')
theorem Sr {listed:Array Bool}{i:Nat}(h:listed.getD i true=false):listed.getD i false=false:=by
 rcases Nat.lt_or_ge i listed.size with h'|h'
 ·simp[h']at h ⊢;exact h
 ·simp[Array.getElem?_eq_none h']at h
theorem Zkc (hfr:W7 call){b i:Nat}{oi:Oper}(hi:ops[i]?=some oi):∀ (n:Nat) (listed:Array Bool) (s s1 r:St),b+WB C ops ops.size≤s.2.length→Closed ops listed →
 (∀ j oj,ops[j]?=some oj→j≠i→listed.getD j true=false→X4 ops ops.size j i=true∨(oi.apart ops oj=true∧(Wm C ops j=true∨(Wm C ops j=false∧ZeN C (YV C ops i) (YV C ops j) oi.op oj.op)))) →
 i∈Region.ready .any ops listed→XD C call ops true b i oi s=some s1→Any C call ops b n (listed.setIfInBounds i true) s1 r→Any C call ops b (n+1) listed s r:=by
 intro n
 induction n with
 |zero =>
  intro listed s s1 r _ _ _ hr hs H
  refine⟨fun h=>(by rw[h]at hr;cases hr),fun j hj=>?_⟩
  by_cases hji:j=i
  ·subst hji;exact⟨oi,s1,hi,hs,H⟩
  ·have:=ready_mono hj hji
   rw[H.1]at this
   cases this
 |succ n ih =>
  intro listed s s1 r hlen hcl hfree hr hs H
  refine⟨fun h=>(by rw[h]at hr;cases hr),fun j hj=>?_⟩
  by_cases hji:j=i
  ·subst hji;exact⟨oi,s1,hi,hs,H⟩
  ·obtain⟨oj,s12,hoj,hsj,Hj⟩:=H.2 j (ready_mono hj hji)
   obtain⟨hjun,oj',hoj',hall⟩:=mem_ready.1 hj
   rw[hoj]at hoj'
   injection hoj' with hoj'
   subst hoj'
   rcases hfree j oj hoj hji hjun with hb|⟨hap,hco⟩
   ·exfalso
    have h1:=SK hcl ops.size j i hb (fun o ho e he hbd=>by rw[hoj]at ho;injection ho with ho;subst ho;exact hall e he hbd)
    rw[Sr (mem_ready.1 hr).1]at h1
    cases h1
   ·obtain⟨s2,h2,h3⟩:=Zjs hfr hi hoj hlen hap hco hs hsj
    refine⟨oj,s2,hoj,h2,ih (listed.setIfInBounds j true) s2 s12 r (Nat.le_trans hlen (Zdv hfr h2)) (hcl.set hj) (fun k ok hk hki hun=>hfree k ok hk hki ?_) (ready_mono hr (Ne.symm hji)) h3 ?_⟩
    ·by_cases hjk:j=k
     ·subst hjk;exact hjun
     ·rw[getD_set_ne true hjk]at hun;exact hun
    ·rw[Array.setIfInBounds_comm _ _ hji]
     exact Hj
theorem ZkE {i j:Nat}{oi oj:Oper}(hij:i<j)(hi:ops[i]?=some oi)(hj:ops[j]?=some oj)(hne:j≠i)(h1:X4 ops ops.size i j=false)(h2:X4 ops ops.size j i=false):Wm C ops j=true∨(Wm C ops j=false∧ZeN C (YV C ops i) (YV C ops j) oi.op oj.op):=by
 cases hlag:Wm C ops j with
 |true=>exact .inl rfl
 |false =>
 refine .inr ⟨rfl,?_⟩
 by_cases hfr:ZP C oi.op≤1∧JH oj.op=true
 ·exact .inr (.inr (.inr hfr))
 by_cases hc:Zb8 C oi.op oj.op=true
 ·have hil:i<ops.size:=(Array.getElem?_eq_some_iff.1 hi).1
  have hjl:j<ops.size:=(Array.getElem?_eq_some_iff.1 hj).1
  have hor:ZP C oi.op≤1∨2≤ZP C oi.op:=by omega
  have hfl:∀ (i j:Nat) (oi oj:Oper),ops[i]?=some oi→ops[j]?=some oj→j≠i→j<ops.size→X4 ops ops.size i j=false→X4 ops ops.size j i=false→Zb8 C oi.op oj.op=true→(ZP C oi.op≤1∨2≤ZP C oj.op)→¬ (ZP C oi.op≤1∧JH oj.op=true∧i<j)→¬ (i<j∧Wm C ops j=true)→¬ (j<i∧Wm C ops i=true)→YV C ops i=true:=by
   intro i j oi oj hi hj hne hjl h1 h2 hc ho hnf hg1 hg2
   unfold YV
   simp only[hi]
   rw[List.any_eq_true]
   refine⟨j,List.mem_range.2 hjl,?_⟩
   have hnf2:(decide (ZP C oi.op≤1)&&JH oj.op&&decide (i<j))=false:=by
    rw[Bool.eq_false_iff]
    intro e
    simp only[Bool.and_eq_true,decide_eq_true_eq]at e
    exact hnf ⟨e.1.1,e.1.2,e.2⟩
   have hg1':(decide (i<j)&&Wm C ops j)=false:=by
    rw[Bool.eq_false_iff]
    intro e
    simp only[Bool.and_eq_true,decide_eq_true_eq]at e
    exact hg1 e
   have hg2':(decide (j<i)&&Wm C ops i)=false:=by
    rw[Bool.eq_false_iff]
    intro e
    simp only[Bool.and_eq_true,decide_eq_true_eq]at e
    exact hg2 e
   simp only[hj,hc,h1,h2,hnf2,hg1',hg2',bne_iff_ne,ne_eq,hne,not_false_eq_true,Bool.true_and,Bool.not_false,Bool.and_true,Bool.and_eq_true,Bool.or_eq_true,decide_eq_true_eq]
   exact⟨trivial,ho⟩
  by_cases ha:ZP C oi.op≤1∨2≤ZP C oj.op
  ·exact .inl (.inr (hfl i j oi oj hi hj hne hjl h1 h2 hc ha (fun e=>hfr ⟨e.1,e.2.1⟩) (fun e=>by rw[hlag]at e;cases e.2) (fun e=>by omega)))
  ·refine .inr (.inl (.inr (hfl j i oj oi hj hi (Ne.symm hne) hil h2 h1 ?_ (.inl (by omega)) (fun e=>by omega) (fun e=>by omega) (fun e=>by rw[hlag]at e;cases e.2))))
   unfold Zb8 at hc ⊢
   rw[Bool.or_comm (decide (ZP C oj.op=0)),Bool.and_comm (Md C oj.op)]
   exact hc
 ·unfold Zb8 at hc
  simp only[Bool.not_eq_true',Bool.not_eq_false,Bool.or_eq_true,decide_eq_true_eq,Bool.and_eq_true]at hc
  rcases hc with (h|h)|h
  ·exact .inl (.inl h)
  ·exact .inr (.inl (.inl h))
  ·exact .inr (.inr (.inl h))
theorem Zft (h:QG ops=true):Region.noSelect ops=true∧∀ k o,ops[k]?=some o→(∀ e∈o.after,Region.binds .any e=true→e.on<k) ∧
 ∀ j oj,ops[j]?=some oj→k<j→X4 ops ops.size j k=true∨o.apart ops oj=true:=by
 unfold QG at h
 rw[Bool.and_eq_true,List.all_eq_true]at h
 refine⟨h.1,fun k o ho=>?_⟩
 have hkl:k<ops.size:=(Array.getElem?_eq_some_iff.1 ho).1
 have hk:=h.2 k (List.mem_range.2 hkl)
 simp only[ho,Bool.and_eq_true,List.all_eq_true]at hk
 refine⟨fun e he hb=>?_,fun j oj hj hkj=>?_⟩
 ·have:=hk.1 e (by simpa using he)
  simpa[hb]using this
 ·have hjl:j<ops.size:=(Array.getElem?_eq_some_iff.1 hj).1
  have:=hk.2 j (List.mem_range.2 hjl)
  simp only[hj,Bool.or_eq_true,decide_eq_true_eq]at this
  rcases this with h'|h'
  ·omega
  ·exact h'
theorem Zgj (hfr:W7 call){b:Nat}(hok:QG ops=true):∀ (l:List Oper) (k:Nat) (listed:Array Bool) (s r:St),(∀ j,l[j]?=ops[k+j]?)→listed.size=ops.size→(∀ x,x<ops.size→listed.getD x false=decide (x<k))→k≤ops.size→b+WB C ops ops.size≤s.2.length →
 Yb C call ops true b k l s=some r→Any C call ops b l.length listed s r:=by
 obtain⟨hns,hspec⟩:=Zft hok
 intro l
 induction l with
 |nil =>
  intro k listed s r hl hsz hlist hk hlen h
  simp[Yb]at h
  refine⟨?_,h⟩
  rw[List.eq_nil_iff_forall_not_mem]
  intro i hi
  obtain⟨h1,o,ho,_⟩:=mem_ready.1 hi
  have hil:i<ops.size:=(Array.getElem?_eq_some_iff.1 ho).1
  have hkl:ops.size≤k:=by
   have:=hl 0
   simp at this
   exact this
  have:=hlist i hil
  rw[Sr h1]at this
  simp at this
  omega
 |cons o l ih =>
  intro k listed s r hl hsz hlist hk hlen h
  have h0:ops[k]?=some o:=by simpa using (hl 0).symm
  have hkl:k<ops.size:=(Array.getElem?_eq_some_iff.1 h0).1
  unfold Yb at h
  split at h
  ·rename_i s' hs'
   have hcl:Closed ops listed:=by
    intro j oj hj hjl e he hb
    have hjl':j<ops.size:=(Array.getElem?_eq_some_iff.1 hj).1
    rw[hlist j hjl']at hjl
    have:=(hspec j oj hj).1 e he hb
    rw[hlist e.on (by omega)]
    simp at hjl ⊢
    omega
   have hready:k∈Region.ready .any ops listed:=by
    rw[mem_ready]
    refine⟨?_,o,h0,fun e he hb=>?_⟩
    ·have:=hlist k hkl
     simp at this
     have hk':k<listed.size:=by omega
     simp[hk']at this ⊢
     exact this
    ·have:=(hspec k o h0).1 e he hb
     rw[hlist e.on (by omega)]
     simpa using this
   refine Zkc hfr h0 l.length listed s s' r hlen hcl (fun j oj hj hjk hun=>?_) hready hs' (ih (k+1) _ s' r (fun j=>by have:=hl (j+1);simpa[Nat.add_assoc,Nat.add_comm 1 j]using this) (by simpa using hsz) (fun x hx=>?_) (by omega) (Nat.le_trans hlen (Zdv hfr hs')) h)
   ·have hjl:j<ops.size:=(Array.getElem?_eq_some_iff.1 hj).1
    have hkj:k<j:=by
     have:=hlist j hjl
     rw[Sr hun]at this
     simp at this
     omega
    rcases (hspec k o h0).2 j oj hj hkj with hb|hap
    ·exact .inl hb
    ·by_cases hb:X4 ops ops.size j k=true
     ·exact .inl hb
     ·refine .inr ⟨hap,ZkE hkj h0 hj hjk ?_ (by simpa using hb)⟩
      cases hbb:X4 ops ops.size k j with
      |false=>rfl
      |true =>
       exfalso
       have:=SK hcl ops.size k j hbb (fun o' ho' e he hb'=>by
        rw[h0]at ho'
        injection ho' with ho'
        subst ho'
        have:=(hspec k o h0).1 e he hb'
        rw[hlist e.on (by omega)]
        simpa using this)
       rw[Sr hun]at this
       cases this
   ·by_cases hxk:k=x
    ·subst hxk
     have hk':k<listed.size:=by omega
     simp[hk']
    ·rw[getD_set_ne false hxk,hlist x hx]
     simp
     omega
  ·cases h
end
end Go.Am
