/- THE ABSTRACT MACHINE -/
import Derived.Test.YtjmhpjoedfegkaaGreatDoorHmFrx
open Option renaming some->O,none->J
open Bool renaming true->K,false->Q
open List renaming getElem?_set_ne->zE,getElem?_append_left->zF,getD_eq_getElem?_getD->zH,all_eq_true->zI,map_congr_left->zO,mem_range->zS,set_comm->zT,range->zU,mem_filterMap->zX,any_eq_true->zZ,nil_append->yA,append_nil->yB
open Nat renaming ne_of_beq_eq_false->zR,le_trans->yD
open Bool renaming and_eq_true->zD,or_eq_true->zG,false_eq_true->zK,not_eq_true'->zL,eq_false_iff->zQ,and_self->zV,and_comm->zW,or_comm->zY,false_and->yC
open Option renaming isSome_iff_exists->zJ,isNone_iff_eq_none->zP
open Array renaming getElem?_eq_some_iff->zC,mem_of_getElem?->zM,mem_toList_iff->zN
open Option.some renaming injEq->zA
open Prod.mk renaming injEq->zB
open List.Sublist renaming countP_le->yE
namespace Go.Am
open RowKit
section
variable {C:Cfg}{call:ZQ}{ops:Array Oper}
theorem Pp {ev j:Operand->AV}{xs:Array Operand}(h:∀ x∈xs,ev x=j x):xs.toList.map ev=xs.toList.map j :=
 zO λx u=>h x (by simpa using u)
theorem Al {ev j:Operand->AV}{x:Option Operand}(h:∀ y∈x.toArray,ev y=j y):x.map ev=x.map j:=by
 cases x with
 |none=>rfl
 |some y=>simp[h y dh]
theorem Zoq {ev u:Operand->AV}{op:Op}(h:∀ x∈op.operands,ev x=u x):Yc C ev op=Yc C u op:=by
 cases op <;> simp only[Op.operands]at h
 case call c =>
  obtain⟨callee,args,argTypes⟩:=c
  cases callee with
  |value f=>rfl
  |invoke r m=>rfl
  |builtin b =>
   have B:∀ x∈args,ev x=u x:=λx z=>h x (by simp[Call.operands,z]);cases b <;> try rfl
   case len =>
    simp only[Yc];split
    ·rename_i j _;obtain rfl:=Q5 j;simp[B]
    ·rfl
   all_goals
    simp only[Yc];split
    ·rename_i j;obtain rfl:=XI j;simp[B]
    ·rfl
 case build t ps =>
  have:(ps.toList.map λp=>(p.1,ev p.2))=ps.toList.map λp=>(p.1,u p.2):=zO λp A=>by
   rw[h p.2 (by simp;exact⟨p.1,by simpa using A⟩)]
  simp only[Yc,this]
 case buildSlice t n ps =>
  have:(ps.toList.map λp=>(p.1,ev p.2))=ps.toList.map λp=>(p.1,u p.2):=zO λp A=>by
   rw[h p.2 (by simp;exact⟨p.1,by simpa using A⟩)]
  simp only[Yc,this]
 case makeFunc fn first captured =>
  cases fn <;> simp only[Yc]
  rw[Pp (xs:=first) (λx z=>h x (by simp[z])),Pp (xs:=captured) (λx z=>h x (by simp[z]))]
 case slice t x lo hi mx =>
  simp only[Yc];rw[h x dh,Al (x:=lo) (λy w=>h y (by simp at w ⊢;simp[w])),Al (x:=hi) (λy w=>h y (by simp at w ⊢;simp[w])),Al (x:=mx) (λy w=>h y (by simp at w ⊢;simp[w]))]
 all_goals first
  |rfl
  |(simp only[Yc];simp[h])
theorem Zok {ev u:Operand->AV}{H:Hp}{op:Op}(h:∀ x∈op.operands,ev x=u x):ZP C call ev H op=ZP C call u H op:=by
 cases op <;> simp only[Op.operands]at h
 case call c =>
  obtain⟨callee,args,argTypes⟩:=c
  cases callee with
  |value f =>
   simp only[ZP];rw[h f (by simp[Call.operands]),Pp (xs:=args) (λx w=>h x (by simp[Call.operands,w]))]
  |invoke r m =>
   simp only[ZP];rw[h r (by simp[Call.operands]),Pp (xs:=args) (λx w=>h x (by simp[Call.operands,w]))]
  |builtin b =>
   have y:∀ x∈args,ev x=u x:=λx w=>h x (by simp[Call.operands,w]);cases b <;> try rfl
   all_goals
    simp only[ZP];split
    ·rename_i j z
     first
      |(obtain rfl:=XI j;simp[y])
      |(obtain rfl:=Q5 j;simp[y])
    ·rfl
 case makeMap t r=>cases r <;> rfl
 all_goals first
  |rfl
  |(simp only[ZP];simp[h])
theorem ZsD {ev j:Operand->AV}{H:Hp}{fl:Bool}{op:Op}(h:∀ x∈op.operands,ev x=j x):Xi C call ev H fl op=Xi C call j H fl op:=by
 unfold Xi;rw[Zoq h,Zok h]
theorem ZhT {tm tm':du}{o:Oper}(h:∀ t∈o.looksAt ops,tm[t]?=tm'[t]?):∀ x∈o.op.operands,eval C tm x=eval C tm' x:=by
 intro x j
 cases x with
 |tmp t =>
  simp only[eval,zH];rw[h t];unfold Oper.looksAt;rw[List.mem_append];left;rw[zX];exact⟨.tmp t,by simpa using j,rfl⟩
 |_=>rfl
theorem Zlr {tm tm':du}{o:Oper}(h:∀ t∈o.looksAt ops,tm[t]?=tm'[t]?):WP ops tm o=WP ops tm' o:=by
 unfold WP
 cases y:o.guard with
 |none=>rfl
 |some p =>
  obtain⟨j,u⟩:=p;simp only
  cases z:ops[j]? with
  |none=>rfl
  |some g =>
   simp only
   cases w:g.dst with
   |none=>rfl
   |some d =>
    simp only;rw[h d];unfold Oper.looksAt;simp[y,z,w]
theorem Zrs {tm tm':du}{o:Oper}{fl:Bool}{H:Hp}(h:∀ t∈o.looksAt ops,tm[t]?=tm'[t]?):YA C call ops fl o tm H=YA C call ops fl o tm' H:=by
 unfold YA;rw[Zlr h,ZsD (ZhT h)]
theorem ZkG {tm:du}{o:Oper}{j:Option Tmp}{v:AV}(h:∀ d,j=O d->d∉o.looksAt ops):∀ t∈o.looksAt ops,(Xk tm j v)[t]?=tm[t]?:=by
 intro t u
 cases j with
 |none=>rfl
 |some d =>
  have:d≠t:=λe=>h d rfl (e ▸ u);simp[Xk,zE this]
theorem Zbf {id:FuncId}{args:du}{H H':Hp}{v:AV}(A:ZcL C id=K)(h:XR C call id args H=O (v,H')):H'=H/\∀ y,XR C call id args y=O (v,y):=by
 unfold XR at h ⊢
 cases w:C.ext id with
 |some e =>
  simp only[w]at h ⊢;unfold iL at h ⊢
  cases j:ZmX e args with
  |none=>simp[j]at h
  |some u =>
   simp only[j,zA,zB]at h ⊢;obtain⟨rfl,rfl⟩:=h;simp
 |none =>
  cases F:C.sum id with
  |some g =>
   simp only[w,F]at h ⊢;unfold kR at h ⊢
   cases j:g args with
   |none=>simp[j]at h
   |some u =>
    simp only[j,zA,zB]at h ⊢;obtain⟨rfl,rfl⟩:=h;simp
  |none =>
  unfold ZcL at A;simp only[w,F,Option.isSome_none,Bool.false_or,zD,zP]at A;obtain⟨⟨B,D⟩,E⟩:=A;simp only[w,F,B,D,E,if_true]at h ⊢;unfold Ze at h ⊢;split at h
  ·rename_i z M;split at h
   ·rename_i N H1 G;split at h
    ·rename_i P L;simp only[zA,zB]at h;obtain⟨rfl,rfl⟩:=h;exact⟨rfl,λy=>rfl⟩
    ·cases h
   ·cases h
  ·cases h
theorem ZmG {x:AV}{H H':Hp}{v:AV}(h:Bg x H=O (v,H')):H'=H:=by
 unfold Bg at h;split at h
 ·split at h
  ·simp only[zA,zB]at h;exact h.2.symm
  ·cases h
 ·cases h
theorem ZqJ {k:Nat}{x:AV}{H:Hp}{v:du}(h:elems k x H=O v)(l:Hp):elems k x (H++l)=O v:=by
 cases x with
 |rs ag k' o off len cap =>
  unfold elems at h ⊢;simp only at h ⊢;split at h
  ·rename_i u;rw[if_pos u];split at h
   ·rename_i w j;rw[zF (Zq j),j];exact h
   ·cases h
  ·cases h
 |ws ag k' o e len =>
  unfold elems at h ⊢;simp only at h ⊢;split at h
  ·rename_i u;rw[if_pos u];split at h
   ·rename_i y w j;rw[zF (Zq j),j];exact h
   ·cases h
  ·cases h
 |_=>exact h
theorem ZoD {x:AV}{H H':Hp}{v:AV}(h:Bg x H=O (v,H'))(l:Hp):Bg x (H++l)=O (v,H++l):=by
 unfold Bg at h ⊢;split at h
 ·rename_i xs j
  have:Qm x (H++l)=O xs:=by
   unfold Qm at j ⊢;split at j
   ·cases j
   ·exact ZqJ j l
  rw[this];split at h
  ·rename_i s u;simp only[zA,zB]at h;simp only[u,h.1]
  ·cases h
 ·cases h
theorem Zbl {ev:Operand->AV}(D:∀ f,ev (.func f)=.fn (.func f) [] []){H H':Hp}{fl:Bool}{op:Op}{v:AV}(y:Yg C op=0\/fl=K)(h:Xi C call ev H fl op=O (v,H')):H'=H/\∀ B,Xi C call ev B fl op=O (v,B):=by
 unfold Xi at h ⊢;split at h
 ·rename_i v' F;simp only[zA,zB]at h;obtain⟨rfl,rfl⟩:=h;exact⟨rfl,λB=>rfl⟩
 ·split at h
  ·cases h
  ·rename_i z
   have j:Yg C op=0:=by
    rcases y with y|y
    ·exact y
    ·exact absurd y z
   simp only[z]
   cases op with
   |call c =>
    obtain⟨callee,args,argTypes⟩:=c
    cases callee with
    |value f =>
     cases f with
     |func id =>
      have u:ZcL C id=K:=by
       cases u:ZcL C id with
       |true=>rfl
       |false=>simp[Yg,u]at j
      simp only[ZP,jV,YJ,D,yA,yB,zK,if_false]at h ⊢;exact Zbf u h
     |tmp t =>
      have u:jV C (.tmp t) args=K:=by
       cases u:jV C (.tmp t) args with
       |true=>rfl
       |false=>simp[Yg,u]at j
      simp only[ZP,u,if_true]at h ⊢;unfold XS qC at h ⊢;split at h
      ·rename_i id first w E
       split at h
       ·rename_i A;simp only[if_pos A,zK,if_false];exact Zbf A h
       ·cases h
      ·cases h
     |_=>simp[Yg,jV]at j
    |invoke r m=>simp[Yg]at j
    |builtin b=>cases b <;> first|(simp[Yg]at j;done)|(simp[ZP]at h;done)
   |convert s d x=>simp only[Yg]at j;split at j <;> cases j
   |_=>first|(simp[Yg]at j;done)|(simp[ZP]at h;done)
theorem ZsF {ev:Operand->AV}(A:∀ f,ev (.func f)=.fn (.func f) [] []){H H':Hp}{fl:Bool}{op:Op}{v:AV}(w:Yg C op<=1\/fl=K)(h:Xi C call ev H fl op=O (v,H')):H'=H:=by
 by_cases y:Yg C op=0\/fl=K
 ·exact (Zbl A y h).1
 ·have u:Yg C op=1:=by
   rcases w with w|w
   ·have:Yg C op≠0:=λe=>y (.inl e);omega
   ·exact absurd (.inr w) y
  unfold Xi at h;split at h
  ·simp only[zA,zB]at h;exact h.2.symm
  ·split at h
   ·cases h
   ·cases op with
    |load t a =>
     simp only[ZP]at h;split at h
     ·rename_i g sz _ _
      cases j:Z4 g sz (ev a) H with
      |none=>simp[j]at h
      |some r=>simp[j]at h;exact h.2.symm
     ·cases h
    |lookup t x k B =>
     simp only[ZP]at h;split at h
     ·rename_i d e _;split at h
      ·rename_i z _
       cases j:Yj d z B (ev x) (ev k) H with
       |none=>simp[j]at h
       |some r=>simp[j]at h;exact h.2.symm
      ·cases h
     ·cases h
    |call c =>
     obtain⟨callee,args,argTypes⟩:=c
     cases callee with
     |value f=>exfalso;cases f <;> simp only[Yg]at u <;> split at u <;> omega
     |invoke r m=>simp[Yg]at u
     |builtin b =>
      cases b <;> first|(simp[Yg]at u;done)|skip
      simp only[ZP]at h;split at h
      ·rename_i x t _ _;split at h
       ·cases j:K7 (ev x) H with
        |none=>simp[j]at h
        |some r=>simp[j]at h;exact h.2.symm
       ·cases h
      ·cases h
    |convert s d x =>
     have hw:C.wrb d=Q:=by
      cases hw:C.wrb d with
      |false=>rfl
      |true=>simp[Yg,hw]at u
     simp only[ZP,hw,yC]at h;split at h
     ·split at h
      ·exact ZmG h
      ·cases h
     ·cases h
     ·cases h
    |_=>first|(simp[Yg]at u;done)|(simp[ZP]at h;done)
theorem Zsv {id:FuncId}{args:du}{H H':Hp}{v:AV}(j:C.ro id=K)(u:C.flat id=Q)(w:C.ext id=J)(y:C.sum id=J)(z:C.eff id=J)(h:XR C call id args H=O (v,H')):H'=H:=by
 unfold XR at h;simp only[j,u,w,y,z,zK,if_false,if_true]at h;split at h
 ·unfold Ve at h;split at h
  ·split at h
   ·split at h
    ·simp only[zA,zB]at h;exact h.2.symm
    ·cases h
   ·cases h
  ·cases h
 ·cases h
theorem ZzD {ev:Operand->AV}(u:∀ f,ev (.func f)=.fn (.func f) [] []){H H':Hp}{fl:Bool}{op:Op}{v:AV}(j:ZnP C op=K)(h:Xi C call ev H fl op=O (v,H')):H'=H:=by
 unfold Xi at h;split at h
 ·simp only[zA,zB]at h;exact h.2.symm
 ·split at h
  ·cases h
  ·unfold ZnP at j;split at j
   ·simp only[zD,zL,zP]at j;obtain⟨⟨⟨⟨w,y⟩,z⟩,A⟩,B⟩:=j;simp only[ZP,jV,YJ,u,yA,yB,zK,if_false]at h;exact Zsv w y z A B h
   ·cases j
theorem Zpk {op:Op}(h:Ja op=K):ZnP C op=Q:=by
 cases op <;> first|rfl|(simp[Ja]at h;done)
theorem jP {o:Oper}{fl:Bool}{tm:du}{H H':Hp}{v:AV}(y:Yg C o.op=0\/fl=K)(h:YA C call ops fl o tm H=O (v,H')):H'=H/\∀ j,YA C call ops fl o tm j=O (v,j):=by
 unfold YA at h ⊢;split at h
 ·cases h
 ·rename_i hw;simp only[zA,zB]at h;obtain⟨rfl,rfl⟩:=h;exact⟨rfl,λj=>rfl⟩
 ·rename_i hw;obtain⟨u,w⟩:=Zbl (λ_=>rfl) y h;exact⟨u,λj=>w j⟩
theorem Zim {o:Oper}{fl:Bool}{tm:du}{H H':Hp}{v:AV}(j:Yg C o.op<=1\/fl=K)(h:YA C call ops fl o tm H=O (v,H')):H'=H:=by
 unfold YA at h;split at h
 ·cases h
 ·simp only[zA,zB]at h;exact h.2.symm
 ·exact ZsF (λ_=>rfl) j h
theorem Zz1 {o:Oper}{fl:Bool}{tm:du}{H H':Hp}{v:AV}(j:ZnP C o.op=K)(h:YA C call ops fl o tm H=O (v,H')):H'=H:=by
 unfold YA at h;split at h
 ·cases h
 ·simp only[zA,zB]at h;exact h.2.symm
 ·exact ZzD (λ_=>rfl) j h
theorem Zey {o:Oper}{fl:Bool}{tm:du}{H H':Hp}{v:AV}(j:Ot C o.op=K)(h:YA C call ops fl o tm H=O (v,H')):H'=H:=by
 unfold Ot at j;rw[zG,decide_eq_true_eq]at j;rcases j with j|j
 ·exact Zim (.inl j) h
 ·exact Zz1 j h
theorem ZsH {tm:du}{x y:Option Tmp}{v u:AV}(h:∀ d,x=O d->y≠O d):Xk (Xk tm x v) y u=Xk (Xk tm y u) x v:=by
 cases x with
 |none=>rfl
 |some d =>
  cases y with
  |none=>rfl
  |some e =>
   have j:d≠e:=λw=>h d rfl (w ▸ rfl);simp only[Xk];exact zT _ _ j
theorem Zqh {g:Bool}{sz:Nat}{a:AV}{H:Hp}{v:AV}(h:Z4 g sz a H=O v)(l:Hp):Z4 g sz a (H++l)=O v:=by
 cases a with
 |ptr o off =>
  unfold Z4 at h ⊢;simp only at h ⊢;split at h
  ·rename_i c j;rw[zF (Zq j),j];exact h
  ·cases h
 |wp o e off =>
  unfold Z4 at h ⊢;simp only at h ⊢;split at h
  ·rename_i u c j;rw[zF (Zq j),j];exact h
  ·cases h
 |_=>exact h
theorem Zbu {x:AV}{H:Hp}{v:List (AV×AV×Nat)}(h:Xs x H=O v)(l:Hp):Xs x (H++l)=O v:=by
 cases x with
 |map o =>
  unfold Xs at h ⊢;simp only at h ⊢;split at h
  ·rename_i c k j;rw[zF (Zq j),j];exact h
  ·cases h
 |_=>exact h
theorem Zmr {d:TypeDesc}{z:AV}{u:Bool}{x k:AV}{H:Hp}{v:AV}(h:Yj d z u x k H=O v)(l:Hp):Yj d z u x k (H++l)=O v:=by
 unfold Yj at h ⊢
 cases j:Xs x H with
 |none=>simp[j]at h
 |some w=>rw[Zbu j l];rw[j]at h;exact h
theorem Zqd {x:AV}{H:Hp}{v:AV}(h:K7 x H=O v)(l:Hp):K7 x (H++l)=O v:=by
 unfold K7 at h ⊢
 cases j:Xs x H with
 |none=>simp[j]at h
 |some u=>rw[Zbu j l];rw[j]at h;exact h
theorem ZvO {ev:Operand->AV}(y:∀ f,ev (.func f)=.fn (.func f) [] []){H H':Hp}{fl:Bool}{op:Op}{v:AV}(E:Yg C op<=1)(h:Xi C call ev H fl op=O (v,H'))(l:Hp):Xi C call ev (H++l) fl op=O (v,H++l):=by
 by_cases w:Yg C op=0\/fl=K
 ·exact (Zbl y w h).2 _
 ·have u:Yg C op=1:=by
   have:Yg C op≠0:=λe=>w (.inl e);omega
  have A:¬ fl=K:=λe=>w (.inr e);unfold Xi at h ⊢;split at h
  ·rename_i v' F;simp only[zA,zB]at h;obtain⟨rfl,rfl⟩:=h;rfl
  ·rw[if_neg A]at h ⊢
   cases op with
   |load t a =>
    simp only[ZP]at h ⊢;split at h
    ·rename_i g sz _ _
     cases j:Z4 g sz (ev a) H with
     |none=>simp[j]at h
     |some r =>
      simp[j]at h;obtain⟨rfl,rfl⟩:=h;simp[Zqh j l]
    ·cases h
   |lookup t x k B =>
    simp only[ZP]at h ⊢;split at h
    ·rename_i d e _;split at h
     ·rename_i z _
      cases j:Yj d z B (ev x) (ev k) H with
      |none=>simp[j]at h
      |some r =>
       simp[j]at h;obtain⟨rfl,rfl⟩:=h;simp[Zmr j l]
     ·cases h
    ·cases h
   |call c =>
    obtain⟨callee,args,argTypes⟩:=c
    cases callee with
    |value f=>exfalso;cases f <;> simp only[Yg]at u <;> split at u <;> omega
    |invoke r m=>simp[Yg]at u
    |builtin b =>
     cases b <;> first|(simp[Yg]at u;done)|skip
     simp only[ZP]at h ⊢;split at h
     ·rename_i x t _ _;split at h
      ·cases j:K7 (ev x) H with
       |none=>simp[j]at h
       |some r =>
        simp[j]at h;obtain⟨rfl,rfl⟩:=h;simp[Zqd j l]
      ·cases h
     ·cases h
   |convert s d x =>
    have hw:C.wrb d=Q:=by
     cases hw:C.wrb d with
     |false=>rfl
     |true=>simp[Yg,hw]at u
    simp only[ZP,hw,yC]at h ⊢;split at h
    ·split at h
     ·rename_i D;simp only[D,if_true];exact ZoD h l
     ·cases h
    ·cases h
    ·cases h
   |_=>first|(simp[Yg]at u;done)|(simp[ZP]at h;done)
theorem Zui {o:Oper}{fl:Bool}{tm:du}{H H':Hp}{v:AV}(j:Yg C o.op<=1)(h:YA C call ops fl o tm H=O (v,H'))(l:Hp):YA C call ops fl o tm (H++l)=O (v,H++l):=by
 unfold YA at h ⊢;split at h
 ·cases h
 ·simp only[zA,zB]at h;obtain⟨rfl,rfl⟩:=h;rfl
 ·exact ZvO (λ_=>rfl) j h l
theorem Zrt {o:Oper}{fl:Bool}{tm:du}{H H':Hp}{v:AV}(j:Ja o.op=K)(h:YA C call ops fl o tm H=O (v,H')):∃ l,H'=H++l:=by
 unfold YA at h;split at h
 ·cases h
 ·simp only[zA,zB]at h;exact⟨[],by rw[<-h.2];simp⟩
 ·unfold Xi at h;split at h
  ·simp only[zA,zB]at h;exact⟨[],by rw[<-h.2];simp⟩
  ·split at h
   ·cases h
   ·generalize o.op=op at j h
    cases op with
    |alloc e =>
     simp only[ZP]at h;split at h
     ·split at h
      ·split at h
       ·simp only[zA,zB]at h;exact⟨_,h.2.symm⟩
       ·cases h
      ·split at h
       ·simp only[zA,zB]at h;exact⟨_,h.2.symm⟩
       ·cases h
     ·cases h
    |box e x =>
     simp only[ZP]at h;unfold ZY at h;split at h
     ·simp only[zA,zB]at h;exact⟨_,h.2.symm⟩
     ·cases h
    |makeMap t r =>
     cases r with
     |none =>
      simp only[ZP,zA,zB]at h;exact⟨_,h.2.symm⟩
     |some r=>simp[Ja]at j
    |_=>simp[Ja]at j
def ZmD (C:Cfg)(h j:Bool)(x y:Op):Prop:=(Yg C x=0\/h=K)\/(Yg C y=0\/j=K)\/(Ot C x=K/\Ot C y=K)\/(Yg C x<=1/\Ja y=K)\/Ox C x y=K\/ZbB C x y=K
def isK (k:Nat)(x:AObj):Bool :=
 match k,x with
 |1,.row _ _=>K
 |2,.cells _=>K
 |_,_=>Q
theorem ZsI {k sz:Nat}{a v r:AV}{H H':Hp}(E:k=1\/k=2)(F:stV k a=K)(h:Zg sz a v H=O (r,H')) :
 ∃ (o:Nat) (x y:AObj),H[o]?=O x/\isK k x=K/\isK k y=K/\H'=H.set o y/\∀ u:Hp,u[o]?=O x->Zg sz a v u=O (r,u.set o y):=by
 unfold Zg at h;split at h
 ·rename_i H1 j;simp only[zA,zB]at h;obtain⟨rfl,rfl⟩:=h;unfold YE at j;split at j
  ·rename_i o off
   have B:k=2:=by
    rcases E with rfl|rfl
    ·cases F
    ·rfl
   subst B;split at j
   ·rename_i l D;split at j
    ·rename_i z;injection j with j;subst j;exact⟨o,_,_,D,rfl,rfl,rfl,λu w=>by unfold Zg YE;simp only[w];rw[if_pos z]⟩
    ·cases j
   ·cases j
  ·rename_i o e off
   have A:k=1:=by
    rcases E with rfl|rfl
    ·rfl
    ·cases F
   subst A;split at j
   ·rename_i G l D;split at j
    ·rename_i z;injection j with j;subst j;exact⟨o,_,_,D,rfl,rfl,rfl,λu w=>by unfold Zg YE;simp only[w];rw[if_pos z]⟩
    ·cases j
   ·cases j
  ·cases j
 ·cases h
theorem Zuh {o:Oper}{fl:Bool}{tm:du}{H H':Hp}{v:AV}{k:Nat}(M:k=1\/k=2)(u:stC C o.op=k)(h:YA C call ops fl o tm H=O (v,H')) :
 (H'=H/\∀ j,YA C call ops fl o tm j=O (v,j)) \/
 ∃ (q:Nat) (x y:AObj),H[q]?=O x/\isK k x=K/\isK k y=K/\H'=H.set q y/\∀ j:Hp,j[q]?=O x->YA C call ops fl o tm j=O (v,j.set q y):=by
 unfold YA at h ⊢;split at h
 ·cases h
 ·rename_i hw;simp only[zA,zB]at h;obtain⟨rfl,rfl⟩:=h;exact .inl ⟨rfl,λj=>rfl⟩
 ·rename_i hw
  obtain⟨t,a,x,z⟩:∃ t a x,o.op=.store t a x:=by
   generalize o.op=op at u
   cases op with
   |store t a x=>exact⟨t,a,x,rfl⟩
   |_=>(have:k=0:=u.symm);omega
  rw[z]at u h ⊢;unfold Xi at h ⊢;have N:Yc C (eval C tm) (.store t a x)=J:=rfl;rw[N]at h ⊢;dsimp only at h ⊢;split at h
  ·cases h
  ·rename_i w;simp only[ZP]at h ⊢;split at h
   ·split at h
    ·rename_i A;rw[u]at A;obtain⟨q,P,R,B,D,E,F,G⟩:=ZsI M A h;rw[u];refine .inr ⟨q,P,R,B,D,E,F,λj L=>?_⟩;rw[if_neg w,if_pos A];exact G j L
    ·cases h
   ·cases h
theorem Zv7 {x:Op}(h:Ja x=K):stC C x=0:=by
 cases x <;> first|rfl|(simp[Ja]at h;done)
theorem Zxb {A B:Oper}{E F:Bool}{tm tm':du}{H H1 D:Hp}{v u:AV}(h:Ox C A.op B.op=K)(P:YA C call ops E A tm H=O (v,H1))(R:YA C call ops F B tm' H1=O (u,D)) :
 ∃ z,YA C call ops F B tm' H=O (u,z)/\YA C call ops E A tm z=O (v,D):=by
 have key:∀ k k',(k=1/\k'=2)\/(k=2/\k'=1)->stC C A.op=k->stC C B.op=k'->∃ z,YA C call ops F B tm' H=O (u,z)/\YA C call ops E A tm z=O (v,D):=by
  intro k k' L hi hj;have hk:k=1\/k=2:=b5
  have G:k'=1\/k'=2:=b5
  rcases Zuh hk hi P with ⟨rfl,ha⟩|⟨q,x,y,N,g2,g3,rfl,g5⟩
  ·exact⟨D,R,ha _⟩
  ·rcases Zuh G hj R with ⟨rfl,hb⟩|⟨p,x',S,w,T,f3,rfl,Z⟩
   ·exact⟨H,hb _,P⟩
   ·have j:q≠p:=by
     rintro rfl
     have M:q<H.length:=Zq N;rw[List.getElem?_set_self M]at w;injection w with w;subst w;rcases L with ⟨rfl,rfl⟩|⟨rfl,rfl⟩ <;> cases y <;> simp[isK]at g3 T
    rw[zE j]at w;refine⟨H.set p S,Z H w,?_⟩;rw[g5 (H.set p S) (by rw[zE j.symm];exact N),zT _ _ j]
 unfold Ox at h;simp only[zG,zD,decide_eq_true_eq]at h;rcases h with ⟨a,b⟩|⟨a,b⟩
 ·exact key 1 2 b5 a b
 ·exact key 2 1 b5 a b
def UY (C:Cfg)(call:ZQ)(ops:Array Oper)(draw:Bool)(b i:Nat)(o:Oper)(tm:du)(H:Hp):Option (AV×Hp) :=
 if draw&&Vs C ops i then (if XA C ops i then J else LS (b+Vt C ops i) (LW C (eval C tm) o.op) H) else YA C call ops (draw&&XA C ops i) o tm H
theorem Bo {draw:Bool}{b i:Nat}{o:Oper}{s:St}:Wb C call ops draw b i o s=match UY C call ops draw b i o s.1 s.2 with|some (v,H)=>O (Xk s.1 o.dst v,H)|none=>J:=by
 unfold Wb UY;by_cases h:(draw&&Vs C ops i)=K
 ·rw[if_pos h,if_pos h];by_cases j:XA C ops i=K
  ·rw[if_pos j,if_pos j]
  ·rw[if_neg j,if_neg j];rfl
 ·rw[if_neg h,if_neg h];rfl
theorem Zrg {ev j:Operand->AV}{op:Op}(h:∀ x∈op.operands,ev x=j x):LW C ev op=LW C j op:=by
 cases op <;> try rfl
 case makeMap t r=>cases r <;> rfl
 case box t x=>simp only[LW];rw[h x (by simp[Op.operands])]
theorem Ziu {draw:Bool}{b i:Nat}{tm tm':du}{o:Oper}{H:Hp}(h:∀ t∈o.looksAt ops,tm[t]?=tm'[t]?):UY C call ops draw b i o tm H=UY C call ops draw b i o tm' H:=by
 unfold UY;rw[Zrs h,Zrg (ZhT h)]
theorem Zyj (p:Nat)(u:Option AObj):Xr (LS p u):=by
 cases u with
 |none=>exact ZF
 |some l =>
  intro H v H' h;unfold LS at h;simp only at h;split at h
  ·rename_i A;split at h
   ·rename_i j;simp only[zA,zB]at h;obtain⟨rfl,rfl⟩:=h;refine⟨dh,λo B z=>?_⟩;obtain⟨w,y⟩:=Mx z (λe=>by rw[e]at j;cases j);refine⟨y,λx=>?_⟩;unfold LS;simp only;rw[zE w,A];simp only;rw[if_pos j,zT _ _ w]
   ·cases h
  ·cases h
theorem Zk0 (h:XQ call)(draw:Bool)(b i:Nat)(o:Oper)(tm:du):Xr (UY C call ops draw b i o tm):=by
 unfold UY;exact Yt _ (λ_=>Yt _ (λ_=>ZF) λ_=>Zyj _ _) λ_=>Zz0 h _ _ _ _
theorem ZpA {j n:Nat}(h:Vs C ops j=K)(y:j<n):Vt C ops j<Vt C ops n:=by
 unfold Vt
 have u:(zU (j+1)).countP (Vs C ops)=(zU j).countP (Vs C ops)+1:=by
  rw[List.range_succ,List.countP_append];simp[h]
 have w:(zU (j+1)).countP (Vs C ops)<=(zU n).countP (Vs C ops):=yE (List.range_sublist.2 b5);omega
theorem Lg {i:Nat}{o:Oper}(h:ops[i]?=O o)(j:Vs C ops i=K):Ja o.op=K/\o.guard=J:=by
 unfold Vs at j;simp only[h,zD]at j;exact⟨j.1.1,by simpa using j.1.2⟩
theorem Zpn {op:Op}(h:Ja op=K):Yg C op=2:=by
 cases op <;> first|rfl|(simp[Ja]at h;done)
theorem ZkV (u:XQ call){draw:Bool}{b i:Nat}{o:Oper}{s s':St}(h:Wb C call ops draw b i o s=O s'):s.2.length<=s'.2.length:=by
 rw[Bo]at h
 cases j:UY C call ops draw b i o s.1 s.2 with
 |none=>simp[j]at h
 |some p =>
  obtain⟨v,H⟩:=p;simp only[j,zA]at h;subst h;exact (Zk0 u draw b i o s.1 s.2 v H j).1
def FarAt (C:Cfg)(ops:Array Oper)(tm:du):Prop:=∀ (i j:Nat) (x y:Oper) (p:Nat×Nat),ops[i]?=O x->ops[j]?=O y->iN C x.op y.op=O p->Eb (eval C tm (.tmp p.1)) (eval C tm (.tmp p.2))=K
def ZpW (C:Cfg)(ops:Array Oper):Prop:=∀ (i j:Nat) (x y:Oper) (p:Nat×Nat),ops[i]?=O x->ops[j]?=O y->iN C x.op y.op=O p->Kj ops p.1=K/\Kj ops p.2=K
theorem Ztn {tm:du}(h:F9 C ops (eval C tm)=K):FarAt C ops tm/\ZpW C ops:=by
 have key:∀ (i j:Nat) (x y:Oper) (p:Nat×Nat),ops[i]?=O x->ops[j]?=O y->iN C x.op y.op=O p->p∈iM C ops:=by
  intro i j x y p hi w u;unfold iM
  cases z:C.far with
  |none=>unfold iN at u;rw[z]at u;cases u
  |some f =>
   dsimp only;rw[List.mem_flatMap];refine⟨x,by rw[zN];exact zM hi,?_⟩;rw[zX];exact⟨y,by rw[zN];exact zM w,u⟩
 unfold F9 RW ZqU at h;rw[zD,zI,zI]at h;refine⟨λi j x y p hi w u=>h.2 p (key i j x y p hi w u),λi j x y p hi w u=>?_⟩;have:=h.1 p (key i j x y p hi w u)
 rwa [zD]at this
theorem Znc {a k:Nat}{o:Oper}{tm:du}{v:AV}(h:Kj ops a=K)(w:ops[k]?=O o):eval C (Xk tm o.dst v) (.tmp a)=eval C tm (.tmp a):=by
 unfold Kj at h;rw[zI]at h;have:=h o (by rw[zN];exact zM w)
 cases u:o.dst with
 |none=>rfl
 |some d =>
  rw[u]at this;simp only[zL]at this;have j:=zR this;show (tm.set d v).getD a (.tuple [])=tm.getD a (.tuple []);rw[zH,zH,zE j]
theorem FarAt.put {tm:du}(h:FarAt C ops tm)(A:ZpW C ops){k:Nat}{o:Oper}{v:AV}(w:ops[k]?=O o):FarAt C ops (Xk tm o.dst v):=by
 intro i j x y p hi u z;obtain⟨B,k2⟩:=A i j x y p hi u z;rw[Znc B w,Znc k2 w];exact h i j x y p hi u z
theorem ZpG {o:Oper}{fl:Bool}{tm:du}{H H':Hp}{v:AV}{t a q off:Nat}(y:o.op=.load t (.tmp a))(z:eval C tm (.tmp a)=.ptr q off)(h:YA C call ops fl o tm H=O (v,H')) :
 H'=H/\∀ j:Hp,j[q]?=H[q]?->YA C call ops fl o tm j=O (v,j):=by
 unfold YA at h ⊢;split at h
 ·cases h
 ·rename_i hw;simp only[zA,zB]at h;obtain⟨rfl,rfl⟩:=h;exact⟨rfl,λj _=>rfl⟩
 ·rename_i hw;rw[y]at h ⊢;unfold Xi at h ⊢
  have B:Yc C (eval C tm) (.load t (.tmp a))=J:=by
   simp only[Yc,z,Xy];split <;> rfl
  rw[B]at h ⊢;dsimp only at h ⊢;split at h
  ·cases h
  ·rename_i u;simp only[ZP,z]at h ⊢;split at h
   ·rename_i g sz D E
    cases w:Z4 g sz (.ptr q off) H with
    |none=>rw[w]at h;cases h
    |some r =>
     rw[w]at h;simp only[Option.map_some,zA,zB]at h;obtain⟨rfl,rfl⟩:=h;refine⟨rfl,λj A=>?_⟩;rw[if_neg u];have:Z4 g sz (.ptr q off) j=Z4 g sz (.ptr q off) H:=by unfold Z4;simp only[A]
     rw[this,w];rfl
   ·cases h
theorem ZpH {o:Oper}{fl:Bool}{tm:du}{H H':Hp}{v:AV}{t a q off:Nat}{w:Operand}(A:o.op=.store t (.tmp a) w)(E:eval C tm (.tmp a)=.ptr q off)(h:YA C call ops fl o tm H=O (v,H')) :
 (H'=H/\∀ j,YA C call ops fl o tm j=O (v,j))\/∃ x y:AObj,H[q]?=O x/\H'=H.set q y/\∀ j:Hp,j[q]?=O x->YA C call ops fl o tm j=O (v,j.set q y):=by
 unfold YA at h ⊢;split at h
 ·cases h
 ·rename_i hw;simp only[zA,zB]at h;obtain⟨rfl,rfl⟩:=h;exact .inl ⟨rfl,λj=>rfl⟩
 ·rename_i hw;rw[A]at h ⊢;unfold Xi at h ⊢;have G:Yc C (eval C tm) (.store t (.tmp a) w)=J:=rfl;rw[G]at h ⊢;dsimp only at h ⊢;split at h
  ·cases h
  ·rename_i z;simp only[ZP,E]at h ⊢;split at h
   ·split at h
    ·rename_i L;unfold Zg YE at h;dsimp only at h
     cases B:H[q]? with
     |none=>rw[B]at h;cases h
     |some x =>
      cases x with
      |cells l =>
       rw[B]at h;dsimp only at h;split at h
       ·rename_i H1 u;split at u
        ·rename_i F;injection u with u;subst u;simp only[zA,zB]at h;obtain⟨rfl,rfl⟩:=h;refine .inr ⟨_,_,rfl,rfl,λj D=>?_⟩;rw[if_neg z,if_pos L];unfold Zg YE;simp only[D];rw[if_pos F]
        ·cases u
       ·cases h
      |_=>rw[B]at h;cases h
    ·cases h
   ·cases h
theorem ZbC {x y:Op}{p:Nat×Nat}(h:iN C x y=O p):∃ t u w,x=.load t (.tmp p.1)/\y=.store u (.tmp p.2) w:=by
 unfold iN at h;split at h
 ·cases h
 ·split at h
  ·split at h
   ·injection h with h;subst h;exact⟨_,_,_,rfl,rfl⟩
   ·cases h
  ·cases h
theorem Zxa {i j:Nat}{B D:Oper}{fi fj:Bool}{tm:du}{H H1 T:Hp}{v u:AV}(hF:FarAt C ops tm)(hi:ops[i]?=O B)(hj:ops[j]?=O D)(h:ZbB C B.op D.op=K)
 (E:YA C call ops fi B tm H=O (v,H1)) (F:YA C call ops fj D tm H1=O (u,T)) :
 ∃ Z,YA C call ops fj D tm H=O (u,Z)/\YA C call ops fi B tm Z=O (v,T):=by
 have hp:∀ {x y:AV},Eb x y=K->∃ q o L o',x=.ptr q o/\y=.ptr L o'/\q≠L:=by
  intro x y h;unfold Eb at h;split at h
  ·simp only[zL]at h;exact⟨_,_,_,_,rfl,rfl,zR h⟩
  ·cases h
 unfold ZbB at h;rw[zG]at h;rcases h with h|h
 ·obtain⟨p,G⟩:=zJ.1 h;obtain⟨t,w,z,M,N⟩:=ZbC G;obtain⟨q,o,L,o',P,R,A⟩:=hp (hF i j B D p hi hj G);obtain⟨rfl,S⟩:=ZpG M P E;rcases ZpH N R F with ⟨rfl,k2⟩|⟨x,y,k2,rfl,k3⟩
  ·exact⟨_,F,E⟩
  ·exact⟨_,F,S _ (zE A.symm)⟩
 ·obtain⟨p,G⟩:=zJ.1 h;obtain⟨t,w,z,M,N⟩:=ZbC G;obtain⟨q,o,L,o',P,R,A⟩:=hp (hF j i D B p hj hi G);obtain⟨rfl,S⟩:=ZpG M P F;rcases ZpH N R E with ⟨rfl,k2⟩|⟨x,y,k2,rfl,k3⟩
  ·exact⟨_,F,E⟩
  ·exact⟨_,S _ (zE A.symm).symm,E⟩
theorem Zrx (ad:XQ call){b i j:Nat}{G L:Oper}{s s1 T:St}(hF:FarAt C ops s.1)(hi:ops[i]?=O G)(hj:ops[j]?=O L)(S:b+Vt C ops ops.size<=s.2.length)(aa:G.apart ops L=K)
 (A:Vs C ops j=K\/(Vs C ops j=Q/\ZmD C (XA C ops i) (XA C ops j) G.op L.op)) (P:Wb C call ops K b i G s=O s1) (N:Wb C call ops K b j L s1=O T) :
 ∃ s2,Wb C call ops K b j L s=O s2/\Wb C call ops K b i G s2=O T:=by
 obtain⟨a1,a2,a3⟩:=Oper.apart_spec aa;obtain⟨tm,H⟩:=s;rw[Bo]at P N;simp only at P S
 cases y:UY C call ops K b i G tm H with
 |none=>simp[y]at P
 |some p =>
  obtain⟨v,H1⟩:=p;simp only[y,zA]at P;subst P;simp only at N;rw[Ziu (ZkG a1)]at N
  cases h:UY C call ops K b j L tm H1 with
  |none=>simp[h]at N
  |some q =>
   obtain⟨u,H2⟩:=q;simp only[h,zA]at N;subst N
   have key:∃ Z,UY C call ops K b j L tm H=O (u,Z)/\UY C call ops K b i G tm Z=O (v,H2):=by
    rcases A with R|⟨R,A⟩
    ·have ae:j<ops.size:=(zC.1 hj).1;have ag:=ZpA R ae;unfold UY at h;simp only[R,zV,if_true]at h;split at h
     ·cases h
     ·rename_i ac;unfold LS at h;split at h
      ·rename_i cs ab;split at h
       ·rename_i hp;split at h
        ·rename_i hT;simp only[zA,zB]at h;obtain⟨rfl,rfl⟩:=h;obtain⟨_,hf⟩:=Zk0 ad K b i G tm H v H1 y;obtain⟨g1,g2⟩:=hf _ b5 hp;refine⟨H.set (b+Vt C ops j) cs,?_,g2 _⟩;unfold UY;simp only[R,zV,if_true];rw[if_neg ac];unfold LS;rw[ab];simp only;rw[g1];simp only[hT,if_true]
        ·cases h
       ·cases h
      ·cases h
    ·have e2:∀ H,UY C call ops K b j L tm H=YA C call ops (XA C ops j) L tm H:=λH=>by unfold UY;simp[R]
     rw[e2]at h;simp only[e2]
     cases E:Vs C ops i with
     |true =>
      have af:=Zpn (C:=C) (Lg hi E).1;rcases A with A|A|⟨D,F⟩|⟨D,F⟩|A|A
      rotate_right
      ·exfalso;unfold ZbB at A;rw[zG]at A;have M:=(Lg hi E).1;rcases A with A|A <;> obtain⟨p,hq⟩:=zJ.1 A <;> obtain⟨t,w,z,e1,e2⟩:=ZbC hq
       ·rw[e1]at M;cases M
       ·rw[e2]at M;cases M
      ·exfalso;rcases A with A|A
       ·omega
       ·unfold UY at y;simp only[E,zV,if_true]at y;rw[if_pos A]at y;cases y
      ·obtain⟨rfl,B⟩:=jP A h;exact⟨H,B H,y⟩
      ·exfalso;unfold Ot at D;rw[Zpk (Lg hi E).1,Bool.or_false,decide_eq_true_eq]at D;omega
      ·omega
      ·exfalso;have:=Zv7 (C:=C) (Lg hi E).1;unfold Ox at A;rw[this]at A;simp at A
     |false =>
      have e1:∀ H,UY C call ops K b i G tm H=YA C call ops (XA C ops i) G tm H:=λH=>by unfold UY;simp[E]
      rw[e1]at y;simp only[e1];rcases A with A|A|⟨D,F⟩|⟨D,F⟩|A|A
      rotate_right
      ·exact Zxa hF hi hj A y h
      rotate_right
      ·exact Zxb A y h
      ·obtain⟨rfl,B⟩:=jP A y;exact⟨H2,h,B H2⟩
      ·obtain⟨rfl,B⟩:=jP A h;exact⟨H,B H,y⟩
      ·obtain rfl:=Zey D y;obtain rfl:=Zey F h;exact⟨_,h,y⟩
      ·obtain rfl:=Zim (.inl D) y;obtain⟨l,rfl⟩:=Zrt F h;exact⟨_,h,Zui D y l⟩
   obtain⟨Z,k1,k2⟩:=key;refine⟨(Xk tm L.dst u,Z),by rw[Bo];simp[k1],?_⟩;rw[Bo];simp only;rw[Ziu (ZkG a3),k2];simp only[zA,zB,and_true];exact (ZsH a2).symm
def Any (C:Cfg)(call:ZQ)(ops:Array Oper)(b:Nat):Nat->Array Bool->St->St->Prop
 |0,listed,s,r=>Region.ready .any ops listed=[]/\s=r
 |n+1,listed,s,r=>(Region.ready .any ops listed=[]->s=r) /\
  ∀ i∈Region.ready .any ops listed,∃ o s',ops[i]?=O o/\Wb C call ops K b i o s=O s'/\Any C call ops b n (listed.setIfInBounds i K) s' r
def Closed (ops:Array Oper)(h:Array Bool):Prop:=∀ j o,ops[j]?=O o->h.getD j Q=K->∀ e∈o.after,Region.binds .any e=K->h.getD e.on Q=K
theorem Closed.set {u:Array Bool}(h:Closed ops u){i:Nat}(hi:i∈Region.ready .any ops u):Closed ops (u.setIfInBounds i K):=by
 intro j o E D e B A;by_cases z:i=j
 ·subst z;obtain⟨_,o',w,y⟩:=mem_ready.1 hi;rw[E]at w;injection w with w;subst w;exact getD_set_true (y e B A)
 ·rw[getD_set_ne Q z]at D;exact getD_set_true (h j o E D e B A)
theorem mQ {u:Array Bool}(h:Closed ops u):∀ (n j i:Nat),XT ops n j i=K->(∀ o,ops[j]?=O o->∀ e∈o.after,Region.binds .any e=K->u.getD e.on Q=K)->u.getD i Q=K:=by
 intro n
 induction n with
 |zero=>intro j i y;simp[XT]at y
 |succ n N =>
  intro j i y L;unfold XT at y;split at y
  ·cases y
  ·rename_i o M;rw[zZ]at y;obtain⟨e,H,A⟩:=y;rw[zD,zG]at A;obtain⟨z,w⟩:=A;have F:=L o M e (by simpa using H) z;rcases w with w|w
   ·rw[<-beq_iff_eq.1 w];exact F
   ·exact N e.on i w (λo' E G D B=>h e.on o' E F G D B)
theorem kW {j:Array Bool}{i:Nat}(h:j.getD i K=Q):j.getD i Q=Q:=by
 rcases Nat.lt_or_ge i j.size with u|u
 ·simp[u]at h ⊢;exact h
 ·simp[Array.getElem?_eq_none u]at h
theorem ZsC (R:XQ call)(hK:ZpW C ops){b i:Nat}{L:Oper}(hi:ops[i]?=O L):∀ (n:Nat) (u:Array Bool) (s M r:St),FarAt C ops s.1->b+Vt C ops ops.size<=s.2.length->Closed ops u ->
 (∀ j G,ops[j]?=O G->j≠i->u.getD j K=Q->XT ops ops.size j i=K\/(L.apart ops G=K/\(Vs C ops j=K\/(Vs C ops j=Q/\ZmD C (XA C ops i) (XA C ops j) L.op G.op)))) ->
 i∈Region.ready .any ops u->Wb C call ops K b i L s=O M->Any C call ops b n (u.setIfInBounds i K) M r->Any C call ops b (n+1) u s r:=by
 intro n
 induction n with
 |zero =>
  intro u s M r _ _ _ _ F hs H;refine⟨λh=>(by rw[h]at F;cases F),λj S=>?_⟩;by_cases w:j=i
  ·subst w;exact⟨L,M,hi,hs,H⟩
  ·have:=ready_mono S w;rw[H.1]at this;cases this
 |succ n ih =>
  intro u s M r hF E P A F hs H;refine⟨λh=>(by rw[h]at F;cases F),λj S=>?_⟩;by_cases w:j=i
  ·subst w;exact⟨L,M,hi,hs,H⟩
  ·obtain⟨G,ag,z,af,Hj⟩:=H.2 j (ready_mono S w);obtain⟨D,ah,y,N⟩:=mem_ready.1 S;rw[z]at y;injection y with y;subst y;rcases A j G z w D with hb|⟨ab,ad⟩
   ·exfalso;have h1:=mQ P ops.size j i hb (λo ho e he ac=>by rw[z]at ho;injection ho with ho;subst ho;exact N e he ac);rw[kW (mem_ready.1 F).1]at h1;cases h1
   ·obtain⟨s2,B,h3⟩:=Zrx R hF hi z E ab ad hs af
    have aa:FarAt C ops s2.1:=by
     rw[Bo]at B
     cases hv:UY C call ops K b j G s.1 s.2 with
     |none=>rw[hv]at B;cases B
     |some p =>
      rw[hv]at B;simp only[zA]at B;rw[<-B];exact hF.put hK z
    refine⟨G,s2,z,B,ih (u.setIfInBounds j K) s2 ag r aa (yD E (ZkV R B)) (P.set S) (λk ok hk ae Z=>A k ok hk ae ?_) (ready_mono F (Ne.symm w)) h3 ?_⟩
    ·by_cases T:j=k
     ·subst T;exact D
     ·rw[getD_set_ne K T]at Z;exact Z
    ·rw[Array.setIfInBounds_comm _ _ w];exact Hj
theorem Zt3 {i j:Nat}{w u:Oper}(aa:i<j)(hi:ops[i]?=O w)(H:ops[j]?=O u)(y:j≠i)(M:XT ops ops.size i j=Q)(N:XT ops ops.size j i=Q):Vs C ops j=K\/(Vs C ops j=Q/\ZmD C (XA C ops i) (XA C ops j) w.op u.op):=by
 cases A:Vs C ops j with
 |true=>exact .inl rfl
 |false =>
 refine .inr ⟨rfl,?_⟩;by_cases E:Yg C w.op<=1/\Ja u.op=K
 ·exact .inr (.inr (.inr (.inl E)))
 by_cases z:ZhL C w.op u.op=K
 ·have S:i<ops.size:=(zC.1 hi).1;have B:j<ops.size:=(zC.1 H).1;have ab:Yg C w.op<=1\/2<=Yg C w.op:=b5
  have D:∀ (i j:Nat) (w u:Oper),ops[i]?=O w->ops[j]?=O u->j≠i->j<ops.size->XT ops ops.size i j=Q->XT ops ops.size j i=Q->ZhL C w.op u.op=K->(Yg C w.op<=1\/2<=Yg C u.op)->¬ (Yg C w.op<=1/\Ja u.op=K/\i<j)->¬ (i<j/\Vs C ops j=K)->¬ (j<i/\Vs C ops i=K)->XA C ops i=K:=by
   intro i j w u hi H y B M N z ho T P R;unfold XA;simp only[hi];rw[zZ];refine⟨j,zS.2 B,?_⟩
   have L:(decide (Yg C w.op<=1)&&Ja u.op&&decide (i<j))=Q:=by
    rw[zQ];intro e;simp only[zD,decide_eq_true_eq]at e;exact T ⟨e.1.1,e.1.2,e.2⟩
   have F:(decide (i<j)&&Vs C ops j)=Q:=by
    rw[zQ];intro e;simp only[zD,decide_eq_true_eq]at e;exact P e
   have G:(decide (j<i)&&Vs C ops i)=Q:=by
    rw[zQ];intro e;simp only[zD,decide_eq_true_eq]at e;exact R e
   simp only[H,z,M,N,L,F,G,bne_iff_ne,ne_eq,y,not_false_eq_true,Bool.true_and,Bool.not_false,Bool.and_true,zD,zG,decide_eq_true_eq];exact⟨trivial,ho⟩
  by_cases ha:Yg C w.op<=1\/2<=Yg C u.op
  ·exact .inl (.inr (D i j w u hi H y B M N z ha (λe=>E ⟨e.1,e.2.1⟩) (λe=>by rw[A]at e;cases e.2) (λe=>b5)))
  ·refine .inr (.inl (.inr (D j i u w H hi (Ne.symm y) S N M ?_ (.inl b5) (λe=>b5) (λe=>b5) (λe=>by rw[A]at e;cases e.2))))
   have ht:Ox C u.op w.op=Ox C w.op u.op:=by
    unfold Ox;rw[zW (decide (stC C u.op=1)),zW (decide (stC C u.op=2)),zY]
   have Z:ZbB C u.op w.op=ZbB C w.op u.op:=by
    unfold ZbB;rw[zY]
   unfold ZhL at z ⊢;rw[zY (decide (Yg C u.op=0)),zW (Ot C u.op),ht,Z];exact z
 ·unfold ZhL at z;simp only[zL,Bool.not_eq_false,zG,decide_eq_true_eq,zD]at z;rcases z with (((h|h)|h)|h)|h
  ·exact .inl (.inl h)
  ·exact .inr (.inl (.inl h))
  ·exact .inr (.inr (.inl h))
  ·exact .inr (.inr (.inr (.inr (.inl h))))
  ·exact .inr (.inr (.inr (.inr (.inr h))))
theorem Znr (h:Vb ops=K):Region.noSelect ops=K/\∀ k o,ops[k]?=O o->(∀ e∈o.after,Region.binds .any e=K->e.on<k) /\
 ∀ j z,ops[j]?=O z->k<j->XT ops ops.size j k=K\/o.apart ops z=K:=by
 unfold Vb at h;rw[zD,zI]at h;refine⟨h.1,λk o D=>?_⟩;have y:k<ops.size:=(zC.1 D).1;have w:=h.2 k (zS.2 y);simp only[D,zD,zI]at w;refine⟨λe F E=>?_,λj z B G=>?_⟩
 ·have:=w.1 e (by simpa using F);simpa[E]using this
 ·have u:j<ops.size:=(zC.1 B).1;have:=w.2 j (zS.2 u);simp only[B,zG,decide_eq_true_eq]at this;rcases this with A|A
  ·omega
  ·exact A
theorem Zop (R:XQ call)(hK:ZpW C ops){b:Nat}(aj:Vb ops=K):∀ (l:List Oper) (k:Nat) (u:Array Bool) (s r:St),FarAt C ops s.1->(∀ j,l[j]?=ops[k+j]?)->u.size=ops.size->(∀ x,x<ops.size->u.getD x Q=decide (x<k))->k<=ops.size->b+Vt C ops ops.size<=s.2.length ->
 Yz C call ops K b k l s=O r->Any C call ops b l.length u s r:=by
 obtain⟨ak,y⟩:=Znr aj;intro l
 induction l with
 |nil =>
  intro k u s r hF hl aa w hk z h;simp[Yz]at h;refine⟨?_,h⟩;rw[List.eq_nil_iff_forall_not_mem];intro i hi;obtain⟨h1,o,ho,_⟩:=mem_ready.1 hi;have ah:i<ops.size:=(zC.1 ho).1
  have Z:ops.size<=k:=by
   have:=hl 0;simp at this;exact this
  have:=w i ah;rw[kW h1]at this;simp at this;omega
 |cons o l ih =>
  intro k u s r hF hl aa w hk z h;have A:ops[k]?=O o:=by simpa using (hl 0).symm
  have Z:k<ops.size:=(zC.1 A).1;unfold Yz at h;split at h
  ·rename_i s' H
   have N:Closed ops u:=by
    intro j oj M B e P F;have S:j<ops.size:=(zC.1 M).1;rw[w j S]at B;have:=(y j oj M).1 e P F;rw[w e.on b5];simp at B ⊢;omega
   have E:k∈Region.ready .any ops u:=by
    rw[mem_ready];refine⟨?_,o,A,λe P F=>?_⟩
    ·have:=w k Z;simp at this;have G:k<u.size:=b5
     simp[G]at this ⊢;exact this
    ·have:=(y k o A).1 e P F;rw[w e.on b5];simpa using this
   have ad:FarAt C ops s'.1:=by
    have L:=H;rw[Bo]at L
    cases hv:UY C call ops K b k o s.1 s.2 with
    |none=>rw[hv]at L;cases L
    |some p =>
     rw[hv]at L;simp only[zA]at L;rw[<-L];exact hF.put hK A
   refine ZsC R hK A l.length u s s' r hF z N (λj oj M ai ab=>?_) E H (ih (k+1) _ s' r ad (λj=>by have:=hl (j+1);simpa[Nat.add_assoc,Nat.add_comm 1 j]using this) (by simpa using aa) (λx hx=>?_) b5 (yD z (ZkV R H)) h)
   ·have B:j<ops.size:=(zC.1 M).1
    have T:k<j:=by
     have:=w j B;rw[kW ab]at this;simp at this;omega
    rcases (y k o A).2 j oj M T with F|ae
    ·exact .inl F
    ·by_cases F:XT ops ops.size j k=K
     ·exact .inl F
     ·refine .inr ⟨ae,Zt3 T A M ai ?_ (by simpa using F)⟩
      cases ag:XT ops ops.size k j with
      |false=>rfl
      |true =>
       exfalso
       have:=mQ N ops.size k j ag (λo' D e P af=>by
        rw[A]at D;injection D with D;subst D;have:=(y k o A).1 e P af;rw[w e.on b5];simpa using this)
       rw[kW ab]at this;cases this
   ·by_cases ac:k=x
    ·subst ac;have G:k<u.size:=b5
     simp[G]
    ·rw[getD_set_ne Q ac,w x hx];simp;omega
  ·cases h
end
end Go.Am
