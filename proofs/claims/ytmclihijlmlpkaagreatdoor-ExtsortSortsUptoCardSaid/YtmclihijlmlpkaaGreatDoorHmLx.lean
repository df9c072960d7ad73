/- THE ABSTRACT MACHINE -/
import Derived.Test.YtmclihijlmlpkaaGreatDoorHmFrx
open Option renaming some->O,none->J
open Bool renaming true->K,false->Q
open List renaming getElem?_set_ne->zE,getElem?_append_left->zF,getD_eq_getElem?_getD->zH,all_eq_true->zI,map_congr_left->zO,mem_range->zS,set_comm->zT,range->zU,mem_filterMap->zX,any_eq_true->zZ,nil_append->yA,append_nil->yB
open Nat renaming ne_of_beq_eq_false->zR,le_trans->yD
open Bool renaming and_eq_true->zD,or_eq_true->zG,false_eq_true->zK,not_eq_true'->zL,eq_false_iff->zQ,and_self->zV,and_comm->zW,or_comm->zY,false_and->yC
open Option renaming isSome_iff_exists->zJ,isNone_iff_eq_none->zP
open Array renaming getElem?_eq_some_iff->zC,mem_of_getElem?->zM,mem_toList_iff->zN
open Option.some renaming injEq->zA
open Prod.mk renaming injEq->zB
open List.Sublist renaming countP_le->yE
namespace Go.Am
open RowKit
section
variable {C:Cfg}{call:ZM}{ops:Array Oper}
theorem TW {ev g:Operand->AV}{xs:Array Operand}(h:∀ x∈xs,ev x=g x):xs.toList.map ev=xs.toList.map g :=
 zO λx j=>h x (by simpa using j)
theorem Hi {ev g:Operand->AV}{x:Option Operand}(h:∀ y∈x.toArray,ev y=g y):x.map ev=x.map g:=by
 cases x with
 |none=>rfl
 |some y=>simp[h y cn]
theorem ZoZ {ev j:Operand->AV}{op:Op}(h:∀ x∈op.operands,ev x=j x):Y9 C ev op=Y9 C j op:=by
 cases op <;> simp only[Op.operands]at h
 case call c =>
  obtain⟨callee,args,argTypes⟩:=c
  cases callee with
  |value f=>rfl
  |invoke r m=>rfl
  |builtin b =>
   have A:∀ x∈args,ev x=j x:=λx w=>h x (by simp[Call.operands,w]);cases b <;> try rfl
   case len =>
    simp only[Y9];split
    ·rename_i g _;obtain rfl:=UW g;simp[A]
    ·rfl
   all_goals
    simp only[Y9];split
    ·rename_i g;obtain rfl:=XA g;simp[A]
    ·rfl
 case build t ps =>
  have:(ps.toList.map λp=>(p.1,ev p.2))=ps.toList.map λp=>(p.1,j p.2):=zO λp z=>by
   rw[h p.2 (by simp;exact⟨p.1,by simpa using z⟩)]
  simp only[Y9,this]
 case buildSlice t n ps =>
  have:(ps.toList.map λp=>(p.1,ev p.2))=ps.toList.map λp=>(p.1,j p.2):=zO λp z=>by
   rw[h p.2 (by simp;exact⟨p.1,by simpa using z⟩)]
  simp only[Y9,this]
 case makeFunc fn first captured =>
  cases fn <;> simp only[Y9]
  rw[TW (xs:=first) (λx w=>h x (by simp[w])),TW (xs:=captured) (λx w=>h x (by simp[w]))]
 case slice t x lo hi mx =>
  simp only[Y9];rw[h x cn,Hi (x:=lo) (λy u=>h y (by simp at u ⊢;simp[u])),Hi (x:=hi) (λy u=>h y (by simp at u ⊢;simp[u])),Hi (x:=mx) (λy u=>h y (by simp at u ⊢;simp[u]))]
 all_goals first
  |rfl
  |(simp only[Y9];simp[h])
theorem ZoT {ev j:Operand->AV}{H:Hp}{op:Op}(h:∀ x∈op.operands,ev x=j x):ZL C call ev H op=ZL C call j H op:=by
 cases op <;> simp only[Op.operands]at h
 case call c =>
  obtain⟨callee,args,argTypes⟩:=c
  cases callee with
  |value f =>
   simp only[ZL];rw[h f (by simp[Call.operands]),TW (xs:=args) (λx u=>h x (by simp[Call.operands,u]))]
  |invoke r m =>
   simp only[ZL];rw[h r (by simp[Call.operands]),TW (xs:=args) (λx u=>h x (by simp[Call.operands,u]))]
  |builtin b =>
   have w:∀ x∈args,ev x=j x:=λx u=>h x (by simp[Call.operands,u]);cases b <;> try rfl
   all_goals
    simp only[ZL];split
    ·rename_i g y
     first
      |(obtain rfl:=XA g;simp[w])
      |(obtain rfl:=UW g;simp[w])
    ·rfl
 case makeMap t r=>cases r <;> rfl
 all_goals first
  |rfl
  |(simp only[ZL];simp[h])
theorem Ztp {ev g:Operand->AV}{H:Hp}{fl:Bool}{op:Op}(h:∀ x∈op.operands,ev x=g x):Xf C call ev H fl op=Xf C call g H fl op:=by
 unfold Xf;rw[ZoZ h,ZoT h]
theorem ZhX {tm g:c6}{o:Oper}(h:∀ t∈o.looksAt ops,tm[t]?=g[t]?):∀ x∈o.op.operands,eval C tm x=eval C g x:=by
 intro x j
 cases x with
 |tmp t =>
  simp only[eval,zH];rw[h t];unfold Oper.looksAt;rw[List.mem_append];left;rw[zX];exact⟨.tmp t,by simpa using j,rfl⟩
 |_=>rfl
theorem Zm5 {tm u:c6}{o:Oper}(h:∀ t∈o.looksAt ops,tm[t]?=u[t]?):WM ops tm o=WM ops u o:=by
 unfold WM
 cases z:o.guard with
 |none=>rfl
 |some p =>
  obtain⟨j,w⟩:=p;simp only
  cases A:ops[j]? with
  |none=>rfl
  |some g =>
   simp only
   cases y:g.dst with
   |none=>rfl
   |some d =>
    simp only;rw[h d];unfold Oper.looksAt;simp[z,A,y]
theorem Zsf {tm g:c6}{o:Oper}{fl:Bool}{H:Hp}(h:∀ t∈o.looksAt ops,tm[t]?=g[t]?):YF C call ops fl o tm H=YF C call ops fl o g H:=by
 unfold YF;rw[Zm5 h,Ztp (ZhX h)]
theorem Zlj {tm:c6}{o:Oper}{g:Option Tmp}{v:AV}(h:∀ d,g=O d->d∉o.looksAt ops):∀ t∈o.looksAt ops,(Xh tm g v)[t]?=tm[t]?:=by
 intro t j
 cases g with
 |none=>rfl
 |some d =>
  have:d≠t:=λe=>h d rfl (e ▸ j);simp[Xh,zE this]
theorem Zae {id:FuncId}{args:c6}{H H':Hp}{v:AV}(A:Zc5 C id=K)(h:XF C call id args H=O (v,H')):H'=H/\∀ y,XF C call id args y=O (v,y):=by
 unfold XF at h ⊢
 cases w:C.ext id with
 |some e =>
  simp only[w]at h ⊢;unfold fR at h ⊢
  cases j:Znv e args with
  |none=>simp[j]at h
  |some u =>
   simp only[j,zA,zB]at h ⊢;obtain⟨rfl,rfl⟩:=h;simp
 |none =>
  cases F:C.sum id with
  |some g =>
   simp only[w,F]at h ⊢;unfold iS at h ⊢
   cases j:g args with
   |none=>simp[j]at h
   |some u =>
    simp only[j,zA,zB]at h ⊢;obtain⟨rfl,rfl⟩:=h;simp
  |none =>
  unfold Zc5 at A;simp only[w,F,Option.isSome_none,Bool.false_or,zD,zP]at A;obtain⟨⟨B,D⟩,E⟩:=A;simp only[w,F,B,D,E,if_true]at h ⊢;unfold Ze at h ⊢;split at h
  ·rename_i z N;split at h
   ·rename_i R H1 L;split at h
    ·rename_i S M;simp only[zA,zB]at h;obtain⟨rfl,rfl⟩:=h;exact⟨rfl,λy=>rfl⟩
    ·cases h
   ·cases h
  ·cases h
theorem Znf {x:AV}{H H':Hp}{v:AV}(h:Gh x H=O (v,H')):H'=H:=by
 unfold Gh at h;split at h
 ·split at h
  ·simp only[zA,zB]at h;exact h.2.symm
  ·cases h
 ·cases h
theorem Zrm {k:Nat}{x:AV}{H:Hp}{v:c6}(h:elems k x H=O v)(l:Hp):elems k x (H++l)=O v:=by
 cases x with
 |rs ag k' o off len cap =>
  unfold elems at h ⊢;simp only at h ⊢;split at h
  ·rename_i j;rw[if_pos j];split at h
   ·rename_i u g;rw[zF (Zn g),g];exact h
   ·cases h
  ·cases h
 |ws ag k' o e len =>
  unfold elems at h ⊢;simp only at h ⊢;split at h
  ·rename_i j;rw[if_pos j];split at h
   ·rename_i w u g;rw[zF (Zn g),g];exact h
   ·cases h
  ·cases h
 |_=>exact h
theorem Zpc {x:AV}{H H':Hp}{v:AV}(h:Gh x H=O (v,H'))(l:Hp):Gh x (H++l)=O (v,H++l):=by
 unfold Gh at h ⊢;split at h
 ·rename_i xs g
  have:J9 x (H++l)=O xs:=by
   unfold J9 at g ⊢;split at g
   ·cases g
   ·exact Zrm g l
  rw[this];split at h
  ·rename_i s j;simp only[zA,zB]at h;simp only[j,h.1]
  ·cases h
 ·cases h
theorem Zak {ev:Operand->AV}(B:∀ f,ev (.func f)=.fn (.func f) [] []){H H':Hp}{fl:Bool}{op:Op}{v:AV}(w:Yh C op=0\/fl=K)(h:Xf C call ev H fl op=O (v,H')):H'=H/\∀ A,Xf C call ev A fl op=O (v,A):=by
 unfold Xf at h ⊢;split at h
 ·rename_i v' E;simp only[zA,zB]at h;obtain⟨rfl,rfl⟩:=h;exact⟨rfl,λA=>rfl⟩
 ·split at h
  ·cases h
  ·rename_i y
   have g:Yh C op=0:=by
    rcases w with w|w
    ·exact w
    ·exact absurd w y
   simp only[y]
   cases op with
   |call c =>
    obtain⟨callee,args,argTypes⟩:=c
    cases callee with
    |value f =>
     cases f with
     |func id =>
      have j:Zc5 C id=K:=by
       cases j:Zc5 C id with
       |true=>rfl
       |false=>simp[Yh,j]at g
      simp only[ZL,iC,Yu,B,yA,yB,zK,if_false]at h ⊢;exact Zae j h
     |tmp t =>
      have j:iC C (.tmp t) args=K:=by
       cases j:iC C (.tmp t) args with
       |true=>rfl
       |false=>simp[Yh,j]at g
      simp only[ZL,j,if_true]at h ⊢;unfold XG qC at h ⊢;split at h
      ·rename_i id first u D
       split at h
       ·rename_i z;simp only[if_pos z,zK,if_false];exact Zae z h
       ·cases h
      ·cases h
     |_=>simp[Yh,iC]at g
    |invoke r m=>simp[Yh]at g
    |builtin b=>cases b <;> first|(simp[Yh]at g;done)|(simp[ZL]at h;done)
   |convert s d x=>simp only[Yh]at g;split at g <;> cases g
   |_=>first|(simp[Yh]at g;done)|(simp[ZL]at h;done)
theorem Ztr {ev:Operand->AV}(A:∀ f,ev (.func f)=.fn (.func f) [] []){H H':Hp}{fl:Bool}{op:Op}{v:AV}(w:Yh C op<=1\/fl=K)(h:Xf C call ev H fl op=O (v,H')):H'=H:=by
 by_cases y:Yh C op=0\/fl=K
 ·exact (Zak A y h).1
 ·have u:Yh C op=1:=by
   rcases w with w|w
   ·have:Yh C op≠0:=λe=>y (.inl e);omega
   ·exact absurd (.inr w) y
  unfold Xf at h;split at h
  ·simp only[zA,zB]at h;exact h.2.symm
  ·split at h
   ·cases h
   ·cases op with
    |load t a =>
     simp only[ZL]at h;split at h
     ·rename_i g sz _ _
      cases j:Z2 g sz (ev a) H with
      |none=>simp[j]at h
      |some r=>simp[j]at h;exact h.2.symm
     ·cases h
    |lookup t x k B =>
     simp only[ZL]at h;split at h
     ·rename_i d e _;split at h
      ·rename_i z _
       cases j:Yo d z B (ev x) (ev k) H with
       |none=>simp[j]at h
       |some r=>simp[j]at h;exact h.2.symm
      ·cases h
     ·cases h
    |call c =>
     obtain⟨callee,args,argTypes⟩:=c
     cases callee with
     |value f=>exfalso;cases f <;> simp only[Yh]at u <;> split at u <;> omega
     |invoke r m=>simp[Yh]at u
     |builtin b =>
      cases b <;> first|(simp[Yh]at u;done)|skip
      simp only[ZL]at h;split at h
      ·rename_i x t _ _;split at h
       ·cases j:Jw (ev x) H with
        |none=>simp[j]at h
        |some r=>simp[j]at h;exact h.2.symm
       ·cases h
      ·cases h
    |convert s d x =>
     have hw:C.wrb d=Q:=by
      cases hw:C.wrb d with
      |false=>rfl
      |true=>simp[Yh,hw]at u
     simp only[ZL,hw,yC]at h;split at h
     ·split at h
      ·exact Znf h
      ·cases h
     ·cases h
     ·cases h
    |_=>first|(simp[Yh]at u;done)|(simp[ZL]at h;done)
theorem Zti {id:FuncId}{args:c6}{H H':Hp}{v:AV}(g:C.ro id=K)(j:C.flat id=Q)(u:C.ext id=J)(w:C.sum id=J)(y:C.eff id=J)(h:XF C call id args H=O (v,H')):H'=H:=by
 unfold XF at h;simp only[g,j,u,w,y,zK,if_false,if_true]at h;split at h
 ·unfold Kb at h;split at h
  ·split at h
   ·split at h
    ·simp only[zA,zB]at h;exact h.2.symm
    ·cases h
   ·cases h
  ·cases h
 ·cases h
theorem ZzN {ev:Operand->AV}(j:∀ f,ev (.func f)=.fn (.func f) [] []){H H':Hp}{fl:Bool}{op:Op}{v:AV}(g:Zok C op=K)(h:Xf C call ev H fl op=O (v,H')):H'=H:=by
 unfold Xf at h;split at h
 ·simp only[zA,zB]at h;exact h.2.symm
 ·split at h
  ·cases h
  ·unfold Zok at g;split at g
   ·simp only[zD,zL,zP]at g;obtain⟨⟨⟨⟨u,w⟩,y⟩,z⟩,A⟩:=g;simp only[ZL,iC,Yu,j,yA,yB,zK,if_false]at h;exact Zti u w y z A h
   ·cases g
theorem ZpX {op:Op}(h:fresh op=K):Zok C op=Q:=by
 cases op <;> first|rfl|(simp[fresh]at h;done)
theorem hZ {o:Oper}{fl:Bool}{tm:c6}{H H':Hp}{v:AV}(w:Yh C o.op=0\/fl=K)(h:YF C call ops fl o tm H=O (v,H')):H'=H/\∀ g,YF C call ops fl o tm g=O (v,g):=by
 unfold YF at h ⊢;split at h
 ·cases h
 ·rename_i hw;simp only[zA,zB]at h;obtain⟨rfl,rfl⟩:=h;exact⟨rfl,λg=>rfl⟩
 ·rename_i hw;obtain⟨j,u⟩:=Zak (λ_=>rfl) w h;exact⟨j,λg=>u g⟩
theorem Zit {o:Oper}{fl:Bool}{tm:c6}{H H':Hp}{v:AV}(g:Yh C o.op<=1\/fl=K)(h:YF C call ops fl o tm H=O (v,H')):H'=H:=by
 unfold YF at h;split at h
 ·cases h
 ·simp only[zA,zB]at h;exact h.2.symm
 ·exact Ztr (λ_=>rfl) g h
theorem Zzd {o:Oper}{fl:Bool}{tm:c6}{H H':Hp}{v:AV}(g:Zok C o.op=K)(h:YF C call ops fl o tm H=O (v,H')):H'=H:=by
 unfold YF at h;split at h
 ·cases h
 ·simp only[zA,zB]at h;exact h.2.symm
 ·exact ZzN (λ_=>rfl) g h
theorem Zee {o:Oper}{fl:Bool}{tm:c6}{H H':Hp}{v:AV}(g:IM C o.op=K)(h:YF C call ops fl o tm H=O (v,H')):H'=H:=by
 unfold IM at g;rw[zG,decide_eq_true_eq]at g;rcases g with g|g
 ·exact Zit (.inl g) h
 ·exact Zzd g h
theorem Ztt {tm:c6}{x y:Option Tmp}{v u:AV}(h:∀ d,x=O d->y≠O d):Xh (Xh tm x v) y u=Xh (Xh tm y u) x v:=by
 cases x with
 |none=>rfl
 |some d =>
  cases y with
  |none=>rfl
  |some e =>
   have g:d≠e:=λj=>h d rfl (j ▸ rfl);simp only[Xh];exact zT _ _ g
theorem ZqU {g:Bool}{sz:Nat}{a:AV}{H:Hp}{v:AV}(h:Z2 g sz a H=O v)(l:Hp):Z2 g sz a (H++l)=O v:=by
 cases a with
 |ptr o off =>
  unfold Z2 at h ⊢;simp only at h ⊢;split at h
  ·rename_i c j;rw[zF (Zn j),j];exact h
  ·cases h
 |wp o e off =>
  unfold Z2 at h ⊢;simp only at h ⊢;split at h
  ·rename_i u c j;rw[zF (Zn j),j];exact h
  ·cases h
 |_=>exact h
theorem Zav {x:AV}{H:Hp}{v:List (AV×AV×Nat)}(h:Xq x H=O v)(l:Hp):Xq x (H++l)=O v:=by
 cases x with
 |map o =>
  unfold Xq at h ⊢;simp only at h ⊢;split at h
  ·rename_i c k g;rw[zF (Zn g),g];exact h
  ·cases h
 |_=>exact h
theorem ZmX {d:TypeDesc}{z:AV}{j:Bool}{x k:AV}{H:Hp}{v:AV}(h:Yo d z j x k H=O v)(l:Hp):Yo d z j x k (H++l)=O v:=by
 unfold Yo at h ⊢
 cases g:Xq x H with
 |none=>simp[g]at h
 |some u=>rw[Zav g l];rw[g]at h;exact h
theorem ZqQ {x:AV}{H:Hp}{v:AV}(h:Jw x H=O v)(l:Hp):Jw x (H++l)=O v:=by
 unfold Jw at h ⊢
 cases g:Xq x H with
 |none=>simp[g]at h
 |some j=>rw[Zav g l];rw[g]at h;exact h
theorem Zwf {ev:Operand->AV}(y:∀ f,ev (.func f)=.fn (.func f) [] []){H H':Hp}{fl:Bool}{op:Op}{v:AV}(E:Yh C op<=1)(h:Xf C call ev H fl op=O (v,H'))(l:Hp):Xf C call ev (H++l) fl op=O (v,H++l):=by
 by_cases w:Yh C op=0\/fl=K
 ·exact (Zak y w h).2 _
 ·have u:Yh C op=1:=by
   have:Yh C op≠0:=λe=>w (.inl e);omega
  have A:¬ fl=K:=λe=>w (.inr e);unfold Xf at h ⊢;split at h
  ·rename_i v' F;simp only[zA,zB]at h;obtain⟨rfl,rfl⟩:=h;rfl
  ·rw[if_neg A]at h ⊢
   cases op with
   |load t a =>
    simp only[ZL]at h ⊢;split at h
    ·rename_i g sz _ _
     cases j:Z2 g sz (ev a) H with
     |none=>simp[j]at h
     |some r =>
      simp[j]at h;obtain⟨rfl,rfl⟩:=h;simp[ZqU j l]
    ·cases h
   |lookup t x k B =>
    simp only[ZL]at h ⊢;split at h
    ·rename_i d e _;split at h
     ·rename_i z _
      cases j:Yo d z B (ev x) (ev k) H with
      |none=>simp[j]at h
      |some r =>
       simp[j]at h;obtain⟨rfl,rfl⟩:=h;simp[ZmX j l]
     ·cases h
    ·cases h
   |call c =>
    obtain⟨callee,args,argTypes⟩:=c
    cases callee with
    |value f=>exfalso;cases f <;> simp only[Yh]at u <;> split at u <;> omega
    |invoke r m=>simp[Yh]at u
    |builtin b =>
     cases b <;> first|(simp[Yh]at u;done)|skip
     simp only[ZL]at h ⊢;split at h
     ·rename_i x t _ _;split at h
      ·cases j:Jw (ev x) H with
       |none=>simp[j]at h
       |some r =>
        simp[j]at h;obtain⟨rfl,rfl⟩:=h;simp[ZqQ j l]
      ·cases h
     ·cases h
   |convert s d x =>
    have hw:C.wrb d=Q:=by
     cases hw:C.wrb d with
     |false=>rfl
     |true=>simp[Yh,hw]at u
    simp only[ZL,hw,yC]at h ⊢;split at h
    ·split at h
     ·rename_i D;simp only[D,if_true];exact Zpc h l
     ·cases h
    ·cases h
    ·cases h
   |_=>first|(simp[Yh]at u;done)|(simp[ZL]at h;done)
theorem ZuV {o:Oper}{fl:Bool}{tm:c6}{H H':Hp}{v:AV}(g:Yh C o.op<=1)(h:YF C call ops fl o tm H=O (v,H'))(l:Hp):YF C call ops fl o tm (H++l)=O (v,H++l):=by
 unfold YF at h ⊢;split at h
 ·cases h
 ·simp only[zA,zB]at h;obtain⟨rfl,rfl⟩:=h;rfl
 ·exact Zwf (λ_=>rfl) g h l
theorem Zsg {o:Oper}{fl:Bool}{tm:c6}{H H':Hp}{v:AV}(g:fresh o.op=K)(h:YF C call ops fl o tm H=O (v,H')):∃ l,H'=H++l:=by
 unfold YF at h;split at h
 ·cases h
 ·simp only[zA,zB]at h;exact⟨[],by rw[<-h.2];simp⟩
 ·unfold Xf at h;split at h
  ·simp only[zA,zB]at h;exact⟨[],by rw[<-h.2];simp⟩
  ·split at h
   ·cases h
   ·generalize o.op=op at g h
    cases op with
    |alloc e =>
     simp only[ZL]at h;split at h
     ·split at h
      ·split at h
       ·simp only[zA,zB]at h;exact⟨_,h.2.symm⟩
       ·cases h
      ·split at h
       ·simp only[zA,zB]at h;exact⟨_,h.2.symm⟩
       ·cases h
     ·cases h
    |box e x =>
     simp only[ZL]at h;unfold ZF at h;split at h
     ·simp only[zA,zB]at h;exact⟨_,h.2.symm⟩
     ·cases h
    |makeMap t r =>
     cases r with
     |none =>
      simp only[ZL,zA,zB]at h;exact⟨_,h.2.symm⟩
     |some r=>simp[fresh]at g
    |_=>simp[fresh]at g
def Znc (C:Cfg)(g h:Bool)(x y:Op):Prop:=(Yh C x=0\/g=K)\/(Yh C y=0\/h=K)\/(IM C x=K/\IM C y=K)\/(Yh C x<=1/\fresh y=K)\/IP C x y=K\/Zb1 C x y=K
def isK (k:Nat)(x:AObj):Bool :=
 match k,x with
 |1,.row _ _=>K
 |2,.cells _=>K
 |_,_=>Q
theorem Ztu {k sz:Nat}{a v r:AV}{H H':Hp}(D:k=1\/k=2)(E:stV k a=K)(h:Zc sz a v H=O (r,H')) :
 ∃ (o:Nat) (x y:AObj),H[o]?=O x/\isK k x=K/\isK k y=K/\H'=H.set o y/\∀ j:Hp,j[o]?=O x->Zc sz a v j=O (r,j.set o y):=by
 unfold Zc at h;split at h
 ·rename_i H1 g;simp only[zA,zB]at h;obtain⟨rfl,rfl⟩:=h;unfold YI at g;split at g
  ·rename_i o off
   have A:k=2:=by
    rcases D with rfl|rfl
    ·cases E
    ·rfl
   subst A;split at g
   ·rename_i l B;split at g
    ·rename_i w;injection g with g;subst g;exact⟨o,_,_,B,rfl,rfl,rfl,λj u=>by unfold Zc YI;simp only[u];rw[if_pos w]⟩
    ·cases g
   ·cases g
  ·rename_i o e off
   have z:k=1:=by
    rcases D with rfl|rfl
    ·rfl
    ·cases E
   subst z;split at g
   ·rename_i F l B;split at g
    ·rename_i w;injection g with g;subst g;exact⟨o,_,_,B,rfl,rfl,rfl,λj u=>by unfold Zc YI;simp only[u];rw[if_pos w]⟩
    ·cases g
   ·cases g
  ·cases g
 ·cases h
theorem ZuU {o:Oper}{fl:Bool}{tm:c6}{H H':Hp}{v:AV}{k:Nat}(M:k=1\/k=2)(j:stC C o.op=k)(h:YF C call ops fl o tm H=O (v,H')) :
 (H'=H/\∀ g,YF C call ops fl o tm g=O (v,g)) \/
 ∃ (q:Nat) (x y:AObj),H[q]?=O x/\isK k x=K/\isK k y=K/\H'=H.set q y/\∀ g:Hp,g[q]?=O x->YF C call ops fl o tm g=O (v,g.set q y):=by
 unfold YF at h ⊢;split at h
 ·cases h
 ·rename_i hw;simp only[zA,zB]at h;obtain⟨rfl,rfl⟩:=h;exact .inl ⟨rfl,λg=>rfl⟩
 ·rename_i hw
  obtain⟨t,a,x,w⟩:∃ t a x,o.op=.store t a x:=by
   generalize o.op=op at j
   cases op with
   |store t a x=>exact⟨t,a,x,rfl⟩
   |_=>(have:k=0:=j.symm);omega
  rw[w]at j h ⊢;unfold Xf at h ⊢;have N:Y9 C (eval C tm) (.store t a x)=J:=rfl;rw[N]at h ⊢;dsimp only at h ⊢;split at h
  ·cases h
  ·rename_i u;simp only[ZL]at h ⊢;split at h
   ·split at h
    ·rename_i z;rw[j]at z;obtain⟨q,R,S,A,B,D,E,F⟩:=Ztu M z h;rw[j];refine .inr ⟨q,R,S,A,B,D,E,λg L=>?_⟩;rw[if_neg u,if_pos z];exact F g L
    ·cases h
   ·cases h
theorem ZvA {x:Op}(h:fresh x=K):stC C x=0:=by
 cases x <;> first|rfl|(simp[fresh]at h;done)
theorem ZxD {A B:Oper}{E F:Bool}{tm j:c6}{H H1 D:Hp}{v u:AV}(h:IP C A.op B.op=K)(S:YF C call ops E A tm H=O (v,H1))(T:YF C call ops F B j H1=O (u,D)) :
 ∃ z,YF C call ops F B j H=O (u,z)/\YF C call ops E A tm z=O (v,D):=by
 have key:∀ k k',(k=1/\k'=2)\/(k=2/\k'=1)->stC C A.op=k->stC C B.op=k'->∃ z,YF C call ops F B j H=O (u,z)/\YF C call ops E A tm z=O (v,D):=by
  intro k k' M hi hj;have hk:k=1\/k=2:=cm
  have L:k'=1\/k'=2:=cm
  rcases ZuU hk hi S with ⟨rfl,ha⟩|⟨q,x,y,R,g2,g3,rfl,g5⟩
  ·exact⟨D,T,ha _⟩
  ·rcases ZuU L hj T with ⟨rfl,hb⟩|⟨p,x',Z,w,f2,f3,rfl,f5⟩
   ·exact⟨H,hb _,S⟩
   ·have g:q≠p:=by
     rintro rfl
     have N:q<H.length:=Zn R;rw[List.getElem?_set_self N]at w;injection w with w;subst w;rcases M with ⟨rfl,rfl⟩|⟨rfl,rfl⟩ <;> cases y <;> simp[isK]at g3 f2
    rw[zE g]at w;refine⟨H.set p Z,f5 H w,?_⟩;rw[g5 (H.set p Z) (by rw[zE g.symm];exact R),zT _ _ g]
 unfold IP at h;simp only[zG,zD,decide_eq_true_eq]at h;rcases h with ⟨a,b⟩|⟨a,b⟩
 ·exact key 1 2 cm a b
 ·exact key 2 1 cm a b
def UQ (C:Cfg)(call:ZM)(ops:Array Oper)(draw:Bool)(b i:Nat)(o:Oper)(tm:c6)(H:Hp):Option (AV×Hp) :=
 if draw&&Vq C ops i then (if Xv C ops i then J else D2 (b+Vr C ops i) (Lw C (eval C tm) o.op) H) else YF C call ops (draw&&Xv C ops i) o tm H
theorem Gq {draw:Bool}{b i:Nat}{o:Oper}{s:St}:W5 C call ops draw b i o s=match UQ C call ops draw b i o s.1 s.2 with|some (v,H)=>O (Xh s.1 o.dst v,H)|none=>J:=by
 unfold W5 UQ;by_cases h:(draw&&Vq C ops i)=K
 ·rw[if_pos h,if_pos h];by_cases g:Xv C ops i=K
  ·rw[if_pos g,if_pos g]
  ·rw[if_neg g,if_neg g];rfl
 ·rw[if_neg h,if_neg h];rfl
theorem ZrX {ev g:Operand->AV}{op:Op}(h:∀ x∈op.operands,ev x=g x):Lw C ev op=Lw C g op:=by
 cases op <;> try rfl
 case makeMap t r=>cases r <;> rfl
 case box t x=>simp only[Lw];rw[h x (by simp[Op.operands])]
theorem ZiF {draw:Bool}{b i:Nat}{tm g:c6}{o:Oper}{H:Hp}(h:∀ t∈o.looksAt ops,tm[t]?=g[t]?):UQ C call ops draw b i o tm H=UQ C call ops draw b i o g H:=by
 unfold UQ;rw[Zsf h,ZrX (ZhX h)]
theorem Zyz (p:Nat)(j:Option AObj):Xp (D2 p j):=by
 cases j with
 |none=>exact ZE
 |some l =>
  intro H v H' h;unfold D2 at h;simp only at h;split at h
  ·rename_i z;split at h
   ·rename_i g;simp only[zA,zB]at h;obtain⟨rfl,rfl⟩:=h;refine⟨cn,λo A y=>?_⟩;obtain⟨u,w⟩:=Mh y (λe=>by rw[e]at g;cases g);refine⟨w,λx=>?_⟩;unfold D2;simp only;rw[zE u,z];simp only;rw[if_pos g,zT _ _ u]
   ·cases h
  ·cases h
theorem ZkH (g:XE call)(draw:Bool)(b i:Nat)(o:Oper)(tm:c6):Xp (UQ C call ops draw b i o tm):=by
 unfold UQ;exact Yt _ (λ_=>Yt _ (λ_=>ZE) λ_=>Zyz _ _) λ_=>Zzc g _ _ _ _
theorem Zqc {j n:Nat}(h:Vq C ops j=K)(w:j<n):Vr C ops j<Vr C ops n:=by
 unfold Vr
 have g:(zU (j+1)).countP (Vq C ops)=(zU j).countP (Vq C ops)+1:=by
  rw[List.range_succ,List.countP_append];simp[h]
 have u:(zU (j+1)).countP (Vq C ops)<=(zU n).countP (Vq C ops):=yE (List.range_sublist.2 cm);omega
theorem MH {i:Nat}{o:Oper}(h:ops[i]?=O o)(g:Vq C ops i=K):fresh o.op=K/\o.guard=J:=by
 unfold Vq at g;simp only[h,zD]at g;exact⟨g.1.1,by simpa using g.1.2⟩
theorem Zq0 {op:Op}(h:fresh op=K):Yh C op=2:=by
 cases op <;> first|rfl|(simp[fresh]at h;done)
theorem Zlz (j:XE call){draw:Bool}{b i:Nat}{o:Oper}{s s':St}(h:W5 C call ops draw b i o s=O s'):s.2.length<=s'.2.length:=by
 rw[Gq]at h
 cases g:UQ C call ops draw b i o s.1 s.2 with
 |none=>simp[g]at h
 |some p =>
  obtain⟨v,H⟩:=p;simp only[g,zA]at h;subst h;exact (ZkH j draw b i o s.1 s.2 v H g).1
def FarAt (C:Cfg)(ops:Array Oper)(tm:c6):Prop:=∀ (i j:Nat) (x y:Oper) (p:Nat×Nat),ops[i]?=O x->ops[j]?=O y->fY C x.op y.op=O p->LS (eval C tm (.tmp p.1)) (eval C tm (.tmp p.2))=K
def Zqz (C:Cfg)(ops:Array Oper):Prop:=∀ (i j:Nat) (x y:Oper) (p:Nat×Nat),ops[i]?=O x->ops[j]?=O y->fY C x.op y.op=O p->JF ops p.1=K/\JF ops p.2=K
theorem Zu6 {tm:c6}(h:DQ C ops (eval C tm)=K):FarAt C ops tm/\Zqz C ops:=by
 have key:∀ (i j:Nat) (x y:Oper) (p:Nat×Nat),ops[i]?=O x->ops[j]?=O y->fY C x.op y.op=O p->p∈fX C ops:=by
  intro i j x y p hi u g;unfold fX
  cases w:C.far with
  |none=>unfold fY at g;rw[w]at g;cases g
  |some f =>
   dsimp only;rw[List.mem_flatMap];refine⟨x,by rw[zN];exact zM hi,?_⟩;rw[zX];exact⟨y,by rw[zN];exact zM u,g⟩
 unfold DQ Rq Zry at h;rw[zD,zI,zI]at h;refine⟨λi j x y p hi u g=>h.2 p (key i j x y p hi u g),λi j x y p hi u g=>?_⟩;have:=h.1 p (key i j x y p hi u g)
 rwa [zD]at this
theorem ZnN {a k:Nat}{o:Oper}{tm:c6}{v:AV}(h:JF ops a=K)(u:ops[k]?=O o):eval C (Xh tm o.dst v) (.tmp a)=eval C tm (.tmp a):=by
 unfold JF at h;rw[zI]at h;have:=h o (by rw[zN];exact zM u)
 cases j:o.dst with
 |none=>rfl
 |some d =>
  rw[j]at this;simp only[zL]at this;have g:=zR this;show (tm.set d v).getD a (.tuple [])=tm.getD a (.tuple []);rw[zH,zH,zE g]
theorem FarAt.put {tm:c6}(h:FarAt C ops tm)(z:Zqz C ops){k:Nat}{o:Oper}{v:AV}(u:ops[k]?=O o):FarAt C ops (Xh tm o.dst v):=by
 intro i j x y p hi g w;obtain⟨A,B⟩:=z i j x y p hi g w;rw[ZnN A u,ZnN B u];exact h i j x y p hi g w
theorem Zqh {o:Oper}{fl:Bool}{tm:c6}{H H':Hp}{v:AV}{t a q off:Nat}(y:o.op=.load t (.tmp a))(z:eval C tm (.tmp a)=.ptr q off)(h:YF C call ops fl o tm H=O (v,H')) :
 H'=H/\∀ j:Hp,j[q]?=H[q]?->YF C call ops fl o tm j=O (v,j):=by
 unfold YF at h ⊢;split at h
 ·cases h
 ·rename_i hw;simp only[zA,zB]at h;obtain⟨rfl,rfl⟩:=h;exact⟨rfl,λj _=>rfl⟩
 ·rename_i hw;rw[y]at h ⊢;unfold Xf at h ⊢
  have B:Y9 C (eval C tm) (.load t (.tmp a))=J:=by
   simp only[Y9,z,Xk];split <;> rfl
  rw[B]at h ⊢;dsimp only at h ⊢;split at h
  ·cases h
  ·rename_i u;simp only[ZL,z]at h ⊢;split at h
   ·rename_i g sz D E
    cases w:Z2 g sz (.ptr q off) H with
    |none=>rw[w]at h;cases h
    |some r =>
     rw[w]at h;simp only[Option.map_some,zA,zB]at h;obtain⟨rfl,rfl⟩:=h;refine⟨rfl,λj A=>?_⟩;rw[if_neg u];have:Z2 g sz (.ptr q off) j=Z2 g sz (.ptr q off) H:=by unfold Z2;simp only[A]
     rw[this,w];rfl
   ·cases h
theorem Zqi {o:Oper}{fl:Bool}{tm:c6}{H H':Hp}{v:AV}{t a q off:Nat}{w:Operand}(z:o.op=.store t (.tmp a) w)(D:eval C tm (.tmp a)=.ptr q off)(h:YF C call ops fl o tm H=O (v,H')) :
 (H'=H/\∀ g,YF C call ops fl o tm g=O (v,g))\/∃ x y:AObj,H[q]?=O x/\H'=H.set q y/\∀ g:Hp,g[q]?=O x->YF C call ops fl o tm g=O (v,g.set q y):=by
 unfold YF at h ⊢;split at h
 ·cases h
 ·rename_i hw;simp only[zA,zB]at h;obtain⟨rfl,rfl⟩:=h;exact .inl ⟨rfl,λg=>rfl⟩
 ·rename_i hw;rw[z]at h ⊢;unfold Xf at h ⊢;have F:Y9 C (eval C tm) (.store t (.tmp a) w)=J:=rfl;rw[F]at h ⊢;dsimp only at h ⊢;split at h
  ·cases h
  ·rename_i u;simp only[ZL,D]at h ⊢;split at h
   ·split at h
    ·rename_i L;unfold Zc YI at h;dsimp only at h
     cases A:H[q]? with
     |none=>rw[A]at h;cases h
     |some x =>
      cases x with
      |cells l =>
       rw[A]at h;dsimp only at h;split at h
       ·rename_i H1 j;split at j
        ·rename_i E;injection j with j;subst j;simp only[zA,zB]at h;obtain⟨rfl,rfl⟩:=h;refine .inr ⟨_,_,rfl,rfl,λg B=>?_⟩;rw[if_neg u,if_pos L];unfold Zc YI;simp only[B];rw[if_pos E]
        ·cases j
       ·cases h
      |_=>rw[A]at h;cases h
    ·cases h
   ·cases h
theorem Zb2 {x y:Op}{p:Nat×Nat}(h:fY C x y=O p):∃ t u w,x=.load t (.tmp p.1)/\y=.store u (.tmp p.2) w:=by
 unfold fY at h;split at h
 ·cases h
 ·split at h
  ·split at h
   ·injection h with h;subst h;exact⟨_,_,_,rfl,rfl⟩
   ·cases h
  ·cases h
theorem ZxC {i j:Nat}{A B:Oper}{fi fj:Bool}{tm:c6}{H H1 H2:Hp}{v u:AV}(hF:FarAt C ops tm)(hi:ops[i]?=O A)(hj:ops[j]?=O B)(h:Zb1 C A.op B.op=K)
 (D:YF C call ops fi A tm H=O (v,H1)) (E:YF C call ops fj B tm H1=O (u,H2)) :
 ∃ Hj,YF C call ops fj B tm H=O (u,Hj)/\YF C call ops fi A tm Hj=O (v,H2):=by
 have hp:∀ {x y:AV},LS x y=K->∃ q o L o',x=.ptr q o/\y=.ptr L o'/\q≠L:=by
  intro x y h;unfold LS at h;split at h
  ·simp only[zL]at h;exact⟨_,_,_,_,rfl,rfl,zR h⟩
  ·cases h
 unfold Zb1 at h;rw[zG]at h;rcases h with h|h
 ·obtain⟨p,F⟩:=zJ.1 h;obtain⟨t,w,z,M,N⟩:=Zb2 F;obtain⟨q,o,L,o',R,S,g⟩:=hp (hF i j A B p hi hj F);obtain⟨rfl,T⟩:=Zqh M R D;rcases Zqi N S E with ⟨rfl,Z⟩|⟨x,y,Z,rfl,k3⟩
  ·exact⟨_,E,D⟩
  ·exact⟨_,E,T _ (zE g.symm)⟩
 ·obtain⟨p,F⟩:=zJ.1 h;obtain⟨t,w,z,M,N⟩:=Zb2 F;obtain⟨q,o,L,o',R,S,g⟩:=hp (hF j i B A p hj hi F);obtain⟨rfl,T⟩:=Zqh M R E;rcases Zqi N S D with ⟨rfl,Z⟩|⟨x,y,Z,rfl,k3⟩
  ·exact⟨_,E,D⟩
  ·exact⟨_,T _ (zE g.symm).symm,D⟩
theorem Zso (ad:XE call){b i j:Nat}{F L:Oper}{s s1 Z:St}(hF:FarAt C ops s.1)(hi:ops[i]?=O F)(hj:ops[j]?=O L)(T:b+Vr C ops ops.size<=s.2.length)(aa:F.apart ops L=K)
 (y:Vq C ops j=K\/(Vq C ops j=Q/\Znc C (Xv C ops i) (Xv C ops j) F.op L.op)) (R:W5 C call ops K b i F s=O s1) (N:W5 C call ops K b j L s1=O Z) :
 ∃ s2,W5 C call ops K b j L s=O s2/\W5 C call ops K b i F s2=O Z:=by
 obtain⟨a1,a2,a3⟩:=Oper.apart_spec aa;obtain⟨tm,H⟩:=s;rw[Gq]at R N;simp only at R T
 cases h:UQ C call ops K b i F tm H with
 |none=>simp[h]at R
 |some p =>
  obtain⟨v,H1⟩:=p;simp only[h,zA]at R;subst R;simp only at N;rw[ZiF (Zlj a1)]at N
  cases g:UQ C call ops K b j L tm H1 with
  |none=>simp[g]at N
  |some q =>
   obtain⟨u,H2⟩:=q;simp only[g,zA]at N;subst N
   have key:∃ Hj,UQ C call ops K b j L tm H=O (u,Hj)/\UQ C call ops K b i F tm Hj=O (v,H2):=by
    rcases y with S|⟨S,y⟩
    ·have ae:j<ops.size:=(zC.1 hj).1;have ag:=Zqc S ae;unfold UQ at g;simp only[S,zV,if_true]at g;split at g
     ·cases g
     ·rename_i ac;unfold D2 at g;split at g
      ·rename_i cs ab;split at g
       ·rename_i hp;split at g
        ·rename_i hT;simp only[zA,zB]at g;obtain⟨rfl,rfl⟩:=g;obtain⟨_,hf⟩:=ZkH ad K b i F tm H v H1 h;obtain⟨g1,g2⟩:=hf _ cm hp;refine⟨H.set (b+Vr C ops j) cs,?_,g2 _⟩;unfold UQ;simp only[S,zV,if_true];rw[if_neg ac];unfold D2;rw[ab];simp only;rw[g1];simp only[hT,if_true]
        ·cases g
       ·cases g
      ·cases g
    ·have e2:∀ H,UQ C call ops K b j L tm H=YF C call ops (Xv C ops j) L tm H:=λH=>by unfold UQ;simp[S]
     rw[e2]at g;simp only[e2]
     cases D:Vq C ops i with
     |true =>
      have af:=Zq0 (C:=C) (MH hi D).1;rcases y with y|y|⟨B,E⟩|⟨B,E⟩|y|y
      rotate_right
      ·exfalso;unfold Zb1 at y;rw[zG]at y;have M:=(MH hi D).1;rcases y with y|y <;> obtain⟨p,hq⟩:=zJ.1 y <;> obtain⟨t,w,z,e1,e2⟩:=Zb2 hq
       ·rw[e1]at M;cases M
       ·rw[e2]at M;cases M
      ·exfalso;rcases y with y|y
       ·omega
       ·unfold UQ at h;simp only[D,zV,if_true]at h;rw[if_pos y]at h;cases h
      ·obtain⟨rfl,A⟩:=hZ y g;exact⟨H,A H,h⟩
      ·exfalso;unfold IM at B;rw[ZpX (MH hi D).1,Bool.or_false,decide_eq_true_eq]at B;omega
      ·omega
      ·exfalso;have:=ZvA (C:=C) (MH hi D).1;unfold IP at y;rw[this]at y;simp at y
     |false =>
      have e1:∀ H,UQ C call ops K b i F tm H=YF C call ops (Xv C ops i) F tm H:=λH=>by unfold UQ;simp[D]
      rw[e1]at h;simp only[e1];rcases y with y|y|⟨B,E⟩|⟨B,E⟩|y|y
      rotate_right
      ·exact ZxC hF hi hj y h g
      rotate_right
      ·exact ZxD y h g
      ·obtain⟨rfl,A⟩:=hZ y h;exact⟨H2,g,A H2⟩
      ·obtain⟨rfl,A⟩:=hZ y g;exact⟨H,A H,h⟩
      ·obtain rfl:=Zee B h;obtain rfl:=Zee E g;exact⟨_,g,h⟩
      ·obtain rfl:=Zit (.inl B) h;obtain⟨l,rfl⟩:=Zsg E g;exact⟨_,g,ZuV B h l⟩
   obtain⟨Hj,k1,k2⟩:=key;refine⟨(Xh tm L.dst u,Hj),by rw[Gq];simp[k1],?_⟩;rw[Gq];simp only;rw[ZiF (Zlj a3),k2];simp only[zA,zB,and_true];exact (Ztt a2).symm
def Any (C:Cfg)(call:ZM)(ops:Array Oper)(b:Nat):Nat->Array Bool->St->St->Prop
 |0,listed,s,r=>Region.ready .any ops listed=[]/\s=r
 |n+1,listed,s,r=>(Region.ready .any ops listed=[]->s=r) /\
  ∀ i∈Region.ready .any ops listed,∃ o s',ops[i]?=O o/\W5 C call ops K b i o s=O s'/\Any C call ops b n (listed.setIfInBounds i K) s' r
def Closed (ops:Array Oper)(g:Array Bool):Prop:=∀ j o,ops[j]?=O o->g.getD j Q=K->∀ e∈o.after,Region.binds .any e=K->g.getD e.on Q=K
theorem Closed.set {g:Array Bool}(h:Closed ops g){i:Nat}(hi:i∈Region.ready .any ops g):Closed ops (g.setIfInBounds i K):=by
 intro j o D B e A z;by_cases y:i=j
 ·subst y;obtain⟨_,E,u,w⟩:=mem_ready.1 hi;rw[D]at u;injection u with u;subst u;exact getD_set_true (w e A z)
 ·rw[getD_set_ne Q y]at B;exact getD_set_true (h j o D B e A z)
theorem kF {g:Array Bool}(h:Closed ops g):∀ (n j i:Nat),XH ops n j i=K->(∀ o,ops[j]?=O o->∀ e∈o.after,Region.binds .any e=K->g.getD e.on Q=K)->g.getD i Q=K:=by
 intro n
 induction n with
 |zero=>intro j i w;simp[XH]at w
 |succ n N =>
  intro j i w L;unfold XH at w;split at w
  ·cases w
  ·rename_i o M;rw[zZ]at w;obtain⟨e,H,z⟩:=w;rw[zD,zG]at z;obtain⟨y,u⟩:=z;have E:=L o M e (by simpa using H) y;rcases u with u|u
   ·rw[<-beq_iff_eq.1 u];exact E
   ·exact N e.on i u (λR D F B A=>h e.on R D E F B A)
theorem iW {g:Array Bool}{i:Nat}(h:g.getD i K=Q):g.getD i Q=Q:=by
 rcases Nat.lt_or_ge i g.size with j|j
 ·simp[j]at h ⊢;exact h
 ·simp[Array.getElem?_eq_none j]at h
theorem Zto (S:XE call)(hK:Zqz C ops){b i:Nat}{L:Oper}(hi:ops[i]?=O L):∀ (n:Nat) (g:Array Bool) (s M r:St),FarAt C ops s.1->b+Vr C ops ops.size<=s.2.length->Closed ops g ->
 (∀ j F,ops[j]?=O F->j≠i->g.getD j K=Q->XH ops ops.size j i=K\/(L.apart ops F=K/\(Vq C ops j=K\/(Vq C ops j=Q/\Znc C (Xv C ops i) (Xv C ops j) L.op F.op)))) ->
 i∈Region.ready .any ops g->W5 C call ops K b i L s=O M->Any C call ops b n (g.setIfInBounds i K) M r->Any C call ops b (n+1) g s r:=by
 intro n
 induction n with
 |zero =>
  intro g s M r _ _ _ _ E hs H;refine⟨λh=>(by rw[h]at E;cases E),λj T=>?_⟩;by_cases u:j=i
  ·subst u;exact⟨L,M,hi,hs,H⟩
  ·have:=ready_mono T u;rw[H.1]at this;cases this
 |succ n ih =>
  intro g s M r hF D R z E hs H;refine⟨λh=>(by rw[h]at E;cases E),λj T=>?_⟩;by_cases u:j=i
  ·subst u;exact⟨L,M,hi,hs,H⟩
  ·obtain⟨F,ah,y,ag,Hj⟩:=H.2 j (ready_mono T u);obtain⟨B,ai,w,N⟩:=mem_ready.1 T;rw[y]at w;injection w with w;subst w;rcases z j F y u B with hb|⟨ac,ae⟩
   ·exfalso;have h1:=kF R ops.size j i hb (λo ho e he ad=>by rw[y]at ho;injection ho with ho;subst ho;exact N e he ad);rw[iW (mem_ready.1 E).1]at h1;cases h1
   ·obtain⟨s2,A,h3⟩:=Zso S hF hi y D ac ae hs ag
    have ab:FarAt C ops s2.1:=by
     rw[Gq]at A
     cases hv:UQ C call ops K b j F s.1 s.2 with
     |none=>rw[hv]at A;cases A
     |some p =>
      rw[hv]at A;simp only[zA]at A;rw[<-A];exact hF.put hK y
    refine⟨F,s2,y,A,ih (g.setIfInBounds j K) s2 ah r ab (yD D (Zlz S A)) (R.set T) (λk ok hk af aa=>z k ok hk af ?_) (ready_mono E (Ne.symm u)) h3 ?_⟩
    ·by_cases Z:j=k
     ·subst Z;exact B
     ·rw[getD_set_ne K Z]at aa;exact aa
    ·rw[Array.setIfInBounds_comm _ _ u];exact Hj
theorem ZtO {i j:Nat}{u g:Oper}(ab:i<j)(hi:ops[i]?=O u)(H:ops[j]?=O g)(w:j≠i)(M:XH ops ops.size i j=Q)(N:XH ops ops.size j i=Q):Vq C ops j=K\/(Vq C ops j=Q/\Znc C (Xv C ops i) (Xv C ops j) u.op g.op):=by
 cases z:Vq C ops j with
 |true=>exact .inl rfl
 |false =>
 refine .inr ⟨rfl,?_⟩;by_cases D:Yh C u.op<=1/\fresh g.op=K
 ·exact .inr (.inr (.inr (.inl D)))
 by_cases y:ZhJ C u.op g.op=K
 ·have T:i<ops.size:=(zC.1 hi).1;have A:j<ops.size:=(zC.1 H).1;have ac:Yh C u.op<=1\/2<=Yh C u.op:=cm
  have B:∀ (i j:Nat) (u g:Oper),ops[i]?=O u->ops[j]?=O g->j≠i->j<ops.size->XH ops ops.size i j=Q->XH ops ops.size j i=Q->ZhJ C u.op g.op=K->(Yh C u.op<=1\/2<=Yh C g.op)->¬ (Yh C u.op<=1/\fresh g.op=K/\i<j)->¬ (i<j/\Vq C ops j=K)->¬ (j<i/\Vq C ops i=K)->Xv C ops i=K:=by
   intro i j u g hi H w A M N y ho Z R S;unfold Xv;simp only[hi];rw[zZ];refine⟨j,zS.2 A,?_⟩
   have L:(decide (Yh C u.op<=1)&&fresh g.op&&decide (i<j))=Q:=by
    rw[zQ];intro e;simp only[zD,decide_eq_true_eq]at e;exact Z ⟨e.1.1,e.1.2,e.2⟩
   have E:(decide (i<j)&&Vq C ops j)=Q:=by
    rw[zQ];intro e;simp only[zD,decide_eq_true_eq]at e;exact R e
   have F:(decide (j<i)&&Vq C ops i)=Q:=by
    rw[zQ];intro e;simp only[zD,decide_eq_true_eq]at e;exact S e
   simp only[H,y,M,N,L,E,F,bne_iff_ne,ne_eq,w,not_false_eq_true,Bool.true_and,Bool.not_false,Bool.and_true,zD,zG,decide_eq_true_eq];exact⟨trivial,ho⟩
  by_cases ha:Yh C u.op<=1\/2<=Yh C g.op
  ·exact .inl (.inr (B i j u g hi H w A M N y ha (λe=>D ⟨e.1,e.2.1⟩) (λe=>by rw[z]at e;cases e.2) (λe=>cm)))
  ·refine .inr (.inl (.inr (B j i g u H hi (Ne.symm w) T N M ?_ (.inl cm) (λe=>cm) (λe=>cm) (λe=>by rw[z]at e;cases e.2))))
   have ht:IP C g.op u.op=IP C u.op g.op:=by
    unfold IP;rw[zW (decide (stC C g.op=1)),zW (decide (stC C g.op=2)),zY]
   have aa:Zb1 C g.op u.op=Zb1 C u.op g.op:=by
    unfold Zb1;rw[zY]
   unfold ZhJ at y ⊢;rw[zY (decide (Yh C g.op=0)),zW (IM C g.op),ht,aa];exact y
 ·unfold ZhJ at y;simp only[zL,Bool.not_eq_false,zG,decide_eq_true_eq,zD]at y;rcases y with (((h|h)|h)|h)|h
  ·exact .inl (.inl h)
  ·exact .inr (.inl (.inl h))
  ·exact .inr (.inr (.inl h))
  ·exact .inr (.inr (.inr (.inr (.inl h))))
  ·exact .inr (.inr (.inr (.inr (.inr h))))
theorem Zo0 (h:V9 ops=K):Region.noSelect ops=K/\∀ k o,ops[k]?=O o->(∀ e∈o.after,Region.binds .any e=K->e.on<k) /\
 ∀ j y,ops[j]?=O y->k<j->XH ops ops.size j k=K\/o.apart ops y=K:=by
 unfold V9 at h;rw[zD,zI]at h;refine⟨h.1,λk o B=>?_⟩;have w:k<ops.size:=(zC.1 B).1;have u:=h.2 k (zS.2 w);simp only[B,zD,zI]at u;refine⟨λe E D=>?_,λj y A F=>?_⟩
 ·have:=u.1 e (by simpa using E);simpa[D]using this
 ·have g:j<ops.size:=(zC.1 A).1;have:=u.2 j (zS.2 g);simp only[A,zG,decide_eq_true_eq]at this;rcases this with z|z
  ·omega
  ·exact z
theorem ZoY (S:XE call)(hK:Zqz C ops){b:Nat}(ak:V9 ops=K):∀ (l:List Oper) (k:Nat) (g:Array Bool) (s r:St),FarAt C ops s.1->(∀ j,l[j]?=ops[k+j]?)->g.size=ops.size->(∀ x,x<ops.size->g.getD x Q=decide (x<k))->k<=ops.size->b+Vr C ops ops.size<=s.2.length ->
 YD C call ops K b k l s=O r->Any C call ops b l.length g s r:=by
 obtain⟨al,w⟩:=Zo0 ak;intro l
 induction l with
 |nil =>
  intro k g s r hF hl ab u hk y h;simp[YD]at h;refine⟨?_,h⟩;rw[List.eq_nil_iff_forall_not_mem];intro i hi;obtain⟨h1,o,ho,_⟩:=mem_ready.1 hi;have ai:i<ops.size:=(zC.1 ho).1
  have aa:ops.size<=k:=by
   have:=hl 0;simp at this;exact this
  have:=u i ai;rw[iW h1]at this;simp at this;omega
 |cons o l ih =>
  intro k g s r hF hl ab u hk y h;have z:ops[k]?=O o:=by simpa using (hl 0).symm
  have aa:k<ops.size:=(zC.1 z).1;unfold YD at h;split at h
  ·rename_i s' H
   have N:Closed ops g:=by
    intro j oj M A e R E;have T:j<ops.size:=(zC.1 M).1;rw[u j T]at A;have:=(w j oj M).1 e R E;rw[u e.on cm];simp at A ⊢;omega
   have D:k∈Region.ready .any ops g:=by
    rw[mem_ready];refine⟨?_,o,z,λe R E=>?_⟩
    ·have:=u k aa;simp at this;have F:k<g.size:=cm
     simp[F]at this ⊢;exact this
    ·have:=(w k o z).1 e R E;rw[u e.on cm];simpa using this
   have ae:FarAt C ops s'.1:=by
    have L:=H;rw[Gq]at L
    cases hv:UQ C call ops K b k o s.1 s.2 with
    |none=>rw[hv]at L;cases L
    |some p =>
     rw[hv]at L;simp only[zA]at L;rw[<-L];exact hF.put hK z
   refine Zto S hK z l.length g s s' r hF y N (λj oj M aj ac=>?_) D H (ih (k+1) _ s' r ae (λj=>by have:=hl (j+1);simpa[Nat.add_assoc,Nat.add_comm 1 j]using this) (by simpa using ab) (λx hx=>?_) cm (yD y (Zlz S H)) h)
   ·have A:j<ops.size:=(zC.1 M).1
    have Z:k<j:=by
     have:=u j A;rw[iW ac]at this;simp at this;omega
    rcases (w k o z).2 j oj M Z with E|af
    ·exact .inl E
    ·by_cases E:XH ops ops.size j k=K
     ·exact .inl E
     ·refine .inr ⟨af,ZtO Z z M aj ?_ (by simpa using E)⟩
      cases ah:XH ops ops.size k j with
      |false=>rfl
      |true =>
       exfalso
       have:=kF N ops.size k j ah (λo' B e R ag=>by
        rw[z]at B;injection B with B;subst B;have:=(w k o z).1 e R ag;rw[u e.on cm];simpa using this)
       rw[iW ac]at this;cases this
   ·by_cases ad:k=x
    ·subst ad;have F:k<g.size:=cm
     simp[F]
    ·rw[getD_set_ne Q ad,u x hx];simp;omega
  ·cases h
end
end Go.Am
