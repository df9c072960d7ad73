/- THE ABSTRACT MACHINE -/
import Derived.Test.YtnaneekpogohaaaGreatDoorHmFrx
open List renaming getElem?_set_ne->zE,getElem?_append_left->zF,getD_eq_getElem?_getD->zH,all_eq_true->zI,map_congr_left->zO,mem_range->zS,set_comm->zT,range->zU,mem_filterMap->zX,any_eq_true->zZ,nil_append->yA,append_nil->yB
open Nat renaming ne_of_beq_eq_false->zR,le_trans->yD
open Bool renaming and_eq_true->zD,or_eq_true->zG,false_eq_true->zK,not_eq_true'->zL,eq_false_iff->zQ,and_self->zV,and_comm->zW,or_comm->zY,false_and->yC
open Option renaming isSome_iff_exists->zJ,isNone_iff_eq_none->zP
open Array renaming getElem?_eq_some_iff->zC,mem_of_getElem?->zM,mem_toList_iff->zN
open Option.some renaming injEq->zA
open Prod.mk renaming injEq->zB
open List.Sublist renaming countP_le->yE
namespace Go.Am
open RowKit
section
variable {C:Cfg}{call:ZF}{ops:Array Oper}
theorem Tj {ev g:Operand->AV}{xs:Array Operand}(h:∀ x∈xs,ev x=g x):xs.toList.map ev=xs.toList.map g :=
 zO fun x j=>h x (by simpa using j)
theorem SE {ev g:Operand->AV}{x:Option Operand}(h:∀ y∈x.toArray,ev y=g y):x.map ev=x.map g:=by
 cases x with
 |none=>rfl
 |some y=>simp[h y (by simp)]
theorem Zod {ev j:Operand->AV}{op:Op}(h:∀ x∈op.operands,ev x=j x):ZT C ev op=ZT C j op:=by
 cases op <;> simp only[Op.operands]at h
 case call c =>
  obtain⟨callee,args,argTypes⟩:=c
  cases callee with
  |value f=>rfl
  |invoke r m=>rfl
  |builtin b =>
   have A:∀ x∈args,ev x=j x:=fun x w=>h x (by simp[Call.operands,w]);cases b <;> try rfl
   case len =>
    simp only[ZT];split
    ·rename_i g _;obtain rfl:=Q8 g;simp[A]
    ·rfl
   all_goals
    simp only[ZT];split
    ·rename_i g;obtain rfl:=Xt g;simp[A]
    ·rfl
 case build t ps =>
  have:(ps.toList.map fun p=>(p.1,ev p.2))=ps.toList.map fun p=>(p.1,j p.2):=zO fun p z=>by
   rw[h p.2 (by simp;exact⟨p.1,by simpa using z⟩)]
  simp only[ZT,this]
 case buildSlice t n ps =>
  have:(ps.toList.map fun p=>(p.1,ev p.2))=ps.toList.map fun p=>(p.1,j p.2):=zO fun p z=>by
   rw[h p.2 (by simp;exact⟨p.1,by simpa using z⟩)]
  simp only[ZT,this]
 case makeFunc fn first captured =>
  cases fn <;> simp only[ZT]
  rw[Tj (xs:=first) (fun x w=>h x (by simp[w])),Tj (xs:=captured) (fun x w=>h x (by simp[w]))]
 case slice t x lo hi mx =>
  simp only[ZT];rw[h x (by simp),SE (x:=lo) (fun y u=>h y (by simp at u ⊢;simp[u])),SE (x:=hi) (fun y u=>h y (by simp at u ⊢;simp[u])),SE (x:=mx) (fun y u=>h y (by simp at u ⊢;simp[u]))]
 all_goals first
  |rfl
  |(simp only[ZT];simp[h])
theorem Zo7 {ev j:Operand->AV}{H:Hp}{op:Op}(h:∀ x∈op.operands,ev x=j x):ZE C call ev H op=ZE C call j H op:=by
 cases op <;> simp only[Op.operands]at h
 case call c =>
  obtain⟨callee,args,argTypes⟩:=c
  cases callee with
  |value f =>
   simp only[ZE];rw[h f (by simp[Call.operands]),Tj (xs:=args) (fun x u=>h x (by simp[Call.operands,u]))]
  |invoke r m =>
   simp only[ZE];rw[h r (by simp[Call.operands]),Tj (xs:=args) (fun x u=>h x (by simp[Call.operands,u]))]
  |builtin b =>
   have w:∀ x∈args,ev x=j x:=fun x u=>h x (by simp[Call.operands,u]);cases b <;> try rfl
   all_goals
    simp only[ZE];split
    ·rename_i g y
     first
      |(obtain rfl:=Xt g;simp[w])
      |(obtain rfl:=Q8 g;simp[w])
    ·rfl
 case makeMap t r=>cases r <;> rfl
 all_goals first
  |rfl
  |(simp only[ZE];simp[h])
theorem Zsh {ev g:Operand->AV}{H:Hp}{fl:Bool}{op:Op}(h:∀ x∈op.operands,ev x=g x):Xb C call ev H fl op=Xb C call g H fl op:=by
 unfold Xb;rw[Zod h,Zo7 h]
theorem Zi9 {tm g:List AV}{o:Oper}(h:∀ t∈o.looksAt ops,tm[t]?=g[t]?):∀ x∈o.op.operands,eval C tm x=eval C g x:=by
 intro x j
 cases x with
 |tmp t =>
  simp only[eval,zH];rw[h t];unfold Oper.looksAt;rw[List.mem_append];left;rw[zX];exact⟨.tmp t,by simpa using j,rfl⟩
 |_=>rfl
theorem Zli {tm u:List AV}{o:Oper}(h:∀ t∈o.looksAt ops,tm[t]?=u[t]?):WJ ops tm o=WJ ops u o:=by
 unfold WJ
 cases z:o.guard with
 |none=>rfl
 |some p =>
  obtain⟨j,w⟩:=p;simp only
  cases A:ops[j]? with
  |none=>rfl
  |some g =>
   simp only
   cases y:g.dst with
   |none=>rfl
   |some d =>
    simp only;rw[h d];unfold Oper.looksAt;simp[z,A,y]
theorem Zrn {tm g:List AV}{o:Oper}{fl:Bool}{H:Hp}(h:∀ t∈o.looksAt ops,tm[t]?=g[t]?):Yw C call ops fl o tm H=Yw C call ops fl o g H:=by
 unfold Yw;rw[Zli h,Zsh (Zi9 h)]
theorem ZkG {tm:List AV}{o:Oper}{g:Option Tmp}{v:AV}(h:∀ d,g=some d->d∉o.looksAt ops):∀ t∈o.looksAt ops,(Xd tm g v)[t]?=tm[t]?:=by
 intro t j
 cases g with
 |none=>rfl
 |some d =>
  have:d≠t:=fun e=>h d rfl (e ▸ j);simp[Xd,zE this]
theorem Zd9 {id:FuncId}{args:List AV}{H H':Hp}{v:AV}(A:ZeM C id=true)(h:Xy C call id args H=some (v,H')):H'=H/\∀ y,Xy C call id args y=some (v,y):=by
 unfold Xy at h ⊢
 cases w:C.ext id with
 |some e =>
  simp only[w]at h ⊢;unfold Za9 at h ⊢
  cases j:ZmI e args with
  |none=>simp[j]at h
  |some u =>
   simp only[j,zA,zB]at h ⊢;obtain⟨rfl,rfl⟩:=h;simp
 |none =>
  cases F:C.sum id with
  |some g =>
   simp only[w,F]at h ⊢;unfold ZaX at h ⊢
   cases j:g args with
   |none=>simp[j]at h
   |some u =>
    simp only[j,zA,zB]at h ⊢;obtain⟨rfl,rfl⟩:=h;simp
  |none =>
  unfold ZeM at A;simp only[w,F,Option.isSome_none,Bool.false_or,zD,zP]at A;obtain⟨⟨B,D⟩,E⟩:=A;simp only[w,F,B,D,E,if_true]at h ⊢;unfold Zh at h ⊢;split at h
  ·rename_i z hm;split at h
   ·rename_i K H1 I;split at h
    ·rename_i L J;simp only[zA,zB]at h;obtain⟨rfl,rfl⟩:=h;exact⟨rfl,fun y=>rfl⟩
    ·cases h
   ·cases h
  ·cases h
theorem Zms {x:AV}{H H':Hp}{v:AV}(h:GD x H=some (v,H')):H'=H:=by
 unfold GD at h;split at h
 ·split at h
  ·simp only[zA,zB]at h;exact h.2.symm
  ·cases h
 ·cases h
theorem Zqu {k:Nat}{x:AV}{H:Hp}{v:List AV}(h:elems k x H=some v)(l:Hp):elems k x (H++l)=some v:=by
 cases x with
 |rs ag k' o off len cap =>
  unfold elems at h ⊢;simp only at h ⊢;split at h
  ·rename_i j;rw[if_pos j];split at h
   ·rename_i u g;rw[zF (Zg g),g];exact h
   ·cases h
  ·cases h
 |ws ag k' o e len =>
  unfold elems at h ⊢;simp only at h ⊢;split at h
  ·rename_i j;rw[if_pos j];split at h
   ·rename_i w u g;rw[zF (Zg g),g];exact h
   ·cases h
  ·cases h
 |_=>exact h
theorem Zoq {x:AV}{H H':Hp}{v:AV}(h:GD x H=some (v,H'))(l:Hp):GD x (H++l)=some (v,H++l):=by
 unfold GD at h ⊢;split at h
 ·rename_i xs g
  have:Jm x (H++l)=some xs:=by
   unfold Jm at g ⊢;split at g
   ·cases g
   ·exact Zqu g l
  rw[this];split at h
  ·rename_i s j;simp only[zA,zB]at h;simp only[j,h.1]
  ·cases h
 ·cases h
theorem Zdf {ev:Operand->AV}(B:∀ f,ev (.func f)=.fn (.func f) [] []){H H':Hp}{fl:Bool}{op:Op}{v:AV}(w:Y1 C op=0\/fl=true)(h:Xb C call ev H fl op=some (v,H')):H'=H/\∀ A,Xb C call ev A fl op=some (v,A):=by
 unfold Xb at h ⊢;split at h
 ·rename_i v' E;simp only[zA,zB]at h;obtain⟨rfl,rfl⟩:=h;exact⟨rfl,fun A=>rfl⟩
 ·split at h
  ·cases h
  ·rename_i y
   have g:Y1 C op=0:=by
    rcases w with w|w
    ·exact w
    ·exact absurd w y
   simp only[y]
   cases op with
   |call c =>
    obtain⟨callee,args,argTypes⟩:=c
    cases callee with
    |value f =>
     cases f with
     |func id =>
      have j:ZeM C id=true:=by
       cases j:ZeM C id with
       |true=>rfl
       |false=>simp[Y1,j]at g
      simp only[ZE,ZaK,Yf,B,yA,yB,zK,if_false]at h ⊢;exact Zd9 j h
     |tmp t =>
      have j:ZaK C (.tmp t) args=true:=by
       cases j:ZaK C (.tmp t) args with
       |true=>rfl
       |false=>simp[Y1,j]at g
      simp only[ZE,j,if_true]at h ⊢;unfold Xz qC at h ⊢;split at h
      ·rename_i id first u D
       split at h
       ·rename_i z;simp only[if_pos z,zK,if_false];exact Zd9 z h
       ·cases h
      ·cases h
     |_=>simp[Y1,ZaK]at g
    |invoke r m=>simp[Y1]at g
    |builtin b=>cases b <;> first|(simp[Y1]at g;done)|(simp[ZE]at h;done)
   |convert s d x=>simp only[Y1]at g;split at g <;> cases g
   |_=>first|(simp[Y1]at g;done)|(simp[ZE]at h;done)
theorem Zsj {ev:Operand->AV}(A:∀ f,ev (.func f)=.fn (.func f) [] []){H H':Hp}{fl:Bool}{op:Op}{v:AV}(w:Y1 C op<=1\/fl=true)(h:Xb C call ev H fl op=some (v,H')):H'=H:=by
 by_cases y:Y1 C op=0\/fl=true
 ·exact (Zdf A y h).1
 ·have u:Y1 C op=1:=by
   rcases w with w|w
   ·have:Y1 C op≠0:=fun e=>y (.inl e);omega
   ·exact absurd (.inr w) y
  unfold Xb at h;split at h
  ·simp only[zA,zB]at h;exact h.2.symm
  ·split at h
   ·cases h
   ·cases op with
    |load t a =>
     simp only[ZE]at h;split at h
     ·rename_i g sz _ _
      cases j:Z3 g sz (ev a) H with
      |none=>simp[j]at h
      |some r=>simp[j]at h;exact h.2.symm
     ·cases h
    |lookup t x k B =>
     simp only[ZE]at h;split at h
     ·rename_i d e _;split at h
      ·rename_i z _
       cases j:Y8 d z B (ev x) (ev k) H with
       |none=>simp[j]at h
       |some r=>simp[j]at h;exact h.2.symm
      ·cases h
     ·cases h
    |call c =>
     obtain⟨callee,args,argTypes⟩:=c
     cases callee with
     |value f=>exfalso;cases f <;> simp only[Y1]at u <;> split at u <;> omega
     |invoke r m=>simp[Y1]at u
     |builtin b =>
      cases b <;> first|(simp[Y1]at u;done)|skip
      simp only[ZE]at h;split at h
      ·rename_i x t _ _;split at h
       ·cases j:JL (ev x) H with
        |none=>simp[j]at h
        |some r=>simp[j]at h;exact h.2.symm
       ·cases h
      ·cases h
    |convert s d x =>
     have hw:C.wrb d=false:=by
      cases hw:C.wrb d with
      |false=>rfl
      |true=>simp[Y1,hw]at u
     simp only[ZE,hw,yC]at h;split at h
     ·split at h
      ·exact Zms h
      ·cases h
     ·cases h
     ·cases h
    |_=>first|(simp[Y1]at u;done)|(simp[ZE]at h;done)
theorem Zs8 {id:FuncId}{args:List AV}{H H':Hp}{v:AV}(g:C.ro id=true)(j:C.flat id=false)(u:C.ext id=none)(w:C.sum id=none)(y:C.eff id=none)(h:Xy C call id args H=some (v,H')):H'=H:=by
 unfold Xy at h;simp only[g,j,u,w,y,zK,if_false,if_true]at h;split at h
 ·unfold Jr at h;split at h
  ·split at h
   ·split at h
    ·simp only[zA,zB]at h;exact h.2.symm
    ·cases h
   ·cases h
  ·cases h
 ·cases h
theorem ZyP {ev:Operand->AV}(j:∀ f,ev (.func f)=.fn (.func f) [] []){H H':Hp}{fl:Bool}{op:Op}{v:AV}(g:Znw C op=true)(h:Xb C call ev H fl op=some (v,H')):H'=H:=by
 unfold Xb at h;split at h
 ·simp only[zA,zB]at h;exact h.2.symm
 ·split at h
  ·cases h
  ·unfold Znw at g;split at g
   ·simp only[zD,zL,zP]at g;obtain⟨⟨⟨⟨u,w⟩,y⟩,z⟩,A⟩:=g;simp only[ZE,ZaK,Yf,j,yA,yB,zK,if_false]at h;exact Zs8 u w y z A h
   ·cases g
theorem Zp7 {op:Op}(h:fresh op=true):Znw C op=false:=by
 cases op <;> first|rfl|(simp[fresh]at h;done)
theorem ZaG {o:Oper}{fl:Bool}{tm:List AV}{H H':Hp}{v:AV}(w:Y1 C o.op=0\/fl=true)(h:Yw C call ops fl o tm H=some (v,H')):H'=H/\∀ g,Yw C call ops fl o tm g=some (v,g):=by
 unfold Yw at h ⊢;split at h
 ·cases h
 ·rename_i hw;simp only[zA,zB]at h;obtain⟨rfl,rfl⟩:=h;exact⟨rfl,fun g=>rfl⟩
 ·rename_i hw;obtain⟨j,u⟩:=Zdf (fun _=>rfl) w h;exact⟨j,fun g=>u g⟩
theorem ZiE {o:Oper}{fl:Bool}{tm:List AV}{H H':Hp}{v:AV}(g:Y1 C o.op<=1\/fl=true)(h:Yw C call ops fl o tm H=some (v,H')):H'=H:=by
 unfold Yw at h;split at h
 ·cases h
 ·simp only[zA,zB]at h;exact h.2.symm
 ·exact Zsj (fun _=>rfl) g h
theorem Zyg {o:Oper}{fl:Bool}{tm:List AV}{H H':Hp}{v:AV}(g:Znw C o.op=true)(h:Yw C call ops fl o tm H=some (v,H')):H'=H:=by
 unfold Yw at h;split at h
 ·cases h
 ·simp only[zA,zB]at h;exact h.2.symm
 ·exact ZyP (fun _=>rfl) g h
theorem Zg0 {o:Oper}{fl:Bool}{tm:List AV}{H H':Hp}{v:AV}(g:Ag C o.op=true)(h:Yw C call ops fl o tm H=some (v,H')):H'=H:=by
 unfold Ag at g;rw[zG,decide_eq_true_eq]at g;rcases g with g|g
 ·exact ZiE (.inl g) h
 ·exact Zyg g h
theorem Zsl {tm:List AV}{x y:Option Tmp}{v u:AV}(h:∀ d,x=some d->y≠some d):Xd (Xd tm x v) y u=Xd (Xd tm y u) x v:=by
 cases x with
 |none=>rfl
 |some d =>
  cases y with
  |none=>rfl
  |some e =>
   have g:d≠e:=fun j=>h d rfl (j ▸ rfl);simp only[Xd];exact zT _ _ g
theorem Zq2 {g:Bool}{sz:Nat}{a:AV}{H:Hp}{v:AV}(h:Z3 g sz a H=some v)(l:Hp):Z3 g sz a (H++l)=some v:=by
 cases a with
 |ptr o off =>
  unfold Z3 at h ⊢;simp only at h ⊢;split at h
  ·rename_i c j;rw[zF (Zg j),j];exact h
  ·cases h
 |wp o e off =>
  unfold Z3 at h ⊢;simp only at h ⊢;split at h
  ·rename_i u c j;rw[zF (Zg j),j];exact h
  ·cases h
 |_=>exact h
theorem Zdn {x:AV}{H:Hp}{v:List (AV×AV×Nat)}(h:Xj x H=some v)(l:Hp):Xj x (H++l)=some v:=by
 cases x with
 |map o =>
  unfold Xj at h ⊢;simp only at h ⊢;split at h
  ·rename_i c k g;rw[zF (Zg g),g];exact h
  ·cases h
 |_=>exact h
theorem Zm5 {d:TypeDesc}{z:AV}{j:Bool}{x k:AV}{H:Hp}{v:AV}(h:Y8 d z j x k H=some v)(l:Hp):Y8 d z j x k (H++l)=some v:=by
 unfold Y8 at h ⊢
 cases g:Xj x H with
 |none=>simp[g]at h
 |some u=>rw[Zdn g l];rw[g]at h;exact h
theorem ZpY {x:AV}{H:Hp}{v:AV}(h:JL x H=some v)(l:Hp):JL x (H++l)=some v:=by
 unfold JL at h ⊢
 cases g:Xj x H with
 |none=>simp[g]at h
 |some j=>rw[Zdn g l];rw[g]at h;exact h
theorem Zv2 {ev:Operand->AV}(y:∀ f,ev (.func f)=.fn (.func f) [] []){H H':Hp}{fl:Bool}{op:Op}{v:AV}(E:Y1 C op<=1)(h:Xb C call ev H fl op=some (v,H'))(l:Hp):Xb C call ev (H++l) fl op=some (v,H++l):=by
 by_cases w:Y1 C op=0\/fl=true
 ·exact (Zdf y w h).2 _
 ·have u:Y1 C op=1:=by
   have:Y1 C op≠0:=fun e=>w (.inl e);omega
  have A:¬ fl=true:=fun e=>w (.inr e);unfold Xb at h ⊢;split at h
  ·rename_i v' F;simp only[zA,zB]at h;obtain⟨rfl,rfl⟩:=h;rfl
  ·rw[if_neg A]at h ⊢
   cases op with
   |load t a =>
    simp only[ZE]at h ⊢;split at h
    ·rename_i g sz _ _
     cases j:Z3 g sz (ev a) H with
     |none=>simp[j]at h
     |some r =>
      simp[j]at h;obtain⟨rfl,rfl⟩:=h;simp[Zq2 j l]
    ·cases h
   |lookup t x k B =>
    simp only[ZE]at h ⊢;split at h
    ·rename_i d e _;split at h
     ·rename_i z _
      cases j:Y8 d z B (ev x) (ev k) H with
      |none=>simp[j]at h
      |some r =>
       simp[j]at h;obtain⟨rfl,rfl⟩:=h;simp[Zm5 j l]
     ·cases h
    ·cases h
   |call c =>
    obtain⟨callee,args,argTypes⟩:=c
    cases callee with
    |value f=>exfalso;cases f <;> simp only[Y1]at u <;> split at u <;> omega
    |invoke r m=>simp[Y1]at u
    |builtin b =>
     cases b <;> first|(simp[Y1]at u;done)|skip
     simp only[ZE]at h ⊢;split at h
     ·rename_i x t _ _;split at h
      ·cases j:JL (ev x) H with
       |none=>simp[j]at h
       |some r =>
        simp[j]at h;obtain⟨rfl,rfl⟩:=h;simp[ZpY j l]
      ·cases h
     ·cases h
   |convert s d x =>
    have hw:C.wrb d=false:=by
     cases hw:C.wrb d with
     |false=>rfl
     |true=>simp[Y1,hw]at u
    simp only[ZE,hw,yC]at h ⊢;split at h
    ·split at h
     ·rename_i D;simp only[D,if_true];exact Zoq h l
     ·cases h
    ·cases h
    ·cases h
   |_=>first|(simp[Y1]at u;done)|(simp[ZE]at h;done)
theorem ZtO {o:Oper}{fl:Bool}{tm:List AV}{H H':Hp}{v:AV}(g:Y1 C o.op<=1)(h:Yw C call ops fl o tm H=some (v,H'))(l:Hp):Yw C call ops fl o tm (H++l)=some (v,H++l):=by
 unfold Yw at h ⊢;split at h
 ·cases h
 ·simp only[zA,zB]at h;obtain⟨rfl,rfl⟩:=h;rfl
 ·exact Zv2 (fun _=>rfl) g h l
theorem Zro {o:Oper}{fl:Bool}{tm:List AV}{H H':Hp}{v:AV}(g:fresh o.op=true)(h:Yw C call ops fl o tm H=some (v,H')):∃ l,H'=H++l:=by
 unfold Yw at h;split at h
 ·cases h
 ·simp only[zA,zB]at h;exact⟨[],by rw[<-h.2];simp⟩
 ·unfold Xb at h;split at h
  ·simp only[zA,zB]at h;exact⟨[],by rw[<-h.2];simp⟩
  ·split at h
   ·cases h
   ·generalize o.op=op at g h
    cases op with
    |alloc e =>
     simp only[ZE]at h;split at h
     ·split at h
      ·split at h
       ·simp only[zA,zB]at h;exact⟨_,h.2.symm⟩
       ·cases h
      ·split at h
       ·simp only[zA,zB]at h;exact⟨_,h.2.symm⟩
       ·cases h
     ·cases h
    |box e x =>
     simp only[ZE]at h;unfold ZO at h;split at h
     ·simp only[zA,zB]at h;exact⟨_,h.2.symm⟩
     ·cases h
    |makeMap t r =>
     cases r with
     |none =>
      simp only[ZE,zA,zB]at h;exact⟨_,h.2.symm⟩
     |some r=>simp[fresh]at g
    |_=>simp[fresh]at g
def Zmp (C:Cfg)(g h:Bool)(x y:Op):Prop:=(Y1 C x=0\/g=true)\/(Y1 C y=0\/h=true)\/(Ag C x=true/\Ag C y=true)\/(Y1 C x<=1/\fresh y=true)\/Ak C x y=true\/ZdO C x y=true
def isK (k:Nat)(x:AObj):Bool :=
 match k,x with
 |1,.row _ _=>true
 |2,.cells _=>true
 |_,_=>false
theorem Zsm {k sz:Nat}{a v r:AV}{H H':Hp}(hk:k=1\/k=2)(D:stV k a=true)(h:Za sz a v H=some (r,H')) :
 ∃ (o:Nat) (x y:AObj),H[o]?=some x/\isK k x=true/\isK k y=true/\H'=H.set o y/\∀ j:Hp,j[o]?=some x->Za sz a v j=some (r,j.set o y):=by
 unfold Za at h;split at h
 ·rename_i H1 g;simp only[zA,zB]at h;obtain⟨rfl,rfl⟩:=h;unfold YX at g;split at g
  ·rename_i o off
   have A:k=2:=by
    rcases hk with rfl|rfl
    ·cases D
    ·rfl
   subst A;split at g
   ·rename_i l B;split at g
    ·rename_i w;injection g with g;subst g;exact⟨o,_,_,B,rfl,rfl,rfl,fun j u=>by unfold Za YX;simp only[u];rw[if_pos w]⟩
    ·cases g
   ·cases g
  ·rename_i o e off
   have z:k=1:=by
    rcases hk with rfl|rfl
    ·rfl
    ·cases D
   subst z;split at g
   ·rename_i E l B;split at g
    ·rename_i w;injection g with g;subst g;exact⟨o,_,_,B,rfl,rfl,rfl,fun j u=>by unfold Za YX;simp only[u];rw[if_pos w]⟩
    ·cases g
   ·cases g
  ·cases g
 ·cases h
theorem ZtN {o:Oper}{fl:Bool}{tm:List AV}{H H':Hp}{v:AV}{k:Nat}(hk:k=1\/k=2)(j:stC C o.op=k)(h:Yw C call ops fl o tm H=some (v,H')) :
 (H'=H/\∀ g,Yw C call ops fl o tm g=some (v,g)) \/
 ∃ (q:Nat) (x y:AObj),H[q]?=some x/\isK k x=true/\isK k y=true/\H'=H.set q y/\∀ g:Hp,g[q]?=some x->Yw C call ops fl o tm g=some (v,g.set q y):=by
 unfold Yw at h ⊢;split at h
 ·cases h
 ·rename_i hw;simp only[zA,zB]at h;obtain⟨rfl,rfl⟩:=h;exact .inl ⟨rfl,fun g=>rfl⟩
 ·rename_i hw
  obtain⟨t,a,x,w⟩:∃ t a x,o.op=.store t a x:=by
   generalize o.op=op at j
   cases op with
   |store t a x=>exact⟨t,a,x,rfl⟩
   |_=>(have:k=0:=j.symm);omega
  rw[w]at j h ⊢;unfold Xb at h ⊢;have J:ZT C (eval C tm) (.store t a x)=none:=rfl;rw[J]at h ⊢;dsimp only at h ⊢;split at h
  ·cases h
  ·rename_i u;simp only[ZE]at h ⊢;split at h
   ·split at h
    ·rename_i z;rw[j]at z;obtain⟨q,K,L,A,B,D,E,F⟩:=Zsm hk z h;rw[j];refine .inr ⟨q,K,L,A,B,D,E,fun g I=>?_⟩;rw[if_neg u,if_pos z];exact F g I
    ·cases h
   ·cases h
theorem Zuq {x:Op}(h:fresh x=true):stC C x=0:=by
 cases x <;> first|rfl|(simp[fresh]at h;done)
theorem Zwu {A B:Oper}{E F:Bool}{tm j:List AV}{H H1 D:Hp}{v u:AV}(h:Ak C A.op B.op=true)(M:Yw C call ops E A tm H=some (v,H1))(N:Yw C call ops F B j H1=some (u,D)) :
 ∃ z,Yw C call ops F B j H=some (u,z)/\Yw C call ops E A tm z=some (v,D):=by
 have key:∀ k k',(k=1/\k'=2)\/(k=2/\k'=1)->stC C A.op=k->stC C B.op=k'->∃ z,Yw C call ops F B j H=some (u,z)/\Yw C call ops E A tm z=some (v,D):=by
  intro k k' J hi W;have hk:k=1\/k=2:=by omega
  have I:k'=1\/k'=2:=by omega
  rcases ZtN hk hi M with ⟨rfl,U⟩|⟨q,x,y,L,Y,S,rfl,T⟩
  ·exact⟨D,N,U _⟩
  ·rcases ZtN I W N with ⟨rfl,V⟩|⟨p,Z,O,w,Q,X,rfl,R⟩
   ·exact⟨H,V _,M⟩
   ·have g:q≠p:=by
     rintro rfl
     have K:q<H.length:=Zg L;rw[List.getElem?_set_self K]at w;injection w with w;subst w;rcases J with ⟨rfl,rfl⟩|⟨rfl,rfl⟩ <;> cases y <;> simp[isK]at S Q
    rw[zE g]at w;refine⟨H.set p O,R H w,?_⟩;rw[T (H.set p O) (by rw[zE g.symm];exact L),zT _ _ g]
 unfold Ak at h;simp only[zG,zD,decide_eq_true_eq]at h;rcases h with ⟨a,b⟩|⟨a,b⟩
 ·exact key 1 2 (by omega) a b
 ·exact key 2 1 (by omega) a b
def Q1 (C:Cfg)(call:ZF)(ops:Array Oper)(draw:Bool)(b i:Nat)(o:Oper)(tm:List AV)(H:Hp):Option (AV×Hp) :=
 if draw&&Vu C ops i then (if Xo C ops i then none else JK (b+Vv C ops i) (Mh C (eval C tm) o.op) H) else Yw C call ops (draw&&Xo C ops i) o tm H
theorem GJ {draw:Bool}{b i:Nat}{o:Oper}{s:St}:W7 C call ops draw b i o s=match Q1 C call ops draw b i o s.1 s.2 with|some (v,H)=>some (Xd s.1 o.dst v,H)|none=>none:=by
 unfold W7 Q1;by_cases h:(draw&&Vu C ops i)=true
 ·rw[if_pos h,if_pos h];by_cases g:Xo C ops i=true
  ·rw[if_pos g,if_pos g]
  ·rw[if_neg g,if_neg g];rfl
 ·rw[if_neg h,if_neg h];rfl
theorem Zr3 {ev g:Operand->AV}{op:Op}(h:∀ x∈op.operands,ev x=g x):Mh C ev op=Mh C g op:=by
 cases op <;> try rfl
 case makeMap t r=>cases r <;> rfl
 case box t x=>simp only[Mh];rw[h x (by simp[Op.operands])]
theorem ZiO {draw:Bool}{b i:Nat}{tm g:List AV}{o:Oper}{H:Hp}(h:∀ t∈o.looksAt ops,tm[t]?=g[t]?):Q1 C call ops draw b i o tm H=Q1 C call ops draw b i o g H:=by
 unfold Q1;rw[Zrn h,Zr3 (Zi9 h)]
theorem Zxv (p:Nat)(j:Option AObj):Xf (JK p j):=by
 cases j with
 |none=>exact Zv
 |some l =>
  intro H v H' h;unfold JK at h;simp only at h;split at h
  ·rename_i z;split at h
   ·rename_i g;simp only[zA,zB]at h;obtain⟨rfl,rfl⟩:=h;refine⟨by simp,fun o A y=>?_⟩;obtain⟨u,w⟩:=Nb y (fun e=>by rw[e]at g;cases g);refine⟨w,fun x=>?_⟩;unfold JK;simp only;rw[zE u,z];simp only;rw[if_pos g,zT _ _ u]
   ·cases h
  ·cases h
theorem ZjV (g:Xx call)(draw:Bool)(b i:Nat)(o:Oper)(tm:List AV):Xf (Q1 C call ops draw b i o tm):=by
 unfold Q1;exact Ye _ (fun _=>Ye _ (fun _=>Zv) fun _=>Zxv _ _) fun _=>Zyf g _ _ _ _
theorem Zpq {j n:Nat}(h:Vu C ops j=true)(w:j<n):Vv C ops j<Vv C ops n:=by
 unfold Vv
 have g:(zU (j+1)).countP (Vu C ops)=(zU j).countP (Vu C ops)+1:=by
  rw[List.range_succ,List.countP_append];simp[h]
 have u:(zU (j+1)).countP (Vu C ops)<=(zU n).countP (Vu C ops):=yE (List.range_sublist.2 (by omega));omega
theorem NK {i:Nat}{o:Oper}(h:ops[i]?=some o)(g:Vu C ops i=true):fresh o.op=true/\o.guard=none:=by
 unfold Vu at g;simp only[h,zD]at g;exact⟨g.1.1,by simpa using g.1.2⟩
theorem Zpa {op:Op}(h:fresh op=true):Y1 C op=2:=by
 cases op <;> first|rfl|(simp[fresh]at h;done)
theorem ZkT (j:Xx call){draw:Bool}{b i:Nat}{o:Oper}{s s':St}(h:W7 C call ops draw b i o s=some s'):s.2.length<=s'.2.length:=by
 rw[GJ]at h
 cases g:Q1 C call ops draw b i o s.1 s.2 with
 |none=>simp[g]at h
 |some p =>
  obtain⟨v,H⟩:=p;simp only[g,zA]at h;subst h;exact (ZjV j draw b i o s.1 s.2 v H g).1
def FarAt (C:Cfg)(ops:Array Oper)(tm:List AV):Prop:=∀ (i j:Nat) (x y:Oper) (p:Nat×Nat),ops[i]?=some x->ops[j]?=some y->Zag C x.op y.op=some p->MA (eval C tm (.tmp p.1)) (eval C tm (.tmp p.2))=true
def ZpJ (C:Cfg)(ops:Array Oper):Prop:=∀ (i j:Nat) (x y:Oper) (p:Nat×Nat),ops[i]?=some x->ops[j]?=some y->Zag C x.op y.op=some p->JY ops p.1=true/\JY ops p.2=true
theorem Zt0 {tm:List AV}(h:DN C ops (eval C tm)=true):FarAt C ops tm/\ZpJ C ops:=by
 have key:∀ (i j:Nat) (x y:Oper) (p:Nat×Nat),ops[i]?=some x->ops[j]?=some y->Zag C x.op y.op=some p->p∈Zaf C ops:=by
  intro i j x y p hi u g;unfold Zaf
  cases w:C.far with
  |none=>unfold Zag at g;rw[w]at g;cases g
  |some f =>
   dsimp only;rw[List.mem_flatMap];refine⟨x,by rw[zN];exact zM hi,?_⟩;rw[zX];exact⟨y,by rw[zN];exact zM u,g⟩
 unfold DN R9 ZqG at h;rw[zD,zI,zI]at h;refine⟨fun i j x y p hi u g=>h.2 p (key i j x y p hi u g),fun i j x y p hi u g=>?_⟩;have:=h.1 p (key i j x y p hi u g)
 rwa [zD]at this
theorem ZmZ {a k:Nat}{o:Oper}{tm:List AV}{v:AV}(h:JY ops a=true)(u:ops[k]?=some o):eval C (Xd tm o.dst v) (.tmp a)=eval C tm (.tmp a):=by
 unfold JY at h;rw[zI]at h;have:=h o (by rw[zN];exact zM u)
 cases j:o.dst with
 |none=>rfl
 |some d =>
  rw[j]at this;simp only[zL]at this;have g:=zR this;show (tm.set d v).getD a (.tuple [])=tm.getD a (.tuple []);rw[zH,zH,zE g]
theorem FarAt.put {tm:List AV}(h:FarAt C ops tm)(z:ZpJ C ops){k:Nat}{o:Oper}{v:AV}(u:ops[k]?=some o):FarAt C ops (Xd tm o.dst v):=by
 intro i j x y p hi g w;obtain⟨A,B⟩:=z i j x y p hi g w;rw[ZmZ A u,ZmZ B u];exact h i j x y p hi g w
theorem Zpw {o:Oper}{fl:Bool}{tm:List AV}{H H':Hp}{v:AV}{t a q off:Nat}(y:o.op=.load t (.tmp a))(z:eval C tm (.tmp a)=.ptr q off)(h:Yw C call ops fl o tm H=some (v,H')) :
 H'=H/\∀ j:Hp,j[q]?=H[q]?->Yw C call ops fl o tm j=some (v,j):=by
 unfold Yw at h ⊢;split at h
 ·cases h
 ·rename_i hw;simp only[zA,zB]at h;obtain⟨rfl,rfl⟩:=h;exact⟨rfl,fun j _=>rfl⟩
 ·rename_i hw;rw[y]at h ⊢;unfold Xb at h ⊢
  have B:ZT C (eval C tm) (.load t (.tmp a))=none:=by
   simp only[ZT,z,Ji];split <;> rfl
  rw[B]at h ⊢;dsimp only at h ⊢;split at h
  ·cases h
  ·rename_i u;simp only[ZE,z]at h ⊢;split at h
   ·rename_i g sz D E
    cases w:Z3 g sz (.ptr q off) H with
    |none=>rw[w]at h;cases h
    |some r =>
     rw[w]at h;simp only[Option.map_some,zA,zB]at h;obtain⟨rfl,rfl⟩:=h;refine⟨rfl,fun j A=>?_⟩;rw[if_neg u];have:Z3 g sz (.ptr q off) j=Z3 g sz (.ptr q off) H:=by unfold Z3;simp only[A]
     rw[this,w];rfl
   ·cases h
theorem Zpx {o:Oper}{fl:Bool}{tm:List AV}{H H':Hp}{v:AV}{t a q off:Nat}{w:Operand}(z:o.op=.store t (.tmp a) w)(D:eval C tm (.tmp a)=.ptr q off)(h:Yw C call ops fl o tm H=some (v,H')) :
 (H'=H/\∀ g,Yw C call ops fl o tm g=some (v,g))\/∃ x y:AObj,H[q]?=some x/\H'=H.set q y/\∀ g:Hp,g[q]?=some x->Yw C call ops fl o tm g=some (v,g.set q y):=by
 unfold Yw at h ⊢;split at h
 ·cases h
 ·rename_i hw;simp only[zA,zB]at h;obtain⟨rfl,rfl⟩:=h;exact .inl ⟨rfl,fun g=>rfl⟩
 ·rename_i hw;rw[z]at h ⊢;unfold Xb at h ⊢;have F:ZT C (eval C tm) (.store t (.tmp a) w)=none:=rfl;rw[F]at h ⊢;dsimp only at h ⊢;split at h
  ·cases h
  ·rename_i u;simp only[ZE,D]at h ⊢;split at h
   ·split at h
    ·rename_i I;unfold Za YX at h;dsimp only at h
     cases A:H[q]? with
     |none=>rw[A]at h;cases h
     |some x =>
      cases x with
      |cells l =>
       rw[A]at h;dsimp only at h;split at h
       ·rename_i H1 j;split at j
        ·rename_i E;injection j with j;subst j;simp only[zA,zB]at h;obtain⟨rfl,rfl⟩:=h;refine .inr ⟨_,_,rfl,rfl,fun g B=>?_⟩;rw[if_neg u,if_pos I];unfold Za YX;simp only[B];rw[if_pos E]
        ·cases j
       ·cases h
      |_=>rw[A]at h;cases h
    ·cases h
   ·cases h
theorem ZdP {x y:Op}{p:Nat×Nat}(h:Zag C x y=some p):∃ t u w,x=.load t (.tmp p.1)/\y=.store u (.tmp p.2) w:=by
 unfold Zag at h;split at h
 ·cases h
 ·split at h
  ·split at h
   ·injection h with h;subst h;exact⟨_,_,_,rfl,rfl⟩
   ·cases h
  ·cases h
theorem Zwt {i j:Nat}{A B:Oper}{T U:Bool}{tm:List AV}{H H1 R:Hp}{v u:AV}(V:FarAt C ops tm)(hi:ops[i]?=some A)(W:ops[j]?=some B)(h:ZdO C A.op B.op=true)
 (D:Yw C call ops T A tm H=some (v,H1)) (E:Yw C call ops U B tm H1=some (u,R)) :
 ∃ S,Yw C call ops U B tm H=some (u,S)/\Yw C call ops T A tm S=some (v,R):=by
 have X:∀ {x y:AV},MA x y=true->∃ q o I Q,x=.ptr q o/\y=.ptr I Q/\q≠I:=by
  intro x y h;unfold MA at h;split at h
  ·simp only[zL]at h;exact⟨_,_,_,_,rfl,rfl,zR h⟩
  ·cases h
 unfold ZdO at h;rw[zG]at h;rcases h with h|h
 ·obtain⟨p,F⟩:=zJ.1 h;obtain⟨t,w,z,J,K⟩:=ZdP F;obtain⟨q,o,I,Q,L,M,g⟩:=X (V i j A B p hi W F);obtain⟨rfl,N⟩:=Zpw J L D;rcases Zpx K M E with ⟨rfl,O⟩|⟨x,y,O,rfl,Y⟩
  ·exact⟨_,E,D⟩
  ·exact⟨_,E,N _ (zE g.symm)⟩
 ·obtain⟨p,F⟩:=zJ.1 h;obtain⟨t,w,z,J,K⟩:=ZdP F;obtain⟨q,o,I,Q,L,M,g⟩:=X (V j i B A p W hi F);obtain⟨rfl,N⟩:=Zpw J L E;rcases Zpx K M D with ⟨rfl,O⟩|⟨x,y,O,rfl,Y⟩
  ·exact⟨_,E,D⟩
  ·exact⟨_,N _ (zE g.symm).symm,D⟩
theorem Zrw (X:Xx call){b i j:Nat}{F I:Oper}{s s1 O:St}(hF:FarAt C ops s.1)(hi:ops[i]?=some F)(Z:ops[j]?=some I)(N:b+Vv C ops ops.size<=s.2.length)(U:F.apart ops I=true)
 (y:Vu C ops j=true\/(Vu C ops j=false/\Zmp C (Xo C ops i) (Xo C ops j) F.op I.op)) (L:W7 C call ops true b i F s=some s1) (K:W7 C call ops true b j I s1=some O) :
 ∃ s2,W7 C call ops true b j I s=some s2/\W7 C call ops true b i F s2=some O:=by
 obtain⟨a1,a2,a3⟩:=Oper.apart_spec U;obtain⟨tm,H⟩:=s;rw[GJ]at L K;simp only at L N
 cases h:Q1 C call ops true b i F tm H with
 |none=>simp[h]at L
 |some p =>
  obtain⟨v,H1⟩:=p;simp only[h,zA]at L;subst L;simp only at K;rw[ZiO (ZkG a1)]at K
  cases g:Q1 C call ops true b j I tm H1 with
  |none=>simp[g]at K
  |some q =>
   obtain⟨u,T⟩:=q;simp only[g,zA]at K;subst K
   have key:∃ Q,Q1 C call ops true b j I tm H=some (u,Q)/\Q1 C call ops true b i F tm Q=some (v,T):=by
    rcases y with M|⟨M,y⟩
    ·have Y:j<ops.size:=(zC.1 Z).1;have ab:=Zpq M Y;unfold Q1 at g;simp only[M,zV,if_true]at g;split at g
     ·cases g
     ·rename_i W;unfold JK at g;split at g
      ·rename_i cs V;split at g
       ·rename_i hp;split at g
        ·rename_i hT;simp only[zA,zB]at g;obtain⟨rfl,rfl⟩:=g;obtain⟨_,hf⟩:=ZjV X true b i F tm H v H1 h;obtain⟨g1,g2⟩:=hf _ (by omega) hp;refine⟨H.set (b+Vv C ops j) cs,?_,g2 _⟩;unfold Q1;simp only[M,zV,if_true];rw[if_neg W];unfold JK;rw[V];simp only;rw[g1];simp only[hT,if_true]
        ·cases g
       ·cases g
      ·cases g
    ·have S:∀ H,Q1 C call ops true b j I tm H=Yw C call ops (Xo C ops j) I tm H:=fun H=>by unfold Q1;simp[M]
     rw[S]at g;simp only[S]
     cases D:Vu C ops i with
     |true =>
      have aa:=Zpa (C:=C) (NK hi D).1;rcases y with y|y|⟨B,E⟩|⟨B,E⟩|y|y
      rotate_right
      ·exfalso;unfold ZdO at y;rw[zG]at y;have J:=(NK hi D).1;rcases y with y|y <;> obtain⟨p,hq⟩:=zJ.1 y <;> obtain⟨t,w,z,R,S⟩:=ZdP hq
       ·rw[R]at J;cases J
       ·rw[S]at J;cases J
      ·exfalso;rcases y with y|y
       ·omega
       ·unfold Q1 at h;simp only[D,zV,if_true]at h;rw[if_pos y]at h;cases h
      ·obtain⟨rfl,A⟩:=ZaG y g;exact⟨H,A H,h⟩
      ·exfalso;unfold Ag at B;rw[Zp7 (NK hi D).1,Bool.or_false,decide_eq_true_eq]at B;omega
      ·omega
      ·exfalso;have:=Zuq (C:=C) (NK hi D).1;unfold Ak at y;rw[this]at y;simp at y
     |false =>
      have R:∀ H,Q1 C call ops true b i F tm H=Yw C call ops (Xo C ops i) F tm H:=fun H=>by unfold Q1;simp[D]
      rw[R]at h;simp only[R];rcases y with y|y|⟨B,E⟩|⟨B,E⟩|y|y
      rotate_right
      ·exact Zwt hF hi Z y h g
      rotate_right
      ·exact Zwu y h g
      ·obtain⟨rfl,A⟩:=ZaG y h;exact⟨T,g,A T⟩
      ·obtain⟨rfl,A⟩:=ZaG y g;exact⟨H,A H,h⟩
      ·obtain rfl:=Zg0 B h;obtain rfl:=Zg0 E g;exact⟨_,g,h⟩
      ·obtain rfl:=ZiE (.inl B) h;obtain⟨l,rfl⟩:=Zro E g;exact⟨_,g,ZtO B h l⟩
   obtain⟨Q,k1,k2⟩:=key;refine⟨(Xd tm I.dst u,Q),by rw[GJ];simp[k1],?_⟩;rw[GJ];simp only;rw[ZiO (ZkG a3),k2];simp only[zA,zB,and_true];exact (Zsl a2).symm
def Any (C:Cfg)(call:ZF)(ops:Array Oper)(b:Nat):Nat->Array Bool->St->St->Prop
 |0,listed,s,r=>Region.ready .any ops listed=[]/\s=r
 |n+1,listed,s,r=>(Region.ready .any ops listed=[]->s=r) /\
  ∀ i∈Region.ready .any ops listed,∃ o s',ops[i]?=some o/\W7 C call ops true b i o s=some s'/\Any C call ops b n (listed.setIfInBounds i true) s' r
def Closed (ops:Array Oper)(g:Array Bool):Prop:=∀ j o,ops[j]?=some o->g.getD j false=true->∀ e∈o.after,Region.binds .any e=true->g.getD e.on false=true
theorem Closed.set {g:Array Bool}(h:Closed ops g){i:Nat}(hi:i∈Region.ready .any ops g):Closed ops (g.setIfInBounds i true):=by
 intro j o D B e A z;by_cases y:i=j
 ·subst y;obtain⟨_,E,u,w⟩:=mem_ready.1 hi;rw[D]at u;injection u with u;subst u;exact getD_set_true (w e A z)
 ·rw[getD_set_ne false y]at B;exact getD_set_true (h j o D B e A z)
theorem Zbi {g:Array Bool}(h:Closed ops g):∀ (n j i:Nat),XB ops n j i=true->(∀ o,ops[j]?=some o->∀ e∈o.after,Region.binds .any e=true->g.getD e.on false=true)->g.getD i false=true:=by
 intro n
 induction n with
 |zero=>intro j i w;simp[XB]at w
 |succ n K =>
  intro j i w I;unfold XB at w;split at w
  ·cases w
  ·rename_i o J;rw[zZ]at w;obtain⟨e,H,z⟩:=w;rw[zD,zG]at z;obtain⟨y,u⟩:=z;have E:=I o J e (by simpa using H) y;rcases u with u|u
   ·rw[<-beq_iff_eq.1 u];exact E
   ·exact K e.on i u (fun L D F B A=>h e.on L D E F B A)
theorem Zb3 {g:Array Bool}{i:Nat}(h:g.getD i true=false):g.getD i false=false:=by
 rcases Nat.lt_or_ge i g.size with j|j
 ·simp[j]at h ⊢;exact h
 ·simp[Array.getElem?_eq_none j]at h
theorem Zsg (M:Xx call)(hK:ZpJ C ops){b i:Nat}{I:Oper}(hi:ops[i]?=some I):∀ (n:Nat) (g:Array Bool) (s J r:St),FarAt C ops s.1->b+Vv C ops ops.size<=s.2.length->Closed ops g ->
 (∀ j F,ops[j]?=some F->j≠i->g.getD j true=false->XB ops ops.size j i=true\/(I.apart ops F=true/\(Vu C ops j=true\/(Vu C ops j=false/\Zmp C (Xo C ops i) (Xo C ops j) I.op F.op)))) ->
 i∈Region.ready .any ops g->W7 C call ops true b i I s=some J->Any C call ops b n (g.setIfInBounds i true) J r->Any C call ops b (n+1) g s r:=by
 intro n
 induction n with
 |zero =>
  intro g s J r _ _ _ _ E S H;refine⟨fun h=>(by rw[h]at E;cases E),fun j N=>?_⟩;by_cases u:j=i
  ·subst u;exact⟨I,J,hi,S,H⟩
  ·have:=ready_mono N u;rw[H.1]at this;cases this
 |succ n ih =>
  intro g s J r hF D L z E S H;refine⟨fun h=>(by rw[h]at E;cases E),fun j N=>?_⟩;by_cases u:j=i
  ·subst u;exact⟨I,J,hi,S,H⟩
  ·obtain⟨F,Z,y,Y,Hj⟩:=H.2 j (ready_mono N u);obtain⟨B,aa,w,K⟩:=mem_ready.1 N;rw[y]at w;injection w with w;subst w;rcases z j F y u B with hb|⟨U,W⟩
   ·exfalso;have h1:=Zbi L ops.size j i hb (fun o R e he V=>by rw[y]at R;injection R with R;subst R;exact K e he V);rw[Zb3 (mem_ready.1 E).1]at h1;cases h1
   ·obtain⟨s2,A,h3⟩:=Zrw M hF hi y D U W S Y
    have T:FarAt C ops s2.1:=by
     rw[GJ]at A
     cases hv:Q1 C call ops true b j F s.1 s.2 with
     |none=>rw[hv]at A;cases A
     |some p =>
      rw[hv]at A;simp only[zA]at A;rw[<-A];exact hF.put hK y
    refine⟨F,s2,y,A,ih (g.setIfInBounds j true) s2 Z r T (yD D (ZkT M A)) (L.set N) (fun k ok hk X Q=>z k ok hk X ?_) (ready_mono E (Ne.symm u)) h3 ?_⟩
    ·by_cases O:j=k
     ·subst O;exact B
     ·rw[getD_set_ne true O]at Q;exact Q
    ·rw[Array.setIfInBounds_comm _ _ u];exact Hj
theorem ZsH {i j:Nat}{u g:Oper}(S:i<j)(hi:ops[i]?=some u)(H:ops[j]?=some g)(w:j≠i)(J:XB ops ops.size i j=false)(K:XB ops ops.size j i=false):Vu C ops j=true\/(Vu C ops j=false/\Zmp C (Xo C ops i) (Xo C ops j) u.op g.op):=by
 cases z:Vu C ops j with
 |true=>exact .inl rfl
 |false =>
 refine .inr ⟨rfl,?_⟩;by_cases D:Y1 C u.op<=1/\fresh g.op=true
 ·exact .inr (.inr (.inr (.inl D)))
 by_cases y:ZhY C u.op g.op=true
 ·have N:i<ops.size:=(zC.1 hi).1;have A:j<ops.size:=(zC.1 H).1;have U:Y1 C u.op<=1\/2<=Y1 C u.op:=by omega
  have B:∀ (i j:Nat) (u g:Oper),ops[i]?=some u->ops[j]?=some g->j≠i->j<ops.size->XB ops ops.size i j=false->XB ops ops.size j i=false->ZhY C u.op g.op=true->(Y1 C u.op<=1\/2<=Y1 C g.op)->¬ (Y1 C u.op<=1/\fresh g.op=true/\i<j)->¬ (i<j/\Vu C ops j=true)->¬ (j<i/\Vu C ops i=true)->Xo C ops i=true:=by
   intro i j u g hi H w A J K y T O L M;unfold Xo;simp only[hi];rw[zZ];refine⟨j,zS.2 A,?_⟩
   have I:(decide (Y1 C u.op<=1)&&fresh g.op&&decide (i<j))=false:=by
    rw[zQ];intro e;simp only[zD,decide_eq_true_eq]at e;exact O ⟨e.1.1,e.1.2,e.2⟩
   have E:(decide (i<j)&&Vu C ops j)=false:=by
    rw[zQ];intro e;simp only[zD,decide_eq_true_eq]at e;exact L e
   have F:(decide (j<i)&&Vu C ops i)=false:=by
    rw[zQ];intro e;simp only[zD,decide_eq_true_eq]at e;exact M e
   simp only[H,y,J,K,I,E,F,bne_iff_ne,ne_eq,w,not_false_eq_true,Bool.true_and,Bool.not_false,Bool.and_true,zD,zG,decide_eq_true_eq];exact⟨trivial,T⟩
  by_cases R:Y1 C u.op<=1\/2<=Y1 C g.op
  ·exact .inl (.inr (B i j u g hi H w A J K y R (fun e=>D ⟨e.1,e.2.1⟩) (fun e=>by rw[z]at e;cases e.2) (fun e=>by omega)))
  ·refine .inr (.inl (.inr (B j i g u H hi (Ne.symm w) N K J ?_ (.inl (by omega)) (fun e=>by omega) (fun e=>by omega) (fun e=>by rw[z]at e;cases e.2))))
   have V:Ak C g.op u.op=Ak C u.op g.op:=by
    unfold Ak;rw[zW (decide (stC C g.op=1)),zW (decide (stC C g.op=2)),zY]
   have Q:ZdO C g.op u.op=ZdO C u.op g.op:=by
    unfold ZdO;rw[zY]
   unfold ZhY at y ⊢;rw[zY (decide (Y1 C g.op=0)),zW (Ag C g.op),V,Q];exact y
 ·unfold ZhY at y;simp only[zL,Bool.not_eq_false,zG,decide_eq_true_eq,zD]at y;rcases y with (((h|h)|h)|h)|h
  ·exact .inl (.inl h)
  ·exact .inr (.inl (.inl h))
  ·exact .inr (.inr (.inl h))
  ·exact .inr (.inr (.inr (.inr (.inl h))))
  ·exact .inr (.inr (.inr (.inr (.inr h))))
theorem Znf (h:V9 ops=true):Region.noSelect ops=true/\∀ k o,ops[k]?=some o->(∀ e∈o.after,Region.binds .any e=true->e.on<k) /\
 ∀ j w,ops[j]?=some w->k<j->XB ops ops.size j k=true\/o.apart ops w=true:=by
 unfold V9 at h;rw[zD,zI]at h;refine⟨h.1,fun k o A=>?_⟩;have u:k<ops.size:=(zC.1 A).1;have hk:=h.2 k (zS.2 u);simp only[A,zD,zI]at hk;refine⟨fun e D B=>?_,fun j w z E=>?_⟩
 ·have:=hk.1 e (by simpa using D);simpa[B]using this
 ·have g:j<ops.size:=(zC.1 z).1;have:=hk.2 j (zS.2 g);simp only[z,zG,decide_eq_true_eq]at this;rcases this with y|y
  ·omega
  ·exact y
theorem Zoc (M:Xx call)(hK:ZpJ C ops){b:Nat}(ac:V9 ops=true):∀ (l:List Oper) (k:Nat) (g:Array Bool) (s r:St),FarAt C ops s.1->(∀ j,l[j]?=ops[k+j]?)->g.size=ops.size->(∀ x,x<ops.size->g.getD x false=decide (x<k))->k<=ops.size->b+Vv C ops ops.size<=s.2.length ->
 Yt C call ops true b k l s=some r->Any C call ops b l.length g s r:=by
 obtain⟨ad,w⟩:=Znf ac;intro l
 induction l with
 |nil =>
  intro k g s r V U R u hk y h;simp[Yt]at h;refine⟨?_,h⟩;rw[List.eq_nil_iff_forall_not_mem];intro i hi;obtain⟨h1,o,ho,_⟩:=mem_ready.1 hi;have aa:i<ops.size:=(zC.1 ho).1
  have Q:ops.size<=k:=by
   have:=U 0;simp at this;exact this
  have:=u i aa;rw[Zb3 h1]at this;simp at this;omega
 |cons o l ih =>
  intro k g s r V U R u hk y h;have z:ops[k]?=some o:=by simpa using (U 0).symm
  have Q:k<ops.size:=(zC.1 z).1;unfold Yt at h;split at h
  ·rename_i s' H
   have K:Closed ops g:=by
    intro j oj J A e L E;have N:j<ops.size:=(zC.1 J).1;rw[u j N]at A;have:=(w j oj J).1 e L E;rw[u e.on (by omega)];simp at A ⊢;omega
   have D:k∈Region.ready .any ops g:=by
    rw[mem_ready];refine⟨?_,o,z,fun e L E=>?_⟩
    ·have:=u k Q;simp at this;have F:k<g.size:=by omega
     simp[F]at this ⊢;exact this
    ·have:=(w k o z).1 e L E;rw[u e.on (by omega)];simpa using this
   have W:FarAt C ops s'.1:=by
    have I:=H;rw[GJ]at I
    cases hv:Q1 C call ops true b k o s.1 s.2 with
    |none=>rw[hv]at I;cases I
    |some p =>
     rw[hv]at I;simp only[zA]at I;rw[<-I];exact V.put hK z
   refine Zsg M hK z l.length g s s' r V y K (fun j oj J ab S=>?_) D H (ih (k+1) _ s' r W (fun j=>by have:=U (j+1);simpa[Nat.add_assoc,Nat.add_comm 1 j]using this) (by simpa using R) (fun x hx=>?_) (by omega) (yD y (ZkT M H)) h)
   ·have A:j<ops.size:=(zC.1 J).1
    have O:k<j:=by
     have:=u j A;rw[Zb3 S]at this;simp at this;omega
    rcases (w k o z).2 j oj J O with E|X
    ·exact .inl E
    ·by_cases E:XB ops ops.size j k=true
     ·exact .inl E
     ·refine .inr ⟨X,ZsH O z J ab ?_ (by simpa using E)⟩
      cases Z:XB ops ops.size k j with
      |false=>rfl
      |true =>
       exfalso
       have:=Zbi K ops.size k j Z (fun o' B e L Y=>by
        rw[z]at B;injection B with B;subst B;have:=(w k o z).1 e L Y;rw[u e.on (by omega)];simpa using this)
       rw[Zb3 S]at this;cases this
   ·by_cases T:k=x
    ·subst T;have F:k<g.size:=by omega
     simp[F]
    ·rw[getD_set_ne false T,u x hx];simp;omega
  ·cases h
end
end Go.Am
