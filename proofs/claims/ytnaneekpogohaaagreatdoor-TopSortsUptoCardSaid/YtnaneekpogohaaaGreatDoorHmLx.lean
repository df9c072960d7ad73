/- THE ABSTRACT MACHINE -/
import Derived.Test.YtnaneekpogohaaaGreatDoorHmFrx
open List renaming getElem?_set_ne->zE,getElem?_append_left->zF,getD_eq_getElem?_getD->zH,all_eq_true->zI,map_congr_left->zO,mem_range->zS,set_comm->zT,range->zU,mem_filterMap->zX,any_eq_true->zZ,nil_append->yA,append_nil->yB
open Nat renaming ne_of_beq_eq_false->zR,le_trans->yD
open Bool renaming and_eq_true->zD,or_eq_true->zG,false_eq_true->zK,not_eq_true'->zL,eq_false_iff->zQ,and_self->zV,and_comm->zW,or_comm->zY,false_and->yC
open Option renaming isSome_iff_exists->zJ,isNone_iff_eq_none->zP
open Array renaming getElem?_eq_some_iff->zC,mem_of_getElem?->zM,mem_toList_iff->zN
open Option.some renaming injEq->zA
open Prod.mk renaming injEq->zB
open List.Sublist renaming countP_le->yE
namespace Go.Am
open RowKit
section
variable {C:Cfg}{call:Zw}{ops:Array Oper}
theorem T6 {ev g:Operand->AV}{xs:Array Operand}(h:∀ x∈xs,ev x=g x):xs.toList.map ev=xs.toList.map g :=
 zO fun x j=>h x (by simpa using j)
theorem So {ev g:Operand->AV}{x:Option Operand}(h:∀ y∈x.toArray,ev y=g y):x.map ev=x.map g:=by
 cases x with
 |none=>rfl
 |some y=>simp[h y (by simp)]
theorem ZnO {ev j:Operand->AV}{op:Op}(h:∀ x∈op.operands,ev x=j x):ZK C ev op=ZK C j op:=by
 cases op <;> simp only[Op.operands]at h
 case call c =>
  obtain⟨callee,args,argTypes⟩:=c
  cases callee with
  |value f=>rfl
  |invoke r m=>rfl
  |builtin b =>
   have A:∀ x∈args,ev x=j x:=fun x w=>h x (by simp[Call.operands,w]);cases b <;> try rfl
   case len =>
    simp only[ZK];split
    ·rename_i g _;obtain rfl:=UP g;simp[A]
    ·rfl
   all_goals
    simp only[ZK];split
    ·rename_i g;obtain rfl:=Xr g;simp[A]
    ·rfl
 case build t ps =>
  have:(ps.toList.map fun p=>(p.1,ev p.2))=ps.toList.map fun p=>(p.1,j p.2):=zO fun p z=>by
   rw[h p.2 (by simp;exact⟨p.1,by simpa using z⟩)]
  simp only[ZK,this]
 case buildSlice t n ps =>
  have:(ps.toList.map fun p=>(p.1,ev p.2))=ps.toList.map fun p=>(p.1,j p.2):=zO fun p z=>by
   rw[h p.2 (by simp;exact⟨p.1,by simpa using z⟩)]
  simp only[ZK,this]
 case makeFunc fn first captured =>
  cases fn <;> simp only[ZK]
  rw[T6 (xs:=first) (fun x w=>h x (by simp[w])),T6 (xs:=captured) (fun x w=>h x (by simp[w]))]
 case slice t x lo hi mx =>
  simp only[ZK];rw[h x (by simp),So (x:=lo) (fun y u=>h y (by simp at u ⊢;simp[u])),So (x:=hi) (fun y u=>h y (by simp at u ⊢;simp[u])),So (x:=mx) (fun y u=>h y (by simp at u ⊢;simp[u]))]
 all_goals first
  |rfl
  |(simp only[ZK];simp[h])
theorem ZnI {ev j:Operand->AV}{H:Hp}{op:Op}(h:∀ x∈op.operands,ev x=j x):ZC C call ev H op=ZC C call j H op:=by
 cases op <;> simp only[Op.operands]at h
 case call c =>
  obtain⟨callee,args,argTypes⟩:=c
  cases callee with
  |value f =>
   simp only[ZC];rw[h f (by simp[Call.operands]),T6 (xs:=args) (fun x u=>h x (by simp[Call.operands,u]))]
  |invoke r m =>
   simp only[ZC];rw[h r (by simp[Call.operands]),T6 (xs:=args) (fun x u=>h x (by simp[Call.operands,u]))]
  |builtin b =>
   have w:∀ x∈args,ev x=j x:=fun x u=>h x (by simp[Call.operands,u]);cases b <;> try rfl
   all_goals
    simp only[ZC];split
    ·rename_i g y
     first
      |(obtain rfl:=Xr g;simp[w])
      |(obtain rfl:=UP g;simp[w])
    ·rfl
 case makeMap t r=>cases r <;> rfl
 all_goals first
  |rfl
  |(simp only[ZC];simp[h])
theorem Zso {ev g:Operand->AV}{H:Hp}{fl:Bool}{op:Op}(h:∀ x∈op.operands,ev x=g x):X9 C call ev H fl op=X9 C call g H fl op:=by
 unfold X9;rw[ZnO h,ZnI h]
theorem ZhL {tm g:List AV}{o:Oper}(h:∀ t∈o.looksAt ops,tm[t]?=g[t]?):∀ x∈o.op.operands,eval C tm x=eval C g x:=by
 intro x j
 cases x with
 |tmp t =>
  simp only[eval,zH];rw[h t];unfold Oper.looksAt;rw[List.mem_append];left;rw[zX];exact⟨.tmp t,by simpa using j,rfl⟩
 |_=>rfl
theorem ZkT {tm u:List AV}{o:Oper}(h:∀ t∈o.looksAt ops,tm[t]?=u[t]?):Wz ops tm o=Wz ops u o:=by
 unfold Wz
 cases z:o.guard with
 |none=>rfl
 |some p =>
  obtain⟨j,w⟩:=p;simp only
  cases A:ops[j]? with
  |none=>rfl
  |some g =>
   simp only
   cases y:g.dst with
   |none=>rfl
   |some d =>
    simp only;rw[h d];unfold Oper.looksAt;simp[z,A,y]
theorem Zrm {tm g:List AV}{o:Oper}{fl:Bool}{H:Hp}(h:∀ t∈o.looksAt ops,tm[t]?=g[t]?):Yu C call ops fl o tm H=Yu C call ops fl o g H:=by
 unfold Yu;rw[ZkT h,Zso (ZhL h)]
theorem Zkl {tm:List AV}{o:Oper}{g:Option Tmp}{v:AV}(h:∀ d,g=some d->d∉o.looksAt ops):∀ t∈o.looksAt ops,(Xa tm g v)[t]?=tm[t]?:=by
 intro t j
 cases g with
 |none=>rfl
 |some d =>
  have:d≠t:=fun e=>h d rfl (e ▸ j);simp[Xa,zE this]
theorem ZcV {id:FuncId}{args:List AV}{H H':Hp}{v:AV}(A:Zex C id=true)(h:X4 C call id args H=some (v,H')):H'=H/\∀ y,X4 C call id args y=some (v,y):=by
 unfold X4 at h ⊢
 cases w:C.ext id with
 |some e =>
  simp only[w]at h ⊢;unfold AC at h ⊢
  cases j:Zmi e args with
  |none=>simp[j]at h
  |some u =>
   simp only[j,zA,zB]at h ⊢;obtain⟨rfl,rfl⟩:=h;simp
 |none =>
  cases F:C.sum id with
  |some g =>
   simp only[w,F]at h ⊢;unfold I1 at h ⊢
   cases j:g args with
   |none=>simp[j]at h
   |some u =>
    simp only[j,zA,zB]at h ⊢;obtain⟨rfl,rfl⟩:=h;simp
  |none =>
  unfold Zex at A;simp only[w,F,Option.isSome_none,Bool.false_or,zD,zP]at A;obtain⟨⟨B,D⟩,E⟩:=A;simp only[w,F,B,D,E,if_true]at h ⊢;unfold Ze at h ⊢;split at h
  ·rename_i z K;split at h
   ·rename_i L H1 I;split at h
    ·rename_i M J;simp only[zA,zB]at h;obtain⟨rfl,rfl⟩:=h;exact⟨rfl,fun y=>rfl⟩
    ·cases h
   ·cases h
  ·cases h
theorem Zm2 {x:AV}{H H':Hp}{v:AV}(h:KY x H=some (v,H')):H'=H:=by
 unfold KY at h;split at h
 ·split at h
  ·simp only[zA,zB]at h;exact h.2.symm
  ·cases h
 ·cases h
theorem Zql {k:Nat}{x:AV}{H:Hp}{v:List AV}(h:elems k x H=some v)(l:Hp):elems k x (H++l)=some v:=by
 cases x with
 |rs ag w o off len cap =>
  unfold elems at h ⊢;simp only at h ⊢;split at h
  ·rename_i j;rw[if_pos j];split at h
   ·rename_i u g;rw[zF (Zh g),g];exact h
   ·cases h
  ·cases h
 |ws ag w o e len =>
  unfold elems at h ⊢;simp only at h ⊢;split at h
  ·rename_i j;rw[if_pos j];split at h
   ·rename_i y u g;rw[zF (Zh g),g];exact h
   ·cases h
  ·cases h
 |_=>exact h
theorem Zo1 {x:AV}{H H':Hp}{v:AV}(h:KY x H=some (v,H'))(l:Hp):KY x (H++l)=some (v,H++l):=by
 unfold KY at h ⊢;split at h
 ·rename_i xs g
  have:QK x (H++l)=some xs:=by
   unfold QK at g ⊢;split at g
   ·cases g
   ·exact Zql g l
  rw[this];split at h
  ·rename_i s j;simp only[zA,zB]at h;simp only[j,h.1]
  ·cases h
 ·cases h
theorem Zd0 {ev:Operand->AV}(B:∀ f,ev (.func f)=.fn (.func f) [] []){H H':Hp}{fl:Bool}{op:Op}{v:AV}(w:Y5 C op=0\/fl=true)(h:X9 C call ev H fl op=some (v,H')):H'=H/\∀ A,X9 C call ev A fl op=some (v,A):=by
 unfold X9 at h ⊢;split at h
 ·rename_i v' E;simp only[zA,zB]at h;obtain⟨rfl,rfl⟩:=h;exact⟨rfl,fun A=>rfl⟩
 ·split at h
  ·cases h
  ·rename_i y
   have g:Y5 C op=0:=by
    rcases w with w|w
    ·exact w
    ·exact absurd w y
   simp only[y]
   cases op with
   |call c =>
    obtain⟨callee,args,argTypes⟩:=c
    cases callee with
    |value f =>
     cases f with
     |func id =>
      have j:Zex C id=true:=by
       cases j:Zex C id with
       |true=>rfl
       |false=>simp[Y5,j]at g
      simp only[ZC,HM,Yd,B,yA,yB,zK,if_false]at h ⊢;exact ZcV j h
     |tmp t =>
      have j:HM C (.tmp t) args=true:=by
       cases j:HM C (.tmp t) args with
       |true=>rfl
       |false=>simp[Y5,j]at g
      simp only[ZC,j,if_true]at h ⊢;unfold Xu qC at h ⊢;split at h
      ·rename_i id first u D
       split at h
       ·rename_i z;simp only[if_pos z,zK,if_false];exact ZcV z h
       ·cases h
      ·cases h
     |_=>simp[Y5,HM]at g
    |invoke r m=>simp[Y5]at g
    |builtin b=>cases b <;> first|(simp[Y5]at g;done)|(simp[ZC]at h;done)
   |convert s d x=>simp only[Y5]at g;split at g <;> cases g
   |_=>first|(simp[Y5]at g;done)|(simp[ZC]at h;done)
theorem Zsq {ev:Operand->AV}(A:∀ f,ev (.func f)=.fn (.func f) [] []){H H':Hp}{fl:Bool}{op:Op}{v:AV}(w:Y5 C op<=1\/fl=true)(h:X9 C call ev H fl op=some (v,H')):H'=H:=by
 by_cases y:Y5 C op=0\/fl=true
 ·exact (Zd0 A y h).1
 ·have u:Y5 C op=1:=by
   rcases w with w|w
   ·have:Y5 C op≠0:=fun e=>y (.inl e);omega
   ·exact absurd (.inr w) y
  unfold X9 at h;split at h
  ·simp only[zA,zB]at h;exact h.2.symm
  ·split at h
   ·cases h
   ·cases op with
    |load t a =>
     simp only[ZC]at h;split at h
     ·rename_i g sz _ _
      cases j:Z3 g sz (ev a) H with
      |none=>simp[j]at h
      |some r=>simp[j]at h;exact h.2.symm
     ·cases h
    |lookup t x k B =>
     simp only[ZC]at h;split at h
     ·rename_i d e _;split at h
      ·rename_i z _
       cases j:Yc d z B (ev x) (ev k) H with
       |none=>simp[j]at h
       |some r=>simp[j]at h;exact h.2.symm
      ·cases h
     ·cases h
    |call c =>
     obtain⟨callee,args,argTypes⟩:=c
     cases callee with
     |value f=>exfalso;cases f <;> simp only[Y5]at u <;> split at u <;> omega
     |invoke r m=>simp[Y5]at u
     |builtin b =>
      cases b <;> first|(simp[Y5]at u;done)|skip
      simp only[ZC]at h;split at h
      ·rename_i x t _ _;split at h
       ·cases j:J7 (ev x) H with
        |none=>simp[j]at h
        |some r=>simp[j]at h;exact h.2.symm
       ·cases h
      ·cases h
    |convert s d x =>
     have hw:C.wrb d=false:=by
      cases hw:C.wrb d with
      |false=>rfl
      |true=>simp[Y5,hw]at u
     simp only[ZC,hw,yC]at h;split at h
     ·split at h
      ·exact Zm2 h
      ·cases h
     ·cases h
     ·cases h
    |_=>first|(simp[Y5]at u;done)|(simp[ZC]at h;done)
theorem Zsf {id:FuncId}{args:List AV}{H H':Hp}{v:AV}(g:C.ro id=true)(j:C.flat id=false)(u:C.ext id=none)(w:C.sum id=none)(y:C.eff id=none)(h:X4 C call id args H=some (v,H')):H'=H:=by
 unfold X4 at h;simp only[g,j,u,w,y,zK,if_false,if_true]at h;split at h
 ·unfold QW at h;split at h
  ·split at h
   ·split at h
    ·simp only[zA,zB]at h;exact h.2.symm
    ·cases h
   ·cases h
  ·cases h
 ·cases h
theorem Zzr {ev:Operand->AV}(j:∀ f,ev (.func f)=.fn (.func f) [] []){H H':Hp}{fl:Bool}{op:Op}{v:AV}(g:Zna C op=true)(h:X9 C call ev H fl op=some (v,H')):H'=H:=by
 unfold X9 at h;split at h
 ·simp only[zA,zB]at h;exact h.2.symm
 ·split at h
  ·cases h
  ·unfold Zna at g;split at g
   ·simp only[zD,zL,zP]at g;obtain⟨⟨⟨⟨u,w⟩,y⟩,z⟩,A⟩:=g;simp only[ZC,HM,Yd,j,yA,yB,zK,if_false]at h;exact Zsf u w y z A h
   ·cases g
theorem ZoH {op:Op}(h:fresh op=true):Zna C op=false:=by
 cases op <;> first|rfl|(simp[fresh]at h;done)
theorem Zan {o:Oper}{fl:Bool}{tm:List AV}{H H':Hp}{v:AV}(w:Y5 C o.op=0\/fl=true)(h:Yu C call ops fl o tm H=some (v,H')):H'=H/\∀ g,Yu C call ops fl o tm g=some (v,g):=by
 unfold Yu at h ⊢;split at h
 ·cases h
 ·rename_i hw;simp only[zA,zB]at h;obtain⟨rfl,rfl⟩:=h;exact⟨rfl,fun g=>rfl⟩
 ·rename_i hw;obtain⟨j,u⟩:=Zd0 (fun _=>rfl) w h;exact⟨j,fun g=>u g⟩
theorem Zim {o:Oper}{fl:Bool}{tm:List AV}{H H':Hp}{v:AV}(g:Y5 C o.op<=1\/fl=true)(h:Yu C call ops fl o tm H=some (v,H')):H'=H:=by
 unfold Yu at h;split at h
 ·cases h
 ·simp only[zA,zB]at h;exact h.2.symm
 ·exact Zsq (fun _=>rfl) g h
theorem ZyQ {o:Oper}{fl:Bool}{tm:List AV}{H H':Hp}{v:AV}(g:Zna C o.op=true)(h:Yu C call ops fl o tm H=some (v,H')):H'=H:=by
 unfold Yu at h;split at h
 ·cases h
 ·simp only[zA,zB]at h;exact h.2.symm
 ·exact Zzr (fun _=>rfl) g h
theorem ZfD {o:Oper}{fl:Bool}{tm:List AV}{H H':Hp}{v:AV}(g:HS C o.op=true)(h:Yu C call ops fl o tm H=some (v,H')):H'=H:=by
 unfold HS at g;rw[zG,decide_eq_true_eq]at g;rcases g with g|g
 ·exact Zim (.inl g) h
 ·exact ZyQ g h
theorem Zss {tm:List AV}{x y:Option Tmp}{v u:AV}(h:∀ d,x=some d->y≠some d):Xa (Xa tm x v) y u=Xa (Xa tm y u) x v:=by
 cases x with
 |none=>rfl
 |some d =>
  cases y with
  |none=>rfl
  |some e =>
   have g:d≠e:=fun j=>h d rfl (j ▸ rfl);simp only[Xa];exact zT _ _ g
theorem ZpM {g:Bool}{sz:Nat}{a:AV}{H:Hp}{v:AV}(h:Z3 g sz a H=some v)(l:Hp):Z3 g sz a (H++l)=some v:=by
 cases a with
 |ptr o off =>
  unfold Z3 at h ⊢;simp only at h ⊢;split at h
  ·rename_i c j;rw[zF (Zh j),j];exact h
  ·cases h
 |wp o e off =>
  unfold Z3 at h ⊢;simp only at h ⊢;split at h
  ·rename_i u c j;rw[zF (Zh j),j];exact h
  ·cases h
 |_=>exact h
theorem Zda {x:AV}{H:Hp}{v:List (AV×AV×Nat)}(h:Xi x H=some v)(l:Hp):Xi x (H++l)=some v:=by
 cases x with
 |map o =>
  unfold Xi at h ⊢;simp only at h ⊢;split at h
  ·rename_i c k g;rw[zF (Zh g),g];exact h
  ·cases h
 |_=>exact h
theorem ZlA {d:TypeDesc}{z:AV}{j:Bool}{x k:AV}{H:Hp}{v:AV}(h:Yc d z j x k H=some v)(l:Hp):Yc d z j x k (H++l)=some v:=by
 unfold Yc at h ⊢
 cases g:Xi x H with
 |none=>simp[g]at h
 |some u=>rw[Zda g l];rw[g]at h;exact h
theorem ZpI {x:AV}{H:Hp}{v:AV}(h:J7 x H=some v)(l:Hp):J7 x (H++l)=some v:=by
 unfold J7 at h ⊢
 cases g:Xi x H with
 |none=>simp[g]at h
 |some j=>rw[Zda g l];rw[g]at h;exact h
theorem Zvn {ev:Operand->AV}(y:∀ f,ev (.func f)=.fn (.func f) [] []){H H':Hp}{fl:Bool}{op:Op}{v:AV}(E:Y5 C op<=1)(h:X9 C call ev H fl op=some (v,H'))(l:Hp):X9 C call ev (H++l) fl op=some (v,H++l):=by
 by_cases w:Y5 C op=0\/fl=true
 ·exact (Zd0 y w h).2 _
 ·have u:Y5 C op=1:=by
   have:Y5 C op≠0:=fun e=>w (.inl e);omega
  have A:¬ fl=true:=fun e=>w (.inr e);unfold X9 at h ⊢;split at h
  ·rename_i v' F;simp only[zA,zB]at h;obtain⟨rfl,rfl⟩:=h;rfl
  ·rw[if_neg A]at h ⊢
   cases op with
   |load t a =>
    simp only[ZC]at h ⊢;split at h
    ·rename_i g sz _ _
     cases j:Z3 g sz (ev a) H with
     |none=>simp[j]at h
     |some r =>
      simp[j]at h;obtain⟨rfl,rfl⟩:=h;simp[ZpM j l]
    ·cases h
   |lookup t x k B =>
    simp only[ZC]at h ⊢;split at h
    ·rename_i d e _;split at h
     ·rename_i z _
      cases j:Yc d z B (ev x) (ev k) H with
      |none=>simp[j]at h
      |some r =>
       simp[j]at h;obtain⟨rfl,rfl⟩:=h;simp[ZlA j l]
     ·cases h
    ·cases h
   |call c =>
    obtain⟨callee,args,argTypes⟩:=c
    cases callee with
    |value f=>exfalso;cases f <;> simp only[Y5]at u <;> split at u <;> omega
    |invoke r m=>simp[Y5]at u
    |builtin b =>
     cases b <;> first|(simp[Y5]at u;done)|skip
     simp only[ZC]at h ⊢;split at h
     ·rename_i x t _ _;split at h
      ·cases j:J7 (ev x) H with
       |none=>simp[j]at h
       |some r =>
        simp[j]at h;obtain⟨rfl,rfl⟩:=h;simp[ZpI j l]
      ·cases h
     ·cases h
   |convert s d x =>
    have hw:C.wrb d=false:=by
     cases hw:C.wrb d with
     |false=>rfl
     |true=>simp[Y5,hw]at u
    simp only[ZC,hw,yC]at h ⊢;split at h
    ·split at h
     ·rename_i D;simp only[D,if_true];exact Zo1 h l
     ·cases h
    ·cases h
    ·cases h
   |_=>first|(simp[Y5]at u;done)|(simp[ZC]at h;done)
theorem Zu5 {o:Oper}{fl:Bool}{tm:List AV}{H H':Hp}{v:AV}(g:Y5 C o.op<=1)(h:Yu C call ops fl o tm H=some (v,H'))(l:Hp):Yu C call ops fl o tm (H++l)=some (v,H++l):=by
 unfold Yu at h ⊢;split at h
 ·cases h
 ·simp only[zA,zB]at h;obtain⟨rfl,rfl⟩:=h;rfl
 ·exact Zvn (fun _=>rfl) g h l
theorem Zrn {o:Oper}{fl:Bool}{tm:List AV}{H H':Hp}{v:AV}(g:fresh o.op=true)(h:Yu C call ops fl o tm H=some (v,H')):∃ l,H'=H++l:=by
 unfold Yu at h;split at h
 ·cases h
 ·simp only[zA,zB]at h;exact⟨[],by rw[<-h.2];simp⟩
 ·unfold X9 at h;split at h
  ·simp only[zA,zB]at h;exact⟨[],by rw[<-h.2];simp⟩
  ·split at h
   ·cases h
   ·generalize o.op=op at g h
    cases op with
    |alloc e =>
     simp only[ZC]at h;split at h
     ·split at h
      ·split at h
       ·simp only[zA,zB]at h;exact⟨_,h.2.symm⟩
       ·cases h
      ·split at h
       ·simp only[zA,zB]at h;exact⟨_,h.2.symm⟩
       ·cases h
     ·cases h
    |box e x =>
     simp only[ZC]at h;unfold ZO at h;split at h
     ·simp only[zA,zB]at h;exact⟨_,h.2.symm⟩
     ·cases h
    |makeMap t r =>
     cases r with
     |none =>
      simp only[ZC,zA,zB]at h;exact⟨_,h.2.symm⟩
     |some r=>simp[fresh]at g
    |_=>simp[fresh]at g
def ZlZ (C:Cfg)(g j:Bool)(x y:Op):Prop:=(Y5 C x=0\/g=true)\/(Y5 C y=0\/j=true)\/(HS C x=true/\HS C y=true)\/(Y5 C x<=1/\fresh y=true)\/HV C x y=true\/Zdu C x y=true
def isK (k:Nat)(x:AObj):Bool :=
 match k,x with
 |1,.row _ _=>true
 |2,.cells _=>true
 |_,_=>false
theorem Zst {k sz:Nat}{a v r:AV}{H H':Hp}(D:k=1\/k=2)(E:stV k a=true)(h:Zf sz a v H=some (r,H')) :
 ∃ (o:Nat) (x y:AObj),H[o]?=some x/\isK k x=true/\isK k y=true/\H'=H.set o y/\∀ j:Hp,j[o]?=some x->Zf sz a v j=some (r,j.set o y):=by
 unfold Zf at h;split at h
 ·rename_i H1 g;simp only[zA,zB]at h;obtain⟨rfl,rfl⟩:=h;unfold YM at g;split at g
  ·rename_i o off
   have A:k=2:=by
    rcases D with rfl|rfl
    ·cases E
    ·rfl
   subst A;split at g
   ·rename_i l B;split at g
    ·rename_i w;injection g with g;subst g;exact⟨o,_,_,B,rfl,rfl,rfl,fun j u=>by unfold Zf YM;simp only[u];rw[if_pos w]⟩
    ·cases g
   ·cases g
  ·rename_i o e off
   have z:k=1:=by
    rcases D with rfl|rfl
    ·rfl
    ·cases E
   subst z;split at g
   ·rename_i F l B;split at g
    ·rename_i w;injection g with g;subst g;exact⟨o,_,_,B,rfl,rfl,rfl,fun j u=>by unfold Zf YM;simp only[u];rw[if_pos w]⟩
    ·cases g
   ·cases g
  ·cases g
 ·cases h
theorem Zu4 {o:Oper}{fl:Bool}{tm:List AV}{H H':Hp}{v:AV}{k:Nat}(J:k=1\/k=2)(j:stC C o.op=k)(h:Yu C call ops fl o tm H=some (v,H')) :
 (H'=H/\∀ g,Yu C call ops fl o tm g=some (v,g)) \/
 ∃ (q:Nat) (x y:AObj),H[q]?=some x/\isK k x=true/\isK k y=true/\H'=H.set q y/\∀ g:Hp,g[q]?=some x->Yu C call ops fl o tm g=some (v,g.set q y):=by
 unfold Yu at h ⊢;split at h
 ·cases h
 ·rename_i hw;simp only[zA,zB]at h;obtain⟨rfl,rfl⟩:=h;exact .inl ⟨rfl,fun g=>rfl⟩
 ·rename_i hw
  obtain⟨t,a,x,w⟩:∃ t a x,o.op=.store t a x:=by
   generalize o.op=op at j
   cases op with
   |store t a x=>exact⟨t,a,x,rfl⟩
   |_=>(have:k=0:=j.symm);omega
  rw[w]at j h ⊢;unfold X9 at h ⊢;have K:ZK C (eval C tm) (.store t a x)=none:=rfl;rw[K]at h ⊢;dsimp only at h ⊢;split at h
  ·cases h
  ·rename_i u;simp only[ZC]at h ⊢;split at h
   ·split at h
    ·rename_i z;rw[j]at z;obtain⟨q,x1,L,A,B,D,E,F⟩:=Zst J z h;rw[j];refine .inr ⟨q,x1,L,A,B,D,E,fun g I=>?_⟩;rw[if_neg u,if_pos z];exact F g I
    ·cases h
   ·cases h
theorem ZuI {x:Op}(h:fresh x=true):stC C x=0:=by
 cases x <;> first|rfl|(simp[fresh]at h;done)
theorem ZwU {B D:Oper}{F I:Bool}{tm j:List AV}{H H1 E:Hp}{v u:AV}(h:HV C B.op D.op=true)(N:Yu C call ops F B tm H=some (v,H1))(O:Yu C call ops I D j H1=some (u,E)) :
 ∃ A,Yu C call ops I D j H=some (u,A)/\Yu C call ops F B tm A=some (v,E):=by
 have key:∀ k z,(k=1/\z=2)\/(k=2/\z=1)->stC C B.op=k->stC C D.op=z->∃ A,Yu C call ops I D j H=some (u,A)/\Yu C call ops F B tm A=some (v,E):=by
  intro k z K hi X;have Y:k=1\/k=2:=by omega
  have J:z=1\/z=2:=by omega
  rcases Zu4 Y hi N with ⟨rfl,V⟩|⟨q,x,y,M,g2,T,rfl,U⟩
  ·exact⟨E,O,V _⟩
  ·rcases Zu4 J X O with ⟨rfl,W⟩|⟨p,x',Q,w,R,Z,rfl,S⟩
   ·exact⟨H,W _,N⟩
   ·have g:q≠p:=by
     rintro rfl
     have L:q<H.length:=Zh M;rw[List.getElem?_set_self L]at w;injection w with w;subst w;rcases K with ⟨rfl,rfl⟩|⟨rfl,rfl⟩ <;> cases y <;> simp[isK]at T R
    rw[zE g]at w;refine⟨H.set p Q,S H w,?_⟩;rw[U (H.set p Q) (by rw[zE g.symm];exact M),zT _ _ g]
 unfold HV at h;simp only[zG,zD,decide_eq_true_eq]at h;rcases h with ⟨a,b⟩|⟨a,b⟩
 ·exact key 1 2 (by omega) a b
 ·exact key 2 1 (by omega) a b
def UK (C:Cfg)(call:Zw)(ops:Array Oper)(draw:Bool)(b i:Nat)(o:Oper)(tm:List AV)(H:Hp):Option (AV×Hp) :=
 if draw&&lag C ops i then (if YF C ops i then none else KV (b+XI C ops i) (T0 C (eval C tm) o.op) H) else Yu C call ops (draw&&YF C ops i) o tm H
theorem G2 {draw:Bool}{b i:Nat}{o:Oper}{s:St}:XU C call ops draw b i o s=match UK C call ops draw b i o s.1 s.2 with|some (v,H)=>some (Xa s.1 o.dst v,H)|none=>none:=by
 unfold XU UK;by_cases h:(draw&&lag C ops i)=true
 ·rw[if_pos h,if_pos h];by_cases g:YF C ops i=true
  ·rw[if_pos g,if_pos g]
  ·rw[if_neg g,if_neg g];rfl
 ·rw[if_neg h,if_neg h];rfl
theorem Zr0 {ev g:Operand->AV}{op:Op}(h:∀ x∈op.operands,ev x=g x):T0 C ev op=T0 C g op:=by
 cases op <;> try rfl
 case makeMap t r=>cases r <;> rfl
 case box t x=>simp only[T0];rw[h x (by simp[Op.operands])]
theorem Ziw {draw:Bool}{b i:Nat}{tm g:List AV}{o:Oper}{H:Hp}(h:∀ t∈o.looksAt ops,tm[t]?=g[t]?):UK C call ops draw b i o tm H=UK C call ops draw b i o g H:=by
 unfold UK;rw[Zrm h,Zr0 (ZhL h)]
theorem Zy0 (p:Nat)(j:Option AObj):Xd (KV p j):=by
 cases j with
 |none=>exact Zv
 |some l =>
  intro H v H' h;unfold KV at h;simp only at h;split at h
  ·rename_i z;split at h
   ·rename_i g;simp only[zA,zB]at h;obtain⟨rfl,rfl⟩:=h;refine⟨by simp,fun o A y=>?_⟩;obtain⟨u,w⟩:=N7 y (fun e=>by rw[e]at g;cases g);refine⟨w,fun x=>?_⟩;unfold KV;simp only;rw[zE u,z];simp only;rw[if_pos g,zT _ _ u]
   ·cases h
  ·cases h
theorem ZjE (g:Xt call)(draw:Bool)(b i:Nat)(o:Oper)(tm:List AV):Xd (UK C call ops draw b i o tm):=by
 unfold UK;exact Ye _ (fun _=>Ye _ (fun _=>Zv) fun _=>Zy0 _ _) fun _=>ZyP g _ _ _ _
theorem Zp5 {j n:Nat}(h:lag C ops j=true)(w:j<n):XI C ops j<XI C ops n:=by
 unfold XI
 have g:(zU (j+1)).countP (lag C ops)=(zU j).countP (lag C ops)+1:=by
  rw[List.range_succ,List.countP_append];simp[h]
 have u:(zU (j+1)).countP (lag C ops)<=(zU n).countP (lag C ops):=yE (List.range_sublist.2 (by omega));omega
theorem NB {i:Nat}{o:Oper}(h:ops[i]?=some o)(g:lag C ops i=true):fresh o.op=true/\o.guard=none:=by
 unfold lag at g;simp only[h,zD]at g;exact⟨g.1.1,by simpa using g.1.2⟩
theorem ZoK {op:Op}(h:fresh op=true):Y5 C op=2:=by
 cases op <;> first|rfl|(simp[fresh]at h;done)
theorem Zky (j:Xt call){draw:Bool}{b i:Nat}{o:Oper}{s s':St}(h:XU C call ops draw b i o s=some s'):s.2.length<=s'.2.length:=by
 rw[G2]at h
 cases g:UK C call ops draw b i o s.1 s.2 with
 |none=>simp[g]at h
 |some p =>
  obtain⟨v,H⟩:=p;simp only[g,zA]at h;subst h;exact (ZjE j draw b i o s.1 s.2 v H g).1
def FarAt (C:Cfg)(ops:Array Oper)(tm:List AV):Prop:=∀ (i j:Nat) (x y:Oper) (p:Nat×Nat),ops[i]?=some x->ops[j]?=some y->Za2 C x.op y.op=some p->MF (eval C tm (.tmp p.1)) (eval C tm (.tmp p.2))=true
def Zps (C:Cfg)(ops:Array Oper):Prop:=∀ (i j:Nat) (x y:Oper) (p:Nat×Nat),ops[i]?=some x->ops[j]?=some y->Za2 C x.op y.op=some p->Ji ops p.1=true/\Ji ops p.2=true
theorem Zt9 {tm:List AV}(h:Dr C ops (eval C tm)=true):FarAt C ops tm/\Zps C ops:=by
 have key:∀ (i j:Nat) (x y:Oper) (p:Nat×Nat),ops[i]?=some x->ops[j]?=some y->Za2 C x.op y.op=some p->p∈Po C ops:=by
  intro i j x y p hi u g;unfold Po
  cases w:C.far with
  |none=>unfold Za2 at g;rw[w]at g;cases g
  |some f =>
   dsimp only;rw[List.mem_flatMap];refine⟨x,by rw[zN];exact zM hi,?_⟩;rw[zX];exact⟨y,by rw[zN];exact zM u,g⟩
 unfold Dr K2 ZqA at h;rw[zD,zI,zI]at h;refine⟨fun i j x y p hi u g=>h.2 p (key i j x y p hi u g),fun i j x y p hi u g=>?_⟩;have:=h.1 p (key i j x y p hi u g)
 rwa [zD]at this
theorem ZmH {a k:Nat}{o:Oper}{tm:List AV}{v:AV}(h:Ji ops a=true)(u:ops[k]?=some o):eval C (Xa tm o.dst v) (.tmp a)=eval C tm (.tmp a):=by
 unfold Ji at h;rw[zI]at h;have:=h o (by rw[zN];exact zM u)
 cases j:o.dst with
 |none=>rfl
 |some d =>
  rw[j]at this;simp only[zL]at this;have g:=zR this;show (tm.set d v).getD a (.tuple [])=tm.getD a (.tuple []);rw[zH,zH,zE g]
theorem FarAt.put {tm:List AV}(h:FarAt C ops tm)(z:Zps C ops){k:Nat}{o:Oper}{v:AV}(u:ops[k]?=some o):FarAt C ops (Xa tm o.dst v):=by
 intro i j x y p hi g w;obtain⟨A,B⟩:=z i j x y p hi g w;rw[ZmH A u,ZmH B u];exact h i j x y p hi g w
theorem Zpb {o:Oper}{fl:Bool}{tm:List AV}{H H':Hp}{v:AV}{t a q off:Nat}(y:o.op=.load t (.tmp a))(z:eval C tm (.tmp a)=.ptr q off)(h:Yu C call ops fl o tm H=some (v,H')) :
 H'=H/\∀ j:Hp,j[q]?=H[q]?->Yu C call ops fl o tm j=some (v,j):=by
 unfold Yu at h ⊢;split at h
 ·cases h
 ·rename_i hw;simp only[zA,zB]at h;obtain⟨rfl,rfl⟩:=h;exact⟨rfl,fun j _=>rfl⟩
 ·rename_i hw;rw[y]at h ⊢;unfold X9 at h ⊢
  have B:ZK C (eval C tm) (.load t (.tmp a))=none:=by
   simp only[ZK,z,XE];split <;> rfl
  rw[B]at h ⊢;dsimp only at h ⊢;split at h
  ·cases h
  ·rename_i u;simp only[ZC,z]at h ⊢;split at h
   ·rename_i g sz D E
    cases w:Z3 g sz (.ptr q off) H with
    |none=>rw[w]at h;cases h
    |some r =>
     rw[w]at h;simp only[Option.map_some,zA,zB]at h;obtain⟨rfl,rfl⟩:=h;refine⟨rfl,fun j A=>?_⟩;rw[if_neg u];have:Z3 g sz (.ptr q off) j=Z3 g sz (.ptr q off) H:=by unfold Z3;simp only[A]
     rw[this,w];rfl
   ·cases h
theorem Zpc {o:Oper}{fl:Bool}{tm:List AV}{H H':Hp}{v:AV}{t a q off:Nat}{w:Operand}(z:o.op=.store t (.tmp a) w)(D:eval C tm (.tmp a)=.ptr q off)(h:Yu C call ops fl o tm H=some (v,H')) :
 (H'=H/\∀ g,Yu C call ops fl o tm g=some (v,g))\/∃ x y:AObj,H[q]?=some x/\H'=H.set q y/\∀ g:Hp,g[q]?=some x->Yu C call ops fl o tm g=some (v,g.set q y):=by
 unfold Yu at h ⊢;split at h
 ·cases h
 ·rename_i hw;simp only[zA,zB]at h;obtain⟨rfl,rfl⟩:=h;exact .inl ⟨rfl,fun g=>rfl⟩
 ·rename_i hw;rw[z]at h ⊢;unfold X9 at h ⊢;have F:ZK C (eval C tm) (.store t (.tmp a) w)=none:=rfl;rw[F]at h ⊢;dsimp only at h ⊢;split at h
  ·cases h
  ·rename_i u;simp only[ZC,D]at h ⊢;split at h
   ·split at h
    ·rename_i I;unfold Zf YM at h;dsimp only at h
     cases A:H[q]? with
     |none=>rw[A]at h;cases h
     |some x =>
      cases x with
      |cells l =>
       rw[A]at h;dsimp only at h;split at h
       ·rename_i H1 j;split at j
        ·rename_i E;injection j with j;subst j;simp only[zA,zB]at h;obtain⟨rfl,rfl⟩:=h;refine .inr ⟨_,_,rfl,rfl,fun g B=>?_⟩;rw[if_neg u,if_pos I];unfold Zf YM;simp only[B];rw[if_pos E]
        ·cases j
       ·cases h
      |_=>rw[A]at h;cases h
    ·cases h
   ·cases h
theorem Zdv {x y:Op}{p:Nat×Nat}(h:Za2 C x y=some p):∃ t u w,x=.load t (.tmp p.1)/\y=.store u (.tmp p.2) w:=by
 unfold Za2 at h;split at h
 ·cases h
 ·split at h
  ·split at h
   ·injection h with h;subst h;exact⟨_,_,_,rfl,rfl⟩
   ·cases h
  ·cases h
theorem ZwT {i j:Nat}{A B:Oper}{T U:Bool}{tm:List AV}{H H1 R:Hp}{v u:AV}(V:FarAt C ops tm)(hi:ops[i]?=some A)(W:ops[j]?=some B)(h:Zdu C A.op B.op=true)
 (D:Yu C call ops T A tm H=some (v,H1)) (E:Yu C call ops U B tm H1=some (u,R)) :
 ∃ S,Yu C call ops U B tm H=some (u,S)/\Yu C call ops T A tm S=some (v,R):=by
 have X:∀ {x y:AV},MF x y=true->∃ q o I Q,x=.ptr q o/\y=.ptr I Q/\q≠I:=by
  intro x y h;unfold MF at h;split at h
  ·simp only[zL]at h;exact⟨_,_,_,_,rfl,rfl,zR h⟩
  ·cases h
 unfold Zdu at h;rw[zG]at h;rcases h with h|h
 ·obtain⟨p,F⟩:=zJ.1 h;obtain⟨t,w,z,J,K⟩:=Zdv F;obtain⟨q,o,I,Q,L,M,g⟩:=X (V i j A B p hi W F);obtain⟨rfl,N⟩:=Zpb J L D;rcases Zpc K M E with ⟨rfl,O⟩|⟨x,y,O,rfl,Y⟩
  ·exact⟨_,E,D⟩
  ·exact⟨_,E,N _ (zE g.symm)⟩
 ·obtain⟨p,F⟩:=zJ.1 h;obtain⟨t,w,z,J,K⟩:=Zdv F;obtain⟨q,o,I,Q,L,M,g⟩:=X (V j i B A p W hi F);obtain⟨rfl,N⟩:=Zpb J L E;rcases Zpc K M D with ⟨rfl,O⟩|⟨x,y,O,rfl,Y⟩
  ·exact⟨_,E,D⟩
  ·exact⟨_,N _ (zE g.symm).symm,D⟩
theorem Zrw (Y:Xt call){b i j:Nat}{I J:Oper}{s s1 Q:St}(hF:FarAt C ops s.1)(hi:ops[i]?=some I)(hj:ops[j]?=some J)(O:b+XI C ops ops.size<=s.2.length)(V:I.apart ops J=true)
 (A:lag C ops j=true\/(lag C ops j=false/\ZlZ C (YF C ops i) (YF C ops j) I.op J.op)) (M:XU C call ops true b i I s=some s1) (L:XU C call ops true b j J s1=some Q) :
 ∃ s2,XU C call ops true b j J s=some s2/\XU C call ops true b i I s2=some Q:=by
 obtain⟨a1,a2,a3⟩:=Oper.apart_spec V;obtain⟨tm,H⟩:=s;rw[G2]at M L;simp only at M O
 cases y:UK C call ops true b i I tm H with
 |none=>simp[y]at M
 |some p =>
  obtain⟨v,H1⟩:=p;simp only[y,zA]at M;subst M;simp only at L;rw[Ziw (Zkl a1)]at L
  cases g:UK C call ops true b j J tm H1 with
  |none=>simp[g]at L
  |some q =>
   obtain⟨u,U⟩:=q;simp only[g,zA]at L;subst L
   have key:∃ R,UK C call ops true b j J tm H=some (u,R)/\UK C call ops true b i I tm R=some (v,U):=by
    rcases A with N|⟨N,A⟩
    ·have Z:j<ops.size:=(zC.1 hj).1;have ab:=Zp5 N Z;unfold UK at g;simp only[N,zV,if_true]at g;split at g
     ·cases g
     ·rename_i X;unfold KV at g;split at g
      ·rename_i cs W;split at g
       ·rename_i hp;split at g
        ·rename_i hT;simp only[zA,zB]at g;obtain⟨rfl,rfl⟩:=g;obtain⟨_,hf⟩:=ZjE Y true b i I tm H v H1 y;obtain⟨g1,g2⟩:=hf _ (by omega) hp;refine⟨H.set (b+XI C ops j) cs,?_,g2 _⟩;unfold UK;simp only[N,zV,if_true];rw[if_neg X];unfold KV;rw[W];simp only;rw[g1];simp only[hT,if_true]
        ·cases g
       ·cases g
      ·cases g
    ·have T:∀ H,UK C call ops true b j J tm H=Yu C call ops (YF C ops j) J tm H:=fun H=>by unfold UK;simp[N]
     rw[T]at g;simp only[T]
     cases E:lag C ops i with
     |true =>
      have aa:=ZoK (C:=C) (NB hi E).1;rcases A with A|A|⟨D,F⟩|⟨D,F⟩|A|A
      rotate_right
      ·exfalso;unfold Zdu at A;rw[zG]at A;have K:=(NB hi E).1;rcases A with A|A <;> obtain⟨p,hq⟩:=zJ.1 A <;> obtain⟨t,w,z,S,T⟩:=Zdv hq
       ·rw[S]at K;cases K
       ·rw[T]at K;cases K
      ·exfalso;rcases A with A|A
       ·omega
       ·unfold UK at y;simp only[E,zV,if_true]at y;rw[if_pos A]at y;cases y
      ·obtain⟨rfl,B⟩:=Zan A g;exact⟨H,B H,y⟩
      ·exfalso;unfold HS at D;rw[ZoH (NB hi E).1,Bool.or_false,decide_eq_true_eq]at D;omega
      ·omega
      ·exfalso;have:=ZuI (C:=C) (NB hi E).1;unfold HV at A;rw[this]at A;simp at A
     |false =>
      have S:∀ H,UK C call ops true b i I tm H=Yu C call ops (YF C ops i) I tm H:=fun H=>by unfold UK;simp[E]
      rw[S]at y;simp only[S];rcases A with A|A|⟨D,F⟩|⟨D,F⟩|A|A
      rotate_right
      ·exact ZwT hF hi hj A y g
      rotate_right
      ·exact ZwU A y g
      ·obtain⟨rfl,B⟩:=Zan A y;exact⟨U,g,B U⟩
      ·obtain⟨rfl,B⟩:=Zan A g;exact⟨H,B H,y⟩
      ·obtain rfl:=ZfD D y;obtain rfl:=ZfD F g;exact⟨_,g,y⟩
      ·obtain rfl:=Zim (.inl D) y;obtain⟨l,rfl⟩:=Zrn F g;exact⟨_,g,Zu5 D y l⟩
   obtain⟨R,k1,k2⟩:=key;refine⟨(Xa tm J.dst u,R),by rw[G2];simp[k1],?_⟩;rw[G2];simp only;rw[Ziw (Zkl a3),k2];simp only[zA,zB,and_true];exact (Zss a2).symm
def Any (C:Cfg)(call:Zw)(ops:Array Oper)(b:Nat):Nat->Array Bool->St->St->Prop
 |0,listed,s,r=>Region.ready .any ops listed=[]/\s=r
 |n+1,listed,s,r=>(Region.ready .any ops listed=[]->s=r) /\
  ∀ i∈Region.ready .any ops listed,∃ o s',ops[i]?=some o/\XU C call ops true b i o s=some s'/\Any C call ops b n (listed.setIfInBounds i true) s' r
def Closed (ops:Array Oper)(g:Array Bool):Prop:=∀ j o,ops[j]?=some o->g.getD j false=true->∀ e∈o.after,Region.binds .any e=true->g.getD e.on false=true
theorem Closed.set {g:Array Bool}(h:Closed ops g){i:Nat}(hi:i∈Region.ready .any ops g):Closed ops (g.setIfInBounds i true):=by
 intro j o D B e A z;by_cases y:i=j
 ·subst y;obtain⟨_,E,u,w⟩:=mem_ready.1 hi;rw[D]at u;injection u with u;subst u;exact getD_set_true (w e A z)
 ·rw[getD_set_ne false y]at B;exact getD_set_true (h j o D B e A z)
theorem ZaT {g:Array Bool}(h:Closed ops g):∀ (n j i:Nat),Xw ops n j i=true->(∀ o,ops[j]?=some o->∀ e∈o.after,Region.binds .any e=true->g.getD e.on false=true)->g.getD i false=true:=by
 intro n
 induction n with
 |zero=>intro j i w;simp[Xw]at w
 |succ n K =>
  intro j i w I;unfold Xw at w;split at w
  ·cases w
  ·rename_i o J;rw[zZ]at w;obtain⟨e,H,z⟩:=w;rw[zD,zG]at z;obtain⟨y,u⟩:=z;have E:=I o J e (by simpa using H) y;rcases u with u|u
   ·rw[<-beq_iff_eq.1 u];exact E
   ·exact K e.on i u (fun L D F B A=>h e.on L D E F B A)
theorem ZaF {g:Array Bool}{i:Nat}(h:g.getD i true=false):g.getD i false=false:=by
 rcases Nat.lt_or_ge i g.size with j|j
 ·simp[j]at h ⊢;exact h
 ·simp[Array.getElem?_eq_none j]at h
theorem Zsn (M:Xt call)(hK:Zps C ops){b i:Nat}{I:Oper}(hi:ops[i]?=some I):∀ (n:Nat) (g:Array Bool) (s J r:St),FarAt C ops s.1->b+XI C ops ops.size<=s.2.length->Closed ops g ->
 (∀ j F,ops[j]?=some F->j≠i->g.getD j true=false->Xw ops ops.size j i=true\/(I.apart ops F=true/\(lag C ops j=true\/(lag C ops j=false/\ZlZ C (YF C ops i) (YF C ops j) I.op F.op)))) ->
 i∈Region.ready .any ops g->XU C call ops true b i I s=some J->Any C call ops b n (g.setIfInBounds i true) J r->Any C call ops b (n+1) g s r:=by
 intro n
 induction n with
 |zero =>
  intro g s J r _ _ _ _ E S H;refine⟨fun h=>(by rw[h]at E;cases E),fun j N=>?_⟩;by_cases u:j=i
  ·subst u;exact⟨I,J,hi,S,H⟩
  ·have:=ready_mono N u;rw[H.1]at this;cases this
 |succ n ih =>
  intro g s J r hF D L z E S H;refine⟨fun h=>(by rw[h]at E;cases E),fun j N=>?_⟩;by_cases u:j=i
  ·subst u;exact⟨I,J,hi,S,H⟩
  ·obtain⟨F,Z,y,Y,Hj⟩:=H.2 j (ready_mono N u);obtain⟨B,aa,w,K⟩:=mem_ready.1 N;rw[y]at w;injection w with w;subst w;rcases z j F y u B with hb|⟨U,W⟩
   ·exfalso;have h1:=ZaT L ops.size j i hb (fun o R e he V=>by rw[y]at R;injection R with R;subst R;exact K e he V);rw[ZaF (mem_ready.1 E).1]at h1;cases h1
   ·obtain⟨s2,A,h3⟩:=Zrw M hF hi y D U W S Y
    have T:FarAt C ops s2.1:=by
     rw[G2]at A
     cases hv:UK C call ops true b j F s.1 s.2 with
     |none=>rw[hv]at A;cases A
     |some p =>
      rw[hv]at A;simp only[zA]at A;rw[<-A];exact hF.put hK y
    refine⟨F,s2,y,A,ih (g.setIfInBounds j true) s2 Z r T (yD D (Zky M A)) (L.set N) (fun k ok hk X Q=>z k ok hk X ?_) (ready_mono E (Ne.symm u)) h3 ?_⟩
    ·by_cases O:j=k
     ·subst O;exact B
     ·rw[getD_set_ne true O]at Q;exact Q
    ·rw[Array.setIfInBounds_comm _ _ u];exact Hj
theorem ZsR {i j:Nat}{u g:Oper}(S:i<j)(hi:ops[i]?=some u)(H:ops[j]?=some g)(w:j≠i)(J:Xw ops ops.size i j=false)(K:Xw ops ops.size j i=false):lag C ops j=true\/(lag C ops j=false/\ZlZ C (YF C ops i) (YF C ops j) u.op g.op):=by
 cases z:lag C ops j with
 |true=>exact .inl rfl
 |false =>
 refine .inr ⟨rfl,?_⟩;by_cases D:Y5 C u.op<=1/\fresh g.op=true
 ·exact .inr (.inr (.inr (.inl D)))
 by_cases y:ZhC C u.op g.op=true
 ·have N:i<ops.size:=(zC.1 hi).1;have A:j<ops.size:=(zC.1 H).1;have U:Y5 C u.op<=1\/2<=Y5 C u.op:=by omega
  have B:∀ (i j:Nat) (u g:Oper),ops[i]?=some u->ops[j]?=some g->j≠i->j<ops.size->Xw ops ops.size i j=false->Xw ops ops.size j i=false->ZhC C u.op g.op=true->(Y5 C u.op<=1\/2<=Y5 C g.op)->¬ (Y5 C u.op<=1/\fresh g.op=true/\i<j)->¬ (i<j/\lag C ops j=true)->¬ (j<i/\lag C ops i=true)->YF C ops i=true:=by
   intro i j u g hi H w A J K y T O L M;unfold YF;simp only[hi];rw[zZ];refine⟨j,zS.2 A,?_⟩
   have I:(decide (Y5 C u.op<=1)&&fresh g.op&&decide (i<j))=false:=by
    rw[zQ];intro e;simp only[zD,decide_eq_true_eq]at e;exact O ⟨e.1.1,e.1.2,e.2⟩
   have E:(decide (i<j)&&lag C ops j)=false:=by
    rw[zQ];intro e;simp only[zD,decide_eq_true_eq]at e;exact L e
   have F:(decide (j<i)&&lag C ops i)=false:=by
    rw[zQ];intro e;simp only[zD,decide_eq_true_eq]at e;exact M e
   simp only[H,y,J,K,I,E,F,bne_iff_ne,ne_eq,w,not_false_eq_true,Bool.true_and,Bool.not_false,Bool.and_true,zD,zG,decide_eq_true_eq];exact⟨trivial,T⟩
  by_cases R:Y5 C u.op<=1\/2<=Y5 C g.op
  ·exact .inl (.inr (B i j u g hi H w A J K y R (fun e=>D ⟨e.1,e.2.1⟩) (fun e=>by rw[z]at e;cases e.2) (fun e=>by omega)))
  ·refine .inr (.inl (.inr (B j i g u H hi (Ne.symm w) N K J ?_ (.inl (by omega)) (fun e=>by omega) (fun e=>by omega) (fun e=>by rw[z]at e;cases e.2))))
   have V:HV C g.op u.op=HV C u.op g.op:=by
    unfold HV;rw[zW (decide (stC C g.op=1)),zW (decide (stC C g.op=2)),zY]
   have Q:Zdu C g.op u.op=Zdu C u.op g.op:=by
    unfold Zdu;rw[zY]
   unfold ZhC at y ⊢;rw[zY (decide (Y5 C g.op=0)),zW (HS C g.op),V,Q];exact y
 ·unfold ZhC at y;simp only[zL,Bool.not_eq_false,zG,decide_eq_true_eq,zD]at y;rcases y with (((h|h)|h)|h)|h
  ·exact .inl (.inl h)
  ·exact .inr (.inl (.inl h))
  ·exact .inr (.inr (.inl h))
  ·exact .inr (.inr (.inr (.inr (.inl h))))
  ·exact .inr (.inr (.inr (.inr (.inr h))))
theorem ZmV (h:W7 ops=true):Region.noSelect ops=true/\∀ k o,ops[k]?=some o->(∀ e∈o.after,Region.binds .any e=true->e.on<k) /\
 ∀ j y,ops[j]?=some y->k<j->Xw ops ops.size j k=true\/o.apart ops y=true:=by
 unfold W7 at h;rw[zD,zI]at h;refine⟨h.1,fun k o B=>?_⟩;have w:k<ops.size:=(zC.1 B).1;have u:=h.2 k (zS.2 w);simp only[B,zD,zI]at u;refine⟨fun e E D=>?_,fun j y A F=>?_⟩
 ·have:=u.1 e (by simpa using E);simpa[D]using this
 ·have g:j<ops.size:=(zC.1 A).1;have:=u.2 j (zS.2 g);simp only[A,zG,decide_eq_true_eq]at this;rcases this with z|z
  ·omega
  ·exact z
theorem ZnN (M:Xt call)(hK:Zps C ops){b:Nat}(ac:W7 ops=true):∀ (l:List Oper) (k:Nat) (g:Array Bool) (s r:St),FarAt C ops s.1->(∀ j,l[j]?=ops[k+j]?)->g.size=ops.size->(∀ x,x<ops.size->g.getD x false=decide (x<k))->k<=ops.size->b+XI C ops ops.size<=s.2.length ->
 Yt C call ops true b k l s=some r->Any C call ops b l.length g s r:=by
 obtain⟨ad,w⟩:=ZmV ac;intro l
 induction l with
 |nil =>
  intro k g s r V U R u hk y h;simp[Yt]at h;refine⟨?_,h⟩;rw[List.eq_nil_iff_forall_not_mem];intro i hi;obtain⟨h1,o,ho,_⟩:=mem_ready.1 hi;have aa:i<ops.size:=(zC.1 ho).1
  have Q:ops.size<=k:=by
   have:=U 0;simp at this;exact this
  have:=u i aa;rw[ZaF h1]at this;simp at this;omega
 |cons o l ih =>
  intro k g s r V U R u hk y h;have z:ops[k]?=some o:=by simpa using (U 0).symm
  have Q:k<ops.size:=(zC.1 z).1;unfold Yt at h;split at h
  ·rename_i s' H
   have K:Closed ops g:=by
    intro j oj J A e L E;have N:j<ops.size:=(zC.1 J).1;rw[u j N]at A;have:=(w j oj J).1 e L E;rw[u e.on (by omega)];simp at A ⊢;omega
   have D:k∈Region.ready .any ops g:=by
    rw[mem_ready];refine⟨?_,o,z,fun e L E=>?_⟩
    ·have:=u k Q;simp at this;have F:k<g.size:=by omega
     simp[F]at this ⊢;exact this
    ·have:=(w k o z).1 e L E;rw[u e.on (by omega)];simpa using this
   have W:FarAt C ops s'.1:=by
    have I:=H;rw[G2]at I
    cases hv:UK C call ops true b k o s.1 s.2 with
    |none=>rw[hv]at I;cases I
    |some p =>
     rw[hv]at I;simp only[zA]at I;rw[<-I];exact V.put hK z
   refine Zsn M hK z l.length g s s' r V y K (fun j oj J ab S=>?_) D H (ih (k+1) _ s' r W (fun j=>by have:=U (j+1);simpa[Nat.add_assoc,Nat.add_comm 1 j]using this) (by simpa using R) (fun x hx=>?_) (by omega) (yD y (Zky M H)) h)
   ·have A:j<ops.size:=(zC.1 J).1
    have O:k<j:=by
     have:=u j A;rw[ZaF S]at this;simp at this;omega
    rcases (w k o z).2 j oj J O with E|X
    ·exact .inl E
    ·by_cases E:Xw ops ops.size j k=true
     ·exact .inl E
     ·refine .inr ⟨X,ZsR O z J ab ?_ (by simpa using E)⟩
      cases Z:Xw ops ops.size k j with
      |false=>rfl
      |true =>
       exfalso
       have:=ZaT K ops.size k j Z (fun o' B e L Y=>by
        rw[z]at B;injection B with B;subst B;have:=(w k o z).1 e L Y;rw[u e.on (by omega)];simpa using this)
       rw[ZaF S]at this;cases this
   ·by_cases T:k=x
    ·subst T;have F:k<g.size:=by omega
     simp[F]
    ·rw[getD_set_ne false T,u x hx];simp;omega
  ·cases h
end
end Go.Am
