/- THE ABSTRACT MACHINE -/
import Derived.Test.YtnaneekpogohaaaGreatDoorHmFrx
open List renaming getElem?_set_ne->zE,getElem?_append_left->zF,getD_eq_getElem?_getD->zH,all_eq_true->zI,map_congr_left->zO,mem_range->zS,set_comm->zT,range->zU,mem_filterMap->zX,any_eq_true->zZ,nil_append->yA,append_nil->yB
open Nat renaming ne_of_beq_eq_false->zR,le_trans->yD
open Bool renaming and_eq_true->zD,or_eq_true->zG,false_eq_true->zK,not_eq_true'->zL,eq_false_iff->zQ,and_self->zV,and_comm->zW,or_comm->zY,false_and->yC
open Option renaming isSome_iff_exists->zJ,isNone_iff_eq_none->zP
open Array renaming getElem?_eq_some_iff->zC,mem_of_getElem?->zM,mem_toList_iff->zN
open Option.some renaming injEq->zA
open Prod.mk renaming injEq->zB
open List.Sublist renaming countP_le->yE
namespace Go.Am
open RowKit
section
variable {C:Cfg}{call:ZF}{ops:Array Oper}
theorem TK {ev g:Operand->AV}{xs:Array Operand}(h:∀ x∈xs,ev x=g x):xs.toList.map ev=xs.toList.map g :=
 zO fun x j=>h x (by simpa using j)
theorem C8 {ev g:Operand->AV}{x:Option Operand}(h:∀ y∈x.toArray,ev y=g y):x.map ev=x.map g:=by
 cases x with
 |none=>rfl
 |some y=>simp[h y (by simp)]
theorem ZnW {ev j:Operand->AV}{op:Op}(h:∀ x∈op.operands,ev x=j x):ZT C ev op=ZT C j op:=by
 cases op <;> simp only[Op.operands]at h
 case call c =>
  obtain⟨callee,args,argTypes⟩:=c
  cases callee with
  |value f=>rfl
  |invoke r m=>rfl
  |builtin b =>
   have A:∀ x∈args,ev x=j x:=fun x w=>h x (by simp[Call.operands,w]);cases b <;> try rfl
   case len =>
    simp only[ZT];split
    ·rename_i g _;obtain rfl:=Ql g;simp[A]
    ·rfl
   all_goals
    simp only[ZT];split
    ·rename_i g;obtain rfl:=Xu g;simp[A]
    ·rfl
 case build t ps =>
  have:(ps.toList.map fun p=>(p.1,ev p.2))=ps.toList.map fun p=>(p.1,j p.2):=zO fun p z=>by
   rw[h p.2 (by simp;exact⟨p.1,by simpa using z⟩)]
  simp only[ZT,this]
 case buildSlice t n ps =>
  have:(ps.toList.map fun p=>(p.1,ev p.2))=ps.toList.map fun p=>(p.1,j p.2):=zO fun p z=>by
   rw[h p.2 (by simp;exact⟨p.1,by simpa using z⟩)]
  simp only[ZT,this]
 case makeFunc fn first captured =>
  cases fn <;> simp only[ZT]
  rw[TK (xs:=first) (fun x w=>h x (by simp[w])),TK (xs:=captured) (fun x w=>h x (by simp[w]))]
 case slice t x lo hi mx =>
  simp only[ZT];rw[h x (by simp),C8 (x:=lo) (fun y u=>h y (by simp at u ⊢;simp[u])),C8 (x:=hi) (fun y u=>h y (by simp at u ⊢;simp[u])),C8 (x:=mx) (fun y u=>h y (by simp at u ⊢;simp[u]))]
 all_goals first
  |rfl
  |(simp only[ZT];simp[h])
theorem ZnQ {ev j:Operand->AV}{H:Hp}{op:Op}(h:∀ x∈op.operands,ev x=j x):ZE C call ev H op=ZE C call j H op:=by
 cases op <;> simp only[Op.operands]at h
 case call c =>
  obtain⟨callee,args,argTypes⟩:=c
  cases callee with
  |value f =>
   simp only[ZE];rw[h f (by simp[Call.operands]),TK (xs:=args) (fun x u=>h x (by simp[Call.operands,u]))]
  |invoke r m =>
   simp only[ZE];rw[h r (by simp[Call.operands]),TK (xs:=args) (fun x u=>h x (by simp[Call.operands,u]))]
  |builtin b =>
   have w:∀ x∈args,ev x=j x:=fun x u=>h x (by simp[Call.operands,u]);cases b <;> try rfl
   all_goals
    simp only[ZE];split
    ·rename_i g y
     first
      |(obtain rfl:=Xu g;simp[w])
      |(obtain rfl:=Ql g;simp[w])
    ·rfl
 case makeMap t r=>cases r <;> rfl
 all_goals first
  |rfl
  |(simp only[ZE];simp[h])
theorem ZrV {ev g:Operand->AV}{H:Hp}{fl:Bool}{op:Op}(h:∀ x∈op.operands,ev x=g x):Xd C call ev H fl op=Xd C call g H fl op:=by
 unfold Xd;rw[ZnW h,ZnQ h]
theorem Zi6 {tm g:List AV}{o:Oper}(h:∀ t∈o.looksAt ops,tm[t]?=g[t]?):∀ x∈o.op.operands,eval C tm x=eval C g x:=by
 intro x j
 cases x with
 |tmp t =>
  simp only[eval,zH];rw[h t];unfold Oper.looksAt;rw[List.mem_append];left;rw[zX];exact⟨.tmp t,by simpa using j,rfl⟩
 |_=>rfl
theorem Zl3 {tm u:List AV}{o:Oper}(h:∀ t∈o.looksAt ops,tm[t]?=u[t]?):WP ops tm o=WP ops u o:=by
 unfold WP
 cases z:o.guard with
 |none=>rfl
 |some p =>
  obtain⟨j,w⟩:=p;simp only
  cases A:ops[j]? with
  |none=>rfl
  |some g =>
   simp only
   cases y:g.dst with
   |none=>rfl
   |some d =>
    simp only;rw[h d];unfold Oper.looksAt;simp[z,A,y]
theorem Zr1 {tm g:List AV}{o:Oper}{fl:Bool}{H:Hp}(h:∀ t∈o.looksAt ops,tm[t]?=g[t]?):Yx C call ops fl o tm H=Yx C call ops fl o g H:=by
 unfold Yx;rw[Zl3 h,ZrV (Zi6 h)]
theorem Zkv {tm:List AV}{o:Oper}{g:Option Tmp}{v:AV}(h:∀ d,g=some d->d∉o.looksAt ops):∀ t∈o.looksAt ops,(Xf tm g v)[t]?=tm[t]?:=by
 intro t j
 cases g with
 |none=>rfl
 |some d =>
  have:d≠t:=fun e=>h d rfl (e ▸ j);simp[Xf,zE this]
theorem Zdt {id:FuncId}{args:List AV}{H H':Hp}{v:AV}(A:ZeX C id=true)(h:Xz C call id args H=some (v,H')):H'=H/\∀ y,Xz C call id args y=some (v,y):=by
 unfold Xz at h ⊢
 cases w:C.ext id with
 |some e =>
  simp only[w]at h ⊢;unfold Zay at h ⊢
  cases j:Zmt e args with
  |none=>simp[j]at h
  |some u =>
   simp only[j,zA,zB]at h ⊢;obtain⟨rfl,rfl⟩:=h;simp
 |none =>
  cases F:C.sum id with
  |some g =>
   simp only[w,F]at h ⊢;unfold Zbk at h ⊢
   cases j:g args with
   |none=>simp[j]at h
   |some u =>
    simp only[j,zA,zB]at h ⊢;obtain⟨rfl,rfl⟩:=h;simp
  |none =>
  unfold ZeX at A;simp only[w,F,Option.isSome_none,Bool.false_or,zD,zP]at A;obtain⟨⟨B,D⟩,E⟩:=A;simp only[w,F,B,D,E,if_true]at h ⊢;unfold Zh at h ⊢;split at h
  ·rename_i z hm;split at h
   ·rename_i K H1 I;split at h
    ·rename_i L J;simp only[zA,zB]at h;obtain⟨rfl,rfl⟩:=h;exact⟨rfl,fun y=>rfl⟩
    ·cases h
   ·cases h
  ·cases h
theorem Zmc {x:AV}{H H':Hp}{v:AV}(h:B1 x H=some (v,H')):H'=H:=by
 unfold B1 at h;split at h
 ·split at h
  ·simp only[zA,zB]at h;exact h.2.symm
  ·cases h
 ·cases h
theorem Zqb {k:Nat}{x:AV}{H:Hp}{v:List AV}(h:elems k x H=some v)(l:Hp):elems k x (H++l)=some v:=by
 cases x with
 |rs ag k' o off len cap =>
  unfold elems at h ⊢;simp only at h ⊢;split at h
  ·rename_i j;rw[if_pos j];split at h
   ·rename_i u g;rw[zF (Zg g),g];exact h
   ·cases h
  ·cases h
 |ws ag k' o e len =>
  unfold elems at h ⊢;simp only at h ⊢;split at h
  ·rename_i j;rw[if_pos j];split at h
   ·rename_i w u g;rw[zF (Zg g),g];exact h
   ·cases h
  ·cases h
 |_=>exact h
theorem Zo9 {x:AV}{H H':Hp}{v:AV}(h:B1 x H=some (v,H'))(l:Hp):B1 x (H++l)=some (v,H++l):=by
 unfold B1 at h ⊢;split at h
 ·rename_i xs g
  have:JB x (H++l)=some xs:=by
   unfold JB at g ⊢;split at g
   ·cases g
   ·exact Zqb g l
  rw[this];split at h
  ·rename_i s j;simp only[zA,zB]at h;simp only[j,h.1]
  ·cases h
 ·cases h
theorem Zdz {ev:Operand->AV}(B:∀ f,ev (.func f)=.fn (.func f) [] []){H H':Hp}{fl:Bool}{op:Op}{v:AV}(w:Y1 C op=0\/fl=true)(h:Xd C call ev H fl op=some (v,H')):H'=H/\∀ A,Xd C call ev A fl op=some (v,A):=by
 unfold Xd at h ⊢;split at h
 ·rename_i v' E;simp only[zA,zB]at h;obtain⟨rfl,rfl⟩:=h;exact⟨rfl,fun A=>rfl⟩
 ·split at h
  ·cases h
  ·rename_i y
   have g:Y1 C op=0:=by
    rcases w with w|w
    ·exact w
    ·exact absurd w y
   simp only[y]
   cases op with
   |call c =>
    obtain⟨callee,args,argTypes⟩:=c
    cases callee with
    |value f =>
     cases f with
     |func id =>
      have j:ZeX C id=true:=by
       cases j:ZeX C id with
       |true=>rfl
       |false=>simp[Y1,j]at g
      simp only[ZE,Zb7,Yf,B,yA,yB,zK,if_false]at h ⊢;exact Zdt j h
     |tmp t =>
      have j:Zb7 C (.tmp t) args=true:=by
       cases j:Zb7 C (.tmp t) args with
       |true=>rfl
       |false=>simp[Y1,j]at g
      simp only[ZE,j,if_true]at h ⊢;unfold XA qC at h ⊢;split at h
      ·rename_i id first u D
       split at h
       ·rename_i z;simp only[if_pos z,zK,if_false];exact Zdt z h
       ·cases h
      ·cases h
     |_=>simp[Y1,Zb7]at g
    |invoke r m=>simp[Y1]at g
    |builtin b=>cases b <;> first|(simp[Y1]at g;done)|(simp[ZE]at h;done)
   |convert s d x=>simp only[Y1]at g;split at g <;> cases g
   |_=>first|(simp[Y1]at g;done)|(simp[ZE]at h;done)
theorem ZrX {ev:Operand->AV}(A:∀ f,ev (.func f)=.fn (.func f) [] []){H H':Hp}{fl:Bool}{op:Op}{v:AV}(w:Y1 C op<=1\/fl=true)(h:Xd C call ev H fl op=some (v,H')):H'=H:=by
 by_cases y:Y1 C op=0\/fl=true
 ·exact (Zdz A y h).1
 ·have u:Y1 C op=1:=by
   rcases w with w|w
   ·have:Y1 C op≠0:=fun e=>y (.inl e);omega
   ·exact absurd (.inr w) y
  unfold Xd at h;split at h
  ·simp only[zA,zB]at h;exact h.2.symm
  ·split at h
   ·cases h
   ·cases op with
    |load t a =>
     simp only[ZE]at h;split at h
     ·rename_i g sz _ _
      cases j:Z3 g sz (ev a) H with
      |none=>simp[j]at h
      |some r=>simp[j]at h;exact h.2.symm
     ·cases h
    |lookup t x k B =>
     simp only[ZE]at h;split at h
     ·rename_i d e _;split at h
      ·rename_i z _
       cases j:Y7 d z B (ev x) (ev k) H with
       |none=>simp[j]at h
       |some r=>simp[j]at h;exact h.2.symm
      ·cases h
     ·cases h
    |call c =>
     obtain⟨callee,args,argTypes⟩:=c
     cases callee with
     |value f=>exfalso;cases f <;> simp only[Y1]at u <;> split at u <;> omega
     |invoke r m=>simp[Y1]at u
     |builtin b =>
      cases b <;> first|(simp[Y1]at u;done)|skip
      simp only[ZE]at h;split at h
      ·rename_i x t _ _;split at h
       ·cases j:K1 (ev x) H with
        |none=>simp[j]at h
        |some r=>simp[j]at h;exact h.2.symm
       ·cases h
      ·cases h
    |convert s d x =>
     have hw:C.wrb d=false:=by
      cases hw:C.wrb d with
      |false=>rfl
      |true=>simp[Y1,hw]at u
     simp only[ZE,hw,yC]at h;split at h
     ·split at h
      ·exact Zmc h
      ·cases h
     ·cases h
     ·cases h
    |_=>first|(simp[Y1]at u;done)|(simp[ZE]at h;done)
theorem ZrN {id:FuncId}{args:List AV}{H H':Hp}{v:AV}(g:C.ro id=true)(j:C.flat id=false)(u:C.ext id=none)(w:C.sum id=none)(y:C.eff id=none)(h:Xz C call id args H=some (v,H')):H'=H:=by
 unfold Xz at h;simp only[g,j,u,w,y,zK,if_false,if_true]at h;split at h
 ·unfold JQ at h;split at h
  ·split at h
   ·split at h
    ·simp only[zA,zB]at h;exact h.2.symm
    ·cases h
   ·cases h
  ·cases h
 ·cases h
theorem Zyv {ev:Operand->AV}(j:∀ f,ev (.func f)=.fn (.func f) [] []){H H':Hp}{fl:Bool}{op:Op}{v:AV}(g:Znh C op=true)(h:Xd C call ev H fl op=some (v,H')):H'=H:=by
 unfold Xd at h;split at h
 ·simp only[zA,zB]at h;exact h.2.symm
 ·split at h
  ·cases h
  ·unfold Znh at g;split at g
   ·simp only[zD,zL,zP]at g;obtain⟨⟨⟨⟨u,w⟩,y⟩,z⟩,A⟩:=g;simp only[ZE,Zb7,Yf,j,yA,yB,zK,if_false]at h;exact ZrN u w y z A h
   ·cases g
theorem ZoQ {op:Op}(h:fresh op=true):Znh C op=false:=by
 cases op <;> first|rfl|(simp[fresh]at h;done)
theorem Zb3 {o:Oper}{fl:Bool}{tm:List AV}{H H':Hp}{v:AV}(w:Y1 C o.op=0\/fl=true)(h:Yx C call ops fl o tm H=some (v,H')):H'=H/\∀ g,Yx C call ops fl o tm g=some (v,g):=by
 unfold Yx at h ⊢;split at h
 ·cases h
 ·rename_i hw;simp only[zA,zB]at h;obtain⟨rfl,rfl⟩:=h;exact⟨rfl,fun g=>rfl⟩
 ·rename_i hw;obtain⟨j,u⟩:=Zdz (fun _=>rfl) w h;exact⟨j,fun g=>u g⟩
theorem ZiA {o:Oper}{fl:Bool}{tm:List AV}{H H':Hp}{v:AV}(g:Y1 C o.op<=1\/fl=true)(h:Yx C call ops fl o tm H=some (v,H')):H'=H:=by
 unfold Yx at h;split at h
 ·cases h
 ·simp only[zA,zB]at h;exact h.2.symm
 ·exact ZrX (fun _=>rfl) g h
theorem ZxX {o:Oper}{fl:Bool}{tm:List AV}{H H':Hp}{v:AV}(g:Znh C o.op=true)(h:Yx C call ops fl o tm H=some (v,H')):H'=H:=by
 unfold Yx at h;split at h
 ·cases h
 ·simp only[zA,zB]at h;exact h.2.symm
 ·exact Zyv (fun _=>rfl) g h
theorem Zg6 {o:Oper}{fl:Bool}{tm:List AV}{H H':Hp}{v:AV}(g:AF C o.op=true)(h:Yx C call ops fl o tm H=some (v,H')):H'=H:=by
 unfold AF at g;rw[zG,decide_eq_true_eq]at g;rcases g with g|g
 ·exact ZiA (.inl g) h
 ·exact ZxX g h
theorem ZrZ {tm:List AV}{x y:Option Tmp}{v u:AV}(h:∀ d,x=some d->y≠some d):Xf (Xf tm x v) y u=Xf (Xf tm y u) x v:=by
 cases x with
 |none=>rfl
 |some d =>
  cases y with
  |none=>rfl
  |some e =>
   have g:d≠e:=fun j=>h d rfl (j ▸ rfl);simp only[Xf];exact zT _ _ g
theorem ZpK {g:Bool}{sz:Nat}{a:AV}{H:Hp}{v:AV}(h:Z3 g sz a H=some v)(l:Hp):Z3 g sz a (H++l)=some v:=by
 cases a with
 |ptr o off =>
  unfold Z3 at h ⊢;simp only at h ⊢;split at h
  ·rename_i c j;rw[zF (Zg j),j];exact h
  ·cases h
 |wp o e off =>
  unfold Z3 at h ⊢;simp only at h ⊢;split at h
  ·rename_i u c j;rw[zF (Zg j),j];exact h
  ·cases h
 |_=>exact h
theorem ZdH {x:AV}{H:Hp}{v:List (AV×AV×Nat)}(h:Xk x H=some v)(l:Hp):Xk x (H++l)=some v:=by
 cases x with
 |map o =>
  unfold Xk at h ⊢;simp only at h ⊢;split at h
  ·rename_i c k g;rw[zF (Zg g),g];exact h
  ·cases h
 |_=>exact h
theorem ZlP {d:TypeDesc}{z:AV}{j:Bool}{x k:AV}{H:Hp}{v:AV}(h:Y7 d z j x k H=some v)(l:Hp):Y7 d z j x k (H++l)=some v:=by
 unfold Y7 at h ⊢
 cases g:Xk x H with
 |none=>simp[g]at h
 |some u=>rw[ZdH g l];rw[g]at h;exact h
theorem ZpG {x:AV}{H:Hp}{v:AV}(h:K1 x H=some v)(l:Hp):K1 x (H++l)=some v:=by
 unfold K1 at h ⊢
 cases g:Xk x H with
 |none=>simp[g]at h
 |some j=>rw[ZdH g l];rw[g]at h;exact h
theorem ZuK {ev:Operand->AV}(y:∀ f,ev (.func f)=.fn (.func f) [] []){H H':Hp}{fl:Bool}{op:Op}{v:AV}(E:Y1 C op<=1)(h:Xd C call ev H fl op=some (v,H'))(l:Hp):Xd C call ev (H++l) fl op=some (v,H++l):=by
 by_cases w:Y1 C op=0\/fl=true
 ·exact (Zdz y w h).2 _
 ·have u:Y1 C op=1:=by
   have:Y1 C op≠0:=fun e=>w (.inl e);omega
  have A:¬ fl=true:=fun e=>w (.inr e);unfold Xd at h ⊢;split at h
  ·rename_i v' F;simp only[zA,zB]at h;obtain⟨rfl,rfl⟩:=h;rfl
  ·rw[if_neg A]at h ⊢
   cases op with
   |load t a =>
    simp only[ZE]at h ⊢;split at h
    ·rename_i g sz _ _
     cases j:Z3 g sz (ev a) H with
     |none=>simp[j]at h
     |some r =>
      simp[j]at h;obtain⟨rfl,rfl⟩:=h;simp[ZpK j l]
    ·cases h
   |lookup t x k B =>
    simp only[ZE]at h ⊢;split at h
    ·rename_i d e _;split at h
     ·rename_i z _
      cases j:Y7 d z B (ev x) (ev k) H with
      |none=>simp[j]at h
      |some r =>
       simp[j]at h;obtain⟨rfl,rfl⟩:=h;simp[ZlP j l]
     ·cases h
    ·cases h
   |call c =>
    obtain⟨callee,args,argTypes⟩:=c
    cases callee with
    |value f=>exfalso;cases f <;> simp only[Y1]at u <;> split at u <;> omega
    |invoke r m=>simp[Y1]at u
    |builtin b =>
     cases b <;> first|(simp[Y1]at u;done)|skip
     simp only[ZE]at h ⊢;split at h
     ·rename_i x t _ _;split at h
      ·cases j:K1 (ev x) H with
       |none=>simp[j]at h
       |some r =>
        simp[j]at h;obtain⟨rfl,rfl⟩:=h;simp[ZpG j l]
      ·cases h
     ·cases h
   |convert s d x =>
    have hw:C.wrb d=false:=by
     cases hw:C.wrb d with
     |false=>rfl
     |true=>simp[Y1,hw]at u
    simp only[ZE,hw,yC]at h ⊢;split at h
    ·split at h
     ·rename_i D;simp only[D,if_true];exact Zo9 h l
     ·cases h
    ·cases h
    ·cases h
   |_=>first|(simp[Y1]at u;done)|(simp[ZE]at h;done)
theorem Ztx {o:Oper}{fl:Bool}{tm:List AV}{H H':Hp}{v:AV}(g:Y1 C o.op<=1)(h:Yx C call ops fl o tm H=some (v,H'))(l:Hp):Yx C call ops fl o tm (H++l)=some (v,H++l):=by
 unfold Yx at h ⊢;split at h
 ·cases h
 ·simp only[zA,zB]at h;obtain⟨rfl,rfl⟩:=h;rfl
 ·exact ZuK (fun _=>rfl) g h l
theorem Zr2 {o:Oper}{fl:Bool}{tm:List AV}{H H':Hp}{v:AV}(g:fresh o.op=true)(h:Yx C call ops fl o tm H=some (v,H')):∃ l,H'=H++l:=by
 unfold Yx at h;split at h
 ·cases h
 ·simp only[zA,zB]at h;exact⟨[],by rw[<-h.2];simp⟩
 ·unfold Xd at h;split at h
  ·simp only[zA,zB]at h;exact⟨[],by rw[<-h.2];simp⟩
  ·split at h
   ·cases h
   ·generalize o.op=op at g h
    cases op with
    |alloc e =>
     simp only[ZE]at h;split at h
     ·split at h
      ·split at h
       ·simp only[zA,zB]at h;exact⟨_,h.2.symm⟩
       ·cases h
      ·split at h
       ·simp only[zA,zB]at h;exact⟨_,h.2.symm⟩
       ·cases h
     ·cases h
    |box e x =>
     simp only[ZE]at h;unfold ZQ at h;split at h
     ·simp only[zA,zB]at h;exact⟨_,h.2.symm⟩
     ·cases h
    |makeMap t r =>
     cases r with
     |none =>
      simp only[ZE,zA,zB]at h;exact⟨_,h.2.symm⟩
     |some r=>simp[fresh]at g
    |_=>simp[fresh]at g
def Zm9 (C:Cfg)(g h:Bool)(x y:Op):Prop:=(Y1 C x=0\/g=true)\/(Y1 C y=0\/h=true)\/(AF C x=true/\AF C y=true)\/(Y1 C x<=1/\fresh y=true)\/AJ C x y=true\/ZdX C x y=true
def isK (k:Nat)(x:AObj):Bool :=
 match k,x with
 |1,.row _ _=>true
 |2,.cells _=>true
 |_,_=>false
theorem Zs0 {k sz:Nat}{a v r:AV}{H H':Hp}(hk:k=1\/k=2)(D:stV k a=true)(h:Za sz a v H=some (r,H')) :
 ∃ (o:Nat) (x y:AObj),H[o]?=some x/\isK k x=true/\isK k y=true/\H'=H.set o y/\∀ j:Hp,j[o]?=some x->Za sz a v j=some (r,j.set o y):=by
 unfold Za at h;split at h
 ·rename_i H1 g;simp only[zA,zB]at h;obtain⟨rfl,rfl⟩:=h;unfold YX at g;split at g
  ·rename_i o off
   have A:k=2:=by
    rcases hk with rfl|rfl
    ·cases D
    ·rfl
   subst A;split at g
   ·rename_i l B;split at g
    ·rename_i w;injection g with g;subst g;exact⟨o,_,_,B,rfl,rfl,rfl,fun j u=>by unfold Za YX;simp only[u];rw[if_pos w]⟩
    ·cases g
   ·cases g
  ·rename_i o e off
   have z:k=1:=by
    rcases hk with rfl|rfl
    ·rfl
    ·cases D
   subst z;split at g
   ·rename_i E l B;split at g
    ·rename_i w;injection g with g;subst g;exact⟨o,_,_,B,rfl,rfl,rfl,fun j u=>by unfold Za YX;simp only[u];rw[if_pos w]⟩
    ·cases g
   ·cases g
  ·cases g
 ·cases h
theorem Ztw {o:Oper}{fl:Bool}{tm:List AV}{H H':Hp}{v:AV}{k:Nat}(hk:k=1\/k=2)(j:stC C o.op=k)(h:Yx C call ops fl o tm H=some (v,H')) :
 (H'=H/\∀ g,Yx C call ops fl o tm g=some (v,g)) \/
 ∃ (q:Nat) (x y:AObj),H[q]?=some x/\isK k x=true/\isK k y=true/\H'=H.set q y/\∀ g:Hp,g[q]?=some x->Yx C call ops fl o tm g=some (v,g.set q y):=by
 unfold Yx at h ⊢;split at h
 ·cases h
 ·rename_i hw;simp only[zA,zB]at h;obtain⟨rfl,rfl⟩:=h;exact .inl ⟨rfl,fun g=>rfl⟩
 ·rename_i hw
  obtain⟨t,a,x,w⟩:∃ t a x,o.op=.store t a x:=by
   generalize o.op=op at j
   cases op with
   |store t a x=>exact⟨t,a,x,rfl⟩
   |_=>(have:k=0:=j.symm);omega
  rw[w]at j h ⊢;unfold Xd at h ⊢;have J:ZT C (eval C tm) (.store t a x)=none:=rfl;rw[J]at h ⊢;dsimp only at h ⊢;split at h
  ·cases h
  ·rename_i u;simp only[ZE]at h ⊢;split at h
   ·split at h
    ·rename_i z;rw[j]at z;obtain⟨q,K,L,A,B,D,E,F⟩:=Zs0 hk z h;rw[j];refine .inr ⟨q,K,L,A,B,D,E,fun g I=>?_⟩;rw[if_neg u,if_pos z];exact F g I
    ·cases h
   ·cases h
theorem Zu8 {x:Op}(h:fresh x=true):stC C x=0:=by
 cases x <;> first|rfl|(simp[fresh]at h;done)
theorem Zwa {A B:Oper}{E F:Bool}{tm j:List AV}{H H1 D:Hp}{v u:AV}(h:AJ C A.op B.op=true)(M:Yx C call ops E A tm H=some (v,H1))(N:Yx C call ops F B j H1=some (u,D)) :
 ∃ z,Yx C call ops F B j H=some (u,z)/\Yx C call ops E A tm z=some (v,D):=by
 have key:∀ k k',(k=1/\k'=2)\/(k=2/\k'=1)->stC C A.op=k->stC C B.op=k'->∃ z,Yx C call ops F B j H=some (u,z)/\Yx C call ops E A tm z=some (v,D):=by
  intro k k' J hi W;have hk:k=1\/k=2:=by omega
  have I:k'=1\/k'=2:=by omega
  rcases Ztw hk hi M with ⟨rfl,U⟩|⟨q,x,y,L,Y,S,rfl,T⟩
  ·exact⟨D,N,U _⟩
  ·rcases Ztw I W N with ⟨rfl,V⟩|⟨p,Z,O,w,Q,X,rfl,R⟩
   ·exact⟨H,V _,M⟩
   ·have g:q≠p:=by
     rintro rfl
     have K:q<H.length:=Zg L;rw[List.getElem?_set_self K]at w;injection w with w;subst w;rcases J with ⟨rfl,rfl⟩|⟨rfl,rfl⟩ <;> cases y <;> simp[isK]at S Q
    rw[zE g]at w;refine⟨H.set p O,R H w,?_⟩;rw[T (H.set p O) (by rw[zE g.symm];exact L),zT _ _ g]
 unfold AJ at h;simp only[zG,zD,decide_eq_true_eq]at h;rcases h with ⟨a,b⟩|⟨a,b⟩
 ·exact key 1 2 (by omega) a b
 ·exact key 2 1 (by omega) a b
def Qf (C:Cfg)(call:ZF)(ops:Array Oper)(draw:Bool)(b i:Nat)(o:Oper)(tm:List AV)(H:Hp):Option (AV×Hp) :=
 if draw&&VC C ops i then (if Xp C ops i then none else ME (b+VD C ops i) (MT C (eval C tm) o.op) H) else Yx C call ops (draw&&Xp C ops i) o tm H
theorem B7 {draw:Bool}{b i:Nat}{o:Oper}{s:St}:W7 C call ops draw b i o s=match Qf C call ops draw b i o s.1 s.2 with|some (v,H)=>some (Xf s.1 o.dst v,H)|none=>none:=by
 unfold W7 Qf;by_cases h:(draw&&VC C ops i)=true
 ·rw[if_pos h,if_pos h];by_cases g:Xp C ops i=true
  ·rw[if_pos g,if_pos g]
  ·rw[if_neg g,if_neg g];rfl
 ·rw[if_neg h,if_neg h];rfl
theorem ZqI {ev g:Operand->AV}{op:Op}(h:∀ x∈op.operands,ev x=g x):MT C ev op=MT C g op:=by
 cases op <;> try rfl
 case makeMap t r=>cases r <;> rfl
 case box t x=>simp only[MT];rw[h x (by simp[Op.operands])]
theorem ZiK {draw:Bool}{b i:Nat}{tm g:List AV}{o:Oper}{H:Hp}(h:∀ t∈o.looksAt ops,tm[t]?=g[t]?):Qf C call ops draw b i o tm H=Qf C call ops draw b i o g H:=by
 unfold Qf;rw[Zr1 h,ZqI (Zi6 h)]
theorem Zxe (p:Nat)(j:Option AObj):Xh (ME p j):=by
 cases j with
 |none=>exact Zv
 |some l =>
  intro H v H' h;unfold ME at h;simp only at h;split at h
  ·rename_i z;split at h
   ·rename_i g;simp only[zA,zB]at h;obtain⟨rfl,rfl⟩:=h;refine⟨by simp,fun o A y=>?_⟩;obtain⟨u,w⟩:=NJ y (fun e=>by rw[e]at g;cases g);refine⟨w,fun x=>?_⟩;unfold ME;simp only;rw[zE u,z];simp only;rw[if_pos g,zT _ _ u]
   ·cases h
  ·cases h
theorem ZjM (g:Xy call)(draw:Bool)(b i:Nat)(o:Oper)(tm:List AV):Xh (Qf C call ops draw b i o tm):=by
 unfold Qf;exact Ye _ (fun _=>Ye _ (fun _=>Zv) fun _=>Zxe _ _) fun _=>ZxW g _ _ _ _
theorem Zp9 {j n:Nat}(h:VC C ops j=true)(w:j<n):VD C ops j<VD C ops n:=by
 unfold VD
 have g:(zU (j+1)).countP (VC C ops)=(zU j).countP (VC C ops)+1:=by
  rw[List.range_succ,List.countP_append];simp[h]
 have u:(zU (j+1)).countP (VC C ops)<=(zU n).countP (VC C ops):=yE (List.range_sublist.2 (by omega));omega
theorem Mj {i:Nat}{o:Oper}(h:ops[i]?=some o)(g:VC C ops i=true):fresh o.op=true/\o.guard=none:=by
 unfold VC at g;simp only[h,zD]at g;exact⟨g.1.1,by simpa using g.1.2⟩
theorem ZoT {op:Op}(h:fresh op=true):Y1 C op=2:=by
 cases op <;> first|rfl|(simp[fresh]at h;done)
theorem ZkI (j:Xy call){draw:Bool}{b i:Nat}{o:Oper}{s s':St}(h:W7 C call ops draw b i o s=some s'):s.2.length<=s'.2.length:=by
 rw[B7]at h
 cases g:Qf C call ops draw b i o s.1 s.2 with
 |none=>simp[g]at h
 |some p =>
  obtain⟨v,H⟩:=p;simp only[g,zA]at h;subst h;exact (ZjM j draw b i o s.1 s.2 v H g).1
def FarAt (C:Cfg)(ops:Array Oper)(tm:List AV):Prop:=∀ (i j:Nat) (x y:Oper) (p:Nat×Nat),ops[i]?=some x->ops[j]?=some y->ZaD C x.op y.op=some p->Lg (eval C tm (.tmp p.1)) (eval C tm (.tmp p.2))=true
def Zps (C:Cfg)(ops:Array Oper):Prop:=∀ (i j:Nat) (x y:Oper) (p:Nat×Nat),ops[i]?=some x->ops[j]?=some y->ZaD C x.op y.op=some p->Kf ops p.1=true/\Kf ops p.2=true
theorem ZsE {tm:List AV}(h:Fc C ops (eval C tm)=true):FarAt C ops tm/\Zps C ops:=by
 have key:∀ (i j:Nat) (x y:Oper) (p:Nat×Nat),ops[i]?=some x->ops[j]?=some y->ZaD C x.op y.op=some p->p∈ZaC C ops:=by
  intro i j x y p hi u g;unfold ZaC
  cases w:C.far with
  |none=>unfold ZaD at g;rw[w]at g;cases g
  |some f =>
   dsimp only;rw[List.mem_flatMap];refine⟨x,by rw[zN];exact zM hi,?_⟩;rw[zX];exact⟨y,by rw[zN];exact zM u,g⟩
 unfold Fc Ry Zqn at h;rw[zD,zI,zI]at h;refine⟨fun i j x y p hi u g=>h.2 p (key i j x y p hi u g),fun i j x y p hi u g=>?_⟩;have:=h.1 p (key i j x y p hi u g)
 rwa [zD]at this
theorem ZmK {a k:Nat}{o:Oper}{tm:List AV}{v:AV}(h:Kf ops a=true)(u:ops[k]?=some o):eval C (Xf tm o.dst v) (.tmp a)=eval C tm (.tmp a):=by
 unfold Kf at h;rw[zI]at h;have:=h o (by rw[zN];exact zM u)
 cases j:o.dst with
 |none=>rfl
 |some d =>
  rw[j]at this;simp only[zL]at this;have g:=zR this;show (tm.set d v).getD a (.tuple [])=tm.getD a (.tuple []);rw[zH,zH,zE g]
theorem FarAt.put {tm:List AV}(h:FarAt C ops tm)(z:Zps C ops){k:Nat}{o:Oper}{v:AV}(u:ops[k]?=some o):FarAt C ops (Xf tm o.dst v):=by
 intro i j x y p hi g w;obtain⟨A,B⟩:=z i j x y p hi g w;rw[ZmK A u,ZmK B u];exact h i j x y p hi g w
theorem Zpf {o:Oper}{fl:Bool}{tm:List AV}{H H':Hp}{v:AV}{t a q off:Nat}(y:o.op=.load t (.tmp a))(z:eval C tm (.tmp a)=.ptr q off)(h:Yx C call ops fl o tm H=some (v,H')) :
 H'=H/\∀ j:Hp,j[q]?=H[q]?->Yx C call ops fl o tm j=some (v,j):=by
 unfold Yx at h ⊢;split at h
 ·cases h
 ·rename_i hw;simp only[zA,zB]at h;obtain⟨rfl,rfl⟩:=h;exact⟨rfl,fun j _=>rfl⟩
 ·rename_i hw;rw[y]at h ⊢;unfold Xd at h ⊢
  have B:ZT C (eval C tm) (.load t (.tmp a))=none:=by
   simp only[ZT,z,Jy];split <;> rfl
  rw[B]at h ⊢;dsimp only at h ⊢;split at h
  ·cases h
  ·rename_i u;simp only[ZE,z]at h ⊢;split at h
   ·rename_i g sz D E
    cases w:Z3 g sz (.ptr q off) H with
    |none=>rw[w]at h;cases h
    |some r =>
     rw[w]at h;simp only[Option.map_some,zA,zB]at h;obtain⟨rfl,rfl⟩:=h;refine⟨rfl,fun j A=>?_⟩;rw[if_neg u];have:Z3 g sz (.ptr q off) j=Z3 g sz (.ptr q off) H:=by unfold Z3;simp only[A]
     rw[this,w];rfl
   ·cases h
theorem Zpg {o:Oper}{fl:Bool}{tm:List AV}{H H':Hp}{v:AV}{t a q off:Nat}{w:Operand}(z:o.op=.store t (.tmp a) w)(D:eval C tm (.tmp a)=.ptr q off)(h:Yx C call ops fl o tm H=some (v,H')) :
 (H'=H/\∀ g,Yx C call ops fl o tm g=some (v,g))\/∃ x y:AObj,H[q]?=some x/\H'=H.set q y/\∀ g:Hp,g[q]?=some x->Yx C call ops fl o tm g=some (v,g.set q y):=by
 unfold Yx at h ⊢;split at h
 ·cases h
 ·rename_i hw;simp only[zA,zB]at h;obtain⟨rfl,rfl⟩:=h;exact .inl ⟨rfl,fun g=>rfl⟩
 ·rename_i hw;rw[z]at h ⊢;unfold Xd at h ⊢;have F:ZT C (eval C tm) (.store t (.tmp a) w)=none:=rfl;rw[F]at h ⊢;dsimp only at h ⊢;split at h
  ·cases h
  ·rename_i u;simp only[ZE,D]at h ⊢;split at h
   ·split at h
    ·rename_i I;unfold Za YX at h;dsimp only at h
     cases A:H[q]? with
     |none=>rw[A]at h;cases h
     |some x =>
      cases x with
      |cells l =>
       rw[A]at h;dsimp only at h;split at h
       ·rename_i H1 j;split at j
        ·rename_i E;injection j with j;subst j;simp only[zA,zB]at h;obtain⟨rfl,rfl⟩:=h;refine .inr ⟨_,_,rfl,rfl,fun g B=>?_⟩;rw[if_neg u,if_pos I];unfold Za YX;simp only[B];rw[if_pos E]
        ·cases j
       ·cases h
      |_=>rw[A]at h;cases h
    ·cases h
   ·cases h
theorem ZdY {x y:Op}{p:Nat×Nat}(h:ZaD C x y=some p):∃ t u w,x=.load t (.tmp p.1)/\y=.store u (.tmp p.2) w:=by
 unfold ZaD at h;split at h
 ·cases h
 ·split at h
  ·split at h
   ·injection h with h;subst h;exact⟨_,_,_,rfl,rfl⟩
   ·cases h
  ·cases h
theorem Zw9 {i j:Nat}{A B:Oper}{T U:Bool}{tm:List AV}{H H1 R:Hp}{v u:AV}(V:FarAt C ops tm)(hi:ops[i]?=some A)(W:ops[j]?=some B)(h:ZdX C A.op B.op=true)
 (D:Yx C call ops T A tm H=some (v,H1)) (E:Yx C call ops U B tm H1=some (u,R)) :
 ∃ S,Yx C call ops U B tm H=some (u,S)/\Yx C call ops T A tm S=some (v,R):=by
 have X:∀ {x y:AV},Lg x y=true->∃ q o I Q,x=.ptr q o/\y=.ptr I Q/\q≠I:=by
  intro x y h;unfold Lg at h;split at h
  ·simp only[zL]at h;exact⟨_,_,_,_,rfl,rfl,zR h⟩
  ·cases h
 unfold ZdX at h;rw[zG]at h;rcases h with h|h
 ·obtain⟨p,F⟩:=zJ.1 h;obtain⟨t,w,z,J,K⟩:=ZdY F;obtain⟨q,o,I,Q,L,M,g⟩:=X (V i j A B p hi W F);obtain⟨rfl,N⟩:=Zpf J L D;rcases Zpg K M E with ⟨rfl,O⟩|⟨x,y,O,rfl,Y⟩
  ·exact⟨_,E,D⟩
  ·exact⟨_,E,N _ (zE g.symm)⟩
 ·obtain⟨p,F⟩:=zJ.1 h;obtain⟨t,w,z,J,K⟩:=ZdY F;obtain⟨q,o,I,Q,L,M,g⟩:=X (V j i B A p W hi F);obtain⟨rfl,N⟩:=Zpf J L E;rcases Zpg K M D with ⟨rfl,O⟩|⟨x,y,O,rfl,Y⟩
  ·exact⟨_,E,D⟩
  ·exact⟨_,N _ (zE g.symm).symm,D⟩
theorem Zra (X:Xy call){b i j:Nat}{F I:Oper}{s s1 O:St}(hF:FarAt C ops s.1)(hi:ops[i]?=some F)(Z:ops[j]?=some I)(N:b+VD C ops ops.size<=s.2.length)(U:F.apart ops I=true)
 (y:VC C ops j=true\/(VC C ops j=false/\Zm9 C (Xp C ops i) (Xp C ops j) F.op I.op)) (L:W7 C call ops true b i F s=some s1) (K:W7 C call ops true b j I s1=some O) :
 ∃ s2,W7 C call ops true b j I s=some s2/\W7 C call ops true b i F s2=some O:=by
 obtain⟨a1,a2,a3⟩:=Oper.apart_spec U;obtain⟨tm,H⟩:=s;rw[B7]at L K;simp only at L N
 cases h:Qf C call ops true b i F tm H with
 |none=>simp[h]at L
 |some p =>
  obtain⟨v,H1⟩:=p;simp only[h,zA]at L;subst L;simp only at K;rw[ZiK (Zkv a1)]at K
  cases g:Qf C call ops true b j I tm H1 with
  |none=>simp[g]at K
  |some q =>
   obtain⟨u,T⟩:=q;simp only[g,zA]at K;subst K
   have key:∃ Q,Qf C call ops true b j I tm H=some (u,Q)/\Qf C call ops true b i F tm Q=some (v,T):=by
    rcases y with M|⟨M,y⟩
    ·have Y:j<ops.size:=(zC.1 Z).1;have ab:=Zp9 M Y;unfold Qf at g;simp only[M,zV,if_true]at g;split at g
     ·cases g
     ·rename_i W;unfold ME at g;split at g
      ·rename_i cs V;split at g
       ·rename_i hp;split at g
        ·rename_i hT;simp only[zA,zB]at g;obtain⟨rfl,rfl⟩:=g;obtain⟨_,hf⟩:=ZjM X true b i F tm H v H1 h;obtain⟨g1,g2⟩:=hf _ (by omega) hp;refine⟨H.set (b+VD C ops j) cs,?_,g2 _⟩;unfold Qf;simp only[M,zV,if_true];rw[if_neg W];unfold ME;rw[V];simp only;rw[g1];simp only[hT,if_true]
        ·cases g
       ·cases g
      ·cases g
    ·have S:∀ H,Qf C call ops true b j I tm H=Yx C call ops (Xp C ops j) I tm H:=fun H=>by unfold Qf;simp[M]
     rw[S]at g;simp only[S]
     cases D:VC C ops i with
     |true =>
      have aa:=ZoT (C:=C) (Mj hi D).1;rcases y with y|y|⟨B,E⟩|⟨B,E⟩|y|y
      rotate_right
      ·exfalso;unfold ZdX at y;rw[zG]at y;have J:=(Mj hi D).1;rcases y with y|y <;> obtain⟨p,hq⟩:=zJ.1 y <;> obtain⟨t,w,z,R,S⟩:=ZdY hq
       ·rw[R]at J;cases J
       ·rw[S]at J;cases J
      ·exfalso;rcases y with y|y
       ·omega
       ·unfold Qf at h;simp only[D,zV,if_true]at h;rw[if_pos y]at h;cases h
      ·obtain⟨rfl,A⟩:=Zb3 y g;exact⟨H,A H,h⟩
      ·exfalso;unfold AF at B;rw[ZoQ (Mj hi D).1,Bool.or_false,decide_eq_true_eq]at B;omega
      ·omega
      ·exfalso;have:=Zu8 (C:=C) (Mj hi D).1;unfold AJ at y;rw[this]at y;simp at y
     |false =>
      have R:∀ H,Qf C call ops true b i F tm H=Yx C call ops (Xp C ops i) F tm H:=fun H=>by unfold Qf;simp[D]
      rw[R]at h;simp only[R];rcases y with y|y|⟨B,E⟩|⟨B,E⟩|y|y
      rotate_right
      ·exact Zw9 hF hi Z y h g
      rotate_right
      ·exact Zwa y h g
      ·obtain⟨rfl,A⟩:=Zb3 y h;exact⟨T,g,A T⟩
      ·obtain⟨rfl,A⟩:=Zb3 y g;exact⟨H,A H,h⟩
      ·obtain rfl:=Zg6 B h;obtain rfl:=Zg6 E g;exact⟨_,g,h⟩
      ·obtain rfl:=ZiA (.inl B) h;obtain⟨l,rfl⟩:=Zr2 E g;exact⟨_,g,Ztx B h l⟩
   obtain⟨Q,k1,k2⟩:=key;refine⟨(Xf tm I.dst u,Q),by rw[B7];simp[k1],?_⟩;rw[B7];simp only;rw[ZiK (Zkv a3),k2];simp only[zA,zB,and_true];exact (ZrZ a2).symm
def Any (C:Cfg)(call:ZF)(ops:Array Oper)(b:Nat):Nat->Array Bool->St->St->Prop
 |0,listed,s,r=>Region.ready .any ops listed=[]/\s=r
 |n+1,listed,s,r=>(Region.ready .any ops listed=[]->s=r) /\
  ∀ i∈Region.ready .any ops listed,∃ o s',ops[i]?=some o/\W7 C call ops true b i o s=some s'/\Any C call ops b n (listed.setIfInBounds i true) s' r
def Closed (ops:Array Oper)(g:Array Bool):Prop:=∀ j o,ops[j]?=some o->g.getD j false=true->∀ e∈o.after,Region.binds .any e=true->g.getD e.on false=true
theorem Closed.set {g:Array Bool}(h:Closed ops g){i:Nat}(hi:i∈Region.ready .any ops g):Closed ops (g.setIfInBounds i true):=by
 intro j o D B e A z;by_cases y:i=j
 ·subst y;obtain⟨_,E,u,w⟩:=mem_ready.1 hi;rw[D]at u;injection u with u;subst u;exact getD_set_true (w e A z)
 ·rw[getD_set_ne false y]at B;exact getD_set_true (h j o D B e A z)
theorem ZbE {g:Array Bool}(h:Closed ops g):∀ (n j i:Nat),XC ops n j i=true->(∀ o,ops[j]?=some o->∀ e∈o.after,Region.binds .any e=true->g.getD e.on false=true)->g.getD i false=true:=by
 intro n
 induction n with
 |zero=>intro j i w;simp[XC]at w
 |succ n K =>
  intro j i w I;unfold XC at w;split at w
  ·cases w
  ·rename_i o J;rw[zZ]at w;obtain⟨e,H,z⟩:=w;rw[zD,zG]at z;obtain⟨y,u⟩:=z;have E:=I o J e (by simpa using H) y;rcases u with u|u
   ·rw[<-beq_iff_eq.1 u];exact E
   ·exact K e.on i u (fun L D F B A=>h e.on L D E F B A)
theorem Zbq {g:Array Bool}{i:Nat}(h:g.getD i true=false):g.getD i false=false:=by
 rcases Nat.lt_or_ge i g.size with j|j
 ·simp[j]at h ⊢;exact h
 ·simp[Array.getElem?_eq_none j]at h
theorem ZrU (M:Xy call)(hK:Zps C ops){b i:Nat}{I:Oper}(hi:ops[i]?=some I):∀ (n:Nat) (g:Array Bool) (s J r:St),FarAt C ops s.1->b+VD C ops ops.size<=s.2.length->Closed ops g ->
 (∀ j F,ops[j]?=some F->j≠i->g.getD j true=false->XC ops ops.size j i=true\/(I.apart ops F=true/\(VC C ops j=true\/(VC C ops j=false/\Zm9 C (Xp C ops i) (Xp C ops j) I.op F.op)))) ->
 i∈Region.ready .any ops g->W7 C call ops true b i I s=some J->Any C call ops b n (g.setIfInBounds i true) J r->Any C call ops b (n+1) g s r:=by
 intro n
 induction n with
 |zero =>
  intro g s J r _ _ _ _ E S H;refine⟨fun h=>(by rw[h]at E;cases E),fun j N=>?_⟩;by_cases u:j=i
  ·subst u;exact⟨I,J,hi,S,H⟩
  ·have:=ready_mono N u;rw[H.1]at this;cases this
 |succ n ih =>
  intro g s J r hF D L z E S H;refine⟨fun h=>(by rw[h]at E;cases E),fun j N=>?_⟩;by_cases u:j=i
  ·subst u;exact⟨I,J,hi,S,H⟩
  ·obtain⟨F,Z,y,Y,Hj⟩:=H.2 j (ready_mono N u);obtain⟨B,aa,w,K⟩:=mem_ready.1 N;rw[y]at w;injection w with w;subst w;rcases z j F y u B with hb|⟨U,W⟩
   ·exfalso;have h1:=ZbE L ops.size j i hb (fun o R e he V=>by rw[y]at R;injection R with R;subst R;exact K e he V);rw[Zbq (mem_ready.1 E).1]at h1;cases h1
   ·obtain⟨s2,A,h3⟩:=Zra M hF hi y D U W S Y
    have T:FarAt C ops s2.1:=by
     rw[B7]at A
     cases hv:Qf C call ops true b j F s.1 s.2 with
     |none=>rw[hv]at A;cases A
     |some p =>
      rw[hv]at A;simp only[zA]at A;rw[<-A];exact hF.put hK y
    refine⟨F,s2,y,A,ih (g.setIfInBounds j true) s2 Z r T (yD D (ZkI M A)) (L.set N) (fun k ok hk X Q=>z k ok hk X ?_) (ready_mono E (Ne.symm u)) h3 ?_⟩
    ·by_cases O:j=k
     ·subst O;exact B
     ·rw[getD_set_ne true O]at Q;exact Q
    ·rw[Array.setIfInBounds_comm _ _ u];exact Hj
theorem Zsl {i j:Nat}{u g:Oper}(S:i<j)(hi:ops[i]?=some u)(H:ops[j]?=some g)(w:j≠i)(J:XC ops ops.size i j=false)(K:XC ops ops.size j i=false):VC C ops j=true\/(VC C ops j=false/\Zm9 C (Xp C ops i) (Xp C ops j) u.op g.op):=by
 cases z:VC C ops j with
 |true=>exact .inl rfl
 |false =>
 refine .inr ⟨rfl,?_⟩;by_cases D:Y1 C u.op<=1/\fresh g.op=true
 ·exact .inr (.inr (.inr (.inl D)))
 by_cases y:ZhV C u.op g.op=true
 ·have N:i<ops.size:=(zC.1 hi).1;have A:j<ops.size:=(zC.1 H).1;have U:Y1 C u.op<=1\/2<=Y1 C u.op:=by omega
  have B:∀ (i j:Nat) (u g:Oper),ops[i]?=some u->ops[j]?=some g->j≠i->j<ops.size->XC ops ops.size i j=false->XC ops ops.size j i=false->ZhV C u.op g.op=true->(Y1 C u.op<=1\/2<=Y1 C g.op)->¬ (Y1 C u.op<=1/\fresh g.op=true/\i<j)->¬ (i<j/\VC C ops j=true)->¬ (j<i/\VC C ops i=true)->Xp C ops i=true:=by
   intro i j u g hi H w A J K y T O L M;unfold Xp;simp only[hi];rw[zZ];refine⟨j,zS.2 A,?_⟩
   have I:(decide (Y1 C u.op<=1)&&fresh g.op&&decide (i<j))=false:=by
    rw[zQ];intro e;simp only[zD,decide_eq_true_eq]at e;exact O ⟨e.1.1,e.1.2,e.2⟩
   have E:(decide (i<j)&&VC C ops j)=false:=by
    rw[zQ];intro e;simp only[zD,decide_eq_true_eq]at e;exact L e
   have F:(decide (j<i)&&VC C ops i)=false:=by
    rw[zQ];intro e;simp only[zD,decide_eq_true_eq]at e;exact M e
   simp only[H,y,J,K,I,E,F,bne_iff_ne,ne_eq,w,not_false_eq_true,Bool.true_and,Bool.not_false,Bool.and_true,zD,zG,decide_eq_true_eq];exact⟨trivial,T⟩
  by_cases R:Y1 C u.op<=1\/2<=Y1 C g.op
  ·exact .inl (.inr (B i j u g hi H w A J K y R (fun e=>D ⟨e.1,e.2.1⟩) (fun e=>by rw[z]at e;cases e.2) (fun e=>by omega)))
  ·refine .inr (.inl (.inr (B j i g u H hi (Ne.symm w) N K J ?_ (.inl (by omega)) (fun e=>by omega) (fun e=>by omega) (fun e=>by rw[z]at e;cases e.2))))
   have V:AJ C g.op u.op=AJ C u.op g.op:=by
    unfold AJ;rw[zW (decide (stC C g.op=1)),zW (decide (stC C g.op=2)),zY]
   have Q:ZdX C g.op u.op=ZdX C u.op g.op:=by
    unfold ZdX;rw[zY]
   unfold ZhV at y ⊢;rw[zY (decide (Y1 C g.op=0)),zW (AF C g.op),V,Q];exact y
 ·unfold ZhV at y;simp only[zL,Bool.not_eq_false,zG,decide_eq_true_eq,zD]at y;rcases y with (((h|h)|h)|h)|h
  ·exact .inl (.inl h)
  ·exact .inr (.inl (.inl h))
  ·exact .inr (.inr (.inl h))
  ·exact .inr (.inr (.inr (.inr (.inl h))))
  ·exact .inr (.inr (.inr (.inr (.inr h))))
theorem Zn0 (h:Vf ops=true):Region.noSelect ops=true/\∀ k o,ops[k]?=some o->(∀ e∈o.after,Region.binds .any e=true->e.on<k) /\
 ∀ j w,ops[j]?=some w->k<j->XC ops ops.size j k=true\/o.apart ops w=true:=by
 unfold Vf at h;rw[zD,zI]at h;refine⟨h.1,fun k o A=>?_⟩;have u:k<ops.size:=(zC.1 A).1;have hk:=h.2 k (zS.2 u);simp only[A,zD,zI]at hk;refine⟨fun e D B=>?_,fun j w z E=>?_⟩
 ·have:=hk.1 e (by simpa using D);simpa[B]using this
 ·have g:j<ops.size:=(zC.1 z).1;have:=hk.2 j (zS.2 g);simp only[z,zG,decide_eq_true_eq]at this;rcases this with y|y
  ·omega
  ·exact y
theorem ZnV (M:Xy call)(hK:Zps C ops){b:Nat}(ac:Vf ops=true):∀ (l:List Oper) (k:Nat) (g:Array Bool) (s r:St),FarAt C ops s.1->(∀ j,l[j]?=ops[k+j]?)->g.size=ops.size->(∀ x,x<ops.size->g.getD x false=decide (x<k))->k<=ops.size->b+VD C ops ops.size<=s.2.length ->
 Yt C call ops true b k l s=some r->Any C call ops b l.length g s r:=by
 obtain⟨ad,w⟩:=Zn0 ac;intro l
 induction l with
 |nil =>
  intro k g s r V U R u hk y h;simp[Yt]at h;refine⟨?_,h⟩;rw[List.eq_nil_iff_forall_not_mem];intro i hi;obtain⟨h1,o,ho,_⟩:=mem_ready.1 hi;have aa:i<ops.size:=(zC.1 ho).1
  have Q:ops.size<=k:=by
   have:=U 0;simp at this;exact this
  have:=u i aa;rw[Zbq h1]at this;simp at this;omega
 |cons o l ih =>
  intro k g s r V U R u hk y h;have z:ops[k]?=some o:=by simpa using (U 0).symm
  have Q:k<ops.size:=(zC.1 z).1;unfold Yt at h;split at h
  ·rename_i s' H
   have K:Closed ops g:=by
    intro j oj J A e L E;have N:j<ops.size:=(zC.1 J).1;rw[u j N]at A;have:=(w j oj J).1 e L E;rw[u e.on (by omega)];simp at A ⊢;omega
   have D:k∈Region.ready .any ops g:=by
    rw[mem_ready];refine⟨?_,o,z,fun e L E=>?_⟩
    ·have:=u k Q;simp at this;have F:k<g.size:=by omega
     simp[F]at this ⊢;exact this
    ·have:=(w k o z).1 e L E;rw[u e.on (by omega)];simpa using this
   have W:FarAt C ops s'.1:=by
    have I:=H;rw[B7]at I
    cases hv:Qf C call ops true b k o s.1 s.2 with
    |none=>rw[hv]at I;cases I
    |some p =>
     rw[hv]at I;simp only[zA]at I;rw[<-I];exact V.put hK z
   refine ZrU M hK z l.length g s s' r V y K (fun j oj J ab S=>?_) D H (ih (k+1) _ s' r W (fun j=>by have:=U (j+1);simpa[Nat.add_assoc,Nat.add_comm 1 j]using this) (by simpa using R) (fun x hx=>?_) (by omega) (yD y (ZkI M H)) h)
   ·have A:j<ops.size:=(zC.1 J).1
    have O:k<j:=by
     have:=u j A;rw[Zbq S]at this;simp at this;omega
    rcases (w k o z).2 j oj J O with E|X
    ·exact .inl E
    ·by_cases E:XC ops ops.size j k=true
     ·exact .inl E
     ·refine .inr ⟨X,Zsl O z J ab ?_ (by simpa using E)⟩
      cases Z:XC ops ops.size k j with
      |false=>rfl
      |true =>
       exfalso
       have:=ZbE K ops.size k j Z (fun o' B e L Y=>by
        rw[z]at B;injection B with B;subst B;have:=(w k o z).1 e L Y;rw[u e.on (by omega)];simpa using this)
       rw[Zbq S]at this;cases this
   ·by_cases T:k=x
    ·subst T;have F:k<g.size:=by omega
     simp[F]
    ·rw[getD_set_ne false T,u x hx];simp;omega
  ·cases h
end
end Go.Am
