/- THE ABSTRACT MACHINE -/
import Derived.Test.YtnaneekpogohaaaGreatDoorHmFrx
open List renaming getElem?_set_ne->zE,getElem?_append_left->zF,getD_eq_getElem?_getD->zH,all_eq_true->zI,map_congr_left->zO,mem_range->zS,set_comm->zT,range->zU,mem_filterMap->zX,any_eq_true->zZ,nil_append->yA,append_nil->yB
open Nat renaming ne_of_beq_eq_false->zR,le_trans->yD
open Bool renaming and_eq_true->zD,or_eq_true->zG,false_eq_true->zK,not_eq_true'->zL,eq_false_iff->zQ,and_self->zV,and_comm->zW,or_comm->zY,false_and->yC
open Option renaming isSome_iff_exists->zJ,isNone_iff_eq_none->zP
open Array renaming getElem?_eq_some_iff->zC,mem_of_getElem?->zM,mem_toList_iff->zN
open Option.some renaming injEq->zA
open Prod.mk renaming injEq->zB
open List.Sublist renaming countP_le->yE
namespace Go.Am
open RowKit
section
variable {C:Cfg}{call:Zx}{ops:Array Oper}
theorem Rz {ev g:Operand->AV}{xs:Array Operand}(h:∀ x∈xs,ev x=g x):xs.toList.map ev=xs.toList.map g :=
 zO fun x j=>h x (by simpa using j)
theorem Ew {ev g:Operand->AV}{x:Option Operand}(h:∀ y∈x.toArray,ev y=g y):x.map ev=x.map g:=by
 cases x with
 |none=>rfl
 |some y=>simp[h y (by simp)]
theorem Zn2 {ev j:Operand->AV}{op:Op}(h:∀ x∈op.operands,ev x=j x):ZI C ev op=ZI C j op:=by
 cases op <;> simp only[Op.operands]at h
 case call c =>
  obtain⟨callee,args,argTypes⟩:=c
  cases callee with
  |value f=>rfl
  |invoke r m=>rfl
  |builtin b =>
   have A:∀ x∈args,ev x=j x:=fun x w=>h x (by simp[Call.operands,w]);cases b <;> try rfl
   case len =>
    simp only[ZI];split
    ·rename_i g _;obtain rfl:=UI g;simp[A]
    ·rfl
   all_goals
    simp only[ZI];split
    ·rename_i g;obtain rfl:=Xn g;simp[A]
    ·rfl
 case build t ps =>
  have:(ps.toList.map fun p=>(p.1,ev p.2))=ps.toList.map fun p=>(p.1,j p.2):=zO fun p z=>by
   rw[h p.2 (by simp;exact⟨p.1,by simpa using z⟩)]
  simp only[ZI,this]
 case buildSlice t n ps =>
  have:(ps.toList.map fun p=>(p.1,ev p.2))=ps.toList.map fun p=>(p.1,j p.2):=zO fun p z=>by
   rw[h p.2 (by simp;exact⟨p.1,by simpa using z⟩)]
  simp only[ZI,this]
 case makeFunc fn first captured =>
  cases fn <;> simp only[ZI]
  rw[Rz (xs:=first) (fun x w=>h x (by simp[w])),Rz (xs:=captured) (fun x w=>h x (by simp[w]))]
 case slice t x lo hi mx =>
  simp only[ZI];rw[h x (by simp),Ew (x:=lo) (fun y u=>h y (by simp at u ⊢;simp[u])),Ew (x:=hi) (fun y u=>h y (by simp at u ⊢;simp[u])),Ew (x:=mx) (fun y u=>h y (by simp at u ⊢;simp[u]))]
 all_goals first
  |rfl
  |(simp only[ZI];simp[h])
theorem ZmW {ev j:Operand->AV}{H:Hp}{op:Op}(h:∀ x∈op.operands,ev x=j x):ZA C call ev H op=ZA C call j H op:=by
 cases op <;> simp only[Op.operands]at h
 case call c =>
  obtain⟨callee,args,argTypes⟩:=c
  cases callee with
  |value f =>
   simp only[ZA];rw[h f (by simp[Call.operands]),Rz (xs:=args) (fun x u=>h x (by simp[Call.operands,u]))]
  |invoke r m =>
   simp only[ZA];rw[h r (by simp[Call.operands]),Rz (xs:=args) (fun x u=>h x (by simp[Call.operands,u]))]
  |builtin b =>
   have w:∀ x∈args,ev x=j x:=fun x u=>h x (by simp[Call.operands,u]);cases b <;> try rfl
   all_goals
    simp only[ZA];split
    ·rename_i g y
     first
      |(obtain rfl:=Xn g;simp[w])
      |(obtain rfl:=UI g;simp[w])
    ·rfl
 case makeMap t r=>cases r <;> rfl
 all_goals first
  |rfl
  |(simp only[ZA];simp[h])
theorem ZrR {ev g:Operand->AV}{H:Hp}{fl:Bool}{op:Op}(h:∀ x∈op.operands,ev x=g x):X9 C call ev H fl op=X9 C call g H fl op:=by
 unfold X9;rw[Zn2 h,ZmW h]
theorem ZgM {tm g:List AV}{o:Oper}(h:∀ t∈o.looksAt ops,tm[t]?=g[t]?):∀ x∈o.op.operands,eval C tm x=eval C g x:=by
 intro x j
 cases x with
 |tmp t =>
  simp only[eval,zH];rw[h t];unfold Oper.looksAt;rw[List.mem_append];left;rw[zX];exact⟨.tmp t,by simpa using j,rfl⟩
 |_=>rfl
theorem Zk2 {tm u:List AV}{o:Oper}(h:∀ t∈o.looksAt ops,tm[t]?=u[t]?):Wv ops tm o=Wv ops u o:=by
 unfold Wv
 cases z:o.guard with
 |none=>rfl
 |some p =>
  obtain⟨j,w⟩:=p;simp only
  cases A:ops[j]? with
  |none=>rfl
  |some g =>
   simp only
   cases y:g.dst with
   |none=>rfl
   |some d =>
    simp only;rw[h d];unfold Oper.looksAt;simp[z,A,y]
theorem ZqN {tm g:List AV}{o:Oper}{fl:Bool}{H:Hp}(h:∀ t∈o.looksAt ops,tm[t]?=g[t]?):Yu C call ops fl o tm H=Yu C call ops fl o g H:=by
 unfold Yu;rw[Zk2 h,ZrR (ZgM h)]
theorem Zju {tm:List AV}{o:Oper}{g:Option Tmp}{v:AV}(h:∀ d,g=some d->d∉o.looksAt ops):∀ t∈o.looksAt ops,(Xa tm g v)[t]?=tm[t]?:=by
 intro t j
 cases g with
 |none=>rfl
 |some d =>
  have:d≠t:=fun e=>h d rfl (e ▸ j);simp[Xa,zE this]
theorem ZbT {id:FuncId}{args:List AV}{H H':Hp}{v:AV}(A:Zdv C id=true)(h:X5 C call id args H=some (v,H')):H'=H/\∀ y,X5 C call id args y=some (v,y):=by
 unfold X5 at h ⊢
 cases w:C.ext id with
 |some e =>
  simp only[w]at h ⊢;unfold HM at h ⊢
  cases j:Zlr e args with
  |none=>simp[j]at h
  |some u =>
   simp only[j,zA,zB]at h ⊢;obtain⟨rfl,rfl⟩:=h;simp
 |none =>
  cases F:C.sum id with
  |some g =>
   simp only[w,F]at h ⊢;unfold Ae at h ⊢
   cases j:g args with
   |none=>simp[j]at h
   |some u =>
    simp only[j,zA,zB]at h ⊢;obtain⟨rfl,rfl⟩:=h;simp
  |none =>
  unfold Zdv at A;simp only[w,F,Option.isSome_none,Bool.false_or,zD,zP]at A;obtain⟨⟨B,D⟩,E⟩:=A;simp only[w,F,B,D,E,if_true]at h ⊢;unfold Zf at h ⊢;split at h
  ·rename_i z K;split at h
   ·rename_i L H1 I;split at h
    ·rename_i M J;simp only[zA,zB]at h;obtain⟨rfl,rfl⟩:=h;exact⟨rfl,fun y=>rfl⟩
    ·cases h
   ·cases h
  ·cases h
theorem Zlc {x:AV}{H H':Hp}{v:AV}(h:KR x H=some (v,H')):H'=H:=by
 unfold KR at h;split at h
 ·split at h
  ·simp only[zA,zB]at h;exact h.2.symm
  ·cases h
 ·cases h
theorem ZpI {k:Nat}{x:AV}{H:Hp}{v:List AV}(h:elems k x H=some v)(l:Hp):elems k x (H++l)=some v:=by
 cases x with
 |rs ag w o off len cap =>
  unfold elems at h ⊢;simp only at h ⊢;split at h
  ·rename_i j;rw[if_pos j];split at h
   ·rename_i u g;rw[zF (Zg g),g];exact h
   ·cases h
  ·cases h
 |ws ag w o e len =>
  unfold elems at h ⊢;simp only at h ⊢;split at h
  ·rename_i j;rw[if_pos j];split at h
   ·rename_i y u g;rw[zF (Zg g),g];exact h
   ·cases h
  ·cases h
 |_=>exact h
theorem Znf {x:AV}{H H':Hp}{v:AV}(h:KR x H=some (v,H'))(l:Hp):KR x (H++l)=some (v,H++l):=by
 unfold KR at h ⊢;split at h
 ·rename_i xs g
  have:QJ x (H++l)=some xs:=by
   unfold QJ at g ⊢;split at g
   ·cases g
   ·exact ZpI g l
  rw[this];split at h
  ·rename_i s j;simp only[zA,zB]at h;simp only[j,h.1]
  ·cases h
 ·cases h
theorem ZbY {ev:Operand->AV}(B:∀ f,ev (.func f)=.fn (.func f) [] []){H H':Hp}{fl:Bool}{op:Op}{v:AV}(w:Y4 C op=0\/fl=true)(h:X9 C call ev H fl op=some (v,H')):H'=H/\∀ A,X9 C call ev A fl op=some (v,A):=by
 unfold X9 at h ⊢;split at h
 ·rename_i v' E;simp only[zA,zB]at h;obtain⟨rfl,rfl⟩:=h;exact⟨rfl,fun A=>rfl⟩
 ·split at h
  ·cases h
  ·rename_i y
   have g:Y4 C op=0:=by
    rcases w with w|w
    ·exact w
    ·exact absurd w y
   simp only[y]
   cases op with
   |call c =>
    obtain⟨callee,args,argTypes⟩:=c
    cases callee with
    |value f =>
     cases f with
     |func id =>
      have j:Zdv C id=true:=by
       cases j:Zdv C id with
       |true=>rfl
       |false=>simp[Y4,j]at g
      simp only[ZA,CN,Ym,B,yA,yB,zK,if_false]at h ⊢;exact ZbT j h
     |tmp t =>
      have j:CN C (.tmp t) args=true:=by
       cases j:CN C (.tmp t) args with
       |true=>rfl
       |false=>simp[Y4,j]at g
      simp only[ZA,j,if_true]at h ⊢;unfold Xs qC at h ⊢;split at h
      ·rename_i id first u D
       split at h
       ·rename_i z;simp only[if_pos z,zK,if_false];exact ZbT z h
       ·cases h
      ·cases h
     |_=>simp[Y4,CN]at g
    |invoke r m=>simp[Y4]at g
    |builtin b=>cases b <;> first|(simp[Y4]at g;done)|(simp[ZA]at h;done)
   |convert s d x=>simp only[Y4]at g;split at g <;> cases g
   |_=>first|(simp[Y4]at g;done)|(simp[ZA]at h;done)
theorem ZrT {ev:Operand->AV}(A:∀ f,ev (.func f)=.fn (.func f) [] []){H H':Hp}{fl:Bool}{op:Op}{v:AV}(w:Y4 C op<=1\/fl=true)(h:X9 C call ev H fl op=some (v,H')):H'=H:=by
 by_cases y:Y4 C op=0\/fl=true
 ·exact (ZbY A y h).1
 ·have u:Y4 C op=1:=by
   rcases w with w|w
   ·have:Y4 C op≠0:=fun e=>y (.inl e);omega
   ·exact absurd (.inr w) y
  unfold X9 at h;split at h
  ·simp only[zA,zB]at h;exact h.2.symm
  ·split at h
   ·cases h
   ·cases op with
    |load t a =>
     simp only[ZA]at h;split at h
     ·rename_i g sz _ _
      cases j:Z4 g sz (ev a) H with
      |none=>simp[j]at h
      |some r=>simp[j]at h;exact h.2.symm
     ·cases h
    |lookup t x k B =>
     simp only[ZA]at h;split at h
     ·rename_i d e _;split at h
      ·rename_i z _
       cases j:Yd d z B (ev x) (ev k) H with
       |none=>simp[j]at h
       |some r=>simp[j]at h;exact h.2.symm
      ·cases h
     ·cases h
    |call c =>
     obtain⟨callee,args,argTypes⟩:=c
     cases callee with
     |value f=>exfalso;cases f <;> simp only[Y4]at u <;> split at u <;> omega
     |invoke r m=>simp[Y4]at u
     |builtin b =>
      cases b <;> first|(simp[Y4]at u;done)|skip
      simp only[ZA]at h;split at h
      ·rename_i x t _ _;split at h
       ·cases j:J1 (ev x) H with
        |none=>simp[j]at h
        |some r=>simp[j]at h;exact h.2.symm
       ·cases h
      ·cases h
    |convert s d x =>
     have hw:C.wrb d=false:=by
      cases hw:C.wrb d with
      |false=>rfl
      |true=>simp[Y4,hw]at u
     simp only[ZA,hw,yC]at h;split at h
     ·split at h
      ·exact Zlc h
      ·cases h
     ·cases h
     ·cases h
    |_=>first|(simp[Y4]at u;done)|(simp[ZA]at h;done)
theorem ZrI {id:FuncId}{args:List AV}{H H':Hp}{v:AV}(g:C.ro id=true)(j:C.flat id=false)(u:C.ext id=none)(w:C.sum id=none)(y:C.eff id=none)(h:X5 C call id args H=some (v,H')):H'=H:=by
 unfold X5 at h;simp only[g,j,u,w,y,zK,if_false,if_true]at h;split at h
 ·unfold QN at h;split at h
  ·split at h
   ·split at h
    ·simp only[zA,zB]at h;exact h.2.symm
    ·cases h
   ·cases h
  ·cases h
 ·cases h
theorem Zzw {ev:Operand->AV}(j:∀ f,ev (.func f)=.fn (.func f) [] []){H H':Hp}{fl:Bool}{op:Op}{v:AV}(g:Zmo C op=true)(h:X9 C call ev H fl op=some (v,H')):H'=H:=by
 unfold X9 at h;split at h
 ·simp only[zA,zB]at h;exact h.2.symm
 ·split at h
  ·cases h
  ·unfold Zmo at g;split at g
   ·simp only[zD,zL,zP]at g;obtain⟨⟨⟨⟨u,w⟩,y⟩,z⟩,A⟩:=g;simp only[ZA,CN,Ym,j,yA,yB,zK,if_false]at h;exact ZrI u w y z A h
   ·cases g
theorem ZnX {op:Op}(h:fresh op=true):Zmo C op=false:=by
 cases op <;> first|rfl|(simp[fresh]at h;done)
theorem Ox {o:Oper}{fl:Bool}{tm:List AV}{H H':Hp}{v:AV}(w:Y4 C o.op=0\/fl=true)(h:Yu C call ops fl o tm H=some (v,H')):H'=H/\∀ g,Yu C call ops fl o tm g=some (v,g):=by
 unfold Yu at h ⊢;split at h
 ·cases h
 ·rename_i hw;simp only[zA,zB]at h;obtain⟨rfl,rfl⟩:=h;exact⟨rfl,fun g=>rfl⟩
 ·rename_i hw;obtain⟨j,u⟩:=ZbY (fun _=>rfl) w h;exact⟨j,fun g=>u g⟩
theorem Zho {o:Oper}{fl:Bool}{tm:List AV}{H H':Hp}{v:AV}(g:Y4 C o.op<=1\/fl=true)(h:Yu C call ops fl o tm H=some (v,H')):H'=H:=by
 unfold Yu at h;split at h
 ·cases h
 ·simp only[zA,zB]at h;exact h.2.symm
 ·exact ZrT (fun _=>rfl) g h
theorem ZyS {o:Oper}{fl:Bool}{tm:List AV}{H H':Hp}{v:AV}(g:Zmo C o.op=true)(h:Yu C call ops fl o tm H=some (v,H')):H'=H:=by
 unfold Yu at h;split at h
 ·cases h
 ·simp only[zA,zB]at h;exact h.2.symm
 ·exact Zzw (fun _=>rfl) g h
theorem ZeE {o:Oper}{fl:Bool}{tm:List AV}{H H':Hp}{v:AV}(g:CR C o.op=true)(h:Yu C call ops fl o tm H=some (v,H')):H'=H:=by
 unfold CR at g;rw[zG,decide_eq_true_eq]at g;rcases g with g|g
 ·exact Zho (.inl g) h
 ·exact ZyS g h
theorem ZrV {tm:List AV}{x y:Option Tmp}{v u:AV}(h:∀ d,x=some d->y≠some d):Xa (Xa tm x v) y u=Xa (Xa tm y u) x v:=by
 cases x with
 |none=>rfl
 |some d =>
  cases y with
  |none=>rfl
  |some e =>
   have g:d≠e:=fun j=>h d rfl (j ▸ rfl);simp only[Xa];exact zT _ _ g
theorem Zpd {g:Bool}{sz:Nat}{a:AV}{H:Hp}{v:AV}(h:Z4 g sz a H=some v)(l:Hp):Z4 g sz a (H++l)=some v:=by
 cases a with
 |ptr o off =>
  unfold Z4 at h ⊢;simp only at h ⊢;split at h
  ·rename_i c j;rw[zF (Zg j),j];exact h
  ·cases h
 |wp o e off =>
  unfold Z4 at h ⊢;simp only at h ⊢;split at h
  ·rename_i u c j;rw[zF (Zg j),j];exact h
  ·cases h
 |_=>exact h
theorem Zc8 {x:AV}{H:Hp}{v:List (AV×AV×Nat)}(h:Xe x H=some v)(l:Hp):Xe x (H++l)=some v:=by
 cases x with
 |map o =>
  unfold Xe at h ⊢;simp only at h ⊢;split at h
  ·rename_i c k g;rw[zF (Zg g),g];exact h
  ·cases h
 |_=>exact h
theorem ZkM {d:TypeDesc}{z:AV}{j:Bool}{x k:AV}{H:Hp}{v:AV}(h:Yd d z j x k H=some v)(l:Hp):Yd d z j x k (H++l)=some v:=by
 unfold Yd at h ⊢
 cases g:Xe x H with
 |none=>simp[g]at h
 |some u=>rw[Zc8 g l];rw[g]at h;exact h
theorem Zp9 {x:AV}{H:Hp}{v:AV}(h:J1 x H=some v)(l:Hp):J1 x (H++l)=some v:=by
 unfold J1 at h ⊢
 cases g:Xe x H with
 |none=>simp[g]at h
 |some j=>rw[Zc8 g l];rw[g]at h;exact h
theorem Zv1 {ev:Operand->AV}(y:∀ f,ev (.func f)=.fn (.func f) [] []){H H':Hp}{fl:Bool}{op:Op}{v:AV}(E:Y4 C op<=1)(h:X9 C call ev H fl op=some (v,H'))(l:Hp):X9 C call ev (H++l) fl op=some (v,H++l):=by
 by_cases w:Y4 C op=0\/fl=true
 ·exact (ZbY y w h).2 _
 ·have u:Y4 C op=1:=by
   have:Y4 C op≠0:=fun e=>w (.inl e);omega
  have A:¬ fl=true:=fun e=>w (.inr e);unfold X9 at h ⊢;split at h
  ·rename_i v' F;simp only[zA,zB]at h;obtain⟨rfl,rfl⟩:=h;rfl
  ·rw[if_neg A]at h ⊢
   cases op with
   |load t a =>
    simp only[ZA]at h ⊢;split at h
    ·rename_i g sz _ _
     cases j:Z4 g sz (ev a) H with
     |none=>simp[j]at h
     |some r =>
      simp[j]at h;obtain⟨rfl,rfl⟩:=h;simp[Zpd j l]
    ·cases h
   |lookup t x k B =>
    simp only[ZA]at h ⊢;split at h
    ·rename_i d e _;split at h
     ·rename_i z _
      cases j:Yd d z B (ev x) (ev k) H with
      |none=>simp[j]at h
      |some r =>
       simp[j]at h;obtain⟨rfl,rfl⟩:=h;simp[ZkM j l]
     ·cases h
    ·cases h
   |call c =>
    obtain⟨callee,args,argTypes⟩:=c
    cases callee with
    |value f=>exfalso;cases f <;> simp only[Y4]at u <;> split at u <;> omega
    |invoke r m=>simp[Y4]at u
    |builtin b =>
     cases b <;> first|(simp[Y4]at u;done)|skip
     simp only[ZA]at h ⊢;split at h
     ·rename_i x t _ _;split at h
      ·cases j:J1 (ev x) H with
       |none=>simp[j]at h
       |some r =>
        simp[j]at h;obtain⟨rfl,rfl⟩:=h;simp[Zp9 j l]
      ·cases h
     ·cases h
   |convert s d x =>
    have hw:C.wrb d=false:=by
     cases hw:C.wrb d with
     |false=>rfl
     |true=>simp[Y4,hw]at u
    simp only[ZA,hw,yC]at h ⊢;split at h
    ·split at h
     ·rename_i D;simp only[D,if_true];exact Znf h l
     ·cases h
    ·cases h
    ·cases h
   |_=>first|(simp[Y4]at u;done)|(simp[ZA]at h;done)
theorem ZtA {o:Oper}{fl:Bool}{tm:List AV}{H H':Hp}{v:AV}(g:Y4 C o.op<=1)(h:Yu C call ops fl o tm H=some (v,H'))(l:Hp):Yu C call ops fl o tm (H++l)=some (v,H++l):=by
 unfold Yu at h ⊢;split at h
 ·cases h
 ·simp only[zA,zB]at h;obtain⟨rfl,rfl⟩:=h;rfl
 ·exact Zv1 (fun _=>rfl) g h l
theorem ZqO {o:Oper}{fl:Bool}{tm:List AV}{H H':Hp}{v:AV}(g:fresh o.op=true)(h:Yu C call ops fl o tm H=some (v,H')):∃ l,H'=H++l:=by
 unfold Yu at h;split at h
 ·cases h
 ·simp only[zA,zB]at h;exact⟨[],by rw[<-h.2];simp⟩
 ·unfold X9 at h;split at h
  ·simp only[zA,zB]at h;exact⟨[],by rw[<-h.2];simp⟩
  ·split at h
   ·cases h
   ·generalize o.op=op at g h
    cases op with
    |alloc e =>
     simp only[ZA]at h;split at h
     ·split at h
      ·split at h
       ·simp only[zA,zB]at h;exact⟨_,h.2.symm⟩
       ·cases h
      ·split at h
       ·simp only[zA,zB]at h;exact⟨_,h.2.symm⟩
       ·cases h
     ·cases h
    |box e x =>
     simp only[ZA]at h;unfold ZM at h;split at h
     ·simp only[zA,zB]at h;exact⟨_,h.2.symm⟩
     ·cases h
    |makeMap t r =>
     cases r with
     |none =>
      simp only[ZA,zA,zB]at h;exact⟨_,h.2.symm⟩
     |some r=>simp[fresh]at g
    |_=>simp[fresh]at g
def Zl9 (C:Cfg)(g j:Bool)(x y:Op):Prop:=(Y4 C x=0\/g=true)\/(Y4 C y=0\/j=true)\/(CR C x=true/\CR C y=true)\/(Y4 C x<=1/\fresh y=true)\/CU C x y=true\/Zcs C x y=true
def isK (k:Nat)(x:AObj):Bool :=
 match k,x with
 |1,.row _ _=>true
 |2,.cells _=>true
 |_,_=>false
theorem ZrW {k sz:Nat}{a v r:AV}{H H':Hp}(D:k=1\/k=2)(E:stV k a=true)(h:Ze sz a v H=some (r,H')) :
 ∃ (o:Nat) (x y:AObj),H[o]?=some x/\isK k x=true/\isK k y=true/\H'=H.set o y/\∀ j:Hp,j[o]?=some x->Ze sz a v j=some (r,j.set o y):=by
 unfold Ze at h;split at h
 ·rename_i H1 g;simp only[zA,zB]at h;obtain⟨rfl,rfl⟩:=h;unfold YN at g;split at g
  ·rename_i o off
   have A:k=2:=by
    rcases D with rfl|rfl
    ·cases E
    ·rfl
   subst A;split at g
   ·rename_i l B;split at g
    ·rename_i w;injection g with g;subst g;exact⟨o,_,_,B,rfl,rfl,rfl,fun j u=>by unfold Ze YN;simp only[u];rw[if_pos w]⟩
    ·cases g
   ·cases g
  ·rename_i o e off
   have z:k=1:=by
    rcases D with rfl|rfl
    ·rfl
    ·cases E
   subst z;split at g
   ·rename_i F l B;split at g
    ·rename_i w;injection g with g;subst g;exact⟨o,_,_,B,rfl,rfl,rfl,fun j u=>by unfold Ze YN;simp only[u];rw[if_pos w]⟩
    ·cases g
   ·cases g
  ·cases g
 ·cases h
theorem Ztz {o:Oper}{fl:Bool}{tm:List AV}{H H':Hp}{v:AV}{k:Nat}(J:k=1\/k=2)(j:stC C o.op=k)(h:Yu C call ops fl o tm H=some (v,H')) :
 (H'=H/\∀ g,Yu C call ops fl o tm g=some (v,g)) \/
 ∃ (q:Nat) (x y:AObj),H[q]?=some x/\isK k x=true/\isK k y=true/\H'=H.set q y/\∀ g:Hp,g[q]?=some x->Yu C call ops fl o tm g=some (v,g.set q y):=by
 unfold Yu at h ⊢;split at h
 ·cases h
 ·rename_i hw;simp only[zA,zB]at h;obtain⟨rfl,rfl⟩:=h;exact .inl ⟨rfl,fun g=>rfl⟩
 ·rename_i hw
  obtain⟨t,a,x,w⟩:∃ t a x,o.op=.store t a x:=by
   generalize o.op=op at j
   cases op with
   |store t a x=>exact⟨t,a,x,rfl⟩
   |_=>(have:k=0:=j.symm);omega
  rw[w]at j h ⊢;unfold X9 at h ⊢;have K:ZI C (eval C tm) (.store t a x)=none:=rfl;rw[K]at h ⊢;dsimp only at h ⊢;split at h
  ·cases h
  ·rename_i u;simp only[ZA]at h ⊢;split at h
   ·split at h
    ·rename_i z;rw[j]at z;obtain⟨q,L,M,A,B,D,E,F⟩:=ZrW J z h;rw[j];refine .inr ⟨q,L,M,A,B,D,E,fun g I=>?_⟩;rw[if_neg u,if_pos z];exact F g I
    ·cases h
   ·cases h
theorem Zud {x:Op}(h:fresh x=true):stC C x=0:=by
 cases x <;> first|rfl|(simp[fresh]at h;done)
theorem ZwB {B D:Oper}{F I:Bool}{tm j:List AV}{H H1 E:Hp}{v u:AV}(h:CU C B.op D.op=true)(N:Yu C call ops F B tm H=some (v,H1))(O:Yu C call ops I D j H1=some (u,E)) :
 ∃ A,Yu C call ops I D j H=some (u,A)/\Yu C call ops F B tm A=some (v,E):=by
 have key:∀ k z,(k=1/\z=2)\/(k=2/\z=1)->stC C B.op=k->stC C D.op=z->∃ A,Yu C call ops I D j H=some (u,A)/\Yu C call ops F B tm A=some (v,E):=by
  intro k z K hi X;have Y:k=1\/k=2:=by omega
  have J:z=1\/z=2:=by omega
  rcases Ztz Y hi N with ⟨rfl,V⟩|⟨q,x,y,M,g2,T,rfl,U⟩
  ·exact⟨E,O,V _⟩
  ·rcases Ztz J X O with ⟨rfl,W⟩|⟨p,x',Q,w,R,Z,rfl,S⟩
   ·exact⟨H,W _,N⟩
   ·have g:q≠p:=by
     rintro rfl
     have L:q<H.length:=Zg M;rw[List.getElem?_set_self L]at w;injection w with w;subst w;rcases K with ⟨rfl,rfl⟩|⟨rfl,rfl⟩ <;> cases y <;> simp[isK]at T R
    rw[zE g]at w;refine⟨H.set p Q,S H w,?_⟩;rw[U (H.set p Q) (by rw[zE g.symm];exact M),zT _ _ g]
 unfold CU at h;simp only[zG,zD,decide_eq_true_eq]at h;rcases h with ⟨a,b⟩|⟨a,b⟩
 ·exact key 1 2 (by omega) a b
 ·exact key 2 1 (by omega) a b
def UD (C:Cfg)(call:Zx)(ops:Array Oper)(draw:Bool)(b i:Nat)(o:Oper)(tm:List AV)(H:Hp):Option (AV×Hp) :=
 if draw&&lag C ops i then (if YF C ops i then none else KO (b+XD C ops i) (Rw C (eval C tm) o.op) H) else Yu C call ops (draw&&YF C ops i) o tm H
theorem KV {draw:Bool}{b i:Nat}{o:Oper}{s:St}:XL C call ops draw b i o s=match UD C call ops draw b i o s.1 s.2 with|some (v,H)=>some (Xa s.1 o.dst v,H)|none=>none:=by
 unfold XL UD;by_cases h:(draw&&lag C ops i)=true
 ·rw[if_pos h,if_pos h];by_cases g:YF C ops i=true
  ·rw[if_pos g,if_pos g]
  ·rw[if_neg g,if_neg g];rfl
 ·rw[if_neg h,if_neg h];rfl
theorem Zqs {ev g:Operand->AV}{op:Op}(h:∀ x∈op.operands,ev x=g x):Rw C ev op=Rw C g op:=by
 cases op <;> try rfl
 case makeMap t r=>cases r <;> rfl
 case box t x=>simp only[Rw];rw[h x (by simp[Op.operands])]
theorem Zhy {draw:Bool}{b i:Nat}{tm g:List AV}{o:Oper}{H:Hp}(h:∀ t∈o.looksAt ops,tm[t]?=g[t]?):UD C call ops draw b i o tm H=UD C call ops draw b i o g H:=by
 unfold UD;rw[ZqN h,Zqs (ZgM h)]
theorem Zy1 (p:Nat)(j:Option AObj):Xb (KO p j):=by
 cases j with
 |none=>exact Zv
 |some l =>
  intro H v H' h;unfold KO at h;simp only at h;split at h
  ·rename_i z;split at h
   ·rename_i g;simp only[zA,zB]at h;obtain⟨rfl,rfl⟩:=h;refine⟨by simp,fun o A y=>?_⟩;obtain⟨u,w⟩:=PD y (fun e=>by rw[e]at g;cases g);refine⟨w,fun x=>?_⟩;unfold KO;simp only;rw[zE u,z];simp only;rw[if_pos g,zT _ _ u]
   ·cases h
  ·cases h
theorem ZiL (g:Xq call)(draw:Bool)(b i:Nat)(o:Oper)(tm:List AV):Xb (UD C call ops draw b i o tm):=by
 unfold UD;exact Ye _ (fun _=>Ye _ (fun _=>Zv) fun _=>Zy1 _ _) fun _=>ZyR g _ _ _ _
theorem Zoj {j n:Nat}(h:lag C ops j=true)(w:j<n):XD C ops j<XD C ops n:=by
 unfold XD
 have g:(zU (j+1)).countP (lag C ops)=(zU j).countP (lag C ops)+1:=by
  rw[List.range_succ,List.countP_append];simp[h]
 have u:(zU (j+1)).countP (lag C ops)<=(zU n).countP (lag C ops):=yE (List.range_sublist.2 (by omega));omega
theorem N4 {i:Nat}{o:Oper}(h:ops[i]?=some o)(g:lag C ops i=true):fresh o.op=true/\o.guard=none:=by
 unfold lag at g;simp only[h,zD]at g;exact⟨g.1.1,by simpa using g.1.2⟩
theorem Zo0 {op:Op}(h:fresh op=true):Y4 C op=2:=by
 cases op <;> first|rfl|(simp[fresh]at h;done)
theorem ZjG (j:Xq call){draw:Bool}{b i:Nat}{o:Oper}{s s':St}(h:XL C call ops draw b i o s=some s'):s.2.length<=s'.2.length:=by
 rw[KV]at h
 cases g:UD C call ops draw b i o s.1 s.2 with
 |none=>simp[g]at h
 |some p =>
  obtain⟨v,H⟩:=p;simp only[g,zA]at h;subst h;exact (ZiL j draw b i o s.1 s.2 v H g).1
def FarAt (C:Cfg)(ops:Array Oper)(tm:List AV):Prop:=∀ (i j:Nat) (x y:Oper) (p:Nat×Nat),ops[i]?=some x->ops[j]?=some y->Oc C x.op y.op=some p->M4 (eval C tm (.tmp p.1)) (eval C tm (.tmp p.2))=true
def ZoU (C:Cfg)(ops:Array Oper):Prop:=∀ (i j:Nat) (x y:Oper) (p:Nat×Nat),ops[i]?=some x->ops[j]?=some y->Oc C x.op y.op=some p->Jb ops p.1=true/\Jb ops p.2=true
theorem ZsD {tm:List AV}(h:Da C ops (eval C tm)=true):FarAt C ops tm/\ZoU C ops:=by
 have key:∀ (i j:Nat) (x y:Oper) (p:Nat×Nat),ops[i]?=some x->ops[j]?=some y->Oc C x.op y.op=some p->p∈TP C ops:=by
  intro i j x y p hi u g;unfold TP
  cases w:C.far with
  |none=>unfold Oc at g;rw[w]at g;cases g
  |some f =>
   dsimp only;rw[List.mem_flatMap];refine⟨x,by rw[zN];exact zM hi,?_⟩;rw[zX];exact⟨y,by rw[zN];exact zM u,g⟩
 unfold Da JW ZpX at h;rw[zD,zI,zI]at h;refine⟨fun i j x y p hi u g=>h.2 p (key i j x y p hi u g),fun i j x y p hi u g=>?_⟩;have:=h.1 p (key i j x y p hi u g)
 rwa [zD]at this
theorem ZlQ {a k:Nat}{o:Oper}{tm:List AV}{v:AV}(h:Jb ops a=true)(u:ops[k]?=some o):eval C (Xa tm o.dst v) (.tmp a)=eval C tm (.tmp a):=by
 unfold Jb at h;rw[zI]at h;have:=h o (by rw[zN];exact zM u)
 cases j:o.dst with
 |none=>rfl
 |some d =>
  rw[j]at this;simp only[zL]at this;have g:=zR this;show (tm.set d v).getD a (.tuple [])=tm.getD a (.tuple []);rw[zH,zH,zE g]
theorem FarAt.put {tm:List AV}(h:FarAt C ops tm)(z:ZoU C ops){k:Nat}{o:Oper}{v:AV}(u:ops[k]?=some o):FarAt C ops (Xa tm o.dst v):=by
 intro i j x y p hi g w;obtain⟨A,B⟩:=z i j x y p hi g w;rw[ZlQ A u,ZlQ B u];exact h i j x y p hi g w
theorem Zop {o:Oper}{fl:Bool}{tm:List AV}{H H':Hp}{v:AV}{t a q off:Nat}(y:o.op=.load t (.tmp a))(z:eval C tm (.tmp a)=.ptr q off)(h:Yu C call ops fl o tm H=some (v,H')) :
 H'=H/\∀ j:Hp,j[q]?=H[q]?->Yu C call ops fl o tm j=some (v,j):=by
 unfold Yu at h ⊢;split at h
 ·cases h
 ·rename_i hw;simp only[zA,zB]at h;obtain⟨rfl,rfl⟩:=h;exact⟨rfl,fun j _=>rfl⟩
 ·rename_i hw;rw[y]at h ⊢;unfold X9 at h ⊢
  have B:ZI C (eval C tm) (.load t (.tmp a))=none:=by
   simp only[ZI,z,U6];split <;> rfl
  rw[B]at h ⊢;dsimp only at h ⊢;split at h
  ·cases h
  ·rename_i u;simp only[ZA,z]at h ⊢;split at h
   ·rename_i g sz D E
    cases w:Z4 g sz (.ptr q off) H with
    |none=>rw[w]at h;cases h
    |some r =>
     rw[w]at h;simp only[Option.map_some,zA,zB]at h;obtain⟨rfl,rfl⟩:=h;refine⟨rfl,fun j A=>?_⟩;rw[if_neg u];have:Z4 g sz (.ptr q off) j=Z4 g sz (.ptr q off) H:=by unfold Z4;simp only[A]
     rw[this,w];rfl
   ·cases h
theorem Zoq {o:Oper}{fl:Bool}{tm:List AV}{H H':Hp}{v:AV}{t a q off:Nat}{w:Operand}(z:o.op=.store t (.tmp a) w)(D:eval C tm (.tmp a)=.ptr q off)(h:Yu C call ops fl o tm H=some (v,H')) :
 (H'=H/\∀ g,Yu C call ops fl o tm g=some (v,g))\/∃ x y:AObj,H[q]?=some x/\H'=H.set q y/\∀ g:Hp,g[q]?=some x->Yu C call ops fl o tm g=some (v,g.set q y):=by
 unfold Yu at h ⊢;split at h
 ·cases h
 ·rename_i hw;simp only[zA,zB]at h;obtain⟨rfl,rfl⟩:=h;exact .inl ⟨rfl,fun g=>rfl⟩
 ·rename_i hw;rw[z]at h ⊢;unfold X9 at h ⊢;have F:ZI C (eval C tm) (.store t (.tmp a) w)=none:=rfl;rw[F]at h ⊢;dsimp only at h ⊢;split at h
  ·cases h
  ·rename_i u;simp only[ZA,D]at h ⊢;split at h
   ·split at h
    ·rename_i I;unfold Ze YN at h;dsimp only at h
     cases A:H[q]? with
     |none=>rw[A]at h;cases h
     |some x =>
      cases x with
      |cells l =>
       rw[A]at h;dsimp only at h;split at h
       ·rename_i H1 j;split at j
        ·rename_i E;injection j with j;subst j;simp only[zA,zB]at h;obtain⟨rfl,rfl⟩:=h;refine .inr ⟨_,_,rfl,rfl,fun g B=>?_⟩;rw[if_neg u,if_pos I];unfold Ze YN;simp only[B];rw[if_pos E]
        ·cases j
       ·cases h
      |_=>rw[A]at h;cases h
    ·cases h
   ·cases h
theorem Zct {x y:Op}{p:Nat×Nat}(h:Oc C x y=some p):∃ t u w,x=.load t (.tmp p.1)/\y=.store u (.tmp p.2) w:=by
 unfold Oc at h;split at h
 ·cases h
 ·split at h
  ·split at h
   ·injection h with h;subst h;exact⟨_,_,_,rfl,rfl⟩
   ·cases h
  ·cases h
theorem ZwA {i j:Nat}{A B:Oper}{T U:Bool}{tm:List AV}{H H1 R:Hp}{v u:AV}(V:FarAt C ops tm)(hi:ops[i]?=some A)(W:ops[j]?=some B)(h:Zcs C A.op B.op=true)
 (D:Yu C call ops T A tm H=some (v,H1)) (E:Yu C call ops U B tm H1=some (u,R)) :
 ∃ S,Yu C call ops U B tm H=some (u,S)/\Yu C call ops T A tm S=some (v,R):=by
 have X:∀ {x y:AV},M4 x y=true->∃ q o I Q,x=.ptr q o/\y=.ptr I Q/\q≠I:=by
  intro x y h;unfold M4 at h;split at h
  ·simp only[zL]at h;exact⟨_,_,_,_,rfl,rfl,zR h⟩
  ·cases h
 unfold Zcs at h;rw[zG]at h;rcases h with h|h
 ·obtain⟨p,F⟩:=zJ.1 h;obtain⟨t,w,z,J,K⟩:=Zct F;obtain⟨q,o,I,Q,L,M,g⟩:=X (V i j A B p hi W F);obtain⟨rfl,N⟩:=Zop J L D;rcases Zoq K M E with ⟨rfl,O⟩|⟨x,y,O,rfl,Y⟩
  ·exact⟨_,E,D⟩
  ·exact⟨_,E,N _ (zE g.symm)⟩
 ·obtain⟨p,F⟩:=zJ.1 h;obtain⟨t,w,z,J,K⟩:=Zct F;obtain⟨q,o,I,Q,L,M,g⟩:=X (V j i B A p W hi F);obtain⟨rfl,N⟩:=Zop J L E;rcases Zoq K M D with ⟨rfl,O⟩|⟨x,y,O,rfl,Y⟩
  ·exact⟨_,E,D⟩
  ·exact⟨_,N _ (zE g.symm).symm,D⟩
theorem ZqW (Y:Xq call){b i j:Nat}{I J:Oper}{s s1 Q:St}(hF:FarAt C ops s.1)(hi:ops[i]?=some I)(hj:ops[j]?=some J)(O:b+XD C ops ops.size<=s.2.length)(V:I.apart ops J=true)
 (A:lag C ops j=true\/(lag C ops j=false/\Zl9 C (YF C ops i) (YF C ops j) I.op J.op)) (M:XL C call ops true b i I s=some s1) (L:XL C call ops true b j J s1=some Q) :
 ∃ s2,XL C call ops true b j J s=some s2/\XL C call ops true b i I s2=some Q:=by
 obtain⟨a1,a2,a3⟩:=Oper.apart_spec V;obtain⟨tm,H⟩:=s;rw[KV]at M L;simp only at M O
 cases y:UD C call ops true b i I tm H with
 |none=>simp[y]at M
 |some p =>
  obtain⟨v,H1⟩:=p;simp only[y,zA]at M;subst M;simp only at L;rw[Zhy (Zju a1)]at L
  cases g:UD C call ops true b j J tm H1 with
  |none=>simp[g]at L
  |some q =>
   obtain⟨u,U⟩:=q;simp only[g,zA]at L;subst L
   have key:∃ R,UD C call ops true b j J tm H=some (u,R)/\UD C call ops true b i I tm R=some (v,U):=by
    rcases A with N|⟨N,A⟩
    ·have Z:j<ops.size:=(zC.1 hj).1;have ab:=Zoj N Z;unfold UD at g;simp only[N,zV,if_true]at g;split at g
     ·cases g
     ·rename_i X;unfold KO at g;split at g
      ·rename_i cs W;split at g
       ·rename_i hp;split at g
        ·rename_i hT;simp only[zA,zB]at g;obtain⟨rfl,rfl⟩:=g;obtain⟨_,hf⟩:=ZiL Y true b i I tm H v H1 y;obtain⟨g1,g2⟩:=hf _ (by omega) hp;refine⟨H.set (b+XD C ops j) cs,?_,g2 _⟩;unfold UD;simp only[N,zV,if_true];rw[if_neg X];unfold KO;rw[W];simp only;rw[g1];simp only[hT,if_true]
        ·cases g
       ·cases g
      ·cases g
    ·have T:∀ H,UD C call ops true b j J tm H=Yu C call ops (YF C ops j) J tm H:=fun H=>by unfold UD;simp[N]
     rw[T]at g;simp only[T]
     cases E:lag C ops i with
     |true =>
      have aa:=Zo0 (C:=C) (N4 hi E).1;rcases A with A|A|⟨D,F⟩|⟨D,F⟩|A|A
      rotate_right
      ·exfalso;unfold Zcs at A;rw[zG]at A;have K:=(N4 hi E).1;rcases A with A|A <;> obtain⟨p,hq⟩:=zJ.1 A <;> obtain⟨t,w,z,S,T⟩:=Zct hq
       ·rw[S]at K;cases K
       ·rw[T]at K;cases K
      ·exfalso;rcases A with A|A
       ·omega
       ·unfold UD at y;simp only[E,zV,if_true]at y;rw[if_pos A]at y;cases y
      ·obtain⟨rfl,B⟩:=Ox A g;exact⟨H,B H,y⟩
      ·exfalso;unfold CR at D;rw[ZnX (N4 hi E).1,Bool.or_false,decide_eq_true_eq]at D;omega
      ·omega
      ·exfalso;have:=Zud (C:=C) (N4 hi E).1;unfold CU at A;rw[this]at A;simp at A
     |false =>
      have S:∀ H,UD C call ops true b i I tm H=Yu C call ops (YF C ops i) I tm H:=fun H=>by unfold UD;simp[E]
      rw[S]at y;simp only[S];rcases A with A|A|⟨D,F⟩|⟨D,F⟩|A|A
      rotate_right
      ·exact ZwA hF hi hj A y g
      rotate_right
      ·exact ZwB A y g
      ·obtain⟨rfl,B⟩:=Ox A y;exact⟨U,g,B U⟩
      ·obtain⟨rfl,B⟩:=Ox A g;exact⟨H,B H,y⟩
      ·obtain rfl:=ZeE D y;obtain rfl:=ZeE F g;exact⟨_,g,y⟩
      ·obtain rfl:=Zho (.inl D) y;obtain⟨l,rfl⟩:=ZqO F g;exact⟨_,g,ZtA D y l⟩
   obtain⟨R,k1,k2⟩:=key;refine⟨(Xa tm J.dst u,R),by rw[KV];simp[k1],?_⟩;rw[KV];simp only;rw[Zhy (Zju a3),k2];simp only[zA,zB,and_true];exact (ZrV a2).symm
def Any (C:Cfg)(call:Zx)(ops:Array Oper)(b:Nat):Nat->Array Bool->St->St->Prop
 |0,listed,s,r=>Region.ready .any ops listed=[]/\s=r
 |n+1,listed,s,r=>(Region.ready .any ops listed=[]->s=r) /\
  ∀ i∈Region.ready .any ops listed,∃ o s',ops[i]?=some o/\XL C call ops true b i o s=some s'/\Any C call ops b n (listed.setIfInBounds i true) s' r
def Closed (ops:Array Oper)(g:Array Bool):Prop:=∀ j o,ops[j]?=some o->g.getD j false=true->∀ e∈o.after,Region.binds .any e=true->g.getD e.on false=true
theorem Closed.set {g:Array Bool}(h:Closed ops g){i:Nat}(hi:i∈Region.ready .any ops g):Closed ops (g.setIfInBounds i true):=by
 intro j o D B e A z;by_cases y:i=j
 ·subst y;obtain⟨_,E,u,w⟩:=mem_ready.1 hi;rw[D]at u;injection u with u;subst u;exact getD_set_true (w e A z)
 ·rw[getD_set_ne false y]at B;exact getD_set_true (h j o D B e A z)
theorem Za4 {g:Array Bool}(h:Closed ops g):∀ (n j i:Nat),Xt ops n j i=true->(∀ o,ops[j]?=some o->∀ e∈o.after,Region.binds .any e=true->g.getD e.on false=true)->g.getD i false=true:=by
 intro n
 induction n with
 |zero=>intro j i w;simp[Xt]at w
 |succ n K =>
  intro j i w I;unfold Xt at w;split at w
  ·cases w
  ·rename_i o J;rw[zZ]at w;obtain⟨e,H,z⟩:=w;rw[zD,zG]at z;obtain⟨y,u⟩:=z;have E:=I o J e (by simpa using H) y;rcases u with u|u
   ·rw[<-beq_iff_eq.1 u];exact E
   ·exact K e.on i u (fun L D F B A=>h e.on L D E F B A)
theorem OP {g:Array Bool}{i:Nat}(h:g.getD i true=false):g.getD i false=false:=by
 rcases Nat.lt_or_ge i g.size with j|j
 ·simp[j]at h ⊢;exact h
 ·simp[Array.getElem?_eq_none j]at h
theorem ZrQ (M:Xq call)(hK:ZoU C ops){b i:Nat}{I:Oper}(hi:ops[i]?=some I):∀ (n:Nat) (g:Array Bool) (s J r:St),FarAt C ops s.1->b+XD C ops ops.size<=s.2.length->Closed ops g ->
 (∀ j F,ops[j]?=some F->j≠i->g.getD j true=false->Xt ops ops.size j i=true\/(I.apart ops F=true/\(lag C ops j=true\/(lag C ops j=false/\Zl9 C (YF C ops i) (YF C ops j) I.op F.op)))) ->
 i∈Region.ready .any ops g->XL C call ops true b i I s=some J->Any C call ops b n (g.setIfInBounds i true) J r->Any C call ops b (n+1) g s r:=by
 intro n
 induction n with
 |zero =>
  intro g s J r _ _ _ _ E S H;refine⟨fun h=>(by rw[h]at E;cases E),fun j N=>?_⟩;by_cases u:j=i
  ·subst u;exact⟨I,J,hi,S,H⟩
  ·have:=ready_mono N u;rw[H.1]at this;cases this
 |succ n ih =>
  intro g s J r hF D L z E S H;refine⟨fun h=>(by rw[h]at E;cases E),fun j N=>?_⟩;by_cases u:j=i
  ·subst u;exact⟨I,J,hi,S,H⟩
  ·obtain⟨F,Z,y,Y,Hj⟩:=H.2 j (ready_mono N u);obtain⟨B,aa,w,K⟩:=mem_ready.1 N;rw[y]at w;injection w with w;subst w;rcases z j F y u B with hb|⟨U,W⟩
   ·exfalso;have h1:=Za4 L ops.size j i hb (fun o R e he V=>by rw[y]at R;injection R with R;subst R;exact K e he V);rw[OP (mem_ready.1 E).1]at h1;cases h1
   ·obtain⟨s2,A,h3⟩:=ZqW M hF hi y D U W S Y
    have T:FarAt C ops s2.1:=by
     rw[KV]at A
     cases hv:UD C call ops true b j F s.1 s.2 with
     |none=>rw[hv]at A;cases A
     |some p =>
      rw[hv]at A;simp only[zA]at A;rw[<-A];exact hF.put hK y
    refine⟨F,s2,y,A,ih (g.setIfInBounds j true) s2 Z r T (yD D (ZjG M A)) (L.set N) (fun k ok hk X Q=>z k ok hk X ?_) (ready_mono E (Ne.symm u)) h3 ?_⟩
    ·by_cases O:j=k
     ·subst O;exact B
     ·rw[getD_set_ne true O]at Q;exact Q
    ·rw[Array.setIfInBounds_comm _ _ u];exact Hj
theorem Zsl {i j:Nat}{u g:Oper}(S:i<j)(hi:ops[i]?=some u)(H:ops[j]?=some g)(w:j≠i)(J:Xt ops ops.size i j=false)(K:Xt ops ops.size j i=false):lag C ops j=true\/(lag C ops j=false/\Zl9 C (YF C ops i) (YF C ops j) u.op g.op):=by
 cases z:lag C ops j with
 |true=>exact .inl rfl
 |false =>
 refine .inr ⟨rfl,?_⟩;by_cases D:Y4 C u.op<=1/\fresh g.op=true
 ·exact .inr (.inr (.inr (.inl D)))
 by_cases y:ZgD C u.op g.op=true
 ·have N:i<ops.size:=(zC.1 hi).1;have A:j<ops.size:=(zC.1 H).1;have U:Y4 C u.op<=1\/2<=Y4 C u.op:=by omega
  have B:∀ (i j:Nat) (u g:Oper),ops[i]?=some u->ops[j]?=some g->j≠i->j<ops.size->Xt ops ops.size i j=false->Xt ops ops.size j i=false->ZgD C u.op g.op=true->(Y4 C u.op<=1\/2<=Y4 C g.op)->¬ (Y4 C u.op<=1/\fresh g.op=true/\i<j)->¬ (i<j/\lag C ops j=true)->¬ (j<i/\lag C ops i=true)->YF C ops i=true:=by
   intro i j u g hi H w A J K y T O L M;unfold YF;simp only[hi];rw[zZ];refine⟨j,zS.2 A,?_⟩
   have I:(decide (Y4 C u.op<=1)&&fresh g.op&&decide (i<j))=false:=by
    rw[zQ];intro e;simp only[zD,decide_eq_true_eq]at e;exact O ⟨e.1.1,e.1.2,e.2⟩
   have E:(decide (i<j)&&lag C ops j)=false:=by
    rw[zQ];intro e;simp only[zD,decide_eq_true_eq]at e;exact L e
   have F:(decide (j<i)&&lag C ops i)=false:=by
    rw[zQ];intro e;simp only[zD,decide_eq_true_eq]at e;exact M e
   simp only[H,y,J,K,I,E,F,bne_iff_ne,ne_eq,w,not_false_eq_true,Bool.true_and,Bool.not_false,Bool.and_true,zD,zG,decide_eq_true_eq];exact⟨trivial,T⟩
  by_cases R:Y4 C u.op<=1\/2<=Y4 C g.op
  ·exact .inl (.inr (B i j u g hi H w A J K y R (fun e=>D ⟨e.1,e.2.1⟩) (fun e=>by rw[z]at e;cases e.2) (fun e=>by omega)))
  ·refine .inr (.inl (.inr (B j i g u H hi (Ne.symm w) N K J ?_ (.inl (by omega)) (fun e=>by omega) (fun e=>by omega) (fun e=>by rw[z]at e;cases e.2))))
   have V:CU C g.op u.op=CU C u.op g.op:=by
    unfold CU;rw[zW (decide (stC C g.op=1)),zW (decide (stC C g.op=2)),zY]
   have Q:Zcs C g.op u.op=Zcs C u.op g.op:=by
    unfold Zcs;rw[zY]
   unfold ZgD at y ⊢;rw[zY (decide (Y4 C g.op=0)),zW (CR C g.op),V,Q];exact y
 ·unfold ZgD at y;simp only[zL,Bool.not_eq_false,zG,decide_eq_true_eq,zD]at y;rcases y with (((h|h)|h)|h)|h
  ·exact .inl (.inl h)
  ·exact .inr (.inl (.inl h))
  ·exact .inr (.inr (.inl h))
  ·exact .inr (.inr (.inr (.inr (.inl h))))
  ·exact .inr (.inr (.inr (.inr (.inr h))))
theorem Zm9 (h:XZ ops=true):Region.noSelect ops=true/\∀ k o,ops[k]?=some o->(∀ e∈o.after,Region.binds .any e=true->e.on<k) /\
 ∀ j y,ops[j]?=some y->k<j->Xt ops ops.size j k=true\/o.apart ops y=true:=by
 unfold XZ at h;rw[zD,zI]at h;refine⟨h.1,fun k o B=>?_⟩;have w:k<ops.size:=(zC.1 B).1;have u:=h.2 k (zS.2 w);simp only[B,zD,zI]at u;refine⟨fun e E D=>?_,fun j y A F=>?_⟩
 ·have:=u.1 e (by simpa using E);simpa[D]using this
 ·have g:j<ops.size:=(zC.1 A).1;have:=u.2 j (zS.2 g);simp only[A,zG,decide_eq_true_eq]at this;rcases this with z|z
  ·omega
  ·exact z
theorem Zn1 (M:Xq call)(hK:ZoU C ops){b:Nat}(ac:XZ ops=true):∀ (l:List Oper) (k:Nat) (g:Array Bool) (s r:St),FarAt C ops s.1->(∀ j,l[j]?=ops[k+j]?)->g.size=ops.size->(∀ x,x<ops.size->g.getD x false=decide (x<k))->k<=ops.size->b+XD C ops ops.size<=s.2.length ->
 Yt C call ops true b k l s=some r->Any C call ops b l.length g s r:=by
 obtain⟨ad,w⟩:=Zm9 ac;intro l
 induction l with
 |nil =>
  intro k g s r V U R u hk y h;simp[Yt]at h;refine⟨?_,h⟩;rw[List.eq_nil_iff_forall_not_mem];intro i hi;obtain⟨h1,o,ho,_⟩:=mem_ready.1 hi;have aa:i<ops.size:=(zC.1 ho).1
  have Q:ops.size<=k:=by
   have:=U 0;simp at this;exact this
  have:=u i aa;rw[OP h1]at this;simp at this;omega
 |cons o l ih =>
  intro k g s r V U R u hk y h;have z:ops[k]?=some o:=by simpa using (U 0).symm
  have Q:k<ops.size:=(zC.1 z).1;unfold Yt at h;split at h
  ·rename_i s' H
   have K:Closed ops g:=by
    intro j oj J A e L E;have N:j<ops.size:=(zC.1 J).1;rw[u j N]at A;have:=(w j oj J).1 e L E;rw[u e.on (by omega)];simp at A ⊢;omega
   have D:k∈Region.ready .any ops g:=by
    rw[mem_ready];refine⟨?_,o,z,fun e L E=>?_⟩
    ·have:=u k Q;simp at this;have F:k<g.size:=by omega
     simp[F]at this ⊢;exact this
    ·have:=(w k o z).1 e L E;rw[u e.on (by omega)];simpa using this
   have W:FarAt C ops s'.1:=by
    have I:=H;rw[KV]at I
    cases hv:UD C call ops true b k o s.1 s.2 with
    |none=>rw[hv]at I;cases I
    |some p =>
     rw[hv]at I;simp only[zA]at I;rw[<-I];exact V.put hK z
   refine ZrQ M hK z l.length g s s' r V y K (fun j oj J ab S=>?_) D H (ih (k+1) _ s' r W (fun j=>by have:=U (j+1);simpa[Nat.add_assoc,Nat.add_comm 1 j]using this) (by simpa using R) (fun x hx=>?_) (by omega) (yD y (ZjG M H)) h)
   ·have A:j<ops.size:=(zC.1 J).1
    have O:k<j:=by
     have:=u j A;rw[OP S]at this;simp at this;omega
    rcases (w k o z).2 j oj J O with E|X
    ·exact .inl E
    ·by_cases E:Xt ops ops.size j k=true
     ·exact .inl E
     ·refine .inr ⟨X,Zsl O z J ab ?_ (by simpa using E)⟩
      cases Z:Xt ops ops.size k j with
      |false=>rfl
      |true =>
       exfalso
       have:=Za4 K ops.size k j Z (fun o' B e L Y=>by
        rw[z]at B;injection B with B;subst B;have:=(w k o z).1 e L Y;rw[u e.on (by omega)];simpa using this)
       rw[OP S]at this;cases this
   ·by_cases T:k=x
    ·subst T;have F:k<g.size:=by omega
     simp[F]
    ·rw[getD_set_ne false T,u x hx];simp;omega
  ·cases h
end
end Go.Am
