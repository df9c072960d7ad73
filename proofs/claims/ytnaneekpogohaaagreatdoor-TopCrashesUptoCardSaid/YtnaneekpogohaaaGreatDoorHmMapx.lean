/- THE ABSTRACT MACHINE -/
import Derived.Test.YtnaneekpogohaaaGreatDoorHmIx
import Derived.MapKept
open List renaming getElem?_set_ne->zC,getElem?_eraseIdx->zF,length_eraseIdx->zH
open Nat renaming le_refl->zK,lt_irrefl->zL,zero_add->zM
open Array renaming getElem?_setIfInBounds_self_of_lt->zA,getElem?_setIfInBounds_ne->zE,getElem?_modify->zG,length_toList->zI,toList_inj->zJ
open Option.some renaming injEq->zB
open Prod.mk renaming injEq->zD
namespace Go.Am
open RowKit
section
variable {P:Program}{S:Snap}{W0:World}{H:Hp}
theorem ZgV {d:TypeDesc}{k:AV}{u:Value}(h:Wn d k=true)(hk:VRel S k u):MapKept.IsKey d u:=by
 unfold Wn at h;split at h
 ·cases hk;trivial
 ·cases hk;simpa[MapKept.IsKey]using h
 ·cases hk;trivial
 ·cases h
def Zpr (S:Snap)(x:AV×AV×Nat)(e:MapEntry):Prop:=VRel S x.1 e.key/\VRel S x.2.1 e.val/\e.born=x.2.2
theorem Zs3 (a b:ByteArray):(a==b)=(a.data.toList==b.data.toList):=by
 cases a with|mk a =>
 cases b with|mk b =>
 show (a==b)=(a.toList==b.toList);by_cases h:a=b
 ·subst h;simp
 ·have g:a.toList≠b.toList:=fun e=>h (zJ.1 e);rw[beq_eq_false_iff_ne.2 h,beq_eq_false_iff_ne.2 g]
theorem ZiQ {d:TypeDesc}{k q:AV}{u v:Value}{b:Bool}(g:Wn d k=true)(hk:VRel S k u)(j:VRel S q v)(h:JC k q=some b):Instr.sameNow d u v=some b:=by
 unfold JC at h;split at h
 ·cases hk;cases j;cases d <;> simp[Wn]at g
  simpa[Instr.sameNow]using h
 ·cases hk with|str _ _ h1 =>
  cases j with|str _ _ h2 =>
  subst h1 h2;cases d <;> simp[Wn]at g
  injection h with h;subst h;simp only[Instr.sameNow,zB];exact Zs3 _ _
 ·cases hk;cases j;cases d <;> simp[Wn]at g
  simpa[Instr.sameNow]using h
 ·cases h
theorem ZqH {k q:AV}{u w:Value}(hk:VRel S k u)(j:VRel S q w)(h:JC k q=some true):w=u:=by
 unfold JC at h;split at h
 ·cases hk;cases j;split at h
  ·rename_i g;subst g;injection h with h;rw[eq_of_beq h]
  ·cases h
 ·cases hk with|str _ _ h1 =>
  cases j with|str _ _ h2 =>
  injection h with h;have h:=eq_of_beq h;subst h1;rw[<-h2]at h;exact congrArg Value.string (ByteArray.ext (zJ.1 h)).symm
 ·cases hk;cases j;injection h with h;rw[eq_of_beq h]
 ·cases h
theorem Gc {d:TypeDesc}{k:AV}{u:Value}(B:Wn d k=true)(hk:VRel S k u):∀ (l:List (AV×AV×Nat)) (g:List MapEntry) (i:Nat) (r:Option (Nat×AV)),g.length=l.length ->
 (∀ (j:Nat) (x:AV×AV×Nat) (e:MapEntry),l[j]?=some x->g[j]?=some e->Zpr S x e)->YT k l i=some r ->
 match r with
 |none=>Instr.findNow d u g i=some none
 |some (j,v)=>∃ v',Instr.findNow d u g i=some (some (j,v'))/\VRel S v v'/\i<=j/\j<i+l.length/\∃ x e,l[j-i]?=some x/\g[j-i]?=some e/\e.key=u:=by
 intro l
 induction l with
 |nil =>
  intro g i r y _ h;simp only[YT,zB]at h;subst h;have:g=[]:=List.length_eq_zero_iff.1 (by simpa using y);subst this;rfl
 |cons x l O =>
  intro g i r y C h
  cases g with
  |nil=>simp at y
  |cons e g =>
   obtain⟨A,L,U⟩:=C 0 x e rfl rfl;unfold YT at h;split at h
   ·rename_i z;injection h with h;subst h;have w:=ZiQ B hk A z;exact⟨e.val,by unfold Instr.findNow;rw[w],L,zK _,by simp,x,e,by simp,by simp,ZqH hk A z⟩
   ·rename_i z;have w:=ZiQ B hk A z;have:=O g (i+1) r (by simpa using y) (fun j x e N M=>C (j+1) x e (by simpa using N) (by simpa using M)) h
    cases r with
    |none=>simp only at this ⊢;unfold Instr.findNow;rw[w];exact this
    |some p =>
     obtain⟨j,v⟩:=p;simp only at this ⊢;obtain⟨v',E,F,R,T,Q,D,I,J,K⟩:=this;refine⟨v',by unfold Instr.findNow;rw[w];exact E,F,by omega,by simp;omega,Q,D,?_,?_,K⟩
     ·rw[show j-i=(j-(i+1))+1 by omega];simpa using I
     ·rw[show j-i=(j-(i+1))+1 by omega];simpa using J
   ·cases h
theorem Ov {t e:TypeId}{d:TypeDesc}(h:DJ P t=some (d,e)):∃ g,P.underlying t=some (.map g e)/\P.underlying g=some d:=by
 unfold DJ at h;split at h
 ·rename_i k w u;split at h
  ·rename_i d' j;simp only[zB,zD]at h;obtain⟨rfl,rfl⟩:=h;exact⟨k,u,j⟩
  ·cases h
 ·cases h
theorem ZbJ {x:AV}{u:Value}{A:List (AV×AV×Nat)}(I:Inv W0 S H)(B:VRel S x u)(h:Xk x H=some A) :
 ∃ g:Array MapEntry,g.size=A.length/\(∀ (j:Nat) (y:AV×AV×Nat) (e:MapEntry),A[j]?=some y->g.toList[j]?=some e->Zpr S y e) /\
  (u=.map none/\g=#[]\/∃ b c,u=.map (some b)/\S.w.heap[b]?=some (.map g c)):=by
 unfold Xk at h;split at h
 ·cases B;injection h with h;subst h;exact⟨#[],rfl,by simp,.inl ⟨rfl,rfl⟩⟩
 ·rename_i o;split at h
  ·rename_i C c K;injection h with h;subst h;cases B with|map _ b hb =>
   obtain⟨b',g,z,M,D,E,N,F⟩:=I.objs o _ K;rw[hb]at z;injection z with z;subst z;refine⟨g,E,fun j y e L J=>?_,.inr ⟨b,c,rfl,D⟩⟩;obtain⟨k,v,n⟩:=y;exact F j k v n e L (by simpa using J)
  ·cases h
 ·cases h
theorem Zl0 {t e:TypeId}{d:TypeDesc}{z x k r:AV}{u v:Value}{A:Bool}(X:Inv W0 S H)(Z:DJ P t=some (d,e))(hz:∃ K,(zeroValue e).run P S.w=.ok K S.w/\VRel S z K)(hx:VRel S x u)(hk:VRel S k v)
 (h:Y7 d z A x k H=some r):∃ v',(Instr.lookup t u v A).run P S.w=.ok v' S.w/\VRel S r v':=by
 obtain⟨kt,V,L⟩:=Ov Z;obtain⟨K,TG,Q⟩:=hz;unfold Y7 at h;split at h
 ·rename_i I;split at h
  ·rename_i R N;obtain⟨E,U,T,F⟩:=ZbJ X hx N;have B:=ZgV I hk
   have D:∀ {a:AV} {w:Value} {b:Bool},VRel S a w->VRel S (if A=true then AV.tuple [a,.bool b] else a) (if A=true then Value.tuple #[w,.bool b] else w):=by
    intro a w b J
    cases A with
    |false=>exact J
    |true =>
     refine .tuple _ _ rfl fun i c y g C=>?_
     match i,g,C with
     |0,g,C=>simp at g C;subst g C;exact J
     |1,g,C=>simp at g C;subst g C;exact .bool b
     |i+2,g,C=>simp at g
   have run:∀ a,Instr.findNow d v E.toList 0=some a->(Instr.lookup t u v A).run P S.w=(match a with|some (_,w)=>.ok (if A=true then Value.tuple #[w,.bool true] else w) S.w|none=>.ok (if A=true then Value.tuple #[K,.bool false] else K) S.w):=by
    intro a J;rcases F with ⟨rfl,rfl⟩|⟨b,c,rfl,Y⟩
    ·cases a <;> simp[Instr.lookup,run_underlying V,MapKept.run_checkKey L B,MapKept.run_findKey L J,TG,Result.andThen]
    ·cases a <;> simp[Instr.lookup,run_underlying V,MapKept.run_getObj_map Y,MapKept.run_checkKey L B,MapKept.run_findKey L J,TG,Result.andThen]
   split at h
   ·rename_i j w O;injection h with h;subst h;obtain⟨w',M,W,_⟩:=Gc I hk R E.toList 0 _ (by simpa using U) T O;exact⟨_,run _ M,D W⟩
   ·rename_i O;injection h with h;subst h;have M:=Gc I hk R E.toList 0 _ (by simpa using U) T O;exact⟨_,run _ M,D Q⟩
   ·cases h
  ·cases h
 ·cases h
def QX (w:World)(b:Nat)(o:Obj):World:={ w with heap:=w.heap.setIfInBounds b o }
theorem Ext.reobj {b:Nat}(j:∀ i,¬ S.pub b i)(o:Obj):Ext S { S with w:=QX S.w b o }:=by
 refine⟨⟨fun _ _ h=>h,fun b' i h=>⟨h,?_⟩,fun _ e b hw sz h=>⟨e,b,hw,sz,h,zK _,fun _=>⟨rfl,rfl,rfl⟩⟩⟩,rfl,fun _ _ h _=>h⟩;have g:b≠b':=by rintro rfl;exact j i h
 show World.cell? (QX S.w b o) _=_;unfold World.cell? QX;simp only;rw[zE g]
theorem Inv.reobj (j:Inv W0 S H){o b:Nat}{x y:AObj}{Y A:Obj}(J:H[o]?=some x)(M:x≠.dead)(L:S.phi o=some b)(Z:W0.heap.size<=b)(hc:S.w.heap[b]?=some Y)(K:∀ i,¬ S.pub b i)
 (V:ORel { S with w:=QX S.w b A } W0.heap.size o y):Inv W0 { S with w:=QX S.w b A } (H.set o y):=by
 have D:=Ext.reobj K A;have E:=Zg J
 have u:∀ n:Nat,(H.set o y)[n]?≠some AObj.dead->H[n]?≠some AObj.dead:=fun n h=>by
  by_cases e:o=n
  ·subst e;rw[J];simpa using M
  ·rwa [zC e]at h
 have B:(QX S.w b A).heap.size=S.w.heap.size:=by simp[QX]
 have g:∀ b',b'≠b->(QX S.w b A).heap[b']?=S.w.heap[b']?:=fun b' h=>by simp[QX,zE (Ne.symm h)]
 refine⟨j.below.trans ⟨rfl,rfl,rfl,by rw[B];exact zK _,fun k hk=>g k (by omega)⟩,fun n z h=>?_,fun n T=>j.past n (by simpa using T),fun W X b O Q F I=>j.inj W X b O Q (u _ F) (u _ I),j.tinj,j.apart,
  fun b' i h=>by rw[B];exact j.puball b' i h,fun n b' h=>by rw[B];exact j.dom n b' h,fun t e b' hw sz h=>by rw[B];exact j.tdom t e b' hw sz h,j.lim⟩
 by_cases e:o=n
 ·subst e;simp[E]at h;subst h;exact V
 ·rw[zC e]at h
  cases z with
  |dead=>trivial
  |_ =>
   refine (j.objs n _ h).frame D (fun b' C R=>⟨g _ ?_,fun i K=>K⟩) rfl rfl
   rintro rfl
   rcases C with C|⟨N,hw,sz,U⟩
   ·exact e (j.inj o n b' L C (by rw[J];simpa using M) (by rw[h];simp))
   ·exact j.apart n N b' hw sz o U L
theorem ZbD {t e:TypeId}{d:TypeDesc}{m k v r:AV}{um K L:Value}{H':Hp}(N:Inv W0 S H)(ht:DJ P t=some (d,e))(hm:VRel S m um)(hk:VRel S k K)(hv:VRel S v L)
 (h:Xw d m k v H=some (r,H')):r=.tuple []/\∃ W,(Instr.mapUpdate t um K L).run P S.w=.ok () W.w/\Ext S W/\Inv W0 W H':=by
 obtain⟨kt,hu,V⟩:=Ov ht;unfold Xw at h;split at h
 ·rename_i o;split at h
  ·rename_i I c ho;split at h
   ·rename_i F;have A:=ZgV F hk;cases hm with|map _ b hb =>
    obtain⟨b',z,T,U,J,M,C,h6⟩:=N.objs o _ ho;rw[hb]at T;injection T with T;subst T
    have hr:∀ (j:Nat) (y:AV×AV×Nat) (e:MapEntry),I[j]?=some y->z.toList[j]?=some e->Zpr S y e:=fun j y e hy he=>by
     obtain⟨k,v,n⟩:=y;exact h6 j k v n e hy (by simpa using he)
    split at h
    ·rename_i i w hf;simp only[zB,zD]at h;obtain⟨rfl,rfl⟩:=h;obtain⟨w',R,g2,_,X,x,en,Y,Z,g7⟩:=Gc F hk I z.toList 0 _ (by simpa using M) hr hf;simp only[zM,Nat.sub_zero]at X Y Z;have O:z[i]?=some en:=by simpa using Z
     refine⟨rfl,{ S with w:=QX S.w b (.map (z.modify i fun e=>{ e with key:=K,val:=L }) c) },?_,Ext.reobj C _,?_⟩
     ·simp[Instr.mapUpdate,run_underlying hu,MapKept.run_getObj_map J,MapKept.run_checkKey V A,MapKept.run_findKey V R,O,g7,MapKept.run_keyThatStays A,MapKept.run_setObj_map _ J,Result.andThen,QX]
     ·have g:=Ext.reobj C (Obj.map (z.modify i fun e=>{ e with key:=K,val:=L }) c);have E:b<S.w.heap.size:=N.dom o b hb;refine N.reobj ho (by simp) hb U J C ⟨b,_,hb,U,by simp only[QX];rw[zA E],by simp[M],C,fun j k1 v1 n1 Q B u=>?_⟩;by_cases D:i=j
      ·subst D;simp[X]at B;obtain⟨rfl,rfl,rfl⟩:=B;rw[zG,if_pos rfl,O]at u;simp at u;subst u
       have hx:I[i]=x:=by
        have:=Y;rw[List.getElem?_eq_getElem X]at this;injection this
       refine⟨hk.mono g,hv.mono g,?_⟩;have:=(hr i x en Y Z).2.2;simp[hx,this]
      ·rw[zC D]at B;rw[zG,if_neg D]at u;obtain⟨q1,q2,q3⟩:=h6 j k1 v1 n1 Q B u;exact⟨q1.mono g,q2.mono g,q3⟩
    ·rename_i hf;simp only[zB,zD]at h;obtain⟨rfl,rfl⟩:=h;have R:=Gc F hk I z.toList 0 _ (by simpa using M) hr hf;simp only at R;refine⟨rfl,{ S with w:=QX S.w b (.map (z.push { key:=K,val:=L,born:=c }) (c+1)) },?_,Ext.reobj C _,?_⟩
     ·simp[Instr.mapUpdate,run_underlying hu,MapKept.run_getObj_map J,MapKept.run_checkKey V A,MapKept.run_findKey V R,MapKept.run_setObj_map _ J,Result.andThen,QX]
     ·have g:=Ext.reobj C (Obj.map (z.push { key:=K,val:=L,born:=c }) (c+1));have E:b<S.w.heap.size:=N.dom o b hb;refine N.reobj ho (by simp) hb U J C ⟨b,_,hb,U,by simp only[QX];rw[zA E],by simp[M],C,fun j k1 v1 n1 Q B u=>?_⟩;by_cases ab:j<I.length
      ·rw[List.getElem?_append_left ab]at B;rw[Array.getElem?_push_lt (by omega)]at u;have aa:z[j]?=some Q:=by rw[Array.getElem?_eq_getElem (by omega)];exact u
       obtain⟨q1,q2,q3⟩:=h6 j k1 v1 n1 Q B aa;exact⟨q1.mono g,q2.mono g,q3⟩
      ·have:=Zg B;simp at this;have ac:j=I.length:=by omega
       subst ac;simp at B;obtain⟨rfl,rfl,rfl⟩:=B;rw[<-M]at u;simp at u;subst u;exact⟨hk.mono g,hv.mono g,rfl⟩
    ·cases h
   ·cases h
  ·cases h
 ·cases h
theorem Zl1 {t e xt ty:TypeId}{d:TypeDesc}{m k r:AV}{um uk:Value}{H':Hp}(V:Inv W0 S H)(ht:DJ P t=some (d,e))(hm:VRel S m um)(hk:VRel S k uk)
 (h:Jz d m k H=some (r,H')):r=.tuple []/\∃ S',(Builtin.delete_ #[t,xt] ty #[um,uk]).run P S.w=.ok (.tuple #[]) S'.w/\Ext S S'/\Inv W0 S' H':=by
 obtain⟨kt,hu,W⟩:=Ov ht;unfold Jz at h;split at h
 ·rename_i o;split at h
  ·rename_i es c ho;split at h
   ·rename_i E;have B:=ZgV E hk;cases hm with|map _ b hb =>
    obtain⟨b',u,Q,R,F,T,A,U⟩:=V.objs o _ ho;rw[hb]at Q;injection Q with Q;subst Q
    have hr:∀ (j:Nat) (y:AV×AV×Nat) (e:MapEntry),es[j]?=some y->u.toList[j]?=some e->Zpr S y e:=fun j y e hy he=>by
     obtain⟨k,v,n⟩:=y;exact U j k v n e hy (by simpa using he)
    have J:b<S.w.heap.size:=V.dom o b hb;split at h
    ·rename_i i w hf;simp only[zB,zD]at h;obtain⟨rfl,rfl⟩:=h;obtain⟨w',O,g2,_,g4,_⟩:=Gc E hk es u.toList 0 _ (by simpa using T) hr hf;simp only[zM]at g4;have aa:i<u.size:=by omega
     have C:(u.eraseIdxIfInBounds i).toList=u.toList.eraseIdx i:=by
      unfold Array.eraseIdxIfInBounds;rw[dif_pos aa];simp
     refine⟨rfl,{ S with w:=QX S.w b (.map (u.eraseIdxIfInBounds i) c) },?_,Ext.reobj A _,?_⟩
     ·simp[Builtin.delete_,run_underlying hu,MapKept.run_getObj_map F,MapKept.run_checkKey W B,MapKept.run_findKey W O,MapKept.run_setObj_map _ F,Result.andThen,QX]
     ·have g:=Ext.reobj A (Obj.map (u.eraseIdxIfInBounds i) c);refine V.reobj ho (by simp) hb R F A ⟨b,_,hb,R,by simp only[QX];rw[zA J],?_,A,fun j X Z Y N I z=>?_⟩
      ·have:=congrArg List.length C;rw[zI,zH,zI]at this;rw[zH,this,T]
      ·rw[<-Array.getElem?_toList,C,zF]at z;rw[zF]at I;split at I
       ·rename_i D;rw[if_pos D]at z;obtain⟨K,L,M⟩:=U j X Z Y N I (by simpa using z);exact⟨K.mono g,L.mono g,M⟩
       ·rename_i D;rw[if_neg D]at z;obtain⟨K,L,M⟩:=U (j+1) X Z Y N I (by simpa using z);exact⟨K.mono g,L.mono g,M⟩
    ·rename_i hf;simp only[zB,zD]at h;obtain⟨rfl,rfl⟩:=h;have O:=Gc E hk es u.toList 0 _ (by simpa using T) hr hf;simp only at O;refine⟨rfl,{ S with w:=QX S.w b (.map u c) },?_,Ext.reobj A _,?_⟩
     ·simp[Builtin.delete_,run_underlying hu,MapKept.run_getObj_map F,MapKept.run_checkKey W B,MapKept.run_findKey W O,MapKept.run_setObj_map _ F,Result.andThen,QX]
     ·have g:=Ext.reobj A (Obj.map u c);refine V.reobj ho (by simp) hb R F A ⟨b,_,hb,R,by simp only[QX];rw[zA J],T,A,fun j X Z Y N I z=>?_⟩;obtain⟨K,L,M⟩:=U j X Z Y N I z;exact⟨K.mono g,L.mono g,M⟩
    ·cases h
   ·cases h
  ·cases h
 ·cases h
theorem ZnR {t e:TypeId}{d:TypeDesc}{x r:AV}{u:Value}(C:Inv W0 S H)(E:DJ P t=some (d,e))(F:VRel S x u)(h:K1 x H=some r)(ty:TypeId) :
 ∃ v',(Builtin.len_ #[t] ty #[u]).run P S.w=.ok v' S.w/\VRel S r v':=by
 obtain⟨J,z,I⟩:=Ov E;unfold K1 at h;split at h
 ·rename_i A j;injection h with h;subst h;obtain⟨g,y,_,B⟩:=ZbJ C F j;rcases B with ⟨rfl,rfl⟩|⟨b,c,rfl,D⟩
  ·have:A.length=0:=by rw[<-y];rfl
   rw[this];exact⟨goInt 0,by simp[Builtin.len_,run_underlying z],.int _ _⟩
  ·rw[<-y];exact⟨goInt g.size,by simp[Builtin.len_,run_underlying z,MapKept.run_getObj_map D,Result.andThen],.int _ _⟩
 ·cases h
theorem Ztt {n:Nat}(t:TypeId)(h:Inv W0 S H)(y:H[n]?=some .free):(Instr.makeMap t none).run P S.w=.ok (.map (some S.w.heap.size)) (S.obj n (.map #[] 0)).w/\Ext S (S.obj n (.map #[] 0))/\Inv W0 (S.obj n (.map #[] 0)) (H.set n (.map [] 0))/\VRel (S.obj n (.map #[] 0)) (.map n) (.map (some S.w.heap.size)):=by
 have g:=h.objs n _ y;have j:=Ext.objAt h g.1 (.map #[] 0);have u:n<H.length:=Zg y;refine⟨by simp[Instr.makeMap];rfl,j,h.objAt g.1 (x:=.map [] 0) (by simp[u]) (fun m hm=>by rw[zC (Ne.symm hm)]) (by simp) ⟨S.w.heap.size,#[],YW S _ _,h.size,Ns S _ _,rfl,fun i z=>?_,by simp⟩,.map _ _ (YW S _ _)⟩;exact absurd (h.puball _ i z) (zL _)
theorem Zle (t:TypeId)(g:Inv W0 S H):(Instr.makeMap t none).run P S.w=.ok (.map (some S.w.heap.size)) (S.obj H.length (.map #[] 0)).w/\Inv W0 (S.obj H.length (.map #[] 0)) (H++[.map [] 0])/\VRel (S.obj H.length (.map #[] 0)) (.map H.length) (.map (some S.w.heap.size)):=by
 refine⟨by simp[Instr.makeMap];rfl,g.obj ⟨S.w.heap.size,#[],YW S _ _,g.size,Ns S _ _,rfl,fun i h=>?_,by simp⟩,.map _ _ (YW S _ _)⟩;exact absurd (g.puball _ i h) (zL _)
end
end Go.Am
