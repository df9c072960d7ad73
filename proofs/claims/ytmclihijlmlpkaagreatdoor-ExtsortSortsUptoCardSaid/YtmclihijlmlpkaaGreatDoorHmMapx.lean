/- THE ABSTRACT MACHINE -/
import Derived.Test.YtmclihijlmlpkaaGreatDoorHmIx
import Derived.MapKept
open Option renaming some->O
open Bool renaming true->Q
open List renaming getElem?_set_ne->zC,getElem?_eraseIdx->zF,length_eraseIdx->zH
open Nat renaming le_refl->zK,lt_irrefl->zL,zero_add->zM
open Array renaming getElem?_setIfInBounds_self_of_lt->zA,getElem?_setIfInBounds_ne->zE,getElem?_modify->zG,length_toList->zI,toList_inj->zJ
open Option.some renaming injEq->zB
open Prod.mk renaming injEq->zD
namespace Go.Am
open RowKit
section
variable {P:Program}{S:Snap}{W0:World}{H:Hp}
theorem ZfG {d:TypeDesc}{k:AV}{u:Value}(h:Wo d k=Q)(g:VRel S k u):MapKept.IsKey d u:=by
 unfold Wo at h;split at h
 ·cases g;trivial
 ·cases g;simpa[MapKept.IsKey]using h
 ·cases g;trivial
 ·cases h
def Zqx (S:Snap)(x:AV×AV×Nat)(e:MapEntry):Prop:=VRel S x.1 e.key/\VRel S x.2.1 e.val/\e.born=x.2.2
theorem Ztx (a b:ByteArray):(a==b)=(a.data.toList==b.data.toList):=by
 cases a with|mk a =>
 cases b with|mk b =>
 show (a==b)=(a.toList==b.toList);by_cases h:a=b
 ·subst h;simp
 ·have g:a.toList≠b.toList:=λe=>h (zJ.1 e);rw[beq_eq_false_iff_ne.2 h,beq_eq_false_iff_ne.2 g]
theorem ZiQ {d:TypeDesc}{k q:AV}{u v:Value}{b:Bool}(g:Wo d k=Q)(j:VRel S k u)(w:VRel S q v)(h:Jb k q=O b):Instr.sameNow d u v=O b:=by
 unfold Jb at h;split at h
 ·cases j;cases w;cases d <;> simp[Wo]at g
  simpa[Instr.sameNow]using h
 ·cases j with|str _ _ h1 =>
  cases w with|str _ _ h2 =>
  subst h1 h2;cases d <;> simp[Wo]at g
  injection h with h;subst h;simp only[Instr.sameNow,zB];exact Ztx _ _
 ·cases j;cases w;cases d <;> simp[Wo]at g
  simpa[Instr.sameNow]using h
 ·cases h
theorem ZrW {k q:AV}{u w:Value}(g:VRel S k u)(y:VRel S q w)(h:Jb k q=O Q):w=u:=by
 unfold Jb at h;split at h
 ·cases g;cases y;split at h
  ·rename_i j;subst j;injection h with h;rw[eq_of_beq h]
  ·cases h
 ·cases g with|str _ _ h1 =>
  cases y with|str _ _ h2 =>
  injection h with h;have h:=eq_of_beq h;subst h1;rw[<-h2]at h;exact congrArg Value.string (ByteArray.ext (zJ.1 h)).symm
 ·cases g;cases y;injection h with h;rw[eq_of_beq h]
 ·cases h
theorem Ko {d:TypeDesc}{k:AV}{u:Value}(C:Wo d k=Q)(B:VRel S k u):∀ (l:List (AV×AV×Nat)) (g:List MapEntry) (i:Nat) (r:Option (Nat×AV)),g.length=l.length ->
 (∀ (j:Nat) (x:AV×AV×Nat) (e:MapEntry),l[j]?=O x->g[j]?=O e->Zqx S x e)->YX k l i=O r ->
 match r with
 |none=>Instr.findNow d u g i=O none
 |some (j,v)=>∃ v',Instr.findNow d u g i=O (O (j,v'))/\VRel S v v'/\i<=j/\j<i+l.length/\∃ x e,l[j-i]?=O x/\g[j-i]?=O e/\e.key=u:=by
 intro l
 induction l with
 |nil =>
  intro g i r y _ h;simp only[YX,zB]at h;subst h;have:g=[]:=List.length_eq_zero_iff.1 (by simpa using y);subst this;rfl
 |cons x l ih =>
  intro g i r y D h
  cases g with
  |nil=>simp at y
  |cons e g =>
   obtain⟨A,T,h3⟩:=D 0 x e rfl rfl;unfold YX at h;split at h
   ·rename_i z;injection h with h;subst h;have w:=ZiQ C B A z;exact⟨e.val,by unfold Instr.findNow;rw[w],T,zK _,cn,x,e,cn,cn,ZrW B A z⟩
   ·rename_i z;have w:=ZiQ C B A z;have:=ih g (i+1) r (by simpa using y) (λj x e hx Z=>D (j+1) x e (by simpa using hx) (by simpa using Z)) h
    cases r with
    |none=>simp only at this ⊢;unfold Instr.findNow;rw[w];exact this
    |some p =>
     obtain⟨j,v⟩:=p;simp only at this ⊢;obtain⟨v',F,L,g3,g4,x',E,M,N,R⟩:=this;refine⟨v',by unfold Instr.findNow;rw[w];exact F,L,cm,by simp;omega,x',E,?_,?_,R⟩
     ·rw[show j-i=(j-(i+1))+1 by omega];simpa using M
     ·rw[show j-i=(j-(i+1))+1 by omega];simpa using N
   ·cases h
theorem cV {t e:TypeId}{d:TypeDesc}(h:Dc P t=O (d,e)):∃ g,P.underlying t=O (.map g e)/\P.underlying g=O d:=by
 unfold Dc at h;split at h
 ·rename_i k w u;split at h
  ·rename_i d' j;simp only[zB,zD]at h;obtain⟨rfl,rfl⟩:=h;exact⟨k,u,j⟩
  ·cases h
 ·cases h
theorem kK {x:AV}{u:Value}{A:List (AV×AV×Nat)}(L:Inv W0 S H)(B:VRel S x u)(h:Xq x H=O A) :
 ∃ g:Array MapEntry,g.size=A.length/\(∀ (j:Nat) (y:AV×AV×Nat) (e:MapEntry),A[j]?=O y->g.toList[j]?=O e->Zqx S y e) /\
  (u=.map none/\g=#[]\/∃ b c,u=.map (O b)/\S.w.heap[b]?=O (.map g c)):=by
 unfold Xq at h;split at h
 ·cases B;injection h with h;subst h;exact⟨#[],rfl,cn,.inl ⟨rfl,rfl⟩⟩
 ·rename_i o;split at h
  ·rename_i C c N;injection h with h;subst h;cases B with|map _ b hb =>
   obtain⟨b',g,z,T,D,E,Z,F⟩:=L.objs o _ N;rw[hb]at z;injection z with z;subst z;refine⟨g,E,λj y e R M=>?_,.inr ⟨b,c,rfl,D⟩⟩;obtain⟨k,v,n⟩:=y;exact F j k v n e R (by simpa using M)
  ·cases h
 ·cases h
theorem Zm2 {t e:TypeId}{d:TypeDesc}{z x k r:AV}{u v:Value}{A:Bool}(hI:Inv W0 S H)(ht:Dc P t=O (d,e))(hz:∃ N,(zeroValue e).run P S.w=.ok N S.w/\VRel S z N)(hx:VRel S x u)(hk:VRel S k v)
 (h:Yo d z A x k H=O r):∃ v',(Instr.lookup t u v A).run P S.w=.ok v' S.w/\VRel S r v':=by
 obtain⟨kt,hu,R⟩:=cV ht;obtain⟨N,DR,aa⟩:=hz;unfold Yo at h;split at h
 ·rename_i L;split at h
  ·rename_i es Z;obtain⟨E,hs,hr,F⟩:=kK hI hx Z;have B:=ZfG L hk
   have D:∀ {a:AV} {w:Value} {b:Bool},VRel S a w->VRel S (if A=Q then AV.tuple [a,.bool b] else a) (if A=Q then Value.tuple #[w,.bool b] else w):=by
    intro a w b M
    cases A with
    |false=>exact M
    |true =>
     refine .tuple _ _ rfl λi c y g C=>?_
     match i,g,C with
     |0,g,C=>simp at g C;subst g C;exact M
     |1,g,C=>simp at g C;subst g C;exact .bool b
     |i+2,g,C=>simp at g
   have run:∀ a,Instr.findNow d v E.toList 0=O a->(Instr.lookup t u v A).run P S.w=(match a with|some (_,w)=>.ok (if A=Q then Value.tuple #[w,.bool Q] else w) S.w|none=>.ok (if A=Q then Value.tuple #[N,.bool false] else N) S.w):=by
    intro a M;rcases F with ⟨rfl,rfl⟩|⟨b,c,rfl,hb⟩
    ·cases a <;> simp[Instr.lookup,run_underlying hu,MapKept.run_checkKey R B,MapKept.run_findKey R M,DR,Result.andThen]
    ·cases a <;> simp[Instr.lookup,run_underlying hu,MapKept.run_getObj_map hb,MapKept.run_checkKey R B,MapKept.run_findKey R M,DR,Result.andThen]
   split at h
   ·rename_i j w hf;injection h with h;subst h;obtain⟨w',T,g2,_⟩:=Ko L hk es E.toList 0 _ (by simpa using hs) hr hf;exact⟨_,run _ T,D g2⟩
   ·rename_i hf;injection h with h;subst h;have T:=Ko L hk es E.toList 0 _ (by simpa using hs) hr hf;exact⟨_,run _ T,D aa⟩
   ·cases h
  ·cases h
 ·cases h
def QA (w:World)(b:Nat)(o:Obj):World:={ w with heap:=w.heap.setIfInBounds b o }
theorem Ext.reobj {b:Nat}(j:∀ i,¬ S.pub b i)(o:Obj):Ext S { S with w:=QA S.w b o }:=by
 refine⟨⟨λ_ _ h=>h,λb' i h=>⟨h,?_⟩,λ_ e b hw sz h=>⟨e,b,hw,sz,h,zK _,λ_=>⟨rfl,rfl,rfl⟩⟩⟩,rfl,λ_ _ h _=>h⟩;have g:b≠b':=by rintro rfl;exact j i h
 show World.cell? (QA S.w b o) _=_;unfold World.cell? QA;simp only;rw[zE g]
theorem Inv.reobj (j:Inv W0 S H){o b:Nat}{x y:AObj}{ob A:Obj}(M:H[o]?=O x)(T:x≠.dead)(R:S.phi o=O b)(hB:W0.heap.size<=b)(hc:S.w.heap[b]?=O ob)(N:∀ i,¬ S.pub b i)
 (hy:ORel { S with w:=QA S.w b A } W0.heap.size o y):Inv W0 { S with w:=QA S.w b A } (H.set o y):=by
 have D:=Ext.reobj N A;have E:=Zn M
 have u:∀ n:Nat,(H.set o y)[n]?≠O AObj.dead->H[n]?≠O AObj.dead:=λn h=>by
  by_cases e:o=n
  ·subst e;rw[M];simpa using T
  ·rwa [zC e]at h
 have B:(QA S.w b A).heap.size=S.w.heap.size:=by simp[QA]
 have g:∀ b',b'≠b->(QA S.w b A).heap[b']?=S.w.heap[b']?:=λb' h=>by simp[QA,zE (Ne.symm h)]
 refine⟨j.below.trans ⟨rfl,rfl,rfl,by rw[B];exact zK _,λk hk=>g k cm⟩,λn z h=>?_,λn hn=>j.past n (by simpa using hn),λo1 o2 b h1 h2 F L=>j.inj o1 o2 b h1 h2 (u _ F) (u _ L),j.tinj,j.apart,
  λb' i h=>by rw[B];exact j.puball b' i h,λn b' h=>by rw[B];exact j.dom n b' h,λt e b' hw sz h=>by rw[B];exact j.tdom t e b' hw sz h,j.lim⟩
 by_cases e:o=n
 ·subst e;simp[E]at h;subst h;exact hy
 ·rw[zC e]at h
  cases z with
  |dead=>trivial
  |_ =>
   refine (j.objs n _ h).frame D (λb' C aa=>⟨g _ ?_,λi N=>N⟩) rfl rfl
   rintro rfl
   rcases C with C|⟨Z,hw,sz,ht⟩
   ·exact e (j.inj o n b' R C (by rw[M];simpa using T) (by rw[h];simp))
   ·exact j.apart n Z b' hw sz o ht R
theorem kE {t e:TypeId}{d:TypeDesc}{m k v r:AV}{um N R:Value}{H':Hp}(Z:Inv W0 S H)(ht:Dc P t=O (d,e))(hm:VRel S m um)(hk:VRel S k N)(hv:VRel S v R)
 (h:XC d m k v H=O (r,H')):r=.tuple []/\∃ S',(Instr.mapUpdate t um N R).run P S.w=.ok () S'.w/\Ext S S'/\Inv W0 S' H':=by
 obtain⟨kt,hu,hd⟩:=cV ht;unfold XC at h;split at h
 ·rename_i o;split at h
  ·rename_i L c ho;split at h
   ·rename_i F;have A:=ZfG F hk;cases hm with|map _ b hb =>
    obtain⟨b',z,h1,h2,M,T,C,h6⟩:=Z.objs o _ ho;rw[hb]at h1;injection h1 with h1;subst h1
    have hr:∀ (j:Nat) (y:AV×AV×Nat) (e:MapEntry),L[j]?=O y->z.toList[j]?=O e->Zqx S y e:=λj y e hy he=>by
     obtain⟨k,v,n⟩:=y;exact h6 j k v n e hy (by simpa using he)
    split at h
    ·rename_i i w hf;simp only[zB,zD]at h;obtain⟨rfl,rfl⟩:=h;obtain⟨w',g1,g2,_,g4,x,en,g5,g6,g7⟩:=Ko F hk L z.toList 0 _ (by simpa using T) hr hf;simp only[zM,Nat.sub_zero]at g4 g5 g6;have aa:z[i]?=O en:=by simpa using g6
     refine⟨rfl,{ S with w:=QA S.w b (.map (z.modify i λe=>{ e with key:=N,val:=R }) c) },?_,Ext.reobj C _,?_⟩
     ·simp[Instr.mapUpdate,run_underlying hu,MapKept.run_getObj_map M,MapKept.run_checkKey hd A,MapKept.run_findKey hd g1,aa,g7,MapKept.run_keyThatStays A,MapKept.run_setObj_map _ M,Result.andThen,QA]
     ·have g:=Ext.reobj C (Obj.map (z.modify i λe=>{ e with key:=N,val:=R }) c);have E:b<S.w.heap.size:=Z.dom o b hb;refine Z.reobj ho cn hb h2 M C ⟨b,_,hb,h2,by simp only[QA];rw[zA E],by simp[T],C,λj k1 v1 n1 e1 B u=>?_⟩;by_cases D:i=j
      ·subst D;simp[g4]at B;obtain⟨rfl,rfl,rfl⟩:=B;rw[zG,if_pos rfl,aa]at u;simp at u;subst u
       have hx:L[i]=x:=by
        have:=g5;rw[List.getElem?_eq_getElem g4]at this;injection this
       refine⟨hk.mono g,hv.mono g,?_⟩;have:=(hr i x en g5 g6).2.2;simp[hx,this]
      ·rw[zC D]at B;rw[zG,if_neg D]at u;obtain⟨q1,q2,q3⟩:=h6 j k1 v1 n1 e1 B u;exact⟨q1.mono g,q2.mono g,q3⟩
    ·rename_i hf;simp only[zB,zD]at h;obtain⟨rfl,rfl⟩:=h;have g1:=Ko F hk L z.toList 0 _ (by simpa using T) hr hf;simp only at g1;refine⟨rfl,{ S with w:=QA S.w b (.map (z.push { key:=N,val:=R,born:=c }) (c+1)) },?_,Ext.reobj C _,?_⟩
     ·simp[Instr.mapUpdate,run_underlying hu,MapKept.run_getObj_map M,MapKept.run_checkKey hd A,MapKept.run_findKey hd g1,MapKept.run_setObj_map _ M,Result.andThen,QA]
     ·have g:=Ext.reobj C (Obj.map (z.push { key:=N,val:=R,born:=c }) (c+1));have E:b<S.w.heap.size:=Z.dom o b hb;refine Z.reobj ho cn hb h2 M C ⟨b,_,hb,h2,by simp only[QA];rw[zA E],by simp[T],C,λj k1 v1 n1 e1 B u=>?_⟩;by_cases ac:j<L.length
      ·rw[List.getElem?_append_left ac]at B;rw[Array.getElem?_push_lt cm]at u;have ab:z[j]?=O e1:=by rw[Array.getElem?_eq_getElem cm];exact u
       obtain⟨q1,q2,q3⟩:=h6 j k1 v1 n1 e1 B ab;exact⟨q1.mono g,q2.mono g,q3⟩
      ·have:=Zn B;simp at this;have ad:j=L.length:=cm
       subst ad;simp at B;obtain⟨rfl,rfl,rfl⟩:=B;rw[<-T]at u;simp at u;subst u;exact⟨hk.mono g,hv.mono g,rfl⟩
    ·cases h
   ·cases h
  ·cases h
 ·cases h
theorem Zm3 {t e xt ty:TypeId}{d:TypeDesc}{m k r:AV}{um uk:Value}{H':Hp}(hI:Inv W0 S H)(ht:Dc P t=O (d,e))(hm:VRel S m um)(hk:VRel S k uk)
 (h:J7 d m k H=O (r,H')):r=.tuple []/\∃ S',(Builtin.delete_ #[t,xt] ty #[um,uk]).run P S.w=.ok (.tuple #[]) S'.w/\Ext S S'/\Inv W0 S' H':=by
 obtain⟨kt,hu,hd⟩:=cV ht;unfold J7 at h;split at h
 ·rename_i o;split at h
  ·rename_i es c ho;split at h
   ·rename_i E;have B:=ZfG E hk;cases hm with|map _ b hb =>
    obtain⟨b',u,h1,h2,F,h4,A,h6⟩:=hI.objs o _ ho;rw[hb]at h1;injection h1 with h1;subst h1
    have hr:∀ (j:Nat) (y:AV×AV×Nat) (e:MapEntry),es[j]?=O y->u.toList[j]?=O e->Zqx S y e:=λj y e hy he=>by
     obtain⟨k,v,n⟩:=y;exact h6 j k v n e hy (by simpa using he)
    have M:b<S.w.heap.size:=hI.dom o b hb;split at h
    ·rename_i i w hf;simp only[zB,zD]at h;obtain⟨rfl,rfl⟩:=h;obtain⟨w',g1,g2,_,g4,_⟩:=Ko E hk es u.toList 0 _ (by simpa using h4) hr hf;simp only[zM]at g4;have aa:i<u.size:=cm
     have C:(u.eraseIdxIfInBounds i).toList=u.toList.eraseIdx i:=by
      unfold Array.eraseIdxIfInBounds;rw[dif_pos aa];simp
     refine⟨rfl,{ S with w:=QA S.w b (.map (u.eraseIdxIfInBounds i) c) },?_,Ext.reobj A _,?_⟩
     ·simp[Builtin.delete_,run_underlying hu,MapKept.run_getObj_map F,MapKept.run_checkKey hd B,MapKept.run_findKey hd g1,MapKept.run_setObj_map _ F,Result.andThen,QA]
     ·have g:=Ext.reobj A (Obj.map (u.eraseIdxIfInBounds i) c);refine hI.reobj ho cn hb h2 F A ⟨b,_,hb,h2,by simp only[QA];rw[zA M],?_,A,λj k1 v1 n1 Z L z=>?_⟩
      ·have:=congrArg List.length C;rw[zI,zH,zI]at this;rw[zH,this,h4]
      ·rw[<-Array.getElem?_toList,C,zF]at z;rw[zF]at L;split at L
       ·rename_i D;rw[if_pos D]at z;obtain⟨N,R,T⟩:=h6 j k1 v1 n1 Z L (by simpa using z);exact⟨N.mono g,R.mono g,T⟩
       ·rename_i D;rw[if_neg D]at z;obtain⟨N,R,T⟩:=h6 (j+1) k1 v1 n1 Z L (by simpa using z);exact⟨N.mono g,R.mono g,T⟩
    ·rename_i hf;simp only[zB,zD]at h;obtain⟨rfl,rfl⟩:=h;have g1:=Ko E hk es u.toList 0 _ (by simpa using h4) hr hf;simp only at g1;refine⟨rfl,{ S with w:=QA S.w b (.map u c) },?_,Ext.reobj A _,?_⟩
     ·simp[Builtin.delete_,run_underlying hu,MapKept.run_getObj_map F,MapKept.run_checkKey hd B,MapKept.run_findKey hd g1,MapKept.run_setObj_map _ F,Result.andThen,QA]
     ·have g:=Ext.reobj A (Obj.map u c);refine hI.reobj ho cn hb h2 F A ⟨b,_,hb,h2,by simp only[QA];rw[zA M],h4,A,λj k1 v1 n1 Z L z=>?_⟩;obtain⟨N,R,T⟩:=h6 j k1 v1 n1 Z L z;exact⟨N.mono g,R.mono g,T⟩
    ·cases h
   ·cases h
  ·cases h
 ·cases h
theorem ZoU {t e:TypeId}{d:TypeDesc}{x r:AV}{u:Value}(C:Inv W0 S H)(E:Dc P t=O (d,e))(F:VRel S x u)(h:Jw x H=O r)(ty:TypeId) :
 ∃ v',(Builtin.len_ #[t] ty #[u]).run P S.w=.ok v' S.w/\VRel S r v':=by
 obtain⟨M,z,L⟩:=cV E;unfold Jw at h;split at h
 ·rename_i A j;injection h with h;subst h;obtain⟨g,y,_,B⟩:=kK C F j;rcases B with ⟨rfl,rfl⟩|⟨b,c,rfl,D⟩
  ·have:A.length=0:=by rw[<-y];rfl
   rw[this];exact⟨goInt 0,by simp[Builtin.len_,run_underlying z],.int _ _⟩
  ·rw[<-y];exact⟨goInt g.size,by simp[Builtin.len_,run_underlying z,MapKept.run_getObj_map D,Result.andThen],.int _ _⟩
 ·cases h
theorem ZuR {n:Nat}(t:TypeId)(h:Inv W0 S H)(y:H[n]?=O .free):(Instr.makeMap t none).run P S.w=.ok (.map (O S.w.heap.size)) (S.obj n (.map #[] 0)).w/\Ext S (S.obj n (.map #[] 0))/\Inv W0 (S.obj n (.map #[] 0)) (H.set n (.map [] 0))/\VRel (S.obj n (.map #[] 0)) (.map n) (.map (O S.w.heap.size)):=by
 have g:=h.objs n _ y;have j:=Ext.objAt h g.1 (.map #[] 0);have u:n<H.length:=Zn y;refine⟨by simp[Instr.makeMap];rfl,j,h.objAt g.1 (x:=.map [] 0) (by simp[u]) (λm z=>by rw[zC (Ne.symm z)]) cn ⟨S.w.heap.size,#[],YZ S _ _,h.size,Nx S _ _,rfl,λi A=>?_,cn⟩,.map _ _ (YZ S _ _)⟩;exact absurd (h.puball _ i A) (zL _)
theorem Zmh (t:TypeId)(g:Inv W0 S H):(Instr.makeMap t none).run P S.w=.ok (.map (O S.w.heap.size)) (S.obj H.length (.map #[] 0)).w/\Inv W0 (S.obj H.length (.map #[] 0)) (H++[.map [] 0])/\VRel (S.obj H.length (.map #[] 0)) (.map H.length) (.map (O S.w.heap.size)):=by
 refine⟨by simp[Instr.makeMap];rfl,g.obj ⟨S.w.heap.size,#[],YZ S _ _,g.size,Nx S _ _,rfl,λi h=>?_,cn⟩,.map _ _ (YZ S _ _)⟩;exact absurd (g.puball _ i h) (zL _)
end
end Go.Am
