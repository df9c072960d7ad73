/- THE ABSTRACT MACHINE -/
import Derived.Test.YtjmhpjoedfegkaaGreatDoorHmIx
import Derived.MapKept
open Option renaming some->O
open Bool renaming true->Q
open List renaming getElem?_set_ne->zC,getElem?_eraseIdx->zF,length_eraseIdx->zH
open Nat renaming le_refl->zK,lt_irrefl->zL,zero_add->zM
open Array renaming getElem?_setIfInBounds_self_of_lt->zA,getElem?_setIfInBounds_ne->zE,getElem?_modify->zG,length_toList->zI,toList_inj->zJ
open Option.some renaming injEq->zB
open Prod.mk renaming injEq->zD
namespace Go.Am
open RowKit
section
variable {P:Program}{S:Snap}{W0:World}{H:Hp}
theorem Zg1 {d:TypeDesc}{k:AV}{u:Value}(h:Wr d k=Q)(j:VRel S k u):MapKept.IsKey d u:=by
 unfold Wr at h;split at h
 ·cases j;trivial
 ·cases j;simpa[MapKept.IsKey]using h
 ·cases j;trivial
 ·cases h
def ZpU (S:Snap)(x:AV×AV×Nat)(e:MapEntry):Prop:=VRel S x.1 e.key/\VRel S x.2.1 e.val/\e.born=x.2.2
theorem ZsL (a b:ByteArray):(a==b)=(a.data.toList==b.data.toList):=by
 cases a with|mk a =>
 cases b with|mk b =>
 show (a==b)=(a.toList==b.toList);by_cases h:a=b
 ·subst h;simp
 ·have j:a.toList≠b.toList:=λe=>h (zJ.1 e);rw[beq_eq_false_iff_ne.2 h,beq_eq_false_iff_ne.2 j]
theorem ZiG {d:TypeDesc}{k q:AV}{u v:Value}{b:Bool}(j:Wr d k=Q)(w:VRel S k u)(y:VRel S q v)(h:JB k q=O b):Instr.sameNow d u v=O b:=by
 unfold JB at h;split at h
 ·cases w;cases y;cases d <;> simp[Wr]at j
  simpa[Instr.sameNow]using h
 ·cases w with|str _ _ h1 =>
  cases y with|str _ _ h2 =>
  subst h1 h2;cases d <;> simp[Wr]at j
  injection h with h;subst h;simp only[Instr.sameNow,zB];exact ZsL _ _
 ·cases w;cases y;cases d <;> simp[Wr]at j
  simpa[Instr.sameNow]using h
 ·cases h
theorem Zre {k q:AV}{u w:Value}(j:VRel S k u)(z:VRel S q w)(h:JB k q=O Q):w=u:=by
 unfold JB at h;split at h
 ·cases j;cases z;split at h
  ·rename_i y;subst y;injection h with h;rw[eq_of_beq h]
  ·cases h
 ·cases j with|str _ _ h1 =>
  cases z with|str _ _ h2 =>
  injection h with h;have h:=eq_of_beq h;subst h1;rw[<-h2]at h;exact congrArg Value.string (ByteArray.ext (zJ.1 h)).symm
 ·cases j;cases z;injection h with h;rw[eq_of_beq h]
 ·cases h
theorem G4 {d:TypeDesc}{k:AV}{u:Value}(D:Wr d k=Q)(C:VRel S k u):∀ (l:List (AV×AV×Nat)) (w:List MapEntry) (i:Nat) (r:Option (Nat×AV)),w.length=l.length ->
 (∀ (j:Nat) (x:AV×AV×Nat) (e:MapEntry),l[j]?=O x->w[j]?=O e->ZpU S x e)->X2 k l i=O r ->
 match r with
 |none=>Instr.findNow d u w i=O none
 |some (j,v)=>∃ v',Instr.findNow d u w i=O (O (j,v'))/\VRel S v v'/\i<=j/\j<i+l.length/\∃ x e,l[j-i]?=O x/\w[j-i]?=O e/\e.key=u:=by
 intro l
 induction l with
 |nil =>
  intro w i r z _ h;simp only[X2,zB]at h;subst h;have:w=[]:=List.length_eq_zero_iff.1 (by simpa using z);subst this;rfl
 |cons x l ih =>
  intro w i r z E h
  cases w with
  |nil=>simp at z
  |cons e w =>
   obtain⟨B,T,h3⟩:=E 0 x e rfl rfl;unfold X2 at h;split at h
   ·rename_i A;injection h with h;subst h;have y:=ZiG D C B A;exact⟨e.val,by unfold Instr.findNow;rw[y],T,zK _,dh,x,e,dh,dh,Zre C B A⟩
   ·rename_i A;have y:=ZiG D C B A;have:=ih w (i+1) r (by simpa using z) (λj x e hx Z=>E (j+1) x e (by simpa using hx) (by simpa using Z)) h
    cases r with
    |none=>simp only at this ⊢;unfold Instr.findNow;rw[y];exact this
    |some p =>
     obtain⟨j,v⟩:=p;simp only at this ⊢;obtain⟨v',G,L,g3,g4,x',F,M,N,R⟩:=this;refine⟨v',by unfold Instr.findNow;rw[y];exact G,L,b5,by simp;omega,x',F,?_,?_,R⟩
     ·rw[show j-i=(j-(i+1))+1 by omega];simpa using M
     ·rw[show j-i=(j-(i+1))+1 by omega];simpa using N
   ·cases h
theorem eH {t e:TypeId}{d:TypeDesc}(h:DI P t=O (d,e)):∃ j,P.underlying t=O (.map j e)/\P.underlying j=O d:=by
 unfold DI at h;split at h
 ·rename_i k y w;split at h
  ·rename_i d' u;simp only[zB,zD]at h;obtain⟨rfl,rfl⟩:=h;exact⟨k,w,u⟩
  ·cases h
 ·cases h
theorem mV {x:AV}{u:Value}{B:List (AV×AV×Nat)}(L:Inv W0 S H)(C:VRel S x u)(h:Xs x H=O B) :
 ∃ z:Array MapEntry,z.size=B.length/\(∀ (j:Nat) (y:AV×AV×Nat) (e:MapEntry),B[j]?=O y->z.toList[j]?=O e->ZpU S y e) /\
  (u=.map none/\z=#[]\/∃ b c,u=.map (O b)/\S.w.heap[b]?=O (.map z c)):=by
 unfold Xs at h;split at h
 ·cases C;injection h with h;subst h;exact⟨#[],rfl,dh,.inl ⟨rfl,rfl⟩⟩
 ·rename_i o;split at h
  ·rename_i D c N;injection h with h;subst h;cases C with|map _ b hb =>
   obtain⟨b',z,A,T,E,F,Z,G⟩:=L.objs o _ N;rw[hb]at A;injection A with A;subst A;refine⟨z,F,λj y e R M=>?_,.inr ⟨b,c,rfl,E⟩⟩;obtain⟨k,v,n⟩:=y;exact G j k v n e R (by simpa using M)
  ·cases h
 ·cases h
theorem Zlo {t e:TypeId}{d:TypeDesc}{z x k r:AV}{u v:Value}{B:Bool}(hI:Inv W0 S H)(ht:DI P t=O (d,e))(hz:∃ R,(zeroValue e).run P S.w=.ok R S.w/\VRel S z R)(hx:VRel S x u)(hk:VRel S k v)
 (h:Yj d z B x k H=O r):∃ v',(Instr.lookup t u v B).run P S.w=.ok v' S.w/\VRel S r v':=by
 obtain⟨kt,hu,T⟩:=eH ht;obtain⟨R,N,ab⟩:=hz;unfold Yj at h;split at h
 ·rename_i L;split at h
  ·rename_i es aa;obtain⟨F,hs,hr,G⟩:=mV hI hx aa;have C:=Zg1 L hk
   have E:∀ {a:AV} {w:Value} {b:Bool},VRel S a w->VRel S (if B=Q then AV.tuple [a,.bool b] else a) (if B=Q then Value.tuple #[w,.bool b] else w):=by
    intro a w b M
    cases B with
    |false=>exact M
    |true =>
     refine .tuple _ _ rfl λi c y A D=>?_
     match i,A,D with
     |0,A,D=>simp at A D;subst A D;exact M
     |1,A,D=>simp at A D;subst A D;exact .bool b
     |i+2,A,D=>simp at A
   have run:∀ a,Instr.findNow d v F.toList 0=O a->(Instr.lookup t u v B).run P S.w=(match a with|some (_,w)=>.ok (if B=Q then Value.tuple #[w,.bool Q] else w) S.w|none=>.ok (if B=Q then Value.tuple #[R,.bool false] else R) S.w):=by
    intro a M;rcases G with ⟨rfl,rfl⟩|⟨b,c,rfl,hb⟩
    ·cases a <;> simp[Instr.lookup,run_underlying hu,MapKept.run_checkKey T C,MapKept.run_findKey T M,N,Result.andThen]
    ·cases a <;> simp[Instr.lookup,run_underlying hu,MapKept.run_getObj_map hb,MapKept.run_checkKey T C,MapKept.run_findKey T M,N,Result.andThen]
   split at h
   ·rename_i j w hf;injection h with h;subst h;obtain⟨w',Z,g2,_⟩:=G4 L hk es F.toList 0 _ (by simpa using hs) hr hf;exact⟨_,run _ Z,E g2⟩
   ·rename_i hf;injection h with h;subst h;have Z:=G4 L hk es F.toList 0 _ (by simpa using hs) hr hf;exact⟨_,run _ Z,E ab⟩
   ·cases h
  ·cases h
 ·cases h
def QM (w:World)(b:Nat)(o:Obj):World:={ w with heap:=w.heap.setIfInBounds b o }
theorem Ext.reobj {b:Nat}(u:∀ i,¬ S.pub b i)(o:Obj):Ext S { S with w:=QM S.w b o }:=by
 refine⟨⟨λ_ _ h=>h,λb' i h=>⟨h,?_⟩,λ_ e b hw sz h=>⟨e,b,hw,sz,h,zK _,λ_=>⟨rfl,rfl,rfl⟩⟩⟩,rfl,λ_ _ h _=>h⟩;have j:b≠b':=by rintro rfl;exact u i h
 show World.cell? (QM S.w b o) _=_;unfold World.cell? QM;simp only;rw[zE j]
theorem Inv.reobj (u:Inv W0 S H){o b:Nat}{x y:AObj}{ob B:Obj}(M:H[o]?=O x)(T:x≠.dead)(R:S.phi o=O b)(hB:W0.heap.size<=b)(hc:S.w.heap[b]?=O ob)(N:∀ i,¬ S.pub b i)
 (hy:ORel { S with w:=QM S.w b B } W0.heap.size o y):Inv W0 { S with w:=QM S.w b B } (H.set o y):=by
 have E:=Ext.reobj N B;have F:=Zq M
 have A:∀ n:Nat,(H.set o y)[n]?≠O AObj.dead->H[n]?≠O AObj.dead:=λn h=>by
  by_cases e:o=n
  ·subst e;rw[M];simpa using T
  ·rwa [zC e]at h
 have C:(QM S.w b B).heap.size=S.w.heap.size:=by simp[QM]
 have j:∀ b',b'≠b->(QM S.w b B).heap[b']?=S.w.heap[b']?:=λb' h=>by simp[QM,zE (Ne.symm h)]
 refine⟨u.below.trans ⟨rfl,rfl,rfl,by rw[C];exact zK _,λk hk=>j k b5⟩,λn z h=>?_,λn hn=>u.past n (by simpa using hn),λo1 o2 b h1 h2 G L=>u.inj o1 o2 b h1 h2 (A _ G) (A _ L),u.tinj,u.apart,
  λb' i h=>by rw[C];exact u.puball b' i h,λn b' h=>by rw[C];exact u.dom n b' h,λt e b' hw sz h=>by rw[C];exact u.tdom t e b' hw sz h,u.lim⟩
 by_cases e:o=n
 ·subst e;simp[F]at h;subst h;exact hy
 ·rw[zC e]at h
  cases z with
  |dead=>trivial
  |_ =>
   refine (u.objs n _ h).frame E (λb' D aa=>⟨j _ ?_,λi N=>N⟩) rfl rfl
   rintro rfl
   rcases D with D|⟨Z,hw,sz,ht⟩
   ·exact e (u.inj o n b' R D (by rw[M];simpa using T) (by rw[h];simp))
   ·exact u.apart n Z b' hw sz o ht R
theorem mP {t e:TypeId}{d:TypeDesc}{m k v r:AV}{um N R:Value}{H':Hp}(Z:Inv W0 S H)(ht:DI P t=O (d,e))(hm:VRel S m um)(hk:VRel S k N)(hv:VRel S v R)
 (h:XL d m k v H=O (r,H')):r=.tuple []/\∃ S',(Instr.mapUpdate t um N R).run P S.w=.ok () S'.w/\Ext S S'/\Inv W0 S' H':=by
 obtain⟨kt,hu,hd⟩:=eH ht;unfold XL at h;split at h
 ·rename_i o;split at h
  ·rename_i L c ho;split at h
   ·rename_i G;have B:=Zg1 G hk;cases hm with|map _ b hb =>
    obtain⟨b',A,h1,h2,M,T,D,h6⟩:=Z.objs o _ ho;rw[hb]at h1;injection h1 with h1;subst h1
    have hr:∀ (j:Nat) (y:AV×AV×Nat) (e:MapEntry),L[j]?=O y->A.toList[j]?=O e->ZpU S y e:=λj y e hy he=>by
     obtain⟨k,v,n⟩:=y;exact h6 j k v n e hy (by simpa using he)
    split at h
    ·rename_i i w hf;simp only[zB,zD]at h;obtain⟨rfl,rfl⟩:=h;obtain⟨w',g1,g2,_,g4,x,en,g5,g6,g7⟩:=G4 G hk L A.toList 0 _ (by simpa using T) hr hf;simp only[zM,Nat.sub_zero]at g4 g5 g6;have aa:A[i]?=O en:=by simpa using g6
     refine⟨rfl,{ S with w:=QM S.w b (.map (A.modify i λe=>{ e with key:=N,val:=R }) c) },?_,Ext.reobj D _,?_⟩
     ·simp[Instr.mapUpdate,run_underlying hu,MapKept.run_getObj_map M,MapKept.run_checkKey hd B,MapKept.run_findKey hd g1,aa,g7,MapKept.run_keyThatStays B,MapKept.run_setObj_map _ M,Result.andThen,QM]
     ·have u:=Ext.reobj D (Obj.map (A.modify i λe=>{ e with key:=N,val:=R }) c);have F:b<S.w.heap.size:=Z.dom o b hb;refine Z.reobj ho dh hb h2 M D ⟨b,_,hb,h2,by simp only[QM];rw[zA F],by simp[T],D,λj k1 v1 n1 e1 C z=>?_⟩;by_cases E:i=j
      ·subst E;simp[g4]at C;obtain⟨rfl,rfl,rfl⟩:=C;rw[zG,if_pos rfl,aa]at z;simp at z;subst z
       have hx:L[i]=x:=by
        have:=g5;rw[List.getElem?_eq_getElem g4]at this;injection this
       refine⟨hk.mono u,hv.mono u,?_⟩;have:=(hr i x en g5 g6).2.2;simp[hx,this]
      ·rw[zC E]at C;rw[zG,if_neg E]at z;obtain⟨q1,q2,q3⟩:=h6 j k1 v1 n1 e1 C z;exact⟨q1.mono u,q2.mono u,q3⟩
    ·rename_i hf;simp only[zB,zD]at h;obtain⟨rfl,rfl⟩:=h;have g1:=G4 G hk L A.toList 0 _ (by simpa using T) hr hf;simp only at g1;refine⟨rfl,{ S with w:=QM S.w b (.map (A.push { key:=N,val:=R,born:=c }) (c+1)) },?_,Ext.reobj D _,?_⟩
     ·simp[Instr.mapUpdate,run_underlying hu,MapKept.run_getObj_map M,MapKept.run_checkKey hd B,MapKept.run_findKey hd g1,MapKept.run_setObj_map _ M,Result.andThen,QM]
     ·have u:=Ext.reobj D (Obj.map (A.push { key:=N,val:=R,born:=c }) (c+1));have F:b<S.w.heap.size:=Z.dom o b hb;refine Z.reobj ho dh hb h2 M D ⟨b,_,hb,h2,by simp only[QM];rw[zA F],by simp[T],D,λj k1 v1 n1 e1 C z=>?_⟩;by_cases ac:j<L.length
      ·rw[List.getElem?_append_left ac]at C;rw[Array.getElem?_push_lt b5]at z;have ab:A[j]?=O e1:=by rw[Array.getElem?_eq_getElem b5];exact z
       obtain⟨q1,q2,q3⟩:=h6 j k1 v1 n1 e1 C ab;exact⟨q1.mono u,q2.mono u,q3⟩
      ·have:=Zq C;simp at this;have ad:j=L.length:=b5
       subst ad;simp at C;obtain⟨rfl,rfl,rfl⟩:=C;rw[<-T]at z;simp at z;subst z;exact⟨hk.mono u,hv.mono u,rfl⟩
    ·cases h
   ·cases h
  ·cases h
 ·cases h
theorem Zlp {t e xt ty:TypeId}{d:TypeDesc}{m k r:AV}{um uk:Value}{H':Hp}(hI:Inv W0 S H)(ht:DI P t=O (d,e))(hm:VRel S m um)(hk:VRel S k uk)
 (h:Jx d m k H=O (r,H')):r=.tuple []/\∃ S',(Builtin.delete_ #[t,xt] ty #[um,uk]).run P S.w=.ok (.tuple #[]) S'.w/\Ext S S'/\Inv W0 S' H':=by
 obtain⟨kt,hu,hd⟩:=eH ht;unfold Jx at h;split at h
 ·rename_i o;split at h
  ·rename_i es c ho;split at h
   ·rename_i F;have C:=Zg1 F hk;cases hm with|map _ b hb =>
    obtain⟨b',z,h1,h2,G,h4,B,h6⟩:=hI.objs o _ ho;rw[hb]at h1;injection h1 with h1;subst h1
    have hr:∀ (j:Nat) (y:AV×AV×Nat) (e:MapEntry),es[j]?=O y->z.toList[j]?=O e->ZpU S y e:=λj y e hy he=>by
     obtain⟨k,v,n⟩:=y;exact h6 j k v n e hy (by simpa using he)
    have M:b<S.w.heap.size:=hI.dom o b hb;split at h
    ·rename_i i w hf;simp only[zB,zD]at h;obtain⟨rfl,rfl⟩:=h;obtain⟨w',g1,g2,_,g4,_⟩:=G4 F hk es z.toList 0 _ (by simpa using h4) hr hf;simp only[zM]at g4;have aa:i<z.size:=b5
     have D:(z.eraseIdxIfInBounds i).toList=z.toList.eraseIdx i:=by
      unfold Array.eraseIdxIfInBounds;rw[dif_pos aa];simp
     refine⟨rfl,{ S with w:=QM S.w b (.map (z.eraseIdxIfInBounds i) c) },?_,Ext.reobj B _,?_⟩
     ·simp[Builtin.delete_,run_underlying hu,MapKept.run_getObj_map G,MapKept.run_checkKey hd C,MapKept.run_findKey hd g1,MapKept.run_setObj_map _ G,Result.andThen,QM]
     ·have u:=Ext.reobj B (Obj.map (z.eraseIdxIfInBounds i) c);refine hI.reobj ho dh hb h2 G B ⟨b,_,hb,h2,by simp only[QM];rw[zA M],?_,B,λj k1 v1 n1 Z L A=>?_⟩
      ·have:=congrArg List.length D;rw[zI,zH,zI]at this;rw[zH,this,h4]
      ·rw[<-Array.getElem?_toList,D,zF]at A;rw[zF]at L;split at L
       ·rename_i E;rw[if_pos E]at A;obtain⟨N,R,T⟩:=h6 j k1 v1 n1 Z L (by simpa using A);exact⟨N.mono u,R.mono u,T⟩
       ·rename_i E;rw[if_neg E]at A;obtain⟨N,R,T⟩:=h6 (j+1) k1 v1 n1 Z L (by simpa using A);exact⟨N.mono u,R.mono u,T⟩
    ·rename_i hf;simp only[zB,zD]at h;obtain⟨rfl,rfl⟩:=h;have g1:=G4 F hk es z.toList 0 _ (by simpa using h4) hr hf;simp only at g1;refine⟨rfl,{ S with w:=QM S.w b (.map z c) },?_,Ext.reobj B _,?_⟩
     ·simp[Builtin.delete_,run_underlying hu,MapKept.run_getObj_map G,MapKept.run_checkKey hd C,MapKept.run_findKey hd g1,MapKept.run_setObj_map _ G,Result.andThen,QM]
     ·have u:=Ext.reobj B (Obj.map z c);refine hI.reobj ho dh hb h2 G B ⟨b,_,hb,h2,by simp only[QM];rw[zA M],h4,B,λj k1 v1 n1 Z L A=>?_⟩;obtain⟨N,R,T⟩:=h6 j k1 v1 n1 Z L A;exact⟨N.mono u,R.mono u,T⟩
    ·cases h
   ·cases h
  ·cases h
 ·cases h
theorem Zol {t e:TypeId}{d:TypeDesc}{x r:AV}{u:Value}(D:Inv W0 S H)(F:DI P t=O (d,e))(G:VRel S x u)(h:K7 x H=O r)(ty:TypeId) :
 ∃ v',(Builtin.len_ #[t] ty #[u]).run P S.w=.ok v' S.w/\VRel S r v':=by
 obtain⟨M,A,L⟩:=eH F;unfold K7 at h;split at h
 ·rename_i B y;injection h with h;subst h;obtain⟨j,z,_,C⟩:=mV D G y;rcases C with ⟨rfl,rfl⟩|⟨b,c,rfl,E⟩
  ·have:B.length=0:=by rw[<-z];rfl
   rw[this];exact⟨goInt 0,by simp[Builtin.len_,run_underlying A],.int _ _⟩
  ·rw[<-z];exact⟨goInt j.size,by simp[Builtin.len_,run_underlying A,MapKept.run_getObj_map E,Result.andThen],.int _ _⟩
 ·cases h
theorem Zud {n:Nat}(t:TypeId)(j:Inv W0 S H)(z:H[n]?=O .free):(Instr.makeMap t none).run P S.w=.ok (.map (O S.w.heap.size)) (S.obj n (.map #[] 0)).w/\Ext S (S.obj n (.map #[] 0))/\Inv W0 (S.obj n (.map #[] 0)) (H.set n (.map [] 0))/\VRel (S.obj n (.map #[] 0)) (.map n) (.map (O S.w.heap.size)):=by
 have h:=j.objs n _ z;have u:=Ext.objAt j h.1 (.map #[] 0);have y:n<H.length:=Zq z;refine⟨by simp[Instr.makeMap];rfl,u,j.objAt h.1 (x:=.map [] 0) (by simp[y]) (λm A=>by rw[zC (Ne.symm A)]) dh ⟨S.w.heap.size,#[],X4 S _ _,j.size,NY S _ _,rfl,λi B=>?_,dh⟩,.map _ _ (X4 S _ _)⟩;exact absurd (j.puball _ i B) (zL _)
theorem ZlE (t:TypeId)(h:Inv W0 S H):(Instr.makeMap t none).run P S.w=.ok (.map (O S.w.heap.size)) (S.obj H.length (.map #[] 0)).w/\Inv W0 (S.obj H.length (.map #[] 0)) (H++[.map [] 0])/\VRel (S.obj H.length (.map #[] 0)) (.map H.length) (.map (O S.w.heap.size)):=by
 refine⟨by simp[Instr.makeMap];rfl,h.obj ⟨S.w.heap.size,#[],X4 S _ _,h.size,NY S _ _,rfl,λi j=>?_,dh⟩,.map _ _ (X4 S _ _)⟩;exact absurd (h.puball _ i j) (zL _)
end
end Go.Am
