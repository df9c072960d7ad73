/- THE ABSTRACT MACHINE -/
import Derived.Test.YtjmhpjoedfegkaaGreatDoorHmAx
open Option renaming some->N,none->Z
open Bool renaming true->Q
open List renaming length->O
abbrev du:=List Go.Am.AV
open List renaming mem_of_getElem?->zA,getElem?_append_left->zB,getElem?_eq_getElem->zC,getElem?_eq_none->zE,getElem?_append_right->zF,getElem?_take_of_lt->zI,getElem?_of_mem->zL,getElem?_drop->zN,getElem?_set_ne->zT,all_eq_true->zY,length_take->zZ,getElem?_toArray->yD,replicate->yE,mem_of_mem_drop->yF,length_append->yH,length_nil->yK,range->yP
open Nat renaming not_lt_zero->zG,lt_or_ge->zH,mul_le_mul_right->zO,succ_mul->zQ,succ_le_of_lt->zS,zero_add->zV,lt_succ_of_lt->zW,add_zero->yA,le_trans->yB,le_refl->yC,lt_irrefl->yG,add_comm->yI,add_assoc->yL,mul_comm->yM
open Array renaming getElem?_toList->zD,getElem?_extract->zK,length_toList->zM,getElem?_eq_getElem->zP,toArray_toList->zU
open Option.some renaming injEq->zR
open Prod.mk renaming injEq->zX
open Go.Am.AObj renaming dead->yJ
open Go.Am.AV renaming isCell->zJ,cells->yN,int->yO
namespace Go.Am
open RowKit
section
variable {P:Program}{S:Snap}{W0:World}{H:Hp}
theorem Below.setRow {B g:Nat}{a w:World}(h:Below B a w)(u:B<=g)(j:Array Value):Below B a (w.setRow g j) :=
 h.trans ⟨rfl,rfl,rfl,dh,λk y=>setRow_other _ _ _ _ b5⟩
theorem CellsRel.oneCells {l:List AV}{c:Array Value}(h:CellsRel S l c):∀ v∈c.toList,v.oneCell'=Q:=by
 intro v z;obtain⟨i,hi⟩:=zL z;rw[zD]at hi
 have u:i<O l:=by
  rw[<-h.size];rcases zH i c.size with w|w
  ·exact w
  ·rw[Array.getElem?_eq_none w]at hi;cases hi
 have y:=h.rel i l[i] v (zC u) hi;have j:(l[i]).isCell=Q:=zY.1 h.cell _ (List.getElem_mem u);generalize l[i]=a at y j;cases y <;> first|rfl|(simp[zJ]at j;done)
theorem Zrj {α:Type}{l:List α}{i:Nat}{x:α}(h:l[i]?=N x):i<O l:=by
 rcases zH i (O l) with j|j
 ·exact j
 ·rw[zE j]at h;cases h
def Snap.obj (S:Snap)(n:Nat)(o:Obj):Snap:={ S with w:=S.w.alloc o,phi:=λx=>if x=n then N S.w.heap.size else S.phi x }
theorem Ext.objAt (j:Inv W0 S H){n:Nat}(u:S.phi n=Z)(o:Obj):Ext S (S.obj n o):=by
 refine⟨⟨λx b h=>?_,λb i h=>⟨h,World.cell?_alloc_lt _ _ _ (j.puball b i h)⟩,λ_ e b hw sz h=>⟨e,b,hw,sz,h,yC _,λ_=>⟨rfl,rfl,rfl⟩⟩⟩,rfl,λ_ _ h _=>h⟩;show (if x=n then _ else _)=_;rw[if_neg]
 ·exact h
 ·rintro rfl
  rw[u]at h;cases h
theorem Ext.obj (h:Inv W0 S H)(o:Obj):Ext S (S.obj (O H) o):=Ext.objAt h (h.past _ (yC _)).1 o
theorem X4 (S:Snap)(n:Nat)(o:Obj):(S.obj n o).phi n=N S.w.heap.size:=by simp[Snap.obj]
theorem QL {n x:Nat}{o:Obj}(h:x≠n):(S.obj n o).phi x=S.phi x:=by simp[Snap.obj,h]
theorem NY (S:Snap)(n:Nat)(o:Obj):(S.obj n o).w.heap[S.w.heap.size]?=N o:=heap_alloc_new S.w o
theorem Inv.objAt (u:Inv W0 S H){n0:Nat}{H':Hp}{o:Obj}{x:AObj}(R:S.phi n0=Z)(G:H'[n0]?=N x)(M:∀ m,m≠n0->H'[m]?=H[m]?)(hl:O H<=O H')(T:ORel (S.obj n0 o) W0.heap.size n0 x):Inv W0 (S.obj n0 o) H':=by
 have E:=Ext.objAt u R o
 have aa:n0<O H':=by
  rcases zH n0 (O H') with K|K
  ·exact K
  ·rw[zE K]at G;cases G
 refine⟨u.below.alloc u.size o,λn y h=>?_,λn G=>?_,λI F b A B C D=>?_,u.tinj,λt e b hw sz n ht=>?_,λb i h=>?_,λn b h=>?_,λt e b hw sz h=>?_,u.lim⟩
 ·by_cases j:n=n0
  ·subst j;rw[G]at h;injection h with h;subst h;exact T
  ·rw[M n j]at h;exact (u.objs n y h).frame E (λb _ L=>⟨Below.heap_alloc S.w o b L,λi R=>R⟩) rfl (QL j)
 ·obtain⟨p,q⟩:=u.past n b5;exact⟨by rw[QL b5];exact p,q⟩
 ·have old:∀ x,x≠n0->(S.obj n0 o).phi x=N b->b<S.w.heap.size:=λx T h=>by rw[QL T]at h;exact u.dom x b h
  by_cases j:I=n0
  ·by_cases z:F=n0
   ·rw[j,z]
   ·rw[j,X4]at A;injection A with A;have:=old F z B;omega
  ·by_cases z:F=n0
   ·rw[z,X4]at B;injection B with B;have:=old I j A;omega
   ·rw[M I j]at C;rw[M F z]at D;rw[QL j]at A;rw[QL z]at B;exact u.inj I F b A B C D
 ·by_cases j:n=n0
  ·rw[j,X4];have:=u.tdom t e b hw sz ht;intro hc;injection hc with hc;omega
  ·rw[QL j];exact u.apart t e b hw sz n ht
 ·show b<(S.w.alloc o).heap.size;rw[World.size_alloc];exact zW (u.puball b i h)
 ·show b<(S.w.alloc o).heap.size;rw[World.size_alloc];by_cases j:n=n0
  ·rw[j,X4]at h;injection h with h;omega
  ·rw[QL j]at h;exact zW (u.dom n b h)
 ·show b<(S.w.alloc o).heap.size;rw[World.size_alloc];exact zW (u.tdom t e b hw sz h)
theorem Inv.obj (u:Inv W0 S H){o:Obj}{x:AObj}(w:ORel (S.obj (O H) o) W0.heap.size (O H) x):Inv W0 (S.obj (O H) o) (H++[x]):=by
 refine Inv.objAt u (u.past _ (yC _)).1 dh (λm y=>?_) dh w;rcases zH m (O H) with j|h
 ·rw[zB j]
 ·rw[zE h,zE (by simp;omega)]
theorem Inv.resv (j:Inv W0 S H)(n:Nat):Inv W0 S (H++yE n .free):=by
 have get:∀ m,O H<=m->(H++yE n AObj.free)[m]?=Z\/(H++yE n AObj.free)[m]?=N .free:=λm B=>by
  rw[zF B,List.getElem?_replicate];split
  ·exact .inr rfl
  ·exact .inl rfl
 refine⟨j.below,λo x h=>?_,λo h=>j.past o (by simp at h;omega),λo o' b h u A w=>?_,j.tinj,j.apart,j.puball,j.dom,j.tdom,j.lim⟩
 ·rcases zH o (O H) with z|y
  ·rw[zB z]at h;exact j.objs o x h
  ·rcases get o y with g|g
   ·rw[g]at h;cases h
   ·rw[g]at h;injection h with h;subst h;exact j.past o y
 ·have lt:∀ o b,S.phi o=N b->o<O H:=λo b h=>by
   rcases zH o (O H) with u|u
   ·exact u
   ·rw[(j.past o u).1]at h;cases h
  rw[zB (lt o b h)]at A;rw[zB (lt o' b u)]at w;exact j.inj o o' b h u A w
theorem Ak {l:List AV}{c:Array Value}(j:Inv W0 S H)(u:CellsRel S l c)(el:TypeId) :
 (newRow el c).run P S.w=.ok ⟨S.w.heap.size,0,Z⟩ (S.obj (O H) (.cells c el)).w/\Inv W0 (S.obj (O H) (.cells c el)) (H++[.cells l])/\(S.obj (O H) (.cells c el)).phi (O H)=N S.w.heap.size:=by
 have h:=Ext.obj j (.cells c el);refine⟨by simp[newRow];rfl,j.obj ⟨S.w.heap.size,c,el,X4 S _ _,j.size,NY S _ _,u.size,λi x v hi z=>(u.rel i x v hi z).mono h,λi y=>?_,u.cell⟩,X4 S _ _⟩;exact absurd (j.puball _ i y) (yG _)
theorem Znn {T u:TypeId}{c:Array Value}(j:Inv W0 S H)(z:c=#[.pointer Z,.slice Z 0 0])(y:T≠u) :
 (newRow T c).run P S.w=.ok ⟨S.w.heap.size,0,Z⟩ (S.obj (O H) (.cells c T)).w/\Inv W0 (S.obj (O H) (.cells c T)) (H++[.bld T u []])/\(S.obj (O H) (.cells c T)).phi (O H)=N S.w.heap.size:=by
 subst z;refine⟨by simp[newRow];rfl,j.obj ⟨S.w.heap.size,X4 S _ _,.inl ⟨j.size,.slice Z 0 0,NY S _ _,World.ownsRowF_nil _ _ _ _,by simp[Value.ownBlock]⟩,y,λi B=>?_,λv g h A=>?_⟩,X4 S _ _⟩
 ·exact absurd (j.puball _ i B) (yG _)
 ·have:=NY S (O H) (.cells #[.pointer Z,.slice Z 0 0] T);rw[Lib.cell_of_heap this]at h;injection h with h;subst h;simp[Value.ownBlock]at A
theorem ZkM {n:Nat}{l:List AV}{c:Array Value}(u:Inv W0 S H)(B:H[n]?=N .free)(z:CellsRel S l c)(el:TypeId) :
 (newRow el c).run P S.w=.ok ⟨S.w.heap.size,0,Z⟩ (S.obj n (.cells c el)).w/\Ext S (S.obj n (.cells c el))/\Inv W0 (S.obj n (.cells c el)) (H.set n (.cells l))/\(S.obj n (.cells c el)).phi n=N S.w.heap.size:=by
 have h:=u.objs n _ B;have j:=Ext.objAt u h.1 (.cells c el)
 have A:n<O H:=by
  rcases zH n (O H) with y|y
  ·exact y
  ·rw[zE y]at B;cases B
 refine⟨by simp[newRow];rfl,j,u.objAt h.1 (x:=.cells l) (by simp[A]) (λm C=>by rw[zT (Ne.symm C)]) dh ⟨S.w.heap.size,c,el,X4 S _ _,u.size,NY S _ _,z.size,λi x v hi E=>(z.rel i x v hi E).mono j,λi D=>?_,z.cell⟩,X4 S _ _⟩;exact absurd (u.puball _ i D) (yG _)
theorem Ro (P:Program)(g o:Nat)(t:TypeId)(fz:Nat×Nat):∀ (vs:List Value) (i:Nat) (cur:Array Value) (w:World),w.heap[g]?=N (.cells cur t fz)->ZpX cur.size fz->o+i+O vs<=cur.size->(∀ v∈vs,v.oneCell'=Q) ->
 (storeCells ⟨g,o,Z⟩ vs i).run P w=.ok () (w.setRow g (cur.toList.take (o+i)++vs++cur.toList.drop (o+i+O vs)).toArray):=by
 intro vs
 induction vs with
 |nil =>
  intro i cur w j A y z;simp only[storeCells,List.append_nil,yK,yA,List.take_append_drop,zU];rw[setRow_self w g cur t fz j];rfl
 |cons v rest E =>
  intro i cur w j A y z;have hi:o+i<cur.size:=by simp at y;omega
  have h:w.cell? ⟨g,o+i,Z⟩=N cur[o+i]:=by simp[World.cell?,j,hi]
  have u:w.frozen? ⟨g,o+i,Z⟩=false:=by
   have:=A (o+i) hi;obtain⟨lo,C⟩:=fz;simp only[World.frozen?,j,Bool.and_eq_false_iff,decide_eq_false_iff_not];simp only at this;omega
  have B:(store ((⟨g,o,Z⟩:Addr).add i) v).run P w=.ok () (w.setRow g (cur.setIfInBounds (o+i) v)):=by
   rw[YP,run_store P w _ v _ (z v dh),h];simp[u,setCell_eq_setRow w g (o+i) cur t fz v j]
  have:=E (i+1) (cur.setIfInBounds (o+i) v) (w.setRow g (cur.setIfInBounds (o+i) v)) (setRow_heap w g cur _ t _ j) (by simpa using A) (by simp at y ⊢;omega) (λx D=>z x (by simp[D]));simp only[storeCells,Sem.run_bind,B,Result.andThen_ok,this,setRow_setRow];congr 3;have e:=list_seg_step cur.toList (o+i) v rest (by simp at y ⊢;omega);simpa[Array.toList_setIfInBounds,yL]using e
theorem Ext.write {b:Nat}(j:∀ i,¬ S.pub b i)(c':Array Value):Ext S { S with w:=S.w.setRow b c' } :=
 ⟨⟨λ_ _ h=>h,λb' i h=>⟨h,cell_setRow_other _ _ _ _ (by rintro rfl;exact j i h)⟩,λ_ e b hw sz h=>⟨e,b,hw,sz,h,yC _,λ_=>⟨rfl,rfl,rfl⟩⟩⟩,rfl,λ_ _ h _=>h⟩
theorem Inv.writeG (j:Inv W0 S H){o b:Nat}{x y:AObj}{c':Array Value}(F:H[o]?=N x)(B:S.phi o=N b\/∃ e hw sz,S.tk o=N (e,b,hw,sz))(hB:W0.heap.size<=b)(E:x≠.dead)
 (L:∀ i,¬ S.pub b i) (hr:ORel { S with w:=S.w.setRow b c' } W0.heap.size o y):Inv W0 { S with w:=S.w.setRow b c' } (H.set o y):=by
 have C:=Ext.write L c'
 have D:o<O H:=by
  rcases zH o (O H) with G|G
  ·exact G
  ·rw[zE G]at F;cases F
 have A:∀ n:Nat,(H.set o y)[n]?≠N yJ->H[n]?≠N yJ:=λn h=>by
  by_cases e:o=n
  ·subst e;rw[F];simpa using E
  ·rwa [zT e]at h
 refine⟨Below.setRow j.below hB c',λn z h=>?_,λn hn=>j.past n (by simpa using hn),λo1 o2 b h1 h2 I K=>j.inj o1 o2 b h1 h2 (A _ I) (A _ K),j.tinj,j.apart,λb' i h=>?_,λn b' h=>?_,λt e b' hw sz h=>?_,j.lim⟩
 ·by_cases e:o=n
  ·subst e;simp[D]at h;subst h;exact hr
  ·rw[zT e]at h
   cases z with
   |dead=>trivial
   |_ =>
    refine (j.objs n _ h).frame C (λb' u aa=>⟨setRow_other _ _ _ _ ?_,λi L=>L⟩) rfl rfl
    rintro rfl
    rcases B with B|⟨e1,R,T,B⟩
    ·rcases u with u|⟨e',hw,sz,M⟩
     ·exact e (j.inj o n b' B u (by rw[F];simpa using E) (by rw[h];simp))
     ·exact j.apart n e' b' hw sz o M B
    ·rcases u with u|⟨e',hw,sz,M⟩
     ·exact j.apart o e1 b' R T n B u
     ·exact e (j.tinj _ _ _ _ _ _ _ _ _ B M)
 ·simpa using j.puball b' i h
 ·simpa using j.dom n b' h
 ·simpa using j.tdom t e b' hw sz h
theorem Inv.write (A:Inv W0 S H){o b:Nat}{l z:List AV}{c c':Array Value}{el:TypeId}(C:H[o]?=N (.cells l))(u:S.phi o=N b)(j:W0.heap.size<=b)
 (B:S.w.heap[b]?=N (.cells c el (0,0))) (y:∀ i,¬ S.pub b i) (h:CellsRel { S with w:=S.w.setRow b c' } z c'):Inv W0 { S with w:=S.w.setRow b c' } (H.set o (.cells z)) :=
 A.writeG C (.inl u) j dh y ⟨b,c',el,u,j,setRow_heap S.w b c c' el (0,0) B,h.size,h.rel,y,h.cell⟩
theorem ZnQ {t:TypeId}{g:Bool}{sz off b:Nat}{l:List AV}{c:Array Value}{el:TypeId}{fz:Nat×Nat}{v:AV}(E:XD P t=N g)(F:Xt P t=N sz)(C:S.w.heap[b]?=N (.cells c el fz))(G:O l<=c.size)
 (D:∀ (i:Nat) (x:AV) (v:Value),l[i]?=N x->c[i]?=N v->VRel S x v) (B:l.all zJ=Q) (h:apart g sz l off=N v) :
 ∃ v',(loadVar t ⟨b,off,Z⟩).run P S.w=.ok v' S.w/\VRel S v v':=by
 have j:apart g sz (l.drop off) 0=N v:=by
  unfold apart at h ⊢
  cases g with
  |true =>
   simp only[if_true]at h ⊢;split at h
   ·rename_i I;rw[if_pos (by simp;omega)];simpa using h
   ·cases h
  |false=>simpa using h
 exact LX (P:=P) (S:=S) (t:=t) (off:=off) (b:=b) (l:=l.drop off) (f:=λi=>c.getD (i+off) undef) E F
  (λi hi=>by
   have y:i+off<c.size:=by simp at hi;omega
   rw[cell_of_row S.w b _ c el fz C];simp[y])
  (λi x u=>by
   rw[zN]at u
   have y:off+i<O l:=by
    rcases zH (off+i) (O l) with A|A
    ·exact A
    ·rw[zE A]at u;cases u
   have z:i+off<c.size:=b5
   refine D (off+i) x _ u ?_;rw[yI off i];simp[z]) (by rw[zY]at B ⊢;exact λx u=>B x (yF u)) j
theorem Zeo {t:TypeId}{g:Bool}{sz:Nat}{a v:AV}{u:Value}(R:Inv W0 S H)(D:XD P t=N g)(F:Xt P t=N sz)(C:VRel S a u)(h:Z4 g sz a H=N v) :
 ∃ v' I,u=.pointer (N I)/\(loadVar t I).run P S.w=.ok v' S.w/\VRel S v v':=by
 unfold Z4 at h;split at h
 ·rename_i o off;split at h
  ·rename_i l E;cases C with|ptr _ _ b hb =>
   obtain⟨b',c,el,j,A,B,h4,K,L,M⟩:=R.objs o _ E;rw[hb]at j;injection j with j;subst j;obtain⟨v',y,z⟩:=ZnQ (P:=P) D F B b5 K M h;exact⟨v',_,rfl,y,z⟩
  ·cases h
 ·rename_i cells;cases C with|vp _ b off f h0 j A =>
  obtain⟨v',y,z⟩:=LX (P:=P) (S:=S) (t:=t) (off:=off) (b:=b) (f:=f) D F (λi hi=>by rw[yI];exact (j i hi).1) A h0 h;exact⟨v',_,rfl,y,z⟩
 ·rename_i o e off;split at h
  ·rename_i e' l E;split at h
   ·rename_i he;subst he;cases C with|wp _ _ _ b hb =>
    obtain⟨e0,T,hw0,ab,G,q2,q3⟩:=hb;obtain⟨b',aa,c,el,fz,j,A,B,h4,K,L,M,h8,h9⟩:=R.objs o _ E;rw[j]at G;simp only[zR,zX]at G;obtain⟨r1,r2,r3,r4⟩:=G;obtain rfl:b=T:=q3 r1;subst r2;obtain⟨v',y,z⟩:=ZnQ (P:=P) D F B b5 L h8 h;exact⟨v',_,rfl,y,z⟩
   ·cases h
  ·cases h
 ·cases h
theorem Uk (off:Nat)(j cur:Array Value)(h:off+j.size<=cur.size) :
 j.zipIdx.foldl (λ(a:Array Value) (p:Value×Nat)=>a.setIfInBounds (off+p.2) p.1) cur=(cur.toList.take off++j.toList++cur.toList.drop (off+O j.toList)).toArray:=by
 apply Array.ext_getElem?;intro i;rw[<-Array.foldl_toList,Array.toList_zipIdx,Zn3];simp only[yA,yD,zM,Nat.sub_zero,zD];by_cases u:i<off
 ·rw[if_neg b5,zB (by simp;omega),zB (by simp;omega),zI u,zD]
 ·by_cases w:i<off+j.size
  ·rw[if_pos b5,zB (by simp;omega),zF (by simp;omega)];simp only[zZ,zM,zD];congr 1;omega
  ·rw[if_neg b5,zF (by simp;omega),zN,zD];simp only[yH,zZ,zM];congr 1;omega
theorem Zmt {t:TypeId}{sz:Nat}{a v:AV}{u x:Value}{H':Hp}(hI:Inv W0 S H)(hs:Xt P t=N sz)(ha:VRel S a u)(B:VRel S v x)(h:YE sz a v H=N H') :
 ∃ ad S',u=.pointer (N ad)/\(storeVar t ad x).run P S.w=.ok () S'.w/\Ext S S'/\Inv W0 S' H':=by
 unfold YE at h;split at h
 ·rename_i o off;split at h
  ·rename_i l R;split at h
   ·rename_i hc;obtain⟨C,E,aa⟩:=hc;injection h with h;subst h;cases ha with|ptr _ _ b hb =>
    obtain⟨b',c,el,A,T,I,h4,h5,K,G⟩:=hI.objs o _ R;rw[hb]at A;injection A with A;subst A;have j:=B.cells C;have F:x.cells.size=sz:=by rw[j.size,E]
    have z:=run_storeCells_at P b off el x.cells.toList 0 c S.w I (by simp;omega) j.oneCells;rw[yA,<-Uk off x.cells c b5]at z;refine⟨_,{ S with w:=S.w.setRow b _ },rfl,by simp only[storeVar,Sem.run_bind,Xa hs,Result.andThen_ok];rw[if_neg (by simp[F])];exact z,Ext.write K _,?_⟩;refine hI.write R hb T I K ?_;exact (CellsRel.splice (S:=S) ⟨h4,h5,G⟩ j b5).mono (Ext.write K _)
   ·cases h
  ·cases h
 ·rename_i o e off;split at h
  ·rename_i e' l R;split at h
   ·rename_i hc;obtain⟨rfl,C,E,aa⟩:=hc;injection h with h;subst h;cases ha with|wp _ _ _ b hb =>
    obtain⟨e0,b0,hw0,ah,q1,q2,q3⟩:=hb;obtain⟨b',ae,c,el,fz,A,T,I,h4,h5,K,G,h8,h9⟩:=hI.objs o _ R;have ag:=q1;rw[A]at q1;simp only[zR,zX]at q1;obtain⟨r1,r2,r3,r4⟩:=q1;obtain rfl:b=b0:=q3 r1;subst r2;have j:=B.cells C;have F:x.cells.size=sz:=by rw[j.size,E]
    have z:=Ro P b' off el fz x.cells.toList 0 c S.w I h9 (by simp;omega) j.oneCells;rw[yA,<-Uk off x.cells c b5]at z;refine⟨_,{ S with w:=S.w.setRow b' _ },rfl,by simp only[storeVar,Sem.run_bind,Xa hs,Result.andThen_ok];rw[if_neg (by simp[F])];exact z,Ext.write G _,?_⟩
    have L:CellsRel S l (c.extract 0 (O l)):=by
     refine⟨by simp;omega,λi x v hi B=>?_,h8⟩;rw[zK]at B;split at B
     ·rw[zV]at B;exact K i x v hi B
     ·cases B
    have ac:=Ext.write G (x.cells.zipIdx.foldl (λ(a:Array Value) (p:Value×Nat)=>a.setIfInBounds (off+p.2) p.1) c)
    have M:(x.cells.zipIdx.foldl (λ(a:Array Value) (p:Value×Nat)=>a.setIfInBounds (off+p.2) p.1) c).size=c.size:=by
     rw[Uk off x.cells c b5];simp;omega
    have D:(splice l off v.cells).length=O l:=by unfold splice;simp;omega
    refine hI.writeG R (.inr ⟨_,_,_,A⟩) T dh G ⟨b',ae,_,el,fz,by rw[D];exact A,T,setRow_heap S.w b' c _ el fz I,by rw[M];exact h4,by rw[D];exact h5,λi y u hy hu=>?_,G,?_,by rw[M];exact h9⟩
    ·have ab:=CellsRel.splice (S:=S) (off:=off) L j b5;refine (ab.rel i y u hy ?_).mono ac;have af:i<O l:=by rw[<-D];exact Zrj hy
     rw[<-hu];rw[Uk off x.cells c b5,Uk off x.cells (c.extract 0 (O l)) (by simp;omega)];simp only[yD];by_cases g1:i<off
     ·rw[zB (by simp;omega),zB (by simp;omega),zB (by simp;omega),zB (by simp;omega),zI g1,zI g1,zD,zD,zK];simp;omega
     ·by_cases g2:i<off+x.cells.size
      ·rw[zB (by simp;omega),zF (by simp;omega),zB (by simp;omega),zF (by simp;omega)];congr 1;simp;omega
      ·rw[zF (by simp;omega),zF (by simp;omega),zN,zN,zD,zD,zK];simp only[yH,zZ,zM,Array.size_extract];rw[if_pos b5];congr 1;omega
    ·exact (CellsRel.splice (S:=S) (off:=off) L j b5).cell
   ·cases h
  ·cases h
 ·cases h
end
section
variable {P:Program}{S:Snap}{W0:World}{H:Hp}
theorem cell_of_heap {w w':World}(h:w'.heap=w.heap)(a:Addr):w'.cell? a=w.cell? a:=by unfold World.cell?;rw[h]
theorem aV (a b:List AV):flat (a++b)=flat a++flat b:=by simp[flat]
theorem ZbS {x:AV}(h:x.isCell=Q):x.cells=[x]:=by
 cases x <;> first|rfl|(simp[zJ]at h;done)
theorem ZfK {l:List AV}(h:l.all zJ=Q)(k:Nat):(l.drop k).all zJ=Q:=by
 rw[zY]at h ⊢;exact λx j=>h x (yF j)
theorem Mw {ag:Bool}{k:Nat}(u:ag=Q\/k=1):∀ (n:Nat) (l:List AV),l.all zJ=Q->n*k<=O l->flat (Vr ag k n l)=l.take (n*k)/\(∀ e∈Vr ag k n l,O e.cells=k)/\(Vr ag k n l).length=n:=by
 intro n
 induction n with
 |zero=>intro l _ _;simp[Vr,flat]
 |succ n G =>
  intro l y z;have F:n*k+k<=O l:=by rw[zQ]at z;exact z
  obtain⟨A,B,C⟩:=G (l.drop k) (ZfK y k) (by simp;omega);have E:∀ (a:AV) (r:List AV),flat (a::r)=a.cells++flat r:=λa r=>by simp[flat]
  have j:(if ag then AV.agg (l.take k) else l.headD .undef).cells=l.take k:=by
   cases ag with
   |true=>rfl
   |false =>
    rcases u with h|rfl
    ·cases h
    ·cases l with
     |nil=>simp at F
     |cons a l =>
      have D:a.isCell=Q:=Zib y (i:=0) rfl;simp[ZbS D]
  unfold Vr;refine⟨?_,λe w=>?_,by simp[C]⟩
  ·rw[E,A,j,zQ,yI,List.take_add]
  ·rcases List.mem_cons.1 w with rfl|w
   ·rw[j];simp;omega
   ·exact B e w
theorem G3 {k:Nat}{x:AV}{u:Value}{xs:List AV}(hI:Inv W0 S H)(hk:0<k)(hx:VRel S x u)(h:elems k x H=N xs) :
 (∀ e∈xs,O e.cells=k)/\(∀ w:World,(Builtin.lenOf u).run P w=.ok (O xs) w) /\
 ∃ news:Array Value,CellsRel S (flat xs) news/\∀ w:World,w.heap=S.w.heap->(Builtin.firstCells k (O xs) u).run P w=.ok news w:=by
 unfold elems at h;split at h
 ·injection h with h;subst h;cases hx with|nils =>
  exact⟨dh,λw=>rfl,#[],⟨rfl,by simp[flat],rfl⟩,λw _=>rfl⟩
 ·split at h
  ·rename_i k' tok l A;obtain rfl:k=k':=A.symm;injection h with h;subst h;cases hx with|vs _ _ _ b off cap f hcap hke E h2 ht sp hsp =>
   by_cases aa:l=[]
   ·subst aa;refine⟨dh,λw=>rfl,#[],⟨rfl,by simp[flat],rfl⟩,λw _=>?_⟩;simp only[Builtin.firstCells,yK,Nat.zero_mul];rfl
   obtain rfl:sp=Z:=hsp.resolve_right (by have:=List.length_pos_iff.2 aa;omega);have z:∀ e∈l,O e.cells=k:=λe D=>(hke e D).1
   have M:∀ n,n<O l*k->n / k<O l/\n % k<k/\n / k*k+n % k=n:=λn hn =>
    ⟨Nat.div_lt_of_lt_mul (by rwa [yM]),Nat.mod_lt _ hk,by rw[yM];exact Nat.div_add_mod n k⟩
   refine⟨z,λw=>rfl,((yP (O l*k)).map λn=>f (n / k) (n % k)).toArray,⟨by simp[Yf z],λi x v hi y=>?_,IQ λe D=>(hke e D).2⟩,λw hw=>?_⟩
   ·have T:i<O l*k:=by
     rcases zH i (O l*k) with h'|h'
     ·exact h'
     ·rw[zE (by rw[Yf z];exact h')]at hi;cases hi
    obtain⟨K,p2,p3⟩:=M i T;simp[T]at y;subst y;rw[<-p3,Kh z _ _ l[i / k] (zC K) p2]at hi;exact h2 _ _ _ _ (zC K) hi
   ·simp only[Builtin.firstCells]
    exact run_loadCells w _ _ _ (λn hn=>by
     obtain⟨K,p2,p3⟩:=M n hn;rw[cell_of_heap hw,YP];have:=(E _ _ K p2).1
     rwa [yL,p3]at this)
  ·cases h
 ·split at h
  ·rename_i s A;subst A;injection h with h;subst h;cases hx with|str _ b F =>
   subst F
   have R:flat (b.data.toList.map λb=>yO .u8 (b.toNat:Int))=b.data.toList.map λb=>yO .u8 (b.toNat:Int):=by
    unfold flat;rw[List.map_map];show (b.data.toList.map λb=>[yO .u8 (b.toNat:Int)]).flatten=_
    induction b.data.toList with
    |nil=>rfl
    |cons a l ih=>simp[ih]
   have z:(b.data.toList.map λb=>yO .u8 (b.toNat:Int)).length=b.size:=by rw[List.length_map];exact W8 b
   refine⟨λe D=>by simp at D;obtain⟨a,_,rfl⟩:=D;rfl,λw=>by rw[z];rfl,b.data.map λb=>.int .u8 b.toNat,⟨by rw[R];simp,λi x v hi y=>?_,IQ λe D=>by simp at D;obtain⟨a,_,rfl⟩:=D;rfl⟩,λw _=>?_⟩
   ·rw[R,List.getElem?_map,zD]at hi;rw[Array.getElem?_map]at y
    cases F:b.data[i]? with
    |none=>simp[F]at hi
    |some c=>simp[F]at hi y;subst hi y;exact .int _ _
   ·rw[z];simp only[Builtin.firstCells,Sem.run_pure];congr 1;congr 1;rw[ByteArray.data_extract];show b.data.extract 0 b.data.size=b.data;simp
  ·cases h
 ·split at h
  ·rename_i ag k' o off len cap hc;obtain⟨A,G⟩:=hc;obtain rfl:k=k':=A.symm;split at h
   ·rename_i B ho;split at h
    ·rename_i C;injection h with h;subst h;cases hx with|rs _ _ _ _ _ _ b F hlc =>
     obtain⟨b',c,el,E,h2,h3,h4,h5,h6,h7⟩:=hI.objs o _ ho;rw[F]at E;injection E with E;subst E;obtain⟨f1,f2,L⟩:=Mw G len (B.drop off) (ZfK h7 off) (by simp;omega);have hr:CellsRel S ((B.drop off).take (len*k)) (c.extract off (off+len*k)):=CellsRel.extract ⟨h4,h5,h7⟩ off (len*k) C;refine⟨f2,λw=>by rw[L];rfl,c.extract off (off+len*k),by rw[f1];exact hr,λw hw=>?_⟩;rw[L];simp only[Builtin.firstCells]
     have hl:=run_loadCells_list (P:=P) w ⟨b,off,Z⟩ (c.extract off (off+len*k)).toList (λj v y=>by
      rw[cell_of_heap hw,YP,cell_of_row S.w b _ c el (0,0) h3];rw[zD,zK]at y;split at y
      ·exact y
      ·cases y)
     have I:(c.extract off (off+len*k)).toList.length=len*k:=by rw[zM,hr.size];simp;omega
     rw[I,zU]at hl;exact hl
    ·cases h
   ·cases h
  ·cases h
 ·split at h
  ·rename_i ag k' o e len hc;obtain⟨A,G⟩:=hc;obtain rfl:k=k':=A.symm;split at h
   ·rename_i e' B ho;split at h
    ·rename_i C;obtain⟨rfl,C⟩:=C;injection h with h;subst h;cases hx with|ws _ _ _ _ _ cap b F hlc =>
     obtain⟨e0,b0,hw0,ad,q1,q2,q3⟩:=F;obtain⟨b',ac,c,el,fz,E,h2,h3,h4,h5,h6,h7,h8,h9⟩:=hI.objs o _ ho;rw[E]at q1;simp only[zR,zX]at q1;obtain⟨r1,r2,r3,r4⟩:=q1;obtain⟨K,p2,p3⟩:=q3 r1;obtain rfl:b=b':=K.trans r2.symm;obtain⟨f1,f2,L⟩:=Mw G len B h8 C
     have ab:CellsRel S B (c.extract 0 (O B)):=by
      refine⟨by simp;omega,λi x v hi y=>?_,h8⟩;rw[zK]at y;split at y
      ·rw[zV]at y;exact h6 i x v hi y
      ·cases y
     have hr:CellsRel S ((B.drop 0).take (len*k)) ((c.extract 0 (O B)).extract 0 (0+len*k)):=CellsRel.extract ab 0 (len*k) b5;refine⟨f2,λw=>by rw[L];rfl,(c.extract 0 (O B)).extract 0 (0+len*k),by rw[f1];exact hr,λw hw=>?_⟩;rw[L];simp only[Builtin.firstCells]
     have hl:=run_loadCells_list (P:=P) w ⟨b,0,Z⟩ ((c.extract 0 (O B)).extract 0 (0+len*k)).toList (λj v y=>by
      rw[cell_of_heap hw,YP,cell_of_row S.w b _ c el fz h3];rw[zD,zK]at y;split at y
      ·rw[zK]at y;split at y
       ·rw[zV,zV]at y;rw[zV];exact y
       ·cases y
      ·cases y)
     have I:((c.extract 0 (O B)).extract 0 (0+len*k)).toList.length=len*k:=by rw[zM,hr.size];simp;omega
     rw[I,zU]at hl;exact hl
    ·cases h
   ·cases h
  ·cases h
 ·cases h
theorem ZiD {t:TypeId}{n:Nat}(h:F5 P t=N n)(w:World):∃ i,P.info? t=N i/\i.bytes=n/\(typeInfo t).run P w=.ok i w:=by
 unfold F5 at h
 cases hi:P.info? t with
 |none=>simp[hi]at h
 |some i=>simp[hi]at h;exact⟨i,rfl,h,by simp[typeInfo,hi]⟩
theorem JK {st xt ty e:TypeId}{C:TypeDesc}{k n m cap:Nat}{u:Value}{a:Addr}{news:Array Value}{w w':World}(E:P.underlying st=N (.slice e))(A:P.underlying xt=N C)(B:Xl C=Q)
 (D:Xt P e=N k) (j:(Builtin.lenOf u).run P w=.ok m w) (y:(Builtin.firstCells k m u).run P w=.ok news w) (h:n+m<=cap) (z:(storeCells (a.add (n*k)) news.toList).run P w=.ok () w') :
 (Builtin.append_ #[st,xt] ty #[.slice (N a) n cap,u]).run P w=.ok (.slice (N a) (n+m) cap) w':=by
 cases C <;> first
  |(simp[Xl]at B;done)
  |simp[Builtin.append_,run_underlying E,run_underlying A,Xa D,j,h,y,z]
theorem Sp {st xt ty e:TypeId}{A:TypeDesc}{k:Nat}{u:Value}{news:Array Value}{w:World}(C:P.underlying st=N (.slice e))(y:P.underlying xt=N A)(z:Xl A=Q)
 (B:Xt P e=N k) (h:(Builtin.lenOf u).run P w=.ok 0 w) (j:(Builtin.firstCells k 0 u).run P w=.ok news w) :
 (Builtin.append_ #[st,xt] ty #[.slice Z 0 0,u]).run P w=.ok (.slice Z 0 0) w:=by
 cases A <;> first
  |(simp[Xl]at z;done)
  |simp[Builtin.append_,run_underlying C,run_underlying y,Xa B,h,j]
theorem Oj {st xt ty e:TypeId}{I:TypeDesc}{k n m cap j:Nat}{u z:Value}{base:Option Addr}{old news:Array Value}{w:World}(ht:P.underlying st=N (.slice e))(F:P.underlying xt=N I)(G:Xl I=Q)
 (hs:Xt P e=N k) (R:F5 P e=N j) (hz:∀ w:World,(zeroValue e).run P w=.ok z w) (A:(Builtin.lenOf u).run P w=.ok m w) (y:cap<n+m) (h:(n+m)*(j+1)<=140737488355328)
 (C:(Builtin.firstCells k n (.slice base n cap)).run P w.drew=.ok old w.drew) (B:(Builtin.firstCells k m u).run P w.drew=.ok news w.drew) :
 (Builtin.append_ #[st,xt] ty #[.slice base n cap,u]).run P w =
  .ok (.slice (N ⟨w.heap.size,0,Z⟩) (n+m) (grownCap w (n+m) cap e)) (w.drew.alloc (.cells (old++news++Builtin.zeroCells z.cells (grownCap w (n+m) cap e-(n+m))) e)):=by
 obtain⟨i,hi,E,T⟩:=ZiD R w;subst E;have K:¬ (n+m<=cap):=b5
 have D:(n+m)*i.bytes<=140737488355328:=yB (Nat.mul_le_mul_left _ (Nat.le_succ _)) h;have aa:n+m<=140737488355328:=yB (Nat.le_mul_of_pos_right _ (Nat.succ_pos _)) h;have h2:=growslice_fits y D;have L:¬ (281474976710656<Builtin.nextslicecap (n+m) cap*i.bytes):=b5
 have M:¬ (9223372036854775807<((n:Int)+(m:Int))):=b5
 cases I <;> first
  |(simp[Xl]at G;done)
  |simp[Builtin.append_,run_underlying ht,run_underlying F,Xa hs,A,K,typeInfo,hi,L,M,hz,C,B,Question.forced,newRow,grownCap]
end
section
variable {S S':Snap}{W0:World}{H H':Hp}{n:Nat}
theorem Zq {α:Type}{l:List α}{i:Nat}{x:α}(h:l[i]?=N x):i<O l:=by
 rcases zH i (O l) with j|j
 ·exact j
 ·rw[zE j]at h;cases h
inductive Sc (n:Nat):AV->Prop
 |undef:Sc n .undef
 |bool (b:Bool):Sc n (.bool b)
 |int (k:IntKind) (m:Int):Sc n (.int k m)
 |str (s:dr):Sc n (.str s)
 |nilp:Sc n .nilp
 |ptr (o off:Nat) (h:o<n):Sc n (.ptr o off)
 |vp (cells:List AV) (h:∀ c∈cells,Sc n c):Sc n (.vp cells)
 |nils:Sc n .nils
 |vs (k:Nat) (tok:Tok) (l:List AV) (ht:∀ t e,tok=.own t e->t<n) (h:∀ e∈l,∀ c∈e.cells,Sc n c):Sc n (.vs k tok l)
 |rs (ag:Bool) (k o off len cap:Nat) (h:o<n):Sc n (.rs ag k o off len cap)
 |ws (ag:Bool) (k o e len:Nat) (h:o<n):Sc n (.ws ag k o e len)
 |wp (o e off:Nat) (h:o<n):Sc n (.wp o e off)
 |nilm:Sc n .nilm
 |map (o:Nat) (h:o<n):Sc n (.map o)
 |nilf:Sc n .nilf
 |fn (fn:Fn) (a b:List AV) (h1:∀ c∈a,Sc n c) (h2:∀ c∈b,Sc n c):Sc n (.fn fn a b)
 |nili:Sc n .nili
 |iface (t:TypeId) (v:AV) (h:Sc n v):Sc n (.iface t v)
 |agg (l:List AV) (h:∀ c∈l,Sc n c):Sc n (.agg l)
 |tuple (l:List AV) (h:∀ c∈l,Sc n c):Sc n (.tuple l)
theorem eI {l:List AV}{vs:Array Value}(w:vs.size=O l){p:AV->Prop}(h:∀ (i:Nat) (c:AV) (v:Value),l[i]?=N c->vs[i]?=N v->p c):∀ c∈l,p c:=by
 intro c u;obtain⟨i,hi⟩:=zL u;have j:i<vs.size:=by rw[w];exact Zq hi
 exact h i c vs[i] hi (zP j)
theorem VRel.sc (E:∀ o,n<=o->S.phi o=Z/\S.tk o=Z){a:AV}{v:Value}(h:VRel S a v):Sc n a:=by
 have lt:∀ o b,S.phi o=N b->o<n:=λo b h=>by
  rcases zH o n with w|w
  ·exact w
  ·rw[(E o w).1]at h;cases h
 have C:∀ o,S.tk o≠Z->o<n:=λo h=>by
  rcases zH o n with w|w
  ·exact w
  ·exact absurd (E o w).2 h
 induction h with
 |undef v=>exact .undef
 |bool b=>exact .bool b
 |int k m=>exact .int k m
 |str s b h=>exact .str s
 |nilp=>exact .nilp
 |ptr o off b h=>exact .ptr o off (lt o b h)
 |vp cells b off f A M R y =>
  refine .vp cells λc A=>?_;obtain⟨i,hi⟩:=zL A;exact y i c hi
 |nils=>exact .nils
 |vs k tok l b off cap f T hk M R ht sp aa y =>
  refine .vs k tok l (λt e D=>?_) λe D c A=>?_
  ·subst D;obtain⟨e0,b0,hw0,ab,q,_⟩:=ht;rcases zH t n with w|w
   ·exact w
   ·rw[(E t w).2]at q;cases q
  ·obtain⟨j,hj⟩:=zL D;obtain⟨i,hi⟩:=zL A;exact y j e i c hj hi
 |rs ag k o off len cap b h B=>exact .rs ag k o off len cap (lt o b h)
 |ws ag k o e len cap b h B=>exact .ws ag k o e len (C o (by obtain⟨_,_,_,_,q,_⟩:=h;rw[q];simp))
 |wp o e off b h=>exact .wp o e off (C o (by obtain⟨_,_,_,_,q,_⟩:=h;rw[q];simp))
 |nilm=>exact .nilm
 |map o b h=>exact .map o (lt o b h)
 |nilf=>exact .nilf
 |fn fn first z F K hF hK M R I L=>exact .fn fn _ _ (eI hF I) (eI hK L)
 |nili=>exact .nili
 |iface t v u h y=>exact .iface t v y
 |agg cells vs A G h y=>exact .agg _ (eI G y)
 |tuple l vs G h y=>exact .tuple _ (eI G y)
def Snap.back (S:Snap)(H:Hp):Snap :=
 {w:=S.w,phi:=λo=>if o<O H then S.phi o else Z,tk:=λt=>if t<O H then S.tk t else Z,lim:=S.lim,
  pub:=λb i=>S.pub b i\/(S.lim<=b/\b<S.w.heap.size/\(∀ o x,H[o]?=N x->x≠.dead->S.phi o≠N b)/\∀ t,t<O H->∀ e hw sz,S.tk t≠N (e,b,hw,sz)) }
theorem VRel.back {a:AV}{v:Value}(h:VRel S a v)(y:Sc (O H) a):VRel (S.back H) a v:=by
 have phi:∀ o b,o<O H->S.phi o=N b->(S.back H).phi o=N b:=λo b B T=>by simp[Snap.back,B,T]
 induction h with
 |undef v=>exact .undef v
 |bool b=>exact .bool b
 |int k m=>exact .int k m
 |str s b h=>exact .str s b h
 |nilp=>exact .nilp
 |ptr o off b h=>cases y with|ptr _ _ ho=>exact .ptr o off b (phi o b ho h)
 |vp cells b off f G B T A =>
  cases y with|vp _ hcs =>
  exact .vp cells b off f G (λi hi=>⟨(B i hi).1,.inl (B i hi).2⟩) λi c hi=>A i c hi (hcs c (zA hi))
 |nils=>exact .nils
 |vs k tok l b off cap f L hk B T ht sp aa A =>
  cases y with|vs _ _ _ htk hcs =>
  refine VRel.vs (S:=S.back H) k tok l b off cap f L hk (λj i hj hi=>⟨(B j i hj hi).1,.inl (B j i hj hi).2⟩) (λj e i c he G=>A j e i c he G (hcs e (zA he) c (zA G))) ?_ sp aa
  cases tok with
  |no=>trivial
  |clip=>exact ht
  |own t e =>
   obtain⟨e0,I,hw0,z,M,R⟩:=ht;exact⟨e0,I,hw0,z,by simp[Snap.back,htk t e rfl,M],R⟩
 |rs ag k o off len cap b h w=>cases y with|rs _ _ _ _ _ _ ho=>exact .rs ag k o off len cap b (phi o b ho h) w
 |ws ag k o e len cap b h w =>
  cases y with|ws _ _ _ _ _ ho =>
  obtain⟨e0,I,hw0,z,M,R⟩:=h;exact .ws ag k o e len cap b ⟨e0,I,hw0,z,by simp[Snap.back,ho,M],R⟩ w
 |wp o e off b h =>
  cases y with|wp _ _ _ ho =>
  obtain⟨e0,I,hw0,z,M,R⟩:=h;exact .wp o e off b ⟨e0,I,hw0,z,by simp[Snap.back,ho,M],R⟩
 |nilm=>exact .nilm
 |map o b h=>cases y with|map _ ho=>exact .map o b (phi o b ho h)
 |nilf=>exact .nilf
 |fn fn first E F K hF hK B T ab ac =>
  cases y with|fn _ _ _ g1 g2 =>
  exact .fn fn _ _ F K hF hK (λi c v hi D=>ab i c v hi D (g1 c (zA hi))) (λi c v hi D=>ac i c v hi D (g2 c (zA hi)))
 |nili=>exact .nili
 |iface t v u h A=>cases y with|iface _ _ g=>exact .iface t v u (A g)
 |agg cells vs G C h A=>cases y with|agg _ g=>exact .agg _ _ G C λi c v hi D=>A i c v hi D (g c (zA hi))
 |tuple l vs C h A=>cases y with|tuple _ g=>exact .tuple _ _ C λi c v hi D=>A i c v hi D (g c (zA hi))
theorem Ext.back (C:Inv W0 S H)(j:Ext S S'):Ext S (S'.back H):=by
 have lt:∀ o,(S.phi o≠Z\/S.tk o≠Z)->o<O H:=λo h=>by
  rcases zH o (O H) with u|u
  ·exact u
  ·obtain⟨p,q⟩:=C.past o u;rcases h with h|h
   ·exact absurd p h
   ·exact absurd q h
 refine⟨⟨λo b h=>?_,λb i h=>⟨.inl (j.pub b i h).1,(j.pub b i h).2⟩,λt e b hw sz h=>?_⟩,j.lim,λb i E D=>E.elim (λh=>j.old b i h D) λh=>by have:=h.1;have:=j.lim;omega⟩
 ·have:=lt o (.inl (by rw[h];simp));simp[Snap.back,this,j.phi o b h]
 ·have:=lt t (.inr (by rw[h];simp));obtain⟨z,b',w,y,A,B⟩:=j.tk t e b hw sz h;exact⟨z,b',w,y,by simp[Snap.back,this,A],B⟩
theorem Inv.back (hI:Inv W0 S H)(y:Inv W0 S' H')(ht:H'.take (O H)=H):Inv W0 (S'.back H) H:=by
 have ai:O H<=O H':=by
  have:=congrArg List.length ht;simp at this;omega
 have K:∀ o,o<O H->H'[o]?=H[o]?:=λo j=>by
  rw[<-ht,zI j]
 have phi:∀ o,o<O H->(S'.back H).phi o=S'.phi o:=λo j=>by simp[Snap.back,j]
 have tk:∀ o,o<O H->(S'.back H).tk o=S'.tk o:=λo j=>by simp[Snap.back,j]
 have A:∀ o b,(S'.back H).phi o=N b->o<O H/\S'.phi o=N b:=λo b h=>by
  by_cases j:o<O H
  ·rw[phi o j]at h;exact⟨j,h⟩
  ·simp[Snap.back,j]at h
 have G:∀ o r,(S'.back H).tk o=N r->o<O H/\S'.tk o=N r:=λo r h=>by
  by_cases j:o<O H
  ·rw[tk o j]at h;exact⟨j,h⟩
  ·simp[Snap.back,j]at h
 have F:∀ o b i x,H[o]?=N x->x≠.dead->S'.phi o=N b->(S'.back H).pub b i->S'.pub b i:=λo b i x j hx hb w=>by
  rcases w with w|⟨_,_,w,_⟩
  ·exact w
  ·exact absurd hb (w o x j hx)
 have ab:∀ o:Nat,H[o]?≠N yJ->o<O H->H'[o]?≠N yJ:=λo h j=>by rwa [K o j]
 refine⟨y.below,λo x h=>?_,λo j=>⟨by simp[Snap.back];omega,by simp[Snap.back];omega⟩,λo o' b h L hd af=>?_,λt t' e b hw sz e' aj ak h L=>?_,λt e b hw sz o h L=>?_,λb i h=>?_,λo b h=>y.dom o b (A o b h).2,λt e b hw sz h=>y.tdom t e b hw sz (G _ _ h).2,y.lim⟩
 ·have j:=Zq h;have L:H'[o]?=N x:=by rw[K o j];exact h
  have h0:=hI.objs o x h;have I:=y.objs o x L;have past:=hI.past
  cases x with
  |dead=>trivial
  |free=>exact⟨by rw[phi o j];exact I.1,by rw[tk o j];exact I.2⟩
  |cells l =>
   obtain⟨b0,c0,ad,p1,p2,p3,p4,p5,p6,p7⟩:=h0;obtain⟨b,c,el,z,B,C,D,E,q6,q7⟩:=I;refine⟨b,c,el,by rw[phi o j];exact z,B,C,D,λi x v hi R=>(E i x v hi R).back ?_,λi w=>q6 i (F o b i _ h dh z w),q7⟩;exact eI p4 (λi x v hi R=>(p5 i x v hi R).sc past) x (zA hi)
  |bld T u l =>
   obtain⟨b,z,B,C,D,E⟩:=I;refine⟨b,by rw[phi o j];exact z,B,C,λi w=>D i (F o b i _ h dh z w),λv g R hg=>?_⟩;obtain⟨⟨n,hw,sz,r1⟩,r2⟩:=E v g R hg;refine⟨⟨n,hw,sz,by rw[tk o j];exact r1⟩,λi w=>r2 i ?_⟩;rcases w with w|⟨_,_,_,w⟩
   ·exact w
   ·exact absurd r1 (w o j _ _ _)
  |row e l =>
   obtain⟨b0,al,c0,ad,ag,p1,p2,p3,p4,p5,p6,p7,p8,p9⟩:=h0;obtain⟨b,sz,c,el,fz,z,B,C,D,E,q6,q7,q8,q9⟩:=I;refine⟨b,sz,c,el,fz,by rw[tk o j];exact z,B,C,D,E,λi x v hi R=>(q6 i x v hi R).back ?_,λi w=>q7 i ?_,q8,q9⟩
   ·have ah:=Zq hi;have M:i<c0.size:=b5
    exact (p6 i x c0[i] hi (zP M)).sc past
   ·rcases w with w|⟨_,_,_,w⟩
    ·exact w
    ·exact absurd z (w o j _ _ _)
  |tok e =>
   obtain⟨b,hw,sz,c,el,fz,z,B,C,D,E,q6,q7⟩:=I;refine⟨b,hw,sz,c,el,fz,by rw[tk o j];exact z,B,C,D,E,λi hi w=>q6 i hi ?_,q7⟩;rcases w with w|⟨_,_,_,w⟩
   ·exact w
   ·exact absurd z (w o j e hw sz)
  |map es ac =>
   obtain⟨b0,aa,p1,p2,p3,p4,p5,p6⟩:=h0;obtain⟨b,ae,z,B,C,D,E,q6⟩:=I;refine⟨b,ae,by rw[phi o j];exact z,B,C,D,λi w=>E i (F o b i _ h dh z w),λi k v m e hi he=>?_⟩;obtain⟨r1,r2,r3⟩:=q6 i k v m e hi he;have M:i<aa.size:=by rw[p4];exact Zq hi
   obtain⟨s1,s2,_⟩:=p6 i k v m aa[i] hi (zP M);exact⟨r1.back (s1.sc past),r2.back (s2.sc past),r3⟩
  |siter s pos =>
   obtain⟨b,s',z,B,C,D,E⟩:=I;exact⟨b,s',by rw[phi o j];exact z,B,C,D,λi w=>E i (F o b i _ h dh z w)⟩
 ·obtain⟨g1,g2⟩:=A o b h;obtain⟨g3,g4⟩:=A o' b L;exact y.inj o o' b g2 g4 (ab o hd g1) (ab o' af g3)
 ·exact y.tinj _ _ _ _ _ _ _ _ _ (G _ _ h).2 (G _ _ L).2
 ·exact y.apart _ _ _ _ _ o (G _ _ h).2 (A o b L).2
 ·rcases h with h|⟨_,h,_⟩
  ·exact y.puball b i h
  ·exact h
theorem mT {f:Nat}{a b:AV}(h:Zk H' n f a=N b)(j:a.isCell=Q):b.isCell=Q:=by
 cases f with
 |zero=>cases h
 |succ f =>
  cases a <;> simp only[Zk]at h <;> first
   |(simp[zJ]at j;done)
   |(injection h with h;subst h;rfl)
   |(split at h <;> first|(injection h with h;subst h;rfl)|(cases h;done)|(split at h <;> first|(cases h;done)|(split at h <;> first|(cases h;done)|(injection h with h;subst h;rfl))))
theorem ZqB {f:Nat}{l:List AV}{b:AV}(h:Zk H' n (f+1) (.agg l)=N b):∃ j,b=.agg j/\l.mapM (Zk H' n f)=N j:=by
 simp only[Zk]at h;split at h
 ·injection h with h;exact⟨_,h.symm,‹_›⟩
 ·cases h
def ZiP (e:AV)(g:Nat->Value):Value :=
 match e with
 |.agg cs=>.agg ((yP (O cs)).map g).toArray
 |_=>g 0
theorem Zvl {e:AV}{g:Nat->Value}(y:e.cells.all zJ=Q)(h:∀ (i:Nat) (c:AV),e.cells[i]?=N c->VRel S e (ZiP e g)\/VRel S c (g i))(j:∀ (i:Nat) (c:AV),e.cells[i]?=N c->VRel S c (g i)):VRel S e (ZiP e g):=by
 cases e with
 |agg w =>
  refine .agg w _ y dh λi c v hi u=>?_;have:=Zq hi;simp[this]at u;subst u;exact j i c hi
 |_=>first|exact j 0 _ rfl
theorem ZqI {f:Nat}{e b:AV}{g:Nat->Value}{T:Snap}(h:Zk H' n f e=N b)(y:e.cells.all zJ=Q)(w:VRel T b (ZiP e g)) :
 O b.cells=O e.cells/\b.cells.all zJ=Q/\∀ (i:Nat) (c:AV),b.cells[i]?=N c->VRel T c (g i):=by
 have u:e.isCell=Q->e.cells=[e]->ZiP e g=g 0->O b.cells=O e.cells/\b.cells.all zJ=Q/\∀ (i:Nat) (c:AV),b.cells[i]?=N c->VRel T c (g i):=by
  intro B C D;have j:=mT h B;rw[ZbS j,C];refine⟨rfl,by simp[j],λi c hi=>?_⟩
  cases i with
  |zero=>simp at hi;subst hi;rwa [D]at w
  |succ i=>simp at hi
 cases e with
 |agg A =>
  cases f with
  |zero=>cases h
  |succ f =>
   obtain⟨F,rfl,E⟩:=ZqB h;obtain⟨z,G⟩:=JO E;simp only[ZiP]at w;cases w with|agg _ _ hb1 hb2 hb3 =>
   refine⟨by simpa[yN]using z,hb1,λi c hi=>hb3 i c (g i) hi ?_⟩;have:i<O A:=by rw[<-z];exact Zq hi
   simp[this]
 |undef=>simp[yN,zJ]at y
 |tuple l=>simp[yN,zJ]at y
 |_=>exact u rfl rfl rfl
theorem SO {f k:Nat}{l u:List AV}{T:Snap}{g:Nat->Nat->Value}(M:∀ (a b:AV) (v:Value),Zk H' n f a=N b->VRel S a v->VRel T b v)(K:l.mapM (Zk H' n f)=N u)
 (I:∀ e,e∈l->O e.cells=k/\e.cells.all zJ=Q) (D:∀ (j:Nat) (e:AV) (i:Nat) (c:AV),l[j]?=N e->e.cells[i]?=N c->VRel S c (g j i)) :
 O u=O l/\(∀ e,e∈u->O e.cells=k/\e.cells.all zJ=Q)/\∀ (j:Nat) (e:AV) (i:Nat) (c:AV),u[j]?=N e->e.cells[i]?=N c->VRel T c (g j i):=by
 obtain⟨E,R⟩:=JO K
 have key:∀ (j:Nat) (b:AV),u[j]?=N b->∃ e,l[j]?=N e/\Zk H' n f e=N b:=λj b h=>by
  have z:j<O l:=by rw[<-E];exact Zq h
  obtain⟨b',F,B⟩:=R j l[j] (zC z);rw[h]at B;injection B with B;subst B;exact⟨l[j],zC z,F⟩
 have one:∀ (j:Nat) (b:AV),u[j]?=N b->O b.cells=k/\b.cells.all zJ=Q/\∀ (i:Nat) (c:AV),b.cells[i]?=N c->VRel T c (g j i):=λj b h=>by
  obtain⟨e,y,w⟩:=key j b h;obtain⟨C,A⟩:=I e (zA y);have L:=Zvl (S:=S) (g:=g j) A (λi c hi=>.inr (D j e i c y hi)) (λi c hi=>D j e i c y hi);obtain⟨q1,q2,q3⟩:=ZqI w A (M e b _ w L);exact⟨by rw[q1,C],q2,q3⟩
 refine⟨E,λb h=>?_,λj e i c y G=>(one j e y).2.2 i c G⟩;obtain⟨j,z⟩:=zL h;exact⟨(one j b z).1,(one j b z).2.1⟩
theorem Ua {f:Nat}{l u:List AV}{T:Snap}{vs:Array Value}(D:∀ (a b:AV) (v:Value),Zk H' n f a=N b->VRel S a v->VRel T b v)(A:l.mapM (Zk H' n f)=N u)
 (B:vs.size=O l) (h:∀ (i:Nat) (c:AV) (v:Value),l[i]?=N c->vs[i]?=N v->VRel S c v) :
 vs.size=O u/\∀ (i:Nat) (c:AV) (v:Value),u[i]?=N c->vs[i]?=N v->VRel T c v:=by
 obtain⟨y,E⟩:=JO A;refine⟨by rw[B,y],λi b v w C=>?_⟩;have hi:i<O l:=by rw[<-y];exact Zq w
 obtain⟨b',z,j⟩:=E i l[i] (zC hi);rw[w]at j;injection j with j;subst j;exact D _ _ v z (h i _ v (zC hi) C)
theorem Mt {f:Nat}{l u:List AV}(z:l.mapM (Zk H' n f)=N u)(y:l.all zJ=Q):u.all zJ=Q:=by
 obtain⟨A,B⟩:=JO z;refine Zqf λi b j=>?_;have hi:i<O l:=by rw[<-A];exact Zq j
 obtain⟨b',w,h⟩:=B i l[i] (zC hi);rw[j]at h;injection h with h;subst h;exact mT w (Zib y (zC hi))
theorem HP (B:Inv W0 S H')(ht:H'.take (O H)=H):∀ (f:Nat) (a b:AV) (v:Value),Zk H' (O H) f a=N b->VRel S a v->VRel (S.back H) b v:=by
 have am:∀ o,o<O H->H'[o]?=H[o]?:=λo ho=>by
  rw[<-ht,zI ho]
 intro f
 induction f with
 |zero=>intro a b v h;cases h
 |succ f ih =>
  intro a b v h hv
  cases hv with
  |undef v=>simp only[Zk]at h;injection h with h;subst h;exact .undef v
  |bool c=>simp only[Zk]at h;injection h with h;subst h;exact .bool c
  |int k m=>simp only[Zk]at h;injection h with h;subst h;exact .int k m
  |str s c C=>simp only[Zk]at h;injection h with h;subst h;exact .str s c C
  |nilp=>simp only[Zk]at h;injection h with h;subst h;exact .nilp
  |nils=>simp only[Zk]at h;injection h with h;subst h;exact .nils
  |nilm=>simp only[Zk]at h;injection h with h;subst h;exact .nilm
  |nilf=>simp only[Zk]at h;injection h with h;subst h;exact .nilf
  |nili=>simp only[Zk]at h;injection h with h;subst h;exact .nili
  |ptr o off c C =>
   simp only[Zk]at h;split at h
   ·injection h with h;subst h;exact .ptr o off c (by simp[Snap.back, *])
   ·cases h
  |map o c C =>
   simp only[Zk]at h;split at h
   ·injection h with h;subst h;exact .map o c (by simp[Snap.back, *])
   ·cases h
  |vp cells c off g C h1 h2 =>
   simp only[Zk]at h;split at h
   ·rename_i M L;injection h with h;subst h;obtain⟨m1,m2⟩:=JO L;refine .vp M c off g (Mt L C) (λi hi=>⟨(h1 i b5).1,.inl (h1 i b5).2⟩) λi b hb=>?_;have hi:i<O cells:=by rw[<-m1];exact Zq hb
    obtain⟨b',A,G⟩:=m2 i cells[i] (zC hi);rw[hb]at G;injection G with G;subst G;exact ih _ _ _ A (h2 i _ (zC hi))
   ·cases h
  |vs k tok l c off cap g ax hk h1 h2 an sp aw =>
   simp only[Zk]at h;split at h
   ·rename_i M L;injection h with h;subst h;obtain⟨A,D,G⟩:=SO (S:=S) (g:=g) ih L hk h2;rw[<-A];refine VRel.vs (S:=S.back H) k _ M c off cap g b5 D (λj i hj hi=>⟨(h1 j i b5 hi).1,.inl (h1 j i b5 hi).2⟩) G ?_ sp aw
    cases tok with
    |no=>trivial
    |clip=>simp only[TokOk]at an ⊢;omega
    |own t e =>
     simp only;split
     ·rename_i aj;obtain⟨e0,b0,hw0,R,p1,p2⟩:=an;rw[A];exact⟨e0,b0,hw0,R,by simp[Snap.back,aj,p1],p2⟩
     ·trivial
   ·cases h
  |rs ag k o off len cap c C ab =>
   simp only[Zk]at h;split at h
   ·injection h with h;subst h;exact .rs ag k o off len cap c (by simp[Snap.back, *]) ab
   ·rename_i au;split at h
    ·rename_i l y;split at h
     ·rename_i M L;injection h with h;subst h;unfold elems at y;simp only[true_and]at y;split at y
      ·rename_i af;split at y
       ·rename_i cs ho;split at y
        ·rename_i ae;injection y with y;obtain⟨b',z,el,p1,p2,p3,p4,p5,p6,p7⟩:=B.objs o _ ho;rw[C]at p1;injection p1 with p1;subst p1;obtain⟨f1,f2,f3⟩:=Mw af len (cs.drop off) (ZfK p7 off) (by simp;omega);rw[y]at f1 f2 f3;have fc:(flat l).all zJ=Q:=by rw[f1];exact Zcx p7 off (len*k)
         obtain⟨A,D,G⟩:=SO (S:=S) (T:=S.back H) (g:=λj i=>z.getD (off+(j*k+i)) undef) ih L (λe I=>⟨f2 e I,IX fc I⟩) (λj e i x I hx=>by
          have ai:=Zq I;have ah:i<k:=by rw[<-f2 e (zA I)];exact Zq hx
          have aa:j*k+i<len*k:=by
           have:=zO k (zS ai);rw[zQ,f3]at this;omega
          have ad:=Kh f2 j i e I ah;rw[hx,f1,zI aa,zN]at ad;have:off+(j*k+i)<z.size:=b5
          refine p5 _ x _ ad ?_;simp[this])
         have ac:len=O M:=b5
         rw[ac];have E:∀ i,(S.back H).pub c i:=λi=>.inr ⟨yB B.lim p2,NN p3,λo' x hx ao hp=>?_,λt aj e hw sz ak=>?_⟩
         ·refine .vs k .no M c off cap _ b5 D (λj i hj hi=>⟨?_,E _⟩) G trivial Z (.inl rfl)
          have aa:j*k+i<len*k:=by
           have:=zO k (zS hj);rw[zQ,<-ac]at this;omega
          have:off+(j*k+i)<z.size:=b5
          show S.w.cell? _=_;rw[cell_of_row S.w c _ z el (0,0) p3,show off+j*k+i=off+(j*k+i) by omega];simp[this]
         ·have ar:=Zq hx;have:=B.inj o' o c hp C (by rw[am o' ar,hx];simp[ao]) (by rw[ho];simp);omega
         ·exact B.apart t e c hw sz o ak C
        ·cases y
       ·cases y
      ·cases y
     ·cases h
    ·cases h
  |wp o e off c C =>
   simp only[Zk]at h;split at h
   ·rename_i ho;injection h with h;subst h;obtain⟨e0,b0,hw0,R,A,D⟩:=C;exact .wp o e off c ⟨e0,b0,hw0,R,by simp[Snap.back,ho,A],D⟩
   ·cases h
  |ws ag k o e len cap c C ab =>
   simp only[Zk]at h;split at h
   ·rename_i ho;injection h with h;subst h;obtain⟨e0,b0,hw0,R,A,D⟩:=C;exact .ws ag k o e len cap c ⟨e0,b0,hw0,R,by simp[Snap.back,ho,A],D⟩ ab
   ·rename_i au;split at h
    ·rename_i l y;split at h
     ·rename_i M L;injection h with h;subst h;unfold elems at y;simp only[true_and]at y;split at y
      ·rename_i af;split at y
       ·rename_i e' cs ho;split at y
        ·rename_i ae;obtain⟨rfl,ae⟩:=ae;injection y with y;obtain⟨e0,b0,hw0,R,A,D,G⟩:=C;obtain⟨b',ay,z,el,fz,p1,p2,p3,p4,p5,p6,p7,p8,p9⟩:=B.objs o _ ho;have al:=A;rw[p1]at al;simp only[zR,zX]at al;obtain⟨u1,u2,u3,u4⟩:=al;obtain⟨w1,w2,w3⟩:=G b5;obtain rfl:c=b':=b5
         obtain⟨f1,f2,f3⟩:=Mw af len cs p8 ae;rw[y]at f1 f2 f3;have fc:(flat l).all zJ=Q:=by rw[f1];exact Zcx p8 0 (len*k)
         obtain⟨A,D,G⟩:=SO (S:=S) (T:=S.back H) (g:=λj i=>z.getD (j*k+i) undef) ih L (λe I=>⟨f2 e I,IX fc I⟩) (λj e i x I hx=>by
          have ai:=Zq I;have ah:i<k:=by rw[<-f2 e (zA I)];exact Zq hx
          have aa:j*k+i<len*k:=by
           have:=zO k (zS ai);rw[zQ,f3]at this;omega
          have ad:=Kh f2 j i e I ah;rw[hx,f1,zI aa]at ad;have:j*k+i<z.size:=b5
          refine p6 _ x _ ad ?_;simp[this])
         have ac:len=O M:=b5
         rw[ac];have E:∀ i,(S.back H).pub c i:=λi=>.inr ⟨yB B.lim p2,NN p3,λo' x hx ao hp=>?_,λt aj e hw sz ak=>?_⟩
         ·refine .vs k .no M c 0 cap _ b5 D (λj i hj hi=>⟨?_,E _⟩) G trivial Z (.inl rfl)
          have aa:j*k+i<len*k:=by
           have:=zO k (zS hj);rw[zQ,<-ac]at this;omega
          have:j*k+i<z.size:=b5
          show S.w.cell? _=_;rw[cell_of_row S.w c _ z el fz p3,show 0+j*k+i=j*k+i by omega];simp[this]
         ·exact B.apart o _ c _ _ o' p1 hp
         ·have:=B.tinj _ _ _ _ _ _ _ _ _ ak p1;omega
        ·cases y
       ·cases y
      ·cases y
     ·cases h
    ·cases h
  |fn fn a1 a2 F K hF hK h1 h2 =>
   simp only[Zk]at h;split at h
   ·rename_i l1 l2 ap aq;injection h with h;subst h;obtain⟨A,D⟩:=Ua (S:=S) ih ap hF h1;obtain⟨G,q4⟩:=Ua (S:=S) ih aq hK h2;exact .fn fn l1 l2 F K A G D q4
   ·cases h
  |iface t x u hx =>
   simp only[Zk]at h;split at h
   ·injection h with h;subst h;exact .iface t _ u (ih _ _ _ ‹_› hx)
   ·cases h
  |agg l vs C hs h1 =>
   simp only[Zk]at h;split at h
   ·rename_i M L;injection h with h;subst h;obtain⟨A,D⟩:=Ua (S:=S) ih L hs h1;exact .agg M vs (Mt L C) A D
   ·cases h
  |tuple l vs hs h1 =>
   simp only[Zk]at h;split at h
   ·rename_i M L;injection h with h;subst h;obtain⟨A,D⟩:=Ua (S:=S) ih L hs h1;exact .tuple M vs A D
   ·cases h
theorem VRel.bare {T:Snap}(hw:T.w=S.w)(hp:∀ b i,S.pub b i->T.pub b i){a:AV}{v:Value}(h:VRel S a v)(y:Sc 0 a):VRel T a v:=by
 induction h with
 |undef v=>exact .undef v
 |bool b=>exact .bool b
 |int k m=>exact .int k m
 |str s b h=>exact .str s b h
 |nilp=>exact .nilp
 |ptr o off b h=>cases y with|ptr _ _ ho=>exact absurd ho (zG _)
 |vp cells b off f E D h2 z =>
  cases y with|vp _ hcs =>
  exact .vp cells b off f E (λi hi=>⟨by rw[hw];exact (D i hi).1,hp _ _ (D i hi).2⟩) λi c hi=>z i c hi (hcs c (zA hi))
 |nils=>exact .nils
 |vs k tok l b off cap f G hk D h2 ht sp L z =>
  cases y with|vs _ _ _ htk hcs =>
  refine VRel.vs (S:=T) k tok l b off cap f G hk (λj i hj hi=>⟨by rw[hw];exact (D j i hj hi).1,hp _ _ (D j i hj hi).2⟩) (λj e i c he E=>z j e i c he E (hcs e (zA he) c (zA E))) ?_ sp L
  cases tok with
  |no=>trivial
  |clip=>exact ht
  |own t e=>exact absurd (htk t e rfl) (zG _)
 |rs ag k o off len cap b h I=>cases y with|rs _ _ _ _ _ _ ho=>exact absurd ho (zG _)
 |ws ag k o e len cap b h I=>cases y with|ws _ _ _ _ _ ho=>exact absurd ho (zG _)
 |wp o e off b h=>cases y with|wp _ _ _ ho=>exact absurd ho (zG _)
 |nilm=>exact .nilm
 |map o b h=>cases y with|map _ ho=>exact absurd ho (zG _)
 |nilf=>exact .nilf
 |fn fn first C F K hF hK D h2 M R =>
  cases y with|fn _ _ _ g1 g2 =>
  exact .fn fn _ _ F K hF hK (λi c v hi B=>M i c v hi B (g1 c (zA hi))) (λi c v hi B=>R i c v hi B (g2 c (zA hi)))
 |nili=>exact .nili
 |iface t v u h z=>cases y with|iface _ _ g=>exact .iface t v u (z g)
 |agg cells vs E A h z=>cases y with|agg _ g=>exact .agg _ _ E A λi c v hi B=>z i c v hi B (g c (zA hi))
 |tuple l vs A h z=>cases y with|tuple _ g=>exact .tuple _ _ A λi c v hi B=>z i c v hi B (g c (zA hi))
theorem Zoz {T:Snap}(hw:T.w=S.w)(hp:∀ b i,S.pub b i->T.pub b i):∀ (f:Nat) (a b:AV) (v:Value),Zk [] 0 f a=N b->VRel S a v->VRel T b v:=by
 intro f
 induction f with
 |zero=>intro a b v h;cases h
 |succ f E =>
  intro a b v h hv
  cases hv with
  |undef v=>simp only[Zk]at h;injection h with h;subst h;exact .undef v
  |bool c=>simp only[Zk]at h;injection h with h;subst h;exact .bool c
  |int k m=>simp only[Zk]at h;injection h with h;subst h;exact .int k m
  |str s c z=>simp only[Zk]at h;injection h with h;subst h;exact .str s c z
  |nilp=>simp only[Zk]at h;injection h with h;subst h;exact .nilp
  |nils=>simp only[Zk]at h;injection h with h;subst h;exact .nils
  |nilm=>simp only[Zk]at h;injection h with h;subst h;exact .nilm
  |nilf=>simp only[Zk]at h;injection h with h;subst h;exact .nilf
  |nili=>simp only[Zk]at h;injection h with h;subst h;exact .nili
  |ptr o off c z =>
   simp only[Zk]at h;split at h
   ·rename_i B;exact absurd B (zG _)
   ·cases h
  |map o c z =>
   simp only[Zk]at h;split at h
   ·rename_i B;exact absurd B (zG _)
   ·cases h
  |vp cells c off g z y L =>
   simp only[Zk]at h;split at h
   ·rename_i G A;injection h with h;subst h;obtain⟨m1,m2⟩:=JO A;refine .vp G c off g (Mt A z) (λi hi=>⟨by rw[hw];exact (y i b5).1,hp _ _ (y i b5).2⟩) λi b hb=>?_;have hi:i<O cells:=by rw[<-m1];exact Zq hb
    obtain⟨b',C,D⟩:=m2 i cells[i] (zC hi);rw[hb]at D;injection D with D;subst D;exact E _ _ _ C (L i _ (zC hi))
   ·cases h
  |vs k tok l c off cap g ae hk y L ac sp ab =>
   simp only[Zk]at h;split at h
   ·rename_i G A;injection h with h;subst h;obtain⟨C,I,D⟩:=SO (S:=S) (g:=g) E A hk L;rw[<-C];refine VRel.vs (S:=T) k _ G c off cap g b5 I (λj i hj hi=>⟨by rw[hw];exact (y j i b5 hi).1,hp _ _ (y j i b5 hi).2⟩) D ?_ sp ab
    cases tok with
    |no=>trivial
    |clip=>simp only[TokOk]at ac ⊢;omega
    |own t e =>
     simp only;split
     ·rename_i ad;exact absurd ad (zG _)
     ·trivial
   ·cases h
  |wp o e off c z =>
   simp only[Zk]at h;split at h
   ·rename_i B;exact absurd B (zG _)
   ·cases h
  |ws ag k o e len cap c z M =>
   simp only[Zk]at h;split at h
   ·rename_i B;exact absurd B (zG _)
   ·have:elems k (.ws ag k o e len) ([]:Hp)=Z:=by simp[elems]
    rw[this]at h;cases h
  |rs ag k o off len cap c z M =>
   simp only[Zk]at h;split at h
   ·rename_i B;exact absurd B (zG _)
   ·have:elems k (.rs ag k o off len cap) ([]:Hp)=Z:=by simp[elems]
    rw[this]at h;cases h
  |fn fn a1 a2 F K hF hK y L =>
   simp only[Zk]at h;split at h
   ·rename_i l1 l2 R aa;injection h with h;subst h;obtain⟨C,I⟩:=Ua (S:=S) E R hF y;obtain⟨D,q4⟩:=Ua (S:=S) E aa hK L;exact .fn fn l1 l2 F K C D I q4
   ·cases h
  |iface t x u hx =>
   simp only[Zk]at h;split at h
   ·injection h with h;subst h;exact .iface t _ u (E _ _ _ ‹_› hx)
   ·cases h
  |agg l vs z hs y =>
   simp only[Zk]at h;split at h
   ·rename_i G A;injection h with h;subst h;obtain⟨C,I⟩:=Ua (S:=S) E A hs y;exact .agg G vs (Mt A z) C I
   ·cases h
  |tuple l vs hs y =>
   simp only[Zk]at h;split at h
   ·rename_i G A;injection h with h;subst h;obtain⟨C,I⟩:=Ua (S:=S) E A hs y;exact .tuple G vs C I
   ·cases h
end
end Go.Am
