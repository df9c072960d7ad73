/- THE ABSTRACT MACHINE -/
import Derived.Test.YtmclihijlmlpkaaGreatDoorHmAx
open Option renaming some->N,none->Z
open Bool renaming true->Q
open List renaming length->O
abbrev c6:=List Go.Am.AV
open List renaming mem_of_getElem?->zA,getElem?_append_left->zB,getElem?_eq_getElem->zC,getElem?_eq_none->zE,getElem?_append_right->zF,getElem?_take_of_lt->zI,getElem?_of_mem->zL,getElem?_drop->zN,getElem?_set_ne->zT,all_eq_true->zY,length_take->zZ,getElem?_toArray->yD,replicate->yE,mem_of_mem_drop->yF,length_append->yH,length_nil->yK,range->yP
open Nat renaming not_lt_zero->zG,lt_or_ge->zH,mul_le_mul_right->zO,succ_mul->zQ,succ_le_of_lt->zS,zero_add->zV,lt_succ_of_lt->zW,add_zero->yA,le_trans->yB,le_refl->yC,lt_irrefl->yG,add_comm->yI,add_assoc->yL,mul_comm->yM
open Array renaming getElem?_toList->zD,getElem?_extract->zK,length_toList->zM,getElem?_eq_getElem->zP,toArray_toList->zU
open Option.some renaming injEq->zR
open Prod.mk renaming injEq->zX
open Go.Am.AObj renaming dead->yJ
open Go.Am.AV renaming isCell->zJ,cells->yN,int->yO
namespace Go.Am
open RowKit
section
variable {P:Program}{S:Snap}{W0:World}{H:Hp}
theorem Below.setRow {B g:Nat}{a w:World}(h:Below B a w)(u:B<=g)(j:Array Value):Below B a (w.setRow g j) :=
 h.trans ⟨rfl,rfl,rfl,cn,λk y=>setRow_other _ _ _ _ cm⟩
theorem CellsRel.oneCells {l:List AV}{c:Array Value}(h:CellsRel S l c):∀ v∈c.toList,v.oneCell'=Q:=by
 intro v y;obtain⟨i,hi⟩:=zL y;rw[zD]at hi
 have j:i<O l:=by
  rw[<-h.size];rcases zH i c.size with u|u
  ·exact u
  ·rw[Array.getElem?_eq_none u]at hi;cases hi
 have w:=h.rel i l[i] v (zC j) hi;have g:(l[i]).isCell=Q:=zY.1 h.cell _ (List.getElem_mem j);generalize l[i]=a at w g;cases w <;> first|rfl|(simp[zJ]at g;done)
theorem Zs2 {α:Type}{l:List α}{i:Nat}{x:α}(h:l[i]?=N x):i<O l:=by
 rcases zH i (O l) with g|g
 ·exact g
 ·rw[zE g]at h;cases h
def Snap.obj (S:Snap)(n:Nat)(o:Obj):Snap:={ S with w:=S.w.alloc o,phi:=λx=>if x=n then N S.w.heap.size else S.phi x }
theorem Ext.objAt (g:Inv W0 S H){n:Nat}(j:S.phi n=Z)(o:Obj):Ext S (S.obj n o):=by
 refine⟨⟨λx b h=>?_,λb i h=>⟨h,World.cell?_alloc_lt _ _ _ (g.puball b i h)⟩,λ_ e b hw sz h=>⟨e,b,hw,sz,h,yC _,λ_=>⟨rfl,rfl,rfl⟩⟩⟩,rfl,λ_ _ h _=>h⟩;show (if x=n then _ else _)=_;rw[if_neg]
 ·exact h
 ·rintro rfl
  rw[j]at h;cases h
theorem Ext.obj (g:Inv W0 S H)(o:Obj):Ext S (S.obj (O H) o):=Ext.objAt g (g.past _ (yC _)).1 o
theorem YZ (S:Snap)(n:Nat)(o:Obj):(S.obj n o).phi n=N S.w.heap.size:=by simp[Snap.obj]
theorem Qz {n x:Nat}{o:Obj}(h:x≠n):(S.obj n o).phi x=S.phi x:=by simp[Snap.obj,h]
theorem Nx (S:Snap)(n:Nat)(o:Obj):(S.obj n o).w.heap[S.w.heap.size]?=N o:=heap_alloc_new S.w o
theorem Inv.objAt (j:Inv W0 S H){n0:Nat}{H':Hp}{o:Obj}{x:AObj}(R:S.phi n0=Z)(F:H'[n0]?=N x)(M:∀ m,m≠n0->H'[m]?=H[m]?)(hl:O H<=O H')(T:ORel (S.obj n0 o) W0.heap.size n0 x):Inv W0 (S.obj n0 o) H':=by
 have D:=Ext.objAt j R o
 have aa:n0<O H':=by
  rcases zH n0 (O H') with K|K
  ·exact K
  ·rw[zE K]at F;cases F
 refine⟨j.below.alloc j.size o,λn y h=>?_,λn F=>?_,λI E b z A B C=>?_,j.tinj,λt e b hw sz n ht=>?_,λb i h=>?_,λn b h=>?_,λt e b hw sz h=>?_,j.lim⟩
 ·by_cases g:n=n0
  ·subst g;rw[F]at h;injection h with h;subst h;exact T
  ·rw[M n g]at h;exact (j.objs n y h).frame D (λb _ L=>⟨Below.heap_alloc S.w o b L,λi R=>R⟩) rfl (Qz g)
 ·obtain⟨p,q⟩:=j.past n cm;exact⟨by rw[Qz cm];exact p,q⟩
 ·have old:∀ x,x≠n0->(S.obj n0 o).phi x=N b->b<S.w.heap.size:=λx T h=>by rw[Qz T]at h;exact j.dom x b h
  by_cases g:I=n0
  ·by_cases u:E=n0
   ·rw[g,u]
   ·rw[g,YZ]at z;injection z with z;have:=old E u A;omega
  ·by_cases u:E=n0
   ·rw[u,YZ]at A;injection A with A;have:=old I g z;omega
   ·rw[M I g]at B;rw[M E u]at C;rw[Qz g]at z;rw[Qz u]at A;exact j.inj I E b z A B C
 ·by_cases g:n=n0
  ·rw[g,YZ];have:=j.tdom t e b hw sz ht;intro hc;injection hc with hc;omega
  ·rw[Qz g];exact j.apart t e b hw sz n ht
 ·show b<(S.w.alloc o).heap.size;rw[World.size_alloc];exact zW (j.puball b i h)
 ·show b<(S.w.alloc o).heap.size;rw[World.size_alloc];by_cases g:n=n0
  ·rw[g,YZ]at h;injection h with h;omega
  ·rw[Qz g]at h;exact zW (j.dom n b h)
 ·show b<(S.w.alloc o).heap.size;rw[World.size_alloc];exact zW (j.tdom t e b hw sz h)
theorem Inv.obj (j:Inv W0 S H){o:Obj}{x:AObj}(u:ORel (S.obj (O H) o) W0.heap.size (O H) x):Inv W0 (S.obj (O H) o) (H++[x]):=by
 refine Inv.objAt j (j.past _ (yC _)).1 cn (λm w=>?_) cn u;rcases zH m (O H) with h|g
 ·rw[zB h]
 ·rw[zE g,zE (by simp;omega)]
theorem Inv.resv (j:Inv W0 S H)(n:Nat):Inv W0 S (H++yE n .free):=by
 have get:∀ m,O H<=m->(H++yE n AObj.free)[m]?=Z\/(H++yE n AObj.free)[m]?=N .free:=λm C=>by
  rw[zF C,List.getElem?_replicate];split
  ·exact .inr rfl
  ·exact .inl rfl
 refine⟨j.below,λo x h=>?_,λo h=>j.past o (by simp at h;omega),λo B b h u A w=>?_,j.tinj,j.apart,j.puball,j.dom,j.tdom,j.lim⟩
 ·rcases zH o (O H) with z|y
  ·rw[zB z]at h;exact j.objs o x h
  ·rcases get o y with g|g
   ·rw[g]at h;cases h
   ·rw[g]at h;injection h with h;subst h;exact j.past o y
 ·have lt:∀ o b,S.phi o=N b->o<O H:=λo b h=>by
   rcases zH o (O H) with u|u
   ·exact u
   ·rw[(j.past o u).1]at h;cases h
  rw[zB (lt o b h)]at A;rw[zB (lt B b u)]at w;exact j.inj o B b h u A w
theorem Hh {l:List AV}{c:Array Value}(h:Inv W0 S H)(j:CellsRel S l c)(el:TypeId) :
 (newRow el c).run P S.w=.ok ⟨S.w.heap.size,0,Z⟩ (S.obj (O H) (.cells c el)).w/\Inv W0 (S.obj (O H) (.cells c el)) (H++[.cells l])/\(S.obj (O H) (.cells c el)).phi (O H)=N S.w.heap.size:=by
 have g:=Ext.obj h (.cells c el);refine⟨by simp[newRow];rfl,h.obj ⟨S.w.heap.size,c,el,YZ S _ _,h.size,Nx S _ _,j.size,λi x v hi y=>(j.rel i x v hi y).mono g,λi u=>?_,j.cell⟩,YZ S _ _⟩;exact absurd (h.puball _ i u) (yG _)
theorem ZnW {T u:TypeId}{c:Array Value}(j:Inv W0 S H)(z:c=#[.pointer Z,.slice Z 0 0])(y:T≠u) :
 (newRow T c).run P S.w=.ok ⟨S.w.heap.size,0,Z⟩ (S.obj (O H) (.cells c T)).w/\Inv W0 (S.obj (O H) (.cells c T)) (H++[.bld T u []])/\(S.obj (O H) (.cells c T)).phi (O H)=N S.w.heap.size:=by
 subst z;refine⟨by simp[newRow];rfl,j.obj ⟨S.w.heap.size,YZ S _ _,.inl ⟨j.size,.slice Z 0 0,Nx S _ _,World.ownsRowF_nil _ _ _ _,by simp[Value.ownBlock]⟩,y,λi B=>?_,λv g h A=>?_⟩,YZ S _ _⟩
 ·exact absurd (j.puball _ i B) (yG _)
 ·have:=Nx S (O H) (.cells #[.pointer Z,.slice Z 0 0] T);rw[Lib.cell_of_heap this]at h;injection h with h;subst h;simp[Value.ownBlock]at A
theorem Zlo {n:Nat}{l:List AV}{c:Array Value}(j:Inv W0 S H)(A:H[n]?=N .free)(y:CellsRel S l c)(el:TypeId) :
 (newRow el c).run P S.w=.ok ⟨S.w.heap.size,0,Z⟩ (S.obj n (.cells c el)).w/\Ext S (S.obj n (.cells c el))/\Inv W0 (S.obj n (.cells c el)) (H.set n (.cells l))/\(S.obj n (.cells c el)).phi n=N S.w.heap.size:=by
 have g:=j.objs n _ A;have h:=Ext.objAt j g.1 (.cells c el)
 have z:n<O H:=by
  rcases zH n (O H) with u|u
  ·exact u
  ·rw[zE u]at A;cases A
 refine⟨by simp[newRow];rfl,h,j.objAt g.1 (x:=.cells l) (by simp[z]) (λm B=>by rw[zT (Ne.symm B)]) cn ⟨S.w.heap.size,c,el,YZ S _ _,j.size,Nx S _ _,y.size,λi x v hi D=>(y.rel i x v hi D).mono h,λi C=>?_,y.cell⟩,YZ S _ _⟩;exact absurd (j.puball _ i C) (yG _)
theorem FV (P:Program)(g o:Nat)(t:TypeId)(fz:Nat×Nat):∀ (vs:List Value) (i:Nat) (cur:Array Value) (w:World),w.heap[g]?=N (.cells cur t fz)->ZqA cur.size fz->o+i+O vs<=cur.size->(∀ v∈vs,v.oneCell'=Q) ->
 (storeCells ⟨g,o,Z⟩ vs i).run P w=.ok () (w.setRow g (cur.toList.take (o+i)++vs++cur.toList.drop (o+i+O vs)).toArray):=by
 intro vs
 induction vs with
 |nil =>
  intro i cur w j A y z;simp only[storeCells,List.append_nil,yK,yA,List.take_append_drop,zU];rw[setRow_self w g cur t fz j];rfl
 |cons v rest E =>
  intro i cur w j A y z;have hi:o+i<cur.size:=by simp at y;omega
  have h:w.cell? ⟨g,o+i,Z⟩=N cur[o+i]:=by simp[World.cell?,j,hi]
  have u:w.frozen? ⟨g,o+i,Z⟩=false:=by
   have:=A (o+i) hi;obtain⟨lo,C⟩:=fz;simp only[World.frozen?,j,Bool.and_eq_false_iff,decide_eq_false_iff_not];simp only at this;omega
  have B:(store ((⟨g,o,Z⟩:Addr).add i) v).run P w=.ok () (w.setRow g (cur.setIfInBounds (o+i) v)):=by
   rw[YO,run_store P w _ v _ (z v cn),h];simp[u,setCell_eq_setRow w g (o+i) cur t fz v j]
  have:=E (i+1) (cur.setIfInBounds (o+i) v) (w.setRow g (cur.setIfInBounds (o+i) v)) (setRow_heap w g cur _ t _ j) (by simpa using A) (by simp at y ⊢;omega) (λx D=>z x (by simp[D]));simp only[storeCells,Sem.run_bind,B,Result.andThen_ok,this,setRow_setRow];congr 3;have e:=list_seg_step cur.toList (o+i) v rest (by simp at y ⊢;omega);simpa[Array.toList_setIfInBounds,yL]using e
theorem Ext.write {b:Nat}(g:∀ i,¬ S.pub b i)(c':Array Value):Ext S { S with w:=S.w.setRow b c' } :=
 ⟨⟨λ_ _ h=>h,λb' i h=>⟨h,cell_setRow_other _ _ _ _ (by rintro rfl;exact g i h)⟩,λ_ e b hw sz h=>⟨e,b,hw,sz,h,yC _,λ_=>⟨rfl,rfl,rfl⟩⟩⟩,rfl,λ_ _ h _=>h⟩
theorem Inv.writeG (g:Inv W0 S H){o b:Nat}{x y:AObj}{c':Array Value}(E:H[o]?=N x)(A:S.phi o=N b\/∃ e hw sz,S.tk o=N (e,b,hw,sz))(hB:W0.heap.size<=b)(D:x≠.dead)
 (L:∀ i,¬ S.pub b i) (hr:ORel { S with w:=S.w.setRow b c' } W0.heap.size o y):Inv W0 { S with w:=S.w.setRow b c' } (H.set o y):=by
 have B:=Ext.write L c'
 have C:o<O H:=by
  rcases zH o (O H) with F|F
  ·exact F
  ·rw[zE F]at E;cases E
 have u:∀ n:Nat,(H.set o y)[n]?≠N yJ->H[n]?≠N yJ:=λn h=>by
  by_cases e:o=n
  ·subst e;rw[E];simpa using D
  ·rwa [zT e]at h
 refine⟨Below.setRow g.below hB c',λn z h=>?_,λn hn=>g.past n (by simpa using hn),λo1 o2 b h1 h2 I K=>g.inj o1 o2 b h1 h2 (u _ I) (u _ K),g.tinj,g.apart,λb' i h=>?_,λn b' h=>?_,λt e b' hw sz h=>?_,g.lim⟩
 ·by_cases e:o=n
  ·subst e;simp[C]at h;subst h;exact hr
  ·rw[zT e]at h
   cases z with
   |dead=>trivial
   |_ =>
    refine (g.objs n _ h).frame B (λb' j aa=>⟨setRow_other _ _ _ _ ?_,λi L=>L⟩) rfl rfl
    rintro rfl
    rcases A with A|⟨e1,R,T,A⟩
    ·rcases j with j|⟨e',hw,sz,M⟩
     ·exact e (g.inj o n b' A j (by rw[E];simpa using D) (by rw[h];simp))
     ·exact g.apart n e' b' hw sz o M A
    ·rcases j with j|⟨e',hw,sz,M⟩
     ·exact g.apart o e1 b' R T n A j
     ·exact e (g.tinj _ _ _ _ _ _ _ _ _ A M)
 ·simpa using g.puball b' i h
 ·simpa using g.dom n b' h
 ·simpa using g.tdom t e b' hw sz h
theorem Inv.write (z:Inv W0 S H){o b:Nat}{l y:List AV}{c c':Array Value}{el:TypeId}(B:H[o]?=N (.cells l))(j:S.phi o=N b)(h:W0.heap.size<=b)
 (A:S.w.heap[b]?=N (.cells c el (0,0))) (u:∀ i,¬ S.pub b i) (g:CellsRel { S with w:=S.w.setRow b c' } y c'):Inv W0 { S with w:=S.w.setRow b c' } (H.set o (.cells y)) :=
 z.writeG B (.inl j) h cn u ⟨b,c',el,j,h,setRow_heap S.w b c c' el (0,0) A,g.size,g.rel,u,g.cell⟩
theorem Zol {t:TypeId}{g:Bool}{sz off b:Nat}{l:List AV}{c:Array Value}{el:TypeId}{fz:Nat×Nat}{v:AV}(E:Xx P t=N g)(F:Xr P t=N sz)(C:S.w.heap[b]?=N (.cells c el fz))(I:O l<=c.size)
 (D:∀ (i:Nat) (x:AV) (v:Value),l[i]?=N x->c[i]?=N v->VRel S x v) (B:l.all zJ=Q) (h:apart g sz l off=N v) :
 ∃ v',(loadVar t ⟨b,off,Z⟩).run P S.w=.ok v' S.w/\VRel S v v':=by
 have j:apart g sz (l.drop off) 0=N v:=by
  unfold apart at h ⊢
  cases g with
  |true =>
   simp only[if_true]at h ⊢;split at h
   ·rename_i K;rw[if_pos (by simp;omega)];simpa using h
   ·cases h
  |false=>simpa using h
 exact Lx (P:=P) (S:=S) (t:=t) (off:=off) (b:=b) (l:=l.drop off) (f:=λi=>c.getD (i+off) undef) E F
  (λi hi=>by
   have y:i+off<c.size:=by simp at hi;omega
   rw[cell_of_row S.w b _ c el fz C];simp[y])
  (λi x u=>by
   rw[zN]at u
   have y:off+i<O l:=by
    rcases zH (off+i) (O l) with A|A
    ·exact A
    ·rw[zE A]at u;cases u
   have z:i+off<c.size:=cm
   refine D (off+i) x _ u ?_;rw[yI off i];simp[z]) (by rw[zY]at B ⊢;exact λx u=>B x (yF u)) j
theorem Ze3 {t:TypeId}{g:Bool}{sz:Nat}{a v:AV}{u:Value}(T:Inv W0 S H)(D:Xx P t=N g)(F:Xr P t=N sz)(C:VRel S a u)(h:Z2 g sz a H=N v) :
 ∃ v' K,u=.pointer (N K)/\(loadVar t K).run P S.w=.ok v' S.w/\VRel S v v':=by
 unfold Z2 at h;split at h
 ·rename_i o off;split at h
  ·rename_i l E;cases C with|ptr _ _ b hb =>
   obtain⟨b',c,el,j,A,B,h4,L,M,R⟩:=T.objs o _ E;rw[hb]at j;injection j with j;subst j;obtain⟨v',y,z⟩:=Zol (P:=P) D F B cm L R h;exact⟨v',_,rfl,y,z⟩
  ·cases h
 ·rename_i cells;cases C with|vp _ b off f h0 j A =>
  obtain⟨v',y,z⟩:=Lx (P:=P) (S:=S) (t:=t) (off:=off) (b:=b) (f:=f) D F (λi hi=>by rw[yI];exact (j i hi).1) A h0 h;exact⟨v',_,rfl,y,z⟩
 ·rename_i o e off;split at h
  ·rename_i e' l E;split at h
   ·rename_i he;subst he;cases C with|wp _ _ _ b hb =>
    obtain⟨e0,b0,hw0,ab,I,q2,q3⟩:=hb;obtain⟨b',aa,c,el,fz,j,A,B,h4,L,M,R,h8,h9⟩:=T.objs o _ E;rw[j]at I;simp only[zR,zX]at I;obtain⟨r1,r2,r3,r4⟩:=I;obtain rfl:b=b0:=q3 r1;subst r2;obtain⟨v',y,z⟩:=Zol (P:=P) D F B cm M h8 h;exact⟨v',_,rfl,y,z⟩
   ·cases h
  ·cases h
 ·cases h
theorem U8 (off:Nat)(g cur:Array Value)(h:off+g.size<=cur.size) :
 g.zipIdx.foldl (λ(a:Array Value) (p:Value×Nat)=>a.setIfInBounds (off+p.2) p.1) cur=(cur.toList.take off++g.toList++cur.toList.drop (off+O g.toList)).toArray:=by
 apply Array.ext_getElem?;intro i;rw[<-Array.foldl_toList,Array.toList_zipIdx,ZnD];simp only[yA,yD,zM,Nat.sub_zero,zD];by_cases j:i<off
 ·rw[if_neg cm,zB (by simp;omega),zB (by simp;omega),zI j,zD]
 ·by_cases u:i<off+g.size
  ·rw[if_pos cm,zB (by simp;omega),zF (by simp;omega)];simp only[zZ,zM,zD];congr 1;omega
  ·rw[if_neg cm,zF (by simp;omega),zN,zD];simp only[yH,zZ,zM];congr 1;omega
theorem ZmZ {t:TypeId}{sz:Nat}{a v:AV}{u x:Value}{H':Hp}(hI:Inv W0 S H)(hs:Xr P t=N sz)(ha:VRel S a u)(A:VRel S v x)(h:YI sz a v H=N H') :
 ∃ ad S',u=.pointer (N ad)/\(storeVar t ad x).run P S.w=.ok () S'.w/\Ext S S'/\Inv W0 S' H':=by
 unfold YI at h;split at h
 ·rename_i o off;split at h
  ·rename_i l R;split at h
   ·rename_i hc;obtain⟨B,D,aa⟩:=hc;injection h with h;subst h;cases ha with|ptr _ _ b hb =>
    obtain⟨b',c,el,z,T,I,h4,h5,K,F⟩:=hI.objs o _ R;rw[hb]at z;injection z with z;subst z;have g:=A.cells B;have E:x.cells.size=sz:=by rw[g.size,D]
    have j:=run_storeCells_at P b off el x.cells.toList 0 c S.w I (by simp;omega) g.oneCells;rw[yA,<-U8 off x.cells c cm]at j;refine⟨_,{ S with w:=S.w.setRow b _ },rfl,by simp only[storeVar,Sem.run_bind,X4 hs,Result.andThen_ok];rw[if_neg (by simp[E])];exact j,Ext.write K _,?_⟩;refine hI.write R hb T I K ?_;exact (CellsRel.splice (S:=S) ⟨h4,h5,F⟩ g cm).mono (Ext.write K _)
   ·cases h
  ·cases h
 ·rename_i o e off;split at h
  ·rename_i e' l R;split at h
   ·rename_i hc;obtain⟨rfl,B,D,aa⟩:=hc;injection h with h;subst h;cases ha with|wp _ _ _ b hb =>
    obtain⟨e0,b0,hw0,ah,q1,q2,q3⟩:=hb;obtain⟨b',ae,c,el,fz,z,T,I,h4,h5,K,F,h8,h9⟩:=hI.objs o _ R;have ag:=q1;rw[z]at q1;simp only[zR,zX]at q1;obtain⟨r1,r2,r3,r4⟩:=q1;obtain rfl:b=b0:=q3 r1;subst r2;have g:=A.cells B;have E:x.cells.size=sz:=by rw[g.size,D]
    have j:=FV P b' off el fz x.cells.toList 0 c S.w I h9 (by simp;omega) g.oneCells;rw[yA,<-U8 off x.cells c cm]at j;refine⟨_,{ S with w:=S.w.setRow b' _ },rfl,by simp only[storeVar,Sem.run_bind,X4 hs,Result.andThen_ok];rw[if_neg (by simp[E])];exact j,Ext.write F _,?_⟩
    have L:CellsRel S l (c.extract 0 (O l)):=by
     refine⟨by simp;omega,λi x v hi A=>?_,h8⟩;rw[zK]at A;split at A
     ·rw[zV]at A;exact K i x v hi A
     ·cases A
    have ac:=Ext.write F (x.cells.zipIdx.foldl (λ(a:Array Value) (p:Value×Nat)=>a.setIfInBounds (off+p.2) p.1) c)
    have M:(x.cells.zipIdx.foldl (λ(a:Array Value) (p:Value×Nat)=>a.setIfInBounds (off+p.2) p.1) c).size=c.size:=by
     rw[U8 off x.cells c cm];simp;omega
    have C:(splice l off v.cells).length=O l:=by unfold splice;simp;omega
    refine hI.writeG R (.inr ⟨_,_,_,z⟩) T cn F ⟨b',ae,_,el,fz,by rw[C];exact z,T,setRow_heap S.w b' c _ el fz I,by rw[M];exact h4,by rw[C];exact h5,λi y u hy hu=>?_,F,?_,by rw[M];exact h9⟩
    ·have ab:=CellsRel.splice (S:=S) (off:=off) L g cm;refine (ab.rel i y u hy ?_).mono ac;have af:i<O l:=by rw[<-C];exact Zs2 hy
     rw[<-hu];rw[U8 off x.cells c cm,U8 off x.cells (c.extract 0 (O l)) (by simp;omega)];simp only[yD];by_cases g1:i<off
     ·rw[zB (by simp;omega),zB (by simp;omega),zB (by simp;omega),zB (by simp;omega),zI g1,zI g1,zD,zD,zK];simp;omega
     ·by_cases g2:i<off+x.cells.size
      ·rw[zB (by simp;omega),zF (by simp;omega),zB (by simp;omega),zF (by simp;omega)];congr 1;simp;omega
      ·rw[zF (by simp;omega),zF (by simp;omega),zN,zN,zD,zD,zK];simp only[yH,zZ,zM,Array.size_extract];rw[if_pos cm];congr 1;omega
    ·exact (CellsRel.splice (S:=S) (off:=off) L g cm).cell
   ·cases h
  ·cases h
 ·cases h
end
section
variable {P:Program}{S:Snap}{W0:World}{H:Hp}
theorem cell_of_heap {w w':World}(h:w'.heap=w.heap)(a:Addr):w'.cell? a=w.cell? a:=by unfold World.cell?;rw[h]
theorem OJ (a b:List AV):flat (a++b)=flat a++flat b:=by simp[flat]
theorem Zbi {x:AV}(h:x.isCell=Q):x.cells=[x]:=by
 cases x <;> first|rfl|(simp[zJ]at h;done)
theorem Zfh {l:List AV}(h:l.all zJ=Q)(k:Nat):(l.drop k).all zJ=Q:=by
 rw[zY]at h ⊢;exact λx g=>h x (yF g)
theorem Mg {ag:Bool}{k:Nat}(j:ag=Q\/k=1):∀ (n:Nat) (l:List AV),l.all zJ=Q->n*k<=O l->flat (Ug ag k n l)=l.take (n*k)/\(∀ e∈Ug ag k n l,O e.cells=k)/\(Ug ag k n l).length=n:=by
 intro n
 induction n with
 |zero=>intro l _ _;simp[Ug,flat]
 |succ n F =>
  intro l w y;have E:n*k+k<=O l:=by rw[zQ]at y;exact y
  obtain⟨z,A,B⟩:=F (l.drop k) (Zfh w k) (by simp;omega);have D:∀ (a:AV) (r:List AV),flat (a::r)=a.cells++flat r:=λa r=>by simp[flat]
  have g:(if ag then AV.agg (l.take k) else l.headD .undef).cells=l.take k:=by
   cases ag with
   |true=>rfl
   |false =>
    rcases j with h|rfl
    ·cases h
    ·cases l with
     |nil=>simp at E
     |cons a l =>
      have C:a.isCell=Q:=Zig w (i:=0) rfl;simp[Zbi C]
  unfold Ug;refine⟨?_,λe u=>?_,by simp[B]⟩
  ·rw[D,z,g,zQ,yI,List.take_add]
  ·rcases List.mem_cons.1 u with rfl|u
   ·rw[g];simp;omega
   ·exact A e u
theorem Kn {k:Nat}{x:AV}{u:Value}{xs:List AV}(hI:Inv W0 S H)(hk:0<k)(hx:VRel S x u)(h:elems k x H=N xs) :
 (∀ e∈xs,O e.cells=k)/\(∀ w:World,(Builtin.lenOf u).run P w=.ok (O xs) w) /\
 ∃ news:Array Value,CellsRel S (flat xs) news/\∀ w:World,w.heap=S.w.heap->(Builtin.firstCells k (O xs) u).run P w=.ok news w:=by
 unfold elems at h;split at h
 ·injection h with h;subst h;cases hx with|nils =>
  exact⟨cn,λw=>rfl,#[],⟨rfl,by simp[flat],rfl⟩,λw _=>rfl⟩
 ·split at h
  ·rename_i k' tok l z;obtain rfl:k=k':=z.symm;injection h with h;subst h;cases hx with|vs _ _ _ b off cap f hcap hke D h2 ht sp hsp =>
   by_cases aa:l=[]
   ·subst aa;refine⟨cn,λw=>rfl,#[],⟨rfl,by simp[flat],rfl⟩,λw _=>?_⟩;simp only[Builtin.firstCells,yK,Nat.zero_mul];rfl
   obtain rfl:sp=Z:=hsp.resolve_right (by have:=List.length_pos_iff.2 aa;omega);have y:∀ e∈l,O e.cells=k:=λe C=>(hke e C).1
   have M:∀ n,n<O l*k->n / k<O l/\n % k<k/\n / k*k+n % k=n:=λn hn =>
    ⟨Nat.div_lt_of_lt_mul (by rwa [yM]),Nat.mod_lt _ hk,by rw[yM];exact Nat.div_add_mod n k⟩
   refine⟨y,λw=>rfl,((yP (O l*k)).map λn=>f (n / k) (n % k)).toArray,⟨by simp[Yc y],λi x v hi g=>?_,AS λe C=>(hke e C).2⟩,λw hw=>?_⟩
   ·have T:i<O l*k:=by
     rcases zH i (O l*k) with h'|h'
     ·exact h'
     ·rw[zE (by rw[Yc y];exact h')]at hi;cases hi
    obtain⟨K,p2,p3⟩:=M i T;simp[T]at g;subst g;rw[<-p3,JE y _ _ l[i / k] (zC K) p2]at hi;exact h2 _ _ _ _ (zC K) hi
   ·simp only[Builtin.firstCells]
    exact run_loadCells w _ _ _ (λn hn=>by
     obtain⟨K,p2,p3⟩:=M n hn;rw[cell_of_heap hw,YO];have:=(D _ _ K p2).1
     rwa [yL,p3]at this)
  ·cases h
 ·split at h
  ·rename_i s z;subst z;injection h with h;subst h;cases hx with|str _ b E =>
   subst E
   have R:flat (b.data.toList.map λb=>yO .u8 (b.toNat:Int))=b.data.toList.map λb=>yO .u8 (b.toNat:Int):=by
    unfold flat;rw[List.map_map];show (b.data.toList.map λb=>[yO .u8 (b.toNat:Int)]).flatten=_
    induction b.data.toList with
    |nil=>rfl
    |cons a l ih=>simp[ih]
   have y:(b.data.toList.map λb=>yO .u8 (b.toNat:Int)).length=b.size:=by rw[List.length_map];exact XZ b
   refine⟨λe C=>by simp at C;obtain⟨a,_,rfl⟩:=C;rfl,λw=>by rw[y];rfl,b.data.map λb=>.int .u8 b.toNat,⟨by rw[R];simp,λi x v hi g=>?_,AS λe C=>by simp at C;obtain⟨a,_,rfl⟩:=C;rfl⟩,λw _=>?_⟩
   ·rw[R,List.getElem?_map,zD]at hi;rw[Array.getElem?_map]at g
    cases E:b.data[i]? with
    |none=>simp[E]at hi
    |some c=>simp[E]at hi g;subst hi g;exact .int _ _
   ·rw[y];simp only[Builtin.firstCells,Sem.run_pure];congr 1;congr 1;rw[ByteArray.data_extract];show b.data.extract 0 b.data.size=b.data;simp
  ·cases h
 ·split at h
  ·rename_i ag k' o off len cap hc;obtain⟨z,F⟩:=hc;obtain rfl:k=k':=z.symm;split at h
   ·rename_i A ho;split at h
    ·rename_i B;injection h with h;subst h;cases hx with|rs _ _ _ _ _ _ b E hlc =>
     obtain⟨b',c,el,D,h2,h3,h4,h5,h6,h7⟩:=hI.objs o _ ho;rw[E]at D;injection D with D;subst D;obtain⟨f1,f2,L⟩:=Mg F len (A.drop off) (Zfh h7 off) (by simp;omega);have hr:CellsRel S ((A.drop off).take (len*k)) (c.extract off (off+len*k)):=CellsRel.extract ⟨h4,h5,h7⟩ off (len*k) B;refine⟨f2,λw=>by rw[L];rfl,c.extract off (off+len*k),by rw[f1];exact hr,λw hw=>?_⟩;rw[L];simp only[Builtin.firstCells]
     have hl:=run_loadCells_list (P:=P) w ⟨b,off,Z⟩ (c.extract off (off+len*k)).toList (λj v g=>by
      rw[cell_of_heap hw,YO,cell_of_row S.w b _ c el (0,0) h3];rw[zD,zK]at g;split at g
      ·exact g
      ·cases g)
     have I:(c.extract off (off+len*k)).toList.length=len*k:=by rw[zM,hr.size];simp;omega
     rw[I,zU]at hl;exact hl
    ·cases h
   ·cases h
  ·cases h
 ·split at h
  ·rename_i ag k' o e len hc;obtain⟨z,F⟩:=hc;obtain rfl:k=k':=z.symm;split at h
   ·rename_i e' A ho;split at h
    ·rename_i B;obtain⟨rfl,B⟩:=B;injection h with h;subst h;cases hx with|ws _ _ _ _ _ cap b E hlc =>
     obtain⟨e0,b0,hw0,ad,q1,q2,q3⟩:=E;obtain⟨b',ac,c,el,fz,D,h2,h3,h4,h5,h6,h7,h8,h9⟩:=hI.objs o _ ho;rw[D]at q1;simp only[zR,zX]at q1;obtain⟨r1,r2,r3,r4⟩:=q1;obtain⟨K,p2,p3⟩:=q3 r1;obtain rfl:b=b':=K.trans r2.symm;obtain⟨f1,f2,L⟩:=Mg F len A h8 B
     have ab:CellsRel S A (c.extract 0 (O A)):=by
      refine⟨by simp;omega,λi x v hi g=>?_,h8⟩;rw[zK]at g;split at g
      ·rw[zV]at g;exact h6 i x v hi g
      ·cases g
     have hr:CellsRel S ((A.drop 0).take (len*k)) ((c.extract 0 (O A)).extract 0 (0+len*k)):=CellsRel.extract ab 0 (len*k) cm;refine⟨f2,λw=>by rw[L];rfl,(c.extract 0 (O A)).extract 0 (0+len*k),by rw[f1];exact hr,λw hw=>?_⟩;rw[L];simp only[Builtin.firstCells]
     have hl:=run_loadCells_list (P:=P) w ⟨b,0,Z⟩ ((c.extract 0 (O A)).extract 0 (0+len*k)).toList (λj v g=>by
      rw[cell_of_heap hw,YO,cell_of_row S.w b _ c el fz h3];rw[zD,zK]at g;split at g
      ·rw[zK]at g;split at g
       ·rw[zV,zV]at g;rw[zV];exact g
       ·cases g
      ·cases g)
     have I:((c.extract 0 (O A)).extract 0 (0+len*k)).toList.length=len*k:=by rw[zM,hr.size];simp;omega
     rw[I,zU]at hl;exact hl
    ·cases h
   ·cases h
  ·cases h
 ·cases h
theorem ZiO {t:TypeId}{n:Nat}(h:DH P t=N n)(w:World):∃ i,P.info? t=N i/\i.bytes=n/\(typeInfo t).run P w=.ok i w:=by
 unfold DH at h
 cases hi:P.info? t with
 |none=>simp[hi]at h
 |some i=>simp[hi]at h;exact⟨i,rfl,h,by simp[typeInfo,hi]⟩
theorem Jg {st xt ty e:TypeId}{B:TypeDesc}{k n m cap:Nat}{u:Value}{a:Addr}{news:Array Value}{w w':World}(D:P.underlying st=N (.slice e))(z:P.underlying xt=N B)(A:Xl B=Q)
 (C:Xr P e=N k) (h:(Builtin.lenOf u).run P w=.ok m w) (j:(Builtin.firstCells k m u).run P w=.ok news w) (g:n+m<=cap) (y:(storeCells (a.add (n*k)) news.toList).run P w=.ok () w') :
 (Builtin.append_ #[st,xt] ty #[.slice (N a) n cap,u]).run P w=.ok (.slice (N a) (n+m) cap) w':=by
 cases B <;> first
  |(simp[Xl]at A;done)
  |simp[Builtin.append_,run_underlying D,run_underlying z,X4 C,h,g,j,y]
theorem Eo {st xt ty e:TypeId}{z:TypeDesc}{k:Nat}{u:Value}{news:Array Value}{w:World}(B:P.underlying st=N (.slice e))(j:P.underlying xt=N z)(y:Xl z=Q)
 (A:Xr P e=N k) (g:(Builtin.lenOf u).run P w=.ok 0 w) (h:(Builtin.firstCells k 0 u).run P w=.ok news w) :
 (Builtin.append_ #[st,xt] ty #[.slice Z 0 0,u]).run P w=.ok (.slice Z 0 0) w:=by
 cases z <;> first
  |(simp[Xl]at y;done)
  |simp[Builtin.append_,run_underlying B,run_underlying j,X4 A,g,h]
theorem IH {st xt ty e:TypeId}{F:TypeDesc}{k n m cap bytes:Nat}{u z:Value}{base:Option Addr}{old news:Array Value}{w:World}(ht:P.underlying st=N (.slice e))(D:P.underlying xt=N F)(E:Xl F=Q)
 (hs:Xr P e=N k) (M:DH P e=N bytes) (hz:∀ w:World,(zeroValue e).run P w=.ok z w) (j:(Builtin.lenOf u).run P w=.ok m w) (h:cap<n+m) (g:(n+m)*(bytes+1)<=140737488355328)
 (A:(Builtin.firstCells k n (.slice base n cap)).run P w.drew=.ok old w.drew) (y:(Builtin.firstCells k m u).run P w.drew=.ok news w.drew) :
 (Builtin.append_ #[st,xt] ty #[.slice base n cap,u]).run P w =
  .ok (.slice (N ⟨w.heap.size,0,Z⟩) (n+m) (grownCap w (n+m) cap e)) (w.drew.alloc (.cells (old++news++Builtin.zeroCells z.cells (grownCap w (n+m) cap e-(n+m))) e)):=by
 obtain⟨i,hi,C,R⟩:=ZiO M w;subst C;have I:¬ (n+m<=cap):=cm
 have B:(n+m)*i.bytes<=140737488355328:=yB (Nat.mul_le_mul_left _ (Nat.le_succ _)) g;have T:n+m<=140737488355328:=yB (Nat.le_mul_of_pos_right _ (Nat.succ_pos _)) g;have h2:=growslice_fits h B;have K:¬ (281474976710656<Builtin.nextslicecap (n+m) cap*i.bytes):=cm
 have L:¬ (9223372036854775807<((n:Int)+(m:Int))):=cm
 cases F <;> first
  |(simp[Xl]at E;done)
  |simp[Builtin.append_,run_underlying ht,run_underlying D,X4 hs,j,I,typeInfo,hi,K,L,hz,A,y,Question.forced,newRow,grownCap]
end
section
variable {S S':Snap}{W0:World}{H H':Hp}{n:Nat}
theorem Zn {α:Type}{l:List α}{i:Nat}{x:α}(h:l[i]?=N x):i<O l:=by
 rcases zH i (O l) with g|g
 ·exact g
 ·rw[zE g]at h;cases h
inductive Sc (n:Nat):AV->Prop
 |undef:Sc n .undef
 |bool (b:Bool):Sc n (.bool b)
 |int (k:IntKind) (m:Int):Sc n (.int k m)
 |str (s:cz):Sc n (.str s)
 |nilp:Sc n .nilp
 |ptr (o off:Nat) (h:o<n):Sc n (.ptr o off)
 |vp (cells:List AV) (h:∀ c∈cells,Sc n c):Sc n (.vp cells)
 |nils:Sc n .nils
 |vs (k:Nat) (tok:Tok) (l:List AV) (ht:∀ t e,tok=.own t e->t<n) (h:∀ e∈l,∀ c∈e.cells,Sc n c):Sc n (.vs k tok l)
 |rs (ag:Bool) (k o off len cap:Nat) (h:o<n):Sc n (.rs ag k o off len cap)
 |ws (ag:Bool) (k o e len:Nat) (h:o<n):Sc n (.ws ag k o e len)
 |wp (o e off:Nat) (h:o<n):Sc n (.wp o e off)
 |nilm:Sc n .nilm
 |map (o:Nat) (h:o<n):Sc n (.map o)
 |nilf:Sc n .nilf
 |fn (fn:Fn) (a b:List AV) (h1:∀ c∈a,Sc n c) (h2:∀ c∈b,Sc n c):Sc n (.fn fn a b)
 |nili:Sc n .nili
 |iface (t:TypeId) (v:AV) (h:Sc n v):Sc n (.iface t v)
 |agg (l:List AV) (h:∀ c∈l,Sc n c):Sc n (.agg l)
 |tuple (l:List AV) (h:∀ c∈l,Sc n c):Sc n (.tuple l)
theorem cW {l:List AV}{vs:Array Value}(u:vs.size=O l){p:AV->Prop}(h:∀ (i:Nat) (c:AV) (v:Value),l[i]?=N c->vs[i]?=N v->p c):∀ c∈l,p c:=by
 intro c j;obtain⟨i,hi⟩:=zL j;have g:i<vs.size:=by rw[u];exact Zn hi
 exact h i c vs[i] hi (zP g)
theorem VRel.sc (D:∀ o,n<=o->S.phi o=Z/\S.tk o=Z){a:AV}{v:Value}(h:VRel S a v):Sc n a:=by
 have lt:∀ o b,S.phi o=N b->o<n:=λo b h=>by
  rcases zH o n with g|g
  ·exact g
  ·rw[(D o g).1]at h;cases h
 have B:∀ o,S.tk o≠Z->o<n:=λo h=>by
  rcases zH o n with g|g
  ·exact g
  ·exact absurd (D o g).2 h
 induction h with
 |undef v=>exact .undef
 |bool b=>exact .bool b
 |int k m=>exact .int k m
 |str s b h=>exact .str s
 |nilp=>exact .nilp
 |ptr o off b h=>exact .ptr o off (lt o b h)
 |vp cells b off f z M R w =>
  refine .vp cells λc z=>?_;obtain⟨i,hi⟩:=zL z;exact w i c hi
 |nils=>exact .nils
 |vs k tok l b off cap f T hk M R ht sp aa w =>
  refine .vs k tok l (λt e C=>?_) λe C c z=>?_
  ·subst C;obtain⟨e0,b0,hw0,ab,q,_⟩:=ht;rcases zH t n with g|g
   ·exact g
   ·rw[(D t g).2]at q;cases q
  ·obtain⟨j,hj⟩:=zL C;obtain⟨i,hi⟩:=zL z;exact w j e i c hj hi
 |rs ag k o off len cap b h A=>exact .rs ag k o off len cap (lt o b h)
 |ws ag k o e len cap b h A=>exact .ws ag k o e len (B o (by obtain⟨_,_,_,_,q,_⟩:=h;rw[q];simp))
 |wp o e off b h=>exact .wp o e off (B o (by obtain⟨_,_,_,_,q,_⟩:=h;rw[q];simp))
 |nilm=>exact .nilm
 |map o b h=>exact .map o (lt o b h)
 |nilf=>exact .nilf
 |fn fn first y F K hF hK M R I L=>exact .fn fn _ _ (cW hF I) (cW hK L)
 |nili=>exact .nili
 |iface t v u h w=>exact .iface t v w
 |agg cells vs z E h w=>exact .agg _ (cW E w)
 |tuple l vs E h w=>exact .tuple _ (cW E w)
def Snap.back (S:Snap)(H:Hp):Snap :=
 {w:=S.w,phi:=λo=>if o<O H then S.phi o else Z,tk:=λt=>if t<O H then S.tk t else Z,lim:=S.lim,
  pub:=λb i=>S.pub b i\/(S.lim<=b/\b<S.w.heap.size/\(∀ o x,H[o]?=N x->x≠.dead->S.phi o≠N b)/\∀ t,t<O H->∀ e hw sz,S.tk t≠N (e,b,hw,sz)) }
theorem VRel.back {a:AV}{v:Value}(h:VRel S a v)(y:Sc (O H) a):VRel (S.back H) a v:=by
 have phi:∀ o b,o<O H->S.phi o=N b->(S.back H).phi o=N b:=λo b B h2=>by simp[Snap.back,B,h2]
 induction h with
 |undef v=>exact .undef v
 |bool b=>exact .bool b
 |int k m=>exact .int k m
 |str s b h=>exact .str s b h
 |nilp=>exact .nilp
 |ptr o off b h=>cases y with|ptr _ _ ho=>exact .ptr o off b (phi o b ho h)
 |vp cells b off f I B h2 A =>
  cases y with|vp _ hcs =>
  exact .vp cells b off f I (λi hi=>⟨(B i hi).1,.inl (B i hi).2⟩) λi c hi=>A i c hi (hcs c (zA hi))
 |nils=>exact .nils
 |vs k tok l b off cap f M hk B h2 ht sp aa A =>
  cases y with|vs _ _ _ htk hcs =>
  refine VRel.vs (S:=S.back H) k tok l b off cap f M hk (λj i hj hi=>⟨(B j i hj hi).1,.inl (B j i hj hi).2⟩) (λj e i c he I=>A j e i c he I (hcs e (zA he) c (zA I))) ?_ sp aa
  cases tok with
  |no=>trivial
  |clip=>exact ht
  |own t e =>
   obtain⟨e0,L,hw0,z,R,T⟩:=ht;exact⟨e0,L,hw0,z,by simp[Snap.back,htk t e rfl,R],T⟩
 |rs ag k o off len cap b h w=>cases y with|rs _ _ _ _ _ _ ho=>exact .rs ag k o off len cap b (phi o b ho h) w
 |ws ag k o e len cap b h w =>
  cases y with|ws _ _ _ _ _ ho =>
  obtain⟨e0,L,hw0,z,R,T⟩:=h;exact .ws ag k o e len cap b ⟨e0,L,hw0,z,by simp[Snap.back,ho,R],T⟩ w
 |wp o e off b h =>
  cases y with|wp _ _ _ ho =>
  obtain⟨e0,L,hw0,z,R,T⟩:=h;exact .wp o e off b ⟨e0,L,hw0,z,by simp[Snap.back,ho,R],T⟩
 |nilm=>exact .nilm
 |map o b h=>cases y with|map _ ho=>exact .map o b (phi o b ho h)
 |nilf=>exact .nilf
 |fn fn first E F K hF hK B h2 ab ac =>
  cases y with|fn _ _ _ g1 g2 =>
  exact .fn fn _ _ F K hF hK (λi c v hi D=>ab i c v hi D (g1 c (zA hi))) (λi c v hi D=>ac i c v hi D (g2 c (zA hi)))
 |nili=>exact .nili
 |iface t v u h A=>cases y with|iface _ _ g=>exact .iface t v u (A g)
 |agg cells vs I C h A=>cases y with|agg _ g=>exact .agg _ _ I C λi c v hi D=>A i c v hi D (g c (zA hi))
 |tuple l vs C h A=>cases y with|tuple _ g=>exact .tuple _ _ C λi c v hi D=>A i c v hi D (g c (zA hi))
theorem Ext.back (B:Inv W0 S H)(g:Ext S S'):Ext S (S'.back H):=by
 have lt:∀ o,(S.phi o≠Z\/S.tk o≠Z)->o<O H:=λo h=>by
  rcases zH o (O H) with j|j
  ·exact j
  ·obtain⟨p,q⟩:=B.past o j;rcases h with h|h
   ·exact absurd p h
   ·exact absurd q h
 refine⟨⟨λo b h=>?_,λb i h=>⟨.inl (g.pub b i h).1,(g.pub b i h).2⟩,λt e b hw sz h=>?_⟩,g.lim,λb i D C=>D.elim (λh=>g.old b i h C) λh=>by have:=h.1;have:=g.lim;omega⟩
 ·have:=lt o (.inl (by rw[h];simp));simp[Snap.back,this,g.phi o b h]
 ·have:=lt t (.inr (by rw[h];simp));obtain⟨y,b',u,w,z,A⟩:=g.tk t e b hw sz h;exact⟨y,b',u,w,by simp[Snap.back,this,z],A⟩
theorem Inv.back (hI:Inv W0 S H)(y:Inv W0 S' H')(ht:H'.take (O H)=H):Inv W0 (S'.back H) H:=by
 have ai:O H<=O H':=by
  have:=congrArg List.length ht;simp at this;omega
 have L:∀ o,o<O H->H'[o]?=H[o]?:=λo j=>by
  rw[<-ht,zI j]
 have phi:∀ o,o<O H->(S'.back H).phi o=S'.phi o:=λo j=>by simp[Snap.back,j]
 have tk:∀ o,o<O H->(S'.back H).tk o=S'.tk o:=λo j=>by simp[Snap.back,j]
 have A:∀ o b,(S'.back H).phi o=N b->o<O H/\S'.phi o=N b:=λo b h=>by
  by_cases j:o<O H
  ·rw[phi o j]at h;exact⟨j,h⟩
  ·simp[Snap.back,j]at h
 have I:∀ o r,(S'.back H).tk o=N r->o<O H/\S'.tk o=N r:=λo r h=>by
  by_cases j:o<O H
  ·rw[tk o j]at h;exact⟨j,h⟩
  ·simp[Snap.back,j]at h
 have F:∀ o b i x,H[o]?=N x->x≠.dead->S'.phi o=N b->(S'.back H).pub b i->S'.pub b i:=λo b i x j hx hb w=>by
  rcases w with w|⟨_,_,w,_⟩
  ·exact w
  ·exact absurd hb (w o x j hx)
 have ab:∀ o:Nat,H[o]?≠N yJ->o<O H->H'[o]?≠N yJ:=λo h j=>by rwa [L o j]
 refine⟨y.below,λo x h=>?_,λo j=>⟨by simp[Snap.back];omega,by simp[Snap.back];omega⟩,λo o' b h M hd af=>?_,λt t' e b hw sz e' aj al h M=>?_,λt e b hw sz o h M=>?_,λb i h=>?_,λo b h=>y.dom o b (A o b h).2,λt e b hw sz h=>y.tdom t e b hw sz (I _ _ h).2,y.lim⟩
 ·have j:=Zn h;have M:H'[o]?=N x:=by rw[L o j];exact h
  have h0:=hI.objs o x h;have K:=y.objs o x M;have past:=hI.past
  cases x with
  |dead=>trivial
  |free=>exact⟨by rw[phi o j];exact K.1,by rw[tk o j];exact K.2⟩
  |cells l =>
   obtain⟨b0,c0,ad,p1,p2,p3,p4,p5,p6,p7⟩:=h0;obtain⟨b,c,el,z,B,C,D,E,q6,q7⟩:=K;refine⟨b,c,el,by rw[phi o j];exact z,B,C,D,λi x v hi hv=>(E i x v hi hv).back ?_,λi w=>q6 i (F o b i _ h cn z w),q7⟩;exact cW p4 (λi x v hi hv=>(p5 i x v hi hv).sc past) x (zA hi)
  |bld T u l =>
   obtain⟨b,z,B,C,D,E⟩:=K;refine⟨b,by rw[phi o j];exact z,B,C,λi w=>D i (F o b i _ h cn z w),λv g hv hg=>?_⟩;obtain⟨⟨n,hw,sz,r1⟩,r2⟩:=E v g hv hg;refine⟨⟨n,hw,sz,by rw[tk o j];exact r1⟩,λi w=>r2 i ?_⟩;rcases w with w|⟨_,_,_,w⟩
   ·exact w
   ·exact absurd r1 (w o j _ _ _)
  |row e l =>
   obtain⟨b0,am,c0,ad,ag,p1,p2,p3,p4,p5,p6,p7,p8,p9⟩:=h0;obtain⟨b,sz,c,el,fz,z,B,C,D,E,q6,q7,q8,q9⟩:=K;refine⟨b,sz,c,el,fz,by rw[tk o j];exact z,B,C,D,E,λi x v hi hv=>(q6 i x v hi hv).back ?_,λi w=>q7 i ?_,q8,q9⟩
   ·have ah:=Zn hi;have R:i<c0.size:=cm
    exact (p6 i x c0[i] hi (zP R)).sc past
   ·rcases w with w|⟨_,_,_,w⟩
    ·exact w
    ·exact absurd z (w o j _ _ _)
  |tok e =>
   obtain⟨b,hw,sz,c,el,fz,z,B,C,D,E,q6,q7⟩:=K;refine⟨b,hw,sz,c,el,fz,by rw[tk o j];exact z,B,C,D,E,λi hi w=>q6 i hi ?_,q7⟩;rcases w with w|⟨_,_,_,w⟩
   ·exact w
   ·exact absurd z (w o j e hw sz)
  |map es ac =>
   obtain⟨b0,aa,p1,p2,p3,p4,p5,p6⟩:=h0;obtain⟨b,ae,z,B,C,D,E,q6⟩:=K;refine⟨b,ae,by rw[phi o j];exact z,B,C,D,λi w=>E i (F o b i _ h cn z w),λi k v m e hi he=>?_⟩;obtain⟨r1,r2,r3⟩:=q6 i k v m e hi he;have R:i<aa.size:=by rw[p4];exact Zn hi
   obtain⟨s1,s2,_⟩:=p6 i k v m aa[i] hi (zP R);exact⟨r1.back (s1.sc past),r2.back (s2.sc past),r3⟩
  |siter s ak =>
   obtain⟨b,s',z,B,C,D,E⟩:=K;exact⟨b,s',by rw[phi o j];exact z,B,C,D,λi w=>E i (F o b i _ h cn z w)⟩
 ·obtain⟨g1,g2⟩:=A o b h;obtain⟨g3,g4⟩:=A o' b M;exact y.inj o o' b g2 g4 (ab o hd g1) (ab o' af g3)
 ·exact y.tinj _ _ _ _ _ _ _ _ _ (I _ _ h).2 (I _ _ M).2
 ·exact y.apart _ _ _ _ _ o (I _ _ h).2 (A o b M).2
 ·rcases h with h|⟨_,h,_⟩
  ·exact y.puball b i h
  ·exact h
theorem kI {f:Nat}{a b:AV}(h:Zh H' n f a=N b)(g:a.isCell=Q):b.isCell=Q:=by
 cases f with
 |zero=>cases h
 |succ f =>
  cases a <;> simp only[Zh]at h <;> first
   |(simp[zJ]at g;done)
   |(injection h with h;subst h;rfl)
   |(split at h <;> first|(injection h with h;subst h;rfl)|(cases h;done)|(split at h <;> first|(cases h;done)|(split at h <;> first|(cases h;done)|(injection h with h;subst h;rfl))))
theorem Zrc {f:Nat}{l:List AV}{b:AV}(h:Zh H' n (f+1) (.agg l)=N b):∃ g,b=.agg g/\l.mapM (Zh H' n f)=N g:=by
 simp only[Zh]at h;split at h
 ·injection h with h;exact⟨_,h.symm,‹_›⟩
 ·cases h
def Zj1 (e:AV)(g:Nat->Value):Value :=
 match e with
 |.agg cs=>.agg ((yP (O cs)).map g).toArray
 |_=>g 0
theorem ZvN {e:AV}{g:Nat->Value}(y:e.cells.all zJ=Q)(h:∀ (i:Nat) (c:AV),e.cells[i]?=N c->VRel S e (Zj1 e g)\/VRel S c (g i))(j:∀ (i:Nat) (c:AV),e.cells[i]?=N c->VRel S c (g i)):VRel S e (Zj1 e g):=by
 cases e with
 |agg w =>
  refine .agg w _ y cn λi c v hi u=>?_;have:=Zn hi;simp[this]at u;subst u;exact j i c hi
 |_=>first|exact j 0 _ rfl
theorem Zrl {f:Nat}{e b:AV}{g:Nat->Value}{T:Snap}(h:Zh H' n f e=N b)(y:e.cells.all zJ=Q)(w:VRel T b (Zj1 e g)) :
 O b.cells=O e.cells/\b.cells.all zJ=Q/\∀ (i:Nat) (c:AV),b.cells[i]?=N c->VRel T c (g i):=by
 have u:e.isCell=Q->e.cells=[e]->Zj1 e g=g 0->O b.cells=O e.cells/\b.cells.all zJ=Q/\∀ (i:Nat) (c:AV),b.cells[i]?=N c->VRel T c (g i):=by
  intro B C D;have j:=kI h B;rw[Zbi j,C];refine⟨rfl,by simp[j],λi c hi=>?_⟩
  cases i with
  |zero=>simp at hi;subst hi;rwa [D]at w
  |succ i=>simp at hi
 cases e with
 |agg A =>
  cases f with
  |zero=>cases h
  |succ f =>
   obtain⟨F,rfl,E⟩:=Zrc h;obtain⟨z,I⟩:=Jn E;simp only[Zj1]at w;cases w with|agg _ _ hb1 hb2 hb3 =>
   refine⟨by simpa[yN]using z,hb1,λi c hi=>hb3 i c (g i) hi ?_⟩;have:i<O A:=by rw[<-z];exact Zn hi
   simp[this]
 |undef=>simp[yN,zJ]at y
 |tuple l=>simp[yN,zJ]at y
 |_=>exact u rfl rfl rfl
theorem S5 {f k:Nat}{l u:List AV}{T:Snap}{g:Nat->Nat->Value}(R:∀ (a b:AV) (v:Value),Zh H' n f a=N b->VRel S a v->VRel T b v)(L:l.mapM (Zh H' n f)=N u)
 (K:∀ e,e∈l->O e.cells=k/\e.cells.all zJ=Q) (D:∀ (j:Nat) (e:AV) (i:Nat) (c:AV),l[j]?=N e->e.cells[i]?=N c->VRel S c (g j i)) :
 O u=O l/\(∀ e,e∈u->O e.cells=k/\e.cells.all zJ=Q)/\∀ (j:Nat) (e:AV) (i:Nat) (c:AV),u[j]?=N e->e.cells[i]?=N c->VRel T c (g j i):=by
 obtain⟨E,m2⟩:=Jn L
 have key:∀ (j:Nat) (b:AV),u[j]?=N b->∃ e,l[j]?=N e/\Zh H' n f e=N b:=λj b h=>by
  have z:j<O l:=by rw[<-E];exact Zn h
  obtain⟨b',F,B⟩:=m2 j l[j] (zC z);rw[h]at B;injection B with B;subst B;exact⟨l[j],zC z,F⟩
 have one:∀ (j:Nat) (b:AV),u[j]?=N b->O b.cells=k/\b.cells.all zJ=Q/\∀ (i:Nat) (c:AV),b.cells[i]?=N c->VRel T c (g j i):=λj b h=>by
  obtain⟨e,y,w⟩:=key j b h;obtain⟨C,A⟩:=K e (zA y);have M:=ZvN (S:=S) (g:=g j) A (λi c hi=>.inr (D j e i c y hi)) (λi c hi=>D j e i c y hi);obtain⟨q1,q2,q3⟩:=Zrl w A (R e b _ w M);exact⟨by rw[q1,C],q2,q3⟩
 refine⟨E,λb h=>?_,λj e i c y I=>(one j e y).2.2 i c I⟩;obtain⟨j,z⟩:=zL h;exact⟨(one j b z).1,(one j b z).2.1⟩
theorem U1 {f:Nat}{l j:List AV}{T:Snap}{vs:Array Value}(C:∀ (a b:AV) (v:Value),Zh H' n f a=N b->VRel S a v->VRel T b v)(z:l.mapM (Zh H' n f)=N j)
 (A:vs.size=O l) (h:∀ (i:Nat) (c:AV) (v:Value),l[i]?=N c->vs[i]?=N v->VRel S c v) :
 vs.size=O j/\∀ (i:Nat) (c:AV) (v:Value),j[i]?=N c->vs[i]?=N v->VRel T c v:=by
 obtain⟨w,D⟩:=Jn z;refine⟨by rw[A,w],λi b v u B=>?_⟩;have hi:i<O l:=by rw[<-w];exact Zn u
 obtain⟨b',y,g⟩:=D i l[i] (zC hi);rw[u]at g;injection g with g;subst g;exact C _ _ v y (h i _ v (zC hi) B)
theorem Md {f:Nat}{l j:List AV}(y:l.mapM (Zh H' n f)=N j)(w:l.all zJ=Q):j.all zJ=Q:=by
 obtain⟨z,A⟩:=Jn y;refine ZqS λi b h=>?_;have hi:i<O l:=by rw[<-z];exact Zn h
 obtain⟨b',u,g⟩:=A i l[i] (zC hi);rw[h]at g;injection g with g;subst g;exact kI u (Zig w (zC hi))
theorem CE (B:Inv W0 S H')(ht:H'.take (O H)=H):∀ (f:Nat) (a b:AV) (v:Value),Zh H' (O H) f a=N b->VRel S a v->VRel (S.back H) b v:=by
 have an:∀ o,o<O H->H'[o]?=H[o]?:=λo ho=>by
  rw[<-ht,zI ho]
 intro f
 induction f with
 |zero=>intro a b v h;cases h
 |succ f ih =>
  intro a b v h hv
  cases hv with
  |undef v=>simp only[Zh]at h;injection h with h;subst h;exact .undef v
  |bool c=>simp only[Zh]at h;injection h with h;subst h;exact .bool c
  |int k m=>simp only[Zh]at h;injection h with h;subst h;exact .int k m
  |str s c C=>simp only[Zh]at h;injection h with h;subst h;exact .str s c C
  |nilp=>simp only[Zh]at h;injection h with h;subst h;exact .nilp
  |nils=>simp only[Zh]at h;injection h with h;subst h;exact .nils
  |nilm=>simp only[Zh]at h;injection h with h;subst h;exact .nilm
  |nilf=>simp only[Zh]at h;injection h with h;subst h;exact .nilf
  |nili=>simp only[Zh]at h;injection h with h;subst h;exact .nili
  |ptr o off c C =>
   simp only[Zh]at h;split at h
   ·injection h with h;subst h;exact .ptr o off c (by simp[Snap.back, *])
   ·cases h
  |map o c C =>
   simp only[Zh]at h;split at h
   ·injection h with h;subst h;exact .map o c (by simp[Snap.back, *])
   ·cases h
  |vp cells c off g C h1 h2 =>
   simp only[Zh]at h;split at h
   ·rename_i R M;injection h with h;subst h;obtain⟨m1,m2⟩:=Jn M;refine .vp R c off g (Md M C) (λi hi=>⟨(h1 i cm).1,.inl (h1 i cm).2⟩) λi b hb=>?_;have hi:i<O cells:=by rw[<-m1];exact Zn hb
    obtain⟨b',A,I⟩:=m2 i cells[i] (zC hi);rw[hb]at I;injection I with I;subst I;exact ih _ _ _ A (h2 i _ (zC hi))
   ·cases h
  |vs k tok l c off cap g ay hk h1 h2 ao sp ax =>
   simp only[Zh]at h;split at h
   ·rename_i R M;injection h with h;subst h;obtain⟨A,D,I⟩:=S5 (S:=S) (g:=g) ih M hk h2;rw[<-A];refine VRel.vs (S:=S.back H) k _ R c off cap g cm D (λj i hj hi=>⟨(h1 j i cm hi).1,.inl (h1 j i cm hi).2⟩) I ?_ sp ax
    cases tok with
    |no=>trivial
    |clip=>simp only[TokOk]at ao ⊢;omega
    |own t e =>
     simp only;split
     ·rename_i ak;obtain⟨e0,b0,hw0,aa,p1,p2⟩:=ao;rw[A];exact⟨e0,b0,hw0,aa,by simp[Snap.back,ak,p1],p2⟩
     ·trivial
   ·cases h
  |rs ag k o off len cap c C ac =>
   simp only[Zh]at h;split at h
   ·injection h with h;subst h;exact .rs ag k o off len cap c (by simp[Snap.back, *]) ac
   ·rename_i aw;split at h
    ·rename_i l y;split at h
     ·rename_i R M;injection h with h;subst h;unfold elems at y;simp only[true_and]at y;split at y
      ·rename_i ah;split at y
       ·rename_i cs ho;split at y
        ·rename_i af;injection y with y;obtain⟨b',z,el,p1,p2,p3,p4,p5,p6,p7⟩:=B.objs o _ ho;rw[C]at p1;injection p1 with p1;subst p1;obtain⟨f1,f2,f3⟩:=Mg ah len (cs.drop off) (Zfh p7 off) (by simp;omega);rw[y]at f1 f2 f3;have fc:(flat l).all zJ=Q:=by rw[f1];exact ZbR p7 off (len*k)
         obtain⟨A,D,I⟩:=S5 (S:=S) (T:=S.back H) (g:=λj i=>z.getD (off+(j*k+i)) undef) ih M (λe L=>⟨f2 e L,Ik fc L⟩) (λj e i x L hx=>by
          have aj:=Zn L;have ai:i<k:=by rw[<-f2 e (zA L)];exact Zn hx
          have ab:j*k+i<len*k:=by
           have:=zO k (zS aj);rw[zQ,f3]at this;omega
          have ae:=JE f2 j i e L ai;rw[hx,f1,zI ab,zN]at ae;have:off+(j*k+i)<z.size:=cm
          refine p5 _ x _ ae ?_;simp[this])
         have ad:len=O R:=cm
         rw[ad];have E:∀ i,(S.back H).pub c i:=λi=>.inr ⟨yB B.lim p2,Nh p3,λo' x hx ap hp=>?_,λt ak e hw sz al=>?_⟩
         ·refine .vs k .no R c off cap _ cm D (λj i hj hi=>⟨?_,E _⟩) I trivial Z (.inl rfl)
          have ab:j*k+i<len*k:=by
           have:=zO k (zS hj);rw[zQ,<-ad]at this;omega
          have:off+(j*k+i)<z.size:=cm
          show S.w.cell? _=_;rw[cell_of_row S.w c _ z el (0,0) p3,show off+j*k+i=off+(j*k+i) by omega];simp[this]
         ·have au:=Zn hx;have:=B.inj o' o c hp C (by rw[an o' au,hx];simp[ap]) (by rw[ho];simp);omega
         ·exact B.apart t e c hw sz o al C
        ·cases y
       ·cases y
      ·cases y
     ·cases h
    ·cases h
  |wp o e off c C =>
   simp only[Zh]at h;split at h
   ·rename_i ho;injection h with h;subst h;obtain⟨e0,b0,hw0,aa,A,D⟩:=C;exact .wp o e off c ⟨e0,b0,hw0,aa,by simp[Snap.back,ho,A],D⟩
   ·cases h
  |ws ag k o e len cap c C ac =>
   simp only[Zh]at h;split at h
   ·rename_i ho;injection h with h;subst h;obtain⟨e0,b0,hw0,aa,A,D⟩:=C;exact .ws ag k o e len cap c ⟨e0,b0,hw0,aa,by simp[Snap.back,ho,A],D⟩ ac
   ·rename_i aw;split at h
    ·rename_i l y;split at h
     ·rename_i R M;injection h with h;subst h;unfold elems at y;simp only[true_and]at y;split at y
      ·rename_i ah;split at y
       ·rename_i e' cs ho;split at y
        ·rename_i af;obtain⟨rfl,af⟩:=af;injection y with y;obtain⟨e0,b0,hw0,aa,A,D,I⟩:=C;obtain⟨b',az,z,el,fz,p1,p2,p3,p4,p5,p6,p7,p8,p9⟩:=B.objs o _ ho;have am:=A;rw[p1]at am;simp only[zR,zX]at am;obtain⟨u1,u2,u3,u4⟩:=am;obtain⟨w1,w2,w3⟩:=I cm;obtain rfl:c=b':=cm
         obtain⟨f1,f2,f3⟩:=Mg ah len cs p8 af;rw[y]at f1 f2 f3;have fc:(flat l).all zJ=Q:=by rw[f1];exact ZbR p8 0 (len*k)
         obtain⟨A,D,I⟩:=S5 (S:=S) (T:=S.back H) (g:=λj i=>z.getD (j*k+i) undef) ih M (λe L=>⟨f2 e L,Ik fc L⟩) (λj e i x L hx=>by
          have aj:=Zn L;have ai:i<k:=by rw[<-f2 e (zA L)];exact Zn hx
          have ab:j*k+i<len*k:=by
           have:=zO k (zS aj);rw[zQ,f3]at this;omega
          have ae:=JE f2 j i e L ai;rw[hx,f1,zI ab]at ae;have:j*k+i<z.size:=cm
          refine p6 _ x _ ae ?_;simp[this])
         have ad:len=O R:=cm
         rw[ad];have E:∀ i,(S.back H).pub c i:=λi=>.inr ⟨yB B.lim p2,Nh p3,λo' x hx ap hp=>?_,λt ak e hw sz al=>?_⟩
         ·refine .vs k .no R c 0 cap _ cm D (λj i hj hi=>⟨?_,E _⟩) I trivial Z (.inl rfl)
          have ab:j*k+i<len*k:=by
           have:=zO k (zS hj);rw[zQ,<-ad]at this;omega
          have:j*k+i<z.size:=cm
          show S.w.cell? _=_;rw[cell_of_row S.w c _ z el fz p3,show 0+j*k+i=j*k+i by omega];simp[this]
         ·exact B.apart o _ c _ _ o' p1 hp
         ·have:=B.tinj _ _ _ _ _ _ _ _ _ al p1;omega
        ·cases y
       ·cases y
      ·cases y
     ·cases h
    ·cases h
  |fn fn a1 a2 F K hF hK h1 h2 =>
   simp only[Zh]at h;split at h
   ·rename_i l1 l2 aq ar;injection h with h;subst h;obtain⟨A,D⟩:=U1 (S:=S) ih aq hF h1;obtain⟨I,q4⟩:=U1 (S:=S) ih ar hK h2;exact .fn fn l1 l2 F K A I D q4
   ·cases h
  |iface t x u hx =>
   simp only[Zh]at h;split at h
   ·injection h with h;subst h;exact .iface t _ u (ih _ _ _ ‹_› hx)
   ·cases h
  |agg l vs C hs h1 =>
   simp only[Zh]at h;split at h
   ·rename_i R M;injection h with h;subst h;obtain⟨A,D⟩:=U1 (S:=S) ih M hs h1;exact .agg R vs (Md M C) A D
   ·cases h
  |tuple l vs hs h1 =>
   simp only[Zh]at h;split at h
   ·rename_i R M;injection h with h;subst h;obtain⟨A,D⟩:=U1 (S:=S) ih M hs h1;exact .tuple R vs A D
   ·cases h
theorem VRel.bare {T:Snap}(hw:T.w=S.w)(hp:∀ b i,S.pub b i->T.pub b i){a:AV}{v:Value}(h:VRel S a v)(y:Sc 0 a):VRel T a v:=by
 induction h with
 |undef v=>exact .undef v
 |bool b=>exact .bool b
 |int k m=>exact .int k m
 |str s b h=>exact .str s b h
 |nilp=>exact .nilp
 |ptr o off b h=>cases y with|ptr _ _ ho=>exact absurd ho (zG _)
 |vp cells b off f E D h2 z =>
  cases y with|vp _ hcs =>
  exact .vp cells b off f E (λi hi=>⟨by rw[hw];exact (D i hi).1,hp _ _ (D i hi).2⟩) λi c hi=>z i c hi (hcs c (zA hi))
 |nils=>exact .nils
 |vs k tok l b off cap f I hk D h2 ht sp M z =>
  cases y with|vs _ _ _ htk hcs =>
  refine VRel.vs (S:=T) k tok l b off cap f I hk (λj i hj hi=>⟨by rw[hw];exact (D j i hj hi).1,hp _ _ (D j i hj hi).2⟩) (λj e i c he E=>z j e i c he E (hcs e (zA he) c (zA E))) ?_ sp M
  cases tok with
  |no=>trivial
  |clip=>exact ht
  |own t e=>exact absurd (htk t e rfl) (zG _)
 |rs ag k o off len cap b h L=>cases y with|rs _ _ _ _ _ _ ho=>exact absurd ho (zG _)
 |ws ag k o e len cap b h L=>cases y with|ws _ _ _ _ _ ho=>exact absurd ho (zG _)
 |wp o e off b h=>cases y with|wp _ _ _ ho=>exact absurd ho (zG _)
 |nilm=>exact .nilm
 |map o b h=>cases y with|map _ ho=>exact absurd ho (zG _)
 |nilf=>exact .nilf
 |fn fn first C F K hF hK D h2 R aa =>
  cases y with|fn _ _ _ g1 g2 =>
  exact .fn fn _ _ F K hF hK (λi c v hi B=>R i c v hi B (g1 c (zA hi))) (λi c v hi B=>aa i c v hi B (g2 c (zA hi)))
 |nili=>exact .nili
 |iface t v u h z=>cases y with|iface _ _ g=>exact .iface t v u (z g)
 |agg cells vs E A h z=>cases y with|agg _ g=>exact .agg _ _ E A λi c v hi B=>z i c v hi B (g c (zA hi))
 |tuple l vs A h z=>cases y with|tuple _ g=>exact .tuple _ _ A λi c v hi B=>z i c v hi B (g c (zA hi))
theorem Zp8 {T:Snap}(hw:T.w=S.w)(hp:∀ b i,S.pub b i->T.pub b i):∀ (f:Nat) (a b:AV) (v:Value),Zh [] 0 f a=N b->VRel S a v->VRel T b v:=by
 intro f
 induction f with
 |zero=>intro a b v h;cases h
 |succ f E =>
  intro a b v h hv
  cases hv with
  |undef v=>simp only[Zh]at h;injection h with h;subst h;exact .undef v
  |bool c=>simp only[Zh]at h;injection h with h;subst h;exact .bool c
  |int k m=>simp only[Zh]at h;injection h with h;subst h;exact .int k m
  |str s c z=>simp only[Zh]at h;injection h with h;subst h;exact .str s c z
  |nilp=>simp only[Zh]at h;injection h with h;subst h;exact .nilp
  |nils=>simp only[Zh]at h;injection h with h;subst h;exact .nils
  |nilm=>simp only[Zh]at h;injection h with h;subst h;exact .nilm
  |nilf=>simp only[Zh]at h;injection h with h;subst h;exact .nilf
  |nili=>simp only[Zh]at h;injection h with h;subst h;exact .nili
  |ptr o off c z =>
   simp only[Zh]at h;split at h
   ·rename_i B;exact absurd B (zG _)
   ·cases h
  |map o c z =>
   simp only[Zh]at h;split at h
   ·rename_i B;exact absurd B (zG _)
   ·cases h
  |vp cells c off g z y M =>
   simp only[Zh]at h;split at h
   ·rename_i I A;injection h with h;subst h;obtain⟨m1,m2⟩:=Jn A;refine .vp I c off g (Md A z) (λi hi=>⟨by rw[hw];exact (y i cm).1,hp _ _ (y i cm).2⟩) λi b hb=>?_;have hi:i<O cells:=by rw[<-m1];exact Zn hb
    obtain⟨b',C,D⟩:=m2 i cells[i] (zC hi);rw[hb]at D;injection D with D;subst D;exact E _ _ _ C (M i _ (zC hi))
   ·cases h
  |vs k tok l c off cap g af hk y M ad sp ac =>
   simp only[Zh]at h;split at h
   ·rename_i I A;injection h with h;subst h;obtain⟨C,L,D⟩:=S5 (S:=S) (g:=g) E A hk M;rw[<-C];refine VRel.vs (S:=T) k _ I c off cap g cm L (λj i hj hi=>⟨by rw[hw];exact (y j i cm hi).1,hp _ _ (y j i cm hi).2⟩) D ?_ sp ac
    cases tok with
    |no=>trivial
    |clip=>simp only[TokOk]at ad ⊢;omega
    |own t e =>
     simp only;split
     ·rename_i ae;exact absurd ae (zG _)
     ·trivial
   ·cases h
  |wp o e off c z =>
   simp only[Zh]at h;split at h
   ·rename_i B;exact absurd B (zG _)
   ·cases h
  |ws ag k o e len cap c z R =>
   simp only[Zh]at h;split at h
   ·rename_i B;exact absurd B (zG _)
   ·have:elems k (.ws ag k o e len) ([]:Hp)=Z:=by simp[elems]
    rw[this]at h;cases h
  |rs ag k o off len cap c z R =>
   simp only[Zh]at h;split at h
   ·rename_i B;exact absurd B (zG _)
   ·have:elems k (.rs ag k o off len cap) ([]:Hp)=Z:=by simp[elems]
    rw[this]at h;cases h
  |fn fn a1 a2 F K hF hK y M =>
   simp only[Zh]at h;split at h
   ·rename_i l1 l2 aa ab;injection h with h;subst h;obtain⟨C,L⟩:=U1 (S:=S) E aa hF y;obtain⟨D,q4⟩:=U1 (S:=S) E ab hK M;exact .fn fn l1 l2 F K C D L q4
   ·cases h
  |iface t x u hx =>
   simp only[Zh]at h;split at h
   ·injection h with h;subst h;exact .iface t _ u (E _ _ _ ‹_› hx)
   ·cases h
  |agg l vs z hs y =>
   simp only[Zh]at h;split at h
   ·rename_i I A;injection h with h;subst h;obtain⟨C,L⟩:=U1 (S:=S) E A hs y;exact .agg I vs (Md A z) C L
   ·cases h
  |tuple l vs hs y =>
   simp only[Zh]at h;split at h
   ·rename_i I A;injection h with h;subst h;obtain⟨C,L⟩:=U1 (S:=S) E A hs y;exact .tuple I vs C L
   ·cases h
end
end Go.Am
