/- THE ABSTRACT MACHINE -/
import Derived.Test.YtnaneekpogohaaaGreatDoorHmAx
open List renaming mem_of_getElem?->zA,getElem?_append_left->zB,getElem?_eq_getElem->zC,getElem?_eq_none->zE,getElem?_append_right->zF,getElem?_take_of_lt->zI,getElem?_of_mem->zL,getElem?_drop->zN,getElem?_set_ne->zT,all_eq_true->zY,length_take->zZ,getElem?_toArray->yD,replicate->yE,mem_of_mem_drop->yF,length_append->yH,length_nil->yK,range->yP
open Nat renaming not_lt_zero->zG,lt_or_ge->zH,mul_le_mul_right->zO,succ_mul->zQ,succ_le_of_lt->zS,zero_add->zV,lt_succ_of_lt->zW,add_zero->yA,le_trans->yB,le_refl->yC,lt_irrefl->yG,add_comm->yI,add_assoc->yL,mul_comm->yM
open Array renaming getElem?_toList->zD,getElem?_extract->zK,length_toList->zM,getElem?_eq_getElem->zP,toArray_toList->zU
open Option.some renaming injEq->zR
open Prod.mk renaming injEq->zX
open Go.Am.AObj renaming dead->yJ
open Go.Am.AV renaming isCell->zJ,cells->yN,int->yO
namespace Go.Am
open RowKit
section
variable {P:Program}{S:Snap}{W0:World}{H:Hp}
theorem Below.setRow {B g:Nat}{a w:World}(h:Below B a w)(u:B<=g)(j:Array Value):Below B a (w.setRow g j) :=
 h.trans ⟨rfl,rfl,rfl,by simp,fun k hk=>setRow_other _ _ _ _ (by omega)⟩
theorem CellsRel.oneCells {l:List AV}{c:Array Value}(h:CellsRel S l c):∀ v∈c.toList,v.oneCell'=true:=by
 intro v y;obtain⟨i,hi⟩:=zL y;rw[zD]at hi
 have j:i<l.length:=by
  rw[<-h.size];rcases zH i c.size with u|u
  ·exact u
  ·rw[Array.getElem?_eq_none u]at hi;cases hi
 have w:=h.rel i l[i] v (zC j) hi;have g:(l[i]).isCell=true:=zY.1 h.cell _ (List.getElem_mem j);generalize l[i]=a at w g;cases w <;> first|rfl|(simp[zJ]at g;done)
theorem ZqN {α:Type}{l:List α}{i:Nat}{x:α}(h:l[i]?=some x):i<l.length:=by
 rcases zH i l.length with g|g
 ·exact g
 ·rw[zE g]at h;cases h
def Snap.obj (S:Snap)(n:Nat)(o:Obj):Snap:={ S with w:=S.w.alloc o,phi:=fun x=>if x=n then some S.w.heap.size else S.phi x }
theorem Ext.objAt (g:Inv W0 S H){n:Nat}(j:S.phi n=none)(o:Obj):Ext S (S.obj n o):=by
 refine⟨⟨fun x b h=>?_,fun b i h=>⟨h,World.cell?_alloc_lt _ _ _ (g.puball b i h)⟩,fun _ e b hw sz h=>⟨e,b,hw,sz,h,yC _,fun _=>⟨rfl,rfl,rfl⟩⟩⟩,rfl,fun _ _ h _=>h⟩;show (if x=n then _ else _)=_;rw[if_neg]
 ·exact h
 ·rintro rfl
  rw[j]at h;cases h
theorem Ext.obj (g:Inv W0 S H)(o:Obj):Ext S (S.obj H.length o):=Ext.objAt g (g.past _ (yC _)).1 o
theorem YW (S:Snap)(n:Nat)(o:Obj):(S.obj n o).phi n=some S.w.heap.size:=by simp[Snap.obj]
theorem QV {n x:Nat}{o:Obj}(h:x≠n):(S.obj n o).phi x=S.phi x:=by simp[Snap.obj,h]
theorem Ns (S:Snap)(n:Nat)(o:Obj):(S.obj n o).w.heap[S.w.heap.size]?=some o:=heap_alloc_new S.w o
theorem Inv.objAt (j:Inv W0 S H){n0:Nat}{H':Hp}{o:Obj}{x:AObj}(M:S.phi n0=none)(F:H'[n0]?=some x)(L:∀ m,m≠n0->H'[m]?=H[m]?)(T:H.length<=H'.length)(N:ORel (S.obj n0 o) W0.heap.size n0 x):Inv W0 (S.obj n0 o) H':=by
 have D:=Ext.objAt j M o
 have R:n0<H'.length:=by
  rcases zH n0 H'.length with J|J
  ·exact J
  ·rw[zE J]at F;cases F
 refine⟨j.below.alloc j.size o,fun n y h=>?_,fun n F=>?_,fun I E b z A B C=>?_,j.tinj,fun t e b hw sz n Q=>?_,fun b i h=>?_,fun n b h=>?_,fun t e b hw sz h=>?_,j.lim⟩
 ·by_cases g:n=n0
  ·subst g;rw[F]at h;injection h with h;subst h;exact N
  ·rw[L n g]at h;exact (j.objs n y h).frame D (fun b _ K=>⟨Below.heap_alloc S.w o b K,fun i M=>M⟩) rfl (QV g)
 ·obtain⟨p,q⟩:=j.past n (by omega);exact⟨by rw[QV (by omega)];exact p,q⟩
 ·have old:∀ x,x≠n0->(S.obj n0 o).phi x=some b->b<S.w.heap.size:=fun x N h=>by rw[QV N]at h;exact j.dom x b h
  by_cases g:I=n0
  ·by_cases u:E=n0
   ·rw[g,u]
   ·rw[g,YW]at z;injection z with z;have:=old E u A;omega
  ·by_cases u:E=n0
   ·rw[u,YW]at A;injection A with A;have:=old I g z;omega
   ·rw[L I g]at B;rw[L E u]at C;rw[QV g]at z;rw[QV u]at A;exact j.inj I E b z A B C
 ·by_cases g:n=n0
  ·rw[g,YW];have:=j.tdom t e b hw sz Q;intro O;injection O with O;omega
  ·rw[QV g];exact j.apart t e b hw sz n Q
 ·show b<(S.w.alloc o).heap.size;rw[World.size_alloc];exact zW (j.puball b i h)
 ·show b<(S.w.alloc o).heap.size;rw[World.size_alloc];by_cases g:n=n0
  ·rw[g,YW]at h;injection h with h;omega
  ·rw[QV g]at h;exact zW (j.dom n b h)
 ·show b<(S.w.alloc o).heap.size;rw[World.size_alloc];exact zW (j.tdom t e b hw sz h)
theorem Inv.obj (j:Inv W0 S H){o:Obj}{x:AObj}(u:ORel (S.obj H.length o) W0.heap.size H.length x):Inv W0 (S.obj H.length o) (H++[x]):=by
 refine Inv.objAt j (j.past _ (yC _)).1 (by simp) (fun m hm=>?_) (by simp) u;rcases zH m H.length with h|g
 ·rw[zB h]
 ·rw[zE g,zE (by simp;omega)]
theorem Inv.resv (j:Inv W0 S H)(n:Nat):Inv W0 S (H++yE n .free):=by
 have get:∀ m,H.length<=m->(H++yE n AObj.free)[m]?=none\/(H++yE n AObj.free)[m]?=some .free:=fun m hm=>by
  rw[zF hm,List.getElem?_replicate];split
  ·exact .inr rfl
  ·exact .inl rfl
 refine⟨j.below,fun o x h=>?_,fun o h=>j.past o (by simp at h;omega),fun o B b h u A w=>?_,j.tinj,j.apart,j.puball,j.dom,j.tdom,j.lim⟩
 ·rcases zH o H.length with z|y
  ·rw[zB z]at h;exact j.objs o x h
  ·rcases get o y with g|g
   ·rw[g]at h;cases h
   ·rw[g]at h;injection h with h;subst h;exact j.past o y
 ·have lt:∀ o b,S.phi o=some b->o<H.length:=fun o b h=>by
   rcases zH o H.length with u|u
   ·exact u
   ·rw[(j.past o u).1]at h;cases h
  rw[zB (lt o b h)]at A;rw[zB (lt B b u)]at w;exact j.inj o B b h u A w
theorem C7 {l:List AV}{c:Array Value}(h:Inv W0 S H)(j:CellsRel S l c)(el:TypeId) :
 (newRow el c).run P S.w=.ok ⟨S.w.heap.size,0,none⟩ (S.obj H.length (.cells c el)).w/\Inv W0 (S.obj H.length (.cells c el)) (H++[.cells l])/\(S.obj H.length (.cells c el)).phi H.length=some S.w.heap.size:=by
 have g:=Ext.obj h (.cells c el);refine⟨by simp[newRow];rfl,h.obj ⟨S.w.heap.size,c,el,YW S _ _,h.size,Ns S _ _,j.size,fun i x v hi y=>(j.rel i x v hi y).mono g,fun i u=>?_,j.cell⟩,YW S _ _⟩;exact absurd (h.puball _ i u) (yG _)
theorem ZmX {T u:TypeId}{c:Array Value}(j:Inv W0 S H)(z:c=#[.pointer none,.slice none 0 0])(y:T≠u) :
 (newRow T c).run P S.w=.ok ⟨S.w.heap.size,0,none⟩ (S.obj H.length (.cells c T)).w/\Inv W0 (S.obj H.length (.cells c T)) (H++[.bld T u []])/\(S.obj H.length (.cells c T)).phi H.length=some S.w.heap.size:=by
 subst z;refine⟨by simp[newRow];rfl,j.obj ⟨S.w.heap.size,YW S _ _,.inl ⟨j.size,.slice none 0 0,Ns S _ _,World.ownsRowF_nil _ _ _ _,by simp[Value.ownBlock]⟩,y,fun i B=>?_,fun v g h A=>?_⟩,YW S _ _⟩
 ·exact absurd (j.puball _ i B) (yG _)
 ·have:=Ns S H.length (.cells #[.pointer none,.slice none 0 0] T);rw[Lib.cell_of_heap this]at h;injection h with h;subst h;simp[Value.ownBlock]at A
theorem ZkA {n:Nat}{l:List AV}{c:Array Value}(j:Inv W0 S H)(A:H[n]?=some .free)(y:CellsRel S l c)(el:TypeId) :
 (newRow el c).run P S.w=.ok ⟨S.w.heap.size,0,none⟩ (S.obj n (.cells c el)).w/\Ext S (S.obj n (.cells c el))/\Inv W0 (S.obj n (.cells c el)) (H.set n (.cells l))/\(S.obj n (.cells c el)).phi n=some S.w.heap.size:=by
 have g:=j.objs n _ A;have h:=Ext.objAt j g.1 (.cells c el)
 have z:n<H.length:=by
  rcases zH n H.length with u|u
  ·exact u
  ·rw[zE u]at A;cases A
 refine⟨by simp[newRow];rfl,h,j.objAt g.1 (x:=.cells l) (by simp[z]) (fun m hm=>by rw[zT (Ne.symm hm)]) (by simp) ⟨S.w.heap.size,c,el,YW S _ _,j.size,Ns S _ _,y.size,fun i x v hi C=>(y.rel i x v hi C).mono h,fun i B=>?_,y.cell⟩,YW S _ _⟩;exact absurd (j.puball _ i B) (yG _)
theorem R2 (P:Program)(g o:Nat)(t:TypeId)(fz:Nat×Nat):∀ (vs:List Value) (i:Nat) (cur:Array Value) (w:World),w.heap[g]?=some (.cells cur t fz)->Zpt cur.size fz->o+i+vs.length<=cur.size->(∀ v∈vs,v.oneCell'=true) ->
 (storeCells ⟨g,o,none⟩ vs i).run P w=.ok () (w.setRow g (cur.toList.take (o+i)++vs++cur.toList.drop (o+i+vs.length)).toArray):=by
 intro vs
 induction vs with
 |nil =>
  intro i cur w j A y z;simp only[storeCells,List.append_nil,yK,yA,List.take_append_drop,zU];rw[setRow_self w g cur t fz j];rfl
 |cons v rest E =>
  intro i cur w j A y z;have hi:o+i<cur.size:=by simp at y;omega
  have h:w.cell? ⟨g,o+i,none⟩=some cur[o+i]:=by simp[World.cell?,j,hi]
  have u:w.frozen? ⟨g,o+i,none⟩=false:=by
   have:=A (o+i) hi;obtain⟨lo,C⟩:=fz;simp only[World.frozen?,j,Bool.and_eq_false_iff,decide_eq_false_iff_not];simp only at this;omega
  have B:(store ((⟨g,o,none⟩:Addr).add i) v).run P w=.ok () (w.setRow g (cur.setIfInBounds (o+i) v)):=by
   rw[YJ,run_store P w _ v _ (z v (by simp)),h];simp[u,setCell_eq_setRow w g (o+i) cur t fz v j]
  have:=E (i+1) (cur.setIfInBounds (o+i) v) (w.setRow g (cur.setIfInBounds (o+i) v)) (setRow_heap w g cur _ t _ j) (by simpa using A) (by simp at y ⊢;omega) (fun x D=>z x (by simp[D]));simp only[storeCells,Sem.run_bind,B,Result.andThen_ok,this,setRow_setRow];congr 3;have e:=list_seg_step cur.toList (o+i) v rest (by simp at y ⊢;omega);simpa[Array.toList_setIfInBounds,yL]using e
theorem Ext.write {b:Nat}(g:∀ i,¬ S.pub b i)(c':Array Value):Ext S { S with w:=S.w.setRow b c' } :=
 ⟨⟨fun _ _ h=>h,fun b' i h=>⟨h,cell_setRow_other _ _ _ _ (by rintro rfl;exact g i h)⟩,fun _ e b hw sz h=>⟨e,b,hw,sz,h,yC _,fun _=>⟨rfl,rfl,rfl⟩⟩⟩,rfl,fun _ _ h _=>h⟩
theorem Inv.writeG (g:Inv W0 S H){o b:Nat}{x y:AObj}{c':Array Value}(E:H[o]?=some x)(A:S.phi o=some b\/∃ e hw sz,S.tk o=some (e,b,hw,sz))(U:W0.heap.size<=b)(D:x≠.dead)
 (K:∀ i,¬ S.pub b i) (X:ORel { S with w:=S.w.setRow b c' } W0.heap.size o y):Inv W0 { S with w:=S.w.setRow b c' } (H.set o y):=by
 have B:=Ext.write K c'
 have C:o<H.length:=by
  rcases zH o H.length with F|F
  ·exact F
  ·rw[zE F]at E;cases E
 have u:∀ n:Nat,(H.set o y)[n]?≠some yJ->H[n]?≠some yJ:=fun n h=>by
  by_cases e:o=n
  ·subst e;rw[E];simpa using D
  ·rwa [zT e]at h
 refine⟨Below.setRow g.below U c',fun n z h=>?_,fun n W=>g.past n (by simpa using W),fun Y Z b R T I J=>g.inj Y Z b R T (u _ I) (u _ J),g.tinj,g.apart,fun b' i h=>?_,fun n b' h=>?_,fun t e b' hw sz h=>?_,g.lim⟩
 ·by_cases e:o=n
  ·subst e;simp[C]at h;subst h;exact X
  ·rw[zT e]at h
   cases z with
   |dead=>trivial
   |_ =>
    refine (g.objs n _ h).frame B (fun b' j V=>⟨setRow_other _ _ _ _ ?_,fun i K=>K⟩) rfl rfl
    rintro rfl
    rcases A with A|⟨Q,M,N,A⟩
    ·rcases j with j|⟨O,hw,sz,L⟩
     ·exact e (g.inj o n b' A j (by rw[E];simpa using D) (by rw[h];simp))
     ·exact g.apart n O b' hw sz o L A
    ·rcases j with j|⟨O,hw,sz,L⟩
     ·exact g.apart o Q b' M N n A j
     ·exact e (g.tinj _ _ _ _ _ _ _ _ _ A L)
 ·simpa using g.puball b' i h
 ·simpa using g.dom n b' h
 ·simpa using g.tdom t e b' hw sz h
theorem Inv.write (z:Inv W0 S H){o b:Nat}{l y:List AV}{c c':Array Value}{el:TypeId}(B:H[o]?=some (.cells l))(j:S.phi o=some b)(h:W0.heap.size<=b)
 (A:S.w.heap[b]?=some (.cells c el (0,0))) (u:∀ i,¬ S.pub b i) (g:CellsRel { S with w:=S.w.setRow b c' } y c'):Inv W0 { S with w:=S.w.setRow b c' } (H.set o (.cells y)) :=
 z.writeG B (.inl j) h (by simp) u ⟨b,c',el,j,h,setRow_heap S.w b c c' el (0,0) A,g.size,g.rel,u,g.cell⟩
theorem Zni {t:TypeId}{g:Bool}{sz off b:Nat}{l:List AV}{c:Array Value}{el:TypeId}{fz:Nat×Nat}{v:AV}(E:Xr P t=some g)(F:Xe P t=some sz)(C:S.w.heap[b]?=some (.cells c el fz))(I:l.length<=c.size)
 (D:∀ (i:Nat) (x:AV) (v:Value),l[i]?=some x->c[i]?=some v->VRel S x v) (B:l.all zJ=true) (h:apart g sz l off=some v) :
 ∃ v',(loadVar t ⟨b,off,none⟩).run P S.w=.ok v' S.w/\VRel S v v':=by
 have j:apart g sz (l.drop off) 0=some v:=by
  unfold apart at h ⊢
  cases g with
  |true =>
   simp only[if_true]at h ⊢;split at h
   ·rename_i J;rw[if_pos (by simp;omega)];simpa using h
   ·cases h
  |false=>simpa using h
 exact MU (P:=P) (S:=S) (t:=t) (off:=off) (b:=b) (l:=l.drop off) (f:=fun i=>c.getD (i+off) undef) E F
  (fun i hi=>by
   have y:i+off<c.size:=by simp at hi;omega
   rw[cell_of_row S.w b _ c el fz C];simp[y])
  (fun i x u=>by
   rw[zN]at u
   have y:off+i<l.length:=by
    rcases zH (off+i) l.length with A|A
    ·exact A
    ·rw[zE A]at u;cases u
   have z:i+off<c.size:=by omega
   refine D (off+i) x _ u ?_;rw[yI off i];simp[z]) (by rw[zY]at B ⊢;exact fun x u=>B x (yF u)) j
theorem ZfR {t:TypeId}{g:Bool}{sz:Nat}{a v:AV}{u:Value}(N:Inv W0 S H)(D:Xr P t=some g)(F:Xe P t=some sz)(C:VRel S a u)(h:Z3 g sz a H=some v) :
 ∃ v' J,u=.pointer (some J)/\(loadVar t J).run P S.w=.ok v' S.w/\VRel S v v':=by
 unfold Z3 at h;split at h
 ·rename_i o off;split at h
  ·rename_i l E;cases C with|ptr _ _ b hb =>
   obtain⟨b',c,el,j,A,B,Q,K,L,M⟩:=N.objs o _ E;rw[hb]at j;injection j with j;subst j;obtain⟨v',y,z⟩:=Zni (P:=P) D F B (by omega) K M h;exact⟨v',_,rfl,y,z⟩
  ·cases h
 ·rename_i cells;cases C with|vp _ b off f h0 j A =>
  obtain⟨v',y,z⟩:=MU (P:=P) (S:=S) (t:=t) (off:=off) (b:=b) (f:=f) D F (fun i hi=>by rw[yI];exact (j i hi).1) A h0 h;exact⟨v',_,rfl,y,z⟩
 ·rename_i o e off;split at h
  ·rename_i Z l E;split at h
   ·rename_i T;subst T;cases C with|wp _ _ _ b hb =>
    obtain⟨e0,O,hw0,Y,I,q2,U⟩:=hb;obtain⟨b',X,c,el,fz,j,A,B,Q,K,L,M,R,h9⟩:=N.objs o _ E;rw[j]at I;simp only[zR,zX]at I;obtain⟨V,W,r3,r4⟩:=I;obtain rfl:b=O:=U V;subst W;obtain⟨v',y,z⟩:=Zni (P:=P) D F B (by omega) L R h;exact⟨v',_,rfl,y,z⟩
   ·cases h
  ·cases h
 ·cases h
theorem UB (off:Nat)(g cur:Array Value)(h:off+g.size<=cur.size) :
 g.zipIdx.foldl (fun (a:Array Value) (p:Value×Nat)=>a.setIfInBounds (off+p.2) p.1) cur=(cur.toList.take off++g.toList++cur.toList.drop (off+g.toList.length)).toArray:=by
 apply Array.ext_getElem?;intro i;rw[<-Array.foldl_toList,Array.toList_zipIdx,ZmA];simp only[yA,yD,zM,Nat.sub_zero,zD];by_cases j:i<off
 ·rw[if_neg (by omega),zB (by simp;omega),zB (by simp;omega),zI j,zD]
 ·by_cases u:i<off+g.size
  ·rw[if_pos (by omega),zB (by simp;omega),zF (by simp;omega)];simp only[zZ,zM,zD];congr 1;omega
  ·rw[if_neg (by omega),zF (by simp;omega),zN,zD];simp only[yH,zZ,zM];congr 1;omega
theorem ZlS {t:TypeId}{sz:Nat}{a v:AV}{u x:Value}{H':Hp}(O:Inv W0 S H)(hs:Xe P t=some sz)(ha:VRel S a u)(A:VRel S v x)(h:YX sz a v H=some H') :
 ∃ Z S',u=.pointer (some Z)/\(storeVar t Z x).run P S.w=.ok () S'.w/\Ext S S'/\Inv W0 S' H':=by
 unfold YX at h;split at h
 ·rename_i o off;split at h
  ·rename_i l M;split at h
   ·rename_i U;obtain⟨B,D,V⟩:=U;injection h with h;subst h;cases ha with|ptr _ _ b hb =>
    obtain⟨b',c,el,z,N,I,R,T,J,F⟩:=O.objs o _ M;rw[hb]at z;injection z with z;subst z;have g:=A.cells B;have E:x.cells.size=sz:=by rw[g.size,D]
    have j:=run_storeCells_at P b off el x.cells.toList 0 c S.w I (by simp;omega) g.oneCells;rw[yA,<-UB off x.cells c (by omega)]at j;refine⟨_,{ S with w:=S.w.setRow b _ },rfl,by simp only[storeVar,Sem.run_bind,X0 hs,Result.andThen_ok];rw[if_neg (by simp[E])];exact j,Ext.write J _,?_⟩;refine O.write M hb N I J ?_;exact (CellsRel.splice (S:=S) ⟨R,T,F⟩ g (by omega)).mono (Ext.write J _)
   ·cases h
  ·cases h
 ·rename_i o e off;split at h
  ·rename_i e' l M;split at h
   ·rename_i U;obtain⟨rfl,B,D,V⟩:=U;injection h with h;subst h;cases ha with|wp _ _ _ b hb =>
    obtain⟨e0,b0,hw0,ac,Q,q2,q3⟩:=hb;obtain⟨b',Y,c,el,fz,z,N,I,R,T,J,F,h8,h9⟩:=O.objs o _ M;have ab:=Q;rw[z]at Q;simp only[zR,zX]at Q;obtain⟨r1,r2,r3,r4⟩:=Q;obtain rfl:b=b0:=q3 r1;subst r2;have g:=A.cells B;have E:x.cells.size=sz:=by rw[g.size,D]
    have j:=R2 P b' off el fz x.cells.toList 0 c S.w I h9 (by simp;omega) g.oneCells;rw[yA,<-UB off x.cells c (by omega)]at j;refine⟨_,{ S with w:=S.w.setRow b' _ },rfl,by simp only[storeVar,Sem.run_bind,X0 hs,Result.andThen_ok];rw[if_neg (by simp[E])];exact j,Ext.write F _,?_⟩
    have K:CellsRel S l (c.extract 0 l.length):=by
     refine⟨by simp;omega,fun i x v hi A=>?_,h8⟩;rw[zK]at A;split at A
     ·rw[zV]at A;exact J i x v hi A
     ·cases A
    have X:=Ext.write F (x.cells.zipIdx.foldl (fun (a:Array Value) (p:Value×Nat)=>a.setIfInBounds (off+p.2) p.1) c)
    have L:(x.cells.zipIdx.foldl (fun (a:Array Value) (p:Value×Nat)=>a.setIfInBounds (off+p.2) p.1) c).size=c.size:=by
     rw[UB off x.cells c (by omega)];simp;omega
    have C:(splice l off v.cells).length=l.length:=by unfold splice;simp;omega
    refine O.writeG M (.inr ⟨_,_,_,z⟩) N (by simp) F ⟨b',Y,_,el,fz,by rw[C];exact z,N,setRow_heap S.w b' c _ el fz I,by rw[L];exact R,by rw[C];exact T,fun i y u hy hu=>?_,F,?_,by rw[L];exact h9⟩
    ·have W:=CellsRel.splice (S:=S) (off:=off) K g (by omega);refine (W.rel i y u hy ?_).mono X;have aa:i<l.length:=by rw[<-C];exact ZqN hy
     rw[<-hu];rw[UB off x.cells c (by omega),UB off x.cells (c.extract 0 l.length) (by simp;omega)];simp only[yD];by_cases g1:i<off
     ·rw[zB (by simp;omega),zB (by simp;omega),zB (by simp;omega),zB (by simp;omega),zI g1,zI g1,zD,zD,zK];simp;omega
     ·by_cases g2:i<off+x.cells.size
      ·rw[zB (by simp;omega),zF (by simp;omega),zB (by simp;omega),zF (by simp;omega)];congr 1;simp;omega
      ·rw[zF (by simp;omega),zF (by simp;omega),zN,zN,zD,zD,zK];simp only[yH,zZ,zM,Array.size_extract];rw[if_pos (by omega)];congr 1;omega
    ·exact (CellsRel.splice (S:=S) (off:=off) K g (by omega)).cell
   ·cases h
  ·cases h
 ·cases h
end
section
variable {P:Program}{S:Snap}{W0:World}{H:Hp}
theorem cell_of_heap {w w':World}(h:w'.heap=w.heap)(a:Addr):w'.cell? a=w.cell? a:=by unfold World.cell?;rw[h]
theorem Il (a b:List AV):flat (a++b)=flat a++flat b:=by simp[flat]
theorem Zec {x:AV}(h:x.isCell=true):x.cells=[x]:=by
 cases x <;> first|rfl|(simp[zJ]at h;done)
theorem ZgB {l:List AV}(h:l.all zJ=true)(k:Nat):(l.drop k).all zJ=true:=by
 rw[zY]at h ⊢;exact fun x g=>h x (yF g)
theorem NI {ag:Bool}{k:Nat}(j:ag=true\/k=1):∀ (n:Nat) (l:List AV),l.all zJ=true->n*k<=l.length->flat (UJ ag k n l)=l.take (n*k)/\(∀ e∈UJ ag k n l,e.cells.length=k)/\(UJ ag k n l).length=n:=by
 intro n
 induction n with
 |zero=>intro l _ _;simp[UJ,flat]
 |succ n E =>
  intro l w y;have hk:n*k+k<=l.length:=by rw[zQ]at y;exact y
  obtain⟨z,A,B⟩:=E (l.drop k) (ZgB w k) (by simp;omega);have D:∀ (a:AV) (r:List AV),flat (a::r)=a.cells++flat r:=fun a r=>by simp[flat]
  have g:(if ag then AV.agg (l.take k) else l.headD .undef).cells=l.take k:=by
   cases ag with
   |true=>rfl
   |false =>
    rcases j with h|rfl
    ·cases h
    ·cases l with
     |nil=>simp at hk
     |cons a l =>
      have C:a.isCell=true:=Zim w (i:=0) rfl;simp[Zec C]
  unfold UJ;refine⟨?_,fun e u=>?_,by simp[B]⟩
  ·rw[D,z,g,zQ,yI,List.take_add]
  ·rcases List.mem_cons.1 u with rfl|u
   ·rw[g];simp;omega
   ·exact A e u
theorem Gb {k:Nat}{x:AV}{u:Value}{xs:List AV}(hI:Inv W0 S H)(hk:0<k)(T:VRel S x u)(h:elems k x H=some xs) :
 (∀ e∈xs,e.cells.length=k)/\(∀ w:World,(Builtin.lenOf u).run P w=.ok xs.length w) /\
 ∃ news:Array Value,CellsRel S (flat xs) news/\∀ w:World,w.heap=S.w.heap->(Builtin.firstCells k xs.length u).run P w=.ok news w:=by
 unfold elems at h;split at h
 ·injection h with h;subst h;cases T with|nils =>
  exact⟨by simp,fun w=>rfl,#[],⟨rfl,by simp[flat],rfl⟩,fun w _=>rfl⟩
 ·split at h
  ·rename_i k' tok l z;obtain rfl:k=k':=z.symm;injection h with h;subst h;cases T with|vs _ _ _ b off cap f hcap hke D Z ht sp hsp =>
   by_cases Q:l=[]
   ·subst Q;refine⟨by simp,fun w=>rfl,#[],⟨rfl,by simp[flat],rfl⟩,fun w _=>?_⟩;simp only[Builtin.firstCells,yK,Nat.zero_mul];rfl
   obtain rfl:sp=none:=hsp.resolve_right (by have:=List.length_pos_iff.2 Q;omega);have y:∀ e∈l,e.cells.length=k:=fun e C=>(hke e C).1
   have L:∀ n,n<l.length*k->n / k<l.length/\n % k<k/\n / k*k+n % k=n:=fun n hn =>
    ⟨Nat.div_lt_of_lt_mul (by rwa [yM]),Nat.mod_lt _ hk,by rw[yM];exact Nat.div_add_mod n k⟩
   refine⟨y,fun w=>rfl,((yP (l.length*k)).map fun n=>f (n / k) (n % k)).toArray,⟨by simp[ZV y],fun i x v hi g=>?_,HX fun e C=>(hke e C).2⟩,fun w hw=>?_⟩
   ·have N:i<l.length*k:=by
     rcases zH i (l.length*k) with Y|Y
     ·exact Y
     ·rw[zE (by rw[ZV y];exact Y)]at hi;cases hi
    obtain⟨J,U,V⟩:=L i N;simp[N]at g;subst g;rw[<-V,Kc y _ _ l[i / k] (zC J) U]at hi;exact Z _ _ _ _ (zC J) hi
   ·simp only[Builtin.firstCells]
    exact run_loadCells w _ _ _ (fun n hn=>by
     obtain⟨J,U,V⟩:=L n hn;rw[cell_of_heap hw,YJ];have:=(D _ _ J U).1
     rwa [yL,V]at this)
  ·cases h
 ·split at h
  ·rename_i s z;subst z;injection h with h;subst h;cases T with|str _ b E =>
   subst E
   have M:flat (b.data.toList.map fun b=>yO .u8 (b.toNat:Int))=b.data.toList.map fun b=>yO .u8 (b.toNat:Int):=by
    unfold flat;rw[List.map_map];show (b.data.toList.map fun b=>[yO .u8 (b.toNat:Int)]).flatten=_
    induction b.data.toList with
    |nil=>rfl
    |cons a l ih=>simp[ih]
   have y:(b.data.toList.map fun b=>yO .u8 (b.toNat:Int)).length=b.size:=by rw[List.length_map];exact W3 b
   refine⟨fun e C=>by simp at C;obtain⟨a,_,rfl⟩:=C;rfl,fun w=>by rw[y];rfl,b.data.map fun b=>.int .u8 b.toNat,⟨by rw[M];simp,fun i x v hi g=>?_,HX fun e C=>by simp at C;obtain⟨a,_,rfl⟩:=C;rfl⟩,fun w _=>?_⟩
   ·rw[M,List.getElem?_map,zD]at hi;rw[Array.getElem?_map]at g
    cases E:b.data[i]? with
    |none=>simp[E]at hi
    |some c=>simp[E]at hi g;subst hi g;exact .int _ _
   ·rw[y];simp only[Builtin.firstCells,Sem.run_pure];congr 1;congr 1;rw[ByteArray.data_extract];show b.data.extract 0 b.data.size=b.data;simp
  ·cases h
 ·split at h
  ·rename_i ag k' o off len cap hc;obtain⟨z,F⟩:=hc;obtain rfl:k=k':=z.symm;split at h
   ·rename_i A ho;split at h
    ·rename_i B;injection h with h;subst h;cases T with|rs _ _ _ _ _ _ b E hlc =>
     obtain⟨b',c,el,D,Z,h3,h4,h5,h6,h7⟩:=hI.objs o _ ho;rw[E]at D;injection D with D;subst D;obtain⟨W,X,K⟩:=NI F len (A.drop off) (ZgB h7 off) (by simp;omega);have R:CellsRel S ((A.drop off).take (len*k)) (c.extract off (off+len*k)):=CellsRel.extract ⟨h4,h5,h7⟩ off (len*k) B;refine⟨X,fun w=>by rw[K];rfl,c.extract off (off+len*k),by rw[W];exact R,fun w hw=>?_⟩;rw[K];simp only[Builtin.firstCells]
     have O:=run_loadCells_list (P:=P) w ⟨b,off,none⟩ (c.extract off (off+len*k)).toList (fun j v g=>by
      rw[cell_of_heap hw,YJ,cell_of_row S.w b _ c el (0,0) h3];rw[zD,zK]at g;split at g
      ·exact g
      ·cases g)
     have I:(c.extract off (off+len*k)).toList.length=len*k:=by rw[zM,R.size];simp;omega
     rw[I,zU]at O;exact O
    ·cases h
   ·cases h
  ·cases h
 ·split at h
  ·rename_i ag k' o e len hc;obtain⟨z,F⟩:=hc;obtain rfl:k=k':=z.symm;split at h
   ·rename_i e' A ho;split at h
    ·rename_i B;obtain⟨rfl,B⟩:=B;injection h with h;subst h;cases T with|ws _ _ _ _ _ cap b E hlc =>
     obtain⟨e0,b0,hw0,ac,q1,q2,q3⟩:=E;obtain⟨b',ab,c,el,fz,D,Z,h3,h4,h5,h6,h7,h8,h9⟩:=hI.objs o _ ho;rw[D]at q1;simp only[zR,zX]at q1;obtain⟨r1,r2,r3,r4⟩:=q1;obtain⟨J,U,V⟩:=q3 r1;obtain rfl:b=b':=J.trans r2.symm;obtain⟨W,X,K⟩:=NI F len A h8 B
     have aa:CellsRel S A (c.extract 0 A.length):=by
      refine⟨by simp;omega,fun i x v hi g=>?_,h8⟩;rw[zK]at g;split at g
      ·rw[zV]at g;exact h6 i x v hi g
      ·cases g
     have R:CellsRel S ((A.drop 0).take (len*k)) ((c.extract 0 A.length).extract 0 (0+len*k)):=CellsRel.extract aa 0 (len*k) (by omega);refine⟨X,fun w=>by rw[K];rfl,(c.extract 0 A.length).extract 0 (0+len*k),by rw[W];exact R,fun w hw=>?_⟩;rw[K];simp only[Builtin.firstCells]
     have O:=run_loadCells_list (P:=P) w ⟨b,0,none⟩ ((c.extract 0 A.length).extract 0 (0+len*k)).toList (fun j v g=>by
      rw[cell_of_heap hw,YJ,cell_of_row S.w b _ c el fz h3];rw[zD,zK]at g;split at g
      ·rw[zK]at g;split at g
       ·rw[zV,zV]at g;rw[zV];exact g
       ·cases g
      ·cases g)
     have I:((c.extract 0 A.length).extract 0 (0+len*k)).toList.length=len*k:=by rw[zM,R.size];simp;omega
     rw[I,zU]at O;exact O
    ·cases h
   ·cases h
  ·cases h
 ·cases h
theorem Zba {t:TypeId}{n:Nat}(h:GY P t=some n)(w:World):∃ i,P.info? t=some i/\i.bytes=n/\(typeInfo t).run P w=.ok i w:=by
 unfold GY at h
 cases hi:P.info? t with
 |none=>simp[hi]at h
 |some i=>simp[hi]at h;exact⟨i,rfl,h,by simp[typeInfo,hi]⟩
theorem JF {st xt ty e:TypeId}{B:TypeDesc}{k n m cap:Nat}{u:Value}{a:Addr}{news:Array Value}{w w':World}(D:P.underlying st=some (.slice e))(z:P.underlying xt=some B)(A:Xi B=true)
 (C:Xe P e=some k) (h:(Builtin.lenOf u).run P w=.ok m w) (j:(Builtin.firstCells k m u).run P w=.ok news w) (g:n+m<=cap) (y:(storeCells (a.add (n*k)) news.toList).run P w=.ok () w') :
 (Builtin.append_ #[st,xt] ty #[.slice (some a) n cap,u]).run P w=.ok (.slice (some a) (n+m) cap) w':=by
 cases B <;> first
  |(simp[Xi]at A;done)
  |simp[Builtin.append_,run_underlying D,run_underlying z,X0 C,h,g,j,y]
theorem LN {st xt ty e:TypeId}{z:TypeDesc}{k:Nat}{u:Value}{news:Array Value}{w:World}(B:P.underlying st=some (.slice e))(j:P.underlying xt=some z)(y:Xi z=true)
 (A:Xe P e=some k) (g:(Builtin.lenOf u).run P w=.ok 0 w) (h:(Builtin.firstCells k 0 u).run P w=.ok news w) :
 (Builtin.append_ #[st,xt] ty #[.slice none 0 0,u]).run P w=.ok (.slice none 0 0) w:=by
 cases z <;> first
  |(simp[Xi]at y;done)
  |simp[Builtin.append_,run_underlying B,run_underlying j,X0 A,g,h]
theorem AB {st xt ty e:TypeId}{F:TypeDesc}{k n m cap bytes:Nat}{u z:Value}{base:Option Addr}{old news:Array Value}{w:World}(Q:P.underlying st=some (.slice e))(D:P.underlying xt=some F)(E:Xi F=true)
 (O:Xe P e=some k) (L:GY P e=some bytes) (R:∀ w:World,(zeroValue e).run P w=.ok z w) (j:(Builtin.lenOf u).run P w=.ok m w) (h:cap<n+m) (g:(n+m)*(bytes+1)<=140737488355328)
 (A:(Builtin.firstCells k n (.slice base n cap)).run P w.drew=.ok old w.drew) (y:(Builtin.firstCells k m u).run P w.drew=.ok news w.drew) :
 (Builtin.append_ #[st,xt] ty #[.slice base n cap,u]).run P w =
  .ok (.slice (some ⟨w.heap.size,0,none⟩) (n+m) (grownCap w (n+m) cap e)) (w.drew.alloc (.cells (old++news++Builtin.zeroCells z.cells (grownCap w (n+m) cap e-(n+m))) e)):=by
 obtain⟨i,hi,C,M⟩:=Zba L w;subst C;have I:¬ (n+m<=cap):=by omega
 have B:(n+m)*i.bytes<=140737488355328:=yB (Nat.mul_le_mul_left _ (Nat.le_succ _)) g;have N:n+m<=140737488355328:=yB (Nat.le_mul_of_pos_right _ (Nat.succ_pos _)) g;have T:=growslice_fits h B;have J:¬ (281474976710656<Builtin.nextslicecap (n+m) cap*i.bytes):=by omega
 have K:¬ (9223372036854775807<((n:Int)+(m:Int))):=by omega
 cases F <;> first
  |(simp[Xi]at E;done)
  |simp[Builtin.append_,run_underlying Q,run_underlying D,X0 O,j,I,typeInfo,hi,J,K,R,A,y,Question.forced,newRow,grownCap]
end
section
variable {S S':Snap}{W0:World}{H H':Hp}{n:Nat}
theorem Zg {α:Type}{l:List α}{i:Nat}{x:α}(h:l[i]?=some x):i<l.length:=by
 rcases zH i l.length with g|g
 ·exact g
 ·rw[zE g]at h;cases h
inductive Sc (n:Nat):AV->Prop
 |undef:Sc n .undef
 |bool (b:Bool):Sc n (.bool b)
 |int (k:IntKind) (m:Int):Sc n (.int k m)
 |str (s:List UInt8):Sc n (.str s)
 |nilp:Sc n .nilp
 |ptr (o off:Nat) (h:o<n):Sc n (.ptr o off)
 |vp (cells:List AV) (h:∀ c∈cells,Sc n c):Sc n (.vp cells)
 |nils:Sc n .nils
 |vs (k:Nat) (tok:Tok) (l:List AV) (ht:∀ t e,tok=.own t e->t<n) (h:∀ e∈l,∀ c∈e.cells,Sc n c):Sc n (.vs k tok l)
 |rs (ag:Bool) (k o off len cap:Nat) (h:o<n):Sc n (.rs ag k o off len cap)
 |ws (ag:Bool) (k o e len:Nat) (h:o<n):Sc n (.ws ag k o e len)
 |wp (o e off:Nat) (h:o<n):Sc n (.wp o e off)
 |nilm:Sc n .nilm
 |map (o:Nat) (h:o<n):Sc n (.map o)
 |nilf:Sc n .nilf
 |fn (fn:Fn) (a b:List AV) (h1:∀ c∈a,Sc n c) (h2:∀ c∈b,Sc n c):Sc n (.fn fn a b)
 |nili:Sc n .nili
 |iface (t:TypeId) (v:AV) (h:Sc n v):Sc n (.iface t v)
 |agg (l:List AV) (h:∀ c∈l,Sc n c):Sc n (.agg l)
 |tuple (l:List AV) (h:∀ c∈l,Sc n c):Sc n (.tuple l)
theorem Ow {l:List AV}{vs:Array Value}(u:vs.size=l.length){p:AV->Prop}(h:∀ (i:Nat) (c:AV) (v:Value),l[i]?=some c->vs[i]?=some v->p c):∀ c∈l,p c:=by
 intro c j;obtain⟨i,hi⟩:=zL j;have g:i<vs.size:=by rw[u];exact Zg hi
 exact h i c vs[i] hi (zP g)
theorem VRel.sc (D:∀ o,n<=o->S.phi o=none/\S.tk o=none){a:AV}{v:Value}(h:VRel S a v):Sc n a:=by
 have lt:∀ o b,S.phi o=some b->o<n:=fun o b h=>by
  rcases zH o n with g|g
  ·exact g
  ·rw[(D o g).1]at h;cases h
 have B:∀ o,S.tk o≠none->o<n:=fun o h=>by
  rcases zH o n with g|g
  ·exact g
  ·exact absurd (D o g).2 h
 induction h with
 |undef v=>exact .undef
 |bool b=>exact .bool b
 |int k m=>exact .int k m
 |str s b h=>exact .str s
 |nilp=>exact .nilp
 |ptr o off b h=>exact .ptr o off (lt o b h)
 |vp cells b off f z L M w =>
  refine .vp cells fun c z=>?_;obtain⟨i,hi⟩:=zL z;exact w i c hi
 |nils=>exact .nils
 |vs k tok l b off cap f N hk L M U X T w =>
  refine .vs k tok l (fun t e C=>?_) fun e C c z=>?_
  ·subst C;obtain⟨e0,W,hw0,V,q,_⟩:=U;rcases zH t n with g|g
   ·exact g
   ·rw[(D t g).2]at q;cases q
  ·obtain⟨j,R⟩:=zL C;obtain⟨i,hi⟩:=zL z;exact w j e i c R hi
 |rs ag k o off len cap b h A=>exact .rs ag k o off len cap (lt o b h)
 |ws ag k o e len cap b h A=>exact .ws ag k o e len (B o (by obtain⟨_,_,_,_,q,_⟩:=h;rw[q];simp))
 |wp o e off b h=>exact .wp o e off (B o (by obtain⟨_,_,_,_,q,_⟩:=h;rw[q];simp))
 |nilm=>exact .nilm
 |map o b h=>exact .map o (lt o b h)
 |nilf=>exact .nilf
 |fn fn first y F K O Q L M I J=>exact .fn fn _ _ (Ow O I) (Ow Q J)
 |nili=>exact .nili
 |iface t v u h w=>exact .iface t v w
 |agg cells vs z E h w=>exact .agg _ (Ow E w)
 |tuple l vs E h w=>exact .tuple _ (Ow E w)
def Snap.back (S:Snap)(H:Hp):Snap :=
 {w:=S.w,phi:=fun o=>if o<H.length then S.phi o else none,tk:=fun t=>if t<H.length then S.tk t else none,lim:=S.lim,
  pub:=fun b i=>S.pub b i\/(S.lim<=b/\b<S.w.heap.size/\(∀ o x,H[o]?=some x->x≠.dead->S.phi o≠some b)/\∀ t,t<H.length->∀ e hw sz,S.tk t≠some (e,b,hw,sz)) }
theorem VRel.back {a:AV}{v:Value}(h:VRel S a v)(y:Sc H.length a):VRel (S.back H) a v:=by
 have phi:∀ o b,o<H.length->S.phi o=some b->(S.back H).phi o=some b:=fun o b B O=>by simp[Snap.back,B,O]
 induction h with
 |undef v=>exact .undef v
 |bool b=>exact .bool b
 |int k m=>exact .int k m
 |str s b h=>exact .str s b h
 |nilp=>exact .nilp
 |ptr o off b h=>cases y with|ptr _ _ ho=>exact .ptr o off b (phi o b ho h)
 |vp cells b off f I B O A =>
  cases y with|vp _ hcs =>
  exact .vp cells b off f I (fun i hi=>⟨(B i hi).1,.inl (B i hi).2⟩) fun i c hi=>A i c hi (hcs c (zA hi))
 |nils=>exact .nils
 |vs k tok l b off cap f L hk B O W Z Q A =>
  cases y with|vs _ _ _ htk hcs =>
  refine VRel.vs (S:=S.back H) k tok l b off cap f L hk (fun j i V hi=>⟨(B j i V hi).1,.inl (B j i V hi).2⟩) (fun j e i c U I=>A j e i c U I (hcs e (zA U) c (zA I))) ?_ Z Q
  cases tok with
  |no=>trivial
  |clip=>exact W
  |own t e =>
   obtain⟨e0,J,hw0,z,M,N⟩:=W;exact⟨e0,J,hw0,z,by simp[Snap.back,htk t e rfl,M],N⟩
 |rs ag k o off len cap b h w=>cases y with|rs _ _ _ _ _ _ ho=>exact .rs ag k o off len cap b (phi o b ho h) w
 |ws ag k o e len cap b h w =>
  cases y with|ws _ _ _ _ _ ho =>
  obtain⟨e0,J,hw0,z,M,N⟩:=h;exact .ws ag k o e len cap b ⟨e0,J,hw0,z,by simp[Snap.back,ho,M],N⟩ w
 |wp o e off b h =>
  cases y with|wp _ _ _ ho =>
  obtain⟨e0,J,hw0,z,M,N⟩:=h;exact .wp o e off b ⟨e0,J,hw0,z,by simp[Snap.back,ho,M],N⟩
 |nilm=>exact .nilm
 |map o b h=>cases y with|map _ ho=>exact .map o b (phi o b ho h)
 |nilf=>exact .nilf
 |fn fn first E F K X Y B O R T =>
  cases y with|fn _ _ _ g1 g2 =>
  exact .fn fn _ _ F K X Y (fun i c v hi D=>R i c v hi D (g1 c (zA hi))) (fun i c v hi D=>T i c v hi D (g2 c (zA hi)))
 |nili=>exact .nili
 |iface t v u h A=>cases y with|iface _ _ g=>exact .iface t v u (A g)
 |agg cells vs I C h A=>cases y with|agg _ g=>exact .agg _ _ I C fun i c v hi D=>A i c v hi D (g c (zA hi))
 |tuple l vs C h A=>cases y with|tuple _ g=>exact .tuple _ _ C fun i c v hi D=>A i c v hi D (g c (zA hi))
theorem Ext.back (B:Inv W0 S H)(g:Ext S S'):Ext S (S'.back H):=by
 have lt:∀ o,(S.phi o≠none\/S.tk o≠none)->o<H.length:=fun o h=>by
  rcases zH o H.length with j|j
  ·exact j
  ·obtain⟨p,q⟩:=B.past o j;rcases h with h|h
   ·exact absurd p h
   ·exact absurd q h
 refine⟨⟨fun o b h=>?_,fun b i h=>⟨.inl (g.pub b i h).1,(g.pub b i h).2⟩,fun t e b hw sz h=>?_⟩,g.lim,fun b i D C=>D.elim (fun h=>g.old b i h C) fun h=>by have:=h.1;have:=g.lim;omega⟩
 ·have:=lt o (.inl (by rw[h];simp));simp[Snap.back,this,g.phi o b h]
 ·have:=lt t (.inr (by rw[h];simp));obtain⟨y,b',u,w,z,A⟩:=g.tk t e b hw sz h;exact⟨y,b',u,w,by simp[Snap.back,this,z],A⟩
theorem Inv.back (hI:Inv W0 S H)(y:Inv W0 S' H')(ht:H'.take H.length=H):Inv W0 (S'.back H) H:=by
 have af:H.length<=H'.length:=by
  have:=congrArg List.length ht;simp at this;omega
 have K:∀ o,o<H.length->H'[o]?=H[o]?:=fun o j=>by
  rw[<-ht,zI j]
 have phi:∀ o,o<H.length->(S'.back H).phi o=S'.phi o:=fun o j=>by simp[Snap.back,j]
 have tk:∀ o,o<H.length->(S'.back H).tk o=S'.tk o:=fun o j=>by simp[Snap.back,j]
 have A:∀ o b,(S'.back H).phi o=some b->o<H.length/\S'.phi o=some b:=fun o b h=>by
  by_cases j:o<H.length
  ·rw[phi o j]at h;exact⟨j,h⟩
  ·simp[Snap.back,j]at h
 have I:∀ o r,(S'.back H).tk o=some r->o<H.length/\S'.tk o=some r:=fun o r h=>by
  by_cases j:o<H.length
  ·rw[tk o j]at h;exact⟨j,h⟩
  ·simp[Snap.back,j]at h
 have F:∀ o b i x,H[o]?=some x->x≠.dead->S'.phi o=some b->(S'.back H).pub b i->S'.pub b i:=fun o b i x j hx hb w=>by
  rcases w with w|⟨_,_,w,_⟩
  ·exact w
  ·exact absurd hb (w o x j hx)
 have R:∀ o:Nat,H[o]?≠some yJ->o<H.length->H'[o]?≠some yJ:=fun o h j=>by rwa [K o j]
 refine⟨y.below,fun o x h=>?_,fun o j=>⟨by simp[Snap.back];omega,by simp[Snap.back];omega⟩,fun o o' b h L hd ac=>?_,fun t t' e b hw sz e' ag ai h L=>?_,fun t e b hw sz o h L=>?_,fun b i h=>?_,fun o b h=>y.dom o b (A o b h).2,fun t e b hw sz h=>y.tdom t e b hw sz (I _ _ h).2,y.lim⟩
 ·have j:=Zg h;have L:H'[o]?=some x:=by rw[K o j];exact h
  have h0:=hI.objs o x h;have J:=y.objs o x L;have past:=hI.past
  cases x with
  |dead=>trivial
  |free=>exact⟨by rw[phi o j];exact J.1,by rw[tk o j];exact J.2⟩
  |cells l =>
   obtain⟨b0,Y,aa,p1,p2,p3,V,p5,W,p7⟩:=h0;obtain⟨b,c,el,z,B,C,D,E,O,U⟩:=J;refine⟨b,c,el,by rw[phi o j];exact z,B,C,D,fun i x v hi N=>(E i x v hi N).back ?_,fun i w=>O i (F o b i _ h (by simp) z w),U⟩;exact Ow V (fun i x v hi N=>(p5 i x v hi N).sc past) x (zA hi)
  |bld T u l =>
   obtain⟨b,z,B,C,D,E⟩:=J;refine⟨b,by rw[phi o j];exact z,B,C,fun i w=>D i (F o b i _ h (by simp) z w),fun v g N hg=>?_⟩;obtain⟨⟨n,hw,sz,X⟩,r2⟩:=E v g N hg;refine⟨⟨n,hw,sz,by rw[tk o j];exact X⟩,fun i w=>r2 i ?_⟩;rcases w with w|⟨_,_,_,w⟩
   ·exact w
   ·exact absurd X (w o j _ _ _)
  |row e l =>
   obtain⟨b0,aj,Y,aa,ad,p1,p2,p3,V,p5,W,p7,p8,p9⟩:=h0;obtain⟨b,sz,c,el,fz,z,B,C,D,E,O,U,q8,q9⟩:=J;refine⟨b,sz,c,el,fz,by rw[tk o j];exact z,B,C,D,E,fun i x v hi N=>(O i x v hi N).back ?_,fun i w=>U i ?_,q8,q9⟩
   ·have ae:=Zg hi;have M:i<Y.size:=by omega
    exact (W i x Y[i] hi (zP M)).sc past
   ·rcases w with w|⟨_,_,_,w⟩
    ·exact w
    ·exact absurd z (w o j _ _ _)
  |tok e =>
   obtain⟨b,hw,sz,c,el,fz,z,B,C,D,E,O,U⟩:=J;refine⟨b,hw,sz,c,el,fz,by rw[tk o j];exact z,B,C,D,E,fun i hi w=>O i hi ?_,U⟩;rcases w with w|⟨_,_,_,w⟩
   ·exact w
   ·exact absurd z (w o j e hw sz)
  |map es Z =>
   obtain⟨b0,Q,p1,p2,p3,V,p5,W⟩:=h0;obtain⟨b,ab,z,B,C,D,E,O⟩:=J;refine⟨b,ab,by rw[phi o j];exact z,B,C,D,fun i w=>E i (F o b i _ h (by simp) z w),fun i k v m e hi he=>?_⟩;obtain⟨X,r2,r3⟩:=O i k v m e hi he;have M:i<Q.size:=by rw[V];exact Zg hi
   obtain⟨s1,s2,_⟩:=W i k v m Q[i] hi (zP M);exact⟨X.back (s1.sc past),r2.back (s2.sc past),r3⟩
  |siter s ah =>
   obtain⟨b,s',z,B,C,D,E⟩:=J;exact⟨b,s',by rw[phi o j];exact z,B,C,D,fun i w=>E i (F o b i _ h (by simp) z w)⟩
 ·obtain⟨g1,g2⟩:=A o b h;obtain⟨g3,g4⟩:=A o' b L;exact y.inj o o' b g2 g4 (R o hd g1) (R o' ac g3)
 ·exact y.tinj _ _ _ _ _ _ _ _ _ (I _ _ h).2 (I _ _ L).2
 ·exact y.apart _ _ _ _ _ o (I _ _ h).2 (A o b L).2
 ·rcases h with h|⟨_,h,_⟩
  ·exact y.puball b i h
  ·exact h
theorem ZbH {f:Nat}{a b:AV}(h:Ze H' n f a=some b)(g:a.isCell=true):b.isCell=true:=by
 cases f with
 |zero=>cases h
 |succ f =>
  cases a <;> simp only[Ze]at h <;> first
   |(simp[zJ]at g;done)
   |(injection h with h;subst h;rfl)
   |(split at h <;> first|(injection h with h;subst h;rfl)|(cases h;done)|(split at h <;> first|(cases h;done)|(split at h <;> first|(cases h;done)|(injection h with h;subst h;rfl))))
theorem Zq3 {f:Nat}{l:List AV}{b:AV}(h:Ze H' n (f+1) (.agg l)=some b):∃ g,b=.agg g/\l.mapM (Ze H' n f)=some g:=by
 simp only[Ze]at h;split at h
 ·injection h with h;exact⟨_,h.symm,‹_›⟩
 ·cases h
def ZiY (e:AV)(g:Nat->Value):Value :=
 match e with
 |.agg cs=>.agg ((yP cs.length).map g).toArray
 |_=>g 0
theorem Zuj {e:AV}{g:Nat->Value}(y:e.cells.all zJ=true)(h:∀ (i:Nat) (c:AV),e.cells[i]?=some c->VRel S e (ZiY e g)\/VRel S c (g i))(j:∀ (i:Nat) (c:AV),e.cells[i]?=some c->VRel S c (g i)):VRel S e (ZiY e g):=by
 cases e with
 |agg w =>
  refine .agg w _ y (by simp) fun i c v hi u=>?_;have:=Zg hi;simp[this]at u;subst u;exact j i c hi
 |_=>first|exact j 0 _ rfl
theorem Zqa {f:Nat}{e b:AV}{g:Nat->Value}{T:Snap}(h:Ze H' n f e=some b)(y:e.cells.all zJ=true)(w:VRel T b (ZiY e g)) :
 b.cells.length=e.cells.length/\b.cells.all zJ=true/\∀ (i:Nat) (c:AV),b.cells[i]?=some c->VRel T c (g i):=by
 have u:e.isCell=true->e.cells=[e]->ZiY e g=g 0->b.cells.length=e.cells.length/\b.cells.all zJ=true/\∀ (i:Nat) (c:AV),b.cells[i]?=some c->VRel T c (g i):=by
  intro B C D;have j:=ZbH h B;rw[Zec j,C];refine⟨rfl,by simp[j],fun i c hi=>?_⟩
  cases i with
  |zero=>simp at hi;subst hi;rwa [D]at w
  |succ i=>simp at hi
 cases e with
 |agg A =>
  cases f with
  |zero=>cases h
  |succ f =>
   obtain⟨E,rfl,hm⟩:=Zq3 h;obtain⟨z,F⟩:=JO hm;simp only[ZiY]at w;cases w with|agg _ _ hb1 hb2 hb3 =>
   refine⟨by simpa[yN]using z,hb1,fun i c hi=>hb3 i c (g i) hi ?_⟩;have:i<A.length:=by rw[<-z];exact Zg hi
   simp[this]
 |undef=>simp[yN,zJ]at y
 |tuple l=>simp[yN,zJ]at y
 |_=>exact u rfl rfl rfl
theorem Eo {f k:Nat}{l u:List AV}{T:Snap}{g:Nat->Nat->Value}(K:∀ (a b:AV) (v:Value),Ze H' n f a=some b->VRel S a v->VRel T b v)(hm:l.mapM (Ze H' n f)=some u)
 (hk:∀ e,e∈l->e.cells.length=k/\e.cells.all zJ=true) (D:∀ (j:Nat) (e:AV) (i:Nat) (c:AV),l[j]?=some e->e.cells[i]?=some c->VRel S c (g j i)) :
 u.length=l.length/\(∀ e,e∈u->e.cells.length=k/\e.cells.all zJ=true)/\∀ (j:Nat) (e:AV) (i:Nat) (c:AV),u[j]?=some e->e.cells[i]?=some c->VRel T c (g j i):=by
 obtain⟨E,L⟩:=JO hm
 have key:∀ (j:Nat) (b:AV),u[j]?=some b->∃ e,l[j]?=some e/\Ze H' n f e=some b:=fun j b h=>by
  have z:j<l.length:=by rw[<-E];exact Zg h
  obtain⟨b',F,B⟩:=L j l[j] (zC z);rw[h]at B;injection B with B;subst B;exact⟨l[j],zC z,F⟩
 have one:∀ (j:Nat) (b:AV),u[j]?=some b->b.cells.length=k/\b.cells.all zJ=true/\∀ (i:Nat) (c:AV),b.cells[i]?=some c->VRel T c (g j i):=fun j b h=>by
  obtain⟨e,y,w⟩:=key j b h;obtain⟨C,A⟩:=hk e (zA y);have J:=Zuj (S:=S) (g:=g j) A (fun i c hi=>.inr (D j e i c y hi)) (fun i c hi=>D j e i c y hi);obtain⟨M,N,O⟩:=Zqa w A (K e b _ w J);exact⟨by rw[M,C],N,O⟩
 refine⟨E,fun b h=>?_,fun j e i c y I=>(one j e y).2.2 i c I⟩;obtain⟨j,z⟩:=zL h;exact⟨(one j b z).1,(one j b z).2.1⟩
theorem Uv {f:Nat}{l j:List AV}{T:Snap}{vs:Array Value}(B:∀ (a b:AV) (v:Value),Ze H' n f a=some b->VRel S a v->VRel T b v)(hm:l.mapM (Ze H' n f)=some j)
 (z:vs.size=l.length) (h:∀ (i:Nat) (c:AV) (v:Value),l[i]?=some c->vs[i]?=some v->VRel S c v) :
 vs.size=j.length/\∀ (i:Nat) (c:AV) (v:Value),j[i]?=some c->vs[i]?=some v->VRel T c v:=by
 obtain⟨w,C⟩:=JO hm;refine⟨by rw[z,w],fun i b v u A=>?_⟩;have hi:i<l.length:=by rw[<-w];exact Zg u
 obtain⟨b',y,g⟩:=C i l[i] (zC hi);rw[u]at g;injection g with g;subst g;exact B _ _ v y (h i _ v (zC hi) A)
theorem NG {f:Nat}{l j:List AV}(hm:l.mapM (Ze H' n f)=some j)(w:l.all zJ=true):j.all zJ=true:=by
 obtain⟨y,z⟩:=JO hm;refine ZpI fun i b h=>?_;have hi:i<l.length:=by rw[<-y];exact Zg h
 obtain⟨b',u,g⟩:=z i l[i] (zC hi);rw[h]at g;injection g with g;subst g;exact ZbH u (Zim w (zC hi))
theorem SC (B:Inv W0 S H')(ht:H'.take H.length=H):∀ (f:Nat) (a b:AV) (v:Value),Ze H' H.length f a=some b->VRel S a v->VRel (S.back H) b v:=by
 have ah:∀ o,o<H.length->H'[o]?=H[o]?:=fun o W=>by
  rw[<-ht,zI W]
 intro f
 induction f with
 |zero=>intro a b v h;cases h
 |succ f ih =>
  intro a b v h hv
  cases hv with
  |undef v=>simp only[Ze]at h;injection h with h;subst h;exact .undef v
  |bool c=>simp only[Ze]at h;injection h with h;subst h;exact .bool c
  |int k m=>simp only[Ze]at h;injection h with h;subst h;exact .int k m
  |str s c C=>simp only[Ze]at h;injection h with h;subst h;exact .str s c C
  |nilp=>simp only[Ze]at h;injection h with h;subst h;exact .nilp
  |nils=>simp only[Ze]at h;injection h with h;subst h;exact .nils
  |nilm=>simp only[Ze]at h;injection h with h;subst h;exact .nilm
  |nilf=>simp only[Ze]at h;injection h with h;subst h;exact .nilf
  |nili=>simp only[Ze]at h;injection h with h;subst h;exact .nili
  |ptr o off c C =>
   simp only[Ze]at h;split at h
   ·injection h with h;subst h;exact .ptr o off c (by simp[Snap.back, *])
   ·cases h
  |map o c C =>
   simp only[Ze]at h;split at h
   ·injection h with h;subst h;exact .map o c (by simp[Snap.back, *])
   ·cases h
  |vp cells c off g C N h2 =>
   simp only[Ze]at h;split at h
   ·rename_i L hm;injection h with h;subst h;obtain⟨m1,m2⟩:=JO hm;refine .vp L c off g (NG hm C) (fun i hi=>⟨(N i (by omega)).1,.inl (N i (by omega)).2⟩) fun i b hb=>?_;have hi:i<cells.length:=by rw[<-m1];exact Zg hb
    obtain⟨b',A,I⟩:=m2 i cells[i] (zC hi);rw[hb]at I;injection I with I;subst I;exact ih _ _ _ A (h2 i _ (zC hi))
   ·cases h
  |vs k tok l c off cap g ap hk N h2 ai sp ao =>
   simp only[Ze]at h;split at h
   ·rename_i L hm;injection h with h;subst h;obtain⟨A,D,I⟩:=Eo (S:=S) (g:=g) ih hm hk h2;rw[<-A];refine VRel.vs (S:=S.back H) k _ L c off cap g (by omega) D (fun j i hj hi=>⟨(N j i (by omega) hi).1,.inl (N j i (by omega) hi).2⟩) I ?_ sp ao
    cases tok with
    |no=>trivial
    |clip=>simp only[TokOk]at ai ⊢;omega
    |own t e =>
     simp only;split
     ·rename_i ad;obtain⟨e0,b0,hw0,M,X,p2⟩:=ai;rw[A];exact⟨e0,b0,hw0,M,by simp[Snap.back,ad,X],p2⟩
     ·trivial
   ·cases h
  |rs ag k o off len cap c C Q =>
   simp only[Ze]at h;split at h
   ·injection h with h;subst h;exact .rs ag k o off len cap c (by simp[Snap.back, *]) Q
   ·rename_i an;split at h
    ·rename_i l y;split at h
     ·rename_i L hm;injection h with h;subst h;unfold elems at y;simp only[true_and]at y;split at y
      ·rename_i aa;split at y
       ·rename_i cs W;split at y
        ·rename_i Z;injection y with y;obtain⟨b',z,el,X,p2,p3,p4,p5,p6,p7⟩:=B.objs o _ W;rw[C]at X;injection X with X;subst X;obtain⟨f1,Y,f3⟩:=NI aa len (cs.drop off) (ZgB p7 off) (by simp;omega);rw[y]at f1 Y f3;have fc:(flat l).all zJ=true:=by rw[f1];exact ZeN p7 off (len*k)
         obtain⟨A,D,I⟩:=Eo (S:=S) (T:=S.back H) (g:=fun j i=>z.getD (off+(j*k+i)) undef) ih hm (fun e J=>⟨Y e J,Ah fc J⟩) (fun j e i x J U=>by
          have ac:=Zg J;have ab:i<k:=by rw[<-Y e (zA J)];exact Zg U
          have O:j*k+i<len*k:=by
           have:=zO k (zS ac);rw[zQ,f3]at this;omega
          have V:=Kc Y j i e J ab;rw[U,f1,zI O,zN]at V;have:off+(j*k+i)<z.size:=by omega
          refine p5 _ x _ V ?_;simp[this])
         have R:len=L.length:=by omega
         rw[R];have E:∀ i,(S.back H).pub c i:=fun i=>.inr ⟨yB B.lim p2,Nd p3,fun o' x U aj hp=>?_,fun t ad e hw sz ae=>?_⟩
         ·refine .vs k .no L c off cap _ (by omega) D (fun j i hj hi=>⟨?_,E _⟩) I trivial none (.inl rfl)
          have O:j*k+i<len*k:=by
           have:=zO k (zS hj);rw[zQ,<-R]at this;omega
          have:off+(j*k+i)<z.size:=by omega
          show S.w.cell? _=_;rw[cell_of_row S.w c _ z el (0,0) p3,show off+j*k+i=off+(j*k+i) by omega];simp[this]
         ·have am:=Zg U;have:=B.inj o' o c hp C (by rw[ah o' am,U];simp[aj]) (by rw[W];simp);omega
         ·exact B.apart t e c hw sz o ae C
        ·cases y
       ·cases y
      ·cases y
     ·cases h
    ·cases h
  |wp o e off c C =>
   simp only[Ze]at h;split at h
   ·rename_i W;injection h with h;subst h;obtain⟨e0,b0,hw0,M,A,D⟩:=C;exact .wp o e off c ⟨e0,b0,hw0,M,by simp[Snap.back,W,A],D⟩
   ·cases h
  |ws ag k o e len cap c C Q =>
   simp only[Ze]at h;split at h
   ·rename_i W;injection h with h;subst h;obtain⟨e0,b0,hw0,M,A,D⟩:=C;exact .ws ag k o e len cap c ⟨e0,b0,hw0,M,by simp[Snap.back,W,A],D⟩ Q
   ·rename_i an;split at h
    ·rename_i l y;split at h
     ·rename_i L hm;injection h with h;subst h;unfold elems at y;simp only[true_and]at y;split at y
      ·rename_i aa;split at y
       ·rename_i e' cs W;split at y
        ·rename_i Z;obtain⟨rfl,Z⟩:=Z;injection y with y;obtain⟨e0,b0,hw0,M,A,D,I⟩:=C;obtain⟨b',aq,z,el,fz,X,p2,p3,p4,p5,p6,p7,p8,p9⟩:=B.objs o _ W;have af:=A;rw[X]at af;simp only[zR,zX]at af;obtain⟨u1,u2,u3,u4⟩:=af;obtain⟨w1,w2,w3⟩:=I (by omega);obtain rfl:c=b':=by omega
         obtain⟨f1,Y,f3⟩:=NI aa len cs p8 Z;rw[y]at f1 Y f3;have fc:(flat l).all zJ=true:=by rw[f1];exact ZeN p8 0 (len*k)
         obtain⟨A,D,I⟩:=Eo (S:=S) (T:=S.back H) (g:=fun j i=>z.getD (j*k+i) undef) ih hm (fun e J=>⟨Y e J,Ah fc J⟩) (fun j e i x J U=>by
          have ac:=Zg J;have ab:i<k:=by rw[<-Y e (zA J)];exact Zg U
          have O:j*k+i<len*k:=by
           have:=zO k (zS ac);rw[zQ,f3]at this;omega
          have V:=Kc Y j i e J ab;rw[U,f1,zI O]at V;have:j*k+i<z.size:=by omega
          refine p6 _ x _ V ?_;simp[this])
         have R:len=L.length:=by omega
         rw[R];have E:∀ i,(S.back H).pub c i:=fun i=>.inr ⟨yB B.lim p2,Nd p3,fun o' x U aj hp=>?_,fun t ad e hw sz ae=>?_⟩
         ·refine .vs k .no L c 0 cap _ (by omega) D (fun j i hj hi=>⟨?_,E _⟩) I trivial none (.inl rfl)
          have O:j*k+i<len*k:=by
           have:=zO k (zS hj);rw[zQ,<-R]at this;omega
          have:j*k+i<z.size:=by omega
          show S.w.cell? _=_;rw[cell_of_row S.w c _ z el fz p3,show 0+j*k+i=j*k+i by omega];simp[this]
         ·exact B.apart o _ c _ _ o' X hp
         ·have:=B.tinj _ _ _ _ _ _ _ _ _ ae X;omega
        ·cases y
       ·cases y
      ·cases y
     ·cases h
    ·cases h
  |fn fn a1 a2 F K hF hK N h2 =>
   simp only[Ze]at h;split at h
   ·rename_i l1 l2 ak al;injection h with h;subst h;obtain⟨A,D⟩:=Uv (S:=S) ih ak hF N;obtain⟨I,q4⟩:=Uv (S:=S) ih al hK h2;exact .fn fn l1 l2 F K A I D q4
   ·cases h
  |iface t x u U =>
   simp only[Ze]at h;split at h
   ·injection h with h;subst h;exact .iface t _ u (ih _ _ _ ‹_› U)
   ·cases h
  |agg l vs C hs N =>
   simp only[Ze]at h;split at h
   ·rename_i L hm;injection h with h;subst h;obtain⟨A,D⟩:=Uv (S:=S) ih hm hs N;exact .agg L vs (NG hm C) A D
   ·cases h
  |tuple l vs hs N =>
   simp only[Ze]at h;split at h
   ·rename_i L hm;injection h with h;subst h;obtain⟨A,D⟩:=Uv (S:=S) ih hm hs N;exact .tuple L vs A D
   ·cases h
theorem VRel.bare {T:Snap}(hw:T.w=S.w)(U:∀ b i,S.pub b i->T.pub b i){a:AV}{v:Value}(h:VRel S a v)(y:Sc 0 a):VRel T a v:=by
 induction h with
 |undef v=>exact .undef v
 |bool b=>exact .bool b
 |int k m=>exact .int k m
 |str s b h=>exact .str s b h
 |nilp=>exact .nilp
 |ptr o off b h=>cases y with|ptr _ _ ho=>exact absurd ho (zG _)
 |vp cells b off f E D O z =>
  cases y with|vp _ hcs =>
  exact .vp cells b off f E (fun i hi=>⟨by rw[hw];exact (D i hi).1,U _ _ (D i hi).2⟩) fun i c hi=>z i c hi (hcs c (zA hi))
 |nils=>exact .nils
 |vs k tok l b off cap f I hk D O X Y L z =>
  cases y with|vs _ _ _ htk hcs =>
  refine VRel.vs (S:=T) k tok l b off cap f I hk (fun j i R hi=>⟨by rw[hw];exact (D j i R hi).1,U _ _ (D j i R hi).2⟩) (fun j e i c Q E=>z j e i c Q E (hcs e (zA Q) c (zA E))) ?_ Y L
  cases tok with
  |no=>trivial
  |clip=>exact X
  |own t e=>exact absurd (htk t e rfl) (zG _)
 |rs ag k o off len cap b h J=>cases y with|rs _ _ _ _ _ _ ho=>exact absurd ho (zG _)
 |ws ag k o e len cap b h J=>cases y with|ws _ _ _ _ _ ho=>exact absurd ho (zG _)
 |wp o e off b h=>cases y with|wp _ _ _ ho=>exact absurd ho (zG _)
 |nilm=>exact .nilm
 |map o b h=>cases y with|map _ ho=>exact absurd ho (zG _)
 |nilf=>exact .nilf
 |fn fn first C F K V W D O M N =>
  cases y with|fn _ _ _ g1 g2 =>
  exact .fn fn _ _ F K V W (fun i c v hi B=>M i c v hi B (g1 c (zA hi))) (fun i c v hi B=>N i c v hi B (g2 c (zA hi)))
 |nili=>exact .nili
 |iface t v u h z=>cases y with|iface _ _ g=>exact .iface t v u (z g)
 |agg cells vs E A h z=>cases y with|agg _ g=>exact .agg _ _ E A fun i c v hi B=>z i c v hi B (g c (zA hi))
 |tuple l vs A h z=>cases y with|tuple _ g=>exact .tuple _ _ A fun i c v hi B=>z i c v hi B (g c (zA hi))
theorem Zo5 {T:Snap}(hw:T.w=S.w)(X:∀ b i,S.pub b i->T.pub b i):∀ (f:Nat) (a b:AV) (v:Value),Ze [] 0 f a=some b->VRel S a v->VRel T b v:=by
 intro f
 induction f with
 |zero=>intro a b v h;cases h
 |succ f D =>
  intro a b v h hv
  cases hv with
  |undef v=>simp only[Ze]at h;injection h with h;subst h;exact .undef v
  |bool c=>simp only[Ze]at h;injection h with h;subst h;exact .bool c
  |int k m=>simp only[Ze]at h;injection h with h;subst h;exact .int k m
  |str s c z=>simp only[Ze]at h;injection h with h;subst h;exact .str s c z
  |nilp=>simp only[Ze]at h;injection h with h;subst h;exact .nilp
  |nils=>simp only[Ze]at h;injection h with h;subst h;exact .nils
  |nilm=>simp only[Ze]at h;injection h with h;subst h;exact .nilm
  |nilf=>simp only[Ze]at h;injection h with h;subst h;exact .nilf
  |nili=>simp only[Ze]at h;injection h with h;subst h;exact .nili
  |ptr o off c z =>
   simp only[Ze]at h;split at h
   ·rename_i A;exact absurd A (zG _)
   ·cases h
  |map o c z =>
   simp only[Ze]at h;split at h
   ·rename_i A;exact absurd A (zG _)
   ·cases h
  |vp cells c off g z y J =>
   simp only[Ze]at h;split at h
   ·rename_i E hm;injection h with h;subst h;obtain⟨m1,m2⟩:=JO hm;refine .vp E c off g (NG hm z) (fun i hi=>⟨by rw[hw];exact (y i (by omega)).1,X _ _ (y i (by omega)).2⟩) fun i b V=>?_;have hi:i<cells.length:=by rw[<-m1];exact Zg V
    obtain⟨b',B,C⟩:=m2 i cells[i] (zC hi);rw[V]at C;injection C with C;subst C;exact D _ _ _ B (J i _ (zC hi))
   ·cases h
  |vs k tok l c off cap g W hk y J R sp Q =>
   simp only[Ze]at h;split at h
   ·rename_i E hm;injection h with h;subst h;obtain⟨B,I,C⟩:=Eo (S:=S) (g:=g) D hm hk J;rw[<-B];refine VRel.vs (S:=T) k _ E c off cap g (by omega) I (fun j i hj hi=>⟨by rw[hw];exact (y j i (by omega) hi).1,X _ _ (y j i (by omega) hi).2⟩) C ?_ sp Q
    cases tok with
    |no=>trivial
    |clip=>simp only[TokOk]at R ⊢;omega
    |own t e =>
     simp only;split
     ·rename_i U;exact absurd U (zG _)
     ·trivial
   ·cases h
  |wp o e off c z =>
   simp only[Ze]at h;split at h
   ·rename_i A;exact absurd A (zG _)
   ·cases h
  |ws ag k o e len cap c z L =>
   simp only[Ze]at h;split at h
   ·rename_i A;exact absurd A (zG _)
   ·have:elems k (.ws ag k o e len) ([]:Hp)=none:=by simp[elems]
    rw[this]at h;cases h
  |rs ag k o off len cap c z L =>
   simp only[Ze]at h;split at h
   ·rename_i A;exact absurd A (zG _)
   ·have:elems k (.rs ag k o off len cap) ([]:Hp)=none:=by simp[elems]
    rw[this]at h;cases h
  |fn fn a1 a2 F K Y Z y J =>
   simp only[Ze]at h;split at h
   ·rename_i l1 l2 M N;injection h with h;subst h;obtain⟨B,I⟩:=Uv (S:=S) D M Y y;obtain⟨C,q4⟩:=Uv (S:=S) D N Z J;exact .fn fn l1 l2 F K B C I q4
   ·cases h
  |iface t x u hx =>
   simp only[Ze]at h;split at h
   ·injection h with h;subst h;exact .iface t _ u (D _ _ _ ‹_› hx)
   ·cases h
  |agg l vs z O y =>
   simp only[Ze]at h;split at h
   ·rename_i E hm;injection h with h;subst h;obtain⟨B,I⟩:=Uv (S:=S) D hm O y;exact .agg E vs (NG hm z) B I
   ·cases h
  |tuple l vs O y =>
   simp only[Ze]at h;split at h
   ·rename_i E hm;injection h with h;subst h;obtain⟨B,I⟩:=Uv (S:=S) D hm O y;exact .tuple E vs B I
   ·cases h
end
end Go.Am
