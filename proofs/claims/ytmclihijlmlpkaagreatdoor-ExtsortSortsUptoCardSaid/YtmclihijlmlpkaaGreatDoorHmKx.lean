/- THE ABSTRACT MACHINE -/
import Derived.Test.YtmclihijlmlpkaaGreatDoorHmMapx
import Derived.Lib.Bytealg
open Option renaming some->Z,none->X
open Bool renaming true->Y
open List renaming length->O
open Go.db renaming cm->J
open List renaming getElem?_append_left->zC,getElem?_append_right->zF,getElem?_take_of_lt->zL,length_pos_iff->zM,getElem!_eq_getElem?_getD->zO,getElem?_eq_none->zP,length_take->zT,all_eq_true->zU,getElem?_toArray->zZ,getElem?_cons_zero->yF,all_append->yG,getElem?_set_ne->yI,mem_of_mem_take->yJ,range_eq_range'->yK,length_append->yM,range'->yQ,range'_succ->yR,mem_append->yS,length_nil->yT,length_map->yU,find?_cons->yV,replicate->yW
open Nat renaming le_refl->zE,mul_le_mul_right->zG,add_mul->zH,lt_succ_of_lt->zK,le_trans->zN,zero_add->zR,add_zero->zS,lt_or_ge->zV,lt_of_lt_of_le->yB,lt_irrefl->yD,add_assoc->yL,add_comm->yN,succ_le_of_lt->yP,succ_mul->yZ,le_of_eq->xA
open Bool renaming and_eq_true->yA
open Array renaming getElem?_append_left->zD,length_toList->zI,getElem?_toList->zJ,getElem?_append_right->zQ,size_append->zX,getElem?_eq_none->zY,getElem?_extract->yH,map->yY
open Int renaming eq_ofNat_of_zero_le->yE
open UInt8 renaming ofNat->yC
open Option.some renaming injEq->zA
open Prod.mk renaming injEq->zB
open Go.Am.AObj renaming dead->zW
open Go.Am.AV renaming isCell->yO,int->yX
namespace Go.Am
open RowKit
section
variable {P:Program}{S:Snap}{W0:World}{H:Hp}
def Snap.tokn (S:Snap)(n:Nat)(o:Obj)(e hw sz:Nat):Snap :=
 {w:=S.w.alloc o,phi:=S.phi,pub:=λb i=>S.pub b i\/(b=S.w.heap.size/\i<hw),tk:=λt=>if t=n then Z (e,S.w.heap.size,hw,sz) else S.tk t,lim:=S.lim }
structure TokSet (H H':Hp)(n e:Nat):Prop where
 here:H'[n]?=Z (.tok e)
 there:∀ x,x≠n->H'[x]?=H[x]?
 len:O H<=O H'
 nd:H[n]?≠Z .dead
theorem TokSet.new (H:Hp)(e:Nat):TokSet H (H++[.tok e]) (O H) e:=by
 refine⟨cn,λx g=>?_,cn,cn⟩;rcases zV x (O H) with h|h
 ·exact zC h
 ·rw[zP (by simp;omega),zP h]
theorem TokSet.set {n e0 e:Nat}(h:H[n]?=Z (.tok e0)):TokSet H (H.set n (.tok e)) n e:=by
 refine⟨by simp[Zn h],λx g=>yI (Ne.symm g),cn,by rw[h];simp⟩
theorem Ext.tokn (g:Inv W0 S H){n e hw sz:Nat}{o:Obj}(C:∀ e0 A hw0 u,S.tk n=Z (e0,A,hw0,u)->e0<e):Ext S (S.tokn n o e hw sz):=by
 refine⟨⟨λ_ _ h=>h,λb i h=>⟨.inl h,World.cell?_alloc_lt _ _ _ (g.puball b i h)⟩,λt B b j y h=>?_⟩,rfl,λb i D E=>D.elim id λe=>by have:=g.lim;have:=g.below.size;have:=e.1;omega⟩;by_cases z:t=n
 ·subst z;have:=C _ _ _ _ h;exact⟨e,S.w.heap.size,hw,sz,by simp[Snap.tokn],J,λh=>J⟩
 ·exact⟨B,b,j,y,by simp[Snap.tokn,z,h],zE _,λ_=>⟨rfl,rfl,rfl⟩⟩
theorem Inv.tokn (g:Inv W0 S H){H':Hp}{n e hw sz:Nat}{c:Array Value}{el:TypeId}(D:TokSet H H' n e)(he:∀ e0 b0 hw0 af,S.tk n=Z (e0,b0,hw0,af)->e0<e)(ae:c.size=sz)(ab:hw<=sz) :
 Inv W0 (S.tokn n (.cells c el) e hw sz) H':=by
 have E:=Ext.tokn g (o:=.cells c el) (hw:=hw) (sz:=sz) he
 have K:∀ i,hw<=i->¬ (S.tokn n (.cells c el) e hw sz).pub S.w.heap.size i:=by
  rintro i hi (h|⟨_,h⟩)
  ·exact yD _ (g.puball _ i h)
  ·omega
 have j:∀ x,H'[x]?≠Z zW->H[x]?≠Z zW:=λx h=>by
  by_cases R:x=n
  ·subst R;exact D.nd
  ·rwa [D.there x R]at h
 refine⟨g.below.alloc g.size _,λx y h=>?_,λx R=>?_,λo1 o2 b B C T aa=>g.inj o1 o2 b B C (j _ T) (j _ aa),λt t' e1 b N Q e2 ag ah B C=>?_,λt e1 b N Q o h=>?_,λb i h=>?_,λo b h=>?_,λt e1 b N Q h=>?_,g.lim⟩
 ·by_cases z:x=n
  ·subst z;rw[D.here]at h;injection h with h;subst h;exact⟨S.w.heap.size,hw,sz,c,el,(0,0),by simp[Snap.tokn],g.size,heap_alloc_new S.w _,ae,ab,K,λi _ h=>J⟩
  ·rw[D.there x z]at h;refine (g.objs x y h).frame E (λb _ F=>⟨Below.heap_alloc S.w _ b F,λi L=>?_⟩) (by simp[Snap.tokn,z]) rfl;rcases L with L|⟨rfl,_⟩
   ·exact L
   ·exact absurd F (yD _)
 ·have ac:x≠n:=λz=>by subst z;have:=Zn D.here;omega
  obtain⟨p,q⟩:=g.past x (zN D.len R);exact⟨p,by simp[Snap.tokn,ac,q]⟩
 ·by_cases A:t=n
  ·by_cases u:t'=n
   ·rw[A,u]
   ·simp[Snap.tokn,A]at B;simp[Snap.tokn,u]at C;have:=g.tdom _ _ _ _ _ C;omega
  ·by_cases u:t'=n
   ·simp[Snap.tokn,A]at B;simp[Snap.tokn,u]at C;have:=g.tdom _ _ _ _ _ B;omega
   ·simp[Snap.tokn,A]at B;simp[Snap.tokn,u]at C;exact g.tinj _ _ _ _ _ _ _ _ _ B C
 ·by_cases A:t=n
  ·simp[Snap.tokn,A]at h;intro L;have ad:S.phi o=Z b:=L;have:=g.dom o b ad;omega
  ·simp[Snap.tokn,A]at h;exact g.apart _ _ _ _ _ o h
 ·show b<(S.w.alloc _).heap.size;rw[World.size_alloc];rcases h with h|⟨rfl,_⟩
  ·exact zK (g.puball b i h)
  ·exact Nat.lt_succ_self _
 ·show b<(S.w.alloc _).heap.size;rw[World.size_alloc];exact zK (g.dom o b h)
 ·show b<(S.w.alloc _).heap.size;rw[World.size_alloc];by_cases A:t=n
  ·simp[Snap.tokn,A]at h;omega
  ·simp[Snap.tokn,A]at h;exact zK (g.tdom _ _ _ _ _ h)
theorem Zqr {n e k len cap:Nat}{l:c6}{c:Array Value}{el:TypeId}(j:len=O l)(z:∀ e∈l,O e.cells=k)(h:(flat l).all yO=Y)
 (g:O l<=cap) (u:c.size=cap*k) (A:∀ (i:Nat) (x:AV) (v:Value),(flat l)[i]?=Z x->c[i]?=Z v->VRel (S.tokn n (.cells c el) e (O l*k) c.size) x v) :
 VRel (S.tokn n (.cells c el) e (O l*k) c.size) (.vs k (.own n e) l) (.slice (Z ⟨S.w.heap.size,0,X⟩) len cap):=by
 subst j;refine Mn (S:=S.tokn n (.cells c el) e (O l*k) c.size) (c:=c) (el:=el) (fz:=(0,0)) (heap_alloc_new S.w _) g z h (λi hi=>.inr ⟨rfl,J⟩) ?_ (λi x v hi y=>?_) ?_
 ·rw[zR,u];exact zG k g
 ·rw[zR]at y;exact A i x v hi y
 ·exact⟨e,S.w.heap.size,O l*k,c.size,by simp[Snap.tokn],zE _,λ_ _=>⟨rfl,J,J⟩⟩
theorem Zpt {l xs:c6}{old news rest:Array Value}(u:CellsRel S (flat l) old)(j:CellsRel S (flat xs) news)(i:Nat)(x:AV)(v:Value)(g:(flat (l++xs))[i]?=Z x)(h:(old++news++rest)[i]?=Z v):VRel S x v:=by
 rw[OJ]at g;have w:=u.size;have z:=j.size;by_cases hi:i<(flat l).length
 ·rw[zC hi]at g;rw[zD (by simp;omega),zD J]at h;exact u.rel i x v g h
 ·rw[zF J]at g;have y:=Zn g;rw[zD (by simp;omega),zQ J]at h;refine j.rel _ x v g ?_;rw[<-h,w]
theorem D3 {st xt ty e:TypeId}{xd:TypeDesc}{k n0 bytes tk:Nat}{u:Value}{base:Option Addr}{cap:Nat}{l xs:c6}{H':Hp}{old:Array Value}(hI:Inv W0 S H)
 (ht:P.underlying st=Z (.slice e)) (ab:P.underlying xt=Z xd) (ac:Xl xd=Y) (hs:Xr P e=Z k) (hb:DH P e=Z bytes) (hz:∃ z,∀ w:World,(zeroValue e).run P w=.ok z w/\z.cells.size=k)
 (hl:∀ e∈l,O e.cells=k) (j:CellsRel S (flat l) old) (K:(Builtin.firstCells k (O l) (.slice base (O l) cap)).run P S.w.drew=.ok old S.w.drew)
 (hx:∀ e∈xs,O e.cells=k) (T:∀ w:World,(Builtin.lenOf u).run P w=.ok (O xs) w) {news:Array Value} (g:CellsRel S (flat xs) news) (A:∀ w:World,w.heap=S.w.heap->(Builtin.firstCells k (O xs) u).run P w=.ok news w)
 (F:cap<O l+O xs) (B:YB (O l+O xs) bytes=Y) (hH:TokSet H H' tk n0) (he:∀ e0 b0 hw0 N,S.tk tk=Z (e0,b0,hw0,N)->e0<n0) :
 ∃ v' S',(Builtin.append_ #[st,xt] ty #[.slice base (O l) cap,u]).run P S.w=.ok v' S'.w/\Ext S S'/\Inv W0 S' H'/\VRel S' (.vs k (.own tk n0) (l++xs)) v':=by
 obtain⟨z,hz⟩:=hz;have y:=IH (P:=P) (ty:=ty) ht ab ac hs hb (λw=>(hz w).1) (T S.w) F (of_decide_eq_true B) K (A S.w.drew rfl);have E:=grownCap_ge S.w (O l+O xs) cap e;generalize grownCap S.w (O l+O xs) cap e=C at y E
 have L:(old++news++Builtin.zeroCells z.cells (C-(O l+O xs))).size=C*k:=by
  rw[zX,zX,size_zeroCells,j.size,g.size,Yc hl,Yc hx,(hz S.w).2,<-zH,<-zH];congr 1;omega
 generalize hc:old++news++Builtin.zeroCells z.cells (C-(O l+O xs))=c at y L;have Q:=hI.drew;have R:∀ e0 b0 hw0 N,S.drew.tk tk=Z (e0,b0,hw0,N)->e0<n0:=he;have ad:∀ e∈l++xs,O e.cells=k:=λe h=>(yS.1 h).elim (hl e) (hx e);have aa:(l++xs).length*k<=c.size:=by rw[L];exact zG k (by simpa using E)
 have D:=Ext.tokn Q (o:=.cells c e) (hw:=(l++xs).length*k) (sz:=c.size) R;refine⟨_,S.drew.tokn tk (.cells c e) n0 ((l++xs).length*k) c.size,y,(Ext.drew S).trans D,Q.tokn hH R rfl aa,?_⟩;refine Zqr (S:=S.drew) cn ad ?_ (by simpa using E) L (λi x v hi hv=>?_)
 ·rw[OJ,yG,j.cell,g.cell];rfl
 ·rw[<-hc]at hv;exact (Zpt (S:=S) j g i x v hi hv).mono ((Ext.drew S).trans D)
def Snap.toki (S:Snap)(n b:Nat)(c:Array Value)(e hw sz:Nat):Snap :=
 {w:=S.w.setRow b c,phi:=S.phi,pub:=λb' i=>S.pub b' i\/(b'=b/\i<hw),tk:=λt=>if t=n then Z (e,b,hw,sz) else S.tk t,lim:=S.lim }
theorem Ext.toki {n b e0 e hw0 hw sz:Nat}{c c':Array Value}{el:TypeId}{fz:Nat×Nat}(K:S.tk n=Z (e0,b,hw0,sz))(L:e0<e)(B:S.w.heap[b]?=Z (.cells c el fz))(y:∀ i,hw0<=i->¬ S.pub b i)
 (F:∀ i,i<hw0->c'[i]?=c[i]?) (C:S.lim<=b):Ext S (S.toki n b c' e hw sz):=by
 refine⟨⟨λ_ _ h=>h,λb' i h=>⟨.inl h,?_⟩,λt E D z A h=>?_⟩,rfl,λb' i y N=>y.elim id λe=>by have:=e.1;omega⟩
 ·by_cases g:b'=b
  ·subst g
   have hi:i<hw0:=by
    rcases zV i hw0 with u|u
    ·exact u
    ·exact absurd h (y i u)
   show (S.w.setRow b' c').cell? _=_;rw[cell_setRow_same S.w b' i c c' el fz B,cell_of_row S.w b' i c el fz B];exact F i hi
  ·exact cell_setRow_other _ _ _ _ g
 ·by_cases j:t=n
  ·subst j;rw[K]at h;simp only[zA,zB]at h;obtain⟨rfl,rfl,rfl,rfl⟩:=h;exact⟨e,b,hw,sz,by simp[Snap.toki],J,λh=>J⟩
  ·exact⟨E,D,z,A,by simp[Snap.toki,j,h],zE _,λ_=>⟨rfl,rfl,rfl⟩⟩
theorem Inv.toki (g:Inv W0 S H){H':Hp}{n b e0 e hw0 hw sz:Nat}{c c':Array Value}{el:TypeId}{fz:Nat×Nat}(L:TokSet H H' n e)(E:S.tk n=Z (e0,b,hw0,sz))(he:e0<e)(hB:W0.heap.size<=b)(hb:S.w.heap[b]?=Z (.cells c el fz))
 (hp:∀ i,hw0<=i->¬ S.pub b i) (hc:∀ i,i<hw0->c'[i]?=c[i]?) (ah:hw0<=hw) (ae:c'.size=sz) (ag:hw<=sz) (ac:ZqA c'.size fz):Inv W0 (S.toki n b c' e hw sz) H':=by
 have N:=Ext.toki (hw:=hw) E he hb hp hc (zN g.lim hB)
 have A:∀ x,H'[x]?≠Z zW->H[x]?≠Z zW:=λx h=>by
  by_cases hx:x=n
  ·subst hx;exact L.nd
  ·rwa [L.there x hx]at h
 refine⟨Below.setRow g.below hB c',λx y h=>?_,λx hx=>?_,λo1 o2 b B D aa ab=>g.inj o1 o2 b B D (A _ aa) (A _ ab),λt t' e1 C R T e2 ak am B D=>?_,λt e1 C R T o h=>?_,λC i h=>?_,λo C h=>?_,λt e1 C R T h=>?_,g.lim⟩
 ·by_cases u:x=n
  ·subst u;rw[L.here]at h;injection h with h;subst h;refine⟨b,hw,sz,c',el,fz,by simp[Snap.toki],hB,setRow_heap S.w b c c' el fz hb,ae,ag,λi hi j=>?_,ac⟩;rcases j with j|⟨_,j⟩
   ·exact hp i J j
   ·omega
  ·rw[L.there x u]at h
   cases y with
   |dead=>trivial
   |_ =>
    refine (g.objs x _ h).frame N (λb' F ai=>?_) (by simp[Snap.toki,u]) rfl
    have Q:b'≠b:=by
     rintro rfl
     rcases F with F|⟨e',aj,al,af⟩
     ·exact g.apart _ _ _ _ _ x E F
     ·exact u (g.tinj _ _ _ _ _ _ _ _ _ af E)
    refine⟨setRow_other _ _ _ _ Q,λi j=>?_⟩;rcases j with j|⟨B,_⟩
    ·exact j
    ·exact absurd B Q
 ·have ad:x≠n:=λu=>by subst u;have:=Zn L.here;omega
  obtain⟨p,q⟩:=g.past x (zN L.len hx);exact⟨p,by simp[Snap.toki,ad,q]⟩
 ·by_cases z:t=n
  ·by_cases K:t'=n
   ·rw[z,K]
   ·simp[Snap.toki,z]at B;simp[Snap.toki,K]at D;obtain⟨_,rfl,_,_⟩:=B;exact absurd (g.tinj _ _ _ _ _ _ _ _ _ D E) K
  ·by_cases K:t'=n
   ·simp[Snap.toki,z]at B;simp[Snap.toki,K]at D;obtain⟨_,rfl,_,_⟩:=D;exact absurd (g.tinj _ _ _ _ _ _ _ _ _ B E) z
   ·simp[Snap.toki,z]at B;simp[Snap.toki,K]at D;exact g.tinj _ _ _ _ _ _ _ _ _ B D
 ·by_cases z:t=n
  ·simp[Snap.toki,z]at h;obtain⟨_,rfl,_,_⟩:=h;exact g.apart _ _ _ _ _ o E
  ·simp[Snap.toki,z]at h;exact g.apart _ _ _ _ _ o h
 ·show C<(S.w.setRow b c').heap.size;rw[size_setRow];rcases h with h|⟨rfl,_⟩
  ·exact g.puball C i h
  ·exact g.tdom _ _ _ _ _ E
 ·show C<(S.w.setRow b c').heap.size;rw[size_setRow];exact g.dom o C h
 ·show C<(S.w.setRow b c').heap.size;rw[size_setRow];by_cases z:t=n
  ·simp[Snap.toki,z]at h;obtain⟨_,rfl,_,_⟩:=h;exact g.tdom _ _ _ _ _ E
  ·simp[Snap.toki,z]at h;exact g.tdom _ _ _ _ _ h
theorem Zfi {st xt ty e:TypeId}{xd:TypeDesc}{k n e0 b off cap:Nat}{u:Value}{l xs:c6}{f:Nat->Nat->Value}(hI:Inv W0 S H)
 (ht:P.underlying st=Z (.slice e)) (an:P.underlying xt=Z xd) (D:Xl xd=Y) (hs:Xr P e=Z k)
 (hl:∀ e,e∈l->O e.cells=k/\e.cells.all yO=Y) (ap:O l<=cap)
 (h1:∀ j i,j<O l->i<k->S.w.cell? ⟨b,off+j*k+i,X⟩=Z (f j i)/\S.pub b (off+j*k+i))
 (h2:∀ (j:Nat) (e:AV) (i:Nat) (c:AV),l[j]?=Z e->e.cells[i]?=Z c->VRel S c (f j i))
 (ae:TokOk S k (.own n e0) (O l) b off cap) (hn:H[n]?=Z (.tok e0))
 (hx:∀ e∈xs,O e.cells=k) (ac:∀ w:World,(Builtin.lenOf u).run P w=.ok (O xs) w) {news:Array Value} (g:CellsRel S (flat xs) news) (F:∀ w:World,w.heap=S.w.heap->(Builtin.firstCells k (O xs) u).run P w=.ok news w)
 (C:O l+O xs<=cap) (h0:0<O xs) :
 ∃ v' S',(Builtin.append_ #[st,xt] ty #[.slice (Z ⟨b,off,X⟩) (O l) cap,u]).run P S.w=.ok v' S'.w/\Ext S S'/\Inv W0 S' (H.set n (.tok (e0+O xs)))/\VRel S' (.vs k (.own n (e0+O xs)) (l++xs)) v':=by
 obtain⟨e1,b1,hw,sz,T,aq,ak⟩:=ae;obtain⟨b2,al,ao,c,el,fz,g1,g2,g3,g4,g5,g6,g7⟩:=hI.objs n _ hn;rw[T]at g1;simp only[zA,zB]at g1;obtain⟨q1,q2,q3,q4⟩:=g1;obtain rfl:e0=e1:=q1.symm;obtain rfl:b1=b2:=q2;obtain rfl:hw=al:=q3;obtain rfl:sz=ao:=q4;obtain⟨qb,K,aj⟩:=ak rfl J;obtain rfl:b=b1:=qb;have B:O news.toList=O xs*k:=by rw[zI,g.size,Yc hx]
 have ar:O l*k+O xs*k<=cap*k:=by rw[<-zH];exact zG k C
 have R:=FV P b (off+O l*k) el fz news.toList 0 c S.w g3 g7 (by rw[B,zS];omega) g.oneCells;rw[zS,B,K]at R;generalize L:(c.toList.take hw++news.toList++c.toList.drop (hw+O xs*k)).toArray=c' at R;have ad:=Jg (P:=P) (ty:=ty) (a:=⟨b,off,X⟩) (w':=S.w.setRow b c') ht an D hs (ac S.w) (F S.w rfl) C (by rw[YO,K];exact R)
 have z:∀ i,i<hw->c'[i]?=c[i]?:=λi hi=>by
  rw[<-L,zZ,zC (by simp;omega),zC (by simp;omega),zL hi,zJ]
 have N:∀ i,i<O xs*k->c'[hw+i]?=news[i]?:=λi hi=>by
  rw[<-L,zZ,zC (by simp at B ⊢;omega),zF (by simp;omega)];simp only[zT,zI,zJ];congr 1;omega
 have aa:c'.size=sz:=by
  rw[<-L];simp at B ⊢;omega
 have A:=Ext.toki (S:=S) (n:=n) (e:=e0+O xs) (hw:=hw+O xs*k) T J g3 g6 z (zN hI.lim g2);have af:=hI.toki (e:=e0+O xs) (TokSet.set hn) (hw:=hw+O xs*k) T J g2 g3 g6 z J aa J (by rw[aa,<-g4];exact g7);refine⟨_,S.toki n b c' (e0+O xs) (hw+O xs*k) sz,ad,A,af,?_⟩;have E:(l++xs).length=O l+O xs:=cn
 rw[<-E];have am:∀ e∈xs,e.cells.all yO=Y:=λe h=>Ik g.cell h;refine .vs k _ (l++xs) b off cap (λj i=>if j<O l then f j i else news.getD ((j-O l)*k+i) undef) (by rw[E];exact C) (λe h=>?_) (λj i hj hi=>?_) (λj e i x h D=>?_) ?_ X (.inl rfl)
 ·rcases yS.1 h with h|h
  ·exact hl e h
  ·exact⟨hx e h,am e h⟩
 ·by_cases y:j<O l
  ·rw[if_pos y];obtain⟨p,q⟩:=h1 j i y hi;obtain⟨q',p'⟩:=A.pub _ _ q;exact⟨p'.trans p,q'⟩
  ·rw[if_neg y];have Q:j-O l<O xs:=by rw[E]at hj;omega
   have ab:(j-O l)*k+i<O xs*k:=by
    have:=zG k (yP Q);rw[yZ]at this;omega
   have ah:off+j*k+i=hw+((j-O l)*k+i):=by
    have:j*k=O l*k+(j-O l)*k:=by rw[<-zH];congr 1;omega
    omega
   refine⟨?_,.inr ⟨rfl,J⟩⟩;show (S.w.setRow b c').cell? _=_;rw[cell_setRow_same S.w b _ c c' el fz g3,ah,N _ ab];have:(j-O l)*k+i<news.size:=by simp at B;omega
   simp[this]
 ·by_cases y:j<O l
  ·rw[if_pos y];rw[zC y]at h;exact (h2 j e i x h D).mono A
  ·rw[if_neg y];rw[zF J]at h;have ag:i<k:=by rw[<-hx e (List.mem_of_getElem? h)];exact Zn D
   have Q:=Zn h
   have ab:(j-O l)*k+i<O xs*k:=by
    have:=zG k (yP Q);rw[yZ]at this;omega
   have ai:(j-O l)*k+i<news.size:=by simp at B;omega
   refine (g.rel ((j-O l)*k+i) x _ ?_ ?_).mono A
   ·rw[JE hx _ _ e h ag];exact D
   ·simp[ai]
 ·refine⟨e0+O xs,b,hw+O xs*k,sz,by simp[Snap.toki],zE _,λ_ _=>⟨rfl,?_,aj⟩⟩;rw[E,zH];omega
theorem kD {st xt ty e:TypeId}{xd:TypeDesc}{k bytes:Nat}{s x r:AV}{us u:Value}{xs:c6}{H':Hp}(D:Inv W0 S H)(aa:0<k)
 (R:P.underlying st=Z (.slice e)) (B:P.underlying xt=Z xd) (C:Xl xd=Y) (Q:Xr P e=Z k) (hb:DH P e=Z bytes) (hz:∃ z,∀ w:World,(zeroValue e).run P w=.ok z w/\z.cells.size=k)
 (ac:VRel S s us) (ah:VRel S x u) (af:elems k x H=Z xs) (h:Ys k bytes s xs H=Z (r,H')) :
 ∃ v' S',(Builtin.append_ #[st,xt] ty #[us,u]).run P S.w=.ok v' S'.w/\Ext S S'/\Inv W0 S' H'/\VRel S' r v':=by
 obtain⟨hx,y,news,j,g⟩:=Kn (P:=P) D aa ah af;unfold Ys at h;split at h
 ·cases ac with|nils =>
  split at h
  ·rename_i A;subst A;simp only[zA,zB]at h;obtain⟨rfl,rfl⟩:=h;exact⟨_,S,Eo (P:=P) (ty:=ty) R B C Q (y S.w) (g S.w rfl),Ext.refl S,D,.nils⟩
  ·rename_i A;split at h
   ·rename_i hf;simp only[zA,zB]at h;obtain⟨rfl,rfl⟩:=h;have F:0<O xs:=zM.2 A
    have:=D3 (P:=P) (ty:=ty) (S:=S) (base:=X) (cap:=0) (l:=[]) (old:=#[]) (n0:=O xs) (tk:=O H) (H':=H++[.tok (O xs)]) D R B C Q hb hz cn ⟨rfl,by simp[flat],rfl⟩ rfl hx y j g
     (by simpa using F) (by simpa using hf) (TokSet.new H _) (λe0 b0 hw0 ad h=>by rw[(D.past _ (zE _)).2]at h;cases h)
    simpa using this
   ·cases h
 ·rename_i k' tok l;split at h
  ·rename_i hc;obtain⟨ag,hf⟩:=hc;obtain rfl:k=k':=ag.symm;cases ac with|vs _ _ _ b off cap f hcap hl h1 h2 htok sp hsp =>
   have ab:∀ e∈l,O e.cells=k:=λe he=>(hl e he).1;have L:elems k (.vs k tok l) H=Z l:=by simp[elems]
   obtain⟨_,_,old,K,E⟩:=Kn (P:=P) D aa (.vs k tok l b off cap f hcap hl h1 h2 htok sp hsp) L;split at h
   ·rename_i A;subst A;simp only[zA,zB]at h;obtain⟨rfl,rfl⟩:=h;refine⟨_,S,Jg (P:=P) (ty:=ty) (news:=news) (m:=0) (w':=S.w) R B C Q (y S.w) (g S.w rfl) J ?_,Ext.refl S,D,?_⟩
    ·have:news=#[]:=by
      have:=j.size;simp[flat]at this;exact this
     subst this;rfl
    ·exact .vs k tok l b off cap f hcap hl h1 h2 htok sp hsp
   ·rename_i A;have F:0<O xs:=zM.2 A;split at h
    ·simp only[zA,zB]at h;obtain⟨rfl,rfl⟩:=h;have ai:cap=O l:=htok
     exact D3 (P:=P) (ty:=ty) (S:=S) (base:=Z ⟨b,off,sp⟩) (cap:=cap) D R B C Q hb hz ab K (E S.w.drew rfl) hx y j g
      J hf (TokSet.new H _) (λe0 b0 hw0 ad h=>by rw[(D.past _ (zE _)).2]at h;cases h)
    ·rename_i t e0;split at h
     ·rename_i e1 N;split at h
      ·rename_i ae;subst ae;simp only[zA,zB]at h;obtain⟨rfl,rfl⟩:=h;by_cases T:O l+O xs<=cap
       ·obtain rfl:sp=X:=hsp.resolve_right J;exact Zfi (P:=P) (ty:=ty) D R B C Q hl hcap h1 h2 htok N hx y j g T F
       ·refine D3 (P:=P) (ty:=ty) (S:=S) (base:=Z ⟨b,off,sp⟩) (cap:=cap) D R B C Q hb hz ab K (E S.w.drew rfl) hx y j g
         J hf (TokSet.set N) (λe0 b0 hw0 ad h=>?_)
        obtain⟨b2,aj,ak,c,el,fz,g1,_⟩:=D.objs t _ N;rw[g1]at h;simp only[zA,zB]at h;omega
      ·cases h
     ·cases h
    ·cases h
  ·cases h
 ·cases h
structure RowSet (H H':Hp)(n:Nat)(x:AObj):Prop where
 here:H'[n]?=Z x
 there:∀ y,y≠n->H'[y]?=H[y]?
 len:O H<=O H'
 nd:H[n]?≠Z .dead
 xd:x≠.dead
theorem RowSet.new (H:Hp)(e:Nat)(l:c6):RowSet H (H++[.row e l]) (O H) (.row e l):=by
 refine⟨cn,λx g=>?_,cn,cn,cn⟩;rcases zV x (O H) with h|h
 ·exact zC h
 ·rw[zP (by simp;omega),zP h]
theorem RowSet.set {n e0 e:Nat}{j l:c6}(h:H[n]?=Z (.row e0 j)):RowSet H (H.set n (.row e l)) n (.row e l):=by
 refine⟨by simp[Zn h],λx g=>yI (Ne.symm g),cn,by rw[h];simp,cn⟩
def Snap.rown (S:Snap)(n:Nat)(o:Obj)(e hw sz:Nat):Snap :=
 {w:=S.w.alloc o,phi:=S.phi,pub:=S.pub,tk:=λt=>if t=n then Z (e,S.w.heap.size,hw,sz) else S.tk t,lim:=S.lim }
theorem Ext.rown (B:Inv W0 S H){n e hw sz:Nat}{o:Obj}(C:∀ e0 z hw0 j,S.tk n=Z (e0,z,hw0,j)->e0<e):Ext S (S.rown n o e hw sz):=by
 refine⟨⟨λ_ _ h=>h,λb i h=>⟨h,World.cell?_alloc_lt _ _ _ (B.puball b i h)⟩,λt A b g u h=>?_⟩,rfl,λb i D _=>D⟩;by_cases y:t=n
 ·subst y;have:=C _ _ _ _ h;exact⟨e,S.w.heap.size,hw,sz,by simp[Snap.rown],J,λh=>J⟩
 ·exact⟨A,b,g,u,by simp[Snap.rown,y,h],zE _,λ_=>⟨rfl,rfl,rfl⟩⟩
theorem Inv.rown (g:Inv W0 S H){H':Hp}{n e hw sz:Nat}{o:Obj}{x:AObj}(E:RowSet H H' n x)(he:∀ e0 b0 hw0 ac,S.tk n=Z (e0,b0,hw0,ac)->e0<e)(F:ORel (S.rown n o e hw sz) W0.heap.size n x) :
 Inv W0 (S.rown n o e hw sz) H':=by
 have K:=Ext.rown g (o:=o) (hw:=hw) (sz:=sz) he
 have j:∀ x,H'[x]?≠Z zW->H[x]?≠Z zW:=λx h=>by
  by_cases F:x=n
  ·subst F;exact E.nd
  ·rwa [E.there x F]at h
 refine⟨g.below.alloc g.size _,λy z h=>?_,λx F=>?_,λo1 o2 b C D Q R=>g.inj o1 o2 b C D (j _ Q) (j _ R),λt t' e1 b L N e2 ad ae C D=>?_,λt e1 b L N o h=>?_,λb i h=>?_,λo b h=>?_,λt e1 b L N h=>?_,g.lim⟩
 ·by_cases A:y=n
  ·subst A;rw[E.here]at h;injection h with h;subst h;exact F
  ·rw[E.there y A]at h;exact (g.objs y z h).frame K (λb _ T=>⟨Below.heap_alloc S.w _ b T,λi hp=>hp⟩) (by simp[Snap.rown,A]) rfl
 ·have aa:x≠n:=λA=>by subst A;have:=Zn E.here;omega
  obtain⟨p,q⟩:=g.past x (zN E.len F);exact⟨p,by simp[Snap.rown,aa,q]⟩
 ·by_cases B:t=n
  ·by_cases u:t'=n
   ·rw[B,u]
   ·simp[Snap.rown,B]at C;simp[Snap.rown,u]at D;have:=g.tdom _ _ _ _ _ D;omega
  ·by_cases u:t'=n
   ·simp[Snap.rown,B]at C;simp[Snap.rown,u]at D;have:=g.tdom _ _ _ _ _ C;omega
   ·simp[Snap.rown,B]at C;simp[Snap.rown,u]at D;exact g.tinj _ _ _ _ _ _ _ _ _ C D
 ·by_cases B:t=n
  ·simp[Snap.rown,B]at h;intro hp;have ab:S.phi o=Z b:=hp;have:=g.dom o b ab;omega
  ·simp[Snap.rown,B]at h;exact g.apart _ _ _ _ _ o h
 ·show b<(S.w.alloc _).heap.size;rw[World.size_alloc];exact zK (g.puball b i h)
 ·show b<(S.w.alloc _).heap.size;rw[World.size_alloc];exact zK (g.dom o b h)
 ·show b<(S.w.alloc _).heap.size;rw[World.size_alloc];by_cases B:t=n
  ·simp[Snap.rown,B]at h;omega
  ·simp[Snap.rown,B]at h;exact zK (g.tdom _ _ _ _ _ h)
def Snap.rowi (S:Snap)(n b:Nat)(c:Array Value)(e hw sz:Nat):Snap :=
 {w:=S.w.setRow b c,phi:=S.phi,pub:=S.pub,tk:=λt=>if t=n then Z (e,b,hw,sz) else S.tk t,lim:=S.lim }
theorem Ext.rowi {n b e0 e hw0 hw sz:Nat}{c':Array Value}(B:S.tk n=Z (e0,b,hw0,sz))(C:e0<e)(u:∀ i,¬ S.pub b i):Ext S (S.rowi n b c' e hw sz):=by
 refine⟨⟨λ_ _ h=>h,λb' i h=>⟨h,?_⟩,λt A z w y h=>?_⟩,rfl,λb' i u _=>u⟩
 ·by_cases g:b'=b
  ·subst g;exact absurd h (u i)
  ·exact cell_setRow_other _ _ _ _ g
 ·by_cases j:t=n
  ·subst j;rw[B]at h;simp only[zA,zB]at h;obtain⟨rfl,rfl,rfl,rfl⟩:=h;exact⟨e,b,hw,sz,by simp[Snap.rowi],J,λh=>J⟩
  ·exact⟨A,z,w,y,by simp[Snap.rowi,j,h],zE _,λ_=>⟨rfl,rfl,rfl⟩⟩
theorem Inv.rowi (g:Inv W0 S H){H':Hp}{n b e0 e hw0 hw sz:Nat}{c':Array Value}{x:AObj}(K:RowSet H H' n x)(E:S.tk n=Z (e0,b,hw0,sz))(he:e0<e)(hB:W0.heap.size<=b)
 (hp:∀ i,¬ S.pub b i) (L:ORel (S.rowi n b c' e hw sz) W0.heap.size n x):Inv W0 (S.rowi n b c' e hw sz) H':=by
 have N:=Ext.rowi (c':=c') (hw:=hw) E he hp
 have z:∀ x,H'[x]?≠Z zW->H[x]?≠Z zW:=λx h=>by
  by_cases L:x=n
  ·subst L;exact K.nd
  ·rwa [K.there x L]at h
 refine⟨Below.setRow g.below hB c',λx y h=>?_,λx L=>?_,λo1 o2 b B C T aa=>g.inj o1 o2 b B C (z _ T) (z _ aa),λt t' e1 A Q R e2 ah aj B C=>?_,λt e1 A Q R o h=>?_,λA i h=>?_,λo A h=>?_,λt e1 A Q R h=>?_,g.lim⟩
 ·by_cases j:x=n
  ·subst j;rw[K.here]at h;injection h with h;subst h;exact L
  ·rw[K.there x j]at h
   cases y with
   |dead=>trivial
   |_ =>
    refine (g.objs x _ h).frame N (λb' D af=>?_) (by simp[Snap.rowi,j]) rfl
    have ab:b'≠b:=by
     rintro rfl
     rcases D with D|⟨e',ag,ai,ae⟩
     ·exact g.apart _ _ _ _ _ x E D
     ·exact j (g.tinj _ _ _ _ _ _ _ _ _ ae E)
    exact⟨setRow_other _ _ _ _ ab,λi ad=>ad⟩
 ·have ac:x≠n:=λj=>by subst j;have:=Zn K.here;omega
  obtain⟨p,q⟩:=g.past x (zN K.len L);exact⟨p,by simp[Snap.rowi,ac,q]⟩
 ·by_cases u:t=n
  ·by_cases F:t'=n
   ·rw[u,F]
   ·simp[Snap.rowi,u]at B;simp[Snap.rowi,F]at C;obtain⟨_,rfl,_,_⟩:=B;exact absurd (g.tinj _ _ _ _ _ _ _ _ _ C E) F
  ·by_cases F:t'=n
   ·simp[Snap.rowi,u]at B;simp[Snap.rowi,F]at C;obtain⟨_,rfl,_,_⟩:=C;exact absurd (g.tinj _ _ _ _ _ _ _ _ _ B E) u
   ·simp[Snap.rowi,u]at B;simp[Snap.rowi,F]at C;exact g.tinj _ _ _ _ _ _ _ _ _ B C
 ·by_cases u:t=n
  ·simp[Snap.rowi,u]at h;obtain⟨_,rfl,_,_⟩:=h;exact g.apart _ _ _ _ _ o E
  ·simp[Snap.rowi,u]at h;exact g.apart _ _ _ _ _ o h
 ·show A<(S.w.setRow b c').heap.size;rw[size_setRow];exact g.puball A i h
 ·show A<(S.w.setRow b c').heap.size;rw[size_setRow];exact g.dom o A h
 ·show A<(S.w.setRow b c').heap.size;rw[size_setRow];by_cases u:t=n
  ·simp[Snap.rowi,u]at h;obtain⟨_,rfl,_,_⟩:=h;exact g.tdom _ _ _ _ _ E
  ·simp[Snap.rowi,u]at h;exact g.tdom _ _ _ _ _ h
theorem Tu {st xt ty e:TypeId}{xd:TypeDesc}{k n0 bytes tk:Nat}{u:Value}{base:Option Addr}{len cap:Nat}{lc:c6}{xs:c6}{ag:Bool}{H':Hp}{old:Array Value}(hI:Inv W0 S H)
 (ht:P.underlying st=Z (.slice e)) (ad:P.underlying xt=Z xd) (ae:Xl xd=Y) (hs:Xr P e=Z k) (hb:DH P e=Z bytes) (hz:∃ z,∀ w:World,(zeroValue e).run P w=.ok z w/\z.cells.size=k)
 (hl:O lc=len*k) (g:CellsRel S lc old) (L:(Builtin.firstCells k len (.slice base len cap)).run P S.w.drew=.ok old S.w.drew)
 (hx:∀ e∈xs,O e.cells=k) (aa:∀ w:World,(Builtin.lenOf u).run P w=.ok (O xs) w) {news:Array Value} (j:CellsRel S (flat xs) news) (B:∀ w:World,w.heap=S.w.heap->(Builtin.firstCells k (O xs) u).run P w=.ok news w)
 (K:cap<len+O xs) (D:YB (len+O xs) bytes=Y) (hH:RowSet H H' tk (.row n0 (lc++flat xs))) (he:∀ e0 b0 hw0 Q,S.tk tk=Z (e0,b0,hw0,Q)->e0<n0) :
 ∃ v' S',(Builtin.append_ #[st,xt] ty #[.slice base len cap,u]).run P S.w=.ok v' S'.w/\Ext S S'/\Inv W0 S' H'/\VRel S' (.ws ag k tk n0 (len+O xs)) v':=by
 obtain⟨z,hz⟩:=hz;have y:=IH (P:=P) (ty:=ty) ht ad ae hs hb (λw=>(hz w).1) (aa S.w) K (of_decide_eq_true D) L (B S.w.drew rfl);have F:=grownCap_ge S.w (len+O xs) cap e;generalize grownCap S.w (len+O xs) cap e=C at y F
 have N:(old++news++Builtin.zeroCells z.cells (C-(len+O xs))).size=C*k:=by
  rw[zX,zX,size_zeroCells,g.size,j.size,hl,Yc hx,(hz S.w).2,<-zH,<-zH];congr 1;omega
 generalize hc:old++news++Builtin.zeroCells z.cells (C-(len+O xs))=c at y N;have A:=hI.drew;have R:∀ e0 b0 hw0 Q,S.drew.tk tk=Z (e0,b0,hw0,Q)->e0<n0:=he;have ab:(lc++flat xs).length=(len+O xs)*k:=by rw[yM,hl,Yc hx,zH]
 have ac:(lc++flat xs).length<=c.size:=by rw[N,ab];exact zG k F
 have E:=Ext.rown A (o:=.cells c e) (hw:=(lc++flat xs).length) (sz:=c.size) R;refine⟨_,S.drew.rown tk (.cells c e) n0 (lc++flat xs).length c.size,y,(Ext.drew S).trans E,A.rown hH R ?_,?_⟩
 ·refine⟨S.drew.w.heap.size,c.size,c,e,(0,0),by simp[Snap.rown],A.size,heap_alloc_new S.drew.w _,rfl,ac,λi x v hi hv=>?_,λi hp=>absurd (A.puball _ i hp) (yD _),by rw[yG,g.cell,j.cell];rfl,λi _ h=>Nat.not_lt_zero _ h.2⟩;refine VRel.mono ((Ext.drew S).trans E) ?_;rw[<-hc]at hv;by_cases T:i<O lc
  ·rw[zC T]at hi;rw[zD (by simp[g.size];omega),zD (by rw[g.size];exact T)]at hv;exact g.rel i x v hi hv
  ·rw[zF J]at hi;have af:=Zn hi;rw[zD (by simp[g.size,j.size];omega),zQ (by rw[g.size];omega)]at hv;exact j.rel _ x v hi (by rw[<-hv,g.size])
 ·refine .ws ag k tk n0 _ C S.drew.w.heap.size ⟨n0,S.drew.w.heap.size,(lc++flat xs).length,c.size,by simp[Snap.rown],zE _,λ_=>⟨rfl,xA ab.symm,by rw[N];exact zE _⟩⟩ F
theorem Zkf {st xt ty e:TypeId}{xd:TypeDesc}{k n e0 b len cap:Nat}{u:Value}{lc xs:c6}{ag:Bool}(hI:Inv W0 S H)
 (ht:P.underlying st=Z (.slice e)) (ad:P.underlying xt=Z xd) (ae:Xl xd=Y) (hs:Xr P e=Z k)
 (hr:RowOk S n e0 b (len*k) (cap*k)) {l0:c6} (hn:H[n]?=Z (.row e0 l0)) (C:lc=l0.take (len*k)) (hl:O lc=len*k)
 (T:∀ e∈xs,O e.cells=k) (N:∀ w:World,(Builtin.lenOf u).run P w=.ok (O xs) w) {news:Array Value} (g:CellsRel S (flat xs) news) (j:∀ w:World,w.heap=S.w.heap->(Builtin.firstCells k (O xs) u).run P w=.ok news w)
 (h:len+O xs<=cap) :
 ∃ v' S',(Builtin.append_ #[st,xt] ty #[.slice (Z ⟨b,0,X⟩) len cap,u]).run P S.w=.ok v' S'.w/\Ext S S'/\Inv W0 S' (H.set n (.row (e0+1) (lc++flat xs)))/\VRel S' (.ws ag k n (e0+1) (len+O xs)) v':=by
 obtain⟨e1,b1,hw,sz,ab,af,ac⟩:=hr;obtain⟨b2,z,c,el,fz,g1,g2,g3,g4,g5,g6,g7,g8,g9⟩:=hI.objs n _ hn;have B:=g1;rw[ab]at B;simp only[zA,zB]at B;obtain⟨q1,q2,q3,q4⟩:=B;obtain⟨r1,r2,r3⟩:=ac q1.symm;obtain rfl:b=b2:=r1.trans q2
 have g6:∀ i x v,lc[i]?=Z x->c[i]?=Z v->VRel S x v:=λi x v hi F=>by
  rw[C]at hi;have D:=Zn hi;rw[zT]at D;rw[zL J]at hi;exact g6 i x v hi F
 have g8:lc.all yO=Y:=by rw[C];exact zU.2 λx T=>zU.1 g8 x (yJ T)
 have ai:O lc<=O l0:=by rw[C,zT];omega
 have y:O news.toList=O xs*k:=by rw[zI,g.size,Yc T]
 have ah:len*k+O xs*k<=cap*k:=by rw[<-zH];exact zG k h
 have E:=FV P b (len*k) el fz news.toList 0 c S.w g3 g9 (by rw[y,zS];omega) g.oneCells;rw[zS,y]at E;generalize K:(c.toList.take (len*k)++news.toList++c.toList.drop (len*k+O xs*k)).toArray=c' at E;have R:=Jg (P:=P) (ty:=ty) (a:=⟨b,0,X⟩) (w':=S.w.setRow b c') ht ad ae hs (N S.w) (j S.w rfl) h (by rw[YO,zR];exact E)
 have L:c'.size=z:=by
  rw[<-K];simp at y ⊢;omega
 have Q:(lc++flat xs).length=(len+O xs)*k:=by rw[yM,hl,Yc T,zH]
 have A:=Ext.rowi (S:=S) (n:=n) (e:=e0+1) (c':=c') (hw:=(lc++flat xs).length) g1 J g7;refine⟨_,S.rowi n b c' (e0+1) (lc++flat xs).length z,R,A,hI.rowi (RowSet.set hn) g1 J g2 g7 ?_,?_⟩
 ·refine⟨b,z,c',el,fz,by simp[Snap.rowi],g2,setRow_heap S.w b c c' el fz g3,L,by rw[Q,zH];omega,λi x v hi F=>?_,g7,by rw[yG,g8,g.cell];rfl,by rw[L,<-g4];exact g9⟩;refine VRel.mono A ?_;rw[<-K,zZ]at F;by_cases aa:i<O lc
  ·rw[zC aa]at hi;rw[zC (by simp;omega),zC (by simp;omega),zL J,zJ]at F;exact g6 i x v hi F
  ·rw[zF J]at hi;have D:=Zn hi;rw[Yc T]at D;rw[zC (by simp at y ⊢;omega),zF (by simp;omega)]at F;refine g.rel _ x v hi ?_;rw[<-F,zJ];congr 1;simp;omega
 ·exact .ws ag k n (e0+1) _ cap b ⟨e0+1,b,(lc++flat xs).length,z,by simp[Snap.rowi],zE _,λ_=>⟨rfl,xA Q.symm,J⟩⟩ h
theorem ZoN {st xt ty e:TypeId}{xd:TypeDesc}{ag:Bool}{k bytes:Nat}{s x r:AV}{us u:Value}{xs:c6}{H':Hp}(F:Inv W0 S H)(aa:0<k)
 (ht:P.underlying st=Z (.slice e)) (C:P.underlying xt=Z xd) (D:Xl xd=Y) (T:Xr P e=Z k) (hb:DH P e=Z bytes) (hz:∃ z,∀ w:World,(zeroValue e).run P w=.ok z w/\z.cells.size=k)
 (N:VRel S s us) (al:VRel S x u) (aj:elems k x H=Z xs) (h:QH ag k bytes s xs H=Z (r,H')) :
 ∃ v' S',(Builtin.append_ #[st,xt] ty #[us,u]).run P S.w=.ok v' S'.w/\Ext S S'/\Inv W0 S' H'/\VRel S' r v':=by
 obtain⟨hx,A,news,y,g⟩:=Kn (P:=P) F aa al aj;have R:∀ l:c6,(l.map AV.cells).flatten=flat l:=λl=>rfl;unfold QH at h;split at h
 ·cases N with|nils =>
  split at h
  ·rename_i B;subst B;simp only[zA,zB]at h;obtain⟨rfl,rfl⟩:=h;exact⟨_,S,Eo (P:=P) (ty:=ty) ht C D T (A S.w) (g S.w rfl),Ext.refl S,F,.nils⟩
  ·rename_i B;split at h
   ·rename_i hf;simp only[zA,zB]at h;obtain⟨rfl,rfl⟩:=h;have L:0<O xs:=zM.2 B
    have:=Tu (P:=P) (ty:=ty) (S:=S) (base:=X) (len:=0) (cap:=0) (lc:=[]) (old:=#[]) (n0:=0) (tk:=O H) (ag:=ag) (H':=H++[.row 0 (flat xs)]) F ht C D T hb hz cn ⟨rfl,cn,rfl⟩ rfl hx A y g
     (by simpa using L) (by simpa using hf) (by simpa using RowSet.new H 0 (flat xs)) (λe0 b0 hw0 ah h=>by rw[(F.past _ (zE _)).2]at h;cases h)
    simpa[R]using this
   ·cases h
 ·rename_i k' l;split at h
  ·rename_i hc;obtain⟨ab,hf⟩:=hc;obtain rfl:k=k':=ab.symm;have ae:elems k (.vs k .clip l) H=Z l:=by simp[elems]
   obtain⟨an,_,old,E,ad⟩:=Kn (P:=P) F aa N ae;cases N with|vs _ _ _ b off cap f hcap hl h1 h2 htok sp hsp =>
   split at h
   ·rename_i B;subst B;simp only[zA,zB]at h;obtain⟨rfl,rfl⟩:=h;refine⟨_,S,Jg (P:=P) (ty:=ty) (news:=news) (m:=0) (w':=S.w) ht C D T (A S.w) (g S.w rfl) J ?_,Ext.refl S,F,?_⟩
    ·have:news=#[]:=by
      have:=y.size;simp[flat]at this;exact this
     subst this;rfl
    ·exact .vs k .clip l b off cap f hcap hl h1 h2 htok sp hsp
   ·rename_i B;have L:0<O xs:=zM.2 B;simp only[zA,zB]at h;obtain⟨rfl,rfl⟩:=h;have aq:cap=O l:=htok
    have:=Tu (P:=P) (ty:=ty) (S:=S) (base:=Z ⟨b,off,sp⟩) (len:=O l) (cap:=cap) (lc:=flat l) (n0:=0) (tk:=O H) (ag:=ag) (H':=H++[.row 0 (flat l++flat xs)]) F ht C D T hb hz (Yc an) E (ad S.w.drew rfl) hx A y g
     J hf (RowSet.new H 0 _) (λe0 b0 hw0 ah h=>by rw[(F.past _ (zE _)).2]at h;cases h)
    simpa[R,OJ]using this
  ·cases h
 ·rename_i ai k' o e0 len;split at h
  ·rename_i hc;obtain⟨rfl,ab,hf⟩:=hc;obtain rfl:k=k':=ab.symm;cases N with|ws _ _ _ _ _ cap b hr hcap =>
   split at h
   ·rename_i B;subst B;simp only[zA,zB]at h;obtain⟨rfl,rfl⟩:=h;refine⟨_,S,Jg (P:=P) (ty:=ty) (news:=news) (m:=0) (w':=S.w) ht C D T (A S.w) (g S.w rfl) J ?_,Ext.refl S,F,?_⟩
    ·have:news=#[]:=by
      have:=y.size;simp[flat]at this;exact this
     subst this;rfl
    ·exact .ws _ k o e0 len cap b hr hcap
   ·rename_i B;have L:0<O xs:=zM.2 B;split at h
    ·rename_i e1 l0 af;split at h
     ·rename_i am;obtain⟨rfl,ap⟩:=am;simp only[zA,zB,cJ]at h;obtain⟨rfl,rfl⟩:=h;generalize K:l0.take (len*k)=lc;have ac:O lc=len*k:=by rw[<-K,zT];omega
      by_cases ak:len+O xs<=cap
      ·have:=Zkf (P:=P) (ty:=ty) (ag:=ai) F ht C D T hr af K.symm ac hx A y g ak;simpa[R]using this
      ·obtain⟨b2,aw,c,el,fz,g1,g2,g3,g4,g5,g6,g7,g8,g9⟩:=F.objs o _ af;obtain⟨e2,b0,hw0,ah,q1,q2,q3⟩:=hr;rw[g1]at q1;simp only[zA,zB]at q1;obtain⟨u1,u2,u3,u4⟩:=q1;obtain⟨w1,w2,w3⟩:=q3 u1;obtain rfl:b=b2:=w1.trans u2.symm;have ar:O lc<=O l0:=by rw[<-K,zT];omega
       have E:CellsRel S lc (c.extract 0 (O lc)):=by
        refine⟨by simp;omega,λi x v hi Q=>?_,by rw[<-K];exact zU.2 λx hx=>zU.1 g8 x (yJ hx)⟩;rw[yH]at Q;split at Q
        ·rw[zR]at Q;have au:=Zn hi;rw[<-K,zL J]at hi;exact g6 i x v hi Q
        ·cases Q
       have:=Tu (P:=P) (ty:=ty) (S:=S) (base:=Z ⟨b,0,X⟩) (len:=len) (cap:=cap) (lc:=lc) (old:=c.extract 0 (O lc)) (n0:=e1+1) (tk:=o) (ag:=ai) (H':=H.set o (.row (e1+1) (lc++flat xs))) F ht C D T hb hz ac E ?_ hx A y g
        J hf (RowSet.set af) (λe0 b0 hw0 ah h=>by
         rw[g1]at h;simp only[zA,zB]at h;omega)
       ·simpa[R]using this
       ·simp only[Builtin.firstCells]
        have hl:=run_loadCells_list (P:=P) S.w.drew ⟨b,0,X⟩ (c.extract 0 (O lc)).toList (λj v Q=>by
         have hd:S.w.drew.heap=S.w.heap:=rfl;rw[cell_of_heap hd,YO,cell_of_row S.w b _ c el fz g3];rw[zJ,yH]at Q;split at Q
         ·exact Q
         ·cases Q)
        have ao:(c.extract 0 (O lc)).toList.length=len*k:=by rw[zI,E.size];exact ac
        rw[ao,Array.toArray_toList]at hl;exact hl
     ·cases h
    ·cases h
  ·cases h
 ·exact kD F aa ht C D T hb hz N al aj h
theorem Zt6 {t:TypeId}{z:AV}{i:TypeInfo}(h:JY P t=Z z)(hi:P.info? t=Z i):∃ g,i.zero=Z g/\∀ S:Snap,VRel S z g:=by
 unfold JY at h;simp only[hi]at h
 cases j:i.zero with
 |none=>simp[j]at h
 |some g=>simp[j]at h;subst h;exact⟨g,rfl,λS=>LE 3 g⟩
theorem ZoV {t e:TypeId}{k bytes:Nat}{ag:Bool}{z len cap r:AV}{ul uc:Value}{H':Hp}(B:Inv W0 S H)(ht:P.underlying t=Z (.slice e))(hs:Xr P e=Z k)(hb:DH P e=Z bytes)(hz:JY P e=Z z)
 (hl:VRel S len ul) (hc:VRel S cap uc) (h:Uy k bytes ag z len cap H=Z (r,H')):∃ v' T,(Instr.makeSlice t ul uc).run P S.w=.ok v' T.w/\Ext S T/\Inv W0 T H'/\VRel T r v':=by
 unfold Uy at h;split at h
 ·rename_i n c;split at h
  ·rename_i y;obtain⟨h0,K,ai,Q,ah,F⟩:=y;cases hl with|int _ _ =>
   cases hc with|int _ _ =>
   obtain⟨i,hi,ae,_⟩:=ZiO hb S.w;obtain⟨A,aj,ak⟩:=Zt6 hz hi;subst ae
   have af:i.size=k:=by
    unfold Xr at hs;simpa[hi]using hs
   subst af;obtain⟨N,rfl⟩:=yE h0;obtain⟨C,rfl⟩:=yE (Int.le_trans h0 K);have g:C*(i.bytes+1)<=140737488355328:=of_decide_eq_true F;have al:C*i.bytes<=140737488355328:=zN (Nat.mul_le_mul_left _ (Nat.le_succ _)) g;have an:C<=140737488355328:=zN (Nat.le_mul_of_pos_right _ (Nat.succ_pos _)) g;have ab:N<=C:=J
   have ac:(i.bytes:Int)*(C:Int)<=281474976710656:=by
    have:((C*i.bytes:Nat):Int)<=140737488355328:=J
    rw[Int.natCast_mul]at this;rw[Int.mul_comm];omega
   have j:=run_make (P:=P) S.w t e i A ht hi aj .i64 .i64 (N:Int) (C:Int) h0 K ac J;have u:CellsRel S (flat (yW C z)) (madeCells A.cells (C*i.size)):=Zen (S:=S) (ak S) ai Q ah C;simp only[Int.toNat_natCast]at j h;have E:∀ e∈yW C z,O e.cells=i.size:=λe he=>by rw[List.eq_of_mem_replicate he];exact Q
   have ad:(madeCells A.cells (C*i.size)).size=C*i.size:=by rw[u.size,Yc E];simp
   split at h
   ·rename_i am;simp only[zA,zB]at h;obtain⟨rfl,rfl⟩:=h;have aa:N=0:=J
    subst aa;have he:∀ e0 b0 hw0 R,S.tk (O H)=Z (e0,b0,hw0,R)->e0<0:=λe0 b0 hw0 R h=>by rw[(B.past _ (zE _)).2]at h;cases h
    have hv:=Zqr (S:=S) (n:=O H) (e:=0) (k:=i.size) (len:=0) (cap:=C) (l:=[]) (c:=madeCells A.cells (C*i.size)) (el:=e) rfl cn (by simp[flat]) cn ad (λi x v hi _=>by simp[flat]at hi);simp only[yT,Nat.zero_mul]at hv;exact⟨_,S.tokn (O H) (.cells (madeCells A.cells (C*i.size)) e) 0 0 (madeCells A.cells (C*i.size)).size,j,Ext.tokn B he,B.tokn (TokSet.new H 0) he rfl (Nat.zero_le _),hv⟩
   ·simp only[zA,zB]at h;obtain⟨rfl,rfl⟩:=h;obtain⟨_,D,L⟩:=Hh (P:=P) B u e;rw[Zkr]at D;exact⟨_,S.obj (O H) (.cells (madeCells A.cells (C*i.size)) e),j,Ext.obj B _,D,.rs _ _ _ _ _ _ _ L ab⟩
  ·cases h
 ·cases h
theorem Zz0 (g:List Int):flat (g.map (yX .u8))=g.map (yX .u8):=by
 unfold flat;rw[List.map_map];show (g.map λn=>[yX .u8 n]).flatten=_
 induction g with
 |nil=>rfl
 |cons a l h=>simp[h]
theorem Zne {C B e:TypeId}{x r:AV}{u:Value}{H':Hp}(N:Inv W0 S H)(hs:P.underlying C=Z (.slice e))(T:P.underlying B=Z .string)(he:P.underlying e=Z (.int .u8))(K:VRel S x u)
 (h:Gh x H=Z (r,H')):∃ v' L,(convert C B u).run P S.w=.ok v' L.w/\Ext S L/\Inv W0 L H'/\VRel L r v':=by
 unfold Gh at h;split at h
 ·rename_i l j;split at h
  ·rename_i s R;simp only[zA,zB]at h;obtain⟨rfl,rfl⟩:=h;obtain⟨A,rfl,rfl⟩:=Zan R
   have y:elems 1 x H=Z (A.map (yX .u8)):=by
    unfold J9 at j;split at j
    ·cases j
    ·exact j
   obtain⟨_,D,news,g,z⟩:=Kn (P:=P) N (Nat.zero_lt_one) K y;rw[Zz0]at g
   have Q:news=(A.map (Value.int .u8)).toArray:=by
    apply Array.ext_getElem?;intro i;by_cases hi:i<O A
    ·obtain⟨v,hv,hr⟩:=g.get (i:=i) (x:=.int .u8 A[i]) (by simp[hi]);rw[hv];cases hr;simp[hi]
    ·rw[zY (by rw[g.size];simp;omega),zY (by simp;omega)]
   subst Q
   have F:(∃ a n c,u=.slice (Z a) n c)\/(u=.slice X 0 0/\A=[]):=by
    cases x <;> first
     |(simp[elems]at y;done)
     |(simp[J9]at j;done)
     |skip
    ·cases K;right;exact⟨rfl,by simpa[elems]using y⟩
    ·cases K;exact .inl ⟨_,_,_,rfl⟩
    ·cases K;exact .inl ⟨_,_,_,rfl⟩
    ·cases K;exact .inl ⟨_,_,_,rfl⟩
   rcases F with ⟨a,n,c,rfl⟩|⟨rfl,rfl⟩
   ·have hn:n=O A:=by
     have:=D S.w;simpa[Builtin.lenOf]using this
    subst hn;refine⟨.string (A.foldl (λr n=>r.push (yC n.toNat)) ByteArray.empty),S,?_,Ext.refl S,N,.str _ _ ?_⟩
    ·have E:=z S.w rfl;rw[run_convert_bytes_string S.w C B e _ _ _ hs he T];refine run_bytesToString S.w _ _ _ A ?_;simp only[Builtin.firstCells,yU,Nat.mul_one]at E;exact E
    ·rw[Zi8];simp
   ·exact⟨.string .empty,S,by simp[convert,run_underlying hs,run_underlying T,run_underlying he,Conv.bytesToString],Ext.refl S,N,.str _ _ rfl⟩
  ·cases h
 ·cases h
theorem Zpb {B z e:TypeId}{x r:AV}{u:Value}{H':Hp}(hI:Inv W0 S H)(hs:P.underlying B=Z .string)(hd:P.underlying z=Z (.slice e))(he:P.underlying e=Z (.int .u8))(N:VRel S x u)
 (h:fF x H=Z (r,H')):∃ v' K,(convert B z u).run P S.w=.ok v' K.w/\Ext S K/\Inv W0 K H'/\VRel K r v':=by
 unfold fF at h;split at h
 ·simp only[zA,zB]at h;obtain⟨rfl,rfl⟩:=h;cases N with|str _ b hb =>
  subst hb;have y:=run_bytes_of_string S.w B z e b hs hd he;have g:=grownCap_ge S.w b.size 0 e;generalize grownCap S.w b.size 0 e=cap at y g;have T:(bytesRow b cap).size=cap:=by simp[bytesRow];omega
  have R:(b.data.toList.map λb=>yX .u8 (b.toNat:Int)).length=b.size:=by rw[yU];exact XZ b
  have F:O b.data.toList=b.size:=XZ b;have j:=hI.drew
  have D:∀ e0 Q hw0 C,S.drew.tk (O H)=Z (e0,Q,hw0,C)->e0<0:=λe0 Q hw0 C h=>by
   have h':S.tk (O H)=Z (e0,Q,hw0,C):=h;rw[(hI.past _ (zE _)).2]at h';cases h'
  have E:=Ext.rown j (o:=.cells (bytesRow b cap) e ((bytesRow b cap).size,(bytesRow b cap).size+1)) (hw:=b.size) (sz:=cap) D;refine⟨_,S.drew.rown (O H) (.cells (bytesRow b cap) e ((bytesRow b cap).size,(bytesRow b cap).size+1)) 0 b.size cap,y,(Ext.drew S).trans E,j.rown (RowSet.new H 0 _) D ?_,?_⟩
  ·refine⟨S.drew.w.heap.size,cap,bytesRow b cap,e,_,by rw[R];simp[Snap.rown],j.size,heap_alloc_new S.drew.w _,T,by rw[R];exact g,λi x v hi L=>?_,λi hp=>absurd (j.puball _ i hp) (yD _),zU.2 λx N=>(by simp at N;obtain⟨a,_,rfl⟩:=N;rfl),λi hi h=>by have:=h.1;simp only at this;omega⟩;have A:i<b.size:=by rw[<-R];exact Zn hi
   rw[List.getElem?_map,List.getElem?_eq_getElem (by rw[F];exact A)]at hi;unfold bytesRow at L;rw[zD (by simp;exact A)]at L;have hg:b.data[i]?=Z b.data[i]:=Array.getElem?_eq_getElem A;simp[hg]at hi L;subst hi L;exact .int _ _
  ·rw[F];exact .ws false 1 (O H) 0 b.size cap S.drew.w.heap.size ⟨0,S.drew.w.heap.size,b.size,cap,by simp[Snap.rown],zE _,λ_=>⟨rfl,J,J⟩⟩ g
 ·cases h
def GlobOk (C:Cfg)(S:Snap):Prop:=∀ g h,C.glob g=Z h->VRel S (.vp h) (.pointer (Z ⟨g,0,X⟩))/\Sc 0 (.vp h)/\Held S g h
def XR (C:Cfg)(_:World)(call:ZM):Prop :=
 ∀ {W0:World} (f:FuncId) (args:c6) (H H':Hp) (v:AV),call f args H=Z (v,H')->∀ (S:Snap) (args':Array Value),Inv W0 S H->GlobOk C S->args'.size=O args ->
  (∀ (i:Nat) (a:AV) (u:Value),args[i]?=Z a->args'[i]?=Z u->VRel S a u) ->
  Calls C.P f args' S.w λe w'=>∃ v' g,e=.returned v'/\g.w=w'/\Ext S g/\Inv W0 g H'/\VRel g v v'
theorem Yw {o:Oper}{a:Act}{next:Act->World->Prop}{Q:Exit->Act->World->Prop}{w w':World}{v:Value}(h:(execOp a.eval o).run P w=.ok (.value v) w')(g:next (a.put o.dst v) w'):o.wp P a w next Q:=by
 unfold Oper.wp;rw[h];exact g
theorem ZbM {o:Oper}{a:Act}{next:Act->World->Prop}{Q:Exit->Act->World->Prop}{w w':World}(h:(execOp a.eval o).run P w=.ok .skip w')(g:next (a.put o.dst undef) w'):o.wp P a w next Q:=by
 unfold Oper.wp;rw[h];exact g
theorem Gives.wp {C:Cfg}{o:Oper}{a:Act}{next:Act->World->Prop}{Q:Exit->Act->World->Prop}{v:AV}{H':Hp}(h:Gives C.P W0 S H (execOp a.eval o) v H')(A:Inv W0 S H)
 (B:∀ v' g,Ext S g->Inv W0 g H'->VRel g v v'->next (a.put o.dst v') g.w):o.wp C.P a S.w next Q:=by
 obtain⟨v',g,j,u,y,z⟩:=h A;exact Yw j (B v' g u y z)
theorem ZbS {w A:c6}{y z:Array Value}(D:y.size=O w)(B:∀ (i:Nat) (a:AV) (u:Value),w[i]?=Z a->y[i]?=Z u->VRel S a u)
 (C:∀ (i:Nat) (a:AV) (u:Value),A[i]?=Z a->z[i]?=Z u->VRel S a u) (i:Nat) (a:AV) (u:Value) (g:(w++A)[i]?=Z a) (j:(y++z)[i]?=Z u):VRel S a u:=by
 rcases zV i (O w) with h|h
 ·rw[zC h]at g;rw[zD J]at j;exact B i a u g j
 ·rw[zF h]at g;rw[zQ J,D]at j;exact C _ a u g j
theorem ZoS {F xt ty e:TypeId}{k:Nat}{d x r:AV}{ud T:Value}{H':Hp}(A:Inv W0 S H)(hk:0<k)(ht:P.underlying F=Z (.slice e))(hs:Xr P e=Z k)(L:VRel S d ud)(hx:VRel S x T)
 (h:AQ k d x H=Z (r,H')):∃ v' D,(Builtin.copy_ #[F,xt] ty #[ud,T]).run P S.w=.ok v' D.w/\Ext S D/\Inv W0 D H'/\VRel D r v':=by
 unfold AQ at h;split at h
 ·rename_i xs R;obtain⟨hl,u,news,g,j⟩:=Kn (P:=P) A hk hx R
  have y:∀ (base:Option Addr) (dl dc:Nat),xs=[]->(Builtin.copy_ #[F,xt] ty #[.slice base dl dc,T]).run P S.w=.ok (goInt 0) S.w:=by
   intro base dl dc z;subst z;have hn:=j S.w rfl
   have z:news=#[]:=by
    have:=g.size;simp[flat]at this;exact this
   subst z;simp only[yT]at hn u;cases base <;> simp[Builtin.copy_,run_underlying ht,u S.w,X4 hs,hn,storeCells]
  split at h
  ·split at h
   ·rename_i z;simp only[zA,zB]at h;obtain⟨rfl,rfl⟩:=h;cases L;exact⟨_,S,y _ _ _ z,Ext.refl S,A,.int _ _⟩
   ·cases h
  ·split at h
   ·rename_i z;simp only[zA,zB]at h;obtain⟨rfl,rfl⟩:=h;cases L;exact⟨_,S,y _ _ _ z,Ext.refl S,A,.int _ _⟩
   ·cases h
  ·rename_i ag k' o off len cap;cases L with|rs _ _ _ _ _ _ b hb hcap =>
   split at h
   ·rename_i z;simp only[zA,zB]at h;obtain⟨rfl,rfl⟩:=h;exact⟨_,S,y _ _ _ z,Ext.refl S,A,.int _ _⟩
   ·split at h
    ·rename_i hc;obtain⟨rfl,Q⟩:=hc;split at h
     ·rename_i cs ho;split at h
      ·rename_i aa;simp only[zA,zB]at h;obtain⟨rfl,rfl⟩:=h;obtain⟨b',c,el,E,g2,g3,g4,g5,K,g7⟩:=A.objs o _ ho;rw[hb]at E;injection E with E;subst E;have N:(xs.map AV.cells).flatten=flat xs:=rfl;have ab:news.size=O xs*k':=by rw[g.size,Yc hl]
       have C:=run_storeCells_at P b off el news.toList 0 c S.w g3 (by simp;omega) g.oneCells;rw[zS,<-U8 off news c J]at C;have B:Nat.min (O xs) len=O xs:=Nat.min_eq_left Q;refine⟨goInt (O xs),{ S with w:=S.w.setRow b (news.zipIdx.foldl (λ(a:Array Value) (p:Value×Nat)=>a.setIfInBounds (off+p.2) p.1) c) },?_,Ext.write K _,?_,.int _ _⟩
       ·simp[Builtin.copy_,run_underlying ht,u S.w,B,X4 hs,j S.w rfl,C]
       ·refine A.write ho hb g2 g3 K ?_;rw[N];exact (CellsRel.splice (S:=S) ⟨g4,g5,g7⟩ g (by first|omega|(rw[Yc hl];omega))).mono (Ext.write K _)
      ·cases h
     ·cases h
    ·cases h
  ·cases h
 ·cases h
theorem Zpp (s:cz)(c:UInt8):∀ (l:cz) (k:Nat),(∀ i,l[i]?=s[k+i]?) ->
 K6 c l k=match (yQ k (O l)).find? λi=>s[i]! == c with|some i=>(i:Int)|none=>-1:=by
 intro l
 induction l with
 |nil=>intro k _;rfl
 |cons b l w =>
  intro k h;have j:=h 0;simp only[yF,zS]at j;have u:s[k]! = b:=by rw[zO,<-j];rfl
  rw[List.length_cons,yR,yV,u];unfold K6;by_cases g:b=c
  ·simp[g]
  ·have:(b==c)=false:=by simpa using g
   simp only[g,if_false,this];exact w (k+1) λi=>by have:=h (i+1);simpa[yL,yN 1 i]using this
theorem Zub (s t:cz):∀ (l m:cz) (k:Nat),(∀ i,l[i]?=s[k+i]?)->(∀ i,m[i]?=t[k+i]?) ->
 Qw l m=match (yQ k (min (O l) (O m))).find? λi=>s[i]! != t[i]! with|some i=>(if s[i]!<t[i]! then (-1:Int) else 1)|none=>if O l<O m then -1 else if O l > O m then 1 else 0:=by
 intro l
 induction l with
 |nil=>intro m k _ _;cases m <;> simp[Qw]
 |cons a l B =>
  intro m k w y
  cases m with
  |nil=>simp[Qw]
  |cons b m =>
   have j:=w 0;have u:=y 0;simp only[yF,zS]at j u;have z:s[k]! = a:=by rw[zO,<-j];rfl
   have A:t[k]! = b:=by rw[zO,<-u];rfl
   have h:min (a::l).length (b::m).length=min (O l) (O m)+1:=cn
   rw[h,yR,yV,z,A];unfold Qw;by_cases g:a=b
   ·have:(a != b)=false:=by simp[g]
    simp only[g,if_true];subst g;simp only[bne_self_eq_false];rw[B m (k+1) (λi=>by have:=w (i+1);simpa[yL,yN 1 i]using this) (λi=>by have:=y (i+1);simpa[yL,yN 1 i]using this)];simp
   ·have:(a != b)=Y:=by simpa using g
    simp only[g,if_false,this,z,A]
theorem ZzP (b:ByteArray)(i:Nat):b[i]! = b.data.toList[i]!:=by
 cases b with|mk a =>
 by_cases h:i<a.size
 ·have g:i<(ByteArray.mk a).size:=h;rw[getElem!_pos (ByteArray.mk a) i g,getElem!_pos a.toList i (by simpa using h)];rfl
 ·have g:¬ i<(ByteArray.mk a).size:=h;rw[getElem!_neg (ByteArray.mk a) i g,getElem!_neg a.toList i (by simpa using h)]
theorem Znd (c:UInt8):∀ (l:cz) (n:Int),l.foldl (λ(n:Int) x=>if x==c then n+1 else n) n=n+(TB c l:Nat):=by
 intro l
 induction l with
 |nil=>intro n;simp[TB]
 |cons b l g =>
  intro n;rw[List.foldl_cons,g];have e:TB c (b::l)=if b=c then TB c l+1 else TB c l:=rfl;rw[e];by_cases h:b=c
  ·subst h;simp;omega
  ·have:(b==c)=false:=by simpa using h
   rw[this,if_neg h];simp
theorem Zru {e:ExtK}{args:c6}{args':Array Value}{v:AV}(A:args'.size=O args)(g:∀ (i:Nat) (a:AV) (u:Value),args[i]?=Z a->args'[i]?=Z u->VRel S a u)(h:Znv e args=Z v) :
 ∃ v',(D9 e args').run P S.w=.ok v' S.w/\VRel S v v':=by
 unfold Znv at h;split at h
 ·rename_i x;injection h with h;subst h;obtain⟨l⟩:=args'
  match l,A with
  |[u],_=>exact⟨u,rfl,g 0 x u rfl rfl⟩
 ·rename_i s n;injection h with h;subst h;obtain⟨l⟩:=args'
  match l,A with
  |[u,w],_ =>
   have j:=g 0 _ u rfl rfl;have y:=g 1 _ w rfl rfl;cases j with|str _ b hb =>
   cases y;subst hb;have B:=Zpp b.data.toList (yC n.toNat) b.data.toList 0 (λi=>by rw[zR]);rw[B];have z:∀ i,b[i]! = b.data.toList[i]!:=ZzP b;refine⟨goInt _,?_,.int _ _⟩;have e:D9 .indexByte #[.string b,.int .u8 n]=(match (List.range b.size).find? λi=>b[i]! == yC n.toNat with|some i=>pure (goInt i)|none=>pure (goInt (-1))):=rfl;show (D9 .indexByte #[.string b,.int .u8 n]).run P S.w=_;rw[e];simp only[z];rw[yK,show O b.data.toList=b.size from by rw[zI];rfl];cases (yQ 0 b.size).find? λi=>b.data.toList[i]! == yC n.toNat <;> rfl
 ·rename_i s t;injection h with h;subst h;obtain⟨l⟩:=args'
  match l,A with
  |[u,w],_ =>
   have j:=g 0 _ u rfl rfl;have y:=g 1 _ w rfl rfl;cases j with|str _ b hb =>
   cases y with|str _ c hc =>
   subst hb hc;have B:=Zub b.data.toList c.data.toList b.data.toList c.data.toList 0 (λi=>by rw[zR]) (λi=>by rw[zR]);rw[B];have C:∀ (b:ByteArray) (i:Nat),b[i]! = b.data.toList[i]!:=ZzP;refine⟨goInt _,?_,.int _ _⟩;have E:∀ b:ByteArray,O b.data.toList=b.size:=λb=>by rw[zI];rfl
   have e:D9 .cmp #[.string b,.string c]=pure (goInt (Extern.BytealgCompare.cmp b c)):=rfl;show (D9 .cmp #[.string b,.string c]).run P S.w=_;rw[e];simp only[Extern.BytealgCompare.cmp,C,E,Sem.run_pure];rw[yK];rfl
 ·rename_i s n;injection h with h;subst h;obtain⟨l⟩:=args'
  match l,A with
  |[u,w],_ =>
   have j:=g 0 _ u rfl rfl;have y:=g 1 _ w rfl rfl;cases j with|str _ b hb =>
   cases y;subst hb;refine⟨goInt _,?_,.int _ _⟩;have e:D9 .count #[.string b,.int .u8 n]=pure (goInt (b.foldl (λ(D:Int) x=>if x==yC n.toNat then D+1 else D) ((0:Nat):Int))):=rfl;show (D9 .count #[.string b,.int .u8 n]).run P S.w=_;rw[e,Lib.foldl_data,Znd];simp
 ·cases h
theorem Inv.went (A:Inv W0 S H){w':World}(K:Below S.w.heap.size S.w w'):Ext S { S with w:=w' }/\Inv W0 { S with w:=w' } H:=by
 have hx:Ext S { S with w:=w' }:=⟨⟨λ_ _ h=>h,λb i h=>⟨h,K.cell (A.puball b i h)⟩,λ_ e b hw sz h=>⟨e,b,hw,sz,h,zE _,λ_=>⟨rfl,rfl,rfl⟩⟩⟩,rfl,λ_ _ h _=>h⟩
 have j:∀ b c,S.w.heap[b]?=Z c->w'.heap[b]?=Z c:=λb c h=>by
  have Q:b<S.w.heap.size:=by
   rcases zV b S.w.heap.size with h'|h'
   ·exact h'
   ·rw[zY h']at h;cases h
  rw[K.block b Q];exact h
 refine⟨hx,A.below.trans (K.mono A.below.size),λo x ho=>?_,A.past,A.inj,A.tinj,A.apart,λb i h=>yB (A.puball b i h) K.size,λo b h=>yB (A.dom o b h) K.size,
  λt e b hw sz h=>yB (A.tdom t e b hw sz h) K.size,A.lim⟩
 have R:=A.objs o x ho
 cases x with
 |cells l =>
  obtain⟨b',c',B,C,z,D,E,F,L,h7⟩:=R;exact⟨b',c',B,C,z,j _ _ D,E,λi y v hy hv=>(F i y v hy hv).mono hx,L,h7⟩
 |bld T u l =>
  obtain⟨b',C,z,D,E,F⟩:=R;have Q:b'<S.w.heap.size:=z.elim (λh=>h.lt) λh=>h.lt;have he:=K.block b' Q;have N:∀ i,w'.cell? ⟨b',i,X⟩=S.w.cell? ⟨b',i,X⟩:=λi=>by unfold World.cell?;rw[he]
  exact⟨b',C,z.frame he λv g hv hg=>K.block g (z.own_lt hv hg),D,E,λv g hv hg=>F v g (by rw[<-N];exact hv) hg⟩
 |row e l =>
  obtain⟨b',sz,c',B,fz,C,z,D,E,F,L,h7,h8,h9⟩:=R;exact⟨b',sz,c',B,fz,C,z,j _ _ D,E,F,λi y v hy hv=>(L i y v hy hv).mono hx,h7,h8,h9⟩
 |tok e =>
  obtain⟨b',hw,sz,c',B,fz,C,z,D,E,F,L,h7⟩:=R;exact⟨b',hw,sz,c',B,fz,C,z,j _ _ D,E,F,L,h7⟩
 |map es aa =>
  obtain⟨b',ab,C,z,D,E,F,L⟩:=R;refine⟨b',ab,C,z,j _ _ D,E,F,λi k v n e ac ad=>?_⟩;obtain⟨q1,q2,q3⟩:=L i k v n e ac ad;exact⟨q1.mono hx,q2.mono hx,q3⟩
 |siter s ae =>
  obtain⟨b',s',C,z,D,E,F⟩:=R;exact⟨b',s',C,z,j _ _ D,E,F⟩
 |dead=>trivial
 |free=>exact R
def Snap.bare (S:Snap):Snap:={ w:=S.w,phi:=λ_=>X,pub:=S.pub,tk:=λ_=>X,lim:=S.w.heap.size }
theorem Inv.bare (g:Inv W0 S H):Inv S.w S.bare [] :=
 ⟨Below.refl _ _,cn,λo _=>⟨rfl,rfl⟩,λo z b h=>by simp[Snap.bare]at h,λt A e b hw sz y j u h=>by simp[Snap.bare]at h,λt e b hw sz o h=>by simp[Snap.bare]at h,
  g.puball,λo b h=>by simp[Snap.bare]at h,λt e b hw sz h=>by simp[Snap.bare]at h,zE _⟩
def Snap.more (S:Snap)(n:Nat):Snap:={ S with pub:=λb i=>S.pub b i\/(n<=b/\b<S.w.heap.size) }
theorem Inv.more (E:Inv W0 S H){n:Nat}(hn:W0.heap.size<=n)(R:∀ o b,S.phi o=Z b->b<n)(ht:∀ t e b hw sz,S.tk t=Z (e,b,hw,sz)->b<n):Ext S (S.more n)/\Inv W0 (S.more n) H:=by
 have Q:Ext S (S.more n):=⟨⟨λ_ _ h=>h,λb i h=>⟨.inl h,rfl⟩,λ_ e b hw sz h=>⟨e,b,hw,sz,h,zE _,λ_=>⟨rfl,rfl,rfl⟩⟩⟩,rfl,λb i w hl=>w.elim id λe=>by have:=E.lim;have:=e.1;omega⟩;refine⟨Q,E.below,λo x ho=>?_,E.past,E.inj,E.tinj,E.apart,λb i h=>h.elim (E.puball b i) λe=>e.2,E.dom,E.tdom,E.lim⟩;have K:=E.objs o x ho
 cases x with
 |cells l =>
  obtain⟨b',c',z,j,A,B,C,D,F,L⟩:=K;have:=R _ _ j;exact⟨b',c',z,j,A,B,C,λi y v hy N=>(D i y v hy N).mono Q,λi w=>w.elim (F i) λe=>by have:=e.1;omega,L⟩
 |bld T u l =>
  obtain⟨b',j,A,B,C,D⟩:=K;have:=R _ _ j;refine⟨b',j,A,B,λi w=>w.elim (C i) λe=>by have:=e.1;omega,λv g N hg=>?_⟩;obtain⟨⟨n',hw,sz,q⟩,q2⟩:=D v g N hg;have:=ht _ _ _ _ _ q;exact⟨⟨n',hw,sz,q⟩,λi w=>w.elim (q2 i) λe=>by have:=e.1;omega⟩
 |row e l =>
  obtain⟨b',sz,c',z,fz,j,A,B,C,D,F,L,h8,h9⟩:=K;have:=ht _ _ _ _ _ j;exact⟨b',sz,c',z,fz,j,A,B,C,D,λi y v hy N=>(F i y v hy N).mono Q,λi w=>w.elim (L i) λe=>by have:=e.1;omega,h8,h9⟩
 |tok e =>
  obtain⟨b',hw,sz,c',z,fz,j,A,B,C,D,F,L⟩:=K;have:=ht _ _ _ _ _ j;exact⟨b',hw,sz,c',z,fz,j,A,B,C,D,λi hi w=>w.elim (F i hi) λe=>by have:=e.1;omega,L⟩
 |map es aa =>
  obtain⟨b',ab,j,A,B,C,D,F⟩:=K;have:=R _ _ j;refine⟨b',ab,j,A,B,C,λi w=>w.elim (D i) λe=>by have:=e.1;omega,λi k v n e ac ad=>?_⟩;obtain⟨q1,q2,q3⟩:=F i k v n e ac ad;exact⟨q1.mono Q,q2.mono Q,q3⟩
 |siter s ae =>
  obtain⟨b',s',j,A,B,C,D⟩:=K;have:=R _ _ j;exact⟨b',s',j,A,B,C,λi w=>w.elim (D i) λe=>by have:=e.1;omega⟩
 |dead=>trivial
 |free=>exact K
theorem Zqf {α β:Type}{f g:α->Option β}(h:∀ a b,f a=Z b->g a=Z b):∀ {l:List α} {r:List β},l.mapM f=Z r->l.mapM g=Z r:=by
 intro l
 induction l with
 |nil=>intro r j;simpa using j
 |cons a l y =>
  intro r j;rw[List.mapM_cons]at j ⊢
  cases u:f a with
  |none=>simp[u]at j
  |some b =>
   cases w:l.mapM f with
   |none=>simp[u,w]at j
   |some z =>
    simp only[u,w]at j;simp only[h a b u,y w];exact j
theorem ZrH {C:Cfg}{call:ZM}(z:XR C W0 call){id:FuncId}{args:c6}{args':Array Value}{H':Hp}{v:AV}(hs:args'.size=O args)
 (ha:∀ (i:Nat) (a:AV) (u:Value),args[i]?=Z a->args'[i]?=Z u->VRel S a u) (h:Ze (call id) args H=Z (v,H')) (A:Inv W0 S H) (hG:GlobOk C S) :
 Calls C.P id args' S.w λe w'=>∃ v' B,e=.returned v'/\B.w=w'/\Ext S B/\Inv W0 B H'/\VRel B v v':=by
 unfold Ze at h;split at h
 ·rename_i j hm;split at h
  ·rename_i v1 H1 hc;split at h
   ·rename_i v2 hf;simp only[zA,zB]at h;obtain⟨rfl,rfl⟩:=h;obtain⟨q1,q2⟩:=U1 (S:=S) (T:=S.bare) (H':=[]) (n:=0) (f:=9) (λa b v=>Zp8 (S:=S) (T:=S.bare) rfl (λ_ _ h=>h) 9 a b v) hm hs ha;refine (z id j [] H1 v1 hc S.bare args' A.bare (λg Q hg=>?_) q1 q2).mono λe w' hp=>?_
    ·obtain⟨R,D⟩:=hG g Q hg;obtain⟨D,vs,g3,L⟩:=D;exact⟨VRel.bare (S:=S) (T:=S.bare) rfl (λ_ _ h=>h) R D,D,vs,g3,λi=>⟨(L i).1,(L i).2⟩⟩
    ·obtain⟨v',T,he,hw,N,y,hv⟩:=hp;subst hw;have F:=CE (S:=T) (H:=[]) y cn 9 _ _ _ hf hv;obtain⟨r1,r2⟩:=A.went (w':=T.w) y.below;obtain⟨r3,r4⟩:=r2.more (n:=S.w.heap.size) A.below.size A.dom A.tdom;have hl:T.lim=S.w.heap.size:=N.lim
     have K:Ext0 (T.back []) (({ S with w:=T.w }:Snap).more S.w.heap.size):=by
      refine⟨λo b h=>by simp[Snap.back]at h,λb i h=>⟨?_,rfl⟩,λt e b hw sz h=>by simp[Snap.back]at h⟩;rcases h with h|⟨h1,h2,_⟩
      ·rcases zV b S.w.heap.size with E|E
       ·exact .inl (N.old b i h E)
       ·exact .inr ⟨E,y.puball b i h⟩
      ·exact .inr ⟨J,h2⟩
     exact⟨v',({ S with w:=T.w }:Snap).more S.w.heap.size,he,rfl,r1.trans r3,r4,F.mono0 K⟩
   ·cases h
  ·cases h
 ·cases h
theorem ZxR {C:Cfg}{call:ZM}(g:XR C W0 call){id:FuncId}{args:c6}{args':Array Value}{H':Hp}{v:AV}(F:args'.size=O args)
 (D:∀ (i:Nat) (a:AV) (u:Value),args[i]?=Z a->args'[i]?=Z u->VRel S a u) (h:Kb (call id) args H=Z (v,H')) (z:Inv W0 S H) (B:GlobOk C S) :
 Calls C.P id args' S.w λe w'=>∃ v' j,e=.returned v'/\j.w=w'/\Ext S j/\Inv W0 j H'/\VRel j v v':=by
 unfold Kb at h;split at h
 ·rename_i K H1 E;split at h
  ·rename_i y;have y:=Zko _ _ y;split at h
   ·rename_i L A;simp only[zA,zB]at h;obtain⟨rfl,rfl⟩:=h;refine (g id args H H1 K E S args' z B F D).mono ?_
    rintro e w' ⟨v',S1,he,hw,hx1,hI1,hv⟩
    exact⟨v',S1.back H,he,hw,Ext.back z hx1,Inv.back z hI1 y,CE hI1 y 9 _ _ _ A hv⟩
   ·cases h
  ·cases h
 ·cases h
theorem ZuI {P:Program}{t:TypeId}{name:String}{f:FuncId}(h:Zs7 P t name=Z f)(k:Nat)(v:Value)(w:World):(method (k+1) t v name).run P w=.ok (f,v) w:=by
 unfold Zs7 at h;split at h
 ·rename_i i e hi B;split at h
  ·rename_i m z;split at h
   ·rename_i C j y;injection h with h;subst h;have u:(typeInfo t).run P w=.ok i w:=run_typeInfo w hi;have g:=λw=>run_underlying (w:=w) B;have A:m.path=#[]:=by simpa using j
    unfold method;simp[Sem.run_bind,u,Result.andThen_ok,z,j,follow,y,receiverAt,g,Place.get]
   ·cases h
  ·cases h
 ·cases h
theorem Ze1 {C:Cfg}(L:VX C){call:ZM}(y:XR C W0 call){f v:AV}{args:c6}{fu:Value}{args':Array Value}{H':Hp}(hf:VRel S f fu)(hs:args'.size=O args)
 (ha:∀ (i:Nat) (a:AV) (u:Value),args[i]?=Z a->args'[i]?=Z u->VRel S a u) (h:Yu C call f args H=Z (v,H')) (Q:Inv W0 S H) (D:GlobOk C S) :
 (∃ v',(do let d <-Deferred.ofValue fu args';invoke d.target d.args:Sem Next).run C.P S.w=.ok (.value v') S.w/\VRel S v v'/\H'=H) \/
 ∃ id as,(∀ w:World,(do let d <-Deferred.ofValue fu args';invoke d.target d.args:Sem Next).run C.P w=.ok (.enter id as) w) /\
  Calls C.P id as S.w λe w'=>∃ v' S',e=.returned v'/\S'.w=w'/\Ext S S'/\Inv W0 S' H'/\VRel S' v v':=by
 unfold Yu at h;split at h
 ·rename_i id first z
  cases hf with|fn _ _ _ F K hF hK h1 h2 =>
  have A:(F++args'++K).size=(first++args++z).length:=by simp[hF,hs,hK]
  have j:=ZbS (S:=S) (by simp[hF,hs]) (ZbS hF h1 ha) h2;unfold XF at h;split at h
  ·rename_i e he;unfold fR at h;split at h
   ·rename_i v1 E;simp only[zA,zB]at h;obtain⟨rfl,rfl⟩:=h;obtain⟨v',g1,g2⟩:=Zru (P:=C.P) A j E;refine .inl ⟨v',?_,g2,rfl⟩;have h0:=L.2.2.2.1 id e he (F++args'++K) S.w;rw[Sem.run_bind,g1]at h0;simp only[Result.andThen_ok,Sem.run_pure,Array.append_assoc]at h0;simp[Deferred.ofValue,invoke];exact h0
   ·cases h
  ·split at h
   ·rename_i g hg;obtain⟨hu,T⟩:=L.2.2.2.2.1 id g hg;unfold iS at h;split at h
    ·rename_i v1 E;simp only[zA,zB]at h;obtain⟨rfl,rfl⟩:=h;refine .inr ⟨id,F++args'++K,λw=>?_,T S H _ _ v1 Q (λg N B=>⟨(D g N B).1,(D g N B).2.2⟩) A j E⟩;simp[Deferred.ofValue,invoke,L.2.1 id hu]
    ·cases h
   split at h
   ·rename_i g hg;obtain⟨hu,R⟩:=L.2.2.2.2.2 id g hg;refine .inr ⟨id,F++args'++K,λw=>?_,R S H _ _ _ v Q (λg N B=>⟨(D g N B).1,(D g N B).2.2⟩) A j h⟩;simp[Deferred.ofValue,invoke,L.2.1 id hu]
   split at h
   ·rename_i hu;refine .inr ⟨id,F++args'++K,λw=>?_,?_⟩
    ·simp[Deferred.ofValue,invoke,L.2.1 id hu]
    ·split at h
     ·exact ZrH y A j h Q D
     split at h
     ·exact ZxR y A j h Q D
     ·exact y id _ H H' v h S _ Q D A j
   ·cases h
 ·cases h
theorem Ztq {C:Cfg}(hC:VX C){call:ZM}(ah:XR C W0 call){tm:c6}{o:Oper}{a:Act}{next:Act->World->Prop}{Q:Exit->Act->World->Prop}{v:AV}{H':Hp}{fl:Bool}
 (j:∀ x,VRel S (eval C tm x) (a.eval x)) (h:Xf C call (eval C tm) H fl o.op=Z (v,H')) (E:Inv W0 S H) (hG:GlobOk C S)
 (N:∀ v' K,Ext S K->Inv W0 K H'->VRel K v v'->next (a.put o.dst v') K.w):o.wp C.P a S.w next Q:=by
 unfold Xf at h;split at h
 ·rename_i v' hp;simp only[zA,zB]at h;obtain⟨rfl,rfl⟩:=h;exact (Zp0 hC j hp).wp E N
 split at h
 ·cases h
 generalize B:o.op=op at h
 cases op with
 |alloc e =>
  simp only[ZL]at h;split at h
  ·rename_i z hz;obtain⟨zc,ae,af⟩:=U5 hz;split at h
   ·rename_i u hu;split at h
    ·rename_i ab;simp only[zA,zB]at h;obtain⟨rfl,rfl⟩:=h;simp only[yA,bne_iff_ne,ne_eq]at ab;obtain⟨DR,aw⟩:=ab
     have ax:zc.cells=#[.pointer X,.slice X 0 0]:=by
      have L:=af S;unfold ZzQ at DR;split at DR
      ·cases L with|agg _ vs hc R D =>
       obtain⟨l⟩:=vs
       match l,R with
       |[x,y],_ =>
        have T:=D 0 _ x rfl rfl;have h2:=D 1 _ y rfl rfl;cases T;cases h2;rfl
      ·cases DR
     obtain⟨T,h2,h3⟩:=ZnW (P:=C.P) E ax aw;refine Yw (w':=(S.obj (O H) (.cells zc.cells e)).w) ?_ (N _ _ (Ext.obj E _) h2 (.ptr _ 0 _ h3));simp[execOp,B,Instr.alloc,ae,newVar,T]
    ·cases h
   split at h
   ·rename_i ab;simp only[zA,zB]at h;obtain⟨rfl,rfl⟩:=h;obtain⟨T,h2,h3⟩:=Hh (P:=C.P) E ((af S).cells ab) e;refine Yw (w':=(S.obj (O H) (.cells zc.cells e)).w) ?_ (N _ _ (Ext.obj E _) h2 (.ptr _ 0 _ h3));simp[execOp,B,Instr.alloc,ae,newVar,T]
   ·cases h
  ·cases h
 |box e x =>
  simp only[ZL]at h;unfold ZF at h;split at h
  ·rename_i ab;simp only[zA,zB]at h;obtain⟨rfl,rfl⟩:=h;obtain⟨T,h2,h3⟩:=Hh (P:=C.P) E ((j x).cells ab) e;refine Yw (w':=(S.obj (O H) (.cells (a.eval x).cells e)).w) ?_ (N _ _ (Ext.obj E _) h2 (.ptr _ 0 _ h3));simp[execOp,B,Instr.box,newVar,T]
  ·cases h
 |load t x =>
  simp only[ZL]at h;split at h
  ·rename_i g sz hg R
   cases hl:Z2 g sz (eval C tm x) H with
   |none=>simp[hl]at h
   |some r =>
    simp[hl]at h;obtain⟨rfl,rfl⟩:=h;obtain⟨v',ad,hu,D,L⟩:=Ze3 (P:=C.P) E hg R (j x) hl;refine Yw (w':=S.w) ?_ (N _ _ (Ext.refl S) E L);simp[execOp,B,Instr.loadAt,hu,Instr.sureAddr,D]
  ·cases h
 |store t x y =>
  simp only[ZL]at h;split at h
  ·rename_i sz R;split at h
   rotate_left
   ·cases h
   unfold Zc at h
   cases hl:YI sz (eval C tm x) (eval C tm y) H with
   |none=>simp[hl]at h
   |some r =>
    simp only[hl,zA,zB]at h;obtain⟨rfl,rfl⟩:=h;obtain⟨ad,K,hu,D,F,A⟩:=ZmZ (P:=C.P) E R (j x) (j y) hl;refine ZbM (w':=K.w) ?_ (N _ _ F A (.tuple [] #[] rfl cn));simp[execOp,B,Instr.storeAt,hu,Instr.sureAddr,D]
  ·cases h
 |makeSlice t l c =>
  simp only[ZL]at h;split at h
  ·rename_i e he;split at h
   ·rename_i k bytes ag z R hb hg hz;obtain⟨v',K,D,F,A,L⟩:=ZoV (P:=C.P) E (TH he) R hb hz (j l) (j c) h;refine Yw (w':=K.w) ?_ (N _ _ F A L);simp[execOp,B,D]
   ·cases h
  ·cases h
 |convert s d x =>
  simp only[ZL]at h;split at h
  ·rename_i e R hd;split at h
   ·rename_i he;obtain⟨v',K,D,F,A,L⟩:=Zne (P:=C.P) E R hd (Iv he) (j x) h;refine Yw (w':=K.w) ?_ (N _ _ F A L);simp[execOp,B,D]
   ·cases h
  ·rename_i e R hd;split at h
   ·rename_i he;simp only[yA]at he;have he:=he.2;obtain⟨v',K,D,F,A,L⟩:=Zpb (P:=C.P) E R hd (Iv he) (j x) h;refine Yw (w':=K.w) ?_ (N _ _ F A L);simp[execOp,B,D]
   ·cases h
  ·cases h
 |makeMap t r =>
  cases r with
  |some r=>simp[ZL]at h
  |none =>
   simp only[ZL,zA,zB]at h;obtain⟨rfl,rfl⟩:=h;obtain⟨T,h2,h3⟩:=Zmh (P:=C.P) t E;refine Yw (w':=(S.obj (O H) (.map #[] 0)).w) ?_ (N _ _ (Ext.obj E _) h2 h3);simp[execOp,B,T]
 |lookup t x k ck =>
  simp only[ZL]at h;split at h
  ·rename_i d e ht;split at h
   ·rename_i z hz
    cases hl:Yo d z ck (eval C tm x) (eval C tm k) H with
    |none=>simp[hl]at h
    |some r =>
     simp[hl]at h;obtain⟨rfl,rfl⟩:=h;obtain⟨zc,ae,af⟩:=U5 hz;obtain⟨v',D,L⟩:=Zm2 (P:=C.P) E ht ⟨zc,ae S.w,af S⟩ (j x) (j k) hl;refine Yw (w':=S.w) ?_ (N _ _ (Ext.refl S) E L);simp[execOp,B,D]
   ·cases h
  ·cases h
 |mapUpdate t m k x =>
  simp only[ZL]at h;split at h
  ·rename_i d e ht;obtain⟨rfl,K,D,F,A⟩:=kE (P:=C.P) E ht (j m) (j k) (j x) h;refine ZbM (w':=K.w) ?_ (N _ _ F A (.tuple [] #[] rfl cn));simp[execOp,B,D]
  ·cases h
 |insert t m k x =>
  simp only[ZL]at h;split at h
  ·rename_i d e ht;obtain⟨rfl,K,D,F,A⟩:=kE (P:=C.P) E ht (j m) (j k) (j x) h;refine ZbM (w':=K.w) ?_ (N _ _ F A (.tuple [] #[] rfl cn));simp[execOp,B,D]
  ·cases h
 |call c =>
  obtain⟨callee,args,argTypes⟩:=c
  cases callee with
  |invoke r m =>
   simp only[ZL]at h;unfold ZmU at h;split at h
   ·rename_i t v0 aq;split at h
    ·rename_i f hm;have ak:=j r;rw[aq]at ak;generalize ar:a.eval r=ru at ak;cases ak with|iface _ _ u hu =>
     have an:=ZuI (P:=C.P) hm
     have ap:VRel S (.fn (.func f) [v0] []) (.func (.func f) #[u] #[]):=.fn _ _ _ #[u] #[] rfl rfl (λi x y F hy=>by
      cases i with
      |zero=>simp at F hy;subst F;subst hy;exact hu
      |succ i=>simp at F) (λi x y F hy=>by simp at F)
     have am:∀ w:World,(execOp a.eval o).run C.P w=(do let d <-Deferred.ofValue (.func (.func f) #[u] #[]) (args.map a.eval);invoke d.target d.args:Sem Next).run C.P w:=λw=>by
      simp only[execOp,B,resolve,ar];have h0:(#[Value.iface t u]++yY a.eval args)[0]?=Z (.iface t u):=by simp[Array.getElem?_append]
      have T:(yY a.eval args).extract 0 args.size=yY a.eval args:=cn
      have h2:∀ w,(program:Sem Program).run C.P w=.ok C.P w:=λw=>rfl;have h3:C.P.types.size+Made.depth=(C.P.types.size+99)+1:=rfl;simp[invoke,callMethod,Deferred.ofValue,h0,T,h2,h3,Sem.run_bind,Result.andThen_ok,an]
     rcases Ze1 hC ah ap (args':=args.map a.eval) cn (gG j args) h E hG with ⟨v',g1,g2,rfl⟩|⟨id,as,T,h2⟩
     ·exact Yw (w':=S.w) ((am S.w).trans g1) (N _ _ (Ext.refl S) E g2)
     unfold Oper.wp;rw[(am S.w).trans (T S.w)];simp only[Oper.upon];refine h2.mono λe w' h3=>?_;obtain⟨v',K,rfl,rfl,F,A,L⟩:=h3;exact N v' K F A L
    ·cases h
   ·cases h
  |builtin b =>
   cases b <;> first
    |(simp[ZL]at h;done)
    |skip
   rotate_left
   ·simp only[ZL]at h;split at h
    ·rename_i d x dt xt ha ht;obtain rfl:=XA ha;obtain rfl:=XA ht;split at h
     ·rename_i e he;split at h
      ·rename_i k R;split at h
       ·rename_i aa;obtain⟨v',K,D,F,A,L⟩:=ZoS (P:=C.P) (ty:=o.type) (xt:=xt) E aa (TH he) R (j d) (j x) h;refine Yw (w':=K.w) ?_ (N _ _ F A L);simp[execOp,B,resolve,invoke,builtin,D]
       ·cases h
      ·cases h
     ·cases h
    ·cases h
   ·simp only[ZL]at h;split at h
    ·rename_i m k t xt ha ht;obtain rfl:=XA ha;obtain rfl:=XA ht;split at h
     ·rename_i d e aj;obtain⟨rfl,K,D,F,A⟩:=Zm3 (P:=C.P) (xt:=xt) (ty:=o.type) E aj (j m) (j k) h;refine Yw (w':=K.w) ?_ (N _ _ F A (.tuple [] #[] rfl cn));simp[execOp,B,resolve,invoke,builtin,D]
     ·cases h
    ·cases h
   ·simp only[ZL]at h;split at h
    ·rename_i x t ha ht;obtain rfl:=UW ha;obtain rfl:=UW ht;split at h
     ·rename_i p aj;obtain⟨d,e⟩:=p
      cases hl:Jw (eval C tm x) H with
      |none=>simp[hl]at h
      |some r =>
       simp[hl]at h;obtain⟨rfl,rfl⟩:=h;obtain⟨v',D,L⟩:=ZoU (P:=C.P) E aj (j x) hl o.type;refine Yw (w':=S.w) ?_ (N _ _ (Ext.refl S) E L);simp[execOp,B,resolve,invoke,builtin,D]
     ·cases h
    ·cases h
   simp only[ZL]at h;split at h
   ·rename_i s x st xt ha ht;obtain rfl:=XA ha;obtain rfl:=XA ht;split at h
    ·rename_i e xd he ao;split at h
     ·cases h
     ·rename_i au;split at h
      ·rename_i k bytes R hb;split at h
       ·rename_i aa;simp only[yA,decide_eq_true_eq]at aa;obtain⟨aa,ac⟩:=aa;have ai:Xl xd=Y:=by simpa using au
        have hz:∃ z,∀ w:World,(zeroValue e).run C.P w=.ok z w/\z.cells.size=k:=by
         unfold ZvO at ac;split at ac
         ·rename_i z hz;simp only[yA,beq_iff_eq]at ac;obtain⟨zc,ae,af⟩:=U5 hz;exact⟨zc,λw=>⟨ae w,by rw[((af S).cells ac.1).size];exact ac.2⟩⟩
         ·cases ac
        split at h
        ·rename_i ag ay;unfold Xu at h;split at h
         ·rename_i xs al;obtain⟨v',K,D,F,A,L⟩:=ZoN (P:=C.P) (ty:=o.type) E aa (TH he) ao ai R hb hz (j s) (j x) al h;refine Yw (w':=K.w) ?_ (N _ _ F A L);simp[execOp,B,resolve,invoke,builtin,D]
         ·cases h
        unfold ZR at h;split at h
        ·rename_i xs al;obtain⟨v',K,D,F,A,L⟩:=kD (P:=C.P) (ty:=o.type) E aa (TH he) ao ai R hb hz (j s) (j x) al h;refine Yw (w':=K.w) ?_ (N _ _ F A L);simp[execOp,B,resolve,invoke,builtin,D]
        ·cases h
       ·cases h
      ·cases h
    ·cases h
   ·cases h
  |value f =>
   simp only[ZL]at h;rcases Ze1 hC ah (j f) (args':=args.map a.eval) cn (gG j args) (ZqI h) E hG with ⟨v',g1,g2,rfl⟩|⟨id,as,T,h2⟩
   ·refine Yw (w':=S.w) ?_ (N _ _ (Ext.refl S) E g2);simp only[execOp,B,resolve];exact g1
   unfold Oper.wp
   have D:(execOp a.eval o).run C.P S.w=.ok (.enter id as) S.w:=by
    have:=T S.w;simp only[execOp,B,resolve];exact this
   rw[D];simp only[Oper.upon];refine h2.mono λe w' h3=>?_;obtain⟨v',K,rfl,rfl,F,A,L⟩:=h3;exact N v' K F A L
 |_=>simp[ZL]at h
end
end Go.Am
