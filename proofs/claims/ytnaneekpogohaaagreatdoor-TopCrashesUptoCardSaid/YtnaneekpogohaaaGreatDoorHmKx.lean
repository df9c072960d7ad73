/- THE ABSTRACT MACHINE -/
import Derived.Test.YtnaneekpogohaaaGreatDoorHmMapx
import Derived.Lib.Bytealg
open List renaming getElem?_append_left->zC,getElem?_append_right->zF,getElem?_take_of_lt->zL,length_pos_iff->zM,getElem!_eq_getElem?_getD->zO,getElem?_eq_none->zP,length_take->zT,all_eq_true->zU,getElem?_toArray->zZ,getElem?_cons_zero->yF,all_append->yG,getElem?_set_ne->yI,mem_of_mem_take->yJ,range_eq_range'->yK,length_append->yM,range'->yQ,range'_succ->yR,mem_append->yS,length_nil->yT,length_map->yU,find?_cons->yV,replicate->yW
open Nat renaming le_refl->zE,mul_le_mul_right->zG,add_mul->zH,lt_succ_of_lt->zK,le_trans->zN,zero_add->zR,add_zero->zS,lt_or_ge->zV,lt_of_lt_of_le->yB,lt_irrefl->yD,add_assoc->yL,add_comm->yN,succ_le_of_lt->yP,succ_mul->yZ,le_of_eq->xA
open Bool renaming and_eq_true->yA
open Array renaming getElem?_append_left->zD,length_toList->zI,getElem?_toList->zJ,getElem?_append_right->zQ,size_append->zX,getElem?_eq_none->zY,getElem?_extract->yH,map->yY
open Int renaming eq_ofNat_of_zero_le->yE
open UInt8 renaming ofNat->yC
open Option.some renaming injEq->zA
open Prod.mk renaming injEq->zB
open Go.Am.AObj renaming dead->zW
open Go.Am.AV renaming isCell->yO,int->yX
namespace Go.Am
open RowKit
section
variable {P:Program}{S:Snap}{W0:World}{H:Hp}
def Snap.tokn (S:Snap)(n:Nat)(o:Obj)(e hw sz:Nat):Snap :=
 {w:=S.w.alloc o,phi:=S.phi,pub:=fun b i=>S.pub b i\/(b=S.w.heap.size/\i<hw),tk:=fun t=>if t=n then some (e,S.w.heap.size,hw,sz) else S.tk t,lim:=S.lim }
structure TokSet (H H':Hp)(n e:Nat):Prop where
 here:H'[n]?=some (.tok e)
 there:∀ x,x≠n->H'[x]?=H[x]?
 len:H.length<=H'.length
 nd:H[n]?≠some .dead
theorem TokSet.new (H:Hp)(e:Nat):TokSet H (H++[.tok e]) H.length e:=by
 refine⟨by simp,fun x g=>?_,by simp,by simp⟩;rcases zV x H.length with h|h
 ·exact zC h
 ·rw[zP (by simp;omega),zP h]
theorem TokSet.set {n e0 e:Nat}(h:H[n]?=some (.tok e0)):TokSet H (H.set n (.tok e)) n e:=by
 refine⟨by simp[Zg h],fun x g=>yI (Ne.symm g),by simp,by rw[h];simp⟩
theorem Ext.tokn (g:Inv W0 S H){n e hw sz:Nat}{o:Obj}(C:∀ e0 A hw0 u,S.tk n=some (e0,A,hw0,u)->e0<e):Ext S (S.tokn n o e hw sz):=by
 refine⟨⟨fun _ _ h=>h,fun b i h=>⟨.inl h,World.cell?_alloc_lt _ _ _ (g.puball b i h)⟩,fun t B b j y h=>?_⟩,rfl,fun b i D E=>D.elim id fun e=>by have:=g.lim;have:=g.below.size;have:=e.1;omega⟩;by_cases z:t=n
 ·subst z;have:=C _ _ _ _ h;exact⟨e,S.w.heap.size,hw,sz,by simp[Snap.tokn],by omega,fun h=>by omega⟩
 ·exact⟨B,b,j,y,by simp[Snap.tokn,z,h],zE _,fun _=>⟨rfl,rfl,rfl⟩⟩
theorem Inv.tokn (g:Inv W0 S H){H':Hp}{n e hw sz:Nat}{c:Array Value}{el:TypeId}(D:TokSet H H' n e)(Z:∀ e0 Y hw0 V,S.tk n=some (e0,Y,hw0,V)->e0<e)(U:c.size=sz)(Q:hw<=sz) :
 Inv W0 (S.tokn n (.cells c el) e hw sz) H':=by
 have E:=Ext.tokn g (o:=.cells c el) (hw:=hw) (sz:=sz) Z
 have I:∀ i,hw<=i->¬ (S.tokn n (.cells c el) e hw sz).pub S.w.heap.size i:=by
  rintro i hi (h|⟨_,h⟩)
  ·exact yD _ (g.puball _ i h)
  ·omega
 have j:∀ x,H'[x]?≠some zW->H[x]?≠some zW:=fun x h=>by
  by_cases M:x=n
  ·subst M;exact D.nd
  ·rwa [D.there x M]at h
 refine⟨g.below.alloc g.size _,fun x y h=>?_,fun x M=>?_,fun o1 o2 b B C N O=>g.inj o1 o2 b B C (j _ N) (j _ O),fun t X W b K L e2 aa ab B C=>?_,fun t W b K L o h=>?_,fun b i h=>?_,fun o b h=>?_,fun t W b K L h=>?_,g.lim⟩
 ·by_cases z:x=n
  ·subst z;rw[D.here]at h;injection h with h;subst h;exact⟨S.w.heap.size,hw,sz,c,el,(0,0),by simp[Snap.tokn],g.size,heap_alloc_new S.w _,U,Q,I,fun i _ h=>by omega⟩
  ·rw[D.there x z]at h;refine (g.objs x y h).frame E (fun b _ F=>⟨Below.heap_alloc S.w _ b F,fun i J=>?_⟩) (by simp[Snap.tokn,z]) rfl;rcases J with J|⟨rfl,_⟩
   ·exact J
   ·exact absurd F (yD _)
 ·have R:x≠n:=fun z=>by subst z;have:=Zg D.here;omega
  obtain⟨p,q⟩:=g.past x (zN D.len M);exact⟨p,by simp[Snap.tokn,R,q]⟩
 ·by_cases A:t=n
  ·by_cases u:X=n
   ·rw[A,u]
   ·simp[Snap.tokn,A]at B;simp[Snap.tokn,u]at C;have:=g.tdom _ _ _ _ _ C;omega
  ·by_cases u:X=n
   ·simp[Snap.tokn,A]at B;simp[Snap.tokn,u]at C;have:=g.tdom _ _ _ _ _ B;omega
   ·simp[Snap.tokn,A]at B;simp[Snap.tokn,u]at C;exact g.tinj _ _ _ _ _ _ _ _ _ B C
 ·by_cases A:t=n
  ·simp[Snap.tokn,A]at h;intro J;have T:S.phi o=some b:=J;have:=g.dom o b T;omega
  ·simp[Snap.tokn,A]at h;exact g.apart _ _ _ _ _ o h
 ·show b<(S.w.alloc _).heap.size;rw[World.size_alloc];rcases h with h|⟨rfl,_⟩
  ·exact zK (g.puball b i h)
  ·exact Nat.lt_succ_self _
 ·show b<(S.w.alloc _).heap.size;rw[World.size_alloc];exact zK (g.dom o b h)
 ·show b<(S.w.alloc _).heap.size;rw[World.size_alloc];by_cases A:t=n
  ·simp[Snap.tokn,A]at h;omega
  ·simp[Snap.tokn,A]at h;exact zK (g.tdom _ _ _ _ _ h)
theorem ZjV {n e k len cap:Nat}{l:List AV}{c:Array Value}{el:TypeId}(j:len=l.length)(hk:∀ e∈l,e.cells.length=k)(h:(flat l).all yO=true)
 (g:l.length<=cap) (u:c.size=cap*k) (z:∀ (i:Nat) (x:AV) (v:Value),(flat l)[i]?=some x->c[i]?=some v->VRel (S.tokn n (.cells c el) e (l.length*k) c.size) x v) :
 VRel (S.tokn n (.cells c el) e (l.length*k) c.size) (.vs k (.own n e) l) (.slice (some ⟨S.w.heap.size,0,none⟩) len cap):=by
 subst j;refine NL (S:=S.tokn n (.cells c el) e (l.length*k) c.size) (c:=c) (el:=el) (fz:=(0,0)) (heap_alloc_new S.w _) g hk h (fun i hi=>.inr ⟨rfl,by omega⟩) ?_ (fun i x v hi y=>?_) ?_
 ·rw[zR,u];exact zG k g
 ·rw[zR]at y;exact z i x v hi y
 ·exact⟨e,S.w.heap.size,l.length*k,c.size,by simp[Snap.tokn],zE _,fun _ _=>⟨rfl,by omega,by omega⟩⟩
theorem Zoq {l xs:List AV}{old news rest:Array Value}(u:CellsRel S (flat l) old)(j:CellsRel S (flat xs) news)(i:Nat)(x:AV)(v:Value)(g:(flat (l++xs))[i]?=some x)(h:(old++news++rest)[i]?=some v):VRel S x v:=by
 rw[Il]at g;have w:=u.size;have z:=j.size;by_cases hi:i<(flat l).length
 ·rw[zC hi]at g;rw[zD (by simp;omega),zD (by omega)]at h;exact u.rel i x v g h
 ·rw[zF (by omega)]at g;have y:=Zg g;rw[zD (by simp;omega),zQ (by omega)]at h;refine j.rel _ x v g ?_;rw[<-h,w]
theorem Dy {st xt ty e:TypeId}{xd:TypeDesc}{k n0 bytes tk:Nat}{u:Value}{base:Option Addr}{cap:Nat}{l xs:List AV}{H':Hp}{old:Array Value}(hI:Inv W0 S H)
 (ht:P.underlying st=some (.slice e)) (U:P.underlying xt=some xd) (V:Xi xd=true) (hs:Xe P e=some k) (hb:GY P e=some bytes) (Q:∃ z,∀ w:World,(zeroValue e).run P w=.ok z w/\z.cells.size=k)
 (X:∀ e∈l,e.cells.length=k) (j:CellsRel S (flat l) old) (I:(Builtin.firstCells k l.length (.slice base l.length cap)).run P S.w.drew=.ok old S.w.drew)
 (Z:∀ e∈xs,e.cells.length=k) (N:∀ w:World,(Builtin.lenOf u).run P w=.ok xs.length w) {news:Array Value} (g:CellsRel S (flat xs) news) (A:∀ w:World,w.heap=S.w.heap->(Builtin.firstCells k xs.length u).run P w=.ok news w)
 (F:cap<l.length+xs.length) (B:Xg (l.length+xs.length) bytes=true) (hH:TokSet H H' tk n0) (he:∀ e0 R hw0 K,S.tk tk=some (e0,R,hw0,K)->e0<n0) :
 ∃ v' O,(Builtin.append_ #[st,xt] ty #[.slice base l.length cap,u]).run P S.w=.ok v' O.w/\Ext S O/\Inv W0 O H'/\VRel O (.vs k (.own tk n0) (l++xs)) v':=by
 obtain⟨z,Q⟩:=Q;have y:=AB (P:=P) (ty:=ty) ht U V hs hb (fun w=>(Q w).1) (N S.w) F (of_decide_eq_true B) I (A S.w.drew rfl);have E:=grownCap_ge S.w (l.length+xs.length) cap e;generalize grownCap S.w (l.length+xs.length) cap e=C at y E
 have J:(old++news++Builtin.zeroCells z.cells (C-(l.length+xs.length))).size=C*k:=by
  rw[zX,zX,size_zeroCells,j.size,g.size,ZV X,ZV Z,(Q S.w).2,<-zH,<-zH];congr 1;omega
 generalize hc:old++news++Builtin.zeroCells z.cells (C-(l.length+xs.length))=c at y J;have L:=hI.drew;have M:∀ e0 R hw0 K,S.drew.tk tk=some (e0,R,hw0,K)->e0<n0:=he;have W:∀ e∈l++xs,e.cells.length=k:=fun e h=>(yS.1 h).elim (X e) (Z e);have T:(l++xs).length*k<=c.size:=by rw[J];exact zG k (by simpa using E)
 have D:=Ext.tokn L (o:=.cells c e) (hw:=(l++xs).length*k) (sz:=c.size) M;refine⟨_,S.drew.tokn tk (.cells c e) n0 ((l++xs).length*k) c.size,y,(Ext.drew S).trans D,L.tokn hH M rfl T,?_⟩;refine ZjV (S:=S.drew) (by simp) W ?_ (by simpa using E) J (fun i x v hi Y=>?_)
 ·rw[Il,yG,j.cell,g.cell];rfl
 ·rw[<-hc]at Y;exact (Zoq (S:=S) j g i x v hi Y).mono ((Ext.drew S).trans D)
def Snap.toki (S:Snap)(n b:Nat)(c:Array Value)(e hw sz:Nat):Snap :=
 {w:=S.w.setRow b c,phi:=S.phi,pub:=fun b' i=>S.pub b' i\/(b'=b/\i<hw),tk:=fun t=>if t=n then some (e,b,hw,sz) else S.tk t,lim:=S.lim }
theorem Ext.toki {n b e0 e hw0 hw sz:Nat}{c c':Array Value}{el:TypeId}{fz:Nat×Nat}(I:S.tk n=some (e0,b,hw0,sz))(J:e0<e)(B:S.w.heap[b]?=some (.cells c el fz))(y:∀ i,hw0<=i->¬ S.pub b i)
 (F:∀ i,i<hw0->c'[i]?=c[i]?) (C:S.lim<=b):Ext S (S.toki n b c' e hw sz):=by
 refine⟨⟨fun _ _ h=>h,fun b' i h=>⟨.inl h,?_⟩,fun t E D z A h=>?_⟩,rfl,fun b' i y K=>y.elim id fun e=>by have:=e.1;omega⟩
 ·by_cases g:b'=b
  ·subst g
   have hi:i<hw0:=by
    rcases zV i hw0 with u|u
    ·exact u
    ·exact absurd h (y i u)
   show (S.w.setRow b' c').cell? _=_;rw[cell_setRow_same S.w b' i c c' el fz B,cell_of_row S.w b' i c el fz B];exact F i hi
  ·exact cell_setRow_other _ _ _ _ g
 ·by_cases j:t=n
  ·subst j;rw[I]at h;simp only[zA,zB]at h;obtain⟨rfl,rfl,rfl,rfl⟩:=h;exact⟨e,b,hw,sz,by simp[Snap.toki],by omega,fun h=>by omega⟩
  ·exact⟨E,D,z,A,by simp[Snap.toki,j,h],zE _,fun _=>⟨rfl,rfl,rfl⟩⟩
theorem Inv.toki (g:Inv W0 S H){H':Hp}{n b e0 e hw0 hw sz:Nat}{c c':Array Value}{el:TypeId}{fz:Nat×Nat}(J:TokSet H H' n e)(E:S.tk n=some (e0,b,hw0,sz))(he:e0<e)(Q:W0.heap.size<=b)(hb:S.w.heap[b]?=some (.cells c el fz))
 (hp:∀ i,hw0<=i->¬ S.pub b i) (hc:∀ i,i<hw0->c'[i]?=c[i]?) (aa:hw0<=hw) (W:c'.size=sz) (Y:hw<=sz) (U:Zpt c'.size fz):Inv W0 (S.toki n b c' e hw sz) H':=by
 have K:=Ext.toki (hw:=hw) E he hb hp hc (zN g.lim Q)
 have A:∀ x,H'[x]?≠some zW->H[x]?≠some zW:=fun x h=>by
  by_cases O:x=n
  ·subst O;exact J.nd
  ·rwa [J.there x O]at h
 refine⟨Below.setRow g.below Q c',fun x y h=>?_,fun x O=>?_,fun o1 o2 b B D R T=>g.inj o1 o2 b B D (A _ R) (A _ T),fun t t' Z C M N e2 ad af B D=>?_,fun t Z C M N o h=>?_,fun C i h=>?_,fun o C h=>?_,fun t Z C M N h=>?_,g.lim⟩
 ·by_cases u:x=n
  ·subst u;rw[J.here]at h;injection h with h;subst h;refine⟨b,hw,sz,c',el,fz,by simp[Snap.toki],Q,setRow_heap S.w b c c' el fz hb,W,Y,fun i hi j=>?_,U⟩;rcases j with j|⟨_,j⟩
   ·exact hp i (by omega) j
   ·omega
  ·rw[J.there x u]at h
   cases y with
   |dead=>trivial
   |_ =>
    refine (g.objs x _ h).frame K (fun b' F ab=>?_) (by simp[Snap.toki,u]) rfl
    have L:b'≠b:=by
     rintro rfl
     rcases F with F|⟨e',ac,ae,X⟩
     ·exact g.apart _ _ _ _ _ x E F
     ·exact u (g.tinj _ _ _ _ _ _ _ _ _ X E)
    refine⟨setRow_other _ _ _ _ L,fun i j=>?_⟩;rcases j with j|⟨B,_⟩
    ·exact j
    ·exact absurd B L
 ·have V:x≠n:=fun u=>by subst u;have:=Zg J.here;omega
  obtain⟨p,q⟩:=g.past x (zN J.len O);exact⟨p,by simp[Snap.toki,V,q]⟩
 ·by_cases z:t=n
  ·by_cases I:t'=n
   ·rw[z,I]
   ·simp[Snap.toki,z]at B;simp[Snap.toki,I]at D;obtain⟨_,rfl,_,_⟩:=B;exact absurd (g.tinj _ _ _ _ _ _ _ _ _ D E) I
  ·by_cases I:t'=n
   ·simp[Snap.toki,z]at B;simp[Snap.toki,I]at D;obtain⟨_,rfl,_,_⟩:=D;exact absurd (g.tinj _ _ _ _ _ _ _ _ _ B E) z
   ·simp[Snap.toki,z]at B;simp[Snap.toki,I]at D;exact g.tinj _ _ _ _ _ _ _ _ _ B D
 ·by_cases z:t=n
  ·simp[Snap.toki,z]at h;obtain⟨_,rfl,_,_⟩:=h;exact g.apart _ _ _ _ _ o E
  ·simp[Snap.toki,z]at h;exact g.apart _ _ _ _ _ o h
 ·show C<(S.w.setRow b c').heap.size;rw[size_setRow];rcases h with h|⟨rfl,_⟩
  ·exact g.puball C i h
  ·exact g.tdom _ _ _ _ _ E
 ·show C<(S.w.setRow b c').heap.size;rw[size_setRow];exact g.dom o C h
 ·show C<(S.w.setRow b c').heap.size;rw[size_setRow];by_cases z:t=n
  ·simp[Snap.toki,z]at h;obtain⟨_,rfl,_,_⟩:=h;exact g.tdom _ _ _ _ _ E
  ·simp[Snap.toki,z]at h;exact g.tdom _ _ _ _ _ h
theorem ZgC {st xt ty e:TypeId}{xd:TypeDesc}{k n e0 b off cap:Nat}{u:Value}{l xs:List AV}{f:Nat->Nat->Value}(Z:Inv W0 S H)
 (ht:P.underlying st=some (.slice e)) (ai:P.underlying xt=some xd) (D:Xi xd=true) (hs:Xe P e=some k)
 (hl:∀ e,e∈l->e.cells.length=k/\e.cells.all yO=true) (ak:l.length<=cap)
 (h1:∀ j i,j<l.length->i<k->S.w.cell? ⟨b,off+j*k+i,none⟩=some (f j i)/\S.pub b (off+j*k+i))
 (h2:∀ (j:Nat) (e:AV) (i:Nat) (c:AV),l[j]?=some e->e.cells[i]?=some c->VRel S c (f j i))
 (U:TokOk S k (.own n e0) l.length b off cap) (hn:H[n]?=some (.tok e0))
 (X:∀ e∈xs,e.cells.length=k) (R:∀ w:World,(Builtin.lenOf u).run P w=.ok xs.length w) {news:Array Value} (g:CellsRel S (flat xs) news) (F:∀ w:World,w.heap=S.w.heap->(Builtin.firstCells k xs.length u).run P w=.ok news w)
 (C:l.length+xs.length<=cap) (h0:0<xs.length) :
 ∃ v' V,(Builtin.append_ #[st,xt] ty #[.slice (some ⟨b,off,none⟩) l.length cap,u]).run P S.w=.ok v' V.w/\Ext S V/\Inv W0 V (H.set n (.tok (e0+xs.length)))/\VRel V (.vs k (.own n (e0+xs.length)) (l++xs)) v':=by
 obtain⟨e1,b1,hw,sz,N,al,af⟩:=U;obtain⟨b2,ag,aj,c,el,fz,Y,g2,W,g4,g5,g6,g7⟩:=Z.objs n _ hn;rw[N]at Y;simp only[zA,zB]at Y;obtain⟨q1,q2,q3,q4⟩:=Y;obtain rfl:e0=e1:=q1.symm;obtain rfl:b1=b2:=q2;obtain rfl:hw=ag:=q3;obtain rfl:sz=aj:=q4;obtain⟨qb,I,ae⟩:=af rfl (by omega);obtain rfl:b=b1:=qb;have B:news.toList.length=xs.length*k:=by rw[zI,g.size,ZV X]
 have am:l.length*k+xs.length*k<=cap*k:=by rw[<-zH];exact zG k C
 have M:=R2 P b (off+l.length*k) el fz news.toList 0 c S.w W g7 (by rw[B,zS];omega) g.oneCells;rw[zS,B,I]at M;generalize J:(c.toList.take hw++news.toList++c.toList.drop (hw+xs.length*k)).toArray=c' at M;have T:=JF (P:=P) (ty:=ty) (a:=⟨b,off,none⟩) (w':=S.w.setRow b c') ht ai D hs (R S.w) (F S.w rfl) C (by rw[YJ,I];exact M)
 have z:∀ i,i<hw->c'[i]?=c[i]?:=fun i hi=>by
  rw[<-J,zZ,zC (by simp;omega),zC (by simp;omega),zL hi,zJ]
 have K:∀ i,i<xs.length*k->c'[hw+i]?=news[i]?:=fun i hi=>by
  rw[<-J,zZ,zC (by simp at B ⊢;omega),zF (by simp;omega)];simp only[zT,zI,zJ];congr 1;omega
 have O:c'.size=sz:=by
  rw[<-J];simp at B ⊢;omega
 have A:=Ext.toki (S:=S) (n:=n) (e:=e0+xs.length) (hw:=hw+xs.length*k) N (by omega) W g6 z (zN Z.lim g2);have aa:=Z.toki (e:=e0+xs.length) (TokSet.set hn) (hw:=hw+xs.length*k) N (by omega) g2 W g6 z (by omega) O (by omega) (by rw[O,<-g4];exact g7);refine⟨_,S.toki n b c' (e0+xs.length) (hw+xs.length*k) sz,T,A,aa,?_⟩;have E:(l++xs).length=l.length+xs.length:=by simp
 rw[<-E];have ah:∀ e∈xs,e.cells.all yO=true:=fun e h=>Ah g.cell h;refine .vs k _ (l++xs) b off cap (fun j i=>if j<l.length then f j i else news.getD ((j-l.length)*k+i) undef) (by rw[E];exact C) (fun e h=>?_) (fun j i hj hi=>?_) (fun j e i x h D=>?_) ?_ none (.inl rfl)
 ·rcases yS.1 h with h|h
  ·exact hl e h
  ·exact⟨X e h,ah e h⟩
 ·by_cases y:j<l.length
  ·rw[if_pos y];obtain⟨p,q⟩:=h1 j i y hi;obtain⟨q',p'⟩:=A.pub _ _ q;exact⟨p'.trans p,q'⟩
  ·rw[if_neg y];have L:j-l.length<xs.length:=by rw[E]at hj;omega
   have Q:(j-l.length)*k+i<xs.length*k:=by
    have:=zG k (yP L);rw[yZ]at this;omega
   have ac:off+j*k+i=hw+((j-l.length)*k+i):=by
    have:j*k=l.length*k+(j-l.length)*k:=by rw[<-zH];congr 1;omega
    omega
   refine⟨?_,.inr ⟨rfl,by omega⟩⟩;show (S.w.setRow b c').cell? _=_;rw[cell_setRow_same S.w b _ c c' el fz W,ac,K _ Q];have:(j-l.length)*k+i<news.size:=by simp at B;omega
   simp[this]
 ·by_cases y:j<l.length
  ·rw[if_pos y];rw[zC y]at h;exact (h2 j e i x h D).mono A
  ·rw[if_neg y];rw[zF (by omega)]at h;have ab:i<k:=by rw[<-X e (List.mem_of_getElem? h)];exact Zg D
   have L:=Zg h
   have Q:(j-l.length)*k+i<xs.length*k:=by
    have:=zG k (yP L);rw[yZ]at this;omega
   have ad:(j-l.length)*k+i<news.size:=by simp at B;omega
   refine (g.rel ((j-l.length)*k+i) x _ ?_ ?_).mono A
   ·rw[Kc X _ _ e h ab];exact D
   ·simp[ad]
 ·refine⟨e0+xs.length,b,hw+xs.length*k,sz,by simp[Snap.toki],zE _,fun _ _=>⟨rfl,?_,ae⟩⟩;rw[E,zH];omega
theorem ZbC {st xt ty e:TypeId}{xd:TypeDesc}{k bytes:Nat}{s x r:AV}{us u:Value}{xs:List AV}{H':Hp}(D:Inv W0 S H)(O:0<k)
 (M:P.underlying st=some (.slice e)) (B:P.underlying xt=some xd) (C:Xi xd=true) (L:Xe P e=some k) (X:GY P e=some bytes) (hz:∃ z,∀ w:World,(zeroValue e).run P w=.ok z w/\z.cells.size=k)
 (R:VRel S s us) (ab:VRel S x u) (Z:elems k x H=some xs) (h:YN k bytes s xs H=some (r,H')) :
 ∃ v' U,(Builtin.append_ #[st,xt] ty #[us,u]).run P S.w=.ok v' U.w/\Ext S U/\Inv W0 U H'/\VRel U r v':=by
 obtain⟨W,y,news,j,g⟩:=Gb (P:=P) D O ab Z;unfold YN at h;split at h
 ·cases R with|nils =>
  split at h
  ·rename_i A;subst A;simp only[zA,zB]at h;obtain⟨rfl,rfl⟩:=h;exact⟨_,S,LN (P:=P) (ty:=ty) M B C L (y S.w) (g S.w rfl),Ext.refl S,D,.nils⟩
  ·rename_i A;split at h
   ·rename_i V;simp only[zA,zB]at h;obtain⟨rfl,rfl⟩:=h;have F:0<xs.length:=zM.2 A
    have:=Dy (P:=P) (ty:=ty) (S:=S) (base:=none) (cap:=0) (l:=[]) (old:=#[]) (n0:=xs.length) (tk:=H.length) (H':=H++[.tok xs.length]) D M B C L X hz (by simp) ⟨rfl,by simp[flat],rfl⟩ rfl W y j g
     (by simpa using F) (by simpa using V) (TokSet.new H _) (fun e0 b0 hw0 T h=>by rw[(D.past _ (zE _)).2]at h;cases h)
    simpa using this
   ·cases h
 ·rename_i k' tok l;split at h
  ·rename_i hc;obtain⟨aa,V⟩:=hc;obtain rfl:k=k':=aa.symm;cases R with|vs _ _ _ b off cap f hcap hl h1 h2 htok sp hsp =>
   have Q:∀ e∈l,e.cells.length=k:=fun e he=>(hl e he).1;have J:elems k (.vs k tok l) H=some l:=by simp[elems]
   obtain⟨_,_,old,I,E⟩:=Gb (P:=P) D O (.vs k tok l b off cap f hcap hl h1 h2 htok sp hsp) J;split at h
   ·rename_i A;subst A;simp only[zA,zB]at h;obtain⟨rfl,rfl⟩:=h;refine⟨_,S,JF (P:=P) (ty:=ty) (news:=news) (m:=0) (w':=S.w) M B C L (y S.w) (g S.w rfl) (by omega) ?_,Ext.refl S,D,?_⟩
    ·have:news=#[]:=by
      have:=j.size;simp[flat]at this;exact this
     subst this;rfl
    ·exact .vs k tok l b off cap f hcap hl h1 h2 htok sp hsp
   ·rename_i A;have F:0<xs.length:=zM.2 A;split at h
    ·simp only[zA,zB]at h;obtain⟨rfl,rfl⟩:=h;have ac:cap=l.length:=htok
     exact Dy (P:=P) (ty:=ty) (S:=S) (base:=some ⟨b,off,sp⟩) (cap:=cap) D M B C L X hz Q I (E S.w.drew rfl) W y j g
      (by omega) V (TokSet.new H _) (fun e0 b0 hw0 T h=>by rw[(D.past _ (zE _)).2]at h;cases h)
    ·rename_i t e0;split at h
     ·rename_i e1 K;split at h
      ·rename_i Y;subst Y;simp only[zA,zB]at h;obtain⟨rfl,rfl⟩:=h;by_cases N:l.length+xs.length<=cap
       ·obtain rfl:sp=none:=hsp.resolve_right (by omega);exact ZgC (P:=P) (ty:=ty) D M B C L hl hcap h1 h2 htok K W y j g N F
       ·refine Dy (P:=P) (ty:=ty) (S:=S) (base:=some ⟨b,off,sp⟩) (cap:=cap) D M B C L X hz Q I (E S.w.drew rfl) W y j g
         (by omega) V (TokSet.set K) (fun e0 b0 hw0 T h=>?_)
        obtain⟨b2,ad,ae,c,el,fz,g1,_⟩:=D.objs t _ K;rw[g1]at h;simp only[zA,zB]at h;omega
      ·cases h
     ·cases h
    ·cases h
  ·cases h
 ·cases h
structure RowSet (H H':Hp)(n:Nat)(x:AObj):Prop where
 here:H'[n]?=some x
 there:∀ y,y≠n->H'[y]?=H[y]?
 len:H.length<=H'.length
 nd:H[n]?≠some .dead
 xd:x≠.dead
theorem RowSet.new (H:Hp)(e:Nat)(l:List AV):RowSet H (H++[.row e l]) H.length (.row e l):=by
 refine⟨by simp,fun x g=>?_,by simp,by simp,by simp⟩;rcases zV x H.length with h|h
 ·exact zC h
 ·rw[zP (by simp;omega),zP h]
theorem RowSet.set {n e0 e:Nat}{j l:List AV}(h:H[n]?=some (.row e0 j)):RowSet H (H.set n (.row e l)) n (.row e l):=by
 refine⟨by simp[Zg h],fun x g=>yI (Ne.symm g),by simp,by rw[h];simp,by simp⟩
def Snap.rown (S:Snap)(n:Nat)(o:Obj)(e hw sz:Nat):Snap :=
 {w:=S.w.alloc o,phi:=S.phi,pub:=S.pub,tk:=fun t=>if t=n then some (e,S.w.heap.size,hw,sz) else S.tk t,lim:=S.lim }
theorem Ext.rown (B:Inv W0 S H){n e hw sz:Nat}{o:Obj}(C:∀ e0 z hw0 j,S.tk n=some (e0,z,hw0,j)->e0<e):Ext S (S.rown n o e hw sz):=by
 refine⟨⟨fun _ _ h=>h,fun b i h=>⟨h,World.cell?_alloc_lt _ _ _ (B.puball b i h)⟩,fun t A b g u h=>?_⟩,rfl,fun b i D _=>D⟩;by_cases y:t=n
 ·subst y;have:=C _ _ _ _ h;exact⟨e,S.w.heap.size,hw,sz,by simp[Snap.rown],by omega,fun h=>by omega⟩
 ·exact⟨A,b,g,u,by simp[Snap.rown,y,h],zE _,fun _=>⟨rfl,rfl,rfl⟩⟩
theorem Inv.rown (g:Inv W0 S H){H':Hp}{n e hw sz:Nat}{o:Obj}{x:AObj}(E:RowSet H H' n x)(X:∀ e0 W hw0 T,S.tk n=some (e0,W,hw0,T)->e0<e)(F:ORel (S.rown n o e hw sz) W0.heap.size n x) :
 Inv W0 (S.rown n o e hw sz) H':=by
 have I:=Ext.rown g (o:=o) (hw:=hw) (sz:=sz) X
 have j:∀ x,H'[x]?≠some zW->H[x]?≠some zW:=fun x h=>by
  by_cases F:x=n
  ·subst F;exact E.nd
  ·rwa [E.there x F]at h
 refine⟨g.below.alloc g.size _,fun y z h=>?_,fun x F=>?_,fun Z o2 b C D L M=>g.inj Z o2 b C D (j _ L) (j _ M),fun t V U b J K e2 Y aa C D=>?_,fun t U b J K o h=>?_,fun b i h=>?_,fun o b h=>?_,fun t U b J K h=>?_,g.lim⟩
 ·by_cases A:y=n
  ·subst A;rw[E.here]at h;injection h with h;subst h;exact F
  ·rw[E.there y A]at h;exact (g.objs y z h).frame I (fun b _ N=>⟨Below.heap_alloc S.w _ b N,fun i Q=>Q⟩) (by simp[Snap.rown,A]) rfl
 ·have O:x≠n:=fun A=>by subst A;have:=Zg E.here;omega
  obtain⟨p,q⟩:=g.past x (zN E.len F);exact⟨p,by simp[Snap.rown,O,q]⟩
 ·by_cases B:t=n
  ·by_cases u:V=n
   ·rw[B,u]
   ·simp[Snap.rown,B]at C;simp[Snap.rown,u]at D;have:=g.tdom _ _ _ _ _ D;omega
  ·by_cases u:V=n
   ·simp[Snap.rown,B]at C;simp[Snap.rown,u]at D;have:=g.tdom _ _ _ _ _ C;omega
   ·simp[Snap.rown,B]at C;simp[Snap.rown,u]at D;exact g.tinj _ _ _ _ _ _ _ _ _ C D
 ·by_cases B:t=n
  ·simp[Snap.rown,B]at h;intro Q;have R:S.phi o=some b:=Q;have:=g.dom o b R;omega
  ·simp[Snap.rown,B]at h;exact g.apart _ _ _ _ _ o h
 ·show b<(S.w.alloc _).heap.size;rw[World.size_alloc];exact zK (g.puball b i h)
 ·show b<(S.w.alloc _).heap.size;rw[World.size_alloc];exact zK (g.dom o b h)
 ·show b<(S.w.alloc _).heap.size;rw[World.size_alloc];by_cases B:t=n
  ·simp[Snap.rown,B]at h;omega
  ·simp[Snap.rown,B]at h;exact zK (g.tdom _ _ _ _ _ h)
def Snap.rowi (S:Snap)(n b:Nat)(c:Array Value)(e hw sz:Nat):Snap :=
 {w:=S.w.setRow b c,phi:=S.phi,pub:=S.pub,tk:=fun t=>if t=n then some (e,b,hw,sz) else S.tk t,lim:=S.lim }
theorem Ext.rowi {n b e0 e hw0 hw sz:Nat}{c':Array Value}(B:S.tk n=some (e0,b,hw0,sz))(C:e0<e)(u:∀ i,¬ S.pub b i):Ext S (S.rowi n b c' e hw sz):=by
 refine⟨⟨fun _ _ h=>h,fun b' i h=>⟨h,?_⟩,fun t A z w y h=>?_⟩,rfl,fun b' i u _=>u⟩
 ·by_cases g:b'=b
  ·subst g;exact absurd h (u i)
  ·exact cell_setRow_other _ _ _ _ g
 ·by_cases j:t=n
  ·subst j;rw[B]at h;simp only[zA,zB]at h;obtain⟨rfl,rfl,rfl,rfl⟩:=h;exact⟨e,b,hw,sz,by simp[Snap.rowi],by omega,fun h=>by omega⟩
  ·exact⟨A,z,w,y,by simp[Snap.rowi,j,h],zE _,fun _=>⟨rfl,rfl,rfl⟩⟩
theorem Inv.rowi (g:Inv W0 S H){H':Hp}{n b e0 e hw0 hw sz:Nat}{c':Array Value}{x:AObj}(I:RowSet H H' n x)(E:S.tk n=some (e0,b,hw0,sz))(Y:e0<e)(X:W0.heap.size<=b)
 (hp:∀ i,¬ S.pub b i) (J:ORel (S.rowi n b c' e hw sz) W0.heap.size n x):Inv W0 (S.rowi n b c' e hw sz) H':=by
 have K:=Ext.rowi (c':=c') (hw:=hw) E Y hp
 have z:∀ x,H'[x]?≠some zW->H[x]?≠some zW:=fun x h=>by
  by_cases J:x=n
  ·subst J;exact I.nd
  ·rwa [I.there x J]at h
 refine⟨Below.setRow g.below X c',fun x y h=>?_,fun x J=>?_,fun o1 o2 b B C N O=>g.inj o1 o2 b B C (z _ N) (z _ O),fun t W V A L M e2 ab ad B C=>?_,fun t V A L M o h=>?_,fun A i h=>?_,fun o A h=>?_,fun t V A L M h=>?_,g.lim⟩
 ·by_cases j:x=n
  ·subst j;rw[I.here]at h;injection h with h;subst h;exact J
  ·rw[I.there x j]at h
   cases y with
   |dead=>trivial
   |_ =>
    refine (g.objs x _ h).frame K (fun b' D Z=>?_) (by simp[Snap.rowi,j]) rfl
    have Q:b'≠b:=by
     rintro rfl
     rcases D with D|⟨e',aa,ac,U⟩
     ·exact g.apart _ _ _ _ _ x E D
     ·exact j (g.tinj _ _ _ _ _ _ _ _ _ U E)
    exact⟨setRow_other _ _ _ _ Q,fun i T=>T⟩
 ·have R:x≠n:=fun j=>by subst j;have:=Zg I.here;omega
  obtain⟨p,q⟩:=g.past x (zN I.len J);exact⟨p,by simp[Snap.rowi,R,q]⟩
 ·by_cases u:t=n
  ·by_cases F:W=n
   ·rw[u,F]
   ·simp[Snap.rowi,u]at B;simp[Snap.rowi,F]at C;obtain⟨_,rfl,_,_⟩:=B;exact absurd (g.tinj _ _ _ _ _ _ _ _ _ C E) F
  ·by_cases F:W=n
   ·simp[Snap.rowi,u]at B;simp[Snap.rowi,F]at C;obtain⟨_,rfl,_,_⟩:=C;exact absurd (g.tinj _ _ _ _ _ _ _ _ _ B E) u
   ·simp[Snap.rowi,u]at B;simp[Snap.rowi,F]at C;exact g.tinj _ _ _ _ _ _ _ _ _ B C
 ·by_cases u:t=n
  ·simp[Snap.rowi,u]at h;obtain⟨_,rfl,_,_⟩:=h;exact g.apart _ _ _ _ _ o E
  ·simp[Snap.rowi,u]at h;exact g.apart _ _ _ _ _ o h
 ·show A<(S.w.setRow b c').heap.size;rw[size_setRow];exact g.puball A i h
 ·show A<(S.w.setRow b c').heap.size;rw[size_setRow];exact g.dom o A h
 ·show A<(S.w.setRow b c').heap.size;rw[size_setRow];by_cases u:t=n
  ·simp[Snap.rowi,u]at h;obtain⟨_,rfl,_,_⟩:=h;exact g.tdom _ _ _ _ _ E
  ·simp[Snap.rowi,u]at h;exact g.tdom _ _ _ _ _ h
theorem Tm {st xt ty e:TypeId}{xd:TypeDesc}{k n0 bytes tk:Nat}{u:Value}{base:Option Addr}{len cap:Nat}{lc:List AV}{xs:List AV}{ag:Bool}{H':Hp}{old:Array Value}(hI:Inv W0 S H)
 (ht:P.underlying st=some (.slice e)) (X:P.underlying xt=some xd) (Y:Xi xd=true) (hs:Xe P e=some k) (hb:GY P e=some bytes) (U:∃ z,∀ w:World,(zeroValue e).run P w=.ok z w/\z.cells.size=k)
 (Z:lc.length=len*k) (g:CellsRel S lc old) (J:(Builtin.firstCells k len (.slice base len cap)).run P S.w.drew=.ok old S.w.drew)
 (hx:∀ e∈xs,e.cells.length=k) (O:∀ w:World,(Builtin.lenOf u).run P w=.ok xs.length w) {news:Array Value} (j:CellsRel S (flat xs) news) (B:∀ w:World,w.heap=S.w.heap->(Builtin.firstCells k xs.length u).run P w=.ok news w)
 (I:cap<len+xs.length) (D:Xg (len+xs.length) bytes=true) (hH:RowSet H H' tk (.row n0 (lc++flat xs))) (he:∀ e0 V hw0 L,S.tk tk=some (e0,V,hw0,L)->e0<n0) :
 ∃ v' T,(Builtin.append_ #[st,xt] ty #[.slice base len cap,u]).run P S.w=.ok v' T.w/\Ext S T/\Inv W0 T H'/\VRel T (.ws ag k tk n0 (len+xs.length)) v':=by
 obtain⟨z,U⟩:=U;have y:=AB (P:=P) (ty:=ty) ht X Y hs hb (fun w=>(U w).1) (O S.w) I (of_decide_eq_true D) J (B S.w.drew rfl);have F:=grownCap_ge S.w (len+xs.length) cap e;generalize grownCap S.w (len+xs.length) cap e=C at y F
 have K:(old++news++Builtin.zeroCells z.cells (C-(len+xs.length))).size=C*k:=by
  rw[zX,zX,size_zeroCells,g.size,j.size,Z,ZV hx,(U S.w).2,<-zH,<-zH];congr 1;omega
 generalize hc:old++news++Builtin.zeroCells z.cells (C-(len+xs.length))=c at y K;have A:=hI.drew;have M:∀ e0 V hw0 L,S.drew.tk tk=some (e0,V,hw0,L)->e0<n0:=he;have Q:(lc++flat xs).length=(len+xs.length)*k:=by rw[yM,Z,ZV hx,zH]
 have W:(lc++flat xs).length<=c.size:=by rw[K,Q];exact zG k F
 have E:=Ext.rown A (o:=.cells c e) (hw:=(lc++flat xs).length) (sz:=c.size) M;refine⟨_,S.drew.rown tk (.cells c e) n0 (lc++flat xs).length c.size,y,(Ext.drew S).trans E,A.rown hH M ?_,?_⟩
 ·refine⟨S.drew.w.heap.size,c.size,c,e,(0,0),by simp[Snap.rown],A.size,heap_alloc_new S.drew.w _,rfl,W,fun i x v hi R=>?_,fun i hp=>absurd (A.puball _ i hp) (yD _),by rw[yG,g.cell,j.cell];rfl,fun i _ h=>Nat.not_lt_zero _ h.2⟩;refine VRel.mono ((Ext.drew S).trans E) ?_;rw[<-hc]at R;by_cases N:i<lc.length
  ·rw[zC N]at hi;rw[zD (by simp[g.size];omega),zD (by rw[g.size];exact N)]at R;exact g.rel i x v hi R
  ·rw[zF (by omega)]at hi;have aa:=Zg hi;rw[zD (by simp[g.size,j.size];omega),zQ (by rw[g.size];omega)]at R;exact j.rel _ x v hi (by rw[<-R,g.size])
 ·refine .ws ag k tk n0 _ C S.drew.w.heap.size ⟨n0,S.drew.w.heap.size,(lc++flat xs).length,c.size,by simp[Snap.rown],zE _,fun _=>⟨rfl,xA Q.symm,by rw[K];exact zE _⟩⟩ F
theorem Zjp {st xt ty e:TypeId}{xd:TypeDesc}{k n e0 b len cap:Nat}{u:Value}{lc xs:List AV}{ag:Bool}(hI:Inv W0 S H)
 (ht:P.underlying st=some (.slice e)) (Y:P.underlying xt=some xd) (Z:Xi xd=true) (hs:Xe P e=some k)
 (hr:RowOk S n e0 b (len*k) (cap*k)) {l0:List AV} (hn:H[n]?=some (.row e0 l0)) (C:lc=l0.take (len*k)) (hl:lc.length=len*k)
 (N:∀ e∈xs,e.cells.length=k) (K:∀ w:World,(Builtin.lenOf u).run P w=.ok xs.length w) {news:Array Value} (g:CellsRel S (flat xs) news) (j:∀ w:World,w.heap=S.w.heap->(Builtin.firstCells k xs.length u).run P w=.ok news w)
 (h:len+xs.length<=cap) :
 ∃ v' O,(Builtin.append_ #[st,xt] ty #[.slice (some ⟨b,0,none⟩) len cap,u]).run P S.w=.ok v' O.w/\Ext S O/\Inv W0 O (H.set n (.row (e0+1) (lc++flat xs)))/\VRel O (.ws ag k n (e0+1) (len+xs.length)) v':=by
 obtain⟨e1,b1,hw,sz,W,aa,X⟩:=hr;obtain⟨b2,z,c,el,fz,Q,g2,g3,g4,g5,R,T,U,g9⟩:=hI.objs n _ hn;have B:=Q;rw[W]at B;simp only[zA,zB]at B;obtain⟨q1,q2,q3,q4⟩:=B;obtain⟨r1,r2,r3⟩:=X q1.symm;obtain rfl:b=b2:=r1.trans q2
 have R:∀ i x v,lc[i]?=some x->c[i]?=some v->VRel S x v:=fun i x v hi F=>by
  rw[C]at hi;have D:=Zg hi;rw[zT]at D;rw[zL (by omega)]at hi;exact R i x v hi F
 have U:lc.all yO=true:=by rw[C];exact zU.2 fun x N=>zU.1 U x (yJ N)
 have ac:lc.length<=l0.length:=by rw[C,zT];omega
 have y:news.toList.length=xs.length*k:=by rw[zI,g.size,ZV N]
 have ab:len*k+xs.length*k<=cap*k:=by rw[<-zH];exact zG k h
 have E:=R2 P b (len*k) el fz news.toList 0 c S.w g3 g9 (by rw[y,zS];omega) g.oneCells;rw[zS,y]at E;generalize I:(c.toList.take (len*k)++news.toList++c.toList.drop (len*k+xs.length*k)).toArray=c' at E;have M:=JF (P:=P) (ty:=ty) (a:=⟨b,0,none⟩) (w':=S.w.setRow b c') ht Y Z hs (K S.w) (j S.w rfl) h (by rw[YJ,zR];exact E)
 have J:c'.size=z:=by
  rw[<-I];simp at y ⊢;omega
 have L:(lc++flat xs).length=(len+xs.length)*k:=by rw[yM,hl,ZV N,zH]
 have A:=Ext.rowi (S:=S) (n:=n) (e:=e0+1) (c':=c') (hw:=(lc++flat xs).length) Q (by omega) T;refine⟨_,S.rowi n b c' (e0+1) (lc++flat xs).length z,M,A,hI.rowi (RowSet.set hn) Q (by omega) g2 T ?_,?_⟩
 ·refine⟨b,z,c',el,fz,by simp[Snap.rowi],g2,setRow_heap S.w b c c' el fz g3,J,by rw[L,zH];omega,fun i x v hi F=>?_,T,by rw[yG,U,g.cell];rfl,by rw[J,<-g4];exact g9⟩;refine VRel.mono A ?_;rw[<-I,zZ]at F;by_cases V:i<lc.length
  ·rw[zC V]at hi;rw[zC (by simp;omega),zC (by simp;omega),zL (by omega),zJ]at F;exact R i x v hi F
  ·rw[zF (by omega)]at hi;have D:=Zg hi;rw[ZV N]at D;rw[zC (by simp at y ⊢;omega),zF (by simp;omega)]at F;refine g.rel _ x v hi ?_;rw[<-F,zJ];congr 1;simp;omega
 ·exact .ws ag k n (e0+1) _ cap b ⟨e0+1,b,(lc++flat xs).length,z,by simp[Snap.rowi],zE _,fun _=>⟨rfl,xA L.symm,by omega⟩⟩ h
theorem ZnK {st xt ty e:TypeId}{xd:TypeDesc}{ag:Bool}{k bytes:Nat}{s x r:AV}{us u:Value}{xs:List AV}{H':Hp}(F:Inv W0 S H)(Q:0<k)
 (O:P.underlying st=some (.slice e)) (C:P.underlying xt=some xd) (D:Xi xd=true) (N:Xe P e=some k) (hb:GY P e=some bytes) (hz:∃ z,∀ w:World,(zeroValue e).run P w=.ok z w/\z.cells.size=k)
 (K:VRel S s us) (ac:VRel S x u) (aa:elems k x H=some xs) (h:FM ag k bytes s xs H=some (r,H')) :
 ∃ v' S',(Builtin.append_ #[st,xt] ty #[us,u]).run P S.w=.ok v' S'.w/\Ext S S'/\Inv W0 S' H'/\VRel S' r v':=by
 obtain⟨Y,A,news,y,g⟩:=Gb (P:=P) F Q ac aa;have M:∀ l:List AV,(l.map AV.cells).flatten=flat l:=fun l=>rfl;unfold FM at h;split at h
 ·cases K with|nils =>
  split at h
  ·rename_i B;subst B;simp only[zA,zB]at h;obtain⟨rfl,rfl⟩:=h;exact⟨_,S,LN (P:=P) (ty:=ty) O C D N (A S.w) (g S.w rfl),Ext.refl S,F,.nils⟩
  ·rename_i B;split at h
   ·rename_i hf;simp only[zA,zB]at h;obtain⟨rfl,rfl⟩:=h;have J:0<xs.length:=zM.2 B
    have:=Tm (P:=P) (ty:=ty) (S:=S) (base:=none) (len:=0) (cap:=0) (lc:=[]) (old:=#[]) (n0:=0) (tk:=H.length) (ag:=ag) (H':=H++[.row 0 (flat xs)]) F O C D N hb hz (by simp) ⟨rfl,by simp,rfl⟩ rfl Y A y g
     (by simpa using J) (by simpa using hf) (by simpa using RowSet.new H 0 (flat xs)) (fun e0 b0 hw0 X h=>by rw[(F.past _ (zE _)).2]at h;cases h)
    simpa[M]using this
   ·cases h
 ·rename_i k' l;split at h
  ·rename_i hc;obtain⟨R,hf⟩:=hc;obtain rfl:k=k':=R.symm;have V:elems k (.vs k .clip l) H=some l:=by simp[elems]
   obtain⟨ae,_,old,E,U⟩:=Gb (P:=P) F Q K V;cases K with|vs _ _ _ b off cap f hcap hl h1 h2 htok sp hsp =>
   split at h
   ·rename_i B;subst B;simp only[zA,zB]at h;obtain⟨rfl,rfl⟩:=h;refine⟨_,S,JF (P:=P) (ty:=ty) (news:=news) (m:=0) (w':=S.w) O C D N (A S.w) (g S.w rfl) (by omega) ?_,Ext.refl S,F,?_⟩
    ·have:news=#[]:=by
      have:=y.size;simp[flat]at this;exact this
     subst this;rfl
    ·exact .vs k .clip l b off cap f hcap hl h1 h2 htok sp hsp
   ·rename_i B;have J:0<xs.length:=zM.2 B;simp only[zA,zB]at h;obtain⟨rfl,rfl⟩:=h;have ai:cap=l.length:=htok
    have:=Tm (P:=P) (ty:=ty) (S:=S) (base:=some ⟨b,off,sp⟩) (len:=l.length) (cap:=cap) (lc:=flat l) (n0:=0) (tk:=H.length) (ag:=ag) (H':=H++[.row 0 (flat l++flat xs)]) F O C D N hb hz (ZV ae) E (U S.w.drew rfl) Y A y g
     (by omega) hf (RowSet.new H 0 _) (fun e0 b0 hw0 X h=>by rw[(F.past _ (zE _)).2]at h;cases h)
    simpa[M,Il]using this
  ·cases h
 ·rename_i Z k' o e0 len;split at h
  ·rename_i hc;obtain⟨rfl,R,hf⟩:=hc;obtain rfl:k=k':=R.symm;cases K with|ws _ _ _ _ _ cap b hr hcap =>
   split at h
   ·rename_i B;subst B;simp only[zA,zB]at h;obtain⟨rfl,rfl⟩:=h;refine⟨_,S,JF (P:=P) (ty:=ty) (news:=news) (m:=0) (w':=S.w) O C D N (A S.w) (g S.w rfl) (by omega) ?_,Ext.refl S,F,?_⟩
    ·have:news=#[]:=by
      have:=y.size;simp[flat]at this;exact this
     subst this;rfl
    ·exact .ws _ k o e0 len cap b hr hcap
   ·rename_i B;have J:0<xs.length:=zM.2 B;split at h
    ·rename_i e1 l0 W;split at h
     ·rename_i ad;obtain⟨rfl,ah⟩:=ad;simp only[zA,zB,Zju]at h;obtain⟨rfl,rfl⟩:=h;generalize I:l0.take (len*k)=lc;have T:lc.length=len*k:=by rw[<-I,zT];omega
      by_cases ab:len+xs.length<=cap
      ·have:=Zjp (P:=P) (ty:=ty) (ag:=Z) F O C D N hr W I.symm T Y A y g ab;simpa[M]using this
      ·obtain⟨b2,al,c,el,fz,g1,g2,g3,g4,g5,g6,g7,g8,g9⟩:=F.objs o _ W;obtain⟨e2,b0,hw0,X,q1,q2,q3⟩:=hr;rw[g1]at q1;simp only[zA,zB]at q1;obtain⟨u1,u2,u3,u4⟩:=q1;obtain⟨w1,w2,w3⟩:=q3 u1;obtain rfl:b=b2:=w1.trans u2.symm;have aj:lc.length<=l0.length:=by rw[<-I,zT];omega
       have E:CellsRel S lc (c.extract 0 lc.length):=by
        refine⟨by simp;omega,fun i x v hi L=>?_,by rw[<-I];exact zU.2 fun x Y=>zU.1 g8 x (yJ Y)⟩;rw[yH]at L;split at L
        ·rw[zR]at L;have ak:=Zg hi;rw[<-I,zL (by omega)]at hi;exact g6 i x v hi L
        ·cases L
       have:=Tm (P:=P) (ty:=ty) (S:=S) (base:=some ⟨b,0,none⟩) (len:=len) (cap:=cap) (lc:=lc) (old:=c.extract 0 lc.length) (n0:=e1+1) (tk:=o) (ag:=Z) (H':=H.set o (.row (e1+1) (lc++flat xs))) F O C D N hb hz T E ?_ Y A y g
        (by omega) hf (RowSet.set W) (fun e0 b0 hw0 X h=>by
         rw[g1]at h;simp only[zA,zB]at h;omega)
       ·simpa[M]using this
       ·simp only[Builtin.firstCells]
        have hl:=run_loadCells_list (P:=P) S.w.drew ⟨b,0,none⟩ (c.extract 0 lc.length).toList (fun j v L=>by
         have hd:S.w.drew.heap=S.w.heap:=rfl;rw[cell_of_heap hd,YJ,cell_of_row S.w b _ c el fz g3];rw[zJ,yH]at L;split at L
         ·exact L
         ·cases L)
        have af:(c.extract 0 lc.length).toList.length=len*k:=by rw[zI,E.size];exact T
        rw[af,Array.toArray_toList]at hl;exact hl
     ·cases h
    ·cases h
  ·cases h
 ·exact ZbC F Q O C D N hb hz K ac aa h
theorem Zj5 {t:TypeId}{z:AV}{i:TypeInfo}(h:Jr P t=some z)(hi:P.info? t=some i):∃ g,i.zero=some g/\∀ S:Snap,VRel S z g:=by
 unfold Jr at h;simp only[hi]at h
 cases j:i.zero with
 |none=>simp[j]at h
 |some g=>simp[j]at h;subst h;exact⟨g,rfl,fun S=>L1 3 g⟩
theorem ZnS {t e:TypeId}{k bytes:Nat}{ag:Bool}{z len cap r:AV}{ul uc:Value}{H':Hp}(B:Inv W0 S H)(ht:P.underlying t=some (.slice e))(hs:Xe P e=some k)(hb:GY P e=some bytes)(hz:Jr P e=some z)
 (hl:VRel S len ul) (hc:VRel S cap uc) (h:K2 k bytes ag z len cap H=some (r,H')):∃ v' M,(Instr.makeSlice t ul uc).run P S.w=.ok v' M.w/\Ext S M/\Inv W0 M H'/\VRel M r v':=by
 unfold K2 at h;split at h
 ·rename_i n c;split at h
  ·rename_i y;obtain⟨Q,I,Z,K,Y,F⟩:=y;cases hl with|int _ _ =>
   cases hc with|int _ _ =>
   obtain⟨i,hi,W,_⟩:=Zba hb S.w;obtain⟨A,aa,ab⟩:=Zj5 hz hi;subst W
   have X:i.size=k:=by
    unfold Xe at hs;simpa[hi]using hs
   subst X;obtain⟨N,rfl⟩:=yE Q;obtain⟨C,rfl⟩:=yE (Int.le_trans Q I);have g:C*(i.bytes+1)<=140737488355328:=of_decide_eq_true F;have ac:C*i.bytes<=140737488355328:=zN (Nat.mul_le_mul_left _ (Nat.le_succ _)) g;have ae:C<=140737488355328:=zN (Nat.le_mul_of_pos_right _ (Nat.succ_pos _)) g;have T:N<=C:=by omega
   have U:(i.bytes:Int)*(C:Int)<=281474976710656:=by
    have:((C*i.bytes:Nat):Int)<=140737488355328:=by omega
    rw[Int.natCast_mul]at this;rw[Int.mul_comm];omega
   have j:=run_make (P:=P) S.w t e i A ht hi aa .i64 .i64 (N:Int) (C:Int) Q I U (by omega);have u:CellsRel S (flat (yW C z)) (madeCells A.cells (C*i.size)):=Zgf (S:=S) (ab S) Z K Y C;simp only[Int.toNat_natCast]at j h;have E:∀ e∈yW C z,e.cells.length=i.size:=fun e O=>by rw[List.eq_of_mem_replicate O];exact K
   have V:(madeCells A.cells (C*i.size)).size=C*i.size:=by rw[u.size,ZV E];simp
   split at h
   ·rename_i ad;simp only[zA,zB]at h;obtain⟨rfl,rfl⟩:=h;have R:N=0:=by omega
    subst R;have O:∀ e0 b0 hw0 L,S.tk H.length=some (e0,b0,hw0,L)->e0<0:=fun e0 b0 hw0 L h=>by rw[(B.past _ (zE _)).2]at h;cases h
    have hv:=ZjV (S:=S) (n:=H.length) (e:=0) (k:=i.size) (len:=0) (cap:=C) (l:=[]) (c:=madeCells A.cells (C*i.size)) (el:=e) rfl (by simp) (by simp[flat]) (by simp) V (fun i x v hi _=>by simp[flat]at hi);simp only[yT,Nat.zero_mul]at hv;exact⟨_,S.tokn H.length (.cells (madeCells A.cells (C*i.size)) e) 0 0 (madeCells A.cells (C*i.size)).size,j,Ext.tokn B O,B.tokn (TokSet.new H 0) O rfl (Nat.zero_le _),hv⟩
   ·simp only[zA,zB]at h;obtain⟨rfl,rfl⟩:=h;obtain⟨_,D,J⟩:=C7 (P:=P) B u e;rw[ZjB]at D;exact⟨_,S.obj H.length (.cells (madeCells A.cells (C*i.size)) e),j,Ext.obj B _,D,.rs _ _ _ _ _ _ _ J T⟩
  ·cases h
 ·cases h
theorem ZxG (g:List Int):flat (g.map (yX .u8))=g.map (yX .u8):=by
 unfold flat;rw[List.map_map];show (g.map fun n=>[yX .u8 n]).flatten=_
 induction g with
 |nil=>rfl
 |cons a l h=>simp[h]
theorem Zmb {C B e:TypeId}{x r:AV}{u:Value}{H':Hp}(K:Inv W0 S H)(Q:P.underlying C=some (.slice e))(N:P.underlying B=some .string)(O:P.underlying e=some (.int .u8))(I:VRel S x u)
 (h:B1 x H=some (r,H')):∃ v' J,(convert C B u).run P S.w=.ok v' J.w/\Ext S J/\Inv W0 J H'/\VRel J r v':=by
 unfold B1 at h;split at h
 ·rename_i l j;split at h
  ·rename_i s M;simp only[zA,zB]at h;obtain⟨rfl,rfl⟩:=h;obtain⟨A,rfl,rfl⟩:=ZdC M
   have y:elems 1 x H=some (A.map (yX .u8)):=by
    unfold JB at j;split at j
    ·cases j
    ·exact j
   obtain⟨_,D,news,g,z⟩:=Gb (P:=P) K (Nat.zero_lt_one) I y;rw[ZxG]at g
   have L:news=(A.map (Value.int .u8)).toArray:=by
    apply Array.ext_getElem?;intro i;by_cases hi:i<A.length
    ·obtain⟨v,U,T⟩:=g.get (i:=i) (x:=.int .u8 A[i]) (by simp[hi]);rw[U];cases T;simp[hi]
    ·rw[zY (by rw[g.size];simp;omega),zY (by simp;omega)]
   subst L
   have F:(∃ a n c,u=.slice (some a) n c)\/(u=.slice none 0 0/\A=[]):=by
    cases x <;> first
     |(simp[elems]at y;done)
     |(simp[JB]at j;done)
     |skip
    ·cases I;right;exact⟨rfl,by simpa[elems]using y⟩
    ·cases I;exact .inl ⟨_,_,_,rfl⟩
    ·cases I;exact .inl ⟨_,_,_,rfl⟩
    ·cases I;exact .inl ⟨_,_,_,rfl⟩
   rcases F with ⟨a,n,c,rfl⟩|⟨rfl,rfl⟩
   ·have R:n=A.length:=by
     have:=D S.w;simpa[Builtin.lenOf]using this
    subst R;refine⟨.string (A.foldl (fun r n=>r.push (yC n.toNat)) ByteArray.empty),S,?_,Ext.refl S,K,.str _ _ ?_⟩
    ·have E:=z S.w rfl;rw[run_convert_bytes_string S.w C B e _ _ _ Q O N];refine run_bytesToString S.w _ _ _ A ?_;simp only[Builtin.firstCells,yU,Nat.mul_one]at E;exact E
    ·rw[Zig];simp
   ·exact⟨.string .empty,S,by simp[convert,run_underlying Q,run_underlying N,run_underlying O,Conv.bytesToString],Ext.refl S,K,.str _ _ rfl⟩
  ·cases h
 ·cases h
theorem Zo8 {B z e:TypeId}{x r:AV}{u:Value}{H':Hp}(Q:Inv W0 S H)(W:P.underlying B=some .string)(R:P.underlying z=some (.slice e))(T:P.underlying e=some (.int .u8))(K:VRel S x u)
 (h:Zak x H=some (r,H')):∃ v' I,(convert B z u).run P S.w=.ok v' I.w/\Ext S I/\Inv W0 I H'/\VRel I r v':=by
 unfold Zak at h;split at h
 ·simp only[zA,zB]at h;obtain⟨rfl,rfl⟩:=h;cases K with|str _ b hb =>
  subst hb;have y:=run_bytes_of_string S.w B z e b W R T;have g:=grownCap_ge S.w b.size 0 e;generalize grownCap S.w b.size 0 e=cap at y g;have N:(bytesRow b cap).size=cap:=by simp[bytesRow];omega
  have M:(b.data.toList.map fun b=>yX .u8 (b.toNat:Int)).length=b.size:=by rw[yU];exact W3 b
  have F:b.data.toList.length=b.size:=W3 b;have j:=Q.drew
  have D:∀ e0 L hw0 C,S.drew.tk H.length=some (e0,L,hw0,C)->e0<0:=fun e0 L hw0 C h=>by
   have O:S.tk H.length=some (e0,L,hw0,C):=h;rw[(Q.past _ (zE _)).2]at O;cases O
  have E:=Ext.rown j (o:=.cells (bytesRow b cap) e ((bytesRow b cap).size,(bytesRow b cap).size+1)) (hw:=b.size) (sz:=cap) D;refine⟨_,S.drew.rown H.length (.cells (bytesRow b cap) e ((bytesRow b cap).size,(bytesRow b cap).size+1)) 0 b.size cap,y,(Ext.drew S).trans E,j.rown (RowSet.new H 0 _) D ?_,?_⟩
  ·refine⟨S.drew.w.heap.size,cap,bytesRow b cap,e,_,by rw[M];simp[Snap.rown],j.size,heap_alloc_new S.drew.w _,N,by rw[M];exact g,fun i x v hi J=>?_,fun i V=>absurd (j.puball _ i V) (yD _),zU.2 fun x K=>(by simp at K;obtain⟨a,_,rfl⟩:=K;rfl),fun i hi h=>by have:=h.1;simp only at this;omega⟩;have A:i<b.size:=by rw[<-M];exact Zg hi
   rw[List.getElem?_map,List.getElem?_eq_getElem (by rw[F];exact A)]at hi;unfold bytesRow at J;rw[zD (by simp;exact A)]at J;have U:b.data[i]?=some b.data[i]:=Array.getElem?_eq_getElem A;simp[U]at hi J;subst hi J;exact .int _ _
  ·rw[F];exact .ws false 1 H.length 0 b.size cap S.drew.w.heap.size ⟨0,S.drew.w.heap.size,b.size,cap,by simp[Snap.rown],zE _,fun _=>⟨rfl,by omega,by omega⟩⟩ g
 ·cases h
def GlobOk (C:Cfg)(S:Snap):Prop:=∀ g h,C.glob g=some h->VRel S (.vp h) (.pointer (some ⟨g,0,none⟩))/\Sc 0 (.vp h)/\Held S g h
def XT (C:Cfg)(_:World)(call:ZF):Prop :=
 ∀ {W0:World} (f:FuncId) (args:List AV) (H H':Hp) (v:AV),call f args H=some (v,H')->∀ (S:Snap) (args':Array Value),Inv W0 S H->GlobOk C S->args'.size=args.length ->
  (∀ (i:Nat) (a:AV) (u:Value),args[i]?=some a->args'[i]?=some u->VRel S a u) ->
  Calls C.P f args' S.w fun e w'=>∃ v' g,e=.returned v'/\g.w=w'/\Ext S g/\Inv W0 g H'/\VRel g v v'
theorem Yo {o:Oper}{a:Act}{next:Act->World->Prop}{Q:Exit->Act->World->Prop}{w w':World}{v:Value}(h:(execOp a.eval o).run P w=.ok (.value v) w')(g:next (a.put o.dst v) w'):o.wp P a w next Q:=by
 unfold Oper.wp;rw[h];exact g
theorem ZeH {o:Oper}{a:Act}{next:Act->World->Prop}{Q:Exit->Act->World->Prop}{w w':World}(h:(execOp a.eval o).run P w=.ok .skip w')(g:next (a.put o.dst undef) w'):o.wp P a w next Q:=by
 unfold Oper.wp;rw[h];exact g
theorem Gives.wp {C:Cfg}{o:Oper}{a:Act}{next:Act->World->Prop}{Q:Exit->Act->World->Prop}{v:AV}{H':Hp}(h:Gives C.P W0 S H (execOp a.eval o) v H')(A:Inv W0 S H)
 (B:∀ v' g,Ext S g->Inv W0 g H'->VRel g v v'->next (a.put o.dst v') g.w):o.wp C.P a S.w next Q:=by
 obtain⟨v',g,j,u,y,z⟩:=h A;exact Yo j (B v' g u y z)
theorem ZeO {w A:List AV}{y z:Array Value}(D:y.size=w.length)(B:∀ (i:Nat) (a:AV) (u:Value),w[i]?=some a->y[i]?=some u->VRel S a u)
 (C:∀ (i:Nat) (a:AV) (u:Value),A[i]?=some a->z[i]?=some u->VRel S a u) (i:Nat) (a:AV) (u:Value) (g:(w++A)[i]?=some a) (j:(y++z)[i]?=some u):VRel S a u:=by
 rcases zV i w.length with h|h
 ·rw[zC h]at g;rw[zD (by omega)]at j;exact B i a u g j
 ·rw[zF h]at g;rw[zQ (by omega),D]at j;exact C _ a u g j
theorem ZnP {F xt ty e:TypeId}{k:Nat}{d x r:AV}{Z N:Value}{H':Hp}(A:Inv W0 S H)(hk:0<k)(Y:P.underlying F=some (.slice e))(X:Xe P e=some k)(J:VRel S d Z)(hx:VRel S x N)
 (h:HT k d x H=some (r,H')):∃ v' D,(Builtin.copy_ #[F,xt] ty #[Z,N]).run P S.w=.ok v' D.w/\Ext S D/\Inv W0 D H'/\VRel D r v':=by
 unfold HT at h;split at h
 ·rename_i xs M;obtain⟨U,u,news,g,j⟩:=Gb (P:=P) A hk hx M
  have y:∀ (base:Option Addr) (Q O:Nat),xs=[]->(Builtin.copy_ #[F,xt] ty #[.slice base Q O,N]).run P S.w=.ok (goInt 0) S.w:=by
   intro base Q O z;subst z;have V:=j S.w rfl
   have z:news=#[]:=by
    have:=g.size;simp[flat]at this;exact this
   subst z;simp only[yT]at V u;cases base <;> simp[Builtin.copy_,run_underlying Y,u S.w,X0 X,V,storeCells]
  split at h
  ·split at h
   ·rename_i z;simp only[zA,zB]at h;obtain⟨rfl,rfl⟩:=h;cases J;exact⟨_,S,y _ _ _ z,Ext.refl S,A,.int _ _⟩
   ·cases h
  ·split at h
   ·rename_i z;simp only[zA,zB]at h;obtain⟨rfl,rfl⟩:=h;cases J;exact⟨_,S,y _ _ _ z,Ext.refl S,A,.int _ _⟩
   ·cases h
  ·rename_i ag k' o off len cap;cases J with|rs _ _ _ _ _ _ b hb hcap =>
   split at h
   ·rename_i z;simp only[zA,zB]at h;obtain⟨rfl,rfl⟩:=h;exact⟨_,S,y _ _ _ z,Ext.refl S,A,.int _ _⟩
   ·split at h
    ·rename_i hc;obtain⟨rfl,L⟩:=hc;split at h
     ·rename_i cs W;split at h
      ·rename_i T;simp only[zA,zB]at h;obtain⟨rfl,rfl⟩:=h;obtain⟨b',c,el,E,g2,R,g4,g5,I,g7⟩:=A.objs o _ W;rw[hb]at E;injection E with E;subst E;have K:(xs.map AV.cells).flatten=flat xs:=rfl;have aa:news.size=xs.length*k':=by rw[g.size,ZV U]
       have C:=run_storeCells_at P b off el news.toList 0 c S.w R (by simp;omega) g.oneCells;rw[zS,<-UB off news c (by omega)]at C;have B:Nat.min xs.length len=xs.length:=Nat.min_eq_left L;refine⟨goInt xs.length,{ S with w:=S.w.setRow b (news.zipIdx.foldl (fun (a:Array Value) (p:Value×Nat)=>a.setIfInBounds (off+p.2) p.1) c) },?_,Ext.write I _,?_,.int _ _⟩
       ·simp[Builtin.copy_,run_underlying Y,u S.w,B,X0 X,j S.w rfl,C]
       ·refine A.write W hb g2 R I ?_;rw[K];exact (CellsRel.splice (S:=S) ⟨g4,g5,g7⟩ g (by first|omega|(rw[ZV U];omega))).mono (Ext.write I _)
      ·cases h
     ·cases h
    ·cases h
  ·cases h
 ·cases h
theorem Zom (s:List UInt8)(c:UInt8):∀ (l:List UInt8) (k:Nat),(∀ i,l[i]?=s[k+i]?) ->
 KR c l k=match (yQ k l.length).find? fun i=>s[i]! == c with|some i=>(i:Int)|none=>-1:=by
 intro l
 induction l with
 |nil=>intro k _;rfl
 |cons b l w =>
  intro k h;have j:=h 0;simp only[yF,zS]at j;have u:s[k]! = b:=by rw[zO,<-j];rfl
  rw[List.length_cons,yR,yV,u];unfold KR;by_cases g:b=c
  ·simp[g]
  ·have:(b==c)=false:=by simpa using g
   simp only[g,if_false,this];exact w (k+1) fun i=>by have:=h (i+1);simpa[yL,yN 1 i]using this
theorem ZsN (s t:List UInt8):∀ (l m:List UInt8) (k:Nat),(∀ i,l[i]?=s[k+i]?)->(∀ i,m[i]?=t[k+i]?) ->
 K3 l m=match (yQ k (min l.length m.length)).find? fun i=>s[i]! != t[i]! with|some i=>(if s[i]!<t[i]! then (-1:Int) else 1)|none=>if l.length<m.length then -1 else if l.length > m.length then 1 else 0:=by
 intro l
 induction l with
 |nil=>intro m k _ _;cases m <;> simp[K3]
 |cons a l B =>
  intro m k w y
  cases m with
  |nil=>simp[K3]
  |cons b m =>
   have j:=w 0;have u:=y 0;simp only[yF,zS]at j u;have z:s[k]! = a:=by rw[zO,<-j];rfl
   have A:t[k]! = b:=by rw[zO,<-u];rfl
   have h:min (a::l).length (b::m).length=min l.length m.length+1:=by simp
   rw[h,yR,yV,z,A];unfold K3;by_cases g:a=b
   ·have:(a != b)=false:=by simp[g]
    simp only[g,if_true];subst g;simp only[bne_self_eq_false];rw[B m (k+1) (fun i=>by have:=w (i+1);simpa[yL,yN 1 i]using this) (fun i=>by have:=y (i+1);simpa[yL,yN 1 i]using this)];simp
   ·have:(a != b)=true:=by simpa using g
    simp only[g,if_false,this,z,A]
theorem Zyx (b:ByteArray)(i:Nat):b[i]! = b.data.toList[i]!:=by
 cases b with|mk a =>
 by_cases h:i<a.size
 ·have g:i<(ByteArray.mk a).size:=h;rw[getElem!_pos (ByteArray.mk a) i g,getElem!_pos a.toList i (by simpa using h)];rfl
 ·have g:¬ i<(ByteArray.mk a).size:=h;rw[getElem!_neg (ByteArray.mk a) i g,getElem!_neg a.toList i (by simpa using h)]
theorem Zma (c:UInt8):∀ (l:List UInt8) (n:Int),l.foldl (fun (n:Int) x=>if x==c then n+1 else n) n=n+(Tr c l:Nat):=by
 intro l
 induction l with
 |nil=>intro n;simp[Tr]
 |cons b l g =>
  intro n;rw[List.foldl_cons,g];have e:Tr c (b::l)=if b=c then Tr c l+1 else Tr c l:=rfl;rw[e];by_cases h:b=c
  ·subst h;simp;omega
  ·have:(b==c)=false:=by simpa using h
   rw[this,if_neg h];simp
theorem Zqj {e:ExtK}{args:List AV}{args':Array Value}{v:AV}(A:args'.size=args.length)(g:∀ (i:Nat) (a:AV) (u:Value),args[i]?=some a->args'[i]?=some u->VRel S a u)(h:Zmt e args=some v) :
 ∃ v',(DG e args').run P S.w=.ok v' S.w/\VRel S v v':=by
 unfold Zmt at h;split at h
 ·rename_i x;injection h with h;subst h;obtain⟨l⟩:=args'
  match l,A with
  |[u],_=>exact⟨u,rfl,g 0 x u rfl rfl⟩
 ·rename_i s n;injection h with h;subst h;obtain⟨l⟩:=args'
  match l,A with
  |[u,w],_ =>
   have j:=g 0 _ u rfl rfl;have y:=g 1 _ w rfl rfl;cases j with|str _ b hb =>
   cases y;subst hb;have B:=Zom b.data.toList (yC n.toNat) b.data.toList 0 (fun i=>by rw[zR]);rw[B];have z:∀ i,b[i]! = b.data.toList[i]!:=Zyx b;refine⟨goInt _,?_,.int _ _⟩;have e:DG .indexByte #[.string b,.int .u8 n]=(match (List.range b.size).find? fun i=>b[i]! == yC n.toNat with|some i=>pure (goInt i)|none=>pure (goInt (-1))):=rfl;show (DG .indexByte #[.string b,.int .u8 n]).run P S.w=_;rw[e];simp only[z];rw[yK,show b.data.toList.length=b.size from by rw[zI];rfl];cases (yQ 0 b.size).find? fun i=>b.data.toList[i]! == yC n.toNat <;> rfl
 ·rename_i s t;injection h with h;subst h;obtain⟨l⟩:=args'
  match l,A with
  |[u,w],_ =>
   have j:=g 0 _ u rfl rfl;have y:=g 1 _ w rfl rfl;cases j with|str _ b hb =>
   cases y with|str _ c hc =>
   subst hb hc;have B:=ZsN b.data.toList c.data.toList b.data.toList c.data.toList 0 (fun i=>by rw[zR]) (fun i=>by rw[zR]);rw[B];have C:∀ (b:ByteArray) (i:Nat),b[i]! = b.data.toList[i]!:=Zyx;refine⟨goInt _,?_,.int _ _⟩;have E:∀ b:ByteArray,b.data.toList.length=b.size:=fun b=>by rw[zI];rfl
   have e:DG .cmp #[.string b,.string c]=pure (goInt (Extern.BytealgCompare.cmp b c)):=rfl;show (DG .cmp #[.string b,.string c]).run P S.w=_;rw[e];simp only[Extern.BytealgCompare.cmp,C,E,Sem.run_pure];rw[yK];rfl
 ·rename_i s n;injection h with h;subst h;obtain⟨l⟩:=args'
  match l,A with
  |[u,w],_ =>
   have j:=g 0 _ u rfl rfl;have y:=g 1 _ w rfl rfl;cases j with|str _ b hb =>
   cases y;subst hb;refine⟨goInt _,?_,.int _ _⟩;have e:DG .count #[.string b,.int .u8 n]=pure (goInt (b.foldl (fun (D:Int) x=>if x==yC n.toNat then D+1 else D) ((0:Nat):Int))):=rfl;show (DG .count #[.string b,.int .u8 n]).run P S.w=_;rw[e,Lib.foldl_data,Zma];simp
 ·cases h
theorem Inv.went (A:Inv W0 S H){w':World}(I:Below S.w.heap.size S.w w'):Ext S { S with w:=w' }/\Inv W0 { S with w:=w' } H:=by
 have Q:Ext S { S with w:=w' }:=⟨⟨fun _ _ h=>h,fun b i h=>⟨h,I.cell (A.puball b i h)⟩,fun _ e b hw sz h=>⟨e,b,hw,sz,h,zE _,fun _=>⟨rfl,rfl,rfl⟩⟩⟩,rfl,fun _ _ h _=>h⟩
 have j:∀ b c,S.w.heap[b]?=some c->w'.heap[b]?=some c:=fun b c h=>by
  have L:b<S.w.heap.size:=by
   rcases zV b S.w.heap.size with V|V
   ·exact V
   ·rw[zY V]at h;cases h
  rw[I.block b L];exact h
 refine⟨Q,A.below.trans (I.mono A.below.size),fun o x ho=>?_,A.past,A.inj,A.tinj,A.apart,fun b i h=>yB (A.puball b i h) I.size,fun o b h=>yB (A.dom o b h) I.size,
  fun t e b hw sz h=>yB (A.tdom t e b hw sz h) I.size,A.lim⟩
 have M:=A.objs o x ho
 cases x with
 |cells l =>
  obtain⟨b',c',B,C,z,D,E,F,J,O⟩:=M;exact⟨b',c',B,C,z,j _ _ D,E,fun i y v Z N=>(F i y v Z N).mono Q,J,O⟩
 |bld T u l =>
  obtain⟨b',C,z,D,E,F⟩:=M;have L:b'<S.w.heap.size:=z.elim (fun h=>h.lt) fun h=>h.lt;have he:=I.block b' L;have K:∀ i,w'.cell? ⟨b',i,none⟩=S.w.cell? ⟨b',i,none⟩:=fun i=>by unfold World.cell?;rw[he]
  exact⟨b',C,z.frame he fun v g N Y=>I.block g (z.own_lt N Y),D,E,fun v g N Y=>F v g (by rw[<-K];exact N) Y⟩
 |row e l =>
  obtain⟨b',sz,c',B,fz,C,z,D,E,F,J,O,h8,h9⟩:=M;exact⟨b',sz,c',B,fz,C,z,j _ _ D,E,F,fun i y v Z N=>(J i y v Z N).mono Q,O,h8,h9⟩
 |tok e =>
  obtain⟨b',hw,sz,c',B,fz,C,z,D,E,F,J,O⟩:=M;exact⟨b',hw,sz,c',B,fz,C,z,j _ _ D,E,F,J,O⟩
 |map es R =>
  obtain⟨b',U,C,z,D,E,F,J⟩:=M;refine⟨b',U,C,z,j _ _ D,E,F,fun i k v n e W X=>?_⟩;obtain⟨q1,q2,q3⟩:=J i k v n e W X;exact⟨q1.mono Q,q2.mono Q,q3⟩
 |siter s aa =>
  obtain⟨b',s',C,z,D,E,F⟩:=M;exact⟨b',s',C,z,j _ _ D,E,F⟩
 |dead=>trivial
 |free=>exact M
def Snap.bare (S:Snap):Snap:={ w:=S.w,phi:=fun _=>none,pub:=S.pub,tk:=fun _=>none,lim:=S.w.heap.size }
theorem Inv.bare (g:Inv W0 S H):Inv S.w S.bare [] :=
 ⟨Below.refl _ _,by simp,fun o _=>⟨rfl,rfl⟩,fun o z b h=>by simp[Snap.bare]at h,fun t A e b hw sz y j u h=>by simp[Snap.bare]at h,fun t e b hw sz o h=>by simp[Snap.bare]at h,
  g.puball,fun o b h=>by simp[Snap.bare]at h,fun t e b hw sz h=>by simp[Snap.bare]at h,zE _⟩
def Snap.more (S:Snap)(n:Nat):Snap:={ S with pub:=fun b i=>S.pub b i\/(n<=b/\b<S.w.heap.size) }
theorem Inv.more (E:Inv W0 S H){n:Nat}(hn:W0.heap.size<=n)(M:∀ o b,S.phi o=some b->b<n)(U:∀ t e b hw sz,S.tk t=some (e,b,hw,sz)->b<n):Ext S (S.more n)/\Inv W0 (S.more n) H:=by
 have L:Ext S (S.more n):=⟨⟨fun _ _ h=>h,fun b i h=>⟨.inl h,rfl⟩,fun _ e b hw sz h=>⟨e,b,hw,sz,h,zE _,fun _=>⟨rfl,rfl,rfl⟩⟩⟩,rfl,fun b i w hl=>w.elim id fun e=>by have:=E.lim;have:=e.1;omega⟩;refine⟨L,E.below,fun o x ho=>?_,E.past,E.inj,E.tinj,E.apart,fun b i h=>h.elim (E.puball b i) fun e=>e.2,E.dom,E.tdom,E.lim⟩;have I:=E.objs o x ho
 cases x with
 |cells l =>
  obtain⟨b',c',z,j,A,B,C,D,F,J⟩:=I;have:=M _ _ j;exact⟨b',c',z,j,A,B,C,fun i y v V K=>(D i y v V K).mono L,fun i w=>w.elim (F i) fun e=>by have:=e.1;omega,J⟩
 |bld T u l =>
  obtain⟨b',j,A,B,C,D⟩:=I;have:=M _ _ j;refine⟨b',j,A,B,fun i w=>w.elim (C i) fun e=>by have:=e.1;omega,fun v g K Z=>?_⟩;obtain⟨⟨n',hw,sz,q⟩,W⟩:=D v g K Z;have:=U _ _ _ _ _ q;exact⟨⟨n',hw,sz,q⟩,fun i w=>w.elim (W i) fun e=>by have:=e.1;omega⟩
 |row e l =>
  obtain⟨b',sz,c',z,fz,j,A,B,C,D,F,J,X,Y⟩:=I;have:=U _ _ _ _ _ j;exact⟨b',sz,c',z,fz,j,A,B,C,D,fun i y v V K=>(F i y v V K).mono L,fun i w=>w.elim (J i) fun e=>by have:=e.1;omega,X,Y⟩
 |tok e =>
  obtain⟨b',hw,sz,c',z,fz,j,A,B,C,D,F,J⟩:=I;have:=U _ _ _ _ _ j;exact⟨b',hw,sz,c',z,fz,j,A,B,C,D,fun i hi w=>w.elim (F i hi) fun e=>by have:=e.1;omega,J⟩
 |map es N =>
  obtain⟨b',O,j,A,B,C,D,F⟩:=I;have:=M _ _ j;refine⟨b',O,j,A,B,C,fun i w=>w.elim (D i) fun e=>by have:=e.1;omega,fun i k v n e Q R=>?_⟩;obtain⟨q1,W,q3⟩:=F i k v n e Q R;exact⟨q1.mono L,W.mono L,q3⟩
 |siter s aa =>
  obtain⟨b',s',j,A,B,C,D⟩:=I;have:=M _ _ j;exact⟨b',s',j,A,B,C,fun i w=>w.elim (D i) fun e=>by have:=e.1;omega⟩
 |dead=>trivial
 |free=>exact I
theorem Zpc {α β:Type}{f g:α->Option β}(h:∀ a b,f a=some b->g a=some b):∀ {l:List α} {r:List β},l.mapM f=some r->l.mapM g=some r:=by
 intro l
 induction l with
 |nil=>intro r j;simpa using j
 |cons a l y =>
  intro r j;rw[List.mapM_cons]at j ⊢
  cases u:f a with
  |none=>simp[u]at j
  |some b =>
   cases w:l.mapM f with
   |none=>simp[u,w]at j
   |some z =>
    simp only[u,w]at j;simp only[h a b u,y w];exact j
theorem Zqs {C:Cfg}{call:ZF}(z:XT C W0 call){id:FuncId}{args:List AV}{args':Array Value}{H':Hp}{v:AV}(Z:args'.size=args.length)
 (R:∀ (i:Nat) (a:AV) (u:Value),args[i]?=some a->args'[i]?=some u->VRel S a u) (h:Zh (call id) args H=some (v,H')) (A:Inv W0 S H) (Q:GlobOk C S) :
 Calls C.P id args' S.w fun e w'=>∃ v' B,e=.returned v'/\B.w=w'/\Ext S B/\Inv W0 B H'/\VRel B v v':=by
 unfold Zh at h;split at h
 ·rename_i j hm;split at h
  ·rename_i v1 H1 U;split at h
   ·rename_i v2 W;simp only[zA,zB]at h;obtain⟨rfl,rfl⟩:=h;obtain⟨q1,q2⟩:=Uv (S:=S) (T:=S.bare) (H':=[]) (n:=0) (f:=9) (fun a b v=>Zo5 (S:=S) (T:=S.bare) rfl (fun _ _ h=>h) 9 a b v) hm Z R;refine (z id j [] H1 v1 U S.bare args' A.bare (fun g L X=>?_) q1 q2).mono fun e w' Y=>?_
    ·obtain⟨M,D⟩:=Q g L X;obtain⟨D,vs,N,J⟩:=D;exact⟨VRel.bare (S:=S) (T:=S.bare) rfl (fun _ _ h=>h) M D,D,vs,N,fun i=>⟨(J i).1,(J i).2⟩⟩
    ·obtain⟨v',T,V,hw,K,y,hv⟩:=Y;subst hw;have F:=SC (S:=T) (H:=[]) y (by simp) 9 _ _ _ W hv;obtain⟨r1,r2⟩:=A.went (w':=T.w) y.below;obtain⟨r3,r4⟩:=r2.more (n:=S.w.heap.size) A.below.size A.dom A.tdom;have hl:T.lim=S.w.heap.size:=K.lim
     have I:Ext0 (T.back []) (({ S with w:=T.w }:Snap).more S.w.heap.size):=by
      refine⟨fun o b h=>by simp[Snap.back]at h,fun b i h=>⟨?_,rfl⟩,fun t e b hw sz h=>by simp[Snap.back]at h⟩;rcases h with h|⟨h1,O,_⟩
      ·rcases zV b S.w.heap.size with E|E
       ·exact .inl (K.old b i h E)
       ·exact .inr ⟨E,y.puball b i h⟩
      ·exact .inr ⟨by omega,O⟩
     exact⟨v',({ S with w:=T.w }:Snap).more S.w.heap.size,V,rfl,r1.trans r3,r4,F.mono0 I⟩
   ·cases h
  ·cases h
 ·cases h
theorem Zwr {C:Cfg}{call:ZF}(g:XT C W0 call){id:FuncId}{args:List AV}{args':Array Value}{H':Hp}{v:AV}(F:args'.size=args.length)
 (D:∀ (i:Nat) (a:AV) (u:Value),args[i]?=some a->args'[i]?=some u->VRel S a u) (h:JQ (call id) args H=some (v,H')) (z:Inv W0 S H) (B:GlobOk C S) :
 Calls C.P id args' S.w fun e w'=>∃ v' j,e=.returned v'/\j.w=w'/\Ext S j/\Inv W0 j H'/\VRel j v v':=by
 unfold JQ at h;split at h
 ·rename_i I H1 E;split at h
  ·rename_i y;have y:=Zjx _ _ y;split at h
   ·rename_i J A;simp only[zA,zB]at h;obtain⟨rfl,rfl⟩:=h;refine (g id args H H1 I E S args' z B F D).mono ?_
    rintro e w' ⟨v',S1,he,hw,hx1,hI1,hv⟩
    exact⟨v',S1.back H,he,hw,Ext.back z hx1,Inv.back z hI1 y,SC hI1 y 9 _ _ _ A hv⟩
   ·cases h
  ·cases h
 ·cases h
theorem Ztm {P:Program}{t:TypeId}{name:String}{f:FuncId}(h:ZqS P t name=some f)(k:Nat)(v:Value)(w:World):(method (k+1) t v name).run P w=.ok (f,v) w:=by
 unfold ZqS at h;split at h
 ·rename_i i e hi A;split at h
  ·rename_i m hm;split at h
   ·rename_i B j y;injection h with h;subst h;have u:(typeInfo t).run P w=.ok i w:=run_typeInfo w hi;have g:=fun w=>run_underlying (w:=w) A;have z:m.path=#[]:=by simpa using j
    unfold method;simp[Sem.run_bind,u,Result.andThen_ok,hm,j,follow,y,receiverAt,g,Place.get]
   ·cases h
  ·cases h
 ·cases h
theorem ZfP {C:Cfg}(I:Um C){call:ZF}(y:XT C W0 call){f v:AV}{args:List AV}{R:Value}{args':Array Value}{H':Hp}(hf:VRel S f R)(W:args'.size=args.length)
 (ha:∀ (i:Nat) (a:AV) (u:Value),args[i]?=some a->args'[i]?=some u->VRel S a u) (h:Yf C call f args H=some (v,H')) (L:Inv W0 S H) (D:GlobOk C S) :
 (∃ v',(do let d <-Deferred.ofValue R args';invoke d.target d.args:Sem Next).run C.P S.w=.ok (.value v') S.w/\VRel S v v'/\H'=H) \/
 ∃ id V,(∀ w:World,(do let d <-Deferred.ofValue R args';invoke d.target d.args:Sem Next).run C.P w=.ok (.enter id V) w) /\
  Calls C.P id V S.w fun e w'=>∃ v' Q,e=.returned v'/\Q.w=w'/\Ext S Q/\Inv W0 Q H'/\VRel Q v v':=by
 unfold Yf at h;split at h
 ·rename_i id first z
  cases hf with|fn _ _ _ F K hF hK h1 h2 =>
  have A:(F++args'++K).size=(first++args++z).length:=by simp[hF,W,hK]
  have j:=ZeO (S:=S) (by simp[hF,W]) (ZeO hF h1 ha) h2;unfold Xz at h;split at h
  ·rename_i e he;unfold Zay at h;split at h
   ·rename_i X E;simp only[zA,zB]at h;obtain⟨rfl,rfl⟩:=h;obtain⟨v',Y,Z⟩:=Zqj (P:=C.P) A j E;refine .inl ⟨v',?_,Z,rfl⟩;have T:=I.2.2.2.1 id e he (F++args'++K) S.w;rw[Sem.run_bind,Y]at T;simp only[Result.andThen_ok,Sem.run_pure,Array.append_assoc]at T;simp[Deferred.ofValue,invoke];exact T
   ·cases h
  ·split at h
   ·rename_i g U;obtain⟨O,N⟩:=I.2.2.2.2.1 id g U;unfold Zbk at h;split at h
    ·rename_i X E;simp only[zA,zB]at h;obtain⟨rfl,rfl⟩:=h;refine .inr ⟨id,F++args'++K,fun w=>?_,N S H _ _ X L (fun g J B=>⟨(D g J B).1,(D g J B).2.2⟩) A j E⟩;simp[Deferred.ofValue,invoke,I.2.1 id O]
    ·cases h
   split at h
   ·rename_i g U;obtain⟨O,M⟩:=I.2.2.2.2.2 id g U;refine .inr ⟨id,F++args'++K,fun w=>?_,M S H _ _ _ v L (fun g J B=>⟨(D g J B).1,(D g J B).2.2⟩) A j h⟩;simp[Deferred.ofValue,invoke,I.2.1 id O]
   split at h
   ·rename_i O;refine .inr ⟨id,F++args'++K,fun w=>?_,?_⟩
    ·simp[Deferred.ofValue,invoke,I.2.1 id O]
    ·split at h
     ·exact Zqs y A j h L D
     split at h
     ·exact Zwr y A j h L D
     ·exact y id _ H H' v h S _ L D A j
   ·cases h
 ·cases h
theorem ZrW {C:Cfg}(hC:Um C){call:ZF}(aa:XT C W0 call){tm:List AV}{o:Oper}{a:Act}{next:Act->World->Prop}{Q:Exit->Act->World->Prop}{v:AV}{H':Hp}{fl:Bool}
 (j:∀ x,VRel S (eval C tm x) (a.eval x)) (h:Xd C call (eval C tm) H fl o.op=some (v,H')) (E:Inv W0 S H) (hG:GlobOk C S)
 (K:∀ v' I,Ext S I->Inv W0 I H'->VRel I v v'->next (a.put o.dst v') I.w):o.wp C.P a S.w next Q:=by
 unfold Xd at h;split at h
 ·rename_i v' hp;simp only[zA,zB]at h;obtain⟨rfl,rfl⟩:=h;exact (ZnX hC j hp).wp E K
 split at h
 ·cases h
 generalize B:o.op=op at h
 cases op with
 |alloc e =>
  simp only[ZE]at h;split at h
  ·rename_i z hz;obtain⟨zc,Y,Z⟩:=Uy hz;split at h
   ·rename_i u hu;split at h
    ·rename_i V;simp only[zA,zB]at h;obtain⟨rfl,rfl⟩:=h;simp only[yA,bne_iff_ne,ne_eq]at V;obtain⟨TG,ao⟩:=V
     have ap:zc.cells=#[.pointer none,.slice none 0 0]:=by
      have J:=Z S;unfold Zyy at TG;split at TG
      ·cases J with|agg _ vs hc L D =>
       obtain⟨l⟩:=vs
       match l,L with
       |[x,y],_ =>
        have M:=D 0 _ x rfl rfl;have N:=D 1 _ y rfl rfl;cases M;cases N;rfl
      ·cases TG
     obtain⟨M,N,T⟩:=ZmX (P:=C.P) E ap ao;refine Yo (w':=(S.obj H.length (.cells zc.cells e)).w) ?_ (K _ _ (Ext.obj E _) N (.ptr _ 0 _ T));simp[execOp,B,Instr.alloc,Y,newVar,M]
    ·cases h
   split at h
   ·rename_i V;simp only[zA,zB]at h;obtain⟨rfl,rfl⟩:=h;obtain⟨M,N,T⟩:=C7 (P:=C.P) E ((Z S).cells V) e;refine Yo (w':=(S.obj H.length (.cells zc.cells e)).w) ?_ (K _ _ (Ext.obj E _) N (.ptr _ 0 _ T));simp[execOp,B,Instr.alloc,Y,newVar,M]
   ·cases h
  ·cases h
 |box e x =>
  simp only[ZE]at h;unfold ZQ at h;split at h
  ·rename_i V;simp only[zA,zB]at h;obtain⟨rfl,rfl⟩:=h;obtain⟨M,N,T⟩:=C7 (P:=C.P) E ((j x).cells V) e;refine Yo (w':=(S.obj H.length (.cells (a.eval x).cells e)).w) ?_ (K _ _ (Ext.obj E _) N (.ptr _ 0 _ T));simp[execOp,B,Instr.box,newVar,M]
  ·cases h
 |load t x =>
  simp only[ZE]at h;split at h
  ·rename_i g sz hg L
   cases R:Z3 g sz (eval C tm x) H with
   |none=>simp[R]at h
   |some r =>
    simp[R]at h;obtain⟨rfl,rfl⟩:=h;obtain⟨v',ad,hu,D,J⟩:=ZfR (P:=C.P) E hg L (j x) R;refine Yo (w':=S.w) ?_ (K _ _ (Ext.refl S) E J);simp[execOp,B,Instr.loadAt,hu,Instr.sureAddr,D]
  ·cases h
 |store t x y =>
  simp only[ZE]at h;split at h
  ·rename_i sz L;split at h
   rotate_left
   ·cases h
   unfold Za at h
   cases R:YX sz (eval C tm x) (eval C tm y) H with
   |none=>simp[R]at h
   |some r =>
    simp only[R,zA,zB]at h;obtain⟨rfl,rfl⟩:=h;obtain⟨ad,I,hu,D,F,A⟩:=ZlS (P:=C.P) E L (j x) (j y) R;refine ZeH (w':=I.w) ?_ (K _ _ F A (.tuple [] #[] rfl (by simp)));simp[execOp,B,Instr.storeAt,hu,Instr.sureAddr,D]
  ·cases h
 |makeSlice t l c =>
  simp only[ZE]at h;split at h
  ·rename_i e U;split at h
   ·rename_i k bytes ag z L hb hg hz;obtain⟨v',I,D,F,A,J⟩:=ZnS (P:=C.P) E (Tx U) L hb hz (j l) (j c) h;refine Yo (w':=I.w) ?_ (K _ _ F A J);simp[execOp,B,D]
   ·cases h
  ·cases h
 |convert s d x =>
  simp only[ZE]at h;split at h
  ·rename_i e L hd;split at h
   ·rename_i U;obtain⟨v',I,D,F,A,J⟩:=Zmb (P:=C.P) E L hd (Aq U) (j x) h;refine Yo (w':=I.w) ?_ (K _ _ F A J);simp[execOp,B,D]
   ·cases h
  ·rename_i e L hd;split at h
   ·rename_i U;simp only[yA]at U;have U:=U.2;obtain⟨v',I,D,F,A,J⟩:=Zo8 (P:=C.P) E L hd (Aq U) (j x) h;refine Yo (w':=I.w) ?_ (K _ _ F A J);simp[execOp,B,D]
   ·cases h
  ·cases h
 |makeMap t r =>
  cases r with
  |some r=>simp[ZE]at h
  |none =>
   simp only[ZE,zA,zB]at h;obtain⟨rfl,rfl⟩:=h;obtain⟨M,N,T⟩:=Zle (P:=C.P) t E;refine Yo (w':=(S.obj H.length (.map #[] 0)).w) ?_ (K _ _ (Ext.obj E _) N T);simp[execOp,B,M]
 |lookup t x k ck =>
  simp only[ZE]at h;split at h
  ·rename_i d e W;split at h
   ·rename_i z hz
    cases R:Y7 d z ck (eval C tm x) (eval C tm k) H with
    |none=>simp[R]at h
    |some r =>
     simp[R]at h;obtain⟨rfl,rfl⟩:=h;obtain⟨zc,Y,Z⟩:=Uy hz;obtain⟨v',D,J⟩:=Zl0 (P:=C.P) E W ⟨zc,Y S.w,Z S⟩ (j x) (j k) R;refine Yo (w':=S.w) ?_ (K _ _ (Ext.refl S) E J);simp[execOp,B,D]
   ·cases h
  ·cases h
 |mapUpdate t m k x =>
  simp only[ZE]at h;split at h
  ·rename_i d e W;obtain⟨rfl,I,D,F,A⟩:=ZbD (P:=C.P) E W (j m) (j k) (j x) h;refine ZeH (w':=I.w) ?_ (K _ _ F A (.tuple [] #[] rfl (by simp)));simp[execOp,B,D]
  ·cases h
 |insert t m k x =>
  simp only[ZE]at h;split at h
  ·rename_i d e W;obtain⟨rfl,I,D,F,A⟩:=ZbD (P:=C.P) E W (j m) (j k) (j x) h;refine ZeH (w':=I.w) ?_ (K _ _ F A (.tuple [] #[] rfl (by simp)));simp[execOp,B,D]
  ·cases h
 |call c =>
  obtain⟨callee,args,argTypes⟩:=c
  cases callee with
  |invoke r m =>
   simp only[ZE]at h;unfold ZlM at h;split at h
   ·rename_i t v0 al;split at h
    ·rename_i f hm;have ae:=j r;rw[al]at ae;generalize am:a.eval r=ru at ae;cases ae with|iface _ _ u hu =>
     have ai:=Ztm (P:=C.P) hm
     have ak:VRel S (.fn (.func f) [v0] []) (.func (.func f) #[u] #[]):=.fn _ _ _ #[u] #[] rfl rfl (fun i x y F hy=>by
      cases i with
      |zero=>simp at F hy;subst F;subst hy;exact hu
      |succ i=>simp at F) (fun i x y F hy=>by simp at F)
     have ah:∀ w:World,(execOp a.eval o).run C.P w=(do let d <-Deferred.ofValue (.func (.func f) #[u] #[]) (args.map a.eval);invoke d.target d.args:Sem Next).run C.P w:=fun w=>by
      simp only[execOp,B,resolve,am];have h0:(#[Value.iface t u]++yY a.eval args)[0]?=some (.iface t u):=by simp[Array.getElem?_append]
      have M:(yY a.eval args).extract 0 args.size=yY a.eval args:=by simp
      have N:∀ w,(program:Sem Program).run C.P w=.ok C.P w:=fun w=>rfl;have T:C.P.types.size+Made.depth=(C.P.types.size+99)+1:=rfl;simp[invoke,callMethod,Deferred.ofValue,h0,M,N,T,Sem.run_bind,Result.andThen_ok,ai]
     rcases ZfP hC aa ak (args':=args.map a.eval) (by simp) (ZaK j args) h E hG with ⟨v',g1,g2,rfl⟩|⟨id,as,M,N⟩
     ·exact Yo (w':=S.w) ((ah S.w).trans g1) (K _ _ (Ext.refl S) E g2)
     unfold Oper.wp;rw[(ah S.w).trans (M S.w)];simp only[Oper.upon];refine N.mono fun e w' T=>?_;obtain⟨v',I,rfl,rfl,F,A,J⟩:=T;exact K v' I F A J
    ·cases h
   ·cases h
  |builtin b =>
   cases b <;> first
    |(simp[ZE]at h;done)
    |skip
   rotate_left
   ·simp only[ZE]at h;split at h
    ·rename_i d x dt xt ha W;obtain rfl:=Xu ha;obtain rfl:=Xu W;split at h
     ·rename_i e U;split at h
      ·rename_i k L;split at h
       ·rename_i O;obtain⟨v',I,D,F,A,J⟩:=ZnP (P:=C.P) (ty:=o.type) (xt:=xt) E O (Tx U) L (j d) (j x) h;refine Yo (w':=I.w) ?_ (K _ _ F A J);simp[execOp,B,resolve,invoke,builtin,D]
       ·cases h
      ·cases h
     ·cases h
    ·cases h
   ·simp only[ZE]at h;split at h
    ·rename_i m k t xt ha W;obtain rfl:=Xu ha;obtain rfl:=Xu W;split at h
     ·rename_i d e ac;obtain⟨rfl,I,D,F,A⟩:=Zl1 (P:=C.P) (xt:=xt) (ty:=o.type) E ac (j m) (j k) h;refine Yo (w':=I.w) ?_ (K _ _ F A (.tuple [] #[] rfl (by simp)));simp[execOp,B,resolve,invoke,builtin,D]
     ·cases h
    ·cases h
   ·simp only[ZE]at h;split at h
    ·rename_i x t ha W;obtain rfl:=Ql ha;obtain rfl:=Ql W;split at h
     ·rename_i p ac;obtain⟨d,e⟩:=p
      cases R:K1 (eval C tm x) H with
      |none=>simp[R]at h
      |some r =>
       simp[R]at h;obtain⟨rfl,rfl⟩:=h;obtain⟨v',D,J⟩:=ZnR (P:=C.P) E ac (j x) R o.type;refine Yo (w':=S.w) ?_ (K _ _ (Ext.refl S) E J);simp[execOp,B,resolve,invoke,builtin,D]
     ·cases h
    ·cases h
   simp only[ZE]at h;split at h
   ·rename_i s x st xt ha W;obtain rfl:=Xu ha;obtain rfl:=Xu W;split at h
    ·rename_i e xd U aj;split at h
     ·cases h
     ·rename_i an;split at h
      ·rename_i k bytes L hb;split at h
       ·rename_i O;simp only[yA,decide_eq_true_eq]at O;obtain⟨O,X⟩:=O;have ab:Xi xd=true:=by simpa using an
        have hz:∃ z,∀ w:World,(zeroValue e).run C.P w=.ok z w/\z.cells.size=k:=by
         unfold Zul at X;split at X
         ·rename_i z hz;simp only[yA,beq_iff_eq]at X;obtain⟨zc,Y,Z⟩:=Uy hz;exact⟨zc,fun w=>⟨Y w,by rw[((Z S).cells X.1).size];exact X.2⟩⟩
         ·cases X
        split at h
        ·rename_i ag aq;unfold GV at h;split at h
         ·rename_i xs af;obtain⟨v',I,D,F,A,J⟩:=ZnK (P:=C.P) (ty:=o.type) E O (Tx U) aj ab L hb hz (j s) (j x) af h;refine Yo (w':=I.w) ?_ (K _ _ F A J);simp[execOp,B,resolve,invoke,builtin,D]
         ·cases h
        unfold Y9 at h;split at h
        ·rename_i xs af;obtain⟨v',I,D,F,A,J⟩:=ZbC (P:=C.P) (ty:=o.type) E O (Tx U) aj ab L hb hz (j s) (j x) af h;refine Yo (w':=I.w) ?_ (K _ _ F A J);simp[execOp,B,resolve,invoke,builtin,D]
        ·cases h
       ·cases h
      ·cases h
    ·cases h
   ·cases h
  |value f =>
   simp only[ZE]at h;rcases ZfP hC aa (j f) (args':=args.map a.eval) (by simp) (ZaK j args) (Zpy h) E hG with ⟨v',g1,g2,rfl⟩|⟨id,as,M,N⟩
   ·refine Yo (w':=S.w) ?_ (K _ _ (Ext.refl S) E g2);simp only[execOp,B,resolve];exact g1
   unfold Oper.wp
   have D:(execOp a.eval o).run C.P S.w=.ok (.enter id as) S.w:=by
    have:=M S.w;simp only[execOp,B,resolve];exact this
   rw[D];simp only[Oper.upon];refine N.mono fun e w' T=>?_;obtain⟨v',I,rfl,rfl,F,A,J⟩:=T;exact K v' I F A J
 |_=>simp[ZE]at h
end
end Go.Am
