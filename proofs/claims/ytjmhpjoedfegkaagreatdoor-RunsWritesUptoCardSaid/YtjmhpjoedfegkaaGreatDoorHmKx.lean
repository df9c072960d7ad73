/- THE ABSTRACT MACHINE -/
import Derived.Test.YtjmhpjoedfegkaaGreatDoorHmMapx
import Derived.Lib.Bytealg
open Option renaming some->Z,none->X
open Bool renaming true->Y
open List renaming length->O
open Go.dw renaming b5->J
open List renaming getElem?_append_left->zC,getElem?_append_right->zF,getElem?_take_of_lt->zL,length_pos_iff->zM,getElem!_eq_getElem?_getD->zO,getElem?_eq_none->zP,length_take->zT,all_eq_true->zU,getElem?_toArray->zZ,getElem?_cons_zero->yF,all_append->yG,getElem?_set_ne->yI,mem_of_mem_take->yJ,range_eq_range'->yK,length_append->yM,range'->yQ,range'_succ->yR,mem_append->yS,length_nil->yT,length_map->yU,find?_cons->yV,replicate->yW
open Nat renaming le_refl->zE,mul_le_mul_right->zG,add_mul->zH,lt_succ_of_lt->zK,le_trans->zN,zero_add->zR,add_zero->zS,lt_or_ge->zV,lt_of_lt_of_le->yB,lt_irrefl->yD,add_assoc->yL,add_comm->yN,succ_le_of_lt->yP,succ_mul->yZ,le_of_eq->xA
open Bool renaming and_eq_true->yA
open Array renaming getElem?_append_left->zD,length_toList->zI,getElem?_toList->zJ,getElem?_append_right->zQ,size_append->zX,getElem?_eq_none->zY,getElem?_extract->yH,map->yY
open Int renaming eq_ofNat_of_zero_le->yE
open UInt8 renaming ofNat->yC
open Option.some renaming injEq->zA
open Prod.mk renaming injEq->zB
open Go.Am.AObj renaming dead->zW
open Go.Am.AV renaming isCell->yO,int->yX
namespace Go.Am
open RowKit
section
variable {P:Program}{S:Snap}{W0:World}{H:Hp}
def Snap.tokn (S:Snap)(n:Nat)(o:Obj)(e hw sz:Nat):Snap :=
 {w:=S.w.alloc o,phi:=S.phi,pub:=λb i=>S.pub b i\/(b=S.w.heap.size/\i<hw),tk:=λt=>if t=n then Z (e,S.w.heap.size,hw,sz) else S.tk t,lim:=S.lim }
structure TokSet (H H':Hp)(n e:Nat):Prop where
 here:H'[n]?=Z (.tok e)
 there:∀ x,x≠n->H'[x]?=H[x]?
 len:O H<=O H'
 nd:H[n]?≠Z .dead
theorem TokSet.new (H:Hp)(e:Nat):TokSet H (H++[.tok e]) (O H) e:=by
 refine⟨dh,λx j=>?_,dh,dh⟩;rcases zV x (O H) with h|h
 ·exact zC h
 ·rw[zP (by simp;omega),zP h]
theorem TokSet.set {n e0 e:Nat}(h:H[n]?=Z (.tok e0)):TokSet H (H.set n (.tok e)) n e:=by
 refine⟨by simp[Zq h],λx j=>yI (Ne.symm j),dh,by rw[h];simp⟩
theorem Ext.tokn (j:Inv W0 S H){n e hw sz:Nat}{o:Obj}(D:∀ e0 B hw0 y,S.tk n=Z (e0,B,hw0,y)->e0<e):Ext S (S.tokn n o e hw sz):=by
 refine⟨⟨λ_ _ h=>h,λb i h=>⟨.inl h,World.cell?_alloc_lt _ _ _ (j.puball b i h)⟩,λt C b u z h=>?_⟩,rfl,λb i E F=>E.elim id λe=>by have:=j.lim;have:=j.below.size;have:=e.1;omega⟩;by_cases A:t=n
 ·subst A;have:=D _ _ _ _ h;exact⟨e,S.w.heap.size,hw,sz,by simp[Snap.tokn],J,λh=>J⟩
 ·exact⟨C,b,u,z,by simp[Snap.tokn,A,h],zE _,λ_=>⟨rfl,rfl,rfl⟩⟩
theorem Inv.tokn (j:Inv W0 S H){H':Hp}{n e hw sz:Nat}{c:Array Value}{el:TypeId}(E:TokSet H H' n e)(he:∀ e0 b0 hw0 af,S.tk n=Z (e0,b0,hw0,af)->e0<e)(ae:c.size=sz)(ab:hw<=sz) :
 Inv W0 (S.tokn n (.cells c el) e hw sz) H':=by
 have F:=Ext.tokn j (o:=.cells c el) (hw:=hw) (sz:=sz) he
 have K:∀ i,hw<=i->¬ (S.tokn n (.cells c el) e hw sz).pub S.w.heap.size i:=by
  rintro i hi (h|⟨_,h⟩)
  ·exact yD _ (j.puball _ i h)
  ·omega
 have u:∀ x,H'[x]?≠Z zW->H[x]?≠Z zW:=λx h=>by
  by_cases R:x=n
  ·subst R;exact E.nd
  ·rwa [E.there x R]at h
 refine⟨j.below.alloc j.size _,λx y h=>?_,λx R=>?_,λo1 o2 b C D T aa=>j.inj o1 o2 b C D (u _ T) (u _ aa),λt t' e1 b N Q e2 ag ah C D=>?_,λt e1 b N Q o h=>?_,λb i h=>?_,λo b h=>?_,λt e1 b N Q h=>?_,j.lim⟩
 ·by_cases A:x=n
  ·subst A;rw[E.here]at h;injection h with h;subst h;exact⟨S.w.heap.size,hw,sz,c,el,(0,0),by simp[Snap.tokn],j.size,heap_alloc_new S.w _,ae,ab,K,λi _ h=>J⟩
  ·rw[E.there x A]at h;refine (j.objs x y h).frame F (λb _ G=>⟨Below.heap_alloc S.w _ b G,λi L=>?_⟩) (by simp[Snap.tokn,A]) rfl;rcases L with L|⟨rfl,_⟩
   ·exact L
   ·exact absurd G (yD _)
 ·have ac:x≠n:=λA=>by subst A;have:=Zq E.here;omega
  obtain⟨p,q⟩:=j.past x (zN E.len R);exact⟨p,by simp[Snap.tokn,ac,q]⟩
 ·by_cases B:t=n
  ·by_cases z:t'=n
   ·rw[B,z]
   ·simp[Snap.tokn,B]at C;simp[Snap.tokn,z]at D;have:=j.tdom _ _ _ _ _ D;omega
  ·by_cases z:t'=n
   ·simp[Snap.tokn,B]at C;simp[Snap.tokn,z]at D;have:=j.tdom _ _ _ _ _ C;omega
   ·simp[Snap.tokn,B]at C;simp[Snap.tokn,z]at D;exact j.tinj _ _ _ _ _ _ _ _ _ C D
 ·by_cases B:t=n
  ·simp[Snap.tokn,B]at h;intro L;have ad:S.phi o=Z b:=L;have:=j.dom o b ad;omega
  ·simp[Snap.tokn,B]at h;exact j.apart _ _ _ _ _ o h
 ·show b<(S.w.alloc _).heap.size;rw[World.size_alloc];rcases h with h|⟨rfl,_⟩
  ·exact zK (j.puball b i h)
  ·exact Nat.lt_succ_self _
 ·show b<(S.w.alloc _).heap.size;rw[World.size_alloc];exact zK (j.dom o b h)
 ·show b<(S.w.alloc _).heap.size;rw[World.size_alloc];by_cases B:t=n
  ·simp[Snap.tokn,B]at h;omega
  ·simp[Snap.tokn,B]at h;exact zK (j.tdom _ _ _ _ _ h)
theorem ZpP {n e k len cap:Nat}{l:du}{c:Array Value}{el:TypeId}(u:len=O l)(A:∀ e∈l,O e.cells=k)(j:(flat l).all yO=Y)
 (h:O l<=cap) (y:c.size=cap*k) (B:∀ (i:Nat) (x:AV) (v:Value),(flat l)[i]?=Z x->c[i]?=Z v->VRel (S.tokn n (.cells c el) e (O l*k) c.size) x v) :
 VRel (S.tokn n (.cells c el) e (O l*k) c.size) (.vs k (.own n e) l) (.slice (Z ⟨S.w.heap.size,0,X⟩) len cap):=by
 subst u;refine MB (S:=S.tokn n (.cells c el) e (O l*k) c.size) (c:=c) (el:=el) (fz:=(0,0)) (heap_alloc_new S.w _) h A j (λi hi=>.inr ⟨rfl,J⟩) ?_ (λi x v hi z=>?_) ?_
 ·rw[zR,y];exact zG k h
 ·rw[zR]at z;exact B i x v hi z
 ·exact⟨e,S.w.heap.size,O l*k,c.size,by simp[Snap.tokn],zE _,λ_ _=>⟨rfl,J,J⟩⟩
theorem ZoU {l xs:du}{old news rest:Array Value}(w:CellsRel S (flat l) old)(u:CellsRel S (flat xs) news)(i:Nat)(x:AV)(v:Value)(h:(flat (l++xs))[i]?=Z x)(j:(old++news++rest)[i]?=Z v):VRel S x v:=by
 rw[aV]at h;have y:=w.size;have A:=u.size;by_cases hi:i<(flat l).length
 ·rw[zC hi]at h;rw[zD (by simp;omega),zD J]at j;exact w.rel i x v h j
 ·rw[zF J]at h;have z:=Zq h;rw[zD (by simp;omega),zQ J]at j;refine u.rel _ x v h ?_;rw[<-j,y]
theorem DA {st xt ty e:TypeId}{xd:TypeDesc}{k n0 y tk:Nat}{u:Value}{base:Option Addr}{cap:Nat}{l xs:du}{H':Hp}{old:Array Value}(hI:Inv W0 S H)
 (ht:P.underlying st=Z (.slice e)) (ac:P.underlying xt=Z xd) (ad:Xl xd=Y) (hs:Xt P e=Z k) (hb:F5 P e=Z y) (hz:∃ z,∀ w:World,(zeroValue e).run P w=.ok z w/\z.cells.size=k)
 (hl:∀ e∈l,O e.cells=k) (A:CellsRel S (flat l) old) (L:(Builtin.firstCells k (O l) (.slice base (O l) cap)).run P S.w.drew=.ok old S.w.drew)
 (hx:∀ e∈xs,O e.cells=k) (aa:∀ w:World,(Builtin.lenOf u).run P w=.ok (O xs) w) {news:Array Value} (j:CellsRel S (flat xs) news) (D:∀ w:World,w.heap=S.w.heap->(Builtin.firstCells k (O xs) u).run P w=.ok news w)
 (K:cap<O l+O xs) (E:Xe (O l+O xs) y=Y) (hH:TokSet H H' tk n0) (he:∀ e0 b0 hw0 Q,S.tk tk=Z (e0,b0,hw0,Q)->e0<n0) :
 ∃ v' S',(Builtin.append_ #[st,xt] ty #[.slice base (O l) cap,u]).run P S.w=.ok v' S'.w/\Ext S S'/\Inv W0 S' H'/\VRel S' (.vs k (.own tk n0) (l++xs)) v':=by
 obtain⟨z,hz⟩:=hz;have B:=Oj (P:=P) (ty:=ty) ht ac ad hs hb (λw=>(hz w).1) (aa S.w) K (of_decide_eq_true E) L (D S.w.drew rfl);have G:=grownCap_ge S.w (O l+O xs) cap e;generalize grownCap S.w (O l+O xs) cap e=C at B G
 have N:(old++news++Builtin.zeroCells z.cells (C-(O l+O xs))).size=C*k:=by
  rw[zX,zX,size_zeroCells,A.size,j.size,Yf hl,Yf hx,(hz S.w).2,<-zH,<-zH];congr 1;omega
 generalize hc:old++news++Builtin.zeroCells z.cells (C-(O l+O xs))=c at B N;have R:=hI.drew;have T:∀ e0 b0 hw0 Q,S.drew.tk tk=Z (e0,b0,hw0,Q)->e0<n0:=he;have ae:∀ e∈l++xs,O e.cells=k:=λe h=>(yS.1 h).elim (hl e) (hx e);have ab:(l++xs).length*k<=c.size:=by rw[N];exact zG k (by simpa using G)
 have F:=Ext.tokn R (o:=.cells c e) (hw:=(l++xs).length*k) (sz:=c.size) T;refine⟨_,S.drew.tokn tk (.cells c e) n0 ((l++xs).length*k) c.size,B,(Ext.drew S).trans F,R.tokn hH T rfl ab,?_⟩;refine ZpP (S:=S.drew) dh ae ?_ (by simpa using G) N (λi x v hi hv=>?_)
 ·rw[aV,yG,A.cell,j.cell];rfl
 ·rw[<-hc]at hv;exact (ZoU (S:=S) A j i x v hi hv).mono ((Ext.drew S).trans F)
def Snap.toki (S:Snap)(n b:Nat)(c:Array Value)(e hw sz:Nat):Snap :=
 {w:=S.w.setRow b c,phi:=S.phi,pub:=λb' i=>S.pub b' i\/(b'=b/\i<hw),tk:=λt=>if t=n then Z (e,b,hw,sz) else S.tk t,lim:=S.lim }
theorem Ext.toki {n b e0 e hw0 hw sz:Nat}{c c':Array Value}{el:TypeId}{fz:Nat×Nat}(K:S.tk n=Z (e0,b,hw0,sz))(L:e0<e)(C:S.w.heap[b]?=Z (.cells c el fz))(z:∀ i,hw0<=i->¬ S.pub b i)
 (G:∀ i,i<hw0->c'[i]?=c[i]?) (D:S.lim<=b):Ext S (S.toki n b c' e hw sz):=by
 refine⟨⟨λ_ _ h=>h,λb' i h=>⟨.inl h,?_⟩,λt F E A B h=>?_⟩,rfl,λb' i z N=>z.elim id λe=>by have:=e.1;omega⟩
 ·by_cases j:b'=b
  ·subst j
   have hi:i<hw0:=by
    rcases zV i hw0 with y|y
    ·exact y
    ·exact absurd h (z i y)
   show (S.w.setRow b' c').cell? _=_;rw[cell_setRow_same S.w b' i c c' el fz C,cell_of_row S.w b' i c el fz C];exact G i hi
  ·exact cell_setRow_other _ _ _ _ j
 ·by_cases u:t=n
  ·subst u;rw[K]at h;simp only[zA,zB]at h;obtain⟨rfl,rfl,rfl,rfl⟩:=h;exact⟨e,b,hw,sz,by simp[Snap.toki],J,λh=>J⟩
  ·exact⟨F,E,A,B,by simp[Snap.toki,u,h],zE _,λ_=>⟨rfl,rfl,rfl⟩⟩
theorem Inv.toki (j:Inv W0 S H){H':Hp}{n b e0 e hw0 hw sz:Nat}{c c':Array Value}{el:TypeId}{fz:Nat×Nat}(L:TokSet H H' n e)(F:S.tk n=Z (e0,b,hw0,sz))(he:e0<e)(hB:W0.heap.size<=b)(hb:S.w.heap[b]?=Z (.cells c el fz))
 (hp:∀ i,hw0<=i->¬ S.pub b i) (hc:∀ i,i<hw0->c'[i]?=c[i]?) (ah:hw0<=hw) (ae:c'.size=sz) (ag:hw<=sz) (ac:ZpX c'.size fz):Inv W0 (S.toki n b c' e hw sz) H':=by
 have N:=Ext.toki (hw:=hw) F he hb hp hc (zN j.lim hB)
 have B:∀ x,H'[x]?≠Z zW->H[x]?≠Z zW:=λx h=>by
  by_cases hx:x=n
  ·subst hx;exact L.nd
  ·rwa [L.there x hx]at h
 refine⟨Below.setRow j.below hB c',λx y h=>?_,λx hx=>?_,λo1 o2 b C E aa ab=>j.inj o1 o2 b C E (B _ aa) (B _ ab),λt t' e1 D R T e2 ak am C E=>?_,λt e1 D R T o h=>?_,λD i h=>?_,λo D h=>?_,λt e1 D R T h=>?_,j.lim⟩
 ·by_cases z:x=n
  ·subst z;rw[L.here]at h;injection h with h;subst h;refine⟨b,hw,sz,c',el,fz,by simp[Snap.toki],hB,setRow_heap S.w b c c' el fz hb,ae,ag,λi hi u=>?_,ac⟩;rcases u with u|⟨_,u⟩
   ·exact hp i J u
   ·omega
  ·rw[L.there x z]at h
   cases y with
   |dead=>trivial
   |_ =>
    refine (j.objs x _ h).frame N (λb' G ai=>?_) (by simp[Snap.toki,z]) rfl
    have Q:b'≠b:=by
     rintro rfl
     rcases G with G|⟨e',aj,al,af⟩
     ·exact j.apart _ _ _ _ _ x F G
     ·exact z (j.tinj _ _ _ _ _ _ _ _ _ af F)
    refine⟨setRow_other _ _ _ _ Q,λi u=>?_⟩;rcases u with u|⟨C,_⟩
    ·exact u
    ·exact absurd C Q
 ·have ad:x≠n:=λz=>by subst z;have:=Zq L.here;omega
  obtain⟨p,q⟩:=j.past x (zN L.len hx);exact⟨p,by simp[Snap.toki,ad,q]⟩
 ·by_cases A:t=n
  ·by_cases K:t'=n
   ·rw[A,K]
   ·simp[Snap.toki,A]at C;simp[Snap.toki,K]at E;obtain⟨_,rfl,_,_⟩:=C;exact absurd (j.tinj _ _ _ _ _ _ _ _ _ E F) K
  ·by_cases K:t'=n
   ·simp[Snap.toki,A]at C;simp[Snap.toki,K]at E;obtain⟨_,rfl,_,_⟩:=E;exact absurd (j.tinj _ _ _ _ _ _ _ _ _ C F) A
   ·simp[Snap.toki,A]at C;simp[Snap.toki,K]at E;exact j.tinj _ _ _ _ _ _ _ _ _ C E
 ·by_cases A:t=n
  ·simp[Snap.toki,A]at h;obtain⟨_,rfl,_,_⟩:=h;exact j.apart _ _ _ _ _ o F
  ·simp[Snap.toki,A]at h;exact j.apart _ _ _ _ _ o h
 ·show D<(S.w.setRow b c').heap.size;rw[size_setRow];rcases h with h|⟨rfl,_⟩
  ·exact j.puball D i h
  ·exact j.tdom _ _ _ _ _ F
 ·show D<(S.w.setRow b c').heap.size;rw[size_setRow];exact j.dom o D h
 ·show D<(S.w.setRow b c').heap.size;rw[size_setRow];by_cases A:t=n
  ·simp[Snap.toki,A]at h;obtain⟨_,rfl,_,_⟩:=h;exact j.tdom _ _ _ _ _ F
  ·simp[Snap.toki,A]at h;exact j.tdom _ _ _ _ _ h
theorem ZfL {st xt ty e:TypeId}{xd:TypeDesc}{k n e0 b off cap:Nat}{u:Value}{l xs:du}{f:Nat->Nat->Value}(hI:Inv W0 S H)
 (ht:P.underlying st=Z (.slice e)) (an:P.underlying xt=Z xd) (E:Xl xd=Y) (hs:Xt P e=Z k)
 (hl:∀ e,e∈l->O e.cells=k/\e.cells.all yO=Y) (ap:O l<=cap)
 (h1:∀ j i,j<O l->i<k->S.w.cell? ⟨b,off+j*k+i,X⟩=Z (f j i)/\S.pub b (off+j*k+i))
 (h2:∀ (j:Nat) (e:AV) (i:Nat) (c:AV),l[j]?=Z e->e.cells[i]?=Z c->VRel S c (f j i))
 (ae:TokOk S k (.own n e0) (O l) b off cap) (hn:H[n]?=Z (.tok e0))
 (hx:∀ e∈xs,O e.cells=k) (ac:∀ w:World,(Builtin.lenOf u).run P w=.ok (O xs) w) {news:Array Value} (h:CellsRel S (flat xs) news) (G:∀ w:World,w.heap=S.w.heap->(Builtin.firstCells k (O xs) u).run P w=.ok news w)
 (D:O l+O xs<=cap) (h0:0<O xs) :
 ∃ v' S',(Builtin.append_ #[st,xt] ty #[.slice (Z ⟨b,off,X⟩) (O l) cap,u]).run P S.w=.ok v' S'.w/\Ext S S'/\Inv W0 S' (H.set n (.tok (e0+O xs)))/\VRel S' (.vs k (.own n (e0+O xs)) (l++xs)) v':=by
 obtain⟨e1,b1,hw,sz,T,aq,ak⟩:=ae;obtain⟨b2,al,ao,c,el,fz,g1,g2,g3,g4,g5,g6,g7⟩:=hI.objs n _ hn;rw[T]at g1;simp only[zA,zB]at g1;obtain⟨q1,q2,q3,q4⟩:=g1;obtain rfl:e0=e1:=q1.symm;obtain rfl:b1=b2:=q2;obtain rfl:hw=al:=q3;obtain rfl:sz=ao:=q4;obtain⟨qb,K,aj⟩:=ak rfl J;obtain rfl:b=b1:=qb;have C:O news.toList=O xs*k:=by rw[zI,h.size,Yf hx]
 have ar:O l*k+O xs*k<=cap*k:=by rw[<-zH];exact zG k D
 have R:=Ro P b (off+O l*k) el fz news.toList 0 c S.w g3 g7 (by rw[C,zS];omega) h.oneCells;rw[zS,C,K]at R;generalize L:(c.toList.take hw++news.toList++c.toList.drop (hw+O xs*k)).toArray=c' at R;have ad:=JK (P:=P) (ty:=ty) (a:=⟨b,off,X⟩) (w':=S.w.setRow b c') ht an E hs (ac S.w) (G S.w rfl) D (by rw[YP,K];exact R)
 have A:∀ i,i<hw->c'[i]?=c[i]?:=λi hi=>by
  rw[<-L,zZ,zC (by simp;omega),zC (by simp;omega),zL hi,zJ]
 have N:∀ i,i<O xs*k->c'[hw+i]?=news[i]?:=λi hi=>by
  rw[<-L,zZ,zC (by simp at C ⊢;omega),zF (by simp;omega)];simp only[zT,zI,zJ];congr 1;omega
 have aa:c'.size=sz:=by
  rw[<-L];simp at C ⊢;omega
 have B:=Ext.toki (S:=S) (n:=n) (e:=e0+O xs) (hw:=hw+O xs*k) T J g3 g6 A (zN hI.lim g2);have af:=hI.toki (e:=e0+O xs) (TokSet.set hn) (hw:=hw+O xs*k) T J g2 g3 g6 A J aa J (by rw[aa,<-g4];exact g7);refine⟨_,S.toki n b c' (e0+O xs) (hw+O xs*k) sz,ad,B,af,?_⟩;have F:(l++xs).length=O l+O xs:=dh
 rw[<-F];have am:∀ e∈xs,e.cells.all yO=Y:=λe y=>IX h.cell y;refine .vs k _ (l++xs) b off cap (λj i=>if j<O l then f j i else news.getD ((j-O l)*k+i) undef) (by rw[F];exact D) (λe y=>?_) (λj i hj hi=>?_) (λj e i x y E=>?_) ?_ X (.inl rfl)
 ·rcases yS.1 y with y|y
  ·exact hl e y
  ·exact⟨hx e y,am e y⟩
 ·by_cases z:j<O l
  ·rw[if_pos z];obtain⟨p,q⟩:=h1 j i z hi;obtain⟨q',p'⟩:=B.pub _ _ q;exact⟨p'.trans p,q'⟩
  ·rw[if_neg z];have Q:j-O l<O xs:=by rw[F]at hj;omega
   have ab:(j-O l)*k+i<O xs*k:=by
    have:=zG k (yP Q);rw[yZ]at this;omega
   have ah:off+j*k+i=hw+((j-O l)*k+i):=by
    have:j*k=O l*k+(j-O l)*k:=by rw[<-zH];congr 1;omega
    omega
   refine⟨?_,.inr ⟨rfl,J⟩⟩;show (S.w.setRow b c').cell? _=_;rw[cell_setRow_same S.w b _ c c' el fz g3,ah,N _ ab];have:(j-O l)*k+i<news.size:=by simp at C;omega
   simp[this]
 ·by_cases z:j<O l
  ·rw[if_pos z];rw[zC z]at y;exact (h2 j e i x y E).mono B
  ·rw[if_neg z];rw[zF J]at y;have ag:i<k:=by rw[<-hx e (List.mem_of_getElem? y)];exact Zq E
   have Q:=Zq y
   have ab:(j-O l)*k+i<O xs*k:=by
    have:=zG k (yP Q);rw[yZ]at this;omega
   have ai:(j-O l)*k+i<news.size:=by simp at C;omega
   refine (h.rel ((j-O l)*k+i) x _ ?_ ?_).mono B
   ·rw[Kh hx _ _ e y ag];exact E
   ·simp[ai]
 ·refine⟨e0+O xs,b,hw+O xs*k,sz,by simp[Snap.toki],zE _,λ_ _=>⟨rfl,?_,aj⟩⟩;rw[F,zH];omega
theorem mO {st xt ty e:TypeId}{xd:TypeDesc}{k E:Nat}{s x r:AV}{us u:Value}{xs:du}{H':Hp}(F:Inv W0 S H)(ab:0<k)
 (T:P.underlying st=Z (.slice e)) (C:P.underlying xt=Z xd) (D:Xl xd=Y) (R:Xt P e=Z k) (hb:F5 P e=Z E) (hz:∃ z,∀ w:World,(zeroValue e).run P w=.ok z w/\z.cells.size=k)
 (ad:VRel S s us) (ai:VRel S x u) (ag:elems k x H=Z xs) (h:YR k E s xs H=Z (r,H')) :
 ∃ v' S',(Builtin.append_ #[st,xt] ty #[us,u]).run P S.w=.ok v' S'.w/\Ext S S'/\Inv W0 S' H'/\VRel S' r v':=by
 obtain⟨hx,A,news,y,j⟩:=G3 (P:=P) F ab ai ag;unfold YR at h;split at h
 ·cases ad with|nils =>
  split at h
  ·rename_i B;subst B;simp only[zA,zB]at h;obtain⟨rfl,rfl⟩:=h;exact⟨_,S,Sp (P:=P) (ty:=ty) T C D R (A S.w) (j S.w rfl),Ext.refl S,F,.nils⟩
  ·rename_i B;split at h
   ·rename_i hf;simp only[zA,zB]at h;obtain⟨rfl,rfl⟩:=h;have K:0<O xs:=zM.2 B
    have:=DA (P:=P) (ty:=ty) (S:=S) (base:=X) (cap:=0) (l:=[]) (old:=#[]) (n0:=O xs) (tk:=O H) (H':=H++[.tok (O xs)]) F T C D R hb hz dh ⟨rfl,by simp[flat],rfl⟩ rfl hx A y j
     (by simpa using K) (by simpa using hf) (TokSet.new H _) (λe0 b0 hw0 ae h=>by rw[(F.past _ (zE _)).2]at h;cases h)
    simpa using this
   ·cases h
 ·rename_i k' tok l;split at h
  ·rename_i hc;obtain⟨ah,hf⟩:=hc;obtain rfl:k=k':=ah.symm;cases ad with|vs _ _ _ b off cap f hcap hl h1 h2 htok sp hsp =>
   have ac:∀ e∈l,O e.cells=k:=λe he=>(hl e he).1;have N:elems k (.vs k tok l) H=Z l:=by simp[elems]
   obtain⟨_,_,old,L,G⟩:=G3 (P:=P) F ab (.vs k tok l b off cap f hcap hl h1 h2 htok sp hsp) N;split at h
   ·rename_i B;subst B;simp only[zA,zB]at h;obtain⟨rfl,rfl⟩:=h;refine⟨_,S,JK (P:=P) (ty:=ty) (news:=news) (m:=0) (w':=S.w) T C D R (A S.w) (j S.w rfl) J ?_,Ext.refl S,F,?_⟩
    ·have:news=#[]:=by
      have:=y.size;simp[flat]at this;exact this
     subst this;rfl
    ·exact .vs k tok l b off cap f hcap hl h1 h2 htok sp hsp
   ·rename_i B;have K:0<O xs:=zM.2 B;split at h
    ·simp only[zA,zB]at h;obtain⟨rfl,rfl⟩:=h;have aj:cap=O l:=htok
     exact DA (P:=P) (ty:=ty) (S:=S) (base:=Z ⟨b,off,sp⟩) (cap:=cap) F T C D R hb hz ac L (G S.w.drew rfl) hx A y j
      J hf (TokSet.new H _) (λe0 b0 hw0 ae h=>by rw[(F.past _ (zE _)).2]at h;cases h)
    ·rename_i t e0;split at h
     ·rename_i e1 Q;split at h
      ·rename_i af;subst af;simp only[zA,zB]at h;obtain⟨rfl,rfl⟩:=h;by_cases aa:O l+O xs<=cap
       ·obtain rfl:sp=X:=hsp.resolve_right J;exact ZfL (P:=P) (ty:=ty) F T C D R hl hcap h1 h2 htok Q hx A y j aa K
       ·refine DA (P:=P) (ty:=ty) (S:=S) (base:=Z ⟨b,off,sp⟩) (cap:=cap) F T C D R hb hz ac L (G S.w.drew rfl) hx A y j
         J hf (TokSet.set Q) (λe0 b0 hw0 ae h=>?_)
        obtain⟨b2,ak,al,c,el,fz,g1,_⟩:=F.objs t _ Q;rw[g1]at h;simp only[zA,zB]at h;omega
      ·cases h
     ·cases h
    ·cases h
  ·cases h
 ·cases h
structure RowSet (H H':Hp)(n:Nat)(x:AObj):Prop where
 here:H'[n]?=Z x
 there:∀ y,y≠n->H'[y]?=H[y]?
 len:O H<=O H'
 nd:H[n]?≠Z .dead
 xd:x≠.dead
theorem RowSet.new (H:Hp)(e:Nat)(l:du):RowSet H (H++[.row e l]) (O H) (.row e l):=by
 refine⟨dh,λx j=>?_,dh,dh,dh⟩;rcases zV x (O H) with h|h
 ·exact zC h
 ·rw[zP (by simp;omega),zP h]
theorem RowSet.set {n e0 e:Nat}{u l:du}(h:H[n]?=Z (.row e0 u)):RowSet H (H.set n (.row e l)) n (.row e l):=by
 refine⟨by simp[Zq h],λx j=>yI (Ne.symm j),dh,by rw[h];simp,dh⟩
def Snap.rown (S:Snap)(n:Nat)(o:Obj)(e hw sz:Nat):Snap :=
 {w:=S.w.alloc o,phi:=S.phi,pub:=S.pub,tk:=λt=>if t=n then Z (e,S.w.heap.size,hw,sz) else S.tk t,lim:=S.lim }
theorem Ext.rown (C:Inv W0 S H){n e hw sz:Nat}{o:Obj}(D:∀ e0 A hw0 u,S.tk n=Z (e0,A,hw0,u)->e0<e):Ext S (S.rown n o e hw sz):=by
 refine⟨⟨λ_ _ h=>h,λb i h=>⟨h,World.cell?_alloc_lt _ _ _ (C.puball b i h)⟩,λt B b j y h=>?_⟩,rfl,λb i E _=>E⟩;by_cases z:t=n
 ·subst z;have:=D _ _ _ _ h;exact⟨e,S.w.heap.size,hw,sz,by simp[Snap.rown],J,λh=>J⟩
 ·exact⟨B,b,j,y,by simp[Snap.rown,z,h],zE _,λ_=>⟨rfl,rfl,rfl⟩⟩
theorem Inv.rown (j:Inv W0 S H){H':Hp}{n e hw sz:Nat}{o:Obj}{x:AObj}(F:RowSet H H' n x)(he:∀ e0 b0 hw0 ac,S.tk n=Z (e0,b0,hw0,ac)->e0<e)(G:ORel (S.rown n o e hw sz) W0.heap.size n x) :
 Inv W0 (S.rown n o e hw sz) H':=by
 have K:=Ext.rown j (o:=o) (hw:=hw) (sz:=sz) he
 have u:∀ x,H'[x]?≠Z zW->H[x]?≠Z zW:=λx h=>by
  by_cases G:x=n
  ·subst G;exact F.nd
  ·rwa [F.there x G]at h
 refine⟨j.below.alloc j.size _,λy z h=>?_,λx G=>?_,λo1 o2 b D E Q R=>j.inj o1 o2 b D E (u _ Q) (u _ R),λt t' e1 b L N e2 ad ae D E=>?_,λt e1 b L N o h=>?_,λb i h=>?_,λo b h=>?_,λt e1 b L N h=>?_,j.lim⟩
 ·by_cases B:y=n
  ·subst B;rw[F.here]at h;injection h with h;subst h;exact G
  ·rw[F.there y B]at h;exact (j.objs y z h).frame K (λb _ T=>⟨Below.heap_alloc S.w _ b T,λi hp=>hp⟩) (by simp[Snap.rown,B]) rfl
 ·have aa:x≠n:=λB=>by subst B;have:=Zq F.here;omega
  obtain⟨p,q⟩:=j.past x (zN F.len G);exact⟨p,by simp[Snap.rown,aa,q]⟩
 ·by_cases C:t=n
  ·by_cases A:t'=n
   ·rw[C,A]
   ·simp[Snap.rown,C]at D;simp[Snap.rown,A]at E;have:=j.tdom _ _ _ _ _ E;omega
  ·by_cases A:t'=n
   ·simp[Snap.rown,C]at D;simp[Snap.rown,A]at E;have:=j.tdom _ _ _ _ _ D;omega
   ·simp[Snap.rown,C]at D;simp[Snap.rown,A]at E;exact j.tinj _ _ _ _ _ _ _ _ _ D E
 ·by_cases C:t=n
  ·simp[Snap.rown,C]at h;intro hp;have ab:S.phi o=Z b:=hp;have:=j.dom o b ab;omega
  ·simp[Snap.rown,C]at h;exact j.apart _ _ _ _ _ o h
 ·show b<(S.w.alloc _).heap.size;rw[World.size_alloc];exact zK (j.puball b i h)
 ·show b<(S.w.alloc _).heap.size;rw[World.size_alloc];exact zK (j.dom o b h)
 ·show b<(S.w.alloc _).heap.size;rw[World.size_alloc];by_cases C:t=n
  ·simp[Snap.rown,C]at h;omega
  ·simp[Snap.rown,C]at h;exact zK (j.tdom _ _ _ _ _ h)
def Snap.rowi (S:Snap)(n b:Nat)(c:Array Value)(e hw sz:Nat):Snap :=
 {w:=S.w.setRow b c,phi:=S.phi,pub:=S.pub,tk:=λt=>if t=n then Z (e,b,hw,sz) else S.tk t,lim:=S.lim }
theorem Ext.rowi {n b e0 e hw0 hw sz:Nat}{c':Array Value}(C:S.tk n=Z (e0,b,hw0,sz))(D:e0<e)(w:∀ i,¬ S.pub b i):Ext S (S.rowi n b c' e hw sz):=by
 refine⟨⟨λ_ _ h=>h,λb' i h=>⟨h,?_⟩,λt B A y z h=>?_⟩,rfl,λb' i w _=>w⟩
 ·by_cases j:b'=b
  ·subst j;exact absurd h (w i)
  ·exact cell_setRow_other _ _ _ _ j
 ·by_cases u:t=n
  ·subst u;rw[C]at h;simp only[zA,zB]at h;obtain⟨rfl,rfl,rfl,rfl⟩:=h;exact⟨e,b,hw,sz,by simp[Snap.rowi],J,λh=>J⟩
  ·exact⟨B,A,y,z,by simp[Snap.rowi,u,h],zE _,λ_=>⟨rfl,rfl,rfl⟩⟩
theorem Inv.rowi (j:Inv W0 S H){H':Hp}{n b e0 e hw0 hw sz:Nat}{c':Array Value}{x:AObj}(K:RowSet H H' n x)(F:S.tk n=Z (e0,b,hw0,sz))(he:e0<e)(hB:W0.heap.size<=b)
 (hp:∀ i,¬ S.pub b i) (L:ORel (S.rowi n b c' e hw sz) W0.heap.size n x):Inv W0 (S.rowi n b c' e hw sz) H':=by
 have N:=Ext.rowi (c':=c') (hw:=hw) F he hp
 have A:∀ x,H'[x]?≠Z zW->H[x]?≠Z zW:=λx h=>by
  by_cases L:x=n
  ·subst L;exact K.nd
  ·rwa [K.there x L]at h
 refine⟨Below.setRow j.below hB c',λx y h=>?_,λx L=>?_,λo1 o2 b C D T aa=>j.inj o1 o2 b C D (A _ T) (A _ aa),λt t' e1 B Q R e2 ah aj C D=>?_,λt e1 B Q R o h=>?_,λB i h=>?_,λo B h=>?_,λt e1 B Q R h=>?_,j.lim⟩
 ·by_cases u:x=n
  ·subst u;rw[K.here]at h;injection h with h;subst h;exact L
  ·rw[K.there x u]at h
   cases y with
   |dead=>trivial
   |_ =>
    refine (j.objs x _ h).frame N (λb' E af=>?_) (by simp[Snap.rowi,u]) rfl
    have ab:b'≠b:=by
     rintro rfl
     rcases E with E|⟨e',ag,ai,ae⟩
     ·exact j.apart _ _ _ _ _ x F E
     ·exact u (j.tinj _ _ _ _ _ _ _ _ _ ae F)
    exact⟨setRow_other _ _ _ _ ab,λi ad=>ad⟩
 ·have ac:x≠n:=λu=>by subst u;have:=Zq K.here;omega
  obtain⟨p,q⟩:=j.past x (zN K.len L);exact⟨p,by simp[Snap.rowi,ac,q]⟩
 ·by_cases z:t=n
  ·by_cases G:t'=n
   ·rw[z,G]
   ·simp[Snap.rowi,z]at C;simp[Snap.rowi,G]at D;obtain⟨_,rfl,_,_⟩:=C;exact absurd (j.tinj _ _ _ _ _ _ _ _ _ D F) G
  ·by_cases G:t'=n
   ·simp[Snap.rowi,z]at C;simp[Snap.rowi,G]at D;obtain⟨_,rfl,_,_⟩:=D;exact absurd (j.tinj _ _ _ _ _ _ _ _ _ C F) z
   ·simp[Snap.rowi,z]at C;simp[Snap.rowi,G]at D;exact j.tinj _ _ _ _ _ _ _ _ _ C D
 ·by_cases z:t=n
  ·simp[Snap.rowi,z]at h;obtain⟨_,rfl,_,_⟩:=h;exact j.apart _ _ _ _ _ o F
  ·simp[Snap.rowi,z]at h;exact j.apart _ _ _ _ _ o h
 ·show B<(S.w.setRow b c').heap.size;rw[size_setRow];exact j.puball B i h
 ·show B<(S.w.setRow b c').heap.size;rw[size_setRow];exact j.dom o B h
 ·show B<(S.w.setRow b c').heap.size;rw[size_setRow];by_cases z:t=n
  ·simp[Snap.rowi,z]at h;obtain⟨_,rfl,_,_⟩:=h;exact j.tdom _ _ _ _ _ F
  ·simp[Snap.rowi,z]at h;exact j.tdom _ _ _ _ _ h
theorem P5 {st xt ty e:TypeId}{xd:TypeDesc}{k n0 A tk:Nat}{u:Value}{base:Option Addr}{len cap:Nat}{lc:du}{xs:du}{ag:Bool}{H':Hp}{old:Array Value}(hI:Inv W0 S H)
 (ht:P.underlying st=Z (.slice e)) (ae:P.underlying xt=Z xd) (af:Xl xd=Y) (hs:Xt P e=Z k) (hb:F5 P e=Z A) (hz:∃ z,∀ w:World,(zeroValue e).run P w=.ok z w/\z.cells.size=k)
 (hl:O lc=len*k) (j:CellsRel S lc old) (N:(Builtin.firstCells k len (.slice base len cap)).run P S.w.drew=.ok old S.w.drew)
 (hx:∀ e∈xs,O e.cells=k) (ab:∀ w:World,(Builtin.lenOf u).run P w=.ok (O xs) w) {news:Array Value} (y:CellsRel S (flat xs) news) (E:∀ w:World,w.heap=S.w.heap->(Builtin.firstCells k (O xs) u).run P w=.ok news w)
 (L:cap<len+O xs) (F:Xe (len+O xs) A=Y) (hH:RowSet H H' tk (.row n0 (lc++flat xs))) (he:∀ e0 b0 hw0 R,S.tk tk=Z (e0,b0,hw0,R)->e0<n0) :
 ∃ v' S',(Builtin.append_ #[st,xt] ty #[.slice base len cap,u]).run P S.w=.ok v' S'.w/\Ext S S'/\Inv W0 S' H'/\VRel S' (.ws ag k tk n0 (len+O xs)) v':=by
 obtain⟨z,hz⟩:=hz;have B:=Oj (P:=P) (ty:=ty) ht ae af hs hb (λw=>(hz w).1) (ab S.w) L (of_decide_eq_true F) N (E S.w.drew rfl);have K:=grownCap_ge S.w (len+O xs) cap e;generalize grownCap S.w (len+O xs) cap e=C at B K
 have Q:(old++news++Builtin.zeroCells z.cells (C-(len+O xs))).size=C*k:=by
  rw[zX,zX,size_zeroCells,j.size,y.size,hl,Yf hx,(hz S.w).2,<-zH,<-zH];congr 1;omega
 generalize hc:old++news++Builtin.zeroCells z.cells (C-(len+O xs))=c at B Q;have D:=hI.drew;have T:∀ e0 b0 hw0 R,S.drew.tk tk=Z (e0,b0,hw0,R)->e0<n0:=he;have ac:(lc++flat xs).length=(len+O xs)*k:=by rw[yM,hl,Yf hx,zH]
 have ad:(lc++flat xs).length<=c.size:=by rw[Q,ac];exact zG k K
 have G:=Ext.rown D (o:=.cells c e) (hw:=(lc++flat xs).length) (sz:=c.size) T;refine⟨_,S.drew.rown tk (.cells c e) n0 (lc++flat xs).length c.size,B,(Ext.drew S).trans G,D.rown hH T ?_,?_⟩
 ·refine⟨S.drew.w.heap.size,c.size,c,e,(0,0),by simp[Snap.rown],D.size,heap_alloc_new S.drew.w _,rfl,ad,λi x v hi hv=>?_,λi hp=>absurd (D.puball _ i hp) (yD _),by rw[yG,j.cell,y.cell];rfl,λi _ h=>Nat.not_lt_zero _ h.2⟩;refine VRel.mono ((Ext.drew S).trans G) ?_;rw[<-hc]at hv;by_cases aa:i<O lc
  ·rw[zC aa]at hi;rw[zD (by simp[j.size];omega),zD (by rw[j.size];exact aa)]at hv;exact j.rel i x v hi hv
  ·rw[zF J]at hi;have ah:=Zq hi;rw[zD (by simp[j.size,y.size];omega),zQ (by rw[j.size];omega)]at hv;exact y.rel _ x v hi (by rw[<-hv,j.size])
 ·refine .ws ag k tk n0 _ C S.drew.w.heap.size ⟨n0,S.drew.w.heap.size,(lc++flat xs).length,c.size,by simp[Snap.rown],zE _,λ_=>⟨rfl,xA ac.symm,by rw[Q];exact zE _⟩⟩ K
theorem ZjG {st xt ty e:TypeId}{xd:TypeDesc}{k n e0 b len cap:Nat}{u:Value}{lc xs:du}{ag:Bool}(hI:Inv W0 S H)
 (ht:P.underlying st=Z (.slice e)) (ad:P.underlying xt=Z xd) (ae:Xl xd=Y) (hs:Xt P e=Z k)
 (hr:RowOk S n e0 b (len*k) (cap*k)) {l0:du} (hn:H[n]?=Z (.row e0 l0)) (D:lc=l0.take (len*k)) (hl:O lc=len*k)
 (T:∀ e∈xs,O e.cells=k) (N:∀ w:World,(Builtin.lenOf u).run P w=.ok (O xs) w) {news:Array Value} (h:CellsRel S (flat xs) news) (y:∀ w:World,w.heap=S.w.heap->(Builtin.firstCells k (O xs) u).run P w=.ok news w)
 (j:len+O xs<=cap) :
 ∃ v' S',(Builtin.append_ #[st,xt] ty #[.slice (Z ⟨b,0,X⟩) len cap,u]).run P S.w=.ok v' S'.w/\Ext S S'/\Inv W0 S' (H.set n (.row (e0+1) (lc++flat xs)))/\VRel S' (.ws ag k n (e0+1) (len+O xs)) v':=by
 obtain⟨e1,b1,hw,sz,ab,af,ac⟩:=hr;obtain⟨b2,A,c,el,fz,g1,g2,g3,g4,g5,g6,g7,g8,g9⟩:=hI.objs n _ hn;have C:=g1;rw[ab]at C;simp only[zA,zB]at C;obtain⟨q1,q2,q3,q4⟩:=C;obtain⟨r1,r2,r3⟩:=ac q1.symm;obtain rfl:b=b2:=r1.trans q2
 have g6:∀ i x v,lc[i]?=Z x->c[i]?=Z v->VRel S x v:=λi x v hi G=>by
  rw[D]at hi;have E:=Zq hi;rw[zT]at E;rw[zL J]at hi;exact g6 i x v hi G
 have g8:lc.all yO=Y:=by rw[D];exact zU.2 λx T=>zU.1 g8 x (yJ T)
 have ai:O lc<=O l0:=by rw[D,zT];omega
 have z:O news.toList=O xs*k:=by rw[zI,h.size,Yf T]
 have ah:len*k+O xs*k<=cap*k:=by rw[<-zH];exact zG k j
 have F:=Ro P b (len*k) el fz news.toList 0 c S.w g3 g9 (by rw[z,zS];omega) h.oneCells;rw[zS,z]at F;generalize K:(c.toList.take (len*k)++news.toList++c.toList.drop (len*k+O xs*k)).toArray=c' at F;have R:=JK (P:=P) (ty:=ty) (a:=⟨b,0,X⟩) (w':=S.w.setRow b c') ht ad ae hs (N S.w) (y S.w rfl) j (by rw[YP,zR];exact F)
 have L:c'.size=A:=by
  rw[<-K];simp at z ⊢;omega
 have Q:(lc++flat xs).length=(len+O xs)*k:=by rw[yM,hl,Yf T,zH]
 have B:=Ext.rowi (S:=S) (n:=n) (e:=e0+1) (c':=c') (hw:=(lc++flat xs).length) g1 J g7;refine⟨_,S.rowi n b c' (e0+1) (lc++flat xs).length A,R,B,hI.rowi (RowSet.set hn) g1 J g2 g7 ?_,?_⟩
 ·refine⟨b,A,c',el,fz,by simp[Snap.rowi],g2,setRow_heap S.w b c c' el fz g3,L,by rw[Q,zH];omega,λi x v hi G=>?_,g7,by rw[yG,g8,h.cell];rfl,by rw[L,<-g4];exact g9⟩;refine VRel.mono B ?_;rw[<-K,zZ]at G;by_cases aa:i<O lc
  ·rw[zC aa]at hi;rw[zC (by simp;omega),zC (by simp;omega),zL J,zJ]at G;exact g6 i x v hi G
  ·rw[zF J]at hi;have E:=Zq hi;rw[Yf T]at E;rw[zC (by simp at z ⊢;omega),zF (by simp;omega)]at G;refine h.rel _ x v hi ?_;rw[<-G,zJ];congr 1;simp;omega
 ·exact .ws ag k n (e0+1) _ cap b ⟨e0+1,b,(lc++flat xs).length,A,by simp[Snap.rowi],zE _,λ_=>⟨rfl,xA Q.symm,J⟩⟩ j
theorem Zoe {st xt ty e:TypeId}{xd:TypeDesc}{ag:Bool}{k K:Nat}{s x r:AV}{us u:Value}{xs:du}{H':Hp}(G:Inv W0 S H)(aa:0<k)
 (ht:P.underlying st=Z (.slice e)) (D:P.underlying xt=Z xd) (E:Xl xd=Y) (hs:Xt P e=Z k) (hb:F5 P e=Z K) (hz:∃ z,∀ w:World,(zeroValue e).run P w=.ok z w/\z.cells.size=k)
 (Q:VRel S s us) (al:VRel S x u) (aj:elems k x H=Z xs) (h:BF ag k K s xs H=Z (r,H')) :
 ∃ v' S',(Builtin.append_ #[st,xt] ty #[us,u]).run P S.w=.ok v' S'.w/\Ext S S'/\Inv W0 S' H'/\VRel S' r v':=by
 obtain⟨hx,B,news,A,y⟩:=G3 (P:=P) G aa al aj;have T:∀ l:du,(l.map AV.cells).flatten=flat l:=λl=>rfl;unfold BF at h;split at h
 ·cases Q with|nils =>
  split at h
  ·rename_i C;subst C;simp only[zA,zB]at h;obtain⟨rfl,rfl⟩:=h;exact⟨_,S,Sp (P:=P) (ty:=ty) ht D E hs (B S.w) (y S.w rfl),Ext.refl S,G,.nils⟩
  ·rename_i C;split at h
   ·rename_i hf;simp only[zA,zB]at h;obtain⟨rfl,rfl⟩:=h;have N:0<O xs:=zM.2 C
    have:=P5 (P:=P) (ty:=ty) (S:=S) (base:=X) (len:=0) (cap:=0) (lc:=[]) (old:=#[]) (n0:=0) (tk:=O H) (ag:=ag) (H':=H++[.row 0 (flat xs)]) G ht D E hs hb hz dh ⟨rfl,dh,rfl⟩ rfl hx B A y
     (by simpa using N) (by simpa using hf) (by simpa using RowSet.new H 0 (flat xs)) (λe0 b0 hw0 ah h=>by rw[(G.past _ (zE _)).2]at h;cases h)
    simpa[T]using this
   ·cases h
 ·rename_i k' l;split at h
  ·rename_i hc;obtain⟨ab,hf⟩:=hc;obtain rfl:k=k':=ab.symm;have ae:elems k (.vs k .clip l) H=Z l:=by simp[elems]
   obtain⟨an,_,old,F,ad⟩:=G3 (P:=P) G aa Q ae;cases Q with|vs _ _ _ b off cap f hcap hl h1 h2 htok sp hsp =>
   split at h
   ·rename_i C;subst C;simp only[zA,zB]at h;obtain⟨rfl,rfl⟩:=h;refine⟨_,S,JK (P:=P) (ty:=ty) (news:=news) (m:=0) (w':=S.w) ht D E hs (B S.w) (y S.w rfl) J ?_,Ext.refl S,G,?_⟩
    ·have:news=#[]:=by
      have:=A.size;simp[flat]at this;exact this
     subst this;rfl
    ·exact .vs k .clip l b off cap f hcap hl h1 h2 htok sp hsp
   ·rename_i C;have N:0<O xs:=zM.2 C;simp only[zA,zB]at h;obtain⟨rfl,rfl⟩:=h;have aq:cap=O l:=htok
    have:=P5 (P:=P) (ty:=ty) (S:=S) (base:=Z ⟨b,off,sp⟩) (len:=O l) (cap:=cap) (lc:=flat l) (n0:=0) (tk:=O H) (ag:=ag) (H':=H++[.row 0 (flat l++flat xs)]) G ht D E hs hb hz (Yf an) F (ad S.w.drew rfl) hx B A y
     J hf (RowSet.new H 0 _) (λe0 b0 hw0 ah h=>by rw[(G.past _ (zE _)).2]at h;cases h)
    simpa[T,aV]using this
  ·cases h
 ·rename_i ai k' o e0 len;split at h
  ·rename_i hc;obtain⟨rfl,ab,hf⟩:=hc;obtain rfl:k=k':=ab.symm;cases Q with|ws _ _ _ _ _ cap b hr hcap =>
   split at h
   ·rename_i C;subst C;simp only[zA,zB]at h;obtain⟨rfl,rfl⟩:=h;refine⟨_,S,JK (P:=P) (ty:=ty) (news:=news) (m:=0) (w':=S.w) ht D E hs (B S.w) (y S.w rfl) J ?_,Ext.refl S,G,?_⟩
    ·have:news=#[]:=by
      have:=A.size;simp[flat]at this;exact this
     subst this;rfl
    ·exact .ws _ k o e0 len cap b hr hcap
   ·rename_i C;have N:0<O xs:=zM.2 C;split at h
    ·rename_i e1 l0 af;split at h
     ·rename_i am;obtain⟨rfl,ap⟩:=am;simp only[zA,zB,ZcB]at h;obtain⟨rfl,rfl⟩:=h;generalize L:l0.take (len*k)=lc;have ac:O lc=len*k:=by rw[<-L,zT];omega
      by_cases ak:len+O xs<=cap
      ·have:=ZjG (P:=P) (ty:=ty) (ag:=ai) G ht D E hs hr af L.symm ac hx B A y ak;simpa[T]using this
      ·obtain⟨b2,aw,c,el,fz,g1,g2,g3,g4,g5,g6,g7,g8,g9⟩:=G.objs o _ af;obtain⟨e2,b0,hw0,ah,q1,q2,q3⟩:=hr;rw[g1]at q1;simp only[zA,zB]at q1;obtain⟨u1,u2,u3,u4⟩:=q1;obtain⟨w1,w2,w3⟩:=q3 u1;obtain rfl:b=b2:=w1.trans u2.symm;have ar:O lc<=O l0:=by rw[<-L,zT];omega
       have F:CellsRel S lc (c.extract 0 (O lc)):=by
        refine⟨by simp;omega,λi x v hi R=>?_,by rw[<-L];exact zU.2 λx hx=>zU.1 g8 x (yJ hx)⟩;rw[yH]at R;split at R
        ·rw[zR]at R;have au:=Zq hi;rw[<-L,zL J]at hi;exact g6 i x v hi R
        ·cases R
       have:=P5 (P:=P) (ty:=ty) (S:=S) (base:=Z ⟨b,0,X⟩) (len:=len) (cap:=cap) (lc:=lc) (old:=c.extract 0 (O lc)) (n0:=e1+1) (tk:=o) (ag:=ai) (H':=H.set o (.row (e1+1) (lc++flat xs))) G ht D E hs hb hz ac F ?_ hx B A y
        J hf (RowSet.set af) (λe0 b0 hw0 ah h=>by
         rw[g1]at h;simp only[zA,zB]at h;omega)
       ·simpa[T]using this
       ·simp only[Builtin.firstCells]
        have hl:=run_loadCells_list (P:=P) S.w.drew ⟨b,0,X⟩ (c.extract 0 (O lc)).toList (λj v R=>by
         have hd:S.w.drew.heap=S.w.heap:=rfl;rw[cell_of_heap hd,YP,cell_of_row S.w b _ c el fz g3];rw[zJ,yH]at R;split at R
         ·exact R
         ·cases R)
        have ao:(c.extract 0 (O lc)).toList.length=len*k:=by rw[zI,F.size];exact ac
        rw[ao,Array.toArray_toList]at hl;exact hl
     ·cases h
    ·cases h
  ·cases h
 ·exact mO G aa ht D E hs hb hz Q al aj h
theorem Zsn {t:TypeId}{z:AV}{i:TypeInfo}(h:KK P t=Z z)(hi:P.info? t=Z i):∃ j,i.zero=Z j/\∀ S:Snap,VRel S z j:=by
 unfold KK at h;simp only[hi]at h
 cases u:i.zero with
 |none=>simp[u]at h
 |some j=>simp[u]at h;subst h;exact⟨j,rfl,λS=>E4 3 j⟩
theorem Zom {t e:TypeId}{k j:Nat}{ag:Bool}{z len cap r:AV}{ul uc:Value}{H':Hp}(E:Inv W0 S H)(ht:P.underlying t=Z (.slice e))(hs:Xt P e=Z k)(hb:F5 P e=Z j)(hz:KK P e=Z z)
 (hl:VRel S len ul) (hc:VRel S cap uc) (h:K8 k j ag z len cap H=Z (r,H')):∃ v' S',(Instr.makeSlice t ul uc).run P S.w=.ok v' S'.w/\Ext S S'/\Inv W0 S' H'/\VRel S' r v':=by
 unfold K8 at h;split at h
 ·rename_i n c;split at h
  ·rename_i B;obtain⟨h0,L,ai,R,ah,K⟩:=B;cases hl with|int _ _ =>
   cases hc with|int _ _ =>
   obtain⟨i,hi,ae,_⟩:=ZiD hb S.w;obtain⟨D,aj,ak⟩:=Zsn hz hi;subst ae
   have af:i.size=k:=by
    unfold Xt at hs;simpa[hi]using hs
   subst af;obtain⟨N,rfl⟩:=yE h0;obtain⟨C,rfl⟩:=yE (Int.le_trans h0 L);have u:C*(i.bytes+1)<=140737488355328:=of_decide_eq_true K;have al:C*i.bytes<=140737488355328:=zN (Nat.mul_le_mul_left _ (Nat.le_succ _)) u;have an:C<=140737488355328:=zN (Nat.le_mul_of_pos_right _ (Nat.succ_pos _)) u;have ab:N<=C:=J
   have ac:(i.bytes:Int)*(C:Int)<=281474976710656:=by
    have:((C*i.bytes:Nat):Int)<=140737488355328:=J
    rw[Int.natCast_mul]at this;rw[Int.mul_comm];omega
   have y:=run_make (P:=P) S.w t e i D ht hi aj .i64 .i64 (N:Int) (C:Int) h0 L ac J;have A:CellsRel S (flat (yW C z)) (madeCells D.cells (C*i.size)):=ZeK (S:=S) (ak S) ai R ah C;simp only[Int.toNat_natCast]at y h;have G:∀ e∈yW C z,O e.cells=i.size:=λe he=>by rw[List.eq_of_mem_replicate he];exact R
   have ad:(madeCells D.cells (C*i.size)).size=C*i.size:=by rw[A.size,Yf G];simp
   split at h
   ·rename_i am;simp only[zA,zB]at h;obtain⟨rfl,rfl⟩:=h;have aa:N=0:=J
    subst aa;have he:∀ e0 b0 hw0 T,S.tk (O H)=Z (e0,b0,hw0,T)->e0<0:=λe0 b0 hw0 T h=>by rw[(E.past _ (zE _)).2]at h;cases h
    have hv:=ZpP (S:=S) (n:=O H) (e:=0) (k:=i.size) (len:=0) (cap:=C) (l:=[]) (c:=madeCells D.cells (C*i.size)) (el:=e) rfl dh (by simp[flat]) dh ad (λi x v hi _=>by simp[flat]at hi);simp only[yT,Nat.zero_mul]at hv;exact⟨_,S.tokn (O H) (.cells (madeCells D.cells (C*i.size)) e) 0 0 (madeCells D.cells (C*i.size)).size,y,Ext.tokn E he,E.tokn (TokSet.new H 0) he rfl (Nat.zero_le _),hv⟩
   ·simp only[zA,zB]at h;obtain⟨rfl,rfl⟩:=h;obtain⟨_,F,Q⟩:=Ak (P:=P) E A e;rw[ZjQ]at F;exact⟨_,S.obj (O H) (.cells (madeCells D.cells (C*i.size)) e),y,Ext.obj E _,F,.rs _ _ _ _ _ _ _ Q ab⟩
  ·cases h
 ·cases h
theorem ZyM (h:List Int):flat (h.map (yX .u8))=h.map (yX .u8):=by
 unfold flat;rw[List.map_map];show (h.map λn=>[yX .u8 n]).flatten=_
 induction h with
 |nil=>rfl
 |cons a l j=>simp[j]
theorem ZmF {D C e:TypeId}{x r:AV}{u:Value}{H':Hp}(N:Inv W0 S H)(hs:P.underlying D=Z (.slice e))(T:P.underlying C=Z .string)(he:P.underlying e=Z (.int .u8))(K:VRel S x u)
 (h:Bg x H=Z (r,H')):∃ v' L,(convert D C u).run P S.w=.ok v' L.w/\Ext S L/\Inv W0 L H'/\VRel L r v':=by
 unfold Bg at h;split at h
 ·rename_i l y;split at h
  ·rename_i s R;simp only[zA,zB]at h;obtain⟨rfl,rfl⟩:=h;obtain⟨B,rfl,rfl⟩:=Zbo R
   have z:elems 1 x H=Z (B.map (yX .u8)):=by
    unfold Qm at y;split at y
    ·cases y
    ·exact y
   obtain⟨_,E,news,j,A⟩:=G3 (P:=P) N (Nat.zero_lt_one) K z;rw[ZyM]at j
   have Q:news=(B.map (Value.int .u8)).toArray:=by
    apply Array.ext_getElem?;intro i;by_cases hi:i<O B
    ·obtain⟨v,hv,hr⟩:=j.get (i:=i) (x:=.int .u8 B[i]) (by simp[hi]);rw[hv];cases hr;simp[hi]
    ·rw[zY (by rw[j.size];simp;omega),zY (by simp;omega)]
   subst Q
   have G:(∃ a n c,u=.slice (Z a) n c)\/(u=.slice X 0 0/\B=[]):=by
    cases x <;> first
     |(simp[elems]at z;done)
     |(simp[Qm]at y;done)
     |skip
    ·cases K;right;exact⟨rfl,by simpa[elems]using z⟩
    ·cases K;exact .inl ⟨_,_,_,rfl⟩
    ·cases K;exact .inl ⟨_,_,_,rfl⟩
    ·cases K;exact .inl ⟨_,_,_,rfl⟩
   rcases G with ⟨a,n,c,rfl⟩|⟨rfl,rfl⟩
   ·have hn:n=O B:=by
     have:=E S.w;simpa[Builtin.lenOf]using this
    subst hn;refine⟨.string (B.foldl (λr n=>r.push (yC n.toNat)) ByteArray.empty),S,?_,Ext.refl S,N,.str _ _ ?_⟩
    ·have F:=A S.w rfl;rw[run_convert_bytes_string S.w D C e _ _ _ hs he T];refine run_bytesToString S.w _ _ _ B ?_;simp only[Builtin.firstCells,yU,Nat.mul_one]at F;exact F
    ·rw[Zi4];simp
   ·exact⟨.string .empty,S,by simp[convert,run_underlying hs,run_underlying T,run_underlying he,Conv.bytesToString],Ext.refl S,N,.str _ _ rfl⟩
  ·cases h
 ·cases h
theorem ZoC {C A e:TypeId}{x r:AV}{u:Value}{H':Hp}(hI:Inv W0 S H)(hs:P.underlying C=Z .string)(hd:P.underlying A=Z (.slice e))(he:P.underlying e=Z (.int .u8))(N:VRel S x u)
 (h:SM x H=Z (r,H')):∃ v' K,(convert C A u).run P S.w=.ok v' K.w/\Ext S K/\Inv W0 K H'/\VRel K r v':=by
 unfold SM at h;split at h
 ·simp only[zA,zB]at h;obtain⟨rfl,rfl⟩:=h;cases N with|str _ b hb =>
  subst hb;have z:=run_bytes_of_string S.w C A e b hs hd he;have j:=grownCap_ge S.w b.size 0 e;generalize grownCap S.w b.size 0 e=cap at z j;have T:(bytesRow b cap).size=cap:=by simp[bytesRow];omega
  have R:(b.data.toList.map λb=>yX .u8 (b.toNat:Int)).length=b.size:=by rw[yU];exact W8 b
  have G:O b.data.toList=b.size:=W8 b;have y:=hI.drew
  have E:∀ e0 Q hw0 D,S.drew.tk (O H)=Z (e0,Q,hw0,D)->e0<0:=λe0 Q hw0 D h=>by
   have h':S.tk (O H)=Z (e0,Q,hw0,D):=h;rw[(hI.past _ (zE _)).2]at h';cases h'
  have F:=Ext.rown y (o:=.cells (bytesRow b cap) e ((bytesRow b cap).size,(bytesRow b cap).size+1)) (hw:=b.size) (sz:=cap) E;refine⟨_,S.drew.rown (O H) (.cells (bytesRow b cap) e ((bytesRow b cap).size,(bytesRow b cap).size+1)) 0 b.size cap,z,(Ext.drew S).trans F,y.rown (RowSet.new H 0 _) E ?_,?_⟩
  ·refine⟨S.drew.w.heap.size,cap,bytesRow b cap,e,_,by rw[R];simp[Snap.rown],y.size,heap_alloc_new S.drew.w _,T,by rw[R];exact j,λi x v hi L=>?_,λi hp=>absurd (y.puball _ i hp) (yD _),zU.2 λx N=>(by simp at N;obtain⟨a,_,rfl⟩:=N;rfl),λi hi h=>by have:=h.1;simp only at this;omega⟩;have B:i<b.size:=by rw[<-R];exact Zq hi
   rw[List.getElem?_map,List.getElem?_eq_getElem (by rw[G];exact B)]at hi;unfold bytesRow at L;rw[zD (by simp;exact B)]at L;have hg:b.data[i]?=Z b.data[i]:=Array.getElem?_eq_getElem B;simp[hg]at hi L;subst hi L;exact .int _ _
  ·rw[G];exact .ws false 1 (O H) 0 b.size cap S.drew.w.heap.size ⟨0,S.drew.w.heap.size,b.size,cap,by simp[Snap.rown],zE _,λ_=>⟨rfl,J,J⟩⟩ j
 ·cases h
def GlobOk (C:Cfg)(S:Snap):Prop:=∀ g h,C.glob g=Z h->VRel S (.vp h) (.pointer (Z ⟨g,0,X⟩))/\Sc 0 (.vp h)/\Held S g h
def W3 (C:Cfg)(_:World)(call:ZQ):Prop :=
 ∀ {W0:World} (f:FuncId) (args:du) (H H':Hp) (v:AV),call f args H=Z (v,H')->∀ (S:Snap) (args':Array Value),Inv W0 S H->GlobOk C S->args'.size=O args ->
  (∀ (i:Nat) (a:AV) (u:Value),args[i]?=Z a->args'[i]?=Z u->VRel S a u) ->
  Calls C.P f args' S.w λe w'=>∃ v' h,e=.returned v'/\h.w=w'/\Ext S h/\Inv W0 h H'/\VRel h v v'
theorem Yx {o:Oper}{a:Act}{next:Act->World->Prop}{Q:Exit->Act->World->Prop}{w w':World}{v:Value}(h:(execOp a.eval o).run P w=.ok (.value v) w')(j:next (a.put o.dst v) w'):o.wp P a w next Q:=by
 unfold Oper.wp;rw[h];exact j
theorem Zco {o:Oper}{a:Act}{next:Act->World->Prop}{Q:Exit->Act->World->Prop}{w w':World}(h:(execOp a.eval o).run P w=.ok .skip w')(j:next (a.put o.dst undef) w'):o.wp P a w next Q:=by
 unfold Oper.wp;rw[h];exact j
theorem Gives.wp {C:Cfg}{o:Oper}{a:Act}{next:Act->World->Prop}{Q:Exit->Act->World->Prop}{v:AV}{H':Hp}(h:Gives C.P W0 S H (execOp a.eval o) v H')(B:Inv W0 S H)
 (D:∀ v' j,Ext S j->Inv W0 j H'->VRel j v v'->next (a.put o.dst v') j.w):o.wp C.P a S.w next Q:=by
 obtain⟨v',j,u,y,z,A⟩:=h B;exact Yx u (D v' j y z A)
theorem Zcy {y B:du}{z A:Array Value}(E:z.size=O y)(C:∀ (i:Nat) (a:AV) (u:Value),y[i]?=Z a->z[i]?=Z u->VRel S a u)
 (D:∀ (i:Nat) (a:AV) (u:Value),B[i]?=Z a->A[i]?=Z u->VRel S a u) (i:Nat) (a:AV) (u:Value) (j:(y++B)[i]?=Z a) (w:(z++A)[i]?=Z u):VRel S a u:=by
 rcases zV i (O y) with h|h
 ·rw[zC h]at j;rw[zD J]at w;exact C i a u j w
 ·rw[zF h]at j;rw[zQ J,E]at w;exact D _ a u j w
theorem Zoj {G xt ty e:TypeId}{k:Nat}{d x r:AV}{ud T:Value}{H':Hp}(B:Inv W0 S H)(hk:0<k)(ht:P.underlying G=Z (.slice e))(hs:Xt P e=Z k)(L:VRel S d ud)(hx:VRel S x T)
 (h:IN k d x H=Z (r,H')):∃ v' E,(Builtin.copy_ #[G,xt] ty #[ud,T]).run P S.w=.ok v' E.w/\Ext S E/\Inv W0 E H'/\VRel E r v':=by
 unfold IN at h;split at h
 ·rename_i xs R;obtain⟨hl,y,news,j,u⟩:=G3 (P:=P) B hk hx R
  have z:∀ (base:Option Addr) (dl dc:Nat),xs=[]->(Builtin.copy_ #[G,xt] ty #[.slice base dl dc,T]).run P S.w=.ok (goInt 0) S.w:=by
   intro base dl dc A;subst A;have hn:=u S.w rfl
   have A:news=#[]:=by
    have:=j.size;simp[flat]at this;exact this
   subst A;simp only[yT]at hn y;cases base <;> simp[Builtin.copy_,run_underlying ht,y S.w,Xa hs,hn,storeCells]
  split at h
  ·split at h
   ·rename_i A;simp only[zA,zB]at h;obtain⟨rfl,rfl⟩:=h;cases L;exact⟨_,S,z _ _ _ A,Ext.refl S,B,.int _ _⟩
   ·cases h
  ·split at h
   ·rename_i A;simp only[zA,zB]at h;obtain⟨rfl,rfl⟩:=h;cases L;exact⟨_,S,z _ _ _ A,Ext.refl S,B,.int _ _⟩
   ·cases h
  ·rename_i ag k' o off len cap;cases L with|rs _ _ _ _ _ _ b hb hcap =>
   split at h
   ·rename_i A;simp only[zA,zB]at h;obtain⟨rfl,rfl⟩:=h;exact⟨_,S,z _ _ _ A,Ext.refl S,B,.int _ _⟩
   ·split at h
    ·rename_i hc;obtain⟨rfl,Q⟩:=hc;split at h
     ·rename_i cs ho;split at h
      ·rename_i aa;simp only[zA,zB]at h;obtain⟨rfl,rfl⟩:=h;obtain⟨b',c,el,F,g2,g3,g4,g5,K,g7⟩:=B.objs o _ ho;rw[hb]at F;injection F with F;subst F;have N:(xs.map AV.cells).flatten=flat xs:=rfl;have ab:news.size=O xs*k':=by rw[j.size,Yf hl]
       have D:=run_storeCells_at P b off el news.toList 0 c S.w g3 (by simp;omega) j.oneCells;rw[zS,<-Uk off news c J]at D;have C:Nat.min (O xs) len=O xs:=Nat.min_eq_left Q;refine⟨goInt (O xs),{ S with w:=S.w.setRow b (news.zipIdx.foldl (λ(a:Array Value) (p:Value×Nat)=>a.setIfInBounds (off+p.2) p.1) c) },?_,Ext.write K _,?_,.int _ _⟩
       ·simp[Builtin.copy_,run_underlying ht,y S.w,C,Xa hs,u S.w rfl,D]
       ·refine B.write ho hb g2 g3 K ?_;rw[N];exact (CellsRel.splice (S:=S) ⟨g4,g5,g7⟩ j (by first|omega|(rw[Yf hl];omega))).mono (Ext.write K _)
      ·cases h
     ·cases h
    ·cases h
  ·cases h
 ·cases h
theorem ZoP (s:dr)(c:UInt8):∀ (l:dr) (k:Nat),(∀ i,l[i]?=s[k+i]?) ->
 KU c l k=match (yQ k (O l)).find? λi=>s[i]! == c with|some i=>(i:Int)|none=>-1:=by
 intro l
 induction l with
 |nil=>intro k _;rfl
 |cons b l y =>
  intro k h;have u:=h 0;simp only[yF,zS]at u;have w:s[k]! = b:=by rw[zO,<-u];rfl
  rw[List.length_cons,yR,yV,w];unfold KU;by_cases j:b=c
  ·simp[j]
  ·have:(b==c)=false:=by simpa using j
   simp only[j,if_false,this];exact y (k+1) λi=>by have:=h (i+1);simpa[yL,yN 1 i]using this
theorem Ztt (s t:dr):∀ (l m:dr) (k:Nat),(∀ i,l[i]?=s[k+i]?)->(∀ i,m[i]?=t[k+i]?) ->
 QI l m=match (yQ k (min (O l) (O m))).find? λi=>s[i]! != t[i]! with|some i=>(if s[i]!<t[i]! then (-1:Int) else 1)|none=>if O l<O m then -1 else if O l > O m then 1 else 0:=by
 intro l
 induction l with
 |nil=>intro m k _ _;cases m <;> simp[QI]
 |cons a l C =>
  intro m k y z
  cases m with
  |nil=>simp[QI]
  |cons b m =>
   have u:=y 0;have w:=z 0;simp only[yF,zS]at u w;have A:s[k]! = a:=by rw[zO,<-u];rfl
   have B:t[k]! = b:=by rw[zO,<-w];rfl
   have j:min (a::l).length (b::m).length=min (O l) (O m)+1:=dh
   rw[j,yR,yV,A,B];unfold QI;by_cases h:a=b
   ·have:(a != b)=false:=by simp[h]
    simp only[h,if_true];subst h;simp only[bne_self_eq_false];rw[C m (k+1) (λi=>by have:=y (i+1);simpa[yL,yN 1 i]using this) (λi=>by have:=z (i+1);simpa[yL,yN 1 i]using this)];simp
   ·have:(a != b)=Y:=by simpa using h
    simp only[h,if_false,this,A,B]
theorem ZzF (b:ByteArray)(i:Nat):b[i]! = b.data.toList[i]!:=by
 cases b with|mk a =>
 by_cases h:i<a.size
 ·have j:i<(ByteArray.mk a).size:=h;rw[getElem!_pos (ByteArray.mk a) i j,getElem!_pos a.toList i (by simpa using h)];rfl
 ·have j:¬ i<(ByteArray.mk a).size:=h;rw[getElem!_neg (ByteArray.mk a) i j,getElem!_neg a.toList i (by simpa using h)]
theorem ZmE (c:UInt8):∀ (l:dr) (n:Int),l.foldl (λ(n:Int) x=>if x==c then n+1 else n) n=n+(P8 c l:Nat):=by
 intro l
 induction l with
 |nil=>intro n;simp[P8]
 |cons b l j =>
  intro n;rw[List.foldl_cons,j];have e:P8 c (b::l)=if b=c then P8 c l+1 else P8 c l:=rfl;rw[e];by_cases h:b=c
  ·subst h;simp;omega
  ·have:(b==c)=false:=by simpa using h
   rw[this,if_neg h];simp
theorem ZqQ {e:ExtK}{args:du}{args':Array Value}{v:AV}(B:args'.size=O args)(j:∀ (i:Nat) (a:AV) (u:Value),args[i]?=Z a->args'[i]?=Z u->VRel S a u)(h:ZmX e args=Z v) :
 ∃ v',(Jz e args').run P S.w=.ok v' S.w/\VRel S v v':=by
 unfold ZmX at h;split at h
 ·rename_i x;injection h with h;subst h;obtain⟨l⟩:=args'
  match l,B with
  |[u],_=>exact⟨u,rfl,j 0 x u rfl rfl⟩
 ·rename_i s n;injection h with h;subst h;obtain⟨l⟩:=args'
  match l,B with
  |[u,w],_ =>
   have y:=j 0 _ u rfl rfl;have z:=j 1 _ w rfl rfl;cases y with|str _ b hb =>
   cases z;subst hb;have C:=ZoP b.data.toList (yC n.toNat) b.data.toList 0 (λi=>by rw[zR]);rw[C];have A:∀ i,b[i]! = b.data.toList[i]!:=ZzF b;refine⟨goInt _,?_,.int _ _⟩;have e:Jz .indexByte #[.string b,.int .u8 n]=(match (List.range b.size).find? λi=>b[i]! == yC n.toNat with|some i=>pure (goInt i)|none=>pure (goInt (-1))):=rfl;show (Jz .indexByte #[.string b,.int .u8 n]).run P S.w=_;rw[e];simp only[A];rw[yK,show O b.data.toList=b.size from by rw[zI];rfl];cases (yQ 0 b.size).find? λi=>b.data.toList[i]! == yC n.toNat <;> rfl
 ·rename_i s t;injection h with h;subst h;obtain⟨l⟩:=args'
  match l,B with
  |[u,w],_ =>
   have y:=j 0 _ u rfl rfl;have z:=j 1 _ w rfl rfl;cases y with|str _ b hb =>
   cases z with|str _ c hc =>
   subst hb hc;have C:=Ztt b.data.toList c.data.toList b.data.toList c.data.toList 0 (λi=>by rw[zR]) (λi=>by rw[zR]);rw[C];have D:∀ (b:ByteArray) (i:Nat),b[i]! = b.data.toList[i]!:=ZzF;refine⟨goInt _,?_,.int _ _⟩;have F:∀ b:ByteArray,O b.data.toList=b.size:=λb=>by rw[zI];rfl
   have e:Jz .cmp #[.string b,.string c]=pure (goInt (Extern.BytealgCompare.cmp b c)):=rfl;show (Jz .cmp #[.string b,.string c]).run P S.w=_;rw[e];simp only[Extern.BytealgCompare.cmp,D,F,Sem.run_pure];rw[yK];rfl
 ·rename_i s n;injection h with h;subst h;obtain⟨l⟩:=args'
  match l,B with
  |[u,w],_ =>
   have y:=j 0 _ u rfl rfl;have z:=j 1 _ w rfl rfl;cases y with|str _ b hb =>
   cases z;subst hb;refine⟨goInt _,?_,.int _ _⟩;have e:Jz .count #[.string b,.int .u8 n]=pure (goInt (b.foldl (λ(E:Int) x=>if x==yC n.toNat then E+1 else E) ((0:Nat):Int))):=rfl;show (Jz .count #[.string b,.int .u8 n]).run P S.w=_;rw[e,Lib.foldl_data,ZmE];simp
 ·cases h
theorem Inv.went (A:Inv W0 S H){w':World}(G:Below S.w.heap.size S.w w'):Ext S { S with w:=w' }/\Inv W0 { S with w:=w' } H:=by
 have hx:Ext S { S with w:=w' }:=⟨⟨λ_ _ h=>h,λb i h=>⟨h,G.cell (A.puball b i h)⟩,λ_ e b hw sz h=>⟨e,b,hw,sz,h,zE _,λ_=>⟨rfl,rfl,rfl⟩⟩⟩,rfl,λ_ _ h _=>h⟩
 have j:∀ b c,S.w.heap[b]?=Z c->w'.heap[b]?=Z c:=λb c h=>by
  have N:b<S.w.heap.size:=by
   rcases zV b S.w.heap.size with h'|h'
   ·exact h'
   ·rw[zY h']at h;cases h
  rw[G.block b N];exact h
 refine⟨hx,A.below.trans (G.mono A.below.size),λo x ho=>?_,A.past,A.inj,A.tinj,A.apart,λb i h=>yB (A.puball b i h) G.size,λo b h=>yB (A.dom o b h) G.size,
  λt e b hw sz h=>yB (A.tdom t e b hw sz h) G.size,A.lim⟩
 have Q:=A.objs o x ho
 cases x with
 |cells l =>
  obtain⟨b',c',B,C,z,D,E,F,K,h7⟩:=Q;exact⟨b',c',B,C,z,j _ _ D,E,λi y v hy R=>(F i y v hy R).mono hx,K,h7⟩
 |bld T u l =>
  obtain⟨b',C,z,D,E,F⟩:=Q;have N:b'<S.w.heap.size:=z.elim (λh=>h.lt) λh=>h.lt;have he:=G.block b' N;have L:∀ i,w'.cell? ⟨b',i,X⟩=S.w.cell? ⟨b',i,X⟩:=λi=>by unfold World.cell?;rw[he]
  exact⟨b',C,z.frame he λv g R hg=>G.block g (z.own_lt R hg),D,E,λv g R hg=>F v g (by rw[<-L];exact R) hg⟩
 |row e l =>
  obtain⟨b',sz,c',B,fz,C,z,D,E,F,K,h7,h8,h9⟩:=Q;exact⟨b',sz,c',B,fz,C,z,j _ _ D,E,F,λi y v hy R=>(K i y v hy R).mono hx,h7,h8,h9⟩
 |tok e =>
  obtain⟨b',hw,sz,c',B,fz,C,z,D,E,F,K,h7⟩:=Q;exact⟨b',hw,sz,c',B,fz,C,z,j _ _ D,E,F,K,h7⟩
 |map es aa =>
  obtain⟨b',ab,C,z,D,E,F,K⟩:=Q;refine⟨b',ab,C,z,j _ _ D,E,F,λi k v n e ac ad=>?_⟩;obtain⟨q1,q2,q3⟩:=K i k v n e ac ad;exact⟨q1.mono hx,q2.mono hx,q3⟩
 |siter s pos =>
  obtain⟨b',s',C,z,D,E,F⟩:=Q;exact⟨b',s',C,z,j _ _ D,E,F⟩
 |dead=>trivial
 |free=>exact Q
def Snap.bare (S:Snap):Snap:={ w:=S.w,phi:=λ_=>X,pub:=S.pub,tk:=λ_=>X,lim:=S.w.heap.size }
theorem Inv.bare (j:Inv W0 S H):Inv S.w S.bare [] :=
 ⟨Below.refl _ _,dh,λo _=>⟨rfl,rfl⟩,λo o' b h=>by simp[Snap.bare]at h,λt A e b hw sz z u y h=>by simp[Snap.bare]at h,λt e b hw sz o h=>by simp[Snap.bare]at h,
  j.puball,λo b h=>by simp[Snap.bare]at h,λt e b hw sz h=>by simp[Snap.bare]at h,zE _⟩
def Snap.more (S:Snap)(n:Nat):Snap:={ S with pub:=λb i=>S.pub b i\/(n<=b/\b<S.w.heap.size) }
theorem Inv.more (E:Inv W0 S H){n:Nat}(hn:W0.heap.size<=n)(Q:∀ o b,S.phi o=Z b->b<n)(ht:∀ t e b hw sz,S.tk t=Z (e,b,hw,sz)->b<n):Ext S (S.more n)/\Inv W0 (S.more n) H:=by
 have N:Ext S (S.more n):=⟨⟨λ_ _ h=>h,λb i h=>⟨.inl h,rfl⟩,λ_ e b hw sz h=>⟨e,b,hw,sz,h,zE _,λ_=>⟨rfl,rfl,rfl⟩⟩⟩,rfl,λb i w hl=>w.elim id λe=>by have:=E.lim;have:=e.1;omega⟩;refine⟨N,E.below,λo x ho=>?_,E.past,E.inj,E.tinj,E.apart,λb i h=>h.elim (E.puball b i) λe=>e.2,E.dom,E.tdom,E.lim⟩;have G:=E.objs o x ho
 cases x with
 |cells l =>
  obtain⟨b',c',z,j,A,B,C,D,F,K⟩:=G;have:=Q _ _ j;exact⟨b',c',z,j,A,B,C,λi y v hy L=>(D i y v hy L).mono N,λi w=>w.elim (F i) λe=>by have:=e.1;omega,K⟩
 |bld T u l =>
  obtain⟨b',j,A,B,C,D⟩:=G;have:=Q _ _ j;refine⟨b',j,A,B,λi w=>w.elim (C i) λe=>by have:=e.1;omega,λv g L hg=>?_⟩;obtain⟨⟨n',hw,sz,q⟩,q2⟩:=D v g L hg;have:=ht _ _ _ _ _ q;exact⟨⟨n',hw,sz,q⟩,λi w=>w.elim (q2 i) λe=>by have:=e.1;omega⟩
 |row e l =>
  obtain⟨b',sz,c',z,fz,j,A,B,C,D,F,K,h8,h9⟩:=G;have:=ht _ _ _ _ _ j;exact⟨b',sz,c',z,fz,j,A,B,C,D,λi y v hy L=>(F i y v hy L).mono N,λi w=>w.elim (K i) λe=>by have:=e.1;omega,h8,h9⟩
 |tok e =>
  obtain⟨b',hw,sz,c',z,fz,j,A,B,C,D,F,K⟩:=G;have:=ht _ _ _ _ _ j;exact⟨b',hw,sz,c',z,fz,j,A,B,C,D,λi hi w=>w.elim (F i hi) λe=>by have:=e.1;omega,K⟩
 |map es R =>
  obtain⟨b',aa,j,A,B,C,D,F⟩:=G;have:=Q _ _ j;refine⟨b',aa,j,A,B,C,λi w=>w.elim (D i) λe=>by have:=e.1;omega,λi k v n e ab ac=>?_⟩;obtain⟨q1,q2,q3⟩:=F i k v n e ab ac;exact⟨q1.mono N,q2.mono N,q3⟩
 |siter s pos =>
  obtain⟨b',s',j,A,B,C,D⟩:=G;have:=Q _ _ j;exact⟨b',s',j,A,B,C,λi w=>w.elim (D i) λe=>by have:=e.1;omega⟩
 |dead=>trivial
 |free=>exact G
theorem ZpC {α β:Type}{f g:α->Option β}(h:∀ a b,f a=Z b->g a=Z b):∀ {l:List α} {r:List β},l.mapM f=Z r->l.mapM g=Z r:=by
 intro l
 induction l with
 |nil=>intro r j;simpa using j
 |cons a l y =>
  intro r j;rw[List.mapM_cons]at j ⊢
  cases u:f a with
  |none=>simp[u]at j
  |some b =>
   cases w:l.mapM f with
   |none=>simp[u,w]at j
   |some z =>
    simp only[u,w]at j;simp only[h a b u,y w];exact j
theorem ZqZ {C:Cfg}{call:ZQ}(z:W3 C W0 call){id:FuncId}{args:du}{args':Array Value}{H':Hp}{v:AV}(hs:args'.size=O args)
 (ha:∀ (i:Nat) (a:AV) (u:Value),args[i]?=Z a->args'[i]?=Z u->VRel S a u) (h:Ze (call id) args H=Z (v,H')) (A:Inv W0 S H) (hG:GlobOk C S) :
 Calls C.P id args' S.w λe w'=>∃ v' B,e=.returned v'/\B.w=w'/\Ext S B/\Inv W0 B H'/\VRel B v v':=by
 unfold Ze at h;split at h
 ·rename_i j hm;split at h
  ·rename_i v1 H1 hc;split at h
   ·rename_i v2 hf;simp only[zA,zB]at h;obtain⟨rfl,rfl⟩:=h;obtain⟨q1,q2⟩:=Ua (S:=S) (T:=S.bare) (H':=[]) (n:=0) (f:=9) (λa b v=>Zoz (S:=S) (T:=S.bare) rfl (λ_ _ h=>h) 9 a b v) hm hs ha;refine (z id j [] H1 v1 hc S.bare args' A.bare (λg N hg=>?_) q1 q2).mono λe w' hp=>?_
    ·obtain⟨Q,D⟩:=hG g N hg;obtain⟨D,vs,R,K⟩:=D;exact⟨VRel.bare (S:=S) (T:=S.bare) rfl (λ_ _ h=>h) Q D,D,vs,R,λi=>⟨(K i).1,(K i).2⟩⟩
    ·obtain⟨v',T,he,hw,L,y,hv⟩:=hp;subst hw;have F:=HP (S:=T) (H:=[]) y dh 9 _ _ _ hf hv;obtain⟨r1,r2⟩:=A.went (w':=T.w) y.below;obtain⟨r3,r4⟩:=r2.more (n:=S.w.heap.size) A.below.size A.dom A.tdom;have hl:T.lim=S.w.heap.size:=L.lim
     have G:Ext0 (T.back []) (({ S with w:=T.w }:Snap).more S.w.heap.size):=by
      refine⟨λo b h=>by simp[Snap.back]at h,λb i h=>⟨?_,rfl⟩,λt e b hw sz h=>by simp[Snap.back]at h⟩;rcases h with h|⟨h1,h2,_⟩
      ·rcases zV b S.w.heap.size with E|E
       ·exact .inl (L.old b i h E)
       ·exact .inr ⟨E,y.puball b i h⟩
      ·exact .inr ⟨J,h2⟩
     exact⟨v',({ S with w:=T.w }:Snap).more S.w.heap.size,he,rfl,r1.trans r3,r4,F.mono0 G⟩
   ·cases h
  ·cases h
 ·cases h
theorem Zxs {C:Cfg}{call:ZQ}(j:W3 C W0 call){id:FuncId}{args:du}{args':Array Value}{H':Hp}{v:AV}(G:args'.size=O args)
 (E:∀ (i:Nat) (a:AV) (u:Value),args[i]?=Z a->args'[i]?=Z u->VRel S a u) (h:Ve (call id) args H=Z (v,H')) (A:Inv W0 S H) (D:GlobOk C S) :
 Calls C.P id args' S.w λe w'=>∃ v' y,e=.returned v'/\y.w=w'/\Ext S y/\Inv W0 y H'/\VRel y v v':=by
 unfold Ve at h;split at h
 ·rename_i K H1 F;split at h
  ·rename_i z;have z:=ZjN _ _ z;split at h
   ·rename_i L B;simp only[zA,zB]at h;obtain⟨rfl,rfl⟩:=h;refine (j id args H H1 K F S args' A D G E).mono ?_
    rintro e w' ⟨v',S1,he,hw,hx1,hI1,hv⟩
    exact⟨v',S1.back H,he,hw,Ext.back A hx1,Inv.back A hI1 z,HP hI1 z 9 _ _ _ B hv⟩
   ·cases h
  ·cases h
 ·cases h
theorem Zu4 {P:Program}{t:TypeId}{name:String}{f:FuncId}(h:Zrm P t name=Z f)(k:Nat)(v:Value)(w:World):(method (k+1) t v name).run P w=.ok (f,v) w:=by
 unfold Zrm at h;split at h
 ·rename_i i e hi C;split at h
  ·rename_i m A;split at h
   ·rename_i D u z;injection h with h;subst h;have y:(typeInfo t).run P w=.ok i w:=run_typeInfo w hi;have j:=λw=>run_underlying (w:=w) C;have B:m.path=#[]:=by simpa using u
    unfold method;simp[Sem.run_bind,y,Result.andThen_ok,A,u,follow,z,receiverAt,j,Place.get]
   ·cases h
  ·cases h
 ·cases h
theorem Zem {C:Cfg}(G:VG C){call:ZQ}(y:W3 C W0 call){f v:AV}{args:du}{fu:Value}{args':Array Value}{H':Hp}(hf:VRel S f fu)(hs:args'.size=O args)
 (ha:∀ (i:Nat) (a:AV) (u:Value),args[i]?=Z a->args'[i]?=Z u->VRel S a u) (h:YJ C call f args H=Z (v,H')) (N:Inv W0 S H) (D:GlobOk C S) :
 (∃ v',(do let d <-Deferred.ofValue fu args';invoke d.target d.args:Sem Next).run C.P S.w=.ok (.value v') S.w/\VRel S v v'/\H'=H) \/
 ∃ id as,(∀ w:World,(do let d <-Deferred.ofValue fu args';invoke d.target d.args:Sem Next).run C.P w=.ok (.enter id as) w) /\
  Calls C.P id as S.w λe w'=>∃ v' S',e=.returned v'/\S'.w=w'/\Ext S S'/\Inv W0 S' H'/\VRel S' v v':=by
 unfold YJ at h;split at h
 ·rename_i id first z
  cases hf with|fn _ _ _ F K hF hK h1 h2 =>
  have A:(F++args'++K).size=(first++args++z).length:=by simp[hF,hs,hK]
  have j:=Zcy (S:=S) (by simp[hF,hs]) (Zcy hF h1 ha) h2;unfold XR at h;split at h
  ·rename_i e he;unfold iL at h;split at h
   ·rename_i v1 E;simp only[zA,zB]at h;obtain⟨rfl,rfl⟩:=h;obtain⟨v',g1,g2⟩:=ZqQ (P:=C.P) A j E;refine .inl ⟨v',?_,g2,rfl⟩;have h0:=G.2.2.2.1 id e he (F++args'++K) S.w;rw[Sem.run_bind,g1]at h0;simp only[Result.andThen_ok,Sem.run_pure,Array.append_assoc]at h0;simp[Deferred.ofValue,invoke];exact h0
   ·cases h
  ·split at h
   ·rename_i g hg;obtain⟨T,R⟩:=G.2.2.2.2.1 id g hg;unfold kR at h;split at h
    ·rename_i v1 E;simp only[zA,zB]at h;obtain⟨rfl,rfl⟩:=h;refine .inr ⟨id,F++args'++K,λw=>?_,R S H _ _ v1 N (λg L B=>⟨(D g L B).1,(D g L B).2.2⟩) A j E⟩;simp[Deferred.ofValue,invoke,G.2.1 id T]
    ·cases h
   split at h
   ·rename_i g hg;obtain⟨T,Q⟩:=G.2.2.2.2.2 id g hg;refine .inr ⟨id,F++args'++K,λw=>?_,Q S H _ _ _ v N (λg L B=>⟨(D g L B).1,(D g L B).2.2⟩) A j h⟩;simp[Deferred.ofValue,invoke,G.2.1 id T]
   split at h
   ·rename_i T;refine .inr ⟨id,F++args'++K,λw=>?_,?_⟩
    ·simp[Deferred.ofValue,invoke,G.2.1 id T]
    ·split at h
     ·exact ZqZ y A j h N D
     split at h
     ·exact Zxs y A j h N D
     ·exact y id _ H H' v h S _ N D A j
   ·cases h
 ·cases h
theorem ZsE {C:Cfg}(hC:VG C){call:ZQ}(ah:W3 C W0 call){tm:du}{o:Oper}{a:Act}{next:Act->World->Prop}{Q:Exit->Act->World->Prop}{v:AV}{H':Hp}{fl:Bool}
 (j:∀ x,VRel S (eval C tm x) (a.eval x)) (h:Xi C call (eval C tm) H fl o.op=Z (v,H')) (E:Inv W0 S H) (hG:GlobOk C S)
 (L:∀ v' G,Ext S G->Inv W0 G H'->VRel G v v'->next (a.put o.dst v') G.w):o.wp C.P a S.w next Q:=by
 unfold Xi at h;split at h
 ·rename_i v' hp;simp only[zA,zB]at h;obtain⟨rfl,rfl⟩:=h;exact (Zor hC j hp).wp E L
 split at h
 ·cases h
 generalize B:o.op=op at h
 cases op with
 |alloc e =>
  simp only[ZP]at h;split at h
  ·rename_i z hz;obtain⟨zc,ae,af⟩:=Uh hz;split at h
   ·rename_i u hu;split at h
    ·rename_i ab;simp only[zA,zB]at h;obtain⟨rfl,rfl⟩:=h;simp only[yA,bne_iff_ne,ne_eq]at ab;obtain⟨an,ay⟩:=ab
     have az:zc.cells=#[.pointer X,.slice X 0 0]:=by
      have K:=af S;unfold ZzG at an;split at an
      ·cases K with|agg _ vs hc N D =>
       obtain⟨l⟩:=vs
       match l,N with
       |[x,y],_ =>
        have R:=D 0 _ x rfl rfl;have T:=D 1 _ y rfl rfl;cases R;cases T;rfl
      ·cases an
     obtain⟨R,T,h3⟩:=Znn (P:=C.P) E az ay;refine Yx (w':=(S.obj (O H) (.cells zc.cells e)).w) ?_ (L _ _ (Ext.obj E _) T (.ptr _ 0 _ h3));simp[execOp,B,Instr.alloc,ae,newVar,R]
    ·cases h
   split at h
   ·rename_i ab;simp only[zA,zB]at h;obtain⟨rfl,rfl⟩:=h;obtain⟨R,T,h3⟩:=Ak (P:=C.P) E ((af S).cells ab) e;refine Yx (w':=(S.obj (O H) (.cells zc.cells e)).w) ?_ (L _ _ (Ext.obj E _) T (.ptr _ 0 _ h3));simp[execOp,B,Instr.alloc,ae,newVar,R]
   ·cases h
  ·cases h
 |box e x =>
  simp only[ZP]at h;unfold ZY at h;split at h
  ·rename_i ab;simp only[zA,zB]at h;obtain⟨rfl,rfl⟩:=h;obtain⟨R,T,h3⟩:=Ak (P:=C.P) E ((j x).cells ab) e;refine Yx (w':=(S.obj (O H) (.cells (a.eval x).cells e)).w) ?_ (L _ _ (Ext.obj E _) T (.ptr _ 0 _ h3));simp[execOp,B,Instr.box,newVar,R]
  ·cases h
 |load t x =>
  simp only[ZP]at h;split at h
  ·rename_i g sz hg N
   cases hl:Z4 g sz (eval C tm x) H with
   |none=>simp[hl]at h
   |some r =>
    simp[hl]at h;obtain⟨rfl,rfl⟩:=h;obtain⟨v',ad,hu,D,K⟩:=Zeo (P:=C.P) E hg N (j x) hl;refine Yx (w':=S.w) ?_ (L _ _ (Ext.refl S) E K);simp[execOp,B,Instr.loadAt,hu,Instr.sureAddr,D]
  ·cases h
 |store t x y =>
  simp only[ZP]at h;split at h
  ·rename_i sz N;split at h
   rotate_left
   ·cases h
   unfold Zg at h
   cases hl:YE sz (eval C tm x) (eval C tm y) H with
   |none=>simp[hl]at h
   |some r =>
    simp only[hl,zA,zB]at h;obtain⟨rfl,rfl⟩:=h;obtain⟨ad,G,hu,D,F,A⟩:=Zmt (P:=C.P) E N (j x) (j y) hl;refine Zco (w':=G.w) ?_ (L _ _ F A (.tuple [] #[] rfl dh));simp[execOp,B,Instr.storeAt,hu,Instr.sureAddr,D]
  ·cases h
 |makeSlice t l c =>
  simp only[ZP]at h;split at h
  ·rename_i e he;split at h
   ·rename_i k aj ag z N hb hg hz;obtain⟨v',G,D,F,A,K⟩:=Zom (P:=C.P) E (Pg he) N hb hz (j l) (j c) h;refine Yx (w':=G.w) ?_ (L _ _ F A K);simp[execOp,B,D]
   ·cases h
  ·cases h
 |convert s d x =>
  simp only[ZP]at h;split at h
  ·rename_i e N hd;split at h
   ·rename_i he;obtain⟨v',G,D,F,A,K⟩:=ZmF (P:=C.P) E N hd (O5 he) (j x) h;refine Yx (w':=G.w) ?_ (L _ _ F A K);simp[execOp,B,D]
   ·cases h
  ·rename_i e N hd;split at h
   ·rename_i he;simp only[yA]at he;have he:=he.2;obtain⟨v',G,D,F,A,K⟩:=ZoC (P:=C.P) E N hd (O5 he) (j x) h;refine Yx (w':=G.w) ?_ (L _ _ F A K);simp[execOp,B,D]
   ·cases h
  ·cases h
 |makeMap t r =>
  cases r with
  |some r=>simp[ZP]at h
  |none =>
   simp only[ZP,zA,zB]at h;obtain⟨rfl,rfl⟩:=h;obtain⟨R,T,h3⟩:=ZlE (P:=C.P) t E;refine Yx (w':=(S.obj (O H) (.map #[] 0)).w) ?_ (L _ _ (Ext.obj E _) T h3);simp[execOp,B,R]
 |lookup t x k ck =>
  simp only[ZP]at h;split at h
  ·rename_i d e ht;split at h
   ·rename_i z hz
    cases hl:Yj d z ck (eval C tm x) (eval C tm k) H with
    |none=>simp[hl]at h
    |some r =>
     simp[hl]at h;obtain⟨rfl,rfl⟩:=h;obtain⟨zc,ae,af⟩:=Uh hz;obtain⟨v',D,K⟩:=Zlo (P:=C.P) E ht ⟨zc,ae S.w,af S⟩ (j x) (j k) hl;refine Yx (w':=S.w) ?_ (L _ _ (Ext.refl S) E K);simp[execOp,B,D]
   ·cases h
  ·cases h
 |mapUpdate t m k x =>
  simp only[ZP]at h;split at h
  ·rename_i d e ht;obtain⟨rfl,G,D,F,A⟩:=mP (P:=C.P) E ht (j m) (j k) (j x) h;refine Zco (w':=G.w) ?_ (L _ _ F A (.tuple [] #[] rfl dh));simp[execOp,B,D]
  ·cases h
 |insert t m k x =>
  simp only[ZP]at h;split at h
  ·rename_i d e ht;obtain⟨rfl,G,D,F,A⟩:=mP (P:=C.P) E ht (j m) (j k) (j x) h;refine Zco (w':=G.w) ?_ (L _ _ F A (.tuple [] #[] rfl dh));simp[execOp,B,D]
  ·cases h
 |call c =>
  obtain⟨callee,args,argTypes⟩:=c
  cases callee with
  |invoke r m =>
   simp only[ZP]at h;unfold Zmo at h;split at h
   ·rename_i t v0 au;split at h
    ·rename_i f hm;have al:=j r;rw[au]at al;generalize aw:a.eval r=ru at al;cases al with|iface _ _ u hu =>
     have ap:=Zu4 (P:=C.P) hm
     have ar:VRel S (.fn (.func f) [v0] []) (.func (.func f) #[u] #[]):=.fn _ _ _ #[u] #[] rfl rfl (λi x y F hy=>by
      cases i with
      |zero=>simp at F hy;subst F;subst hy;exact hu
      |succ i=>simp at F) (λi x y F hy=>by simp at F)
     have ao:∀ w:World,(execOp a.eval o).run C.P w=(do let d <-Deferred.ofValue (.func (.func f) #[u] #[]) (args.map a.eval);invoke d.target d.args:Sem Next).run C.P w:=λw=>by
      simp only[execOp,B,resolve,aw];have h0:(#[Value.iface t u]++yY a.eval args)[0]?=Z (.iface t u):=by simp[Array.getElem?_append]
      have R:(yY a.eval args).extract 0 args.size=yY a.eval args:=dh
      have T:∀ w,(program:Sem Program).run C.P w=.ok C.P w:=λw=>rfl;have h3:C.P.types.size+Made.depth=(C.P.types.size+99)+1:=rfl;simp[invoke,callMethod,Deferred.ofValue,h0,R,T,h3,Sem.run_bind,Result.andThen_ok,ap]
     rcases Zem hC ah ar (args':=args.map a.eval) dh (iW j args) h E hG with ⟨v',g1,g2,rfl⟩|⟨id,as,R,T⟩
     ·exact Yx (w':=S.w) ((ao S.w).trans g1) (L _ _ (Ext.refl S) E g2)
     unfold Oper.wp;rw[(ao S.w).trans (R S.w)];simp only[Oper.upon];refine T.mono λe w' h3=>?_;obtain⟨v',G,rfl,rfl,F,A,K⟩:=h3;exact L v' G F A K
    ·cases h
   ·cases h
  |builtin b =>
   cases b <;> first
    |(simp[ZP]at h;done)
    |skip
   rotate_left
   ·simp only[ZP]at h;split at h
    ·rename_i d x dt xt ha ht;obtain rfl:=XI ha;obtain rfl:=XI ht;split at h
     ·rename_i e he;split at h
      ·rename_i k N;split at h
       ·rename_i aa;obtain⟨v',G,D,F,A,K⟩:=Zoj (P:=C.P) (ty:=o.type) (xt:=xt) E aa (Pg he) N (j d) (j x) h;refine Yx (w':=G.w) ?_ (L _ _ F A K);simp[execOp,B,resolve,invoke,builtin,D]
       ·cases h
      ·cases h
     ·cases h
    ·cases h
   ·simp only[ZP]at h;split at h
    ·rename_i m k t xt ha ht;obtain rfl:=XI ha;obtain rfl:=XI ht;split at h
     ·rename_i d e ak;obtain⟨rfl,G,D,F,A⟩:=Zlp (P:=C.P) (xt:=xt) (ty:=o.type) E ak (j m) (j k) h;refine Yx (w':=G.w) ?_ (L _ _ F A (.tuple [] #[] rfl dh));simp[execOp,B,resolve,invoke,builtin,D]
     ·cases h
    ·cases h
   ·simp only[ZP]at h;split at h
    ·rename_i x t ha ht;obtain rfl:=Q5 ha;obtain rfl:=Q5 ht;split at h
     ·rename_i p ak;obtain⟨d,e⟩:=p
      cases hl:K7 (eval C tm x) H with
      |none=>simp[hl]at h
      |some r =>
       simp[hl]at h;obtain⟨rfl,rfl⟩:=h;obtain⟨v',D,K⟩:=Zol (P:=C.P) E ak (j x) hl o.type;refine Yx (w':=S.w) ?_ (L _ _ (Ext.refl S) E K);simp[execOp,B,resolve,invoke,builtin,D]
     ·cases h
    ·cases h
   simp only[ZP]at h;split at h
   ·rename_i s x st xt ha ht;obtain rfl:=XI ha;obtain rfl:=XI ht;split at h
    ·rename_i e xd he aq;split at h
     ·cases h
     ·rename_i ax;split at h
      ·rename_i k aj N hb;split at h
       ·rename_i aa;simp only[yA,decide_eq_true_eq]at aa;obtain⟨aa,ac⟩:=aa;have ai:Xl xd=Y:=by simpa using ax
        have hz:∃ z,∀ w:World,(zeroValue e).run C.P w=.ok z w/\z.cells.size=k:=by
         unfold Zvo at ac;split at ac
         ·rename_i z hz;simp only[yA,beq_iff_eq]at ac;obtain⟨zc,ae,af⟩:=Uh hz;exact⟨zc,λw=>⟨ae w,by rw[((af S).cells ac.1).size];exact ac.2⟩⟩
         ·cases ac
        split at h
        ·rename_i ag ba;unfold V1 at h;split at h
         ·rename_i xs am;obtain⟨v',G,D,F,A,K⟩:=Zoe (P:=C.P) (ty:=o.type) E aa (Pg he) aq ai N hb hz (j s) (j x) am h;refine Yx (w':=G.w) ?_ (L _ _ F A K);simp[execOp,B,resolve,invoke,builtin,D]
         ·cases h
        unfold Ya at h;split at h
        ·rename_i xs am;obtain⟨v',G,D,F,A,K⟩:=mO (P:=C.P) (ty:=o.type) E aa (Pg he) aq ai N hb hz (j s) (j x) am h;refine Yx (w':=G.w) ?_ (L _ _ F A K);simp[execOp,B,resolve,invoke,builtin,D]
        ·cases h
       ·cases h
      ·cases h
    ·cases h
   ·cases h
  |value f =>
   simp only[ZP]at h;rcases Zem hC ah (j f) (args':=args.map a.eval) dh (iW j args) (Zq5 h) E hG with ⟨v',g1,g2,rfl⟩|⟨id,as,R,T⟩
   ·refine Yx (w':=S.w) ?_ (L _ _ (Ext.refl S) E g2);simp only[execOp,B,resolve];exact g1
   unfold Oper.wp
   have D:(execOp a.eval o).run C.P S.w=.ok (.enter id as) S.w:=by
    have:=R S.w;simp only[execOp,B,resolve];exact this
   rw[D];simp only[Oper.upon];refine T.mono λe w' h3=>?_;obtain⟨v',G,rfl,rfl,F,A,K⟩:=h3;exact L v' G F A K
 |_=>simp[ZP]at h
end
end Go.Am
