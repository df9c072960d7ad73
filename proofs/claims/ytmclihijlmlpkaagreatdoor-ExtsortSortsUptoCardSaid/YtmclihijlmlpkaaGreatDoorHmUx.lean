/- THE ABSTRACT MACHINE -/
import Derived.Test.YtmclihijlmlpkaaGreatDoorHmSx
import Derived.ChangeShapes
import Derived.OpenShut
import Derived.ChangeBears
import Derived.ChangeOld
open Option renaming some->O,none->K
open Bool renaming true->Z
open List renaming length->N
open List renaming getElem?_eq_getElem->zA,getElem?_map->zB,length->zF,getElem?_append_right->zG,getD_eq_getElem?_getD->zH,flatten_cons->zI,getElem?_append_left->zJ,length_drop->zK,getElem?_cons_zero->zL,getElem?_eq_none->zO,sum_cons->zP,map_take->zQ,map_nil->zR,sum_nil->zS,all_eq_true->zT,length_take->zV,map_cons->zX
open Nat renaming succ_mul->zY
open Bool renaming and_eq_true->zU
open Option renaming map_eq_some_iff->zD,bind_eq_some_iff->zM,map_some->zW
open Array renaming getElem?_eq_getElem->zC,getElem?_toList->zN
open Option.some renaming injEq->zE
namespace Go.Am
open Go.WideShapes Go.ChangeShapes
def U9 (g:Bool)(h:c6):AV:=if g then .agg h else h.headD .undef
def WP (P:Program)(t:TypeId):Bool:=(Xx P t).getD false
def B1 (P:Program)(L:da)(t:TypeId):Bool :=
 match P.underlying t with
 |some .bool|some (.int _)|some .string=>Z
 |some (.pointer e)|some (.slice e)=>L.contains e&&decide (0<P.cellsOf e)
 |some (.struct fs)=>fs.toList.all λf=>L.contains f.type
 |some (.array _ e)=>L.contains e
 |_=>false
def TV {H:Type}(P:Program):Nat->TypeId->DataW H->c6->Prop
 |0,_,_,_=>False
 |n+1,t,d,as =>
  match P.underlying t with
  |some .bool=>∃ b,d=.lit (.bool b)/\as=[.bool b]
  |some (.int k)=>∃ m,d=.lit (.int k m)/\as=[.int k m]/\(Lit.int k m).wf=Z
  |some .string=>∃ s:cz,d=.lit (.string s)/\as=[.str s]/\N s<=maxLen
  |some (.pointer e)=>d=.nil/\as=[.nilp]\/∃ d' cells,d=.ptr d'/\as=[.vp cells]/\TV P n e d' cells
  |some (.slice e)=>d=.nil/\as=[.nils]\/∃ h u l,d=.slice h u/\as=[.vs (P.cellsOf e) .no l]/\N l=N h/\N l<=maxLen /\
   ∀ (i:Nat) (x:AV) (d':DataW H),l[i]?=O x->h[i]?=O d'->∃ j,x=U9 (WP P e) j/\TV P n e d' j
  |some (.struct fs)=>∃ (g:List (DataW H)) (parts:List c6),d=.agg g/\as=parts.flatten/\N parts=fs.size/\N g=fs.size /\
   ∀ (i:Nat) (f:Field) (p:c6) (d':DataW H),fs[i]?=O f->parts[i]?=O p->g[i]?=O d'->TV P n f.type d' p
  |some (.array m e)=>∃ (g:List (DataW H)) (parts:List c6),d=.agg g/\as=parts.flatten/\N parts=m/\N g=m /\
   ∀ (i:Nat) (p:c6) (d':DataW H),parts[i]?=O p->g[i]?=O d'->TV P n e d' p
  |_=>False
section
variable {H:Type}{enc:TypeId×Value->H}{P:Program}{W:World}{S:Snap}
def CRel (S:Snap)(g:c6)(h:List Value):Prop:=N g=N h/\g.all AV.isCell=Z/\∀ (i:Nat) (a:AV) (v:Value),g[i]?=O a->h[i]?=O v->VRel S a v
theorem CRel.one {a:AV}{v:Value}(h:VRel S a v)(u:a.isCell=Z):CRel S [a] [v]:=by
 refine⟨rfl,by simp[u],λi x y g j=>?_⟩
 cases i with
 |zero =>
  simp only[zL,zE]at g j;subst g j;exact h
 |succ i=>simp at g
theorem Tx {base:Nat}{a:Addr}{n:Nat}{g:List Value}(h:W.cells? base a n=O g):N g=n/\∀ i,i<n->W.cell? (a.add i)=g[i]?:=by
 unfold World.cells? at h;split at h
 ·obtain⟨j,u⟩:=Jn h;simp only[List.length_range]at j;refine⟨j,λi hi=>?_⟩;obtain⟨b,w,y⟩:=u i i (by simp[hi]);rw[w,y]
 ·cases h
theorem Zfl {a:Addr}{v:Value}(h:W.cell? a=O v):a.spot=K/\a.block<W.heap.size:=by
 unfold World.cell? at h;split at h
 ·rename_i c _ _ j;split at h
  ·cases h
  ·rename_i u;refine⟨by simpa using u,?_⟩;rcases Nat.lt_or_ge a.block W.heap.size with g|g
   ·exact g
   ·rw[Array.getElem?_eq_none g]at j;cases j
 ·cases h
theorem CRel.parts {parts:List c6}{u:List Value}(g:N u=(parts.map zF).sum)
 (h:∀ (j:Nat) (p:c6),parts[j]?=O p->CRel S p ((u.drop ((parts.take j).map zF).sum).take (N p))):CRel S parts.flatten u:=by
 induction parts generalizing u with
 |nil =>
  simp only[zR,zS]at g;exact⟨by simp[g],cn,cn⟩
 |cons p D C =>
  have y:=h 0 p rfl;simp only[List.take_zero,zR,zS,List.drop_zero]at y;simp only[zX,zP]at g
  have z:CRel S D.flatten (u.drop (N p)):=by
   refine C (by simp;omega) λj q B=>?_;have:=h (j+1) q (by simpa using B);simpa[List.drop_drop]using this
  refine⟨by have:=z.1;simp only[zI,List.length_append,this,zK];omega,by simp only[zI,List.all_append,y.2.1,z.2.1,Bool.and_self],λi a v w A=>?_⟩;simp only[zI]at w;by_cases hi:i<N p
  ·rw[zJ hi]at w;refine y.2.2 i a v w ?_;rw[List.getElem?_take_of_lt hi];exact A
  ·rw[zG cm]at w;refine z.2.2 _ a v w ?_;rw[List.getElem?_drop,show N p+(i-N p)=i by omega];exact A
theorem OA {α:Type}{n:Nat}{Q:Nat->α->Prop}(h:∀ i,i<n->∃ a,Q i a):∃ l:List α,N l=n/\∀ (i:Nat) (a:α),l[i]?=O a->Q i a:=by
 induction n with
 |zero=>exact⟨[],rfl,cn⟩
 |succ n z =>
  obtain⟨l,u,w⟩:=z λi hi=>h i cm;obtain⟨a,y⟩:=h n cm;refine⟨l++[a],by simp[u],λi x g=>?_⟩;by_cases hi:i<n
  ·rw[zJ cm]at g;exact w i x g
  ·rw[zG cm]at g;have:=Zn g;simp at this;have j:i=n:=cm
   subst j;simp[u]at g;subst g;exact y
theorem ZpY (l:da)(j x:Nat)(h:l[j]?=O x):(l.take j).sum+x<=l.sum:=by
 induction l generalizing j with
 |nil=>simp at h
 |cons a l g =>
  cases j with
  |zero =>
   simp only[zL,zE]at h;subst h;simp
  |succ j =>
   have:=g j (by simpa using h);simp only[List.take_succ_cons,zP];omega
theorem TV.cells {n:Nat}{t:TypeId}{d:DataW H}{g:c6}(h:TV P n t d g):(U9 (WP P t) g).cells=g:=by
 cases n with
 |zero=>exact h.elim
 |succ n =>
  unfold TV at h;unfold WP Xx
  cases j:P.underlying t with
  |none=>simp[j]at h
  |some d =>
   rw[j]at h
   cases d with
   |bool=>obtain⟨b,_,rfl⟩:=h;rfl
   |int k=>obtain⟨m,_,rfl,_⟩:=h;rfl
   |string=>obtain⟨m,_,rfl,_⟩:=h;rfl
   |pointer e=>rcases h with ⟨_,rfl⟩|⟨_,c,_,rfl,_⟩ <;> rfl
   |slice e=>rcases h with ⟨_,rfl⟩|⟨_,_,c,_,rfl,_⟩ <;> rfl
   |struct fs=>rfl
   |array m e=>rfl
   |_=>exact h.elim
theorem ZxM (hl:laidOutB P=Z)(hw:S.w=W)(hp:∀ b i,b<W.heap.size->S.pub b i){L:da}(hL:L.all (B1 P L)=Z):∀ (aa:Nat) (t:TypeId) (cs:List Value) (x:DataW H×List MemPlace),
 L.contains t=Z->t<P.types.size->DataW.trod enc P W 0 (λ_=>Z) Z aa t cs=O x->∃ z,TV P aa t x.1 z/\CRel S z cs:=by
 intro aa
 induction aa with
 |zero=>intro t cs x _ _ h;simp[DataW.trod]at h
 |succ n ih =>
  intro t cs x ht ak h;have u:B1 P L t=Z:=zT.1 hL t (List.contains_iff_mem.1 ht);unfold B1 at u;unfold TV
  cases hu:P.underlying t with
  |none=>simp[hu]at u
  |some d =>
   rw[hu]at u
   cases d with
   |bool =>
    obtain⟨b,rfl,rfl⟩:=DataW.trod_bool hu h;exact⟨_,⟨b,rfl,rfl⟩,.one (.bool b) rfl⟩
   |int k =>
    obtain⟨m,rfl,rfl,bi⟩:=DataW.trod_int hu h;exact⟨_,⟨m,rfl,rfl,bi⟩,.one (.int k m) rfl⟩
   |string =>
    obtain⟨s,rfl,rfl,hm⟩:=DataW.trod_string hu h;refine⟨_,⟨s.data.toList,rfl,rfl,?_⟩,.one (.str _ s rfl) rfl⟩;rw[Array.length_toList];exact hm
   |pointer e =>
    simp only at u;have D:=kid_pointer hl ak hu;rcases DataW.trod_pointer hu h with ⟨rfl,rfl⟩|⟨a,g,y,m,hm,rfl,rfl,U,E⟩
    ·exact⟨_,.inl ⟨rfl,rfl⟩,.one .nilp rfl⟩
    ·obtain rfl:n=m:=cm
     simp only[zU,decide_eq_true_eq]at u;obtain⟨z,h1,B⟩:=ih e g y u.1 D E;obtain⟨g1,g2⟩:=Tx U
     have af:∀ i,i<N g->W.cell? (a.add i)=O (g.getD i undef):=λi hi=>by
      rw[g2 i cm,zH,zA hi];rfl
     have h0:=Zfl (af 0 cm);obtain⟨b,off,sp⟩:=a;obtain rfl:sp=K:=h0.1;refine⟨_,.inr ⟨_,z,rfl,rfl,h1⟩,.one (.vp z b off (λi=>g.getD i undef) B.2.1 (λi hi=>?_) (λi c ax=>?_)) rfl⟩
     ·have ar:i<N g:=by have:=B.1;omega
      have:=af i ar;rw[YO]at this;rw[hw];exact⟨this,hp _ _ h0.2⟩
     ·have ar:i<N g:=by have:=B.1;have:=Zn ax;omega
      refine B.2.2 i c _ ax ?_;rw[zH,zA ar];rfl
   |slice e =>
    simp only at u;have D:=kid_slice hl ak hu;rcases DataW.trod_slice hu h with ⟨rfl,rfl⟩|⟨a,len,cap,elems,rest,m,hm,rfl,rfl,hb,bm,bk,bd,T,bh,_⟩
    ·exact⟨_,.inl ⟨rfl,rfl⟩,.one .nils rfl⟩
    ·obtain rfl:n=m:=cm
     simp only[zU,decide_eq_true_eq]at u
     -- the elements
     obtain⟨ae,q1,q2⟩:=OA (n:=len) (Q:=λj z=>∃ g,W.cells? 0 (a.add (j*P.cellsOf e)) (P.cellsOf e)=O g/\(∀ y,elems[j]?=O y->TV P n e y.1 z)/\(U9 (WP P e) z).cells=z/\CRel S z g) (λj A=>by
      have hg:=T j A;have F:j<N elems:=cm
      rw[zA F,zM]at hg;obtain⟨g,U,E⟩:=hg;obtain⟨z,h1,B⟩:=ih e g _ u.1 D E;exact⟨z,g,U,λy al=>by rw[zA F]at al;injection al with al;rw[<-al];exact h1,h1.cells,B⟩)
     have ac:∀ j g,W.cells? 0 (a.add (j*P.cellsOf e)) (P.cellsOf e)=O g->a.spot=K\/j≠0:=λj g U=>by
      by_cases A:j=0
      ·subst A;obtain⟨g1,g2⟩:=Tx U;have:=g2 0 u.2;rw[zA cm]at this;have:=(Zfl this).1;simp[Addr.add]at this;exact .inl this
      ·exact .inr A
     have ai:a.spot=K\/cap=0:=by
      by_cases bl:0<len
      ·have F:0<N ae:=cm
       obtain⟨g,U,_⟩:=q2 0 _ (zA F);exact .inl ((ac 0 g U).resolve_right cn)
      ·by_cases bc:cap=0
       ·exact .inr bc
       ·obtain⟨bn,hr⟩:=bh rfl;have h0:=hr 0 cm;rw[zA cm,zM]at h0;obtain⟨g,U,_⟩:=h0;have az:len=0:=cm
        rw[az]at U;exact .inl ((ac 0 g U).resolve_right cn)
     have ba:(ae.map (U9 (WP P e))).length=len:=by simp[q1]
     have C:∀ (j:Nat) (x:AV),(ae.map (U9 (WP P e)))[j]?=O x->∃ z g,ae[j]?=O z/\x=U9 (WP P e) z/\x.cells=z/\W.cells? 0 (a.add (j*P.cellsOf e)) (P.cellsOf e)=O g/\(∀ y,elems[j]?=O y->TV P n e y.1 z)/\CRel S z g:=λj x F=>by
      rw[zB,zD]at F;obtain⟨z,h1,rfl⟩:=F;obtain⟨g,B,h3,h5,h4⟩:=q2 j z h1;exact⟨z,g,h1,rfl,h5,B,h3,h4⟩
     refine⟨_,.inr ⟨_,_,ae.map (U9 (WP P e)),rfl,rfl,by rw[ba];simp[bd],cm,λj x d' A R=>?_⟩,?_⟩
     ·obtain⟨z,g,_,B,_,_,h3,_⟩:=C j x A;rw[zB,zD]at R;obtain⟨y,E,rfl⟩:=R;exact⟨z,B,h3 y E⟩
     ·obtain⟨b,off,sp⟩:=a;rw[<-ba];refine .one (.vs _ .no _ b off cap (λj i=>(W.cell? ⟨b,off+j*P.cellsOf e+i,K⟩).getD undef) cm (λx F=>?_) (λj i A hi=>?_) (λj x i c F U=>?_) trivial sp ai) rfl
      ·obtain⟨j,A⟩:=List.getElem?_of_mem F;obtain⟨z,g,_,_,B,ag,_,h4⟩:=C j x A;rw[B];exact⟨by rw[h4.1];exact (Tx ag).1,h4.2.1⟩
      ·obtain⟨z,g,_,_,B,ag,_,h4⟩:=C j _ (zA A);obtain rfl:sp=K:=ai.resolve_right cm;obtain⟨g1,g2⟩:=Tx ag;have:=g2 i hi;rw[YO,YO,zA cm]at this;rw[hw,this];exact⟨rfl,hp _ _ (Zfl this).2⟩
      ·obtain⟨z,g,_,_,B,ag,_,h4⟩:=C j x F;have A:=Zn F;obtain rfl:sp=K:=ai.resolve_right cm;obtain⟨g1,g2⟩:=Tx ag;rw[B]at U;have hi:i<P.cellsOf e:=by have:=Zn U;have:=h4.1;omega
       have:=g2 i hi;rw[YO,YO,zA cm]at this;simp only[this,Option.getD_some];exact h4.2.2 i c _ U (zA cm)
   |struct fs =>
    simp only[zT]at u;obtain⟨k1,k2,k3⟩:=kid_struct hl ak hu;obtain⟨xs,m,hm,rfl,ap,aw,T⟩:=DataW.trod_struct hu h;obtain rfl:n=m:=cm
    obtain⟨parts,q1,q2⟩:=OA (n:=fs.size) (Q:=λi p=>∀ f,fs[i]?=O f->(∀ y,xs[i]?=O y->TV P n f.type y.1 p)/\CRel S p ((cs.drop f.offset).take (P.cellsOf f.type))) (λi hi=>by
     have hf:=zC hi;have F:i<N xs:=cm
     have hg:=T i _ hf;rw[zA F]at hg;have an:fs[i]∈fs.toList:=cn
     obtain⟨z,h1,B⟩:=ih _ _ _ (u _ an) (k1 _ an) hg;refine⟨z,λf aj=>?_⟩;rw[hf]at aj;injection aj with aj;subst aj;exact⟨λy E=>by rw[zA F]at E;injection E with E;rw[<-E];exact h1,B⟩)
    have aq:∀ (j:Nat) (p:c6),parts[j]?=O p->∃ f,fs[j]?=O f/\fs.toList[j]?=O f:=λj p A=>by
     have:=Zn A;have ay:j<fs.size:=cm
     exact⟨fs[j],zC ay,by rw[zN];exact zC ay⟩
    -- the lengths of the parts
    have au:parts.map zF=fs.toList.map λf=>P.cellsOf f.type:=by
     apply List.ext_getElem?;intro j;by_cases A:j<fs.size
     ·have ah:j<N parts:=cm
      have hf:=zC A;have ad:fs.toList[j]?=O fs[j]:=by rw[zN];exact hf
      have U:=(q2 j _ (zA ah) _ hf).2.1;have ho:=k3 j _ ad;have D:=ZpY (fs.toList.map λf=>P.cellsOf f.type) j (P.cellsOf fs[j].type) (by rw[zB,ad];rfl);rw[<-zQ,<-ho,<-k2,<-ap]at D;rw[zB,zB,ad,zA ah];simp only[zW,zE];rw[U,zV,zK];omega
     ·rw[zO (by simp;omega),zO (by simp;omega)]
    have bb:∀ (j:Nat) (f:Field),fs.toList[j]?=O f->f.offset=((parts.take j).map zF).sum:=λj f hf=>by
     rw[k3 j f hf,zQ,zQ,au]
    refine⟨_,⟨_,parts,rfl,rfl,q1,by simp[aw],λi f p d' hf bf R=>by rw[zB,zD]at R;obtain⟨y,E,rfl⟩:=R;exact (q2 i p bf f hf).1 y E⟩,.parts (by rw[au,<-k2];exact ap) λj p A=>?_⟩;obtain⟨f,hf,ad⟩:=aq j p A;have hr:=(q2 j p A f hf).2
    have ab:N p=P.cellsOf f.type:=by
     have h1:(parts.map zF)[j]?=O (N p):=by rw[zB,A];rfl
     rw[au,zB,ad]at h1;simp only[zW,zE]at h1;exact h1.symm
    rw[ab,<-bb j f ad];exact hr
   |array m e =>
    simp only at u;obtain⟨D,bg⟩:=kid_array hl ak hu;obtain⟨xs,m',hm,rfl,ap,aw,T⟩:=DataW.trod_array hu h;obtain rfl:n=m':=cm
    obtain⟨parts,q1,q2⟩:=OA (n:=m) (Q:=λi p=>(∀ y,xs[i]?=O y->TV P n e y.1 p)/\CRel S p ((cs.drop (i*P.cellsOf e)).take (P.cellsOf e))) (λi hi=>by
     have hg:=T i hi;have F:i<N xs:=cm
     rw[zA F]at hg;obtain⟨z,h1,B⟩:=ih _ _ _ u D hg;exact⟨z,λy E=>by rw[zA F]at E;injection E with E;rw[<-E];exact h1,B⟩)
    have ab:∀ (j:Nat) (p:c6),parts[j]?=O p->N p=P.cellsOf e:=λj p A=>by
     have be:=Zn A;have:=(q2 j p A).2.1;have D:(j+1)*P.cellsOf e<=m*P.cellsOf e:=Nat.mul_le_mul_right _ cm;rw[zY]at D;rw[this,zV,zK];omega
    have ao:∀ j,j<=m->((parts.take j).map zF).sum=j*P.cellsOf e:=λj=>by
     induction j with
     |zero=>intro _;simp
     |succ j bj =>
      intro A;have ah:j<N parts:=cm
      rw[List.take_add_one,zA ah];simp only[Option.toList_some,List.map_append,zX,zR,List.sum_append,zP,zS];rw[bj cm,ab j _ (zA ah),zY];omega
    have am:=ao m (Nat.le_refl _);rw[<-q1,List.take_length,q1]at am;refine⟨_,⟨_,parts,rfl,rfl,q1,by simp[aw],λj p d' A R=>?_⟩,.parts (by rw[am];omega) λj p A=>?_⟩
    ·rw[zB,zD]at R;obtain⟨y,E,rfl⟩:=R;exact (q2 j p A).1 y E
    ·have be:=Zn A;rw[ao j cm,ab j p A];exact (q2 j p A).2
   |_=>simp at u
end
end Go.Am
