/- THE ABSTRACT MACHINE -/
import Derived.Test.YtjmhpjoedfegkaaGreatDoorHmSx
import Derived.ChangeShapes
import Derived.OpenShut
import Derived.ChangeBears
import Derived.ChangeOld
open Option renaming some->O,none->K
open Bool renaming true->Z
open List renaming length->N
open List renaming getElem?_eq_getElem->zA,getElem?_map->zB,length->zF,getElem?_append_right->zG,getD_eq_getElem?_getD->zH,flatten_cons->zI,getElem?_append_left->zJ,length_drop->zK,getElem?_cons_zero->zL,getElem?_eq_none->zO,sum_cons->zP,map_take->zQ,map_nil->zR,sum_nil->zS,all_eq_true->zT,length_take->zV,map_cons->zX
open Nat renaming succ_mul->zY
open Bool renaming and_eq_true->zU
open Option renaming map_eq_some_iff->zD,bind_eq_some_iff->zM,map_some->zW
open Array renaming getElem?_eq_getElem->zC,getElem?_toList->zN
open Option.some renaming injEq->zE
namespace Go.Am
open Go.WideShapes Go.ChangeShapes
def Ul (g:Bool)(h:du):AV:=if g then .agg h else h.headD .undef
def WD (P:Program)(t:TypeId):Bool:=(XD P t).getD false
def BV (P:Program)(L:dv)(t:TypeId):Bool :=
 match P.underlying t with
 |some .bool|some (.int _)|some .string=>Z
 |some (.pointer e)|some (.slice e)=>L.contains e&&decide (0<P.cellsOf e)
 |some (.struct fs)=>fs.toList.all λf=>L.contains f.type
 |some (.array _ e)=>L.contains e
 |_=>false
def TV {H:Type}(P:Program):Nat->TypeId->DataW H->du->Prop
 |0,_,_,_=>False
 |n+1,t,d,as =>
  match P.underlying t with
  |some .bool=>∃ b,d=.lit (.bool b)/\as=[.bool b]
  |some (.int k)=>∃ m,d=.lit (.int k m)/\as=[.int k m]/\(Lit.int k m).wf=Z
  |some .string=>∃ s:dr,d=.lit (.string s)/\as=[.str s]/\N s<=maxLen
  |some (.pointer e)=>d=.nil/\as=[.nilp]\/∃ d' cells,d=.ptr d'/\as=[.vp cells]/\TV P n e d' cells
  |some (.slice e)=>d=.nil/\as=[.nils]\/∃ j w l,d=.slice j w/\as=[.vs (P.cellsOf e) .no l]/\N l=N j/\N l<=maxLen /\
   ∀ (i:Nat) (x:AV) (d':DataW H),l[i]?=O x->j[i]?=O d'->∃ u,x=Ul (WD P e) u/\TV P n e d' u
  |some (.struct fs)=>∃ (h:List (DataW H)) (parts:List du),d=.agg h/\as=parts.flatten/\N parts=fs.size/\N h=fs.size /\
   ∀ (i:Nat) (f:Field) (p:du) (d':DataW H),fs[i]?=O f->parts[i]?=O p->h[i]?=O d'->TV P n f.type d' p
  |some (.array m e)=>∃ (h:List (DataW H)) (parts:List du),d=.agg h/\as=parts.flatten/\N parts=m/\N h=m /\
   ∀ (i:Nat) (p:du) (d':DataW H),parts[i]?=O p->h[i]?=O d'->TV P n e d' p
  |_=>False
section
variable {H:Type}{enc:TypeId×Value->H}{P:Program}{W:World}{S:Snap}
def CRel (S:Snap)(h:du)(j:List Value):Prop:=N h=N j/\h.all AV.isCell=Z/\∀ (i:Nat) (a:AV) (v:Value),h[i]?=O a->j[i]?=O v->VRel S a v
theorem CRel.one {a:AV}{v:Value}(h:VRel S a v)(w:a.isCell=Z):CRel S [a] [v]:=by
 refine⟨rfl,by simp[w],λi x y j u=>?_⟩
 cases i with
 |zero =>
  simp only[zL,zE]at j u;subst j u;exact h
 |succ i=>simp at j
theorem P7 {base:Nat}{a:Addr}{n:Nat}{j:List Value}(h:W.cells? base a n=O j):N j=n/\∀ i,i<n->W.cell? (a.add i)=j[i]?:=by
 unfold World.cells? at h;split at h
 ·obtain⟨u,w⟩:=JO h;simp only[List.length_range]at u;refine⟨u,λi hi=>?_⟩;obtain⟨b,y,z⟩:=w i i (by simp[hi]);rw[y,z]
 ·cases h
theorem ZfO {a:Addr}{v:Value}(h:W.cell? a=O v):a.spot=K/\a.block<W.heap.size:=by
 unfold World.cell? at h;split at h
 ·rename_i c _ _ u;split at h
  ·cases h
  ·rename_i w;refine⟨by simpa using w,?_⟩;rcases Nat.lt_or_ge a.block W.heap.size with j|j
   ·exact j
   ·rw[Array.getElem?_eq_none j]at u;cases u
 ·cases h
theorem CRel.parts {parts:List du}{w:List Value}(u:N w=(parts.map zF).sum)
 (h:∀ (j:Nat) (p:du),parts[j]?=O p->CRel S p ((w.drop ((parts.take j).map zF).sum).take (N p))):CRel S parts.flatten w:=by
 induction parts generalizing w with
 |nil =>
  simp only[zR,zS]at u;exact⟨by simp[u],dh,dh⟩
 |cons p E D =>
  have z:=h 0 p rfl;simp only[List.take_zero,zR,zS,List.drop_zero]at z;simp only[zX,zP]at u
  have A:CRel S E.flatten (w.drop (N p)):=by
   refine D (by simp;omega) λj q C=>?_;have:=h (j+1) q (by simpa using C);simpa[List.drop_drop]using this
  refine⟨by have:=A.1;simp only[zI,List.length_append,this,zK];omega,by simp only[zI,List.all_append,z.2.1,A.2.1,Bool.and_self],λi a v y B=>?_⟩;simp only[zI]at y;by_cases hi:i<N p
  ·rw[zJ hi]at y;refine z.2.2 i a v y ?_;rw[List.getElem?_take_of_lt hi];exact B
  ·rw[zG b5]at y;refine A.2.2 _ a v y ?_;rw[List.getElem?_drop,show N p+(i-N p)=i by omega];exact B
theorem aM {α:Type}{n:Nat}{Q:Nat->α->Prop}(h:∀ i,i<n->∃ a,Q i a):∃ l:List α,N l=n/\∀ (i:Nat) (a:α),l[i]?=O a->Q i a:=by
 induction n with
 |zero=>exact⟨[],rfl,dh⟩
 |succ n A =>
  obtain⟨l,w,y⟩:=A λi hi=>h i b5;obtain⟨a,z⟩:=h n b5;refine⟨l++[a],by simp[w],λi x j=>?_⟩;by_cases hi:i<n
  ·rw[zJ b5]at j;exact y i x j
  ·rw[zG b5]at j;have:=Zq j;simp at this;have u:i=n:=b5
   subst u;simp[w]at j;subst j;exact z
theorem Zpl (l:dv)(j x:Nat)(h:l[j]?=O x):(l.take j).sum+x<=l.sum:=by
 induction l generalizing j with
 |nil=>simp at h
 |cons a l u =>
  cases j with
  |zero =>
   simp only[zL,zE]at h;subst h;simp
  |succ j =>
   have:=u j (by simpa using h);simp only[List.take_succ_cons,zP];omega
theorem TV.cells {n:Nat}{t:TypeId}{d:DataW H}{j:du}(h:TV P n t d j):(Ul (WD P t) j).cells=j:=by
 cases n with
 |zero=>exact h.elim
 |succ n =>
  unfold TV at h;unfold WD XD
  cases u:P.underlying t with
  |none=>simp[u]at h
  |some d =>
   rw[u]at h
   cases d with
   |bool=>obtain⟨b,_,rfl⟩:=h;rfl
   |int k=>obtain⟨m,_,rfl,_⟩:=h;rfl
   |string=>obtain⟨m,_,rfl,_⟩:=h;rfl
   |pointer e=>rcases h with ⟨_,rfl⟩|⟨_,c,_,rfl,_⟩ <;> rfl
   |slice e=>rcases h with ⟨_,rfl⟩|⟨_,_,c,_,rfl,_⟩ <;> rfl
   |struct fs=>rfl
   |array m e=>rfl
   |_=>exact h.elim
theorem Zxj (hl:laidOutB P=Z)(hw:S.w=W)(hp:∀ b i,b<W.heap.size->S.pub b i){L:dv}(hL:L.all (BV P L)=Z):∀ (aa:Nat) (t:TypeId) (cs:List Value) (x:DataW H×List MemPlace),
 L.contains t=Z->t<P.types.size->DataW.trod enc P W 0 (λ_=>Z) Z aa t cs=O x->∃ A,TV P aa t x.1 A/\CRel S A cs:=by
 intro aa
 induction aa with
 |zero=>intro t cs x _ _ h;simp[DataW.trod]at h
 |succ n ih =>
  intro t cs x ht ak h;have z:BV P L t=Z:=zT.1 hL t (List.contains_iff_mem.1 ht);unfold BV at z;unfold TV
  cases hu:P.underlying t with
  |none=>simp[hu]at z
  |some d =>
   rw[hu]at z
   cases d with
   |bool =>
    obtain⟨b,rfl,rfl⟩:=DataW.trod_bool hu h;exact⟨_,⟨b,rfl,rfl⟩,.one (.bool b) rfl⟩
   |int k =>
    obtain⟨m,rfl,rfl,bi⟩:=DataW.trod_int hu h;exact⟨_,⟨m,rfl,rfl,bi⟩,.one (.int k m) rfl⟩
   |string =>
    obtain⟨s,rfl,rfl,hm⟩:=DataW.trod_string hu h;refine⟨_,⟨s.data.toList,rfl,rfl,?_⟩,.one (.str _ s rfl) rfl⟩;rw[Array.length_toList];exact hm
   |pointer e =>
    simp only at z;have E:=kid_pointer hl ak hu;rcases DataW.trod_pointer hu h with ⟨rfl,rfl⟩|⟨a,u,y,m,hm,rfl,rfl,U,F⟩
    ·exact⟨_,.inl ⟨rfl,rfl⟩,.one .nilp rfl⟩
    ·obtain rfl:n=m:=b5
     simp only[zU,decide_eq_true_eq]at z;obtain⟨A,h1,C⟩:=ih e u y z.1 E F;obtain⟨g1,g2⟩:=P7 U
     have af:∀ i,i<N u->W.cell? (a.add i)=O (u.getD i undef):=λi hi=>by
      rw[g2 i b5,zH,zA hi];rfl
     have h0:=ZfO (af 0 b5);obtain⟨b,off,sp⟩:=a;obtain rfl:sp=K:=h0.1;refine⟨_,.inr ⟨_,A,rfl,rfl,h1⟩,.one (.vp A b off (λi=>u.getD i undef) C.2.1 (λi hi=>?_) (λi c ax=>?_)) rfl⟩
     ·have ar:i<N u:=by have:=C.1;omega
      have:=af i ar;rw[YP]at this;rw[hw];exact⟨this,hp _ _ h0.2⟩
     ·have ar:i<N u:=by have:=C.1;have:=Zq ax;omega
      refine C.2.2 i c _ ax ?_;rw[zH,zA ar];rfl
   |slice e =>
    simp only at z;have E:=kid_slice hl ak hu;rcases DataW.trod_slice hu h with ⟨rfl,rfl⟩|⟨a,len,cap,elems,rest,m,hm,rfl,rfl,hb,bm,bk,bd,T,bh,_⟩
    ·exact⟨_,.inl ⟨rfl,rfl⟩,.one .nils rfl⟩
    ·obtain rfl:n=m:=b5
     simp only[zU,decide_eq_true_eq]at z
     -- the elements
     obtain⟨ae,q1,q2⟩:=aM (n:=len) (Q:=λj A=>∃ u,W.cells? 0 (a.add (j*P.cellsOf e)) (P.cellsOf e)=O u/\(∀ y,elems[j]?=O y->TV P n e y.1 A)/\(Ul (WD P e) A).cells=A/\CRel S A u) (λj B=>by
      have hg:=T j B;have G:j<N elems:=b5
      rw[zA G,zM]at hg;obtain⟨u,U,F⟩:=hg;obtain⟨A,h1,C⟩:=ih e u _ z.1 E F;exact⟨A,u,U,λy al=>by rw[zA G]at al;injection al with al;rw[<-al];exact h1,h1.cells,C⟩)
     have ac:∀ j u,W.cells? 0 (a.add (j*P.cellsOf e)) (P.cellsOf e)=O u->a.spot=K\/j≠0:=λj u U=>by
      by_cases B:j=0
      ·subst B;obtain⟨g1,g2⟩:=P7 U;have:=g2 0 z.2;rw[zA b5]at this;have:=(ZfO this).1;simp[Addr.add]at this;exact .inl this
      ·exact .inr B
     have ai:a.spot=K\/cap=0:=by
      by_cases bl:0<len
      ·have G:0<N ae:=b5
       obtain⟨u,U,_⟩:=q2 0 _ (zA G);exact .inl ((ac 0 u U).resolve_right dh)
      ·by_cases bc:cap=0
       ·exact .inr bc
       ·obtain⟨bn,hr⟩:=bh rfl;have h0:=hr 0 b5;rw[zA b5,zM]at h0;obtain⟨u,U,_⟩:=h0;have az:len=0:=b5
        rw[az]at U;exact .inl ((ac 0 u U).resolve_right dh)
     have ba:(ae.map (Ul (WD P e))).length=len:=by simp[q1]
     have D:∀ (j:Nat) (x:AV),(ae.map (Ul (WD P e)))[j]?=O x->∃ A u,ae[j]?=O A/\x=Ul (WD P e) A/\x.cells=A/\W.cells? 0 (a.add (j*P.cellsOf e)) (P.cellsOf e)=O u/\(∀ y,elems[j]?=O y->TV P n e y.1 A)/\CRel S A u:=λj x G=>by
      rw[zB,zD]at G;obtain⟨A,h1,rfl⟩:=G;obtain⟨u,C,h3,h5,h4⟩:=q2 j A h1;exact⟨A,u,h1,rfl,h5,C,h3,h4⟩
     refine⟨_,.inr ⟨_,_,ae.map (Ul (WD P e)),rfl,rfl,by rw[ba];simp[bd],b5,λj x d' B R=>?_⟩,?_⟩
     ·obtain⟨A,u,_,C,_,_,h3,_⟩:=D j x B;rw[zB,zD]at R;obtain⟨y,F,rfl⟩:=R;exact⟨A,C,h3 y F⟩
     ·obtain⟨b,off,sp⟩:=a;rw[<-ba];refine .one (.vs _ .no _ b off cap (λj i=>(W.cell? ⟨b,off+j*P.cellsOf e+i,K⟩).getD undef) b5 (λx G=>?_) (λj i B hi=>?_) (λj x i c G U=>?_) trivial sp ai) rfl
      ·obtain⟨j,B⟩:=List.getElem?_of_mem G;obtain⟨A,u,_,_,C,ag,_,h4⟩:=D j x B;rw[C];exact⟨by rw[h4.1];exact (P7 ag).1,h4.2.1⟩
      ·obtain⟨A,u,_,_,C,ag,_,h4⟩:=D j _ (zA B);obtain rfl:sp=K:=ai.resolve_right b5;obtain⟨g1,g2⟩:=P7 ag;have:=g2 i hi;rw[YP,YP,zA b5]at this;rw[hw,this];exact⟨rfl,hp _ _ (ZfO this).2⟩
      ·obtain⟨A,u,_,_,C,ag,_,h4⟩:=D j x G;have B:=Zq G;obtain rfl:sp=K:=ai.resolve_right b5;obtain⟨g1,g2⟩:=P7 ag;rw[C]at U;have hi:i<P.cellsOf e:=by have:=Zq U;have:=h4.1;omega
       have:=g2 i hi;rw[YP,YP,zA b5]at this;simp only[this,Option.getD_some];exact h4.2.2 i c _ U (zA b5)
   |struct fs =>
    simp only[zT]at z;obtain⟨k1,k2,k3⟩:=kid_struct hl ak hu;obtain⟨xs,m,hm,rfl,ap,aw,T⟩:=DataW.trod_struct hu h;obtain rfl:n=m:=b5
    obtain⟨parts,q1,q2⟩:=aM (n:=fs.size) (Q:=λi p=>∀ f,fs[i]?=O f->(∀ y,xs[i]?=O y->TV P n f.type y.1 p)/\CRel S p ((cs.drop f.offset).take (P.cellsOf f.type))) (λi hi=>by
     have hf:=zC hi;have G:i<N xs:=b5
     have hg:=T i _ hf;rw[zA G]at hg;have an:fs[i]∈fs.toList:=dh
     obtain⟨A,h1,C⟩:=ih _ _ _ (z _ an) (k1 _ an) hg;refine⟨A,λf aj=>?_⟩;rw[hf]at aj;injection aj with aj;subst aj;exact⟨λy F=>by rw[zA G]at F;injection F with F;rw[<-F];exact h1,C⟩)
    have aq:∀ (j:Nat) (p:du),parts[j]?=O p->∃ f,fs[j]?=O f/\fs.toList[j]?=O f:=λj p B=>by
     have:=Zq B;have ay:j<fs.size:=b5
     exact⟨fs[j],zC ay,by rw[zN];exact zC ay⟩
    -- the lengths of the parts
    have au:parts.map zF=fs.toList.map λf=>P.cellsOf f.type:=by
     apply List.ext_getElem?;intro j;by_cases B:j<fs.size
     ·have ah:j<N parts:=b5
      have hf:=zC B;have ad:fs.toList[j]?=O fs[j]:=by rw[zN];exact hf
      have U:=(q2 j _ (zA ah) _ hf).2.1;have ho:=k3 j _ ad;have E:=Zpl (fs.toList.map λf=>P.cellsOf f.type) j (P.cellsOf fs[j].type) (by rw[zB,ad];rfl);rw[<-zQ,<-ho,<-k2,<-ap]at E;rw[zB,zB,ad,zA ah];simp only[zW,zE];rw[U,zV,zK];omega
     ·rw[zO (by simp;omega),zO (by simp;omega)]
    have bb:∀ (j:Nat) (f:Field),fs.toList[j]?=O f->f.offset=((parts.take j).map zF).sum:=λj f hf=>by
     rw[k3 j f hf,zQ,zQ,au]
    refine⟨_,⟨_,parts,rfl,rfl,q1,by simp[aw],λi f p d' hf bf R=>by rw[zB,zD]at R;obtain⟨y,F,rfl⟩:=R;exact (q2 i p bf f hf).1 y F⟩,.parts (by rw[au,<-k2];exact ap) λj p B=>?_⟩;obtain⟨f,hf,ad⟩:=aq j p B;have hr:=(q2 j p B f hf).2
    have ab:N p=P.cellsOf f.type:=by
     have h1:(parts.map zF)[j]?=O (N p):=by rw[zB,B];rfl
     rw[au,zB,ad]at h1;simp only[zW,zE]at h1;exact h1.symm
    rw[ab,<-bb j f ad];exact hr
   |array m e =>
    simp only at z;obtain⟨E,bg⟩:=kid_array hl ak hu;obtain⟨xs,m',hm,rfl,ap,aw,T⟩:=DataW.trod_array hu h;obtain rfl:n=m':=b5
    obtain⟨parts,q1,q2⟩:=aM (n:=m) (Q:=λi p=>(∀ y,xs[i]?=O y->TV P n e y.1 p)/\CRel S p ((cs.drop (i*P.cellsOf e)).take (P.cellsOf e))) (λi hi=>by
     have hg:=T i hi;have G:i<N xs:=b5
     rw[zA G]at hg;obtain⟨A,h1,C⟩:=ih _ _ _ z E hg;exact⟨A,λy F=>by rw[zA G]at F;injection F with F;rw[<-F];exact h1,C⟩)
    have ab:∀ (j:Nat) (p:du),parts[j]?=O p->N p=P.cellsOf e:=λj p B=>by
     have be:=Zq B;have:=(q2 j p B).2.1;have E:(j+1)*P.cellsOf e<=m*P.cellsOf e:=Nat.mul_le_mul_right _ b5;rw[zY]at E;rw[this,zV,zK];omega
    have ao:∀ j,j<=m->((parts.take j).map zF).sum=j*P.cellsOf e:=λj=>by
     induction j with
     |zero=>intro _;simp
     |succ j bj =>
      intro B;have ah:j<N parts:=b5
      rw[List.take_add_one,zA ah];simp only[Option.toList_some,List.map_append,zX,zR,List.sum_append,zP,zS];rw[bj b5,ab j _ (zA ah),zY];omega
    have am:=ao m (Nat.le_refl _);rw[<-q1,List.take_length,q1]at am;refine⟨_,⟨_,parts,rfl,rfl,q1,by simp[aw],λj p d' B R=>?_⟩,.parts (by rw[am];omega) λj p B=>?_⟩
    ·rw[zB,zD]at R;obtain⟨y,F,rfl⟩:=R;exact (q2 j p B).1 y F
    ·have be:=Zq B;rw[ao j b5,ab j p B];exact (q2 j p B).2
   |_=>simp at z
end
end Go.Am
