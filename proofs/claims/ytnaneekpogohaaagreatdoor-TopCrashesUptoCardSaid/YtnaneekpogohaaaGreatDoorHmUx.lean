/- THE ABSTRACT MACHINE -/
import Derived.Test.YtnaneekpogohaaaGreatDoorHmSx
import Derived.ChangeShapes
import Derived.OpenShut
import Derived.ChangeBears
import Derived.ChangeOld
open List renaming getElem?_eq_getElem->zA,getElem?_map->zB,length->zF,getElem?_append_right->zG,getD_eq_getElem?_getD->zH,flatten_cons->zI,getElem?_append_left->zJ,length_drop->zK,getElem?_cons_zero->zL,getElem?_eq_none->zO,sum_cons->zP,map_take->zQ,map_nil->zR,sum_nil->zS,all_eq_true->zT,length_take->zV,map_cons->zX
open Nat renaming succ_mul->zY
open Bool renaming and_eq_true->zU
open Option renaming map_eq_some_iff->zD,bind_eq_some_iff->zM,map_some->zW
open Array renaming getElem?_eq_getElem->zC,getElem?_toList->zN
open Option.some renaming injEq->zE
namespace Go.Am
open Go.WideShapes Go.ChangeShapes
def UD (g:Bool)(h:List AV):AV:=if g then .agg h else h.headD .undef
def WB (P:Program)(t:TypeId):Bool:=(Xr P t).getD false
def BB (P:Program)(L:List Nat)(t:TypeId):Bool :=
 match P.underlying t with
 |some .bool|some (.int _)|some .string=>true
 |some (.pointer e)|some (.slice e)=>L.contains e&&decide (0<P.cellsOf e)
 |some (.struct fs)=>fs.toList.all fun f=>L.contains f.type
 |some (.array _ e)=>L.contains e
 |_=>false
def TV {H:Type}(P:Program):Nat->TypeId->DataW H->List AV->Prop
 |0,_,_,_=>False
 |n+1,t,d,as =>
  match P.underlying t with
  |some .bool=>∃ b,d=.lit (.bool b)/\as=[.bool b]
  |some (.int k)=>∃ m,d=.lit (.int k m)/\as=[.int k m]/\(Lit.int k m).wf=true
  |some .string=>∃ s:List UInt8,d=.lit (.string s)/\as=[.str s]/\s.length<=maxLen
  |some (.pointer e)=>d=.nil/\as=[.nilp]\/∃ d' cells,d=.ptr d'/\as=[.vp cells]/\TV P n e d' cells
  |some (.slice e)=>d=.nil/\as=[.nils]\/∃ h u l,d=.slice h u/\as=[.vs (P.cellsOf e) .no l]/\l.length=h.length/\l.length<=maxLen /\
   ∀ (i:Nat) (x:AV) (d':DataW H),l[i]?=some x->h[i]?=some d'->∃ j,x=UD (WB P e) j/\TV P n e d' j
  |some (.struct fs)=>∃ (g:List (DataW H)) (parts:List (List AV)),d=.agg g/\as=parts.flatten/\parts.length=fs.size/\g.length=fs.size /\
   ∀ (i:Nat) (f:Field) (p:List AV) (d':DataW H),fs[i]?=some f->parts[i]?=some p->g[i]?=some d'->TV P n f.type d' p
  |some (.array m e)=>∃ (g:List (DataW H)) (parts:List (List AV)),d=.agg g/\as=parts.flatten/\parts.length=m/\g.length=m /\
   ∀ (i:Nat) (p:List AV) (d':DataW H),parts[i]?=some p->g[i]?=some d'->TV P n e d' p
  |_=>False
section
variable {H:Type}{enc:TypeId×Value->H}{P:Program}{W:World}{S:Snap}
def CRel (S:Snap)(g:List AV)(h:List Value):Prop:=g.length=h.length/\g.all AV.isCell=true/\∀ (i:Nat) (a:AV) (v:Value),g[i]?=some a->h[i]?=some v->VRel S a v
theorem CRel.one {a:AV}{v:Value}(h:VRel S a v)(u:a.isCell=true):CRel S [a] [v]:=by
 refine⟨rfl,by simp[u],fun i x y g j=>?_⟩
 cases i with
 |zero =>
  simp only[zL,zE]at g j;subst g j;exact h
 |succ i=>simp at g
theorem Tp {base:Nat}{a:Addr}{n:Nat}{g:List Value}(h:W.cells? base a n=some g):g.length=n/\∀ i,i<n->W.cell? (a.add i)=g[i]?:=by
 unfold World.cells? at h;split at h
 ·obtain⟨j,u⟩:=JO h;simp only[List.length_range]at j;refine⟨j,fun i hi=>?_⟩;obtain⟨b,w,y⟩:=u i i (by simp[hi]);rw[w,y]
 ·cases h
theorem ZgF {a:Addr}{v:Value}(h:W.cell? a=some v):a.spot=none/\a.block<W.heap.size:=by
 unfold World.cell? at h;split at h
 ·rename_i c _ _ j;split at h
  ·cases h
  ·rename_i u;refine⟨by simpa using u,?_⟩;rcases Nat.lt_or_ge a.block W.heap.size with g|g
   ·exact g
   ·rw[Array.getElem?_eq_none g]at j;cases j
 ·cases h
theorem CRel.parts {parts:List (List AV)}{u:List Value}(g:u.length=(parts.map zF).sum)
 (h:∀ (j:Nat) (p:List AV),parts[j]?=some p->CRel S p ((u.drop ((parts.take j).map zF).sum).take p.length)):CRel S parts.flatten u:=by
 induction parts generalizing u with
 |nil =>
  simp only[zR,zS]at g;exact⟨by simp[g],by simp,by simp⟩
 |cons p D C =>
  have y:=h 0 p rfl;simp only[List.take_zero,zR,zS,List.drop_zero]at y;simp only[zX,zP]at g
  have z:CRel S D.flatten (u.drop p.length):=by
   refine C (by simp;omega) fun j q B=>?_;have:=h (j+1) q (by simpa using B);simpa[List.drop_drop]using this
  refine⟨by have:=z.1;simp only[zI,List.length_append,this,zK];omega,by simp only[zI,List.all_append,y.2.1,z.2.1,Bool.and_self],fun i a v w A=>?_⟩;simp only[zI]at w;by_cases hi:i<p.length
  ·rw[zJ hi]at w;refine y.2.2 i a v w ?_;rw[List.getElem?_take_of_lt hi];exact A
  ·rw[zG (by omega)]at w;refine z.2.2 _ a v w ?_;rw[List.getElem?_drop,show p.length+(i-p.length)=i by omega];exact A
theorem Ib {α:Type}{n:Nat}{Q:Nat->α->Prop}(h:∀ i,i<n->∃ a,Q i a):∃ l:List α,l.length=n/\∀ (i:Nat) (a:α),l[i]?=some a->Q i a:=by
 induction n with
 |zero=>exact⟨[],rfl,by simp⟩
 |succ n z =>
  obtain⟨l,u,w⟩:=z fun i hi=>h i (by omega);obtain⟨a,y⟩:=h n (by omega);refine⟨l++[a],by simp[u],fun i x g=>?_⟩;by_cases hi:i<n
  ·rw[zJ (by omega)]at g;exact w i x g
  ·rw[zG (by omega)]at g;have:=Zg g;simp at this;have j:i=n:=by omega
   subst j;simp[u]at g;subst g;exact y
theorem ZoR (l:List Nat)(j x:Nat)(h:l[j]?=some x):(l.take j).sum+x<=l.sum:=by
 induction l generalizing j with
 |nil=>simp at h
 |cons a l g =>
  cases j with
  |zero =>
   simp only[zL,zE]at h;subst h;simp
  |succ j =>
   have:=g j (by simpa using h);simp only[List.take_succ_cons,zP];omega
theorem TV.cells {n:Nat}{t:TypeId}{d:DataW H}{g:List AV}(h:TV P n t d g):(UD (WB P t) g).cells=g:=by
 cases n with
 |zero=>exact h.elim
 |succ n =>
  unfold TV at h;unfold WB Xr
  cases j:P.underlying t with
  |none=>simp[j]at h
  |some d =>
   rw[j]at h
   cases d with
   |bool=>obtain⟨b,_,rfl⟩:=h;rfl
   |int k=>obtain⟨m,_,rfl,_⟩:=h;rfl
   |string=>obtain⟨m,_,rfl,_⟩:=h;rfl
   |pointer e=>rcases h with ⟨_,rfl⟩|⟨_,c,_,rfl,_⟩ <;> rfl
   |slice e=>rcases h with ⟨_,rfl⟩|⟨_,_,c,_,rfl,_⟩ <;> rfl
   |struct fs=>rfl
   |array m e=>rfl
   |_=>exact h.elim
theorem Zwk (hl:laidOutB P=true)(hw:S.w=W)(hp:∀ b i,b<W.heap.size->S.pub b i){L:List Nat}(hL:L.all (BB P L)=true):∀ (N:Nat) (t:TypeId) (cs:List Value) (x:DataW H×List MemPlace),
 L.contains t=true->t<P.types.size->DataW.trod enc P W 0 (fun _=>true) true N t cs=some x->∃ z,TV P N t x.1 z/\CRel S z cs:=by
 intro N
 induction N with
 |zero=>intro t cs x _ _ h;simp[DataW.trod]at h
 |succ n ih =>
  intro t cs x ht ad h;have u:BB P L t=true:=zT.1 hL t (List.contains_iff_mem.1 ht);unfold BB at u;unfold TV
  cases U:P.underlying t with
  |none=>simp[U]at u
  |some d =>
   rw[U]at u
   cases d with
   |bool =>
    obtain⟨b,rfl,rfl⟩:=DataW.trod_bool U h;exact⟨_,⟨b,rfl,rfl⟩,.one (.bool b) rfl⟩
   |int k =>
    obtain⟨m,rfl,rfl,bb⟩:=DataW.trod_int U h;exact⟨_,⟨m,rfl,rfl,bb⟩,.one (.int k m) rfl⟩
   |string =>
    obtain⟨s,rfl,rfl,hm⟩:=DataW.trod_string U h;refine⟨_,⟨s.data.toList,rfl,rfl,?_⟩,.one (.str _ s rfl) rfl⟩;rw[Array.length_toList];exact hm
   |pointer e =>
    simp only at u;have D:=kid_pointer hl ad U;rcases DataW.trod_pointer U h with ⟨rfl,rfl⟩|⟨a,g,y,m,hm,rfl,rfl,K,E⟩
    ·exact⟨_,.inl ⟨rfl,rfl⟩,.one .nilp rfl⟩
    ·obtain rfl:n=m:=by omega
     simp only[zU,decide_eq_true_eq]at u;obtain⟨z,M,B⟩:=ih e g y u.1 D E;obtain⟨g1,g2⟩:=Tp K
     have X:∀ i,i<g.length->W.cell? (a.add i)=some (g.getD i undef):=fun i hi=>by
      rw[g2 i (by omega),zH,zA hi];rfl
     have h0:=ZgF (X 0 (by omega));obtain⟨b,off,sp⟩:=a;obtain rfl:sp=none:=h0.1;refine⟨_,.inr ⟨_,z,rfl,rfl,M⟩,.one (.vp z b off (fun i=>g.getD i undef) B.2.1 (fun i hi=>?_) (fun i c an=>?_)) rfl⟩
     ·have ak:i<g.length:=by have:=B.1;omega
      have:=X i ak;rw[YJ]at this;rw[hw];exact⟨this,hp _ _ h0.2⟩
     ·have ak:i<g.length:=by have:=B.1;have:=Zg an;omega
      refine B.2.2 i c _ an ?_;rw[zH,zA ak];rfl
   |slice e =>
    simp only at u;have D:=kid_slice hl ad U;rcases DataW.trod_slice U h with ⟨rfl,rfl⟩|⟨a,len,cap,elems,rest,m,hm,rfl,rfl,hb,bf,bd,aw,J,ba,_⟩
    ·exact⟨_,.inl ⟨rfl,rfl⟩,.one .nils rfl⟩
    ·obtain rfl:n=m:=by omega
     simp only[zU,decide_eq_true_eq]at u
     -- the elements
     obtain⟨V,q1,q2⟩:=Ib (n:=len) (Q:=fun j z=>∃ g,W.cells? 0 (a.add (j*P.cellsOf e)) (P.cellsOf e)=some g/\(∀ y,elems[j]?=some y->TV P n e y.1 z)/\(UD (WB P e) z).cells=z/\CRel S z g) (fun j A=>by
      have hg:=J j A;have F:j<elems.length:=by omega
      rw[zA F,zM]at hg;obtain⟨g,K,E⟩:=hg;obtain⟨z,M,B⟩:=ih e g _ u.1 D E;exact⟨z,g,K,fun y ae=>by rw[zA F]at ae;injection ae with ae;rw[<-ae];exact M,M.cells,B⟩)
     have R:∀ j g,W.cells? 0 (a.add (j*P.cellsOf e)) (P.cellsOf e)=some g->a.spot=none\/j≠0:=fun j g K=>by
      by_cases A:j=0
      ·subst A;obtain⟨g1,g2⟩:=Tp K;have:=g2 0 u.2;rw[zA (by omega)]at this;have:=(ZgF this).1;simp[Addr.add]at this;exact .inl this
      ·exact .inr A
     have ab:a.spot=none\/cap=0:=by
      by_cases be:0<len
      ·have F:0<V.length:=by omega
       obtain⟨g,K,_⟩:=q2 0 _ (zA F);exact .inl ((R 0 g K).resolve_right (by simp))
      ·by_cases au:cap=0
       ·exact .inr au
       ·obtain⟨bg,hr⟩:=ba rfl;have h0:=hr 0 (by omega);rw[zA (by omega),zM]at h0;obtain⟨g,K,_⟩:=h0;have ap:len=0:=by omega
        rw[ap]at K;exact .inl ((R 0 g K).resolve_right (by simp))
     have aq:(V.map (UD (WB P e))).length=len:=by simp[q1]
     have C:∀ (j:Nat) (x:AV),(V.map (UD (WB P e)))[j]?=some x->∃ z g,V[j]?=some z/\x=UD (WB P e) z/\x.cells=z/\W.cells? 0 (a.add (j*P.cellsOf e)) (P.cellsOf e)=some g/\(∀ y,elems[j]?=some y->TV P n e y.1 z)/\CRel S z g:=fun j x F=>by
      rw[zB,zD]at F;obtain⟨z,M,rfl⟩:=F;obtain⟨g,B,h3,h5,h4⟩:=q2 j z M;exact⟨z,g,M,rfl,h5,B,h3,h4⟩
     refine⟨_,.inr ⟨_,_,V.map (UD (WB P e)),rfl,rfl,by rw[aq];simp[aw],by omega,fun j x d' A I=>?_⟩,?_⟩
     ·obtain⟨z,g,_,B,_,_,h3,_⟩:=C j x A;rw[zB,zD]at I;obtain⟨y,E,rfl⟩:=I;exact⟨z,B,h3 y E⟩
     ·obtain⟨b,off,sp⟩:=a;rw[<-aq];refine .one (.vs _ .no _ b off cap (fun j i=>(W.cell? ⟨b,off+j*P.cellsOf e+i,none⟩).getD undef) (by omega) (fun x F=>?_) (fun j i A hi=>?_) (fun j x i c F K=>?_) trivial sp ab) rfl
      ·obtain⟨j,A⟩:=List.getElem?_of_mem F;obtain⟨z,g,_,_,B,Y,_,h4⟩:=C j x A;rw[B];exact⟨by rw[h4.1];exact (Tp Y).1,h4.2.1⟩
      ·obtain⟨z,g,_,_,B,Y,_,h4⟩:=C j _ (zA A);obtain rfl:sp=none:=ab.resolve_right (by omega);obtain⟨g1,g2⟩:=Tp Y;have:=g2 i hi;rw[YJ,YJ,zA (by omega)]at this;rw[hw,this];exact⟨rfl,hp _ _ (ZgF this).2⟩
      ·obtain⟨z,g,_,_,B,Y,_,h4⟩:=C j x F;have A:=Zg F;obtain rfl:sp=none:=ab.resolve_right (by omega);obtain⟨g1,g2⟩:=Tp Y;rw[B]at K;have hi:i<P.cellsOf e:=by have:=Zg K;have:=h4.1;omega
       have:=g2 i hi;rw[YJ,YJ,zA (by omega)]at this;simp only[this,Option.getD_some];exact h4.2.2 i c _ K (zA (by omega))
   |struct fs =>
    simp only[zT]at u;obtain⟨k1,k2,k3⟩:=kid_struct hl ad U;obtain⟨xs,m,hm,rfl,ai,am,J⟩:=DataW.trod_struct U h;obtain rfl:n=m:=by omega
    obtain⟨parts,q1,q2⟩:=Ib (n:=fs.size) (Q:=fun i p=>∀ f,fs[i]?=some f->(∀ y,xs[i]?=some y->TV P n f.type y.1 p)/\CRel S p ((cs.drop f.offset).take (P.cellsOf f.type))) (fun i hi=>by
     have Z:=zC hi;have F:i<xs.length:=by omega
     have hg:=J i _ Z;rw[zA F]at hg;have ag:fs[i]∈fs.toList:=by simp
     obtain⟨z,M,B⟩:=ih _ _ _ (u _ ag) (k1 _ ag) hg;refine⟨z,fun f ac=>?_⟩;rw[Z]at ac;injection ac with ac;subst ac;exact⟨fun y E=>by rw[zA F]at E;injection E with E;rw[<-E];exact M,B⟩)
    have aj:∀ (j:Nat) (p:List AV),parts[j]?=some p->∃ f,fs[j]?=some f/\fs.toList[j]?=some f:=fun j p A=>by
     have:=Zg A;have ao:j<fs.size:=by omega
     exact⟨fs[j],zC ao,by rw[zN];exact zC ao⟩
    -- the lengths of the parts
    have al:parts.map zF=fs.toList.map fun f=>P.cellsOf f.type:=by
     apply List.ext_getElem?;intro j;by_cases A:j<fs.size
     ·have aa:j<parts.length:=by omega
      have Z:=zC A;have T:fs.toList[j]?=some fs[j]:=by rw[zN];exact Z
      have K:=(q2 j _ (zA aa) _ Z).2.1;have ho:=k3 j _ T;have D:=ZoR (fs.toList.map fun f=>P.cellsOf f.type) j (P.cellsOf fs[j].type) (by rw[zB,T];rfl);rw[<-zQ,<-ho,<-k2,<-ai]at D;rw[zB,zB,T,zA aa];simp only[zW,zE];rw[K,zV,zK];omega
     ·rw[zO (by simp;omega),zO (by simp;omega)]
    have ar:∀ (j:Nat) (f:Field),fs.toList[j]?=some f->f.offset=((parts.take j).map zF).sum:=fun j f Z=>by
     rw[k3 j f Z,zQ,zQ,al]
    refine⟨_,⟨_,parts,rfl,rfl,q1,by simp[am],fun i f p d' Z ay I=>by rw[zB,zD]at I;obtain⟨y,E,rfl⟩:=I;exact (q2 i p ay f Z).1 y E⟩,.parts (by rw[al,<-k2];exact ai) fun j p A=>?_⟩;obtain⟨f,Z,T⟩:=aj j p A;have hr:=(q2 j p A f Z).2
    have O:p.length=P.cellsOf f.type:=by
     have M:(parts.map zF)[j]?=some p.length:=by rw[zB,A];rfl
     rw[al,zB,T]at M;simp only[zW,zE]at M;exact M.symm
    rw[O,<-ar j f T];exact hr
   |array m e =>
    simp only at u;obtain⟨D,az⟩:=kid_array hl ad U;obtain⟨xs,m',hm,rfl,ai,am,J⟩:=DataW.trod_array U h;obtain rfl:n=m':=by omega
    obtain⟨parts,q1,q2⟩:=Ib (n:=m) (Q:=fun i p=>(∀ y,xs[i]?=some y->TV P n e y.1 p)/\CRel S p ((cs.drop (i*P.cellsOf e)).take (P.cellsOf e))) (fun i hi=>by
     have hg:=J i hi;have F:i<xs.length:=by omega
     rw[zA F]at hg;obtain⟨z,M,B⟩:=ih _ _ _ u D hg;exact⟨z,fun y E=>by rw[zA F]at E;injection E with E;rw[<-E];exact M,B⟩)
    have O:∀ (j:Nat) (p:List AV),parts[j]?=some p->p.length=P.cellsOf e:=fun j p A=>by
     have ax:=Zg A;have:=(q2 j p A).2.1;have D:(j+1)*P.cellsOf e<=m*P.cellsOf e:=Nat.mul_le_mul_right _ (by omega);rw[zY]at D;rw[this,zV,zK];omega
    have ah:∀ j,j<=m->((parts.take j).map zF).sum=j*P.cellsOf e:=fun j=>by
     induction j with
     |zero=>intro _;simp
     |succ j bc =>
      intro A;have aa:j<parts.length:=by omega
      rw[List.take_add_one,zA aa];simp only[Option.toList_some,List.map_append,zX,zR,List.sum_append,zP,zS];rw[bc (by omega),O j _ (zA aa),zY];omega
    have af:=ah m (Nat.le_refl _);rw[<-q1,List.take_length,q1]at af;refine⟨_,⟨_,parts,rfl,rfl,q1,by simp[am],fun j p d' A I=>?_⟩,.parts (by rw[af];omega) fun j p A=>?_⟩
    ·rw[zB,zD]at I;obtain⟨y,E,rfl⟩:=I;exact (q2 j p A).1 y E
    ·have ax:=Zg A;rw[ah j (by omega),O j p A];exact (q2 j p A).2
   |_=>simp at u
end
end Go.Am
