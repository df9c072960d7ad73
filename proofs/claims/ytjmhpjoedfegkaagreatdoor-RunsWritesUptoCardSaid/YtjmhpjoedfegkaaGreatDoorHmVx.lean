/- THE ABSTRACT MACHINE -/
import Derived.Test.YtjmhpjoedfegkaaGreatDoorHmUx
import Derived.ProofKit
import Derived.Below
import Derived.ChangeSame
open Option renaming some->N
open Bool renaming true->O
open List renaming length->Z
open List renaming getElem?_cons_zero->zB,append_nil->zC,all_eq_true->zE
open Array renaming getD_eq_getD_getElem?->zA
open Option.some renaming injEq->zD
namespace Go.Am
open Go.WideShapes Go.ChangeShapes Go.ChangeAt RowKit
section
variable {H:Type}{enc:TypeId×Value->H}{P:Program}{W:World}{S:Snap}
def AT {H:Type}(P:Program)(t:TypeId)(d:DataW H)(a:AV):Prop:=∃ n h,TV P n t d h/\a=Ul (WD P t) h
def ZAZ:TypeDesc->Bool
 |.struct _=>O
 |.array _ _=>O
 |_=>false
theorem ZvA {t:TypeId}{d:TypeDesc}(h:P.underlying t=N d):WD P t=ZAZ d:=by
 unfold WD XD;rw[h];cases d <;> rfl
theorem Zyp (hl:laidOutB P=O)(hw:S.w=W)(hp:∀ b i,b<W.heap.size->S.pub b i){L:dv}(K:L.all (BV P L)=O){r:Reach}{T:Nat}{t:TypeId}{v:Value}{d:DataW H}{ps:List MemPlace}
 (R:L.contains t=O) (F:t<P.types.size) (j:Value.okWide P W r T t v) (hd:DataW.Trod enc P W 0 (λ_=>O) O t v d ps):∃ a,AT P t d a/\VRel S a v:=by
 obtain⟨n,hn⟩:=hd;obtain⟨D,h1,C⟩:=Zxj hl hw hp K n t _ _ R F hn;refine⟨_,⟨n,D,h1,rfl⟩,?_⟩;have B:BV P L t=O:=zE.1 K t (List.contains_iff_mem.1 R);unfold BV at B
 have one:WD P t=false->v.cells=#[v]->VRel S (Ul (WD P t) D) v:=by
  intro E hv;rw[E];rw[hv]at C;have z:=C.1;simp at z;obtain⟨x,rfl⟩:=List.length_eq_one_iff.1 z;exact C.2.2 0 x v rfl rfl
 have agg:WD P t=O->(∃ A,v=.agg A)->VRel S (Ul (WD P t) D) v:=by
  rintro E ⟨A,rfl⟩
  rw[E];refine .agg D A C.2.1 ?_ λi c w hc G=>?_
  ·have:=C.1;simp[Value.cells]at this;exact this.symm
  ·refine C.2.2 i c w hc ?_;simpa[Value.cells]using G
 cases y:P.underlying t with
 |none=>simp[y]at B
 |some V =>
  have u:=ZvA y
  cases V with
  |bool=>obtain⟨b,rfl⟩:=okWide_bool y j;exact one u rfl
  |int k=>obtain⟨b,rfl⟩:=okWide_int y j;exact one u rfl
  |string=>obtain⟨b,rfl⟩:=okWide_string y j;exact one u rfl
  |pointer e=>obtain⟨b,rfl⟩:=okWide_pointer y j;exact one u rfl
  |slice e=>obtain⟨b,l,c,rfl⟩:=okWide_slice y j;exact one u rfl
  |struct fs=>obtain⟨A,h,_⟩:=okWide_struct y j;exact agg u ⟨A,h⟩
  |array n e =>
   simp only[Value.okWide,y]at j;obtain⟨A,h,_⟩:=j;exact agg u ⟨A,h⟩
  |_=>simp[y]at B
theorem ZvP (hl:laidOutB P=O)(hw:S.w=W)(hp:∀ b i,b<W.heap.size->S.pub b i){L:dv}(hL:L.all (BV P L)=O){r:Reach}{V:Nat}:∀ (y:List TypeId) (vs:List Value) (C:List (DataW H)) (R:List MemPlace),
 (∀ t∈y,L.contains t=O/\t<P.types.size)->(∀ (j:Nat) (t:TypeId) (v:Value),y[j]?=N t->vs[j]?=N v->Value.okWide P W r V t v)->DataW.TrodAll enc P W 0 (λ_=>O) O y vs C R ->
 Z vs=Z y/\Z C=Z y/\∃ u:du,Z u=Z y/\(∀ (j:Nat) (t:TypeId) (d:DataW H) (a:AV),y[j]?=N t->C[j]?=N d->u[j]?=N a->AT P t d a)/\(∀ (j:Nat) (a:AV) (v:Value),u[j]?=N a->vs[j]?=N v->VRel S a v):=by
 intro y
 induction y with
 |nil =>
  intro vs C R _ _ h;obtain⟨rfl,rfl,rfl⟩:=trodAll_nil h;exact⟨rfl,rfl,[],rfl,dh,dh⟩
 |cons t y ih =>
  intro vs C R E z h;obtain⟨v,T,d,F,p,q,rfl,rfl,rfl,h1,h2⟩:=trodAll_cons h;obtain⟨ht,K⟩:=E t dh;obtain⟨a,ha,hr⟩:=Zyp hl hw hp hL ht K (z 0 t v rfl rfl) h1;obtain⟨q1,q2,u,q3,q4,q5⟩:=ih T F q (λt h=>E t (by simp[h])) (λj t v D hv=>z (j+1) t v (by simpa using D) (by simpa using hv)) h2;refine⟨by simp[q1],by simp[q2],a::u,by simp[q3],λj t' d' x D G B=>?_,λj x w B A=>?_⟩
  ·cases j with
   |zero =>
    simp only[zB,zD]at D G B;subst D G B;exact ha
   |succ j=>exact q4 j t' d' x (by simpa using D) (by simpa using G) (by simpa using B)
  ·cases j with
   |zero =>
    simp only[zB,zD]at B A;subst B A;exact hr
   |succ j=>exact q5 j x w (by simpa using B) (by simpa using A)
theorem ZlR (R:laidOutB P=O){E:World}(L:Below W.heap.size W E)(F:Nat->Bool):∀ (y:List TypeId) (vs:List Value) (B:List (DataW H)) (w:List MemPlace),
 (∀ t∈y,P.readableRec t=O/\t<P.types.size)->DataW.TrodAll enc P W 0 (λ_=>O) O y vs B w->(∀ p∈w,p.block<W.heap.size)->(∀ p∈w,F p.block=O)->DataW.TrodAll enc P E 0 F O y vs B w:=by
 intro y
 induction y with
 |nil =>
  intro vs B w _ h _ _;obtain⟨rfl,rfl,rfl⟩:=trodAll_nil h;rfl
 |cons t y T =>
  intro vs B w j h z A;obtain⟨v,D,d,C,p,q,rfl,rfl,rfl,G,K⟩:=trodAll_cons h;refine trodAll_cons_mk (WideElems.Trod_stays R (j t dh).1 (j t dh).2 G (λx u=>L.same (z x (by simp[u]))) (λx u=>A x (by simp[u]))) ?_;exact T D C q (λt h=>j t (by simp[h])) K (λx u=>z x (by simp[u])) (λx u=>A x (by simp[u]))
end
def start (W:World):Snap:={ w:=W,phi:=λ_=>none,pub:=λb _=>b<W.heap.size,tk:=λ_=>none,lim:=0 }
theorem Zv8 (W:World):Inv W (start W) [] :=
 ⟨Below.refl _ _,dh,λ_ _=>⟨rfl,rfl⟩,by simp[start],by simp[start],by simp[start],λ_ _ h=>h,by simp[start],by simp[start],Nat.zero_le _⟩
theorem Zr7 {C:Cfg}{W:World}(h:∀ g j,C.glob g=N j->Sc 0 (.vp j)/\j.all AV.isCell=O/\∃ (vs:Array Value) (el:TypeId) (fr:Nat×Nat),W.heap[g]?=N (.cells vs el fr)/\vs.size=Z j /\
 ∀ (i:Nat) (c:AV) (v:Value),j[i]?=N c->vs[i]?=N v->VRel (start W) c v):GlobOk C (start W):=by
 intro g j F;obtain⟨B,D,vs,el,fr,y,z,E⟩:=h g j F;have u:g<W.heap.size:=(Array.getElem?_eq_some_iff.1 y).1;have A:∀ i,W.cell? ⟨g,i,none⟩=vs[i]?:=λi=>by simp[World.cell?,y]
 refine⟨.vp j g 0 (λi=>vs.getD i undef) D (λi hi=>⟨?_,u⟩) (λi c hi=>?_),B,vs,z,λi=>⟨u,A i⟩⟩
 ·show W.cell? _=_;rw[Nat.zero_add,A i];have:i<vs.size:=b5
  simp[zA,this]
 ·have w:i<vs.size:=by rw[z];exact Zq hi
  refine E i c _ hi ?_;simp[zA,w]
theorem Znd {H:Type}{enc:TypeId×Value->H}{C:Cfg}(hC:VG C){f:FuncId}{fn:Func}{s:ChangeSpec}{apart:Bool}(hl:laidOutB C.P=O){L:dv}(hL:L.all (BV C.P L)=O)
 (T:fn.params.toList.all (λt=>L.contains t&&decide (t<C.P.types.size)&&C.P.readableRec t)=O)
 (A:s.vars=[]) (y:∀ w:List (DataW H),Z w=Z fn.params.toList->s.fn H w={ results:=[.lit (.bool O)],args:=w })
 {rt:TypeId} (V:fn.resultTypes=#[rt]) (ab:C.P.underlying rt=N .bool)
 (K:List (DataW H)->Prop) (O6:∀ (w:List (DataW H)) (z:du),Z w=Z fn.params.toList->Z z=Z fn.params.toList->(∀ (j:Nat) (t:TypeId) (d:DataW H) (a:AV),fn.params.toList[j]?=N t->w[j]?=N d->z[j]?=N a->AT C.P t d a)->K w->∃ H',Za C f z []=N (.bool O,H'))
 (W:World) (base:Nat) (args:Array Value) (w gs:List (DataW H)) (B:List MemPlace)
 (aa:∀ (j:Nat) t v,fn.params[j]?=N t->args[j]?=N v->Value.okWide C.P W .any base t v)
 (hW:DataW.Whole enc C.P fn.params.toList s.vars apart W args.toList w gs B) (hK:K w) (hg:GlobOk C (start W)) :
 Calls C.P f args W λe W'=>∃ v,e=.returned v/\s.post enc C.P fn apart O false false W args v W':=by
 have G:=hW;obtain⟨p,q,hA,hV,rfl,ad,ae⟩:=hW;rw[A]at hV;obtain⟨rfl,rfl⟩:=trodVars_none hV
 have D:∀ t∈fn.params.toList,L.contains t=O/\t<C.P.types.size/\C.P.readableRec t=O:=λt F=>by
  have:=zE.1 T t F;simpa[and_assoc]using this
 obtain⟨q1,q2,z,q3,q4,q5⟩:=ZvP (S:=start W) hl rfl (λ_ _ h=>h) hL _ _ _ _ (λt F=>⟨(D t F).1,(D t F).2.1⟩) (λj t v hj hv=>aa j t v (by simpa using hj) (by simpa using hv)) hA;obtain⟨H',E⟩:=O6 w z q2 q3 q4 hK;have R:∀ x∈p++[],x.block<W.heap.size:=λx hx=>G.lt x hx;refine (aK (W0:=W) hC f z [] H' _ E (start W) args (Zv8 W) hg (by rw[<-Array.length_toList,q1,q3]) (λj a u ha hu=>q5 j a u ha (by simpa using hu))).mono λe W' h=>?_;obtain⟨v',S',he,ac,_,hI,hv⟩:=h;cases hv with|bool _ =>
 have hb:Below W.heap.size W W':=by rw[<-ac];exact hI.below
 refine⟨_,he,w,[],p++[],[],p,[],G,?_,?_,?_,hb.frame _,λh=>by cases h⟩
 ·rw[zC,y w q2,V];exact trodAll_cons_mk (shut_bool ab O) trodAll_mk0
 ·rw[zC,y w q2];exact ZlR hl hb _ _ _ _ _ (λt F=>⟨(D t F).2.2,(D t F).2.1⟩) hA (λx hx=>R x (by simp[hx])) (λx hx=>by simpa using R x (by simp[hx]))
 ·rw[zC,y w q2,A];rfl
def Kf (P:Program)(t:TypeId):Option dv :=
 match P.underlying t with
 |some (.struct fs)=>N (fs.toList.map (·.type))
 |_=>none
section
variable {H:Type}{P:Program}{d:DataW H}
theorem TV.int {n:Nat}{t:TypeId}{k:IntKind}{j:du}(u:P.underlying t=N (.int k))(h:TV P n t d j):∃ m,d=.lit (.int k m)/\j=[.int k m]/\(Lit.int k m).wf=O:=by
 cases n with
 |zero=>exact h.elim
 |succ n=>unfold TV at h;rw[u]at h;exact h
theorem TV.bool {n:Nat}{t:TypeId}{j:du}(u:P.underlying t=N .bool)(h:TV P n t d j):∃ m,d=.lit (.bool m)/\j=[.bool m]:=by
 cases n with
 |zero=>exact h.elim
 |succ n=>unfold TV at h;rw[u]at h;exact h
theorem TV.str {n:Nat}{t:TypeId}{j:du}(u:P.underlying t=N .string)(h:TV P n t d j):∃ s:dr,d=.lit (.string s)/\j=[.str s]/\Z s<=maxLen:=by
 cases n with
 |zero=>exact h.elim
 |succ n=>unfold TV at h;rw[u]at h;exact h
theorem TV.slice {n:Nat}{t e:TypeId}{j:du}(z:P.underlying t=N (.slice e))(h:TV P n t d j) :
 d=.nil/\j=[.nils]\/∃ u w l m,d=.slice u w/\j=[.vs (P.cellsOf e) .no l]/\Z l=Z u/\Z l<=maxLen/\∀ (i:Nat) (x:AV) (d':DataW H),l[i]?=N x->u[i]?=N d'->∃ y,x=Ul (WD P e) y/\TV P m e d' y:=by
 cases n with
 |zero=>exact h.elim
 |succ n =>
  unfold TV at h;rw[z]at h;exact h.imp id λ⟨u,w,l,a,b,c⟩=>⟨u,w,l,n,a,b,c⟩
theorem TV.fields {n:Nat}{t:TypeId}{A:dv}{w:du}(j:Kf P t=N A)(h:TV P n t d w) :
 ∃ (y:List (DataW H)) (parts:List du) (m:Nat),d=.agg y/\w=parts.flatten/\Z parts=Z A/\Z y=Z A /\
  ∀ (i:Nat) (u:TypeId) (p:du) (d':DataW H),A[i]?=N u->parts[i]?=N p->y[i]?=N d'->TV P m u d' p:=by
 cases n with
 |zero=>exact h.elim
 |succ n =>
  unfold TV at h;unfold Kf at j;split at j
  ·rename_i fs L;injection j with j;subst j;rw[L]at h;obtain⟨y,parts,B,C,D,E,F⟩:=h;refine⟨y,parts,n,B,C,by simp[D],by simp[E],λi u p d' z K G=>?_⟩;rw[List.getElem?_map,Option.map_eq_some_iff]at z;obtain⟨f,j,rfl⟩:=z;exact F i f p d' (by simpa using j) K G
  ·cases j
end
end Go.Am
