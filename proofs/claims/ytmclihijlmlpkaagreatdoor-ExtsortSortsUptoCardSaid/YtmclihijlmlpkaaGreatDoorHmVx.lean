/- THE ABSTRACT MACHINE -/
import Derived.Test.YtmclihijlmlpkaaGreatDoorHmUx
import Derived.ProofKit
import Derived.Below
import Derived.ChangeSame
open Option renaming some->N
open Bool renaming true->O
open List renaming length->Z
open List renaming getElem?_cons_zero->zB,append_nil->zC,all_eq_true->zE
open Array renaming getD_eq_getD_getElem?->zA
open Option.some renaming injEq->zD
namespace Go.Am
open Go.WideShapes Go.ChangeShapes Go.ChangeAt RowKit
section
variable {H:Type}{enc:TypeId×Value->H}{P:Program}{W:World}{S:Snap}
def AT {H:Type}(P:Program)(t:TypeId)(d:DataW H)(a:AV):Prop:=∃ n g,TV P n t d g/\a=U9 (WP P t) g
def ZAR:TypeDesc->Bool
 |.struct _=>O
 |.array _ _=>O
 |_=>false
theorem Zw1 {t:TypeId}{d:TypeDesc}(h:P.underlying t=N d):WP P t=ZAR d:=by
 unfold WP Xx;rw[h];cases d <;> rfl
theorem ZyF (hl:laidOutB P=O)(hw:S.w=W)(hp:∀ b i,b<W.heap.size->S.pub b i){L:da}(K:L.all (B1 P L)=O){r:Reach}{T:Nat}{t:TypeId}{v:Value}{d:DataW H}{ps:List MemPlace}
 (R:L.contains t=O) (E:t<P.types.size) (g:Value.okWide P W r T t v) (hd:DataW.Trod enc P W 0 (λ_=>O) O t v d ps):∃ a,AT P t d a/\VRel S a v:=by
 obtain⟨n,hn⟩:=hd;obtain⟨C,h1,B⟩:=ZxM hl hw hp K n t _ _ R E hn;refine⟨_,⟨n,C,h1,rfl⟩,?_⟩;have A:B1 P L t=O:=zE.1 K t (List.contains_iff_mem.1 R);unfold B1 at A
 have one:WP P t=false->v.cells=#[v]->VRel S (U9 (WP P t) C) v:=by
  intro D hv;rw[D];rw[hv]at B;have y:=B.1;simp at y;obtain⟨x,rfl⟩:=List.length_eq_one_iff.1 y;exact B.2.2 0 x v rfl rfl
 have agg:WP P t=O->(∃ z,v=.agg z)->VRel S (U9 (WP P t) C) v:=by
  rintro D ⟨z,rfl⟩
  rw[D];refine .agg C z B.2.1 ?_ λi c w hc F=>?_
  ·have:=B.1;simp[Value.cells]at this;exact this.symm
  ·refine B.2.2 i c w hc ?_;simpa[Value.cells]using F
 cases u:P.underlying t with
 |none=>simp[u]at A
 |some V =>
  have j:=Zw1 u
  cases V with
  |bool=>obtain⟨b,rfl⟩:=okWide_bool u g;exact one j rfl
  |int k=>obtain⟨b,rfl⟩:=okWide_int u g;exact one j rfl
  |string=>obtain⟨b,rfl⟩:=okWide_string u g;exact one j rfl
  |pointer e=>obtain⟨b,rfl⟩:=okWide_pointer u g;exact one j rfl
  |slice e=>obtain⟨b,l,c,rfl⟩:=okWide_slice u g;exact one j rfl
  |struct fs=>obtain⟨z,h,_⟩:=okWide_struct u g;exact agg j ⟨z,h⟩
  |array n e =>
   simp only[Value.okWide,u]at g;obtain⟨z,h,_⟩:=g;exact agg j ⟨z,h⟩
  |_=>simp[u]at A
theorem Zwg (hl:laidOutB P=O)(hw:S.w=W)(hp:∀ b i,b<W.heap.size->S.pub b i){L:da}(hL:L.all (B1 P L)=O){r:Reach}{V:Nat}:∀ (u:List TypeId) (vs:List Value) (B:List (DataW H)) (R:List MemPlace),
 (∀ t∈u,L.contains t=O/\t<P.types.size)->(∀ (j:Nat) (t:TypeId) (v:Value),u[j]?=N t->vs[j]?=N v->Value.okWide P W r V t v)->DataW.TrodAll enc P W 0 (λ_=>O) O u vs B R ->
 Z vs=Z u/\Z B=Z u/\∃ g:c6,Z g=Z u/\(∀ (j:Nat) (t:TypeId) (d:DataW H) (a:AV),u[j]?=N t->B[j]?=N d->g[j]?=N a->AT P t d a)/\(∀ (j:Nat) (a:AV) (v:Value),g[j]?=N a->vs[j]?=N v->VRel S a v):=by
 intro u
 induction u with
 |nil =>
  intro vs B R _ _ h;obtain⟨rfl,rfl,rfl⟩:=trodAll_nil h;exact⟨rfl,rfl,[],rfl,cn,cn⟩
 |cons t u ih =>
  intro vs B R D y h;obtain⟨v,T,d,E,p,q,rfl,rfl,rfl,h1,h2⟩:=trodAll_cons h;obtain⟨ht,K⟩:=D t cn;obtain⟨a,ha,hr⟩:=ZyF hl hw hp hL ht K (y 0 t v rfl rfl) h1;obtain⟨q1,q2,g,q3,q4,q5⟩:=ih T E q (λt h=>D t (by simp[h])) (λj t v C hv=>y (j+1) t v (by simpa using C) (by simpa using hv)) h2;refine⟨by simp[q1],by simp[q2],a::g,by simp[q3],λj t' d' x C F A=>?_,λj x w A z=>?_⟩
  ·cases j with
   |zero =>
    simp only[zB,zD]at C F A;subst C F A;exact ha
   |succ j=>exact q4 j t' d' x (by simpa using C) (by simpa using F) (by simpa using A)
  ·cases j with
   |zero =>
    simp only[zB,zD]at A z;subst A z;exact hr
   |succ j=>exact q5 j x w (by simpa using A) (by simpa using z)
theorem Zmr (R:laidOutB P=O){D:World}(L:Below W.heap.size W D)(E:Nat->Bool):∀ (w:List TypeId) (vs:List Value) (A:List (DataW H)) (u:List MemPlace),
 (∀ t∈w,P.readableRec t=O/\t<P.types.size)->DataW.TrodAll enc P W 0 (λ_=>O) O w vs A u->(∀ p∈u,p.block<W.heap.size)->(∀ p∈u,E p.block=O)->DataW.TrodAll enc P D 0 E O w vs A u:=by
 intro w
 induction w with
 |nil =>
  intro vs A u _ h _ _;obtain⟨rfl,rfl,rfl⟩:=trodAll_nil h;rfl
 |cons t w T =>
  intro vs A u g h y z;obtain⟨v,C,d,B,p,q,rfl,rfl,rfl,F,K⟩:=trodAll_cons h;refine trodAll_cons_mk (WideElems.Trod_stays R (g t cn).1 (g t cn).2 F (λx j=>L.same (y x (by simp[j]))) (λx j=>z x (by simp[j]))) ?_;exact T C B q (λt h=>g t (by simp[h])) K (λx j=>y x (by simp[j])) (λx j=>z x (by simp[j]))
end
def start (W:World):Snap:={ w:=W,phi:=λ_=>none,pub:=λb _=>b<W.heap.size,tk:=λ_=>none,lim:=0 }
theorem ZvB (W:World):Inv W (start W) [] :=
 ⟨Below.refl _ _,cn,λ_ _=>⟨rfl,rfl⟩,by simp[start],by simp[start],by simp[start],λ_ _ h=>h,by simp[start],by simp[start],Nat.zero_le _⟩
theorem ZrO {C:Cfg}{W:World}(h:∀ g j,C.glob g=N j->Sc 0 (.vp j)/\j.all AV.isCell=O/\∃ (vs:Array Value) (el:TypeId) (fr:Nat×Nat),W.heap[g]?=N (.cells vs el fr)/\vs.size=Z j /\
 ∀ (i:Nat) (c:AV) (v:Value),j[i]?=N c->vs[i]?=N v->VRel (start W) c v):GlobOk C (start W):=by
 intro g j F;obtain⟨B,D,vs,el,fr,y,z,E⟩:=h g j F;have u:g<W.heap.size:=(Array.getElem?_eq_some_iff.1 y).1;have A:∀ i,W.cell? ⟨g,i,none⟩=vs[i]?:=λi=>by simp[World.cell?,y]
 refine⟨.vp j g 0 (λi=>vs.getD i undef) D (λi hi=>⟨?_,u⟩) (λi c hi=>?_),B,vs,z,λi=>⟨u,A i⟩⟩
 ·show W.cell? _=_;rw[Nat.zero_add,A i];have:i<vs.size:=cm
  simp[zA,this]
 ·have w:i<vs.size:=by rw[z];exact Zn hi
  refine E i c _ hi ?_;simp[zA,w]
theorem ZnO {H:Type}{enc:TypeId×Value->H}{C:Cfg}(hC:VX C){f:FuncId}{fn:Func}{s:ChangeSpec}{apart:Bool}(hl:laidOutB C.P=O){L:da}(hL:L.all (B1 C.P L)=O)
 (T:fn.params.toList.all (λt=>L.contains t&&decide (t<C.P.types.size)&&C.P.readableRec t)=O)
 (z:s.vars=[]) (w:∀ g:List (DataW H),Z g=Z fn.params.toList->s.fn H g={ results:=[.lit (.bool O)],args:=g })
 {rt:TypeId} (V:fn.resultTypes=#[rt]) (ab:C.P.underlying rt=N .bool)
 (K:List (DataW H)->Prop) (TS:∀ (g:List (DataW H)) (y:c6),Z g=Z fn.params.toList->Z y=Z fn.params.toList->(∀ (j:Nat) (t:TypeId) (d:DataW H) (a:AV),fn.params.toList[j]?=N t->g[j]?=N d->y[j]?=N a->AT C.P t d a)->K g->∃ H',Zb C f y []=N (.bool O,H'))
 (W:World) (base:Nat) (args:Array Value) (g gs:List (DataW H)) (A:List MemPlace)
 (aa:∀ (j:Nat) t v,fn.params[j]?=N t->args[j]?=N v->Value.okWide C.P W .any base t v)
 (hW:DataW.Whole enc C.P fn.params.toList s.vars apart W args.toList g gs A) (hK:K g) (hg:GlobOk C (start W)) :
 Calls C.P f args W λe W'=>∃ v,e=.returned v/\s.post enc C.P fn apart O false false W args v W':=by
 have F:=hW;obtain⟨p,q,hA,hV,rfl,ad,ae⟩:=hW;rw[z]at hV;obtain⟨rfl,rfl⟩:=trodVars_none hV
 have B:∀ t∈fn.params.toList,L.contains t=O/\t<C.P.types.size/\C.P.readableRec t=O:=λt E=>by
  have:=zE.1 T t E;simpa[and_assoc]using this
 obtain⟨q1,q2,y,q3,q4,q5⟩:=Zwg (S:=start W) hl rfl (λ_ _ h=>h) hL _ _ _ _ (λt E=>⟨(B t E).1,(B t E).2.1⟩) (λj t v hj hv=>aa j t v (by simpa using hj) (by simpa using hv)) hA;obtain⟨H',D⟩:=TS g y q2 q3 q4 hK;have R:∀ x∈p++[],x.block<W.heap.size:=λx hx=>F.lt x hx;refine (Ze6 (W0:=W) hC f y [] H' _ D (start W) args (ZvB W) hg (by rw[<-Array.length_toList,q1,q3]) (λj a u ha hu=>q5 j a u ha (by simpa using hu))).mono λe W' h=>?_;obtain⟨v',S',he,ac,_,hI,hv⟩:=h;cases hv with|bool _ =>
 have hb:Below W.heap.size W W':=by rw[<-ac];exact hI.below
 refine⟨_,he,g,[],p++[],[],p,[],F,?_,?_,?_,hb.frame _,λh=>by cases h⟩
 ·rw[zC,w g q2,V];exact trodAll_cons_mk (shut_bool ab O) trodAll_mk0
 ·rw[zC,w g q2];exact Zmr hl hb _ _ _ _ _ (λt E=>⟨(B t E).2.2,(B t E).2.1⟩) hA (λx hx=>R x (by simp[hx])) (λx hx=>by simpa using R x (by simp[hx]))
 ·rw[zC,w g q2,z];rfl
def GI (P:Program)(t:TypeId):Option da :=
 match P.underlying t with
 |some (.struct fs)=>N (fs.toList.map (·.type))
 |_=>none
section
variable {H:Type}{P:Program}{d:DataW H}
theorem TV.int {n:Nat}{t:TypeId}{k:IntKind}{g:c6}(j:P.underlying t=N (.int k))(h:TV P n t d g):∃ m,d=.lit (.int k m)/\g=[.int k m]/\(Lit.int k m).wf=O:=by
 cases n with
 |zero=>exact h.elim
 |succ n=>unfold TV at h;rw[j]at h;exact h
theorem TV.bool {n:Nat}{t:TypeId}{g:c6}(j:P.underlying t=N .bool)(h:TV P n t d g):∃ m,d=.lit (.bool m)/\g=[.bool m]:=by
 cases n with
 |zero=>exact h.elim
 |succ n=>unfold TV at h;rw[j]at h;exact h
theorem TV.str {n:Nat}{t:TypeId}{g:c6}(j:P.underlying t=N .string)(h:TV P n t d g):∃ s:cz,d=.lit (.string s)/\g=[.str s]/\Z s<=maxLen:=by
 cases n with
 |zero=>exact h.elim
 |succ n=>unfold TV at h;rw[j]at h;exact h
theorem TV.slice {n:Nat}{t e:TypeId}{g:c6}(y:P.underlying t=N (.slice e))(h:TV P n t d g) :
 d=.nil/\g=[.nils]\/∃ j u l m,d=.slice j u/\g=[.vs (P.cellsOf e) .no l]/\Z l=Z j/\Z l<=maxLen/\∀ (i:Nat) (x:AV) (d':DataW H),l[i]?=N x->j[i]?=N d'->∃ w,x=U9 (WP P e) w/\TV P m e d' w:=by
 cases n with
 |zero=>exact h.elim
 |succ n =>
  unfold TV at h;rw[y]at h;exact h.imp id λ⟨j,u,l,a,b,c⟩=>⟨j,u,l,n,a,b,c⟩
theorem TV.fields {n:Nat}{t:TypeId}{z:da}{j:c6}(g:GI P t=N z)(h:TV P n t d j) :
 ∃ (w:List (DataW H)) (parts:List c6) (m:Nat),d=.agg w/\j=parts.flatten/\Z parts=Z z/\Z w=Z z /\
  ∀ (i:Nat) (u:TypeId) (p:c6) (d':DataW H),z[i]?=N u->parts[i]?=N p->w[i]?=N d'->TV P m u d' p:=by
 cases n with
 |zero=>exact h.elim
 |succ n =>
  unfold TV at h;unfold GI at g;split at g
  ·rename_i fs L;injection g with g;subst g;rw[L]at h;obtain⟨w,parts,A,B,C,D,E⟩:=h;refine⟨w,parts,n,A,B,by simp[C],by simp[D],λi u p d' y K F=>?_⟩;rw[List.getElem?_map,Option.map_eq_some_iff]at y;obtain⟨f,g,rfl⟩:=y;exact E i f p d' (by simpa using g) K F
  ·cases g
end
end Go.Am
