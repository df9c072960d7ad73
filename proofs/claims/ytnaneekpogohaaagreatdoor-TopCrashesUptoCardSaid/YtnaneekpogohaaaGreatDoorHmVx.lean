/- THE ABSTRACT MACHINE -/
import Derived.Test.YtnaneekpogohaaaGreatDoorHmUx
import Derived.ProofKit
import Derived.Below
import Derived.ChangeSame
open List renaming getElem?_cons_zero->zB,append_nil->zC,all_eq_true->zE
open Array renaming getD_eq_getD_getElem?->zA
open Option.some renaming injEq->zD
namespace Go.Am
open Go.WideShapes Go.ChangeShapes Go.ChangeAt RowKit
section
variable {H:Type}{enc:TypeId×Value->H}{P:Program}{W:World}{S:Snap}
def AT {H:Type}(P:Program)(t:TypeId)(d:DataW H)(a:AV):Prop:=∃ n g,TV P n t d g/\a=UD (WB P t) g
def ZzE:TypeDesc->Bool
 |.struct _=>true
 |.array _ _=>true
 |_=>false
theorem Zuw {t:TypeId}{d:TypeDesc}(h:P.underlying t=some d):WB P t=ZzE d:=by
 unfold WB Xr;rw[h];cases d <;> rfl
theorem Zxk (R:laidOutB P=true)(hw:S.w=W)(U:∀ b i,b<W.heap.size->S.pub b i){L:List Nat}(I:L.all (BB P L)=true){r:Reach}{K:Nat}{t:TypeId}{v:Value}{d:DataW H}{X:List MemPlace}
 (J:L.contains t=true) (E:t<P.types.size) (g:Value.okWide P W r K t v) (Q:DataW.Trod enc P W 0 (fun _=>true) true t v d X):∃ a,AT P t d a/\VRel S a v:=by
 obtain⟨n,T⟩:=Q;obtain⟨C,N,B⟩:=Zwk R hw U I n t _ _ J E T;refine⟨_,⟨n,C,N,rfl⟩,?_⟩;have A:BB P L t=true:=zE.1 I t (List.contains_iff_mem.1 J);unfold BB at A
 have one:WB P t=false->v.cells=#[v]->VRel S (UD (WB P t) C) v:=by
  intro D V;rw[D];rw[V]at B;have y:=B.1;simp at y;obtain⟨x,rfl⟩:=List.length_eq_one_iff.1 y;exact B.2.2 0 x v rfl rfl
 have agg:WB P t=true->(∃ z,v=.agg z)->VRel S (UD (WB P t) C) v:=by
  rintro D ⟨z,rfl⟩
  rw[D];refine .agg C z B.2.1 ?_ fun i c w O F=>?_
  ·have:=B.1;simp[Value.cells]at this;exact this.symm
  ·refine B.2.2 i c w O ?_;simpa[Value.cells]using F
 cases u:P.underlying t with
 |none=>simp[u]at A
 |some M =>
  have j:=Zuw u
  cases M with
  |bool=>obtain⟨b,rfl⟩:=okWide_bool u g;exact one j rfl
  |int k=>obtain⟨b,rfl⟩:=okWide_int u g;exact one j rfl
  |string=>obtain⟨b,rfl⟩:=okWide_string u g;exact one j rfl
  |pointer e=>obtain⟨b,rfl⟩:=okWide_pointer u g;exact one j rfl
  |slice e=>obtain⟨b,l,c,rfl⟩:=okWide_slice u g;exact one j rfl
  |struct fs=>obtain⟨z,h,_⟩:=okWide_struct u g;exact agg j ⟨z,h⟩
  |array n e =>
   simp only[Value.okWide,u]at g;obtain⟨z,h,_⟩:=g;exact agg j ⟨z,h⟩
  |_=>simp[u]at A
theorem ZuL (T:laidOutB P=true)(hw:S.w=W)(U:∀ b i,b<W.heap.size->S.pub b i){L:List Nat}(Q:L.all (BB P L)=true){r:Reach}{M:Nat}:∀ (u:List TypeId) (vs:List Value) (B:List (DataW H)) (J:List MemPlace),
 (∀ t∈u,L.contains t=true/\t<P.types.size)->(∀ (j:Nat) (t:TypeId) (v:Value),u[j]?=some t->vs[j]?=some v->Value.okWide P W r M t v)->DataW.TrodAll enc P W 0 (fun _=>true) true u vs B J ->
 vs.length=u.length/\B.length=u.length/\∃ g:List AV,g.length=u.length/\(∀ (j:Nat) (t:TypeId) (d:DataW H) (a:AV),u[j]?=some t->B[j]?=some d->g[j]?=some a->AT P t d a)/\(∀ (j:Nat) (a:AV) (v:Value),g[j]?=some a->vs[j]?=some v->VRel S a v):=by
 intro u
 induction u with
 |nil =>
  intro vs B J _ _ h;obtain⟨rfl,rfl,rfl⟩:=trodAll_nil h;exact⟨rfl,rfl,[],rfl,by simp,by simp⟩
 |cons t u Z =>
  intro vs B J D y h;obtain⟨v,K,d,E,p,q,rfl,rfl,rfl,N,O⟩:=trodAll_cons h;obtain⟨X,I⟩:=D t (by simp);obtain⟨a,R,V⟩:=Zxk T hw U Q X I (y 0 t v rfl rfl) N;obtain⟨q1,q2,g,q3,q4,q5⟩:=Z K E q (fun t h=>D t (by simp[h])) (fun j t v C Y=>y (j+1) t v (by simpa using C) (by simpa using Y)) O;refine⟨by simp[q1],by simp[q2],a::g,by simp[q3],fun j t' d' x C F A=>?_,fun j x w A z=>?_⟩
  ·cases j with
   |zero =>
    simp only[zB,zD]at C F A;subst C F A;exact R
   |succ j=>exact q4 j t' d' x (by simpa using C) (by simpa using F) (by simpa using A)
  ·cases j with
   |zero =>
    simp only[zB,zD]at A z;subst A z;exact V
   |succ j=>exact q5 j x w (by simpa using A) (by simpa using z)
theorem Zlr (K:laidOutB P=true){D:World}(J:Below W.heap.size W D)(E:Nat->Bool):∀ (w:List TypeId) (vs:List Value) (A:List (DataW H)) (u:List MemPlace),
 (∀ t∈w,P.readableRec t=true/\t<P.types.size)->DataW.TrodAll enc P W 0 (fun _=>true) true w vs A u->(∀ p∈u,p.block<W.heap.size)->(∀ p∈u,E p.block=true)->DataW.TrodAll enc P D 0 E true w vs A u:=by
 intro w
 induction w with
 |nil =>
  intro vs A u _ h _ _;obtain⟨rfl,rfl,rfl⟩:=trodAll_nil h;rfl
 |cons t w L =>
  intro vs A u g h y z;obtain⟨v,C,d,B,p,q,rfl,rfl,rfl,F,I⟩:=trodAll_cons h;refine trodAll_cons_mk (WideElems.Trod_stays K (g t (by simp)).1 (g t (by simp)).2 F (fun x j=>J.same (y x (by simp[j]))) (fun x j=>z x (by simp[j]))) ?_;exact L C B q (fun t h=>g t (by simp[h])) I (fun x j=>y x (by simp[j])) (fun x j=>z x (by simp[j]))
end
def start (W:World):Snap:={ w:=W,phi:=fun _=>none,pub:=fun b _=>b<W.heap.size,tk:=fun _=>none,lim:=0 }
theorem Zu9 (W:World):Inv W (start W) [] :=
 ⟨Below.refl _ _,by simp,fun _ _=>⟨rfl,rfl⟩,by simp[start],by simp[start],by simp[start],fun _ _ h=>h,by simp[start],by simp[start],Nat.zero_le _⟩
theorem Zqz {C:Cfg}{W:World}(h:∀ g j,C.glob g=some j->Sc 0 (.vp j)/\j.all AV.isCell=true/\∃ (vs:Array Value) (el:TypeId) (fr:Nat×Nat),W.heap[g]?=some (.cells vs el fr)/\vs.size=j.length /\
 ∀ (i:Nat) (c:AV) (v:Value),j[i]?=some c->vs[i]?=some v->VRel (start W) c v):GlobOk C (start W):=by
 intro g j F;obtain⟨B,D,vs,el,fr,y,z,E⟩:=h g j F;have u:g<W.heap.size:=(Array.getElem?_eq_some_iff.1 y).1;have A:∀ i,W.cell? ⟨g,i,none⟩=vs[i]?:=fun i=>by simp[World.cell?,y]
 refine⟨.vp j g 0 (fun i=>vs.getD i undef) D (fun i hi=>⟨?_,u⟩) (fun i c hi=>?_),B,vs,z,fun i=>⟨u,A i⟩⟩
 ·show W.cell? _=_;rw[Nat.zero_add,A i];have:i<vs.size:=by omega
  simp[zA,this]
 ·have w:i<vs.size:=by rw[z];exact Zg hi
  refine E i c _ hi ?_;simp[zA,w]
theorem ZmL {H:Type}{enc:TypeId×Value->H}{C:Cfg}(hC:Um C){f:FuncId}{fn:Func}{s:ChangeSpec}{apart:Bool}(hl:laidOutB C.P=true){L:List Nat}(hL:L.all (BB C.P L)=true)
 (J:fn.params.toList.all (fun t=>L.contains t&&decide (t<C.P.types.size)&&C.P.readableRec t)=true)
 (z:s.vars=[]) (w:∀ g:List (DataW H),g.length=fn.params.toList.length->s.fn H g={ results:=[.lit (.bool true)],args:=g })
 {rt:TypeId} (M:fn.resultTypes=#[rt]) (T:C.P.underlying rt=some .bool)
 (K:List (DataW H)->Prop) (Fd:∀ (g:List (DataW H)) (y:List AV),g.length=fn.params.toList.length->y.length=fn.params.toList.length->(∀ (j:Nat) (t:TypeId) (d:DataW H) (a:AV),fn.params.toList[j]?=some t->g[j]?=some d->y[j]?=some a->AT C.P t d a)->K g->∃ H',Zb C f y []=some (.bool true,H'))
 (W:World) (base:Nat) (args:Array Value) (g gs:List (DataW H)) (A:List MemPlace)
 (N:∀ (j:Nat) t v,fn.params[j]?=some t->args[j]?=some v->Value.okWide C.P W .any base t v)
 (Z:DataW.Whole enc C.P fn.params.toList s.vars apart W args.toList g gs A) (hK:K g) (hg:GlobOk C (start W)) :
 Calls C.P f args W fun e R=>∃ v,e=.returned v/\s.post enc C.P fn apart true false false W args v R:=by
 have F:=Z;obtain⟨p,q,X,Y,rfl,aa,ab⟩:=Z;rw[z]at Y;obtain⟨rfl,rfl⟩:=trodVars_none Y
 have B:∀ t∈fn.params.toList,L.contains t=true/\t<C.P.types.size/\C.P.readableRec t=true:=fun t E=>by
  have:=zE.1 J t E;simpa[and_assoc]using this
 obtain⟨q1,Q,y,q3,q4,q5⟩:=ZuL (S:=start W) hl rfl (fun _ _ h=>h) hL _ _ _ _ (fun t E=>⟨(B t E).1,(B t E).2.1⟩) (fun j t v hj U=>N j t v (by simpa using hj) (by simpa using U)) X;obtain⟨H',D⟩:=Fd g y Q q3 q4 hK;have I:∀ x∈p++[],x.block<W.heap.size:=fun x O=>F.lt x O;refine (ZfU (W0:=W) hC f y [] H' _ D (start W) args (Zu9 W) hg (by rw[<-Array.length_toList,q1,q3]) (fun j a u ha hu=>q5 j a u ha (by simpa using hu))).mono fun e R h=>?_;obtain⟨v',S',he,V,_,hI,U⟩:=h;cases U with|bool _ =>
 have hb:Below W.heap.size W R:=by rw[<-V];exact hI.below
 refine⟨_,he,g,[],p++[],[],p,[],F,?_,?_,?_,hb.frame _,fun h=>by cases h⟩
 ·rw[zC,w g Q,M];exact trodAll_cons_mk (shut_bool T true) trodAll_mk0
 ·rw[zC,w g Q];exact Zlr hl hb _ _ _ _ _ (fun t E=>⟨(B t E).2.2,(B t E).2.1⟩) X (fun x O=>I x (by simp[O])) (fun x O=>by simpa using I x (by simp[O]))
 ·rw[zC,w g Q,z];rfl
def Ka (P:Program)(t:TypeId):Option (List Nat) :=
 match P.underlying t with
 |some (.struct fs)=>some (fs.toList.map (·.type))
 |_=>none
section
variable {H:Type}{P:Program}{d:DataW H}
theorem TV.int {n:Nat}{t:TypeId}{k:IntKind}{g:List AV}(j:P.underlying t=some (.int k))(h:TV P n t d g):∃ m,d=.lit (.int k m)/\g=[.int k m]/\(Lit.int k m).wf=true:=by
 cases n with
 |zero=>exact h.elim
 |succ n=>unfold TV at h;rw[j]at h;exact h
theorem TV.bool {n:Nat}{t:TypeId}{g:List AV}(j:P.underlying t=some .bool)(h:TV P n t d g):∃ m,d=.lit (.bool m)/\g=[.bool m]:=by
 cases n with
 |zero=>exact h.elim
 |succ n=>unfold TV at h;rw[j]at h;exact h
theorem TV.str {n:Nat}{t:TypeId}{g:List AV}(j:P.underlying t=some .string)(h:TV P n t d g):∃ s:List UInt8,d=.lit (.string s)/\g=[.str s]/\s.length<=maxLen:=by
 cases n with
 |zero=>exact h.elim
 |succ n=>unfold TV at h;rw[j]at h;exact h
theorem TV.slice {n:Nat}{t e:TypeId}{g:List AV}(y:P.underlying t=some (.slice e))(h:TV P n t d g) :
 d=.nil/\g=[.nils]\/∃ j u l m,d=.slice j u/\g=[.vs (P.cellsOf e) .no l]/\l.length=j.length/\l.length<=maxLen/\∀ (i:Nat) (x:AV) (d':DataW H),l[i]?=some x->j[i]?=some d'->∃ w,x=UD (WB P e) w/\TV P m e d' w:=by
 cases n with
 |zero=>exact h.elim
 |succ n =>
  unfold TV at h;rw[y]at h;exact h.imp id fun⟨j,u,l,a,b,c⟩=>⟨j,u,l,n,a,b,c⟩
theorem TV.fields {n:Nat}{t:TypeId}{z:List Nat}{j:List AV}(g:Ka P t=some z)(h:TV P n t d j) :
 ∃ (w:List (DataW H)) (parts:List (List AV)) (m:Nat),d=.agg w/\j=parts.flatten/\parts.length=z.length/\w.length=z.length /\
  ∀ (i:Nat) (u:TypeId) (p:List AV) (d':DataW H),z[i]?=some u->parts[i]?=some p->w[i]?=some d'->TV P m u d' p:=by
 cases n with
 |zero=>exact h.elim
 |succ n =>
  unfold TV at h;unfold Ka at g;split at g
  ·rename_i fs J;injection g with g;subst g;rw[J]at h;obtain⟨w,parts,A,B,C,D,E⟩:=h;refine⟨w,parts,n,A,B,by simp[C],by simp[D],fun i u p d' y I F=>?_⟩;rw[List.getElem?_map,Option.map_eq_some_iff]at y;obtain⟨f,g,rfl⟩:=y;exact E i f p d' (by simpa using g) I F
  ·cases g
end
end Go.Am
