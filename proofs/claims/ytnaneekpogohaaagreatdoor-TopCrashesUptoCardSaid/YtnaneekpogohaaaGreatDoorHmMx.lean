/- THE ABSTRACT MACHINE -/
import Derived.Test.YtnaneekpogohaaaGreatDoorHmFsx
import Derived.Scope
open List renaming getElem?_set_ne->zC,getD_eq_getElem?_getD->zD,getElem?_eq_getElem->zF,getElem?_eq_none->zH
open Nat renaming le_of_not_lt->zJ
open Bool renaming and_eq_true->zG
open Array renaming getElem?_eq_getElem->zE,length_toList->zI
open Option.some renaming injEq->zA
open Prod.mk renaming injEq->zB
namespace Go.Am
open RowKit
section
variable {C:Cfg}{call:ZF}{W0:World}{S0:Snap}{D:Act->Prop}
def FRel (S:Snap)(tm:List AV)(tmps:Array Value):Prop:=tm.length=tmps.size/\∀ (i:Nat) (a:AV) (v:Value),tm[i]?=some a->tmps[i]?=some v->VRel S a v
theorem FRel.mono {S g:Snap}(w:Ext S g){tm:List AV}{tmps:Array Value}(h:FRel S tm tmps):FRel g tm tmps:=⟨h.1,fun i a v j u=>(h.2 i a v j u).mono w⟩
theorem FRel.getD {S:Snap}{tm:List AV}{tmps:Array Value}(h:FRel S tm tmps)(t:Nat):VRel S (tm.getD t (.tuple [])) (tmps.getD t undef):=by
 by_cases j:t<tmps.size
 ·have g:t<tm.length:=by rw[h.1];exact j
  have:=h.2 t tm[t] tmps[t] (zF g) (zE j);simpa[zD,j,g]using this
 ·have g:¬ t<tm.length:=by rw[h.1];exact j
  have u:tm.getD t (.tuple [])=.tuple []:=by rw[zD,zH (by omega)];rfl
  have w:tmps.getD t undef=undef:=by simp[j]
  rw[u,w];exact .tuple [] #[] rfl (by simp)
theorem FRel.put {S:Snap}{tm:List AV}{a:Act}(h:FRel S tm a.tmps){v:AV}{u:Value}(A:VRel S v u)(d:Option Tmp):FRel S (Xf tm d v) (a.put d u).tmps:=by
 cases d with
 |none=>exact h
 |some d =>
  refine⟨by simp[Xf,Act.put,h.1],fun i x y g j=>?_⟩;simp only[Xf,Act.put]at g j;by_cases hi:d=i
  ·subst hi;have w:=Zg g;simp at w;have z:d<a.tmps.size:=by rw[<-h.1];exact w
   simp[w]at g;simp[z]at j;subst g j;exact A
  ·rw[zC hi]at g;rw[Array.getElem?_setIfInBounds_ne hi]at j;exact h.2 i x y g j
theorem GlobOk.mono {S w:Snap}(y:Ext S w)(h:GlobOk C S):GlobOk C w:=fun g j u=>⟨(h g j u).1.mono y,(h g j u).2.1,(h g j u).2.2.mono y⟩
theorem Zaw {S:Snap}(j:GlobOk C S){tm:List AV}{a:Act}(h:FRel S tm a.tmps)(x:Operand):VRel S (eval C tm x) (a.eval x):=by
 cases x with
 |tmp t=>exact h.getD t
 |const v=>exact L1 4 v
 |global g =>
  simp only[eval,Act.eval];split
  ·exact (j g _ ‹_›).1
  ·exact .undef _
 |func f=>exact .fn (.func f) [] [] #[] #[] rfl rfl (by simp) (by simp)
def Rel (C:Cfg)(W0:World)(S0:Snap)(D:Act->Prop)(s:St)(a:Act)(w:World):Prop:=∃ S,S.w=w/\Ext S0 S/\Inv W0 S s.2/\GlobOk C S/\FRel S s.1 a.tmps/\D a
theorem Zl4 {S:Snap}{ops:Array Oper}{tm:List AV}{tmps:Array Value}{o:Oper}{b:Bool}(h:FRel S tm tmps)(hw:WP ops tm o=some b):Region.wanted o (yielded ops tmps)=b:=by
 unfold WP at hw;unfold Region.wanted
 cases E:o.guard with
 |none=>simp only[E]at hw ⊢;injection hw
 |some p =>
  obtain⟨j,F⟩:=p;simp only[E]at hw ⊢
  cases z:ops[j]? with
  |none =>
   simp only[z]at hw;injection hw with hw;subst hw;simp[yielded,z]
  |some g =>
   cases A:g.dst with
   |none =>
    simp only[z,A]at hw;injection hw with hw;subst hw;simp[yielded,z,A]
   |some d =>
    simp only[z,A]at hw;by_cases w:d<tmps.size
    ·have u:d<tm.length:=by rw[h.1];exact w
     have B:=h.2 d tm[d] tmps[d] (zF u) (zE w);rw[zF u]at hw
     have H:yielded ops tmps j=match tmps[d] with|.bool b=>some b|_=>none:=by
      simp only[yielded,z,A,Option.bind_some,zE w];cases tmps[d] <;> rfl
     rw[H];generalize tm[d]=x at B hw;generalize tmps[d]=y at B
     cases B <;> simp at hw <;> first
      |(subst hw;rfl)
      |(subst hw;simp)
    ·have u:¬ d<tm.length:=by rw[h.1];exact w
     rw[zH (zJ u)]at hw;injection hw with hw;subst hw;simp[yielded,z,A,Array.getElem?_eq_none (zJ w)]
theorem ZmY (M:Um C)(g:XT C W0 call){ops:Array Oper}{fl:Bool}{o:Oper}{i:Nat}(B:∀ a v,D a->D (a.put o.dst v)){s s':St}{a:Act}{w:World}{K:Act->World->Prop}{Q:Exit->Act->World->Prop}(N:ops[i]?=some o)
 (h:Ul C call ops fl o s=some s') (O:Rel C W0 S0 D s a w) (F:∀ a' w',Rel C W0 S0 D s' a' w'->K a' w'):wpOp C.P ops Q i K a w:=by
 obtain⟨S,rfl,J,E,z,y,I⟩:=O;obtain⟨tm,H⟩:=s;unfold Ul Yx at h;unfold wpOp;simp only[N]
 cases hw:WP ops tm o with
 |none=>simp[hw]at h
 |some b =>
  rw[Zl4 y hw]
  cases b with
  |false =>
   simp only[hw,zA]at h;subst h;simp only[Bool.false_eq_true,if_false];exact F _ _ ⟨S,rfl,J,E,z,y.put (.tuple [] #[] rfl (by simp)) _,B _ _ I⟩
  |true =>
   simp only[hw]at h
   cases j:Xd C call (eval C tm) H fl o.op with
   |none=>simp[j]at h
   |some p =>
    obtain⟨v,H'⟩:=p;simp only[j,zA]at h;subst h;simp only[if_true];refine .inl (ZrW M g (Zaw z y) j E z fun v' L u A R=>F _ _ ⟨L,rfl,J.trans u,A,z.mono u,(y.mono u).put R _,B _ _ I⟩)
theorem Zt5 {S:Snap}{H H':Hp}{tm:List AV}{o:Oper}{a:Act}{next:Act->World->Prop}{Q:Exit->Act->World->Prop}{v:AV}{p:Nat}
 (J:∀ x,VRel S (eval C tm x) (a.eval x)) (h:ME p (MT C (eval C tm) o.op) H=some (v,H')) (I:Inv W0 S H)
 (K:∀ v' F,Ext S F->Inv W0 F H'->VRel F v v'->next (a.put o.dst v') F.w):o.wp C.P a S.w next Q:=by
 unfold ME at h;split at h
 ·rename_i T g;split at h
  ·rename_i L;split at h
   rotate_left
   ·cases h
   simp only[zA,zB]at h;obtain⟨rfl,rfl⟩:=h;generalize u:o.op=op at g
   cases op with
   |alloc e =>
    simp only[MT]at g;split at g
    ·rename_i z O;split at g
     ·rename_i j;injection g with g;subst g;obtain⟨R,M,N⟩:=Uy O;obtain⟨y,A,B,E⟩:=ZkA (P:=C.P) I L ((N S).cells (by simp only[zG]at j;exact j.1)) e;refine Yo (w':=(S.obj p (.cells R.cells e)).w) ?_ (K _ _ A B (.ptr _ 0 _ E));simp[execOp,u,Instr.alloc,M,newVar,y]
     ·cases g
    ·cases g
   |box e x =>
    simp only[MT]at g;split at g
    ·rename_i j;injection g with g;subst g;obtain⟨y,A,B,E⟩:=ZkA (P:=C.P) I L ((J x).cells j) e;refine Yo (w':=(S.obj p (.cells (a.eval x).cells e)).w) ?_ (K _ _ A B (.ptr _ 0 _ E));simp[execOp,u,Instr.box,newVar,y]
    ·cases g
   |makeMap t r =>
    cases r with
    |some r=>cases g
    |none =>
     simp only[MT,zA]at g;subst g;obtain⟨y,A,B,E⟩:=Ztt (P:=C.P) t I L;refine Yo (w':=(S.obj p (.map #[] 0)).w) ?_ (K _ _ A B E);simp[execOp,u,y]
   |_=>cases g
  ·cases h
 ·cases h
theorem Zn4 (M:Um C)(g:XT C W0 call){ops:Array Oper}{draw:Bool}{o:Oper}{b i:Nat}(A:∀ a v,D a->D (a.put o.dst v)){s s':St}{a:Act}{w:World}{K:Act->World->Prop}{Q:Exit->Act->World->Prop}(z:ops[i]?=some o)
 (h:W7 C call ops draw b i o s=some s') (J:Rel C W0 S0 D s a w) (F:∀ a' w',Rel C W0 S0 D s' a' w'->K a' w'):wpOp C.P ops Q i K a w:=by
 unfold W7 at h;split at h
 ·rename_i I;have R:o.guard=none:=(Mj z (by rw[zG]at I;exact I.2)).2;split at h
  ·cases h
  ·split at h
   ·rename_i v H' y;injection h with h;subst h;obtain⟨S,rfl,U,N,E,B,O⟩:=J;obtain⟨tm,H⟩:=s;unfold wpOp;simp only[z];have hw:Region.wanted o (yielded ops a.tmps)=true:=by unfold Region.wanted;simp[R]
    rw[hw];simp only[if_true];refine .inl (Zt5 (Zaw E B) y N fun v' L j u T=>F _ _ ⟨L,rfl,U.trans j,u,E.mono j,(B.mono j).put T _,A _ _ O⟩)
   ·cases h
 ·exact ZmY M g A z h J F
theorem Zyt (F:Um C)(j:XT C W0 call){ops:Array Oper}(H:∀ (i:Nat) o,ops[i]?=some o->∀ a v,D a->D (a.put o.dst v)){Q:Exit->Act->World->Prop}{b:Nat}{r:St}(z:∀ a w,Rel C W0 S0 D r a w->Q .normal a w):∀ (n:Nat) (g:Array Bool) (s:St) (a:Act) (w:World),
 Any C call ops b n g s r->Rel C W0 S0 D s a w->wpAny C.P .any ops Q n g a w:=by
 intro n
 induction n with
 |zero =>
  intro g s a w h u;obtain⟨E,rfl⟩:=h;exact⟨E,z a w u⟩
 |succ n K =>
  intro g s a w h u;refine⟨fun B=>?_,fun i hi=>?_⟩
  ·have:=h.1 B;subst this;exact z a w u
  ·obtain⟨o,s',A,J,I⟩:=h.2 i hi;exact Zn4 F j (H i o A) A J u fun a' w' y=>K _ s' a' w' I y
theorem Zye (E:Um C)(g:XT C W0 call){ops:Array Oper}(F:∀ (i:Nat) o,ops[i]?=some o->∀ a v,D a->D (a.put o.dst v)){b:Nat}{Q:Exit->Act->World->Prop}{r:St}(H:∀ a w,Rel C W0 S0 D r a w->Q .normal a w):∀ (l:List Oper) (k:Nat) (s:St) (a:Act) (w:World),
 (∀ j,l[j]?=ops[k+j]?)->Yt C call ops false b k l s=some r->Rel C W0 S0 D s a w->wpOps C.P ops Q (List.range' k l.length) a w:=by
 intro l
 induction l with
 |nil =>
  intro k s a w _ h u;simp[Yt]at h;subst h;exact H a w u
 |cons o l I =>
  intro k s a w B h u;have A:ops[k]?=some o:=by simpa using (B 0).symm
  unfold Yt at h;split at h
  ·rename_i s' z;rw[List.length_cons,List.range'_succ,wpOps_cons];exact Zn4 E g (F k o A) A z u fun a' w' y=>I (k+1) s' a' w' (fun j=>by have:=B (j+1);simpa[Nat.add_assoc,Nat.add_comm 1 j]using this) h y
  ·cases h
theorem TH (keep:List Nat):∀ (l:List AV) (i:Nat),(XK keep i l).length=l.length:=by
 intro l
 induction l with
 |nil=>intro i;rfl
 |cons a l g=>intro i;simp[XK,g]
theorem ZmJ (keep:List Nat):∀ (l:List AV) (i j:Nat) (a:AV),(XK keep i l)[j]?=some a->a=.undef\/l[j]?=some a:=by
 intro l
 induction l with
 |nil=>intro i j a h;simp[XK]at h
 |cons x l g =>
  intro i j a h
  cases j with
  |zero =>
   simp only[XK,List.getElem?_cons_zero,zA]at h;split at h
   ·right;simp[h]
   ·left;exact h.symm
  |succ j=>simpa using g (i+1) j a (by simpa[XK]using h)
theorem Rel.trim {kp:Nat->Option (List Nat)}{c:Code}{s:St}{a:Act}{w:World}(h:Rel C W0 S0 D s a w):Rel C W0 S0 D (trim kp c s) a w:=by
 unfold Go.Am.trim;split
 ·exact h
 ·split
  ·exact h
  ·obtain⟨S,u,y,z,A,j,B⟩:=h;refine⟨S,u,y,z,A,⟨by rw[TH];exact j.1,fun i x v g E=>?_⟩,B⟩;rcases ZmJ _ _ _ _ _ g with rfl|g
   ·exact .undef _
   ·exact j.2 i x v g E
theorem Inv.freeze {S:Snap}{H:List AObj}(A:Inv W0 S H){o b:Nat}{l:List AV}(Y:H[o]?=some (.cells l))(U:S.phi o=some b) :
 ∃ S':Snap,S'.w=S.w/\Ext S S'/\Inv W0 S' (H.set o .dead)/\VRel S' (.vp l) (.pointer (some ⟨b,0,none⟩)):=by
 obtain⟨b',c,el,L,hB,hc,hs,aa,ah,Q⟩:=A.objs o _ Y;rw[U]at L;injection L with L;subst L
 have V:Ext S { S with pub:=fun b' i=>S.pub b' i\/b'=b } :=
  ⟨⟨fun _ _ h=>h,fun _ _ h=>⟨.inl h,rfl⟩,fun _ e b hw sz h=>⟨e,b,hw,sz,h,Nat.le_refl _,fun _=>⟨rfl,rfl,rfl⟩⟩⟩,rfl,fun b' i j hl=>j.elim id fun e=>by have:=A.lim;omega⟩
 refine⟨{ S with pub:=fun b' i=>S.pub b' i\/b'=b },rfl,V,?_,?_⟩
 ·refine⟨A.below,?_,?_,?_,A.tinj,A.apart,?_,A.dom,A.tdom,A.lim⟩
  ·intro W x B;by_cases M:o=W
   ·subst M;have hl:=Zg Y;simp[hl]at B;subst B;trivial
   ·rw[zC M]at B;have R:=A.objs W x B
    have N:∀ b',S.phi W=some b'->x≠.dead->b'≠b:=by
     intro b' z E F;subst F;exact M (A.inj o W _ U z (by rw[Y];simp) (by rw[B];simpa using E))
    cases x with
    |cells l' =>
     obtain⟨b',c',J,z,E,F,I,K,O,X⟩:=R;refine⟨b',c',J,z,E,F,I,fun i y v hy hv=>(K i y v hy hv).mono V,fun i j=>?_,X⟩;rcases j with j|j
     ·exact O i j
     ·exact N b' z (by simp) j
    |bld T u l' =>
     obtain⟨b',z,E,F,I,K⟩:=R;refine⟨b',z,E,F,fun i j=>?_,fun v g hv hg=>?_⟩
     ·rcases j with j|j
      ·exact I i j
      ·exact N b' z (by simp) j
     ·obtain⟨⟨n,hw,sz,q⟩,q2⟩:=K v g hv hg;refine⟨⟨n,hw,sz,q⟩,fun i j=>?_⟩;rcases j with j|j
      ·exact q2 i j
      ·subst j;exact A.apart _ _ _ _ _ _ q U
    |row e l' =>
     obtain⟨b',sz,c',J,fz,z,E,F,I,K,O,X,h8,h9⟩:=R;refine⟨b',sz,c',J,fz,z,E,F,I,K,fun i y v hy hv=>(O i y v hy hv).mono V,fun i j=>?_,h8,h9⟩;rcases j with j|j
     ·exact X i j
     ·subst j;exact A.apart _ _ _ _ _ _ z U
    |tok e =>
     obtain⟨b',hw,sz,c',J,fz,z,E,F,I,K,O,X⟩:=R;refine⟨b',hw,sz,c',J,fz,z,E,F,I,K,fun i hi j=>?_,X⟩;rcases j with j|j
     ·exact O i hi j
     ·subst j;exact A.apart _ _ _ _ _ _ z U
    |map es ab =>
     obtain⟨b',ac,z,E,F,I,K,O⟩:=R;refine⟨b',ac,z,E,F,I,fun i j=>?_,fun i k v n e ae af=>?_⟩
     ·rcases j with j|j
      ·exact K i j
      ·exact N b' z (by simp) j
     ·obtain⟨q1,q2,q3⟩:=O i k v n e ae af;exact⟨q1.mono V,q2.mono V,q3⟩
    |siter s ai =>
     obtain⟨b',s',z,E,F,I,K⟩:=R;refine⟨b',s',z,E,F,I,fun i j=>?_⟩;rcases j with j|j
     ·exact K i j
     ·exact N b' z (by simp) j
    |dead=>trivial
    |free=>exact R
  ·intro W Z;rw[List.length_set]at Z;exact A.past W Z
  ·intro o1 o2 b' z E F I;refine A.inj o1 o2 b' z E (fun h=>F ?_) (fun h=>I ?_)
   ·by_cases M:o=o1
    ·subst M;rw[Y]at h;cases h
    ·rw[zC M];exact h
   ·by_cases M:o=o2
    ·subst M;rw[Y]at h;cases h
    ·rw[zC M];exact h
  ·intro b' i j;rcases j with j|j
   ·exact A.puball b' i j
   ·subst j;exact A.dom o _ U
 ·have ad:∀ i,i<l.length->S.w.cell? ⟨b,0+i,none⟩=some (c.getD i undef):=by
   intro i hi;have ag:i<c.size:=by omega
   simp[World.cell?,hc,ag,Nat.zero_add]
  refine .vp l b 0 (fun i=>c.getD i undef) Q (fun i hi=>⟨ad i hi,.inr rfl⟩) (fun i x B=>?_);have hi:i<c.size:=by rw[hs];exact Zg B
  refine (aa i x _ B ?_).mono V;simp[hi]
theorem Rel.frz1 {s:St}{a:Act}{w:World}(h:Rel C W0 S0 D s a w)(t:Nat):Rel C W0 S0 D (frz1 s t) a w:=by
 obtain⟨tm,H⟩:=s
 have B:Rel C W0 S0 D (tm.set t (tm.getD t (.tuple [])),H) a w:=by
  have:tm.set t (tm.getD t (.tuple []))=tm:=by
   apply List.ext_getElem?;intro i;by_cases A:t=i
   ·subst A;by_cases z:t<tm.length
    ·simp[z,zD]
    ·simp[z]
   ·rw[zC A]
  rw[this];exact h
 unfold Go.Am.frz1 Nc;simp only;split
 ·rename_i o A;split
  ·rename_i l z;obtain⟨S,M,N,K,O,u,Q⟩:=h;have j:=u.getD t;rw[A]at j;generalize R:a.tmps.getD t undef=v at j
   cases j with
   |ptr _ _ b I =>
   obtain⟨T,U,J,V,W⟩:=K.freeze z I;refine⟨T,U.trans M,N.trans J,V,O.mono J,⟨by simp[u.1],fun i x y F L=>?_⟩,Q⟩;by_cases hi:t=i
   ·subst hi;have g:=Zg F;simp at g;have E:t<a.tmps.size:=by rw[<-u.1];exact g
    simp[g]at F;subst F;have:y=a.tmps.getD t undef:=by simp[E]at L ⊢;exact L.symm
    rw[this,R];exact W
   ·rw[zC hi]at F;exact (u.2 i x y F L).mono J
  ·rename_i z;exfalso;obtain⟨S,M,N,K,O,u,Q⟩:=h;have j:=u.getD t;rw[A]at j;generalize R:a.tmps.getD t undef=v at j
   cases j with
   |ptr _ _ b I =>
   rw[(K.objs o _ z).1]at I;cases I
  ·rename_i X;exact B
 ·exact B
theorem Rel.frzs {kp:Nat->Option (List Nat)}{id:Nat}{s:St}{a:Act}{w:World}(h:Rel C W0 S0 D s a w):Rel C W0 S0 D (frzs kp id s) a w:=by
 unfold Go.Am.frzs;split
 ·exact h
 ·rename_i g _;unfold ZjC;rename_i hk;clear hk
  induction g generalizing s with
  |nil=>exact h
  |cons t g j=>exact j (h.frz1 t)
def Zue:AExit->Exit
 |.normal=>.normal
 |.exit id=>.exit id
 |.goto l=>.goto l
 |.ret=>.ret
def Zuq (C:Cfg)(W0:World)(S0:Snap)(D:Act->Prop)(e:AExit)(s:St):Exit->Act->World->Prop:=fun g a w=>g=Zue e/\Rel C W0 S0 D s a w
theorem Rel.resv {s:St}{a:Act}{w:World}(h:Rel C W0 S0 D s a w)(n:Nat):Rel C W0 S0 D (s.1,QL n s.2) a w:=by
 cases n with
 |zero=>exact h
 |succ n =>
  obtain⟨S,g,j,u,y⟩:=h;exact⟨S,g,j,u.resv (n+1),y⟩
theorem Znb (n:Nat)(H:Hp):(QL n H).length=H.length+n:=by
 cases n with
 |zero=>rfl
 |succ n=>simp[QL]
theorem Zoh {kp:Nat->Option (List Nat)}{n:Nat}:∀ (c:Code) (s s':St) (e:AExit),XJ c=true->Zs C call kp n c s=some (e,s')->∀ l,e≠.goto l:=by
 intro c
 induction c with
 |seq a b z A =>
  intro s s' e g h;simp only[XJ,zG]at g;simp only[Zs]at h;split at h
  ·exact A _ _ _ g.2 h
  ·exact z _ _ _ g.1 h
 |cond o x y E F =>
  intro s s' e g h;simp only[XJ,zG]at g;simp only[Zs]at h;split at h
  ·split at h
   ·exact E _ _ _ g.1 h
   ·exact F _ _ _ g.2 h
  ·cases h
 |block id c w =>
  intro s s' e g h;simp only[XJ]at g;simp only[Zs]at h;split at h
  ·split at h <;>
   ·simp only[zA,zB]at h;intro l u;rw[<-h.1]at u;cases u
  ·exact w _ _ _ g h
 |loop c w =>
  intro s s' e g h;simp only[XJ]at g;simp only[Zs]at h
  have key:∀ (j:Nat) (s:St),W6 (fun s=>Zs C call kp n c (trim kp c s)) j s=some (e,s')->∀ l,e≠.goto l:=by
   intro j
   induction j with
   |zero=>intro s h;simp[W6]at h
   |succ j B =>
    intro s h;simp only[W6]at h;split at h
    ·exact B _ h
    ·exact w _ _ _ g h
  exact key _ _ h
 |scope c w =>
  intro s s' e g h;simp only[XJ]at g;simp only[Zs]at h;rw[if_pos g]at h;exact w _ _ _ g h
 |goto l=>intro s s' e g;simp[XJ]at g
 |region id ops draw =>
  intro s s' e g h;simp only[Zs]at h;split at h
  ·cases h
  ·split at h
   ·simp only[zA,zB]at h;intro l u;rw[<-h.1]at u;cases u
   ·cases h
 |skip|exit _|label _|ret =>
  intro s s' e g h;simp only[Zs,zA,zB]at h;intro l u;rw[<-h.1]at u;cases u
 |_=>intro s s' e g h;simp[Zs]at h
def DZ (D:Act->Prop):Code->Prop
 |.region _ ops _=>∀ (i:Nat) o,ops[i]?=some o->∀ a v,D a->D (a.put o.dst v)
 |.seq x y=>DZ D x/\DZ D y
 |.cond _ x y=>DZ D x/\DZ D y
 |.block _ c=>DZ D c
 |.loop c=>DZ D c
 |.scope c=>DZ D c
 |_=>True
theorem ZaI {D:Act->Prop}(h:∀ a w v,D a->D (a.put w v)):∀ c:Code,DZ D c:=by
 intro c
 induction c with
 |region id ops draw=>exact fun i o _ a v z=>h a _ v z
 |seq x y g j=>exact⟨g,j⟩
 |cond c x y g j=>exact⟨g,j⟩
 |block id c u=>exact u
 |loop c u=>exact u
 |scope c u=>exact u
 |_=>trivial
theorem ZeS (R:Um C)(z:XT C W0 call)(Z:Xy call){kp:Nat->Option (List Nat)}{n:Nat}:∀ (c:Code) (s s':St) (e:AExit) (a:Act) (w:World),DZ D c ->
 Zs C call kp n c s=some (e,s')->Rel C W0 S0 D s a w->c.wp C.P (Zuq C W0 S0 D e s') a w:=by
 intro c
 induction c with
 |skip=>intro s s' e a w hk h g;simp[Zs]at h;obtain⟨rfl,rfl⟩:=h;exact wp_skip ⟨rfl,g⟩
 |region id ops draw =>
  intro s s' e a w hk h g;simp only[Zs]at h;have g:=g.frzs (kp:=kp) (id:=id);generalize frzs kp id s=s at h g;split at h
  ·cases h
  ·rename_i Y;split at h
   ·rename_i r F;simp only[zA,zB]at h;obtain⟨rfl,rfl⟩:=h
    cases draw with
    |false =>
     refine wp_region ?_;have:=Zye (S0:=S0) (Q:=Zuq C W0 S0 D .normal r) R z hk (fun a w g=>⟨rfl,g⟩) ops.toList 0 _ a w (by simp) F (g.resv _);rw[zI]at this;rw[List.range_eq_range'];exact this
    |true =>
     have E:Vf ops=true/\Fc C ops (eval C s.1)=true:=by simpa using Y
     have aa:=E.1;obtain⟨U,V⟩:=ZsE E.2;refine wp_region_any R.2.2.1 ?_;have g:=g.resv (VD C ops ops.size);simp only[if_true]at F;have B:=ZnV Z V aa ops.toList 0 (Array.replicate ops.size false) (s.1,QL (VD C ops ops.size) s.2) r U (by simp) (by simp) (fun x u=>by simp[u]) (Nat.zero_le _) (by rw[Znb];omega) F;rw[zI]at B;refine Zyt (S0:=S0) R z hk (fun a w g=>⟨rfl,g⟩) ops.size _ _ a _ B ?_;obtain⟨S,rfl,u,hI,W,T,hd⟩:=g;exact⟨S.drew,rfl,u.trans (Ext.drew S),hI.drew,W.mono (Ext.drew S),T.mono (Ext.drew S),hd⟩
   ·cases h
 |seq x y I J =>
  intro s s' e a w hk h g;simp only[Zs]at h
  cases u:Zs C call kp n x s with
  |none=>simp[u]at h
  |some p =>
   obtain⟨A,K⟩:=p;refine wp_seq (wp_mono (I s K A a w hk.1 u g) fun O a' w' H=>?_);obtain⟨rfl,j⟩:=H
   cases A with
   |normal =>
    simp only[u]at h;exact J _ s' e a' w' hk.2 h j.trim
   |_ =>
    simp only[u,zA,zB]at h;obtain⟨rfl,rfl⟩:=h;exact⟨rfl,j⟩
 |cond c x y I J =>
  intro s s' e a w hk h g;simp only[Zs]at h;split at h
  ·rename_i t ht;have M:=g;obtain⟨S,rfl,u,hI,W,T,hd⟩:=g;have X:=Zaw W T c;rw[ht]at X;generalize L:a.eval c=cv at X;cases X with|bool _ =>
   cases t with
   |true=>exact wp_cond_true L (I s s' e a _ hk.1 (by simpa using h) M)
   |false=>exact wp_cond_false L (J s s' e a _ hk.2 (by simpa using h) M)
  ·cases h
 |block id c N =>
  intro s s' e a w hk h g;simp only[Zs]at h
  cases u:Zs C call kp n c s with
  |none=>simp[u]at h
  |some p =>
   obtain⟨A,K⟩:=p;refine wp_block (wp_mono (N s K A a w hk u g) fun O a' w' H=>?_);obtain⟨rfl,j⟩:=H
   cases A with
   |exit i =>
    simp only[u]at h;simp only[Zue,Exit.inBlock];split at h
    ·rename_i hi;simp only[zA,zB]at h;obtain⟨rfl,rfl⟩:=h;rw[if_pos hi];exact⟨rfl,j⟩
    ·rename_i hi;simp only[zA,zB]at h;obtain⟨rfl,rfl⟩:=h;rw[if_neg hi];exact⟨rfl,j⟩
   |_ =>
    simp only[u,zA,zB]at h;obtain⟨rfl,rfl⟩:=h;exact⟨rfl,j⟩
 |loop c N =>
  intro s s' e a w hk h g;simp only[Zs]at h;refine wp_loop_rounds n ?_
  have key:∀ (m:Nat) (s:St) (a:Act) (w:World),W6 (fun s=>Zs C call kp n c (trim kp c s)) m s=some (e,s')->Rel C W0 S0 D s a w->Code.rounds C.P c (Zuq C W0 S0 D e s') m a w:=by
   intro m
   induction m with
   |zero=>intro s a w h;simp[W6]at h
   |succ m ab =>
    intro s a w h g;simp only[W6]at h;rw[rounds_succ]
    cases u:Zs C call kp n c (trim kp c s) with
    |none=>simp[u]at h
    |some p =>
     obtain⟨A,K⟩:=p;refine wp_mono (N _ K A a w hk u g.trim) fun O a' w' H=>?_;obtain⟨rfl,j⟩:=H
     cases A with
     |normal =>
      simp only[u]at h;exact ab K a' w' h j
     |_ =>
      simp only[u,zA,zB]at h;obtain⟨rfl,rfl⟩:=h;exact⟨rfl,j⟩
  exact key n s a w h g
 |rangeFunc f p x y _ _=>intro s s' e a w hk h;simp[Zs]at h
 |exit id=>intro s s' e a w hk h g;simp[Zs]at h;obtain⟨rfl,rfl⟩:=h;exact wp_exit ⟨rfl,g⟩
 |scope c N =>
  intro s s' e a w hk h g;simp only[Zs]at h;split at h
  ·rename_i hg;refine wp_scope_straight (wp_mono (N s s' e a w hk h g) fun O a' w' H=>?_);obtain⟨rfl,j⟩:=H
   cases e with
   |goto l=>exact absurd rfl (Zoh c s s' _ hg h l)
   |normal=>exact⟨rfl,j⟩
   |exit i=>exact⟨rfl,j⟩
   |ret=>exact⟨rfl,j⟩
  ·cases h
 |label l=>intro s s' e a w hk h g;simp[Zs]at h;obtain⟨rfl,rfl⟩:=h;exact wp_label ⟨rfl,g⟩
 |goto l=>intro s s' e a w hk h g;simp[Zs]at h;obtain⟨rfl,rfl⟩:=h;exact wp_goto ⟨rfl,g⟩
 |ret=>intro s s' e a w hk h g;simp[Zs]at h;obtain⟨rfl,rfl⟩:=h;exact wp_ret ⟨rfl,g⟩
 |refuse s=>intro s s' e a w hk h;simp[Zs]at h
end
end Go.Am
