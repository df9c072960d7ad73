/- THE ABSTRACT MACHINE -/
import Derived.Test.YtjmhpjoedfegkaaGreatDoorHmFsx
import Derived.Scope
open Option renaming some->O
open List renaming getElem?_set_ne->zC,getD_eq_getElem?_getD->zD,getElem?_eq_getElem->zF,getElem?_eq_none->zH
open Nat renaming le_of_not_lt->zJ
open Bool renaming and_eq_true->zG
open Array renaming getElem?_eq_getElem->zE,length_toList->zI
open Option.some renaming injEq->zA
open Prod.mk renaming injEq->zB
namespace Go.Am
open RowKit
section
variable {C:Cfg}{call:ZQ}{W0:World}{S0:Snap}{D:Act->Prop}
def FRel (S:Snap)(tm:du)(tmps:Array Value):Prop:=tm.length=tmps.size/\∀ (i:Nat) (a:AV) (v:Value),tm[i]?=O a->tmps[i]?=O v->VRel S a v
theorem FRel.mono {S j:Snap}(y:Ext S j){tm:du}{tmps:Array Value}(h:FRel S tm tmps):FRel j tm tmps:=⟨h.1,λi a v u w=>(h.2 i a v u w).mono y⟩
theorem FRel.getD {S:Snap}{tm:du}{tmps:Array Value}(h:FRel S tm tmps)(t:Nat):VRel S (tm.getD t (.tuple [])) (tmps.getD t undef):=by
 by_cases u:t<tmps.size
 ·have j:t<tm.length:=by rw[h.1];exact u
  have:=h.2 t tm[t] tmps[t] (zF j) (zE u);simpa[zD,u,j]using this
 ·have j:¬ t<tm.length:=by rw[h.1];exact u
  have w:tm.getD t (.tuple [])=.tuple []:=by rw[zD,zH b5];rfl
  have y:tmps.getD t undef=undef:=by simp[u]
  rw[w,y];exact .tuple [] #[] rfl dh
theorem FRel.put {S:Snap}{tm:du}{a:Act}(h:FRel S tm a.tmps){v:AV}{u:Value}(B:VRel S v u)(d:Option Tmp):FRel S (Xk tm d v) (a.put d u).tmps:=by
 cases d with
 |none=>exact h
 |some d =>
  refine⟨by simp[Xk,Act.put,h.1],λi x y j w=>?_⟩;simp only[Xk,Act.put]at j w;by_cases hi:d=i
  ·subst hi;have z:=Zq j;simp at z;have A:d<a.tmps.size:=by rw[<-h.1];exact z
   simp[z]at j;simp[A]at w;subst j w;exact B
  ·rw[zC hi]at j;rw[Array.getElem?_setIfInBounds_ne hi]at w;exact h.2 i x y j w
theorem GlobOk.mono {S w:Snap}(y:Ext S w)(h:GlobOk C S):GlobOk C w:=λg j u=>⟨(h g j u).1.mono y,(h g j u).2.1,(h g j u).2.2.mono y⟩
theorem iK {S:Snap}(j:GlobOk C S){tm:du}{a:Act}(h:FRel S tm a.tmps)(x:Operand):VRel S (eval C tm x) (a.eval x):=by
 cases x with
 |tmp t=>exact h.getD t
 |const v=>exact E4 4 v
 |global g =>
  simp only[eval,Act.eval];split
  ·exact (j g _ ‹_›).1
  ·exact .undef _
 |func f=>exact .fn (.func f) [] [] #[] #[] rfl rfl dh dh
def Rel (C:Cfg)(W0:World)(S0:Snap)(D:Act->Prop)(s:St)(a:Act)(w:World):Prop:=∃ S,S.w=w/\Ext S0 S/\Inv W0 S s.2/\GlobOk C S/\FRel S s.1 a.tmps/\D a
theorem Zls {S:Snap}{ops:Array Oper}{tm:du}{tmps:Array Value}{o:Oper}{b:Bool}(h:FRel S tm tmps)(hw:WP ops tm o=O b):Region.wanted o (yielded ops tmps)=b:=by
 unfold WP at hw;unfold Region.wanted
 cases E:o.guard with
 |none=>simp only[E]at hw ⊢;injection hw
 |some p =>
  obtain⟨j,F⟩:=p;simp only[E]at hw ⊢
  cases z:ops[j]? with
  |none =>
   simp only[z]at hw;injection hw with hw;subst hw;simp[yielded,z]
  |some g =>
   cases A:g.dst with
   |none =>
    simp only[z,A]at hw;injection hw with hw;subst hw;simp[yielded,z,A]
   |some d =>
    simp only[z,A]at hw;by_cases w:d<tmps.size
    ·have u:d<tm.length:=by rw[h.1];exact w
     have B:=h.2 d tm[d] tmps[d] (zF u) (zE w);rw[zF u]at hw
     have G:yielded ops tmps j=match tmps[d] with|.bool b=>O b|_=>none:=by
      simp only[yielded,z,A,Option.bind_some,zE w];cases tmps[d] <;> rfl
     rw[G];generalize tm[d]=x at B hw;generalize tmps[d]=y at B
     cases B <;> simp at hw <;> first
      |(subst hw;rfl)
      |(subst hw;simp)
    ·have u:¬ d<tm.length:=by rw[h.1];exact w
     rw[zH (zJ u)]at hw;injection hw with hw;subst hw;simp[yielded,z,A,Array.getElem?_eq_none (zJ w)]
theorem Znq (T:VG C)(j:W3 C W0 call){ops:Array Oper}{fl:Bool}{o:Oper}{i:Nat}(E:∀ a v,D a->D (a.put o.dst v)){s s':St}{a:Act}{w:World}{K:Act->World->Prop}{Q:Exit->Act->World->Prop}(ho:ops[i]?=O o)
 (h:U1 C call ops fl o s=O s') (hr:Rel C W0 S0 D s a w) (G:∀ a' w',Rel C W0 S0 D s' a' w'->K a' w'):wpOp C.P ops Q i K a w:=by
 obtain⟨S,rfl,M,F,A,z,L⟩:=hr;obtain⟨tm,H⟩:=s;unfold U1 YA at h;unfold wpOp;simp only[ho]
 cases hw:WP ops tm o with
 |none=>simp[hw]at h
 |some b =>
  rw[Zls z hw]
  cases b with
  |false =>
   simp only[hw,zA]at h;subst h;simp only[Bool.false_eq_true,if_false];exact G _ _ ⟨S,rfl,M,F,A,z.put (.tuple [] #[] rfl dh) _,E _ _ L⟩
  |true =>
   simp only[hw]at h
   cases u:Xi C call (eval C tm) H fl o.op with
   |none=>simp[u]at h
   |some p =>
    obtain⟨v,H'⟩:=p;simp only[u,zA]at h;subst h;simp only[if_true];refine .inl (ZsE T j (iK A z) u F A λv' R y B hv=>G _ _ ⟨R,rfl,M.trans y,B,A.mono y,(z.mono y).put hv _,E _ _ L⟩)
theorem ZtQ {S:Snap}{H H':Hp}{tm:du}{o:Oper}{a:Act}{next:Act->World->Prop}{Q:Exit->Act->World->Prop}{v:AV}{p:Nat}
 (L:∀ x,VRel S (eval C tm x) (a.eval x)) (h:LS p (LW C (eval C tm) o.op) H=O (v,H')) (K:Inv W0 S H)
 (M:∀ v' G,Ext S G->Inv W0 G H'->VRel G v v'->next (a.put o.dst v') G.w):o.wp C.P a S.w next Q:=by
 unfold LS at h;split at h
 ·rename_i cs j;split at h
  ·rename_i R;split at h
   rotate_left
   ·cases h
   simp only[zA,zB]at h;obtain⟨rfl,rfl⟩:=h;generalize y:o.op=op at j
   cases op with
   |alloc e =>
    simp only[LW]at j;split at j
    ·rename_i z hz;split at j
     ·rename_i u;injection j with j;subst j;obtain⟨zc,T,aa⟩:=Uh hz;obtain⟨A,B,E,F⟩:=ZkM (P:=C.P) K R ((aa S).cells (by simp only[zG]at u;exact u.1)) e;refine Yx (w':=(S.obj p (.cells zc.cells e)).w) ?_ (M _ _ B E (.ptr _ 0 _ F));simp[execOp,y,Instr.alloc,T,newVar,A]
     ·cases j
    ·cases j
   |box e x =>
    simp only[LW]at j;split at j
    ·rename_i u;injection j with j;subst j;obtain⟨A,B,E,F⟩:=ZkM (P:=C.P) K R ((L x).cells u) e;refine Yx (w':=(S.obj p (.cells (a.eval x).cells e)).w) ?_ (M _ _ B E (.ptr _ 0 _ F));simp[execOp,y,Instr.box,newVar,A]
    ·cases j
   |makeMap t r =>
    cases r with
    |some r=>cases j
    |none =>
     simp only[LW,zA]at j;subst j;obtain⟨A,B,E,F⟩:=Zud (P:=C.P) t K R;refine Yx (w':=(S.obj p (.map #[] 0)).w) ?_ (M _ _ B E F);simp[execOp,y,A]
   |_=>cases j
  ·cases h
 ·cases h
theorem Znx (T:VG C)(j:W3 C W0 call){ops:Array Oper}{draw:Bool}{o:Oper}{b i:Nat}(B:∀ a v,D a->D (a.put o.dst v)){s s':St}{a:Act}{w:World}{K:Act->World->Prop}{Q:Exit->Act->World->Prop}(A:ops[i]?=O o)
 (h:Wb C call ops draw b i o s=O s') (M:Rel C W0 S0 D s a w) (G:∀ a' w',Rel C W0 S0 D s' a' w'->K a' w'):wpOp C.P ops Q i K a w:=by
 unfold Wb at h;split at h
 ·rename_i L;have hg:o.guard=none:=(Lg A (by rw[zG]at L;exact L.2)).2;split at h
  ·cases h
  ·split at h
   ·rename_i v H' z;injection h with h;subst h;obtain⟨S,rfl,hx,hI,F,E,hd⟩:=M;obtain⟨tm,H⟩:=s;unfold wpOp;simp only[A];have hw:Region.wanted o (yielded ops a.tmps)=true:=by unfold Region.wanted;simp[hg]
    rw[hw];simp only[if_true];refine .inl (ZtQ (iK F E) z hI λv' R u y hv=>G _ _ ⟨R,rfl,hx.trans u,y,F.mono u,(E.mono u).put hv _,B _ _ hd⟩)
   ·cases h
 ·exact Znq T j B A h M G
theorem ZzB (G:VG C)(u:W3 C W0 call){ops:Array Oper}(H:∀ (i:Nat) o,ops[i]?=O o->∀ a v,D a->D (a.put o.dst v)){Q:Exit->Act->World->Prop}{b:Nat}{r:St}(A:∀ a w,Rel C W0 S0 D r a w->Q .normal a w):∀ (n:Nat) (j:Array Bool) (s:St) (a:Act) (w:World),
 Any C call ops b n j s r->Rel C W0 S0 D s a w->wpAny C.P .any ops Q n j a w:=by
 intro n
 induction n with
 |zero =>
  intro j s a w h y;obtain⟨F,rfl⟩:=h;exact⟨F,A a w y⟩
 |succ n M =>
  intro j s a w h y;refine⟨λE=>?_,λi hi=>?_⟩
  ·have:=h.1 E;subst this;exact A a w y
  ·obtain⟨o,s',B,L,K⟩:=h.2 i hi;exact Znx G u (H i o B) B L y λa' w' z=>M _ s' a' w' K z
theorem Zzm (F:VG C)(u:W3 C W0 call){ops:Array Oper}(G:∀ (i:Nat) o,ops[i]?=O o->∀ a v,D a->D (a.put o.dst v)){b:Nat}{Q:Exit->Act->World->Prop}{r:St}(H:∀ a w,Rel C W0 S0 D r a w->Q .normal a w):∀ (l:List Oper) (k:Nat) (s:St) (a:Act) (w:World),
 (∀ j,l[j]?=ops[k+j]?)->Yz C call ops false b k l s=O r->Rel C W0 S0 D s a w->wpOps C.P ops Q (List.range' k l.length) a w:=by
 intro l
 induction l with
 |nil =>
  intro k s a w _ h y;simp[Yz]at h;subst h;exact H a w y
 |cons o l K =>
  intro k s a w E h y;have B:ops[k]?=O o:=by simpa using (E 0).symm
  unfold Yz at h;split at h
  ·rename_i s' A;rw[List.length_cons,List.range'_succ,wpOps_cons];exact Znx F u (G k o B) B A y λa' w' z=>K (k+1) s' a' w' (λj=>by have:=E (j+1);simpa[Nat.add_assoc,Nat.add_comm 1 j]using this) h z
  ·cases h
theorem Pn (keep:dv):∀ (l:du) (i:Nat),(XZ keep i l).length=l.length:=by
 intro l
 induction l with
 |nil=>intro i;rfl
 |cons a l h=>intro i;simp[XZ,h]
theorem Znb (keep:dv):∀ (l:du) (i j:Nat) (a:AV),(XZ keep i l)[j]?=O a->a=.undef\/l[j]?=O a:=by
 intro l
 induction l with
 |nil=>intro i j a h;simp[XZ]at h
 |cons x l u =>
  intro i j a h
  cases j with
  |zero =>
   simp only[XZ,List.getElem?_cons_zero,zA]at h;split at h
   ·right;simp[h]
   ·left;exact h.symm
  |succ j=>simpa using u (i+1) j a (by simpa[XZ]using h)
theorem Rel.trim {kp:Nat->Option dv}{c:Code}{s:St}{a:Act}{w:World}(h:Rel C W0 S0 D s a w):Rel C W0 S0 D (trim kp c s) a w:=by
 unfold Go.Am.trim;split
 ·exact h
 ·split
  ·exact h
  ·obtain⟨S,y,z,A,B,u,E⟩:=h;refine⟨S,y,z,A,B,⟨by rw[Pn];exact u.1,λi x v j F=>?_⟩,E⟩;rcases Znb _ _ _ _ _ j with rfl|j
   ·exact .undef _
   ·exact u.2 i x v j F
theorem Inv.freeze {S:Snap}{H:List AObj}(A:Inv W0 S H){o b:Nat}{l:du}(ho:H[o]?=O (.cells l))(hb:S.phi o=O b) :
 ∃ S':Snap,S'.w=S.w/\Ext S S'/\Inv W0 S' (H.set o .dead)/\VRel S' (.vp l) (.pointer (O ⟨b,0,none⟩)):=by
 obtain⟨b',c,el,M,hB,hc,hs,ac,aj,aa⟩:=A.objs o _ ho;rw[hb]at M;injection M with M;subst M
 have hx:Ext S { S with pub:=λb' i=>S.pub b' i\/b'=b } :=
  ⟨⟨λ_ _ h=>h,λ_ _ h=>⟨.inl h,rfl⟩,λ_ e b hw sz h=>⟨e,b,hw,sz,h,Nat.le_refl _,λ_=>⟨rfl,rfl,rfl⟩⟩⟩,rfl,λb' i j hl=>j.elim id λe=>by have:=A.lim;omega⟩
 refine⟨{ S with pub:=λb' i=>S.pub b' i\/b'=b },rfl,hx,?_,?_⟩
 ·refine⟨A.below,?_,?_,?_,A.tinj,A.apart,?_,A.dom,A.tdom,A.lim⟩
  ·intro o' x B;by_cases P:o=o'
   ·subst P;have hl:=Zq ho;simp[hl]at B;subst B;trivial
   ·rw[zC P]at B;have hr:=A.objs o' x B
    have Q:∀ b',S.phi o'=O b'->x≠.dead->b'≠b:=by
     intro b' z E F;subst F;exact P (A.inj o o' _ hb z (by rw[ho];simp) (by rw[B];simpa using E))
    cases x with
    |cells l' =>
     obtain⟨b',c',K,z,E,F,G,L,R,h7⟩:=hr;refine⟨b',c',K,z,E,F,G,λi y v hy hv=>(L i y v hy hv).mono hx,λi j=>?_,h7⟩;rcases j with j|j
     ·exact R i j
     ·exact Q b' z dh j
    |bld T u l' =>
     obtain⟨b',z,E,F,G,L⟩:=hr;refine⟨b',z,E,F,λi j=>?_,λv g hv hg=>?_⟩
     ·rcases j with j|j
      ·exact G i j
      ·exact Q b' z dh j
     ·obtain⟨⟨n,hw,sz,q⟩,q2⟩:=L v g hv hg;refine⟨⟨n,hw,sz,q⟩,λi j=>?_⟩;rcases j with j|j
      ·exact q2 i j
      ·subst j;exact A.apart _ _ _ _ _ _ q hb
    |row e l' =>
     obtain⟨b',sz,c',K,fz,z,E,F,G,L,R,h7,h8,h9⟩:=hr;refine⟨b',sz,c',K,fz,z,E,F,G,L,λi y v hy hv=>(R i y v hy hv).mono hx,λi j=>?_,h8,h9⟩;rcases j with j|j
     ·exact h7 i j
     ·subst j;exact A.apart _ _ _ _ _ _ z hb
    |tok e =>
     obtain⟨b',hw,sz,c',K,fz,z,E,F,G,L,R,h7⟩:=hr;refine⟨b',hw,sz,c',K,fz,z,E,F,G,L,λi hi j=>?_,h7⟩;rcases j with j|j
     ·exact R i hi j
     ·subst j;exact A.apart _ _ _ _ _ _ z hb
    |map es ad =>
     obtain⟨b',ae,z,E,F,G,L,R⟩:=hr;refine⟨b',ae,z,E,F,G,λi j=>?_,λi k v n e ag ah=>?_⟩
     ·rcases j with j|j
      ·exact L i j
      ·exact Q b' z dh j
     ·obtain⟨q1,q2,q3⟩:=R i k v n e ag ah;exact⟨q1.mono hx,q2.mono hx,q3⟩
    |siter s pos =>
     obtain⟨b',s',z,E,F,G,L⟩:=hr;refine⟨b',s',z,E,F,G,λi j=>?_⟩;rcases j with j|j
     ·exact L i j
     ·exact Q b' z dh j
    |dead=>trivial
    |free=>exact hr
  ·intro o' ab;rw[List.length_set]at ab;exact A.past o' ab
  ·intro o1 o2 b' z E F G;refine A.inj o1 o2 b' z E (λh=>F ?_) (λh=>G ?_)
   ·by_cases P:o=o1
    ·subst P;rw[ho]at h;cases h
    ·rw[zC P];exact h
   ·by_cases P:o=o2
    ·subst P;rw[ho]at h;cases h
    ·rw[zC P];exact h
  ·intro b' i j;rcases j with j|j
   ·exact A.puball b' i j
   ·subst j;exact A.dom o _ hb
 ·have af:∀ i,i<l.length->S.w.cell? ⟨b,0+i,none⟩=O (c.getD i undef):=by
   intro i hi;have ai:i<c.size:=b5
   simp[World.cell?,hc,ai,Nat.zero_add]
  refine .vp l b 0 (λi=>c.getD i undef) aa (λi hi=>⟨af i hi,.inr rfl⟩) (λi x B=>?_);have hi:i<c.size:=by rw[hs];exact Zq B
  refine (ac i x _ B ?_).mono hx;simp[hi]
theorem Rel.frz1 {s:St}{a:Act}{w:World}(h:Rel C W0 S0 D s a w)(t:Nat):Rel C W0 S0 D (frz1 s t) a w:=by
 obtain⟨tm,H⟩:=s
 have E:Rel C W0 S0 D (tm.set t (tm.getD t (.tuple [])),H) a w:=by
  have:tm.set t (tm.getD t (.tuple []))=tm:=by
   apply List.ext_getElem?;intro i;by_cases B:t=i
   ·subst B;by_cases A:t<tm.length
    ·simp[A,zD]
    ·simp[A]
   ·rw[zC B]
  rw[this];exact h
 unfold Go.Am.frz1 Rm;simp only;split
 ·rename_i o B;split
  ·rename_i l A;obtain⟨S,Q,R,M,T,z,h6⟩:=h;have u:=z.getD t;rw[B]at u;generalize hv:a.tmps.getD t undef=v at u
   cases u with
   |ptr _ _ b K =>
   obtain⟨S',g1,L,g3,g4⟩:=M.freeze A K;refine⟨S',g1.trans Q,R.trans L,g3,T.mono L,⟨by simp[z.1],λi x y G P=>?_⟩,h6⟩;by_cases hi:t=i
   ·subst hi;have j:=Zq G;simp at j;have F:t<a.tmps.size:=by rw[<-z.1];exact j
    simp[j]at G;subst G;have:y=a.tmps.getD t undef:=by simp[F]at P ⊢;exact P.symm
    rw[this,hv];exact g4
   ·rw[zC hi]at G;exact (z.2 i x y G P).mono L
  ·rename_i A;exfalso;obtain⟨S,Q,R,M,T,z,h6⟩:=h;have u:=z.getD t;rw[B]at u;generalize hv:a.tmps.getD t undef=v at u
   cases u with
   |ptr _ _ b K =>
   rw[(M.objs o _ A).1]at K;cases K
  ·rename_i hn;exact E
 ·exact E
theorem Rel.frzs {kp:Nat->Option dv}{id:Nat}{s:St}{a:Act}{w:World}(h:Rel C W0 S0 D s a w):Rel C W0 S0 D (frzs kp id s) a w:=by
 unfold Go.Am.frzs;split
 ·exact h
 ·rename_i j _;unfold ZjR;rename_i u;clear u
  induction j generalizing s with
  |nil=>exact h
  |cons t j y=>exact y (h.frz1 t)
def Zvc:AExit->Exit
 |.normal=>.normal
 |.exit id=>.exit id
 |.goto l=>.goto l
 |.ret=>.ret
def Zvu (C:Cfg)(W0:World)(S0:Snap)(D:Act->Prop)(e:AExit)(s:St):Exit->Act->World->Prop:=λh a w=>h=Zvc e/\Rel C W0 S0 D s a w
theorem Rel.resv {s:St}{a:Act}{w:World}(h:Rel C W0 S0 D s a w)(n:Nat):Rel C W0 S0 D (s.1,Qw n s.2) a w:=by
 cases n with
 |zero=>exact h
 |succ n =>
  obtain⟨S,j,u,y,z⟩:=h;exact⟨S,j,u,y.resv (n+1),z⟩
theorem ZnF (n:Nat)(H:Hp):(Qw n H).length=H.length+n:=by
 cases n with
 |zero=>rfl
 |succ n=>simp[Qw]
theorem ZoJ {kp:Nat->Option dv}{n:Nat}:∀ (c:Code) (s s':St) (e:AExit),XW c=true->Zz C call kp n c s=O (e,s')->∀ l,e≠.goto l:=by
 intro c
 induction c with
 |seq a b A B =>
  intro s s' e u h;simp only[XW,zG]at u;simp only[Zz]at h;split at h
  ·exact B _ _ _ u.2 h
  ·exact A _ _ _ u.1 h
 |cond o x y F G =>
  intro s s' e u h;simp only[XW,zG]at u;simp only[Zz]at h;split at h
  ·split at h
   ·exact F _ _ _ u.1 h
   ·exact G _ _ _ u.2 h
  ·cases h
 |block id c z =>
  intro s s' e u h;simp only[XW]at u;simp only[Zz]at h;split at h
  ·split at h <;>
   ·simp only[zA,zB]at h;intro l w;rw[<-h.1]at w;cases w
  ·exact z _ _ _ u h
 |loop c z =>
  intro s s' e u h;simp only[XW]at u;simp only[Zz]at h
  have key:∀ (j:Nat) (s:St),Wa (λs=>Zz C call kp n c (trim kp c s)) j s=O (e,s')->∀ l,e≠.goto l:=by
   intro j
   induction j with
   |zero=>intro s h;simp[Wa]at h
   |succ j E =>
    intro s h;simp only[Wa]at h;split at h
    ·exact E _ h
    ·exact z _ _ _ u h
  exact key _ _ h
 |scope c z =>
  intro s s' e u h;simp only[XW]at u;simp only[Zz]at h;rw[if_pos u]at h;exact z _ _ _ u h
 |goto l=>intro s s' e u;simp[XW]at u
 |region id ops draw =>
  intro s s' e u h;simp only[Zz]at h;split at h
  ·cases h
  ·split at h
   ·simp only[zA,zB]at h;intro l w;rw[<-h.1]at w;cases w
   ·cases h
 |skip|exit _|label _|ret =>
  intro s s' e u h;simp only[Zz,zA,zB]at h;intro l w;rw[<-h.1]at w;cases w
 |_=>intro s s' e u h;simp[Zz]at h
def DW (D:Act->Prop):Code->Prop
 |.region _ ops _=>∀ (i:Nat) o,ops[i]?=O o->∀ a v,D a->D (a.put o.dst v)
 |.seq x y=>DW D x/\DW D y
 |.cond _ x y=>DW D x/\DW D y
 |.block _ c=>DW D c
 |.loop c=>DW D c
 |.scope c=>DW D c
 |_=>True
theorem iT {D:Act->Prop}(h:∀ a z v,D a->D (a.put z v)):∀ c:Code,DW D c:=by
 intro c
 induction c with
 |region id ops draw=>exact λi o _ a v A=>h a _ v A
 |seq x y j u=>exact⟨j,u⟩
 |cond c x y j u=>exact⟨j,u⟩
 |block id c w=>exact w
 |loop c w=>exact w
 |scope c w=>exact w
 |_=>trivial
theorem ZcD (hC:VG C)(B:W3 C W0 call)(ae:XQ call){kp:Nat->Option dv}{n:Nat}:∀ (c:Code) (s s':St) (e:AExit) (a:Act) (w:World),DW D c ->
 Zz C call kp n c s=O (e,s')->Rel C W0 S0 D s a w->c.wp C.P (Zvu C W0 S0 D e s') a w:=by
 intro c
 induction c with
 |skip=>intro s s' e a w z h j;simp[Zz]at h;obtain⟨rfl,rfl⟩:=h;exact wp_skip ⟨rfl,j⟩
 |region id ops draw =>
  intro s s' e a w z h j;simp only[Zz]at h;have j:=j.frzs (kp:=kp) (id:=id);generalize frzs kp id s=s at h j;split at h
  ·cases h
  ·rename_i ad;split at h
   ·rename_i r H;simp only[zA,zB]at h;obtain⟨rfl,rfl⟩:=h
    cases draw with
    |false =>
     refine wp_region ?_;have:=Zzm (S0:=S0) (Q:=Zvu C W0 S0 D .normal r) hC B z (λa w j=>⟨rfl,j⟩) ops.toList 0 _ a w dh H (j.resv _);rw[zI]at this;rw[List.range_eq_range'];exact this
    |true =>
     have G:Vb ops=true/\F9 C ops (eval C s.1)=true:=by simpa using ad
     have af:=G.1;obtain⟨ab,ac⟩:=Ztn G.2;refine wp_region_any hC.2.2.1 ?_;have j:=j.resv (Vt C ops ops.size);simp only[if_true]at H;have F:=Zop ae ac af ops.toList 0 (Array.replicate ops.size false) (s.1,Qw (Vt C ops ops.size) s.2) r ab dh dh (λx A=>by simp[A]) (Nat.zero_le _) (by rw[ZnF];omega) H;rw[zI]at F;refine ZzB (S0:=S0) hC B z (λa w j=>⟨rfl,j⟩) ops.size _ _ a _ F ?_;obtain⟨S,rfl,A,hI,hG,hF,hd⟩:=j;exact⟨S.drew,rfl,A.trans (Ext.drew S),hI.drew,hG.mono (Ext.drew S),hF.mono (Ext.drew S),hd⟩
   ·cases h
 |seq x y L M =>
  intro s s' e a w z h j;simp only[Zz]at h
  cases A:Zz C call kp n x s with
  |none=>simp[A]at h
  |some p =>
   obtain⟨E,R⟩:=p;refine wp_seq (wp_mono (L s R E a w z.1 A j) λe' a' w' K=>?_);obtain⟨rfl,u⟩:=K
   cases E with
   |normal =>
    simp only[A]at h;exact M _ s' e a' w' z.2 h u.trim
   |_ =>
    simp only[A,zA,zB]at h;obtain⟨rfl,rfl⟩:=h;exact⟨rfl,u⟩
 |cond c x y L M =>
  intro s s' e a w z h j;simp only[Zz]at h;split at h
  ·rename_i t ht;have aa:=j;obtain⟨S,rfl,A,hI,hG,hF,hd⟩:=j;have hc:=iK hG hF c;rw[ht]at hc;generalize T:a.eval c=cv at hc;cases hc with|bool _ =>
   cases t with
   |true=>exact wp_cond_true T (L s s' e a _ z.1 (by simpa using h) aa)
   |false=>exact wp_cond_false T (M s s' e a _ z.2 (by simpa using h) aa)
  ·cases h
 |block id c ih =>
  intro s s' e a w z h j;simp only[Zz]at h
  cases A:Zz C call kp n c s with
  |none=>simp[A]at h
  |some p =>
   obtain⟨E,R⟩:=p;refine wp_block (wp_mono (ih s R E a w z A j) λe' a' w' K=>?_);obtain⟨rfl,u⟩:=K
   cases E with
   |exit i =>
    simp only[A]at h;simp only[Zvc,Exit.inBlock];split at h
    ·rename_i hi;simp only[zA,zB]at h;obtain⟨rfl,rfl⟩:=h;rw[if_pos hi];exact⟨rfl,u⟩
    ·rename_i hi;simp only[zA,zB]at h;obtain⟨rfl,rfl⟩:=h;rw[if_neg hi];exact⟨rfl,u⟩
   |_ =>
    simp only[A,zA,zB]at h;obtain⟨rfl,rfl⟩:=h;exact⟨rfl,u⟩
 |loop c ih =>
  intro s s' e a w z h j;simp only[Zz]at h;refine wp_loop_rounds n ?_
  have key:∀ (m:Nat) (s:St) (a:Act) (w:World),Wa (λs=>Zz C call kp n c (trim kp c s)) m s=O (e,s')->Rel C W0 S0 D s a w->Code.rounds C.P c (Zvu C W0 S0 D e s') m a w:=by
   intro m
   induction m with
   |zero=>intro s a w h;simp[Wa]at h
   |succ m ag =>
    intro s a w h j;simp only[Wa]at h;rw[rounds_succ]
    cases A:Zz C call kp n c (trim kp c s) with
    |none=>simp[A]at h
    |some p =>
     obtain⟨E,R⟩:=p;refine wp_mono (ih _ R E a w z A j.trim) λe' a' w' K=>?_;obtain⟨rfl,u⟩:=K
     cases E with
     |normal =>
      simp only[A]at h;exact ag R a' w' h u
     |_ =>
      simp only[A,zA,zB]at h;obtain⟨rfl,rfl⟩:=h;exact⟨rfl,u⟩
  exact key n s a w h j
 |rangeFunc f p x y _ _=>intro s s' e a w z h;simp[Zz]at h
 |exit id=>intro s s' e a w z h j;simp[Zz]at h;obtain⟨rfl,rfl⟩:=h;exact wp_exit ⟨rfl,j⟩
 |scope c ih =>
  intro s s' e a w z h j;simp only[Zz]at h;split at h
  ·rename_i hg;refine wp_scope_straight (wp_mono (ih s s' e a w z h j) λe' a' w' K=>?_);obtain⟨rfl,u⟩:=K
   cases e with
   |goto l=>exact absurd rfl (ZoJ c s s' _ hg h l)
   |normal=>exact⟨rfl,u⟩
   |exit i=>exact⟨rfl,u⟩
   |ret=>exact⟨rfl,u⟩
  ·cases h
 |label l=>intro s s' e a w z h j;simp[Zz]at h;obtain⟨rfl,rfl⟩:=h;exact wp_label ⟨rfl,j⟩
 |goto l=>intro s s' e a w z h j;simp[Zz]at h;obtain⟨rfl,rfl⟩:=h;exact wp_goto ⟨rfl,j⟩
 |ret=>intro s s' e a w z h j;simp[Zz]at h;obtain⟨rfl,rfl⟩:=h;exact wp_ret ⟨rfl,j⟩
 |refuse s=>intro s s' e a w z h;simp[Zz]at h
end
end Go.Am
