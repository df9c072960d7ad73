/- THE ABSTRACT MACHINE -/
import Derived.Test.YtmclihijlmlpkaaGreatDoorHmFsx
import Derived.Scope
open Option renaming some->O
open List renaming getElem?_set_ne->zC,getD_eq_getElem?_getD->zD,getElem?_eq_getElem->zF,getElem?_eq_none->zH
open Nat renaming le_of_not_lt->zJ
open Bool renaming and_eq_true->zG
open Array renaming getElem?_eq_getElem->zE,length_toList->zI
open Option.some renaming injEq->zA
open Prod.mk renaming injEq->zB
namespace Go.Am
open RowKit
section
variable {C:Cfg}{call:ZM}{W0:World}{S0:Snap}{D:Act->Prop}
def FRel (S:Snap)(tm:c6)(tmps:Array Value):Prop:=tm.length=tmps.size/\∀ (i:Nat) (a:AV) (v:Value),tm[i]?=O a->tmps[i]?=O v->VRel S a v
theorem FRel.mono {S g:Snap}(w:Ext S g){tm:c6}{tmps:Array Value}(h:FRel S tm tmps):FRel g tm tmps:=⟨h.1,λi a v j u=>(h.2 i a v j u).mono w⟩
theorem FRel.getD {S:Snap}{tm:c6}{tmps:Array Value}(h:FRel S tm tmps)(t:Nat):VRel S (tm.getD t (.tuple [])) (tmps.getD t undef):=by
 by_cases j:t<tmps.size
 ·have g:t<tm.length:=by rw[h.1];exact j
  have:=h.2 t tm[t] tmps[t] (zF g) (zE j);simpa[zD,j,g]using this
 ·have g:¬ t<tm.length:=by rw[h.1];exact j
  have u:tm.getD t (.tuple [])=.tuple []:=by rw[zD,zH cm];rfl
  have w:tmps.getD t undef=undef:=by simp[j]
  rw[u,w];exact .tuple [] #[] rfl cn
theorem FRel.put {S:Snap}{tm:c6}{a:Act}(h:FRel S tm a.tmps){v:AV}{u:Value}(A:VRel S v u)(d:Option Tmp):FRel S (Xh tm d v) (a.put d u).tmps:=by
 cases d with
 |none=>exact h
 |some d =>
  refine⟨by simp[Xh,Act.put,h.1],λi x y g j=>?_⟩;simp only[Xh,Act.put]at g j;by_cases hi:d=i
  ·subst hi;have w:=Zn g;simp at w;have z:d<a.tmps.size:=by rw[<-h.1];exact w
   simp[w]at g;simp[z]at j;subst g j;exact A
  ·rw[zC hi]at g;rw[Array.getElem?_setIfInBounds_ne hi]at j;exact h.2 i x y g j
theorem GlobOk.mono {S w:Snap}(y:Ext S w)(h:GlobOk C S):GlobOk C w:=λg j u=>⟨(h g j u).1.mono y,(h g j u).2.1,(h g j u).2.2.mono y⟩
theorem fQ {S:Snap}(j:GlobOk C S){tm:c6}{a:Act}(h:FRel S tm a.tmps)(x:Operand):VRel S (eval C tm x) (a.eval x):=by
 cases x with
 |tmp t=>exact h.getD t
 |const v=>exact LE 4 v
 |global g =>
  simp only[eval,Act.eval];split
  ·exact (j g _ ‹_›).1
  ·exact .undef _
 |func f=>exact .fn (.func f) [] [] #[] #[] rfl rfl cn cn
def Rel (C:Cfg)(W0:World)(S0:Snap)(D:Act->Prop)(s:St)(a:Act)(w:World):Prop:=∃ S,S.w=w/\Ext S0 S/\Inv W0 S s.2/\GlobOk C S/\FRel S s.1 a.tmps/\D a
theorem Zm6 {S:Snap}{ops:Array Oper}{tm:c6}{tmps:Array Value}{o:Oper}{b:Bool}(h:FRel S tm tmps)(hw:WM ops tm o=O b):Region.wanted o (yielded ops tmps)=b:=by
 unfold WM at hw;unfold Region.wanted
 cases E:o.guard with
 |none=>simp only[E]at hw ⊢;injection hw
 |some p =>
  obtain⟨j,F⟩:=p;simp only[E]at hw ⊢
  cases z:ops[j]? with
  |none =>
   simp only[z]at hw;injection hw with hw;subst hw;simp[yielded,z]
  |some g =>
   cases A:g.dst with
   |none =>
    simp only[z,A]at hw;injection hw with hw;subst hw;simp[yielded,z,A]
   |some d =>
    simp only[z,A]at hw;by_cases w:d<tmps.size
    ·have u:d<tm.length:=by rw[h.1];exact w
     have B:=h.2 d tm[d] tmps[d] (zF u) (zE w);rw[zF u]at hw
     have H:yielded ops tmps j=match tmps[d] with|.bool b=>O b|_=>none:=by
      simp only[yielded,z,A,Option.bind_some,zE w];cases tmps[d] <;> rfl
     rw[H];generalize tm[d]=x at B hw;generalize tmps[d]=y at B
     cases B <;> simp at hw <;> first
      |(subst hw;rfl)
      |(subst hw;simp)
    ·have u:¬ d<tm.length:=by rw[h.1];exact w
     rw[zH (zJ u)]at hw;injection hw with hw;subst hw;simp[yielded,z,A,Array.getElem?_eq_none (zJ w)]
theorem ZnY (T:VX C)(g:XR C W0 call){ops:Array Oper}{fl:Bool}{o:Oper}{i:Nat}(B:∀ a v,D a->D (a.put o.dst v)){s s':St}{a:Act}{w:World}{K:Act->World->Prop}{Q:Exit->Act->World->Prop}(ho:ops[i]?=O o)
 (h:VW C call ops fl o s=O s') (hr:Rel C W0 S0 D s a w) (F:∀ a' w',Rel C W0 S0 D s' a' w'->K a' w'):wpOp C.P ops Q i K a w:=by
 obtain⟨S,rfl,M,E,z,y,L⟩:=hr;obtain⟨tm,H⟩:=s;unfold VW YF at h;unfold wpOp;simp only[ho]
 cases hw:WM ops tm o with
 |none=>simp[hw]at h
 |some b =>
  rw[Zm6 y hw]
  cases b with
  |false =>
   simp only[hw,zA]at h;subst h;simp only[Bool.false_eq_true,if_false];exact F _ _ ⟨S,rfl,M,E,z,y.put (.tuple [] #[] rfl cn) _,B _ _ L⟩
  |true =>
   simp only[hw]at h
   cases j:Xf C call (eval C tm) H fl o.op with
   |none=>simp[j]at h
   |some p =>
    obtain⟨v,H'⟩:=p;simp only[j,zA]at h;subst h;simp only[if_true];refine .inl (Ztq T g (fQ z y) j E z λv' R u A hv=>F _ _ ⟨R,rfl,M.trans u,A,z.mono u,(y.mono u).put hv _,B _ _ L⟩)
theorem Zuw {S:Snap}{H H':Hp}{tm:c6}{o:Oper}{a:Act}{next:Act->World->Prop}{Q:Exit->Act->World->Prop}{v:AV}{p:Nat}
 (L:∀ x,VRel S (eval C tm x) (a.eval x)) (h:D2 p (Lw C (eval C tm) o.op) H=O (v,H')) (K:Inv W0 S H)
 (M:∀ v' F,Ext S F->Inv W0 F H'->VRel F v v'->next (a.put o.dst v') F.w):o.wp C.P a S.w next Q:=by
 unfold D2 at h;split at h
 ·rename_i cs g;split at h
  ·rename_i R;split at h
   rotate_left
   ·cases h
   simp only[zA,zB]at h;obtain⟨rfl,rfl⟩:=h;generalize u:o.op=op at g
   cases op with
   |alloc e =>
    simp only[Lw]at g;split at g
    ·rename_i z hz;split at g
     ·rename_i j;injection g with g;subst g;obtain⟨zc,T,aa⟩:=U5 hz;obtain⟨y,A,B,E⟩:=Zlo (P:=C.P) K R ((aa S).cells (by simp only[zG]at j;exact j.1)) e;refine Yw (w':=(S.obj p (.cells zc.cells e)).w) ?_ (M _ _ A B (.ptr _ 0 _ E));simp[execOp,u,Instr.alloc,T,newVar,y]
     ·cases g
    ·cases g
   |box e x =>
    simp only[Lw]at g;split at g
    ·rename_i j;injection g with g;subst g;obtain⟨y,A,B,E⟩:=Zlo (P:=C.P) K R ((L x).cells j) e;refine Yw (w':=(S.obj p (.cells (a.eval x).cells e)).w) ?_ (M _ _ A B (.ptr _ 0 _ E));simp[execOp,u,Instr.box,newVar,y]
    ·cases g
   |makeMap t r =>
    cases r with
    |some r=>cases g
    |none =>
     simp only[Lw,zA]at g;subst g;obtain⟨y,A,B,E⟩:=ZuR (P:=C.P) t K R;refine Yw (w':=(S.obj p (.map #[] 0)).w) ?_ (M _ _ A B E);simp[execOp,u,y]
   |_=>cases g
  ·cases h
 ·cases h
theorem Zo5 (T:VX C)(g:XR C W0 call){ops:Array Oper}{draw:Bool}{o:Oper}{b i:Nat}(A:∀ a v,D a->D (a.put o.dst v)){s s':St}{a:Act}{w:World}{K:Act->World->Prop}{Q:Exit->Act->World->Prop}(z:ops[i]?=O o)
 (h:W5 C call ops draw b i o s=O s') (M:Rel C W0 S0 D s a w) (F:∀ a' w',Rel C W0 S0 D s' a' w'->K a' w'):wpOp C.P ops Q i K a w:=by
 unfold W5 at h;split at h
 ·rename_i L;have hg:o.guard=none:=(MH z (by rw[zG]at L;exact L.2)).2;split at h
  ·cases h
  ·split at h
   ·rename_i v H' y;injection h with h;subst h;obtain⟨S,rfl,hx,hI,E,B,hd⟩:=M;obtain⟨tm,H⟩:=s;unfold wpOp;simp only[z];have hw:Region.wanted o (yielded ops a.tmps)=true:=by unfold Region.wanted;simp[hg]
    rw[hw];simp only[if_true];refine .inl (Zuw (fQ E B) y hI λv' R j u hv=>F _ _ ⟨R,rfl,hx.trans j,u,E.mono j,(B.mono j).put hv _,A _ _ hd⟩)
   ·cases h
 ·exact ZnY T g A z h M F
theorem ZzL (F:VX C)(j:XR C W0 call){ops:Array Oper}(H:∀ (i:Nat) o,ops[i]?=O o->∀ a v,D a->D (a.put o.dst v)){Q:Exit->Act->World->Prop}{b:Nat}{r:St}(z:∀ a w,Rel C W0 S0 D r a w->Q .normal a w):∀ (n:Nat) (g:Array Bool) (s:St) (a:Act) (w:World),
 Any C call ops b n g s r->Rel C W0 S0 D s a w->wpAny C.P .any ops Q n g a w:=by
 intro n
 induction n with
 |zero =>
  intro g s a w h u;obtain⟨E,rfl⟩:=h;exact⟨E,z a w u⟩
 |succ n M =>
  intro g s a w h u;refine⟨λB=>?_,λi hi=>?_⟩
  ·have:=h.1 B;subst this;exact z a w u
  ·obtain⟨o,s',A,L,K⟩:=h.2 i hi;exact Zo5 F j (H i o A) A L u λa' w' y=>M _ s' a' w' K y
theorem Zzz (E:VX C)(g:XR C W0 call){ops:Array Oper}(F:∀ (i:Nat) o,ops[i]?=O o->∀ a v,D a->D (a.put o.dst v)){b:Nat}{Q:Exit->Act->World->Prop}{r:St}(H:∀ a w,Rel C W0 S0 D r a w->Q .normal a w):∀ (l:List Oper) (k:Nat) (s:St) (a:Act) (w:World),
 (∀ j,l[j]?=ops[k+j]?)->YD C call ops false b k l s=O r->Rel C W0 S0 D s a w->wpOps C.P ops Q (List.range' k l.length) a w:=by
 intro l
 induction l with
 |nil =>
  intro k s a w _ h u;simp[YD]at h;subst h;exact H a w u
 |cons o l K =>
  intro k s a w B h u;have A:ops[k]?=O o:=by simpa using (B 0).symm
  unfold YD at h;split at h
  ·rename_i s' z;rw[List.length_cons,List.range'_succ,wpOps_cons];exact Zo5 E g (F k o A) A z u λa' w' y=>K (k+1) s' a' w' (λj=>by have:=B (j+1);simpa[Nat.add_assoc,Nat.add_comm 1 j]using this) h y
  ·cases h
theorem TR (keep:da):∀ (l:c6) (i:Nat),(XQ keep i l).length=l.length:=by
 intro l
 induction l with
 |nil=>intro i;rfl
 |cons a l g=>intro i;simp[XQ,g]
theorem ZnM (keep:da):∀ (l:c6) (i j:Nat) (a:AV),(XQ keep i l)[j]?=O a->a=.undef\/l[j]?=O a:=by
 intro l
 induction l with
 |nil=>intro i j a h;simp[XQ]at h
 |cons x l g =>
  intro i j a h
  cases j with
  |zero =>
   simp only[XQ,List.getElem?_cons_zero,zA]at h;split at h
   ·right;simp[h]
   ·left;exact h.symm
  |succ j=>simpa using g (i+1) j a (by simpa[XQ]using h)
theorem Rel.trim {kp:Nat->Option da}{c:Code}{s:St}{a:Act}{w:World}(h:Rel C W0 S0 D s a w):Rel C W0 S0 D (trim kp c s) a w:=by
 unfold Go.Am.trim;split
 ·exact h
 ·split
  ·exact h
  ·obtain⟨S,u,y,z,A,j,B⟩:=h;refine⟨S,u,y,z,A,⟨by rw[TR];exact j.1,λi x v g E=>?_⟩,B⟩;rcases ZnM _ _ _ _ _ g with rfl|g
   ·exact .undef _
   ·exact j.2 i x v g E
theorem Inv.freeze {S:Snap}{H:List AObj}(A:Inv W0 S H){o b:Nat}{l:c6}(ho:H[o]?=O (.cells l))(hb:S.phi o=O b) :
 ∃ S':Snap,S'.w=S.w/\Ext S S'/\Inv W0 S' (H.set o .dead)/\VRel S' (.vp l) (.pointer (O ⟨b,0,none⟩)):=by
 obtain⟨b',c,el,Q,hB,hc,hs,ad,ak,ab⟩:=A.objs o _ ho;rw[hb]at Q;injection Q with Q;subst Q
 have hx:Ext S { S with pub:=λb' i=>S.pub b' i\/b'=b } :=
  ⟨⟨λ_ _ h=>h,λ_ _ h=>⟨.inl h,rfl⟩,λ_ e b hw sz h=>⟨e,b,hw,sz,h,Nat.le_refl _,λ_=>⟨rfl,rfl,rfl⟩⟩⟩,rfl,λb' i j hl=>j.elim id λe=>by have:=A.lim;omega⟩
 refine⟨{ S with pub:=λb' i=>S.pub b' i\/b'=b },rfl,hx,?_,?_⟩
 ·refine⟨A.below,?_,?_,?_,A.tinj,A.apart,?_,A.dom,A.tdom,A.lim⟩
  ·intro o' x B;by_cases R:o=o'
   ·subst R;have hl:=Zn ho;simp[hl]at B;subst B;trivial
   ·rw[zC R]at B;have hr:=A.objs o' x B
    have aa:∀ b',S.phi o'=O b'->x≠.dead->b'≠b:=by
     intro b' z E F;subst F;exact R (A.inj o o' _ hb z (by rw[ho];simp) (by rw[B];simpa using E))
    cases x with
    |cells l' =>
     obtain⟨b',c',L,z,E,F,K,M,h6,h7⟩:=hr;refine⟨b',c',L,z,E,F,K,λi y v hy hv=>(M i y v hy hv).mono hx,λi j=>?_,h7⟩;rcases j with j|j
     ·exact h6 i j
     ·exact aa b' z cn j
    |bld T u l' =>
     obtain⟨b',z,E,F,K,M⟩:=hr;refine⟨b',z,E,F,λi j=>?_,λv g hv hg=>?_⟩
     ·rcases j with j|j
      ·exact K i j
      ·exact aa b' z cn j
     ·obtain⟨⟨n,hw,sz,q⟩,q2⟩:=M v g hv hg;refine⟨⟨n,hw,sz,q⟩,λi j=>?_⟩;rcases j with j|j
      ·exact q2 i j
      ·subst j;exact A.apart _ _ _ _ _ _ q hb
    |row e l' =>
     obtain⟨b',sz,c',L,fz,z,E,F,K,M,h6,h7,h8,h9⟩:=hr;refine⟨b',sz,c',L,fz,z,E,F,K,M,λi y v hy hv=>(h6 i y v hy hv).mono hx,λi j=>?_,h8,h9⟩;rcases j with j|j
     ·exact h7 i j
     ·subst j;exact A.apart _ _ _ _ _ _ z hb
    |tok e =>
     obtain⟨b',hw,sz,c',L,fz,z,E,F,K,M,h6,h7⟩:=hr;refine⟨b',hw,sz,c',L,fz,z,E,F,K,M,λi hi j=>?_,h7⟩;rcases j with j|j
     ·exact h6 i hi j
     ·subst j;exact A.apart _ _ _ _ _ _ z hb
    |map es ae =>
     obtain⟨b',af,z,E,F,K,M,h6⟩:=hr;refine⟨b',af,z,E,F,K,λi j=>?_,λi k v n e ah ai=>?_⟩
     ·rcases j with j|j
      ·exact M i j
      ·exact aa b' z cn j
     ·obtain⟨q1,q2,q3⟩:=h6 i k v n e ah ai;exact⟨q1.mono hx,q2.mono hx,q3⟩
    |siter s al =>
     obtain⟨b',s',z,E,F,K,M⟩:=hr;refine⟨b',s',z,E,F,K,λi j=>?_⟩;rcases j with j|j
     ·exact M i j
     ·exact aa b' z cn j
    |dead=>trivial
    |free=>exact hr
  ·intro o' ac;rw[List.length_set]at ac;exact A.past o' ac
  ·intro o1 o2 b' z E F K;refine A.inj o1 o2 b' z E (λh=>F ?_) (λh=>K ?_)
   ·by_cases R:o=o1
    ·subst R;rw[ho]at h;cases h
    ·rw[zC R];exact h
   ·by_cases R:o=o2
    ·subst R;rw[ho]at h;cases h
    ·rw[zC R];exact h
  ·intro b' i j;rcases j with j|j
   ·exact A.puball b' i j
   ·subst j;exact A.dom o _ hb
 ·have ag:∀ i,i<l.length->S.w.cell? ⟨b,0+i,none⟩=O (c.getD i undef):=by
   intro i hi;have aj:i<c.size:=cm
   simp[World.cell?,hc,aj,Nat.zero_add]
  refine .vp l b 0 (λi=>c.getD i undef) ab (λi hi=>⟨ag i hi,.inr rfl⟩) (λi x B=>?_);have hi:i<c.size:=by rw[hs];exact Zn B
  refine (ad i x _ B ?_).mono hx;simp[hi]
theorem Rel.frz1 {s:St}{a:Act}{w:World}(h:Rel C W0 S0 D s a w)(t:Nat):Rel C W0 S0 D (frz1 s t) a w:=by
 obtain⟨tm,H⟩:=s
 have B:Rel C W0 S0 D (tm.set t (tm.getD t (.tuple [])),H) a w:=by
  have:tm.set t (tm.getD t (.tuple []))=tm:=by
   apply List.ext_getElem?;intro i;by_cases A:t=i
   ·subst A;by_cases z:t<tm.length
    ·simp[z,zD]
    ·simp[z]
   ·rw[zC A]
  rw[this];exact h
 unfold Go.Am.frz1 Ng;simp only;split
 ·rename_i o A;split
  ·rename_i l z;obtain⟨S,R,T,M,h4,u,h6⟩:=h;have j:=u.getD t;rw[A]at j;generalize hv:a.tmps.getD t undef=v at j
   cases j with
   |ptr _ _ b K =>
   obtain⟨S',g1,L,g3,g4⟩:=M.freeze z K;refine⟨S',g1.trans R,T.trans L,g3,h4.mono L,⟨by simp[u.1],λi x y F Q=>?_⟩,h6⟩;by_cases hi:t=i
   ·subst hi;have g:=Zn F;simp at g;have E:t<a.tmps.size:=by rw[<-u.1];exact g
    simp[g]at F;subst F;have:y=a.tmps.getD t undef:=by simp[E]at Q ⊢;exact Q.symm
    rw[this,hv];exact g4
   ·rw[zC hi]at F;exact (u.2 i x y F Q).mono L
  ·rename_i z;exfalso;obtain⟨S,R,T,M,h4,u,h6⟩:=h;have j:=u.getD t;rw[A]at j;generalize hv:a.tmps.getD t undef=v at j
   cases j with
   |ptr _ _ b K =>
   rw[(M.objs o _ z).1]at K;cases K
  ·rename_i hn;exact B
 ·exact B
theorem Rel.frzs {kp:Nat->Option da}{id:Nat}{s:St}{a:Act}{w:World}(h:Rel C W0 S0 D s a w):Rel C W0 S0 D (frzs kp id s) a w:=by
 unfold Go.Am.frzs;split
 ·exact h
 ·rename_i g _;unfold Zks;rename_i j;clear j
  induction g generalizing s with
  |nil=>exact h
  |cons t g u=>exact u (h.frz1 t)
def ZvI:AExit->Exit
 |.normal=>.normal
 |.exit id=>.exit id
 |.goto l=>.goto l
 |.ret=>.ret
def ZvS (C:Cfg)(W0:World)(S0:Snap)(D:Act->Prop)(e:AExit)(s:St):Exit->Act->World->Prop:=λg a w=>g=ZvI e/\Rel C W0 S0 D s a w
theorem Rel.resv {s:St}{a:Act}{w:World}(h:Rel C W0 S0 D s a w)(n:Nat):Rel C W0 S0 D (s.1,Qj n s.2) a w:=by
 cases n with
 |zero=>exact h
 |succ n =>
  obtain⟨S,g,j,u,y⟩:=h;exact⟨S,g,j,u.resv (n+1),y⟩
theorem Zob (n:Nat)(H:Hp):(Qj n H).length=H.length+n:=by
 cases n with
 |zero=>rfl
 |succ n=>simp[Qj]
theorem Zpj {kp:Nat->Option da}{n:Nat}:∀ (c:Code) (s s':St) (e:AExit),XM c=true->ZA C call kp n c s=O (e,s')->∀ l,e≠.goto l:=by
 intro c
 induction c with
 |seq a b z A =>
  intro s s' e g h;simp only[XM,zG]at g;simp only[ZA]at h;split at h
  ·exact A _ _ _ g.2 h
  ·exact z _ _ _ g.1 h
 |cond o x y E F =>
  intro s s' e g h;simp only[XM,zG]at g;simp only[ZA]at h;split at h
  ·split at h
   ·exact E _ _ _ g.1 h
   ·exact F _ _ _ g.2 h
  ·cases h
 |block id c w =>
  intro s s' e g h;simp only[XM]at g;simp only[ZA]at h;split at h
  ·split at h <;>
   ·simp only[zA,zB]at h;intro l u;rw[<-h.1]at u;cases u
  ·exact w _ _ _ g h
 |loop c w =>
  intro s s' e g h;simp only[XM]at g;simp only[ZA]at h
  have key:∀ (j:Nat) (s:St),W4 (λs=>ZA C call kp n c (trim kp c s)) j s=O (e,s')->∀ l,e≠.goto l:=by
   intro j
   induction j with
   |zero=>intro s h;simp[W4]at h
   |succ j B =>
    intro s h;simp only[W4]at h;split at h
    ·exact B _ h
    ·exact w _ _ _ g h
  exact key _ _ h
 |scope c w =>
  intro s s' e g h;simp only[XM]at g;simp only[ZA]at h;rw[if_pos g]at h;exact w _ _ _ g h
 |goto l=>intro s s' e g;simp[XM]at g
 |region id ops draw =>
  intro s s' e g h;simp only[ZA]at h;split at h
  ·cases h
  ·split at h
   ·simp only[zA,zB]at h;intro l u;rw[<-h.1]at u;cases u
   ·cases h
 |skip|exit _|label _|ret =>
  intro s s' e g h;simp only[ZA,zA,zB]at h;intro l u;rw[<-h.1]at u;cases u
 |_=>intro s s' e g h;simp[ZA]at h
def Dx (D:Act->Prop):Code->Prop
 |.region _ ops _=>∀ (i:Nat) o,ops[i]?=O o->∀ a v,D a->D (a.put o.dst v)
 |.seq x y=>Dx D x/\Dx D y
 |.cond _ x y=>Dx D x/\Dx D y
 |.block _ c=>Dx D c
 |.loop c=>Dx D c
 |.scope c=>Dx D c
 |_=>True
theorem gD {D:Act->Prop}(h:∀ a w v,D a->D (a.put w v)):∀ c:Code,Dx D c:=by
 intro c
 induction c with
 |region id ops draw=>exact λi o _ a v z=>h a _ v z
 |seq x y g j=>exact⟨g,j⟩
 |cond c x y g j=>exact⟨g,j⟩
 |block id c u=>exact u
 |loop c u=>exact u
 |scope c u=>exact u
 |_=>trivial
theorem ZbW (hC:VX C)(A:XR C W0 call)(ae:XE call){kp:Nat->Option da}{n:Nat}:∀ (c:Code) (s s':St) (e:AExit) (a:Act) (w:World),Dx D c ->
 ZA C call kp n c s=O (e,s')->Rel C W0 S0 D s a w->c.wp C.P (ZvS C W0 S0 D e s') a w:=by
 intro c
 induction c with
 |skip=>intro s s' e a w u h g;simp[ZA]at h;obtain⟨rfl,rfl⟩:=h;exact wp_skip ⟨rfl,g⟩
 |region id ops draw =>
  intro s s' e a w u h g;simp only[ZA]at h;have g:=g.frzs (kp:=kp) (id:=id);generalize frzs kp id s=s at h g;split at h
  ·cases h
  ·rename_i ad;split at h
   ·rename_i r H;simp only[zA,zB]at h;obtain⟨rfl,rfl⟩:=h
    cases draw with
    |false =>
     refine wp_region ?_;have:=Zzz (S0:=S0) (Q:=ZvS C W0 S0 D .normal r) hC A u (λa w g=>⟨rfl,g⟩) ops.toList 0 _ a w cn H (g.resv _);rw[zI]at this;rw[List.range_eq_range'];exact this
    |true =>
     have F:V9 ops=true/\DQ C ops (eval C s.1)=true:=by simpa using ad
     have af:=F.1;obtain⟨ab,ac⟩:=Zu6 F.2;refine wp_region_any hC.2.2.1 ?_;have g:=g.resv (Vr C ops ops.size);simp only[if_true]at H;have E:=ZoY ae ac af ops.toList 0 (Array.replicate ops.size false) (s.1,Qj (Vr C ops ops.size) s.2) r ab cn cn (λx z=>by simp[z]) (Nat.zero_le _) (by rw[Zob];omega) H;rw[zI]at E;refine ZzL (S0:=S0) hC A u (λa w g=>⟨rfl,g⟩) ops.size _ _ a _ E ?_;obtain⟨S,rfl,z,hI,hG,hF,hd⟩:=g;exact⟨S.drew,rfl,z.trans (Ext.drew S),hI.drew,hG.mono (Ext.drew S),hF.mono (Ext.drew S),hd⟩
   ·cases h
 |seq x y L M =>
  intro s s' e a w u h g;simp only[ZA]at h
  cases z:ZA C call kp n x s with
  |none=>simp[z]at h
  |some p =>
   obtain⟨B,R⟩:=p;refine wp_seq (wp_mono (L s R B a w u.1 z g) λe' a' w' K=>?_);obtain⟨rfl,j⟩:=K
   cases B with
   |normal =>
    simp only[z]at h;exact M _ s' e a' w' u.2 h j.trim
   |_ =>
    simp only[z,zA,zB]at h;obtain⟨rfl,rfl⟩:=h;exact⟨rfl,j⟩
 |cond c x y L M =>
  intro s s' e a w u h g;simp only[ZA]at h;split at h
  ·rename_i t ht;have aa:=g;obtain⟨S,rfl,z,hI,hG,hF,hd⟩:=g;have hc:=fQ hG hF c;rw[ht]at hc;generalize T:a.eval c=cv at hc;cases hc with|bool _ =>
   cases t with
   |true=>exact wp_cond_true T (L s s' e a _ u.1 (by simpa using h) aa)
   |false=>exact wp_cond_false T (M s s' e a _ u.2 (by simpa using h) aa)
  ·cases h
 |block id c ih =>
  intro s s' e a w u h g;simp only[ZA]at h
  cases z:ZA C call kp n c s with
  |none=>simp[z]at h
  |some p =>
   obtain⟨B,R⟩:=p;refine wp_block (wp_mono (ih s R B a w u z g) λe' a' w' K=>?_);obtain⟨rfl,j⟩:=K
   cases B with
   |exit i =>
    simp only[z]at h;simp only[ZvI,Exit.inBlock];split at h
    ·rename_i hi;simp only[zA,zB]at h;obtain⟨rfl,rfl⟩:=h;rw[if_pos hi];exact⟨rfl,j⟩
    ·rename_i hi;simp only[zA,zB]at h;obtain⟨rfl,rfl⟩:=h;rw[if_neg hi];exact⟨rfl,j⟩
   |_ =>
    simp only[z,zA,zB]at h;obtain⟨rfl,rfl⟩:=h;exact⟨rfl,j⟩
 |loop c ih =>
  intro s s' e a w u h g;simp only[ZA]at h;refine wp_loop_rounds n ?_
  have key:∀ (m:Nat) (s:St) (a:Act) (w:World),W4 (λs=>ZA C call kp n c (trim kp c s)) m s=O (e,s')->Rel C W0 S0 D s a w->Code.rounds C.P c (ZvS C W0 S0 D e s') m a w:=by
   intro m
   induction m with
   |zero=>intro s a w h;simp[W4]at h
   |succ m ag =>
    intro s a w h g;simp only[W4]at h;rw[rounds_succ]
    cases z:ZA C call kp n c (trim kp c s) with
    |none=>simp[z]at h
    |some p =>
     obtain⟨B,R⟩:=p;refine wp_mono (ih _ R B a w u z g.trim) λe' a' w' K=>?_;obtain⟨rfl,j⟩:=K
     cases B with
     |normal =>
      simp only[z]at h;exact ag R a' w' h j
     |_ =>
      simp only[z,zA,zB]at h;obtain⟨rfl,rfl⟩:=h;exact⟨rfl,j⟩
  exact key n s a w h g
 |rangeFunc f p x y _ _=>intro s s' e a w u h;simp[ZA]at h
 |exit id=>intro s s' e a w u h g;simp[ZA]at h;obtain⟨rfl,rfl⟩:=h;exact wp_exit ⟨rfl,g⟩
 |scope c ih =>
  intro s s' e a w u h g;simp only[ZA]at h;split at h
  ·rename_i hg;refine wp_scope_straight (wp_mono (ih s s' e a w u h g) λe' a' w' K=>?_);obtain⟨rfl,j⟩:=K
   cases e with
   |goto l=>exact absurd rfl (Zpj c s s' _ hg h l)
   |normal=>exact⟨rfl,j⟩
   |exit i=>exact⟨rfl,j⟩
   |ret=>exact⟨rfl,j⟩
  ·cases h
 |label l=>intro s s' e a w u h g;simp[ZA]at h;obtain⟨rfl,rfl⟩:=h;exact wp_label ⟨rfl,g⟩
 |goto l=>intro s s' e a w u h g;simp[ZA]at h;obtain⟨rfl,rfl⟩:=h;exact wp_goto ⟨rfl,g⟩
 |ret=>intro s s' e a w u h g;simp[ZA]at h;obtain⟨rfl,rfl⟩:=h;exact wp_ret ⟨rfl,g⟩
 |refuse s=>intro s s' e a w u h;simp[ZA]at h
end
end Go.Am
