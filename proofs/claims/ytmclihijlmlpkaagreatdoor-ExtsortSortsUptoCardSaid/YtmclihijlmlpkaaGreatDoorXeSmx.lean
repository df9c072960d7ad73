/- Temporary files in the machine -/
import Derived.Test.YtmclihijlmlpkaaGreatDoorXeQbx
import Derived.Test.YtmclihijlmlpkaaGreatDoorXeGXx
import Derived.Test.YtmclihijlmlpkaaGreatDoorXeXx
import Derived.Test.YtmclihijlmlpkaaGreatDoorXeMzx
import Derived.Test.YtmclihijlmlpkaaGreatDoorHmXx
open Option renaming some->N
open Bool renaming true->I,false->Y
open List renaming length->O
open Go.db renaming cm->X
open Go.Am.AV renaming int->Q
open Go.IntKind renaming i64->J
open Go.IntKind renaming i64->xW
open List renaming getElem?_append_left->zB,length_nil->zC,filter_cons->zD,pairwise_cons->zE,length_cons->zG,getElem?_append_right->zH,getElem?_eq_some_iff->zI,mem_cons->zJ,length_append->zK,mem_singleton->zL,length_take->zM,getElem?_cons_zero->zQ,getElem?_cons_succ->zR,set->zS,length_singleton->zT,nil_append->zU,mem_append->zV,mem_of_getElem?->zW,length_drop->zX,cons_append->zY,append_assoc->zZ,mem_of_mem_take->yA,mem_of_mem_drop->yB,filter_append->yD,take_append_drop->yF,getElem?_of_mem->yH,mem_filter->yI,foldl_cons->yJ,getLast?_eq_none_iff->yM,getLast?_eq_getElem?->yN,getElem?_eq_getElem->yP,length_eq_zero_iff->yR,filter_eq_nil_iff->yT,append_nil->yU,range_succ->yV,map_append->yW,pairwise_append->yY,all_cons->xA,length_pos_iff->xB,map_congr_left->xC,getElem?_drop->xD,length_range'->xE,isEmpty_cons->xG,mapM_cons->xK,mem_range->xL,mapM_nil->xN,map_cons->xP,map_nil->xQ,range'->xS,range->xV
open Nat renaming le_refl->zF,zero_add->zN,div_add_mod->yC,mul_comm->yE,div_eq_of_lt->yG,mul_add_div->yK,min_eq_right->yQ,mul_div_cancel_left->yS,mul_le_mul_right->yZ,le_trans->xF,le_add_right->xH,add_div_left->xI,mod_lt->xJ,add_mul->xT,one_mul->xU
open Bool renaming not_true->zO,not_false->zP,false_eq_true->yL,true_and->yO,or_assoc->xM
open Int renaming le_refl->yX
open Go.Am.AObj renaming cells->zA,dead->xO
open Go.Am.AV renaming str->xR
namespace Go.Am
set_option linter.unusedSectionVars false
set_option maxRecDepth 100000
theorem JX {s:Sto}(j:s.crashed=Y)(g:s.count=0):s.tick=s:=by
 unfold Sto.tick;rw[if_neg (by simp[j]),if_neg X];cases s;simp only at g;subst g;rfl
theorem SysAt.same {H H':Hp}{o t:Nat}{tm:Tmp}{s':Sto}{B S:da}(j:TmpAt H o t tm B)(g:∀ a∈B,a∉S)(hr:StoRes H H' t s' S S):SysAt H' o t tm s' (B++S) :=
 ⟨B,S,j.stp hr.stp g,hr.at',g,rfl⟩
section
variable {H:Hp}{o t:Nat}{tm:Tmp}{s:Sto}{A:da}(h:SysAt H o t tm s A)(hm:TmpOk tm)(hk:StoOk s)(n:Zx)
include h hm hk
theorem Zte (hf:Yp tm n≠0)(i:Int):Vy [.ptr o 0,.str n,Q J i] H=N (.tuple [.str [],Q J 0,Q J (Yp tm n)],H):=by
 obtain⟨B,S,⟨z,j,C,sl,u,rfl⟩,w,y,rfl⟩:=h;have g:=CY u hm n;have e0:(Yp tm n != 0)=I:=by simpa using hf
 rw[G8];unfold J1;simp only[g,go_sem,e0]
theorem Ztf (hf:Yp tm n=0)(hc:s.tick.crashed=Y){f:Fil}(hg:Y5 s.files n=N f){p:Zx}{rest:List Zx}(D:f.text=p++Y1 rest)(hfit:X5 rest=I)(hlen:O f.text<=262144) :
 ∃ H',Vy [.ptr o 0,.str n,Q J (O p:Int)] H=N (match rest with
  |[]=>.tuple [.str [],Q J 0,Q J 5]
  |l::_=>.tuple [.str l,Q J ((p++X0 l).length:Int),Q J 0],H')/\SysAt H' o t tm s.tick A/\Stp A H H':=by
 obtain⟨B,S,j,T,Z,rfl⟩:=h;have hB:=j;obtain⟨ms,R,nx,sl,j,rfl⟩:=j;have u:=CY j hm n;have L:=ZU j.cells 0 (v:=.ptr t 0) rfl;have e0:(Yp tm n != 0)=Y:=by rw[hf];rfl
 have F:((0:Int) != 0)=Y:=rfl;have ab:O p<=O f.text:=by rw[D];simp
 obtain⟨H1,E,M⟩:=ZvT T hk n (O p:Int) 4102 X
 have z:s.read n (O p:Int) 4102=((Y1 rest).take 4102,0):=by
  unfold Sto.read;rw[if_neg (by simp[hc]),hg];dsimp only;rw[if_neg X,Int.toNat_natCast,D,List.drop_append_of_le_length (zF _),List.drop_length];rfl
 rw[z]at E;refine⟨H1,?_,SysAt.same hB Z M,M.stp.mono λa ha=>by simp[ha]⟩;rw[G8];unfold J1
 cases rest with
 |nil =>
  have g:((Y1 ([]:List Zx)).take 4102==([]:Zx))=I:=rfl;simp only[u,go_sem,e0,zN,KU,L,E,zQ,zR,F,KV,g]
 |cons l r =>
  have hl:O l<=4096:=by
   simp only[X5,xA,Bool.and_eq_true,decide_eq_true_eq]at hfit;exact hfit.1
  have y:(Y1 (l::r)).take 4102=X0 l++(Y1 r).take (4102-(X0 l).length):=by
   show (X0 l++Y1 r).take 4102=_;rw[List.take_append,List.take_of_length_le (by rw[Gr];omega)]
  have g:((Y1 (l::r)).take 4102==([]:Zx))=Y:=by
   rw[y];have:(X0 l).length≠0:=by rw[Gr];omega
   cases hr:X0 l with
   |nil=>rw[hr]at this;simp at this
   |cons a b=>rfl
  have w:=ZuS l ((Y1 r).take (4102-(X0 l).length)) hl (by
   rw[zM];omega) H1
  rw[<-y]at w
  have aa:(Y1 (l::r)).length<=262144:=by
   have:=congrArg List.length D;rw[zK]at this;omega
  have C:(X0 l).length=O l+6:=Gr l
  have hw:xW.wrap ((O p:Int)+((O l+6:Nat):Int))=((p++X0 l).length:Int):=by
   rw[zK,C,Zo X X];omega
  simp only[u,go_sem,e0,zN,KU,L,E,zQ,zR,F,KV,g,Sk,w,Sm,hw]
end
abbrev U4 (o:Nat)(n:Zx)(i:Nat)(g u:Bool)(j:Zx):c6:=[.ptr o 0,.str n,Q J (i:Int),.bool g,.bool u,.str j]
def Rdr (H:Hp)(r o:Nat)(n text:Zx)(rest:List Zx):Prop :=
 (∃ l q p,H[r]?=N (.cells (U4 o n (p++X0 l).length I Y l))/\rest=l::q/\text=p++X0 l++Y1 q) \/
 (rest=[]/\∃ p,H[r]?=N (.cells (U4 o n p Y I []))) \/
 ∃ p,H[r]?=N (.cells (U4 o n (O p) Y Y []))/\text=p++Y1 rest
theorem Rdr.cells {H:Hp}{r o:Nat}{n text:Zx}{rest:List Zx}(h:Rdr H r o n text rest):∃ c,H[r]?=N (.cells c):=by
 rcases h with ⟨l,q,p,h,_⟩|⟨_,p,h⟩|⟨p,h,_⟩ <;> exact⟨_,h⟩
theorem Rdr.frame {H H':Hp}{r o:Nat}{n text:Zx}{rest:List Zx}(h:Rdr H r o n text rest)(hf:H'[r]?=H[r]?):Rdr H' r o n text rest:=by
 unfold Rdr at h ⊢;rw[hf];exact h
section
variable {H:Hp}{o t:Nat}{tm:Tmp}{s:Sto}{A:da}(h:SysAt H o t tm s A)(hm:TmpOk tm)(hk:StoOk s){n:Zx}{r:Nat}{f:Fil}{rest:List Zx}
 (hr:Rdr H r o n f.text rest) (hrA:r∉A) (hf:Yp tm n=0) (hc:s.crashed=Y) (h0:s.count=0) (hg:Y5 s.files n=N f) (hfit:X5 rest=I) (hlen:O f.text<=262144)
include h hm hk hr hrA hf hc h0 hg hfit hlen
theorem ZvR:∃ H',Vn [.ptr r 0] H=N (.tuple [.str (rest.headD []),.bool (!rest.isEmpty),Q J 0],H')/\SysAt H' o t tm s A/\Stp (r::A) H H' /\
 (rest=[]/\(∃ p,H'[r]?=N (.cells (U4 o n p Y I [])))\/∃ l q p,H'[r]?=N (.cells (U4 o n (p++X0 l).length I Y l))/\rest=l::q/\f.text=p++X0 l++Y1 q):=by
 have E:=JX hc h0;have g:YJ (.pointer 119) .eql (.ptr r 0) .nilp=N (.bool Y):=rfl;rw[Rg];unfold G7;rcases hr with ⟨l,q,p,hr,rfl,w⟩|⟨rfl,p,hr⟩|⟨p,hr,w⟩
 ·have z:=ZU hr 3 (v:=.bool I) rfl;have l5:=ZU hr 5 (v:=.str l) rfl;refine⟨H,?_,h,Stp.refl _ _,.inr ⟨l,q,p,hr,rfl,w⟩⟩;simp only[go_sem,zN,g,Xd,z,zO,Xe,F2,l5];rfl
 ·have z:=ZU hr 3 (v:=.bool Y) rfl;have L:=ZU hr 4 (v:=.bool I) rfl;refine⟨H,?_,h,Stp.refl _ _,.inl ⟨rfl,p,hr⟩⟩;simp only[go_sem,zN,g,Xd,z,L,zO,zP,Xe];rfl
 ·have z:=ZU hr 3 (v:=.bool Y) rfl;have L:=ZU hr 4 (v:=.bool Y) rfl;have l0:=ZU hr 0 (v:=.ptr o 0) rfl;have l1:=ZU hr 1 (v:=.str n) rfl;have l2:=ZU hr 2 (v:=Q J (O p:Int)) rfl;obtain⟨H1,q1,q2,q3⟩:=Ztf h hm hk n hf (by rw[E];exact hc) hg w hfit hlen;rw[E]at q2;have F:=q3.get hr hrA
  cases rest with
  |nil =>
   have e5:((5:Int)==0)=Y:=rfl;have R:((5:Int)==5)=I:=rfl;have s4:=Vb F 4 (v:=.bool I) rfl rfl cn;have D:=Zs (zA (zS (U4 o n (O p) Y Y []) 4 (.bool I))) F;have k3:=ZU D 3 (v:=.bool Y) rfl;have j:Stp (r::A) H1 (H1.set r (.cells (zS (U4 o n (O p) Y Y []) 4 (.bool I)))):=Stp.set _ _ cn;refine⟨H1.set r (.cells (zS (U4 o n (O p) Y Y []) 4 (.bool I))),?_,q2.stp (C:=[r]) (Stp.set _ _ cn) (λa u=>by simp;exact λe=>hrA (e ▸ u)),(q3.mono (B:=r::A) λa u=>by simp[u]).trans j (λ_ h=>h) (λ_ h=>.inl h),.inl ⟨rfl,O p,D⟩⟩;simp only[go_sem,zN,g,Xd,z,L,l0,l1,l2,q1,zQ,zR,e5,R,s4,Xe,k3,zP];rfl
  |cons l q =>
   have ez:((0:Int)==0)=I:=rfl;have s5:=Vb F 5 (v:=.str l) rfl rfl cn;have D:=Zs (zA (zS (U4 o n (O p) Y Y []) 5 (.str l))) F;have s2:=Vb D 2 (v:=Q J ((p++X0 l).length:Int)) rfl rfl cn;have S:=Zs (zA (zS (zS (U4 o n (O p) Y Y []) 5 (.str l)) 2 (Q J ((p++X0 l).length:Int)))) D;have M:=Vb S 3 (v:=.bool I) rfl rfl cn;have y:=Zs (zA (zS (zS (zS (U4 o n (O p) Y Y []) 5 (.str l)) 2 (Q J ((p++X0 l).length:Int))) 3 (.bool I))) S;generalize T:H1.set r (.cells (zS (U4 o n (O p) Y Y []) 5 (.str l)))=H2 at s5 s2 S M y;generalize Z:H2.set r (.cells (zS (zS (U4 o n (O p) Y Y []) 5 (.str l)) 2 (Q J ((p++X0 l).length:Int))))=H3 at s2 M y;generalize aa:H3.set r (.cells (zS (zS (zS (U4 o n (O p) Y Y []) 5 (.str l)) 2 (Q J ((p++X0 l).length:Int))) 3 (.bool I)))=H4 at M y;have k3:=ZU y 3 (v:=.bool I) rfl;have k5:=ZU y 5 (v:=.str l) rfl
   have j:Stp [r] H1 H4:=by
    rw[<-aa,<-Z,<-T];exact ((Stp.set _ _ cn).trans (Stp.set _ _ cn) (λ_ h=>h) λ_ h=>.inl h).trans (Stp.set _ _ cn) (λ_ h=>h) λ_ h=>.inl h
   refine⟨H4,?_,q2.stp j (λa u=>by simp;exact λe=>hrA (e ▸ u)),(q3.mono (B:=r::A) λa u=>by simp[u]).trans (j.mono (B:=r::A) λa u=>by rw[zL.1 u];simp) (λ_ h=>h) (λ_ h=>.inl h),.inr ⟨l,q,p,y,rfl,by rw[w];simp[Y1]⟩⟩;simp only[go_sem,zN,g,Xd,z,L,l0,l1,l2,q1,zQ,zR,ez,s5,s2,M,Xe,k3,zO,zP,F2,k5];rfl
end
structure Cm {α:Type}(f:α->α->Int):Prop where
 one:∀ a b,f a b=-1\/f a b=0\/f a b=1
 sym:∀ a b,f b a=-f a b
 tr:∀ a b c,f a b<=0->f b c<=0->f a c<=0/\(f a c<0↔f a b<0\/f b c<0)
theorem Cm.of {α:Type}{f g:α->α->Int}(h:Cm f)(e:∀ a b,g a b=f a b):Cm g:=by
 have:g=f:=funext λa=>funext λb=>e a b;rw[this];exact h
theorem Cm.comap {α β:Type}{f:β->β->Int}(h:Cm f)(g:α->β):Cm λa b=>f (g a) (g b) :=
 ⟨λa b=>h.one _ _,λa b=>h.sym _ _,λa b c=>h.tr _ _ _⟩
theorem Cm.tr2 {α:Type}{f:α->α->Int}(h:Cm f)(a b c:α)(w:0<=f a b)(y:0<=f b c):0<=f a c/\(0<f a c↔0<f a b\/0<f b c):=by
 have g:=h.sym a b;have j:=h.sym b c;have u:=h.sym a c;have:=h.tr c b a X X;omega
theorem Cm.self {α:Type}{f:α->α->Int}(h:Cm f)(a:α):f a a=0:=by
 have:=h.sym a a;omega
theorem Cm.neg {α:Type}{f:α->α->Int}(h:Cm f):Cm λa b=>-f a b:=by
 refine⟨λa b=>?_,λa b=>?_,λa b c g j=>?_⟩
 ·have:=h.one a b;show -f a b=_\/-f a b=_\/-f a b=_;omega
 ·have:=h.sym a b;show -f b a=- -f a b;omega
 ·have:=h.tr2 a b c X X;show -f a c<=0/\(-f a c<0↔-f a b<0\/-f b c<0);omega
theorem Cm.lex {α:Type}{f g:α->α->Int}(h:Cm f)(k:Cm g):Cm λa b=>if (f a b != 0)=I then f a b else g a b:=by
 have e:∀ a b,(if (f a b != 0)=I then f a b else g a b)=if f a b=0 then g a b else f a b:=λa b=>by
  by_cases h0:f a b=0 <;> simp[h0]
 refine Cm.of (f:=λa b=>if f a b=0 then g a b else f a b) ⟨λa b=>?_,λa b=>?_,λa b c=>?_⟩ e
 ·show (if f a b=0 then g a b else f a b)=-1\/_\/_;have j:=h.one a b;have u:=k.one a b;split <;> assumption
 ·show (if f b a=0 then g b a else f b a)=-(if f a b=0 then g a b else f a b);have j:=h.sym a b;have u:=k.sym a b;split <;> split <;> omega
 ·show (if f a b=0 then g a b else f a b)<=0->(if f b c=0 then g b c else f b c)<=0->(if f a c=0 then g a c else f a c)<=0/\((if f a c=0 then g a c else f a c)<0↔(if f a b=0 then g a b else f a b)<0\/(if f b c=0 then g b c else f b c)<0);have j:=h.tr a b c;have u:=k.tr a b c;intro w y;by_cases z:f a b=0 <;> by_cases B:f b c=0 <;> by_cases z3:f a c=0 <;> simp only[z,B,z3,if_true,if_false]at w y ⊢ <;> omega
theorem sgnS_cm:Cm LH:=by
 refine⟨ZfZ,λa b=>?_,λa b c=>?_⟩
 ·unfold LH;split <;> split <;> (try split) <;> (try split) <;> omega
 ·unfold LH;intro B C;by_cases g:a<b <;> by_cases j:b<a <;> by_cases u:b<c <;> by_cases w:c<b <;> by_cases y:a<c <;> by_cases z:c<a <;> simp only[g,j,u,w,y,z,if_true,if_false]at B C ⊢ <;> omega
theorem ordS_cm:Cm XX:=by
 refine⟨ZfN,?_,?_⟩
 ·intro a
  induction a with
  |nil=>intro b;cases b <;> simp[XX]
  |cons x a g =>
   intro b
   cases b with
   |nil=>simp[XX]
   |cons y b =>
    rw[Qi,Qi];have:=g b;split <;> split <;> (try split) <;> (try split) <;> omega
 ·intro a
  induction a with
  |nil=>intro b c;cases b <;> cases c <;> simp[XX]
  |cons x a g =>
   intro b c
   cases b with
   |nil=>cases c <;> simp[XX]
   |cons y b =>
    cases c with
    |nil=>simp[XX]
    |cons z c =>
     rw[Qi,Qi,Qi];have:=g b c;intro E F;by_cases j:x<y <;> by_cases u:y<x <;> by_cases w:y<z <;> by_cases B:z<y <;> by_cases C:x<z <;> by_cases D:z<x <;> simp only[j,u,w,B,C,D,if_true,if_false]at E F ⊢ <;> omega
theorem ZyP:Cm Qw:=(ordS_cm.comap Nw).of λa b=>(Zfn a b).symm
theorem Zkl (L:Loc):Cm (Qx L):=(ordS_cm.comap (wS (Y6 L))).lex ZyP
theorem Zlv (L:Loc)(n:Nat):Cm (P5 L n):=by
 cases g:n.testBit 0 with
 |true=>exact (sgnS_cm.comap Hn).of λa b=>by simp[P5,g]
 |false=>exact ((Zkl L).comap (Xy L n)).of λa b=>by simp[P5,g]
theorem Zlw (L:Loc)(n:Nat):Cm (WF L n):=by
 cases g:n.testBit 1 with
 |true=>exact (Zlv L n).neg.of λa b=>by simp[WF,g]
 |false=>exact (Zlv L n).of λa b=>by simp[WF,g]
theorem ZyQ (L:Loc)(p:Spec):∀ l:List Ke,Cm λa b=>Lh L p a b l:=by
 intro l
 induction l with
 |nil=>exact⟨λ_ _=>.inr (.inl rfl),λ_ _=>rfl,λ_ _ _ _ _=>⟨yX _,by simp[Lh]⟩⟩
 |cons k l g=>exact (((Zlw L (Qb p k)).comap λa=>ex a (fields a p.sep) k).lex g).of λa b=>Zao L p a b k l
theorem Zxr (L:Loc)(p:Spec):Cm (Zc3 L p):=by
 cases g:(O p.keys==0) with
 |true=>exact (Zlw L p.flags.toNat).of λa b=>by simp only[Zc3,g,if_true]
 |false=>exact (ZyQ L p p.keys).of λa b=>by simp only[Zc3,g,yL,if_false]
theorem ZnR (L:Loc)(p:Spec):Cm (Yz L p):=Zxr L (Zr p)
theorem Zn5 (p:Spec):ZP (Zr p)=0:=by
 unfold Zr
 cases g:(ZP p != 0) with
 |true=>rfl
 |false=>simpa using g
theorem Zq2 (p:Spec):Zr (Zr p)=Zr p:=by
 show (if (ZP (Zr p) != 0)=I then plainP else Zr p)=Zr p;rw[Zn5];rfl
theorem Zec (L:Loc)(p:Spec)(a b:cz):Yz L (Zr p) a b=Yz L p a b:=by unfold Yz;rw[Zq2]
def Zik (L:Loc)(p:Spec)(a b:cz):Int:=if (Zr p).flags.toNat.testBit 1 then -Qx L a b else Qx L a b
theorem Zxp (L:Loc)(p:Spec):Cm (Zik L p):=by
 cases g:(Zr p).flags.toNat.testBit 1 with
 |true=>exact (Zkl L).neg.of λa b=>by simp[Zik,g]
 |false=>exact (Zkl L).of λa b=>by simp[Zik,g]
theorem OQ {L:Loc}{p:Spec}(h:((Zr p).stab || (Zr p).uniq)=I)(a b:cz):ZI L p a b=Yz L p a b:=by
 unfold ZI;rw[Zec,xM,h,Bool.or_true,if_pos rfl]
theorem ZpI {L:Loc}{p:Spec}(h:((Zr p).stab || (Zr p).uniq)=Y)(a b:cz):ZI L p a b=if (Yz L p a b != 0)=I then Yz L p a b else Zik L p a b:=by
 unfold ZI Zik;rw[Zec,xM,h,Bool.or_false]
theorem IF (L:Loc)(p:Spec):Cm (ZI L p):=by
 cases g:((Zr p).stab || (Zr p).uniq) with
 |true=>exact (ZnR L p).of (OQ g)
 |false=>exact ((ZnR L p).lex (Zxp L p)).of (ZpI g)
section
variable {α:Type}{f:α->α->Int}
def Rk (f:α->α->Int)(l:List α):Prop:=l.Pairwise λa b=>f a b<=0
def YV (f:α->α->Int)(x y:α):Bool:=f x y==0
def mergeL (f:α->α->Int):List α->List α->List α
 |[],b=>b
 |a::l,[]=>a::l
 |a::l,b::m=>if 0<f a b then b::mergeL f (a::l) m else a::mergeL f l (b::m)
termination_by a b=>a.length+b.length
theorem GS (b:List α):mergeL f [] b=b:=by rw[mergeL]
theorem Kq (a:List α):mergeL f a []=a:=by cases a <;> rw[mergeL]
theorem Xz (a b:α)(l m:List α):mergeL f (a::l) (b::m)=if 0<f a b then b::mergeL f (a::l) m else a::mergeL f l (b::m):=by rw[mergeL]
def Qh (f:α->α->Int):Nat->List α->List α
 |0,l=>l
 |n+1,l=>if O l<2 then l else mergeL f (Qh f n (l.take (O l / 2))) (Qh f n (l.drop (O l / 2)))
def Uj (f:α->α->Int)(S:List α)(y:α):Nat->Nat
 |0=>0
 |k+1=>match S[k]? with
  |some s=>if 0<f s y then Uj f S y k else k+1
  |none=>Uj f S y k
def UO (f:α->α->Int)(S:List α)(y:α):List α:=S.take (Uj f S y (O S))++y::S.drop (Uj f S y (O S))
def Nk (f:α->α->Int)(l:List α):List α:=l.foldl (UO f) []
def VG (g:α->α->Int)(out:List α)(x:α):Bool:=match out.getLast? with
 |some y=>g y x==0
 |none=>Y
def Xt (g:α->α->Int):List α->List α->List α
 |out,[]=>out
 |out,x::l=>Xt g (if VG g out x=I then out else out++[x]) l
variable (h:Cm f)
include h
theorem Cm.eqv_iff (x y:α):YV f x y=I↔f x y=0:=by unfold YV;rw[beq_iff_eq]
theorem Cm.le_trans {a b c:α}(g:f a b<=0)(j:f b c<=0):f a c<=0:=(h.tr a b c g j).1
theorem Cm.lt_le {a b c:α}(g:f a b<0)(j:f b c<=0):f a c<0:=(h.tr a b c X j).2.2 (.inl g)
theorem Cm.le_lt {a b c:α}(g:f a b<=0)(j:f b c<0):f a c<0:=(h.tr a b c g X).2.2 (.inr j)
theorem Zg3:∀ A B:List α,Rk f A->Rk f B->(∀ x,A.filter (YV f x)=B.filter (YV f x))->A=B:=by
 intro A;have self:∀ x,YV f x x=I:=λx=>by rw[h.eqv_iff];exact h.self x
 induction A with
 |nil =>
  intro B _ _ hf
  cases B with
  |nil=>rfl
  |cons b B =>
   have:=hf b;rw[zD,self b]at this;simp at this
 |cons a A F =>
  intro B D E hf
  cases B with
  |nil =>
   have:=hf a;rw[zD,self a]at this;simp at this
  |cons b B =>
   have j:=zE.1 D;have u:=zE.1 E
   have z:b∈a::A:=by
    have g:b∈(b::B).filter (YV f b):=yI.2 ⟨cn,self b⟩;rw[<-hf b]at g;exact (yI.1 g).1
   have w:a∈b::B:=by
    have g:a∈(a::A).filter (YV f a):=yI.2 ⟨cn,self a⟩;rw[hf a]at g;exact (yI.1 g).1
   have g:f a b<=0:=by
    rcases zJ.1 z with e|e
    ·rw[e,h.self];exact yX _
    ·exact j.1 b e
   have L:f b a<=0:=by
    rcases zJ.1 w with e|e
    ·rw[e,h.self];exact yX _
    ·exact u.1 a e
   have C:f a b=0:=by have:=h.sym a b;omega
   have y:a=b:=by
    have:=hf a;rw[zD,self a,zD,(h.eqv_iff a b).2 C]at this;simp only[if_true,List.cons.injEq]at this;exact this.1
   subst y;congr 1;refine F B j.2 u.2 λx=>?_;have:=hf x;rw[zD,zD]at this;split at this
   ·simpa using this
   ·exact this
theorem Zlk:∀ (A B:List α) (x:α),x∈mergeL f A B↔x∈A\/x∈B:=by
 intro A B x
 induction A,B using mergeL.induct f with
 |case1 b=>simp[GS]
 |case2 a l=>simp[Kq]
 |case3 a l b m hc g =>
  rw[Xz,if_pos hc,zJ,g];simp only[zJ];constructor
  ·rintro (h|h|h) <;> simp[h]
  ·rintro (h|h|h) <;> simp[h]
 |case4 a l b m hc g =>
  rw[Xz,if_neg hc,zJ,g];simp only[zJ];constructor
  ·rintro (h|h|h) <;> simp[h]
  ·rintro ((h|h)|h) <;> simp[h]
theorem ZuH:∀ A B:List α,Rk f A->Rk f B->Rk f (mergeL f A B):=by
 intro A B
 induction A,B using mergeL.induct f with
 |case1 b=>intro _ z;rw[GS];exact z
 |case2 a l=>intro w _;rw[Kq];exact w
 |case3 a l b m hc D =>
  intro w z;rw[Xz,if_pos hc];have j:=zE.1 w;have u:=zE.1 z;refine zE.2 ⟨λy g=>?_,D w u.2⟩;rcases (Zlk h _ _ y).1 g with g|g
  ·have C:f b a<0:=by have:=h.sym a b;omega
   rcases zJ.1 g with e|e
   ·rw[e];omega
   ·have:=h.lt_le C (j.1 y e);omega
  ·exact u.1 y g
 |case4 a l b m hc D =>
  intro w z;rw[Xz,if_neg hc];have j:=zE.1 w;have u:=zE.1 z;refine zE.2 ⟨λy g=>?_,D j.2 z⟩;rcases (Zlk h _ _ y).1 g with g|g
  ·exact j.1 y g
  ·rcases zJ.1 g with e|e
   ·rw[e];omega
   ·exact h.le_trans X (u.1 y e)
theorem ZnU (x:α):∀ A B:List α,Rk f A->(mergeL f A B).filter (YV f x)=A.filter (YV f x)++B.filter (YV f x):=by
 intro A B
 induction A,B using mergeL.induct f with
 |case1 b=>intro _;rw[GS];simp
 |case2 a l=>intro _;rw[Kq];simp
 |case3 a l b m hc D =>
  intro w;have g:=zE.1 w;rw[Xz,if_pos hc,zD,D w]
  cases z:YV f x b with
  |false=>simp only[zD,z,yL,if_false]
  |true =>
   rw[h.eqv_iff]at z;have j:f b a<0:=by have:=h.sym a b;omega
   have u:(a::l).filter (YV f x)=[]:=by
    rw[yT];intro y F C;rw[h.eqv_iff]at C
    have E:f b y<0:=by
     rcases zJ.1 F with e|e
     ·rw[e];exact j
     ·exact h.lt_le j (g.1 y e)
    have L:=h.le_lt (a:=x) (b:=b) (c:=y) X E;omega
   rw[u];simp[zD,(h.eqv_iff x b).2 z]
 |case4 a l b m hc D =>
  intro w;have g:=zE.1 w;rw[Xz,if_neg hc,zD,D g.2,zD (xs:=l)];split <;> simp
theorem Zsb:∀ (n:Nat) (l:List α),O l<=n->Rk f (Qh f n l)/\∀ x,(Qh f n l).filter (YV f x)=l.filter (YV f x):=by
 intro n
 induction n with
 |zero=>intro l B;have:l=[]:=yR.1 X;subst this;exact⟨List.Pairwise.nil,λ_=>rfl⟩
 |succ n u =>
  intro l B;unfold Qh;split
  ·rename_i j;refine⟨?_,λ_=>rfl⟩
   match l,j with
   |[],_=>exact List.Pairwise.nil
   |[a],_=>exact List.pairwise_singleton _ _
  ·rename_i j;obtain⟨g,w⟩:=u (l.take (O l / 2)) (by rw[zM];omega);obtain⟨y,z⟩:=u (l.drop (O l / 2)) (by rw[zX];omega);refine⟨ZuH h _ _ g y,λx=>?_⟩;rw[ZnU h x _ _ g,w,z,<-yD,yF]
omit h in
theorem ZkF (S:List α)(y:α):∀ k,Uj f S y k<=k:=by
 intro k
 induction k with
 |zero=>exact zF _
 |succ k g =>
  unfold Uj;split
  ·split <;> omega
  ·omega
omit h in
theorem ZiA (S:List α)(y:α):∀ k,∀ j s,Uj f S y k<=j->j<k->S[j]?=N s->0<f s y:=by
 intro k
 induction k with
 |zero=>intro j s _ z;omega
 |succ k w =>
  intro j s g z u;unfold Uj at g;by_cases B:j=k
  ·subst B;rw[u]at g;simp only at g;split at g
   ·assumption
   ·omega
  ·split at g
   ·split at g
    ·exact w j s g X u
    ·omega
   ·exact w j s g X u
omit h in
theorem Zzj (S:List α)(y:α):∀ k,Uj f S y k=0\/∃ s,S[Uj f S y k-1]?=N s/\f s y<=0:=by
 intro k
 induction k with
 |zero=>exact .inl rfl
 |succ k g =>
  unfold Uj;split
  ·rename_i s j;split
   ·exact g
   ·exact .inr ⟨s,by simpa using j,X⟩
  ·exact g
theorem Zz6 {S:List α}(Z:Rk f S)(y:α):Rk f (UO f S y):=by
 unfold UO;have ab:=ZkF (f:=f) S y (O S);have D:Rk f (S.take (Uj f S y (O S))++S.drop (Uj f S y (O S))):=by rw[yF];exact Z
 obtain⟨s1,s2,s3⟩:=yY.1 D
 have u:∀ z∈S.drop (Uj f S y (O S)),f y z<0:=λz B=>by
  obtain⟨j,g⟩:=yH B;rw[xD]at g;have M:=(zI.1 g).1;have:=ZiA S y (O S) _ z (xH _ _) M g;have:=h.sym z y;omega
 have w:∀ z∈S.take (Uj f S y (O S)),f z y<=0:=λz B=>by
  rcases Zzj (f:=f) S y (O S) with h0|⟨s,C,T⟩
  ·rw[h0]at B;simp at B
  ·obtain⟨j,g⟩:=yH B;obtain⟨E,aa⟩:=zI.1 g;rw[zM]at E;rw[List.getElem?_take_of_lt X]at g;by_cases he:j=Uj f S y (O S)-1
   ·rw[<-he,g]at C;injection C with C;rw[C];exact T
   ·have R:f z s<=0:=by
     obtain⟨F,e1⟩:=zI.1 g;obtain⟨L,e2⟩:=zI.1 C;rw[<-e1,<-e2];exact List.pairwise_iff_getElem.1 Z _ _ F L X
    exact h.le_trans R T
 refine yY.2 ⟨s1,zE.2 ⟨λz B=>by have:=u z B;omega,s2⟩,λa ha b hb=>?_⟩;rcases zJ.1 hb with e|e
 ·rw[e];exact w a ha
 ·exact s3 a ha b e
theorem ZrT (S:List α)(y x:α):(UO f S y).filter (YV f x)=S.filter (YV f x)++[y].filter (YV f x):=by
 unfold UO;have g:S.filter (YV f x)=(S.take (Uj f S y (O S))).filter (YV f x)++(S.drop (Uj f S y (O S))).filter (YV f x):=by rw[<-yD,yF]
 rw[g,yD,zZ];congr 1;rw[zD,zD,List.filter_nil]
 cases B:YV f x y with
 |false=>simp
 |true =>
  rw[h.eqv_iff]at B
  have:(S.drop (Uj f S y (O S))).filter (YV f x)=[]:=by
   rw[yT];intro z D C;rw[h.eqv_iff]at C;obtain⟨j,u⟩:=yH D;rw[xD]at u;have w:=(zI.1 u).1;have E:=ZiA S y (O S) _ z (xH _ _) w u;have F:=h.sym z y;have L:=h.le_lt (a:=x) (b:=y) (c:=z) X X;omega
  rw[this];simp
theorem ZnE:∀ (l S:List α),Rk f S->Rk f (l.foldl (UO f) S)/\∀ x,(l.foldl (UO f) S).filter (YV f x)=S.filter (YV f x)++l.filter (YV f x):=by
 intro l
 induction l with
 |nil=>intro S g;exact⟨g,λx=>cn⟩
 |cons y l j =>
  intro S g;obtain⟨a,b⟩:=j (UO f S y) (Zz6 h g y);refine⟨a,λx=>?_⟩;rw[yJ,b,ZrT h,zZ,<-yD];rfl
theorem ZuK (l:List α){n:Nat}(y:O l<=n):Qh f n l=Nk f l:=by
 obtain⟨g,j⟩:=Zsb h n l y;obtain⟨u,w⟩:=ZnE h l [] List.Pairwise.nil;exact Zg3 h _ _ g u λx=>by rw[j,show Nk f l=l.foldl (UO f) [] from rfl,w];rfl
end
structure Fv (K:AV->Prop)(t:Zi->Zi->Bool):Prop where
 close:∀ v,K v->∃ v',Zh [] 0 9 v=N v'/\K v'
 run:∀ v,K v->∀ a b:Zi,O a<=1048576->O b<=1048576->∀ H,Yu cfg (Zb cfg) v [.str a,.str b] H=N (.bool (t a b),H)
theorem ZuG {f:Zi->Zi->Int}:∀ A B:List Zi,(mergeL f A B).length=O A+O B:=by
 intro A B
 induction A,B using mergeL.induct f with
 |case1 b=>simp[GS]
 |case2 a l=>simp[Kq]
 |case3 a l b m hc g=>rw[Xz,if_pos hc,zG,g];simp only[zG];omega
 |case4 a l b m hc g=>rw[Xz,if_neg hc,zG,g];simp only[zG];omega
theorem Zs6 {f:Zi->Zi->Int}:∀ (A B:List Zi) (x:Zi),x∈mergeL f A B->x∈A\/x∈B:=by
 intro A B x
 induction A,B using mergeL.induct f with
 |case1 b=>simp[GS]
 |case2 a l=>simp[Kq]
 |case3 a l b m hc g =>
  rw[Xz,if_pos hc,zJ]
  rintro (h|h)
  ·exact .inr (by simp[h])
  ·rcases g h with h|h
   ·exact .inl h
   ·exact .inr (by simp[h])
 |case4 a l b m hc g =>
  rw[Xz,if_neg hc,zJ]
  rintro (h|h)
  ·exact .inl (by simp[h])
  ·rcases g h with h|h
   ·exact .inl (by simp[h])
   ·exact .inr h
theorem OO {f:Zi->Zi->Int}:∀ (n:Nat) (l:List Zi),(Qh f n l).length=O l/\∀ s∈Qh f n l,s∈l:=by
 intro n
 induction n with
 |zero=>intro l;exact⟨rfl,λs h=>h⟩
 |succ n g =>
  intro l;unfold Qh;split
  ·exact⟨rfl,λs h=>h⟩
  ·obtain⟨j,u⟩:=g (l.take (O l / 2));obtain⟨w,y⟩:=g (l.drop (O l / 2));refine⟨by rw[ZuG,j,w,zM,zX];omega,λs z=>?_⟩;rcases Zs6 _ _ s z with h|h
   ·exact yA (u s h)
   ·exact yB (y s h)
section
variable {K:AV->Prop}{f:Zi->Zi->Int}(hK:Fv K λa b=>decide (0<f a b))
include hK
theorem Zs5 {v:AV}(hv:K v)(H0:Hp):∀ (A B g:List Zi) (x6 x7 x8:AV) (H:Hp),SS x6 A->SS x7 B->RS H x8 g->YE A->YE B->O g+O A+O B<=4194304 ->
 ∃ y H',YM v x6 x7 x8 H0 H=N (y,H')/\RS H' y (g++mergeL f A B):=by
 intro A B
 induction A,B using mergeL.induct f with
 |case1 B =>
  intro g x6 x7 x8 H u w L M R F;obtain⟨y1,H1,T,Z⟩:=L.app u X;obtain⟨y2,H2,q3,q4⟩:=Z.app w (by simp at F ⊢;omega);refine⟨y2,H2,?_,by rw[GS];simpa using q4⟩;have j:=SS.len u 9;rw[YY];simp only[go_sem,j,zC,show decide ((0:Int)<((0:Nat):Int))=Y from rfl,U2,T,q3]
 |case2 a l =>
  intro g x6 x7 x8 H u w L M R F;obtain⟨y1,H1,T,Z⟩:=L.app u (by simp at F ⊢;omega);obtain⟨y2,H2,q3,q4⟩:=Z.app w (by simp at F ⊢;omega);refine⟨y2,H2,?_,by rw[Kq];simpa using q4⟩;have j:=SS.len u 9;have D:=SS.len w 9;have hp:decide ((0:Int)<(((a::l).length:Nat):Int))=I:=cn
  rw[YY];simp only[go_sem,j,D,hp,zC,show decide ((0:Int)<((0:Nat):Int))=Y from rfl,U2,T,q3]
 |case3 a l b m hc ih =>
  intro g x6 x7 x8 H u w L M R F;have j:=SS.len u 9;have D:=SS.len w 9;have hp:decide ((0:Int)<(((a::l).length:Nat):Int))=I:=cn
  have S:decide ((0:Int)<(((b::m).length:Nat):Int))=I:=cn
  have z:=SS.idx u (i:=0) (s:=a) rfl;have C:=SS.idx w (i:=0) (s:=b) rfl;obtain⟨ab,r1,r2⟩:=SS.lo w (n:=1) cn;have E:=hK.run v hv a b (M a cn) (R b cn) H;obtain⟨y1,H1,T,Z⟩:=L.app (Zby b) (by simp at F ⊢;omega);obtain⟨y,H',q3,q4⟩:=ih (g++[b]) x6 ab y1 H1 u r2 Z M (λs hs=>R s (by simp[hs])) (by simp at F ⊢;omega);refine⟨y,H',?_,by rw[Xz,if_pos hc];simpa using q4⟩;rw[show ((0:Nat):Int)=0 from rfl]at z C;rw[show ((1:Nat):Int)=1 from rfl]at r1;rw[YY];simp only[go_sem,j,D,hp,S,U3,z,C,Zu,E,decide_eq_true hc,Jf,T,r1,q3]
 |case4 a l b m hc ih =>
  intro g x6 x7 x8 H u w L M R F;have j:=SS.len u 9;have D:=SS.len w 9;have hp:decide ((0:Int)<(((a::l).length:Nat):Int))=I:=cn
  have S:decide ((0:Int)<(((b::m).length:Nat):Int))=I:=cn
  have z:=SS.idx u (i:=0) (s:=a) rfl;have C:=SS.idx w (i:=0) (s:=b) rfl;obtain⟨aa,r1,r2⟩:=SS.lo u (n:=1) cn;have E:=hK.run v hv a b (M a cn) (R b cn) H;obtain⟨y1,H1,T,Z⟩:=L.app (Zby a) (by simp at F ⊢;omega);obtain⟨y,H',q3,q4⟩:=ih (g++[a]) aa x7 y1 H1 r2 w Z (λs hs=>M s (by simp[hs])) R (by simp at F ⊢;omega);refine⟨y,H',?_,by rw[Xz,if_neg hc];simpa using q4⟩;rw[show ((0:Nat):Int)=0 from rfl]at z C;rw[show ((1:Nat):Int)=1 from rfl]at r1;rw[YY];simp only[go_sem,j,D,hp,S,U3,z,C,Zu,E,decide_eq_false hc,Jf,T,r1,q3]
theorem Zsa:∀ (n:Nat) (l:List Zi) (x v:AV),O l<=n->O l<=1048576->YE l->SS x l->K v->∀ H,∃ y,Ze YR [x,v] H=N (y,H)/\SS y (Qh f n l):=by
 intro n
 induction n with
 |zero =>
  intro l x v hn hl z hx hv H;have:l=[]:=yR.1 X;subst this;obtain⟨x',E,g⟩:=SS.closed hx [] 0 7;obtain⟨v',F,L⟩:=hK.close v hv;obtain⟨y,p1,p2⟩:=EP g hl [];have M:=SS.len g 9;obtain⟨D,C,w⟩:=SS.closed p2 [] 0 7;refine⟨D,Rs E F ?_ C,w⟩;rw[Wa];unfold Xs;simp only[go_sem,M,zC,show decide (((0:Nat):Int)<2)=I from rfl,p1]
 |succ n ih =>
  intro l x v hn hl z hx hv H;obtain⟨x',E,g⟩:=SS.closed hx [] 0 7;obtain⟨v',F,L⟩:=hK.close v hv;have M:=SS.len g 9;unfold Qh;by_cases h2:O l<2
  ·have hd:decide ((O l:Int)<2)=I:=by simp;omega
   obtain⟨y,p1,p2⟩:=EP g hl [];obtain⟨D,C,w⟩:=SS.closed p2 [] 0 7;rw[if_pos h2];refine⟨D,Rs E F ?_ C,w⟩;rw[Wa];unfold Xs;simp only[go_sem,M,hd,p1]
  ·rw[if_neg h2];have hd:decide ((O l:Int)<2)=Y:=by simp;omega
   have hq:Z3 .quo (Q J (O l:Int)) (Q J 2)=N (Q J ((O l / 2:Nat):Int)):=by
    simp[Z3,Wj,Wk];exact Zo X X
   obtain⟨xa,a1,a2⟩:=SS.hi g (n:=O l / 2) X;obtain⟨xb,b1,b2⟩:=SS.lo g (n:=O l / 2) X;obtain⟨ya,a3,a4⟩:=ih (l.take (O l / 2)) xa v' (by rw[zM];omega) (by rw[zM];omega) (λs u=>z s (yA u)) a2 L [];obtain⟨yb,b3,b4⟩:=ih (l.drop (O l / 2)) xb v' (by rw[zX];omega) (by rw[zX];omega) (λs u=>z s (yB u)) b2 L [];obtain⟨R,S⟩:=OO (f:=f) n (l.take (O l / 2));obtain⟨T,Z⟩:=OO (f:=f) n (l.drop (O l / 2))
   have j:Uy 1 16 Y (.str []) (Q J 0) (Q J (O l:Int)) []=N (.vs 1 (.own 0 0) [],[.tok 0]):=by
    have hf:YB (O l:Int).toNat 16=I:=by simp[YB];omega
    unfold Uy;dsimp only;rw[if_pos ⟨yX _,X,rfl,rfl,co,hf⟩];simp
   have B:RS [AObj.tok 0] (.vs 1 (.own 0 0) []) []:=.inr ⟨0,0,rfl,rfl,zF _⟩
   obtain⟨y,H',C,w⟩:=Zs5 hK L [] (Qh f n (l.take (O l / 2))) (Qh f n (l.drop (O l / 2))) [] ya yb _ _ a4 b4 B
    (λs u=>z s (yA (S s u))) (λs u=>z s (yB (Z s u))) (by rw[R,T,zM,zX,zC];omega)
   rw[zU]at w;obtain⟨D,q3,q4⟩:=w.done H';refine⟨D,Rs E F ?_ q3,q4⟩;rw[Wa];unfold Xs;simp only[go_sem,M,hd,DZ,hq,a1,a3,b1,b3,j,C]
end
theorem Zlq {g:Zi->Zi->Int}:∀ (l out:List Zi),(Xt g out l).length<=O out+O l:=by
 intro l
 induction l with
 |nil=>intro out;simp[Xt]
 |cons x l j =>
  intro out;unfold Xt;refine xF (j _) ?_;split <;> simp <;> omega
theorem Zlr {g:Zi->Zi->Int}:∀ (l out:List Zi),∀ s∈Xt g out l,s∈out\/s∈l:=by
 intro l
 induction l with
 |nil=>intro out s j;exact .inl j
 |cons x l u =>
  intro out s j;unfold Xt at j;rcases u _ s j with h|h
  ·split at h
   ·exact .inl h
   ·rcases zV.1 h with h|h
    ·exact .inl h
    ·exact .inr (by rw[zL.1 h];simp)
  ·exact .inr (by simp[h])
theorem ZuY {K:AV->Prop}{g:Zi->Zi->Int}(hK:Fv K λa b=>g a b==0){v:AV}(hv:K v){x:AV}{l:List Zi}(hx:SS x l)(hL:YE l)(hl:O l<=1048576)(H0:Hp):∀ (r done out:List Zi) (S:AV) (H:Hp),l=done++r->RS H S out->YE out->O out<=O done ->
 ∃ y H',Wr v S x (Q J (O l:Int)) (Q J (O done:Int)) H0 H=N (y,H')/\RS H' y (Xt g out r):=by
 intro r
 induction r with
 |nil =>
  intro done out S H R M ho ag;rw[yU]at R;subst R;have L:decide ((O l:Int)<(O l:Int))=Y:=cn
  refine⟨S,H,?_,M⟩;rw[Je];simp only[go_sem,L,Nr]
 |cons a r ih =>
  intro done out S H R M ho ag;have hlen:O l=O done+(O r+1):=by rw[R];simp
  have L:decide ((O done:Int)<(O l:Int))=I:=by simp;omega
  have ai:xW.wrap ((O done:Int)+1)=((O done+1:Nat):Int):=by rw[Zo X X];omega
  have aa:l[O done]?=N a:=by rw[R,zH (zF _)];simp
  have hi:=SS.idx hx aa;have Z:O a<=1048576:=hL a (zW aa);have T:=SS.len M.sl 9;obtain⟨y1,H1,q1,q2⟩:=M.app (Zby a) (by simp;omega)
  have w:∀ u F H',RS H' F u->YE u->O u<=O done+1->∃ y j,Wp v F x (Q J (O l:Int)) (Q J (O done:Int)) H0 H'=N (y,j)/\RS j y (Xt g u r):=λu F H' h1 h2 h3=>by
   obtain⟨y,j,C,E⟩:=ih (done++[a]) u F H' (by rw[R];simp) h1 h2 (by simpa using h3);rw[zK,zT]at C;exact⟨y,j,by simp only[Nt,go_sem,ai,C],E⟩
  have B:YE (out++[a]):=λs hs=>by
   rcases zV.1 hs with h|h
   ·exact ho s h
   ·rw[zL.1 h];exact Z
  have ad:∃ y H',VU v S x (Q J (O l:Int)) (Q J (O done:Int)) (.bool I) H0 H=N (y,H')/\RS H' y (Xt g out (a::r)):=by
   rw[Ns];unfold Xt
   cases D:out.getLast? with
   |none =>
    have:out=[]:=yM.1 D;subst this;rw[show VG g [] a=Y from rfl];obtain⟨y,j,C,E⟩:=w _ _ _ q2 B cn;refine⟨y,j,?_,by simpa using E⟩;simp only[go_sem,hi,Zu,T,zC,show (((0:Nat):Int)==0)=I from rfl,Jf,q1,C]
   |some z =>
    have af:out≠[]:=λe=>by subst e;simp at D
    have ak:0<O out:=xB.2 af;have ac:out[O out-1]?=N z:=by rw[<-yN];exact D
    have h0:((O out:Int)==0)=Y:=by rw[beq_eq_false_iff_ne];omega
    have aj:xW.wrap ((O out:Int)-1)=((O out-1:Nat):Int):=by rw[Zo X X];omega
    have ae:=SS.idx M.sl ac;have ab:=hK.run v hv z a (ho z (zW ac)) Z H;have ah:VG g out a=(g z a==0):=by unfold VG;rw[D]
    simp only[go_sem,hi,Zu,T,h0,aj,ae,ab,ah]
    cases hg:(g z a==0) with
    |true =>
     obtain⟨y,j,C,E⟩:=w _ _ _ M ho X;exact⟨y,j,by simp only[zO,go_sem,C],by simpa using E⟩
    |false =>
     obtain⟨y,j,C,E⟩:=w _ _ _ q2 B (by simp;omega);exact⟨y,j,by simp only[zP,go_sem,Jf,q1,C],by simpa using E⟩
  obtain⟨y,H',C,E⟩:=ad;refine⟨y,H',?_,E⟩;rw[Je];simp only[go_sem,L,C]
theorem ZuX {K:AV->Prop}{g:Zi->Zi->Int}(hK:Fv K λa b=>g a b==0){v:AV}(F:K v){x:AV}{l:List Zi}(L:SS x l)(C:YE l)(D:O l<=1048576)(H:Hp):∃ y,Ze Ud [x,v] H=N (y,H)/\SS y (Xt g [] l):=by
 obtain⟨x',w,j⟩:=SS.closed L [] 0 7;obtain⟨v',z,B⟩:=hK.close v F;obtain⟨y,H',u,M⟩:=ZuY hK B j C D [] l [] [] .nils [] rfl (RowN.nil _ _ _) (λs E=>by cases E) (zF _);rw[zC,show ((0:Nat):Int)=0 from rfl]at u;obtain⟨Z,S,T⟩:=M.done H';refine⟨Z,Rs w z ?_ S,T⟩;have R:=SS.len j 9;rw[Ms];unfold G6;simp only[go_sem,R,u]
def SpecCells (l:c6)(p:Spec):Prop:=∃ x,l=p.cells x/\Sl 5 x (p.keys.map Ke.av)
theorem SpecCells.close {l:c6}{p:Spec}(h:SpecCells l p)(H:Hp)(n f:Nat):∃ g,l.mapM (Zh H n (f+3))=N g/\SpecCells g p:=by
 obtain⟨x,rfl,y⟩:=h
 obtain⟨j,u,w⟩:=y.close (H:=H) (n:=n) (f:=f+2) (λc hc=>by
  obtain⟨k,_,rfl⟩:=List.mem_map.1 hc;exact k.close H n f)
 refine⟨p.cells j,?_,j,rfl,w⟩;simp only[Spec.cells,xK,u,xN];rfl
def ClK (g:Nat)(L:Loc)(p:Spec)(v:AV):Prop:=∃ lc sc,v=.fn (.func g) [] [.vp lc,.vp sc]/\LocCells lc L/\SpecCells sc p
theorem Zrd (H:Hp)(n f:Nat)(g:Fn)(a b:AV):Zh H n (f+1) (.fn g [] [a,b])=match Zh H n f a,Zh H n f b with
 |some a',N b'=>N (.fn g [] [a',b'])
 |_,_=>none:=by
 show (match ([]:c6).mapM (Zh H n f),[a,b].mapM (Zh H n f) with
  |some a,N b=>N (AV.fn g a b)
  |_,_=>none)=_
 simp only[xN,xK];cases Zh H n f a <;> cases Zh H n f b <;> rfl
theorem ClK.close {g:Nat}{L:Loc}{p:Spec}{v:AV}(h:ClK g L p v):∃ v',Zh [] 0 9 v=N v'/\ClK g L p v':=by
 obtain⟨lc,sc,rfl,w,y⟩:=h;obtain⟨j,z,B⟩:=w.close [] 0 4;obtain⟨u,C,D⟩:=y.close [] 0 4;refine⟨.fn (.func g) [] [.vp j,.vp u],?_,j,u,rfl,B,D⟩;rw[Zrd,Q6,Q6,z,C]
theorem Zvu (L:Loc)(w:LocOk L)(p:Spec)(u:∀ k∈p.keys,KeOk k):Fv (ClK 78 L p) λa b=>decide (0<ZI L p a b) where
 close:=λv y=>ClK.close y
 run:=λv y a b B C H=>by
  obtain⟨lc,sc,rfl,E,M⟩:=y;rw[Zfe];obtain⟨Z,S,T⟩:=E.close [] 0 5;obtain⟨aa,s1,s2⟩:=M.close [] 0 5;obtain⟨x,c,e,rfl,R,hc,D⟩:=T;obtain⟨xs,rfl,z⟩:=s2;have g:Zh [] 0 9 (.vp lc)=N (.vp (L.cells x c e)):=by rw[Q6,S]
  have j:Zh [] 0 9 (.vp sc)=N (.vp (p.cells xs)):=by rw[Q6,s1]
  have F:=ZnZ (a:=.agg (L.cells x c e)) (L:=L) ⟨x,c,e,rfl,R,hc,D⟩ w (q:=.agg (p.cells xs)) (p:=p) ⟨xs,rfl,z⟩ u a b B C [];refine Ij (a':=.str a) (b':=.str b) rfl rfl g j (H1:=[]) ?_ rfl;rw[lL];unfold SR;simp only[go_sem,Vp 6 (L.cells x c e) rfl,Vp 5 (p.cells xs) rfl,F]
theorem Zvv (L:Loc)(w:LocOk L)(p:Spec)(u:∀ k∈p.keys,KeOk k):Fv (ClK 81 L p) λa b=>Yz L p a b==0 where
 close:=λv y=>ClK.close y
 run:=λv y a b B C H=>by
  obtain⟨lc,sc,rfl,E,M⟩:=y;rw[Zff];obtain⟨Z,S,T⟩:=E.close [] 0 5;obtain⟨aa,s1,s2⟩:=M.close [] 0 5;obtain⟨x,c,e,rfl,R,hc,D⟩:=T;obtain⟨xs,rfl,z⟩:=s2;have g:Zh [] 0 9 (.vp lc)=N (.vp (L.cells x c e)):=by rw[Q6,S]
  have j:Zh [] 0 9 (.vp sc)=N (.vp (p.cells xs)):=by rw[Q6,s1]
  have F:=Zbn (a:=.agg (L.cells x c e)) (L:=L) ⟨x,c,e,rfl,R,hc,D⟩ w (q:=.agg (p.cells xs)) (p:=p) ⟨xs,rfl,z⟩ u a b B C [];refine Ij (a':=.str a) (b':=.str b) rfl rfl g j (H1:=[]) ?_ rfl;rw[lM];unfold SU;simp only[go_sem,Vp 6 (L.cells x c e) rfl,Vp 5 (p.cells xs) rfl,F]
def ZX (L:Loc)(p:Spec)(l:List Zi):List Zi :=
 if (ZP p != 0)=I then l else if p.uniq then Xt (Yz L p) [] (Nk (ZI L p) l) else Nk (ZI L p) l
theorem Zle (L:Loc)(p:Spec)(l:List Zi):Qh (ZI L p) (O l) l=Nk (ZI L p) l:=ZuK (IF L p) l (zF _)
theorem Iu (L:Loc)(p:Spec)(l:List Zi):(Nk (ZI L p) l).length=O l/\∀ s∈Nk (ZI L p) l,s∈l:=by
 rw[<-Zle];exact OO _ _
theorem ZnA {f:c6->Hp->Z4}{a a' b b' c c' v v':AV}{H H1:Hp}(g:Zh [] 0 9 a=N a')(j:Zh [] 0 9 b=N b')(u:Zh [] 0 9 c=N c')(hc:f [a',b',c'] []=N (v,H1))(w:Zh H1 0 9 v=N v'):Ze f [a,b,c] H=N (v',H) :=
 JD (args':=[a',b',c']) (by simp[g,j,u]) hc w
theorem ZzY {f:c6->Hp->Z4}{a a' b b' c c' d d' v v':AV}{H H1:Hp}(g:Zh [] 0 9 a=N a')(j:Zh [] 0 9 b=N b')(u:Zh [] 0 9 c=N c')(w:Zh [] 0 9 d=N d')(hc:f [a',b',c',d'] []=N (v,H1))(y:Zh H1 0 9 v=N v'):Ze f [a,b,c,d] H=N (v',H) :=
 JD (args':=[a',b',c',d']) (by simp[g,j,u,w]) hc y
theorem Zvx {a:AV}{L:Loc}(h:LocAV a L)(C:LocOk L){q:AV}{p:Spec}(hq:SpecAV q p)(u:∀ k∈p.keys,KeOk k){x:AV}{l:List Zi}(hx:SS x l)(hL:YE l)(hl:O l<=1048576)(H:Hp) :
 ∃ y,Ze Gz [a,q,x] H=N (y,H)/\SS y (ZX L p l):=by
 obtain⟨a1,h1,h2⟩:=h.close [] 0 5;obtain⟨q1,g1,g2⟩:=hq.close [] 0 5;obtain⟨x1,k1,k2⟩:=SS.closed hx [] 0 7;have g:=λH=>EN g2 H;obtain⟨lx,c,e,rfl,B,hc,he⟩:=h2;obtain⟨xp,rfl,D⟩:=g2
 suffices S:∃ y H1,Gz [.agg (L.cells lx c e),.agg (p.cells xp),x1] []=N (y,H1)/\SS y (ZX L p l) by
  obtain⟨y,H1,r1,r2⟩:=S;obtain⟨y',r3,r4⟩:=SS.closed r2 H1 0 7;exact⟨y',ZnA h1 g1 k1 r1 r3,r4⟩
 have w:Z2 I 5 (.ptr 1 0) [zA (L.cells lx c e),.cells (p.cells xp)]=N (.agg (p.cells xp)):=by simp[Z2,Go.Am.apart,Spec.cells]
 rw[Zch];unfold aN ZX
 cases hb:(ZP p != 0) with
 |true =>
  obtain⟨y,Z,E⟩:=EP k2 hl [zA (L.cells lx c e),.cells (p.cells xp)];refine⟨y,[zA (L.cells lx c e),.cells (p.cells xp)],?_,by rw[if_pos rfl];exact E⟩;simp only[go_sem,ZW,zU,zC,zG,zY,zN,w,g,hb,Z]
 |false =>
  have R:∀ (k:AV->Hp->Z4),Wy (.ptr 0 0) [zA (L.cells lx c e),.cells (p.cells xp)] k=k (.vp (L.cells lx c e)) [.dead,.cells (p.cells xp)]:=λk=>rfl;have j:∀ (k:AV->Hp->Z4),Wy (.ptr 1 0) [xO,.cells (p.cells xp)] k=k (.vp (p.cells xp)) [.dead,.dead]:=λk=>rfl;have F:ClK 78 L p (.fn (.func 78) [] [.vp (L.cells lx c e),.vp (p.cells xp)]):=⟨_,_,rfl,⟨lx,c,e,rfl,B,hc,he⟩,⟨xp,rfl,D⟩⟩;have M:ClK 81 L p (.fn (.func 81) [] [.vp (L.cells lx c e),.vp (p.cells xp)]):=⟨_,_,rfl,⟨lx,c,e,rfl,B,hc,he⟩,⟨xp,rfl,D⟩⟩;obtain⟨y,Z,E⟩:=Zsa (Zvu L C p u) (O l) l x1 _ (zF _) hl hL k2 F [xO,.dead];rw[Zle]at E;obtain⟨f1,f2⟩:=Iu L p l;have T:Z8 3 (.vp (p.cells xp))=N (.vp [.bool p.uniq,.bool p.stab]):=rfl;simp only[go_sem,ZW,zU,zC,zG,zY,zN,w,g,hb,Zbv,R,j,Z,T,Zu,yL,if_false]
  cases hu:p.uniq with
  |true =>
   obtain⟨z,o1,o2⟩:=ZuX (Zvv L C p u) M E (λs S=>hL s (f2 s S)) X [xO,.dead];exact⟨z,[.dead,.dead],by simp only[go_sem,o1,MK],by simpa using o2⟩
  |false=>exact⟨y,[.dead,.dead],by simp only[go_sem,MK],by simpa using E⟩
theorem Zxj {L:Loc}{lx c e:AV}(j:LocAV (.agg (L.cells lx c e)) L)(D:LocOk L){p:Spec}{xp:AV}(E:SpecAV (.agg (p.cells xp)) p)(w:∀ k∈p.keys,KeOk k){x:AV}{S:List Zi}(M:SS x S)(F:YE S)(Z:O S<=1048576)(y:Zi)(R:O y<=1048576)(H0:Hp):∀ k:Nat,k<=O S ->
 FF x (.str y) (.ptr 0 0) (.ptr 1 0) (Q J (k:Int)) H0 [zA (L.cells lx c e),.cells (p.cells xp)]=Ld x (.str y) (Q J ((Uj (ZI L p) S y k:Nat):Int)) H0 [zA (L.cells lx c e),.cells (p.cells xp)]:=by
 have z:Z2 I 5 (.ptr 1 0) [zA (L.cells lx c e),.cells (p.cells xp)]=N (.agg (p.cells xp)):=by simp[Z2,Go.Am.apart,Spec.cells]
 have B:=Gn L lx c e [.cells (p.cells xp)];intro k
 induction k with
 |zero =>
  intro _;rw[Cr];simp only[go_sem,show decide ((0:Int)<((0:Nat):Int))=Y from rfl,Uj]
 |succ k T =>
  intro hk;have C:decide ((0:Int)<((k+1:Nat):Int))=I:=decide_eq_true X;have hw:xW.wrap (((k+1:Nat):Int)-1)=(k:Int):=by rw[Zo X X];omega
  have hi:S[k]?=N S[k]:=yP X;have u:=SS.idx M hi;have g:=ZlD j D E w S[k] y (F _ (List.getElem_mem X)) R [zA (L.cells lx c e),.cells (p.cells xp)];rw[Cr];unfold Uj;rw[hi];simp only[go_sem,C,B,z,hw,u,Zu,g];by_cases hc:0<ZI L p S[k] y
  ·simp only[decide_eq_true hc,go_sem,Zf5,hw,if_pos hc];exact T X
  ·simp only[decide_eq_false hc,go_sem,if_neg hc]
theorem Zxi {a:AV}{L:Loc}(h:LocAV a L)(C:LocOk L){q:AV}{p:Spec}(hq:SpecAV q p)(B:∀ k∈p.keys,KeOk k){x:AV}{S:List Zi}(hx:SS x S)(hS:YE S)(hl:O S<=1048576)(y:Zi)(hy:O y<=1048576)(H:Hp) :
 ∃ z,Ze RG [a,q,x,.str y] H=N (z,H)/\SS z (UO (ZI L p) S y):=by
 obtain⟨a1,h1,R⟩:=h.close [] 0 5;obtain⟨q1,g1,M⟩:=hq.close [] 0 5;obtain⟨x1,k1,j⟩:=SS.closed hx [] 0 7;have w:=R;have E:=M;obtain⟨lx,c,e,rfl,aa,hc,he⟩:=R;obtain⟨xp,rfl,ab⟩:=M
 suffices hs:∃ z H1,RG [.agg (L.cells lx c e),.agg (p.cells xp),x1,.str y] []=N (z,H1)/\SS z (UO (ZI L p) S y) by
  obtain⟨z,H1,T,Z⟩:=hs;obtain⟨z',F,r4⟩:=SS.closed Z H1 0 7;exact⟨z',ZzY h1 g1 k1 (d':=.str y) rfl T F,r4⟩
 have hlen:=SS.len j 9;have g:=Zxj w C E B j hS hl y hy [] (O S) (zF _);have D:=ZkF (f:=ZI L p) S y (O S);unfold UO;generalize Uj (ZI L p) S y (O S)=n at g D ⊢;obtain⟨xa,u,a2⟩:=SS.hi j D;obtain⟨xb,b1,b2⟩:=SS.lo j D;obtain⟨T,H1,s1,s2⟩:=RS.app (H:=[zA (L.cells lx c e),.cells (p.cells xp)]) (x:=.nils) (l:=[]) (RowN.nil _ _ _) a2 (by rw[zM];simp;omega);obtain⟨Z,H2,s3,s4⟩:=s2.app (Zby y) (by simp;omega);obtain⟨F,H3,s5,s6⟩:=s4.app b2 (by simp;omega)
 refine⟨F,H3,?_,by
  have h7:=s6.sl
  rwa [show[]++S.take n++[y]++S.drop n=S.take n++y::S.drop n by simp]at h7⟩
 rw[Zgl];unfold nO;simp only[go_sem,ZW,zU,zC,zG,zY,zN,hlen,g,Zf4,u,s1,Jf,s3,b1,s5]
theorem ZsF {L:Loc}{lx c e:AV}(ah:LocAV (.agg (L.cells lx c e)) L)(al:LocOk L){p:Spec}{xp:AV}(an:SpecAV (.agg (p.cells xp)) p)(ai:∀ k∈p.keys,KeOk k){x:AV}{l:List Zi}(hx:SS x l)(hL:YE l)(hl:O l<=1048576)(H0:Hp) :
 ∀ (r done out:List Zi) (x7:AV) (H:Hp),H[0]?=N (.cells (L.cells lx c e))->H[1]?=N (.cells (p.cells xp))->2<=O H->l=done++r->RowN 2 H 1 x7 (out.map xR)->YE out->O out<=O done ->
 ∃ y H',NV x (.ptr 0 0) (.ptr 1 0) x7 (Q J (O done:Int)) H0 H=N (y,H')/\SS y (if p.uniq then Xt (Yz L p) out r else out++r):=by
 intro r
 induction r with
 |nil =>
  intro done out x7 H e0 e1 j Z T ho ak;rw[yU]at Z;subst Z;have w:decide ((O l:Int)<(O l:Int))=Y:=cn
  have p3:=SS.len hx 9;refine⟨x7,H,?_,?_⟩
  ·rw[bR];simp only[go_sem,p3,w,ZjO]
  ·have:=T.sl;split <;> simpa[Xt]using this
 |cons a r ih =>
  intro done out x7 H e0 e1 j Z T ho ak;have hlen:O l=O done+(O r+1):=by rw[Z];simp
  have w:decide ((O done:Int)<(O l:Int))=I:=by simp;omega
  have ao:xW.wrap ((O done:Int)+1)=((O done+1:Nat):Int):=by rw[Zo X X];omega
  have p3:=SS.len hx 9;have ab:l[O done]?=N a:=by rw[Z,zH (zF _)];simp
  have hi:=SS.idx hx ab;have aa:O a<=1048576:=hL a (zW ab);have R:=SS.len T.sl 9;have ad:Z2 I 5 (.ptr 1 0) H=N (.agg (p.cells xp)):=by rw[Yk e1];simp[Go.Am.apart,Spec.cells]
  have ae:Z2 I 6 (.ptr 0 0) H=N (.agg (L.cells lx c e)):=by rw[Yk e0];simp[Go.Am.apart,Loc.cells]
  have hu:Z2 Y 1 (.ptr 1 (0+3)) H=N (.bool p.uniq):=ZT (l:=p.cells xp) e1;obtain⟨y1,H1,q1,q2,q3,q4,q5⟩:=T.app j 16 (.vs 1 .clip [.str a]) [.str a] rfl (by simp;omega);have ap:RowN 2 H1 1 y1 ((out++[a]).map xR):=by simpa using q2
  have D:YE (out++[a]):=λs hs=>by
   rcases zV.1 hs with h|h
   ·exact ho s h
   ·rw[zL.1 h];exact aa
  have u:∀ g F H',H'[0]?=N (.cells (L.cells lx c e))->H'[1]?=N (.cells (p.cells xp))->2<=O H'->RowN 2 H' 1 F (g.map xR)->YE g->O g<=O done+1->∃ y B,NT x (.ptr 0 0) (.ptr 1 0) F (Q J (O done:Int)) H0 H'=N (y,B)/\SS y (if p.uniq then Xt (Yz L p) g r else g++r):=λg F H' g0 g1 gl h1 h2 h3=>by
   obtain⟨y,B,p1,S⟩:=ih (done++[a]) g F H' g0 g1 gl (by rw[Z];simp) h1 h2 (by simpa using h3);rw[zK,zT]at p1;exact⟨y,B,by simp only[ZjP,go_sem,ao,p1],S⟩
  obtain⟨y,H',p1,S⟩:=u (out++[a]) y1 H1 (q5 _ _ e0) (q5 _ _ e1) q3 ap D (by simp;omega);rw[bR]
  cases hq:p.uniq with
  |false =>
   rw[hq]at S hu;refine⟨y,H',?_,by simpa using S⟩;simp only[go_sem,p3,w,GF,hu,zP,hi,Zu,Jf,q1,p1]
  |true =>
   rw[hq]at S hu
   cases E:out.getLast? with
   |none =>
    have:out=[]:=yM.1 E;subst this;refine⟨y,H',?_,?_⟩
    ·simp only[go_sem,p3,w,GF,hu,zO,R,zC,show (((0:Nat):Int)==0)=I from rfl,hi,Zu,Jf,q1,p1]
    ·unfold Xt;rw[show VG (Yz L p) [] a=Y from rfl];simpa using S
   |some z =>
    have aj:out≠[]:=λe=>by subst e;simp at E
    have aq:0<O out:=xB.2 aj;have ag:out[O out-1]?=N z:=by rw[<-yN];exact E
    have h0:((O out:Int)==0)=Y:=by rw[beq_eq_false_iff_ne];omega
    have af:xW.wrap ((O out:Int)-1)=((O out-1:Nat):Int):=by rw[Zo X X];omega
    have ac:=SS.idx T.sl ag;have M:=ZiI ah al an ai z a (ho z (zW ag)) aa H;have am:VG (Yz L p) out a=(Yz L p z a==0):=by unfold VG;rw[E]
    unfold Xt;rw[am]
    cases hg:(Yz L p z a==0) with
    |true =>
     have C:(Yz L p z a != 0)=Y:=by rw[bne,hg];rfl
     obtain⟨y',B,r1,r2⟩:=u out x7 H e0 e1 j T ho X;rw[hq]at r2;refine⟨y',B,?_,by simpa using r2⟩;simp only[go_sem,p3,w,GF,hu,zO,R,h0,ae,ad,af,ac,hi,Zu,M,C,r1]
    |false =>
     have C:(Yz L p z a != 0)=I:=by rw[bne,hg];rfl
     refine⟨y,H',?_,by simpa using S⟩;simp only[go_sem,p3,w,GF,hu,zO,R,h0,ae,ad,af,ac,hi,Zu,M,C,Jf,q1,p1]
theorem ZiM {a:AV}{L:Loc}(h:LocAV a L)(u:LocOk L){q:AV}{p:Spec}(T:SpecAV q p)(j:∀ k∈p.keys,KeOk k){x:AV}{l:List Zi}(hx:SS x l)(M:YE l)(R:O l<=1048576)(H:Hp) :
 ∃ z,Ze Ev [a,q,x] H=N (z,H)/\SS z (if p.uniq then Xt (Yz L p) [] l else l):=by
 obtain⟨a1,F,C⟩:=h.close [] 0 5;obtain⟨q1,E,B⟩:=T.close [] 0 5;obtain⟨x1,k1,k2⟩:=SS.closed hx [] 0 7;have g:=C;have w:=B;obtain⟨lx,c,e,rfl,S,hc,he⟩:=C;obtain⟨xp,rfl,aa⟩:=B;obtain⟨y,H1,D,r2⟩:=ZsF g u w j k2 M R [] l [] [] .nils [zA (L.cells lx c e),.cells (p.cells xp)] rfl rfl (zF _) rfl (RowN.nil _ _ _) (λs Z=>by cases Z) (zF _);rw[zC,show ((0:Nat):Int)=0 from rfl]at D;obtain⟨y',r3,r4⟩:=SS.closed r2 H1 0 7;refine⟨y',ZnA F E k1 ?_ r3,by simpa using r4⟩;rw[ZlT];unfold Zgm;simp only[go_sem,ZW,zU,zC,zG,zY,zN,D]
theorem Zme (f:Zi->Zi->Int):∀ (l S:List Zi),(l.foldl (UO f) S).length=O S+O l/\∀ s∈l.foldl (UO f) S,s∈S\/s∈l:=by
 intro l
 induction l with
 |nil=>intro S;exact⟨rfl,λs h=>.inl h⟩
 |cons y l j =>
  intro S;obtain⟨a,b⟩:=j (UO f S y);have u:=ZkF (f:=f) S y (O S);have hlen:(UO f S y).length=O S+1:=by unfold UO;rw[zK,zM,zG,zX];omega
  refine⟨by rw[yJ,a,hlen,zG];omega,λs g=>?_⟩;rcases b s g with h|h
  ·unfold UO at h;rcases zV.1 h with h|h
   ·exact .inl (yA h)
   ·rcases zJ.1 h with h|h
    ·exact .inr (by simp[h])
    ·exact .inl (yB h)
  ·exact .inr (by simp[h])
theorem ZsM {L:Loc}{lx c e:AV}(w:LocAV (.agg (L.cells lx c e)) L)(F:LocOk L){p:Spec}{xp:AV}(M:SpecAV (.agg (p.cells xp)) p)(C:∀ k∈p.keys,KeOk k){x:AV}{l:List Zi}(hx:SS x l)(hL:YE l)(hl:O l<=1048576)(H0:Hp) :
 ∀ (r done S:List Zi) (T:AV),l=done++r->SS T S->YE S->O S=O done ->
 ∃ y H',NS x (.ptr 0 0) (.ptr 1 0) T (Q J (O done:Int)) H0 [zA (L.cells lx c e),.cells (p.cells xp)]=N (y,H')/\SS y (if p.uniq then Xt (Yz L p) [] (r.foldl (UO (ZI L p)) S) else r.foldl (UO (ZI L p)) S):=by
 have D:Z2 I 5 (.ptr 1 0) [zA (L.cells lx c e),.cells (p.cells xp)]=N (.agg (p.cells xp)):=by simp[Z2,Go.Am.apart,Spec.cells]
 have E:=Gn L lx c e [.cells (p.cells xp)];have p3:=SS.len hx 9;intro r
 induction r with
 |nil =>
  intro done S T j Z R aa;rw[yU]at j;subst j;have g:decide ((O l:Int)<(O l:Int))=Y:=cn
  obtain⟨z,r1,r2⟩:=ZiM w F M C Z R X [zA (L.cells lx c e),.cells (p.cells xp)];refine⟨z,[zA (L.cells lx c e),.cells (p.cells xp)],?_,r2⟩;rw[bQ];simp only[go_sem,p3,g,ZjL,E,D,r1]
 |cons a r ih =>
  intro done S T j Z R aa;have hlen:O l=O done+(O r+1):=by rw[j];simp
  have g:decide ((O done:Int)<(O l:Int))=I:=by simp;omega
  have ab:xW.wrap ((O done:Int)+1)=((O done+1:Nat):Int):=by rw[Zo X X];omega
  have B:l[O done]?=N a:=by rw[j,zH (zF _)];simp
  have hi:=SS.idx hx B;have u:O a<=1048576:=hL a (zW B);obtain⟨z,r1,r2⟩:=Zxi w F M C Z R X a u [zA (L.cells lx c e),.cells (p.cells xp)];obtain⟨f1,f2⟩:=Zme (ZI L p) [a] S;rw[yJ,List.foldl_nil]at f1 f2
  obtain⟨y,H',r3,r4⟩:=ih (done++[a]) (UO (ZI L p) S a) z (by rw[j];simp) r2 (λs hs=>by
   rcases f2 s hs with h|h
   ·exact R s h
   ·rw[zL.1 h];exact u) (by rw[f1];simp;omega)
  rw[zK,zT]at r3;refine⟨y,H',?_,by rw[yJ];exact r4⟩;rw[bQ];simp only[go_sem,p3,g,ZjM,E,D,hi,Zu,r1,ZjN,ab,r3]
theorem ZiN {a:AV}{L:Loc}(h:LocAV a L)(C:LocOk L){q:AV}{p:Spec}(hq:SpecAV q p)(B:∀ k∈p.keys,KeOk k){x:AV}{l:List Zi}(hx:SS x l)(hL:YE l)(hl:O l<=1048576)(H:Hp) :
 ∃ y,Ze RF [a,q,x] H=N (y,H)/\SS y (ZX L p l):=by
 obtain⟨a1,Z,M⟩:=h.close [] 0 5;obtain⟨q1,T,w⟩:=hq.close [] 0 5;obtain⟨x1,k1,S⟩:=SS.closed hx [] 0 7;have g:=λH=>Ml w H;have z:=M;have E:=w;obtain⟨lx,c,e,rfl,aa,hc,he⟩:=M;obtain⟨xp,rfl,ab⟩:=w
 suffices D:∃ y H1,RF [.agg (L.cells lx c e),.agg (p.cells xp),x1] []=N (y,H1)/\SS y (ZX L p l) by
  obtain⟨y,H1,r1,r2⟩:=D;obtain⟨y',r3,r4⟩:=SS.closed r2 H1 0 7;exact⟨y',ZnA Z T k1 r1 r3,r4⟩
 have j:Z2 I 5 (.ptr 1 0) [zA (L.cells lx c e),.cells (p.cells xp)]=N (.agg (p.cells xp)):=by simp[Z2,Go.Am.apart,Spec.cells]
 rw[ZlS];unfold Zgk ZX
 cases R:(ZP p != 0) with
 |true =>
  obtain⟨y,H1,u,F⟩:=RS.app (H:=[zA (L.cells lx c e),.cells (p.cells xp)]) (x:=.nils) (l:=[]) (RowN.nil _ _ _) S (by simp;omega);refine⟨y,H1,?_,by rw[if_pos rfl];exact F.sl⟩;simp only[go_sem,ZW,zU,zC,zG,zY,zN,j,g,R,u]
 |false =>
  obtain⟨y,H1,u,F⟩:=ZsM z C E B S hL hl [] l [] [] .nils rfl (.inl ⟨rfl,rfl⟩) (λs D=>by cases D) rfl;rw[zC,show ((0:Nat):Int)=0 from rfl]at u;refine⟨y,H1,?_,by rw[if_neg co];exact F⟩;simp only[go_sem,ZW,zU,zC,zG,zY,zN,j,g,R,ZjK,u]
theorem Zrk:LocOk defL:=⟨co,by simp[defL],by simp[defL],by simp[defL],λc hc=>(by cases hc),λc hc=>(by cases hc),by simp[defL],by simp[defL]⟩
theorem ZAG (p:Spec)(h:p.keys=[]):SpecAV (.agg (p.cells .nils)) p:=⟨.nils,rfl,.inl ⟨rfl,by rw[h];rfl⟩⟩
theorem ZAd {p:Spec}(h:p.keys=[]):∀ k∈p.keys,KeOk k:=λk hk=>by rw[h]at hk;cases hk
theorem ZAa (l:List Zi)(t:Tok):SS (.vs 1 t (l.map xR)) l:=.inr ⟨t,rfl⟩
theorem IJ (L:Loc)(p:Spec)(l:List Zi):(ZX L p l).length<=O l:=by
 obtain⟨j,u⟩:=Iu L p l;have:=Zlq (g:=Yz L p) (Nk (ZI L p) l) [];unfold ZX;split
 ·exact zF _
 ·split
  ·simp at this;omega
  ·omega
def Fe (s:cz):Bool :=
 match s with
 |[]=>Y
 |b::_=>decide (O s<=16)&&!Mf b.toNat&&s.all λc=>Wz c.toNat
theorem Zem (w y u z:AV)(H0 H:Hp):Dj w y u z H0 H =
 Z0 (Zz w u) λj =>
 Z0 (Sh j u) λg =>
 Zl g (N ((.bool Y),H)) (Dk w y u H0 H):=by
 rw[iV];simp only[Sh,Rn,Ww]
theorem ZoG (s:cz)(g:O s<=4611686018427387904)(H0 H:Hp):Di (.str s) H0 H=N (.bool (!s.isEmpty&&decide (O s<=16)),H):=by
 rw[iU]
 cases s with
 |nil=>simp[go_sem,YK,F5]
 |cons b l =>
  simp only[YK,F5,go_sem,Zk];have:(!((b::l)==([]:cz)))=I:=rfl;have c:decide (((b::l).length:Int)<=16)=decide ((b::l).length<=16):=by rw[Bool.eq_iff_iff];simp;omega
  simp only[this,go_sem,c,xG,zP,yO]
theorem ZsZ (s:cz)(y:O s<=4611686018427387904)(H0 H:Hp):∀ (k i:Nat),O s-i=k->0<i->i<=O s ->
 QV (.str s) (Q J (O s)) (Q J i) H0 H=N (.bool (((s.drop i).all λc=>Wz c.toNat)&&(!s.isEmpty&&decide (O s<=16))),H):=by
 intro k
 induction k with
 |zero =>
  intro i hk h0 hi;rw[U0];have g:decide ((i:Int)<(O s:Int))=Y:=by simp;omega
  have w:s.drop i=[]:=List.drop_eq_nil_iff.2 X;simp only[go_sem,g,ZoG s y,w,List.all_nil,yO]
 |succ k z =>
  intro i hk h0 hi;rw[U0];have u:i<O s:=X
  have g:decide ((i:Int)<(O s:Int))=I:=by simp;omega
  have hw:xW.wrap ((i:Int)+1)=((i+1:Nat):Int):=by rw[Zo X X];omega
  have j:((i:Int)==0)=Y:=by simp;omega
  simp only[go_sem,g,Zem,ZO (yP u),Ziq _ j];rw[List.drop_eq_getElem_cons u,xA]
  cases B:Wz s[i].toNat with
  |false=>simp only[go_sem,zP,Bool.false_and]
  |true =>
   simp only[go_sem,zO,yO,Pb,hw];exact z (i+1) X X X
theorem Zt0 (s:cz)(w:O s<=4611686018427387904)(H:Hp):Ue [.str s] H=N (.bool (Fe s),H):=by
 rw[lO];unfold C0;simp only[go_sem,Zk]
 cases s with
 |nil=>rw[U0];simp[go_sem,ZoG [] cn,Fe]
 |cons b l =>
  rw[U0];have u:decide ((0:Int)<((b::l).length:Int))=I:=cn
  have hw:xW.wrap ((0:Int)+1)=((0+1:Nat):Int):=co
  have j:Zz (.str (b::l)) (Q J 0)=N (.int .u8 b.toNat):=by simp[Zz]
  simp only[go_sem,u,Zem,j,Zed]
  cases g:(!Wz b.toNat || Mf b.toNat) with
  |true =>
   have:Fe (b::l)=Y:=by
    unfold Fe;simp only[Bool.or_eq_true,Bool.not_eq_true']at g;rcases g with g|g <;> simp[g]
   simp only[go_sem,this]
  |false =>
   simp only[Bool.or_eq_false_iff,Bool.not_eq_false']at g;simp only[go_sem,Pb,hw];rw[ZsZ (b::l) w H H (O l) 1 cn X cn]
   have:Fe (b::l)=(((b::l).drop 1).all (λc=>Wz c.toNat)&&(!(b::l).isEmpty&&decide ((b::l).length<=16))):=by
    unfold Fe;simp only[g.1,g.2,xA,List.drop_one,List.tail_cons,xG,zP,yO,Bool.and_true];rw[Bool.and_comm]
   rw[this]
theorem Zlu (s:Zx)(g:O s<=1048576)(H:Hp):Ze Ue [.str s] H=N (.bool (Fe s),H) :=
 XD (a':=.str s) rfl (H1:=[]) (Zt0 s X []) rfl
theorem ZqD {H:Hp}{t:Nat}{s:Sto}{S:da}(h:StoreAt H t s S)(hk:StoOk s)(B:s.files=[])(u:Zx)(z:O u<=1048576):Kb RK [.ptr t 0,.str u] H=N (.nils,H):=by
 have w:=Zlu u z H;have g:YJ (.pointer 67) .eql (.ptr t 0) .nilp=N (.bool Y):=rfl;refine dI (H1:=H) (v:=.nils) ?_ (Keep.refl _ _) (zF _) rfl;rw[oE];unfold Ax
 cases j:Fe u with
 |false =>
  rw[j]at w;simp only[go_sem,g,w,zP]
 |true =>
  rw[j]at w;obtain⟨x,D,E⟩:=Zq4 h hk
  have C:Zk (.slice 108) x=N (Q J 0):=by
   have:=Sl.len E 108;rw[B]at this;exact this
  have y:decide ((0:Int)<0)=Y:=rfl;simp only[go_sem,g,w,zO,nB,ZiD u z,D,C,nE,y,nC]
theorem ZoM {H:Hp}{t:Nat}{s:Sto}{S:da}(h:StoreAt H t s S)(hk:StoOk s)(F:s.files=[])(g:Zx)(C:O g<=1048576)(R:Fe g=I)(lim:Int) :
 ∃ H' A',Q1 [.ptr t 0,.str g,Q J lim] H=N (.tuple [.ptr (O H+1) 0,Q J 0],H')/\SysAt H' (O H+1) t ⟨g,[],[],(max 0 lim).toNat,0,Y⟩ s A'/\Stp S H H'/\(∀ a∈A',a∈S\/O H<=a):=by
 have u:YJ (.pointer 67) .eql (.ptr t 0) .nilp=N (.bool Y):=rfl;have w:=Zlu g C H;rw[R]at w;have B:decide ((0:Int)<0)=Y:=rfl;have y:(Yq [(0,1,.ptr t 0),(1,1,.str g),(3,1,.map (O H))] [.nilp,(.str []),.nils,.nilm]).map AV.agg=N (.agg [.ptr t 0,.str g,.nils,.map (O H)]):=rfl;have z:(Yq [(0,4,.agg [.ptr t 0,.str g,.nils,.map (O H)]),(4,1,Q J (max 0 lim))] [.nilp,(.str []),.nils,.nilm,(Q J 0),(Q J 0),(.bool Y)]).map AV.agg=N (.agg [.ptr t 0,.str g,.nils,.map (O H),Q J (max 0 lim),Q J 0,.bool Y]):=rfl;have E:∀ l:c6,ZF (.agg l) (H++[.map [] 0])=N (.ptr (O H+1) 0,H++[.map [] 0]++[.cells l]):=λl=>by rw[GG rfl];simp[AV.cells]
 have D:Stp S H (H++[AObj.map [] 0]++[.cells [.ptr t 0,.str g,.nils,.map (O H),Q J (max 0 lim),Q J 0,.bool Y]]):=by rw[zZ];exact Stp.push _ _
 have L:((max 0 lim).toNat:Int)=max 0 lim:=X
 refine⟨H++[.map [] 0]++[.cells [.ptr t 0,.str g,.nils,.map (O H),Q J (max 0 lim),Q J 0,.bool Y]],[O H+1,O H]++S,?_,⟨[O H+1,O H],S,⟨O H,0,.nils,[],⟨?_,.inl ⟨rfl,rfl⟩,?_,rfl,by simp[ZN]⟩,rfl⟩,h.frame λa j=>?_,λa j M=>?_,rfl⟩,D,λa j=>?_⟩
 ·rw[oF];unfold Ay;simp only[go_sem,u,nF,w,zO,nG,ZqD h hk F g C,nI,B,nH,y,z,E]
 ·simp[L]
 ·simp
 ·rw[zZ,zB (h.lt a j)]
 ·have:=h.lt a M;simp at j;omega
 ·simp at j;rcases j with e|e|j
  ·exact .inr X
  ·exact .inr X
  ·exact .inl j
theorem ZkV (o:Nat)(n:Zx)(H:Hp):NJ [.ptr o 0,.str n] H=N (.ptr (O H) 0,H++[.cells (U4 o n 0 Y Y [])]):=by
 have g:YJ (.pointer 85) .eql (.ptr o 0) .nilp=N (.bool Y):=rfl;have hf:(Yq [(0,1,.ptr o 0),(1,1,.str n)] [.nilp,(.str []),(Q J 0),(.bool Y),(.bool Y),(.str [])]).map AV.agg=N (.agg (U4 o n 0 Y Y [])):=rfl;rw[Zjv];unfold Zdr;simp only[go_sem,g,ZiP,hf,ZW]
theorem Qd {H:Hp}{i:Nat}{L:Loc}{x c e:AV}(h:H[i]?=N (.cells (L.cells x c e))):Z2 I 6 (.ptr i 0) H=N (.agg (L.cells x c e)):=by
 rw[Yk h];simp[Go.Am.apart,Loc.cells]
theorem X6 {H:Hp}{i:Nat}{p:Spec}{x:AV}(h:H[i]?=N (.cells (p.cells x))):Z2 I 5 (.ptr i 0) H=N (.agg (p.cells x)):=by
 rw[Yk h];simp[Go.Am.apart,Spec.cells]
theorem SysRes.trans {H H1 z:Hp}{o t:Nat}{tm1 g:Tmp}{C B:Sto}{A w y:da}(h:SysRes H H1 o t tm1 C A w)(k:SysRes H1 z o t g B w y):SysRes H z o t g B A y :=
 ⟨k.at',h.stp.trans k.stp (λ_ h=>h) λa j=>h.own a j,λa j=>by
  rcases k.own a j with u|u
  ·exact h.own a u
  ·exact .inr (xF h.stp.len u)⟩
theorem SysRes.pre {H H1 y:Hp}{o t:Nat}{g:Tmp}{z:Sto}{A w:da}(h:Stp A H H1)(k:SysRes H1 y o t g z A w):SysRes H y o t g z A w :=
 ⟨k.at',h.trans k.stp (λ_ h=>h) λa j=>.inl j,λa j=>by
  rcases k.own a j with u|u
  ·exact .inl u
  ·exact .inr (xF h.len u)⟩
theorem Ztb {H:Hp}{o t:Nat}{tm tm1 S:Tmp}{s s1 s2 s3:Sto}{A:da}{n:Zx}(h:SysAt H o t tm s A)(hm:TmpOk tm)(hk:StoOk s)(af:tm.last<1000000){a q x:AV}{L:Loc}{p:Spec}{l:List Zi}(B:LocAV a L)(ag:LocOk L)(hq:SpecAV q p)(ae:∀ k∈p.keys,KeOk k)(hx:SS x l)(hL:YE l)(hl:O l<=1048576)
 (j:ZJ (ZX L p l)<=1048576) (aa:YE (ZX L p l))
 (hN:Pc tm s=((n,0),(tm1,s1))) (E:TmpOk tm1) (ac:StoOk s1) (hW:B8 tm1 s1 n (ZX L p l)=(0,s2)) (ad:StoOk s2) (hS:Pd tm1 s2 n=(0,(S,s3))) :
 ∃ H' A',SI [.ptr o 0,a,q,x] H=N (.tuple [.str n,Q J 0],H')/\SysRes H H' o t S s3 A A':=by
 have ab:=B;have ah:=hq;obtain⟨lx,lc,le,rfl,al,aj,ak⟩:=B;obtain⟨xp,rfl,am⟩:=hq;have M:YJ (.pointer 85) .eql (.ptr o 0) .nilp=N (.bool Y):=rfl;have w:=h.lt;have g1:(H++[zA (L.cells lx lc le),.cells (p.cells xp)])[O H]?=N (.cells (L.cells lx lc le)):=cn
 have g2:(H++[zA (L.cells lx lc le),.cells (p.cells xp)])[O H+1]?=N (.cells (p.cells xp)):=cn
 have z:Stp A H (H++[zA (L.cells lx lc le),.cells (p.cells xp)]):=Stp.push _ _;have u:(H++[zA (L.cells lx lc le),.cells (p.cells xp)]).length=O H+2:=cn
 have g:SysAt (H++[zA (L.cells lx lc le),.cells (p.cells xp)]) o t tm s A:=h.stp (C:=[]) (Stp.push _ _) (λa B=>cn);have D:ZF (.agg (p.cells xp)) (H++[zA (L.cells lx lc le)])=N (.ptr (O H+1) 0,H++[zA (L.cells lx lc le),.cells (p.cells xp)]):=by rw[ZW];simp
 generalize ai:H++[zA (L.cells lx lc le),.cells (p.cells xp)]=H0 at g1 g2 z g D u;obtain⟨H1,A1,p1,R⟩:=ZmP g hm hk af;rw[hN]at p1 R;have F:∀ i,O H<=i->i∉A:=λi hi B=>by have:=w i B;omega
 have T:=R.stp.get g1 (F _ (zF _));have Z:=R.stp.get g2 (F _ X);obtain⟨y,q1,q2⟩:=Zvx ab ag ah ae hx hL hl H1;obtain⟨H2,A2,r1,r2⟩:=ZkW R.at' E ac n q2 aa j;rw[hW]at r1 r2;obtain⟨H3,A3,t1,t2⟩:=ZmN r2.at' E ad n;rw[hS]at t1 t2;refine⟨H3,A3,?_,SysRes.pre z ((R.trans r2).trans t2)⟩;have e0:((0:Int) != 0)=Y:=rfl;rw[Zgv];unfold nY;simp only[ZW,go_sem,D,M,ZfV,p1,zQ,zR,e0,ZfW,Qd T,X6 Z,q1,r1,ZfX,t1,ZfY]
section
variable {α:Type}(c:α->Int)(mem:Int)
structure Ck (α:Type) where
 done:List (List α)
 cur:List α
 cost:Int
def Gf (s:Ck α)(x:α):Ck α :=
 if s.cur≠[]/\mem<s.cost+c x then ⟨s.done++[s.cur],[x],c x⟩ else ⟨s.done,s.cur++[x],s.cost+c x⟩
def ZV (l:List α):Ck α:=l.foldl (Gf c mem) ⟨[],[],0⟩
def Ty (s:Ck α):List (List α):=if s.cur=[] then s.done else s.done++[s.cur]
def Yj (l:List α):Int:=l.foldl (λn x=>n+c x) 0
theorem AW (l:List α)(x:α):Yj c (l++[x])=Yj c l+c x:=by simp[Yj]
structure CkOk (l:List α)(s:Ck α):Prop where
 flat:s.done.flatten++s.cur=l
 cost:s.cost=Yj c s.cur
 emp:s.cur=[]->s.done=[]
 ne:∀ k∈s.done,k≠[]
 fit:∀ k∈s.done++[s.cur],1<O k->Yj c k<=mem
 next:∀ (i:Nat) (a b:List α) (x:α),(s.done++[s.cur])[i]?=N a->(s.done++[s.cur])[i+1]?=N b->b.head?=N x->mem<Yj c a+c x
theorem Zwu:CkOk c mem ([]:List α) ⟨[],[],0⟩:=by
 refine⟨rfl,rfl,λ_=>rfl,cn,cn,λi a b x j g u=>?_⟩;simp at g
theorem ZyO {l:List α}{s:Ck α}(h:CkOk c mem l s)(x:α):CkOk c mem (l++[x]) (Gf c mem s x):=by
 unfold Gf;split
 ·rename_i hc;obtain⟨F,L⟩:=hc;refine⟨by simp[<-h.flat],by simp[Yj],λe=>(by simp at e),λk hk=>?_,λk hk B=>?_,λi a b y j g w=>?_⟩
  ·rcases zV.1 hk with hk|hk
   ·exact h.ne k hk
   ·rw[zL.1 hk];exact F
  ·rcases zV.1 hk with hk|hk
   ·exact h.fit k hk B
   ·rw[zL.1 hk]at B;simp at B
  ·dsimp only at j g;have hlen:(s.done++[s.cur]).length=O s.done+1:=cn
   by_cases hi:i+1<(s.done++[s.cur]).length
   ·rw[zB X]at j;rw[zB hi]at g;exact h.next i a b y j g w
   ·have C:=(zI.1 g).1;simp only[zK,zT]at C hi;have D:i=O s.done:=X
    subst D;rw[zB cn,zH (zF _)]at j;rw[zH cn]at g;simp at j g;subst j g;simp at w;subst w;rw[<-h.cost];exact L
 ·rename_i hc;refine⟨by rw[<-zZ,h.flat],by rw[AW,h.cost],λe=>(by simp at e),h.ne,λk hk B=>?_,λi a b y j g w=>?_⟩
  ·rcases zV.1 hk with hk|hk
   ·exact h.fit k (List.mem_append_left _ hk) B
   ·rw[zL.1 hk]at B ⊢;have E:s.cur≠[]:=λe=>by rw[e]at B;simp at B
    rw[AW,<-h.cost];simp only[ne_eq,E,not_false_eq_true,true_and]at hc;omega
  ·dsimp only at j g;by_cases hi:i+1<O s.done
   ·rw[zB X]at j;rw[zB hi]at g;exact h.next i a b y (by rw[zB X];exact j) (by rw[zB hi];exact g) w
   ·have C:=(zI.1 g).1;simp only[zK,zT]at C hi;have D:i+1=O s.done:=X
    rw[zB X]at j;rw[D,zH (zF _)]at g;simp at g;subst g
    cases u:s.cur with
    |nil =>
     have:=h.emp u;rw[this]at D;simp at D
    |cons z t =>
     rw[u]at w;simp at w;subst w;exact h.next i a s.cur z (by rw[zB X];exact j) (by rw[D,zH (zF _)];simp) (by rw[u];rfl)
theorem ZhI (l:List α):CkOk c mem l (ZV c mem l):=by
 have:∀ (r d:List α) (s:Ck α),CkOk c mem d s->CkOk c mem (d++r) (r.foldl (Gf c mem) s):=by
  intro r
  induction r with
  |nil=>intro d s h;simpa using h
  |cons x r g =>
   intro d s h;have:=g (d++[x]) _ (ZyO c mem h x);simpa using this
 have h:=this l [] _ (Zwu c mem);simpa[ZV]using h
theorem eZ (l:List α)(x:α):ZV c mem (l++[x])=Gf c mem (ZV c mem l) x:=by simp[ZV]
theorem ZtH (s:Ck α)(x:α):(Gf c mem s x).cur≠[]:=by unfold Gf;split <;> simp
theorem Zn7 {l:List α}(h:l≠[]):(ZV c mem l).cur≠[]:=by
 obtain⟨x,g,rfl⟩:∃ x g,l=g++[x]:=⟨l.getLast h,l.dropLast,(List.dropLast_concat_getLast h).symm⟩;rw[eZ];exact ZtH c mem _ x
end
def W8 (w i q:Nat):da:=xS (q*w) (min w (i-q*w))
def Yi (w i:Nat):Nat:=(i+w-1) / w
def WG (w i:Nat):List da:=(xV (Yi w i)).map (W8 w i)
theorem Znb {w:Nat}(hw:0<w):Yi w 0=0:=by unfold Yi;exact yG X
theorem ZyR {w i:Nat}(hw:0<w)(h:i % w=0):Yi w i=i / w/\Yi w (i+1)=i / w+1:=by
 obtain⟨q,rfl⟩:∃ q,i=w*q:=⟨i / w,by have:=yC i w;omega⟩;unfold Yi;constructor
 ·rw[yS q hw,show w*q+w-1=w*q+(w-1) by omega,yK hw];rw[yG X];omega
 ·rw[yS q hw,show w*q+1+w-1=w*q+w by omega,yK hw,Nat.div_self hw]
theorem ZyS {w i:Nat}(hw:0<w)(h:i % w≠0):Yi w i=i / w+1/\Yi w (i+1)=i / w+1:=by
 have g:=yC i w;have j:=xJ i hw;generalize i / w=q at g ⊢;generalize i % w=r at g j h;subst g;unfold Yi;constructor
 ·rw[show w*q+r+w-1=w*q+(w+(r-1)) by omega,yK hw,xI _ hw,yG X]
 ·rw[show w*q+r+1+w-1=w*q+(w+r) by omega,yK hw,xI _ hw,yG X]
theorem gB {w i q:Nat}(h:(q+1)*w<=i):W8 w i q=xS (q*w) w:=by
 unfold W8;rw[xT,xU]at h;rw[Nat.min_eq_left X]
theorem ZxH {w i:Nat}(hw:0<w)(h:i % w=0):WG w (i+1)=WG w i++[[i]]:=by
 obtain⟨u,y⟩:=ZyR hw h;have g:=yC i w;rw[h,Nat.add_zero]at g;unfold WG;rw[u,y,yV,yW];congr 1
 ·refine xC λq j=>?_;have j:=xL.1 j;have:(q+1)*w<=i:=by rw[<-g,yE w];exact yZ _ j
  rw[gB this,gB X]
 ·simp only[xP,xQ,W8];rw[yE,g,Nat.add_sub_cancel_left,yQ X];rfl
theorem ZxI {w i:Nat}(hw:0<w)(h:i % w≠0):∃ A g,WG w i=A++[g]/\WG w (i+1)=A++[g++[i]]/\O g<w:=by
 obtain⟨u,y⟩:=ZyS hw h;have z:=yC i w;have B:=xJ i hw;refine⟨(xV (i / w)).map (W8 w i),W8 w i (i / w),?_,?_,?_⟩
 ·unfold WG;rw[u,yV,yW];rfl
 ·unfold WG;rw[y,yV,yW];congr 1
  ·refine xC λq j=>?_;have j:=xL.1 j
   have:(q+1)*w<=i:=by
    have:(q+1)*w<=w*(i / w):=by rw[yE w];exact yZ _ j
    omega
   rw[gB this,gB X]
  ·simp only[xP,xQ,W8];have e:i / w*w=w*(i / w):=yE _ _;rw[e,yQ X,yQ X,show i+1-w*(i / w)=(i-w*(i / w))+1 by omega,List.range'_concat];congr 3;omega
 ·unfold W8;rw[xE];have e:i / w*w=w*(i / w):=yE _ _;omega
theorem Hm (w i:Nat):(WG w i).length=Yi w i:=by simp[WG]
theorem ZfP {w i q:Nat}(h:q<Yi w i):(WG w i)[q]?=N (W8 w i q):=by simp[WG,h]
theorem Zku {w i q k:Nat}(h:k<(W8 w i q).length):(W8 w i q)[k]?=N (q*w+k):=by
 unfold W8 at h ⊢;rw[xE]at h;rw[List.getElem?_range' h];simp
theorem Gg {w i q:Nat}(hw:0<w)(h:q<Yi w i):q*w<i:=by
 unfold Yi at h;have g:(q+1)*w<=i+w-1:=(Nat.le_div_iff_mul_le hw).1 h;rw[xT,xU]at g;omega
theorem fC {w i:Nat}(hw:0<w):i<=Yi w i*w:=by
 unfold Yi;have h:=yC (i+w-1) w;have:=xJ (i+w-1) hw;rw[yE];omega
theorem Zkv {w i q:Nat}:(W8 w i q).length=min w (i-q*w):=by simp[W8]
end Go.Am
