/- Readers of runs -/
import Derived.Test.YtjmhpjoedfegkaaGreatDoorRtNgx
import Derived.Test.YtjmhpjoedfegkaaGreatDoorRwSmx
import Derived.Test.YtjmhpjoedfegkaaGreatDoorRwGQx
open Option renaming some->X
open Bool renaming true->K,false->O
open Go.Am.AV renaming int->Q
open Go.IntKind renaming i64->J
open List renaming set->zA,getElem?_cons_zero->zB,getElem?_cons_succ->zC,mem_singleton->zH
open Nat renaming zero_add->zE
open Bool renaming not_false->zG,not_true->zI
open Option renaming isSome_none->zD,isSome_some->zJ
open Go.Am.AObj renaming cells->zF
namespace Go.Am
set_option linter.unusedSectionVars false
set_option maxRecDepth 100000
structure Rp where
 pos:Int
 held:Option Zj
 fin:Bool
abbrev aJ:=Zj×Bool×Int
def jW (tm:Tmp)(s:Sto)(n:Zj):Sto:=if ZI tm n=0 then s.tick else s
def YY (tm:Tmp)(s:Sto)(n:Zj)(q:Rp):(Rp×Sto)×aJ:=match q.held with
 |some l=>((q,s),(l,K,0))
 |none=>if q.fin then ((q,s),([],O,0)) else
  if (Yi tm s n q.pos).2.2=0 then ((⟨(Yi tm s n q.pos).2.1,X (Yi tm s n q.pos).1,O⟩,jW tm s n),((Yi tm s n q.pos).1,K,0))
  else if (Yi tm s n q.pos).2.2=5 then ((⟨q.pos,none,K⟩,jW tm s n),([],O,0))
  else ((q,jW tm s n),([],O,(Yi tm s n q.pos).2.2))
def Vk (tm:Tmp)(s:Sto)(n:Zj)(q:Rp):(Rp×Sto)×aJ :=
 (if (YY tm s n q).2.2.1 then { (YY tm s n q).1.1 with held:=none } else (YY tm s n q).1.1,(YY tm s n q).1.2,) |> λx=>(x,(YY tm s n q).2)
theorem Zcb {tm:Tmp}{s:Sto}(h:ROk s)(n:Zj):ROk (jW tm s n):=by
 unfold jW;split
 ·exact h.tick
 ·exact h
theorem Zxi {tm:Tmp}{s:Sto}{n:Zj}{i:Int}(h:(Yi tm s n i).2.2=0):i<=(Yi tm s n i).2.1/\(Yi tm s n i).2.1<=i+4102:=by
 have z:∀ x:Int,¬ x≠0->x=0:=λx h=>b5
 unfold Yi at h ⊢;split at h
 ·rename_i j;exact absurd h j
 ·rename_i j;rw[if_neg j];split at h
  ·rename_i u;exact absurd h u
  ·rename_i u;rw[if_neg u];split at h
   ·exact absurd h (show ¬ (5:Int)=0 by decide)
   ·rename_i y;rw[if_neg y];split at h
    ·rename_i w;exact absurd h w
    ·rename_i w;rw[if_neg w];have:=bA (s.read n i 4102).1;exact⟨by show i<=i+_;omega,by show i+_<=_;omega⟩
theorem ZkR {tm:Tmp}{s:Sto}{n:Zj}{q:Rp}(hs:ROk s){b:Int}(hq:0<=q.pos/\q.pos<=b):ROk (YY tm s n q).1.2/\0<=(YY tm s n q).1.1.pos/\(YY tm s n q).1.1.pos<=b+4102:=by
 unfold YY
 cases q.held with
 |some l=>exact⟨hs,hq.1,by show q.pos<=_;omega⟩
 |none =>
  dsimp only;split
  ·exact⟨hs,hq.1,by show q.pos<=_;omega⟩
  ·split
   ·rename_i h;have:=Zxi h;exact⟨Zcb hs n,by show 0<=(Yi tm s n q.pos).2.1;omega,by show (Yi tm s n q.pos).2.1<=_;omega⟩
   ·split
    ·exact⟨Zcb hs n,hq.1,by show q.pos<=_;omega⟩
    ·exact⟨Zcb hs n,hq.1,by show q.pos<=_;omega⟩
theorem Zg7 (tm:Tmp)(s:Sto)(n:Zj)(q:Rp):(Vk tm s n q).2=(YY tm s n q).2/\(Vk tm s n q).1.2=(YY tm s n q).1.2/\(Vk tm s n q).1.1=if (YY tm s n q).2.2.1 then { (YY tm s n q).1.1 with held:=none } else (YY tm s n q).1.1:=⟨rfl,rfl,rfl⟩
theorem Zue {tm:Tmp}{s:Sto}{n:Zj}{q:Rp}(hs:ROk s){b:Int}(hq:0<=q.pos/\q.pos<=b):ROk (Vk tm s n q).1.2/\0<=(Vk tm s n q).1.1.pos/\(Vk tm s n q).1.1.pos<=b+4102:=by
 obtain⟨z,j,u⟩:=ZkR (tm:=tm) (n:=n) hs hq;obtain⟨_,w,y⟩:=Zg7 tm s n q;rw[w,y];refine⟨z,?_⟩;split
 ·exact⟨j,u⟩
 ·exact⟨j,u⟩
abbrev Rn (o:Nat)(n:Zj)(i:Int)(held fin:Bool)(j:Zj):du:=[.ptr o 0,.str n,Q J i,.bool held,.bool fin,.str j]
def RAt (H:Hp)(r o:Nat)(n:Zj)(q:Rp):Prop:=∃ l,H[r]?=X (.cells (Rn o n q.pos q.held.isSome q.fin l))/\∀ x,q.held=X x->l=x
theorem RAt.frame {H H':Hp}{r o:Nat}{n:Zj}{q:Rp}(h:RAt H r o n q)(w:H'[r]?=H[r]?):RAt H' r o n q:=by
 obtain⟨l,j,u⟩:=h;exact⟨l,w.trans j,u⟩
theorem RAt.lt {H:Hp}{r o:Nat}{n:Zj}{q:Rp}(h:RAt H r o n q):r<H.length:=by obtain⟨l,h,_⟩:=h;exact Zq h
structure WRes (H H':Hp)(t:Nat)(p:AV)(tm:Tmp)(s':Sto)(A A':dv)(r:Nat):Prop where
 at':MAt H' t p (X tm) s' A'
 stp:Stp (r::A) H H'
 own:∀ a∈A',a∈A\/H.length<=a
section
variable {H:Hp}{t o r k:Nat}{tm:Tmp}{s:Sto}{A:dv}{n:Zj}{q:Rp}(h:MAt H t (.ptr o 0) (X tm) s A)(hm:Zjk (X tm) k)(hs:ROk s)(hk:k<48)(hr:RAt H r o n q)(hrA:r∉A)(hq:0<=q.pos/\q.pos<=1000000)
include h hm hs hk hr hrA hq
theorem Zyb:∃ H' A',Wj [.ptr r 0] H=X (.tuple [.str (YY tm s n q).2.1,.bool (YY tm s n q).2.2.1,Q J (YY tm s n q).2.2.2],H')/\WRes H H' t (.ptr o 0) tm (YY tm s n q).1.2 A A' r/\RAt H' r o n (YY tm s n q).1.1:=by
 have u:∀ c,Y5 (.pointer c) .eql (.ptr r 0) .nilp=X (.bool O):=λ_=>rfl;obtain⟨l,g,hl⟩:=hr;have l0:=ZZ g 0 (v:=.ptr o 0) rfl;have l1:=ZZ g 1 (v:=.str n) rfl;have l2:=ZZ g 2 (v:=Q J q.pos) rfl;have F:=ZZ g 3 (v:=.bool q.held.isSome) rfl;have L:=ZZ g 4 (v:=.bool q.fin) rfl;have l5:=ZZ g 5 (v:=.str l) rfl;have self:WRes H H t (.ptr o 0) tm s A A r:=⟨h,Stp.refl _ _,λa j=>.inl j⟩;rw[RI];unfold GV YY
 cases E:q.held with
 |some x =>
  rw[E]at F g;have:=hl x E;subst this;refine⟨H,A,?_,self,⟨l,by rw[E];exact g,λy hy=>by rw[E]at hy;injection hy⟩⟩;simp only[go_sem,zE,u,Yp,F,zJ,zI,YB,Vm,l5]
 |none =>
  rw[E]at F
  cases Z:q.fin with
  |true =>
   rw[Z]at L;refine⟨H,A,?_,self,⟨l,g,hl⟩⟩;simp only[go_sem,zE,u,Yp,F,L,zD,zI,zG,YB,if_true]
  |false =>
   rw[Z]at L;dsimp only;rw[if_neg di];obtain⟨H1,M,D,w⟩:=ZAB h hm hs hk n q.pos b5;have D:YH [.ptr o 0,.str n,Q J q.pos] H=X (.tuple [.str (Yi tm s n q.pos).1,Q J (Yi tm s n q.pos).2.1,Q J (Yi tm s n q.pos).2.2],H1):=D;have w:MRes H H1 t (.ptr o 0) (X tm) (jW tm s n) A M:=w;generalize Yi tm s n q.pos=R at D;have C:=w.stp.get g hrA;rw[E,Z]at C;have C:H1[r]?=X (.cells (Rn o n q.pos O O l)):=C;have af:=Zq g
   have P:r∉M:=λS=>by
    rcases w.own r S with k1|k1
    ·exact hrA k1
    ·omega
   by_cases e0:R.2.2=0
   ·rw[if_pos e0];have ez:((0:Int)==0)=K:=rfl;rw[e0]at D;have s5:=Wp C 5 (v:=.str R.1) rfl rfl dh;have N:=Zu (zF (zA (Rn o n q.pos O O l) 5 (.str R.1))) C;have s2:=Wp N 2 (v:=Q J R.2.1) rfl rfl dh;have g3:=Zu (zF (zA (zA (Rn o n q.pos O O l) 5 (.str R.1)) 2 (Q J R.2.1))) N;have s3:=Wp g3 3 (v:=.bool K) rfl rfl dh;have G:=Zu (zF (zA (zA (zA (Rn o n q.pos O O l) 5 (.str R.1)) 2 (Q J R.2.1)) 3 (.bool K))) g3;generalize ac:H1.set r (.cells (zA (Rn o n q.pos O O l) 5 (.str R.1)))=H2 at s5 s2 g3 s3 G;generalize ad:H2.set r (.cells (zA (zA (Rn o n q.pos O O l) 5 (.str R.1)) 2 (Q J R.2.1)))=H3 at s2 s3 G;generalize ae:H3.set r (.cells (zA (zA (zA (Rn o n q.pos O O l) 5 (.str R.1)) 2 (Q J R.2.1)) 3 (.bool K)))=H4 at s3 G;have k3:=ZZ G 3 (v:=.bool K) rfl;have k5:=ZZ G 5 (v:=.str R.1) rfl
    have z:Stp [r] H1 H4:=by
     rw[<-ae,<-ad,<-ac];exact ((Stp.set _ _ dh).trans (Stp.set _ _ dh) (λ_ h=>h) λ_ h=>.inl h).trans (Stp.set _ _ dh) (λ_ h=>h) λ_ h=>.inl h
    refine⟨H4,M,?_,⟨w.at'.frame λa j=>z.at' a (w.at'.lt a j) (by simp;exact λe=>P (e ▸ j)),(w.stp.mono (B:=r::A) λa j=>by simp[j]).trans (z.mono (B:=r::A) λa j=>by rw[zH.1 j];simp) (λ_ h=>h) (λ_ h=>.inl h),w.own⟩,⟨R.1,G,λx S=>by injection S⟩⟩;simp only[go_sem,zE,u,Yp,F,L,zD,zG,l0,l1,l2,D,zB,zC,ez,s5,s2,s3,YB,k3,zI,Vm,k5]
   ·rw[if_neg e0];have ez:(R.2.2==0)=O:=by simpa using e0
    by_cases T:R.2.2=5
    ·rw[if_pos T];rw[T]at D;have aa:((5:Int)==0)=O:=rfl;have ab:((5:Int)==5)=K:=rfl;have s4:=Wp C 4 (v:=.bool K) rfl rfl dh;have N:=Zu (zF (zA (Rn o n q.pos O O l) 4 (.bool K))) C;have k3:=ZZ N 3 (v:=.bool O) rfl;have z:Stp [r] H1 (H1.set r (.cells (zA (Rn o n q.pos O O l) 4 (.bool K)))):=Stp.set _ _ dh;refine⟨_,M,?_,⟨w.at'.frame λa j=>z.at' a (w.at'.lt a j) (by simp;exact λe=>P (e ▸ j)),(w.stp.mono (B:=r::A) λa j=>by simp[j]).trans (z.mono (B:=r::A) λa j=>by rw[zH.1 j];simp) (λ_ h=>h) (λ_ h=>.inl h),w.own⟩,⟨l,N,λx S=>by cases S⟩⟩;simp only[go_sem,zE,u,Yp,F,L,zD,zG,l0,l1,l2,D,zB,zC,aa,ab,s4,YB,k3]
    ·rw[if_neg T];have ef:(R.2.2==5)=O:=by simpa using T
     refine⟨H1,M,?_,⟨w.at',w.stp.mono λa j=>by simp[j],w.own⟩,⟨l,by rw[E,Z];exact C,hl⟩⟩;simp only[go_sem,zE,u,Yp,F,L,zD,zG,l0,l1,l2,D,zB,zC,ez,ef]
theorem ZAL:∃ H' A',Vo [.ptr r 0] H=X (.tuple [.str (Vk tm s n q).2.1,.bool (Vk tm s n q).2.2.1,Q J (Vk tm s n q).2.2.2],H')/\WRes H H' t (.ptr o 0) tm (Vk tm s n q).1.2 A A' r/\RAt H' r o n (Vk tm s n q).1.1:=by
 obtain⟨H1,z,w,j,L⟩:=Zyb h hm hs hk hr hrA hq;obtain⟨e1,e2,e3⟩:=Zg7 tm s n q;have aa:=hr.lt
 have F:r∉z:=λG=>by
  rcases j.own r G with Z|Z
  ·exact hrA Z
  ·omega
 rw[e1,e2,e3,RH];unfold GU;generalize YY tm s n q=P at w j L
 cases T:P.2.2.1 with
 |false =>
  rw[T]at w;refine⟨H1,z,?_,j,L⟩;simp only[w,go_sem,zB,zC,Vl]
 |true =>
  rw[T]at w;obtain⟨l,R,hl⟩:=L;have s3:=Wp R 3 (v:=.bool O) rfl rfl dh;have S:=Zu (zF (zA (Rn o n P.1.1.pos P.1.1.held.isSome P.1.1.fin l) 3 (.bool O))) R;have M:=Wp S 5 (v:=.str []) rfl rfl dh;have C:=Zu (zF (zA (zA (Rn o n P.1.1.pos P.1.1.held.isSome P.1.1.fin l) 3 (.bool O)) 5 (.str []))) S;generalize D:H1.set r (.cells (zA (Rn o n P.1.1.pos P.1.1.held.isSome P.1.1.fin l) 3 (.bool O)))=H2 at s3 M C;generalize E:H2.set r (.cells (zA (zA (Rn o n P.1.1.pos P.1.1.held.isSome P.1.1.fin l) 3 (.bool O)) 5 (.str [])))=N at M C
  have u:Stp [r] H1 N:=by
   rw[<-E,<-D];exact (Stp.set _ _ dh).trans (Stp.set _ _ dh) (λ_ h=>h) λ_ h=>.inl h
  refine⟨N,z,?_,⟨j.at'.frame λa y=>u.at' a (j.at'.lt a y) (by simp;exact λe=>F (e ▸ y)),j.stp.trans (u.mono (B:=r::A) λa y=>by rw[zH.1 y];simp) (λ_ h=>h) (λ_ h=>.inl h),j.own⟩,⟨[],C,λx G=>by cases G⟩⟩;simp only[w,go_sem,zB,zC,zE,s3,M,Vl]
end
abbrev JH (o:Nat)(n:Zj)(i:Int)(held fin:Bool)(j:Zj):du:=[.ptr o 0,.str n,Q J i,.str j,.bool held,.bool fin]
def RBt (H:Hp)(r o:Nat)(n:Zj)(q:Rp):Prop:=∃ l,H[r]?=X (.cells (JH o n q.pos q.held.isSome q.fin l))/\(∀ x,q.held=X x->l=x)/\(q.held.isSome=K->q.fin=O)
theorem RBt.frame {H H':Hp}{r o:Nat}{n:Zj}{q:Rp}(h:RBt H r o n q)(y:H'[r]?=H[r]?):RBt H' r o n q:=by
 obtain⟨l,j,u,w⟩:=h;exact⟨l,y.trans j,u,w⟩
theorem RBt.lt {H:Hp}{r o:Nat}{n:Zj}{q:Rp}(h:RBt H r o n q):r<H.length:=by obtain⟨l,h,_⟩:=h;exact Zq h
structure VRes (H H':Hp)(t:Nat)(p:AV)(tm:Tmp)(s':Sto)(A A':dv)(r k:Nat):Prop where
 at':RMAt H' t p (X tm) s' A' k
 stp:Stp (r::A) H H'
 own:∀ a∈A',a∈A\/H.length<=a
section
variable {H:Hp}{t o r k:Nat}{tm:Tmp}{s:Sto}{A:dv}{n:Zj}{q:Rp}(h:RMAt H t (.ptr o 0) (X tm) s A k)(hm:Zjk (X tm) k)(hs:ROk s)(hk:k<48)(hr:RBt H r o n q)(hrA:r∉A)(hq:0<=q.pos/\q.pos<=1000000)
include h hm hs hk hr hrA hq
theorem Zy9:∃ H' A',QU [.ptr r 0] H=X (.tuple [.str (YY tm s n q).2.1,.bool (YY tm s n q).2.2.1,Q J (YY tm s n q).2.2.2],H')/\VRes H H' t (.ptr o 0) tm (YY tm s n q).1.2 A A' r (k+1)/\RBt H' r o n (YY tm s n q).1.1:=by
 have u:∀ c,Y5 (.pointer c) .eql (.ptr r 0) .nilp=X (.bool O):=λ_=>rfl;obtain⟨l,g,hl,C⟩:=hr;have l0:=ZZ g 0 (v:=.ptr o 0) rfl;have l1:=ZZ g 1 (v:=.str n) rfl;have l2:=ZZ g 2 (v:=Q J q.pos) rfl;have l3:=ZZ g 3 (v:=.str l) rfl;have N:=ZZ g 4 (v:=.bool q.held.isSome) rfl;have G:=ZZ g 5 (v:=.bool q.fin) rfl;have self:VRes H H t (.ptr o 0) tm s A A r (k+1):=⟨h.up,Stp.refl _ _,λa j=>.inl j⟩;rw[fN];unfold Eg YY
 cases F:q.held with
 |some x =>
  have E:=C (by rw[F];rfl);rw[F]at N g;rw[E]at G;have:=hl x F;subst this;refine⟨H,A,?_,self,⟨l,by rw[F];exact g,λy hy=>by rw[F]at hy;injection hy,λ_=>E⟩⟩;simp only[go_sem,zE,u,Wm,N,zJ,zI,VD,G,RQ,l3]
 |none =>
  rw[F]at N
  cases hf:q.fin with
  |true =>
   rw[hf]at G;refine⟨H,A,?_,self,⟨l,g,hl,C⟩⟩;simp only[go_sem,zE,u,Wm,N,G,zD,zI,zG,VD,if_true]
  |false =>
   rw[hf]at G;dsimp only;rw[if_neg di];obtain⟨H1,S,L,w⟩:=ZAd h hm hs hk n q.pos b5;have L:V5 [.ptr o 0,.str n,Q J q.pos] H=X (.tuple [.str (Yi tm s n q.pos).1,Q J (Yi tm s n q.pos).2.1,Q J (Yi tm s n q.pos).2.2],H1):=L;have w:RMRes H H1 t (.ptr o 0) (X tm) (jW tm s n) A S (k+1):=w;generalize Yi tm s n q.pos=R at L;have D:=w.stp.get g hrA;rw[F,hf]at D;have D:H1[r]?=X (.cells (JH o n q.pos O O l)):=D;have ai:=Zq g
   have T:r∉S:=λC=>by
    rcases w.own r C with k1|k1
    ·exact hrA k1
    ·omega
   by_cases e0:R.2.2=0
   ·rw[if_pos e0];have ez:((0:Int) != 0)=O:=rfl;have aa:((0:Int)==5)=O:=rfl;rw[e0]at L;have s5:=Wp D 5 (v:=.bool O) rfl rfl dh;have P:=Zu (zF (zA (JH o n q.pos O O l) 5 (.bool O))) D;have k5:=ZZ P 5 (v:=.bool O) rfl;have s3:=Wp P 3 (v:=.str R.1) rfl rfl dh;have g3:=Zu (zF (zA (zA (JH o n q.pos O O l) 5 (.bool O)) 3 (.str R.1))) P;have s2:=Wp g3 2 (v:=Q J R.2.1) rfl rfl dh;have g4:=Zu (zF (zA (zA (zA (JH o n q.pos O O l) 5 (.bool O)) 3 (.str R.1)) 2 (Q J R.2.1))) g3;have Z:=Wp g4 4 (v:=.bool K) rfl rfl dh;have M:=Zu (zF (zA (zA (zA (zA (JH o n q.pos O O l) 5 (.bool O)) 3 (.str R.1)) 2 (Q J R.2.1)) 4 (.bool K))) g4;generalize ae:H1.set r (.cells (zA (JH o n q.pos O O l) 5 (.bool O)))=H2 at s5 k5 s3 g3 s2 g4 Z M;generalize af:H2.set r (.cells (zA (zA (JH o n q.pos O O l) 5 (.bool O)) 3 (.str R.1)))=H3 at s3 s2 g4 Z M;generalize ag:H3.set r (.cells (zA (zA (zA (JH o n q.pos O O l) 5 (.bool O)) 3 (.str R.1)) 2 (Q J R.2.1)))=H4 at s2 Z M;generalize ah:H4.set r (.cells (zA (zA (zA (zA (JH o n q.pos O O l) 5 (.bool O)) 3 (.str R.1)) 2 (Q J R.2.1)) 4 (.bool K)))=H5 at Z M;have m5:=ZZ M 5 (v:=.bool O) rfl;have m3:=ZZ M 3 (v:=.str R.1) rfl
    have z:Stp [r] H1 H5:=by
     rw[<-ah,<-ag,<-af,<-ae];exact (((Stp.set _ _ dh).trans (Stp.set _ _ dh) (λ_ h=>h) λ_ h=>.inl h).trans (Stp.set _ _ dh) (λ_ h=>h) λ_ h=>.inl h).trans (Stp.set _ _ dh) (λ_ h=>h) λ_ h=>.inl h
    refine⟨H5,S,?_,⟨w.at'.frame λa j=>z.at' a (w.at'.lt a j) (by simp;exact λe=>T (e ▸ j)),(w.stp.mono (B:=r::A) λa j=>by simp[j]).trans (z.mono (B:=r::A) λa j=>by rw[zH.1 j];simp) (λ_ h=>h) (λ_ h=>.inl h),w.own⟩,⟨R.1,M,λx C=>by injection C,λ_=>rfl⟩⟩;simp only[go_sem,zE,u,Wm,N,G,zD,zG,l0,l1,l2,L,zB,zC,ez,RR,aa,s5,k5,s3,s2,Z,VD,m5,RQ,m3]
   ·rw[if_neg e0];have ez:(R.2.2 != 0)=K:=by simpa using e0
    by_cases e5:R.2.2=5
    ·rw[if_pos e5];rw[e5]at L;have ab:((5:Int) != 0)=K:=rfl;have ac:((5:Int) != 5)=O:=rfl;have ad:((5:Int)==5)=K:=rfl;have s5:=Wp D 5 (v:=.bool K) rfl rfl dh;have P:=Zu (zF (zA (JH o n q.pos O O l) 5 (.bool K))) D;have k5:=ZZ P 5 (v:=.bool K) rfl;have z:Stp [r] H1 (H1.set r (.cells (zA (JH o n q.pos O O l) 5 (.bool K)))):=Stp.set _ _ dh;refine⟨_,S,?_,⟨w.at'.frame λa j=>z.at' a (w.at'.lt a j) (by simp;exact λe=>T (e ▸ j)),(w.stp.mono (B:=r::A) λa j=>by simp[j]).trans (z.mono (B:=r::A) λa j=>by rw[zH.1 j];simp) (λ_ h=>h) (λ_ h=>.inl h),w.own⟩,⟨l,P,(λx C=>by cases C),λC=>by cases C⟩⟩;simp only[go_sem,zE,u,Wm,N,G,zD,zG,l0,l1,l2,L,zB,zC,ab,ac,RR,ad,s5,k5,zI,VD]
    ·rw[if_neg e5];have ef:(R.2.2 != 5)=K:=by simpa using e5
     refine⟨H1,S,?_,⟨w.at',w.stp.mono λa j=>by simp[j],w.own⟩,⟨l,by rw[F,hf];exact D,hl,C⟩⟩;simp only[go_sem,zE,u,Wm,N,G,zD,zG,l0,l1,l2,L,zB,zC,ez,ef]
theorem ZAJ:∃ H' M,Do [.ptr r 0] H=X (.tuple [.str (Vk tm s n q).2.1,.bool (Vk tm s n q).2.2.1,Q J (Vk tm s n q).2.2.2],H')/\VRes H H' t (.ptr o 0) tm (Vk tm s n q).1.2 A M r (k+1)/\RBt H' r o n (Vk tm s n q).1.1:=by
 obtain⟨H1,C,y,j,E⟩:=Zy9 h hm hs hk hr hrA hq;obtain⟨N,R,S⟩:=Zg7 tm s n q;have Z:=hr.lt
 have D:r∉C:=λu=>by
  rcases j.own r u with L|L
  ·exact hrA L
  ·omega
 rw[N,R,S,fM];unfold Ef;generalize YY tm s n q=P at y j E
 cases G:P.2.2.1 with
 |false =>
  rw[G]at y;refine⟨H1,C,?_,j,E⟩;simp only[y,go_sem,zB,zC,RP]
 |true =>
  rw[G]at y;obtain⟨l,F,hl,u⟩:=E;have s4:=Wp F 4 (v:=.bool O) rfl rfl dh;have T:=Zu (zF (zA (JH o n P.1.1.pos P.1.1.held.isSome P.1.1.fin l) 4 (.bool O))) F;have w:Stp [r] H1 (H1.set r (.cells (zA (JH o n P.1.1.pos P.1.1.held.isSome P.1.1.fin l) 4 (.bool O)))):=Stp.set _ _ dh;refine⟨_,C,?_,⟨j.at'.frame λa z=>w.at' a (j.at'.lt a z) (by simp;exact λe=>D (e ▸ z)),j.stp.trans (w.mono (B:=r::A) λa z=>by rw[zH.1 z];simp) (λ_ h=>h) (λ_ h=>.inl h),j.own⟩,⟨l,T,(λx u=>by cases u),λu=>by cases u⟩⟩;simp only[y,go_sem,zB,zC,zE,s4,RP]
end
end Go.Am
