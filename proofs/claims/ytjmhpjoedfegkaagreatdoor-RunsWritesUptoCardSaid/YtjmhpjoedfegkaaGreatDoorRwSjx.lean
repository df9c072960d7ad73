/- Temporary files in the machine -/
import Derived.Test.YtjmhpjoedfegkaaGreatDoorRwQbx
import Derived.Lib.ItoaLen
open Option renaming some->K
open Bool renaming true->X,false->Y
open List renaming length->O
open Go.Am.AV renaming int->Q
open Go.IntKind renaming i64->J
open Go.IntKind renaming i64->zW
open List renaming getElem?_set_ne->zB,nodup_cons->zC,mem_cons->zD,map_cons->zE,getElem?_append_right->zG,getElem?_cons_zero->zH,getElem?_cons_succ->zI,mem_append_left->zJ,mem_append->zK,length_append->zL,length_singleton->zN,set->zO,mem_singleton->zP,length_cons->zR,cons_append->zS,append_nil->zT,map_append->zU
open Nat renaming zero_add->zA,le_refl->zM
open Bool renaming false_eq_true->zQ
open Go.Am.AObj renaming cells->zF
open Go.Am.AV renaming str->zV
namespace Go.Am
set_option linter.unusedSectionVars false
set_option maxRecDepth 100000
structure Tmp where
 owner:Zj
 names:List Zj
 sld:List Zj
 limit:Nat
 last:Nat
 closed:Bool
def NmAt (H:Hp)(x:AV)(l:List Zj):Prop:=x=.nils/\l=[]\/∃ t e,x=.vs 1 (.own t e) (l.map zV)/\H[t]?=K (.tok e)
theorem NmAt.ss {H:Hp}{x:AV}{l:List Zj}(h:NmAt H x l):SS x l:=by
 rcases h with ⟨rfl,rfl⟩|⟨t,e,rfl,_⟩
 ·exact .inl ⟨rfl,rfl⟩
 ·exact .inr ⟨_,rfl⟩
theorem NmAt.frame {H H':Hp}{x:AV}{l:List Zj}(h:NmAt H x l)(w:∀ a∈ZA x,H'[a]?=H[a]?):NmAt H' x l :=
 h.imp id λ⟨t,e,j,u⟩=>⟨t,e,j,(w t (by rw[j];simp[ZA])).trans u⟩
def VX (p:Zj×Nat):AV×AV×Nat:=(.str p.1,.bool X,p.2)
structure TmAt (H:Hp)(o t ms clk:Nat)(nx:AV)(sl:List (Zj×Nat))(tm:Tmp):Prop where
 cells:H[o]?=K (.cells [.ptr t 0,.str tm.owner,nx,.map ms,Q J (tm.limit:Int),Q J (tm.last:Int),.bool tm.closed])
 names:NmAt H nx tm.names
 map:H[ms]?=K (.map (sl.map VX) clk)
 sld:sl.map (·.1)=tm.sld
 nd:(o::ms::ZA nx).Nodup
def TmpAt (H:Hp)(o t:Nat)(tm:Tmp)(B:dv):Prop:=∃ j h u sl,TmAt H o t j h u sl tm/\B=o::j::ZA u
structure TmpOk (tm:Tmp):Prop where
 owner:O tm.owner<=16
 limit:tm.limit<=9223372036854775807
 len:O tm.names<=tm.last
 last:tm.last<=1000000
theorem TmAt.lt {H:Hp}{o t w u:Nat}{y:AV}{sl:List (Zj×Nat)}{tm:Tmp}(h:TmAt H o t w u y sl tm):∀ a∈o::w::ZA y,a<O H:=by
 intro a j;rcases zD.1 j with e|j
 ·subst e;exact Zq h.cells
 rcases zD.1 j with e|j
 ·subst e;exact Zq h.map
 rcases h.names with ⟨e,_⟩|⟨t,e,z,A⟩
 ·rw[e]at j;cases j
 ·rw[z]at j;rw[zP.1 j];exact Zq A
theorem TmAt.frame {H H':Hp}{o t w j:Nat}{y:AV}{sl:List (Zj×Nat)}{tm:Tmp}(h:TmAt H o t w j y sl tm)(u:∀ a∈o::w::ZA y,H'[a]?=H[a]?):TmAt H' o t w j y sl tm :=
 ⟨(u _ dh).trans h.cells,h.names.frame λa z=>u a (by simp[z]),(u _ dh).trans h.map,h.sld,h.nd⟩
theorem TmpAt.lt {H:Hp}{o t:Nat}{tm:Tmp}{B:dv}(h:TmpAt H o t tm B):∀ a∈B,a<O H:=by
 obtain⟨u,j,w,sl,h,rfl⟩:=h;exact h.lt
theorem TmpAt.stp {H H':Hp}{o t:Nat}{tm:Tmp}{B S:dv}(h:TmpAt H o t tm B)(y:Stp S H H')(w:∀ a∈B,a∉S):TmpAt H' o t tm B:=by
 obtain⟨z,j,A,sl,h,rfl⟩:=h;exact⟨z,j,A,sl,h.frame λa u=>y.at' a (h.lt a u) (w a u),rfl⟩
def SysAt (H:Hp)(o t:Nat)(tm:Tmp)(s:Sto)(A:dv):Prop:=∃ B S,TmpAt H o t tm B/\StoreAt H t s S/\(∀ a∈B,a∉S)/\A=B++S
structure SysRes (H H':Hp)(o t:Nat)(tm':Tmp)(s':Sto)(A A':dv):Prop where
 at':SysAt H' o t tm' s' A'
 stp:Stp A H H'
 own:∀ a∈A',a∈A\/O H<=a
theorem SysAt.lt {H:Hp}{o t:Nat}{tm:Tmp}{s:Sto}{A:dv}(h:SysAt H o t tm s A):∀ a∈A,a<O H:=by
 obtain⟨B,S,j,u,y,rfl⟩:=h;intro a w;rcases zK.1 w with k|k
 ·exact j.lt a k
 ·exact u.lt a k
theorem SysAt.stp {H H':Hp}{o t:Nat}{tm:Tmp}{s:Sto}{A C:dv}(h:SysAt H o t tm s A)(w:Stp C H H')(u:∀ a∈A,a∉C):SysAt H' o t tm s A:=by
 obtain⟨B,S,y,z,D,rfl⟩:=h;exact⟨B,S,y.stp w λa j=>u a (by simp[j]),z.stp w λa j=>u a (by simp[j]),D,rfl⟩
theorem SysAt.self {H:Hp}{o t:Nat}{tm:Tmp}{s:Sto}{A:dv}(h:SysAt H o t tm s A):SysRes H H o t tm s A A:=⟨h,Stp.refl _ _,λa j=>.inl j⟩
theorem SysAt.store {H H':Hp}{o t:Nat}{tm:Tmp}{s':Sto}{B S u:dv}(w:TmpAt H o t tm B)(y:∀ a∈B,a∉S)(j:StoRes H H' t s' S u):SysRes H H' o t tm s' (B++S) (B++u):=by
 refine⟨⟨B,u,w.stp j.stp y,j.at',λa h z=>?_,rfl⟩,j.stp.mono λa h=>by simp[h],λa h=>?_⟩
 ·rcases j.own a z with k|k
  ·exact y a h k
  ·have:=w.lt a h;omega
 ·rcases zK.1 h with k|k
  ·exact .inl (by simp[k])
  ·rcases j.own a k with k|k
   ·exact .inl (by simp[k])
   ·exact .inr k
theorem ZZ {H:Hp}{o:Nat}{l:du}(h:H[o]?=K (.cells l))(i:Nat){v:AV}(j:l[i]?=K v):Z4 Y 1 (.ptr o i) H=K v:=by
 rw[Wg h];exact j
theorem Wp {H:Hp}{o:Nat}{l:du}(h:H[o]?=K (.cells l))(i:Nat){v:AV}(u:v.cells=[v])(j:v.known=X)(hi:i<O l):Zg 1 (.ptr o i) v H=K (.tuple [],H.set o (.cells (l.set i v))):=by
 have:=st h i u j hi
 rwa [zA]at this
theorem Zrb {x:AV}{l:List Zj}(E:SS x l)(L:O l<=1048576)(n:Zj)(D H:Hp):∀ (r d:List Zj),l=d++r ->
 ∃ i:Int,Xc x (.str n) (Q J (O l:Int)) (Q J (O d:Int)) D H=K (Q J i,H)/\(0<=i↔n∈r):=by
 intro r
 induction r with
 |nil =>
  intro d j;rw[zT]at j;subst j;have h:decide ((O l:Int)<(O l:Int))=Y:=dh
  refine⟨-1,?_,dh⟩;rw[VI];simp only[go_sem,h,BZ]
 |cons s r F =>
  intro d j;have B:O l=O d+(O r+1):=by rw[j];simp
  have h:decide ((O d:Int)<(O l:Int))=X:=by simp;omega
  have A:zW.wrap ((O d:Int)+1)=((O d+1:Nat):Int):=by rw[Zl b5 b5];omega
  have z:l[O d]?=K s:=by rw[j,zG (zM _)];simp
  have u:=SS.idx E z;rw[VI];simp only[go_sem,h,D2,u,ZE];by_cases w:n=s
  ·have y:(n==s)=X:=by simpa using w
   simp only[y,go_sem];exact⟨_,rfl,by simp[w]⟩
  ·have y:(n==s)=Y:=by simpa using w
   obtain⟨i,C,G⟩:=F (d++[s]) (by rw[j];simp);rw[zL,zN]at C;simp only[y,go_sem,D3,A];exact⟨i,C,by rw[G];simp[w]⟩
theorem mU {x:AV}{l:List Zj}(w:SS x l)(u:O l<=1048576)(n:Zj)(H:Hp):Ze YW [x,.str n] H=K (.bool (decide (n∈l)),H):=by
 obtain⟨B,y,k2⟩:=SS.closed w [] 0 7;obtain⟨C,j,h⟩:=SS.closed k2 [] 0 7;refine Xn y (b':=.str n) rfl (H1:=[]) ?_ rfl;obtain⟨i,z,A⟩:=Zrb h u n [] [] l [] rfl
 have hi:Ze Ww [B,.str n] []=K (Q J i,[]):=by
  refine Xn j (b':=.str n) rfl (H1:=[]) ?_ rfl;rw[Dv];unfold UV;simp only[go_sem,SS.len h 9];exact z
 rw[GI];unfold VN;simp only[hi,go_sem];congr 3;rw[decide_eq_decide];exact A
def ZI (tm:Tmp)(n:Zj):Int:=if tm.closed then 8 else if n∈tm.names then 0 else 5
theorem Rl {H:Hp}{o t F y:Nat}{C:AV}{sl:List (Zj×Nat)}{tm:Tmp}(h:TmAt H o t F y C sl tm)(A:TmpOk tm)(n:Zj):YZ [.ptr o 0,.str n] H=K (Q J (ZI tm n),H):=by
 have u:=ZZ h.cells 6 (v:=.bool tm.closed) rfl;have B:=ZZ h.cells 2 (v:=C) rfl;have D:=A.len;have E:=A.last;have j:=mU h.names.ss b5 n H;rw[GY];unfold Jp ZI
 cases z:tm.closed with
 |true =>
  rw[z]at u;simp only[go_sem,zA,u,if_true]
 |false =>
  rw[z]at u;by_cases w:n∈tm.names
  ·rw[decide_eq_true w]at j;simp only[go_sem,zA,u,B,j,Bool.not_true,C6,if_pos w,zQ,if_false]
  ·rw[decide_eq_false w]at j;simp only[go_sem,zA,u,B,j,Bool.not_false,if_neg w,zQ,if_false]
def Yu (o:Zj):Zj:=[46,116,109,112,46]++o++[46]
def Yr (o:Zj)(n:Nat):Zj:=Yu o++Go.Lib.itoa (n:Int)
def Zi (tm:Tmp)(s:Sto):(Zj×Int)×(Tmp×Sto) :=
 if tm.closed then (([],8),(tm,s)) else match s.create (Yr tm.owner (tm.last+1)) with
 |(e,s')=>if e=0 then ((Yr tm.owner (tm.last+1),0),({ tm with last:=tm.last+1,names:=tm.names++[Yr tm.owner (tm.last+1)] },s')) else (([],e),(tm,s'))
theorem NmAt.app {H:Hp}{x:AV}{l:List Zj}(h:NmAt H x l)(n:Zj)(B:O l<=1048576) :
 ∃ j H',Ya 1 16 x (.vs 1 .clip [.str n]) H=K (j,H')/\NmAt H' j (l++[n])/\Stp (ZA x) H H'/\(∀ a∈ZA j,a∈ZA x\/a=O H)/\j.cells=[j]/\j.known=X/\(ZA j).Nodup:=by
 unfold Ya;have A:Go.Am.elems 1 (.vs 1 .clip [.str n]) H=K [.str n]:=rfl;rw[A];have u:Xe ((l.map zV).length+[zV n].length) 16=X:=by simp[Xe];omega
 have w:Xe [zV n].length 16=X:=rfl;rcases h with ⟨rfl,rfl⟩|⟨t,e,rfl,z⟩
 ·refine⟨.vs 1 (.own (O H) 1) [.str n],H++[.tok 1],?_,.inr ⟨O H,1,rfl,dh⟩,Stp.push _ _,λa y=>.inr (zP.1 y),rfl,rfl,by simp[ZA]⟩;simp only[YR,w,if_true];rw[if_neg dh];rfl
 ·refine⟨.vs 1 (.own t (e+1)) (l.map zV++[.str n]),H.set t (.tok (e+1)),?_,.inr ⟨t,e+1,dh,Zu _ z⟩,Stp.set _ _ (by simp[ZA]),λa y=>.inl (by simpa[ZA]using y),rfl,rfl,by simp[ZA]⟩;simp only[YR,u,and_self,if_true,z];rw[if_neg dh];rfl
theorem ZwT (n:Nat)(h:n<=9223372036854775807)(H:Hp):Ze Cr [Q J (n:Int)] H=K (.str (Go.Lib.itoa (n:Int)),H):=by
 refine YG (a':=Q J (n:Int)) rfl (H1:=[]) ?_ rfl
 have:kR ZcI [Q J (n:Int)] []=K (.str (Go.Lib.itoa (n:Int)),[]):=by
  unfold kR ZcI;dsimp only;rw[if_pos b5]
 rw[Zgz];unfold Zab;simp only[this,go_sem]
theorem jT (o:Zj)(h:O o<=1048576)(H:Hp):Ze QW [.str o] H=K (.str (Yu o),H):=by
 refine YG (a':=.str o) rfl (H1:=[]) ?_ rfl;rw[fU];unfold Eo;rw[Vc (by simp;omega)];simp only[go_sem];rw[Vc (by simp;omega)];rfl
abbrev tmC (t h:Nat)(j:AV)(tm:Tmp):du:=[.ptr t 0,.str tm.owner,j,.map h,Q J (tm.limit:Int),Q J (tm.last:Int),.bool tm.closed]
theorem ZpE (o:Zj)(n:Nat)(u:O o<=16)(j:n<=1000001):(Yr o n).length<=1048576/\(Yu o).length+(Go.Lib.itoa (n:Int)).length<=1048576:=by
 have:=Go.Lib.itoa_length_le (n:Int) b5 b5;have h:(Yu o).length=O o+6:=by simp[Yu]
 refine⟨?_,b5⟩;unfold Yr;rw[zL];omega
theorem Zmk {H:Hp}{o t:Nat}{tm:Tmp}{s:Sto}{A:dv}(h:SysAt H o t tm s A)(hm:TmpOk tm)(hk:StoOk s)(hl:tm.last<1000000) :
 ∃ H' A',XJ [.ptr o 0] H=K (.tuple [.str (Zi tm s).1.1,Q J (Zi tm s).1.2],H')/\SysRes H H' o t (Zi tm s).2.1 (Zi tm s).2.2 A A':=by
 have ag:=h;obtain⟨B,S,z,h2,h3,rfl⟩:=h;have hB:=z;obtain⟨w,ah,y,sl,z,rfl⟩:=z;have l6:=ZZ z.cells 6 (v:=.bool tm.closed) rfl;have l0:=ZZ z.cells 0 (v:=.ptr t 0) rfl;have l1:=ZZ z.cells 1 (v:=.str tm.owner) rfl;have l5:=ZZ z.cells 5 (v:=Q J (tm.last:Int)) rfl;have ho:=hm.owner;have hw:zW.wrap ((tm.last:Int)+1)=((tm.last+1:Nat):Int):=by rw[Zl b5 b5];omega
 obtain⟨n1,n2⟩:=ZpE tm.owner (tm.last+1) ho b5;have M:=jT tm.owner b5 H;have ac:=ZwT (tm.last+1) b5 H;have G:Y1 .add (.str (Yu tm.owner)) (.str (Go.Lib.itoa ((tm.last+1:Nat):Int)))=K (.str (Yr tm.owner (tm.last+1))):=by rw[Vc b5];rfl
 have L:Y5 (.pointer 76) .eql (.ptr t 0) .nilp=K (.bool Y):=rfl;obtain⟨H1,S1,p1,D⟩:=ZpT h2 hk (Yr tm.owner (tm.last+1)) n1;rw[D6];unfold JX Zi
 cases hc:tm.closed with
 |true =>
  rw[hc]at l6;rw[if_pos rfl];exact⟨H,_,by simp only[go_sem,zA,UF,l6],ag.self⟩
 |false =>
  rw[hc]at l6;rw[if_neg dh]
  cases aj:s.create (Yr tm.owner (tm.last+1)) with
  |mk e s' =>
  rw[aj]at p1 D;simp only at p1 D ⊢;by_cases he:e=0
  ·subst he;rw[if_pos rfl];have R:((0:Int) != 0)=Y:=rfl;have N:=z.frame (H':=H1) λa u=>D.stp.at' a (z.lt a u) (h3 a u);have k5:=ZZ N.cells 5 (v:=Q J (tm.last:Int)) rfl;have s5:=Wp N.cells 5 (v:=Q J ((tm.last+1:Nat):Int)) rfl rfl dh;have g1:=Zu (zF (zO (tmC t w y tm) 5 (Q J ((tm.last+1:Nat):Int)))) N.cells;have k2:=ZZ g1 2 (v:=y) rfl;have af:=z.nd;rw[zC,zC]at af;obtain⟨d1,d2,d3⟩:=af;have Z:∀ a∈ZA y,a≠o:=λa u e=>d1 (by rw[<-e];simp[u]);have ae:∀ a∈ZA y,a≠w:=λa u e=>d2 (by rw[<-e];exact u);have T:o≠w:=λe=>d1 (by rw[e];simp);generalize E:H1.set o (.cells (zO (tmC t w y tm) 5 (Q J ((tm.last+1:Nat):Int))))=H2 at s5 g1 k2;have P:O H2=O H1:=by rw[<-E];simp
   have ai:NmAt H2 y tm.names:=N.names.frame λa u=>by rw[<-E];exact zB (λe=>Z a u e.symm)
   have al:=hm.len;obtain⟨x',H3,q1,q2,q3,q4,q5,q6,q7⟩:=ai.app (Yr tm.owner (tm.last+1)) b5;have g2:H3[o]?=K (.cells (zO (tmC t w y tm) 5 (Q J ((tm.last+1:Nat):Int)))):=q3.get g1 λu=>Z o u rfl;have s2:=Wp g2 2 (v:=x') q5 q6 dh;generalize F:H3.set o (.cells (zO (zO (tmC t w y tm) 5 (Q J ((tm.last+1:Nat):Int))) 2 x'))=H4 at s2;have ak:o<O H1:=Zq N.cells;have ad:w<O H1:=Zq N.map
   have aa:∀ a∈ZA x',a≠o/\a≠w:=λa u=>by
    rcases q4 a u with k|k
    ·exact⟨Z a k,ae a k⟩
    ·omega
   have ab:Stp (o::w::ZA y) H1 H4:=by
    have e1:Stp (o::w::ZA y) H1 H2:=by rw[<-E];exact Stp.set _ _ dh
    have e3:Stp (o::w::ZA y) H3 H4:=by rw[<-F];exact Stp.set _ _ dh
    exact (e1.trans (q3.mono (B:=o::w::ZA y) λa u=>by simp[u]) (λ_ h=>h) λ_ h=>.inl h).trans e3 (λ_ h=>h) λ_ h=>.inl h
   refine⟨H4,(o::w::ZA x')++S1,?_,⟨⟨o::w::ZA x',S1,⟨w,ah,x',sl,⟨?_,?_,?_,z.sld,?_⟩,rfl⟩,?_,?_,rfl⟩,?_,?_⟩⟩
   ·simp only[go_sem,zA,UF,l6,l0,L,Br,l1,M,l5,hw,ac,G,p1,R,AU,k5,s5,k2,VH,q1,s2]
   ·rw[<-F];refine (Zu _ g2).trans ?_;simp only[tmC,hc];rfl
   ·exact q2.frame λa u=>by rw[<-F];exact zB (λe=>(aa a u).1 e.symm)
   ·rw[<-F,zB T,q3.at' w (by rw[P];exact ad) (λu=>ae w u rfl),<-E,zB T];exact N.map
   ·rw[zC,zC];refine⟨λu=>?_,λu=>(aa w u).2 rfl,q7⟩;rcases zD.1 u with e|u
    ·exact T e
    ·exact (aa o u).1 rfl
   ·refine D.at'.stp ab λa u hb=>?_;rcases D.own a u with k|k
    ·exact h3 a hb k
    ·have:=z.lt a hb;omega
   ·intro a u hs
    have C:a∈o::w::ZA y->False:=λk=>by
     rcases D.own a hs with j|j
     ·exact h3 a k j
     ·have:=z.lt a k;omega
    rcases zD.1 u with e|u
    ·exact C (by rw[e];simp)
    rcases zD.1 u with e|u
    ·exact C (by rw[e];simp)
    rcases q4 a u with k|k
    ·exact C (by simp[k])
    ·have:=D.at'.lt a hs;omega
   ·refine (D.stp.mono (B:=(o::w::ZA y)++S) λa u=>by simp[u]).trans ab (λ_ h=>h) λa u=>.inl (zJ _ u)
   ·intro a u;rcases zK.1 u with u|u
    ·rcases zD.1 u with e|u
     ·exact .inl (by rw[e];simp)
     rcases zD.1 u with e|u
     ·exact .inl (by rw[e];simp)
     rcases q4 a u with k|k
     ·exact .inl (by simp[k])
     ·exact .inr (by have:=D.stp.len;omega)
    ·rcases D.own a u with k|k
     ·exact .inl (by simp[k])
     ·exact .inr k
  ·rw[if_neg he];have R:(e != 0)=X:=by simpa using he
   exact⟨H1,_,by simp only[go_sem,zA,UF,l6,l0,L,Br,l1,M,l5,hw,ac,G,p1,R],SysAt.store hB h3 D⟩
def NI (l:List Zj)(n:Zj):List Zj:=if n∈l then l else l++[n]
def ZM (tm:Tmp)(s:Sto)(n:Zj):Int×(Tmp×Sto) :=
 if ZI tm n≠0 then (ZI tm n,(tm,s)) else if (s.sync n).1≠0 then ((s.sync n).1,(tm,(s.sync n).2)) else (0,({ tm with sld:=NI tm.sld n },(s.sync n).2))
theorem ZfW:∀ (sl:List (Zj×Nat)) (n:Zj) (i:Nat),(n∉sl.map (·.1)/\X2 (.str n) (sl.map VX) i=K none)\/∃ a p b,sl=a++p::b/\p.1=n/\n∈sl.map (·.1)/\X2 (.str n) (sl.map VX) i=K (K (i+O a,.bool X)):=by
 intro sl n
 induction sl with
 |nil=>intro i;exact .inl ⟨dh,rfl⟩
 |cons p sl B =>
  intro i;have u:JB (.str n) (VX p).1=K (n==p.1):=rfl;by_cases j:n=p.1
  ·refine .inr ⟨[],p,sl,rfl,j.symm,by simp[j],?_⟩;rw[zE,X2,u,show (n==p.1)=X by simpa using j];rfl
  ·have h:X2 (.str n) ((p::sl).map VX) i=X2 (.str n) (sl.map VX) (i+1):=by
    rw[zE,X2,u,show (n==p.1)=Y by simpa using j]
   rw[h];rcases B (i+1) with ⟨w,y⟩|⟨a,q,b,w,y,z,A⟩
   ·exact .inl ⟨by simp[j]at w ⊢;exact w,y⟩
   ·refine .inr ⟨p::a,q,b,by rw[w];rfl,y,by rw[zE];exact List.mem_cons_of_mem _ z,?_⟩;rw[A];simp only[zR];congr 3;omega
theorem ZxF {α:Type}(a:List α)(d:α)(b:List α):(a++d::b).set (O a) d=a++d::b:=by
 induction a with
 |nil=>rfl
 |cons x a h=>simp only[zS,zR,List.set_cons_succ,h]
theorem ZxD {H:Hp}{B j:Nat}{sl:List (Zj×Nat)}(h:H[B]?=K (.map (sl.map VX) j))(n:Zj) :
 ∃ (w:List (Zj×Nat)) (u:Nat),XL .string (.map B) (.str n) (.bool X) H=K (.tuple [],H.set B (.map (w.map VX) u))/\w.map (·.1)=NI (sl.map (·.1)) n:=by
 have A:Wr .string (.str n)=X:=rfl;unfold XL;dsimp only;rw[h];dsimp only;rw[if_pos A];rcases ZfW sl n 0 with ⟨y,z⟩|⟨a,p,b,y,z,E,F⟩
 ·refine⟨sl++[(n,j)],j+1,?_,?_⟩
  ·rw[z];simp[VX]
  ·unfold NI;rw[if_neg y];simp
 ·refine⟨sl,j,?_,?_⟩
  ·rw[F];dsimp only;have C:(sl.map VX).getD (0+O a) (.undef,.undef,0)=VX p:=by rw[y,List.getD_eq_getElem?_getD,zU,zE,zG dh];simp
   have D:(sl.map VX).set (0+O a) (.str n,.bool X,(VX p).2.2)=sl.map VX:=by
    have:((.str n,.bool X,(VX p).2.2):AV×AV×Nat)=VX p:=by rw[<-z];rfl
    rw[this,y,zA,zU,zE,show O a=(a.map VX).length by simp,ZxF]
   rw[C,D]
  ·unfold NI;rw[if_pos E]
theorem Zmj {H:Hp}{o t:Nat}{tm:Tmp}{s:Sto}{A:dv}(h:SysAt H o t tm s A)(hm:TmpOk tm)(hk:StoOk s)(n:Zj) :
 ∃ H' A',Xq [.ptr o 0,.str n] H=K (Q J (ZM tm s n).1,H')/\SysRes H H' o t (ZM tm s n).2.1 (ZM tm s n).2.2 A A':=by
 have P:=h;obtain⟨B,S,w,h2,R,rfl⟩:=h;have hB:=w;obtain⟨z,ac,G,sl,w,rfl⟩:=w;have Z:=Rl w hm n;have l0:=ZZ w.cells 0 (v:=.ptr t 0) rfl;obtain⟨H1,S1,p1,E⟩:=Zvv h2 hk.count n;rw[GX];unfold Jo ZM;by_cases C:ZI tm n=0
 ·have e0:(ZI tm n != 0)=Y:=by rw[C];rfl
  rw[if_neg (by simp[C])];by_cases D:(s.sync n).1=0
  ·have T:((s.sync n).1 != 0)=Y:=by rw[D];rfl
   rw[if_neg (by simp[D])];have M:=w.frame (H':=H1) λa u=>E.stp.at' a (w.lt a u) (R a u);have k3:=ZZ M.cells 3 (v:=.map z) rfl;obtain⟨F,y,q1,q2⟩:=ZxD M.map n;have N:=w.nd;rw[zC,zC]at N;obtain⟨d1,d2,d3⟩:=N;have ab:o≠z:=λe=>d1 (by rw[e];simp);have aa:∀ a∈ZA G,a≠z:=λa u e=>d2 (by rw[<-e];exact u);have L:Stp (o::z::ZA G) H1 (H1.set z (.map (F.map VX) y)):=Stp.set _ _ dh;refine⟨H1.set z (.map (F.map VX) y),(o::z::ZA G)++S1,?_,⟨⟨o::z::ZA G,S1,⟨z,y,G,F,⟨?_,?_,?_,?_,w.nd⟩,rfl⟩,?_,?_,rfl⟩,?_,?_⟩⟩
   ·simp only[Z,go_sem,e0,zA,GH,l0,p1,T,C5,k3,q1]
   ·rw[zB ab.symm];exact M.cells
   ·exact M.names.frame λa u=>zB (λe=>aa a u e.symm)
   ·exact Zu _ M.map
   ·rw[q2,w.sld]
   ·refine E.at'.stp L λa u hb=>?_;rcases E.own a u with k|k
    ·exact R a hb k
    ·have:=w.lt a hb;omega
   ·intro a u hs;rcases E.own a hs with j|j
    ·exact R a u j
    ·have:=w.lt a u;omega
   ·refine (E.stp.mono (B:=(o::z::ZA G)++S) λa u=>by simp[u]).trans L (λ_ h=>h) λa u=>.inl (zJ _ u)
   ·intro a u;rcases zK.1 u with u|u
    ·exact .inl (zJ _ u)
    ·rcases E.own a u with k|k
     ·exact .inl (by simp[k])
     ·exact .inr k
  ·have T:((s.sync n).1 != 0)=X:=by simpa using D
   rw[if_pos D];exact⟨H1,_,by simp only[Z,go_sem,e0,zA,GH,l0,p1,T],SysAt.store hB R E⟩
 ·have e0:(ZI tm n != 0)=X:=by simpa using C
  rw[if_pos C];exact⟨H,_,by simp only[Z,go_sem,e0],P.self⟩
def X5 (h:List Zj):List Fil->Nat
 |[]=>0
 |f::r=>(if f.name∈h then O f.text else 0)+X5 h r
theorem AX (h:List Zj)(l:List Fil):X5 h l<=Zs l:=by
 induction l with
 |nil=>exact zM _
 |cons f l j=>simp only[X5,Zs];split <;> omega
theorem Zcp (h:List Zj)(a b:List Fil):X5 h (a++b)=X5 h a+X5 h b:=by
 induction a with
 |nil=>simp[X5]
 |cons f a j=>simp only[zS,X5,j];omega
theorem ZiO (w:List Zj){a b:List Fil}(h:a.Perm b):X5 w a=X5 w b:=by
 induction h with
 |nil=>rfl
 |cons x _ z=>simp only[X5,z]
 |swap x y l=>simp only[X5];omega
 |trans _ _ j u=>rw[j,u]
theorem ZtG {l:List Fil}(h:(l.map Fil.name).Nodup):(l.map Fil.name).filterMap (Y2 l)=l:=by
 have key:∀ (r l:List Fil),(l.map Fil.name).Nodup->(∀ f∈r,f∈l)->(r.map Fil.name).filterMap (Y2 l)=r:=by
  intro r l w
  have u:∀ f∈l,Y2 l f.name=K f:=by
   clear r
   induction l with
   |nil=>intro f j;cases j
   |cons g l z =>
    intro f j;rw[zE,zC]at w;unfold Y2;rcases zD.1 j with e|j
    ·rw[e,if_pos rfl]
    ·have y:¬ f.name=g.name:=λe=>w.1 (by rw[<-e];exact List.mem_map.2 ⟨f,j,rfl⟩);rw[if_neg y];exact z w.2 f j
  induction r with
  |nil=>intro _;rfl
  |cons f r z =>
   intro h;rw[zE,List.filterMap_cons,u f (h f dh),z λg u=>h g (by simp[u])]
 exact key l l h λ_ h=>h
theorem VZ {l:List Fil}(h:(l.map Fil.name).Nodup):(ZH l).Perm l:=by
 unfold ZH;have:=(Qy (l.map Fil.name)).filterMap (Y2 l)
 rwa [ZtG h]at this
def V4 (tm:Tmp)(s:Sto):Nat:=X5 tm.names s.files
theorem Zg3 (x:Fil)(H:Hp):Z4 X 3 (.vp (ZL x).cells) H=K (ZL x):=rfl
theorem Zqv {w:Hp}{o t ms z:Nat}{M:AV}{sl:List (Zj×Nat)}{tm:Tmp}(h:TmAt w o t ms z M sl tm)(hm:TmpOk tm){x:AV}{fs:List Fil}(hx:Sl 3 x (fs.map ZL))(hl:O fs<=64)(hu:Zs fs<=262144)(HB:Hp):∀ (r d:List Fil) (H:Hp),fs=d++r->Keep (O w) w H->O w<=O H ->
 ∃ H',WY (.ptr o 0) (Q J (X5 tm.names d:Int)) x (Q J (O fs:Int)) (Q J (O d:Int)) HB H=K (Q J (X5 tm.names fs:Int),H')/\Keep (O w) w H'/\O w<=O H':=by
 have ad:=hm.len;have ae:=hm.last;intro r
 induction r with
 |nil =>
  intro d H B G j;rw[zT]at B;subst B;have C:decide ((O fs:Int)<(O fs:Int))=Y:=dh
  rw[G0];simp only[go_sem,C,E9];exact⟨_,rfl,G,j⟩
 |cons f r ih =>
  intro d H B G j;have Z:O fs=O d+(O r+1):=by rw[B];simp
  have C:decide ((O d:Int)<(O fs:Int))=X:=by simp;omega
  have F:zW.wrap ((O d:Int)+1)=((O d+1:Nat):Int):=by rw[Zl b5 b5];omega
  have T:fs[O d]?=K f:=by rw[B,zG (zM _)];simp
  have E:Zr 3 x (Q J (O d:Int))=K (.vp (ZL f).cells):=Sl.idx hx (c:=ZL f) (by simp[T]);have A:TmAt H o t ms z M sl tm:=h.frame λa R=>G a (h.lt a R);have ac:=Zq A.cells;have S:(H++[zF [.str [],Q J 0,Q J 0]])[O H]?=K (.cells [.str [],Q J 0,Q J 0]):=dh
  have aa:Zg 3 (.ptr (O H) 0) (ZL f) (H++[zF [.str [],Q J 0,Q J 0]])=K (.tuple [],H++[zF (ZL f).cells]):=by
   rw[Uc (v:=ZL f) (sz:=3) S rfl rfl dh];simp[splice,ZL,AV.cells]
  have g1:(H++[zF (ZL f).cells])[O H]?=K (.cells (ZL f).cells):=dh
  have y:TmAt (H++[zF (ZL f).cells]) o t ms z M sl tm:=A.frame λa R=>List.getElem?_append_left (A.lt a R);have l2:=ZZ y.cells 2 (v:=M) rfl;have m0:=ZZ g1 0 (v:=.str f.name) rfl;have m1:=ZZ g1 1 (v:=Q J (O f.text:Int)) rfl;have D:=mU y.names.ss b5 f.name (H++[zF (ZL f).cells]);have P:Keep (O w) w (H++[zF (ZL f).cells]):=G.trans (Keep.push H j _);have u:X5 tm.names (d++[f])=X5 tm.names d+(if f.name∈tm.names then O f.text else 0):=by rw[Zcp];simp[X5]
  have af:=AX tm.names (d++[f])
  have ag:Zs (d++[f])<=Zs fs:=by
   rw[B,Ug,Ug];simp only[Zs];omega
  obtain⟨H',N,p2,p3⟩:=ih (d++[f]) (H++[zF (ZL f).cells]) (by rw[B];simp) P (by simp;omega);rw[zL,zN]at N;refine⟨H',?_,p2,p3⟩;rw[G0];simp only[go_sem,C,Ea,E,Zg3,aa,zA,l2,m0,D];by_cases L:f.name∈tm.names
  ·rw[if_pos L]at u;have ab:zW.wrap ((X5 tm.names d:Int)+(O f.text:Int))=(X5 tm.names (d++[f]):Int):=by rw[Zl b5 b5];omega
   have c1:(ZL f).cells[1]?=K (Q J (O f.text:Int)):=rfl;simp only[decide_eq_true L,go_sem,zA,m1,c1,ab,KZ,F];exact N
  ·rw[if_neg L,Nat.add_zero]at u;rw[u]at N;simp only[decide_eq_false L,go_sem,KZ,F];exact N
theorem ZvZ {H:Hp}{o t R z:Nat}{T:AV}{sl:List (Zj×Nat)}{tm:Tmp}{s:Sto}{S:dv}(h:TmAt H o t R z T sl tm)(L:StoreAt H t s S)(M:TmpOk tm)(j:StoOk s) :
 Ve Vg [.ptr o 0] H=K (Q J (V4 tm s:Int),H):=by
 obtain⟨x,q1,F⟩:=cH L j;have P:=ZZ h.cells 0 (v:=.ptr t 0) rfl;have B:=VZ j.nd;have u:(ZH s.files).length<=64:=by rw[B.length_eq];exact j.len
 have C:Zs (ZH s.files)<=262144:=by
  have G:∀ {a b:List Fil},a.Perm b->Zs a=Zs b:=λ{a b} h=>by
   induction h with
   |nil=>rfl
   |cons x _ N=>simp only[Zs,N]
   |swap x y l=>simp only[Zs];omega
   |trans _ _ D E=>rw[D,E]
  rw[G B];have:=j.used;have:=j.limit;omega
 have A:Zf (.slice 96) x=K (Q J ((ZH s.files).length:Int)):=by
  have:=Sl.len F 96
  rwa [List.length_map]at this
 obtain⟨H',Z,p2,p3⟩:=Zqv h M F u C H _ [] H rfl (Keep.refl _ _) (zM _)
 have w:Vg [.ptr o 0] H=K (Q J (X5 tm.names (ZH s.files):Int),H'):=by
  rw[SA];unfold DV;simp only[go_sem,zA,P,q1,A];exact Z
 have:=Qx w p2 p3 (v':=Q J (X5 tm.names (ZH s.files):Int)) rfl
 rwa [ZiO tm.names B]at this
def ZO (tm:Tmp)(s:Sto)(n:Zj)(l:List Zj):Int×Sto :=
 if ZI tm n≠0 then (ZI tm n,s) else if n∈tm.sld then (8,s) else if Wq l=Y then (3,s) else
  if (tm.limit:Int)-(V4 tm s:Int)<(Yo l:Int) then (11,s) else s.append n (Ym l)
theorem Zpi {H:Hp}{w j:Nat}{sl:List (Zj×Nat)}(h:H[w]?=K (.map (sl.map VX) j))(n:Zj):Yj .string (.bool Y) Y (.map w) (.str n) H=K (.bool (decide (n∈sl.map (·.1)))):=by
 have C:Xs (.map w) H=K (sl.map VX):=by unfold Xs;dsimp only;rw[h]
 have u:Wr .string (.str n)=X:=rfl;unfold Yj;rw[if_pos u,C];dsimp only;rcases ZfW sl n 0 with ⟨y,z⟩|⟨a,p,b,y,z,A,B⟩
 ·rw[z,decide_eq_false y];rfl
 ·rw[B,decide_eq_true A];rfl
theorem Zkd {H:Hp}{o t:Nat}{tm:Tmp}{s:Sto}{A:dv}(h:SysAt H o t tm s A)(P:TmpOk tm)(L:StoOk s)(n:Zj){x:AV}{l:List Zj}(hx:SS x l)(hL:∀ s∈l,O s<=1048576)(hl:Yo l<=1048576) :
 ∃ H' A',Xh [.ptr o 0,.str n,x] H=K (Q J (ZO tm s n l).1,H')/\SysRes H H' o t tm (ZO tm s n l).2 A A':=by
 have w:=h;obtain⟨B,S,y,T,h3,rfl⟩:=h;have hB:=y;obtain⟨ms,aa,nx,sl,y,rfl⟩:=y;have E:=Rl y P n;have l0:=ZZ y.cells 0 (v:=.ptr t 0) rfl;have M:=ZZ y.cells 3 (v:=.map ms) rfl;have l4:=ZZ y.cells 4 (v:=Q J (tm.limit:Int)) rfl;have u:=Zpi y.map n;rw[y.sld]at u;have j:=Zwp hx hL b5 H;have D:=ZvZ y T P L
 have ab:V4 tm s<=262144:=by
  have:=AX tm.names s.files;have:=L.used;have:=L.limit;unfold V4;omega
 have Z:=P.limit;have hw:zW.wrap ((tm.limit:Int)-(V4 tm s:Int))=(tm.limit:Int)-(V4 tm s:Int):=Zl b5 b5;rw[Gr];unfold QG ZO;by_cases z:ZI tm n=0
 ·have e0:(ZI tm n != 0)=Y:=by rw[z];rfl
  rw[if_neg (by simp[z])];by_cases C:n∈tm.sld
  ·rw[if_pos C];rw[decide_eq_true C]at u;exact⟨H,_,by simp only[E,go_sem,e0,zA,Wd,M,u],w.self⟩
  ·rw[if_neg C];rw[decide_eq_false C]at u
   cases F:Wq l with
   |false =>
    have e3:((3:Int) != 0)=X:=rfl;rw[F,if_neg dh]at j;rw[if_pos rfl];exact⟨H,_,by simp only[E,go_sem,e0,zA,Wd,M,u,VK,j,zH,zI,e3],w.self⟩
   |true =>
    have R:((0:Int) != 0)=Y:=rfl;rw[F,if_pos rfl]at j;rw[if_neg dh];by_cases G:(tm.limit:Int)-(V4 tm s:Int)<(Yo l:Int)
    ·rw[if_pos G];have N:decide ((tm.limit:Int)-(V4 tm s:Int)<((Ym l).length:Int))=X:=by rw[Rk];exact decide_eq_true G
     exact⟨H,_,by simp only[E,go_sem,e0,zA,Wd,M,u,VK,j,zH,zI,R,KY,l4,D,hw,N],w.self⟩
    ·rw[if_neg G];have N:decide ((tm.limit:Int)-(V4 tm s:Int)<((Ym l).length:Int))=Y:=by rw[Rk];exact decide_eq_false G
     obtain⟨H1,S1,p1,p2⟩:=ZpS T L n (Ym l) (by rw[Rk];omega);exact⟨H1,_,by simp only[E,go_sem,e0,zA,Wd,M,u,VK,j,zH,zI,R,KY,l4,D,hw,N,E8,l0,p1],SysAt.store hB h3 p2⟩
 ·have e0:(ZI tm n != 0)=X:=by simpa using z
  rw[if_pos z];exact⟨H,_,by simp only[E,go_sem,e0],w.self⟩
end Go.Am
