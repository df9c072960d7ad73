/- Prefix -/
import Derived.Test.YtmclihijlmlpkaaGreatDoorXeEx
open Option renaming some->O,none->U
open Bool renaming true->Y,false->I
open List renaming length->N
open Go.db renaming cm->X
open Go.Am.AV renaming int->Q
open Go.IntKind renaming i64->J
open Go.IntKind renaming i64->yQ
open List renaming length_nil->zC,nil_append->zD,cons_append->zE,getElem?_eq_getElem->zF,length_cons->zG,drop_eq_nil_iff->zH,length_drop->zK,length_take->zL,length_singleton->zO,length_append->zS,filter_cons->zT,append_nil->zU,length_map->zV,drop_take->zW,drop_zero->zX,drop_eq_getElem_cons->yA,singleton_append->yD,drop_succ_cons->yE,contains_cons->yF,append_assoc->yH,getElem_mem->yI,drop_drop->yK
open Nat renaming zero_add->zI,reduceAdd->zN,zero_le->zY,le_refl->yP
open Bool renaming false_eq_true->zB,true_or->zJ,or_true->zM,or_false->zQ,or_eq_true->yB,eq_iff_iff->yJ,false_and->yL,not_false->yM,true_and->yN,or_self->yO
open UInt8 renaming ofNat->zZ,ofNat_toNat->yG
open Go.Am.AObj renaming cells->zA,bld->yC
open Go.Am.AV renaming cells->zP,known->zR
namespace Go.Am
set_option maxRecDepth 100000
def CW (neg:Bool)(n:Nat)(w f:cz):Int :=
 if n=0/\f=[] then 0 else if neg then -(min 10000000000000 (Kz w f)) else min 10000000000000 (Kz w f)
def Ho (neg:Bool)(r:cz):Int :=
 match r.drop (Zp r) with
 |[]=>CW neg (Zp r) (r.take (Zp r)) []
 |b::q=>if (((b.toNat:Int)==46)&&(decide (0<Zp r) || decide (0<Zp q)))=Y then CW neg (Zp r) (r.take (Zp r)) (q.take (Zp q)) else CW neg (Zp r) (r.take (Zp r)) []
theorem Zo2 {neg:Bool}{r:cz}(h:r.drop (Zp r)=[]):Ho neg r=CW neg (Zp r) (r.take (Zp r)) []:=by unfold Ho;rw[h]
theorem Zly {neg:Bool}{r:cz}{b:UInt8}{q:cz}(h:r.drop (Zp r)=b::q):Ho neg r=if (((b.toNat:Int)==46)&&(decide (0<Zp r) || decide (0<Zp q)))=Y then CW neg (Zp r) (r.take (Zp r)) (q.take (Zp q)) else CW neg (Zp r) (r.take (Zp r)) []:=by unfold Ho;rw[h]
theorem ZsY:∀ (l:cz) (d n:Int),0<=d->d<=1000000000->HT l d=O n->0<=n/\n<=1000000000:=by
 intro l
 induction l with
 |nil=>intro d n g j h;injection h with h;subst h;exact⟨g,j⟩
 |cons b l u =>
  intro d n g j h;rw[ZbN]at h;have:=XO b;split at h
  ·cases h
  ·exact u _ n X X h
theorem Zis {w f:cz}{n:Int}(h:OP w f=O n):0<=n/\n<=10000001000000:=by
 unfold OP at h;split at h
 ·cases h
 ·rename_i d g;injection h with h;have:=ZsY w 0 d X X g;have:=Zlb f;omega
theorem Zj2 (w f:cz):0<=Kz w f/\Kz w f<=10000000000001:=by
 unfold Kz;split
 ·omega
 ·rename_i n h;have:=Zis h;omega
theorem Zms (x y:AV):ZQ (.tuple [x,y]) 0=O x:=rfl
theorem Zmt (x y:AV):ZQ (.tuple [x,y]) 1=O y:=rfl
theorem cF (n:Int):Xa .neg (Q J n)=O (Q J (yQ.wrap (0-n))):=de
theorem ZiC (neg:Bool)(n:Nat)(w f:cz)(hw:N w<=1048576)(A:N f<=1048576)(e:Int)(H0 H:Hp) :
 ∃ y,WN (.bool neg) (Q J (n:Int)) (.str w) (.str f) (Q J e) H0 H=O (.tuple [Q J (CW neg n w f),Q J y],H):=by
 have B:=Zj2 w f
 have h:Q3 (Q J 10000000000000) (Q J (Kz w f))=O (Q J (min 10000000000000 (Kz w f))):=by
  unfold Q3;simp only[if_true];congr 2;split <;> omega
 have j:yQ.wrap (0-min 10000000000000 (Kz w f))=-(min 10000000000000 (Kz w f)):=by rw[Zo X X];omega
 have g:D5 (.bool neg) (.str w) (.str f) (Q J e) H0 H=O (.tuple [Q J (if neg then -(min 10000000000000 (Kz w f)) else min 10000000000000 (Kz w f)),Q J e],H):=by
  rw[fJ];simp only[go_sem,Zt1 w f hw A,h]
  cases neg with
  |true=>simp only[go_sem,cF,j,TD,if_true]
  |false=>simp only[go_sem,TD,zB,if_false]
 have u:YK .eql (.str f) (.str [])=O (.bool (f==[])):=rfl;rw[fI];unfold CW
 cases n with
 |zero =>
  cases f with
  |nil=>exact⟨0,by simp[go_sem,YK];rfl⟩
  |cons b f =>
   have u:YK .eql (.str (b::f)) (.str [])=O (.bool I):=rfl;refine⟨e,?_⟩;simp[go_sem,u,g]
 |succ n =>
  refine⟨e,?_⟩
  have z:(((n+1:Nat):Int)==0)=I:=by
   rw[beq_eq_false_iff_ne];omega
  simp only[go_sem,z,g];simp
theorem Zg1 {s:cz}{i:Nat}(h:i<=N s):Y4 (.str s) (O (Q J (i:Int))) U U=O (.str (s.drop i)):=by
 rw[eW .i64 X X];simp
theorem ZiB (s:cz)(hs:N s<=1048576)(neg:Bool){i:Nat}(hi:i<=N s)(H0 H:Hp) :
 ∃ e,QI (.str s) (Q J (i:Int)) (.bool neg) H0 H=O (.tuple [Q J (Ho neg (s.drop i)),Q J e],H):=by
 have hr:(s.drop i).length=N s-i:=zK;have hn:=iJ (s.drop i);have Z:yQ.wrap ((i:Int)+(Zp (s.drop i):Int))=((i+Zp (s.drop i):Nat):Int):=by rw[Zo X X];omega
 have T:(s.take (i+Zp (s.drop i))).drop i=(s.drop i).take (Zp (s.drop i)):=by rw[zW];congr 1;omega
 rw[fH];simp only[go_sem,Zg1 hi,Ze8 _ (show (s.drop i).length<=1048576 by omega),Z,QB (show i<=i+Zp (s.drop i) by omega) (show i+Zp (s.drop i)<=N s by omega),T,ZY];have w:((s.drop i).take (Zp (s.drop i))).length<=1048576:=by rw[zL];omega
 by_cases M:i+Zp (s.drop i)<N s
 ·have R:decide (((i+Zp (s.drop i):Nat):Int)<(N s:Int))=Y:=by simp;omega
  have S:(s.drop i).drop (Zp (s.drop i))=s[i+Zp (s.drop i)]::s.drop (i+Zp (s.drop i)+1):=by
   rw[yK,YU M]
  have j:yQ.wrap (((i+Zp (s.drop i):Nat):Int)+1)=((i+Zp (s.drop i)+1:Nat):Int):=by rw[Zo X X];omega
  have hq:(s.drop (i+Zp (s.drop i)+1)).length=N s-(i+Zp (s.drop i)+1):=zK;have hk:=iJ (s.drop (i+Zp (s.drop i)+1));rw[Zly S];simp only[R,go_sem,ZO (zF M)]
  cases aa:((s[i+Zp (s.drop i)].toNat:Int)==46) with
  |false =>
   simp only[go_sem,yL,zB,if_false];exact ZiC neg _ _ _ w cn _ H0 H
  |true =>
   have z:yQ.wrap (((i+Zp (s.drop i)+1:Nat):Int)+(Zp (s.drop (i+Zp (s.drop i)+1)):Int))=((i+Zp (s.drop i)+1+Zp (s.drop (i+Zp (s.drop i)+1)):Nat):Int):=by rw[Zo X X];omega
   have A:yQ.wrap ((1:Int)+(Zp (s.drop (i+Zp (s.drop i)+1)):Int))=((1+Zp (s.drop (i+Zp (s.drop i)+1)):Nat):Int):=by rw[Zo X X];omega
   have y:(s.take (i+Zp (s.drop i)+1+Zp (s.drop (i+Zp (s.drop i)+1)))).drop (i+Zp (s.drop i)+1)=(s.drop (i+Zp (s.drop i)+1)).take (Zp (s.drop (i+Zp (s.drop i)+1))):=by rw[zW];congr 1;omega
   have hfl:((s.drop (i+Zp (s.drop i)+1)).take (Zp (s.drop (i+Zp (s.drop i)+1)))).length<=1048576:=by rw[zL];omega
   have h:∀ n:Nat,decide ((0:Int)<(n:Int))=decide (0<n):=λn=>cn
   simp only[go_sem,j,Zg1 (show i+Zp (s.drop i)+1<=N s by omega),Ze8 _ (show (s.drop (i+Zp (s.drop i)+1)).length<=1048576 by omega),h,yN]
   have g:∃ e,(Z0 (Z3 .add (Q J ((i+Zp (s.drop i):Nat):Int)) (Q J 1)) λB =>
    Z0 (Z3 .add (Q J ((i+Zp (s.drop i):Nat):Int)) (Q J 1)) λC =>
    Z0 (Z3 .add C (Q J (Zp (s.drop (i+Zp (s.drop i)+1)):Int))) λD =>
    Z0 (Y4 (.str s) (O B) (O D) U) λE =>
    Z0 (Z3 .add (Q J 1) (Q J (Zp (s.drop (i+Zp (s.drop i)+1)):Int))) λF =>
    Z0 (Z3 .add (Q J ((i+Zp (s.drop i):Nat):Int)) F) λu =>
    WN (.bool neg) (Q J (Zp (s.drop i):Int)) (.str ((s.drop i).take (Zp (s.drop i)))) E u H0 H)=O (.tuple [Q J (CW neg (Zp (s.drop i)) ((s.drop i).take (Zp (s.drop i))) ((s.drop (i+Zp (s.drop i)+1)).take (Zp (s.drop (i+Zp (s.drop i)+1))))),Q J e],H):=by
    simp only[go_sem,j,z,A,QB (show i+Zp (s.drop i)+1<=i+Zp (s.drop i)+1+Zp (s.drop (i+Zp (s.drop i)+1)) by omega) (show i+Zp (s.drop i)+1+Zp (s.drop (i+Zp (s.drop i)+1))<=N s by omega),y];exact ZiC neg _ _ _ w hfl _ H0 H
   simp only[go_sem,j,z,A,QB (show i+Zp (s.drop i)+1<=i+Zp (s.drop i)+1+Zp (s.drop (i+Zp (s.drop i)+1)) by omega) (show i+Zp (s.drop i)+1+Zp (s.drop (i+Zp (s.drop i)+1))<=N s by omega),y]at g
   cases ab:decide (0<Zp (s.drop i)) with
   |true =>
    simp only[go_sem,zJ,if_true,j,z,A,QB (show i+Zp (s.drop i)+1<=i+Zp (s.drop i)+1+Zp (s.drop (i+Zp (s.drop i)+1)) by omega) (show i+Zp (s.drop i)+1+Zp (s.drop (i+Zp (s.drop i)+1))<=N s by omega),y];exact g
   |false =>
    cases K:decide (0<Zp (s.drop (i+Zp (s.drop i)+1))) with
    |true =>
     simp only[go_sem,h,K,zM,if_true,j,z,A,QB (show i+Zp (s.drop i)+1<=i+Zp (s.drop i)+1+Zp (s.drop (i+Zp (s.drop i)+1)) by omega) (show i+Zp (s.drop i)+1+Zp (s.drop (i+Zp (s.drop i)+1))<=N s by omega),y];exact g
    |false =>
     simp only[go_sem,h,K,zQ,zB,if_false];exact ZiC neg _ _ _ w cn _ H0 H
 ·have R:decide (((i+Zp (s.drop i):Nat):Int)<(N s:Int))=I:=by simp;omega
  have S:(s.drop i).drop (Zp (s.drop i))=[]:=zH.2 X;rw[Zo2 S];simp only[R,go_sem];exact ZiC neg _ _ _ w cn _ H0 H
def ZkG:cz->Int
 |[]=>Ho I []
 |b::r=>if (((b.toNat:Int)==45) || ((b.toNat:Int)==43))=Y then Ho ((b.toNat:Int)==45) r else Ho ((b.toNat:Int)==45) (b::r)
theorem Zlx (b:UInt8)(r:cz):ZkG (b::r)=if (((b.toNat:Int)==45) || ((b.toNat:Int)==43))=Y then Ho ((b.toNat:Int)==45) r else Ho ((b.toNat:Int)==45) (b::r):=de
def Hn (s:cz):Int:=ZkG (s.drop (Yv s))
theorem Zv8 (s:cz)(w:N s<=1048576){i:Nat}(hi:i<=N s)(H0 H:Hp) :
 ∃ e,D4 (.str s) (Q J (i:Int)) H0 H=O (.tuple [Q J (ZkG (s.drop i)),Q J e],H):=by
 rw[fG];by_cases h:i<N s
 ·have j:decide ((i:Int)<(N s:Int))=Y:=by simp;omega
  have u:yQ.wrap ((i:Int)+1)=((i+1:Nat):Int):=by rw[Zo X X];omega
  have g:=ZO (zF h);rw[YU h];simp only[ZY,go_sem,j,g,Zlx]
  cases A:((s[i].toNat:Int)==45) with
  |true =>
   simp only[go_sem,j,g,u,zJ,if_true];exact ZiB s w Y X H0 H
  |false =>
   simp only[go_sem,ZY,j,g]
   cases z:((s[i].toNat:Int)==43) with
   |true =>
    simp only[go_sem,j,g,u,zM,if_true];exact ZiB s w I X H0 H
   |false =>
    simp only[go_sem,zQ,yO,zB,if_false];rw[<-YU h];exact ZiB s w I X H0 H
 ·have j:decide ((i:Int)<(N s:Int))=I:=by simp;omega
  have y:s.drop i=[]:=zH.2 X;simp only[ZY,go_sem,j,y];have:=ZiB s w I hi H0 H;rw[y]at this;exact this
theorem ZAf (s:cz)(D:N s<=1048576)(H0 H:Hp):∀ (k i:Nat),N s-i=k->i<=N s ->
 ∃ e,QJ (.str s) (Q J (i:Int)) H0 H=O (.tuple [Q J (ZkG ((s.drop i).drop (Yv (s.drop i)))),Q J e],H):=by
 intro k
 induction k with
 |zero =>
  intro i hk hi;have u:decide ((i:Int)<(N s:Int))=I:=by simp;omega
  have E:s.drop i=[]:=zH.2 X;rw[TF];simp only[ZY,go_sem,u];have:=Zv8 s D hi H0 H;rw[E]at this ⊢;exact this
 |succ k F =>
  intro i hk hi;have B:i<N s:=X
  have u:decide ((i:Int)<(N s:Int))=Y:=by simp;omega
  have z:yQ.wrap ((i:Int)+1)=((i+1:Nat):Int):=by rw[Zo X X];omega
  have y:=ZO (zF B);have A:=F (i+1) X X
  have g:YG s[i]=Y->(s.drop i).drop (Yv (s.drop i))=(s.drop (i+1)).drop (Yv (s.drop (i+1))):=λh=>by
   rw[YU B,WI,h,if_pos rfl,yE]
  have w:YG s[i]=I->(s.drop i).drop (Yv (s.drop i))=s.drop i:=λh=>by
   rw[YU B,WI,h];simp
  have hb:YG s[i]=(((s[i].toNat:Int)==32) || ((s[i].toNat:Int)==9)):=by
   rw[YG,(Jj s[i]).1,(Jj s[i]).2]
  rw[TF];simp only[ZY,go_sem,u,y]
  cases j:((s[i].toNat:Int)==32) with
  |true =>
   simp only[go_sem,TE,z];rw[g (by rw[hb,j];rfl)];exact A
  |false =>
   simp only[go_sem,y]
   cases C:((s[i].toNat:Int)==9) with
   |true =>
    simp only[go_sem,TE,z];rw[g (by rw[hb,j,C];rfl)];exact A
   |false =>
    simp only[go_sem];rw[w (by rw[hb,j,C];rfl)];exact Zv8 s D hi H0 H
theorem Zo3 (s:cz)(g:N s<=1048576)(H:Hp):∃ e,Ze Jo [.str s] H=O (.tuple [Q J (Hn s),Q J e],H):=by
 obtain⟨e,h⟩:=ZAf s g [] [] _ 0 rfl (zY _);rw[show ((0:Nat):Int)=0 from rfl,zX]at h;refine⟨e,XD (a':=.str s) (H1:=[]) rfl ?_ rfl⟩;rw[lF];exact h
theorem Zc8 (s:cz)(hs:N s<=1048576)(neg:Bool){i n:Nat}(hn:i+n<=N s)(f:cz)(Z:N f<=1048576)(e:Int)(M:e=(i:Int)↔n=0/\f=[])(H0 H:Hp) :
 ∃ R,K2 (.str s) (Q J (i:Int)) (.bool neg) (Q J ((i+n:Nat):Int)) (Q J e) (.str f) H0 H=O (.tuple [Q J (CW neg n ((s.drop i).take n) f),Q J R],H):=by
 have E:(s.take (i+n)).drop i=(s.drop i).take n:=by rw[zW];congr 1;omega
 have F:((s.drop i).take n).length<=1048576:=by rw[zL,zK];omega
 have hv:=Zj2 ((s.drop i).take n) f;have y:∀ m:Int,0<=m->m<=10000000000000->yQ.wrap (0-m)=-m:=λm K A=>by rw[Zo X X];omega
 have g:∀ m:Int,0<=m->m<=10000000000000->Fl (.bool neg) (Q J e) (Q J m) H0 H=O (.tuple [Q J (if neg then -m else m),Q J e],H):=λm K A=>by
  rw[ZeI]
  cases neg with
  |true=>simp only[go_sem,cF,y m K A,C4,if_true]
  |false=>simp only[go_sem,C4,zB,if_false]
 have w:∀ u:cz,N u<=1048576->fr 4 u 0=fr 4 f 0->Fk (.str s) (Q J (i:Int)) (.bool neg) (Q J ((i+n:Nat):Int)) (Q J e) (.str u) H0 H=O (.tuple [Q J (if neg then -(min 10000000000000 (Kz ((s.drop i).take n) f)) else min 10000000000000 (Kz ((s.drop i).take n) f)),Q J e],H):=λu A S=>by
  have z:OP ((s.drop i).take n) u=OP ((s.drop i).take n) f:=by unfold OP;rw[S]
  rw[ZeH];simp only[go_sem,QB (show i<=i+n by omega) hn,E,Zoh _ u F A,z];unfold Kz
  cases T:OP ((s.drop i).take n) f with
  |none =>
   simp only[go_sem,Zms,Zmt,yM];exact g _ X X
  |some m =>
   have hm:=Zis T;simp only[go_sem,Zms,Zmt];by_cases j:m<=10000000000000
   ·simp only[decide_eq_true j,Bool.not_true,go_sem];rw[g m hm.1 j,show min 10000000000000 (min 10000000000001 m)=m by omega]
   ·simp only[decide_eq_false j,yM,go_sem];rw[g _ X X,show min 10000000000000 (min 10000000000001 m)=(10000000000000:Int) by omega]
 have C:L2 (.str s) (Q J (i:Int)) (.bool neg) (Q J ((i+n:Nat):Int)) (Q J e) (.str f) H0 H=O (.tuple [Q J (if neg then -(min 10000000000000 (Kz ((s.drop i).take n) f)) else min 10000000000000 (Kz ((s.drop i).take n) f)),Q J e],H):=by
  rw[ZeG];simp only[go_sem,ZY];by_cases h4:4<N f
  ·have c:decide ((4:Int)<(N f:Int))=Y:=by simp;omega
   have D:Y4 (.str f) U (O (Q J 4)) U=O (.str (f.take 4)):=ZhC .i64 X X;simp only[c,go_sem,D];exact w _ (by rw[zL];omega) (Zx1 f)
  ·have c:decide ((4:Int)<(N f:Int))=I:=by simp;omega
   simp only[c,go_sem];exact w _ Z rfl
 rw[ZeF];unfold CW;by_cases B:e=(i:Int)
 ·have c:(e==(i:Int))=Y:=by rw[beq_iff_eq];exact B
  refine⟨0,?_⟩;simp only[go_sem,c,if_pos (M.1 B)]
 ·have c:(e==(i:Int))=I:=by rw[beq_eq_false_iff_ne];exact B
  refine⟨e,?_⟩;simp only[go_sem,c,if_neg (λh=>B (M.2 h)),C]
theorem Zc7 (s:cz)(z:N s<=1048576)(neg:Bool){i:Nat}(hi:i<=N s)(H0 H:Hp) :
 ∃ e,Fj (.str s) (Q J (i:Int)) (.bool neg) H0 H=O (.tuple [Q J (Ho neg (s.drop i)),Q J e],H):=by
 have Z:(s.drop i).length=N s-i:=zK;have hn:=iJ (s.drop i);have g:((i+Zp (s.drop i):Nat):Int)=(i:Int)↔Zp (s.drop i)=0/\([]:cz)=[]:=⟨λh=>⟨X,rfl⟩,λh=>X⟩;rw[ZeE];simp only[go_sem,ZbA s z hi,ZY];by_cases A:i+Zp (s.drop i)<N s
 ·have D:decide (((i+Zp (s.drop i):Nat):Int)<(N s:Int))=Y:=by simp;omega
  have E:(s.drop i).drop (Zp (s.drop i))=s[i+Zp (s.drop i)]::s.drop (i+Zp (s.drop i)+1):=by
   rw[yK,YU A]
  have u:yQ.wrap (((i+Zp (s.drop i):Nat):Int)+1)=((i+Zp (s.drop i)+1:Nat):Int):=by rw[Zo X X];omega
  have T:(s.drop (i+Zp (s.drop i)+1)).length=N s-(i+Zp (s.drop i)+1):=zK;have hk:=iJ (s.drop (i+Zp (s.drop i)+1));rw[Zly E];simp only[D,go_sem,ZO (zF A)]
  cases S:((s[i+Zp (s.drop i)].toNat:Int)==46) with
  |false =>
   simp only[go_sem,yL,zB,if_false];exact Zc8 s z neg X [] cn _ g H0 H
  |true =>
   have R:(s.take (i+Zp (s.drop i)+1+Zp (s.drop (i+Zp (s.drop i)+1)))).drop (i+Zp (s.drop i)+1)=(s.drop (i+Zp (s.drop i)+1)).take (Zp (s.drop (i+Zp (s.drop i)+1))):=by rw[zW];congr 1;omega
   have hfl:((s.drop (i+Zp (s.drop i)+1)).take (Zp (s.drop (i+Zp (s.drop i)+1)))).length<=1048576:=by rw[zL];omega
   have M:decide ((i:Int)<((i+Zp (s.drop i):Nat):Int))=decide (0<Zp (s.drop i)):=by
    rw[decide_eq_decide];omega
   have B:decide (((i+Zp (s.drop i)+1:Nat):Int)<((i+Zp (s.drop i)+1+Zp (s.drop (i+Zp (s.drop i)+1)):Nat):Int))=decide (0<Zp (s.drop (i+Zp (s.drop i)+1))):=by
    rw[decide_eq_decide];omega
   have y:=QB (s:=s) (show i+Zp (s.drop i)+1<=i+Zp (s.drop i)+1+Zp (s.drop (i+Zp (s.drop i)+1)) by omega) (show i+Zp (s.drop i)+1+Zp (s.drop (i+Zp (s.drop i)+1))<=N s by omega);rw[R]at y;have j:=λC=>Zc8 s z neg (i:=i) (n:=Zp (s.drop i)) X ((s.drop (i+Zp (s.drop i)+1)).take (Zp (s.drop (i+Zp (s.drop i)+1)))) hfl ((i+Zp (s.drop i)+1+Zp (s.drop (i+Zp (s.drop i)+1)):Nat):Int) C H0 H
   have C:(decide (0<Zp (s.drop i)) || decide (0<Zp (s.drop (i+Zp (s.drop i)+1))))=Y->(((i+Zp (s.drop i)+1+Zp (s.drop (i+Zp (s.drop i)+1)):Nat):Int)=(i:Int)↔Zp (s.drop i)=0/\(s.drop (i+Zp (s.drop i)+1)).take (Zp (s.drop (i+Zp (s.drop i)+1)))=[]):=λK=>by
    rw[yB,decide_eq_true_eq,decide_eq_true_eq]at K;constructor
    ·intro h;omega
    ·rintro⟨h1,h2⟩
     have:=congrArg List.length h2;rw[zL,zC]at this;omega
   simp only[go_sem,u,ZbA s z (show i+Zp (s.drop i)+1<=N s by omega),M,yN]
   cases F:decide (0<Zp (s.drop i)) with
   |true =>
    simp only[go_sem,zJ,if_true,u,y];exact j (C (by rw[F];rfl))
   |false =>
    cases w:decide (0<Zp (s.drop (i+Zp (s.drop i)+1))) with
    |true =>
     simp only[go_sem,u,B,w,zM,if_true,y];exact j (C (by rw[w,zM]))
    |false =>
     simp only[go_sem,u,B,w,zQ,zB,if_false];exact Zc8 s z neg X [] cn _ g H0 H
 ·have D:decide (((i+Zp (s.drop i):Nat):Int)<(N s:Int))=I:=by simp;omega
  have E:(s.drop i).drop (Zp (s.drop i))=[]:=zH.2 X;rw[Zo2 E];simp only[D,go_sem];exact Zc8 s z neg X [] cn _ g H0 H
theorem Zql (s:cz)(w:N s<=1048576){i:Nat}(hi:i<=N s)(H0 H:Hp) :
 ∃ e,L1 (.str s) (Q J (i:Int)) H0 H=O (.tuple [Q J (ZkG (s.drop i)),Q J e],H):=by
 rw[ZeD];by_cases h:i<N s
 ·have j:decide ((i:Int)<(N s:Int))=Y:=by simp;omega
  have u:yQ.wrap ((i:Int)+1)=((i+1:Nat):Int):=by rw[Zo X X];omega
  have g:=ZO (zF h);rw[YU h];simp only[ZY,go_sem,j,g,Zlx]
  cases A:((s[i].toNat:Int)==45) with
  |true =>
   simp only[go_sem,j,g,u,zJ,if_true];exact Zc7 s w Y X H0 H
  |false =>
   simp only[go_sem,ZY,j,g]
   cases z:((s[i].toNat:Int)==43) with
   |true =>
    simp only[go_sem,j,g,u,zM,if_true];exact Zc7 s w I X H0 H
   |false =>
    simp only[go_sem,zQ,yO,zB,if_false];rw[<-YU h];exact Zc7 s w I X H0 H
 ·have j:decide ((i:Int)<(N s:Int))=I:=by simp;omega
  have y:s.drop i=[]:=zH.2 X;simp only[ZY,go_sem,j,y];have:=Zc7 s w I hi H0 H;rw[y]at this;exact this
theorem Zzt (s:cz)(D:N s<=1048576)(H0 H:Hp):∀ (k i:Nat),N s-i=k->i<=N s ->
 ∃ e,Fm (.str s) (Q J (i:Int)) H0 H=O (.tuple [Q J (ZkG ((s.drop i).drop (Yv (s.drop i)))),Q J e],H):=by
 intro k
 induction k with
 |zero =>
  intro i hk hi;have u:decide ((i:Int)<(N s:Int))=I:=by simp;omega
  have E:s.drop i=[]:=zH.2 X;rw[C6];simp only[ZY,go_sem,u];have:=Zql s D hi H0 H;rw[E]at this ⊢;exact this
 |succ k F =>
  intro i hk hi;have B:i<N s:=X
  have u:decide ((i:Int)<(N s:Int))=Y:=by simp;omega
  have z:yQ.wrap ((i:Int)+1)=((i+1:Nat):Int):=by rw[Zo X X];omega
  have y:=ZO (zF B);have A:=F (i+1) X X
  have g:YG s[i]=Y->(s.drop i).drop (Yv (s.drop i))=(s.drop (i+1)).drop (Yv (s.drop (i+1))):=λh=>by
   rw[YU B,WI,h,if_pos rfl,yE]
  have w:YG s[i]=I->(s.drop i).drop (Yv (s.drop i))=s.drop i:=λh=>by
   rw[YU B,WI,h];simp
  have hb:YG s[i]=(((s[i].toNat:Int)==32) || ((s[i].toNat:Int)==9)):=by
   rw[YG,(Jj s[i]).1,(Jj s[i]).2]
  rw[C6];simp only[ZY,go_sem,u,y]
  cases j:((s[i].toNat:Int)==32) with
  |true =>
   simp only[go_sem,C5,z];rw[g (by rw[hb,j];rfl)];exact A
  |false =>
   simp only[go_sem,y]
   cases C:((s[i].toNat:Int)==9) with
   |true =>
    simp only[go_sem,C5,z];rw[g (by rw[hb,j,C];rfl)];exact A
   |false =>
    simp only[go_sem];rw[w (by rw[hb,j,C];rfl)];exact Zql s D hi H0 H
theorem ZlE (s:cz)(g:N s<=1048576)(H:Hp):∃ e,Ze RD [.str s] H=O (.tuple [Q J (Hn s),Q J e],H):=by
 obtain⟨e,h⟩:=Zzt s g [] [] _ 0 rfl (zY _);rw[show ((0:Nat):Int)=0 from rfl,zX]at h;refine⟨e,XD (a':=.str s) (H1:=[]) rfl ?_ rfl⟩;rw[Zgd];exact h
def LH (a b:Int):Int:=if a<b then -1 else if b<a then 1 else 0
theorem Zvr (a b:Int)(H:Hp):Ze PU [Q J a,Q J b] H=O (Q J (LH a b),H):=by
 refine VT (a':=Q J a) (b':=Q J b) (H1:=[]) rfl rfl ?_ rfl;rw[Zck];unfold aR LH;by_cases h:a<b
 ·simp only[go_sem,decide_eq_true h,if_pos h]
 ·by_cases g:b<a
  ·simp only[go_sem,decide_eq_false h,if_neg h,decide_eq_true g,if_pos g]
  ·simp only[go_sem,decide_eq_false h,if_neg h,decide_eq_false g,if_neg g,ZbJ]
theorem ZnX (s t:cz)(u:N s<=1048576)(w:N t<=1048576)(H:Hp):Ze MX [.str s,.str t] H=O (Q J (LH (Hn s) (Hn t)),H):=by
 refine VT (a':=.str s) (b':=.str t) (H1:=[]) rfl rfl ?_ rfl;obtain⟨y,j⟩:=ZlE s u [];obtain⟨z,g⟩:=ZlE t w [];rw[Zew];unfold jF LH;simp only[go_sem,j,g,Zms,Zmt];by_cases h:Hn s<Hn t
 ·simp only[go_sem,decide_eq_true h,if_pos h]
 ·by_cases g:Hn t<Hn s
  ·simp only[go_sem,decide_eq_false h,if_neg h,decide_eq_true g,if_pos g,E4]
  ·simp only[go_sem,decide_eq_false h,if_neg h,decide_eq_false g,if_neg g,E4,ZcI]
def fL (b:UInt8):Bool:=YG b || ZuC b.toNat || Mf b.toNat
def VR (s:cz):cz:=s.filter fL
theorem ZtW:((List.range 256).all λn=>(Tw (Zmw (.bool (YG (zZ n))) (.int .u8 (n:Int)))==O (fL (zZ n)))&&(Tw (ZiG (.bool (YG (zZ n))) (.int .u8 (n:Int)))==O (fL (zZ n))))=Y:=df
theorem Znj (b:UInt8):Zmw (.bool (YG b)) (.int .u8 b.toNat)=O (.bool (fL b))/\ZiG (.bool (YG b)) (.int .u8 b.toNat)=O (.bool (fL b)):=by
 have:=Wi ZtW (Zca b);rw[yG,Bool.and_eq_true,beq_iff_eq,beq_iff_eq]at this;exact⟨Qv this.1,Qv this.2⟩
theorem Zwn (g:cz)(b:UInt8)(h:N g<=1048576):byteE.run [.ptr 0 0,.int .u8 b.toNat] [yC 146 5 g]=O (.nili,[yC 146 5 (g++[b])]):=by
 have hb:=b.toNat_lt;have u:N g+1<=ZfI:=by unfold ZfI;omega
 have j:ZhF [.int .u8 b.toNat]=O λl=>if N l+1<=ZfI then O (.nili,l++[zZ (b.toNat:Int).toNat]) else U:=by
  simp only[ZhF,if_pos (show (0:Int)<=(b.toNat:Int)/\(b.toNat:Int)<256 by omega)]
 simp only[byteE,Zyd,Zkh,CB,j,List.getElem?_cons_zero,Zfj,N8,N9,and_self,if_true,if_pos u,List.set_cons_zero,Int.toNat_natCast,yG]
theorem ZiT (g:cz):stringE.run [.ptr 0 0] [yC 146 5 g]=O (.str g,[yC 146 5 g]):=rfl
theorem ZtY (s:cz)(z:N s<=1048576)(H0:Hp):∀ (r done:cz) (g:cz),s=done++r->N g<=N done ->
 ∃ H',KT (.str s) (.ptr 0 0) (Q J (N s:Int)) (Q J (N done:Int)) H0 [yC 146 5 g]=O (.str (g++VR r),H'):=by
 intro r
 induction r with
 |nil =>
  intro done g j ha;rw[zU]at j;subst j;have u:decide ((N s:Int)<(N s:Int))=I:=cn
  refine⟨[yC 146 5 g],?_⟩;rw[MT];simp only[go_sem,u,ZbH,ZiT];simp[VR]
 |cons b r y =>
  intro done g j ha;have hlen:N s=N done+(N r+1):=by rw[j];simp
  have u:decide ((N done:Int)<(N s:Int))=Y:=by simp;omega
  have w:yQ.wrap ((N done:Int)+1)=((N done+1:Nat):Int):=by rw[Zo X X];omega
  rw[MT];simp only[go_sem,u,iL,Nj j,eX,(Znj b).1]
  cases hb:fL b with
  |true =>
   obtain⟨H',h⟩:=y (done++[b]) (g++[b]) (by rw[j];simp) (by simp;omega);rw[zS,zO]at h;refine⟨H',?_⟩;simp only[go_sem,Zwn g b X,MS,w,h,VR,zT,hb,if_true,yH,yD]
  |false =>
   obtain⟨H',h⟩:=y (done++[b]) g (by rw[j];simp) (by simp;omega);rw[zS,zO]at h;refine⟨H',?_⟩;simp only[go_sem,MS,w,h,VR,zT,hb,zB,if_false]
theorem ZtX (s:cz)(g:N s<=1048576)(H:Hp):Ze PT [.str s] H=O (.str (VR s),H):=by
 obtain⟨H',h⟩:=ZtY s g [] s [] [] rfl (yP _);rw[zC,show ((0:Nat):Int)=0 from rfl,zD]at h;refine XD (a':=.str s) (H1:=H') rfl ?_ rfl;rw[Zcj];unfold aQ;simp only[go_sem,zC,zD,h]
theorem Zst (s:cz)(D:N s<=1048576)(H0:Hp):∀ (r done:cz) (g:cz) (x:AV) (H:Hp),s=done++r->N g<=N done->RowN 0 H 1 x (g.map UK) ->
 ∃ H',NQ (.str s) x (Q J (N done:Int)) H0 H=O (.str (g++VR r),H'):=by
 intro r
 induction r with
 |nil =>
  intro done g x H j ha y;rw[zU]at j;subst j;have u:decide ((N s:Int)<(N s:Int))=I:=cn
  refine⟨H,?_⟩;rw[bN];simp only[go_sem,ZY,u,ZjH,Zqk y];simp[VR]
 |cons b r z =>
  intro done g x H j ha y;have hlen:N s=N done+(N r+1):=by rw[j];simp
  have u:decide ((N done:Int)<(N s:Int))=Y:=by simp;omega
  have w:yQ.wrap ((N done:Int)+1)=((N done+1:Nat):Int):=by rw[Zo X X];omega
  rw[bN];simp only[go_sem,ZY,u,Zf1,Nj j,Mk,(Znj b).2]
  cases hb:fL b with
  |true =>
   obtain⟨C,H1,A,B,_,_,_⟩:=y.app (zY _) 1 (.vs 1 .clip [UK b]) [UK b] (by simp[elems]) (by simp;omega);obtain⟨H',h⟩:=z (done++[b]) (g++[b]) C H1 (by rw[j];simp) (by simp;omega) (by simpa using B);rw[zS,zO]at h;refine⟨H',?_⟩;simp only[go_sem,Zv0,A,bM,w,h,VR,zT,hb,if_true,yH,yD]
  |false =>
   obtain⟨H',h⟩:=z (done++[b]) g x H (by rw[j];simp) (by simp;omega) y;rw[zS,zO]at h;refine⟨H',?_⟩;simp only[go_sem,bM,w,h,VR,zT,hb,zB,if_false]
theorem Zss (s:cz)(g:N s<=1048576)(H:Hp):Ze dZ [.str s] H=O (.str (VR s),H):=by
 obtain⟨H',h⟩:=Zst s g [] s [] [] .nils [] rfl (yP _) (RowN.nil _ _ _);rw[zC,show ((0:Nat):Int)=0 from rfl,zD]at h;refine XD (a':=.str s) (H1:=H') rfl ?_ rfl;rw[ZlQ];exact h
theorem FT (s:cz):(VR s).length<=N s:=List.length_filter_le _ _
def Xm (s:cz):cz:=s.drop (Yv s)
theorem fM (s:cz):(Xm s).length<=N s:=by unfold Xm;rw[zK];omega
theorem OH (b:UInt8)(s:cz):Xm (b::s)=if YG b then Xm s else b::s:=by
 unfold Xm;rw[WI];split <;> simp
theorem ZsU (s:cz):Go.Lib.trimLeftS s [32,9]=Xm s:=by
 unfold Go.Lib.trimLeftS
 induction s with
 |nil=>rfl
 |cons b s g =>
  rw[OH,List.dropWhile_cons]
  have:([32,9]:cz).contains b=YG b:=by
   rw[yF,yF,YG];simp
  rw[this,g]
theorem ZvK (s:cz)(H:Hp):Ze BU [.str s] H=O (.str (Xm s),H):=by
 refine XD (a':=.str s) (H1:=[]) rfl ?_ rfl;rw[eG];unfold LY
 have:Zc9 [.str s,.str [32,9]]=O (.str (Xm s)):=by
  unfold Zc9;dsimp only;rw[if_pos ⟨co,co⟩,ZsU]
 simp only[go_sem,iS,this]
theorem ZAo (L:Loc)(s:cz):(upS L s).length=N s:=by simp[upS,Vs]
theorem Zug {l:c6}{L:Loc}(h:LocCells l L)(hok:LocOk L)(s:cz)(y:N s<=1048576)(H:Hp):Ze BV [.str s,.vp l] H=O (.str (upS L s),H):=by
 obtain⟨B,j,x,c,e,rfl,A,u,w⟩:=h.close [] 0 5;have g:Zh [] 0 9 (.vp l)=O (.vp (L.cells x c e)):=by rw[Q6,j]
 refine VT (a':=.str s) rfl g (H1:=[]) ?_ rfl;rw[eH];unfold LZ;have z:=ZiZ (L:=L) ⟨x,c,e,rfl,A,u,w⟩ hok s y [];simp only[go_sem,Vp 6 (L.cells x c e) rfl,z.1]
def Xy (L:Loc)(n:Nat)(s:cz):cz :=
 let s1:=if n.testBit 3 then Xm s else s
 let s2:=if n.testBit 4 then VR s1 else s1
 if n.testBit 2 then upS L s2 else s2
theorem II (L:Loc)(n:Nat)(s:cz):(Xy L n s).length<=N s:=by
 have g:=fM s;have h:=FT s;have j:=FT (Xm s);simp only[Xy];split <;> split <;> split <;> (try rw[ZAo]) <;> omega
theorem ZfN:∀ a b:List Int,XX a b=-1\/XX a b=0\/XX a b=1:=by
 intro a
 induction a with
 |nil=>intro b;cases b <;> simp[XX]
 |cons x a g =>
  intro b
  cases b with
  |nil=>simp[XX]
  |cons y b =>
   rw[Qi];split
   ·simp
   ·split
    ·simp
    ·exact g b
theorem Zwy (a b:cz):Qw a b=-1\/Qw a b=0\/Qw a b=1:=by rw[<-Zfn];exact ZfN _ _
theorem fB (L:Loc)(a b:cz):Qx L a b=-1\/Qx L a b=0\/Qx L a b=1:=by
 unfold Qx;split
 ·exact ZfN _ _
 ·exact Zwy _ _
theorem ZfZ (a b:Int):LH a b=-1\/LH a b=0\/LH a b=1:=by
 unfold LH;split
 ·simp
 ·split <;> simp
def P5 (L:Loc)(n:Nat)(x y:cz):Int:=if n.testBit 0 then LH (Hn x) (Hn y) else Qx L (Xy L n x) (Xy L n y)
def WF (L:Loc)(n:Nat)(x y:cz):Int:=if n.testBit 1 then -P5 L n x y else P5 L n x y
theorem ZoC {c t:Int}(g:c=-1\/c=0\/c=1)(h:t=1\/t=-1):yQ.wrap (t*c)=if t=-1 then -c else c:=by
 rcases h with rfl|rfl <;> rcases g with rfl|rfl|rfl <;> decide
section
variable {n:Nat}(hn:n<32)
include hn
theorem ZA3 (H:Hp):Ze Wf [Q J n,Q J 1] H=O (.bool (n.testBit 0),H):=Zbf (j:=0) hn co H
theorem Zx8 (H:Hp):Ze Wf [Q J n,Q J 2] H=O (.bool (n.testBit 1),H):=Zbf (j:=1) hn co H
theorem ZA4 (H:Hp):Ze Wf [Q J n,Q J 4] H=O (.bool (n.testBit 2),H):=Zbf (j:=2) hn co H
theorem ZrP (H:Hp):Ze Wf [Q J n,Q J 8] H=O (.bool (n.testBit 3),H):=Zbf (j:=3) hn co H
theorem Zym (H:Hp):Ze Wf [Q J n,Q J 16] H=O (.bool (n.testBit 4),H):=Zbf (j:=4) hn co H
theorem ZzK:Z3 .and (Q J n) (Q J 1)=O (Q J (if n.testBit 0 then 1 else 0)):=Zaj (j:=0) hn co
theorem Zw9:Z3 .and (Q J n) (Q J 2)=O (Q J (if n.testBit 1 then 2 else 0)):=Zaj (j:=1) hn co
theorem ZAS:Z3 .and (Q J n) (Q J 4)=O (Q J (if n.testBit 2 then 4 else 0)):=Zaj (j:=2) hn co
theorem ZAT:Z3 .and (Q J n) (Q J 8)=O (Q J (if n.testBit 3 then 8 else 0)):=Zaj (j:=3) hn co
theorem ZAu:Z3 .and (Q J n) (Q J 16)=O (Q J (if n.testBit 4 then 16 else 0)):=Zaj (j:=4) hn co
end
theorem ZAy {f:c6->Hp->Z4}{a a' b b' c c' v:AV}{H H1:Hp}(ha:Zh [] 0 9 a=O a')(hb:Zh [] 0 9 b=O b')(h:Zh [] 0 9 c=O c')(g:f [a',b',c'] []=O (v,H1))(j:GJ 3 v=Y):Ze f [a,b,c] H=O (v,H) :=
 Xi (args':=[a',b',c']) (by simp[ha,hb,h]) g j
theorem Ij {f:c6->Hp->Z4}{a a' b b' c c' d d' v:AV}{H H1:Hp}(ha:Zh [] 0 9 a=O a')(hb:Zh [] 0 9 b=O b')(h:Zh [] 0 9 c=O c')(j:Zh [] 0 9 d=O d')(g:f [a',b',c',d'] []=O (v,H1))(u:GJ 3 v=Y):Ze f [a,b,c,d] H=O (v,H) :=
 Xi (args':=[a',b',c',d']) (by simp[ha,hb,h,j]) g u
theorem Gn (L:Loc)(x c e:AV)(r:List AObj):Z2 Y 6 (.ptr 0 0) (zA (L.cells x c e)::r)=O (.agg (L.cells x c e)):=by simp[Z2,Go.Am.apart,Loc.cells]
theorem iH {L:Loc}{x c e:AV}(hav:LocAV (.agg (L.cells x c e)) L)(hok:LocOk L){n:Nat}(hn:n<32)(s:cz)(j:N s<=1048576)(H0:Hp) :
 Co (.str s) (Q J n) (.ptr 0 0) H0 [zA (L.cells x c e)]=O (.str (let s2:=if n.testBit 4 then VR s else s
  if n.testBit 2 then upS L s2 else s2),[zA (L.cells x c e)]):=by
 have g:∀ t:cz,N t<=1048576->Tc (.str t) (Q J n) (.ptr 0 0) H0 [zA (L.cells x c e)]=O (.str (if n.testBit 2 then upS L t else t),[zA (L.cells x c e)]):=λt u=>by
  rw[Zh8]
  cases h:n.testBit 2 with
  |true=>simp only[go_sem,ZA4 hn,h,Gn,(ZiZ hav hok t u _).2,AG,if_true]
  |false=>simp only[go_sem,ZA4 hn,h,AG,zB,if_false]
 rw[Zh7]
 cases h:n.testBit 4 with
 |true =>
  have:=FT s;simp only[go_sem,Zym hn,h,Zss s j,g (VR s) X,if_true]
 |false=>simp only[go_sem,Zym hn,h,g s j,zB,if_false]
theorem ZsN {L:Loc}{x c e:AV}(hav:LocAV (.agg (L.cells x c e)) L)(hok:LocOk L){n:Nat}(hn:n<32)(H0:Hp):∀ (s:cz) (g:N s<=1048576),
 Td (.str s) (Q J n) (.ptr 0 0) H0 [zA (L.cells x c e)]=O (.str (Xy L n s),[zA (L.cells x c e)]):=by
 intro s
 induction s with
 |nil =>
  intro g;rw[AH];have j:Xm []=[]:=rfl
  cases h:n.testBit 3 with
  |true=>simp only[go_sem,ZrP hn,h,ZY,zC,show decide ((0:Int)<((0:Nat):Int))=I from rfl,iH hav hok hn [] g,Xy,if_true,j]
  |false=>simp only[go_sem,ZrP hn,h,iH hav hok hn [] g,Xy,zB,if_false]
 |cons b s y =>
  intro g;rw[AH];have u:decide ((0:Int)<((b::s).length:Int))=Y:=cn
  have j:Zz (.str (b::s)) (Q J 0)=O (.int .u8 b.toNat):=ZO (i:=0) rfl;have w:Y4 (.str (b::s)) (O (Q J 1)) U U=O (.str s):=Zg1 (s:=b::s) (i:=1) cn
  cases h:n.testBit 3 with
  |true =>
   simp only[go_sem,ZrP hn,h,ZY,u,j,Mk]
   cases hb:YG b with
   |true =>
    simp only[go_sem,Zh9,w,y (by simp at g;omega)];simp only[Xy,h,OH,hb,if_true]
   |false =>
    simp only[go_sem,iH hav hok hn (b::s) g,Xy,h,if_true,OH,hb,zB,if_false]
  |false=>simp only[go_sem,ZrP hn,h,iH hav hok hn (b::s) g,Xy,zB,if_false]
theorem ZiR {a:AV}{L:Loc}(h:LocAV a L)(hok:LocOk L){n:Nat}(hn:n<32)(s:cz)(w:N s<=1048576)(H:Hp):Ze NG [a,.str s,Q J n] H=O (.str (Xy L n s),H):=by
 obtain⟨y,u,j⟩:=h.close [] 0 5;have g:=j;obtain⟨x,c,e,rfl,B,z,A⟩:=j;refine ZAy u (b':=.str s) (c':=Q J n) rfl rfl (H1:=[zA (L.cells x c e)]) ?_ rfl;rw[Zjm];unfold Zdi;simp only[go_sem,zC,zD,ZsN g hok hn [] s w]
theorem ZkC {c:Int}(g:c=-1\/c=0\/c=1):yQ.wrap (0-c)=-c:=by rcases g with rfl|rfl|rfl <;> decide
theorem Zei {a:AV}{L:Loc}(h:LocAV a L)(hok:LocOk L){n:Nat}(hn:n<32)(s t:cz)(y:N s<=1048576)(z:N t<=1048576)(H:Hp):Ze NE [a,.str s,.str t,Q J n] H=O (Q J (WF L n s t),H):=by
 obtain⟨D,A,u⟩:=h.close [] 0 5;have g:=u;obtain⟨x,c,e,rfl,F,w,E⟩:=u;refine Ij A (b':=.str s) (c':=.str t) (d':=Q J n) rfl rfl rfl (H1:=[zA (L.cells x c e)]) ?_ rfl
 have j:∀ c:Int,c=-1\/c=0\/c=1->∀ H,Tb (Q J n) (Q J c) [] H=O (Q J (if n.testBit 1 then -c else c),H):=λc w H=>by
  rw[Zh4]
  cases h:n.testBit 1 with
  |true=>simp only[go_sem,Zx8 hn,h,cF,ZkC w,if_true]
  |false=>simp only[go_sem,Zx8 hn,h,Zh5,zB,if_false]
 have B:=II L n s;have C:=II L n t;rw[Zjk];unfold Zdg WF P5
 cases hb:n.testBit 0 with
 |true=>simp only[go_sem,zC,zD,ZA3 hn,hb,ZnX s t y z,j _ (ZfZ _ _),if_true]
 |false=>simp only[go_sem,zC,zD,ZA3 hn,hb,Gn,ZiR g hok hn s y,ZiR g hok hn t z,ZlA g hok (Xy L n s) (Xy L n t) X X,j _ (fB _ _ _),zB,if_false]
def Gs (z:AObj)(n:Nat)(x y:cz):Hp:=[z,.cells [Q J n],.cells [.str x],.cells [.str y]]
theorem Oz {z:AObj}{n:Nat}{x y:cz}{fnv:AV}{g:cz->cz}{m:Int}{h:Bool}(j:Z3 .and (Q J n) (Q J m)=O (Q J (if h then m else 0)))(A:(m != 0)=Y)
 (u:∀ s:cz,(s=x\/s=y)->∀ H,XG cfg (Zb cfg) fnv [.str s] H=O (.str (g s),H)) :
 BT [Q J m,fnv,.ptr 1 0,.ptr 2 0,.ptr 3 0] (Gs z n x y)=O (.tuple [],Gs z n (if h then g x else x) (if h then g y else y)):=by
 have w:Z2 I 1 (.ptr 1 0) (Gs z n x y)=O (Q J n):=ZT (l:=[Q J n]) rfl;have B:Z2 I 1 (.ptr 2 0) (Gs z n x y)=O (.str x):=ZT (l:=[.str x]) rfl;have C:Z2 I 1 (.ptr 3 0) (Gs z n x y)=O (.str y):=ZT (l:=[.str y]) rfl;have D:Zc 1 (.ptr 2 0) (.str (g x)) (Gs z n x y)=O (.tuple [],Gs z n (g x) y):=by simp[Zc,YI,Gs,zR,zP,splice]
 have E:Zc 1 (.ptr 3 0) (.str (g y)) (Gs z n (g x) y)=O (.tuple [],Gs z n (g x) (g y)):=by simp[Zc,YI,Gs,zR,zP,splice]
 rw[eF];unfold LX
 cases h with
 |true=>simp only[go_sem,w,j,if_true,A,B,u x (.inl rfl),C,u y (.inr rfl),D,E]
 |false=>simp only[go_sem,w,j,zB,if_false,bne_self_eq_false]
theorem Ziz {a:AV}{L:Loc}(h:LocAV a L)(hok:LocOk L){n:Nat}(hn:n<32)(s t:cz)(K:N s<=1048576)(ht:N t<=1048576)(H:Hp):Ze Q0 [a,Q J n,.str s,.str t] H=O (Q J (WF L n s t),H):=by
 obtain⟨a1,h1,h2⟩:=h.close [] 0 5;have C:=h2;obtain⟨x,c,e,rfl,hx,hc,he⟩:=h2;have E:LocCells (L.cells x c e) L:=⟨x,c,e,rfl,hx,hc,he⟩
 suffices K:∃ H1,Q0 [.agg (L.cells x c e),Q J n,.str s,.str t] []=O (Q J (WF L n s t),H1) by
  obtain⟨H1,w⟩:=K;exact Ij h1 (b':=Q J n) (c':=.str s) (d':=.str t) rfl rfl rfl w rfl
 have B:∀ z x y,Z2 I 1 (.ptr 1 0) (Gs z n x y)=O (Q J n):=λz x y=>ZT (l:=[Q J n]) rfl;have l2:∀ z x y,Z2 I 1 (.ptr 2 0) (Gs z n x y)=O (.str x):=λz x y=>ZT (l:=[.str x]) rfl;have l3:∀ z x y,Z2 I 1 (.ptr 3 0) (Gs z n x y)=O (.str y):=λz x y=>ZT (l:=[.str y]) rfl
 have D:∀ (z:Int) (j:z=1\/z=-1),∃ H1,R7 (.ptr 0 0) (.ptr 1 0) (.ptr 2 0) (.ptr 3 0) (Q J z) [] (Gs (.cells (L.cells x c e)) n s t)=O (Q J (if z=-1 then -Qx L (Xy L n s) (Xy L n t) else Qx L (Xy L n s) (Xy L n t)),H1):=λz j=>by
  have e1:=Oz (z:=.cells (L.cells x c e)) (n:=n) (x:=s) (y:=t) (fnv:=.fn (.func 107) [] []) (g:=Xm) (m:=8) (ZAT hn) rfl (λr _ H=>by rw[Zcl];exact ZvK r H);have d1:=fM s;have d2:=fM t
  have e2:=Oz (z:=.cells (L.cells x c e)) (n:=n) (x:=if n.testBit 3 then Xm s else s) (y:=if n.testBit 3 then Xm t else t) (fnv:=.fn (.func 109) [] []) (g:=VR) (m:=16) (ZAu hn) rfl (λr w H=>by
   rw[ZjD];refine ZtX r ?_ H;rcases w with rfl|rfl <;> split <;> omega)
  have e3:=Oz (z:=.dead) (n:=n) (x:=if n.testBit 4 then VR (if n.testBit 3 then Xm s else s) else (if n.testBit 3 then Xm s else s)) (y:=if n.testBit 4 then VR (if n.testBit 3 then Xm t else t) else (if n.testBit 3 then Xm t else t)) (fnv:=.fn (.func 110) [] [.vp (L.cells x c e)]) (g:=upS L) (m:=4) (ZAS hn) rfl (λr w H=>by
   rw[Zcm];refine Zug E hok r ?_ H;have:=FT s;have:=FT t;have:=FT (Xm s);have:=FT (Xm t);rcases w with rfl|rfl <;> split <;> split <;> omega)
  have aa:=II L n s;have ab:=II L n t;have F:∀ (R S:cz) (k:AV->Hp->Z4),Wy (.ptr 0 0) (Gs (.cells (L.cells x c e)) n R S) k=k (.vp (L.cells x c e)) (Gs .dead n R S):=λR S k=>rfl;refine⟨Gs .dead n (Xy L n s) (Xy L n t),?_⟩;rw[mY];simp only[go_sem,ZcO,zD,zE,e1,e2,F,e3,Vp 6 (L.cells x c e) rfl,l2,l3];have M:∀ r,(if n.testBit 2=Y then upS L (if n.testBit 4=Y then VR (if n.testBit 3=Y then Xm r else r) else if n.testBit 3=Y then Xm r else r) else if n.testBit 4=Y then VR (if n.testBit 3=Y then Xm r else r) else if n.testBit 3=Y then Xm r else r)=Xy L n r:=λr=>rfl;simp only[M,Zli C hok (Xy L n s) (Xy L n t) X X,go_sem,ZoC (fB _ _ _) j]
 have u:∀ (z:Int) (j:z=1\/z=-1),∃ H1,JW (.ptr 0 0) (.ptr 1 0) (.ptr 2 0) (.ptr 3 0) (Q J z) [] (Gs (.cells (L.cells x c e)) n s t)=O (Q J (if z=-1 then -P5 L n s t else P5 L n s t),H1):=λz j=>by
  rw[mX];unfold P5
  cases hb:n.testBit 0 with
  |true =>
   obtain⟨e1,p1⟩:=Zo3 s K (Gs (.cells (L.cells x c e)) n s t);obtain⟨e2,p2⟩:=Zo3 t ht (Gs (.cells (L.cells x c e)) n s t);refine⟨Gs (.cells (L.cells x c e)) n s t,?_⟩;simp only[go_sem,B,ZzK hn,hb,if_true,show ((1:Int) != 0)=Y from rfl,l2,l3,p1,p2,Zms,Zmt,Zvr,ZoC (ZfZ _ _) j]
  |false =>
   obtain⟨H1,q⟩:=D z j;refine⟨H1,?_⟩;simp only[go_sem,B,ZzK hn,hb,zB,if_false,bne_self_eq_false];exact q
 have T:∀ (k:Int) (H:Hp),ZF (Q J k) H=O (.ptr (N H) 0,H++[.cells [Q J k]]):=λk H=>GG rfl;have Z:∀ (k:cz) (H:Hp),ZF (.str k) H=O (.ptr (N H) 0,H++[.cells [.str k]]):=λk H=>GG rfl;rw[oD];unfold Aw;have A:[zA (L.cells x c e),.cells [Q J n],.cells [.str s],.cells [.str t]]=Gs (.cells (L.cells x c e)) n s t:=rfl;unfold WF
 cases hb:n.testBit 1 with
 |true =>
  obtain⟨H1,q⟩:=u (-1) (.inr rfl);refine⟨H1,?_⟩;simp only[go_sem,T,Z,zC,zG,zD,zE,zI,zN,A,B,Zw9 hn,hb,if_true,show ((2:Int) != 0)=Y from rfl];simpa using q
 |false =>
  obtain⟨H1,q⟩:=u 1 (.inl rfl);refine⟨H1,?_⟩;simp only[go_sem,T,Z,zC,zG,zD,zE,zI,zN,A,B,Zw9 hn,hb,zB,if_false,bne_self_eq_false];simpa using q
def plainP:Spec:=⟨[],-1,0,I,I⟩
def Zr (p:Spec):Spec:=if (ZP p != 0)=Y then plainP else p
theorem Sl.known {k:Nat}{x:AV}{l:c6}(h:Sl k x l):x.known=Y:=by
 rcases h with ⟨rfl,_⟩|⟨tok,rfl⟩ <;> rfl
theorem Zj6 {a:AV}{p:Spec}(h:SpecAV a p)(H:Hp):∃ a',Ze Vx [a] H=O (a',H)/\SpecAV a' (Zr p):=by
 obtain⟨F,B,C⟩:=h.close [] 0 5;have y:=λH=>EN C H;obtain⟨x,rfl,E⟩:=C;have D:Z2 Y 5 (.ptr 0 0) [zA (p.cells x),.cells [.nils,Q J 0,Q J 0,.bool I,.bool I]]=O (.agg (p.cells x)):=by simp[Z2,Go.Am.apart,Spec.cells]
 unfold Zr
 cases hb:(ZP p != 0) with
 |true =>
  have j:(Yq [(1,1,(Q J (-1)))] [.nils,(Q J 0),(Q J 0),(.bool I),(.bool I)]).map AV.agg=O (.agg (plainP.cells .nils)):=rfl;have w:Zc 5 (.ptr 1 0) (.agg (plainP.cells .nils)) [zA (p.cells x),.cells [.nils,Q J 0,Q J 0,.bool I,.bool I]]=O (.tuple [],[zA (p.cells x),.cells (plainP.cells .nils)]):=by simp[Zc,YI,zR,zP,Spec.cells,splice]
  have u:Z2 Y 5 (.ptr 1 0) [zA (p.cells x),.cells (plainP.cells .nils)]=O (.agg (plainP.cells .nils)):=by simp[Z2,Go.Am.apart,Spec.cells]
  have g:Vx [.agg (p.cells x)] []=O (.agg (plainP.cells .nils),[zA (p.cells x),.cells (plainP.cells .nils)]):=by
   rw[Mu];unfold RN;simp only[go_sem,zD,zC,zG,zE,zI,D,y,hb,j,w,u]
  obtain⟨a',z,A⟩:=SpecAV.close (a:=.agg (plainP.cells .nils)) (p:=plainP) ⟨.nils,rfl,.inl ⟨rfl,rfl⟩⟩ [zA (p.cells x),.cells (plainP.cells .nils)] 0 5;exact⟨a',Gl B g z,by simpa using A⟩
 |false =>
  have w:Zc 5 (.ptr 1 0) (.agg (p.cells x)) [zA (p.cells x),.cells [.nils,Q J 0,Q J 0,.bool I,.bool I]]=O (.tuple [],[zA (p.cells x),.cells (p.cells x)]):=by simp[Zc,YI,zR,zP,Spec.cells,splice]
  have u:Z2 Y 5 (.ptr 1 0) [zA (p.cells x),.cells (p.cells x)]=O (.agg (p.cells x)):=by simp[Z2,Go.Am.apart,Spec.cells]
  have g:Vx [.agg (p.cells x)] []=O (.agg (p.cells x),[zA (p.cells x),.cells (p.cells x)]):=by
   rw[Mu];unfold RN;simp only[go_sem,zD,zC,zG,zE,zI,D,y,hb,mZ,w,u]
  obtain⟨a',z,A⟩:=SpecAV.close (a:=.agg (p.cells x)) (p:=p) ⟨x,rfl,E⟩ [zA (p.cells x),.cells (p.cells x)] 0 5;exact⟨a',Gl B g z,by simpa using A⟩
theorem Zek {a:AV}{p:Spec}(h:SpecAV a p)(H:Hp):∃ a',Ze Kj [a] H=O (a',H)/\SpecAV a' (Zr p):=by
 obtain⟨F,B,C⟩:=h.close [] 0 5;have y:=λH=>Ml C H;obtain⟨x,rfl,E⟩:=C;have D:Z2 Y 5 (.ptr 0 0) [zA (p.cells x),.cells [.nils,Q J 0,Q J 0,.bool I,.bool I]]=O (.agg (p.cells x)):=by simp[Z2,Go.Am.apart,Spec.cells]
 unfold Zr
 cases hb:(ZP p != 0) with
 |true =>
  have j:(Yq [(1,1,(Q J (-1)))] [.nils,(Q J 0),(Q J 0),(.bool I),(.bool I)]).map AV.agg=O (.agg (plainP.cells .nils)):=rfl;have w:Zc 5 (.ptr 1 0) (.agg (plainP.cells .nils)) [zA (p.cells x),.cells [.nils,Q J 0,Q J 0,.bool I,.bool I]]=O (.tuple [],[zA (p.cells x),.cells (plainP.cells .nils)]):=by simp[Zc,YI,zR,zP,Spec.cells,splice]
  have u:Z2 Y 5 (.ptr 1 0) [zA (p.cells x),.cells (plainP.cells .nils)]=O (.agg (plainP.cells .nils)):=by simp[Z2,Go.Am.apart,Spec.cells]
  have g:Kj [.agg (p.cells x)] []=O (.agg (plainP.cells .nils),[zA (p.cells x),.cells (plainP.cells .nils)]):=by
   rw[aE];unfold O5;simp only[go_sem,zD,zC,zG,zE,zI,D,y,hb,j,w,u]
  obtain⟨a',z,A⟩:=SpecAV.close (a:=.agg (plainP.cells .nils)) (p:=plainP) ⟨.nils,rfl,.inl ⟨rfl,rfl⟩⟩ [zA (p.cells x),.cells (plainP.cells .nils)] 0 5;exact⟨a',Gl B g z,by simpa using A⟩
 |false =>
  have w:Zc 5 (.ptr 1 0) (.agg (p.cells x)) [zA (p.cells x),.cells [.nils,Q J 0,Q J 0,.bool I,.bool I]]=O (.tuple [],[zA (p.cells x),.cells (p.cells x)]):=by simp[Zc,YI,zR,zP,Spec.cells,splice]
  have u:Z2 Y 5 (.ptr 1 0) [zA (p.cells x),.cells (p.cells x)]=O (.agg (p.cells x)):=by simp[Z2,Go.Am.apart,Spec.cells]
  have g:Kj [.agg (p.cells x)] []=O (.agg (p.cells x),[zA (p.cells x),.cells (p.cells x)]):=by
   rw[aE];unfold O5;simp only[go_sem,zD,zC,zG,zE,zI,D,y,hb,Zha,w,u]
  obtain⟨a',z,A⟩:=SpecAV.close (a:=.agg (p.cells x)) (p:=p) ⟨x,rfl,E⟩ [zA (p.cells x),.cells (p.cells x)] 0 5;exact⟨a',Gl B g z,by simpa using A⟩
theorem IT (p:Spec):(0<=(Zr p).flags/\(Zr p).flags<=31)/\(Zr p).keys.length<=8/\∀ k∈(Zr p).keys,0<=k.fl/\k.fl<=31:=by
 unfold Zr
 cases hb:(ZP p != 0) with
 |true=>simp[plainP]
 |false =>
  rw[bne_eq_false_iff_eq]at hb;unfold ZP at hb;split at hb
  ·cases hb
  ·split at hb
   ·cases hb
   ·split at hb
    ·cases hb
    ·rename_i w g j;simp only[yB,decide_eq_true_eq,not_or]at g;simp only[zB,if_false];refine⟨X,X,λk hk=>?_⟩;have u:¬ K7 k=Y:=λh=>j (List.any_eq_true.2 ⟨k,hk,h⟩);simp only[K7,yB,decide_eq_true_eq,not_or]at u;omega
theorem Mm (p:Spec)(h:∀ k∈p.keys,KeOk k):∀ k∈(Zr p).keys,KeOk k:=by
 unfold Zr;split
 ·intro k hk;cases hk
 ·exact h
theorem ZhY (g:cz)(fs:List (Nat×Nat))(k:Ke):(ex g fs k).length<=N g:=by
 unfold ex;split
 ·dsimp only;split
  ·simp
  ·rw[zK,zL];omega
 ·simp
def Qb (p:Spec)(k:Ke):Nat:=if (k.fl==0)=Y then p.flags.toNat else k.fl.toNat
def Lh (L:Loc)(p:Spec)(a b:cz):List Ke->Int
 |[]=>0
 |k::l=>if (WF L (Qb p k) (ex a (fields a p.sep) k) (ex b (fields b p.sep) k) != 0)=Y then WF L (Qb p k) (ex a (fields a p.sep) k) (ex b (fields b p.sep) k) else Lh L p a b l
theorem Zao (L:Loc)(p:Spec)(a b:cz)(k:Ke)(l:List Ke):Lh L p a b (k::l)=if (WF L (Qb p k) (ex a (fields a p.sep) k) (ex b (fields b p.sep) k) != 0)=Y then WF L (Qb p k) (ex a (fields a p.sep) k) (ex b (fields b p.sep) k) else Lh L p a b l:=de
def Zc3 (L:Loc)(p:Spec)(a b:cz):Int:=if (N p.keys==0)=Y then WF L p.flags.toNat a b else Lh L p a b p.keys
def Yz (L:Loc)(p:Spec)(a b:cz):Int:=Zc3 L (Zr p) a b
def CSt (lc sc:c6)(g h:AV)(H:Hp):Prop:=(g=.vp lc/\h=.vp sc)\/(g=.ptr 0 0/\h=.ptr 1 0/\H=[.cells lc,.cells sc])
theorem CSt.frz {lc sc:c6}{y z:AV}{H:Hp}(h:CSt lc sc y z H)(w:c6):∃ A,∀ K:AV->AV->AV->Hp->Z4,
 (Wy y (H++[.cells w]) λz4 B=>Wy z B λz5 C=>Wy (.ptr (N H) 0) C λj g=>K z4 z5 j g)=K (.vp lc) (.vp sc) (.vp w) A:=by
 rcases h with ⟨rfl,rfl⟩|⟨rfl,rfl,rfl⟩
 ·refine⟨H++[.dead],λK=>?_⟩;have u:∀ (l:c6) (H:Hp) (k:AV->Hp->Z4),Wy (.vp l) H k=k (.vp l) H:=λl H k=>rfl;rw[u,u,ZfB]
 ·exact⟨[.dead,.dead,.dead],λK=>rfl⟩
theorem CSt.fld {lc:c6}{x:AV}{p:Spec}{j g:AV}{H:Hp}(h:CSt lc (p.cells x) j g H) :
 (∃ y,Z8 0 g=O y/\∀ r,Z2 I 1 y (H++r)=O x)/\(∃ y,Z8 2 g=O y/\∀ r,Z2 I 1 y (H++r)=O (Q J p.flags)):=by
 rcases h with ⟨rfl,rfl⟩|⟨rfl,rfl,rfl⟩
 ·exact⟨⟨.vp (p.cells x),rfl,λr=>by simp only[Spec.cells,Zu]⟩,⟨.vp [Q J p.flags,.bool p.uniq,.bool p.stab],rfl,λr=>by simp only[Zu]⟩⟩
 ·exact⟨⟨.ptr 1 0,rfl,λr=>ZT (l:=p.cells x) rfl⟩,⟨.ptr 1 2,rfl,λr=>ZT (l:=p.cells x) rfl⟩⟩
theorem vpf (x:AV)(p:Spec):Z8 1 (.vp (p.cells x))=O (.vp [Q J p.sep,Q J p.flags,.bool p.uniq,.bool p.stab]):=rfl
theorem kef (k:Ke):Z8 4 (.vp k.cells)=O (.vp [Q J k.fl]):=rfl
theorem Zhz (L:Loc)(x c e:AV):Xk Y 6 (.vp (L.cells x c e))=O (.agg (L.cells x c e)):=rfl
theorem ZkZ (k:Ke):Xk Y 5 (.vp k.cells)=O (.agg k.cells):=rfl
section
variable {L:Loc}{x c e:AV}(hav:LocAV (.agg (L.cells x c e)) L)(hok:LocOk L){p:Spec}{xk:AV}(hk:Sl 5 xk (p.keys.map Ke.av))(hlen:N p.keys<=8)
 (hks:∀ k∈p.keys,KeOk k) (hkf:∀ k∈p.keys,0<=k.fl/\k.fl<=31) (hfl:0<=p.flags/\p.flags<=31) (a b:cz) (ha:N a<=1048576) (hb:N b<=1048576)
include hav hok hk hlen hks hkf hfl ha hb
theorem Zwz:∀ (m i:Nat) (D E:AV) (H:Hp),N p.keys-i=m->i<=N p.keys->CSt (L.cells x c e) (p.cells xk) D E H ->
 ∃ H',Ql (.str a) (.str b) D E xk (Q J (N p.keys:Int)) (Q J (i:Int)) [] H=O (Q J (Lh L p a b (p.keys.drop i)),H'):=by
 intro m
 induction m with
 |zero =>
  intro i D E H hm hi A;have z:decide ((i:Int)<(N p.keys:Int))=I:=by simp;omega
  have hd:p.keys.drop i=[]:=zH.2 X;refine⟨H,?_⟩;rw[Rt];simp only[go_sem,z,dL,hd,Lh]
 |succ m ih =>
  intro i D E H hm hi A;have u:i<N p.keys:=X
  have z:decide ((i:Int)<(N p.keys:Int))=Y:=by simp;omega
  have hw:yQ.wrap ((i:Int)+1)=((i+1:Nat):Int):=by rw[Zo X X];omega
  have j:p.keys[i]∈p.keys:=yI u;have w:=hks _ j;have B:=hkf _ j;rw[yA u,Zao];have h:p.keys[i]?=O p.keys[i]:=zF u;generalize p.keys[i]=k at w B h;obtain⟨_,y,S,T⟩:=A.fld;obtain⟨H2,M⟩:=A.frz k.cells;obtain⟨H3,e1,_⟩:=ZaE ha w p.sep H2;obtain⟨F,e2,_⟩:=ZaE hb w p.sep H3;have l1:=ZhY a (fields a p.sep) k;have l2:=ZhY b (fields b p.sep) k;have hn:Qb p k<32:=by unfold Qb;split <;> omega
  have hp:=Ziz hav hok hn (ex a (fields a p.sep) k) (ex b (fields b p.sep) k) X X F
  have g:∃ H',Qk (.str a) (.str b) D E (.ptr (N H) 0) (Q J (Qb p k:Int)) xk (Q J (N p.keys:Int)) (Q J (i:Int)) [] (H++[.cells k.cells])=O (Q J (if (WF L (Qb p k) (ex a (fields a p.sep) k) (ex b (fields b p.sep) k) != 0)=Y then WF L (Qb p k) (ex a (fields a p.sep) k) (ex b (fields b p.sep) k) else Lh L p a b (p.keys.drop (i+1))),H'):=by
   rw[dO,M];simp only[Zhz,Rm,vpf,Zu,Tt,ZkZ,go_sem,e1,e2,hp]
   cases hc:(WF L (Qb p k) (ex a (fields a p.sep) k) (ex b (fields b p.sep) k) != 0) with
   |true=>exact⟨F,by simp only[go_sem,if_true]⟩
   |false =>
    obtain⟨H5,q⟩:=ih (i+1) (.vp (L.cells x c e)) (.vp (p.cells xk)) F X X (.inl ⟨rfl,rfl⟩);exact⟨H5,by simp only[go_sem,zB,if_false,dN,hw,q]⟩
  obtain⟨H',g⟩:=g;refine⟨H',?_⟩;have C:=Cz H k [Q J 0,Q J 0,Q J 0,Q J 0,Q J 0] rfl;have R:Z2 I 1 (.ptr (N H) (0+4)) (H++[.cells k.cells])=O (Q J k.fl):=ZK H k.cells 4;rw[Rt];simp only[go_sem,z,dM,hk.key h,Rm,C,R]
  cases Z:(k.fl==0) with
  |true =>
   have K:(p.flags:Int)=((Qb p k:Nat):Int):=by unfold Qb;rw[Z,if_pos rfl];omega
   simp only[go_sem,S,T,K];exact g
  |false =>
   have K:(k.fl:Int)=((Qb p k:Nat):Int):=by unfold Qb;rw[Z,if_neg co];omega
   simp only[go_sem];rw[K];exact g
theorem Zvd:∀ (m i:Nat) (x4 x5:AV) (H:Hp),N p.keys-i=m->i<=N p.keys->CSt (L.cells x c e) (p.cells xk) x4 x5 H ->
 ∃ H',GE (.str a) (.str b) x4 x5 (Q J (i:Int)) [] H=O (Q J (Lh L p a b (p.keys.drop i)),H'):=by
 intro m
 induction m with
 |zero =>
  intro i x4 x5 H hm hi w;have E:decide ((i:Int)<(N p.keys:Int))=I:=by simp;omega
  have hd:p.keys.drop i=[]:=zH.2 X;obtain⟨⟨y,F,g⟩,_⟩:=w.fld;have g:=g [];rw[zU]at g;have j:=hk.len 103;rw[zV]at j;refine⟨H,?_⟩;rw[E3];simp only[go_sem,F,g,j,E,ZcB,hd,Lh]
 |succ m ih =>
  intro i x4 x5 H hm hi w;have C:i<N p.keys:=X
  have E:decide ((i:Int)<(N p.keys:Int))=Y:=by simp;omega
  have hw:yQ.wrap ((i:Int)+1)=((i+1:Nat):Int):=by rw[Zo X X];omega
  have B:p.keys[i]∈p.keys:=yI C;have h:=hks _ B;have M:=hkf _ B;rw[yA C,Zao];have z:p.keys[i]?=O p.keys[i]:=zF C;generalize p.keys[i]=k at h M z;obtain⟨⟨y0,T,Z⟩,y,F,g⟩:=w.fld;have u:=Z [];rw[zU]at u;have j:=hk.len 103;rw[zV]at j;have hn:Qb p k<32:=by unfold Qb;split <;> omega
  have K:∀ k':Ke,k'={ k with fl:=(Qb p k:Nat) }->∃ H',GD (.str a) (.str b) x4 x5 (Q J (i:Int)) (.ptr (N H) 0) [] (H++[.cells k'.cells])=O (Q J (if (WF L (Qb p k) (ex a (fields a p.sep) k) (ex b (fields b p.sep) k) != 0)=Y then WF L (Qb p k) (ex a (fields a p.sep) k) (ex b (fields b p.sep) k) else Lh L p a b (p.keys.drop (i+1))),H'):=by
   intro k' D;have A:KeOk k':=by subst D;exact⟨h.ff,h.fc,h.tf,h.tc⟩
   have aa:∀ (l:cz) fs,ex l fs k'=ex l fs k:=λl fs=>by subst D;rfl
   obtain⟨H2,ab⟩:=w.frz k'.cells;obtain⟨H3,e1⟩:=kV ha A p.sep H2;obtain⟨H4,e2⟩:=kV hb A p.sep H3;rw[aa]at e1 e2;have l1:=ZhY a (fields a p.sep) k;have l2:=ZhY b (fields b p.sep) k;have hp:=Zei hav hok hn (ex a (fields a p.sep) k) (ex b (fields b p.sep) k) X X H4;have R:(k'.fl:Int)=((Qb p k:Nat):Int):=by subst D;rfl
   rw[ZcE,ab];simp only[Zhz,Rm,vpf,kef,Zu,Tt,ZkZ,go_sem,e1,e2,R,hp]
   cases hc:(WF L (Qb p k) (ex a (fields a p.sep) k) (ex b (fields b p.sep) k) != 0) with
   |true=>exact⟨H4,by simp only[go_sem,if_true]⟩
   |false =>
    obtain⟨H5,q⟩:=ih (i+1) (.vp (L.cells x c e)) (.vp (p.cells xk)) H4 X X (.inl ⟨rfl,rfl⟩);exact⟨H5,by simp only[go_sem,zB,if_false,ZcD,hw,q]⟩
  have S:=Cz H k [Q J 0,Q J 0,Q J 0,Q J 0,Q J 0] rfl;have ac:Z2 I 1 (.ptr (N H) (0+4)) (H++[.cells k.cells])=O (Q J k.fl):=ZK H k.cells 4;rw[E3];simp only[go_sem,T,u,j,E,ZcC,hk.key z,Rm,S,ac]
  cases h0:(k.fl==0) with
  |true =>
   have hf:(p.flags:Int)=((Qb p k:Nat):Int):=by unfold Qb;rw[h0,if_pos rfl];omega
   obtain⟨H',q⟩:=K _ rfl
   have ad:Zc 1 (.ptr (N H) (0+4)) (Q J (Qb p k:Nat)) (H++[.cells k.cells])=O (.tuple [],H++[.cells (Ke.cells { k with fl:=(Qb p k:Nat) })]):=by
    rw[YL (sz:=1) (v:=Q J (Qb p k:Nat)) (XP _ _) rfl rfl (by simp[Ke.cells])];simp[zP,splice,Ke.cells]
   refine⟨H',?_⟩;simp only[go_sem,F,g,hf,ad];exact q
  |false =>
   have hf:(k.fl:Int)=((Qb p k:Nat):Int):=by unfold Qb;rw[h0,if_neg co];omega
   obtain⟨H',q⟩:=K k (by cases k;simp only at hf ⊢;rw[<-hf]);refine⟨H',?_⟩;simp only[go_sem];exact q
end
theorem Zbn {a:AV}{L:Loc}(h:LocAV a L)(hok:LocOk L){q:AV}{p:Spec}(hq:SpecAV q p)(hks:∀ k∈p.keys,KeOk k)(s t:cz)(D:N s<=1048576)(Z:N t<=1048576)(H:Hp) :
 Ze WL [a,q,.str s,.str t] H=O (Q J (Yz L p s t),H):=by
 obtain⟨a1,h1,R⟩:=h.close [] 0 5;obtain⟨q1,g1,K⟩:=hq.close [] 0 5;have hav:=R;have hv:=λH=>Zj6 K H;obtain⟨x,c,e,rfl,hx,hc,he⟩:=R;obtain⟨xp,rfl,aa⟩:=K;obtain⟨v',B,j,rfl,C⟩:=hv [zA (L.cells x c e),.cells (p.cells xp)];obtain⟨hfl,hlen,hkf⟩:=IT p;have y:=Mm p hks
 suffices D:∃ H1,WL [.agg (L.cells x c e),.agg (p.cells xp),.str s,.str t] []=O (Q J (Yz L p s t),H1) by
  obtain⟨H1,hr⟩:=D;exact Ij h1 g1 (c':=.str s) (d':=.str t) rfl rfl hr rfl
 have S:Z2 Y 5 (.ptr 1 0) [zA (L.cells x c e),.cells (p.cells xp)]=O (.agg (p.cells xp)):=by simp[Z2,Go.Am.apart,Spec.cells]
 have A:Zc 5 (.ptr 1 0) (.agg ((Zr p).cells j)) [zA (L.cells x c e),.cells (p.cells xp)]=O (.tuple [],[zA (L.cells x c e),.cells ((Zr p).cells j)]):=by simp[Zc,YI,zR,zP,Spec.cells,splice]
 have w:Z2 I 1 (.ptr 1 (0+0)) [zA (L.cells x c e),.cells ((Zr p).cells j)]=O j:=ZT (l:=(Zr p).cells j) rfl;have E:Z2 I 1 (.ptr 1 (0+2)) [zA (L.cells x c e),.cells ((Zr p).cells j)]=O (Q J (Zr p).flags):=ZT (l:=(Zr p).cells j) rfl;have u:=C.len 103;rw[zV]at u;have z:=Gn L x c e [.cells ((Zr p).cells j)];have hn:(Zr p).flags.toNat<32:=X
 have F:((Zr p).flags:Int)=(((Zr p).flags.toNat:Nat):Int):=X
 have T:=Ziz hav hok hn s t D Z [zA (L.cells x c e),.cells ((Zr p).cells j)];rw[<-F]at T
 have g:(((Zr p).keys.length:Int)==0)=((Zr p).keys.length==0):=by
  rw[yJ,beq_iff_eq,beq_iff_eq];omega
 rw[eD];unfold LV Yz Zc3
 cases M:((Zr p).keys.length==0) with
 |true =>
  exact⟨[zA (L.cells x c e),.cells ((Zr p).cells j)],by simp only[go_sem,ZW,zD,zC,zG,zE,S,B,A,w,u,g,M,z,E,T,if_true,zI,zN]⟩
 |false =>
  obtain⟨H',r⟩:=Zwz hav hok C hlen y hkf hfl s t D Z _ 0 (.ptr 0 0) (.ptr 1 0) _ rfl (zY _) (.inr ⟨rfl,rfl,rfl⟩);rw[zX,show ((0:Nat):Int)=0 from rfl]at r;refine⟨H',?_⟩;simp only[go_sem,ZW,zD,zC,zG,zE,S,B,A,w,u,g,M,dK,r,zB,if_false,zI,zN]
theorem ZiI {a:AV}{L:Loc}(h:LocAV a L)(hok:LocOk L){q:AV}{p:Spec}(hq:SpecAV q p)(hks:∀ k∈p.keys,KeOk k)(s t:cz)(D:N s<=1048576)(Z:N t<=1048576)(H:Hp) :
 Ze K0 [a,q,.str s,.str t] H=O (Q J (Yz L p s t),H):=by
 obtain⟨a1,h1,R⟩:=h.close [] 0 5;obtain⟨q1,g1,K⟩:=hq.close [] 0 5;have hav:=R;have hv:=λH=>Zek K H;obtain⟨x,c,e,rfl,hx,hc,he⟩:=R;obtain⟨xp,rfl,aa⟩:=K;obtain⟨v',B,j,rfl,C⟩:=hv [zA (L.cells x c e),.cells (p.cells xp)];obtain⟨hfl,hlen,hkf⟩:=IT p;have y:=Mm p hks
 suffices D:∃ H1,K0 [.agg (L.cells x c e),.agg (p.cells xp),.str s,.str t] []=O (Q J (Yz L p s t),H1) by
  obtain⟨H1,hr⟩:=D;exact Ij h1 g1 (c':=.str s) (d':=.str t) rfl rfl hr rfl
 have S:Z2 Y 5 (.ptr 1 0) [zA (L.cells x c e),.cells (p.cells xp)]=O (.agg (p.cells xp)):=by simp[Z2,Go.Am.apart,Spec.cells]
 have A:Zc 5 (.ptr 1 0) (.agg ((Zr p).cells j)) [zA (L.cells x c e),.cells (p.cells xp)]=O (.tuple [],[zA (L.cells x c e),.cells ((Zr p).cells j)]):=by simp[Zc,YI,zR,zP,Spec.cells,splice]
 have w:Z2 I 1 (.ptr 1 (0+0)) [zA (L.cells x c e),.cells ((Zr p).cells j)]=O j:=ZT (l:=(Zr p).cells j) rfl;have E:Z2 I 1 (.ptr 1 (0+2)) [zA (L.cells x c e),.cells ((Zr p).cells j)]=O (Q J (Zr p).flags):=ZT (l:=(Zr p).cells j) rfl;have u:=C.len 103;rw[zV]at u;have z:=Gn L x c e [.cells ((Zr p).cells j)];have hn:(Zr p).flags.toNat<32:=X
 have F:((Zr p).flags:Int)=(((Zr p).flags.toNat:Nat):Int):=X
 have T:=Zei hav hok hn s t D Z [zA (L.cells x c e),.cells ((Zr p).cells j)];rw[<-F]at T
 have g:(((Zr p).keys.length:Int)==0)=((Zr p).keys.length==0):=by
  rw[yJ,beq_iff_eq,beq_iff_eq];omega
 rw[Zeu];unfold jD Yz Zc3
 cases M:((Zr p).keys.length==0) with
 |true =>
  exact⟨[zA (L.cells x c e),.cells ((Zr p).cells j)],by simp only[go_sem,ZW,zD,zC,zG,zE,S,B,A,w,u,g,M,z,E,T,if_true,zI,zN]⟩
 |false =>
  obtain⟨H',r⟩:=Zvd hav hok C hlen y hkf hfl s t D Z _ 0 (.ptr 0 0) (.ptr 1 0) _ rfl (zY _) (.inr ⟨rfl,rfl,rfl⟩);rw[zX,show ((0:Nat):Int)=0 from rfl]at r;refine⟨H',?_⟩;simp only[go_sem,ZW,zD,zC,zG,zE,S,B,A,w,u,g,M,ZcA,r,zB,if_false,zI,zN]
def ZI (L:Loc)(p:Spec)(s t:cz):Int :=
 if (Yz L (Zr p) s t != 0 || (Zr p).stab || (Zr p).uniq)=Y then Yz L (Zr p) s t else if (Zr p).flags.toNat.testBit 1 then -Qx L s t else Qx L s t
theorem ZnZ {a:AV}{L:Loc}(h:LocAV a L)(hok:LocOk L){q:AV}{p:Spec}(hq:SpecAV q p)(hks:∀ k∈p.keys,KeOk k)(s t:cz)(D:N s<=1048576)(ht:N t<=1048576)(H:Hp) :
 Ze UZ [a,q,.str s,.str t] H=O (Q J (ZI L p s t),H):=by
 obtain⟨a1,h1,h2⟩:=h.close [] 0 5;obtain⟨q1,g1,Z⟩:=hq.close [] 0 5;have hav:=h2;have hv:=λH=>Zj6 Z H;obtain⟨x,c,e,rfl,hx,hc,he⟩:=h2;obtain⟨xp,rfl,aa⟩:=Z;obtain⟨v',S,g,rfl,T⟩:=hv [zA (L.cells x c e),.cells (p.cells xp)];obtain⟨hfl,hlen,hkf⟩:=IT p;have B:=Mm p hks
 suffices D:∃ H1,UZ [.agg (L.cells x c e),.agg (p.cells xp),.str s,.str t] []=O (Q J (ZI L p s t),H1) by
  obtain⟨H1,hr⟩:=D;exact Ij h1 g1 (c':=.str s) (d':=.str t) rfl rfl hr rfl
 have hl:Z2 Y 5 (.ptr 1 0) [zA (L.cells x c e),.cells (p.cells xp)]=O (.agg (p.cells xp)):=by simp[Z2,Go.Am.apart,Spec.cells]
 have R:Zc 5 (.ptr 1 0) (.agg ((Zr p).cells g)) [zA (L.cells x c e),.cells (p.cells xp)]=O (.tuple [],[zA (L.cells x c e),.cells ((Zr p).cells g)]):=by simp[Zc,YI,zR,zP,Spec.cells,splice]
 have M:Z2 Y 5 (.ptr 1 0) [zA (L.cells x c e),.cells ((Zr p).cells g)]=O (.agg ((Zr p).cells g)):=by simp[Z2,Go.Am.apart,Spec.cells]
 have y:Z2 I 1 (.ptr 1 (0+2)) [zA (L.cells x c e),.cells ((Zr p).cells g)]=O (Q J (Zr p).flags):=ZT (l:=(Zr p).cells g) rfl;have A:Z2 I 1 (.ptr 1 (0+3)) [zA (L.cells x c e),.cells ((Zr p).cells g)]=O (.bool (Zr p).uniq):=ZT (l:=(Zr p).cells g) rfl;have F:Z2 I 1 (.ptr 1 (0+4)) [zA (L.cells x c e),.cells ((Zr p).cells g)]=O (.bool (Zr p).stab):=ZT (l:=(Zr p).cells g) rfl;have u:=Gn L x c e [.cells ((Zr p).cells g)];have hn:(Zr p).flags.toNat<32:=X
 have K:((Zr p).flags:Int)=(((Zr p).flags.toNat:Nat):Int):=X
 have z:=Zbn hav hok (q:=.agg ((Zr p).cells g)) ⟨g,rfl,T⟩ B s t D ht [zA (L.cells x c e),.cells ((Zr p).cells g)];have w:=Zli hav hok s t D ht [zA (L.cells x c e),.cells ((Zr p).cells g)];have C:=ZkC (fB L s t);have j:=Zw9 hn
 have E:R1 (.str s) (.str t) (.ptr 0 0) (.ptr 1 0) [] [zA (L.cells x c e),.cells ((Zr p).cells g)]=O (Q J (if (Zr p).flags.toNat.testBit 1 then -Qx L s t else Qx L s t),[zA (L.cells x c e),.cells ((Zr p).cells g)]):=by
  rw[mK];rw[K]at y
  cases hb:(Zr p).flags.toNat.testBit 1 with
  |true =>
   rw[hb]at j;simp only[go_sem,u,w,y,j,cF,C,if_true,show ((2:Int) != 0)=Y from rfl]
  |false =>
   rw[hb]at j;simp only[go_sem,u,w,y,j,mL,zB,if_false,bne_self_eq_false]
 refine⟨[zA (L.cells x c e),.cells ((Zr p).cells g)],?_⟩;rw[oA];unfold At ZI;simp only[go_sem,ZW,zD,zC,zG,zE,hl,S,R,u,M,z,zI,zN]
 cases h0:(Yz L (Zr p) s t != 0) with
 |true=>simp only[go_sem,zJ,if_true]
 |false =>
  simp only[go_sem,F,A]
  cases h4:(Zr p).stab with
  |true=>simp only[go_sem,zJ,zM,if_true]
  |false =>
   simp only[go_sem,A]
   cases h3:(Zr p).uniq with
   |true=>simp only[go_sem,zJ,zM,if_true]
   |false=>simp only[go_sem,E,zQ,zB,if_false]
theorem ZlD {a:AV}{L:Loc}(h:LocAV a L)(hok:LocOk L){q:AV}{p:Spec}(hq:SpecAV q p)(hks:∀ k∈p.keys,KeOk k)(s t:cz)(D:N s<=1048576)(ht:N t<=1048576)(H:Hp) :
 Ze Do [a,q,.str s,.str t] H=O (Q J (ZI L p s t),H):=by
 obtain⟨a1,h1,h2⟩:=h.close [] 0 5;obtain⟨q1,g1,Z⟩:=hq.close [] 0 5;have hav:=h2;have hv:=λH=>Zek Z H;obtain⟨x,c,e,rfl,hx,hc,he⟩:=h2;obtain⟨xp,rfl,aa⟩:=Z;obtain⟨v',S,g,rfl,T⟩:=hv [zA (L.cells x c e),.cells (p.cells xp)];obtain⟨hfl,hlen,hkf⟩:=IT p;have B:=Mm p hks
 suffices D:∃ H1,Do [.agg (L.cells x c e),.agg (p.cells xp),.str s,.str t] []=O (Q J (ZI L p s t),H1) by
  obtain⟨H1,hr⟩:=D;exact Ij h1 g1 (c':=.str s) (d':=.str t) rfl rfl hr rfl
 have hl:Z2 Y 5 (.ptr 1 0) [zA (L.cells x c e),.cells (p.cells xp)]=O (.agg (p.cells xp)):=by simp[Z2,Go.Am.apart,Spec.cells]
 have R:Zc 5 (.ptr 1 0) (.agg ((Zr p).cells g)) [zA (L.cells x c e),.cells (p.cells xp)]=O (.tuple [],[zA (L.cells x c e),.cells ((Zr p).cells g)]):=by simp[Zc,YI,zR,zP,Spec.cells,splice]
 have M:Z2 Y 5 (.ptr 1 0) [zA (L.cells x c e),.cells ((Zr p).cells g)]=O (.agg ((Zr p).cells g)):=by simp[Z2,Go.Am.apart,Spec.cells]
 have y:Z2 I 1 (.ptr 1 (0+2)) [zA (L.cells x c e),.cells ((Zr p).cells g)]=O (Q J (Zr p).flags):=ZT (l:=(Zr p).cells g) rfl;have A:Z2 I 1 (.ptr 1 (0+3)) [zA (L.cells x c e),.cells ((Zr p).cells g)]=O (.bool (Zr p).uniq):=ZT (l:=(Zr p).cells g) rfl;have F:Z2 I 1 (.ptr 1 (0+4)) [zA (L.cells x c e),.cells ((Zr p).cells g)]=O (.bool (Zr p).stab):=ZT (l:=(Zr p).cells g) rfl;have u:=Gn L x c e [.cells ((Zr p).cells g)];have hn:(Zr p).flags.toNat<32:=X
 have K:((Zr p).flags:Int)=(((Zr p).flags.toNat:Nat):Int):=X
 have z:=ZiI hav hok (q:=.agg ((Zr p).cells g)) ⟨g,rfl,T⟩ B s t D ht [zA (L.cells x c e),.cells ((Zr p).cells g)];have w:=ZlA hav hok s t D ht [zA (L.cells x c e),.cells ((Zr p).cells g)];have C:=ZkC (fB L s t);have j:=λH=>Zx8 hn H
 have E:Cl (.str s) (.str t) (.ptr 0 0) (.ptr 1 0) [] [zA (L.cells x c e),.cells ((Zr p).cells g)]=O (Q J (if (Zr p).flags.toNat.testBit 1 then -Qx L s t else Qx L s t),[zA (L.cells x c e),.cells ((Zr p).cells g)]):=by
  rw[Zh1];rw[K]at y
  cases hb:(Zr p).flags.toNat.testBit 1 with
  |true =>
   rw[hb]at j;simp only[go_sem,u,w,y,j,cF,C,if_true,show ((2:Int) != 0)=Y from rfl]
  |false =>
   rw[hb]at j;simp only[go_sem,u,w,y,j,Zh2,zB,if_false,bne_self_eq_false]
 refine⟨[zA (L.cells x c e),.cells ((Zr p).cells g)],?_⟩;rw[Zjh];unfold Zdd ZI;simp only[go_sem,ZW,zD,zC,zG,zE,hl,S,R,u,M,z,zI,zN]
 cases h0:(Yz L (Zr p) s t != 0) with
 |true=>simp only[go_sem,zJ,if_true]
 |false =>
  simp only[go_sem,F,A]
  cases h4:(Zr p).stab with
  |true=>simp only[go_sem,zJ,zM,if_true]
  |false =>
   simp only[go_sem,A]
   cases h3:(Zr p).uniq with
   |true=>simp only[go_sem,zJ,zM,if_true]
   |false=>simp only[go_sem,E,zQ,zB,if_false]
end Go.Am
