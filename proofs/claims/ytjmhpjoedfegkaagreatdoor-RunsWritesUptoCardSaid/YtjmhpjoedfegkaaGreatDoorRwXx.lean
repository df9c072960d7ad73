/- Prefix -/
import Derived.Test.YtjmhpjoedfegkaaGreatDoorRwEx
open Option renaming some->O,none->U
open Bool renaming true->Y,false->I
open List renaming length->N
open Go.dw renaming b5->X
open Go.Am.AV renaming int->Q
open Go.IntKind renaming i64->J
open Go.IntKind renaming i64->yQ
open List renaming length_nil->zC,nil_append->zD,cons_append->zE,getElem?_eq_getElem->zF,length_cons->zG,drop_eq_nil_iff->zH,length_drop->zK,length_take->zL,length_singleton->zO,length_append->zS,filter_cons->zT,append_nil->zU,length_map->zV,drop_take->zW,drop_zero->zX,drop_eq_getElem_cons->yA,singleton_append->yD,drop_succ_cons->yE,contains_cons->yF,append_assoc->yH,getElem_mem->yI,drop_drop->yK
open Nat renaming zero_add->zI,reduceAdd->zN,zero_le->zY,le_refl->yP
open Bool renaming false_eq_true->zB,true_or->zJ,or_true->zM,or_false->zQ,or_eq_true->yB,eq_iff_iff->yJ,false_and->yL,not_false->yM,true_and->yN,or_self->yO
open UInt8 renaming ofNat->zZ,ofNat_toNat->yG
open Go.Am.AObj renaming cells->zA,bld->yC
open Go.Am.AV renaming cells->zP,known->zR
namespace Go.Am
set_option maxRecDepth 100000
def HY (neg:Bool)(n:Nat)(w f:dr):Int :=
 if n=0/\f=[] then 0 else if neg then -(min 10000000000000 (Gl w f)) else min 10000000000000 (Gl w f)
def Aq (neg:Bool)(r:dr):Int :=
 match r.drop (Zn r) with
 |[]=>HY neg (Zn r) (r.take (Zn r)) []
 |b::q=>if (((b.toNat:Int)==46)&&(decide (0<Zn r) || decide (0<Zn q)))=Y then HY neg (Zn r) (r.take (Zn r)) (q.take (Zn q)) else HY neg (Zn r) (r.take (Zn r)) []
theorem Zns {neg:Bool}{r:dr}(h:r.drop (Zn r)=[]):Aq neg r=HY neg (Zn r) (r.take (Zn r)) []:=by unfold Aq;rw[h]
theorem ZkT {neg:Bool}{r:dr}{b:UInt8}{q:dr}(h:r.drop (Zn r)=b::q):Aq neg r=if (((b.toNat:Int)==46)&&(decide (0<Zn r) || decide (0<Zn q)))=Y then HY neg (Zn r) (r.take (Zn r)) (q.take (Zn q)) else HY neg (Zn r) (r.take (Zn r)) []:=by unfold Aq;rw[h]
theorem Zsh:∀ (l:dr) (d n:Int),0<=d->d<=1000000000->AY l d=O n->0<=n/\n<=1000000000:=by
 intro l
 induction l with
 |nil=>intro d n j u h;injection h with h;subst h;exact⟨j,u⟩
 |cons b l w =>
  intro d n j u h;rw[Zcq]at h;have:=XX b;split at h
  ·cases h
  ·exact w _ n X X h
theorem Zil {w f:dr}{n:Int}(h:bB w f=O n):0<=n/\n<=10000001000000:=by
 unfold bB at h;split at h
 ·cases h
 ·rename_i d j;injection h with h;have:=Zsh w 0 d X X j;have:=Zkt f;omega
theorem ZiQ (w f:dr):0<=Gl w f/\Gl w f<=10000000000001:=by
 unfold Gl;split
 ·omega
 ·rename_i n h;have:=Zil h;omega
theorem ZlS (x y:AV):ZK (.tuple [x,y]) 0=O x:=rfl
theorem ZlT (x y:AV):ZK (.tuple [x,y]) 1=O y:=rfl
theorem dU (n:Int):YU .neg (Q J n)=O (Q J (yQ.wrap (0-n))):=dy
theorem Zis (neg:Bool)(n:Nat)(w f:dr)(hw:N w<=1048576)(C:N f<=1048576)(e:Int)(y H:Hp) :
 ∃ A,WQ (.bool neg) (Q J (n:Int)) (.str w) (.str f) (Q J e) y H=O (.tuple [Q J (HY neg n w f),Q J A],H):=by
 have D:=ZiQ w f
 have j:WU (Q J 10000000000000) (Q J (Gl w f))=O (Q J (min 10000000000000 (Gl w f))):=by
  unfold WU;simp only[if_true];congr 2;split <;> omega
 have u:yQ.wrap (0-min 10000000000000 (Gl w f))=-(min 10000000000000 (Gl w f)):=by rw[Zl X X];omega
 have h:DC (.bool neg) (.str w) (.str f) (Q J e) y H=O (.tuple [Q J (if neg then -(min 10000000000000 (Gl w f)) else min 10000000000000 (Gl w f)),Q J e],H):=by
  rw[iD];simp only[go_sem,Zsk w f hw C,j]
  cases neg with
  |true=>simp only[go_sem,dU,u,Pc,if_true]
  |false=>simp only[go_sem,Pc,zB,if_false]
 have z:Y1 .eql (.str f) (.str [])=O (.bool (f==[])):=rfl;rw[iC];unfold HY
 cases n with
 |zero =>
  cases f with
  |nil=>exact⟨0,by simp[go_sem,Y1];rfl⟩
  |cons b f =>
   have z:Y1 .eql (.str (b::f)) (.str [])=O (.bool I):=rfl;refine⟨e,?_⟩;simp[go_sem,z,h]
 |succ n =>
  refine⟨e,?_⟩
  have B:(((n+1:Nat):Int)==0)=I:=by
   rw[beq_eq_false_iff_ne];omega
  simp only[go_sem,B,h];simp
theorem Zgf {s:dr}{i:Nat}(h:i<=N s):ZR (.str s) (O (Q J (i:Int))) U U=O (.str (s.drop i)):=by
 rw[P6 .i64 X X];simp
theorem Zir (s:dr)(hs:N s<=1048576)(neg:Bool){i:Nat}(hi:i<=N s)(K H:Hp) :
 ∃ e,J7 (.str s) (Q J (i:Int)) (.bool neg) K H=O (.tuple [Q J (Aq neg (s.drop i)),Q J e],H):=by
 have hr:(s.drop i).length=N s-i:=zK;have hn:=kI (s.drop i);have Z:yQ.wrap ((i:Int)+(Zn (s.drop i):Int))=((i+Zn (s.drop i):Nat):Int):=by rw[Zl X X];omega
 have T:(s.take (i+Zn (s.drop i))).drop i=(s.drop i).take (Zn (s.drop i)):=by rw[zW];congr 1;omega
 rw[iB];simp only[go_sem,Zgf hi,Zes _ (show (s.drop i).length<=1048576 by omega),Z,QO (show i<=i+Zn (s.drop i) by omega) (show i+Zn (s.drop i)<=N s by omega),T,Y0];have y:((s.drop i).take (Zn (s.drop i))).length<=1048576:=by rw[zL];omega
 by_cases P:i+Zn (s.drop i)<N s
 ·have R:decide (((i+Zn (s.drop i):Nat):Int)<(N s:Int))=Y:=by simp;omega
  have S:(s.drop i).drop (Zn (s.drop i))=s[i+Zn (s.drop i)]::s.drop (i+Zn (s.drop i)+1):=by
   rw[yK,YV P]
  have u:yQ.wrap (((i+Zn (s.drop i):Nat):Int)+1)=((i+Zn (s.drop i)+1:Nat):Int):=by rw[Zl X X];omega
  have hq:(s.drop (i+Zn (s.drop i)+1)).length=N s-(i+Zn (s.drop i)+1):=zK;have hk:=kI (s.drop (i+Zn (s.drop i)+1));rw[ZkT S];simp only[R,go_sem,ZG (zF P)]
  cases aa:((s[i+Zn (s.drop i)].toNat:Int)==46) with
  |false =>
   simp only[go_sem,yL,zB,if_false];exact Zis neg _ _ _ y dh _ K H
  |true =>
   have A:yQ.wrap (((i+Zn (s.drop i)+1:Nat):Int)+(Zn (s.drop (i+Zn (s.drop i)+1)):Int))=((i+Zn (s.drop i)+1+Zn (s.drop (i+Zn (s.drop i)+1)):Nat):Int):=by rw[Zl X X];omega
   have B:yQ.wrap ((1:Int)+(Zn (s.drop (i+Zn (s.drop i)+1)):Int))=((1+Zn (s.drop (i+Zn (s.drop i)+1)):Nat):Int):=by rw[Zl X X];omega
   have z:(s.take (i+Zn (s.drop i)+1+Zn (s.drop (i+Zn (s.drop i)+1)))).drop (i+Zn (s.drop i)+1)=(s.drop (i+Zn (s.drop i)+1)).take (Zn (s.drop (i+Zn (s.drop i)+1))):=by rw[zW];congr 1;omega
   have hfl:((s.drop (i+Zn (s.drop i)+1)).take (Zn (s.drop (i+Zn (s.drop i)+1)))).length<=1048576:=by rw[zL];omega
   have j:∀ n:Nat,decide ((0:Int)<(n:Int))=decide (0<n):=λn=>dh
   simp only[go_sem,u,Zgf (show i+Zn (s.drop i)+1<=N s by omega),Zes _ (show (s.drop (i+Zn (s.drop i)+1)).length<=1048576 by omega),j,yN]
   have h:∃ e,(Z0 (Z2 .add (Q J ((i+Zn (s.drop i):Nat):Int)) (Q J 1)) λC =>
    Z0 (Z2 .add (Q J ((i+Zn (s.drop i):Nat):Int)) (Q J 1)) λD =>
    Z0 (Z2 .add D (Q J (Zn (s.drop (i+Zn (s.drop i)+1)):Int))) λE =>
    Z0 (ZR (.str s) (O C) (O E) U) λF =>
    Z0 (Z2 .add (Q J 1) (Q J (Zn (s.drop (i+Zn (s.drop i)+1)):Int))) λG =>
    Z0 (Z2 .add (Q J ((i+Zn (s.drop i):Nat):Int)) G) λw =>
    WQ (.bool neg) (Q J (Zn (s.drop i):Int)) (.str ((s.drop i).take (Zn (s.drop i)))) F w K H)=O (.tuple [Q J (HY neg (Zn (s.drop i)) ((s.drop i).take (Zn (s.drop i))) ((s.drop (i+Zn (s.drop i)+1)).take (Zn (s.drop (i+Zn (s.drop i)+1))))),Q J e],H):=by
    simp only[go_sem,u,A,B,QO (show i+Zn (s.drop i)+1<=i+Zn (s.drop i)+1+Zn (s.drop (i+Zn (s.drop i)+1)) by omega) (show i+Zn (s.drop i)+1+Zn (s.drop (i+Zn (s.drop i)+1))<=N s by omega),z];exact Zis neg _ _ _ y hfl _ K H
   simp only[go_sem,u,A,B,QO (show i+Zn (s.drop i)+1<=i+Zn (s.drop i)+1+Zn (s.drop (i+Zn (s.drop i)+1)) by omega) (show i+Zn (s.drop i)+1+Zn (s.drop (i+Zn (s.drop i)+1))<=N s by omega),z]at h
   cases ab:decide (0<Zn (s.drop i)) with
   |true =>
    simp only[go_sem,zJ,if_true,u,A,B,QO (show i+Zn (s.drop i)+1<=i+Zn (s.drop i)+1+Zn (s.drop (i+Zn (s.drop i)+1)) by omega) (show i+Zn (s.drop i)+1+Zn (s.drop (i+Zn (s.drop i)+1))<=N s by omega),z];exact h
   |false =>
    cases M:decide (0<Zn (s.drop (i+Zn (s.drop i)+1))) with
    |true =>
     simp only[go_sem,j,M,zM,if_true,u,A,B,QO (show i+Zn (s.drop i)+1<=i+Zn (s.drop i)+1+Zn (s.drop (i+Zn (s.drop i)+1)) by omega) (show i+Zn (s.drop i)+1+Zn (s.drop (i+Zn (s.drop i)+1))<=N s by omega),z];exact h
    |false =>
     simp only[go_sem,j,M,zQ,zB,if_false];exact Zis neg _ _ _ y dh _ K H
 ·have R:decide (((i+Zn (s.drop i):Nat):Int)<(N s:Int))=I:=by simp;omega
  have S:(s.drop i).drop (Zn (s.drop i))=[]:=zH.2 X;rw[Zns S];simp only[R,go_sem];exact Zis neg _ _ _ y dh _ K H
def ZjZ:dr->Int
 |[]=>Aq I []
 |b::r=>if (((b.toNat:Int)==45) || ((b.toNat:Int)==43))=Y then Aq ((b.toNat:Int)==45) r else Aq ((b.toNat:Int)==45) (b::r)
theorem ZkS (b:UInt8)(r:dr):ZjZ (b::r)=if (((b.toNat:Int)==45) || ((b.toNat:Int)==43))=Y then Aq ((b.toNat:Int)==45) r else Aq ((b.toNat:Int)==45) (b::r):=dy
def Ap (s:dr):Int:=ZjZ (s.drop (Yw s))
theorem Zuq (s:dr)(z:N s<=1048576){i:Nat}(hi:i<=N s)(w H:Hp) :
 ∃ e,DB (.str s) (Q J (i:Int)) w H=O (.tuple [Q J (ZjZ (s.drop i)),Q J e],H):=by
 rw[iA];by_cases j:i<N s
 ·have u:decide ((i:Int)<(N s:Int))=Y:=by simp;omega
  have y:yQ.wrap ((i:Int)+1)=((i+1:Nat):Int):=by rw[Zl X X];omega
  have h:=ZG (zF j);rw[YV j];simp only[Y0,go_sem,u,h,ZkS]
  cases C:((s[i].toNat:Int)==45) with
  |true =>
   simp only[go_sem,u,h,y,zJ,if_true];exact Zir s z Y X w H
  |false =>
   simp only[go_sem,Y0,u,h]
   cases B:((s[i].toNat:Int)==43) with
   |true =>
    simp only[go_sem,u,h,y,zM,if_true];exact Zir s z I X w H
   |false =>
    simp only[go_sem,zQ,yO,zB,if_false];rw[<-YV j];exact Zir s z I X w H
 ·have u:decide ((i:Int)<(N s:Int))=I:=by simp;omega
  have A:s.drop i=[]:=zH.2 X;simp only[Y0,go_sem,u,A];have:=Zir s z I hi w H;rw[A]at this;exact this
theorem ZA7 (s:dr)(F:N s<=1048576)(C H:Hp):∀ (k i:Nat),N s-i=k->i<=N s ->
 ∃ e,J8 (.str s) (Q J (i:Int)) C H=O (.tuple [Q J (ZjZ ((s.drop i).drop (Yw (s.drop i)))),Q J e],H):=by
 intro k
 induction k with
 |zero =>
  intro i hk hi;have w:decide ((i:Int)<(N s:Int))=I:=by simp;omega
  have G:s.drop i=[]:=zH.2 X;rw[Pe];simp only[Y0,go_sem,w];have:=Zuq s F hi C H;rw[G]at this ⊢;exact this
 |succ k K =>
  intro i hk hi;have D:i<N s:=X
  have w:decide ((i:Int)<(N s:Int))=Y:=by simp;omega
  have A:yQ.wrap ((i:Int)+1)=((i+1:Nat):Int):=by rw[Zl X X];omega
  have z:=ZG (zF D);have B:=K (i+1) X X
  have j:YC s[i]=Y->(s.drop i).drop (Yw (s.drop i))=(s.drop (i+1)).drop (Yw (s.drop (i+1))):=λh=>by
   rw[YV D,WK,h,if_pos rfl,yE]
  have y:YC s[i]=I->(s.drop i).drop (Yw (s.drop i))=s.drop i:=λh=>by
   rw[YV D,WK,h];simp
  have hb:YC s[i]=(((s[i].toNat:Int)==32) || ((s[i].toNat:Int)==9)):=by
   rw[YC,(JN s[i]).1,(JN s[i]).2]
  rw[Pe];simp only[Y0,go_sem,w,z]
  cases u:((s[i].toNat:Int)==32) with
  |true =>
   simp only[go_sem,Pd,A];rw[j (by rw[hb,u];rfl)];exact B
  |false =>
   simp only[go_sem,z]
   cases E:((s[i].toNat:Int)==9) with
   |true =>
    simp only[go_sem,Pd,A];rw[j (by rw[hb,u,E];rfl)];exact B
   |false =>
    simp only[go_sem];rw[y (by rw[hb,u,E];rfl)];exact Zuq s F hi C H
theorem Znt (s:dr)(j:N s<=1048576)(H:Hp):∃ e,Ze JR [.str s] H=O (.tuple [Q J (Ap s),Q J e],H):=by
 obtain⟨e,h⟩:=ZA7 s j [] [] _ 0 rfl (zY _);rw[show ((0:Nat):Int)=0 from rfl,zX]at h;refine⟨e,YG (a':=.str s) (H1:=[]) rfl ?_ rfl⟩;rw[nT];exact h
theorem ZcO (s:dr)(hs:N s<=1048576)(neg:Bool){i n:Nat}(hn:i+n<=N s)(f:dr)(Z:N f<=1048576)(e:Int)(P:e=(i:Int)↔n=0/\f=[])(B H:Hp) :
 ∃ R,KR (.str s) (Q J (i:Int)) (.bool neg) (Q J ((i+n:Nat):Int)) (Q J e) (.str f) B H=O (.tuple [Q J (HY neg n ((s.drop i).take n) f),Q J R],H):=by
 have G:(s.take (i+n)).drop i=(s.drop i).take n:=by rw[zW];congr 1;omega
 have K:((s.drop i).take n).length<=1048576:=by rw[zL,zK];omega
 have hv:=ZiQ ((s.drop i).take n) f;have z:∀ m:Int,0<=m->m<=10000000000000->yQ.wrap (0-m)=-m:=λm M C=>by rw[Zl X X];omega
 have j:∀ m:Int,0<=m->m<=10000000000000->FF (.bool neg) (Q J e) (Q J m) B H=O (.tuple [Q J (if neg then -m else m),Q J e],H):=λm M C=>by
  rw[Zfa]
  cases neg with
  |true=>simp only[go_sem,dU,z m M C,CQ,if_true]
  |false=>simp only[go_sem,CQ,zB,if_false]
 have y:∀ w:dr,N w<=1048576->fr 4 w 0=fr 4 f 0->FE (.str s) (Q J (i:Int)) (.bool neg) (Q J ((i+n:Nat):Int)) (Q J e) (.str w) B H=O (.tuple [Q J (if neg then -(min 10000000000000 (Gl ((s.drop i).take n) f)) else min 10000000000000 (Gl ((s.drop i).take n) f)),Q J e],H):=λw C S=>by
  have A:bB ((s.drop i).take n) w=bB ((s.drop i).take n) f:=by unfold bB;rw[S]
  rw[Zf9];simp only[go_sem,QO (show i<=i+n by omega) hn,G,ZnM _ w K C,A];unfold Gl
  cases T:bB ((s.drop i).take n) f with
  |none =>
   simp only[go_sem,ZlS,ZlT,yM];exact j _ X X
  |some m =>
   have hm:=Zil T;simp only[go_sem,ZlS,ZlT];by_cases u:m<=10000000000000
   ·simp only[decide_eq_true u,Bool.not_true,go_sem];rw[j m hm.1 u,show min 10000000000000 (min 10000000000001 m)=m by omega]
   ·simp only[decide_eq_false u,yM,go_sem];rw[j _ X X,show min 10000000000000 (min 10000000000001 m)=(10000000000000:Int) by omega]
 have E:LD (.str s) (Q J (i:Int)) (.bool neg) (Q J ((i+n:Nat):Int)) (Q J e) (.str f) B H=O (.tuple [Q J (if neg then -(min 10000000000000 (Gl ((s.drop i).take n) f)) else min 10000000000000 (Gl ((s.drop i).take n) f)),Q J e],H):=by
  rw[Zf8];simp only[go_sem,Y0];by_cases h4:4<N f
  ·have c:decide ((4:Int)<(N f:Int))=Y:=by simp;omega
   have F:ZR (.str f) U (O (Q J 4)) U=O (.str (f.take 4)):=BG .i64 X X;simp only[c,go_sem,F];exact y _ (by rw[zL];omega) (ZwA f)
  ·have c:decide ((4:Int)<(N f:Int))=I:=by simp;omega
   simp only[c,go_sem];exact y _ Z rfl
 rw[Zf7];unfold HY;by_cases D:e=(i:Int)
 ·have c:(e==(i:Int))=Y:=by rw[beq_iff_eq];exact D
  refine⟨0,?_⟩;simp only[go_sem,c,if_pos (P.1 D)]
 ·have c:(e==(i:Int))=I:=by rw[beq_eq_false_iff_ne];exact D
  refine⟨e,?_⟩;simp only[go_sem,c,if_neg (λh=>D (P.2 h)),E]
theorem ZcN (s:dr)(A:N s<=1048576)(neg:Bool){i:Nat}(hi:i<=N s)(B H:Hp) :
 ∃ e,FC (.str s) (Q J (i:Int)) (.bool neg) B H=O (.tuple [Q J (Aq neg (s.drop i)),Q J e],H):=by
 have Z:(s.drop i).length=N s-i:=zK;have hn:=kI (s.drop i);have j:((i+Zn (s.drop i):Nat):Int)=(i:Int)↔Zn (s.drop i)=0/\([]:dr)=[]:=⟨λh=>⟨X,rfl⟩,λh=>X⟩;rw[Zf6];simp only[go_sem,Zca s A hi,Y0];by_cases C:i+Zn (s.drop i)<N s
 ·have F:decide (((i+Zn (s.drop i):Nat):Int)<(N s:Int))=Y:=by simp;omega
  have G:(s.drop i).drop (Zn (s.drop i))=s[i+Zn (s.drop i)]::s.drop (i+Zn (s.drop i)+1):=by
   rw[yK,YV C]
  have w:yQ.wrap (((i+Zn (s.drop i):Nat):Int)+1)=((i+Zn (s.drop i)+1:Nat):Int):=by rw[Zl X X];omega
  have T:(s.drop (i+Zn (s.drop i)+1)).length=N s-(i+Zn (s.drop i)+1):=zK;have hk:=kI (s.drop (i+Zn (s.drop i)+1));rw[ZkT G];simp only[F,go_sem,ZG (zF C)]
  cases S:((s[i+Zn (s.drop i)].toNat:Int)==46) with
  |false =>
   simp only[go_sem,yL,zB,if_false];exact ZcO s A neg X [] dh _ j B H
  |true =>
   have R:(s.take (i+Zn (s.drop i)+1+Zn (s.drop (i+Zn (s.drop i)+1)))).drop (i+Zn (s.drop i)+1)=(s.drop (i+Zn (s.drop i)+1)).take (Zn (s.drop (i+Zn (s.drop i)+1))):=by rw[zW];congr 1;omega
   have hfl:((s.drop (i+Zn (s.drop i)+1)).take (Zn (s.drop (i+Zn (s.drop i)+1)))).length<=1048576:=by rw[zL];omega
   have P:decide ((i:Int)<((i+Zn (s.drop i):Nat):Int))=decide (0<Zn (s.drop i)):=by
    rw[decide_eq_decide];omega
   have D:decide (((i+Zn (s.drop i)+1:Nat):Int)<((i+Zn (s.drop i)+1+Zn (s.drop (i+Zn (s.drop i)+1)):Nat):Int))=decide (0<Zn (s.drop (i+Zn (s.drop i)+1))):=by
    rw[decide_eq_decide];omega
   have z:=QO (s:=s) (show i+Zn (s.drop i)+1<=i+Zn (s.drop i)+1+Zn (s.drop (i+Zn (s.drop i)+1)) by omega) (show i+Zn (s.drop i)+1+Zn (s.drop (i+Zn (s.drop i)+1))<=N s by omega);rw[R]at z;have u:=λE=>ZcO s A neg (i:=i) (n:=Zn (s.drop i)) X ((s.drop (i+Zn (s.drop i)+1)).take (Zn (s.drop (i+Zn (s.drop i)+1)))) hfl ((i+Zn (s.drop i)+1+Zn (s.drop (i+Zn (s.drop i)+1)):Nat):Int) E B H
   have E:(decide (0<Zn (s.drop i)) || decide (0<Zn (s.drop (i+Zn (s.drop i)+1))))=Y->(((i+Zn (s.drop i)+1+Zn (s.drop (i+Zn (s.drop i)+1)):Nat):Int)=(i:Int)↔Zn (s.drop i)=0/\(s.drop (i+Zn (s.drop i)+1)).take (Zn (s.drop (i+Zn (s.drop i)+1)))=[]):=λM=>by
    rw[yB,decide_eq_true_eq,decide_eq_true_eq]at M;constructor
    ·intro h;omega
    ·rintro⟨h1,h2⟩
     have:=congrArg List.length h2;rw[zL,zC]at this;omega
   simp only[go_sem,w,Zca s A (show i+Zn (s.drop i)+1<=N s by omega),P,yN]
   cases K:decide (0<Zn (s.drop i)) with
   |true =>
    simp only[go_sem,zJ,if_true,w,z];exact u (E (by rw[K];rfl))
   |false =>
    cases y:decide (0<Zn (s.drop (i+Zn (s.drop i)+1))) with
    |true =>
     simp only[go_sem,w,D,y,zM,if_true,z];exact u (E (by rw[y,zM]))
    |false =>
     simp only[go_sem,w,D,y,zQ,zB,if_false];exact ZcO s A neg X [] dh _ j B H
 ·have F:decide (((i+Zn (s.drop i):Nat):Int)<(N s:Int))=I:=by simp;omega
  have G:(s.drop i).drop (Zn (s.drop i))=[]:=zH.2 X;rw[Zns G];simp only[F,go_sem];exact ZcO s A neg X [] dh _ j B H
theorem ZpK (s:dr)(z:N s<=1048576){i:Nat}(hi:i<=N s)(w H:Hp) :
 ∃ e,LC (.str s) (Q J (i:Int)) w H=O (.tuple [Q J (ZjZ (s.drop i)),Q J e],H):=by
 rw[Zf5];by_cases j:i<N s
 ·have u:decide ((i:Int)<(N s:Int))=Y:=by simp;omega
  have y:yQ.wrap ((i:Int)+1)=((i+1:Nat):Int):=by rw[Zl X X];omega
  have h:=ZG (zF j);rw[YV j];simp only[Y0,go_sem,u,h,ZkS]
  cases C:((s[i].toNat:Int)==45) with
  |true =>
   simp only[go_sem,u,h,y,zJ,if_true];exact ZcN s z Y X w H
  |false =>
   simp only[go_sem,Y0,u,h]
   cases B:((s[i].toNat:Int)==43) with
   |true =>
    simp only[go_sem,u,h,y,zM,if_true];exact ZcN s z I X w H
   |false =>
    simp only[go_sem,zQ,yO,zB,if_false];rw[<-YV j];exact ZcN s z I X w H
 ·have u:decide ((i:Int)<(N s:Int))=I:=by simp;omega
  have A:s.drop i=[]:=zH.2 X;simp only[Y0,go_sem,u,A];have:=ZcN s z I hi w H;rw[A]at this;exact this
theorem Zze (s:dr)(F:N s<=1048576)(C H:Hp):∀ (k i:Nat),N s-i=k->i<=N s ->
 ∃ e,FG (.str s) (Q J (i:Int)) C H=O (.tuple [Q J (ZjZ ((s.drop i).drop (Yw (s.drop i)))),Q J e],H):=by
 intro k
 induction k with
 |zero =>
  intro i hk hi;have w:decide ((i:Int)<(N s:Int))=I:=by simp;omega
  have G:s.drop i=[]:=zH.2 X;rw[CS];simp only[Y0,go_sem,w];have:=ZpK s F hi C H;rw[G]at this ⊢;exact this
 |succ k K =>
  intro i hk hi;have D:i<N s:=X
  have w:decide ((i:Int)<(N s:Int))=Y:=by simp;omega
  have A:yQ.wrap ((i:Int)+1)=((i+1:Nat):Int):=by rw[Zl X X];omega
  have z:=ZG (zF D);have B:=K (i+1) X X
  have j:YC s[i]=Y->(s.drop i).drop (Yw (s.drop i))=(s.drop (i+1)).drop (Yw (s.drop (i+1))):=λh=>by
   rw[YV D,WK,h,if_pos rfl,yE]
  have y:YC s[i]=I->(s.drop i).drop (Yw (s.drop i))=s.drop i:=λh=>by
   rw[YV D,WK,h];simp
  have hb:YC s[i]=(((s[i].toNat:Int)==32) || ((s[i].toNat:Int)==9)):=by
   rw[YC,(JN s[i]).1,(JN s[i]).2]
  rw[CS];simp only[Y0,go_sem,w,z]
  cases u:((s[i].toNat:Int)==32) with
  |true =>
   simp only[go_sem,CR,A];rw[j (by rw[hb,u];rfl)];exact B
  |false =>
   simp only[go_sem,z]
   cases E:((s[i].toNat:Int)==9) with
   |true =>
    simp only[go_sem,CR,A];rw[j (by rw[hb,u,E];rfl)];exact B
   |false =>
    simp only[go_sem];rw[y (by rw[hb,u,E];rfl)];exact ZpK s F hi C H
theorem ZkX (s:dr)(j:N s<=1048576)(H:Hp):∃ e,Ze T8 [.str s] H=O (.tuple [Q J (Ap s),Q J e],H):=by
 obtain⟨e,h⟩:=Zze s j [] [] _ 0 rfl (zY _);rw[show ((0:Nat):Int)=0 from rfl,zX]at h;refine⟨e,YG (a':=.str s) (H1:=[]) rfl ?_ rfl⟩;rw[Zgm];exact h
def E7 (a b:Int):Int:=if a<b then -1 else if b<a then 1 else 0
theorem Zv0 (a b:Int)(H:Hp):Ze Nz [Q J a,Q J b] H=O (Q J (E7 a b),H):=by
 refine Xn (a':=Q J a) (b':=Q J b) (H1:=[]) rfl rfl ?_ rfl;rw[ZcY];unfold cB E7;by_cases h:a<b
 ·simp only[go_sem,decide_eq_true h,if_pos h]
 ·by_cases j:b<a
  ·simp only[go_sem,decide_eq_false h,if_neg h,decide_eq_true j,if_pos j]
  ·simp only[go_sem,decide_eq_false h,if_neg h,decide_eq_false j,if_neg j,Zcl]
theorem Znp (s t:dr)(w:N s<=1048576)(y:N t<=1048576)(H:Hp):Ze Lv [.str s,.str t] H=O (Q J (E7 (Ap s) (Ap t)),H):=by
 refine Xn (a':=.str s) (b':=.str t) (H1:=[]) rfl rfl ?_ rfl;obtain⟨z,u⟩:=ZkX s w [];obtain⟨A,j⟩:=ZkX t y [];rw[ZeU];unfold lI E7;simp only[go_sem,u,j,ZlS,ZlT];by_cases h:Ap s<Ap t
 ·simp only[go_sem,decide_eq_true h,if_pos h]
 ·by_cases j:Ap t<Ap s
  ·simp only[go_sem,decide_eq_false h,if_neg h,decide_eq_true j,if_pos j,EX]
  ·simp only[go_sem,decide_eq_false h,if_neg h,decide_eq_false j,if_neg j,EX,Zdo]
def iF (b:UInt8):Bool:=YC b || ZtW b.toNat || Mv b.toNat
def VW (s:dr):dr:=s.filter iF
theorem Ztc:((List.range 256).all λn=>(F4 (ZlX (.bool (YC (zZ n))) (.int .u8 (n:Int)))==O (iF (zZ n)))&&(F4 (Ziv (.bool (YC (zZ n))) (.int .u8 (n:Int)))==O (iF (zZ n))))=Y:=dz
theorem ZmK (b:UInt8):ZlX (.bool (YC b)) (.int .u8 b.toNat)=O (.bool (iF b))/\Ziv (.bool (YC b)) (.int .u8 b.toNat)=O (.bool (iF b)):=by
 have:=W2 Ztc (Oy b);rw[yG,Bool.and_eq_true,beq_iff_eq,beq_iff_eq]at this;exact⟨Ud this.1,Ud this.2⟩
theorem ZvW (j:dr)(b:UInt8)(h:N j<=1048576):byteE.run [.ptr 0 0,.int .u8 b.toNat] [yC 133 5 j]=O (.nili,[yC 133 5 (j++[b])]):=by
 have hb:=b.toNat_lt;have w:N j+1<=Zg5:=by unfold Zg5;omega
 have u:ZhG [.int .u8 b.toNat]=O λl=>if N l+1<=Zg5 then O (.nili,l++[zZ (b.toNat:Int).toNat]) else U:=by
  simp only[ZhG,if_pos (show (0:Int)<=(b.toNat:Int)/\(b.toNat:Int)<256 by omega)]
 simp only[byteE,ZxY,ZjI,HM,u,List.getElem?_cons_zero,ZfM,NK,NL,and_self,if_true,if_pos w,List.set_cons_zero,Int.toNat_natCast,yG]
theorem ZiK (h:dr):stringE.run [.ptr 0 0] [yC 133 5 h]=O (.str h,[yC 133 5 h]):=rfl
theorem Zte (s:dr)(B:N s<=1048576)(A:Hp):∀ (r done:dr) (j:dr),s=done++r->N j<=N done ->
 ∃ H',GE (.str s) (.ptr 0 0) (Q J (N s:Int)) (Q J (N done:Int)) A [yC 133 5 j]=O (.str (j++VW r),H'):=by
 intro r
 induction r with
 |nil =>
  intro done j u ha;rw[zU]at u;subst u;have w:decide ((N s:Int)<(N s:Int))=I:=dh
  refine⟨[yC 133 5 j],?_⟩;rw[Lt];simp only[go_sem,w,Zcj,ZiK];simp[VW]
 |cons b r z =>
  intro done j u ha;have hlen:N s=N done+(N r+1):=by rw[u];simp
  have w:decide ((N done:Int)<(N s:Int))=Y:=by simp;omega
  have y:yQ.wrap ((N done:Int)+1)=((N done+1:Nat):Int):=by rw[Zl X X];omega
  rw[Lt];simp only[go_sem,w,kJ,NO u,hE,(ZmK b).1]
  cases hb:iF b with
  |true =>
   obtain⟨H',h⟩:=z (done++[b]) (j++[b]) (by rw[u];simp) (by simp;omega);rw[zS,zO]at h;refine⟨H',?_⟩;simp only[go_sem,ZvW j b X,Ls,y,h,VW,zT,hb,if_true,yH,yD]
  |false =>
   obtain⟨H',h⟩:=z (done++[b]) j (by rw[u];simp) (by simp;omega);rw[zS,zO]at h;refine⟨H',?_⟩;simp only[go_sem,Ls,y,h,VW,zT,hb,zB,if_false]
theorem Ztd (s:dr)(j:N s<=1048576)(H:Hp):Ze Ny [.str s] H=O (.str (VW s),H):=by
 obtain⟨H',h⟩:=Zte s j [] s [] [] rfl (yP _);rw[zC,show ((0:Nat):Int)=0 from rfl,zD]at h;refine YG (a':=.str s) (H1:=H') rfl ?_ rfl;rw[ZcX];unfold cA;simp only[go_sem,zC,zD,h]
theorem ZrD (s:dr)(F:N s<=1048576)(B:Hp):∀ (r done:dr) (j:dr) (x:AV) (H:Hp),s=done++r->N j<=N done->RowN 0 H 1 x (j.map UW) ->
 ∃ H',Ml (.str s) x (Q J (N done:Int)) B H=O (.str (j++VW r),H'):=by
 intro r
 induction r with
 |nil =>
  intro done j x H u ha z;rw[zU]at u;subst u;have w:decide ((N s:Int)<(N s:Int))=I:=dh
  refine⟨H,?_⟩;rw[dP];simp only[go_sem,Y0,w,Zju,ZpJ z];simp[VW]
 |cons b r A =>
  intro done j x H u ha z;have hlen:N s=N done+(N r+1):=by rw[u];simp
  have w:decide ((N done:Int)<(N s:Int))=Y:=by simp;omega
  have y:yQ.wrap ((N done:Int)+1)=((N done+1:Nat):Int):=by rw[Zl X X];omega
  rw[dP];simp only[go_sem,Y0,w,ZfB,NO u,Mz,(ZmK b).2]
  cases hb:iF b with
  |true =>
   obtain⟨E,H1,C,D,_,_,_⟩:=z.app (zY _) 1 (.vs 1 .clip [UW b]) [UW b] (by simp[elems]) (by simp;omega);obtain⟨H',h⟩:=A (done++[b]) (j++[b]) E H1 (by rw[u];simp) (by simp;omega) (by simpa using D);rw[zS,zO]at h;refine⟨H',?_⟩;simp only[go_sem,Zun,C,dO,y,h,VW,zT,hb,if_true,yH,yD]
  |false =>
   obtain⟨H',h⟩:=A (done++[b]) j x H (by rw[u];simp) (by simp;omega) z;rw[zS,zO]at h;refine⟨H',?_⟩;simp only[go_sem,dO,y,h,VW,zT,hb,zB,if_false]
theorem ZrC (s:dr)(j:N s<=1048576)(H:Hp):Ze fE [.str s] H=O (.str (VW s),H):=by
 obtain⟨H',h⟩:=ZrD s j [] s [] [] .nils [] rfl (yP _) (RowN.nil _ _ _);rw[zC,show ((0:Nat):Int)=0 from rfl,zD]at h;refine YG (a':=.str s) (H1:=H') rfl ?_ rfl;rw[Zlc];exact h
theorem Rj (s:dr):(VW s).length<=N s:=List.length_filter_le _ _
def Xm (s:dr):dr:=s.drop (Yw s)
theorem iG (s:dr):(Xm s).length<=N s:=by unfold Xm;rw[zK];omega
theorem aS (b:UInt8)(s:dr):Xm (b::s)=if YC b then Xm s else b::s:=by
 unfold Xm;rw[WK];split <;> simp
theorem Zse (s:dr):Go.Lib.trimLeftS s [32,9]=Xm s:=by
 unfold Go.Lib.trimLeftS
 induction s with
 |nil=>rfl
 |cons b s h =>
  rw[aS,List.dropWhile_cons]
  have:([32,9]:dr).contains b=YC b:=by
   rw[yF,yF,YC];simp
  rw[this,h]
theorem Zve (s:dr)(H:Hp):Ze Dq [.str s] H=O (.str (Xm s),H):=by
 refine YG (a':=.str s) (H1:=[]) rfl ?_ rfl;rw[fR];unfold El
 have:ZcQ [.str s,.str [32,9]]=O (.str (Xm s)):=by
  unfold ZcQ;dsimp only;rw[if_pos ⟨di,di⟩,Zse]
 simp only[go_sem,kR,this]
theorem ZAl (L:Loc)(s:dr):(upS L s).length=N s:=by simp[upS,Vu]
theorem Zty {l:du}{L:Loc}(h:LocCells l L)(hok:LocOk L)(s:dr)(z:N s<=1048576)(H:Hp):Ze Dr [.str s,.vp l] H=O (.str (upS L s),H):=by
 obtain⟨C,u,x,c,e,rfl,B,w,y⟩:=h.close [] 0 5;have j:Zk [] 0 9 (.vp l)=O (.vp (L.cells x c e)):=by rw[Qj,u]
 refine Xn (a':=.str s) rfl j (H1:=[]) ?_ rfl;rw[fS];unfold Em;have A:=ZiN (L:=L) ⟨x,c,e,rfl,B,w,y⟩ hok s z [];simp only[go_sem,Ub 6 (L.cells x c e) rfl,A.1]
def XF (L:Loc)(n:Nat)(s:dr):dr :=
 let s1:=if n.testBit 3 then Xm s else s
 let s2:=if n.testBit 4 then VW s1 else s1
 if n.testBit 2 then upS L s2 else s2
theorem Ok (L:Loc)(n:Nat)(s:dr):(XF L n s).length<=N s:=by
 have h:=iG s;have j:=Rj s;have u:=Rj (Xm s);simp only[XF];split <;> split <;> split <;> (try rw[ZAl]) <;> omega
theorem Zg8:∀ a b:List Int,W6 a b=-1\/W6 a b=0\/W6 a b=1:=by
 intro a
 induction a with
 |nil=>intro b;cases b <;> simp[W6]
 |cons x a h =>
  intro b
  cases b with
  |nil=>simp[W6]
  |cons y b =>
   rw[Qv];split
   ·simp
   ·split
    ·simp
    ·exact h b
theorem Zw7 (a b:dr):QI a b=-1\/QI a b=0\/QI a b=1:=by rw[<-ZfP];exact Zg8 _ _
theorem hU (L:Loc)(a b:dr):QJ L a b=-1\/QJ L a b=0\/QJ L a b=1:=by
 unfold QJ;split
 ·exact Zg8 _ _
 ·exact Zw7 _ _
theorem Zgd (a b:Int):E7 a b=-1\/E7 a b=0\/E7 a b=1:=by
 unfold E7;split
 ·simp
 ·split <;> simp
def Ps (L:Loc)(n:Nat)(x y:dr):Int:=if n.testBit 0 then E7 (Ap x) (Ap y) else QJ L (XF L n x) (XF L n y)
def WH (L:Loc)(n:Nat)(x y:dr):Int:=if n.testBit 1 then -Ps L n x y else Ps L n x y
theorem Zo2 {c t:Int}(h:c=-1\/c=0\/c=1)(j:t=1\/t=-1):yQ.wrap (t*c)=if t=-1 then -c else c:=by
 rcases j with rfl|rfl <;> rcases h with rfl|rfl|rfl <;> decide
section
variable {n:Nat}(hn:n<32)
include hn
theorem ZzY (H:Hp):Ze Wi [Q J n,Q J 1] H=O (.bool (n.testBit 0),H):=ZbO (j:=0) hn di H
theorem ZwF (H:Hp):Ze Wi [Q J n,Q J 2] H=O (.bool (n.testBit 1),H):=ZbO (j:=1) hn di H
theorem ZzZ (H:Hp):Ze Wi [Q J n,Q J 4] H=O (.bool (n.testBit 2),H):=ZbO (j:=2) hn di H
theorem Zr8 (H:Hp):Ze Wi [Q J n,Q J 8] H=O (.bool (n.testBit 3),H):=ZbO (j:=3) hn di H
theorem Zy7 (H:Hp):Ze Wi [Q J n,Q J 16] H=O (.bool (n.testBit 4),H):=ZbO (j:=4) hn di H
theorem ZzA:Z2 .and (Q J n) (Q J 1)=O (Q J (if n.testBit 0 then 1 else 0)):=Zbk (j:=0) hn di
theorem ZvI:Z2 .and (Q J n) (Q J 2)=O (Q J (if n.testBit 1 then 2 else 0)):=Zbk (j:=1) hn di
theorem ZB0:Z2 .and (Q J n) (Q J 4)=O (Q J (if n.testBit 2 then 4 else 0)):=Zbk (j:=2) hn di
theorem ZB1:Z2 .and (Q J n) (Q J 8)=O (Q J (if n.testBit 3 then 8 else 0)):=Zbk (j:=3) hn di
theorem ZAs:Z2 .and (Q J n) (Q J 16)=O (Q J (if n.testBit 4 then 16 else 0)):=Zbk (j:=4) hn di
end
theorem ZAy {f:du->Hp->Z3}{a a' b b' c c' v:AV}{H H1:Hp}(ha:Zk [] 0 9 a=O a')(hb:Zk [] 0 9 b=O b')(j:Zk [] 0 9 c=O c')(h:f [a',b',c'] []=O (v,H1))(u:Gw 3 v=Y):Ze f [a,b,c] H=O (v,H) :=
 Kg (args':=[a',b',c']) (by simp[ha,hb,j]) h u
theorem IW {f:du->Hp->Z3}{a a' b b' c c' d d' v:AV}{H H1:Hp}(ha:Zk [] 0 9 a=O a')(hb:Zk [] 0 9 b=O b')(j:Zk [] 0 9 c=O c')(u:Zk [] 0 9 d=O d')(h:f [a',b',c',d'] []=O (v,H1))(w:Gw 3 v=Y):Ze f [a,b,c,d] H=O (v,H) :=
 Kg (args':=[a',b',c',d']) (by simp[ha,hb,j,u]) h w
theorem Bl (L:Loc)(x c e:AV)(r:List AObj):Z4 Y 6 (.ptr 0 0) (zA (L.cells x c e)::r)=O (.agg (L.cells x c e)):=by simp[Z4,Go.Am.apart,Loc.cells]
theorem kF {L:Loc}{x c e:AV}(hav:LocAV (.agg (L.cells x c e)) L)(hok:LocOk L){n:Nat}(hn:n<32)(s:dr)(w:N s<=1048576)(u:Hp) :
 HE (.str s) (Q J n) (.ptr 0 0) u [zA (L.cells x c e)]=O (.str (let s2:=if n.testBit 4 then VW s else s
  if n.testBit 2 then upS L s2 else s2),[zA (L.cells x c e)]):=by
 have j:∀ t:dr,N t<=1048576->TZ (.str t) (Q J n) (.ptr 0 0) u [zA (L.cells x c e)]=O (.str (if n.testBit 2 then upS L t else t),[zA (L.cells x c e)]):=λt y=>by
  rw[Zhm]
  cases h:n.testBit 2 with
  |true=>simp only[go_sem,ZzZ hn,h,Bl,(ZiN hav hok t y _).2,IK,if_true]
  |false=>simp only[go_sem,ZzZ hn,h,IK,zB,if_false]
 rw[Zhl]
 cases h:n.testBit 4 with
 |true =>
  have:=Rj s;simp only[go_sem,Zy7 hn,h,ZrC s w,j (VW s) X,if_true]
 |false=>simp only[go_sem,Zy7 hn,h,j s w,zB,if_false]
theorem Zs6 {L:Loc}{x c e:AV}(hav:LocAV (.agg (L.cells x c e)) L)(hok:LocOk L){n:Nat}(hn:n<32)(y:Hp):∀ (s:dr) (j:N s<=1048576),
 P0 (.str s) (Q J n) (.ptr 0 0) y [zA (L.cells x c e)]=O (.str (XF L n s),[zA (L.cells x c e)]):=by
 intro s
 induction s with
 |nil =>
  intro j;rw[IL];have u:Xm []=[]:=rfl
  cases h:n.testBit 3 with
  |true=>simp only[go_sem,Zr8 hn,h,Y0,zC,show decide ((0:Int)<((0:Nat):Int))=I from rfl,kF hav hok hn [] j,XF,if_true,u]
  |false=>simp only[go_sem,Zr8 hn,h,kF hav hok hn [] j,XF,zB,if_false]
 |cons b s A =>
  intro j;rw[IL];have w:decide ((0:Int)<((b::s).length:Int))=Y:=dh
  have u:Zp (.str (b::s)) (Q J 0)=O (.int .u8 b.toNat):=ZG (i:=0) rfl;have z:ZR (.str (b::s)) (O (Q J 1)) U U=O (.str s):=Zgf (s:=b::s) (i:=1) dh
  cases h:n.testBit 3 with
  |true =>
   simp only[go_sem,Zr8 hn,h,Y0,w,u,Mz]
   cases hb:YC b with
   |true =>
    simp only[go_sem,Zhn,z,A (by simp at j;omega)];simp only[XF,h,aS,hb,if_true]
   |false =>
    simp only[go_sem,kF hav hok hn (b::s) j,XF,h,if_true,aS,hb,zB,if_false]
  |false=>simp only[go_sem,Zr8 hn,h,kF hav hok hn (b::s) j,XF,zB,if_false]
theorem ZiH {a:AV}{L:Loc}(h:LocAV a L)(hok:LocOk L){n:Nat}(hn:n<32)(s:dr)(y:N s<=1048576)(H:Hp):Ze M8 [a,.str s,Q J n] H=O (.str (XF L n s),H):=by
 obtain⟨z,w,u⟩:=h.close [] 0 5;have j:=u;obtain⟨x,c,e,rfl,C,A,B⟩:=u;refine ZAy w (b':=.str s) (c':=Q J n) rfl rfl (H1:=[zA (L.cells x c e)]) ?_ rfl;rw[Zjd];unfold ZdO;simp only[go_sem,zC,zD,Zs6 j hok hn [] s y]
theorem ZjX {c:Int}(h:c=-1\/c=0\/c=1):yQ.wrap (0-c)=-c:=by rcases h with rfl|rfl|rfl <;> decide
theorem ZeF {a:AV}{L:Loc}(h:LocAV a L)(hok:LocOk L){n:Nat}(hn:n<32)(s t:dr)(z:N s<=1048576)(A:N t<=1048576)(H:Hp):Ze M6 [a,.str s,.str t,Q J n] H=O (Q J (WH L n s t),H):=by
 obtain⟨E,B,w⟩:=h.close [] 0 5;have j:=w;obtain⟨x,c,e,rfl,G,y,F⟩:=w;refine IW B (b':=.str s) (c':=.str t) (d':=Q J n) rfl rfl rfl (H1:=[zA (L.cells x c e)]) ?_ rfl
 have u:∀ c:Int,c=-1\/c=0\/c=1->∀ H,TY (Q J n) (Q J c) [] H=O (Q J (if n.testBit 1 then -c else c),H):=λc y H=>by
  rw[Zhi]
  cases h:n.testBit 1 with
  |true=>simp only[go_sem,ZwF hn,h,dU,ZjX y,if_true]
  |false=>simp only[go_sem,ZwF hn,h,Zhj,zB,if_false]
 have C:=Ok L n s;have D:=Ok L n t;rw[Zjb];unfold ZdM WH Ps
 cases hb:n.testBit 0 with
 |true=>simp only[go_sem,zC,zD,ZzY hn,hb,Znp s t z A,u _ (Zgd _ _),if_true]
 |false=>simp only[go_sem,zC,zD,ZzY hn,hb,Bl,ZiH j hok hn s z,ZiH j hok hn t A,ZkW j hok (XF L n s) (XF L n t) X X,u _ (hU _ _ _),zB,if_false]
def Bp (z:AObj)(n:Nat)(x y:dr):Hp:=[z,.cells [Q J n],.cells [.str x],.cells [.str y]]
theorem aL {z:AObj}{n:Nat}{x y:dr}{fnv:AV}{g:dr->dr}{m:Int}{h:Bool}(j:Z2 .and (Q J n) (Q J m)=O (Q J (if h then m else 0)))(A:(m != 0)=Y)
 (u:∀ s:dr,(s=x\/s=y)->∀ H,XS cfg (Za cfg) fnv [.str s] H=O (.str (g s),H)) :
 Dp [Q J m,fnv,.ptr 1 0,.ptr 2 0,.ptr 3 0] (Bp z n x y)=O (.tuple [],Bp z n (if h then g x else x) (if h then g y else y)):=by
 have w:Z4 I 1 (.ptr 1 0) (Bp z n x y)=O (Q J n):=ZX (l:=[Q J n]) rfl;have B:Z4 I 1 (.ptr 2 0) (Bp z n x y)=O (.str x):=ZX (l:=[.str x]) rfl;have C:Z4 I 1 (.ptr 3 0) (Bp z n x y)=O (.str y):=ZX (l:=[.str y]) rfl;have D:Zg 1 (.ptr 2 0) (.str (g x)) (Bp z n x y)=O (.tuple [],Bp z n (g x) y):=by simp[Zg,YE,Bp,zR,zP,splice]
 have E:Zg 1 (.ptr 3 0) (.str (g y)) (Bp z n (g x) y)=O (.tuple [],Bp z n (g x) (g y)):=by simp[Zg,YE,Bp,zR,zP,splice]
 rw[fQ];unfold Ek
 cases h with
 |true=>simp only[go_sem,w,j,if_true,A,B,u x (.inl rfl),C,u y (.inr rfl),D,E]
 |false=>simp only[go_sem,w,j,zB,if_false,bne_self_eq_false]
theorem Zip {a:AV}{L:Loc}(h:LocAV a L)(hok:LocOk L){n:Nat}(hn:n<32)(s t:dr)(G:N s<=1048576)(ht:N t<=1048576)(H:Hp):Ze Qb [a,Q J n,.str s,.str t] H=O (Q J (WH L n s t),H):=by
 obtain⟨a1,h1,h2⟩:=h.close [] 0 5;have C:=h2;obtain⟨x,c,e,rfl,hx,hc,he⟩:=h2;have E:LocCells (L.cells x c e) L:=⟨x,c,e,rfl,hx,hc,he⟩
 suffices G:∃ H1,Qb [.agg (L.cells x c e),Q J n,.str s,.str t] []=O (Q J (WH L n s t),H1) by
  obtain⟨H1,w⟩:=G;exact IW h1 (b':=Q J n) (c':=.str s) (d':=.str t) rfl rfl rfl w rfl
 have B:∀ z x y,Z4 I 1 (.ptr 1 0) (Bp z n x y)=O (Q J n):=λz x y=>ZX (l:=[Q J n]) rfl;have l2:∀ z x y,Z4 I 1 (.ptr 2 0) (Bp z n x y)=O (.str x):=λz x y=>ZX (l:=[.str x]) rfl;have l3:∀ z x y,Z4 I 1 (.ptr 3 0) (Bp z n x y)=O (.str y):=λz x y=>ZX (l:=[.str y]) rfl
 have D:∀ (z:Int) (j:z=1\/z=-1),∃ H1,RC (.ptr 0 0) (.ptr 1 0) (.ptr 2 0) (.ptr 3 0) (Q J z) [] (Bp (.cells (L.cells x c e)) n s t)=O (Q J (if z=-1 then -QJ L (XF L n s) (XF L n t) else QJ L (XF L n s) (XF L n t)),H1):=λz j=>by
  have T:=aL (z:=.cells (L.cells x c e)) (n:=n) (x:=s) (y:=t) (fnv:=.fn (.func 126) [] []) (g:=Xm) (m:=8) (ZB1 hn) rfl (λr _ H=>by rw[Zd0];exact Zve r H);have d1:=iG s;have d2:=iG t
  have Z:=aL (z:=.cells (L.cells x c e)) (n:=n) (x:=if n.testBit 3 then Xm s else s) (y:=if n.testBit 3 then Xm t else t) (fnv:=.fn (.func 128) [] []) (g:=VW) (m:=16) (ZAs hn) rfl (λr w H=>by
   rw[Zjl];refine Ztd r ?_ H;rcases w with rfl|rfl <;> split <;> omega)
  have e3:=aL (z:=.dead) (n:=n) (x:=if n.testBit 4 then VW (if n.testBit 3 then Xm s else s) else (if n.testBit 3 then Xm s else s)) (y:=if n.testBit 4 then VW (if n.testBit 3 then Xm t else t) else (if n.testBit 3 then Xm t else t)) (fnv:=.fn (.func 129) [] [.vp (L.cells x c e)]) (g:=upS L) (m:=4) (ZB0 hn) rfl (λr w H=>by
   rw[Zd1];refine Zty E hok r ?_ H;have:=Rj s;have:=Rj t;have:=Rj (Xm s);have:=Rj (Xm t);rcases w with rfl|rfl <;> split <;> split <;> omega)
  have aa:=Ok L n s;have ab:=Ok L n t;have F:∀ (M P:dr) (k:AV->Hp->Z3),XN (.ptr 0 0) (Bp (.cells (L.cells x c e)) n M P) k=k (.vp (L.cells x c e)) (Bp .dead n M P):=λM P k=>rfl;refine⟨Bp .dead n (XF L n s) (XF L n t),?_⟩;rw[pU];simp only[go_sem,Zdq,zD,zE,T,Z,F,e3,Ub 6 (L.cells x c e) rfl,l2,l3];have K:∀ r,(if n.testBit 2=Y then upS L (if n.testBit 4=Y then VW (if n.testBit 3=Y then Xm r else r) else if n.testBit 3=Y then Xm r else r) else if n.testBit 4=Y then VW (if n.testBit 3=Y then Xm r else r) else if n.testBit 3=Y then Xm r else r)=XF L n r:=λr=>rfl;simp only[K,ZkC C hok (XF L n s) (XF L n t) X X,go_sem,Zo2 (hU _ _ _) j]
 have u:∀ (z:Int) (j:z=1\/z=-1),∃ H1,KC (.ptr 0 0) (.ptr 1 0) (.ptr 2 0) (.ptr 3 0) (Q J z) [] (Bp (.cells (L.cells x c e)) n s t)=O (Q J (if z=-1 then -Ps L n s t else Ps L n s t),H1):=λz j=>by
  rw[pT];unfold Ps
  cases hb:n.testBit 0 with
  |true =>
   obtain⟨T,p1⟩:=Znt s G (Bp (.cells (L.cells x c e)) n s t);obtain⟨Z,p2⟩:=Znt t ht (Bp (.cells (L.cells x c e)) n s t);refine⟨Bp (.cells (L.cells x c e)) n s t,?_⟩;simp only[go_sem,B,ZzA hn,hb,if_true,show ((1:Int) != 0)=Y from rfl,l2,l3,p1,p2,ZlS,ZlT,Zv0,Zo2 (Zgd _ _) j]
  |false =>
   obtain⟨H1,q⟩:=D z j;refine⟨H1,?_⟩;simp only[go_sem,B,ZzA hn,hb,zB,if_false,bne_self_eq_false];exact q
 have R:∀ (k:Int) (H:Hp),ZY (Q J k) H=O (.ptr (N H) 0,H++[.cells [Q J k]]):=λk H=>VE rfl;have S:∀ (k:dr) (H:Hp),ZY (.str k) H=O (.ptr (N H) 0,H++[.cells [.str k]]):=λk H=>VE rfl;rw[Zah];unfold Iz;have A:[zA (L.cells x c e),.cells [Q J n],.cells [.str s],.cells [.str t]]=Bp (.cells (L.cells x c e)) n s t:=rfl;unfold WH
 cases hb:n.testBit 1 with
 |true =>
  obtain⟨H1,q⟩:=u (-1) (.inr rfl);refine⟨H1,?_⟩;simp only[go_sem,R,S,zC,zG,zD,zE,zI,zN,A,B,ZvI hn,hb,if_true,show ((2:Int) != 0)=Y from rfl];simpa using q
 |false =>
  obtain⟨H1,q⟩:=u 1 (.inl rfl);refine⟨H1,?_⟩;simp only[go_sem,R,S,zC,zG,zD,zE,zI,zN,A,B,ZvI hn,hb,zB,if_false,bne_self_eq_false];simpa using q
def plainP:Spec:=⟨[],-1,0,I,I⟩
def Zt (p:Spec):Spec:=if (Vq p != 0)=Y then plainP else p
theorem Sl.known {k:Nat}{x:AV}{l:du}(h:Sl k x l):x.known=Y:=by
 rcases h with ⟨rfl,_⟩|⟨tok,rfl⟩ <;> rfl
theorem ZiT {a:AV}{p:Spec}(h:SpecAV a p)(H:Hp):∃ a',Ze VA [a] H=O (a',H)/\SpecAV a' (Zt p):=by
 obtain⟨G,C,D⟩:=h.close [] 0 5;have z:=λH=>ZhH D H;obtain⟨x,rfl,F⟩:=D;have E:Z4 Y 5 (.ptr 0 0) [zA (p.cells x),.cells [.nils,Q J 0,Q J 0,.bool I,.bool I]]=O (.agg (p.cells x)):=by simp[Z4,Go.Am.apart,Spec.cells]
 unfold Zt
 cases hb:(Vq p != 0) with
 |true =>
  have u:(Yb [(1,1,(Q J (-1)))] [.nils,(Q J 0),(Q J 0),(.bool I),(.bool I)]).map AV.agg=O (.agg (plainP.cells .nils)):=rfl;have y:Zg 5 (.ptr 1 0) (.agg (plainP.cells .nils)) [zA (p.cells x),.cells [.nils,Q J 0,Q J 0,.bool I,.bool I]]=O (.tuple [],[zA (p.cells x),.cells (plainP.cells .nils)]):=by simp[Zg,YE,zR,zP,Spec.cells,splice]
  have w:Z4 Y 5 (.ptr 1 0) [zA (p.cells x),.cells (plainP.cells .nils)]=O (.agg (plainP.cells .nils)):=by simp[Z4,Go.Am.apart,Spec.cells]
  have j:VA [.agg (p.cells x)] []=O (.agg (plainP.cells .nils),[zA (p.cells x),.cells (plainP.cells .nils)]):=by
   rw[ML];unfold Tk;simp only[go_sem,zD,zC,zG,zE,zI,E,z,hb,u,y,w]
  obtain⟨a',A,B⟩:=SpecAV.close (a:=.agg (plainP.cells .nils)) (p:=plainP) ⟨.nils,rfl,.inl ⟨rfl,rfl⟩⟩ [zA (p.cells x),.cells (plainP.cells .nils)] 0 5;exact⟨a',Bi C j A,by simpa using B⟩
 |false =>
  have y:Zg 5 (.ptr 1 0) (.agg (p.cells x)) [zA (p.cells x),.cells [.nils,Q J 0,Q J 0,.bool I,.bool I]]=O (.tuple [],[zA (p.cells x),.cells (p.cells x)]):=by simp[Zg,YE,zR,zP,Spec.cells,splice]
  have w:Z4 Y 5 (.ptr 1 0) [zA (p.cells x),.cells (p.cells x)]=O (.agg (p.cells x)):=by simp[Z4,Go.Am.apart,Spec.cells]
  have j:VA [.agg (p.cells x)] []=O (.agg (p.cells x),[zA (p.cells x),.cells (p.cells x)]):=by
   rw[ML];unfold Tk;simp only[go_sem,zD,zC,zG,zE,zI,E,z,hb,pV,y,w]
  obtain⟨a',A,B⟩:=SpecAV.close (a:=.agg (p.cells x)) (p:=p) ⟨x,rfl,F⟩ [zA (p.cells x),.cells (p.cells x)] 0 5;exact⟨a',Bi C j A,by simpa using B⟩
theorem ZeH {a:AV}{p:Spec}(h:SpecAV a p)(H:Hp):∃ a',Ze G2 [a] H=O (a',H)/\SpecAV a' (Zt p):=by
 obtain⟨G,C,D⟩:=h.close [] 0 5;have z:=λH=>ZeB D H;obtain⟨x,rfl,F⟩:=D;have E:Z4 Y 5 (.ptr 0 0) [zA (p.cells x),.cells [.nils,Q J 0,Q J 0,.bool I,.bool I]]=O (.agg (p.cells x)):=by simp[Z4,Go.Am.apart,Spec.cells]
 unfold Zt
 cases hb:(Vq p != 0) with
 |true =>
  have u:(Yb [(1,1,(Q J (-1)))] [.nils,(Q J 0),(Q J 0),(.bool I),(.bool I)]).map AV.agg=O (.agg (plainP.cells .nils)):=rfl;have y:Zg 5 (.ptr 1 0) (.agg (plainP.cells .nils)) [zA (p.cells x),.cells [.nils,Q J 0,Q J 0,.bool I,.bool I]]=O (.tuple [],[zA (p.cells x),.cells (plainP.cells .nils)]):=by simp[Zg,YE,zR,zP,Spec.cells,splice]
  have w:Z4 Y 5 (.ptr 1 0) [zA (p.cells x),.cells (plainP.cells .nils)]=O (.agg (plainP.cells .nils)):=by simp[Z4,Go.Am.apart,Spec.cells]
  have j:G2 [.agg (p.cells x)] []=O (.agg (plainP.cells .nils),[zA (p.cells x),.cells (plainP.cells .nils)]):=by
   rw[bS];unfold OL;simp only[go_sem,zD,zC,zG,zE,zI,E,z,hb,u,y,w]
  obtain⟨a',A,B⟩:=SpecAV.close (a:=.agg (plainP.cells .nils)) (p:=plainP) ⟨.nils,rfl,.inl ⟨rfl,rfl⟩⟩ [zA (p.cells x),.cells (plainP.cells .nils)] 0 5;exact⟨a',Bi C j A,by simpa using B⟩
 |false =>
  have y:Zg 5 (.ptr 1 0) (.agg (p.cells x)) [zA (p.cells x),.cells [.nils,Q J 0,Q J 0,.bool I,.bool I]]=O (.tuple [],[zA (p.cells x),.cells (p.cells x)]):=by simp[Zg,YE,zR,zP,Spec.cells,splice]
  have w:Z4 Y 5 (.ptr 1 0) [zA (p.cells x),.cells (p.cells x)]=O (.agg (p.cells x)):=by simp[Z4,Go.Am.apart,Spec.cells]
  have j:G2 [.agg (p.cells x)] []=O (.agg (p.cells x),[zA (p.cells x),.cells (p.cells x)]):=by
   rw[bS];unfold OL;simp only[go_sem,zD,zC,zG,zE,zI,E,z,hb,Zho,y,w]
  obtain⟨a',A,B⟩:=SpecAV.close (a:=.agg (p.cells x)) (p:=p) ⟨x,rfl,F⟩ [zA (p.cells x),.cells (p.cells x)] 0 5;exact⟨a',Bi C j A,by simpa using B⟩
theorem OA (p:Spec):(0<=(Zt p).flags/\(Zt p).flags<=31)/\(Zt p).keys.length<=8/\∀ k∈(Zt p).keys,0<=k.fl/\k.fl<=31:=by
 unfold Zt
 cases hb:(Vq p != 0) with
 |true=>simp[plainP]
 |false =>
  rw[bne_eq_false_iff_eq]at hb;unfold Vq at hb;split at hb
  ·cases hb
  ·split at hb
   ·cases hb
   ·split at hb
    ·cases hb
    ·rename_i y j u;simp only[yB,decide_eq_true_eq,not_or]at j;simp only[zB,if_false];refine⟨X,X,λk hk=>?_⟩;have w:¬ KV k=Y:=λh=>u (List.any_eq_true.2 ⟨k,hk,h⟩);simp only[KV,yB,decide_eq_true_eq,not_or]at w;omega
theorem MA (p:Spec)(h:∀ k∈p.keys,KeOk k):∀ k∈(Zt p).keys,KeOk k:=by
 unfold Zt;split
 ·intro k hk;cases hk
 ·exact h
theorem ZhV (h:dr)(fs:List (Nat×Nat))(k:Ke):(ex h fs k).length<=N h:=by
 unfold ex;split
 ·dsimp only;split
  ·simp
  ·rw[zK,zL];omega
 ·simp
def Qo (p:Spec)(k:Ke):Nat:=if (k.fl==0)=Y then p.flags.toNat else k.fl.toNat
def LU (L:Loc)(p:Spec)(a b:dr):List Ke->Int
 |[]=>0
 |k::l=>if (WH L (Qo p k) (ex a (fields a p.sep) k) (ex b (fields b p.sep) k) != 0)=Y then WH L (Qo p k) (ex a (fields a p.sep) k) (ex b (fields b p.sep) k) else LU L p a b l
theorem Zbp (L:Loc)(p:Spec)(a b:dr)(k:Ke)(l:List Ke):LU L p a b (k::l)=if (WH L (Qo p k) (ex a (fields a p.sep) k) (ex b (fields b p.sep) k) != 0)=Y then WH L (Qo p k) (ex a (fields a p.sep) k) (ex b (fields b p.sep) k) else LU L p a b l:=dy
def ZcJ (L:Loc)(p:Spec)(a b:dr):Int:=if (N p.keys==0)=Y then WH L p.flags.toNat a b else LU L p a b p.keys
def Xf (L:Loc)(p:Spec)(a b:dr):Int:=ZcJ L (Zt p) a b
def CSt (lc sc:du)(h j:AV)(H:Hp):Prop:=(h=.vp lc/\j=.vp sc)\/(h=.ptr 0 0/\j=.ptr 1 0/\H=[.cells lc,.cells sc])
theorem CSt.frz {lc sc:du}{z A:AV}{H:Hp}(h:CSt lc sc z A H)(y:du):∃ B,∀ K:AV->AV->AV->Hp->Z3,
 (XN z (H++[.cells y]) λz4 C=>XN A C λz5 D=>XN (.ptr (N H) 0) D λu j=>K z4 z5 u j)=K (.vp lc) (.vp sc) (.vp y) B:=by
 rcases h with ⟨rfl,rfl⟩|⟨rfl,rfl,rfl⟩
 ·refine⟨H++[.dead],λK=>?_⟩;have w:∀ (l:du) (H:Hp) (k:AV->Hp->Z3),XN (.vp l) H k=k (.vp l) H:=λl H k=>rfl;rw[w,w,ZfX]
 ·exact⟨[.dead,.dead,.dead],λK=>rfl⟩
theorem CSt.fld {lc:du}{x:AV}{p:Spec}{u j:AV}{H:Hp}(h:CSt lc (p.cells x) u j H) :
 (∃ y,Z6 0 j=O y/\∀ r,Z4 I 1 y (H++r)=O x)/\(∃ y,Z6 2 j=O y/\∀ r,Z4 I 1 y (H++r)=O (Q J p.flags)):=by
 rcases h with ⟨rfl,rfl⟩|⟨rfl,rfl,rfl⟩
 ·exact⟨⟨.vp (p.cells x),rfl,λr=>by simp only[Spec.cells,ZE]⟩,⟨.vp [Q J p.flags,.bool p.uniq,.bool p.stab],rfl,λr=>by simp only[ZE]⟩⟩
 ·exact⟨⟨.ptr 1 0,rfl,λr=>ZX (l:=p.cells x) rfl⟩,⟨.ptr 1 2,rfl,λr=>ZX (l:=p.cells x) rfl⟩⟩
theorem vpf (x:AV)(p:Spec):Z6 1 (.vp (p.cells x))=O (.vp [Q J p.sep,Q J p.flags,.bool p.uniq,.bool p.stab]):=rfl
theorem kef (k:Ke):Z6 4 (.vp k.cells)=O (.vp [Q J k.fl]):=rfl
theorem Zhy (L:Loc)(x c e:AV):Xy Y 6 (.vp (L.cells x c e))=O (.agg (L.cells x c e)):=rfl
theorem Zkf (k:Ke):Xy Y 5 (.vp k.cells)=O (.agg k.cells):=rfl
section
variable {L:Loc}{x c e:AV}(hav:LocAV (.agg (L.cells x c e)) L)(hok:LocOk L){p:Spec}{xk:AV}(hk:Sl 5 xk (p.keys.map Ke.av))(hlen:N p.keys<=8)
 (hks:∀ k∈p.keys,KeOk k) (hkf:∀ k∈p.keys,0<=k.fl/\k.fl<=31) (hfl:0<=p.flags/\p.flags<=31) (a b:dr) (ha:N a<=1048576) (hb:N b<=1048576)
include hav hok hk hlen hks hkf hfl ha hb
theorem Zw8:∀ (m i:Nat) (E F:AV) (H:Hp),N p.keys-i=m->i<=N p.keys->CSt (L.cells x c e) (p.cells xk) E F H ->
 ∃ H',QA (.str a) (.str b) E F xk (Q J (N p.keys:Int)) (Q J (i:Int)) [] H=O (Q J (LU L p a b (p.keys.drop i)),H'):=by
 intro m
 induction m with
 |zero =>
  intro i E F H hm hi B;have A:decide ((i:Int)<(N p.keys:Int))=I:=by simp;omega
  have hd:p.keys.drop i=[]:=zH.2 X;refine⟨H,?_⟩;rw[RY];simp only[go_sem,A,eO,hd,LU]
 |succ m ih =>
  intro i E F H hm hi B;have w:i<N p.keys:=X
  have A:decide ((i:Int)<(N p.keys:Int))=Y:=by simp;omega
  have hw:yQ.wrap ((i:Int)+1)=((i+1:Nat):Int):=by rw[Zl X X];omega
  have u:p.keys[i]∈p.keys:=yI w;have z:=hks _ u;have C:=hkf _ u;rw[yA w,Zbp];have j:p.keys[i]?=O p.keys[i]:=zF w;generalize p.keys[i]=k at z C j;obtain⟨_,y,R,S⟩:=B.fld;obtain⟨Z,M⟩:=B.frz k.cells;obtain⟨H3,e1,_⟩:=ZbA ha z p.sep Z;obtain⟨G,e2,_⟩:=ZbA hb z p.sep H3;have l1:=ZhV a (fields a p.sep) k;have l2:=ZhV b (fields b p.sep) k;have hn:Qo p k<32:=by unfold Qo;split <;> omega
  have hp:=Zip hav hok hn (ex a (fields a p.sep) k) (ex b (fields b p.sep) k) X X G
  have h:∃ H',Qz (.str a) (.str b) E F (.ptr (N H) 0) (Q J (Qo p k:Int)) xk (Q J (N p.keys:Int)) (Q J (i:Int)) [] (H++[.cells k.cells])=O (Q J (if (WH L (Qo p k) (ex a (fields a p.sep) k) (ex b (fields b p.sep) k) != 0)=Y then WH L (Qo p k) (ex a (fields a p.sep) k) (ex b (fields b p.sep) k) else LU L p a b (p.keys.drop (i+1))),H'):=by
   rw[eR,M];simp only[Zhy,RU,vpf,ZE,P4,Zkf,go_sem,e1,e2,hp]
   cases hc:(WH L (Qo p k) (ex a (fields a p.sep) k) (ex b (fields b p.sep) k) != 0) with
   |true=>exact⟨G,by simp only[go_sem,if_true]⟩
   |false =>
    obtain⟨H5,q⟩:=ih (i+1) (.vp (L.cells x c e)) (.vp (p.cells xk)) G X X (.inl ⟨rfl,rfl⟩);exact⟨H5,by simp only[go_sem,zB,if_false,eQ,hw,q]⟩
  obtain⟨H',h⟩:=h;refine⟨H',?_⟩;have D:=HK H k [Q J 0,Q J 0,Q J 0,Q J 0,Q J 0] rfl;have P:Z4 I 1 (.ptr (N H) (0+4)) (H++[.cells k.cells])=O (Q J k.fl):=ZN H k.cells 4;rw[RY];simp only[go_sem,A,eP,hk.key j,RU,D,P]
  cases T:(k.fl==0) with
  |true =>
   have K:(p.flags:Int)=((Qo p k:Nat):Int):=by unfold Qo;rw[T,if_pos rfl];omega
   simp only[go_sem,R,S,K];exact h
  |false =>
   have K:(k.fl:Int)=((Qo p k:Nat):Int):=by unfold Qo;rw[T,if_neg di];omega
   simp only[go_sem];rw[K];exact h
theorem Zux:∀ (m i:Nat) (Z x5:AV) (H:Hp),N p.keys-i=m->i<=N p.keys->CSt (L.cells x c e) (p.cells xk) Z x5 H ->
 ∃ H',BD (.str a) (.str b) Z x5 (Q J (i:Int)) [] H=O (Q J (LU L p a b (p.keys.drop i)),H'):=by
 intro m
 induction m with
 |zero =>
  intro i Z x5 H hm hi z;have F:decide ((i:Int)<(N p.keys:Int))=I:=by simp;omega
  have hd:p.keys.drop i=[]:=zH.2 X;obtain⟨⟨y,G,h⟩,_⟩:=z.fld;have h:=h [];rw[zU]at h;have u:=hk.len 142;rw[zV]at u;refine⟨H,?_⟩;rw[EW];simp only[go_sem,G,h,u,F,Zdh,hd,LU]
 |succ m ih =>
  intro i Z x5 H hm hi z;have D:i<N p.keys:=X
  have F:decide ((i:Int)<(N p.keys:Int))=Y:=by simp;omega
  have hw:yQ.wrap ((i:Int)+1)=((i+1:Nat):Int):=by rw[Zl X X];omega
  have C:p.keys[i]∈p.keys:=yI D;have j:=hks _ C;have M:=hkf _ C;rw[yA D,Zbp];have A:p.keys[i]?=O p.keys[i]:=zF D;generalize p.keys[i]=k at j M A;obtain⟨⟨y0,S,T⟩,y,G,h⟩:=z.fld;have w:=T [];rw[zU]at w;have u:=hk.len 142;rw[zV]at u;have hn:Qo p k<32:=by unfold Qo;split <;> omega
  have K:∀ k':Ke,k'={ k with fl:=(Qo p k:Nat) }->∃ H',BC (.str a) (.str b) Z x5 (Q J (i:Int)) (.ptr (N H) 0) [] (H++[.cells k'.cells])=O (Q J (if (WH L (Qo p k) (ex a (fields a p.sep) k) (ex b (fields b p.sep) k) != 0)=Y then WH L (Qo p k) (ex a (fields a p.sep) k) (ex b (fields b p.sep) k) else LU L p a b (p.keys.drop (i+1))),H'):=by
   intro k' E;have B:KeOk k':=by subst E;exact⟨j.ff,j.fc,j.tf,j.tc⟩
   have aa:∀ (l:dr) fs,ex l fs k'=ex l fs k:=λl fs=>by subst E;rfl
   obtain⟨H2,ab⟩:=z.frz k'.cells;obtain⟨H3,e1⟩:=nC ha B p.sep H2;obtain⟨H4,e2⟩:=nC hb B p.sep H3;rw[aa]at e1 e2;have l1:=ZhV a (fields a p.sep) k;have l2:=ZhV b (fields b p.sep) k;have hp:=ZeF hav hok hn (ex a (fields a p.sep) k) (ex b (fields b p.sep) k) X X H4;have P:(k'.fl:Int)=((Qo p k:Nat):Int):=by subst E;rfl
   rw[Zdk,ab];simp only[Zhy,RU,vpf,kef,ZE,P4,Zkf,go_sem,e1,e2,P,hp]
   cases hc:(WH L (Qo p k) (ex a (fields a p.sep) k) (ex b (fields b p.sep) k) != 0) with
   |true=>exact⟨H4,by simp only[go_sem,if_true]⟩
   |false =>
    obtain⟨H5,q⟩:=ih (i+1) (.vp (L.cells x c e)) (.vp (p.cells xk)) H4 X X (.inl ⟨rfl,rfl⟩);exact⟨H5,by simp only[go_sem,zB,if_false,Zdj,hw,q]⟩
  have R:=HK H k [Q J 0,Q J 0,Q J 0,Q J 0,Q J 0] rfl;have ac:Z4 I 1 (.ptr (N H) (0+4)) (H++[.cells k.cells])=O (Q J k.fl):=ZN H k.cells 4;rw[EW];simp only[go_sem,S,w,u,F,Zdi,hk.key A,RU,R,ac]
  cases h0:(k.fl==0) with
  |true =>
   have hf:(p.flags:Int)=((Qo p k:Nat):Int):=by unfold Qo;rw[h0,if_pos rfl];omega
   obtain⟨H',q⟩:=K _ rfl
   have ad:Zg 1 (.ptr (N H) (0+4)) (Q J (Qo p k:Nat)) (H++[.cells k.cells])=O (.tuple [],H++[.cells (Ke.cells { k with fl:=(Qo p k:Nat) })]):=by
    rw[Uc (sz:=1) (v:=Q J (Qo p k:Nat)) (XY _ _) rfl rfl (by simp[Ke.cells])];simp[zP,splice,Ke.cells]
   refine⟨H',?_⟩;simp only[go_sem,G,h,hf,ad];exact q
  |false =>
   have hf:(k.fl:Int)=((Qo p k:Nat):Int):=by unfold Qo;rw[h0,if_neg di];omega
   obtain⟨H',q⟩:=K k (by cases k;simp only at hf ⊢;rw[<-hf]);refine⟨H',?_⟩;simp only[go_sem];exact q
end
theorem ZkF {a:AV}{L:Loc}(h:LocAV a L)(hok:LocOk L){q:AV}{p:Spec}(hq:SpecAV q p)(hks:∀ k∈p.keys,KeOk k)(s t:dr)(E:N s<=1048576)(T:N t<=1048576)(H:Hp) :
 Ze VM [a,q,.str s,.str t] H=O (Q J (Xf L p s t),H):=by
 obtain⟨a1,h1,P⟩:=h.close [] 0 5;obtain⟨q1,Z,K⟩:=hq.close [] 0 5;have hav:=P;have hv:=λH=>ZiT K H;obtain⟨x,c,e,rfl,hx,hc,he⟩:=P;obtain⟨xp,rfl,aa⟩:=K;obtain⟨v',C,u,rfl,D⟩:=hv [zA (L.cells x c e),.cells (p.cells xp)];obtain⟨hfl,hlen,hkf⟩:=OA p;have z:=MA p hks
 suffices E:∃ H1,VM [.agg (L.cells x c e),.agg (p.cells xp),.str s,.str t] []=O (Q J (Xf L p s t),H1) by
  obtain⟨H1,hr⟩:=E;exact IW h1 Z (c':=.str s) (d':=.str t) rfl rfl hr rfl
 have R:Z4 Y 5 (.ptr 1 0) [zA (L.cells x c e),.cells (p.cells xp)]=O (.agg (p.cells xp)):=by simp[Z4,Go.Am.apart,Spec.cells]
 have B:Zg 5 (.ptr 1 0) (.agg ((Zt p).cells u)) [zA (L.cells x c e),.cells (p.cells xp)]=O (.tuple [],[zA (L.cells x c e),.cells ((Zt p).cells u)]):=by simp[Zg,YE,zR,zP,Spec.cells,splice]
 have y:Z4 I 1 (.ptr 1 (0+0)) [zA (L.cells x c e),.cells ((Zt p).cells u)]=O u:=ZX (l:=(Zt p).cells u) rfl;have F:Z4 I 1 (.ptr 1 (0+2)) [zA (L.cells x c e),.cells ((Zt p).cells u)]=O (Q J (Zt p).flags):=ZX (l:=(Zt p).cells u) rfl;have w:=D.len 142;rw[zV]at w;have A:=Bl L x c e [.cells ((Zt p).cells u)];have hn:(Zt p).flags.toNat<32:=X
 have G:((Zt p).flags:Int)=(((Zt p).flags.toNat:Nat):Int):=X
 have S:=Zip hav hok hn s t E T [zA (L.cells x c e),.cells ((Zt p).cells u)];rw[<-G]at S
 have j:(((Zt p).keys.length:Int)==0)=((Zt p).keys.length==0):=by
  rw[yJ,beq_iff_eq,beq_iff_eq];omega
 rw[fO];unfold Ei Xf ZcJ
 cases M:((Zt p).keys.length==0) with
 |true =>
  exact⟨[zA (L.cells x c e),.cells ((Zt p).cells u)],by simp only[go_sem,Yn,zD,zC,zG,zE,R,C,B,y,w,j,M,A,F,S,if_true,zI,zN]⟩
 |false =>
  obtain⟨H',r⟩:=Zw8 hav hok D hlen z hkf hfl s t E T _ 0 (.ptr 0 0) (.ptr 1 0) _ rfl (zY _) (.inr ⟨rfl,rfl,rfl⟩);rw[zX,show ((0:Nat):Int)=0 from rfl]at r;refine⟨H',?_⟩;simp only[go_sem,Yn,zD,zC,zG,zE,R,C,B,y,w,j,M,eN,r,zB,if_false,zI,zN]
theorem Ziz {a:AV}{L:Loc}(h:LocAV a L)(hok:LocOk L){q:AV}{p:Spec}(hq:SpecAV q p)(hks:∀ k∈p.keys,KeOk k)(s t:dr)(E:N s<=1048576)(T:N t<=1048576)(H:Hp) :
 Ze KO [a,q,.str s,.str t] H=O (Q J (Xf L p s t),H):=by
 obtain⟨a1,h1,P⟩:=h.close [] 0 5;obtain⟨q1,Z,K⟩:=hq.close [] 0 5;have hav:=P;have hv:=λH=>ZeH K H;obtain⟨x,c,e,rfl,hx,hc,he⟩:=P;obtain⟨xp,rfl,aa⟩:=K;obtain⟨v',C,u,rfl,D⟩:=hv [zA (L.cells x c e),.cells (p.cells xp)];obtain⟨hfl,hlen,hkf⟩:=OA p;have z:=MA p hks
 suffices E:∃ H1,KO [.agg (L.cells x c e),.agg (p.cells xp),.str s,.str t] []=O (Q J (Xf L p s t),H1) by
  obtain⟨H1,hr⟩:=E;exact IW h1 Z (c':=.str s) (d':=.str t) rfl rfl hr rfl
 have R:Z4 Y 5 (.ptr 1 0) [zA (L.cells x c e),.cells (p.cells xp)]=O (.agg (p.cells xp)):=by simp[Z4,Go.Am.apart,Spec.cells]
 have B:Zg 5 (.ptr 1 0) (.agg ((Zt p).cells u)) [zA (L.cells x c e),.cells (p.cells xp)]=O (.tuple [],[zA (L.cells x c e),.cells ((Zt p).cells u)]):=by simp[Zg,YE,zR,zP,Spec.cells,splice]
 have y:Z4 I 1 (.ptr 1 (0+0)) [zA (L.cells x c e),.cells ((Zt p).cells u)]=O u:=ZX (l:=(Zt p).cells u) rfl;have F:Z4 I 1 (.ptr 1 (0+2)) [zA (L.cells x c e),.cells ((Zt p).cells u)]=O (Q J (Zt p).flags):=ZX (l:=(Zt p).cells u) rfl;have w:=D.len 142;rw[zV]at w;have A:=Bl L x c e [.cells ((Zt p).cells u)];have hn:(Zt p).flags.toNat<32:=X
 have G:((Zt p).flags:Int)=(((Zt p).flags.toNat:Nat):Int):=X
 have S:=ZeF hav hok hn s t E T [zA (L.cells x c e),.cells ((Zt p).cells u)];rw[<-G]at S
 have j:(((Zt p).keys.length:Int)==0)=((Zt p).keys.length==0):=by
  rw[yJ,beq_iff_eq,beq_iff_eq];omega
 rw[ZeS];unfold lG Xf ZcJ
 cases M:((Zt p).keys.length==0) with
 |true =>
  exact⟨[zA (L.cells x c e),.cells ((Zt p).cells u)],by simp only[go_sem,Yn,zD,zC,zG,zE,R,C,B,y,w,j,M,A,F,S,if_true,zI,zN]⟩
 |false =>
  obtain⟨H',r⟩:=Zux hav hok D hlen z hkf hfl s t E T _ 0 (.ptr 0 0) (.ptr 1 0) _ rfl (zY _) (.inr ⟨rfl,rfl,rfl⟩);rw[zX,show ((0:Nat):Int)=0 from rfl]at r;refine⟨H',?_⟩;simp only[go_sem,Yn,zD,zC,zG,zE,R,C,B,y,w,j,M,Zdg,r,zB,if_false,zI,zN]
def YO (L:Loc)(p:Spec)(s t:dr):Int :=
 if (Xf L (Zt p) s t != 0 || (Zt p).stab || (Zt p).uniq)=Y then Xf L (Zt p) s t else if (Zt p).flags.toNat.testBit 1 then -QJ L s t else QJ L s t
theorem Zxc {a:AV}{L:Loc}(h:LocAV a L)(hok:LocOk L){q:AV}{p:Spec}(hq:SpecAV q p)(hks:∀ k∈p.keys,KeOk k)(s t:dr)(E:N s<=1048576)(ht:N t<=1048576)(H:Hp) :
 Ze Gn [a,q,.str s,.str t] H=O (Q J (YO L p s t),H):=by
 obtain⟨a1,h1,Z⟩:=h.close [] 0 5;obtain⟨q1,g1,T⟩:=hq.close [] 0 5;have hav:=Z;have hv:=λH=>ZiT T H;obtain⟨x,c,e,rfl,hx,hc,he⟩:=Z;obtain⟨xp,rfl,aa⟩:=T;obtain⟨v',R,j,rfl,S⟩:=hv [zA (L.cells x c e),.cells (p.cells xp)];obtain⟨hfl,hlen,hkf⟩:=OA p;have C:=MA p hks
 suffices E:∃ H1,Gn [.agg (L.cells x c e),.agg (p.cells xp),.str s,.str t] []=O (Q J (YO L p s t),H1) by
  obtain⟨H1,hr⟩:=E;exact IW h1 g1 (c':=.str s) (d':=.str t) rfl rfl hr rfl
 have hl:Z4 Y 5 (.ptr 1 0) [zA (L.cells x c e),.cells (p.cells xp)]=O (.agg (p.cells xp)):=by simp[Z4,Go.Am.apart,Spec.cells]
 have P:Zg 5 (.ptr 1 0) (.agg ((Zt p).cells j)) [zA (L.cells x c e),.cells (p.cells xp)]=O (.tuple [],[zA (L.cells x c e),.cells ((Zt p).cells j)]):=by simp[Zg,YE,zR,zP,Spec.cells,splice]
 have M:Z4 Y 5 (.ptr 1 0) [zA (L.cells x c e),.cells ((Zt p).cells j)]=O (.agg ((Zt p).cells j)):=by simp[Z4,Go.Am.apart,Spec.cells]
 have z:Z4 I 1 (.ptr 1 (0+2)) [zA (L.cells x c e),.cells ((Zt p).cells j)]=O (Q J (Zt p).flags):=ZX (l:=(Zt p).cells j) rfl;have B:Z4 I 1 (.ptr 1 (0+3)) [zA (L.cells x c e),.cells ((Zt p).cells j)]=O (.bool (Zt p).uniq):=ZX (l:=(Zt p).cells j) rfl;have G:Z4 I 1 (.ptr 1 (0+4)) [zA (L.cells x c e),.cells ((Zt p).cells j)]=O (.bool (Zt p).stab):=ZX (l:=(Zt p).cells j) rfl;have w:=Bl L x c e [.cells ((Zt p).cells j)];have hn:(Zt p).flags.toNat<32:=X
 have K:((Zt p).flags:Int)=(((Zt p).flags.toNat:Nat):Int):=X
 have A:=ZkF hav hok (q:=.agg ((Zt p).cells j)) ⟨j,rfl,S⟩ C s t E ht [zA (L.cells x c e),.cells ((Zt p).cells j)];have y:=ZkC hav hok s t E ht [zA (L.cells x c e),.cells ((Zt p).cells j)];have D:=ZjX (hU L s t);have u:=ZvI hn
 have F:Rw (.str s) (.str t) (.ptr 0 0) (.ptr 1 0) [] [zA (L.cells x c e),.cells ((Zt p).cells j)]=O (Q J (if (Zt p).flags.toNat.testBit 1 then -QJ L s t else QJ L s t),[zA (L.cells x c e),.cells ((Zt p).cells j)]):=by
  rw[pG];rw[K]at z
  cases hb:(Zt p).flags.toNat.testBit 1 with
  |true =>
   rw[hb]at u;simp only[go_sem,w,y,z,u,dU,D,if_true,show ((2:Int) != 0)=Y from rfl]
  |false =>
   rw[hb]at u;simp only[go_sem,w,y,z,u,pH,zB,if_false,bne_self_eq_false]
 refine⟨[zA (L.cells x c e),.cells ((Zt p).cells j)],?_⟩;rw[Zae];unfold Iw YO;simp only[go_sem,Yn,zD,zC,zG,zE,hl,R,P,w,M,A,zI,zN]
 cases h0:(Xf L (Zt p) s t != 0) with
 |true=>simp only[go_sem,zJ,if_true]
 |false =>
  simp only[go_sem,G,B]
  cases h4:(Zt p).stab with
  |true=>simp only[go_sem,zJ,zM,if_true]
  |false =>
   simp only[go_sem,B]
   cases h3:(Zt p).uniq with
   |true=>simp only[go_sem,zJ,zM,if_true]
   |false=>simp only[go_sem,F,zQ,zB,if_false]
theorem ZuP {a:AV}{L:Loc}(h:LocAV a L)(hok:LocOk L){q:AV}{p:Spec}(hq:SpecAV q p)(hks:∀ k∈p.keys,KeOk k)(s t:dr)(E:N s<=1048576)(ht:N t<=1048576)(H:Hp) :
 Ze M4 [a,q,.str s,.str t] H=O (Q J (YO L p s t),H):=by
 obtain⟨a1,h1,Z⟩:=h.close [] 0 5;obtain⟨q1,g1,T⟩:=hq.close [] 0 5;have hav:=Z;have hv:=λH=>ZeH T H;obtain⟨x,c,e,rfl,hx,hc,he⟩:=Z;obtain⟨xp,rfl,aa⟩:=T;obtain⟨v',R,j,rfl,S⟩:=hv [zA (L.cells x c e),.cells (p.cells xp)];obtain⟨hfl,hlen,hkf⟩:=OA p;have C:=MA p hks
 suffices E:∃ H1,M4 [.agg (L.cells x c e),.agg (p.cells xp),.str s,.str t] []=O (Q J (YO L p s t),H1) by
  obtain⟨H1,hr⟩:=E;exact IW h1 g1 (c':=.str s) (d':=.str t) rfl rfl hr rfl
 have hl:Z4 Y 5 (.ptr 1 0) [zA (L.cells x c e),.cells (p.cells xp)]=O (.agg (p.cells xp)):=by simp[Z4,Go.Am.apart,Spec.cells]
 have P:Zg 5 (.ptr 1 0) (.agg ((Zt p).cells j)) [zA (L.cells x c e),.cells (p.cells xp)]=O (.tuple [],[zA (L.cells x c e),.cells ((Zt p).cells j)]):=by simp[Zg,YE,zR,zP,Spec.cells,splice]
 have M:Z4 Y 5 (.ptr 1 0) [zA (L.cells x c e),.cells ((Zt p).cells j)]=O (.agg ((Zt p).cells j)):=by simp[Z4,Go.Am.apart,Spec.cells]
 have z:Z4 I 1 (.ptr 1 (0+2)) [zA (L.cells x c e),.cells ((Zt p).cells j)]=O (Q J (Zt p).flags):=ZX (l:=(Zt p).cells j) rfl;have B:Z4 I 1 (.ptr 1 (0+3)) [zA (L.cells x c e),.cells ((Zt p).cells j)]=O (.bool (Zt p).uniq):=ZX (l:=(Zt p).cells j) rfl;have G:Z4 I 1 (.ptr 1 (0+4)) [zA (L.cells x c e),.cells ((Zt p).cells j)]=O (.bool (Zt p).stab):=ZX (l:=(Zt p).cells j) rfl;have w:=Bl L x c e [.cells ((Zt p).cells j)];have hn:(Zt p).flags.toNat<32:=X
 have K:((Zt p).flags:Int)=(((Zt p).flags.toNat:Nat):Int):=X
 have A:=Ziz hav hok (q:=.agg ((Zt p).cells j)) ⟨j,rfl,S⟩ C s t E ht [zA (L.cells x c e),.cells ((Zt p).cells j)];have y:=ZkW hav hok s t E ht [zA (L.cells x c e),.cells ((Zt p).cells j)];have D:=ZjX (hU L s t);have u:=λH=>ZwF hn H
 have F:HC (.str s) (.str t) (.ptr 0 0) (.ptr 1 0) [] [zA (L.cells x c e),.cells ((Zt p).cells j)]=O (Q J (if (Zt p).flags.toNat.testBit 1 then -QJ L s t else QJ L s t),[zA (L.cells x c e),.cells ((Zt p).cells j)]):=by
  rw[Zhf];rw[K]at z
  cases hb:(Zt p).flags.toNat.testBit 1 with
  |true =>
   rw[hb]at u;simp only[go_sem,w,y,z,u,dU,D,if_true,show ((2:Int) != 0)=Y from rfl]
  |false =>
   rw[hb]at u;simp only[go_sem,w,y,z,u,Zhg,zB,if_false,bne_self_eq_false]
 refine⟨[zA (L.cells x c e),.cells ((Zt p).cells j)],?_⟩;rw[Zj8];unfold ZdJ YO;simp only[go_sem,Yn,zD,zC,zG,zE,hl,R,P,w,M,A,zI,zN]
 cases h0:(Xf L (Zt p) s t != 0) with
 |true=>simp only[go_sem,zJ,if_true]
 |false =>
  simp only[go_sem,G,B]
  cases h4:(Zt p).stab with
  |true=>simp only[go_sem,zJ,zM,if_true]
  |false =>
   simp only[go_sem,B]
   cases h3:(Zt p).uniq with
   |true=>simp only[go_sem,zJ,zM,if_true]
   |false=>simp only[go_sem,F,zQ,zB,if_false]
end Go.Am
