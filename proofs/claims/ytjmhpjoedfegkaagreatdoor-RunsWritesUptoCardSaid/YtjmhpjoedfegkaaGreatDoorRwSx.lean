/- The fields of a line -/
import Derived.Test.YtjmhpjoedfegkaaGreatDoorRwGx
import Derived.Test.YtjmhpjoedfegkaaGreatDoorHmSx
open Option renaming some->X
open Bool renaming true->Y,false->I
open List renaming length->O
open Go.dw renaming b5->K
open Go.Am.AV renaming int->Q
open Go.IntKind renaming i64->J
open Go.IntKind renaming i64->yG
open List renaming getElem?_cons_zero->zA,getElem?_cons_succ->zB,getElem?_eq_getElem->zH,drop_eq_nil_iff->zI,drop_succ_cons->zJ,getD_eq_getElem?_getD->zL,drop_eq_getElem_cons->zM,drop_drop->zO,drop_zero->zP,range->zR,length_map->zU,mem_of_getElem?->zV,takeWhile_cons->zW,mem_cons->zY,length_drop->zZ,mapM_cons->yC,any_cons->yD,any_nil->yE
open Nat renaming zero_add->zC,le_refl->zQ,add_zero->zS,strongRecOn->yA
open Bool renaming false_or->zD,true_or->zE,false_eq_true->zG,not_true->zK,false_and->zN,eq_iff_iff->zT,true_and->zX,not_false->yB
open UInt8 renaming ofNat->zF
open Go.Am.AV renaming cells->yF
namespace Go.Am
theorem ZxQ (b:UInt8)(n:Nat)(h:n<256):(((b.toNat:Int))==(n:Int))=(b==zF n):=by
 rw[zT];simp only[beq_iff_eq];constructor
 ·intro e;have:b.toNat=n:=K
  rw[<-this];simp
 ·intro e;subst e;simp;omega
def YC (b:UInt8):Bool:=b==32 || b==9
theorem JN (b:UInt8):(((b.toNat:Int))==32)=(b==32)/\(((b.toNat:Int))==9)=(b==9):=⟨ZxQ b 32 di,ZxQ b 9 di⟩
theorem hE (b:UInt8)(H:Hp):Vz [.int .u8 b.toNat] H=X (.bool (YC b),H):=by
 rw[Zaf];unfold Ix YC;simp only[go_sem,(JN b).1];cases (b==32) <;> simp[go_sem,(JN b).2]
theorem Mz (b:UInt8)(H:Hp):QF [.int .u8 b.toNat] H=X (.bool (YC b),H):=by
 rw[Zj9];unfold ZdK YC;simp only[go_sem,(JN b).1];cases (b==32) <;> simp[go_sem,(JN b).2]
theorem Zu6 (a b:Int)(H:Hp):Sx [Q J a,Q J b] H=X (Q J (max a b),H):=by
 rw[Zld];unfold Zgu;by_cases h:b<a
 ·have e:max a b=a:=K
  simp[go_sem,h,e]
 ·have e:max a b=b:=K
  simp[go_sem,h,e,Zjw]
theorem Zig (a b:Int)(H:Hp):M5 [Q J a,Q J b] H=X (Q J (min a b),H):=by
 rw[Zja];unfold ZdL;by_cases h:a<b
 ·have e:min a b=a:=K
  simp[go_sem,h,e]
 ·have e:min a b=b:=K
  simp[go_sem,h,e,Zhh]
theorem ZjT (s:dr)(n:Int)(H:Hp):G7 [.str s,.int .u8 n] H=X (Q J (KU (zF n.toNat) s 0),H):=by
 rw[ON];unfold PG;rw[By];unfold Ur;simp only[go_sem]
def X9 (c:UInt8):dr->Nat->Nat->List (Nat×Nat)
 |[],f,p=>[(f,p)]
 |b::l,f,p=>if b=c then (f,p)::X9 c l (p+1) (p+1) else X9 c l f (p+1)
theorem HX (c b:UInt8)(l:dr)(f p:Nat):X9 c (b::l) f p=if b=c then (f,p)::X9 c l (p+1) (p+1) else X9 c l f (p+1):=dy
theorem ZoV (c b:UInt8)(l:dr)(k:Nat):KU c (b::l) k=if b=c then (k:Int) else KU c l (k+1):=dy
theorem ZoN (c:UInt8):∀ (l:dr) (f p k:Nat),
 (KU c l k=-1/\X9 c l f p=[(f,p+O l)])\/∃ e,e<O l/\KU c l k=((k+e:Nat):Int)/\X9 c l f p=(f,p+e)::X9 c (l.drop (e+1)) (p+e+1) (p+e+1):=by
 intro l
 induction l with
 |nil=>intro f p k;exact .inl ⟨rfl,rfl⟩
 |cons b l w =>
  intro f p k;rw[ZoV,HX];by_cases h:b=c
  ·exact .inr ⟨0,dh,by simp[h],by simp[h]⟩
  ·simp only[h,if_false];rcases w f (p+1) (k+1) with ⟨j,u⟩|⟨e,y,j,u⟩
   ·exact .inl ⟨j,by rw[u];simp[Nat.add_comm,Nat.add_left_comm]⟩
   ·refine .inr ⟨e+1,by simp;omega,by rw[j];congr 1;omega,?_⟩;rw[u,zJ];simp only[show p+1+e=p+(e+1) by omega]
def Zk8 (a b:Nat)(ok:Bool):AV:=.tuple [Q J a,Q J b,.bool ok]
theorem ZhY {j:dr}(L:O j<=1048576){sep:Int}(h0:0<=sep)(h1:sep<=255){n:Int}(M H:Hp):∀ (k f i:Nat),O j+1-f=k->f<=O j->i<=f+1->(i:Int)<=n ->
 ∃ a b,KB (.str j) (Q J n) (Q J sep) (Q J (f:Int)) (Q J (i:Int)) M H =
  X (Zk8 a b (decide (n<i+(X9 (zF sep.toNat) (j.drop f) f f).length)),H) /\
  (n<i+(X9 (zF sep.toNat) (j.drop f) f f).length->(X9 (zF sep.toNat) (j.drop f) f f)[(n-i).toNat]?=X (a,b)):=by
 intro k
 induction k using yA with
 |_ k T =>
  intro f i hk hf hi hn;rw[pS];have y:=P6 (s:=j) (n:=(f:Int)) .i64 K K;have D:((f:Int)).toNat=f:=K
  rw[D]at y
  have C:ZS .u8 (Q J sep)=X (.int .u8 sep):=by
   have:IntKind.u8.wrap sep=sep:=by
    unfold IntKind.wrap;have N:(2 ^ IntKind.u8.bits:Int)=256:=di
    have P:IntKind.u8.signed=I:=rfl;simp only[N,P,zN,zG,if_false];omega
   simp[ZS,this]
  simp only[y,go_sem,C,ZjT];rcases ZoN (zF sep.toNat) (j.drop f) f f 0 with ⟨z,A⟩|⟨e,R,z,A⟩
  ·have u:decide (KU (zF sep.toNat) (j.drop f) 0<0)=Y:=by rw[z];decide
   simp only[u,go_sem];rw[A];refine⟨f,O j,?_,λh=>?_⟩
   ·have:((i:Int)==n)=decide (n<(i:Int)+([(f,f+(j.drop f).length)]:List (Nat×Nat)).length):=by
     rw[zT];simp;omega
    rw[this];rfl
   ·have w:n=i:=by simp at h;omega
    subst w;simp;omega
  ·have u:decide (KU (zF sep.toNat) (j.drop f) 0<0)=I:=by rw[z];simp
   simp only[u,go_sem,kN];rw[z,A];simp only[zZ]at R;by_cases w:(i:Int)=n
   ·have B:((i:Int)==n)=Y:=by simp[w]
    have hw:yG.wrap ((f:Int)+((0+e:Nat):Int))=((f+e:Nat):Int):=by rw[Zl K K];omega
    simp only[B,go_sem,hw];refine⟨f,f+e,?_,λ_=>by simp[<-w]⟩
    have:(Y:Bool)=decide (n<(i:Int)+((f,f+e)::X9 (zF sep.toNat) ((j.drop f).drop (e+1)) (f+e+1) (f+e+1)).length):=by
     symm;simp;omega
    rw[<-this];rfl
   ·have B:((i:Int)==n)=I:=by simp[w]
    have E:yG.wrap (((0+e:Nat):Int)+1)=((e+1:Nat):Int):=by rw[Zl K K];omega
    have F:yG.wrap ((f:Int)+((e+1:Nat):Int))=((f+e+1:Nat):Int):=by rw[Zl K K];omega
    have G:yG.wrap ((i:Int)+1)=((i+1:Nat):Int):=by rw[Zl K K];omega
    simp only[B,go_sem,kO,E,F,kM,G];obtain⟨a,b,Z,q2⟩:=T (O j+1-(f+e+1)) K (f+e+1) (i+1) rfl K K K;rw[zO,show f+(e+1)=f+e+1 by omega];refine⟨a,b,?_,λh=>?_⟩
    ·rw[Z]
     have:decide (n<((i+1:Nat):Int)+(X9 (zF sep.toNat) (j.drop (f+e+1)) (f+e+1) (f+e+1)).length) =
      decide (n<(i:Int)+((f,f+e)::X9 (zF sep.toNat) (j.drop (f+e+1)) (f+e+1) (f+e+1)).length):=by
      congr 1;simp;constructor <;> intro h <;> omega
     rw[this]
    ·have S:n<((i+1:Nat):Int)+(X9 (zF sep.toNat) (j.drop (f+e+1)) (f+e+1) (f+e+1)).length:=by simp at h ⊢;omega
     have:=q2 S;rw[show (n-(i:Int)).toNat=(n-((i+1:Nat):Int)).toNat+1 by omega];simpa using this
def Yw (l:dr):Nat:=(l.takeWhile YC).length
def Wc (l:dr):Nat:=(l.takeWhile λb=>!YC b).length
theorem Zl1:Yw []=0:=rfl
theorem Zcg:Wc []=0:=rfl
theorem WK (b:UInt8)(l:dr):Yw (b::l)=if YC b then Yw l+1 else 0:=by
 unfold Yw;rw[zW];split <;> simp
theorem BX (b:UInt8)(l:dr):Wc (b::l)=if YC b then 0 else Wc l+1:=by
 unfold Wc;rw[zW];cases YC b <;> simp
theorem Zge (l:dr):Yw l<=O l:=by
 induction l with
 |nil=>simp[Zl1]
 |cons b l h=>rw[WK];split <;> simp;exact h
theorem ZxG (l:dr):Wc l<=O l:=by
 induction l with
 |nil=>simp[Zcg]
 |cons b l h=>rw[BX];split <;> simp;exact h
def V9:Bool->dr->Nat->Nat->List (Nat×Nat)
 |_,[],f,p=>[(f,p)]
 |q,b::l,f,p=>if YC b&&!q then (f,p)::V9 (YC b) l p (p+1) else V9 (YC b) l f (p+1)
theorem Pj (q:Bool)(b:UInt8)(l:dr)(f p:Nat):V9 q (b::l) f p=if YC b&&!q then (f,p)::V9 (YC b) l p (p+1) else V9 (YC b) l f (p+1):=dy
def JA:dr->Nat->List (Nat×Nat)
 |[],_=>[]
 |x::l,f=>V9 (YC x) l f (f+1)
theorem ZbM (x:UInt8)(l:dr)(f:Nat):JA (x::l) f=V9 (YC x) l f (f+1):=dy
theorem Zkr:∀ (l:dr) (f p:Nat),V9 I l f p=(f,p+Wc l)::JA (l.drop (Wc l)) (p+Wc l):=by
 intro l
 induction l with
 |nil=>intro f p;rfl
 |cons b l j =>
  intro f p;rw[Pj,BX]
  cases h:YC b with
  |true=>simp[JA,h]
  |false =>
   simp only[zN,zG,if_false];rw[j];simp only[zJ,show p+1+Wc l=p+(Wc l+1) by omega]
theorem Zto:∀ (l:dr) (f p:Nat),V9 Y l f p=match l.drop (Yw l) with
 |[]=>[(f,p+Yw l)]
 |m::l'=>V9 I l' f (p+Yw l+1):=by
 intro l
 induction l with
 |nil=>intro f p;rfl
 |cons b l h =>
  intro f p;rw[Pj,WK]
  cases j:YC b with
  |true =>
   simp only[zK,Bool.and_false,zG,if_false,if_true,zJ];rw[h];simp only[show p+1+Yw l=p+(Yw l+1) by omega]
  |false=>simp
def Uw (l:dr):Nat:=Yw l+Wc (l.drop (Yw l))
theorem Ztg (l:dr){m:UInt8}{w:dr}(h:l.drop (Yw l)=m::w):YC m=I:=by
 induction l with
 |nil=>simp at h
 |cons b l u =>
  rw[WK]at h
  cases j:YC b with
  |true=>simp[j]at h;exact u h
  |false=>simp[j]at h;rw[<-h.1];exact j
theorem ZtD (l:dr)(f:Nat)(h:0<O l):JA l f=(f,f+Uw l)::JA (l.drop (Uw l)) (f+Uw l):=by
 cases l with
 |nil=>simp at h
 |cons x l =>
  rw[ZbM];unfold Uw;rw[WK]
  cases A:YC x with
  |false =>
   simp only[zG,if_false,zP,zC,BX,A,zJ];rw[Zkr];simp only[show f+1+Wc l=f+(Wc l+1) by omega]
  |true =>
   simp only[if_true];rw[Zto];simp only[zJ]
   cases u:l.drop (Yw l) with
   |nil =>
    have w:Yw l=O l:=by
     have:=zI.1 u;have:=Zge l;omega
    simp only[Zcg,zS];have:(x::l).drop (Yw l+1)=[]:=by simp[u]
    rw[this];simp[show f+1+Yw l=f+(Yw l+1) by omega,JA]
   |cons m j =>
    have z:=Ztg l u;simp only[BX,z,zG,if_false];rw[Zkr]
    have y:(x::l).drop (Yw l+1+(Wc j+1))=j.drop (Wc j):=by
     have:(x::l).drop (Yw l+1+(Wc j+1))=(m::j).drop (Wc j+1):=by
      rw[<-u,zO,show Yw l+1+(Wc j+1)=(Yw l+(Wc j+1))+1 by omega,zJ]
     rw[this,zJ]
    rw[y];simp only[show f+1+Yw l+1+Wc j=f+(Yw l+1+(Wc j+1)) by omega]
theorem Zwr (l:dr)(h:0<O l):0<Uw l:=by
 cases l with
 |nil=>simp at h
 |cons x l =>
  unfold Uw;rw[WK]
  cases j:YC x with
  |true=>simp;omega
  |false=>simp[BX,j]
theorem ZyH (l:dr):Uw l<=O l:=by
 unfold Uw;have j:=Zge l;have h:=ZxG (l.drop (Yw l));simp at h;omega
theorem ZG {s:dr}{i:Nat}{b:UInt8}(h:s[i]?=X b):Zp (.str s) (Q J (i:Int))=X (.int .u8 b.toNat):=by simp[Zp,h]
theorem YV {s:dr}{i:Nat}(h:i<O s):s.drop i=s[i]::s.drop (i+1):=zM h
theorem Zyd {h:dr}(y:O h<=1048576)(n f i:AV)(u H:Hp):∀ (k p:Nat),O h-p=k->p<=O h ->
 KA (.str h) n f (Q J (p:Int)) i u H=Ry (.str h) n f (Q J ((p+Yw (h.drop p):Nat):Int)) i u H:=by
 intro k
 induction k with
 |zero =>
  intro p A B;rw[Nf];have j:decide ((p:Int)<(O h:Int))=I:=by simp;omega
  have z:h.drop p=[]:=zI.2 K;simp only[go_sem,j,z,Zl1,zS]
 |succ k C =>
  intro p A B;rw[Nf];have j:decide ((p:Int)<(O h:Int))=Y:=by simp;omega
  have w:p<O h:=K
  have hw:yG.wrap ((p:Int)+1)=((p+1:Nat):Int):=by rw[Zl K K];omega
  simp only[go_sem,j,ZG (zH w),hE];rw[YV w,WK]
  cases D:YC h[p] with
  |true =>
   simp only[go_sem,pQ,hw,if_true];rw[C (p+1) K K,show p+1+Yw (h.drop (p+1))=p+(Yw (h.drop (p+1))+1) by omega]
  |false=>simp[go_sem]
theorem Zyc {h:dr}(y:O h<=1048576)(n f i:AV)(u H:Hp):∀ (k p:Nat),O h-p=k->p<=O h ->
 Kz (.str h) n f (Q J (p:Int)) i u H=Rz (.str h) n f (Q J ((p+Wc (h.drop p):Nat):Int)) i u H:=by
 intro k
 induction k with
 |zero =>
  intro p A B;rw[Nd];have j:decide ((p:Int)<(O h:Int))=I:=by simp;omega
  have z:h.drop p=[]:=zI.2 K;simp only[go_sem,j,z,Zcg,zS]
 |succ k C =>
  intro p A B;rw[Nd];have j:decide ((p:Int)<(O h:Int))=Y:=by simp;omega
  have w:p<O h:=K
  have hw:yG.wrap ((p:Int)+1)=((p+1:Nat):Int):=by rw[Zl K K];omega
  simp only[go_sem,j,ZG (zH w),hE];rw[YV w,BX]
  cases D:YC h[p] with
  |false =>
   simp only[yB,go_sem,pP,hw,zG,if_false];rw[C (p+1) K K,show p+1+Wc (h.drop (p+1))=p+(Wc (h.drop (p+1))+1) by omega]
  |true=>simp[go_sem]
theorem ZfU {j:dr}(u:O j<=1048576){n:Int}(E H:Hp):∀ (k f i:Nat),O j-f=k->f<=O j->i<=f+1->(i:Int)<=n ->
 ∃ a b,Ky (.str j) (Q J n) (Q J (f:Int)) (Q J (i:Int)) E H=X (Zk8 a b (decide (n<i+(JA (j.drop f) f).length)),H) /\
  (n<i+(JA (j.drop f) f).length->(JA (j.drop f) f)[(n-i).toNat]?=X (a,b)):=by
 intro k
 induction k using yA with
 |_ k P =>
  intro f i Z T hi hn;rw[pR];by_cases L:f<O j
  ·have w:decide ((f:Int)<(O j:Int))=Y:=by simp;omega
   have z:0<(j.drop f).length:=by simp;omega
   simp only[go_sem,w,pK];rw[Zyd u _ _ _ _ _ _ f rfl K,pM];have B:=Zge (j.drop f);have C:=ZyH (j.drop f);have N:=Zwr (j.drop f) z;simp only[zZ]at B C;rw[Zyc u _ _ _ _ _ _ (f+Yw (j.drop f)) rfl K,pN]
   have G:f+Yw (j.drop f)+Wc (j.drop (f+Yw (j.drop f)))=f+Uw (j.drop f):=by
    unfold Uw;rw[zO];omega
   rw[G,ZtD _ _ z,zO];by_cases y:(i:Int)=n
   ·have A:((i:Int)==n)=Y:=by simp[y]
    simp only[A,go_sem];refine⟨f,f+Uw (j.drop f),?_,λ_=>by simp[<-y]⟩
    have:(Y:Bool)=decide (n<(i:Int)+((f,f+Uw (j.drop f))::JA (j.drop (f+Uw (j.drop f))) (f+Uw (j.drop f))).length):=by
     symm;simp;omega
    rw[<-this];rfl
   ·have A:((i:Int)==n)=I:=by simp[y]
    have D:yG.wrap ((i:Int)+1)=((i+1:Nat):Int):=by rw[Zl K K];omega
    simp only[A,go_sem,pO,pL,D];obtain⟨a,b,R,S⟩:=P (O j-(f+Uw (j.drop f))) K (f+Uw (j.drop f)) (i+1) rfl K K K;refine⟨a,b,?_,λh=>?_⟩
    ·rw[R]
     have:decide (n<((i+1:Nat):Int)+(JA (j.drop (f+Uw (j.drop f))) (f+Uw (j.drop f))).length) =
      decide (n<(i:Int)+((f,f+Uw (j.drop f))::JA (j.drop (f+Uw (j.drop f))) (f+Uw (j.drop f))).length):=by
      congr 1;simp;constructor <;> intro h <;> omega
     rw[this]
    ·have M:n<((i+1:Nat):Int)+(JA (j.drop (f+Uw (j.drop f))) (f+Uw (j.drop f))).length:=by simp at h ⊢;omega
     have:=S M;rw[show (n-(i:Int)).toNat=(n-((i+1:Nat):Int)).toNat+1 by omega];simpa using this
  ·have w:decide ((f:Int)<(O j:Int))=I:=by simp;omega
   have F:j.drop f=[]:=zI.2 K;simp only[go_sem,w,pJ,F,JA];refine⟨0,0,?_,λh=>by simp at h;omega⟩;have:decide (n<(i:Int)+([]:List (Nat×Nat)).length)=I:=by simp;omega
   rw[this];rfl
def fields (h:dr)(sep:Int):List (Nat×Nat):=if 0<=sep/\sep<=255 then X9 (zF sep.toNat) h 0 0 else JA h 0
theorem ZhZ {j:dr}(u:O j<=1048576)(sep:Int){n:Int}(E:1<=n)(H:Hp) :
 ∃ a b,Gp [.str j,Q J n,Q J sep] H=X (Zk8 a b (decide (n<=(fields j sep).length)),H) /\
  (n<=(fields j sep).length->(fields j sep)[(n-1).toNat]?=X (a,b)):=by
 rw[Zag];unfold Iy fields;by_cases h:0<=sep/\sep<=255
 ·have y:decide ((0:Int)<=sep)=Y:=by simp[h.1]
  have B:decide (sep<=(255:Int))=Y:=by simp[h.2]
  rw[if_pos h];simp only[go_sem,y,B];obtain⟨a,b,z,A⟩:=ZhY u h.1 h.2 (n:=n) H H _ 0 1 rfl K K K;simp only[zP]at z A;refine⟨a,b,?_,λh=>A K⟩;have:decide (n<=((X9 (zF sep.toNat) j 0 0).length:Int))=decide (n<((1:Nat):Int)+(X9 (zF sep.toNat) j 0 0).length):=by congr 1;simp;constructor <;> intro h <;> omega
  rw[this];exact z
 ·obtain⟨a,b,z,A⟩:=ZfU u (n:=n) H H _ 0 1 rfl K K K;simp only[zP]at z A
  have w:Rx (.str j) (Q J n) (Q J 0) H H=X (Zk8 a b (decide (n<=((JA j 0).length:Int))),H):=by
   rw[pI];have:decide (n<=((JA j 0).length:Int))=decide (n<((1:Nat):Int)+(JA j 0).length):=by congr 1;simp;constructor <;> intro h <;> omega
   rw[this];exact z
  refine⟨a,b,?_,λC=>by rw[if_neg h]at C ⊢;exact A K⟩;rw[if_neg h];by_cases D:0<=sep
  ·have y:decide ((0:Int)<=sep)=Y:=by simp[D]
   have B:decide (sep<=(255:Int))=I:=by simp;omega
   simp only[go_sem,y,B];exact w
  ·have y:decide ((0:Int)<=sep)=I:=by simp;omega
   simp only[go_sem,y];exact w
def WL (p:Nat×Nat):AV:=.agg [Q J p.1,Q J p.2]
theorem IV (a b:Nat):(Yb [(0,1,Q J (a:Int)),(1,1,Q J (b:Int))] [Q J 0,Q J 0]).map AV.agg=X (WL (a,b)):=by
 simp[Yb,AV.known,yF,splice,WL]
theorem kE (p:Nat×Nat):(ZB 2 [(0,WL p)] [.agg [Q J 0,Q J 0]]).map (AV.vs 2 .clip)=X (.vs 2 .clip [WL p]):=by
 simp[ZB,AV.known,yF,WL]
theorem gY {H:Hp}{x:AV}{j:List (Nat×Nat)}(h:Row H 2 x (j.map WL))(A:O j<=1048577)(p:Nat×Nat) :
 ∃ u H',Ya 2 16 x (.vs 2 .clip [WL p]) H=X (u,H')/\Row H' 2 u ((j++[p]).map WL)/\(∀ (i:Nat) (c:du),H[i]?=X (.cells c)->H'[i]?=X (.cells c)):=by
 obtain⟨u,H',w,y,_,z,_⟩:=h.app 16 (.vs 2 .clip [WL p]) [WL p] (by simp[elems]) (by simp;omega);exact⟨u,H',w,by simpa using y,z⟩
theorem ZfV {j:dr}(N:O j<=1048576){sep:Int}(h0:0<=sep)(h1:sep<=255)(R:Hp):∀ (k p f:Nat) (u:List (Nat×Nat)) (x:AV) (H:Hp),O j-p=k->p<=O j->O u<=p ->
 Row H 2 x (u.map WL)->∃ y H',FV (.str j) (Q J sep) x (Q J (f:Int)) (Q J (p:Int)) R H=X (y,H') /\
  Row H' 2 y ((u++X9 (zF sep.toNat) (j.drop p) f p).map WL)/\(∀ (i:Nat) (c:du),H[i]?=X (.cells c)->H'[i]?=X (.cells c)):=by
 intro k
 induction k with
 |zero =>
  intro p f u x H hk hp S A;rw[HA];have w:decide ((p:Int)<(O j:Int))=I:=by simp;omega
  have Z:j.drop p=[]:=zI.2 K;have L:p=O j:=K
  obtain⟨y,H',B,C,D⟩:=gY A K (f,O j);simp only[go_sem,w,Zfz,IV,kE,B,Z,X9];exact⟨y,H',rfl,by rw[L];exact C,D⟩
 |succ k P =>
  intro p f u x H hk hp S A;rw[HA];have M:p<O j:=K
  have w:decide ((p:Int)<(O j:Int))=Y:=by simp;omega
  have hw:yG.wrap ((p:Int)+1)=((p+1:Nat):Int):=by rw[Zl K K];omega
  have G:ZS .i64 (.int .u8 (j[p].toNat:Int))=X (Q J (j[p].toNat:Int)):=by
   have:=j[p].toNat_lt;simp only[ZS];rw[Zl K K]
  have T:(((j[p].toNat:Int))==sep)=(j[p]==zF sep.toNat):=by
   have:=ZxQ j[p] sep.toNat K;rw[<-this,show ((sep.toNat:Nat):Int)=sep by omega]
  simp only[go_sem,w,ZfA,ZG (zH M),G,T];rw[YV M,HX];by_cases z:j[p]=zF sep.toNat
  ·have F:(j[p]==zF sep.toNat)=Y:=by simpa using z
   obtain⟨x1,H1,B,C,D⟩:=gY A K (f,p);rw[if_pos z];simp only[F,go_sem,IV,kE,B,hw,Hz];obtain⟨y,H',q1,q2,q3⟩:=P (p+1) (p+1) (u++[(f,p)]) x1 H1 K K (by simp;omega) C;exact⟨y,H',q1,by simpa using q2,λi c h=>q3 i c (D i c h)⟩
  ·have E:(j[p]==zF sep.toNat)=I:=by simpa using z
   simp only[E,go_sem,Hz,hw,z,if_false];exact P (p+1) f u x H K K K A
theorem Zdr {j:dr}(T:O j<=1048576)(S:Hp):∀ (k p f:Nat) (u:List (Nat×Nat)) (x:AV) (H:Hp),O j-p=k->1<=p->(Z:p<=O j)->O u<=p ->
 Row H 2 x (u.map WL)->∃ y H',FU (.str j) x (Q J (f:Int)) (Q J (p:Int)) S H=X (y,H') /\
  Row H' 2 y ((u++V9 (YC (j.getD (p-1) 0)) (j.drop p) f p).map WL)/\(∀ (i:Nat) (c:du),H[i]?=X (.cells c)->H'[i]?=X (.cells c)):=by
 intro k
 induction k with
 |zero =>
  intro p f u x H hk h1 Z ha C;rw[Rh];have z:decide ((p:Int)<(O j:Int))=I:=by simp;omega
  have hd:j.drop p=[]:=zI.2 K;have P:p=O j:=K
  have M:decide ((0:Int)<(O j:Int))=Y:=by simp;omega
  obtain⟨y,H',D,E,F⟩:=gY C K (f,O j);simp only[go_sem,z,Hw,M,IV,kE,D,hd,V9,Hx];exact⟨y,H',rfl,by rw[P];exact E,F⟩
 |succ k ih =>
  intro p f u x H hk h1 Z ha C;rw[Rh];have N:p<O j:=K
  have B:p-1<O j:=K
  have z:decide ((p:Int)<(O j:Int))=Y:=by simp;omega
  have hw:yG.wrap ((p:Int)+1)=((p+1:Nat):Int):=by rw[Zl K K];omega
  have R:yG.wrap ((p:Int)-1)=((p-1:Nat):Int):=by rw[Zl K K];omega
  have hg:j.getD (p-1) 0=j[p-1]:=by simp[zL,B]
  have A:j.getD (p+1-1) 0=j[p]:=by simp[zL,N]
  simp only[go_sem,z,Zfy,ZG (zH N),Mz];rw[YV N,Pj,hg]
  have w:∀ (q:Bool),(YC j[p]&&!YC j[p-1])=I->∃ y H',FR (.str j) x (Q J (f:Int)) (Q J (p:Int)) S H=X (y,H') /\
   Row H' 2 y ((u++V9 (YC j[p]) (j.drop (p+1)) f (p+1)).map WL)/\(∀ (i:Nat) (c:du),H[i]?=X (.cells c)->H'[i]?=X (.cells c)):=by
   intro q hq;rw[Hy];simp only[go_sem,hw];have:=ih (p+1) f u x H K K K K C;rw[A]at this;exact this
  cases G:YC j[p] with
  |false =>
   rw[G]at w;simp only[go_sem,zN,zG,if_false];exact w Y rfl
  |true =>
   rw[G]at w;simp only[go_sem,R,ZG (zH B),Mz,zX]
   cases L:YC j[p-1] with
   |true =>
    rw[L]at w;simp only[go_sem,zK,zG,if_false];exact w Y rfl
   |false =>
    obtain⟨x1,H1,D,E,F⟩:=gY C K (f,p);simp only[go_sem,yB,if_true,IV,kE,D,Hy,hw];obtain⟨y,H',q1,q2,q3⟩:=ih (p+1) p (u++[(f,p)]) x1 H1 K K K (by simp;omega) E;rw[A,G]at q2;exact⟨y,H',q1,by simpa using q2,λi c h=>q3 i c (F i c h)⟩
theorem ZoO {j:dr}(w:O j<=1048576)(sep:Int)(H:Hp) :
 ∃ A H',Co [.str j,Q J sep] H=X (A,H')/\Row H' 2 A ((fields j sep).map WL)/\(∀ (i:Nat) (c:du),H[i]?=X (.cells c)->H'[i]?=X (.cells c)):=by
 rw[Zgt];unfold Za6 fields;by_cases h:0<=sep/\sep<=255
 ·have z:decide ((0:Int)<=sep)=Y:=by simp[h.1]
  have B:decide (sep<=(255:Int))=Y:=by simp[h.2]
  rw[if_pos h];simp only[go_sem,z,B];have:=ZfV w h.1 h.2 H _ 0 0 [] .nils H rfl K dh (.inl ⟨rfl,rfl⟩);simpa using this
 ·rw[if_neg h]
  have y:∃ A H',LK (.str j) .nils (Q J 0) H H=X (A,H')/\Row H' 2 A ((JA j 0).map WL)/\(∀ (i:Nat) (c:du),H[i]?=X (.cells c)->H'[i]?=X (.cells c)):=by
   rw[Zfx]
   cases u:j with
   |nil =>
    rw[Rh];have C:decide ((1:Int)<(([]:dr).length:Int))=I:=di
    have D:decide ((0:Int)<(([]:dr).length:Int))=I:=di
    simp only[go_sem,C,Hw,D,Hx];exact⟨_,_,rfl,.inl ⟨rfl,rfl⟩,λ_ _ h=>h⟩
   |cons x l =>
    rw[<-u];have:=Zdr w H _ 1 0 [] .nils H rfl K (by rw[u];simp) dh (.inl ⟨rfl,rfl⟩);rw[u]at this ⊢;simpa[ZbM]using this
  by_cases E:0<=sep
  ·have z:decide ((0:Int)<=sep)=Y:=by simp[E]
   have B:decide (sep<=(255:Int))=I:=by simp;omega
   simp only[go_sem,z,B];exact y
  ·have z:decide ((0:Int)<=sep)=I:=by simp;omega
   simp only[go_sem,z];exact y
theorem ZqV (c:UInt8)(L:Nat):∀ (l:dr) (f p:Nat),f<=p->p+O l=L->∀ x∈X9 c l f p,x.1<=x.2/\x.2<=L:=by
 intro l
 induction l with
 |nil=>intro f p w j x h;simp[X9]at h;subst h;simp at j;simp;omega
 |cons b l u =>
  intro f p w j x h;rw[HX]at h;simp at j;split at h
  ·rcases zY.1 h with rfl|h
   ·simp;omega
   ·exact u (p+1) (p+1) K K x h
  ·exact u f (p+1) K K x h
theorem ZqW (L:Nat):∀ (l:dr) (q:Bool) (f p:Nat),f<=p->p+O l=L->∀ x∈V9 q l f p,x.1<=x.2/\x.2<=L:=by
 intro l
 induction l with
 |nil=>intro q f p w j x h;simp[V9]at h;subst h;simp at j;simp;omega
 |cons b l u =>
  intro q f p w j x h;rw[Pj]at h;simp at j;split at h
  ·rcases zY.1 h with rfl|h
   ·simp;omega
   ·exact u _ p (p+1) K K x h
  ·exact u _ f (p+1) K K x h
theorem IU (h:dr)(sep:Int):∀ x∈fields h sep,x.1<=x.2/\x.2<=O h:=by
 intro x j;unfold fields at j;split at j
 ·exact ZqV _ (O h) h 0 0 (zQ _) K x j
 ·cases h with
  |nil=>simp[JA]at j
  |cons a l=>rw[ZbM]at j;exact ZqW (a::l).length l _ 0 1 K (by simp;omega) x j
structure Ke where
 ff:Int
 fc:Int
 tf:Int
 tc:Int
 fl:Int
def Ke.cells (k:Ke):du:=[Q J k.ff,Q J k.fc,Q J k.tf,Q J k.tc,Q J k.fl]
structure KeOk (k:Ke):Prop where
 ff:-9223372036854775808<=k.ff/\k.ff<=9223372036854775807
 fc:-9223372036854775808<=k.fc/\k.fc<=9223372036854775807
 tf:-9223372036854775808<=k.tf/\k.tf<=9223372036854775807
 tc:-9223372036854775808<=k.tc/\k.tc<=9223372036854775807
def Qn (lo hi:Nat)(k:Ke):Nat:=lo+(min (max k.fc 1-1) ((hi:Int)-lo)).toNat
def FX (h:dr)(fs:List (Nat×Nat))(k:Ke):Nat :=
 if 0<k.tf/\k.tf<=O fs then (let p:=fs.getD (k.tf-1).toNat (0,0);if 0<k.tc then p.1+(min k.tc ((p.2:Int)-p.1)).toNat else p.2) else O h
def ex (h:dr)(fs:List (Nat×Nat))(k:Ke):dr :=
 if max k.ff 1<=O fs then
  (let p:=fs.getD (max k.ff 1-1).toNat (0,0);if FX h fs k<Qn p.1 p.2 k then [] else (h.take (FX h fs k)).drop (Qn p.1 p.2 k)) else []
theorem ZxE (H:Hp)(x y:AObj):List.set (H++[x]) (O H) y=H++[y]:=dh
theorem XY (H:Hp)(x:AObj):(H++[x])[O H]?=X x:=Zn8 _ _ _
theorem ZX {H:Hp}{o off:Nat}{l:du}(h:H[o]?=X (.cells l)):Z4 I 1 (.ptr o off) H=l[off]?:=by rw[Wg h];simp[Go.Am.apart]
theorem hZ {j:dr}{f e:Nat}(C:f<=O j)(B:e<=O j)(u:O j<=1048576)(y H:Hp) :
 Wo (.str j) (Q J (f:Int)) (Q J (e:Int)) y H=X (.str (if e<f then [] else (j.take e).drop f),H):=by
 rw[eT];by_cases h:e<f
 ·have c:decide ((e:Int)<(f:Int))=Y:=by simp;omega
  simp only[go_sem,c,h,if_true]
 ·have c:decide ((e:Int)<(f:Int))=I:=by simp;omega
  have w:=VV (s:=j) (n:=(f:Int)) (m:=(e:Int)) .i64 .i64 K K K;have z:((f:Int)).toNat=f:=K
  have A:((e:Int)).toNat=e:=K
  rw[z,A]at w;simp only[go_sem,c,eU,w,h,if_false]
theorem Cc {fs:List (Nat×Nat)}{i:Nat}{p:Nat×Nat}(h:fs[i]?=X p):fs.getD i (0,0)=p:=by simp[zL,h]
theorem ZbA {j:dr}(w:O j<=1048576){k:Ke}(Z:KeOk k)(sep:Int)(H:Hp) :
 ∃ H',QV [.str j,.agg k.cells,Q J sep] H=X (.str (ex j (fields j sep) k),H')/\(∀ (i:Nat) (x:AObj),H[i]?=X x->H'[i]?=X x):=by
 rw[fP];unfold Ej;have E:ZY (.agg k.cells) H=X (.ptr (O H) 0,H++[.cells k.cells]):=VE rfl;have u:=XY H (.cells k.cells);obtain⟨a,b,q1,q2⟩:=ZhZ w sep (n:=max k.ff 1) K (H++[.cells k.cells]);simp only[Ke.cells]at E u q1 ⊢;simp only[E,go_sem,zC,ZX u,zA];rw[q1];simp only[go_sem,Zk8,zA,zB];have z:∀ (i:Nat) (x:AObj),H[i]?=X x->(H++[AObj.cells [Q J k.ff,Q J k.fc,Q J k.tf,Q J k.tc,Q J k.fl]])[i]?=X x:=λi x h=>XC h _;by_cases C:max k.ff 1<=((fields j sep).length:Int)
 ·have M:(!decide (max k.ff 1<=((fields j sep).length:Int)))=I:=by simp[C]
  have G:=q2 C;obtain⟨r1,r2⟩:=IU j sep _ (zV G);simp only at r1 r2;simp only[M,go_sem,eS,zC,ZX u,Ke.cells,zA,zB];have aa:=Z.fc;have w1:yG.wrap (max k.fc 1-1)=max k.fc 1-1:=Zl K K;have w2:yG.wrap ((b:Int)-a)=(b:Int)-a:=Zl K K;have w3:yG.wrap ((a:Int)+min (max k.fc 1-1) ((b:Int)-a))=((Qn a b k:Nat):Int):=by rw[Zl K K];unfold Qn;omega
  have B:Qn a b k<=O j:=by unfold Qn;omega
  simp only[w1,w2,w3]
  have fin:∀ e:Nat,e<=O j->e=FX j (fields j sep) k->ex j (fields j sep) k=(if e<Qn a b k then [] else (j.take e).drop (Qn a b k)):=by
   intro e _ he;subst he;unfold ex;rw[if_pos C,Cc G]
  by_cases L:0<k.tf
  ·have N:decide ((0:Int)<k.tf)=Y:=by simp[L]
   obtain⟨D,F,p1,p2⟩:=ZhZ w sep (n:=k.tf) K (H++[.cells k.cells]);simp only[Ke.cells]at p1;simp only[N,go_sem,zC,ZX u,Ke.cells,zA,zB,p1,Zk8];by_cases y:k.tf<=((fields j sep).length:Int)
   ·have P:decide (k.tf<=((fields j sep).length:Int))=Y:=by simp[y]
    have A:=p2 y;obtain⟨s1,T⟩:=IU j sep _ (zV A);simp only at s1 T;simp only[P,go_sem,zC,ZX u,Ke.cells,zA,zB];have ab:=Z.tc;by_cases S:0<k.tc
    ·have R:decide ((0:Int)<k.tc)=Y:=by simp[S]
     have w4:yG.wrap ((F:Int)-D)=(F:Int)-D:=Zl K K;have w5:yG.wrap ((D:Int)+min k.tc ((F:Int)-D))=((D+(min k.tc ((F:Int)-D)).toNat:Nat):Int):=by rw[Zl K K];omega
     simp only[R,go_sem,zC,ZX u,Ke.cells,zA,zB,w4,w5];rw[hZ B K w];rw[fin (D+(min k.tc ((F:Int)-D)).toNat) K (by unfold FX;rw[if_pos ⟨L,y⟩,Cc A];simp[S])];exact⟨_,rfl,z⟩
    ·have R:decide ((0:Int)<k.tc)=I:=by simp;omega
     simp only[R,go_sem];rw[hZ B T w];rw[fin F T (by unfold FX;rw[if_pos ⟨L,y⟩,Cc A];simp[S])];exact⟨_,rfl,z⟩
   ·have P:decide (k.tf<=((fields j sep).length:Int))=I:=by simp;omega
    simp only[P,go_sem];rw[hZ B (zQ _) w];rw[fin (O j) (zQ _) (by unfold FX;rw[if_neg (λh=>y h.2)])];exact⟨_,rfl,z⟩
  ·have N:decide ((0:Int)<k.tf)=I:=by simp;omega
   simp only[N,go_sem];rw[hZ B (zQ _) w];rw[fin (O j) (zQ _) (by unfold FX;rw[if_neg (λh=>L h.1)])];exact⟨_,rfl,z⟩
 ·have M:(!decide (max k.ff 1<=((fields j sep).length:Int)))=Y:=by simp;omega
  simp only[M,go_sem];have:ex j (fields j sep) k=[]:=by unfold ex;rw[if_neg C]
  rw[this];exact⟨_,rfl,z⟩
def Sl (k:Nat)(x:AV)(l:du):Prop:=x=.nils/\l=[]\/∃ tok,x=.vs k tok l
theorem Sl.len {k:Nat}{x:AV}{l:du}(h:Sl k x l)(e:Nat):Zf (.slice e) x=X (Q J (O l)):=by
 rcases h with ⟨rfl,rfl⟩|⟨tok,rfl⟩ <;> rfl
theorem Sl.idx {k:Nat}{x:AV}{l:du}(h:Sl k x l){i:Nat}{c:AV}(hi:l[i]?=X c):Zr k x (Q J (i:Int))=X (.vp c.cells):=by
 rcases h with ⟨rfl,rfl⟩|⟨tok,rfl⟩
 ·simp at hi
 ·simp[Zr,hi]
theorem Cd {f:AV->Option AV}:∀ {l:du},(∀ x∈l,f x=X x)->l.mapM f=X l:=by
 intro l
 induction l with
 |nil=>intro _;rfl
 |cons a l u =>
  intro h;rw[yC,h a dh,u (λx j=>h x (by simp[j]))];rfl
theorem Zt1 (H:Hp)(n f k:Nat)(tok:Tok)(l:du):Zk H n (f+1) (.vs k tok l)=match l.mapM (Zk H n f) with
 |some l=>X (.vs k (match tok with|.own t e=>if t<n then .own t e else .no|tok=>tok) l)
 |none=>none:=dy
theorem F6 (H:Hp)(n f:Nat)(l:du):Zk H n (f+1) (.agg l)=match l.mapM (Zk H n f) with
 |some l=>X (.agg l)
 |none=>none:=dy
theorem Sl.close {k:Nat}{x:AV}{l:du}(h:Sl k x l){H:Hp}{n f:Nat}(u:∀ c∈l,Zk H n f c=X c):∃ j,Zk H n (f+1) x=X j/\Sl k j l:=by
 rcases h with ⟨rfl,rfl⟩|⟨tok,rfl⟩
 ·exact⟨.nils,rfl,.inl ⟨rfl,rfl⟩⟩
 ·have e:=Zt1 H n f k tok l;rw[Cd u]at e;exact⟨_,e,.inr ⟨_,rfl⟩⟩
def Ke.av (k:Ke):AV:=.agg k.cells
theorem Ke.close (k:Ke)(H:Hp)(n f:Nat):Zk H n (f+2) k.av=X k.av:=by
 have:k.cells.mapM (Zk H n (f+1))=X k.cells:=Cd λx h=>by
  simp only[Ke.cells,zY,List.not_mem_nil,or_false]at h;rcases h with rfl|rfl|rfl|rfl|rfl <;> rfl
 rw[Ke.av,F6,this]
structure Spec where
 keys:List Ke
 sep:Int
 flags:Int
 stab:Bool
 uniq:Bool
def Spec.cells (x:AV)(p:Spec):du:=[x,Q J p.sep,Q J p.flags,.bool p.uniq,.bool p.stab]
def SpecAV (a:AV)(p:Spec):Prop:=∃ x,a=.agg (p.cells x)/\Sl 5 x (p.keys.map Ke.av)
theorem SpecAV.close {a:AV}{p:Spec}(h:SpecAV a p)(H:Hp)(n f:Nat):∃ a',Zk H n (f+4) a=X a'/\SpecAV a' p:=by
 obtain⟨x,rfl,z⟩:=h
 obtain⟨j,u,w⟩:=z.close (H:=H) (n:=n) (f:=f+2) (λc y=>by
  obtain⟨k,_,rfl⟩:=List.mem_map.1 y;exact k.close H n f)
 refine⟨.agg (p.cells j),?_,j,rfl,w⟩
 have:(p.cells x).mapM (Zk H n (f+3))=X (p.cells j):=by
  simp only[Spec.cells,yC,u,List.mapM_nil];rfl
 rw[F6,this]
theorem YG {f:du->Hp->Z3}{a a' v:AV}{H H1:Hp}(h:Zk [] 0 9 a=X a')(j:f [a'] []=X (v,H1))(u:Gw 3 v=Y):Ze f [a] H=X (v,H) :=
 Kg (args':=[a']) (by simp[h]) j u
theorem Xn {f:du->Hp->Z3}{a a' b b' v:AV}{H H1:Hp}(h:Zk [] 0 9 a=X a')(j:Zk [] 0 9 b=X b')(u:f [a',b'] []=X (v,H1))(w:Gw 3 v=Y):Ze f [a,b] H=X (v,H) :=
 Kg (args':=[a',b']) (by simp[h,j]) u w
def KV (k:Ke):Bool:=decide (k.ff<1) || (decide (k.fc<1) || (decide (k.tf<0) || (decide (k.tc<0) || ((k.tf==0&&k.tc != 0) || (decide (k.fl<0) || decide (31<k.fl))))))
def Vq (p:Spec):Int :=
 if 8<O p.keys then 3 else if decide (p.sep < -1) || (decide (255<p.sep) || (p.sep==10 || (decide (p.flags<0) || decide (31<p.flags)))) then 2 else if p.keys.any KV then 2 else 0
theorem RU (k:Ke)(H:Hp):Z4 Y 5 (.vp k.cells) H=X (.agg k.cells):=by simp[Z4,Go.Am.apart,Ke.cells]
theorem HK (H:Hp)(k:Ke)(z:du)(h:O z=5):Zg 5 (.ptr (O H) 0) (.agg k.cells) (H++[.cells z])=X (.tuple [],H++[.cells k.cells]):=by
 rw[Uc (sz:=5) (v:=.agg k.cells) (XY _ _) rfl rfl K];simp[yF,splice,h,Ke.cells]
theorem ZN (H:Hp)(l:du)(off:Nat):Z4 I 1 (.ptr (O H) off) (H++[.cells l])=l[off]?:=ZX (XY H _)
theorem Yn (l:du)(H:Hp):ZY (.agg l) H=X (.ptr (O H) 0,H++[.cells l]):=VE rfl
attribute [go_sem] Yn ZN
theorem Sl.key {x:AV}{l:List Ke}(h:Sl 5 x (l.map Ke.av)){i:Nat}{k:Ke}(hi:l[i]?=X k):Zr 5 x (Q J (i:Int))=X (.vp k.cells):=h.idx (c:=k.av) (by simp[hi])
theorem ZzH {x:AV}{l:List Ke}(h:Sl 5 x (l.map Ke.av)){i:Nat}{k:Ke}(hi:l[i]?=X k)(n t:AV)(j H:Hp) :
 ∃ H',Ru x n (Q J (i:Int)) t j H=if KV k then X (Q J 2,H') else Rv x n (Q J (i:Int)) j H':=by
 rw[pE];refine⟨H++[.cells k.cells],?_⟩;have E:=XY H (.cells k.cells);simp only[h.key hi,RU,go_sem,HK H k [Q J 0,Q J 0,Q J 0,Q J 0,Q J 0] rfl];simp only[go_sem,zC,ZN,Ke.cells,zA,zB];unfold KV
 cases y:decide (k.ff<1) with
 |true=>simp only[go_sem,zE,if_true]
 |false =>
 simp only[go_sem,zD,zC,ZN,Ke.cells,zA,zB]
 cases z:decide (k.fc<1) with
 |true=>simp only[go_sem,zE,if_true]
 |false =>
 simp only[go_sem,zD,zC,ZN,Ke.cells,zA,zB]
 cases A:decide (k.tf<0) with
 |true=>simp only[go_sem,zE,if_true]
 |false =>
 simp only[go_sem,zD,zC,ZN,Ke.cells,zA,zB]
 cases B:decide (k.tc<0) with
 |true=>simp only[go_sem,zE,if_true]
 |false =>
 simp only[go_sem,zD,zC,ZN,Ke.cells,zA,zB];have last:∀ b:Bool,b=I->True:=λ_ _=>trivial
 cases C:(k.tf==0) with
 |true =>
  simp only[go_sem,zX,zC,ZN,Ke.cells,zA,zB]
  cases D:(k.tc != 0) with
  |true=>simp only[go_sem,zE,if_true]
  |false =>
   simp only[go_sem,zD,zC,ZN,Ke.cells,zA,zB]
   cases u:decide (k.fl<0) with
   |true=>simp only[go_sem,zE,if_true]
   |false =>
    simp only[go_sem,zD,zC,ZN,Ke.cells,zA,zB];cases w:decide (31<k.fl) <;> simp[go_sem]
 |false =>
  simp only[go_sem,zN,zD,zC,ZN,Ke.cells,zA,zB]
  cases u:decide (k.fl<0) with
  |true=>simp only[go_sem,zE,if_true]
  |false =>
   simp only[go_sem,zD,zC,ZN,Ke.cells,zA,zB];cases w:decide (31<k.fl) <;> simp[go_sem]
theorem ZzI {x:AV}{l:List Ke}(h:Sl 5 x (l.map Ke.av))(D:O l<=8)(w:Hp):∀ (m i:Nat) (H:Hp),O l-i=m->i<=O l ->
 ∃ H',Kw x (Q J (O l:Int)) (Q J (i:Int)) w H=X (Q J (if (l.drop i).any KV then 2 else 0),H'):=by
 intro m
 induction m with
 |zero =>
  intro i H A hi;rw[Nc];have j:decide ((i:Int)<(O l:Int))=I:=by simp;omega
  have z:l.drop i=[]:=zI.2 K;simp only[go_sem,j,pD,z,yE];exact⟨_,rfl⟩
 |succ m B =>
  intro i H A hi;rw[Nc];have u:i<O l:=K
  have j:decide ((i:Int)<(O l:Int))=Y:=by simp;omega
  have hw:yG.wrap ((i:Int)+1)=((i+1:Nat):Int):=by rw[Zl K K];omega
  obtain⟨H1,y⟩:=ZzH h (zH u) (Q J (O l:Int)) (.bool Y) w H;simp only[go_sem,j,y];rw[zM u,yD]
  cases C:KV l[i] with
  |true=>simp only[if_true,zE];exact⟨_,rfl⟩
  |false =>
   simp only[zG,if_false,zD,pF,go_sem,hw];exact B (i+1) H1 K K
theorem Zqx {a:AV}{p:Spec}(h:SpecAV a p)(H:Hp):∃ H',Qa [a] H=X (Q J (Vq p),H'):=by
 obtain⟨x,rfl,y⟩:=h;rw[Zad];unfold Iv Vq;have E:=XY H (.cells (p.cells x));have j:=y.len 142;rw[zU]at j;simp only[go_sem,zC,ZN,Spec.cells,zA,zB,j];by_cases w:8<O p.keys
 ·have u:decide ((8:Int)<(O p.keys:Int))=Y:=by simp;omega
  simp only[u,go_sem,w,if_true];exact⟨_,rfl⟩
 have u:decide ((8:Int)<(O p.keys:Int))=I:=by simp;omega
 simp only[u,go_sem,w,if_false,pB,zC,ZN,Spec.cells,zA,zB]
 cases z:decide (p.sep < -1) with
 |true=>simp only[go_sem,zE,if_true];exact⟨_,rfl⟩
 |false =>
 simp only[go_sem,zD,zC,ZN,Spec.cells,zA,zB]
 cases A:decide (255<p.sep) with
 |true=>simp only[go_sem,zE,if_true];exact⟨_,rfl⟩
 |false =>
 simp only[go_sem,zD,zC,ZN,Spec.cells,zA,zB]
 cases B:(p.sep==10) with
 |true=>simp only[go_sem,zE,if_true];exact⟨_,rfl⟩
 |false =>
 simp only[go_sem,zD,zC,ZN,Spec.cells,zA,zB]
 cases C:decide (p.flags<0) with
 |true=>simp only[go_sem,zE,if_true];exact⟨_,rfl⟩
 |false =>
 simp only[go_sem,zD,zC,ZN,Spec.cells,zA,zB]
 cases D:decide (31<p.flags) with
 |true=>simp only[go_sem,if_true];exact⟨_,rfl⟩
 |false =>
 simp only[go_sem,zG,if_false,pC,zC,ZN,Spec.cells,zA,zB,j];have:=ZzI y K H (O p.keys) 0 (H++[.cells (p.cells x)]) K K;simpa[Spec.cells]using this
theorem ZhH {a:AV}{p:Spec}(h:SpecAV a p)(H:Hp):Ze Qa [a] H=X (Q J (Vq p),H):=by
 obtain⟨a',j,u⟩:=h.close [] 0 5;obtain⟨H',w⟩:=Zqx u [];exact YG j w rfl
theorem ZrN (k:Ke)(H:Hp):∃ H',M7 [k.av] H=X (.bool (!KV k),H'):=by
 rw[Zjc];unfold ZdN Ke.av;simp only[go_sem,zC,Ke.cells,zA,zB];unfold KV
 have u:∀ b:Bool,b=(decide (k.fl<0) || decide (31<k.fl))->∃ H',HD (.ptr (O H) 0) H (H++[.cells [Q J k.ff,Q J k.fc,Q J k.tf,Q J k.tc,Q J k.fl]])=X (.bool (!b),H'):=by
  intro b j;rw[Zhk];simp only[go_sem,zC,zA,zB]
  cases h:decide (k.fl<0) with
  |true =>
   have:decide (0<=k.fl)=I:=by simp at h ⊢;omega
   simp only[this,go_sem];rw[j,h];exact⟨_,rfl⟩
  |false =>
   have:decide (0<=k.fl)=Y:=by simp at h ⊢;omega
   simp only[this,go_sem,zC,zA,zB];have e:decide (k.fl<=31)=!decide (31<k.fl):=by rw[zT];simp
   rw[j,h,e];exact⟨_,rfl⟩
 cases w:decide (k.ff<1) with
 |true=>simp only[go_sem,zE,zK];exact⟨_,rfl⟩
 |false =>
 simp only[go_sem,zD,zC,Ke.cells,zA,zB]
 cases y:decide (k.fc<1) with
 |true=>simp only[go_sem,zE,zK];exact⟨_,rfl⟩
 |false =>
 simp only[go_sem,zD,zC,Ke.cells,zA,zB]
 cases z:decide (k.tf<0) with
 |true=>simp only[go_sem,zE,zK];exact⟨_,rfl⟩
 |false =>
 simp only[go_sem,zD,zC,Ke.cells,zA,zB]
 cases A:decide (k.tc<0) with
 |true=>simp only[go_sem,zE,zK];exact⟨_,rfl⟩
 |false =>
 simp only[go_sem,zD,zC,Ke.cells,zA,zB]
 cases B:(k.tf==0) with
 |true =>
  simp only[go_sem,zX,zC,Ke.cells,zA,zB]
  cases C:(k.tc != 0) with
  |true=>simp only[go_sem,zE,zK];exact⟨_,rfl⟩
  |false=>simp only[go_sem,zD];exact u _ rfl
 |false=>simp only[go_sem,zN,zD];exact u _ rfl
theorem ZrM (k:Ke)(H:Hp):Ze M7 [k.av] H=X (.bool (!KV k),H):=by
 obtain⟨H',h⟩:=ZrN k [];exact YG (k.close [] 0 7) h rfl
theorem Zz4 {x:AV}{l:List Ke}(h:Sl 5 x (l.map Ke.av))(F:O l<=8)(A:Hp){o:Nat}{r:du}{H:Hp}(y:H[o]?=X (.cells (x::r))):∀ (m i:Nat),O l-i=m->i<=O l ->
 TX (.ptr o 0) (Q J (i:Int)) A H=X (Q J (if (l.drop i).any KV then 2 else 0),H):=by
 have j:=h.len 142;rw[zU]at j;intro m
 induction m with
 |zero =>
  intro i C hi;rw[IJ];have u:decide ((i:Int)<(O l:Int))=I:=by simp;omega
  have B:l.drop i=[]:=zI.2 K;simp only[go_sem,zC,ZX y,zA,j,u,Zhc,B,yE];rfl
 |succ m D =>
  intro i C hi;rw[IJ];have w:i<O l:=K
  have u:decide ((i:Int)<(O l:Int))=Y:=by simp;omega
  have hw:yG.wrap ((i:Int)+1)=((i+1:Nat):Int):=by rw[Zl K K];omega
  have z:=ZrM l[i] H;unfold Ke.av at z;simp only[go_sem,zC,ZX y,zA,j,u,Zhd,h.key (zH w),RU,z,Bool.not_not];rw[zM w,yD]
  cases E:KV l[i] with
  |true=>simp only[go_sem,if_true,zE]
  |false =>
   simp only[go_sem,zD,Zhe,hw];exact D (i+1) K K
theorem Zpe {a:AV}{p:Spec}(h:SpecAV a p)(H:Hp):∃ H',DT [a] H=X (Q J (Vq p),H'):=by
 obtain⟨x,rfl,y⟩:=h;rw[Zj7];unfold ZdI Vq;have j:=y.len 142;rw[zU]at j;simp only[go_sem,zC,Spec.cells,zA,zB,j];by_cases w:8<O p.keys
 ·have u:decide ((8:Int)<(O p.keys:Int))=Y:=by simp;omega
  simp only[u,go_sem,w,if_true];exact⟨_,rfl⟩
 have u:decide ((8:Int)<(O p.keys:Int))=I:=by simp;omega
 simp only[u,go_sem,w,if_false,Zha,zC,Spec.cells,zA,zB]
 cases z:decide (p.sep < -1) with
 |true=>simp only[go_sem,zE,if_true];exact⟨_,rfl⟩
 |false =>
 simp only[go_sem,zD,zC,Spec.cells,zA,zB]
 cases A:decide (255<p.sep) with
 |true=>simp only[go_sem,zE,if_true];exact⟨_,rfl⟩
 |false =>
 simp only[go_sem,zD,zC,Spec.cells,zA,zB]
 cases B:(p.sep==10) with
 |true=>simp only[go_sem,zE,if_true];exact⟨_,rfl⟩
 |false =>
 simp only[go_sem,zD,zC,Spec.cells,zA,zB]
 cases C:decide (p.flags<0) with
 |true=>simp only[go_sem,zE,if_true];exact⟨_,rfl⟩
 |false =>
 simp only[go_sem,zD,zC,Spec.cells,zA,zB]
 cases D:decide (31<p.flags) with
 |true=>simp only[go_sem,if_true];exact⟨_,rfl⟩
 |false =>
 simp only[go_sem,zG,if_false,Zhb];have:=Zz4 y K H (XY H (.cells [x,Q J p.sep,Q J p.flags,.bool p.uniq,.bool p.stab])) (O p.keys) 0 K K;rw[show ((0:Nat):Int)=0 from rfl,zP]at this;exact⟨_,this⟩
theorem ZeB {a:AV}{p:Spec}(h:SpecAV a p)(H:Hp):Ze DT [a] H=X (Q J (Vq p),H):=by
 obtain⟨a',j,u⟩:=h.close [] 0 5;obtain⟨H',w⟩:=Zpe u [];exact YG j w rfl
end Go.Am
namespace Go.Am
open Go.Proofs
def RowN (n:Nat)(H:Hp)(k:Nat)(x:AV)(l:du):Prop:=x=.nils/\l=[]\/∃ t e,x=.vs k (.own t e) l/\H[t]?=X (.tok e)/\n<=t
def Keep (n:Nat)(H H':Hp):Prop:=∀ i,i<n->H'[i]?=H[i]?
theorem Keep.refl (n:Nat)(H:Hp):Keep n H H:=λ_ _=>rfl
theorem Keep.trans {n:Nat}{A B C:Hp}(h:Keep n A B)(k:Keep n B C):Keep n A C:=λi hi=>(k i hi).trans (h i hi)
theorem Keep.push {n:Nat}(H:Hp)(h:n<=O H)(l:List AObj):Keep n H (H++l):=λi hi=>List.getElem?_append_left K
theorem RowN.nil (n:Nat)(H:Hp)(k:Nat):RowN n H k .nils []:=.inl ⟨rfl,rfl⟩
theorem RowN.sl {n:Nat}{H:Hp}{k:Nat}{x:AV}{l:du}(h:RowN n H k x l):Sl k x l:=h.imp id λ⟨t,e,a,_⟩=>⟨_,a⟩
theorem RowN.app {n:Nat}{H:Hp}{k:Nat}{x:AV}{l:du}(h:RowN n H k x l)(B:n<=O H)(j:Nat)(y:AV)(w:du)(G:elems k y H=X w)(D:(O l+O w)*(j+1)<=140737488355328) :
 ∃ E H',Ya k j x y H=X (E,H')/\RowN n H' k E (l++w)/\n<=O H'/\Keep n H H'/\(∀ (i:Nat) (c:du),H[i]?=X (.cells c)->H'[i]?=X (.cells c)):=by
 unfold Ya;simp only[G];rcases h with ⟨rfl,rfl⟩|⟨t,e,rfl,C,A⟩
 ·by_cases z:w=[]
  ·subst z;exact⟨.nils,H,by simp[YR],.inl ⟨rfl,rfl⟩,B,Keep.refl _ _,λ_ _ h=>h⟩
  ·have u:Xe (O w) j=Y:=by simpa[Xe]using D
   exact⟨.vs k (.own (O H) (O w)) w,H++[.tok (O w)],by simp only[YR,z,if_false,u,if_true],.inr ⟨O H,O w,rfl,dh,B⟩,by simp;omega,Keep.push H B _,λi c h=>XC h _⟩
 ·have u:Xe (O l+O w) j=Y:=by simpa[Xe]using D
  by_cases z:w=[]
  ·subst z;exact⟨.vs k (.own t e) l,H,by simp only[YR,List.length_nil,zS]at u ⊢;simp only[u,and_self,if_true],.inr ⟨t,e,dh,C,A⟩,B,Keep.refl _ _,λ_ _ h=>h⟩
  ·refine⟨_,_,by simp only[YR,u,and_self,if_true,z,if_false,C],.inr ⟨t,e+O w,rfl,Zu _ C,A⟩,by simp;omega,λi hi=>List.getElem?_set_ne K,λi c h=>?_⟩;refine YX _ (λF=>?_) h;subst F;rw[C]at h;cases h
def ZsS (n j:Nat):Bool:=match Z2 .and (Q J n) (Q J ((2 ^ j:Nat):Int)) with
 |some (Q J m)=>m==(if n.testBit j then ((2 ^ j:Nat):Int) else 0)
 |_=>I
theorem Zqy:((zR 32).all λn=>(zR 5).all λj=>ZsS n j)=Y:=dz
theorem W2 {n:Nat}{p:Nat->Bool}(h:(zR n).all p=Y){i:Nat}(hi:i<n):p i=Y:=List.all_eq_true.1 h i (List.mem_range.2 hi)
theorem Zbk {n j:Nat}(y:n<32)(u:j<5):Z2 .and (Q J n) (Q J ((2 ^ j:Nat):Int))=X (Q J (if n.testBit j then ((2 ^ j:Nat):Int) else 0)):=by
 have h:=W2 (W2 Zqy y) u;unfold ZsS at h;split at h
 ·rename_i m w;rw[w];have:m=(if n.testBit j then ((2 ^ j:Nat):Int) else 0):=by simpa using h
  rw[this]
 ·cases h
noncomputable def ZsT (n j:Nat):Bool:=match Zkb (Q J n) (Q J ((2 ^ j:Nat):Int)) [] with
 |some (.bool b,[])=>b==n.testBit j
 |_=>I
theorem Zqz:((zR 32).all λn=>(zR 5).all λj=>ZsT n j)=Y:=dz
theorem ZbO {n j:Nat}(y:n<32)(w:j<5)(H:Hp):Ze Wi [Q J n,Q J ((2 ^ j:Nat):Int)] H=X (.bool (n.testBit j),H):=by
 have h:=W2 (W2 Zqz y) w;unfold ZsT at h;split at h
 ·rename_i b u;have:b=n.testBit j:=by simpa using h
  subst this;exact Xn (a':=Q J n) (b':=Q J ((2 ^ j:Nat):Int)) rfl rfl ((Zma _ _ _).trans u) rfl
 ·cases h
end Go.Am
