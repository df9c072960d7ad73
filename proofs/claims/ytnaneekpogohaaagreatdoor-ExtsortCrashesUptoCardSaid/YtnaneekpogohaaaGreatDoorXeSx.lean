/- The fields of a line -/
import Derived.Test.YtnaneekpogohaaaGreatDoorXeGx
import Derived.Test.YtnaneekpogohaaaGreatDoorHmSx
open Go.Am.AV renaming int->J
open Go.IntKind renaming i64->yE
open Go.IntKind renaming i64->yD
open List renaming getElem?_cons_zero->zA,getElem?_cons_succ->zB,drop_succ_cons->zH,drop_eq_nil_iff->zI,getElem?_eq_getElem->zJ,drop_eq_getElem_cons->zL,drop_drop->zN,drop_zero->zO,length_map->zS,mem_of_getElem?->zT,takeWhile_cons->zU,mem_cons->zV,length_drop->zW,range->zY,mapM_cons->zZ,any_cons->yB,any_nil->yC
open Nat renaming zero_add->zC,le_refl->zP,add_zero->zQ,strongRecOn->zX
open Bool renaming false_or->zD,true_or->zE,false_eq_true->zF,not_true->zK,false_and->zM,eq_iff_iff->zR,true_and->yA
open UInt8 renaming ofNat->zG
namespace Go.Am
theorem Zzt (b:UInt8)(n:Nat)(h:n<256):(((b.toNat:Int))==(n:Int))=(b==zG n):=by
 rw[zR];simp only[beq_iff_eq];constructor
 ·intro e;have:b.toNat=n:=by omega
  rw[<-this];simp
 ·intro e;subst e;simp;omega
def Xr (b:UInt8):Bool:=b==32 || b==9
theorem Hm (b:UInt8):(((b.toNat:Int))==32)=(b==32)/\(((b.toNat:Int))==9)=(b==9):=⟨Zzt b 32 (by decide),Zzt b 9 (by decide)⟩
theorem OQ (b:UInt8)(H:Hp):Vz [.int .u8 b.toNat] H=some (.bool (Xr b),H):=by
 rw[ZcF];unfold CQ Xr;simp only[go_sem,(Hm b).1];cases (b==32) <;> simp[go_sem,(Hm b).2]
theorem ZjQ (s:List UInt8)(n:Int)(H:Hp):KR [.str s,.int .u8 n] H=some (J yE (Ky (zG n.toNat) s 0),H):=by
 rw[Az];unfold TG;rw[GV];unfold Uu;simp only[go_sem]
def Xk (c:UInt8):List UInt8->Nat->Nat->List (Nat×Nat)
 |[],f,p=>[(f,p)]
 |b::l,f,p=>if b=c then (f,p)::Xk c l (p+1) (p+1) else Xk c l f (p+1)
theorem ZdQ (c b:UInt8)(l:List UInt8)(f p:Nat):Xk c (b::l) f p=if b=c then (f,p)::Xk c l (p+1) (p+1) else Xk c l f (p+1):=(Eq.refl _).trans (Eq.refl _)
theorem ZoI (c b:UInt8)(l:List UInt8)(k:Nat):Ky c (b::l) k=if b=c then (k:Int) else Ky c l (k+1):=(Eq.refl _).trans (Eq.refl _)
theorem ZoC (c:UInt8):∀ (l:List UInt8) (f p k:Nat),
 (Ky c l k=-1/\Xk c l f p=[(f,p+l.length)])\/∃ e,e<l.length/\Ky c l k=((k+e:Nat):Int)/\Xk c l f p=(f,p+e)::Xk c (l.drop (e+1)) (p+e+1) (p+e+1):=by
 intro l
 induction l with
 |nil=>intro f p k;exact .inl ⟨rfl,rfl⟩
 |cons b l u =>
  intro f p k;rw[ZoI,ZdQ];by_cases h:b=c
  ·exact .inr ⟨0,by simp,by simp[h],by simp[h]⟩
  ·simp only[h,if_false];rcases u f (p+1) (k+1) with ⟨g,j⟩|⟨e,w,g,j⟩
   ·exact .inl ⟨g,by rw[j];simp[Nat.add_comm,Nat.add_left_comm]⟩
   ·refine .inr ⟨e+1,by simp;omega,by rw[g];congr 1;omega,?_⟩;rw[j,zH];simp only[show p+1+e=p+(e+1) by omega]
def Zk5 (a b:Nat)(ok:Bool):AV:=.tuple [J yE a,J yE b,.bool ok]
theorem Zid {g:List UInt8}(I:g.length<=1048576){sep:Int}(T:0<=sep)(U:sep<=255){n:Int}(K H:Hp):∀ (k f i:Nat),g.length+1-f=k->f<=g.length->i<=f+1->(i:Int)<=n ->
 ∃ a b,Kh (.str g) (J yE n) (J yE sep) (J yE (f:Int)) (J yE (i:Int)) K H =
  some (Zk5 a b (decide (n<i+(Xk (zG sep.toNat) (g.drop f) f f).length)),H) /\
  (n<i+(Xk (zG sep.toNat) (g.drop f) f f).length->(Xk (zG sep.toNat) (g.drop f) f f)[(n-i).toNat]?=some (a,b)):=by
 intro k
 induction k using zX with
 |_ k Q =>
  intro f i hk V hi W;rw[Zch];have w:=Ls (s:=g) (n:=(f:Int)) .i64 (by omega) (by omega);have C:((f:Int)).toNat=f:=by omega
  rw[C]at w
  have B:Yr .u8 (J yE sep)=some (.int .u8 sep):=by
   have:IntKind.u8.wrap sep=sep:=by
    unfold IntKind.wrap;have L:(2 ^ IntKind.u8.bits:Int)=256:=by decide
    have M:IntKind.u8.signed=false:=rfl;simp only[L,M,zM,zF,if_false];omega
   simp[Yr,this]
  simp only[w,go_sem,B,ZjQ];rcases ZoC (zG sep.toNat) (g.drop f) f f 0 with ⟨y,z⟩|⟨e,N,y,z⟩
  ·have j:decide (Ky (zG sep.toNat) (g.drop f) 0<0)=true:=by rw[y];decide
   simp only[j,go_sem];rw[z];refine⟨f,g.length,?_,fun h=>?_⟩
   ·have:((i:Int)==n)=decide (n<(i:Int)+([(f,f+(g.drop f).length)]:List (Nat×Nat)).length):=by
     rw[zR];simp;omega
    rw[this];rfl
   ·have u:n=i:=by simp at h;omega
    subst u;simp;omega
  ·have j:decide (Ky (zG sep.toNat) (g.drop f) 0<0)=false:=by rw[y];simp
   simp only[j,go_sem,ZaT];rw[y,z];simp only[zW]at N;by_cases u:(i:Int)=n
   ·have A:((i:Int)==n)=true:=by simp[u]
    have hw:yD.wrap ((f:Int)+((0+e:Nat):Int))=((f+e:Nat):Int):=by rw[Zp (by omega) (by omega)];omega
    simp only[A,go_sem,hw];refine⟨f,f+e,?_,fun _=>by simp[<-u]⟩
    have:(true:Bool)=decide (n<(i:Int)+((f,f+e)::Xk (zG sep.toNat) ((g.drop f).drop (e+1)) (f+e+1) (f+e+1)).length):=by
     symm;simp;omega
    rw[<-this];rfl
   ·have A:((i:Int)==n)=false:=by simp[u]
    have D:yD.wrap (((0+e:Nat):Int)+1)=((e+1:Nat):Int):=by rw[Zp (by omega) (by omega)];omega
    have E:yD.wrap ((f:Int)+((e+1:Nat):Int))=((f+e+1:Nat):Int):=by rw[Zp (by omega) (by omega)];omega
    have F:yD.wrap ((i:Int)+1)=((i+1:Nat):Int):=by rw[Zp (by omega) (by omega)];omega
    simp only[A,go_sem,ZaU,D,E,ZaS,F];obtain⟨a,b,R,S⟩:=Q (g.length+1-(f+e+1)) (by omega) (f+e+1) (i+1) rfl (by omega) (by omega) (by omega);rw[zN,show f+(e+1)=f+e+1 by omega];refine⟨a,b,?_,fun h=>?_⟩
    ·rw[R]
     have:decide (n<((i+1:Nat):Int)+(Xk (zG sep.toNat) (g.drop (f+e+1)) (f+e+1) (f+e+1)).length) =
      decide (n<(i:Int)+((f,f+e)::Xk (zG sep.toNat) (g.drop (f+e+1)) (f+e+1) (f+e+1)).length):=by
      congr 1;simp;constructor <;> intro h <;> omega
     rw[this]
    ·have O:n<((i+1:Nat):Int)+(Xk (zG sep.toNat) (g.drop (f+e+1)) (f+e+1) (f+e+1)).length:=by simp at h ⊢;omega
     have:=S O;rw[show (n-(i:Int)).toNat=(n-((i+1:Nat):Int)).toNat+1 by omega];simpa using this
def YA (l:List UInt8):Nat:=(l.takeWhile Xr).length
def W8 (l:List UInt8):Nat:=(l.takeWhile fun b=>!Xr b).length
theorem ZkW:YA []=0:=rfl
theorem Zeo:W8 []=0:=rfl
theorem Uc (b:UInt8)(l:List UInt8):YA (b::l)=if Xr b then YA l+1 else 0:=by
 unfold YA;rw[zU];split <;> simp
theorem Bc (b:UInt8)(l:List UInt8):W8 (b::l)=if Xr b then 0 else W8 l+1:=by
 unfold W8;rw[zU];cases Xr b <;> simp
theorem Zh6 (l:List UInt8):YA l<=l.length:=by
 induction l with
 |nil=>simp[ZkW]
 |cons b l g=>rw[Uc];split <;> simp;exact g
theorem ZwU (l:List UInt8):W8 l<=l.length:=by
 induction l with
 |nil=>simp[Zeo]
 |cons b l g=>rw[Bc];split <;> simp;exact g
def Q6:Bool->List UInt8->Nat->Nat->List (Nat×Nat)
 |_,[],f,p=>[(f,p)]
 |q,b::l,f,p=>if Xr b&&!q then (f,p)::Q6 (Xr b) l p (p+1) else Q6 (Xr b) l f (p+1)
theorem Sp (q:Bool)(b:UInt8)(l:List UInt8)(f p:Nat):Q6 q (b::l) f p=if Xr b&&!q then (f,p)::Q6 (Xr b) l p (p+1) else Q6 (Xr b) l f (p+1):=(Eq.refl _).trans (Eq.refl _)
def JX:List UInt8->Nat->List (Nat×Nat)
 |[],_=>[]
 |x::l,f=>Q6 (Xr x) l f (f+1)
theorem Zku (x:UInt8)(l:List UInt8)(f:Nat):JX (x::l) f=Q6 (Xr x) l f (f+1):=(Eq.refl _).trans (Eq.refl _)
theorem Zkp:∀ (l:List UInt8) (f p:Nat),Q6 false l f p=(f,p+W8 l)::JX (l.drop (W8 l)) (p+W8 l):=by
 intro l
 induction l with
 |nil=>intro f p;rfl
 |cons b l h =>
  intro f p;rw[Sp,Bc]
  cases g:Xr b with
  |true=>simp[JX,g]
  |false =>
   simp only[zM,zF,if_false];rw[h];simp only[zH,show p+1+W8 l=p+(W8 l+1) by omega]
theorem Zt1:∀ (l:List UInt8) (f p:Nat),Q6 true l f p=match l.drop (YA l) with
 |[]=>[(f,p+YA l)]
 |m::l'=>Q6 false l' f (p+YA l+1):=by
 intro l
 induction l with
 |nil=>intro f p;rfl
 |cons b l g =>
  intro f p;rw[Sp,Uc]
  cases h:Xr b with
  |true =>
   simp only[zK,Bool.and_false,zF,if_false,if_true,zH];rw[g];simp only[show p+1+YA l=p+(YA l+1) by omega]
  |false=>simp
def Uw (l:List UInt8):Nat:=YA l+W8 (l.drop (YA l))
theorem ZsT (l:List UInt8){m:UInt8}{u:List UInt8}(h:l.drop (YA l)=m::u):Xr m=false:=by
 induction l with
 |nil=>simp at h
 |cons b l j =>
  rw[Uc]at h
  cases g:Xr b with
  |true=>simp[g]at h;exact j h
  |false=>simp[g]at h;rw[<-h.1];exact g
theorem Ztf (l:List UInt8)(f:Nat)(h:0<l.length):JX l f=(f,f+Uw l)::JX (l.drop (Uw l)) (f+Uw l):=by
 cases l with
 |nil=>simp at h
 |cons x l =>
  rw[Zku];unfold Uw;rw[Uc]
  cases y:Xr x with
  |false =>
   simp only[zF,if_false,zO,zC,Bc,y,zH];rw[Zkp];simp only[show f+1+W8 l=f+(W8 l+1) by omega]
  |true =>
   simp only[if_true];rw[Zt1];simp only[zH]
   cases j:l.drop (YA l) with
   |nil =>
    have u:YA l=l.length:=by
     have:=zI.1 j;have:=Zh6 l;omega
    simp only[Zeo,zQ];have:(x::l).drop (YA l+1)=[]:=by simp[j]
    rw[this];simp[show f+1+YA l=f+(YA l+1) by omega,JX]
   |cons m g =>
    have hm:=ZsT l j;simp only[Bc,hm,zF,if_false];rw[Zkp]
    have w:(x::l).drop (YA l+1+(W8 g+1))=g.drop (W8 g):=by
     have:(x::l).drop (YA l+1+(W8 g+1))=(m::g).drop (W8 g+1):=by
      rw[<-j,zN,show YA l+1+(W8 g+1)=(YA l+(W8 g+1))+1 by omega,zH]
     rw[this,zH]
    rw[w];simp only[show f+1+YA l+1+W8 g=f+(YA l+1+(W8 g+1)) by omega]
theorem ZvI (l:List UInt8)(h:0<l.length):0<Uw l:=by
 cases l with
 |nil=>simp at h
 |cons x l =>
  unfold Uw;rw[Uc]
  cases g:Xr x with
  |true=>simp;omega
  |false=>simp[Bc,g]
theorem ZxU (l:List UInt8):Uw l<=l.length:=by
 unfold Uw;have h:=Zh6 l;have g:=ZwU (l.drop (YA l));simp at g;omega
theorem ZX {s:List UInt8}{i:Nat}{b:UInt8}(h:s[i]?=some b):Zy (.str s) (J yE (i:Int))=some (.int .u8 b.toNat):=by simp[Zy,h]
theorem Qj {s:List UInt8}{i:Nat}(h:i<s.length):s.drop i=s[i]::s.drop (i+1):=zL h
theorem Zxp {g:List UInt8}(w:g.length<=1048576)(n f i:AV)(j H:Hp):∀ (k p:Nat),g.length-p=k->p<=g.length ->
 Kg (.str g) n f (J yE (p:Int)) i j H=FK (.str g) n f (J yE ((p+YA (g.drop p):Nat):Int)) i j H:=by
 intro k
 induction k with
 |zero =>
  intro p hk z;rw[P2];have h:decide ((p:Int)<(g.length:Int))=false:=by simp;omega
  have y:g.drop p=[]:=zI.2 (by omega);simp only[go_sem,h,y,ZkW,zQ]
 |succ k A =>
  intro p hk z;rw[P2];have h:decide ((p:Int)<(g.length:Int))=true:=by simp;omega
  have u:p<g.length:=by omega
  have hw:yD.wrap ((p:Int)+1)=((p+1:Nat):Int):=by rw[Zp (by omega) (by omega)];omega
  simp only[go_sem,h,ZX (zJ u),OQ];rw[Qj u,Uc]
  cases B:Xr g[p] with
  |true =>
   simp only[go_sem,Zcf,hw,if_true];rw[A (p+1) (by omega) (by omega),show p+1+YA (g.drop (p+1))=p+(YA (g.drop (p+1))+1) by omega]
  |false=>simp[go_sem]
theorem Zxo {g:List UInt8}(w:g.length<=1048576)(n f i:AV)(j H:Hp):∀ (k p:Nat),g.length-p=k->p<=g.length ->
 Kf (.str g) n f (J yE (p:Int)) i j H=FL (.str g) n f (J yE ((p+W8 (g.drop p):Nat):Int)) i j H:=by
 intro k
 induction k with
 |zero =>
  intro p hk z;rw[P1];have h:decide ((p:Int)<(g.length:Int))=false:=by simp;omega
  have y:g.drop p=[]:=zI.2 (by omega);simp only[go_sem,h,y,Zeo,zQ]
 |succ k A =>
  intro p hk z;rw[P1];have h:decide ((p:Int)<(g.length:Int))=true:=by simp;omega
  have u:p<g.length:=by omega
  have hw:yD.wrap ((p:Int)+1)=((p+1:Nat):Int):=by rw[Zp (by omega) (by omega)];omega
  simp only[go_sem,h,ZX (zJ u),OQ];rw[Qj u,Bc]
  cases B:Xr g[p] with
  |false =>
   simp only[Bool.not_false,go_sem,Zce,hw,zF,if_false];rw[A (p+1) (by omega) (by omega),show p+1+W8 (g.drop (p+1))=p+(W8 (g.drop (p+1))+1) by omega]
  |true=>simp[go_sem]
theorem ZgI {g:List UInt8}(j:g.length<=1048576){n:Int}(D H:Hp):∀ (k f i:Nat),g.length-f=k->f<=g.length->i<=f+1->(i:Int)<=n ->
 ∃ a b,Kd (.str g) (J yE n) (J yE (f:Int)) (J yE (i:Int)) D H=some (Zk5 a b (decide (n<i+(JX (g.drop f) f).length)),H) /\
  (n<i+(JX (g.drop f) f).length->(JX (g.drop f) f)[(n-i).toNat]?=some (a,b)):=by
 intro k
 induction k using zX with
 |_ k M =>
  intro f i hk Q hi R;rw[Zcg];by_cases I:f<g.length
  ·have u:decide ((f:Int)<(g.length:Int))=true:=by simp;omega
   have y:0<(g.drop f).length:=by simp;omega
   simp only[go_sem,u,Zc9];rw[Zxp j _ _ _ _ _ _ f rfl (by omega),Zcb];have A:=Zh6 (g.drop f);have B:=ZxU (g.drop f);have L:=ZvI (g.drop f) y;simp only[zW]at A B;rw[Zxo j _ _ _ _ _ _ (f+YA (g.drop f)) rfl (by omega),Zcc]
   have F:f+YA (g.drop f)+W8 (g.drop (f+YA (g.drop f)))=f+Uw (g.drop f):=by
    unfold Uw;rw[zN];omega
   rw[F,Ztf _ _ y,zN];by_cases w:(i:Int)=n
   ·have z:((i:Int)==n)=true:=by simp[w]
    simp only[z,go_sem];refine⟨f,f+Uw (g.drop f),?_,fun _=>by simp[<-w]⟩
    have:(true:Bool)=decide (n<(i:Int)+((f,f+Uw (g.drop f))::JX (g.drop (f+Uw (g.drop f))) (f+Uw (g.drop f))).length):=by
     symm;simp;omega
    rw[<-this];rfl
   ·have z:((i:Int)==n)=false:=by simp[w]
    have C:yD.wrap ((i:Int)+1)=((i+1:Nat):Int):=by rw[Zp (by omega) (by omega)];omega
    simp only[z,go_sem,Zcd,Zca,C];obtain⟨a,b,N,O⟩:=M (g.length-(f+Uw (g.drop f))) (by omega) (f+Uw (g.drop f)) (i+1) rfl (by omega) (by omega) (by omega);refine⟨a,b,?_,fun h=>?_⟩
    ·rw[N]
     have:decide (n<((i+1:Nat):Int)+(JX (g.drop (f+Uw (g.drop f))) (f+Uw (g.drop f))).length) =
      decide (n<(i:Int)+((f,f+Uw (g.drop f))::JX (g.drop (f+Uw (g.drop f))) (f+Uw (g.drop f))).length):=by
      congr 1;simp;constructor <;> intro h <;> omega
     rw[this]
    ·have K:n<((i+1:Nat):Int)+(JX (g.drop (f+Uw (g.drop f))) (f+Uw (g.drop f))).length:=by simp at h ⊢;omega
     have:=O K;rw[show (n-(i:Int)).toNat=(n-((i+1:Nat):Int)).toNat+1 by omega];simpa using this
  ·have u:decide ((f:Int)<(g.length:Int))=false:=by simp;omega
   have E:g.drop f=[]:=zI.2 (by omega);simp only[go_sem,u,Zc8,E,JX];refine⟨0,0,?_,fun h=>by simp at h;omega⟩;have:decide (n<(i:Int)+([]:List (Nat×Nat)).length)=false:=by simp;omega
   rw[this];rfl
def fields (g:List UInt8)(sep:Int):List (Nat×Nat):=if 0<=sep/\sep<=255 then Xk (zG sep.toNat) g 0 0 else JX g 0
theorem Zie {g:List UInt8}(j:g.length<=1048576)(sep:Int){n:Int}(D:1<=n)(H:Hp) :
 ∃ a b,G2 [.str g,J yE n,J yE sep] H=some (Zk5 a b (decide (n<=(fields g sep).length)),H) /\
  (n<=(fields g sep).length->(fields g sep)[(n-1).toNat]?=some (a,b)):=by
 rw[ZcG];unfold CR fields;by_cases h:0<=sep/\sep<=255
 ·have w:decide ((0:Int)<=sep)=true:=by simp[h.1]
  have A:decide (sep<=(255:Int))=true:=by simp[h.2]
  rw[if_pos h];simp only[go_sem,w,A];obtain⟨a,b,y,z⟩:=Zid j h.1 h.2 (n:=n) H H _ 0 1 rfl (by omega) (by omega) (by omega);simp only[zO]at y z;refine⟨a,b,?_,fun h=>z (by omega)⟩;have:decide (n<=((Xk (zG sep.toNat) g 0 0).length:Int))=decide (n<((1:Nat):Int)+(Xk (zG sep.toNat) g 0 0).length):=by congr 1;simp;constructor <;> intro h <;> omega
  rw[this];exact y
 ·obtain⟨a,b,y,z⟩:=ZgI j (n:=n) H H _ 0 1 rfl (by omega) (by omega) (by omega);simp only[zO]at y z
  have u:FJ (.str g) (J yE n) (J yE 0) H H=some (Zk5 a b (decide (n<=((JX g 0).length:Int))),H):=by
   rw[Zc7];have:decide (n<=((JX g 0).length:Int))=decide (n<((1:Nat):Int)+(JX g 0).length):=by congr 1;simp;constructor <;> intro h <;> omega
   rw[this];exact y
  refine⟨a,b,?_,fun B=>by rw[if_neg h]at B ⊢;exact z (by omega)⟩;rw[if_neg h];by_cases C:0<=sep
  ·have w:decide ((0:Int)<=sep)=true:=by simp[C]
   have A:decide (sep<=(255:Int))=false:=by simp;omega
   simp only[go_sem,w,A];exact u
  ·have w:decide ((0:Int)<=sep)=false:=by simp;omega
   simp only[go_sem,w];exact u
theorem ZqJ (c:UInt8)(L:Nat):∀ (l:List UInt8) (f p:Nat),f<=p->p+l.length=L->∀ x∈Xk c l f p,x.1<=x.2/\x.2<=L:=by
 intro l
 induction l with
 |nil=>intro f p u h x g;simp[Xk]at g;subst g;simp at h;simp;omega
 |cons b l j =>
  intro f p u h x g;rw[ZdQ]at g;simp at h;split at g
  ·rcases zV.1 g with rfl|g
   ·simp;omega
   ·exact j (p+1) (p+1) (by omega) (by omega) x g
  ·exact j f (p+1) (by omega) (by omega) x g
theorem ZqK (L:Nat):∀ (l:List UInt8) (q:Bool) (f p:Nat),f<=p->p+l.length=L->∀ x∈Q6 q l f p,x.1<=x.2/\x.2<=L:=by
 intro l
 induction l with
 |nil=>intro q f p u h x g;simp[Q6]at g;subst g;simp at h;simp;omega
 |cons b l j =>
  intro q f p u h x g;rw[Sp]at g;simp at h;split at g
  ·rcases zV.1 g with rfl|g
   ·simp;omega
   ·exact j _ p (p+1) (by omega) (by omega) x g
  ·exact j _ f (p+1) (by omega) (by omega) x g
theorem Zkq (g:List UInt8)(sep:Int):∀ x∈fields g sep,x.1<=x.2/\x.2<=g.length:=by
 intro x h;unfold fields at h;split at h
 ·exact ZqJ _ g.length g 0 0 (zP _) (by omega) x h
 ·cases g with
  |nil=>simp[JX]at h
  |cons a l=>rw[Zku]at h;exact ZqK (a::l).length l _ 0 1 (by omega) (by simp;omega) x h
structure Ke where
 ff:Int
 fc:Int
 tf:Int
 tc:Int
 fl:Int
def Ke.cells (k:Ke):List AV:=[J yE k.ff,J yE k.fc,J yE k.tf,J yE k.tc,J yE k.fl]
structure KeOk (k:Ke):Prop where
 ff:-9223372036854775808<=k.ff/\k.ff<=9223372036854775807
 fc:-9223372036854775808<=k.fc/\k.fc<=9223372036854775807
 tf:-9223372036854775808<=k.tf/\k.tf<=9223372036854775807
 tc:-9223372036854775808<=k.tc/\k.tc<=9223372036854775807
def Nv (lo hi:Nat)(k:Ke):Nat:=lo+(min (max k.fc 1-1) ((hi:Int)-lo)).toNat
def Za8 (g:List UInt8)(fs:List (Nat×Nat))(k:Ke):Nat :=
 if 0<k.tf/\k.tf<=fs.length then (let p:=fs.getD (k.tf-1).toNat (0,0);if 0<k.tc then p.1+(min k.tc ((p.2:Int)-p.1)).toNat else p.2) else g.length
def ex (g:List UInt8)(fs:List (Nat×Nat))(k:Ke):List UInt8 :=
 if max k.ff 1<=fs.length then
  (let p:=fs.getD (max k.ff 1-1).toNat (0,0);if Za8 g fs k<Nv p.1 p.2 k then [] else (g.take (Za8 g fs k)).drop (Nv p.1 p.2 k)) else []
theorem ZwQ (H:Hp)(x y:AObj):List.set (H++[x]) H.length y=H++[y]:=by simp
theorem VS (H:Hp)(x:AObj):(H++[x])[H.length]?=some x:=ZmV _ _ _
theorem Y2 {H:Hp}{o off:Nat}{l:List AV}(h:H[o]?=some (.cells l)):Z3 false 1 (.ptr o off) H=l[off]?:=by rw[YB h];simp[Go.Am.apart]
theorem OU {g:List UInt8}{f e:Nat}(B:f<=g.length)(A:e<=g.length)(j:g.length<=1048576)(w H:Hp) :
 Wi (.str g) (J yE (f:Int)) (J yE (e:Int)) w H=some (.str (if e<f then [] else (g.take e).drop f),H):=by
 rw[On];by_cases h:e<f
 ·have c:decide ((e:Int)<(f:Int))=true:=by simp;omega
  simp only[go_sem,c,h,if_true]
 ·have c:decide ((e:Int)<(f:Int))=false:=by simp;omega
  have u:=OP (s:=g) (n:=(f:Int)) (m:=(e:Int)) .i64 .i64 (by omega) (by omega) (by omega);have y:((f:Int)).toNat=f:=by omega
  have z:((e:Int)).toNat=e:=by omega
  rw[y,z]at u;simp only[go_sem,c,Oo,u,h,if_false]
theorem ZjM {fs:List (Nat×Nat)}{i:Nat}{p:Nat×Nat}(h:fs[i]?=some p):fs.getD i (0,0)=p:=by simp[List.getD_eq_getElem?_getD,h]
theorem Zdw {g:List UInt8}(u:g.length<=1048576){k:Ke}(hk:KeOk k)(sep:Int)(H:Hp) :
 ∃ H',QQ [.str g,.agg k.cells,J yE sep] H=some (.str (ex g (fields g sep) k),H')/\(∀ (i:Nat) (x:AObj),H[i]?=some x->H'[i]?=some x):=by
 rw[OB];unfold ME;have E:ZO (.agg k.cells) H=some (.ptr H.length 0,H++[.cells k.cells]):=R4 rfl;have j:=VS H (.cells k.cells);obtain⟨a,b,T,Y⟩:=Zie u sep (n:=max k.ff 1) (by omega) (H++[.cells k.cells]);simp only[Ke.cells]at E j T ⊢;simp only[E,go_sem,zC,Y2 j,zA];rw[T];simp only[go_sem,Zk5,zA,zB];have y:∀ (i:Nat) (x:AObj),H[i]?=some x->(H++[AObj.cells [J yE k.ff,J yE k.fc,J yE k.tf,J yE k.tc,J yE k.fl]])[i]?=some x:=fun i x h=>Y3 h _;by_cases C:max k.ff 1<=((fields g sep).length:Int)
 ·have L:(!decide (max k.ff 1<=((fields g sep).length:Int)))=false:=by simp[C]
  have I:=Y C;obtain⟨Z,r2⟩:=Zkq g sep _ (zT I);simp only at Z r2;simp only[L,go_sem,Om,zC,Y2 j,Ke.cells,zA,zB];have V:=hk.fc;have w1:yD.wrap (max k.fc 1-1)=max k.fc 1-1:=Zp (by omega) (by omega);have w2:yD.wrap ((b:Int)-a)=(b:Int)-a:=Zp (by omega) (by omega);have w3:yD.wrap ((a:Int)+min (max k.fc 1-1) ((b:Int)-a))=((Nv a b k:Nat):Int):=by rw[Zp (by omega) (by omega)];unfold Nv;omega
  have B:Nv a b k<=g.length:=by unfold Nv;omega
  simp only[w1,w2,w3]
  have A:∀ e:Nat,e<=g.length->e=Za8 g (fields g sep) k->ex g (fields g sep) k=(if e<Nv a b k then [] else (g.take e).drop (Nv a b k)):=by
   intro e _ U;subst U;unfold ex;rw[if_pos C,ZjM I]
  by_cases K:0<k.tf
  ·have M:decide ((0:Int)<k.tf)=true:=by simp[K]
   obtain⟨D,F,S,X⟩:=Zie u sep (n:=k.tf) (by omega) (H++[.cells k.cells]);simp only[Ke.cells]at S;simp only[M,go_sem,zC,Y2 j,Ke.cells,zA,zB,S,Zk5];by_cases w:k.tf<=((fields g sep).length:Int)
   ·have N:decide (k.tf<=((fields g sep).length:Int))=true:=by simp[w]
    have z:=X w;obtain⟨s1,R⟩:=Zkq g sep _ (zT z);simp only at s1 R;simp only[N,go_sem,zC,Y2 j,Ke.cells,zA,zB];have W:=hk.tc;by_cases Q:0<k.tc
    ·have O:decide ((0:Int)<k.tc)=true:=by simp[Q]
     have w4:yD.wrap ((F:Int)-D)=(F:Int)-D:=Zp (by omega) (by omega);have w5:yD.wrap ((D:Int)+min k.tc ((F:Int)-D))=((D+(min k.tc ((F:Int)-D)).toNat:Nat):Int):=by rw[Zp (by omega) (by omega)];omega
     simp only[O,go_sem,zC,Y2 j,Ke.cells,zA,zB,w4,w5];rw[OU B (by omega) u];rw[A (D+(min k.tc ((F:Int)-D)).toNat) (by omega) (by unfold Za8;rw[if_pos ⟨K,w⟩,ZjM z];simp[Q])];exact⟨_,rfl,y⟩
    ·have O:decide ((0:Int)<k.tc)=false:=by simp;omega
     simp only[O,go_sem];rw[OU B R u];rw[A F R (by unfold Za8;rw[if_pos ⟨K,w⟩,ZjM z];simp[Q])];exact⟨_,rfl,y⟩
   ·have N:decide (k.tf<=((fields g sep).length:Int))=false:=by simp;omega
    simp only[N,go_sem];rw[OU B (zP _) u];rw[A g.length (zP _) (by unfold Za8;rw[if_neg (fun h=>w h.2)])];exact⟨_,rfl,y⟩
  ·have M:decide ((0:Int)<k.tf)=false:=by simp;omega
   simp only[M,go_sem];rw[OU B (zP _) u];rw[A g.length (zP _) (by unfold Za8;rw[if_neg (fun h=>K h.1)])];exact⟨_,rfl,y⟩
 ·have L:(!decide (max k.ff 1<=((fields g sep).length:Int)))=true:=by simp;omega
  simp only[L,go_sem];have:ex g (fields g sep) k=[]:=by unfold ex;rw[if_neg C]
  rw[this];exact⟨_,rfl,y⟩
def Sl (k:Nat)(x:AV)(l:List AV):Prop:=x=.nils/\l=[]\/∃ tok,x=.vs k tok l
theorem Sl.len {k:Nat}{x:AV}{l:List AV}(h:Sl k x l)(e:Nat):Zk (.slice e) x=some (J yE l.length):=by
 rcases h with ⟨rfl,rfl⟩|⟨tok,rfl⟩ <;> rfl
theorem Sl.idx {k:Nat}{x:AV}{l:List AV}(h:Sl k x l){i:Nat}{c:AV}(hi:l[i]?=some c):Zo k x (J yE (i:Int))=some (.vp c.cells):=by
 rcases h with ⟨rfl,rfl⟩|⟨tok,rfl⟩
 ·simp at hi
 ·simp[Zo,hi]
theorem O4 {f:AV->Option AV}:∀ {l:List AV},(∀ x∈l,f x=some x)->l.mapM f=some l:=by
 intro l
 induction l with
 |nil=>intro _;rfl
 |cons a l j =>
  intro h;rw[zZ,h a (by simp),j (fun x g=>h x (by simp[g]))];rfl
theorem ZsF (H:Hp)(n f k:Nat)(tok:Tok)(l:List AV):Ze H n (f+1) (.vs k tok l)=match l.mapM (Ze H n f) with
 |some l=>some (.vs k (match tok with|.own t e=>if t<n then .own t e else .no|tok=>tok) l)
 |none=>none:=(Eq.refl _).trans (Eq.refl _)
theorem KM (H:Hp)(n f:Nat)(l:List AV):Ze H n (f+1) (.agg l)=match l.mapM (Ze H n f) with
 |some l=>some (.agg l)
 |none=>none:=(Eq.refl _).trans (Eq.refl _)
theorem Sl.close {k:Nat}{x:AV}{l:List AV}(h:Sl k x l){H:Hp}{n f:Nat}(j:∀ c∈l,Ze H n f c=some c):∃ g,Ze H n (f+1) x=some g/\Sl k g l:=by
 rcases h with ⟨rfl,rfl⟩|⟨tok,rfl⟩
 ·exact⟨.nils,rfl,.inl ⟨rfl,rfl⟩⟩
 ·have e:=ZsF H n f k tok l;rw[O4 j]at e;exact⟨_,e,.inr ⟨_,rfl⟩⟩
def Ke.av (k:Ke):AV:=.agg k.cells
theorem Ke.close (k:Ke)(H:Hp)(n f:Nat):Ze H n (f+2) k.av=some k.av:=by
 have:k.cells.mapM (Ze H n (f+1))=some k.cells:=O4 fun x g=>by
  simp only[Ke.cells,zV,List.not_mem_nil,or_false]at g;rcases g with rfl|rfl|rfl|rfl|rfl <;> rfl
 rw[Ke.av,KM,this]
structure Spec where
 keys:List Ke
 sep:Int
 flags:Int
 stab:Bool
 uniq:Bool
def Spec.cells (x:AV)(p:Spec):List AV:=[x,J yE p.sep,J yE p.flags,.bool p.uniq,.bool p.stab]
def SpecAV (a:AV)(p:Spec):Prop:=∃ x,a=.agg (p.cells x)/\Sl 5 x (p.keys.map Ke.av)
theorem SpecAV.close {a:AV}{p:Spec}(h:SpecAV a p)(H:Hp)(n f:Nat):∃ a',Ze H n (f+4) a=some a'/\SpecAV a' p:=by
 obtain⟨x,rfl,y⟩:=h
 obtain⟨g,j,u⟩:=y.close (H:=H) (n:=n) (f:=f+2) (fun c w=>by
  obtain⟨k,_,rfl⟩:=List.mem_map.1 w;exact k.close H n f)
 refine⟨.agg (p.cells g),?_,g,rfl,u⟩
 have:(p.cells x).mapM (Ze H n (f+3))=some (p.cells g):=by
  simp only[Spec.cells,zZ,j,List.mapM_nil];rfl
 rw[KM,this]
theorem XO {f:List AV->Hp->Z5}{a a' v:AV}{H H1:Hp}(g:Ze [] 0 9 a=some a')(h:f [a'] []=some (v,H1))(j:Fl 3 v=true):Zh f [a] H=some (v,H) :=
 Wy (args':=[a']) (by simp[g]) h j
theorem Fk {f:List AV->Hp->Z5}{a a' b b' v:AV}{H H1:Hp}(g:Ze [] 0 9 a=some a')(h:Ze [] 0 9 b=some b')(j:f [a',b'] []=some (v,H1))(u:Fl 3 v=true):Zh f [a,b] H=some (v,H) :=
 Wy (args':=[a',b']) (by simp[g,h]) j u
def Kz (k:Ke):Bool:=decide (k.ff<1) || (decide (k.fc<1) || (decide (k.tf<0) || (decide (k.tc<0) || ((k.tf==0&&k.tc != 0) || (decide (k.fl<0) || decide (31<k.fl))))))
def ZM (p:Spec):Int :=
 if 8<p.keys.length then 3 else if decide (p.sep < -1) || (decide (255<p.sep) || (p.sep==10 || (decide (p.flags<0) || decide (31<p.flags)))) then 2 else if p.keys.any Kz then 2 else 0
theorem Hl (k:Ke)(H:Hp):Z3 true 5 (.vp k.cells) H=some (.agg k.cells):=by simp[Z3,Go.Am.apart,Ke.cells]
theorem Zdg (H:Hp)(k:Ke)(z:List AV)(g:z.length=5):Za 5 (.ptr H.length 0) (.agg k.cells) (H++[.cells z])=some (.tuple [],H++[.cells k.cells]):=by
 rw[WN (sz:=5) (v:=.agg k.cells) (VS _ _) rfl rfl (by omega)];simp[AV.cells,splice,g,Ke.cells]
theorem ZH (H:Hp)(l:List AV)(off:Nat):Z3 false 1 (.ptr H.length off) (H++[.cells l])=l[off]?:=Y2 (VS H _)
theorem Yu (l:List AV)(H:Hp):ZO (.agg l) H=some (.ptr H.length 0,H++[.cells l]):=R4 rfl
attribute [go_sem] Yu ZH
theorem Sl.key {x:AV}{l:List Ke}(h:Sl 5 x (l.map Ke.av)){i:Nat}{k:Ke}(hi:l[i]?=some k):Zo 5 x (J yE (i:Int))=some (.vp k.cells):=h.idx (c:=k.av) (by simp[hi])
theorem ZyT {x:AV}{l:List Ke}(h:Sl 5 x (l.map Ke.av)){i:Nat}{k:Ke}(hi:l[i]?=some k)(n t:AV)(g H:Hp) :
 ∃ H',FG x n (J yE (i:Int)) t g H=if Kz k then some (J yE 2,H') else FH x n (J yE (i:Int)) g H':=by
 rw[Zc3];refine⟨H++[.cells k.cells],?_⟩;have D:=VS H (.cells k.cells);simp only[h.key hi,Hl,go_sem,Zdg H k [J yE 0,J yE 0,J yE 0,J yE 0,J yE 0] rfl];simp only[go_sem,zC,ZH,Ke.cells,zA,zB];unfold Kz
 cases w:decide (k.ff<1) with
 |true=>simp only[go_sem,zE,if_true]
 |false =>
 simp only[go_sem,zD,zC,ZH,Ke.cells,zA,zB]
 cases y:decide (k.fc<1) with
 |true=>simp only[go_sem,zE,if_true]
 |false =>
 simp only[go_sem,zD,zC,ZH,Ke.cells,zA,zB]
 cases z:decide (k.tf<0) with
 |true=>simp only[go_sem,zE,if_true]
 |false =>
 simp only[go_sem,zD,zC,ZH,Ke.cells,zA,zB]
 cases A:decide (k.tc<0) with
 |true=>simp only[go_sem,zE,if_true]
 |false =>
 simp only[go_sem,zD,zC,ZH,Ke.cells,zA,zB];have last:∀ b:Bool,b=false->True:=fun _ _=>trivial
 cases B:(k.tf==0) with
 |true =>
  simp only[go_sem,yA,zC,ZH,Ke.cells,zA,zB]
  cases C:(k.tc != 0) with
  |true=>simp only[go_sem,zE,if_true]
  |false =>
   simp only[go_sem,zD,zC,ZH,Ke.cells,zA,zB]
   cases j:decide (k.fl<0) with
   |true=>simp only[go_sem,zE,if_true]
   |false =>
    simp only[go_sem,zD,zC,ZH,Ke.cells,zA,zB];cases u:decide (31<k.fl) <;> simp[go_sem]
 |false =>
  simp only[go_sem,zM,zD,zC,ZH,Ke.cells,zA,zB]
  cases j:decide (k.fl<0) with
  |true=>simp only[go_sem,zE,if_true]
  |false =>
   simp only[go_sem,zD,zC,ZH,Ke.cells,zA,zB];cases u:decide (31<k.fl) <;> simp[go_sem]
theorem ZyU {x:AV}{l:List Ke}(h:Sl 5 x (l.map Ke.av))(B:l.length<=8)(u:Hp):∀ (m i:Nat) (H:Hp),l.length-i=m->i<=l.length ->
 ∃ H',Kb x (J yE (l.length:Int)) (J yE (i:Int)) u H=some (J yE (if (l.drop i).any Kz then 2 else 0),H'):=by
 intro m
 induction m with
 |zero =>
  intro i H hm hi;rw[TZ];have g:decide ((i:Int)<(l.length:Int))=false:=by simp;omega
  have y:l.drop i=[]:=zI.2 (by omega);simp only[go_sem,g,Zc2,y,yC];exact⟨_,rfl⟩
 |succ m z =>
  intro i H hm hi;rw[TZ];have j:i<l.length:=by omega
  have g:decide ((i:Int)<(l.length:Int))=true:=by simp;omega
  have hw:yD.wrap ((i:Int)+1)=((i+1:Nat):Int):=by rw[Zp (by omega) (by omega)];omega
  obtain⟨H1,w⟩:=ZyT h (zJ j) (J yE (l.length:Int)) (.bool true) u H;simp only[go_sem,g,w];rw[zL j,yB]
  cases A:Kz l[i] with
  |true=>simp only[if_true,zE];exact⟨_,rfl⟩
  |false =>
   simp only[zF,if_false,zD,Zc4,go_sem,hw];exact z (i+1) H1 (by omega) (by omega)
theorem Zqi {a:AV}{p:Spec}(h:SpecAV a p)(H:Hp):∃ H',Wp [a] H=some (J yE (ZM p),H'):=by
 obtain⟨x,rfl,w⟩:=h;rw[ZcD];unfold CO ZM;have D:=VS H (.cells (p.cells x));have g:=w.len 119;rw[zS]at g;simp only[go_sem,zC,ZH,Spec.cells,zA,zB,g];by_cases u:8<p.keys.length
 ·have j:decide ((8:Int)<(p.keys.length:Int))=true:=by simp;omega
  simp only[j,go_sem,u,if_true];exact⟨_,rfl⟩
 have j:decide ((8:Int)<(p.keys.length:Int))=false:=by simp;omega
 simp only[j,go_sem,u,if_false,Zc0,zC,ZH,Spec.cells,zA,zB]
 cases y:decide (p.sep < -1) with
 |true=>simp only[go_sem,zE,if_true];exact⟨_,rfl⟩
 |false =>
 simp only[go_sem,zD,zC,ZH,Spec.cells,zA,zB]
 cases z:decide (255<p.sep) with
 |true=>simp only[go_sem,zE,if_true];exact⟨_,rfl⟩
 |false =>
 simp only[go_sem,zD,zC,ZH,Spec.cells,zA,zB]
 cases A:(p.sep==10) with
 |true=>simp only[go_sem,zE,if_true];exact⟨_,rfl⟩
 |false =>
 simp only[go_sem,zD,zC,ZH,Spec.cells,zA,zB]
 cases B:decide (p.flags<0) with
 |true=>simp only[go_sem,zE,if_true];exact⟨_,rfl⟩
 |false =>
 simp only[go_sem,zD,zC,ZH,Spec.cells,zA,zB]
 cases C:decide (31<p.flags) with
 |true=>simp only[go_sem,if_true];exact⟨_,rfl⟩
 |false =>
 simp only[go_sem,zF,if_false,Zc1,zC,ZH,Spec.cells,zA,zB,g];have:=ZyU w (by omega) H p.keys.length 0 (H++[.cells (p.cells x)]) (by omega) (by omega);simpa[Spec.cells]using this
theorem Lt {a:AV}{p:Spec}(h:SpecAV a p)(H:Hp):Zh Wp [a] H=some (J yE (ZM p),H):=by
 obtain⟨a',g,j⟩:=h.close [] 0 5;obtain⟨H',u⟩:=Zqi j [];exact XO g u rfl
theorem ZrB (k:Ke)(H:Hp):∃ H',PZ [k.av] H=some (.bool (!Kz k),H'):=by
 rw[Zjg];unfold Zfx Ke.av;simp only[go_sem,zC,Ke.cells,zA,zB];unfold Kz
 have j:∀ b:Bool,b=(decide (k.fl<0) || decide (31<k.fl))->∃ H',EO (.ptr H.length 0) H (H++[.cells [J yE k.ff,J yE k.fc,J yE k.tf,J yE k.tc,J yE k.fl]])=some (.bool (!b),H'):=by
  intro b h;rw[ZhG];simp only[go_sem,zC,zA,zB]
  cases g:decide (k.fl<0) with
  |true =>
   have:decide (0<=k.fl)=false:=by simp at g ⊢;omega
   simp only[this,go_sem];rw[h,g];exact⟨_,rfl⟩
  |false =>
   have:decide (0<=k.fl)=true:=by simp at g ⊢;omega
   simp only[this,go_sem,zC,zA,zB];have e:decide (k.fl<=31)=!decide (31<k.fl):=by rw[zR];simp
   rw[h,g,e];exact⟨_,rfl⟩
 cases u:decide (k.ff<1) with
 |true=>simp only[go_sem,zE,zK];exact⟨_,rfl⟩
 |false =>
 simp only[go_sem,zD,zC,Ke.cells,zA,zB]
 cases w:decide (k.fc<1) with
 |true=>simp only[go_sem,zE,zK];exact⟨_,rfl⟩
 |false =>
 simp only[go_sem,zD,zC,Ke.cells,zA,zB]
 cases y:decide (k.tf<0) with
 |true=>simp only[go_sem,zE,zK];exact⟨_,rfl⟩
 |false =>
 simp only[go_sem,zD,zC,Ke.cells,zA,zB]
 cases z:decide (k.tc<0) with
 |true=>simp only[go_sem,zE,zK];exact⟨_,rfl⟩
 |false =>
 simp only[go_sem,zD,zC,Ke.cells,zA,zB]
 cases A:(k.tf==0) with
 |true =>
  simp only[go_sem,yA,zC,Ke.cells,zA,zB]
  cases B:(k.tc != 0) with
  |true=>simp only[go_sem,zE,zK];exact⟨_,rfl⟩
  |false=>simp only[go_sem,zD];exact j _ rfl
 |false=>simp only[go_sem,zM,zD];exact j _ rfl
theorem ZrA (k:Ke)(H:Hp):Zh PZ [k.av] H=some (.bool (!Kz k),H):=by
 obtain⟨H',g⟩:=ZrB k [];exact XO (k.close [] 0 7) g rfl
theorem Zyl {x:AV}{l:List Ke}(h:Sl 5 x (l.map Ke.av))(D:l.length<=8)(z:Hp){o:Nat}{r:List AV}{H:Hp}(w:H[o]?=some (.cells (x::r))):∀ (m i:Nat),l.length-i=m->i<=l.length ->
 RI (.ptr o 0) (J yE (i:Int)) z H=some (J yE (if (l.drop i).any Kz then 2 else 0),H):=by
 have g:=h.len 119;rw[zS]at g;intro m
 induction m with
 |zero =>
  intro i hm hi;rw[CW];have j:decide ((i:Int)<(l.length:Int))=false:=by simp;omega
  have A:l.drop i=[]:=zI.2 (by omega);simp only[go_sem,zC,Y2 w,zA,g,j,ZhD,A,yC];rfl
 |succ m B =>
  intro i hm hi;rw[CW];have u:i<l.length:=by omega
  have j:decide ((i:Int)<(l.length:Int))=true:=by simp;omega
  have hw:yD.wrap ((i:Int)+1)=((i+1:Nat):Int):=by rw[Zp (by omega) (by omega)];omega
  have y:=ZrA l[i] H;unfold Ke.av at y;simp only[go_sem,zC,Y2 w,zA,g,j,ZhE,h.key (zJ u),Hl,y,Bool.not_not];rw[zL u,yB]
  cases C:Kz l[i] with
  |true=>simp only[go_sem,if_true,zE]
  |false =>
   simp only[go_sem,zD,ZhF,hw];exact B (i+1) (by omega) (by omega)
theorem Zp1 {a:AV}{p:Spec}(h:SpecAV a p)(H:Hp):∃ H',PY [a] H=some (J yE (ZM p),H'):=by
 obtain⟨x,rfl,w⟩:=h;rw[Zjf];unfold Zfw ZM;have g:=w.len 119;rw[zS]at g;simp only[go_sem,zC,Spec.cells,zA,zB,g];by_cases u:8<p.keys.length
 ·have j:decide ((8:Int)<(p.keys.length:Int))=true:=by simp;omega
  simp only[j,go_sem,u,if_true];exact⟨_,rfl⟩
 have j:decide ((8:Int)<(p.keys.length:Int))=false:=by simp;omega
 simp only[j,go_sem,u,if_false,ZhB,zC,Spec.cells,zA,zB]
 cases y:decide (p.sep < -1) with
 |true=>simp only[go_sem,zE,if_true];exact⟨_,rfl⟩
 |false =>
 simp only[go_sem,zD,zC,Spec.cells,zA,zB]
 cases z:decide (255<p.sep) with
 |true=>simp only[go_sem,zE,if_true];exact⟨_,rfl⟩
 |false =>
 simp only[go_sem,zD,zC,Spec.cells,zA,zB]
 cases A:(p.sep==10) with
 |true=>simp only[go_sem,zE,if_true];exact⟨_,rfl⟩
 |false =>
 simp only[go_sem,zD,zC,Spec.cells,zA,zB]
 cases B:decide (p.flags<0) with
 |true=>simp only[go_sem,zE,if_true];exact⟨_,rfl⟩
 |false =>
 simp only[go_sem,zD,zC,Spec.cells,zA,zB]
 cases C:decide (31<p.flags) with
 |true=>simp only[go_sem,if_true];exact⟨_,rfl⟩
 |false =>
 simp only[go_sem,zF,if_false,ZhC];have:=Zyl w (by omega) H (VS H (.cells [x,J yE p.sep,J yE p.flags,.bool p.uniq,.bool p.stab])) p.keys.length 0 (by omega) (by omega);rw[show ((0:Nat):Int)=0 from rfl,zO]at this;exact⟨_,this⟩
theorem Zp0 {a:AV}{p:Spec}(h:SpecAV a p)(H:Hp):Zh PY [a] H=some (J yE (ZM p),H):=by
 obtain⟨a',g,j⟩:=h.close [] 0 5;obtain⟨H',u⟩:=Zp1 j [];exact XO g u rfl
end Go.Am
namespace Go.Am
open Go.Proofs
def RowN (n:Nat)(H:Hp)(k:Nat)(x:AV)(l:List AV):Prop:=x=.nils/\l=[]\/∃ t e,x=.vs k (.own t e) l/\H[t]?=some (.tok e)/\n<=t
def Keep (n:Nat)(H H':Hp):Prop:=∀ i,i<n->H'[i]?=H[i]?
theorem Keep.refl (n:Nat)(H:Hp):Keep n H H:=fun _ _=>rfl
theorem Keep.trans {n:Nat}{A B C:Hp}(h:Keep n A B)(k:Keep n B C):Keep n A C:=fun i hi=>(k i hi).trans (h i hi)
theorem Keep.push {n:Nat}(H:Hp)(g:n<=H.length)(l:List AObj):Keep n H (H++l):=fun i hi=>List.getElem?_append_left (by omega)
theorem RowN.nil (n:Nat)(H:Hp)(k:Nat):RowN n H k .nils []:=.inl ⟨rfl,rfl⟩
theorem RowN.sl {n:Nat}{H:Hp}{k:Nat}{x:AV}{l:List AV}(h:RowN n H k x l):Sl k x l:=h.imp id fun⟨t,e,a,_⟩=>⟨_,a⟩
theorem RowN.push {n:Nat}{H:Hp}{k:Nat}{x:AV}{l:List AV}(h:RowN n H k x l)(r:List AObj):RowN n (H++r) k x l:=h.imp id fun⟨t,e,a,b,c⟩=>⟨t,e,a,Y3 b _,c⟩
theorem RowN.app {n:Nat}{H:Hp}{k:Nat}{x:AV}{l:List AV}(h:RowN n H k x l)(z:n<=H.length)(bytes:Nat)(y:AV)(j:List AV)(E:elems k y H=some j)(B:(l.length+j.length)*(bytes+1)<=140737488355328) :
 ∃ C H',Y9 k bytes x y H=some (C,H')/\RowN n H' k C (l++j)/\n<=H'.length/\Keep n H H'/\(∀ (i:Nat) (c:List AV),H[i]?=some (.cells c)->H'[i]?=some (.cells c)):=by
 unfold Y9;simp only[E];rcases h with ⟨rfl,rfl⟩|⟨t,e,rfl,A,w⟩
 ·by_cases u:j=[]
  ·subst u;exact⟨.nils,H,by simp[YN],.inl ⟨rfl,rfl⟩,z,Keep.refl _ _,fun _ _ h=>h⟩
  ·have g:Xe j.length bytes=true:=by simpa[Xe]using B
   exact⟨.vs k (.own H.length j.length) j,H++[.tok j.length],by simp only[YN,u,if_false,g,if_true],.inr ⟨H.length,j.length,rfl,by simp,z⟩,by simp;omega,Keep.push H z _,fun i c h=>Y3 h _⟩
 ·have g:Xe (l.length+j.length) bytes=true:=by simpa[Xe]using B
  by_cases u:j=[]
  ·subst u;exact⟨.vs k (.own t e) l,H,by simp only[YN,List.length_nil,zQ]at g ⊢;simp only[g,and_self,if_true],.inr ⟨t,e,by simp,A,w⟩,z,Keep.refl _ _,fun _ _ h=>h⟩
  ·refine⟨_,_,by simp only[YN,g,and_self,if_true,u,if_false,A],.inr ⟨t,e+j.length,rfl,Zq _ A,w⟩,by simp;omega,fun i hi=>List.getElem?_set_ne (by omega),fun i c h=>?_⟩;refine Yd _ (fun D=>?_) h;subst D;rw[A]at h;cases h
def Zsy (n j:Nat):Bool:=match Z4 .and (J yE n) (J yE ((2 ^ j:Nat):Int)) with
 |some (J yE m)=>m==(if n.testBit j then ((2 ^ j:Nat):Int) else 0)
 |_=>false
theorem Zqj:((zY 32).all fun n=>(zY 5).all fun j=>Zsy n j)=true:=by kernel_rfl
theorem WM {n:Nat}{p:Nat->Bool}(h:(zY n).all p=true){i:Nat}(hi:i<n):p i=true:=List.all_eq_true.1 h i (List.mem_range.2 hi)
theorem Zde {n j:Nat}(u:n<32)(g:j<5):Z4 .and (J yE n) (J yE ((2 ^ j:Nat):Int))=some (J yE (if n.testBit j then ((2 ^ j:Nat):Int) else 0)):=by
 have h:=WM (WM Zqj u) g;unfold Zsy at h;split at h
 ·rename_i m hm;rw[hm];have:m=(if n.testBit j then ((2 ^ j:Nat):Int) else 0):=by simpa using h
  rw[this]
 ·cases h
end Go.Am
