/- The fields of a line -/
import Derived.Test.YtnaneekpogohaaaGreatDoorXeGx
import Derived.Test.YtnaneekpogohaaaGreatDoorHmSx
open Go.Am.AV renaming int->yE
open Go.IntKind renaming i64->J
open Go.IntKind renaming i64->yD
open List renaming getElem?_cons_zero->zA,getElem?_cons_succ->zB,drop_succ_cons->zH,drop_eq_nil_iff->zI,getElem?_eq_getElem->zJ,drop_eq_getElem_cons->zL,drop_drop->zN,drop_zero->zO,length_map->zS,mem_of_getElem?->zT,takeWhile_cons->zU,mem_cons->zV,length_drop->zW,range->zY,mapM_cons->zZ,any_cons->yB,any_nil->yC
open Nat renaming zero_add->zC,le_refl->zP,add_zero->zQ,strongRecOn->zX
open Bool renaming false_or->zD,true_or->zE,false_eq_true->zF,not_true->zK,false_and->zM,eq_iff_iff->zR,true_and->yA
open UInt8 renaming ofNat->zG
namespace Go.Am
theorem ZxY (b:UInt8)(n:Nat)(h:n<256):(((b.toNat:Int))==(n:Int))=(b==zG n):=by
 rw[zR];simp only[beq_iff_eq];constructor
 ·intro e;have:b.toNat=n:=by omega
  rw[<-this];simp
 ·intro e;subst e;simp;omega
def Xm (b:UInt8):Bool:=b==32 || b==9
theorem C2 (b:UInt8):(((b.toNat:Int))==32)=(b==32)/\(((b.toNat:Int))==9)=(b==9):=⟨ZxY b 32 (by decide),ZxY b 9 (by decide)⟩
theorem IF (b:UInt8)(H:Hp):Vn [.int .u8 b.toNat] H=some (.bool (Xm b),H):=by
 rw[ZbA];unfold SM Xm;simp only[go_sem,(C2 b).1];cases (b==32) <;> simp[go_sem,(C2 b).2]
theorem ZiF (s:List UInt8)(n:Int)(H:Hp):Kx [.str s,.int .u8 n] H=some (yE J (Kb (zG n.toNat) s 0),H):=by
 rw[Hl];unfold Tf;rw[GH];unfold Ud;simp only[go_sem]
def Xf (c:UInt8):List UInt8->Nat->Nat->List (Nat×Nat)
 |[],f,p=>[(f,p)]
 |b::l,f,p=>if b=c then (f,p)::Xf c l (p+1) (p+1) else Xf c l f (p+1)
theorem ZcJ (c b:UInt8)(l:List UInt8)(f p:Nat):Xf c (b::l) f p=if b=c then (f,p)::Xf c l (p+1) (p+1) else Xf c l f (p+1):=(Eq.refl _).trans (Eq.refl _)
theorem Znl (c b:UInt8)(l:List UInt8)(k:Nat):Kb c (b::l) k=if b=c then (k:Int) else Kb c l (k+1):=(Eq.refl _).trans (Eq.refl _)
theorem Znf (c:UInt8):∀ (l:List UInt8) (f p k:Nat),
 (Kb c l k=-1/\Xf c l f p=[(f,p+l.length)])\/∃ e,e<l.length/\Kb c l k=((k+e:Nat):Int)/\Xf c l f p=(f,p+e)::Xf c (l.drop (e+1)) (p+e+1) (p+e+1):=by
 intro l
 induction l with
 |nil=>intro f p k;exact .inl ⟨rfl,rfl⟩
 |cons b l u =>
  intro f p k;rw[Znl,ZcJ];by_cases h:b=c
  ·exact .inr ⟨0,by simp,by simp[h],by simp[h]⟩
  ·simp only[h,if_false];rcases u f (p+1) (k+1) with ⟨g,j⟩|⟨e,w,g,j⟩
   ·exact .inl ⟨g,by rw[j];simp[Nat.add_comm,Nat.add_left_comm]⟩
   ·refine .inr ⟨e+1,by simp;omega,by rw[g];congr 1;omega,?_⟩;rw[j,zH];simp only[show p+1+e=p+(e+1) by omega]
def ZiU (a b:Nat)(ok:Bool):AV:=.tuple [yE J a,yE J b,.bool ok]
theorem Zh2 {g:List UInt8}(K:g.length<=1048576){sep:Int}(U:0<=sep)(V:sep<=255){n:Int}(L H:Hp):∀ (k f i:Nat),g.length+1-f=k->f<=g.length->i<=f+1->(i:Int)<=n ->
 ∃ a b,JW (.str g) (yE J n) (yE J sep) (yE J (f:Int)) (yE J (i:Int)) L H =
  some (ZiU a b (decide (n<i+(Xf (zG sep.toNat) (g.drop f) f f).length)),H) /\
  (n<i+(Xf (zG sep.toNat) (g.drop f) f f).length->(Xf (zG sep.toNat) (g.drop f) f f)[(n-i).toNat]?=some (a,b)):=by
 intro k
 induction k using zX with
 |_ k R =>
  intro f i hk W hi X;rw[Zbc];have w:=MW (s:=g) (n:=(f:Int)) .i64 (by omega) (by omega);have C:((f:Int)).toNat=f:=by omega
  rw[C]at w
  have B:Yv .u8 (yE J sep)=some (.int .u8 sep):=by
   have:IntKind.u8.wrap sep=sep:=by
    unfold IntKind.wrap;have M:(2 ^ IntKind.u8.bits:Int)=256:=by decide
    have N:IntKind.u8.signed=false:=rfl;simp only[M,N,zM,zF,if_false];omega
   simp[Yv,this]
  simp only[w,go_sem,B,ZiF];rcases Znf (zG sep.toNat) (g.drop f) f f 0 with ⟨y,z⟩|⟨e,O,y,z⟩
  ·have j:decide (Kb (zG sep.toNat) (g.drop f) 0<0)=true:=by rw[y];decide
   simp only[j,go_sem];rw[z];refine⟨f,g.length,?_,fun h=>?_⟩
   ·have:((i:Int)==n)=decide (n<(i:Int)+([(f,f+(g.drop f).length)]:List (Nat×Nat)).length):=by
     rw[zR];simp;omega
    rw[this];rfl
   ·have u:n=i:=by simp at h;omega
    subst u;simp;omega
  ·have j:decide (Kb (zG sep.toNat) (g.drop f) 0<0)=false:=by rw[y];simp
   simp only[j,go_sem,OO];rw[y,z];simp only[zW]at O;by_cases u:(i:Int)=n
   ·have A:((i:Int)==n)=true:=by simp[u]
    have hw:yD.wrap ((f:Int)+((0+e:Nat):Int))=((f+e:Nat):Int):=by rw[Zr (by omega) (by omega)];omega
    simp only[A,go_sem,hw];refine⟨f,f+e,?_,fun _=>by simp[<-u]⟩
    have:(true:Bool)=decide (n<(i:Int)+((f,f+e)::Xf (zG sep.toNat) ((g.drop f).drop (e+1)) (f+e+1) (f+e+1)).length):=by
     symm;simp;omega
    rw[<-this];rfl
   ·have A:((i:Int)==n)=false:=by simp[u]
    have D:yD.wrap (((0+e:Nat):Int)+1)=((e+1:Nat):Int):=by rw[Zr (by omega) (by omega)];omega
    have E:yD.wrap ((f:Int)+((e+1:Nat):Int))=((f+e+1:Nat):Int):=by rw[Zr (by omega) (by omega)];omega
    have F:yD.wrap ((i:Int)+1)=((i+1:Nat):Int):=by rw[Zr (by omega) (by omega)];omega
    simp only[A,go_sem,OP,D,E,ON,F];obtain⟨a,b,S,T⟩:=R (g.length+1-(f+e+1)) (by omega) (f+e+1) (i+1) rfl (by omega) (by omega) (by omega);rw[zN,show f+(e+1)=f+e+1 by omega];refine⟨a,b,?_,fun h=>?_⟩
    ·rw[S]
     have:decide (n<((i+1:Nat):Int)+(Xf (zG sep.toNat) (g.drop (f+e+1)) (f+e+1) (f+e+1)).length) =
      decide (n<(i:Int)+((f,f+e)::Xf (zG sep.toNat) (g.drop (f+e+1)) (f+e+1) (f+e+1)).length):=by
      congr 1;simp;constructor <;> intro h <;> omega
     rw[this]
    ·have Q:n<((i+1:Nat):Int)+(Xf (zG sep.toNat) (g.drop (f+e+1)) (f+e+1) (f+e+1)).length:=by simp at h ⊢;omega
     have:=T Q;rw[show (n-(i:Int)).toNat=(n-((i+1:Nat):Int)).toNat+1 by omega];simpa using this
def Yw (l:List UInt8):Nat:=(l.takeWhile Xm).length
def W2 (l:List UInt8):Nat:=(l.takeWhile fun b=>!Xm b).length
theorem ZjH:Yw []=0:=rfl
theorem Zdj:W2 []=0:=rfl
theorem VV (b:UInt8)(l:List UInt8):Yw (b::l)=if Xm b then Yw l+1 else 0:=by
 unfold Yw;rw[zU];split <;> simp
theorem GY (b:UInt8)(l:List UInt8):W2 (b::l)=if Xm b then 0 else W2 l+1:=by
 unfold W2;rw[zU];cases Xm b <;> simp
theorem ZfX (l:List UInt8):Yw l<=l.length:=by
 induction l with
 |nil=>simp[ZjH]
 |cons b l g=>rw[VV];split <;> simp;exact g
theorem Zvt (l:List UInt8):W2 l<=l.length:=by
 induction l with
 |nil=>simp[Zdj]
 |cons b l g=>rw[GY];split <;> simp;exact g
def UQ:Bool->List UInt8->Nat->Nat->List (Nat×Nat)
 |_,[],f,p=>[(f,p)]
 |q,b::l,f,p=>if Xm b&&!q then (f,p)::UQ (Xm b) l p (p+1) else UQ (Xm b) l f (p+1)
theorem Ej (q:Bool)(b:UInt8)(l:List UInt8)(f p:Nat):UQ q (b::l) f p=if Xm b&&!q then (f,p)::UQ (Xm b) l p (p+1) else UQ (Xm b) l f (p+1):=(Eq.refl _).trans (Eq.refl _)
def JC:List UInt8->Nat->List (Nat×Nat)
 |[],_=>[]
 |x::l,f=>UQ (Xm x) l f (f+1)
theorem Zji (x:UInt8)(l:List UInt8)(f:Nat):JC (x::l) f=UQ (Xm x) l f (f+1):=(Eq.refl _).trans (Eq.refl _)
theorem Zjd:∀ (l:List UInt8) (f p:Nat),UQ false l f p=(f,p+W2 l)::JC (l.drop (W2 l)) (p+W2 l):=by
 intro l
 induction l with
 |nil=>intro f p;rfl
 |cons b l h =>
  intro f p;rw[Ej,GY]
  cases g:Xm b with
  |true=>simp[JC,g]
  |false =>
   simp only[zM,zF,if_false];rw[h];simp only[zH,show p+1+W2 l=p+(W2 l+1) by omega]
theorem ZrG:∀ (l:List UInt8) (f p:Nat),UQ true l f p=match l.drop (Yw l) with
 |[]=>[(f,p+Yw l)]
 |m::l'=>UQ false l' f (p+Yw l+1):=by
 intro l
 induction l with
 |nil=>intro f p;rfl
 |cons b l g =>
  intro f p;rw[Ej,VV]
  cases h:Xm b with
  |true =>
   simp only[zK,Bool.and_false,zF,if_false,if_true,zH];rw[g];simp only[show p+1+Yw l=p+(Yw l+1) by omega]
  |false=>simp
def Ug (l:List UInt8):Nat:=Yw l+W2 (l.drop (Yw l))
theorem Zry (l:List UInt8){m:UInt8}{u:List UInt8}(h:l.drop (Yw l)=m::u):Xm m=false:=by
 induction l with
 |nil=>simp at h
 |cons b l j =>
  rw[VV]at h
  cases g:Xm b with
  |true=>simp[g]at h;exact j h
  |false=>simp[g]at h;rw[<-h.1];exact g
theorem ZrT (l:List UInt8)(f:Nat)(h:0<l.length):JC l f=(f,f+Ug l)::JC (l.drop (Ug l)) (f+Ug l):=by
 cases l with
 |nil=>simp at h
 |cons x l =>
  rw[Zji];unfold Ug;rw[VV]
  cases y:Xm x with
  |false =>
   simp only[zF,if_false,zO,zC,GY,y,zH];rw[Zjd];simp only[show f+1+W2 l=f+(W2 l+1) by omega]
  |true =>
   simp only[if_true];rw[ZrG];simp only[zH]
   cases j:l.drop (Yw l) with
   |nil =>
    have u:Yw l=l.length:=by
     have:=zI.1 j;have:=ZfX l;omega
    simp only[Zdj,zQ];have:(x::l).drop (Yw l+1)=[]:=by simp[j]
    rw[this];simp[show f+1+Yw l=f+(Yw l+1) by omega,JC]
   |cons m g =>
    have hm:=Zry l j;simp only[GY,hm,zF,if_false];rw[Zjd]
    have w:(x::l).drop (Yw l+1+(W2 g+1))=g.drop (W2 g):=by
     have:(x::l).drop (Yw l+1+(W2 g+1))=(m::g).drop (W2 g+1):=by
      rw[<-j,zN,show Yw l+1+(W2 g+1)=(Yw l+(W2 g+1))+1 by omega,zH]
     rw[this,zH]
    rw[w];simp only[show f+1+Yw l+1+W2 g=f+(Yw l+1+(W2 g+1)) by omega]
theorem Zui (l:List UInt8)(h:0<l.length):0<Ug l:=by
 cases l with
 |nil=>simp at h
 |cons x l =>
  unfold Ug;rw[VV]
  cases g:Xm x with
  |true=>simp;omega
  |false=>simp[GY,g]
theorem Zws (l:List UInt8):Ug l<=l.length:=by
 unfold Ug;have h:=ZfX l;have g:=Zvt (l.drop (Yw l));simp at g;omega
theorem ZX {s:List UInt8}{i:Nat}{b:UInt8}(h:s[i]?=some b):Zx (.str s) (yE J (i:Int))=some (.int .u8 b.toNat):=by simp[Zx,h]
theorem Q3 {s:List UInt8}{i:Nat}(h:i<s.length):s.drop i=s[i]::s.drop (i+1):=zL h
theorem ZvX {g:List UInt8}(w:g.length<=1048576)(n f i:AV)(j H:Hp):∀ (k p:Nat),g.length-p=k->p<=g.length ->
 JV (.str g) n f (yE J (p:Int)) i j H=Fp (.str g) n f (yE J ((p+Yw (g.drop p):Nat):Int)) i j H:=by
 intro k
 induction k with
 |zero =>
  intro p hk z;rw[TB];have h:decide ((p:Int)<(g.length:Int))=false:=by simp;omega
  have y:g.drop p=[]:=zI.2 (by omega);simp only[go_sem,h,y,ZjH,zQ]
 |succ k A =>
  intro p hk z;rw[TB];have h:decide ((p:Int)<(g.length:Int))=true:=by simp;omega
  have u:p<g.length:=by omega
  have hw:yD.wrap ((p:Int)+1)=((p+1:Nat):Int):=by rw[Zr (by omega) (by omega)];omega
  simp only[go_sem,h,ZX (zJ u),IF];rw[Q3 u,VV]
  cases B:Xm g[p] with
  |true =>
   simp only[go_sem,Zba,hw,if_true];rw[A (p+1) (by omega) (by omega),show p+1+Yw (g.drop (p+1))=p+(Yw (g.drop (p+1))+1) by omega]
  |false=>simp[go_sem]
theorem ZvW {g:List UInt8}(w:g.length<=1048576)(n f i:AV)(j H:Hp):∀ (k p:Nat),g.length-p=k->p<=g.length ->
 JU (.str g) n f (yE J (p:Int)) i j H=Fq (.str g) n f (yE J ((p+W2 (g.drop p):Nat):Int)) i j H:=by
 intro k
 induction k with
 |zero =>
  intro p hk z;rw[TA];have h:decide ((p:Int)<(g.length:Int))=false:=by simp;omega
  have y:g.drop p=[]:=zI.2 (by omega);simp only[go_sem,h,y,Zdj,zQ]
 |succ k A =>
  intro p hk z;rw[TA];have h:decide ((p:Int)<(g.length:Int))=true:=by simp;omega
  have u:p<g.length:=by omega
  have hw:yD.wrap ((p:Int)+1)=((p+1:Nat):Int):=by rw[Zr (by omega) (by omega)];omega
  simp only[go_sem,h,ZX (zJ u),IF];rw[Q3 u,GY]
  cases B:Xm g[p] with
  |false =>
   simp only[Bool.not_false,go_sem,Zb9,hw,zF,if_false];rw[A (p+1) (by omega) (by omega),show p+1+W2 (g.drop (p+1))=p+(W2 (g.drop (p+1))+1) by omega]
  |true=>simp[go_sem]
theorem Zfy {g:List UInt8}(j:g.length<=1048576){n:Int}(D H:Hp):∀ (k f i:Nat),g.length-f=k->f<=g.length->i<=f+1->(i:Int)<=n ->
 ∃ a b,JT (.str g) (yE J n) (yE J (f:Int)) (yE J (i:Int)) D H=some (ZiU a b (decide (n<i+(JC (g.drop f) f).length)),H) /\
  (n<i+(JC (g.drop f) f).length->(JC (g.drop f) f)[(n-i).toNat]?=some (a,b)):=by
 intro k
 induction k using zX with
 |_ k N =>
  intro f i hk R hi S;rw[Zbb];by_cases K:f<g.length
  ·have u:decide ((f:Int)<(g.length:Int))=true:=by simp;omega
   have y:0<(g.drop f).length:=by simp;omega
   simp only[go_sem,u,Zb4];rw[ZvX j _ _ _ _ _ _ f rfl (by omega),Zb6];have A:=ZfX (g.drop f);have B:=Zws (g.drop f);have M:=Zui (g.drop f) y;simp only[zW]at A B;rw[ZvW j _ _ _ _ _ _ (f+Yw (g.drop f)) rfl (by omega),Zb7]
   have F:f+Yw (g.drop f)+W2 (g.drop (f+Yw (g.drop f)))=f+Ug (g.drop f):=by
    unfold Ug;rw[zN];omega
   rw[F,ZrT _ _ y,zN];by_cases w:(i:Int)=n
   ·have z:((i:Int)==n)=true:=by simp[w]
    simp only[z,go_sem];refine⟨f,f+Ug (g.drop f),?_,fun _=>by simp[<-w]⟩
    have:(true:Bool)=decide (n<(i:Int)+((f,f+Ug (g.drop f))::JC (g.drop (f+Ug (g.drop f))) (f+Ug (g.drop f))).length):=by
     symm;simp;omega
    rw[<-this];rfl
   ·have z:((i:Int)==n)=false:=by simp[w]
    have C:yD.wrap ((i:Int)+1)=((i+1:Nat):Int):=by rw[Zr (by omega) (by omega)];omega
    simp only[z,go_sem,Zb8,Zb5,C];obtain⟨a,b,O,Q⟩:=N (g.length-(f+Ug (g.drop f))) (by omega) (f+Ug (g.drop f)) (i+1) rfl (by omega) (by omega) (by omega);refine⟨a,b,?_,fun h=>?_⟩
    ·rw[O]
     have:decide (n<((i+1:Nat):Int)+(JC (g.drop (f+Ug (g.drop f))) (f+Ug (g.drop f))).length) =
      decide (n<(i:Int)+((f,f+Ug (g.drop f))::JC (g.drop (f+Ug (g.drop f))) (f+Ug (g.drop f))).length):=by
      congr 1;simp;constructor <;> intro h <;> omega
     rw[this]
    ·have L:n<((i+1:Nat):Int)+(JC (g.drop (f+Ug (g.drop f))) (f+Ug (g.drop f))).length:=by simp at h ⊢;omega
     have:=Q L;rw[show (n-(i:Int)).toNat=(n-((i+1:Nat):Int)).toNat+1 by omega];simpa using this
  ·have u:decide ((f:Int)<(g.length:Int))=false:=by simp;omega
   have E:g.drop f=[]:=zI.2 (by omega);simp only[go_sem,u,Zb3,E,JC];refine⟨0,0,?_,fun h=>by simp at h;omega⟩;have:decide (n<(i:Int)+([]:List (Nat×Nat)).length)=false:=by simp;omega
   rw[this];rfl
def fields (g:List UInt8)(sep:Int):List (Nat×Nat):=if 0<=sep/\sep<=255 then Xf (zG sep.toNat) g 0 0 else JC g 0
theorem Zh3 {g:List UInt8}(j:g.length<=1048576)(sep:Int){n:Int}(D:1<=n)(H:Hp) :
 ∃ a b,KI [.str g,yE J n,yE J sep] H=some (ZiU a b (decide (n<=(fields g sep).length)),H) /\
  (n<=(fields g sep).length->(fields g sep)[(n-1).toNat]?=some (a,b)):=by
 rw[ZbB];unfold SN fields;by_cases h:0<=sep/\sep<=255
 ·have w:decide ((0:Int)<=sep)=true:=by simp[h.1]
  have A:decide (sep<=(255:Int))=true:=by simp[h.2]
  rw[if_pos h];simp only[go_sem,w,A];obtain⟨a,b,y,z⟩:=Zh2 j h.1 h.2 (n:=n) H H _ 0 1 rfl (by omega) (by omega) (by omega);simp only[zO]at y z;refine⟨a,b,?_,fun h=>z (by omega)⟩;have:decide (n<=((Xf (zG sep.toNat) g 0 0).length:Int))=decide (n<((1:Nat):Int)+(Xf (zG sep.toNat) g 0 0).length):=by congr 1;simp;constructor <;> intro h <;> omega
  rw[this];exact y
 ·obtain⟨a,b,y,z⟩:=Zfy j (n:=n) H H _ 0 1 rfl (by omega) (by omega) (by omega);simp only[zO]at y z
  have u:Fo (.str g) (yE J n) (yE J 0) H H=some (ZiU a b (decide (n<=((JC g 0).length:Int))),H):=by
   rw[Zb2];have:decide (n<=((JC g 0).length:Int))=decide (n<((1:Nat):Int)+(JC g 0).length):=by congr 1;simp;constructor <;> intro h <;> omega
   rw[this];exact y
  refine⟨a,b,?_,fun B=>by rw[if_neg h]at B ⊢;exact z (by omega)⟩;rw[if_neg h];by_cases C:0<=sep
  ·have w:decide ((0:Int)<=sep)=true:=by simp[C]
   have A:decide (sep<=(255:Int))=false:=by simp;omega
   simp only[go_sem,w,A];exact u
  ·have w:decide ((0:Int)<=sep)=false:=by simp;omega
   simp only[go_sem,w];exact u
theorem Zpp (c:UInt8)(L:Nat):∀ (l:List UInt8) (f p:Nat),f<=p->p+l.length=L->∀ x∈Xf c l f p,x.1<=x.2/\x.2<=L:=by
 intro l
 induction l with
 |nil=>intro f p u h x g;simp[Xf]at g;subst g;simp at h;simp;omega
 |cons b l j =>
  intro f p u h x g;rw[ZcJ]at g;simp at h;split at g
  ·rcases zV.1 g with rfl|g
   ·simp;omega
   ·exact j (p+1) (p+1) (by omega) (by omega) x g
  ·exact j f (p+1) (by omega) (by omega) x g
theorem Zpq (L:Nat):∀ (l:List UInt8) (q:Bool) (f p:Nat),f<=p->p+l.length=L->∀ x∈UQ q l f p,x.1<=x.2/\x.2<=L:=by
 intro l
 induction l with
 |nil=>intro q f p u h x g;simp[UQ]at g;subst g;simp at h;simp;omega
 |cons b l j =>
  intro q f p u h x g;rw[Ej]at g;simp at h;split at g
  ·rcases zV.1 g with rfl|g
   ·simp;omega
   ·exact j _ p (p+1) (by omega) (by omega) x g
  ·exact j _ f (p+1) (by omega) (by omega) x g
theorem Zje (g:List UInt8)(sep:Int):∀ x∈fields g sep,x.1<=x.2/\x.2<=g.length:=by
 intro x h;unfold fields at h;split at h
 ·exact Zpp _ g.length g 0 0 (zP _) (by omega) x h
 ·cases g with
  |nil=>simp[JC]at h
  |cons a l=>rw[Zji]at h;exact Zpq (a::l).length l _ 0 1 (by omega) (by simp;omega) x h
structure Ke where
 ff:Int
 fc:Int
 tf:Int
 tc:Int
 fl:Int
def Ke.cells (k:Ke):List AV:=[yE J k.ff,yE J k.fc,yE J k.tf,yE J k.tc,yE J k.fl]
structure KeOk (k:Ke):Prop where
 ff:-9223372036854775808<=k.ff/\k.ff<=9223372036854775807
 fc:-9223372036854775808<=k.fc/\k.fc<=9223372036854775807
 tf:-9223372036854775808<=k.tf/\k.tf<=9223372036854775807
 tc:-9223372036854775808<=k.tc/\k.tc<=9223372036854775807
def N7 (lo hi:Nat)(k:Ke):Nat:=lo+(min (max k.fc 1-1) ((hi:Int)-lo)).toNat
def O0 (g:List UInt8)(fs:List (Nat×Nat))(k:Ke):Nat :=
 if 0<k.tf/\k.tf<=fs.length then (let p:=fs.getD (k.tf-1).toNat (0,0);if 0<k.tc then p.1+(min k.tc ((p.2:Int)-p.1)).toNat else p.2) else g.length
def ex (g:List UInt8)(fs:List (Nat×Nat))(k:Ke):List UInt8 :=
 if max k.ff 1<=fs.length then
  (let p:=fs.getD (max k.ff 1-1).toNat (0,0);if O0 g fs k<N7 p.1 p.2 k then [] else (g.take (O0 g fs k)).drop (N7 p.1 p.2 k)) else []
theorem Zvp (H:Hp)(x y:AObj):List.set (H++[x]) H.length y=H++[y]:=by simp
theorem VB (H:Hp)(x:AObj):(H++[x])[H.length]?=some x:=ZcU _ _ _
theorem Y2 {H:Hp}{o off:Nat}{l:List AV}(h:H[o]?=some (.cells l)):Z3 false 1 (.ptr o off) H=l[off]?:=by rw[YA h];simp[Go.Am.apart]
theorem IJ {g:List UInt8}{f e:Nat}(B:f<=g.length)(A:e<=g.length)(j:g.length<=1048576)(w H:Hp) :
 We (.str g) (yE J (f:Int)) (yE J (e:Int)) w H=some (.str (if e<f then [] else (g.take e).drop f),H):=by
 rw[Ic];by_cases h:e<f
 ·have c:decide ((e:Int)<(f:Int))=true:=by simp;omega
  simp only[go_sem,c,h,if_true]
 ·have c:decide ((e:Int)<(f:Int))=false:=by simp;omega
  have u:=IE (s:=g) (n:=(f:Int)) (m:=(e:Int)) .i64 .i64 (by omega) (by omega) (by omega);have y:((f:Int)).toNat=f:=by omega
  have z:((e:Int)).toNat=e:=by omega
  rw[y,z]at u;simp only[go_sem,c,Ie,u,h,if_false]
theorem ZiB {fs:List (Nat×Nat)}{i:Nat}{p:Nat×Nat}(h:fs[i]?=some p):fs.getD i (0,0)=p:=by simp[List.getD_eq_getElem?_getD,h]
theorem Zcq {g:List UInt8}(u:g.length<=1048576){k:Ke}(hk:KeOk k)(sep:Int)(H:Hp) :
 ∃ H',Qy [.str g,.agg k.cells,yE J sep] H=some (.str (ex g (fields g sep) k),H')/\(∀ (i:Nat) (x:AObj),H[i]?=some x->H'[i]?=some x):=by
 rw[Io];unfold Mb;have E:ZN (.agg k.cells) H=some (.ptr H.length 0,H++[.cells k.cells]):=FH rfl;have j:=VB H (.cells k.cells);obtain⟨a,b,U,Z⟩:=Zh3 u sep (n:=max k.ff 1) (by omega) (H++[.cells k.cells]);simp only[Ke.cells]at E j U ⊢;simp only[E,go_sem,zC,Y2 j,zA];rw[U];simp only[go_sem,ZiU,zA,zB];have y:∀ (i:Nat) (x:AObj),H[i]?=some x->(H++[AObj.cells [yE J k.ff,yE J k.fc,yE J k.tf,yE J k.tc,yE J k.fl]])[i]?=some x:=fun i x h=>Y5 h _;by_cases C:max k.ff 1<=((fields g sep).length:Int)
 ·have M:(!decide (max k.ff 1<=((fields g sep).length:Int)))=false:=by simp[C]
  have K:=Z C;obtain⟨r1,r2⟩:=Zje g sep _ (zT K);simp only at r1 r2;simp only[M,go_sem,Ib,zC,Y2 j,Ke.cells,zA,zB];have W:=hk.fc;have w1:yD.wrap (max k.fc 1-1)=max k.fc 1-1:=Zr (by omega) (by omega);have w2:yD.wrap ((b:Int)-a)=(b:Int)-a:=Zr (by omega) (by omega);have w3:yD.wrap ((a:Int)+min (max k.fc 1-1) ((b:Int)-a))=((N7 a b k:Nat):Int):=by rw[Zr (by omega) (by omega)];unfold N7;omega
  have B:N7 a b k<=g.length:=by unfold N7;omega
  simp only[w1,w2,w3]
  have A:∀ e:Nat,e<=g.length->e=O0 g (fields g sep) k->ex g (fields g sep) k=(if e<N7 a b k then [] else (g.take e).drop (N7 a b k)):=by
   intro e _ V;subst V;unfold ex;rw[if_pos C,ZiB K]
  by_cases L:0<k.tf
  ·have N:decide ((0:Int)<k.tf)=true:=by simp[L]
   obtain⟨D,F,T,Y⟩:=Zh3 u sep (n:=k.tf) (by omega) (H++[.cells k.cells]);simp only[Ke.cells]at T;simp only[N,go_sem,zC,Y2 j,Ke.cells,zA,zB,T,ZiU];by_cases w:k.tf<=((fields g sep).length:Int)
   ·have O:decide (k.tf<=((fields g sep).length:Int))=true:=by simp[w]
    have z:=Y w;obtain⟨s1,S⟩:=Zje g sep _ (zT z);simp only at s1 S;simp only[O,go_sem,zC,Y2 j,Ke.cells,zA,zB];have X:=hk.tc;by_cases R:0<k.tc
    ·have Q:decide ((0:Int)<k.tc)=true:=by simp[R]
     have w4:yD.wrap ((F:Int)-D)=(F:Int)-D:=Zr (by omega) (by omega);have w5:yD.wrap ((D:Int)+min k.tc ((F:Int)-D))=((D+(min k.tc ((F:Int)-D)).toNat:Nat):Int):=by rw[Zr (by omega) (by omega)];omega
     simp only[Q,go_sem,zC,Y2 j,Ke.cells,zA,zB,w4,w5];rw[IJ B (by omega) u];rw[A (D+(min k.tc ((F:Int)-D)).toNat) (by omega) (by unfold O0;rw[if_pos ⟨L,w⟩,ZiB z];simp[R])];exact⟨_,rfl,y⟩
    ·have Q:decide ((0:Int)<k.tc)=false:=by simp;omega
     simp only[Q,go_sem];rw[IJ B S u];rw[A F S (by unfold O0;rw[if_pos ⟨L,w⟩,ZiB z];simp[R])];exact⟨_,rfl,y⟩
   ·have O:decide (k.tf<=((fields g sep).length:Int))=false:=by simp;omega
    simp only[O,go_sem];rw[IJ B (zP _) u];rw[A g.length (zP _) (by unfold O0;rw[if_neg (fun h=>w h.2)])];exact⟨_,rfl,y⟩
  ·have N:decide ((0:Int)<k.tf)=false:=by simp;omega
   simp only[N,go_sem];rw[IJ B (zP _) u];rw[A g.length (zP _) (by unfold O0;rw[if_neg (fun h=>L h.1)])];exact⟨_,rfl,y⟩
 ·have M:(!decide (max k.ff 1<=((fields g sep).length:Int)))=true:=by simp;omega
  simp only[M,go_sem];have:ex g (fields g sep) k=[]:=by unfold ex;rw[if_neg C]
  rw[this];exact⟨_,rfl,y⟩
def Sl (k:Nat)(x:AV)(l:List AV):Prop:=x=.nils/\l=[]\/∃ tok,x=.vs k tok l
theorem Sl.len {k:Nat}{x:AV}{l:List AV}(h:Sl k x l)(e:Nat):Zk (.slice e) x=some (yE J l.length):=by
 rcases h with ⟨rfl,rfl⟩|⟨tok,rfl⟩ <;> rfl
theorem Sl.idx {k:Nat}{x:AV}{l:List AV}(h:Sl k x l){i:Nat}{c:AV}(hi:l[i]?=some c):Zo k x (yE J (i:Int))=some (.vp c.cells):=by
 rcases h with ⟨rfl,rfl⟩|⟨tok,rfl⟩
 ·simp at hi
 ·simp[Zo,hi]
theorem AR {f:AV->Option AV}:∀ {l:List AV},(∀ x∈l,f x=some x)->l.mapM f=some l:=by
 intro l
 induction l with
 |nil=>intro _;rfl
 |cons a l j =>
  intro h;rw[zZ,h a (by simp),j (fun x g=>h x (by simp[g]))];rfl
theorem Zrk (H:Hp)(n f k:Nat)(tok:Tok)(l:List AV):Zd H n (f+1) (.vs k tok l)=match l.mapM (Zd H n f) with
 |some l=>some (.vs k (match tok with|.own t e=>if t<n then .own t e else .no|tok=>tok) l)
 |none=>none:=(Eq.refl _).trans (Eq.refl _)
theorem Kr (H:Hp)(n f:Nat)(l:List AV):Zd H n (f+1) (.agg l)=match l.mapM (Zd H n f) with
 |some l=>some (.agg l)
 |none=>none:=(Eq.refl _).trans (Eq.refl _)
theorem Sl.close {k:Nat}{x:AV}{l:List AV}(h:Sl k x l){H:Hp}{n f:Nat}(j:∀ c∈l,Zd H n f c=some c):∃ g,Zd H n (f+1) x=some g/\Sl k g l:=by
 rcases h with ⟨rfl,rfl⟩|⟨tok,rfl⟩
 ·exact⟨.nils,rfl,.inl ⟨rfl,rfl⟩⟩
 ·have e:=Zrk H n f k tok l;rw[AR j]at e;exact⟨_,e,.inr ⟨_,rfl⟩⟩
def Ke.av (k:Ke):AV:=.agg k.cells
theorem Ke.close (k:Ke)(H:Hp)(n f:Nat):Zd H n (f+2) k.av=some k.av:=by
 have:k.cells.mapM (Zd H n (f+1))=some k.cells:=AR fun x g=>by
  simp only[Ke.cells,zV,List.not_mem_nil,or_false]at g;rcases g with rfl|rfl|rfl|rfl|rfl <;> rfl
 rw[Ke.av,Kr,this]
structure Spec where
 keys:List Ke
 sep:Int
 flags:Int
 stab:Bool
 uniq:Bool
def Spec.cells (x:AV)(p:Spec):List AV:=[x,yE J p.sep,yE J p.flags,.bool p.uniq,.bool p.stab]
def SpecAV (a:AV)(p:Spec):Prop:=∃ x,a=.agg (p.cells x)/\Sl 5 x (p.keys.map Ke.av)
theorem SpecAV.close {a:AV}{p:Spec}(h:SpecAV a p)(H:Hp)(n f:Nat):∃ a',Zd H n (f+4) a=some a'/\SpecAV a' p:=by
 obtain⟨x,rfl,y⟩:=h
 obtain⟨g,j,u⟩:=y.close (H:=H) (n:=n) (f:=f+2) (fun c w=>by
  obtain⟨k,_,rfl⟩:=List.mem_map.1 w;exact k.close H n f)
 refine⟨.agg (p.cells g),?_,g,rfl,u⟩
 have:(p.cells x).mapM (Zd H n (f+3))=some (p.cells g):=by
  simp only[Spec.cells,zZ,j,List.mapM_nil];rfl
 rw[Kr,this]
theorem XI {f:List AV->Hp->Z4}{a a' v:AV}{H H1:Hp}(g:Zd [] 0 9 a=some a')(h:f [a'] []=some (v,H1))(j:F2 3 v=true):Zf f [a] H=some (v,H) :=
 Ws (args':=[a']) (by simp[g]) h j
theorem F1 {f:List AV->Hp->Z4}{a a' b b' v:AV}{H H1:Hp}(g:Zd [] 0 9 a=some a')(h:Zd [] 0 9 b=some b')(j:f [a',b'] []=some (v,H1))(u:F2 3 v=true):Zf f [a,b] H=some (v,H) :=
 Ws (args':=[a',b']) (by simp[g,h]) j u
def Kc (k:Ke):Bool:=decide (k.ff<1) || (decide (k.fc<1) || (decide (k.tf<0) || (decide (k.tc<0) || ((k.tf==0&&k.tc != 0) || (decide (k.fl<0) || decide (31<k.fl))))))
def ZJ (p:Spec):Int :=
 if 8<p.keys.length then 3 else if decide (p.sep < -1) || (decide (255<p.sep) || (p.sep==10 || (decide (p.flags<0) || decide (31<p.flags)))) then 2 else if p.keys.any Kc then 2 else 0
theorem C1 (k:Ke)(H:Hp):Z3 true 5 (.vp k.cells) H=some (.agg k.cells):=by simp[Z3,Go.Am.apart,Ke.cells]
theorem Zca (H:Hp)(k:Ke)(z:List AV)(g:z.length=5):Zb 5 (.ptr H.length 0) (.agg k.cells) (H++[.cells z])=some (.tuple [],H++[.cells k.cells]):=by
 rw[WG (sz:=5) (v:=.agg k.cells) (VB _ _) rfl rfl (by omega)];simp[AV.cells,splice,g,Ke.cells]
theorem ZH (H:Hp)(l:List AV)(off:Nat):Z3 false 1 (.ptr H.length off) (H++[.cells l])=l[off]?:=Y2 (VB H _)
theorem Yu (l:List AV)(H:Hp):ZN (.agg l) H=some (.ptr H.length 0,H++[.cells l]):=FH rfl
attribute [go_sem] Yu ZH
theorem Sl.key {x:AV}{l:List Ke}(h:Sl 5 x (l.map Ke.av)){i:Nat}{k:Ke}(hi:l[i]?=some k):Zo 5 x (yE J (i:Int))=some (.vp k.cells):=h.idx (c:=k.av) (by simp[hi])
theorem Zxp {x:AV}{l:List Ke}(h:Sl 5 x (l.map Ke.av)){i:Nat}{k:Ke}(hi:l[i]?=some k)(n t:AV)(g H:Hp) :
 ∃ H',Fk x n (yE J (i:Int)) t g H=if Kc k then some (yE J 2,H') else Fl x n (yE J (i:Int)) g H':=by
 rw[ZaY];refine⟨H++[.cells k.cells],?_⟩;have D:=VB H (.cells k.cells);simp only[h.key hi,C1,go_sem,Zca H k [yE J 0,yE J 0,yE J 0,yE J 0,yE J 0] rfl];simp only[go_sem,zC,ZH,Ke.cells,zA,zB];unfold Kc
 cases w:decide (k.ff<1) with
 |true=>simp only[go_sem,zE,if_true]
 |false =>
 simp only[go_sem,zD,zC,ZH,Ke.cells,zA,zB]
 cases y:decide (k.fc<1) with
 |true=>simp only[go_sem,zE,if_true]
 |false =>
 simp only[go_sem,zD,zC,ZH,Ke.cells,zA,zB]
 cases z:decide (k.tf<0) with
 |true=>simp only[go_sem,zE,if_true]
 |false =>
 simp only[go_sem,zD,zC,ZH,Ke.cells,zA,zB]
 cases A:decide (k.tc<0) with
 |true=>simp only[go_sem,zE,if_true]
 |false =>
 simp only[go_sem,zD,zC,ZH,Ke.cells,zA,zB];have last:∀ b:Bool,b=false->True:=fun _ _=>trivial
 cases B:(k.tf==0) with
 |true =>
  simp only[go_sem,yA,zC,ZH,Ke.cells,zA,zB]
  cases C:(k.tc != 0) with
  |true=>simp only[go_sem,zE,if_true]
  |false =>
   simp only[go_sem,zD,zC,ZH,Ke.cells,zA,zB]
   cases j:decide (k.fl<0) with
   |true=>simp only[go_sem,zE,if_true]
   |false =>
    simp only[go_sem,zD,zC,ZH,Ke.cells,zA,zB];cases u:decide (31<k.fl) <;> simp[go_sem]
 |false =>
  simp only[go_sem,zM,zD,zC,ZH,Ke.cells,zA,zB]
  cases j:decide (k.fl<0) with
  |true=>simp only[go_sem,zE,if_true]
  |false =>
   simp only[go_sem,zD,zC,ZH,Ke.cells,zA,zB];cases u:decide (31<k.fl) <;> simp[go_sem]
theorem Zxq {x:AV}{l:List Ke}(h:Sl 5 x (l.map Ke.av))(B:l.length<=8)(u:Hp):∀ (m i:Nat) (H:Hp),l.length-i=m->i<=l.length ->
 ∃ H',JR x (yE J (l.length:Int)) (yE J (i:Int)) u H=some (yE J (if (l.drop i).any Kc then 2 else 0),H'):=by
 intro m
 induction m with
 |zero =>
  intro i H hm hi;rw[Tz];have g:decide ((i:Int)<(l.length:Int))=false:=by simp;omega
  have y:l.drop i=[]:=zI.2 (by omega);simp only[go_sem,g,ZaX,y,yC];exact⟨_,rfl⟩
 |succ m z =>
  intro i H hm hi;rw[Tz];have j:i<l.length:=by omega
  have g:decide ((i:Int)<(l.length:Int))=true:=by simp;omega
  have hw:yD.wrap ((i:Int)+1)=((i+1:Nat):Int):=by rw[Zr (by omega) (by omega)];omega
  obtain⟨H1,w⟩:=Zxp h (zJ j) (yE J (l.length:Int)) (.bool true) u H;simp only[go_sem,g,w];rw[zL j,yB]
  cases A:Kc l[i] with
  |true=>simp only[if_true,zE];exact⟨_,rfl⟩
  |false =>
   simp only[zF,if_false,zD,ZaZ,go_sem,hw];exact z (i+1) H1 (by omega) (by omega)
theorem ZoY {a:AV}{p:Spec}(h:SpecAV a p)(H:Hp):∃ H',Wl [a] H=some (yE J (ZJ p),H'):=by
 obtain⟨x,rfl,w⟩:=h;rw[Zby];unfold SK ZJ;have D:=VB H (.cells (p.cells x));have g:=w.len 119;rw[zS]at g;simp only[go_sem,zC,ZH,Spec.cells,zA,zB,g];by_cases u:8<p.keys.length
 ·have j:decide ((8:Int)<(p.keys.length:Int))=true:=by simp;omega
  simp only[j,go_sem,u,if_true];exact⟨_,rfl⟩
 have j:decide ((8:Int)<(p.keys.length:Int))=false:=by simp;omega
 simp only[j,go_sem,u,if_false,ZaV,zC,ZH,Spec.cells,zA,zB]
 cases y:decide (p.sep < -1) with
 |true=>simp only[go_sem,zE,if_true];exact⟨_,rfl⟩
 |false =>
 simp only[go_sem,zD,zC,ZH,Spec.cells,zA,zB]
 cases z:decide (255<p.sep) with
 |true=>simp only[go_sem,zE,if_true];exact⟨_,rfl⟩
 |false =>
 simp only[go_sem,zD,zC,ZH,Spec.cells,zA,zB]
 cases A:(p.sep==10) with
 |true=>simp only[go_sem,zE,if_true];exact⟨_,rfl⟩
 |false =>
 simp only[go_sem,zD,zC,ZH,Spec.cells,zA,zB]
 cases B:decide (p.flags<0) with
 |true=>simp only[go_sem,zE,if_true];exact⟨_,rfl⟩
 |false =>
 simp only[go_sem,zD,zC,ZH,Spec.cells,zA,zB]
 cases C:decide (31<p.flags) with
 |true=>simp only[go_sem,if_true];exact⟨_,rfl⟩
 |false =>
 simp only[go_sem,zF,if_false,ZaW,zC,ZH,Spec.cells,zA,zB,g];have:=Zxq w (by omega) H p.keys.length 0 (H++[.cells (p.cells x)]) (by omega) (by omega);simpa[Spec.cells]using this
theorem MX {a:AV}{p:Spec}(h:SpecAV a p)(H:Hp):Zf Wl [a] H=some (yE J (ZJ p),H):=by
 obtain⟨a',g,j⟩:=h.close [] 0 5;obtain⟨H',u⟩:=ZoY j [];exact XI g u rfl
theorem Zqh (k:Ke)(H:Hp):∃ H',PC [k.av] H=some (.bool (!Kc k),H'):=by
 rw[Zi6];unfold Zes Ke.av;simp only[go_sem,zC,Ke.cells,zA,zB];unfold Kc
 have j:∀ b:Bool,b=(decide (k.fl<0) || decide (31<k.fl))->∃ H',LX (.ptr H.length 0) H (H++[.cells [yE J k.ff,yE J k.fc,yE J k.tf,yE J k.tc,yE J k.fl]])=some (.bool (!b),H'):=by
  intro b h;rw[Zgv];simp only[go_sem,zC,zA,zB]
  cases g:decide (k.fl<0) with
  |true =>
   have:decide (0<=k.fl)=false:=by simp at g ⊢;omega
   simp only[this,go_sem];rw[h,g];exact⟨_,rfl⟩
  |false =>
   have:decide (0<=k.fl)=true:=by simp at g ⊢;omega
   simp only[this,go_sem,zC,zA,zB];have e:decide (k.fl<=31)=!decide (31<k.fl):=by rw[zR];simp
   rw[h,g,e];exact⟨_,rfl⟩
 cases u:decide (k.ff<1) with
 |true=>simp only[go_sem,zE,zK];exact⟨_,rfl⟩
 |false =>
 simp only[go_sem,zD,zC,Ke.cells,zA,zB]
 cases w:decide (k.fc<1) with
 |true=>simp only[go_sem,zE,zK];exact⟨_,rfl⟩
 |false =>
 simp only[go_sem,zD,zC,Ke.cells,zA,zB]
 cases y:decide (k.tf<0) with
 |true=>simp only[go_sem,zE,zK];exact⟨_,rfl⟩
 |false =>
 simp only[go_sem,zD,zC,Ke.cells,zA,zB]
 cases z:decide (k.tc<0) with
 |true=>simp only[go_sem,zE,zK];exact⟨_,rfl⟩
 |false =>
 simp only[go_sem,zD,zC,Ke.cells,zA,zB]
 cases A:(k.tf==0) with
 |true =>
  simp only[go_sem,yA,zC,Ke.cells,zA,zB]
  cases B:(k.tc != 0) with
  |true=>simp only[go_sem,zE,zK];exact⟨_,rfl⟩
  |false=>simp only[go_sem,zD];exact j _ rfl
 |false=>simp only[go_sem,zM,zD];exact j _ rfl
theorem Zqg (k:Ke)(H:Hp):Zf PC [k.av] H=some (.bool (!Kc k),H):=by
 obtain⟨H',g⟩:=Zqh k [];exact XI (k.close [] 0 7) g rfl
theorem ZwS {x:AV}{l:List Ke}(h:Sl 5 x (l.map Ke.av))(D:l.length<=8)(z:Hp){o:Nat}{r:List AV}{H:Hp}(w:H[o]?=some (.cells (x::r))):∀ (m i:Nat),l.length-i=m->i<=l.length ->
 Rj (.ptr o 0) (yE J (i:Int)) z H=some (yE J (if (l.drop i).any Kc then 2 else 0),H):=by
 have g:=h.len 119;rw[zS]at g;intro m
 induction m with
 |zero =>
  intro i hm hi;rw[SV];have j:decide ((i:Int)<(l.length:Int))=false:=by simp;omega
  have A:l.drop i=[]:=zI.2 (by omega);simp only[go_sem,zC,Y2 w,zA,g,j,Zgs,A,yC];rfl
 |succ m B =>
  intro i hm hi;rw[SV];have u:i<l.length:=by omega
  have j:decide ((i:Int)<(l.length:Int))=true:=by simp;omega
  have hw:yD.wrap ((i:Int)+1)=((i+1:Nat):Int):=by rw[Zr (by omega) (by omega)];omega
  have y:=Zqg l[i] H;unfold Ke.av at y;simp only[go_sem,zC,Y2 w,zA,g,j,Zgt,h.key (zJ u),C1,y,Bool.not_not];rw[zL u,yB]
  cases C:Kc l[i] with
  |true=>simp only[go_sem,if_true,zE]
  |false =>
   simp only[go_sem,zD,Zgu,hw];exact B (i+1) (by omega) (by omega)
theorem ZnF {a:AV}{p:Spec}(h:SpecAV a p)(H:Hp):∃ H',PB [a] H=some (yE J (ZJ p),H'):=by
 obtain⟨x,rfl,w⟩:=h;rw[Zi5];unfold Zer ZJ;have g:=w.len 119;rw[zS]at g;simp only[go_sem,zC,Spec.cells,zA,zB,g];by_cases u:8<p.keys.length
 ·have j:decide ((8:Int)<(p.keys.length:Int))=true:=by simp;omega
  simp only[j,go_sem,u,if_true];exact⟨_,rfl⟩
 have j:decide ((8:Int)<(p.keys.length:Int))=false:=by simp;omega
 simp only[j,go_sem,u,if_false,Zgq,zC,Spec.cells,zA,zB]
 cases y:decide (p.sep < -1) with
 |true=>simp only[go_sem,zE,if_true];exact⟨_,rfl⟩
 |false =>
 simp only[go_sem,zD,zC,Spec.cells,zA,zB]
 cases z:decide (255<p.sep) with
 |true=>simp only[go_sem,zE,if_true];exact⟨_,rfl⟩
 |false =>
 simp only[go_sem,zD,zC,Spec.cells,zA,zB]
 cases A:(p.sep==10) with
 |true=>simp only[go_sem,zE,if_true];exact⟨_,rfl⟩
 |false =>
 simp only[go_sem,zD,zC,Spec.cells,zA,zB]
 cases B:decide (p.flags<0) with
 |true=>simp only[go_sem,zE,if_true];exact⟨_,rfl⟩
 |false =>
 simp only[go_sem,zD,zC,Spec.cells,zA,zB]
 cases C:decide (31<p.flags) with
 |true=>simp only[go_sem,if_true];exact⟨_,rfl⟩
 |false =>
 simp only[go_sem,zF,if_false,Zgr];have:=ZwS w (by omega) H (VB H (.cells [x,yE J p.sep,yE J p.flags,.bool p.uniq,.bool p.stab])) p.keys.length 0 (by omega) (by omega);rw[show ((0:Nat):Int)=0 from rfl,zO]at this;exact⟨_,this⟩
theorem ZnE {a:AV}{p:Spec}(h:SpecAV a p)(H:Hp):Zf PB [a] H=some (yE J (ZJ p),H):=by
 obtain⟨a',g,j⟩:=h.close [] 0 5;obtain⟨H',u⟩:=ZnF j [];exact XI g u rfl
end Go.Am
namespace Go.Am
open Go.Proofs
def RowN (n:Nat)(H:Hp)(k:Nat)(x:AV)(l:List AV):Prop:=x=.nils/\l=[]\/∃ t e,x=.vs k (.own t e) l/\H[t]?=some (.tok e)/\n<=t
def Keep (n:Nat)(H H':Hp):Prop:=∀ i,i<n->H'[i]?=H[i]?
theorem Keep.refl (n:Nat)(H:Hp):Keep n H H:=fun _ _=>rfl
theorem Keep.trans {n:Nat}{A B C:Hp}(h:Keep n A B)(k:Keep n B C):Keep n A C:=fun i hi=>(k i hi).trans (h i hi)
theorem Keep.push {n:Nat}(H:Hp)(g:n<=H.length)(l:List AObj):Keep n H (H++l):=fun i hi=>List.getElem?_append_left (by omega)
theorem RowN.nil (n:Nat)(H:Hp)(k:Nat):RowN n H k .nils []:=.inl ⟨rfl,rfl⟩
theorem RowN.sl {n:Nat}{H:Hp}{k:Nat}{x:AV}{l:List AV}(h:RowN n H k x l):Sl k x l:=h.imp id fun⟨t,e,a,_⟩=>⟨_,a⟩
theorem RowN.push {n:Nat}{H:Hp}{k:Nat}{x:AV}{l:List AV}(h:RowN n H k x l)(r:List AObj):RowN n (H++r) k x l:=h.imp id fun⟨t,e,a,b,c⟩=>⟨t,e,a,Y5 b _,c⟩
theorem RowN.app {n:Nat}{H:Hp}{k:Nat}{x:AV}{l:List AV}(h:RowN n H k x l)(z:n<=H.length)(bytes:Nat)(y:AV)(j:List AV)(E:elems k y H=some j)(B:(l.length+j.length)*(bytes+1)<=140737488355328) :
 ∃ C H',Y7 k bytes x y H=some (C,H')/\RowN n H' k C (l++j)/\n<=H'.length/\Keep n H H'/\(∀ (i:Nat) (c:List AV),H[i]?=some (.cells c)->H'[i]?=some (.cells c)):=by
 unfold Y7;simp only[E];rcases h with ⟨rfl,rfl⟩|⟨t,e,rfl,A,w⟩
 ·by_cases u:j=[]
  ·subst u;exact⟨.nils,H,by simp[YL],.inl ⟨rfl,rfl⟩,z,Keep.refl _ _,fun _ _ h=>h⟩
  ·have g:X9 j.length bytes=true:=by simpa[X9]using B
   exact⟨.vs k (.own H.length j.length) j,H++[.tok j.length],by simp only[YL,u,if_false,g,if_true],.inr ⟨H.length,j.length,rfl,by simp,z⟩,by simp;omega,Keep.push H z _,fun i c h=>Y5 h _⟩
 ·have g:X9 (l.length+j.length) bytes=true:=by simpa[X9]using B
  by_cases u:j=[]
  ·subst u;exact⟨.vs k (.own t e) l,H,by simp only[YL,List.length_nil,zQ]at g ⊢;simp only[g,and_self,if_true],.inr ⟨t,e,by simp,A,w⟩,z,Keep.refl _ _,fun _ _ h=>h⟩
  ·refine⟨_,_,by simp only[YL,g,and_self,if_true,u,if_false,A],.inr ⟨t,e+j.length,rfl,Zs _ A,w⟩,by simp;omega,fun i hi=>List.getElem?_set_ne (by omega),fun i c h=>?_⟩;refine Yi _ (fun D=>?_) h;subst D;rw[A]at h;cases h
def Zrd (n j:Nat):Bool:=match Z5 .and (yE J n) (yE J ((2 ^ j:Nat):Int)) with
 |some (yE J m)=>m==(if n.testBit j then ((2 ^ j:Nat):Int) else 0)
 |_=>false
theorem ZoZ:((zY 32).all fun n=>(zY 5).all fun j=>Zrd n j)=true:=by kernel_rfl
theorem WF {n:Nat}{p:Nat->Bool}(h:(zY n).all p=true){i:Nat}(hi:i<n):p i=true:=List.all_eq_true.1 h i (List.mem_range.2 hi)
theorem Zc8 {n j:Nat}(u:n<32)(g:j<5):Z5 .and (yE J n) (yE J ((2 ^ j:Nat):Int))=some (yE J (if n.testBit j then ((2 ^ j:Nat):Int) else 0)):=by
 have h:=WF (WF ZoZ u) g;unfold Zrd at h;split at h
 ·rename_i m hm;rw[hm];have:m=(if n.testBit j then ((2 ^ j:Nat):Int) else 0):=by simpa using h
  rw[this]
 ·cases h
end Go.Am
