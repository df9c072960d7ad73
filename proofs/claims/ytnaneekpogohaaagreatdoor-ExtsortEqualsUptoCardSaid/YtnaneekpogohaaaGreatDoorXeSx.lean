/- The fields of a line -/
import Derived.Test.YtnaneekpogohaaaGreatDoorXeGx
import Derived.Test.YtnaneekpogohaaaGreatDoorHmSx
open Go.IntKind renaming i64->yD
open List renaming getElem?_cons_zero->zA,getElem?_cons_succ->zB,drop_succ_cons->zH,drop_eq_nil_iff->zI,getElem?_eq_getElem->zJ,drop_eq_getElem_cons->zL,drop_drop->zN,drop_zero->zO,length_map->zS,mem_of_getElem?->zT,takeWhile_cons->zU,mem_cons->zV,length_drop->zW,range->zY,mapM_cons->zZ,any_cons->yB,any_nil->yC
open Nat renaming zero_add->zC,le_refl->zP,add_zero->zQ,strongRecOn->zX
open Bool renaming false_or->zD,true_or->zE,false_eq_true->zF,not_true->zK,false_and->zM,eq_iff_iff->zR,true_and->yA
open UInt8 renaming ofNat->zG
namespace Go.Am
theorem ZAp (b:UInt8)(n:Nat)(h:n<256):(((b.toNat:Int))==(n:Int))=(b==zG n):=by
 rw[zR];simp only[beq_iff_eq];constructor
 ·intro e;have:b.toNat=n:=by omega
  rw[<-this];simp
 ·intro e;subst e;simp;omega
def Xk (b:UInt8):Bool:=b==32 || b==9
theorem C4 (b:UInt8):(((b.toNat:Int))==32)=(b==32)/\(((b.toNat:Int))==9)=(b==9):=⟨ZAp b 32 (by decide),ZAp b 9 (by decide)⟩
theorem IL (b:UInt8)(H:Hp):Vc [.int .u8 b.toNat] H=some (.bool (Xk b),H):=by
 rw[Zbr];unfold SM Xk;simp only[go_sem,(C4 b).1];cases (b==32) <;> simp[go_sem,(C4 b).2]
theorem ZiE (s:List UInt8)(n:Int)(H:Hp):K1 [.str s,.int .u8 n] H=some (.int .i64 (JI (zG n.toNat) s 0),H):=by
 rw[Ho];unfold RX;rw[G5];unfold U4;simp only[go_sem]
def Xf (c:UInt8):List UInt8->Nat->Nat->List (Nat×Nat)
 |[],f,p=>[(f,p)]
 |b::l,f,p=>if b=c then (f,p)::Xf c l (p+1) (p+1) else Xf c l f (p+1)
theorem Zcw (c b:UInt8)(l:List UInt8)(f p:Nat):Xf c (b::l) f p=if b=c then (f,p)::Xf c l (p+1) (p+1) else Xf c l f (p+1):=(Eq.refl _).trans (Eq.refl _)
theorem Zny (c b:UInt8)(l:List UInt8)(k:Nat):JI c (b::l) k=if b=c then (k:Int) else JI c l (k+1):=(Eq.refl _).trans (Eq.refl _)
theorem Zns (c:UInt8):∀ (l:List UInt8) (f p k:Nat),
 (JI c l k=-1/\Xf c l f p=[(f,p+l.length)])\/∃ e,e<l.length/\JI c l k=((k+e:Nat):Int)/\Xf c l f p=(f,p+e)::Xf c (l.drop (e+1)) (p+e+1) (p+e+1):=by
 intro l
 induction l with
 |nil=>intro f p k;exact .inl ⟨rfl,rfl⟩
 |cons b l u =>
  intro f p k;rw[Zny,Zcw];by_cases h:b=c
  ·exact .inr ⟨0,by simp,by simp[h],by simp[h]⟩
  ·simp only[h,if_false];rcases u f (p+1) (k+1) with ⟨g,j⟩|⟨e,w,g,j⟩
   ·exact .inl ⟨g,by rw[j];simp[Nat.add_comm,Nat.add_left_comm]⟩
   ·refine .inr ⟨e+1,by simp;omega,by rw[g];congr 1;omega,?_⟩;rw[j,zH];simp only[show p+1+e=p+(e+1) by omega]
def ZiU (a b:Nat)(ok:Bool):AV:=.tuple [.int .i64 a,.int .i64 b,.bool ok]
theorem ZgS {g:List UInt8}(I:g.length<=1048576){sep:Int}(S:0<=sep)(T:sep<=255){n:Int}(J H:Hp):∀ (k f i:Nat),g.length+1-f=k->f<=g.length->i<=f+1->(i:Int)<=n ->
 ∃ a b,Jt (.str g) (.int .i64 n) (.int .i64 sep) (.int .i64 (f:Int)) (.int .i64 (i:Int)) J H =
  some (ZiU a b (decide (n<i+(Xf (zG sep.toNat) (g.drop f) f f).length)),H) /\
  (n<i+(Xf (zG sep.toNat) (g.drop f) f f).length->(Xf (zG sep.toNat) (g.drop f) f f)[(n-i).toNat]?=some (a,b)):=by
 intro k
 induction k using zX with
 |_ k O =>
  intro f i V U hi W;rw[Zb3];have w:=MJ (s:=g) (n:=(f:Int)) .i64 (by omega) (by omega);have C:((f:Int)).toNat=f:=by omega
  rw[C]at w
  have B:Wh .u8 (.int .i64 sep)=some (.int .u8 sep):=by
   have:IntKind.u8.wrap sep=sep:=by
    unfold IntKind.wrap;have K:(2 ^ IntKind.u8.bits:Int)=256:=by decide
    have L:IntKind.u8.signed=false:=rfl;simp only[K,L,zM,zF,if_false];omega
   simp[Wh,this]
  simp only[w,go_sem,B,ZiE];rcases Zns (zG sep.toNat) (g.drop f) f f 0 with ⟨y,z⟩|⟨e,M,y,z⟩
  ·have j:decide (JI (zG sep.toNat) (g.drop f) 0<0)=true:=by rw[y];decide
   simp only[j,go_sem];rw[z];refine⟨f,g.length,?_,fun h=>?_⟩
   ·have:((i:Int)==n)=decide (n<(i:Int)+([(f,f+(g.drop f).length)]:List (Nat×Nat)).length):=by
     rw[zR];simp;omega
    rw[this];rfl
   ·have u:n=i:=by simp at h;omega
    subst u;simp;omega
  ·have j:decide (JI (zG sep.toNat) (g.drop f) 0<0)=false:=by rw[y];simp
   simp only[j,go_sem,OH];rw[y,z];simp only[zW]at M;by_cases u:(i:Int)=n
   ·have A:((i:Int)==n)=true:=by simp[u]
    have hw:yD.wrap ((f:Int)+((0+e:Nat):Int))=((f+e:Nat):Int):=by rw[Zr (by omega) (by omega)];omega
    simp only[A,go_sem,hw];refine⟨f,f+e,?_,fun _=>by simp[<-u]⟩
    have:(true:Bool)=decide (n<(i:Int)+((f,f+e)::Xf (zG sep.toNat) ((g.drop f).drop (e+1)) (f+e+1) (f+e+1)).length):=by
     symm;simp;omega
    rw[<-this];rfl
   ·have A:((i:Int)==n)=false:=by simp[u]
    have D:yD.wrap (((0+e:Nat):Int)+1)=((e+1:Nat):Int):=by rw[Zr (by omega) (by omega)];omega
    have E:yD.wrap ((f:Int)+((e+1:Nat):Int))=((f+e+1:Nat):Int):=by rw[Zr (by omega) (by omega)];omega
    have F:yD.wrap ((i:Int)+1)=((i+1:Nat):Int):=by rw[Zr (by omega) (by omega)];omega
    simp only[A,go_sem,OI,D,E,OG,F];obtain⟨a,b,Q,R⟩:=O (g.length+1-(f+e+1)) (by omega) (f+e+1) (i+1) rfl (by omega) (by omega) (by omega);rw[zN,show f+(e+1)=f+e+1 by omega];refine⟨a,b,?_,fun h=>?_⟩
    ·rw[Q]
     have:decide (n<((i+1:Nat):Int)+(Xf (zG sep.toNat) (g.drop (f+e+1)) (f+e+1) (f+e+1)).length) =
      decide (n<(i:Int)+((f,f+e)::Xf (zG sep.toNat) (g.drop (f+e+1)) (f+e+1) (f+e+1)).length):=by
      congr 1;simp;constructor <;> intro h <;> omega
     rw[this]
    ·have N:n<((i+1:Nat):Int)+(Xf (zG sep.toNat) (g.drop (f+e+1)) (f+e+1) (f+e+1)).length:=by simp at h ⊢;omega
     have:=R N;rw[show (n-(i:Int)).toNat=(n-((i+1:Nat):Int)).toNat+1 by omega];simpa using this
def YE (l:List UInt8):Nat:=(l.takeWhile Xk).length
def XM (l:List UInt8):Nat:=(l.takeWhile fun b=>!Xk b).length
theorem ZjK:YE []=0:=rfl
theorem Zd5:XM []=0:=rfl
theorem VH (b:UInt8)(l:List UInt8):YE (b::l)=if Xk b then YE l+1 else 0:=by
 unfold YE;rw[zU];split <;> simp
theorem Gs (b:UInt8)(l:List UInt8):XM (b::l)=if Xk b then 0 else XM l+1:=by
 unfold XM;rw[zU];cases Xk b <;> simp
theorem ZfI (l:List UInt8):YE l<=l.length:=by
 induction l with
 |nil=>simp[ZjK]
 |cons b l g=>rw[VH];split <;> simp;exact g
theorem Zx3 (l:List UInt8):XM l<=l.length:=by
 induction l with
 |nil=>simp[Zd5]
 |cons b l g=>rw[Gs];split <;> simp;exact g
def UG:Bool->List UInt8->Nat->Nat->List (Nat×Nat)
 |_,[],f,p=>[(f,p)]
 |q,b::l,f,p=>if Xk b&&!q then (f,p)::UG (Xk b) l p (p+1) else UG (Xk b) l f (p+1)
theorem Ef (q:Bool)(b:UInt8)(l:List UInt8)(f p:Nat):UG q (b::l) f p=if Xk b&&!q then (f,p)::UG (Xk b) l p (p+1) else UG (Xk b) l f (p+1):=(Eq.refl _).trans (Eq.refl _)
def Ja:List UInt8->Nat->List (Nat×Nat)
 |[],_=>[]
 |x::l,f=>UG (Xk x) l f (f+1)
theorem Zjj (x:UInt8)(l:List UInt8)(f:Nat):Ja (x::l) f=UG (Xk x) l f (f+1):=(Eq.refl _).trans (Eq.refl _)
theorem Zje:∀ (l:List UInt8) (f p:Nat),UG false l f p=(f,p+XM l)::Ja (l.drop (XM l)) (p+XM l):=by
 intro l
 induction l with
 |nil=>intro f p;rfl
 |cons b l j =>
  intro f p;rw[Ef,Gs]
  cases g:Xk b with
  |true=>simp[Ja,g]
  |false =>
   simp only[zM,zF,if_false];rw[j];simp only[zH,show p+1+XM l=p+(XM l+1) by omega]
theorem ZsG:∀ (l:List UInt8) (f p:Nat),UG true l f p=match l.drop (YE l) with
 |[]=>[(f,p+YE l)]
 |m::l'=>UG false l' f (p+YE l+1):=by
 intro l
 induction l with
 |nil=>intro f p;rfl
 |cons b l g =>
  intro f p;rw[Ef,VH]
  cases j:Xk b with
  |true =>
   simp only[zK,Bool.and_false,zF,if_false,if_true,zH];rw[g];simp only[show p+1+YE l=p+(YE l+1) by omega]
  |false=>simp
def U8 (l:List UInt8):Nat:=YE l+XM (l.drop (YE l))
theorem Zsu (l:List UInt8){m:UInt8}{u:List UInt8}(h:l.drop (YE l)=m::u):Xk m=false:=by
 induction l with
 |nil=>simp at h
 |cons b l j =>
  rw[VH]at h
  cases g:Xk b with
  |true=>simp[g]at h;exact j h
  |false=>simp[g]at h;rw[<-h.1];exact g
theorem ZsU (l:List UInt8)(f:Nat)(h:0<l.length):Ja l f=(f,f+U8 l)::Ja (l.drop (U8 l)) (f+U8 l):=by
 cases l with
 |nil=>simp at h
 |cons x l =>
  rw[Zjj];unfold U8;rw[VH]
  cases z:Xk x with
  |false =>
   simp only[zF,if_false,zO,zC,Gs,z,zH];rw[Zje];simp only[show f+1+XM l=f+(XM l+1) by omega]
  |true =>
   simp only[if_true];rw[ZsG];simp only[zH]
   cases j:l.drop (YE l) with
   |nil =>
    have u:YE l=l.length:=by
     have:=zI.1 j;have:=ZfI l;omega
    simp only[Zd5,zQ];have:(x::l).drop (YE l+1)=[]:=by simp[j]
    rw[this];simp[show f+1+YE l=f+(YE l+1) by omega,Ja]
   |cons m g =>
    have y:=Zsu l j;simp only[Gs,y,zF,if_false];rw[Zje]
    have w:(x::l).drop (YE l+1+(XM g+1))=g.drop (XM g):=by
     have:(x::l).drop (YE l+1+(XM g+1))=(m::g).drop (XM g+1):=by
      rw[<-j,zN,show YE l+1+(XM g+1)=(YE l+(XM g+1))+1 by omega,zH]
     rw[this,zH]
    rw[w];simp only[show f+1+YE l+1+XM g=f+(YE l+1+(XM g+1)) by omega]
theorem ZvM (l:List UInt8)(h:0<l.length):0<U8 l:=by
 cases l with
 |nil=>simp at h
 |cons x l =>
  unfold U8;rw[VH]
  cases g:Xk x with
  |true=>simp;omega
  |false=>simp[Gs,g]
theorem Zys (l:List UInt8):U8 l<=l.length:=by
 unfold U8;have j:=ZfI l;have g:=Zx3 (l.drop (YE l));simp at g;omega
theorem Y1 {s:List UInt8}{i:Nat}{b:UInt8}(h:s[i]?=some b):Zw (.str s) (.int .i64 (i:Int))=some (.int .u8 b.toNat):=by simp[Zw,h]
theorem UU {s:List UInt8}{i:Nat}(h:i<s.length):s.drop i=s[i]::s.drop (i+1):=zL h
theorem ZxT {g:List UInt8}(y:g.length<=1048576)(n f i:AV)(u H:Hp):∀ (k p:Nat),g.length-p=k->p<=g.length ->
 Js (.str g) n f (.int .i64 (p:Int)) i u H=F1 (.str g) n f (.int .i64 ((p+YE (g.drop p):Nat):Int)) i u H:=by
 intro k
 induction k with
 |zero =>
  intro p A B;rw[Tk];have j:decide ((p:Int)<(g.length:Int))=false:=by simp;omega
  have z:g.drop p=[]:=zI.2 (by omega);simp only[go_sem,j,z,ZjK,zQ]
 |succ k C =>
  intro p A B;rw[Tk];have j:decide ((p:Int)<(g.length:Int))=true:=by simp;omega
  have w:p<g.length:=by omega
  have hw:yD.wrap ((p:Int)+1)=((p+1:Nat):Int):=by rw[Zr (by omega) (by omega)];omega
  simp only[go_sem,j,Y1 (zJ w),IL];rw[UU w,VH]
  cases D:Xk g[p] with
  |true =>
   simp only[go_sem,Zb1,hw,if_true];rw[C (p+1) (by omega) (by omega),show p+1+YE (g.drop (p+1))=p+(YE (g.drop (p+1))+1) by omega]
  |false=>simp[go_sem]
theorem ZxS {g:List UInt8}(y:g.length<=1048576)(n f i:AV)(u H:Hp):∀ (k p:Nat),g.length-p=k->p<=g.length ->
 Jr (.str g) n f (.int .i64 (p:Int)) i u H=F2 (.str g) n f (.int .i64 ((p+XM (g.drop p):Nat):Int)) i u H:=by
 intro k
 induction k with
 |zero =>
  intro p A B;rw[Tj];have j:decide ((p:Int)<(g.length:Int))=false:=by simp;omega
  have z:g.drop p=[]:=zI.2 (by omega);simp only[go_sem,j,z,Zd5,zQ]
 |succ k C =>
  intro p A B;rw[Tj];have j:decide ((p:Int)<(g.length:Int))=true:=by simp;omega
  have w:p<g.length:=by omega
  have hw:yD.wrap ((p:Int)+1)=((p+1:Nat):Int):=by rw[Zr (by omega) (by omega)];omega
  simp only[go_sem,j,Y1 (zJ w),IL];rw[UU w,Gs]
  cases D:Xk g[p] with
  |false =>
   simp only[Bool.not_false,go_sem,Zb0,hw,zF,if_false];rw[C (p+1) (by omega) (by omega),show p+1+XM (g.drop (p+1))=p+(XM (g.drop (p+1))+1) by omega]
  |true=>simp[go_sem]
theorem Zfa {g:List UInt8}(j:g.length<=1048576){n:Int}(D H:Hp):∀ (k f i:Nat),g.length-f=k->f<=g.length->i<=f+1->(i:Int)<=n ->
 ∃ a b,Jq (.str g) (.int .i64 n) (.int .i64 (f:Int)) (.int .i64 (i:Int)) D H=some (ZiU a b (decide (n<i+(Ja (g.drop f) f).length)),H) /\
  (n<i+(Ja (g.drop f) f).length->(Ja (g.drop f) f)[(n-i).toNat]?=some (a,b)):=by
 intro k
 induction k using zX with
 |_ k L =>
  intro f i Q O hi R;rw[Zb2];by_cases I:f<g.length
  ·have u:decide ((f:Int)<(g.length:Int))=true:=by simp;omega
   have y:0<(g.drop f).length:=by simp;omega
   simp only[go_sem,u,ZaV];rw[ZxT j _ _ _ _ _ _ f rfl (by omega),ZaX];have A:=ZfI (g.drop f);have B:=Zys (g.drop f);have K:=ZvM (g.drop f) y;simp only[zW]at A B;rw[ZxS j _ _ _ _ _ _ (f+YE (g.drop f)) rfl (by omega),ZaY]
   have F:f+YE (g.drop f)+XM (g.drop (f+YE (g.drop f)))=f+U8 (g.drop f):=by
    unfold U8;rw[zN];omega
   rw[F,ZsU _ _ y,zN];by_cases w:(i:Int)=n
   ·have z:((i:Int)==n)=true:=by simp[w]
    simp only[z,go_sem];refine⟨f,f+U8 (g.drop f),?_,fun _=>by simp[<-w]⟩
    have:(true:Bool)=decide (n<(i:Int)+((f,f+U8 (g.drop f))::Ja (g.drop (f+U8 (g.drop f))) (f+U8 (g.drop f))).length):=by
     symm;simp;omega
    rw[<-this];rfl
   ·have z:((i:Int)==n)=false:=by simp[w]
    have C:yD.wrap ((i:Int)+1)=((i+1:Nat):Int):=by rw[Zr (by omega) (by omega)];omega
    simp only[z,go_sem,ZaZ,ZaW,C];obtain⟨a,b,M,N⟩:=L (g.length-(f+U8 (g.drop f))) (by omega) (f+U8 (g.drop f)) (i+1) rfl (by omega) (by omega) (by omega);refine⟨a,b,?_,fun h=>?_⟩
    ·rw[M]
     have:decide (n<((i+1:Nat):Int)+(Ja (g.drop (f+U8 (g.drop f))) (f+U8 (g.drop f))).length) =
      decide (n<(i:Int)+((f,f+U8 (g.drop f))::Ja (g.drop (f+U8 (g.drop f))) (f+U8 (g.drop f))).length):=by
      congr 1;simp;constructor <;> intro h <;> omega
     rw[this]
    ·have J:n<((i+1:Nat):Int)+(Ja (g.drop (f+U8 (g.drop f))) (f+U8 (g.drop f))).length:=by simp at h ⊢;omega
     have:=N J;rw[show (n-(i:Int)).toNat=(n-((i+1:Nat):Int)).toNat+1 by omega];simpa using this
  ·have u:decide ((f:Int)<(g.length:Int))=false:=by simp;omega
   have E:g.drop f=[]:=zI.2 (by omega);simp only[go_sem,u,ZaU,E,Ja];refine⟨0,0,?_,fun h=>by simp at h;omega⟩;have:decide (n<(i:Int)+([]:List (Nat×Nat)).length)=false:=by simp;omega
   rw[this];rfl
def fields (g:List UInt8)(sep:Int):List (Nat×Nat):=if 0<=sep/\sep<=255 then Xf (zG sep.toNat) g 0 0 else Ja g 0
theorem ZgT {g:List UInt8}(j:g.length<=1048576)(sep:Int){n:Int}(D:1<=n)(H:Hp) :
 ∃ a b,Ka [.str g,.int .i64 n,.int .i64 sep] H=some (ZiU a b (decide (n<=(fields g sep).length)),H) /\
  (n<=(fields g sep).length->(fields g sep)[(n-1).toNat]?=some (a,b)):=by
 rw[Zbs];unfold SN fields;by_cases h:0<=sep/\sep<=255
 ·have w:decide ((0:Int)<=sep)=true:=by simp[h.1]
  have A:decide (sep<=(255:Int))=true:=by simp[h.2]
  rw[if_pos h];simp only[go_sem,w,A];obtain⟨a,b,y,z⟩:=ZgS j h.1 h.2 (n:=n) H H _ 0 1 rfl (by omega) (by omega) (by omega);simp only[zO]at y z;refine⟨a,b,?_,fun h=>z (by omega)⟩;have:decide (n<=((Xf (zG sep.toNat) g 0 0).length:Int))=decide (n<((1:Nat):Int)+(Xf (zG sep.toNat) g 0 0).length):=by congr 1;simp;constructor <;> intro h <;> omega
  rw[this];exact y
 ·obtain⟨a,b,y,z⟩:=Zfa j (n:=n) H H _ 0 1 rfl (by omega) (by omega) (by omega);simp only[zO]at y z
  have u:F0 (.str g) (.int .i64 n) (.int .i64 0) H H=some (ZiU a b (decide (n<=((Ja g 0).length:Int))),H):=by
   rw[ZaT];have:decide (n<=((Ja g 0).length:Int))=decide (n<((1:Nat):Int)+(Ja g 0).length):=by congr 1;simp;constructor <;> intro h <;> omega
   rw[this];exact y
  refine⟨a,b,?_,fun B=>by rw[if_neg h]at B ⊢;exact z (by omega)⟩;rw[if_neg h];by_cases C:0<=sep
  ·have w:decide ((0:Int)<=sep)=true:=by simp[C]
   have A:decide (sep<=(255:Int))=false:=by simp;omega
   simp only[go_sem,w,A];exact u
  ·have w:decide ((0:Int)<=sep)=false:=by simp;omega
   simp only[go_sem,w];exact u
theorem Zq1 (c:UInt8)(L:Nat):∀ (l:List UInt8) (f p:Nat),f<=p->p+l.length=L->∀ x∈Xf c l f p,x.1<=x.2/\x.2<=L:=by
 intro l
 induction l with
 |nil=>intro f p w j x g;simp[Xf]at g;subst g;simp at j;simp;omega
 |cons b l u =>
  intro f p w j x g;rw[Zcw]at g;simp at j;split at g
  ·rcases zV.1 g with rfl|g
   ·simp;omega
   ·exact u (p+1) (p+1) (by omega) (by omega) x g
  ·exact u f (p+1) (by omega) (by omega) x g
theorem Zq2 (L:Nat):∀ (l:List UInt8) (q:Bool) (f p:Nat),f<=p->p+l.length=L->∀ x∈UG q l f p,x.1<=x.2/\x.2<=L:=by
 intro l
 induction l with
 |nil=>intro q f p w j x g;simp[UG]at g;subst g;simp at j;simp;omega
 |cons b l u =>
  intro q f p w j x g;rw[Ef]at g;simp at j;split at g
  ·rcases zV.1 g with rfl|g
   ·simp;omega
   ·exact u _ p (p+1) (by omega) (by omega) x g
  ·exact u _ f (p+1) (by omega) (by omega) x g
theorem Zjf (g:List UInt8)(sep:Int):∀ x∈fields g sep,x.1<=x.2/\x.2<=g.length:=by
 intro x j;unfold fields at j;split at j
 ·exact Zq1 _ g.length g 0 0 (zP _) (by omega) x j
 ·cases g with
  |nil=>simp[Ja]at j
  |cons a l=>rw[Zjj]at j;exact Zq2 (a::l).length l _ 0 1 (by omega) (by simp;omega) x j
structure Ke where
 ff:Int
 fc:Int
 tf:Int
 tc:Int
 fl:Int
def Ke.cells (k:Ke):List AV:=[.int .i64 k.ff,.int .i64 k.fc,.int .i64 k.tf,.int .i64 k.tc,.int .i64 k.fl]
structure KeOk (k:Ke):Prop where
 ff:-9223372036854775808<=k.ff/\k.ff<=9223372036854775807
 fc:-9223372036854775808<=k.fc/\k.fc<=9223372036854775807
 tf:-9223372036854775808<=k.tf/\k.tf<=9223372036854775807
 tc:-9223372036854775808<=k.tc/\k.tc<=9223372036854775807
def PV (lo hi:Nat)(k:Ke):Nat:=lo+(min (max k.fc 1-1) ((hi:Int)-lo)).toNat
def O8 (g:List UInt8)(fs:List (Nat×Nat))(k:Ke):Nat :=
 if 0<k.tf/\k.tf<=fs.length then (let p:=fs.getD (k.tf-1).toNat (0,0);if 0<k.tc then p.1+(min k.tc ((p.2:Int)-p.1)).toNat else p.2) else g.length
def ex (g:List UInt8)(fs:List (Nat×Nat))(k:Ke):List UInt8 :=
 if max k.ff 1<=fs.length then
  (let p:=fs.getD (max k.ff 1-1).toNat (0,0);if O8 g fs k<PV p.1 p.2 k then [] else (g.take (O8 g fs k)).drop (PV p.1 p.2 k)) else []
theorem ZwZ (H:Hp)(x y:AObj):List.set (H++[x]) H.length y=H++[y]:=by simp
theorem Vo (H:Hp)(x:AObj):(H++[x])[H.length]?=some x:=ZcG _ _ _
theorem Y5 {H:Hp}{o off:Nat}{l:List AV}(h:H[o]?=some (.cells l)):Z4 false 1 (.ptr o off) H=l[off]?:=by rw[YY h];simp[Go.Am.apart]
theorem IT {g:List UInt8}{f e:Nat}(B:f<=g.length)(A:e<=g.length)(j:g.length<=1048576)(w H:Hp) :
 W2 (.str g) (.int .i64 (f:Int)) (.int .i64 (e:Int)) w H=some (.str (if e<f then [] else (g.take e).drop f),H):=by
 rw[Ik];by_cases h:e<f
 ·have c:decide ((e:Int)<(f:Int))=true:=by simp;omega
  simp only[go_sem,c,h,if_true]
 ·have c:decide ((e:Int)<(f:Int))=false:=by simp;omega
  have u:=IK (s:=g) (n:=(f:Int)) (m:=(e:Int)) .i64 .i64 (by omega) (by omega) (by omega);have y:((f:Int)).toNat=f:=by omega
  have z:((e:Int)).toNat=e:=by omega
  rw[y,z]at u;simp only[go_sem,c,Il,u,h,if_false]
theorem ZiA {fs:List (Nat×Nat)}{i:Nat}{p:Nat×Nat}(h:fs[i]?=some p):fs.getD i (0,0)=p:=by simp[List.getD_eq_getElem?_getD,h]
theorem Zcg {g:List UInt8}(u:g.length<=1048576){k:Ke}(R:KeOk k)(sep:Int)(H:Hp) :
 ∃ H',Qj [.str g,.agg k.cells,.int .i64 sep] H=some (.str (ex g (fields g sep) k),H')/\(∀ (i:Nat) (x:AObj),H[i]?=some x->H'[i]?=some x):=by
 rw[Iw];unfold M7;have E:ZM (.agg k.cells) H=some (.ptr H.length 0,H++[.cells k.cells]):=Fi rfl;have j:=Vo H (.cells k.cells);obtain⟨a,b,T,Y⟩:=ZgT u sep (n:=max k.ff 1) (by omega) (H++[.cells k.cells]);simp only[Ke.cells]at E j T ⊢;simp only[E,go_sem,zC,Y5 j,zA];rw[T];simp only[go_sem,ZiU,zA,zB];have y:∀ (i:Nat) (x:AObj),H[i]?=some x->(H++[AObj.cells [.int .i64 k.ff,.int .i64 k.fc,.int .i64 k.tf,.int .i64 k.tc,.int .i64 k.fl]])[i]?=some x:=fun i x h=>Yg h _;by_cases C:max k.ff 1<=((fields g sep).length:Int)
 ·have K:(!decide (max k.ff 1<=((fields g sep).length:Int)))=false:=by simp[C]
  have I:=Y C;obtain⟨Z,r2⟩:=Zjf g sep _ (zT I);simp only at Z r2;simp only[K,go_sem,Ij,zC,Y5 j,Ke.cells,zA,zB];have V:=R.fc;have w1:yD.wrap (max k.fc 1-1)=max k.fc 1-1:=Zr (by omega) (by omega);have w2:yD.wrap ((b:Int)-a)=(b:Int)-a:=Zr (by omega) (by omega);have w3:yD.wrap ((a:Int)+min (max k.fc 1-1) ((b:Int)-a))=((PV a b k:Nat):Int):=by rw[Zr (by omega) (by omega)];unfold PV;omega
  have B:PV a b k<=g.length:=by unfold PV;omega
  simp only[w1,w2,w3]
  have A:∀ e:Nat,e<=g.length->e=O8 g (fields g sep) k->ex g (fields g sep) k=(if e<PV a b k then [] else (g.take e).drop (PV a b k)):=by
   intro e _ U;subst U;unfold ex;rw[if_pos C,ZiA I]
  by_cases J:0<k.tf
  ·have L:decide ((0:Int)<k.tf)=true:=by simp[J]
   obtain⟨D,F,S,X⟩:=ZgT u sep (n:=k.tf) (by omega) (H++[.cells k.cells]);simp only[Ke.cells]at S;simp only[L,go_sem,zC,Y5 j,Ke.cells,zA,zB,S,ZiU];by_cases w:k.tf<=((fields g sep).length:Int)
   ·have M:decide (k.tf<=((fields g sep).length:Int))=true:=by simp[w]
    have z:=X w;obtain⟨s1,Q⟩:=Zjf g sep _ (zT z);simp only at s1 Q;simp only[M,go_sem,zC,Y5 j,Ke.cells,zA,zB];have W:=R.tc;by_cases O:0<k.tc
    ·have N:decide ((0:Int)<k.tc)=true:=by simp[O]
     have w4:yD.wrap ((F:Int)-D)=(F:Int)-D:=Zr (by omega) (by omega);have w5:yD.wrap ((D:Int)+min k.tc ((F:Int)-D))=((D+(min k.tc ((F:Int)-D)).toNat:Nat):Int):=by rw[Zr (by omega) (by omega)];omega
     simp only[N,go_sem,zC,Y5 j,Ke.cells,zA,zB,w4,w5];rw[IT B (by omega) u];rw[A (D+(min k.tc ((F:Int)-D)).toNat) (by omega) (by unfold O8;rw[if_pos ⟨J,w⟩,ZiA z];simp[O])];exact⟨_,rfl,y⟩
    ·have N:decide ((0:Int)<k.tc)=false:=by simp;omega
     simp only[N,go_sem];rw[IT B Q u];rw[A F Q (by unfold O8;rw[if_pos ⟨J,w⟩,ZiA z];simp[O])];exact⟨_,rfl,y⟩
   ·have M:decide (k.tf<=((fields g sep).length:Int))=false:=by simp;omega
    simp only[M,go_sem];rw[IT B (zP _) u];rw[A g.length (zP _) (by unfold O8;rw[if_neg (fun h=>w h.2)])];exact⟨_,rfl,y⟩
  ·have L:decide ((0:Int)<k.tf)=false:=by simp;omega
   simp only[L,go_sem];rw[IT B (zP _) u];rw[A g.length (zP _) (by unfold O8;rw[if_neg (fun h=>J h.1)])];exact⟨_,rfl,y⟩
 ·have K:(!decide (max k.ff 1<=((fields g sep).length:Int)))=true:=by simp;omega
  simp only[K,go_sem];have:ex g (fields g sep) k=[]:=by unfold ex;rw[if_neg C]
  rw[this];exact⟨_,rfl,y⟩
def Sl (k:Nat)(x:AV)(l:List AV):Prop:=x=.nils/\l=[]\/∃ tok,x=.vs k tok l
theorem Sl.len {k:Nat}{x:AV}{l:List AV}(h:Sl k x l)(e:Nat):Zk (.slice e) x=some (.int .i64 l.length):=by
 rcases h with ⟨rfl,rfl⟩|⟨tok,rfl⟩ <;> rfl
theorem Sl.idx {k:Nat}{x:AV}{l:List AV}(h:Sl k x l){i:Nat}{c:AV}(hi:l[i]?=some c):Zo k x (.int .i64 (i:Int))=some (.vp c.cells):=by
 rcases h with ⟨rfl,rfl⟩|⟨tok,rfl⟩
 ·simp at hi
 ·simp[Zo,hi]
theorem AW {f:AV->Option AV}:∀ {l:List AV},(∀ x∈l,f x=some x)->l.mapM f=some l:=by
 intro l
 induction l with
 |nil=>intro _;rfl
 |cons a l j =>
  intro h;rw[zZ,h a (by simp),j (fun x g=>h x (by simp[g]))];rfl
theorem Zsj (H:Hp)(n f k:Nat)(tok:Tok)(l:List AV):Zb H n (f+1) (.vs k tok l)=match l.mapM (Zb H n f) with
 |some l=>some (.vs k (match tok with|.own t e=>if t<n then .own t e else .no|tok=>tok) l)
 |none=>none:=(Eq.refl _).trans (Eq.refl _)
theorem JU (H:Hp)(n f:Nat)(l:List AV):Zb H n (f+1) (.agg l)=match l.mapM (Zb H n f) with
 |some l=>some (.agg l)
 |none=>none:=(Eq.refl _).trans (Eq.refl _)
theorem Sl.close {k:Nat}{x:AV}{l:List AV}(h:Sl k x l){H:Hp}{n f:Nat}(j:∀ c∈l,Zb H n f c=some c):∃ g,Zb H n (f+1) x=some g/\Sl k g l:=by
 rcases h with ⟨rfl,rfl⟩|⟨tok,rfl⟩
 ·exact⟨.nils,rfl,.inl ⟨rfl,rfl⟩⟩
 ·have e:=Zsj H n f k tok l;rw[AW j]at e;exact⟨_,e,.inr ⟨_,rfl⟩⟩
def Ke.av (k:Ke):AV:=.agg k.cells
theorem Ke.close (k:Ke)(H:Hp)(n f:Nat):Zb H n (f+2) k.av=some k.av:=by
 have:k.cells.mapM (Zb H n (f+1))=some k.cells:=AW fun x g=>by
  simp only[Ke.cells,zV,List.not_mem_nil,or_false]at g;rcases g with rfl|rfl|rfl|rfl|rfl <;> rfl
 rw[Ke.av,JU,this]
structure Spec where
 keys:List Ke
 sep:Int
 flags:Int
 stab:Bool
 uniq:Bool
def Spec.cells (x:AV)(p:Spec):List AV:=[x,.int .i64 p.sep,.int .i64 p.flags,.bool p.uniq,.bool p.stab]
def SpecAV (a:AV)(p:Spec):Prop:=∃ x,a=.agg (p.cells x)/\Sl 5 x (p.keys.map Ke.av)
theorem SpecAV.close {a:AV}{p:Spec}(h:SpecAV a p)(H:Hp)(n f:Nat):∃ a',Zb H n (f+4) a=some a'/\SpecAV a' p:=by
 obtain⟨x,rfl,y⟩:=h
 obtain⟨g,j,u⟩:=y.close (H:=H) (n:=n) (f:=f+2) (fun c w=>by
  obtain⟨k,_,rfl⟩:=List.mem_map.1 w;exact k.close H n f)
 refine⟨.agg (p.cells g),?_,g,rfl,u⟩
 have:(p.cells x).mapM (Zb H n (f+3))=some (p.cells g):=by
  simp only[Spec.cells,zZ,j,List.mapM_nil];rfl
 rw[JU,this]
theorem Xy {f:List AV->Hp->Z3}{a a' v:AV}{H H1:Hp}(g:Zb [] 0 9 a=some a')(j:f [a'] []=some (v,H1))(u:DH 3 v=true):Zf f [a] H=some (v,H) :=
 Vn (args':=[a']) (by simp[g]) j u
theorem DG {f:List AV->Hp->Z3}{a a' b b' v:AV}{H H1:Hp}(g:Zb [] 0 9 a=some a')(j:Zb [] 0 9 b=some b')(u:f [a',b'] []=some (v,H1))(w:DH 3 v=true):Zf f [a,b] H=some (v,H) :=
 Vn (args':=[a',b']) (by simp[g,j]) u w
def JJ (k:Ke):Bool:=decide (k.ff<1) || (decide (k.fc<1) || (decide (k.tf<0) || (decide (k.tc<0) || ((k.tf==0&&k.tc != 0) || (decide (k.fl<0) || decide (31<k.fl))))))
def ZK (p:Spec):Int :=
 if 8<p.keys.length then 3 else if decide (p.sep < -1) || (decide (255<p.sep) || (p.sep==10 || (decide (p.flags<0) || decide (31<p.flags)))) then 2 else if p.keys.any JJ then 2 else 0
theorem C3 (k:Ke)(H:Hp):Z4 true 5 (.vp k.cells) H=some (.agg k.cells):=by simp[Z4,Go.Am.apart,Ke.cells]
theorem ZbZ (H:Hp)(k:Ke)(z:List AV)(g:z.length=5):Ze 5 (.ptr H.length 0) (.agg k.cells) (H++[.cells z])=some (.tuple [],H++[.cells k.cells]):=by
 rw[VP (sz:=5) (v:=.agg k.cells) (Vo _ _) rfl rfl (by omega)];simp[AV.cells,splice,g,Ke.cells]
theorem ZF (H:Hp)(l:List AV)(off:Nat):Z4 false 1 (.ptr H.length off) (H++[.cells l])=l[off]?:=Y5 (Vo H _)
theorem YB (l:List AV)(H:Hp):ZM (.agg l) H=some (.ptr H.length 0,H++[.cells l]):=Fi rfl
attribute [go_sem] YB ZF
theorem Sl.key {x:AV}{l:List Ke}(h:Sl 5 x (l.map Ke.av)){i:Nat}{k:Ke}(hi:l[i]?=some k):Zo 5 x (.int .i64 (i:Int))=some (.vp k.cells):=h.idx (c:=k.av) (by simp[hi])
theorem ZzA {x:AV}{l:List Ke}(h:Sl 5 x (l.map Ke.av)){i:Nat}{k:Ke}(hi:l[i]?=some k)(n t:AV)(g H:Hp) :
 ∃ H',DX x n (.int .i64 (i:Int)) t g H=if JJ k then some (.int .i64 2,H') else DY x n (.int .i64 (i:Int)) g H':=by
 rw[ZaP];refine⟨H++[.cells k.cells],?_⟩;have D:=Vo H (.cells k.cells);simp only[h.key hi,C3,go_sem,ZbZ H k [.int .i64 0,.int .i64 0,.int .i64 0,.int .i64 0,.int .i64 0] rfl];simp only[go_sem,zC,ZF,Ke.cells,zA,zB];unfold JJ
 cases w:decide (k.ff<1) with
 |true=>simp only[go_sem,zE,if_true]
 |false =>
 simp only[go_sem,zD,zC,ZF,Ke.cells,zA,zB]
 cases y:decide (k.fc<1) with
 |true=>simp only[go_sem,zE,if_true]
 |false =>
 simp only[go_sem,zD,zC,ZF,Ke.cells,zA,zB]
 cases z:decide (k.tf<0) with
 |true=>simp only[go_sem,zE,if_true]
 |false =>
 simp only[go_sem,zD,zC,ZF,Ke.cells,zA,zB]
 cases A:decide (k.tc<0) with
 |true=>simp only[go_sem,zE,if_true]
 |false =>
 simp only[go_sem,zD,zC,ZF,Ke.cells,zA,zB];have last:∀ b:Bool,b=false->True:=fun _ _=>trivial
 cases B:(k.tf==0) with
 |true =>
  simp only[go_sem,yA,zC,ZF,Ke.cells,zA,zB]
  cases C:(k.tc != 0) with
  |true=>simp only[go_sem,zE,if_true]
  |false =>
   simp only[go_sem,zD,zC,ZF,Ke.cells,zA,zB]
   cases j:decide (k.fl<0) with
   |true=>simp only[go_sem,zE,if_true]
   |false =>
    simp only[go_sem,zD,zC,ZF,Ke.cells,zA,zB];cases u:decide (31<k.fl) <;> simp[go_sem]
 |false =>
  simp only[go_sem,zM,zD,zC,ZF,Ke.cells,zA,zB]
  cases j:decide (k.fl<0) with
  |true=>simp only[go_sem,zE,if_true]
  |false =>
   simp only[go_sem,zD,zC,ZF,Ke.cells,zA,zB];cases u:decide (31<k.fl) <;> simp[go_sem]
theorem ZzB {x:AV}{l:List Ke}(h:Sl 5 x (l.map Ke.av))(C:l.length<=8)(u:Hp):∀ (m i:Nat) (H:Hp),l.length-i=m->i<=l.length ->
 ∃ H',Jo x (.int .i64 (l.length:Int)) (.int .i64 (i:Int)) u H=some (.int .i64 (if (l.drop i).any JJ then 2 else 0),H'):=by
 intro m
 induction m with
 |zero =>
  intro i H z hi;rw[Ti];have g:decide ((i:Int)<(l.length:Int))=false:=by simp;omega
  have y:l.drop i=[]:=zI.2 (by omega);simp only[go_sem,g,ZaO,y,yC];exact⟨_,rfl⟩
 |succ m A =>
  intro i H z hi;rw[Ti];have j:i<l.length:=by omega
  have g:decide ((i:Int)<(l.length:Int))=true:=by simp;omega
  have hw:yD.wrap ((i:Int)+1)=((i+1:Nat):Int):=by rw[Zr (by omega) (by omega)];omega
  obtain⟨H1,w⟩:=ZzA h (zJ j) (.int .i64 (l.length:Int)) (.bool true) u H;simp only[go_sem,g,w];rw[zL j,yB]
  cases B:JJ l[i] with
  |true=>simp only[if_true,zE];exact⟨_,rfl⟩
  |false =>
   simp only[zF,if_false,zD,ZaQ,go_sem,hw];exact A (i+1) H1 (by omega) (by omega)
theorem Zpy {a:AV}{p:Spec}(h:SpecAV a p)(H:Hp):∃ H',Wa [a] H=some (.int .i64 (ZK p),H'):=by
 obtain⟨x,rfl,w⟩:=h;rw[Zbp];unfold SK ZK;have D:=Vo H (.cells (p.cells x));have g:=w.len 119;rw[zS]at g;simp only[go_sem,zC,ZF,Spec.cells,zA,zB,g];by_cases u:8<p.keys.length
 ·have j:decide ((8:Int)<(p.keys.length:Int))=true:=by simp;omega
  simp only[j,go_sem,u,if_true];exact⟨_,rfl⟩
 have j:decide ((8:Int)<(p.keys.length:Int))=false:=by simp;omega
 simp only[j,go_sem,u,if_false,ZaM,zC,ZF,Spec.cells,zA,zB]
 cases y:decide (p.sep < -1) with
 |true=>simp only[go_sem,zE,if_true];exact⟨_,rfl⟩
 |false =>
 simp only[go_sem,zD,zC,ZF,Spec.cells,zA,zB]
 cases z:decide (255<p.sep) with
 |true=>simp only[go_sem,zE,if_true];exact⟨_,rfl⟩
 |false =>
 simp only[go_sem,zD,zC,ZF,Spec.cells,zA,zB]
 cases A:(p.sep==10) with
 |true=>simp only[go_sem,zE,if_true];exact⟨_,rfl⟩
 |false =>
 simp only[go_sem,zD,zC,ZF,Spec.cells,zA,zB]
 cases B:decide (p.flags<0) with
 |true=>simp only[go_sem,zE,if_true];exact⟨_,rfl⟩
 |false =>
 simp only[go_sem,zD,zC,ZF,Spec.cells,zA,zB]
 cases C:decide (31<p.flags) with
 |true=>simp only[go_sem,if_true];exact⟨_,rfl⟩
 |false =>
 simp only[go_sem,zF,if_false,ZaN,zC,ZF,Spec.cells,zA,zB,g];have:=ZzB w (by omega) H p.keys.length 0 (H++[.cells (p.cells x)]) (by omega) (by omega);simpa[Spec.cells]using this
theorem ML {a:AV}{p:Spec}(h:SpecAV a p)(H:Hp):Zf Wa [a] H=some (.int .i64 (ZK p),H):=by
 obtain⟨a',g,j⟩:=h.close [] 0 5;obtain⟨H',u⟩:=Zpy j [];exact Xy g u rfl
theorem Zr2 (k:Ke)(H:Hp):∃ H',Pn [k.av] H=some (.bool (!JJ k),H'):=by
 rw[Zi1];unfold Zec Ke.av;simp only[go_sem,zC,Ke.cells,zA,zB];unfold JJ
 have u:∀ b:Bool,b=(decide (k.fl<0) || decide (31<k.fl))->∃ H',LO (.ptr H.length 0) H (H++[.cells [.int .i64 k.ff,.int .i64 k.fc,.int .i64 k.tf,.int .i64 k.tc,.int .i64 k.fl]])=some (.bool (!b),H'):=by
  intro b j;rw[Zgk];simp only[go_sem,zC,zA,zB]
  cases g:decide (k.fl<0) with
  |true =>
   have:decide (0<=k.fl)=false:=by simp at g ⊢;omega
   simp only[this,go_sem];rw[j,g];exact⟨_,rfl⟩
  |false =>
   have:decide (0<=k.fl)=true:=by simp at g ⊢;omega
   simp only[this,go_sem,zC,zA,zB];have e:decide (k.fl<=31)=!decide (31<k.fl):=by rw[zR];simp
   rw[j,g,e];exact⟨_,rfl⟩
 cases w:decide (k.ff<1) with
 |true=>simp only[go_sem,zE,zK];exact⟨_,rfl⟩
 |false =>
 simp only[go_sem,zD,zC,Ke.cells,zA,zB]
 cases y:decide (k.fc<1) with
 |true=>simp only[go_sem,zE,zK];exact⟨_,rfl⟩
 |false =>
 simp only[go_sem,zD,zC,Ke.cells,zA,zB]
 cases z:decide (k.tf<0) with
 |true=>simp only[go_sem,zE,zK];exact⟨_,rfl⟩
 |false =>
 simp only[go_sem,zD,zC,Ke.cells,zA,zB]
 cases A:decide (k.tc<0) with
 |true=>simp only[go_sem,zE,zK];exact⟨_,rfl⟩
 |false =>
 simp only[go_sem,zD,zC,Ke.cells,zA,zB]
 cases B:(k.tf==0) with
 |true =>
  simp only[go_sem,yA,zC,Ke.cells,zA,zB]
  cases C:(k.tc != 0) with
  |true=>simp only[go_sem,zE,zK];exact⟨_,rfl⟩
  |false=>simp only[go_sem,zD];exact u _ rfl
 |false=>simp only[go_sem,zM,zD];exact u _ rfl
theorem Zr1 (k:Ke)(H:Hp):Zf Pn [k.av] H=some (.bool (!JJ k),H):=by
 obtain⟨H',g⟩:=Zr2 k [];exact Xy (k.close [] 0 7) g rfl
theorem ZyZ {x:AV}{l:List Ke}(h:Sl 5 x (l.map Ke.av))(E:l.length<=8)(z:Hp){o:Nat}{r:List AV}{H:Hp}(w:H[o]?=some (.cells (x::r))):∀ (m i:Nat),l.length-i=m->i<=l.length ->
 R5 (.ptr o 0) (.int .i64 (i:Int)) z H=some (.int .i64 (if (l.drop i).any JJ then 2 else 0),H):=by
 have g:=h.len 119;rw[zS]at g;intro m
 induction m with
 |zero =>
  intro i B hi;rw[SW];have j:decide ((i:Int)<(l.length:Int))=false:=by simp;omega
  have A:l.drop i=[]:=zI.2 (by omega);simp only[go_sem,zC,Y5 w,zA,g,j,Zgh,A,yC];rfl
 |succ m C =>
  intro i B hi;rw[SW];have u:i<l.length:=by omega
  have j:decide ((i:Int)<(l.length:Int))=true:=by simp;omega
  have hw:yD.wrap ((i:Int)+1)=((i+1:Nat):Int):=by rw[Zr (by omega) (by omega)];omega
  have y:=Zr1 l[i] H;unfold Ke.av at y;simp only[go_sem,zC,Y5 w,zA,g,j,Zgi,h.key (zJ u),C3,y,Bool.not_not];rw[zL u,yB]
  cases D:JJ l[i] with
  |true=>simp only[go_sem,if_true,zE]
  |false =>
   simp only[go_sem,zD,Zgj,hw];exact C (i+1) (by omega) (by omega)
theorem ZnQ {a:AV}{p:Spec}(h:SpecAV a p)(H:Hp):∃ H',Pm [a] H=some (.int .i64 (ZK p),H'):=by
 obtain⟨x,rfl,w⟩:=h;rw[Zi0];unfold Zeb ZK;have g:=w.len 119;rw[zS]at g;simp only[go_sem,zC,Spec.cells,zA,zB,g];by_cases u:8<p.keys.length
 ·have j:decide ((8:Int)<(p.keys.length:Int))=true:=by simp;omega
  simp only[j,go_sem,u,if_true];exact⟨_,rfl⟩
 have j:decide ((8:Int)<(p.keys.length:Int))=false:=by simp;omega
 simp only[j,go_sem,u,if_false,Zgf,zC,Spec.cells,zA,zB]
 cases y:decide (p.sep < -1) with
 |true=>simp only[go_sem,zE,if_true];exact⟨_,rfl⟩
 |false =>
 simp only[go_sem,zD,zC,Spec.cells,zA,zB]
 cases z:decide (255<p.sep) with
 |true=>simp only[go_sem,zE,if_true];exact⟨_,rfl⟩
 |false =>
 simp only[go_sem,zD,zC,Spec.cells,zA,zB]
 cases A:(p.sep==10) with
 |true=>simp only[go_sem,zE,if_true];exact⟨_,rfl⟩
 |false =>
 simp only[go_sem,zD,zC,Spec.cells,zA,zB]
 cases B:decide (p.flags<0) with
 |true=>simp only[go_sem,zE,if_true];exact⟨_,rfl⟩
 |false =>
 simp only[go_sem,zD,zC,Spec.cells,zA,zB]
 cases C:decide (31<p.flags) with
 |true=>simp only[go_sem,if_true];exact⟨_,rfl⟩
 |false =>
 simp only[go_sem,zF,if_false,Zgg];have:=ZyZ w (by omega) H (Vo H (.cells [x,.int .i64 p.sep,.int .i64 p.flags,.bool p.uniq,.bool p.stab])) p.keys.length 0 (by omega) (by omega);rw[show ((0:Nat):Int)=0 from rfl,zO]at this;exact⟨_,this⟩
theorem ZnP {a:AV}{p:Spec}(h:SpecAV a p)(H:Hp):Zf Pm [a] H=some (.int .i64 (ZK p),H):=by
 obtain⟨a',g,j⟩:=h.close [] 0 5;obtain⟨H',u⟩:=ZnQ j [];exact Xy g u rfl
end Go.Am
namespace Go.Am
open Go.Proofs
def RowN (n:Nat)(H:Hp)(k:Nat)(x:AV)(l:List AV):Prop:=x=.nils/\l=[]\/∃ t e,x=.vs k (.own t e) l/\H[t]?=some (.tok e)/\n<=t
def Keep (n:Nat)(H H':Hp):Prop:=∀ i,i<n->H'[i]?=H[i]?
theorem Keep.refl (n:Nat)(H:Hp):Keep n H H:=fun _ _=>rfl
theorem Keep.trans {n:Nat}{A B C:Hp}(h:Keep n A B)(k:Keep n B C):Keep n A C:=fun i hi=>(k i hi).trans (h i hi)
theorem Keep.push {n:Nat}(H:Hp)(g:n<=H.length)(l:List AObj):Keep n H (H++l):=fun i hi=>List.getElem?_append_left (by omega)
theorem RowN.nil (n:Nat)(H:Hp)(k:Nat):RowN n H k .nils []:=.inl ⟨rfl,rfl⟩
theorem RowN.sl {n:Nat}{H:Hp}{k:Nat}{x:AV}{l:List AV}(h:RowN n H k x l):Sl k x l:=h.imp id fun⟨t,e,a,_⟩=>⟨_,a⟩
theorem RowN.push {n:Nat}{H:Hp}{k:Nat}{x:AV}{l:List AV}(h:RowN n H k x l)(r:List AObj):RowN n (H++r) k x l:=h.imp id fun⟨t,e,a,b,c⟩=>⟨t,e,a,Yg b _,c⟩
theorem RowN.app {n:Nat}{H:Hp}{k:Nat}{x:AV}{l:List AV}(h:RowN n H k x l)(z:n<=H.length)(bytes:Nat)(y:AV)(j:List AV)(E:elems k y H=some j)(B:(l.length+j.length)*(bytes+1)<=140737488355328) :
 ∃ C H',Yl k bytes x y H=some (C,H')/\RowN n H' k C (l++j)/\n<=H'.length/\Keep n H H'/\(∀ (i:Nat) (c:List AV),H[i]?=some (.cells c)->H'[i]?=some (.cells c)):=by
 unfold Yl;simp only[E];rcases h with ⟨rfl,rfl⟩|⟨t,e,rfl,A,w⟩
 ·by_cases u:j=[]
  ·subst u;exact⟨.nils,H,by simp[Yv],.inl ⟨rfl,rfl⟩,z,Keep.refl _ _,fun _ _ h=>h⟩
  ·have g:YR j.length bytes=true:=by simpa[YR]using B
   exact⟨.vs k (.own H.length j.length) j,H++[.tok j.length],by simp only[Yv,u,if_false,g,if_true],.inr ⟨H.length,j.length,rfl,by simp,z⟩,by simp;omega,Keep.push H z _,fun i c h=>Yg h _⟩
 ·have g:YR (l.length+j.length) bytes=true:=by simpa[YR]using B
  by_cases u:j=[]
  ·subst u;exact⟨.vs k (.own t e) l,H,by simp only[Yv,List.length_nil,zQ]at g ⊢;simp only[g,and_self,if_true],.inr ⟨t,e,by simp,A,w⟩,z,Keep.refl _ _,fun _ _ h=>h⟩
  ·refine⟨_,_,by simp only[Yv,g,and_self,if_true,u,if_false,A],.inr ⟨t,e+j.length,rfl,Zt _ A,w⟩,by simp;omega,fun i hi=>List.getElem?_set_ne (by omega),fun i c h=>?_⟩;refine Yo _ (fun D=>?_) h;subst D;rw[A]at h;cases h
def Zsb (n j:Nat):Bool:=match Z5 .and (.int .i64 n) (.int .i64 ((2 ^ j:Nat):Int)) with
 |some (.int .i64 m)=>m==(if n.testBit j then ((2 ^ j:Nat):Int) else 0)
 |_=>false
theorem Zpz:((zY 32).all fun n=>(zY 5).all fun j=>Zsb n j)=true:=by kernel_rfl
theorem V6 {n:Nat}{p:Nat->Bool}(h:(zY n).all p=true){i:Nat}(hi:i<n):p i=true:=List.all_eq_true.1 h i (List.mem_range.2 hi)
theorem ZbX {n j:Nat}(w:n<32)(g:j<5):Z5 .and (.int .i64 n) (.int .i64 ((2 ^ j:Nat):Int))=some (.int .i64 (if n.testBit j then ((2 ^ j:Nat):Int) else 0)):=by
 have h:=V6 (V6 Zpz w) g;unfold Zsb at h;split at h
 ·rename_i m u;rw[u];have:m=(if n.testBit j then ((2 ^ j:Nat):Int) else 0):=by simpa using h
  rw[this]
 ·cases h
end Go.Am
