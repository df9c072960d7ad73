/- The fields of a line -/
import Derived.Test.YtnaneekpogohaaaGreatDoorXeGx
import Derived.Test.YtnaneekpogohaaaGreatDoorHmSx
open Go.IntKind renaming i64->yE
open List renaming getElem?_cons_zero->zA,getElem?_cons_succ->zB,drop_succ_cons->zH,drop_eq_nil_iff->zI,getElem?_eq_getElem->zJ,drop_eq_getElem_cons->zL,drop_drop->zN,drop_zero->zO,length_map->zS,getElem?_eq_none->zT,mem_of_getElem?->zU,takeWhile_cons->zV,mem_cons->zW,length_drop->zX,range->zZ,mapM_cons->yA,any_cons->yC,any_nil->yD
open Nat renaming zero_add->zC,le_refl->zP,add_zero->zQ,strongRecOn->zY
open Bool renaming false_or->zD,true_or->zE,false_eq_true->zF,not_true->zK,false_and->zM,eq_iff_iff->zR,true_and->yB
open UInt8 renaming ofNat->zG
namespace Go.Am
theorem ZA8 (b:UInt8)(n:Nat)(h:n<256):(((b.toNat:Int))==(n:Int))=(b==zG n):=by
 rw[zR];simp only[beq_iff_eq];constructor
 ·intro e;have:b.toNat=n:=by omega
  rw[<-this];simp
 ·intro e;subst e;simp;omega
def Xo (b:UInt8):Bool:=b==32 || b==9
theorem CR (b:UInt8):(((b.toNat:Int))==32)=(b==32)/\(((b.toNat:Int))==9)=(b==9):=⟨ZA8 b 32 (by decide),ZA8 b 9 (by decide)⟩
theorem OD (b:UInt8)(H:Hp):Vf [.int .u8 b.toNat] H=some (.bool (Xo b),H):=by
 rw[Zcs];unfold CA Xo;simp only[go_sem,(CR b).1];cases (b==32) <;> simp[go_sem,(CR b).2]
theorem Zjw (s:List UInt8)(n:Int)(H:Hp):K8 [.str s,.int .u8 n] H=some (.int .i64 (JQ (zG n.toNat) s 0),H):=by
 rw[Ag];unfold Ts;rw[Gh];unfold U9;simp only[go_sem]
def Xj (c:UInt8):List UInt8->Nat->Nat->List (Nat×Nat)
 |[],f,p=>[(f,p)]
 |b::l,f,p=>if b=c then (f,p)::Xj c l (p+1) (p+1) else Xj c l f (p+1)
theorem Zdy (c b:UInt8)(l:List UInt8)(f p:Nat):Xj c (b::l) f p=if b=c then (f,p)::Xj c l (p+1) (p+1) else Xj c l f (p+1):=(Eq.refl _).trans (Eq.refl _)
theorem Zok (c b:UInt8)(l:List UInt8)(k:Nat):JQ c (b::l) k=if b=c then (k:Int) else JQ c l (k+1):=(Eq.refl _).trans (Eq.refl _)
theorem Zoe (c:UInt8):∀ (l:List UInt8) (f p k:Nat),
 (JQ c l k=-1/\Xj c l f p=[(f,p+l.length)])\/∃ e,e<l.length/\JQ c l k=((k+e:Nat):Int)/\Xj c l f p=(f,p+e)::Xj c (l.drop (e+1)) (p+e+1) (p+e+1):=by
 intro l
 induction l with
 |nil=>intro f p k;exact .inl ⟨rfl,rfl⟩
 |cons b l u =>
  intro f p k;rw[Zok,Zdy];by_cases h:b=c
  ·exact .inr ⟨0,by simp,by simp[h],by simp[h]⟩
  ·simp only[h,if_false];rcases u f (p+1) (k+1) with ⟨g,j⟩|⟨e,w,g,j⟩
   ·exact .inl ⟨g,by rw[j];simp[Nat.add_comm,Nat.add_left_comm]⟩
   ·refine .inr ⟨e+1,by simp;omega,by rw[g];congr 1;omega,?_⟩;rw[j,zH];simp only[show p+1+e=p+(e+1) by omega]
def ZjN (a b:Nat)(ok:Bool):AV:=.tuple [.int .i64 a,.int .i64 b,.bool ok]
theorem ZhR {g:List UInt8}(I:g.length<=1048576){sep:Int}(S:0<=sep)(T:sep<=255){n:Int}(J H:Hp):∀ (k f i:Nat),g.length+1-f=k->f<=g.length->i<=f+1->(i:Int)<=n ->
 ∃ a b,JH (.str g) (.int .i64 n) (.int .i64 sep) (.int .i64 (f:Int)) (.int .i64 (i:Int)) J H =
  some (ZjN a b (decide (n<i+(Xj (zG sep.toNat) (g.drop f) f f).length)),H) /\
  (n<i+(Xj (zG sep.toNat) (g.drop f) f f).length->(Xj (zG sep.toNat) (g.drop f) f f)[(n-i).toNat]?=some (a,b)):=by
 intro k
 induction k using zY with
 |_ k O =>
  intro f i V U hi W;rw[Zc1];have w:=OC (s:=g) (n:=(f:Int)) .i64 (by omega) (by omega);have C:((f:Int)).toNat=f:=by omega
  rw[C]at w
  have B:Wl .u8 (.int .i64 sep)=some (.int .u8 sep):=by
   have:IntKind.u8.wrap sep=sep:=by
    unfold IntKind.wrap;have K:(2 ^ IntKind.u8.bits:Int)=256:=by decide
    have L:IntKind.u8.signed=false:=rfl;simp only[K,L,zM,zF,if_false];omega
   simp[Wl,this]
  simp only[w,go_sem,B,Zjw];rcases Zoe (zG sep.toNat) (g.drop f) f f 0 with ⟨y,z⟩|⟨e,M,y,z⟩
  ·have j:decide (JQ (zG sep.toNat) (g.drop f) 0<0)=true:=by rw[y];decide
   simp only[j,go_sem];rw[z];refine⟨f,g.length,?_,fun h=>?_⟩
   ·have:((i:Int)==n)=decide (n<(i:Int)+([(f,f+(g.drop f).length)]:List (Nat×Nat)).length):=by
     rw[zR];simp;omega
    rw[this];rfl
   ·have u:n=i:=by simp at h;omega
    subst u;simp;omega
  ·have j:decide (JQ (zG sep.toNat) (g.drop f) 0<0)=false:=by rw[y];simp
   simp only[j,go_sem,Zax];rw[y,z];simp only[zX]at M;by_cases u:(i:Int)=n
   ·have A:((i:Int)==n)=true:=by simp[u]
    have hw:yE.wrap ((f:Int)+((0+e:Nat):Int))=((f+e:Nat):Int):=by rw[Zr (by omega) (by omega)];omega
    simp only[A,go_sem,hw];refine⟨f,f+e,?_,fun _=>by simp[<-u]⟩
    have:(true:Bool)=decide (n<(i:Int)+((f,f+e)::Xj (zG sep.toNat) ((g.drop f).drop (e+1)) (f+e+1) (f+e+1)).length):=by
     symm;simp;omega
    rw[<-this];rfl
   ·have A:((i:Int)==n)=false:=by simp[u]
    have D:yE.wrap (((0+e:Nat):Int)+1)=((e+1:Nat):Int):=by rw[Zr (by omega) (by omega)];omega
    have E:yE.wrap ((f:Int)+((e+1:Nat):Int))=((f+e+1:Nat):Int):=by rw[Zr (by omega) (by omega)];omega
    have F:yE.wrap ((i:Int)+1)=((i+1:Nat):Int):=by rw[Zr (by omega) (by omega)];omega
    simp only[A,go_sem,Zay,D,E,Zaw,F];obtain⟨a,b,Q,R⟩:=O (g.length+1-(f+e+1)) (by omega) (f+e+1) (i+1) rfl (by omega) (by omega) (by omega);rw[zN,show f+(e+1)=f+e+1 by omega];refine⟨a,b,?_,fun h=>?_⟩
    ·rw[Q]
     have:decide (n<((i+1:Nat):Int)+(Xj (zG sep.toNat) (g.drop (f+e+1)) (f+e+1) (f+e+1)).length) =
      decide (n<(i:Int)+((f,f+e)::Xj (zG sep.toNat) (g.drop (f+e+1)) (f+e+1) (f+e+1)).length):=by
      congr 1;simp;constructor <;> intro h <;> omega
     rw[this]
    ·have N:n<((i+1:Nat):Int)+(Xj (zG sep.toNat) (g.drop (f+e+1)) (f+e+1) (f+e+1)).length:=by simp at h ⊢;omega
     have:=R N;rw[show (n-(i:Int)).toNat=(n-((i+1:Nat):Int)).toNat+1 by omega];simpa using this
def YC (l:List UInt8):Nat:=(l.takeWhile Xo).length
def XV (l:List UInt8):Nat:=(l.takeWhile fun b=>!Xo b).length
theorem ZkC:YC []=0:=rfl
theorem Ze7:XV []=0:=rfl
theorem VP (b:UInt8)(l:List UInt8):YC (b::l)=if Xo b then YC l+1 else 0:=by
 unfold YC;rw[zV];split <;> simp
theorem GH (b:UInt8)(l:List UInt8):XV (b::l)=if Xo b then 0 else XV l+1:=by
 unfold XV;rw[zV];cases Xo b <;> simp
theorem ZgK (l:List UInt8):YC l<=l.length:=by
 induction l with
 |nil=>simp[ZkC]
 |cons b l g=>rw[VP];split <;> simp;exact g
theorem Zxk (l:List UInt8):XV l<=l.length:=by
 induction l with
 |nil=>simp[Ze7]
 |cons b l g=>rw[GH];split <;> simp;exact g
def UN:Bool->List UInt8->Nat->Nat->List (Nat×Nat)
 |_,[],f,p=>[(f,p)]
 |q,b::l,f,p=>if Xo b&&!q then (f,p)::UN (Xo b) l p (p+1) else UN (Xo b) l f (p+1)
theorem ET (q:Bool)(b:UInt8)(l:List UInt8)(f p:Nat):UN q (b::l) f p=if Xo b&&!q then (f,p)::UN (Xo b) l p (p+1) else UN (Xo b) l f (p+1):=(Eq.refl _).trans (Eq.refl _)
def Jh:List UInt8->Nat->List (Nat×Nat)
 |[],_=>[]
 |x::l,f=>UN (Xo x) l f (f+1)
theorem Zkb (x:UInt8)(l:List UInt8)(f:Nat):Jh (x::l) f=UN (Xo x) l f (f+1):=(Eq.refl _).trans (Eq.refl _)
theorem Zk7:∀ (l:List UInt8) (f p:Nat),UN false l f p=(f,p+XV l)::Jh (l.drop (XV l)) (p+XV l):=by
 intro l
 induction l with
 |nil=>intro f p;rfl
 |cons b l j =>
  intro f p;rw[ET,GH]
  cases g:Xo b with
  |true=>simp[Jh,g]
  |false =>
   simp only[zM,zF,if_false];rw[j];simp only[zH,show p+1+XV l=p+(XV l+1) by omega]
theorem Zte:∀ (l:List UInt8) (f p:Nat),UN true l f p=match l.drop (YC l) with
 |[]=>[(f,p+YC l)]
 |m::l'=>UN false l' f (p+YC l+1):=by
 intro l
 induction l with
 |nil=>intro f p;rfl
 |cons b l g =>
  intro f p;rw[ET,VP]
  cases j:Xo b with
  |true =>
   simp only[zK,Bool.and_false,zF,if_false,if_true,zH];rw[g];simp only[show p+1+YC l=p+(YC l+1) by omega]
  |false=>simp
def Ub (l:List UInt8):Nat:=YC l+XV (l.drop (YC l))
theorem Zt0 (l:List UInt8){m:UInt8}{u:List UInt8}(h:l.drop (YC l)=m::u):Xo m=false:=by
 induction l with
 |nil=>simp at h
 |cons b l j =>
  rw[VP]at h
  cases g:Xo b with
  |true=>simp[g]at h;exact j h
  |false=>simp[g]at h;rw[<-h.1];exact g
theorem Ztr (l:List UInt8)(f:Nat)(h:0<l.length):Jh l f=(f,f+Ub l)::Jh (l.drop (Ub l)) (f+Ub l):=by
 cases l with
 |nil=>simp at h
 |cons x l =>
  rw[Zkb];unfold Ub;rw[VP]
  cases z:Xo x with
  |false =>
   simp only[zF,if_false,zO,zC,GH,z,zH];rw[Zk7];simp only[show f+1+XV l=f+(XV l+1) by omega]
  |true =>
   simp only[if_true];rw[Zte];simp only[zH]
   cases j:l.drop (YC l) with
   |nil =>
    have u:YC l=l.length:=by
     have:=zI.1 j;have:=ZgK l;omega
    simp only[Ze7,zQ];have:(x::l).drop (YC l+1)=[]:=by simp[j]
    rw[this];simp[show f+1+YC l=f+(YC l+1) by omega,Jh]
   |cons m g =>
    have y:=Zt0 l j;simp only[GH,y,zF,if_false];rw[Zk7]
    have w:(x::l).drop (YC l+1+(XV g+1))=g.drop (XV g):=by
     have:(x::l).drop (YC l+1+(XV g+1))=(m::g).drop (XV g+1):=by
      rw[<-j,zN,show YC l+1+(XV g+1)=(YC l+(XV g+1))+1 by omega,zH]
     rw[this,zH]
    rw[w];simp only[show f+1+YC l+1+XV g=f+(YC l+1+(XV g+1)) by omega]
theorem Zw5 (l:List UInt8)(h:0<l.length):0<Ub l:=by
 cases l with
 |nil=>simp at h
 |cons x l =>
  unfold Ub;rw[VP]
  cases g:Xo x with
  |true=>simp;omega
  |false=>simp[GH,g]
theorem Zyp (l:List UInt8):Ub l<=l.length:=by
 unfold Ub;have j:=ZgK l;have g:=Zxk (l.drop (YC l));simp at g;omega
theorem Y8 {s:List UInt8}{i:Nat}{b:UInt8}(h:s[i]?=some b):Zz (.str s) (.int .i64 (i:Int))=some (.int .u8 b.toNat):=by simp[Zz,h]
theorem UZ {s:List UInt8}{i:Nat}(h:i<s.length):s.drop i=s[i]::s.drop (i+1):=zL h
theorem ZxT {g:List UInt8}(y:g.length<=1048576)(n f i:AV)(u H:Hp):∀ (k p:Nat),g.length-p=k->p<=g.length ->
 JG (.str g) n f (.int .i64 (p:Int)) i u H=Fp (.str g) n f (.int .i64 ((p+YC (g.drop p):Nat):Int)) i u H:=by
 intro k
 induction k with
 |zero =>
  intro p A B;rw[TS];have j:decide ((p:Int)<(g.length:Int))=false:=by simp;omega
  have z:g.drop p=[]:=zI.2 (by omega);simp only[go_sem,j,z,ZkC,zQ]
 |succ k C =>
  intro p A B;rw[TS];have j:decide ((p:Int)<(g.length:Int))=true:=by simp;omega
  have w:p<g.length:=by omega
  have hw:yE.wrap ((p:Int)+1)=((p+1:Nat):Int):=by rw[Zr (by omega) (by omega)];omega
  simp only[go_sem,j,Y8 (zJ w),OD];rw[UZ w,VP]
  cases D:Xo g[p] with
  |true =>
   simp only[go_sem,ZbZ,hw,if_true];rw[C (p+1) (by omega) (by omega),show p+1+YC (g.drop (p+1))=p+(YC (g.drop (p+1))+1) by omega]
  |false=>simp[go_sem]
theorem ZxS {g:List UInt8}(y:g.length<=1048576)(n f i:AV)(u H:Hp):∀ (k p:Nat),g.length-p=k->p<=g.length ->
 JF (.str g) n f (.int .i64 (p:Int)) i u H=Fq (.str g) n f (.int .i64 ((p+XV (g.drop p):Nat):Int)) i u H:=by
 intro k
 induction k with
 |zero =>
  intro p A B;rw[TR];have j:decide ((p:Int)<(g.length:Int))=false:=by simp;omega
  have z:g.drop p=[]:=zI.2 (by omega);simp only[go_sem,j,z,Ze7,zQ]
 |succ k C =>
  intro p A B;rw[TR];have j:decide ((p:Int)<(g.length:Int))=true:=by simp;omega
  have w:p<g.length:=by omega
  have hw:yE.wrap ((p:Int)+1)=((p+1:Nat):Int):=by rw[Zr (by omega) (by omega)];omega
  simp only[go_sem,j,Y8 (zJ w),OD];rw[UZ w,GH]
  cases D:Xo g[p] with
  |false =>
   simp only[Bool.not_false,go_sem,ZbY,hw,zF,if_false];rw[C (p+1) (by omega) (by omega),show p+1+XV (g.drop (p+1))=p+(XV (g.drop (p+1))+1) by omega]
  |true=>simp[go_sem]
theorem Zg9 {g:List UInt8}(j:g.length<=1048576){n:Int}(D H:Hp):∀ (k f i:Nat),g.length-f=k->f<=g.length->i<=f+1->(i:Int)<=n ->
 ∃ a b,JE (.str g) (.int .i64 n) (.int .i64 (f:Int)) (.int .i64 (i:Int)) D H=some (ZjN a b (decide (n<i+(Jh (g.drop f) f).length)),H) /\
  (n<i+(Jh (g.drop f) f).length->(Jh (g.drop f) f)[(n-i).toNat]?=some (a,b)):=by
 intro k
 induction k using zY with
 |_ k L =>
  intro f i Q O hi R;rw[Zc0];by_cases I:f<g.length
  ·have u:decide ((f:Int)<(g.length:Int))=true:=by simp;omega
   have y:0<(g.drop f).length:=by simp;omega
   simp only[go_sem,u,ZbT];rw[ZxT j _ _ _ _ _ _ f rfl (by omega),ZbV];have A:=ZgK (g.drop f);have B:=Zyp (g.drop f);have K:=Zw5 (g.drop f) y;simp only[zX]at A B;rw[ZxS j _ _ _ _ _ _ (f+YC (g.drop f)) rfl (by omega),ZbW]
   have F:f+YC (g.drop f)+XV (g.drop (f+YC (g.drop f)))=f+Ub (g.drop f):=by
    unfold Ub;rw[zN];omega
   rw[F,Ztr _ _ y,zN];by_cases w:(i:Int)=n
   ·have z:((i:Int)==n)=true:=by simp[w]
    simp only[z,go_sem];refine⟨f,f+Ub (g.drop f),?_,fun _=>by simp[<-w]⟩
    have:(true:Bool)=decide (n<(i:Int)+((f,f+Ub (g.drop f))::Jh (g.drop (f+Ub (g.drop f))) (f+Ub (g.drop f))).length):=by
     symm;simp;omega
    rw[<-this];rfl
   ·have z:((i:Int)==n)=false:=by simp[w]
    have C:yE.wrap ((i:Int)+1)=((i+1:Nat):Int):=by rw[Zr (by omega) (by omega)];omega
    simp only[z,go_sem,ZbX,ZbU,C];obtain⟨a,b,M,N⟩:=L (g.length-(f+Ub (g.drop f))) (by omega) (f+Ub (g.drop f)) (i+1) rfl (by omega) (by omega) (by omega);refine⟨a,b,?_,fun h=>?_⟩
    ·rw[M]
     have:decide (n<((i+1:Nat):Int)+(Jh (g.drop (f+Ub (g.drop f))) (f+Ub (g.drop f))).length) =
      decide (n<(i:Int)+((f,f+Ub (g.drop f))::Jh (g.drop (f+Ub (g.drop f))) (f+Ub (g.drop f))).length):=by
      congr 1;simp;constructor <;> intro h <;> omega
     rw[this]
    ·have J:n<((i+1:Nat):Int)+(Jh (g.drop (f+Ub (g.drop f))) (f+Ub (g.drop f))).length:=by simp at h ⊢;omega
     have:=N J;rw[show (n-(i:Int)).toNat=(n-((i+1:Nat):Int)).toNat+1 by omega];simpa using this
  ·have u:decide ((f:Int)<(g.length:Int))=false:=by simp;omega
   have E:g.drop f=[]:=zI.2 (by omega);simp only[go_sem,u,ZbS,E,Jh];refine⟨0,0,?_,fun h=>by simp at h;omega⟩;have:decide (n<(i:Int)+([]:List (Nat×Nat)).length)=false:=by simp;omega
   rw[this];rfl
def fields (g:List UInt8)(sep:Int):List (Nat×Nat):=if 0<=sep/\sep<=255 then Xj (zG sep.toNat) g 0 0 else Jh g 0
theorem ZhS {g:List UInt8}(j:g.length<=1048576)(sep:Int){n:Int}(D:1<=n)(H:Hp) :
 ∃ a b,Kg [.str g,.int .i64 n,.int .i64 sep] H=some (ZjN a b (decide (n<=(fields g sep).length)),H) /\
  (n<=(fields g sep).length->(fields g sep)[(n-1).toNat]?=some (a,b)):=by
 rw[Zct];unfold CB fields;by_cases h:0<=sep/\sep<=255
 ·have w:decide ((0:Int)<=sep)=true:=by simp[h.1]
  have A:decide (sep<=(255:Int))=true:=by simp[h.2]
  rw[if_pos h];simp only[go_sem,w,A];obtain⟨a,b,y,z⟩:=ZhR j h.1 h.2 (n:=n) H H _ 0 1 rfl (by omega) (by omega) (by omega);simp only[zO]at y z;refine⟨a,b,?_,fun h=>z (by omega)⟩;have:decide (n<=((Xj (zG sep.toNat) g 0 0).length:Int))=decide (n<((1:Nat):Int)+(Xj (zG sep.toNat) g 0 0).length):=by congr 1;simp;constructor <;> intro h <;> omega
  rw[this];exact y
 ·obtain⟨a,b,y,z⟩:=Zg9 j (n:=n) H H _ 0 1 rfl (by omega) (by omega) (by omega);simp only[zO]at y z
  have u:Fo (.str g) (.int .i64 n) (.int .i64 0) H H=some (ZjN a b (decide (n<=((Jh g 0).length:Int))),H):=by
   rw[ZbR];have:decide (n<=((Jh g 0).length:Int))=decide (n<((1:Nat):Int)+(Jh g 0).length):=by congr 1;simp;constructor <;> intro h <;> omega
   rw[this];exact y
  refine⟨a,b,?_,fun B=>by rw[if_neg h]at B ⊢;exact z (by omega)⟩;rw[if_neg h];by_cases C:0<=sep
  ·have w:decide ((0:Int)<=sep)=true:=by simp[C]
   have A:decide (sep<=(255:Int))=false:=by simp;omega
   simp only[go_sem,w,A];exact u
  ·have w:decide ((0:Int)<=sep)=false:=by simp;omega
   simp only[go_sem,w];exact u
theorem ZqC (c:UInt8)(L:Nat):∀ (l:List UInt8) (f p:Nat),f<=p->p+l.length=L->∀ x∈Xj c l f p,x.1<=x.2/\x.2<=L:=by
 intro l
 induction l with
 |nil=>intro f p w j x g;simp[Xj]at g;subst g;simp at j;simp;omega
 |cons b l u =>
  intro f p w j x g;rw[Zdy]at g;simp at j;split at g
  ·rcases zW.1 g with rfl|g
   ·simp;omega
   ·exact u (p+1) (p+1) (by omega) (by omega) x g
  ·exact u f (p+1) (by omega) (by omega) x g
theorem ZqD (L:Nat):∀ (l:List UInt8) (q:Bool) (f p:Nat),f<=p->p+l.length=L->∀ x∈UN q l f p,x.1<=x.2/\x.2<=L:=by
 intro l
 induction l with
 |nil=>intro q f p w j x g;simp[UN]at g;subst g;simp at j;simp;omega
 |cons b l u =>
  intro q f p w j x g;rw[ET]at g;simp at j;split at g
  ·rcases zW.1 g with rfl|g
   ·simp;omega
   ·exact u _ p (p+1) (by omega) (by omega) x g
  ·exact u _ f (p+1) (by omega) (by omega) x g
theorem Zk8 (g:List UInt8)(sep:Int):∀ x∈fields g sep,x.1<=x.2/\x.2<=g.length:=by
 intro x j;unfold fields at j;split at j
 ·exact ZqC _ g.length g 0 0 (zP _) (by omega) x j
 ·cases g with
  |nil=>simp[Jh]at j
  |cons a l=>rw[Zkb]at j;exact ZqD (a::l).length l _ 0 1 (by omega) (by simp;omega) x j
structure Ke where
 ff:Int
 fc:Int
 tf:Int
 tc:Int
 fl:Int
def Ke.cells (k:Ke):List AV:=[.int .i64 k.ff,.int .i64 k.fc,.int .i64 k.tf,.int .i64 k.tc,.int .i64 k.fl]
structure KeOk (k:Ke):Prop where
 ff:-9223372036854775808<=k.ff/\k.ff<=9223372036854775807
 fc:-9223372036854775808<=k.fc/\k.fc<=9223372036854775807
 tf:-9223372036854775808<=k.tf/\k.tf<=9223372036854775807
 tc:-9223372036854775808<=k.tc/\k.tc<=9223372036854775807
def Nt (lo hi:Nat)(k:Ke):Nat:=lo+(min (max k.fc 1-1) ((hi:Int)-lo)).toNat
def OY (g:List UInt8)(fs:List (Nat×Nat))(k:Ke):Nat :=
 if 0<k.tf/\k.tf<=fs.length then (let p:=fs.getD (k.tf-1).toNat (0,0);if 0<k.tc then p.1+(min k.tc ((p.2:Int)-p.1)).toNat else p.2) else g.length
def ex (g:List UInt8)(fs:List (Nat×Nat))(k:Ke):List UInt8 :=
 if max k.ff 1<=fs.length then
  (let p:=fs.getD (max k.ff 1-1).toNat (0,0);if OY g fs k<Nt p.1 p.2 k then [] else (g.take (OY g fs k)).drop (Nt p.1 p.2 k)) else []
theorem Zxg (H:Hp)(x y:AObj):List.set (H++[x]) H.length y=H++[y]:=by simp
theorem Vu (H:Hp)(x:AObj):(H++[x])[H.length]?=some x:=ZmA _ _ _
theorem Y2 {H:Hp}{o off:Nat}{l:List AV}(h:H[o]?=some (.cells l)):Z3 false 1 (.ptr o off) H=l[off]?:=by rw[YE h];simp[Go.Am.apart]
theorem OL {g:List UInt8}{f e:Nat}(B:f<=g.length)(A:e<=g.length)(j:g.length<=1048576)(w H:Hp) :
 W8 (.str g) (.int .i64 (f:Int)) (.int .i64 (e:Int)) w H=some (.str (if e<f then [] else (g.take e).drop f),H):=by
 rw[Oa];by_cases h:e<f
 ·have c:decide ((e:Int)<(f:Int))=true:=by simp;omega
  simp only[go_sem,c,h,if_true]
 ·have c:decide ((e:Int)<(f:Int))=false:=by simp;omega
  have u:=OB (s:=g) (n:=(f:Int)) (m:=(e:Int)) .i64 .i64 (by omega) (by omega) (by omega);have y:((f:Int)).toNat=f:=by omega
  have z:((e:Int)).toNat=e:=by omega
  rw[y,z]at u;simp only[go_sem,c,Ob,u,h,if_false]
theorem Zjs {fs:List (Nat×Nat)}{i:Nat}{p:Nat×Nat}(h:fs[i]?=some p):fs.getD i (0,0)=p:=by simp[List.getD_eq_getElem?_getD,h]
theorem Zdi {g:List UInt8}(u:g.length<=1048576){k:Ke}(R:KeOk k)(sep:Int)(H:Hp) :
 ∃ H',Qo [.str g,.agg k.cells,.int .i64 sep] H=some (.str (ex g (fields g sep) k),H')/\(∀ (i:Nat) (x:AObj),H[i]?=some x->H'[i]?=some x):=by
 rw[Ol];unfold MM;have E:ZO (.agg k.cells) H=some (.ptr H.length 0,H++[.cells k.cells]):=FS rfl;have j:=Vu H (.cells k.cells);obtain⟨a,b,T,Y⟩:=ZhS u sep (n:=max k.ff 1) (by omega) (H++[.cells k.cells]);simp only[Ke.cells]at E j T ⊢;simp only[E,go_sem,zC,Y2 j,zA];rw[T];simp only[go_sem,ZjN,zA,zB];have y:∀ (i:Nat) (x:AObj),H[i]?=some x->(H++[AObj.cells [.int .i64 k.ff,.int .i64 k.fc,.int .i64 k.tf,.int .i64 k.tc,.int .i64 k.fl]])[i]?=some x:=fun i x h=>Yl h _;by_cases C:max k.ff 1<=((fields g sep).length:Int)
 ·have K:(!decide (max k.ff 1<=((fields g sep).length:Int)))=false:=by simp[C]
  have I:=Y C;obtain⟨Z,r2⟩:=Zk8 g sep _ (zU I);simp only at Z r2;simp only[K,go_sem,O9,zC,Y2 j,Ke.cells,zA,zB];have V:=R.fc;have w1:yE.wrap (max k.fc 1-1)=max k.fc 1-1:=Zr (by omega) (by omega);have w2:yE.wrap ((b:Int)-a)=(b:Int)-a:=Zr (by omega) (by omega);have w3:yE.wrap ((a:Int)+min (max k.fc 1-1) ((b:Int)-a))=((Nt a b k:Nat):Int):=by rw[Zr (by omega) (by omega)];unfold Nt;omega
  have B:Nt a b k<=g.length:=by unfold Nt;omega
  simp only[w1,w2,w3]
  have A:∀ e:Nat,e<=g.length->e=OY g (fields g sep) k->ex g (fields g sep) k=(if e<Nt a b k then [] else (g.take e).drop (Nt a b k)):=by
   intro e _ U;subst U;unfold ex;rw[if_pos C,Zjs I]
  by_cases J:0<k.tf
  ·have L:decide ((0:Int)<k.tf)=true:=by simp[J]
   obtain⟨D,F,S,X⟩:=ZhS u sep (n:=k.tf) (by omega) (H++[.cells k.cells]);simp only[Ke.cells]at S;simp only[L,go_sem,zC,Y2 j,Ke.cells,zA,zB,S,ZjN];by_cases w:k.tf<=((fields g sep).length:Int)
   ·have M:decide (k.tf<=((fields g sep).length:Int))=true:=by simp[w]
    have z:=X w;obtain⟨s1,Q⟩:=Zk8 g sep _ (zU z);simp only at s1 Q;simp only[M,go_sem,zC,Y2 j,Ke.cells,zA,zB];have W:=R.tc;by_cases O:0<k.tc
    ·have N:decide ((0:Int)<k.tc)=true:=by simp[O]
     have w4:yE.wrap ((F:Int)-D)=(F:Int)-D:=Zr (by omega) (by omega);have w5:yE.wrap ((D:Int)+min k.tc ((F:Int)-D))=((D+(min k.tc ((F:Int)-D)).toNat:Nat):Int):=by rw[Zr (by omega) (by omega)];omega
     simp only[N,go_sem,zC,Y2 j,Ke.cells,zA,zB,w4,w5];rw[OL B (by omega) u];rw[A (D+(min k.tc ((F:Int)-D)).toNat) (by omega) (by unfold OY;rw[if_pos ⟨J,w⟩,Zjs z];simp[O])];exact⟨_,rfl,y⟩
    ·have N:decide ((0:Int)<k.tc)=false:=by simp;omega
     simp only[N,go_sem];rw[OL B Q u];rw[A F Q (by unfold OY;rw[if_pos ⟨J,w⟩,Zjs z];simp[O])];exact⟨_,rfl,y⟩
   ·have M:decide (k.tf<=((fields g sep).length:Int))=false:=by simp;omega
    simp only[M,go_sem];rw[OL B (zP _) u];rw[A g.length (zP _) (by unfold OY;rw[if_neg (fun h=>w h.2)])];exact⟨_,rfl,y⟩
  ·have L:decide ((0:Int)<k.tf)=false:=by simp;omega
   simp only[L,go_sem];rw[OL B (zP _) u];rw[A g.length (zP _) (by unfold OY;rw[if_neg (fun h=>J h.1)])];exact⟨_,rfl,y⟩
 ·have K:(!decide (max k.ff 1<=((fields g sep).length:Int)))=true:=by simp;omega
  simp only[K,go_sem];have:ex g (fields g sep) k=[]:=by unfold ex;rw[if_neg C]
  rw[this];exact⟨_,rfl,y⟩
def Sl (k:Nat)(x:AV)(l:List AV):Prop:=x=.nils/\l=[]\/∃ tok,x=.vs k tok l
theorem Sl.len {k:Nat}{x:AV}{l:List AV}(h:Sl k x l)(e:Nat):Zl (.slice e) x=some (.int .i64 l.length):=by
 rcases h with ⟨rfl,rfl⟩|⟨tok,rfl⟩ <;> rfl
theorem Sl.idx {k:Nat}{x:AV}{l:List AV}(h:Sl k x l){i:Nat}{c:AV}(hi:l[i]?=some c):Zn k x (.int .i64 (i:Int))=some (.vp c.cells):=by
 rcases h with ⟨rfl,rfl⟩|⟨tok,rfl⟩
 ·simp at hi
 ·simp[Zn,hi]
theorem Zew {f:AV->Option AV}:∀ {l:List AV},(∀ x∈l,f x=some x)->l.mapM f=some l:=by
 intro l
 induction l with
 |nil=>intro _;rfl
 |cons a l j =>
  intro h;rw[yA,h a (by simp),j (fun x g=>h x (by simp[g]))];rfl
theorem ZsP (H:Hp)(n f k:Nat)(tok:Tok)(l:List AV):Zb H n (f+1) (.vs k tok l)=match l.mapM (Zb H n f) with
 |some l=>some (.vs k (match tok with|.own t e=>if t<n then .own t e else .no|tok=>tok) l)
 |none=>none:=(Eq.refl _).trans (Eq.refl _)
theorem Dh (H:Hp)(n f:Nat)(l:List AV):Zb H n (f+1) (.agg l)=match l.mapM (Zb H n f) with
 |some l=>some (.agg l)
 |none=>none:=(Eq.refl _).trans (Eq.refl _)
theorem Sl.close {k:Nat}{x:AV}{l:List AV}(h:Sl k x l){H:Hp}{n f:Nat}(j:∀ c∈l,Zb H n f c=some c):∃ g,Zb H n (f+1) x=some g/\Sl k g l:=by
 rcases h with ⟨rfl,rfl⟩|⟨tok,rfl⟩
 ·exact⟨.nils,rfl,.inl ⟨rfl,rfl⟩⟩
 ·have e:=ZsP H n f k tok l;rw[Zew j]at e;exact⟨_,e,.inr ⟨_,rfl⟩⟩
def Ke.av (k:Ke):AV:=.agg k.cells
theorem Ke.close (k:Ke)(H:Hp)(n f:Nat):Zb H n (f+2) k.av=some k.av:=by
 have:k.cells.mapM (Zb H n (f+1))=some k.cells:=Zew fun x g=>by
  simp only[Ke.cells,zW,List.not_mem_nil,or_false]at g;rcases g with rfl|rfl|rfl|rfl|rfl <;> rfl
 rw[Ke.av,Dh,this]
structure Spec where
 keys:List Ke
 sep:Int
 flags:Int
 stab:Bool
 uniq:Bool
def Spec.cells (x:AV)(p:Spec):List AV:=[x,.int .i64 p.sep,.int .i64 p.flags,.bool p.uniq,.bool p.stab]
def SpecAV (a:AV)(p:Spec):Prop:=∃ x,a=.agg (p.cells x)/\Sl 5 x (p.keys.map Ke.av)
theorem SpecAV.close {a:AV}{p:Spec}(h:SpecAV a p)(H:Hp)(n f:Nat):∃ a',Zb H n (f+4) a=some a'/\SpecAV a' p:=by
 obtain⟨x,rfl,y⟩:=h
 obtain⟨g,j,u⟩:=y.close (H:=H) (n:=n) (f:=f+2) (fun c w=>by
  obtain⟨k,_,rfl⟩:=List.mem_map.1 w;exact k.close H n f)
 refine⟨.agg (p.cells g),?_,g,rfl,u⟩
 have:(p.cells x).mapM (Zb H n (f+3))=some (p.cells g):=by
  simp only[Spec.cells,yA,j,List.mapM_nil];rfl
 rw[Dh,this]
theorem XQ {f:List AV->Hp->Z4}{a a' v:AV}{H H1:Hp}(g:Zb [] 0 9 a=some a')(j:f [a'] []=some (v,H1))(u:Gn 3 v=true):Ze f [a] H=some (v,H) :=
 Vt (args':=[a']) (by simp[g]) j u
theorem F2 {f:List AV->Hp->Z4}{a a' b b' v:AV}{H H1:Hp}(g:Zb [] 0 9 a=some a')(j:Zb [] 0 9 b=some b')(u:f [a',b'] []=some (v,H1))(w:Gn 3 v=true):Ze f [a,b] H=some (v,H) :=
 Vt (args':=[a',b']) (by simp[g,j]) u w
def JR (k:Ke):Bool:=decide (k.ff<1) || (decide (k.fc<1) || (decide (k.tf<0) || (decide (k.tc<0) || ((k.tf==0&&k.tc != 0) || (decide (k.fl<0) || decide (31<k.fl))))))
def ZI (p:Spec):Int :=
 if 8<p.keys.length then 3 else if decide (p.sep < -1) || (decide (255<p.sep) || (p.sep==10 || (decide (p.flags<0) || decide (31<p.flags)))) then 2 else if p.keys.any JR then 2 else 0
theorem CQ (k:Ke)(H:Hp):Z3 true 5 (.vp k.cells) H=some (.agg k.cells):=by simp[Z3,Go.Am.apart,Ke.cells]
theorem Zd1 (H:Hp)(k:Ke)(z:List AV)(g:z.length=5):Zf 5 (.ptr H.length 0) (.agg k.cells) (H++[.cells z])=some (.tuple [],H++[.cells k.cells]):=by
 rw[VU (sz:=5) (v:=.agg k.cells) (Vu _ _) rfl rfl (by omega)];simp[AV.cells,splice,g,Ke.cells]
theorem ZF (H:Hp)(l:List AV)(off:Nat):Z3 false 1 (.ptr H.length off) (H++[.cells l])=l[off]?:=Y2 (Vu H _)
theorem Yf (l:List AV)(H:Hp):ZO (.agg l) H=some (.ptr H.length 0,H++[.cells l]):=FS rfl
attribute [go_sem] Yf ZF
theorem Sl.key {x:AV}{l:List Ke}(h:Sl 5 x (l.map Ke.av)){i:Nat}{k:Ke}(hi:l[i]?=some k):Zn 5 x (.int .i64 (i:Int))=some (.vp k.cells):=h.idx (c:=k.av) (by simp[hi])
theorem Zzv {x:AV}{l:List Ke}(h:Sl 5 x (l.map Ke.av)){i:Nat}{k:Ke}(hi:l[i]?=some k)(n t:AV)(g H:Hp) :
 ∃ H',Fk x n (.int .i64 (i:Int)) t g H=if JR k then some (.int .i64 2,H') else Fl x n (.int .i64 (i:Int)) g H':=by
 rw[ZbN];refine⟨H++[.cells k.cells],?_⟩;have D:=Vu H (.cells k.cells);simp only[h.key hi,CQ,go_sem,Zd1 H k [.int .i64 0,.int .i64 0,.int .i64 0,.int .i64 0,.int .i64 0] rfl];simp only[go_sem,zC,ZF,Ke.cells,zA,zB];unfold JR
 cases w:decide (k.ff<1) with
 |true=>simp only[go_sem,zE,if_true]
 |false =>
 simp only[go_sem,zD,zC,ZF,Ke.cells,zA,zB]
 cases y:decide (k.fc<1) with
 |true=>simp only[go_sem,zE,if_true]
 |false =>
 simp only[go_sem,zD,zC,ZF,Ke.cells,zA,zB]
 cases z:decide (k.tf<0) with
 |true=>simp only[go_sem,zE,if_true]
 |false =>
 simp only[go_sem,zD,zC,ZF,Ke.cells,zA,zB]
 cases A:decide (k.tc<0) with
 |true=>simp only[go_sem,zE,if_true]
 |false =>
 simp only[go_sem,zD,zC,ZF,Ke.cells,zA,zB];have last:∀ b:Bool,b=false->True:=fun _ _=>trivial
 cases B:(k.tf==0) with
 |true =>
  simp only[go_sem,yB,zC,ZF,Ke.cells,zA,zB]
  cases C:(k.tc != 0) with
  |true=>simp only[go_sem,zE,if_true]
  |false =>
   simp only[go_sem,zD,zC,ZF,Ke.cells,zA,zB]
   cases j:decide (k.fl<0) with
   |true=>simp only[go_sem,zE,if_true]
   |false =>
    simp only[go_sem,zD,zC,ZF,Ke.cells,zA,zB];cases u:decide (31<k.fl) <;> simp[go_sem]
 |false =>
  simp only[go_sem,zM,zD,zC,ZF,Ke.cells,zA,zB]
  cases j:decide (k.fl<0) with
  |true=>simp only[go_sem,zE,if_true]
  |false =>
   simp only[go_sem,zD,zC,ZF,Ke.cells,zA,zB];cases u:decide (31<k.fl) <;> simp[go_sem]
theorem Zzw {x:AV}{l:List Ke}(h:Sl 5 x (l.map Ke.av))(C:l.length<=8)(u:Hp):∀ (m i:Nat) (H:Hp),l.length-i=m->i<=l.length ->
 ∃ H',JC x (.int .i64 (l.length:Int)) (.int .i64 (i:Int)) u H=some (.int .i64 (if (l.drop i).any JR then 2 else 0),H'):=by
 intro m
 induction m with
 |zero =>
  intro i H z hi;rw[TQ];have g:decide ((i:Int)<(l.length:Int))=false:=by simp;omega
  have y:l.drop i=[]:=zI.2 (by omega);simp only[go_sem,g,ZbM,y,yD];exact⟨_,rfl⟩
 |succ m A =>
  intro i H z hi;rw[TQ];have j:i<l.length:=by omega
  have g:decide ((i:Int)<(l.length:Int))=true:=by simp;omega
  have hw:yE.wrap ((i:Int)+1)=((i+1:Nat):Int):=by rw[Zr (by omega) (by omega)];omega
  obtain⟨H1,w⟩:=Zzv h (zJ j) (.int .i64 (l.length:Int)) (.bool true) u H;simp only[go_sem,g,w];rw[zL j,yC]
  cases B:JR l[i] with
  |true=>simp only[if_true,zE];exact⟨_,rfl⟩
  |false =>
   simp only[zF,if_false,zD,ZbO,go_sem,hw];exact A (i+1) H1 (by omega) (by omega)
theorem Zq9 {a:AV}{p:Spec}(h:SpecAV a p)(H:Hp):∃ H',Xc [a] H=some (.int .i64 (ZI p),H'):=by
 obtain⟨x,rfl,w⟩:=h;rw[Zcq];unfold Cy ZI;have D:=Vu H (.cells (p.cells x));have g:=w.len 119;rw[zS]at g;simp only[go_sem,zC,ZF,Spec.cells,zA,zB,g];by_cases u:8<p.keys.length
 ·have j:decide ((8:Int)<(p.keys.length:Int))=true:=by simp;omega
  simp only[j,go_sem,u,if_true];exact⟨_,rfl⟩
 have j:decide ((8:Int)<(p.keys.length:Int))=false:=by simp;omega
 simp only[j,go_sem,u,if_false,ZbK,zC,ZF,Spec.cells,zA,zB]
 cases y:decide (p.sep < -1) with
 |true=>simp only[go_sem,zE,if_true];exact⟨_,rfl⟩
 |false =>
 simp only[go_sem,zD,zC,ZF,Spec.cells,zA,zB]
 cases z:decide (255<p.sep) with
 |true=>simp only[go_sem,zE,if_true];exact⟨_,rfl⟩
 |false =>
 simp only[go_sem,zD,zC,ZF,Spec.cells,zA,zB]
 cases A:(p.sep==10) with
 |true=>simp only[go_sem,zE,if_true];exact⟨_,rfl⟩
 |false =>
 simp only[go_sem,zD,zC,ZF,Spec.cells,zA,zB]
 cases B:decide (p.flags<0) with
 |true=>simp only[go_sem,zE,if_true];exact⟨_,rfl⟩
 |false =>
 simp only[go_sem,zD,zC,ZF,Spec.cells,zA,zB]
 cases C:decide (31<p.flags) with
 |true=>simp only[go_sem,if_true];exact⟨_,rfl⟩
 |false =>
 simp only[go_sem,zF,if_false,ZbL,zC,ZF,Spec.cells,zA,zB,g];have:=Zzw w (by omega) H p.keys.length 0 (H++[.cells (p.cells x)]) (by omega) (by omega);simpa[Spec.cells]using this
theorem Gl {a:AV}{p:Spec}(h:SpecAV a p)(H:Hp):Ze Xc [a] H=some (.int .i64 (ZI p),H):=by
 obtain⟨a',g,j⟩:=h.close [] 0 5;obtain⟨H',u⟩:=Zq9 j [];exact XQ g u rfl
theorem ZrB (k:Ke)(H:Hp):∃ H',PW [k.av] H=some (.bool (!JR k),H'):=by
 rw[ZiY];unfold Zff Ke.av;simp only[go_sem,zC,Ke.cells,zA,zB];unfold JR
 have u:∀ b:Bool,b=(decide (k.fl<0) || decide (31<k.fl))->∃ H',Er (.ptr H.length 0) H (H++[.cells [.int .i64 k.ff,.int .i64 k.fc,.int .i64 k.tf,.int .i64 k.tc,.int .i64 k.fl]])=some (.bool (!b),H'):=by
  intro b j;rw[Zhj];simp only[go_sem,zC,zA,zB]
  cases g:decide (k.fl<0) with
  |true =>
   have:decide (0<=k.fl)=false:=by simp at g ⊢;omega
   simp only[this,go_sem];rw[j,g];exact⟨_,rfl⟩
  |false =>
   have:decide (0<=k.fl)=true:=by simp at g ⊢;omega
   simp only[this,go_sem,zC,zA,zB];have e:decide (k.fl<=31)=!decide (31<k.fl):=by rw[zR];simp
   rw[j,g,e];exact⟨_,rfl⟩
 cases w:decide (k.ff<1) with
 |true=>simp only[go_sem,zE,zK];exact⟨_,rfl⟩
 |false =>
 simp only[go_sem,zD,zC,Ke.cells,zA,zB]
 cases y:decide (k.fc<1) with
 |true=>simp only[go_sem,zE,zK];exact⟨_,rfl⟩
 |false =>
 simp only[go_sem,zD,zC,Ke.cells,zA,zB]
 cases z:decide (k.tf<0) with
 |true=>simp only[go_sem,zE,zK];exact⟨_,rfl⟩
 |false =>
 simp only[go_sem,zD,zC,Ke.cells,zA,zB]
 cases A:decide (k.tc<0) with
 |true=>simp only[go_sem,zE,zK];exact⟨_,rfl⟩
 |false =>
 simp only[go_sem,zD,zC,Ke.cells,zA,zB]
 cases B:(k.tf==0) with
 |true =>
  simp only[go_sem,yB,zC,Ke.cells,zA,zB]
  cases C:(k.tc != 0) with
  |true=>simp only[go_sem,zE,zK];exact⟨_,rfl⟩
  |false=>simp only[go_sem,zD];exact u _ rfl
 |false=>simp only[go_sem,zM,zD];exact u _ rfl
theorem ZrA (k:Ke)(H:Hp):Ze PW [k.av] H=some (.bool (!JR k),H):=by
 obtain⟨H',g⟩:=ZrB k [];exact XQ (k.close [] 0 7) g rfl
theorem ZyX {x:AV}{l:List Ke}(h:Sl 5 x (l.map Ke.av))(E:l.length<=8)(z:Hp){o:Nat}{r:List AV}{H:Hp}(w:H[o]?=some (.cells (x::r))):∀ (m i:Nat),l.length-i=m->i<=l.length ->
 Rz (.ptr o 0) (.int .i64 (i:Int)) z H=some (.int .i64 (if (l.drop i).any JR then 2 else 0),H):=by
 have g:=h.len 119;rw[zS]at g;intro m
 induction m with
 |zero =>
  intro i B hi;rw[CI];have j:decide ((i:Int)<(l.length:Int))=false:=by simp;omega
  have A:l.drop i=[]:=zI.2 (by omega);simp only[go_sem,zC,Y2 w,zA,g,j,Zhg,A,yD];rfl
 |succ m C =>
  intro i B hi;rw[CI];have u:i<l.length:=by omega
  have j:decide ((i:Int)<(l.length:Int))=true:=by simp;omega
  have hw:yE.wrap ((i:Int)+1)=((i+1:Nat):Int):=by rw[Zr (by omega) (by omega)];omega
  have y:=ZrA l[i] H;unfold Ke.av at y;simp only[go_sem,zC,Y2 w,zA,g,j,Zhh,h.key (zJ u),CQ,y,Bool.not_not];rw[zL u,yC]
  cases D:JR l[i] with
  |true=>simp only[go_sem,if_true,zE]
  |false =>
   simp only[go_sem,zD,Zhi,hw];exact C (i+1) (by omega) (by omega)
theorem ZoC {a:AV}{p:Spec}(h:SpecAV a p)(H:Hp):∃ H',PV [a] H=some (.int .i64 (ZI p),H'):=by
 obtain⟨x,rfl,w⟩:=h;rw[ZiX];unfold Zfe ZI;have g:=w.len 119;rw[zS]at g;simp only[go_sem,zC,Spec.cells,zA,zB,g];by_cases u:8<p.keys.length
 ·have j:decide ((8:Int)<(p.keys.length:Int))=true:=by simp;omega
  simp only[j,go_sem,u,if_true];exact⟨_,rfl⟩
 have j:decide ((8:Int)<(p.keys.length:Int))=false:=by simp;omega
 simp only[j,go_sem,u,if_false,Zhe,zC,Spec.cells,zA,zB]
 cases y:decide (p.sep < -1) with
 |true=>simp only[go_sem,zE,if_true];exact⟨_,rfl⟩
 |false =>
 simp only[go_sem,zD,zC,Spec.cells,zA,zB]
 cases z:decide (255<p.sep) with
 |true=>simp only[go_sem,zE,if_true];exact⟨_,rfl⟩
 |false =>
 simp only[go_sem,zD,zC,Spec.cells,zA,zB]
 cases A:(p.sep==10) with
 |true=>simp only[go_sem,zE,if_true];exact⟨_,rfl⟩
 |false =>
 simp only[go_sem,zD,zC,Spec.cells,zA,zB]
 cases B:decide (p.flags<0) with
 |true=>simp only[go_sem,zE,if_true];exact⟨_,rfl⟩
 |false =>
 simp only[go_sem,zD,zC,Spec.cells,zA,zB]
 cases C:decide (31<p.flags) with
 |true=>simp only[go_sem,if_true];exact⟨_,rfl⟩
 |false =>
 simp only[go_sem,zF,if_false,Zhf];have:=ZyX w (by omega) H (Vu H (.cells [x,.int .i64 p.sep,.int .i64 p.flags,.bool p.uniq,.bool p.stab])) p.keys.length 0 (by omega) (by omega);rw[show ((0:Nat):Int)=0 from rfl,zO]at this;exact⟨_,this⟩
theorem ZoB {a:AV}{p:Spec}(h:SpecAV a p)(H:Hp):Ze PV [a] H=some (.int .i64 (ZI p),H):=by
 obtain⟨a',g,j⟩:=h.close [] 0 5;obtain⟨H',u⟩:=ZoC j [];exact XQ g u rfl
end Go.Am
namespace Go.Am
open Go.Proofs
def RowN (n:Nat)(H:Hp)(k:Nat)(x:AV)(l:List AV):Prop:=x=.nils/\l=[]\/∃ t e,x=.vs k (.own t e) l/\H[t]?=some (.tok e)/\n<=t
def Keep (n:Nat)(H H':Hp):Prop:=∀ i,i<n->H'[i]?=H[i]?
theorem Keep.refl (n:Nat)(H:Hp):Keep n H H:=fun _ _=>rfl
theorem Keep.trans {n:Nat}{A B C:Hp}(h:Keep n A B)(k:Keep n B C):Keep n A C:=fun i hi=>(k i hi).trans (h i hi)
theorem Keep.push {n:Nat}(H:Hp)(g:n<=H.length)(l:List AObj):Keep n H (H++l):=fun i hi=>List.getElem?_append_left (by omega)
theorem RowN.nil (n:Nat)(H:Hp)(k:Nat):RowN n H k .nils []:=.inl ⟨rfl,rfl⟩
theorem RowN.sl {n:Nat}{H:Hp}{k:Nat}{x:AV}{l:List AV}(h:RowN n H k x l):Sl k x l:=h.imp id fun⟨t,e,a,_⟩=>⟨_,a⟩
theorem RowN.push {n:Nat}{H:Hp}{k:Nat}{x:AV}{l:List AV}(h:RowN n H k x l)(r:List AObj):RowN n (H++r) k x l:=h.imp id fun⟨t,e,a,b,c⟩=>⟨t,e,a,Yl b _,c⟩
theorem RowN.app {n:Nat}{H:Hp}{k:Nat}{x:AV}{l:List AV}(h:RowN n H k x l)(z:n<=H.length)(bytes:Nat)(y:AV)(j:List AV)(E:elems k y H=some j)(B:(l.length+j.length)*(bytes+1)<=140737488355328) :
 ∃ C H',Ym k bytes x y H=some (C,H')/\RowN n H' k C (l++j)/\n<=H'.length/\Keep n H H'/\(∀ (i:Nat) (c:List AV),H[i]?=some (.cells c)->H'[i]?=some (.cells c)):=by
 unfold Ym;simp only[E];rcases h with ⟨rfl,rfl⟩|⟨t,e,rfl,A,w⟩
 ·by_cases u:j=[]
  ·subst u;exact⟨.nils,H,by simp[Yv],.inl ⟨rfl,rfl⟩,z,Keep.refl _ _,fun _ _ h=>h⟩
  ·have g:YD j.length bytes=true:=by simpa[YD]using B
   exact⟨.vs k (.own H.length j.length) j,H++[.tok j.length],by simp only[Yv,u,if_false,g,if_true],.inr ⟨H.length,j.length,rfl,by simp,z⟩,by simp;omega,Keep.push H z _,fun i c h=>Yl h _⟩
 ·have g:YD (l.length+j.length) bytes=true:=by simpa[YD]using B
  by_cases u:j=[]
  ·subst u;exact⟨.vs k (.own t e) l,H,by simp only[Yv,List.length_nil,zQ]at g ⊢;simp only[g,and_self,if_true],.inr ⟨t,e,by simp,A,w⟩,z,Keep.refl _ _,fun _ _ h=>h⟩
  ·refine⟨_,_,by simp only[Yv,g,and_self,if_true,u,if_false,A],.inr ⟨t,e+j.length,rfl,Zt _ A,w⟩,by simp;omega,fun i hi=>List.getElem?_set_ne (by omega),fun i c h=>?_⟩;refine Yn _ (fun D=>?_) h;subst D;rw[A]at h;cases h
theorem ZuM {g H:Hp}(h:Keep g.length g H)(j:g.length<=H.length):H.take g.length=g:=by
 apply List.ext_getElem?;intro i;by_cases hi:i<g.length
 ·rw[List.getElem?_take_of_lt hi];exact h i hi
 ·rw[zT (by simp;omega),zT (by omega)]
theorem ZtJ {g H:Hp}(h:Keep g.length g H)(z:g.length<=H.length){k:Nat}{x:AV}{l:List AV}(A:Sl k x l)(y:∀ c∈l,Zb H g.length 8 c=some c):∃ j,NC g x H=some (j,g)/\Sl k j l:=by
 obtain⟨j,u,w⟩:=A.close (H:=H) (n:=g.length) (f:=8) y;refine⟨j,?_,w⟩;unfold NC;rw[if_pos (ZuM h z),u]
def ZsH (n j:Nat):Bool:=match Z5 .and (.int .i64 n) (.int .i64 ((2 ^ j:Nat):Int)) with
 |some (.int .i64 m)=>m==(if n.testBit j then ((2 ^ j:Nat):Int) else 0)
 |_=>false
theorem Zqa:((zZ 32).all fun n=>(zZ 5).all fun j=>ZsH n j)=true:=by kernel_rfl
theorem Va {n:Nat}{p:Nat->Bool}(h:(zZ n).all p=true){i:Nat}(hi:i<n):p i=true:=List.all_eq_true.1 h i (List.mem_range.2 hi)
theorem ZcZ {n j:Nat}(w:n<32)(g:j<5):Z5 .and (.int .i64 n) (.int .i64 ((2 ^ j:Nat):Int))=some (.int .i64 (if n.testBit j then ((2 ^ j:Nat):Int) else 0)):=by
 have h:=Va (Va Zqa w) g;unfold ZsH at h;split at h
 ·rename_i m u;rw[u];have:m=(if n.testBit j then ((2 ^ j:Nat):Int) else 0):=by simpa using h
  rw[this]
 ·cases h
end Go.Am
