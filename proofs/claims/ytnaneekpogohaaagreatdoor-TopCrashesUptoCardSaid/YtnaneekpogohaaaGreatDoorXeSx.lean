/- The fields of a line -/
import Derived.Test.YtnaneekpogohaaaGreatDoorXeGx
import Derived.Test.YtnaneekpogohaaaGreatDoorHmSx
open Go.Am.AV renaming int->J
open Go.IntKind renaming i64->yE
open Go.IntKind renaming i64->yD
open List renaming getElem?_cons_zero->zA,getElem?_cons_succ->zB,drop_succ_cons->zH,drop_eq_nil_iff->zI,getElem?_eq_getElem->zJ,drop_eq_getElem_cons->zL,drop_drop->zN,drop_zero->zO,length_map->zS,mem_of_getElem?->zT,takeWhile_cons->zU,mem_cons->zV,length_drop->zW,range->zY,mapM_cons->zZ,any_cons->yB,any_nil->yC
open Nat renaming zero_add->zC,le_refl->zP,add_zero->zQ,strongRecOn->zX
open Bool renaming false_or->zD,true_or->zE,false_eq_true->zF,not_true->zK,false_and->zM,eq_iff_iff->zR,true_and->yA
open UInt8 renaming ofNat->zG
namespace Go.Am
theorem Zz7 (b:UInt8)(n:Nat)(h:n<256):(((b.toNat:Int))==(n:Int))=(b==zG n):=by
 rw[zR];simp only[beq_iff_eq];constructor
 ·intro e;have:b.toNat=n:=by omega
  rw[<-this];simp
 ·intro e;subst e;simp;omega
def Xs (b:UInt8):Bool:=b==32 || b==9
theorem HW (b:UInt8):(((b.toNat:Int))==32)=(b==32)/\(((b.toNat:Int))==9)=(b==9):=⟨Zz7 b 32 (by decide),Zz7 b 9 (by decide)⟩
theorem Zae (b:UInt8)(H:Hp):VH [.int .u8 b.toNat] H=some (.bool (Xs b),H):=by
 rw[Zd0];unfold HJ Xs;simp only[go_sem,(HW b).1];cases (b==32) <;> simp[go_sem,(HW b).2]
theorem ZjH (s:List UInt8)(n:Int)(H:Hp):Gf [.str s,.int .u8 n] H=some (J yE (KR (zG n.toNat) s 0),H):=by
 rw[AZ];unfold Pd;rw[Bl];unfold UI;simp only[go_sem]
def Xl (c:UInt8):List UInt8->Nat->Nat->List (Nat×Nat)
 |[],f,p=>[(f,p)]
 |b::l,f,p=>if b=c then (f,p)::Xl c l (p+1) (p+1) else Xl c l f (p+1)
theorem Ze0 (c b:UInt8)(l:List UInt8)(f p:Nat):Xl c (b::l) f p=if b=c then (f,p)::Xl c l (p+1) (p+1) else Xl c l f (p+1):=(Eq.refl _).trans (Eq.refl _)
theorem Zor (c b:UInt8)(l:List UInt8)(k:Nat):KR c (b::l) k=if b=c then (k:Int) else KR c l (k+1):=(Eq.refl _).trans (Eq.refl _)
theorem Zol (c:UInt8):∀ (l:List UInt8) (f p k:Nat),
 (KR c l k=-1/\Xl c l f p=[(f,p+l.length)])\/∃ e,e<l.length/\KR c l k=((k+e:Nat):Int)/\Xl c l f p=(f,p+e)::Xl c (l.drop (e+1)) (p+e+1) (p+e+1):=by
 intro l
 induction l with
 |nil=>intro f p k;exact .inl ⟨rfl,rfl⟩
 |cons b l u =>
  intro f p k;rw[Zor,Ze0];by_cases h:b=c
  ·exact .inr ⟨0,by simp,by simp[h],by simp[h]⟩
  ·simp only[h,if_false];rcases u f (p+1) (k+1) with ⟨g,j⟩|⟨e,w,g,j⟩
   ·exact .inl ⟨g,by rw[j];simp[Nat.add_comm,Nat.add_left_comm]⟩
   ·refine .inr ⟨e+1,by simp;omega,by rw[g];congr 1;omega,?_⟩;rw[j,zH];simp only[show p+1+e=p+(e+1) by omega]
def ZjW (a b:Nat)(ok:Bool):AV:=.tuple [J yE a,J yE b,.bool ok]
theorem Zi9 {g:List UInt8}(I:g.length<=1048576){sep:Int}(T:0<=sep)(U:sep<=255){n:Int}(K H:Hp):∀ (k f i:Nat),g.length+1-f=k->f<=g.length->i<=f+1->(i:Int)<=n ->
 ∃ a b,KB (.str g) (J yE n) (J yE sep) (J yE (f:Int)) (J yE (i:Int)) K H =
  some (ZjW a b (decide (n<i+(Xl (zG sep.toNat) (g.drop f) f f).length)),H) /\
  (n<i+(Xl (zG sep.toNat) (g.drop f) f f).length->(Xl (zG sep.toNat) (g.drop f) f f)[(n-i).toNat]?=some (a,b)):=by
 intro k
 induction k using zX with
 |_ k Q =>
  intro f i hk V hi W;rw[ZcD];have w:=Ea (s:=g) (n:=(f:Int)) .i64 (by omega) (by omega);have C:((f:Int)).toNat=f:=by omega
  rw[C]at w
  have B:Yq .u8 (J yE sep)=some (.int .u8 sep):=by
   have:IntKind.u8.wrap sep=sep:=by
    unfold IntKind.wrap;have L:(2 ^ IntKind.u8.bits:Int)=256:=by decide
    have M:IntKind.u8.signed=false:=rfl;simp only[L,M,zM,zF,if_false];omega
   simp[Yq,this]
  simp only[w,go_sem,B,ZjH];rcases Zol (zG sep.toNat) (g.drop f) f f 0 with ⟨y,z⟩|⟨e,N,y,z⟩
  ·have j:decide (KR (zG sep.toNat) (g.drop f) 0<0)=true:=by rw[y];decide
   simp only[j,go_sem];rw[z];refine⟨f,g.length,?_,fun h=>?_⟩
   ·have:((i:Int)==n)=decide (n<(i:Int)+([(f,f+(g.drop f).length)]:List (Nat×Nat)).length):=by
     rw[zR];simp;omega
    rw[this];rfl
   ·have u:n=i:=by simp at h;omega
    subst u;simp;omega
  ·have j:decide (KR (zG sep.toNat) (g.drop f) 0<0)=false:=by rw[y];simp
   simp only[j,go_sem,Zbg];rw[y,z];simp only[zW]at N;by_cases u:(i:Int)=n
   ·have A:((i:Int)==n)=true:=by simp[u]
    have hw:yD.wrap ((f:Int)+((0+e:Nat):Int))=((f+e:Nat):Int):=by rw[Zp (by omega) (by omega)];omega
    simp only[A,go_sem,hw];refine⟨f,f+e,?_,fun _=>by simp[<-u]⟩
    have:(true:Bool)=decide (n<(i:Int)+((f,f+e)::Xl (zG sep.toNat) ((g.drop f).drop (e+1)) (f+e+1) (f+e+1)).length):=by
     symm;simp;omega
    rw[<-this];rfl
   ·have A:((i:Int)==n)=false:=by simp[u]
    have D:yD.wrap (((0+e:Nat):Int)+1)=((e+1:Nat):Int):=by rw[Zp (by omega) (by omega)];omega
    have E:yD.wrap ((f:Int)+((e+1:Nat):Int))=((f+e+1:Nat):Int):=by rw[Zp (by omega) (by omega)];omega
    have F:yD.wrap ((i:Int)+1)=((i+1:Nat):Int):=by rw[Zp (by omega) (by omega)];omega
    simp only[A,go_sem,Zbh,D,E,Zbf,F];obtain⟨a,b,R,S⟩:=Q (g.length+1-(f+e+1)) (by omega) (f+e+1) (i+1) rfl (by omega) (by omega) (by omega);rw[zN,show f+(e+1)=f+e+1 by omega];refine⟨a,b,?_,fun h=>?_⟩
    ·rw[R]
     have:decide (n<((i+1:Nat):Int)+(Xl (zG sep.toNat) (g.drop (f+e+1)) (f+e+1) (f+e+1)).length) =
      decide (n<(i:Int)+((f,f+e)::Xl (zG sep.toNat) (g.drop (f+e+1)) (f+e+1) (f+e+1)).length):=by
      congr 1;simp;constructor <;> intro h <;> omega
     rw[this]
    ·have O:n<((i+1:Nat):Int)+(Xl (zG sep.toNat) (g.drop (f+e+1)) (f+e+1) (f+e+1)).length:=by simp at h ⊢;omega
     have:=S O;rw[show (n-(i:Int)).toNat=(n-((i+1:Nat):Int)).toNat+1 by omega];simpa using this
def YA (l:List UInt8):Nat:=(l.takeWhile Xs).length
def W8 (l:List UInt8):Nat:=(l.takeWhile fun b=>!Xs b).length
theorem ZkL:YA []=0:=rfl
theorem Zey:W8 []=0:=rfl
theorem Up (b:UInt8)(l:List UInt8):YA (b::l)=if Xs b then YA l+1 else 0:=by
 unfold YA;rw[zU];split <;> simp
theorem BC (b:UInt8)(l:List UInt8):W8 (b::l)=if Xs b then 0 else W8 l+1:=by
 unfold W8;rw[zU];cases Xs b <;> simp
theorem Zh9 (l:List UInt8):YA l<=l.length:=by
 induction l with
 |nil=>simp[ZkL]
 |cons b l g=>rw[Up];split <;> simp;exact g
theorem ZwA (l:List UInt8):W8 l<=l.length:=by
 induction l with
 |nil=>simp[Zey]
 |cons b l g=>rw[BC];split <;> simp;exact g
def Qj:Bool->List UInt8->Nat->Nat->List (Nat×Nat)
 |_,[],f,p=>[(f,p)]
 |q,b::l,f,p=>if Xs b&&!q then (f,p)::Qj (Xs b) l p (p+1) else Qj (Xs b) l f (p+1)
theorem SV (q:Bool)(b:UInt8)(l:List UInt8)(f p:Nat):Qj q (b::l) f p=if Xs b&&!q then (f,p)::Qj (Xs b) l p (p+1) else Qj (Xs b) l f (p+1):=(Eq.refl _).trans (Eq.refl _)
def Kd:List UInt8->Nat->List (Nat×Nat)
 |[],_=>[]
 |x::l,f=>Qj (Xs x) l f (f+1)
theorem Zkk (x:UInt8)(l:List UInt8)(f:Nat):Kd (x::l) f=Qj (Xs x) l f (f+1):=(Eq.refl _).trans (Eq.refl _)
theorem Zkf:∀ (l:List UInt8) (f p:Nat),Qj false l f p=(f,p+W8 l)::Kd (l.drop (W8 l)) (p+W8 l):=by
 intro l
 induction l with
 |nil=>intro f p;rfl
 |cons b l h =>
  intro f p;rw[SV,BC]
  cases g:Xs b with
  |true=>simp[Kd,g]
  |false =>
   simp only[zM,zF,if_false];rw[h];simp only[zH,show p+1+W8 l=p+(W8 l+1) by omega]
theorem ZsI:∀ (l:List UInt8) (f p:Nat),Qj true l f p=match l.drop (YA l) with
 |[]=>[(f,p+YA l)]
 |m::l'=>Qj false l' f (p+YA l+1):=by
 intro l
 induction l with
 |nil=>intro f p;rfl
 |cons b l g =>
  intro f p;rw[SV,Up]
  cases h:Xs b with
  |true =>
   simp only[zK,Bool.and_false,zF,if_false,if_true,zH];rw[g];simp only[show p+1+YA l=p+(YA l+1) by omega]
  |false=>simp
def UK (l:List UInt8):Nat:=YA l+W8 (l.drop (YA l))
theorem Zsx (l:List UInt8){m:UInt8}{u:List UInt8}(h:l.drop (YA l)=m::u):Xs m=false:=by
 induction l with
 |nil=>simp at h
 |cons b l j =>
  rw[Up]at h
  cases g:Xs b with
  |true=>simp[g]at h;exact j h
  |false=>simp[g]at h;rw[<-h.1];exact g
theorem ZsW (l:List UInt8)(f:Nat)(h:0<l.length):Kd l f=(f,f+UK l)::Kd (l.drop (UK l)) (f+UK l):=by
 cases l with
 |nil=>simp at h
 |cons x l =>
  rw[Zkk];unfold UK;rw[Up]
  cases y:Xs x with
  |false =>
   simp only[zF,if_false,zO,zC,BC,y,zH];rw[Zkf];simp only[show f+1+W8 l=f+(W8 l+1) by omega]
  |true =>
   simp only[if_true];rw[ZsI];simp only[zH]
   cases j:l.drop (YA l) with
   |nil =>
    have u:YA l=l.length:=by
     have:=zI.1 j;have:=Zh9 l;omega
    simp only[Zey,zQ];have:(x::l).drop (YA l+1)=[]:=by simp[j]
    rw[this];simp[show f+1+YA l=f+(YA l+1) by omega,Kd]
   |cons m g =>
    have hm:=Zsx l j;simp only[BC,hm,zF,if_false];rw[Zkf]
    have w:(x::l).drop (YA l+1+(W8 g+1))=g.drop (W8 g):=by
     have:(x::l).drop (YA l+1+(W8 g+1))=(m::g).drop (W8 g+1):=by
      rw[<-j,zN,show YA l+1+(W8 g+1)=(YA l+(W8 g+1))+1 by omega,zH]
     rw[this,zH]
    rw[w];simp only[show f+1+YA l+1+W8 g=f+(YA l+1+(W8 g+1)) by omega]
theorem Zvo (l:List UInt8)(h:0<l.length):0<UK l:=by
 cases l with
 |nil=>simp at h
 |cons x l =>
  unfold UK;rw[Up]
  cases g:Xs x with
  |true=>simp;omega
  |false=>simp[BC,g]
theorem ZxE (l:List UInt8):UK l<=l.length:=by
 unfold UK;have h:=Zh9 l;have g:=ZwA (l.drop (YA l));simp at g;omega
theorem ZW {s:List UInt8}{i:Nat}{b:UInt8}(h:s[i]?=some b):Zx (.str s) (J yE (i:Int))=some (.int .u8 b.toNat):=by simp[Zx,h]
theorem Qy {s:List UInt8}{i:Nat}(h:i<s.length):s.drop i=s[i]::s.drop (i+1):=zL h
theorem Zx7 {g:List UInt8}(w:g.length<=1048576)(n f i:AV)(j H:Hp):∀ (k p:Nat),g.length-p=k->p<=g.length ->
 KA (.str g) n f (J yE (p:Int)) i j H=Rb (.str g) n f (J yE ((p+YA (g.drop p):Nat):Int)) i j H:=by
 intro k
 induction k with
 |zero =>
  intro p hk z;rw[Pz];have h:decide ((p:Int)<(g.length:Int))=false:=by simp;omega
  have y:g.drop p=[]:=zI.2 (by omega);simp only[go_sem,h,y,ZkL,zQ]
 |succ k A =>
  intro p hk z;rw[Pz];have h:decide ((p:Int)<(g.length:Int))=true:=by simp;omega
  have u:p<g.length:=by omega
  have hw:yD.wrap ((p:Int)+1)=((p+1:Nat):Int):=by rw[Zp (by omega) (by omega)];omega
  simp only[go_sem,h,ZW (zJ u),Zae];rw[Qy u,Up]
  cases B:Xs g[p] with
  |true =>
   simp only[go_sem,ZcB,hw,if_true];rw[A (p+1) (by omega) (by omega),show p+1+YA (g.drop (p+1))=p+(YA (g.drop (p+1))+1) by omega]
  |false=>simp[go_sem]
theorem Zx6 {g:List UInt8}(w:g.length<=1048576)(n f i:AV)(j H:Hp):∀ (k p:Nat),g.length-p=k->p<=g.length ->
 Kz (.str g) n f (J yE (p:Int)) i j H=Rc (.str g) n f (J yE ((p+W8 (g.drop p):Nat):Int)) i j H:=by
 intro k
 induction k with
 |zero =>
  intro p hk z;rw[Py];have h:decide ((p:Int)<(g.length:Int))=false:=by simp;omega
  have y:g.drop p=[]:=zI.2 (by omega);simp only[go_sem,h,y,Zey,zQ]
 |succ k A =>
  intro p hk z;rw[Py];have h:decide ((p:Int)<(g.length:Int))=true:=by simp;omega
  have u:p<g.length:=by omega
  have hw:yD.wrap ((p:Int)+1)=((p+1:Nat):Int):=by rw[Zp (by omega) (by omega)];omega
  simp only[go_sem,h,ZW (zJ u),Zae];rw[Qy u,BC]
  cases B:Xs g[p] with
  |false =>
   simp only[Bool.not_false,go_sem,ZcA,hw,zF,if_false];rw[A (p+1) (by omega) (by omega),show p+1+W8 (g.drop (p+1))=p+(W8 (g.drop (p+1))+1) by omega]
  |true=>simp[go_sem]
theorem ZgL {g:List UInt8}(j:g.length<=1048576){n:Int}(D H:Hp):∀ (k f i:Nat),g.length-f=k->f<=g.length->i<=f+1->(i:Int)<=n ->
 ∃ a b,Ky (.str g) (J yE n) (J yE (f:Int)) (J yE (i:Int)) D H=some (ZjW a b (decide (n<i+(Kd (g.drop f) f).length)),H) /\
  (n<i+(Kd (g.drop f) f).length->(Kd (g.drop f) f)[(n-i).toNat]?=some (a,b)):=by
 intro k
 induction k using zX with
 |_ k M =>
  intro f i hk Q hi R;rw[ZcC];by_cases I:f<g.length
  ·have u:decide ((f:Int)<(g.length:Int))=true:=by simp;omega
   have y:0<(g.drop f).length:=by simp;omega
   simp only[go_sem,u,Zcv];rw[Zx7 j _ _ _ _ _ _ f rfl (by omega),Zcx];have A:=Zh9 (g.drop f);have B:=ZxE (g.drop f);have L:=Zvo (g.drop f) y;simp only[zW]at A B;rw[Zx6 j _ _ _ _ _ _ (f+YA (g.drop f)) rfl (by omega),Zcy]
   have F:f+YA (g.drop f)+W8 (g.drop (f+YA (g.drop f)))=f+UK (g.drop f):=by
    unfold UK;rw[zN];omega
   rw[F,ZsW _ _ y,zN];by_cases w:(i:Int)=n
   ·have z:((i:Int)==n)=true:=by simp[w]
    simp only[z,go_sem];refine⟨f,f+UK (g.drop f),?_,fun _=>by simp[<-w]⟩
    have:(true:Bool)=decide (n<(i:Int)+((f,f+UK (g.drop f))::Kd (g.drop (f+UK (g.drop f))) (f+UK (g.drop f))).length):=by
     symm;simp;omega
    rw[<-this];rfl
   ·have z:((i:Int)==n)=false:=by simp[w]
    have C:yD.wrap ((i:Int)+1)=((i+1:Nat):Int):=by rw[Zp (by omega) (by omega)];omega
    simp only[z,go_sem,Zcz,Zcw,C];obtain⟨a,b,N,O⟩:=M (g.length-(f+UK (g.drop f))) (by omega) (f+UK (g.drop f)) (i+1) rfl (by omega) (by omega) (by omega);refine⟨a,b,?_,fun h=>?_⟩
    ·rw[N]
     have:decide (n<((i+1:Nat):Int)+(Kd (g.drop (f+UK (g.drop f))) (f+UK (g.drop f))).length) =
      decide (n<(i:Int)+((f,f+UK (g.drop f))::Kd (g.drop (f+UK (g.drop f))) (f+UK (g.drop f))).length):=by
      congr 1;simp;constructor <;> intro h <;> omega
     rw[this]
    ·have K:n<((i+1:Nat):Int)+(Kd (g.drop (f+UK (g.drop f))) (f+UK (g.drop f))).length:=by simp at h ⊢;omega
     have:=O K;rw[show (n-(i:Int)).toNat=(n-((i+1:Nat):Int)).toNat+1 by omega];simpa using this
  ·have u:decide ((f:Int)<(g.length:Int))=false:=by simp;omega
   have E:g.drop f=[]:=zI.2 (by omega);simp only[go_sem,u,Zcu,E,Kd];refine⟨0,0,?_,fun h=>by simp at h;omega⟩;have:decide (n<(i:Int)+([]:List (Nat×Nat)).length)=false:=by simp;omega
   rw[this];rfl
def fields (g:List UInt8)(sep:Int):List (Nat×Nat):=if 0<=sep/\sep<=255 then Xl (zG sep.toNat) g 0 0 else Kd g 0
theorem Zia {g:List UInt8}(j:g.length<=1048576)(sep:Int){n:Int}(D:1<=n)(H:Hp) :
 ∃ a b,Gp [.str g,J yE n,J yE sep] H=some (ZjW a b (decide (n<=(fields g sep).length)),H) /\
  (n<=(fields g sep).length->(fields g sep)[(n-1).toNat]?=some (a,b)):=by
 rw[Zd1];unfold HK fields;by_cases h:0<=sep/\sep<=255
 ·have w:decide ((0:Int)<=sep)=true:=by simp[h.1]
  have A:decide (sep<=(255:Int))=true:=by simp[h.2]
  rw[if_pos h];simp only[go_sem,w,A];obtain⟨a,b,y,z⟩:=Zi9 j h.1 h.2 (n:=n) H H _ 0 1 rfl (by omega) (by omega) (by omega);simp only[zO]at y z;refine⟨a,b,?_,fun h=>z (by omega)⟩;have:decide (n<=((Xl (zG sep.toNat) g 0 0).length:Int))=decide (n<((1:Nat):Int)+(Xl (zG sep.toNat) g 0 0).length):=by congr 1;simp;constructor <;> intro h <;> omega
  rw[this];exact y
 ·obtain⟨a,b,y,z⟩:=ZgL j (n:=n) H H _ 0 1 rfl (by omega) (by omega) (by omega);simp only[zO]at y z
  have u:Ra (.str g) (J yE n) (J yE 0) H H=some (ZjW a b (decide (n<=((Kd g 0).length:Int))),H):=by
   rw[Zct];have:decide (n<=((Kd g 0).length:Int))=decide (n<((1:Nat):Int)+(Kd g 0).length):=by congr 1;simp;constructor <;> intro h <;> omega
   rw[this];exact y
  refine⟨a,b,?_,fun B=>by rw[if_neg h]at B ⊢;exact z (by omega)⟩;rw[if_neg h];by_cases C:0<=sep
  ·have w:decide ((0:Int)<=sep)=true:=by simp[C]
   have A:decide (sep<=(255:Int))=false:=by simp;omega
   simp only[go_sem,w,A];exact u
  ·have w:decide ((0:Int)<=sep)=false:=by simp;omega
   simp only[go_sem,w];exact u
theorem Zqo (c:UInt8)(L:Nat):∀ (l:List UInt8) (f p:Nat),f<=p->p+l.length=L->∀ x∈Xl c l f p,x.1<=x.2/\x.2<=L:=by
 intro l
 induction l with
 |nil=>intro f p u h x g;simp[Xl]at g;subst g;simp at h;simp;omega
 |cons b l j =>
  intro f p u h x g;rw[Ze0]at g;simp at h;split at g
  ·rcases zV.1 g with rfl|g
   ·simp;omega
   ·exact j (p+1) (p+1) (by omega) (by omega) x g
  ·exact j f (p+1) (by omega) (by omega) x g
theorem Zqp (L:Nat):∀ (l:List UInt8) (q:Bool) (f p:Nat),f<=p->p+l.length=L->∀ x∈Qj q l f p,x.1<=x.2/\x.2<=L:=by
 intro l
 induction l with
 |nil=>intro q f p u h x g;simp[Qj]at g;subst g;simp at h;simp;omega
 |cons b l j =>
  intro q f p u h x g;rw[SV]at g;simp at h;split at g
  ·rcases zV.1 g with rfl|g
   ·simp;omega
   ·exact j _ p (p+1) (by omega) (by omega) x g
  ·exact j _ f (p+1) (by omega) (by omega) x g
theorem Zkg (g:List UInt8)(sep:Int):∀ x∈fields g sep,x.1<=x.2/\x.2<=g.length:=by
 intro x h;unfold fields at h;split at h
 ·exact Zqo _ g.length g 0 0 (zP _) (by omega) x h
 ·cases g with
  |nil=>simp[Kd]at h
  |cons a l=>rw[Zkk]at h;exact Zqp (a::l).length l _ 0 1 (by omega) (by simp;omega) x h
structure Ke where
 ff:Int
 fc:Int
 tf:Int
 tc:Int
 fl:Int
def Ke.cells (k:Ke):List AV:=[J yE k.ff,J yE k.fc,J yE k.tf,J yE k.tc,J yE k.fl]
structure KeOk (k:Ke):Prop where
 ff:-9223372036854775808<=k.ff/\k.ff<=9223372036854775807
 fc:-9223372036854775808<=k.fc/\k.fc<=9223372036854775807
 tf:-9223372036854775808<=k.tf/\k.tf<=9223372036854775807
 tc:-9223372036854775808<=k.tc/\k.tc<=9223372036854775807
def M2 (lo hi:Nat)(k:Ke):Nat:=lo+(min (max k.fc 1-1) ((hi:Int)-lo)).toNat
def Zax (g:List UInt8)(fs:List (Nat×Nat))(k:Ke):Nat :=
 if 0<k.tf/\k.tf<=fs.length then (let p:=fs.getD (k.tf-1).toNat (0,0);if 0<k.tc then p.1+(min k.tc ((p.2:Int)-p.1)).toNat else p.2) else g.length
def ex (g:List UInt8)(fs:List (Nat×Nat))(k:Ke):List UInt8 :=
 if max k.ff 1<=fs.length then
  (let p:=fs.getD (max k.ff 1-1).toNat (0,0);if Zax g fs k<M2 p.1 p.2 k then [] else (g.take (Zax g fs k)).drop (M2 p.1 p.2 k)) else []
theorem Zww (H:Hp)(x y:AObj):List.set (H++[x]) H.length y=H++[y]:=by simp
theorem U3 (H:Hp)(x:AObj):(H++[x])[H.length]?=some x:=ZmG _ _ _
theorem Y2 {H:Hp}{o off:Nat}{l:List AV}(h:H[o]?=some (.cells l)):Z3 false 1 (.ptr o off) H=l[off]?:=by rw[Yv h];simp[Go.Am.apart]
theorem Zaj {g:List UInt8}{f e:Nat}(B:f<=g.length)(A:e<=g.length)(j:g.length<=1048576)(w H:Hp) :
 Wm (.str g) (J yE (f:Int)) (J yE (e:Int)) w H=some (.str (if e<f then [] else (g.take e).drop f),H):=by
 rw[ON];by_cases h:e<f
 ·have c:decide ((e:Int)<(f:Int))=true:=by simp;omega
  simp only[go_sem,c,h,if_true]
 ·have c:decide ((e:Int)<(f:Int))=false:=by simp;omega
  have u:=Zad (s:=g) (n:=(f:Int)) (m:=(e:Int)) .i64 .i64 (by omega) (by omega) (by omega);have y:((f:Int)).toNat=f:=by omega
  have z:((e:Int)).toNat=e:=by omega
  rw[y,z]at u;simp only[go_sem,c,OO,u,h,if_false]
theorem ZjD {fs:List (Nat×Nat)}{i:Nat}{p:Nat×Nat}(h:fs[i]?=some p):fs.getD i (0,0)=p:=by simp[List.getD_eq_getElem?_getD,h]
theorem ZdQ {g:List UInt8}(u:g.length<=1048576){k:Ke}(hk:KeOk k)(sep:Int)(H:Hp) :
 ∃ H',J9 [.str g,.agg k.cells,J yE sep] H=some (.str (ex g (fields g sep) k),H')/\(∀ (i:Nat) (x:AObj),H[i]?=some x->H'[i]?=some x):=by
 rw[OY];unfold Lk;have E:ZQ (.agg k.cells) H=some (.ptr H.length 0,H++[.cells k.cells]):=Rt rfl;have j:=U3 H (.cells k.cells);obtain⟨a,b,T,Y⟩:=Zia u sep (n:=max k.ff 1) (by omega) (H++[.cells k.cells]);simp only[Ke.cells]at E j T ⊢;simp only[E,go_sem,zC,Y2 j,zA];rw[T];simp only[go_sem,ZjW,zA,zB];have y:∀ (i:Nat) (x:AObj),H[i]?=some x->(H++[AObj.cells [J yE k.ff,J yE k.fc,J yE k.tf,J yE k.tc,J yE k.fl]])[i]?=some x:=fun i x h=>ZY h _;by_cases C:max k.ff 1<=((fields g sep).length:Int)
 ·have L:(!decide (max k.ff 1<=((fields g sep).length:Int)))=false:=by simp[C]
  have I:=Y C;obtain⟨Z,r2⟩:=Zkg g sep _ (zT I);simp only at Z r2;simp only[L,go_sem,OM,zC,Y2 j,Ke.cells,zA,zB];have V:=hk.fc;have w1:yD.wrap (max k.fc 1-1)=max k.fc 1-1:=Zp (by omega) (by omega);have w2:yD.wrap ((b:Int)-a)=(b:Int)-a:=Zp (by omega) (by omega);have w3:yD.wrap ((a:Int)+min (max k.fc 1-1) ((b:Int)-a))=((M2 a b k:Nat):Int):=by rw[Zp (by omega) (by omega)];unfold M2;omega
  have B:M2 a b k<=g.length:=by unfold M2;omega
  simp only[w1,w2,w3]
  have A:∀ e:Nat,e<=g.length->e=Zax g (fields g sep) k->ex g (fields g sep) k=(if e<M2 a b k then [] else (g.take e).drop (M2 a b k)):=by
   intro e _ U;subst U;unfold ex;rw[if_pos C,ZjD I]
  by_cases K:0<k.tf
  ·have M:decide ((0:Int)<k.tf)=true:=by simp[K]
   obtain⟨D,F,S,X⟩:=Zia u sep (n:=k.tf) (by omega) (H++[.cells k.cells]);simp only[Ke.cells]at S;simp only[M,go_sem,zC,Y2 j,Ke.cells,zA,zB,S,ZjW];by_cases w:k.tf<=((fields g sep).length:Int)
   ·have N:decide (k.tf<=((fields g sep).length:Int))=true:=by simp[w]
    have z:=X w;obtain⟨s1,R⟩:=Zkg g sep _ (zT z);simp only at s1 R;simp only[N,go_sem,zC,Y2 j,Ke.cells,zA,zB];have W:=hk.tc;by_cases Q:0<k.tc
    ·have O:decide ((0:Int)<k.tc)=true:=by simp[Q]
     have w4:yD.wrap ((F:Int)-D)=(F:Int)-D:=Zp (by omega) (by omega);have w5:yD.wrap ((D:Int)+min k.tc ((F:Int)-D))=((D+(min k.tc ((F:Int)-D)).toNat:Nat):Int):=by rw[Zp (by omega) (by omega)];omega
     simp only[O,go_sem,zC,Y2 j,Ke.cells,zA,zB,w4,w5];rw[Zaj B (by omega) u];rw[A (D+(min k.tc ((F:Int)-D)).toNat) (by omega) (by unfold Zax;rw[if_pos ⟨K,w⟩,ZjD z];simp[Q])];exact⟨_,rfl,y⟩
    ·have O:decide ((0:Int)<k.tc)=false:=by simp;omega
     simp only[O,go_sem];rw[Zaj B R u];rw[A F R (by unfold Zax;rw[if_pos ⟨K,w⟩,ZjD z];simp[Q])];exact⟨_,rfl,y⟩
   ·have N:decide (k.tf<=((fields g sep).length:Int))=false:=by simp;omega
    simp only[N,go_sem];rw[Zaj B (zP _) u];rw[A g.length (zP _) (by unfold Zax;rw[if_neg (fun h=>w h.2)])];exact⟨_,rfl,y⟩
  ·have M:decide ((0:Int)<k.tf)=false:=by simp;omega
   simp only[M,go_sem];rw[Zaj B (zP _) u];rw[A g.length (zP _) (by unfold Zax;rw[if_neg (fun h=>K h.1)])];exact⟨_,rfl,y⟩
 ·have L:(!decide (max k.ff 1<=((fields g sep).length:Int)))=true:=by simp;omega
  simp only[L,go_sem];have:ex g (fields g sep) k=[]:=by unfold ex;rw[if_neg C]
  rw[this];exact⟨_,rfl,y⟩
def Sl (k:Nat)(x:AV)(l:List AV):Prop:=x=.nils/\l=[]\/∃ tok,x=.vs k tok l
theorem Sl.len {k:Nat}{x:AV}{l:List AV}(h:Sl k x l)(e:Nat):Zk (.slice e) x=some (J yE l.length):=by
 rcases h with ⟨rfl,rfl⟩|⟨tok,rfl⟩ <;> rfl
theorem Sl.idx {k:Nat}{x:AV}{l:List AV}(h:Sl k x l){i:Nat}{c:AV}(hi:l[i]?=some c):Zo k x (J yE (i:Int))=some (.vp c.cells):=by
 rcases h with ⟨rfl,rfl⟩|⟨tok,rfl⟩
 ·simp at hi
 ·simp[Zo,hi]
theorem Ou {f:AV->Option AV}:∀ {l:List AV},(∀ x∈l,f x=some x)->l.mapM f=some l:=by
 intro l
 induction l with
 |nil=>intro _;rfl
 |cons a l j =>
  intro h;rw[zZ,h a (by simp),j (fun x g=>h x (by simp[g]))];rfl
theorem Zsj (H:Hp)(n f k:Nat)(tok:Tok)(l:List AV):Ze H n (f+1) (.vs k tok l)=match l.mapM (Ze H n f) with
 |some l=>some (.vs k (match tok with|.own t e=>if t<n then .own t e else .no|tok=>tok) l)
 |none=>none:=(Eq.refl _).trans (Eq.refl _)
theorem F3 (H:Hp)(n f:Nat)(l:List AV):Ze H n (f+1) (.agg l)=match l.mapM (Ze H n f) with
 |some l=>some (.agg l)
 |none=>none:=(Eq.refl _).trans (Eq.refl _)
theorem Sl.close {k:Nat}{x:AV}{l:List AV}(h:Sl k x l){H:Hp}{n f:Nat}(j:∀ c∈l,Ze H n f c=some c):∃ g,Ze H n (f+1) x=some g/\Sl k g l:=by
 rcases h with ⟨rfl,rfl⟩|⟨tok,rfl⟩
 ·exact⟨.nils,rfl,.inl ⟨rfl,rfl⟩⟩
 ·have e:=Zsj H n f k tok l;rw[Ou j]at e;exact⟨_,e,.inr ⟨_,rfl⟩⟩
def Ke.av (k:Ke):AV:=.agg k.cells
theorem Ke.close (k:Ke)(H:Hp)(n f:Nat):Ze H n (f+2) k.av=some k.av:=by
 have:k.cells.mapM (Ze H n (f+1))=some k.cells:=Ou fun x g=>by
  simp only[Ke.cells,zV,List.not_mem_nil,or_false]at g;rcases g with rfl|rfl|rfl|rfl|rfl <;> rfl
 rw[Ke.av,F3,this]
structure Spec where
 keys:List Ke
 sep:Int
 flags:Int
 stab:Bool
 uniq:Bool
def Spec.cells (x:AV)(p:Spec):List AV:=[x,J yE p.sep,J yE p.flags,.bool p.uniq,.bool p.stab]
def SpecAV (a:AV)(p:Spec):Prop:=∃ x,a=.agg (p.cells x)/\Sl 5 x (p.keys.map Ke.av)
theorem SpecAV.close {a:AV}{p:Spec}(h:SpecAV a p)(H:Hp)(n f:Nat):∃ a',Ze H n (f+4) a=some a'/\SpecAV a' p:=by
 obtain⟨x,rfl,y⟩:=h
 obtain⟨g,j,u⟩:=y.close (H:=H) (n:=n) (f:=f+2) (fun c w=>by
  obtain⟨k,_,rfl⟩:=List.mem_map.1 w;exact k.close H n f)
 refine⟨.agg (p.cells g),?_,g,rfl,u⟩
 have:(p.cells x).mapM (Ze H n (f+3))=some (p.cells g):=by
  simp only[Spec.cells,zZ,j,List.mapM_nil];rfl
 rw[F3,this]
theorem XP {f:List AV->Hp->Z4}{a a' v:AV}{H H1:Hp}(g:Ze [] 0 9 a=some a')(h:f [a'] []=some (v,H1))(j:FQ 3 v=true):Zh f [a] H=some (v,H) :=
 U2 (args':=[a']) (by simp[g]) h j
theorem FP {f:List AV->Hp->Z4}{a a' b b' v:AV}{H H1:Hp}(g:Ze [] 0 9 a=some a')(h:Ze [] 0 9 b=some b')(j:f [a',b'] []=some (v,H1))(u:FQ 3 v=true):Zh f [a,b] H=some (v,H) :=
 U2 (args':=[a',b']) (by simp[g,h]) j u
def KS (k:Ke):Bool:=decide (k.ff<1) || (decide (k.fc<1) || (decide (k.tf<0) || (decide (k.tc<0) || ((k.tf==0&&k.tc != 0) || (decide (k.fl<0) || decide (31<k.fl))))))
def ZK (p:Spec):Int :=
 if 8<p.keys.length then 3 else if decide (p.sep < -1) || (decide (255<p.sep) || (p.sep==10 || (decide (p.flags<0) || decide (31<p.flags)))) then 2 else if p.keys.any KS then 2 else 0
theorem HV (k:Ke)(H:Hp):Z3 true 5 (.vp k.cells) H=some (.agg k.cells):=by simp[Z3,Go.Am.apart,Ke.cells]
theorem ZdA (H:Hp)(k:Ke)(z:List AV)(g:z.length=5):Za 5 (.ptr H.length 0) (.agg k.cells) (H++[.cells z])=some (.tuple [],H++[.cells k.cells]):=by
 rw[WT (sz:=5) (v:=.agg k.cells) (U3 _ _) rfl rfl (by omega)];simp[AV.cells,splice,g,Ke.cells]
theorem ZH (H:Hp)(l:List AV)(off:Nat):Z3 false 1 (.ptr H.length off) (H++[.cells l])=l[off]?:=Y2 (U3 H _)
theorem Yu (l:List AV)(H:Hp):ZQ (.agg l) H=some (.ptr H.length 0,H++[.cells l]):=Rt rfl
attribute [go_sem] Yu ZH
theorem Sl.key {x:AV}{l:List Ke}(h:Sl 5 x (l.map Ke.av)){i:Nat}{k:Ke}(hi:l[i]?=some k):Zo 5 x (J yE (i:Int))=some (.vp k.cells):=h.idx (c:=k.av) (by simp[hi])
theorem Zyz {x:AV}{l:List Ke}(h:Sl 5 x (l.map Ke.av)){i:Nat}{k:Ke}(hi:l[i]?=some k)(n t:AV)(g H:Hp) :
 ∃ H',R7 x n (J yE (i:Int)) t g H=if KS k then some (J yE 2,H') else R8 x n (J yE (i:Int)) g H':=by
 rw[Zcp];refine⟨H++[.cells k.cells],?_⟩;have D:=U3 H (.cells k.cells);simp only[h.key hi,HV,go_sem,ZdA H k [J yE 0,J yE 0,J yE 0,J yE 0,J yE 0] rfl];simp only[go_sem,zC,ZH,Ke.cells,zA,zB];unfold KS
 cases w:decide (k.ff<1) with
 |true=>simp only[go_sem,zE,if_true]
 |false =>
 simp only[go_sem,zD,zC,ZH,Ke.cells,zA,zB]
 cases y:decide (k.fc<1) with
 |true=>simp only[go_sem,zE,if_true]
 |false =>
 simp only[go_sem,zD,zC,ZH,Ke.cells,zA,zB]
 cases z:decide (k.tf<0) with
 |true=>simp only[go_sem,zE,if_true]
 |false =>
 simp only[go_sem,zD,zC,ZH,Ke.cells,zA,zB]
 cases A:decide (k.tc<0) with
 |true=>simp only[go_sem,zE,if_true]
 |false =>
 simp only[go_sem,zD,zC,ZH,Ke.cells,zA,zB];have last:∀ b:Bool,b=false->True:=fun _ _=>trivial
 cases B:(k.tf==0) with
 |true =>
  simp only[go_sem,yA,zC,ZH,Ke.cells,zA,zB]
  cases C:(k.tc != 0) with
  |true=>simp only[go_sem,zE,if_true]
  |false =>
   simp only[go_sem,zD,zC,ZH,Ke.cells,zA,zB]
   cases j:decide (k.fl<0) with
   |true=>simp only[go_sem,zE,if_true]
   |false =>
    simp only[go_sem,zD,zC,ZH,Ke.cells,zA,zB];cases u:decide (31<k.fl) <;> simp[go_sem]
 |false =>
  simp only[go_sem,zM,zD,zC,ZH,Ke.cells,zA,zB]
  cases j:decide (k.fl<0) with
  |true=>simp only[go_sem,zE,if_true]
  |false =>
   simp only[go_sem,zD,zC,ZH,Ke.cells,zA,zB];cases u:decide (31<k.fl) <;> simp[go_sem]
theorem ZyA {x:AV}{l:List Ke}(h:Sl 5 x (l.map Ke.av))(B:l.length<=8)(u:Hp):∀ (m i:Nat) (H:Hp),l.length-i=m->i<=l.length ->
 ∃ H',Kw x (J yE (l.length:Int)) (J yE (i:Int)) u H=some (J yE (if (l.drop i).any KS then 2 else 0),H'):=by
 intro m
 induction m with
 |zero =>
  intro i H hm hi;rw[Px];have g:decide ((i:Int)<(l.length:Int))=false:=by simp;omega
  have y:l.drop i=[]:=zI.2 (by omega);simp only[go_sem,g,Zco,y,yC];exact⟨_,rfl⟩
 |succ m z =>
  intro i H hm hi;rw[Px];have j:i<l.length:=by omega
  have g:decide ((i:Int)<(l.length:Int))=true:=by simp;omega
  have hw:yD.wrap ((i:Int)+1)=((i+1:Nat):Int):=by rw[Zp (by omega) (by omega)];omega
  obtain⟨H1,w⟩:=Zyz h (zJ j) (J yE (l.length:Int)) (.bool true) u H;simp only[go_sem,g,w];rw[zL j,yB]
  cases A:KS l[i] with
  |true=>simp only[if_true,zE];exact⟨_,rfl⟩
  |false =>
   simp only[zF,if_false,zD,Zcq,go_sem,hw];exact z (i+1) H1 (by omega) (by omega)
theorem Zq0 {a:AV}{p:Spec}(h:SpecAV a p)(H:Hp):∃ H',Wv [a] H=some (J yE (ZK p),H'):=by
 obtain⟨x,rfl,w⟩:=h;rw[ZcY];unfold HH ZK;have D:=U3 H (.cells (p.cells x));have g:=w.len 119;rw[zS]at g;simp only[go_sem,zC,ZH,Spec.cells,zA,zB,g];by_cases u:8<p.keys.length
 ·have j:decide ((8:Int)<(p.keys.length:Int))=true:=by simp;omega
  simp only[j,go_sem,u,if_true];exact⟨_,rfl⟩
 have j:decide ((8:Int)<(p.keys.length:Int))=false:=by simp;omega
 simp only[j,go_sem,u,if_false,Zcm,zC,ZH,Spec.cells,zA,zB]
 cases y:decide (p.sep < -1) with
 |true=>simp only[go_sem,zE,if_true];exact⟨_,rfl⟩
 |false =>
 simp only[go_sem,zD,zC,ZH,Spec.cells,zA,zB]
 cases z:decide (255<p.sep) with
 |true=>simp only[go_sem,zE,if_true];exact⟨_,rfl⟩
 |false =>
 simp only[go_sem,zD,zC,ZH,Spec.cells,zA,zB]
 cases A:(p.sep==10) with
 |true=>simp only[go_sem,zE,if_true];exact⟨_,rfl⟩
 |false =>
 simp only[go_sem,zD,zC,ZH,Spec.cells,zA,zB]
 cases B:decide (p.flags<0) with
 |true=>simp only[go_sem,zE,if_true];exact⟨_,rfl⟩
 |false =>
 simp only[go_sem,zD,zC,ZH,Spec.cells,zA,zB]
 cases C:decide (31<p.flags) with
 |true=>simp only[go_sem,if_true];exact⟨_,rfl⟩
 |false =>
 simp only[go_sem,zF,if_false,Zcn,zC,ZH,Spec.cells,zA,zB,g];have:=ZyA w (by omega) H p.keys.length 0 (H++[.cells (p.cells x)]) (by omega) (by omega);simpa[Spec.cells]using this
theorem Eb {a:AV}{p:Spec}(h:SpecAV a p)(H:Hp):Zh Wv [a] H=some (J yE (ZK p),H):=by
 obtain⟨a',g,j⟩:=h.close [] 0 5;obtain⟨H',u⟩:=Zq0 j [];exact XP g u rfl
theorem Zrf (k:Ke)(H:Hp):∃ H',Nz [k.av] H=some (.bool (!KS k),H'):=by
 rw[Zja];unfold ZfF Ke.av;simp only[go_sem,zC,Ke.cells,zA,zB];unfold KS
 have j:∀ b:Bool,b=(decide (k.fl<0) || decide (31<k.fl))->∃ H',Sw (.ptr H.length 0) H (H++[.cells [J yE k.ff,J yE k.fc,J yE k.tf,J yE k.tc,J yE k.fl]])=some (.bool (!b),H'):=by
  intro b h;rw[ZhD];simp only[go_sem,zC,zA,zB]
  cases g:decide (k.fl<0) with
  |true =>
   have:decide (0<=k.fl)=false:=by simp at g ⊢;omega
   simp only[this,go_sem];rw[h,g];exact⟨_,rfl⟩
  |false =>
   have:decide (0<=k.fl)=true:=by simp at g ⊢;omega
   simp only[this,go_sem,zC,zA,zB];have e:decide (k.fl<=31)=!decide (31<k.fl):=by rw[zR];simp
   rw[h,g,e];exact⟨_,rfl⟩
 cases u:decide (k.ff<1) with
 |true=>simp only[go_sem,zE,zK];exact⟨_,rfl⟩
 |false =>
 simp only[go_sem,zD,zC,Ke.cells,zA,zB]
 cases w:decide (k.fc<1) with
 |true=>simp only[go_sem,zE,zK];exact⟨_,rfl⟩
 |false =>
 simp only[go_sem,zD,zC,Ke.cells,zA,zB]
 cases y:decide (k.tf<0) with
 |true=>simp only[go_sem,zE,zK];exact⟨_,rfl⟩
 |false =>
 simp only[go_sem,zD,zC,Ke.cells,zA,zB]
 cases z:decide (k.tc<0) with
 |true=>simp only[go_sem,zE,zK];exact⟨_,rfl⟩
 |false =>
 simp only[go_sem,zD,zC,Ke.cells,zA,zB]
 cases A:(k.tf==0) with
 |true =>
  simp only[go_sem,yA,zC,Ke.cells,zA,zB]
  cases B:(k.tc != 0) with
  |true=>simp only[go_sem,zE,zK];exact⟨_,rfl⟩
  |false=>simp only[go_sem,zD];exact j _ rfl
 |false=>simp only[go_sem,zM,zD];exact j _ rfl
theorem Zre (k:Ke)(H:Hp):Zh Nz [k.av] H=some (.bool (!KS k),H):=by
 obtain⟨H',g⟩:=Zrf k [];exact XP (k.close [] 0 7) g rfl
theorem Zy2 {x:AV}{l:List Ke}(h:Sl 5 x (l.map Ke.av))(D:l.length<=8)(z:Hp){o:Nat}{r:List AV}{H:Hp}(w:H[o]?=some (.cells (x::r))):∀ (m i:Nat),l.length-i=m->i<=l.length ->
 Tg (.ptr o 0) (J yE (i:Int)) z H=some (J yE (if (l.drop i).any KS then 2 else 0),H):=by
 have g:=h.len 119;rw[zS]at g;intro m
 induction m with
 |zero =>
  intro i hm hi;rw[HP];have j:decide ((i:Int)<(l.length:Int))=false:=by simp;omega
  have A:l.drop i=[]:=zI.2 (by omega);simp only[go_sem,zC,Y2 w,zA,g,j,ZhA,A,yC];rfl
 |succ m B =>
  intro i hm hi;rw[HP];have u:i<l.length:=by omega
  have j:decide ((i:Int)<(l.length:Int))=true:=by simp;omega
  have hw:yD.wrap ((i:Int)+1)=((i+1:Nat):Int):=by rw[Zp (by omega) (by omega)];omega
  have y:=Zre l[i] H;unfold Ke.av at y;simp only[go_sem,zC,Y2 w,zA,g,j,ZhB,h.key (zJ u),HV,y,Bool.not_not];rw[zL u,yB]
  cases C:KS l[i] with
  |true=>simp only[go_sem,if_true,zE]
  |false =>
   simp only[go_sem,zD,ZhC,hw];exact B (i+1) (by omega) (by omega)
theorem ZoL {a:AV}{p:Spec}(h:SpecAV a p)(H:Hp):∃ H',Ny [a] H=some (J yE (ZK p),H'):=by
 obtain⟨x,rfl,w⟩:=h;rw[Zj9];unfold ZfE ZK;have g:=w.len 119;rw[zS]at g;simp only[go_sem,zC,Spec.cells,zA,zB,g];by_cases u:8<p.keys.length
 ·have j:decide ((8:Int)<(p.keys.length:Int))=true:=by simp;omega
  simp only[j,go_sem,u,if_true];exact⟨_,rfl⟩
 have j:decide ((8:Int)<(p.keys.length:Int))=false:=by simp;omega
 simp only[j,go_sem,u,if_false,Zhy,zC,Spec.cells,zA,zB]
 cases y:decide (p.sep < -1) with
 |true=>simp only[go_sem,zE,if_true];exact⟨_,rfl⟩
 |false =>
 simp only[go_sem,zD,zC,Spec.cells,zA,zB]
 cases z:decide (255<p.sep) with
 |true=>simp only[go_sem,zE,if_true];exact⟨_,rfl⟩
 |false =>
 simp only[go_sem,zD,zC,Spec.cells,zA,zB]
 cases A:(p.sep==10) with
 |true=>simp only[go_sem,zE,if_true];exact⟨_,rfl⟩
 |false =>
 simp only[go_sem,zD,zC,Spec.cells,zA,zB]
 cases B:decide (p.flags<0) with
 |true=>simp only[go_sem,zE,if_true];exact⟨_,rfl⟩
 |false =>
 simp only[go_sem,zD,zC,Spec.cells,zA,zB]
 cases C:decide (31<p.flags) with
 |true=>simp only[go_sem,if_true];exact⟨_,rfl⟩
 |false =>
 simp only[go_sem,zF,if_false,Zhz];have:=Zy2 w (by omega) H (U3 H (.cells [x,J yE p.sep,J yE p.flags,.bool p.uniq,.bool p.stab])) p.keys.length 0 (by omega) (by omega);rw[show ((0:Nat):Int)=0 from rfl,zO]at this;exact⟨_,this⟩
theorem ZoK {a:AV}{p:Spec}(h:SpecAV a p)(H:Hp):Zh Ny [a] H=some (J yE (ZK p),H):=by
 obtain⟨a',g,j⟩:=h.close [] 0 5;obtain⟨H',u⟩:=ZoL j [];exact XP g u rfl
end Go.Am
namespace Go.Am
open Go.Proofs
def RowN (n:Nat)(H:Hp)(k:Nat)(x:AV)(l:List AV):Prop:=x=.nils/\l=[]\/∃ t e,x=.vs k (.own t e) l/\H[t]?=some (.tok e)/\n<=t
def Keep (n:Nat)(H H':Hp):Prop:=∀ i,i<n->H'[i]?=H[i]?
theorem Keep.refl (n:Nat)(H:Hp):Keep n H H:=fun _ _=>rfl
theorem Keep.trans {n:Nat}{A B C:Hp}(h:Keep n A B)(k:Keep n B C):Keep n A C:=fun i hi=>(k i hi).trans (h i hi)
theorem Keep.push {n:Nat}(H:Hp)(g:n<=H.length)(l:List AObj):Keep n H (H++l):=fun i hi=>List.getElem?_append_left (by omega)
theorem RowN.nil (n:Nat)(H:Hp)(k:Nat):RowN n H k .nils []:=.inl ⟨rfl,rfl⟩
theorem RowN.sl {n:Nat}{H:Hp}{k:Nat}{x:AV}{l:List AV}(h:RowN n H k x l):Sl k x l:=h.imp id fun⟨t,e,a,_⟩=>⟨_,a⟩
theorem RowN.push {n:Nat}{H:Hp}{k:Nat}{x:AV}{l:List AV}(h:RowN n H k x l)(r:List AObj):RowN n (H++r) k x l:=h.imp id fun⟨t,e,a,b,c⟩=>⟨t,e,a,ZY b _,c⟩
theorem RowN.app {n:Nat}{H:Hp}{k:Nat}{x:AV}{l:List AV}(h:RowN n H k x l)(z:n<=H.length)(bytes:Nat)(y:AV)(j:List AV)(E:elems k y H=some j)(B:(l.length+j.length)*(bytes+1)<=140737488355328) :
 ∃ C H',Y9 k bytes x y H=some (C,H')/\RowN n H' k C (l++j)/\n<=H'.length/\Keep n H H'/\(∀ (i:Nat) (c:List AV),H[i]?=some (.cells c)->H'[i]?=some (.cells c)):=by
 unfold Y9;simp only[E];rcases h with ⟨rfl,rfl⟩|⟨t,e,rfl,A,w⟩
 ·by_cases u:j=[]
  ·subst u;exact⟨.nils,H,by simp[YN],.inl ⟨rfl,rfl⟩,z,Keep.refl _ _,fun _ _ h=>h⟩
  ·have g:Xg j.length bytes=true:=by simpa[Xg]using B
   exact⟨.vs k (.own H.length j.length) j,H++[.tok j.length],by simp only[YN,u,if_false,g,if_true],.inr ⟨H.length,j.length,rfl,by simp,z⟩,by simp;omega,Keep.push H z _,fun i c h=>ZY h _⟩
 ·have g:Xg (l.length+j.length) bytes=true:=by simpa[Xg]using B
  by_cases u:j=[]
  ·subst u;exact⟨.vs k (.own t e) l,H,by simp only[YN,List.length_nil,zQ]at g ⊢;simp only[g,and_self,if_true],.inr ⟨t,e,by simp,A,w⟩,z,Keep.refl _ _,fun _ _ h=>h⟩
  ·refine⟨_,_,by simp only[YN,g,and_self,if_true,u,if_false,A],.inr ⟨t,e+j.length,rfl,Zq _ A,w⟩,by simp;omega,fun i hi=>List.getElem?_set_ne (by omega),fun i c h=>?_⟩;refine Yd _ (fun D=>?_) h;subst D;rw[A]at h;cases h
def Zsc (n j:Nat):Bool:=match Z5 .and (J yE n) (J yE ((2 ^ j:Nat):Int)) with
 |some (J yE m)=>m==(if n.testBit j then ((2 ^ j:Nat):Int) else 0)
 |_=>false
theorem Zq1:((zY 32).all fun n=>(zY 5).all fun j=>Zsc n j)=true:=by kernel_rfl
theorem WS {n:Nat}{p:Nat->Bool}(h:(zY n).all p=true){i:Nat}(hi:i<n):p i=true:=List.all_eq_true.1 h i (List.mem_range.2 hi)
theorem Zdy {n j:Nat}(u:n<32)(g:j<5):Z5 .and (J yE n) (J yE ((2 ^ j:Nat):Int))=some (J yE (if n.testBit j then ((2 ^ j:Nat):Int) else 0)):=by
 have h:=WS (WS Zq1 u) g;unfold Zsc at h;split at h
 ·rename_i m hm;rw[hm];have:m=(if n.testBit j then ((2 ^ j:Nat):Int) else 0):=by simpa using h
  rw[this]
 ·cases h
end Go.Am
