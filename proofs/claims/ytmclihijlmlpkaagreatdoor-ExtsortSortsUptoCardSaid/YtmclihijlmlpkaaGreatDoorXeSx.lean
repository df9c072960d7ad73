/- The fields of a line -/
import Derived.Test.YtmclihijlmlpkaaGreatDoorXeGx
import Derived.Test.YtmclihijlmlpkaaGreatDoorHmSx
open Option renaming some->X
open Bool renaming true->Y,false->I
open List renaming length->O
open Go.db renaming cm->K
open Go.Am.AV renaming int->Q
open Go.IntKind renaming i64->J
open Go.IntKind renaming i64->yH
open List renaming getElem?_cons_zero->zA,getElem?_cons_succ->zB,getElem?_eq_getElem->zH,drop_eq_nil_iff->zI,drop_succ_cons->zJ,getD_eq_getElem?_getD->zL,drop_eq_getElem_cons->zM,drop_drop->zO,drop_zero->zP,range->zR,length_map->zU,getElem?_eq_none->zV,mem_of_getElem?->zW,takeWhile_cons->zX,mem_cons->zZ,length_drop->yA,mapM_cons->yD,any_cons->yE,any_nil->yF
open Nat renaming zero_add->zC,le_refl->zQ,add_zero->zS,strongRecOn->yB
open Bool renaming false_or->zD,true_or->zE,false_eq_true->zG,not_true->zK,false_and->zN,eq_iff_iff->zT,true_and->zY,not_false->yC
open UInt8 renaming ofNat->zF
open Go.Am.AV renaming cells->yG
namespace Go.Am
theorem Zy9 (b:UInt8)(n:Nat)(h:n<256):(((b.toNat:Int))==(n:Int))=(b==zF n):=by
 rw[zT];simp only[beq_iff_eq];constructor
 ·intro e;have:b.toNat=n:=K
  rw[<-this];simp
 ·intro e;subst e;simp;omega
def YG (b:UInt8):Bool:=b==32 || b==9
theorem Jj (b:UInt8):(((b.toNat:Int))==32)=(b==32)/\(((b.toNat:Int))==9)=(b==9):=⟨Zy9 b 32 co,Zy9 b 9 co⟩
theorem eX (b:UInt8)(H:Hp):Vw [.int .u8 b.toNat] H=X (.bool (YG b),H):=by
 rw[oB];unfold Au YG;simp only[go_sem,(Jj b).1];cases (b==32) <;> simp[go_sem,(Jj b).2]
theorem Mk (b:UInt8)(H:Hp):Qq [.int .u8 b.toNat] H=X (.bool (YG b),H):=by
 rw[Zji];unfold Zde YG;simp only[go_sem,(Jj b).1];cases (b==32) <;> simp[go_sem,(Jj b).2]
theorem ZuJ (a b:Int)(H:Hp):Eu [Q J a,Q J b] H=X (Q J (max a b),H):=by
 rw[ZlR];unfold Zgj;by_cases h:b<a
 ·have e:max a b=a:=K
  simp[go_sem,h,e]
 ·have e:max a b=b:=K
  simp[go_sem,h,e,ZjJ]
theorem Zil (a b:Int)(H:Hp):ND [Q J a,Q J b] H=X (Q J (min a b),H):=by
 rw[Zjj];unfold Zdf;by_cases h:a<b
 ·have e:min a b=a:=K
  simp[go_sem,h,e]
 ·have e:min a b=b:=K
  simp[go_sem,h,e,Zh3]
theorem Zkx (s:cz)(n:Int)(H:Hp):Kr [.str s,.int .u8 n] H=X (Q J (K6 (zF n.toNat) s 0),H):=by
 rw[O9];unfold Pi;rw[GC];unfold Uf;simp only[go_sem]
def X3 (c:UInt8):cz->Nat->Nat->List (Nat×Nat)
 |[],f,p=>[(f,p)]
 |b::l,f,p=>if b=c then (f,p)::X3 c l (p+1) (p+1) else X3 c l f (p+1)
theorem CV (c b:UInt8)(l:cz)(f p:Nat):X3 c (b::l) f p=if b=c then (f,p)::X3 c l (p+1) (p+1) else X3 c l f (p+1):=de
theorem Zpu (c b:UInt8)(l:cz)(k:Nat):K6 c (b::l) k=if b=c then (k:Int) else K6 c l (k+1):=de
theorem Zpn (c:UInt8):∀ (l:cz) (f p k:Nat),
 (K6 c l k=-1/\X3 c l f p=[(f,p+O l)])\/∃ e,e<O l/\K6 c l k=((k+e:Nat):Int)/\X3 c l f p=(f,p+e)::X3 c (l.drop (e+1)) (p+e+1) (p+e+1):=by
 intro l
 induction l with
 |nil=>intro f p k;exact .inl ⟨rfl,rfl⟩
 |cons b l u =>
  intro f p k;rw[Zpu,CV];by_cases h:b=c
  ·exact .inr ⟨0,cn,by simp[h],by simp[h]⟩
  ·simp only[h,if_false];rcases u f (p+1) (k+1) with ⟨g,j⟩|⟨e,w,g,j⟩
   ·exact .inl ⟨g,by rw[j];simp[Nat.add_comm,Nat.add_left_comm]⟩
   ·refine .inr ⟨e+1,by simp;omega,by rw[g];congr 1;omega,?_⟩;rw[j,zJ];simp only[show p+1+e=p+(e+1) by omega]
def ZkP (a b:Nat)(ok:Bool):AV:=.tuple [Q J a,Q J b,.bool ok]
theorem Zi2 {g:cz}(L:O g<=1048576){sep:Int}(h0:0<=sep)(h1:sep<=255){n:Int}(H0 H:Hp):∀ (k f i:Nat),O g+1-f=k->f<=O g->i<=f+1->(i:Int)<=n ->
 ∃ a b,JV (.str g) (Q J n) (Q J sep) (Q J (f:Int)) (Q J (i:Int)) H0 H =
  X (ZkP a b (decide (n<i+(X3 (zF sep.toNat) (g.drop f) f f).length)),H) /\
  (n<i+(X3 (zF sep.toNat) (g.drop f) f f).length->(X3 (zF sep.toNat) (g.drop f) f f)[(n-i).toNat]?=X (a,b)):=by
 intro k
 induction k using yB with
 |_ k T =>
  intro f i hk hf hi hn;rw[mW];have w:=eW (s:=g) (n:=(f:Int)) .i64 K K;have C:((f:Int)).toNat=f:=K
  rw[C]at w
  have B:Yn .u8 (Q J sep)=X (.int .u8 sep):=by
   have:IntKind.u8.wrap sep=sep:=by
    unfold IntKind.wrap;have M:(2 ^ IntKind.u8.bits:Int)=256:=co
    have N:IntKind.u8.signed=I:=rfl;simp only[M,N,zN,zG,if_false];omega
   simp[Yn,this]
  simp only[w,go_sem,B,Zkx];rcases Zpn (zF sep.toNat) (g.drop f) f f 0 with ⟨y,z⟩|⟨e,R,y,z⟩
  ·have j:decide (K6 (zF sep.toNat) (g.drop f) 0<0)=Y:=by rw[y];decide
   simp only[j,go_sem];rw[z];refine⟨f,O g,?_,λh=>?_⟩
   ·have:((i:Int)==n)=decide (n<(i:Int)+([(f,f+(g.drop f).length)]:List (Nat×Nat)).length):=by
     rw[zT];simp;omega
    rw[this];rfl
   ·have u:n=i:=by simp at h;omega
    subst u;simp;omega
  ·have j:decide (K6 (zF sep.toNat) (g.drop f) 0<0)=I:=by rw[y];simp
   simp only[j,go_sem,iO];rw[y,z];simp only[yA]at R;by_cases u:(i:Int)=n
   ·have A:((i:Int)==n)=Y:=by simp[u]
    have hw:yH.wrap ((f:Int)+((0+e:Nat):Int))=((f+e:Nat):Int):=by rw[Zo K K];omega
    simp only[A,go_sem,hw];refine⟨f,f+e,?_,λ_=>by simp[<-u]⟩
    have:(Y:Bool)=decide (n<(i:Int)+((f,f+e)::X3 (zF sep.toNat) ((g.drop f).drop (e+1)) (f+e+1) (f+e+1)).length):=by
     symm;simp;omega
    rw[<-this];rfl
   ·have A:((i:Int)==n)=I:=by simp[u]
    have D:yH.wrap (((0+e:Nat):Int)+1)=((e+1:Nat):Int):=by rw[Zo K K];omega
    have E:yH.wrap ((f:Int)+((e+1:Nat):Int))=((f+e+1:Nat):Int):=by rw[Zo K K];omega
    have F:yH.wrap ((i:Int)+1)=((i+1:Nat):Int):=by rw[Zo K K];omega
    simp only[A,go_sem,iP,D,E,iN,F];obtain⟨a,b,Z,q2⟩:=T (O g+1-(f+e+1)) K (f+e+1) (i+1) rfl K K K;rw[zO,show f+(e+1)=f+e+1 by omega];refine⟨a,b,?_,λh=>?_⟩
    ·rw[Z]
     have:decide (n<((i+1:Nat):Int)+(X3 (zF sep.toNat) (g.drop (f+e+1)) (f+e+1) (f+e+1)).length) =
      decide (n<(i:Int)+((f,f+e)::X3 (zF sep.toNat) (g.drop (f+e+1)) (f+e+1) (f+e+1)).length):=by
      congr 1;simp;constructor <;> intro h <;> omega
     rw[this]
    ·have S:n<((i+1:Nat):Int)+(X3 (zF sep.toNat) (g.drop (f+e+1)) (f+e+1) (f+e+1)).length:=by simp at h ⊢;omega
     have:=q2 S;rw[show (n-(i:Int)).toNat=(n-((i+1:Nat):Int)).toNat+1 by omega];simpa using this
def Yv (l:cz):Nat:=(l.takeWhile YG).length
def W6 (l:cz):Nat:=(l.takeWhile λb=>!YG b).length
theorem ZlG:Yv []=0:=rfl
theorem ZbE:W6 []=0:=rfl
theorem WI (b:UInt8)(l:cz):Yv (b::l)=if YG b then Yv l+1 else 0:=by
 unfold Yv;rw[zX];split <;> simp
theorem B2 (b:UInt8)(l:cz):W6 (b::l)=if YG b then 0 else W6 l+1:=by
 unfold W6;rw[zX];cases YG b <;> simp
theorem Zg0 (l:cz):Yv l<=O l:=by
 induction l with
 |nil=>simp[ZlG]
 |cons b l g=>rw[WI];split <;> simp;exact g
theorem Zy2 (l:cz):W6 l<=O l:=by
 induction l with
 |nil=>simp[ZbE]
 |cons b l g=>rw[B2];split <;> simp;exact g
def V7:Bool->cz->Nat->Nat->List (Nat×Nat)
 |_,[],f,p=>[(f,p)]
 |q,b::l,f,p=>if YG b&&!q then (f,p)::V7 (YG b) l p (p+1) else V7 (YG b) l f (p+1)
theorem TN (q:Bool)(b:UInt8)(l:cz)(f p:Nat):V7 q (b::l) f p=if YG b&&!q then (f,p)::V7 (YG b) l p (p+1) else V7 (YG b) l f (p+1):=de
def Ja:cz->Nat->List (Nat×Nat)
 |[],_=>[]
 |x::l,f=>V7 (YG x) l f (f+1)
theorem Zbd (x:UInt8)(l:cz)(f:Nat):Ja (x::l) f=V7 (YG x) l f (f+1):=de
theorem Zl9:∀ (l:cz) (f p:Nat),V7 I l f p=(f,p+W6 l)::Ja (l.drop (W6 l)) (p+W6 l):=by
 intro l
 induction l with
 |nil=>intro f p;rfl
 |cons b l h =>
  intro f p;rw[TN,B2]
  cases g:YG b with
  |true=>simp[Ja,g]
  |false =>
   simp only[zN,zG,if_false];rw[h];simp only[zJ,show p+1+W6 l=p+(W6 l+1) by omega]
theorem Zu7:∀ (l:cz) (f p:Nat),V7 Y l f p=match l.drop (Yv l) with
 |[]=>[(f,p+Yv l)]
 |m::l'=>V7 I l' f (p+Yv l+1):=by
 intro l
 induction l with
 |nil=>intro f p;rfl
 |cons b l g =>
  intro f p;rw[TN,WI]
  cases h:YG b with
  |true =>
   simp only[zK,Bool.and_false,zG,if_false,if_true,zJ];rw[g];simp only[show p+1+Yv l=p+(Yv l+1) by omega]
  |false=>simp
def Ui (l:cz):Nat:=Yv l+W6 (l.drop (Yv l))
theorem Zu0 (l:cz){m:UInt8}{u:cz}(h:l.drop (Yv l)=m::u):YG m=I:=by
 induction l with
 |nil=>simp at h
 |cons b l j =>
  rw[WI]at h
  cases g:YG b with
  |true=>simp[g]at h;exact j h
  |false=>simp[g]at h;rw[<-h.1];exact g
theorem Zul (l:cz)(f:Nat)(h:0<O l):Ja l f=(f,f+Ui l)::Ja (l.drop (Ui l)) (f+Ui l):=by
 cases l with
 |nil=>simp at h
 |cons x l =>
  rw[Zbd];unfold Ui;rw[WI]
  cases z:YG x with
  |false =>
   simp only[zG,if_false,zP,zC,B2,z,zJ];rw[Zl9];simp only[show f+1+W6 l=f+(W6 l+1) by omega]
  |true =>
   simp only[if_true];rw[Zu7];simp only[zJ]
   cases j:l.drop (Yv l) with
   |nil =>
    have u:Yv l=O l:=by
     have:=zI.1 j;have:=Zg0 l;omega
    simp only[ZbE,zS];have:(x::l).drop (Yv l+1)=[]:=by simp[j]
    rw[this];simp[show f+1+Yv l=f+(Yv l+1) by omega,Ja]
   |cons m g =>
    have y:=Zu0 l j;simp only[B2,y,zG,if_false];rw[Zl9]
    have w:(x::l).drop (Yv l+1+(W6 g+1))=g.drop (W6 g):=by
     have:(x::l).drop (Yv l+1+(W6 g+1))=(m::g).drop (W6 g+1):=by
      rw[<-j,zO,show Yv l+1+(W6 g+1)=(Yv l+(W6 g+1))+1 by omega,zJ]
     rw[this,zJ]
    rw[w];simp only[show f+1+Yv l+1+W6 g=f+(Yv l+1+(W6 g+1)) by omega]
theorem ZwR (l:cz)(h:0<O l):0<Ui l:=by
 cases l with
 |nil=>simp at h
 |cons x l =>
  unfold Ui;rw[WI]
  cases g:YG x with
  |true=>simp;omega
  |false=>simp[B2,g]
theorem ZyX (l:cz):Ui l<=O l:=by
 unfold Ui;have h:=Zg0 l;have g:=Zy2 (l.drop (Yv l));simp at g;omega
theorem ZO {s:cz}{i:Nat}{b:UInt8}(h:s[i]?=X b):Zz (.str s) (Q J (i:Int))=X (.int .u8 b.toNat):=by simp[Zz,h]
theorem YU {s:cz}{i:Nat}(h:i<O s):s.drop i=s[i]::s.drop (i+1):=zM h
theorem Zyt {g:cz}(u:O g<=1048576)(n f i:AV)(H0 H:Hp):∀ (k p:Nat),O g-p=k->p<=O g ->
 JU (.str g) n f (Q J (p:Int)) i H0 H=R3 (.str g) n f (Q J ((p+Yv (g.drop p):Nat):Int)) i H0 H:=by
 intro k
 induction k with
 |zero =>
  intro p y z;rw[PE];have h:decide ((p:Int)<(O g:Int))=I:=by simp;omega
  have w:g.drop p=[]:=zI.2 K;simp only[go_sem,h,w,ZlG,zS]
 |succ k A =>
  intro p y z;rw[PE];have h:decide ((p:Int)<(O g:Int))=Y:=by simp;omega
  have j:p<O g:=K
  have hw:yH.wrap ((p:Int)+1)=((p+1:Nat):Int):=by rw[Zo K K];omega
  simp only[go_sem,h,ZO (zH j),eX];rw[YU j,WI]
  cases B:YG g[p] with
  |true =>
   simp only[go_sem,mU,hw,if_true];rw[A (p+1) K K,show p+1+Yv (g.drop (p+1))=p+(Yv (g.drop (p+1))+1) by omega]
  |false=>simp[go_sem]
theorem Zys {g:cz}(u:O g<=1048576)(n f i:AV)(H0 H:Hp):∀ (k p:Nat),O g-p=k->p<=O g ->
 JT (.str g) n f (Q J (p:Int)) i H0 H=R4 (.str g) n f (Q J ((p+W6 (g.drop p):Nat):Int)) i H0 H:=by
 intro k
 induction k with
 |zero =>
  intro p y z;rw[PD];have h:decide ((p:Int)<(O g:Int))=I:=by simp;omega
  have w:g.drop p=[]:=zI.2 K;simp only[go_sem,h,w,ZbE,zS]
 |succ k A =>
  intro p y z;rw[PD];have h:decide ((p:Int)<(O g:Int))=Y:=by simp;omega
  have j:p<O g:=K
  have hw:yH.wrap ((p:Int)+1)=((p+1:Nat):Int):=by rw[Zo K K];omega
  simp only[go_sem,h,ZO (zH j),eX];rw[YU j,B2]
  cases B:YG g[p] with
  |false =>
   simp only[yC,go_sem,mT,hw,zG,if_false];rw[A (p+1) K K,show p+1+W6 (g.drop (p+1))=p+(W6 (g.drop (p+1))+1) by omega]
  |true=>simp[go_sem]
theorem Zft {g:cz}(j:O g<=1048576){n:Int}(H0 H:Hp):∀ (k f i:Nat),O g-f=k->f<=O g->i<=f+1->(i:Int)<=n ->
 ∃ a b,JS (.str g) (Q J n) (Q J (f:Int)) (Q J (i:Int)) H0 H=X (ZkP a b (decide (n<i+(Ja (g.drop f) f).length)),H) /\
  (n<i+(Ja (g.drop f) f).length->(Ja (g.drop f) f)[(n-i).toNat]?=X (a,b)):=by
 intro k
 induction k using yB with
 |_ k N =>
  intro f i Z T hi hn;rw[mV];by_cases F:f<O g
  ·have u:decide ((f:Int)<(O g:Int))=Y:=by simp;omega
   have y:0<(g.drop f).length:=by simp;omega
   simp only[go_sem,u,mO];rw[Zyt j _ _ _ _ _ _ f rfl K,mQ];have A:=Zg0 (g.drop f);have B:=ZyX (g.drop f);have M:=ZwR (g.drop f) y;simp only[yA]at A B;rw[Zys j _ _ _ _ _ _ (f+Yv (g.drop f)) rfl K,mR]
   have E:f+Yv (g.drop f)+W6 (g.drop (f+Yv (g.drop f)))=f+Ui (g.drop f):=by
    unfold Ui;rw[zO];omega
   rw[E,Zul _ _ y,zO];by_cases w:(i:Int)=n
   ·have z:((i:Int)==n)=Y:=by simp[w]
    simp only[z,go_sem];refine⟨f,f+Ui (g.drop f),?_,λ_=>by simp[<-w]⟩
    have:(Y:Bool)=decide (n<(i:Int)+((f,f+Ui (g.drop f))::Ja (g.drop (f+Ui (g.drop f))) (f+Ui (g.drop f))).length):=by
     symm;simp;omega
    rw[<-this];rfl
   ·have z:((i:Int)==n)=I:=by simp[w]
    have C:yH.wrap ((i:Int)+1)=((i+1:Nat):Int):=by rw[Zo K K];omega
    simp only[z,go_sem,mS,mP,C];obtain⟨a,b,R,S⟩:=N (O g-(f+Ui (g.drop f))) K (f+Ui (g.drop f)) (i+1) rfl K K K;refine⟨a,b,?_,λh=>?_⟩
    ·rw[R]
     have:decide (n<((i+1:Nat):Int)+(Ja (g.drop (f+Ui (g.drop f))) (f+Ui (g.drop f))).length) =
      decide (n<(i:Int)+((f,f+Ui (g.drop f))::Ja (g.drop (f+Ui (g.drop f))) (f+Ui (g.drop f))).length):=by
      congr 1;simp;constructor <;> intro h <;> omega
     rw[this]
    ·have L:n<((i+1:Nat):Int)+(Ja (g.drop (f+Ui (g.drop f))) (f+Ui (g.drop f))).length:=by simp at h ⊢;omega
     have:=S L;rw[show (n-(i:Int)).toNat=(n-((i+1:Nat):Int)).toNat+1 by omega];simpa using this
  ·have u:decide ((f:Int)<(O g:Int))=I:=by simp;omega
   have D:g.drop f=[]:=zI.2 K;simp only[go_sem,u,mN,D,Ja];refine⟨0,0,?_,λh=>by simp at h;omega⟩;have:decide (n<(i:Int)+([]:List (Nat×Nat)).length)=I:=by simp;omega
   rw[this];rfl
def fields (g:cz)(sep:Int):List (Nat×Nat):=if 0<=sep/\sep<=255 then X3 (zF sep.toNat) g 0 0 else Ja g 0
theorem Zi3 {g:cz}(j:O g<=1048576)(sep:Int){n:Int}(D:1<=n)(H:Hp) :
 ∃ a b,KB [.str g,Q J n,Q J sep] H=X (ZkP a b (decide (n<=(fields g sep).length)),H) /\
  (n<=(fields g sep).length->(fields g sep)[(n-1).toNat]?=X (a,b)):=by
 rw[oC];unfold Av fields;by_cases h:0<=sep/\sep<=255
 ·have w:decide ((0:Int)<=sep)=Y:=by simp[h.1]
  have A:decide (sep<=(255:Int))=Y:=by simp[h.2]
  rw[if_pos h];simp only[go_sem,w,A];obtain⟨a,b,y,z⟩:=Zi2 j h.1 h.2 (n:=n) H H _ 0 1 rfl K K K;simp only[zP]at y z;refine⟨a,b,?_,λh=>z K⟩;have:decide (n<=((X3 (zF sep.toNat) g 0 0).length:Int))=decide (n<((1:Nat):Int)+(X3 (zF sep.toNat) g 0 0).length):=by congr 1;simp;constructor <;> intro h <;> omega
  rw[this];exact y
 ·obtain⟨a,b,y,z⟩:=Zft j (n:=n) H H _ 0 1 rfl K K K;simp only[zP]at y z
  have u:R2 (.str g) (Q J n) (Q J 0) H H=X (ZkP a b (decide (n<=((Ja g 0).length:Int))),H):=by
   rw[mM];have:decide (n<=((Ja g 0).length:Int))=decide (n<((1:Nat):Int)+(Ja g 0).length):=by congr 1;simp;constructor <;> intro h <;> omega
   rw[this];exact y
  refine⟨a,b,?_,λB=>by rw[if_neg h]at B ⊢;exact z K⟩;rw[if_neg h];by_cases C:0<=sep
  ·have w:decide ((0:Int)<=sep)=Y:=by simp[C]
   have A:decide (sep<=(255:Int))=I:=by simp;omega
   simp only[go_sem,w,A];exact u
  ·have w:decide ((0:Int)<=sep)=I:=by simp;omega
   simp only[go_sem,w];exact u
def WJ (p:Nat×Nat):AV:=.agg [Q J p.1,Q J p.2]
theorem Ii (a b:Nat):(Yq [(0,1,Q J (a:Int)),(1,1,Q J (b:Int))] [Q J 0,Q J 0]).map AV.agg=X (WJ (a,b)):=by
 simp[Yq,AV.known,yG,splice,WJ]
theorem iG (p:Nat×Nat):(Zt 2 [(0,WJ p)] [.agg [Q J 0,Q J 0]]).map (AV.vs 2 .clip)=X (.vs 2 .clip [WJ p]):=by
 simp[Zt,AV.known,yG,WJ]
theorem eU {H:Hp}{x:AV}{g:List (Nat×Nat)}(h:Row H 2 x (g.map WJ))(z:O g<=1048577)(p:Nat×Nat) :
 ∃ j H',ZR 2 16 x (.vs 2 .clip [WJ p]) H=X (j,H')/\Row H' 2 j ((g++[p]).map WJ)/\(∀ (i:Nat) (c:c6),H[i]?=X (.cells c)->H'[i]?=X (.cells c)):=by
 obtain⟨j,H',u,w,_,y,_⟩:=h.app 16 (.vs 2 .clip [WJ p]) [WJ p] (by simp[elems]) (by simp;omega);exact⟨j,H',u,by simpa using w,y⟩
theorem Zfu {g:cz}(N:O g<=1048576){sep:Int}(h0:0<=sep)(h1:sep<=255)(H0:Hp):∀ (k p f:Nat) (j:List (Nat×Nat)) (x:AV) (H:Hp),O g-p=k->p<=O g->O j<=p ->
 Row H 2 x (j.map WJ)->∃ w H',FE (.str g) (Q J sep) x (Q J (f:Int)) (Q J (p:Int)) H0 H=X (w,H') /\
  Row H' 2 w ((j++X3 (zF sep.toNat) (g.drop p) f p).map WJ)/\(∀ (i:Nat) (c:c6),H[i]?=X (.cells c)->H'[i]?=X (.cells c)):=by
 intro k
 induction k with
 |zero =>
  intro p f j x H hk hp S z;rw[Cj];have u:decide ((p:Int)<(O g:Int))=I:=by simp;omega
  have Z:g.drop p=[]:=zI.2 K;have L:p=O g:=K
  obtain⟨w,H',A,B,C⟩:=eU z K (f,O g);simp only[go_sem,u,ZeZ,Ii,iG,A,Z,X3];exact⟨w,H',rfl,by rw[L];exact B,C⟩
 |succ k R =>
  intro p f j x H hk hp S z;rw[Cj];have M:p<O g:=K
  have u:decide ((p:Int)<(O g:Int))=Y:=by simp;omega
  have hw:yH.wrap ((p:Int)+1)=((p+1:Nat):Int):=by rw[Zo K K];omega
  have F:Yn .i64 (.int .u8 (g[p].toNat:Int))=X (Q J (g[p].toNat:Int)):=by
   have:=g[p].toNat_lt;simp only[Yn];rw[Zo K K]
  have T:(((g[p].toNat:Int))==sep)=(g[p]==zF sep.toNat):=by
   have:=Zy9 g[p] sep.toNat K;rw[<-this,show ((sep.toNat:Nat):Int)=sep by omega]
  simp only[go_sem,u,Zf0,ZO (zH M),F,T];rw[YU M,CV];by_cases y:g[p]=zF sep.toNat
  ·have E:(g[p]==zF sep.toNat)=Y:=by simpa using y
   obtain⟨x1,H1,A,B,C⟩:=eU z K (f,p);rw[if_pos y];simp only[E,go_sem,Ii,iG,A,hw,Ci];obtain⟨w,H',q1,q2,q3⟩:=R (p+1) (p+1) (j++[(f,p)]) x1 H1 K K (by simp;omega) B;exact⟨w,H',q1,by simpa using q2,λi c h=>q3 i c (C i c h)⟩
  ·have D:(g[p]==zF sep.toNat)=I:=by simpa using y
   simp only[D,go_sem,Ci,hw,y,if_false];exact R (p+1) f j x H K K K z
theorem ZcP {g:cz}(T:O g<=1048576)(H0:Hp):∀ (k p f:Nat) (j:List (Nat×Nat)) (x:AV) (H:Hp),O g-p=k->1<=p->(Z:p<=O g)->O j<=p ->
 Row H 2 x (j.map WJ)->∃ w H',FC (.str g) x (Q J (f:Int)) (Q J (p:Int)) H0 H=X (w,H') /\
  Row H' 2 w ((j++V7 (YG (g.getD (p-1) 0)) (g.drop p) f p).map WJ)/\(∀ (i:Nat) (c:c6),H[i]?=X (.cells c)->H'[i]?=X (.cells c)):=by
 intro k
 induction k with
 |zero =>
  intro p f j x H hk h1 Z ha B;rw[FS];have y:decide ((p:Int)<(O g:Int))=I:=by simp;omega
  have hd:g.drop p=[]:=zI.2 K;have R:p=O g:=K
  have M:decide ((0:Int)<(O g:Int))=Y:=by simp;omega
  obtain⟨w,H',C,D,E⟩:=eU B K (f,O g);simp only[go_sem,y,Cf,M,Ii,iG,C,hd,V7,Cg];exact⟨w,H',rfl,by rw[R];exact D,E⟩
 |succ k ih =>
  intro p f j x H hk h1 Z ha B;rw[FS];have N:p<O g:=K
  have A:p-1<O g:=K
  have y:decide ((p:Int)<(O g:Int))=Y:=by simp;omega
  have hw:yH.wrap ((p:Int)+1)=((p+1:Nat):Int):=by rw[Zo K K];omega
  have S:yH.wrap ((p:Int)-1)=((p-1:Nat):Int):=by rw[Zo K K];omega
  have hg:g.getD (p-1) 0=g[p-1]:=by simp[zL,A]
  have z:g.getD (p+1-1) 0=g[p]:=by simp[zL,N]
  simp only[go_sem,y,ZeY,ZO (zH N),Mk];rw[YU N,TN,hg]
  have u:∀ (q:Bool),(YG g[p]&&!YG g[p-1])=I->∃ w H',Fz (.str g) x (Q J (f:Int)) (Q J (p:Int)) H0 H=X (w,H') /\
   Row H' 2 w ((j++V7 (YG g[p]) (g.drop (p+1)) f (p+1)).map WJ)/\(∀ (i:Nat) (c:c6),H[i]?=X (.cells c)->H'[i]?=X (.cells c)):=by
   intro q hq;rw[Ch];simp only[go_sem,hw];have:=ih (p+1) f j x H K K K K B;rw[z]at this;exact this
  cases F:YG g[p] with
  |false =>
   rw[F]at u;simp only[go_sem,zN,zG,if_false];exact u Y rfl
  |true =>
   rw[F]at u;simp only[go_sem,S,ZO (zH A),Mk,zY]
   cases L:YG g[p-1] with
   |true =>
    rw[L]at u;simp only[go_sem,zK,zG,if_false];exact u Y rfl
   |false =>
    obtain⟨x1,H1,C,D,E⟩:=eU B K (f,p);simp only[go_sem,yC,if_true,Ii,iG,C,Ch,hw];obtain⟨w,H',q1,q2,q3⟩:=ih (p+1) p (j++[(f,p)]) x1 H1 K K K (by simp;omega) D;rw[z,F]at q2;exact⟨w,H',q1,by simpa using q2,λi c h=>q3 i c (E i c h)⟩
theorem Zpo {g:cz}(u:O g<=1048576)(sep:Int)(H:Hp) :
 ∃ z H',SA [.str g,Q J sep] H=X (z,H')/\Row H' 2 z ((fields g sep).map WJ)/\(∀ (i:Nat) (c:c6),H[i]?=X (.cells c)->H'[i]?=X (.cells c)):=by
 rw[Zgi];unfold nN fields;by_cases h:0<=sep/\sep<=255
 ·have y:decide ((0:Int)<=sep)=Y:=by simp[h.1]
  have A:decide (sep<=(255:Int))=Y:=by simp[h.2]
  rw[if_pos h];simp only[go_sem,y,A];have:=Zfu u h.1 h.2 H _ 0 0 [] .nils H rfl K cn (.inl ⟨rfl,rfl⟩);simpa using this
 ·rw[if_neg h]
  have w:∃ z H',L9 (.str g) .nils (Q J 0) H H=X (z,H')/\Row H' 2 z ((Ja g 0).map WJ)/\(∀ (i:Nat) (c:c6),H[i]?=X (.cells c)->H'[i]?=X (.cells c)):=by
   rw[ZeX]
   cases j:g with
   |nil =>
    rw[FS];have B:decide ((1:Int)<(([]:cz).length:Int))=I:=co
    have C:decide ((0:Int)<(([]:cz).length:Int))=I:=co
    simp only[go_sem,B,Cf,C,Cg];exact⟨_,_,rfl,.inl ⟨rfl,rfl⟩,λ_ _ h=>h⟩
   |cons x l =>
    rw[<-j];have:=ZcP u H _ 1 0 [] .nils H rfl K (by rw[j];simp) cn (.inl ⟨rfl,rfl⟩);rw[j]at this ⊢;simpa[Zbd]using this
  by_cases D:0<=sep
  ·have y:decide ((0:Int)<=sep)=Y:=by simp[D]
   have A:decide (sep<=(255:Int))=I:=by simp;omega
   simp only[go_sem,y,A];exact w
  ·have y:decide ((0:Int)<=sep)=I:=by simp;omega
   simp only[go_sem,y];exact w
theorem ZrB (c:UInt8)(L:Nat):∀ (l:cz) (f p:Nat),f<=p->p+O l=L->∀ x∈X3 c l f p,x.1<=x.2/\x.2<=L:=by
 intro l
 induction l with
 |nil=>intro f p u h x g;simp[X3]at g;subst g;simp at h;simp;omega
 |cons b l j =>
  intro f p u h x g;rw[CV]at g;simp at h;split at g
  ·rcases zZ.1 g with rfl|g
   ·simp;omega
   ·exact j (p+1) (p+1) K K x g
  ·exact j f (p+1) K K x g
theorem ZrC (L:Nat):∀ (l:cz) (q:Bool) (f p:Nat),f<=p->p+O l=L->∀ x∈V7 q l f p,x.1<=x.2/\x.2<=L:=by
 intro l
 induction l with
 |nil=>intro q f p u h x g;simp[V7]at g;subst g;simp at h;simp;omega
 |cons b l j =>
  intro q f p u h x g;rw[TN]at g;simp at h;split at g
  ·rcases zZ.1 g with rfl|g
   ·simp;omega
   ·exact j _ p (p+1) K K x g
  ·exact j _ f (p+1) K K x g
theorem Ih (g:cz)(sep:Int):∀ x∈fields g sep,x.1<=x.2/\x.2<=O g:=by
 intro x h;unfold fields at h;split at h
 ·exact ZrB _ (O g) g 0 0 (zQ _) K x h
 ·cases g with
  |nil=>simp[Ja]at h
  |cons a l=>rw[Zbd]at h;exact ZrC (a::l).length l _ 0 1 K (by simp;omega) x h
structure Ke where
 ff:Int
 fc:Int
 tf:Int
 tc:Int
 fl:Int
def Ke.cells (k:Ke):c6:=[Q J k.ff,Q J k.fc,Q J k.tf,Q J k.tc,Q J k.fl]
structure KeOk (k:Ke):Prop where
 ff:-9223372036854775808<=k.ff/\k.ff<=9223372036854775807
 fc:-9223372036854775808<=k.fc/\k.fc<=9223372036854775807
 tf:-9223372036854775808<=k.tf/\k.tf<=9223372036854775807
 tc:-9223372036854775808<=k.tc/\k.tc<=9223372036854775807
def Q9 (lo hi:Nat)(k:Ke):Nat:=lo+(min (max k.fc 1-1) ((hi:Int)-lo)).toNat
def FG (g:cz)(fs:List (Nat×Nat))(k:Ke):Nat :=
 if 0<k.tf/\k.tf<=O fs then (let p:=fs.getD (k.tf-1).toNat (0,0);if 0<k.tc then p.1+(min k.tc ((p.2:Int)-p.1)).toNat else p.2) else O g
def ex (g:cz)(fs:List (Nat×Nat))(k:Ke):cz :=
 if max k.ff 1<=O fs then
  (let p:=fs.getD (max k.ff 1-1).toNat (0,0);if FG g fs k<Q9 p.1 p.2 k then [] else (g.take (FG g fs k)).drop (Q9 p.1 p.2 k)) else []
theorem ZxY (H:Hp)(x y:AObj):List.set (H++[x]) (O H) y=H++[y]:=cn
theorem XP (H:Hp)(x:AObj):(H++[x])[O H]?=X x:=Zbe _ _ _
theorem ZT {H:Hp}{o off:Nat}{l:c6}(h:H[o]?=X (.cells l)):Z2 I 1 (.ptr o off) H=l[off]?:=by rw[Yk h];simp[Go.Am.apart]
theorem fE {g:cz}{f e:Nat}(A:f<=O g)(z:e<=O g)(j:O g<=1048576)(H0 H:Hp) :
 Wm (.str g) (Q J (f:Int)) (Q J (e:Int)) H0 H=X (.str (if e<f then [] else (g.take e).drop f),H):=by
 rw[dQ];by_cases h:e<f
 ·have c:decide ((e:Int)<(f:Int))=Y:=by simp;omega
  simp only[go_sem,c,h,if_true]
 ·have c:decide ((e:Int)<(f:Int))=I:=by simp;omega
  have u:=EM (s:=g) (n:=(f:Int)) (m:=(e:Int)) .i64 .i64 K K K;have w:((f:Int)).toNat=f:=K
  have y:((e:Int)).toNat=e:=K
  rw[w,y]at u;simp only[go_sem,c,dR,u,h,if_false]
theorem Sv {fs:List (Nat×Nat)}{i:Nat}{p:Nat×Nat}(h:fs[i]?=X p):fs.getD i (0,0)=p:=by simp[zL,h]
theorem ZaE {g:cz}(u:O g<=1048576){k:Ke}(hk:KeOk k)(sep:Int)(H:Hp) :
 ∃ H',QF [.str g,.agg k.cells,Q J sep] H=X (.str (ex g (fields g sep) k),H')/\(∀ (i:Nat) (x:AObj),H[i]?=X x->H'[i]?=X x):=by
 rw[eE];unfold LW;have E:ZF (.agg k.cells) H=X (.ptr (O H) 0,H++[.cells k.cells]):=GG rfl;have j:=XP H (.cells k.cells);obtain⟨a,b,q1,q2⟩:=Zi3 u sep (n:=max k.ff 1) K (H++[.cells k.cells]);simp only[Ke.cells]at E j q1 ⊢;simp only[E,go_sem,zC,ZT j,zA];rw[q1];simp only[go_sem,ZkP,zA,zB];have y:∀ (i:Nat) (x:AObj),H[i]?=X x->(H++[AObj.cells [Q J k.ff,Q J k.fc,Q J k.tf,Q J k.tc,Q J k.fl]])[i]?=X x:=λi x h=>Y8 h _;by_cases C:max k.ff 1<=((fields g sep).length:Int)
 ·have N:(!decide (max k.ff 1<=((fields g sep).length:Int)))=I:=by simp[C]
  have L:=q2 C;obtain⟨r1,r2⟩:=Ih g sep _ (zW L);simp only at r1 r2;simp only[N,go_sem,dP,zC,ZT j,Ke.cells,zA,zB];have aa:=hk.fc;have w1:yH.wrap (max k.fc 1-1)=max k.fc 1-1:=Zo K K;have w2:yH.wrap ((b:Int)-a)=(b:Int)-a:=Zo K K;have w3:yH.wrap ((a:Int)+min (max k.fc 1-1) ((b:Int)-a))=((Q9 a b k:Nat):Int):=by rw[Zo K K];unfold Q9;omega
  have B:Q9 a b k<=O g:=by unfold Q9;omega
  simp only[w1,w2,w3]
  have A:∀ e:Nat,e<=O g->e=FG g (fields g sep) k->ex g (fields g sep) k=(if e<Q9 a b k then [] else (g.take e).drop (Q9 a b k)):=by
   intro e _ he;subst he;unfold ex;rw[if_pos C,Sv L]
  by_cases M:0<k.tf
  ·have R:decide ((0:Int)<k.tf)=Y:=by simp[M]
   obtain⟨D,F,p1,p2⟩:=Zi3 u sep (n:=k.tf) K (H++[.cells k.cells]);simp only[Ke.cells]at p1;simp only[R,go_sem,zC,ZT j,Ke.cells,zA,zB,p1,ZkP];by_cases w:k.tf<=((fields g sep).length:Int)
   ·have S:decide (k.tf<=((fields g sep).length:Int))=Y:=by simp[w]
    have z:=p2 w;obtain⟨s1,s2⟩:=Ih g sep _ (zW z);simp only at s1 s2;simp only[S,go_sem,zC,ZT j,Ke.cells,zA,zB];have ab:=hk.tc;by_cases Z:0<k.tc
    ·have T:decide ((0:Int)<k.tc)=Y:=by simp[Z]
     have w4:yH.wrap ((F:Int)-D)=(F:Int)-D:=Zo K K;have w5:yH.wrap ((D:Int)+min k.tc ((F:Int)-D))=((D+(min k.tc ((F:Int)-D)).toNat:Nat):Int):=by rw[Zo K K];omega
     simp only[T,go_sem,zC,ZT j,Ke.cells,zA,zB,w4,w5];rw[fE B K u];rw[A (D+(min k.tc ((F:Int)-D)).toNat) K (by unfold FG;rw[if_pos ⟨M,w⟩,Sv z];simp[Z])];exact⟨_,rfl,y⟩
    ·have T:decide ((0:Int)<k.tc)=I:=by simp;omega
     simp only[T,go_sem];rw[fE B s2 u];rw[A F s2 (by unfold FG;rw[if_pos ⟨M,w⟩,Sv z];simp[Z])];exact⟨_,rfl,y⟩
   ·have S:decide (k.tf<=((fields g sep).length:Int))=I:=by simp;omega
    simp only[S,go_sem];rw[fE B (zQ _) u];rw[A (O g) (zQ _) (by unfold FG;rw[if_neg (λh=>w h.2)])];exact⟨_,rfl,y⟩
  ·have R:decide ((0:Int)<k.tf)=I:=by simp;omega
   simp only[R,go_sem];rw[fE B (zQ _) u];rw[A (O g) (zQ _) (by unfold FG;rw[if_neg (λh=>M h.1)])];exact⟨_,rfl,y⟩
 ·have N:(!decide (max k.ff 1<=((fields g sep).length:Int)))=Y:=by simp;omega
  simp only[N,go_sem];have:ex g (fields g sep) k=[]:=by unfold ex;rw[if_neg C]
  rw[this];exact⟨_,rfl,y⟩
def Sl (k:Nat)(x:AV)(l:c6):Prop:=x=.nils/\l=[]\/∃ tok,x=.vs k tok l
theorem Sl.len {k:Nat}{x:AV}{l:c6}(h:Sl k x l)(e:Nat):Zk (.slice e) x=X (Q J (O l)):=by
 rcases h with ⟨rfl,rfl⟩|⟨tok,rfl⟩ <;> rfl
theorem Sl.idx {k:Nat}{x:AV}{l:c6}(h:Sl k x l){i:Nat}{c:AV}(hi:l[i]?=X c):Zj k x (Q J (i:Int))=X (.vp c.cells):=by
 rcases h with ⟨rfl,rfl⟩|⟨tok,rfl⟩
 ·simp at hi
 ·simp[Zj,hi]
theorem Zc4 {f:AV->Option AV}:∀ {l:c6},(∀ x∈l,f x=X x)->l.mapM f=X l:=by
 intro l
 induction l with
 |nil=>intro _;rfl
 |cons a l j =>
  intro h;rw[yD,h a cn,j (λx g=>h x (by simp[g]))];rfl
theorem ZtM (H:Hp)(n f k:Nat)(tok:Tok)(l:c6):Zh H n (f+1) (.vs k tok l)=match l.mapM (Zh H n f) with
 |some l=>X (.vs k (match tok with|.own t e=>if t<n then .own t e else .no|tok=>tok) l)
 |none=>none:=de
theorem Km (H:Hp)(n f:Nat)(l:c6):Zh H n (f+1) (.agg l)=match l.mapM (Zh H n f) with
 |some l=>X (.agg l)
 |none=>none:=de
theorem Sl.close {k:Nat}{x:AV}{l:c6}(h:Sl k x l){H:Hp}{n f:Nat}(j:∀ c∈l,Zh H n f c=X c):∃ g,Zh H n (f+1) x=X g/\Sl k g l:=by
 rcases h with ⟨rfl,rfl⟩|⟨tok,rfl⟩
 ·exact⟨.nils,rfl,.inl ⟨rfl,rfl⟩⟩
 ·have e:=ZtM H n f k tok l;rw[Zc4 j]at e;exact⟨_,e,.inr ⟨_,rfl⟩⟩
def Ke.av (k:Ke):AV:=.agg k.cells
theorem Ke.close (k:Ke)(H:Hp)(n f:Nat):Zh H n (f+2) k.av=X k.av:=by
 have:k.cells.mapM (Zh H n (f+1))=X k.cells:=Zc4 λx g=>by
  simp only[Ke.cells,zZ,List.not_mem_nil,or_false]at g;rcases g with rfl|rfl|rfl|rfl|rfl <;> rfl
 rw[Ke.av,Km,this]
structure Spec where
 keys:List Ke
 sep:Int
 flags:Int
 stab:Bool
 uniq:Bool
def Spec.cells (x:AV)(p:Spec):c6:=[x,Q J p.sep,Q J p.flags,.bool p.uniq,.bool p.stab]
def SpecAV (a:AV)(p:Spec):Prop:=∃ x,a=.agg (p.cells x)/\Sl 5 x (p.keys.map Ke.av)
theorem SpecAV.close {a:AV}{p:Spec}(h:SpecAV a p)(H:Hp)(n f:Nat):∃ a',Zh H n (f+4) a=X a'/\SpecAV a' p:=by
 obtain⟨x,rfl,y⟩:=h
 obtain⟨g,j,u⟩:=y.close (H:=H) (n:=n) (f:=f+2) (λc w=>by
  obtain⟨k,_,rfl⟩:=List.mem_map.1 w;exact k.close H n f)
 refine⟨.agg (p.cells g),?_,g,rfl,u⟩
 have:(p.cells x).mapM (Zh H n (f+3))=X (p.cells g):=by
  simp only[Spec.cells,yD,j,List.mapM_nil];rfl
 rw[Km,this]
theorem XD {f:c6->Hp->Z4}{a a' v:AV}{H H1:Hp}(g:Zh [] 0 9 a=X a')(h:f [a'] []=X (v,H1))(j:GJ 3 v=Y):Ze f [a] H=X (v,H) :=
 Xi (args':=[a']) (by simp[g]) h j
theorem VT {f:c6->Hp->Z4}{a a' b b' v:AV}{H H1:Hp}(g:Zh [] 0 9 a=X a')(h:Zh [] 0 9 b=X b')(j:f [a',b'] []=X (v,H1))(u:GJ 3 v=Y):Ze f [a,b] H=X (v,H) :=
 Xi (args':=[a',b']) (by simp[g,h]) j u
def K7 (k:Ke):Bool:=decide (k.ff<1) || (decide (k.fc<1) || (decide (k.tf<0) || (decide (k.tc<0) || ((k.tf==0&&k.tc != 0) || (decide (k.fl<0) || decide (31<k.fl))))))
def ZP (p:Spec):Int :=
 if 8<O p.keys then 3 else if decide (p.sep < -1) || (decide (255<p.sep) || (p.sep==10 || (decide (p.flags<0) || decide (31<p.flags)))) then 2 else if p.keys.any K7 then 2 else 0
theorem Rm (k:Ke)(H:Hp):Z2 Y 5 (.vp k.cells) H=X (.agg k.cells):=by simp[Z2,Go.Am.apart,Ke.cells]
theorem Cz (H:Hp)(k:Ke)(z:c6)(g:O z=5):Zc 5 (.ptr (O H) 0) (.agg k.cells) (H++[.cells z])=X (.tuple [],H++[.cells k.cells]):=by
 rw[YL (sz:=5) (v:=.agg k.cells) (XP _ _) rfl rfl K];simp[yG,splice,g,Ke.cells]
theorem ZK (H:Hp)(l:c6)(off:Nat):Z2 I 1 (.ptr (O H) off) (H++[.cells l])=l[off]?:=ZT (XP H _)
theorem ZW (l:c6)(H:Hp):ZF (.agg l) H=X (.ptr (O H) 0,H++[.cells l]):=GG rfl
attribute [go_sem] ZW ZK
theorem Sl.key {x:AV}{l:List Ke}(h:Sl 5 x (l.map Ke.av)){i:Nat}{k:Ke}(hi:l[i]?=X k):Zj 5 x (Q J (i:Int))=X (.vp k.cells):=h.idx (c:=k.av) (by simp[hi])
theorem ZzR {x:AV}{l:List Ke}(h:Sl 5 x (l.map Ke.av)){i:Nat}{k:Ke}(hi:l[i]?=X k)(n t:AV)(H0 H:Hp) :
 ∃ H',FZ x n (Q J (i:Int)) t H0 H=if K7 k then X (Q J 2,H') else R0 x n (Q J (i:Int)) H0 H':=by
 rw[mI];refine⟨H++[.cells k.cells],?_⟩;have C:=XP H (.cells k.cells);simp only[h.key hi,Rm,go_sem,Cz H k [Q J 0,Q J 0,Q J 0,Q J 0,Q J 0] rfl];simp only[go_sem,zC,ZK,Ke.cells,zA,zB];unfold K7
 cases u:decide (k.ff<1) with
 |true=>simp only[go_sem,zE,if_true]
 |false =>
 simp only[go_sem,zD,zC,ZK,Ke.cells,zA,zB]
 cases w:decide (k.fc<1) with
 |true=>simp only[go_sem,zE,if_true]
 |false =>
 simp only[go_sem,zD,zC,ZK,Ke.cells,zA,zB]
 cases y:decide (k.tf<0) with
 |true=>simp only[go_sem,zE,if_true]
 |false =>
 simp only[go_sem,zD,zC,ZK,Ke.cells,zA,zB]
 cases z:decide (k.tc<0) with
 |true=>simp only[go_sem,zE,if_true]
 |false =>
 simp only[go_sem,zD,zC,ZK,Ke.cells,zA,zB];have last:∀ b:Bool,b=I->True:=λ_ _=>trivial
 cases A:(k.tf==0) with
 |true =>
  simp only[go_sem,zY,zC,ZK,Ke.cells,zA,zB]
  cases B:(k.tc != 0) with
  |true=>simp only[go_sem,zE,if_true]
  |false =>
   simp only[go_sem,zD,zC,ZK,Ke.cells,zA,zB]
   cases g:decide (k.fl<0) with
   |true=>simp only[go_sem,zE,if_true]
   |false =>
    simp only[go_sem,zD,zC,ZK,Ke.cells,zA,zB];cases j:decide (31<k.fl) <;> simp[go_sem]
 |false =>
  simp only[go_sem,zN,zD,zC,ZK,Ke.cells,zA,zB]
  cases g:decide (k.fl<0) with
  |true=>simp only[go_sem,zE,if_true]
  |false =>
   simp only[go_sem,zD,zC,ZK,Ke.cells,zA,zB];cases j:decide (31<k.fl) <;> simp[go_sem]
theorem ZzS {x:AV}{l:List Ke}(h:Sl 5 x (l.map Ke.av))(B:O l<=8)(H0:Hp):∀ (m i:Nat) (H:Hp),O l-i=m->i<=O l ->
 ∃ H',JQ x (Q J (O l:Int)) (Q J (i:Int)) H0 H=X (Q J (if (l.drop i).any K7 then 2 else 0),H'):=by
 intro m
 induction m with
 |zero =>
  intro i H y hi;rw[PC];have g:decide ((i:Int)<(O l:Int))=I:=by simp;omega
  have w:l.drop i=[]:=zI.2 K;simp only[go_sem,g,mH,w,yF];exact⟨_,rfl⟩
 |succ m z =>
  intro i H y hi;rw[PC];have j:i<O l:=K
  have g:decide ((i:Int)<(O l:Int))=Y:=by simp;omega
  have hw:yH.wrap ((i:Int)+1)=((i+1:Nat):Int):=by rw[Zo K K];omega
  obtain⟨H1,u⟩:=ZzR h (zH j) (Q J (O l:Int)) (.bool Y) H0 H;simp only[go_sem,g,u];rw[zM j,yE]
  cases A:K7 l[i] with
  |true=>simp only[if_true,zE];exact⟨_,rfl⟩
  |false =>
   simp only[zG,if_false,zD,mJ,go_sem,hw];exact z (i+1) H1 K K
theorem Zr9 {a:AV}{p:Spec}(h:SpecAV a p)(H:Hp):∃ H',Wt [a] H=X (Q J (ZP p),H'):=by
 obtain⟨x,rfl,w⟩:=h;rw[nZ];unfold As ZP;have D:=XP H (.cells (p.cells x));have g:=w.len 103;rw[zU]at g;simp only[go_sem,zC,ZK,Spec.cells,zA,zB,g];by_cases u:8<O p.keys
 ·have j:decide ((8:Int)<(O p.keys:Int))=Y:=by simp;omega
  simp only[j,go_sem,u,if_true];exact⟨_,rfl⟩
 have j:decide ((8:Int)<(O p.keys:Int))=I:=by simp;omega
 simp only[j,go_sem,u,if_false,mF,zC,ZK,Spec.cells,zA,zB]
 cases y:decide (p.sep < -1) with
 |true=>simp only[go_sem,zE,if_true];exact⟨_,rfl⟩
 |false =>
 simp only[go_sem,zD,zC,ZK,Spec.cells,zA,zB]
 cases z:decide (255<p.sep) with
 |true=>simp only[go_sem,zE,if_true];exact⟨_,rfl⟩
 |false =>
 simp only[go_sem,zD,zC,ZK,Spec.cells,zA,zB]
 cases A:(p.sep==10) with
 |true=>simp only[go_sem,zE,if_true];exact⟨_,rfl⟩
 |false =>
 simp only[go_sem,zD,zC,ZK,Spec.cells,zA,zB]
 cases B:decide (p.flags<0) with
 |true=>simp only[go_sem,zE,if_true];exact⟨_,rfl⟩
 |false =>
 simp only[go_sem,zD,zC,ZK,Spec.cells,zA,zB]
 cases C:decide (31<p.flags) with
 |true=>simp only[go_sem,if_true];exact⟨_,rfl⟩
 |false =>
 simp only[go_sem,zG,if_false,mG,zC,ZK,Spec.cells,zA,zB,g];have:=ZzS w K H (O p.keys) 0 (H++[.cells (p.cells x)]) K K;simpa[Spec.cells]using this
theorem EN {a:AV}{p:Spec}(h:SpecAV a p)(H:Hp):Ze Wt [a] H=X (Q J (ZP p),H):=by
 obtain⟨a',g,j⟩:=h.close [] 0 5;obtain⟨H',u⟩:=Zr9 j [];exact XD g u rfl
theorem Zsy (k:Ke)(H:Hp):∃ H',NF [k.av] H=X (.bool (!K7 k),H'):=by
 rw[Zjl];unfold Zdh Ke.av;simp only[go_sem,zC,Ke.cells,zA,zB];unfold K7
 have j:∀ b:Bool,b=(decide (k.fl<0) || decide (31<k.fl))->∃ H',Cn (.ptr (O H) 0) H (H++[.cells [Q J k.ff,Q J k.fc,Q J k.tf,Q J k.tc,Q J k.fl]])=X (.bool (!b),H'):=by
  intro b h;rw[Zh6];simp only[go_sem,zC,zA,zB]
  cases g:decide (k.fl<0) with
  |true =>
   have:decide (0<=k.fl)=I:=by simp at g ⊢;omega
   simp only[this,go_sem];rw[h,g];exact⟨_,rfl⟩
  |false =>
   have:decide (0<=k.fl)=Y:=by simp at g ⊢;omega
   simp only[this,go_sem,zC,zA,zB];have e:decide (k.fl<=31)=!decide (31<k.fl):=by rw[zT];simp
   rw[h,g,e];exact⟨_,rfl⟩
 cases u:decide (k.ff<1) with
 |true=>simp only[go_sem,zE,zK];exact⟨_,rfl⟩
 |false =>
 simp only[go_sem,zD,zC,Ke.cells,zA,zB]
 cases w:decide (k.fc<1) with
 |true=>simp only[go_sem,zE,zK];exact⟨_,rfl⟩
 |false =>
 simp only[go_sem,zD,zC,Ke.cells,zA,zB]
 cases y:decide (k.tf<0) with
 |true=>simp only[go_sem,zE,zK];exact⟨_,rfl⟩
 |false =>
 simp only[go_sem,zD,zC,Ke.cells,zA,zB]
 cases z:decide (k.tc<0) with
 |true=>simp only[go_sem,zE,zK];exact⟨_,rfl⟩
 |false =>
 simp only[go_sem,zD,zC,Ke.cells,zA,zB]
 cases A:(k.tf==0) with
 |true =>
  simp only[go_sem,zY,zC,Ke.cells,zA,zB]
  cases B:(k.tc != 0) with
  |true=>simp only[go_sem,zE,zK];exact⟨_,rfl⟩
  |false=>simp only[go_sem,zD];exact j _ rfl
 |false=>simp only[go_sem,zN,zD];exact j _ rfl
theorem Zsx (k:Ke)(H:Hp):Ze NF [k.av] H=X (.bool (!K7 k),H):=by
 obtain⟨H',g⟩:=Zsy k [];exact XD (k.close [] 0 7) g rfl
theorem Zzk {x:AV}{l:List Ke}(h:Sl 5 x (l.map Ke.av))(D:O l<=8)(H0:Hp){o:Nat}{r:c6}{H:Hp}(w:H[o]?=X (.cells (x::r))):∀ (m i:Nat),O l-i=m->i<=O l ->
 Ta (.ptr o 0) (Q J (i:Int)) H0 H=X (Q J (if (l.drop i).any K7 then 2 else 0),H):=by
 have g:=h.len 103;rw[zU]at g;intro m
 induction m with
 |zero =>
  intro i A hi;rw[AF];have j:decide ((i:Int)<(O l:Int))=I:=by simp;omega
  have z:l.drop i=[]:=zI.2 K;simp only[go_sem,zC,ZT w,zA,g,j,ZgY,z,yF];rfl
 |succ m B =>
  intro i A hi;rw[AF];have u:i<O l:=K
  have j:decide ((i:Int)<(O l:Int))=Y:=by simp;omega
  have hw:yH.wrap ((i:Int)+1)=((i+1:Nat):Int):=by rw[Zo K K];omega
  have y:=Zsx l[i] H;unfold Ke.av at y;simp only[go_sem,zC,ZT w,zA,g,j,ZgZ,h.key (zH u),Rm,y,Bool.not_not];rw[zM u,yE]
  cases C:K7 l[i] with
  |true=>simp only[go_sem,if_true,zE]
  |false =>
   simp only[go_sem,zD,Zh0,hw];exact B (i+1) K K
theorem ZpL {a:AV}{p:Spec}(h:SpecAV a p)(H:Hp):∃ H',Qp [a] H=X (Q J (ZP p),H'):=by
 obtain⟨x,rfl,w⟩:=h;rw[Zjg];unfold Zdc ZP;have g:=w.len 103;rw[zU]at g;simp only[go_sem,zC,Spec.cells,zA,zB,g];by_cases u:8<O p.keys
 ·have j:decide ((8:Int)<(O p.keys:Int))=Y:=by simp;omega
  simp only[j,go_sem,u,if_true];exact⟨_,rfl⟩
 have j:decide ((8:Int)<(O p.keys:Int))=I:=by simp;omega
 simp only[j,go_sem,u,if_false,ZgW,zC,Spec.cells,zA,zB]
 cases y:decide (p.sep < -1) with
 |true=>simp only[go_sem,zE,if_true];exact⟨_,rfl⟩
 |false =>
 simp only[go_sem,zD,zC,Spec.cells,zA,zB]
 cases z:decide (255<p.sep) with
 |true=>simp only[go_sem,zE,if_true];exact⟨_,rfl⟩
 |false =>
 simp only[go_sem,zD,zC,Spec.cells,zA,zB]
 cases A:(p.sep==10) with
 |true=>simp only[go_sem,zE,if_true];exact⟨_,rfl⟩
 |false =>
 simp only[go_sem,zD,zC,Spec.cells,zA,zB]
 cases B:decide (p.flags<0) with
 |true=>simp only[go_sem,zE,if_true];exact⟨_,rfl⟩
 |false =>
 simp only[go_sem,zD,zC,Spec.cells,zA,zB]
 cases C:decide (31<p.flags) with
 |true=>simp only[go_sem,if_true];exact⟨_,rfl⟩
 |false =>
 simp only[go_sem,zG,if_false,ZgX];have:=Zzk w K H (XP H (.cells [x,Q J p.sep,Q J p.flags,.bool p.uniq,.bool p.stab])) (O p.keys) 0 K K;rw[show ((0:Nat):Int)=0 from rfl,zP]at this;exact⟨_,this⟩
theorem Ml {a:AV}{p:Spec}(h:SpecAV a p)(H:Hp):Ze Qp [a] H=X (Q J (ZP p),H):=by
 obtain⟨a',g,j⟩:=h.close [] 0 5;obtain⟨H',u⟩:=ZpL j [];exact XD g u rfl
end Go.Am
namespace Go.Am
open Go.Proofs
def RowN (n:Nat)(H:Hp)(k:Nat)(x:AV)(l:c6):Prop:=x=.nils/\l=[]\/∃ t e,x=.vs k (.own t e) l/\H[t]?=X (.tok e)/\n<=t
def Keep (n:Nat)(H H':Hp):Prop:=∀ i,i<n->H'[i]?=H[i]?
theorem Keep.refl (n:Nat)(H:Hp):Keep n H H:=λ_ _=>rfl
theorem Keep.trans {n:Nat}{A B C:Hp}(h:Keep n A B)(k:Keep n B C):Keep n A C:=λi hi=>(k i hi).trans (h i hi)
theorem Keep.push {n:Nat}(H:Hp)(g:n<=O H)(l:List AObj):Keep n H (H++l):=λi hi=>List.getElem?_append_left K
theorem RowN.nil (n:Nat)(H:Hp)(k:Nat):RowN n H k .nils []:=.inl ⟨rfl,rfl⟩
theorem RowN.sl {n:Nat}{H:Hp}{k:Nat}{x:AV}{l:c6}(h:RowN n H k x l):Sl k x l:=h.imp id λ⟨t,e,a,_⟩=>⟨_,a⟩
theorem RowN.push {n:Nat}{H:Hp}{k:Nat}{x:AV}{l:c6}(h:RowN n H k x l)(r:List AObj):RowN n (H++r) k x l:=h.imp id λ⟨t,e,a,b,c⟩=>⟨t,e,a,Y8 b _,c⟩
theorem RowN.app {n:Nat}{H:Hp}{k:Nat}{x:AV}{l:c6}(h:RowN n H k x l)(z:n<=O H)(bytes:Nat)(y:AV)(j:c6)(E:elems k y H=X j)(B:(O l+O j)*(bytes+1)<=140737488355328) :
 ∃ C H',ZR k bytes x y H=X (C,H')/\RowN n H' k C (l++j)/\n<=O H'/\Keep n H H'/\(∀ (i:Nat) (c:c6),H[i]?=X (.cells c)->H'[i]?=X (.cells c)):=by
 unfold ZR;simp only[E];rcases h with ⟨rfl,rfl⟩|⟨t,e,rfl,A,w⟩
 ·by_cases u:j=[]
  ·subst u;exact⟨.nils,H,by simp[Ys],.inl ⟨rfl,rfl⟩,z,Keep.refl _ _,λ_ _ h=>h⟩
  ·have g:YB (O j) bytes=Y:=by simpa[YB]using B
   exact⟨.vs k (.own (O H) (O j)) j,H++[.tok (O j)],by simp only[Ys,u,if_false,g,if_true],.inr ⟨O H,O j,rfl,cn,z⟩,by simp;omega,Keep.push H z _,λi c h=>Y8 h _⟩
 ·have g:YB (O l+O j) bytes=Y:=by simpa[YB]using B
  by_cases u:j=[]
  ·subst u;exact⟨.vs k (.own t e) l,H,by simp only[Ys,List.length_nil,zS]at g ⊢;simp only[g,and_self,if_true],.inr ⟨t,e,cn,A,w⟩,z,Keep.refl _ _,λ_ _ h=>h⟩
  ·refine⟨_,_,by simp only[Ys,g,and_self,if_true,u,if_false,A],.inr ⟨t,e+O j,rfl,Zs _ A,w⟩,by simp;omega,λi hi=>List.getElem?_set_ne K,λi c h=>?_⟩;refine Y2 _ (λD=>?_) h;subst D;rw[A]at h;cases h
theorem ZvE {H0 H:Hp}(h:Keep (O H0) H0 H)(g:O H0<=O H):H.take (O H0)=H0:=by
 apply List.ext_getElem?;intro i;by_cases hi:i<O H0
 ·rw[List.getElem?_take_of_lt hi];exact h i hi
 ·rw[zV (by simp;omega),zV K]
theorem ZuB {H0 H:Hp}(h:Keep (O H0) H0 H)(y:O H0<=O H){k:Nat}{x:AV}{l:c6}(z:Sl k x l)(w:∀ c∈l,Zh H (O H0) 8 c=X c):∃ g,cO H0 x H=X (g,H0)/\Sl k g l:=by
 obtain⟨g,j,u⟩:=z.close (H:=H) (n:=O H0) (f:=8) w;refine⟨g,?_,u⟩;unfold cO;rw[if_pos (ZvE h y),j]
def ZtF (n j:Nat):Bool:=match Z3 .and (Q J n) (Q J ((2 ^ j:Nat):Int)) with
 |some (Q J m)=>m==(if n.testBit j then ((2 ^ j:Nat):Int) else 0)
 |_=>I
theorem Zra:((zR 32).all λn=>(zR 5).all λj=>ZtF n j)=Y:=df
theorem Wi {n:Nat}{p:Nat->Bool}(h:(zR n).all p=Y){i:Nat}(hi:i<n):p i=Y:=List.all_eq_true.1 h i (List.mem_range.2 hi)
theorem Zaj {n j:Nat}(w:n<32)(g:j<5):Z3 .and (Q J n) (Q J ((2 ^ j:Nat):Int))=X (Q J (if n.testBit j then ((2 ^ j:Nat):Int) else 0)):=by
 have h:=Wi (Wi Zra w) g;unfold ZtF at h;split at h
 ·rename_i m u;rw[u];have:m=(if n.testBit j then ((2 ^ j:Nat):Int) else 0):=by simpa using h
  rw[this]
 ·cases h
noncomputable def ZtG (n j:Nat):Bool:=match ZkT (Q J n) (Q J ((2 ^ j:Nat):Int)) [] with
 |some (.bool b,[])=>b==n.testBit j
 |_=>I
theorem Zrb:((zR 32).all λn=>(zR 5).all λj=>ZtG n j)=Y:=df
theorem Zbf {n j:Nat}(w:n<32)(u:j<5)(H:Hp):Ze Wf [Q J n,Q J ((2 ^ j:Nat):Int)] H=X (.bool (n.testBit j),H):=by
 have h:=Wi (Wi Zrb w) u;unfold ZtG at h;split at h
 ·rename_i b g;have:b=n.testBit j:=by simpa using h
  subst this;exact VT (a':=Q J n) (b':=Q J ((2 ^ j:Nat):Int)) rfl rfl ((ZmG _ _ _).trans g) rfl
 ·cases h
end Go.Am
