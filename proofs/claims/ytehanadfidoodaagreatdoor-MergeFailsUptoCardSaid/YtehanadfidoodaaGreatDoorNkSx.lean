/-
  The fields of a line, and the part of it that a key tells.
-/
import Derived.Test.YtehanadfidoodaaGreatDoorNkGx
import Derived.Test.YtehanadfidoodaaGreatDoorEmSx
namespace Go.Am
set_option linter.unusedSimpArgs false
set_option linter.unusedVariables false
theorem Zry (b:UInt8)(n:Nat)(h:n<256):(((b.toNat:Int))==(n:Int))=(b==UInt8.ofNat n):=by
 rw[Bool.eq_iff_iff]
 simp only[beq_iff_eq]
 constructor
 ·intro e
  have:b.toNat=n:=by omega
  rw[←this];simp
 ·intro e
  subst e
  simp;omega
def YX (b:UInt8):Bool:=b==32 || b==9
theorem NK (b:UInt8):(((b.toNat:Int))==32)=(b==32)∧(((b.toNat:Int))==9)=(b==9):=⟨Zry b 32 (by decide),Zry b 9 (by decide)⟩
theorem En (b:UInt8)(H:Hp):Ws [.int .u8 b.toNat] H=some (.bool (YX b),H):=by
 rw[Hl]
 unfold Ny YX
 simp only[go_sem,(NK b).1]
 cases (b==32) <;> simp[go_sem,(NK b).2]
theorem ZcD (s:List UInt8)(n:Int)(H:Hp):QH [.str s,.int .u8 n] H=some (.int .i64 (Qu (UInt8.ofNat n.toNat) s 0),H):=by
 rw[Mp]
 unfold Di
 rw[Jy]
 unfold V4
 simp only[go_sem]
def YQ (c:UInt8):List UInt8→Nat→Nat→List (Nat×Nat)
 |[],f,p=>[(f,p)]
 |b::l,f,p=>if b=c then (f,p)::YQ c l (p+1) (p+1) else YQ c l f (p+1)
theorem Ag (c b:UInt8)(l:List UInt8)(f p:Nat):YQ c (b::l) f p=if b=c then (f,p)::YQ c l (p+1) (p+1) else YQ c l f (p+1):=(Eq.refl _).trans (Eq.refl _)
theorem ZgM (c b:UInt8)(l:List UInt8)(k:Nat):Qu c (b::l) k=if b=c then (k:Int) else Qu c l (k+1):=(Eq.refl _).trans (Eq.refl _)
theorem ZgF (c:UInt8):∀ (l:List UInt8) (f p k:Nat),
 (Qu c l k=-1∧YQ c l f p=[(f,p+l.length)])∨∃ e,e<l.length∧Qu c l k=((k+e:Nat):Int)∧YQ c l f p=(f,p+e)::YQ c (l.drop (e+1)) (p+e+1) (p+e+1):=by
 intro l
 induction l with
 |nil=>intro f p k;exact .inl ⟨rfl,rfl⟩
 |cons b l ih =>
  intro f p k
  rw[ZgM,Ag]
  by_cases h:b=c
  ·exact .inr ⟨0,by simp,by simp[h],by simp[h]⟩
  ·simp only[h,if_false]
   rcases ih f (p+1) (k+1) with ⟨h1,h2⟩|⟨e,h0,h1,h2⟩
   ·exact .inl ⟨h1,by rw[h2];simp[Nat.add_comm,Nat.add_left_comm]⟩
   ·refine .inr ⟨e+1,by simp;omega,by rw[h1];congr 1;omega,?_⟩
    rw[h2,List.drop_succ_cons]
    simp only[show p+1+e=p+(e+1) by omega]
def ZcR (a b:Nat)(ok:Bool):AV:=.tuple [.int .i64 a,.int .i64 b,.bool ok]
theorem Zbf {line:List UInt8}(hlen:line.length≤1048576){sep:Int}(h0:0≤sep)(h1:sep≤255){n:Int}(H0 H:Hp):∀ (k f i:Nat),line.length+1-f=k→f≤line.length→i≤f+1→(i:Int)≤n →
 ∃ a b,Qo (.str line) (.int .i64 n) (.int .i64 sep) (.int .i64 (f:Int)) (.int .i64 (i:Int)) H0 H =
  some (ZcR a b (decide (n<i+(YQ (UInt8.ofNat sep.toNat) (line.drop f) f f).length)),H) ∧
  (n<i+(YQ (UInt8.ofNat sep.toNat) (line.drop f) f f).length→(YQ (UInt8.ofNat sep.toNat) (line.drop f) f f)[(n-i).toNat]?=some (a,b)):=by
 intro k
 induction k using Nat.strongRecOn with
 |_ k ih =>
  intro f i hk hf hi hn
  rw[CJ]
  have hsl:=Em (s:=line) (n:=(f:Int)) .i64 (by omega) (by omega)
  have hft:((f:Int)).toNat=f:=by omega
  rw[hft]at hsl
  have hcv:YK .u8 (.int .i64 sep)=some (.int .u8 sep):=by
   have:IntKind.u8.wrap sep=sep:=by
    unfold IntKind.wrap
    have e1:(2 ^ IntKind.u8.bits:Int)=256:=by decide
    have e3:IntKind.u8.signed=false:=rfl
    simp only[e1,e3,Bool.false_and,Bool.false_eq_true,if_false]
    omega
   simp[YK,this]
  simp only[hsl,go_sem,hcv,ZcD]
  rcases ZgF (UInt8.ofNat sep.toNat) (line.drop f) f f 0 with ⟨g1,g2⟩|⟨e,g0,g1,g2⟩
  ·have hneg:decide (Qu (UInt8.ofNat sep.toNat) (line.drop f) 0<0)=true:=by rw[g1];decide
   simp only[hneg,go_sem]
   rw[g2]
   refine⟨f,line.length,?_,fun h=>?_⟩
   ·have:((i:Int)==n)=decide (n<(i:Int)+([(f,f+(line.drop f).length)]:List (Nat×Nat)).length):=by
     rw[Bool.eq_iff_iff];simp;omega
    rw[this];rfl
   ·have hni:n=i:=by simp at h;omega
    subst hni
    simp;omega
  ·have hneg:decide (Qu (UInt8.ofNat sep.toNat) (line.drop f) 0<0)=false:=by rw[g1];simp
   simp only[hneg,go_sem,Sg]
   rw[g1,g2]
   simp only[List.length_drop]at g0
   by_cases hni:(i:Int)=n
   ·have hb:((i:Int)==n)=true:=by simp[hni]
    have hw:IntKind.i64.wrap ((f:Int)+((0+e:Nat):Int))=((f+e:Nat):Int):=by rw[Zr (by omega) (by omega)];omega
    simp only[hb,go_sem,hw]
    refine⟨f,f+e,?_,fun _=>by simp[←hni]⟩
    have:(true:Bool)=decide (n<(i:Int)+((f,f+e)::YQ (UInt8.ofNat sep.toNat) ((line.drop f).drop (e+1)) (f+e+1) (f+e+1)).length):=by
     symm;simp;omega
    rw[←this];rfl
   ·have hb:((i:Int)==n)=false:=by simp[hni]
    have hw1:IntKind.i64.wrap (((0+e:Nat):Int)+1)=((e+1:Nat):Int):=by rw[Zr (by omega) (by omega)];omega
    have hw2:IntKind.i64.wrap ((f:Int)+((e+1:Nat):Int))=((f+e+1:Nat):Int):=by rw[Zr (by omega) (by omega)];omega
    have hw3:IntKind.i64.wrap ((i:Int)+1)=((i+1:Nat):Int):=by rw[Zr (by omega) (by omega)];omega
    simp only[hb,go_sem,Sh,hw1,hw2,Sf,hw3]
    obtain⟨a,b,q1,q2⟩:=ih (line.length+1-(f+e+1)) (by omega) (f+e+1) (i+1) rfl (by omega) (by omega) (by omega)
    rw[List.drop_drop,show f+(e+1)=f+e+1 by omega]
    refine⟨a,b,?_,fun h=>?_⟩
    ·rw[q1]
     have:decide (n<((i+1:Nat):Int)+(YQ (UInt8.ofNat sep.toNat) (line.drop (f+e+1)) (f+e+1) (f+e+1)).length) =
      decide (n<(i:Int)+((f,f+e)::YQ (UInt8.ofNat sep.toNat) (line.drop (f+e+1)) (f+e+1) (f+e+1)).length):=by
      congr 1;simp;constructor <;> intro h <;> omega
     rw[this]
    ·have hh:n<((i+1:Nat):Int)+(YQ (UInt8.ofNat sep.toNat) (line.drop (f+e+1)) (f+e+1) (f+e+1)).length:=by simp at h ⊢;omega
     have:=q2 hh
     rw[show (n-(i:Int)).toNat=(n-((i+1:Nat):Int)).toNat+1 by omega]
     simpa using this
def Yf (l:List UInt8):Nat:=(l.takeWhile YX).length
def Xj (l:List UInt8):Nat:=(l.takeWhile fun b=>!YX b).length
theorem Zdz:Yf []=0:=rfl
theorem AO:Xj []=0:=rfl
theorem WP (b:UInt8)(l:List UInt8):Yf (b::l)=if YX b then Yf l+1 else 0:=by
 unfold Yf;rw[List.takeWhile_cons];split <;> simp
theorem JT (b:UInt8)(l:List UInt8):Xj (b::l)=if YX b then 0 else Xj l+1:=by
 unfold Xj;rw[List.takeWhile_cons];cases YX b <;> simp
theorem Zaa (l:List UInt8):Yf l≤l.length:=by
 induction l with
 |nil=>simp[Zdz]
 |cons b l ih=>rw[WP];split <;> simp;exact ih
theorem ZoG (l:List UInt8):Xj l≤l.length:=by
 induction l with
 |nil=>simp[AO]
 |cons b l ih=>rw[JT];split <;> simp;exact ih
def VA:Bool→List UInt8→Nat→Nat→List (Nat×Nat)
 |_,[],f,p=>[(f,p)]
 |q,b::l,f,p=>if YX b&&!q then (f,p)::VA (YX b) l p (p+1) else VA (YX b) l f (p+1)
theorem Ps (q:Bool)(b:UInt8)(l:List UInt8)(f p:Nat):VA q (b::l) f p=if YX b&&!q then (f,p)::VA (YX b) l p (p+1) else VA (YX b) l f (p+1):=(Eq.refl _).trans (Eq.refl _)
def Q7:List UInt8→Nat→List (Nat×Nat)
 |[],_=>[]
 |x::l,f=>VA (YX x) l f (f+1)
theorem Zdc (x:UInt8)(l:List UInt8)(f:Nat):Q7 (x::l) f=VA (YX x) l f (f+1):=(Eq.refl _).trans (Eq.refl _)
theorem Zd6:∀ (l:List UInt8) (f p:Nat),VA false l f p=(f,p+Xj l)::Q7 (l.drop (Xj l)) (p+Xj l):=by
 intro l
 induction l with
 |nil=>intro f p;rfl
 |cons b l ih =>
  intro f p
  rw[Ps,JT]
  cases hb:YX b with
  |true=>simp[Q7,hb]
  |false =>
   simp only[Bool.false_and,Bool.false_eq_true,if_false]
   rw[ih]
   simp only[List.drop_succ_cons,show p+1+Xj l=p+(Xj l+1) by omega]
theorem ZkW:∀ (l:List UInt8) (f p:Nat),VA true l f p=match l.drop (Yf l) with
 |[]=>[(f,p+Yf l)]
 |m::l'=>VA false l' f (p+Yf l+1):=by
 intro l
 induction l with
 |nil=>intro f p;rfl
 |cons b l ih =>
  intro f p
  rw[Ps,WP]
  cases hb:YX b with
  |true =>
   simp only[Bool.not_true,Bool.and_false,Bool.false_eq_true,if_false,if_true,List.drop_succ_cons]
   rw[ih]
   simp only[show p+1+Yf l=p+(Yf l+1) by omega]
  |false=>simp
def V7 (l:List UInt8):Nat:=Yf l+Xj (l.drop (Yf l))
theorem ZkM (l:List UInt8){m:UInt8}{l':List UInt8}(h:l.drop (Yf l)=m::l'):YX m=false:=by
 induction l with
 |nil=>simp at h
 |cons b l ih =>
  rw[WP]at h
  cases hb:YX b with
  |true=>simp[hb]at h;exact ih h
  |false=>simp[hb]at h;rw[←h.1];exact hb
theorem Zl7 (l:List UInt8)(f:Nat)(h:0<l.length):Q7 l f=(f,f+V7 l)::Q7 (l.drop (V7 l)) (f+V7 l):=by
 cases l with
 |nil=>simp at h
 |cons x l =>
  rw[Zdc]
  unfold V7
  rw[WP]
  cases hx:YX x with
  |false =>
   simp only[Bool.false_eq_true,if_false,List.drop_zero,Nat.zero_add,JT,hx,List.drop_succ_cons]
   rw[Zd6]
   simp only[show f+1+Xj l=f+(Xj l+1) by omega]
  |true =>
   simp only[if_true]
   rw[ZkW]
   simp only[List.drop_succ_cons]
   cases hd:l.drop (Yf l) with
   |nil =>
    have hlen:Yf l=l.length:=by
     have:=List.drop_eq_nil_iff.1 hd
     have:=Zaa l
     omega
    simp only[AO,Nat.add_zero]
    have:(x::l).drop (Yf l+1)=[]:=by simp[hd]
    rw[this]
    simp[show f+1+Yf l=f+(Yf l+1) by omega,Q7]
   |cons m l' =>
    have hm:=ZkM l hd
    simp only[JT,hm,Bool.false_eq_true,if_false]
    rw[Zd6]
    have e1:(x::l).drop (Yf l+1+(Xj l'+1))=l'.drop (Xj l'):=by
     have:(x::l).drop (Yf l+1+(Xj l'+1))=(m::l').drop (Xj l'+1):=by
      rw[←hd,List.drop_drop,show Yf l+1+(Xj l'+1)=(Yf l+(Xj l'+1))+1 by omega,List.drop_succ_cons]
     rw[this,List.drop_succ_cons]
    rw[e1]
    simp only[show f+1+Yf l+1+Xj l'=f+(Yf l+1+(Xj l'+1)) by omega]
theorem Zny (l:List UInt8)(h:0<l.length):0<V7 l:=by
 cases l with
 |nil=>simp at h
 |cons x l =>
  unfold V7
  rw[WP]
  cases hx:YX x with
  |true=>simp;omega
  |false=>simp[JT,hx]
theorem ZpJ (l:List UInt8):V7 l≤l.length:=by
 unfold V7
 have h1:=Zaa l
 have h2:=ZoG (l.drop (Yf l))
 simp at h2
 omega
theorem ZU {s:List UInt8}{i:Nat}{b:UInt8}(h:s[i]?=some b):Zu (.str s) (.int .i64 (i:Int))=some (.int .u8 b.toNat):=by simp[Zu,h]
theorem VO {s:List UInt8}{i:Nat}(h:i<s.length):s.drop i=s[i]::s.drop (i+1):=List.drop_eq_getElem_cons h
theorem Zpc {line:List UInt8}(hlen:line.length≤1048576)(n f i:AV)(H0 H:Hp):∀ (k p:Nat),line.length-p=k→p≤line.length →
 Qn (.str line) n f (.int .i64 (p:Int)) i H0 H=GL (.str line) n f (.int .i64 ((p+Yf (line.drop p):Nat):Int)) i H0 H:=by
 intro k
 induction k with
 |zero =>
  intro p hk hp
  rw[Dz]
  have hlt:decide ((p:Int)<(line.length:Int))=false:=by simp;omega
  have hd:line.drop p=[]:=List.drop_eq_nil_iff.2 (by omega)
  simp only[go_sem,hlt,hd,Zdz,Nat.add_zero]
 |succ k ih =>
  intro p hk hp
  rw[Dz]
  have hlt:decide ((p:Int)<(line.length:Int))=true:=by simp;omega
  have hl:p<line.length:=by omega
  have hw:IntKind.i64.wrap ((p:Int)+1)=((p+1:Nat):Int):=by rw[Zr (by omega) (by omega)];omega
  simp only[go_sem,hlt,ZU (List.getElem?_eq_getElem hl),En]
  rw[VO hl,WP]
  cases hb:YX line[p] with
  |true =>
   simp only[go_sem,CH,hw,if_true]
   rw[ih (p+1) (by omega) (by omega),show p+1+Yf (line.drop (p+1))=p+(Yf (line.drop (p+1))+1) by omega]
  |false=>simp[go_sem]
theorem Zpb {line:List UInt8}(hlen:line.length≤1048576)(n f i:AV)(H0 H:Hp):∀ (k p:Nat),line.length-p=k→p≤line.length →
 Qm (.str line) n f (.int .i64 (p:Int)) i H0 H=GM (.str line) n f (.int .i64 ((p+Xj (line.drop p):Nat):Int)) i H0 H:=by
 intro k
 induction k with
 |zero =>
  intro p hk hp
  rw[Dy]
  have hlt:decide ((p:Int)<(line.length:Int))=false:=by simp;omega
  have hd:line.drop p=[]:=List.drop_eq_nil_iff.2 (by omega)
  simp only[go_sem,hlt,hd,AO,Nat.add_zero]
 |succ k ih =>
  intro p hk hp
  rw[Dy]
  have hlt:decide ((p:Int)<(line.length:Int))=true:=by simp;omega
  have hl:p<line.length:=by omega
  have hw:IntKind.i64.wrap ((p:Int)+1)=((p+1:Nat):Int):=by rw[Zr (by omega) (by omega)];omega
  simp only[go_sem,hlt,ZU (List.getElem?_eq_getElem hl),En]
  rw[VO hl,JT]
  cases hb:YX line[p] with
  |false =>
   simp only[Bool.not_false,go_sem,CG,hw,Bool.false_eq_true,if_false]
   rw[ih (p+1) (by omega) (by omega),show p+1+Xj (line.drop (p+1))=p+(Xj (line.drop (p+1))+1) by omega]
  |true=>simp[go_sem]
theorem OL {line:List UInt8}(hlen:line.length≤1048576){n:Int}(H0 H:Hp):∀ (k f i:Nat),line.length-f=k→f≤line.length→i≤f+1→(i:Int)≤n →
 ∃ a b,Ql (.str line) (.int .i64 n) (.int .i64 (f:Int)) (.int .i64 (i:Int)) H0 H=some (ZcR a b (decide (n<i+(Q7 (line.drop f) f).length)),H) ∧
  (n<i+(Q7 (line.drop f) f).length→(Q7 (line.drop f) f)[(n-i).toNat]?=some (a,b)):=by
 intro k
 induction k using Nat.strongRecOn with
 |_ k ih =>
  intro f i hk hf hi hn
  rw[CI]
  by_cases hfl:f<line.length
  ·have hlt:decide ((f:Int)<(line.length:Int))=true:=by simp;omega
   have hdl:0<(line.drop f).length:=by simp;omega
   simp only[go_sem,hlt,CB]
   rw[Zpc hlen _ _ _ _ _ _ f rfl (by omega),CD]
   have hsb:=Zaa (line.drop f)
   have hse:=ZpJ (line.drop f)
   have hsp:=Zny (line.drop f) hdl
   simp only[List.length_drop]at hsb hse
   rw[Zpb hlen _ _ _ _ _ _ (f+Yf (line.drop f)) rfl (by omega),CE]
   have he:f+Yf (line.drop f)+Xj (line.drop (f+Yf (line.drop f)))=f+V7 (line.drop f):=by
    unfold V7;rw[List.drop_drop];omega
   rw[he,Zl7 _ _ hdl,List.drop_drop]
   by_cases hni:(i:Int)=n
   ·have hb:((i:Int)==n)=true:=by simp[hni]
    simp only[hb,go_sem]
    refine⟨f,f+V7 (line.drop f),?_,fun _=>by simp[←hni]⟩
    have:(true:Bool)=decide (n<(i:Int)+((f,f+V7 (line.drop f))::Q7 (line.drop (f+V7 (line.drop f))) (f+V7 (line.drop f))).length):=by
     symm;simp;omega
    rw[←this];rfl
   ·have hb:((i:Int)==n)=false:=by simp[hni]
    have hw3:IntKind.i64.wrap ((i:Int)+1)=((i+1:Nat):Int):=by rw[Zr (by omega) (by omega)];omega
    simp only[hb,go_sem,CF,CC,hw3]
    obtain⟨a,b,q1,q2⟩:=ih (line.length-(f+V7 (line.drop f))) (by omega) (f+V7 (line.drop f)) (i+1) rfl (by omega) (by omega) (by omega)
    refine⟨a,b,?_,fun h=>?_⟩
    ·rw[q1]
     have:decide (n<((i+1:Nat):Int)+(Q7 (line.drop (f+V7 (line.drop f))) (f+V7 (line.drop f))).length) =
      decide (n<(i:Int)+((f,f+V7 (line.drop f))::Q7 (line.drop (f+V7 (line.drop f))) (f+V7 (line.drop f))).length):=by
      congr 1;simp;constructor <;> intro h <;> omega
     rw[this]
    ·have hh:n<((i+1:Nat):Int)+(Q7 (line.drop (f+V7 (line.drop f))) (f+V7 (line.drop f))).length:=by simp at h ⊢;omega
     have:=q2 hh
     rw[show (n-(i:Int)).toNat=(n-((i+1:Nat):Int)).toNat+1 by omega]
     simpa using this
  ·have hlt:decide ((f:Int)<(line.length:Int))=false:=by simp;omega
   have hd:line.drop f=[]:=List.drop_eq_nil_iff.2 (by omega)
   simp only[go_sem,hlt,CA,hd,Q7]
   refine⟨0,0,?_,fun h=>by simp at h;omega⟩
   have:decide (n<(i:Int)+([]:List (Nat×Nat)).length)=false:=by simp;omega
   rw[this];rfl
def fields (line:List UInt8)(sep:Int):List (Nat×Nat):=if 0≤sep∧sep≤255 then YQ (UInt8.ofNat sep.toNat) line 0 0 else Q7 line 0
theorem Zbg {line:List UInt8}(hlen:line.length≤1048576)(sep:Int){n:Int}(hn:1≤n)(H:Hp) :
 ∃ a b,QN [.str line,.int .i64 n,.int .i64 sep] H=some (ZcR a b (decide (n≤(fields line sep).length)),H) ∧
  (n≤(fields line sep).length→(fields line sep)[(n-1).toNat]?=some (a,b)):=by
 rw[Hm]
 unfold Nz fields
 by_cases h:0≤sep∧sep≤255
 ·have c1:decide ((0:Int)≤sep)=true:=by simp[h.1]
  have c2:decide (sep≤(255:Int))=true:=by simp[h.2]
  rw[if_pos h]
  simp only[go_sem,c1,c2]
  obtain⟨a,b,q1,q2⟩:=Zbf hlen h.1 h.2 (n:=n) H H _ 0 1 rfl (by omega) (by omega) (by omega)
  simp only[List.drop_zero]at q1 q2
  refine⟨a,b,?_,fun h=>q2 (by omega)⟩
  have:decide (n≤((YQ (UInt8.ofNat sep.toNat) line 0 0).length:Int))=decide (n<((1:Nat):Int)+(YQ (UInt8.ofNat sep.toNat) line 0 0).length):=by congr 1;simp;constructor <;> intro h <;> omega
  rw[this]
  exact q1
 ·obtain⟨a,b,q1,q2⟩:=OL hlen (n:=n) H H _ 0 1 rfl (by omega) (by omega) (by omega)
  simp only[List.drop_zero]at q1 q2
  have main:GK (.str line) (.int .i64 n) (.int .i64 0) H H=some (ZcR a b (decide (n≤((Q7 line 0).length:Int))),H):=by
   rw[Cz]
   have:decide (n≤((Q7 line 0).length:Int))=decide (n<((1:Nat):Int)+(Q7 line 0).length):=by congr 1;simp;constructor <;> intro h <;> omega
   rw[this]
   exact q1
  refine⟨a,b,?_,fun h'=>by rw[if_neg h]at h' ⊢;exact q2 (by omega)⟩
  rw[if_neg h]
  by_cases h1:0≤sep
  ·have c1:decide ((0:Int)≤sep)=true:=by simp[h1]
   have c2:decide (sep≤(255:Int))=false:=by simp;omega
   simp only[go_sem,c1,c2]
   exact main
  ·have c1:decide ((0:Int)≤sep)=false:=by simp;omega
   simp only[go_sem,c1]
   exact main
theorem ZiG (c:UInt8)(L:Nat):∀ (l:List UInt8) (f p:Nat),f≤p→p+l.length=L→∀ x∈YQ c l f p,x.1≤x.2∧x.2≤L:=by
 intro l
 induction l with
 |nil=>intro f p h1 h2 x hx;simp[YQ]at hx;subst hx;simp at h2;simp;omega
 |cons b l ih =>
  intro f p h1 h2 x hx
  rw[Ag]at hx
  simp at h2
  split at hx
  ·rcases List.mem_cons.1 hx with rfl|hx
   ·simp;omega
   ·exact ih (p+1) (p+1) (by omega) (by omega) x hx
  ·exact ih f (p+1) (by omega) (by omega) x hx
theorem ZiH (L:Nat):∀ (l:List UInt8) (q:Bool) (f p:Nat),f≤p→p+l.length=L→∀ x∈VA q l f p,x.1≤x.2∧x.2≤L:=by
 intro l
 induction l with
 |nil=>intro q f p h1 h2 x hx;simp[VA]at hx;subst hx;simp at h2;simp;omega
 |cons b l ih =>
  intro q f p h1 h2 x hx
  rw[Ps]at hx
  simp at h2
  split at hx
  ·rcases List.mem_cons.1 hx with rfl|hx
   ·simp;omega
   ·exact ih _ p (p+1) (by omega) (by omega) x hx
  ·exact ih _ f (p+1) (by omega) (by omega) x hx
theorem Zd7 (line:List UInt8)(sep:Int):∀ x∈fields line sep,x.1≤x.2∧x.2≤line.length:=by
 intro x hx
 unfold fields at hx
 split at hx
 ·exact ZiG _ line.length line 0 0 (Nat.le_refl _) (by omega) x hx
 ·cases line with
  |nil=>simp[Q7]at hx
  |cons a l=>rw[Zdc]at hx;exact ZiH (a::l).length l _ 0 1 (by omega) (by simp;omega) x hx
structure Ke where
 ff:Int
 fc:Int
 tf:Int
 tc:Int
 fl:Int
def Ke.cells (k:Ke):List AV:=[.int .i64 k.ff,.int .i64 k.fc,.int .i64 k.tf,.int .i64 k.tc,.int .i64 k.fl]
structure KeOk (k:Ke):Prop where
 ff:-9223372036854775808≤k.ff∧k.ff≤9223372036854775807
 fc:-9223372036854775808≤k.fc∧k.fc≤9223372036854775807
 tf:-9223372036854775808≤k.tf∧k.tf≤9223372036854775807
 tc:-9223372036854775808≤k.tc∧k.tc≤9223372036854775807
def FE (lo hi:Nat)(k:Ke):Nat:=lo+(min (max k.fc 1-1) ((hi:Int)-lo)).toNat
def EH (line:List UInt8)(fs:List (Nat×Nat))(k:Ke):Nat :=
 if 0<k.tf∧k.tf≤fs.length then (let p:=fs.getD (k.tf-1).toNat (0,0);if 0<k.tc then p.1+(min k.tc ((p.2:Int)-p.1)).toNat else p.2) else line.length
def ex (line:List UInt8)(fs:List (Nat×Nat))(k:Ke):List UInt8 :=
 if max k.ff 1≤fs.length then
  (let p:=fs.getD (max k.ff 1-1).toNat (0,0);if EH line fs k<FE p.1 p.2 k then [] else (line.take (EH line fs k)).drop (FE p.1 p.2 k)) else []
theorem ZoB (H:Hp)(x y:AObj):List.set (H++[x]) H.length y=H++[y]:=by simp
theorem V8 (H:Hp)(x:AObj):(H++[x])[H.length]?=some x:=Zfd _ _ _
theorem ZV {H:Hp}{o off:Nat}{l:List AV}(h:H[o]?=some (.cells l)):Z4 false 1 (.ptr o off) H=l[off]?:=by rw[U7 h];simp[Go.Am.apart]
theorem Eu {line:List UInt8}{f e:Nat}(hf:f≤line.length)(he:e≤line.length)(hlen:line.length≤1048576)(H0 H:Hp) :
 Xv (.str line) (.int .i64 (f:Int)) (.int .i64 (e:Int)) H0 H=some (.str (if e<f then [] else (line.take e).drop f),H):=by
 rw[LV]
 by_cases h:e<f
 ·have c:decide ((e:Int)<(f:Int))=true:=by simp;omega
  simp only[go_sem,c,h,if_true]
 ·have c:decide ((e:Int)<(f:Int))=false:=by simp;omega
  have hs:=El (s:=line) (n:=(f:Int)) (m:=(e:Int)) .i64 .i64 (by omega) (by omega) (by omega)
  have e1:((f:Int)).toNat=f:=by omega
  have e2:((e:Int)).toNat=e:=by omega
  rw[e1,e2]at hs
  simp only[go_sem,c,LW,hs,h,if_false]
theorem ZcB {fs:List (Nat×Nat)}{i:Nat}{p:Nat×Nat}(h:fs[i]?=some p):fs.getD i (0,0)=p:=by simp[List.getD_eq_getElem?_getD,h]
theorem Af {line:List UInt8}(hlen:line.length≤1048576){k:Ke}(hk:KeOk k)(sep:Int)(H:Hp) :
 ∃ H',Uh [.str line,.agg k.cells,.int .i64 sep] H=some (.str (ex line (fields line sep) k),H')∧(∀ (i:Nat) (x:AObj),H[i]?=some x→H'[i]?=some x):=by
 rw[E3]
 unfold Rx
 have hbox:ZW (.agg k.cells) H=some (.ptr H.length 0,H++[.cells k.cells]):=JC rfl
 have hget:=V8 H (.cells k.cells)
 obtain⟨a,b,q1,q2⟩:=Zbg hlen sep (n:=max k.ff 1) (by omega) (H++[.cells k.cells])
 simp only[Ke.cells]at hbox hget q1 ⊢
 simp only[hbox,go_sem,Nat.zero_add,ZV hget,List.getElem?_cons_zero]
 rw[q1]
 simp only[go_sem,ZcR,List.getElem?_cons_zero,List.getElem?_cons_succ]
 have hold:∀ (i:Nat) (x:AObj),H[i]?=some x→(H++[AObj.cells [.int .i64 k.ff,.int .i64 k.fc,.int .i64 k.tf,.int .i64 k.tc,.int .i64 k.fl]])[i]?=some x:=fun i x h=>YB h _
 by_cases hin:max k.ff 1≤((fields line sep).length:Int)
 ·have c1:(!decide (max k.ff 1≤((fields line sep).length:Int)))=false:=by simp[hin]
  have hab:=q2 hin
  obtain⟨r1,r2⟩:=Zd7 line sep _ (List.mem_of_getElem? hab)
  simp only at r1 r2
  simp only[c1,go_sem,LU,Nat.zero_add,ZV hget,Ke.cells,List.getElem?_cons_zero,List.getElem?_cons_succ]
  have hfc:=hk.fc
  have w1:IntKind.i64.wrap (max k.fc 1-1)=max k.fc 1-1:=Zr (by omega) (by omega)
  have w2:IntKind.i64.wrap ((b:Int)-a)=(b:Int)-a:=Zr (by omega) (by omega)
  have w3:IntKind.i64.wrap ((a:Int)+min (max k.fc 1-1) ((b:Int)-a))=((FE a b k:Nat):Int):=by rw[Zr (by omega) (by omega)];unfold FE;omega
  have hfl:FE a b k≤line.length:=by unfold FE;omega
  simp only[w1,w2,w3]
  have fin:∀ e:Nat,e≤line.length→e=EH line (fields line sep) k→ex line (fields line sep) k=(if e<FE a b k then [] else (line.take e).drop (FE a b k)):=by
   intro e _ he
   subst he
   unfold ex
   rw[if_pos hin,ZcB hab]
  by_cases ht:0<k.tf
  ·have c2:decide ((0:Int)<k.tf)=true:=by simp[ht]
   obtain⟨a2,b2,p1,p2⟩:=Zbg hlen sep (n:=k.tf) (by omega) (H++[.cells k.cells])
   simp only[Ke.cells]at p1
   simp only[c2,go_sem,Nat.zero_add,ZV hget,Ke.cells,List.getElem?_cons_zero,List.getElem?_cons_succ,p1,ZcR]
   by_cases hin2:k.tf≤((fields line sep).length:Int)
   ·have c3:decide (k.tf≤((fields line sep).length:Int))=true:=by simp[hin2]
    have hab2:=p2 hin2
    obtain⟨s1,s2⟩:=Zd7 line sep _ (List.mem_of_getElem? hab2)
    simp only at s1 s2
    simp only[c3,go_sem,Nat.zero_add,ZV hget,Ke.cells,List.getElem?_cons_zero,List.getElem?_cons_succ]
    have htc:=hk.tc
    by_cases hc:0<k.tc
    ·have c4:decide ((0:Int)<k.tc)=true:=by simp[hc]
     have w4:IntKind.i64.wrap ((b2:Int)-a2)=(b2:Int)-a2:=Zr (by omega) (by omega)
     have w5:IntKind.i64.wrap ((a2:Int)+min k.tc ((b2:Int)-a2))=((a2+(min k.tc ((b2:Int)-a2)).toNat:Nat):Int):=by rw[Zr (by omega) (by omega)];omega
     simp only[c4,go_sem,Nat.zero_add,ZV hget,Ke.cells,List.getElem?_cons_zero,List.getElem?_cons_succ,w4,w5]
     rw[Eu hfl (by omega) hlen]
     rw[fin (a2+(min k.tc ((b2:Int)-a2)).toNat) (by omega) (by unfold EH;rw[if_pos ⟨ht,hin2⟩,ZcB hab2];simp[hc])]
     exact⟨_,rfl,hold⟩
    ·have c4:decide ((0:Int)<k.tc)=false:=by simp;omega
     simp only[c4,go_sem]
     rw[Eu hfl s2 hlen]
     rw[fin b2 s2 (by unfold EH;rw[if_pos ⟨ht,hin2⟩,ZcB hab2];simp[hc])]
     exact⟨_,rfl,hold⟩
   ·have c3:decide (k.tf≤((fields line sep).length:Int))=false:=by simp;omega
    simp only[c3,go_sem]
    rw[Eu hfl (Nat.le_refl _) hlen]
    rw[fin line.length (Nat.le_refl _) (by unfold EH;rw[if_neg (fun h=>hin2 h.2)])]
    exact⟨_,rfl,hold⟩
  ·have c2:decide ((0:Int)<k.tf)=false:=by simp;omega
   simp only[c2,go_sem]
   rw[Eu hfl (Nat.le_refl _) hlen]
   rw[fin line.length (Nat.le_refl _) (by unfold EH;rw[if_neg (fun h=>ht h.1)])]
   exact⟨_,rfl,hold⟩
 ·have c1:(!decide (max k.ff 1≤((fields line sep).length:Int)))=true:=by simp;omega
  simp only[c1,go_sem]
  have:ex line (fields line sep) k=[]:=by unfold ex;rw[if_neg hin]
  rw[this]
  exact⟨_,rfl,hold⟩
def Sl (k:Nat)(x:AV)(l:List AV):Prop:=x=.nils∧l=[]∨∃ tok,x=.vs k tok l
theorem Sl.len {k:Nat}{x:AV}{l:List AV}(h:Sl k x l)(e:Nat):Zk (.slice e) x=some (.int .i64 l.length):=by
 rcases h with ⟨rfl,rfl⟩|⟨tok,rfl⟩ <;> rfl
theorem Sl.idx {k:Nat}{x:AV}{l:List AV}(h:Sl k x l){i:Nat}{c:AV}(hi:l[i]?=some c):Zn k x (.int .i64 (i:Int))=some (.vp c.cells):=by
 rcases h with ⟨rfl,rfl⟩|⟨tok,rfl⟩
 ·simp at hi
 ·simp[Zn,hi]
theorem Ic {f:AV→Option AV}:∀ {l:List AV},(∀ x∈l,f x=some x)→l.mapM f=some l:=by
 intro l
 induction l with
 |nil=>intro _;rfl
 |cons a l ih =>
  intro h
  rw[List.mapM_cons,h a (by simp),ih (fun x hx=>h x (by simp[hx]))]
  rfl
theorem ZkA (H:Hp)(n f k:Nat)(tok:Tok)(l:List AV):Z9 H n (f+1) (.vs k tok l)=match l.mapM (Z9 H n f) with
 |some l=>some (.vs k (match tok with|.own t e=>if t<n then .own t e else .no|tok=>tok) l)
 |none=>none:=(Eq.refl _).trans (Eq.refl _)
theorem KW (H:Hp)(n f:Nat)(l:List AV):Z9 H n (f+1) (.agg l)=match l.mapM (Z9 H n f) with
 |some l=>some (.agg l)
 |none=>none:=(Eq.refl _).trans (Eq.refl _)
theorem Sl.close {k:Nat}{x:AV}{l:List AV}(h:Sl k x l){H:Hp}{n f:Nat}(hl:∀ c∈l,Z9 H n f c=some c):∃ x',Z9 H n (f+1) x=some x'∧Sl k x' l:=by
 rcases h with ⟨rfl,rfl⟩|⟨tok,rfl⟩
 ·exact⟨.nils,rfl,.inl ⟨rfl,rfl⟩⟩
 ·have e:=ZkA H n f k tok l
  rw[Ic hl]at e
  exact⟨_,e,.inr ⟨_,rfl⟩⟩
def Ke.av (k:Ke):AV:=.agg k.cells
theorem Ke.close (k:Ke)(H:Hp)(n f:Nat):Z9 H n (f+2) k.av=some k.av:=by
 have:k.cells.mapM (Z9 H n (f+1))=some k.cells:=Ic fun x hx=>by
  simp only[Ke.cells,List.mem_cons,List.not_mem_nil,or_false]at hx
  rcases hx with rfl|rfl|rfl|rfl|rfl <;> rfl
 rw[Ke.av,KW,this]
structure Spec where
 keys:List Ke
 sep:Int
 flags:Int
 stab:Bool
 uniq:Bool
def Spec.cells (x:AV)(p:Spec):List AV:=[x,.int .i64 p.sep,.int .i64 p.flags,.bool p.uniq,.bool p.stab]
def SpecAV (a:AV)(p:Spec):Prop:=∃ x,a=.agg (p.cells x)∧Sl 5 x (p.keys.map Ke.av)
theorem SpecAV.close {a:AV}{p:Spec}(h:SpecAV a p)(H:Hp)(n f:Nat):∃ a',Z9 H n (f+4) a=some a'∧SpecAV a' p:=by
 obtain⟨x,rfl,hx⟩:=h
 obtain⟨x',h1,h2⟩:=hx.close (H:=H) (n:=n) (f:=f+2) (fun c hc=>by
  obtain⟨k,_,rfl⟩:=List.mem_map.1 hc
  exact k.close H n f)
 refine⟨.agg (p.cells x'),?_,x',rfl,h2⟩
 have:(p.cells x).mapM (Z9 H n (f+3))=some (p.cells x'):=by
  simp only[Spec.cells,List.mapM_cons,h1,List.mapM_nil]
  rfl
 rw[KW,this]
theorem Xx {f:List AV→Hp→Z3}{a a' v:AV}{H H1:Hp}(ha:Z9 [] 0 6 a=some a')(hc:f [a'] []=some (v,H1))(hv:JG 3 v=true):Ze f [a] H=some (v,H) :=
 Pt (args':=[a']) (by simp[ha]) hc hv
theorem JF {f:List AV→Hp→Z3}{a a' b b' v:AV}{H H1:Hp}(ha:Z9 [] 0 6 a=some a')(hb:Z9 [] 0 6 b=some b')(hc:f [a',b'] []=some (v,H1))(hv:JG 3 v=true):Ze f [a,b] H=some (v,H) :=
 Pt (args':=[a',b']) (by simp[ha,hb]) hc hv
def Px (k:Ke):Bool:=decide (k.ff<1) || (decide (k.fc<1) || (decide (k.tf<0) || (decide (k.tc<0) || ((k.tf==0&&k.tc != 0) || (decide (k.fl<0) || decide (31<k.fl))))))
def ZL (p:Spec):Int :=
 if 8<p.keys.length then 3 else if decide (p.sep < -1) || (decide (255<p.sep) || (p.sep==10 || (decide (p.flags<0) || decide (31<p.flags)))) then 2 else if p.keys.any Px then 2 else 0
theorem HP (k:Ke)(H:Hp):Z4 true 5 (.vp k.cells) H=some (.agg k.cells):=by simp[Z4,Go.Am.apart,Ke.cells]
theorem HS (H:Hp)(k:Ke)(z:List AV)(hz:z.length=5):Zh 5 (.ptr H.length 0) (.agg k.cells) (H++[.cells z])=some (.tuple [],H++[.cells k.cells]):=by
 rw[VK (sz:=5) (v:=.agg k.cells) (V8 _ _) rfl rfl (by omega)]
 simp[AV.cells,splice,hz,Ke.cells]
theorem Zx (H:Hp)(l:List AV)(off:Nat):Z4 false 1 (.ptr H.length off) (H++[.cells l])=l[off]?:=ZV (V8 H _)
theorem X8 (l:List AV)(H:Hp):ZW (.agg l) H=some (.ptr H.length 0,H++[.cells l]):=JC rfl
attribute [go_sem] X8 Zx
theorem Sl.key {x:AV}{l:List Ke}(h:Sl 5 x (l.map Ke.av)){i:Nat}{k:Ke}(hi:l[i]?=some k):Zn 5 x (.int .i64 (i:Int))=some (.vp k.cells):=h.idx (c:=k.av) (by simp[hi])
theorem ZqQ {x:AV}{l:List Ke}(h:Sl 5 x (l.map Ke.av)){i:Nat}{k:Ke}(hi:l[i]?=some k)(n t:AV)(H0 H:Hp) :
 ∃ H',GH x n (.int .i64 (i:Int)) t H0 H=if Px k then some (.int .i64 2,H') else GI x n (.int .i64 (i:Int)) H0 H':=by
 rw[Cv]
 refine⟨H++[.cells k.cells],?_⟩
 have hg:=V8 H (.cells k.cells)
 simp only[h.key hi,HP,go_sem,HS H k [.int .i64 0,.int .i64 0,.int .i64 0,.int .i64 0,.int .i64 0] rfl]
 simp only[go_sem,Nat.zero_add,Zx,Ke.cells,List.getElem?_cons_zero,List.getElem?_cons_succ]
 unfold Px
 cases e1:decide (k.ff<1) with
 |true=>simp only[go_sem,Bool.true_or,if_true]
 |false =>
 simp only[go_sem,Bool.false_or,Nat.zero_add,Zx,Ke.cells,List.getElem?_cons_zero,List.getElem?_cons_succ]
 cases e2:decide (k.fc<1) with
 |true=>simp only[go_sem,Bool.true_or,if_true]
 |false =>
 simp only[go_sem,Bool.false_or,Nat.zero_add,Zx,Ke.cells,List.getElem?_cons_zero,List.getElem?_cons_succ]
 cases e3:decide (k.tf<0) with
 |true=>simp only[go_sem,Bool.true_or,if_true]
 |false =>
 simp only[go_sem,Bool.false_or,Nat.zero_add,Zx,Ke.cells,List.getElem?_cons_zero,List.getElem?_cons_succ]
 cases e4:decide (k.tc<0) with
 |true=>simp only[go_sem,Bool.true_or,if_true]
 |false =>
 simp only[go_sem,Bool.false_or,Nat.zero_add,Zx,Ke.cells,List.getElem?_cons_zero,List.getElem?_cons_succ]
 have last:∀ b:Bool,b=false→True:=fun _ _=>trivial
 cases e5:(k.tf==0) with
 |true =>
  simp only[go_sem,Bool.true_and,Nat.zero_add,Zx,Ke.cells,List.getElem?_cons_zero,List.getElem?_cons_succ]
  cases e6:(k.tc != 0) with
  |true=>simp only[go_sem,Bool.true_or,if_true]
  |false =>
   simp only[go_sem,Bool.false_or,Nat.zero_add,Zx,Ke.cells,List.getElem?_cons_zero,List.getElem?_cons_succ]
   cases e7:decide (k.fl<0) with
   |true=>simp only[go_sem,Bool.true_or,if_true]
   |false =>
    simp only[go_sem,Bool.false_or,Nat.zero_add,Zx,Ke.cells,List.getElem?_cons_zero,List.getElem?_cons_succ]
    cases e8:decide (31<k.fl) <;> simp[go_sem]
 |false =>
  simp only[go_sem,Bool.false_and,Bool.false_or,Nat.zero_add,Zx,Ke.cells,List.getElem?_cons_zero,List.getElem?_cons_succ]
  cases e7:decide (k.fl<0) with
  |true=>simp only[go_sem,Bool.true_or,if_true]
  |false =>
   simp only[go_sem,Bool.false_or,Nat.zero_add,Zx,Ke.cells,List.getElem?_cons_zero,List.getElem?_cons_succ]
   cases e8:decide (31<k.fl) <;> simp[go_sem]
theorem ZqR {x:AV}{l:List Ke}(h:Sl 5 x (l.map Ke.av))(hl:l.length≤8)(H0:Hp):∀ (m i:Nat) (H:Hp),l.length-i=m→i≤l.length →
 ∃ H',Qj x (.int .i64 (l.length:Int)) (.int .i64 (i:Int)) H0 H=some (.int .i64 (if (l.drop i).any Px then 2 else 0),H'):=by
 intro m
 induction m with
 |zero =>
  intro i H hm hi
  rw[Dx]
  have hlt:decide ((i:Int)<(l.length:Int))=false:=by simp;omega
  have hd:l.drop i=[]:=List.drop_eq_nil_iff.2 (by omega)
  simp only[go_sem,hlt,Cu,hd,List.any_nil]
  exact⟨_,rfl⟩
 |succ m ih =>
  intro i H hm hi
  rw[Dx]
  have hl1:i<l.length:=by omega
  have hlt:decide ((i:Int)<(l.length:Int))=true:=by simp;omega
  have hw:IntKind.i64.wrap ((i:Int)+1)=((i+1:Nat):Int):=by rw[Zr (by omega) (by omega)];omega
  obtain⟨H1,e1⟩:=ZqQ h (List.getElem?_eq_getElem hl1) (.int .i64 (l.length:Int)) (.bool true) H0 H
  simp only[go_sem,hlt,e1]
  rw[List.drop_eq_getElem_cons hl1,List.any_cons]
  cases hb:Px l[i] with
  |true=>simp only[if_true,Bool.true_or];exact⟨_,rfl⟩
  |false =>
   simp only[Bool.false_eq_true,if_false,Bool.false_or,Cw,go_sem,hw]
   exact ih (i+1) H1 (by omega) (by omega)
theorem Zin {a:AV}{p:Spec}(h:SpecAV a p)(H:Hp):∃ H',Wr [a] H=some (.int .i64 (ZL p),H'):=by
 obtain⟨x,rfl,hx⟩:=h
 rw[Hi]
 unfold Nw ZL
 have hg:=V8 H (.cells (p.cells x))
 have hlen:=hx.len 149
 rw[List.length_map]at hlen
 simp only[go_sem,Nat.zero_add,Zx,Spec.cells,List.getElem?_cons_zero,List.getElem?_cons_succ,hlen]
 by_cases h8:8<p.keys.length
 ·have c1:decide ((8:Int)<(p.keys.length:Int))=true:=by simp;omega
  simp only[c1,go_sem,h8,if_true]
  exact⟨_,rfl⟩
 have c1:decide ((8:Int)<(p.keys.length:Int))=false:=by simp;omega
 simp only[c1,go_sem,h8,if_false,Cs,Nat.zero_add,Zx,Spec.cells,List.getElem?_cons_zero,List.getElem?_cons_succ]
 cases e1:decide (p.sep < -1) with
 |true=>simp only[go_sem,Bool.true_or,if_true];exact⟨_,rfl⟩
 |false =>
 simp only[go_sem,Bool.false_or,Nat.zero_add,Zx,Spec.cells,List.getElem?_cons_zero,List.getElem?_cons_succ]
 cases e2:decide (255<p.sep) with
 |true=>simp only[go_sem,Bool.true_or,if_true];exact⟨_,rfl⟩
 |false =>
 simp only[go_sem,Bool.false_or,Nat.zero_add,Zx,Spec.cells,List.getElem?_cons_zero,List.getElem?_cons_succ]
 cases e3:(p.sep==10) with
 |true=>simp only[go_sem,Bool.true_or,if_true];exact⟨_,rfl⟩
 |false =>
 simp only[go_sem,Bool.false_or,Nat.zero_add,Zx,Spec.cells,List.getElem?_cons_zero,List.getElem?_cons_succ]
 cases e4:decide (p.flags<0) with
 |true=>simp only[go_sem,Bool.true_or,if_true];exact⟨_,rfl⟩
 |false =>
 simp only[go_sem,Bool.false_or,Nat.zero_add,Zx,Spec.cells,List.getElem?_cons_zero,List.getElem?_cons_succ]
 cases e5:decide (31<p.flags) with
 |true=>simp only[go_sem,if_true];exact⟨_,rfl⟩
 |false =>
 simp only[go_sem,Bool.false_eq_true,if_false,Ct,Nat.zero_add,Zx,Spec.cells,List.getElem?_cons_zero,List.getElem?_cons_succ,hlen]
 have:=ZqR hx (by omega) H p.keys.length 0 (H++[.cells (p.cells x)]) (by omega) (by omega)
 simpa[Spec.cells]using this
theorem Ep {a:AV}{p:Spec}(h:SpecAV a p)(H:Hp):Ze Wr [a] H=some (.int .i64 (ZL p),H):=by
 obtain⟨a',h1,h2⟩:=h.close [] 0 2
 obtain⟨H',h3⟩:=Zin h2 []
 exact Xx h1 h3 rfl
end Go.Am
namespace Go.Am
open Go.Proofs
set_option linter.unusedSimpArgs false
set_option linter.unusedVariables false
def RowN (n:Nat)(H:Hp)(k:Nat)(x:AV)(l:List AV):Prop:=x=.nils∧l=[]∨∃ t e,x=.vs k (.own t e) l∧H[t]?=some (.tok e)∧n≤t
def Keep (n:Nat)(H H':Hp):Prop:=∀ i,i<n→H'[i]?=H[i]?
theorem Keep.refl (n:Nat)(H:Hp):Keep n H H:=fun _ _=>rfl
theorem Keep.trans {n:Nat}{A B C:Hp}(h:Keep n A B)(k:Keep n B C):Keep n A C:=fun i hi=>(k i hi).trans (h i hi)
theorem Keep.push {n:Nat}(H:Hp)(hn:n≤H.length)(l:List AObj):Keep n H (H++l):=fun i hi=>List.getElem?_append_left (by omega)
theorem RowN.nil (n:Nat)(H:Hp)(k:Nat):RowN n H k .nils []:=.inl ⟨rfl,rfl⟩
theorem RowN.sl {n:Nat}{H:Hp}{k:Nat}{x:AV}{l:List AV}(h:RowN n H k x l):Sl k x l:=h.imp id fun⟨t,e,a,_⟩=>⟨_,a⟩
theorem RowN.push {n:Nat}{H:Hp}{k:Nat}{x:AV}{l:List AV}(h:RowN n H k x l)(r:List AObj):RowN n (H++r) k x l:=h.imp id fun⟨t,e,a,b,c⟩=>⟨t,e,a,YB b _,c⟩
theorem RowN.app {n:Nat}{H:Hp}{k:Nat}{x:AV}{l:List AV}(h:RowN n H k x l)(hn:n≤H.length)(bytes:Nat)(y:AV)(ys:List AV)(hy:elems k y H=some ys)(hf:(l.length+ys.length)*(bytes+1)≤140737488355328) :
 ∃ x' H',Y6 k bytes x y H=some (x',H')∧RowN n H' k x' (l++ys)∧n≤H'.length∧Keep n H H'∧(∀ (i:Nat) (c:List AV),H[i]?=some (.cells c)→H'[i]?=some (.cells c)):=by
 unfold Y6
 simp only[hy]
 rcases h with ⟨rfl,rfl⟩|⟨t,e,rfl,ht,hnt⟩
 ·by_cases hys:ys=[]
  ·subst hys
   exact⟨.nils,H,by simp[Yo],.inl ⟨rfl,rfl⟩,hn,Keep.refl _ _,fun _ _ h=>h⟩
  ·have hfit:fits ys.length bytes=true:=by simpa[fits]using hf
   exact⟨.vs k (.own H.length ys.length) ys,H++[.tok ys.length],by simp only[Yo,hys,if_false,hfit,if_true],.inr ⟨H.length,ys.length,rfl,by simp,hn⟩,by simp;omega,Keep.push H hn _,fun i c h=>YB h _⟩
 ·have hfit:fits (l.length+ys.length) bytes=true:=by simpa[fits]using hf
  by_cases hys:ys=[]
  ·subst hys
   exact⟨.vs k (.own t e) l,H,by simp only[Yo,List.length_nil,Nat.add_zero]at hfit ⊢;simp only[hfit,and_self,if_true],.inr ⟨t,e,by simp,ht,hnt⟩,hn,Keep.refl _ _,fun _ _ h=>h⟩
  ·refine⟨_,_,by simp only[Yo,hfit,and_self,if_true,hys,if_false,ht],.inr ⟨t,e+ys.length,rfl,Zv _ ht,hnt⟩,by simp;omega,fun i hi=>List.getElem?_set_ne (by omega),fun i c h=>?_⟩
   refine Y5 _ (fun he=>?_) h
   subst he
   rw[ht]at h
   cases h
def Zkv (n j:Nat):Bool:=match Z5 .and (.int .i64 n) (.int .i64 ((2 ^ j:Nat):Int)) with
 |some (.int .i64 m)=>m==(if n.testBit j then ((2 ^ j:Nat):Int) else 0)
 |_=>false
theorem Zio:((List.range 32).all fun n=>(List.range 5).all fun j=>Zkv n j)=true:=by kernel_rfl
theorem UJ {n:Nat}{p:Nat→Bool}(h:(List.range n).all p=true){i:Nat}(hi:i<n):p i=true:=List.all_eq_true.1 h i (List.mem_range.2 hi)
theorem HQ {n j:Nat}(hn:n<32)(hj:j<5):Z5 .and (.int .i64 n) (.int .i64 ((2 ^ j:Nat):Int))=some (.int .i64 (if n.testBit j then ((2 ^ j:Nat):Int) else 0)):=by
 have h:=UJ (UJ Zio hn) hj
 unfold Zkv at h
 split at h
 ·rename_i m hm
  rw[hm]
  have:m=(if n.testBit j then ((2 ^ j:Nat):Int) else 0):=by simpa using h
  rw[this]
 ·cases h
end Go.Am
