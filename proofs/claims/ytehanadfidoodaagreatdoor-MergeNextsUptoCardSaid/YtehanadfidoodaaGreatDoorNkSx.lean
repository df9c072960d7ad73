/-
  The fields of a line, and the part of it that a key tells.
-/
import Derived.Test.YtehanadfidoodaaGreatDoorNkGx
import Derived.Test.YtehanadfidoodaaGreatDoorEmSx
namespace Go.Am
theorem Zu4 (b:UInt8)(n:Nat)(h:n<256):(((b.toNat:Int))==(n:Int))=(b==UInt8.ofNat n):=by
 rw[Bool.eq_iff_iff]
 simp only[beq_iff_eq]
 constructor
 ·intro e
  have:b.toNat=n:=by omega
  rw[←this];simp
 ·intro e
  subst e
  simp;omega
def Yf (b:UInt8):Bool:=b==32 || b==9
theorem UP (b:UInt8):(((b.toNat:Int))==32)=(b==32)∧(((b.toNat:Int))==9)=(b==9):=⟨Zu4 b 32 (by decide),Zu4 b 9 (by decide)⟩
theorem CG (b:UInt8)(H:Hp):WB [.int .u8 b.toNat] H=some (.bool (Yf b),H):=by
 rw[Oa]
 unfold Lg Yf
 simp only[go_sem,(UP b).1]
 cases (b==32) <;> simp[go_sem,(UP b).2]
theorem Ru (b:UInt8)(H:Hp):U8 [.int .u8 b.toNat] H=some (.bool (Yf b),H):=by
 rw[Zhk]
 unfold Zcn Yf
 simp only[go_sem,(UP b).1]
 cases (b==32) <;> simp[go_sem,(UP b).2]
theorem ZqN (a b:Int)(H:Hp):Pd [.int .i64 a,.int .i64 b] H=some (.int .i64 (max a b),H):=by
 rw[Zj1]
 unfold Zex
 by_cases h:b<a
 ·have e:max a b=a:=by omega
  simp[go_sem,h,e]
 ·have e:max a b=b:=by omega
  simp[go_sem,h,e,ZhB]
theorem Zgs (a b:Int)(H:Hp):R8 [.int .i64 a,.int .i64 b] H=some (.int .i64 (min a b),H):=by
 rw[Zhl]
 unfold Zco
 by_cases h:a<b
 ·have e:min a b=a:=by omega
  simp[go_sem,h,e]
 ·have e:min a b=b:=by omega
  simp[go_sem,h,e,Zfm]
theorem ZhT (s:List UInt8)(n:Int)(H:Hp):QJ [.str s,.int .u8 n] H=some (.int .i64 (Qw (UInt8.ofNat n.toNat) s 0),H):=by
 rw[Ep]
 unfold F4
 rw[JG]
 unfold Vb
 simp only[go_sem]
def YC (c:UInt8):List UInt8→Nat→Nat→List (Nat×Nat)
 |[],f,p=>[(f,p)]
 |b::l,f,p=>if b=c then (f,p)::YC c l (p+1) (p+1) else YC c l f (p+1)
theorem NY (c b:UInt8)(l:List UInt8)(f p:Nat):YC c (b::l) f p=if b=c then (f,p)::YC c l (p+1) (p+1) else YC c l f (p+1):=(Eq.refl _).trans (Eq.refl _)
theorem Zmf (c b:UInt8)(l:List UInt8)(k:Nat):Qw c (b::l) k=if b=c then (k:Int) else Qw c l (k+1):=(Eq.refl _).trans (Eq.refl _)
theorem Zma (c:UInt8):∀ (l:List UInt8) (f p k:Nat),
 (Qw c l k=-1∧YC c l f p=[(f,p+l.length)])∨∃ e,e<l.length∧Qw c l k=((k+e:Nat):Int)∧YC c l f p=(f,p+e)::YC c (l.drop (e+1)) (p+e+1) (p+e+1):=by
 intro l
 induction l with
 |nil=>intro f p k;exact .inl ⟨rfl,rfl⟩
 |cons b l ih =>
  intro f p k
  rw[Zmf,NY]
  by_cases h:b=c
  ·exact .inr ⟨0,by simp,by simp[h],by simp[h]⟩
  ·simp only[h,if_false]
   rcases ih f (p+1) (k+1) with ⟨h1,h2⟩|⟨e,h0,h1,h2⟩
   ·exact .inl ⟨h1,by rw[h2];simp[Nat.add_comm,Nat.add_left_comm]⟩
   ·refine .inr ⟨e+1,by simp;omega,by rw[h1];congr 1;omega,?_⟩
    rw[h2,List.drop_succ_cons]
    simp only[show p+1+e=p+(e+1) by omega]
def Zi8 (a b:Nat)(ok:Bool):AV:=.tuple [.int .i64 a,.int .i64 b,.bool ok]
theorem Zg6 {line:List UInt8}(hlen:line.length≤1048576){sep:Int}(h0:0≤sep)(h1:sep≤255){n:Int}(H0 H:Hp):∀ (k f i:Nat),line.length+1-f=k→f≤line.length→i≤f+1→(i:Int)≤n →
 ∃ a b,Qn (.str line) (.int .i64 n) (.int .i64 sep) (.int .i64 (f:Int)) (.int .i64 (i:Int)) H0 H =
  some (Zi8 a b (decide (n<i+(YC (UInt8.ofNat sep.toNat) (line.drop f) f f).length)),H) ∧
  (n<i+(YC (UInt8.ofNat sep.toNat) (line.drop f) f f).length→(YC (UInt8.ofNat sep.toNat) (line.drop f) f f)[(n-i).toNat]?=some (a,b)):=by
 intro k
 induction k using Nat.strongRecOn with
 |_ k ih =>
  intro f i hk hf hi hn
  rw[IH]
  have hsl:=CF (s:=line) (n:=(f:Int)) .i64 (by omega) (by omega)
  have hft:((f:Int)).toNat=f:=by omega
  rw[hft]at hsl
  have hcv:Yg .u8 (.int .i64 sep)=some (.int .u8 sep):=by
   have:IntKind.u8.wrap sep=sep:=by
    unfold IntKind.wrap
    have e1:(2 ^ IntKind.u8.bits:Int)=256:=by decide
    have e3:IntKind.u8.signed=false:=rfl
    simp only[e1,e3,Bool.false_and,Bool.false_eq_true,if_false]
    omega
   simp[Yg,this]
  simp only[hsl,go_sem,hcv,ZhT]
  rcases Zma (UInt8.ofNat sep.toNat) (line.drop f) f f 0 with ⟨g1,g2⟩|⟨e,g0,g1,g2⟩
  ·have hneg:decide (Qw (UInt8.ofNat sep.toNat) (line.drop f) 0<0)=true:=by rw[g1];decide
   simp only[hneg,go_sem]
   rw[g2]
   refine⟨f,line.length,?_,fun h=>?_⟩
   ·have:((i:Int)==n)=decide (n<(i:Int)+([(f,f+(line.drop f).length)]:List (Nat×Nat)).length):=by
     rw[Bool.eq_iff_iff];simp;omega
    rw[this];rfl
   ·have hni:n=i:=by simp at h;omega
    subst hni
    simp;omega
  ·have hneg:decide (Qw (UInt8.ofNat sep.toNat) (line.drop f) 0<0)=false:=by rw[g1];simp
   simp only[hneg,go_sem,HI]
   rw[g1,g2]
   simp only[List.length_drop]at g0
   by_cases hni:(i:Int)=n
   ·have hb:((i:Int)==n)=true:=by simp[hni]
    have hw:IntKind.i64.wrap ((f:Int)+((0+e:Nat):Int))=((f+e:Nat):Int):=by rw[Zq (by omega) (by omega)];omega
    simp only[hb,go_sem,hw]
    refine⟨f,f+e,?_,fun _=>by simp[←hni]⟩
    have:(true:Bool)=decide (n<(i:Int)+((f,f+e)::YC (UInt8.ofNat sep.toNat) ((line.drop f).drop (e+1)) (f+e+1) (f+e+1)).length):=by
     symm;simp;omega
    rw[←this];rfl
   ·have hb:((i:Int)==n)=false:=by simp[hni]
    have hw1:IntKind.i64.wrap (((0+e:Nat):Int)+1)=((e+1:Nat):Int):=by rw[Zq (by omega) (by omega)];omega
    have hw2:IntKind.i64.wrap ((f:Int)+((e+1:Nat):Int))=((f+e+1:Nat):Int):=by rw[Zq (by omega) (by omega)];omega
    have hw3:IntKind.i64.wrap ((i:Int)+1)=((i+1:Nat):Int):=by rw[Zq (by omega) (by omega)];omega
    simp only[hb,go_sem,HJ,hw1,hw2,HH,hw3]
    obtain⟨a,b,q1,q2⟩:=ih (line.length+1-(f+e+1)) (by omega) (f+e+1) (i+1) rfl (by omega) (by omega) (by omega)
    rw[List.drop_drop,show f+(e+1)=f+e+1 by omega]
    refine⟨a,b,?_,fun h=>?_⟩
    ·rw[q1]
     have:decide (n<((i+1:Nat):Int)+(YC (UInt8.ofNat sep.toNat) (line.drop (f+e+1)) (f+e+1) (f+e+1)).length) =
      decide (n<(i:Int)+((f,f+e)::YC (UInt8.ofNat sep.toNat) (line.drop (f+e+1)) (f+e+1) (f+e+1)).length):=by
      congr 1;simp;constructor <;> intro h <;> omega
     rw[this]
    ·have hh:n<((i+1:Nat):Int)+(YC (UInt8.ofNat sep.toNat) (line.drop (f+e+1)) (f+e+1) (f+e+1)).length:=by simp at h ⊢;omega
     have:=q2 hh
     rw[show (n-(i:Int)).toNat=(n-((i+1:Nat):Int)).toNat+1 by omega]
     simpa using this
def Y9 (l:List UInt8):Nat:=(l.takeWhile Yf).length
def Xq (l:List UInt8):Nat:=(l.takeWhile fun b=>!Yf b).length
theorem ZiU:Y9 []=0:=rfl
theorem Zb1:Xq []=0:=rfl
theorem XX (b:UInt8)(l:List UInt8):Y9 (b::l)=if Yf b then Y9 l+1 else 0:=by
 unfold Y9;rw[List.takeWhile_cons];split <;> simp
theorem K2 (b:UInt8)(l:List UInt8):Xq (b::l)=if Yf b then 0 else Xq l+1:=by
 unfold Xq;rw[List.takeWhile_cons];cases Yf b <;> simp
theorem Zei (l:List UInt8):Y9 l≤l.length:=by
 induction l with
 |nil=>simp[ZiU]
 |cons b l ih=>rw[XX];split <;> simp;exact ih
theorem ZtX (l:List UInt8):Xq l≤l.length:=by
 induction l with
 |nil=>simp[Zb1]
 |cons b l ih=>rw[K2];split <;> simp;exact ih
def Wh:Bool→List UInt8→Nat→Nat→List (Nat×Nat)
 |_,[],f,p=>[(f,p)]
 |q,b::l,f,p=>if Yf b&&!q then (f,p)::Wh (Yf b) l p (p+1) else Wh (Yf b) l f (p+1)
theorem DA (q:Bool)(b:UInt8)(l:List UInt8)(f p:Nat):Wh q (b::l) f p=if Yf b&&!q then (f,p)::Wh (Yf b) l p (p+1) else Wh (Yf b) l f (p+1):=(Eq.refl _).trans (Eq.refl _)
def UG:List UInt8→Nat→List (Nat×Nat)
 |[],_=>[]
 |x::l,f=>Wh (Yf x) l f (f+1)
theorem ZaB (x:UInt8)(l:List UInt8)(f:Nat):UG (x::l) f=Wh (Yf x) l f (f+1):=(Eq.refl _).trans (Eq.refl _)
theorem Zim:∀ (l:List UInt8) (f p:Nat),Wh false l f p=(f,p+Xq l)::UG (l.drop (Xq l)) (p+Xq l):=by
 intro l
 induction l with
 |nil=>intro f p;rfl
 |cons b l ih =>
  intro f p
  rw[DA,K2]
  cases hb:Yf b with
  |true=>simp[UG,hb]
  |false =>
   simp only[Bool.false_and,Bool.false_eq_true,if_false]
   rw[ih]
   simp only[List.drop_succ_cons,show p+1+Xq l=p+(Xq l+1) by omega]
theorem Zqg:∀ (l:List UInt8) (f p:Nat),Wh true l f p=match l.drop (Y9 l) with
 |[]=>[(f,p+Y9 l)]
 |m::l'=>Wh false l' f (p+Y9 l+1):=by
 intro l
 induction l with
 |nil=>intro f p;rfl
 |cons b l ih =>
  intro f p
  rw[DA,XX]
  cases hb:Yf b with
  |true =>
   simp only[Bool.not_true,Bool.and_false,Bool.false_eq_true,if_false,if_true,List.drop_succ_cons]
   rw[ih]
   simp only[show p+1+Y9 l=p+(Y9 l+1) by omega]
  |false=>simp
def Vf (l:List UInt8):Nat:=Y9 l+Xq (l.drop (Y9 l))
theorem Zq4 (l:List UInt8){m:UInt8}{l':List UInt8}(h:l.drop (Y9 l)=m::l'):Yf m=false:=by
 induction l with
 |nil=>simp at h
 |cons b l ih =>
  rw[XX]at h
  cases hb:Yf b with
  |true=>simp[hb]at h;exact ih h
  |false=>simp[hb]at h;rw[←h.1];exact hb
theorem Zqu (l:List UInt8)(f:Nat)(h:0<l.length):UG l f=(f,f+Vf l)::UG (l.drop (Vf l)) (f+Vf l):=by
 cases l with
 |nil=>simp at h
 |cons x l =>
  rw[ZaB]
  unfold Vf
  rw[XX]
  cases hx:Yf x with
  |false =>
   simp only[Bool.false_eq_true,if_false,List.drop_zero,Nat.zero_add,K2,hx,List.drop_succ_cons]
   rw[Zim]
   simp only[show f+1+Xq l=f+(Xq l+1) by omega]
  |true =>
   simp only[if_true]
   rw[Zqg]
   simp only[List.drop_succ_cons]
   cases hd:l.drop (Y9 l) with
   |nil =>
    have hlen:Y9 l=l.length:=by
     have:=List.drop_eq_nil_iff.1 hd
     have:=Zei l
     omega
    simp only[Zb1,Nat.add_zero]
    have:(x::l).drop (Y9 l+1)=[]:=by simp[hd]
    rw[this]
    simp[show f+1+Y9 l=f+(Y9 l+1) by omega,UG]
   |cons m l' =>
    have hm:=Zq4 l hd
    simp only[K2,hm,Bool.false_eq_true,if_false]
    rw[Zim]
    have e1:(x::l).drop (Y9 l+1+(Xq l'+1))=l'.drop (Xq l'):=by
     have:(x::l).drop (Y9 l+1+(Xq l'+1))=(m::l').drop (Xq l'+1):=by
      rw[←hd,List.drop_drop,show Y9 l+1+(Xq l'+1)=(Y9 l+(Xq l'+1))+1 by omega,List.drop_succ_cons]
     rw[this,List.drop_succ_cons]
    rw[e1]
    simp only[show f+1+Y9 l+1+Xq l'=f+(Y9 l+1+(Xq l'+1)) by omega]
theorem ZsQ (l:List UInt8)(h:0<l.length):0<Vf l:=by
 cases l with
 |nil=>simp at h
 |cons x l =>
  unfold Vf
  rw[XX]
  cases hx:Yf x with
  |true=>simp;omega
  |false=>simp[K2,hx]
theorem Zv2 (l:List UInt8):Vf l≤l.length:=by
 unfold Vf
 have h1:=Zei l
 have h2:=ZtX (l.drop (Y9 l))
 simp at h2
 omega
theorem ZC {s:List UInt8}{i:Nat}{b:UInt8}(h:s[i]?=some b):Zr (.str s) (.int .i64 (i:Int))=some (.int .u8 b.toNat):=by simp[Zr,h]
theorem Yu {s:List UInt8}{i:Nat}(h:i<s.length):s.drop i=s[i]::s.drop (i+1):=List.drop_eq_getElem_cons h
theorem Zuw {line:List UInt8}(hlen:line.length≤1048576)(n f i:AV)(H0 H:Hp):∀ (k p:Nat),line.length-p=k→p≤line.length →
 Qm (.str line) n f (.int .i64 (p:Int)) i H0 H=B7 (.str line) n f (.int .i64 ((p+Y9 (line.drop p):Nat):Int)) i H0 H:=by
 intro k
 induction k with
 |zero =>
  intro p hk hp
  rw[Fl]
  have hlt:decide ((p:Int)<(line.length:Int))=false:=by simp;omega
  have hd:line.drop p=[]:=List.drop_eq_nil_iff.2 (by omega)
  simp only[go_sem,hlt,hd,ZiU,Nat.add_zero]
 |succ k ih =>
  intro p hk hp
  rw[Fl]
  have hlt:decide ((p:Int)<(line.length:Int))=true:=by simp;omega
  have hl:p<line.length:=by omega
  have hw:IntKind.i64.wrap ((p:Int)+1)=((p+1:Nat):Int):=by rw[Zq (by omega) (by omega)];omega
  simp only[go_sem,hlt,ZC (List.getElem?_eq_getElem hl),CG]
  rw[Yu hl,XX]
  cases hb:Yf line[p] with
  |true =>
   simp only[go_sem,IF,hw,if_true]
   rw[ih (p+1) (by omega) (by omega),show p+1+Y9 (line.drop (p+1))=p+(Y9 (line.drop (p+1))+1) by omega]
  |false=>simp[go_sem]
theorem Zuv {line:List UInt8}(hlen:line.length≤1048576)(n f i:AV)(H0 H:Hp):∀ (k p:Nat),line.length-p=k→p≤line.length →
 Ql (.str line) n f (.int .i64 (p:Int)) i H0 H=B8 (.str line) n f (.int .i64 ((p+Xq (line.drop p):Nat):Int)) i H0 H:=by
 intro k
 induction k with
 |zero =>
  intro p hk hp
  rw[Fk]
  have hlt:decide ((p:Int)<(line.length:Int))=false:=by simp;omega
  have hd:line.drop p=[]:=List.drop_eq_nil_iff.2 (by omega)
  simp only[go_sem,hlt,hd,Zb1,Nat.add_zero]
 |succ k ih =>
  intro p hk hp
  rw[Fk]
  have hlt:decide ((p:Int)<(line.length:Int))=true:=by simp;omega
  have hl:p<line.length:=by omega
  have hw:IntKind.i64.wrap ((p:Int)+1)=((p+1:Nat):Int):=by rw[Zq (by omega) (by omega)];omega
  simp only[go_sem,hlt,ZC (List.getElem?_eq_getElem hl),CG]
  rw[Yu hl,K2]
  cases hb:Yf line[p] with
  |false =>
   simp only[Bool.not_false,go_sem,IE,hw,Bool.false_eq_true,if_false]
   rw[ih (p+1) (by omega) (by omega),show p+1+Xq (line.drop (p+1))=p+(Xq (line.drop (p+1))+1) by omega]
  |true=>simp[go_sem]
theorem ZdR {line:List UInt8}(hlen:line.length≤1048576){n:Int}(H0 H:Hp):∀ (k f i:Nat),line.length-f=k→f≤line.length→i≤f+1→(i:Int)≤n →
 ∃ a b,Qk (.str line) (.int .i64 n) (.int .i64 (f:Int)) (.int .i64 (i:Int)) H0 H=some (Zi8 a b (decide (n<i+(UG (line.drop f) f).length)),H) ∧
  (n<i+(UG (line.drop f) f).length→(UG (line.drop f) f)[(n-i).toNat]?=some (a,b)):=by
 intro k
 induction k using Nat.strongRecOn with
 |_ k ih =>
  intro f i hk hf hi hn
  rw[IG]
  by_cases hfl:f<line.length
  ·have hlt:decide ((f:Int)<(line.length:Int))=true:=by simp;omega
   have hdl:0<(line.drop f).length:=by simp;omega
   simp only[go_sem,hlt,Iz]
   rw[Zuw hlen _ _ _ _ _ _ f rfl (by omega),IB]
   have hsb:=Zei (line.drop f)
   have hse:=Zv2 (line.drop f)
   have hsp:=ZsQ (line.drop f) hdl
   simp only[List.length_drop]at hsb hse
   rw[Zuv hlen _ _ _ _ _ _ (f+Y9 (line.drop f)) rfl (by omega),IC]
   have he:f+Y9 (line.drop f)+Xq (line.drop (f+Y9 (line.drop f)))=f+Vf (line.drop f):=by
    unfold Vf;rw[List.drop_drop];omega
   rw[he,Zqu _ _ hdl,List.drop_drop]
   by_cases hni:(i:Int)=n
   ·have hb:((i:Int)==n)=true:=by simp[hni]
    simp only[hb,go_sem]
    refine⟨f,f+Vf (line.drop f),?_,fun _=>by simp[←hni]⟩
    have:(true:Bool)=decide (n<(i:Int)+((f,f+Vf (line.drop f))::UG (line.drop (f+Vf (line.drop f))) (f+Vf (line.drop f))).length):=by
     symm;simp;omega
    rw[←this];rfl
   ·have hb:((i:Int)==n)=false:=by simp[hni]
    have hw3:IntKind.i64.wrap ((i:Int)+1)=((i+1:Nat):Int):=by rw[Zq (by omega) (by omega)];omega
    simp only[hb,go_sem,ID,IA,hw3]
    obtain⟨a,b,q1,q2⟩:=ih (line.length-(f+Vf (line.drop f))) (by omega) (f+Vf (line.drop f)) (i+1) rfl (by omega) (by omega) (by omega)
    refine⟨a,b,?_,fun h=>?_⟩
    ·rw[q1]
     have:decide (n<((i+1:Nat):Int)+(UG (line.drop (f+Vf (line.drop f))) (f+Vf (line.drop f))).length) =
      decide (n<(i:Int)+((f,f+Vf (line.drop f))::UG (line.drop (f+Vf (line.drop f))) (f+Vf (line.drop f))).length):=by
      congr 1;simp;constructor <;> intro h <;> omega
     rw[this]
    ·have hh:n<((i+1:Nat):Int)+(UG (line.drop (f+Vf (line.drop f))) (f+Vf (line.drop f))).length:=by simp at h ⊢;omega
     have:=q2 hh
     rw[show (n-(i:Int)).toNat=(n-((i+1:Nat):Int)).toNat+1 by omega]
     simpa using this
  ·have hlt:decide ((f:Int)<(line.length:Int))=false:=by simp;omega
   have hd:line.drop f=[]:=List.drop_eq_nil_iff.2 (by omega)
   simp only[go_sem,hlt,Iy,hd,UG]
   refine⟨0,0,?_,fun h=>by simp at h;omega⟩
   have:decide (n<(i:Int)+([]:List (Nat×Nat)).length)=false:=by simp;omega
   rw[this];rfl
def fields (line:List UInt8)(sep:Int):List (Nat×Nat):=if 0≤sep∧sep≤255 then YC (UInt8.ofNat sep.toNat) line 0 0 else UG line 0
theorem Zg7 {line:List UInt8}(hlen:line.length≤1048576)(sep:Int){n:Int}(hn:1≤n)(H:Hp) :
 ∃ a b,QP [.str line,.int .i64 n,.int .i64 sep] H=some (Zi8 a b (decide (n≤(fields line sep).length)),H) ∧
  (n≤(fields line sep).length→(fields line sep)[(n-1).toNat]?=some (a,b)):=by
 rw[Ob]
 unfold Lh fields
 by_cases h:0≤sep∧sep≤255
 ·have c1:decide ((0:Int)≤sep)=true:=by simp[h.1]
  have c2:decide (sep≤(255:Int))=true:=by simp[h.2]
  rw[if_pos h]
  simp only[go_sem,c1,c2]
  obtain⟨a,b,q1,q2⟩:=Zg6 hlen h.1 h.2 (n:=n) H H _ 0 1 rfl (by omega) (by omega) (by omega)
  simp only[List.drop_zero]at q1 q2
  refine⟨a,b,?_,fun h=>q2 (by omega)⟩
  have:decide (n≤((YC (UInt8.ofNat sep.toNat) line 0 0).length:Int))=decide (n<((1:Nat):Int)+(YC (UInt8.ofNat sep.toNat) line 0 0).length):=by congr 1;simp;constructor <;> intro h <;> omega
  rw[this]
  exact q1
 ·obtain⟨a,b,q1,q2⟩:=ZdR hlen (n:=n) H H _ 0 1 rfl (by omega) (by omega) (by omega)
  simp only[List.drop_zero]at q1 q2
  have main:B6 (.str line) (.int .i64 n) (.int .i64 0) H H=some (Zi8 a b (decide (n≤((UG line 0).length:Int))),H):=by
   rw[Ix]
   have:decide (n≤((UG line 0).length:Int))=decide (n<((1:Nat):Int)+(UG line 0).length):=by congr 1;simp;constructor <;> intro h <;> omega
   rw[this]
   exact q1
  refine⟨a,b,?_,fun h'=>by rw[if_neg h]at h' ⊢;exact q2 (by omega)⟩
  rw[if_neg h]
  by_cases h1:0≤sep
  ·have c1:decide ((0:Int)≤sep)=true:=by simp[h1]
   have c2:decide (sep≤(255:Int))=false:=by simp;omega
   simp only[go_sem,c1,c2]
   exact main
  ·have c1:decide ((0:Int)≤sep)=false:=by simp;omega
   simp only[go_sem,c1]
   exact main
def XY (p:Nat×Nat):AV:=.agg [.int .i64 p.1,.int .i64 p.2]
theorem LC (a b:Nat):(Yn [(0,1,.int .i64 (a:Int)),(1,1,.int .i64 (b:Int))] [.int .i64 0,.int .i64 0]).map AV.agg=some (XY (a,b)):=by
 simp[Yn,AV.known,AV.cells,splice,XY]
theorem Hz (p:Nat×Nat):(Zz 2 [(0,XY p)] [.agg [.int .i64 0,.int .i64 0]]).map (AV.vs 2 .clip)=some (.vs 2 .clip [XY p]):=by
 simp[Zz,AV.known,AV.cells,XY]
theorem CD {H:Hp}{x:AV}{acc:List (Nat×Nat)}(h:Row H 2 x (acc.map XY))(hl:acc.length≤1048577)(p:Nat×Nat) :
 ∃ x' H',ZS 2 16 x (.vs 2 .clip [XY p]) H=some (x',H')∧Row H' 2 x' ((acc++[p]).map XY)∧(∀ (i:Nat) (c:List AV),H[i]?=some (.cells c)→H'[i]?=some (.cells c)):=by
 obtain⟨x',H',h1,h2,_,h3,_⟩:=h.app 16 (.vs 2 .clip [XY p]) [XY p] (by simp[elems]) (by simp;omega)
 exact⟨x',H',h1,by simpa using h2,h3⟩
theorem ZdS {line:List UInt8}(hlen:line.length≤1048576){sep:Int}(h0:0≤sep)(h1:sep≤255)(H0:Hp):∀ (k p f:Nat) (acc:List (Nat×Nat)) (x:AV) (H:Hp),line.length-p=k→p≤line.length→acc.length≤p →
 Row H 2 x (acc.map XY)→∃ x' H',GP (.str line) (.int .i64 sep) x (.int .i64 (f:Int)) (.int .i64 (p:Int)) H0 H=some (x',H') ∧
  Row H' 2 x' ((acc++YC (UInt8.ofNat sep.toNat) (line.drop p) f p).map XY)∧(∀ (i:Nat) (c:List AV),H[i]?=some (.cells c)→H'[i]?=some (.cells c)):=by
 intro k
 induction k with
 |zero =>
  intro p f acc x H hk hp ha hr
  rw[ND]
  have hlt:decide ((p:Int)<(line.length:Int))=false:=by simp;omega
  have hd:line.drop p=[]:=List.drop_eq_nil_iff.2 (by omega)
  have hpl:p=line.length:=by omega
  obtain⟨x',H',g1,g2,g3⟩:=CD hr (by omega) (f,line.length)
  simp only[go_sem,hlt,ZdB,LC,Hz,g1,hd,YC]
  exact⟨x',H',rfl,by rw[hpl];exact g2,g3⟩
 |succ k ih =>
  intro p f acc x H hk hp ha hr
  rw[ND]
  have hl:p<line.length:=by omega
  have hlt:decide ((p:Int)<(line.length:Int))=true:=by simp;omega
  have hw:IntKind.i64.wrap ((p:Int)+1)=((p+1:Nat):Int):=by rw[Zq (by omega) (by omega)];omega
  have hcv:Yg .i64 (.int .u8 (line[p].toNat:Int))=some (.int .i64 (line[p].toNat:Int)):=by
   have:=line[p].toNat_lt
   simp only[Yg]
   rw[Zq (by omega) (by omega)]
  have hb:(((line[p].toNat:Int))==sep)=(line[p]==UInt8.ofNat sep.toNat):=by
   have:=Zu4 line[p] sep.toNat (by omega)
   rw[←this,show ((sep.toNat:Nat):Int)=sep by omega]
  simp only[go_sem,hlt,ZdC,ZC (List.getElem?_eq_getElem hl),hcv,hb]
  rw[Yu hl,NY]
  by_cases he:line[p]=UInt8.ofNat sep.toNat
  ·have hbt:(line[p]==UInt8.ofNat sep.toNat)=true:=by simpa using he
   obtain⟨x1,H1,g1,g2,g3⟩:=CD hr (by omega) (f,p)
   rw[if_pos he]
   simp only[hbt,go_sem,LC,Hz,g1,hw,NC]
   obtain⟨x',H',q1,q2,q3⟩:=ih (p+1) (p+1) (acc++[(f,p)]) x1 H1 (by omega) (by omega) (by simp;omega) g2
   exact⟨x',H',q1,by simpa using q2,fun i c h=>q3 i c (g3 i c h)⟩
  ·have hbf:(line[p]==UInt8.ofNat sep.toNat)=false:=by simpa using he
   simp only[hbf,go_sem,NC,hw,he,if_false]
   exact ih (p+1) f acc x H (by omega) (by omega) (by omega) hr
theorem Zc6 {line:List UInt8}(hlen:line.length≤1048576)(H0:Hp):∀ (k p f:Nat) (acc:List (Nat×Nat)) (x:AV) (H:Hp),line.length-p=k→1≤p→(hp:p≤line.length)→acc.length≤p →
 Row H 2 x (acc.map XY)→∃ x' H',GO (.str line) x (.int .i64 (f:Int)) (.int .i64 (p:Int)) H0 H=some (x',H') ∧
  Row H' 2 x' ((acc++Wh (Yf (line.getD (p-1) 0)) (line.drop p) f p).map XY)∧(∀ (i:Nat) (c:List AV),H[i]?=some (.cells c)→H'[i]?=some (.cells c)):=by
 intro k
 induction k with
 |zero =>
  intro p f acc x H hk h1 hp ha hr
  rw[GX]
  have hlt:decide ((p:Int)<(line.length:Int))=false:=by simp;omega
  have hd:line.drop p=[]:=List.drop_eq_nil_iff.2 (by omega)
  have hpl:p=line.length:=by omega
  have hgt:decide ((0:Int)<(line.length:Int))=true:=by simp;omega
  obtain⟨x',H',g1,g2,g3⟩:=CD hr (by omega) (f,line.length)
  simp only[go_sem,hlt,Nz,hgt,LC,Hz,g1,hd,Wh,NA]
  exact⟨x',H',rfl,by rw[hpl];exact g2,g3⟩
 |succ k ih =>
  intro p f acc x H hk h1 hp ha hr
  rw[GX]
  have hl:p<line.length:=by omega
  have hl1:p-1<line.length:=by omega
  have hlt:decide ((p:Int)<(line.length:Int))=true:=by simp;omega
  have hw:IntKind.i64.wrap ((p:Int)+1)=((p+1:Nat):Int):=by rw[Zq (by omega) (by omega)];omega
  have hw2:IntKind.i64.wrap ((p:Int)-1)=((p-1:Nat):Int):=by rw[Zq (by omega) (by omega)];omega
  have hg:line.getD (p-1) 0=line[p-1]:=by simp[List.getD_eq_getElem?_getD,hl1]
  have hg2:line.getD (p+1-1) 0=line[p]:=by simp[List.getD_eq_getElem?_getD,hl]
  simp only[go_sem,hlt,ZdA,ZC (List.getElem?_eq_getElem hl),Ru]
  rw[Yu hl,DA,hg]
  have stay:∀ (q:Bool),(Yf line[p]&&!Yf line[p-1])=false→∃ x' H',GL (.str line) x (.int .i64 (f:Int)) (.int .i64 (p:Int)) H0 H=some (x',H') ∧
   Row H' 2 x' ((acc++Wh (Yf line[p]) (line.drop (p+1)) f (p+1)).map XY)∧(∀ (i:Nat) (c:List AV),H[i]?=some (.cells c)→H'[i]?=some (.cells c)):=by
   intro q hq
   rw[NB]
   simp only[go_sem,hw]
   have:=ih (p+1) f acc x H (by omega) (by omega) (by omega) (by omega) hr
   rw[hg2]at this
   exact this
  cases hb:Yf line[p] with
  |false =>
   rw[hb]at stay
   simp only[go_sem,Bool.false_and,Bool.false_eq_true,if_false]
   exact stay true rfl
  |true =>
   rw[hb]at stay
   simp only[go_sem,hw2,ZC (List.getElem?_eq_getElem hl1),Ru,Bool.true_and]
   cases hb1:Yf line[p-1] with
   |true =>
    rw[hb1]at stay
    simp only[go_sem,Bool.not_true,Bool.false_eq_true,if_false]
    exact stay true rfl
   |false =>
    obtain⟨x1,H1,g1,g2,g3⟩:=CD hr (by omega) (f,p)
    simp only[go_sem,Bool.not_false,if_true,LC,Hz,g1,NB,hw]
    obtain⟨x',H',q1,q2,q3⟩:=ih (p+1) p (acc++[(f,p)]) x1 H1 (by omega) (by omega) (by omega) (by simp;omega) g2
    rw[hg2,hb]at q2
    exact⟨x',H',q1,by simpa using q2,fun i c h=>q3 i c (g3 i c h)⟩
theorem Zmb {line:List UInt8}(hlen:line.length≤1048576)(sep:Int)(H:Hp) :
 ∃ x' H',PV [.str line,.int .i64 sep] H=some (x',H')∧Row H' 2 x' ((fields line sep).map XY)∧(∀ (i:Nat) (c:List AV),H[i]?=some (.cells c)→H'[i]?=some (.cells c)):=by
 rw[Zew]
 unfold O0 fields
 by_cases h:0≤sep∧sep≤255
 ·have c1:decide ((0:Int)≤sep)=true:=by simp[h.1]
  have c2:decide (sep≤(255:Int))=true:=by simp[h.2]
  rw[if_pos h]
  simp only[go_sem,c1,c2]
  have:=ZdS hlen h.1 h.2 H _ 0 0 [] .nils H rfl (by omega) (by simp) (.inl ⟨rfl,rfl⟩)
  simpa using this
 ·rw[if_neg h]
  have main:∃ x' H',Tm (.str line) .nils (.int .i64 0) H H=some (x',H')∧Row H' 2 x' ((UG line 0).map XY)∧(∀ (i:Nat) (c:List AV),H[i]?=some (.cells c)→H'[i]?=some (.cells c)):=by
   rw[Zdz]
   cases hline:line with
   |nil =>
    rw[GX]
    have e1:decide ((1:Int)<(([]:List UInt8).length:Int))=false:=by decide
    have e2:decide ((0:Int)<(([]:List UInt8).length:Int))=false:=by decide
    simp only[go_sem,e1,Nz,e2,NA]
    exact⟨_,_,rfl,.inl ⟨rfl,rfl⟩,fun _ _ h=>h⟩
   |cons x l =>
    rw[←hline]
    have:=Zc6 hlen H _ 1 0 [] .nils H rfl (by omega) (by rw[hline];simp) (by simp) (.inl ⟨rfl,rfl⟩)
    rw[hline]at this ⊢
    simpa[ZaB]using this
  by_cases h1:0≤sep
  ·have c1:decide ((0:Int)≤sep)=true:=by simp[h1]
   have c2:decide (sep≤(255:Int))=false:=by simp;omega
   simp only[go_sem,c1,c2]
   exact main
  ·have c1:decide ((0:Int)≤sep)=false:=by simp;omega
   simp only[go_sem,c1]
   exact main
theorem Zo0 (c:UInt8)(L:Nat):∀ (l:List UInt8) (f p:Nat),f≤p→p+l.length=L→∀ x∈YC c l f p,x.1≤x.2∧x.2≤L:=by
 intro l
 induction l with
 |nil=>intro f p h1 h2 x hx;simp[YC]at hx;subst hx;simp at h2;simp;omega
 |cons b l ih =>
  intro f p h1 h2 x hx
  rw[NY]at hx
  simp at h2
  split at hx
  ·rcases List.mem_cons.1 hx with rfl|hx
   ·simp;omega
   ·exact ih (p+1) (p+1) (by omega) (by omega) x hx
  ·exact ih f (p+1) (by omega) (by omega) x hx
theorem Zo1 (L:Nat):∀ (l:List UInt8) (q:Bool) (f p:Nat),f≤p→p+l.length=L→∀ x∈Wh q l f p,x.1≤x.2∧x.2≤L:=by
 intro l
 induction l with
 |nil=>intro q f p h1 h2 x hx;simp[Wh]at hx;subst hx;simp at h2;simp;omega
 |cons b l ih =>
  intro q f p h1 h2 x hx
  rw[DA]at hx
  simp at h2
  split at hx
  ·rcases List.mem_cons.1 hx with rfl|hx
   ·simp;omega
   ·exact ih _ p (p+1) (by omega) (by omega) x hx
  ·exact ih _ f (p+1) (by omega) (by omega) x hx
theorem LB (line:List UInt8)(sep:Int):∀ x∈fields line sep,x.1≤x.2∧x.2≤line.length:=by
 intro x hx
 unfold fields at hx
 split at hx
 ·exact Zo0 _ line.length line 0 0 (Nat.le_refl _) (by omega) x hx
 ·cases line with
  |nil=>simp[UG]at hx
  |cons a l=>rw[ZaB]at hx;exact Zo1 (a::l).length l _ 0 1 (by omega) (by simp;omega) x hx
structure Ke where
 ff:Int
 fc:Int
 tf:Int
 tc:Int
 fl:Int
def Ke.cells (k:Ke):List AV:=[.int .i64 k.ff,.int .i64 k.fc,.int .i64 k.tf,.int .i64 k.tc,.int .i64 k.fl]
structure KeOk (k:Ke):Prop where
 ff:-9223372036854775808≤k.ff∧k.ff≤9223372036854775807
 fc:-9223372036854775808≤k.fc∧k.fc≤9223372036854775807
 tf:-9223372036854775808≤k.tf∧k.tf≤9223372036854775807
 tc:-9223372036854775808≤k.tc∧k.tc≤9223372036854775807
def VR (lo hi:Nat)(k:Ke):Nat:=lo+(min (max k.fc 1-1) ((hi:Int)-lo)).toNat
def GR (line:List UInt8)(fs:List (Nat×Nat))(k:Ke):Nat :=
 if 0<k.tf∧k.tf≤fs.length then (let p:=fs.getD (k.tf-1).toNat (0,0);if 0<k.tc then p.1+(min k.tc ((p.2:Int)-p.1)).toNat else p.2) else line.length
def ex (line:List UInt8)(fs:List (Nat×Nat))(k:Ke):List UInt8 :=
 if max k.ff 1≤fs.length then
  (let p:=fs.getD (max k.ff 1-1).toNat (0,0);if GR line fs k<VR p.1 p.2 k then [] else (line.take (GR line fs k)).drop (VR p.1 p.2 k)) else []
theorem ZtS (H:Hp)(x y:AObj):List.set (H++[x]) H.length y=H++[y]:=by simp
theorem Xg (H:Hp)(x:AObj):(H++[x])[H.length]?=some x:=ZkF _ _ _
theorem ZF {H:Hp}{o off:Nat}{l:List AV}(h:H[o]?=some (.cells l)):Z3 false 1 (.ptr o off) H=l[off]?:=by rw[Wf h];simp[Go.Am.apart]
theorem CO {line:List UInt8}{f e:Nat}(hf:f≤line.length)(he:e≤line.length)(hlen:line.length≤1048576)(H0 H:Hp) :
 XD (.str line) (.int .i64 (f:Int)) (.int .i64 (e:Int)) H0 H=some (.str (if e<f then [] else (line.take e).drop f),H):=by
 rw[Ce]
 by_cases h:e<f
 ·have c:decide ((e:Int)<(f:Int))=true:=by simp;omega
  simp only[go_sem,c,h,if_true]
 ·have c:decide ((e:Int)<(f:Int))=false:=by simp;omega
  have hs:=Po (s:=line) (n:=(f:Int)) (m:=(e:Int)) .i64 .i64 (by omega) (by omega) (by omega)
  have e1:((f:Int)).toNat=f:=by omega
  have e2:((e:Int)).toNat=e:=by omega
  rw[e1,e2]at hs
  simp only[go_sem,c,Cf,hs,h,if_false]
theorem PO {fs:List (Nat×Nat)}{i:Nat}{p:Nat×Nat}(h:fs[i]?=some p):fs.getD i (0,0)=p:=by simp[List.getD_eq_getElem?_getD,h]
theorem Zas {line:List UInt8}(hlen:line.length≤1048576){k:Ke}(hk:KeOk k)(sep:Int)(H:Hp) :
 ∃ H',Uk [.str line,.agg k.cells,.int .i64 sep] H=some (.str (ex line (fields line sep) k),H')∧(∀ (i:Nat) (x:AObj),H[i]?=some x→H'[i]?=some x):=by
 rw[Cp]
 unfold TI
 have hbox:ZU (.agg k.cells) H=some (.ptr H.length 0,H++[.cells k.cells]):=Bn rfl
 have hget:=Xg H (.cells k.cells)
 obtain⟨a,b,q1,q2⟩:=Zg7 hlen sep (n:=max k.ff 1) (by omega) (H++[.cells k.cells])
 simp only[Ke.cells]at hbox hget q1 ⊢
 simp only[hbox,go_sem,Nat.zero_add,ZF hget,List.getElem?_cons_zero]
 rw[q1]
 simp only[go_sem,Zi8,List.getElem?_cons_zero,List.getElem?_cons_succ]
 have hold:∀ (i:Nat) (x:AObj),H[i]?=some x→(H++[AObj.cells [.int .i64 k.ff,.int .i64 k.fc,.int .i64 k.tf,.int .i64 k.tc,.int .i64 k.fl]])[i]?=some x:=fun i x h=>Yy h _
 by_cases hin:max k.ff 1≤((fields line sep).length:Int)
 ·have c1:(!decide (max k.ff 1≤((fields line sep).length:Int)))=false:=by simp[hin]
  have hab:=q2 hin
  obtain⟨r1,r2⟩:=LB line sep _ (List.mem_of_getElem? hab)
  simp only at r1 r2
  simp only[c1,go_sem,Cd,Nat.zero_add,ZF hget,Ke.cells,List.getElem?_cons_zero,List.getElem?_cons_succ]
  have hfc:=hk.fc
  have w1:IntKind.i64.wrap (max k.fc 1-1)=max k.fc 1-1:=Zq (by omega) (by omega)
  have w2:IntKind.i64.wrap ((b:Int)-a)=(b:Int)-a:=Zq (by omega) (by omega)
  have w3:IntKind.i64.wrap ((a:Int)+min (max k.fc 1-1) ((b:Int)-a))=((VR a b k:Nat):Int):=by rw[Zq (by omega) (by omega)];unfold VR;omega
  have hfl:VR a b k≤line.length:=by unfold VR;omega
  simp only[w1,w2,w3]
  have fin:∀ e:Nat,e≤line.length→e=GR line (fields line sep) k→ex line (fields line sep) k=(if e<VR a b k then [] else (line.take e).drop (VR a b k)):=by
   intro e _ he
   subst he
   unfold ex
   rw[if_pos hin,PO hab]
  by_cases ht:0<k.tf
  ·have c2:decide ((0:Int)<k.tf)=true:=by simp[ht]
   obtain⟨a2,b2,p1,p2⟩:=Zg7 hlen sep (n:=k.tf) (by omega) (H++[.cells k.cells])
   simp only[Ke.cells]at p1
   simp only[c2,go_sem,Nat.zero_add,ZF hget,Ke.cells,List.getElem?_cons_zero,List.getElem?_cons_succ,p1,Zi8]
   by_cases hin2:k.tf≤((fields line sep).length:Int)
   ·have c3:decide (k.tf≤((fields line sep).length:Int))=true:=by simp[hin2]
    have hab2:=p2 hin2
    obtain⟨s1,s2⟩:=LB line sep _ (List.mem_of_getElem? hab2)
    simp only at s1 s2
    simp only[c3,go_sem,Nat.zero_add,ZF hget,Ke.cells,List.getElem?_cons_zero,List.getElem?_cons_succ]
    have htc:=hk.tc
    by_cases hc:0<k.tc
    ·have c4:decide ((0:Int)<k.tc)=true:=by simp[hc]
     have w4:IntKind.i64.wrap ((b2:Int)-a2)=(b2:Int)-a2:=Zq (by omega) (by omega)
     have w5:IntKind.i64.wrap ((a2:Int)+min k.tc ((b2:Int)-a2))=((a2+(min k.tc ((b2:Int)-a2)).toNat:Nat):Int):=by rw[Zq (by omega) (by omega)];omega
     simp only[c4,go_sem,Nat.zero_add,ZF hget,Ke.cells,List.getElem?_cons_zero,List.getElem?_cons_succ,w4,w5]
     rw[CO hfl (by omega) hlen]
     rw[fin (a2+(min k.tc ((b2:Int)-a2)).toNat) (by omega) (by unfold GR;rw[if_pos ⟨ht,hin2⟩,PO hab2];simp[hc])]
     exact⟨_,rfl,hold⟩
    ·have c4:decide ((0:Int)<k.tc)=false:=by simp;omega
     simp only[c4,go_sem]
     rw[CO hfl s2 hlen]
     rw[fin b2 s2 (by unfold GR;rw[if_pos ⟨ht,hin2⟩,PO hab2];simp[hc])]
     exact⟨_,rfl,hold⟩
   ·have c3:decide (k.tf≤((fields line sep).length:Int))=false:=by simp;omega
    simp only[c3,go_sem]
    rw[CO hfl (Nat.le_refl _) hlen]
    rw[fin line.length (Nat.le_refl _) (by unfold GR;rw[if_neg (fun h=>hin2 h.2)])]
    exact⟨_,rfl,hold⟩
  ·have c2:decide ((0:Int)<k.tf)=false:=by simp;omega
   simp only[c2,go_sem]
   rw[CO hfl (Nat.le_refl _) hlen]
   rw[fin line.length (Nat.le_refl _) (by unfold GR;rw[if_neg (fun h=>ht h.1)])]
   exact⟨_,rfl,hold⟩
 ·have c1:(!decide (max k.ff 1≤((fields line sep).length:Int)))=true:=by simp;omega
  simp only[c1,go_sem]
  have:ex line (fields line sep) k=[]:=by unfold ex;rw[if_neg hin]
  rw[this]
  exact⟨_,rfl,hold⟩
def Sl (k:Nat)(x:AV)(l:List AV):Prop:=x=.nils∧l=[]∨∃ tok,x=.vs k tok l
theorem Sl.len {k:Nat}{x:AV}{l:List AV}(h:Sl k x l)(e:Nat):Zj (.slice e) x=some (.int .i64 l.length):=by
 rcases h with ⟨rfl,rfl⟩|⟨tok,rfl⟩ <;> rfl
theorem Sl.idx {k:Nat}{x:AV}{l:List AV}(h:Sl k x l){i:Nat}{c:AV}(hi:l[i]?=some c):Zl k x (.int .i64 (i:Int))=some (.vp c.cells):=by
 rcases h with ⟨rfl,rfl⟩|⟨tok,rfl⟩
 ·simp at hi
 ·simp[Zl,hi]
theorem Zbq {f:AV→Option AV}:∀ {l:List AV},(∀ x∈l,f x=some x)→l.mapM f=some l:=by
 intro l
 induction l with
 |nil=>intro _;rfl
 |cons a l ih =>
  intro h
  rw[List.mapM_cons,h a (by simp),ih (fun x hx=>h x (by simp[hx]))]
  rfl
theorem ZpS (H:Hp)(n f k:Nat)(tok:Tok)(l:List AV):Ze H n (f+1) (.vs k tok l)=match l.mapM (Ze H n f) with
 |some l=>some (.vs k (match tok with|.own t e=>if t<n then .own t e else .no|tok=>tok) l)
 |none=>none:=(Eq.refl _).trans (Eq.refl _)
theorem G1 (H:Hp)(n f:Nat)(l:List AV):Ze H n (f+1) (.agg l)=match l.mapM (Ze H n f) with
 |some l=>some (.agg l)
 |none=>none:=(Eq.refl _).trans (Eq.refl _)
theorem Sl.close {k:Nat}{x:AV}{l:List AV}(h:Sl k x l){H:Hp}{n f:Nat}(hl:∀ c∈l,Ze H n f c=some c):∃ x',Ze H n (f+1) x=some x'∧Sl k x' l:=by
 rcases h with ⟨rfl,rfl⟩|⟨tok,rfl⟩
 ·exact⟨.nils,rfl,.inl ⟨rfl,rfl⟩⟩
 ·have e:=ZpS H n f k tok l
  rw[Zbq hl]at e
  exact⟨_,e,.inr ⟨_,rfl⟩⟩
def Ke.av (k:Ke):AV:=.agg k.cells
theorem Ke.close (k:Ke)(H:Hp)(n f:Nat):Ze H n (f+2) k.av=some k.av:=by
 have:k.cells.mapM (Ze H n (f+1))=some k.cells:=Zbq fun x hx=>by
  simp only[Ke.cells,List.mem_cons,List.not_mem_nil,or_false]at hx
  rcases hx with rfl|rfl|rfl|rfl|rfl <;> rfl
 rw[Ke.av,G1,this]
structure Spec where
 keys:List Ke
 sep:Int
 flags:Int
 stab:Bool
 uniq:Bool
def Spec.cells (x:AV)(p:Spec):List AV:=[x,.int .i64 p.sep,.int .i64 p.flags,.bool p.uniq,.bool p.stab]
def SpecAV (a:AV)(p:Spec):Prop:=∃ x,a=.agg (p.cells x)∧Sl 5 x (p.keys.map Ke.av)
theorem SpecAV.close {a:AV}{p:Spec}(h:SpecAV a p)(H:Hp)(n f:Nat):∃ a',Ze H n (f+4) a=some a'∧SpecAV a' p:=by
 obtain⟨x,rfl,hx⟩:=h
 obtain⟨x',h1,h2⟩:=hx.close (H:=H) (n:=n) (f:=f+2) (fun c hc=>by
  obtain⟨k,_,rfl⟩:=List.mem_map.1 hc
  exact k.close H n f)
 refine⟨.agg (p.cells x'),?_,x',rfl,h2⟩
 have:(p.cells x).mapM (Ze H n (f+3))=some (p.cells x'):=by
  simp only[Spec.cells,List.mapM_cons,h1,List.mapM_nil]
  rfl
 rw[G1,this]
theorem YZ {f:List AV→Hp→Z4}{a a' v:AV}{H H1:Hp}(ha:Ze [] 0 6 a=some a')(hc:f [a'] []=some (v,H1))(hv:QU 3 v=true):Zc f [a] H=some (v,H) :=
 Ju (args':=[a']) (by simp[ha]) hc hv
theorem WH {f:List AV→Hp→Z4}{a a' b b' v:AV}{H H1:Hp}(ha:Ze [] 0 6 a=some a')(hb:Ze [] 0 6 b=some b')(hc:f [a',b'] []=some (v,H1))(hv:QU 3 v=true):Zc f [a,b] H=some (v,H) :=
 Ju (args':=[a',b']) (by simp[ha,hb]) hc hv
def Qx (k:Ke):Bool:=decide (k.ff<1) || (decide (k.fc<1) || (decide (k.tf<0) || (decide (k.tc<0) || ((k.tf==0&&k.tc != 0) || (decide (k.fl<0) || decide (31<k.fl))))))
def ZO (p:Spec):Int :=
 if 8<p.keys.length then 3 else if decide (p.sep < -1) || (decide (255<p.sep) || (p.sep==10 || (decide (p.flags<0) || decide (31<p.flags)))) then 2 else if p.keys.any Qx then 2 else 0
theorem Bp (k:Ke)(H:Hp):Z3 true 5 (.vp k.cells) H=some (.agg k.cells):=by simp[Z3,Go.Am.apart,Ke.cells]
theorem NM (H:Hp)(k:Ke)(z:List AV)(hz:z.length=5):Zi 5 (.ptr H.length 0) (.agg k.cells) (H++[.cells z])=some (.tuple [],H++[.cells k.cells]):=by
 rw[Wu (sz:=5) (v:=.agg k.cells) (Xg _ _) rfl rfl (by omega)]
 simp[AV.cells,splice,hz,Ke.cells]
theorem ZA (H:Hp)(l:List AV)(off:Nat):Z3 false 1 (.ptr H.length off) (H++[.cells l])=l[off]?:=ZF (Xg H _)
theorem YP (l:List AV)(H:Hp):ZU (.agg l) H=some (.ptr H.length 0,H++[.cells l]):=Bn rfl
attribute [go_sem] YP ZA
theorem Sl.key {x:AV}{l:List Ke}(h:Sl 5 x (l.map Ke.av)){i:Nat}{k:Ke}(hi:l[i]?=some k):Zl 5 x (.int .i64 (i:Int))=some (.vp k.cells):=h.idx (c:=k.av) (by simp[hi])
theorem Zw9 {x:AV}{l:List Ke}(h:Sl 5 x (l.map Ke.av)){i:Nat}{k:Ke}(hi:l[i]?=some k)(n t:AV)(H0 H:Hp) :
 ∃ H',B3 x n (.int .i64 (i:Int)) t H0 H=if Qx k then some (.int .i64 2,H') else B4 x n (.int .i64 (i:Int)) H0 H':=by
 rw[Is]
 refine⟨H++[.cells k.cells],?_⟩
 have hg:=Xg H (.cells k.cells)
 simp only[h.key hi,Bp,go_sem,NM H k [.int .i64 0,.int .i64 0,.int .i64 0,.int .i64 0,.int .i64 0] rfl]
 simp only[go_sem,Nat.zero_add,ZA,Ke.cells,List.getElem?_cons_zero,List.getElem?_cons_succ]
 unfold Qx
 cases e1:decide (k.ff<1) with
 |true=>simp only[go_sem,Bool.true_or,if_true]
 |false =>
 simp only[go_sem,Bool.false_or,Nat.zero_add,ZA,Ke.cells,List.getElem?_cons_zero,List.getElem?_cons_succ]
 cases e2:decide (k.fc<1) with
 |true=>simp only[go_sem,Bool.true_or,if_true]
 |false =>
 simp only[go_sem,Bool.false_or,Nat.zero_add,ZA,Ke.cells,List.getElem?_cons_zero,List.getElem?_cons_succ]
 cases e3:decide (k.tf<0) with
 |true=>simp only[go_sem,Bool.true_or,if_true]
 |false =>
 simp only[go_sem,Bool.false_or,Nat.zero_add,ZA,Ke.cells,List.getElem?_cons_zero,List.getElem?_cons_succ]
 cases e4:decide (k.tc<0) with
 |true=>simp only[go_sem,Bool.true_or,if_true]
 |false =>
 simp only[go_sem,Bool.false_or,Nat.zero_add,ZA,Ke.cells,List.getElem?_cons_zero,List.getElem?_cons_succ]
 have last:∀ b:Bool,b=false→True:=fun _ _=>trivial
 cases e5:(k.tf==0) with
 |true =>
  simp only[go_sem,Bool.true_and,Nat.zero_add,ZA,Ke.cells,List.getElem?_cons_zero,List.getElem?_cons_succ]
  cases e6:(k.tc != 0) with
  |true=>simp only[go_sem,Bool.true_or,if_true]
  |false =>
   simp only[go_sem,Bool.false_or,Nat.zero_add,ZA,Ke.cells,List.getElem?_cons_zero,List.getElem?_cons_succ]
   cases e7:decide (k.fl<0) with
   |true=>simp only[go_sem,Bool.true_or,if_true]
   |false =>
    simp only[go_sem,Bool.false_or,Nat.zero_add,ZA,Ke.cells,List.getElem?_cons_zero,List.getElem?_cons_succ]
    cases e8:decide (31<k.fl) <;> simp[go_sem]
 |false =>
  simp only[go_sem,Bool.false_and,Bool.false_or,Nat.zero_add,ZA,Ke.cells,List.getElem?_cons_zero,List.getElem?_cons_succ]
  cases e7:decide (k.fl<0) with
  |true=>simp only[go_sem,Bool.true_or,if_true]
  |false =>
   simp only[go_sem,Bool.false_or,Nat.zero_add,ZA,Ke.cells,List.getElem?_cons_zero,List.getElem?_cons_succ]
   cases e8:decide (31<k.fl) <;> simp[go_sem]
theorem Zwa {x:AV}{l:List Ke}(h:Sl 5 x (l.map Ke.av))(hl:l.length≤8)(H0:Hp):∀ (m i:Nat) (H:Hp),l.length-i=m→i≤l.length →
 ∃ H',Qi x (.int .i64 (l.length:Int)) (.int .i64 (i:Int)) H0 H=some (.int .i64 (if (l.drop i).any Qx then 2 else 0),H'):=by
 intro m
 induction m with
 |zero =>
  intro i H hm hi
  rw[Fj]
  have hlt:decide ((i:Int)<(l.length:Int))=false:=by simp;omega
  have hd:l.drop i=[]:=List.drop_eq_nil_iff.2 (by omega)
  simp only[go_sem,hlt,Ir,hd,List.any_nil]
  exact⟨_,rfl⟩
 |succ m ih =>
  intro i H hm hi
  rw[Fj]
  have hl1:i<l.length:=by omega
  have hlt:decide ((i:Int)<(l.length:Int))=true:=by simp;omega
  have hw:IntKind.i64.wrap ((i:Int)+1)=((i+1:Nat):Int):=by rw[Zq (by omega) (by omega)];omega
  obtain⟨H1,e1⟩:=Zw9 h (List.getElem?_eq_getElem hl1) (.int .i64 (l.length:Int)) (.bool true) H0 H
  simp only[go_sem,hlt,e1]
  rw[List.drop_eq_getElem_cons hl1,List.any_cons]
  cases hb:Qx l[i] with
  |true=>simp only[if_true,Bool.true_or];exact⟨_,rfl⟩
  |false =>
   simp only[Bool.false_eq_true,if_false,Bool.false_or,Iu,go_sem,hw]
   exact ih (i+1) H1 (by omega) (by omega)
theorem ZnI {a:AV}{p:Spec}(h:SpecAV a p)(H:Hp):∃ H',WA [a] H=some (.int .i64 (ZO p),H'):=by
 obtain⟨x,rfl,hx⟩:=h
 rw[O8]
 unfold Ld ZO
 have hg:=Xg H (.cells (p.cells x))
 have hlen:=hx.len 149
 rw[List.length_map]at hlen
 simp only[go_sem,Nat.zero_add,ZA,Spec.cells,List.getElem?_cons_zero,List.getElem?_cons_succ,hlen]
 by_cases h8:8<p.keys.length
 ·have c1:decide ((8:Int)<(p.keys.length:Int))=true:=by simp;omega
  simp only[c1,go_sem,h8,if_true]
  exact⟨_,rfl⟩
 have c1:decide ((8:Int)<(p.keys.length:Int))=false:=by simp;omega
 simp only[c1,go_sem,h8,if_false,Ip,Nat.zero_add,ZA,Spec.cells,List.getElem?_cons_zero,List.getElem?_cons_succ]
 cases e1:decide (p.sep < -1) with
 |true=>simp only[go_sem,Bool.true_or,if_true];exact⟨_,rfl⟩
 |false =>
 simp only[go_sem,Bool.false_or,Nat.zero_add,ZA,Spec.cells,List.getElem?_cons_zero,List.getElem?_cons_succ]
 cases e2:decide (255<p.sep) with
 |true=>simp only[go_sem,Bool.true_or,if_true];exact⟨_,rfl⟩
 |false =>
 simp only[go_sem,Bool.false_or,Nat.zero_add,ZA,Spec.cells,List.getElem?_cons_zero,List.getElem?_cons_succ]
 cases e3:(p.sep==10) with
 |true=>simp only[go_sem,Bool.true_or,if_true];exact⟨_,rfl⟩
 |false =>
 simp only[go_sem,Bool.false_or,Nat.zero_add,ZA,Spec.cells,List.getElem?_cons_zero,List.getElem?_cons_succ]
 cases e4:decide (p.flags<0) with
 |true=>simp only[go_sem,Bool.true_or,if_true];exact⟨_,rfl⟩
 |false =>
 simp only[go_sem,Bool.false_or,Nat.zero_add,ZA,Spec.cells,List.getElem?_cons_zero,List.getElem?_cons_succ]
 cases e5:decide (31<p.flags) with
 |true=>simp only[go_sem,if_true];exact⟨_,rfl⟩
 |false =>
 simp only[go_sem,Bool.false_eq_true,if_false,Iq,Nat.zero_add,ZA,Spec.cells,List.getElem?_cons_zero,List.getElem?_cons_succ,hlen]
 have:=Zwa hx (by omega) H p.keys.length 0 (H++[.cells (p.cells x)]) (by omega) (by omega)
 simpa[Spec.cells]using this
theorem CI {a:AV}{p:Spec}(h:SpecAV a p)(H:Hp):Zc WA [a] H=some (.int .i64 (ZO p),H):=by
 obtain⟨a',h1,h2⟩:=h.close [] 0 2
 obtain⟨H',h3⟩:=ZnI h2 []
 exact YZ h1 h3 rfl
theorem ZoS (k:Ke)(H:Hp):∃ H',Ra [k.av] H=some (.bool (!Qx k),H'):=by
 rw[Zhn]
 unfold Zcq Ke.av
 simp only[go_sem,Nat.zero_add,Ke.cells,List.getElem?_cons_zero,List.getElem?_cons_succ]
 unfold Qx
 have j1:∀ b:Bool,b=(decide (k.fl<0) || decide (31<k.fl))→∃ H',NF (.ptr H.length 0) H (H++[.cells [.int .i64 k.ff,.int .i64 k.fc,.int .i64 k.tf,.int .i64 k.tc,.int .i64 k.fl]])=some (.bool (!b),H'):=by
  intro b hb
  rw[Zfp]
  simp only[go_sem,Nat.zero_add,List.getElem?_cons_zero,List.getElem?_cons_succ]
  cases e7:decide (k.fl<0) with
  |true =>
   have:decide (0≤k.fl)=false:=by simp at e7 ⊢;omega
   simp only[this,go_sem]
   rw[hb,e7]
   exact⟨_,rfl⟩
  |false =>
   have:decide (0≤k.fl)=true:=by simp at e7 ⊢;omega
   simp only[this,go_sem,Nat.zero_add,List.getElem?_cons_zero,List.getElem?_cons_succ]
   have e:decide (k.fl≤31)=!decide (31<k.fl):=by rw[Bool.eq_iff_iff];simp
   rw[hb,e7,e]
   exact⟨_,rfl⟩
 cases e1:decide (k.ff<1) with
 |true=>simp only[go_sem,Bool.true_or,Bool.not_true];exact⟨_,rfl⟩
 |false =>
 simp only[go_sem,Bool.false_or,Nat.zero_add,Ke.cells,List.getElem?_cons_zero,List.getElem?_cons_succ]
 cases e2:decide (k.fc<1) with
 |true=>simp only[go_sem,Bool.true_or,Bool.not_true];exact⟨_,rfl⟩
 |false =>
 simp only[go_sem,Bool.false_or,Nat.zero_add,Ke.cells,List.getElem?_cons_zero,List.getElem?_cons_succ]
 cases e3:decide (k.tf<0) with
 |true=>simp only[go_sem,Bool.true_or,Bool.not_true];exact⟨_,rfl⟩
 |false =>
 simp only[go_sem,Bool.false_or,Nat.zero_add,Ke.cells,List.getElem?_cons_zero,List.getElem?_cons_succ]
 cases e4:decide (k.tc<0) with
 |true=>simp only[go_sem,Bool.true_or,Bool.not_true];exact⟨_,rfl⟩
 |false =>
 simp only[go_sem,Bool.false_or,Nat.zero_add,Ke.cells,List.getElem?_cons_zero,List.getElem?_cons_succ]
 cases e5:(k.tf==0) with
 |true =>
  simp only[go_sem,Bool.true_and,Nat.zero_add,Ke.cells,List.getElem?_cons_zero,List.getElem?_cons_succ]
  cases e6:(k.tc != 0) with
  |true=>simp only[go_sem,Bool.true_or,Bool.not_true];exact⟨_,rfl⟩
  |false=>simp only[go_sem,Bool.false_or];exact j1 _ rfl
 |false=>simp only[go_sem,Bool.false_and,Bool.false_or];exact j1 _ rfl
theorem ZoR (k:Ke)(H:Hp):Zc Ra [k.av] H=some (.bool (!Qx k),H):=by
 obtain⟨H',h3⟩:=ZoS k []
 exact YZ (k.close [] 0 4) h3 rfl
theorem Zvw {x:AV}{l:List Ke}(h:Sl 5 x (l.map Ke.av))(hl:l.length≤8)(H0:Hp){o:Nat}{r:List AV}{H:Hp}(ho:H[o]?=some (.cells (x::r))):∀ (m i:Nat),l.length-i=m→i≤l.length →
 Db (.ptr o 0) (.int .i64 (i:Int)) H0 H=some (.int .i64 (if (l.drop i).any Qx then 2 else 0),H):=by
 have hlen:=h.len 149
 rw[List.length_map]at hlen
 intro m
 induction m with
 |zero =>
  intro i hm hi
  rw[Lu]
  have hlt:decide ((i:Int)<(l.length:Int))=false:=by simp;omega
  have hd:l.drop i=[]:=List.drop_eq_nil_iff.2 (by omega)
  simp only[go_sem,Nat.zero_add,ZF ho,List.getElem?_cons_zero,hlen,hlt,Zfh,hd,List.any_nil]
  rfl
 |succ m ih =>
  intro i hm hi
  rw[Lu]
  have hl1:i<l.length:=by omega
  have hlt:decide ((i:Int)<(l.length:Int))=true:=by simp;omega
  have hw:IntKind.i64.wrap ((i:Int)+1)=((i+1:Nat):Int):=by rw[Zq (by omega) (by omega)];omega
  have hr:=ZoR l[i] H
  unfold Ke.av at hr
  simp only[go_sem,Nat.zero_add,ZF ho,List.getElem?_cons_zero,hlen,hlt,Zfi,h.key (List.getElem?_eq_getElem hl1),Bp,hr,Bool.not_not]
  rw[List.drop_eq_getElem_cons hl1,List.any_cons]
  cases hb:Qx l[i] with
  |true=>simp only[go_sem,if_true,Bool.true_or]
  |false =>
   simp only[go_sem,Bool.false_or,Zfj,hw]
   exact ih (i+1) (by omega) (by omega)
theorem Zmu {a:AV}{p:Spec}(h:SpecAV a p)(H:Hp):∃ H',KS [a] H=some (.int .i64 (ZO p),H'):=by
 obtain⟨x,rfl,hx⟩:=h
 rw[Zhi]
 unfold Zcl ZO
 have hlen:=hx.len 149
 rw[List.length_map]at hlen
 simp only[go_sem,Nat.zero_add,Spec.cells,List.getElem?_cons_zero,List.getElem?_cons_succ,hlen]
 by_cases h8:8<p.keys.length
 ·have c1:decide ((8:Int)<(p.keys.length:Int))=true:=by simp;omega
  simp only[c1,go_sem,h8,if_true]
  exact⟨_,rfl⟩
 have c1:decide ((8:Int)<(p.keys.length:Int))=false:=by simp;omega
 simp only[c1,go_sem,h8,if_false,Zff,Nat.zero_add,Spec.cells,List.getElem?_cons_zero,List.getElem?_cons_succ]
 cases e1:decide (p.sep < -1) with
 |true=>simp only[go_sem,Bool.true_or,if_true];exact⟨_,rfl⟩
 |false =>
 simp only[go_sem,Bool.false_or,Nat.zero_add,Spec.cells,List.getElem?_cons_zero,List.getElem?_cons_succ]
 cases e2:decide (255<p.sep) with
 |true=>simp only[go_sem,Bool.true_or,if_true];exact⟨_,rfl⟩
 |false =>
 simp only[go_sem,Bool.false_or,Nat.zero_add,Spec.cells,List.getElem?_cons_zero,List.getElem?_cons_succ]
 cases e3:(p.sep==10) with
 |true=>simp only[go_sem,Bool.true_or,if_true];exact⟨_,rfl⟩
 |false =>
 simp only[go_sem,Bool.false_or,Nat.zero_add,Spec.cells,List.getElem?_cons_zero,List.getElem?_cons_succ]
 cases e4:decide (p.flags<0) with
 |true=>simp only[go_sem,Bool.true_or,if_true];exact⟨_,rfl⟩
 |false =>
 simp only[go_sem,Bool.false_or,Nat.zero_add,Spec.cells,List.getElem?_cons_zero,List.getElem?_cons_succ]
 cases e5:decide (31<p.flags) with
 |true=>simp only[go_sem,if_true];exact⟨_,rfl⟩
 |false =>
 simp only[go_sem,Bool.false_eq_true,if_false,Zfg]
 have:=Zvw hx (by omega) H (Xg H (.cells [x,.int .i64 p.sep,.int .i64 p.flags,.bool p.uniq,.bool p.stab])) p.keys.length 0 (by omega) (by omega)
 rw[show ((0:Nat):Int)=0 from rfl,List.drop_zero]at this
 exact⟨_,this⟩
theorem ZcR {a:AV}{p:Spec}(h:SpecAV a p)(H:Hp):Zc KS [a] H=some (.int .i64 (ZO p),H):=by
 obtain⟨a',h1,h2⟩:=h.close [] 0 2
 obtain⟨H',h3⟩:=Zmu h2 []
 exact YZ h1 h3 rfl
end Go.Am
namespace Go.Am
open Go.Proofs
def RowN (n:Nat)(H:Hp)(k:Nat)(x:AV)(l:List AV):Prop:=x=.nils∧l=[]∨∃ t e,x=.vs k (.own t e) l∧H[t]?=some (.tok e)∧n≤t
def Keep (n:Nat)(H H':Hp):Prop:=∀ i,i<n→H'[i]?=H[i]?
theorem Keep.refl (n:Nat)(H:Hp):Keep n H H:=fun _ _=>rfl
theorem Keep.trans {n:Nat}{A B C:Hp}(h:Keep n A B)(k:Keep n B C):Keep n A C:=fun i hi=>(k i hi).trans (h i hi)
theorem Keep.push {n:Nat}(H:Hp)(hn:n≤H.length)(l:List AObj):Keep n H (H++l):=fun i hi=>List.getElem?_append_left (by omega)
theorem RowN.nil (n:Nat)(H:Hp)(k:Nat):RowN n H k .nils []:=.inl ⟨rfl,rfl⟩
theorem RowN.sl {n:Nat}{H:Hp}{k:Nat}{x:AV}{l:List AV}(h:RowN n H k x l):Sl k x l:=h.imp id fun⟨t,e,a,_⟩=>⟨_,a⟩
theorem RowN.push {n:Nat}{H:Hp}{k:Nat}{x:AV}{l:List AV}(h:RowN n H k x l)(r:List AObj):RowN n (H++r) k x l:=h.imp id fun⟨t,e,a,b,c⟩=>⟨t,e,a,Yy b _,c⟩
theorem RowN.app {n:Nat}{H:Hp}{k:Nat}{x:AV}{l:List AV}(h:RowN n H k x l)(hn:n≤H.length)(bytes:Nat)(y:AV)(ys:List AV)(hy:elems k y H=some ys)(hf:(l.length+ys.length)*(bytes+1)≤140737488355328) :
 ∃ x' H',ZS k bytes x y H=some (x',H')∧RowN n H' k x' (l++ys)∧n≤H'.length∧Keep n H H'∧(∀ (i:Nat) (c:List AV),H[i]?=some (.cells c)→H'[i]?=some (.cells c)):=by
 unfold ZS
 simp only[hy]
 rcases h with ⟨rfl,rfl⟩|⟨t,e,rfl,ht,hnt⟩
 ·by_cases hys:ys=[]
  ·subst hys
   exact⟨.nils,H,by simp[Yc],.inl ⟨rfl,rfl⟩,hn,Keep.refl _ _,fun _ _ h=>h⟩
  ·have hfit:fits ys.length bytes=true:=by simpa[fits]using hf
   exact⟨.vs k (.own H.length ys.length) ys,H++[.tok ys.length],by simp only[Yc,hys,if_false,hfit,if_true],.inr ⟨H.length,ys.length,rfl,by simp,hn⟩,by simp;omega,Keep.push H hn _,fun i c h=>Yy h _⟩
 ·have hfit:fits (l.length+ys.length) bytes=true:=by simpa[fits]using hf
  by_cases hys:ys=[]
  ·subst hys
   exact⟨.vs k (.own t e) l,H,by simp only[Yc,List.length_nil,Nat.add_zero]at hfit ⊢;simp only[hfit,and_self,if_true],.inr ⟨t,e,by simp,ht,hnt⟩,hn,Keep.refl _ _,fun _ _ h=>h⟩
  ·refine⟨_,_,by simp only[Yc,hfit,and_self,if_true,hys,if_false,ht],.inr ⟨t,e+ys.length,rfl,ZB _ ht,hnt⟩,by simp;omega,fun i hi=>List.getElem?_set_ne (by omega),fun i c h=>?_⟩
   refine Yd _ (fun he=>?_) h
   subst he
   rw[ht]at h
   cases h
theorem ZrH {H0 H:Hp}(h:Keep H0.length H0 H)(hl:H0.length≤H.length):H.take H0.length=H0:=by
 apply List.ext_getElem?
 intro i
 by_cases hi:i<H0.length
 ·rw[List.getElem?_take_of_lt hi];exact h i hi
 ·rw[List.getElem?_eq_none (by simp;omega),List.getElem?_eq_none (by omega)]
theorem ZaK {H0 H:Hp}(h:Keep H0.length H0 H)(hl:H0.length≤H.length){k:Nat}{x:AV}{l:List AV}(hx:Sl k x l)(hc:∀ c∈l,Ze H H0.length 5 c=some c):∃ x',M4 H0 x H=some (x',H0)∧Sl k x' l:=by
 obtain⟨x',h1,h2⟩:=hx.close (H:=H) (n:=H0.length) (f:=5) hc
 refine⟨x',?_,h2⟩
 unfold M4
 rw[if_pos (ZrH h hl),h1]
def ZpP (n j:Nat):Bool:=match Z5 .and (.int .i64 n) (.int .i64 ((2 ^ j:Nat):Int)) with
 |some (.int .i64 m)=>m==(if n.testBit j then ((2 ^ j:Nat):Int) else 0)
 |_=>false
theorem ZnJ:((List.range 32).all fun n=>(List.range 5).all fun j=>ZpP n j)=true:=by kernel_rfl
theorem V0 {n:Nat}{p:Nat→Bool}(h:(List.range n).all p=true){i:Nat}(hi:i<n):p i=true:=List.all_eq_true.1 h i (List.mem_range.2 hi)
theorem Zae {n j:Nat}(hn:n<32)(hj:j<5):Z5 .and (.int .i64 n) (.int .i64 ((2 ^ j:Nat):Int))=some (.int .i64 (if n.testBit j then ((2 ^ j:Nat):Int) else 0)):=by
 have h:=V0 (V0 ZnJ hn) hj
 unfold ZpP at h
 split at h
 ·rename_i m hm
  rw[hm]
  have:m=(if n.testBit j then ((2 ^ j:Nat):Int) else 0):=by simpa using h
  rw[this]
 ·cases h
noncomputable def ZpQ (n j:Nat):Bool:=match Zib (.int .i64 n) (.int .i64 ((2 ^ j:Nat):Int)) [] with
 |some (.bool b,[])=>b==n.testBit j
 |_=>false
theorem ZnK:((List.range 32).all fun n=>(List.range 5).all fun j=>ZpQ n j)=true:=by kernel_rfl
theorem ZaC {n j:Nat}(hn:n<32)(hj:j<5)(H:Hp):Zc Xw [.int .i64 n,.int .i64 ((2 ^ j:Nat):Int)] H=some (.bool (n.testBit j),H):=by
 have h:=V0 (V0 ZnK hn) hj
 unfold ZpQ at h
 split at h
 ·rename_i b hb
  have:b=n.testBit j:=by simpa using h
  subst this
  exact WH (a':=.int .i64 n) (b':=.int .i64 ((2 ^ j:Nat):Int)) rfl rfl ((ZjV _ _ _).trans hb) rfl
 ·cases h
end Go.Am
