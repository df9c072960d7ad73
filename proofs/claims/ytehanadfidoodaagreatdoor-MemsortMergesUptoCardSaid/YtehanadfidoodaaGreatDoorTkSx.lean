/-
  The fields of a line, and the part of it that a key tells.
-/
import Derived.Test.YtehanadfidoodaaGreatDoorTkGx
import Derived.Test.YtehanadfidoodaaGreatDoorEmSx
namespace Go.Am
set_option linter.unusedSimpArgs false
set_option linter.unusedVariables false

theorem u8eq (b:UInt8) (n:Nat) (h:n < 256):(((b.toNat:Int)) == (n:Int))=(b == UInt8.ofNat n):=by
 rw [Bool.eq_iff_iff]
 simp only [beq_iff_eq]
 constructor
 ·intro e
  have:b.toNat=n:=by omega
  rw [← this];simp
 ·intro e
  subst e
  simp;omega
def isBl (b:UInt8):Bool:=b == 32 || b == 9
theorem ZdQ (b:UInt8):(((b.toNat:Int)) == 32)=(b == 32)∧(((b.toNat:Int)) == 9)=(b == 9):=⟨u8eq b 32 (by decide),u8eq b 9 (by decide)⟩
theorem ZoV (b:UInt8) (H:Hp):Zcj [.int .u8 b.toNat] H=some (.bool (isBl b),H):=by
 rw [Zr7]
 unfold Zmx isBl
 simp only [go_sem,(ZdQ b).1]
 cases (b == 32) <;> simp [go_sem,(ZdQ b).2]
theorem Zjh (b:UInt8) (H:Hp):Zds [.int .u8 b.toNat] H=some (.bool (isBl b),H):=by
 rw [ZxA]
 unfold ZtI isBl
 simp only [go_sem,(ZdQ b).1]
 cases (b == 32) <;> simp [go_sem,(ZdQ b).2]
theorem ZFn (a b:Int) (H:Hp):ZkD [.int .i64 a,.int .i64 b] H=some (.int .i64 (max a b),H):=by
 rw [ZyX]
 unfold Zvj
 by_cases h:b < a
 ·have e:max a b=a:=by omega
  simp [go_sem,h,e]
 ·have e:max a b=b:=by omega
  simp [go_sem,h,e,ZxM]
theorem ZwU (a b:Int) (H:Hp):ZiV [.int .i64 a,.int .i64 b] H=some (.int .i64 (min a b),H):=by
 rw [ZxB]
 unfold ZtJ
 by_cases h:a < b
 ·have e:min a b=a:=by omega
  simp [go_sem,h,e]
 ·have e:min a b=b:=by omega
  simp [go_sem,h,e,ZvW]
theorem Zy4 (s:List UInt8) (n:Int) (H:Hp):Zez [.str s,.int .u8 n] H=some (.int .i64 (Zep (UInt8.ofNat n.toNat) s 0),H):=by
 rw [Znk]
 unfold Zic
 rw [Zff]
 unfold ZcM
 simp only [go_sem]

def Zb0 (c:UInt8):List UInt8→Nat→Nat→List (Nat × Nat)
 | [],f,p=>[(f,p)]
 | b :: l,f,p=>if b=c then (f,p) :: Zb0 c l (p+1) (p+1) else Zb0 c l f (p+1)
theorem ZlM (c b:UInt8) (l:List UInt8) (f p:Nat):Zb0 c (b :: l) f p=if b=c then (f,p) :: Zb0 c l (p+1) (p+1) else Zb0 c l f (p+1):=(Eq.refl _).trans (Eq.refl _)
theorem ZBx (c b:UInt8) (l:List UInt8) (k:Nat):Zep c (b :: l) k=if b=c then (k:Int) else Zep c l (k+1):=(Eq.refl _).trans (Eq.refl _)
theorem ZBt (c : UInt8) : ∀ (l : List UInt8) (f p k : Nat),
    (Zep c l k=-1∧Zb0 c l f p=[(f,p+l.length)]) ∨ ∃ e,e < l.length∧Zep c l k=((k+e:Nat):Int)∧Zb0 c l f p=(f,p+e) :: Zb0 c (l.drop (e+1)) (p+e+1) (p+e+1):=by
 intro l
 induction l with
 | nil=>intro f p k;exact .inl ⟨rfl,rfl⟩
 | cons b l ih =>
  intro f p k
  rw [ZBx,ZlM]
  by_cases h:b=c
  ·exact .inr ⟨0,by simp,by simp [h],by simp [h]⟩
  ·simp only [h,if_false]
   rcases ih f (p+1) (k+1) with ⟨h1,h2⟩ | ⟨e,h0,h1,h2⟩
   ·exact .inl ⟨h1,by rw [h2];simp [Nat.add_comm,Nat.add_left_comm]⟩
   ·refine .inr ⟨e+1,by simp;omega,by rw [h1];congr 1;omega,?_⟩
    rw [h2,List.drop_succ_cons]
    simp only [show p+1+e=p+(e+1) by omega]
def tup3 (a b:Nat) (ok:Bool):AV:=.tuple [.int .i64 a,.int .i64 b,.bool ok]
theorem ZwF {line : List UInt8} (hlen : line.length ≤ 1048576) {sep : Int} (h0 : 0 ≤ sep) (h1 : sep ≤ 255) {n : Int} (H0 H : Hp) : ∀ (k f i : Nat), line.length + 1 - f = k → f ≤ line.length → i ≤ f + 1 → (i : Int) ≤ n →
    ∃ a b, Zeg (.str line) (.int .i64 n) (.int .i64 sep) (.int .i64 (f : Int)) (.int .i64 (i : Int)) H0 H =
        some (tup3 a b (decide (n < i+(Zb0 (UInt8.ofNat sep.toNat) (line.drop f) f f).length)),H) ∧
     (n < i+(Zb0 (UInt8.ofNat sep.toNat) (line.drop f) f f).length→(Zb0 (UInt8.ofNat sep.toNat) (line.drop f) f f)[(n - i).toNat]?=some (a,b)):=by
 intro k
 induction k using Nat.strongRecOn with
 | _ k ih =>
  intro f i hk hf hi hn
  rw [ZqT]
  have hsl:=Zwl (s:=line) (n:=(f:Int)) .i64 (by omega) (by omega)
  have hft:((f:Int)).toNat=f:=by omega
  rw [hft] at hsl
  have hcv:ZbA .u8 (.int .i64 sep)=some (.int .u8 sep):=by
   have:IntKind.u8.wrap sep=sep:=by
    unfold IntKind.wrap
    have e1:(2 ^ IntKind.u8.bits:Int)=256:=by decide
    have e3:IntKind.u8.signed=false:=rfl
    simp only [e1,e3,Bool.false_and,Bool.false_eq_true,if_false]
    omega
   simp [ZbA,this]
  simp only [hsl,go_sem,hcv,Zy4]
  rcases ZBt (UInt8.ofNat sep.toNat) (line.drop f) f f 0 with ⟨g1,g2⟩ | ⟨e,g0,g1,g2⟩
  ·have hneg:decide (Zep (UInt8.ofNat sep.toNat) (line.drop f) 0 < 0)=true:=by rw [g1];decide
   simp only [hneg,go_sem]
   rw [g2]
   refine ⟨f,line.length,?_,fun h=>?_⟩
   ·have : ((i : Int) == n) = decide (n < (i : Int) + ([(f, f + (line.drop f).length)] : List (Nat × Nat)).length) := by
       rw [Bool.eq_iff_iff];simp;omega
    rw [this];rfl
   ·have hni:n=i:=by simp at h;omega
    subst hni
    simp;omega
  ·have hneg:decide (Zep (UInt8.ofNat sep.toNat) (line.drop f) 0 < 0)=false:=by rw [g1];simp
   simp only [hneg,go_sem,ZpB]
   rw [g1,g2]
   simp only [List.length_drop] at g0
   by_cases hni:(i:Int)=n
   ·have hb:((i:Int) == n)=true:=by simp [hni]
    have hw:IntKind.i64.wrap ((f:Int)+((0+e:Nat):Int))=((f+e:Nat):Int):=by rw [Zai (by omega) (by omega)];omega
    simp only [hb,go_sem,hw]
    refine ⟨f,f+e,?_,fun _=>by simp [← hni]⟩
    have:(true:Bool)=decide (n < (i:Int)+((f,f+e) :: Zb0 (UInt8.ofNat sep.toNat) ((line.drop f).drop (e+1)) (f+e+1) (f+e+1)).length):=by
     symm;simp;omega
    rw [← this];rfl
   ·have hb:((i:Int) == n)=false:=by simp [hni]
    have hw1:IntKind.i64.wrap (((0+e:Nat):Int)+1)=((e+1:Nat):Int):=by rw [Zai (by omega) (by omega)];omega
    have hw2:IntKind.i64.wrap ((f:Int)+((e+1:Nat):Int))=((f+e+1:Nat):Int):=by rw [Zai (by omega) (by omega)];omega
    have hw3:IntKind.i64.wrap ((i:Int)+1)=((i+1:Nat):Int):=by rw [Zai (by omega) (by omega)];omega
    simp only [hb,go_sem,ZpC,hw1,hw2,ZpA,hw3]
    obtain ⟨a,b,q1,q2⟩:=ih (line.length+1 - (f+e+1)) (by omega) (f+e+1) (i+1) rfl (by omega) (by omega) (by omega)
    rw [List.drop_drop,show f+(e+1)=f+e+1 by omega]
    refine ⟨a,b,?_,fun h=>?_⟩
    ·rw [q1]
     have : decide (n < ((i + 1 : Nat) : Int) + (Zb0 (UInt8.ofNat sep.toNat) (line.drop (f + e + 1)) (f + e + 1) (f + e + 1)).length) =
         decide (n < (i:Int)+((f,f+e) :: Zb0 (UInt8.ofNat sep.toNat) (line.drop (f+e+1)) (f+e+1) (f+e+1)).length):=by
      congr 1;simp;constructor <;> intro h <;> omega
     rw [this]
    ·have hh:n < ((i+1:Nat):Int)+(Zb0 (UInt8.ofNat sep.toNat) (line.drop (f+e+1)) (f+e+1) (f+e+1)).length:=by simp at h ⊢;omega
     have:=q2 hh
     rw [show (n - (i:Int)).toNat=(n - ((i+1:Nat):Int)).toNat+1 by omega]
     simpa using this
end Go.Am
namespace Go.Am
set_option linter.unusedSimpArgs false
set_option linter.unusedVariables false

def ZaG (l:List UInt8):Nat:=(l.takeWhile isBl).length
def ZbB (l:List UInt8):Nat:=(l.takeWhile fun b=>!isBl b).length
theorem ZyO:ZaG []=0:=rfl
theorem Zsv:ZbB []=0:=rfl
theorem ZbX (b:UInt8) (l:List UInt8):ZaG (b :: l)=if isBl b then ZaG l+1 else 0:=by
 unfold ZaG;rw [List.takeWhile_cons];split <;> simp
theorem ZfA (b:UInt8) (l:List UInt8):ZbB (b :: l)=if isBl b then 0 else ZbB l+1:=by
 unfold ZbB;rw [List.takeWhile_cons];cases isBl b <;> simp
theorem Zv9 (l:List UInt8):ZaG l≤l.length:=by
 induction l with
 | nil=>simp [ZyO]
 | cons b l ih=>rw [ZbX];split <;> simp;exact ih
theorem ZHx (l:List UInt8):ZbB l≤l.length:=by
 induction l with
 | nil=>simp [Zsv]
 | cons b l ih=>rw [ZfA];split <;> simp;exact ih
def Zc8:Bool→List UInt8→Nat→Nat→List (Nat × Nat)
 | _,[],f,p=>[(f,p)]
 | q,b :: l,f,p=>if isBl b && !q then (f,p) :: Zc8 (isBl b) l p (p+1) else Zc8 (isBl b) l f (p+1)
theorem ZhY (q:Bool) (b:UInt8) (l:List UInt8) (f p:Nat):Zc8 q (b :: l) f p=if isBl b && !q then (f,p) :: Zc8 (isBl b) l p (p+1) else Zc8 (isBl b) l f (p+1):=(Eq.refl _).trans (Eq.refl _)
def fsAt:List UInt8→Nat→List (Nat × Nat)
 | [],_=>[]
 | x :: l,f=>Zc8 (isBl x) l f (f+1)
theorem Zsa (x:UInt8) (l:List UInt8) (f:Nat):fsAt (x :: l) f=Zc8 (isBl x) l f (f+1):=(Eq.refl _).trans (Eq.refl _)
theorem Zyo:∀ (l:List UInt8) (f p:Nat),Zc8 false l f p=(f,p+ZbB l) :: fsAt (l.drop (ZbB l)) (p+ZbB l):=by
 intro l
 induction l with
 | nil=>intro f p;rfl
 | cons b l ih =>
  intro f p
  rw [ZhY,ZfA]
  cases hb:isBl b with
  | true=>simp [fsAt,hb]
  | false =>
   simp only [Bool.false_and,Bool.false_eq_true,if_false]
   rw [ih]
   simp only [List.drop_succ_cons,show p+1+ZbB l=p+(ZbB l+1) by omega]
theorem ZEV : ∀ (l : List UInt8) (f p : Nat), Zc8 true l f p = match l.drop (ZaG l) with
    | []=>[(f,p+ZaG l)]
    | m :: l'=>Zc8 false l' f (p+ZaG l+1):=by
 intro l
 induction l with
 | nil=>intro f p;rfl
 | cons b l ih =>
  intro f p
  rw [ZhY,ZbX]
  cases hb:isBl b with
  | true =>
   simp only [Bool.not_true,Bool.and_false,Bool.false_eq_true,if_false,if_true,List.drop_succ_cons]
   rw [ih]
   simp only [show p+1+ZaG l=p+(ZaG l+1) by omega]
  | false=>simp
def endW (l:List UInt8):Nat:=ZaG l+ZbB (l.drop (ZaG l))
theorem ZEN (l:List UInt8) {m:UInt8} {l':List UInt8} (h:l.drop (ZaG l)=m :: l'):isBl m=false:=by
 induction l with
 | nil=>simp at h
 | cons b l ih =>
  rw [ZbX] at h
  cases hb:isBl b with
  | true=>simp [hb] at h;exact ih h
  | false=>simp [hb] at h;rw [← h.1];exact hb
theorem ZF8 (l:List UInt8) (f:Nat) (h:0 < l.length):fsAt l f=(f,f+endW l) :: fsAt (l.drop (endW l)) (f+endW l):=by
 cases l with
 | nil=>simp at h
 | cons x l =>
  rw [Zsa]
  unfold endW
  rw [ZbX]
  cases hx:isBl x with
  | false =>
   simp only [Bool.false_eq_true,if_false,List.drop_zero,Nat.zero_add,ZfA,hx,List.drop_succ_cons]
   rw [Zyo]
   simp only [show f+1+ZbB l=f+(ZbB l+1) by omega]
  | true =>
   simp only [if_true]
   rw [ZEV]
   simp only [List.drop_succ_cons]
   cases hd:l.drop (ZaG l) with
   | nil =>
    have hlen:ZaG l=l.length:=by
     have:=List.drop_eq_nil_iff.1 hd
     have:=Zv9 l
     omega
    simp only [Zsv,Nat.add_zero]
    have:(x :: l).drop (ZaG l+1)=[]:=by simp [hd]
    rw [this]
    simp [show f+1+ZaG l=f+(ZaG l+1) by omega,fsAt]
   | cons m l' =>
    have hm:=ZEN l hd
    simp only [ZfA,hm,Bool.false_eq_true,if_false]
    rw [Zyo]
    have e1:(x :: l).drop (ZaG l+1+(ZbB l'+1))=l'.drop (ZbB l'):=by
     have:(x :: l).drop (ZaG l+1+(ZbB l'+1))=(m :: l').drop (ZbB l'+1):=by
      rw [← hd,List.drop_drop,show ZaG l+1+(ZbB l'+1)=(ZaG l+(ZbB l'+1))+1 by omega,List.drop_succ_cons]
     rw [this,List.drop_succ_cons]
    rw [e1]
    simp only [show f+1+ZaG l+1+ZbB l'=f+(ZaG l+1+(ZbB l'+1)) by omega]
theorem ZGM (l:List UInt8) (h:0 < l.length):0 < endW l:=by
 cases l with
 | nil=>simp at h
 | cons x l =>
  unfold endW
  rw [ZbX]
  cases hx:isBl x with
  | true=>simp;omega
  | false=>simp [ZfA,hx]
theorem ZIp (l:List UInt8):endW l≤l.length:=by
 unfold endW
 have h1:=Zv9 l
 have h2:=ZHx (l.drop (ZaG l))
 simp at h2
 omega
theorem Zax {s:List UInt8} {i:Nat} {b:UInt8} (h:s[i]?=some b):Zaj (.str s) (.int .i64 (i:Int))=some (.int .u8 b.toNat):=by simp [Zaj,h]
theorem ZaT {s:List UInt8} {i:Nat} (h:i < s.length):s.drop i=s[i] :: s.drop (i+1):=List.drop_eq_getElem_cons h
theorem ZHX {line : List UInt8} (hlen : line.length ≤ 1048576) (n f i : AV) (H0 H : Hp) : ∀ (k p : Nat), line.length - p = k → p ≤ line.length →
    Zef (.str line) n f (.int .i64 (p:Int)) i H0 H=ZgT (.str line) n f (.int .i64 ((p+ZaG (line.drop p):Nat):Int)) i H0 H:=by
 intro k
 induction k with
 | zero =>
  intro p hk hp
  rw [Ziw]
  have hlt:decide ((p:Int) < (line.length:Int))=false:=by simp;omega
  have hd:line.drop p=[]:=List.drop_eq_nil_iff.2 (by omega)
  simp only [go_sem,hlt,hd,ZyO,Nat.add_zero]
 | succ k ih =>
  intro p hk hp
  rw [Ziw]
  have hlt:decide ((p:Int) < (line.length:Int))=true:=by simp;omega
  have hl:p < line.length:=by omega
  have hw:IntKind.i64.wrap ((p:Int)+1)=((p+1:Nat):Int):=by rw [Zai (by omega) (by omega)];omega
  simp only [go_sem,hlt,Zax (List.getElem?_eq_getElem hl),ZoV]
  rw [ZaT hl,ZbX]
  cases hb:isBl line[p] with
  | true =>
   simp only [go_sem,ZqR,hw,if_true]
   rw [ih (p+1) (by omega) (by omega),show p+1+ZaG (line.drop (p+1))=p+(ZaG (line.drop (p+1))+1) by omega]
  | false=>simp [go_sem]
theorem ZHW {line : List UInt8} (hlen : line.length ≤ 1048576) (n f i : AV) (H0 H : Hp) : ∀ (k p : Nat), line.length - p = k → p ≤ line.length →
    Zee (.str line) n f (.int .i64 (p:Int)) i H0 H=ZgU (.str line) n f (.int .i64 ((p+ZbB (line.drop p):Nat):Int)) i H0 H:=by
 intro k
 induction k with
 | zero =>
  intro p hk hp
  rw [Ziv]
  have hlt:decide ((p:Int) < (line.length:Int))=false:=by simp;omega
  have hd:line.drop p=[]:=List.drop_eq_nil_iff.2 (by omega)
  simp only [go_sem,hlt,hd,Zsv,Nat.add_zero]
 | succ k ih =>
  intro p hk hp
  rw [Ziv]
  have hlt:decide ((p:Int) < (line.length:Int))=true:=by simp;omega
  have hl:p < line.length:=by omega
  have hw:IntKind.i64.wrap ((p:Int)+1)=((p+1:Nat):Int):=by rw [Zai (by omega) (by omega)];omega
  simp only [go_sem,hlt,Zax (List.getElem?_eq_getElem hl),ZoV]
  rw [ZaT hl,ZfA]
  cases hb:isBl line[p] with
  | false =>
   simp only [Bool.not_false,go_sem,ZqQ,hw,Bool.false_eq_true,if_false]
   rw [ih (p+1) (by omega) (by omega),show p+1+ZbB (line.drop (p+1))=p+(ZbB (line.drop (p+1))+1) by omega]
  | true=>simp [go_sem]
theorem ZuY {line : List UInt8} (hlen : line.length ≤ 1048576) {n : Int} (H0 H : Hp) : ∀ (k f i : Nat), line.length - f = k → f ≤ line.length → i ≤ f + 1 → (i : Int) ≤ n →
    ∃ a b,Zed (.str line) (.int .i64 n) (.int .i64 (f:Int)) (.int .i64 (i:Int)) H0 H=some (tup3 a b (decide (n < i+(fsAt (line.drop f) f).length)),H) ∧
     (n < i+(fsAt (line.drop f) f).length→(fsAt (line.drop f) f)[(n - i).toNat]?=some (a,b)):=by
 intro k
 induction k using Nat.strongRecOn with
 | _ k ih =>
  intro f i hk hf hi hn
  rw [ZqS]
  by_cases hfl:f < line.length
  ·have hlt:decide ((f:Int) < (line.length:Int))=true:=by simp;omega
   have hdl:0 < (line.drop f).length:=by simp;omega
   simp only [go_sem,hlt,ZqL]
   rw [ZHX hlen _ _ _ _ _ _ f rfl (by omega),ZqN]
   have hsb:=Zv9 (line.drop f)
   have hse:=ZIp (line.drop f)
   have hsp:=ZGM (line.drop f) hdl
   simp only [List.length_drop] at hsb hse
   rw [ZHW hlen _ _ _ _ _ _ (f+ZaG (line.drop f)) rfl (by omega),ZqO]
   have he:f+ZaG (line.drop f)+ZbB (line.drop (f+ZaG (line.drop f)))=f+endW (line.drop f):=by
    unfold endW;rw [List.drop_drop];omega
   rw [he,ZF8 _ _ hdl,List.drop_drop]
   by_cases hni:(i:Int)=n
   ·have hb:((i:Int) == n)=true:=by simp [hni]
    simp only [hb,go_sem]
    refine ⟨f,f+endW (line.drop f),?_,fun _=>by simp [← hni]⟩
    have:(true:Bool)=decide (n < (i:Int)+((f,f+endW (line.drop f)) :: fsAt (line.drop (f+endW (line.drop f))) (f+endW (line.drop f))).length):=by
     symm;simp;omega
    rw [← this];rfl
   ·have hb:((i:Int) == n)=false:=by simp [hni]
    have hw3:IntKind.i64.wrap ((i:Int)+1)=((i+1:Nat):Int):=by rw [Zai (by omega) (by omega)];omega
    simp only [hb,go_sem,ZqP,ZqM,hw3]
    obtain ⟨a,b,q1,q2⟩:=ih (line.length - (f+endW (line.drop f))) (by omega) (f+endW (line.drop f)) (i+1) rfl (by omega) (by omega) (by omega)
    refine ⟨a,b,?_,fun h=>?_⟩
    ·rw [q1]
     have : decide (n < ((i + 1 : Nat) : Int) + (fsAt (line.drop (f + endW (line.drop f))) (f + endW (line.drop f))).length) =
         decide (n < (i:Int)+((f,f+endW (line.drop f)) :: fsAt (line.drop (f+endW (line.drop f))) (f+endW (line.drop f))).length):=by
      congr 1;simp;constructor <;> intro h <;> omega
     rw [this]
    ·have hh:n < ((i+1:Nat):Int)+(fsAt (line.drop (f+endW (line.drop f))) (f+endW (line.drop f))).length:=by simp at h ⊢;omega
     have:=q2 hh
     rw [show (n - (i:Int)).toNat=(n - ((i+1:Nat):Int)).toNat+1 by omega]
     simpa using this
  ·have hlt:decide ((f:Int) < (line.length:Int))=false:=by simp;omega
   have hd:line.drop f=[]:=List.drop_eq_nil_iff.2 (by omega)
   simp only [go_sem,hlt,ZqK,hd,fsAt]
   refine ⟨0,0,?_,fun h=>by simp at h;omega⟩
   have:decide (n < (i:Int)+([]:List (Nat × Nat)).length)=false:=by simp;omega
   rw [this];rfl
def fields (line:List UInt8) (sep:Int):List (Nat × Nat):=if 0≤sep∧sep≤255 then Zb0 (UInt8.ofNat sep.toNat) line 0 0 else fsAt line 0
theorem ZwG {line : List UInt8} (hlen : line.length ≤ 1048576) (sep : Int) {n : Int} (hn : 1 ≤ n) (H : Hp) :
    ∃ a b,ZeF [.str line,.int .i64 n,.int .i64 sep] H=some (tup3 a b (decide (n≤(fields line sep).length)),H) ∧
     (n≤(fields line sep).length→(fields line sep)[(n - 1).toNat]?=some (a,b)):=by
 rw [Zr8]
 unfold Zmy fields
 by_cases h:0≤sep∧sep≤255
 ·have c1:decide ((0:Int)≤sep)=true:=by simp [h.1]
  have c2:decide (sep≤(255:Int))=true:=by simp [h.2]
  rw [if_pos h]
  simp only [go_sem,c1,c2]
  obtain ⟨a,b,q1,q2⟩:=ZwF hlen h.1 h.2 (n:=n) H H _ 0 1 rfl (by omega) (by omega) (by omega)
  simp only [List.drop_zero] at q1 q2
  refine ⟨a,b,?_,fun h=>q2 (by omega)⟩
  have:decide (n≤((Zb0 (UInt8.ofNat sep.toNat) line 0 0).length:Int))=decide (n < ((1:Nat):Int)+(Zb0 (UInt8.ofNat sep.toNat) line 0 0).length):=by congr 1;simp;constructor <;> intro h <;> omega
  rw [this]
  exact q1
 ·obtain ⟨a,b,q1,q2⟩:=ZuY hlen (n:=n) H H _ 0 1 rfl (by omega) (by omega) (by omega)
  simp only [List.drop_zero] at q1 q2
  have main:ZgS (.str line) (.int .i64 n) (.int .i64 0) H H=some (tup3 a b (decide (n≤((fsAt line 0).length:Int))),H):=by
   rw [ZqJ]
   have:decide (n≤((fsAt line 0).length:Int))=decide (n < ((1:Nat):Int)+(fsAt line 0).length):=by congr 1;simp;constructor <;> intro h <;> omega
   rw [this]
   exact q1
  refine ⟨a,b,?_,fun h'=>by rw [if_neg h] at h' ⊢;exact q2 (by omega)⟩
  rw [if_neg h]
  by_cases h1:0≤sep
  ·have c1:decide ((0:Int)≤sep)=true:=by simp [h1]
   have c2:decide (sep≤(255:Int))=false:=by simp;omega
   simp only [go_sem,c1,c2]
   exact main
  ·have c1:decide ((0:Int)≤sep)=false:=by simp;omega
   simp only [go_sem,c1]
   exact main
end Go.Am
namespace Go.Am
set_option linter.unusedSimpArgs false
set_option linter.unusedVariables false

def ZbY (p:Nat × Nat):AV:=.agg [.int .i64 p.1,.int .i64 p.2]
theorem ZmP (a b:Nat):(ZbJ [(0,1,.int .i64 (a:Int)),(1,1,.int .i64 (b:Int))] [.int .i64 0,.int .i64 0]).map AV.agg=some (ZbY (a,b)):=by
 simp [ZbJ,AV.known,AV.cells,splice,ZbY]
theorem Zpu (p:Nat × Nat):(Zau 2 [(0,ZbY p)] [.agg [.int .i64 0,.int .i64 0]]).map (AV.vs 2 .clip)=some (.vs 2 .clip [ZbY p]):=by
 simp [Zau,AV.known,AV.cells,ZbY]
theorem ZoT {H : Hp} {x : AV} {acc : List (Nat × Nat)} (h : Row H 2 x (acc.map ZbY)) (hl : acc.length ≤ 1048577) (p : Nat × Nat) :
    ∃ x' H',ZaH 2 16 x (.vs 2 .clip [ZbY p]) H=some (x',H')∧Row H' 2 x' ((acc++[p]).map ZbY)∧(∀ (i:Nat) (c:List AV),H[i]?=some (.cells c)→H'[i]?=some (.cells c)):=by
 obtain ⟨x',H',h1,h2,_,h3,_⟩:=h.app 16 (.vs 2 .clip [ZbY p]) [ZbY p] (by simp [elems]) (by simp;omega)
 exact ⟨x',H',h1,by simpa using h2,h3⟩
theorem ZuZ {line : List UInt8} (hlen : line.length ≤ 1048576) {sep : Int} (h0 : 0 ≤ sep) (h1 : sep ≤ 255) (H0 : Hp) : ∀ (k p f : Nat) (acc : List (Nat × Nat)) (x : AV) (H : Hp), line.length - p = k → p ≤ line.length → acc.length ≤ p →
    Row H 2 x (acc.map ZbY)→∃ x' H',ZgF (.str line) (.int .i64 sep) x (.int .i64 (f:Int)) (.int .i64 (p:Int)) H0 H=some (x',H') ∧
     Row H' 2 x' ((acc++Zb0 (UInt8.ofNat sep.toNat) (line.drop p) f p).map ZbY)∧(∀ (i:Nat) (c:List AV),H[i]?=some (.cells c)→H'[i]?=some (.cells c)):=by
 intro k
 induction k with
 | zero =>
  intro p f acc x H hk hp ha hr
  rw [Zlt]
  have hlt:decide ((p:Int) < (line.length:Int))=false:=by simp;omega
  have hd:line.drop p=[]:=List.drop_eq_nil_iff.2 (by omega)
  have hpl:p=line.length:=by omega
  obtain ⟨x',H',g1,g2,g3⟩:=ZoT hr (by omega) (f,line.length)
  simp only [go_sem,hlt,ZuK,ZmP,Zpu,g1,hd,Zb0]
  exact ⟨x',H',rfl,by rw [hpl];exact g2,g3⟩
 | succ k ih =>
  intro p f acc x H hk hp ha hr
  rw [Zlt]
  have hl:p < line.length:=by omega
  have hlt:decide ((p:Int) < (line.length:Int))=true:=by simp;omega
  have hw:IntKind.i64.wrap ((p:Int)+1)=((p+1:Nat):Int):=by rw [Zai (by omega) (by omega)];omega
  have hcv:ZbA .i64 (.int .u8 (line[p].toNat:Int))=some (.int .i64 (line[p].toNat:Int)):=by
   have:=line[p].toNat_lt
   simp only [ZbA]
   rw [Zai (by omega) (by omega)]
  have hb:(((line[p].toNat:Int)) == sep)=(line[p] == UInt8.ofNat sep.toNat):=by
   have:=u8eq line[p] sep.toNat (by omega)
   rw [← this,show ((sep.toNat:Nat):Int)=sep by omega]
  simp only [go_sem,hlt,ZuL,Zax (List.getElem?_eq_getElem hl),hcv,hb]
  rw [ZaT hl,ZlM]
  by_cases he:line[p]=UInt8.ofNat sep.toNat
  ·have hbt:(line[p] == UInt8.ofNat sep.toNat)=true:=by simpa using he
   obtain ⟨x1,H1,g1,g2,g3⟩:=ZoT hr (by omega) (f,p)
   rw [if_pos he]
   simp only [hbt,go_sem,ZmP,Zpu,g1,hw,Zls]
   obtain ⟨x',H',q1,q2,q3⟩:=ih (p+1) (p+1) (acc++[(f,p)]) x1 H1 (by omega) (by omega) (by simp;omega) g2
   exact ⟨x',H',q1,by simpa using q2,fun i c h=>q3 i c (g3 i c h)⟩
  ·have hbf:(line[p] == UInt8.ofNat sep.toNat)=false:=by simpa using he
   simp only [hbf,go_sem,Zls,hw,he,if_false]
   exact ih (p+1) f acc x H (by omega) (by omega) (by omega) hr
theorem Zts {line : List UInt8} (hlen : line.length ≤ 1048576) (H0 : Hp) : ∀ (k p f : Nat) (acc : List (Nat × Nat)) (x : AV) (H : Hp), line.length - p = k → 1 ≤ p → (hp : p ≤ line.length) → acc.length ≤ p →
    Row H 2 x (acc.map ZbY)→∃ x' H',ZgE (.str line) x (.int .i64 (f:Int)) (.int .i64 (p:Int)) H0 H=some (x',H') ∧
     Row H' 2 x' ((acc++Zc8 (isBl (line.getD (p - 1) 0)) (line.drop p) f p).map ZbY)∧(∀ (i:Nat) (c:List AV),H[i]?=some (.cells c)→H'[i]?=some (.cells c)):=by
 intro k
 induction k with
 | zero =>
  intro p f acc x H hk h1 hp ha hr
  rw [ZgL]
  have hlt:decide ((p:Int) < (line.length:Int))=false:=by simp;omega
  have hd:line.drop p=[]:=List.drop_eq_nil_iff.2 (by omega)
  have hpl:p=line.length:=by omega
  have hgt:decide ((0:Int) < (line.length:Int))=true:=by simp;omega
  obtain ⟨x',H',g1,g2,g3⟩:=ZoT hr (by omega) (f,line.length)
  simp only [go_sem,hlt,Zlp,hgt,ZmP,Zpu,g1,hd,Zc8,Zlq]
  exact ⟨x',H',rfl,by rw [hpl];exact g2,g3⟩
 | succ k ih =>
  intro p f acc x H hk h1 hp ha hr
  rw [ZgL]
  have hl:p < line.length:=by omega
  have hl1:p - 1 < line.length:=by omega
  have hlt:decide ((p:Int) < (line.length:Int))=true:=by simp;omega
  have hw:IntKind.i64.wrap ((p:Int)+1)=((p+1:Nat):Int):=by rw [Zai (by omega) (by omega)];omega
  have hw2:IntKind.i64.wrap ((p:Int) - 1)=((p - 1:Nat):Int):=by rw [Zai (by omega) (by omega)];omega
  have hg:line.getD (p - 1) 0=line[p - 1]:=by simp [List.getD_eq_getElem?_getD,hl1]
  have hg2:line.getD (p+1 - 1) 0=line[p]:=by simp [List.getD_eq_getElem?_getD,hl]
  simp only [go_sem,hlt,ZuJ,Zax (List.getElem?_eq_getElem hl),Zjh]
  rw [ZaT hl,ZhY,hg]
  have stay : ∀ (q : Bool), (isBl line[p] && !isBl line[p - 1]) = false → ∃ x' H', ZgB (.str line) x (.int .i64 (f : Int)) (.int .i64 (p : Int)) H0 H = some (x', H') ∧
      Row H' 2 x' ((acc++Zc8 (isBl line[p]) (line.drop (p+1)) f (p+1)).map ZbY)∧(∀ (i:Nat) (c:List AV),H[i]?=some (.cells c)→H'[i]?=some (.cells c)):=by
   intro q hq
   rw [Zlr]
   simp only [go_sem,hw]
   have:=ih (p+1) f acc x H (by omega) (by omega) (by omega) (by omega) hr
   rw [hg2] at this
   exact this
  cases hb:isBl line[p] with
  | false =>
   rw [hb] at stay
   simp only [go_sem,Bool.false_and,Bool.false_eq_true,if_false]
   exact stay true rfl
  | true =>
   rw [hb] at stay
   simp only [go_sem,hw2,Zax (List.getElem?_eq_getElem hl1),Zjh,Bool.true_and]
   cases hb1:isBl line[p - 1] with
   | true =>
    rw [hb1] at stay
    simp only [go_sem,Bool.not_true,Bool.false_eq_true,if_false]
    exact stay true rfl
   | false =>
    obtain ⟨x1,H1,g1,g2,g3⟩:=ZoT hr (by omega) (f,p)
    simp only [go_sem,Bool.not_false,if_true,ZmP,Zpu,g1,Zlr,hw]
    obtain ⟨x',H',q1,q2,q3⟩:=ih (p+1) p (acc++[(f,p)]) x1 H1 (by omega) (by omega) (by omega) (by simp;omega) g2
    rw [hg2,hb] at q2
    exact ⟨x',H',q1,by simpa using q2,fun i c h=>q3 i c (g3 i c h)⟩
theorem ZBu {line : List UInt8} (hlen : line.length ≤ 1048576) (sep : Int) (H : Hp) :
    ∃ x' H',Zl6 [.str line,.int .i64 sep] H=some (x',H')∧Row H' 2 x' ((fields line sep).map ZbY)∧(∀ (i:Nat) (c:List AV),H[i]?=some (.cells c)→H'[i]?=some (.cells c)):=by
 rw [Zvi]
 unfold Zr0 fields
 by_cases h:0≤sep∧sep≤255
 ·have c1:decide ((0:Int)≤sep)=true:=by simp [h.1]
  have c2:decide (sep≤(255:Int))=true:=by simp [h.2]
  rw [if_pos h]
  simp only [go_sem,c1,c2]
  have:=ZuZ hlen h.1 h.2 H _ 0 0 [] .nils H rfl (by omega) (by simp) (.inl ⟨rfl,rfl⟩)
  simpa using this
 ·rw [if_neg h]
  have main:∃ x' H',ZjU (.str line) .nils (.int .i64 0) H H=some (x',H')∧Row H' 2 x' ((fsAt line 0).map ZbY)∧(∀ (i:Nat) (c:List AV),H[i]?=some (.cells c)→H'[i]?=some (.cells c)):=by
   rw [ZuI]
   cases hline:line with
   | nil =>
    rw [ZgL]
    have e1:decide ((1:Int) < (([]:List UInt8).length:Int))=false:=by decide
    have e2:decide ((0:Int) < (([]:List UInt8).length:Int))=false:=by decide
    simp only [go_sem,e1,Zlp,e2,Zlq]
    exact ⟨_,_,rfl,.inl ⟨rfl,rfl⟩,fun _ _ h=>h⟩
   | cons x l =>
    rw [← hline]
    have:=Zts hlen H _ 1 0 [] .nils H rfl (by omega) (by rw [hline];simp) (by simp) (.inl ⟨rfl,rfl⟩)
    rw [hline] at this ⊢
    simpa [Zsa] using this
  by_cases h1:0≤sep
  ·have c1:decide ((0:Int)≤sep)=true:=by simp [h1]
   have c2:decide (sep≤(255:Int))=false:=by simp;omega
   simp only [go_sem,c1,c2]
   exact main
  ·have c1:decide ((0:Int)≤sep)=false:=by simp;omega
   simp only [go_sem,c1]
   exact main
end Go.Am
namespace Go.Am
set_option linter.unusedSimpArgs false
set_option linter.unusedVariables false

theorem ZDb (c:UInt8) (L:Nat):∀ (l:List UInt8) (f p:Nat),f≤p→p+l.length=L→∀ x ∈ Zb0 c l f p,x.1≤x.2∧x.2≤L:=by
 intro l
 induction l with
 | nil=>intro f p h1 h2 x hx;simp [Zb0] at hx;subst hx;simp at h2;simp;omega
 | cons b l ih =>
  intro f p h1 h2 x hx
  rw [ZlM] at hx
  simp at h2
  split at hx
  ·rcases List.mem_cons.1 hx with rfl | hx
   ·simp;omega
   ·exact ih (p+1) (p+1) (by omega) (by omega) x hx
  ·exact ih f (p+1) (by omega) (by omega) x hx
theorem ZDc (L:Nat):∀ (l:List UInt8) (q:Bool) (f p:Nat),f≤p→p+l.length=L→∀ x ∈ Zc8 q l f p,x.1≤x.2∧x.2≤L:=by
 intro l
 induction l with
 | nil=>intro q f p h1 h2 x hx;simp [Zc8] at hx;subst hx;simp at h2;simp;omega
 | cons b l ih =>
  intro q f p h1 h2 x hx
  rw [ZhY] at hx
  simp at h2
  split at hx
  ·rcases List.mem_cons.1 hx with rfl | hx
   ·simp;omega
   ·exact ih _ p (p+1) (by omega) (by omega) x hx
  ·exact ih _ f (p+1) (by omega) (by omega) x hx
theorem ZmO (line:List UInt8) (sep:Int):∀ x ∈ fields line sep,x.1≤x.2∧x.2≤line.length:=by
 intro x hx
 unfold fields at hx
 split at hx
 ·exact ZDb _ line.length line 0 0 (Nat.le_refl _) (by omega) x hx
 ·cases line with
  | nil=>simp [fsAt] at hx
  | cons a l=>rw [Zsa] at hx;exact ZDc (a :: l).length l _ 0 1 (by omega) (by simp;omega) x hx

structure Ke where
 ff:Int
 fc:Int
 tf:Int
 tc:Int
 fl:Int
def Ke.cells (k:Ke):List AV:=[.int .i64 k.ff,.int .i64 k.fc,.int .i64 k.tf,.int .i64 k.tc,.int .i64 k.fl]
structure KeOk (k:Ke):Prop where
 ff:-9223372036854775808≤k.ff∧k.ff≤9223372036854775807
 fc:-9223372036854775808≤k.fc∧k.fc≤9223372036854775807
 tf:-9223372036854775808≤k.tf∧k.tf≤9223372036854775807
 tc:-9223372036854775808≤k.tc∧k.tc≤9223372036854775807
def Zdd (lo hi:Nat) (k:Ke):Nat:=lo+(min (max k.fc 1 - 1) ((hi:Int) - lo)).toNat
def ZgH (line:List UInt8) (fs:List (Nat × Nat)) (k:Ke):Nat :=
 if 0 < k.tf∧k.tf≤fs.length then (let p:=fs.getD (k.tf - 1).toNat (0,0);if 0 < k.tc then p.1+(min k.tc ((p.2:Int) - p.1)).toNat else p.2) else line.length
def ex (line:List UInt8) (fs:List (Nat × Nat)) (k:Ke):List UInt8 :=
 if max k.ff 1≤fs.length then
  (let p:=fs.getD (max k.ff 1 - 1).toNat (0,0);if ZgH line fs k < Zdd p.1 p.2 k then [] else (line.take (ZgH line fs k)).drop (Zdd p.1 p.2 k)) else []

theorem ZHu (H:Hp) (x y:AObj):List.set (H++[x]) H.length y=H++[y]:=by simp
theorem Zbp (H:Hp) (x:AObj):(H++[x])[H.length]?=some x:=ZAg _ _ _
theorem Zaq {H:Hp} {o off:Nat} {l:List AV} (h:H[o]?=some (.cells l)):Za2 false 1 (.ptr o off) H=l[off]?:=by rw [ZeX h];simp [Go.Am.apart]

theorem Zp1 {line : List UInt8} {f e : Nat} (hf : f ≤ line.length) (he : e ≤ line.length) (hlen : line.length ≤ 1048576) (H0 H : Hp) :
    ZbI (.str line) (.int .i64 (f:Int)) (.int .i64 (e:Int)) H0 H=some (.str (if e < f then [] else (line.take e).drop f),H):=by
 rw [ZoB]
 by_cases h:e < f
 ·have c:decide ((e:Int) < (f:Int))=true:=by simp;omega
  simp only [go_sem,c,h,if_true]
 ·have c:decide ((e:Int) < (f:Int))=false:=by simp;omega
  have hs:=Zwk (s:=line) (n:=(f:Int)) (m:=(e:Int)) .i64 .i64 (by omega) (by omega) (by omega)
  have e1:((f:Int)).toNat=f:=by omega
  have e2:((e:Int)).toNat=e:=by omega
  rw [e1,e2] at hs
  simp only [go_sem,c,ZoC,hs,h,if_false]
theorem Zl2 {fs:List (Nat × Nat)} {i:Nat} {p:Nat × Nat} (h:fs[i]?=some p):fs.getD i (0,0)=p:=by simp [List.getD_eq_getElem?_getD,h]
theorem Zs8 {line : List UInt8} (hlen : line.length ≤ 1048576) {k : Ke} (hk : KeOk k) (sep : Int) (H : Hp) :
    ∃ H',Zdy [.str line,.agg k.cells,.int .i64 sep] H=some (.str (ex line (fields line sep) k),H')∧(∀ (i:Nat) (x:AObj),H[i]?=some x→H'[i]?=some x):=by
 rw [ZoL]
 unfold Zkd
 have hbox:abox (.agg k.cells) H=some (.ptr H.length 0,H++[.cells k.cells]):=Zoa rfl
 have hget:=Zbp H (.cells k.cells)
 obtain ⟨a,b,q1,q2⟩:=ZwG hlen sep (n:=max k.ff 1) (by omega) (H++[.cells k.cells])
 simp only [Ke.cells] at hbox hget q1 ⊢
 simp only [hbox,go_sem,Nat.zero_add,Zaq hget,List.getElem?_cons_zero]
 rw [q1]
 simp only [go_sem,tup3,List.getElem?_cons_zero,List.getElem?_cons_succ]
 have hold:∀ (i:Nat) (x:AObj),H[i]?=some x→(H++[AObj.cells [.int .i64 k.ff,.int .i64 k.fc,.int .i64 k.tf,.int .i64 k.tc,.int .i64 k.fl]])[i]?=some x:=fun i x h=>Zdt h _
 by_cases hin:max k.ff 1≤((fields line sep).length:Int)
 ·have c1:(!decide (max k.ff 1≤((fields line sep).length:Int)))=false:=by simp [hin]
  have hab:=q2 hin
  obtain ⟨r1,r2⟩:=ZmO line sep _ (List.mem_of_getElem? hab)
  simp only at r1 r2
  simp only [c1,go_sem,ZoA,Nat.zero_add,Zaq hget,Ke.cells,List.getElem?_cons_zero,List.getElem?_cons_succ]
  have hfc:=hk.fc
  have w1:IntKind.i64.wrap (max k.fc 1 - 1)=max k.fc 1 - 1:=Zai (by omega) (by omega)
  have w2:IntKind.i64.wrap ((b:Int) - a)=(b:Int) - a:=Zai (by omega) (by omega)
  have w3:IntKind.i64.wrap ((a:Int)+min (max k.fc 1 - 1) ((b:Int) - a))=((Zdd a b k:Nat):Int):=by rw [Zai (by omega) (by omega)];unfold Zdd;omega
  have hfl:Zdd a b k≤line.length:=by unfold Zdd;omega
  simp only [w1,w2,w3]
  have fin:∀ e:Nat,e≤line.length→e=ZgH line (fields line sep) k→ex line (fields line sep) k=(if e < Zdd a b k then [] else (line.take e).drop (Zdd a b k)):=by
   intro e _ he
   subst he
   unfold ex
   rw [if_pos hin,Zl2 hab]
  by_cases ht:0 < k.tf
  ·have c2:decide ((0:Int) < k.tf)=true:=by simp [ht]
   obtain ⟨a2,b2,p1,p2⟩:=ZwG hlen sep (n:=k.tf) (by omega) (H++[.cells k.cells])
   simp only [Ke.cells] at p1
   simp only [c2,go_sem,Nat.zero_add,Zaq hget,Ke.cells,List.getElem?_cons_zero,List.getElem?_cons_succ,p1,tup3]
   by_cases hin2:k.tf≤((fields line sep).length:Int)
   ·have c3:decide (k.tf≤((fields line sep).length:Int))=true:=by simp [hin2]
    have hab2:=p2 hin2
    obtain ⟨s1,s2⟩:=ZmO line sep _ (List.mem_of_getElem? hab2)
    simp only at s1 s2
    simp only [c3,go_sem,Nat.zero_add,Zaq hget,Ke.cells,List.getElem?_cons_zero,List.getElem?_cons_succ]
    have htc:=hk.tc
    by_cases hc:0 < k.tc
    ·have c4:decide ((0:Int) < k.tc)=true:=by simp [hc]
     have w4:IntKind.i64.wrap ((b2:Int) - a2)=(b2:Int) - a2:=Zai (by omega) (by omega)
     have w5:IntKind.i64.wrap ((a2:Int)+min k.tc ((b2:Int) - a2))=((a2+(min k.tc ((b2:Int) - a2)).toNat:Nat):Int):=by rw [Zai (by omega) (by omega)];omega
     simp only [c4,go_sem,Nat.zero_add,Zaq hget,Ke.cells,List.getElem?_cons_zero,List.getElem?_cons_succ,w4,w5]
     rw [Zp1 hfl (by omega) hlen]
     rw [fin (a2+(min k.tc ((b2:Int) - a2)).toNat) (by omega) (by unfold ZgH;rw [if_pos ⟨ht,hin2⟩,Zl2 hab2];simp [hc])]
     exact ⟨_,rfl,hold⟩
    ·have c4:decide ((0:Int) < k.tc)=false:=by simp;omega
     simp only [c4,go_sem]
     rw [Zp1 hfl s2 hlen]
     rw [fin b2 s2 (by unfold ZgH;rw [if_pos ⟨ht,hin2⟩,Zl2 hab2];simp [hc])]
     exact ⟨_,rfl,hold⟩
   ·have c3:decide (k.tf≤((fields line sep).length:Int))=false:=by simp;omega
    simp only [c3,go_sem]
    rw [Zp1 hfl (Nat.le_refl _) hlen]
    rw [fin line.length (Nat.le_refl _) (by unfold ZgH;rw [if_neg (fun h=>hin2 h.2)])]
    exact ⟨_,rfl,hold⟩
  ·have c2:decide ((0:Int) < k.tf)=false:=by simp;omega
   simp only [c2,go_sem]
   rw [Zp1 hfl (Nat.le_refl _) hlen]
   rw [fin line.length (Nat.le_refl _) (by unfold ZgH;rw [if_neg (fun h=>ht h.1)])]
   exact ⟨_,rfl,hold⟩
 ·have c1:(!decide (max k.ff 1≤((fields line sep).length:Int)))=true:=by simp;omega
  simp only [c1,go_sem]
  have:ex line (fields line sep) k=[]:=by unfold ex;rw [if_neg hin]
  rw [this]
  exact ⟨_,rfl,hold⟩
end Go.Am
namespace Go.Am
set_option linter.unusedSimpArgs false
set_option linter.unusedVariables false

def Sl (k:Nat) (x:AV) (l:List AV):Prop:=x=.nils∧l=[] ∨ ∃ tok,x=.vs k tok l
theorem Sl.len {k:Nat} {x:AV} {l:List AV} (h:Sl k x l) (e:Nat):Zaf (.slice e) x=some (.int .i64 l.length):=by
 rcases h with ⟨rfl,rfl⟩ | ⟨tok,rfl⟩ <;> rfl
theorem Sl.idx {k:Nat} {x:AV} {l:List AV} (h:Sl k x l) {i:Nat} {c:AV} (hi:l[i]?=some c):Zad k x (.int .i64 (i:Int))=some (.vp c.cells):=by
 rcases h with ⟨rfl,rfl⟩ | ⟨tok,rfl⟩
 ·simp at hi
 ·simp [Zad,hi]
theorem ZsS {f:AV→Option AV}:∀ {l:List AV},(∀ x ∈ l,f x=some x)→l.mapM f=some l:=by
 intro l
 induction l with
 | nil=>intro _;rfl
 | cons a l ih =>
  intro h
  rw [List.mapM_cons,h a (by simp),ih (fun x hx=>h x (by simp [hx]))]
  rfl
theorem ZEE (H : Hp) (n f k : Nat) (tok : Tok) (l : List AV) : Za6 H n (f + 1) (.vs k tok l) = match l.mapM (Za6 H n f) with
      | some l=>some (.vs k (match tok with | .own t e=>if t < n then .own t e else .no | tok=>tok) l)
      | none=>none:=(Eq.refl _).trans (Eq.refl _)
theorem Zg8 (H : Hp) (n f : Nat) (l : List AV) : Za6 H n (f + 1) (.agg l) = match l.mapM (Za6 H n f) with
      | some l=>some (.agg l)
      | none=>none:=(Eq.refl _).trans (Eq.refl _)
theorem Sl.close {k:Nat} {x:AV} {l:List AV} (h:Sl k x l) {H:Hp} {n f:Nat} (hl:∀ c ∈ l,Za6 H n f c=some c):∃ x',Za6 H n (f+1) x=some x'∧Sl k x' l:=by
 rcases h with ⟨rfl,rfl⟩ | ⟨tok,rfl⟩
 ·exact ⟨.nils,rfl,.inl ⟨rfl,rfl⟩⟩
 ·have e:=ZEE H n f k tok l
  rw [ZsS hl] at e
  exact ⟨_,e,.inr ⟨_,rfl⟩⟩
def Ke.av (k:Ke):AV:=.agg k.cells
theorem Ke.close (k:Ke) (H:Hp) (n f:Nat):Za6 H n (f+2) k.av=some k.av:=by
 have:k.cells.mapM (Za6 H n (f+1))=some k.cells:=ZsS fun x hx=>by
  simp only [Ke.cells,List.mem_cons,List.not_mem_nil,or_false] at hx
  rcases hx with rfl | rfl | rfl | rfl | rfl <;> rfl
 rw [Ke.av,Zg8,this]
structure Spec where
 keys:List Ke
 sep:Int
 flags:Int
 stab:Bool
 uniq:Bool
def Spec.cells (x:AV) (p:Spec):List AV:=[x,.int .i64 p.sep,.int .i64 p.flags,.bool p.uniq,.bool p.stab]
def SpecAV (a:AV) (p:Spec):Prop:=∃ x,a=.agg (p.cells x)∧Sl 5 x (p.keys.map Ke.av)
theorem SpecAV.close {a:AV} {p:Spec} (h:SpecAV a p) (H:Hp) (n f:Nat):∃ a',Za6 H n (f+4) a=some a'∧SpecAV a' p:=by
 obtain ⟨x,rfl,hx⟩:=h
 obtain ⟨x',h1,h2⟩:=hx.close (H:=H) (n:=n) (f:=f+2) (fun c hc=>by
  obtain ⟨k,_,rfl⟩:=List.mem_map.1 hc
  exact k.close H n f)
 refine ⟨.agg (p.cells x'),?_,x',rfl,h2⟩
 have:(p.cells x).mapM (Za6 H n (f+3))=some (p.cells x'):=by
  simp only [Spec.cells,List.mapM_cons,h1,List.mapM_nil]
  rfl
 rw [Zg8,this]
theorem Zcn {f:List AV→Hp→Res} {a a' v:AV} {H H1:Hp} (ha:Za6 [] 0 6 a=some a') (hc:f [a'] []=some (v,H1)) (hv:Zfm 3 v=true):Za5 f [a] H=some (v,H) :=
 ZgN (args':=[a']) (by simp [ha]) hc hv
theorem Zdf {f:List AV→Hp→Res} {a a' b b' v:AV} {H H1:Hp} (ha:Za6 [] 0 6 a=some a') (hb:Za6 [] 0 6 b=some b') (hc:f [a',b'] []=some (v,H1)) (hv:Zfm 3 v=true):Za5 f [a,b] H=some (v,H) :=
 ZgN (args':=[a',b']) (by simp [ha,hb]) hc hv

def Zeq (k:Ke):Bool:=decide (k.ff < 1) || (decide (k.fc < 1) || (decide (k.tf < 0) || (decide (k.tc < 0) || ((k.tf == 0 && k.tc != 0) || (decide (k.fl < 0) || decide (31 < k.fl))))))
def Zb4 (p:Spec):Int :=
 if 8 < p.keys.length then 3 else if decide (p.sep < -1) || (decide (255 < p.sep) || (p.sep == 10 || (decide (p.flags < 0) || decide (31 < p.flags)))) then 2 else if p.keys.any Zeq then 2 else 0
theorem Zh0 (k:Ke) (H:Hp):Za2 true 5 (.vp k.cells) H=some (.agg k.cells):=by simp [Za2,Go.Am.apart,Ke.cells]
theorem ZlC (H:Hp) (k:Ke) (z:List AV) (hz:z.length=5):Zag 5 (.ptr H.length 0) (.agg k.cells) (H++[.cells z])=some (.tuple [],H++[.cells k.cells]):=by
 rw [Zh1 (sz:=5) (v:=.agg k.cells) (Zbp _ _) rfl rfl (by omega)]
 simp [AV.cells,splice,hz,Ke.cells]
theorem Zar (H:Hp) (l:List AV) (off:Nat):Za2 false 1 (.ptr H.length off) (H++[.cells l])=l[off]?:=Zaq (Zbp H _)
theorem Zb3 (l:List AV) (H:Hp):abox (.agg l) H=some (.ptr H.length 0,H++[.cells l]):=Zoa rfl
attribute [go_sem] Zb3 Zar
theorem Sl.key {x:AV} {l:List Ke} (h:Sl 5 x (l.map Ke.av)) {i:Nat} {k:Ke} (hi:l[i]?=some k):Zad 5 x (.int .i64 (i:Int))=some (.vp k.cells):=h.idx (c:=k.av) (by simp [hi])
theorem ZJf {x : AV} {l : List Ke} (h : Sl 5 x (l.map Ke.av)) {i : Nat} {k : Ke} (hi : l[i]? = some k) (n t : AV) (H0 H : Hp) :
    ∃ H',ZgP x n (.int .i64 (i:Int)) t H0 H=if Zeq k then some (.int .i64 2,H') else ZgQ x n (.int .i64 (i:Int)) H0 H':=by
 rw [ZqF]
 refine ⟨H++[.cells k.cells],?_⟩
 have hg:=Zbp H (.cells k.cells)
 simp only [h.key hi,Zh0,go_sem,ZlC H k [.int .i64 0,.int .i64 0,.int .i64 0,.int .i64 0,.int .i64 0] rfl]
 simp only [go_sem,Nat.zero_add,Zar,Ke.cells,List.getElem?_cons_zero,List.getElem?_cons_succ]
 unfold Zeq
 cases e1:decide (k.ff < 1) with
 | true=>simp only [go_sem,Bool.true_or,if_true]
 | false =>
 simp only [go_sem,Bool.false_or,Nat.zero_add,Zar,Ke.cells,List.getElem?_cons_zero,List.getElem?_cons_succ]
 cases e2:decide (k.fc < 1) with
 | true=>simp only [go_sem,Bool.true_or,if_true]
 | false =>
 simp only [go_sem,Bool.false_or,Nat.zero_add,Zar,Ke.cells,List.getElem?_cons_zero,List.getElem?_cons_succ]
 cases e3:decide (k.tf < 0) with
 | true=>simp only [go_sem,Bool.true_or,if_true]
 | false =>
 simp only [go_sem,Bool.false_or,Nat.zero_add,Zar,Ke.cells,List.getElem?_cons_zero,List.getElem?_cons_succ]
 cases e4:decide (k.tc < 0) with
 | true=>simp only [go_sem,Bool.true_or,if_true]
 | false =>
 simp only [go_sem,Bool.false_or,Nat.zero_add,Zar,Ke.cells,List.getElem?_cons_zero,List.getElem?_cons_succ]
 have last:∀ b:Bool,b=false→True:=fun _ _=>trivial
 cases e5:(k.tf == 0) with
 | true =>
  simp only [go_sem,Bool.true_and,Nat.zero_add,Zar,Ke.cells,List.getElem?_cons_zero,List.getElem?_cons_succ]
  cases e6:(k.tc != 0) with
  | true=>simp only [go_sem,Bool.true_or,if_true]
  | false =>
   simp only [go_sem,Bool.false_or,Nat.zero_add,Zar,Ke.cells,List.getElem?_cons_zero,List.getElem?_cons_succ]
   cases e7:decide (k.fl < 0) with
   | true=>simp only [go_sem,Bool.true_or,if_true]
   | false =>
    simp only [go_sem,Bool.false_or,Nat.zero_add,Zar,Ke.cells,List.getElem?_cons_zero,List.getElem?_cons_succ]
    cases e8:decide (31 < k.fl) <;> simp [go_sem]
 | false =>
  simp only [go_sem,Bool.false_and,Bool.false_or,Nat.zero_add,Zar,Ke.cells,List.getElem?_cons_zero,List.getElem?_cons_succ]
  cases e7:decide (k.fl < 0) with
  | true=>simp only [go_sem,Bool.true_or,if_true]
  | false =>
   simp only [go_sem,Bool.false_or,Nat.zero_add,Zar,Ke.cells,List.getElem?_cons_zero,List.getElem?_cons_succ]
   cases e8:decide (31 < k.fl) <;> simp [go_sem]
theorem ZJg {x : AV} {l : List Ke} (h : Sl 5 x (l.map Ke.av)) (hl : l.length ≤ 8) (H0 : Hp) : ∀ (m i : Nat) (H : Hp), l.length - i = m → i ≤ l.length →
    ∃ H',Zeb x (.int .i64 (l.length:Int)) (.int .i64 (i:Int)) H0 H=some (.int .i64 (if (l.drop i).any Zeq then 2 else 0),H'):=by
 intro m
 induction m with
 | zero =>
  intro i H hm hi
  rw [Ziu]
  have hlt:decide ((i:Int) < (l.length:Int))=false:=by simp;omega
  have hd:l.drop i=[]:=List.drop_eq_nil_iff.2 (by omega)
  simp only [go_sem,hlt,ZqE,hd,List.any_nil]
  exact ⟨_,rfl⟩
 | succ m ih =>
  intro i H hm hi
  rw [Ziu]
  have hl1:i < l.length:=by omega
  have hlt:decide ((i:Int) < (l.length:Int))=true:=by simp;omega
  have hw:IntKind.i64.wrap ((i:Int)+1)=((i+1:Nat):Int):=by rw [Zai (by omega) (by omega)];omega
  obtain ⟨H1,e1⟩:=ZJf h (List.getElem?_eq_getElem hl1) (.int .i64 (l.length:Int)) (.bool true) H0 H
  simp only [go_sem,hlt,e1]
  rw [List.drop_eq_getElem_cons hl1,List.any_cons]
  cases hb:Zeq l[i] with
  | true=>simp only [if_true,Bool.true_or];exact ⟨_,rfl⟩
  | false =>
   simp only [Bool.false_eq_true,if_false,Bool.false_or,ZqG,go_sem,hw]
   exact ih (i+1) H1 (by omega) (by omega)
theorem ZCR {a:AV} {p:Spec} (h:SpecAV a p) (H:Hp):∃ H',ZbR [a] H=some (.int .i64 (Zb4 p),H'):=by
 obtain ⟨x,rfl,hx⟩:=h
 rw [Zr5]
 unfold Zmv Zb4
 have hg:=Zbp H (.cells (p.cells x))
 have hlen:=hx.len 149
 rw [List.length_map] at hlen
 simp only [go_sem,Nat.zero_add,Zar,Spec.cells,List.getElem?_cons_zero,List.getElem?_cons_succ,hlen]
 by_cases h8:8 < p.keys.length
 ·have c1:decide ((8:Int) < (p.keys.length:Int))=true:=by simp;omega
  simp only [c1,go_sem,h8,if_true]
  exact ⟨_,rfl⟩
 have c1:decide ((8:Int) < (p.keys.length:Int))=false:=by simp;omega
 simp only [c1,go_sem,h8,if_false,ZqC,Nat.zero_add,Zar,Spec.cells,List.getElem?_cons_zero,List.getElem?_cons_succ]
 cases e1:decide (p.sep < -1) with
 | true=>simp only [go_sem,Bool.true_or,if_true];exact ⟨_,rfl⟩
 | false =>
 simp only [go_sem,Bool.false_or,Nat.zero_add,Zar,Spec.cells,List.getElem?_cons_zero,List.getElem?_cons_succ]
 cases e2:decide (255 < p.sep) with
 | true=>simp only [go_sem,Bool.true_or,if_true];exact ⟨_,rfl⟩
 | false =>
 simp only [go_sem,Bool.false_or,Nat.zero_add,Zar,Spec.cells,List.getElem?_cons_zero,List.getElem?_cons_succ]
 cases e3:(p.sep == 10) with
 | true=>simp only [go_sem,Bool.true_or,if_true];exact ⟨_,rfl⟩
 | false =>
 simp only [go_sem,Bool.false_or,Nat.zero_add,Zar,Spec.cells,List.getElem?_cons_zero,List.getElem?_cons_succ]
 cases e4:decide (p.flags < 0) with
 | true=>simp only [go_sem,Bool.true_or,if_true];exact ⟨_,rfl⟩
 | false =>
 simp only [go_sem,Bool.false_or,Nat.zero_add,Zar,Spec.cells,List.getElem?_cons_zero,List.getElem?_cons_succ]
 cases e5:decide (31 < p.flags) with
 | true=>simp only [go_sem,if_true];exact ⟨_,rfl⟩
 | false =>
 simp only [go_sem,Bool.false_eq_true,if_false,ZqD,Nat.zero_add,Zar,Spec.cells,List.getElem?_cons_zero,List.getElem?_cons_succ,hlen]
 have:=ZJg hx (by omega) H p.keys.length 0 (H++[.cells (p.cells x)]) (by omega) (by omega)
 simpa [Spec.cells] using this
theorem ZhQ {a:AV} {p:Spec} (h:SpecAV a p) (H:Hp):Za5 ZbR [a] H=some (.int .i64 (Zb4 p),H):=by
 obtain ⟨a',h1,h2⟩:=h.close [] 0 2
 obtain ⟨H',h3⟩:=ZCR h2 []
 exact Zcn h1 h3 rfl
end Go.Am
namespace Go.Am
set_option linter.unusedSimpArgs false
set_option linter.unusedVariables false

theorem ZDS (k:Ke) (H:Hp):∃ H',ZiX [k.av] H=some (.bool (!Zeq k),H'):=by
 rw [ZxD]
 unfold ZtL Ke.av
 simp only [go_sem,Nat.zero_add,Ke.cells,List.getElem?_cons_zero,List.getElem?_cons_succ]
 unfold Zeq
 have j1:∀ b:Bool,b=(decide (k.fl < 0) || decide (31 < k.fl))→∃ H',Zlv (.ptr H.length 0) H (H++[.cells [.int .i64 k.ff,.int .i64 k.fc,.int .i64 k.tf,.int .i64 k.tc,.int .i64 k.fl]])=some (.bool (!b),H'):=by
  intro b hb
  rw [ZvZ]
  simp only [go_sem,Nat.zero_add,List.getElem?_cons_zero,List.getElem?_cons_succ]
  cases e7:decide (k.fl < 0) with
  | true =>
   have:decide (0≤k.fl)=false:=by simp at e7 ⊢;omega
   simp only [this,go_sem]
   rw [hb,e7]
   exact ⟨_,rfl⟩
  | false =>
   have:decide (0≤k.fl)=true:=by simp at e7 ⊢;omega
   simp only [this,go_sem,Nat.zero_add,List.getElem?_cons_zero,List.getElem?_cons_succ]
   have e:decide (k.fl≤31)=!decide (31 < k.fl):=by rw [Bool.eq_iff_iff];simp
   rw [hb,e7,e]
   exact ⟨_,rfl⟩
 cases e1:decide (k.ff < 1) with
 | true=>simp only [go_sem,Bool.true_or,Bool.not_true];exact ⟨_,rfl⟩
 | false =>
 simp only [go_sem,Bool.false_or,Nat.zero_add,Ke.cells,List.getElem?_cons_zero,List.getElem?_cons_succ]
 cases e2:decide (k.fc < 1) with
 | true=>simp only [go_sem,Bool.true_or,Bool.not_true];exact ⟨_,rfl⟩
 | false =>
 simp only [go_sem,Bool.false_or,Nat.zero_add,Ke.cells,List.getElem?_cons_zero,List.getElem?_cons_succ]
 cases e3:decide (k.tf < 0) with
 | true=>simp only [go_sem,Bool.true_or,Bool.not_true];exact ⟨_,rfl⟩
 | false =>
 simp only [go_sem,Bool.false_or,Nat.zero_add,Ke.cells,List.getElem?_cons_zero,List.getElem?_cons_succ]
 cases e4:decide (k.tc < 0) with
 | true=>simp only [go_sem,Bool.true_or,Bool.not_true];exact ⟨_,rfl⟩
 | false =>
 simp only [go_sem,Bool.false_or,Nat.zero_add,Ke.cells,List.getElem?_cons_zero,List.getElem?_cons_succ]
 cases e5:(k.tf == 0) with
 | true =>
  simp only [go_sem,Bool.true_and,Nat.zero_add,Ke.cells,List.getElem?_cons_zero,List.getElem?_cons_succ]
  cases e6:(k.tc != 0) with
  | true=>simp only [go_sem,Bool.true_or,Bool.not_true];exact ⟨_,rfl⟩
  | false=>simp only [go_sem,Bool.false_or];exact j1 _ rfl
 | false=>simp only [go_sem,Bool.false_and,Bool.false_or];exact j1 _ rfl
theorem ZDR (k:Ke) (H:Hp):Za5 ZiX [k.av] H=some (.bool (!Zeq k),H):=by
 obtain ⟨H',h3⟩:=ZDS k []
 exact Zcn (k.close [] 0 4) h3 rfl
theorem ZIN {x : AV} {l : List Ke} (h : Sl 5 x (l.map Ke.av)) (hl : l.length ≤ 8) (H0 : Hp) {o : Nat} {r : List AV} {H : Hp} (ho : H[o]? = some (.cells (x :: r))) : ∀ (m i : Nat), l.length - i = m → i ≤ l.length →
    Zhx (.ptr o 0) (.int .i64 (i:Int)) H0 H=some (.int .i64 (if (l.drop i).any Zeq then 2 else 0),H):=by
 have hlen:=h.len 149
 rw [List.length_map] at hlen
 intro m
 induction m with
 | zero =>
  intro i hm hi
  rw [ZmE]
  have hlt:decide ((i:Int) < (l.length:Int))=false:=by simp;omega
  have hd:l.drop i=[]:=List.drop_eq_nil_iff.2 (by omega)
  simp only [go_sem,Nat.zero_add,Zaq ho,List.getElem?_cons_zero,hlen,hlt,ZvR,hd,List.any_nil]
  rfl
 | succ m ih =>
  intro i hm hi
  rw [ZmE]
  have hl1:i < l.length:=by omega
  have hlt:decide ((i:Int) < (l.length:Int))=true:=by simp;omega
  have hw:IntKind.i64.wrap ((i:Int)+1)=((i+1:Nat):Int):=by rw [Zai (by omega) (by omega)];omega
  have hr:=ZDR l[i] H
  unfold Ke.av at hr
  simp only [go_sem,Nat.zero_add,Zaq ho,List.getElem?_cons_zero,hlen,hlt,ZvS,h.key (List.getElem?_eq_getElem hl1),Zh0,hr,Bool.not_not]
  rw [List.drop_eq_getElem_cons hl1,List.any_cons]
  cases hb:Zeq l[i] with
  | true=>simp only [go_sem,if_true,Bool.true_or]
  | false =>
   simp only [go_sem,Bool.false_or,ZvT,hw]
   exact ih (i+1) (by omega) (by omega)
theorem ZBK {a:AV} {p:Spec} (h:SpecAV a p) (H:Hp):∃ H',Zg2 [a] H=some (.int .i64 (Zb4 p),H'):=by
 obtain ⟨x,rfl,hx⟩:=h
 rw [Zxy]
 unfold ZtG Zb4
 have hlen:=hx.len 149
 rw [List.length_map] at hlen
 simp only [go_sem,Nat.zero_add,Spec.cells,List.getElem?_cons_zero,List.getElem?_cons_succ,hlen]
 by_cases h8:8 < p.keys.length
 ·have c1:decide ((8:Int) < (p.keys.length:Int))=true:=by simp;omega
  simp only [c1,go_sem,h8,if_true]
  exact ⟨_,rfl⟩
 have c1:decide ((8:Int) < (p.keys.length:Int))=false:=by simp;omega
 simp only [c1,go_sem,h8,if_false,ZvP,Nat.zero_add,Spec.cells,List.getElem?_cons_zero,List.getElem?_cons_succ]
 cases e1:decide (p.sep < -1) with
 | true=>simp only [go_sem,Bool.true_or,if_true];exact ⟨_,rfl⟩
 | false =>
 simp only [go_sem,Bool.false_or,Nat.zero_add,Spec.cells,List.getElem?_cons_zero,List.getElem?_cons_succ]
 cases e2:decide (255 < p.sep) with
 | true=>simp only [go_sem,Bool.true_or,if_true];exact ⟨_,rfl⟩
 | false =>
 simp only [go_sem,Bool.false_or,Nat.zero_add,Spec.cells,List.getElem?_cons_zero,List.getElem?_cons_succ]
 cases e3:(p.sep == 10) with
 | true=>simp only [go_sem,Bool.true_or,if_true];exact ⟨_,rfl⟩
 | false =>
 simp only [go_sem,Bool.false_or,Nat.zero_add,Spec.cells,List.getElem?_cons_zero,List.getElem?_cons_succ]
 cases e4:decide (p.flags < 0) with
 | true=>simp only [go_sem,Bool.true_or,if_true];exact ⟨_,rfl⟩
 | false =>
 simp only [go_sem,Bool.false_or,Nat.zero_add,Spec.cells,List.getElem?_cons_zero,List.getElem?_cons_succ]
 cases e5:decide (31 < p.flags) with
 | true=>simp only [go_sem,if_true];exact ⟨_,rfl⟩
 | false =>
 simp only [go_sem,Bool.false_eq_true,if_false,ZvQ]
 have:=ZIN hx (by omega) H (Zbp H (.cells [x,.int .i64 p.sep,.int .i64 p.flags,.bool p.uniq,.bool p.stab])) p.keys.length 0 (by omega) (by omega)
 rw [show ((0:Nat):Int)=0 from rfl,List.drop_zero] at this
 exact ⟨_,this⟩
theorem Zu6 {a:AV} {p:Spec} (h:SpecAV a p) (H:Hp):Za5 Zg2 [a] H=some (.int .i64 (Zb4 p),H):=by
 obtain ⟨a',h1,h2⟩:=h.close [] 0 2
 obtain ⟨H',h3⟩:=ZBK h2 []
 exact Zcn h1 h3 rfl
end Go.Am
namespace Go.Am
open Go.Proofs
set_option linter.unusedSimpArgs false
set_option linter.unusedVariables false

def RowN (n:Nat) (H:Hp) (k:Nat) (x:AV) (l:List AV):Prop:=x=.nils∧l=[] ∨ ∃ t e,x=.vs k (.own t e) l∧H[t]?=some (.tok e)∧n≤t
def Keep (n:Nat) (H H':Hp):Prop:=∀ i,i < n→H'[i]?=H[i]?
theorem Keep.refl (n:Nat) (H:Hp):Keep n H H:=fun _ _=>rfl
theorem Keep.trans {n:Nat} {A B C:Hp} (h:Keep n A B) (k:Keep n B C):Keep n A C:=fun i hi=>(k i hi).trans (h i hi)
theorem Keep.push {n:Nat} (H:Hp) (hn:n≤H.length) (l:List AObj):Keep n H (H++l):=fun i hi=>List.getElem?_append_left (by omega)
theorem RowN.row {n:Nat} {H:Hp} {k:Nat} {x:AV} {l:List AV} (h:RowN n H k x l):Row H k x l:=h.imp id fun ⟨t,e,a,b,_⟩=>⟨t,e,a,b⟩
theorem RowN.nil (n:Nat) (H:Hp) (k:Nat):RowN n H k .nils []:=.inl ⟨rfl,rfl⟩
theorem RowN.sl {n:Nat} {H:Hp} {k:Nat} {x:AV} {l:List AV} (h:RowN n H k x l):Sl k x l:=h.imp id fun ⟨t,e,a,_⟩=>⟨_,a⟩
theorem RowN.push {n:Nat} {H:Hp} {k:Nat} {x:AV} {l:List AV} (h:RowN n H k x l) (r:List AObj):RowN n (H++r) k x l:=h.imp id fun ⟨t,e,a,b,c⟩=>⟨t,e,a,Zdt b _,c⟩
theorem RowN.app {n : Nat} {H : Hp} {k : Nat} {x : AV} {l : List AV} (h : RowN n H k x l) (hn : n ≤ H.length) (bytes : Nat) (y : AV) (ys : List AV) (hy : elems k y H = some ys) (hf : (l.length + ys.length) * (bytes + 1) ≤ 140737488355328) :
    ∃ x' H',ZaH k bytes x y H=some (x',H')∧RowN n H' k x' (l++ys)∧n≤H'.length∧Keep n H H'∧(∀ (i:Nat) (c:List AV),H[i]?=some (.cells c)→H'[i]?=some (.cells c)):=by
 unfold ZaH
 simp only [hy]
 rcases h with ⟨rfl,rfl⟩ | ⟨t,e,rfl,ht,hnt⟩
 ·by_cases hys:ys=[]
  ·subst hys
   exact ⟨.nils,H,by simp [Zc0],.inl ⟨rfl,rfl⟩,hn,Keep.refl _ _,fun _ _ h=>h⟩
  ·have hfit:fits ys.length bytes=true:=by simpa [fits] using hf
   exact ⟨.vs k (.own H.length ys.length) ys,H++[.tok ys.length],by simp only [Zc0,hys,if_false,hfit,if_true],.inr ⟨H.length,ys.length,rfl,by simp,hn⟩,by simp;omega,Keep.push H hn _,fun i c h=>Zdt h _⟩
 ·have hfit:fits (l.length+ys.length) bytes=true:=by simpa [fits] using hf
  by_cases hys:ys=[]
  ·subst hys
   exact ⟨.vs k (.own t e) l,H,by simp only [Zc0,List.length_nil,Nat.add_zero] at hfit ⊢;simp only [hfit,and_self,if_true],.inr ⟨t,e,by simp,ht,hnt⟩,hn,Keep.refl _ _,fun _ _ h=>h⟩
  ·refine ⟨_,_,by simp only [Zc0,hfit,and_self,if_true,hys,if_false,ht],.inr ⟨t,e+ys.length,rfl,Zdg _ ht,hnt⟩,by simp;omega,fun i hi=>List.getElem?_set_ne (by omega),fun i c h=>?_⟩
   refine Ze0 _ (fun he=>?_) h
   subst he
   rw [ht] at h
   cases h
theorem ZFZ {H0 H:Hp} (h:Keep H0.length H0 H) (hl:H0.length≤H.length):H.take H0.length=H0:=by
 apply List.ext_getElem?
 intro i
 by_cases hi:i < H0.length
 ·rw [List.getElem?_take_of_lt hi];exact h i hi
 ·rw [List.getElem?_eq_none (by simp;omega),List.getElem?_eq_none (by omega)]
theorem Zju {H0 H:Hp} (h:Keep H0.length H0 H) (hl:H0.length≤H.length) {k:Nat} {x:AV} {l:List AV} (hx:Sl k x l) (hc:∀ c ∈ l,Za6 H H0.length 5 c=some c):∃ x',Zi3 H0 x H=some (x',H0)∧Sl k x' l:=by
 obtain ⟨x',h1,h2⟩:=hx.close (H:=H) (n:=H0.length) (f:=5) hc
 refine ⟨x',?_,h2⟩
 unfold Zi3
 rw [if_pos (ZFZ h hl),h1]

def ZEB (n j:Nat):Bool:=match ibin .and (.int .i64 n) (.int .i64 ((2 ^ j:Nat):Int)) with
 | some (.int .i64 m)=>m == (if n.testBit j then ((2 ^ j:Nat):Int) else 0)
 | _=>false
theorem ZCS:((List.range 32).all fun n=>(List.range 5).all fun j=>ZEB n j)=true:=by kernel_rfl
theorem ZdP {n:Nat} {p:Nat→Bool} (h:(List.range n).all p=true) {i:Nat} (hi:i < n):p i=true:=List.all_eq_true.1 h i (List.mem_range.2 hi)
theorem Zs0 {n j:Nat} (hn:n < 32) (hj:j < 5):ibin .and (.int .i64 n) (.int .i64 ((2 ^ j:Nat):Int))=some (.int .i64 (if n.testBit j then ((2 ^ j:Nat):Int) else 0)):=by
 have h:=ZdP (ZdP ZCS hn) hj
 unfold ZEB at h
 split at h
 ·rename_i m hm
  rw [hm]
  have:m=(if n.testBit j then ((2 ^ j:Nat):Int) else 0):=by simpa using h
  rw [this]
 ·cases h
noncomputable def ZEC (n j:Nat):Bool:=match Zyf (.int .i64 n) (.int .i64 ((2 ^ j:Nat):Int)) [] with
 | some (.bool b,[])=>b == n.testBit j
 | _=>false
theorem ZCT:((List.range 32).all fun n=>(List.range 5).all fun j=>ZEC n j)=true:=by kernel_rfl
theorem Zsb {n j:Nat} (hn:n < 32) (hj:j < 5) (H:Hp):Za5 ZbF [.int .i64 n,.int .i64 ((2 ^ j:Nat):Int)] H=some (.bool (n.testBit j),H):=by
 have h:=ZdP (ZdP ZCT hn) hj
 unfold ZEC at h
 split at h
 ·rename_i b hb
  have:b=n.testBit j:=by simpa using h
  subst this
  exact Zdf (a':=.int .i64 n) (b':=.int .i64 ((2 ^ j:Nat):Int)) rfl rfl ((ZzO _ _ _).trans hb) rfl
 ·cases h
end Go.Am
