/-
  The order of strings in a locale.
-/
import Derived.Test.YtehanadfidoodaaGreatDoorNkMx
namespace Go.Am
set_option linter.unusedSimpArgs false
set_option linter.unusedVariables false
set_option maxRecDepth 100000

def ZfZ (l:List AV) (L:Loc):Prop:=∃ x c e,l=L.cells x c e∧Sl 1 x (L.w.map (AV.int .i64))∧Sl 5 c (L.cls.map Zdx)∧Sl 2 e (L.els.map elAV)
theorem ZfZ.close {l:List AV} {L:Loc} (h:ZfZ l L) (H:Hp) (n f:Nat):∃ l',l.mapM (Za6 H n (f+3))=some l'∧ZfZ l' L:=by
 obtain ⟨x,c,e,rfl,hx,hc,he⟩:=h
 obtain ⟨x',hx1,hx2⟩:=hx.close (H:=H) (n:=n) (f:=f+2) (fun y hy=>by obtain ⟨m,_,rfl⟩:=List.mem_map.1 hy;rfl)
 obtain ⟨c',hc1,hc2⟩:=hc.close (H:=H) (n:=n) (f:=f+2) (fun y hy=>by obtain ⟨m,_,rfl⟩:=List.mem_map.1 hy;exact Zoq m H n f)
 obtain ⟨e',he1,he2⟩:=he.close (H:=H) (n:=n) (f:=f+2) (fun y hy=>by obtain ⟨m,_,rfl⟩:=List.mem_map.1 hy;exact ZqV m H n f)
 refine ⟨L.cells x' c' e',?_,x',c',e',rfl,hx2,hc2,he2⟩
 simp only [Loc.cells,List.mapM_cons,hx1,hc1,he1,List.mapM_nil]
 rfl
theorem ZdT (H : Hp) (n f : Nat) (l : List AV) : Za6 H n (f + 1) (.vp l) = match l.mapM (Za6 H n f) with
      | some l=>some (.vp l)
      | none=>none:=(Eq.refl _).trans (Eq.refl _)
theorem ZkL {f:List AV→Hp→Res} {a a' b b' v v':AV} {H H1:Hp} (ha:Za6 [] 0 6 a=some a') (hb:Za6 [] 0 6 b=some b') (hc:f [a',b'] []=some (v,H1)) (hv:Za6 H1 0 6 v=some v'):Zaa f [a,b] H=some (v',H):=by
 unfold Zaa
 simp [ha,hb,hc,hv]
theorem RowN.close {n:Nat} {H:Hp} {x:AV} {l:List Int} (h:RowN n H 1 x (l.map (AV.int .i64))) (H1:Hp):∃ x',Za6 H1 0 6 x=some x'∧Sl 1 x' (l.map (AV.int .i64)) :=
 h.sl.close (f:=5) (fun y hy=>by obtain ⟨m,_,rfl⟩:=List.mem_map.1 hy;rfl)

theorem Zui {l : List AV} {L : Loc} (h : ZfZ l L) (hw : L.w.length = 256) (hnew : ZAg L.els) (hn : L.els.length ≤ 1048576) (s : List UInt8) (hs : s.length ≤ 1048576) (H : Hp) :
    ∃ v,Zaa ZdM [.str s,.vp l] H=some (v,H)∧Sl 1 v ((wS L s).map (AV.int .i64)):=by
 obtain ⟨l',h1,x,c,e,rfl,hx,hc,he⟩:=h.close [] 0 2
 have hcl:Za6 [] 0 6 (.vp l)=some (.vp (L.cells x c e)):=by rw [ZdT,h1]
 have hlen:=he.len 210
 rw [List.length_map] at hlen
 obtain ⟨H1,es,k,q1,q2,q3,q4,q5,q6⟩:=ZIv he hnew hn (.str s) (.fn (.func 150) [] [.ptr 0 0]) [AObj.cells [.nils]] L.els.length 0 [AObj.cells [.nils],.cells (L.cells x c e),.map [] 0] [] 0 (by omega) (by omega) rfl rfl (by simp)
 rw [show ((0:Nat):Int)=0 from rfl] at q1
 have hst:WSt L x c e es [] H1:=⟨⟨.nils,by rw [q2];rfl,RowN.nil _ _ _⟩,by rw [q3];rfl,⟨k,q4⟩,q6⟩
 obtain ⟨H2,q7,⟨⟨y,q8,q9⟩,_,_,_⟩⟩:=ZG1 hx hw q5 s hs [AObj.cells [.nils]] s.length [] s [] H1 (Nat.le_refl _) rfl (by simp) hst
 rw [List.length_nil,show ((0:Nat):Int)=0 from rfl] at q7
 rw [List.nil_append] at q9
 obtain ⟨v,q10,q11⟩:=q9.close H2
 refine ⟨v,ZkL (a':=.str s) rfl hcl ?_ q10,q11⟩
 rw [ZpF]
 unfold Zkx
 have e1:Zl9 [.agg (L.cells x c e),.str s,.fn (.func 150) [] [.ptr 0 0]] [AObj.cells [.nils]]=some (.tuple [],H2):=by
  rw [Zvx]
  unfold Zry
  have hl5:Za2 false 1 (.ptr 1 5) [AObj.cells [.nils],.cells (L.cells x c e),.map [] 0]=some e:=by simp [Za2,Go.Am.apart,Loc.cells]
  simp only [go_sem,List.length_cons,List.length_nil,List.cons_append,List.nil_append,Nat.zero_add,hl5,hlen,q1,ZuU,q7]
 simp only [go_sem,List.length_nil,List.nil_append,ZbQ 6 (L.cells x c e) rfl,e1,ZaF q8,List.getElem?_cons_zero]

def ZGF (r:List UInt8) (e:List UInt8 × Int):Bool :=
 match r with
 | b :: c :: _=>e.1 == [b,c]
 | _=>false
theorem ZMu (L : Loc) (b c : UInt8) (r : List UInt8) : wS L (b :: c :: r) = match L.els.find? (ZGF (b :: c :: r)) with
    | some e=>e.2 :: wS L r
    | none=>wOf L b :: wS L (c :: r):=(Eq.refl _).trans (Eq.refl _)
end Go.Am
namespace Go.Am
set_option linter.unusedSimpArgs false
set_option linter.unusedVariables false
set_option linter.unusedSectionVars false
set_option maxRecDepth 100000

def ordS:List Int→List Int→Int
 | [],[]=>0
 | [],_ :: _=>-1
 | _ :: _,[]=>1
 | a :: l,b :: m=>if a < b then -1 else if b < a then 1 else ordS l m
theorem ZeI (a b:Int) (l m:List Int):ordS (a :: l) (b :: m)=if a < b then -1 else if b < a then 1 else ordS l m:=(Eq.refl _).trans (Eq.refl _)
theorem ZH2 {l m:List Int} (h:l=[] ∨ m=[]):ordS l m=if l.length < m.length then -1 else if m.length < l.length then 1 else 0:=by
 rcases h with rfl | rfl
 ·cases m <;> simp [ordS]
 ·cases l <;> simp [ordS]
theorem ZAz:∀ a b:List UInt8,ordS (a.map fun c=>(c.toNat:Int)) (b.map fun c=>(c.toNat:Int))=cmpB a b:=by
 intro a
 induction a with
 | nil=>intro b;cases b <;> simp [ordS,cmpB]
 | cons x a ih =>
  intro b
  cases b with
  | nil=>simp [ordS,cmpB]
  | cons y b =>
   simp only [List.map_cons,ZeI,cmpB]
   by_cases h:x=y
   ·subst h
    simp [ih b]
   ·have hne:x.toNat ≠ y.toNat:=fun e=>h (UInt8.toNat_inj.1 e)
    by_cases hl:x < y
    ·have:(x.toNat:Int) < y.toNat:=by have:=UInt8.lt_iff_toNat_lt.1 hl;omega
     simp [h,hl,this]
    ·have h1 : ¬ (x.toNat : Int) < y.toNat := by
        intro h'
        exact hl (UInt8.lt_iff_toNat_lt.2 (by omega))
     have h2:(y.toNat:Int) < x.toNat:=by omega
     simp [h,hl,h1,h2]
theorem ZHr (a b:List UInt8) (H:Hp):Zaa Zh4 [.str a,.str b] H=some (.int .i64 (cmpB a b),H):=by
 have h1:∀ H,Zaa ZbM [.str a,.str b] H=some (.int .i64 (cmpB a b),H):=fun H=>by
  refine Zgm (a':=.str a) (b':=.str b) (H1:=[]) rfl rfl ?_ rfl
  rw [Zge]
  rfl
 refine Zgm (a':=.str a) (b':=.str b) (H1:=[]) rfl rfl ?_ rfl
 rw [Zqv]
 unfold Zly
 simp only [h1,go_sem]

section
variable {x y:AV} {a b:List Int} (hx:Sl 1 x (a.map (AV.int .i64))) (hy:Sl 1 y (b.map (AV.int .i64))) (ha:a.length≤4611686018427387904) (hb:b.length≤4611686018427387904)
include hx hy ha hb
theorem ZH3 (s t : List UInt8) (H0 H : Hp) : ∀ (k i : Nat), min a.length b.length - i = k → i ≤ min a.length b.length →
    Zel (.str s) (.str t) x y (.int .i64 ((min a.length b.length:Nat):Int)) (.int .i64 (i:Int)) H0 H=some (.int .i64 (if (ordS (a.drop i) (b.drop i) != 0)=true then ordS (a.drop i) (b.drop i) else cmpB s t),H):=by
 have hla:=hx.len 3
 have hlb:=hy.len 3
 rw [List.length_map] at hla hlb
 intro k
 induction k with
 | zero =>
  intro i hk hi
  rw [Zjd]
  have hlt:decide ((i:Int) < ((min a.length b.length:Nat):Int))=false:=by simp;omega
  have he:a.drop i=[] ∨ b.drop i=[]:=by
   rcases Nat.le_total a.length b.length with h | h
   ·exact .inl (List.drop_eq_nil_iff.2 (by omega))
   ·exact .inr (List.drop_eq_nil_iff.2 (by omega))
  rw [ZH2 he]
  simp only [List.length_drop,go_sem,hlt,Zr3,hla,hlb]
  by_cases h1:a.length < b.length
  ·have c:decide ((a.length:Int) < (b.length:Int))=true:=by simp;omega
   have h1':a.length - i < b.length - i:=by omega
   simp only [c,go_sem,h1',if_true]
   rfl
  ·have c:decide ((a.length:Int) < (b.length:Int))=false:=by simp;omega
   have h1':¬ a.length - i < b.length - i:=by omega
   simp only [c,go_sem,h1',if_false,Zr4,hla,hlb]
   by_cases h2:b.length < a.length
   ·have c:decide ((b.length:Int) < (a.length:Int))=true:=by simp;omega
    have h2':b.length - i < a.length - i:=by omega
    simp only [c,go_sem,h2',if_true]
    rfl
   ·have c:decide ((b.length:Int) < (a.length:Int))=false:=by simp;omega
    have h2':¬ b.length - i < a.length - i:=by omega
    simp only [c,go_sem,h2',if_false,Zr5,ZHr]
    rfl
 | succ k ih =>
  intro i hk hi
  rw [Zjd]
  have hia:i < a.length:=by omega
  have hib:i < b.length:=by omega
  have hlt:decide ((i:Int) < ((min a.length b.length:Nat):Int))=true:=by simp;omega
  have hw:IntKind.i64.wrap ((i:Int)+1)=((i+1:Nat):Int):=by rw [Zaj (by omega) (by omega)];omega
  simp only [go_sem,hlt,Zr6,hx.ints hia,hy.ints hib,Zav]
  rw [List.drop_eq_getElem_cons hia,List.drop_eq_getElem_cons hib,ZeI]
  by_cases c1:a[i] < b[i]
  ·simp only [decide_eq_true c1,go_sem,if_pos c1]
   rfl
  ·simp only [decide_eq_false c1,go_sem,if_neg c1,Zr8,hx.ints hia,hy.ints hib,Zav]
   by_cases c2:b[i] < a[i]
   ·simp only [decide_eq_true c2,go_sem,if_pos c2]
    rfl
   ·simp only [decide_eq_false c2,go_sem,if_neg c2,Zr7,hw]
    exact ih (i+1) (by omega) (by omega)
end
theorem ZHK (L:Loc):∀ (n:Nat) (s:List UInt8),s.length≤n→(wS L s).length≤s.length:=by
 intro n
 induction n with
 | zero=>intro s h;have:s=[]:=List.length_eq_zero_iff.1 (by omega);subst this;simp [wS]
 | succ n ih =>
  intro s h
  match s,h with
  | [],_=>simp [wS]
  | [b],_=>simp [wS]
  | b :: c :: r,h =>
   rw [ZMu]
   simp only [List.length_cons] at h
   cases L.els.find? (ZGF (b :: c :: r)) with
   | none=>have:=ih (c :: r) (by simp;omega);simp only [List.length_cons] at this ⊢;omega
   | some e=>have:=ih r (by omega);simp only [List.length_cons];omega
theorem Zy9 (L:Loc):(ZaI L).els.length≤64:=by
 unfold ZaI
 cases h:(ZbT L != 0) with
 | true=>simp [defL]
 | false =>
  simp only [ZbT,bne_eq_false_iff_eq] at h
  have:elsS L.els=0:=by
   split at h
   ·split at h
    ·cases h
    ·split at h
     ·cases h
     ·unfold Zro at h
      split at h
      ·rename_i h1;simp [h] at h1
      ·exact h
   ·cases h
  unfold elsS at this
  split at this
  ·cases this
  ·simp;omega
def cmpS (L:Loc) (s t:List UInt8):Int:=if (ordS (wS (ZaI L) s) (wS (ZaI L) t) != 0)=true then ordS (wS (ZaI L) s) (wS (ZaI L) t) else cmpB s t
theorem Zze {v:AV} {L:Loc} (h:ZaU v L) (hok:LocOk L) (s t:List UInt8) (hs:s.length≤1048576) (ht:t.length≤1048576) (H:Hp):Zaa Zdb [v,.str s,.str t] H=some (.int .i64 (cmpS L s t),H):=by
 obtain ⟨a1,h1,h2⟩:=h.close [] 0 2
 have hv:=fun H=>Zyb h2 hok H
 obtain ⟨x,c,e,rfl,hx,hc,he⟩:=h2
 obtain ⟨v',hv1,xv,cv,ev,rfl,hxv,hcv,hev⟩:=hv [AObj.cells (L.cells x c e)]
 have hlc:ZfZ ((ZaI L).cells xv cv ev) (ZaI L):=⟨xv,cv,ev,rfl,hxv,hcv,hev⟩
 obtain ⟨w1,q1,q2⟩:=Zui hlc (ZBO L) (Zya L) (by have:=Zy9 L;omega) s hs [AObj.dead]
 obtain ⟨w2,q3,q4⟩:=Zui hlc (ZBO L) (Zya L) (by have:=Zy9 L;omega) t ht [AObj.dead]
 have hl1:=ZHK (ZaI L) s.length s (Nat.le_refl _)
 have hl2:=ZHK (ZaI L) t.length t (Nat.le_refl _)
 have hrun:Zdb [.agg (L.cells x c e),.str s,.str t] []=some (.int .i64 (cmpS L s t),[AObj.dead]):=by
  rw [Zs6]
  unfold ZmC
  have hl:Za2 true 6 (.ptr 0 0) [AObj.cells (L.cells x c e)]=some (.agg (L.cells x c e)):=by simp [Za2,Go.Am.apart,Loc.cells]
  have hst:Zab 6 (.ptr 0 0) (.agg ((ZaI L).cells xv cv ev)) [AObj.cells (L.cells x c e)]=some (.tuple [],[AObj.cells ((ZaI L).cells xv cv ev)]):=by simp [Zab,ZbG,AV.known,AV.cells,Loc.cells,splice]
  have hfz:∀ k:AV→Hp→Res,frzK (.ptr 0 0) [AObj.cells ((ZaI L).cells xv cv ev)] k=k (.vp ((ZaI L).cells xv cv ev)) [AObj.dead]:=fun k=>rfl
  have a1:Zae (.slice 3) w1=some (.int .i64 (wS (ZaI L) s).length):=by have:=q2.len 3;rwa [List.length_map] at this
  have a2:Zae (.slice 3) w2=some (.int .i64 (wS (ZaI L) t).length):=by have:=q4.len 3;rwa [List.length_map] at this
  have hmin:ZdQ (.int .i64 ((wS (ZaI L) s).length:Int)) (.int .i64 ((wS (ZaI L) t).length:Int))=some (.int .i64 ((min (wS (ZaI L) s).length (wS (ZaI L) t).length:Nat):Int)):=by
   unfold ZdQ
   simp only [if_true]
   congr 2
   split <;> omega
  have hlp:=ZH3 q2 q4 (by omega) (by omega) s t [] [AObj.dead] _ 0 rfl (Nat.zero_le _)
  rw [show ((0:Nat):Int)=0 from rfl,List.drop_zero,List.drop_zero] at hlp
  simp only [go_sem,List.length_nil,List.nil_append,hl,hv1,hst,hfz,Ztd,Ztq,List.cons_append,q1,q3,a1,a2,hmin,hlp]
  rfl
 exact Zn9 (args':=[.agg (L.cells x c e),.str s,.str t]) (by simp [h1];rfl) hrun rfl
end Go.Am
namespace Go.Am
set_option linter.unusedSimpArgs false
set_option linter.unusedVariables false
set_option maxRecDepth 100000

def natS (s:List UInt8):List Int:=s.map fun c=>(c.toNat:Int)
theorem ZB0 {s done r:List UInt8} {b:UInt8} (h:s=done++b :: r):Zal (.str s) (.int .i64 (done.length:Int))=some (.int .u8 b.toNat) :=
 ZaE (by rw [h,List.getElem?_append_right (Nat.le_refl _)];simp)
end Go.Am
namespace Go.Am
set_option linter.unusedSimpArgs false
set_option linter.unusedVariables false
set_option maxRecDepth 100000

def isD (b:UInt8):Bool:=decide (48≤(b.toNat:Int)) && decide ((b.toNat:Int)≤57)
def Zah (l:List UInt8):Nat:=(l.takeWhile isD).length
theorem ZHu:Zah []=0:=rfl
theorem Zy2 (b:UInt8) (l:List UInt8):Zah (b :: l)=if isD b then Zah l+1 else 0:=by
 unfold Zah;rw [List.takeWhile_cons];split <;> simp_all
theorem ZBy (l:List UInt8):Zah l≤l.length:=by
 induction l with
 | nil=>simp [Zah]
 | cons b l ih=>rw [Zy2];split <;> simp <;> omega
theorem ZCj {s : List UInt8} (hs : s.length ≤ 1048576) (H0 H : Hp) : ∀ (k p : Nat), s.length - p = k → p ≤ s.length →
    Zej (.str s) (.int .i64 (p:Int)) H0 H=some (.int .i64 ((p+Zah (s.drop p):Nat):Int),H):=by
 intro k
 induction k with
 | zero =>
  intro p hk hp
  rw [Zj4]
  have hlt:decide ((p:Int) < (s.length:Int))=false:=by simp;omega
  have hd:s.drop p=[]:=List.drop_eq_nil_iff.2 (by omega)
  simp only [go_sem,hlt,hd,ZHu,Nat.add_zero,ZeT]
 | succ k ih =>
  intro p hk hp
  rw [Zj4]
  have hlt:decide ((p:Int) < (s.length:Int))=true:=by simp;omega
  have hl:p < s.length:=by omega
  have hw:IntKind.i64.wrap ((p:Int)+1)=((p+1:Nat):Int):=by rw [Zaj (by omega) (by omega)];omega
  simp only [go_sem,hlt,ZaE (List.getElem?_eq_getElem hl)]
  rw [ZdU hl,Zy2]
  cases h1:decide (48≤((s[p].toNat:Int))) with
  | false=>simp only [isD,h1,go_sem,Bool.false_and,Bool.false_eq_true,if_false,Nat.add_zero,ZeT]
  | true =>
   cases h2:decide (((s[p].toNat:Int))≤57) with
   | false=>simp only [isD,h1,h2,go_sem,ZaE (List.getElem?_eq_getElem hl),Bool.and_false,Bool.false_eq_true,if_false,Nat.add_zero,ZeT]
   | true =>
    simp only [isD,h1,h2,go_sem,ZaE (List.getElem?_eq_getElem hl),Bool.and_true,if_true,ZqS,hw]
    rw [ih (p+1) (by omega) (by omega),show p+1+Zah (s.drop (p+1))=p+(Zah (s.drop (p+1))+1) by omega]
theorem Zvg (s:List UInt8) (hs:s.length≤1048576) (H:Hp):Zaa ZeL [.str s] H=some (.int .i64 (Zah s:Int),H):=by
 refine ZbV (a':=.str s) (H1:=[]) rfl ?_ rfl
 rw [Zs5]
 have:=ZCj hs [] [] s.length 0 rfl (by omega)
 rw [show ((0:Nat):Int)=0 from rfl,List.drop_zero,Nat.zero_add] at this
 exact this
def dg (b:UInt8):Int:=IntKind.u8.wrap ((b.toNat:Int) - 48)
theorem Zc4 (b:UInt8):0≤dg b∧dg b≤255:=by
 unfold dg
 have h:=b.toNat_lt
 show 0≤((b.toNat:Int) - 48) % 256∧((b.toNat:Int) - 48) % 256≤255
 omega
theorem ZJY (b:UInt8):Zbl .i64 (.int .u8 (IntKind.u8.wrap ((b.toNat:Int) - 48)))=some (.int .i64 (dg b)):=by
 have:=Zc4 b
 show some (AV.int .i64 (IntKind.i64.wrap (dg b)))=_
 rw [Zaj (by omega) (by omega)]
def fr:Nat→List UInt8→Int→Int
 | 0,_,d=>d
 | k+1,[],d=>fr k [] (d * 10)
 | k+1,b :: l,d=>fr k l (d * 10+dg b)
theorem ZM0 (k:Nat) (d:Int):fr (k+1) [] d=fr k [] (d * 10):=(Eq.refl _).trans (Eq.refl _)
theorem ZKN (k:Nat) (b:UInt8) (l:List UInt8) (d:Int):fr (k+1) (b :: l) d=fr k l (d * 10+dg b):=(Eq.refl _).trans (Eq.refl _)
theorem ZGm (s : List UInt8) (hs : s.length ≤ 1048576) (H0 H : Hp) : ∀ (k i : Nat) (d p : Int), i + k = 4 → 0 ≤ d → d + 1000 ≤ 2000000000 * p → p * 10 ^ k ≤ 10000 →
    Zdz (.str s) (.int .i64 d) (.int .i64 (i:Int)) H0 H=some (.int .i64 (fr k (s.drop i) d),H):=by
 intro k
 induction k with
 | zero =>
  intro i d p hik h0 h1 h2
  rw [Zhv]
  have hlt:decide ((i:Int) < 4)=false:=by simp;omega
  simp only [go_sem,hlt,Zph,fr]
 | succ k ih =>
  intro i d p hik h0 h1 h2
  rw [Zhv]
  have hlt:decide ((i:Int) < 4)=true:=by simp;omega
  have hwi:IntKind.i64.wrap ((i:Int)+1)=((i+1:Nat):Int):=by rw [Zaj (by omega) (by omega)];omega
  have h2':p * 10 * 10 ^ k≤10000:=by rw [Int.mul_assoc,show (10:Int) * 10 ^ k=10 ^ (k+1) by rw [Int.pow_succ,Int.mul_comm]];exact h2
  have hpk:(1:Int)≤10 ^ k:=Int.add_one_le_iff.2 (Int.pow_pos (by decide))
  have hp:p * 10≤10000:=by
   by_cases hp0:0≤p
   ·have:=Int.mul_le_mul_of_nonneg_left hpk (show 0≤p * 10 by omega)
    omega
   ·omega
  have hwd:IntKind.i64.wrap (d * 10)=d * 10:=Zaj (by omega) (by omega)
  simp only [go_sem,hlt,Zpi,hwd,ZaZ]
  by_cases hi:i < s.length
  ·have hb:=Zc4 s[i]
   have hlti:decide ((i:Int) < (s.length:Int))=true:=by simp;omega
   have hwd2:IntKind.i64.wrap (d * 10+dg s[i])=d * 10+dg s[i]:=Zaj (by omega) (by omega)
   simp only [hlti,go_sem,ZaE (List.getElem?_eq_getElem hi),ZJY,hwd2,Zhu,hwi]
   rw [ih (i+1) _ (p * 10) (by omega) (by omega) (by omega) h2',ZdU hi,ZKN]
  ·have hlti:decide ((i:Int) < (s.length:Int))=false:=by simp;omega
   have hd:s.drop i=[]:=List.drop_eq_nil_iff.2 (by omega)
   have hd1:s.drop (i+1)=[]:=List.drop_eq_nil_iff.2 (by omega)
   simp only [hlti,go_sem,Zhu,hwi]
   rw [ih (i+1) _ (p * 10) (by omega) (by omega) (by omega) h2',hd,hd1,ZM0]
theorem ZGl (s:List UInt8) (hs:s.length≤1048576) (H:Hp):Zaa ZfQ [.str s] H=some (.int .i64 (fr 4 s 0),H):=by
 refine ZbV (a':=.str s) (H1:=[]) rfl ?_ rfl
 rw [ZpB]
 have:=ZGm s hs [] [] 4 0 0 1 rfl (by omega) (by omega) (by decide)
 rw [show ((0:Nat):Int)=0 from rfl,List.drop_zero] at this
 exact this
def valW:List UInt8→Int→Option Int
 | [],d=>some d
 | b :: l,d=>if 1000000000 < d * 10+dg b then none else valW l (d * 10+dg b)
theorem Zzv (b:UInt8) (l:List UInt8) (d:Int):valW (b :: l) d=if 1000000000 < d * 10+dg b then none else valW l (d * 10+dg b):=(Eq.refl _).trans (Eq.refl _)
theorem Zz7 (l:List UInt8):0≤fr 4 l 0∧fr 4 l 0≤1000000:=by
 match l with
 | []=>simp [fr]
 | [a]=>have:=Zc4 a;simp [fr];omega
 | [a,b]=>have:=Zc4 a;have:=Zc4 b;simp [fr];omega
 | [a,b,c]=>have:=Zc4 a;have:=Zc4 b;have:=Zc4 c;simp [fr];omega
 | a :: b :: c :: d :: l=>have:=Zc4 a;have:=Zc4 b;have:=Zc4 c;have:=Zc4 d;simp [fr];omega
def numS (w f:List UInt8):Option Int:=match valW w 0 with
 | none=>none
 | some d=>some (d * 10000+fr 4 f 0)
def valS (w f:List UInt8):Int:=match numS w f with
 | none=>10000000000001
 | some n=>min 10000000000001 n
theorem ZFd (s f : List UInt8) (hs : s.length ≤ 1048576) (hf : f.length ≤ 1048576) (H0 H : Hp) : ∀ (r done : List UInt8) (d : Int), s = done ++ r → 0 ≤ d → d ≤ 1000000000 →
    ZeV (.str s) (.str f) (.int .i64 d) (.int .i64 (s.length:Int)) (.int .i64 (done.length:Int)) H0 H=some (.int .i64 (match valW r d with
     | none=>10000000000001
     | some n=>min 10000000000001 (n * 10000+fr 4 f 0)),H):=by
 intro r
 induction r with
 | nil =>
  intro done d hd h0 h1
  rw [List.append_nil] at hd
  subst hd
  rw [ZjF]
  have hlt:decide ((s.length:Int) < (s.length:Int))=false:=by simp
  have hfr:=Zz7 f
  have hw1:IntKind.i64.wrap (d * 10000)=d * 10000:=Zaj (by omega) (by omega)
  have hw2:IntKind.i64.wrap (d * 10000+fr 4 f 0)=d * 10000+fr 4 f 0:=Zaj (by omega) (by omega)
  simp only [go_sem,hlt,Zsg,hw1,ZGl f hf,hw2,valW]
 | cons b r ih =>
  intro done d hd h0 h1
  have hlen:s.length=done.length+(r.length+1):=by rw [hd];simp
  have hlt:decide ((done.length:Int) < (s.length:Int))=true:=by simp;omega
  have hwi:IntKind.i64.wrap ((done.length:Int)+1)=((done.length+1:Nat):Int):=by rw [Zaj (by omega) (by omega)];omega
  have hb:=Zc4 b
  have hw1:IntKind.i64.wrap (10 * d)=d * 10:=by rw [Zaj (by omega) (by omega)];omega
  have hw2:IntKind.i64.wrap (d * 10+dg b)=d * 10+dg b:=Zaj (by omega) (by omega)
  rw [ZjF,Zzv]
  simp only [go_sem,hlt,Zsh,hw1,ZB0 hd,ZJY,hw2]
  by_cases hg:1000000000 < d * 10+dg b
  ·simp only [decide_eq_true hg,go_sem,if_pos hg]
  ·have:=ih (done++[b]) (d * 10+dg b) (by rw [hd];simp) (by omega) (by omega)
   rw [List.length_append,List.length_singleton] at this
   simp only [decide_eq_false hg,go_sem,if_neg hg,Zsi,hwi,this]
theorem ZFc (s f:List UInt8) (hs:s.length≤1048576) (hf:f.length≤1048576) (H:Hp):Zaa ZiB [.str s,.str f] H=some (.int .i64 (valS s f),H):=by
 refine Zgm (a':=.str s) (b':=.str f) (H1:=[]) rfl rfl ?_ rfl
 rw [ZsW]
 unfold Zo7
 have:=ZFd s f hs hf [] [] s [] 0 rfl (by omega) (by omega)
 rw [List.length_nil,show ((0:Nat):Int)=0 from rfl] at this
 simp only [go_sem,this]
 unfold valS numS
 cases valW s 0 <;> rfl
end Go.Am
namespace Go.Am
set_option linter.unusedSimpArgs false
set_option linter.unusedVariables false
set_option maxRecDepth 100000

def finV (neg:Bool) (n:Nat) (w f:List UInt8):Int :=
 if n=0∧f=[] then 0 else if neg then -(min 10000000000000 (valS w f)) else min 10000000000000 (valS w f)
def preV (neg:Bool) (r:List UInt8):Int :=
 match r.drop (Zah r) with
 | []=>finV neg (Zah r) (r.take (Zah r)) []
 | b :: q=>if (((b.toNat:Int) == 46) && (decide (0 < Zah r) || decide (0 < Zah q)))=true then finV neg (Zah r) (r.take (Zah r)) (q.take (Zah q)) else finV neg (Zah r) (r.take (Zah r)) []
theorem ZJo {neg:Bool} {r:List UInt8} (h:r.drop (Zah r)=[]):preV neg r=finV neg (Zah r) (r.take (Zah r)) []:=by unfold preV;rw [h]
theorem ZH7 {neg:Bool} {r:List UInt8} {b:UInt8} {q:List UInt8} (h:r.drop (Zah r)=b :: q):preV neg r=if (((b.toNat:Int) == 46) && (decide (0 < Zah r) || decide (0 < Zah q)))=true then finV neg (Zah r) (r.take (Zah r)) (q.take (Zah q)) else finV neg (Zah r) (r.take (Zah r)) []:=by unfold preV;rw [h]
theorem ZF9:∀ (l:List UInt8) (d n:Int),0≤d→d≤1000000000→valW l d=some n→0≤n∧n≤1000000000:=by
 intro l
 induction l with
 | nil=>intro d n h0 h1 h;injection h with h;subst h;exact ⟨h0,h1⟩
 | cons b l ih =>
  intro d n h0 h1 h
  rw [Zzv] at h
  have:=Zc4 b
  split at h
  ·cases h
  ·exact ih _ n (by omega) (by omega) h
theorem ZEI {w f:List UInt8} {n:Int} (h:numS w f=some n):0≤n∧n≤10000001000000:=by
 unfold numS at h
 split at h
 ·cases h
 ·rename_i d hd
  injection h with h
  have:=ZF9 w 0 d (by omega) (by omega) hd
  have:=Zz7 f
  omega
theorem ZF8 (w f:List UInt8):0≤valS w f∧valS w f≤10000000000001:=by
 unfold valS
 split
 ·omega
 ·rename_i n h
  have:=ZEI h
  omega
theorem ZMw (x y:AV):aext (.tuple [x,y]) 0=some x:=rfl
theorem ZMx (x y:AV):aext (.tuple [x,y]) 1=some y:=rfl
theorem ZCU (n:Int):aun .neg (.int .i64 n)=some (.int .i64 (IntKind.i64.wrap (0 - n))):=(Eq.refl _).trans (Eq.refl _)
theorem ZxS (neg : Bool) (n : Nat) (w f : List UInt8) (hw : w.length ≤ 1048576) (hf : f.length ≤ 1048576) (e : Int) (H0 H : Hp) :
    ∃ e',Zcf (.bool neg) (.int .i64 (n:Int)) (.str w) (.str f) (.int .i64 e) H0 H=some (.tuple [.int .i64 (finV neg n w f),.int .i64 e'],H):=by
 have hv:=ZF8 w f
 have hmin:ZdQ (.int .i64 10000000000000) (.int .i64 (valS w f))=some (.int .i64 (min 10000000000000 (valS w f))):=by
  unfold ZdQ
  simp only [if_true]
  congr 2
  split <;> omega
 have hneg:IntKind.i64.wrap (0 - min 10000000000000 (valS w f))=-(min 10000000000000 (valS w f)):=by rw [Zaj (by omega) (by omega)];omega
 have hJ4:Zh8 (.bool neg) (.str w) (.str f) (.int .i64 e) H0 H=some (.tuple [.int .i64 (if neg then -(min 10000000000000 (valS w f)) else min 10000000000000 (valS w f)),.int .i64 e],H):=by
  rw [ZqR]
  simp only [go_sem,ZFc w f hw hf,hmin]
  cases neg with
  | true=>simp only [go_sem,ZCU,hneg,Zj1,if_true]
  | false=>simp only [go_sem,Zj1,Bool.false_eq_true,if_false]
 have hs:sbin .eql (.str f) (.str [])=some (.bool (f == [])):=rfl
 rw [ZqQ]
 unfold finV
 cases n with
 | zero =>
  cases f with
  | nil=>exact ⟨0,by simp [go_sem,sbin];rfl⟩
  | cons b f =>
   have hs:sbin .eql (.str (b :: f)) (.str [])=some (.bool false):=rfl
   refine ⟨e,?_⟩
   simp [go_sem,hs,hJ4]
 | succ n =>
  refine ⟨e,?_⟩
  have h0:(((n+1:Nat):Int) == 0)=false:=by
   rw [beq_eq_false_iff_ne];omega
  simp only [go_sem,h0,hJ4]
  simp
theorem ZBz {s:List UInt8} {i:Nat} (h:i≤s.length):ZaL (.str s) (some (.int .i64 (i:Int))) none none=some (.str (s.drop i)):=by
 rw [ZqG .i64 (by omega) (by omega)];simp
theorem ZxR (s : List UInt8) (hs : s.length ≤ 1048576) (neg : Bool) {i : Nat} (hi : i ≤ s.length) (H0 H : Hp) :
    ∃ e,Zeh (.str s) (.int .i64 (i:Int)) (.bool neg) H0 H=some (.tuple [.int .i64 (preV neg (s.drop i)),.int .i64 e],H):=by
 have hr:(s.drop i).length=s.length - i:=List.length_drop
 have hn:=ZBy (s.drop i)
 have hwn:IntKind.i64.wrap ((i:Int)+(Zah (s.drop i):Int))=((i+Zah (s.drop i):Nat):Int):=by rw [Zaj (by omega) (by omega)];omega
 have htk:(s.take (i+Zah (s.drop i))).drop i=(s.drop i).take (Zah (s.drop i)):=by rw [List.drop_take];congr 1;omega
 rw [ZqP]
 simp only [go_sem,ZBz hi,Zvg _ (show (s.drop i).length≤1048576 by omega),hwn,Zi4 (show i≤i+Zah (s.drop i) by omega) (show i+Zah (s.drop i)≤s.length by omega),htk,ZaZ]
 have htl:((s.drop i).take (Zah (s.drop i))).length≤1048576:=by rw [List.length_take];omega
 by_cases hlt:i+Zah (s.drop i) < s.length
 ·have c1:decide (((i+Zah (s.drop i):Nat):Int) < (s.length:Int))=true:=by simp;omega
  have hd:(s.drop i).drop (Zah (s.drop i))=s[i+Zah (s.drop i)] :: s.drop (i+Zah (s.drop i)+1):=by
   rw [List.drop_drop,ZdU hlt]
  have hw1:IntKind.i64.wrap (((i+Zah (s.drop i):Nat):Int)+1)=((i+Zah (s.drop i)+1:Nat):Int):=by rw [Zaj (by omega) (by omega)];omega
  have hq:(s.drop (i+Zah (s.drop i)+1)).length=s.length - (i+Zah (s.drop i)+1):=List.length_drop
  have hk:=ZBy (s.drop (i+Zah (s.drop i)+1))
  rw [ZH7 hd]
  simp only [c1,go_sem,ZaE (List.getElem?_eq_getElem hlt)]
  cases h46:((s[i+Zah (s.drop i)].toNat:Int) == 46) with
  | false =>
   simp only [go_sem,Bool.false_and,Bool.false_eq_true,if_false]
   exact ZxS neg _ _ _ htl (by simp) _ H0 H
  | true =>
   have hw2:IntKind.i64.wrap (((i+Zah (s.drop i)+1:Nat):Int)+(Zah (s.drop (i+Zah (s.drop i)+1)):Int))=((i+Zah (s.drop i)+1+Zah (s.drop (i+Zah (s.drop i)+1)):Nat):Int):=by rw [Zaj (by omega) (by omega)];omega
   have hw3:IntKind.i64.wrap ((1:Int)+(Zah (s.drop (i+Zah (s.drop i)+1)):Int))=((1+Zah (s.drop (i+Zah (s.drop i)+1)):Nat):Int):=by rw [Zaj (by omega) (by omega)];omega
   have htq:(s.take (i+Zah (s.drop i)+1+Zah (s.drop (i+Zah (s.drop i)+1)))).drop (i+Zah (s.drop i)+1)=(s.drop (i+Zah (s.drop i)+1)).take (Zah (s.drop (i+Zah (s.drop i)+1))):=by rw [List.drop_take];congr 1;omega
   have hfl:((s.drop (i+Zah (s.drop i)+1)).take (Zah (s.drop (i+Zah (s.drop i)+1)))).length≤1048576:=by rw [List.length_take];omega
   have hpos:∀ n:Nat,decide ((0:Int) < (n:Int))=decide (0 < n):=fun n=>by simp
   simp only [go_sem,hw1,ZBz (show i+Zah (s.drop i)+1≤s.length by omega),Zvg _ (show (s.drop (i+Zah (s.drop i)+1)).length≤1048576 by omega),hpos,Bool.true_and]
   have hfin:∃ e,(bnd (ibin .add (.int .i64 ((i+Zah (s.drop i):Nat):Int)) (.int .i64 1)) fun t91_34 =>
    bnd (ibin .add (.int .i64 ((i+Zah (s.drop i):Nat):Int)) (.int .i64 1)) fun t93_35 =>
    bnd (ibin .add t93_35 (.int .i64 (Zah (s.drop (i+Zah (s.drop i)+1)):Int))) fun t95_36 =>
    bnd (ZaL (.str s) (some t91_34) (some t95_36) none) fun t96_37 =>
    bnd (ibin .add (.int .i64 1) (.int .i64 (Zah (s.drop (i+Zah (s.drop i)+1)):Int))) fun t99_38 =>
    bnd (ibin .add (.int .i64 ((i+Zah (s.drop i):Nat):Int)) t99_38) fun t100_39 =>
    Zcf (.bool neg) (.int .i64 (Zah (s.drop i):Int)) (.str ((s.drop i).take (Zah (s.drop i)))) t96_37 t100_39 H0 H)=some (.tuple [.int .i64 (finV neg (Zah (s.drop i)) ((s.drop i).take (Zah (s.drop i))) ((s.drop (i+Zah (s.drop i)+1)).take (Zah (s.drop (i+Zah (s.drop i)+1))))),.int .i64 e],H):=by
    simp only [go_sem,hw1,hw2,hw3,Zi4 (show i+Zah (s.drop i)+1≤i+Zah (s.drop i)+1+Zah (s.drop (i+Zah (s.drop i)+1)) by omega) (show i+Zah (s.drop i)+1+Zah (s.drop (i+Zah (s.drop i)+1))≤s.length by omega),htq]
    exact ZxS neg _ _ _ htl hfl _ H0 H
   simp only [go_sem,hw1,hw2,hw3,Zi4 (show i+Zah (s.drop i)+1≤i+Zah (s.drop i)+1+Zah (s.drop (i+Zah (s.drop i)+1)) by omega) (show i+Zah (s.drop i)+1+Zah (s.drop (i+Zah (s.drop i)+1))≤s.length by omega),htq] at hfin
   cases hn0:decide (0 < Zah (s.drop i)) with
   | true =>
    simp only [go_sem,Bool.true_or,if_true,hw1,hw2,hw3,Zi4 (show i+Zah (s.drop i)+1≤i+Zah (s.drop i)+1+Zah (s.drop (i+Zah (s.drop i)+1)) by omega) (show i+Zah (s.drop i)+1+Zah (s.drop (i+Zah (s.drop i)+1))≤s.length by omega),htq]
    exact hfin
   | false =>
    cases hk0:decide (0 < Zah (s.drop (i+Zah (s.drop i)+1))) with
    | true =>
     simp only [go_sem,hpos,hk0,Bool.or_true,if_true,hw1,hw2,hw3,Zi4 (show i+Zah (s.drop i)+1≤i+Zah (s.drop i)+1+Zah (s.drop (i+Zah (s.drop i)+1)) by omega) (show i+Zah (s.drop i)+1+Zah (s.drop (i+Zah (s.drop i)+1))≤s.length by omega),htq]
     exact hfin
    | false =>
     simp only [go_sem,hpos,hk0,Bool.or_false,Bool.false_eq_true,if_false]
     exact ZxS neg _ _ _ htl (by simp) _ H0 H
 ·have c1:decide (((i+Zah (s.drop i):Nat):Int) < (s.length:Int))=false:=by simp;omega
  have hd:(s.drop i).drop (Zah (s.drop i))=[]:=List.drop_eq_nil_iff.2 (by omega)
  rw [ZJo hd]
  simp only [c1,go_sem]
  exact ZxS neg _ _ _ htl (by simp) _ H0 H

def preG:List UInt8→Int
 | []=>preV false []
 | b :: r=>if (((b.toNat:Int) == 45) || ((b.toNat:Int) == 43))=true then preV ((b.toNat:Int) == 45) r else preV ((b.toNat:Int) == 45) (b :: r)
theorem ZH6 (b:UInt8) (r:List UInt8):preG (b :: r)=if (((b.toNat:Int) == 45) || ((b.toNat:Int) == 43))=true then preV ((b.toNat:Int) == 45) r else preV ((b.toNat:Int) == 45) (b :: r):=(Eq.refl _).trans (Eq.refl _)
def preS (s:List UInt8):Int:=preG (s.drop (ZaV s))

theorem ZH8 (s : List UInt8) (hs : s.length ≤ 1048576) {i : Nat} (hi : i ≤ s.length) (H0 H : Hp) :
    ∃ e,Zh7 (.str s) (.int .i64 (i:Int)) H0 H=some (.tuple [.int .i64 (preG (s.drop i)),.int .i64 e],H):=by
 rw [ZqO]
 by_cases hlt:i < s.length
 ·have c1:decide ((i:Int) < (s.length:Int))=true:=by simp;omega
  have hw1:IntKind.i64.wrap ((i:Int)+1)=((i+1:Nat):Int):=by rw [Zaj (by omega) (by omega)];omega
  have hix:=ZaE (List.getElem?_eq_getElem hlt)
  rw [ZdU hlt]
  simp only [ZaZ,go_sem,c1,hix,ZH6]
  cases h45:((s[i].toNat:Int) == 45) with
  | true =>
   simp only [go_sem,c1,hix,hw1,Bool.true_or,if_true]
   exact ZxR s hs true (by omega) H0 H
  | false =>
   simp only [go_sem,ZaZ,c1,hix]
   cases h43:((s[i].toNat:Int) == 43) with
   | true =>
    simp only [go_sem,c1,hix,hw1,Bool.or_true,if_true]
    exact ZxR s hs false (by omega) H0 H
   | false =>
    simp only [go_sem,Bool.or_false,Bool.or_self,Bool.false_eq_true,if_false]
    rw [← ZdU hlt]
    exact ZxR s hs false (by omega) H0 H
 ·have c1:decide ((i:Int) < (s.length:Int))=false:=by simp;omega
  have hd:s.drop i=[]:=List.drop_eq_nil_iff.2 (by omega)
  simp only [ZaZ,go_sem,c1,hd]
  have:=ZxR s hs false hi H0 H
  rw [hd] at this
  exact this
theorem ZMg (s : List UInt8) (hs : s.length ≤ 1048576) (H0 H : Hp) : ∀ (k i : Nat), s.length - i = k → i ≤ s.length →
    ∃ e,Zei (.str s) (.int .i64 (i:Int)) H0 H=some (.tuple [.int .i64 (preG ((s.drop i).drop (ZaV (s.drop i)))),.int .i64 e],H):=by
 intro k
 induction k with
 | zero =>
  intro i hk hi
  have hlt:decide ((i:Int) < (s.length:Int))=false:=by simp;omega
  have hd:s.drop i=[]:=List.drop_eq_nil_iff.2 (by omega)
  rw [Zj3]
  simp only [ZaZ,go_sem,hlt]
  have:=ZH8 s hs hi H0 H
  rw [hd] at this ⊢
  exact this
 | succ k ih =>
  intro i hk hi
  have hl:i < s.length:=by omega
  have hlt:decide ((i:Int) < (s.length:Int))=true:=by simp;omega
  have hw1:IntKind.i64.wrap ((i:Int)+1)=((i+1:Nat):Int):=by rw [Zaj (by omega) (by omega)];omega
  have hix:=ZaE (List.getElem?_eq_getElem hl)
  have ih':=ih (i+1) (by omega) (by omega)
  have hnext:isBl s[i]=true→(s.drop i).drop (ZaV (s.drop i))=(s.drop (i+1)).drop (ZaV (s.drop (i+1))):=fun h=>by
   rw [ZdU hl,Zd0,h,if_pos rfl,List.drop_succ_cons]
  have hstop:isBl s[i]=false→(s.drop i).drop (ZaV (s.drop i))=s.drop i:=fun h=>by
   rw [ZdU hl,Zd0,h];simp
  have hb:isBl s[i]=(((s[i].toNat:Int) == 32) || ((s[i].toNat:Int) == 9)):=by
   rw [isBl,(Zoo s[i]).1,(Zoo s[i]).2]
  rw [Zj3]
  simp only [ZaZ,go_sem,hlt,hix]
  cases h32:((s[i].toNat:Int) == 32) with
  | true =>
   simp only [go_sem,Zj2,hw1]
   rw [hnext (by rw [hb,h32];rfl)]
   exact ih'
  | false =>
   simp only [go_sem,hix]
   cases h9:((s[i].toNat:Int) == 9) with
   | true =>
    simp only [go_sem,Zj2,hw1]
    rw [hnext (by rw [hb,h32,h9];rfl)]
    exact ih'
   | false =>
    simp only [go_sem]
    rw [hstop (by rw [hb,h32,h9];rfl)]
    exact ZH8 s hs hi H0 H

theorem ZBg (s:List UInt8) (hs:s.length≤1048576) (H:Hp):∃ e,Zaa ZeK [.str s] H=some (.tuple [.int .i64 (preS s),.int .i64 e],H):=by
 obtain ⟨e,h⟩:=ZMg s hs [] [] _ 0 rfl (Nat.zero_le _)
 rw [show ((0:Nat):Int)=0 from rfl,List.drop_zero] at h
 refine ⟨e,ZbV (a':=.str s) (H1:=[]) rfl ?_ rfl⟩
 rw [Zs4]
 exact h

def sgnS (a b:Int):Int:=if a < b then -1 else if b < a then 1 else 0
theorem ZHs (a b:Int) (H:Hp):Zaa Zk0 [.int .i64 a,.int .i64 b] H=some (.int .i64 (sgnS a b),H):=by
 refine Zgm (a':=.int .i64 a) (b':=.int .i64 b) (H1:=[]) rfl rfl ?_ rfl
 rw [ZuJ]
 unfold ZpL sgnS
 by_cases h:a < b
 ·simp only [go_sem,decide_eq_true h,if_pos h]
 ·by_cases h2:b < a
  ·simp only [go_sem,decide_eq_false h,if_neg h,decide_eq_true h2,if_pos h2]
  ·simp only [go_sem,decide_eq_false h,if_neg h,decide_eq_false h2,if_neg h2,Zuf]
end Go.Am
namespace Go.Am
set_option linter.unusedSimpArgs false
set_option linter.unusedVariables false
set_option maxRecDepth 100000

def Zuq (b:UInt8):Bool:=isBl b || ZGB b.toNat || Zkq b.toNat
def ZhZ (s:List UInt8):List UInt8:=s.filter Zuq
theorem ZFX:((List.range 256).all fun n=>(ZiY (ZAd (.bool (isBl (UInt8.ofNat n))) (.int .u8 (n:Int))) == some (Zuq (UInt8.ofNat n))) && (ZiY (ZHc (.bool (isBl (UInt8.ofNat n))) (.int .u8 (n:Int))) == some (Zuq (UInt8.ofNat n))))=true:=by kernel_rfl
theorem ZIt (b:UInt8):ZAd (.bool (isBl b)) (.int .u8 b.toNat)=some (.bool (Zuq b))∧ZHc (.bool (isBl b)) (.int .u8 b.toNat)=some (.bool (Zuq b)):=by
 have:=ZeE ZFX (ZuB b)
 rw [UInt8.ofNat_toNat,Bool.and_eq_true,beq_iff_eq,beq_iff_eq] at this
 exact ⟨Zea this.1,Zea this.2⟩
theorem ZIe (acc:List UInt8) (b:UInt8) (h:acc.length≤1048576):Zuo.run [.ptr 0 0,.int .u8 b.toNat] [AObj.bld 192 5 acc]=some (.nili,[AObj.bld 192 5 (acc++[b])]):=by
 have hb:=b.toNat_lt
 have h2:acc.length+1≤maxB:=by unfold maxB;omega
 have hby:Zx8 [.int .u8 b.toNat]=some fun l=>if l.length+1≤maxB then some (.nili,l++[UInt8.ofNat (b.toNat:Int).toNat]) else none:=by
  simp only [Zx8,if_pos (show (0:Int)≤(b.toNat:Int)∧(b.toNat:Int) < 256 by omega)]
 simp only [Zuo,ZJT,bldE,ZmZ,hby,List.getElem?_cons_zero,bldF,bldT,bldU,and_self,if_true,if_pos h2,List.set_cons_zero,Int.toNat_natCast,UInt8.ofNat_toNat]
theorem Zy5 (acc:List UInt8):Zms.run [.ptr 0 0] [AObj.bld 192 5 acc]=some (.str acc,[AObj.bld 192 5 acc]):=rfl
theorem ZFZ (s : List UInt8) (hs : s.length ≤ 1048576) (H0 : Hp) : ∀ (r done : List UInt8) (acc : List UInt8), s = done ++ r → acc.length ≤ done.length →
    ∃ H',ZfJ (.str s) (.ptr 0 0) (.int .i64 (s.length:Int)) (.int .i64 (done.length:Int)) H0 [AObj.bld 192 5 acc]=some (.str (acc++ZhZ r),H'):=by
 intro r
 induction r with
 | nil =>
  intro done acc hd ha
  rw [List.append_nil] at hd
  subst hd
  have hlt:decide ((s.length:Int) < (s.length:Int))=false:=by simp
  refine ⟨[AObj.bld 192 5 acc],?_⟩
  rw [Zl6]
  simp only [go_sem,hlt,Zud,Zy5]
  simp [ZhZ]
 | cons b r ih =>
  intro done acc hd ha
  have hlen:s.length=done.length+(r.length+1):=by rw [hd];simp
  have hlt:decide ((done.length:Int) < (s.length:Int))=true:=by simp;omega
  have hw1:IntKind.i64.wrap ((done.length:Int)+1)=((done.length+1:Nat):Int):=by rw [Zaj (by omega) (by omega)];omega
  rw [Zl6]
  simp only [go_sem,hlt,Zrh,ZB0 hd,ZqH,(ZIt b).1]
  cases hb:Zuq b with
  | true =>
   obtain ⟨H',h⟩:=ih (done++[b]) (acc++[b]) (by rw [hd];simp) (by simp;omega)
   rw [List.length_append,List.length_singleton] at h
   refine ⟨H',?_⟩
   simp only [go_sem,ZIe acc b (by omega),Zl5,hw1,h,ZhZ,List.filter_cons,hb,if_true,List.append_assoc,List.singleton_append]
  | false =>
   obtain ⟨H',h⟩:=ih (done++[b]) acc (by rw [hd];simp) (by simp;omega)
   rw [List.length_append,List.length_singleton] at h
   refine ⟨H',?_⟩
   simp only [go_sem,Zl5,hw1,h,ZhZ,List.filter_cons,hb,Bool.false_eq_true,if_false]
theorem ZFY (s:List UInt8) (hs:s.length≤1048576) (H:Hp):Zaa ZjZ [.str s] H=some (.str (ZhZ s),H):=by
 obtain ⟨H',h⟩:=ZFZ s hs [] s [] [] rfl (Nat.le_refl _)
 rw [List.length_nil,show ((0:Nat):Int)=0 from rfl,List.nil_append] at h
 refine ZbV (a':=.str s) (H1:=H') rfl ?_ rfl
 rw [ZuI]
 unfold ZpK
 simp only [go_sem,List.length_nil,List.nil_append,h]
theorem Zk4 (s:List UInt8):(ZhZ s).length≤s.length:=List.length_filter_le _ _

def Zbr (s:List UInt8):List UInt8:=s.drop (ZaV s)
theorem ZqT (s:List UInt8):(Zbr s).length≤s.length:=by unfold Zbr;rw [List.length_drop];omega
theorem ZCk (b:UInt8) (s:List UInt8):Zbr (b :: s)=if isBl b then Zbr s else b :: s:=by
 unfold Zbr
 rw [Zd0]
 split <;> simp
theorem ZF4 (s:List UInt8):Go.Lib.trimLeftS s [32,9]=Zbr s:=by
 unfold Go.Lib.trimLeftS
 induction s with
 | nil=>rfl
 | cons b s ih =>
  rw [ZCk,List.dropWhile_cons]
  have:([32,9]:List UInt8).contains b=isBl b:=by
   rw [List.contains_cons,List.contains_cons,isBl]
   simp
  rw [this,ih]
theorem ZHG (s:List UInt8) (H:Hp):Zaa Zh2 [.str s] H=some (.str (Zbr s),H):=by
 refine ZbV (a':=.str s) (H1:=[]) rfl ?_ rfl
 rw [Zqt]
 unfold Zlw
 have:ZuA [.str s,.str [32,9]]=some (.str (Zbr s)):=by
  unfold ZuA
  dsimp only
  rw [if_pos ⟨by decide,by decide⟩,ZF4]
 simp only [go_sem,sumC,this]
theorem ZMt (L:Loc) (s:List UInt8):(upS L s).length=s.length:=by simp [upS,mapS]
theorem ZGj {l:List AV} {L:Loc} (h:ZfZ l L) (hok:LocOk L) (s:List UInt8) (hs:s.length≤1048576) (H:Hp):Zaa Zh3 [.str s,.vp l] H=some (.str (upS L s),H):=by
 obtain ⟨l',h1,x,c,e,rfl,hx,hc,he⟩:=h.close [] 0 2
 have hcl:Za6 [] 0 6 (.vp l)=some (.vp (L.cells x c e)):=by rw [ZdT,h1]
 refine Zgm (a':=.str s) rfl hcl (H1:=[]) ?_ rfl
 rw [Zqu]
 unfold Zlx
 have hu:=ZF5 (L:=L) ⟨x,c,e,rfl,hx,hc,he⟩ hok s hs []
 simp only [go_sem,ZbQ 6 (L.cells x c e) rfl,hu.1]

def Ze3 (L:Loc) (n:Nat) (s:List UInt8):List UInt8 :=
 let s1:=if n.testBit 3 then Zbr s else s
 let s2:=if n.testBit 4 then ZhZ s1 else s1
 if n.testBit 2 then upS L s2 else s2
theorem Zzq (L:Loc) (n:Nat) (s:List UInt8):(Ze3 L n s).length≤s.length:=by
 have h1:=ZqT s
 have h2:=Zk4 s
 have h3:=Zk4 (Zbr s)
 simp only [Ze3]
 split <;> split <;> split <;> (try rw [ZMt]) <;> omega
theorem Zw7:∀ a b:List Int,ordS a b=-1 ∨ ordS a b=0 ∨ ordS a b=1:=by
 intro a
 induction a with
 | nil=>intro b;cases b <;> simp [ordS]
 | cons x a ih =>
  intro b
  cases b with
  | nil=>simp [ordS]
  | cons y b =>
   rw [ZeI]
   split
   ·simp
   ·split
    ·simp
    ·exact ih b
theorem ZIm (a b:List UInt8):cmpB a b=-1 ∨ cmpB a b=0 ∨ cmpB a b=1:=by rw [← ZAz];exact Zw7 _ _
theorem ZAA (L:Loc) (a b:List UInt8):cmpS L a b=-1 ∨ cmpS L a b=0 ∨ cmpS L a b=1:=by
 unfold cmpS
 split
 ·exact Zw7 _ _
 ·exact ZIm _ _
theorem ZBx (a b:Int):sgnS a b=-1 ∨ sgnS a b=0 ∨ sgnS a b=1:=by
 unfold sgnS
 split
 ·simp
 ·split <;> simp
def ZkW (L:Loc) (n:Nat) (x y:List UInt8):Int:=if n.testBit 0 then sgnS (preS x) (preS y) else cmpS L (Ze3 L n x) (Ze3 L n y)
def Ze2 (L:Loc) (n:Nat) (x y:List UInt8):Int:=if n.testBit 1 then -ZkW L n x y else ZkW L n x y
theorem ZBK {c t:Int} (hc:c=-1 ∨ c=0 ∨ c=1) (ht:t=1 ∨ t=-1):IntKind.i64.wrap (t * c)=if t=-1 then -c else c:=by
 rcases ht with rfl | rfl <;> rcases hc with rfl | rfl | rfl <;> decide
end Go.Am
namespace Go.Am
set_option linter.unusedSimpArgs false
set_option linter.unusedVariables false
set_option maxRecDepth 100000

section
variable {n:Nat} (hn:n < 32)
include hn
theorem and1:ibin .and (.int .i64 n) (.int .i64 1)=some (.int .i64 (if n.testBit 0 then 1 else 0)):=Ztw (j:=0) hn (by decide)
theorem and2:ibin .and (.int .i64 n) (.int .i64 2)=some (.int .i64 (if n.testBit 1 then 2 else 0)):=Ztw (j:=1) hn (by decide)
theorem and4:ibin .and (.int .i64 n) (.int .i64 4)=some (.int .i64 (if n.testBit 2 then 4 else 0)):=Ztw (j:=2) hn (by decide)
theorem and8:ibin .and (.int .i64 n) (.int .i64 8)=some (.int .i64 (if n.testBit 3 then 8 else 0)):=Ztw (j:=3) hn (by decide)
theorem ZMA:ibin .and (.int .i64 n) (.int .i64 16)=some (.int .i64 (if n.testBit 4 then 16 else 0)):=Ztw (j:=4) hn (by decide)
end
theorem Zxm {f:List AV→Hp→Res} {a a' b b' c c' d d' v:AV} {H H1:Hp} (ha:Za6 [] 0 6 a=some a') (hb:Za6 [] 0 6 b=some b') (hd:Za6 [] 0 6 c=some c') (he:Za6 [] 0 6 d=some d') (hc:f [a',b',c',d'] []=some (v,H1)) (hv:Zgn 3 v=true):Zaa f [a,b,c,d] H=some (v,H) :=
 Zn9 (args':=[a',b',c',d']) (by simp [ha,hb,hd,he]) hc hv
theorem ZB7 (L:Loc) (x c e:AV) (r:List AObj):Za2 true 6 (.ptr 0 0) (AObj.cells (L.cells x c e) :: r)=some (.agg (L.cells x c e)):=by simp [Za2,Go.Am.apart,Loc.cells]

theorem ZL5 {c:Int} (hc:c=-1 ∨ c=0 ∨ c=1):IntKind.i64.wrap (0 - c)=-c:=by rcases hc with rfl | rfl | rfl <;> decide
def stf (z:AObj) (n:Nat) (x y:List UInt8):Hp:=[z,.cells [.int .i64 n],.cells [.str x],.cells [.str y]]
theorem Zpd {z : AObj} {n : Nat} {x y : List UInt8} {fnv : AV} {g : List UInt8 → List UInt8} {m : Int} {bit : Bool} (hand : ibin .and (.int .i64 n) (.int .i64 m) = some (.int .i64 (if bit then m else 0))) (hm : (m != 0) = true)
    (hf:∀ s:List UInt8,(s=x ∨ s=y)→∀ H,ZbF cfg (Za7 cfg) fnv [.str s] H=some (.str (g s),H)) :
    Zh1 [.int .i64 m,fnv,.ptr 1 0,.ptr 2 0,.ptr 3 0] (stf z n x y)=some (.tuple [],stf z n (if bit then g x else x) (if bit then g y else y)):=by
 have l1:Za2 false 1 (.ptr 1 0) (stf z n x y)=some (.int .i64 n):=ZaF (l:=[.int .i64 n]) rfl
 have l2:Za2 false 1 (.ptr 2 0) (stf z n x y)=some (.str x):=ZaF (l:=[.str x]) rfl
 have l3:Za2 false 1 (.ptr 3 0) (stf z n x y)=some (.str y):=ZaF (l:=[.str y]) rfl
 have s1:Zab 1 (.ptr 2 0) (.str (g x)) (stf z n x y)=some (.tuple [],stf z n (g x) y):=by simp [Zab,ZbG,stf,AV.known,AV.cells,splice]
 have s2:Zab 1 (.ptr 3 0) (.str (g y)) (stf z n (g x) y)=some (.tuple [],stf z n (g x) (g y)):=by simp [Zab,ZbG,stf,AV.known,AV.cells,splice]
 rw [Zqs]
 unfold Zlv
 cases bit with
 | true=>simp only [go_sem,l1,hand,if_true,hm,l2,hf x (.inl rfl),l3,hf y (.inr rfl),s1,s2]
 | false=>simp only [go_sem,l1,hand,Bool.false_eq_true,if_false,bne_self_eq_false]
theorem ZxP {a:AV} {L:Loc} (h:ZaU a L) (hok:LocOk L) {n:Nat} (hn:n < 32) (s t:List UInt8) (hs:s.length≤1048576) (ht:t.length≤1048576) (H:Hp):Zaa ZdO [a,.int .i64 n,.str s,.str t] H=some (.int .i64 (Ze2 L n s t),H):=by
 obtain ⟨a1,h1,h2⟩:=h.close [] 0 2
 have h2':=h2
 obtain ⟨x,c,e,rfl,hx,hc,he⟩:=h2
 have hcl:ZfZ (L.cells x c e) L:=⟨x,c,e,rfl,hx,hc,he⟩
 suffices hs:∃ H1,ZdO [.agg (L.cells x c e),.int .i64 n,.str s,.str t] []=some (.int .i64 (Ze2 L n s t),H1) by
  obtain ⟨H1,hr⟩:=hs
  exact Zxm h1 (b':=.int .i64 n) (c':=.str s) (d':=.str t) rfl rfl rfl hr rfl
 have l1:∀ z x y,Za2 false 1 (.ptr 1 0) (stf z n x y)=some (.int .i64 n):=fun z x y=>ZaF (l:=[.int .i64 n]) rfl
 have l2:∀ z x y,Za2 false 1 (.ptr 2 0) (stf z n x y)=some (.str x):=fun z x y=>ZaF (l:=[.str x]) rfl
 have l3:∀ z x y,Za2 false 1 (.ptr 3 0) (stf z n x y)=some (.str y):=fun z x y=>ZaF (l:=[.str y]) rfl
 have hJ2:∀ (z:Int) (hz:z=1 ∨ z=-1),∃ H1,Zid (.ptr 0 0) (.ptr 1 0) (.ptr 2 0) (.ptr 3 0) (.int .i64 z) [] (stf (.cells (L.cells x c e)) n s t)=some (.int .i64 (if z=-1 then -cmpS L (Ze3 L n s) (Ze3 L n t) else cmpS L (Ze3 L n s) (Ze3 L n t)),H1):=fun z hz=>by
  have e1:=Zpd (z:=.cells (L.cells x c e)) (n:=n) (x:=s) (y:=t) (fnv:=.fn (.func 155) [] []) (g:=Zbr) (m:=8) (and8 hn) rfl (fun r _ H=>by rw [ZuO];exact ZHG r H)
  have d1:=ZqT s
  have d2:=ZqT t
  have e2:=Zpd (z:=.cells (L.cells x c e)) (n:=n) (x:=if n.testBit 3 then Zbr s else s) (y:=if n.testBit 3 then Zbr t else t) (fnv:=.fn (.func 157) [] []) (g:=ZhZ) (m:=16) (ZMA hn) rfl (fun r hr H=>by
   rw [Zyp]
   refine ZFY r ?_ H
   rcases hr with rfl | rfl <;> split <;> omega)
  have e3:=Zpd (z:=.dead) (n:=n) (x:=if n.testBit 4 then ZhZ (if n.testBit 3 then Zbr s else s) else (if n.testBit 3 then Zbr s else s)) (y:=if n.testBit 4 then ZhZ (if n.testBit 3 then Zbr t else t) else (if n.testBit 3 then Zbr t else t)) (fnv:=.fn (.func 158) [] [.vp (L.cells x c e)]) (g:=upS L) (m:=4) (and4 hn) rfl (fun r hr H=>by
   rw [ZuP]
   refine ZGj hcl hok r ?_ H
   have:=Zk4 s
   have:=Zk4 t
   have:=Zk4 (Zbr s)
   have:=Zk4 (Zbr t)
   rcases hr with rfl | rfl <;> split <;> split <;> omega)
  have hl1:=Zzq L n s
  have hl2:=Zzq L n t
  have hfz:∀ (x' y':List UInt8) (k:AV→Hp→Res),frzK (.ptr 0 0) (stf (.cells (L.cells x c e)) n x' y') k=k (.vp (L.cells x c e)) (stf .dead n x' y'):=fun x' y' k=>rfl
  refine ⟨stf .dead n (Ze3 L n s) (Ze3 L n t),?_⟩
  rw [ZsH]
  simp only [go_sem,ZuR,List.nil_append,List.cons_append,e1,e2,hfz,e3,ZbQ 6 (L.cells x c e) rfl,l2,l3]
  have hsh:∀ r,(if n.testBit 2=true then upS L (if n.testBit 4=true then ZhZ (if n.testBit 3=true then Zbr r else r) else if n.testBit 3=true then Zbr r else r) else if n.testBit 4=true then ZhZ (if n.testBit 3=true then Zbr r else r) else if n.testBit 3=true then Zbr r else r)=Ze3 L n r:=fun r=>rfl
  simp only [hsh,Zze h2' hok (Ze3 L n s) (Ze3 L n t) (by omega) (by omega),go_sem,ZBK (ZAA _ _ _) hz]
 have hJ1:∀ (z:Int) (hz:z=1 ∨ z=-1),∃ H1,Zfd (.ptr 0 0) (.ptr 1 0) (.ptr 2 0) (.ptr 3 0) (.int .i64 z) [] (stf (.cells (L.cells x c e)) n s t)=some (.int .i64 (if z=-1 then -ZkW L n s t else ZkW L n s t),H1):=fun z hz=>by
  rw [ZsG]
  unfold ZkW
  cases hb:n.testBit 0 with
  | true =>
   obtain ⟨e1,p1⟩:=ZBg s hs (stf (.cells (L.cells x c e)) n s t)
   obtain ⟨e2,p2⟩:=ZBg t ht (stf (.cells (L.cells x c e)) n s t)
   refine ⟨stf (.cells (L.cells x c e)) n s t,?_⟩
   simp only [go_sem,l1,and1 hn,hb,if_true,show ((1:Int) != 0)=true from rfl,l2,l3,p1,p2,ZMw,ZMx,ZHs,ZBK (ZBx _ _) hz]
  | false =>
   obtain ⟨H1,q⟩:=hJ2 z hz
   refine ⟨H1,?_⟩
   simp only [go_sem,l1,and1 hn,hb,Bool.false_eq_true,if_false,bne_self_eq_false]
   exact q
 have b1:∀ (k:Int) (H:Hp),abox (.int .i64 k) H=some (.ptr H.length 0,H++[.cells [.int .i64 k]]):=fun k H=>Zk2 rfl
 have b2:∀ (k:List UInt8) (H:Hp),abox (.str k) H=some (.ptr H.length 0,H++[.cells [.str k]]):=fun k H=>Zk2 rfl
 rw [Zt6]
 unfold Zod
 have hst:[AObj.cells (L.cells x c e),.cells [.int .i64 n],.cells [.str s],.cells [.str t]]=stf (.cells (L.cells x c e)) n s t:=rfl
 unfold Ze2
 cases hb:n.testBit 1 with
 | true =>
  obtain ⟨H1,q⟩:=hJ1 (-1) (.inr rfl)
  refine ⟨H1,?_⟩
  simp only [go_sem,b1,b2,List.length_nil,List.length_cons,List.nil_append,List.cons_append,Nat.zero_add,Nat.reduceAdd,hst,l1,and2 hn,hb,if_true,show ((2:Int) != 0)=true from rfl]
  simpa using q
 | false =>
  obtain ⟨H1,q⟩:=hJ1 1 (.inl rfl)
  refine ⟨H1,?_⟩
  simp only [go_sem,b1,b2,List.length_nil,List.length_cons,List.nil_append,List.cons_append,Nat.zero_add,Nat.reduceAdd,hst,l1,and2 hn,hb,Bool.false_eq_true,if_false,bne_self_eq_false]
  simpa using q
end Go.Am
namespace Go.Am
set_option linter.unusedSimpArgs false
set_option linter.unusedVariables false
set_option maxRecDepth 100000

def ZeB:Spec:=⟨[],-1,0,false,false⟩
def Zai (p:Spec):Spec:=if (Zax p != 0)=true then ZeB else p
theorem Sl.known {k:Nat} {x:AV} {l:List AV} (h:Sl k x l):x.known=true:=by
 rcases h with ⟨rfl,_⟩ | ⟨tok,rfl⟩ <;> rfl

theorem Zyd {a:AV} {p:Spec} (h:Zb5 a p) (H:Hp):∃ a',Zaa ZcI [a] H=some (a',H)∧Zb5 a' (Zai p):=by
 obtain ⟨a1,h1,h2⟩:=h.close [] 0 2
 have hck:=fun H=>ZqJ h2 H
 obtain ⟨x,rfl,hx⟩:=h2
 have hl:Za2 true 5 (.ptr 0 0) [AObj.cells (p.cells x),.cells [.nils,.int .i64 0,.int .i64 0,.bool false,.bool false]]=some (.agg (p.cells x)):=by simp [Za2,Go.Am.apart,Spec.cells]
 unfold Zai
 cases hb:(Zax p != 0) with
 | true =>
  have hfill:(Zbq [(1,1,(.int .i64 (-1)))] [.nils,(.int .i64 0),(.int .i64 0),(.bool false),(.bool false)]).map AV.agg=some (.agg (ZeB.cells .nils)):=rfl
  have hst:Zab 5 (.ptr 1 0) (.agg (ZeB.cells .nils)) [AObj.cells (p.cells x),.cells [.nils,.int .i64 0,.int .i64 0,.bool false,.bool false]]=some (.tuple [],[AObj.cells (p.cells x),.cells (ZeB.cells .nils)]):=by simp [Zab,ZbG,AV.known,AV.cells,Spec.cells,splice]
  have hl2:Za2 true 5 (.ptr 1 0) [AObj.cells (p.cells x),.cells (ZeB.cells .nils)]=some (.agg (ZeB.cells .nils)):=by simp [Za2,Go.Am.apart,Spec.cells]
  have hrun:ZcI [.agg (p.cells x)] []=some (.agg (ZeB.cells .nils),[AObj.cells (p.cells x),.cells (ZeB.cells .nils)]):=by
   rw [ZkA]
   unfold ZiF
   simp only [go_sem,List.nil_append,List.length_nil,List.length_cons,List.cons_append,Nat.zero_add,hl,hck,hb,hfill,hst,hl2]
  obtain ⟨a',q1,q2⟩:=Zb5.close (a:=.agg (ZeB.cells .nils)) (p:=ZeB) ⟨.nils,rfl,.inl ⟨rfl,rfl⟩⟩ [AObj.cells (p.cells x),.cells (ZeB.cells .nils)] 0 2
  exact ⟨a',Zk7 h1 hrun q1,by simpa using q2⟩
 | false =>
  have hst:Zab 5 (.ptr 1 0) (.agg (p.cells x)) [AObj.cells (p.cells x),.cells [.nils,.int .i64 0,.int .i64 0,.bool false,.bool false]]=some (.tuple [],[AObj.cells (p.cells x),.cells (p.cells x)]):=by simp [Zab,ZbG,AV.known,AV.cells,Spec.cells,splice]
  have hl2:Za2 true 5 (.ptr 1 0) [AObj.cells (p.cells x),.cells (p.cells x)]=some (.agg (p.cells x)):=by simp [Za2,Go.Am.apart,Spec.cells]
  have hrun:ZcI [.agg (p.cells x)] []=some (.agg (p.cells x),[AObj.cells (p.cells x),.cells (p.cells x)]):=by
   rw [ZkA]
   unfold ZiF
   simp only [go_sem,List.nil_append,List.length_nil,List.length_cons,List.cons_append,Nat.zero_add,hl,hck,hb,ZsI,hst,hl2]
  obtain ⟨a',q1,q2⟩:=Zb5.close (a:=.agg (p.cells x)) (p:=p) ⟨x,rfl,hx⟩ [AObj.cells (p.cells x),.cells (p.cells x)] 0 2
  exact ⟨a',Zk7 h1 hrun q1,by simpa using q2⟩

theorem Zzx (p:Spec):(0≤(Zai p).flags∧(Zai p).flags≤31)∧(Zai p).keys.length≤8∧∀ k ∈ (Zai p).keys,0≤k.fl∧k.fl≤31:=by
 unfold Zai
 cases hb:(Zax p != 0) with
 | true=>simp [ZeB]
 | false =>
  rw [bne_eq_false_iff_eq] at hb
  unfold Zax at hb
  split at hb
  ·cases hb
  ·split at hb
   ·cases hb
   ·split at hb
    ·cases hb
    ·rename_i h1 h2 h3
     simp only [Bool.or_eq_true,decide_eq_true_eq,not_or] at h2
     simp only [Bool.false_eq_true,if_false]
     refine ⟨by omega,by omega,fun k hk=>?_⟩
     have h4:¬ Znc k=true:=fun h=>h3 (List.any_eq_true.2 ⟨k,hk,h⟩)
     simp only [Znc,Bool.or_eq_true,decide_eq_true_eq,not_or] at h4
     omega
theorem Zvq (p:Spec) (h:∀ k ∈ p.keys,KeOk k):∀ k ∈ (Zai p).keys,KeOk k:=by
 unfold Zai
 split
 ·intro k hk;cases hk
 ·exact h
theorem ZG3 (line:List UInt8) (fs:List (Nat × Nat)) (k:Ke):(ex line fs k).length≤line.length:=by
 unfold ex
 split
 ·dsimp only
  split
  ·simp
  ·rw [List.length_drop,List.length_take];omega
 ·simp
def flg (p:Spec) (k:Ke):Nat:=if (k.fl == 0)=true then p.flags.toNat else k.fl.toNat
def cmpK (L:Loc) (p:Spec) (a b:List UInt8):List Ke→Int
 | []=>0
 | k :: l=>if (Ze2 L (flg p k) (ex a (fields a p.sep) k) (ex b (fields b p.sep) k) != 0)=true then Ze2 L (flg p k) (ex a (fields a p.sep) k) (ex b (fields b p.sep) k) else cmpK L p a b l
theorem ZyY (L:Loc) (p:Spec) (a b:List UInt8) (k:Ke) (l:List Ke):cmpK L p a b (k :: l)=if (Ze2 L (flg p k) (ex a (fields a p.sep) k) (ex b (fields b p.sep) k) != 0)=true then Ze2 L (flg p k) (ex a (fields a p.sep) k) (ex b (fields b p.sep) k) else cmpK L p a b l:=(Eq.refl _).trans (Eq.refl _)
def ZxE (L:Loc) (p:Spec) (a b:List UInt8):Int:=if (p.keys.length == 0)=true then Ze2 L p.flags.toNat a b else cmpK L p a b p.keys
def Zc7 (L:Loc) (p:Spec) (a b:List UInt8):Int:=ZxE L (Zai p) a b
end Go.Am
namespace Go.Am
set_option linter.unusedSimpArgs false
set_option linter.unusedVariables false
set_option maxRecDepth 100000

def CSt (lc sc:List AV) (x4 x5:AV) (H:Hp):Prop:=(x4=.vp lc∧x5=.vp sc) ∨ (x4=.ptr 0 0∧x5=.ptr 1 0∧H=[.cells lc,.cells sc])
theorem CSt.frz {lc sc : List AV} {x4 x5 : AV} {H : Hp} (h : CSt lc sc x4 x5 H) (kc : List AV) : ∃ H2, ∀ K : AV → AV → AV → Hp → Res,
    (frzK x4 (H++[.cells kc]) fun z4 h4=>frzK x5 h4 fun z5 h5=>frzK (.ptr H.length 0) h5 fun z10 h10=>K z4 z5 z10 h10)=K (.vp lc) (.vp sc) (.vp kc) H2:=by
 rcases h with ⟨rfl,rfl⟩ | ⟨rfl,rfl,rfl⟩
 ·refine ⟨H++[.dead],fun K=>?_⟩
  have hv:∀ (l:List AV) (H:Hp) (k:AV→Hp→Res),frzK (.vp l) H k=k (.vp l) H:=fun l H k=>rfl
  rw [hv,hv,ZIO]
 ·exact ⟨[.dead,.dead,.dead],fun K=>rfl⟩
theorem CSt.fld {lc : List AV} {x : AV} {p : Spec} {x4 x5 : AV} {H : Hp} (h : CSt lc (p.cells x) x4 x5 H) :
    (∃ y,Za5 0 x5=some y∧∀ r,Za2 false 1 y (H++r)=some x)∧(∃ y,Za5 2 x5=some y∧∀ r,Za2 false 1 y (H++r)=some (.int .i64 p.flags)):=by
 rcases h with ⟨rfl,rfl⟩ | ⟨rfl,rfl,rfl⟩
 ·exact ⟨⟨.vp (p.cells x),rfl,fun r=>by simp only [Spec.cells,Zav]⟩,⟨.vp [.int .i64 p.flags,.bool p.uniq,.bool p.stab],rfl,fun r=>by simp only [Zav]⟩⟩
 ·exact ⟨⟨.ptr 1 0,rfl,fun r=>ZaF (l:=p.cells x) rfl⟩,⟨.ptr 1 2,rfl,fun r=>ZaF (l:=p.cells x) rfl⟩⟩
theorem vpf (x:AV) (p:Spec):Za5 1 (.vp (p.cells x))=some (.vp [.int .i64 p.sep,.int .i64 p.flags,.bool p.uniq,.bool p.stab]):=rfl
theorem ZDD (L:Loc) (x c e:AV):Zbj true 6 (.vp (L.cells x c e))=some (.agg (L.cells x c e)):=rfl
theorem ZFt (k:Ke):Zbj true 5 (.vp k.cells)=some (.agg k.cells):=rfl
section
variable {L:Loc} {x c e:AV} (hav:ZaU (.agg (L.cells x c e)) L) (hok:LocOk L) {p:Spec} {xk:AV} (hk:Sl 5 xk (p.keys.map Ke.av)) (hlen:p.keys.length≤8)
 (hks:∀ k ∈ p.keys,KeOk k) (hkf:∀ k ∈ p.keys,0≤k.fl∧k.fl≤31) (hfl:0≤p.flags∧p.flags≤31) (a b:List UInt8) (ha:a.length≤1048576) (hb:b.length≤1048576)
include hav hok hk hlen hks hkf hfl ha hb
theorem ZIn : ∀ (m i : Nat) (x4 x5 : AV) (H : Hp), p.keys.length - i = m → i ≤ p.keys.length → CSt (L.cells x c e) (p.cells xk) x4 x5 H →
    ∃ H',Ze6 (.str a) (.str b) x4 x5 xk (.int .i64 (p.keys.length:Int)) (.int .i64 (i:Int)) [] H=some (.int .i64 (cmpK L p a b (p.keys.drop i)),H'):=by
 intro m
 induction m with
 | zero =>
  intro i x4 x5 H hm hi hst
  have hlt:decide ((i:Int) < (p.keys.length:Int))=false:=by simp;omega
  have hd:p.keys.drop i=[]:=List.drop_eq_nil_iff.2 (by omega)
  refine ⟨H,?_⟩
  rw [Zio]
  simp only [go_sem,hlt,Zqd,hd,cmpK]
 | succ m ih =>
  intro i x4 x5 H hm hi hst
  have hi1:i < p.keys.length:=by omega
  have hlt:decide ((i:Int) < (p.keys.length:Int))=true:=by simp;omega
  have hw:IntKind.i64.wrap ((i:Int)+1)=((i+1:Nat):Int):=by rw [Zaj (by omega) (by omega)];omega
  have hmem:p.keys[i] ∈ p.keys:=List.getElem_mem hi1
  have hko:=hks _ hmem
  have hkf':=hkf _ hmem
  rw [List.drop_eq_getElem_cons hi1,ZyY]
  have hget:p.keys[i]?=some p.keys[i]:=List.getElem?_eq_getElem hi1
  generalize p.keys[i]=k at hko hkf' hget
  obtain ⟨_,y,hy1,hy2⟩:=hst.fld
  obtain ⟨H2,hfz⟩:=hst.frz k.cells
  obtain ⟨H3,e1,_⟩:=ZtG ha hko p.sep H2
  obtain ⟨H4,e2,_⟩:=ZtG hb hko p.sep H3
  have l1:=ZG3 a (fields a p.sep) k
  have l2:=ZG3 b (fields b p.sep) k
  have hn:flg p k < 32:=by unfold flg;split <;> omega
  have hp:=ZxP hav hok hn (ex a (fields a p.sep) k) (ex b (fields b p.sep) k) (by omega) (by omega) H4
  have hJ5:∃ H',Ze5 (.str a) (.str b) x4 x5 (.ptr H.length 0) (.int .i64 (flg p k:Int)) xk (.int .i64 (p.keys.length:Int)) (.int .i64 (i:Int)) [] (H++[.cells k.cells])=some (.int .i64 (if (Ze2 L (flg p k) (ex a (fields a p.sep) k) (ex b (fields b p.sep) k) != 0)=true then Ze2 L (flg p k) (ex a (fields a p.sep) k) (ex b (fields b p.sep) k) else cmpK L p a b (p.keys.drop (i+1))),H'):=by
   rw [Zqg,hfz]
   simp only [ZDD,Ztv,vpf,Zav,ZDE,ZFt,go_sem,e1,e2,hp]
   cases hc:(Ze2 L (flg p k) (ex a (fields a p.sep) k) (ex b (fields b p.sep) k) != 0) with
   | true=>exact ⟨H4,by simp only [go_sem,if_true]⟩
   | false =>
    obtain ⟨H5,q⟩:=ih (i+1) (.vp (L.cells x c e)) (.vp (p.cells xk)) H4 (by omega) (by omega) (.inl ⟨rfl,rfl⟩)
    exact ⟨H5,by simp only [go_sem,Bool.false_eq_true,if_false,Zqf,hw,q]⟩
  obtain ⟨H',hJ5⟩:=hJ5
  refine ⟨H',?_⟩
  have hst5:=Zty H k [.int .i64 0,.int .i64 0,.int .i64 0,.int .i64 0,.int .i64 0] rfl
  have hlf:Za2 false 1 (.ptr H.length (0+4)) (H++[.cells k.cells])=some (.int .i64 k.fl):=Zao H k.cells 4
  rw [Zio]
  simp only [go_sem,hlt,Zqe,hk.key hget,Ztv,hst5,hlf]
  cases h0:(k.fl == 0) with
  | true =>
   have hf:(p.flags:Int)=((flg p k:Nat):Int):=by unfold flg;rw [h0,if_pos rfl];omega
   simp only [go_sem,hy1,hy2,hf]
   exact hJ5
  | false =>
   have hf:(k.fl:Int)=((flg p k:Nat):Int):=by unfold flg;rw [h0,if_neg (by decide)];omega
   simp only [go_sem]
   rw [hf]
   exact hJ5
end
end Go.Am
namespace Go.Am
set_option linter.unusedSimpArgs false
set_option linter.unusedVariables false
set_option maxRecDepth 100000

theorem ZtW {a : AV} {L : Loc} (h : ZaU a L) (hok : LocOk L) {q : AV} {p : Spec} (hq : Zb5 q p) (hks : ∀ k ∈ p.keys, KeOk k) (s t : List UInt8) (hs : s.length ≤ 1048576) (ht : t.length ≤ 1048576) (H : Hp) :
    Zaa Zce [a,q,.str s,.str t] H=some (.int .i64 (Zc7 L p s t),H):=by
 obtain ⟨a1,h1,h2⟩:=h.close [] 0 2
 obtain ⟨q1,g1,g2⟩:=hq.close [] 0 2
 have hav:=h2
 have hv:=fun H=>Zyd g2 H
 obtain ⟨x,c,e,rfl,hx,hc,he⟩:=h2
 obtain ⟨xp,rfl,hxp⟩:=g2
 obtain ⟨v',hv1,xv,rfl,hxv⟩:=hv [AObj.cells (L.cells x c e),.cells (p.cells xp)]
 obtain ⟨hfl,hlen,hkf⟩:=Zzx p
 have hks':=Zvq p hks
 suffices hs:∃ H1,Zce [.agg (L.cells x c e),.agg (p.cells xp),.str s,.str t] []=some (.int .i64 (Zc7 L p s t),H1) by
  obtain ⟨H1,hr⟩:=hs
  exact Zxm h1 g1 (c':=.str s) (d':=.str t) rfl rfl hr rfl
 have hl:Za2 true 5 (.ptr 1 0) [AObj.cells (L.cells x c e),.cells (p.cells xp)]=some (.agg (p.cells xp)):=by simp [Za2,Go.Am.apart,Spec.cells]
 have hst:Zab 5 (.ptr 1 0) (.agg ((Zai p).cells xv)) [AObj.cells (L.cells x c e),.cells (p.cells xp)]=some (.tuple [],[AObj.cells (L.cells x c e),.cells ((Zai p).cells xv)]):=by simp [Zab,ZbG,AV.known,AV.cells,Spec.cells,splice]
 have hf0:Za2 false 1 (.ptr 1 (0+0)) [AObj.cells (L.cells x c e),.cells ((Zai p).cells xv)]=some xv:=ZaF (l:=(Zai p).cells xv) rfl
 have hf2:Za2 false 1 (.ptr 1 (0+2)) [AObj.cells (L.cells x c e),.cells ((Zai p).cells xv)]=some (.int .i64 (Zai p).flags):=ZaF (l:=(Zai p).cells xv) rfl
 have hlk:=hxv.len 149
 rw [List.length_map] at hlk
 have hloc:=ZB7 L x c e [.cells ((Zai p).cells xv)]
 have hn:(Zai p).flags.toNat < 32:=by omega
 have hfi:((Zai p).flags:Int)=(((Zai p).flags.toNat:Nat):Int):=by omega
 have hp:=ZxP hav hok hn s t hs ht [AObj.cells (L.cells x c e),.cells ((Zai p).cells xv)]
 rw [← hfi] at hp
 have hlen0:(((Zai p).keys.length:Int) == 0)=((Zai p).keys.length == 0):=by
  rw [Bool.eq_iff_iff,beq_iff_eq,beq_iff_eq];omega
 rw [Zqq]
 unfold Zlt Zc7 ZxE
 cases h0:((Zai p).keys.length == 0) with
 | true =>
  exact ⟨[AObj.cells (L.cells x c e),.cells ((Zai p).cells xv)],by simp only [go_sem,Zcs,List.nil_append,List.length_nil,List.length_cons,List.cons_append,hl,hv1,hst,hf0,hlk,hlen0,h0,hloc,hf2,hp,if_true,Nat.zero_add,Nat.reduceAdd]⟩
 | false =>
  obtain ⟨H',r⟩:=ZIn hav hok hxv hlen hks' hkf hfl s t hs ht _ 0 (.ptr 0 0) (.ptr 1 0) _ rfl (Nat.zero_le _) (.inr ⟨rfl,rfl,rfl⟩)
  rw [List.drop_zero,show ((0:Nat):Int)=0 from rfl] at r
  refine ⟨H',?_⟩
  simp only [go_sem,Zcs,List.nil_append,List.length_nil,List.length_cons,List.cons_append,hl,hv1,hst,hf0,hlk,hlen0,h0,Zqc,r,Bool.false_eq_true,if_false,Nat.zero_add,Nat.reduceAdd]

def ZaC (L:Loc) (p:Spec) (s t:List UInt8):Int :=
 if (Zc7 L (Zai p) s t != 0 || (Zai p).stab || (Zai p).uniq)=true then Zc7 L (Zai p) s t else if (Zai p).flags.toNat.testBit 1 then -cmpS L s t else cmpS L s t

theorem ZBd {a : AV} {L : Loc} (h : ZaU a L) (hok : LocOk L) {q : AV} {p : Spec} (hq : Zb5 q p) (hks : ∀ k ∈ p.keys, KeOk k) (s t : List UInt8) (hs : s.length ≤ 1048576) (ht : t.length ≤ 1048576) (H : Hp) :
    Zaa ZdN [a,q,.str s,.str t] H=some (.int .i64 (ZaC L p s t),H):=by
 obtain ⟨a1,h1,h2⟩:=h.close [] 0 2
 obtain ⟨q1,g1,g2⟩:=hq.close [] 0 2
 have hav:=h2
 have hv:=fun H=>Zyd g2 H
 obtain ⟨x,c,e,rfl,hx,hc,he⟩:=h2
 obtain ⟨xp,rfl,hxp⟩:=g2
 obtain ⟨v',hv1,xv,rfl,hxv⟩:=hv [AObj.cells (L.cells x c e),.cells (p.cells xp)]
 obtain ⟨hfl,hlen,hkf⟩:=Zzx p
 have hks':=Zvq p hks
 suffices hs:∃ H1,ZdN [.agg (L.cells x c e),.agg (p.cells xp),.str s,.str t] []=some (.int .i64 (ZaC L p s t),H1) by
  obtain ⟨H1,hr⟩:=hs
  exact Zxm h1 g1 (c':=.str s) (d':=.str t) rfl rfl hr rfl
 have hl:Za2 true 5 (.ptr 1 0) [AObj.cells (L.cells x c e),.cells (p.cells xp)]=some (.agg (p.cells xp)):=by simp [Za2,Go.Am.apart,Spec.cells]
 have hst:Zab 5 (.ptr 1 0) (.agg ((Zai p).cells xv)) [AObj.cells (L.cells x c e),.cells (p.cells xp)]=some (.tuple [],[AObj.cells (L.cells x c e),.cells ((Zai p).cells xv)]):=by simp [Zab,ZbG,AV.known,AV.cells,Spec.cells,splice]
 have hl2:Za2 true 5 (.ptr 1 0) [AObj.cells (L.cells x c e),.cells ((Zai p).cells xv)]=some (.agg ((Zai p).cells xv)):=by simp [Za2,Go.Am.apart,Spec.cells]
 have hf2:Za2 false 1 (.ptr 1 (0+2)) [AObj.cells (L.cells x c e),.cells ((Zai p).cells xv)]=some (.int .i64 (Zai p).flags):=ZaF (l:=(Zai p).cells xv) rfl
 have hf3:Za2 false 1 (.ptr 1 (0+3)) [AObj.cells (L.cells x c e),.cells ((Zai p).cells xv)]=some (.bool (Zai p).uniq):=ZaF (l:=(Zai p).cells xv) rfl
 have hf4:Za2 false 1 (.ptr 1 (0+4)) [AObj.cells (L.cells x c e),.cells ((Zai p).cells xv)]=some (.bool (Zai p).stab):=ZaF (l:=(Zai p).cells xv) rfl
 have hloc:=ZB7 L x c e [.cells ((Zai p).cells xv)]
 have hn:(Zai p).flags.toNat < 32:=by omega
 have hfi:((Zai p).flags:Int)=(((Zai p).flags.toNat:Nat):Int):=by omega
 have hline:=ZtW hav hok (q:=.agg ((Zai p).cells xv)) ⟨xv,rfl,hxv⟩ hks' s t hs ht [AObj.cells (L.cells x c e),.cells ((Zai p).cells xv)]
 have hcmp:=Zze hav hok s t hs ht [AObj.cells (L.cells x c e),.cells ((Zai p).cells xv)]
 have hneg:=ZL5 (ZAA L s t)
 have hbit:=and2 hn
 have hJ1:Zi7 (.str s) (.str t) (.ptr 0 0) (.ptr 1 0) [] [AObj.cells (L.cells x c e),.cells ((Zai p).cells xv)]=some (.int .i64 (if (Zai p).flags.toNat.testBit 1 then -cmpS L s t else cmpS L s t),[AObj.cells (L.cells x c e),.cells ((Zai p).cells xv)]):=by
  rw [Zst]
  rw [hfi] at hf2
  cases hb:(Zai p).flags.toNat.testBit 1 with
  | true =>
   rw [hb] at hbit
   simp only [go_sem,hloc,hcmp,hf2,hbit,ZCU,hneg,if_true,show ((2:Int) != 0)=true from rfl]
  | false =>
   rw [hb] at hbit
   simp only [go_sem,hloc,hcmp,hf2,hbit,Zsu,Bool.false_eq_true,if_false,bne_self_eq_false]
 refine ⟨[AObj.cells (L.cells x c e),.cells ((Zai p).cells xv)],?_⟩
 rw [Zt3]
 unfold Zoa ZaC
 simp only [go_sem,Zcs,List.nil_append,List.length_nil,List.length_cons,List.cons_append,hl,hv1,hst,hloc,hl2,hline,Nat.zero_add,Nat.reduceAdd]
 cases h0:(Zc7 L (Zai p) s t != 0) with
 | true=>simp only [go_sem,Bool.true_or,if_true]
 | false =>
  simp only [go_sem,hf4,hf3]
  cases h4:(Zai p).stab with
  | true=>simp only [go_sem,Bool.true_or,Bool.or_true,if_true]
  | false =>
   simp only [go_sem,hf3]
   cases h3:(Zai p).uniq with
   | true=>simp only [go_sem,Bool.true_or,Bool.or_true,if_true]
   | false=>simp only [go_sem,hJ1,Bool.or_false,Bool.false_eq_true,if_false]

end Go.Am
