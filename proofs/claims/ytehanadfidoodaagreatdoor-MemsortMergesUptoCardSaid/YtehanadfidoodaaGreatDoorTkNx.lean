/-
  The order of strings in a locale.
-/
import Derived.Test.YtehanadfidoodaaGreatDoorTkMx
namespace Go.Am
set_option linter.unusedSimpArgs false
set_option linter.unusedVariables false
set_option maxRecDepth 100000

def LocCells (l:List AV) (L:Loc):Prop:=∃ x c e,l=L.cells x c e∧Sl 1 x (L.w.map (AV.int .i64))∧Sl 5 c (L.cls.map Zcu)∧Sl 2 e (L.els.map elAV)
theorem LocCells.close {l:List AV} {L:Loc} (h:LocCells l L) (H:Hp) (n f:Nat):∃ l',l.mapM (Za6 H n (f+3))=some l'∧LocCells l' L:=by
 obtain ⟨x,c,e,rfl,hx,hc,he⟩:=h
 obtain ⟨x',hx1,hx2⟩:=hx.close (H:=H) (n:=n) (f:=f+2) (fun y hy=>by obtain ⟨m,_,rfl⟩:=List.mem_map.1 hy;rfl)
 obtain ⟨c',hc1,hc2⟩:=hc.close (H:=H) (n:=n) (f:=f+2) (fun y hy=>by obtain ⟨m,_,rfl⟩:=List.mem_map.1 hy;exact ZmL m H n f)
 obtain ⟨e',he1,he2⟩:=he.close (H:=H) (n:=n) (f:=f+2) (fun y hy=>by obtain ⟨m,_,rfl⟩:=List.mem_map.1 hy;exact Zpb m H n f)
 refine ⟨L.cells x' c' e',?_,x',c',e',rfl,hx2,hc2,he2⟩
 simp only [Loc.cells,List.mapM_cons,hx1,hc1,he1,List.mapM_nil]
 rfl
theorem Zbz (H : Hp) (n f : Nat) (l : List AV) : Za6 H n (f + 1) (.vp l) = match l.mapM (Za6 H n f) with
      | some l=>some (.vp l)
      | none=>none:=(Eq.refl _).trans (Eq.refl _)
theorem Zh4 {f:List AV→Hp→Res} {a a' b b' v v':AV} {H H1:Hp} (ha:Za6 [] 0 6 a=some a') (hb:Za6 [] 0 6 b=some b') (hc:f [a',b'] []=some (v,H1)) (hv:Za6 H1 0 6 v=some v'):Za5 f [a,b] H=some (v',H):=by
 unfold Za5
 simp [ha,hb,hc,hv]
theorem RowN.close {n:Nat} {H:Hp} {x:AV} {l:List Int} (h:RowN n H 1 x (l.map (AV.int .i64))) (H1:Hp):∃ x',Za6 H1 0 6 x=some x'∧Sl 1 x' (l.map (AV.int .i64)) :=
 h.sl.close (f:=5) (fun y hy=>by obtain ⟨m,_,rfl⟩:=List.mem_map.1 hy;rfl)

theorem ZsC {l : List AV} {L : Loc} (h : LocCells l L) (hw : L.w.length = 256) (hnew : ZzI L.els) (hn : L.els.length ≤ 1048576) (s : List UInt8) (hs : s.length ≤ 1048576) (H : Hp) :
    ∃ v,Za5 Zd7 [.str s,.vp l] H=some (v,H)∧Sl 1 v ((wS L s).map (AV.int .i64)):=by
 obtain ⟨l',h1,x,c,e,rfl,hx,hc,he⟩:=h.close [] 0 2
 have hcl:Za6 [] 0 6 (.vp l)=some (.vp (L.cells x c e)):=by rw [Zbz,h1]
 have hlen:=he.len 210
 rw [List.length_map] at hlen
 obtain ⟨H1,es,k,q1,q2,q3,q4,q5,q6⟩:=ZGG he hnew hn (.str s) (.fn (.func 150) [] [.ptr 0 0]) [AObj.cells [.nils]] L.els.length 0 [AObj.cells [.nils],.cells (L.cells x c e),.map [] 0] [] 0 (by omega) (by omega) rfl rfl (by simp)
 rw [show ((0:Nat):Int)=0 from rfl] at q1
 have hst:WSt L x c e es [] H1:=⟨⟨.nils,by rw [q2];rfl,RowN.nil _ _ _⟩,by rw [q3];rfl,⟨k,q4⟩,q6⟩
 obtain ⟨H2,q7,⟨⟨y,q8,q9⟩,_,_,_⟩⟩:=ZEO hx hw q5 s hs [AObj.cells [.nils]] s.length [] s [] H1 (Nat.le_refl _) rfl (by simp) hst
 rw [List.length_nil,show ((0:Nat):Int)=0 from rfl] at q7
 rw [List.nil_append] at q9
 obtain ⟨v,q10,q11⟩:=q9.close H2
 refine ⟨v,Zh4 (a':=.str s) rfl hcl ?_ q10,q11⟩
 rw [ZnO]
 unfold Zjk
 have e1:ZjL [.agg (L.cells x c e),.str s,.fn (.func 150) [] [.ptr 0 0]] [AObj.cells [.nils]]=some (.tuple [],H2):=by
  rw [Zul]
  unfold ZpM
  have hl5:Za2 false 1 (.ptr 1 5) [AObj.cells [.nils],.cells (L.cells x c e),.map [] 0]=some e:=by simp [Za2,Go.Am.apart,Loc.cells]
  simp only [go_sem,List.length_cons,List.length_nil,List.cons_append,List.nil_append,Nat.zero_add,hl5,hlen,q1,Ztu,q7]
 simp only [go_sem,List.length_nil,List.nil_append,Zbr 6 (L.cells x c e) rfl,e1,Zaq q8,List.getElem?_cons_zero]

def ZdM (r:List UInt8) (e:List UInt8 × Int):Bool :=
 match r with
 | b :: c :: _=>e.1 == [b,c]
 | _=>false
def ZhZ (r:List UInt8):List (List UInt8 × Int)→Nat→Int
 | [],_=>-1
 | e :: l,k=>if ZdM r e then (k:Int) else ZhZ r l (k+1)
theorem ZF0 {x c e : AV} {L : Loc} (he : Sl 2 e (L.els.map elAV)) (hl : L.els.length ≤ 1048576) (s done r : List UInt8) (hs : s.length ≤ 1048576) (hd : s = done ++ r) (H0 H : Hp) {o : Nat} (ho : H[o]? = some (.cells (L.cells x c e))) : ∀ (n k : Nat), L.els.length - k = n → k ≤ L.els.length →
    Zj1 (.str s) (.int .i64 (done.length:Int)) (.ptr o 0) (.int .i64 (k:Int)) H0 H=some (.int .i64 (ZhZ r (L.els.drop k) k),H):=by
 have hlen:=he.len 210
 rw [List.length_map] at hlen
 have hsl:s.length=done.length+r.length:=by rw [hd];simp
 have hw2:IntKind.i64.wrap ((done.length:Int)+2)=((done.length+2:Nat):Int):=by rw [Zai (by omega) (by omega)];omega
 intro n
 induction n with
 | zero =>
  intro k hn hk
  rw [ZnV]
  have hlt:decide ((k:Int) < (L.els.length:Int))=false:=by simp;omega
  have hdr:L.els.drop k=[]:=List.drop_eq_nil_iff.2 (by omega)
  simp only [go_sem,Nat.zero_add,Zaq ho,Loc.cells,List.getElem?_cons_zero,List.getElem?_cons_succ,hlen,hlt,ZxH,hdr]
  rfl
 | succ n ih =>
  intro k hn hk
  rw [ZnV]
  have hk1:k < L.els.length:=by omega
  have hlt:decide ((k:Int) < (L.els.length:Int))=true:=by simp;omega
  have hwk:IntKind.i64.wrap ((k:Int)+1)=((k+1:Nat):Int):=by rw [Zai (by omega) (by omega)];omega
  rw [List.drop_eq_getElem_cons hk1]
  simp only [go_sem,Nat.zero_add,Zaq ho,Loc.cells,List.getElem?_cons_zero,List.getElem?_cons_succ,hlen,hlt,ZxI,hw2,Zat]
  have h3:=ih (k+1) (by omega) (by omega)
  match r,hd,hsl,h3 with
  | [],hd,hsl,h3 =>
   have hle:decide (((done.length+2:Nat):Int)≤(s.length:Int))=false:=by simp at hsl ⊢;omega
   simp only [hle,go_sem,ZiB,hwk,h3]
   simp [ZhZ,ZdM]
  | [b],hd,hsl,h3 =>
   have hle:decide (((done.length+2:Nat):Int)≤(s.length:Int))=false:=by simp at hsl ⊢;omega
   simp only [hle,go_sem,ZiB,hwk,h3]
   simp [ZhZ,ZdM]
  | b :: b2 :: r,hd,hsl,h3 =>
   have hle:decide (((done.length+2:Nat):Int)≤(s.length:Int))=true:=by simp at hsl ⊢;omega
   have hs2:(s.take (done.length+2)).drop done.length=[b,b2]:=by rw [hd,List.take_append];simp
   have hsb:sbin .eql (.str [b,b2]) (.str L.els[k].1)=some (.bool (ZdM (b :: b2 :: r) L.els[k])):=by
    show some (AV.bool ([b,b2] == L.els[k].1))=some (.bool (L.els[k].1 == [b,b2]))
    congr 2
    rw [Bool.eq_iff_iff,beq_iff_eq,beq_iff_eq];exact eq_comm
   simp only [hle,go_sem,Zdw (show done.length≤done.length+2 by omega) (show done.length+2≤s.length by simp at hsl;omega),hs2,Nat.zero_add,hw2,Zaq ho,Loc.cells,List.getElem?_cons_zero,List.getElem?_cons_succ,he.els (List.getElem?_eq_getElem hk1),ZhM,Zan,hsb]
   have hfr:ZhZ (b :: b2 :: r) (L.els[k] :: L.els.drop (k+1)) k=if ZdM (b :: b2 :: r) L.els[k] then (k:Int) else ZhZ (b :: b2 :: r) (L.els.drop (k+1)) (k+1):=rfl
   rw [hfr]
   cases hm:ZdM (b :: b2 :: r) L.els[k] with
   | true=>simp only [go_sem,if_true]
   | false=>simp only [go_sem,Bool.false_eq_true,if_false,ZiB,hwk,h3]
theorem ZAT (L : Loc) (b c : UInt8) (r : List UInt8) : wS L (b :: c :: r) = match L.els.find? (ZdM (b :: c :: r)) with
    | some e=>e.2 :: wS L r
    | none=>wOf L b :: wS L (c :: r):=(Eq.refl _).trans (Eq.refl _)
theorem ZEZ {a:AV} {L:Loc} (h:LocAV a L) (hl:L.els.length≤1048576) (s done r:List UInt8) (hs:s.length≤1048576) (hd:s=done++r) (H:Hp):Za5 ZkC [a,.str s,.int .i64 (done.length:Int)] H=some (.int .i64 (ZhZ r L.els 0),H):=by
 obtain ⟨a1,h1,x,c,e,rfl,hx,hc,he⟩:=h.close [] 0 2
 have hrun:ZkC [.agg (L.cells x c e),.str s,.int .i64 (done.length:Int)] []=some (.int .i64 (ZhZ r L.els 0),[AObj.cells (L.cells x c e)]):=by
  rw [ZyV]
  unfold Zvg
  have:=ZF0 (x:=x) (c:=c) he hl s done r hs hd [] [AObj.cells (L.cells x c e)] (o:=0) rfl L.els.length 0 (by omega) (by omega)
  rw [List.drop_zero,show ((0:Nat):Int)=0 from rfl] at this
  simp only [go_sem,List.length_nil,List.nil_append,this]
 exact ZgN (args':=[.agg (L.cells x c e),.str s,.int .i64 (done.length:Int)]) (by simp [h1];rfl) hrun rfl
theorem ZDh (r : List UInt8) : ∀ (l : List (List UInt8 × Int)) (k : Nat), match l.find? (ZdM r) with
    | some e=>∃ i,ZhZ r l k=((k+i:Nat):Int)∧l[i]?=some e
    | none=>ZhZ r l k=-1:=by
 intro l
 induction l with
 | nil=>intro k;rfl
 | cons e l ih =>
  intro k
  rw [List.find?_cons]
  unfold ZhZ
  cases hm:ZdM r e with
  | true=>exact ⟨0,by simp,rfl⟩
  | false =>
   have:=ih (k+1)
   simp only
   cases hf:l.find? (ZdM r) with
   | none=>rw [hf] at this;simpa using this
   | some e' =>
    rw [hf] at this
    obtain ⟨i,q1,q2⟩:=this
    exact ⟨i+1,by simp only [Bool.false_eq_true,if_false];rw [q1];congr 1;omega,by simpa using q2⟩
theorem Zzp {x c e : AV} {L : Loc} (hx : Sl 1 x (L.w.map (AV.int .i64))) (hc : Sl 5 c (L.cls.map Zcu)) (he : Sl 2 e (L.els.map elAV)) (hw : L.w.length = 256) (hl : L.els.length ≤ 1048576) (s : List UInt8) (hs : s.length ≤ 1048576) (H0 : Hp) : ∀ (n : Nat) (done r : List UInt8) (acc : List Int) (y : AV) (H : Hp), r.length ≤ n → s = done ++ r → acc.length ≤ done.length → H[0]? = some (.cells (L.cells x c e)) → 1 ≤ H.length → RowN 1 H 1 y (acc.map (AV.int .i64)) →
    ∃ y' H',ZdH (.str s) (.ptr 0 0) y (.int .i64 (done.length:Int)) H0 H=some (y',H')∧RowN 1 H' 1 y' ((acc++wS L r).map (AV.int .i64)):=by
 intro n
 induction n with
 | zero =>
  intro done r acc y H hr hd ha h0 hlen hrow
  have:r=[]:=List.length_eq_zero_iff.1 (by omega)
  subst this
  rw [List.append_nil] at hd
  subst hd
  rw [ZfS]
  have hlt:decide ((s.length:Int) < (s.length:Int))=false:=by simp
  simp only [go_sem,Zat,hlt,Zki]
  exact ⟨y,H,rfl,by simpa [wS] using hrow⟩
 | succ n ih =>
  intro done r acc y H hr hd ha h0 hlen hrow
  cases r with
  | nil =>
   rw [List.append_nil] at hd
   subst hd
   rw [ZfS]
   have hlt:decide ((s.length:Int) < (s.length:Int))=false:=by simp
   simp only [go_sem,Zat,hlt,Zki]
   exact ⟨y,H,rfl,by simpa [wS] using hrow⟩
  | cons b r =>
   have hl0:done.length < s.length:=by rw [hd];simp
   have hsl:s.length=done.length+(r.length+1):=by rw [hd];simp
   have hlt:decide ((done.length:Int) < (s.length:Int))=true:=by simp;omega
   have hw1:IntKind.i64.wrap ((done.length:Int)+1)=((done.length+1:Nat):Int):=by rw [Zai (by omega) (by omega)];omega
   have hw2:IntKind.i64.wrap ((done.length:Int)+2)=((done.length+2:Nat):Int):=by rw [Zai (by omega) (by omega)];omega
   have hb:s[done.length]?=some b:=by rw [hd,List.getElem?_append_right (by omega)];simp
   have hav:LocAV (.agg (L.cells x c e)) L:=⟨x,c,e,rfl,hx,hc,he⟩
   have hf:=ZEZ hav hl s done (b :: r) hs hd H
   have hagg:Za2 true 6 (.ptr 0 0) H=some (.agg (L.cells x c e)):=by rw [ZeX h0];simp [Go.Am.apart,Loc.cells]
   have app:∀ w:Int,∃ y' H',ZaH 1 8 y (.vs 1 .clip [.int .i64 w]) H=some (y',H')∧RowN 1 H' 1 y' ((acc++[w]).map (AV.int .i64))∧1≤H'.length∧H'[0]?=some (.cells (L.cells x c e)):=fun w=>by
    obtain ⟨y',H',q1,q2,q3,q4,q5⟩:=hrow.app hlen 8 (.vs 1 .clip [.int .i64 w]) [.int .i64 w] (by simp [elems]) (by simp;omega)
    exact ⟨y',H',q1,by simpa using q2,q3,q5 _ _ h0⟩
   rw [ZfS]
   simp only [go_sem,Zat,hlt,Zta,hagg,hf]
   have hsp:=ZDh (b :: r) L.els 0
   cases hfd:L.els.find? (ZdM (b :: r)) with
   | none =>
    rw [hfd] at hsp
    simp only at hsp
    have hwS:wS L (b :: r)=wOf L b :: wS L r:=by
     cases r with
     | nil=>rfl
     | cons b2 r =>
      rw [ZAT,hfd]
    obtain ⟨y',H',q1,q2,q3,q4⟩:=app (wOf L b)
    obtain ⟨y2,H2,q5,q6⟩:=ih (done++[b]) r (acc++[wOf L b]) y' H' (by simp at hr;omega) (by rw [hd];simp) (by simp;omega) q4 q3 q2
    rw [List.length_append,List.length_singleton] at q5
    have hneg:decide ((-1:Int) < 0)=true:=rfl
    rw [hsp,hwS]
    simp only [go_sem,hneg,Nat.zero_add,Zaq h0,Loc.cells,List.getElem?_cons_zero,List.getElem?_cons_succ,Zax hb,ZHV hx hw,Zan,Zos,q1,hw1,q5]
    exact ⟨y2,H2,rfl,by simpa using q6⟩
   | some el =>
    rw [hfd] at hsp
    simp only at hsp
    obtain ⟨i,q7,q8⟩:=hsp
    cases r with
    | nil =>
     have:=List.find?_some hfd
     simp [ZdM] at this
    | cons b2 r =>
     have hwS:wS L (b :: b2 :: r)=el.2 :: wS L r:=by
      rw [ZAT,hfd]
     obtain ⟨y',H',q1,q2,q3,q4⟩:=app el.2
     obtain ⟨y2,H2,q5,q6⟩:=ih (done++[b,b2]) r (acc++[el.2]) y' H' (by simp at hr;omega) (by rw [hd];simp) (by simp;omega) q4 q3 q2
     rw [List.length_append,show ([b,b2]:List UInt8).length=2 from rfl] at q5
     rw [q7,hwS,Nat.zero_add]
     have hneg:decide ((i:Int) < 0)=false:=by simp
     simp only [go_sem,hneg,Nat.zero_add,Zaq h0,Loc.cells,List.getElem?_cons_zero,List.getElem?_cons_succ,he.els q8,Zwe,Zan,Zos,q1,hw2,q5]
     exact ⟨y2,H2,rfl,by simpa using q6⟩
theorem Zqe {a : AV} {L : Loc} (h : LocAV a L) (hw : L.w.length = 256) (hl : L.els.length ≤ 1048576) (s : List UInt8) (hs : s.length ≤ 1048576) (H : Hp) :
    ∃ v,Za5 Zgm [a,.str s] H=some (v,H)∧Sl 1 v ((wS L s).map (AV.int .i64)):=by
 obtain ⟨a1,h1,x,c,e,rfl,hx,hc,he⟩:=h.close [] 0 2
 obtain ⟨y',H',q1,q2⟩:=Zzp hx hc he hw hl s hs [] s.length [] s [] .nils [AObj.cells (L.cells x c e)] (Nat.le_refl _) rfl (by simp) rfl (by simp) (RowN.nil _ _ _)
 rw [List.length_nil,show ((0:Nat):Int)=0 from rfl] at q1
 rw [List.nil_append] at q2
 obtain ⟨v,q3,q4⟩:=q2.close H'
 refine ⟨v,Zh4 h1 (b':=.str s) rfl ?_ q3,q4⟩
 rw [Zuf]
 unfold ZpI
 simp only [go_sem,List.length_nil,List.nil_append,q1]
end Go.Am
namespace Go.Am
set_option linter.unusedSimpArgs false
set_option linter.unusedVariables false
set_option linter.unusedSectionVars false
set_option maxRecDepth 100000

def ordS:List Int→List Int→Int
 | [],[]=>0
 | [],_ :: _=>-1
 | _ :: _,[]=>1
 | a :: l,b :: m=>if a < b then -1 else if b < a then 1 else ordS l m
theorem Zdn (a b:Int) (l m:List Int):ordS (a :: l) (b :: m)=if a < b then -1 else if b < a then 1 else ordS l m:=(Eq.refl _).trans (Eq.refl _)
theorem ZyE {l m:List Int} (h:l=[] ∨ m=[]):ordS l m=if l.length < m.length then -1 else if m.length < l.length then 1 else 0:=by
 rcases h with rfl | rfl
 ·cases m <;> simp [ordS]
 ·cases l <;> simp [ordS]
theorem ZuW:∀ a b:List UInt8,ordS (a.map fun c=>(c.toNat:Int)) (b.map fun c=>(c.toNat:Int))=cmpB a b:=by
 intro a
 induction a with
 | nil=>intro b;cases b <;> simp [ordS,cmpB]
 | cons x a ih =>
  intro b
  cases b with
  | nil=>simp [ordS,cmpB]
  | cons y b =>
   simp only [List.map_cons,Zdn,cmpB]
   by_cases h:x=y
   ·subst h
    simp [ih b]
   ·have hne:x.toNat ≠ y.toNat:=fun e=>h (UInt8.toNat_inj.1 e)
    by_cases hl:x < y
    ·have:(x.toNat:Int) < y.toNat:=by have:=UInt8.lt_iff_toNat_lt.1 hl;omega
     simp [h,hl,this]
    ·have h1 : ¬ (x.toNat : Int) < y.toNat := by
        intro h'
        exact hl (UInt8.lt_iff_toNat_lt.2 (by omega))
     have h2:(y.toNat:Int) < x.toNat:=by omega
     simp [h,hl,h1,h2]
theorem ZFT (a b:List UInt8) (H:Hp):Za5 ZfQ [.str a,.str b] H=some (.int .i64 (cmpB a b),H):=by
 have h1:∀ H,Za5 ZbC [.str a,.str b] H=some (.int .i64 (cmpB a b),H):=fun H=>by
  refine Zdf (a':=.str a) (b':=.str b) (H1:=[]) rfl rfl ?_ rfl
  rw [Zfe]
  rfl
 refine Zdf (a':=.str a) (b':=.str b) (H1:=[]) rfl rfl ?_ rfl
 rw [ZoP]
 unfold Zkh
 simp only [h1,go_sem]

section
variable {x y:AV} {a b:List Int} (hx:Sl 1 x (a.map (AV.int .i64))) (hy:Sl 1 y (b.map (AV.int .i64))) (ha:a.length≤4611686018427387904) (hb:b.length≤4611686018427387904)
include hx hy ha hb
theorem ZDH (H0 H : Hp) : ∀ (k i : Nat), a.length - i = k → i ≤ a.length → i ≤ b.length →
    Zhv x y (.int .i64 (i:Int)) H0 H=some (.int .i64 (ordS (a.drop i) (b.drop i)),H):=by
 have hla:=hx.len 3
 have hlb:=hy.len 3
 rw [List.length_map] at hla hlb
 have fin:∀ i,i≤a.length→i≤b.length→(i=a.length ∨ i=b.length)→Zlo x y H0 H=some (.int .i64 (ordS (a.drop i) (b.drop i)),H):=by
  intro i h1 h2 h3
  have he:a.drop i=[] ∨ b.drop i=[]:=h3.imp (fun h=>List.drop_eq_nil_iff.2 (by omega)) (fun h=>List.drop_eq_nil_iff.2 (by omega))
  rw [ZyE he,ZvI]
  simp only [List.length_drop,go_sem,hla,hlb]
  by_cases hlt:a.length < b.length
  ·have c:decide ((a.length:Int) < (b.length:Int))=true:=by simp;omega
   simp only [c,go_sem]
   rw [if_pos (by omega)]
  ·have c:decide ((a.length:Int) < (b.length:Int))=false:=by simp;omega
   simp only [c,go_sem,ZvJ,hla,hlb]
   rw [if_neg (by omega)]
   by_cases hgt:b.length < a.length
   ·have c:decide ((b.length:Int) < (a.length:Int))=true:=by simp;omega
    simp only [c,go_sem]
    rw [if_pos (by omega)]
   ·have c:decide ((b.length:Int) < (a.length:Int))=false:=by simp;omega
    simp only [c,go_sem,ZvK]
    rw [if_neg (by omega)]
 intro k
 induction k with
 | zero =>
  intro i hk h1 h2
  rw [ZmD]
  have hlt:decide ((i:Int) < (a.length:Int))=false:=by simp;omega
  simp only [go_sem,hla,hlt]
  exact fin i h1 h2 (.inl (by omega))
 | succ k ih =>
  intro i hk h1 h2
  rw [ZmD]
  have hi:i < a.length:=by omega
  have hlt:decide ((i:Int) < (a.length:Int))=true:=by simp;omega
  have hw:IntKind.i64.wrap ((i:Int)+1)=((i+1:Nat):Int):=by rw [Zai (by omega) (by omega)];omega
  simp only [go_sem,hla,hlb,hlt]
  by_cases hib:i < b.length
  ·have hltb:decide ((i:Int) < (b.length:Int))=true:=by simp;omega
   simp only [hltb,go_sem,ZvL,hx.ints hi,hy.ints hib,Zan]
   rw [List.drop_eq_getElem_cons hi,List.drop_eq_getElem_cons hib,Zdn]
   by_cases c1:a[i] < b[i]
   ·simp only [decide_eq_true c1,go_sem,if_pos c1]
   ·simp only [decide_eq_false c1,go_sem,if_neg c1,ZvN,hx.ints hi,hy.ints hib,Zan]
    by_cases c2:b[i] < a[i]
    ·simp only [decide_eq_true c2,go_sem,if_pos c2]
    ·simp only [decide_eq_false c2,go_sem,if_neg c2,ZvM,hw]
     exact ih (i+1) (by omega) (by omega) (by omega)
  ·have hltb:decide ((i:Int) < (b.length:Int))=false:=by simp;omega
   simp only [hltb,go_sem]
   exact fin i h1 h2 (.inr (by omega))
theorem ZDI (H:Hp):Zg1 [x,y] H=some (.int .i64 (ordS a b),H):=by
 rw [Zxx]
 unfold ZtF
 have:=ZDH hx hy ha hb H H a.length 0 rfl (by omega) (by omega)
 rw [show ((0:Nat):Int)=0 from rfl,List.drop_zero,List.drop_zero] at this
 exact this
theorem ZFz (s t : List UInt8) (H0 H : Hp) : ∀ (k i : Nat), min a.length b.length - i = k → i ≤ min a.length b.length →
    ZdC (.str s) (.str t) x y (.int .i64 ((min a.length b.length:Nat):Int)) (.int .i64 (i:Int)) H0 H=some (.int .i64 (if (ordS (a.drop i) (b.drop i) != 0)=true then ordS (a.drop i) (b.drop i) else cmpB s t),H):=by
 have hla:=hx.len 3
 have hlb:=hy.len 3
 rw [List.length_map] at hla hlb
 intro k
 induction k with
 | zero =>
  intro i hk hi
  rw [Zi4]
  have hlt:decide ((i:Int) < ((min a.length b.length:Nat):Int))=false:=by simp;omega
  have he:a.drop i=[] ∨ b.drop i=[]:=by
   rcases Nat.le_total a.length b.length with h | h
   ·exact .inl (List.drop_eq_nil_iff.2 (by omega))
   ·exact .inr (List.drop_eq_nil_iff.2 (by omega))
  rw [ZyE he]
  simp only [List.length_drop,go_sem,hlt,Zpg,hla,hlb]
  by_cases h1:a.length < b.length
  ·have c:decide ((a.length:Int) < (b.length:Int))=true:=by simp;omega
   have h1':a.length - i < b.length - i:=by omega
   simp only [c,go_sem,h1',if_true]
   rfl
  ·have c:decide ((a.length:Int) < (b.length:Int))=false:=by simp;omega
   have h1':¬ a.length - i < b.length - i:=by omega
   simp only [c,go_sem,h1',if_false,Zph,hla,hlb]
   by_cases h2:b.length < a.length
   ·have c:decide ((b.length:Int) < (a.length:Int))=true:=by simp;omega
    have h2':b.length - i < a.length - i:=by omega
    simp only [c,go_sem,h2',if_true]
    rfl
   ·have c:decide ((b.length:Int) < (a.length:Int))=false:=by simp;omega
    have h2':¬ b.length - i < a.length - i:=by omega
    simp only [c,go_sem,h2',if_false,Zpi,ZFT]
    rfl
 | succ k ih =>
  intro i hk hi
  rw [Zi4]
  have hia:i < a.length:=by omega
  have hib:i < b.length:=by omega
  have hlt:decide ((i:Int) < ((min a.length b.length:Nat):Int))=true:=by simp;omega
  have hw:IntKind.i64.wrap ((i:Int)+1)=((i+1:Nat):Int):=by rw [Zai (by omega) (by omega)];omega
  simp only [go_sem,hlt,Zpj,hx.ints hia,hy.ints hib,Zan]
  rw [List.drop_eq_getElem_cons hia,List.drop_eq_getElem_cons hib,Zdn]
  by_cases c1:a[i] < b[i]
  ·simp only [decide_eq_true c1,go_sem,if_pos c1]
   rfl
  ·simp only [decide_eq_false c1,go_sem,if_neg c1,Zpl,hx.ints hia,hy.ints hib,Zan]
   by_cases c2:b[i] < a[i]
   ·simp only [decide_eq_true c2,go_sem,if_pos c2]
    rfl
   ·simp only [decide_eq_false c2,go_sem,if_neg c2,Zpk,hw]
    exact ih (i+1) (by omega) (by omega)
end
theorem Zxp (L:Loc):∀ (n:Nat) (s:List UInt8),s.length≤n→(wS L s).length≤s.length:=by
 intro n
 induction n with
 | zero=>intro s h;have:s=[]:=List.length_eq_zero_iff.1 (by omega);subst this;simp [wS]
 | succ n ih =>
  intro s h
  match s,h with
  | [],_=>simp [wS]
  | [b],_=>simp [wS]
  | b :: c :: r,h =>
   rw [ZAT]
   simp only [List.length_cons] at h
   cases L.els.find? (ZdM (b :: c :: r)) with
   | none=>have:=ih (c :: r) (by simp;omega);simp only [List.length_cons] at this ⊢;omega
   | some e=>have:=ih r (by omega);simp only [List.length_cons];omega
theorem Zl0 (L:Loc):(Zay L).els.length≤64:=by
 unfold Zay
 cases h:(ZbH L != 0) with
 | true=>simp [defL]
 | false =>
  simp only [ZbH,bne_eq_false_iff_eq] at h
  have:elsS L.els=0:=by
   split at h
   ·split at h
    ·cases h
    ·split at h
     ·cases h
     ·unfold ZpD at h
      split at h
      ·rename_i h1;simp [h] at h1
      ·exact h
   ·cases h
  unfold elsS at this
  split at this
  ·cases this
  ·simp;omega
def cmpS (L:Loc) (s t:List UInt8):Int:=if (ordS (wS (Zay L) s) (wS (Zay L) t) != 0)=true then ordS (wS (Zay L) s) (wS (Zay L) t) else cmpB s t
theorem Zyv {v:AV} {L:Loc} (h:LocAV v L) (hok:LocOk L) (s t:List UInt8) (hs:s.length≤1048576) (ht:t.length≤1048576) (H:Hp):Za5 ZcL [v,.str s,.str t] H=some (.int .i64 (cmpS L s t),H):=by
 obtain ⟨a1,h1,h2⟩:=h.close [] 0 2
 have hv:=fun H=>Zxn h2 hok H
 obtain ⟨x,c,e,rfl,hx,hc,he⟩:=h2
 obtain ⟨v',hv1,xv,cv,ev,rfl,hxv,hcv,hev⟩:=hv [AObj.cells (L.cells x c e)]
 have hlc:LocCells ((Zay L).cells xv cv ev) (Zay L):=⟨xv,cv,ev,rfl,hxv,hcv,hev⟩
 obtain ⟨w1,q1,q2⟩:=ZsC hlc (ZpG L) (Zxm L) (by have:=Zl0 L;omega) s hs [AObj.dead]
 obtain ⟨w2,q3,q4⟩:=ZsC hlc (ZpG L) (Zxm L) (by have:=Zl0 L;omega) t ht [AObj.dead]
 have hl1:=Zxp (Zay L) s.length s (Nat.le_refl _)
 have hl2:=Zxp (Zay L) t.length t (Nat.le_refl _)
 have hrun:ZcL [.agg (L.cells x c e),.str s,.str t] []=some (.int .i64 (cmpS L s t),[AObj.dead]):=by
  rw [Zqh]
  unfold Zla
  have hl:Za2 true 6 (.ptr 0 0) [AObj.cells (L.cells x c e)]=some (.agg (L.cells x c e)):=by simp [Za2,Go.Am.apart,Loc.cells]
  have hst:Zag 6 (.ptr 0 0) (.agg ((Zay L).cells xv cv ev)) [AObj.cells (L.cells x c e)]=some (.tuple [],[AObj.cells ((Zay L).cells xv cv ev)]):=by simp [Zag,ZaQ,AV.known,AV.cells,Loc.cells,splice]
  have hfz:∀ k:AV→Hp→Res,frzK (.ptr 0 0) [AObj.cells ((Zay L).cells xv cv ev)] k=k (.vp ((Zay L).cells xv cv ev)) [AObj.dead]:=fun k=>rfl
  have a1:Zaf (.slice 3) w1=some (.int .i64 (wS (Zay L) s).length):=by have:=q2.len 3;rwa [List.length_map] at this
  have a2:Zaf (.slice 3) w2=some (.int .i64 (wS (Zay L) t).length):=by have:=q4.len 3;rwa [List.length_map] at this
  have hmin:ZeI (.int .i64 ((wS (Zay L) s).length:Int)) (.int .i64 ((wS (Zay L) t).length:Int))=some (.int .i64 ((min (wS (Zay L) s).length (wS (Zay L) t).length:Nat):Int)):=by
   unfold ZeI
   simp only [if_true]
   congr 2
   split <;> omega
  have hlp:=ZFz q2 q4 (by omega) (by omega) s t [] [AObj.dead] _ 0 rfl (Nat.zero_le _)
  rw [show ((0:Nat):Int)=0 from rfl,List.drop_zero,List.drop_zero] at hlp
  simp only [go_sem,List.length_nil,List.nil_append,hl,hv1,hst,hfz,Zra,ZrV,List.cons_append,q1,q3,a1,a2,hmin,hlp]
  rfl
 exact ZgN (args':=[.agg (L.cells x c e),.str s,.str t]) (by simp [h1];rfl) hrun rfl
end Go.Am
namespace Go.Am
set_option linter.unusedSimpArgs false
set_option linter.unusedVariables false
set_option maxRecDepth 100000

def natS (s:List UInt8):List Int:=s.map fun c=>(c.toNat:Int)
theorem ZHO (b:UInt8):ZbA .i64 (.int .u8 b.toNat)=some (.int .i64 (b.toNat:Int)):=by
 have:=b.toNat_lt
 simp only [ZbA,Zai (show -(9223372036854775808:Int)≤(b.toNat:Int) by omega) (by omega)]
theorem ZiG {s done r:List UInt8} {b:UInt8} (h:s=done++b :: r):Zaj (.str s) (.int .i64 (done.length:Int))=some (.int .u8 b.toNat) :=
 Zax (by rw [h,List.getElem?_append_right (Nat.le_refl _)];simp)
theorem RowN.appInt {n : Nat} {H : Hp} {y : AV} {acc : List Int} (h : RowN n H 1 y (acc.map (AV.int .i64))) (hn : n ≤ H.length) (hl : acc.length ≤ 1048576) (w : Int) :
    ∃ y' H',ZaH 1 8 y (.vs 1 .clip [.int .i64 w]) H=some (y',H')∧RowN n H' 1 y' ((acc++[w]).map (AV.int .i64))∧n≤H'.length∧(∀ i x,H[i]?=some x→i < n→H'[i]?=some x):=by
 obtain ⟨y',H',q1,q2,q3,q4,q5⟩:=h.app hn 8 (.vs 1 .clip [.int .i64 w]) [.int .i64 w] (by simp [elems]) (by simp;omega)
 exact ⟨y',H',q1,by simpa using q2,q3,fun i x hi hin=>(q4 i hin).trans hi⟩
theorem Zx0 {x y : AV} {a b : List Int} (hx : Sl 1 x (a.map (AV.int .i64))) (hy : Sl 1 y (b.map (AV.int .i64))) (ha : a.length ≤ 4611686018427387904) (hb : b.length ≤ 4611686018427387904) (H : Hp) :
    Za5 Zg1 [x,y] H=some (.int .i64 (ordS a b),H):=by
 obtain ⟨x',hx1,hx2⟩:=hx.close (H:=[]) (n:=0) (f:=5) (fun y hy=>by obtain ⟨m,_,rfl⟩:=List.mem_map.1 hy;rfl)
 obtain ⟨y',hy1,hy2⟩:=hy.close (H:=[]) (n:=0) (f:=5) (fun y hy=>by obtain ⟨m,_,rfl⟩:=List.mem_map.1 hy;rfl)
 exact Zdf hx1 hy1 (ZDI hx2 hy2 ha hb []) rfl
theorem Zpq (s:List UInt8):(natS s).length=s.length:=by simp [natS]
theorem ZyB (s:List UInt8) (b:UInt8):natS (s++[b])=natS s++[(b.toNat:Int)]:=by simp [natS]
theorem ZGu {x5 : AV} {a : List Int} (hx : Sl 1 x5 (a.map (AV.int .i64))) (t : List UInt8) (ht : t.length ≤ 1048576) (ha : a.length ≤ 1048576) (H0 : Hp) : ∀ (r done : List UInt8) (y : AV) (H : Hp), t = done ++ r → RowN 0 H 1 y ((natS done).map (AV.int .i64)) →
    ∃ H',Zhl (.str t) x5 y (.int .i64 (done.length:Int)) H0 H=some (.int .i64 (ordS a (natS t)),H'):=by
 intro r
 induction r with
 | nil =>
  intro done y H hd hy
  rw [List.append_nil] at hd
  subst hd
  refine ⟨H,?_⟩
  rw [ZmA]
  have hlt:decide ((t.length:Int) < (t.length:Int))=false:=by simp
  simp only [go_sem,Zat,hlt,Zvw,Zx0 hx hy.sl (by omega) (by rw [Zpq];omega)]
 | cons b r ih =>
  intro done y H hd hy
  have hlen:t.length=done.length+(r.length+1):=by rw [hd];simp
  have hlt:decide ((done.length:Int) < (t.length:Int))=true:=by simp;omega
  have hw1:IntKind.i64.wrap ((done.length:Int)+1)=((done.length+1:Nat):Int):=by rw [Zai (by omega) (by omega)];omega
  obtain ⟨y',H1,q1,q2,q3,q4⟩:=hy.appInt (Nat.zero_le _) (by rw [Zpq];omega) (b.toNat:Int)
  obtain ⟨H2,q5⟩:=ih (done++[b]) y' H1 (by rw [hd];simp) (by rw [ZyB];exact q2)
  rw [List.length_append,List.length_singleton] at q5
  refine ⟨H2,?_⟩
  rw [ZmA]
  simp only [go_sem,Zat,hlt,Zvx,ZiG hd,ZHO,Zos,q1,Zvy,hw1,q5]
theorem ZGv (s t : List UInt8) (hs : s.length ≤ 1048576) (ht : t.length ≤ 1048576) (H0 : Hp) : ∀ (r done : List UInt8) (y : AV) (H : Hp), s = done ++ r → RowN 0 H 1 y ((natS done).map (AV.int .i64)) →
    ∃ H',Zhm (.str s) (.str t) y .nils (.int .i64 (done.length:Int)) H0 H=some (.int .i64 (ordS (natS s) (natS t)),H'):=by
 intro r
 induction r with
 | nil =>
  intro done y H hd hy
  rw [List.append_nil] at hd
  subst hd
  obtain ⟨H',h⟩:=ZGu hy.sl t ht (by rw [Zpq];omega) H0 t [] .nils H rfl (RowN.nil _ _ _)
  rw [List.length_nil,show ((0:Nat):Int)=0 from rfl] at h
  refine ⟨H',?_⟩
  rw [ZmB]
  have hlt:decide ((s.length:Int) < (s.length:Int))=false:=by simp
  simp only [go_sem,Zat,hlt,Zvv,h]
 | cons b r ih =>
  intro done y H hd hy
  have hlen:s.length=done.length+(r.length+1):=by rw [hd];simp
  have hlt:decide ((done.length:Int) < (s.length:Int))=true:=by simp;omega
  have hw1:IntKind.i64.wrap ((done.length:Int)+1)=((done.length+1:Nat):Int):=by rw [Zai (by omega) (by omega)];omega
  obtain ⟨y',H1,q1,q2,q3,q4⟩:=hy.appInt (Nat.zero_le _) (by rw [Zpq];omega) (b.toNat:Int)
  obtain ⟨H2,q5⟩:=ih (done++[b]) y' H1 (by rw [hd];simp) (by rw [ZyB];exact q2)
  rw [List.length_append,List.length_singleton] at q5
  refine ⟨H2,?_⟩
  rw [ZmB]
  simp only [go_sem,Zat,hlt,Zvz,ZiG hd,ZHO,Zos,q1,ZvA,hw1,q5]
theorem ZCP (s t:List UInt8) (hs:s.length≤1048576) (ht:t.length≤1048576) (H:Hp):Za5 Zne [.str s,.str t] H=some (.int .i64 (cmpB s t),H):=by
 obtain ⟨H',h⟩:=ZGv s t hs ht [] s [] .nils [] rfl (RowN.nil _ _ _)
 rw [List.length_nil,show ((0:Nat):Int)=0 from rfl,show ordS (natS s) (natS t)=cmpB s t from ZuW s t] at h
 refine Zdf (a':=.str s) (b':=.str t) (H1:=H') rfl rfl ?_ rfl
 rw [Zxt]
 exact h
theorem ZyK {v:AV} {L:Loc} (h:LocAV v L) (hok:LocOk L) (s t:List UInt8) (hs:s.length≤1048576) (ht:t.length≤1048576) (H:Hp):Za5 Zej [v,.str s,.str t] H=some (.int .i64 (cmpS L s t),H):=by
 obtain ⟨a1,h1,h2⟩:=h.close [] 0 2
 have hv:=fun H=>Zu9 h2 hok H
 obtain ⟨x,c,e,rfl,hx,hc,he⟩:=h2
 obtain ⟨v',hv1,xv,cv,ev,rfl,hxv,hcv,hev⟩:=hv [AObj.cells (L.cells x c e)]
 have hlv:LocAV (.agg ((Zay L).cells xv cv ev)) (Zay L):=⟨xv,cv,ev,rfl,hxv,hcv,hev⟩
 obtain ⟨w1,q1,q2⟩:=Zqe hlv (ZpG L) (by have:=Zl0 L;omega) s hs [AObj.cells ((Zay L).cells xv cv ev)]
 obtain ⟨w2,q3,q4⟩:=Zqe hlv (ZpG L) (by have:=Zl0 L;omega) t ht [AObj.cells ((Zay L).cells xv cv ev)]
 have hl1:=Zxp (Zay L) s.length s (Nat.le_refl _)
 have hl2:=Zxp (Zay L) t.length t (Nat.le_refl _)
 have hrun:Zej [.agg (L.cells x c e),.str s,.str t] []=some (.int .i64 (cmpS L s t),[AObj.cells ((Zay L).cells xv cv ev)]):=by
  rw [Zue]
  unfold ZpH
  have hl:Za2 true 6 (.ptr 0 0) [AObj.cells (L.cells x c e)]=some (.agg (L.cells x c e)):=by simp [Za2,Go.Am.apart,Loc.cells]
  have hst:Zag 6 (.ptr 0 0) (.agg ((Zay L).cells xv cv ev)) [AObj.cells (L.cells x c e)]=some (.tuple [],[AObj.cells ((Zay L).cells xv cv ev)]):=by simp [Zag,ZaQ,AV.known,AV.cells,Loc.cells,splice]
  have hl2':Za2 true 6 (.ptr 0 0) [AObj.cells ((Zay L).cells xv cv ev)]=some (.agg ((Zay L).cells xv cv ev)):=by simp [Za2,Go.Am.apart,Loc.cells]
  unfold cmpS
  simp only [go_sem,List.length_nil,List.nil_append,hl,hv1,hst,hl2',q1,q3,Zx0 q2 q4 (by omega) (by omega)]
  cases hc:(ordS (wS (Zay L) s) (wS (Zay L) t) != 0) with
  | true=>rfl
  | false=>simp only [go_sem,Zt8,ZCP s t hs ht,Bool.false_eq_true,if_false]
 exact ZgN (args':=[.agg (L.cells x c e),.str s,.str t]) (by simp [h1];rfl) hrun rfl
end Go.Am
namespace Go.Am
set_option linter.unusedSimpArgs false
set_option linter.unusedVariables false
set_option maxRecDepth 100000

def isD (b:UInt8):Bool:=decide (48≤(b.toNat:Int)) && decide ((b.toNat:Int)≤57)
def Za9 (l:List UInt8):Nat:=(l.takeWhile isD).length
theorem ZyP:Za9 []=0:=rfl
theorem Zpw (b:UInt8) (l:List UInt8):Za9 (b :: l)=if isD b then Za9 l+1 else 0:=by
 unfold Za9;rw [List.takeWhile_cons];split <;> simp_all
theorem Zpx (l:List UInt8):Za9 l≤l.length:=by
 induction l with
 | nil=>simp [Za9]
 | cons b l ih=>rw [Zpw];split <;> simp <;> omega
theorem ZBn {s : List UInt8} (hs : s.length ≤ 1048576) (H0 H : Hp) : ∀ (k p : Nat), s.length - p = k → p ≤ s.length →
    ZdB (.str s) (.int .i64 (p:Int)) H0 H=some (.int .i64 ((p+Za9 (s.drop p):Nat):Int),H):=by
 intro k
 induction k with
 | zero =>
  intro p hk hp
  rw [ZhV]
  have hlt:decide ((p:Int) < (s.length:Int))=false:=by simp;omega
  have hd:s.drop p=[]:=List.drop_eq_nil_iff.2 (by omega)
  simp only [go_sem,hlt,hd,ZyP,Nat.add_zero,ZdW]
 | succ k ih =>
  intro p hk hp
  rw [ZhV]
  have hlt:decide ((p:Int) < (s.length:Int))=true:=by simp;omega
  have hl:p < s.length:=by omega
  have hw:IntKind.i64.wrap ((p:Int)+1)=((p+1:Nat):Int):=by rw [Zai (by omega) (by omega)];omega
  simp only [go_sem,hlt,Zax (List.getElem?_eq_getElem hl)]
  rw [ZaT hl,Zpw]
  cases h1:decide (48≤((s[p].toNat:Int))) with
  | false=>simp only [isD,h1,go_sem,Bool.false_and,Bool.false_eq_true,if_false,Nat.add_zero,ZdW]
  | true =>
   cases h2:decide (((s[p].toNat:Int))≤57) with
   | false=>simp only [isD,h1,h2,go_sem,Zax (List.getElem?_eq_getElem hl),Bool.and_false,Bool.false_eq_true,if_false,Nat.add_zero,ZdW]
   | true =>
    simp only [isD,h1,h2,go_sem,Zax (List.getElem?_eq_getElem hl),Bool.and_true,if_true,Zp7,hw]
    rw [ih (p+1) (by omega) (by omega),show p+1+Za9 (s.drop (p+1))=p+(Za9 (s.drop (p+1))+1) by omega]
theorem Zu2 (s:List UInt8) (hs:s.length≤1048576) (H:Hp):Za5 ZdT [.str s] H=some (.int .i64 (Za9 s:Int),H):=by
 refine Zcn (a':=.str s) (H1:=[]) rfl ?_ rfl
 rw [Zqg]
 have:=ZBn hs [] [] s.length 0 rfl (by omega)
 rw [show ((0:Nat):Int)=0 from rfl,List.drop_zero,Nat.zero_add] at this
 exact this
theorem ZAz {s : List UInt8} (hs : s.length ≤ 1048576) (H0 H : Hp) : ∀ (k p : Nat), s.length - p = k → p ≤ s.length →
    Zgs (.str s) (.int .i64 (p:Int)) H0 H=some (.int .i64 ((p+Za9 (s.drop p):Nat):Int),H):=by
 intro k
 induction k with
 | zero =>
  intro p hk hp
  rw [Zlh]
  have hlt:decide ((p:Int) < (s.length:Int))=false:=by simp;omega
  have hd:s.drop p=[]:=List.drop_eq_nil_iff.2 (by omega)
  simp only [go_sem,hlt,hd,ZyP,Nat.add_zero,ZgK]
 | succ k ih =>
  intro p hk hp
  rw [Zlh]
  have hlt:decide ((p:Int) < (s.length:Int))=true:=by simp;omega
  have hl:p < s.length:=by omega
  have hw:IntKind.i64.wrap ((p:Int)+1)=((p+1:Nat):Int):=by rw [Zai (by omega) (by omega)];omega
  simp only [go_sem,hlt,Zax (List.getElem?_eq_getElem hl)]
  rw [ZaT hl,Zpw]
  cases h1:decide (48≤((s[p].toNat:Int))) with
  | false=>simp only [isD,h1,go_sem,Bool.false_and,Bool.false_eq_true,if_false,Nat.add_zero,ZgK]
  | true =>
   cases h2:decide (((s[p].toNat:Int))≤57) with
   | false=>simp only [isD,h1,h2,go_sem,Zax (List.getElem?_eq_getElem hl),Bool.and_false,Bool.false_eq_true,if_false,Nat.add_zero,ZgK]
   | true =>
    simp only [isD,h1,h2,go_sem,Zax (List.getElem?_eq_getElem hl),Bool.and_true,if_true,Zuu,hw]
    rw [ih (p+1) (by omega) (by omega),show p+1+Za9 (s.drop (p+1))=p+(Za9 (s.drop (p+1))+1) by omega]
theorem Zst (s:List UInt8) (hs:s.length≤1048576) {p:Nat} (hp:p≤s.length) (H:Hp):Za5 Zha [.str s,.int .i64 (p:Int)] H=some (.int .i64 ((p+Za9 (s.drop p):Nat):Int),H):=by
 refine Zdf (a':=.str s) (b':=.int .i64 (p:Int)) (H1:=[]) rfl rfl ?_ rfl
 rw [Zve]
 exact ZAz hs [] [] _ p rfl hp

def dg (b:UInt8):Int:=IntKind.u8.wrap ((b.toNat:Int) - 48)
theorem Zbo (b:UInt8):0≤dg b∧dg b≤255:=by
 unfold dg
 have h:=b.toNat_lt
 show 0≤((b.toNat:Int) - 48) % 256∧((b.toNat:Int) - 48) % 256≤255
 omega
theorem ZzC (b:UInt8):ZbA .i64 (.int .u8 (IntKind.u8.wrap ((b.toNat:Int) - 48)))=some (.int .i64 (dg b)):=by
 have:=Zbo b
 show some (AV.int .i64 (IntKind.i64.wrap (dg b)))=_
 rw [Zai (by omega) (by omega)]
def fr:Nat→List UInt8→Int→Int
 | 0,_,d=>d
 | k+1,[],d=>fr k [] (d * 10)
 | k+1,b :: l,d=>fr k l (d * 10+dg b)
theorem ZwK (k:Nat) (d:Int):fr (k+1) [] d=fr k [] (d * 10):=(Eq.refl _).trans (Eq.refl _)
theorem ZsN (k:Nat) (b:UInt8) (l:List UInt8) (d:Int):fr (k+1) (b :: l) d=fr k l (d * 10+dg b):=(Eq.refl _).trans (Eq.refl _)
theorem ZF7 (s : List UInt8) (hs : s.length ≤ 1048576) (H0 H : Hp) : ∀ (k i : Nat) (d p : Int), i + k = 4 → 0 ≤ d → d + 1000 ≤ 2000000000 * p → p * 10 ^ k ≤ 10000 →
    ZcX (.str s) (.int .i64 d) (.int .i64 (i:Int)) H0 H=some (.int .i64 (fr k (s.drop i) d),H):=by
 intro k
 induction k with
 | zero =>
  intro i d p hik h0 h1 h2
  rw [Zga]
  have hlt:decide ((i:Int) < 4)=false:=by simp;omega
  simp only [go_sem,hlt,Znx,fr]
 | succ k ih =>
  intro i d p hik h0 h1 h2
  rw [Zga]
  have hlt:decide ((i:Int) < 4)=true:=by simp;omega
  have hwi:IntKind.i64.wrap ((i:Int)+1)=((i+1:Nat):Int):=by rw [Zai (by omega) (by omega)];omega
  have h2':p * 10 * 10 ^ k≤10000:=by rw [Int.mul_assoc,show (10:Int) * 10 ^ k=10 ^ (k+1) by rw [Int.pow_succ,Int.mul_comm]];exact h2
  have hpk:(1:Int)≤10 ^ k:=Int.add_one_le_iff.2 (Int.pow_pos (by decide))
  have hp:p * 10≤10000:=by
   by_cases hp0:0≤p
   ·have:=Int.mul_le_mul_of_nonneg_left hpk (show 0≤p * 10 by omega)
    omega
   ·omega
  have hwd:IntKind.i64.wrap (d * 10)=d * 10:=Zai (by omega) (by omega)
  simp only [go_sem,hlt,Zny,hwd,Zat]
  by_cases hi:i < s.length
  ·have hb:=Zbo s[i]
   have hlti:decide ((i:Int) < (s.length:Int))=true:=by simp;omega
   have hwd2:IntKind.i64.wrap (d * 10+dg s[i])=d * 10+dg s[i]:=Zai (by omega) (by omega)
   simp only [hlti,go_sem,Zax (List.getElem?_eq_getElem hi),ZzC,hwd2,Zg9,hwi]
   rw [ih (i+1) _ (p * 10) (by omega) (by omega) (by omega) h2',ZaT hi,ZsN]
  ·have hlti:decide ((i:Int) < (s.length:Int))=false:=by simp;omega
   have hd:s.drop i=[]:=List.drop_eq_nil_iff.2 (by omega)
   have hd1:s.drop (i+1)=[]:=List.drop_eq_nil_iff.2 (by omega)
   simp only [hlti,go_sem,Zg9,hwi]
   rw [ih (i+1) _ (p * 10) (by omega) (by omega) (by omega) h2',hd,hd1,ZwK]
theorem ZF6 (s:List UInt8) (hs:s.length≤1048576) (H:Hp):Za5 ZeR [.str s] H=some (.int .i64 (fr 4 s 0),H):=by
 refine Zcn (a':=.str s) (H1:=[]) rfl ?_ rfl
 rw [ZnM]
 have:=ZF7 s hs [] [] 4 0 0 1 rfl (by omega) (by omega) (by decide)
 rw [show ((0:Nat):Int)=0 from rfl,List.drop_zero] at this
 exact this
theorem ZDQ (s : List UInt8) (hs : s.length ≤ 1048576) (H0 H : Hp) : ∀ (k i : Nat) (d p : Int), i + k = 4 → 0 ≤ d → d + 1000 ≤ 2000000000 * p → p * 10 ^ k ≤ 10000 →
    Zgv (.str s) (.int .i64 d) (.int .i64 (i:Int)) H0 H=some (.tuple [.int .i64 (fr k (s.drop i) d),.bool (decide (fr k (s.drop i) d≤10000000000000))],H):=by
 intro k
 induction k with
 | zero =>
  intro i d p hik h0 h1 h2
  rw [Zlj]
  have hlt:decide ((i:Int) < 4)=false:=by simp;omega
  simp only [go_sem,hlt,Zuw,fr]
  rfl
 | succ k ih =>
  intro i d p hik h0 h1 h2
  rw [Zlj]
  have hlt:decide ((i:Int) < 4)=true:=by simp;omega
  have hwi:IntKind.i64.wrap ((i:Int)+1)=((i+1:Nat):Int):=by rw [Zai (by omega) (by omega)];omega
  have h2':p * 10 * 10 ^ k≤10000:=by rw [Int.mul_assoc,show (10:Int) * 10 ^ k=10 ^ (k+1) by rw [Int.pow_succ,Int.mul_comm]];exact h2
  have hpk:(1:Int)≤10 ^ k:=Int.add_one_le_iff.2 (Int.pow_pos (by decide))
  have hp:p * 10≤10000:=by
   by_cases hp0:0≤p
   ·have:=Int.mul_le_mul_of_nonneg_left hpk (show 0≤p * 10 by omega)
    omega
   ·omega
  have hwd:IntKind.i64.wrap (d * 10)=d * 10:=Zai (by omega) (by omega)
  simp only [go_sem,hlt,Zux,hwd,Zat]
  by_cases hi:i < s.length
  ·have hb:=Zbo s[i]
   have hlti:decide ((i:Int) < (s.length:Int))=true:=by simp;omega
   have hwd2:IntKind.i64.wrap (d * 10+dg s[i])=d * 10+dg s[i]:=Zai (by omega) (by omega)
   simp only [hlti,go_sem,Zax (List.getElem?_eq_getElem hi),ZzC,hwd2,Zli,hwi]
   rw [ih (i+1) _ (p * 10) (by omega) (by omega) (by omega) h2',ZaT hi,ZsN]
  ·have hlti:decide ((i:Int) < (s.length:Int))=false:=by simp;omega
   have hd:s.drop i=[]:=List.drop_eq_nil_iff.2 (by omega)
   have hd1:s.drop (i+1)=[]:=List.drop_eq_nil_iff.2 (by omega)
   simp only [hlti,go_sem,Zli,hwi]
   rw [ih (i+1) _ (p * 10) (by omega) (by omega) (by omega) h2',hd,hd1,ZwK]
def valW:List UInt8→Int→Option Int
 | [],d=>some d
 | b :: l,d=>if 1000000000 < d * 10+dg b then none else valW l (d * 10+dg b)
theorem ZsB (b:UInt8) (l:List UInt8) (d:Int):valW (b :: l) d=if 1000000000 < d * 10+dg b then none else valW l (d * 10+dg b):=(Eq.refl _).trans (Eq.refl _)
theorem ZGX:∀ (k:Nat) (l:List UInt8) (d:Int),fr k l d=d * 10 ^ k+fr k l 0:=by
 intro k
 induction k with
 | zero=>intro l d;simp [fr]
 | succ k ih =>
  intro l d
  cases l with
  | nil=>rw [ZwK,ZwK,ih,ih _ (0 * 10),Int.pow_succ];simp only [Int.zero_mul,Int.zero_add];rw [Int.mul_assoc,Int.mul_comm 10]
  | cons b l=>rw [ZsN,ZsN,ih,ih _ (0 * 10+dg b),Int.pow_succ,Int.add_mul];simp only [Int.zero_mul,Int.zero_add];rw [Int.mul_assoc,Int.mul_comm 10];omega
theorem Zyq (l:List UInt8):0≤fr 4 l 0∧fr 4 l 0≤1000000:=by
 match l with
 | []=>simp [fr]
 | [a]=>have:=Zbo a;simp [fr];omega
 | [a,b]=>have:=Zbo a;have:=Zbo b;simp [fr];omega
 | [a,b,c]=>have:=Zbo a;have:=Zbo b;have:=Zbo c;simp [fr];omega
 | a :: b :: c :: d :: l=>have:=Zbo a;have:=Zbo b;have:=Zbo c;have:=Zbo d;simp [fr];omega
theorem ZGW (l:List UInt8):fr 4 (l.take 4) 0=fr 4 l 0:=by
 match l with
 | []=>rfl
 | [a]=>rfl
 | [a,b]=>rfl
 | [a,b,c]=>rfl
 | a :: b :: c :: d :: l=>rfl
def numS (w f:List UInt8):Option Int:=match valW w 0 with
 | none=>none
 | some d=>some (d * 10000+fr 4 f 0)
def valS (w f:List UInt8):Int:=match numS w f with
 | none=>10000000000001
 | some n=>min 10000000000001 n
theorem ZE8 (s f : List UInt8) (hs : s.length ≤ 1048576) (hf : f.length ≤ 1048576) (H0 H : Hp) : ∀ (r done : List UInt8) (d : Int), s = done ++ r → 0 ≤ d → d ≤ 1000000000 →
    ZdY (.str s) (.str f) (.int .i64 d) (.int .i64 (s.length:Int)) (.int .i64 (done.length:Int)) H0 H=some (.int .i64 (match valW r d with
     | none=>10000000000001
     | some n=>min 10000000000001 (n * 10000+fr 4 f 0)),H):=by
 intro r
 induction r with
 | nil =>
  intro done d hd h0 h1
  rw [List.append_nil] at hd
  subst hd
  rw [Zil]
  have hlt:decide ((s.length:Int) < (s.length:Int))=false:=by simp
  have hfr:=Zyq f
  have hw1:IntKind.i64.wrap (d * 10000)=d * 10000:=Zai (by omega) (by omega)
  have hw2:IntKind.i64.wrap (d * 10000+fr 4 f 0)=d * 10000+fr 4 f 0:=Zai (by omega) (by omega)
  simp only [go_sem,hlt,Zqm,hw1,ZF6 f hf,hw2,valW]
 | cons b r ih =>
  intro done d hd h0 h1
  have hlen:s.length=done.length+(r.length+1):=by rw [hd];simp
  have hlt:decide ((done.length:Int) < (s.length:Int))=true:=by simp;omega
  have hwi:IntKind.i64.wrap ((done.length:Int)+1)=((done.length+1:Nat):Int):=by rw [Zai (by omega) (by omega)];omega
  have hb:=Zbo b
  have hw1:IntKind.i64.wrap (10 * d)=d * 10:=by rw [Zai (by omega) (by omega)];omega
  have hw2:IntKind.i64.wrap (d * 10+dg b)=d * 10+dg b:=Zai (by omega) (by omega)
  rw [Zil,ZsB]
  simp only [go_sem,hlt,Zqn,hw1,ZiG hd,ZzC,hw2]
  by_cases hg:1000000000 < d * 10+dg b
  ·simp only [decide_eq_true hg,go_sem,if_pos hg]
  ·have:=ih (done++[b]) (d * 10+dg b) (by rw [hd];simp) (by omega) (by omega)
   rw [List.length_append,List.length_singleton] at this
   simp only [decide_eq_false hg,go_sem,if_neg hg,Zqo,hwi,this]
theorem ZE7 (s f:List UInt8) (hs:s.length≤1048576) (hf:f.length≤1048576) (H:Hp):Za5 Zhc [.str s,.str f] H=some (.int .i64 (valS s f),H):=by
 refine Zdf (a':=.str s) (b':=.str f) (H1:=[]) rfl rfl ?_ rfl
 rw [Zr2]
 unfold Zms
 have:=ZE8 s f hs hf [] [] s [] 0 rfl (by omega) (by omega)
 rw [List.length_nil,show ((0:Nat):Int)=0 from rfl] at this
 simp only [go_sem,this]
 unfold valS numS
 cases valW s 0 <;> rfl
theorem ZAJ (s f : List UInt8) (hs : s.length ≤ 1048576) (hf : f.length ≤ 1048576) (H0 H : Hp) : ∀ (r done : List UInt8) (d : Int), s = done ++ r → 0 ≤ d → d ≤ 1000000000 →
    Zgw (.str s) (.str f) (.int .i64 d) (.int .i64 (done.length:Int)) H0 H=some (match valW r d with
     | none=>.tuple [.int .i64 0,.bool false]
     | some n=>.tuple [.int .i64 (n * 10000+fr 4 f 0),.bool (decide (n * 10000+fr 4 f 0≤10000000000000))],H):=by
 intro r
 induction r with
 | nil =>
  intro done d hd h0 h1
  rw [List.append_nil] at hd
  subst hd
  rw [Zlk]
  have hlt:decide ((s.length:Int) < (s.length:Int))=false:=by simp
  have:=ZDQ f hf H0 H 4 0 d 1 rfl h0 (by omega) (by decide)
  rw [show ((0:Nat):Int)=0 from rfl,List.drop_zero,ZGX 4 f d] at this
  simp only [go_sem,hlt,Zuv,this,valW]
  rfl
 | cons b r ih =>
  intro done d hd h0 h1
  have hlen:s.length=done.length+(r.length+1):=by rw [hd];simp
  have hlt:decide ((done.length:Int) < (s.length:Int))=true:=by simp;omega
  have hwi:IntKind.i64.wrap ((done.length:Int)+1)=((done.length+1:Nat):Int):=by rw [Zai (by omega) (by omega)];omega
  have hb:=Zbo b
  have hw1:IntKind.i64.wrap (d * 10)=d * 10:=Zai (by omega) (by omega)
  have hw2:IntKind.i64.wrap (d * 10+dg b)=d * 10+dg b:=Zai (by omega) (by omega)
  rw [Zlk,ZsB]
  simp only [go_sem,hlt,Zuy,hw1,ZiG hd,ZzC,hw2]
  by_cases hg:1000000000 < d * 10+dg b
  ·simp only [decide_eq_true hg,go_sem,if_pos hg]
  ·have:=ih (done++[b]) (d * 10+dg b) (by rw [hd];simp) (by omega) (by omega)
   rw [List.length_append,List.length_singleton] at this
   simp only [decide_eq_false hg,go_sem,if_neg hg,Zuz,hwi,this]
theorem ZAI (s f : List UInt8) (hs : s.length ≤ 1048576) (hf : f.length ≤ 1048576) (H : Hp) : Za5 Zl4 [.str s, .str f] H = some (match numS s f with
      | none=>.tuple [.int .i64 0,.bool false]
      | some n=>.tuple [.int .i64 n,.bool (decide (n≤10000000000000))],H):=by
 have:=ZAJ s f hs hf [] [] s [] 0 rfl (by omega) (by omega)
 rw [List.length_nil,show ((0:Nat):Int)=0 from rfl] at this
 unfold numS
 cases h:valW s 0 with
 | none =>
  rw [h] at this
  refine Zdf (a':=.str s) (b':=.str f) (H1:=[]) rfl rfl ?_ rfl
  rw [Zmr]
  exact this
 | some n =>
  rw [h] at this
  refine Zdf (a':=.str s) (b':=.str f) (H1:=[]) rfl rfl ?_ rfl
  rw [Zmr]
  exact this
end Go.Am
namespace Go.Am
set_option linter.unusedSimpArgs false
set_option linter.unusedVariables false
set_option maxRecDepth 100000

def finV (neg:Bool) (n:Nat) (w f:List UInt8):Int :=
 if n=0∧f=[] then 0 else if neg then -(min 10000000000000 (valS w f)) else min 10000000000000 (valS w f)
def preV (neg:Bool) (r:List UInt8):Int :=
 match r.drop (Za9 r) with
 | []=>finV neg (Za9 r) (r.take (Za9 r)) []
 | b :: q=>if (((b.toNat:Int) == 46) && (decide (0 < Za9 r) || decide (0 < Za9 q)))=true then finV neg (Za9 r) (r.take (Za9 r)) (q.take (Za9 q)) else finV neg (Za9 r) (r.take (Za9 r)) []
theorem ZAu {neg:Bool} {r:List UInt8} (h:r.drop (Za9 r)=[]):preV neg r=finV neg (Za9 r) (r.take (Za9 r)) []:=by unfold preV;rw [h]
theorem ZyI {neg:Bool} {r:List UInt8} {b:UInt8} {q:List UInt8} (h:r.drop (Za9 r)=b :: q):preV neg r=if (((b.toNat:Int) == 46) && (decide (0 < Za9 r) || decide (0 < Za9 q)))=true then finV neg (Za9 r) (r.take (Za9 r)) (q.take (Za9 q)) else finV neg (Za9 r) (r.take (Za9 r)) []:=by unfold preV;rw [h]
theorem ZE6:∀ (l:List UInt8) (d n:Int),0≤d→d≤1000000000→valW l d=some n→0≤n∧n≤1000000000:=by
 intro l
 induction l with
 | nil=>intro d n h0 h1 h;injection h with h;subst h;exact ⟨h0,h1⟩
 | cons b l ih =>
  intro d n h0 h1 h
  rw [ZsB] at h
  have:=Zbo b
  split at h
  ·cases h
  ·exact ih _ n (by omega) (by omega) h
theorem ZwY {w f:List UInt8} {n:Int} (h:numS w f=some n):0≤n∧n≤10000001000000:=by
 unfold numS at h
 split at h
 ·cases h
 ·rename_i d hd
  injection h with h
  have:=ZE6 w 0 d (by omega) (by omega) hd
  have:=Zyq f
  omega
theorem Zxl (w f:List UInt8):0≤valS w f∧valS w f≤10000000000001:=by
 unfold valS
 split
 ·omega
 ·rename_i n h
  have:=ZwY h
  omega
theorem Zzt (x y:AV):aext (.tuple [x,y]) 0=some x:=rfl
theorem Zzu (x y:AV):aext (.tuple [x,y]) 1=some y:=rfl
theorem Zoc (n:Int):aun .neg (.int .i64 n)=some (.int .i64 (IntKind.i64.wrap (0 - n))):=(Eq.refl _).trans (Eq.refl _)
theorem Zx4 (neg : Bool) (n : Nat) (w f : List UInt8) (hw : w.length ≤ 1048576) (hf : f.length ≤ 1048576) (e : Int) (H0 H : Hp) :
    ∃ e',Zc1 (.bool neg) (.int .i64 (n:Int)) (.str w) (.str f) (.int .i64 e) H0 H=some (.tuple [.int .i64 (finV neg n w f),.int .i64 e'],H):=by
 have hv:=Zxl w f
 have hmin:ZeI (.int .i64 10000000000000) (.int .i64 (valS w f))=some (.int .i64 (min 10000000000000 (valS w f))):=by
  unfold ZeI
  simp only [if_true]
  congr 2
  split <;> omega
 have hneg:IntKind.i64.wrap (0 - min 10000000000000 (valS w f))=-(min 10000000000000 (valS w f)):=by rw [Zai (by omega) (by omega)];omega
 have hJ4:ZfV (.bool neg) (.str w) (.str f) (.int .i64 e) H0 H=some (.tuple [.int .i64 (if neg then -(min 10000000000000 (valS w f)) else min 10000000000000 (valS w f)),.int .i64 e],H):=by
  rw [Zp6]
  simp only [go_sem,ZE7 w f hw hf,hmin]
  cases neg with
  | true=>simp only [go_sem,Zoc,hneg,ZhS,if_true]
  | false=>simp only [go_sem,ZhS,Bool.false_eq_true,if_false]
 have hs:sbin .eql (.str f) (.str [])=some (.bool (f == [])):=rfl
 rw [Zp5]
 unfold finV
 cases n with
 | zero =>
  cases f with
  | nil=>exact ⟨0,by simp [go_sem,sbin];rfl⟩
  | cons b f =>
   have hs:sbin .eql (.str (b :: f)) (.str [])=some (.bool false):=rfl
   refine ⟨e,?_⟩
   simp [go_sem,hs,hJ4]
 | succ n =>
  refine ⟨e,?_⟩
  have h0:(((n+1:Nat):Int) == 0)=false:=by
   rw [beq_eq_false_iff_ne];omega
  simp only [go_sem,h0,hJ4]
  simp
theorem Zva {s:List UInt8} {i:Nat} (h:i≤s.length):ZaE (.str s) (some (.int .i64 (i:Int))) none none=some (.str (s.drop i)):=by
 rw [Zwl .i64 (by omega) (by omega)];simp
theorem Zx3 (s : List UInt8) (hs : s.length ≤ 1048576) (neg : Bool) {i : Nat} (hi : i ≤ s.length) (H0 H : Hp) :
    ∃ e,Zdz (.str s) (.int .i64 (i:Int)) (.bool neg) H0 H=some (.tuple [.int .i64 (preV neg (s.drop i)),.int .i64 e],H):=by
 have hr:(s.drop i).length=s.length - i:=List.length_drop
 have hn:=Zpx (s.drop i)
 have hwn:IntKind.i64.wrap ((i:Int)+(Za9 (s.drop i):Int))=((i+Za9 (s.drop i):Nat):Int):=by rw [Zai (by omega) (by omega)];omega
 have htk:(s.take (i+Za9 (s.drop i))).drop i=(s.drop i).take (Za9 (s.drop i)):=by rw [List.drop_take];congr 1;omega
 rw [Zp4]
 simp only [go_sem,Zva hi,Zu2 _ (show (s.drop i).length≤1048576 by omega),hwn,Zdw (show i≤i+Za9 (s.drop i) by omega) (show i+Za9 (s.drop i)≤s.length by omega),htk,Zat]
 have htl:((s.drop i).take (Za9 (s.drop i))).length≤1048576:=by rw [List.length_take];omega
 by_cases hlt:i+Za9 (s.drop i) < s.length
 ·have c1:decide (((i+Za9 (s.drop i):Nat):Int) < (s.length:Int))=true:=by simp;omega
  have hd:(s.drop i).drop (Za9 (s.drop i))=s[i+Za9 (s.drop i)] :: s.drop (i+Za9 (s.drop i)+1):=by
   rw [List.drop_drop,ZaT hlt]
  have hw1:IntKind.i64.wrap (((i+Za9 (s.drop i):Nat):Int)+1)=((i+Za9 (s.drop i)+1:Nat):Int):=by rw [Zai (by omega) (by omega)];omega
  have hq:(s.drop (i+Za9 (s.drop i)+1)).length=s.length - (i+Za9 (s.drop i)+1):=List.length_drop
  have hk:=Zpx (s.drop (i+Za9 (s.drop i)+1))
  rw [ZyI hd]
  simp only [c1,go_sem,Zax (List.getElem?_eq_getElem hlt)]
  cases h46:((s[i+Za9 (s.drop i)].toNat:Int) == 46) with
  | false =>
   simp only [go_sem,Bool.false_and,Bool.false_eq_true,if_false]
   exact Zx4 neg _ _ _ htl (by simp) _ H0 H
  | true =>
   have hw2:IntKind.i64.wrap (((i+Za9 (s.drop i)+1:Nat):Int)+(Za9 (s.drop (i+Za9 (s.drop i)+1)):Int))=((i+Za9 (s.drop i)+1+Za9 (s.drop (i+Za9 (s.drop i)+1)):Nat):Int):=by rw [Zai (by omega) (by omega)];omega
   have hw3:IntKind.i64.wrap ((1:Int)+(Za9 (s.drop (i+Za9 (s.drop i)+1)):Int))=((1+Za9 (s.drop (i+Za9 (s.drop i)+1)):Nat):Int):=by rw [Zai (by omega) (by omega)];omega
   have htq:(s.take (i+Za9 (s.drop i)+1+Za9 (s.drop (i+Za9 (s.drop i)+1)))).drop (i+Za9 (s.drop i)+1)=(s.drop (i+Za9 (s.drop i)+1)).take (Za9 (s.drop (i+Za9 (s.drop i)+1))):=by rw [List.drop_take];congr 1;omega
   have hfl:((s.drop (i+Za9 (s.drop i)+1)).take (Za9 (s.drop (i+Za9 (s.drop i)+1)))).length≤1048576:=by rw [List.length_take];omega
   have hpos:∀ n:Nat,decide ((0:Int) < (n:Int))=decide (0 < n):=fun n=>by simp
   simp only [go_sem,hw1,Zva (show i+Za9 (s.drop i)+1≤s.length by omega),Zu2 _ (show (s.drop (i+Za9 (s.drop i)+1)).length≤1048576 by omega),hpos,Bool.true_and]
   have hfin:∃ e,(bnd (ibin .add (.int .i64 ((i+Za9 (s.drop i):Nat):Int)) (.int .i64 1)) fun t91_34 =>
    bnd (ibin .add (.int .i64 ((i+Za9 (s.drop i):Nat):Int)) (.int .i64 1)) fun t93_35 =>
    bnd (ibin .add t93_35 (.int .i64 (Za9 (s.drop (i+Za9 (s.drop i)+1)):Int))) fun t95_36 =>
    bnd (ZaE (.str s) (some t91_34) (some t95_36) none) fun t96_37 =>
    bnd (ibin .add (.int .i64 1) (.int .i64 (Za9 (s.drop (i+Za9 (s.drop i)+1)):Int))) fun t99_38 =>
    bnd (ibin .add (.int .i64 ((i+Za9 (s.drop i):Nat):Int)) t99_38) fun t100_39 =>
    Zc1 (.bool neg) (.int .i64 (Za9 (s.drop i):Int)) (.str ((s.drop i).take (Za9 (s.drop i)))) t96_37 t100_39 H0 H)=some (.tuple [.int .i64 (finV neg (Za9 (s.drop i)) ((s.drop i).take (Za9 (s.drop i))) ((s.drop (i+Za9 (s.drop i)+1)).take (Za9 (s.drop (i+Za9 (s.drop i)+1))))),.int .i64 e],H):=by
    simp only [go_sem,hw1,hw2,hw3,Zdw (show i+Za9 (s.drop i)+1≤i+Za9 (s.drop i)+1+Za9 (s.drop (i+Za9 (s.drop i)+1)) by omega) (show i+Za9 (s.drop i)+1+Za9 (s.drop (i+Za9 (s.drop i)+1))≤s.length by omega),htq]
    exact Zx4 neg _ _ _ htl hfl _ H0 H
   simp only [go_sem,hw1,hw2,hw3,Zdw (show i+Za9 (s.drop i)+1≤i+Za9 (s.drop i)+1+Za9 (s.drop (i+Za9 (s.drop i)+1)) by omega) (show i+Za9 (s.drop i)+1+Za9 (s.drop (i+Za9 (s.drop i)+1))≤s.length by omega),htq] at hfin
   cases hn0:decide (0 < Za9 (s.drop i)) with
   | true =>
    simp only [go_sem,Bool.true_or,if_true,hw1,hw2,hw3,Zdw (show i+Za9 (s.drop i)+1≤i+Za9 (s.drop i)+1+Za9 (s.drop (i+Za9 (s.drop i)+1)) by omega) (show i+Za9 (s.drop i)+1+Za9 (s.drop (i+Za9 (s.drop i)+1))≤s.length by omega),htq]
    exact hfin
   | false =>
    cases hk0:decide (0 < Za9 (s.drop (i+Za9 (s.drop i)+1))) with
    | true =>
     simp only [go_sem,hpos,hk0,Bool.or_true,if_true,hw1,hw2,hw3,Zdw (show i+Za9 (s.drop i)+1≤i+Za9 (s.drop i)+1+Za9 (s.drop (i+Za9 (s.drop i)+1)) by omega) (show i+Za9 (s.drop i)+1+Za9 (s.drop (i+Za9 (s.drop i)+1))≤s.length by omega),htq]
     exact hfin
    | false =>
     simp only [go_sem,hpos,hk0,Bool.or_false,Bool.false_eq_true,if_false]
     exact Zx4 neg _ _ _ htl (by simp) _ H0 H
 ·have c1:decide (((i+Za9 (s.drop i):Nat):Int) < (s.length:Int))=false:=by simp;omega
  have hd:(s.drop i).drop (Za9 (s.drop i))=[]:=List.drop_eq_nil_iff.2 (by omega)
  rw [ZAu hd]
  simp only [c1,go_sem]
  exact Zx4 neg _ _ _ htl (by simp) _ H0 H

def preG:List UInt8→Int
 | []=>preV false []
 | b :: r=>if (((b.toNat:Int) == 45) || ((b.toNat:Int) == 43))=true then preV ((b.toNat:Int) == 45) r else preV ((b.toNat:Int) == 45) (b :: r)
theorem ZyH (b:UInt8) (r:List UInt8):preG (b :: r)=if (((b.toNat:Int) == 45) || ((b.toNat:Int) == 43))=true then preV ((b.toNat:Int) == 45) r else preV ((b.toNat:Int) == 45) (b :: r):=(Eq.refl _).trans (Eq.refl _)
def preS (s:List UInt8):Int:=preG (s.drop (ZaG s))

theorem ZFA (s : List UInt8) (hs : s.length ≤ 1048576) {i : Nat} (hi : i ≤ s.length) (H0 H : Hp) :
    ∃ e,ZfU (.str s) (.int .i64 (i:Int)) H0 H=some (.tuple [.int .i64 (preG (s.drop i)),.int .i64 e],H):=by
 rw [Zp3]
 by_cases hlt:i < s.length
 ·have c1:decide ((i:Int) < (s.length:Int))=true:=by simp;omega
  have hw1:IntKind.i64.wrap ((i:Int)+1)=((i+1:Nat):Int):=by rw [Zai (by omega) (by omega)];omega
  have hix:=Zax (List.getElem?_eq_getElem hlt)
  rw [ZaT hlt]
  simp only [Zat,go_sem,c1,hix,ZyH]
  cases h45:((s[i].toNat:Int) == 45) with
  | true =>
   simp only [go_sem,c1,hix,hw1,Bool.true_or,if_true]
   exact Zx3 s hs true (by omega) H0 H
  | false =>
   simp only [go_sem,Zat,c1,hix]
   cases h43:((s[i].toNat:Int) == 43) with
   | true =>
    simp only [go_sem,c1,hix,hw1,Bool.or_true,if_true]
    exact Zx3 s hs false (by omega) H0 H
   | false =>
    simp only [go_sem,Bool.or_false,Bool.or_self,Bool.false_eq_true,if_false]
    rw [← ZaT hlt]
    exact Zx3 s hs false (by omega) H0 H
 ·have c1:decide ((i:Int) < (s.length:Int))=false:=by simp;omega
  have hd:s.drop i=[]:=List.drop_eq_nil_iff.2 (by omega)
  simp only [Zat,go_sem,c1,hd]
  have:=Zx3 s hs false hi H0 H
  rw [hd] at this
  exact this
theorem ZJF (s : List UInt8) (hs : s.length ≤ 1048576) (H0 H : Hp) : ∀ (k i : Nat), s.length - i = k → i ≤ s.length →
    ∃ e,ZdA (.str s) (.int .i64 (i:Int)) H0 H=some (.tuple [.int .i64 (preG ((s.drop i).drop (ZaG (s.drop i)))),.int .i64 e],H):=by
 intro k
 induction k with
 | zero =>
  intro i hk hi
  have hlt:decide ((i:Int) < (s.length:Int))=false:=by simp;omega
  have hd:s.drop i=[]:=List.drop_eq_nil_iff.2 (by omega)
  rw [ZhU]
  simp only [Zat,go_sem,hlt]
  have:=ZFA s hs hi H0 H
  rw [hd] at this ⊢
  exact this
 | succ k ih =>
  intro i hk hi
  have hl:i < s.length:=by omega
  have hlt:decide ((i:Int) < (s.length:Int))=true:=by simp;omega
  have hw1:IntKind.i64.wrap ((i:Int)+1)=((i+1:Nat):Int):=by rw [Zai (by omega) (by omega)];omega
  have hix:=Zax (List.getElem?_eq_getElem hl)
  have ih':=ih (i+1) (by omega) (by omega)
  have hnext:isBl s[i]=true→(s.drop i).drop (ZaG (s.drop i))=(s.drop (i+1)).drop (ZaG (s.drop (i+1))):=fun h=>by
   rw [ZaT hl,ZbX,h,if_pos rfl,List.drop_succ_cons]
  have hstop:isBl s[i]=false→(s.drop i).drop (ZaG (s.drop i))=s.drop i:=fun h=>by
   rw [ZaT hl,ZbX,h];simp
  have hb:isBl s[i]=(((s[i].toNat:Int) == 32) || ((s[i].toNat:Int) == 9)):=by
   rw [isBl,(ZdQ s[i]).1,(ZdQ s[i]).2]
  rw [ZhU]
  simp only [Zat,go_sem,hlt,hix]
  cases h32:((s[i].toNat:Int) == 32) with
  | true =>
   simp only [go_sem,ZhT,hw1]
   rw [hnext (by rw [hb,h32];rfl)]
   exact ih'
  | false =>
   simp only [go_sem,hix]
   cases h9:((s[i].toNat:Int) == 9) with
   | true =>
    simp only [go_sem,ZhT,hw1]
    rw [hnext (by rw [hb,h32,h9];rfl)]
    exact ih'
   | false =>
    simp only [go_sem]
    rw [hstop (by rw [hb,h32,h9];rfl)]
    exact ZFA s hs hi H0 H

theorem ZAv (s:List UInt8) (hs:s.length≤1048576) (H:Hp):∃ e,Za5 ZdS [.str s] H=some (.tuple [.int .i64 (preS s),.int .i64 e],H):=by
 obtain ⟨e,h⟩:=ZJF s hs [] [] _ 0 rfl (Nat.zero_le _)
 rw [show ((0:Nat):Int)=0 from rfl,List.drop_zero] at h
 refine ⟨e,Zcn (a':=.str s) (H1:=[]) rfl ?_ rfl⟩
 rw [Zqf]
 exact h

theorem ZsW (s : List UInt8) (hs : s.length ≤ 1048576) (neg : Bool) {i n : Nat} (hn : i + n ≤ s.length) (f : List UInt8) (hf : f.length ≤ 1048576) (e : Int) (he : e = (i : Int) ↔ n = 0 ∧ f = []) (H0 H : Hp) :
    ∃ e',Zem (.str s) (.int .i64 (i:Int)) (.bool neg) (.int .i64 ((i+n:Nat):Int)) (.int .i64 e) (.str f) H0 H=some (.tuple [.int .i64 (finV neg n ((s.drop i).take n) f),.int .i64 e'],H):=by
 have htk:(s.take (i+n)).drop i=(s.drop i).take n:=by rw [List.drop_take];congr 1;omega
 have hwl:((s.drop i).take n).length≤1048576:=by rw [List.length_take,List.length_drop];omega
 have hv:=Zxl ((s.drop i).take n) f
 have hneg:∀ m:Int,0≤m→m≤10000000000000→IntKind.i64.wrap (0 - m)=-m:=fun m h0 h1=>by rw [Zai (by omega) (by omega)];omega
 have hJ6:∀ m:Int,0≤m→m≤10000000000000→Zgq (.bool neg) (.int .i64 e) (.int .i64 m) H0 H=some (.tuple [.int .i64 (if neg then -m else m),.int .i64 e],H):=fun m h0 h1=>by
  rw [Zut]
  cases neg with
  | true=>simp only [go_sem,Zoc,hneg m h0 h1,Zle,if_true]
  | false=>simp only [go_sem,Zle,Bool.false_eq_true,if_false]
 have hJ5:∀ f':List UInt8,f'.length≤1048576→fr 4 f' 0=fr 4 f 0→Zgp (.str s) (.int .i64 (i:Int)) (.bool neg) (.int .i64 ((i+n:Nat):Int)) (.int .i64 e) (.str f') H0 H=some (.tuple [.int .i64 (if neg then -(min 10000000000000 (valS ((s.drop i).take n) f)) else min 10000000000000 (valS ((s.drop i).take n) f)),.int .i64 e],H):=fun f' h1 h2=>by
  have hnum:numS ((s.drop i).take n) f'=numS ((s.drop i).take n) f:=by unfold numS;rw [h2]
  rw [Zus]
  simp only [go_sem,Zdw (show i≤i+n by omega) hn,htk,ZAI _ f' hwl h1,hnum]
  unfold valS
  cases hN:numS ((s.drop i).take n) f with
  | none =>
   simp only [go_sem,Zzt,Zzu,Bool.not_false]
   exact hJ6 _ (by omega) (by omega)
  | some m =>
   have hm:=ZwY hN
   simp only [go_sem,Zzt,Zzu]
   by_cases hle:m≤10000000000000
   ·simp only [decide_eq_true hle,Bool.not_true,go_sem]
    rw [hJ6 m hm.1 hle,show min 10000000000000 (min 10000000000001 m)=m by omega]
   ·simp only [decide_eq_false hle,Bool.not_false,go_sem]
    rw [hJ6 _ (by omega) (by omega),show min 10000000000000 (min 10000000000001 m)=(10000000000000:Int) by omega]
 have hJ4:ZjN (.str s) (.int .i64 (i:Int)) (.bool neg) (.int .i64 ((i+n:Nat):Int)) (.int .i64 e) (.str f) H0 H=some (.tuple [.int .i64 (if neg then -(min 10000000000000 (valS ((s.drop i).take n) f)) else min 10000000000000 (valS ((s.drop i).take n) f)),.int .i64 e],H):=by
  rw [Zur]
  simp only [go_sem,Zat]
  by_cases h4:4 < f.length
  ·have c:decide ((4:Int) < (f.length:Int))=true:=by simp;omega
   have hsl:ZaE (.str f) none (some (.int .i64 4)) none=some (.str (f.take 4)):=ZCG .i64 (by omega) (by omega)
   simp only [c,go_sem,hsl]
   exact hJ5 _ (by rw [List.length_take];omega) (ZGW f)
  ·have c:decide ((4:Int) < (f.length:Int))=false:=by simp;omega
   simp only [c,go_sem]
   exact hJ5 _ hf rfl
 rw [Zuq]
 unfold finV
 by_cases hz:e=(i:Int)
 ·have c:(e == (i:Int))=true:=by rw [beq_iff_eq];exact hz
  refine ⟨0,?_⟩
  simp only [go_sem,c,if_pos (he.1 hz)]
 ·have c:(e == (i:Int))=false:=by rw [beq_eq_false_iff_ne];exact hz
  refine ⟨e,?_⟩
  simp only [go_sem,c,if_neg (fun h=>hz (he.2 h)),hJ4]
theorem ZsV (s : List UInt8) (hs : s.length ≤ 1048576) (neg : Bool) {i : Nat} (hi : i ≤ s.length) (H0 H : Hp) :
    ∃ e,Zgo (.str s) (.int .i64 (i:Int)) (.bool neg) H0 H=some (.tuple [.int .i64 (preV neg (s.drop i)),.int .i64 e],H):=by
 have hr:(s.drop i).length=s.length - i:=List.length_drop
 have hn:=Zpx (s.drop i)
 have hzero:((i+Za9 (s.drop i):Nat):Int)=(i:Int) ↔ Za9 (s.drop i)=0∧([]:List UInt8)=[]:=⟨fun h=>⟨by omega,rfl⟩,fun h=>by omega⟩
 rw [Zup]
 simp only [go_sem,Zst s hs hi,Zat]
 by_cases hlt:i+Za9 (s.drop i) < s.length
 ·have c1:decide (((i+Za9 (s.drop i):Nat):Int) < (s.length:Int))=true:=by simp;omega
  have hd:(s.drop i).drop (Za9 (s.drop i))=s[i+Za9 (s.drop i)] :: s.drop (i+Za9 (s.drop i)+1):=by
   rw [List.drop_drop,ZaT hlt]
  have hw1:IntKind.i64.wrap (((i+Za9 (s.drop i):Nat):Int)+1)=((i+Za9 (s.drop i)+1:Nat):Int):=by rw [Zai (by omega) (by omega)];omega
  have hq:(s.drop (i+Za9 (s.drop i)+1)).length=s.length - (i+Za9 (s.drop i)+1):=List.length_drop
  have hk:=Zpx (s.drop (i+Za9 (s.drop i)+1))
  rw [ZyI hd]
  simp only [c1,go_sem,Zax (List.getElem?_eq_getElem hlt)]
  cases h46:((s[i+Za9 (s.drop i)].toNat:Int) == 46) with
  | false =>
   simp only [go_sem,Bool.false_and,Bool.false_eq_true,if_false]
   exact ZsW s hs neg (by omega) [] (by simp) _ hzero H0 H
  | true =>
   have htq:(s.take (i+Za9 (s.drop i)+1+Za9 (s.drop (i+Za9 (s.drop i)+1)))).drop (i+Za9 (s.drop i)+1)=(s.drop (i+Za9 (s.drop i)+1)).take (Za9 (s.drop (i+Za9 (s.drop i)+1))):=by rw [List.drop_take];congr 1;omega
   have hfl:((s.drop (i+Za9 (s.drop i)+1)).take (Za9 (s.drop (i+Za9 (s.drop i)+1)))).length≤1048576:=by rw [List.length_take];omega
   have hp1:decide ((i:Int) < ((i+Za9 (s.drop i):Nat):Int))=decide (0 < Za9 (s.drop i)):=by
    rw [decide_eq_decide];omega
   have hp2:decide (((i+Za9 (s.drop i)+1:Nat):Int) < ((i+Za9 (s.drop i)+1+Za9 (s.drop (i+Za9 (s.drop i)+1)):Nat):Int))=decide (0 < Za9 (s.drop (i+Za9 (s.drop i)+1))):=by
    rw [decide_eq_decide];omega
   have hsl:=Zdw (s:=s) (show i+Za9 (s.drop i)+1≤i+Za9 (s.drop i)+1+Za9 (s.drop (i+Za9 (s.drop i)+1)) by omega) (show i+Za9 (s.drop i)+1+Za9 (s.drop (i+Za9 (s.drop i)+1))≤s.length by omega)
   rw [htq] at hsl
   have hlast:=fun he=>ZsW s hs neg (i:=i) (n:=Za9 (s.drop i)) (by omega) ((s.drop (i+Za9 (s.drop i)+1)).take (Za9 (s.drop (i+Za9 (s.drop i)+1)))) hfl ((i+Za9 (s.drop i)+1+Za9 (s.drop (i+Za9 (s.drop i)+1)):Nat):Int) he H0 H
   have he:(decide (0 < Za9 (s.drop i)) || decide (0 < Za9 (s.drop (i+Za9 (s.drop i)+1))))=true→(((i+Za9 (s.drop i)+1+Za9 (s.drop (i+Za9 (s.drop i)+1)):Nat):Int)=(i:Int) ↔ Za9 (s.drop i)=0∧(s.drop (i+Za9 (s.drop i)+1)).take (Za9 (s.drop (i+Za9 (s.drop i)+1)))=[]):=fun hor=>by
    rw [Bool.or_eq_true,decide_eq_true_eq,decide_eq_true_eq] at hor
    constructor
    ·intro h;omega
    ·rintro ⟨h1,h2⟩
     have:=congrArg List.length h2
     rw [List.length_take,List.length_nil] at this
     omega
   simp only [go_sem,hw1,Zst s hs (show i+Za9 (s.drop i)+1≤s.length by omega),hp1,Bool.true_and]
   cases hn0:decide (0 < Za9 (s.drop i)) with
   | true =>
    simp only [go_sem,Bool.true_or,if_true,hw1,hsl]
    exact hlast (he (by rw [hn0];rfl))
   | false =>
    cases hk0:decide (0 < Za9 (s.drop (i+Za9 (s.drop i)+1))) with
    | true =>
     simp only [go_sem,hw1,hp2,hk0,Bool.or_true,if_true,hsl]
     exact hlast (he (by rw [hk0,Bool.or_true]))
    | false =>
     simp only [go_sem,hw1,hp2,hk0,Bool.or_false,Bool.false_eq_true,if_false]
     exact ZsW s hs neg (by omega) [] (by simp) _ hzero H0 H
 ·have c1:decide (((i+Za9 (s.drop i):Nat):Int) < (s.length:Int))=false:=by simp;omega
  have hd:(s.drop i).drop (Za9 (s.drop i))=[]:=List.drop_eq_nil_iff.2 (by omega)
  rw [ZAu hd]
  simp only [c1,go_sem]
  exact ZsW s hs neg (by omega) [] (by simp) _ hzero H0 H

theorem ZCb (s : List UInt8) (hs : s.length ≤ 1048576) {i : Nat} (hi : i ≤ s.length) (H0 H : Hp) :
    ∃ e,ZjM (.str s) (.int .i64 (i:Int)) H0 H=some (.tuple [.int .i64 (preG (s.drop i)),.int .i64 e],H):=by
 rw [Zuo]
 by_cases hlt:i < s.length
 ·have c1:decide ((i:Int) < (s.length:Int))=true:=by simp;omega
  have hw1:IntKind.i64.wrap ((i:Int)+1)=((i+1:Nat):Int):=by rw [Zai (by omega) (by omega)];omega
  have hix:=Zax (List.getElem?_eq_getElem hlt)
  rw [ZaT hlt]
  simp only [Zat,go_sem,c1,hix,ZyH]
  cases h45:((s[i].toNat:Int) == 45) with
  | true =>
   simp only [go_sem,c1,hix,hw1,Bool.true_or,if_true]
   exact ZsV s hs true (by omega) H0 H
  | false =>
   simp only [go_sem,Zat,c1,hix]
   cases h43:((s[i].toNat:Int) == 43) with
   | true =>
    simp only [go_sem,c1,hix,hw1,Bool.or_true,if_true]
    exact ZsV s hs false (by omega) H0 H
   | false =>
    simp only [go_sem,Bool.or_false,Bool.or_self,Bool.false_eq_true,if_false]
    rw [← ZaT hlt]
    exact ZsV s hs false (by omega) H0 H
 ·have c1:decide ((i:Int) < (s.length:Int))=false:=by simp;omega
  have hd:s.drop i=[]:=List.drop_eq_nil_iff.2 (by omega)
  simp only [Zat,go_sem,c1,hd]
  have:=ZsV s hs false hi H0 H
  rw [hd] at this
  exact this
theorem ZIT (s : List UInt8) (hs : s.length ≤ 1048576) (H0 H : Hp) : ∀ (k i : Nat), s.length - i = k → i ≤ s.length →
    ∃ e,Zgr (.str s) (.int .i64 (i:Int)) H0 H=some (.tuple [.int .i64 (preG ((s.drop i).drop (ZaG (s.drop i)))),.int .i64 e],H):=by
 intro k
 induction k with
 | zero =>
  intro i hk hi
  have hlt:decide ((i:Int) < (s.length:Int))=false:=by simp;omega
  have hd:s.drop i=[]:=List.drop_eq_nil_iff.2 (by omega)
  rw [Zlg]
  simp only [Zat,go_sem,hlt]
  have:=ZCb s hs hi H0 H
  rw [hd] at this ⊢
  exact this
 | succ k ih =>
  intro i hk hi
  have hl:i < s.length:=by omega
  have hlt:decide ((i:Int) < (s.length:Int))=true:=by simp;omega
  have hw1:IntKind.i64.wrap ((i:Int)+1)=((i+1:Nat):Int):=by rw [Zai (by omega) (by omega)];omega
  have hix:=Zax (List.getElem?_eq_getElem hl)
  have ih':=ih (i+1) (by omega) (by omega)
  have hnext:isBl s[i]=true→(s.drop i).drop (ZaG (s.drop i))=(s.drop (i+1)).drop (ZaG (s.drop (i+1))):=fun h=>by
   rw [ZaT hl,ZbX,h,if_pos rfl,List.drop_succ_cons]
  have hstop:isBl s[i]=false→(s.drop i).drop (ZaG (s.drop i))=s.drop i:=fun h=>by
   rw [ZaT hl,ZbX,h];simp
  have hb:isBl s[i]=(((s[i].toNat:Int) == 32) || ((s[i].toNat:Int) == 9)):=by
   rw [isBl,(ZdQ s[i]).1,(ZdQ s[i]).2]
  rw [Zlg]
  simp only [Zat,go_sem,hlt,hix]
  cases h32:((s[i].toNat:Int) == 32) with
  | true =>
   simp only [go_sem,Zlf,hw1]
   rw [hnext (by rw [hb,h32];rfl)]
   exact ih'
  | false =>
   simp only [go_sem,hix]
   cases h9:((s[i].toNat:Int) == 9) with
   | true =>
    simp only [go_sem,Zlf,hw1]
    rw [hnext (by rw [hb,h32,h9];rfl)]
    exact ih'
   | false =>
    simp only [go_sem]
    rw [hstop (by rw [hb,h32,h9];rfl)]
    exact ZCb s hs hi H0 H

theorem ZyM (s:List UInt8) (hs:s.length≤1048576) (H:Hp):∃ e,Za5 Zh9 [.str s] H=some (.tuple [.int .i64 (preS s),.int .i64 e],H):=by
 obtain ⟨e,h⟩:=ZIT s hs [] [] _ 0 rfl (Nat.zero_le _)
 rw [show ((0:Nat):Int)=0 from rfl,List.drop_zero] at h
 refine ⟨e,Zcn (a':=.str s) (H1:=[]) rfl ?_ rfl⟩
 rw [Zvd]
 exact h
def sgnS (a b:Int):Int:=if a < b then -1 else if b < a then 1 else 0
theorem ZFU (a b:Int) (H:Hp):Za5 Ziz [.int .i64 a,.int .i64 b] H=some (.int .i64 (sgnS a b),H):=by
 refine Zdf (a':=.int .i64 a) (b':=.int .i64 b) (H1:=[]) rfl rfl ?_ rfl
 rw [Zt2]
 unfold ZnT sgnS
 by_cases h:a < b
 ·simp only [go_sem,decide_eq_true h,if_pos h]
 ·by_cases h2:b < a
  ·simp only [go_sem,decide_eq_false h,if_neg h,decide_eq_true h2,if_pos h2]
  ·simp only [go_sem,decide_eq_false h,if_neg h,decide_eq_false h2,if_neg h2,Zsz]
theorem ZAr (s t:List UInt8) (hs:s.length≤1048576) (ht:t.length≤1048576) (H:Hp):Za5 ZjK [.str s,.str t] H=some (.int .i64 (sgnS (preS s) (preS t)),H):=by
 refine Zdf (a':=.str s) (b':=.str t) (H1:=[]) rfl rfl ?_ rfl
 obtain ⟨e1,h1⟩:=ZyM s hs []
 obtain ⟨e2,h2⟩:=ZyM t ht []
 rw [Zui]
 unfold ZpL sgnS
 simp only [go_sem,h1,h2,Zzt,Zzu]
 by_cases h:preS s < preS t
 ·simp only [go_sem,decide_eq_true h,if_pos h]
 ·by_cases h2:preS t < preS s
  ·simp only [go_sem,decide_eq_false h,if_neg h,decide_eq_true h2,if_pos h2,Zkk]
  ·simp only [go_sem,decide_eq_false h,if_neg h,decide_eq_false h2,if_neg h2,Zkk,Ztk]
end Go.Am
namespace Go.Am
set_option linter.unusedSimpArgs false
set_option linter.unusedVariables false
set_option maxRecDepth 100000

def Zp8 (b:UInt8):Bool:=isBl b || ZFj b.toNat || ZmN b.toNat
def Zcv (s:List UInt8):List UInt8:=s.filter Zp8
theorem ZEK:((List.range 256).all fun n=>(ZlE (ZzE (.bool (isBl (UInt8.ofNat n))) (.int .u8 (n:Int))) == some (Zp8 (UInt8.ofNat n))) && (ZlE (Zx7 (.bool (isBl (UInt8.ofNat n))) (.int .u8 (n:Int))) == some (Zp8 (UInt8.ofNat n))))=true:=by kernel_rfl
theorem ZA6 (b:UInt8):ZzE (.bool (isBl b)) (.int .u8 b.toNat)=some (.bool (Zp8 b))∧Zx7 (.bool (isBl b)) (.int .u8 b.toNat)=some (.bool (Zp8 b)):=by
 have:=ZdP ZEK (ZzH b)
 rw [UInt8.ofNat_toNat,Bool.and_eq_true,beq_iff_eq,beq_iff_eq] at this
 exact ⟨Zg7 this.1,Zg7 this.2⟩
theorem ZGt (acc:List UInt8) (b:UInt8) (h:acc.length≤1048576):byteE.run [.ptr 0 0,.int .u8 b.toNat] [AObj.bld 192 5 acc]=some (.nili,[AObj.bld 192 5 (acc++[b])]):=by
 have hb:=b.toNat_lt
 have h2:acc.length+1≤maxB:=by unfold maxB;omega
 have hby:Zwv [.int .u8 b.toNat]=some fun l=>if l.length+1≤maxB then some (.nili,l++[UInt8.ofNat (b.toNat:Int).toNat]) else none:=by
  simp only [Zwv,if_pos (show (0:Int)≤(b.toNat:Int)∧(b.toNat:Int) < 256 by omega)]
 simp only [byteE,ZHK,bldE,Zoe,hby,List.getElem?_cons_zero,bldF,bldT,bldU,and_self,if_true,if_pos h2,List.set_cons_zero,Int.toNat_natCast,UInt8.ofNat_toNat]
theorem ZE3 (acc:List UInt8):stringE.run [.ptr 0 0] [AObj.bld 192 5 acc]=some (.str acc,[AObj.bld 192 5 acc]):=rfl
theorem ZEM (s : List UInt8) (hs : s.length ≤ 1048576) (H0 : Hp) : ∀ (r done : List UInt8) (acc : List UInt8), s = done ++ r → acc.length ≤ done.length →
    ∃ H',ZeP (.str s) (.ptr 0 0) (.int .i64 (s.length:Int)) (.int .i64 (done.length:Int)) H0 [AObj.bld 192 5 acc]=some (.str (acc++Zcv r),H'):=by
 intro r
 induction r with
 | nil =>
  intro done acc hd ha
  rw [List.append_nil] at hd
  subst hd
  have hlt:decide ((s.length:Int) < (s.length:Int))=false:=by simp
  refine ⟨[AObj.bld 192 5 acc],?_⟩
  rw [ZjI]
  simp only [go_sem,hlt,Zsx,ZE3]
  simp [Zcv]
 | cons b r ih =>
  intro done acc hd ha
  have hlen:s.length=done.length+(r.length+1):=by rw [hd];simp
  have hlt:decide ((done.length:Int) < (s.length:Int))=true:=by simp;omega
  have hw1:IntKind.i64.wrap ((done.length:Int)+1)=((done.length+1:Nat):Int):=by rw [Zai (by omega) (by omega)];omega
  rw [ZjI]
  simp only [go_sem,hlt,Zpy,ZiG hd,ZoV,(ZA6 b).1]
  cases hb:Zp8 b with
  | true =>
   obtain ⟨H',h⟩:=ih (done++[b]) (acc++[b]) (by rw [hd];simp) (by simp;omega)
   rw [List.length_append,List.length_singleton] at h
   refine ⟨H',?_⟩
   simp only [go_sem,ZGt acc b (by omega),ZjH,hw1,h,Zcv,List.filter_cons,hb,if_true,List.append_assoc,List.singleton_append]
  | false =>
   obtain ⟨H',h⟩:=ih (done++[b]) acc (by rw [hd];simp) (by simp;omega)
   rw [List.length_append,List.length_singleton] at h
   refine ⟨H',?_⟩
   simp only [go_sem,ZjH,hw1,h,Zcv,List.filter_cons,hb,Bool.false_eq_true,if_false]
theorem ZEL (s:List UInt8) (hs:s.length≤1048576) (H:Hp):Za5 Ziy [.str s] H=some (.str (Zcv s),H):=by
 obtain ⟨H',h⟩:=ZEM s hs [] s [] [] rfl (Nat.le_refl _)
 rw [List.length_nil,show ((0:Nat):Int)=0 from rfl,List.nil_append] at h
 refine Zcn (a':=.str s) (H1:=H') rfl ?_ rfl
 rw [Zt1]
 unfold ZnS
 simp only [go_sem,List.length_nil,List.nil_append,h]
theorem ZDN (s : List UInt8) (hs : s.length ≤ 1048576) (H0 : Hp) : ∀ (r done : List UInt8) (acc : List UInt8) (x : AV) (H : Hp), s = done ++ r → acc.length ≤ done.length → RowN 0 H 1 x (acc.map by8) →
    ∃ H',Zj3 (.str s) x (.int .i64 (done.length:Int)) H0 H=some (.str (acc++Zcv r),H'):=by
 intro r
 induction r with
 | nil =>
  intro done acc x H hd ha hx
  rw [List.append_nil] at hd
  subst hd
  have hlt:decide ((s.length:Int) < (s.length:Int))=false:=by simp
  refine ⟨H,?_⟩
  rw [Zo5]
  simp only [go_sem,Zat,hlt,ZxK,ZCa hx]
  simp [Zcv]
 | cons b r ih =>
  intro done acc x H hd ha hx
  have hlen:s.length=done.length+(r.length+1):=by rw [hd];simp
  have hlt:decide ((done.length:Int) < (s.length:Int))=true:=by simp;omega
  have hw1:IntKind.i64.wrap ((done.length:Int)+1)=((done.length+1:Nat):Int):=by rw [Zai (by omega) (by omega)];omega
  rw [Zo5]
  simp only [go_sem,Zat,hlt,ZuM,ZiG hd,Zjh,(ZA6 b).2]
  cases hb:Zp8 b with
  | true =>
   obtain ⟨x',H1,q1,q2,_,_,_⟩:=hx.app (Nat.zero_le _) 1 (.vs 1 .clip [by8 b]) [by8 b] (by simp [elems]) (by simp;omega)
   obtain ⟨H',h⟩:=ih (done++[b]) (acc++[b]) x' H1 (by rw [hd];simp) (by simp;omega) (by simpa using q2)
   rw [List.length_append,List.length_singleton] at h
   refine ⟨H',?_⟩
   simp only [go_sem,ZFx,q1,Zo4,hw1,h,Zcv,List.filter_cons,hb,if_true,List.append_assoc,List.singleton_append]
  | false =>
   obtain ⟨H',h⟩:=ih (done++[b]) acc x H (by rw [hd];simp) (by simp;omega) hx
   rw [List.length_append,List.length_singleton] at h
   refine ⟨H',?_⟩
   simp only [go_sem,Zo4,hw1,h,Zcv,List.filter_cons,hb,Bool.false_eq_true,if_false]
theorem ZDM (s:List UInt8) (hs:s.length≤1048576) (H:Hp):Za5 ZoG [.str s] H=some (.str (Zcv s),H):=by
 obtain ⟨H',h⟩:=ZDN s hs [] s [] [] .nils [] rfl (Nat.le_refl _) (RowN.nil _ _ _)
 rw [List.length_nil,show ((0:Nat):Int)=0 from rfl,List.nil_append] at h
 refine Zcn (a':=.str s) (H1:=H') rfl ?_ rfl
 rw [ZyW]
 exact h
theorem ZgM (s:List UInt8):(Zcv s).length≤s.length:=List.length_filter_le _ _

def Zb9 (s:List UInt8):List UInt8:=s.drop (ZaG s)
theorem Zp9 (s:List UInt8):(Zb9 s).length≤s.length:=by unfold Zb9;rw [List.length_drop];omega
theorem Znz (b:UInt8) (s:List UInt8):Zb9 (b :: s)=if isBl b then Zb9 s else b :: s:=by
 unfold Zb9
 rw [ZbX]
 split <;> simp
theorem ZE4 (s:List UInt8):Go.Lib.trimLeftS s [32,9]=Zb9 s:=by
 unfold Go.Lib.trimLeftS
 induction s with
 | nil=>rfl
 | cons b s ih =>
  rw [Znz,List.dropWhile_cons]
  have:([32,9]:List UInt8).contains b=isBl b:=by
   rw [List.contains_cons,List.contains_cons,isBl]
   simp
  rw [this,ih]
theorem ZG2 (s:List UInt8) (H:Hp):Za5 ZfO [.str s] H=some (.str (Zb9 s),H):=by
 refine Zcn (a':=.str s) (H1:=[]) rfl ?_ rfl
 rw [ZoN]
 unfold Zkf
 have:ZsX [.str s,.str [32,9]]=some (.str (Zb9 s)):=by
  unfold ZsX
  dsimp only
  rw [if_pos ⟨by decide,by decide⟩,ZE4]
 simp only [go_sem,sumC,this]
theorem ZJO (L:Loc) (s:List UInt8):(upS L s).length=s.length:=by simp [upS,mapS]
theorem ZF4 {l:List AV} {L:Loc} (h:LocCells l L) (hok:LocOk L) (s:List UInt8) (hs:s.length≤1048576) (H:Hp):Za5 ZfP [.str s,.vp l] H=some (.str (upS L s),H):=by
 obtain ⟨l',h1,x,c,e,rfl,hx,hc,he⟩:=h.close [] 0 2
 have hcl:Za6 [] 0 6 (.vp l)=some (.vp (L.cells x c e)):=by rw [Zbz,h1]
 refine Zdf (a':=.str s) rfl hcl (H1:=[]) ?_ rfl
 rw [ZoO]
 unfold Zkg
 have hu:=Zxj (L:=L) ⟨x,c,e,rfl,hx,hc,he⟩ hok s hs []
 simp only [go_sem,Zbr 6 (L.cells x c e) rfl,hu.1]

def Zbg (L:Loc) (n:Nat) (s:List UInt8):List UInt8 :=
 let s1:=if n.testBit 3 then Zb9 s else s
 let s2:=if n.testBit 4 then Zcv s1 else s1
 if n.testBit 2 then upS L s2 else s2
theorem Zn7 (L:Loc) (n:Nat) (s:List UInt8):(Zbg L n s).length≤s.length:=by
 have h1:=Zp9 s
 have h2:=ZgM s
 have h3:=ZgM (Zb9 s)
 simp only [Zbg]
 split <;> split <;> split <;> (try rw [ZJO]) <;> omega
theorem Zv4:∀ a b:List Int,ordS a b=-1 ∨ ordS a b=0 ∨ ordS a b=1:=by
 intro a
 induction a with
 | nil=>intro b;cases b <;> simp [ordS]
 | cons x a ih =>
  intro b
  cases b with
  | nil=>simp [ordS]
  | cons y b =>
   rw [Zdn]
   split
   ·simp
   ·split
    ·simp
    ·exact ih b
theorem ZGC (a b:List UInt8):cmpB a b=-1 ∨ cmpB a b=0 ∨ cmpB a b=1:=by rw [← ZuW];exact Zv4 _ _
theorem ZoX (L:Loc) (a b:List UInt8):cmpS L a b=-1 ∨ cmpS L a b=0 ∨ cmpS L a b=1:=by
 unfold cmpS
 split
 ·exact Zv4 _ _
 ·exact ZGC _ _
theorem Zv8 (a b:Int):sgnS a b=-1 ∨ sgnS a b=0 ∨ sgnS a b=1:=by
 unfold sgnS
 split
 ·simp
 ·split <;> simp
def Zi7 (L:Loc) (n:Nat) (x y:List UInt8):Int:=if n.testBit 0 then sgnS (preS x) (preS y) else cmpS L (Zbg L n x) (Zbg L n y)
def ZbV (L:Loc) (n:Nat) (x y:List UInt8):Int:=if n.testBit 1 then -Zi7 L n x y else Zi7 L n x y
theorem ZAR {c t:Int} (hc:c=-1 ∨ c=0 ∨ c=1) (ht:t=1 ∨ t=-1):IntKind.i64.wrap (t * c)=if t=-1 then -c else c:=by
 rcases ht with rfl | rfl <;> rcases hc with rfl | rfl | rfl <;> decide
end Go.Am
namespace Go.Am
set_option linter.unusedSimpArgs false
set_option linter.unusedVariables false
set_option maxRecDepth 100000

section
variable {n:Nat} (hn:n < 32)
include hn
theorem has1 (H:Hp):Za5 ZbF [.int .i64 n,.int .i64 1] H=some (.bool (n.testBit 0),H):=Zsb (j:=0) hn (by decide) H
theorem has2 (H:Hp):Za5 ZbF [.int .i64 n,.int .i64 2] H=some (.bool (n.testBit 1),H):=Zsb (j:=1) hn (by decide) H
theorem has4 (H:Hp):Za5 ZbF [.int .i64 n,.int .i64 4] H=some (.bool (n.testBit 2),H):=Zsb (j:=2) hn (by decide) H
theorem has8 (H:Hp):Za5 ZbF [.int .i64 n,.int .i64 8] H=some (.bool (n.testBit 3),H):=Zsb (j:=3) hn (by decide) H
theorem ZHQ (H:Hp):Za5 ZbF [.int .i64 n,.int .i64 16] H=some (.bool (n.testBit 4),H):=Zsb (j:=4) hn (by decide) H
theorem and1:ibin .and (.int .i64 n) (.int .i64 1)=some (.int .i64 (if n.testBit 0 then 1 else 0)):=Zs0 (j:=0) hn (by decide)
theorem and2:ibin .and (.int .i64 n) (.int .i64 2)=some (.int .i64 (if n.testBit 1 then 2 else 0)):=Zs0 (j:=1) hn (by decide)
theorem and4:ibin .and (.int .i64 n) (.int .i64 4)=some (.int .i64 (if n.testBit 2 then 4 else 0)):=Zs0 (j:=2) hn (by decide)
theorem and8:ibin .and (.int .i64 n) (.int .i64 8)=some (.int .i64 (if n.testBit 3 then 8 else 0)):=Zs0 (j:=3) hn (by decide)
theorem ZJS:ibin .and (.int .i64 n) (.int .i64 16)=some (.int .i64 (if n.testBit 4 then 16 else 0)):=Zs0 (j:=4) hn (by decide)
end
theorem ZDi {f:List AV→Hp→Res} {a a' b b' c c' v:AV} {H H1:Hp} (ha:Za6 [] 0 6 a=some a') (hb:Za6 [] 0 6 b=some b') (hd:Za6 [] 0 6 c=some c') (hc:f [a',b',c'] []=some (v,H1)) (hv:Zfm 3 v=true):Za5 f [a,b,c] H=some (v,H) :=
 ZgN (args':=[a',b',c']) (by simp [ha,hb,hd]) hc hv
theorem Zjb {f:List AV→Hp→Res} {a a' b b' c c' d d' v:AV} {H H1:Hp} (ha:Za6 [] 0 6 a=some a') (hb:Za6 [] 0 6 b=some b') (hd:Za6 [] 0 6 c=some c') (he:Za6 [] 0 6 d=some d') (hc:f [a',b',c',d'] []=some (v,H1)) (hv:Zfm 3 v=true):Za5 f [a,b,c,d] H=some (v,H) :=
 ZgN (args':=[a',b',c',d']) (by simp [ha,hb,hd,he]) hc hv
theorem Zf5 (L:Loc) (x c e:AV) (r:List AObj):Za2 true 6 (.ptr 0 0) (AObj.cells (L.cells x c e) :: r)=some (.agg (L.cells x c e)):=by simp [Za2,Go.Am.apart,Loc.cells]

theorem Zpv {L : Loc} {x c e : AV} (hav : LocAV (.agg (L.cells x c e)) L) (hok : LocOk L) {n : Nat} (hn : n < 32) (s : List UInt8) (hs : s.length ≤ 1048576) (H0 : Hp) :
    Zlw (.str s) (.int .i64 n) (.ptr 0 0) H0 [AObj.cells (L.cells x c e)]=some (.str (let s2:=if n.testBit 4 then Zcv s else s
     if n.testBit 2 then upS L s2 else s2),[AObj.cells (L.cells x c e)]):=by
 have hJ2:∀ t:List UInt8,t.length≤1048576→Zhz (.str t) (.int .i64 n) (.ptr 0 0) H0 [AObj.cells (L.cells x c e)]=some (.str (if n.testBit 2 then upS L t else t),[AObj.cells (L.cells x c e)]):=fun t ht=>by
  rw [Zw1]
  cases h:n.testBit 2 with
  | true=>simp only [go_sem,has4 hn,h,Zf5,(Zxj hav hok t ht _).2,ZmF,if_true]
  | false=>simp only [go_sem,has4 hn,h,ZmF,Bool.false_eq_true,if_false]
 rw [Zw0]
 cases h:n.testBit 4 with
 | true =>
  have:=ZgM s
  simp only [go_sem,ZHQ hn,h,ZDM s hs,hJ2 (Zcv s) (by omega),if_true]
 | false=>simp only [go_sem,ZHQ hn,h,hJ2 s hs,Bool.false_eq_true,if_false]
theorem ZE0 {L : Loc} {x c e : AV} (hav : LocAV (.agg (L.cells x c e)) L) (hok : LocOk L) {n : Nat} (hn : n < 32) (H0 : Hp) : ∀ (s : List UInt8) (hs : s.length ≤ 1048576),
    ZhA (.str s) (.int .i64 n) (.ptr 0 0) H0 [AObj.cells (L.cells x c e)]=some (.str (Zbg L n s),[AObj.cells (L.cells x c e)]):=by
 intro s
 induction s with
 | nil =>
  intro hs
  rw [ZmG]
  have h0:Zb9 []=[]:=rfl
  cases h:n.testBit 3 with
  | true=>simp only [go_sem,has8 hn,h,Zat,List.length_nil,show decide ((0:Int) < ((0:Nat):Int))=false from rfl,Zpv hav hok hn [] hs,Zbg,if_true,h0]
  | false=>simp only [go_sem,has8 hn,h,Zpv hav hok hn [] hs,Zbg,Bool.false_eq_true,if_false]
 | cons b s ih =>
  intro hs
  rw [ZmG]
  have hlt:decide ((0:Int) < ((b :: s).length:Int))=true:=by simp
  have h0:Zaj (.str (b :: s)) (.int .i64 0)=some (.int .u8 b.toNat):=Zax (i:=0) rfl
  have h1:ZaE (.str (b :: s)) (some (.int .i64 1)) none none=some (.str s):=Zva (s:=b :: s) (i:=1) (by simp)
  cases h:n.testBit 3 with
  | true =>
   simp only [go_sem,has8 hn,h,Zat,hlt,h0,Zjh]
   cases hb:isBl b with
   | true =>
    simp only [go_sem,Zw2,h1,ih (by simp at hs;omega)]
    simp only [Zbg,h,Znz,hb,if_true]
   | false =>
    simp only [go_sem,Zpv hav hok hn (b :: s) hs,Zbg,h,if_true,Znz,hb,Bool.false_eq_true,if_false]
  | false=>simp only [go_sem,has8 hn,h,Zpv hav hok hn (b :: s) hs,Zbg,Bool.false_eq_true,if_false]
theorem Zxe {a:AV} {L:Loc} (h:LocAV a L) (hok:LocOk L) {n:Nat} (hn:n < 32) (s:List UInt8) (hs:s.length≤1048576) (H:Hp):Za5 ZiY [a,.str s,.int .i64 n] H=some (.str (Zbg L n s),H):=by
 obtain ⟨a1,h1,h2⟩:=h.close [] 0 2
 have h2':=h2
 obtain ⟨x,c,e,rfl,hx,hc,he⟩:=h2
 refine ZDi h1 (b':=.str s) (c':=.int .i64 n) rfl rfl (H1:=[AObj.cells (L.cells x c e)]) ?_ rfl
 rw [ZxE]
 unfold ZtM
 simp only [go_sem,List.length_nil,List.nil_append,ZE0 h2' hok hn [] s hs]
theorem Zy5 {c:Int} (hc:c=-1 ∨ c=0 ∨ c=1):IntKind.i64.wrap (0 - c)=-c:=by rcases hc with rfl | rfl | rfl <;> decide
theorem Zu8 {a:AV} {L:Loc} (h:LocAV a L) (hok:LocOk L) {n:Nat} (hn:n < 32) (s t:List UInt8) (hs:s.length≤1048576) (ht:t.length≤1048576) (H:Hp):Za5 ZiW [a,.str s,.str t,.int .i64 n] H=some (.int .i64 (ZbV L n s t),H):=by
 obtain ⟨a1,h1,h2⟩:=h.close [] 0 2
 have h2':=h2
 obtain ⟨x,c,e,rfl,hx,hc,he⟩:=h2
 refine Zjb h1 (b':=.str s) (c':=.str t) (d':=.int .i64 n) rfl rfl rfl (H1:=[AObj.cells (L.cells x c e)]) ?_ rfl
 have hJ1:∀ c:Int,c=-1 ∨ c=0 ∨ c=1→∀ H,Zhy (.int .i64 n) (.int .i64 c) [] H=some (.int .i64 (if n.testBit 1 then -c else c),H):=fun c hc H=>by
  rw [ZvX]
  cases h:n.testBit 1 with
  | true=>simp only [go_sem,has2 hn,h,Zoc,Zy5 hc,if_true]
  | false=>simp only [go_sem,has2 hn,h,ZvY,Bool.false_eq_true,if_false]
 have hl1:=Zn7 L n s
 have hl2:=Zn7 L n t
 rw [ZxC]
 unfold ZtK ZbV Zi7
 cases hb:n.testBit 0 with
 | true=>simp only [go_sem,List.length_nil,List.nil_append,has1 hn,hb,ZAr s t hs ht,hJ1 _ (Zv8 _ _),if_true]
 | false=>simp only [go_sem,List.length_nil,List.nil_append,has1 hn,hb,Zf5,Zxe h2' hok hn s hs,Zxe h2' hok hn t ht,ZyK h2' hok (Zbg L n s) (Zbg L n t) (by omega) (by omega),hJ1 _ (ZoX _ _ _),Bool.false_eq_true,if_false]

def stf (z:AObj) (n:Nat) (x y:List UInt8):Hp:=[z,.cells [.int .i64 n],.cells [.str x],.cells [.str y]]
theorem Znt {z : AObj} {n : Nat} {x y : List UInt8} {fnv : AV} {g : List UInt8 → List UInt8} {m : Int} {bit : Bool} (hand : ibin .and (.int .i64 n) (.int .i64 m) = some (.int .i64 (if bit then m else 0))) (hm : (m != 0) = true)
    (hf:∀ s:List UInt8,(s=x ∨ s=y)→∀ H,Zbt cfg (Za7 cfg) fnv [.str s] H=some (.str (g s),H)) :
    ZfN [.int .i64 m,fnv,.ptr 1 0,.ptr 2 0,.ptr 3 0] (stf z n x y)=some (.tuple [],stf z n (if bit then g x else x) (if bit then g y else y)):=by
 have l1:Za2 false 1 (.ptr 1 0) (stf z n x y)=some (.int .i64 n):=Zaq (l:=[.int .i64 n]) rfl
 have l2:Za2 false 1 (.ptr 2 0) (stf z n x y)=some (.str x):=Zaq (l:=[.str x]) rfl
 have l3:Za2 false 1 (.ptr 3 0) (stf z n x y)=some (.str y):=Zaq (l:=[.str y]) rfl
 have s1:Zag 1 (.ptr 2 0) (.str (g x)) (stf z n x y)=some (.tuple [],stf z n (g x) y):=by simp [Zag,ZaQ,stf,AV.known,AV.cells,splice]
 have s2:Zag 1 (.ptr 3 0) (.str (g y)) (stf z n (g x) y)=some (.tuple [],stf z n (g x) (g y)):=by simp [Zag,ZaQ,stf,AV.known,AV.cells,splice]
 rw [ZoM]
 unfold Zke
 cases bit with
 | true=>simp only [go_sem,l1,hand,if_true,hm,l2,hf x (.inl rfl),l3,hf y (.inr rfl),s1,s2]
 | false=>simp only [go_sem,l1,hand,Bool.false_eq_true,if_false,bne_self_eq_false]
theorem Zx1 {a:AV} {L:Loc} (h:LocAV a L) (hok:LocOk L) {n:Nat} (hn:n < 32) (s t:List UInt8) (hs:s.length≤1048576) (ht:t.length≤1048576) (H:Hp):Za5 Zd9 [a,.int .i64 n,.str s,.str t] H=some (.int .i64 (ZbV L n s t),H):=by
 obtain ⟨a1,h1,h2⟩:=h.close [] 0 2
 have h2':=h2
 obtain ⟨x,c,e,rfl,hx,hc,he⟩:=h2
 have hcl:LocCells (L.cells x c e) L:=⟨x,c,e,rfl,hx,hc,he⟩
 suffices hs:∃ H1,Zd9 [.agg (L.cells x c e),.int .i64 n,.str s,.str t] []=some (.int .i64 (ZbV L n s t),H1) by
  obtain ⟨H1,hr⟩:=hs
  exact Zjb h1 (b':=.int .i64 n) (c':=.str s) (d':=.str t) rfl rfl rfl hr rfl
 have l1:∀ z x y,Za2 false 1 (.ptr 1 0) (stf z n x y)=some (.int .i64 n):=fun z x y=>Zaq (l:=[.int .i64 n]) rfl
 have l2:∀ z x y,Za2 false 1 (.ptr 2 0) (stf z n x y)=some (.str x):=fun z x y=>Zaq (l:=[.str x]) rfl
 have l3:∀ z x y,Za2 false 1 (.ptr 3 0) (stf z n x y)=some (.str y):=fun z x y=>Zaq (l:=[.str y]) rfl
 have hJ2:∀ (z:Int) (hz:z=1 ∨ z=-1),∃ H1,ZgX (.ptr 0 0) (.ptr 1 0) (.ptr 2 0) (.ptr 3 0) (.int .i64 z) [] (stf (.cells (L.cells x c e)) n s t)=some (.int .i64 (if z=-1 then -cmpS L (Zbg L n s) (Zbg L n t) else cmpS L (Zbg L n s) (Zbg L n t)),H1):=fun z hz=>by
  have e1:=Znt (z:=.cells (L.cells x c e)) (n:=n) (x:=s) (y:=t) (fnv:=.fn (.func 155) [] []) (g:=Zb9) (m:=8) (and8 hn) rfl (fun r _ H=>by rw [Zt3];exact ZG2 r H)
  have d1:=Zp9 s
  have d2:=Zp9 t
  have e2:=Znt (z:=.cells (L.cells x c e)) (n:=n) (x:=if n.testBit 3 then Zb9 s else s) (y:=if n.testBit 3 then Zb9 t else t) (fnv:=.fn (.func 157) [] []) (g:=Zcv) (m:=16) (ZJS hn) rfl (fun r hr H=>by
   rw [ZxG]
   refine ZEL r ?_ H
   rcases hr with rfl | rfl <;> split <;> omega)
  have e3:=Znt (z:=.dead) (n:=n) (x:=if n.testBit 4 then Zcv (if n.testBit 3 then Zb9 s else s) else (if n.testBit 3 then Zb9 s else s)) (y:=if n.testBit 4 then Zcv (if n.testBit 3 then Zb9 t else t) else (if n.testBit 3 then Zb9 t else t)) (fnv:=.fn (.func 158) [] [.vp (L.cells x c e)]) (g:=upS L) (m:=4) (and4 hn) rfl (fun r hr H=>by
   rw [Zt4]
   refine ZF4 hcl hok r ?_ H
   have:=ZgM s
   have:=ZgM t
   have:=ZgM (Zb9 s)
   have:=ZgM (Zb9 t)
   rcases hr with rfl | rfl <;> split <;> split <;> omega)
  have hl1:=Zn7 L n s
  have hl2:=Zn7 L n t
  have hfz:∀ (x' y':List UInt8) (k:AV→Hp→Res),frzK (.ptr 0 0) (stf (.cells (L.cells x c e)) n x' y') k=k (.vp (L.cells x c e)) (stf .dead n x' y'):=fun x' y' k=>rfl
  refine ⟨stf .dead n (Zbg L n s) (Zbg L n t),?_⟩
  rw [ZqV]
  simp only [go_sem,Ztr,List.nil_append,List.cons_append,e1,e2,hfz,e3,Zbr 6 (L.cells x c e) rfl,l2,l3]
  have hsh:∀ r,(if n.testBit 2=true then upS L (if n.testBit 4=true then Zcv (if n.testBit 3=true then Zb9 r else r) else if n.testBit 3=true then Zb9 r else r) else if n.testBit 4=true then Zcv (if n.testBit 3=true then Zb9 r else r) else if n.testBit 3=true then Zb9 r else r)=Zbg L n r:=fun r=>rfl
  simp only [hsh,Zyv h2' hok (Zbg L n s) (Zbg L n t) (by omega) (by omega),go_sem,ZAR (ZoX _ _ _) hz]
 have hJ1:∀ (z:Int) (hz:z=1 ∨ z=-1),∃ H1,Zeh (.ptr 0 0) (.ptr 1 0) (.ptr 2 0) (.ptr 3 0) (.int .i64 z) [] (stf (.cells (L.cells x c e)) n s t)=some (.int .i64 (if z=-1 then -Zi7 L n s t else Zi7 L n s t),H1):=fun z hz=>by
  rw [ZqU]
  unfold Zi7
  cases hb:n.testBit 0 with
  | true =>
   obtain ⟨e1,p1⟩:=ZAv s hs (stf (.cells (L.cells x c e)) n s t)
   obtain ⟨e2,p2⟩:=ZAv t ht (stf (.cells (L.cells x c e)) n s t)
   refine ⟨stf (.cells (L.cells x c e)) n s t,?_⟩
   simp only [go_sem,l1,and1 hn,hb,if_true,show ((1:Int) != 0)=true from rfl,l2,l3,p1,p2,Zzt,Zzu,ZFU,ZAR (Zv8 _ _) hz]
  | false =>
   obtain ⟨H1,q⟩:=hJ2 z hz
   refine ⟨H1,?_⟩
   simp only [go_sem,l1,and1 hn,hb,Bool.false_eq_true,if_false,bne_self_eq_false]
   exact q
 have b1:∀ (k:Int) (H:Hp),abox (.int .i64 k) H=some (.ptr H.length 0,H++[.cells [.int .i64 k]]):=fun k H=>Zoa rfl
 have b2:∀ (k:List UInt8) (H:Hp),abox (.str k) H=some (.ptr H.length 0,H++[.cells [.str k]]):=fun k H=>Zoa rfl
 rw [Zr9]
 unfold Zmz
 have hst:[AObj.cells (L.cells x c e),.cells [.int .i64 n],.cells [.str s],.cells [.str t]]=stf (.cells (L.cells x c e)) n s t:=rfl
 unfold ZbV
 cases hb:n.testBit 1 with
 | true =>
  obtain ⟨H1,q⟩:=hJ1 (-1) (.inr rfl)
  refine ⟨H1,?_⟩
  simp only [go_sem,b1,b2,List.length_nil,List.length_cons,List.nil_append,List.cons_append,Nat.zero_add,Nat.reduceAdd,hst,l1,and2 hn,hb,if_true,show ((2:Int) != 0)=true from rfl]
  simpa using q
 | false =>
  obtain ⟨H1,q⟩:=hJ1 1 (.inl rfl)
  refine ⟨H1,?_⟩
  simp only [go_sem,b1,b2,List.length_nil,List.length_cons,List.nil_append,List.cons_append,Nat.zero_add,Nat.reduceAdd,hst,l1,and2 hn,hb,Bool.false_eq_true,if_false,bne_self_eq_false]
  simpa using q
end Go.Am
namespace Go.Am
set_option linter.unusedSimpArgs false
set_option linter.unusedVariables false
set_option maxRecDepth 100000

def plainP:Spec:=⟨[],-1,0,false,false⟩
def Zac (p:Spec):Spec:=if (Zb4 p != 0)=true then plainP else p
theorem Sl.known {k:Nat} {x:AV} {l:List AV} (h:Sl k x l):x.known=true:=by
 rcases h with ⟨rfl,_⟩ | ⟨tok,rfl⟩ <;> rfl

theorem Zxo {a:AV} {p:Spec} (h:SpecAV a p) (H:Hp):∃ a',Za5 Zck [a] H=some (a',H)∧SpecAV a' (Zac p):=by
 obtain ⟨a1,h1,h2⟩:=h.close [] 0 2
 have hck:=fun H=>ZhQ h2 H
 obtain ⟨x,rfl,hx⟩:=h2
 have hl:Za2 true 5 (.ptr 0 0) [AObj.cells (p.cells x),.cells [.nils,.int .i64 0,.int .i64 0,.bool false,.bool false]]=some (.agg (p.cells x)):=by simp [Za2,Go.Am.apart,Spec.cells]
 unfold Zac
 cases hb:(Zb4 p != 0) with
 | true =>
  have hfill:(ZbJ [(1,1,(.int .i64 (-1)))] [.nils,(.int .i64 0),(.int .i64 0),(.bool false),(.bool false)]).map AV.agg=some (.agg (plainP.cells .nils)):=rfl
  have hst:Zag 5 (.ptr 1 0) (.agg (plainP.cells .nils)) [AObj.cells (p.cells x),.cells [.nils,.int .i64 0,.int .i64 0,.bool false,.bool false]]=some (.tuple [],[AObj.cells (p.cells x),.cells (plainP.cells .nils)]):=by simp [Zag,ZaQ,AV.known,AV.cells,Spec.cells,splice]
  have hl2:Za2 true 5 (.ptr 1 0) [AObj.cells (p.cells x),.cells (plainP.cells .nils)]=some (.agg (plainP.cells .nils)):=by simp [Za2,Go.Am.apart,Spec.cells]
  have hrun:Zck [.agg (p.cells x)] []=some (.agg (plainP.cells .nils),[AObj.cells (p.cells x),.cells (plainP.cells .nils)]):=by
   rw [Zjo]
   unfold Zhg
   simp only [go_sem,List.nil_append,List.length_nil,List.length_cons,List.cons_append,Nat.zero_add,hl,hck,hb,hfill,hst,hl2]
  obtain ⟨a',q1,q2⟩:=SpecAV.close (a:=.agg (plainP.cells .nils)) (p:=plainP) ⟨.nils,rfl,.inl ⟨rfl,rfl⟩⟩ [AObj.cells (p.cells x),.cells (plainP.cells .nils)] 0 2
  exact ⟨a',Zf3 h1 hrun q1,by simpa using q2⟩
 | false =>
  have hst:Zag 5 (.ptr 1 0) (.agg (p.cells x)) [AObj.cells (p.cells x),.cells [.nils,.int .i64 0,.int .i64 0,.bool false,.bool false]]=some (.tuple [],[AObj.cells (p.cells x),.cells (p.cells x)]):=by simp [Zag,ZaQ,AV.known,AV.cells,Spec.cells,splice]
  have hl2:Za2 true 5 (.ptr 1 0) [AObj.cells (p.cells x),.cells (p.cells x)]=some (.agg (p.cells x)):=by simp [Za2,Go.Am.apart,Spec.cells]
  have hrun:Zck [.agg (p.cells x)] []=some (.agg (p.cells x),[AObj.cells (p.cells x),.cells (p.cells x)]):=by
   rw [Zjo]
   unfold Zhg
   simp only [go_sem,List.nil_append,List.length_nil,List.length_cons,List.cons_append,Nat.zero_add,hl,hck,hb,ZqW,hst,hl2]
  obtain ⟨a',q1,q2⟩:=SpecAV.close (a:=.agg (p.cells x)) (p:=p) ⟨x,rfl,hx⟩ [AObj.cells (p.cells x),.cells (p.cells x)] 0 2
  exact ⟨a',Zf3 h1 hrun q1,by simpa using q2⟩

theorem Zua {a:AV} {p:Spec} (h:SpecAV a p) (H:Hp):∃ a',Za5 Zeu [a] H=some (a',H)∧SpecAV a' (Zac p):=by
 obtain ⟨a1,h1,h2⟩:=h.close [] 0 2
 have hck:=fun H=>Zu6 h2 H
 obtain ⟨x,rfl,hx⟩:=h2
 have hl:Za2 true 5 (.ptr 0 0) [AObj.cells (p.cells x),.cells [.nils,.int .i64 0,.int .i64 0,.bool false,.bool false]]=some (.agg (p.cells x)):=by simp [Za2,Go.Am.apart,Spec.cells]
 unfold Zac
 cases hb:(Zb4 p != 0) with
 | true =>
  have hfill:(ZbJ [(1,1,(.int .i64 (-1)))] [.nils,(.int .i64 0),(.int .i64 0),(.bool false),(.bool false)]).map AV.agg=some (.agg (plainP.cells .nils)):=rfl
  have hst:Zag 5 (.ptr 1 0) (.agg (plainP.cells .nils)) [AObj.cells (p.cells x),.cells [.nils,.int .i64 0,.int .i64 0,.bool false,.bool false]]=some (.tuple [],[AObj.cells (p.cells x),.cells (plainP.cells .nils)]):=by simp [Zag,ZaQ,AV.known,AV.cells,Spec.cells,splice]
  have hl2:Za2 true 5 (.ptr 1 0) [AObj.cells (p.cells x),.cells (plainP.cells .nils)]=some (.agg (plainP.cells .nils)):=by simp [Za2,Go.Am.apart,Spec.cells]
  have hrun:Zeu [.agg (p.cells x)] []=some (.agg (plainP.cells .nils),[AObj.cells (p.cells x),.cells (plainP.cells .nils)]):=by
   rw [ZnL]
   unfold Znj
   simp only [go_sem,List.nil_append,List.length_nil,List.length_cons,List.cons_append,Nat.zero_add,hl,hck,hb,hfill,hst,hl2]
  obtain ⟨a',q1,q2⟩:=SpecAV.close (a:=.agg (plainP.cells .nils)) (p:=plainP) ⟨.nils,rfl,.inl ⟨rfl,rfl⟩⟩ [AObj.cells (p.cells x),.cells (plainP.cells .nils)] 0 2
  exact ⟨a',Zf3 h1 hrun q1,by simpa using q2⟩
 | false =>
  have hst:Zag 5 (.ptr 1 0) (.agg (p.cells x)) [AObj.cells (p.cells x),.cells [.nils,.int .i64 0,.int .i64 0,.bool false,.bool false]]=some (.tuple [],[AObj.cells (p.cells x),.cells (p.cells x)]):=by simp [Zag,ZaQ,AV.known,AV.cells,Spec.cells,splice]
  have hl2:Za2 true 5 (.ptr 1 0) [AObj.cells (p.cells x),.cells (p.cells x)]=some (.agg (p.cells x)):=by simp [Za2,Go.Am.apart,Spec.cells]
  have hrun:Zeu [.agg (p.cells x)] []=some (.agg (p.cells x),[AObj.cells (p.cells x),.cells (p.cells x)]):=by
   rw [ZnL]
   unfold Znj
   simp only [go_sem,List.nil_append,List.length_nil,List.length_cons,List.cons_append,Nat.zero_add,hl,hck,hb,Zw3,hst,hl2]
  obtain ⟨a',q1,q2⟩:=SpecAV.close (a:=.agg (p.cells x)) (p:=p) ⟨x,rfl,hx⟩ [AObj.cells (p.cells x),.cells (p.cells x)] 0 2
  exact ⟨a',Zf3 h1 hrun q1,by simpa using q2⟩

theorem Znd (p:Spec):(0≤(Zac p).flags∧(Zac p).flags≤31)∧(Zac p).keys.length≤8∧∀ k ∈ (Zac p).keys,0≤k.fl∧k.fl≤31:=by
 unfold Zac
 cases hb:(Zb4 p != 0) with
 | true=>simp [plainP]
 | false =>
  rw [bne_eq_false_iff_eq] at hb
  unfold Zb4 at hb
  split at hb
  ·cases hb
  ·split at hb
   ·cases hb
   ·split at hb
    ·cases hb
    ·rename_i h1 h2 h3
     simp only [Bool.or_eq_true,decide_eq_true_eq,not_or] at h2
     simp only [Bool.false_eq_true,if_false]
     refine ⟨by omega,by omega,fun k hk=>?_⟩
     have h4:¬ Zeq k=true:=fun h=>h3 (List.any_eq_true.2 ⟨k,hk,h⟩)
     simp only [Zeq,Bool.or_eq_true,decide_eq_true_eq,not_or] at h4
     omega
theorem Zji (p:Spec) (h:∀ k ∈ p.keys,KeOk k):∀ k ∈ (Zac p).keys,KeOk k:=by
 unfold Zac
 split
 ·intro k hk;cases hk
 ·exact h
theorem ZwE (line:List UInt8) (fs:List (Nat × Nat)) (k:Ke):(ex line fs k).length≤line.length:=by
 unfold ex
 split
 ·dsimp only
  split
  ·simp
  ·rw [List.length_drop,List.length_take];omega
 ·simp
def flg (p:Spec) (k:Ke):Nat:=if (k.fl == 0)=true then p.flags.toNat else k.fl.toNat
def cmpK (L:Loc) (p:Spec) (a b:List UInt8):List Ke→Int
 | []=>0
 | k :: l=>if (ZbV L (flg p k) (ex a (fields a p.sep) k) (ex b (fields b p.sep) k) != 0)=true then ZbV L (flg p k) (ex a (fields a p.sep) k) (ex b (fields b p.sep) k) else cmpK L p a b l
theorem Zs5 (L:Loc) (p:Spec) (a b:List UInt8) (k:Ke) (l:List Ke):cmpK L p a b (k :: l)=if (ZbV L (flg p k) (ex a (fields a p.sep) k) (ex b (fields b p.sep) k) != 0)=true then ZbV L (flg p k) (ex a (fields a p.sep) k) (ex b (fields b p.sep) k) else cmpK L p a b l:=(Eq.refl _).trans (Eq.refl _)
def ZsR (L:Loc) (p:Spec) (a b:List UInt8):Int:=if (p.keys.length == 0)=true then ZbV L p.flags.toNat a b else cmpK L p a b p.keys
def ZaO (L:Loc) (p:Spec) (a b:List UInt8):Int:=ZsR L (Zac p) a b
end Go.Am
namespace Go.Am
set_option linter.unusedSimpArgs false
set_option linter.unusedVariables false
set_option maxRecDepth 100000

def CSt (lc sc:List AV) (x4 x5:AV) (H:Hp):Prop:=(x4=.vp lc∧x5=.vp sc) ∨ (x4=.ptr 0 0∧x5=.ptr 1 0∧H=[.cells lc,.cells sc])
theorem CSt.frz {lc sc : List AV} {x4 x5 : AV} {H : Hp} (h : CSt lc sc x4 x5 H) (kc : List AV) : ∃ H2, ∀ K : AV → AV → AV → Hp → Res,
    (frzK x4 (H++[.cells kc]) fun z4 h4=>frzK x5 h4 fun z5 h5=>frzK (.ptr H.length 0) h5 fun z10 h10=>K z4 z5 z10 h10)=K (.vp lc) (.vp sc) (.vp kc) H2:=by
 rcases h with ⟨rfl,rfl⟩ | ⟨rfl,rfl,rfl⟩
 ·refine ⟨H++[.dead],fun K=>?_⟩
  have hv:∀ (l:List AV) (H:Hp) (k:AV→Hp→Res),frzK (.vp l) H k=k (.vp l) H:=fun l H k=>rfl
  rw [hv,hv,Zv0]
 ·exact ⟨[.dead,.dead,.dead],fun K=>rfl⟩
theorem CSt.fld {lc : List AV} {x : AV} {p : Spec} {x4 x5 : AV} {H : Hp} (h : CSt lc (p.cells x) x4 x5 H) :
    (∃ y,Zaa 0 x5=some y∧∀ r,Za2 false 1 y (H++r)=some x)∧(∃ y,Zaa 2 x5=some y∧∀ r,Za2 false 1 y (H++r)=some (.int .i64 p.flags)):=by
 rcases h with ⟨rfl,rfl⟩ | ⟨rfl,rfl,rfl⟩
 ·exact ⟨⟨.vp (p.cells x),rfl,fun r=>by simp only [Spec.cells,Zan]⟩,⟨.vp [.int .i64 p.flags,.bool p.uniq,.bool p.stab],rfl,fun r=>by simp only [Zan]⟩⟩
 ·exact ⟨⟨.ptr 1 0,rfl,fun r=>Zaq (l:=p.cells x) rfl⟩,⟨.ptr 1 2,rfl,fun r=>Zaq (l:=p.cells x) rfl⟩⟩
theorem vpf (x:AV) (p:Spec):Zaa 1 (.vp (p.cells x))=some (.vp [.int .i64 p.sep,.int .i64 p.flags,.bool p.uniq,.bool p.stab]):=rfl
theorem kef (k:Ke):Zaa 4 (.vp k.cells)=some (.vp [.int .i64 k.fl]):=rfl
theorem Zwj (L:Loc) (x c e:AV):Zcq true 6 (.vp (L.cells x c e))=some (.agg (L.cells x c e)):=rfl
theorem Zyh (k:Ke):Zcq true 5 (.vp k.cells)=some (.agg k.cells):=rfl
section
variable {L:Loc} {x c e:AV} (hav:LocAV (.agg (L.cells x c e)) L) (hok:LocOk L) {p:Spec} {xk:AV} (hk:Sl 5 xk (p.keys.map Ke.av)) (hlen:p.keys.length≤8)
 (hks:∀ k ∈ p.keys,KeOk k) (hkf:∀ k ∈ p.keys,0≤k.fl∧k.fl≤31) (hfl:0≤p.flags∧p.flags≤31) (a b:List UInt8) (ha:a.length≤1048576) (hb:b.length≤1048576)
include hav hok hk hlen hks hkf hfl ha hb
theorem ZGD : ∀ (m i : Nat) (x4 x5 : AV) (H : Hp), p.keys.length - i = m → i ≤ p.keys.length → CSt (L.cells x c e) (p.cells xk) x4 x5 H →
    ∃ H',Zdq (.str a) (.str b) x4 x5 xk (.int .i64 (p.keys.length:Int)) (.int .i64 (i:Int)) [] H=some (.int .i64 (cmpK L p a b (p.keys.drop i)),H'):=by
 intro m
 induction m with
 | zero =>
  intro i x4 x5 H hm hi hst
  have hlt:decide ((i:Int) < (p.keys.length:Int))=false:=by simp;omega
  have hd:p.keys.drop i=[]:=List.drop_eq_nil_iff.2 (by omega)
  refine ⟨H,?_⟩
  rw [Zh6]
  simp only [go_sem,hlt,Zow,hd,cmpK]
 | succ m ih =>
  intro i x4 x5 H hm hi hst
  have hi1:i < p.keys.length:=by omega
  have hlt:decide ((i:Int) < (p.keys.length:Int))=true:=by simp;omega
  have hw:IntKind.i64.wrap ((i:Int)+1)=((i+1:Nat):Int):=by rw [Zai (by omega) (by omega)];omega
  have hmem:p.keys[i] ∈ p.keys:=List.getElem_mem hi1
  have hko:=hks _ hmem
  have hkf':=hkf _ hmem
  rw [List.drop_eq_getElem_cons hi1,Zs5]
  have hget:p.keys[i]?=some p.keys[i]:=List.getElem?_eq_getElem hi1
  generalize p.keys[i]=k at hko hkf' hget
  obtain ⟨_,y,hy1,hy2⟩:=hst.fld
  obtain ⟨H2,hfz⟩:=hst.frz k.cells
  obtain ⟨H3,e1,_⟩:=Zs8 ha hko p.sep H2
  obtain ⟨H4,e2,_⟩:=Zs8 hb hko p.sep H3
  have l1:=ZwE a (fields a p.sep) k
  have l2:=ZwE b (fields b p.sep) k
  have hn:flg p k < 32:=by unfold flg;split <;> omega
  have hp:=Zx1 hav hok hn (ex a (fields a p.sep) k) (ex b (fields b p.sep) k) (by omega) (by omega) H4
  have hJ5:∃ H',Zdp (.str a) (.str b) x4 x5 (.ptr H.length 0) (.int .i64 (flg p k:Int)) xk (.int .i64 (p.keys.length:Int)) (.int .i64 (i:Int)) [] (H++[.cells k.cells])=some (.int .i64 (if (ZbV L (flg p k) (ex a (fields a p.sep) k) (ex b (fields b p.sep) k) != 0)=true then ZbV L (flg p k) (ex a (fields a p.sep) k) (ex b (fields b p.sep) k) else cmpK L p a b (p.keys.drop (i+1))),H'):=by
   rw [Zoz,hfz]
   simp only [Zwj,Zh0,vpf,Zan,ZhN,Zyh,go_sem,e1,e2,hp]
   cases hc:(ZbV L (flg p k) (ex a (fields a p.sep) k) (ex b (fields b p.sep) k) != 0) with
   | true=>exact ⟨H4,by simp only [go_sem,if_true]⟩
   | false =>
    obtain ⟨H5,q⟩:=ih (i+1) (.vp (L.cells x c e)) (.vp (p.cells xk)) H4 (by omega) (by omega) (.inl ⟨rfl,rfl⟩)
    exact ⟨H5,by simp only [go_sem,Bool.false_eq_true,if_false,Zoy,hw,q]⟩
  obtain ⟨H',hJ5⟩:=hJ5
  refine ⟨H',?_⟩
  have hst5:=ZlC H k [.int .i64 0,.int .i64 0,.int .i64 0,.int .i64 0,.int .i64 0] rfl
  have hlf:Za2 false 1 (.ptr H.length (0+4)) (H++[.cells k.cells])=some (.int .i64 k.fl):=Zar H k.cells 4
  rw [Zh6]
  simp only [go_sem,hlt,Zox,hk.key hget,Zh0,hst5,hlf]
  cases h0:(k.fl == 0) with
  | true =>
   have hf:(p.flags:Int)=((flg p k:Nat):Int):=by unfold flg;rw [h0,if_pos rfl];omega
   simp only [go_sem,hy1,hy2,hf]
   exact hJ5
  | false =>
   have hf:(k.fl:Int)=((flg p k:Nat):Int):=by unfold flg;rw [h0,if_neg (by decide)];omega
   simp only [go_sem]
   rw [hf]
   exact hJ5
theorem ZFD : ∀ (m i : Nat) (x4 x5 : AV) (H : Hp), p.keys.length - i = m → i ≤ p.keys.length → CSt (L.cells x c e) (p.cells xk) x4 x5 H →
    ∃ H',Zfj (.str a) (.str b) x4 x5 (.int .i64 (i:Int)) [] H=some (.int .i64 (cmpK L p a b (p.keys.drop i)),H'):=by
 intro m
 induction m with
 | zero =>
  intro i x4 x5 H hm hi hst
  have hlt:decide ((i:Int) < (p.keys.length:Int))=false:=by simp;omega
  have hd:p.keys.drop i=[]:=List.drop_eq_nil_iff.2 (by omega)
  obtain ⟨⟨y,hy1,hy2⟩,_⟩:=hst.fld
  have hy2:=hy2 []
  rw [List.append_nil] at hy2
  have hlk:=hk.len 149
  rw [List.length_map] at hlk
  refine ⟨H,?_⟩
  rw [Zkj]
  simp only [go_sem,hy1,hy2,hlk,hlt,Ztd,hd,cmpK]
 | succ m ih =>
  intro i x4 x5 H hm hi hst
  have hi1:i < p.keys.length:=by omega
  have hlt:decide ((i:Int) < (p.keys.length:Int))=true:=by simp;omega
  have hw:IntKind.i64.wrap ((i:Int)+1)=((i+1:Nat):Int):=by rw [Zai (by omega) (by omega)];omega
  have hmem:p.keys[i] ∈ p.keys:=List.getElem_mem hi1
  have hko:=hks _ hmem
  have hkf':=hkf _ hmem
  rw [List.drop_eq_getElem_cons hi1,Zs5]
  have hget:p.keys[i]?=some p.keys[i]:=List.getElem?_eq_getElem hi1
  generalize p.keys[i]=k at hko hkf' hget
  obtain ⟨⟨y0,hy01,hy02⟩,y,hy1,hy2⟩:=hst.fld
  have hy02':=hy02 []
  rw [List.append_nil] at hy02'
  have hlk:=hk.len 149
  rw [List.length_map] at hlk
  have hn:flg p k < 32:=by unfold flg;split <;> omega
  have hJ5:∀ k':Ke,k'={ k with fl:=(flg p k:Nat) }→∃ H',Zfi (.str a) (.str b) x4 x5 (.int .i64 (i:Int)) (.ptr H.length 0) [] (H++[.cells k'.cells])=some (.int .i64 (if (ZbV L (flg p k) (ex a (fields a p.sep) k) (ex b (fields b p.sep) k) != 0)=true then ZbV L (flg p k) (ex a (fields a p.sep) k) (ex b (fields b p.sep) k) else cmpK L p a b (p.keys.drop (i+1))),H'):=by
   intro k' hk'
   have hko':KeOk k':=by subst hk';exact ⟨hko.ff,hko.fc,hko.tf,hko.tc⟩
   have hex:∀ (l:List UInt8) fs,ex l fs k'=ex l fs k:=fun l fs=>by subst hk';rfl
   obtain ⟨H2,hfz⟩:=hst.frz k'.cells
   obtain ⟨H3,e1⟩:=Zqd ha hko' p.sep H2
   obtain ⟨H4,e2⟩:=Zqd hb hko' p.sep H3
   rw [hex] at e1 e2
   have l1:=ZwE a (fields a p.sep) k
   have l2:=ZwE b (fields b p.sep) k
   have hp:=Zu8 hav hok hn (ex a (fields a p.sep) k) (ex b (fields b p.sep) k) (by omega) (by omega) H4
   have hkfl:(k'.fl:Int)=((flg p k:Nat):Int):=by subst hk';rfl
   rw [Ztg,hfz]
   simp only [Zwj,Zh0,vpf,kef,Zan,ZhN,Zyh,go_sem,e1,e2,hkfl,hp]
   cases hc:(ZbV L (flg p k) (ex a (fields a p.sep) k) (ex b (fields b p.sep) k) != 0) with
   | true=>exact ⟨H4,by simp only [go_sem,if_true]⟩
   | false =>
    obtain ⟨H5,q⟩:=ih (i+1) (.vp (L.cells x c e)) (.vp (p.cells xk)) H4 (by omega) (by omega) (.inl ⟨rfl,rfl⟩)
    exact ⟨H5,by simp only [go_sem,Bool.false_eq_true,if_false,Ztf,hw,q]⟩
  have hst5:=ZlC H k [.int .i64 0,.int .i64 0,.int .i64 0,.int .i64 0,.int .i64 0] rfl
  have hlf:Za2 false 1 (.ptr H.length (0+4)) (H++[.cells k.cells])=some (.int .i64 k.fl):=Zar H k.cells 4
  rw [Zkj]
  simp only [go_sem,hy01,hy02',hlk,hlt,Zte,hk.key hget,Zh0,hst5,hlf]
  cases h0:(k.fl == 0) with
  | true =>
   have hf:(p.flags:Int)=((flg p k:Nat):Int):=by unfold flg;rw [h0,if_pos rfl];omega
   obtain ⟨H',q⟩:=hJ5 _ rfl
   have hs4:Zag 1 (.ptr H.length (0+4)) (.int .i64 (flg p k:Nat)) (H++[.cells k.cells])=some (.tuple [],H++[.cells (Ke.cells { k with fl:=(flg p k:Nat) })]):=by
    rw [Zh1 (sz:=1) (v:=.int .i64 (flg p k:Nat)) (Zbp _ _) rfl rfl (by simp [Ke.cells])]
    simp [AV.cells,splice,Ke.cells]
   refine ⟨H',?_⟩
   simp only [go_sem,hy1,hy2,hf,hs4]
   exact q
  | false =>
   have hf:(k.fl:Int)=((flg p k:Nat):Int):=by unfold flg;rw [h0,if_neg (by decide)];omega
   obtain ⟨H',q⟩:=hJ5 k (by cases k;simp only at hf ⊢;rw [← hf])
   refine ⟨H',?_⟩
   simp only [go_sem]
   exact q
end
end Go.Am
namespace Go.Am
set_option linter.unusedSimpArgs false
set_option linter.unusedVariables false
set_option maxRecDepth 100000

theorem Zsi {a : AV} {L : Loc} (h : LocAV a L) (hok : LocOk L) {q : AV} {p : Spec} (hq : SpecAV q p) (hks : ∀ k ∈ p.keys, KeOk k) (s t : List UInt8) (hs : s.length ≤ 1048576) (ht : t.length ≤ 1048576) (H : Hp) :
    Za5 ZbZ [a,q,.str s,.str t] H=some (.int .i64 (ZaO L p s t),H):=by
 obtain ⟨a1,h1,h2⟩:=h.close [] 0 2
 obtain ⟨q1,g1,g2⟩:=hq.close [] 0 2
 have hav:=h2
 have hv:=fun H=>Zxo g2 H
 obtain ⟨x,c,e,rfl,hx,hc,he⟩:=h2
 obtain ⟨xp,rfl,hxp⟩:=g2
 obtain ⟨v',hv1,xv,rfl,hxv⟩:=hv [AObj.cells (L.cells x c e),.cells (p.cells xp)]
 obtain ⟨hfl,hlen,hkf⟩:=Znd p
 have hks':=Zji p hks
 suffices hs:∃ H1,ZbZ [.agg (L.cells x c e),.agg (p.cells xp),.str s,.str t] []=some (.int .i64 (ZaO L p s t),H1) by
  obtain ⟨H1,hr⟩:=hs
  exact Zjb h1 g1 (c':=.str s) (d':=.str t) rfl rfl hr rfl
 have hl:Za2 true 5 (.ptr 1 0) [AObj.cells (L.cells x c e),.cells (p.cells xp)]=some (.agg (p.cells xp)):=by simp [Za2,Go.Am.apart,Spec.cells]
 have hst:Zag 5 (.ptr 1 0) (.agg ((Zac p).cells xv)) [AObj.cells (L.cells x c e),.cells (p.cells xp)]=some (.tuple [],[AObj.cells (L.cells x c e),.cells ((Zac p).cells xv)]):=by simp [Zag,ZaQ,AV.known,AV.cells,Spec.cells,splice]
 have hf0:Za2 false 1 (.ptr 1 (0+0)) [AObj.cells (L.cells x c e),.cells ((Zac p).cells xv)]=some xv:=Zaq (l:=(Zac p).cells xv) rfl
 have hf2:Za2 false 1 (.ptr 1 (0+2)) [AObj.cells (L.cells x c e),.cells ((Zac p).cells xv)]=some (.int .i64 (Zac p).flags):=Zaq (l:=(Zac p).cells xv) rfl
 have hlk:=hxv.len 149
 rw [List.length_map] at hlk
 have hloc:=Zf5 L x c e [.cells ((Zac p).cells xv)]
 have hn:(Zac p).flags.toNat < 32:=by omega
 have hfi:((Zac p).flags:Int)=(((Zac p).flags.toNat:Nat):Int):=by omega
 have hp:=Zx1 hav hok hn s t hs ht [AObj.cells (L.cells x c e),.cells ((Zac p).cells xv)]
 rw [← hfi] at hp
 have hlen0:(((Zac p).keys.length:Int) == 0)=((Zac p).keys.length == 0):=by
  rw [Bool.eq_iff_iff,beq_iff_eq,beq_iff_eq];omega
 rw [ZoK]
 unfold Zkc ZaO ZsR
 cases h0:((Zac p).keys.length == 0) with
 | true =>
  exact ⟨[AObj.cells (L.cells x c e),.cells ((Zac p).cells xv)],by simp only [go_sem,Zb3,List.nil_append,List.length_nil,List.length_cons,List.cons_append,hl,hv1,hst,hf0,hlk,hlen0,h0,hloc,hf2,hp,if_true,Nat.zero_add,Nat.reduceAdd]⟩
 | false =>
  obtain ⟨H',r⟩:=ZGD hav hok hxv hlen hks' hkf hfl s t hs ht _ 0 (.ptr 0 0) (.ptr 1 0) _ rfl (Nat.zero_le _) (.inr ⟨rfl,rfl,rfl⟩)
  rw [List.drop_zero,show ((0:Nat):Int)=0 from rfl] at r
  refine ⟨H',?_⟩
  simp only [go_sem,Zb3,List.nil_append,List.length_nil,List.length_cons,List.cons_append,hl,hv1,hst,hf0,hlk,hlen0,h0,Zov,r,Bool.false_eq_true,if_false,Nat.zero_add,Nat.reduceAdd]

theorem Zx9 {a : AV} {L : Loc} (h : LocAV a L) (hok : LocOk L) {q : AV} {p : Spec} (hq : SpecAV q p) (hks : ∀ k ∈ p.keys, KeOk k) (s t : List UInt8) (hs : s.length ≤ 1048576) (ht : t.length ≤ 1048576) (H : Hp) :
    Za5 Zek [a,q,.str s,.str t] H=some (.int .i64 (ZaO L p s t),H):=by
 obtain ⟨a1,h1,h2⟩:=h.close [] 0 2
 obtain ⟨q1,g1,g2⟩:=hq.close [] 0 2
 have hav:=h2
 have hv:=fun H=>Zua g2 H
 obtain ⟨x,c,e,rfl,hx,hc,he⟩:=h2
 obtain ⟨xp,rfl,hxp⟩:=g2
 obtain ⟨v',hv1,xv,rfl,hxv⟩:=hv [AObj.cells (L.cells x c e),.cells (p.cells xp)]
 obtain ⟨hfl,hlen,hkf⟩:=Znd p
 have hks':=Zji p hks
 suffices hs:∃ H1,Zek [.agg (L.cells x c e),.agg (p.cells xp),.str s,.str t] []=some (.int .i64 (ZaO L p s t),H1) by
  obtain ⟨H1,hr⟩:=hs
  exact Zjb h1 g1 (c':=.str s) (d':=.str t) rfl rfl hr rfl
 have hl:Za2 true 5 (.ptr 1 0) [AObj.cells (L.cells x c e),.cells (p.cells xp)]=some (.agg (p.cells xp)):=by simp [Za2,Go.Am.apart,Spec.cells]
 have hst:Zag 5 (.ptr 1 0) (.agg ((Zac p).cells xv)) [AObj.cells (L.cells x c e),.cells (p.cells xp)]=some (.tuple [],[AObj.cells (L.cells x c e),.cells ((Zac p).cells xv)]):=by simp [Zag,ZaQ,AV.known,AV.cells,Spec.cells,splice]
 have hf0:Za2 false 1 (.ptr 1 (0+0)) [AObj.cells (L.cells x c e),.cells ((Zac p).cells xv)]=some xv:=Zaq (l:=(Zac p).cells xv) rfl
 have hf2:Za2 false 1 (.ptr 1 (0+2)) [AObj.cells (L.cells x c e),.cells ((Zac p).cells xv)]=some (.int .i64 (Zac p).flags):=Zaq (l:=(Zac p).cells xv) rfl
 have hlk:=hxv.len 149
 rw [List.length_map] at hlk
 have hloc:=Zf5 L x c e [.cells ((Zac p).cells xv)]
 have hn:(Zac p).flags.toNat < 32:=by omega
 have hfi:((Zac p).flags:Int)=(((Zac p).flags.toNat:Nat):Int):=by omega
 have hp:=Zu8 hav hok hn s t hs ht [AObj.cells (L.cells x c e),.cells ((Zac p).cells xv)]
 rw [← hfi] at hp
 have hlen0:(((Zac p).keys.length:Int) == 0)=((Zac p).keys.length == 0):=by
  rw [Bool.eq_iff_iff,beq_iff_eq,beq_iff_eq];omega
 rw [Zug]
 unfold ZpJ ZaO ZsR
 cases h0:((Zac p).keys.length == 0) with
 | true =>
  exact ⟨[AObj.cells (L.cells x c e),.cells ((Zac p).cells xv)],by simp only [go_sem,Zb3,List.nil_append,List.length_nil,List.length_cons,List.cons_append,hl,hv1,hst,hf0,hlk,hlen0,h0,hloc,hf2,hp,if_true,Nat.zero_add,Nat.reduceAdd]⟩
 | false =>
  obtain ⟨H',r⟩:=ZFD hav hok hxv hlen hks' hkf hfl s t hs ht _ 0 (.ptr 0 0) (.ptr 1 0) _ rfl (Nat.zero_le _) (.inr ⟨rfl,rfl,rfl⟩)
  rw [List.drop_zero,show ((0:Nat):Int)=0 from rfl] at r
  refine ⟨H',?_⟩
  simp only [go_sem,Zb3,List.nil_append,List.length_nil,List.length_cons,List.cons_append,hl,hv1,hst,hf0,hlk,hlen0,h0,Ztc,r,Bool.false_eq_true,if_false,Nat.zero_add,Nat.reduceAdd]

def ZaA (L:Loc) (p:Spec) (s t:List UInt8):Int :=
 if (ZaO L (Zac p) s t != 0 || (Zac p).stab || (Zac p).uniq)=true then ZaO L (Zac p) s t else if (Zac p).flags.toNat.testBit 1 then -cmpS L s t else cmpS L s t

theorem Zv5 {a : AV} {L : Loc} (h : LocAV a L) (hok : LocOk L) {q : AV} {p : Spec} (hq : SpecAV q p) (hks : ∀ k ∈ p.keys, KeOk k) (s t : List UInt8) (hs : s.length ≤ 1048576) (ht : t.length ≤ 1048576) (H : Hp) :
    Za5 Zci [a,q,.str s,.str t] H=some (.int .i64 (ZaA L p s t),H):=by
 obtain ⟨a1,h1,h2⟩:=h.close [] 0 2
 obtain ⟨q1,g1,g2⟩:=hq.close [] 0 2
 have hav:=h2
 have hv:=fun H=>Zxo g2 H
 obtain ⟨x,c,e,rfl,hx,hc,he⟩:=h2
 obtain ⟨xp,rfl,hxp⟩:=g2
 obtain ⟨v',hv1,xv,rfl,hxv⟩:=hv [AObj.cells (L.cells x c e),.cells (p.cells xp)]
 obtain ⟨hfl,hlen,hkf⟩:=Znd p
 have hks':=Zji p hks
 suffices hs:∃ H1,Zci [.agg (L.cells x c e),.agg (p.cells xp),.str s,.str t] []=some (.int .i64 (ZaA L p s t),H1) by
  obtain ⟨H1,hr⟩:=hs
  exact Zjb h1 g1 (c':=.str s) (d':=.str t) rfl rfl hr rfl
 have hl:Za2 true 5 (.ptr 1 0) [AObj.cells (L.cells x c e),.cells (p.cells xp)]=some (.agg (p.cells xp)):=by simp [Za2,Go.Am.apart,Spec.cells]
 have hst:Zag 5 (.ptr 1 0) (.agg ((Zac p).cells xv)) [AObj.cells (L.cells x c e),.cells (p.cells xp)]=some (.tuple [],[AObj.cells (L.cells x c e),.cells ((Zac p).cells xv)]):=by simp [Zag,ZaQ,AV.known,AV.cells,Spec.cells,splice]
 have hl2:Za2 true 5 (.ptr 1 0) [AObj.cells (L.cells x c e),.cells ((Zac p).cells xv)]=some (.agg ((Zac p).cells xv)):=by simp [Za2,Go.Am.apart,Spec.cells]
 have hf2:Za2 false 1 (.ptr 1 (0+2)) [AObj.cells (L.cells x c e),.cells ((Zac p).cells xv)]=some (.int .i64 (Zac p).flags):=Zaq (l:=(Zac p).cells xv) rfl
 have hf3:Za2 false 1 (.ptr 1 (0+3)) [AObj.cells (L.cells x c e),.cells ((Zac p).cells xv)]=some (.bool (Zac p).uniq):=Zaq (l:=(Zac p).cells xv) rfl
 have hf4:Za2 false 1 (.ptr 1 (0+4)) [AObj.cells (L.cells x c e),.cells ((Zac p).cells xv)]=some (.bool (Zac p).stab):=Zaq (l:=(Zac p).cells xv) rfl
 have hloc:=Zf5 L x c e [.cells ((Zac p).cells xv)]
 have hn:(Zac p).flags.toNat < 32:=by omega
 have hfi:((Zac p).flags:Int)=(((Zac p).flags.toNat:Nat):Int):=by omega
 have hline:=Zsi hav hok (q:=.agg ((Zac p).cells xv)) ⟨xv,rfl,hxv⟩ hks' s t hs ht [AObj.cells (L.cells x c e),.cells ((Zac p).cells xv)]
 have hcmp:=Zyv hav hok s t hs ht [AObj.cells (L.cells x c e),.cells ((Zac p).cells xv)]
 have hneg:=Zy5 (ZoX L s t)
 have hbit:=and2 hn
 have hJ1:ZgR (.str s) (.str t) (.ptr 0 0) (.ptr 1 0) [] [AObj.cells (L.cells x c e),.cells ((Zac p).cells xv)]=some (.int .i64 (if (Zac p).flags.toNat.testBit 1 then -cmpS L s t else cmpS L s t),[AObj.cells (L.cells x c e),.cells ((Zac p).cells xv)]):=by
  rw [ZqH]
  rw [hfi] at hf2
  cases hb:(Zac p).flags.toNat.testBit 1 with
  | true =>
   rw [hb] at hbit
   simp only [go_sem,hloc,hcmp,hf2,hbit,Zoc,hneg,if_true,show ((2:Int) != 0)=true from rfl]
  | false =>
   rw [hb] at hbit
   simp only [go_sem,hloc,hcmp,hf2,hbit,ZqI,Bool.false_eq_true,if_false,bne_self_eq_false]
 refine ⟨[AObj.cells (L.cells x c e),.cells ((Zac p).cells xv)],?_⟩
 rw [Zr6]
 unfold Zmw ZaA
 simp only [go_sem,Zb3,List.nil_append,List.length_nil,List.length_cons,List.cons_append,hl,hv1,hst,hloc,hl2,hline,Nat.zero_add,Nat.reduceAdd]
 cases h0:(ZaO L (Zac p) s t != 0) with
 | true=>simp only [go_sem,Bool.true_or,if_true]
 | false =>
  simp only [go_sem,hf4,hf3]
  cases h4:(Zac p).stab with
  | true=>simp only [go_sem,Bool.true_or,Bool.or_true,if_true]
  | false =>
   simp only [go_sem,hf3]
   cases h3:(Zac p).uniq with
   | true=>simp only [go_sem,Bool.true_or,Bool.or_true,if_true]
   | false=>simp only [go_sem,hJ1,Bool.or_false,Bool.false_eq_true,if_false]

theorem ZFP {a : AV} {L : Loc} (h : LocAV a L) (hok : LocOk L) {q : AV} {p : Spec} (hq : SpecAV q p) (hks : ∀ k ∈ p.keys, KeOk k) (s t : List UInt8) (hs : s.length ≤ 1048576) (ht : t.length ≤ 1048576) (H : Hp) :
    Za5 ZiU [a,q,.str s,.str t] H=some (.int .i64 (ZaA L p s t),H):=by
 obtain ⟨a1,h1,h2⟩:=h.close [] 0 2
 obtain ⟨q1,g1,g2⟩:=hq.close [] 0 2
 have hav:=h2
 have hv:=fun H=>Zua g2 H
 obtain ⟨x,c,e,rfl,hx,hc,he⟩:=h2
 obtain ⟨xp,rfl,hxp⟩:=g2
 obtain ⟨v',hv1,xv,rfl,hxv⟩:=hv [AObj.cells (L.cells x c e),.cells (p.cells xp)]
 obtain ⟨hfl,hlen,hkf⟩:=Znd p
 have hks':=Zji p hks
 suffices hs:∃ H1,ZiU [.agg (L.cells x c e),.agg (p.cells xp),.str s,.str t] []=some (.int .i64 (ZaA L p s t),H1) by
  obtain ⟨H1,hr⟩:=hs
  exact Zjb h1 g1 (c':=.str s) (d':=.str t) rfl rfl hr rfl
 have hl:Za2 true 5 (.ptr 1 0) [AObj.cells (L.cells x c e),.cells (p.cells xp)]=some (.agg (p.cells xp)):=by simp [Za2,Go.Am.apart,Spec.cells]
 have hst:Zag 5 (.ptr 1 0) (.agg ((Zac p).cells xv)) [AObj.cells (L.cells x c e),.cells (p.cells xp)]=some (.tuple [],[AObj.cells (L.cells x c e),.cells ((Zac p).cells xv)]):=by simp [Zag,ZaQ,AV.known,AV.cells,Spec.cells,splice]
 have hl2:Za2 true 5 (.ptr 1 0) [AObj.cells (L.cells x c e),.cells ((Zac p).cells xv)]=some (.agg ((Zac p).cells xv)):=by simp [Za2,Go.Am.apart,Spec.cells]
 have hf2:Za2 false 1 (.ptr 1 (0+2)) [AObj.cells (L.cells x c e),.cells ((Zac p).cells xv)]=some (.int .i64 (Zac p).flags):=Zaq (l:=(Zac p).cells xv) rfl
 have hf3:Za2 false 1 (.ptr 1 (0+3)) [AObj.cells (L.cells x c e),.cells ((Zac p).cells xv)]=some (.bool (Zac p).uniq):=Zaq (l:=(Zac p).cells xv) rfl
 have hf4:Za2 false 1 (.ptr 1 (0+4)) [AObj.cells (L.cells x c e),.cells ((Zac p).cells xv)]=some (.bool (Zac p).stab):=Zaq (l:=(Zac p).cells xv) rfl
 have hloc:=Zf5 L x c e [.cells ((Zac p).cells xv)]
 have hn:(Zac p).flags.toNat < 32:=by omega
 have hfi:((Zac p).flags:Int)=(((Zac p).flags.toNat:Nat):Int):=by omega
 have hline:=Zx9 hav hok (q:=.agg ((Zac p).cells xv)) ⟨xv,rfl,hxv⟩ hks' s t hs ht [AObj.cells (L.cells x c e),.cells ((Zac p).cells xv)]
 have hcmp:=ZyK hav hok s t hs ht [AObj.cells (L.cells x c e),.cells ((Zac p).cells xv)]
 have hneg:=Zy5 (ZoX L s t)
 have hbit:=fun H=>has2 hn H
 have hJ1:Zlu (.str s) (.str t) (.ptr 0 0) (.ptr 1 0) [] [AObj.cells (L.cells x c e),.cells ((Zac p).cells xv)]=some (.int .i64 (if (Zac p).flags.toNat.testBit 1 then -cmpS L s t else cmpS L s t),[AObj.cells (L.cells x c e),.cells ((Zac p).cells xv)]):=by
  rw [ZvU]
  rw [hfi] at hf2
  cases hb:(Zac p).flags.toNat.testBit 1 with
  | true =>
   rw [hb] at hbit
   simp only [go_sem,hloc,hcmp,hf2,hbit,Zoc,hneg,if_true,show ((2:Int) != 0)=true from rfl]
  | false =>
   rw [hb] at hbit
   simp only [go_sem,hloc,hcmp,hf2,hbit,ZvV,Bool.false_eq_true,if_false,bne_self_eq_false]
 refine ⟨[AObj.cells (L.cells x c e),.cells ((Zac p).cells xv)],?_⟩
 rw [Zxz]
 unfold ZtH ZaA
 simp only [go_sem,Zb3,List.nil_append,List.length_nil,List.length_cons,List.cons_append,hl,hv1,hst,hloc,hl2,hline,Nat.zero_add,Nat.reduceAdd]
 cases h0:(ZaO L (Zac p) s t != 0) with
 | true=>simp only [go_sem,Bool.true_or,if_true]
 | false =>
  simp only [go_sem,hf4,hf3]
  cases h4:(Zac p).stab with
  | true=>simp only [go_sem,Bool.true_or,Bool.or_true,if_true]
  | false =>
   simp only [go_sem,hf3]
   cases h3:(Zac p).uniq with
   | true=>simp only [go_sem,Bool.true_or,Bool.or_true,if_true]
   | false=>simp only [go_sem,hJ1,Bool.or_false,Bool.false_eq_true,if_false]

end Go.Am
