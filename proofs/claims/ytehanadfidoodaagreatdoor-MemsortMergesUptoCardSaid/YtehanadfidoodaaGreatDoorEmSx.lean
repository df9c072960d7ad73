/-
  THE ABSTRACT MACHINE, part S: code told piece by piece.
-/
import Derived.Test.YtehanadfidoodaaGreatDoorEmRx
namespace Go.Am
open RowKit

def ZHM (cut:List Nat) (b:Code):Bool :=
 match ZbP b with
 | some r=>cut.contains r
 | none=>false
noncomputable def CXM (C:Cfg) (CL:Zav) (LP:Code→KL→AL→Hp→Res) (kp:Nat→Option (List Nat)) (n:Nat) (sq:SQ) (bl:BL) (self:Code→KL→AL→Hp→Res) (cut:List Nat):Code→KL→AL→Hp→Res
 | .skip,k,al,H=>k .normal al H
 | .region id ops draw,k,al,H=>if draw && !Zey ops then none else frzO n (kp (id+1000000)) (regL C CL n ops draw (fun al' H'=>k .normal al' H')) al H
 | .seq a b, k, al, H => CXM C CL LP kp n sq bl self cut a (sq (match ZHM cut b with
     | true=>fun k' al' H'=>self b k' (Za8 kp b al') H'
     | false=>fun k' al' H'=>CXM C CL LP kp n sq bl self cut b k' (Za8 kp b al') H') k) al H
 | .cond c x y,k,al,H=>cnd (ZkN C n al c) (CXM C CL LP kp n sq bl self cut x k al H) (CXM C CL LP kp n sq bl self cut y k al H)
 | .block id c,k,al,H=>CXM C CL LP kp n sq bl self cut c (bl id k) al H
 | .loop c,k,al,H=>LP c k (Za8 kp c al) H
 | .exit id,k,al,H=>k (.exit id) al H
 | .label _,k,al,H=>k .normal al H
 | .goto l,k,al,H=>k (.goto l) al H
 | .ret,k,al,H=>k .ret al H
 | _,_,_,_=>none

theorem Za4 {C : Cfg} {CL : Zav} {LP : Code → KL → AL → Hp → Res} {kp : Nat → Option (List Nat)} {n : Nat} {sq : SQ} {bl : BL} (cut : List Nat) : ∀ (c : Code) (k : KL) (al : AL) (H : Hp),
    CXL C CL LP kp n sq bl c k al H=CXM C CL LP kp n sq bl (CXL C CL LP kp n sq bl) cut c k al H:=by
 intro c
 induction c with
 | seq a b iha ihb =>
  intro k al H
  simp only [CXL,CXM]
  rw [iha]
  congr 1
  congr 1
  cases ZHM cut b with
  | true=>rfl
  | false =>
   funext k' al' H'
   exact ihb _ _ _
 | cond c x y ihx ihy=>intro k al H;simp only [CXL,CXM];rw [ihx,ihy]
 | block id c ih=>intro k al H;simp only [CXL,CXM];exact ih _ _ _
 | _=>intro k al H;rfl

section
variable {C:Cfg} {kp:Nat→Option (List Nat)} {n:Nat}
theorem Zap {c : Code} {kL : KL} (cut : List Nat) (h : Tame n kL) (al : AL) (H : Hp) : LPL C kp n c kL al H =
    CXM C (Za7 C) (LPL C kp n) kp n seqL Za3 (CXL C (Za7 C) (LPL C kp n) kp n seqL Za3) cut c (seqL (fun k' al' H'=>LPL C kp n c k' (Za8 kp c al') H') kL) (Za8 kp c al) H:=by
 rw [← Za4]
 exact ZJ5 h al H
theorem Zab {f : FuncId} {fn : Func} {c : Code} (cut : List Nat) (hf : C.P.funcs[f]? = some fn) (hb : fn.body = some c) (hN : fn.ntmps = n) (args : List AV) (hn : Nat.ble args.length n = true) (H : Hp) :
    Za7 C f args H=CXM C (Za7 C) (LPL C (C.keep f) n) (C.keep f) n seqL Za3 (CXL C (Za7 C) (LPL C (C.keep f) n) (C.keep f) n seqL Za3) cut c (retL C n f fn H) (ZoU 0 args) H:=by
 rw [← Za4]
 exact ZEw hf hb hN args hn H
end
end Go.Am
namespace Go.Am

section
variable {α β:Type}
theorem ZeZ (x:α) (f:α→Option β):bnd (some x) f=f x:=(Eq.refl _).trans (Eq.refl _)
theorem ZGq (f:α→Option β):bnd (none:Option α) f=none:=(Eq.refl _).trans (Eq.refl _)
theorem ZEu {x x':Option α} (h:x=x') (f:α→Option β):bnd x f=bnd x' f:=by rw [h]
theorem ZEF {c c':AV} (h:c=c') (x y:Res):cnd c x y=cnd c' x y:=by rw [h]
theorem ZF9 {g g':AV} (h:g=g') (w:Bool) (e:α) (x:Option α):gdv g w e x=gdv g' w e x:=by rw [h]
theorem ZDl {a a':AV} (h:a=a') (H:Hp) (k:AV→Hp→Res):frzK a H k=frzK a' H k:=by rw [h]
theorem ZJV (x y:Res):cnd (.bool true) x y=x:=(Eq.refl _).trans (Eq.refl _)
theorem ZJU (x y:Res):cnd (.bool false) x y=y:=(Eq.refl _).trans (Eq.refl _)
theorem ZFa (e:α) (x:Option α):gdv (.bool true) true e x=x:=(Eq.refl _).trans (Eq.refl _)
theorem ZJr (e:α) (x:Option α):gdv (.bool false) false e x=x:=(Eq.refl _).trans (Eq.refl _)
theorem ZJt (e:α) (x:Option α):gdv (.bool true) false e x=some e:=(Eq.refl _).trans (Eq.refl _)
theorem ZJs (e:α) (x:Option α):gdv (.bool false) true e x=some e:=(Eq.refl _).trans (Eq.refl _)
theorem ZIz (l:List AV) (w:Bool) (e:α) (x:Option α):gdv (.tuple l) w e x=some e:=(Eq.refl _).trans (Eq.refl _)
theorem ZI9 (a b:AV):Zae (.bool true) a b=some a:=(Eq.refl _).trans (Eq.refl _)
theorem ZI8 (a b:AV):Zae (.bool false) a b=some b:=(Eq.refl _).trans (Eq.refl _)
theorem ZIb (b:Bool):aun .not (.bool b)=some (.bool (!b)):=(Eq.refl _).trans (Eq.refl _)
theorem ZGi (o off:Nat):anil (.ptr o off)=some (.ptr o off):=(Eq.refl _).trans (Eq.refl _)
theorem ZI6 (l:List AV):anil (.vp l)=some (.vp l):=(Eq.refl _).trans (Eq.refl _)
theorem ZCr (k o off:Nat):Zaa k (.ptr o off)=some (.ptr o (off+k)):=(Eq.refl _).trans (Eq.refl _)
theorem ZCq (l:List AV) (i:Nat):aext (.tuple l) i=l[i]?:=(Eq.refl _).trans (Eq.refl _)
theorem ZH3 (k:IntKind) (a b:Int):ibin .eql (.int k a) (.int k b)=some (.bool (a == b)):=by simp [ibin,Zdb,ZcP]
theorem ZH9 (k:IntKind) (a b:Int):ibin .neq (.int k a) (.int k b)=some (.bool (a != b)):=by simp [ibin,Zdb,ZcP]
theorem ZH7 (k:IntKind) (a b:Int):ibin .lss (.int k a) (.int k b)=some (.bool (decide (a < b))):=by simp [ibin,Zdb,ZcP]
theorem ZH6 (k:IntKind) (a b:Int):ibin .leq (.int k a) (.int k b)=some (.bool (decide (a≤b))):=by simp [ibin,Zdb,ZcP]
theorem ZH5 (k:IntKind) (a b:Int):ibin .gtr (.int k a) (.int k b)=some (.bool (decide (b < a))):=by simp [ibin,Zdb,ZcP]
theorem ZH4 (k:IntKind) (a b:Int):ibin .geq (.int k a) (.int k b)=some (.bool (decide (b≤a))):=by simp [ibin,Zdb,ZcP]
theorem ZH2 (k:IntKind) (a b:Int):ibin .add (.int k a) (.int k b)=some (.int k (k.wrap (a+b))):=by simp [ibin,Zdb,ZcP]
theorem ZHa (k:IntKind) (a b:Int):ibin .sub (.int k a) (.int k b)=some (.int k (k.wrap (a - b))):=by simp [ibin,Zdb,ZcP]
theorem ZH8 (k:IntKind) (a b:Int):ibin .mul (.int k a) (.int k b)=some (.int k (k.wrap (a * b))):=by simp [ibin,Zdb,ZcP]
theorem ZHs (a b:List UInt8):sbin .eql (.str a) (.str b)=some (.bool (a == b)):=(Eq.refl _).trans (Eq.refl _)
theorem ZHt (a b:List UInt8):sbin .neq (.str a) (.str b)=some (.bool (!(a == b))):=(Eq.refl _).trans (Eq.refl _)
theorem ZGh (k:IntKind) (a b:Int):ZeI (.int k a) (.int k b)=some (.int k (min a b)):=by
 simp only [ZeI,if_true,Option.some.injEq,AV.int.injEq,true_and]
 split <;> omega
theorem ZGg (k:IntKind) (a b:Int):ZoS (.int k a) (.int k b)=some (.int k (max a b)):=by
 simp only [ZoS,if_true,Option.some.injEq,AV.int.injEq,true_and]
 split <;> omega
theorem Zat (s:List UInt8):Zaf .string (.str s)=some (.int .i64 s.length):=(Eq.refl _).trans (Eq.refl _)
theorem ZI5 (e k:Nat) (t:Tok) (l:List AV):Zaf (.slice e) (.vs k t l)=some (.int .i64 l.length):=(Eq.refl _).trans (Eq.refl _)
theorem ZEi (e:Nat):Zaf (.slice e) .nils=some (.int .i64 0):=(Eq.refl _).trans (Eq.refl _)
theorem ZA9 (t o off:Nat):ebin (.pointer t) .eql (.ptr o off) .nilp=some (.bool false):=(Eq.refl _).trans (Eq.refl _)
theorem ZAa (t o off:Nat):ebin (.pointer t) .neq (.ptr o off) .nilp=some (.bool true):=(Eq.refl _).trans (Eq.refl _)
theorem ZA7 (t:Nat):ebin (.pointer t) .eql .nilp .nilp=some (.bool true):=(Eq.refl _).trans (Eq.refl _)
theorem ZA8 (t:Nat):ebin (.pointer t) .neq .nilp .nilp=some (.bool false):=(Eq.refl _).trans (Eq.refl _)
theorem Zzk (a b:Bool):ebin .bool .neq (.bool a) (.bool b)=some (.bool (!(a == b))):=(Eq.refl _).trans (Eq.refl _)
theorem Zzj (a b:Bool):ebin .bool .eql (.bool a) (.bool b)=some (.bool (a == b)):=(Eq.refl _).trans (Eq.refl _)

theorem Zzh:ZwA .eql .nili .nili=some (.bool true):=(Eq.refl _).trans (Eq.refl _)
theorem Zzi:ZwA .neq .nili .nili=some (.bool false):=(Eq.refl _).trans (Eq.refl _)
theorem Zy0 (s:List UInt8) (n:Int) (H:Hp):extC .indexByte [.str s,.int .u8 n] H=some (.int .i64 (Zep (UInt8.ofNat n.toNat) s 0),H):=(Eq.refl _).trans (Eq.refl _)
theorem ZGP (s t:List UInt8) (H:Hp):extC .cmp [.str s,.str t] H=some (.int .i64 (cmpB s t),H):=(Eq.refl _).trans (Eq.refl _)
theorem ZBh (H1:Hp):∀ (n f:Nat) (v:AV),n < f→Zfm n v=true→Za6 H1 0 f v=some v:=by
 intro n
 induction n with
 | zero =>
  intro f v hf h
  cases f with
  | zero=>omega
  | succ f=>cases v <;> first | rfl | (simp [Zfm] at h;done)
 | succ n ih =>
  intro f v hf h
  cases f with
  | zero=>omega
  | succ f =>
   have hl:∀ l:List AV,l.all (Zfm n)=true→l.mapM (Za6 H1 0 f)=some l:=by
    intro l
    induction l with
    | nil=>intro _;rfl
    | cons x l ihl =>
     intro h
     rw [List.all_cons,Bool.and_eq_true] at h
     rw [List.mapM_cons,ih f x (by omega) h.1,ihl h.2]
     rfl
   cases v with
   | agg l=>simp only [Zfm] at h;simp only [Za6,hl l h]
   | tuple l=>simp only [Zfm] at h;simp only [Za6,hl l h]
   | _=>first | rfl | (simp [Zfm] at h;done)
theorem ZiE {call:List AV→Hp→Option (AV × Hp)} {args args':List AV} {H H1:Hp} {v v':AV} (ha:args.mapM (Za6 [] 0 6)=some args') (hc:call args' []=some (v,H1)) (hf:Za6 H1 0 6 v=some v'):Za5 call args H=some (v',H):=by
 unfold Za5
 simp only [ha,hc,hf]
theorem ZgN {call:List AV→Hp→Option (AV × Hp)} {args args':List AV} {H H1:Hp} {v:AV} (ha:args.mapM (Za6 [] 0 6)=some args') (hc:call args' []=some (v,H1)) (hf:Zfm 3 v=true):Za5 call args H=some (v,H) :=
 ZiE ha hc (ZBh H1 3 6 v (by omega) hf)
theorem Zai {n:Int} (h1:-9223372036854775808≤n) (h2:n≤9223372036854775807):IntKind.i64.wrap n=n:=by
 unfold IntKind.wrap
 have e1:(2 ^ IntKind.i64.bits:Int)=18446744073709551616:=by decide
 have e2:(2 ^ (IntKind.i64.bits - 1):Int)=9223372036854775808:=by decide
 have e3:IntKind.i64.signed=true:=(Eq.refl _).trans (Eq.refl _)
 simp only [e1,e2,e3,Bool.true_and,decide_eq_true_eq,ge_iff_le]
 split <;> omega

theorem Zdt {H:Hp} {o:Nat} {x:AObj} (h:H[o]?=some x) (l:List AObj):(H++l)[o]?=some x:=by
 rw [List.getElem?_append_left (Zam h)];exact h
theorem ZAg (H:Hp) (x:AObj) (l:List AObj):(H++(x :: l))[H.length]?=some x:=by simp
theorem Ze0 {H:Hp} {o i:Nat} {x:Option AObj} (y:AObj) (hn:i ≠ o) (h:H[o]?=x):(H.set i y)[o]?=x:=by
 rw [List.getElem?_set_ne hn];exact h
theorem Zdg {H:Hp} {o:Nat} {x:AObj} (y:AObj) (h:H[o]?=some x):(H.set o y)[o]?=some y:=by
 have:=Zam h;simp [this]
theorem ZeX {H:Hp} {o off:Nat} {l:List AV} (h:H[o]?=some (.cells l)) (g:Bool) (sz:Nat):Za2 g sz (.ptr o off) H=apart g sz l off:=by simp [Za2,h]
theorem Zh1 {H : Hp} {o off sz : Nat} {l : List AV} {v : AV} (h : H[o]? = some (.cells l)) (hk : v.known = true) (hs : v.cells.length = sz) (hl : off + sz ≤ l.length) :
    Zag sz (.ptr o off) v H=some (.tuple [],H.set o (.cells (splice l off v.cells))):=by simp [Zag,ZaQ,h,hk,hs,hl]
theorem Zoa {v:AV} {H:Hp} (h:v.known=true):abox v H=some (.ptr H.length 0,H++[.cells v.cells]):=by simp [abox,h]
theorem ZwL {H:Hp} {o:Nat} {l:List AV} (h:H[o]?=some (.cells l)) (k:AV→Hp→Res):frzK (.ptr o 0) H k=k (.vp l) (H.set o .dead):=by simp [frzK,frzV,h]
end
theorem ZCl {len cap:Nat} {n:Int} (k:IntKind) (h0:0≤n) (h1:n≤cap):Zba len cap none (some (.int k n)) none=some (0,n.toNat,cap):=by delta Zba;simp [ZbG,h0,h1]
theorem Zwb {len cap:Nat} {n:Int} (k:IntKind) (h0:0≤n) (h1:n≤len):Zba len cap (some (.int k n)) none none=some (n.toNat,len,cap):=by delta Zba;simp [ZbG,h0,h1]
theorem ZCm {len cap:Nat} {n m:Int} (k k':IntKind) (h0:0≤n) (h1:n≤m) (h2:m≤cap):Zba len cap (some (.int k n)) (some (.int k' m)) none=some (n.toNat,m.toNat,cap):=by
 have:0≤m:=by omega
 have h3:n≤max m 0:=by omega
 delta Zba;simp [ZbG,h0,h2,this,h3]
theorem ZCG {s:List UInt8} {n:Int} (k:IntKind) (h0:0≤n) (h1:n≤s.length):ZaE (.str s) none (some (.int k n)) none=some (.str (s.take n.toNat)):=by
 simp [ZaE,ZeY,ZCl k h0 h1]
theorem Zwl {s:List UInt8} {n:Int} (k:IntKind) (h0:0≤n) (h1:n≤s.length):ZaE (.str s) (some (.int k n)) none none=some (.str (s.drop n.toNat)):=by
 simp [ZaE,ZeY,Zwb k h0 h1]
theorem Zwk {s:List UInt8} {n m:Int} (k k':IntKind) (h0:0≤n) (h1:n≤m) (h2:m≤s.length):ZaE (.str s) (some (.int k n)) (some (.int k' m)) none=some (.str ((s.take m.toNat).drop n.toNat)):=by
 simp [ZaE,ZeY,ZCm k k' h0 h1 h2]
theorem Zwn (z:Nat) (k:IntKind):Zbc z .nils (some (.int k 0)) none none=some .nils:=by simp only [Zbc];delta Zba;simp [ZbG]
theorem ZCI {l:List AV} {n:Int} (z:Nat) (t:Tok) (k:IntKind) (h0:0≤n) (h1:n≤l.length):Zbc z (.vs z t l) (some (.int k n)) none none=some (.vs z t (l.drop n.toNat)):=by
 simp [Zbc,Zwb k h0 h1]
def Row (H:Hp) (k:Nat) (x:AV) (l:List AV):Prop:=x=.nils∧l=[] ∨ ∃ t e,x=.vs k (.own t e) l∧H[t]?=some (.tok e)
theorem Row.mono {H H':Hp} {k:Nat} {x:AV} {l:List AV} (h:Row H k x l) (hf:∀ (i e:Nat),H[i]?=some (.tok e)→H'[i]?=some (.tok e)):Row H' k x l :=
 h.imp id fun ⟨t,e,a,b⟩=>⟨t,e,a,hf _ _ b⟩
theorem Row.len {H:Hp} {k:Nat} {x:AV} {l:List AV} (h:Row H k x l) (e:Nat):Zaf (.slice e) x=some (.int .i64 l.length):=by
 rcases h with ⟨rfl,rfl⟩ | ⟨t,e',rfl,_⟩ <;> rfl
theorem Row.app {H : Hp} {k : Nat} {x : AV} {l : List AV} (h : Row H k x l) (bytes : Nat) (y : AV) (ys : List AV) (hy : elems k y H = some ys) (hf : (l.length + ys.length) * (bytes + 1) ≤ 140737488355328) :
    ∃ x' H',ZaH k bytes x y H=some (x',H')∧Row H' k x' (l++ys)∧H.length≤H'.length∧(∀ (i:Nat) (c:List AV),H[i]?=some (.cells c)→H'[i]?=some (.cells c)) ∧
     (∀ (i:Nat) (o:AObj),(∀ t e,x=.vs k (.own t e) l→i ≠ t)→H[i]?=some o→H'[i]?=some o):=by
 unfold ZaH
 simp only [hy]
 rcases h with ⟨rfl,rfl⟩ | ⟨t,e,rfl,ht⟩
 ·by_cases hn:ys=[]
  ·subst hn
   exact ⟨.nils,H,by simp [Zc0],.inl ⟨rfl,rfl⟩,Nat.le_refl _,fun _ _ h=>h,fun _ _ _ h=>h⟩
  ·have hfit:fits ys.length bytes=true:=by simpa [fits] using hf
   refine ⟨.vs k (.own H.length ys.length) ys,H++[.tok ys.length],by simp only [Zc0,hn,if_false,hfit,if_true],.inr ⟨H.length,ys.length,rfl,by simp⟩,by simp,fun i c h=>Zdt h _,fun i o _ h=>Zdt h _⟩
 ·have hfit:fits (l.length+ys.length) bytes=true:=by simpa [fits] using hf
  by_cases hn:ys=[]
  ·subst hn
   refine ⟨.vs k (.own t e) l,H,by simp only [Zc0,List.length_nil,Nat.add_zero] at hfit ⊢;simp only [hfit,and_self,if_true],.inr ⟨t,e,by simp,ht⟩,Nat.le_refl _,fun _ _ h=>h,fun _ _ _ h=>h⟩
  ·refine ⟨_,_,by simp only [Zc0,hfit,and_self,if_true,hn,if_false,ht],.inr ⟨t,e+ys.length,rfl,Zdg _ ht⟩,by simp,fun i c h=>?_,fun i o hi h=>?_⟩
   ·refine Ze0 _ (fun he=>?_) h
    subst he
    rw [ht] at h
    cases h
   ·exact Ze0 _ (fun he=>hi t e rfl he.symm) h

attribute [congr] ZEu ZEF ZF9 ZDl
attribute [go_sem] ZeZ ZGq ZJV ZJU ZFa ZJr ZJt ZJs ZIz ZI9 ZI8 ZIb ZGi ZI6 ZCr ZCq
 ZH3 ZH9 ZH7 ZH6 ZH5 ZH4 ZH2 ZHa ZH8 ZHs ZHt ZGh ZGg Zat ZI5 ZEi
 ZA9 ZAa ZA7 ZA8 Zzk Zzj Zzh Zzi Zy0 ZGP
end Go.Am
namespace Go.Am
end Go.Am
