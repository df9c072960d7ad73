/-
  THE ABSTRACT MACHINE, part S: code told piece by piece.
-/
import Derived.Test.YtehanadfidoodaaGreatDoorEmRx
namespace Go.Am
open RowKit

def ZJW (cut:List Nat) (b:Code):Bool :=
 match Zc1 b with
 | some r=>cut.contains r
 | none=>false
noncomputable def CXM (C:Cfg) (CL:Zas) (LP:Code→KL→AL→Hp→Res) (kp:Nat→Option (List Nat)) (n:Nat) (sq:SQ) (bl:BL) (self:Code→KL→AL→Hp→Res) (cut:List Nat):Code→KL→AL→Hp→Res
 | .skip,k,al,H=>k .normal al H
 | .region id ops draw,k,al,H=>if draw && !Zfr ops then none else frzO n (kp (id+1000000)) (regL C CL n ops draw (fun al' H'=>k .normal al' H')) al H
 | .seq a b, k, al, H => CXM C CL LP kp n sq bl self cut a (sq (match ZJW cut b with
     | true=>fun k' al' H'=>self b k' (Za8 kp b al') H'
     | false=>fun k' al' H'=>CXM C CL LP kp n sq bl self cut b k' (Za8 kp b al') H') k) al H
 | .cond c x y,k,al,H=>cnd (Zm3 C n al c) (CXM C CL LP kp n sq bl self cut x k al H) (CXM C CL LP kp n sq bl self cut y k al H)
 | .block id c,k,al,H=>CXM C CL LP kp n sq bl self cut c (bl id k) al H
 | .loop c,k,al,H=>LP c k (Za8 kp c al) H
 | .exit id,k,al,H=>k (.exit id) al H
 | .label _,k,al,H=>k .normal al H
 | .goto l,k,al,H=>k (.goto l) al H
 | .ret,k,al,H=>k .ret al H
 | _,_,_,_=>none

theorem Za3 {C : Cfg} {CL : Zas} {LP : Code → KL → AL → Hp → Res} {kp : Nat → Option (List Nat)} {n : Nat} {sq : SQ} {bl : BL} (cut : List Nat) : ∀ (c : Code) (k : KL) (al : AL) (H : Hp),
    CXL C CL LP kp n sq bl c k al H=CXM C CL LP kp n sq bl (CXL C CL LP kp n sq bl) cut c k al H:=by
 intro c
 induction c with
 | seq a b iha ihb =>
  intro k al H
  simp only [CXL,CXM]
  rw [iha]
  congr 1
  congr 1
  cases ZJW cut b with
  | true=>rfl
  | false =>
   funext k' al' H'
   exact ihb _ _ _
 | cond c x y ihx ihy=>intro k al H;simp only [CXL,CXM];rw [ihx,ihy]
 | block id c ih=>intro k al H;simp only [CXL,CXM];exact ih _ _ _
 | _=>intro k al H;rfl

section
variable {C:Cfg} {kp:Nat→Option (List Nat)} {n:Nat}
theorem Zar {c : Code} {kL : KL} (cut : List Nat) (h : Tame n kL) (al : AL) (H : Hp) : LPL C kp n c kL al H =
    CXM C (Za7 C) (LPL C kp n) kp n seqL Za4 (CXL C (Za7 C) (LPL C kp n) kp n seqL Za4) cut c (seqL (fun k' al' H'=>LPL C kp n c k' (Za8 kp c al') H') kL) (Za8 kp c al) H:=by
 rw [← Za3]
 exact ZLA h al H
theorem Za9 {f : FuncId} {fn : Func} {c : Code} (cut : List Nat) (hf : C.P.funcs[f]? = some fn) (hb : fn.body = some c) (hN : fn.ntmps = n) (args : List AV) (hn : Nat.ble args.length n = true) (H : Hp) :
    Za7 C f args H=CXM C (Za7 C) (LPL C (C.keep f) n) (C.keep f) n seqL Za4 (CXL C (Za7 C) (LPL C (C.keep f) n) (C.keep f) n seqL Za4) cut c (retL C n f fn H) (ZqE 0 args) H:=by
 rw [← Za3]
 exact ZFH hf hb hN args hn H
end
end Go.Am
namespace Go.Am

section
variable {α β:Type}
theorem Ze9 (x:α) (f:α→Option β):bnd (some x) f=f x:=(Eq.refl _).trans (Eq.refl _)
theorem ZI9 (f:α→Option β):bnd (none:Option α) f=none:=(Eq.refl _).trans (Eq.refl _)
theorem ZFF {x x':Option α} (h:x=x') (f:α→Option β):bnd x f=bnd x' f:=by rw [h]
theorem ZFP {c c':AV} (h:c=c') (x y:Res):cnd c x y=cnd c' x y:=by rw [h]
theorem ZGp {g g':AV} (h:g=g') (w:Bool) (e:α) (x:Option α):gdv g w e x=gdv g' w e x:=by rw [h]
theorem ZEn {a a':AV} (h:a=a') (H:Hp) (k:AV→Hp→Res):frzK a H k=frzK a' H k:=by rw [h]
theorem ZMD (x y:Res):cnd (.bool true) x y=x:=(Eq.refl _).trans (Eq.refl _)
theorem ZMC (x y:Res):cnd (.bool false) x y=y:=(Eq.refl _).trans (Eq.refl _)
theorem ZAW (e:α) (x:Option α):gdv (.bool true) true e x=x:=(Eq.refl _).trans (Eq.refl _)
theorem ZM1 (e:α) (x:Option α):gdv (.bool false) false e x=x:=(Eq.refl _).trans (Eq.refl _)
theorem ZM3 (e:α) (x:Option α):gdv (.bool true) false e x=some e:=(Eq.refl _).trans (Eq.refl _)
theorem ZM2 (e:α) (x:Option α):gdv (.bool false) true e x=some e:=(Eq.refl _).trans (Eq.refl _)
theorem ZKS (l:List AV) (w:Bool) (e:α) (x:Option α):gdv (.tuple l) w e x=some e:=(Eq.refl _).trans (Eq.refl _)
theorem ZKn (a b:AV):Zad (.bool true) a b=some a:=(Eq.refl _).trans (Eq.refl _)
theorem ZKm (a b:AV):Zad (.bool false) a b=some b:=(Eq.refl _).trans (Eq.refl _)
theorem ZKp (b:Bool):aun .not (.bool b)=some (.bool (!b)):=(Eq.refl _).trans (Eq.refl _)
theorem ZI2 (o off:Nat):anil (.ptr o off)=some (.ptr o off):=(Eq.refl _).trans (Eq.refl _)
theorem ZKk (l:List AV):anil (.vp l)=some (.vp l):=(Eq.refl _).trans (Eq.refl _)
theorem ZDu (k o off:Nat):Za5 k (.ptr o off)=some (.ptr o (off+k)):=(Eq.refl _).trans (Eq.refl _)
theorem ZDt (l:List AV) (i:Nat):aext (.tuple l) i=l[i]?:=(Eq.refl _).trans (Eq.refl _)
theorem ZIW (k:IntKind) (a b:Int):ibin .eql (.int k a) (.int k b)=some (.bool (a == b)):=by simp [ibin,ZbR,ZbS]
theorem ZJ2 (k:IntKind) (a b:Int):ibin .neq (.int k a) (.int k b)=some (.bool (a != b)):=by simp [ibin,ZbR,ZbS]
theorem ZJ0 (k:IntKind) (a b:Int):ibin .lss (.int k a) (.int k b)=some (.bool (decide (a < b))):=by simp [ibin,ZbR,ZbS]
theorem ZIZ (k:IntKind) (a b:Int):ibin .leq (.int k a) (.int k b)=some (.bool (decide (a≤b))):=by simp [ibin,ZbR,ZbS]
theorem ZIY (k:IntKind) (a b:Int):ibin .gtr (.int k a) (.int k b)=some (.bool (decide (b < a))):=by simp [ibin,ZbR,ZbS]
theorem ZIX (k:IntKind) (a b:Int):ibin .geq (.int k a) (.int k b)=some (.bool (decide (b≤a))):=by simp [ibin,ZbR,ZbS]
theorem ZIV (k:IntKind) (a b:Int):ibin .add (.int k a) (.int k b)=some (.int k (k.wrap (a+b))):=by simp [ibin,ZbR,ZbS]
theorem ZJ3 (k:IntKind) (a b:Int):ibin .sub (.int k a) (.int k b)=some (.int k (k.wrap (a - b))):=by simp [ibin,ZbR,ZbS]
theorem ZJ1 (k:IntKind) (a b:Int):ibin .mul (.int k a) (.int k b)=some (.int k (k.wrap (a * b))):=by simp [ibin,ZbR,ZbS]
theorem ZJz (a b:List UInt8):sbin .eql (.str a) (.str b)=some (.bool (a == b)):=(Eq.refl _).trans (Eq.refl _)
theorem ZJA (a b:List UInt8):sbin .neq (.str a) (.str b)=some (.bool (!(a == b))):=(Eq.refl _).trans (Eq.refl _)
theorem Znp {a b:List UInt8} (h:a.length+b.length≤9223372036854775807):sbin .add (.str a) (.str b)=some (.str (a++b)):=by simp [sbin,ZhI,h]
theorem ZI1 (k:IntKind) (a b:Int):ZdQ (.int k a) (.int k b)=some (.int k (min a b)):=by
 simp only [ZdQ,if_true,Option.some.injEq,AV.int.injEq,true_and]
 split <;> omega
theorem ZI0 (k:IntKind) (a b:Int):ZhY (.int k a) (.int k b)=some (.int k (max a b)):=by
 simp only [ZhY,if_true,Option.some.injEq,AV.int.injEq,true_and]
 split <;> omega
theorem ZaZ (s:List UInt8):Zae .string (.str s)=some (.int .i64 s.length):=(Eq.refl _).trans (Eq.refl _)
theorem ZKj (e k:Nat) (t:Tok) (l:List AV):Zae (.slice e) (.vs k t l)=some (.int .i64 l.length):=(Eq.refl _).trans (Eq.refl _)
theorem ZFs (e:Nat):Zae (.slice e) .nils=some (.int .i64 0):=(Eq.refl _).trans (Eq.refl _)
theorem ZAJ (t o off:Nat):ebin (.pointer t) .eql (.ptr o off) .nilp=some (.bool false):=(Eq.refl _).trans (Eq.refl _)
theorem ZAK (t o off:Nat):ebin (.pointer t) .neq (.ptr o off) .nilp=some (.bool true):=(Eq.refl _).trans (Eq.refl _)
theorem ZAH (t:Nat):ebin (.pointer t) .eql .nilp .nilp=some (.bool true):=(Eq.refl _).trans (Eq.refl _)
theorem ZAI (t:Nat):ebin (.pointer t) .neq .nilp .nilp=some (.bool false):=(Eq.refl _).trans (Eq.refl _)
theorem ZzT (a b:Bool):ebin .bool .neq (.bool a) (.bool b)=some (.bool (!(a == b))):=(Eq.refl _).trans (Eq.refl _)
theorem ZzS (a b:Bool):ebin .bool .eql (.bool a) (.bool b)=some (.bool (a == b)):=(Eq.refl _).trans (Eq.refl _)

theorem ZzQ:Zxd .eql .nili .nili=some (.bool true):=(Eq.refl _).trans (Eq.refl _)
theorem ZzR:Zxd .neq .nili .nili=some (.bool false):=(Eq.refl _).trans (Eq.refl _)
theorem Zyy (s:List UInt8) (n:Int) (H:Hp):extC .indexByte [.str s,.int .u8 n] H=some (.int .i64 (Zfi (UInt8.ofNat n.toNat) s 0),H):=(Eq.refl _).trans (Eq.refl _)
theorem ZIH (s t:List UInt8) (H:Hp):extC .cmp [.str s,.str t] H=some (.int .i64 (cmpB s t),H):=(Eq.refl _).trans (Eq.refl _)
theorem ZCe (H1:Hp):∀ (n f:Nat) (v:AV),n < f→Zgn n v=true→Za6 H1 0 f v=some v:=by
 intro n
 induction n with
 | zero =>
  intro f v hf h
  cases f with
  | zero=>omega
  | succ f=>cases v <;> first | rfl | (simp [Zgn] at h;done)
 | succ n ih =>
  intro f v hf h
  cases f with
  | zero=>omega
  | succ f =>
   have hl:∀ l:List AV,l.all (Zgn n)=true→l.mapM (Za6 H1 0 f)=some l:=by
    intro l
    induction l with
    | nil=>intro _;rfl
    | cons x l ihl =>
     intro h
     rw [List.all_cons,Bool.and_eq_true] at h
     rw [List.mapM_cons,ih f x (by omega) h.1,ihl h.2]
     rfl
   cases v with
   | agg l=>simp only [Zgn] at h;simp only [Za6,hl l h]
   | tuple l=>simp only [Zgn] at h;simp only [Za6,hl l h]
   | _=>first | rfl | (simp [Zgn] at h;done)
theorem Zk6 {call:List AV→Hp→Option (AV × Hp)} {args args':List AV} {H H1:Hp} {v v':AV} (ha:args.mapM (Za6 [] 0 6)=some args') (hc:call args' []=some (v,H1)) (hf:Za6 H1 0 6 v=some v'):Zaa call args H=some (v',H):=by
 unfold Zaa
 simp only [ha,hc,hf]
theorem Zn9 {call:List AV→Hp→Option (AV × Hp)} {args args':List AV} {H H1:Hp} {v:AV} (ha:args.mapM (Za6 [] 0 6)=some args') (hc:call args' []=some (v,H1)) (hf:Zgn 3 v=true):Zaa call args H=some (v,H) :=
 Zk6 ha hc (ZCe H1 3 6 v (by omega) hf)
theorem Zaj {n:Int} (h1:-9223372036854775808≤n) (h2:n≤9223372036854775807):IntKind.i64.wrap n=n:=by
 unfold IntKind.wrap
 have e1:(2 ^ IntKind.i64.bits:Int)=18446744073709551616:=by decide
 have e2:(2 ^ (IntKind.i64.bits - 1):Int)=9223372036854775808:=by decide
 have e3:IntKind.i64.signed=true:=(Eq.refl _).trans (Eq.refl _)
 simp only [e1,e2,e3,Bool.true_and,decide_eq_true_eq,ge_iff_le]
 split <;> omega

theorem ZaS {H:Hp} {o:Nat} {x:AObj} (h:H[o]?=some x) (l:List AObj):(H++l)[o]?=some x:=by
 rw [List.getElem?_append_left (Zac h)];exact h
theorem ZAZ (H:Hp) (x:AObj) (l:List AObj):(H++(x :: l))[H.length]?=some x:=by simp
theorem ZaO {H:Hp} {o i:Nat} {x:Option AObj} (y:AObj) (hn:i ≠ o) (h:H[o]?=x):(H.set i y)[o]?=x:=by
 rw [List.getElem?_set_ne hn];exact h
theorem Zam {H:Hp} {o:Nat} {x:AObj} (y:AObj) (h:H[o]?=some x):(H.set o y)[o]?=some y:=by
 have:=Zac h;simp [this]
theorem Ze8 {H:Hp} {o off:Nat} {l:List AV} (h:H[o]?=some (.cells l)) (g:Bool) (sz:Nat):Za2 g sz (.ptr o off) H=apart g sz l off:=by simp [Za2,h]
theorem ZdR {H : Hp} {o off sz : Nat} {l : List AV} {v : AV} (h : H[o]? = some (.cells l)) (hk : v.known = true) (hs : v.cells.length = sz) (hl : off + sz ≤ l.length) :
    Zab sz (.ptr o off) v H=some (.tuple [],H.set o (.cells (splice l off v.cells))):=by simp [Zab,ZbG,h,hk,hs,hl]
theorem Zk2 {v:AV} {H:Hp} (h:v.known=true):abox v H=some (.ptr H.length 0,H++[.cells v.cells]):=by simp [abox,h]
theorem Zq1 {H:Hp} {o:Nat} {l:List AV} (h:H[o]?=some (.cells l)) (k:AV→Hp→Res):frzK (.ptr o 0) H k=k (.vp l) (H.set o .dead):=by simp [frzK,frzV,h]
end
def bv (b:UInt8):AV:=.int .u8 b.toNat
theorem ZCa:∀ (l:List UInt8),Zct (l.map bv)=some l:=by
 intro l
 induction l with
 | nil=>rfl
 | cons b l ih =>
  simp only [List.map_cons,bv,Zct]
  rw [show List.map bv l=l.map bv from rfl,ih]
  simp
theorem ZIr (t:Tok) (l:List UInt8):ZeF (.vs 1 t (l.map bv))=some (.str l):=by simp [ZeF,ZCa]
theorem ZDp {len cap:Nat} {n:Int} (k:IntKind) (h0:0≤n) (h1:n≤cap):Zb8 len cap none (some (.int k n)) none=some (0,n.toNat,cap):=by delta Zb8;simp [ZbP,h0,h1]
theorem ZwS {len cap:Nat} {n:Int} (k:IntKind) (h0:0≤n) (h1:n≤len):Zb8 len cap (some (.int k n)) none none=some (n.toNat,len,cap):=by delta Zb8;simp [ZbP,h0,h1]
theorem ZqC {len cap:Nat} {n m:Int} (k k':IntKind) (h0:0≤n) (h1:n≤m) (h2:m≤cap):Zb8 len cap (some (.int k n)) (some (.int k' m)) none=some (n.toNat,m.toNat,cap):=by
 have:0≤m:=by omega
 have h3:n≤max m 0:=by omega
 delta Zb8;simp [ZbP,h0,h2,this,h3]
theorem ZDJ {s:List UInt8} {n:Int} (k:IntKind) (h0:0≤n) (h1:n≤s.length):ZaL (.str s) none (some (.int k n)) none=some (.str (s.take n.toNat)):=by
 simp [ZaL,Zg1,ZDp k h0 h1]
theorem ZqG {s:List UInt8} {n:Int} (k:IntKind) (h0:0≤n) (h1:n≤s.length):ZaL (.str s) (some (.int k n)) none none=some (.str (s.drop n.toNat)):=by
 simp [ZaL,Zg1,ZwS k h0 h1]
theorem ZqF {s:List UInt8} {n m:Int} (k k':IntKind) (h0:0≤n) (h1:n≤m) (h2:m≤s.length):ZaL (.str s) (some (.int k n)) (some (.int k' m)) none=some (.str ((s.take m.toNat).drop n.toNat)):=by
 simp [ZaL,Zg1,ZqC k k' h0 h1 h2]
theorem ZwZ (z:Nat) (k:IntKind):Zb1 z .nils (some (.int k 0)) none none=some .nils:=by simp only [Zb1];delta Zb8;simp [ZbP]
theorem ZDL {l:List AV} {n:Int} (z:Nat) (t:Tok) (k:IntKind) (h0:0≤n) (h1:n≤l.length):Zb1 z (.vs z t l) (some (.int k n)) none none=some (.vs z t (l.drop n.toNat)):=by
 simp [Zb1,ZwS k h0 h1]
def Row (H:Hp) (k:Nat) (x:AV) (l:List AV):Prop:=x=.nils∧l=[] ∨ ∃ t e,x=.vs k (.own t e) l∧H[t]?=some (.tok e)
theorem Row.mono {H H':Hp} {k:Nat} {x:AV} {l:List AV} (h:Row H k x l) (hf:∀ (i e:Nat),H[i]?=some (.tok e)→H'[i]?=some (.tok e)):Row H' k x l :=
 h.imp id fun ⟨t,e,a,b⟩=>⟨t,e,a,hf _ _ b⟩
theorem Row.len {H:Hp} {k:Nat} {x:AV} {l:List AV} (h:Row H k x l) (e:Nat):Zae (.slice e) x=some (.int .i64 l.length):=by
 rcases h with ⟨rfl,rfl⟩ | ⟨t,e',rfl,_⟩ <;> rfl
theorem Row.app {H : Hp} {k : Nat} {x : AV} {l : List AV} (h : Row H k x l) (bytes : Nat) (y : AV) (ys : List AV) (hy : elems k y H = some ys) (hf : (l.length + ys.length) * (bytes + 1) ≤ 140737488355328) :
    ∃ x' H',ZaH k bytes x y H=some (x',H')∧Row H' k x' (l++ys)∧H.length≤H'.length∧(∀ (i:Nat) (c:List AV),H[i]?=some (.cells c)→H'[i]?=some (.cells c)) ∧
     (∀ (i:Nat) (o:AObj),(∀ t e,x=.vs k (.own t e) l→i ≠ t)→H[i]?=some o→H'[i]?=some o):=by
 unfold ZaH
 simp only [hy]
 rcases h with ⟨rfl,rfl⟩ | ⟨t,e,rfl,ht⟩
 ·by_cases hn:ys=[]
  ·subst hn
   exact ⟨.nils,H,by simp [ZaJ],.inl ⟨rfl,rfl⟩,Nat.le_refl _,fun _ _ h=>h,fun _ _ _ h=>h⟩
  ·have hfit:fits ys.length bytes=true:=by simpa [fits] using hf
   refine ⟨.vs k (.own H.length ys.length) ys,H++[.tok ys.length],by simp only [ZaJ,hn,if_false,hfit,if_true],.inr ⟨H.length,ys.length,rfl,by simp⟩,by simp,fun i c h=>ZaS h _,fun i o _ h=>ZaS h _⟩
 ·have hfit:fits (l.length+ys.length) bytes=true:=by simpa [fits] using hf
  by_cases hn:ys=[]
  ·subst hn
   refine ⟨.vs k (.own t e) l,H,by simp only [ZaJ,List.length_nil,Nat.add_zero] at hfit ⊢;simp only [hfit,and_self,if_true],.inr ⟨t,e,by simp,ht⟩,Nat.le_refl _,fun _ _ h=>h,fun _ _ _ h=>h⟩
  ·refine ⟨_,_,by simp only [ZaJ,hfit,and_self,if_true,hn,if_false,ht],.inr ⟨t,e+ys.length,rfl,Zam _ ht⟩,by simp,fun i c h=>?_,fun i o hi h=>?_⟩
   ·refine ZaO _ (fun he=>?_) h
    subst he
    rw [ht] at h
    cases h
   ·exact ZaO _ (fun he=>hi t e rfl he.symm) h

attribute [congr] ZFF ZFP ZGp ZEn
attribute [go_sem] Ze9 ZI9 ZMD ZMC ZAW ZM1 ZM3 ZM2 ZKS ZKn ZKm ZKp ZI2 ZKk ZDu ZDt
 ZIW ZJ2 ZJ0 ZIZ ZIY ZIX ZIV ZJ3 ZJ1 ZJz ZJA ZI1 ZI0 ZaZ ZKj ZFs
 ZAJ ZAK ZAH ZAI ZzT ZzS ZzQ ZzR Zyy ZIH
end Go.Am
namespace Go.Am
end Go.Am
