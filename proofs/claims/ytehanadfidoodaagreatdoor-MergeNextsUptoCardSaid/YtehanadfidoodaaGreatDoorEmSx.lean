/-
  THE ABSTRACT MACHINE, part S: code told piece by piece.
-/
import Derived.Test.YtehanadfidoodaaGreatDoorEmRx
namespace Go.Am
open RowKit
def Zug (cut:List Nat)(b:Code):Bool :=
 match XJ b with
 |some r=>cut.contains r
 |none=>false
noncomputable def HW (C:Cfg)(CL:ZG)(LP:Code→KL→AL→Hp→Z4)(kp:Nat→Option (List Nat))(n:Nat)(sq:SQ)(bl:BL)(self:Code→KL→AL→Hp→Z4)(cut:List Nat):Code→KL→AL→Hp→Z4
 |.skip,k,al,H=>k .normal al H
 |.region id ops draw,k,al,H=>if draw&&!QI ops then none else Zoe n (kp (id+1000000)) (ZoN C CL n ops draw (fun al' H'=>k .normal al' H')) al H
 |.seq a b,k,al,H=>HW C CL LP kp n sq bl self cut a (sq (match Zug cut b with
  |true=>fun k' al' H'=>self b k' (ZP kp b al') H'
  |false=>fun k' al' H'=>HW C CL LP kp n sq bl self cut b k' (ZP kp b al') H') k) al H
 |.cond c x y,k,al,H=>Zk (Pq C n al c) (HW C CL LP kp n sq bl self cut x k al H) (HW C CL LP kp n sq bl self cut y k al H)
 |.block id c,k,al,H=>HW C CL LP kp n sq bl self cut c (bl id k) al H
 |.loop c,k,al,H=>LP c k (ZP kp c al) H
 |.exit id,k,al,H=>k (.exit id) al H
 |.label _,k,al,H=>k .normal al H
 |.goto l,k,al,H=>k (.goto l) al H
 |.ret,k,al,H=>k .ret al H
 |_,_,_,_=>none
theorem VI {C:Cfg}{CL:ZG}{LP:Code→KL→AL→Hp→Z4}{kp:Nat→Option (List Nat)}{n:Nat}{sq:SQ}{bl:BL}(cut:List Nat):∀ (c:Code) (k:KL) (al:AL) (H:Hp),
 Y1 C CL LP kp n sq bl c k al H=HW C CL LP kp n sq bl (Y1 C CL LP kp n sq bl) cut c k al H:=by
 intro c
 induction c with
 |seq a b iha ihb =>
  intro k al H
  simp only[Y1,HW]
  rw[iha]
  congr 1
  congr 1
  cases Zug cut b with
  |true=>rfl
  |false =>
   funext k' al' H'
   exact ihb _ _ _
 |cond c x y ihx ihy=>intro k al H;simp only[Y1,HW];rw[ihx,ihy]
 |block id c ih=>intro k al H;simp only[Y1,HW];exact ih _ _ _
 |_=>intro k al H;rfl
section
variable {C:Cfg}{kp:Nat→Option (List Nat)}{n:Nat}
theorem Zx {c:Code}{kL:KL}(cut:List Nat)(h:ZL n kL)(al:AL)(H:Hp):ZQ C kp n c kL al H =
 HW C (Za C) (ZQ C kp n) kp n Zb Z7 (Y1 C (Za C) (ZQ C kp n) kp n Zb Z7) cut c (Zb (fun k' al' H'=>ZQ C kp n c k' (ZP kp c al') H') kL) (ZP kp c al) H:=by
 rw[←VI]
 exact ZvT h al H
theorem Zd {f:FuncId}{fn:Func}{c:Code}(cut:List Nat)(hf:C.P.funcs[f]?=some fn)(hb:fn.body=some c)(hN:fn.ntmps=n)(args:List AV)(hn:Nat.ble args.length n=true)(H:Hp) :
 Za C f args H=HW C (Za C) (ZQ C (C.keep f) n) (C.keep f) n Zb Z7 (Y1 C (Za C) (ZQ C (C.keep f) n) (C.keep f) n Zb Z7) cut c (Zf C n f fn H) (CE 0 args) H:=by
 rw[←VI]
 exact ZpK hf hb hN args hn H
end
end Go.Am
namespace Go.Am
section
variable {α β:Type}
theorem Vd (x:α)(f:α→Option β):Z0 (some x) f=f x:=(Eq.refl _).trans (Eq.refl _)
theorem Zsj (f:α→Option β):Z0 (none:Option α) f=none:=(Eq.refl _).trans (Eq.refl _)
theorem ZpI {x x':Option α}(h:x=x')(f:α→Option β):Z0 x f=Z0 x' f:=by rw[h]
theorem ZpT {c c':AV}(h:c=c')(x y:Z4):Zk c x y=Zk c' x y:=by rw[h]
theorem Zqv {g g':AV}(h:g=g')(w:Bool)(e:α)(x:Option α):Z6 g w e x=Z6 g' w e x:=by rw[h]
theorem Zod {a a':AV}(h:a=a')(H:Hp)(k:AV→Hp→Z4):Xl a H k=Xl a' H k:=by rw[h]
theorem ZwZ (x y:Z4):Zk (.bool true) x y=x:=(Eq.refl _).trans (Eq.refl _)
theorem ZwY (x y:Z4):Zk (.bool false) x y=y:=(Eq.refl _).trans (Eq.refl _)
theorem ZkC (e:α)(x:Option α):Z6 (.bool true) true e x=x:=(Eq.refl _).trans (Eq.refl _)
theorem Zwo (e:α)(x:Option α):Z6 (.bool false) false e x=x:=(Eq.refl _).trans (Eq.refl _)
theorem Zwq (e:α)(x:Option α):Z6 (.bool true) false e x=some e:=(Eq.refl _).trans (Eq.refl _)
theorem Zwp (e:α)(x:Option α):Z6 (.bool false) true e x=some e:=(Eq.refl _).trans (Eq.refl _)
theorem Zvc (l:List AV)(w:Bool)(e:α)(x:Option α):Z6 (.tuple l) w e x=some e:=(Eq.refl _).trans (Eq.refl _)
theorem ZuJ (a b:AV):Zg (.bool true) a b=some a:=(Eq.refl _).trans (Eq.refl _)
theorem ZuI (a b:AV):Zg (.bool false) a b=some b:=(Eq.refl _).trans (Eq.refl _)
theorem ZuL (b:Bool):X9 .not (.bool b)=some (.bool (!b)):=(Eq.refl _).trans (Eq.refl _)
theorem Zsc (o off:Nat):ZI (.ptr o off)=some (.ptr o off):=(Eq.refl _).trans (Eq.refl _)
theorem ZuG (l:List AV):ZI (.vp l)=some (.vp l):=(Eq.refl _).trans (Eq.refl _)
theorem Znj (k o off:Nat):Z8 k (.ptr o off)=some (.ptr o (off+k)):=(Eq.refl _).trans (Eq.refl _)
theorem Zni (l:List AV)(i:Nat):ZM (.tuple l) i=l[i]?:=(Eq.refl _).trans (Eq.refl _)
theorem Zta (k:IntKind)(a b:Int):Z5 .eql (.int k a) (.int k b)=some (.bool (a==b)):=by simp[Z5,Xz,XA]
theorem Ztg (k:IntKind)(a b:Int):Z5 .neq (.int k a) (.int k b)=some (.bool (a != b)):=by simp[Z5,Xz,XA]
theorem Zte (k:IntKind)(a b:Int):Z5 .lss (.int k a) (.int k b)=some (.bool (decide (a<b))):=by simp[Z5,Xz,XA]
theorem Ztd (k:IntKind)(a b:Int):Z5 .leq (.int k a) (.int k b)=some (.bool (decide (a≤b))):=by simp[Z5,Xz,XA]
theorem Ztc (k:IntKind)(a b:Int):Z5 .gtr (.int k a) (.int k b)=some (.bool (decide (b<a))):=by simp[Z5,Xz,XA]
theorem Ztb (k:IntKind)(a b:Int):Z5 .geq (.int k a) (.int k b)=some (.bool (decide (b≤a))):=by simp[Z5,Xz,XA]
theorem Zt9 (k:IntKind)(a b:Int):Z5 .add (.int k a) (.int k b)=some (.int k (k.wrap (a+b))):=by simp[Z5,Xz,XA]
theorem Zth (k:IntKind)(a b:Int):Z5 .sub (.int k a) (.int k b)=some (.int k (k.wrap (a-b))):=by simp[Z5,Xz,XA]
theorem Ztf (k:IntKind)(a b:Int):Z5 .mul (.int k a) (.int k b)=some (.int k (k.wrap (a*b))):=by simp[Z5,Xz,XA]
theorem ZtP (a b:List UInt8):Yq .eql (.str a) (.str b)=some (.bool (a==b)):=(Eq.refl _).trans (Eq.refl _)
theorem ZtQ (a b:List UInt8):Yq .neq (.str a) (.str b)=some (.bool (!(a==b))):=(Eq.refl _).trans (Eq.refl _)
theorem Mj {a b:List UInt8}(h:a.length+b.length≤9223372036854775807):Yq .add (.str a) (.str b)=some (.str (a++b)):=by simp[Yq,Gj,h]
theorem Zsa (k:IntKind)(a b:Int):VO (.int k a) (.int k b)=some (.int k (min a b)):=by
 simp only[VO,if_true,Option.some.injEq,AV.int.injEq,true_and]
 split <;> omega
theorem Zs9 (k:IntKind)(a b:Int):GQ (.int k a) (.int k b)=some (.int k (max a b)):=by
 simp only[GQ,if_true,Option.some.injEq,AV.int.injEq,true_and]
 split <;> omega
theorem ZJ (s:List UInt8):Zj .string (.str s)=some (.int .i64 s.length):=(Eq.refl _).trans (Eq.refl _)
theorem ZuF (e k:Nat)(t:Tok)(l:List AV):Zj (.slice e) (.vs k t l)=some (.int .i64 l.length):=(Eq.refl _).trans (Eq.refl _)
theorem Zpw (e:Nat):Zj (.slice e) .nils=some (.int .i64 0):=(Eq.refl _).trans (Eq.refl _)
theorem Zkp (t o off:Nat):X1 (.pointer t) .eql (.ptr o off) .nilp=some (.bool false):=(Eq.refl _).trans (Eq.refl _)
theorem Zkq (t o off:Nat):X1 (.pointer t) .neq (.ptr o off) .nilp=some (.bool true):=(Eq.refl _).trans (Eq.refl _)
theorem Zkn (t:Nat):X1 (.pointer t) .eql .nilp .nilp=some (.bool true):=(Eq.refl _).trans (Eq.refl _)
theorem Zko (t:Nat):X1 (.pointer t) .neq .nilp .nilp=some (.bool false):=(Eq.refl _).trans (Eq.refl _)
theorem Zjo (a b:Bool):X1 .bool .neq (.bool a) (.bool b)=some (.bool (!(a==b))):=(Eq.refl _).trans (Eq.refl _)
theorem Zjn (a b:Bool):X1 .bool .eql (.bool a) (.bool b)=some (.bool (a==b)):=(Eq.refl _).trans (Eq.refl _)
theorem Zjl:Zg1 .eql .nili .nili=some (.bool true):=(Eq.refl _).trans (Eq.refl _)
theorem Zjm:Zg1 .neq .nili .nili=some (.bool false):=(Eq.refl _).trans (Eq.refl _)
theorem ZhO (s:List UInt8)(n:Int)(H:Hp):Zar .indexByte [.str s,.int .u8 n] H=some (.int .i64 (Qw (UInt8.ofNat n.toNat) s 0),H):=(Eq.refl _).trans (Eq.refl _)
theorem ZsT (s t:List UInt8)(H:Hp):Zar .cmp [.str s,.str t] H=some (.int .i64 (Ub s t),H):=(Eq.refl _).trans (Eq.refl _)
theorem ZlZ (H1:Hp):∀ (n f:Nat) (v:AV),n<f→QU n v=true→Ze H1 0 f v=some v:=by
 intro n
 induction n with
 |zero =>
  intro f v hf h
  cases f with
  |zero=>omega
  |succ f=>cases v <;> first|rfl|(simp[QU]at h;done)
 |succ n ih =>
  intro f v hf h
  cases f with
  |zero=>omega
  |succ f =>
   have hl:∀ l:List AV,l.all (QU n)=true→l.mapM (Ze H1 0 f)=some l:=by
    intro l
    induction l with
    |nil=>intro _;rfl
    |cons x l ihl =>
     intro h
     rw[List.all_cons,Bool.and_eq_true]at h
     rw[List.mapM_cons,ih f x (by omega) h.1,ihl h.2]
     rfl
   cases v with
   |agg l=>simp only[QU]at h;simp only[Ze,hl l h]
   |tuple l=>simp only[QU]at h;simp only[Ze,hl l h]
   |_=>first|rfl|(simp[QU]at h;done)
theorem GZ {call:List AV→Hp→Option (AV×Hp)}{args args':List AV}{H H1:Hp}{v v':AV}(ha:args.mapM (Ze [] 0 6)=some args')(hc:call args' []=some (v,H1))(hf:Ze H1 0 6 v=some v'):Zc call args H=some (v',H):=by
 unfold Zc
 simp only[ha,hc,hf]
theorem Ju {call:List AV→Hp→Option (AV×Hp)}{args args':List AV}{H H1:Hp}{v:AV}(ha:args.mapM (Ze [] 0 6)=some args')(hc:call args' []=some (v,H1))(hf:QU 3 v=true):Zc call args H=some (v,H) :=
 GZ ha hc (ZlZ H1 3 6 v (by omega) hf)
theorem Zq {n:Int}(h1:-9223372036854775808≤n)(h2:n≤9223372036854775807):IntKind.i64.wrap n=n:=by
 unfold IntKind.wrap
 have e1:(2 ^ IntKind.i64.bits:Int)=18446744073709551616:=by decide
 have e2:(2 ^ (IntKind.i64.bits-1):Int)=9223372036854775808:=by decide
 have e3:IntKind.i64.signed=true:=(Eq.refl _).trans (Eq.refl _)
 simp only[e1,e2,e3,Bool.true_and,decide_eq_true_eq,ge_iff_le]
 split <;> omega
theorem Yy {H:Hp}{o:Nat}{x:AObj}(h:H[o]?=some x)(l:List AObj):(H++l)[o]?=some x:=by
 rw[List.getElem?_append_left (Zp h)];exact h
theorem ZkF (H:Hp)(x:AObj)(l:List AObj):(H++(x::l))[H.length]?=some x:=by simp
theorem Yd {H:Hp}{o i:Nat}{x:Option AObj}(y:AObj)(hn:i≠o)(h:H[o]?=x):(H.set i y)[o]?=x:=by
 rw[List.getElem?_set_ne hn];exact h
theorem ZB {H:Hp}{o:Nat}{x:AObj}(y:AObj)(h:H[o]?=some x):(H.set o y)[o]?=some y:=by
 have:=Zp h;simp[this]
theorem Wf {H:Hp}{o off:Nat}{l:List AV}(h:H[o]?=some (.cells l))(g:Bool)(sz:Nat):Z3 g sz (.ptr o off) H=apart g sz l off:=by simp[Z3,h]
theorem Wu {H:Hp}{o off sz:Nat}{l:List AV}{v:AV}(h:H[o]?=some (.cells l))(hk:v.known=true)(hs:v.cells.length=sz)(hl:off+sz≤l.length) :
 Zi sz (.ptr o off) v H=some (.tuple [],H.set o (.cells (splice l off v.cells))):=by simp[Zi,YB,h,hk,hs,hl]
theorem Bn {v:AV}{H:Hp}(h:v.known=true):ZU v H=some (.ptr H.length 0,H++[.cells v.cells]):=by simp[ZU,h]
theorem M2 {H:Hp}{o:Nat}{l:List AV}(h:H[o]?=some (.cells l))(k:AV→Hp→Z4):Xl (.ptr o 0) H k=k (.vp l) (H.set o .dead):=by simp[Xl,FN,h]
end
def bv (b:UInt8):AV:=.int .u8 b.toNat
theorem ZlU:∀ (l:List UInt8),Wg (l.map bv)=some l:=by
 intro l
 induction l with
 |nil=>rfl
 |cons b l ih =>
  simp only[List.map_cons,bv,Wg]
  rw[show List.map bv l=l.map bv from rfl,ih]
  simp
theorem ZsD (t:Tok)(l:List UInt8):UQ (.vs 1 t (l.map bv))=some (.str l):=by simp[UQ,ZlU]
theorem Zne {len cap:Nat}{n:Int}(k:IntKind)(h0:0≤n)(h1:n≤cap):YV len cap none (some (.int k n)) none=some (0,n.toNat,cap):=by delta YV;simp[XM,h0,h1]
theorem ZfB {len cap:Nat}{n:Int}(k:IntKind)(h0:0≤n)(h1:n≤len):YV len cap (some (.int k n)) none none=some (n.toNat,len,cap):=by delta YV;simp[XM,h0,h1]
theorem CB {len cap:Nat}{n m:Int}(k k':IntKind)(h0:0≤n)(h1:n≤m)(h2:m≤cap):YV len cap (some (.int k n)) (some (.int k' m)) none=some (n.toNat,m.toNat,cap):=by
 have:0≤m:=by omega
 have h3:n≤max m 0:=by omega
 delta YV;simp[XM,h0,h2,this,h3]
theorem ZfL {s:List UInt8}{n:Int}(k:IntKind)(h0:0≤n)(h1:n≤s.length):ZX (.str s) none (some (.int k n)) none=some (.str (s.take n.toNat)):=by
 simp[ZX,Jn,Zne k h0 h1]
theorem CF {s:List UInt8}{n:Int}(k:IntKind)(h0:0≤n)(h1:n≤s.length):ZX (.str s) (some (.int k n)) none none=some (.str (s.drop n.toNat)):=by
 simp[ZX,Jn,ZfB k h0 h1]
theorem Po {s:List UInt8}{n m:Int}(k k':IntKind)(h0:0≤n)(h1:n≤m)(h2:m≤s.length):ZX (.str s) (some (.int k n)) (some (.int k' m)) none=some (.str ((s.take m.toNat).drop n.toNat)):=by
 simp[ZX,Jn,CB k k' h0 h1 h2]
theorem ZfN (z:Nat)(k:IntKind):YL z .nils (some (.int k 0)) none none=some .nils:=by simp only[YL];delta YV;simp[XM]
theorem Znx {l:List AV}{n:Int}(z:Nat)(t:Tok)(k:IntKind)(h0:0≤n)(h1:n≤l.length):YL z (.vs z t l) (some (.int k n)) none none=some (.vs z t (l.drop n.toNat)):=by
 simp[YL,ZfB k h0 h1]
def Row (H:Hp)(k:Nat)(x:AV)(l:List AV):Prop:=x=.nils∧l=[]∨∃ t e,x=.vs k (.own t e) l∧H[t]?=some (.tok e)
theorem Row.len {H:Hp}{k:Nat}{x:AV}{l:List AV}(h:Row H k x l)(e:Nat):Zj (.slice e) x=some (.int .i64 l.length):=by
 rcases h with ⟨rfl,rfl⟩|⟨t,e',rfl,_⟩ <;> rfl
theorem Row.app {H:Hp}{k:Nat}{x:AV}{l:List AV}(h:Row H k x l)(bytes:Nat)(y:AV)(ys:List AV)(hy:elems k y H=some ys)(hf:(l.length+ys.length)*(bytes+1)≤140737488355328) :
 ∃ x' H',ZS k bytes x y H=some (x',H')∧Row H' k x' (l++ys)∧H.length≤H'.length∧(∀ (i:Nat) (c:List AV),H[i]?=some (.cells c)→H'[i]?=some (.cells c)) ∧
  (∀ (i:Nat) (o:AObj),(∀ t e,x=.vs k (.own t e) l→i≠t)→H[i]?=some o→H'[i]?=some o):=by
 unfold ZS
 simp only[hy]
 rcases h with ⟨rfl,rfl⟩|⟨t,e,rfl,ht⟩
 ·by_cases hn:ys=[]
  ·subst hn
   exact⟨.nils,H,by simp[Yc],.inl ⟨rfl,rfl⟩,Nat.le_refl _,fun _ _ h=>h,fun _ _ _ h=>h⟩
  ·have hfit:fits ys.length bytes=true:=by simpa[fits]using hf
   refine⟨.vs k (.own H.length ys.length) ys,H++[.tok ys.length],by simp only[Yc,hn,if_false,hfit,if_true],.inr ⟨H.length,ys.length,rfl,by simp⟩,by simp,fun i c h=>Yy h _,fun i o _ h=>Yy h _⟩
 ·have hfit:fits (l.length+ys.length) bytes=true:=by simpa[fits]using hf
  by_cases hn:ys=[]
  ·subst hn
   refine⟨.vs k (.own t e) l,H,by simp only[Yc,List.length_nil,Nat.add_zero]at hfit ⊢;simp only[hfit,and_self,if_true],.inr ⟨t,e,by simp,ht⟩,Nat.le_refl _,fun _ _ h=>h,fun _ _ _ h=>h⟩
  ·refine⟨_,_,by simp only[Yc,hfit,and_self,if_true,hn,if_false,ht],.inr ⟨t,e+ys.length,rfl,ZB _ ht⟩,by simp,fun i c h=>?_,fun i o hi h=>?_⟩
   ·refine Yd _ (fun he=>?_) h
    subst he
    rw[ht]at h
    cases h
   ·exact Yd _ (fun he=>hi t e rfl he.symm) h
attribute [congr] ZpI ZpT Zqv Zod
attribute [go_sem] Vd Zsj ZwZ ZwY ZkC Zwo Zwq Zwp Zvc ZuJ ZuI ZuL Zsc ZuG Znj Zni
 Zta Ztg Zte Ztd Ztc Ztb Zt9 Zth Ztf ZtP ZtQ Zsa Zs9 ZJ ZuF Zpw
 Zkp Zkq Zkn Zko Zjo Zjn Zjl Zjm ZhO ZsT
end Go.Am
namespace Go.Am
end Go.Am
