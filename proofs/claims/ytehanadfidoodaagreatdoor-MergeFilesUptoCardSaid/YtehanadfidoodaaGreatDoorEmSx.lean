/-
  THE ABSTRACT MACHINE, part S: code told piece by piece.
-/
import Derived.Test.YtehanadfidoodaaGreatDoorEmRx
namespace Go.Am
open RowKit
def Zqz (cut:List Nat)(b:Code):Bool :=
 match XR b with
 |some r=>cut.contains r
 |none=>false
noncomputable def CI (C:Cfg)(CL:ZI)(LP:Code→KL→AL→Hp→Z3)(kp:Nat→Option (List Nat))(n:Nat)(sq:SQ)(bl:BL)(self:Code→KL→AL→Hp→Z3)(cut:List Nat):Code→KL→AL→Hp→Z3
 |.skip,k,al,H=>k .normal al H
 |.region id ops draw,k,al,H=>if draw&&!QY ops then none else ZkI n (kp (id+1000000)) (Zll C CL n ops draw (fun al' H'=>k .normal al' H')) al H
 |.seq a b,k,al,H=>CI C CL LP kp n sq bl self cut a (sq (match Zqz cut b with
  |true=>fun k' al' H'=>self b k' (ZX kp b al') H'
  |false=>fun k' al' H'=>CI C CL LP kp n sq bl self cut b k' (ZX kp b al') H') k) al H
 |.cond c x y,k,al,H=>Zm (P1 C n al c) (CI C CL LP kp n sq bl self cut x k al H) (CI C CL LP kp n sq bl self cut y k al H)
 |.block id c,k,al,H=>CI C CL LP kp n sq bl self cut c (bl id k) al H
 |.loop c,k,al,H=>LP c k (ZX kp c al) H
 |.exit id,k,al,H=>k (.exit id) al H
 |.label _,k,al,H=>k .normal al H
 |.goto l,k,al,H=>k (.goto l) al H
 |.ret,k,al,H=>k .ret al H
 |_,_,_,_=>none
theorem VY {C:Cfg}{CL:ZI}{LP:Code→KL→AL→Hp→Z3}{kp:Nat→Option (List Nat)}{n:Nat}{sq:SQ}{bl:BL}(cut:List Nat):∀ (c:Code) (k:KL) (al:AL) (H:Hp),
 Yl C CL LP kp n sq bl c k al H=CI C CL LP kp n sq bl (Yl C CL LP kp n sq bl) cut c k al H:=by
 intro c
 induction c with
 |seq a b iha ihb =>
  intro k al H
  simp only[Yl,CI]
  rw[iha]
  congr 1
  congr 1
  cases Zqz cut b with
  |true=>rfl
  |false =>
   funext k' al' H'
   exact ihb _ _ _
 |cond c x y ihx ihy=>intro k al H;simp only[Yl,CI];rw[ihx,ihy]
 |block id c ih=>intro k al H;simp only[Yl,CI];exact ih _ _ _
 |_=>intro k al H;rfl
section
variable {C:Cfg}{kp:Nat→Option (List Nat)}{n:Nat}
theorem Zy {c:Code}{kL:KL}(cut:List Nat)(h:ZR n kL)(al:AL)(H:Hp):Ya C kp n c kL al H =
 CI C (Za C) (Ya C kp n) kp n Zc Z6 (Yl C (Za C) (Ya C kp n) kp n Zc Z6) cut c (Zc (fun k' al' H'=>Ya C kp n c k' (ZX kp c al') H') kL) (ZX kp c al) H:=by
 rw[←VY]
 exact Zs6 h al H
theorem Zd {f:FuncId}{fn:Func}{c:Code}(cut:List Nat)(hf:C.P.funcs[f]?=some fn)(hb:fn.body=some c)(hN:fn.ntmps=n)(args:List AV)(hn:Nat.ble args.length n=true)(H:Hp) :
 Za C f args H=CI C (Za C) (Ya C (C.keep f) n) (C.keep f) n Zc Z6 (Yl C (Za C) (Ya C (C.keep f) n) (C.keep f) n Zc Z6) cut c (Zh C n f fn H) (Sw 0 args) H:=by
 rw[←VY]
 exact Zmc hf hb hN args hn H
end
end Go.Am
namespace Go.Am
section
variable {α β:Type}
theorem Uo (x:α)(f:α→Option β):Z0 (some x) f=f x:=(Eq.refl _).trans (Eq.refl _)
theorem ZoL (f:α→Option β):Z0 (none:Option α) f=none:=(Eq.refl _).trans (Eq.refl _)
theorem Zma {x x':Option α}(h:x=x')(f:α→Option β):Z0 x f=Z0 x' f:=by rw[h]
theorem Zmo {c c':AV}(h:c=c')(x y:Z3):Zm c x y=Zm c' x y:=by rw[h]
theorem ZmU {g g':AV}(h:g=g')(w:Bool)(e:α)(x:Option α):Z7 g w e x=Z7 g' w e x:=by rw[h]
theorem ZkH {a a':AV}(h:a=a')(H:Hp)(k:AV→Hp→Z3):YU a H k=YU a' H k:=by rw[h]
theorem Ztd (x y:Z3):Zm (.bool true) x y=x:=(Eq.refl _).trans (Eq.refl _)
theorem Ztc (x y:Z3):Zm (.bool false) x y=y:=(Eq.refl _).trans (Eq.refl _)
theorem ZgX (e:α)(x:Option α):Z7 (.bool true) true e x=x:=(Eq.refl _).trans (Eq.refl _)
theorem ZsB (e:α)(x:Option α):Z7 (.bool false) false e x=x:=(Eq.refl _).trans (Eq.refl _)
theorem ZsD (e:α)(x:Option α):Z7 (.bool true) false e x=some e:=(Eq.refl _).trans (Eq.refl _)
theorem ZsC (e:α)(x:Option α):Z7 (.bool false) true e x=some e:=(Eq.refl _).trans (Eq.refl _)
theorem Zrt (l:List AV)(w:Bool)(e:α)(x:Option α):Z7 (.tuple l) w e x=some e:=(Eq.refl _).trans (Eq.refl _)
theorem ZqY (a b:AV):Zj (.bool true) a b=some a:=(Eq.refl _).trans (Eq.refl _)
theorem ZqX (a b:AV):Zj (.bool false) a b=some b:=(Eq.refl _).trans (Eq.refl _)
theorem Zr0 (b:Bool):XF .not (.bool b)=some (.bool (!b)):=(Eq.refl _).trans (Eq.refl _)
theorem ZoE (o off:Nat):ZH (.ptr o off)=some (.ptr o off):=(Eq.refl _).trans (Eq.refl _)
theorem ZqV (l:List AV):ZH (.vp l)=some (.vp l):=(Eq.refl _).trans (Eq.refl _)
theorem ZjF (k o off:Nat):Z8 k (.ptr o off)=some (.ptr o (off+k)):=(Eq.refl _).trans (Eq.refl _)
theorem ZjE (l:List AV)(i:Nat):ZK (.tuple l) i=l[i]?:=(Eq.refl _).trans (Eq.refl _)
theorem Zpw (k:IntKind)(a b:Int):Z5 .eql (.int k a) (.int k b)=some (.bool (a==b)):=by simp[Z5,XE,XG]
theorem ZpC (k:IntKind)(a b:Int):Z5 .neq (.int k a) (.int k b)=some (.bool (a != b)):=by simp[Z5,XE,XG]
theorem ZpA (k:IntKind)(a b:Int):Z5 .lss (.int k a) (.int k b)=some (.bool (decide (a<b))):=by simp[Z5,XE,XG]
theorem Zpz (k:IntKind)(a b:Int):Z5 .leq (.int k a) (.int k b)=some (.bool (decide (a≤b))):=by simp[Z5,XE,XG]
theorem Zpy (k:IntKind)(a b:Int):Z5 .gtr (.int k a) (.int k b)=some (.bool (decide (b<a))):=by simp[Z5,XE,XG]
theorem Zpx (k:IntKind)(a b:Int):Z5 .geq (.int k a) (.int k b)=some (.bool (decide (b≤a))):=by simp[Z5,XE,XG]
theorem Zpv (k:IntKind)(a b:Int):Z5 .add (.int k a) (.int k b)=some (.int k (k.wrap (a+b))):=by simp[Z5,XE,XG]
theorem ZpD (k:IntKind)(a b:Int):Z5 .sub (.int k a) (.int k b)=some (.int k (k.wrap (a-b))):=by simp[Z5,XE,XG]
theorem ZpB (k:IntKind)(a b:Int):Z5 .mul (.int k a) (.int k b)=some (.int k (k.wrap (a*b))):=by simp[Z5,XE,XG]
theorem Zqb (a b:List UInt8):Yx .eql (.str a) (.str b)=some (.bool (a==b)):=(Eq.refl _).trans (Eq.refl _)
theorem Zqc (a b:List UInt8):Yx .neq (.str a) (.str b)=some (.bool (!(a==b))):=(Eq.refl _).trans (Eq.refl _)
theorem NC {a b:List UInt8}(h:a.length+b.length≤9223372036854775807):Yx .add (.str a) (.str b)=some (.str (a++b)):=by simp[Yx,GO,h]
theorem ZoC (k:IntKind)(a b:Int):U3 (.int k a) (.int k b)=some (.int k (min a b)):=by
 simp only[U3,if_true,Option.some.injEq,AV.int.injEq,true_and]
 split <;> omega
theorem ZoB (k:IntKind)(a b:Int):B5 (.int k a) (.int k b)=some (.int k (max a b)):=by
 simp only[B5,if_true,Option.some.injEq,AV.int.injEq,true_and]
 split <;> omega
theorem Ym (s:List UInt8):Zk .string (.str s)=some (.int .i64 s.length):=(Eq.refl _).trans (Eq.refl _)
theorem ZqU (e k:Nat)(t:Tok)(l:List AV):Zk (.slice e) (.vs k t l)=some (.int .i64 l.length):=(Eq.refl _).trans (Eq.refl _)
theorem ZlX (e:Nat):Zk (.slice e) .nils=some (.int .i64 0):=(Eq.refl _).trans (Eq.refl _)
theorem ZgH (t o off:Nat):Yn (.pointer t) .eql (.ptr o off) .nilp=some (.bool false):=(Eq.refl _).trans (Eq.refl _)
theorem ZgI (t o off:Nat):Yn (.pointer t) .neq (.ptr o off) .nilp=some (.bool true):=(Eq.refl _).trans (Eq.refl _)
theorem ZgF (t:Nat):Yn (.pointer t) .eql .nilp .nilp=some (.bool true):=(Eq.refl _).trans (Eq.refl _)
theorem ZgG (t:Nat):Yn (.pointer t) .neq .nilp .nilp=some (.bool false):=(Eq.refl _).trans (Eq.refl _)
theorem ZfN (a b:Bool):Yn .bool .neq (.bool a) (.bool b)=some (.bool (!(a==b))):=(Eq.refl _).trans (Eq.refl _)
theorem ZfM (a b:Bool):Yn .bool .eql (.bool a) (.bool b)=some (.bool (a==b)):=(Eq.refl _).trans (Eq.refl _)
theorem ZfK:ZcP .eql .nili .nili=some (.bool true):=(Eq.refl _).trans (Eq.refl _)
theorem ZfL:ZcP .neq .nili .nili=some (.bool false):=(Eq.refl _).trans (Eq.refl _)
theorem Zeb (s:List UInt8)(n:Int)(H:Hp):IG .indexByte [.str s,.int .u8 n] H=some (.int .i64 (QM (UInt8.ofNat n.toNat) s 0),H):=(Eq.refl _).trans (Eq.refl _)
theorem Zpj (s t:List UInt8)(H:Hp):IG .cmp [.str s,.str t] H=some (.int .i64 (Qd s t),H):=(Eq.refl _).trans (Eq.refl _)
theorem Zid (H1:Hp):∀ (n f:Nat) (v:AV),n<f→Ka n v=true→Z9 H1 0 f v=some v:=by
 intro n
 induction n with
 |zero =>
  intro f v hf h
  cases f with
  |zero=>omega
  |succ f=>cases v <;> first|rfl|(simp[Ka]at h;done)
 |succ n ih =>
  intro f v hf h
  cases f with
  |zero=>omega
  |succ f =>
   have hl:∀ l:List AV,l.all (Ka n)=true→l.mapM (Z9 H1 0 f)=some l:=by
    intro l
    induction l with
    |nil=>intro _;rfl
    |cons x l ihl =>
     intro h
     rw[List.all_cons,Bool.and_eq_true]at h
     rw[List.mapM_cons,ih f x (by omega) h.1,ihl h.2]
     rfl
   cases v with
   |agg l=>simp only[Ka]at h;simp only[Z9,hl l h]
   |tuple l=>simp only[Ka]at h;simp only[Z9,hl l h]
   |_=>first|rfl|(simp[Ka]at h;done)
theorem Bb {call:List AV→Hp→Option (AV×Hp)}{args args':List AV}{H H1:Hp}{v v':AV}(ha:args.mapM (Z9 [] 0 6)=some args')(hc:call args' []=some (v,H1))(hf:Z9 H1 0 6 v=some v'):Ze call args H=some (v',H):=by
 unfold Ze
 simp only[ha,hc,hf]
theorem Nc {call:List AV→Hp→Option (AV×Hp)}{args args':List AV}{H H1:Hp}{v:AV}(ha:args.mapM (Z9 [] 0 6)=some args')(hc:call args' []=some (v,H1))(hf:Ka 3 v=true):Ze call args H=some (v,H) :=
 Bb ha hc (Zid H1 3 6 v (by omega) hf)
theorem Zr {n:Int}(h1:-9223372036854775808≤n)(h2:n≤9223372036854775807):IntKind.i64.wrap n=n:=by
 unfold IntKind.wrap
 have e1:(2 ^ IntKind.i64.bits:Int)=18446744073709551616:=by decide
 have e2:(2 ^ (IntKind.i64.bits-1):Int)=9223372036854775808:=by decide
 have e3:IntKind.i64.signed=true:=(Eq.refl _).trans (Eq.refl _)
 simp only[e1,e2,e3,Bool.true_and,decide_eq_true_eq,ge_iff_le]
 split <;> omega
theorem Yw {H:Hp}{o:Nat}{x:AObj}(h:H[o]?=some x)(l:List AObj):(H++l)[o]?=some x:=by
 rw[List.getElem?_append_left (Zg h)];exact h
theorem Zh0 (H:Hp)(x:AObj)(l:List AObj):(H++(x::l))[H.length]?=some x:=by simp
theorem Yu {H:Hp}{o i:Nat}{x:Option AObj}(y:AObj)(hn:i≠o)(h:H[o]?=x):(H.set i y)[o]?=x:=by
 rw[List.getElem?_set_ne hn];exact h
theorem ZF {H:Hp}{o:Nat}{x:AObj}(y:AObj)(h:H[o]?=some x):(H.set o y)[o]?=some y:=by
 have:=Zg h;simp[this]
theorem Vq {H:Hp}{o off:Nat}{l:List AV}(h:H[o]?=some (.cells l))(g:Bool)(sz:Nat):Z4 g sz (.ptr o off) H=apart g sz l off:=by simp[Z4,h]
theorem U4 {H:Hp}{o off sz:Nat}{l:List AV}{v:AV}(h:H[o]?=some (.cells l))(hk:v.known=true)(hs:v.cells.length=sz)(hl:off+sz≤l.length) :
 Zi sz (.ptr o off) v H=some (.tuple [],H.set o (.cells (splice l off v.cells))):=by simp[Zi,Xm,h,hk,hs,hl]
theorem FC {v:AV}{H:Hp}(h:v.known=true):Y4 v H=some (.ptr H.length 0,H++[.cells v.cells]):=by simp[Y4,h]
theorem Rx {H:Hp}{o:Nat}{l:List AV}(h:H[o]?=some (.cells l))(k:AV→Hp→Z3):YU (.ptr o 0) H k=k (.vp l) (H.set o .dead):=by simp[YU,Bc,h]
end
def bv (b:UInt8):AV:=.int .u8 b.toNat
theorem Zib:∀ (l:List UInt8),Wn (l.map bv)=some l:=by
 intro l
 induction l with
 |nil=>rfl
 |cons b l ih =>
  simp only[List.map_cons,bv,Wn]
  rw[show List.map bv l=l.map bv from rfl,ih]
  simp
theorem Zp2 (t:Tok)(l:List UInt8):Q0 (.vs 1 t (l.map bv))=some (.str l):=by simp[Q0,Zib]
theorem ZjA {len cap:Nat}{n:Int}(k:IntKind)(h0:0≤n)(h1:n≤cap):YV len cap none (some (.int k n)) none=some (0,n.toNat,cap):=by delta YV;simp[XX,h0,h1]
theorem Zct {len cap:Nat}{n:Int}(k:IntKind)(h0:0≤n)(h1:n≤len):YV len cap (some (.int k n)) none none=some (n.toNat,len,cap):=by delta YV;simp[XX,h0,h1]
theorem Su {len cap:Nat}{n m:Int}(k k':IntKind)(h0:0≤n)(h1:n≤m)(h2:m≤cap):YV len cap (some (.int k n)) (some (.int k' m)) none=some (n.toNat,m.toNat,cap):=by
 have:0≤m:=by omega
 have h3:n≤max m 0:=by omega
 delta YV;simp[XX,h0,h2,this,h3]
theorem ZjU {s:List UInt8}{n:Int}(k:IntKind)(h0:0≤n)(h1:n≤s.length):Y9 (.str s) none (some (.int k n)) none=some (.str (s.take n.toNat)):=by
 simp[Y9,JD,ZjA k h0 h1]
theorem Sy {s:List UInt8}{n:Int}(k:IntKind)(h0:0≤n)(h1:n≤s.length):Y9 (.str s) (some (.int k n)) none none=some (.str (s.drop n.toNat)):=by
 simp[Y9,JD,Zct k h0 h1]
theorem Sx {s:List UInt8}{n m:Int}(k k':IntKind)(h0:0≤n)(h1:n≤m)(h2:m≤s.length):Y9 (.str s) (some (.int k n)) (some (.int k' m)) none=some (.str ((s.take m.toNat).drop n.toNat)):=by
 simp[Y9,JD,Su k k' h0 h1 h2]
theorem ZcA (z:Nat)(k:IntKind):YF z .nils (some (.int k 0)) none none=some .nils:=by simp only[YF];delta YV;simp[XX]
theorem ZjW {l:List AV}{n:Int}(z:Nat)(t:Tok)(k:IntKind)(h0:0≤n)(h1:n≤l.length):YF z (.vs z t l) (some (.int k n)) none none=some (.vs z t (l.drop n.toNat)):=by
 simp[YF,Zct k h0 h1]
attribute [congr] Zma Zmo ZmU ZkH
attribute [go_sem] Uo ZoL Ztd Ztc ZgX ZsB ZsD ZsC Zrt ZqY ZqX Zr0 ZoE ZqV ZjF ZjE
 Zpw ZpC ZpA Zpz Zpy Zpx Zpv ZpD ZpB Zqb Zqc ZoC ZoB Ym ZqU ZlX
 ZgH ZgI ZgF ZgG ZfN ZfM ZfK ZfL Zeb Zpj
end Go.Am
namespace Go.Am
end Go.Am
