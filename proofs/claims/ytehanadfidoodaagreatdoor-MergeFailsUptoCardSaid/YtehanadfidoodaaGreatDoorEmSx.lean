/-
  THE ABSTRACT MACHINE, part S: code told piece by piece.
-/
import Derived.Test.YtehanadfidoodaaGreatDoorEmRx
namespace Go.Am
open RowKit
def ZoY (cut:List Nat)(b:Code):Bool :=
 match XF b with
 |some r=>cut.contains r
 |none=>false
noncomputable def Sv (C:Cfg)(CL:ZD)(LP:Code→KL→AL→Hp→Z3)(kp:Nat→Option (List Nat))(n:Nat)(sq:SQ)(bl:BL)(self:Code→KL→AL→Hp→Z3)(cut:List Nat):Code→KL→AL→Hp→Z3
 |.skip,k,al,H=>k .normal al H
 |.region id ops draw,k,al,H=>if draw&&!QG ops then none else ZiV n (kp (id+1000000)) (Zjv C CL n ops draw (fun al' H'=>k .normal al' H')) al H
 |.seq a b,k,al,H=>Sv C CL LP kp n sq bl self cut a (sq (match ZoY cut b with
  |true=>fun k' al' H'=>self b k' (ZR kp b al') H'
  |false=>fun k' al' H'=>Sv C CL LP kp n sq bl self cut b k' (ZR kp b al') H') k) al H
 |.cond c x y,k,al,H=>Zl (Tf C n al c) (Sv C CL LP kp n sq bl self cut x k al H) (Sv C CL LP kp n sq bl self cut y k al H)
 |.block id c,k,al,H=>Sv C CL LP kp n sq bl self cut c (bl id k) al H
 |.loop c,k,al,H=>LP c k (ZR kp c al) H
 |.exit id,k,al,H=>k (.exit id) al H
 |.label _,k,al,H=>k .normal al H
 |.goto l,k,al,H=>k (.goto l) al H
 |.ret,k,al,H=>k .ret al H
 |_,_,_,_=>none
theorem VD {C:Cfg}{CL:ZD}{LP:Code→KL→AL→Hp→Z3}{kp:Nat→Option (List Nat)}{n:Nat}{sq:SQ}{bl:BL}(cut:List Nat):∀ (c:Code) (k:KL) (al:AL) (H:Hp),
 Yl C CL LP kp n sq bl c k al H=Sv C CL LP kp n sq bl (Yl C CL LP kp n sq bl) cut c k al H:=by
 intro c
 induction c with
 |seq a b iha ihb =>
  intro k al H
  simp only[Yl,Sv]
  rw[iha]
  congr 1
  congr 1
  cases ZoY cut b with
  |true=>rfl
  |false =>
   funext k' al' H'
   exact ihb _ _ _
 |cond c x y ihx ihy=>intro k al H;simp only[Yl,Sv];rw[ihx,ihy]
 |block id c ih=>intro k al H;simp only[Yl,Sv];exact ih _ _ _
 |_=>intro k al H;rfl
section
variable {C:Cfg}{kp:Nat→Option (List Nat)}{n:Nat}
theorem ZB {c:Code}{kL:KL}(cut:List Nat)(h:ZT n kL)(al:AL)(H:Hp):Y8 C kp n c kL al H =
 Sv C (Za C) (Y8 C kp n) kp n Zd Z7 (Yl C (Za C) (Y8 C kp n) kp n Zd Z7) cut c (Zd (fun k' al' H'=>Y8 C kp n c k' (ZR kp c al') H') kL) (ZR kp c al) H:=by
 rw[←VD]
 exact ZqB h al H
theorem Zc {f:FuncId}{fn:Func}{c:Code}(cut:List Nat)(hf:C.P.funcs[f]?=some fn)(hb:fn.body=some c)(hN:fn.ntmps=n)(args:List AV)(hn:Nat.ble args.length n=true)(H:Hp) :
 Za C f args H=Sv C (Za C) (Y8 C (C.keep f) n) (C.keep f) n Zd Z7 (Yl C (Za C) (Y8 C (C.keep f) n) (C.keep f) n Zd Z7) cut c (Zi C n f fn H) (Ek 0 args) H:=by
 rw[←VD]
 exact Zkp hf hb hN args hn H
end
end Go.Am
namespace Go.Am
section
variable {α β:Type}
theorem U8 (x:α)(f:α→Option β):Z0 (some x) f=f x:=(Eq.refl _).trans (Eq.refl _)
theorem Zn0 (f:α→Option β):Z0 (none:Option α) f=none:=(Eq.refl _).trans (Eq.refl _)
theorem Zkn {x x':Option α}(h:x=x')(f:α→Option β):Z0 x f=Z0 x' f:=by rw[h]
theorem ZkB {c c':AV}(h:c=c')(x y:Z3):Zl c x y=Zl c' x y:=by rw[h]
theorem Zl8 {g g':AV}(h:g=g')(w:Bool)(e:α)(x:Option α):Z6 g w e x=Z6 g' w e x:=by rw[h]
theorem ZiU {a a':AV}(h:a=a')(H:Hp)(k:AV→Hp→Z3):X3 a H k=X3 a' H k:=by rw[h]
theorem ZrJ (x y:Z3):Zl (.bool true) x y=x:=(Eq.refl _).trans (Eq.refl _)
theorem ZrI (x y:Z3):Zl (.bool false) x y=y:=(Eq.refl _).trans (Eq.refl _)
theorem Zfa (e:α)(x:Option α):Z6 (.bool true) true e x=x:=(Eq.refl _).trans (Eq.refl _)
theorem Zr5 (e:α)(x:Option α):Z6 (.bool false) false e x=x:=(Eq.refl _).trans (Eq.refl _)
theorem Zr7 (e:α)(x:Option α):Z6 (.bool true) false e x=some e:=(Eq.refl _).trans (Eq.refl _)
theorem Zr6 (e:α)(x:Option α):Z6 (.bool false) true e x=some e:=(Eq.refl _).trans (Eq.refl _)
theorem ZpU (l:List AV)(w:Bool)(e:α)(x:Option α):Z6 (.tuple l) w e x=some e:=(Eq.refl _).trans (Eq.refl _)
theorem Zpp (a b:AV):Zg (.bool true) a b=some a:=(Eq.refl _).trans (Eq.refl _)
theorem Zpo (a b:AV):Zg (.bool false) a b=some b:=(Eq.refl _).trans (Eq.refl _)
theorem Zpr (b:Bool):Xa .not (.bool b)=some (.bool (!b)):=(Eq.refl _).trans (Eq.refl _)
theorem ZmT (o off:Nat):Zy (.ptr o off)=some (.ptr o off):=(Eq.refl _).trans (Eq.refl _)
theorem Zpm (l:List AV):Zy (.vp l)=some (.vp l):=(Eq.refl _).trans (Eq.refl _)
theorem ZhW (k o off:Nat):Z8 k (.ptr o off)=some (.ptr o (off+k)):=(Eq.refl _).trans (Eq.refl _)
theorem ZhV (l:List AV)(i:Nat):ZC (.tuple l) i=l[i]?:=(Eq.refl _).trans (Eq.refl _)
theorem ZnQ (k:IntKind)(a b:Int):Z5 .eql (.int k a) (.int k b)=some (.bool (a==b)):=by simp[Z5,Xs,Xt]
theorem ZnW (k:IntKind)(a b:Int):Z5 .neq (.int k a) (.int k b)=some (.bool (a != b)):=by simp[Z5,Xs,Xt]
theorem ZnU (k:IntKind)(a b:Int):Z5 .lss (.int k a) (.int k b)=some (.bool (decide (a<b))):=by simp[Z5,Xs,Xt]
theorem ZnT (k:IntKind)(a b:Int):Z5 .leq (.int k a) (.int k b)=some (.bool (decide (a≤b))):=by simp[Z5,Xs,Xt]
theorem ZnS (k:IntKind)(a b:Int):Z5 .gtr (.int k a) (.int k b)=some (.bool (decide (b<a))):=by simp[Z5,Xs,Xt]
theorem ZnR (k:IntKind)(a b:Int):Z5 .geq (.int k a) (.int k b)=some (.bool (decide (b≤a))):=by simp[Z5,Xs,Xt]
theorem ZnP (k:IntKind)(a b:Int):Z5 .add (.int k a) (.int k b)=some (.int k (k.wrap (a+b))):=by simp[Z5,Xs,Xt]
theorem ZnX (k:IntKind)(a b:Int):Z5 .sub (.int k a) (.int k b)=some (.int k (k.wrap (a-b))):=by simp[Z5,Xs,Xt]
theorem ZnV (k:IntKind)(a b:Int):Z5 .mul (.int k a) (.int k b)=some (.int k (k.wrap (a*b))):=by simp[Z5,Xs,Xt]
theorem Zoy (a b:List UInt8):Yh .eql (.str a) (.str b)=some (.bool (a==b)):=(Eq.refl _).trans (Eq.refl _)
theorem Zoz (a b:List UInt8):Yh .neq (.str a) (.str b)=some (.bool (!(a==b))):=(Eq.refl _).trans (Eq.refl _)
theorem PL {a b:List UInt8}(h:a.length+b.length≤9223372036854775807):Yh .add (.str a) (.str b)=some (.str (a++b)):=by simp[Yh,Ge,h]
theorem ZmR (k:IntKind)(a b:Int):VJ (.int k a) (.int k b)=some (.int k (min a b)):=by
 simp only[VJ,if_true,Option.some.injEq,AV.int.injEq,true_and]
 split <;> omega
theorem ZmQ (k:IntKind)(a b:Int):Gw (.int k a) (.int k b)=some (.int k (max a b)):=by
 simp only[Gw,if_true,Option.some.injEq,AV.int.injEq,true_and]
 split <;> omega
theorem Ym (s:List UInt8):Zk .string (.str s)=some (.int .i64 s.length):=(Eq.refl _).trans (Eq.refl _)
theorem Zpl (e k:Nat)(t:Tok)(l:List AV):Zk (.slice e) (.vs k t l)=some (.int .i64 l.length):=(Eq.refl _).trans (Eq.refl _)
theorem Zka (e:Nat):Zk (.slice e) .nils=some (.int .i64 0):=(Eq.refl _).trans (Eq.refl _)
theorem ZeV (t o off:Nat):Yj (.pointer t) .eql (.ptr o off) .nilp=some (.bool false):=(Eq.refl _).trans (Eq.refl _)
theorem ZeW (t o off:Nat):Yj (.pointer t) .neq (.ptr o off) .nilp=some (.bool true):=(Eq.refl _).trans (Eq.refl _)
theorem ZeT (t:Nat):Yj (.pointer t) .eql .nilp .nilp=some (.bool true):=(Eq.refl _).trans (Eq.refl _)
theorem ZeU (t:Nat):Yj (.pointer t) .neq .nilp .nilp=some (.bool false):=(Eq.refl _).trans (Eq.refl _)
theorem Ze2 (a b:Bool):Yj .bool .neq (.bool a) (.bool b)=some (.bool (!(a==b))):=(Eq.refl _).trans (Eq.refl _)
theorem Ze1 (a b:Bool):Yj .bool .eql (.bool a) (.bool b)=some (.bool (a==b)):=(Eq.refl _).trans (Eq.refl _)
theorem ZdZ:Zbb .eql .nili .nili=some (.bool true):=(Eq.refl _).trans (Eq.refl _)
theorem Ze0:Zbb .neq .nili .nili=some (.bool false):=(Eq.refl _).trans (Eq.refl _)
theorem Zcx (s:List UInt8)(n:Int)(H:Hp):Ae .indexByte [.str s,.int .u8 n] H=some (.int .i64 (Qu (UInt8.ofNat n.toNat) s 0),H):=(Eq.refl _).trans (Eq.refl _)
theorem ZnB (s t:List UInt8)(H:Hp):Ae .cmp [.str s,.str t] H=some (.int .i64 (Q1 s t),H):=(Eq.refl _).trans (Eq.refl _)
theorem Zgt (H1:Hp):∀ (n f:Nat) (v:AV),n<f→JG n v=true→Z9 H1 0 f v=some v:=by
 intro n
 induction n with
 |zero =>
  intro f v hf h
  cases f with
  |zero=>omega
  |succ f=>cases v <;> first|rfl|(simp[JG]at h;done)
 |succ n ih =>
  intro f v hf h
  cases f with
  |zero=>omega
  |succ f =>
   have hl:∀ l:List AV,l.all (JG n)=true→l.mapM (Z9 H1 0 f)=some l:=by
    intro l
    induction l with
    |nil=>intro _;rfl
    |cons x l ihl =>
     intro h
     rw[List.all_cons,Bool.and_eq_true]at h
     rw[List.mapM_cons,ih f x (by omega) h.1,ihl h.2]
     rfl
   cases v with
   |agg l=>simp only[JG]at h;simp only[Z9,hl l h]
   |tuple l=>simp only[JG]at h;simp only[Z9,hl l h]
   |_=>first|rfl|(simp[JG]at h;done)
theorem DW {call:List AV→Hp→Option (AV×Hp)}{args args':List AV}{H H1:Hp}{v v':AV}(ha:args.mapM (Z9 [] 0 6)=some args')(hc:call args' []=some (v,H1))(hf:Z9 H1 0 6 v=some v'):Ze call args H=some (v',H):=by
 unfold Ze
 simp only[ha,hc,hf]
theorem Pt {call:List AV→Hp→Option (AV×Hp)}{args args':List AV}{H H1:Hp}{v:AV}(ha:args.mapM (Z9 [] 0 6)=some args')(hc:call args' []=some (v,H1))(hf:JG 3 v=true):Ze call args H=some (v,H) :=
 DW ha hc (Zgt H1 3 6 v (by omega) hf)
theorem Zr {n:Int}(h1:-9223372036854775808≤n)(h2:n≤9223372036854775807):IntKind.i64.wrap n=n:=by
 unfold IntKind.wrap
 have e1:(2 ^ IntKind.i64.bits:Int)=18446744073709551616:=by decide
 have e2:(2 ^ (IntKind.i64.bits-1):Int)=9223372036854775808:=by decide
 have e3:IntKind.i64.signed=true:=(Eq.refl _).trans (Eq.refl _)
 simp only[e1,e2,e3,Bool.true_and,decide_eq_true_eq,ge_iff_le]
 split <;> omega
theorem YB {H:Hp}{o:Nat}{x:AObj}(h:H[o]?=some x)(l:List AObj):(H++l)[o]?=some x:=by
 rw[List.getElem?_append_left (Zf h)];exact h
theorem Zfd (H:Hp)(x:AObj)(l:List AObj):(H++(x::l))[H.length]?=some x:=by simp
theorem Y5 {H:Hp}{o i:Nat}{x:Option AObj}(y:AObj)(hn:i≠o)(h:H[o]?=x):(H.set i y)[o]?=x:=by
 rw[List.getElem?_set_ne hn];exact h
theorem Zv {H:Hp}{o:Nat}{x:AObj}(y:AObj)(h:H[o]?=some x):(H.set o y)[o]?=some y:=by
 have:=Zf h;simp[this]
theorem U7 {H:Hp}{o off:Nat}{l:List AV}(h:H[o]?=some (.cells l))(g:Bool)(sz:Nat):Z4 g sz (.ptr o off) H=apart g sz l off:=by simp[Z4,h]
theorem VK {H:Hp}{o off sz:Nat}{l:List AV}{v:AV}(h:H[o]?=some (.cells l))(hk:v.known=true)(hs:v.cells.length=sz)(hl:off+sz≤l.length) :
 Zh sz (.ptr o off) v H=some (.tuple [],H.set o (.cells (splice l off v.cells))):=by simp[Zh,Xe,h,hk,hs,hl]
theorem JC {v:AV}{H:Hp}(h:v.known=true):ZW v H=some (.ptr H.length 0,H++[.cells v.cells]):=by simp[ZW,h]
theorem LA {H:Hp}{o:Nat}{l:List AV}(h:H[o]?=some (.cells l))(k:AV→Hp→Z3):X3 (.ptr o 0) H k=k (.vp l) (H.set o .dead):=by simp[X3,GC,h]
end
def bv (b:UInt8):AV:=.int .u8 b.toNat
theorem Zgq:∀ (l:List UInt8),Wb (l.map bv)=some l:=by
 intro l
 induction l with
 |nil=>rfl
 |cons b l ih =>
  simp only[List.map_cons,bv,Wb]
  rw[show List.map bv l=l.map bv from rfl,ih]
  simp
theorem Zni (t:Tok)(l:List UInt8):UK (.vs 1 t (l.map bv))=some (.str l):=by simp[UK,Zgq]
theorem ZhR {len cap:Nat}{n:Int}(k:IntKind)(h0:0≤n)(h1:n≤cap):YO len cap none (some (.int k n)) none=some (0,n.toNat,cap):=by delta YO;simp[XI,h0,h1]
theorem ZaQ {len cap:Nat}{n:Int}(k:IntKind)(h0:0≤n)(h1:n≤len):YO len cap (some (.int k n)) none none=some (n.toNat,len,cap):=by delta YO;simp[XI,h0,h1]
theorem Ei {len cap:Nat}{n m:Int}(k k':IntKind)(h0:0≤n)(h1:n≤m)(h2:m≤cap):YO len cap (some (.int k n)) (some (.int k' m)) none=some (n.toNat,m.toNat,cap):=by
 have:0≤m:=by omega
 have h3:n≤max m 0:=by omega
 delta YO;simp[XI,h0,h2,this,h3]
theorem Zib {s:List UInt8}{n:Int}(k:IntKind)(h0:0≤n)(h1:n≤s.length):Y7 (.str s) none (some (.int k n)) none=some (.str (s.take n.toNat)):=by
 simp[Y7,Jg,ZhR k h0 h1]
theorem Em {s:List UInt8}{n:Int}(k:IntKind)(h0:0≤n)(h1:n≤s.length):Y7 (.str s) (some (.int k n)) none none=some (.str (s.drop n.toNat)):=by
 simp[Y7,Jg,ZaQ k h0 h1]
theorem El {s:List UInt8}{n m:Int}(k k':IntKind)(h0:0≤n)(h1:n≤m)(h2:m≤s.length):Y7 (.str s) (some (.int k n)) (some (.int k' m)) none=some (.str ((s.take m.toNat).drop n.toNat)):=by
 simp[Y7,Jg,Ei k k' h0 h1 h2]
theorem ZaX (z:Nat)(k:IntKind):YE z .nils (some (.int k 0)) none none=some .nils:=by simp only[YE];delta YO;simp[XI]
theorem Zid {l:List AV}{n:Int}(z:Nat)(t:Tok)(k:IntKind)(h0:0≤n)(h1:n≤l.length):YE z (.vs z t l) (some (.int k n)) none none=some (.vs z t (l.drop n.toNat)):=by
 simp[YE,ZaQ k h0 h1]
attribute [congr] Zkn ZkB Zl8 ZiU
attribute [go_sem] U8 Zn0 ZrJ ZrI Zfa Zr5 Zr7 Zr6 ZpU Zpp Zpo Zpr ZmT Zpm ZhW ZhV
 ZnQ ZnW ZnU ZnT ZnS ZnR ZnP ZnX ZnV Zoy Zoz ZmR ZmQ Ym Zpl Zka
 ZeV ZeW ZeT ZeU Ze2 Ze1 ZdZ Ze0 Zcx ZnB
end Go.Am
namespace Go.Am
end Go.Am
