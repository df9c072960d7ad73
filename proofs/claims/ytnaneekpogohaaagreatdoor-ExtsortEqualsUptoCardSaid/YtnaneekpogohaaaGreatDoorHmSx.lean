/- THE ABSTRACT MACHINE -/
import Derived.Test.YtnaneekpogohaaaGreatDoorHmRx
open UInt8 renaming ofNat->zB
open Option.some renaming injEq->zA
namespace Go.Am
open RowKit
def ZxC (cut:List Nat)(b:Code):Bool :=
 match Yq b with
 |some r=>cut.contains r
 |none=>false
noncomputable def SF (C:Cfg)(CL:Zx)(j:Code->KL->AL->Hp->Z3)(kp:Nat->Option (List Nat))(n:Nat)(w:SQ)(u:BL)(self:Code->KL->AL->Hp->Z3)(cut:List Nat):Code->KL->AL->Hp->Z3
 |.skip,k,al,H=>k .normal al H
 |.region id ops draw,k,al,H=>if draw&&!(XZ ops&&JW C ops) then none else ZlF n (kp (id+1000000)) (Zme C CL n ops draw (fun g H'=>k .normal g H')) al H
 |.seq a b,k,al,H=>SF C CL j kp n w u self cut a (w (match ZxC cut b with
  |true=>fun z g H'=>self b z (ZU kp b g) H'
  |false=>fun z g H'=>SF C CL j kp n w u self cut b z (ZU kp b g) H') k) al H
 |.cond c x y,k,al,H=>Zl (Yy C n al c) (SF C CL j kp n w u self cut x k al H) (SF C CL j kp n w u self cut y k al H)
 |.block id c,k,al,H=>SF C CL j kp n w u self cut c (u id k) al H
 |.loop c,k,al,H=>j c k (ZU kp c al) H
 |.scope c,k,al,H=>if Xc c then SF C CL j kp n w u self cut c k al H else none
 |.exit id,k,al,H=>k (.exit id) al H
 |.label _,k,al,H=>k .normal al H
 |.goto l,k,al,H=>k (.goto l) al H
 |.ret,k,al,H=>k .ret al H
 |_,_,_,_=>none
theorem ZkA {C:Cfg}{CL:Zx}{j:Code->KL->AL->Hp->Z3}{kp:Nat->Option (List Nat)}{n:Nat}{E:SQ}{u:BL}(cut:List Nat):∀ (c:Code) (k:KL) (g:AL) (H:Hp),
 Y9 C CL j kp n E u c k g H=SF C CL j kp n E u (Y9 C CL j kp n E u) cut c k g H:=by
 intro c
 induction c with
 |seq a b z A =>
  intro k g H;simp only[Y9,SF];rw[z];congr 1;congr 1
  cases ZxC cut b with
  |true=>rfl
  |false =>
   funext k' al' H';exact A _ _ _
 |cond c x y B D=>intro k g H;simp only[Y9,SF];rw[B,D]
 |block id c w=>intro k g H;simp only[Y9,SF];exact w _ _ _
 |scope c w=>intro k g H;simp only[Y9,SF];rw[w]
 |_=>intro k g H;rfl
section
variable {C:Cfg}{kp:Nat->Option (List Nat)}{n:Nat}
theorem ZD {c:Code}{u:KL}(cut:List Nat)(h:ZW n u)(g:AL)(H:Hp):Y6 C kp n c u g H =
 SF C (Z9 C) (Y6 C kp n) kp n Zc Z7 (Y9 C (Z9 C) (Y6 C kp n) kp n Zc Z7) cut c (Zc (fun w j H'=>Y6 C kp n c w (ZU kp c j) H') u) (ZU kp c g) H:=by
 rw[<-ZkA];exact Zry h g H
theorem Zd {f:FuncId}{fn:Func}{c:Code}(cut:List Nat)(u:C.P.funcs[f]?=some fn)(j:BZ C f fn=some c)(g:fn.ntmps=n)(args:List AV)(w:Nat.ble args.length n=true)(H:Hp) :
 Z9 C f args H=SF C (Z9 C) (Y6 C (C.keep f) n) (C.keep f) n Zc Z7 (Y9 C (Z9 C) (Y6 C (C.keep f) n) (C.keep f) n Zc Z7) cut c (Zh C n f fn H) (MI 0 args) H:=by
 rw[<-ZkA];exact Zj2 u j g args w H
end
end Go.Am
namespace Go.Am
section
variable {α β:Type}
theorem Qc (x:α)(f:α->Option β):Z0 (some x) f=f x:=(Eq.refl _).trans (Eq.refl _)
theorem Zv3 (f:α->Option β):Z0 (none:Option α) f=none:=(Eq.refl _).trans (Eq.refl _)
theorem Zs2 {x g:Option α}(h:x=g)(f:α->Option β):Z0 x f=Z0 g f:=by rw[h]
theorem Zsk {c c':AV}(h:c=c')(x y:Z3):Zl c x y=Zl c' x y:=by rw[h]
theorem ZsV {g j:AV}(h:g=j)(w:Bool)(e:α)(x:Option α):Z8 g w e x=Z8 j w e x:=by rw[h]
theorem Zqe {a a':AV}(h:a=a')(H:Hp)(k:AV->Hp->Z3):V8 a H k=V8 a' H k:=by rw[h]
theorem ZAB (x y:Z3):Zl (.bool true) x y=x:=(Eq.refl _).trans (Eq.refl _)
theorem ZAA (x y:Z3):Zl (.bool false) x y=y:=(Eq.refl _).trans (Eq.refl _)
theorem ZlH (e:α)(x:Option α):Z8 (.bool true) true e x=x:=(Eq.refl _).trans (Eq.refl _)
theorem ZzJ (e:α)(x:Option α):Z8 (.bool false) false e x=x:=(Eq.refl _).trans (Eq.refl _)
theorem ZzM (e:α)(x:Option α):Z8 (.bool true) false e x=some e:=(Eq.refl _).trans (Eq.refl _)
theorem ZzK (e:α)(x:Option α):Z8 (.bool false) true e x=some e:=(Eq.refl _).trans (Eq.refl _)
theorem ZyE (l:List AV)(w:Bool)(e:α)(x:Option α):Z8 (.tuple l) w e x=some e:=(Eq.refl _).trans (Eq.refl _)
theorem Zy6 (a b:AV):Zi (.bool true) a b=some a:=(Eq.refl _).trans (Eq.refl _)
theorem Zy5 (a b:AV):Zi (.bool false) a b=some b:=(Eq.refl _).trans (Eq.refl _)
theorem Zy8 (b:Bool):Xo .not (.bool b)=some (.bool (!b)):=(Eq.refl _).trans (Eq.refl _)
theorem ZuW (o off:Nat):Zu (.ptr o off)=some (.ptr o off):=(Eq.refl _).trans (Eq.refl _)
theorem Zy3 (l:List AV):Zu (.vp l)=some (.vp l):=(Eq.refl _).trans (Eq.refl _)
theorem Zp6 (k o off:Nat):Z6 k (.ptr o off)=some (.ptr o (off+k)):=(Eq.refl _).trans (Eq.refl _)
theorem Zp5 (l:List AV)(i:Nat):ZQ (.tuple l) i=l[i]?:=(Eq.refl _).trans (Eq.refl _)
theorem Zwa (k:IntKind)(a b:Int):Z5 .eql (.int k a) (.int k b)=some (.bool (a==b)):=by simp[Z5,XX,XC]
theorem Zwg (k:IntKind)(a b:Int):Z5 .neq (.int k a) (.int k b)=some (.bool (a != b)):=by simp[Z5,XX,XC]
theorem Zwe (k:IntKind)(a b:Int):Z5 .lss (.int k a) (.int k b)=some (.bool (decide (a<b))):=by simp[Z5,XX,XC]
theorem Zwd (k:IntKind)(a b:Int):Z5 .leq (.int k a) (.int k b)=some (.bool (decide (a<=b))):=by simp[Z5,XX,XC]
theorem Zwc (k:IntKind)(a b:Int):Z5 .gtr (.int k a) (.int k b)=some (.bool (decide (b<a))):=by simp[Z5,XX,XC]
theorem Zwb (k:IntKind)(a b:Int):Z5 .geq (.int k a) (.int k b)=some (.bool (decide (b<=a))):=by simp[Z5,XX,XC]
theorem Zw9 (k:IntKind)(a b:Int):Z5 .add (.int k a) (.int k b)=some (.int k (k.wrap (a+b))):=by simp[Z5,XX,XC]
theorem Zwh (k:IntKind)(a b:Int):Z5 .sub (.int k a) (.int k b)=some (.int k (k.wrap (a-b))):=by simp[Z5,XX,XC]
theorem Zwf (k:IntKind)(a b:Int):Z5 .mul (.int k a) (.int k b)=some (.int k (k.wrap (a*b))):=by simp[Z5,XX,XC]
theorem ZwW (a b:List UInt8):YK .eql (.str a) (.str b)=some (.bool (a==b)):=(Eq.refl _).trans (Eq.refl _)
theorem ZwX (a b:List UInt8):YK .neq (.str a) (.str b)=some (.bool (!(a==b))):=(Eq.refl _).trans (Eq.refl _)
theorem Ph {a b:List UInt8}(h:a.length+b.length<=9223372036854775807):YK .add (.str a) (.str b)=some (.str (a++b)):=by simp[YK,JO,h]
theorem ZuU (k:IntKind)(a b:Int):UO (.int k a) (.int k b)=some (.int k (min a b)):=by
 simp only[UO,if_true,zA,AV.int.injEq,true_and];split <;> omega
theorem ZuT (k:IntKind)(a b:Int):Kd (.int k a) (.int k b)=some (.int k (max a b)):=by
 simp only[Kd,if_true,zA,AV.int.injEq,true_and];split <;> omega
theorem YI (s:List UInt8):Zk .string (.str s)=some (.int .i64 s.length):=(Eq.refl _).trans (Eq.refl _)
theorem Zy2 (e k:Nat)(t:Tok)(l:List AV):Zk (.slice e) (.vs k t l)=some (.int .i64 l.length):=(Eq.refl _).trans (Eq.refl _)
theorem ZrO (e:Nat):Zk (.slice e) .nils=some (.int .i64 0):=(Eq.refl _).trans (Eq.refl _)
theorem Zlj (t o off:Nat):YC (.pointer t) .eql (.ptr o off) .nilp=some (.bool false):=(Eq.refl _).trans (Eq.refl _)
theorem Zlk (t o off:Nat):YC (.pointer t) .neq (.ptr o off) .nilp=some (.bool true):=(Eq.refl _).trans (Eq.refl _)
theorem Zlh (t:Nat):YC (.pointer t) .eql .nilp .nilp=some (.bool true):=(Eq.refl _).trans (Eq.refl _)
theorem Zli (t:Nat):YC (.pointer t) .neq .nilp .nilp=some (.bool false):=(Eq.refl _).trans (Eq.refl _)
theorem Zk8 (a b:Bool):YC .bool .neq (.bool a) (.bool b)=some (.bool (!(a==b))):=(Eq.refl _).trans (Eq.refl _)
theorem Zk7 (a b:Bool):YC .bool .eql (.bool a) (.bool b)=some (.bool (a==b)):=(Eq.refl _).trans (Eq.refl _)
theorem Zk5:O4 .eql .nili .nili=some (.bool true):=(Eq.refl _).trans (Eq.refl _)
theorem Zk6:O4 .neq .nili .nili=some (.bool false):=(Eq.refl _).trans (Eq.refl _)
theorem Zit (s:List UInt8)(n:Int)(H:Hp):HM .indexByte [.str s,.int .u8 n] H=some (.int .i64 (JI (zB n.toNat) s 0),H):=(Eq.refl _).trans (Eq.refl _)
theorem ZvP (s t:List UInt8)(H:Hp):HM .cmp [.str s,.str t] H=some (.int .i64 (J3 s t),H):=(Eq.refl _).trans (Eq.refl _)
theorem ZpS (s:List UInt8)(n:Int)(H:Hp):HM .count [.str s,.int .u8 n] H=some (.int .i64 (Rg (zB n.toNat) s),H):=(Eq.refl _).trans (Eq.refl _)
theorem Znc (H1:Hp):∀ (n f:Nat) (v:AV),n<f->DH n v=true->Zb H1 0 f v=some v:=by
 intro n
 induction n with
 |zero =>
  intro f v u h
  cases f with
  |zero=>omega
  |succ f=>cases v <;> first|rfl|(simp[DH]at h;done)
 |succ n w =>
  intro f v u h
  cases f with
  |zero=>omega
  |succ f =>
   have j:∀ l:List AV,l.all (DH n)=true->l.mapM (Zb H1 0 f)=some l:=by
    intro l
    induction l with
    |nil=>intro _;rfl
    |cons x l g =>
     intro h;rw[List.all_cons,Bool.and_eq_true]at h;rw[List.mapM_cons,w f x (by omega) h.1,g h.2];rfl
   cases v with
   |agg l=>simp only[DH]at h;simp only[Zb,j l h]
   |tuple l=>simp only[DH]at h;simp only[Zb,j l h]
   |_=>first|rfl|(simp[DH]at h;done)
theorem TR {call:List AV->Hp->Option (AV×Hp)}{args args':List AV}{H H1:Hp}{v v':AV}(g:args.mapM (Zb [] 0 9)=some args')(j:call args' []=some (v,H1))(u:Zb H1 0 9 v=some v'):Zf call args H=some (v',H):=by
 unfold Zf;simp only[g,j,u]
theorem Vn {call:List AV->Hp->Option (AV×Hp)}{args args':List AV}{H H1:Hp}{v:AV}(g:args.mapM (Zb [] 0 9)=some args')(j:call args' []=some (v,H1))(u:DH 3 v=true):Zf call args H=some (v,H) :=
 TR g j (Znc H1 3 9 v (by omega) u)
theorem Zr {n:Int}(w:-9223372036854775808<=n)(y:n<=9223372036854775807):IntKind.i64.wrap n=n:=by
 unfold IntKind.wrap;have g:(2 ^ IntKind.i64.bits:Int)=18446744073709551616:=by decide
 have j:(2 ^ (IntKind.i64.bits-1):Int)=9223372036854775808:=by decide
 have u:IntKind.i64.signed=true:=(Eq.refl _).trans (Eq.refl _);simp only[g,j,u,Bool.true_and,decide_eq_true_eq,ge_iff_le];split <;> omega
theorem Yg {H:Hp}{o:Nat}{x:AObj}(h:H[o]?=some x)(l:List AObj):(H++l)[o]?=some x:=by
 rw[List.getElem?_append_left (Zg h)];exact h
theorem ZcG (H:Hp)(x:AObj)(l:List AObj):(H++(x::l))[H.length]?=some x:=by simp
theorem Yo {H:Hp}{o i:Nat}{x:Option AObj}(y:AObj)(g:i≠o)(h:H[o]?=x):(H.set i y)[o]?=x:=by
 rw[List.getElem?_set_ne g];exact h
theorem Zt {H:Hp}{o:Nat}{x:AObj}(y:AObj)(h:H[o]?=some x):(H.set o y)[o]?=some y:=by
 have:=Zg h;simp[this]
theorem YY {H:Hp}{o off:Nat}{l:List AV}(h:H[o]?=some (.cells l))(g:Bool)(sz:Nat):Z4 g sz (.ptr o off) H=apart g sz l off:=by simp[Z4,h]
theorem VP {H:Hp}{o off sz:Nat}{l:List AV}{v:AV}(h:H[o]?=some (.cells l))(g:v.known=true)(u:v.cells.length=sz)(j:off+sz<=l.length) :
 Ze sz (.ptr o off) v H=some (.tuple [],H.set o (.cells (splice l off v.cells))):=by simp[Ze,YN,h,g,u,j]
theorem Fi {v:AV}{H:Hp}(h:v.known=true):ZM v H=some (.ptr H.length 0,H++[.cells v.cells]):=by simp[ZM,h]
theorem ZsT {H:Hp}{o:Nat}{l:List AV}(h:H[o]?=some (.cells l))(k:AV->Hp->Z3):V8 (.ptr o 0) H k=k (.vp l) (H.set o .dead):=by simp[V8,TT,h]
end
def bv (b:UInt8):AV:=.int .u8 b.toNat
theorem Zn9:∀ (l:List UInt8),WR (l.map bv)=some l:=by
 intro l
 induction l with
 |nil=>rfl
 |cons b l g =>
  simp only[List.map_cons,bv,WR];rw[show List.map bv l=l.map bv from rfl,g];simp
theorem Zvw (t:Tok)(l:List UInt8):QR (.vs 1 t (l.map bv))=some (.str l):=by simp[QR,Zn9]
theorem Zp1 {len cap:Nat}{n:Int}(k:IntKind)(g:0<=n)(j:n<=cap):Yw len cap none (some (.int k n)) none=some (0,n.toNat,cap):=by delta Yw;simp[YW,g,j]
theorem Zgp {len cap:Nat}{n:Int}(k:IntKind)(g:0<=n)(j:n<=len):Yw len cap (some (.int k n)) none none=some (n.toNat,len,cap):=by delta Yw;simp[YW,g,j]
theorem IG {len cap:Nat}{n m:Int}(k w:IntKind)(g:0<=n)(y:n<=m)(j:m<=cap):Yw len cap (some (.int k n)) (some (.int w m)) none=some (n.toNat,m.toNat,cap):=by
 have:0<=m:=by omega
 have u:n<=max m 0:=by omega
 delta Yw;simp[YW,g,j,this,u]
theorem Zgv {s:List UInt8}{n:Int}(k:IntKind)(g:0<=n)(j:n<=s.length):Y8 (.str s) none (some (.int k n)) none=some (.str (s.take n.toNat)):=by
 simp[Y8,UP,Zp1 k g j]
theorem MJ {s:List UInt8}{n:Int}(k:IntKind)(g:0<=n)(j:n<=s.length):Y8 (.str s) (some (.int k n)) none none=some (.str (s.drop n.toNat)):=by
 simp[Y8,UP,Zgp k g j]
theorem IK {s:List UInt8}{n m:Int}(k g:IntKind)(j:0<=n)(u:n<=m)(w:m<=s.length):Y8 (.str s) (some (.int k n)) (some (.int g m)) none=some (.str ((s.take m.toNat).drop n.toNat)):=by
 simp[Y8,UP,IG k g j u w]
theorem Zgx (z:Nat)(k:IntKind):Yn z .nils (some (.int k 0)) none none=some .nils:=by simp only[Yn];delta Yw;simp[YW]
theorem Zpk {l:List AV}{n:Int}(z:Nat)(t:Tok)(k:IntKind)(g:0<=n)(j:n<=l.length):Yn z (.vs z t l) (some (.int k n)) none none=some (.vs z t (l.drop n.toNat)):=by
 simp[Yn,Zgp k g j]
attribute [congr] Zs2 Zsk ZsV Zqe
attribute [go_sem] Qc Zv3 ZAB ZAA ZlH ZzJ ZzM ZzK ZyE Zy6 Zy5 Zy8 ZuW Zy3 Zp6 Zp5
 Zwa Zwg Zwe Zwd Zwc Zwb Zw9 Zwh Zwf ZwW ZwX ZuU ZuT YI Zy2 ZrO
 Zlj Zlk Zlh Zli Zk8 Zk7 Zk5 Zk6 Zit ZvP ZpS
end Go.Am
namespace Go.Am
theorem ZrN {p:Nat}{l:List AV}{H:Hp}(h:H[p]?=some .free):KO p (some (.cells l)) H=some (.ptr p 0,H.set p (.cells l)):=by simp[KO,h,ZzV,ZzW]
end Go.Am
