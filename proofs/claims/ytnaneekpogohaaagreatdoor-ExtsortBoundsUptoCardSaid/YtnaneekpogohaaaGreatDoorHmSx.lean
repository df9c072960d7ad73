/- THE ABSTRACT MACHINE -/
import Derived.Test.YtnaneekpogohaaaGreatDoorHmRx
open UInt8 renaming ofNat->zB
open Option.some renaming injEq->zA
namespace Go.Am
open RowKit
def ZxI (cut:List Nat)(b:Code):Bool :=
 match Yr b with
 |some r=>cut.contains r
 |none=>false
noncomputable def SD (C:Cfg)(CL:Zw)(j:Code->KL->AL->Hp->Z4)(kp:Nat->Option (List Nat))(n:Nat)(w:SQ)(u:BL)(self:Code->KL->AL->Hp->Z4)(cut:List Nat):Code->KL->AL->Hp->Z4
 |.skip,k,al,H=>k .normal al H
 |.region id ops draw,k,al,H=>if draw&&!(W2 ops&&JT C ops) then none else ZlF n (kp (id+1000000)) (Zmb C CL n ops draw (fun g H'=>k .normal g H')) al H
 |.seq a b,k,al,H=>SD C CL j kp n w u self cut a (w (match ZxI cut b with
  |true=>fun z g H'=>self b z (ZW kp b g) H'
  |false=>fun z g H'=>SD C CL j kp n w u self cut b z (ZW kp b g) H') k) al H
 |.cond c x y,k,al,H=>Zk (YA C n al c) (SD C CL j kp n w u self cut x k al H) (SD C CL j kp n w u self cut y k al H)
 |.block id c,k,al,H=>SD C CL j kp n w u self cut c (u id k) al H
 |.loop c,k,al,H=>j c k (ZW kp c al) H
 |.scope c,k,al,H=>if Xd c then SD C CL j kp n w u self cut c k al H else none
 |.exit id,k,al,H=>k (.exit id) al H
 |.label _,k,al,H=>k .normal al H
 |.goto l,k,al,H=>k (.goto l) al H
 |.ret,k,al,H=>k .ret al H
 |_,_,_,_=>none
theorem ZkC {C:Cfg}{CL:Zw}{j:Code->KL->AL->Hp->Z4}{kp:Nat->Option (List Nat)}{n:Nat}{E:SQ}{u:BL}(cut:List Nat):∀ (c:Code) (k:KL) (g:AL) (H:Hp),
 Yc C CL j kp n E u c k g H=SD C CL j kp n E u (Yc C CL j kp n E u) cut c k g H:=by
 intro c
 induction c with
 |seq a b z A =>
  intro k g H;simp only[Yc,SD];rw[z];congr 1;congr 1
  cases ZxI cut b with
  |true=>rfl
  |false =>
   funext k' al' H';exact A _ _ _
 |cond c x y B D=>intro k g H;simp only[Yc,SD];rw[B,D]
 |block id c w=>intro k g H;simp only[Yc,SD];exact w _ _ _
 |scope c w=>intro k g H;simp only[Yc,SD];rw[w]
 |_=>intro k g H;rfl
section
variable {C:Cfg}{kp:Nat->Option (List Nat)}{n:Nat}
theorem ZD {c:Code}{u:KL}(cut:List Nat)(h:ZX n u)(g:AL)(H:Hp):Y7 C kp n c u g H =
 SD C (Z9 C) (Y7 C kp n) kp n Zc Z7 (Yc C (Z9 C) (Y7 C kp n) kp n Zc Z7) cut c (Zc (fun w j H'=>Y7 C kp n c w (ZW kp c j) H') u) (ZW kp c g) H:=by
 rw[<-ZkC];exact ZrA h g H
theorem Zd {f:FuncId}{fn:Func}{c:Code}(cut:List Nat)(u:C.P.funcs[f]?=some fn)(j:D4 C f fn=some c)(g:fn.ntmps=n)(args:List AV)(w:Nat.ble args.length n=true)(H:Hp) :
 Z9 C f args H=SD C (Z9 C) (Y7 C (C.keep f) n) (C.keep f) n Zc Z7 (Yc C (Z9 C) (Y7 C (C.keep f) n) (C.keep f) n Zc Z7) cut c (Zh C n f fn H) (MI 0 args) H:=by
 rw[<-ZkC];exact Zj9 u j g args w H
end
end Go.Am
namespace Go.Am
section
variable {α β:Type}
theorem Qb (x:α)(f:α->Option β):Z0 (some x) f=f x:=(Eq.refl _).trans (Eq.refl _)
theorem Zvb (f:α->Option β):Z0 (none:Option α) f=none:=(Eq.refl _).trans (Eq.refl _)
theorem Zs2 {x g:Option α}(h:x=g)(f:α->Option β):Z0 x f=Z0 g f:=by rw[h]
theorem Zsl {c c':AV}(h:c=c')(x y:Z4):Zk c x y=Zk c' x y:=by rw[h]
theorem ZsZ {g j:AV}(h:g=j)(w:Bool)(e:α)(x:Option α):Z8 g w e x=Z8 j w e x:=by rw[h]
theorem Zqi {a a':AV}(h:a=a')(H:Hp)(k:AV->Hp->Z4):WS a H k=WS a' H k:=by rw[h]
theorem ZAD (x y:Z4):Zk (.bool true) x y=x:=(Eq.refl _).trans (Eq.refl _)
theorem ZAC (x y:Z4):Zk (.bool false) x y=y:=(Eq.refl _).trans (Eq.refl _)
theorem ZlI (e:α)(x:Option α):Z8 (.bool true) true e x=x:=(Eq.refl _).trans (Eq.refl _)
theorem ZzL (e:α)(x:Option α):Z8 (.bool false) false e x=x:=(Eq.refl _).trans (Eq.refl _)
theorem ZzO (e:α)(x:Option α):Z8 (.bool true) false e x=some e:=(Eq.refl _).trans (Eq.refl _)
theorem ZzM (e:α)(x:Option α):Z8 (.bool false) true e x=some e:=(Eq.refl _).trans (Eq.refl _)
theorem ZyH (l:List AV)(w:Bool)(e:α)(x:Option α):Z8 (.tuple l) w e x=some e:=(Eq.refl _).trans (Eq.refl _)
theorem Zya (a b:AV):Zj (.bool true) a b=some a:=(Eq.refl _).trans (Eq.refl _)
theorem Zy9 (a b:AV):Zj (.bool false) a b=some b:=(Eq.refl _).trans (Eq.refl _)
theorem Zyc (b:Bool):Xk .not (.bool b)=some (.bool (!b)):=(Eq.refl _).trans (Eq.refl _)
theorem Zv4 (o off:Nat):Zu (.ptr o off)=some (.ptr o off):=(Eq.refl _).trans (Eq.refl _)
theorem Zy7 (l:List AV):Zu (.vp l)=some (.vp l):=(Eq.refl _).trans (Eq.refl _)
theorem Zpa (k o off:Nat):Z6 k (.ptr o off)=some (.ptr o (off+k)):=(Eq.refl _).trans (Eq.refl _)
theorem Zp9 (l:List AV)(i:Nat):ZQ (.tuple l) i=l[i]?:=(Eq.refl _).trans (Eq.refl _)
theorem Zwf (k:IntKind)(a b:Int):Z5 .eql (.int k a) (.int k b)=some (.bool (a==b)):=by simp[Z5,XG,Xz]
theorem Zwl (k:IntKind)(a b:Int):Z5 .neq (.int k a) (.int k b)=some (.bool (a != b)):=by simp[Z5,XG,Xz]
theorem Zwj (k:IntKind)(a b:Int):Z5 .lss (.int k a) (.int k b)=some (.bool (decide (a<b))):=by simp[Z5,XG,Xz]
theorem Zwi (k:IntKind)(a b:Int):Z5 .leq (.int k a) (.int k b)=some (.bool (decide (a<=b))):=by simp[Z5,XG,Xz]
theorem Zwh (k:IntKind)(a b:Int):Z5 .gtr (.int k a) (.int k b)=some (.bool (decide (b<a))):=by simp[Z5,XG,Xz]
theorem Zwg (k:IntKind)(a b:Int):Z5 .geq (.int k a) (.int k b)=some (.bool (decide (b<=a))):=by simp[Z5,XG,Xz]
theorem Zwe (k:IntKind)(a b:Int):Z5 .add (.int k a) (.int k b)=some (.int k (k.wrap (a+b))):=by simp[Z5,XG,Xz]
theorem Zwm (k:IntKind)(a b:Int):Z5 .sub (.int k a) (.int k b)=some (.int k (k.wrap (a-b))):=by simp[Z5,XG,Xz]
theorem Zwk (k:IntKind)(a b:Int):Z5 .mul (.int k a) (.int k b)=some (.int k (k.wrap (a*b))):=by simp[Z5,XG,Xz]
theorem Zx3 (a b:List UInt8):Xe .eql (.str a) (.str b)=some (.bool (a==b)):=(Eq.refl _).trans (Eq.refl _)
theorem Zx4 (a b:List UInt8):Xe .neq (.str a) (.str b)=some (.bool (!(a==b))):=(Eq.refl _).trans (Eq.refl _)
theorem Pf {a b:List UInt8}(h:a.length+b.length<=9223372036854775807):Xe .add (.str a) (.str b)=some (.str (a++b)):=by simp[Xe,Dr,h]
theorem Zv2 (k:IntKind)(a b:Int):UJ (.int k a) (.int k b)=some (.int k (min a b)):=by
 simp only[UJ,if_true,zA,AV.int.injEq,true_and];split <;> omega
theorem Zv1 (k:IntKind)(a b:Int):Ql (.int k a) (.int k b)=some (.int k (max a b)):=by
 simp only[Ql,if_true,zA,AV.int.injEq,true_and];split <;> omega
theorem YJ (s:List UInt8):Zl .string (.str s)=some (.int .i64 s.length):=(Eq.refl _).trans (Eq.refl _)
theorem Zy6 (e k:Nat)(t:Tok)(l:List AV):Zl (.slice e) (.vs k t l)=some (.int .i64 l.length):=(Eq.refl _).trans (Eq.refl _)
theorem ZrO (e:Nat):Zl (.slice e) .nils=some (.int .i64 0):=(Eq.refl _).trans (Eq.refl _)
theorem Zlk (t o off:Nat):Yy (.pointer t) .eql (.ptr o off) .nilp=some (.bool false):=(Eq.refl _).trans (Eq.refl _)
theorem Zll (t o off:Nat):Yy (.pointer t) .neq (.ptr o off) .nilp=some (.bool true):=(Eq.refl _).trans (Eq.refl _)
theorem Zli (t:Nat):Yy (.pointer t) .eql .nilp .nilp=some (.bool true):=(Eq.refl _).trans (Eq.refl _)
theorem Zlj (t:Nat):Yy (.pointer t) .neq .nilp .nilp=some (.bool false):=(Eq.refl _).trans (Eq.refl _)
theorem Zkd (a b:Bool):Yy .bool .neq (.bool a) (.bool b)=some (.bool (!(a==b))):=(Eq.refl _).trans (Eq.refl _)
theorem Zkc (a b:Bool):Yy .bool .eql (.bool a) (.bool b)=some (.bool (a==b)):=(Eq.refl _).trans (Eq.refl _)
theorem Zka:O5 .eql .nili .nili=some (.bool true):=(Eq.refl _).trans (Eq.refl _)
theorem Zkb:O5 .neq .nili .nili=some (.bool false):=(Eq.refl _).trans (Eq.refl _)
theorem Ziz (s:List UInt8)(n:Int)(H:Hp):HQ .indexByte [.str s,.int .u8 n] H=some (.int .i64 (JG (zB n.toNat) s 0),H):=(Eq.refl _).trans (Eq.refl _)
theorem ZvU (s t:List UInt8)(H:Hp):HQ .cmp [.str s,.str t] H=some (.int .i64 (J6 s t),H):=(Eq.refl _).trans (Eq.refl _)
theorem ZpW (s:List UInt8)(n:Int)(H:Hp):HQ .count [.str s,.int .u8 n] H=some (.int .i64 (Rk (zB n.toNat) s),H):=(Eq.refl _).trans (Eq.refl _)
theorem Znb (H1:Hp):∀ (n f:Nat) (v:AV),n<f->DK n v=true->Zb H1 0 f v=some v:=by
 intro n
 induction n with
 |zero =>
  intro f v u h
  cases f with
  |zero=>omega
  |succ f=>cases v <;> first|rfl|(simp[DK]at h;done)
 |succ n w =>
  intro f v u h
  cases f with
  |zero=>omega
  |succ f =>
   have j:∀ l:List AV,l.all (DK n)=true->l.mapM (Zb H1 0 f)=some l:=by
    intro l
    induction l with
    |nil=>intro _;rfl
    |cons x l g =>
     intro h;rw[List.all_cons,Bool.and_eq_true]at h;rw[List.mapM_cons,w f x (by omega) h.1,g h.2];rfl
   cases v with
   |agg l=>simp only[DK]at h;simp only[Zb,j l h]
   |tuple l=>simp only[DK]at h;simp only[Zb,j l h]
   |_=>first|rfl|(simp[DK]at h;done)
theorem TR {call:List AV->Hp->Option (AV×Hp)}{args args':List AV}{H H1:Hp}{v v':AV}(g:args.mapM (Zb [] 0 9)=some args')(j:call args' []=some (v,H1))(u:Zb H1 0 9 v=some v'):Zf call args H=some (v',H):=by
 unfold Zf;simp only[g,j,u]
theorem Vp {call:List AV->Hp->Option (AV×Hp)}{args args':List AV}{H H1:Hp}{v:AV}(g:args.mapM (Zb [] 0 9)=some args')(j:call args' []=some (v,H1))(u:DK 3 v=true):Zf call args H=some (v,H) :=
 TR g j (Znb H1 3 9 v (by omega) u)
theorem Zo {n:Int}(w:-9223372036854775808<=n)(y:n<=9223372036854775807):IntKind.i64.wrap n=n:=by
 unfold IntKind.wrap;have g:(2 ^ IntKind.i64.bits:Int)=18446744073709551616:=by decide
 have j:(2 ^ (IntKind.i64.bits-1):Int)=9223372036854775808:=by decide
 have u:IntKind.i64.signed=true:=(Eq.refl _).trans (Eq.refl _);simp only[g,j,u,Bool.true_and,decide_eq_true_eq,ge_iff_le];split <;> omega
theorem Yl {H:Hp}{o:Nat}{x:AObj}(h:H[o]?=some x)(l:List AObj):(H++l)[o]?=some x:=by
 rw[List.getElem?_append_left (Zg h)];exact h
theorem ZcU (H:Hp)(x:AObj)(l:List AObj):(H++(x::l))[H.length]?=some x:=by simp
theorem Yp {H:Hp}{o i:Nat}{x:Option AObj}(y:AObj)(g:i≠o)(h:H[o]?=x):(H.set i y)[o]?=x:=by
 rw[List.getElem?_set_ne g];exact h
theorem Zt {H:Hp}{o:Nat}{x:AObj}(y:AObj)(h:H[o]?=some x):(H.set o y)[o]?=some y:=by
 have:=Zg h;simp[this]
theorem YZ {H:Hp}{o off:Nat}{l:List AV}(h:H[o]?=some (.cells l))(g:Bool)(sz:Nat):Z3 g sz (.ptr o off) H=apart g sz l off:=by simp[Z3,h]
theorem UL {H:Hp}{o off sz:Nat}{l:List AV}{v:AV}(h:H[o]?=some (.cells l))(g:v.known=true)(u:v.cells.length=sz)(j:off+sz<=l.length) :
 Ze sz (.ptr o off) v H=some (.tuple [],H.set o (.cells (splice l off v.cells))):=by simp[Ze,YM,h,g,u,j]
theorem Fo {v:AV}{H:Hp}(h:v.known=true):ZN v H=some (.ptr H.length 0,H++[.cells v.cells]):=by simp[ZN,h]
theorem ZlH {H:Hp}{o:Nat}{l:List AV}(h:H[o]?=some (.cells l))(k:AV->Hp->Z4):WS (.ptr o 0) H k=k (.vp l) (H.set o .dead):=by simp[WS,TT,h]
end
def bv (b:UInt8):AV:=.int .u8 b.toNat
theorem Zn8:∀ (l:List UInt8),WQ (l.map bv)=some l:=by
 intro l
 induction l with
 |nil=>rfl
 |cons b l g =>
  simp only[List.map_cons,bv,WQ];rw[show List.map bv l=l.map bv from rfl,g];simp
theorem ZvC (t:Tok)(l:List UInt8):QP (.vs 1 t (l.map bv))=some (.str l):=by simp[QP,Zn8]
theorem Zp5 {len cap:Nat}{n:Int}(k:IntKind)(g:0<=n)(j:n<=cap):Yx len cap none (some (.int k n)) none=some (0,n.toNat,cap):=by delta Yx;simp[YX,g,j]
theorem ZgA {len cap:Nat}{n:Int}(k:IntKind)(g:0<=n)(j:n<=len):Yx len cap (some (.int k n)) none none=some (n.toNat,len,cap):=by delta Yx;simp[YX,g,j]
theorem IG {len cap:Nat}{n m:Int}(k w:IntKind)(g:0<=n)(y:n<=m)(j:m<=cap):Yx len cap (some (.int k n)) (some (.int w m)) none=some (n.toNat,m.toNat,cap):=by
 have:0<=m:=by omega
 have u:n<=max m 0:=by omega
 delta Yx;simp[YX,g,j,this,u]
theorem Zpn {s:List UInt8}{n:Int}(k:IntKind)(g:0<=n)(j:n<=s.length):Yk (.str s) none (some (.int k n)) none=some (.str (s.take n.toNat)):=by
 simp[Yk,UK,Zp5 k g j]
theorem IL {s:List UInt8}{n:Int}(k:IntKind)(g:0<=n)(j:n<=s.length):Yk (.str s) (some (.int k n)) none none=some (.str (s.drop n.toNat)):=by
 simp[Yk,UK,ZgA k g j]
theorem IK {s:List UInt8}{n m:Int}(k g:IntKind)(j:0<=n)(u:n<=m)(w:m<=s.length):Yk (.str s) (some (.int k n)) (some (.int g m)) none=some (.str ((s.take m.toNat).drop n.toNat)):=by
 simp[Yk,UK,IG k g j u w]
theorem ZgI (z:Nat)(k:IntKind):Yo z .nils (some (.int k 0)) none none=some .nils:=by simp only[Yo];delta Yx;simp[YX]
theorem Zpp {l:List AV}{n:Int}(z:Nat)(t:Tok)(k:IntKind)(g:0<=n)(j:n<=l.length):Yo z (.vs z t l) (some (.int k n)) none none=some (.vs z t (l.drop n.toNat)):=by
 simp[Yo,ZgA k g j]
attribute [congr] Zs2 Zsl ZsZ Zqi
attribute [go_sem] Qb Zvb ZAD ZAC ZlI ZzL ZzO ZzM ZyH Zya Zy9 Zyc Zv4 Zy7 Zpa Zp9
 Zwf Zwl Zwj Zwi Zwh Zwg Zwe Zwm Zwk Zx3 Zx4 Zv2 Zv1 YJ Zy6 ZrO
 Zlk Zll Zli Zlj Zkd Zkc Zka Zkb Ziz ZvU ZpW
end Go.Am
namespace Go.Am
theorem ZrN {p:Nat}{l:List AV}{H:Hp}(h:H[p]?=some .free):KN p (some (.cells l)) H=some (.ptr p 0,H.set p (.cells l)):=by simp[KN,h,ZzX,ZzY]
end Go.Am
