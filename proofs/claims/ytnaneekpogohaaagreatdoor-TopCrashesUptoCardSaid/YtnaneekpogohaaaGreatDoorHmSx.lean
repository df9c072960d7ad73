/- THE ABSTRACT MACHINE -/
import Derived.Test.YtnaneekpogohaaaGreatDoorHmRx
open UInt8 renaming ofNat->zB
open Option.some renaming injEq->zA
namespace Go.Am
open RowKit
def ZwU (cut:List Nat)(b:Code):Bool :=
 match YL b with
 |some r=>cut.contains r
 |none=>false
noncomputable def HC (C:Cfg)(CL:ZF)(h:Code->KL->AL->Hp->Z4)(kp:Nat->Option (List Nat))(n:Nat)(u:SQ)(j:BL)(self:Code->KL->AL->Hp->Z4)(cut:List Nat):Code->KL->AL->Hp->Z4
 |.skip,k,al,H=>k .normal al H
 |.region id ops draw,k,al,H=>if draw&&!(Vf ops&&Ry C ops) then none else Zqy n (kp (id+1000000)) (Zwm C CL n ops draw (fun g H'=>k .normal g H')) al H
 |.seq a b,k,al,H=>HC C CL h kp n u j self cut a (u (match ZwU cut b with
  |true=>fun k' g H'=>self b k' (Y3 kp b g) H'
  |false=>fun k' g H'=>HC C CL h kp n u j self cut b k' (Y3 kp b g) H') k) al H
 |.cond c x y,k,al,H=>Zj (K7 C n al c) (HC C CL h kp n u j self cut x k al H) (HC C CL h kp n u j self cut y k al H)
 |.block id c,k,al,H=>HC C CL h kp n u j self cut c (j id k) al H
 |.loop c,k,al,H=>h c k (Y3 kp c al) H
 |.scope c,k,al,H=>if XJ c then HC C CL h kp n u j self cut c k al H else none
 |.exit id,k,al,H=>k (.exit id) al H
 |.label _,k,al,H=>k .normal al H
 |.goto l,k,al,H=>k (.goto l) al H
 |.ret,k,al,H=>k .ret al H
 |_,_,_,_=>none
theorem Zlz {C:Cfg}{CL:ZF}{h:Code->KL->AL->Hp->Z4}{kp:Nat->Option (List Nat)}{n:Nat}{D:SQ}{j:BL}(cut:List Nat):∀ (c:Code) (k:KL) (g:AL) (H:Hp),
 Yn C CL h kp n D j c k g H=HC C CL h kp n D j (Yn C CL h kp n D j) cut c k g H:=by
 intro c
 induction c with
 |seq a b w z =>
  intro k g H;simp only[Yn,HC];rw[w];congr 1;congr 1
  cases ZwU cut b with
  |true=>rfl
  |false =>
   funext k' al' H';exact z _ _ _
 |cond c x y A B=>intro k g H;simp only[Yn,HC];rw[A,B]
 |block id c u=>intro k g H;simp only[Yn,HC];exact u _ _ _
 |scope c u=>intro k g H;simp only[Yn,HC];rw[u]
 |_=>intro k g H;rfl
section
variable {C:Cfg}{kp:Nat->Option (List Nat)}{n:Nat}
theorem ZC {c:Code}{u:KL}(cut:List Nat)(h:ZS n u)(g:AL)(H:Hp):Y5 C kp n c u g H =
 HC C (Zb C) (Y5 C kp n) kp n Zc Z7 (Yn C (Zb C) (Y5 C kp n) kp n Zc Z7) cut c (Zc (fun k' j H'=>Y5 C kp n c k' (Y3 kp c j) H') u) (Y3 kp c g) H:=by
 rw[<-Zlz];exact Zyj h g H
theorem Zd {f:FuncId}{fn:Func}{c:Code}(cut:List Nat)(j:C.P.funcs[f]?=some fn)(h:Tq C f fn=some c)(g:fn.ntmps=n)(args:List AV)(u:Nat.ble args.length n=true)(H:Hp) :
 Zb C f args H=HC C (Zb C) (Y5 C (C.keep f) n) (C.keep f) n Zc Z7 (Yn C (Zb C) (Y5 C (C.keep f) n) (C.keep f) n Zc Z7) cut c (Zf C n f fn H) (Zac 0 args) H:=by
 rw[<-Zlz];exact Zs7 j h g args u H
end
end Go.Am
namespace Go.Am
section
variable {α β:Type}
theorem Vc (x:α)(f:α->Option β):Z0 (some x) f=f x:=(Eq.refl _).trans (Eq.refl _)
theorem ZuM (f:α->Option β):Z0 (none:Option α) f=none:=(Eq.refl _).trans (Eq.refl _)
theorem Zs5 {x g:Option α}(h:x=g)(f:α->Option β):Z0 x f=Z0 g f:=by rw[h]
theorem Zsk {c c':AV}(h:c=c')(x y:Z4):Zj c x y=Zj c' x y:=by rw[h]
theorem ZsX {g j:AV}(h:g=j)(w:Bool)(e:α)(x:Option α):Z8 g w e x=Z8 j w e x:=by rw[h]
theorem Zqx {a a':AV}(h:a=a')(H:Hp)(k:AV->Hp->Z4):Qd a H k=Qd a' H k:=by rw[h]
theorem Zzj (x y:Z4):Zj (.bool true) x y=x:=(Eq.refl _).trans (Eq.refl _)
theorem Zzi (x y:Z4):Zj (.bool false) x y=y:=(Eq.refl _).trans (Eq.refl _)
theorem ZmD (e:α)(x:Option α):Z8 (.bool true) true e x=x:=(Eq.refl _).trans (Eq.refl _)
theorem ZyM (e:α)(x:Option α):Z8 (.bool false) false e x=x:=(Eq.refl _).trans (Eq.refl _)
theorem ZyO (e:α)(x:Option α):Z8 (.bool true) false e x=some e:=(Eq.refl _).trans (Eq.refl _)
theorem ZyN (e:α)(x:Option α):Z8 (.bool false) true e x=some e:=(Eq.refl _).trans (Eq.refl _)
theorem ZxM (l:List AV)(w:Bool)(e:α)(x:Option α):Z8 (.tuple l) w e x=some e:=(Eq.refl _).trans (Eq.refl _)
theorem Zxj (a b:AV):Zi (.bool true) a b=some a:=(Eq.refl _).trans (Eq.refl _)
theorem Zxi (a b:AV):Zi (.bool false) a b=some b:=(Eq.refl _).trans (Eq.refl _)
theorem Zxl (b:Bool):XL .not (.bool b)=some (.bool (!b)):=(Eq.refl _).trans (Eq.refl _)
theorem ZuF (o off:Nat):Zu (.ptr o off)=some (.ptr o off):=(Eq.refl _).trans (Eq.refl _)
theorem Zxg (l:List AV):Zu (.vp l)=some (.vp l):=(Eq.refl _).trans (Eq.refl _)
theorem ZpC (k o off:Nat):Z6 k (.ptr o off)=some (.ptr o (off+k)):=(Eq.refl _).trans (Eq.refl _)
theorem ZpB (l:List AV)(i:Nat):ZL (.tuple l) i=l[i]?:=(Eq.refl _).trans (Eq.refl _)
theorem ZvI (k:IntKind)(a b:Int):Z5 .eql (.int k a) (.int k b)=some (.bool (a==b)):=by simp[Z5,XB,XF]
theorem ZvO (k:IntKind)(a b:Int):Z5 .neq (.int k a) (.int k b)=some (.bool (a != b)):=by simp[Z5,XB,XF]
theorem ZvM (k:IntKind)(a b:Int):Z5 .lss (.int k a) (.int k b)=some (.bool (decide (a<b))):=by simp[Z5,XB,XF]
theorem ZvL (k:IntKind)(a b:Int):Z5 .leq (.int k a) (.int k b)=some (.bool (decide (a<=b))):=by simp[Z5,XB,XF]
theorem ZvK (k:IntKind)(a b:Int):Z5 .gtr (.int k a) (.int k b)=some (.bool (decide (b<a))):=by simp[Z5,XB,XF]
theorem ZvJ (k:IntKind)(a b:Int):Z5 .geq (.int k a) (.int k b)=some (.bool (decide (b<=a))):=by simp[Z5,XB,XF]
theorem ZvH (k:IntKind)(a b:Int):Z5 .add (.int k a) (.int k b)=some (.int k (k.wrap (a+b))):=by simp[Z5,XB,XF]
theorem ZvP (k:IntKind)(a b:Int):Z5 .sub (.int k a) (.int k b)=some (.int k (k.wrap (a-b))):=by simp[Z5,XB,XF]
theorem ZvN (k:IntKind)(a b:Int):Z5 .mul (.int k a) (.int k b)=some (.int k (k.wrap (a*b))):=by simp[Z5,XB,XF]
theorem Zwt (a b:List UInt8):YR .eql (.str a) (.str b)=some (.bool (a==b)):=(Eq.refl _).trans (Eq.refl _)
theorem Zwu (a b:List UInt8):YR .neq (.str a) (.str b)=some (.bool (!(a==b))):=(Eq.refl _).trans (Eq.refl _)
theorem Cg {a b:List UInt8}(h:a.length+b.length<=9223372036854775807):YR .add (.str a) (.str b)=some (.str (a++b)):=by simp[YR,KX,h]
theorem ZuD (k:IntKind)(a b:Int):VN (.int k a) (.int k b)=some (.int k (min a b)):=by
 simp only[VN,if_true,zA,AV.int.injEq,true_and];split <;> omega
theorem ZuC (k:IntKind)(a b:Int):Qr (.int k a) (.int k b)=some (.int k (max a b)):=by
 simp only[Qr,if_true,zA,AV.int.injEq,true_and];split <;> omega
theorem YK (s:List UInt8):Zk .string (.str s)=some (.int .i64 s.length):=(Eq.refl _).trans (Eq.refl _)
theorem Zxf (e k:Nat)(t:Tok)(l:List AV):Zk (.slice e) (.vs k t l)=some (.int .i64 l.length):=(Eq.refl _).trans (Eq.refl _)
theorem ZrS (e:Nat):Zk (.slice e) .nils=some (.int .i64 0):=(Eq.refl _).trans (Eq.refl _)
theorem Zmk (t o off:Nat):Yr (.pointer t) .eql (.ptr o off) .nilp=some (.bool false):=(Eq.refl _).trans (Eq.refl _)
theorem Zml (t o off:Nat):Yr (.pointer t) .neq (.ptr o off) .nilp=some (.bool true):=(Eq.refl _).trans (Eq.refl _)
theorem Zmi (t:Nat):Yr (.pointer t) .eql .nilp .nilp=some (.bool true):=(Eq.refl _).trans (Eq.refl _)
theorem Zmj (t:Nat):Yr (.pointer t) .neq .nilp .nilp=some (.bool false):=(Eq.refl _).trans (Eq.refl _)
theorem Zl9 (a b:Bool):Yr .bool .neq (.bool a) (.bool b)=some (.bool (!(a==b))):=(Eq.refl _).trans (Eq.refl _)
theorem Zl8 (a b:Bool):Yr .bool .eql (.bool a) (.bool b)=some (.bool (a==b)):=(Eq.refl _).trans (Eq.refl _)
theorem Zl6:Zi3 .eql .nili .nili=some (.bool true):=(Eq.refl _).trans (Eq.refl _)
theorem Zl7:Zi3 .neq .nili .nili=some (.bool false):=(Eq.refl _).trans (Eq.refl _)
theorem Zjy (s:List UInt8)(n:Int)(H:Hp):Zay .indexByte [.str s,.int .u8 n] H=some (.int .i64 (KR (zB n.toNat) s 0),H):=(Eq.refl _).trans (Eq.refl _)
theorem Zvr (s t:List UInt8)(H:Hp):Zay .cmp [.str s,.str t] H=some (.int .i64 (K3 s t),H):=(Eq.refl _).trans (Eq.refl _)
theorem Zqk (s:List UInt8)(n:Int)(H:Hp):Zay .count [.str s,.int .u8 n] H=some (.int .i64 (Tr (zB n.toNat) s),H):=(Eq.refl _).trans (Eq.refl _)
theorem Zo6 (H1:Hp):∀ (n f:Nat) (v:AV),n<f->FQ n v=true->Ze H1 0 f v=some v:=by
 intro n
 induction n with
 |zero =>
  intro f v u h
  cases f with
  |zero=>omega
  |succ f=>cases v <;> first|rfl|(simp[FQ]at h;done)
 |succ n w =>
  intro f v u h
  cases f with
  |zero=>omega
  |succ f =>
   have j:∀ l:List AV,l.all (FQ n)=true->l.mapM (Ze H1 0 f)=some l:=by
    intro l
    induction l with
    |nil=>intro _;rfl
    |cons x l g =>
     intro h;rw[List.all_cons,Bool.and_eq_true]at h;rw[List.mapM_cons,w f x (by omega) h.1,g h.2];rfl
   cases v with
   |agg l=>simp only[FQ]at h;simp only[Ze,j l h]
   |tuple l=>simp only[FQ]at h;simp only[Ze,j l h]
   |_=>first|rfl|(simp[FQ]at h;done)
theorem Na {call:List AV->Hp->Option (AV×Hp)}{args args':List AV}{H H1:Hp}{v v':AV}(g:args.mapM (Ze [] 0 9)=some args')(h:call args' []=some (v,H1))(j:Ze H1 0 9 v=some v'):Zh call args H=some (v',H):=by
 unfold Zh;simp only[g,h,j]
theorem U2 {call:List AV->Hp->Option (AV×Hp)}{args args':List AV}{H H1:Hp}{v:AV}(g:args.mapM (Ze [] 0 9)=some args')(h:call args' []=some (v,H1))(j:FQ 3 v=true):Zh call args H=some (v,H) :=
 Na g h (Zo6 H1 3 9 v (by omega) j)
theorem Zp {n:Int}(u:-9223372036854775808<=n)(w:n<=9223372036854775807):IntKind.i64.wrap n=n:=by
 unfold IntKind.wrap;have g:(2 ^ IntKind.i64.bits:Int)=18446744073709551616:=by decide
 have h:(2 ^ (IntKind.i64.bits-1):Int)=9223372036854775808:=by decide
 have j:IntKind.i64.signed=true:=(Eq.refl _).trans (Eq.refl _);simp only[g,h,j,Bool.true_and,decide_eq_true_eq,ge_iff_le];split <;> omega
theorem ZY {H:Hp}{o:Nat}{x:AObj}(h:H[o]?=some x)(l:List AObj):(H++l)[o]?=some x:=by
 rw[List.getElem?_append_left (Zg h)];exact h
theorem ZmG (H:Hp)(x:AObj)(l:List AObj):(H++(x::l))[H.length]?=some x:=by simp
theorem Yd {H:Hp}{o i:Nat}{x:Option AObj}(y:AObj)(g:i≠o)(h:H[o]?=x):(H.set i y)[o]?=x:=by
 rw[List.getElem?_set_ne g];exact h
theorem Zq {H:Hp}{o:Nat}{x:AObj}(y:AObj)(h:H[o]?=some x):(H.set o y)[o]?=some y:=by
 have:=Zg h;simp[this]
theorem Yv {H:Hp}{o off:Nat}{l:List AV}(h:H[o]?=some (.cells l))(g:Bool)(sz:Nat):Z3 g sz (.ptr o off) H=apart g sz l off:=by simp[Z3,h]
theorem WT {H:Hp}{o off sz:Nat}{l:List AV}{v:AV}(h:H[o]?=some (.cells l))(hk:v.known=true)(j:v.cells.length=sz)(g:off+sz<=l.length) :
 Za sz (.ptr o off) v H=some (.tuple [],H.set o (.cells (splice l off v.cells))):=by simp[Za,YX,h,hk,j,g]
theorem Rt {v:AV}{H:Hp}(h:v.known=true):ZQ v H=some (.ptr H.length 0,H++[.cells v.cells]):=by simp[ZQ,h]
theorem ZsV {H:Hp}{o:Nat}{l:List AV}(h:H[o]?=some (.cells l))(k:AV->Hp->Z4):Qd (.ptr o 0) H k=k (.vp l) (H.set o .dead):=by simp[Qd,Nc,h]
end
def bv (b:UInt8):AV:=.int .u8 b.toNat
theorem Zo2:∀ (l:List UInt8),Vd (l.map bv)=some l:=by
 intro l
 induction l with
 |nil=>rfl
 |cons b l g =>
  simp only[List.map_cons,bv,Vd];rw[show List.map bv l=l.map bv from rfl,g];simp
theorem Zv8 (t:Tok)(l:List UInt8):JK (.vs 1 t (l.map bv))=some (.str l):=by simp[JK,Zo2]
theorem Zpw {len cap:Nat}{n:Int}(k:IntKind)(g:0<=n)(h:n<=cap):Ys len cap none (some (.int k n)) none=some (0,n.toNat,cap):=by delta Ys;simp[X8,g,h]
theorem ZhI {len cap:Nat}{n:Int}(k:IntKind)(g:0<=n)(h:n<=len):Ys len cap (some (.int k n)) none none=some (n.toNat,len,cap):=by delta Ys;simp[X8,g,h]
theorem Zpx {len cap:Nat}{n m:Int}(k k':IntKind)(g:0<=n)(u:n<=m)(h:m<=cap):Ys len cap none (some (.int k n)) (some (.int k' m))=some (0,n.toNat,m.toNat):=by
 have:0<=m:=by omega
 have j:n<=max m 0:=by omega
 delta Ys;simp[X8,g,h,this,j]
theorem Za9 {len cap:Nat}{n m:Int}(k k':IntKind)(g:0<=n)(u:n<=m)(h:m<=cap):Ys len cap (some (.int k n)) (some (.int k' m)) none=some (n.toNat,m.toNat,cap):=by
 have:0<=m:=by omega
 have j:n<=max m 0:=by omega
 delta Ys;simp[X8,g,h,this,j]
theorem ZhO {s:List UInt8}{n:Int}(k:IntKind)(g:0<=n)(h:n<=s.length):Y8 (.str s) none (some (.int k n)) none=some (.str (s.take n.toNat)):=by
 simp[Y8,GW,Zpw k g h]
theorem Ea {s:List UInt8}{n:Int}(k:IntKind)(g:0<=n)(h:n<=s.length):Y8 (.str s) (some (.int k n)) none none=some (.str (s.drop n.toNat)):=by
 simp[Y8,GW,ZhI k g h]
theorem Zad {s:List UInt8}{n m:Int}(k k':IntKind)(g:0<=n)(h:n<=m)(j:m<=s.length):Y8 (.str s) (some (.int k n)) (some (.int k' m)) none=some (.str ((s.take m.toNat).drop n.toNat)):=by
 simp[Y8,GW,Za9 k k' g h j]
theorem ZhQ (z:Nat)(k:IntKind):Yg z .nils (some (.int k 0)) none none=some .nils:=by simp only[Yg];delta Ys;simp[X8]
theorem ZpR {l:List AV}{n:Int}(z:Nat)(t:Tok)(k:IntKind)(g:0<=n)(h:n<=l.length):Yg z (.vs z t l) (some (.int k n)) none none=some (.vs z t (l.drop n.toNat)):=by
 simp[Yg,ZhI k g h]
attribute [congr] Zs5 Zsk ZsX Zqx
attribute [go_sem] Vc ZuM Zzj Zzi ZmD ZyM ZyO ZyN ZxM Zxj Zxi Zxl ZuF Zxg ZpC ZpB
 ZvI ZvO ZvM ZvL ZvK ZvJ ZvH ZvP ZvN Zwt Zwu ZuD ZuC YK Zxf ZrS
 Zmk Zml Zmi Zmj Zl9 Zl8 Zl6 Zl7 Zjy Zvr Zqk
end Go.Am
namespace Go.Am
end Go.Am
