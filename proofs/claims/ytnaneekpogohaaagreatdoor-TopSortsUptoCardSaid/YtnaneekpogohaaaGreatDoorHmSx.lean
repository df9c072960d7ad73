/- THE ABSTRACT MACHINE -/
import Derived.Test.YtnaneekpogohaaaGreatDoorHmRx
open UInt8 renaming ofNat->zB
open Option.some renaming injEq->zA
namespace Go.Am
open RowKit
def ZxD (cut:List Nat)(b:Code):Bool :=
 match Yp b with
 |some r=>cut.contains r
 |none=>false
noncomputable def Cr (C:Cfg)(CL:Zw)(j:Code->KL->AL->Hp->Z4)(kp:Nat->Option (List Nat))(n:Nat)(w:SQ)(u:BL)(self:Code->KL->AL->Hp->Z4)(cut:List Nat):Code->KL->AL->Hp->Z4
 |.skip,k,al,H=>k .normal al H
 |.region id ops draw,k,al,H=>if draw&&!(W7 ops&&K2 C ops) then none else Zmw n (kp (id+1000000)) (Zn0 C CL n ops draw (fun g H'=>k .normal g H')) al H
 |.seq a b,k,al,H=>Cr C CL j kp n w u self cut a (w (match ZxD cut b with
  |true=>fun z g H'=>self b z (ZS kp b g) H'
  |false=>fun z g H'=>Cr C CL j kp n w u self cut b z (ZS kp b g) H') k) al H
 |.cond c x y,k,al,H=>Zk (Yx C n al c) (Cr C CL j kp n w u self cut x k al H) (Cr C CL j kp n w u self cut y k al H)
 |.block id c,k,al,H=>Cr C CL j kp n w u self cut c (u id k) al H
 |.loop c,k,al,H=>j c k (ZS kp c al) H
 |.scope c,k,al,H=>if Xf c then Cr C CL j kp n w u self cut c k al H else none
 |.exit id,k,al,H=>k (.exit id) al H
 |.label _,k,al,H=>k .normal al H
 |.goto l,k,al,H=>k (.goto l) al H
 |.ret,k,al,H=>k .ret al H
 |_,_,_,_=>none
theorem Zlo {C:Cfg}{CL:Zw}{j:Code->KL->AL->Hp->Z4}{kp:Nat->Option (List Nat)}{n:Nat}{E:SQ}{u:BL}(cut:List Nat):∀ (c:Code) (k:KL) (g:AL) (H:Hp),
 Y6 C CL j kp n E u c k g H=Cr C CL j kp n E u (Y6 C CL j kp n E u) cut c k g H:=by
 intro c
 induction c with
 |seq a b z A =>
  intro k g H;simp only[Y6,Cr];rw[z];congr 1;congr 1
  cases ZxD cut b with
  |true=>rfl
  |false =>
   funext k' al' H';exact A _ _ _
 |cond c x y B D=>intro k g H;simp only[Y6,Cr];rw[B,D]
 |block id c w=>intro k g H;simp only[Y6,Cr];exact w _ _ _
 |scope c w=>intro k g H;simp only[Y6,Cr];rw[w]
 |_=>intro k g H;rfl
section
variable {C:Cfg}{kp:Nat->Option (List Nat)}{n:Nat}
theorem ZD {c:Code}{u:KL}(cut:List Nat)(h:ZU n u)(g:AL)(H:Hp):ZZ C kp n c u g H =
 Cr C (Z9 C) (ZZ C kp n) kp n Zc Z6 (Y6 C (Z9 C) (ZZ C kp n) kp n Zc Z6) cut c (Zc (fun w j H'=>ZZ C kp n c w (ZS kp c j) H') u) (ZS kp c g) H:=by
 rw[<-Zlo];exact Zs6 h g H
theorem Zd {f:FuncId}{fn:Func}{c:Code}(cut:List Nat)(u:C.P.funcs[f]?=some fn)(j:Di C f fn=some c)(g:fn.ntmps=n)(args:List AV)(w:Nat.ble args.length n=true)(H:Hp) :
 Z9 C f args H=Cr C (Z9 C) (ZZ C (C.keep f) n) (C.keep f) n Zc Z6 (Y6 C (Z9 C) (ZZ C (C.keep f) n) (C.keep f) n Zc Z6) cut c (Zi C n f fn H) (Lm 0 args) H:=by
 rw[<-Zlo];exact ZjV u j g args w H
end
end Go.Am
namespace Go.Am
section
variable {α β:Type}
theorem Qg (x:α)(f:α->Option β):Z0 (some x) f=f x:=(Eq.refl _).trans (Eq.refl _)
theorem Zvp (f:α->Option β):Z0 (none:Option α) f=none:=(Eq.refl _).trans (Eq.refl _)
theorem Zsy {x g:Option α}(h:x=g)(f:α->Option β):Z0 x f=Z0 g f:=by rw[h]
theorem ZsQ {c c':AV}(h:c=c')(x y:Z4):Zk c x y=Zk c' x y:=by rw[h]
theorem Zts {g j:AV}(h:g=j)(w:Bool)(e:α)(x:Option α):Z8 g w e x=Z8 j w e x:=by rw[h]
theorem ZqO {a a':AV}(h:a=a')(H:Hp)(k:AV->Hp->Z4):XG a H k=XG a' H k:=by rw[h]
theorem ZAk (x y:Z4):Zk (.bool true) x y=x:=(Eq.refl _).trans (Eq.refl _)
theorem ZAj (x y:Z4):Zk (.bool false) x y=y:=(Eq.refl _).trans (Eq.refl _)
theorem Zmy (e:α)(x:Option α):Z8 (.bool true) true e x=x:=(Eq.refl _).trans (Eq.refl _)
theorem ZzD (e:α)(x:Option α):Z8 (.bool false) false e x=x:=(Eq.refl _).trans (Eq.refl _)
theorem ZzG (e:α)(x:Option α):Z8 (.bool true) false e x=some e:=(Eq.refl _).trans (Eq.refl _)
theorem ZzE (e:α)(x:Option α):Z8 (.bool false) true e x=some e:=(Eq.refl _).trans (Eq.refl _)
theorem ZyC (l:List AV)(w:Bool)(e:α)(x:Option α):Z8 (.tuple l) w e x=some e:=(Eq.refl _).trans (Eq.refl _)
theorem Zy5 (a b:AV):Zj (.bool true) a b=some a:=(Eq.refl _).trans (Eq.refl _)
theorem Zy4 (a b:AV):Zj (.bool false) a b=some b:=(Eq.refl _).trans (Eq.refl _)
theorem Zy7 (b:Bool):Xv .not (.bool b)=some (.bool (!b)):=(Eq.refl _).trans (Eq.refl _)
theorem Zvi (o off:Nat):Zu (.ptr o off)=some (.ptr o off):=(Eq.refl _).trans (Eq.refl _)
theorem Zy2 (l:List AV):Zu (.vp l)=some (.vp l):=(Eq.refl _).trans (Eq.refl _)
theorem ZpF (k o off:Nat):Z7 k (.ptr o off)=some (.ptr o (off+k)):=(Eq.refl _).trans (Eq.refl _)
theorem ZpE (l:List AV)(i:Nat):ZT (.tuple l) i=l[i]?:=(Eq.refl _).trans (Eq.refl _)
theorem Zwt (k:IntKind)(a b:Int):Z5 .eql (.int k a) (.int k b)=some (.bool (a==b)):=by simp[Z5,W5,XH]
theorem Zwz (k:IntKind)(a b:Int):Z5 .neq (.int k a) (.int k b)=some (.bool (a != b)):=by simp[Z5,W5,XH]
theorem Zwx (k:IntKind)(a b:Int):Z5 .lss (.int k a) (.int k b)=some (.bool (decide (a<b))):=by simp[Z5,W5,XH]
theorem Zww (k:IntKind)(a b:Int):Z5 .leq (.int k a) (.int k b)=some (.bool (decide (a<=b))):=by simp[Z5,W5,XH]
theorem Zwv (k:IntKind)(a b:Int):Z5 .gtr (.int k a) (.int k b)=some (.bool (decide (b<a))):=by simp[Z5,W5,XH]
theorem Zwu (k:IntKind)(a b:Int):Z5 .geq (.int k a) (.int k b)=some (.bool (decide (b<=a))):=by simp[Z5,W5,XH]
theorem Zws (k:IntKind)(a b:Int):Z5 .add (.int k a) (.int k b)=some (.int k (k.wrap (a+b))):=by simp[Z5,W5,XH]
theorem ZwA (k:IntKind)(a b:Int):Z5 .sub (.int k a) (.int k b)=some (.int k (k.wrap (a-b))):=by simp[Z5,W5,XH]
theorem Zwy (k:IntKind)(a b:Int):Z5 .mul (.int k a) (.int k b)=some (.int k (k.wrap (a*b))):=by simp[Z5,W5,XH]
theorem Zxd (a b:List UInt8):Xb .eql (.str a) (.str b)=some (.bool (a==b)):=(Eq.refl _).trans (Eq.refl _)
theorem Zxe (a b:List UInt8):Xb .neq (.str a) (.str b)=some (.bool (!(a==b))):=(Eq.refl _).trans (Eq.refl _)
theorem PQ {a b:List UInt8}(h:a.length+b.length<=9223372036854775807):Xb .add (.str a) (.str b)=some (.str (a++b)):=by simp[Xb,DH,h]
theorem Zvg (k:IntKind)(a b:Int):UU (.int k a) (.int k b)=some (.int k (min a b)):=by
 simp only[UU,if_true,zA,AV.int.injEq,true_and];split <;> omega
theorem Zvf (k:IntKind)(a b:Int):Ki (.int k a) (.int k b)=some (.int k (max a b)):=by
 simp only[Ki,if_true,zA,AV.int.injEq,true_and];split <;> omega
theorem YI (s:List UInt8):Zl .string (.str s)=some (.int .i64 s.length):=(Eq.refl _).trans (Eq.refl _)
theorem Zy1 (e k:Nat)(t:Tok)(l:List AV):Zl (.slice e) (.vs k t l)=some (.int .i64 l.length):=(Eq.refl _).trans (Eq.refl _)
theorem Zsl (e:Nat):Zl (.slice e) .nils=some (.int .i64 0):=(Eq.refl _).trans (Eq.refl _)
theorem Zma (t o off:Nat):Ys (.pointer t) .eql (.ptr o off) .nilp=some (.bool false):=(Eq.refl _).trans (Eq.refl _)
theorem Zmb (t o off:Nat):Ys (.pointer t) .neq (.ptr o off) .nilp=some (.bool true):=(Eq.refl _).trans (Eq.refl _)
theorem Zm8 (t:Nat):Ys (.pointer t) .eql .nilp .nilp=some (.bool true):=(Eq.refl _).trans (Eq.refl _)
theorem Zm9 (t:Nat):Ys (.pointer t) .neq .nilp .nilp=some (.bool false):=(Eq.refl _).trans (Eq.refl _)
theorem ZkZ (a b:Bool):Ys .bool .neq (.bool a) (.bool b)=some (.bool (!(a==b))):=(Eq.refl _).trans (Eq.refl _)
theorem ZkY (a b:Bool):Ys .bool .eql (.bool a) (.bool b)=some (.bool (a==b)):=(Eq.refl _).trans (Eq.refl _)
theorem ZkW:OU .eql .nili .nili=some (.bool true):=(Eq.refl _).trans (Eq.refl _)
theorem ZkX:OU .neq .nili .nili=some (.bool false):=(Eq.refl _).trans (Eq.refl _)
theorem Zjl (s:List UInt8)(n:Int)(H:Hp):AC .indexByte [.str s,.int .u8 n] H=some (.int .i64 (JQ (zB n.toNat) s 0),H):=(Eq.refl _).trans (Eq.refl _)
theorem Zw8 (s t:List UInt8)(H:Hp):AC .cmp [.str s,.str t] H=some (.int .i64 (Ja s t),H):=(Eq.refl _).trans (Eq.refl _)
theorem Zqv (s:List UInt8)(n:Int)(H:Hp):AC .count [.str s,.int .u8 n] H=some (.int .i64 (RJ (zB n.toNat) s),H):=(Eq.refl _).trans (Eq.refl _)
theorem ZnY (H1:Hp):∀ (n f:Nat) (v:AV),n<f->Gn n v=true->Zb H1 0 f v=some v:=by
 intro n
 induction n with
 |zero =>
  intro f v u h
  cases f with
  |zero=>omega
  |succ f=>cases v <;> first|rfl|(simp[Gn]at h;done)
 |succ n w =>
  intro f v u h
  cases f with
  |zero=>omega
  |succ f =>
   have j:∀ l:List AV,l.all (Gn n)=true->l.mapM (Zb H1 0 f)=some l:=by
    intro l
    induction l with
    |nil=>intro _;rfl
    |cons x l g =>
     intro h;rw[List.all_cons,Bool.and_eq_true]at h;rw[List.mapM_cons,w f x (by omega) h.1,g h.2];rfl
   cases v with
   |agg l=>simp only[Gn]at h;simp only[Zb,j l h]
   |tuple l=>simp only[Gn]at h;simp only[Zb,j l h]
   |_=>first|rfl|(simp[Gn]at h;done)
theorem Pq {call:List AV->Hp->Option (AV×Hp)}{args args':List AV}{H H1:Hp}{v v':AV}(g:args.mapM (Zb [] 0 9)=some args')(j:call args' []=some (v,H1))(u:Zb H1 0 9 v=some v'):Ze call args H=some (v',H):=by
 unfold Ze;simp only[g,j,u]
theorem Vt {call:List AV->Hp->Option (AV×Hp)}{args args':List AV}{H H1:Hp}{v:AV}(g:args.mapM (Zb [] 0 9)=some args')(j:call args' []=some (v,H1))(u:Gn 3 v=true):Ze call args H=some (v,H) :=
 Pq g j (ZnY H1 3 9 v (by omega) u)
theorem Zr {n:Int}(w:-9223372036854775808<=n)(y:n<=9223372036854775807):IntKind.i64.wrap n=n:=by
 unfold IntKind.wrap;have g:(2 ^ IntKind.i64.bits:Int)=18446744073709551616:=by decide
 have j:(2 ^ (IntKind.i64.bits-1):Int)=9223372036854775808:=by decide
 have u:IntKind.i64.signed=true:=(Eq.refl _).trans (Eq.refl _);simp only[g,j,u,Bool.true_and,decide_eq_true_eq,ge_iff_le];split <;> omega
theorem Yl {H:Hp}{o:Nat}{x:AObj}(h:H[o]?=some x)(l:List AObj):(H++l)[o]?=some x:=by
 rw[List.getElem?_append_left (Zh h)];exact h
theorem ZmA (H:Hp)(x:AObj)(l:List AObj):(H++(x::l))[H.length]?=some x:=by simp
theorem Yn {H:Hp}{o i:Nat}{x:Option AObj}(y:AObj)(g:i≠o)(h:H[o]?=x):(H.set i y)[o]?=x:=by
 rw[List.getElem?_set_ne g];exact h
theorem Zt {H:Hp}{o:Nat}{x:AObj}(y:AObj)(h:H[o]?=some x):(H.set o y)[o]?=some y:=by
 have:=Zh h;simp[this]
theorem YE {H:Hp}{o off:Nat}{l:List AV}(h:H[o]?=some (.cells l))(g:Bool)(sz:Nat):Z3 g sz (.ptr o off) H=apart g sz l off:=by simp[Z3,h]
theorem VU {H:Hp}{o off sz:Nat}{l:List AV}{v:AV}(h:H[o]?=some (.cells l))(g:v.known=true)(u:v.cells.length=sz)(j:off+sz<=l.length) :
 Zf sz (.ptr o off) v H=some (.tuple [],H.set o (.cells (splice l off v.cells))):=by simp[Zf,YM,h,g,u,j]
theorem FS {v:AV}{H:Hp}(h:v.known=true):ZO v H=some (.ptr H.length 0,H++[.cells v.cells]):=by simp[ZO,h]
theorem IC {H:Hp}{o:Nat}{l:List AV}(h:H[o]?=some (.cells l))(k:AV->Hp->Z4):XG (.ptr o 0) H k=k (.vp l) (H.set o .dead):=by simp[XG,Pu,h]
end
def bv (b:UInt8):AV:=.int .u8 b.toNat
theorem ZnV:∀ (l:List UInt8),WU (l.map bv)=some l:=by
 intro l
 induction l with
 |nil=>rfl
 |cons b l g =>
  simp only[List.map_cons,bv,WU];rw[show List.map bv l=l.map bv from rfl,g];simp
theorem ZvQ (t:Tok)(l:List UInt8):QR (.vs 1 t (l.map bv))=some (.str l):=by simp[QR,ZnV]
theorem ZpA {len cap:Nat}{n:Int}(k:IntKind)(g:0<=n)(j:n<=cap):Yw len cap none (some (.int k n)) none=some (0,n.toNat,cap):=by delta Yw;simp[YW,g,j]
theorem Zhp {len cap:Nat}{n:Int}(k:IntKind)(g:0<=n)(j:n<=len):Yw len cap (some (.int k n)) none none=some (n.toNat,len,cap):=by delta Yw;simp[YW,g,j]
theorem Ox {len cap:Nat}{n m:Int}(k w:IntKind)(g:0<=n)(y:n<=m)(j:m<=cap):Yw len cap (some (.int k n)) (some (.int w m)) none=some (n.toNat,m.toNat,cap):=by
 have:0<=m:=by omega
 have u:n<=max m 0:=by omega
 delta Yw;simp[YW,g,j,this,u]
theorem ZpS {s:List UInt8}{n:Int}(k:IntKind)(g:0<=n)(j:n<=s.length):Yj (.str s) none (some (.int k n)) none=some (.str (s.take n.toNat)):=by
 simp[Yj,UV,ZpA k g j]
theorem OC {s:List UInt8}{n:Int}(k:IntKind)(g:0<=n)(j:n<=s.length):Yj (.str s) (some (.int k n)) none none=some (.str (s.drop n.toNat)):=by
 simp[Yj,UV,Zhp k g j]
theorem OB {s:List UInt8}{n m:Int}(k g:IntKind)(j:0<=n)(u:n<=m)(w:m<=s.length):Yj (.str s) (some (.int k n)) (some (.int g m)) none=some (.str ((s.take m.toNat).drop n.toNat)):=by
 simp[Yj,UV,Ox k g j u w]
theorem Zhw (z:Nat)(k:IntKind):Yk z .nils (some (.int k 0)) none none=some .nils:=by simp only[Yk];delta Yw;simp[YW]
theorem ZpU {l:List AV}{n:Int}(z:Nat)(t:Tok)(k:IntKind)(g:0<=n)(j:n<=l.length):Yk z (.vs z t l) (some (.int k n)) none none=some (.vs z t (l.drop n.toNat)):=by
 simp[Yk,Zhp k g j]
attribute [congr] Zsy ZsQ Zts ZqO
attribute [go_sem] Qg Zvp ZAk ZAj Zmy ZzD ZzG ZzE ZyC Zy5 Zy4 Zy7 Zvi Zy2 ZpF ZpE
 Zwt Zwz Zwx Zww Zwv Zwu Zws ZwA Zwy Zxd Zxe Zvg Zvf YI Zy1 Zsl
 Zma Zmb Zm8 Zm9 ZkZ ZkY ZkW ZkX Zjl Zw8 Zqv
end Go.Am
namespace Go.Am
theorem Zsk {p:Nat}{l:List AV}{H:Hp}(h:H[p]?=some .free):KV p (some (.cells l)) H=some (.ptr p 0,H.set p (.cells l)):=by simp[KV,h,ZzP,ZzQ]
end Go.Am
