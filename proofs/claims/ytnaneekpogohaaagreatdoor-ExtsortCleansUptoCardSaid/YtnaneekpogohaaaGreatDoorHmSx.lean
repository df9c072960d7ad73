/- THE ABSTRACT MACHINE -/
import Derived.Test.YtnaneekpogohaaaGreatDoorHmRx
open UInt8 renaming ofNat->zB
open Option.some renaming injEq->zA
namespace Go.Am
open RowKit
def ZvL (cut:List Nat)(b:Code):Bool :=
 match YJ b with
 |some r=>cut.contains r
 |none=>false
noncomputable def SF (C:Cfg)(CL:ZF)(h:Code->KL->AL->Hp->Z4)(kp:Nat->Option (List Nat))(n:Nat)(u:SQ)(j:BL)(self:Code->KL->AL->Hp->Z4)(cut:List Nat):Code->KL->AL->Hp->Z4
 |.skip,k,al,H=>k .normal al H
 |.region id ops draw,k,al,H=>if draw&&!(V2 ops&&FK C ops) then none else Zpz n (kp (id+1000000)) (Zvf C CL n ops draw (fun g H'=>k .normal g H')) al H
 |.seq a b,k,al,H=>SF C CL h kp n u j self cut a (u (match ZvL cut b with
  |true=>fun k' g H'=>self b k' (Y3 kp b g) H'
  |false=>fun k' g H'=>SF C CL h kp n u j self cut b k' (Y3 kp b g) H') k) al H
 |.cond c x y,k,al,H=>Zj (Jx C n al c) (SF C CL h kp n u j self cut x k al H) (SF C CL h kp n u j self cut y k al H)
 |.block id c,k,al,H=>SF C CL h kp n u j self cut c (j id k) al H
 |.loop c,k,al,H=>h c k (Y3 kp c al) H
 |.scope c,k,al,H=>if XB c then SF C CL h kp n u j self cut c k al H else none
 |.exit id,k,al,H=>k (.exit id) al H
 |.label _,k,al,H=>k .normal al H
 |.goto l,k,al,H=>k (.goto l) al H
 |.ret,k,al,H=>k .ret al H
 |_,_,_,_=>none
theorem Zkt {C:Cfg}{CL:ZF}{h:Code->KL->AL->Hp->Z4}{kp:Nat->Option (List Nat)}{n:Nat}{D:SQ}{j:BL}(cut:List Nat):∀ (c:Code) (k:KL) (g:AL) (H:Hp),
 Yl C CL h kp n D j c k g H=SF C CL h kp n D j (Yl C CL h kp n D j) cut c k g H:=by
 intro c
 induction c with
 |seq a b w z =>
  intro k g H;simp only[Yl,SF];rw[w];congr 1;congr 1
  cases ZvL cut b with
  |true=>rfl
  |false =>
   funext k' al' H';exact z _ _ _
 |cond c x y A B=>intro k g H;simp only[Yl,SF];rw[A,B]
 |block id c u=>intro k g H;simp only[Yl,SF];exact u _ _ _
 |scope c u=>intro k g H;simp only[Yl,SF];rw[u]
 |_=>intro k g H;rfl
section
variable {C:Cfg}{kp:Nat->Option (List Nat)}{n:Nat}
theorem ZC {c:Code}{u:KL}(cut:List Nat)(h:ZR n u)(g:AL)(H:Hp):Y4 C kp n c u g H =
 SF C (Za C) (Y4 C kp n) kp n Zc Z6 (Yl C (Za C) (Y4 C kp n) kp n Zc Z6) cut c (Zc (fun k' j H'=>Y4 C kp n c k' (Y3 kp c j) H') u) (Y3 kp c g) H:=by
 rw[<-Zkt];exact Zxa h g H
theorem Ze {f:FuncId}{fn:Func}{c:Code}(cut:List Nat)(j:C.P.funcs[f]?=some fn)(h:Rs C f fn=some c)(g:fn.ntmps=n)(args:List AV)(u:Nat.ble args.length n=true)(H:Hp) :
 Za C f args H=SF C (Za C) (Y4 C (C.keep f) n) (C.keep f) n Zc Z6 (Yl C (Za C) (Y4 C (C.keep f) n) (C.keep f) n Zc Z6) cut c (Zg C n f fn H) (ID 0 args) H:=by
 rw[<-Zkt];exact Zr8 j h g args u H
end
end Go.Am
namespace Go.Am
section
variable {α β:Type}
theorem WZ (x:α)(f:α->Option β):Z0 (some x) f=f x:=(Eq.refl _).trans (Eq.refl _)
theorem ZtI (f:α->Option β):Z0 (none:Option α) f=none:=(Eq.refl _).trans (Eq.refl _)
theorem Zr6 {x g:Option α}(h:x=g)(f:α->Option β):Z0 x f=Z0 g f:=by rw[h]
theorem Zrl {c c':AV}(h:c=c')(x y:Z4):Zj c x y=Zj c' x y:=by rw[h]
theorem ZrU {g j:AV}(h:g=j)(w:Bool)(e:α)(x:Option α):Z8 g w e x=Z8 j w e x:=by rw[h]
theorem Zpy {a a':AV}(h:a=a')(H:Hp)(k:AV->Hp->Z4):UI a H k=UI a' H k:=by rw[h]
theorem Zyb (x y:Z4):Zj (.bool true) x y=x:=(Eq.refl _).trans (Eq.refl _)
theorem Zya (x y:Z4):Zj (.bool false) x y=y:=(Eq.refl _).trans (Eq.refl _)
theorem Zlx (e:α)(x:Option α):Z8 (.bool true) true e x=x:=(Eq.refl _).trans (Eq.refl _)
theorem ZxA (e:α)(x:Option α):Z8 (.bool false) false e x=x:=(Eq.refl _).trans (Eq.refl _)
theorem ZxC (e:α)(x:Option α):Z8 (.bool true) false e x=some e:=(Eq.refl _).trans (Eq.refl _)
theorem ZxB (e:α)(x:Option α):Z8 (.bool false) true e x=some e:=(Eq.refl _).trans (Eq.refl _)
theorem ZwB (l:List AV)(w:Bool)(e:α)(x:Option α):Z8 (.tuple l) w e x=some e:=(Eq.refl _).trans (Eq.refl _)
theorem Zw9 (a b:AV):Zi (.bool true) a b=some a:=(Eq.refl _).trans (Eq.refl _)
theorem Zw8 (a b:AV):Zi (.bool false) a b=some b:=(Eq.refl _).trans (Eq.refl _)
theorem Zwb (b:Bool):Xv .not (.bool b)=some (.bool (!b)):=(Eq.refl _).trans (Eq.refl _)
theorem ZtA (o off:Nat):Zu (.ptr o off)=some (.ptr o off):=(Eq.refl _).trans (Eq.refl _)
theorem Zw6 (l:List AV):Zu (.vp l)=some (.vp l):=(Eq.refl _).trans (Eq.refl _)
theorem ZoA (k o off:Nat):Z7 k (.ptr o off)=some (.ptr o (off+k)):=(Eq.refl _).trans (Eq.refl _)
theorem Zoz (l:List AV)(i:Nat):ZO (.tuple l) i=l[i]?:=(Eq.refl _).trans (Eq.refl _)
theorem ZuB (k:IntKind)(a b:Int):Z5 .eql (.int k a) (.int k b)=some (.bool (a==b)):=by simp[Z5,Wa,Wb]
theorem ZuH (k:IntKind)(a b:Int):Z5 .neq (.int k a) (.int k b)=some (.bool (a != b)):=by simp[Z5,Wa,Wb]
theorem ZuF (k:IntKind)(a b:Int):Z5 .lss (.int k a) (.int k b)=some (.bool (decide (a<b))):=by simp[Z5,Wa,Wb]
theorem ZuE (k:IntKind)(a b:Int):Z5 .leq (.int k a) (.int k b)=some (.bool (decide (a<=b))):=by simp[Z5,Wa,Wb]
theorem ZuD (k:IntKind)(a b:Int):Z5 .gtr (.int k a) (.int k b)=some (.bool (decide (b<a))):=by simp[Z5,Wa,Wb]
theorem ZuC (k:IntKind)(a b:Int):Z5 .geq (.int k a) (.int k b)=some (.bool (decide (b<=a))):=by simp[Z5,Wa,Wb]
theorem ZuA (k:IntKind)(a b:Int):Z5 .add (.int k a) (.int k b)=some (.int k (k.wrap (a+b))):=by simp[Z5,Wa,Wb]
theorem ZuI (k:IntKind)(a b:Int):Z5 .sub (.int k a) (.int k b)=some (.int k (k.wrap (a-b))):=by simp[Z5,Wa,Wb]
theorem ZuG (k:IntKind)(a b:Int):Z5 .mul (.int k a) (.int k b)=some (.int k (k.wrap (a*b))):=by simp[Z5,Wa,Wb]
theorem Zvm (a b:List UInt8):Yr .eql (.str a) (.str b)=some (.bool (a==b)):=(Eq.refl _).trans (Eq.refl _)
theorem Zvn (a b:List UInt8):Yr .neq (.str a) (.str b)=some (.bool (!(a==b))):=(Eq.refl _).trans (Eq.refl _)
theorem ED {a b:List UInt8}(h:a.length+b.length<=9223372036854775807):Yr .add (.str a) (.str b)=some (.str (a++b)):=by simp[Yr,Ki,h]
theorem Zty (k:IntKind)(a b:Int):UY (.int k a) (.int k b)=some (.int k (min a b)):=by
 simp only[UY,if_true,zA,AV.int.injEq,true_and];split <;> omega
theorem Ztx (k:IntKind)(a b:Int):KN (.int k a) (.int k b)=some (.int k (max a b)):=by
 simp only[KN,if_true,zA,AV.int.injEq,true_and];split <;> omega
theorem YI (s:List UInt8):Zk .string (.str s)=some (.int .i64 s.length):=(Eq.refl _).trans (Eq.refl _)
theorem Zw5 (e k:Nat)(t:Tok)(l:List AV):Zk (.slice e) (.vs k t l)=some (.int .i64 l.length):=(Eq.refl _).trans (Eq.refl _)
theorem ZqT (e:Nat):Zk (.slice e) .nils=some (.int .i64 0):=(Eq.refl _).trans (Eq.refl _)
theorem Zle (t o off:Nat):Yy (.pointer t) .eql (.ptr o off) .nilp=some (.bool false):=(Eq.refl _).trans (Eq.refl _)
theorem Zlf (t o off:Nat):Yy (.pointer t) .neq (.ptr o off) .nilp=some (.bool true):=(Eq.refl _).trans (Eq.refl _)
theorem Zlc (t:Nat):Yy (.pointer t) .eql .nilp .nilp=some (.bool true):=(Eq.refl _).trans (Eq.refl _)
theorem Zld (t:Nat):Yy (.pointer t) .neq .nilp .nilp=some (.bool false):=(Eq.refl _).trans (Eq.refl _)
theorem Zk7 (a b:Bool):Yy .bool .neq (.bool a) (.bool b)=some (.bool (!(a==b))):=(Eq.refl _).trans (Eq.refl _)
theorem Zk6 (a b:Bool):Yy .bool .eql (.bool a) (.bool b)=some (.bool (a==b)):=(Eq.refl _).trans (Eq.refl _)
theorem Zk4:ZgV .eql .nili .nili=some (.bool true):=(Eq.refl _).trans (Eq.refl _)
theorem Zk5:ZgV .neq .nili .nili=some (.bool false):=(Eq.refl _).trans (Eq.refl _)
theorem Zix (s:List UInt8)(n:Int)(H:Hp):O1 .indexByte [.str s,.int .u8 n] H=some (.int .i64 (Kb (zB n.toNat) s 0),H):=(Eq.refl _).trans (Eq.refl _)
theorem Zul (s t:List UInt8)(H:Hp):O1 .cmp [.str s,.str t] H=some (.int .i64 (Jt s t),H):=(Eq.refl _).trans (Eq.refl _)
theorem Zpj (s:List UInt8)(n:Int)(H:Hp):O1 .count [.str s,.int .u8 n] H=some (.int .i64 (Rt (zB n.toNat) s),H):=(Eq.refl _).trans (Eq.refl _)
theorem Zn0 (H1:Hp):∀ (n f:Nat) (v:AV),n<f->F2 n v=true->Zd H1 0 f v=some v:=by
 intro n
 induction n with
 |zero =>
  intro f v u h
  cases f with
  |zero=>omega
  |succ f=>cases v <;> first|rfl|(simp[F2]at h;done)
 |succ n w =>
  intro f v u h
  cases f with
  |zero=>omega
  |succ f =>
   have j:∀ l:List AV,l.all (F2 n)=true->l.mapM (Zd H1 0 f)=some l:=by
    intro l
    induction l with
    |nil=>intro _;rfl
    |cons x l g =>
     intro h;rw[List.all_cons,Bool.and_eq_true]at h;rw[List.mapM_cons,w f x (by omega) h.1,g h.2];rfl
   cases v with
   |agg l=>simp only[F2]at h;simp only[Zd,j l h]
   |tuple l=>simp only[F2]at h;simp only[Zd,j l h]
   |_=>first|rfl|(simp[F2]at h;done)
theorem Pb {call:List AV->Hp->Option (AV×Hp)}{args args':List AV}{H H1:Hp}{v v':AV}(g:args.mapM (Zd [] 0 9)=some args')(h:call args' []=some (v,H1))(j:Zd H1 0 9 v=some v'):Zf call args H=some (v',H):=by
 unfold Zf;simp only[g,h,j]
theorem Ws {call:List AV->Hp->Option (AV×Hp)}{args args':List AV}{H H1:Hp}{v:AV}(g:args.mapM (Zd [] 0 9)=some args')(h:call args' []=some (v,H1))(j:F2 3 v=true):Zf call args H=some (v,H) :=
 Pb g h (Zn0 H1 3 9 v (by omega) j)
theorem Zr {n:Int}(u:-9223372036854775808<=n)(w:n<=9223372036854775807):IntKind.i64.wrap n=n:=by
 unfold IntKind.wrap;have g:(2 ^ IntKind.i64.bits:Int)=18446744073709551616:=by decide
 have h:(2 ^ (IntKind.i64.bits-1):Int)=9223372036854775808:=by decide
 have j:IntKind.i64.signed=true:=(Eq.refl _).trans (Eq.refl _);simp only[g,h,j,Bool.true_and,decide_eq_true_eq,ge_iff_le];split <;> omega
theorem Y5 {H:Hp}{o:Nat}{x:AObj}(h:H[o]?=some x)(l:List AObj):(H++l)[o]?=some x:=by
 rw[List.getElem?_append_left (Zh h)];exact h
theorem ZcU (H:Hp)(x:AObj)(l:List AObj):(H++(x::l))[H.length]?=some x:=by simp
theorem Yi {H:Hp}{o i:Nat}{x:Option AObj}(y:AObj)(g:i≠o)(h:H[o]?=x):(H.set i y)[o]?=x:=by
 rw[List.getElem?_set_ne g];exact h
theorem Zs {H:Hp}{o:Nat}{x:AObj}(y:AObj)(h:H[o]?=some x):(H.set o y)[o]?=some y:=by
 have:=Zh h;simp[this]
theorem YA {H:Hp}{o off:Nat}{l:List AV}(h:H[o]?=some (.cells l))(g:Bool)(sz:Nat):Z3 g sz (.ptr o off) H=apart g sz l off:=by simp[Z3,h]
theorem WG {H:Hp}{o off sz:Nat}{l:List AV}{v:AV}(h:H[o]?=some (.cells l))(hk:v.known=true)(j:v.cells.length=sz)(g:off+sz<=l.length) :
 Zb sz (.ptr o off) v H=some (.tuple [],H.set o (.cells (splice l off v.cells))):=by simp[Zb,YU,h,hk,j,g]
theorem FH {v:AV}{H:Hp}(h:v.known=true):ZN v H=some (.ptr H.length 0,H++[.cells v.cells]):=by simp[ZN,h]
theorem ZrS {H:Hp}{o:Nat}{l:List AV}(h:H[o]?=some (.cells l))(k:AV->Hp->Z4):UI (.ptr o 0) H k=k (.vp l) (H.set o .dead):=by simp[UI,Pd,h]
end
def bv (b:UInt8):AV:=.int .u8 b.toNat
theorem ZmW:∀ (l:List UInt8),V0 (l.map bv)=some l:=by
 intro l
 induction l with
 |nil=>rfl
 |cons b l g =>
  simp only[List.map_cons,bv,V0];rw[show List.map bv l=l.map bv from rfl,g];simp
theorem Zu2 (t:Tok)(l:List UInt8):Jc (.vs 1 t (l.map bv))=some (.str l):=by simp[Jc,ZmW]
theorem Zov {len cap:Nat}{n:Int}(k:IntKind)(g:0<=n)(h:n<=cap):YM len cap none (some (.int k n)) none=some (0,n.toNat,cap):=by delta YM;simp[Xb,g,h]
theorem ZgA {len cap:Nat}{n:Int}(k:IntKind)(g:0<=n)(h:n<=len):YM len cap (some (.int k n)) none none=some (n.toNat,len,cap):=by delta YM;simp[Xb,g,h]
theorem IA {len cap:Nat}{n m:Int}(k k':IntKind)(g:0<=n)(u:n<=m)(h:m<=cap):YM len cap (some (.int k n)) (some (.int k' m)) none=some (n.toNat,m.toNat,cap):=by
 have:0<=m:=by omega
 have j:n<=max m 0:=by omega
 delta YM;simp[Xb,g,h,this,j]
theorem ZgG {s:List UInt8}{n:Int}(k:IntKind)(g:0<=n)(h:n<=s.length):ZU (.str s) none (some (.int k n)) none=some (.str (s.take n.toNat)):=by
 simp[ZU,Gl,Zov k g h]
theorem MW {s:List UInt8}{n:Int}(k:IntKind)(g:0<=n)(h:n<=s.length):ZU (.str s) (some (.int k n)) none none=some (.str (s.drop n.toNat)):=by
 simp[ZU,Gl,ZgA k g h]
theorem IE {s:List UInt8}{n m:Int}(k k':IntKind)(g:0<=n)(h:n<=m)(j:m<=s.length):ZU (.str s) (some (.int k n)) (some (.int k' m)) none=some (.str ((s.take m.toNat).drop n.toNat)):=by
 simp[ZU,Gl,IA k k' g h j]
theorem ZgI (z:Nat)(k:IntKind):Yx z .nils (some (.int k 0)) none none=some .nils:=by simp only[Yx];delta YM;simp[Xb]
theorem ZoP {l:List AV}{n:Int}(z:Nat)(t:Tok)(k:IntKind)(g:0<=n)(h:n<=l.length):Yx z (.vs z t l) (some (.int k n)) none none=some (.vs z t (l.drop n.toNat)):=by
 simp[Yx,ZgA k g h]
attribute [congr] Zr6 Zrl ZrU Zpy
attribute [go_sem] WZ ZtI Zyb Zya Zlx ZxA ZxC ZxB ZwB Zw9 Zw8 Zwb ZtA Zw6 ZoA Zoz
 ZuB ZuH ZuF ZuE ZuD ZuC ZuA ZuI ZuG Zvm Zvn Zty Ztx YI Zw5 ZqT
 Zle Zlf Zlc Zld Zk7 Zk6 Zk4 Zk5 Zix Zul Zpj
end Go.Am
namespace Go.Am
theorem ZqS {p:Nat}{l:List AV}{H:Hp}(h:H[p]?=some .free):Gk p (some (.cells l)) H=some (.ptr p 0,H.set p (.cells l)):=by simp[Gk,h,ZxF,ZxG]
end Go.Am
