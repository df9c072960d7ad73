/- THE ABSTRACT MACHINE -/
import Derived.Test.YtnaneekpogohaaaGreatDoorHmRx
open UInt8 renaming ofNat->zB
open Option.some renaming injEq->zA
namespace Go.Am
open RowKit
def Zxe (cut:List Nat)(b:Code):Bool :=
 match YL b with
 |some r=>cut.contains r
 |none=>false
noncomputable def CI (C:Cfg)(CL:ZF)(h:Code->KL->AL->Hp->Z5)(kp:Nat->Option (List Nat))(n:Nat)(u:SQ)(j:BL)(self:Code->KL->AL->Hp->Z5)(cut:List Nat):Code->KL->AL->Hp->Z5
 |.skip,k,al,H=>k .normal al H
 |.region id ops draw,k,al,H=>if draw&&!(V9 ops&&R9 C ops) then none else ZqT n (kp (id+1000000)) (ZwG C CL n ops draw (fun g H'=>k .normal g H')) al H
 |.seq a b,k,al,H=>CI C CL h kp n u j self cut a (u (match Zxe cut b with
  |true=>fun k' g H'=>self b k' (Y4 kp b g) H'
  |false=>fun k' g H'=>CI C CL h kp n u j self cut b k' (Y4 kp b g) H') k) al H
 |.cond c x y,k,al,H=>Zj (JR C n al c) (CI C CL h kp n u j self cut x k al H) (CI C CL h kp n u j self cut y k al H)
 |.block id c,k,al,H=>CI C CL h kp n u j self cut c (j id k) al H
 |.loop c,k,al,H=>h c k (Y4 kp c al) H
 |.scope c,k,al,H=>if XI c then CI C CL h kp n u j self cut c k al H else none
 |.exit id,k,al,H=>k (.exit id) al H
 |.label _,k,al,H=>k .normal al H
 |.goto l,k,al,H=>k (.goto l) al H
 |.ret,k,al,H=>k .ret al H
 |_,_,_,_=>none
theorem ZlO {C:Cfg}{CL:ZF}{h:Code->KL->AL->Hp->Z5}{kp:Nat->Option (List Nat)}{n:Nat}{D:SQ}{j:BL}(cut:List Nat):∀ (c:Code) (k:KL) (g:AL) (H:Hp),
 Yn C CL h kp n D j c k g H=CI C CL h kp n D j (Yn C CL h kp n D j) cut c k g H:=by
 intro c
 induction c with
 |seq a b w z =>
  intro k g H;simp only[Yn,CI];rw[w];congr 1;congr 1
  cases Zxe cut b with
  |true=>rfl
  |false =>
   funext k' al' H';exact z _ _ _
 |cond c x y A B=>intro k g H;simp only[Yn,CI];rw[A,B]
 |block id c u=>intro k g H;simp only[Yn,CI];exact u _ _ _
 |scope c u=>intro k g H;simp only[Yn,CI];rw[u]
 |_=>intro k g H;rfl
section
variable {C:Cfg}{kp:Nat->Option (List Nat)}{n:Nat}
theorem ZC {c:Code}{u:KL}(cut:List Nat)(h:ZS n u)(g:AL)(H:Hp):Y5 C kp n c u g H =
 CI C (Zb C) (Y5 C kp n) kp n Zc Z8 (Yn C (Zb C) (Y5 C kp n) kp n Zc Z8) cut c (Zc (fun k' j H'=>Y5 C kp n c k' (Y4 kp c j) H') u) (Y4 kp c g) H:=by
 rw[<-ZlO];exact ZyD h g H
theorem Zd {f:FuncId}{fn:Func}{c:Code}(cut:List Nat)(j:C.P.funcs[f]?=some fn)(h:RR C f fn=some c)(g:fn.ntmps=n)(args:List AV)(u:Nat.ble args.length n=true)(H:Hp) :
 Zb C f args H=CI C (Zb C) (Y5 C (C.keep f) n) (C.keep f) n Zc Z8 (Yn C (Zb C) (Y5 C (C.keep f) n) (C.keep f) n Zc Z8) cut c (Zf C n f fn H) (OO 0 args) H:=by
 rw[<-ZlO];exact Zst j h g args u H
end
end Go.Am
namespace Go.Am
section
variable {α β:Type}
theorem V5 (x:α)(f:α->Option β):Z0 (some x) f=f x:=(Eq.refl _).trans (Eq.refl _)
theorem Zv5 (f:α->Option β):Z0 (none:Option α) f=none:=(Eq.refl _).trans (Eq.refl _)
theorem Zsr {x g:Option α}(h:x=g)(f:α->Option β):Z0 x f=Z0 g f:=by rw[h]
theorem ZsG {c c':AV}(h:c=c')(x y:Z5):Zj c x y=Zj c' x y:=by rw[h]
theorem Ztg {g j:AV}(h:g=j)(w:Bool)(e:α)(x:Option α):Z7 g w e x=Z7 j w e x:=by rw[h]
theorem ZqS {a a':AV}(h:a=a')(H:Hp)(k:AV->Hp->Z5):UZ a H k=UZ a' H k:=by rw[h]
theorem ZzF (x y:Z5):Zj (.bool true) x y=x:=(Eq.refl _).trans (Eq.refl _)
theorem ZzE (x y:Z5):Zj (.bool false) x y=y:=(Eq.refl _).trans (Eq.refl _)
theorem ZmS (e:α)(x:Option α):Z7 (.bool true) true e x=x:=(Eq.refl _).trans (Eq.refl _)
theorem Zz5 (e:α)(x:Option α):Z7 (.bool false) false e x=x:=(Eq.refl _).trans (Eq.refl _)
theorem Zz7 (e:α)(x:Option α):Z7 (.bool true) false e x=some e:=(Eq.refl _).trans (Eq.refl _)
theorem Zz6 (e:α)(x:Option α):Z7 (.bool false) true e x=some e:=(Eq.refl _).trans (Eq.refl _)
theorem Zy5 (l:List AV)(w:Bool)(e:α)(x:Option α):Z7 (.tuple l) w e x=some e:=(Eq.refl _).trans (Eq.refl _)
theorem ZxA (a b:AV):Zi (.bool true) a b=some a:=(Eq.refl _).trans (Eq.refl _)
theorem Zxz (a b:AV):Zi (.bool false) a b=some b:=(Eq.refl _).trans (Eq.refl _)
theorem ZxC (b:Bool):Xm .not (.bool b)=some (.bool (!b)):=(Eq.refl _).trans (Eq.refl _)
theorem ZuX (o off:Nat):Zu (.ptr o off)=some (.ptr o off):=(Eq.refl _).trans (Eq.refl _)
theorem Zxx (l:List AV):Zu (.vp l)=some (.vp l):=(Eq.refl _).trans (Eq.refl _)
theorem ZpU (k o off:Nat):Z6 k (.ptr o off)=some (.ptr o (off+k)):=(Eq.refl _).trans (Eq.refl _)
theorem ZpT (l:List AV)(i:Nat):ZJ (.tuple l) i=l[i]?:=(Eq.refl _).trans (Eq.refl _)
theorem Zw1 (k:IntKind)(a b:Int):Z4 .eql (.int k a) (.int k b)=some (.bool (a==b)):=by simp[Z4,XA,XE]
theorem Zw7 (k:IntKind)(a b:Int):Z4 .neq (.int k a) (.int k b)=some (.bool (a != b)):=by simp[Z4,XA,XE]
theorem Zw5 (k:IntKind)(a b:Int):Z4 .lss (.int k a) (.int k b)=some (.bool (decide (a<b))):=by simp[Z4,XA,XE]
theorem Zw4 (k:IntKind)(a b:Int):Z4 .leq (.int k a) (.int k b)=some (.bool (decide (a<=b))):=by simp[Z4,XA,XE]
theorem Zw3 (k:IntKind)(a b:Int):Z4 .gtr (.int k a) (.int k b)=some (.bool (decide (b<a))):=by simp[Z4,XA,XE]
theorem Zw2 (k:IntKind)(a b:Int):Z4 .geq (.int k a) (.int k b)=some (.bool (decide (b<=a))):=by simp[Z4,XA,XE]
theorem Zw0 (k:IntKind)(a b:Int):Z4 .add (.int k a) (.int k b)=some (.int k (k.wrap (a+b))):=by simp[Z4,XA,XE]
theorem Zw8 (k:IntKind)(a b:Int):Z4 .sub (.int k a) (.int k b)=some (.int k (k.wrap (a-b))):=by simp[Z4,XA,XE]
theorem Zw6 (k:IntKind)(a b:Int):Z4 .mul (.int k a) (.int k b)=some (.int k (k.wrap (a*b))):=by simp[Z4,XA,XE]
theorem ZwN (a b:List UInt8):Yx .eql (.str a) (.str b)=some (.bool (a==b)):=(Eq.refl _).trans (Eq.refl _)
theorem ZwO (a b:List UInt8):Yx .neq (.str a) (.str b)=some (.bool (!(a==b))):=(Eq.refl _).trans (Eq.refl _)
theorem SM {a b:List UInt8}(h:a.length+b.length<=9223372036854775807):Yx .add (.str a) (.str b)=some (.str (a++b)):=by simp[Yx,KF,h]
theorem ZuV (k:IntKind)(a b:Int):VE (.int k a) (.int k b)=some (.int k (min a b)):=by
 simp only[VE,if_true,zA,AV.int.injEq,true_and];split <;> omega
theorem ZuU (k:IntKind)(a b:Int):Qe (.int k a) (.int k b)=some (.int k (max a b)):=by
 simp only[Qe,if_true,zA,AV.int.injEq,true_and];split <;> omega
theorem YK (s:List UInt8):Zk .string (.str s)=some (.int .i64 s.length):=(Eq.refl _).trans (Eq.refl _)
theorem Zxw (e k:Nat)(t:Tok)(l:List AV):Zk (.slice e) (.vs k t l)=some (.int .i64 l.length):=(Eq.refl _).trans (Eq.refl _)
theorem Zse (e:Nat):Zk (.slice e) .nils=some (.int .i64 0):=(Eq.refl _).trans (Eq.refl _)
theorem Zmz (t o off:Nat):Yo (.pointer t) .eql (.ptr o off) .nilp=some (.bool false):=(Eq.refl _).trans (Eq.refl _)
theorem ZmA (t o off:Nat):Yo (.pointer t) .neq (.ptr o off) .nilp=some (.bool true):=(Eq.refl _).trans (Eq.refl _)
theorem Zmx (t:Nat):Yo (.pointer t) .eql .nilp .nilp=some (.bool true):=(Eq.refl _).trans (Eq.refl _)
theorem Zmy (t:Nat):Yo (.pointer t) .neq .nilp .nilp=some (.bool false):=(Eq.refl _).trans (Eq.refl _)
theorem Zlo (a b:Bool):Yo .bool .neq (.bool a) (.bool b)=some (.bool (!(a==b))):=(Eq.refl _).trans (Eq.refl _)
theorem Zln (a b:Bool):Yo .bool .eql (.bool a) (.bool b)=some (.bool (a==b)):=(Eq.refl _).trans (Eq.refl _)
theorem Zll:Zi6 .eql .nili .nili=some (.bool true):=(Eq.refl _).trans (Eq.refl _)
theorem Zlm:Zi6 .neq .nili .nili=some (.bool false):=(Eq.refl _).trans (Eq.refl _)
theorem ZjI (s:List UInt8)(n:Int)(H:Hp):Za9 .indexByte [.str s,.int .u8 n] H=some (.int .i64 (Ky (zB n.toNat) s 0),H):=(Eq.refl _).trans (Eq.refl _)
theorem ZvL (s t:List UInt8)(H:Hp):Za9 .cmp [.str s,.str t] H=some (.int .i64 (JN s t),H):=(Eq.refl _).trans (Eq.refl _)
theorem ZqD (s:List UInt8)(n:Int)(H:Hp):Za9 .count [.str s,.int .u8 n] H=some (.int .i64 (RT (zB n.toNat) s),H):=(Eq.refl _).trans (Eq.refl _)
theorem Zon (H1:Hp):∀ (n f:Nat) (v:AV),n<f->Fl n v=true->Ze H1 0 f v=some v:=by
 intro n
 induction n with
 |zero =>
  intro f v u h
  cases f with
  |zero=>omega
  |succ f=>cases v <;> first|rfl|(simp[Fl]at h;done)
 |succ n w =>
  intro f v u h
  cases f with
  |zero=>omega
  |succ f =>
   have j:∀ l:List AV,l.all (Fl n)=true->l.mapM (Ze H1 0 f)=some l:=by
    intro l
    induction l with
    |nil=>intro _;rfl
    |cons x l g =>
     intro h;rw[List.all_cons,Bool.and_eq_true]at h;rw[List.mapM_cons,w f x (by omega) h.1,g h.2];rfl
   cases v with
   |agg l=>simp only[Fl]at h;simp only[Ze,j l h]
   |tuple l=>simp only[Fl]at h;simp only[Ze,j l h]
   |_=>first|rfl|(simp[Fl]at h;done)
theorem PC {call:List AV->Hp->Option (AV×Hp)}{args args':List AV}{H H1:Hp}{v v':AV}(g:args.mapM (Ze [] 0 9)=some args')(h:call args' []=some (v,H1))(j:Ze H1 0 9 v=some v'):Zh call args H=some (v',H):=by
 unfold Zh;simp only[g,h,j]
theorem Wy {call:List AV->Hp->Option (AV×Hp)}{args args':List AV}{H H1:Hp}{v:AV}(g:args.mapM (Ze [] 0 9)=some args')(h:call args' []=some (v,H1))(j:Fl 3 v=true):Zh call args H=some (v,H) :=
 PC g h (Zon H1 3 9 v (by omega) j)
theorem Zp {n:Int}(u:-9223372036854775808<=n)(w:n<=9223372036854775807):IntKind.i64.wrap n=n:=by
 unfold IntKind.wrap;have g:(2 ^ IntKind.i64.bits:Int)=18446744073709551616:=by decide
 have h:(2 ^ (IntKind.i64.bits-1):Int)=9223372036854775808:=by decide
 have j:IntKind.i64.signed=true:=(Eq.refl _).trans (Eq.refl _);simp only[g,h,j,Bool.true_and,decide_eq_true_eq,ge_iff_le];split <;> omega
theorem Y3 {H:Hp}{o:Nat}{x:AObj}(h:H[o]?=some x)(l:List AObj):(H++l)[o]?=some x:=by
 rw[List.getElem?_append_left (Zg h)];exact h
theorem ZmV (H:Hp)(x:AObj)(l:List AObj):(H++(x::l))[H.length]?=some x:=by simp
theorem Yd {H:Hp}{o i:Nat}{x:Option AObj}(y:AObj)(g:i≠o)(h:H[o]?=x):(H.set i y)[o]?=x:=by
 rw[List.getElem?_set_ne g];exact h
theorem Zq {H:Hp}{o:Nat}{x:AObj}(y:AObj)(h:H[o]?=some x):(H.set o y)[o]?=some y:=by
 have:=Zg h;simp[this]
theorem YB {H:Hp}{o off:Nat}{l:List AV}(h:H[o]?=some (.cells l))(g:Bool)(sz:Nat):Z3 g sz (.ptr o off) H=apart g sz l off:=by simp[Z3,h]
theorem WN {H:Hp}{o off sz:Nat}{l:List AV}{v:AV}(h:H[o]?=some (.cells l))(hk:v.known=true)(j:v.cells.length=sz)(g:off+sz<=l.length) :
 Za sz (.ptr o off) v H=some (.tuple [],H.set o (.cells (splice l off v.cells))):=by simp[Za,YX,h,hk,j,g]
theorem R4 {v:AV}{H:Hp}(h:v.known=true):ZO v H=some (.ptr H.length 0,H++[.cells v.cells]):=by simp[ZO,h]
theorem Zte {H:Hp}{o:Nat}{l:List AV}(h:H[o]?=some (.cells l))(k:AV->Hp->Z5):UZ (.ptr o 0) H k=k (.vp l) (H.set o .dead):=by simp[UZ,PE,h]
end
def bv (b:UInt8):AV:=.int .u8 b.toNat
theorem Zoj:∀ (l:List UInt8),V6 (l.map bv)=some l:=by
 intro l
 induction l with
 |nil=>rfl
 |cons b l g =>
  simp only[List.map_cons,bv,V6];rw[show List.map bv l=l.map bv from rfl,g];simp
theorem Zvr (t:Tok)(l:List UInt8):Jw (.vs 1 t (l.map bv))=some (.str l):=by simp[Jw,Zoj]
theorem ZpO {len cap:Nat}{n:Int}(k:IntKind)(g:0<=n)(h:n<=cap):Ys len cap none (some (.int k n)) none=some (0,n.toNat,cap):=by delta Ys;simp[X8,g,h]
theorem ZhL {len cap:Nat}{n:Int}(k:IntKind)(g:0<=n)(h:n<=len):Ys len cap (some (.int k n)) none none=some (n.toNat,len,cap):=by delta Ys;simp[X8,g,h]
theorem ZpP {len cap:Nat}{n m:Int}(k k':IntKind)(g:0<=n)(u:n<=m)(h:m<=cap):Ys len cap none (some (.int k n)) (some (.int k' m))=some (0,n.toNat,m.toNat):=by
 have:0<=m:=by omega
 have j:n<=max m 0:=by omega
 delta Ys;simp[X8,g,h,this,j]
theorem OL {len cap:Nat}{n m:Int}(k k':IntKind)(g:0<=n)(u:n<=m)(h:m<=cap):Ys len cap (some (.int k n)) (some (.int k' m)) none=some (n.toNat,m.toNat,cap):=by
 have:0<=m:=by omega
 have j:n<=max m 0:=by omega
 delta Ys;simp[X8,g,h,this,j]
theorem ZhR {s:List UInt8}{n:Int}(k:IntKind)(g:0<=n)(h:n<=s.length):ZU (.str s) none (some (.int k n)) none=some (.str (s.take n.toNat)):=by
 simp[ZU,Gz,ZpO k g h]
theorem Ls {s:List UInt8}{n:Int}(k:IntKind)(g:0<=n)(h:n<=s.length):ZU (.str s) (some (.int k n)) none none=some (.str (s.drop n.toNat)):=by
 simp[ZU,Gz,ZhL k g h]
theorem OP {s:List UInt8}{n m:Int}(k k':IntKind)(g:0<=n)(h:n<=m)(j:m<=s.length):ZU (.str s) (some (.int k n)) (some (.int k' m)) none=some (.str ((s.take m.toNat).drop n.toNat)):=by
 simp[ZU,Gz,OL k k' g h j]
theorem ZhT (z:Nat)(k:IntKind):Yg z .nils (some (.int k 0)) none none=some .nils:=by simp only[Yg];delta Ys;simp[X8]
theorem Zq9 {l:List AV}{n:Int}(z:Nat)(t:Tok)(k:IntKind)(g:0<=n)(h:n<=l.length):Yg z (.vs z t l) (some (.int k n)) none none=some (.vs z t (l.drop n.toNat)):=by
 simp[Yg,ZhL k g h]
attribute [congr] Zsr ZsG Ztg ZqS
attribute [go_sem] V5 Zv5 ZzF ZzE ZmS Zz5 Zz7 Zz6 Zy5 ZxA Zxz ZxC ZuX Zxx ZpU ZpT
 Zw1 Zw7 Zw5 Zw4 Zw3 Zw2 Zw0 Zw8 Zw6 ZwN ZwO ZuV ZuU YK Zxw Zse
 Zmz ZmA Zmx Zmy Zlo Zln Zll Zlm ZjI ZvL ZqD
end Go.Am
namespace Go.Am
theorem Zsd {p:Nat}{l:List AV}{H:Hp}(h:H[p]?=some .free):JK p (some (.cells l)) H=some (.ptr p 0,H.set p (.cells l)):=by simp[JK,h,Zza,Zzb]
end Go.Am
