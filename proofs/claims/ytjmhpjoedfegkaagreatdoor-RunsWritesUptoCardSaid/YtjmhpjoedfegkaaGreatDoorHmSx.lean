/- THE ABSTRACT MACHINE -/
import Derived.Test.YtjmhpjoedfegkaaGreatDoorHmRx
open Option renaming some->O,none->N
open Bool renaming true->S,false->L
open List renaming length->T
open Nat renaming le_refl->zC
open UInt8 renaming ofNat->zB
open Option.some renaming injEq->zA
namespace Go.Am
open RowKit
def Zy1 (cut:dv)(b:Code):Bool :=
 match YQ b with
 |some r=>cut.contains r
 |none=>L
noncomputable def Ij (C:Cfg)(CL:ZQ)(j:Code->KL->AL->Hp->Z3)(kp:Nat->Option dv)(n:Nat)(w:SQ)(u:BL)(self:Code->KL->AL->Hp->Z3)(cut:dv):Code->KL->AL->Hp->Z3
 |.skip,k,al,H=>k .normal al H
 |.region id ops draw,k,al,H=>if draw&&!(Vb ops&&RW C ops) then N else Zr6 n (kp (id+1000000)) (Zxl C CL n ops draw (λh H'=>k .normal h H')) al H
 |.seq a b,k,al,H=>Ij C CL j kp n w u self cut a (w (match Zy1 cut b with
  |true=>λk' h H'=>self b k' (Y3 kp b h) H'
  |false=>λk' h H'=>Ij C CL j kp n w u self cut b k' (Y3 kp b h) H') k) al H
 |.cond c x y,k,al,H=>Zh (Kd C n al c) (Ij C CL j kp n w u self cut x k al H) (Ij C CL j kp n w u self cut y k al H)
 |.block id c,k,al,H=>Ij C CL j kp n w u self cut c (u id k) al H
 |.loop c,k,al,H=>j c k (Y3 kp c al) H
 |.scope c,k,al,H=>if XW c then Ij C CL j kp n w u self cut c k al H else N
 |.exit id,k,al,H=>k (.exit id) al H
 |.label _,k,al,H=>k .normal al H
 |.goto l,k,al,H=>k (.goto l) al H
 |.ret,k,al,H=>k .ret al H
 |_,_,_,_=>N
theorem GK {C:Cfg}{CL:ZQ}{j:Code->KL->AL->Hp->Z3}{kp:Nat->Option dv}{n:Nat}{E:SQ}{u:BL}(cut:dv):∀ (c:Code) (k:KL) (h:AL) (H:Hp),
 Y7 C CL j kp n E u c k h H=Ij C CL j kp n E u (Y7 C CL j kp n E u) cut c k h H:=by
 intro c
 induction c with
 |seq a b z A =>
  intro k h H;simp only[Y7,Ij];rw[z];congr 1;congr 1
  cases Zy1 cut b with
  |true=>rfl
  |false =>
   funext k' al' H';exact A _ _ _
 |cond c x y B D=>intro k h H;simp only[Y7,Ij];rw[B,D]
 |block id c w=>intro k h H;simp only[Y7,Ij];exact w _ _ _
 |scope c w=>intro k h H;simp only[Y7,Ij];rw[w]
 |_=>intro k h H;rfl
section
variable {C:Cfg}{kp:Nat->Option dv}{n:Nat}
theorem ZC {c:Code}{w:KL}(cut:dv)(h:ZV n w)(j:AL)(H:Hp):ZT C kp n c w j H =
 Ij C (Za C) (ZT C kp n) kp n Zc Z7 (Y7 C (Za C) (ZT C kp n) kp n Zc Z7) cut c (Zc (λk' u H'=>ZT C kp n c k' (Y3 kp c u) H') w) (Y3 kp c j) H:=by
 rw[<-GK];exact Zzr h j H
theorem Zb {f:FuncId}{fn:Func}{c:Code}(cut:dv)(u:C.P.funcs[f]?=O fn)(j:L8 C f fn=O c)(h:fn.ntmps=n)(args:du)(w:Nat.ble (T args) n=S)(H:Hp) :
 Za C f args H=Ij C (Za C) (ZT C (C.keep f) n) (C.keep f) n Zc Z7 (Y7 C (Za C) (ZT C (C.keep f) n) (C.keep f) n Zc Z7) cut c (Zd C n f fn H) (gZ 0 args) H:=by
 rw[<-GK];exact ZsP u j h args w H
end
end Go.Am
namespace Go.Am
section
variable {α β:Type}
theorem Xz (x:α)(f:α->Option β):Z0 (O x) f=f x:=dy
theorem ZvQ (f:α->Option β):Z0 (N:Option α) f=N:=dy
theorem ZsN {x j:Option α}(h:x=j)(f:α->Option β):Z0 x f=Z0 j f:=by rw[h]
theorem Zt2 {c c':AV}(h:c=c')(x y:Z3):Zh c x y=Zh c' x y:=by rw[h]
theorem ZtE {g j:AV}(h:g=j)(w:Bool)(e:α)(x:Option α):Z8 g w e x=Z8 j w e x:=by rw[h]
theorem Zr5 {a a':AV}(h:a=a')(H:Hp)(k:AV->Hp->Z3):XN a H k=XN a' H k:=by rw[h]
theorem ZAw (x y:Z3):Zh (.bool S) x y=x:=dy
theorem ZAv (x y:Z3):Zh (.bool L) x y=y:=dy
theorem Zn5 (e:α)(x:Option α):Z8 (.bool S) S e x=x:=dy
theorem ZzV (e:α)(x:Option α):Z8 (.bool L) L e x=x:=dy
theorem ZzX (e:α)(x:Option α):Z8 (.bool S) L e x=O e:=dy
theorem ZzW (e:α)(x:Option α):Z8 (.bool L) S e x=O e:=dy
theorem ZyR (l:du)(w:Bool)(e:α)(x:Option α):Z8 (.tuple l) w e x=O e:=dy
theorem Zyo (a b:AV):Zm (.bool S) a b=O a:=dy
theorem Zyn (a b:AV):Zm (.bool L) a b=O b:=dy
theorem Zyq (b:Bool):YU .not (.bool b)=O (.bool (!b)):=dy
theorem ZvJ (o off:Nat):Zw (.ptr o off)=O (.ptr o off):=dy
theorem Zyl (l:du):Zw (.vp l)=O (.vp l):=dy
theorem Zq9 (k o off:Nat):Z6 k (.ptr o off)=O (.ptr o (off+k)):=dy
theorem Zq8 (l:du)(i:Nat):ZK (.tuple l) i=l[i]?:=dy
theorem ZwH (k:IntKind)(a b:Int):Z2 .eql (.int k a) (.int k b)=O (.bool (a==b)):=by simp[Z2,X6,X8]
theorem ZwN (k:IntKind)(a b:Int):Z2 .neq (.int k a) (.int k b)=O (.bool (a != b)):=by simp[Z2,X6,X8]
theorem ZwL (k:IntKind)(a b:Int):Z2 .lss (.int k a) (.int k b)=O (.bool (decide (a<b))):=by simp[Z2,X6,X8]
theorem ZwK (k:IntKind)(a b:Int):Z2 .leq (.int k a) (.int k b)=O (.bool (decide (a<=b))):=by simp[Z2,X6,X8]
theorem ZwJ (k:IntKind)(a b:Int):Z2 .gtr (.int k a) (.int k b)=O (.bool (decide (b<a))):=by simp[Z2,X6,X8]
theorem ZwI (k:IntKind)(a b:Int):Z2 .geq (.int k a) (.int k b)=O (.bool (decide (b<=a))):=by simp[Z2,X6,X8]
theorem ZwG (k:IntKind)(a b:Int):Z2 .add (.int k a) (.int k b)=O (.int k (k.wrap (a+b))):=by simp[Z2,X6,X8]
theorem ZwO (k:IntKind)(a b:Int):Z2 .sub (.int k a) (.int k b)=O (.int k (k.wrap (a-b))):=by simp[Z2,X6,X8]
theorem ZwM (k:IntKind)(a b:Int):Z2 .mul (.int k a) (.int k b)=O (.int k (k.wrap (a*b))):=by simp[Z2,X6,X8]
theorem Zxy (a b:dr):Y1 .eql (.str a) (.str b)=O (.bool (a==b)):=dy
theorem Zxz (a b:dr):Y1 .neq (.str a) (.str b)=O (.bool (!(a==b))):=dy
theorem Vc {a b:dr}(h:T a+T b<=9223372036854775807):Y1 .add (.str a) (.str b)=O (.str (a++b)):=by simp[Y1,QC,h]
theorem ZvH (k:IntKind)(a b:Int):WU (.int k a) (.int k b)=O (.int k (min a b)):=by
 simp only[WU,if_true,zA,AV.int.injEq,true_and];split <;> omega
theorem ZvG (k:IntKind)(a b:Int):K9 (.int k a) (.int k b)=O (.int k (max a b)):=by
 simp only[K9,if_true,zA,AV.int.injEq,true_and];split <;> omega
theorem Y0 (s:dr):Zf .string (.str s)=O (.int .i64 (T s)):=dy
theorem Zyk (e k:Nat)(t:Tok)(l:du):Zf (.slice e) (.vs k t l)=O (.int .i64 (T l)):=dy
theorem ZsA (e:Nat):Zf (.slice e) .nils=O (.int .i64 0):=dy
theorem ZmO (t o off:Nat):Y5 (.pointer t) .eql (.ptr o off) .nilp=O (.bool L):=dy
theorem ZmP (t o off:Nat):Y5 (.pointer t) .neq (.ptr o off) .nilp=O (.bool S):=dy
theorem ZmM (t:Nat):Y5 (.pointer t) .eql .nilp .nilp=O (.bool S):=dy
theorem ZmN (t:Nat):Y5 (.pointer t) .neq .nilp .nilp=O (.bool L):=dy
theorem Zlx (a b:Bool):Y5 .bool .neq (.bool a) (.bool b)=O (.bool (!(a==b))):=dy
theorem Zlw (a b:Bool):Y5 .bool .eql (.bool a) (.bool b)=O (.bool (a==b)):=dy
theorem Zlu:ZhP .eql .nili .nili=O (.bool S):=dy
theorem Zlv:ZhP .neq .nili .nili=O (.bool L):=dy
theorem ZjO (s:dr)(n:Int)(H:Hp):iL .indexByte [.str s,.int .u8 n] H=O (.int .i64 (KU (zB n.toNat) s 0),H):=dy
theorem Zwu (s t:dr)(H:Hp):iL .cmp [.str s,.str t] H=O (.int .i64 (QI s t),H):=dy
theorem ZqR (s:dr)(n:Int)(H:Hp):iL .count [.str s,.int .u8 n] H=O (.int .i64 (P8 (zB n.toNat) s),H):=dy
theorem ZoA (H1:Hp):∀ (n f:Nat) (v:AV),n<f->Gw n v=S->Zk H1 0 f v=O v:=by
 intro n
 induction n with
 |zero =>
  intro f v w h
  cases f with
  |zero=>omega
  |succ f=>cases v <;> first|rfl|(simp[Gw]at h;done)
 |succ n y =>
  intro f v w h
  cases f with
  |zero=>omega
  |succ f =>
   have u:∀ l:du,l.all (Gw n)=S->l.mapM (Zk H1 0 f)=O l:=by
    intro l
    induction l with
    |nil=>intro _;rfl
    |cons x l j =>
     intro h;rw[List.all_cons,Bool.and_eq_true]at h;rw[List.mapM_cons,y f x b5 h.1,j h.2];rfl
   cases v with
   |agg l=>simp only[Gw]at h;simp only[Zk,u l h]
   |tuple l=>simp only[Gw]at h;simp only[Zk,u l h]
   |_=>first|rfl|(simp[Gw]at h;done)
theorem A0 {call:du->Hp->Option (AV×Hp)}{args args':du}{H H1:Hp}{v v':AV}(h:args.mapM (Zk [] 0 9)=O args')(j:call args' []=O (v,H1))(u:Zk H1 0 9 v=O v'):Ze call args H=O (v',H):=by
 unfold Ze;simp only[h,j,u]
theorem Kg {call:du->Hp->Option (AV×Hp)}{args args':du}{H H1:Hp}{v:AV}(h:args.mapM (Zk [] 0 9)=O args')(j:call args' []=O (v,H1))(u:Gw 3 v=S):Ze call args H=O (v,H) :=
 A0 h j (ZoA H1 3 9 v b5 u)
theorem Zl {n:Int}(w:-9223372036854775808<=n)(y:n<=9223372036854775807):IntKind.i64.wrap n=n:=by
 unfold IntKind.wrap;have h:(2 ^ IntKind.i64.bits:Int)=18446744073709551616:=di
 have j:(2 ^ (IntKind.i64.bits-1):Int)=9223372036854775808:=di
 have u:IntKind.i64.signed=S:=(Eq.refl _).trans (Eq.refl _);simp only[h,j,u,Bool.true_and,decide_eq_true_eq,ge_iff_le];split <;> omega
theorem XC {H:Hp}{o:Nat}{x:AObj}(h:H[o]?=O x)(l:List AObj):(H++l)[o]?=O x:=by
 rw[List.getElem?_append_left (Zq h)];exact h
theorem Zn8 (H:Hp)(x:AObj)(l:List AObj):(H++(x::l))[T H]?=O x:=dh
theorem YX {H:Hp}{o i:Nat}{x:Option AObj}(y:AObj)(j:i≠o)(h:H[o]?=x):(H.set i y)[o]?=x:=by
 rw[List.getElem?_set_ne j];exact h
theorem Zu {H:Hp}{o:Nat}{x:AObj}(y:AObj)(h:H[o]?=O x):(H.set o y)[o]?=O y:=by
 have:=Zq h;simp[this]
theorem Wg {H:Hp}{o off:Nat}{l:du}(h:H[o]?=O (.cells l))(g:Bool)(sz:Nat):Z4 g sz (.ptr o off) H=apart g sz l off:=by simp[Z4,h]
theorem Uc {H:Hp}{o off sz:Nat}{l:du}{v:AV}(h:H[o]?=O (.cells l))(j:v.known=S)(w:T v.cells=sz)(u:off+sz<=T l) :
 Zg sz (.ptr o off) v H=O (.tuple [],H.set o (.cells (splice l off v.cells))):=by simp[Zg,YE,h,j,w,u]
theorem VE {v:AV}{H:Hp}(h:v.known=S):ZY v H=O (.ptr (T H) 0,H++[.cells v.cells]):=by simp[ZY,h]
theorem Zia {H:Hp}{o:Nat}{l:du}(h:H[o]?=O (.cells l))(k:AV->Hp->Z3):XN (.ptr o 0) H k=k (.vp l) (H.set o .dead):=by simp[XN,Rm,h]
end
def bv (b:UInt8):AV:=.int .u8 b.toNat
theorem Zer:∀ (l:dr),V8 (l.map bv)=O l:=by
 intro l
 induction l with
 |nil=>rfl
 |cons b l h =>
  simp only[List.map_cons,bv,V8];rw[show List.map bv l=l.map bv from rfl,h];simp
theorem ZfR (t:Tok)(l:dr):Ql (.vs 1 t (l.map bv))=O (.str l):=by simp[Ql,Zer]
theorem Zq3 {len cap:Nat}{n:Int}(k:IntKind)(h:0<=n)(j:n<=cap):Yy len cap N (O (.int k n)) N=O (0,n.toNat,cap):=by delta Yy;simp[Xd,h,j]
theorem Zhr {len cap:Nat}{n:Int}(k:IntKind)(h:0<=n)(j:n<=len):Yy len cap (O (.int k n)) N N=O (n.toNat,len,cap):=by delta Yy;simp[Xd,h,j]
theorem Zq4 {len cap:Nat}{n m:Int}(k k':IntKind)(h:0<=n)(w:n<=m)(j:m<=cap):Yy len cap N (O (.int k n)) (O (.int k' m))=O (0,n.toNat,m.toNat):=by
 have:0<=m:=b5
 have u:n<=max m 0:=b5
 delta Yy;simp[Xd,h,j,this,u]
theorem gW {len cap:Nat}{n m:Int}(k k':IntKind)(h:0<=n)(w:n<=m)(j:m<=cap):Yy len cap (O (.int k n)) (O (.int k' m)) N=O (n.toNat,m.toNat,cap):=by
 have:0<=m:=b5
 have u:n<=max m 0:=b5
 delta Yy;simp[Xd,h,j,this,u]
theorem BG {s:dr}{n:Int}(k:IntKind)(h:0<=n)(j:n<=T s):ZR (.str s) N (O (.int k n)) N=O (.str (s.take n.toNat)):=by
 simp[ZR,Bb,Zq3 k h j]
theorem P6 {s:dr}{n:Int}(k:IntKind)(h:0<=n)(j:n<=T s):ZR (.str s) (O (.int k n)) N N=O (.str (s.drop n.toNat)):=by
 simp[ZR,Bb,Zhr k h j]
theorem VV {s:dr}{n m:Int}(k k':IntKind)(h:0<=n)(j:n<=m)(u:m<=T s):ZR (.str s) (O (.int k n)) (O (.int k' m)) N=O (.str ((s.take m.toNat).drop n.toNat)):=by
 simp[ZR,Bb,gW k k' h j u]
theorem ZhD (z:Nat)(k:IntKind):Yk z .nils (O (.int k 0)) N N=O .nils:=by simp only[Yk];delta Yy;simp[Xd]
theorem Zqm {l:du}{n:Int}(z:Nat)(t:Tok)(k:IntKind)(h:0<=n)(j:n<=T l):Yk z (.vs z t l) (O (.int k n)) N N=O (.vs z t (l.drop n.toNat)):=by
 simp[Yk,Zhr k h j]
def Row (H:Hp)(k:Nat)(x:AV)(l:du):Prop:=x=.nils/\l=[]\/∃ t e,x=.vs k (.own t e) l/\H[t]?=O (.tok e)
theorem Row.len {H:Hp}{k:Nat}{x:AV}{l:du}(h:Row H k x l)(e:Nat):Zf (.slice e) x=O (.int .i64 (T l)):=by
 rcases h with ⟨rfl,rfl⟩|⟨t,j,rfl,_⟩ <;> rfl
theorem Row.app {H:Hp}{k:Nat}{x:AV}{l:du}(h:Row H k x l)(j:Nat)(y:AV)(w:du)(F:elems k y H=O w)(D:(T l+T w)*(j+1)<=140737488355328) :
 ∃ E H',Ya k j x y H=O (E,H')/\Row H' k E (l++w)/\T H<=T H'/\(∀ (i:Nat) (c:du),H[i]?=O (.cells c)->H'[i]?=O (.cells c)) /\
  (∀ (i:Nat) (o:AObj),(∀ t e,x=.vs k (.own t e) l->i≠t)->H[i]?=O o->H'[i]?=O o):=by
 unfold Ya;simp only[F];rcases h with ⟨rfl,rfl⟩|⟨t,e,rfl,A⟩
 ·by_cases z:w=[]
  ·subst z;exact⟨.nils,H,by simp[YR],.inl ⟨rfl,rfl⟩,zC _,λ_ _ h=>h,λ_ _ _ h=>h⟩
  ·have u:Xe (T w) j=S:=by simpa[Xe]using D
   refine⟨.vs k (.own (T H) (T w)) w,H++[.tok (T w)],by simp only[YR,z,if_false,u,if_true],.inr ⟨T H,T w,rfl,dh⟩,dh,λi c h=>XC h _,λi o _ h=>XC h _⟩
 ·have u:Xe (T l+T w) j=S:=by simpa[Xe]using D
  by_cases z:w=[]
  ·subst z;refine⟨.vs k (.own t e) l,H,by simp only[YR,List.length_nil,Nat.add_zero]at u ⊢;simp only[u,and_self,if_true],.inr ⟨t,e,dh,A⟩,zC _,λ_ _ h=>h,λ_ _ _ h=>h⟩
  ·refine⟨_,_,by simp only[YR,u,and_self,if_true,z,if_false,A],.inr ⟨t,e+T w,rfl,Zu _ A⟩,dh,λi c h=>?_,λi o hi h=>?_⟩
   ·refine YX _ (λB=>?_) h;subst B;rw[A]at h;cases h
   ·exact YX _ (λB=>hi t e rfl B.symm) h
attribute [congr] ZsN Zt2 ZtE Zr5
attribute [go_sem] Xz ZvQ ZAw ZAv Zn5 ZzV ZzX ZzW ZyR Zyo Zyn Zyq ZvJ Zyl Zq9 Zq8
 ZwH ZwN ZwL ZwK ZwJ ZwI ZwG ZwO ZwM Zxy Zxz ZvH ZvG Y0 Zyk ZsA
 ZmO ZmP ZmM ZmN Zlx Zlw Zlu Zlv ZjO Zwu ZqR
end Go.Am
namespace Go.Am
end Go.Am
