/- THE ABSTRACT MACHINE -/
import Derived.Test.YtmclihijlmlpkaaGreatDoorHmRx
open Option renaming some->O,none->F
open Bool renaming true->N,false->S
open List renaming length->T
open Nat renaming le_refl->zC
open UInt8 renaming ofNat->zB
open Option.some renaming injEq->zA
namespace Go.Am
open RowKit
def Zyg (cut:da)(b:Code):Bool :=
 match YP b with
 |some r=>cut.contains r
 |none=>S
noncomputable def Al (C:Cfg)(CL:ZM)(h:Code->KL->AL->Hp->Z4)(kp:Nat->Option da)(n:Nat)(u:SQ)(j:BL)(self:Code->KL->AL->Hp->Z4)(cut:da):Code->KL->AL->Hp->Z4
 |.skip,k,al,H=>k .normal al H
 |.region id ops draw,k,al,H=>if draw&&!(V9 ops&&Rq C ops) then F else ZrN n (kp (id+1000000)) (ZxO C CL n ops draw (λg H'=>k .normal g H')) al H
 |.seq a b,k,al,H=>Al C CL h kp n u j self cut a (u (match Zyg cut b with
  |true=>λk' g H'=>self b k' (Ya kp b g) H'
  |false=>λk' g H'=>Al C CL h kp n u j self cut b k' (Ya kp b g) H') k) al H
 |.cond c x y,k,al,H=>Zl (JA C n al c) (Al C CL h kp n u j self cut x k al H) (Al C CL h kp n u j self cut y k al H)
 |.block id c,k,al,H=>Al C CL h kp n u j self cut c (j id k) al H
 |.loop c,k,al,H=>h c k (Ya kp c al) H
 |.scope c,k,al,H=>if XM c then Al C CL h kp n u j self cut c k al H else F
 |.exit id,k,al,H=>k (.exit id) al H
 |.label _,k,al,H=>k .normal al H
 |.goto l,k,al,H=>k (.goto l) al H
 |.ret,k,al,H=>k .ret al H
 |_,_,_,_=>F
theorem ZmA {C:Cfg}{CL:ZM}{h:Code->KL->AL->Hp->Z4}{kp:Nat->Option da}{n:Nat}{D:SQ}{j:BL}(cut:da):∀ (c:Code) (k:KL) (g:AL) (H:Hp),
 Yg C CL h kp n D j c k g H=Al C CL h kp n D j (Yg C CL h kp n D j) cut c k g H:=by
 intro c
 induction c with
 |seq a b w z =>
  intro k g H;simp only[Yg,Al];rw[w];congr 1;congr 1
  cases Zyg cut b with
  |true=>rfl
  |false =>
   funext k' al' H';exact z _ _ _
 |cond c x y A B=>intro k g H;simp only[Yg,Al];rw[A,B]
 |block id c u=>intro k g H;simp only[Yg,Al];exact u _ _ _
 |scope c u=>intro k g H;simp only[Yg,Al];rw[u]
 |_=>intro k g H;rfl
section
variable {C:Cfg}{kp:Nat->Option da}{n:Nat}
theorem Zw {c:Code}{u:KL}(cut:da)(h:ZH n u)(g:AL)(H:Hp):Y0 C kp n c u g H =
 Al C (Zb C) (Y0 C kp n) kp n Za Z5 (Yg C (Zb C) (Y0 C kp n) kp n Za Z5) cut c (Za (λk' j H'=>Y0 C kp n c k' (Ya kp c j) H') u) (Ya kp c g) H:=by
 rw[<-ZmA];exact ZzE h g H
theorem Zd {f:FuncId}{fn:Func}{c:Code}(cut:da)(j:C.P.funcs[f]?=O fn)(h:Tz C f fn=O c)(g:fn.ntmps=n)(args:c6)(u:Nat.ble (T args) n=N)(H:Hp) :
 Zb C f args H=Al C (Zb C) (Y0 C (C.keep f) n) (C.keep f) n Za Z5 (Yg C (Zb C) (Y0 C (C.keep f) n) (C.keep f) n Za Z5) cut c (Zf C n f fn H) (eV 0 args) H:=by
 rw[<-ZmA];exact ZtB j h g args u H
end
end Go.Am
namespace Go.Am
section
variable {α β:Type}
theorem Ww (x:α)(f:α->Option β):Z0 (O x) f=f x:=de
theorem Zwh (f:α->Option β):Z0 (F:Option α) f=F:=de
theorem Ztz {x g:Option α}(h:x=g)(f:α->Option β):Z0 x f=Z0 g f:=by rw[h]
theorem ZtN {c c':AV}(h:c=c')(x y:Z4):Zl c x y=Zl c' x y:=by rw[h]
theorem Zum {g j:AV}(h:g=j)(w:Bool)(e:α)(x:Option α):Z7 g w e x=Z7 j w e x:=by rw[h]
theorem ZrM {a a':AV}(h:a=a')(H:Hp)(k:AV->Hp->Z4):Wy a H k=Wy a' H k:=by rw[h]
theorem ZAx (x y:Z4):Zl (.bool N) x y=x:=de
theorem ZAw (x y:Z4):Zl (.bool S) x y=y:=de
theorem ZnH (e:α)(x:Option α):Z7 (.bool N) N e x=x:=de
theorem ZA0 (e:α)(x:Option α):Z7 (.bool S) S e x=x:=de
theorem ZA2 (e:α)(x:Option α):Z7 (.bool N) S e x=O e:=de
theorem ZA1 (e:α)(x:Option α):Z7 (.bool S) N e x=O e:=de
theorem Zz5 (l:c6)(w:Bool)(e:α)(x:Option α):Z7 (.tuple l) w e x=O e:=de
theorem ZyE (a b:AV):Zm (.bool N) a b=O a:=de
theorem ZyD (a b:AV):Zm (.bool S) a b=O b:=de
theorem ZyG (b:Bool):Xa .not (.bool b)=O (.bool (!b)):=de
theorem Zwa (o off:Nat):ZD (.ptr o off)=O (.ptr o off):=de
theorem ZyB (l:c6):ZD (.vp l)=O (.vp l):=de
theorem ZqM (k o off:Nat):Z8 k (.ptr o off)=O (.ptr o (off+k)):=de
theorem ZqL (l:c6)(i:Nat):ZQ (.tuple l) i=l[i]?:=de
theorem Zxa (k:IntKind)(a b:Int):Z3 .eql (.int k a) (.int k b)=O (.bool (a==b)):=by simp[Z3,Wj,Wk]
theorem Zxg (k:IntKind)(a b:Int):Z3 .neq (.int k a) (.int k b)=O (.bool (a != b)):=by simp[Z3,Wj,Wk]
theorem Zxe (k:IntKind)(a b:Int):Z3 .lss (.int k a) (.int k b)=O (.bool (decide (a<b))):=by simp[Z3,Wj,Wk]
theorem Zxd (k:IntKind)(a b:Int):Z3 .leq (.int k a) (.int k b)=O (.bool (decide (a<=b))):=by simp[Z3,Wj,Wk]
theorem Zxc (k:IntKind)(a b:Int):Z3 .gtr (.int k a) (.int k b)=O (.bool (decide (b<a))):=by simp[Z3,Wj,Wk]
theorem Zxb (k:IntKind)(a b:Int):Z3 .geq (.int k a) (.int k b)=O (.bool (decide (b<=a))):=by simp[Z3,Wj,Wk]
theorem Zx9 (k:IntKind)(a b:Int):Z3 .add (.int k a) (.int k b)=O (.int k (k.wrap (a+b))):=by simp[Z3,Wj,Wk]
theorem Zxh (k:IntKind)(a b:Int):Z3 .sub (.int k a) (.int k b)=O (.int k (k.wrap (a-b))):=by simp[Z3,Wj,Wk]
theorem Zxf (k:IntKind)(a b:Int):Z3 .mul (.int k a) (.int k b)=O (.int k (k.wrap (a*b))):=by simp[Z3,Wj,Wk]
theorem ZxV (a b:cz):YK .eql (.str a) (.str b)=O (.bool (a==b)):=de
theorem ZxW (a b:cz):YK .neq (.str a) (.str b)=O (.bool (!(a==b))):=de
theorem Hs {a b:cz}(h:T a+T b<=9223372036854775807):YK .add (.str a) (.str b)=O (.str (a++b)):=by simp[YK,F5,h]
theorem Zw8 (k:IntKind)(a b:Int):Q3 (.int k a) (.int k b)=O (.int k (min a b)):=by
 simp only[Q3,if_true,zA,AV.int.injEq,true_and];split <;> omega
theorem Zw7 (k:IntKind)(a b:Int):Q2 (.int k a) (.int k b)=O (.int k (max a b)):=by
 simp only[Q2,if_true,zA,AV.int.injEq,true_and];split <;> omega
theorem ZY (s:cz):Zk .string (.str s)=O (.int .i64 (T s)):=de
theorem ZyA (e k:Nat)(t:Tok)(l:c6):Zk (.slice e) (.vs k t l)=O (.int .i64 (T l)):=de
theorem Ztn (e:Nat):Zk (.slice e) .nils=O (.int .i64 0):=de
theorem Znn (t o off:Nat):YJ (.pointer t) .eql (.ptr o off) .nilp=O (.bool S):=de
theorem Zno (t o off:Nat):YJ (.pointer t) .neq (.ptr o off) .nilp=O (.bool N):=de
theorem Znl (t:Nat):YJ (.pointer t) .eql .nilp .nilp=O (.bool N):=de
theorem Znm (t:Nat):YJ (.pointer t) .neq .nilp .nilp=O (.bool S):=de
theorem Zmb (a b:Bool):YJ .bool .neq (.bool a) (.bool b)=O (.bool (!(a==b))):=de
theorem Zma (a b:Bool):YJ .bool .eql (.bool a) (.bool b)=O (.bool (a==b)):=de
theorem Zm8:ZhU .eql .nili .nili=O (.bool N):=de
theorem Zm9:ZhU .neq .nili .nili=O (.bool S):=de
theorem Zkp (s:cz)(n:Int)(H:Hp):fR .indexByte [.str s,.int .u8 n] H=O (.int .i64 (K6 (zB n.toNat) s 0),H):=de
theorem ZwU (s t:cz)(H:Hp):fR .cmp [.str s,.str t] H=O (.int .i64 (Qw s t),H):=de
theorem Zrv (s:cz)(n:Int)(H:Hp):fR .count [.str s,.int .u8 n] H=O (.int .i64 (TB (zB n.toNat) s),H):=de
theorem Zp9 (H1:Hp):∀ (n f:Nat) (v:AV),n<f->GJ n v=N->Zh H1 0 f v=O v:=by
 intro n
 induction n with
 |zero =>
  intro f v u h
  cases f with
  |zero=>omega
  |succ f=>cases v <;> first|rfl|(simp[GJ]at h;done)
 |succ n w =>
  intro f v u h
  cases f with
  |zero=>omega
  |succ f =>
   have j:∀ l:c6,l.all (GJ n)=N->l.mapM (Zh H1 0 f)=O l:=by
    intro l
    induction l with
    |nil=>intro _;rfl
    |cons x l g =>
     intro h;rw[List.all_cons,Bool.and_eq_true]at h;rw[List.mapM_cons,w f x cm h.1,g h.2];rfl
   cases v with
   |agg l=>simp only[GJ]at h;simp only[Zh,j l h]
   |tuple l=>simp only[GJ]at h;simp only[Zh,j l h]
   |_=>first|rfl|(simp[GJ]at h;done)
theorem JD {call:c6->Hp->Option (AV×Hp)}{args args':c6}{H H1:Hp}{v v':AV}(g:args.mapM (Zh [] 0 9)=O args')(h:call args' []=O (v,H1))(j:Zh H1 0 9 v=O v'):Ze call args H=O (v',H):=by
 unfold Ze;simp only[g,h,j]
theorem Xi {call:c6->Hp->Option (AV×Hp)}{args args':c6}{H H1:Hp}{v:AV}(g:args.mapM (Zh [] 0 9)=O args')(h:call args' []=O (v,H1))(j:GJ 3 v=N):Ze call args H=O (v,H) :=
 JD g h (Zp9 H1 3 9 v cm j)
theorem Zo {n:Int}(u:-9223372036854775808<=n)(w:n<=9223372036854775807):IntKind.i64.wrap n=n:=by
 unfold IntKind.wrap;have g:(2 ^ IntKind.i64.bits:Int)=18446744073709551616:=co
 have h:(2 ^ (IntKind.i64.bits-1):Int)=9223372036854775808:=co
 have j:IntKind.i64.signed=N:=(Eq.refl _).trans (Eq.refl _);simp only[g,h,j,Bool.true_and,decide_eq_true_eq,ge_iff_le];split <;> omega
theorem Y8 {H:Hp}{o:Nat}{x:AObj}(h:H[o]?=O x)(l:List AObj):(H++l)[o]?=O x:=by
 rw[List.getElem?_append_left (Zn h)];exact h
theorem Zbe (H:Hp)(x:AObj)(l:List AObj):(H++(x::l))[T H]?=O x:=cn
theorem Y2 {H:Hp}{o i:Nat}{x:Option AObj}(y:AObj)(g:i≠o)(h:H[o]?=x):(H.set i y)[o]?=x:=by
 rw[List.getElem?_set_ne g];exact h
theorem Zs {H:Hp}{o:Nat}{x:AObj}(y:AObj)(h:H[o]?=O x):(H.set o y)[o]?=O y:=by
 have:=Zn h;simp[this]
theorem Yk {H:Hp}{o off:Nat}{l:c6}(h:H[o]?=O (.cells l))(g:Bool)(sz:Nat):Z2 g sz (.ptr o off) H=apart g sz l off:=by simp[Z2,h]
theorem YL {H:Hp}{o off sz:Nat}{l:c6}{v:AV}(h:H[o]?=O (.cells l))(g:v.known=N)(u:T v.cells=sz)(j:off+sz<=T l) :
 Zc sz (.ptr o off) v H=O (.tuple [],H.set o (.cells (splice l off v.cells))):=by simp[Zc,YI,h,g,u,j]
theorem GG {v:AV}{H:Hp}(h:v.known=N):ZF v H=O (.ptr (T H) 0,H++[.cells v.cells]):=by simp[ZF,h]
theorem Zif {H:Hp}{o:Nat}{l:c6}(h:H[o]?=O (.cells l))(k:AV->Hp->Z4):Wy (.ptr o 0) H k=k (.vp l) (H.set o .dead):=by simp[Wy,Ng,h]
end
def bv (b:UInt8):AV:=.int .u8 b.toNat
theorem Zp6:∀ (l:cz),V6 (l.map bv)=O l:=by
 intro l
 induction l with
 |nil=>rfl
 |cons b l g =>
  simp only[List.map_cons,bv,V6];rw[show List.map bv l=l.map bv from rfl,g];simp
theorem ZwD (t:Tok)(l:cz):Jk (.vs 1 t (l.map bv))=O (.str l):=by simp[Jk,Zp6]
theorem ZqH {len cap:Nat}{n:Int}(k:IntKind)(g:0<=n)(h:n<=cap):YQ len cap F (O (.int k n)) F=O (0,n.toNat,cap):=by delta YQ;simp[Xj,g,h]
theorem Zhs {len cap:Nat}{n:Int}(k:IntKind)(g:0<=n)(h:n<=len):YQ len cap (O (.int k n)) F F=O (n.toNat,len,cap):=by delta YQ;simp[Xj,g,h]
theorem eQ {len cap:Nat}{n m:Int}(k k':IntKind)(g:0<=n)(u:n<=m)(h:m<=cap):YQ len cap (O (.int k n)) (O (.int k' m)) F=O (n.toNat,m.toNat,cap):=by
 have:0<=m:=cm
 have j:n<=max m 0:=cm
 delta YQ;simp[Xj,g,h,this,j]
theorem ZhC {s:cz}{n:Int}(k:IntKind)(g:0<=n)(h:n<=T s):Y4 (.str s) F (O (.int k n)) F=O (.str (s.take n.toNat)):=by
 simp[Y4,Gd,ZqH k g h]
theorem eW {s:cz}{n:Int}(k:IntKind)(g:0<=n)(h:n<=T s):Y4 (.str s) (O (.int k n)) F F=O (.str (s.drop n.toNat)):=by
 simp[Y4,Gd,Zhs k g h]
theorem EM {s:cz}{n m:Int}(k k':IntKind)(g:0<=n)(h:n<=m)(j:m<=T s):Y4 (.str s) (O (.int k n)) (O (.int k' m)) F=O (.str ((s.take m.toNat).drop n.toNat)):=by
 simp[Y4,Gd,eQ k k' g h j]
theorem ZhE (z:Nat)(k:IntKind):YC z .nils (O (.int k 0)) F F=O .nils:=by simp only[YC];delta YQ;simp[Xj]
theorem ZqZ {l:c6}{n:Int}(z:Nat)(t:Tok)(k:IntKind)(g:0<=n)(h:n<=T l):YC z (.vs z t l) (O (.int k n)) F F=O (.vs z t (l.drop n.toNat)):=by
 simp[YC,Zhs k g h]
def Row (H:Hp)(k:Nat)(x:AV)(l:c6):Prop:=x=.nils/\l=[]\/∃ t e,x=.vs k (.own t e) l/\H[t]?=O (.tok e)
theorem Row.len {H:Hp}{k:Nat}{x:AV}{l:c6}(h:Row H k x l)(e:Nat):Zk (.slice e) x=O (.int .i64 (T l)):=by
 rcases h with ⟨rfl,rfl⟩|⟨t,g,rfl,_⟩ <;> rfl
theorem Row.app {H:Hp}{k:Nat}{x:AV}{l:c6}(h:Row H k x l)(bytes:Nat)(y:AV)(j:c6)(D:elems k y H=O j)(A:(T l+T j)*(bytes+1)<=140737488355328) :
 ∃ B H',ZR k bytes x y H=O (B,H')/\Row H' k B (l++j)/\T H<=T H'/\(∀ (i:Nat) (c:c6),H[i]?=O (.cells c)->H'[i]?=O (.cells c)) /\
  (∀ (i:Nat) (o:AObj),(∀ t e,x=.vs k (.own t e) l->i≠t)->H[i]?=O o->H'[i]?=O o):=by
 unfold ZR;simp only[D];rcases h with ⟨rfl,rfl⟩|⟨t,e,rfl,w⟩
 ·by_cases u:j=[]
  ·subst u;exact⟨.nils,H,by simp[Ys],.inl ⟨rfl,rfl⟩,zC _,λ_ _ h=>h,λ_ _ _ h=>h⟩
  ·have g:YB (T j) bytes=N:=by simpa[YB]using A
   refine⟨.vs k (.own (T H) (T j)) j,H++[.tok (T j)],by simp only[Ys,u,if_false,g,if_true],.inr ⟨T H,T j,rfl,cn⟩,cn,λi c h=>Y8 h _,λi o _ h=>Y8 h _⟩
 ·have g:YB (T l+T j) bytes=N:=by simpa[YB]using A
  by_cases u:j=[]
  ·subst u;refine⟨.vs k (.own t e) l,H,by simp only[Ys,List.length_nil,Nat.add_zero]at g ⊢;simp only[g,and_self,if_true],.inr ⟨t,e,cn,w⟩,zC _,λ_ _ h=>h,λ_ _ _ h=>h⟩
  ·refine⟨_,_,by simp only[Ys,g,and_self,if_true,u,if_false,w],.inr ⟨t,e+T j,rfl,Zs _ w⟩,cn,λi c h=>?_,λi o hi h=>?_⟩
   ·refine Y2 _ (λz=>?_) h;subst z;rw[w]at h;cases h
   ·exact Y2 _ (λz=>hi t e rfl z.symm) h
attribute [congr] Ztz ZtN Zum ZrM
attribute [go_sem] Ww Zwh ZAx ZAw ZnH ZA0 ZA2 ZA1 Zz5 ZyE ZyD ZyG Zwa ZyB ZqM ZqL
 Zxa Zxg Zxe Zxd Zxc Zxb Zx9 Zxh Zxf ZxV ZxW Zw8 Zw7 ZY ZyA Ztn
 Znn Zno Znl Znm Zmb Zma Zm8 Zm9 Zkp ZwU Zrv
end Go.Am
namespace Go.Am
theorem ZkY {p:Nat}{l:c6}{H:Hp}(h:H[p]?=O .free):D2 p (O (.cells l)) H=O (.ptr p 0,H.set p (.cells l)):=by simp[D2,h,ZA7,ZA8]
end Go.Am
