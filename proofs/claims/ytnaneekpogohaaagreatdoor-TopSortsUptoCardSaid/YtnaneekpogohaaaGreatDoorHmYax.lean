/- THE ABSTRACT MACHINE -/
import Derived.Test.YtnaneekpogohaaaGreatDoorHmYx
import Derived.Test.YtnaneekpogohaaaGreatDoorHmWx
open List renaming length_nil->zQ,map_cons->zS
open Nat renaming eq_of_beq_eq_true->zA,le_of_ble_eq_true->zC,beq->zG,blt->zH,ble->zK,ne_of_beq_eq_false->zL,ble_eq_true_of_le->zN,succ->zP,mul_le_mul->zR,zero_add->zU
open Bool renaming and_eq_true->zB,eq_iff_iff->zM
open Int renaming natCast_nonneg->zD,negSucc_lt_zero->zE,negSucc_eq->zF,ofNat_eq_natCast->zI,ofNat->zJ,ofNat_le->zO,ofNat_lt->zT
namespace Go.Am
section
variable {α:Type}
theorem K7:∀ (l:List α) (i:Nat),Fc l i=l[i]?:=by
 intro l
 induction l with
 |nil=>intro i;rfl
 |cons a l g=>intro i;cases i with
  |zero=>rfl
  |succ i=>exact g i
theorem LV:∀ (l:List α) (i:Nat),Mj l i=true↔i<=l.length:=by
 intro l
 induction l with
 |nil=>intro i;simp[Mj]
 |cons a l g=>intro i;cases i with
  |zero=>show true=true↔_;simp
  |succ i =>
   have:=g i;show Mj l i=true↔_;rw[this];simp
theorem Pp:∀ (l:List α) (i:Nat),AD l i=true↔l.length<=i:=by
 intro l
 induction l with
 |nil=>intro i;simp[AD]
 |cons a l g=>intro i;cases i with
  |zero=>show false=true↔_;simp
  |succ i =>
   show AD l i=true↔_;rw[g i];simp
theorem ZmE:∀ (l:List α) (i:Nat),isR l i=true↔l.length=i:=by
 intro l
 induction l with
 |nil=>intro i;simp[isR];exact eq_comm
 |cons a l g=>intro i;cases i with
  |zero=>show false=true↔_;simp
  |succ i =>
   show isR l i=true↔_;rw[g i];simp
theorem K4 (l:List α):WW l=l.length:=by
 have key:∀ (l:List α) (n:Nat),@List.rec α (fun _=>Nat->Nat) (fun n=>n) (fun _ _ g n=>g (zP n)) l n=l.length+n:=by
  intro l
  induction l with
  |nil=>intro n;simp
  |cons a l g=>intro n;rw[List.length_cons];have:=g (zP n);dsimp only at this ⊢;rw[this];omega
 exact key l 0
theorem K0 (l m:List α):J8 l m=l++m:=by
 induction l with
 |nil=>rfl
 |cons a l g=>show a::J8 l m=_;rw[g];rfl
theorem ZaC:∀ (l:List α) (i:Nat),HU l i=l.take i:=by
 intro l
 induction l with
 |nil=>intro i;simp[HU]
 |cons a l g=>intro i;cases i with
  |zero=>rfl
  |succ i=>show a::HU l i=_;rw[g];rfl
theorem EH:∀ (l:List α) (i:Nat),N5 l i=l.drop i:=by
 intro l
 induction l with
 |nil=>intro i;simp[N5]
 |cons a l g=>intro i;cases i with
  |zero=>rfl
  |succ i=>show N5 l i=_;rw[g];rfl
theorem O2 (x:α):∀ (l:List α) (i:Nat),AP l x i=l.set i x:=by
 intro l
 induction l with
 |nil=>intro i;simp[AP]
 |cons a l g=>intro i;cases i with
  |zero=>rfl
  |succ i=>show a::AP l x i=_;rw[g];rfl
theorem IY (l:List α):Mr l=true↔l=[]:=by cases l <;> simp[Mr]
end
theorem ZjJ (g:List AV):∀ (l:List AV) (i:Nat),ZgM l g i=splice l i g:=by
 intro l
 induction l with
 |nil=>intro i;simp[ZgM,splice]
 |cons a l j=>intro i;cases i with
  |zero=>show J8 g (N5 (a::l) (WW g))=_;rw[K0,EH,K4];simp[splice]
  |succ i =>
   show a::ZgM l g i=_;rw[j];simp[splice,Nat.add_right_comm]
theorem ZAH {α:Type}(x y:α):YA false x y=y:=rfl
theorem YK {α:Type}{c:Bool}{x:Option α}{r:α}(h:YA c x none=some r):c=true/\x=some r:=by
 cases c with
 |true=>exact⟨rfl,h⟩
 |false=>cases h
theorem ZmN (g:AL)(t:Nat):Zie g t=.mk (look g t):=by
 induction g with
 |nil=>rfl
 |cons p g j =>
  obtain⟨i,v⟩:=p;show YA (zG i t) (.mk v) (Zie g t)=_;rw[j];show _=Bx.mk (bif zG i t then v else look g t);cases zG i t <;> rfl
theorem Zgn (g:AL)(t:Nat):HI g t=look g t:=by unfold HI;rw[ZmN]
section
variable {C:Cfg}{n:Nat}
theorem ZM (x:Operand)(g:AL):(cA C n x).get g=Yx C n g x:=by
 unfold cA
 cases x with
 |tmp t =>
  show FA.get (YA (zH t n) (.slot t) (.val (.tuple []))) g=S4 n g t;unfold S4
  cases zH t n with
  |true=>exact Zgn g t
  |false=>rfl
 |_=>rfl
theorem Zye (l:List Operand)(g:AL):ZqR (cAs C n l) g=l.map (Yx C n g):=by
 induction l with
 |nil=>rfl
 |cons x l j=>show (cA C n x).get g::ZqR (cAs C n l) g=_;rw[ZM,j];rfl
theorem Pw (x:Option Operand)(g:AL):Pv (x.map (cA C n)) g=x.map (Yx C n g):=by
 cases x with
 |none=>rfl
 |some x=>show some ((cA C n x).get g)=_;rw[ZM];rfl
theorem ZlJ {α:Type}(ops:Array Oper)(o:Oper)(w:AL)(els:α)(x:Option α):(cG n ops o).run w els x=RX n ops w o els x:=by
 unfold cG RX
 cases o.guard with
 |none=>rfl
 |some p =>
  obtain⟨j,u⟩:=p;dsimp only
  cases ops[j]? with
  |none=>rfl
  |some g =>
   dsimp only
   cases g.dst with
   |none=>rfl
   |some d =>
    dsimp only
    cases zH d n with
    |true=>show Z8 (HI w d) u els x=_;rw[Zgn];rfl
    |false=>rfl
theorem Zgi {α:Type}{ops:Array Oper}{g:AL}{o:Oper}{els:α}{x y:Option α}(h:Gr x y):Gr (RX n ops g o els x) (RX n ops g o els y):=by
 unfold RX
 cases o.guard with
 |none=>exact h
 |some p =>
  obtain⟨j,u⟩:=p;dsimp only;split
  ·exact le_refl _
  ·rename_i d w
   cases zH d n with
   |true=>exact ZzF h
   |false=>exact le_refl _
end
theorem ZzJ {k g:IntKind}:zG (ikN k) (ikN g)=true↔k=g:=by cases k <;> cases g <;> decide
theorem Zgg (k:IntKind)(z:Int):Zlj k z=k.wrap z:=by
 cases z with
 |negSucc m=>rfl
 |ofNat m =>
  show YA (zH m (Zi9 k)) (.ofNat m) (k.wrap (.ofNat m))=_
  cases h:zH m (Zi9 k) with
  |false=>rfl
  |true =>
   have g:m+1<=Zi9 k:=zC (by rw[zH]at h;exact h);show (zJ m)=_;unfold IntKind.wrap;cases k <;> simp only[IntKind.bits,IntKind.signed,Zi9,zI]at g ⊢ <;> (simp <;> omega)
theorem ZtA (x y:Int):ilt x y=decide (x<y):=by
 cases x with
 |ofNat m=>cases y with
  |ofNat n =>
   show zH m n=_;by_cases h:m<n
   ·rw[OE h];symm;rw[decide_eq_true_eq];exact zT.2 h
   ·rw[CS h];symm;rw[decide_eq_false_iff_not];intro g;exact h (zT.1 g)
  |negSucc n=>show false=_;symm;rw[decide_eq_false_iff_not];intro h;have:=zE n;have j:(0:Int)<=zJ m:=zD m;omega
 |negSucc m=>cases y with
  |ofNat n=>show true=_;symm;rw[decide_eq_true_eq];have:=zE m;have j:(0:Int)<=zJ n:=zD n;omega
  |negSucc n =>
   show zH n m=_;by_cases h:n<m
   ·rw[OE h];symm;rw[decide_eq_true_eq];rw[zF,zF];omega
   ·rw[CS h];symm;rw[decide_eq_false_iff_not];rw[zF,zF];omega
theorem Ztz (x y:Int):ile x y=decide (x<=y):=by
 have g:∀ a b:Nat,zK a b=decide (a<=b):=by
  intro a b;by_cases h:a<=b
  ·rw[zN h];simp[h]
  ·have:zK a b=false:=by
    cases u:zK a b with
    |false=>rfl
    |true=>exact absurd (zC u) h
   rw[this];simp[h]
 cases x with
 |ofNat m=>cases y with
  |ofNat n=>show zK m n=_;rw[g];simp only[zI,zO]
  |negSucc n=>show false=_;symm;rw[decide_eq_false_iff_not];intro h;have:=zE n;have j:(0:Int)<=zJ m:=zD m;omega
 |negSucc m=>cases y with
  |ofNat n=>show true=_;symm;rw[decide_eq_true_eq];have:=zE m;have j:(0:Int)<=zJ n:=zD n;omega
  |negSucc n=>show zK n m=_;rw[g];rw[zF,zF];simp
theorem Zty (x y:Int):ieq x y=(x==y):=by
 have g:∀ a b:Nat,zG a b=decide (a=b):=by
  intro a b
  cases h:zG a b with
  |true=>symm;rw[decide_eq_true_eq];exact zA h
  |false=>symm;rw[decide_eq_false_iff_not];exact zL h
 cases x with
 |ofNat m=>cases y with
  |ofNat n=>show zG m n=_;rw[g];rw[zM];simp;omega
  |negSucc n=>rfl
 |negSucc m=>cases y with
  |ofNat n=>rfl
  |negSucc n=>show zG n m=_;rw[g,zM];simp;exact eq_comm
theorem ZyF (x y:Int):ZzH x y=x+y:=by
 cases x <;> cases y <;> rfl
theorem ZyH (x y:Int):ZzM x y=x-y:=by
 cases x with
 |ofNat m=>cases y with
  |ofNat n =>
   show YA (zK n m) (zJ (Nat.sub m n)) _=_
   cases h:zK n m with
   |false=>rfl
   |true =>
    have:=zC h;show zJ (m-n)=_;simp only[zI];omega
  |negSucc n=>rfl
 |negSucc m=>rfl
theorem Zys {a b:AV}{f g:IntKind->Int->Int->Option AV}(h:∀ k x y,f k x y=g k x y):Gr (EV a b f) (match a,b with|.int k x,.int w y=>if k=w then g k x y else none|_,_=>none):=by
 intro r j;unfold EV at j;split at j
 ·rename_i k x w y;obtain⟨u,z⟩:=YK j;rw[ZzJ]at u;subst u;simp only[if_true];rw[<-h];exact z
 ·cases j
theorem Zzy (op:BinOp)(a b:AV):Gr (fib op a b) (Z5 op a b):=by
 have key:∀ (op:BinOp) (f:IntKind->Int->Int->Option AV),op≠.shl->op≠.shr->(∀ k x y,f k x y=XH op k x y)->Gr (EV a b f) (Z5 op a b):=by
  intro op f g j u r w;have:=Zys (a:=a) (b:=b) u r w;rw[<-this];unfold Z5;cases a <;> cases b <;> first|rfl|skip
  cases op <;> first|rfl|(exact absurd rfl g)|(exact absurd rfl j)
 unfold fib;split
 ·exact key _ _ (by decide) (by decide) fun k x y=>by rw[Zgg,ZyF];rfl
 ·exact key _ _ (by decide) (by decide) fun k x y=>by rw[Zgg,ZyH];rfl
 ·exact key _ _ (by decide) (by decide) fun k x y=>by rw[Zty];rfl
 ·exact key _ _ (by decide) (by decide) fun k x y=>by rw[Zty];rfl
 ·exact key _ _ (by decide) (by decide) fun k x y=>by rw[ZtA];rfl
 ·exact key _ _ (by decide) (by decide) fun k x y=>by rw[Ztz];rfl
 ·exact key _ _ (by decide) (by decide) fun k x y=>by rw[ZtA];rfl
 ·exact key _ _ (by decide) (by decide) fun k x y=>by rw[Ztz];rfl
 ·exact le_refl _
theorem Zt3:∀ (a b:List UInt8),eqS a b=(a==b):=by
 intro a
 induction a with
 |nil=>intro b;cases b <;> rfl
 |cons x a j=>intro b;cases b with
  |nil=>rfl
  |cons y b =>
   show YA (eqU x y) (eqS a b) false=_;rw[j]
   cases h:eqU x y with
   |true =>
    have:x=y:=UInt8.toNat_inj.1 (zA h);subst this;show (a==b)=_;rw[zM];simp
   |false =>
    have:x≠y:=fun e=>by
     subst e;unfold eqU at h;rw[Nat.beq_refl]at h;cases h
    show false=_;symm;rw[beq_eq_false_iff_ne];intro e;injection e with g _;exact this g
theorem ZzB (op:BinOp)(x y:AV):Gr (fsb op x y) (Xb op x y):=by
 intro r g;unfold fsb at g;split at g
 ·rename_i a b;obtain⟨u,j⟩:=YK g;rw[zB,Pp,Pp]at u;rw[K0]at j;rw[PQ (by omega)];exact j
 ·rw[Zt3]at g;exact g
 ·rw[Zt3]at g;exact g
 ·exact g
theorem EY (g:Bool)(sz:Nat)(cells:List AV)(off:Nat):Hm g sz cells off=apart g sz cells off:=by
 unfold Hm apart
 cases g with
 |false=>exact K7 _ _
 |true =>
  simp only[if_true];show YA (Mj cells (off+sz)) _ none=_
  cases h:Mj cells (off+sz) with
  |true =>
   rw[LV]at h;rw[if_pos h,EH,ZaC]
  |false =>
   rw[if_neg (fun j=>by rw[<-LV]at j;rw[h]at j;cases j)]
theorem Zmq (g:Bool)(sz:Nat)(a:AV)(H:Hp):Gr (Zes g sz a H) (Z3 g sz a H):=by
 intro r j;unfold Zes at j;split at j
 ·rename_i o off;rw[K7]at j;unfold Z3;dsimp only;split at j
  ·rename_i l u;rw[u];rw[EY]at j;exact j
  ·cases j
 ·rw[EY]at j;exact j
 ·rename_i o e off;rw[K7]at j;unfold Z3;dsimp only;split at j
  ·rename_i z l u;rw[u];obtain⟨y,w⟩:=YK j;rw[EY]at w;dsimp only;rw[if_pos (zA y)];exact w
  ·cases j
 ·cases j
theorem ZjC {v:AV}{sz:Nat}{l:List AV}{off:Nat}(h:ZjB v sz l off=true):v.known=true/\v.cells.length=sz/\off+sz<=l.length:=by
 unfold ZjB at h;rw[zB,zB,ZmE,LV]at h;exact h
theorem Zkc (sz:Nat)(a v:AV)(H:Hp):Gr (ID sz a v H) (Zf sz a v H):=by
 intro r g;unfold ID at g;split at g
 ·rename_i o off;rw[K7]at g;split at g
  ·rename_i l w;obtain⟨j,u⟩:=YK g;have j:=ZjC j;rw[O2,ZjJ]at u;simp only[Zf,YM,w];rw[if_pos j];exact u
  ·cases g
 ·rename_i o e off;rw[K7]at g;split at g
  ·rename_i z l w;obtain⟨j,u⟩:=YK g;rw[zB]at j;have y:=ZjC j.2;rw[O2,ZjJ]at u;simp only[Zf,YM,w];rw[if_pos ⟨zA j.1,y⟩];exact u
  ·cases g
 ·cases g
theorem Ew {a b:Nat}(h:zH a b=true):a<b:=zC (by rw[zH]at h;exact h)
theorem ZmF {α:Type}{l:List α}{i:Int}{f:α->AV}{r:AV}(h:ixR l i f=some r):0<=i/\∃ e,l[i.toNat]?=some e/\r=f e:=by
 cases i with
 |ofNat m =>
  have h:@Option.rec α (fun _=>Option AV) none (fun e=>some (f e)) (Fc l m)=some r:=h;rw[K7]at h;refine⟨zD m,?_⟩;show ∃ e,l[m]?=some e/\r=f e
  cases g:l[m]? with
  |none=>rw[g]at h;cases h
  |some e=>rw[g]at h;injection h with h;exact⟨e,rfl,h.symm⟩
 |negSucc m=>cases h
theorem HK {i:Int}{f:Nat->Option AV}{r:AV}(h:ZmS i f=some r):0<=i/\i=(i.toNat:Int)/\f i.toNat=some r:=by
 cases i with
 |ofNat m=>exact⟨zD m,rfl,h⟩
 |negSucc m=>cases h
theorem Ztk (size:Nat)(x i:AV):Gr (ZhV size x i) (Zn size x i):=by
 intro r g;unfold ZhV at g;split at g
 ·obtain⟨y,z⟩:=YK g;obtain⟨j,e,u,w⟩:=ZmF z;simp only[Zn];rw[if_pos ⟨zA y,j⟩,u,w]
 ·obtain⟨y,z,j⟩:=HK g;obtain⟨u,w⟩:=YK j;have:=Ew u;simp only[Zn];rw[if_pos (by omega)];exact w
 ·obtain⟨y,z,j⟩:=HK g;obtain⟨u,w⟩:=YK j;have:=Ew u;simp only[Zn];rw[if_pos (by omega)];exact w
 ·cases g
theorem Zk6 (off:Nat)(a:AV):Gr (Zdx off a) (Z7 off a):=by
 intro r g;unfold Zdx at g;split at g
 ·exact g
 ·exact g
 ·obtain⟨j,u⟩:=YK g;rw[LV]at j;rw[EH]at u;simp only[Z7];rw[if_pos j];exact u
 ·cases g
theorem ZqF (len size:Nat)(x i:AV):Gr (Zep len size x i) (Gj len size x i):=by
 intro r g;unfold Zep at g;split at g
 ·obtain⟨y,z,j⟩:=HK g;obtain⟨u,w⟩:=YK j;have:=Ew u;simp only[Gj];rw[if_pos (by omega)];exact Zk6 _ _ _ w
 ·cases g
theorem ZqG (g:Bool)(len size:Nat)(x i:AV):Gr (Zeq g len size x i) (Np g len size x i):=by
 intro r j;unfold Zeq at j;split at j
 ·obtain⟨z,A,w⟩:=HK j;obtain⟨y,u⟩:=YK w;have:=Ew y;simp only[Np];rw[if_pos (by omega)];rw[EY]at u;exact u
 ·cases j
theorem Zmp (x i:AV):Gr (Hk x i) (Zz x i):=by
 intro r g;unfold Hk at g;split at g
 ·obtain⟨j,e,u,w⟩:=ZmF g;simp only[Zz];rw[if_pos j,u,w];rfl
 ·cases g
theorem Zwc {g:AL}{C:Cfg}{n:Nat}:∀ (l:List (Nat×Nat×Operand)) (c:List AV),Gr (Zlh g (l.map fun p=>(p.1,p.2.1,cA C n p.2.2)) c) (X5 (l.map fun p=>(p.1,p.2.1,Yx C n g p.2.2)) c):=by
 intro l
 induction l with
 |nil=>intro c;exact le_refl _
 |cons p l y =>
  intro c r j;have j:YA (ZjB ((cA C n p.2.2).get g) p.2.1 c p.1) (Zlh g (l.map fun p=>(p.1,p.2.1,cA C n p.2.2)) (ZgM c ((cA C n p.2.2).get g).cells p.1)) none=some r:=j;rw[ZM,ZjJ]at j;obtain⟨u,w⟩:=YK j;have u:=ZjC u;simp only[zS,X5];rw[if_pos u];exact y _ _ w
theorem Zwl {g:AL}{C:Cfg}{n size:Nat}:∀ (l:List (Nat×Operand)) (c:List AV),Gr (Zli g size (l.map fun p=>(p.1,cA C n p.2)) c) (ZA size (l.map fun p=>(p.1,Yx C n g p.2)) c):=by
 intro l
 induction l with
 |nil=>intro c;exact le_refl _
 |cons p l y =>
  intro c r u;have u:YA (((cA C n p.2).get g).known&&(isR ((cA C n p.2).get g).cells size&&Mj c (p.1+1))) (Zli g size (l.map fun p=>(p.1,cA C n p.2)) (AP c ((cA C n p.2).get g) p.1)) none=some r:=u;rw[ZM,O2]at u;obtain⟨j,w⟩:=YK u;rw[zB,zB,ZmE,LV]at j;simp only[zS,ZA];rw[if_pos ⟨j.1,j.2.1,j.2.2⟩];exact y _ _ w
theorem Zta (x:AV)(y:Nat):Zdw x y=YW x y:=by
 unfold Zdw YW
 cases x with
 |int k n =>
  dsimp only
  cases n with
  |ofNat m =>
   show YA (zK m y) (some m) none=_
   cases h:zK m y with
   |true =>
    have:=zC h;rw[if_pos ⟨zD m,zO.2 this⟩];rfl
   |false =>
    rw[if_neg];intro ⟨_,g⟩;have:=zN (zO.1 g);rw[h]at this;cases this
  |negSucc m =>
   show none=_;rw[if_neg];intro ⟨h,_⟩;have:=zE m;omega
 |_=>rfl
theorem ZhP (len cap:Nat)(lo hi mx:Option AV):IB len cap lo hi mx=Yw len cap lo hi mx:=by
 delta IB Yw
 simp only[Zta];rfl
theorem ZqP (x:AV)(lo hi mx:Option AV):Zjr x lo hi mx=Yj x lo hi mx:=by
 cases x with
 |str s =>
  cases mx with
  |none =>
   show (match IB (WW s) (WW s) lo hi none with
    |some (l,h,_)=>some (AV.str (N5 (HU s h) l))
    |none=>none)=UV s lo hi
   unfold UV;rw[K4,ZhP]
   cases Yw s.length s.length lo hi none with
   |none=>rfl
   |some p=>obtain⟨l,h,m⟩:=p;dsimp only;rw[ZaC,EH]
  |some _=>rfl
 |_=>rfl
theorem ZqQ (size:Nat)(x:AV)(lo hi mx:Option AV):Gr (Zeu size x lo hi mx) (Yk size x lo hi mx):=by
 intro r g;unfold Zeu at g;split at g
 ·rename_i k tok l;obtain⟨w,j⟩:=YK g
  have z:∀ (a b:Nat) (x y:Tok),(if a=b then x else y)=YA (zG a b) x y:=by
   intro a b x y
   cases u:zG a b with
   |true=>rw[if_pos (zA u)]
   |false=>rw[if_neg (zL u)]
  simp only[Yk];rw[if_pos (zA w)];simp only[K4,ZhP,ZaC,EH]at j;simp only[z];exact j
 ·exact g
theorem Zk5 (k:Nat)(x:AV)(H:Hp):Gr (ZhQ k x H) (elems k x H):=by
 intro r g;unfold ZhQ at g;split at g
 ·exact g
 ·obtain⟨j,u⟩:=YK g;simp only[elems];rw[if_pos (zA j)];exact u
 ·exact g
theorem ZgL {bytes:Nat}{l m:List AV}(h:ZiD bytes l m=true):YD (l.length+m.length) bytes=true:=by
 unfold ZiD at h;rw[zB,zB,Pp,Pp]at h;have g:=zC h.1;unfold YD;rw[decide_eq_true_eq];have:(l.length+m.length)*(bytes+1)<=2000000*1000001:=zR (by omega) (by omega);omega
theorem LI {α:Type}{l:List α}(h:Mr l=false):¬ l=[]:=fun g=>by rw[<-IY]at g;rw[h]at g;cases g
theorem Zqz (k bytes:Nat)(s:AV)(xs:List AV)(H:Hp):Gr (Zjn k bytes s xs H) (Yv k bytes s xs H):=by
 intro r u;unfold Zjn at u;split at u
 ·simp only[Yv]
  cases j:Mr xs with
  |true=>rw[j]at u;rw[if_pos (IY _ |>.1 j)];exact u
  |false =>
   rw[j]at u;rw[if_neg (LI j)];obtain⟨w,g⟩:=YK u;have:=ZgL w;simp only[zQ,zU]at this;rw[if_pos this];simp only[K4,K0]at g;exact g
 ·rename_i D tok l;obtain⟨w,g⟩:=YK u;rw[zB]at w;simp only[Yv];rw[if_pos ⟨zA w.1,ZgL w.2⟩]
  cases j:Mr xs with
  |true=>rw[j]at g;rw[if_pos (IY _ |>.1 j)];exact g
  |false =>
   rw[j]at g;rw[if_neg (LI j)];rw[ZAH]at g;simp only[K4,K0,K7,O2]at g
   cases tok with
   |no=>cases g
   |clip=>exact g
   |own t e =>
    dsimp only at g ⊢;split at g
    ·rename_i B A;rw[A];obtain⟨y,z⟩:=YK g;dsimp only;rw[if_pos (zA y)];exact z
    ·cases g
 ·cases u
theorem Zw9 (k bytes:Nat)(s x:AV)(H:Hp):Gr (Zlf k bytes s x H) (Ym k bytes s x H):=by
 intro r g;unfold Zlf at g;split at g
 ·rename_i xs j;unfold Ym;rw[Zk5 _ _ _ _ j];exact Zqz _ _ _ _ _ _ g
 ·cases g
theorem ZjW (l:List AV):Zd4 l=(l.map AV.cells).flatten:=by
 induction l with
 |nil=>rfl
 |cons a l g=>show J8 a.cells (Zd4 l)=_;rw[K0,g];simp
theorem Zyr (n:Nat)(l:List AV):ZqB n l=Zji n l:=by
 unfold ZqB Zji
 cases h:AD l n with
 |true=>rw[Pp]at h;rw[if_pos h]
 |false=>rw[if_neg (fun g=>by rw[<-Pp]at g;rw[h]at g;cases g)];exact ZaC _ _
theorem Zwa (ag:Bool)(k bytes:Nat)(s:AV)(xs:List AV)(H:Hp):Gr (Zqy ag k bytes s xs H) (VH ag k bytes s xs H):=by
 intro r u;unfold Zqy at u;split at u
 ·simp only[VH]
  cases j:Mr xs with
  |true=>rw[j]at u;rw[if_pos (IY _ |>.1 j)];exact u
  |false =>
   rw[j]at u;rw[if_neg (LI j)];obtain⟨y,g⟩:=YK u;have:=ZgL y;simp only[zQ,zU]at this;rw[if_pos this];simp only[K4,K0,ZjW]at g;exact g
 ·rename_i w M o e len;obtain⟨y,g⟩:=YK u;simp only[zB,Pp]at y;obtain⟨z,F,D,E,L⟩:=y;have z:w=ag:=by cases ag <;> cases w <;> first|rfl|cases z
  have D:=zC D;have E:=zC E
  have K:YD (len+xs.length) bytes=true:=by
   unfold YD;rw[decide_eq_true_eq];have:(len+xs.length)*(bytes+1)<=2000000*1000001:=zR (by omega) (by omega);omega
  simp only[VH];rw[if_pos ⟨z,zA F,K⟩]
  cases j:Mr xs with
  |true=>rw[j]at g;rw[if_pos (IY _ |>.1 j)];exact g
  |false =>
   rw[j]at g;rw[if_neg (LI j)]
   have g:(match Fc H o with
    |some (.row B l)=>YA (zG B e&&Mj l (Nat.mul len k)) (some (AV.ws ag k o (zP e) (Nat.add len (WW xs)),AP H (.row (zP e) (J8 (ZqB (Nat.mul len k) l) (Zd4 xs))) o)) none
    |_=>none)=some r:=g
   simp only[K4,K0,K7,O2,ZjW,Zyr]at g;split at g
   ·rename_i B l J;rw[J];obtain⟨A,I⟩:=YK g;rw[zB,LV]at A;dsimp only;rw[if_pos ⟨zA A.1,A.2⟩];exact I
   ·cases g
 ·exact u
theorem Zt8 (ag:Bool)(k bytes:Nat)(s x:AV)(H:Hp):Gr (ZhO ag k bytes s x H) (Wk ag k bytes s x H):=by
 intro r g;unfold ZhO at g;split at g
 ·rename_i xs j;unfold Wk;rw[Zk5 _ _ _ _ j];exact Zwa _ _ _ _ _ _ _ g
 ·cases g
theorem Zyv (d:TypeDesc)(x:AV):ZqJ d x=Zl d x:=by
 unfold ZqJ;split
 ·split
  ·rw[K4];rfl
  ·rename_i h;cases x <;> first|rfl|(exact absurd rfl (h _))
 ·split
  ·rfl
  ·rw[K4];rfl
  ·rfl
  ·rfl
  ·rename_i g j u w;cases x <;> first|rfl|(exact absurd rfl g)|(exact absurd rfl (j _ _ _))|(exact absurd rfl (u _ _ _ _ _ _))|(exact absurd rfl (w _ _ _ _ _))
 ·rfl
theorem Zwb (x:AV)(k:IntKind):Zlg x k=Wl k x:=by
 unfold Zlg Wl
 cases x with
 |int k n=>dsimp only;rw[Zgg]
 |_=>rfl
theorem Zp1 (x:AV)(H:Hp):Gr (Zml x H) (ZO x H):=by
 intro r u;obtain⟨j,g⟩:=YK u;unfold ZO;rw[if_pos j];rw[K4,K0]at g;exact g
end Go.Am
