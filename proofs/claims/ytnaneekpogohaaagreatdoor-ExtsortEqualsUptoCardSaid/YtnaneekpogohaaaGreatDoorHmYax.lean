/- THE ABSTRACT MACHINE -/
import Derived.Test.YtnaneekpogohaaaGreatDoorHmYx
import Derived.Test.YtnaneekpogohaaaGreatDoorHmWx
open List renaming length_nil->zQ,map_cons->zS
open Nat renaming eq_of_beq_eq_true->zA,le_of_ble_eq_true->zC,beq->zG,blt->zH,ble->zK,ne_of_beq_eq_false->zL,ble_eq_true_of_le->zN,succ->zP,mul_le_mul->zR,zero_add->zU
open Bool renaming and_eq_true->zB,eq_iff_iff->zM
open Int renaming natCast_nonneg->zD,negSucc_lt_zero->zE,negSucc_eq->zF,ofNat_eq_natCast->zI,ofNat->zJ,ofNat_le->zO,ofNat_lt->zT
namespace Go.Am
section
variable {α:Type}
theorem K0:∀ (l:List α) (i:Nat),DQ l i=l[i]?:=by
 intro l
 induction l with
 |nil=>intro i;rfl
 |cons a l g=>intro i;cases i with
  |zero=>rfl
  |succ i=>exact g i
theorem Lj:∀ (l:List α) (i:Nat),NJ l i=true↔i<=l.length:=by
 intro l
 induction l with
 |nil=>intro i;simp[NJ]
 |cons a l g=>intro i;cases i with
  |zero=>show true=true↔_;simp
  |succ i =>
   have:=g i;show NJ l i=true↔_;rw[this];simp
theorem TQ:∀ (l:List α) (i:Nat),HN l i=true↔l.length<=i:=by
 intro l
 induction l with
 |nil=>intro i;simp[HN]
 |cons a l g=>intro i;cases i with
  |zero=>show false=true↔_;simp
  |succ i =>
   show HN l i=true↔_;rw[g i];simp
theorem ZlN:∀ (l:List α) (i:Nat),isR l i=true↔l.length=i:=by
 intro l
 induction l with
 |nil=>intro i;simp[isR];exact eq_comm
 |cons a l g=>intro i;cases i with
  |zero=>show false=true↔_;simp
  |succ i =>
   show isR l i=true↔_;rw[g i];simp
theorem JY (l:List α):WT l=l.length:=by
 have key:∀ (l:List α) (n:Nat),@List.rec α (fun _=>Nat->Nat) (fun n=>n) (fun _ _ g n=>g (zP n)) l n=l.length+n:=by
  intro l
  induction l with
  |nil=>intro n;simp
  |cons a l g=>intro n;rw[List.length_cons];have:=g (zP n);dsimp only at this ⊢;rw[this];omega
 exact key l 0
theorem JT (l m:List α):J2 l m=l++m:=by
 induction l with
 |nil=>rfl
 |cons a l g=>show a::J2 l m=_;rw[g];rfl
theorem OM:∀ (l:List α) (i:Nat),CT l i=l.take i:=by
 intro l
 induction l with
 |nil=>intro i;simp[CT]
 |cons a l g=>intro i;cases i with
  |zero=>rfl
  |succ i=>show a::CT l i=_;rw[g];rfl
theorem E5:∀ (l:List α) (i:Nat),PB l i=l.drop i:=by
 intro l
 induction l with
 |nil=>intro i;simp[PB]
 |cons a l g=>intro i;cases i with
  |zero=>rfl
  |succ i=>show PB l i=_;rw[g];rfl
theorem Ib (x:α):∀ (l:List α) (i:Nat),HX l x i=l.set i x:=by
 intro l
 induction l with
 |nil=>intro i;simp[HX]
 |cons a l g=>intro i;cases i with
  |zero=>rfl
  |succ i=>show a::HX l x i=_;rw[g];rfl
theorem I7 (l:List α):NR l=true↔l=[]:=by cases l <;> simp[NR]
end
theorem ZiQ (g:List AV):∀ (l:List AV) (i:Nat),ZfK l g i=splice l i g:=by
 intro l
 induction l with
 |nil=>intro i;simp[ZfK,splice]
 |cons a l j=>intro i;cases i with
  |zero=>show J2 g (PB (a::l) (WT g))=_;rw[JT,E5,JY];simp[splice]
  |succ i =>
   show a::ZfK l g i=_;rw[j];simp[splice,Nat.add_right_comm]
theorem ZAW {α:Type}(x y:α):Ys false x y=y:=rfl
theorem YL {α:Type}{c:Bool}{x:Option α}{r:α}(h:Ys c x none=some r):c=true/\x=some r:=by
 cases c with
 |true=>exact⟨rfl,h⟩
 |false=>cases h
theorem ZlY (g:AL)(t:Nat):Zhh g t=.mk (look g t):=by
 induction g with
 |nil=>rfl
 |cons p g j =>
  obtain⟨i,v⟩:=p;show Ys (zG i t) (.mk v) (Zhh g t)=_;rw[j];show _=Bx.mk (bif zG i t then v else look g t);cases zG i t <;> rfl
theorem Zfm (g:AL)(t:Nat):CI g t=look g t:=by unfold CI;rw[ZlY]
section
variable {C:Cfg}{n:Nat}
theorem ZJ (x:Operand)(g:AL):(cA C n x).get g=Yy C n g x:=by
 unfold cA
 cases x with
 |tmp t =>
  show FA.get (Ys (zH t n) (.slot t) (.val (.tuple []))) g=Em n g t;unfold Em
  cases zH t n with
  |true=>exact Zfm g t
  |false=>rfl
 |_=>rfl
theorem Zyg (l:List Operand)(g:AL):Zqh (cAs C n l) g=l.map (Yy C n g):=by
 induction l with
 |nil=>rfl
 |cons x l j=>show (cA C n x).get g::Zqh (cAs C n l) g=_;rw[ZJ,j];rfl
theorem TW (x:Option Operand)(g:AL):TU (x.map (cA C n)) g=x.map (Yy C n g):=by
 cases x with
 |none=>rfl
 |some x=>show some ((cA C n x).get g)=_;rw[ZJ];rfl
theorem ZkV {α:Type}(ops:Array Oper)(o:Oper)(w:AL)(els:α)(x:Option α):(cG n ops o).run w els x=Rt n ops w o els x:=by
 unfold cG Rt
 cases o.guard with
 |none=>rfl
 |some p =>
  obtain⟨j,u⟩:=p;dsimp only
  cases ops[j]? with
  |none=>rfl
  |some g =>
   dsimp only
   cases g.dst with
   |none=>rfl
   |some d =>
    dsimp only
    cases zH d n with
    |true=>show Z8 (CI w d) u els x=_;rw[Zfm];rfl
    |false=>rfl
theorem Zfj {α:Type}{ops:Array Oper}{g:AL}{o:Oper}{els:α}{x y:Option α}(h:Gr x y):Gr (Rt n ops g o els x) (Rt n ops g o els y):=by
 unfold Rt
 cases o.guard with
 |none=>exact h
 |some p =>
  obtain⟨j,u⟩:=p;dsimp only;split
  ·exact le_refl _
  ·rename_i d w
   cases zH d n with
   |true=>exact ZzL h
   |false=>exact le_refl _
end
theorem ZzP {k g:IntKind}:zG (ikN k) (ikN g)=true↔k=g:=by cases k <;> cases g <;> decide
theorem Zfh (k:IntKind)(z:Int):Zkv k z=k.wrap z:=by
 cases z with
 |negSucc m=>rfl
 |ofNat m =>
  show Ys (zH m (Zha k)) (.ofNat m) (k.wrap (.ofNat m))=_
  cases h:zH m (Zha k) with
  |false=>rfl
  |true =>
   have g:m+1<=Zha k:=zC (by rw[zH]at h;exact h);show (zJ m)=_;unfold IntKind.wrap;cases k <;> simp only[IntKind.bits,IntKind.signed,Zha,zI]at g ⊢ <;> (simp <;> omega)
theorem Zt3 (x y:Int):ilt x y=decide (x<y):=by
 cases x with
 |ofNat m=>cases y with
  |ofNat n =>
   show zH m n=_;by_cases h:m<n
   ·rw[IM h];symm;rw[decide_eq_true_eq];exact zT.2 h
   ·rw[C5 h];symm;rw[decide_eq_false_iff_not];intro g;exact h (zT.1 g)
  |negSucc n=>show false=_;symm;rw[decide_eq_false_iff_not];intro h;have:=zE n;have j:(0:Int)<=zJ m:=zD m;omega
 |negSucc m=>cases y with
  |ofNat n=>show true=_;symm;rw[decide_eq_true_eq];have:=zE m;have j:(0:Int)<=zJ n:=zD n;omega
  |negSucc n =>
   show zH n m=_;by_cases h:n<m
   ·rw[IM h];symm;rw[decide_eq_true_eq];rw[zF,zF];omega
   ·rw[C5 h];symm;rw[decide_eq_false_iff_not];rw[zF,zF];omega
theorem Zt2 (x y:Int):ile x y=decide (x<=y):=by
 have g:∀ a b:Nat,zK a b=decide (a<=b):=by
  intro a b;by_cases h:a<=b
  ·rw[zN h];simp[h]
  ·have:zK a b=false:=by
    cases u:zK a b with
    |false=>rfl
    |true=>exact absurd (zC u) h
   rw[this];simp[h]
 cases x with
 |ofNat m=>cases y with
  |ofNat n=>show zK m n=_;rw[g];simp only[zI,zO]
  |negSucc n=>show false=_;symm;rw[decide_eq_false_iff_not];intro h;have:=zE n;have j:(0:Int)<=zJ m:=zD m;omega
 |negSucc m=>cases y with
  |ofNat n=>show true=_;symm;rw[decide_eq_true_eq];have:=zE m;have j:(0:Int)<=zJ n:=zD n;omega
  |negSucc n=>show zK n m=_;rw[g];rw[zF,zF];simp
theorem Zt1 (x y:Int):ieq x y=(x==y):=by
 have g:∀ a b:Nat,zG a b=decide (a=b):=by
  intro a b
  cases h:zG a b with
  |true=>symm;rw[decide_eq_true_eq];exact zA h
  |false=>symm;rw[decide_eq_false_iff_not];exact zL h
 cases x with
 |ofNat m=>cases y with
  |ofNat n=>show zG m n=_;rw[g];rw[zM];simp;omega
  |negSucc n=>rfl
 |negSucc m=>cases y with
  |ofNat n=>rfl
  |negSucc n=>show zG n m=_;rw[g,zM];simp;exact eq_comm
theorem ZyH (x y:Int):ZzN x y=x+y:=by
 cases x <;> cases y <;> rfl
theorem ZyJ (x y:Int):ZzS x y=x-y:=by
 cases x with
 |ofNat m=>cases y with
  |ofNat n =>
   show Ys (zK n m) (zJ (Nat.sub m n)) _=_
   cases h:zK n m with
   |false=>rfl
   |true =>
    have:=zC h;show zJ (m-n)=_;simp only[zI];omega
  |negSucc n=>rfl
 |negSucc m=>rfl
theorem Zyv {a b:AV}{f g:IntKind->Int->Int->Option AV}(h:∀ k x y,f k x y=g k x y):Gr (Eh a b f) (match a,b with|.int k x,.int w y=>if k=w then g k x y else none|_,_=>none):=by
 intro r j;unfold Eh at j;split at j
 ·rename_i k x w y;obtain⟨u,z⟩:=YL j;rw[ZzP]at u;subst u;simp only[if_true];rw[<-h];exact z
 ·cases j
theorem ZzE (op:BinOp)(a b:AV):Gr (fib op a b) (Z5 op a b):=by
 have key:∀ (op:BinOp) (f:IntKind->Int->Int->Option AV),op≠.shl->op≠.shr->(∀ k x y,f k x y=XC op k x y)->Gr (Eh a b f) (Z5 op a b):=by
  intro op f g j u r w;have:=Zyv (a:=a) (b:=b) u r w;rw[<-this];unfold Z5;cases a <;> cases b <;> first|rfl|skip
  cases op <;> first|rfl|(exact absurd rfl g)|(exact absurd rfl j)
 unfold fib;split
 ·exact key _ _ (by decide) (by decide) fun k x y=>by rw[Zfh,ZyH];rfl
 ·exact key _ _ (by decide) (by decide) fun k x y=>by rw[Zfh,ZyJ];rfl
 ·exact key _ _ (by decide) (by decide) fun k x y=>by rw[Zt1];rfl
 ·exact key _ _ (by decide) (by decide) fun k x y=>by rw[Zt1];rfl
 ·exact key _ _ (by decide) (by decide) fun k x y=>by rw[Zt3];rfl
 ·exact key _ _ (by decide) (by decide) fun k x y=>by rw[Zt2];rfl
 ·exact key _ _ (by decide) (by decide) fun k x y=>by rw[Zt3];rfl
 ·exact key _ _ (by decide) (by decide) fun k x y=>by rw[Zt2];rfl
 ·exact le_refl _
theorem Zsx:∀ (a b:List UInt8),eqS a b=(a==b):=by
 intro a
 induction a with
 |nil=>intro b;cases b <;> rfl
 |cons x a j=>intro b;cases b with
  |nil=>rfl
  |cons y b =>
   show Ys (eqU x y) (eqS a b) false=_;rw[j]
   cases h:eqU x y with
   |true =>
    have:x=y:=UInt8.toNat_inj.1 (zA h);subst this;show (a==b)=_;rw[zM];simp
   |false =>
    have:x≠y:=fun e=>by
     subst e;unfold eqU at h;rw[Nat.beq_refl]at h;cases h
    show false=_;symm;rw[beq_eq_false_iff_ne];intro e;injection e with g _;exact this g
theorem ZzH (op:BinOp)(x y:AV):Gr (fsb op x y) (YK op x y):=by
 intro r g;unfold fsb at g;split at g
 ·rename_i a b;obtain⟨u,j⟩:=YL g;rw[zB,TQ,TQ]at u;rw[JT]at j;rw[Ph (by omega)];exact j
 ·rw[Zsx]at g;exact g
 ·rw[Zsx]at g;exact g
 ·exact g
theorem Ek (g:Bool)(sz:Nat)(cells:List AV)(off:Nat):Cq g sz cells off=apart g sz cells off:=by
 unfold Cq apart
 cases g with
 |false=>exact K0 _ _
 |true =>
  simp only[if_true];show Ys (NJ cells (off+sz)) _ none=_
  cases h:NJ cells (off+sz) with
  |true =>
   rw[Lj]at h;rw[if_pos h,E5,OM]
  |false =>
   rw[if_neg (fun j=>by rw[<-Lj]at j;rw[h]at j;cases j)]
theorem Zlz (g:Bool)(sz:Nat)(a:AV)(H:Hp):Gr (Zdq g sz a H) (Z4 g sz a H):=by
 intro r j;unfold Zdq at j;split at j
 ·rename_i o off;rw[K0]at j;unfold Z4;dsimp only;split at j
  ·rename_i l u;rw[u];rw[Ek]at j;exact j
  ·cases j
 ·rw[Ek]at j;exact j
 ·rename_i o e off;rw[K0]at j;unfold Z4;dsimp only;split at j
  ·rename_i z l u;rw[u];obtain⟨y,w⟩:=YL j;rw[Ek]at w;dsimp only;rw[if_pos (zA y)];exact w
  ·cases j
 ·cases j
theorem ZiK {v:AV}{sz:Nat}{l:List AV}{off:Nat}(h:ZiJ v sz l off=true):v.known=true/\v.cells.length=sz/\off+sz<=l.length:=by
 unfold ZiJ at h;rw[zB,zB,ZlN,Lj]at h;exact h
theorem Zjk (sz:Nat)(a v:AV)(H:Hp):Gr (AN sz a v H) (Ze sz a v H):=by
 intro r g;unfold AN at g;split at g
 ·rename_i o off;rw[K0]at g;split at g
  ·rename_i l w;obtain⟨j,u⟩:=YL g;have j:=ZiK j;rw[Ib,ZiQ]at u;simp only[Ze,YN,w];rw[if_pos j];exact u
  ·cases g
 ·rename_i o e off;rw[K0]at g;split at g
  ·rename_i z l w;obtain⟨j,u⟩:=YL g;rw[zB]at j;have y:=ZiK j.2;rw[Ib,ZiQ]at u;simp only[Ze,YN,w];rw[if_pos ⟨zA j.1,y⟩];exact u
  ·cases g
 ·cases g
theorem LU {a b:Nat}(h:zH a b=true):a<b:=zC (by rw[zH]at h;exact h)
theorem ZlO {α:Type}{l:List α}{i:Int}{f:α->AV}{r:AV}(h:ixR l i f=some r):0<=i/\∃ e,l[i.toNat]?=some e/\r=f e:=by
 cases i with
 |ofNat m =>
  have h:@Option.rec α (fun _=>Option AV) none (fun e=>some (f e)) (DQ l m)=some r:=h;rw[K0]at h;refine⟨zD m,?_⟩;show ∃ e,l[m]?=some e/\r=f e
  cases g:l[m]? with
  |none=>rw[g]at h;cases h
  |some e=>rw[g]at h;injection h with h;exact⟨e,rfl,h.symm⟩
 |negSucc m=>cases h
theorem CK {i:Int}{f:Nat->Option AV}{r:AV}(h:Zm4 i f=some r):0<=i/\i=(i.toNat:Int)/\f i.toNat=some r:=by
 cases i with
 |ofNat m=>exact⟨zD m,rfl,h⟩
 |negSucc m=>cases h
theorem ZsM (size:Nat)(x i:AV):Gr (ZgW size x i) (Zo size x i):=by
 intro r g;unfold ZgW at g;split at g
 ·obtain⟨y,z⟩:=YL g;obtain⟨j,e,u,w⟩:=ZlO z;simp only[Zo];rw[if_pos ⟨zA y,j⟩,u,w]
 ·obtain⟨y,z,j⟩:=CK g;obtain⟨u,w⟩:=YL j;have:=LU u;simp only[Zo];rw[if_pos (by omega)];exact w
 ·obtain⟨y,z,j⟩:=CK g;obtain⟨u,w⟩:=YL j;have:=LU u;simp only[Zo];rw[if_pos (by omega)];exact w
 ·cases g
theorem Zjd (off:Nat)(a:AV):Gr (Zcv off a) (Z6 off a):=by
 intro r g;unfold Zcv at g;split at g
 ·exact g
 ·exact g
 ·obtain⟨j,u⟩:=YL g;rw[Lj]at j;rw[E5]at u;simp only[Z6];rw[if_pos j];exact u
 ·cases g
theorem Zq4 (len size:Nat)(x i:AV):Gr (Zdn len size x i) (G6 len size x i):=by
 intro r g;unfold Zdn at g;split at g
 ·obtain⟨y,z,j⟩:=CK g;obtain⟨u,w⟩:=YL j;have:=LU u;simp only[G6];rw[if_pos (by omega)];exact Zjd _ _ _ w
 ·cases g
theorem Zq5 (g:Bool)(len size:Nat)(x i:AV):Gr (Zdo g len size x i) (PR g len size x i):=by
 intro r j;unfold Zdo at j;split at j
 ·obtain⟨z,A,w⟩:=CK j;obtain⟨y,u⟩:=YL w;have:=LU y;simp only[PR];rw[if_pos (by omega)];rw[Ek]at u;exact u
 ·cases j
theorem Zly (x i:AV):Gr (Co x i) (Zw x i):=by
 intro r g;unfold Co at g;split at g
 ·obtain⟨j,e,u,w⟩:=ZlO g;simp only[Zw];rw[if_pos j,u,w];rfl
 ·cases g
theorem ZvT {g:AL}{C:Cfg}{n:Nat}:∀ (l:List (Nat×Nat×Operand)) (c:List AV),Gr (Zkt g (l.map fun p=>(p.1,p.2.1,cA C n p.2.2)) c) (Xh (l.map fun p=>(p.1,p.2.1,Yy C n g p.2.2)) c):=by
 intro l
 induction l with
 |nil=>intro c;exact le_refl _
 |cons p l y =>
  intro c r j;have j:Ys (ZiJ ((cA C n p.2.2).get g) p.2.1 c p.1) (Zkt g (l.map fun p=>(p.1,p.2.1,cA C n p.2.2)) (ZfK c ((cA C n p.2.2).get g).cells p.1)) none=some r:=j;rw[ZJ,ZiQ]at j;obtain⟨u,w⟩:=YL j;have u:=ZiK u;simp only[zS,Xh];rw[if_pos u];exact y _ _ w
theorem Zw2 {g:AL}{C:Cfg}{n size:Nat}:∀ (l:List (Nat×Operand)) (c:List AV),Gr (Zku g size (l.map fun p=>(p.1,cA C n p.2)) c) (ZE size (l.map fun p=>(p.1,Yy C n g p.2)) c):=by
 intro l
 induction l with
 |nil=>intro c;exact le_refl _
 |cons p l y =>
  intro c r u;have u:Ys (((cA C n p.2).get g).known&&(isR ((cA C n p.2).get g).cells size&&NJ c (p.1+1))) (Zku g size (l.map fun p=>(p.1,cA C n p.2)) (HX c ((cA C n p.2).get g) p.1)) none=some r:=u;rw[ZJ,Ib]at u;obtain⟨j,w⟩:=YL u;rw[zB,zB,ZlN,Lj]at j;simp only[zS,ZE];rw[if_pos ⟨j.1,j.2.1,j.2.2⟩];exact y _ _ w
theorem ZsE (x:AV)(y:Nat):Zcu x y=YW x y:=by
 unfold Zcu YW
 cases x with
 |int k n =>
  dsimp only
  cases n with
  |ofNat m =>
   show Ys (zK m y) (some m) none=_
   cases h:zK m y with
   |true =>
    have:=zC h;rw[if_pos ⟨zD m,zO.2 this⟩];rfl
   |false =>
    rw[if_neg];intro ⟨_,g⟩;have:=zN (zO.1 g);rw[h]at this;cases this
  |negSucc m =>
   show none=_;rw[if_neg];intro ⟨h,_⟩;have:=zE m;omega
 |_=>rfl
theorem ZgQ (len cap:Nat)(lo hi mx:Option AV):AK len cap lo hi mx=Yw len cap lo hi mx:=by
 delta AK Yw
 simp only[ZsE];rfl
theorem Zqf (x:AV)(lo hi mx:Option AV):Ziz x lo hi mx=Y8 x lo hi mx:=by
 cases x with
 |str s =>
  cases mx with
  |none =>
   show (match AK (WT s) (WT s) lo hi none with
    |some (l,h,_)=>some (AV.str (PB (CT s h) l))
    |none=>none)=UP s lo hi
   unfold UP;rw[JY,ZgQ]
   cases Yw s.length s.length lo hi none with
   |none=>rfl
   |some p=>obtain⟨l,h,m⟩:=p;dsimp only;rw[OM,E5]
  |some _=>rfl
 |_=>rfl
theorem Zqg (size:Nat)(x:AV)(lo hi mx:Option AV):Gr (Zds size x lo hi mx) (Yn size x lo hi mx):=by
 intro r g;unfold Zds at g;split at g
 ·rename_i k tok l;obtain⟨w,j⟩:=YL g
  have z:∀ (a b:Nat) (x y:Tok),(if a=b then x else y)=Ys (zG a b) x y:=by
   intro a b x y
   cases u:zG a b with
   |true=>rw[if_pos (zA u)]
   |false=>rw[if_neg (zL u)]
  simp only[Yn];rw[if_pos (zA w)];simp only[JY,ZgQ,OM,E5]at j;simp only[z];exact j
 ·exact g
theorem Zjc (k:Nat)(x:AV)(H:Hp):Gr (ZgR k x H) (elems k x H):=by
 intro r g;unfold ZgR at g;split at g
 ·exact g
 ·obtain⟨j,u⟩:=YL g;simp only[elems];rw[if_pos (zA j)];exact u
 ·exact g
theorem ZfJ {bytes:Nat}{l m:List AV}(h:ZhF bytes l m=true):YR (l.length+m.length) bytes=true:=by
 unfold ZhF at h;rw[zB,zB,TQ,TQ]at h;have g:=zC h.1;unfold YR;rw[decide_eq_true_eq];have:(l.length+m.length)*(bytes+1)<=2000000*1000001:=zR (by omega) (by omega);omega
theorem L8 {α:Type}{l:List α}(h:NR l=false):¬ l=[]:=fun g=>by rw[<-I7]at g;rw[h]at g;cases g
theorem ZpW (k bytes:Nat)(s:AV)(xs:List AV)(H:Hp):Gr (Ziv k bytes s xs H) (Yv k bytes s xs H):=by
 intro r u;unfold Ziv at u;split at u
 ·simp only[Yv]
  cases j:NR xs with
  |true=>rw[j]at u;rw[if_pos (I7 _ |>.1 j)];exact u
  |false =>
   rw[j]at u;rw[if_neg (L8 j)];obtain⟨w,g⟩:=YL u;have:=ZfJ w;simp only[zQ,zU]at this;rw[if_pos this];simp only[JY,JT]at g;exact g
 ·rename_i D tok l;obtain⟨w,g⟩:=YL u;rw[zB]at w;simp only[Yv];rw[if_pos ⟨zA w.1,ZfJ w.2⟩]
  cases j:NR xs with
  |true=>rw[j]at g;rw[if_pos (I7 _ |>.1 j)];exact g
  |false =>
   rw[j]at g;rw[if_neg (L8 j)];rw[ZAW]at g;simp only[JY,JT,K0,Ib]at g
   cases tok with
   |no=>cases g
   |clip=>exact g
   |own t e =>
    dsimp only at g ⊢;split at g
    ·rename_i B A;rw[A];obtain⟨y,z⟩:=YL g;dsimp only;rw[if_pos (zA y)];exact z
    ·cases g
 ·cases u
theorem ZvQ (k bytes:Nat)(s x:AV)(H:Hp):Gr (Zkr k bytes s x H) (Yl k bytes s x H):=by
 intro r g;unfold Zkr at g;split at g
 ·rename_i xs j;unfold Yl;rw[Zjc _ _ _ _ j];exact ZpW _ _ _ _ _ _ g
 ·cases g
theorem Zj3 (l:List AV):Zc2 l=(l.map AV.cells).flatten:=by
 induction l with
 |nil=>rfl
 |cons a l g=>show J2 a.cells (Zc2 l)=_;rw[JT,g];simp
theorem Zyu (n:Nat)(l:List AV):ZpY n l=Zip n l:=by
 unfold ZpY Zip
 cases h:HN l n with
 |true=>rw[TQ]at h;rw[if_pos h]
 |false=>rw[if_neg (fun g=>by rw[<-TQ]at g;rw[h]at g;cases g)];exact OM _ _
theorem ZvR (ag:Bool)(k bytes:Nat)(s:AV)(xs:List AV)(H:Hp):Gr (ZpV ag k bytes s xs H) (Ql ag k bytes s xs H):=by
 intro r u;unfold ZpV at u;split at u
 ·simp only[Ql]
  cases j:NR xs with
  |true=>rw[j]at u;rw[if_pos (I7 _ |>.1 j)];exact u
  |false =>
   rw[j]at u;rw[if_neg (L8 j)];obtain⟨y,g⟩:=YL u;have:=ZfJ y;simp only[zQ,zU]at this;rw[if_pos this];simp only[JY,JT,Zj3]at g;exact g
 ·rename_i w M o e len;obtain⟨y,g⟩:=YL u;simp only[zB,TQ]at y;obtain⟨z,F,D,E,L⟩:=y;have z:w=ag:=by cases ag <;> cases w <;> first|rfl|cases z
  have D:=zC D;have E:=zC E
  have K:YR (len+xs.length) bytes=true:=by
   unfold YR;rw[decide_eq_true_eq];have:(len+xs.length)*(bytes+1)<=2000000*1000001:=zR (by omega) (by omega);omega
  simp only[Ql];rw[if_pos ⟨z,zA F,K⟩]
  cases j:NR xs with
  |true=>rw[j]at g;rw[if_pos (I7 _ |>.1 j)];exact g
  |false =>
   rw[j]at g;rw[if_neg (L8 j)]
   have g:(match DQ H o with
    |some (.row B l)=>Ys (zG B e&&NJ l (Nat.mul len k)) (some (AV.ws ag k o (zP e) (Nat.add len (WT xs)),HX H (.row (zP e) (J2 (ZpY (Nat.mul len k) l) (Zc2 xs))) o)) none
    |_=>none)=some r:=g
   simp only[JY,JT,K0,Ib,Zj3,Zyu]at g;split at g
   ·rename_i B l J;rw[J];obtain⟨A,I⟩:=YL g;rw[zB,Lj]at A;dsimp only;rw[if_pos ⟨zA A.1,A.2⟩];exact I
   ·cases g
 ·exact u
theorem ZsC (ag:Bool)(k bytes:Nat)(s x:AV)(H:Hp):Gr (ZgP ag k bytes s x H) (QG ag k bytes s x H):=by
 intro r g;unfold ZgP at g;split at g
 ·rename_i xs j;unfold QG;rw[Zjc _ _ _ _ j];exact ZvR _ _ _ _ _ _ _ g
 ·cases g
theorem Zyx (d:TypeDesc)(x:AV):Zq9 d x=Zk d x:=by
 unfold Zq9;split
 ·split
  ·rw[JY];rfl
  ·rename_i h;cases x <;> first|rfl|(exact absurd rfl (h _))
 ·split
  ·rfl
  ·rw[JY];rfl
  ·rfl
  ·rfl
  ·rename_i g j u w;cases x <;> first|rfl|(exact absurd rfl g)|(exact absurd rfl (j _ _ _))|(exact absurd rfl (u _ _ _ _ _ _))|(exact absurd rfl (w _ _ _ _ _))
 ·rfl
theorem ZvS (x:AV)(k:IntKind):Zks x k=Wh k x:=by
 unfold Zks Wh
 cases x with
 |int k n=>dsimp only;rw[Zfh]
 |_=>rfl
theorem Zoe (x:AV)(H:Hp):Gr (Zlu x H) (ZM x H):=by
 intro r u;obtain⟨j,g⟩:=YL u;unfold ZM;rw[if_pos j];rw[JY,JT]at g;exact g
end Go.Am
