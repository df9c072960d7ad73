/- THE ABSTRACT MACHINE -/
import Derived.Test.YtnaneekpogohaaaGreatDoorHmYx
import Derived.Test.YtnaneekpogohaaaGreatDoorHmWx
open List renaming length_nil->zQ,map_cons->zS
open Nat renaming eq_of_beq_eq_true->zA,le_of_ble_eq_true->zC,beq->zG,blt->zH,ble->zK,ne_of_beq_eq_false->zL,ble_eq_true_of_le->zN,succ->zP,mul_le_mul->zR,zero_add->zU
open Bool renaming and_eq_true->zB,eq_iff_iff->zM
open Int renaming natCast_nonneg->zD,negSucc_lt_zero->zE,negSucc_eq->zF,ofNat_eq_natCast->zI,ofNat->zJ,ofNat_le->zO,ofNat_lt->zT
namespace Go.Am
section
variable {α:Type}
theorem JX:∀ (l:List α) (i:Nat),DT l i=l[i]?:=by
 intro l
 induction l with
 |nil=>intro i;rfl
 |cons a l g=>intro i;cases i with
  |zero=>rfl
  |succ i=>exact g i
theorem Lg:∀ (l:List α) (i:Nat),NG l i=true↔i<=l.length:=by
 intro l
 induction l with
 |nil=>intro i;simp[NG]
 |cons a l g=>intro i;cases i with
  |zero=>show true=true↔_;simp
  |succ i =>
   have:=g i;show NG l i=true↔_;rw[this];simp
theorem TQ:∀ (l:List α) (i:Nat),HR l i=true↔l.length<=i:=by
 intro l
 induction l with
 |nil=>intro i;simp[HR]
 |cons a l g=>intro i;cases i with
  |zero=>show false=true↔_;simp
  |succ i =>
   show HR l i=true↔_;rw[g i];simp
theorem ZlN:∀ (l:List α) (i:Nat),isR l i=true↔l.length=i:=by
 intro l
 induction l with
 |nil=>intro i;simp[isR];exact eq_comm
 |cons a l g=>intro i;cases i with
  |zero=>show false=true↔_;simp
  |succ i =>
   show isR l i=true↔_;rw[g i];simp
theorem JV (l:List α):WT l=l.length:=by
 have key:∀ (l:List α) (n:Nat),@List.rec α (fun _=>Nat->Nat) (fun n=>n) (fun _ _ g n=>g (zP n)) l n=l.length+n:=by
  intro l
  induction l with
  |nil=>intro n;simp
  |cons a l g=>intro n;rw[List.length_cons];have:=g (zP n);dsimp only at this ⊢;rw[this];omega
 exact key l 0
theorem JQ (l m:List α):J5 l m=l++m:=by
 induction l with
 |nil=>rfl
 |cons a l g=>show a::J5 l m=_;rw[g];rfl
theorem OQ:∀ (l:List α) (i:Nat),H9 l i=l.take i:=by
 intro l
 induction l with
 |nil=>intro i;simp[H9]
 |cons a l g=>intro i;cases i with
  |zero=>rfl
  |succ i=>show a::H9 l i=_;rw[g];rfl
theorem E5:∀ (l:List α) (i:Nat),Px l i=l.drop i:=by
 intro l
 induction l with
 |nil=>intro i;simp[Px]
 |cons a l g=>intro i;cases i with
  |zero=>rfl
  |succ i=>show Px l i=_;rw[g];rfl
theorem Ie (x:α):∀ (l:List α) (i:Nat),A0 l x i=l.set i x:=by
 intro l
 induction l with
 |nil=>intro i;simp[A0]
 |cons a l g=>intro i;cases i with
  |zero=>rfl
  |succ i=>show a::A0 l x i=_;rw[g];rfl
theorem I9 (l:List α):NP l=true↔l=[]:=by cases l <;> simp[NP]
end
theorem ZiX (g:List AV):∀ (l:List AV) (i:Nat),ZfV l g i=splice l i g:=by
 intro l
 induction l with
 |nil=>intro i;simp[ZfV,splice]
 |cons a l j=>intro i;cases i with
  |zero=>show J5 g (Px (a::l) (WT g))=_;rw[JQ,E5,JV];simp[splice]
  |succ i =>
   show a::ZfV l g i=_;rw[j];simp[splice,Nat.add_right_comm]
theorem ZB1 {α:Type}(x y:α):Yt false x y=y:=rfl
theorem YK {α:Type}{c:Bool}{x:Option α}{r:α}(h:Yt c x none=some r):c=true/\x=some r:=by
 cases c with
 |true=>exact⟨rfl,h⟩
 |false=>cases h
theorem ZlX (g:AL)(t:Nat):Zhs g t=.mk (look g t):=by
 induction g with
 |nil=>rfl
 |cons p g j =>
  obtain⟨i,v⟩:=p;show Yt (zG i t) (.mk v) (Zhs g t)=_;rw[j];show _=Bx.mk (bif zG i t then v else look g t);cases zG i t <;> rfl
theorem Zfx (g:AL)(t:Nat):CP g t=look g t:=by unfold CP;rw[ZlX]
section
variable {C:Cfg}{n:Nat}
theorem ZK (x:Operand)(g:AL):(cA C n x).get g=YA C n g x:=by
 unfold cA
 cases x with
 |tmp t =>
  show FA.get (Yt (zH t n) (.slot t) (.val (.tuple []))) g=En n g t;unfold En
  cases zH t n with
  |true=>exact Zfx g t
  |false=>rfl
 |_=>rfl
theorem Zyj (l:List Operand)(g:AL):Zql (cAs C n l) g=l.map (YA C n g):=by
 induction l with
 |nil=>rfl
 |cons x l j=>show (cA C n x).get g::Zql (cAs C n l) g=_;rw[ZK,j];rfl
theorem TW (x:Option Operand)(g:AL):TU (x.map (cA C n)) g=x.map (YA C n g):=by
 cases x with
 |none=>rfl
 |some x=>show some ((cA C n x).get g)=_;rw[ZK];rfl
theorem ZkW {α:Type}(ops:Array Oper)(o:Oper)(w:AL)(els:α)(x:Option α):(cG n ops o).run w els x=Rz n ops w o els x:=by
 unfold cG Rz
 cases o.guard with
 |none=>rfl
 |some p =>
  obtain⟨j,u⟩:=p;dsimp only
  cases ops[j]? with
  |none=>rfl
  |some g =>
   dsimp only
   cases g.dst with
   |none=>rfl
   |some d =>
    dsimp only
    cases zH d n with
    |true=>show Z8 (CP w d) u els x=_;rw[Zfx];rfl
    |false=>rfl
theorem Zfu {α:Type}{ops:Array Oper}{g:AL}{o:Oper}{els:α}{x y:Option α}(h:Gr x y):Gr (Rz n ops g o els x) (Rz n ops g o els y):=by
 unfold Rz
 cases o.guard with
 |none=>exact h
 |some p =>
  obtain⟨j,u⟩:=p;dsimp only;split
  ·exact le_refl _
  ·rename_i d w
   cases zH d n with
   |true=>exact ZzN h
   |false=>exact le_refl _
end
theorem ZzR {k g:IntKind}:zG (ikN k) (ikN g)=true↔k=g:=by cases k <;> cases g <;> decide
theorem Zfs (k:IntKind)(z:Int):Zky k z=k.wrap z:=by
 cases z with
 |negSucc m=>rfl
 |ofNat m =>
  show Yt (zH m (Zhl k)) (.ofNat m) (k.wrap (.ofNat m))=_
  cases h:zH m (Zhl k) with
  |false=>rfl
  |true =>
   have g:m+1<=Zhl k:=zC (by rw[zH]at h;exact h);show (zJ m)=_;unfold IntKind.wrap;cases k <;> simp only[IntKind.bits,IntKind.signed,Zhl,zI]at g ⊢ <;> (simp <;> omega)
theorem Zt7 (x y:Int):ilt x y=decide (x<y):=by
 cases x with
 |ofNat m=>cases y with
  |ofNat n =>
   show zH m n=_;by_cases h:m<n
   ·rw[IN h];symm;rw[decide_eq_true_eq];exact zT.2 h
   ·rw[C4 h];symm;rw[decide_eq_false_iff_not];intro g;exact h (zT.1 g)
  |negSucc n=>show false=_;symm;rw[decide_eq_false_iff_not];intro h;have:=zE n;have j:(0:Int)<=zJ m:=zD m;omega
 |negSucc m=>cases y with
  |ofNat n=>show true=_;symm;rw[decide_eq_true_eq];have:=zE m;have j:(0:Int)<=zJ n:=zD n;omega
  |negSucc n =>
   show zH n m=_;by_cases h:n<m
   ·rw[IN h];symm;rw[decide_eq_true_eq];rw[zF,zF];omega
   ·rw[C4 h];symm;rw[decide_eq_false_iff_not];rw[zF,zF];omega
theorem Zt6 (x y:Int):ile x y=decide (x<=y):=by
 have g:∀ a b:Nat,zK a b=decide (a<=b):=by
  intro a b;by_cases h:a<=b
  ·rw[zN h];simp[h]
  ·have:zK a b=false:=by
    cases u:zK a b with
    |false=>rfl
    |true=>exact absurd (zC u) h
   rw[this];simp[h]
 cases x with
 |ofNat m=>cases y with
  |ofNat n=>show zK m n=_;rw[g];simp only[zI,zO]
  |negSucc n=>show false=_;symm;rw[decide_eq_false_iff_not];intro h;have:=zE n;have j:(0:Int)<=zJ m:=zD m;omega
 |negSucc m=>cases y with
  |ofNat n=>show true=_;symm;rw[decide_eq_true_eq];have:=zE m;have j:(0:Int)<=zJ n:=zD n;omega
  |negSucc n=>show zK n m=_;rw[g];rw[zF,zF];simp
theorem Zt5 (x y:Int):ieq x y=(x==y):=by
 have g:∀ a b:Nat,zG a b=decide (a=b):=by
  intro a b
  cases h:zG a b with
  |true=>symm;rw[decide_eq_true_eq];exact zA h
  |false=>symm;rw[decide_eq_false_iff_not];exact zL h
 cases x with
 |ofNat m=>cases y with
  |ofNat n=>show zG m n=_;rw[g];rw[zM];simp;omega
  |negSucc n=>rfl
 |negSucc m=>cases y with
  |ofNat n=>rfl
  |negSucc n=>show zG n m=_;rw[g,zM];simp;exact eq_comm
theorem ZyK (x y:Int):ZzP x y=x+y:=by
 cases x <;> cases y <;> rfl
theorem ZyM (x y:Int):ZzU x y=x-y:=by
 cases x with
 |ofNat m=>cases y with
  |ofNat n =>
   show Yt (zK n m) (zJ (Nat.sub m n)) _=_
   cases h:zK n m with
   |false=>rfl
   |true =>
    have:=zC h;show zJ (m-n)=_;simp only[zI];omega
  |negSucc n=>rfl
 |negSucc m=>rfl
theorem Zyy {a b:AV}{f g:IntKind->Int->Int->Option AV}(h:∀ k x y,f k x y=g k x y):Gr (Ei a b f) (match a,b with|.int k x,.int w y=>if k=w then g k x y else none|_,_=>none):=by
 intro r j;unfold Ei at j;split at j
 ·rename_i k x w y;obtain⟨u,z⟩:=YK j;rw[ZzR]at u;subst u;simp only[if_true];rw[<-h];exact z
 ·cases j
theorem ZzG (op:BinOp)(a b:AV):Gr (fib op a b) (Z5 op a b):=by
 have key:∀ (op:BinOp) (f:IntKind->Int->Int->Option AV),op≠.shl->op≠.shr->(∀ k x y,f k x y=Xz op k x y)->Gr (Ei a b f) (Z5 op a b):=by
  intro op f g j u r w;have:=Zyy (a:=a) (b:=b) u r w;rw[<-this];unfold Z5;cases a <;> cases b <;> first|rfl|skip
  cases op <;> first|rfl|(exact absurd rfl g)|(exact absurd rfl j)
 unfold fib;split
 ·exact key _ _ (by decide) (by decide) fun k x y=>by rw[Zfs,ZyK];rfl
 ·exact key _ _ (by decide) (by decide) fun k x y=>by rw[Zfs,ZyM];rfl
 ·exact key _ _ (by decide) (by decide) fun k x y=>by rw[Zt5];rfl
 ·exact key _ _ (by decide) (by decide) fun k x y=>by rw[Zt5];rfl
 ·exact key _ _ (by decide) (by decide) fun k x y=>by rw[Zt7];rfl
 ·exact key _ _ (by decide) (by decide) fun k x y=>by rw[Zt6];rfl
 ·exact key _ _ (by decide) (by decide) fun k x y=>by rw[Zt7];rfl
 ·exact key _ _ (by decide) (by decide) fun k x y=>by rw[Zt6];rfl
 ·exact le_refl _
theorem ZsC:∀ (a b:List UInt8),eqS a b=(a==b):=by
 intro a
 induction a with
 |nil=>intro b;cases b <;> rfl
 |cons x a j=>intro b;cases b with
  |nil=>rfl
  |cons y b =>
   show Yt (eqU x y) (eqS a b) false=_;rw[j]
   cases h:eqU x y with
   |true =>
    have:x=y:=UInt8.toNat_inj.1 (zA h);subst this;show (a==b)=_;rw[zM];simp
   |false =>
    have:x≠y:=fun e=>by
     subst e;unfold eqU at h;rw[Nat.beq_refl]at h;cases h
    show false=_;symm;rw[beq_eq_false_iff_ne];intro e;injection e with g _;exact this g
theorem ZzJ (op:BinOp)(x y:AV):Gr (fsb op x y) (Xe op x y):=by
 intro r g;unfold fsb at g;split at g
 ·rename_i a b;obtain⟨u,j⟩:=YK g;rw[zB,TQ,TQ]at u;rw[JQ]at j;rw[Pf (by omega)];exact j
 ·rw[ZsC]at g;exact g
 ·rw[ZsC]at g;exact g
 ·exact g
theorem El (g:Bool)(sz:Nat)(cells:List AV)(off:Nat):Cx g sz cells off=apart g sz cells off:=by
 unfold Cx apart
 cases g with
 |false=>exact JX _ _
 |true =>
  simp only[if_true];show Yt (NG cells (off+sz)) _ none=_
  cases h:NG cells (off+sz) with
  |true =>
   rw[Lg]at h;rw[if_pos h,E5,OQ]
  |false =>
   rw[if_neg (fun j=>by rw[<-Lg]at j;rw[h]at j;cases j)]
theorem Zlz (g:Bool)(sz:Nat)(a:AV)(H:Hp):Gr (ZdD g sz a H) (Z3 g sz a H):=by
 intro r j;unfold ZdD at j;split at j
 ·rename_i o off;rw[JX]at j;unfold Z3;dsimp only;split at j
  ·rename_i l u;rw[u];rw[El]at j;exact j
  ·cases j
 ·rw[El]at j;exact j
 ·rename_i o e off;rw[JX]at j;unfold Z3;dsimp only;split at j
  ·rename_i z l u;rw[u];obtain⟨y,w⟩:=YK j;rw[El]at w;dsimp only;rw[if_pos (zA y)];exact w
  ·cases j
 ·cases j
theorem ZiQ {v:AV}{sz:Nat}{l:List AV}{off:Nat}(h:ZiP v sz l off=true):v.known=true/\v.cells.length=sz/\off+sz<=l.length:=by
 unfold ZiP at h;rw[zB,zB,ZlN,Lg]at h;exact h
theorem Zjr (sz:Nat)(a v:AV)(H:Hp):Gr (AQ sz a v H) (Ze sz a v H):=by
 intro r g;unfold AQ at g;split at g
 ·rename_i o off;rw[JX]at g;split at g
  ·rename_i l w;obtain⟨j,u⟩:=YK g;have j:=ZiQ j;rw[Ie,ZiX]at u;simp only[Ze,YM,w];rw[if_pos j];exact u
  ·cases g
 ·rename_i o e off;rw[JX]at g;split at g
  ·rename_i z l w;obtain⟨j,u⟩:=YK g;rw[zB]at j;have y:=ZiQ j.2;rw[Ie,ZiX]at u;simp only[Ze,YM,w];rw[if_pos ⟨zA j.1,y⟩];exact u
  ·cases g
 ·cases g
theorem LU {a b:Nat}(h:zH a b=true):a<b:=zC (by rw[zH]at h;exact h)
theorem ZlO {α:Type}{l:List α}{i:Int}{f:α->AV}{r:AV}(h:ixR l i f=some r):0<=i/\∃ e,l[i.toNat]?=some e/\r=f e:=by
 cases i with
 |ofNat m =>
  have h:@Option.rec α (fun _=>Option AV) none (fun e=>some (f e)) (DT l m)=some r:=h;rw[JX]at h;refine⟨zD m,?_⟩;show ∃ e,l[m]?=some e/\r=f e
  cases g:l[m]? with
  |none=>rw[g]at h;cases h
  |some e=>rw[g]at h;injection h with h;exact⟨e,rfl,h.symm⟩
 |negSucc m=>cases h
theorem CR {i:Int}{f:Nat->Option AV}{r:AV}(h:Zm2 i f=some r):0<=i/\i=(i.toNat:Int)/\f i.toNat=some r:=by
 cases i with
 |ofNat m=>exact⟨zD m,rfl,h⟩
 |negSucc m=>cases h
theorem ZsR (size:Nat)(x i:AV):Gr (Zh7 size x i) (Zp size x i):=by
 intro r g;unfold Zh7 at g;split at g
 ·obtain⟨y,z⟩:=YK g;obtain⟨j,e,u,w⟩:=ZlO z;simp only[Zp];rw[if_pos ⟨zA y,j⟩,u,w]
 ·obtain⟨y,z,j⟩:=CR g;obtain⟨u,w⟩:=YK j;have:=LU u;simp only[Zp];rw[if_pos (by omega)];exact w
 ·obtain⟨y,z,j⟩:=CR g;obtain⟨u,w⟩:=YK j;have:=LU u;simp only[Zp];rw[if_pos (by omega)];exact w
 ·cases g
theorem Zjk (off:Nat)(a:AV):Gr (ZcI off a) (Z6 off a):=by
 intro r g;unfold ZcI at g;split at g
 ·exact g
 ·exact g
 ·obtain⟨j,u⟩:=YK g;rw[Lg]at j;rw[E5]at u;simp only[Z6];rw[if_pos j];exact u
 ·cases g
theorem Zq8 (len size:Nat)(x i:AV):Gr (ZdA len size x i) (G9 len size x i):=by
 intro r g;unfold ZdA at g;split at g
 ·obtain⟨y,z,j⟩:=CR g;obtain⟨u,w⟩:=YK j;have:=LU u;simp only[G9];rw[if_pos (by omega)];exact Zjk _ _ _ w
 ·cases g
theorem Zq9 (g:Bool)(len size:Nat)(x i:AV):Gr (ZdB g len size x i) (PM g len size x i):=by
 intro r j;unfold ZdB at j;split at j
 ·obtain⟨z,A,w⟩:=CR j;obtain⟨y,u⟩:=YK w;have:=LU y;simp only[PM];rw[if_pos (by omega)];rw[El]at u;exact u
 ·cases j
theorem Zly (x i:AV):Gr (Cv x i) (Zz x i):=by
 intro r g;unfold Cv at g;split at g
 ·obtain⟨j,e,u,w⟩:=ZlO g;simp only[Zz];rw[if_pos j,u,w];rfl
 ·cases g
theorem ZvY {g:AL}{C:Cfg}{n:Nat}:∀ (l:List (Nat×Nat×Operand)) (c:List AV),Gr (Zkw g (l.map fun p=>(p.1,p.2.1,cA C n p.2.2)) c) (Xj (l.map fun p=>(p.1,p.2.1,YA C n g p.2.2)) c):=by
 intro l
 induction l with
 |nil=>intro c;exact le_refl _
 |cons p l y =>
  intro c r j;have j:Yt (ZiP ((cA C n p.2.2).get g) p.2.1 c p.1) (Zkw g (l.map fun p=>(p.1,p.2.1,cA C n p.2.2)) (ZfV c ((cA C n p.2.2).get g).cells p.1)) none=some r:=j;rw[ZK,ZiX]at j;obtain⟨u,w⟩:=YK j;have u:=ZiQ u;simp only[zS,Xj];rw[if_pos u];exact y _ _ w
theorem Zw7 {g:AL}{C:Cfg}{n size:Nat}:∀ (l:List (Nat×Operand)) (c:List AV),Gr (Zkx g size (l.map fun p=>(p.1,cA C n p.2)) c) (ZE size (l.map fun p=>(p.1,YA C n g p.2)) c):=by
 intro l
 induction l with
 |nil=>intro c;exact le_refl _
 |cons p l y =>
  intro c r u;have u:Yt (((cA C n p.2).get g).known&&(isR ((cA C n p.2).get g).cells size&&NG c (p.1+1))) (Zkx g size (l.map fun p=>(p.1,cA C n p.2)) (A0 c ((cA C n p.2).get g) p.1)) none=some r:=u;rw[ZK,Ie]at u;obtain⟨j,w⟩:=YK u;rw[zB,zB,ZlN,Lg]at j;simp only[zS,ZE];rw[if_pos ⟨j.1,j.2.1,j.2.2⟩];exact y _ _ w
theorem ZsJ (x:AV)(y:Nat):ZcH x y=YX x y:=by
 unfold ZcH YX
 cases x with
 |int k n =>
  dsimp only
  cases n with
  |ofNat m =>
   show Yt (zK m y) (some m) none=_
   cases h:zK m y with
   |true =>
    have:=zC h;rw[if_pos ⟨zD m,zO.2 this⟩];rfl
   |false =>
    rw[if_neg];intro ⟨_,g⟩;have:=zN (zO.1 g);rw[h]at this;cases this
  |negSucc m =>
   show none=_;rw[if_neg];intro ⟨h,_⟩;have:=zE m;omega
 |_=>rfl
theorem Zh1 (len cap:Nat)(lo hi mx:Option AV):AP len cap lo hi mx=Yx len cap lo hi mx:=by
 delta AP Yx
 simp only[ZsJ];rfl
theorem Zqj (x:AV)(lo hi mx:Option AV):ZiF x lo hi mx=Yk x lo hi mx:=by
 cases x with
 |str s =>
  cases mx with
  |none =>
   show (match AP (WT s) (WT s) lo hi none with
    |some (l,h,_)=>some (AV.str (Px (H9 s h) l))
    |none=>none)=UK s lo hi
   unfold UK;rw[JV,Zh1]
   cases Yx s.length s.length lo hi none with
   |none=>rfl
   |some p=>obtain⟨l,h,m⟩:=p;dsimp only;rw[OQ,E5]
  |some _=>rfl
 |_=>rfl
theorem Zqk (size:Nat)(x:AV)(lo hi mx:Option AV):Gr (ZdF size x lo hi mx) (Yo size x lo hi mx):=by
 intro r g;unfold ZdF at g;split at g
 ·rename_i k tok l;obtain⟨w,j⟩:=YK g
  have z:∀ (a b:Nat) (x y:Tok),(if a=b then x else y)=Yt (zG a b) x y:=by
   intro a b x y
   cases u:zG a b with
   |true=>rw[if_pos (zA u)]
   |false=>rw[if_neg (zL u)]
  simp only[Yo];rw[if_pos (zA w)];simp only[JV,Zh1,OQ,E5]at j;simp only[z];exact j
 ·exact g
theorem Zjj (k:Nat)(x:AV)(H:Hp):Gr (Zh2 k x H) (elems k x H):=by
 intro r g;unfold Zh2 at g;split at g
 ·exact g
 ·obtain⟨j,u⟩:=YK g;simp only[elems];rw[if_pos (zA j)];exact u
 ·exact g
theorem ZfU {bytes:Nat}{l m:List AV}(h:ZhQ bytes l m=true):YS (l.length+m.length) bytes=true:=by
 unfold ZhQ at h;rw[zB,zB,TQ,TQ]at h;have g:=zC h.1;unfold YS;rw[decide_eq_true_eq];have:(l.length+m.length)*(bytes+1)<=2000000*1000001:=zR (by omega) (by omega);omega
theorem L6 {α:Type}{l:List α}(h:NP l=false):¬ l=[]:=fun g=>by rw[<-I9]at g;rw[h]at g;cases g
theorem Zq0 (k bytes:Nat)(s:AV)(xs:List AV)(H:Hp):Gr (ZiB k bytes s xs H) (Yw k bytes s xs H):=by
 intro r u;unfold ZiB at u;split at u
 ·simp only[Yw]
  cases j:NP xs with
  |true=>rw[j]at u;rw[if_pos (I9 _ |>.1 j)];exact u
  |false =>
   rw[j]at u;rw[if_neg (L6 j)];obtain⟨w,g⟩:=YK u;have:=ZfU w;simp only[zQ,zU]at this;rw[if_pos this];simp only[JV,JQ]at g;exact g
 ·rename_i D tok l;obtain⟨w,g⟩:=YK u;rw[zB]at w;simp only[Yw];rw[if_pos ⟨zA w.1,ZfU w.2⟩]
  cases j:NP xs with
  |true=>rw[j]at g;rw[if_pos (I9 _ |>.1 j)];exact g
  |false =>
   rw[j]at g;rw[if_neg (L6 j)];rw[ZB1]at g;simp only[JV,JQ,JX,Ie]at g
   cases tok with
   |no=>cases g
   |clip=>exact g
   |own t e =>
    dsimp only at g ⊢;split at g
    ·rename_i B A;rw[A];obtain⟨y,z⟩:=YK g;dsimp only;rw[if_pos (zA y)];exact z
    ·cases g
 ·cases u
theorem ZvV (k bytes:Nat)(s x:AV)(H:Hp):Gr (Zku k bytes s x H) (Ym k bytes s x H):=by
 intro r g;unfold Zku at g;split at g
 ·rename_i xs j;unfold Ym;rw[Zjj _ _ _ _ j];exact Zq0 _ _ _ _ _ _ g
 ·cases g
theorem Zja (l:List AV):Zcb l=(l.map AV.cells).flatten:=by
 induction l with
 |nil=>rfl
 |cons a l g=>show J5 a.cells (Zcb l)=_;rw[JQ,g];simp
theorem Zyx (n:Nat)(l:List AV):Zq2 n l=Ziv n l:=by
 unfold Zq2 Ziv
 cases h:HR l n with
 |true=>rw[TQ]at h;rw[if_pos h]
 |false=>rw[if_neg (fun g=>by rw[<-TQ]at g;rw[h]at g;cases g)];exact OQ _ _
theorem ZvW (ag:Bool)(k bytes:Nat)(s:AV)(xs:List AV)(H:Hp):Gr (ZpZ ag k bytes s xs H) (Qk ag k bytes s xs H):=by
 intro r u;unfold ZpZ at u;split at u
 ·simp only[Qk]
  cases j:NP xs with
  |true=>rw[j]at u;rw[if_pos (I9 _ |>.1 j)];exact u
  |false =>
   rw[j]at u;rw[if_neg (L6 j)];obtain⟨y,g⟩:=YK u;have:=ZfU y;simp only[zQ,zU]at this;rw[if_pos this];simp only[JV,JQ,Zja]at g;exact g
 ·rename_i w M o e len;obtain⟨y,g⟩:=YK u;simp only[zB,TQ]at y;obtain⟨z,F,D,E,L⟩:=y;have z:w=ag:=by cases ag <;> cases w <;> first|rfl|cases z
  have D:=zC D;have E:=zC E
  have K:YS (len+xs.length) bytes=true:=by
   unfold YS;rw[decide_eq_true_eq];have:(len+xs.length)*(bytes+1)<=2000000*1000001:=zR (by omega) (by omega);omega
  simp only[Qk];rw[if_pos ⟨z,zA F,K⟩]
  cases j:NP xs with
  |true=>rw[j]at g;rw[if_pos (I9 _ |>.1 j)];exact g
  |false =>
   rw[j]at g;rw[if_neg (L6 j)]
   have g:(match DT H o with
    |some (.row B l)=>Yt (zG B e&&NG l (Nat.mul len k)) (some (AV.ws ag k o (zP e) (Nat.add len (WT xs)),A0 H (.row (zP e) (J5 (Zq2 (Nat.mul len k) l) (Zcb xs))) o)) none
    |_=>none)=some r:=g
   simp only[JV,JQ,JX,Ie,Zja,Zyx]at g;split at g
   ·rename_i B l J;rw[J];obtain⟨A,I⟩:=YK g;rw[zB,Lg]at A;dsimp only;rw[if_pos ⟨zA A.1,A.2⟩];exact I
   ·cases g
 ·exact u
theorem ZsH (ag:Bool)(k bytes:Nat)(s x:AV)(H:Hp):Gr (Zh0 ag k bytes s x H) (QE ag k bytes s x H):=by
 intro r g;unfold Zh0 at g;split at g
 ·rename_i xs j;unfold QE;rw[Zjj _ _ _ _ j];exact ZvW _ _ _ _ _ _ _ g
 ·cases g
theorem ZyA (d:TypeDesc)(x:AV):Zqd d x=Zl d x:=by
 unfold Zqd;split
 ·split
  ·rw[JV];rfl
  ·rename_i h;cases x <;> first|rfl|(exact absurd rfl (h _))
 ·split
  ·rfl
  ·rw[JV];rfl
  ·rfl
  ·rfl
  ·rename_i g j u w;cases x <;> first|rfl|(exact absurd rfl g)|(exact absurd rfl (j _ _ _))|(exact absurd rfl (u _ _ _ _ _ _))|(exact absurd rfl (w _ _ _ _ _))
 ·rfl
theorem ZvX (x:AV)(k:IntKind):Zkv x k=Wh k x:=by
 unfold Zkv Wh
 cases x with
 |int k n=>dsimp only;rw[Zfs]
 |_=>rfl
theorem Zoe (x:AV)(H:Hp):Gr (Zlv x H) (ZN x H):=by
 intro r u;obtain⟨j,g⟩:=YK u;unfold ZN;rw[if_pos j];rw[JV,JQ]at g;exact g
end Go.Am
