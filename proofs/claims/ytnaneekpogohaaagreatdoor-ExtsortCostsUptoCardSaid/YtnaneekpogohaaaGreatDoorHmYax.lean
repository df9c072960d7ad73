/-
  THE ABSTRACT MACHINE, part Ya: what the kernel's evaluator works out is what the machine does.
-/
import Derived.Test.YtnaneekpogohaaaGreatDoorHmYx
import Derived.Test.YtnaneekpogohaaaGreatDoorHmWx
namespace Go.Am
set_option linter.unusedVariables false
set_option linter.unusedSimpArgs false

section
variable {α:Type}
theorem nthR_eq:∀ (l:List α) (i:Nat),nthR l i=l[i]?:=by
 intro l
 induction l with
 | nil=>intro i;rfl
 | cons a l ih=>intro i;cases i with
  | zero=>rfl
  | succ i=>exact ih i
theorem hasR_eq:∀ (l:List α) (i:Nat),hasR l i=true ↔ i≤l.length:=by
 intro l
 induction l with
 | nil=>intro i;simp [hasR]
 | cons a l ih=>intro i;cases i with
  | zero=>show true=true ↔ _;simp
  | succ i =>
   have:=ih i
   show hasR l i=true ↔ _
   rw [this];simp
theorem fewR_eq:∀ (l:List α) (i:Nat),fewR l i=true ↔ l.length≤i:=by
 intro l
 induction l with
 | nil=>intro i;simp [fewR]
 | cons a l ih=>intro i;cases i with
  | zero=>show false=true ↔ _;simp
  | succ i =>
   show fewR l i=true ↔ _
   rw [ih i];simp
theorem isR_eq:∀ (l:List α) (i:Nat),isR l i=true ↔ l.length=i:=by
 intro l
 induction l with
 | nil=>intro i;simp [isR];exact eq_comm
 | cons a l ih=>intro i;cases i with
  | zero=>show false=true ↔ _;simp
  | succ i =>
   show isR l i=true ↔ _
   rw [ih i];simp
theorem lenR_eq (l:List α):lenR l=l.length:=by
 have key:∀ (l:List α) (n:Nat),@List.rec α (fun _=>Nat→Nat) (fun n=>n) (fun _ _ ih n=>ih (Nat.succ n)) l n=l.length+n:=by
  intro l
  induction l with
  | nil=>intro n;simp
  | cons a l ih=>intro n;rw [List.length_cons];have:=ih (Nat.succ n);dsimp only at this ⊢;rw [this];omega
 exact key l 0
theorem appR_eq (l m:List α):appR l m=l++m:=by
 induction l with
 | nil=>rfl
 | cons a l ih=>show a :: appR l m=_;rw [ih];rfl
theorem takeR_eq:∀ (l:List α) (i:Nat),takeR l i=l.take i:=by
 intro l
 induction l with
 | nil=>intro i;simp [takeR]
 | cons a l ih=>intro i;cases i with
  | zero=>rfl
  | succ i=>show a :: takeR l i=_;rw [ih];rfl
theorem dropR_eq:∀ (l:List α) (i:Nat),dropR l i=l.drop i:=by
 intro l
 induction l with
 | nil=>intro i;simp [dropR]
 | cons a l ih=>intro i;cases i with
  | zero=>rfl
  | succ i=>show dropR l i=_;rw [ih];rfl
theorem setR_eq (x:α):∀ (l:List α) (i:Nat),setR l x i=l.set i x:=by
 intro l
 induction l with
 | nil=>intro i;simp [setR]
 | cons a l ih=>intro i;cases i with
  | zero=>rfl
  | succ i=>show a :: setR l x i=_;rw [ih];rfl
theorem nilR_eq (l:List α):nilR l=true ↔ l=[]:=by cases l <;> simp [nilR]
end
theorem splR_eq (cs:List AV):∀ (l:List AV) (i:Nat),splR l cs i=splice l i cs:=by
 intro l
 induction l with
 | nil=>intro i;simp [splR,splice]
 | cons a l ih=>intro i;cases i with
  | zero=>show appR cs (dropR (a :: l) (lenR cs))=_;rw [appR_eq,dropR_eq,lenR_eq];simp [splice]
  | succ i =>
   show a :: splR l cs i=_
   rw [ih]
   simp [splice,Nat.add_right_comm]
theorem bR_f {α:Type} (x y:α):bR' false x y=y:=rfl
theorem bR_some {α:Type} {c:Bool} {x:Option α} {r:α} (h:bR' c x none=some r):c=true∧x=some r:=by
 cases c with
 | true=>exact ⟨rfl,h⟩
 | false=>cases h

theorem lookB_eq (al:AL) (t:Nat):lookB al t=.mk (look al t):=by
 induction al with
 | nil=>rfl
 | cons p al ih =>
  obtain ⟨i,v⟩:=p
  show bR' (Nat.beq i t) (.mk v) (lookB al t)=_
  rw [ih]
  show _=Bx.mk (bif Nat.beq i t then v else look al t)
  cases Nat.beq i t <;> rfl
theorem lookR_eq (al:AL) (t:Nat):lookR al t=look al t:=by unfold lookR;rw [lookB_eq]
section
variable {C:Cfg} {n:Nat}
theorem cA_get (x:Operand) (al:AL):(cA C n x).get al=evalL C n al x:=by
 unfold cA
 cases x with
 | tmp t =>
  show FA.get (bR' (Nat.blt t n) (.slot t) (.val (.tuple []))) al=getL n al t
  unfold getL
  cases Nat.blt t n with
  | true=>exact lookR_eq al t
  | false=>rfl
 | _=>rfl
theorem cAs_get (l:List Operand) (al:AL):getA (cAs C n l) al=l.map (evalL C n al):=by
 induction l with
 | nil=>rfl
 | cons x l ih=>show (cA C n x).get al :: getA (cAs C n l) al=_;rw [cA_get,ih];rfl
theorem getO_get (x:Option Operand) (al:AL):getO (x.map (cA C n)) al=x.map (evalL C n al):=by
 cases x with
 | none=>rfl
 | some x=>show some ((cA C n x).get al)=_;rw [cA_get];rfl
theorem cG_run {α:Type} (ops:Array Oper) (o:Oper) (al:AL) (els:α) (x:Option α):(cG n ops o).run al els x=gvalL n ops al o els x:=by
 unfold cG gvalL
 cases o.guard with
 | none=>rfl
 | some p =>
  obtain ⟨j,want⟩:=p
  dsimp only
  cases ops[j]? with
  | none=>rfl
  | some g =>
   dsimp only
   cases g.dst with
   | none=>rfl
   | some d =>
    dsimp only
    cases Nat.blt d n with
    | true=>show gdv (lookR al d) want els x=_;rw [lookR_eq];rfl
    | false=>rfl
theorem gvalL_gr {α:Type} {ops:Array Oper} {al:AL} {o:Oper} {els:α} {x y:Option α} (h:Gr x y):Gr (gvalL n ops al o els x) (gvalL n ops al o els y):=by
 unfold gvalL
 cases o.guard with
 | none=>exact h
 | some p =>
  obtain ⟨j,want⟩:=p
  dsimp only
  split
  ·exact le_refl _
  ·rename_i d hd
   cases Nat.blt d n with
   | true=>exact gdv_le h
   | false=>exact le_refl _
end

theorem ikN_eq {k k':IntKind}:Nat.beq (ikN k) (ikN k')=true ↔ k=k':=by cases k <;> cases k' <;> decide
theorem fwrap_eq (k:IntKind) (z:Int):fwrap k z=k.wrap z:=by
 cases z with
 | negSucc m=>rfl
 | ofNat m =>
  show bR' (Nat.blt m (ikMax k)) (.ofNat m) (k.wrap (.ofNat m))=_
  cases h:Nat.blt m (ikMax k) with
  | false=>rfl
  | true =>
   have h1:m+1≤ikMax k:=Nat.le_of_ble_eq_true (by rw [Nat.blt] at h;exact h)
   show (Int.ofNat m)=_
   unfold IntKind.wrap
   cases k <;> simp only [IntKind.bits,IntKind.signed,ikMax,Int.ofNat_eq_natCast] at h1 ⊢ <;> (simp <;> omega)
theorem ilt_eq (x y:Int):ilt x y=decide (x < y):=by
 cases x with
 | ofNat m=>cases y with
  | ofNat n =>
   show Nat.blt m n=_
   by_cases h:m < n
   ·rw [blt_true h];symm;rw [decide_eq_true_eq];exact Int.ofNat_lt.2 h
   ·rw [blt_false h];symm;rw [decide_eq_false_iff_not];intro h';exact h (Int.ofNat_lt.1 h')
  | negSucc n=>show false=_;symm;rw [decide_eq_false_iff_not];intro h;have:=Int.negSucc_lt_zero n;have h2:(0:Int)≤Int.ofNat m:=Int.natCast_nonneg m;omega
 | negSucc m=>cases y with
  | ofNat n=>show true=_;symm;rw [decide_eq_true_eq];have:=Int.negSucc_lt_zero m;have h2:(0:Int)≤Int.ofNat n:=Int.natCast_nonneg n;omega
  | negSucc n =>
   show Nat.blt n m=_
   by_cases h:n < m
   ·rw [blt_true h];symm;rw [decide_eq_true_eq];rw [Int.negSucc_eq,Int.negSucc_eq];omega
   ·rw [blt_false h];symm;rw [decide_eq_false_iff_not];rw [Int.negSucc_eq,Int.negSucc_eq];omega
theorem ile_eq (x y:Int):ile x y=decide (x≤y):=by
 have hb:∀ a b:Nat,Nat.ble a b=decide (a≤b):=by
  intro a b
  by_cases h:a≤b
  ·rw [Nat.ble_eq_true_of_le h];simp [h]
  ·have : Nat.ble a b = false := by
      cases hc:Nat.ble a b with
      | false=>rfl
      | true=>exact absurd (Nat.le_of_ble_eq_true hc) h
   rw [this];simp [h]
 cases x with
 | ofNat m=>cases y with
  | ofNat n=>show Nat.ble m n=_;rw [hb];simp only [Int.ofNat_eq_natCast,Int.ofNat_le]
  | negSucc n=>show false=_;symm;rw [decide_eq_false_iff_not];intro h;have:=Int.negSucc_lt_zero n;have h2:(0:Int)≤Int.ofNat m:=Int.natCast_nonneg m;omega
 | negSucc m=>cases y with
  | ofNat n=>show true=_;symm;rw [decide_eq_true_eq];have:=Int.negSucc_lt_zero m;have h2:(0:Int)≤Int.ofNat n:=Int.natCast_nonneg n;omega
  | negSucc n=>show Nat.ble n m=_;rw [hb];rw [Int.negSucc_eq,Int.negSucc_eq];simp
theorem ieq_eq (x y:Int):ieq x y=(x == y):=by
 have hb:∀ a b:Nat,Nat.beq a b=decide (a=b):=by
  intro a b
  cases h:Nat.beq a b with
  | true=>symm;rw [decide_eq_true_eq];exact Nat.eq_of_beq_eq_true h
  | false=>symm;rw [decide_eq_false_iff_not];exact Nat.ne_of_beq_eq_false h
 cases x with
 | ofNat m=>cases y with
  | ofNat n=>show Nat.beq m n=_;rw [hb];rw [Bool.eq_iff_iff];simp;omega
  | negSucc n=>rfl
 | negSucc m=>cases y with
  | ofNat n=>rfl
  | negSucc n=>show Nat.beq n m=_;rw [hb,Bool.eq_iff_iff];simp;exact eq_comm
theorem iadd_eq (x y:Int):iadd x y=x+y:=by
 cases x <;> cases y <;> rfl
theorem isub_eq (x y:Int):isub x y=x - y:=by
 cases x with
 | ofNat m=>cases y with
  | ofNat n =>
   show bR' (Nat.ble n m) (Int.ofNat (Nat.sub m n)) _=_
   cases h:Nat.ble n m with
   | false=>rfl
   | true =>
    have:=Nat.le_of_ble_eq_true h
    show Int.ofNat (m - n)=_
    simp only [Int.ofNat_eq_natCast]
    omega
  | negSucc n=>rfl
 | negSucc m=>rfl
theorem fint_gr {a b:AV} {f g:IntKind→Int→Int→Option AV} (h:∀ k x y,f k x y=g k x y):Gr (fint a b f) (match a,b with | .int k x,.int k' y=>if k=k' then g k x y else none | _,_=>none):=by
 intro r hr
 unfold fint at hr
 split at hr
 ·rename_i k x k' y
  obtain ⟨h1,h2⟩:=bR_some hr
  rw [ikN_eq] at h1
  subst h1
  simp only [if_true]
  rw [← h];exact h2
 ·cases hr
theorem fib_gr (op:BinOp) (a b:AV):Gr (fib op a b) (ibin op a b):=by
 have key:∀ (op:BinOp) (f:IntKind→Int→Int→Option AV),op ≠ .shl→op ≠ .shr→(∀ k x y,f k x y=intbin op k x y)→Gr (fint a b f) (ibin op a b):=by
  intro op f h1 h2 h3 r hr
  have:=fint_gr (a:=a) (b:=b) h3 r hr
  rw [← this]
  unfold ibin
  cases a <;> cases b <;> first | rfl | skip
  cases op <;> first | rfl | (exact absurd rfl h1) | (exact absurd rfl h2)
 unfold fib
 split
 ·exact key _ _ (by decide) (by decide) fun k x y=>by rw [fwrap_eq,iadd_eq];rfl
 ·exact key _ _ (by decide) (by decide) fun k x y=>by rw [fwrap_eq,isub_eq];rfl
 ·exact key _ _ (by decide) (by decide) fun k x y=>by rw [ieq_eq];rfl
 ·exact key _ _ (by decide) (by decide) fun k x y=>by rw [ieq_eq];rfl
 ·exact key _ _ (by decide) (by decide) fun k x y=>by rw [ilt_eq];rfl
 ·exact key _ _ (by decide) (by decide) fun k x y=>by rw [ile_eq];rfl
 ·exact key _ _ (by decide) (by decide) fun k x y=>by rw [ilt_eq];rfl
 ·exact key _ _ (by decide) (by decide) fun k x y=>by rw [ile_eq];rfl
 ·exact le_refl _
theorem eqS_eq:∀ (a b:List UInt8),eqS a b=(a == b):=by
 intro a
 induction a with
 | nil=>intro b;cases b <;> rfl
 | cons x a ih=>intro b;cases b with
  | nil=>rfl
  | cons y b =>
   show bR' (eqU x y) (eqS a b) false=_
   rw [ih]
   cases h:eqU x y with
   | true =>
    have:x=y:=UInt8.toNat_inj.1 (Nat.eq_of_beq_eq_true h)
    subst this
    show (a == b)=_
    rw [Bool.eq_iff_iff];simp
   | false =>
    have:x ≠ y:=fun e=>by
     subst e
     unfold eqU at h
     rw [Nat.beq_refl] at h
     cases h
    show false=_
    symm
    rw [beq_eq_false_iff_ne]
    intro e
    injection e with e1 _
    exact this e1
theorem fsb_gr (op:BinOp) (x y:AV):Gr (fsb op x y) (sbin op x y):=by
 intro r hr
 unfold fsb at hr
 split at hr
 ·rename_i a b
  obtain ⟨h1,h2⟩:=bR_some hr
  rw [Bool.and_eq_true,fewR_eq,fewR_eq] at h1
  rw [appR_eq] at h2
  rw [sbin_add (by omega)];exact h2
 ·rw [eqS_eq] at hr;exact hr
 ·rw [eqS_eq] at hr;exact hr
 ·exact hr

theorem fpart_eq (g:Bool) (sz:Nat) (cells:List AV) (off:Nat):fpart g sz cells off=apart g sz cells off:=by
 unfold fpart apart
 cases g with
 | false=>exact nthR_eq _ _
 | true =>
  simp only [if_true]
  show bR' (hasR cells (off+sz)) _ none=_
  cases h:hasR cells (off+sz) with
  | true =>
   rw [hasR_eq] at h
   rw [if_pos h,dropR_eq,takeR_eq]
  | false =>
   rw [if_neg (fun h'=>by rw [← hasR_eq] at h';rw [h] at h';cases h')]
theorem fload_gr (g:Bool) (sz:Nat) (a:AV) (H:Hp):Gr (fload g sz a H) (aload g sz a H):=by
 intro r hr
 unfold fload at hr
 split at hr
 ·rename_i o off
  rw [nthR_eq] at hr
  unfold aload
  dsimp only
  split at hr
  ·rename_i l hl
   rw [hl]
   rw [fpart_eq] at hr
   exact hr
  ·cases hr
 ·rw [fpart_eq] at hr;exact hr
 ·rename_i o e off
  rw [nthR_eq] at hr
  unfold aload
  dsimp only
  split at hr
  ·rename_i e' l hl
   rw [hl]
   obtain ⟨h1,h2⟩:=bR_some hr
   rw [fpart_eq] at h2
   dsimp only
   rw [if_pos (Nat.eq_of_beq_eq_true h1)]
   exact h2
  ·cases hr
 ·cases hr
theorem okSt_eq {v:AV} {sz:Nat} {l:List AV} {off:Nat} (h:okSt v sz l off=true):v.known=true∧v.cells.length=sz∧off+sz≤l.length:=by
 unfold okSt at h
 rw [Bool.and_eq_true,Bool.and_eq_true,isR_eq,hasR_eq] at h
 exact h
theorem fstore_gr (sz:Nat) (a v:AV) (H:Hp):Gr (fstore sz a v H) (astoreU sz a v H):=by
 intro r hr
 unfold fstore at hr
 split at hr
 ·rename_i o off
  rw [nthR_eq] at hr
  split at hr
  ·rename_i l hl
   obtain ⟨h1,h2⟩:=bR_some hr
   have h1:=okSt_eq h1
   rw [setR_eq,splR_eq] at h2
   simp only [astoreU,astore,hl]
   rw [if_pos h1]
   exact h2
  ·cases hr
 ·rename_i o e off
  rw [nthR_eq] at hr
  split at hr
  ·rename_i e' l hl
   obtain ⟨h1,h2⟩:=bR_some hr
   rw [Bool.and_eq_true] at h1
   have h3:=okSt_eq h1.2
   rw [setR_eq,splR_eq] at h2
   simp only [astoreU,astore,hl]
   rw [if_pos ⟨Nat.eq_of_beq_eq_true h1.1,h3⟩]
   exact h2
  ·cases hr
 ·cases hr
theorem blt_lt {a b:Nat} (h:Nat.blt a b=true):a < b:=Nat.le_of_ble_eq_true (by rw [Nat.blt] at h;exact h)
theorem ixR_some {α:Type} {l:List α} {i:Int} {f:α→AV} {r:AV} (h:ixR l i f=some r):0≤i∧∃ e,l[i.toNat]?=some e∧r=f e:=by
 cases i with
 | ofNat m =>
  have h:@Option.rec α (fun _=>Option AV) none (fun e=>some (f e)) (nthR l m)=some r:=h
  rw [nthR_eq] at h
  refine ⟨Int.natCast_nonneg m,?_⟩
  show ∃ e,l[m]?=some e∧r=f e
  cases hl:l[m]? with
  | none=>rw [hl] at h;cases h
  | some e=>rw [hl] at h;injection h with h;exact ⟨e,rfl,h.symm⟩
 | negSucc m=>cases h
theorem natI_some {i:Int} {f:Nat→Option AV} {r:AV} (h:natI i f=some r):0≤i∧i=(i.toNat:Int)∧f i.toNat=some r:=by
 cases i with
 | ofNat m=>exact ⟨Int.natCast_nonneg m,rfl,h⟩
 | negSucc m=>cases h
theorem findex_gr (size:Nat) (x i:AV):Gr (findex size x i) (aindexS size x i):=by
 intro r hr
 unfold findex at hr
 split at hr
 ·obtain ⟨h1,h2⟩:=bR_some hr
  obtain ⟨h3,e,h4,h5⟩:=ixR_some h2
  simp only [aindexS]
  rw [if_pos ⟨Nat.eq_of_beq_eq_true h1,h3⟩,h4,h5]
 ·obtain ⟨h1,h2,h3⟩:=natI_some hr
  obtain ⟨h4,h5⟩:=bR_some h3
  have:=blt_lt h4
  simp only [aindexS]
  rw [if_pos (by omega)]
  exact h5
 ·obtain ⟨h1,h2,h3⟩:=natI_some hr
  obtain ⟨h4,h5⟩:=bR_some h3
  have:=blt_lt h4
  simp only [aindexS]
  rw [if_pos (by omega)]
  exact h5
 ·cases hr
theorem ffield_gr (off:Nat) (a:AV):Gr (ffield off a) (afield off a):=by
 intro r hr
 unfold ffield at hr
 split at hr
 ·exact hr
 ·exact hr
 ·obtain ⟨h1,h2⟩:=bR_some hr
  rw [hasR_eq] at h1
  rw [dropR_eq] at h2
  simp only [afield]
  rw [if_pos h1];exact h2
 ·cases hr
theorem findexA_gr (len size:Nat) (x i:AV):Gr (findexA len size x i) (aindexA len size x i):=by
 intro r hr
 unfold findexA at hr
 split at hr
 ·obtain ⟨h1,h2,h3⟩:=natI_some hr
  obtain ⟨h4,h5⟩:=bR_some h3
  have:=blt_lt h4
  simp only [aindexA]
  rw [if_pos (by omega)]
  exact ffield_gr _ _ _ h5
 ·cases hr
theorem findexG_gr (g:Bool) (len size:Nat) (x i:AV):Gr (findexG g len size x i) (aindexAgg g len size x i):=by
 intro r hr
 unfold findexG at hr
 split at hr
 ·obtain ⟨h1,h2,h3⟩:=natI_some hr
  obtain ⟨h4,h5⟩:=bR_some h3
  have:=blt_lt h4
  simp only [aindexAgg]
  rw [if_pos (by omega)]
  rw [fpart_eq] at h5
  exact h5
 ·cases hr
theorem findexStr_gr (x i:AV):Gr (findexStr x i) (aindexStr x i):=by
 intro r hr
 unfold findexStr at hr
 split at hr
 ·obtain ⟨h3,e,h4,h5⟩:=ixR_some hr
  simp only [aindexStr]
  rw [if_pos h3,h4,h5]
  rfl
 ·cases hr
theorem ffill_gr {al:AL} {C:Cfg} {n:Nat}:∀ (l:List (Nat × Nat × Operand)) (c:List AV),Gr (ffill al (l.map fun p=>(p.1,p.2.1,cA C n p.2.2)) c) (afill (l.map fun p=>(p.1,p.2.1,evalL C n al p.2.2)) c):=by
 intro l
 induction l with
 | nil=>intro c;exact le_refl _
 | cons p l ih =>
  intro c r hr
  have hr:bR' (okSt ((cA C n p.2.2).get al) p.2.1 c p.1) (ffill al (l.map fun p=>(p.1,p.2.1,cA C n p.2.2)) (splR c ((cA C n p.2.2).get al).cells p.1)) none=some r:=hr
  rw [cA_get,splR_eq] at hr
  obtain ⟨h1,h2⟩:=bR_some hr
  have h1:=okSt_eq h1
  simp only [List.map_cons,afill]
  rw [if_pos h1]
  exact ih _ _ h2
theorem fsetE_gr {al:AL} {C:Cfg} {n size:Nat}:∀ (l:List (Nat × Operand)) (c:List AV),Gr (fsetE al size (l.map fun p=>(p.1,cA C n p.2)) c) (setElems size (l.map fun p=>(p.1,evalL C n al p.2)) c):=by
 intro l
 induction l with
 | nil=>intro c;exact le_refl _
 | cons p l ih =>
  intro c r hr
  have hr:bR' (((cA C n p.2).get al).known && (isR ((cA C n p.2).get al).cells size && hasR c (p.1+1))) (fsetE al size (l.map fun p=>(p.1,cA C n p.2)) (setR c ((cA C n p.2).get al) p.1)) none=some r:=hr
  rw [cA_get,setR_eq] at hr
  obtain ⟨h1,h2⟩:=bR_some hr
  rw [Bool.and_eq_true,Bool.and_eq_true,isR_eq,hasR_eq] at h1
  simp only [List.map_cons,setElems]
  rw [if_pos ⟨h1.1,h1.2.1,h1.2.2⟩]
  exact ih _ _ h2

theorem fbound_eq (x:AV) (y:Nat):fbound x y=abound x y:=by
 unfold fbound abound
 cases x with
 | int k n =>
  dsimp only
  cases n with
  | ofNat m =>
   show bR' (Nat.ble m y) (some m) none=_
   cases h:Nat.ble m y with
   | true =>
    have:=Nat.le_of_ble_eq_true h
    rw [if_pos ⟨Int.natCast_nonneg m,Int.ofNat_le.2 this⟩];rfl
   | false =>
    rw [if_neg]
    intro ⟨_,h2⟩
    have:=Nat.ble_eq_true_of_le (Int.ofNat_le.1 h2)
    rw [h] at this;cases this
  | negSucc m =>
   show none=_
   rw [if_neg]
   intro ⟨h,_⟩
   have:=Int.negSucc_lt_zero m
   omega
 | _=>rfl
theorem fbounds_eq (len cap:Nat) (lo hi mx:Option AV):fbounds len cap lo hi mx=abounds len cap lo hi mx:=by
 delta fbounds abounds
 simp only [fbound_eq]
 rfl
theorem fsliceS_eq (x:AV) (lo hi mx:Option AV):fsliceS x lo hi mx=asliceS x lo hi mx:=by
 cases x with
 | str s =>
  cases mx with
  | none =>
   show (match fbounds (lenR s) (lenR s) lo hi none with
    | some (l,h,_)=>some (AV.str (dropR (takeR s h) l))
    | none=>none)=asliceStr s lo hi
   unfold asliceStr
   rw [lenR_eq,fbounds_eq]
   cases abounds s.length s.length lo hi none with
   | none=>rfl
   | some p=>obtain ⟨l,h,m⟩:=p;dsimp only;rw [takeR_eq,dropR_eq]
  | some _=>rfl
 | _=>rfl
theorem fsliceV_gr (size:Nat) (x:AV) (lo hi mx:Option AV):Gr (fsliceV size x lo hi mx) (asliceV size x lo hi mx):=by
 intro r hr
 unfold fsliceV at hr
 split at hr
 ·rename_i k tok l
  obtain ⟨h1,h2⟩:=bR_some hr
  have hb:∀ (a b:Nat) (x y:Tok),(if a=b then x else y)=bR' (Nat.beq a b) x y:=by
   intro a b x y
   cases hc:Nat.beq a b with
   | true=>rw [if_pos (Nat.eq_of_beq_eq_true hc)]
   | false=>rw [if_neg (Nat.ne_of_beq_eq_false hc)]
  simp only [asliceV]
  rw [if_pos (Nat.eq_of_beq_eq_true h1)]
  simp only [lenR_eq,fbounds_eq,takeR_eq,dropR_eq] at h2
  simp only [hb]
  exact h2
 ·exact hr
theorem felems_gr (k:Nat) (x:AV) (H:Hp):Gr (felems k x H) (elems k x H):=by
 intro r hr
 unfold felems at hr
 split at hr
 ·exact hr
 ·obtain ⟨h1,h2⟩:=bR_some hr
  simp only [elems]
  rw [if_pos (Nat.eq_of_beq_eq_true h1)];exact h2
 ·exact hr
theorem small_eq {bytes:Nat} {l m:List AV} (h:small bytes l m=true):fits (l.length+m.length) bytes=true:=by
 unfold small at h
 rw [Bool.and_eq_true,Bool.and_eq_true,fewR_eq,fewR_eq] at h
 have h1:=Nat.le_of_ble_eq_true h.1
 unfold fits
 rw [decide_eq_true_eq]
 have:(l.length+m.length) * (bytes+1)≤2000000 * 1000001:=Nat.mul_le_mul (by omega) (by omega)
 omega
theorem nilR_false {α:Type} {l:List α} (h:nilR l=false):¬ l=[]:=fun h'=>by rw [← nilR_eq] at h';rw [h] at h';cases h'
theorem fappend_gr (k bytes:Nat) (s:AV) (xs:List AV) (H:Hp):Gr (fappend k bytes s xs H) (aappend k bytes s xs H):=by
 intro r hr
 unfold fappend at hr
 split at hr
 ·simp only [aappend]
  cases hn:nilR xs with
  | true=>rw [hn] at hr;rw [if_pos (nilR_eq _ |>.1 hn)];exact hr
  | false =>
   rw [hn] at hr
   rw [if_neg (nilR_false hn)]
   obtain ⟨h1,h2⟩:=bR_some hr
   have:=small_eq h1
   simp only [List.length_nil,Nat.zero_add] at this
   rw [if_pos this]
   simp only [lenR_eq,appR_eq] at h2
   exact h2
 ·rename_i k' tok l
  obtain ⟨h1,h2⟩:=bR_some hr
  rw [Bool.and_eq_true] at h1
  simp only [aappend]
  rw [if_pos ⟨Nat.eq_of_beq_eq_true h1.1,small_eq h1.2⟩]
  cases hn:nilR xs with
  | true=>rw [hn] at h2;rw [if_pos (nilR_eq _ |>.1 hn)];exact h2
  | false =>
   rw [hn] at h2
   rw [if_neg (nilR_false hn)]
   rw [bR_f] at h2
   simp only [lenR_eq,appR_eq,nthR_eq,setR_eq] at h2
   cases tok with
   | no=>cases h2
   | clip=>exact h2
   | own t e =>
    dsimp only at h2 ⊢
    split at h2
    ·rename_i e' he
     rw [he]
     obtain ⟨h3,h4⟩:=bR_some h2
     dsimp only
     rw [if_pos (Nat.eq_of_beq_eq_true h3)];exact h4
    ·cases h2
 ·cases hr
theorem fappE_gr (k bytes:Nat) (s x:AV) (H:Hp):Gr (fappE k bytes s x H) (aappE k bytes s x H):=by
 intro r hr
 unfold fappE at hr
 split at hr
 ·rename_i xs hx
  unfold aappE
  rw [felems_gr _ _ _ _ hx]
  exact fappend_gr _ _ _ _ _ _ hr
 ·cases hr
theorem cellsR_eq (l:List AV):cellsR l=(l.map AV.cells).flatten:=by
 induction l with
 | nil=>rfl
 | cons a l ih=>show appR a.cells (cellsR l)=_;rw [appR_eq,ih];simp
theorem fcut_eq (n:Nat) (l:List AV):fcut n l=cutL n l:=by
 unfold fcut cutL
 cases h:fewR l n with
 | true=>rw [fewR_eq] at h;rw [if_pos h]
 | false=>rw [if_neg (fun h'=>by rw [← fewR_eq] at h';rw [h] at h';cases h')];exact takeR_eq _ _
theorem fappL_gr (ag:Bool) (k bytes:Nat) (s:AV) (xs:List AV) (H:Hp):Gr (fappL ag k bytes s xs H) (aappL ag k bytes s xs H):=by
 intro r hr
 unfold fappL at hr
 split at hr
 ·simp only [aappL]
  cases hn:nilR xs with
  | true=>rw [hn] at hr;rw [if_pos (nilR_eq _ |>.1 hn)];exact hr
  | false =>
   rw [hn] at hr
   rw [if_neg (nilR_false hn)]
   obtain ⟨h1,h2⟩:=bR_some hr
   have:=small_eq h1
   simp only [List.length_nil,Nat.zero_add] at this
   rw [if_pos this]
   simp only [lenR_eq,appR_eq,cellsR_eq] at h2
   exact h2
 ·rename_i ag' k' o e len
  obtain ⟨h1,h2⟩:=bR_some hr
  simp only [Bool.and_eq_true,fewR_eq] at h1
  obtain ⟨h3,h4,h5,h6,h7⟩:=h1
  have h3:ag'=ag:=by cases ag <;> cases ag' <;> first | rfl | cases h3
  have h5:=Nat.le_of_ble_eq_true h5
  have h6:=Nat.le_of_ble_eq_true h6
  have hf:fits (len+xs.length) bytes=true:=by
   unfold fits
   rw [decide_eq_true_eq]
   have:(len+xs.length) * (bytes+1)≤2000000 * 1000001:=Nat.mul_le_mul (by omega) (by omega)
   omega
  simp only [aappL]
  rw [if_pos ⟨h3,Nat.eq_of_beq_eq_true h4,hf⟩]
  cases hn:nilR xs with
  | true=>rw [hn] at h2;rw [if_pos (nilR_eq _ |>.1 hn)];exact h2
  | false =>
   rw [hn] at h2
   rw [if_neg (nilR_false hn)]
   have h2:(match nthR H o with
    | some (.row e' l)=>bR' (Nat.beq e' e && hasR l (Nat.mul len k)) (some (AV.ws ag k o (Nat.succ e) (Nat.add len (lenR xs)),setR H (.row (Nat.succ e) (appR (fcut (Nat.mul len k) l) (cellsR xs))) o)) none
    | _=>none)=some r:=h2
   simp only [lenR_eq,appR_eq,nthR_eq,setR_eq,cellsR_eq,fcut_eq] at h2
   split at h2
   ·rename_i e' l he
    rw [he]
    obtain ⟨h8,h9⟩:=bR_some h2
    rw [Bool.and_eq_true,hasR_eq] at h8
    dsimp only
    rw [if_pos ⟨Nat.eq_of_beq_eq_true h8.1,h8.2⟩]
    exact h9
   ·cases h2
 ·exact hr
theorem fappEL_gr (ag:Bool) (k bytes:Nat) (s x:AV) (H:Hp):Gr (fappEL ag k bytes s x H) (aappEL ag k bytes s x H):=by
 intro r hr
 unfold fappEL at hr
 split at hr
 ·rename_i xs hx
  unfold aappEL
  rw [felems_gr _ _ _ _ hx]
  exact fappL_gr _ _ _ _ _ _ _ hr
 ·cases hr
theorem flen_eq (d:TypeDesc) (x:AV):flen d x=alenD d x:=by
 unfold flen
 split
 ·split
  ·rw [lenR_eq];rfl
  ·rename_i h;cases x <;> first | rfl | (exact absurd rfl (h _))
 ·split
  ·rfl
  ·rw [lenR_eq];rfl
  ·rfl
  ·rfl
  ·rename_i h1 h2 h3 h4
   cases x <;> first | rfl | (exact absurd rfl h1) | (exact absurd rfl (h2 _ _ _)) | (exact absurd rfl (h3 _ _ _ _ _ _)) | (exact absurd rfl (h4 _ _ _ _ _))
 ·rfl
theorem fconv_eq (x:AV) (k:IntKind):fconv x k=cvInt k x:=by
 unfold fconv cvInt
 cases x with
 | int k n=>dsimp only;rw [fwrap_eq]
 | _=>rfl
theorem fbox_gr (x:AV) (H:Hp):Gr (fbox x H) (abox x H):=by
 intro r hr
 obtain ⟨h1,h2⟩:=bR_some hr
 unfold abox
 rw [if_pos h1]
 rw [lenR_eq,appR_eq] at h2
 exact h2
end Go.Am
