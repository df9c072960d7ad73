/-
  THE ABSTRACT MACHINE, part Q: code told by what is done behind it.
-/
import Derived.Test.YtgglgbfolgcaiaaGreatDoorHmPx
namespace Go.Am
open RowKit

abbrev Res:=Option (AV × Hp)
abbrev Kt:=AExit→St→Res

def bnd {α β:Type} (x:Option α) (f:α→Option β):Option β :=
 match x with
 | some a=>f a
 | none=>none
def cnd (c:AV) (x y:Res):Res :=
 match c with
 | .bool t=>if t then x else y
 | _=>none
def gdv {α:Type} (g:AV) (want:Bool) (els:α) (x:Option α):Option α :=
 match g with
 | .bool b=>if b == want then x else some els
 | .undef=>none
 | _=>some els
def gval {α:Type} (ops:Array Oper) (tm:List AV) (o:Oper) (els:α) (x:Option α):Option α :=
 match o.guard with
 | none=>x
 | some (j,want)=>match (match ops[j]? with | some g=>g.dst | none=>none) with
  | none=>some els
  | some d=>match tm[d]? with
   | some g=>gdv g want els x
   | none=>some els

def convK (C:Cfg) (s d:TypeId):Nat :=
 match C.P.underlying s,C.P.underlying d with
 | some (.slice _),some .string=>1
 | some .string,some (.slice _)=>if C.wrb d then 2 else 0
 | _,_=>0
def lenK (C:Cfg) (ts:List TypeId):Nat :=
 match ts with
 | [t]=>match mapT C.P t with
  | some _=>1
  | none=>0
 | _=>0
def kindOf (C:Cfg):Op→Nat
 | .call { callee:=.builtin .len,argTypes,.. }=>lenK C argTypes.toList
 | .call { callee:=.builtin .delete,.. }=>2
 | .convert s d _=>convK C s d
 | .load _ _=>1
 | .lookup _ _ _ _=>1
 | .alloc _ | .box _ _ | .store _ _ _ | .makeSlice _ _ _=>2
 | .makeMap _ _ | .mapUpdate _ _ _ _ | .insert _ _ _ _=>2
 | .call { callee:=.value _,.. }=>2
 | .call { callee:=.invoke _ _,.. }=>2
 | .call { callee:=.builtin .append,.. }=>2
 | .call { callee:=.builtin .copy,.. }=>2
 | _=>0
def cvRd (x:AV) (H:Hp):Option AV :=
 match cvOfBytes x with
 | some v=>some v
 | none=>match elemsS x H with
  | some l=>match bytesOf l with
   | some s=>some (.str s)
   | none=>none
  | none=>none
def aread (C:Cfg) (ev:Operand→AV) (H:Hp):Op→Option AV
 | .load t a=>match isAggT C.P t,szT C.P t with
  | some g,some sz=>aload g sz (ev a) H
  | _,_=>none
 | .lookup t x k ck=>match mapT C.P t with
  | some (d,e)=>match zeroT C.P e with
   | some z=>alookup d z ck (ev x) (ev k) H
   | none=>none
  | none=>none
 | .convert s d x=>match C.P.underlying s,C.P.underlying d with
  | some (.slice e),some .string=>if isU8 (C.P.underlying e) then cvRd (ev x) H else none
  | _,_=>none
 | .call { callee:=.builtin .len,args,argTypes }=>match args.toList,argTypes.toList with
  | [x],[t]=>match mapT C.P t with
   | some _=>alenM (ev x) H
   | none=>none
  | _,_=>none
 | _=>none

def cxOp (C:Cfg) (CL:CallF) (ops:Array Oper) (fl:Bool) (o:Oper) (k:St→Res) (tm:List AV) (H:Hp):Res :=
 match (if fl then 0 else kindOf C o.op) with
 | 0=>bnd (gval ops tm o (.tuple []) (apure C (eval C tm) o.op)) fun v=>k (aput tm o.dst v,H)
 | 1=>bnd (gval ops tm o (.tuple []) (aread C (eval C tm) H o.op)) fun v=>k (aput tm o.dst v,H)
 | _=>bnd (gval ops tm o (.tuple [],H) (aheap C CL (eval C tm) H o.op)) fun r=>k (aput tm o.dst r.1,r.2)
def cxOps (C:Cfg) (CL:CallF) (ops:Array Oper) (draw:Bool) (b:Nat):Nat→List Oper→(St→Res)→St→Res
 | _,[],k,s=>k s
 | i,o :: rest,k,s=>if draw && lag C ops i then (if floats C ops i then none else bnd (alag (b+lags C ops i) (lagV C (eval C s.1) o.op) s.2) fun r=>cxOps C CL ops draw b (i+1) rest k (aput s.1 o.dst r.1,r.2))
  else cxOp C CL ops (draw && floats C ops i) o (cxOps C CL ops draw b (i+1) rest k) s.1 s.2

abbrev seqK (g:St→Res) (k:Kt):Kt:=fun e s =>
 match e with
 | .normal=>g s
 | e=>k e s
abbrev blockK (id:Nat) (k:Kt):Kt:=fun e s =>
 match e with
 | .exit i=>if i=id then k .normal s else k (.exit i) s
 | e=>k e s

def CX (C:Cfg) (CL:CallF) (LP:Code→Kt→St→Res) (kp:Nat→Option (List Nat)):Code→Kt→St→Res
 | .skip,k,s=>k .normal s
 | .region id ops draw,k,s=>if draw && !orderOk ops then none else cxOps C CL ops draw (frzs kp id s).2.length 0 ops.toList (fun s'=>k .normal s') ((frzs kp id s).1,resvH (if draw then lags C ops ops.size else 0) (frzs kp id s).2)
 | .seq a b,k,s=>CX C CL LP kp a (seqK (fun s'=>CX C CL LP kp b k (trim kp b s')) k) s
 | .cond c x y,k,s=>cnd (eval C s.1 c) (CX C CL LP kp x k s) (CX C CL LP kp y k s)
 | .block id c,k,s=>CX C CL LP kp c (blockK id k) s
 | .loop c,k,s=>LP c k (trim kp c s)
 | .scope c,k,s=>if noGoto c then CX C CL LP kp c k s else none
 | .exit id,k,s=>k (.exit id) s
 | .label _,k,s=>k .normal s
 | .goto l,k,s=>k (.goto l) s
 | .ret,k,s=>k .ret s
 | _,_,_=>none

noncomputable def LPw (C:Cfg) (kp:Nat→Option (List Nat)) (c:Code) (k:Kt) (s:St):Res:=bnd (execw C kp (.loop c) s) fun p=>k p.1 p.2

def sub:Code→List Nat→Code
 | .seq a _,0 :: p=>sub a p
 | .seq _ b,1 :: p=>sub b p
 | .cond _ x _,0 :: p=>sub x p
 | .cond _ _ y,1 :: p=>sub y p
 | .block _ c,0 :: p=>sub c p
 | .loop c,0 :: p=>sub c p
 | .scope c,0 :: p=>sub c p
 | c,_=>c
def bodyOf (fn:Func):Code :=
 match fn.body with
 | some c=>c
 | none=>.skip
theorem lookup_mem {α β:Type} [BEq α] [LawfulBEq α] {l:List (α × β)} {a:α} {b:β} (h:l.lookup a=some b):(a,b) ∈ l:=by
 induction l with
 | nil=>simp at h
 | cons x l ih =>
  obtain ⟨c,d⟩:=x
  simp only [List.lookup_cons] at h
  split at h
  ·rename_i he
   injection h with h
   subst h
   rw [eq_of_beq he]
   simp
  ·exact List.mem_cons_of_mem _ (ih h)
def UserOk (P:Program) (f:Nat):Prop:=∀ (args:Array Value) (w:World),(callFunc f args).run P w=.ok (.enter f args) w
theorem userOk_nil {P:Program}:∀ f ∈ ([]:List Nat),UserOk P f:=fun _ h=>by cases h
theorem userOk_cons {P:Program} {f:Nat} {l:List Nat} (h:UserOk P f) (t:∀ g ∈ l,UserOk P g):∀ g ∈ f :: l,UserOk P g:=fun g hg=>by
 rcases List.mem_cons.1 hg with rfl | hg
 ·exact h
 ·exact t g hg
def keepTab (l:List (Nat × List (Nat × List Nat))) (f r:Nat):Option (List Nat) :=
 match l.lookup f with
 | some m=>m.lookup r
 | none=>none

section
variable {C:Cfg} {kp:Nat→Option (List Nat)}

theorem keepFrom_idem (keep:List Nat):∀ (l:List AV) (i:Nat),keepFrom keep i (keepFrom keep i l)=keepFrom keep i l:=by
 intro l
 induction l with
 | nil=>intro i;rfl
 | cons a l ih =>
  intro i
  simp only [keepFrom,ih]
  split <;> simp_all
theorem trim_idem (c:Code) (s:St):trim kp c (trim kp c s)=trim kp c s:=by
 unfold trim
 cases firstRegion c with
 | none=>rfl
 | some r =>
  simp only
  cases kp r with
  | none=>rfl
  | some keep=>simp [keepFrom_idem]
theorem LPw_trim (c:Code) (k:Kt) (s:St):LPw C kp c k (trim kp c s)=LPw C kp c k s:=by
 unfold LPw
 rw [execw_loop,execw_loop (s:=s),trim_idem]

theorem map_pair {x:Option AV} {H:Hp}:x.map (fun v=>(v,H))=bnd x fun v=>some (v,H):=by cases x <;> rfl
theorem aop_lookup {CL:CallF} {ev:Operand→AV} {H:Hp} {t:TypeId} {x q:Operand} {ck:Bool}:aop C CL ev H false (.lookup t x q ck)=(bnd (aread C ev H (.lookup t x q ck)) fun v=>some (v,H)):=by
 simp only [aop,apure,aheap,aread,Bool.false_eq_true,if_false]
 cases mapT C.P t with
 | none=>rfl
 | some p =>
  obtain ⟨d,e⟩:=p
  simp only
  cases zeroT C.P e with
  | none=>rfl
  | some z=>simp only;cases alookup d z ck (ev x) (ev q) H <;> rfl
theorem aop_load {CL:CallF} {ev:Operand→AV} {H:Hp} {t:TypeId} {a:Operand}:aop C CL ev H false (.load t a)=bnd (aread C ev H (.load t a)) fun v=>some (v,H):=by
 unfold aop
 simp only [apure,aread,aheap]
 cases isAggT C.P t with
 | none=>rfl
 | some g =>
  cases szT C.P t with
  | none=>rfl
  | some sz =>
   simp only [Bool.false_eq_true,if_false]
   rw [map_pair]
   cases ev a <;> first
    | rfl
    | (simp only [aloadv,aload];generalize apart g sz _ 0=x;cases x <;> rfl)

theorem aop_conv {CL:CallF} {ev:Operand→AV} {H:Hp} {s d:TypeId} {x:Operand} (h:convK C s d=1):aop C CL ev H false (.convert s d x)=bnd (aread C ev H (.convert s d x)) fun v=>some (v,H):=by
 unfold convK at h
 split at h
 ·rename_i e hs hd
  unfold aop
  simp only [apure,aread,aheap,aconv,hs,hd,Bool.false_eq_true,if_false]
  cases isU8 (C.P.underlying e) with
  | false=>rfl
  | true =>
   simp only [if_true]
   unfold cvRd cvStrH
   cases cvOfBytes (ev x) with
   | some v=>rfl
   | none =>
    simp only
    cases elemsS (ev x) H with
    | none=>rfl
    | some l=>simp only;cases bytesOf l <;> rfl
 ·split at h <;> cases h
 ·cases h
theorem alen_map {t:TypeId} {p:TypeDesc × TypeId} {x:AV} (h:mapT C.P t=some p):alen C.P t x=none:=by
 obtain ⟨d,e⟩:=p
 obtain ⟨k,h1,_⟩:=mapT_of h
 unfold alen
 rw [h1]
 rfl
theorem aop_len {CL:CallF} {ev:Operand→AV} {H:Hp} {args:Array Operand} {ts:Array TypeId} (h:lenK C ts.toList=1):aop C CL ev H false (.call { callee:=.builtin .len,args:=args,argTypes:=ts })=bnd (aread C ev H (.call { callee:=.builtin .len,args:=args,argTypes:=ts })) fun v=>some (v,H):=by
 unfold aop
 simp only [apure,aread,aheap,Bool.false_eq_true,if_false]
 unfold lenK at h
 split at h
 ·rename_i t ht
  split at h
  ·rename_i p hp
   rw [ht]
   cases args.toList with
   | nil=>rfl
   | cons x l =>
    cases l with
    | nil =>
     simp only [alen_map hp,hp]
     exact map_pair
    | cons y l=>rfl
  ·cases h
 ·cases h
theorem aheap_len {CL:CallF} {ev:Operand→AV} {H:Hp} {args:Array Operand} {ts:Array TypeId} (h:lenK C ts.toList=0):aheap C CL ev H (.call { callee:=.builtin .len,args:=args,argTypes:=ts })=none:=by
 simp only [aheap]
 unfold lenK at h
 split
 ·rename_i x t hx ht
  rw [ht] at h
  simp only at h
  split at h
  ·cases h
  ·rename_i hm
   rw [hm]
 ·rfl
theorem lenK_le (ts:List TypeId):lenK C ts=0 ∨ lenK C ts=1:=by
 unfold lenK
 split
 ·split
  ·exact .inr rfl
  ·exact .inl rfl
 ·exact .inl rfl
theorem aheap_zero {CL:CallF} {ev:Operand→AV} {H:Hp} {op:Op} (h:kindOf C op=0):aheap C CL ev H op=none:=by
 cases op with
 | call c =>
  obtain ⟨callee,args,ts⟩:=c
  cases callee with
  | value f=>simp [kindOf] at h
  | invoke r m=>simp [kindOf] at h
  | builtin b=>cases b <;> first | rfl | (exact aheap_len h) | (simp [kindOf] at h;done)
 | convert s d x =>
  simp only [kindOf,convK] at h
  simp only [aheap]
  split at h
  ·cases h
  ·rename_i e hs hd
   split at h
   ·cases h
   ·rename_i hw
    simp only [hs,hd,Bool.eq_false_iff.2 hw,Bool.false_and]
    rfl
  ·rename_i h1 h2
   split
   ·rename_i e hs hd;exact absurd hd (h1 _ hs)
   ·rename_i e hs hd;exact absurd hd (h2 _ hs)
   ·rfl
 | _=>first | rfl | (simp [kindOf] at h;done)
theorem apure_two {ev:Operand→AV} {op:Op} (h:kindOf C op=2):apure C ev op=none:=by
 cases op with
 | call c =>
  obtain ⟨callee,args,ts⟩:=c
  cases callee with
  | value f=>rfl
  | invoke r m=>rfl
  | builtin b =>
   cases b <;> first
    | rfl
    | (simp [kindOf] at h;done)
    | (simp only [kindOf] at h;rcases lenK_le (C:=C) ts.toList with e | e <;> (rw [e] at h;cases h))
 | convert s d x =>
  simp only [kindOf,convK] at h
  split at h
  ·cases h
  ·rename_i e hs hd
   split at h
   ·rename_i hw
    simp only [apure,aconv,hs,hd,hw,if_true]
    split <;> rfl
   ·cases h
  ·cases h
 | _=>first | rfl | (simp [kindOf] at h;done)
theorem convK_le (s d:TypeId):convK C s d=0 ∨ convK C s d=1 ∨ convK C s d=2:=by
 unfold convK
 split
 ·simp
 ·split <;> simp
 ·simp
theorem kindOf_le (op:Op):kindOf C op=0 ∨ kindOf C op=1 ∨ kindOf C op=2:=by
 unfold kindOf
 split <;> first | exact convK_le _ _ | (rcases lenK_le (C:=C) _ with h | h <;> rw [h] <;> simp) | simp

theorem aop_flag {CL:CallF} {ev:Operand→AV} {H:Hp} {op:Op}:aop C CL ev H true op=bnd (apure C ev op) fun v=>some (v,H):=by
 unfold aop
 cases apure C ev op <;> rfl

theorem gval_eq {α : Type} {ops : Array Oper} {tm : List AV} {o : Oper} {els : α} {x : Option α} : gval ops tm o els x = match awanted ops tm o with
    | none=>none
    | some false=>some els
    | some true=>x:=by
 unfold gval awanted
 cases o.guard with
 | none=>rfl
 | some p =>
  obtain ⟨j,want⟩:=p
  simp only
  cases ops[j]? with
  | none=>rfl
  | some g =>
   simp only
   cases g.dst with
   | none=>rfl
   | some d =>
    simp only
    cases tm[d]? with
    | none=>rfl
    | some g =>
     cases g with
     | bool b=>simp only [gdv];cases (b == want) <;> rfl
     | _=>rfl

theorem oStep_cx {CL:CallF} {ops:Array Oper} {fl:Bool} {o:Oper} {k:St→Res} {s:St}:bnd (oStep C CL ops fl o s) k=cxOp C CL ops fl o k s.1 s.2:=by
 obtain ⟨tm,H⟩:=s
 have hp : ∀ (r : Res), aop C CL (eval C tm) H fl o.op = r →
     bnd (oStep C CL ops fl o (tm,H)) k=bnd (gval ops tm o (.tuple [],H) r) fun r=>k (aput tm o.dst r.1,r.2):=by
  intro r hr
  unfold oStep oVal
  rw [gval_eq]
  cases awanted ops tm o with
  | none=>rfl
  | some b =>
   cases b with
   | false=>rfl
   | true=>simp only [hr];cases r <;> rfl
 have val : ∀ (r : Option AV), aop C CL (eval C tm) H fl o.op = (bnd r fun v => some (v, H)) →
     bnd (oStep C CL ops fl o (tm,H)) k=bnd (gval ops tm o (.tuple []) r) fun v=>k (aput tm o.dst v,H):=by
  intro r hr
  rw [hp _ hr,gval_eq,gval_eq]
  cases awanted ops tm o with
  | none=>rfl
  | some b =>
   cases b with
   | false=>rfl
   | true=>cases r <;> rfl
 unfold cxOp
 cases fl with
 | true =>
  simp only [if_true]
  exact val _ aop_flag
 | false =>
  simp only [Bool.false_eq_true,if_false]
  rcases kindOf_le (C:=C) o.op with h | h | h
  ·rw [h]
   refine val _ ?_
   unfold aop
   have h0:=aheap_zero (C:=C) (CL:=CL) (ev:=eval C tm) (H:=H) h
   cases apure C (eval C tm) o.op with
   | none=>simp only [Bool.false_eq_true,if_false];rw [h0];rfl
   | some v=>rfl
  ·rw [h]
   cases hop:o.op with
   | load t a=>exact val _ (by rw [hop];exact aop_load)
   | lookup t x q ck=>exact val _ (by rw [hop];exact aop_lookup)
   | convert s d x=>exact val _ (by rw [hop];rw [hop] at h;exact aop_conv h)
   | call c =>
    rw [hop] at h
    obtain ⟨callee,args,ts⟩:=c
    cases callee with
    | value f=>simp [kindOf] at h
    | invoke r m=>simp [kindOf] at h
    | builtin b=>cases b <;> first | (simp [kindOf] at h;done) | (exact val _ (by rw [hop];exact aop_len h))
   | _=>rw [hop] at h;simp [kindOf] at h
  ·rw [h]
   refine hp _ ?_
   unfold aop
   rw [apure_two h]
   rfl

theorem execOps_cx {CL:CallF} {ops:Array Oper} {draw:Bool} {b:Nat} {k:St→Res}:∀ (l:List Oper) (i:Nat) (s:St),bnd (execOps C CL ops draw b i l s) k=cxOps C CL ops draw b i l k s:=by
 intro l
 induction l with
 | nil=>intro i s;rfl
 | cons o l ih =>
  intro i s
  unfold execOps cxOps rStep
  by_cases hl:(draw && lag C ops i)=true
  ·rw [if_pos hl,if_pos hl]
   by_cases hf:floats C ops i=true
   ·rw [if_pos hf,if_pos hf];rfl
   ·rw [if_neg hf,if_neg hf]
    cases alag (b+lags C ops i) (lagV C (eval C s.1) o.op) s.2 with
    | none=>rfl
    | some p=>exact ih (i+1) _
  ·rw [if_neg hl,if_neg hl,← oStep_cx]
   cases oStep C CL ops (draw && floats C ops i) o s with
   | none=>rfl
   | some s'=>exact ih (i+1) s'

theorem cx_eq:∀ (c:Code) (k:Kt) (s:St),CX C (callw C) (LPw C kp) kp c k s=bnd (execw C kp c s) fun p=>k p.1 p.2:=by
 intro c
 induction c with
 | skip=>intro k s;rw [execw_skip];rfl
 | region id ops draw =>
  intro k s
  rw [execw_region]
  simp only [CX]
  split
  ·rfl
  ·rw [← execOps_cx]
   cases execOps C (callw C) ops draw (frzs kp id s).2.length 0 ops.toList ((frzs kp id s).1,resvH (if draw then lags C ops ops.size else 0) (frzs kp id s).2) <;> rfl
 | seq a b iha ihb =>
  intro k s
  rw [execw_seq]
  simp only [CX]
  rw [iha]
  cases execw C kp a s with
  | none=>rfl
  | some p =>
   obtain ⟨e,s'⟩:=p
   cases e with
   | normal=>simp only [bnd,seqK];rw [ihb];rfl
   | _=>rfl
 | cond c x y ihx ihy =>
  intro k s
  rw [execw_cond]
  simp only [CX]
  rw [ihx,ihy]
  cases eval C s.1 c with
  | bool t=>cases t <;> rfl
  | _=>rfl
 | block id c ih =>
  intro k s
  rw [execw_block]
  simp only [CX]
  rw [ih]
  cases execw C kp c s with
  | none=>rfl
  | some p =>
   obtain ⟨e,s'⟩:=p
   cases e with
   | exit i =>
    simp only [bnd,blockK]
    split <;> rfl
   | _=>rfl
 | loop c _ =>
  intro k s
  simp only [CX]
  rw [LPw_trim]
  rfl
 | rangeFunc f p x y _ _=>intro k s;simp only [CX];rw [execw_none (fun n=>rfl)];rfl
 | exit id=>intro k s;rw [execw_exit];rfl
 | scope c ih =>
  intro k s
  rw [execw_scope]
  simp only [CX]
  split
  ·exact ih k s
  ·rfl
 | label l=>intro k s;rw [execw_label];rfl
 | goto l=>intro k s;rw [execw_goto];rfl
 | ret=>intro k s;rw [execw_ret];rfl
 | refuse s=>intro k s;simp only [CX];rw [execw_none (fun n=>rfl)];rfl

theorem LPw_eq (c:Code) (k:Kt) (s:St):LPw C kp c k s=CX C (callw C) (LPw C kp) kp c (seqK (fun s'=>LPw C kp c k (trim kp c s')) k) (trim kp c s):=by
 rw [cx_eq]
 unfold LPw
 rw [execw_loop]
 cases execw C kp c (trim kp c s) with
 | none=>rfl
 | some p =>
  obtain ⟨e,s'⟩:=p
  cases e with
  | normal =>
   show bnd (execw C kp (.loop c) s') _=bnd (execw C kp (.loop c) (trim kp c s')) _
   rw [execw_loop,execw_loop (s:=trim kp c s'),trim_idem]
  | _=>rfl

def resK (C:Cfg):List ResultVar→St→List AV→(List AV→Res)→Res
 | [],_,acc,k=>k acc
 | r :: rs,s,acc,k=>bnd (resOne C s r) fun v=>resK C rs s (acc++[v]) k
noncomputable def leaveL (C:Cfg) (f:FuncId) (H0:Hp) (H:Hp):List AV→Res
 | [v]=>leave C f H0 (v,H)
 | l=>leave C f H0 (.tuple l,H)
noncomputable abbrev retK (C:Cfg) (f:FuncId) (fn:Func) (H0:Hp):Kt:=fun e s =>
 match e with
 | .normal=>resK C fn.results.toList s [] (leaveL C f H0 s.2)
 | .ret=>resK C fn.results.toList s [] (leaveL C f H0 s.2)
 | _=>none

theorem resK_eq (s:St) (k:List AV→Res):∀ (rs:List ResultVar) (acc:List AV),resK C rs s acc k=bnd (rs.mapM (resOne C s)) fun l=>k (acc++l):=by
 intro rs
 induction rs with
 | nil=>intro acc;simp [resK,bnd]
 | cons r rs ih =>
  intro acc
  rw [List.mapM_cons]
  unfold resK
  cases resOne C s r with
  | none=>rfl
  | some v =>
   simp only [bnd]
   rw [ih]
   cases rs.mapM (resOne C s) with
   | none=>rfl
   | some l=>simp [bnd]

theorem callw_cx {f : FuncId} {fn : Func} {c : Code} (hf : C.P.funcs[f]? = some fn) (hb : fn.body = some c) (args : List AV) (H : Hp) :
    callw C f args H=CX C (callw C) (LPw C (C.keep f)) (C.keep f) c (retK C f fn H) (args++List.replicate (fn.ntmps - args.length) .undef,H):=by
 rw [callw_eq hf hb,cx_eq]
 have key:∀ s:St,(match resVal C fn s with | some v=>leave C f H (v,s.2) | none=>none)=resK C fn.results.toList s [] (leaveL C f H s.2):=by
  intro s
  rw [resK_eq]
  unfold resVal
  cases fn.results.toList.mapM (resOne C s) with
  | none=>rfl
  | some l =>
   match l with
   | []=>rfl
   | [v]=>rfl
   | a :: b :: l=>rfl
 cases execw C (C.keep f) c (args++List.replicate (fn.ntmps - args.length) .undef,H) with
 | none=>rfl
 | some p =>
  obtain ⟨e,s⟩:=p
  cases e with
  | normal=>exact key s
  | ret=>exact key s
  | _=>rfl
end
end Go.Am
