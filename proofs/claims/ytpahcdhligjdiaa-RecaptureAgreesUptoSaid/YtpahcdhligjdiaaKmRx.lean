/-
  THE ABSTRACT MACHINE, part R: the slots as a short list.
-/
import Derived.Test.YtpahcdhligjdiaaKmOx
namespace Go.Am
open RowKit

abbrev AL:=List (Nat × AV)
abbrev KL:=AExit→AL→Hp→Res
def look:AL→Nat→AV
 | [],_=>.undef
 | (i,v) :: r,t=>bif Nat.beq i t then v else look r t
def rep (n:Nat) (al:AL):List AV:=(List.range n).map (look al)
def unrep (tm:List AV):AL:=(List.range tm.length).map fun i=>(i,tm.getD i .undef)
def getL (n:Nat) (al:AL) (t:Nat):AV:=bif Nat.blt t n then look al t else .tuple []
def evalL (C:Cfg) (n:Nat) (al:AL):Operand→AV
 | .tmp t=>getL n al t
 | x=>eval C [] x
def gvalL {α:Type} (n:Nat) (ops:Array Oper) (al:AL) (o:Oper) (els:α) (x:Option α):Option α :=
 match o.guard with
 | none=>x
 | some (j,want)=>match (match ops[j]? with | some g=>g.dst | none=>none) with
  | none=>some els
  | some d=>bif Nat.blt d n then gdv (look al d) want els x else some els
def putL (al:AL) (dst:Option Tmp) (v:AV):AL :=
 match dst with
 | some d=>(d,v) :: al
 | none=>al
def trimL (kp:Nat→Option (List Nat)) (c:Code) (al:AL):AL :=
 match firstRegion c with
 | none=>al
 | some r=>match kp r with
  | none=>al
  | some keep=>keep.map fun t=>(t,look al t)

def mvOf:Op→Option Operand
 | .move x=>some x
 | .assign x=>some x
 | _=>none
def cxOpL' (C:Cfg) (CL:CallF) (n:Nat) (ops:Array Oper) (fl:Bool) (o:Oper) (k:AL→Hp→Res) (al:AL) (H:Hp):Res :=
 match (if fl then 0 else kindOf C o.op) with
 | 0=>bnd (gvalL n ops al o (.tuple []) (apure C (evalL C n al) o.op)) fun v=>k (putL al o.dst v) H
 | 1=>bnd (gvalL n ops al o (.tuple []) (aread C (evalL C n al) H o.op)) fun v=>k (putL al o.dst v) H
 | _=>bnd (gvalL n ops al o (.tuple [],H) (aheap C CL (evalL C n al) H o.op)) fun r=>k (putL al o.dst r.1) r.2
def cxOpL (C:Cfg) (CL:CallF) (n:Nat) (ops:Array Oper) (fl:Bool) (o:Oper) (k:AL→Hp→Res) (al:AL) (H:Hp):Res :=
 match o.guard,mvOf o.op with
 | none,some x=>k (putL al o.dst (evalL C n al x)) H
 | _,_=>cxOpL' C CL n ops fl o k al H
def cxOpsL (C:Cfg) (CL:CallF) (n:Nat) (ops:Array Oper) (draw:Bool):Nat→List Oper→(AL→Hp→Res)→AL→Hp→Res
 | _,[],k,al,H=>k al H
 | i,o :: rest,k,al,H=>cxOpL C CL n ops (draw && floats C ops i) o (cxOpsL C CL n ops draw (i+1) rest k) al H
noncomputable def lagOpL (C:Cfg) (n:Nat) (ops:Array Oper) (b i:Nat) (o:Oper) (k:AL→Hp→Res) (al:AL) (H:Hp):Res :=
 Bool.rec (motive:=fun _=>Res) (bnd (alag (b+lags C ops i) (lagV C (evalL C n al) o.op) H) fun r=>k (putL al o.dst r.1) r.2) none (floats C ops i)
noncomputable def cxOpsG (C:Cfg) (CL:CallF) (n:Nat) (ops:Array Oper) (b:Nat):Nat→List Oper→(AL→Hp→Res)→AL→Hp→Res
 | _,[],k,al,H=>k al H
 | i,o :: rest,k,al,H=>Bool.rec (motive:=fun _=>Res) (cxOpL C CL n ops (floats C ops i) o (cxOpsG C CL n ops b (i+1) rest k) al H) (lagOpL C n ops b i o (cxOpsG C CL n ops b (i+1) rest k) al H) (lag C ops i)
noncomputable def lagB (C:Cfg) (ops:Array Oper) (draw:Bool):Bool:=Bool.rec (motive:=fun _=>Bool) false (Bool.rec (motive:=fun _=>Bool) true false (Nat.beq (lags C ops ops.size) 0)) draw
noncomputable def regL (C:Cfg) (CL:CallF) (n:Nat) (ops:Array Oper) (draw:Bool) (k:AL→Hp→Res) (al:AL) (H:Hp):Res :=
 Bool.rec (motive:=fun _=>Res) (cxOpsL C CL n ops draw 0 ops.toList k al H) (cxOpsG C CL n ops H.length 0 ops.toList k al (H++List.replicate (lags C ops ops.size) .free)) (lagB C ops draw)

def twoQ (x y:AV):Option Unit :=
 match x,y with
 | .ptr o _,.ptr o' _=>bif Nat.beq o o' then none else some ()
 | _,_=>none
def chkFar (ev:Operand→AV) (r:Res):List (Nat × Nat)→Res
 | []=>r
 | p :: l=>bnd (twoQ (ev (.tmp p.1)) (ev (.tmp p.2))) fun _=>chkFar ev r l
noncomputable def regF (C:Cfg) (CL:CallF) (n:Nat) (ops:Array Oper) (draw:Bool) (k:AL→Hp→Res) (al:AL) (H:Hp):Res :=
 Bool.rec (motive:=fun _=>Res) (regL C CL n ops draw k al H) (chkFar (evalL C n al) (regL C CL n ops draw k al H) (farL C ops)) draw

abbrev SQ:=(KL→AL→Hp→Res)→KL→KL
abbrev BL:=Nat→KL→KL
def frzK (a:AV) (H:Hp) (k:AV→Hp→Res):Res:=k (frzV a H).1 (frzV a H).2
def frzT (n:Nat) (k:AL→Hp→Res):List Nat→AL→Hp→Res
 | [],al,H=>k al H
 | t :: ts,al,H=>frzK (getL n al t) H fun v H'=>frzT n k ts ((t,v) :: al) H'
def frzO (n:Nat) (ts:Option (List Nat)) (k:AL→Hp→Res) (al:AL) (H:Hp):Res :=
 match ts with
 | none=>k al H
 | some ts=>frzT n k ts al H
noncomputable def CXL (C:Cfg) (CL:CallF) (LP:Code→KL→AL→Hp→Res) (kp:Nat→Option (List Nat)) (n:Nat) (sq:SQ) (bl:BL):Code→KL→AL→Hp→Res
 | .skip,k,al,H=>k .normal al H
 | .region id ops draw,k,al,H=>if draw && !(orderOk ops && farKept C ops) then none else frzO n (kp (id+1000000)) (regF C CL n ops draw (fun al' H'=>k .normal al' H')) al H
 | .seq a b,k,al,H=>CXL C CL LP kp n sq bl a (sq (fun k' al' H'=>CXL C CL LP kp n sq bl b k' (trimL kp b al') H') k) al H
 | .cond c x y,k,al,H=>cnd (evalL C n al c) (CXL C CL LP kp n sq bl x k al H) (CXL C CL LP kp n sq bl y k al H)
 | .block id c,k,al,H=>CXL C CL LP kp n sq bl c (bl id k) al H
 | .loop c,k,al,H=>LP c k (trimL kp c al) H
 | .scope c,k,al,H=>if noGoto c then CXL C CL LP kp n sq bl c k al H else none
 | .exit id,k,al,H=>k (.exit id) al H
 | .label _,k,al,H=>k .normal al H
 | .goto l,k,al,H=>k (.goto l) al H
 | .ret,k,al,H=>k .ret al H
 | _,_,_,_=>none

abbrev CXT:=Cfg→CallF→(Code→KL→AL→Hp→Res)→(Nat→Option (List Nat))→Nat→SQ→BL→Code→KL→AL→Hp→Res
noncomputable def seqL (B:KL→AL→Hp→Res) (k:KL):KL:=(fun (_:CXT) e al H =>
 match e with
 | .normal=>B k al H
 | e=>k e al H) CXL
noncomputable def blockL (id:Nat) (k:KL):KL:=(fun (_:CXT) e al H =>
 match e with
 | .exit i=>if i=id then k .normal al H else k (.exit i) al H
 | e=>k e al H) CXL

noncomputable def LPL (C:Cfg) (kp:Nat→Option (List Nat)) (n:Nat) (c:Code) (k:KL) (al:AL) (H:Hp):Res :=
 bnd (execw C kp (.loop c) (rep n al,H)) fun p=>k p.1 (unrep p.2.1) p.2.2

section
variable {C:Cfg} {kp:Nat→Option (List Nat)} {n:Nat}

theorem blt_true {a b:Nat} (h:a < b):Nat.blt a b=true:=by rw [Nat.blt];exact Nat.ble_eq_true_of_le h
theorem blt_false {a b:Nat} (h:¬ a < b):Nat.blt a b=false:=by
 cases hb:Nat.blt a b with
 | false=>rfl
 | true=>exact absurd (Nat.le_of_ble_eq_true (by rw [Nat.blt] at hb;exact hb)) h
theorem rep_length (al:AL):(rep n al).length=n:=by simp [rep]
theorem rep_get (al:AL) (t:Nat):(rep n al)[t]?=if t < n then some (look al t) else none:=by
 unfold rep
 rw [List.getElem?_map]
 split
 ·rename_i h;rw [List.getElem?_range h];rfl
 ·rename_i h;rw [List.getElem?_eq_none (by simp;omega)];rfl
theorem rep_getD (al:AL) (t:Nat):(rep n al).getD t (.tuple [])=getL n al t:=by
 rw [List.getD_eq_getElem?_getD,rep_get]
 unfold getL
 by_cases h:t < n
 ·simp [h,blt_true h]
 ·simp [h,blt_false h]
theorem look_map (f:Nat→AV):∀ (l:List Nat) (t:Nat),look (l.map fun i=>(i,f i)) t=if t ∈ l then f t else .undef:=by
 intro l
 induction l with
 | nil=>intro t;rfl
 | cons a l ih =>
  intro t
  simp only [List.map_cons,look,ih]
  by_cases h:a=t
  ·subst h;simp
  ·have h2 : Nat.beq a t = false := by
      cases hb:Nat.beq a t with
      | false=>rfl
      | true=>exact absurd (Nat.eq_of_beq_eq_true hb) h
   have h3:¬ t=a:=fun e=>h e.symm
   simp [h2,h3]
theorem rep_ext {al:AL} {tm:List AV} (hl:tm.length=n) (h:∀ i,i < n→tm[i]?=some (look al i)):rep n al=tm:=by
 apply List.ext_getElem?
 intro i
 rw [rep_get]
 split
 ·rename_i hi;rw [h i hi]
 ·rename_i hi;rw [List.getElem?_eq_none (by omega)]
theorem rep_unrep {tm:List AV} (h:tm.length=n):rep n (unrep tm)=tm:=by
 apply rep_ext h
 intro i hi
 unfold unrep
 rw [look_map]
 have:i < tm.length:=by omega
 simp [this]
theorem rep_args {args:List AV} (h:args.length≤n):rep n (unrep args)=args++List.replicate (n - args.length) .undef:=by
 apply rep_ext
 ·simp;omega
 ·intro i hi
  unfold unrep
  rw [look_map,List.getElem?_append]
  by_cases h':i < args.length
  ·simp [h']
  ·have h2:i - args.length < n - args.length:=by omega
   simp [h',h2]
theorem rep_put (al:AL) (dst:Option Tmp) (v:AV):rep n (putL al dst v)=aput (rep n al) dst v:=by
 cases dst with
 | none=>rfl
 | some d =>
  apply rep_ext
  ·simp [aput,rep_length]
  ·intro i hi
   simp only [aput,putL,look]
   by_cases h:d=i
   ·subst h;simp [rep_length,hi]
   ·have h2 : Nat.beq d i = false := by
       cases hb:Nat.beq d i with
       | false=>rfl
       | true=>exact absurd (Nat.eq_of_beq_eq_true hb) h
    rw [List.getElem?_set_ne h,rep_get]
    simp [hi,h2]
theorem keepFrom_get' (keep:List Nat):∀ (l:List AV) (i j:Nat),(keepFrom keep i l)[j]?=(l[j]?).map fun a=>if keep.contains (i+j) then a else .undef:=by
 intro l
 induction l with
 | nil=>intro i j;simp [keepFrom]
 | cons a l ih =>
  intro i j
  cases j with
  | zero=>simp [keepFrom]
  | succ j=>simp only [keepFrom,List.getElem?_cons_succ,ih];rw [Nat.add_right_comm,Nat.add_assoc]
theorem rep_trim (c:Code) (al:AL) (H:Hp):trim kp c (rep n al,H)=(rep n (trimL kp c al),H):=by
 unfold trim trimL
 cases firstRegion c with
 | none=>rfl
 | some r =>
  simp only
  cases kp r with
  | none=>rfl
  | some keep =>
   simp only
   refine Prod.ext ?_ rfl
   symm
   apply rep_ext
   ·simp [keepFrom_length,rep_length]
   ·intro i hi
    rw [keepFrom_get',rep_get,look_map]
    simp [hi]
theorem evalL_eq (al:AL):eval C (rep n al)=evalL C n al:=by
 funext x
 cases x with
 | tmp t=>exact rep_getD al t
 | _=>rfl
theorem gvalL_eq {α:Type} (ops:Array Oper) (al:AL) (o:Oper) (els:α) (x:Option α):gval ops (rep n al) o els x=gvalL n ops al o els x:=by
 unfold gval gvalL
 cases o.guard with
 | none=>rfl
 | some p =>
  obtain ⟨j,want⟩:=p
  simp only
  cases ops[j]? with
  | none=>rfl
  | some g =>
   simp only
   cases g.dst with
   | none=>rfl
   | some d =>
    simp only
    rw [rep_get]
    by_cases h:d < n
    ·simp [h,blt_true h]
    ·simp [h,blt_false h]

theorem cxOpL'_eq {CL : CallF} {ops : Array Oper} {fl : Bool} {o : Oper} {k : St → Res} {kL : AL → Hp → Res} (hk : ∀ al H, k (rep n al, H) = kL al H) (al : AL) (H : Hp) :
    cxOp C CL ops fl o k (rep n al) H=cxOpL' C CL n ops fl o kL al H:=by
 unfold cxOp cxOpL'
 rw [evalL_eq]
 simp only [gvalL_eq,← rep_put,hk]
 rfl
theorem mvOf_pure {op:Op} {x:Operand} (h:mvOf op=some x) (ev:Operand→AV):apure C ev op=some (ev x)∧kindOf C op=0:=by
 cases op <;> simp only [mvOf,Option.some.injEq,reduceCtorEq] at h
 ·subst h;exact ⟨rfl,rfl⟩
 ·subst h;exact ⟨rfl,rfl⟩
theorem cxOpL_eq {CL : CallF} {ops : Array Oper} {fl : Bool} {o : Oper} {k : St → Res} {kL : AL → Hp → Res} (hk : ∀ al H, k (rep n al, H) = kL al H) (al : AL) (H : Hp) :
    cxOp C CL ops fl o k (rep n al) H=cxOpL C CL n ops fl o kL al H:=by
 rw [cxOpL'_eq hk]
 unfold cxOpL
 split
 ·rename_i x hg hm
  obtain ⟨h1,h2⟩:=mvOf_pure (C:=C) hm (evalL C n al)
  unfold cxOpL'
  rw [h1,h2,ite_self]
  simp only [gvalL,hg,bnd]
 ·rfl
theorem cxOpsG_eq {CL : CallF} {ops : Array Oper} {b : Nat} {k : St → Res} {kL : AL → Hp → Res} (hk : ∀ al H, k (rep n al, H) = kL al H) : ∀ (l : List Oper) (i : Nat) (al : AL) (H : Hp),
    cxOps C CL ops true b i l k (rep n al,H)=cxOpsG C CL n ops b i l kL al H:=by
 intro l
 induction l with
 | nil=>intro i al H;exact hk al H
 | cons o l ih =>
  intro i al H
  unfold cxOps cxOpsG
  simp only [Bool.true_and]
  cases hl:lag C ops i with
  | true =>
   simp only [if_true]
   unfold lagOpL
   cases hf:floats C ops i with
   | true=>rfl
   | false =>
    simp only [Bool.false_eq_true,if_false]
    rw [evalL_eq]
    congr 1
    funext r
    rw [← ih (i+1) (putL al o.dst r.1) r.2,rep_put]
  | false =>
   simp only [Bool.false_eq_true,if_false]
   exact cxOpL_eq (fun al H=>ih (i+1) al H) al H
theorem lag_none {ops:Array Oper} (h:lags C ops ops.size=0) (i:Nat):lag C ops i=false:=by
 cases hl:lag C ops i with
 | false=>rfl
 | true =>
  have hi:i < ops.size:=by
   unfold lag at hl
   cases ho:ops[i]? with
   | none=>simp [ho] at hl
   | some o=>exact (Array.getElem?_eq_some_iff.1 ho).1
  have:=lags_lt hl hi
  omega
theorem cxOpsL_eq {CL : CallF} {ops : Array Oper} {draw : Bool} {b : Nat} (hd : draw = true → lags C ops ops.size = 0) {k : St → Res} {kL : AL → Hp → Res} (hk : ∀ al H, k (rep n al, H) = kL al H) : ∀ (l : List Oper) (i : Nat) (al : AL) (H : Hp),
    cxOps C CL ops draw b i l k (rep n al,H)=cxOpsL C CL n ops draw i l kL al H:=by
 intro l
 induction l with
 | nil=>intro i al H;exact hk al H
 | cons o l ih =>
  intro i al H
  unfold cxOps cxOpsL
  have hl:(draw && lag C ops i)=false:=by
   cases draw with
   | false=>rfl
   | true=>simp [lag_none (hd rfl) i]
  simp only [hl,Bool.false_eq_true,if_false]
  exact cxOpL_eq (fun al H=>ih (i+1) al H) al H
theorem regL_eq {CL : CallF} {ops : Array Oper} {draw : Bool} {k : St → Res} {kL : AL → Hp → Res} (hk : ∀ al H, k (rep n al, H) = kL al H) (al : AL) (H : Hp) :
    cxOps C CL ops draw H.length 0 ops.toList k (rep n al,resvH (if draw then lags C ops ops.size else 0) H)=regL C CL n ops draw kL al H:=by
 unfold regL lagB
 cases draw with
 | false=>exact cxOpsL_eq (fun h=>by cases h) hk _ _ _ _
 | true =>
  simp only [if_true]
  cases hz:lags C ops ops.size with
  | zero =>
   simp only [Nat.beq,resvH]
   exact cxOpsL_eq (fun _=>hz) hk _ _ _ _
  | succ m =>
   simp only [Nat.beq,resvH]
   exact cxOpsG_eq hk _ _ _ _

theorem frzT_eq {k:St→Res} {kL:AL→Hp→Res} (hk:∀ al H,k (rep n al,H)=kL al H):∀ (ts:List Nat) (al:AL) (H:Hp),k (frzL ts (rep n al,H))=frzT n kL ts al H:=by
 intro ts
 induction ts with
 | nil=>intro al H;exact hk al H
 | cons t ts ih =>
  intro al H
  show k (frzL ts (frz1 (rep n al,H) t))=_
  unfold frz1
  simp only [rep_getD]
  have:=rep_put (n:=n) al (some t) (frzV (getL n al t) H).1
  simp only [aput,putL] at this
  rw [← this]
  exact ih _ _
theorem frzO_eq {k:St→Res} {kL:AL→Hp→Res} (hk:∀ al H,k (rep n al,H)=kL al H) (id:Nat) (al:AL) (H:Hp):k (frzs kp id (rep n al,H))=frzO n (kp (id+1000000)) kL al H:=by
 unfold frzs frzO
 cases kp (id+1000000) with
 | none=>exact hk al H
 | some ts=>exact frzT_eq hk ts al H

theorem frzs_len (id:Nat) (s:St):(frzs kp id s).1.length=s.1.length:=by
 unfold frzs
 cases kp (id+1000000) with
 | none=>rfl
 | some ts =>
  simp only [frzL]
  induction ts generalizing s with
  | nil=>rfl
  | cons t ts ih=>rw [List.foldl_cons,ih];simp [frz1]
theorem oStep_len {call:CallF} {ops:Array Oper} {fl:Bool} {o:Oper} {s s':St} (h:oStep C call ops fl o s=some s'):s'.1.length=s.1.length:=by
 unfold oStep at h
 split at h
 ·simp only [Option.some.injEq] at h
  subst h
  cases o.dst <;> simp [aput]
 ·cases h
theorem rStep_len1 {call:CallF} {ops:Array Oper} {draw:Bool} {b i:Nat} {o:Oper} {s s':St} (h:rStep C call ops draw b i o s=some s'):s'.1.length=s.1.length:=by
 unfold rStep at h
 split at h
 ·split at h
  ·cases h
  ·split at h
   ·simp only [Option.some.injEq] at h
    subst h
    cases o.dst <;> simp [aput]
   ·cases h
 ·exact oStep_len h
theorem execOps_len {call:CallF} {ops:Array Oper} {draw:Bool} {b:Nat}:∀ (l:List Oper) (i:Nat) (s s':St),execOps C call ops draw b i l s=some s'→s'.1.length=s.1.length:=by
 intro l
 induction l with
 | nil=>intro i s s' h;simp [execOps] at h;rw [h]
 | cons o l ih =>
  intro i s s' h
  unfold execOps at h
  split at h
  ·rename_i s1 h1
   rw [ih _ _ _ h,rStep_len1 h1]
  ·cases h
theorem trim_len (c:Code) (s:St):(trim kp c s).1.length=s.1.length:=by
 unfold trim
 cases firstRegion c with
 | none=>rfl
 | some r =>
  simp only
  cases kp r with
  | none=>rfl
  | some keep=>simp [keepFrom_length]
theorem exec_len {call:CallF} {m:Nat}:∀ (c:Code) (s s':St) (e:AExit),exec C call kp m c s=some (e,s')→s'.1.length=s.1.length:=by
 intro c
 induction c with
 | region id ops draw =>
  intro s s' e h
  simp only [exec] at h
  split at h
  ·cases h
  ·split at h
   ·rename_i s1 h1
    simp only [Option.some.injEq,Prod.mk.injEq] at h
    rw [← h.2,← frzs_len (kp:=kp) id s]
    exact (execOps_len _ _ _ _ h1 :)
   ·cases h
 | seq a b iha ihb =>
  intro s s' e h
  simp only [exec] at h
  split at h
  ·rename_i s1 h1
   rw [ihb _ _ _ h,trim_len,iha _ _ _ h1]
  ·exact iha _ _ _ h
 | cond c x y ihx ihy =>
  intro s s' e h
  simp only [exec] at h
  split at h
  ·split at h
   ·exact ihx _ _ _ h
   ·exact ihy _ _ _ h
  ·cases h
 | block id c ih =>
  intro s s' e h
  simp only [exec] at h
  split at h
  ·rename_i i s1 h1
   split at h <;>
   ·simp only [Option.some.injEq,Prod.mk.injEq] at h
    rw [← h.2]
    exact ih _ _ _ h1
  ·exact ih _ _ _ h
 | loop c ih =>
  intro s s' e h
  simp only [exec] at h
  have key:∀ (j:Nat) (s:St),loopN (fun s=>exec C call kp m c (trim kp c s)) j s=some (e,s')→s'.1.length=s.1.length:=by
   intro j
   induction j with
   | zero=>intro s h;simp [loopN] at h
   | succ j ihj =>
    intro s h
    unfold loopN at h
    split at h
    ·rename_i s1 h1
     rw [ihj _ h,ih _ _ _ h1,trim_len]
    ·rw [ih _ _ _ h,trim_len]
  exact key _ _ h
 | scope c ih =>
  intro s s' e h
  simp only [exec] at h
  split at h
  ·exact ih _ _ _ h
  ·cases h
 | skip=>intro s s' e h;simp [exec] at h;rw [h.2]
 | exit id=>intro s s' e h;simp [exec] at h;rw [h.2]
 | label l=>intro s s' e h;simp [exec] at h;rw [h.2]
 | goto l=>intro s s' e h;simp [exec] at h;rw [h.2]
 | ret=>intro s s' e h;simp [exec] at h;rw [h.2]
 | _=>intro s s' e h;simp [exec] at h
theorem execw_len {c:Code} {s s':St} {e:AExit} (h:execw C kp c s=some (e,s')):s'.1.length=s.1.length:=by
 obtain ⟨m,hm⟩:=execw_some.1 h
 exact exec_len _ _ _ _ hm

def Same (n:Nat) (k:Kt) (kL:KL):Prop:=∀ e al H,k e (rep n al,H)=kL e al H

theorem LPL_same {c:Code} {k:Kt} {kL:KL} (hk:Same n k kL) (al:AL) (H:Hp):LPw C kp c k (rep n al,H)=LPL C kp n c kL al H:=by
 unfold LPw LPL
 cases h:execw C kp (.loop c) (rep n al,H) with
 | none=>rfl
 | some p =>
  obtain ⟨e,tm,H'⟩:=p
  have hl:=execw_len h
  simp only [rep_length] at hl
  simp only [bnd]
  rw [← hk e (unrep tm) H',rep_unrep hl]

theorem twoQ_eq (x y:AV):twoQ x y=if twoO x y then some () else none:=by
 cases x with
 | ptr o f=>cases y with
  | ptr o' f' =>
   show (bif Nat.beq o o' then none else some ())=if (!Nat.beq o o')=true then some () else none
   cases Nat.beq o o' <;> rfl
  | _=>rfl
 | _=>rfl
theorem chkFar_eq (ev:Operand→AV) (r:Res):∀ l:List (Nat × Nat),(l.all (fun p=>twoO (ev (.tmp p.1)) (ev (.tmp p.2)))=true→chkFar ev r l=r)∧(l.all (fun p=>twoO (ev (.tmp p.1)) (ev (.tmp p.2)))=false→chkFar ev r l=none):=by
 intro l
 induction l with
 | nil=>exact ⟨fun _=>rfl,fun h=>by cases h⟩
 | cons p l ih =>
  simp only [chkFar,twoQ_eq,List.all_cons]
  cases ht:twoO (ev (.tmp p.1)) (ev (.tmp p.2)) with
  | true=>exact ⟨fun h=>ih.1 (by simpa using h),fun h=>ih.2 (by simpa using h)⟩
  | false=>exact ⟨fun h=>by simp at h,fun _=>rfl⟩
theorem CXL_same:∀ (c:Code) (k:Kt) (kL:KL),Same n k kL→∀ (al:AL) (H:Hp),CX C (callw C) (LPw C kp) kp c k (rep n al,H)=CXL C (callw C) (LPL C kp n) kp n seqL blockL c kL al H:=by
 intro c
 induction c with
 | region id ops draw =>
  intro k kL hk al H
  simp only [CX,CXL]
  by_cases hd:(draw && !(orderOk ops && farKept C ops))=true
  ·rw [if_pos hd,if_pos]
   unfold farAll
   revert hd
   cases draw <;> cases orderOk ops <;> cases farKept C ops <;> simp
  ·rw [if_neg hd]
   refine frzO_eq (kp:=kp) (k:=fun s=>if (draw && !(orderOk ops && farAll C ops (eval C s.1)))=true then none else cxOps C (callw C) ops draw s.2.length 0 ops.toList (fun s'=>k .normal s') (s.1,resvH (if draw then lags C ops ops.size else 0) s.2)) (fun al H=>?_) id al H
   have hreg:=regL_eq (C:=C) (CL:=callw C) (n:=n) (ops:=ops) (draw:=draw) (fun al H=>hk .normal al H) al H
   unfold regF
   cases draw with
   | false=>simpa using hreg
   | true =>
    have hd2:orderOk ops=true∧farKept C ops=true:=by
     revert hd
     cases orderOk ops <;> cases farKept C ops <;> simp
    show _=chkFar (evalL C n al) (regL C (callw C) n ops true _ al H) (farL C ops)
    unfold farAll farEv
    rw [hd2.1,hd2.2]
    have he:((farL C ops).all fun p=>twoO (eval C (rep n al) (.tmp p.1)) (eval C (rep n al) (.tmp p.2)))=((farL C ops).all fun p=>twoO (evalL C n al (.tmp p.1)) (evalL C n al (.tmp p.2))):=by
     congr 1
     funext p
     show twoO ((rep n al).getD p.1 (.tuple [])) ((rep n al).getD p.2 (.tuple []))=_
     rw [rep_getD,rep_getD]
     rfl
    rw [he]
    cases ht:((farL C ops).all fun p=>twoO (evalL C n al (.tmp p.1)) (evalL C n al (.tmp p.2))) with
    | true=>rw [(chkFar_eq _ _ _).1 ht,← hreg];rfl
    | false=>rw [(chkFar_eq _ _ _).2 ht];rfl
 | seq a b iha ihb =>
  intro k kL hk al H
  simp only [CX,CXL]
  refine iha _ _ (fun e al H=>?_) al H
  cases e with
  | normal=>simp only [seqK,seqL];rw [rep_trim];exact ihb k kL hk _ _
  | _=>exact hk _ _ _
 | cond c x y ihx ihy =>
  intro k kL hk al H
  simp only [CX,CXL]
  rw [evalL_eq,ihx k kL hk,ihy k kL hk]
 | block id c ih =>
  intro k kL hk al H
  simp only [CX,CXL]
  refine ih _ _ (fun e al H=>?_) al H
  cases e with
  | exit i =>
   simp only [blockK,blockL]
   split <;> exact hk _ _ _
  | _=>exact hk _ _ _
 | loop c _ =>
  intro k kL hk al H
  simp only [CX,CXL]
  rw [rep_trim]
  exact LPL_same hk _ _
 | scope c ih =>
  intro k kL hk al H
  simp only [CX,CXL]
  split
  ·exact ih k kL hk al H
  ·rfl
 | skip=>intro k kL hk al H;exact hk _ _ _
 | exit id=>intro k kL hk al H;exact hk _ _ _
 | label l=>intro k kL hk al H;exact hk _ _ _
 | goto l=>intro k kL hk al H;exact hk _ _ _
 | ret=>intro k kL hk al H;exact hk _ _ _
 | _=>intro k kL hk al H;rfl

def Tame (n:Nat) (kL:KL):Prop:=∃ k,Same n k kL

theorem tame_block (id:Nat) {kL:KL} (h:Tame n kL):Tame n (blockL id kL):=by
 obtain ⟨k,hk⟩:=h
 refine ⟨blockK id k,fun e al H=>?_⟩
 cases e with
 | exit i =>
  simp only [blockK,blockL]
  split <;> exact hk _ _ _
 | _=>exact hk _ _ _
theorem tame_seq (b:Code) {kL:KL} (h:Tame n kL):Tame n (seqL (fun k' al' H'=>CXL C (callw C) (LPL C kp n) kp n seqL blockL b k' (trimL kp b al') H') kL):=by
 obtain ⟨k,hk⟩:=h
 refine ⟨seqK (fun s'=>CX C (callw C) (LPw C kp) kp b k (trim kp b s')) k,fun e al H=>?_⟩
 cases e with
 | normal=>simp only [seqK,seqL];rw [rep_trim];exact CXL_same b k kL hk _ _
 | _=>exact hk _ _ _
theorem tame_loop (c:Code) {kL:KL} (h:Tame n kL):Tame n (seqL (fun k' al' H'=>LPL C kp n c k' (trimL kp c al') H') kL):=by
 obtain ⟨k,hk⟩:=h
 refine ⟨seqK (fun s'=>LPw C kp c k (trim kp c s')) k,fun e al H=>?_⟩
 cases e with
 | normal=>simp only [seqK,seqL];rw [rep_trim];exact LPL_same hk _ _
 | _=>exact hk _ _ _
theorem LPL_eq {c:Code} {kL:KL} (h:Tame n kL) (al:AL) (H:Hp):LPL C kp n c kL al H=CXL C (callw C) (LPL C kp n) kp n seqL blockL c (seqL (fun k' al' H'=>LPL C kp n c k' (trimL kp c al') H') kL) (trimL kp c al) H:=by
 obtain ⟨k,hk⟩:=h
 rw [← LPL_same hk,LPw_eq,rep_trim]
 refine CXL_same c _ _ (fun e al H=>?_) _ _
 cases e with
 | normal=>simp only [seqK,seqL];rw [rep_trim];exact LPL_same hk _ _
 | _=>exact hk _ _ _

def resOneL (C:Cfg) (n:Nat) (al:AL) (H:Hp):ResultVar→Option AV
 | .tmp t=>some (getL n al t)
 | .cell a t=>match isAggT C.P t,szT C.P t with
  | some g,some sz=>aload g sz (getL n al a) H
  | _,_=>none
def resL (C:Cfg) (n:Nat) (al:AL) (H:Hp):List ResultVar→List AV→(List AV→Res)→Res
 | [],acc,k=>k acc
 | r :: rs,acc,k=>bnd (resOneL C n al H r) fun v=>resL C n al H rs (acc++[v]) k
noncomputable abbrev retL (C:Cfg) (n:Nat) (f:FuncId) (fn:Func) (H0:Hp):KL:=fun e al H =>
 match e with
 | .normal=>resL C n al H fn.results.toList [] (leaveL C f H0 H)
 | .ret=>resL C n al H fn.results.toList [] (leaveL C f H0 H)
 | _=>none
theorem resL_eq (al:AL) (H:Hp) (k:List AV→Res):∀ (rs:List ResultVar) (acc:List AV),resK C rs (rep n al,H) acc k=resL C n al H rs acc k:=by
 intro rs
 induction rs with
 | nil=>intro acc;rfl
 | cons r rs ih =>
  intro acc
  unfold resK resL
  have:resOne C (rep n al,H) r=resOneL C n al H r:=by
   cases r <;> (simp only [resOne,resOneL,rep_getD] <;> rfl)
  rw [this]
  simp only [ih]
theorem ret_same (f:FuncId) (fn:Func) (H0:Hp):Same n (retK C f fn H0) (retL C n f fn H0):=by
 intro e al H
 cases e with
 | normal=>exact resL_eq _ _ _ _ _
 | ret=>exact resL_eq _ _ _ _ _
 | _=>rfl
theorem tame_ret (f:FuncId) (fn:Func) (H0:Hp):Tame n (retL C n f fn H0):=⟨_,ret_same f fn H0⟩
def argsL:Nat→List AV→AL
 | _,[]=>[]
 | i,a :: r=>(i,a) :: argsL (i+1) r
theorem argsL_unrep (args:List AV):rep n (argsL 0 args)=rep n (unrep args):=by
 have key:∀ (l:List AV) (i t:Nat),look (argsL i l) t=if i≤t then l.getD (t - i) .undef else .undef:=by
  intro l
  induction l with
  | nil=>intro i t;simp [argsL,look]
  | cons a l ih =>
   intro i t
   simp only [argsL,look,ih]
   by_cases h:i=t
   ·subst h;simp
   ·have h2 : Nat.beq i t = false := by
       cases hb:Nat.beq i t with
       | false=>rfl
       | true=>exact absurd (Nat.eq_of_beq_eq_true hb) h
    simp only [h2,cond_false]
    by_cases h3:i≤t
    ·have h4:i+1≤t:=by omega
     have h5:t - i=(t - (i+1))+1:=by omega
     simp [h3,h4,h5]
    ·have h4:¬ i+1≤t:=by omega
     simp [h3,h4]
 unfold rep
 apply List.map_congr_left
 intro t _
 rw [key]
 unfold unrep
 rw [look_map]
 by_cases h:t < args.length <;> simp [h]
theorem callw_cxl {f : FuncId} {fn : Func} {c : Code} (hf : C.P.funcs[f]? = some fn) (hb : codeOf C f fn = some c) (hN : fn.ntmps = n) (args : List AV) (hn : Nat.ble args.length n = true) (H : Hp) :
    callw C f args H=CXL C (callw C) (LPL C (C.keep f) n) (C.keep f) n seqL blockL c (retL C n f fn H) (argsL 0 args) H:=by
 subst hN
 rw [callw_cx hf hb,← rep_args (Nat.le_of_ble_eq_true hn),← argsL_unrep]
 exact CXL_same _ _ _ (ret_same f fn H) _ _
end
end Go.Am
