/-
  THE ABSTRACT MACHINE, part R: the slots as a short list.
-/
import Derived.Test.YtehanadfidoodaaGreatDoorEmOx
namespace Go.Am
open RowKit

abbrev AL:=List (Nat × AV)
abbrev KL:=AExit→AL→Hp→Res
def look:AL→Nat→AV
 | [],_=>.undef
 | (i,v) :: r,t=>bif Nat.beq i t then v else look r t
def rep (n:Nat) (al:AL):List AV:=(List.range n).map (look al)
def Znc (tm:List AV):AL:=(List.range tm.length).map fun i=>(i,tm.getD i .undef)
def getL (n:Nat) (al:AL) (t:Nat):AV:=bif Nat.blt t n then look al t else .tuple []
def ZkN (C:Cfg) (n:Nat) (al:AL):Operand→AV
 | .tmp t=>getL n al t
 | x=>eval C [] x
def ZsP {α:Type} (n:Nat) (ops:Array Oper) (al:AL) (o:Oper) (els:α) (x:Option α):Option α :=
 match o.guard with
 | none=>x
 | some (j,want)=>match (match ops[j]? with | some g=>g.dst | none=>none) with
  | none=>some els
  | some d=>bif Nat.blt d n then gdv (look al d) want els x else some els
def putL (al:AL) (dst:Option Tmp) (v:AV):AL :=
 match dst with
 | some d=>(d,v) :: al
 | none=>al
def Za8 (kp:Nat→Option (List Nat)) (c:Code) (al:AL):AL :=
 match ZbP c with
 | none=>al
 | some r=>match kp r with
  | none=>al
  | some keep=>keep.map fun t=>(t,look al t)

def mvOf:Op→Option Operand
 | .move x=>some x
 | .assign x=>some x
 | _=>none
def Zwy (C:Cfg) (CL:Zav) (n:Nat) (ops:Array Oper) (fl:Bool) (o:Oper) (k:AL→Hp→Res) (al:AL) (H:Hp):Res :=
 match (if fl then 0 else Zbm C o.op) with
 | 0=>bnd (ZsP n ops al o (.tuple []) (ZaD C (ZkN C n al) o.op)) fun v=>k (putL al o.dst v) H
 | 1=>bnd (ZsP n ops al o (.tuple []) (Zj9 C (ZkN C n al) H o.op)) fun v=>k (putL al o.dst v) H
 | _=>bnd (ZsP n ops al o (.tuple [],H) (Zaw C CL (ZkN C n al) H o.op)) fun r=>k (putL al o.dst r.1) r.2
def ZzD (C:Cfg) (CL:Zav) (n:Nat) (ops:Array Oper) (fl:Bool) (o:Oper) (k:AL→Hp→Res) (al:AL) (H:Hp):Res :=
 match o.guard,mvOf o.op with
 | none,some x=>k (putL al o.dst (ZkN C n al x)) H
 | _,_=>Zwy C CL n ops fl o k al H
def Zwz (C:Cfg) (CL:Zav) (n:Nat) (ops:Array Oper) (draw:Bool):Nat→List Oper→(AL→Hp→Res)→AL→Hp→Res
 | _,[],k,al,H=>k al H
 | i,o :: rest,k,al,H=>ZzD C CL n ops (draw && Zbe C ops i) o (Zwz C CL n ops draw (i+1) rest k) al H
noncomputable def ZFf (C:Cfg) (n:Nat) (ops:Array Oper) (b i:Nat) (o:Oper) (k:AL→Hp→Res) (al:AL) (H:Hp):Res :=
 Bool.rec (motive:=fun _=>Res) (bnd (alag (b+lags C ops i) (lagV C (ZkN C n al) o.op) H) fun r=>k (putL al o.dst r.1) r.2) none (Zbe C ops i)
noncomputable def Zs6 (C:Cfg) (CL:Zav) (n:Nat) (ops:Array Oper) (b:Nat):Nat→List Oper→(AL→Hp→Res)→AL→Hp→Res
 | _,[],k,al,H=>k al H
 | i,o :: rest,k,al,H=>Bool.rec (motive:=fun _=>Res) (ZzD C CL n ops (Zbe C ops i) o (Zs6 C CL n ops b (i+1) rest k) al H) (ZFf C n ops b i o (Zs6 C CL n ops b (i+1) rest k) al H) (lag C ops i)
noncomputable def lagB (C:Cfg) (ops:Array Oper) (draw:Bool):Bool:=Bool.rec (motive:=fun _=>Bool) false (Bool.rec (motive:=fun _=>Bool) true false (Nat.beq (lags C ops ops.size) 0)) draw
noncomputable def regL (C:Cfg) (CL:Zav) (n:Nat) (ops:Array Oper) (draw:Bool) (k:AL→Hp→Res) (al:AL) (H:Hp):Res :=
 Bool.rec (motive:=fun _=>Res) (Zwz C CL n ops draw 0 ops.toList k al H) (Zs6 C CL n ops H.length 0 ops.toList k al (H++List.replicate (lags C ops ops.size) .free)) (lagB C ops draw)

abbrev SQ:=(KL→AL→Hp→Res)→KL→KL
abbrev BL:=Nat→KL→KL
def frzK (a:AV) (H:Hp) (k:AV→Hp→Res):Res:=k (frzV a H).1 (frzV a H).2
def frzT (n:Nat) (k:AL→Hp→Res):List Nat→AL→Hp→Res
 | [],al,H=>k al H
 | t :: ts,al,H=>frzK (getL n al t) H fun v H'=>frzT n k ts ((t,v) :: al) H'
def frzO (n:Nat) (ts:Option (List Nat)) (k:AL→Hp→Res) (al:AL) (H:Hp):Res :=
 match ts with
 | none=>k al H
 | some ts=>frzT n k ts al H
noncomputable def CXL (C:Cfg) (CL:Zav) (LP:Code→KL→AL→Hp→Res) (kp:Nat→Option (List Nat)) (n:Nat) (sq:SQ) (bl:BL):Code→KL→AL→Hp→Res
 | .skip,k,al,H=>k .normal al H
 | .region id ops draw,k,al,H=>if draw && !Zey ops then none else frzO n (kp (id+1000000)) (regL C CL n ops draw (fun al' H'=>k .normal al' H')) al H
 | .seq a b,k,al,H=>CXL C CL LP kp n sq bl a (sq (fun k' al' H'=>CXL C CL LP kp n sq bl b k' (Za8 kp b al') H') k) al H
 | .cond c x y,k,al,H=>cnd (ZkN C n al c) (CXL C CL LP kp n sq bl x k al H) (CXL C CL LP kp n sq bl y k al H)
 | .block id c,k,al,H=>CXL C CL LP kp n sq bl c (bl id k) al H
 | .loop c,k,al,H=>LP c k (Za8 kp c al) H
 | .exit id,k,al,H=>k (.exit id) al H
 | .label _,k,al,H=>k .normal al H
 | .goto l,k,al,H=>k (.goto l) al H
 | .ret,k,al,H=>k .ret al H
 | _,_,_,_=>none

abbrev CXT:=Cfg→Zav→(Code→KL→AL→Hp→Res)→(Nat→Option (List Nat))→Nat→SQ→BL→Code→KL→AL→Hp→Res
noncomputable def seqL (B:KL→AL→Hp→Res) (k:KL):KL:=(fun (_:CXT) e al H =>
 match e with
 | .normal=>B k al H
 | e=>k e al H) CXL
noncomputable def Za3 (id:Nat) (k:KL):KL:=(fun (_:CXT) e al H =>
 match e with
 | .exit i=>if i=id then k .normal al H else k (.exit i) al H
 | e=>k e al H) CXL

noncomputable def LPL (C:Cfg) (kp:Nat→Option (List Nat)) (n:Nat) (c:Code) (k:KL) (al:AL) (H:Hp):Res :=
 bnd (ZaL C kp (.loop c) (rep n al,H)) fun p=>k p.1 (Znc p.2.1) p.2.2

section
variable {C:Cfg} {kp:Nat→Option (List Nat)} {n:Nat}

theorem ZzX {a b:Nat} (h:a < b):Nat.blt a b=true:=by rw [Nat.blt];exact Nat.ble_eq_true_of_le h
theorem Zyi {a b:Nat} (h:¬ a < b):Nat.blt a b=false:=by
 cases hb:Nat.blt a b with
 | false=>rfl
 | true=>exact absurd (Nat.le_of_ble_eq_true (by rw [Nat.blt] at hb;exact hb)) h
theorem ZkY (al:AL):(rep n al).length=n:=by simp [rep]
theorem Zot (al:AL) (t:Nat):(rep n al)[t]?=if t < n then some (look al t) else none:=by
 unfold rep
 rw [List.getElem?_map]
 split
 ·rename_i h;rw [List.getElem?_range h];rfl
 ·rename_i h;rw [List.getElem?_eq_none (by simp;omega)];rfl
theorem Zv6 (al:AL) (t:Nat):(rep n al).getD t (.tuple [])=getL n al t:=by
 rw [List.getD_eq_getElem?_getD,Zot]
 unfold getL
 by_cases h:t < n
 ·simp [h,ZzX h]
 ·simp [h,Zyi h]
theorem Zpm (f:Nat→AV):∀ (l:List Nat) (t:Nat),look (l.map fun i=>(i,f i)) t=if t ∈ l then f t else .undef:=by
 intro l
 induction l with
 | nil=>intro t;rfl
 | cons a l ih =>
  intro t
  simp only [List.map_cons,look,ih]
  by_cases h:a=t
  ·subst h;simp
  ·have h2 : Nat.beq a t = false := by
      cases hb:Nat.beq a t with
      | false=>rfl
      | true=>exact absurd (Nat.eq_of_beq_eq_true hb) h
   have h3:¬ t=a:=fun e=>h e.symm
   simp [h2,h3]
theorem ZsU {al:AL} {tm:List AV} (hl:tm.length=n) (h:∀ i,i < n→tm[i]?=some (look al i)):rep n al=tm:=by
 apply List.ext_getElem?
 intro i
 rw [Zot]
 split
 ·rename_i hi;rw [h i hi]
 ·rename_i hi;rw [List.getElem?_eq_none (by omega)]
theorem ZFG {tm:List AV} (h:tm.length=n):rep n (Znc tm)=tm:=by
 apply ZsU h
 intro i hi
 unfold Znc
 rw [Zpm]
 have:i < tm.length:=by omega
 simp [this]
theorem ZHq {args:List AV} (h:args.length≤n):rep n (Znc args)=args++List.replicate (n - args.length) .undef:=by
 apply ZsU
 ·simp;omega
 ·intro i hi
  unfold Znc
  rw [Zpm,List.getElem?_append]
  by_cases h':i < args.length
  ·simp [h']
  ·have h2:i - args.length < n - args.length:=by omega
   simp [h',h2]
theorem Zy7 (al:AL) (dst:Option Tmp) (v:AV):rep n (putL al dst v)=aput (rep n al) dst v:=by
 cases dst with
 | none=>rfl
 | some d =>
  apply ZsU
  ·simp [aput,ZkY]
  ·intro i hi
   simp only [aput,putL,look]
   by_cases h:d=i
   ·subst h;simp [ZkY,hi]
   ·have h2 : Nat.beq d i = false := by
       cases hb:Nat.beq d i with
       | false=>rfl
       | true=>exact absurd (Nat.eq_of_beq_eq_true hb) h
    rw [List.getElem?_set_ne h,Zot]
    simp [hi,h2]
theorem Zzl (keep:List Nat):∀ (l:List AV) (i j:Nat),(Zbq keep i l)[j]?=(l[j]?).map fun a=>if keep.contains (i+j) then a else .undef:=by
 intro l
 induction l with
 | nil=>intro i j;simp [Zbq]
 | cons a l ih =>
  intro i j
  cases j with
  | zero=>simp [Zbq]
  | succ j=>simp only [Zbq,List.getElem?_cons_succ,ih];rw [Nat.add_right_comm,Nat.add_assoc]
theorem ZiQ (c:Code) (al:AL) (H:Hp):trim kp c (rep n al,H)=(rep n (Za8 kp c al),H):=by
 unfold trim Za8
 cases ZbP c with
 | none=>rfl
 | some r =>
  simp only
  cases kp r with
  | none=>rfl
  | some keep =>
   simp only
   refine Prod.ext ?_ rfl
   symm
   apply ZsU
   ·simp [Zi1,ZkY]
   ·intro i hi
    rw [Zzl,Zot,Zpm]
    simp [hi]
theorem ZuX (al:AL):eval C (rep n al)=ZkN C n al:=by
 funext x
 cases x with
 | tmp t=>exact Zv6 al t
 | _=>rfl
theorem ZH1 {α:Type} (ops:Array Oper) (al:AL) (o:Oper) (els:α) (x:Option α):gval ops (rep n al) o els x=ZsP n ops al o els x:=by
 unfold gval ZsP
 cases o.guard with
 | none=>rfl
 | some p =>
  obtain ⟨j,want⟩:=p
  simp only
  cases ops[j]? with
  | none=>rfl
  | some g =>
   simp only
   cases g.dst with
   | none=>rfl
   | some d =>
    simp only
    rw [Zot]
    by_cases h:d < n
    ·simp [h,ZzX h]
    ·simp [h,Zyi h]

theorem ZEI {CL : Zav} {ops : Array Oper} {fl : Bool} {o : Oper} {k : St → Res} {kL : AL → Hp → Res} (hk : ∀ al H, k (rep n al, H) = kL al H) (al : AL) (H : Hp) :
    cxOp C CL ops fl o k (rep n al) H=Zwy C CL n ops fl o kL al H:=by
 unfold cxOp Zwy
 rw [ZuX]
 simp only [ZH1,← Zy7,hk]
 rfl
theorem ZFp {op:Op} {x:Operand} (h:mvOf op=some x) (ev:Operand→AV):ZaD C ev op=some (ev x)∧Zbm C op=0:=by
 cases op <;> simp only [mvOf,Option.some.injEq,reduceCtorEq] at h
 ·subst h;exact ⟨rfl,rfl⟩
 ·subst h;exact ⟨rfl,rfl⟩
theorem ZA4 {CL : Zav} {ops : Array Oper} {fl : Bool} {o : Oper} {k : St → Res} {kL : AL → Hp → Res} (hk : ∀ al H, k (rep n al, H) = kL al H) (al : AL) (H : Hp) :
    cxOp C CL ops fl o k (rep n al) H=ZzD C CL n ops fl o kL al H:=by
 rw [ZEI hk]
 unfold ZzD
 split
 ·rename_i x hg hm
  obtain ⟨h1,h2⟩:=ZFp (C:=C) hm (ZkN C n al)
  unfold Zwy
  rw [h1,h2,ite_self]
  simp only [ZsP,hg,bnd]
 ·rfl
theorem ZEJ {CL : Zav} {ops : Array Oper} {b : Nat} {k : St → Res} {kL : AL → Hp → Res} (hk : ∀ al H, k (rep n al, H) = kL al H) : ∀ (l : List Oper) (i : Nat) (al : AL) (H : Hp),
    ZhR C CL ops true b i l k (rep n al,H)=Zs6 C CL n ops b i l kL al H:=by
 intro l
 induction l with
 | nil=>intro i al H;exact hk al H
 | cons o l ih =>
  intro i al H
  unfold ZhR Zs6
  simp only [Bool.true_and]
  cases hl:lag C ops i with
  | true =>
   simp only [if_true]
   unfold ZFf
   cases hf:Zbe C ops i with
   | true=>rfl
   | false =>
    simp only [Bool.false_eq_true,if_false]
    rw [ZuX]
    congr 1
    funext r
    rw [← ih (i+1) (putL al o.dst r.1) r.2,Zy7]
  | false =>
   simp only [Bool.false_eq_true,if_false]
   exact ZA4 (fun al H=>ih (i+1) al H) al H
theorem ZHc {ops:Array Oper} (h:lags C ops ops.size=0) (i:Nat):lag C ops i=false:=by
 cases hl:lag C ops i with
 | false=>rfl
 | true =>
  have hi:i < ops.size:=by
   unfold lag at hl
   cases ho:ops[i]? with
   | none=>simp [ho] at hl
   | some o=>exact (Array.getElem?_eq_some_iff.1 ho).1
  have:=ZBY hl hi
  omega
theorem Zyl {CL : Zav} {ops : Array Oper} {draw : Bool} {b : Nat} (hd : draw = true → lags C ops ops.size = 0) {k : St → Res} {kL : AL → Hp → Res} (hk : ∀ al H, k (rep n al, H) = kL al H) : ∀ (l : List Oper) (i : Nat) (al : AL) (H : Hp),
    ZhR C CL ops draw b i l k (rep n al,H)=Zwz C CL n ops draw i l kL al H:=by
 intro l
 induction l with
 | nil=>intro i al H;exact hk al H
 | cons o l ih =>
  intro i al H
  unfold ZhR Zwz
  have hl:(draw && lag C ops i)=false:=by
   cases draw with
   | false=>rfl
   | true=>simp [ZHc (hd rfl) i]
  simp only [hl,Bool.false_eq_true,if_false]
  exact ZA4 (fun al H=>ih (i+1) al H) al H
theorem ZIP {CL : Zav} {ops : Array Oper} {draw : Bool} {k : St → Res} {kL : AL → Hp → Res} (hk : ∀ al H, k (rep n al, H) = kL al H) (al : AL) (H : Hp) :
    ZhR C CL ops draw H.length 0 ops.toList k (rep n al,ZeN (if draw then lags C ops ops.size else 0) H)=regL C CL n ops draw kL al H:=by
 unfold regL lagB
 cases draw with
 | false=>exact Zyl (fun h=>by cases h) hk _ _ _ _
 | true =>
  simp only [if_true]
  cases hz:lags C ops ops.size with
  | zero =>
   simp only [Nat.beq,ZeN]
   exact Zyl (fun _=>hz) hk _ _ _ _
  | succ m =>
   simp only [Nat.beq,ZeN]
   exact ZEJ hk _ _ _ _

theorem ZIx {k:St→Res} {kL:AL→Hp→Res} (hk:∀ al H,k (rep n al,H)=kL al H):∀ (ts:List Nat) (al:AL) (H:Hp),k (frzL ts (rep n al,H))=frzT n kL ts al H:=by
 intro ts
 induction ts with
 | nil=>intro al H;exact hk al H
 | cons t ts ih =>
  intro al H
  show k (frzL ts (frz1 (rep n al,H) t))=_
  unfold frz1
  simp only [Zv6]
  have:=Zy7 (n:=n) al (some t) (frzV (getL n al t) H).1
  simp only [aput,putL] at this
  rw [← this]
  exact ih _ _
theorem ZIw {k:St→Res} {kL:AL→Hp→Res} (hk:∀ al H,k (rep n al,H)=kL al H) (id:Nat) (al:AL) (H:Hp):k (frzs kp id (rep n al,H))=frzO n (kp (id+1000000)) kL al H:=by
 unfold frzs frzO
 cases kp (id+1000000) with
 | none=>exact hk al H
 | some ts=>exact ZIx hk ts al H

theorem ZGY (id:Nat) (s:St):(frzs kp id s).1.length=s.1.length:=by
 unfold frzs
 cases kp (id+1000000) with
 | none=>rfl
 | some ts =>
  simp only [frzL]
  induction ts generalizing s with
  | nil=>rfl
  | cons t ts ih=>rw [List.foldl_cons,ih];simp [frz1]
theorem ZFs {call:Zav} {ops:Array Oper} {fl:Bool} {o:Oper} {s s':St} (h:ZdF C call ops fl o s=some s'):s'.1.length=s.1.length:=by
 unfold ZdF at h
 split at h
 ·simp only [Option.some.injEq] at h
  subst h
  cases o.dst <;> simp [aput]
 ·cases h
theorem ZDK {call:Zav} {ops:Array Oper} {draw:Bool} {b i:Nat} {o:Oper} {s s':St} (h:ZbN C call ops draw b i o s=some s'):s'.1.length=s.1.length:=by
 unfold ZbN at h
 split at h
 ·split at h
  ·cases h
  ·split at h
   ·simp only [Option.some.injEq] at h
    subst h
    cases o.dst <;> simp [aput]
   ·cases h
 ·exact ZFs h
theorem ZBq {call:Zav} {ops:Array Oper} {draw:Bool} {b:Nat}:∀ (l:List Oper) (i:Nat) (s s':St),ZaI C call ops draw b i l s=some s'→s'.1.length=s.1.length:=by
 intro l
 induction l with
 | nil=>intro i s s' h;simp [ZaI] at h;rw [h]
 | cons o l ih =>
  intro i s s' h
  unfold ZaI at h
  split at h
  ·rename_i s1 h1
   rw [ih _ _ _ h,ZDK h1]
  ·cases h
theorem Zvb (c:Code) (s:St):(trim kp c s).1.length=s.1.length:=by
 unfold trim
 cases ZbP c with
 | none=>rfl
 | some r =>
  simp only
  cases kp r with
  | none=>rfl
  | some keep=>simp [Zi1]
theorem ZGO {call:Zav} {m:Nat}:∀ (c:Code) (s s':St) (e:AExit),exec C call kp m c s=some (e,s')→s'.1.length=s.1.length:=by
 intro c
 induction c with
 | region id ops draw =>
  intro s s' e h
  simp only [exec] at h
  split at h
  ·cases h
  ·split at h
   ·rename_i s1 h1
    simp only [Option.some.injEq,Prod.mk.injEq] at h
    rw [← h.2,← ZGY (kp:=kp) id s]
    exact (ZBq _ _ _ _ h1 :)
   ·cases h
 | seq a b iha ihb =>
  intro s s' e h
  simp only [exec] at h
  split at h
  ·rename_i s1 h1
   rw [ihb _ _ _ h,Zvb,iha _ _ _ h1]
  ·exact iha _ _ _ h
 | cond c x y ihx ihy =>
  intro s s' e h
  simp only [exec] at h
  split at h
  ·split at h
   ·exact ihx _ _ _ h
   ·exact ihy _ _ _ h
  ·cases h
 | block id c ih =>
  intro s s' e h
  simp only [exec] at h
  split at h
  ·rename_i i s1 h1
   split at h <;>
   ·simp only [Option.some.injEq,Prod.mk.injEq] at h
    rw [← h.2]
    exact ih _ _ _ h1
  ·exact ih _ _ _ h
 | loop c ih =>
  intro s s' e h
  simp only [exec] at h
  have key:∀ (j:Nat) (s:St),ZdE (fun s=>exec C call kp m c (trim kp c s)) j s=some (e,s')→s'.1.length=s.1.length:=by
   intro j
   induction j with
   | zero=>intro s h;simp [ZdE] at h
   | succ j ihj =>
    intro s h
    unfold ZdE at h
    split at h
    ·rename_i s1 h1
     rw [ihj _ h,ih _ _ _ h1,Zvb]
    ·rw [ih _ _ _ h,Zvb]
  exact key _ _ h
 | skip=>intro s s' e h;simp [exec] at h;rw [h.2]
 | exit id=>intro s s' e h;simp [exec] at h;rw [h.2]
 | label l=>intro s s' e h;simp [exec] at h;rw [h.2]
 | goto l=>intro s s' e h;simp [exec] at h;rw [h.2]
 | ret=>intro s s' e h;simp [exec] at h;rw [h.2]
 | _=>intro s s' e h;simp [exec] at h
theorem ZEP {c:Code} {s s':St} {e:AExit} (h:ZaL C kp c s=some (e,s')):s'.1.length=s.1.length:=by
 obtain ⟨m,hm⟩:=ZaB.1 h
 exact ZGO _ _ _ _ hm

def Same (n:Nat) (k:Kt) (kL:KL):Prop:=∀ e al H,k e (rep n al,H)=kL e al H

theorem ZoQ {c:Code} {k:Kt} {kL:KL} (hk:Same n k kL) (al:AL) (H:Hp):LPw C kp c k (rep n al,H)=LPL C kp n c kL al H:=by
 unfold LPw LPL
 cases h:ZaL C kp (.loop c) (rep n al,H) with
 | none=>rfl
 | some p =>
  obtain ⟨e,tm,H'⟩:=p
  have hl:=ZEP h
  simp only [ZkY] at hl
  simp only [bnd]
  rw [← hk e (Znc tm) H',ZFG hl]

theorem Zud:∀ (c:Code) (k:Kt) (kL:KL),Same n k kL→∀ (al:AL) (H:Hp),CX C (Za7 C) (LPw C kp) kp c k (rep n al,H)=CXL C (Za7 C) (LPL C kp n) kp n seqL Za3 c kL al H:=by
 intro c
 induction c with
 | region id ops draw =>
  intro k kL hk al H
  simp only [CX,CXL]
  split
  ·rfl
  ·exact ZIw (kp:=kp) (k:=fun s=>ZhR C (Za7 C) ops draw s.2.length 0 ops.toList (fun s'=>k .normal s') (s.1,ZeN (if draw then lags C ops ops.size else 0) s.2)) (fun al H=>ZIP (fun al H=>hk .normal al H) al H) id al H
 | seq a b iha ihb =>
  intro k kL hk al H
  simp only [CX,CXL]
  refine iha _ _ (fun e al H=>?_) al H
  cases e with
  | normal=>simp only [seqK,seqL];rw [ZiQ];exact ihb k kL hk _ _
  | _=>exact hk _ _ _
 | cond c x y ihx ihy =>
  intro k kL hk al H
  simp only [CX,CXL]
  rw [ZuX,ihx k kL hk,ihy k kL hk]
 | block id c ih =>
  intro k kL hk al H
  simp only [CX,CXL]
  refine ih _ _ (fun e al H=>?_) al H
  cases e with
  | exit i =>
   simp only [Zs3,Za3]
   split <;> exact hk _ _ _
  | _=>exact hk _ _ _
 | loop c _ =>
  intro k kL hk al H
  simp only [CX,CXL]
  rw [ZiQ]
  exact ZoQ hk _ _
 | skip=>intro k kL hk al H;exact hk _ _ _
 | exit id=>intro k kL hk al H;exact hk _ _ _
 | label l=>intro k kL hk al H;exact hk _ _ _
 | goto l=>intro k kL hk al H;exact hk _ _ _
 | ret=>intro k kL hk al H;exact hk _ _ _
 | _=>intro k kL hk al H;rfl

def Tame (n:Nat) (kL:KL):Prop:=∃ k,Same n k kL

theorem Zah (id:Nat) {kL:KL} (h:Tame n kL):Tame n (Za3 id kL):=by
 obtain ⟨k,hk⟩:=h
 refine ⟨Zs3 id k,fun e al H=>?_⟩
 cases e with
 | exit i =>
  simp only [Zs3,Za3]
  split <;> exact hk _ _ _
 | _=>exact hk _ _ _
theorem Zak (b:Code) {kL:KL} (h:Tame n kL):Tame n (seqL (fun k' al' H'=>CXL C (Za7 C) (LPL C kp n) kp n seqL Za3 b k' (Za8 kp b al') H') kL):=by
 obtain ⟨k,hk⟩:=h
 refine ⟨seqK (fun s'=>CX C (Za7 C) (LPw C kp) kp b k (trim kp b s')) k,fun e al H=>?_⟩
 cases e with
 | normal=>simp only [seqK,seqL];rw [ZiQ];exact Zud b k kL hk _ _
 | _=>exact hk _ _ _
theorem Znb (c:Code) {kL:KL} (h:Tame n kL):Tame n (seqL (fun k' al' H'=>LPL C kp n c k' (Za8 kp c al') H') kL):=by
 obtain ⟨k,hk⟩:=h
 refine ⟨seqK (fun s'=>LPw C kp c k (trim kp c s')) k,fun e al H=>?_⟩
 cases e with
 | normal=>simp only [seqK,seqL];rw [ZiQ];exact ZoQ hk _ _
 | _=>exact hk _ _ _
theorem ZJ5 {c:Code} {kL:KL} (h:Tame n kL) (al:AL) (H:Hp):LPL C kp n c kL al H=CXL C (Za7 C) (LPL C kp n) kp n seqL Za3 c (seqL (fun k' al' H'=>LPL C kp n c k' (Za8 kp c al') H') kL) (Za8 kp c al) H:=by
 obtain ⟨k,hk⟩:=h
 rw [← ZoQ hk,ZJ6,ZiQ]
 refine Zud c _ _ (fun e al H=>?_) _ _
 cases e with
 | normal=>simp only [seqK,seqL];rw [ZiQ];exact ZoQ hk _ _
 | _=>exact hk _ _ _

def Zy8 (C:Cfg) (n:Nat) (al:AL) (H:Hp):ResultVar→Option AV
 | .tmp t=>some (getL n al t)
 | .cell a t=>match Zbu C.P t,szT C.P t with
  | some g,some sz=>Za2 g sz (getL n al a) H
  | _,_=>none
def resL (C:Cfg) (n:Nat) (al:AL) (H:Hp):List ResultVar→List AV→(List AV→Res)→Res
 | [],acc,k=>k acc
 | r :: rs,acc,k=>bnd (Zy8 C n al H r) fun v=>resL C n al H rs (acc++[v]) k
noncomputable abbrev retL (C:Cfg) (n:Nat) (f:FuncId) (fn:Func) (H0:Hp):KL:=fun e al H =>
 match e with
 | .normal=>resL C n al H fn.results.toList [] (Zsh C f H0 H)
 | .ret=>resL C n al H fn.results.toList [] (Zsh C f H0 H)
 | _=>none
theorem ZC2 (al:AL) (H:Hp) (k:List AV→Res):∀ (rs:List ResultVar) (acc:List AV),resK C rs (rep n al,H) acc k=resL C n al H rs acc k:=by
 intro rs
 induction rs with
 | nil=>intro acc;rfl
 | cons r rs ih =>
  intro acc
  unfold resK resL
  have:ZbW C (rep n al,H) r=Zy8 C n al H r:=by
   cases r <;> (simp only [ZbW,Zy8,Zv6] <;> rfl)
  rw [this]
  simp only [ih]
theorem ZAD (f:FuncId) (fn:Func) (H0:Hp):Same n (retK C f fn H0) (retL C n f fn H0):=by
 intro e al H
 cases e with
 | normal=>exact ZC2 _ _ _ _ _
 | ret=>exact ZC2 _ _ _ _ _
 | _=>rfl
theorem Zao (f:FuncId) (fn:Func) (H0:Hp):Tame n (retL C n f fn H0):=⟨_,ZAD f fn H0⟩
def ZoU:Nat→List AV→AL
 | _,[]=>[]
 | i,a :: r=>(i,a) :: ZoU (i+1) r
theorem ZBa (args:List AV):rep n (ZoU 0 args)=rep n (Znc args):=by
 have key:∀ (l:List AV) (i t:Nat),look (ZoU i l) t=if i≤t then l.getD (t - i) .undef else .undef:=by
  intro l
  induction l with
  | nil=>intro i t;simp [ZoU,look]
  | cons a l ih =>
   intro i t
   simp only [ZoU,look,ih]
   by_cases h:i=t
   ·subst h;simp
   ·have h2 : Nat.beq i t = false := by
       cases hb:Nat.beq i t with
       | false=>rfl
       | true=>exact absurd (Nat.eq_of_beq_eq_true hb) h
    simp only [h2,cond_false]
    by_cases h3:i≤t
    ·have h4:i+1≤t:=by omega
     have h5:t - i=(t - (i+1))+1:=by omega
     simp [h3,h4,h5]
    ·have h4:¬ i+1≤t:=by omega
     simp [h3,h4]
 unfold rep
 apply List.map_congr_left
 intro t _
 rw [key]
 unfold Znc
 rw [Zpm]
 by_cases h:t < args.length <;> simp [h]
theorem ZEw {f : FuncId} {fn : Func} {c : Code} (hf : C.P.funcs[f]? = some fn) (hb : fn.body = some c) (hN : fn.ntmps = n) (args : List AV) (hn : Nat.ble args.length n = true) (H : Hp) :
    Za7 C f args H=CXL C (Za7 C) (LPL C (C.keep f) n) (C.keep f) n seqL Za3 c (retL C n f fn H) (ZoU 0 args) H:=by
 subst hN
 rw [ZGw hf hb,← ZHq (Nat.le_of_ble_eq_true hn),← ZBa]
 exact Zud _ _ _ (ZAD f fn H) _ _
end
end Go.Am
