/-
  THE ABSTRACT MACHINE, part R: the slots as a short list.
-/
import Derived.Test.YtehanadfidoodaaGreatDoorEmOx
namespace Go.Am
open RowKit
abbrev AL:=List (Nat×AV)
abbrev KL:=AExit→AL→Hp→Z3
def look:AL→Nat→AV
 |[],_=>.undef
 |(i,v)::r,t=>bif Nat.beq i t then v else look r t
def XQ (n:Nat)(al:AL):List AV:=(List.range n).map (look al)
def Mg (tm:List AV):AL:=(List.range tm.length).map fun i=>(i,tm.getD i .undef)
def OS (n:Nat)(al:AL)(t:Nat):AV:=bif Nat.blt t n then look al t else .tuple []
def Tf (C:Cfg)(n:Nat)(al:AL):Operand→AV
 |.tmp t=>OS n al t
 |x=>eval C [] x
def I9 {α:Type}(n:Nat)(ops:Array Oper)(al:AL)(o:Oper)(els:α)(x:Option α):Option α :=
 match o.guard with
 |none=>x
 |some (j,want)=>match (match ops[j]? with|some g=>g.dst|none=>none) with
  |none=>some els
  |some d=>bif Nat.blt d n then Z6 (look al d) want els x else some els
def S6 (al:AL)(dst:Option Tmp)(v:AV):AL :=
 match dst with
 |some d=>(d,v)::al
 |none=>al
def ZR (kp:Nat→Option (List Nat))(c:Code)(al:AL):AL :=
 match XF c with
 |none=>al
 |some r=>match kp r with
  |none=>al
  |some keep=>keep.map fun t=>(t,look al t)
def Zof:Op→Option Operand
 |.move x=>some x
 |.assign x=>some x
 |_=>none
def Zb9 (C:Cfg)(CL:ZD)(n:Nat)(ops:Array Oper)(fl:Bool)(o:Oper)(k:AL→Hp→Z3)(al:AL)(H:Hp):Z3 :=
 match (if fl then 0 else X5 C o.op) with
 |0=>Z0 (I9 n ops al o (.tuple []) (ZS C (Tf C n al) o.op)) fun v=>k (S6 al o.dst v) H
 |1=>Z0 (I9 n ops al o (.tuple []) (Fh C (Tf C n al) H o.op)) fun v=>k (S6 al o.dst v) H
 |_=>Z0 (I9 n ops al o (.tuple [],H) (ZE C CL (Tf C n al) H o.op)) fun r=>k (S6 al o.dst r.1) r.2
def Zej (C:Cfg)(CL:ZD)(n:Nat)(ops:Array Oper)(fl:Bool)(o:Oper)(k:AL→Hp→Z3)(al:AL)(H:Hp):Z3 :=
 match o.guard,Zof o.op with
 |none,some x=>k (S6 al o.dst (Tf C n al x)) H
 |_,_=>Zb9 C CL n ops fl o k al H
def Zba (C:Cfg)(CL:ZD)(n:Nat)(ops:Array Oper)(draw:Bool):Nat→List Oper→(AL→Hp→Z3)→AL→Hp→Z3
 |_,[],k,al,H=>k al H
 |i,o::rest,k,al,H=>Zej C CL n ops (draw&&YV C ops i) o (Zba C CL n ops draw (i+1) rest k) al H
noncomputable def Zlf (C:Cfg)(n:Nat)(ops:Array Oper)(b i:Nat)(o:Oper)(k:AL→Hp→Z3)(al:AL)(H:Hp):Z3 :=
 Bool.rec (motive:=fun _=>Z3) (Z0 (Rb (b+WB C ops i) (Py C (Tf C n al) o.op) H) fun r=>k (S6 al o.dst r.1) r.2) none (YV C ops i)
noncomputable def HW (C:Cfg)(CL:ZD)(n:Nat)(ops:Array Oper)(b:Nat):Nat→List Oper→(AL→Hp→Z3)→AL→Hp→Z3
 |_,[],k,al,H=>k al H
 |i,o::rest,k,al,H=>Bool.rec (motive:=fun _=>Z3) (Zej C CL n ops (YV C ops i) o (HW C CL n ops b (i+1) rest k) al H) (Zlf C n ops b i o (HW C CL n ops b (i+1) rest k) al H) (Wm C ops i)
noncomputable def Zr9 (C:Cfg)(ops:Array Oper)(draw:Bool):Bool:=Bool.rec (motive:=fun _=>Bool) false (Bool.rec (motive:=fun _=>Bool) true false (Nat.beq (WB C ops ops.size) 0)) draw
noncomputable def Zjv (C:Cfg)(CL:ZD)(n:Nat)(ops:Array Oper)(draw:Bool)(k:AL→Hp→Z3)(al:AL)(H:Hp):Z3 :=
 Bool.rec (motive:=fun _=>Z3) (Zba C CL n ops draw 0 ops.toList k al H) (HW C CL n ops H.length 0 ops.toList k al (H++List.replicate (WB C ops ops.size) .free)) (Zr9 C ops draw)
abbrev SQ:=(KL→AL→Hp→Z3)→KL→KL
abbrev BL:=Nat→KL→KL
def X3 (a:AV)(H:Hp)(k:AV→Hp→Z3):Z3:=k (GC a H).1 (GC a H).2
def ZnH (n:Nat)(k:AL→Hp→Z3):List Nat→AL→Hp→Z3
 |[],al,H=>k al H
 |t::ts,al,H=>X3 (OS n al t) H fun v H'=>ZnH n k ts ((t,v)::al) H'
def ZiV (n:Nat)(ts:Option (List Nat))(k:AL→Hp→Z3)(al:AL)(H:Hp):Z3 :=
 match ts with
 |none=>k al H
 |some ts=>ZnH n k ts al H
noncomputable def Yl (C:Cfg)(CL:ZD)(LP:Code→KL→AL→Hp→Z3)(kp:Nat→Option (List Nat))(n:Nat)(sq:SQ)(bl:BL):Code→KL→AL→Hp→Z3
 |.skip,k,al,H=>k .normal al H
 |.region id ops draw,k,al,H=>if draw&&!QG ops then none else ZiV n (kp (id+1000000)) (Zjv C CL n ops draw (fun al' H'=>k .normal al' H')) al H
 |.seq a b,k,al,H=>Yl C CL LP kp n sq bl a (sq (fun k' al' H'=>Yl C CL LP kp n sq bl b k' (ZR kp b al') H') k) al H
 |.cond c x y,k,al,H=>Zl (Tf C n al c) (Yl C CL LP kp n sq bl x k al H) (Yl C CL LP kp n sq bl y k al H)
 |.block id c,k,al,H=>Yl C CL LP kp n sq bl c (bl id k) al H
 |.loop c,k,al,H=>LP c k (ZR kp c al) H
 |.exit id,k,al,H=>k (.exit id) al H
 |.label _,k,al,H=>k .normal al H
 |.goto l,k,al,H=>k (.goto l) al H
 |.ret,k,al,H=>k .ret al H
 |_,_,_,_=>none
abbrev CXT:=Cfg→ZD→(Code→KL→AL→Hp→Z3)→(Nat→Option (List Nat))→Nat→SQ→BL→Code→KL→AL→Hp→Z3
noncomputable def Zd (B:KL→AL→Hp→Z3)(k:KL):KL:=(fun (_:CXT) e al H =>
 match e with
 |.normal=>B k al H
 |e=>k e al H) Yl
noncomputable def Z7 (id:Nat)(k:KL):KL:=(fun (_:CXT) e al H =>
 match e with
 |.exit i=>if i=id then k .normal al H else k (.exit i) al H
 |e=>k e al H) Yl
noncomputable def Y8 (C:Cfg)(kp:Nat→Option (List Nat))(n:Nat)(c:Code)(k:KL)(al:AL)(H:Hp):Z3 :=
 Z0 (Yi C kp (.loop c) (XQ n al,H)) fun p=>k p.1 (Mg p.2.1) p.2.2
section
variable {C:Cfg}{kp:Nat→Option (List Nat)}{n:Nat}
theorem ZeG {a b:Nat}(h:a<b):Nat.blt a b=true:=by rw[Nat.blt];exact Nat.ble_eq_true_of_le h
theorem Zd0 {a b:Nat}(h:¬ a<b):Nat.blt a b=false:=by
 cases hb:Nat.blt a b with
 |false=>rfl
 |true=>exact absurd (Nat.le_of_ble_eq_true (by rw[Nat.blt]at hb;exact hb)) h
theorem Tv (al:AL):(XQ n al).length=n:=by simp[XQ]
theorem LM (al:AL)(t:Nat):(XQ n al)[t]?=if t<n then some (look al t) else none:=by
 unfold XQ
 rw[List.getElem?_map]
 split
 ·rename_i h;rw[List.getElem?_range h];rfl
 ·rename_i h;rw[List.getElem?_eq_none (by simp;omega)];rfl
theorem Za4 (al:AL)(t:Nat):(XQ n al).getD t (.tuple [])=OS n al t:=by
 rw[List.getD_eq_getElem?_getD,LM]
 unfold OS
 by_cases h:t<n
 ·simp[h,ZeG h]
 ·simp[h,Zd0 h]
theorem EX (f:Nat→AV):∀ (l:List Nat) (t:Nat),look (l.map fun i=>(i,f i)) t=if t∈l then f t else .undef:=by
 intro l
 induction l with
 |nil=>intro t;rfl
 |cons a l ih =>
  intro t
  simp only[List.map_cons,look,ih]
  by_cases h:a=t
  ·subst h;simp
  ·have h2:Nat.beq a t=false:=by
    cases hb:Nat.beq a t with
    |false=>rfl
    |true=>exact absurd (Nat.eq_of_beq_eq_true hb) h
   have h3:¬ t=a:=fun e=>h e.symm
   simp[h2,h3]
theorem If {al:AL}{tm:List AV}(hl:tm.length=n)(h:∀ i,i<n→tm[i]?=some (look al i)):XQ n al=tm:=by
 apply List.ext_getElem?
 intro i
 rw[LM]
 split
 ·rename_i hi;rw[h i hi]
 ·rename_i hi;rw[List.getElem?_eq_none (by omega)]
theorem ZlY {tm:List AV}(h:tm.length=n):XQ n (Mg tm)=tm:=by
 apply If h
 intro i hi
 unfold Mg
 rw[EX]
 have:i<tm.length:=by omega
 simp[this]
theorem Zot {args:List AV}(h:args.length≤n):XQ n (Mg args)=args++List.replicate (n-args.length) .undef:=by
 apply If
 ·simp;omega
 ·intro i hi
  unfold Mg
  rw[EX,List.getElem?_append]
  by_cases h':i<args.length
  ·simp[h']
  ·have h2:i-args.length<n-args.length:=by omega
   simp[h',h2]
theorem ZcK (al:AL)(dst:Option Tmp)(v:AV):XQ n (S6 al dst v)=Wl (XQ n al) dst v:=by
 cases dst with
 |none=>rfl
 |some d =>
  apply If
  ·simp[Wl,Tv]
  ·intro i hi
   simp only[Wl,S6,look]
   by_cases h:d=i
   ·subst h;simp[Tv,hi]
   ·have h2:Nat.beq d i=false:=by
     cases hb:Nat.beq d i with
     |false=>rfl
     |true=>exact absurd (Nat.eq_of_beq_eq_true hb) h
    rw[List.getElem?_set_ne h,LM]
    simp[hi,h2]
theorem Ze3 (keep:List Nat):∀ (l:List AV) (i j:Nat),(X9 keep i l)[j]?=(l[j]?).map fun a=>if keep.contains (i+j) then a else .undef:=by
 intro l
 induction l with
 |nil=>intro i j;simp[X9]
 |cons a l ih =>
  intro i j
  cases j with
  |zero=>simp[X9]
  |succ j=>simp only[X9,List.getElem?_cons_succ,ih];rw[Nat.add_right_comm,Nat.add_assoc]
theorem F9 (c:Code)(al:AL)(H:Hp):trim kp c (XQ n al,H)=(XQ n (ZR kp c al),H):=by
 unfold trim ZR
 cases XF c with
 |none=>rfl
 |some r =>
  simp only
  cases kp r with
  |none=>rfl
  |some keep =>
   simp only
   refine Prod.ext ?_ rfl
   symm
   apply If
   ·simp[BU,Tv]
   ·intro i hi
    rw[Ze3,LM,EX]
    simp[hi]
theorem OJ (al:AL):eval C (XQ n al)=Tf C n al:=by
 funext x
 cases x with
 |tmp t=>exact Za4 al t
 |_=>rfl
theorem ZnO {α:Type}(ops:Array Oper)(al:AL)(o:Oper)(els:α)(x:Option α):EO ops (XQ n al) o els x=I9 n ops al o els x:=by
 unfold EO I9
 cases o.guard with
 |none=>rfl
 |some p =>
  obtain⟨j,want⟩:=p
  simp only
  cases ops[j]? with
  |none=>rfl
  |some g =>
   simp only
   cases g.dst with
   |none=>rfl
   |some d =>
    simp only
    rw[LM]
    by_cases h:d<n
    ·simp[h,ZeG h]
    ·simp[h,Zd0 h]
theorem ZkH {CL:ZD}{ops:Array Oper}{fl:Bool}{o:Oper}{k:St→Z3}{kL:AL→Hp→Z3}(hk:∀ al H,k (XQ n al,H)=kL al H)(al:AL)(H:Hp) :
 Zcu C CL ops fl o k (XQ n al) H=Zb9 C CL n ops fl o kL al H:=by
 unfold Zcu Zb9
 rw[OJ]
 simp only[ZnO,←ZcK,hk]
 rfl
theorem Zlt {op:Op}{x:Operand}(h:Zof op=some x)(ev:Operand→AV):ZS C ev op=some (ev x)∧X5 C op=0:=by
 cases op <;> simp only[Zof,Option.some.injEq,reduceCtorEq]at h
 ·subst h;exact⟨rfl,rfl⟩
 ·subst h;exact⟨rfl,rfl⟩
theorem ZeQ {CL:ZD}{ops:Array Oper}{fl:Bool}{o:Oper}{k:St→Z3}{kL:AL→Hp→Z3}(hk:∀ al H,k (XQ n al,H)=kL al H)(al:AL)(H:Hp) :
 Zcu C CL ops fl o k (XQ n al) H=Zej C CL n ops fl o kL al H:=by
 rw[ZkH hk]
 unfold Zej
 split
 ·rename_i x hg hm
  obtain⟨h1,h2⟩:=Zlt (C:=C) hm (Tf C n al)
  unfold Zb9
  rw[h1,h2,ite_self]
  simp only[I9,hg,Z0]
 ·rfl
theorem ZkI {CL:ZD}{ops:Array Oper}{b:Nat}{k:St→Z3}{kL:AL→Hp→Z3}(hk:∀ al H,k (XQ n al,H)=kL al H):∀ (l:List Oper) (i:Nat) (al:AL) (H:Hp),
 BH C CL ops true b i l k (XQ n al,H)=HW C CL n ops b i l kL al H:=by
 intro l
 induction l with
 |nil=>intro i al H;exact hk al H
 |cons o l ih =>
  intro i al H
  unfold BH HW
  simp only[Bool.true_and]
  cases hl:Wm C ops i with
  |true =>
   simp only[if_true]
   unfold Zlf
   cases hf:YV C ops i with
   |true=>rfl
   |false =>
    simp only[Bool.false_eq_true,if_false]
    rw[OJ]
    congr 1
    funext r
    rw[←ih (i+1) (S6 al o.dst r.1) r.2,ZcK]
  |false =>
   simp only[Bool.false_eq_true,if_false]
   exact ZeQ (fun al H=>ih (i+1) al H) al H
theorem Zo1 {ops:Array Oper}(h:WB C ops ops.size=0)(i:Nat):Wm C ops i=false:=by
 cases hl:Wm C ops i with
 |false=>rfl
 |true =>
  have hi:i<ops.size:=by
   unfold Wm at hl
   cases ho:ops[i]? with
   |none=>simp[ho]at hl
   |some o=>exact (Array.getElem?_eq_some_iff.1 ho).1
  have:=Zhn hl hi
  omega
theorem Zd4 {CL:ZD}{ops:Array Oper}{draw:Bool}{b:Nat}(hd:draw=true→WB C ops ops.size=0){k:St→Z3}{kL:AL→Hp→Z3}(hk:∀ al H,k (XQ n al,H)=kL al H):∀ (l:List Oper) (i:Nat) (al:AL) (H:Hp),
 BH C CL ops draw b i l k (XQ n al,H)=Zba C CL n ops draw i l kL al H:=by
 intro l
 induction l with
 |nil=>intro i al H;exact hk al H
 |cons o l ih =>
  intro i al H
  unfold BH Zba
  have hl:(draw&&Wm C ops i)=false:=by
   cases draw with
   |false=>rfl
   |true=>simp[Zo1 (hd rfl) i]
  simp only[hl,Bool.false_eq_true,if_false]
  exact ZeQ (fun al H=>ih (i+1) al H) al H
theorem Zqf {CL:ZD}{ops:Array Oper}{draw:Bool}{k:St→Z3}{kL:AL→Hp→Z3}(hk:∀ al H,k (XQ n al,H)=kL al H)(al:AL)(H:Hp) :
 BH C CL ops draw H.length 0 ops.toList k (XQ n al,QX (if draw then WB C ops ops.size else 0) H)=Zjv C CL n ops draw kL al H:=by
 unfold Zjv Zr9
 cases draw with
 |false=>exact Zd4 (fun h=>by cases h) hk _ _ _ _
 |true =>
  simp only[if_true]
  cases hz:WB C ops ops.size with
  |zero =>
   simp only[Nat.beq,QX]
   exact Zd4 (fun _=>hz) hk _ _ _ _
  |succ m =>
   simp only[Nat.beq,QX]
   exact ZkI hk _ _ _ _
theorem ZpS {k:St→Z3}{kL:AL→Hp→Z3}(hk:∀ al H,k (XQ n al,H)=kL al H):∀ (ts:List Nat) (al:AL) (H:Hp),k (ZcA ts (XQ n al,H))=ZnH n kL ts al H:=by
 intro ts
 induction ts with
 |nil=>intro al H;exact hk al H
 |cons t ts ih =>
  intro al H
  show k (ZcA ts (frz1 (XQ n al,H) t))=_
  unfold frz1
  simp only[Za4]
  have:=ZcK (n:=n) al (some t) (GC (OS n al t) H).1
  simp only[Wl,S6]at this
  rw[←this]
  exact ih _ _
theorem ZpR {k:St→Z3}{kL:AL→Hp→Z3}(hk:∀ al H,k (XQ n al,H)=kL al H)(id:Nat)(al:AL)(H:Hp):k (frzs kp id (XQ n al,H))=ZiV n (kp (id+1000000)) kL al H:=by
 unfold frzs ZiV
 cases kp (id+1000000) with
 |none=>exact hk al H
 |some ts=>exact ZpS hk ts al H
theorem ZnJ (id:Nat)(s:St):(frzs kp id s).1.length=s.1.length:=by
 unfold frzs
 cases kp (id+1000000) with
 |none=>rfl
 |some ts =>
  simp only[ZcA]
  induction ts generalizing s with
  |nil=>rfl
  |cons t ts ih=>rw[List.foldl_cons,ih];simp[frz1]
theorem ZlE {call:ZD}{ops:Array Oper}{fl:Bool}{o:Oper}{s s':St}(h:Uq C call ops fl o s=some s'):s'.1.length=s.1.length:=by
 unfold Uq at h
 split at h
 ·simp only[Option.some.injEq]at h
  subst h
  cases o.dst <;> simp[Wl]
 ·cases h
theorem Zjt {call:ZD}{ops:Array Oper}{draw:Bool}{b i:Nat}{o:Oper}{s s':St}(h:XD C call ops draw b i o s=some s'):s'.1.length=s.1.length:=by
 unfold XD at h
 split at h
 ·split at h
  ·cases h
  ·split at h
   ·simp only[Option.some.injEq]at h
    subst h
    cases o.dst <;> simp[Wl]
   ·cases h
 ·exact ZlE h
theorem ZgC {call:ZD}{ops:Array Oper}{draw:Bool}{b:Nat}:∀ (l:List Oper) (i:Nat) (s s':St),Yb C call ops draw b i l s=some s'→s'.1.length=s.1.length:=by
 intro l
 induction l with
 |nil=>intro i s s' h;simp[Yb]at h;rw[h]
 |cons o l ih =>
  intro i s s' h
  unfold Yb at h
  split at h
  ·rename_i s1 h1
   rw[ih _ _ _ h,Zjt h1]
  ·cases h
theorem Zae (c:Code)(s:St):(trim kp c s).1.length=s.1.length:=by
 unfold trim
 cases XF c with
 |none=>rfl
 |some r =>
  simp only
  cases kp r with
  |none=>rfl
  |some keep=>simp[BU]
theorem ZnA {call:ZD}{m:Nat}:∀ (c:Code) (s s':St) (e:AExit),ZI C call kp m c s=some (e,s')→s'.1.length=s.1.length:=by
 intro c
 induction c with
 |region id ops draw =>
  intro s s' e h
  simp only[ZI]at h
  split at h
  ·cases h
  ·split at h
   ·rename_i s1 h1
    simp only[Option.some.injEq,Prod.mk.injEq]at h
    rw[←h.2,←ZnJ (kp:=kp) id s]
    exact (ZgC _ _ _ _ h1 :)
   ·cases h
 |seq a b iha ihb =>
  intro s s' e h
  simp only[ZI]at h
  split at h
  ·rename_i s1 h1
   rw[ihb _ _ _ h,Zae,iha _ _ _ h1]
  ·exact iha _ _ _ h
 |cond c x y ihx ihy =>
  intro s s' e h
  simp only[ZI]at h
  split at h
  ·split at h
   ·exact ihx _ _ _ h
   ·exact ihy _ _ _ h
  ·cases h
 |block id c ih =>
  intro s s' e h
  simp only[ZI]at h
  split at h
  ·rename_i i s1 h1
   split at h <;>
   ·simp only[Option.some.injEq,Prod.mk.injEq]at h
    rw[←h.2]
    exact ih _ _ _ h1
  ·exact ih _ _ _ h
 |loop c ih =>
  intro s s' e h
  simp only[ZI]at h
  have key:∀ (j:Nat) (s:St),Up (fun s=>ZI C call kp m c (trim kp c s)) j s=some (e,s')→s'.1.length=s.1.length:=by
   intro j
   induction j with
   |zero=>intro s h;simp[Up]at h
   |succ j ihj =>
    intro s h
    unfold Up at h
    split at h
    ·rename_i s1 h1
     rw[ihj _ h,ih _ _ _ h1,Zae]
    ·rw[ih _ _ _ h,Zae]
  exact key _ _ h
 |skip=>intro s s' e h;simp[ZI]at h;rw[h.2]
 |exit id=>intro s s' e h;simp[ZI]at h;rw[h.2]
 |label l=>intro s s' e h;simp[ZI]at h;rw[h.2]
 |goto l=>intro s s' e h;simp[ZI]at h;rw[h.2]
 |ret=>intro s s' e h;simp[ZI]at h;rw[h.2]
 |_=>intro s s' e h;simp[ZI]at h
theorem ZkQ {c:Code}{s s':St}{e:AExit}(h:Yi C kp c s=some (e,s')):s'.1.length=s.1.length:=by
 obtain⟨m,hm⟩:=ZO.1 h
 exact ZnA _ _ _ _ hm
def Zet (n:Nat)(k:Kt)(kL:KL):Prop:=∀ e al H,k e (XQ n al,H)=kL e al H
theorem Ee {c:Code}{k:Kt}{kL:KL}(hk:Zet n k kL)(al:AL)(H:Hp):NG C kp c k (XQ n al,H)=Y8 C kp n c kL al H:=by
 unfold NG Y8
 cases h:Yi C kp (.loop c) (XQ n al,H) with
 |none=>rfl
 |some p =>
  obtain⟨e,tm,H'⟩:=p
  have hl:=ZkQ h
  simp only[Tv]at hl
  simp only[Z0]
  rw[←hk e (Mg tm) H',ZlY hl]
theorem Oh:∀ (c:Code) (k:Kt) (kL:KL),Zet n k kL→∀ (al:AL) (H:Hp),CX C (Za C) (NG C kp) kp c k (XQ n al,H)=Yl C (Za C) (Y8 C kp n) kp n Zd Z7 c kL al H:=by
 intro c
 induction c with
 |region id ops draw =>
  intro k kL hk al H
  simp only[CX,Yl]
  split
  ·rfl
  ·exact ZpR (kp:=kp) (k:=fun s=>BH C (Za C) ops draw s.2.length 0 ops.toList (fun s'=>k .normal s') (s.1,QX (if draw then WB C ops ops.size else 0) s.2)) (fun al H=>Zqf (fun al H=>hk .normal al H) al H) id al H
 |seq a b iha ihb =>
  intro k kL hk al H
  simp only[CX,Yl]
  refine iha _ _ (fun e al H=>?_) al H
  cases e with
  |normal=>simp only[Sa,Zd];rw[F9];exact ihb k kL hk _ _
  |_=>exact hk _ _ _
 |cond c x y ihx ihy =>
  intro k kL hk al H
  simp only[CX,Yl]
  rw[OJ,ihx k kL hk,ihy k kL hk]
 |block id c ih =>
  intro k kL hk al H
  simp only[CX,Yl]
  refine ih _ _ (fun e al H=>?_) al H
  cases e with
  |exit i =>
   simp only[HT,Z7]
   split <;> exact hk _ _ _
  |_=>exact hk _ _ _
 |loop c _ =>
  intro k kL hk al H
  simp only[CX,Yl]
  rw[F9]
  exact Ee hk _ _
 |skip=>intro k kL hk al H;exact hk _ _ _
 |exit id=>intro k kL hk al H;exact hk _ _ _
 |label l=>intro k kL hk al H;exact hk _ _ _
 |goto l=>intro k kL hk al H;exact hk _ _ _
 |ret=>intro k kL hk al H;exact hk _ _ _
 |_=>intro k kL hk al H;rfl
def ZT (n:Nat)(kL:KL):Prop:=∃ k,Zet n k kL
theorem Zo (id:Nat){kL:KL}(h:ZT n kL):ZT n (Z7 id kL):=by
 obtain⟨k,hk⟩:=h
 refine⟨HT id k,fun e al H=>?_⟩
 cases e with
 |exit i =>
  simp only[HT,Z7]
  split <;> exact hk _ _ _
 |_=>exact hk _ _ _
theorem Zw (b:Code){kL:KL}(h:ZT n kL):ZT n (Zd (fun k' al' H'=>Yl C (Za C) (Y8 C kp n) kp n Zd Z7 b k' (ZR kp b al') H') kL):=by
 obtain⟨k,hk⟩:=h
 refine⟨Sa (fun s'=>CX C (Za C) (NG C kp) kp b k (trim kp b s')) k,fun e al H=>?_⟩
 cases e with
 |normal=>simp only[Sa,Zd];rw[F9];exact Oh b k kL hk _ _
 |_=>exact hk _ _ _
theorem Mf (c:Code){kL:KL}(h:ZT n kL):ZT n (Zd (fun k' al' H'=>Y8 C kp n c k' (ZR kp c al') H') kL):=by
 obtain⟨k,hk⟩:=h
 refine⟨Sa (fun s'=>NG C kp c k (trim kp c s')) k,fun e al H=>?_⟩
 cases e with
 |normal=>simp only[Sa,Zd];rw[F9];exact Ee hk _ _
 |_=>exact hk _ _ _
theorem ZqB {c:Code}{kL:KL}(h:ZT n kL)(al:AL)(H:Hp):Y8 C kp n c kL al H=Yl C (Za C) (Y8 C kp n) kp n Zd Z7 c (Zd (fun k' al' H'=>Y8 C kp n c k' (ZR kp c al') H') kL) (ZR kp c al) H:=by
 obtain⟨k,hk⟩:=h
 rw[←Ee hk,ZqD,F9]
 refine Oh c _ _ (fun e al H=>?_) _ _
 cases e with
 |normal=>simp only[Sa,Zd];rw[F9];exact Ee hk _ _
 |_=>exact hk _ _ _
def ZcL (C:Cfg)(n:Nat)(al:AL)(H:Hp):ResultVar→Option AV
 |.tmp t=>some (OS n al t)
 |.cell a t=>match Xg C.P t,YY C.P t with
  |some g,some sz=>Z4 g sz (OS n al a) H
  |_,_=>none
def ZfA (C:Cfg)(n:Nat)(al:AL)(H:Hp):List ResultVar→List AV→(List AV→Z3)→Z3
 |[],acc,k=>k acc
 |r::rs,acc,k=>Z0 (ZcL C n al H r) fun v=>ZfA C n al H rs (acc++[v]) k
noncomputable abbrev Zi (C:Cfg)(n:Nat)(f:FuncId)(fn:Func)(H0:Hp):KL:=fun e al H =>
 match e with
 |.normal=>ZfA C n al H fn.results.toList [] (Ax C f H0 H)
 |.ret=>ZfA C n al H fn.results.toList [] (Ax C f H0 H)
 |_=>none
theorem Zhs (al:AL)(H:Hp)(k:List AV→Z3):∀ (rs:List ResultVar) (acc:List AV),S8 C rs (XQ n al,H) acc k=ZfA C n al H rs acc k:=by
 intro rs
 induction rs with
 |nil=>intro acc;rfl
 |cons r rs ih =>
  intro acc
  unfold S8 ZfA
  have:XR C (XQ n al,H) r=ZcL C n al H r:=by
   cases r <;> (simp only[XR,ZcL,Za4] <;> rfl)
  rw[this]
  simp only[ih]
theorem ZfE (f:FuncId)(fn:Func)(H0:Hp):Zet n (Zrp C f fn H0) (Zi C n f fn H0):=by
 intro e al H
 cases e with
 |normal=>exact Zhs _ _ _ _ _
 |ret=>exact Zhs _ _ _ _ _
 |_=>rfl
theorem ZA (f:FuncId)(fn:Func)(H0:Hp):ZT n (Zi C n f fn H0):=⟨_,ZfE f fn H0⟩
def Ek:Nat→List AV→AL
 |_,[]=>[]
 |i,a::r=>(i,a)::Ek (i+1) r
theorem Zgn (args:List AV):XQ n (Ek 0 args)=XQ n (Mg args):=by
 have key:∀ (l:List AV) (i t:Nat),look (Ek i l) t=if i≤t then l.getD (t-i) .undef else .undef:=by
  intro l
  induction l with
  |nil=>intro i t;simp[Ek,look]
  |cons a l ih =>
   intro i t
   simp only[Ek,look,ih]
   by_cases h:i=t
   ·subst h;simp
   ·have h2:Nat.beq i t=false:=by
     cases hb:Nat.beq i t with
     |false=>rfl
     |true=>exact absurd (Nat.eq_of_beq_eq_true hb) h
    simp only[h2,cond_false]
    by_cases h3:i≤t
    ·have h4:i+1≤t:=by omega
     have h5:t-i=(t-(i+1))+1:=by omega
     simp[h3,h4,h5]
    ·have h4:¬ i+1≤t:=by omega
     simp[h3,h4]
 unfold XQ
 apply List.map_congr_left
 intro t _
 rw[key]
 unfold Mg
 rw[EX]
 by_cases h:t<args.length <;> simp[h]
theorem Zkp {f:FuncId}{fn:Func}{c:Code}(hf:C.P.funcs[f]?=some fn)(hb:fn.body=some c)(hN:fn.ntmps=n)(args:List AV)(hn:Nat.ble args.length n=true)(H:Hp) :
 Za C f args H=Yl C (Za C) (Y8 C (C.keep f) n) (C.keep f) n Zd Z7 c (Zi C n f fn H) (Ek 0 args) H:=by
 subst hN
 rw[Zn7 hf hb,←Zot (Nat.le_of_ble_eq_true hn),←Zgn]
 exact Oh _ _ _ (ZfE f fn H) _ _
end
end Go.Am
