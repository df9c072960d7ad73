/-
  THE ABSTRACT MACHINE, part R: the slots as a short list.
-/
import Derived.Test.YtehanadfidoodaaGreatDoorEmOx
namespace Go.Am
open RowKit
abbrev AL:=List (Nat×AV)
abbrev KL:=AExit→AL→Hp→Z4
def look:AL→Nat→AV
 |[],_=>.undef
 |(i,v)::r,t=>bif Nat.beq i t then v else look r t
def XV (n:Nat)(al:AL):List AV:=(List.range n).map (look al)
def Eb (tm:List AV):AL:=(List.range tm.length).map fun i=>(i,tm.getD i .undef)
def ZdZ (n:Nat)(al:AL)(t:Nat):AV:=bif Nat.blt t n then look al t else .tuple []
def Pq (C:Cfg)(n:Nat)(al:AL):Operand→AV
 |.tmp t=>ZdZ n al t
 |x=>eval C [] x
def Zbm {α:Type}(n:Nat)(ops:Array Oper)(al:AL)(o:Oper)(els:α)(x:Option α):Option α :=
 match o.guard with
 |none=>x
 |some (j,want)=>match (match ops[j]? with|some g=>g.dst|none=>none) with
  |none=>some els
  |some d=>bif Nat.blt d n then Z6 (look al d) want els x else some els
def Hu (al:AL)(dst:Option Tmp)(v:AV):AL :=
 match dst with
 |some d=>(d,v)::al
 |none=>al
def ZP (kp:Nat→Option (List Nat))(c:Code)(al:AL):AL :=
 match XJ c with
 |none=>al
 |some r=>match kp r with
  |none=>al
  |some keep=>keep.map fun t=>(t,look al t)
def Zty:Op→Option Operand
 |.move x=>some x
 |.assign x=>some x
 |_=>none
def ZfZ (C:Cfg)(CL:ZG)(n:Nat)(ops:Array Oper)(fl:Bool)(o:Oper)(k:AL→Hp→Z4)(al:AL)(H:Hp):Z4 :=
 match (if fl then 0 else Xd C o.op) with
 |0=>Z0 (Zbm n ops al o (.tuple []) (Y2 C (Pq C n al) o.op)) fun v=>k (Hu al o.dst v) H
 |1=>Z0 (Zbm n ops al o (.tuple []) (Rm C (Pq C n al) H o.op)) fun v=>k (Hu al o.dst v) H
 |_=>Z0 (Zbm n ops al o (.tuple [],H) (ZH C CL (Pq C n al) H o.op)) fun r=>k (Hu al o.dst r.1) r.2
def ZjJ (C:Cfg)(CL:ZG)(n:Nat)(ops:Array Oper)(fl:Bool)(o:Oper)(k:AL→Hp→Z4)(al:AL)(H:Hp):Z4 :=
 match o.guard,Zty o.op with
 |none,some x=>k (Hu al o.dst (Pq C n al x)) H
 |_,_=>ZfZ C CL n ops fl o k al H
def Zg0 (C:Cfg)(CL:ZG)(n:Nat)(ops:Array Oper)(draw:Bool):Nat→List Oper→(AL→Hp→Z4)→AL→Hp→Z4
 |_,[],k,al,H=>k al H
 |i,o::rest,k,al,H=>ZjJ C CL n ops (draw&&X2 C ops i) o (Zg0 C CL n ops draw (i+1) rest k) al H
noncomputable def ZqB (C:Cfg)(n:Nat)(ops:Array Oper)(b i:Nat)(o:Oper)(k:AL→Hp→Z4)(al:AL)(H:Hp):Z4 :=
 Bool.rec (motive:=fun _=>Z4) (Z0 (Tq (b+WK C ops i) (M3 C (Pq C n al) o.op) H) fun r=>k (Hu al o.dst r.1) r.2) none (X2 C ops i)
noncomputable def Zal (C:Cfg)(CL:ZG)(n:Nat)(ops:Array Oper)(b:Nat):Nat→List Oper→(AL→Hp→Z4)→AL→Hp→Z4
 |_,[],k,al,H=>k al H
 |i,o::rest,k,al,H=>Bool.rec (motive:=fun _=>Z4) (ZjJ C CL n ops (X2 C ops i) o (Zal C CL n ops b (i+1) rest k) al H) (ZqB C n ops b i o (Zal C CL n ops b (i+1) rest k) al H) (Wv C ops i)
noncomputable def Zwu (C:Cfg)(ops:Array Oper)(draw:Bool):Bool:=Bool.rec (motive:=fun _=>Bool) false (Bool.rec (motive:=fun _=>Bool) true false (Nat.beq (WK C ops ops.size) 0)) draw
noncomputable def ZoN (C:Cfg)(CL:ZG)(n:Nat)(ops:Array Oper)(draw:Bool)(k:AL→Hp→Z4)(al:AL)(H:Hp):Z4 :=
 Bool.rec (motive:=fun _=>Z4) (Zg0 C CL n ops draw 0 ops.toList k al H) (Zal C CL n ops H.length 0 ops.toList k al (H++List.replicate (WK C ops ops.size) .free)) (Zwu C ops draw)
abbrev SQ:=(KL→AL→Hp→Z4)→KL→KL
abbrev BL:=Nat→KL→KL
def Xl (a:AV)(H:Hp)(k:AV→Hp→Z4):Z4:=k (FN a H).1 (FN a H).2
def Zt1 (n:Nat)(k:AL→Hp→Z4):List Nat→AL→Hp→Z4
 |[],al,H=>k al H
 |t::ts,al,H=>Xl (ZdZ n al t) H fun v H'=>Zt1 n k ts ((t,v)::al) H'
def Zoe (n:Nat)(ts:Option (List Nat))(k:AL→Hp→Z4)(al:AL)(H:Hp):Z4 :=
 match ts with
 |none=>k al H
 |some ts=>Zt1 n k ts al H
noncomputable def Y1 (C:Cfg)(CL:ZG)(LP:Code→KL→AL→Hp→Z4)(kp:Nat→Option (List Nat))(n:Nat)(sq:SQ)(bl:BL):Code→KL→AL→Hp→Z4
 |.skip,k,al,H=>k .normal al H
 |.region id ops draw,k,al,H=>if draw&&!QI ops then none else Zoe n (kp (id+1000000)) (ZoN C CL n ops draw (fun al' H'=>k .normal al' H')) al H
 |.seq a b,k,al,H=>Y1 C CL LP kp n sq bl a (sq (fun k' al' H'=>Y1 C CL LP kp n sq bl b k' (ZP kp b al') H') k) al H
 |.cond c x y,k,al,H=>Zk (Pq C n al c) (Y1 C CL LP kp n sq bl x k al H) (Y1 C CL LP kp n sq bl y k al H)
 |.block id c,k,al,H=>Y1 C CL LP kp n sq bl c (bl id k) al H
 |.loop c,k,al,H=>LP c k (ZP kp c al) H
 |.exit id,k,al,H=>k (.exit id) al H
 |.label _,k,al,H=>k .normal al H
 |.goto l,k,al,H=>k (.goto l) al H
 |.ret,k,al,H=>k .ret al H
 |_,_,_,_=>none
abbrev CXT:=Cfg→ZG→(Code→KL→AL→Hp→Z4)→(Nat→Option (List Nat))→Nat→SQ→BL→Code→KL→AL→Hp→Z4
noncomputable def Zb (B:KL→AL→Hp→Z4)(k:KL):KL:=(fun (_:CXT) e al H =>
 match e with
 |.normal=>B k al H
 |e=>k e al H) Y1
noncomputable def Z7 (id:Nat)(k:KL):KL:=(fun (_:CXT) e al H =>
 match e with
 |.exit i=>if i=id then k .normal al H else k (.exit i) al H
 |e=>k e al H) Y1
noncomputable def ZQ (C:Cfg)(kp:Nat→Option (List Nat))(n:Nat)(c:Code)(k:KL)(al:AL)(H:Hp):Z4 :=
 Z0 (Yo C kp (.loop c) (XV n al,H)) fun p=>k p.1 (Eb p.2.1) p.2.2
section
variable {C:Cfg}{kp:Nat→Option (List Nat)}{n:Nat}
theorem Zkb {a b:Nat}(h:a<b):Nat.blt a b=true:=by rw[Nat.blt];exact Nat.ble_eq_true_of_le h
theorem Zih {a b:Nat}(h:¬ a<b):Nat.blt a b=false:=by
 cases hb:Nat.blt a b with
 |false=>rfl
 |true=>exact absurd (Nat.le_of_ble_eq_true (by rw[Nat.blt]at hb;exact hb)) h
theorem PE (al:AL):(XV n al).length=n:=by simp[XV]
theorem C6 (al:AL)(t:Nat):(XV n al)[t]?=if t<n then some (look al t) else none:=by
 unfold XV
 rw[List.getElem?_map]
 split
 ·rename_i h;rw[List.getElem?_range h];rfl
 ·rename_i h;rw[List.getElem?_eq_none (by simp;omega)];rfl
theorem Zeb (al:AL)(t:Nat):(XV n al).getD t (.tuple [])=ZdZ n al t:=by
 rw[List.getD_eq_getElem?_getD,C6]
 unfold ZdZ
 by_cases h:t<n
 ·simp[h,Zkb h]
 ·simp[h,Zih h]
theorem Hn (f:Nat→AV):∀ (l:List Nat) (t:Nat),look (l.map fun i=>(i,f i)) t=if t∈l then f t else .undef:=by
 intro l
 induction l with
 |nil=>intro t;rfl
 |cons a l ih =>
  intro t
  simp only[List.map_cons,look,ih]
  by_cases h:a=t
  ·subst h;simp
  ·have h2:Nat.beq a t=false:=by
    cases hb:Nat.beq a t with
    |false=>rfl
    |true=>exact absurd (Nat.eq_of_beq_eq_true hb) h
   have h3:¬ t=a:=fun e=>h e.symm
   simp[h2,h3]
theorem Zbs {al:AL}{tm:List AV}(hl:tm.length=n)(h:∀ i,i<n→tm[i]?=some (look al i)):XV n al=tm:=by
 apply List.ext_getElem?
 intro i
 rw[C6]
 split
 ·rename_i hi;rw[h i hi]
 ·rename_i hi;rw[List.getElem?_eq_none (by omega)]
theorem Zri {tm:List AV}(h:tm.length=n):XV n (Eb tm)=tm:=by
 apply Zbs h
 intro i hi
 unfold Eb
 rw[Hn]
 have:i<tm.length:=by omega
 simp[this]
theorem ZtL {args:List AV}(h:args.length≤n):XV n (Eb args)=args++List.replicate (n-args.length) .undef:=by
 apply Zbs
 ·simp;omega
 ·intro i hi
  unfold Eb
  rw[Hn,List.getElem?_append]
  by_cases h':i<args.length
  ·simp[h']
  ·have h2:i-args.length<n-args.length:=by omega
   simp[h',h2]
theorem Zi1 (al:AL)(dst:Option Tmp)(v:AV):XV n (Hu al dst v)=Wt (XV n al) dst v:=by
 cases dst with
 |none=>rfl
 |some d =>
  apply Zbs
  ·simp[Wt,PE]
  ·intro i hi
   simp only[Wt,Hu,look]
   by_cases h:d=i
   ·subst h;simp[PE,hi]
   ·have h2:Nat.beq d i=false:=by
     cases hb:Nat.beq d i with
     |false=>rfl
     |true=>exact absurd (Nat.eq_of_beq_eq_true hb) h
    rw[List.getElem?_set_ne h,C6]
    simp[hi,h2]
theorem Zjp (keep:List Nat):∀ (l:List AV) (i j:Nat),(Xh keep i l)[j]?=(l[j]?).map fun a=>if keep.contains (i+j) then a else .undef:=by
 intro l
 induction l with
 |nil=>intro i j;simp[Xh]
 |cons a l ih =>
  intro i j
  cases j with
  |zero=>simp[Xh]
  |succ j=>simp only[Xh,List.getElem?_cons_succ,ih];rw[Nat.add_right_comm,Nat.add_assoc]
theorem R2 (c:Code)(al:AL)(H:Hp):trim kp c (XV n al,H)=(XV n (ZP kp c al),H):=by
 unfold trim ZP
 cases XJ c with
 |none=>rfl
 |some r =>
  simp only
  cases kp r with
  |none=>rfl
  |some keep =>
   simp only
   refine Prod.ext ?_ rfl
   symm
   apply Zbs
   ·simp[DG,PE]
   ·intro i hi
    rw[Zjp,C6,Hn]
    simp[hi]
theorem ZdP (al:AL):eval C (XV n al)=Pq C n al:=by
 funext x
 cases x with
 |tmp t=>exact Zeb al t
 |_=>rfl
theorem Zt7 {α:Type}(ops:Array Oper)(al:AL)(o:Oper)(els:α)(x:Option α):Hc ops (XV n al) o els x=Zbm n ops al o els x:=by
 unfold Hc Zbm
 cases o.guard with
 |none=>rfl
 |some p =>
  obtain⟨j,want⟩:=p
  simp only
  cases ops[j]? with
  |none=>rfl
  |some g =>
   simp only
   cases g.dst with
   |none=>rfl
   |some d =>
    simp only
    rw[C6]
    by_cases h:d<n
    ·simp[h,Zkb h]
    ·simp[h,Zih h]
theorem ZpZ {CL:ZG}{ops:Array Oper}{fl:Bool}{o:Oper}{k:St→Z4}{kL:AL→Hp→Z4}(hk:∀ al H,k (XV n al,H)=kL al H)(al:AL)(H:Hp) :
 ZhL C CL ops fl o k (XV n al) H=ZfZ C CL n ops fl o kL al H:=by
 unfold ZhL ZfZ
 rw[ZdP]
 simp only[Zt7,←Zi1,hk]
 rfl
theorem ZqP {op:Op}{x:Operand}(h:Zty op=some x)(ev:Operand→AV):Y2 C ev op=some (ev x)∧Xd C op=0:=by
 cases op <;> simp only[Zty,Option.some.injEq,reduceCtorEq]at h
 ·subst h;exact⟨rfl,rfl⟩
 ·subst h;exact⟨rfl,rfl⟩
theorem Zkj {CL:ZG}{ops:Array Oper}{fl:Bool}{o:Oper}{k:St→Z4}{kL:AL→Hp→Z4}(hk:∀ al H,k (XV n al,H)=kL al H)(al:AL)(H:Hp) :
 ZhL C CL ops fl o k (XV n al) H=ZjJ C CL n ops fl o kL al H:=by
 rw[ZpZ hk]
 unfold ZjJ
 split
 ·rename_i x hg hm
  obtain⟨h1,h2⟩:=ZqP (C:=C) hm (Pq C n al)
  unfold ZfZ
  rw[h1,h2,ite_self]
  simp only[Zbm,hg,Z0]
 ·rfl
theorem Zq0 {CL:ZG}{ops:Array Oper}{b:Nat}{k:St→Z4}{kL:AL→Hp→Z4}(hk:∀ al H,k (XV n al,H)=kL al H):∀ (l:List Oper) (i:Nat) (al:AL) (H:Hp),
 Dt C CL ops true b i l k (XV n al,H)=Zal C CL n ops b i l kL al H:=by
 intro l
 induction l with
 |nil=>intro i al H;exact hk al H
 |cons o l ih =>
  intro i al H
  unfold Dt Zal
  simp only[Bool.true_and]
  cases hl:Wv C ops i with
  |true =>
   simp only[if_true]
   unfold ZqB
   cases hf:X2 C ops i with
   |true=>rfl
   |false =>
    simp only[Bool.false_eq_true,if_false]
    rw[ZdP]
    congr 1
    funext r
    rw[←ih (i+1) (Hu al o.dst r.1) r.2,Zi1]
  |false =>
   simp only[Bool.false_eq_true,if_false]
   exact Zkj (fun al H=>ih (i+1) al H) al H
theorem Ztl {ops:Array Oper}(h:WK C ops ops.size=0)(i:Nat):Wv C ops i=false:=by
 cases hl:Wv C ops i with
 |false=>rfl
 |true =>
  have hi:i<ops.size:=by
   unfold Wv at hl
   cases ho:ops[i]? with
   |none=>simp[ho]at hl
   |some o=>exact (Array.getElem?_eq_some_iff.1 ho).1
  have:=ZmL hl hi
  omega
theorem Zik {CL:ZG}{ops:Array Oper}{draw:Bool}{b:Nat}(hd:draw=true→WK C ops ops.size=0){k:St→Z4}{kL:AL→Hp→Z4}(hk:∀ al H,k (XV n al,H)=kL al H):∀ (l:List Oper) (i:Nat) (al:AL) (H:Hp),
 Dt C CL ops draw b i l k (XV n al,H)=Zg0 C CL n ops draw i l kL al H:=by
 intro l
 induction l with
 |nil=>intro i al H;exact hk al H
 |cons o l ih =>
  intro i al H
  unfold Dt Zg0
  have hl:(draw&&Wv C ops i)=false:=by
   cases draw with
   |false=>rfl
   |true=>simp[Ztl (hd rfl) i]
  simp only[hl,Bool.false_eq_true,if_false]
  exact Zkj (fun al H=>ih (i+1) al H) al H
theorem Zvy {CL:ZG}{ops:Array Oper}{draw:Bool}{k:St→Z4}{kL:AL→Hp→Z4}(hk:∀ al H,k (XV n al,H)=kL al H)(al:AL)(H:Hp) :
 Dt C CL ops draw H.length 0 ops.toList k (XV n al,J1 (if draw then WK C ops ops.size else 0) H)=ZoN C CL n ops draw kL al H:=by
 unfold ZoN Zwu
 cases draw with
 |false=>exact Zik (fun h=>by cases h) hk _ _ _ _
 |true =>
  simp only[if_true]
  cases hz:WK C ops ops.size with
  |zero =>
   simp only[Nat.beq,J1]
   exact Zik (fun _=>hz) hk _ _ _ _
  |succ m =>
   simp only[Nat.beq,J1]
   exact Zq0 hk _ _ _ _
theorem Zva {k:St→Z4}{kL:AL→Hp→Z4}(hk:∀ al H,k (XV n al,H)=kL al H):∀ (ts:List Nat) (al:AL) (H:Hp),k (ZhR ts (XV n al,H))=Zt1 n kL ts al H:=by
 intro ts
 induction ts with
 |nil=>intro al H;exact hk al H
 |cons t ts ih =>
  intro al H
  show k (ZhR ts (frz1 (XV n al,H) t))=_
  unfold frz1
  simp only[Zeb]
  have:=Zi1 (n:=n) al (some t) (FN (ZdZ n al t) H).1
  simp only[Wt,Hu]at this
  rw[←this]
  exact ih _ _
theorem Zv9 {k:St→Z4}{kL:AL→Hp→Z4}(hk:∀ al H,k (XV n al,H)=kL al H)(id:Nat)(al:AL)(H:Hp):k (frzs kp id (XV n al,H))=Zoe n (kp (id+1000000)) kL al H:=by
 unfold frzs Zoe
 cases kp (id+1000000) with
 |none=>exact hk al H
 |some ts=>exact Zva hk ts al H
theorem Zt2 (id:Nat)(s:St):(frzs kp id s).1.length=s.1.length:=by
 unfold frzs
 cases kp (id+1000000) with
 |none=>rfl
 |some ts =>
  simp only[ZhR]
  induction ts generalizing s with
  |nil=>rfl
  |cons t ts ih=>rw[List.foldl_cons,ih];simp[frz1]
theorem Zr0 {call:ZG}{ops:Array Oper}{fl:Bool}{o:Oper}{s s':St}(h:Ut C call ops fl o s=some s'):s'.1.length=s.1.length:=by
 unfold Ut at h
 split at h
 ·simp only[Option.some.injEq]at h
  subst h
  cases o.dst <;> simp[Wt]
 ·cases h
theorem ZoJ {call:ZG}{ops:Array Oper}{draw:Bool}{b i:Nat}{o:Oper}{s s':St}(h:XH C call ops draw b i o s=some s'):s'.1.length=s.1.length:=by
 unfold XH at h
 split at h
 ·split at h
  ·cases h
  ·split at h
   ·simp only[Option.some.injEq]at h
    subst h
    cases o.dst <;> simp[Wt]
   ·cases h
 ·exact Zr0 h
theorem Zm7 {call:ZG}{ops:Array Oper}{draw:Bool}{b:Nat}:∀ (l:List Oper) (i:Nat) (s s':St),Ye C call ops draw b i l s=some s'→s'.1.length=s.1.length:=by
 intro l
 induction l with
 |nil=>intro i s s' h;simp[Ye]at h;rw[h]
 |cons o l ih =>
  intro i s s' h
  unfold Ye at h
  split at h
  ·rename_i s1 h1
   rw[ih _ _ _ h,ZoJ h1]
  ·cases h
theorem Zen (c:Code)(s:St):(trim kp c s).1.length=s.1.length:=by
 unfold trim
 cases XJ c with
 |none=>rfl
 |some r =>
  simp only
  cases kp r with
  |none=>rfl
  |some keep=>simp[DG]
theorem ZsS {call:ZG}{m:Nat}:∀ (c:Code) (s s':St) (e:AExit),ZN C call kp m c s=some (e,s')→s'.1.length=s.1.length:=by
 intro c
 induction c with
 |region id ops draw =>
  intro s s' e h
  simp only[ZN]at h
  split at h
  ·cases h
  ·split at h
   ·rename_i s1 h1
    simp only[Option.some.injEq,Prod.mk.injEq]at h
    rw[←h.2,←Zt2 (kp:=kp) id s]
    exact (Zm7 _ _ _ _ h1 :)
   ·cases h
 |seq a b iha ihb =>
  intro s s' e h
  simp only[ZN]at h
  split at h
  ·rename_i s1 h1
   rw[ihb _ _ _ h,Zen,iha _ _ _ h1]
  ·exact iha _ _ _ h
 |cond c x y ihx ihy =>
  intro s s' e h
  simp only[ZN]at h
  split at h
  ·split at h
   ·exact ihx _ _ _ h
   ·exact ihy _ _ _ h
  ·cases h
 |block id c ih =>
  intro s s' e h
  simp only[ZN]at h
  split at h
  ·rename_i i s1 h1
   split at h <;>
   ·simp only[Option.some.injEq,Prod.mk.injEq]at h
    rw[←h.2]
    exact ih _ _ _ h1
  ·exact ih _ _ _ h
 |loop c ih =>
  intro s s' e h
  simp only[ZN]at h
  have key:∀ (j:Nat) (s:St),Us (fun s=>ZN C call kp m c (trim kp c s)) j s=some (e,s')→s'.1.length=s.1.length:=by
   intro j
   induction j with
   |zero=>intro s h;simp[Us]at h
   |succ j ihj =>
    intro s h
    unfold Us at h
    split at h
    ·rename_i s1 h1
     rw[ihj _ h,ih _ _ _ h1,Zen]
    ·rw[ih _ _ _ h,Zen]
  exact key _ _ h
 |skip=>intro s s' e h;simp[ZN]at h;rw[h.2]
 |exit id=>intro s s' e h;simp[ZN]at h;rw[h.2]
 |label l=>intro s s' e h;simp[ZN]at h;rw[h.2]
 |goto l=>intro s s' e h;simp[ZN]at h;rw[h.2]
 |ret=>intro s s' e h;simp[ZN]at h;rw[h.2]
 |_=>intro s s' e h;simp[ZN]at h
theorem Zq7 {c:Code}{s s':St}{e:AExit}(h:Yo C kp c s=some (e,s')):s'.1.length=s.1.length:=by
 obtain⟨m,hm⟩:=ZY.1 h
 exact ZsS _ _ _ _ hm
def ZjY (n:Nat)(k:Kt)(kL:KL):Prop:=∀ e al H,k e (XV n al,H)=kL e al H
theorem Cy {c:Code}{k:Kt}{kL:KL}(hk:ZjY n k kL)(al:AL)(H:Hp):Lo C kp c k (XV n al,H)=ZQ C kp n c kL al H:=by
 unfold Lo ZQ
 cases h:Yo C kp (.loop c) (XV n al,H) with
 |none=>rfl
 |some p =>
  obtain⟨e,tm,H'⟩:=p
  have hl:=Zq7 h
  simp only[PE]at hl
  simp only[Z0]
  rw[←hk e (Eb tm) H',Zri hl]
theorem Zd0:∀ (c:Code) (k:Kt) (kL:KL),ZjY n k kL→∀ (al:AL) (H:Hp),CX C (Za C) (Lo C kp) kp c k (XV n al,H)=Y1 C (Za C) (ZQ C kp n) kp n Zb Z7 c kL al H:=by
 intro c
 induction c with
 |region id ops draw =>
  intro k kL hk al H
  simp only[CX,Y1]
  split
  ·rfl
  ·exact Zv9 (kp:=kp) (k:=fun s=>Dt C (Za C) ops draw s.2.length 0 ops.toList (fun s'=>k .normal s') (s.1,J1 (if draw then WK C ops ops.size else 0) s.2)) (fun al H=>Zvy (fun al H=>hk .normal al H) al H) id al H
 |seq a b iha ihb =>
  intro k kL hk al H
  simp only[CX,Y1]
  refine iha _ _ (fun e al H=>?_) al H
  cases e with
  |normal=>simp only[Hy,Zb];rw[R2];exact ihb k kL hk _ _
  |_=>exact hk _ _ _
 |cond c x y ihx ihy =>
  intro k kL hk al H
  simp only[CX,Y1]
  rw[ZdP,ihx k kL hk,ihy k kL hk]
 |block id c ih =>
  intro k kL hk al H
  simp only[CX,Y1]
  refine ih _ _ (fun e al H=>?_) al H
  cases e with
  |exit i =>
   simp only[Zah,Z7]
   split <;> exact hk _ _ _
  |_=>exact hk _ _ _
 |loop c _ =>
  intro k kL hk al H
  simp only[CX,Y1]
  rw[R2]
  exact Cy hk _ _
 |skip=>intro k kL hk al H;exact hk _ _ _
 |exit id=>intro k kL hk al H;exact hk _ _ _
 |label l=>intro k kL hk al H;exact hk _ _ _
 |goto l=>intro k kL hk al H;exact hk _ _ _
 |ret=>intro k kL hk al H;exact hk _ _ _
 |_=>intro k kL hk al H;rfl
def ZL (n:Nat)(kL:KL):Prop:=∃ k,ZjY n k kL
theorem Zm (id:Nat){kL:KL}(h:ZL n kL):ZL n (Z7 id kL):=by
 obtain⟨k,hk⟩:=h
 refine⟨Zah id k,fun e al H=>?_⟩
 cases e with
 |exit i =>
  simp only[Zah,Z7]
  split <;> exact hk _ _ _
 |_=>exact hk _ _ _
theorem Zu (b:Code){kL:KL}(h:ZL n kL):ZL n (Zb (fun k' al' H'=>Y1 C (Za C) (ZQ C kp n) kp n Zb Z7 b k' (ZP kp b al') H') kL):=by
 obtain⟨k,hk⟩:=h
 refine⟨Hy (fun s'=>CX C (Za C) (Lo C kp) kp b k (trim kp b s')) k,fun e al H=>?_⟩
 cases e with
 |normal=>simp only[Hy,Zb];rw[R2];exact Zd0 b k kL hk _ _
 |_=>exact hk _ _ _
theorem T5 (c:Code){kL:KL}(h:ZL n kL):ZL n (Zb (fun k' al' H'=>ZQ C kp n c k' (ZP kp c al') H') kL):=by
 obtain⟨k,hk⟩:=h
 refine⟨Hy (fun s'=>Lo C kp c k (trim kp c s')) k,fun e al H=>?_⟩
 cases e with
 |normal=>simp only[Hy,Zb];rw[R2];exact Cy hk _ _
 |_=>exact hk _ _ _
theorem ZvT {c:Code}{kL:KL}(h:ZL n kL)(al:AL)(H:Hp):ZQ C kp n c kL al H=Y1 C (Za C) (ZQ C kp n) kp n Zb Z7 c (Zb (fun k' al' H'=>ZQ C kp n c k' (ZP kp c al') H') kL) (ZP kp c al) H:=by
 obtain⟨k,hk⟩:=h
 rw[←Cy hk,ZvV,R2]
 refine Zd0 c _ _ (fun e al H=>?_) _ _
 cases e with
 |normal=>simp only[Hy,Zb];rw[R2];exact Cy hk _ _
 |_=>exact hk _ _ _
def Zi2 (C:Cfg)(n:Nat)(al:AL)(H:Hp):ResultVar→Option AV
 |.tmp t=>some (ZdZ n al t)
 |.cell a t=>match Xm C.P t,X5 C.P t with
  |some g,some sz=>Z3 g sz (ZdZ n al a) H
  |_,_=>none
def Zl5 (C:Cfg)(n:Nat)(al:AL)(H:Hp):List ResultVar→List AV→(List AV→Z4)→Z4
 |[],acc,k=>k acc
 |r::rs,acc,k=>Z0 (Zi2 C n al H r) fun v=>Zl5 C n al H rs (acc++[v]) k
noncomputable abbrev Zf (C:Cfg)(n:Nat)(f:FuncId)(fn:Func)(H0:Hp):KL:=fun e al H =>
 match e with
 |.normal=>Zl5 C n al H fn.results.toList [] (ZaJ C f H0 H)
 |.ret=>Zl5 C n al H fn.results.toList [] (ZaJ C f H0 H)
 |_=>none
theorem ZmP (al:AL)(H:Hp)(k:List AV→Z4):∀ (rs:List ResultVar) (acc:List AV),Hw C rs (XV n al,H) acc k=Zl5 C n al H rs acc k:=by
 intro rs
 induction rs with
 |nil=>intro acc;rfl
 |cons r rs ih =>
  intro acc
  unfold Hw Zl5
  have:XW C (XV n al,H) r=Zi2 C n al H r:=by
   cases r <;> (simp only[XW,Zi2,Zeb] <;> rfl)
  rw[this]
  simp only[ih]
theorem Zl9 (f:FuncId)(fn:Func)(H0:Hp):ZjY n (ZwJ C f fn H0) (Zf C n f fn H0):=by
 intro e al H
 cases e with
 |normal=>exact ZmP _ _ _ _ _
 |ret=>exact ZmP _ _ _ _ _
 |_=>rfl
theorem Zv (f:FuncId)(fn:Func)(H0:Hp):ZL n (Zf C n f fn H0):=⟨_,Zl9 f fn H0⟩
def CE:Nat→List AV→AL
 |_,[]=>[]
 |i,a::r=>(i,a)::CE (i+1) r
theorem ZlR (args:List AV):XV n (CE 0 args)=XV n (Eb args):=by
 have key:∀ (l:List AV) (i t:Nat),look (CE i l) t=if i≤t then l.getD (t-i) .undef else .undef:=by
  intro l
  induction l with
  |nil=>intro i t;simp[CE,look]
  |cons a l ih =>
   intro i t
   simp only[CE,look,ih]
   by_cases h:i=t
   ·subst h;simp
   ·have h2:Nat.beq i t=false:=by
     cases hb:Nat.beq i t with
     |false=>rfl
     |true=>exact absurd (Nat.eq_of_beq_eq_true hb) h
    simp only[h2,cond_false]
    by_cases h3:i≤t
    ·have h4:i+1≤t:=by omega
     have h5:t-i=(t-(i+1))+1:=by omega
     simp[h3,h4,h5]
    ·have h4:¬ i+1≤t:=by omega
     simp[h3,h4]
 unfold XV
 apply List.map_congr_left
 intro t _
 rw[key]
 unfold Eb
 rw[Hn]
 by_cases h:t<args.length <;> simp[h]
theorem ZpK {f:FuncId}{fn:Func}{c:Code}(hf:C.P.funcs[f]?=some fn)(hb:fn.body=some c)(hN:fn.ntmps=n)(args:List AV)(hn:Nat.ble args.length n=true)(H:Hp) :
 Za C f args H=Y1 C (Za C) (ZQ C (C.keep f) n) (C.keep f) n Zb Z7 c (Zf C n f fn H) (CE 0 args) H:=by
 subst hN
 rw[Zss hf hb,←ZtL (Nat.le_of_ble_eq_true hn),←ZlR]
 exact Zd0 _ _ _ (Zl9 f fn H) _ _
end
end Go.Am
