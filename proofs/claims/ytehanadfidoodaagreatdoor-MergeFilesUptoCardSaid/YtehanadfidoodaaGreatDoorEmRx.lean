/-
  THE ABSTRACT MACHINE, part R: the slots as a short list.
-/
import Derived.Test.YtehanadfidoodaaGreatDoorEmOx
namespace Go.Am
open RowKit
abbrev AL:=List (Nat×AV)
abbrev KL:=AExit→AL→Hp→Z3
def look:AL→Nat→AV
 |[],_=>.undef
 |(i,v)::r,t=>bif Nat.beq i t then v else look r t
def W6 (n:Nat)(al:AL):List AV:=(List.range n).map (look al)
def Lh (tm:List AV):AL:=(List.range tm.length).map fun i=>(i,tm.getD i .undef)
def Zbt (n:Nat)(al:AL)(t:Nat):AV:=bif Nat.blt t n then look al t else .tuple []
def P1 (C:Cfg)(n:Nat)(al:AL):Operand→AV
 |.tmp t=>Zbt n al t
 |x=>eval C [] x
def OF {α:Type}(n:Nat)(ops:Array Oper)(al:AL)(o:Oper)(els:α)(x:Option α):Option α :=
 match o.guard with
 |none=>x
 |some (j,want)=>match (match ops[j]? with|some g=>g.dst|none=>none) with
  |none=>some els
  |some d=>bif Nat.blt d n then Z7 (look al d) want els x else some els
def Cj (al:AL)(dst:Option Tmp)(v:AV):AL :=
 match dst with
 |some d=>(d,v)::al
 |none=>al
def ZX (kp:Nat→Option (List Nat))(c:Code)(al:AL):AL :=
 match XR c with
 |none=>al
 |some r=>match kp r with
  |none=>al
  |some keep=>keep.map fun t=>(t,look al t)
def ZpU:Op→Option Operand
 |.move x=>some x
 |.assign x=>some x
 |_=>none
def ZcM (C:Cfg)(CL:ZI)(n:Nat)(ops:Array Oper)(fl:Bool)(o:Oper)(k:AL→Hp→Z3)(al:AL)(H:Hp):Z3 :=
 match (if fl then 0 else Xc C o.op) with
 |0=>Z0 (OF n ops al o (.tuple []) (ZY C (P1 C n al) o.op)) fun v=>k (Cj al o.dst v) H
 |1=>Z0 (OF n ops al o (.tuple []) (R6 C (P1 C n al) H o.op)) fun v=>k (Cj al o.dst v) H
 |_=>Z0 (OF n ops al o (.tuple [],H) (ZJ C CL (P1 C n al) H o.op)) fun r=>k (Cj al o.dst r.1) r.2
def Zg4 (C:Cfg)(CL:ZI)(n:Nat)(ops:Array Oper)(fl:Bool)(o:Oper)(k:AL→Hp→Z3)(al:AL)(H:Hp):Z3 :=
 match o.guard,ZpU o.op with
 |none,some x=>k (Cj al o.dst (P1 C n al x)) H
 |_,_=>ZcM C CL n ops fl o k al H
def ZcN (C:Cfg)(CL:ZI)(n:Nat)(ops:Array Oper)(draw:Bool):Nat→List Oper→(AL→Hp→Z3)→AL→Hp→Z3
 |_,[],k,al,H=>k al H
 |i,o::rest,k,al,H=>Zg4 C CL n ops (draw&&X4 C ops i) o (ZcN C CL n ops draw (i+1) rest k) al H
noncomputable def Zn1 (C:Cfg)(n:Nat)(ops:Array Oper)(b i:Nat)(o:Oper)(k:AL→Hp→Z3)(al:AL)(H:Hp):Z3 :=
 Bool.rec (motive:=fun _=>Z3) (Z0 (RZ (b+WP C ops i) (Ni C (P1 C n al) o.op) H) fun r=>k (Cj al o.dst r.1) r.2) none (X4 C ops i)
noncomputable def Ix (C:Cfg)(CL:ZI)(n:Nat)(ops:Array Oper)(b:Nat):Nat→List Oper→(AL→Hp→Z3)→AL→Hp→Z3
 |_,[],k,al,H=>k al H
 |i,o::rest,k,al,H=>Bool.rec (motive:=fun _=>Z3) (Zg4 C CL n ops (X4 C ops i) o (Ix C CL n ops b (i+1) rest k) al H) (Zn1 C n ops b i o (Ix C CL n ops b (i+1) rest k) al H) (Wy C ops i)
noncomputable def ZsF (C:Cfg)(ops:Array Oper)(draw:Bool):Bool:=Bool.rec (motive:=fun _=>Bool) false (Bool.rec (motive:=fun _=>Bool) true false (Nat.beq (WP C ops ops.size) 0)) draw
noncomputable def Zll (C:Cfg)(CL:ZI)(n:Nat)(ops:Array Oper)(draw:Bool)(k:AL→Hp→Z3)(al:AL)(H:Hp):Z3 :=
 Bool.rec (motive:=fun _=>Z3) (ZcN C CL n ops draw 0 ops.toList k al H) (Ix C CL n ops H.length 0 ops.toList k al (H++List.replicate (WP C ops ops.size) .free)) (ZsF C ops draw)
abbrev SQ:=(KL→AL→Hp→Z3)→KL→KL
abbrev BL:=Nat→KL→KL
def YU (a:AV)(H:Hp)(k:AV→Hp→Z3):Z3:=k (Bc a H).1 (Bc a H).2
def Zpo (n:Nat)(k:AL→Hp→Z3):List Nat→AL→Hp→Z3
 |[],al,H=>k al H
 |t::ts,al,H=>YU (Zbt n al t) H fun v H'=>Zpo n k ts ((t,v)::al) H'
def ZkI (n:Nat)(ts:Option (List Nat))(k:AL→Hp→Z3)(al:AL)(H:Hp):Z3 :=
 match ts with
 |none=>k al H
 |some ts=>Zpo n k ts al H
noncomputable def Yl (C:Cfg)(CL:ZI)(LP:Code→KL→AL→Hp→Z3)(kp:Nat→Option (List Nat))(n:Nat)(sq:SQ)(bl:BL):Code→KL→AL→Hp→Z3
 |.skip,k,al,H=>k .normal al H
 |.region id ops draw,k,al,H=>if draw&&!QY ops then none else ZkI n (kp (id+1000000)) (Zll C CL n ops draw (fun al' H'=>k .normal al' H')) al H
 |.seq a b,k,al,H=>Yl C CL LP kp n sq bl a (sq (fun k' al' H'=>Yl C CL LP kp n sq bl b k' (ZX kp b al') H') k) al H
 |.cond c x y,k,al,H=>Zm (P1 C n al c) (Yl C CL LP kp n sq bl x k al H) (Yl C CL LP kp n sq bl y k al H)
 |.block id c,k,al,H=>Yl C CL LP kp n sq bl c (bl id k) al H
 |.loop c,k,al,H=>LP c k (ZX kp c al) H
 |.exit id,k,al,H=>k (.exit id) al H
 |.label _,k,al,H=>k .normal al H
 |.goto l,k,al,H=>k (.goto l) al H
 |.ret,k,al,H=>k .ret al H
 |_,_,_,_=>none
abbrev CXT:=Cfg→ZI→(Code→KL→AL→Hp→Z3)→(Nat→Option (List Nat))→Nat→SQ→BL→Code→KL→AL→Hp→Z3
noncomputable def Zc (B:KL→AL→Hp→Z3)(k:KL):KL:=(fun (_:CXT) e al H =>
 match e with
 |.normal=>B k al H
 |e=>k e al H) Yl
noncomputable def Z6 (id:Nat)(k:KL):KL:=(fun (_:CXT) e al H =>
 match e with
 |.exit i=>if i=id then k .normal al H else k (.exit i) al H
 |e=>k e al H) Yl
noncomputable def Ya (C:Cfg)(kp:Nat→Option (List Nat))(n:Nat)(c:Code)(k:KL)(al:AL)(H:Hp):Z3 :=
 Z0 (Yi C kp (.loop c) (W6 n al,H)) fun p=>k p.1 (Lh p.2.1) p.2.2
section
variable {C:Cfg}{kp:Nat→Option (List Nat)}{n:Nat}
theorem Zgr {a b:Nat}(h:a<b):Nat.blt a b=true:=by rw[Nat.blt];exact Nat.ble_eq_true_of_le h
theorem ZeE {a b:Nat}(h:¬ a<b):Nat.blt a b=false:=by
 cases hb:Nat.blt a b with
 |false=>rfl
 |true=>exact absurd (Nat.le_of_ble_eq_true (by rw[Nat.blt]at hb;exact hb)) h
theorem Pg (al:AL):(W6 n al).length=n:=by simp[W6]
theorem EP (al:AL)(t:Nat):(W6 n al)[t]?=if t<n then some (look al t) else none:=by
 unfold W6
 rw[List.getElem?_map]
 split
 ·rename_i h;rw[List.getElem?_range h];rfl
 ·rename_i h;rw[List.getElem?_eq_none (by simp;omega)];rfl
theorem ZbI (al:AL)(t:Nat):(W6 n al).getD t (.tuple [])=Zbt n al t:=by
 rw[List.getD_eq_getElem?_getD,EP]
 unfold Zbt
 by_cases h:t<n
 ·simp[h,Zgr h]
 ·simp[h,ZeE h]
theorem Cc (f:Nat→AV):∀ (l:List Nat) (t:Nat),look (l.map fun i=>(i,f i)) t=if t∈l then f t else .undef:=by
 intro l
 induction l with
 |nil=>intro t;rfl
 |cons a l ih =>
  intro t
  simp only[List.map_cons,look,ih]
  by_cases h:a=t
  ·subst h;simp
  ·have h2:Nat.beq a t=false:=by
    cases hb:Nat.beq a t with
    |false=>rfl
    |true=>exact absurd (Nat.eq_of_beq_eq_true hb) h
   have h3:¬ t=a:=fun e=>h e.symm
   simp[h2,h3]
theorem OK {al:AL}{tm:List AV}(hl:tm.length=n)(h:∀ i,i<n→tm[i]?=some (look al i)):W6 n al=tm:=by
 apply List.ext_getElem?
 intro i
 rw[EP]
 split
 ·rename_i hi;rw[h i hi]
 ·rename_i hi;rw[List.getElem?_eq_none (by omega)]
theorem ZnH {tm:List AV}(h:tm.length=n):W6 n (Lh tm)=tm:=by
 apply OK h
 intro i hi
 unfold Lh
 rw[Cc]
 have:i<tm.length:=by omega
 simp[this]
theorem Zq7 {args:List AV}(h:args.length≤n):W6 n (Lh args)=args++List.replicate (n-args.length) .undef:=by
 apply OK
 ·simp;omega
 ·intro i hi
  unfold Lh
  rw[Cc,List.getElem?_append]
  by_cases h':i<args.length
  ·simp[h']
  ·have h2:i-args.length<n-args.length:=by omega
   simp[h',h2]
theorem Zeo (al:AL)(dst:Option Tmp)(v:AV):W6 n (Cj al dst v)=Wx (W6 n al) dst v:=by
 cases dst with
 |none=>rfl
 |some d =>
  apply OK
  ·simp[Wx,Pg]
  ·intro i hi
   simp only[Wx,Cj,look]
   by_cases h:d=i
   ·subst h;simp[Pg,hi]
   ·have h2:Nat.beq d i=false:=by
     cases hb:Nat.beq d i with
     |false=>rfl
     |true=>exact absurd (Nat.eq_of_beq_eq_true hb) h
    rw[List.getElem?_set_ne h,EP]
    simp[hi,h2]
theorem ZfO (keep:List Nat):∀ (l:List AV) (i j:Nat),(Xg keep i l)[j]?=(l[j]?).map fun a=>if keep.contains (i+j) then a else .undef:=by
 intro l
 induction l with
 |nil=>intro i j;simp[Xg]
 |cons a l ih =>
  intro i j
  cases j with
  |zero=>simp[Xg]
  |succ j=>simp only[Xg,List.getElem?_cons_succ,ih];rw[Nat.add_right_comm,Nat.add_assoc]
theorem FY (c:Code)(al:AL)(H:Hp):trim kp c (W6 n al,H)=(W6 n (ZX kp c al),H):=by
 unfold trim ZX
 cases XR c with
 |none=>rfl
 |some r =>
  simp only
  cases kp r with
  |none=>rfl
  |some keep =>
   simp only
   refine Prod.ext ?_ rfl
   symm
   apply OK
   ·simp[DA,Pg]
   ·intro i hi
    rw[ZfO,EP,Cc]
    simp[hi]
theorem Zbj (al:AL):eval C (W6 n al)=P1 C n al:=by
 funext x
 cases x with
 |tmp t=>exact ZbI al t
 |_=>rfl
theorem Zpu {α:Type}(ops:Array Oper)(al:AL)(o:Oper)(els:α)(x:Option α):C2 ops (W6 n al) o els x=OF n ops al o els x:=by
 unfold C2 OF
 cases o.guard with
 |none=>rfl
 |some p =>
  obtain⟨j,want⟩:=p
  simp only
  cases ops[j]? with
  |none=>rfl
  |some g =>
   simp only
   cases g.dst with
   |none=>rfl
   |some d =>
    simp only
    rw[EP]
    by_cases h:d<n
    ·simp[h,Zgr h]
    ·simp[h,ZeE h]
theorem Zmu {CL:ZI}{ops:Array Oper}{fl:Bool}{o:Oper}{k:St→Z3}{kL:AL→Hp→Z3}(hk:∀ al H,k (W6 n al,H)=kL al H)(al:AL)(H:Hp) :
 Ze8 C CL ops fl o k (W6 n al) H=ZcM C CL n ops fl o kL al H:=by
 unfold Ze8 ZcM
 rw[Zbj]
 simp only[Zpu,←Zeo,hk]
 rfl
theorem Zng {op:Op}{x:Operand}(h:ZpU op=some x)(ev:Operand→AV):ZY C ev op=some (ev x)∧Xc C op=0:=by
 cases op <;> simp only[ZpU,Option.some.injEq,reduceCtorEq]at h
 ·subst h;exact⟨rfl,rfl⟩
 ·subst h;exact⟨rfl,rfl⟩
theorem ZgC {CL:ZI}{ops:Array Oper}{fl:Bool}{o:Oper}{k:St→Z3}{kL:AL→Hp→Z3}(hk:∀ al H,k (W6 n al,H)=kL al H)(al:AL)(H:Hp) :
 Ze8 C CL ops fl o k (W6 n al) H=Zg4 C CL n ops fl o kL al H:=by
 rw[Zmu hk]
 unfold Zg4
 split
 ·rename_i x hg hm
  obtain⟨h1,h2⟩:=Zng (C:=C) hm (P1 C n al)
  unfold ZcM
  rw[h1,h2,ite_self]
  simp only[OF,hg,Z0]
 ·rfl
theorem Zmv {CL:ZI}{ops:Array Oper}{b:Nat}{k:St→Z3}{kL:AL→Hp→Z3}(hk:∀ al H,k (W6 n al,H)=kL al H):∀ (l:List Oper) (i:Nat) (al:AL) (H:Hp),
 Do C CL ops true b i l k (W6 n al,H)=Ix C CL n ops b i l kL al H:=by
 intro l
 induction l with
 |nil=>intro i al H;exact hk al H
 |cons o l ih =>
  intro i al H
  unfold Do Ix
  simp only[Bool.true_and]
  cases hl:Wy C ops i with
  |true =>
   simp only[if_true]
   unfold Zn1
   cases hf:X4 C ops i with
   |true=>rfl
   |false =>
    simp only[Bool.false_eq_true,if_false]
    rw[Zbj]
    congr 1
    funext r
    rw[←ih (i+1) (Cj al o.dst r.1) r.2,Zeo]
  |false =>
   simp only[Bool.false_eq_true,if_false]
   exact ZgC (fun al H=>ih (i+1) al H) al H
theorem ZpH {ops:Array Oper}(h:WP C ops ops.size=0)(i:Nat):Wy C ops i=false:=by
 cases hl:Wy C ops i with
 |false=>rfl
 |true =>
  have hi:i<ops.size:=by
   unfold Wy at hl
   cases ho:ops[i]? with
   |none=>simp[ho]at hl
   |some o=>exact (Array.getElem?_eq_some_iff.1 ho).1
  have:=Zj8 hl hi
  omega
theorem ZeI {CL:ZI}{ops:Array Oper}{draw:Bool}{b:Nat}(hd:draw=true→WP C ops ops.size=0){k:St→Z3}{kL:AL→Hp→Z3}(hk:∀ al H,k (W6 n al,H)=kL al H):∀ (l:List Oper) (i:Nat) (al:AL) (H:Hp),
 Do C CL ops draw b i l k (W6 n al,H)=ZcN C CL n ops draw i l kL al H:=by
 intro l
 induction l with
 |nil=>intro i al H;exact hk al H
 |cons o l ih =>
  intro i al H
  unfold Do ZcN
  have hl:(draw&&Wy C ops i)=false:=by
   cases draw with
   |false=>rfl
   |true=>simp[ZpH (hd rfl) i]
  simp only[hl,Bool.false_eq_true,if_false]
  exact ZgC (fun al H=>ih (i+1) al H) al H
theorem ZrP {CL:ZI}{ops:Array Oper}{draw:Bool}{k:St→Z3}{kL:AL→Hp→Z3}(hk:∀ al H,k (W6 n al,H)=kL al H)(al:AL)(H:Hp) :
 Do C CL ops draw H.length 0 ops.toList k (W6 n al,Jj (if draw then WP C ops ops.size else 0) H)=Zll C CL n ops draw kL al H:=by
 unfold Zll ZsF
 cases draw with
 |false=>exact ZeI (fun h=>by cases h) hk _ _ _ _
 |true =>
  simp only[if_true]
  cases hz:WP C ops ops.size with
  |zero =>
   simp only[Nat.beq,Jj]
   exact ZeI (fun _=>hz) hk _ _ _ _
  |succ m =>
   simp only[Nat.beq,Jj]
   exact Zmv hk _ _ _ _
theorem Zrr {k:St→Z3}{kL:AL→Hp→Z3}(hk:∀ al H,k (W6 n al,H)=kL al H):∀ (ts:List Nat) (al:AL) (H:Hp),k (Zee ts (W6 n al,H))=Zpo n kL ts al H:=by
 intro ts
 induction ts with
 |nil=>intro al H;exact hk al H
 |cons t ts ih =>
  intro al H
  show k (Zee ts (frz1 (W6 n al,H) t))=_
  unfold frz1
  simp only[ZbI]
  have:=Zeo (n:=n) al (some t) (Bc (Zbt n al t) H).1
  simp only[Wx,Cj]at this
  rw[←this]
  exact ih _ _
theorem Zrq {k:St→Z3}{kL:AL→Hp→Z3}(hk:∀ al H,k (W6 n al,H)=kL al H)(id:Nat)(al:AL)(H:Hp):k (frzs kp id (W6 n al,H))=ZkI n (kp (id+1000000)) kL al H:=by
 unfold frzs ZkI
 cases kp (id+1000000) with
 |none=>exact hk al H
 |some ts=>exact Zrr hk ts al H
theorem Zpq (id:Nat)(s:St):(frzs kp id s).1.length=s.1.length:=by
 unfold frzs
 cases kp (id+1000000) with
 |none=>rfl
 |some ts =>
  simp only[Zee]
  induction ts generalizing s with
  |nil=>rfl
  |cons t ts ih=>rw[List.foldl_cons,ih];simp[frz1]
theorem Zno {call:ZI}{ops:Array Oper}{fl:Bool}{o:Oper}{s s':St}(h:UI C call ops fl o s=some s'):s'.1.length=s.1.length:=by
 unfold UI at h
 split at h
 ·simp only[Option.some.injEq]at h
  subst h
  cases o.dst <;> simp[Wx]
 ·cases h
theorem Zli {call:ZI}{ops:Array Oper}{draw:Bool}{b i:Nat}{o:Oper}{s s':St}(h:XN C call ops draw b i o s=some s'):s'.1.length=s.1.length:=by
 unfold XN at h
 split at h
 ·split at h
  ·cases h
  ·split at h
   ·simp only[Option.some.injEq]at h
    subst h
    cases o.dst <;> simp[Wx]
   ·cases h
 ·exact Zno h
theorem Zio {call:ZI}{ops:Array Oper}{draw:Bool}{b:Nat}:∀ (l:List Oper) (i:Nat) (s s':St),Yb C call ops draw b i l s=some s'→s'.1.length=s.1.length:=by
 intro l
 induction l with
 |nil=>intro i s s' h;simp[Yb]at h;rw[h]
 |cons o l ih =>
  intro i s s' h
  unfold Yb at h
  split at h
  ·rename_i s1 h1
   rw[ih _ _ _ h,Zli h1]
  ·cases h
theorem ZbS (c:Code)(s:St):(trim kp c s).1.length=s.1.length:=by
 unfold trim
 cases XR c with
 |none=>rfl
 |some r =>
  simp only
  cases kp r with
  |none=>rfl
  |some keep=>simp[DA]
theorem Zpi {call:ZI}{m:Nat}:∀ (c:Code) (s s':St) (e:AExit),ZL C call kp m c s=some (e,s')→s'.1.length=s.1.length:=by
 intro c
 induction c with
 |region id ops draw =>
  intro s s' e h
  simp only[ZL]at h
  split at h
  ·cases h
  ·split at h
   ·rename_i s1 h1
    simp only[Option.some.injEq,Prod.mk.injEq]at h
    rw[←h.2,←Zpq (kp:=kp) id s]
    exact (Zio _ _ _ _ h1 :)
   ·cases h
 |seq a b iha ihb =>
  intro s s' e h
  simp only[ZL]at h
  split at h
  ·rename_i s1 h1
   rw[ihb _ _ _ h,ZbS,iha _ _ _ h1]
  ·exact iha _ _ _ h
 |cond c x y ihx ihy =>
  intro s s' e h
  simp only[ZL]at h
  split at h
  ·split at h
   ·exact ihx _ _ _ h
   ·exact ihy _ _ _ h
  ·cases h
 |block id c ih =>
  intro s s' e h
  simp only[ZL]at h
  split at h
  ·rename_i i s1 h1
   split at h <;>
   ·simp only[Option.some.injEq,Prod.mk.injEq]at h
    rw[←h.2]
    exact ih _ _ _ h1
  ·exact ih _ _ _ h
 |loop c ih =>
  intro s s' e h
  simp only[ZL]at h
  have key:∀ (j:Nat) (s:St),UH (fun s=>ZL C call kp m c (trim kp c s)) j s=some (e,s')→s'.1.length=s.1.length:=by
   intro j
   induction j with
   |zero=>intro s h;simp[UH]at h
   |succ j ihj =>
    intro s h
    unfold UH at h
    split at h
    ·rename_i s1 h1
     rw[ihj _ h,ih _ _ _ h1,ZbS]
    ·rw[ih _ _ _ h,ZbS]
  exact key _ _ h
 |skip=>intro s s' e h;simp[ZL]at h;rw[h.2]
 |exit id=>intro s s' e h;simp[ZL]at h;rw[h.2]
 |label l=>intro s s' e h;simp[ZL]at h;rw[h.2]
 |goto l=>intro s s' e h;simp[ZL]at h;rw[h.2]
 |ret=>intro s s' e h;simp[ZL]at h;rw[h.2]
 |_=>intro s s' e h;simp[ZL]at h
theorem ZmD {c:Code}{s s':St}{e:AExit}(h:Yi C kp c s=some (e,s')):s'.1.length=s.1.length:=by
 obtain⟨m,hm⟩:=ZT.1 h
 exact Zpi _ _ _ _ hm
def Zgg (n:Nat)(k:Kt)(kL:KL):Prop:=∀ e al H,k e (W6 n al,H)=kL e al H
theorem Sq {c:Code}{k:Kt}{kL:KL}(hk:Zgg n k kL)(al:AL)(H:Hp):Mx C kp c k (W6 n al,H)=Ya C kp n c kL al H:=by
 unfold Mx Ya
 cases h:Yi C kp (.loop c) (W6 n al,H) with
 |none=>rfl
 |some p =>
  obtain⟨e,tm,H'⟩:=p
  have hl:=ZmD h
  simp only[Pg]at hl
  simp only[Z0]
  rw[←hk e (Lh tm) H',ZnH hl]
theorem ZaQ:∀ (c:Code) (k:Kt) (kL:KL),Zgg n k kL→∀ (al:AL) (H:Hp),CX C (Za C) (Mx C kp) kp c k (W6 n al,H)=Yl C (Za C) (Ya C kp n) kp n Zc Z6 c kL al H:=by
 intro c
 induction c with
 |region id ops draw =>
  intro k kL hk al H
  simp only[CX,Yl]
  split
  ·rfl
  ·exact Zrq (kp:=kp) (k:=fun s=>Do C (Za C) ops draw s.2.length 0 ops.toList (fun s'=>k .normal s') (s.1,Jj (if draw then WP C ops ops.size else 0) s.2)) (fun al H=>ZrP (fun al H=>hk .normal al H) al H) id al H
 |seq a b iha ihb =>
  intro k kL hk al H
  simp only[CX,Yl]
  refine iha _ _ (fun e al H=>?_) al H
  cases e with
  |normal=>simp only[Co,Zc];rw[FY];exact ihb k kL hk _ _
  |_=>exact hk _ _ _
 |cond c x y ihx ihy =>
  intro k kL hk al H
  simp only[CX,Yl]
  rw[Zbj,ihx k kL hk,ihy k kL hk]
 |block id c ih =>
  intro k kL hk al H
  simp only[CX,Yl]
  refine ih _ _ (fun e al H=>?_) al H
  cases e with
  |exit i =>
   simp only[Is,Z6]
   split <;> exact hk _ _ _
  |_=>exact hk _ _ _
 |loop c _ =>
  intro k kL hk al H
  simp only[CX,Yl]
  rw[FY]
  exact Sq hk _ _
 |skip=>intro k kL hk al H;exact hk _ _ _
 |exit id=>intro k kL hk al H;exact hk _ _ _
 |label l=>intro k kL hk al H;exact hk _ _ _
 |goto l=>intro k kL hk al H;exact hk _ _ _
 |ret=>intro k kL hk al H;exact hk _ _ _
 |_=>intro k kL hk al H;rfl
def ZR (n:Nat)(kL:KL):Prop:=∃ k,Zgg n k kL
theorem Zn (id:Nat){kL:KL}(h:ZR n kL):ZR n (Z6 id kL):=by
 obtain⟨k,hk⟩:=h
 refine⟨Is id k,fun e al H=>?_⟩
 cases e with
 |exit i =>
  simp only[Is,Z6]
  split <;> exact hk _ _ _
 |_=>exact hk _ _ _
theorem Zu (b:Code){kL:KL}(h:ZR n kL):ZR n (Zc (fun k' al' H'=>Yl C (Za C) (Ya C kp n) kp n Zc Z6 b k' (ZX kp b al') H') kL):=by
 obtain⟨k,hk⟩:=h
 refine⟨Co (fun s'=>CX C (Za C) (Mx C kp) kp b k (trim kp b s')) k,fun e al H=>?_⟩
 cases e with
 |normal=>simp only[Co,Zc];rw[FY];exact ZaQ b k kL hk _ _
 |_=>exact hk _ _ _
theorem Lg (c:Code){kL:KL}(h:ZR n kL):ZR n (Zc (fun k' al' H'=>Ya C kp n c k' (ZX kp c al') H') kL):=by
 obtain⟨k,hk⟩:=h
 refine⟨Co (fun s'=>Mx C kp c k (trim kp c s')) k,fun e al H=>?_⟩
 cases e with
 |normal=>simp only[Co,Zc];rw[FY];exact Sq hk _ _
 |_=>exact hk _ _ _
theorem Zs6 {c:Code}{kL:KL}(h:ZR n kL)(al:AL)(H:Hp):Ya C kp n c kL al H=Yl C (Za C) (Ya C kp n) kp n Zc Z6 c (Zc (fun k' al' H'=>Ya C kp n c k' (ZX kp c al') H') kL) (ZX kp c al) H:=by
 obtain⟨k,hk⟩:=h
 rw[←Sq hk,Zs8,FY]
 refine ZaQ c _ _ (fun e al H=>?_) _ _
 cases e with
 |normal=>simp only[Co,Zc];rw[FY];exact Sq hk _ _
 |_=>exact hk _ _ _
def Zep (C:Cfg)(n:Nat)(al:AL)(H:Hp):ResultVar→Option AV
 |.tmp t=>some (Zbt n al t)
 |.cell a t=>match Xn C.P t,X7 C.P t with
  |some g,some sz=>Z4 g sz (Zbt n al a) H
  |_,_=>none
def Zhl (C:Cfg)(n:Nat)(al:AL)(H:Hp):List ResultVar→List AV→(List AV→Z3)→Z3
 |[],acc,k=>k acc
 |r::rs,acc,k=>Z0 (Zep C n al H r) fun v=>Zhl C n al H rs (acc++[v]) k
noncomputable abbrev Zh (C:Cfg)(n:Nat)(f:FuncId)(fn:Func)(H0:Hp):KL:=fun e al H =>
 match e with
 |.normal=>Zhl C n al H fn.results.toList [] (O1 C f H0 H)
 |.ret=>Zhl C n al H fn.results.toList [] (O1 C f H0 H)
 |_=>none
theorem Zjc (al:AL)(H:Hp)(k:List AV→Z3):∀ (rs:List ResultVar) (acc:List AV),Cl C rs (W6 n al,H) acc k=Zhl C n al H rs acc k:=by
 intro rs
 induction rs with
 |nil=>intro acc;rfl
 |cons r rs ih =>
  intro acc
  unfold Cl Zhl
  have:W7 C (W6 n al,H) r=Zep C n al H r:=by
   cases r <;> (simp only[W7,Zep,ZbI] <;> rfl)
  rw[this]
  simp only[ih]
theorem Zhp (f:FuncId)(fn:Func)(H0:Hp):Zgg n (ZsU C f fn H0) (Zh C n f fn H0):=by
 intro e al H
 cases e with
 |normal=>exact Zjc _ _ _ _ _
 |ret=>exact Zjc _ _ _ _ _
 |_=>rfl
theorem Zx (f:FuncId)(fn:Func)(H0:Hp):ZR n (Zh C n f fn H0):=⟨_,Zhp f fn H0⟩
def Sw:Nat→List AV→AL
 |_,[]=>[]
 |i,a::r=>(i,a)::Sw (i+1) r
theorem Zi8 (args:List AV):W6 n (Sw 0 args)=W6 n (Lh args):=by
 have key:∀ (l:List AV) (i t:Nat),look (Sw i l) t=if i≤t then l.getD (t-i) .undef else .undef:=by
  intro l
  induction l with
  |nil=>intro i t;simp[Sw,look]
  |cons a l ih =>
   intro i t
   simp only[Sw,look,ih]
   by_cases h:i=t
   ·subst h;simp
   ·have h2:Nat.beq i t=false:=by
     cases hb:Nat.beq i t with
     |false=>rfl
     |true=>exact absurd (Nat.eq_of_beq_eq_true hb) h
    simp only[h2,cond_false]
    by_cases h3:i≤t
    ·have h4:i+1≤t:=by omega
     have h5:t-i=(t-(i+1))+1:=by omega
     simp[h3,h4,h5]
    ·have h4:¬ i+1≤t:=by omega
     simp[h3,h4]
 unfold W6
 apply List.map_congr_left
 intro t _
 rw[key]
 unfold Lh
 rw[Cc]
 by_cases h:t<args.length <;> simp[h]
theorem Zmc {f:FuncId}{fn:Func}{c:Code}(hf:C.P.funcs[f]?=some fn)(hb:fn.body=some c)(hN:fn.ntmps=n)(args:List AV)(hn:Nat.ble args.length n=true)(H:Hp) :
 Za C f args H=Yl C (Za C) (Ya C (C.keep f) n) (C.keep f) n Zc Z6 c (Zh C n f fn H) (Sw 0 args) H:=by
 subst hN
 rw[ZoR hf hb,←Zq7 (Nat.le_of_ble_eq_true hn),←Zi8]
 exact ZaQ _ _ _ (Zhp f fn H) _ _
end
end Go.Am
