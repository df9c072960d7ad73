/- THE ABSTRACT MACHINE -/
import Derived.Test.YtjmhpjoedfegkaaGreatDoorHmOx
open Option renaming some->T,none->N
open Bool renaming true->S,false->Z
open List renaming length->O
open List renaming getElem?_eq_none->zH,replicate->zI,range->zK
open Nat renaming beq->zA,eq_of_beq_eq_true->zC,blt->zE,le_of_ble_eq_true->zG
open Bool renaming false_eq_true->zD,rec->zF
open Option.some renaming injEq->zB
open Prod.mk renaming injEq->zJ
namespace Go.Am
open RowKit
abbrev AL:=List (Nat×AV)
abbrev KL:=AExit->AL->Hp->Z3
def look:AL->Nat->AV
 |[],_=>.undef
 |(i,v)::r,t=>bif zA i t then v else look r t
def W7 (n:Nat)(h:AL):du:=(zK n).map (look h)
def Oz (tm:du):AL:=(zK (O tm)).map λi=>(i,tm.getD i .undef)
def ZfZ (n:Nat)(h:AL)(t:Nat):AV:=bif zE t n then look h t else .tuple []
def Kd (C:Cfg)(n:Nat)(h:AL):Operand->AV
 |.tmp t=>ZfZ n h t
 |x=>eval C [] x
def ZcH {α:Type}(n:Nat)(ops:Array Oper)(h:AL)(o:Oper)(els:α)(x:Option α):Option α :=
 match o.guard with
 |none=>x
 |some (j,want)=>match (match ops[j]? with|some g=>g.dst|none=>N) with
  |none=>T els
  |some d=>bif zE d n then Z8 (look h d) want els x else T els
def jU (j:AL)(h:Option Tmp)(v:AV):AL :=
 match h with
 |some d=>(d,v)::j
 |none=>j
def Y3 (kp:Nat->Option dv)(c:Code)(h:AL):AL :=
 match YQ c with
 |none=>h
 |some r=>match kp r with
  |none=>h
  |some keep=>keep.map λt=>(t,look h t)
def Zx7:Op->Option Operand
 |.move x=>T x
 |.assign x=>T x
 |_=>N
def ZhM (C:Cfg)(CL:ZQ)(n:Nat)(ops:Array Oper)(fl:Bool)(o:Oper)(k:AL->Hp->Z3)(h:AL)(H:Hp):Z3 :=
 match (if fl then 0 else XU C o.op) with
 |0=>Z0 (ZcH n ops h o (.tuple []) (Yc C (Kd C n h) o.op)) λv=>k (jU h o.dst v) H
 |1=>Z0 (ZcH n ops h o (.tuple []) (Mr C (Kd C n h) H o.op)) λv=>k (jU h o.dst v) H
 |_=>Z0 (ZcH n ops h o (.tuple [],H) (ZP C CL (Kd C n h) H o.op)) λr=>k (jU h o.dst r.1) r.2
def ZlW (C:Cfg)(CL:ZQ)(n:Nat)(ops:Array Oper)(fl:Bool)(o:Oper)(k:AL->Hp->Z3)(h:AL)(H:Hp):Z3 :=
 match o.guard,Zx7 o.op with
 |none,T x=>k (jU h o.dst (Kd C n h x)) H
 |_,_=>ZhM C CL n ops fl o k h H
def ZhN (C:Cfg)(CL:ZQ)(n:Nat)(ops:Array Oper)(draw:Bool):Nat->List Oper->(AL->Hp->Z3)->AL->Hp->Z3
 |_,[],k,al,H=>k al H
 |i,o::rest,k,al,H=>ZlW C CL n ops (draw&&XA C ops i) o (ZhN C CL n ops draw (i+1) rest k) al H
noncomputable def ZtP (C:Cfg)(n:Nat)(ops:Array Oper)(b i:Nat)(o:Oper)(k:AL->Hp->Z3)(h:AL)(H:Hp):Z3 :=
 zF (motive:=λ_=>Z3) (Z0 (LS (b+Vt C ops i) (LW C (Kd C n h) o.op) H) λr=>k (jU h o.dst r.1) r.2) N (XA C ops i)
noncomputable def Zbr (C:Cfg)(CL:ZQ)(n:Nat)(ops:Array Oper)(b:Nat):Nat->List Oper->(AL->Hp->Z3)->AL->Hp->Z3
 |_,[],k,al,H=>k al H
 |i,o::rest,k,al,H=>zF (motive:=λ_=>Z3) (ZlW C CL n ops (XA C ops i) o (Zbr C CL n ops b (i+1) rest k) al H) (ZtP C n ops b i o (Zbr C CL n ops b (i+1) rest k) al H) (Vs C ops i)
noncomputable def ZA1 (C:Cfg)(ops:Array Oper)(draw:Bool):Bool:=zF (motive:=λ_=>Bool) Z (zF (motive:=λ_=>Bool) S Z (zA (Vt C ops ops.size) 0)) draw
noncomputable def ZnB (C:Cfg)(CL:ZQ)(n:Nat)(ops:Array Oper)(draw:Bool)(k:AL->Hp->Z3)(h:AL)(H:Hp):Z3 :=
 zF (motive:=λ_=>Z3) (ZhN C CL n ops draw 0 ops.toList k h H) (Zbr C CL n ops (O H) 0 ops.toList k h (H++zI (Vt C ops ops.size) .free)) (ZA1 C ops draw)
def ZAk (x y:AV):Option Unit :=
 match x,y with
 |.ptr o _,.ptr o' _=>bif zA o o' then N else T ()
 |_,_=>N
def dW (ev:Operand->AV)(r:Z3):List (Nat×Nat)->Z3
 |[]=>r
 |p::l=>Z0 (ZAk (ev (.tmp p.1)) (ev (.tmp p.2))) λ_=>dW ev r l
noncomputable def Zxl (C:Cfg)(CL:ZQ)(n:Nat)(ops:Array Oper)(draw:Bool)(k:AL->Hp->Z3)(h:AL)(H:Hp):Z3 :=
 zF (motive:=λ_=>Z3) (ZnB C CL n ops draw k h H) (dW (Kd C n h) (ZnB C CL n ops draw k h H) (iM C ops)) draw
abbrev SQ:=(KL->AL->Hp->Z3)->KL->KL
abbrev BL:=Nat->KL->KL
def XN (a:AV)(H:Hp)(k:AV->Hp->Z3):Z3:=k (Rm a H).1 (Rm a H).2
def ZwC (n:Nat)(k:AL->Hp->Z3):dv->AL->Hp->Z3
 |[],al,H=>k al H
 |t::ts,al,H=>XN (ZfZ n al t) H λv H'=>ZwC n k ts ((t,v)::al) H'
def Zr6 (n:Nat)(h:Option dv)(k:AL->Hp->Z3)(j:AL)(H:Hp):Z3 :=
 match h with
 |none=>k j H
 |some h=>ZwC n k h j H
noncomputable def Y7 (C:Cfg)(CL:ZQ)(h:Code->KL->AL->Hp->Z3)(kp:Nat->Option dv)(n:Nat)(w:SQ)(u:BL):Code->KL->AL->Hp->Z3
 |.skip,k,al,H=>k .normal al H
 |.region id ops draw,k,al,H=>if draw&&!(Vb ops&&RW C ops) then N else Zr6 n (kp (id+1000000)) (Zxl C CL n ops draw (λj H'=>k .normal j H')) al H
 |.seq a b,k,al,H=>Y7 C CL h kp n w u a (w (λk' j H'=>Y7 C CL h kp n w u b k' (Y3 kp b j) H') k) al H
 |.cond c x y,k,al,H=>Zh (Kd C n al c) (Y7 C CL h kp n w u x k al H) (Y7 C CL h kp n w u y k al H)
 |.block id c,k,al,H=>Y7 C CL h kp n w u c (u id k) al H
 |.loop c,k,al,H=>h c k (Y3 kp c al) H
 |.scope c,k,al,H=>if XW c then Y7 C CL h kp n w u c k al H else N
 |.exit id,k,al,H=>k (.exit id) al H
 |.label _,k,al,H=>k .normal al H
 |.goto l,k,al,H=>k (.goto l) al H
 |.ret,k,al,H=>k .ret al H
 |_,_,_,_=>N
abbrev CXT:=Cfg->ZQ->(Code->KL->AL->Hp->Z3)->(Nat->Option dv)->Nat->SQ->BL->Code->KL->AL->Hp->Z3
noncomputable def Zc (B:KL->AL->Hp->Z3)(k:KL):KL:=(λ(_:CXT) e al H =>
 match e with
 |.normal=>B k al H
 |e=>k e al H) Y7
noncomputable def Z7 (id:Nat)(k:KL):KL:=(λ(_:CXT) e al H =>
 match e with
 |.exit i=>if i=id then k .normal al H else k (.exit i) al H
 |e=>k e al H) Y7
noncomputable def ZT (C:Cfg)(kp:Nat->Option dv)(n:Nat)(c:Code)(k:KL)(h:AL)(H:Hp):Z3 :=
 Z0 (YD C kp (.loop c) (W7 n h,H)) λp=>k p.1 (Oz p.2.1) p.2.2
section
variable {C:Cfg}{kp:Nat->Option dv}{n:Nat}
theorem Zmx {a b:Nat}(h:a<b):zE a b=S:=by rw[zE];exact Nat.ble_eq_true_of_le h
theorem Zki {a b:Nat}(h:¬ a<b):zE a b=Z:=by
 cases j:zE a b with
 |false=>rfl
 |true=>exact absurd (zG (by rw[zE]at j;exact j)) h
theorem C0 (h:AL):(W7 n h).length=n:=by simp[W7]
theorem eL (j:AL)(t:Nat):(W7 n j)[t]?=if t<n then T (look j t) else N:=by
 unfold W7;rw[List.getElem?_map];split
 ·rename_i h;rw[List.getElem?_range h];rfl
 ·rename_i h;rw[zH (by simp;omega)];rfl
theorem As (j:AL)(t:Nat):(W7 n j).getD t (.tuple [])=ZfZ n j t:=by
 rw[List.getD_eq_getElem?_getD,eL];unfold ZfZ;by_cases h:t<n
 ·simp[h,Zmx h]
 ·simp[h,Zki h]
theorem jM (f:Nat->AV):∀ (l:dv) (t:Nat),look (l.map λi=>(i,f i)) t=if t∈l then f t else .undef:=by
 intro l
 induction l with
 |nil=>intro t;rfl
 |cons a l y =>
  intro t;simp only[List.map_cons,look,y];by_cases h:a=t
  ·subst h;simp
  ·have j:zA a t=Z:=by
    cases w:zA a t with
    |false=>rfl
    |true=>exact absurd (zC w) h
   have u:¬ t=a:=λe=>h e.symm;simp[j,u]
theorem ZcM {j:AL}{tm:du}(u:O tm=n)(h:∀ i,i<n->tm[i]?=T (look j i)):W7 n j=tm:=by
 apply List.ext_getElem?;intro i;rw[eL];split
 ·rename_i hi;rw[h i hi]
 ·rename_i hi;rw[zH b5]
theorem ZuI {tm:du}(h:O tm=n):W7 n (Oz tm)=tm:=by
 apply ZcM h;intro i hi;unfold Oz;rw[jM];have:i<O tm:=b5
 simp[this]
theorem Zxm {args:du}(h:O args<=n):W7 n (Oz args)=args++zI (n-O args) .undef:=by
 apply ZcM
 ·simp;omega
 ·intro i hi;unfold Oz;rw[jM,List.getElem?_append];by_cases j:i<O args
  ·simp[j]
  ·have u:i-O args<n-O args:=b5
   simp[j,u]
theorem Zk1 (u:AL)(j:Option Tmp)(v:AV):W7 n (jU u j v)=Xk (W7 n u) j v:=by
 cases j with
 |none=>rfl
 |some d =>
  apply ZcM
  ·simp[Xk,C0]
  ·intro i hi;simp only[Xk,jU,look];by_cases h:d=i
   ·subst h;simp[C0,hi]
   ·have w:zA d i=Z:=by
     cases y:zA d i with
     |false=>rfl
     |true=>exact absurd (zC y) h
    rw[List.getElem?_set_ne h,eL];simp[hi,w]
theorem ZlB (keep:dv):∀ (l:du) (i j:Nat),(XZ keep i l)[j]?=(l[j]?).map λa=>if keep.contains (i+j) then a else .undef:=by
 intro l
 induction l with
 |nil=>intro i j;simp[XZ]
 |cons a l h =>
  intro i j
  cases j with
  |zero=>simp[XZ]
  |succ j=>simp only[XZ,List.getElem?_cons_succ,h];rw[Nat.add_right_comm,Nat.add_assoc]
theorem NZ (c:Code)(h:AL)(H:Hp):trim kp c (W7 n h,H)=(W7 n (Y3 kp c h),H):=by
 unfold trim Y3
 cases YQ c with
 |none=>rfl
 |some r =>
  simp only
  cases kp r with
  |none=>rfl
  |some keep =>
   simp only;refine Prod.ext ?_ rfl;symm;apply ZcM
   ·simp[Pn,C0]
   ·intro i hi;rw[ZlB,eL,jM];simp[hi]
theorem ZfS (h:AL):eval C (W7 n h)=Kd C n h:=by
 funext x
 cases x with
 |tmp t=>exact As h t
 |_=>rfl
theorem ZwE {α:Type}(ops:Array Oper)(u:AL)(o:Oper)(els:α)(x:Option α):iR ops (W7 n u) o els x=ZcH n ops u o els x:=by
 unfold iR ZcH
 cases o.guard with
 |none=>rfl
 |some p =>
  obtain⟨j,w⟩:=p;simp only
  cases ops[j]? with
  |none=>rfl
  |some g =>
   simp only
   cases g.dst with
   |none=>rfl
   |some d =>
    simp only;rw[eL];by_cases h:d<n
    ·simp[h,Zmx h]
    ·simp[h,Zki h]
theorem Zt6 {CL:ZQ}{ops:Array Oper}{fl:Bool}{o:Oper}{k:St->Z3}{j:AL->Hp->Z3}(u:∀ h H,k (W7 n h,H)=j h H)(h:AL)(H:Hp) :
 ZjL C CL ops fl o k (W7 n h) H=ZhM C CL n ops fl o j h H:=by
 unfold ZjL ZhM;rw[ZfS];simp only[ZwE,<-Zk1,u];rfl
theorem Zu8 {op:Op}{x:Operand}(h:Zx7 op=T x)(ev:Operand->AV):Yc C ev op=T (ev x)/\XU C op=0:=by
 cases op <;> simp only[Zx7,zB,reduceCtorEq]at h
 ·subst h;exact⟨rfl,rfl⟩
 ·subst h;exact⟨rfl,rfl⟩
theorem ZmH {CL:ZQ}{ops:Array Oper}{fl:Bool}{o:Oper}{k:St->Z3}{j:AL->Hp->Z3}(z:∀ h H,k (W7 n h,H)=j h H)(h:AL)(H:Hp) :
 ZjL C CL ops fl o k (W7 n h) H=ZlW C CL n ops fl o j h H:=by
 rw[Zt6 z];unfold ZlW;split
 ·rename_i x y A;obtain⟨u,w⟩:=Zu8 (C:=C) A (Kd C n h);unfold ZhM;rw[u,w,ite_self];simp only[ZcH,y,Z0]
 ·rfl
theorem Zt7 {CL:ZQ}{ops:Array Oper}{b:Nat}{k:St->Z3}{u:AL->Hp->Z3}(w:∀ h H,k (W7 n h,H)=u h H):∀ (l:List Oper) (i:Nat) (h:AL) (H:Hp),
 Pb C CL ops S b i l k (W7 n h,H)=Zbr C CL n ops b i l u h H:=by
 intro l
 induction l with
 |nil=>intro i h H;exact w h H
 |cons o l j =>
  intro i h H;unfold Pb Zbr;simp only[Bool.true_and]
  cases z:Vs C ops i with
  |true =>
   simp only[if_true];unfold ZtP
   cases y:XA C ops i with
   |true=>rfl
   |false =>
    simp only[zD,if_false];rw[ZfS];congr 1;funext r;rw[<-j (i+1) (jU h o.dst r.1) r.2,Zk1]
  |false =>
   simp only[zD,if_false];exact ZmH (λh H=>j (i+1) h H) h H
theorem ZwV {ops:Array Oper}(h:Vt C ops ops.size=0)(i:Nat):Vs C ops i=Z:=by
 cases j:Vs C ops i with
 |false=>rfl
 |true =>
  have hi:i<ops.size:=by
   unfold Vs at j
   cases u:ops[i]? with
   |none=>simp[u]at j
   |some o=>exact (Array.getElem?_eq_some_iff.1 u).1
  have:=ZpA j hi;omega
theorem Zkp {CL:ZQ}{ops:Array Oper}{draw:Bool}{b:Nat}(u:draw=S->Vt C ops ops.size=0){k:St->Z3}{j:AL->Hp->Z3}(w:∀ h H,k (W7 n h,H)=j h H):∀ (l:List Oper) (i:Nat) (h:AL) (H:Hp),
 Pb C CL ops draw b i l k (W7 n h,H)=ZhN C CL n ops draw i l j h H:=by
 intro l
 induction l with
 |nil=>intro i h H;exact w h H
 |cons o l z =>
  intro i h H;unfold Pb ZhN
  have y:(draw&&Vs C ops i)=Z:=by
   cases draw with
   |false=>rfl
   |true=>simp[ZwV (u rfl) i]
  simp only[y,zD,if_false];exact ZmH (λh H=>z (i+1) h H) h H
theorem Zz7 {CL:ZQ}{ops:Array Oper}{draw:Bool}{k:St->Z3}{w:AL->Hp->Z3}(u:∀ j H,k (W7 n j,H)=w j H)(j:AL)(H:Hp) :
 Pb C CL ops draw (O H) 0 ops.toList k (W7 n j,Qw (if draw then Vt C ops ops.size else 0) H)=ZnB C CL n ops draw w j H:=by
 unfold ZnB ZA1
 cases draw with
 |false=>exact Zkp (λh=>by cases h) u _ _ _ _
 |true =>
  simp only[if_true]
  cases y:Vt C ops ops.size with
  |zero =>
   simp only[zA,Qw];exact Zkp (λ_=>y) u _ _ _ _
  |succ m =>
   simp only[zA,Qw];exact Zt7 u _ _ _ _
theorem ZyP {k:St->Z3}{u:AL->Hp->Z3}(w:∀ h H,k (W7 n h,H)=u h H):∀ (j:dv) (h:AL) (H:Hp),k (ZjR j (W7 n h,H))=ZwC n u j h H:=by
 intro j
 induction j with
 |nil=>intro h H;exact w h H
 |cons t j y =>
  intro h H;show k (ZjR j (frz1 (W7 n h,H) t))=_;unfold frz1;simp only[As];have:=Zk1 (n:=n) h (T t) (Rm (ZfZ n h t) H).1;simp only[Xk,jU]at this;rw[<-this];exact y _ _
theorem ZyO {k:St->Z3}{u:AL->Hp->Z3}(j:∀ h H,k (W7 n h,H)=u h H)(id:Nat)(h:AL)(H:Hp):k (frzs kp id (W7 n h,H))=Zr6 n (kp (id+1000000)) u h H:=by
 unfold frzs Zr6
 cases kp (id+1000000) with
 |none=>exact j h H
 |some w=>exact ZyP j w h H
theorem ZwD (id:Nat)(s:St):(frzs kp id s).1.length=O s.1:=by
 unfold frzs
 cases kp (id+1000000) with
 |none=>rfl
 |some h =>
  simp only[ZjR]
  induction h generalizing s with
  |nil=>rfl
  |cons t h j=>rw[List.foldl_cons,j];simp[frz1]
theorem Zug {call:ZQ}{ops:Array Oper}{fl:Bool}{o:Oper}{s s':St}(h:U1 C call ops fl o s=T s'):O s'.1=O s.1:=by
 unfold U1 at h;split at h
 ·simp only[zB]at h;subst h;cases o.dst <;> simp[Xk]
 ·cases h
theorem Zry {call:ZQ}{ops:Array Oper}{draw:Bool}{b i:Nat}{o:Oper}{s s':St}(h:Wb C call ops draw b i o s=T s'):O s'.1=O s.1:=by
 unfold Wb at h;split at h
 ·split at h
  ·cases h
  ·split at h
   ·simp only[zB]at h;subst h;cases o.dst <;> simp[Xk]
   ·cases h
 ·exact Zug h
theorem ZoH {call:ZQ}{ops:Array Oper}{draw:Bool}{b:Nat}:∀ (l:List Oper) (i:Nat) (s s':St),Yz C call ops draw b i l s=T s'->O s'.1=O s.1:=by
 intro l
 induction l with
 |nil=>intro i s s' h;simp[Yz]at h;rw[h]
 |cons o l u =>
  intro i s s' h;unfold Yz at h;split at h
  ·rename_i w j;rw[u _ _ _ h,Zry j]
  ·cases h
theorem Zgj (c:Code)(s:St):(trim kp c s).1.length=O s.1:=by
 unfold trim
 cases YQ c with
 |none=>rfl
 |some r =>
  simp only
  cases kp r with
  |none=>rfl
  |some keep=>simp[Pn]
theorem Zwt {call:ZQ}{m:Nat}:∀ (c:Code) (s s':St) (e:AExit),Zz C call kp m c s=T (e,s')->O s'.1=O s.1:=by
 intro c
 induction c with
 |region id ops draw =>
  intro s s' e h;simp only[Zz]at h;split at h
  ·cases h
  ·split at h
   ·rename_i F u;simp only[zB,zJ]at h;rw[<-h.2,<-ZwD (kp:=kp) id s];exact (ZoH _ _ _ _ u :)
   ·cases h
 |seq a b z A =>
  intro s s' e h;simp only[Zz]at h;split at h
  ·rename_i F u;rw[A _ _ _ h,Zgj,z _ _ _ u]
  ·exact z _ _ _ h
 |cond c x y D E =>
  intro s s' e h;simp only[Zz]at h;split at h
  ·split at h
   ·exact D _ _ _ h
   ·exact E _ _ _ h
  ·cases h
 |block id c w =>
  intro s s' e h;simp only[Zz]at h;split at h
  ·rename_i i F u;split at h <;>
   ·simp only[zB,zJ]at h;rw[<-h.2];exact w _ _ _ u
  ·exact w _ _ _ h
 |loop c w =>
  intro s s' e h;simp only[Zz]at h
  have key:∀ (j:Nat) (s:St),Wa (λs=>Zz C call kp m c (trim kp c s)) j s=T (e,s')->O s'.1=O s.1:=by
   intro j
   induction j with
   |zero=>intro s h;simp[Wa]at h
   |succ j B =>
    intro s h;unfold Wa at h;split at h
    ·rename_i F u;rw[B _ h,w _ _ _ u,Zgj]
    ·rw[w _ _ _ h,Zgj]
  exact key _ _ h
 |scope c w =>
  intro s s' e h;simp only[Zz]at h;split at h
  ·exact w _ _ _ h
  ·cases h
 |skip=>intro s s' e h;simp[Zz]at h;rw[h.2]
 |exit id=>intro s s' e h;simp[Zz]at h;rw[h.2]
 |label l=>intro s s' e h;simp[Zz]at h;rw[h.2]
 |goto l=>intro s s' e h;simp[Zz]at h;rw[h.2]
 |ret=>intro s s' e h;simp[Zz]at h;rw[h.2]
 |_=>intro s s' e h;simp[Zz]at h
theorem Ztk {c:Code}{s s':St}{e:AExit}(h:YD C kp c s=T (e,s')):O s'.1=O s.1:=by
 obtain⟨m,j⟩:=Yd.1 h;exact Zwt _ _ _ _ j
def Zmi (n:Nat)(k:Kt)(j:KL):Prop:=∀ e h H,k e (W7 n h,H)=j e h H
theorem gC {c:Code}{k:Kt}{w:KL}(y:Zmi n k w)(j:AL)(H:Hp):IB C kp c k (W7 n j,H)=ZT C kp n c w j H:=by
 unfold IB ZT
 cases h:YD C kp (.loop c) (W7 n j,H) with
 |none=>rfl
 |some p =>
  obtain⟨e,tm,H'⟩:=p;have u:=Ztk h;simp only[C0]at u;simp only[Z0];rw[<-y e (Oz tm) H',ZuI u]
theorem Zzn (x y:AV):ZAk x y=if Eb x y then T () else N:=by
 cases x with
 |ptr o f=>cases y with
  |ptr o' h =>
   show (bif zA o o' then N else T ())=if (!zA o o')=S then T () else N;cases zA o o' <;> rfl
  |_=>rfl
 |_=>rfl
theorem Zkk (ev:Operand->AV)(r:Z3):∀ l:List (Nat×Nat),(l.all (λp=>Eb (ev (.tmp p.1)) (ev (.tmp p.2)))=S->dW ev r l=r)/\(l.all (λp=>Eb (ev (.tmp p.1)) (ev (.tmp p.2)))=Z->dW ev r l=N):=by
 intro l
 induction l with
 |nil=>exact⟨λ_=>rfl,λh=>by cases h⟩
 |cons p l j =>
  simp only[dW,Zzn,List.all_cons]
  cases u:Eb (ev (.tmp p.1)) (ev (.tmp p.2)) with
  |true=>exact⟨λh=>j.1 (by simpa using h),λh=>j.2 (by simpa using h)⟩
  |false=>exact⟨λh=>by simp at h,λ_=>rfl⟩
theorem ZeL:∀ (c:Code) (k:Kt) (u:KL),Zmi n k u->∀ (h:AL) (H:Hp),CX C (Za C) (IB C kp) kp c k (W7 n h,H)=Y7 C (Za C) (ZT C kp n) kp n Zc Z7 c u h H:=by
 intro c
 induction c with
 |region id ops draw =>
  intro k u j h H;simp only[CX,Y7];by_cases A:(draw&&!(Vb ops&&RW C ops))=S
  ·rw[if_pos A,if_pos];unfold F9
   revert A
   cases draw <;> cases Vb ops <;> cases RW C ops <;> simp
  ·rw[if_neg A];refine ZyO (kp:=kp) (k:=λs=>if (draw&&!(Vb ops&&F9 C ops (eval C s.1)))=S then N else Pb C (Za C) ops draw (O s.2) 0 ops.toList (λs'=>k .normal s') (s.1,Qw (if draw then Vt C ops ops.size else 0) s.2)) (λh H=>?_) id h H;have w:=Zz7 (C:=C) (CL:=Za C) (n:=n) (ops:=ops) (draw:=draw) (λh H=>j .normal h H) h H;unfold Zxl
   cases draw with
   |false=>simpa using w
   |true =>
    have z:Vb ops=S/\RW C ops=S:=by
     revert A
     cases Vb ops <;> cases RW C ops <;> simp
    show _=dW (Kd C n h) (ZnB C (Za C) n ops S _ h H) (iM C ops);unfold F9 ZqU;rw[z.1,z.2]
    have M:((iM C ops).all λp=>Eb (eval C (W7 n h) (.tmp p.1)) (eval C (W7 n h) (.tmp p.2)))=((iM C ops).all λp=>Eb (Kd C n h (.tmp p.1)) (Kd C n h (.tmp p.2))):=by
     congr 1;funext p;show Eb ((W7 n h).getD p.1 (.tuple [])) ((W7 n h).getD p.2 (.tuple []))=_;rw[As,As];rfl
    rw[M]
    cases L:((iM C ops).all λp=>Eb (Kd C n h (.tmp p.1)) (Kd C n h (.tmp p.2))) with
    |true=>rw[(Zkk _ _ _).1 L,<-w];rfl
    |false=>rw[(Zkk _ _ _).2 L];rfl
 |seq a b D E =>
  intro k u j h H;simp only[CX,Y7];refine D _ _ (λe h H=>?_) h H
  cases e with
  |normal=>simp only[kD,Zc];rw[NZ];exact E k u j _ _
  |_=>exact j _ _ _
 |cond c x y F G =>
  intro k u j h H;simp only[CX,Y7];rw[ZfS,F k u j,G k u j]
 |block id c B =>
  intro k u j h H;simp only[CX,Y7];refine B _ _ (λe h H=>?_) h H
  cases e with
  |exit i =>
   simp only[Zbn,Z7];split <;> exact j _ _ _
  |_=>exact j _ _ _
 |loop c _ =>
  intro k u j h H;simp only[CX,Y7];rw[NZ];exact gC j _ _
 |scope c B =>
  intro k u j h H;simp only[CX,Y7];split
  ·exact B k u j h H
  ·rfl
 |skip=>intro k u j h H;exact j _ _ _
 |exit id=>intro k u j h H;exact j _ _ _
 |label l=>intro k u j h H;exact j _ _ _
 |goto l=>intro k u j h H;exact j _ _ _
 |ret=>intro k u j h H;exact j _ _ _
 |_=>intro k u j h H;rfl
def ZV (n:Nat)(h:KL):Prop:=∃ k,Zmi n k h
theorem Zo (id:Nat){u:KL}(h:ZV n u):ZV n (Z7 id u):=by
 obtain⟨k,j⟩:=h;refine⟨Zbn id k,λe w H=>?_⟩
 cases e with
 |exit i =>
  simp only[Zbn,Z7];split <;> exact j _ _ _
 |_=>exact j _ _ _
theorem Zv (b:Code){u:KL}(h:ZV n u):ZV n (Zc (λk' j H'=>Y7 C (Za C) (ZT C kp n) kp n Zc Z7 b k' (Y3 kp b j) H') u):=by
 obtain⟨k,w⟩:=h;refine⟨kD (λs'=>CX C (Za C) (IB C kp) kp b k (trim kp b s')) k,λe y H=>?_⟩
 cases e with
 |normal=>simp only[kD,Zc];rw[NZ];exact ZeL b k u w _ _
 |_=>exact w _ _ _
theorem Ov (c:Code){w:KL}(h:ZV n w):ZV n (Zc (λk' j H'=>ZT C kp n c k' (Y3 kp c j) H') w):=by
 obtain⟨k,u⟩:=h;refine⟨kD (λs'=>IB C kp c k (trim kp c s')) k,λe y H=>?_⟩
 cases e with
 |normal=>simp only[kD,Zc];rw[NZ];exact gC u _ _
 |_=>exact u _ _ _
theorem Zzr {c:Code}{y:KL}(h:ZV n y)(j:AL)(H:Hp):ZT C kp n c y j H=Y7 C (Za C) (ZT C kp n) kp n Zc Z7 c (Zc (λk' u H'=>ZT C kp n c k' (Y3 kp c u) H') y) (Y3 kp c j) H:=by
 obtain⟨k,w⟩:=h;rw[<-gC w,Zzt,NZ];refine ZeL c _ _ (λe j H=>?_) _ _
 cases e with
 |normal=>simp only[kD,Zc];rw[NZ];exact gC w _ _
 |_=>exact w _ _ _
def Zk2 (C:Cfg)(n:Nat)(h:AL)(H:Hp):ResultVar->Option AV
 |.tmp t=>T (ZfZ n h t)
 |.cell a t=>match XD C.P t,Xt C.P t with
  |some g,T sz=>Z4 g sz (ZfZ n h a) H
  |_,_=>N
def ZnC (C:Cfg)(n:Nat)(h:AL)(H:Hp):List ResultVar->du->(du->Z3)->Z3
 |[],acc,k=>k acc
 |r::rs,acc,k=>Z0 (Zk2 C n h H r) λv=>ZnC C n h H rs (acc++[v]) k
noncomputable abbrev Zd (C:Cfg)(n:Nat)(f:FuncId)(fn:Func)(H0:Hp):KL:=λe al H =>
 match e with
 |.normal=>ZnC C n al H fn.results.toList [] (ZbV C f H0 H)
 |.ret=>ZnC C n al H fn.results.toList [] (ZbV C f H0 H)
 |_=>N
theorem ZpI (j:AL)(H:Hp)(k:du->Z3):∀ (rs:List ResultVar) (h:du),jY C rs (W7 n j,H) h k=ZnC C n j H rs h k:=by
 intro rs
 induction rs with
 |nil=>intro h;rfl
 |cons r rs u =>
  intro h;unfold jY ZnC
  have:WJ C (W7 n j,H) r=Zk2 C n j H r:=by
   cases r <;> (simp only[WJ,Zk2,As] <;> rfl)
  rw[this];simp only[u]
theorem ZnH (f:FuncId)(fn:Func)(h:Hp):Zmi n (ZAa C f fn h) (Zd C n f fn h):=by
 intro e j H
 cases e with
 |normal=>exact ZpI _ _ _ _ _
 |ret=>exact ZpI _ _ _ _ _
 |_=>rfl
theorem Zy (f:FuncId)(fn:Func)(h:Hp):ZV n (Zd C n f fn h):=⟨_,ZnH f fn h⟩
def gZ:Nat->du->AL
 |_,[]=>[]
 |i,a::r=>(i,a)::gZ (i+1) r
theorem Zot (args:du):W7 n (gZ 0 args)=W7 n (Oz args):=by
 have key:∀ (l:du) (i t:Nat),look (gZ i l) t=if i<=t then l.getD (t-i) .undef else .undef:=by
  intro l
  induction l with
  |nil=>intro i t;simp[gZ,look]
  |cons a l A =>
   intro i t;simp only[gZ,look,A];by_cases h:i=t
   ·subst h;simp
   ·have w:zA i t=Z:=by
     cases z:zA i t with
     |false=>rfl
     |true=>exact absurd (zC z) h
    simp only[w,cond_false];by_cases u:i<=t
    ·have j:i+1<=t:=b5
     have y:t-i=(t-(i+1))+1:=b5
     simp[u,j,y]
    ·have j:¬ i+1<=t:=b5
     simp[u,j]
 unfold W7;apply List.map_congr_left;intro t _;rw[key];unfold Oz;rw[jM];by_cases h:t<O args <;> simp[h]
theorem ZsP {f:FuncId}{fn:Func}{c:Code}(u:C.P.funcs[f]?=T fn)(j:L8 C f fn=T c)(h:fn.ntmps=n)(args:du)(w:Nat.ble (O args) n=S)(H:Hp) :
 Za C f args H=Y7 C (Za C) (ZT C (C.keep f) n) (C.keep f) n Zc Z7 c (Zd C n f fn H) (gZ 0 args) H:=by
 subst h;rw[Zw0 u j,<-Zxm (zG w),<-Zot];exact ZeL _ _ _ (ZnH f fn H) _ _
end
end Go.Am
