/- THE ABSTRACT MACHINE -/
import Derived.Test.YtnaneekpogohaaaGreatDoorHmOx
open List renaming getElem?_eq_none->zH,replicate->zI,range->zK
open Nat renaming beq->zA,eq_of_beq_eq_true->zC,blt->zE,le_of_ble_eq_true->zG
open Bool renaming false_eq_true->zD,rec->zF
open Option.some renaming injEq->zB
open Prod.mk renaming injEq->zJ
namespace Go.Am
open RowKit
abbrev AL:=List (Nat×AV)
abbrev KL:=AExit->AL->Hp->Z4
def look:AL->Nat->AV
 |[],_=>.undef
 |(i,v)::r,t=>bif zA i t then v else look r t
def XL (n:Nat)(g:AL):List AV:=(zK n).map (look g)
def Hb (tm:List AV):AL:=(zK tm.length).map fun i=>(i,tm.getD i .undef)
def En (n:Nat)(g:AL)(t:Nat):AV:=bif zE t n then look g t else .tuple []
def YA (C:Cfg)(n:Nat)(g:AL):Operand->AV
 |.tmp t=>En n g t
 |x=>eval C [] x
def Rz {α:Type}(n:Nat)(ops:Array Oper)(u:AL)(o:Oper)(els:α)(x:Option α):Option α :=
 match o.guard with
 |none=>x
 |some (j,want)=>match (match ops[j]? with|some g=>g.dst|none=>none) with
  |none=>some els
  |some d=>bif zE d n then Z8 (look u d) want els x else some els
def Pc (j:AL)(g:Option Tmp)(v:AV):AL :=
 match g with
 |some d=>(d,v)::j
 |none=>j
def ZW (kp:Nat->Option (List Nat))(c:Code)(g:AL):AL :=
 match Yr c with
 |none=>g
 |some r=>match kp r with
  |none=>g
  |some keep=>keep.map fun t=>(t,look g t)
def ZqK:Op->Option Operand
 |.move x=>some x
 |.assign x=>some x
 |_=>none
def AK (C:Cfg)(CL:Zw)(n:Nat)(ops:Array Oper)(fl:Bool)(o:Oper)(k:AL->Hp->Z4)(g:AL)(H:Hp):Z4 :=
 match (if fl then 0 else Xo C o.op) with
 |0=>Z0 (Rz n ops g o (.tuple []) (ZJ C (YA C n g) o.op)) fun v=>k (Pc g o.dst v) H
 |1=>Z0 (Rz n ops g o (.tuple []) (Ga C (YA C n g) H o.op)) fun v=>k (Pc g o.dst v) H
 |_=>Z0 (Rz n ops g o (.tuple [],H) (ZC C CL (YA C n g) H o.op)) fun r=>k (Pc g o.dst r.1) r.2
def C9 (C:Cfg)(CL:Zw)(n:Nat)(ops:Array Oper)(fl:Bool)(o:Oper)(k:AL->Hp->Z4)(g:AL)(H:Hp):Z4 :=
 match o.guard,ZqK o.op with
 |none,some x=>k (Pc g o.dst (YA C n g x)) H
 |_,_=>AK C CL n ops fl o k g H
def Zcg (C:Cfg)(CL:Zw)(n:Nat)(ops:Array Oper)(draw:Bool):Nat->List Oper->(AL->Hp->Z4)->AL->Hp->Z4
 |_,[],k,al,H=>k al H
 |i,o::rest,k,al,H=>C9 C CL n ops (draw&&YG C ops i) o (Zcg C CL n ops draw (i+1) rest k) al H
noncomputable def ZlS (C:Cfg)(n:Nat)(ops:Array Oper)(b i:Nat)(o:Oper)(k:AL->Hp->Z4)(g:AL)(H:Hp):Z4 :=
 zF (motive:=fun _=>Z4) (Z0 (KN (b+XI C ops i) (RB C (YA C n g) o.op) H) fun r=>k (Pc g o.dst r.1) r.2) none (YG C ops i)
noncomputable def E0 (C:Cfg)(CL:Zw)(n:Nat)(ops:Array Oper)(b:Nat):Nat->List Oper->(AL->Hp->Z4)->AL->Hp->Z4
 |_,[],k,al,H=>k al H
 |i,o::rest,k,al,H=>zF (motive:=fun _=>Z4) (C9 C CL n ops (YG C ops i) o (E0 C CL n ops b (i+1) rest k) al H) (ZlS C n ops b i o (E0 C CL n ops b (i+1) rest k) al H) (lag C ops i)
noncomputable def ZlR (C:Cfg)(ops:Array Oper)(draw:Bool):Bool:=zF (motive:=fun _=>Bool) false (zF (motive:=fun _=>Bool) true false (zA (XI C ops ops.size) 0)) draw
noncomputable def HZ (C:Cfg)(CL:Zw)(n:Nat)(ops:Array Oper)(draw:Bool)(k:AL->Hp->Z4)(g:AL)(H:Hp):Z4 :=
 zF (motive:=fun _=>Z4) (Zcg C CL n ops draw 0 ops.toList k g H) (E0 C CL n ops H.length 0 ops.toList k g (H++zI (XI C ops ops.size) .free)) (ZlR C ops draw)
def Sa (x y:AV):Option Unit :=
 match x,y with
 |.ptr o _,.ptr o' _=>bif zA o o' then none else some ()
 |_,_=>none
def PO (ev:Operand->AV)(r:Z4):List (Nat×Nat)->Z4
 |[]=>r
 |p::l=>Z0 (Sa (ev (.tmp p.1)) (ev (.tmp p.2))) fun _=>PO ev r l
noncomputable def Zmb (C:Cfg)(CL:Zw)(n:Nat)(ops:Array Oper)(draw:Bool)(k:AL->Hp->Z4)(g:AL)(H:Hp):Z4 :=
 zF (motive:=fun _=>Z4) (HZ C CL n ops draw k g H) (PO (YA C n g) (HZ C CL n ops draw k g H) (TP C ops)) draw
abbrev SQ:=(KL->AL->Hp->Z4)->KL->KL
abbrev BL:=Nat->KL->KL
def WS (a:AV)(H:Hp)(k:AV->Hp->Z4):Z4:=k (TT a H).1 (TT a H).2
def ZlG (n:Nat)(k:AL->Hp->Z4):List Nat->AL->Hp->Z4
 |[],al,H=>k al H
 |t::ts,al,H=>WS (En n al t) H fun v H'=>ZlG n k ts ((t,v)::al) H'
def ZlF (n:Nat)(g:Option (List Nat))(k:AL->Hp->Z4)(j:AL)(H:Hp):Z4 :=
 match g with
 |none=>k j H
 |some g=>ZlG n k g j H
noncomputable def Yc (C:Cfg)(CL:Zw)(g:Code->KL->AL->Hp->Z4)(kp:Nat->Option (List Nat))(n:Nat)(w:SQ)(u:BL):Code->KL->AL->Hp->Z4
 |.skip,k,al,H=>k .normal al H
 |.region id ops draw,k,al,H=>if draw&&!(W2 ops&&JT C ops) then none else ZlF n (kp (id+1000000)) (Zmb C CL n ops draw (fun j H'=>k .normal j H')) al H
 |.seq a b,k,al,H=>Yc C CL g kp n w u a (w (fun z j H'=>Yc C CL g kp n w u b z (ZW kp b j) H') k) al H
 |.cond c x y,k,al,H=>Zk (YA C n al c) (Yc C CL g kp n w u x k al H) (Yc C CL g kp n w u y k al H)
 |.block id c,k,al,H=>Yc C CL g kp n w u c (u id k) al H
 |.loop c,k,al,H=>g c k (ZW kp c al) H
 |.scope c,k,al,H=>if Xd c then Yc C CL g kp n w u c k al H else none
 |.exit id,k,al,H=>k (.exit id) al H
 |.label _,k,al,H=>k .normal al H
 |.goto l,k,al,H=>k (.goto l) al H
 |.ret,k,al,H=>k .ret al H
 |_,_,_,_=>none
abbrev CXT:=Cfg->Zw->(Code->KL->AL->Hp->Z4)->(Nat->Option (List Nat))->Nat->SQ->BL->Code->KL->AL->Hp->Z4
noncomputable def Zc (B:KL->AL->Hp->Z4)(k:KL):KL:=(fun (_:CXT) e al H =>
 match e with
 |.normal=>B k al H
 |e=>k e al H) Yc
noncomputable def Z7 (id:Nat)(k:KL):KL:=(fun (_:CXT) e al H =>
 match e with
 |.exit i=>if i=id then k .normal al H else k (.exit i) al H
 |e=>k e al H) Yc
noncomputable def Y7 (C:Cfg)(kp:Nat->Option (List Nat))(n:Nat)(c:Code)(k:KL)(g:AL)(H:Hp):Z4 :=
 Z0 (YB C kp (.loop c) (XL n g,H)) fun p=>k p.1 (Hb p.2.1) p.2.2
section
variable {C:Cfg}{kp:Nat->Option (List Nat)}{n:Nat}
theorem IN {a b:Nat}(h:a<b):zE a b=true:=by rw[zE];exact Nat.ble_eq_true_of_le h
theorem C4 {a b:Nat}(h:¬ a<b):zE a b=false:=by
 cases g:zE a b with
 |false=>rfl
 |true=>exact absurd (zG (by rw[zE]at g;exact g)) h
theorem L7 (g:AL):(XL n g).length=n:=by simp[XL]
theorem Ic (g:AL)(t:Nat):(XL n g)[t]?=if t<n then some (look g t) else none:=by
 unfold XL;rw[List.getElem?_map];split
 ·rename_i h;rw[List.getElem?_range h];rfl
 ·rename_i h;rw[zH (by simp;omega)];rfl
theorem EB (g:AL)(t:Nat):(XL n g).getD t (.tuple [])=En n g t:=by
 rw[List.getD_eq_getElem?_getD,Ic];unfold En;by_cases h:t<n
 ·simp[h,IN h]
 ·simp[h,C4 h]
theorem Et (f:Nat->AV):∀ (l:List Nat) (t:Nat),look (l.map fun i=>(i,f i)) t=if t∈l then f t else .undef:=by
 intro l
 induction l with
 |nil=>intro t;rfl
 |cons a l w =>
  intro t;simp only[List.map_cons,look,w];by_cases h:a=t
  ·subst h;simp
  ·have g:zA a t=false:=by
    cases u:zA a t with
    |false=>rfl
    |true=>exact absurd (zC u) h
   have j:¬ t=a:=fun e=>h e.symm;simp[g,j]
theorem ZdJ {g:AL}{tm:List AV}(j:tm.length=n)(h:∀ i,i<n->tm[i]?=some (look g i)):XL n g=tm:=by
 apply List.ext_getElem?;intro i;rw[Ic];split
 ·rename_i hi;rw[h i hi]
 ·rename_i hi;rw[zH (by omega)]
theorem Zu1 {tm:List AV}(h:tm.length=n):XL n (Hb tm)=tm:=by
 apply ZdJ h;intro i hi;unfold Hb;rw[Et];have:i<tm.length:=by omega
 simp[this]
theorem ZwY {args:List AV}(h:args.length<=n):XL n (Hb args)=args++zI (n-args.length) .undef:=by
 apply ZdJ
 ·simp;omega
 ·intro i hi;unfold Hb;rw[Et,List.getElem?_append];by_cases g:i<args.length
  ·simp[g]
  ·have j:i-args.length<n-args.length:=by omega
   simp[g,j]
theorem ZiT (j:AL)(g:Option Tmp)(v:AV):XL n (Pc j g v)=Xa (XL n j) g v:=by
 cases g with
 |none=>rfl
 |some d =>
  apply ZdJ
  ·simp[Xa,L7]
  ·intro i hi;simp only[Xa,Pc,look];by_cases h:d=i
   ·subst h;simp[L7,hi]
   ·have u:zA d i=false:=by
     cases w:zA d i with
     |false=>rfl
     |true=>exact absurd (zC w) h
    rw[List.getElem?_set_ne h,Ic];simp[hi,u]
theorem Zkg (keep:List Nat):∀ (l:List AV) (i j:Nat),(XC keep i l)[j]?=(l[j]?).map fun a=>if keep.contains (i+j) then a else .undef:=by
 intro l
 induction l with
 |nil=>intro i j;simp[XC]
 |cons a l g =>
  intro i j
  cases j with
  |zero=>simp[XC]
  |succ j=>simp only[XC,List.getElem?_cons_succ,g];rw[Nat.add_right_comm,Nat.add_assoc]
theorem Pd (c:Code)(g:AL)(H:Hp):trim kp c (XL n g,H)=(XL n (ZW kp c g),H):=by
 unfold trim ZW
 cases Yr c with
 |none=>rfl
 |some r =>
  simp only
  cases kp r with
  |none=>rfl
  |some keep =>
   simp only;refine Prod.ext ?_ rfl;symm;apply ZdJ
   ·simp[RA,L7]
   ·intro i hi;rw[Zkg,Ic,Et];simp[hi]
theorem Zfj (g:AL):eval C (XL n g)=YA C n g:=by
 funext x
 cases x with
 |tmp t=>exact EB g t
 |_=>rfl
theorem Zwd {α:Type}(ops:Array Oper)(u:AL)(o:Oper)(els:α)(x:Option α):Oj ops (XL n u) o els x=Rz n ops u o els x:=by
 unfold Oj Rz
 cases o.guard with
 |none=>rfl
 |some p =>
  obtain⟨j,w⟩:=p;simp only
  cases ops[j]? with
  |none=>rfl
  |some g =>
   simp only
   cases g.dst with
   |none=>rfl
   |some d =>
    simp only;rw[Ic];by_cases h:d<n
    ·simp[h,IN h]
    ·simp[h,C4 h]
theorem Zst {CL:Zw}{ops:Array Oper}{fl:Bool}{o:Oper}{k:St->Z4}{j:AL->Hp->Z4}(u:∀ g H,k (XL n g,H)=j g H)(g:AL)(H:Hp) :
 Zix C CL ops fl o k (XL n g) H=AK C CL n ops fl o j g H:=by
 unfold Zix AK;rw[Zfj];simp only[Zwd,<-ZiT,u];rfl
theorem Ztr {op:Op}{x:Operand}(h:ZqK op=some x)(ev:Operand->AV):ZJ C ev op=some (ev x)/\Xo C op=0:=by
 cases op <;> simp only[ZqK,zB,reduceCtorEq]at h
 ·subst h;exact⟨rfl,rfl⟩
 ·subst h;exact⟨rfl,rfl⟩
theorem Zld {CL:Zw}{ops:Array Oper}{fl:Bool}{o:Oper}{k:St->Z4}{j:AL->Hp->Z4}(z:∀ g H,k (XL n g,H)=j g H)(g:AL)(H:Hp) :
 Zix C CL ops fl o k (XL n g) H=C9 C CL n ops fl o j g H:=by
 rw[Zst z];unfold C9;split
 ·rename_i x y A;obtain⟨u,w⟩:=Ztr (C:=C) A (YA C n g);unfold AK;rw[u,w,ite_self];simp only[Rz,y,Z0]
 ·rfl
theorem Zsu {CL:Zw}{ops:Array Oper}{b:Nat}{k:St->Z4}{u:AL->Hp->Z4}(w:∀ g H,k (XL n g,H)=u g H):∀ (l:List Oper) (i:Nat) (g:AL) (H:Hp),
 Rl C CL ops true b i l k (XL n g,H)=E0 C CL n ops b i l u g H:=by
 intro l
 induction l with
 |nil=>intro i g H;exact w g H
 |cons o l j =>
  intro i g H;unfold Rl E0;simp only[Bool.true_and]
  cases z:lag C ops i with
  |true =>
   simp only[if_true];unfold ZlS
   cases y:YG C ops i with
   |true=>rfl
   |false =>
    simp only[zD,if_false];rw[Zfj];congr 1;funext r;rw[<-j (i+1) (Pc g o.dst r.1) r.2,ZiT]
  |false =>
   simp only[zD,if_false];exact Zld (fun g H=>j (i+1) g H) g H
theorem Zwq {ops:Array Oper}(h:XI C ops ops.size=0)(i:Nat):lag C ops i=false:=by
 cases g:lag C ops i with
 |false=>rfl
 |true =>
  have hi:i<ops.size:=by
   unfold lag at g
   cases j:ops[i]? with
   |none=>simp[j]at g
   |some o=>exact (Array.getElem?_eq_some_iff.1 j).1
  have:=Zoj g hi;omega
theorem Zjh {CL:Zw}{ops:Array Oper}{draw:Bool}{b:Nat}(u:draw=true->XI C ops ops.size=0){k:St->Z4}{j:AL->Hp->Z4}(w:∀ g H,k (XL n g,H)=j g H):∀ (l:List Oper) (i:Nat) (g:AL) (H:Hp),
 Rl C CL ops draw b i l k (XL n g,H)=Zcg C CL n ops draw i l j g H:=by
 intro l
 induction l with
 |nil=>intro i g H;exact w g H
 |cons o l z =>
  intro i g H;unfold Rl Zcg
  have y:(draw&&lag C ops i)=false:=by
   cases draw with
   |false=>rfl
   |true=>simp[Zwq (u rfl) i]
  simp only[y,zD,if_false];exact Zld (fun g H=>z (i+1) g H) g H
theorem Zz4 {CL:Zw}{ops:Array Oper}{draw:Bool}{k:St->Z4}{u:AL->Hp->Z4}(j:∀ g H,k (XL n g,H)=u g H)(g:AL)(H:Hp) :
 Rl C CL ops draw H.length 0 ops.toList k (XL n g,Q0 (if draw then XI C ops ops.size else 0) H)=HZ C CL n ops draw u g H:=by
 unfold HZ ZlR
 cases draw with
 |false=>exact Zjh (fun h=>by cases h) j _ _ _ _
 |true =>
  simp only[if_true]
  cases w:XI C ops ops.size with
  |zero =>
   simp only[zA,Q0];exact Zjh (fun _=>w) j _ _ _ _
  |succ m =>
   simp only[zA,Q0];exact Zsu j _ _ _ _
theorem ZyF {k:St->Z4}{u:AL->Hp->Z4}(w:∀ g H,k (XL n g,H)=u g H):∀ (j:List Nat) (g:AL) (H:Hp),k (ZiD j (XL n g,H))=ZlG n u j g H:=by
 intro j
 induction j with
 |nil=>intro g H;exact w g H
 |cons t j y =>
  intro g H;show k (ZiD j (frz1 (XL n g,H) t))=_;unfold frz1;simp only[EB];have:=ZiT (n:=n) g (some t) (TT (En n g t) H).1;simp only[Xa,Pc]at this;rw[<-this];exact y _ _
theorem ZyD {k:St->Z4}{u:AL->Hp->Z4}(j:∀ g H,k (XL n g,H)=u g H)(id:Nat)(g:AL)(H:Hp):k (frzs kp id (XL n g,H))=ZlF n (kp (id+1000000)) u g H:=by
 unfold frzs ZlF
 cases kp (id+1000000) with
 |none=>exact j g H
 |some w=>exact ZyF j w g H
theorem Zw6 (id:Nat)(s:St):(frzs kp id s).1.length=s.1.length:=by
 unfold frzs
 cases kp (id+1000000) with
 |none=>rfl
 |some g =>
  simp only[ZiD]
  induction g generalizing s with
  |nil=>rfl
  |cons t g j=>rw[List.foldl_cons,j];simp[frz1]
theorem Ztz {call:Zw}{ops:Array Oper}{fl:Bool}{o:Oper}{s s':St}(h:VH C call ops fl o s=some s'):s'.1.length=s.1.length:=by
 unfold VH at h;split at h
 ·simp only[zB]at h;subst h;cases o.dst <;> simp[Xa]
 ·cases h
theorem Zr1 {call:Zw}{ops:Array Oper}{draw:Bool}{b i:Nat}{o:Oper}{s s':St}(h:XQ C call ops draw b i o s=some s'):s'.1.length=s.1.length:=by
 unfold XQ at h;split at h
 ·split at h
  ·cases h
  ·split at h
   ·simp only[zB]at h;subst h;cases o.dst <;> simp[Xa]
   ·cases h
 ·exact Ztz h
theorem Zno {call:Zw}{ops:Array Oper}{draw:Bool}{b:Nat}:∀ (l:List Oper) (i:Nat) (s s':St),Yu C call ops draw b i l s=some s'->s'.1.length=s.1.length:=by
 intro l
 induction l with
 |nil=>intro i s s' h;simp[Yu]at h;rw[h]
 |cons o l j =>
  intro i s s' h;unfold Yu at h;split at h
  ·rename_i u g;rw[j _ _ _ h,Zr1 g]
  ·cases h
theorem Zg0 (c:Code)(s:St):(trim kp c s).1.length=s.1.length:=by
 unfold trim
 cases Yr c with
 |none=>rfl
 |some r =>
  simp only
  cases kp r with
  |none=>rfl
  |some keep=>simp[RA]
theorem ZvT {call:Zw}{m:Nat}:∀ (c:Code) (s s':St) (e:AExit),Zq C call kp m c s=some (e,s')->s'.1.length=s.1.length:=by
 intro c
 induction c with
 |region id ops draw =>
  intro s s' e h;simp only[Zq]at h;split at h
  ·cases h
  ·split at h
   ·rename_i E g;simp only[zB,zJ]at h;rw[<-h.2,<-Zw6 (kp:=kp) id s];exact (Zno _ _ _ _ g :)
   ·cases h
 |seq a b w z =>
  intro s s' e h;simp only[Zq]at h;split at h
  ·rename_i E g;rw[z _ _ _ h,Zg0,w _ _ _ g]
  ·exact w _ _ _ h
 |cond c x y B D =>
  intro s s' e h;simp only[Zq]at h;split at h
  ·split at h
   ·exact B _ _ _ h
   ·exact D _ _ _ h
  ·cases h
 |block id c u =>
  intro s s' e h;simp only[Zq]at h;split at h
  ·rename_i i E g;split at h <;>
   ·simp only[zB,zJ]at h;rw[<-h.2];exact u _ _ _ g
  ·exact u _ _ _ h
 |loop c u =>
  intro s s' e h;simp only[Zq]at h
  have key:∀ (j:Nat) (s:St),XP (fun s=>Zq C call kp m c (trim kp c s)) j s=some (e,s')->s'.1.length=s.1.length:=by
   intro j
   induction j with
   |zero=>intro s h;simp[XP]at h
   |succ j A =>
    intro s h;unfold XP at h;split at h
    ·rename_i E g;rw[A _ h,u _ _ _ g,Zg0]
    ·rw[u _ _ _ h,Zg0]
  exact key _ _ h
 |scope c u =>
  intro s s' e h;simp only[Zq]at h;split at h
  ·exact u _ _ _ h
  ·cases h
 |skip=>intro s s' e h;simp[Zq]at h;rw[h.2]
 |exit id=>intro s s' e h;simp[Zq]at h;rw[h.2]
 |label l=>intro s s' e h;simp[Zq]at h;rw[h.2]
 |goto l=>intro s s' e h;simp[Zq]at h;rw[h.2]
 |ret=>intro s s' e h;simp[Zq]at h;rw[h.2]
 |_=>intro s s' e h;simp[Zq]at h
theorem ZsE {c:Code}{s s':St}{e:AExit}(h:YB C kp c s=some (e,s')):s'.1.length=s.1.length:=by
 obtain⟨m,g⟩:=ZY.1 h;exact ZvT _ _ _ _ g
def ZkG (n:Nat)(k:Kt)(j:KL):Prop:=∀ e g H,k e (XL n g,H)=j e g H
theorem ID {c:Code}{k:Kt}{u:KL}(w:ZkG n k u)(g:AL)(H:Hp):SP C kp c k (XL n g,H)=Y7 C kp n c u g H:=by
 unfold SP Y7
 cases h:YB C kp (.loop c) (XL n g,H) with
 |none=>rfl
 |some p =>
  obtain⟨e,tm,H'⟩:=p;have j:=ZsE h;simp only[L7]at j;simp only[Z0];rw[<-w e (Hb tm) H',Zu1 j]
theorem Zzk (x y:AV):Sa x y=if M2 x y then some () else none:=by
 cases x with
 |ptr o f=>cases y with
  |ptr g j =>
   show (bif zA o g then none else some ())=if (!zA o g)=true then some () else none;cases zA o g <;> rfl
  |_=>rfl
 |_=>rfl
theorem Zjb (ev:Operand->AV)(r:Z4):∀ l:List (Nat×Nat),(l.all (fun p=>M2 (ev (.tmp p.1)) (ev (.tmp p.2)))=true->PO ev r l=r)/\(l.all (fun p=>M2 (ev (.tmp p.1)) (ev (.tmp p.2)))=false->PO ev r l=none):=by
 intro l
 induction l with
 |nil=>exact⟨fun _=>rfl,fun h=>by cases h⟩
 |cons p l g =>
  simp only[PO,Zzk,List.all_cons]
  cases j:M2 (ev (.tmp p.1)) (ev (.tmp p.2)) with
  |true=>exact⟨fun h=>g.1 (by simpa using h),fun h=>g.2 (by simpa using h)⟩
  |false=>exact⟨fun h=>by simp at h,fun _=>rfl⟩
theorem ZeV:∀ (c:Code) (k:Kt) (u:KL),ZkG n k u->∀ (g:AL) (H:Hp),CX C (Z9 C) (SP C kp) kp c k (XL n g,H)=Yc C (Z9 C) (Y7 C kp n) kp n Zc Z7 c u g H:=by
 intro c
 induction c with
 |region id ops draw =>
  intro k u j g H;simp only[CX,Yc];by_cases A:(draw&&!(W2 ops&&JT C ops))=true
  ·rw[if_pos A,if_pos];unfold Dd
   revert A
   cases draw <;> cases W2 ops <;> cases JT C ops <;> simp
  ·rw[if_neg A];refine ZyD (kp:=kp) (k:=fun s=>if (draw&&!(W2 ops&&Dd C ops (eval C s.1)))=true then none else Rl C (Z9 C) ops draw s.2.length 0 ops.toList (fun s'=>k .normal s') (s.1,Q0 (if draw then XI C ops ops.size else 0) s.2)) (fun g H=>?_) id g H;have w:=Zz4 (C:=C) (CL:=Z9 C) (n:=n) (ops:=ops) (draw:=draw) (fun g H=>j .normal g H) g H;unfold Zmb
   cases draw with
   |false=>simpa using w
   |true =>
    have z:W2 ops=true/\JT C ops=true:=by
     revert A
     cases W2 ops <;> cases JT C ops <;> simp
    show _=PO (YA C n g) (HZ C (Z9 C) n ops true _ g H) (TP C ops);unfold Dd Zq1;rw[z.1,z.2]
    have K:((TP C ops).all fun p=>M2 (eval C (XL n g) (.tmp p.1)) (eval C (XL n g) (.tmp p.2)))=((TP C ops).all fun p=>M2 (YA C n g (.tmp p.1)) (YA C n g (.tmp p.2))):=by
     congr 1;funext p;show M2 ((XL n g).getD p.1 (.tuple [])) ((XL n g).getD p.2 (.tuple []))=_;rw[EB,EB];rfl
    rw[K]
    cases J:((TP C ops).all fun p=>M2 (YA C n g (.tmp p.1)) (YA C n g (.tmp p.2))) with
    |true=>rw[(Zjb _ _ _).1 J,<-w];rfl
    |false=>rw[(Zjb _ _ _).2 J];rfl
 |seq a b D E =>
  intro k u j g H;simp only[CX,Yc];refine D _ _ (fun e g H=>?_) g H
  cases e with
  |normal=>simp only[OG,Zc];rw[Pd];exact E k u j _ _
  |_=>exact j _ _ _
 |cond c x y F I =>
  intro k u j g H;simp only[CX,Yc];rw[Zfj,F k u j,I k u j]
 |block id c B =>
  intro k u j g H;simp only[CX,Yc];refine B _ _ (fun e g H=>?_) g H
  cases e with
  |exit i =>
   simp only[Zc9,Z7];split <;> exact j _ _ _
  |_=>exact j _ _ _
 |loop c _ =>
  intro k u j g H;simp only[CX,Yc];rw[Pd];exact ID j _ _
 |scope c B =>
  intro k u j g H;simp only[CX,Yc];split
  ·exact B k u j g H
  ·rfl
 |skip=>intro k u j g H;exact j _ _ _
 |exit id=>intro k u j g H;exact j _ _ _
 |label l=>intro k u j g H;exact j _ _ _
 |goto l=>intro k u j g H;exact j _ _ _
 |ret=>intro k u j g H;exact j _ _ _
 |_=>intro k u j g H;rfl
def ZX (n:Nat)(g:KL):Prop:=∃ k,ZkG n k g
theorem Zm (id:Nat){j:KL}(h:ZX n j):ZX n (Z7 id j):=by
 obtain⟨k,g⟩:=h;refine⟨Zc9 id k,fun e u H=>?_⟩
 cases e with
 |exit i =>
  simp only[Zc9,Z7];split <;> exact g _ _ _
 |_=>exact g _ _ _
theorem Zx (b:Code){j:KL}(h:ZX n j):ZX n (Zc (fun w g H'=>Yc C (Z9 C) (Y7 C kp n) kp n Zc Z7 b w (ZW kp b g) H') j):=by
 obtain⟨k,u⟩:=h;refine⟨OG (fun s'=>CX C (Z9 C) (SP C kp) kp b k (trim kp b s')) k,fun e y H=>?_⟩
 cases e with
 |normal=>simp only[OG,Zc];rw[Pd];exact ZeV b k j u _ _
 |_=>exact u _ _ _
theorem Nh (c:Code){u:KL}(h:ZX n u):ZX n (Zc (fun w g H'=>Y7 C kp n c w (ZW kp c g) H') u):=by
 obtain⟨k,j⟩:=h;refine⟨OG (fun s'=>SP C kp c k (trim kp c s')) k,fun e y H=>?_⟩
 cases e with
 |normal=>simp only[OG,Zc];rw[Pd];exact ID j _ _
 |_=>exact j _ _ _
theorem ZrA {c:Code}{w:KL}(h:ZX n w)(g:AL)(H:Hp):Y7 C kp n c w g H=Yc C (Z9 C) (Y7 C kp n) kp n Zc Z7 c (Zc (fun y j H'=>Y7 C kp n c y (ZW kp c j) H') w) (ZW kp c g) H:=by
 obtain⟨k,u⟩:=h;rw[<-ID u,Zzq,Pd];refine ZeV c _ _ (fun e g H=>?_) _ _
 cases e with
 |normal=>simp only[OG,Zc];rw[Pd];exact ID u _ _
 |_=>exact u _ _ _
def ZdK (C:Cfg)(n:Nat)(j:AL)(H:Hp):ResultVar->Option AV
 |.tmp t=>some (En n j t)
 |.cell a t=>match YO C.P t,YE C.P t with
  |some g,some sz=>Z3 g sz (En n j a) H
  |_,_=>none
def ZfI (C:Cfg)(n:Nat)(g:AL)(H:Hp):List ResultVar->List AV->(List AV->Z4)->Z4
 |[],acc,k=>k acc
 |r::rs,acc,k=>Z0 (ZdK C n g H r) fun v=>ZfI C n g H rs (acc++[v]) k
noncomputable abbrev Zh (C:Cfg)(n:Nat)(f:FuncId)(fn:Func)(H0:Hp):KL:=fun e al H =>
 match e with
 |.normal=>ZfI C n al H fn.results.toList [] (Eo C f H0 H)
 |.ret=>ZfI C n al H fn.results.toList [] (Eo C f H0 H)
 |_=>none
theorem Zos (j:AL)(H:Hp)(k:List AV->Z4):∀ (rs:List ResultVar) (g:List AV),OD C rs (XL n j,H) g k=ZfI C n j H rs g k:=by
 intro rs
 induction rs with
 |nil=>intro g;rfl
 |cons r rs u =>
  intro g;unfold OD ZfI
  have:Ws C (XL n j,H) r=ZdK C n j H r:=by
   cases r <;> (simp only[Ws,ZdK,EB] <;> rfl)
  rw[this];simp only[u]
theorem Zmg (f:FuncId)(fn:Func)(g:Hp):ZkG n (ZAa C f fn g) (Zh C n f fn g):=by
 intro e j H
 cases e with
 |normal=>exact Zos _ _ _ _ _
 |ret=>exact Zos _ _ _ _ _
 |_=>rfl
theorem ZA (f:FuncId)(fn:Func)(g:Hp):ZX n (Zh C n f fn g):=⟨_,Zmg f fn g⟩
def MI:Nat->List AV->AL
 |_,[]=>[]
 |i,a::r=>(i,a)::MI (i+1) r
theorem Zn3 (args:List AV):XL n (MI 0 args)=XL n (Hb args):=by
 have key:∀ (l:List AV) (i t:Nat),look (MI i l) t=if i<=t then l.getD (t-i) .undef else .undef:=by
  intro l
  induction l with
  |nil=>intro i t;simp[MI,look]
  |cons a l z =>
   intro i t;simp only[MI,look,z];by_cases h:i=t
   ·subst h;simp
   ·have u:zA i t=false:=by
     cases y:zA i t with
     |false=>rfl
     |true=>exact absurd (zC y) h
    simp only[u,cond_false];by_cases j:i<=t
    ·have g:i+1<=t:=by omega
     have w:t-i=(t-(i+1))+1:=by omega
     simp[j,g,w]
    ·have g:¬ i+1<=t:=by omega
     simp[j,g]
 unfold XL;apply List.map_congr_left;intro t _;rw[key];unfold Hb;rw[Et];by_cases h:t<args.length <;> simp[h]
theorem Zj9 {f:FuncId}{fn:Func}{c:Code}(u:C.P.funcs[f]?=some fn)(j:D4 C f fn=some c)(g:fn.ntmps=n)(args:List AV)(w:Nat.ble args.length n=true)(H:Hp) :
 Z9 C f args H=Yc C (Z9 C) (Y7 C (C.keep f) n) (C.keep f) n Zc Z7 c (Zh C n f fn H) (MI 0 args) H:=by
 subst g;rw[Zvp u j,<-ZwY (zG w),<-Zn3];exact ZeV _ _ _ (Zmg f fn H) _ _
end
end Go.Am
