/- THE ABSTRACT MACHINE -/
import Derived.Test.YtnaneekpogohaaaGreatDoorHmOx
open List renaming getElem?_eq_none->zH,replicate->zI,range->zK
open Nat renaming beq->zA,eq_of_beq_eq_true->zC,blt->zE,le_of_ble_eq_true->zG
open Bool renaming false_eq_true->zD,rec->zF
open Option.some renaming injEq->zB
open Prod.mk renaming injEq->zJ
namespace Go.Am
open RowKit
abbrev AL:=List (Nat×AV)
abbrev KL:=AExit->AL->Hp->Z4
def look:AL->Nat->AV
 |[],_=>.undef
 |(i,v)::r,t=>bif zA i t then v else look r t
def XL (n:Nat)(g:AL):List AV:=(zK n).map (look g)
def HW (tm:List AV):AL:=(zK tm.length).map fun i=>(i,tm.getD i .undef)
def S4 (n:Nat)(g:AL)(t:Nat):AV:=bif zE t n then look g t else .tuple []
def Yx (C:Cfg)(n:Nat)(g:AL):Operand->AV
 |.tmp t=>S4 n g t
 |x=>eval C [] x
def RX {α:Type}(n:Nat)(ops:Array Oper)(u:AL)(o:Oper)(els:α)(x:Option α):Option α :=
 match o.guard with
 |none=>x
 |some (j,want)=>match (match ops[j]? with|some g=>g.dst|none=>none) with
  |none=>some els
  |some d=>bif zE d n then Z8 (look u d) want els x else some els
def PM (j:AL)(g:Option Tmp)(v:AV):AL :=
 match g with
 |some d=>(d,v)::j
 |none=>j
def ZS (kp:Nat->Option (List Nat))(c:Code)(g:AL):AL :=
 match Yp c with
 |none=>g
 |some r=>match kp r with
  |none=>g
  |some keep=>keep.map fun t=>(t,look g t)
def Zrg:Op->Option Operand
 |.move x=>some x
 |.assign x=>some x
 |_=>none
def Ix (C:Cfg)(CL:Zw)(n:Nat)(ops:Array Oper)(fl:Bool)(o:Oper)(k:AL->Hp->Z4)(g:AL)(H:Hp):Z4 :=
 match (if fl then 0 else Xp C o.op) with
 |0=>Z0 (RX n ops g o (.tuple []) (ZK C (Yx C n g) o.op)) fun v=>k (PM g o.dst v) H
 |1=>Z0 (RX n ops g o (.tuple []) (Gk C (Yx C n g) H o.op)) fun v=>k (PM g o.dst v) H
 |_=>Z0 (RX n ops g o (.tuple [],H) (ZC C CL (Yx C n g) H o.op)) fun r=>k (PM g o.dst r.1) r.2
def CY (C:Cfg)(CL:Zw)(n:Nat)(ops:Array Oper)(fl:Bool)(o:Oper)(k:AL->Hp->Z4)(g:AL)(H:Hp):Z4 :=
 match o.guard,Zrg o.op with
 |none,some x=>k (PM g o.dst (Yx C n g x)) H
 |_,_=>Ix C CL n ops fl o k g H
def Zd9 (C:Cfg)(CL:Zw)(n:Nat)(ops:Array Oper)(draw:Bool):Nat->List Oper->(AL->Hp->Z4)->AL->Hp->Z4
 |_,[],k,al,H=>k al H
 |i,o::rest,k,al,H=>CY C CL n ops (draw&&YF C ops i) o (Zd9 C CL n ops draw (i+1) rest k) al H
noncomputable def ZmJ (C:Cfg)(n:Nat)(ops:Array Oper)(b i:Nat)(o:Oper)(k:AL->Hp->Z4)(g:AL)(H:Hp):Z4 :=
 zF (motive:=fun _=>Z4) (Z0 (KV (b+XI C ops i) (T0 C (Yx C n g) o.op) H) fun r=>k (PM g o.dst r.1) r.2) none (YF C ops i)
noncomputable def EB (C:Cfg)(CL:Zw)(n:Nat)(ops:Array Oper)(b:Nat):Nat->List Oper->(AL->Hp->Z4)->AL->Hp->Z4
 |_,[],k,al,H=>k al H
 |i,o::rest,k,al,H=>zF (motive:=fun _=>Z4) (CY C CL n ops (YF C ops i) o (EB C CL n ops b (i+1) rest k) al H) (ZmJ C n ops b i o (EB C CL n ops b (i+1) rest k) al H) (lag C ops i)
noncomputable def ZmI (C:Cfg)(ops:Array Oper)(draw:Bool):Bool:=zF (motive:=fun _=>Bool) false (zF (motive:=fun _=>Bool) true false (zA (XI C ops ops.size) 0)) draw
noncomputable def AO (C:Cfg)(CL:Zw)(n:Nat)(ops:Array Oper)(draw:Bool)(k:AL->Hp->Z4)(g:AL)(H:Hp):Z4 :=
 zF (motive:=fun _=>Z4) (Zd9 C CL n ops draw 0 ops.toList k g H) (EB C CL n ops H.length 0 ops.toList k g (H++zI (XI C ops ops.size) .free)) (ZmI C ops draw)
def C3 (x y:AV):Option Unit :=
 match x,y with
 |.ptr o _,.ptr o' _=>bif zA o o' then none else some ()
 |_,_=>none
def Nr (ev:Operand->AV)(r:Z4):List (Nat×Nat)->Z4
 |[]=>r
 |p::l=>Z0 (C3 (ev (.tmp p.1)) (ev (.tmp p.2))) fun _=>Nr ev r l
noncomputable def Zn0 (C:Cfg)(CL:Zw)(n:Nat)(ops:Array Oper)(draw:Bool)(k:AL->Hp->Z4)(g:AL)(H:Hp):Z4 :=
 zF (motive:=fun _=>Z4) (AO C CL n ops draw k g H) (Nr (Yx C n g) (AO C CL n ops draw k g H) (Po C ops)) draw
abbrev SQ:=(KL->AL->Hp->Z4)->KL->KL
abbrev BL:=Nat->KL->KL
def XG (a:AV)(H:Hp)(k:AV->Hp->Z4):Z4:=k (Pu a H).1 (Pu a H).2
def Zmx (n:Nat)(k:AL->Hp->Z4):List Nat->AL->Hp->Z4
 |[],al,H=>k al H
 |t::ts,al,H=>XG (S4 n al t) H fun v H'=>Zmx n k ts ((t,v)::al) H'
def Zmw (n:Nat)(g:Option (List Nat))(k:AL->Hp->Z4)(j:AL)(H:Hp):Z4 :=
 match g with
 |none=>k j H
 |some g=>Zmx n k g j H
noncomputable def Y6 (C:Cfg)(CL:Zw)(g:Code->KL->AL->Hp->Z4)(kp:Nat->Option (List Nat))(n:Nat)(w:SQ)(u:BL):Code->KL->AL->Hp->Z4
 |.skip,k,al,H=>k .normal al H
 |.region id ops draw,k,al,H=>if draw&&!(W7 ops&&K2 C ops) then none else Zmw n (kp (id+1000000)) (Zn0 C CL n ops draw (fun j H'=>k .normal j H')) al H
 |.seq a b,k,al,H=>Y6 C CL g kp n w u a (w (fun z j H'=>Y6 C CL g kp n w u b z (ZS kp b j) H') k) al H
 |.cond c x y,k,al,H=>Zk (Yx C n al c) (Y6 C CL g kp n w u x k al H) (Y6 C CL g kp n w u y k al H)
 |.block id c,k,al,H=>Y6 C CL g kp n w u c (u id k) al H
 |.loop c,k,al,H=>g c k (ZS kp c al) H
 |.scope c,k,al,H=>if Xf c then Y6 C CL g kp n w u c k al H else none
 |.exit id,k,al,H=>k (.exit id) al H
 |.label _,k,al,H=>k .normal al H
 |.goto l,k,al,H=>k (.goto l) al H
 |.ret,k,al,H=>k .ret al H
 |_,_,_,_=>none
abbrev CXT:=Cfg->Zw->(Code->KL->AL->Hp->Z4)->(Nat->Option (List Nat))->Nat->SQ->BL->Code->KL->AL->Hp->Z4
noncomputable def Zc (B:KL->AL->Hp->Z4)(k:KL):KL:=(fun (_:CXT) e al H =>
 match e with
 |.normal=>B k al H
 |e=>k e al H) Y6
noncomputable def Z6 (id:Nat)(k:KL):KL:=(fun (_:CXT) e al H =>
 match e with
 |.exit i=>if i=id then k .normal al H else k (.exit i) al H
 |e=>k e al H) Y6
noncomputable def ZZ (C:Cfg)(kp:Nat->Option (List Nat))(n:Nat)(c:Code)(k:KL)(g:AL)(H:Hp):Z4 :=
 Z0 (Yy C kp (.loop c) (XL n g,H)) fun p=>k p.1 (HW p.2.1) p.2.2
section
variable {C:Cfg}{kp:Nat->Option (List Nat)}{n:Nat}
theorem OE {a b:Nat}(h:a<b):zE a b=true:=by rw[zE];exact Nat.ble_eq_true_of_le h
theorem CS {a b:Nat}(h:¬ a<b):zE a b=false:=by
 cases g:zE a b with
 |false=>rfl
 |true=>exact absurd (zG (by rw[zE]at g;exact g)) h
theorem LJ (g:AL):(XL n g).length=n:=by simp[XL]
theorem O1 (g:AL)(t:Nat):(XL n g)[t]?=if t<n then some (look g t) else none:=by
 unfold XL;rw[List.getElem?_map];split
 ·rename_i h;rw[List.getElem?_range h];rfl
 ·rename_i h;rw[zH (by simp;omega)];rfl
theorem Su (g:AL)(t:Nat):(XL n g).getD t (.tuple [])=S4 n g t:=by
 rw[List.getD_eq_getElem?_getD,O1];unfold S4;by_cases h:t<n
 ·simp[h,OE h]
 ·simp[h,CS h]
theorem Sd (f:Nat->AV):∀ (l:List Nat) (t:Nat),look (l.map fun i=>(i,f i)) t=if t∈l then f t else .undef:=by
 intro l
 induction l with
 |nil=>intro t;rfl
 |cons a l w =>
  intro t;simp only[List.map_cons,look,w];by_cases h:a=t
  ·subst h;simp
  ·have g:zA a t=false:=by
    cases u:zA a t with
    |false=>rfl
    |true=>exact absurd (zC u) h
   have j:¬ t=a:=fun e=>h e.symm;simp[g,j]
theorem Zey {g:AL}{tm:List AV}(j:tm.length=n)(h:∀ i,i<n->tm[i]?=some (look g i)):XL n g=tm:=by
 apply List.ext_getElem?;intro i;rw[O1];split
 ·rename_i hi;rw[h i hi]
 ·rename_i hi;rw[zH (by omega)]
theorem Zur {tm:List AV}(h:tm.length=n):XL n (HW tm)=tm:=by
 apply Zey h;intro i hi;unfold HW;rw[Sd];have:i<tm.length:=by omega
 simp[this]
theorem Zx8 {args:List AV}(h:args.length<=n):XL n (HW args)=args++zI (n-args.length) .undef:=by
 apply Zey
 ·simp;omega
 ·intro i hi;unfold HW;rw[Sd,List.getElem?_append];by_cases g:i<args.length
  ·simp[g]
  ·have j:i-args.length<n-args.length:=by omega
   simp[g,j]
theorem ZjF (j:AL)(g:Option Tmp)(v:AV):XL n (PM j g v)=Xa (XL n j) g v:=by
 cases g with
 |none=>rfl
 |some d =>
  apply Zey
  ·simp[Xa,LJ]
  ·intro i hi;simp only[Xa,PM,look];by_cases h:d=i
   ·subst h;simp[LJ,hi]
   ·have u:zA d i=false:=by
     cases w:zA d i with
     |false=>rfl
     |true=>exact absurd (zC w) h
    rw[List.getElem?_set_ne h,O1];simp[hi,u]
theorem Zl2 (keep:List Nat):∀ (l:List AV) (i j:Nat),(XB keep i l)[j]?=(l[j]?).map fun a=>if keep.contains (i+j) then a else .undef:=by
 intro l
 induction l with
 |nil=>intro i j;simp[XB]
 |cons a l g =>
  intro i j
  cases j with
  |zero=>simp[XB]
  |succ j=>simp only[XB,List.getElem?_cons_succ,g];rw[Nat.add_right_comm,Nat.add_assoc]
theorem PN (c:Code)(g:AL)(H:Hp):trim kp c (XL n g,H)=(XL n (ZS kp c g),H):=by
 unfold trim ZS
 cases Yp c with
 |none=>rfl
 |some r =>
  simp only
  cases kp r with
  |none=>rfl
  |some keep =>
   simp only;refine Prod.ext ?_ rfl;symm;apply Zey
   ·simp[RZ,LJ]
   ·intro i hi;rw[Zl2,O1,Sd];simp[hi]
theorem Zg7 (g:AL):eval C (XL n g)=Yx C n g:=by
 funext x
 cases x with
 |tmp t=>exact Su g t
 |_=>rfl
theorem Zwr {α:Type}(ops:Array Oper)(u:AL)(o:Oper)(els:α)(x:Option α):Za7 ops (XL n u) o els x=RX n ops u o els x:=by
 unfold Za7 RX
 cases o.guard with
 |none=>rfl
 |some p =>
  obtain⟨j,w⟩:=p;simp only
  cases ops[j]? with
  |none=>rfl
  |some g =>
   simp only
   cases g.dst with
   |none=>rfl
   |some d =>
    simp only;rw[O1];by_cases h:d<n
    ·simp[h,OE h]
    ·simp[h,CS h]
theorem ZsU {CL:Zw}{ops:Array Oper}{fl:Bool}{o:Oper}{k:St->Z4}{j:AL->Hp->Z4}(u:∀ g H,k (XL n g,H)=j g H)(g:AL)(H:Hp) :
 Zjj C CL ops fl o k (XL n g) H=Ix C CL n ops fl o j g H:=by
 unfold Zjj Ix;rw[Zg7];simp only[Zwr,<-ZjF,u];rfl
theorem ZtV {op:Op}{x:Operand}(h:Zrg op=some x)(ev:Operand->AV):ZK C ev op=some (ev x)/\Xp C op=0:=by
 cases op <;> simp only[Zrg,zB,reduceCtorEq]at h
 ·subst h;exact⟨rfl,rfl⟩
 ·subst h;exact⟨rfl,rfl⟩
theorem Zm3 {CL:Zw}{ops:Array Oper}{fl:Bool}{o:Oper}{k:St->Z4}{j:AL->Hp->Z4}(z:∀ g H,k (XL n g,H)=j g H)(g:AL)(H:Hp) :
 Zjj C CL ops fl o k (XL n g) H=CY C CL n ops fl o j g H:=by
 rw[ZsU z];unfold CY;split
 ·rename_i x y A;obtain⟨u,w⟩:=ZtV (C:=C) A (Yx C n g);unfold Ix;rw[u,w,ite_self];simp only[RX,y,Z0]
 ·rfl
theorem ZsV {CL:Zw}{ops:Array Oper}{b:Nat}{k:St->Z4}{u:AL->Hp->Z4}(w:∀ g H,k (XL n g,H)=u g H):∀ (l:List Oper) (i:Nat) (g:AL) (H:Hp),
 RK C CL ops true b i l k (XL n g,H)=EB C CL n ops b i l u g H:=by
 intro l
 induction l with
 |nil=>intro i g H;exact w g H
 |cons o l j =>
  intro i g H;unfold RK EB;simp only[Bool.true_and]
  cases z:lag C ops i with
  |true =>
   simp only[if_true];unfold ZmJ
   cases y:YF C ops i with
   |true=>rfl
   |false =>
    simp only[zD,if_false];rw[Zg7];congr 1;funext r;rw[<-j (i+1) (PM g o.dst r.1) r.2,ZjF]
  |false =>
   simp only[zD,if_false];exact Zm3 (fun g H=>j (i+1) g H) g H
theorem ZwE {ops:Array Oper}(h:XI C ops ops.size=0)(i:Nat):lag C ops i=false:=by
 cases g:lag C ops i with
 |false=>rfl
 |true =>
  have hi:i<ops.size:=by
   unfold lag at g
   cases j:ops[i]? with
   |none=>simp[j]at g
   |some o=>exact (Array.getElem?_eq_some_iff.1 j).1
  have:=Zp5 g hi;omega
theorem Zk3 {CL:Zw}{ops:Array Oper}{draw:Bool}{b:Nat}(u:draw=true->XI C ops ops.size=0){k:St->Z4}{j:AL->Hp->Z4}(w:∀ g H,k (XL n g,H)=j g H):∀ (l:List Oper) (i:Nat) (g:AL) (H:Hp),
 RK C CL ops draw b i l k (XL n g,H)=Zd9 C CL n ops draw i l j g H:=by
 intro l
 induction l with
 |nil=>intro i g H;exact w g H
 |cons o l z =>
  intro i g H;unfold RK Zd9
  have y:(draw&&lag C ops i)=false:=by
   cases draw with
   |false=>rfl
   |true=>simp[ZwE (u rfl) i]
  simp only[y,zD,if_false];exact Zm3 (fun g H=>z (i+1) g H) g H
theorem ZyZ {CL:Zw}{ops:Array Oper}{draw:Bool}{k:St->Z4}{u:AL->Hp->Z4}(j:∀ g H,k (XL n g,H)=u g H)(g:AL)(H:Hp) :
 RK C CL ops draw H.length 0 ops.toList k (XL n g,Q6 (if draw then XI C ops ops.size else 0) H)=AO C CL n ops draw u g H:=by
 unfold AO ZmI
 cases draw with
 |false=>exact Zk3 (fun h=>by cases h) j _ _ _ _
 |true =>
  simp only[if_true]
  cases w:XI C ops ops.size with
  |zero =>
   simp only[zA,Q6];exact Zk3 (fun _=>w) j _ _ _ _
  |succ m =>
   simp only[zA,Q6];exact ZsV j _ _ _ _
theorem ZyA {k:St->Z4}{u:AL->Hp->Z4}(w:∀ g H,k (XL n g,H)=u g H):∀ (j:List Nat) (g:AL) (H:Hp),k (Zjp j (XL n g,H))=Zmx n u j g H:=by
 intro j
 induction j with
 |nil=>intro g H;exact w g H
 |cons t j y =>
  intro g H;show k (Zjp j (frz1 (XL n g,H) t))=_;unfold frz1;simp only[Su];have:=ZjF (n:=n) g (some t) (Pu (S4 n g t) H).1;simp only[Xa,PM]at this;rw[<-this];exact y _ _
theorem Zyy {k:St->Z4}{u:AL->Hp->Z4}(j:∀ g H,k (XL n g,H)=u g H)(id:Nat)(g:AL)(H:Hp):k (frzs kp id (XL n g,H))=Zmw n (kp (id+1000000)) u g H:=by
 unfold frzs Zmw
 cases kp (id+1000000) with
 |none=>exact j g H
 |some w=>exact ZyA j w g H
theorem Zwk (id:Nat)(s:St):(frzs kp id s).1.length=s.1.length:=by
 unfold frzs
 cases kp (id+1000000) with
 |none=>rfl
 |some g =>
  simp only[Zjp]
  induction g generalizing s with
  |nil=>rfl
  |cons t g j=>rw[List.foldl_cons,j];simp[frz1]
theorem Zu3 {call:Zw}{ops:Array Oper}{fl:Bool}{o:Oper}{s s':St}(h:VL C call ops fl o s=some s'):s'.1.length=s.1.length:=by
 unfold VL at h;split at h
 ·simp only[zB]at h;subst h;cases o.dst <;> simp[Xa]
 ·cases h
theorem Zrx {call:Zw}{ops:Array Oper}{draw:Bool}{b i:Nat}{o:Oper}{s s':St}(h:XU C call ops draw b i o s=some s'):s'.1.length=s.1.length:=by
 unfold XU at h;split at h
 ·split at h
  ·cases h
  ·split at h
   ·simp only[zB]at h;subst h;cases o.dst <;> simp[Xa]
   ·cases h
 ·exact Zu3 h
theorem Zo8 {call:Zw}{ops:Array Oper}{draw:Bool}{b:Nat}:∀ (l:List Oper) (i:Nat) (s s':St),Yt C call ops draw b i l s=some s'->s'.1.length=s.1.length:=by
 intro l
 induction l with
 |nil=>intro i s s' h;simp[Yt]at h;rw[h]
 |cons o l j =>
  intro i s s' h;unfold Yt at h;split at h
  ·rename_i u g;rw[j _ _ _ h,Zrx g]
  ·cases h
theorem ZgR (c:Code)(s:St):(trim kp c s).1.length=s.1.length:=by
 unfold trim
 cases Yp c with
 |none=>rfl
 |some r =>
  simp only
  cases kp r with
  |none=>rfl
  |some keep=>simp[RZ]
theorem Zw7 {call:Zw}{m:Nat}:∀ (c:Code) (s s':St) (e:AExit),Zp C call kp m c s=some (e,s')->s'.1.length=s.1.length:=by
 intro c
 induction c with
 |region id ops draw =>
  intro s s' e h;simp only[Zp]at h;split at h
  ·cases h
  ·split at h
   ·rename_i E g;simp only[zB,zJ]at h;rw[<-h.2,<-Zwk (kp:=kp) id s];exact (Zo8 _ _ _ _ g :)
   ·cases h
 |seq a b w z =>
  intro s s' e h;simp only[Zp]at h;split at h
  ·rename_i E g;rw[z _ _ _ h,ZgR,w _ _ _ g]
  ·exact w _ _ _ h
 |cond c x y B D =>
  intro s s' e h;simp only[Zp]at h;split at h
  ·split at h
   ·exact B _ _ _ h
   ·exact D _ _ _ h
  ·cases h
 |block id c u =>
  intro s s' e h;simp only[Zp]at h;split at h
  ·rename_i i E g;split at h <;>
   ·simp only[zB,zJ]at h;rw[<-h.2];exact u _ _ _ g
  ·exact u _ _ _ h
 |loop c u =>
  intro s s' e h;simp only[Zp]at h
  have key:∀ (j:Nat) (s:St),XT (fun s=>Zp C call kp m c (trim kp c s)) j s=some (e,s')->s'.1.length=s.1.length:=by
   intro j
   induction j with
   |zero=>intro s h;simp[XT]at h
   |succ j A =>
    intro s h;unfold XT at h;split at h
    ·rename_i E g;rw[A _ h,u _ _ _ g,ZgR]
    ·rw[u _ _ _ h,ZgR]
  exact key _ _ h
 |scope c u =>
  intro s s' e h;simp only[Zp]at h;split at h
  ·exact u _ _ _ h
  ·cases h
 |skip=>intro s s' e h;simp[Zp]at h;rw[h.2]
 |exit id=>intro s s' e h;simp[Zp]at h;rw[h.2]
 |label l=>intro s s' e h;simp[Zp]at h;rw[h.2]
 |goto l=>intro s s' e h;simp[Zp]at h;rw[h.2]
 |ret=>intro s s' e h;simp[Zp]at h;rw[h.2]
 |_=>intro s s' e h;simp[Zp]at h
theorem Zt5 {c:Code}{s s':St}{e:AExit}(h:Yy C kp c s=some (e,s')):s'.1.length=s.1.length:=by
 obtain⟨m,g⟩:=ZY.1 h;exact Zw7 _ _ _ _ g
def Zls (n:Nat)(k:Kt)(j:KL):Prop:=∀ e g H,k e (XL n g,H)=j e g H
theorem Ou {c:Code}{k:Kt}{u:KL}(w:Zls n k u)(g:AL)(H:Hp):CF C kp c k (XL n g,H)=ZZ C kp n c u g H:=by
 unfold CF ZZ
 cases h:Yy C kp (.loop c) (XL n g,H) with
 |none=>rfl
 |some p =>
  obtain⟨e,tm,H'⟩:=p;have j:=Zt5 h;simp only[LJ]at j;simp only[Z0];rw[<-w e (HW tm) H',Zur j]
theorem Zze (x y:AV):C3 x y=if MF x y then some () else none:=by
 cases x with
 |ptr o f=>cases y with
  |ptr g j =>
   show (bif zA o g then none else some ())=if (!zA o g)=true then some () else none;cases zA o g <;> rfl
  |_=>rfl
 |_=>rfl
theorem ZjX (ev:Operand->AV)(r:Z4):∀ l:List (Nat×Nat),(l.all (fun p=>MF (ev (.tmp p.1)) (ev (.tmp p.2)))=true->Nr ev r l=r)/\(l.all (fun p=>MF (ev (.tmp p.1)) (ev (.tmp p.2)))=false->Nr ev r l=none):=by
 intro l
 induction l with
 |nil=>exact⟨fun _=>rfl,fun h=>by cases h⟩
 |cons p l g =>
  simp only[Nr,Zze,List.all_cons]
  cases j:MF (ev (.tmp p.1)) (ev (.tmp p.2)) with
  |true=>exact⟨fun h=>g.1 (by simpa using h),fun h=>g.2 (by simpa using h)⟩
  |false=>exact⟨fun h=>by simp at h,fun _=>rfl⟩
theorem ZfJ:∀ (c:Code) (k:Kt) (u:KL),Zls n k u->∀ (g:AL) (H:Hp),CX C (Z9 C) (CF C kp) kp c k (XL n g,H)=Y6 C (Z9 C) (ZZ C kp n) kp n Zc Z6 c u g H:=by
 intro c
 induction c with
 |region id ops draw =>
  intro k u j g H;simp only[CX,Y6];by_cases A:(draw&&!(W7 ops&&K2 C ops))=true
  ·rw[if_pos A,if_pos];unfold Dr
   revert A
   cases draw <;> cases W7 ops <;> cases K2 C ops <;> simp
  ·rw[if_neg A];refine Zyy (kp:=kp) (k:=fun s=>if (draw&&!(W7 ops&&Dr C ops (eval C s.1)))=true then none else RK C (Z9 C) ops draw s.2.length 0 ops.toList (fun s'=>k .normal s') (s.1,Q6 (if draw then XI C ops ops.size else 0) s.2)) (fun g H=>?_) id g H;have w:=ZyZ (C:=C) (CL:=Z9 C) (n:=n) (ops:=ops) (draw:=draw) (fun g H=>j .normal g H) g H;unfold Zn0
   cases draw with
   |false=>simpa using w
   |true =>
    have z:W7 ops=true/\K2 C ops=true:=by
     revert A
     cases W7 ops <;> cases K2 C ops <;> simp
    show _=Nr (Yx C n g) (AO C (Z9 C) n ops true _ g H) (Po C ops);unfold Dr ZqA;rw[z.1,z.2]
    have K:((Po C ops).all fun p=>MF (eval C (XL n g) (.tmp p.1)) (eval C (XL n g) (.tmp p.2)))=((Po C ops).all fun p=>MF (Yx C n g (.tmp p.1)) (Yx C n g (.tmp p.2))):=by
     congr 1;funext p;show MF ((XL n g).getD p.1 (.tuple [])) ((XL n g).getD p.2 (.tuple []))=_;rw[Su,Su];rfl
    rw[K]
    cases J:((Po C ops).all fun p=>MF (Yx C n g (.tmp p.1)) (Yx C n g (.tmp p.2))) with
    |true=>rw[(ZjX _ _ _).1 J,<-w];rfl
    |false=>rw[(ZjX _ _ _).2 J];rfl
 |seq a b D E =>
  intro k u j g H;simp only[CX,Y6];refine D _ _ (fun e g H=>?_) g H
  cases e with
  |normal=>simp only[Zat,Zc];rw[PN];exact E k u j _ _
  |_=>exact j _ _ _
 |cond c x y F I =>
  intro k u j g H;simp only[CX,Y6];rw[Zg7,F k u j,I k u j]
 |block id c B =>
  intro k u j g H;simp only[CX,Y6];refine B _ _ (fun e g H=>?_) g H
  cases e with
  |exit i =>
   simp only[Zd2,Z6];split <;> exact j _ _ _
  |_=>exact j _ _ _
 |loop c _ =>
  intro k u j g H;simp only[CX,Y6];rw[PN];exact Ou j _ _
 |scope c B =>
  intro k u j g H;simp only[CX,Y6];split
  ·exact B k u j g H
  ·rfl
 |skip=>intro k u j g H;exact j _ _ _
 |exit id=>intro k u j g H;exact j _ _ _
 |label l=>intro k u j g H;exact j _ _ _
 |goto l=>intro k u j g H;exact j _ _ _
 |ret=>intro k u j g H;exact j _ _ _
 |_=>intro k u j g H;rfl
def ZU (n:Nat)(g:KL):Prop:=∃ k,Zls n k g
theorem Zm (id:Nat){j:KL}(h:ZU n j):ZU n (Z6 id j):=by
 obtain⟨k,g⟩:=h;refine⟨Zd2 id k,fun e u H=>?_⟩
 cases e with
 |exit i =>
  simp only[Zd2,Z6];split <;> exact g _ _ _
 |_=>exact g _ _ _
theorem Zx (b:Code){j:KL}(h:ZU n j):ZU n (Zc (fun w g H'=>Y6 C (Z9 C) (ZZ C kp n) kp n Zc Z6 b w (ZS kp b g) H') j):=by
 obtain⟨k,u⟩:=h;refine⟨Zat (fun s'=>CX C (Z9 C) (CF C kp) kp b k (trim kp b s')) k,fun e y H=>?_⟩
 cases e with
 |normal=>simp only[Zat,Zc];rw[PN];exact ZfJ b k j u _ _
 |_=>exact u _ _ _
theorem NQ (c:Code){u:KL}(h:ZU n u):ZU n (Zc (fun w g H'=>ZZ C kp n c w (ZS kp c g) H') u):=by
 obtain⟨k,j⟩:=h;refine⟨Zat (fun s'=>CF C kp c k (trim kp c s')) k,fun e y H=>?_⟩
 cases e with
 |normal=>simp only[Zat,Zc];rw[PN];exact Ou j _ _
 |_=>exact j _ _ _
theorem Zs6 {c:Code}{w:KL}(h:ZU n w)(g:AL)(H:Hp):ZZ C kp n c w g H=Y6 C (Z9 C) (ZZ C kp n) kp n Zc Z6 c (Zc (fun y j H'=>ZZ C kp n c y (ZS kp c j) H') w) (ZS kp c g) H:=by
 obtain⟨k,u⟩:=h;rw[<-Ou u,Zzi,PN];refine ZfJ c _ _ (fun e g H=>?_) _ _
 cases e with
 |normal=>simp only[Zat,Zc];rw[PN];exact Ou u _ _
 |_=>exact u _ _ _
def Zez (C:Cfg)(n:Nat)(j:AL)(H:Hp):ResultVar->Option AV
 |.tmp t=>some (S4 n j t)
 |.cell a t=>match YN C.P t,YB C.P t with
  |some g,some sz=>Z3 g sz (S4 n j a) H
  |_,_=>none
def Zgz (C:Cfg)(n:Nat)(g:AL)(H:Hp):List ResultVar->List AV->(List AV->Z4)->Z4
 |[],acc,k=>k acc
 |r::rs,acc,k=>Z0 (Zez C n g H r) fun v=>Zgz C n g H rs (acc++[v]) k
noncomputable abbrev Zi (C:Cfg)(n:Nat)(f:FuncId)(fn:Func)(H0:Hp):KL:=fun e al H =>
 match e with
 |.normal=>Zgz C n al H fn.results.toList [] (S5 C f H0 H)
 |.ret=>Zgz C n al H fn.results.toList [] (S5 C f H0 H)
 |_=>none
theorem Zpd (j:AL)(H:Hp)(k:List AV->Z4):∀ (rs:List ResultVar) (g:List AV),Zaq C rs (XL n j,H) g k=Zgz C n j H rs g k:=by
 intro rs
 induction rs with
 |nil=>intro g;rfl
 |cons r rs u =>
  intro g;unfold Zaq Zgz
  have:Wv C (XL n j,H) r=Zez C n j H r:=by
   cases r <;> (simp only[Wv,Zez,Su] <;> rfl)
  rw[this];simp only[u]
theorem Zn5 (f:FuncId)(fn:Func)(g:Hp):Zls n (ZA2 C f fn g) (Zi C n f fn g):=by
 intro e j H
 cases e with
 |normal=>exact Zpd _ _ _ _ _
 |ret=>exact Zpd _ _ _ _ _
 |_=>rfl
theorem ZB (f:FuncId)(fn:Func)(g:Hp):ZU n (Zi C n f fn g):=⟨_,Zn5 f fn g⟩
def Lm:Nat->List AV->AL
 |_,[]=>[]
 |i,a::r=>(i,a)::Lm (i+1) r
theorem ZnR (args:List AV):XL n (Lm 0 args)=XL n (HW args):=by
 have key:∀ (l:List AV) (i t:Nat),look (Lm i l) t=if i<=t then l.getD (t-i) .undef else .undef:=by
  intro l
  induction l with
  |nil=>intro i t;simp[Lm,look]
  |cons a l z =>
   intro i t;simp only[Lm,look,z];by_cases h:i=t
   ·subst h;simp
   ·have u:zA i t=false:=by
     cases y:zA i t with
     |false=>rfl
     |true=>exact absurd (zC y) h
    simp only[u,cond_false];by_cases j:i<=t
    ·have g:i+1<=t:=by omega
     have w:t-i=(t-(i+1))+1:=by omega
     simp[j,g,w]
    ·have g:¬ i+1<=t:=by omega
     simp[j,g]
 unfold XL;apply List.map_congr_left;intro t _;rw[key];unfold HW;rw[Sd];by_cases h:t<args.length <;> simp[h]
theorem ZjV {f:FuncId}{fn:Func}{c:Code}(u:C.P.funcs[f]?=some fn)(j:Di C f fn=some c)(g:fn.ntmps=n)(args:List AV)(w:Nat.ble args.length n=true)(H:Hp) :
 Z9 C f args H=Y6 C (Z9 C) (ZZ C (C.keep f) n) (C.keep f) n Zc Z6 c (Zi C n f fn H) (Lm 0 args) H:=by
 subst g;rw[ZvD u j,<-Zx8 (zG w),<-ZnR];exact ZfJ _ _ _ (Zn5 f fn H) _ _
end
end Go.Am
