/- THE ABSTRACT MACHINE -/
import Derived.Test.YtnaneekpogohaaaGreatDoorHmOx
open List renaming getElem?_eq_none->zH,replicate->zI,range->zK
open Nat renaming beq->zA,eq_of_beq_eq_true->zC,blt->zE,le_of_ble_eq_true->zG
open Bool renaming false_eq_true->zD,rec->zF
open Option.some renaming injEq->zB
open Prod.mk renaming injEq->zJ
namespace Go.Am
open RowKit
abbrev AL:=List (Nat×AV)
abbrev KL:=AExit->AL->Hp->Z3
def look:AL->Nat->AV
 |[],_=>.undef
 |(i,v)::r,t=>bif zA i t then v else look r t
def XG (n:Nat)(g:AL):List AV:=(zK n).map (look g)
def CV (tm:List AV):AL:=(zK tm.length).map fun i=>(i,tm.getD i .undef)
def Em (n:Nat)(g:AL)(t:Nat):AV:=bif zE t n then look g t else .tuple []
def Yy (C:Cfg)(n:Nat)(g:AL):Operand->AV
 |.tmp t=>Em n g t
 |x=>eval C [] x
def Rt {α:Type}(n:Nat)(ops:Array Oper)(u:AL)(o:Oper)(els:α)(x:Option α):Option α :=
 match o.guard with
 |none=>x
 |some (j,want)=>match (match ops[j]? with|some g=>g.dst|none=>none) with
  |none=>some els
  |some d=>bif zE d n then Z8 (look u d) want els x else some els
def Pd (j:AL)(g:Option Tmp)(v:AV):AL :=
 match g with
 |some d=>(d,v)::j
 |none=>j
def ZU (kp:Nat->Option (List Nat))(c:Code)(g:AL):AL :=
 match Yq c with
 |none=>g
 |some r=>match kp r with
  |none=>g
  |some keep=>keep.map fun t=>(t,look g t)
def ZqH:Op->Option Operand
 |.move x=>some x
 |.assign x=>some x
 |_=>none
def AG (C:Cfg)(CL:Zx)(n:Nat)(ops:Array Oper)(fl:Bool)(o:Oper)(k:AL->Hp->Z3)(g:AL)(H:Hp):Z3 :=
 match (if fl then 0 else Xl C o.op) with
 |0=>Z0 (Rt n ops g o (.tuple []) (ZI C (Yy C n g) o.op)) fun v=>k (Pd g o.dst v) H
 |1=>Z0 (Rt n ops g o (.tuple []) (G7 C (Yy C n g) H o.op)) fun v=>k (Pd g o.dst v) H
 |_=>Z0 (Rt n ops g o (.tuple [],H) (ZA C CL (Yy C n g) H o.op)) fun r=>k (Pd g o.dst r.1) r.2
def Ca (C:Cfg)(CL:Zx)(n:Nat)(ops:Array Oper)(fl:Bool)(o:Oper)(k:AL->Hp->Z3)(g:AL)(H:Hp):Z3 :=
 match o.guard,ZqH o.op with
 |none,some x=>k (Pd g o.dst (Yy C n g x)) H
 |_,_=>AG C CL n ops fl o k g H
def Zc7 (C:Cfg)(CL:Zx)(n:Nat)(ops:Array Oper)(draw:Bool):Nat->List Oper->(AL->Hp->Z3)->AL->Hp->Z3
 |_,[],k,al,H=>k al H
 |i,o::rest,k,al,H=>Ca C CL n ops (draw&&YF C ops i) o (Zc7 C CL n ops draw (i+1) rest k) al H
noncomputable def ZlS (C:Cfg)(n:Nat)(ops:Array Oper)(b i:Nat)(o:Oper)(k:AL->Hp->Z3)(g:AL)(H:Hp):Z3 :=
 zF (motive:=fun _=>Z3) (Z0 (KO (b+XD C ops i) (Rw C (Yy C n g) o.op) H) fun r=>k (Pd g o.dst r.1) r.2) none (YF C ops i)
noncomputable def E0 (C:Cfg)(CL:Zx)(n:Nat)(ops:Array Oper)(b:Nat):Nat->List Oper->(AL->Hp->Z3)->AL->Hp->Z3
 |_,[],k,al,H=>k al H
 |i,o::rest,k,al,H=>zF (motive:=fun _=>Z3) (Ca C CL n ops (YF C ops i) o (E0 C CL n ops b (i+1) rest k) al H) (ZlS C n ops b i o (E0 C CL n ops b (i+1) rest k) al H) (lag C ops i)
noncomputable def ZlR (C:Cfg)(ops:Array Oper)(draw:Bool):Bool:=zF (motive:=fun _=>Bool) false (zF (motive:=fun _=>Bool) true false (zA (XD C ops ops.size) 0)) draw
noncomputable def HW (C:Cfg)(CL:Zx)(n:Nat)(ops:Array Oper)(draw:Bool)(k:AL->Hp->Z3)(g:AL)(H:Hp):Z3 :=
 zF (motive:=fun _=>Z3) (Zc7 C CL n ops draw 0 ops.toList k g H) (E0 C CL n ops H.length 0 ops.toList k g (H++zI (XD C ops ops.size) .free)) (ZlR C ops draw)
def Sb (x y:AV):Option Unit :=
 match x,y with
 |.ptr o _,.ptr o' _=>bif zA o o' then none else some ()
 |_,_=>none
def PT (ev:Operand->AV)(r:Z3):List (Nat×Nat)->Z3
 |[]=>r
 |p::l=>Z0 (Sb (ev (.tmp p.1)) (ev (.tmp p.2))) fun _=>PT ev r l
noncomputable def Zme (C:Cfg)(CL:Zx)(n:Nat)(ops:Array Oper)(draw:Bool)(k:AL->Hp->Z3)(g:AL)(H:Hp):Z3 :=
 zF (motive:=fun _=>Z3) (HW C CL n ops draw k g H) (PT (Yy C n g) (HW C CL n ops draw k g H) (TP C ops)) draw
abbrev SQ:=(KL->AL->Hp->Z3)->KL->KL
abbrev BL:=Nat->KL->KL
def V8 (a:AV)(H:Hp)(k:AV->Hp->Z3):Z3:=k (TT a H).1 (TT a H).2
def ZlG (n:Nat)(k:AL->Hp->Z3):List Nat->AL->Hp->Z3
 |[],al,H=>k al H
 |t::ts,al,H=>V8 (Em n al t) H fun v H'=>ZlG n k ts ((t,v)::al) H'
def ZlF (n:Nat)(g:Option (List Nat))(k:AL->Hp->Z3)(j:AL)(H:Hp):Z3 :=
 match g with
 |none=>k j H
 |some g=>ZlG n k g j H
noncomputable def Y9 (C:Cfg)(CL:Zx)(g:Code->KL->AL->Hp->Z3)(kp:Nat->Option (List Nat))(n:Nat)(w:SQ)(u:BL):Code->KL->AL->Hp->Z3
 |.skip,k,al,H=>k .normal al H
 |.region id ops draw,k,al,H=>if draw&&!(XZ ops&&JW C ops) then none else ZlF n (kp (id+1000000)) (Zme C CL n ops draw (fun j H'=>k .normal j H')) al H
 |.seq a b,k,al,H=>Y9 C CL g kp n w u a (w (fun z j H'=>Y9 C CL g kp n w u b z (ZU kp b j) H') k) al H
 |.cond c x y,k,al,H=>Zl (Yy C n al c) (Y9 C CL g kp n w u x k al H) (Y9 C CL g kp n w u y k al H)
 |.block id c,k,al,H=>Y9 C CL g kp n w u c (u id k) al H
 |.loop c,k,al,H=>g c k (ZU kp c al) H
 |.scope c,k,al,H=>if Xc c then Y9 C CL g kp n w u c k al H else none
 |.exit id,k,al,H=>k (.exit id) al H
 |.label _,k,al,H=>k .normal al H
 |.goto l,k,al,H=>k (.goto l) al H
 |.ret,k,al,H=>k .ret al H
 |_,_,_,_=>none
abbrev CXT:=Cfg->Zx->(Code->KL->AL->Hp->Z3)->(Nat->Option (List Nat))->Nat->SQ->BL->Code->KL->AL->Hp->Z3
noncomputable def Zc (B:KL->AL->Hp->Z3)(k:KL):KL:=(fun (_:CXT) e al H =>
 match e with
 |.normal=>B k al H
 |e=>k e al H) Y9
noncomputable def Z7 (id:Nat)(k:KL):KL:=(fun (_:CXT) e al H =>
 match e with
 |.exit i=>if i=id then k .normal al H else k (.exit i) al H
 |e=>k e al H) Y9
noncomputable def Y6 (C:Cfg)(kp:Nat->Option (List Nat))(n:Nat)(c:Code)(k:KL)(g:AL)(H:Hp):Z3 :=
 Z0 (Yz C kp (.loop c) (XG n g,H)) fun p=>k p.1 (CV p.2.1) p.2.2
section
variable {C:Cfg}{kp:Nat->Option (List Nat)}{n:Nat}
theorem IM {a b:Nat}(h:a<b):zE a b=true:=by rw[zE];exact Nat.ble_eq_true_of_le h
theorem C5 {a b:Nat}(h:¬ a<b):zE a b=false:=by
 cases g:zE a b with
 |false=>rfl
 |true=>exact absurd (zG (by rw[zE]at g;exact g)) h
theorem L9 (g:AL):(XG n g).length=n:=by simp[XG]
theorem Ia (g:AL)(t:Nat):(XG n g)[t]?=if t<n then some (look g t) else none:=by
 unfold XG;rw[List.getElem?_map];split
 ·rename_i h;rw[List.getElem?_range h];rfl
 ·rename_i h;rw[zH (by simp;omega)];rfl
theorem EA (g:AL)(t:Nat):(XG n g).getD t (.tuple [])=Em n g t:=by
 rw[List.getD_eq_getElem?_getD,Ia];unfold Em;by_cases h:t<n
 ·simp[h,IM h]
 ·simp[h,C5 h]
theorem Es (f:Nat->AV):∀ (l:List Nat) (t:Nat),look (l.map fun i=>(i,f i)) t=if t∈l then f t else .undef:=by
 intro l
 induction l with
 |nil=>intro t;rfl
 |cons a l w =>
  intro t;simp only[List.map_cons,look,w];by_cases h:a=t
  ·subst h;simp
  ·have g:zA a t=false:=by
    cases u:zA a t with
    |false=>rfl
    |true=>exact absurd (zC u) h
   have j:¬ t=a:=fun e=>h e.symm;simp[g,j]
theorem Zdw {g:AL}{tm:List AV}(j:tm.length=n)(h:∀ i,i<n->tm[i]?=some (look g i)):XG n g=tm:=by
 apply List.ext_getElem?;intro i;rw[Ia];split
 ·rename_i hi;rw[h i hi]
 ·rename_i hi;rw[zH (by omega)]
theorem ZtW {tm:List AV}(h:tm.length=n):XG n (CV tm)=tm:=by
 apply Zdw h;intro i hi;unfold CV;rw[Es];have:i<tm.length:=by omega
 simp[this]
theorem ZwQ {args:List AV}(h:args.length<=n):XG n (CV args)=args++zI (n-args.length) .undef:=by
 apply Zdw
 ·simp;omega
 ·intro i hi;unfold CV;rw[Es,List.getElem?_append];by_cases g:i<args.length
  ·simp[g]
  ·have j:i-args.length<n-args.length:=by omega
   simp[g,j]
theorem ZiM (j:AL)(g:Option Tmp)(v:AV):XG n (Pd j g v)=Xa (XG n j) g v:=by
 cases g with
 |none=>rfl
 |some d =>
  apply Zdw
  ·simp[Xa,L9]
  ·intro i hi;simp only[Xa,Pd,look];by_cases h:d=i
   ·subst h;simp[L9,hi]
   ·have u:zA d i=false:=by
     cases w:zA d i with
     |false=>rfl
     |true=>exact absurd (zC w) h
    rw[List.getElem?_set_ne h,Ia];simp[hi,u]
theorem Zkb (keep:List Nat):∀ (l:List AV) (i j:Nat),(Xx keep i l)[j]?=(l[j]?).map fun a=>if keep.contains (i+j) then a else .undef:=by
 intro l
 induction l with
 |nil=>intro i j;simp[Xx]
 |cons a l g =>
  intro i j
  cases j with
  |zero=>simp[Xx]
  |succ j=>simp only[Xx,List.getElem?_cons_succ,g];rw[Nat.add_right_comm,Nat.add_assoc]
theorem Pe (c:Code)(g:AL)(H:Hp):trim kp c (XG n g,H)=(XG n (ZU kp c g),H):=by
 unfold trim ZU
 cases Yq c with
 |none=>rfl
 |some r =>
  simp only
  cases kp r with
  |none=>rfl
  |some keep =>
   simp only;refine Prod.ext ?_ rfl;symm;apply Zdw
   ·simp[Rv,L9]
   ·intro i hi;rw[Zkb,Ia,Es];simp[hi]
theorem Zf8 (g:AL):eval C (XG n g)=Yy C n g:=by
 funext x
 cases x with
 |tmp t=>exact EA g t
 |_=>rfl
theorem Zw8 {α:Type}(ops:Array Oper)(u:AL)(o:Oper)(els:α)(x:Option α):Og ops (XG n u) o els x=Rt n ops u o els x:=by
 unfold Og Rt
 cases o.guard with
 |none=>rfl
 |some p =>
  obtain⟨j,w⟩:=p;simp only
  cases ops[j]? with
  |none=>rfl
  |some g =>
   simp only
   cases g.dst with
   |none=>rfl
   |some d =>
    simp only;rw[Ia];by_cases h:d<n
    ·simp[h,IM h]
    ·simp[h,C5 h]
theorem Zso {CL:Zx}{ops:Array Oper}{fl:Bool}{o:Oper}{k:St->Z3}{j:AL->Hp->Z3}(u:∀ g H,k (XG n g,H)=j g H)(g:AL)(H:Hp) :
 Zir C CL ops fl o k (XG n g) H=AG C CL n ops fl o j g H:=by
 unfold Zir AG;rw[Zf8];simp only[Zw8,<-ZiM,u];rfl
theorem Ztq {op:Op}{x:Operand}(h:ZqH op=some x)(ev:Operand->AV):ZI C ev op=some (ev x)/\Xl C op=0:=by
 cases op <;> simp only[ZqH,zB,reduceCtorEq]at h
 ·subst h;exact⟨rfl,rfl⟩
 ·subst h;exact⟨rfl,rfl⟩
theorem Zld {CL:Zx}{ops:Array Oper}{fl:Bool}{o:Oper}{k:St->Z3}{j:AL->Hp->Z3}(z:∀ g H,k (XG n g,H)=j g H)(g:AL)(H:Hp) :
 Zir C CL ops fl o k (XG n g) H=Ca C CL n ops fl o j g H:=by
 rw[Zso z];unfold Ca;split
 ·rename_i x y A;obtain⟨u,w⟩:=Ztq (C:=C) A (Yy C n g);unfold AG;rw[u,w,ite_self];simp only[Rt,y,Z0]
 ·rfl
theorem Zsp {CL:Zx}{ops:Array Oper}{b:Nat}{k:St->Z3}{u:AL->Hp->Z3}(w:∀ g H,k (XG n g,H)=u g H):∀ (l:List Oper) (i:Nat) (g:AL) (H:Hp),
 Rh C CL ops true b i l k (XG n g,H)=E0 C CL n ops b i l u g H:=by
 intro l
 induction l with
 |nil=>intro i g H;exact w g H
 |cons o l j =>
  intro i g H;unfold Rh E0;simp only[Bool.true_and]
  cases z:lag C ops i with
  |true =>
   simp only[if_true];unfold ZlS
   cases y:YF C ops i with
   |true=>rfl
   |false =>
    simp only[zD,if_false];rw[Zf8];congr 1;funext r;rw[<-j (i+1) (Pd g o.dst r.1) r.2,ZiM]
  |false =>
   simp only[zD,if_false];exact Zld (fun g H=>j (i+1) g H) g H
theorem Zwl {ops:Array Oper}(h:XD C ops ops.size=0)(i:Nat):lag C ops i=false:=by
 cases g:lag C ops i with
 |false=>rfl
 |true =>
  have hi:i<ops.size:=by
   unfold lag at g
   cases j:ops[i]? with
   |none=>simp[j]at g
   |some o=>exact (Array.getElem?_eq_some_iff.1 j).1
  have:=Zoj g hi;omega
theorem Zja {CL:Zx}{ops:Array Oper}{draw:Bool}{b:Nat}(u:draw=true->XD C ops ops.size=0){k:St->Z3}{j:AL->Hp->Z3}(w:∀ g H,k (XG n g,H)=j g H):∀ (l:List Oper) (i:Nat) (g:AL) (H:Hp),
 Rh C CL ops draw b i l k (XG n g,H)=Zc7 C CL n ops draw i l j g H:=by
 intro l
 induction l with
 |nil=>intro i g H;exact w g H
 |cons o l z =>
  intro i g H;unfold Rh Zc7
  have y:(draw&&lag C ops i)=false:=by
   cases draw with
   |false=>rfl
   |true=>simp[Zwl (u rfl) i]
  simp only[y,zD,if_false];exact Zld (fun g H=>z (i+1) g H) g H
theorem Zz1 {CL:Zx}{ops:Array Oper}{draw:Bool}{k:St->Z3}{u:AL->Hp->Z3}(j:∀ g H,k (XG n g,H)=u g H)(g:AL)(H:Hp) :
 Rh C CL ops draw H.length 0 ops.toList k (XG n g,Q2 (if draw then XD C ops ops.size else 0) H)=HW C CL n ops draw u g H:=by
 unfold HW ZlR
 cases draw with
 |false=>exact Zja (fun h=>by cases h) j _ _ _ _
 |true =>
  simp only[if_true]
  cases w:XD C ops ops.size with
  |zero =>
   simp only[zA,Q2];exact Zja (fun _=>w) j _ _ _ _
  |succ m =>
   simp only[zA,Q2];exact Zsp j _ _ _ _
theorem ZyC {k:St->Z3}{u:AL->Hp->Z3}(w:∀ g H,k (XG n g,H)=u g H):∀ (j:List Nat) (g:AL) (H:Hp),k (Zix j (XG n g,H))=ZlG n u j g H:=by
 intro j
 induction j with
 |nil=>intro g H;exact w g H
 |cons t j y =>
  intro g H;show k (Zix j (frz1 (XG n g,H) t))=_;unfold frz1;simp only[EA];have:=ZiM (n:=n) g (some t) (TT (Em n g t) H).1;simp only[Xa,Pd]at this;rw[<-this];exact y _ _
theorem ZyA {k:St->Z3}{u:AL->Hp->Z3}(j:∀ g H,k (XG n g,H)=u g H)(id:Nat)(g:AL)(H:Hp):k (frzs kp id (XG n g,H))=ZlF n (kp (id+1000000)) u g H:=by
 unfold frzs ZlF
 cases kp (id+1000000) with
 |none=>exact j g H
 |some w=>exact ZyC j w g H
theorem Zw1 (id:Nat)(s:St):(frzs kp id s).1.length=s.1.length:=by
 unfold frzs
 cases kp (id+1000000) with
 |none=>rfl
 |some g =>
  simp only[Zix]
  induction g generalizing s with
  |nil=>rfl
  |cons t g j=>rw[List.foldl_cons,j];simp[frz1]
theorem Zty {call:Zx}{ops:Array Oper}{fl:Bool}{o:Oper}{s s':St}(h:VD C call ops fl o s=some s'):s'.1.length=s.1.length:=by
 unfold VD at h;split at h
 ·simp only[zB]at h;subst h;cases o.dst <;> simp[Xa]
 ·cases h
theorem ZqX {call:Zx}{ops:Array Oper}{draw:Bool}{b i:Nat}{o:Oper}{s s':St}(h:XL C call ops draw b i o s=some s'):s'.1.length=s.1.length:=by
 unfold XL at h;split at h
 ·split at h
  ·cases h
  ·split at h
   ·simp only[zB]at h;subst h;cases o.dst <;> simp[Xa]
   ·cases h
 ·exact Zty h
theorem Znm {call:Zx}{ops:Array Oper}{draw:Bool}{b:Nat}:∀ (l:List Oper) (i:Nat) (s s':St),Yt C call ops draw b i l s=some s'->s'.1.length=s.1.length:=by
 intro l
 induction l with
 |nil=>intro i s s' h;simp[Yt]at h;rw[h]
 |cons o l j =>
  intro i s s' h;unfold Yt at h;split at h
  ·rename_i u g;rw[j _ _ _ h,ZqX g]
  ·cases h
theorem ZfN (c:Code)(s:St):(trim kp c s).1.length=s.1.length:=by
 unfold trim
 cases Yq c with
 |none=>rfl
 |some r =>
  simp only
  cases kp r with
  |none=>rfl
  |some keep=>simp[Rv]
theorem ZvO {call:Zx}{m:Nat}:∀ (c:Code) (s s':St) (e:AExit),Zp C call kp m c s=some (e,s')->s'.1.length=s.1.length:=by
 intro c
 induction c with
 |region id ops draw =>
  intro s s' e h;simp only[Zp]at h;split at h
  ·cases h
  ·split at h
   ·rename_i E g;simp only[zB,zJ]at h;rw[<-h.2,<-Zw1 (kp:=kp) id s];exact (Znm _ _ _ _ g :)
   ·cases h
 |seq a b w z =>
  intro s s' e h;simp only[Zp]at h;split at h
  ·rename_i E g;rw[z _ _ _ h,ZfN,w _ _ _ g]
  ·exact w _ _ _ h
 |cond c x y B D =>
  intro s s' e h;simp only[Zp]at h;split at h
  ·split at h
   ·exact B _ _ _ h
   ·exact D _ _ _ h
  ·cases h
 |block id c u =>
  intro s s' e h;simp only[Zp]at h;split at h
  ·rename_i i E g;split at h <;>
   ·simp only[zB,zJ]at h;rw[<-h.2];exact u _ _ _ g
  ·exact u _ _ _ h
 |loop c u =>
  intro s s' e h;simp only[Zp]at h
  have key:∀ (j:Nat) (s:St),XK (fun s=>Zp C call kp m c (trim kp c s)) j s=some (e,s')->s'.1.length=s.1.length:=by
   intro j
   induction j with
   |zero=>intro s h;simp[XK]at h
   |succ j A =>
    intro s h;unfold XK at h;split at h
    ·rename_i E g;rw[A _ h,u _ _ _ g,ZfN]
    ·rw[u _ _ _ h,ZfN]
  exact key _ _ h
 |scope c u =>
  intro s s' e h;simp only[Zp]at h;split at h
  ·exact u _ _ _ h
  ·cases h
 |skip=>intro s s' e h;simp[Zp]at h;rw[h.2]
 |exit id=>intro s s' e h;simp[Zp]at h;rw[h.2]
 |label l=>intro s s' e h;simp[Zp]at h;rw[h.2]
 |goto l=>intro s s' e h;simp[Zp]at h;rw[h.2]
 |ret=>intro s s' e h;simp[Zp]at h;rw[h.2]
 |_=>intro s s' e h;simp[Zp]at h
theorem Zsz {c:Code}{s s':St}{e:AExit}(h:Yz C kp c s=some (e,s')):s'.1.length=s.1.length:=by
 obtain⟨m,g⟩:=ZX.1 h;exact ZvO _ _ _ _ g
def ZkF (n:Nat)(k:Kt)(j:KL):Prop:=∀ e g H,k e (XG n g,H)=j e g H
theorem IC {c:Code}{k:Kt}{u:KL}(w:ZkF n k u)(g:AL)(H:Hp):SR C kp c k (XG n g,H)=Y6 C kp n c u g H:=by
 unfold SR Y6
 cases h:Yz C kp (.loop c) (XG n g,H) with
 |none=>rfl
 |some p =>
  obtain⟨e,tm,H'⟩:=p;have j:=Zsz h;simp only[L9]at j;simp only[Z0];rw[<-w e (CV tm) H',ZtW j]
theorem Zzh (x y:AV):Sb x y=if M4 x y then some () else none:=by
 cases x with
 |ptr o f=>cases y with
  |ptr g j =>
   show (bif zA o g then none else some ())=if (!zA o g)=true then some () else none;cases zA o g <;> rfl
  |_=>rfl
 |_=>rfl
theorem Zj4 (ev:Operand->AV)(r:Z3):∀ l:List (Nat×Nat),(l.all (fun p=>M4 (ev (.tmp p.1)) (ev (.tmp p.2)))=true->PT ev r l=r)/\(l.all (fun p=>M4 (ev (.tmp p.1)) (ev (.tmp p.2)))=false->PT ev r l=none):=by
 intro l
 induction l with
 |nil=>exact⟨fun _=>rfl,fun h=>by cases h⟩
 |cons p l g =>
  simp only[PT,Zzh,List.all_cons]
  cases j:M4 (ev (.tmp p.1)) (ev (.tmp p.2)) with
  |true=>exact⟨fun h=>g.1 (by simpa using h),fun h=>g.2 (by simpa using h)⟩
  |false=>exact⟨fun h=>by simp at h,fun _=>rfl⟩
theorem ZeK:∀ (c:Code) (k:Kt) (u:KL),ZkF n k u->∀ (g:AL) (H:Hp),CX C (Z9 C) (SR C kp) kp c k (XG n g,H)=Y9 C (Z9 C) (Y6 C kp n) kp n Zc Z7 c u g H:=by
 intro c
 induction c with
 |region id ops draw =>
  intro k u j g H;simp only[CX,Y9];by_cases A:(draw&&!(XZ ops&&JW C ops))=true
  ·rw[if_pos A,if_pos];unfold Da
   revert A
   cases draw <;> cases XZ ops <;> cases JW C ops <;> simp
  ·rw[if_neg A];refine ZyA (kp:=kp) (k:=fun s=>if (draw&&!(XZ ops&&Da C ops (eval C s.1)))=true then none else Rh C (Z9 C) ops draw s.2.length 0 ops.toList (fun s'=>k .normal s') (s.1,Q2 (if draw then XD C ops ops.size else 0) s.2)) (fun g H=>?_) id g H;have w:=Zz1 (C:=C) (CL:=Z9 C) (n:=n) (ops:=ops) (draw:=draw) (fun g H=>j .normal g H) g H;unfold Zme
   cases draw with
   |false=>simpa using w
   |true =>
    have z:XZ ops=true/\JW C ops=true:=by
     revert A
     cases XZ ops <;> cases JW C ops <;> simp
    show _=PT (Yy C n g) (HW C (Z9 C) n ops true _ g H) (TP C ops);unfold Da ZpX;rw[z.1,z.2]
    have K:((TP C ops).all fun p=>M4 (eval C (XG n g) (.tmp p.1)) (eval C (XG n g) (.tmp p.2)))=((TP C ops).all fun p=>M4 (Yy C n g (.tmp p.1)) (Yy C n g (.tmp p.2))):=by
     congr 1;funext p;show M4 ((XG n g).getD p.1 (.tuple [])) ((XG n g).getD p.2 (.tuple []))=_;rw[EA,EA];rfl
    rw[K]
    cases J:((TP C ops).all fun p=>M4 (Yy C n g (.tmp p.1)) (Yy C n g (.tmp p.2))) with
    |true=>rw[(Zj4 _ _ _).1 J,<-w];rfl
    |false=>rw[(Zj4 _ _ _).2 J];rfl
 |seq a b D E =>
  intro k u j g H;simp only[CX,Y9];refine D _ _ (fun e g H=>?_) g H
  cases e with
  |normal=>simp only[OC,Zc];rw[Pe];exact E k u j _ _
  |_=>exact j _ _ _
 |cond c x y F I =>
  intro k u j g H;simp only[CX,Y9];rw[Zf8,F k u j,I k u j]
 |block id c B =>
  intro k u j g H;simp only[CX,Y9];refine B _ _ (fun e g H=>?_) g H
  cases e with
  |exit i =>
   simp only[Zc0,Z7];split <;> exact j _ _ _
  |_=>exact j _ _ _
 |loop c _ =>
  intro k u j g H;simp only[CX,Y9];rw[Pe];exact IC j _ _
 |scope c B =>
  intro k u j g H;simp only[CX,Y9];split
  ·exact B k u j g H
  ·rfl
 |skip=>intro k u j g H;exact j _ _ _
 |exit id=>intro k u j g H;exact j _ _ _
 |label l=>intro k u j g H;exact j _ _ _
 |goto l=>intro k u j g H;exact j _ _ _
 |ret=>intro k u j g H;exact j _ _ _
 |_=>intro k u j g H;rfl
def ZW (n:Nat)(g:KL):Prop:=∃ k,ZkF n k g
theorem Zn (id:Nat){j:KL}(h:ZW n j):ZW n (Z7 id j):=by
 obtain⟨k,g⟩:=h;refine⟨Zc0 id k,fun e u H=>?_⟩
 cases e with
 |exit i =>
  simp only[Zc0,Z7];split <;> exact g _ _ _
 |_=>exact g _ _ _
theorem Zy (b:Code){j:KL}(h:ZW n j):ZW n (Zc (fun w g H'=>Y9 C (Z9 C) (Y6 C kp n) kp n Zc Z7 b w (ZU kp b g) H') j):=by
 obtain⟨k,u⟩:=h;refine⟨OC (fun s'=>CX C (Z9 C) (SR C kp) kp b k (trim kp b s')) k,fun e y H=>?_⟩
 cases e with
 |normal=>simp only[OC,Zc];rw[Pe];exact ZeK b k j u _ _
 |_=>exact u _ _ _
theorem Nj (c:Code){u:KL}(h:ZW n u):ZW n (Zc (fun w g H'=>Y6 C kp n c w (ZU kp c g) H') u):=by
 obtain⟨k,j⟩:=h;refine⟨OC (fun s'=>SR C kp c k (trim kp c s')) k,fun e y H=>?_⟩
 cases e with
 |normal=>simp only[OC,Zc];rw[Pe];exact IC j _ _
 |_=>exact j _ _ _
theorem Zry {c:Code}{w:KL}(h:ZW n w)(g:AL)(H:Hp):Y6 C kp n c w g H=Y9 C (Z9 C) (Y6 C kp n) kp n Zc Z7 c (Zc (fun y j H'=>Y6 C kp n c y (ZU kp c j) H') w) (ZU kp c g) H:=by
 obtain⟨k,u⟩:=h;rw[<-IC u,Zzn,Pe];refine ZeK c _ _ (fun e g H=>?_) _ _
 cases e with
 |normal=>simp only[OC,Zc];rw[Pe];exact IC u _ _
 |_=>exact u _ _ _
def Zdx (C:Cfg)(n:Nat)(j:AL)(H:Hp):ResultVar->Option AV
 |.tmp t=>some (Em n j t)
 |.cell a t=>match YO C.P t,YD C.P t with
  |some g,some sz=>Z4 g sz (Em n j a) H
  |_,_=>none
def Zfx (C:Cfg)(n:Nat)(g:AL)(H:Hp):List ResultVar->List AV->(List AV->Z3)->Z3
 |[],acc,k=>k acc
 |r::rs,acc,k=>Z0 (Zdx C n g H r) fun v=>Zfx C n g H rs (acc++[v]) k
noncomputable abbrev Zh (C:Cfg)(n:Nat)(f:FuncId)(fn:Func)(H0:Hp):KL:=fun e al H =>
 match e with
 |.normal=>Zfx C n al H fn.results.toList [] (En C f H0 H)
 |.ret=>Zfx C n al H fn.results.toList [] (En C f H0 H)
 |_=>none
theorem Zor (j:AL)(H:Hp)(k:List AV->Z3):∀ (rs:List ResultVar) (g:List AV),Oz C rs (XG n j,H) g k=Zfx C n j H rs g k:=by
 intro rs
 induction rs with
 |nil=>intro g;rfl
 |cons r rs u =>
  intro g;unfold Oz Zfx
  have:Wr C (XG n j,H) r=Zdx C n j H r:=by
   cases r <;> (simp only[Wr,Zdx,EA] <;> rfl)
  rw[this];simp only[u]
theorem Zmj (f:FuncId)(fn:Func)(g:Hp):ZkF n (ZA8 C f fn g) (Zh C n f fn g):=by
 intro e j H
 cases e with
 |normal=>exact Zor _ _ _ _ _
 |ret=>exact Zor _ _ _ _ _
 |_=>rfl
theorem ZB (f:FuncId)(fn:Func)(g:Hp):ZW n (Zh C n f fn g):=⟨_,Zmj f fn g⟩
def MI:Nat->List AV->AL
 |_,[]=>[]
 |i,a::r=>(i,a)::MI (i+1) r
theorem Zn5 (args:List AV):XG n (MI 0 args)=XG n (CV args):=by
 have key:∀ (l:List AV) (i t:Nat),look (MI i l) t=if i<=t then l.getD (t-i) .undef else .undef:=by
  intro l
  induction l with
  |nil=>intro i t;simp[MI,look]
  |cons a l z =>
   intro i t;simp only[MI,look,z];by_cases h:i=t
   ·subst h;simp
   ·have u:zA i t=false:=by
     cases y:zA i t with
     |false=>rfl
     |true=>exact absurd (zC y) h
    simp only[u,cond_false];by_cases j:i<=t
    ·have g:i+1<=t:=by omega
     have w:t-i=(t-(i+1))+1:=by omega
     simp[j,g,w]
    ·have g:¬ i+1<=t:=by omega
     simp[j,g]
 unfold XG;apply List.map_congr_left;intro t _;rw[key];unfold CV;rw[Es];by_cases h:t<args.length <;> simp[h]
theorem Zj2 {f:FuncId}{fn:Func}{c:Code}(u:C.P.funcs[f]?=some fn)(j:BZ C f fn=some c)(g:fn.ntmps=n)(args:List AV)(w:Nat.ble args.length n=true)(H:Hp) :
 Z9 C f args H=Y9 C (Z9 C) (Y6 C (C.keep f) n) (C.keep f) n Zc Z7 c (Zh C n f fn H) (MI 0 args) H:=by
 subst g;rw[Zvi u j,<-ZwQ (zG w),<-Zn5];exact ZeK _ _ _ (Zmj f fn H) _ _
end
end Go.Am
