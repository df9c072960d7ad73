/- THE ABSTRACT MACHINE -/
import Derived.Test.YtnaneekpogohaaaGreatDoorHmOx
open List renaming getElem?_eq_none->zH,replicate->zI,range->zK
open Nat renaming beq->zA,eq_of_beq_eq_true->zC,blt->zE,le_of_ble_eq_true->zG
open Bool renaming false_eq_true->zD,rec->zF
open Option.some renaming injEq->zB
open Prod.mk renaming injEq->zJ
namespace Go.Am
open RowKit
abbrev AL:=List (Nat×AV)
abbrev KL:=AExit->AL->Hp->Z4
def look:AL->Nat->AV
 |[],_=>.undef
 |(i,v)::r,t=>bif zA i t then v else look r t
def XT (n:Nat)(g:AL):List AV:=(zK n).map (look g)
def CV (tm:List AV):AL:=(zK tm.length).map fun i=>(i,tm.getD i .undef)
def ZfG (n:Nat)(g:AL)(t:Nat):AV:=bif zE t n then look g t else .tuple []
def Jx (C:Cfg)(n:Nat)(g:AL):Operand->AV
 |.tmp t=>ZfG n g t
 |x=>eval C [] x
def ZdF {α:Type}(n:Nat)(ops:Array Oper)(h:AL)(o:Oper)(els:α)(x:Option α):Option α :=
 match o.guard with
 |none=>x
 |some (j,want)=>match (match ops[j]? with|some g=>g.dst|none=>none) with
  |none=>some els
  |some d=>bif zE d n then Z8 (look h d) want els x else some els
def OE (h:AL)(g:Option Tmp)(v:AV):AL :=
 match g with
 |some d=>(d,v)::h
 |none=>h
def Y3 (kp:Nat->Option (List Nat))(c:Code)(g:AL):AL :=
 match YJ c with
 |none=>g
 |some r=>match kp r with
  |none=>g
  |some keep=>keep.map fun t=>(t,look g t)
def ZuZ:Op->Option Operand
 |.move x=>some x
 |.assign x=>some x
 |_=>none
def ZgR (C:Cfg)(CL:ZF)(n:Nat)(ops:Array Oper)(fl:Bool)(o:Oper)(k:AL->Hp->Z4)(g:AL)(H:Hp):Z4 :=
 match (if fl then 0 else Xz C o.op) with
 |0=>Z0 (ZdF n ops g o (.tuple []) (ZT C (Jx C n g) o.op)) fun v=>k (OE g o.dst v) H
 |1=>Z0 (ZdF n ops g o (.tuple []) (PJ C (Jx C n g) H o.op)) fun v=>k (OE g o.dst v) H
 |_=>Z0 (ZdF n ops g o (.tuple [],H) (ZE C CL (Jx C n g) H o.op)) fun r=>k (OE g o.dst r.1) r.2
def Zko (C:Cfg)(CL:ZF)(n:Nat)(ops:Array Oper)(fl:Bool)(o:Oper)(k:AL->Hp->Z4)(g:AL)(H:Hp):Z4 :=
 match o.guard,ZuZ o.op with
 |none,some x=>k (OE g o.dst (Jx C n g x)) H
 |_,_=>ZgR C CL n ops fl o k g H
def ZgS (C:Cfg)(CL:ZF)(n:Nat)(ops:Array Oper)(draw:Bool):Nat->List Oper->(AL->Hp->Z4)->AL->Hp->Z4
 |_,[],k,al,H=>k al H
 |i,o::rest,k,al,H=>Zko C CL n ops (draw&&Xj C ops i) o (ZgS C CL n ops draw (i+1) rest k) al H
noncomputable def Zs1 (C:Cfg)(n:Nat)(ops:Array Oper)(b i:Nat)(o:Oper)(k:AL->Hp->Z4)(g:AL)(H:Hp):Z4 :=
 zF (motive:=fun _=>Z4) (Z0 (Gk (b+Vj C ops i) (NP C (Jx C n g) o.op) H) fun r=>k (OE g o.dst r.1) r.2) none (Xj C ops i)
noncomputable def Zcg (C:Cfg)(CL:ZF)(n:Nat)(ops:Array Oper)(b:Nat):Nat->List Oper->(AL->Hp->Z4)->AL->Hp->Z4
 |_,[],k,al,H=>k al H
 |i,o::rest,k,al,H=>zF (motive:=fun _=>Z4) (Zko C CL n ops (Xj C ops i) o (Zcg C CL n ops b (i+1) rest k) al H) (Zs1 C n ops b i o (Zcg C CL n ops b (i+1) rest k) al H) (Vi C ops i)
noncomputable def ZxE (C:Cfg)(ops:Array Oper)(draw:Bool):Bool:=zF (motive:=fun _=>Bool) false (zF (motive:=fun _=>Bool) true false (zA (Vj C ops ops.size) 0)) draw
noncomputable def ZlZ (C:Cfg)(CL:ZF)(n:Nat)(ops:Array Oper)(draw:Bool)(k:AL->Hp->Z4)(g:AL)(H:Hp):Z4 :=
 zF (motive:=fun _=>Z4) (ZgS C CL n ops draw 0 ops.toList k g H) (Zcg C CL n ops H.length 0 ops.toList k g (H++zI (Vj C ops ops.size) .free)) (ZxE C ops draw)
def OX (x y:AV):Option Unit :=
 match x,y with
 |.ptr o _,.ptr o' _=>bif zA o o' then none else some ()
 |_,_=>none
def AE (ev:Operand->AV)(r:Z4):List (Nat×Nat)->Z4
 |[]=>r
 |p::l=>Z0 (OX (ev (.tmp p.1)) (ev (.tmp p.2))) fun _=>AE ev r l
noncomputable def Zvf (C:Cfg)(CL:ZF)(n:Nat)(ops:Array Oper)(draw:Bool)(k:AL->Hp->Z4)(g:AL)(H:Hp):Z4 :=
 zF (motive:=fun _=>Z4) (ZlZ C CL n ops draw k g H) (AE (Jx C n g) (ZlZ C CL n ops draw k g H) (O7 C ops)) draw
abbrev SQ:=(KL->AL->Hp->Z4)->KL->KL
abbrev BL:=Nat->KL->KL
def UI (a:AV)(H:Hp)(k:AV->Hp->Z4):Z4:=k (Pd a H).1 (Pd a H).2
def Zus (n:Nat)(k:AL->Hp->Z4):List Nat->AL->Hp->Z4
 |[],al,H=>k al H
 |t::ts,al,H=>UI (ZfG n al t) H fun v H'=>Zus n k ts ((t,v)::al) H'
def Zpz (n:Nat)(g:Option (List Nat))(k:AL->Hp->Z4)(h:AL)(H:Hp):Z4 :=
 match g with
 |none=>k h H
 |some g=>Zus n k g h H
noncomputable def Yl (C:Cfg)(CL:ZF)(g:Code->KL->AL->Hp->Z4)(kp:Nat->Option (List Nat))(n:Nat)(u:SQ)(j:BL):Code->KL->AL->Hp->Z4
 |.skip,k,al,H=>k .normal al H
 |.region id ops draw,k,al,H=>if draw&&!(V2 ops&&FK C ops) then none else Zpz n (kp (id+1000000)) (Zvf C CL n ops draw (fun h H'=>k .normal h H')) al H
 |.seq a b,k,al,H=>Yl C CL g kp n u j a (u (fun k' h H'=>Yl C CL g kp n u j b k' (Y3 kp b h) H') k) al H
 |.cond c x y,k,al,H=>Zj (Jx C n al c) (Yl C CL g kp n u j x k al H) (Yl C CL g kp n u j y k al H)
 |.block id c,k,al,H=>Yl C CL g kp n u j c (j id k) al H
 |.loop c,k,al,H=>g c k (Y3 kp c al) H
 |.scope c,k,al,H=>if XB c then Yl C CL g kp n u j c k al H else none
 |.exit id,k,al,H=>k (.exit id) al H
 |.label _,k,al,H=>k .normal al H
 |.goto l,k,al,H=>k (.goto l) al H
 |.ret,k,al,H=>k .ret al H
 |_,_,_,_=>none
abbrev CXT:=Cfg->ZF->(Code->KL->AL->Hp->Z4)->(Nat->Option (List Nat))->Nat->SQ->BL->Code->KL->AL->Hp->Z4
noncomputable def Zc (B:KL->AL->Hp->Z4)(k:KL):KL:=(fun (_:CXT) e al H =>
 match e with
 |.normal=>B k al H
 |e=>k e al H) Yl
noncomputable def Z6 (id:Nat)(k:KL):KL:=(fun (_:CXT) e al H =>
 match e with
 |.exit i=>if i=id then k .normal al H else k (.exit i) al H
 |e=>k e al H) Yl
noncomputable def Y4 (C:Cfg)(kp:Nat->Option (List Nat))(n:Nat)(c:Code)(k:KL)(g:AL)(H:Hp):Z4 :=
 Z0 (Yt C kp (.loop c) (XT n g,H)) fun p=>k p.1 (CV p.2.1) p.2.2
section
variable {C:Cfg}{kp:Nat->Option (List Nat)}{n:Nat}
theorem ZkQ {a b:Nat}(h:a<b):zE a b=true:=by rw[zE];exact Nat.ble_eq_true_of_le h
theorem Zj3 {a b:Nat}(h:¬ a<b):zE a b=false:=by
 cases g:zE a b with
 |false=>rfl
 |true=>exact absurd (zG (by rw[zE]at g;exact g)) h
theorem Li (g:AL):(XT n g).length=n:=by simp[XT]
theorem I4 (g:AL)(t:Nat):(XT n g)[t]?=if t<n then some (look g t) else none:=by
 unfold XT;rw[List.getElem?_map];split
 ·rename_i h;rw[List.getElem?_range h];rfl
 ·rename_i h;rw[zH (by simp;omega)];rfl
theorem Ey (g:AL)(t:Nat):(XT n g).getD t (.tuple [])=ZfG n g t:=by
 rw[List.getD_eq_getElem?_getD,I4];unfold ZfG;by_cases h:t<n
 ·simp[h,ZkQ h]
 ·simp[h,Zj3 h]
theorem Oz (f:Nat->AV):∀ (l:List Nat) (t:Nat),look (l.map fun i=>(i,f i)) t=if t∈l then f t else .undef:=by
 intro l
 induction l with
 |nil=>intro t;rfl
 |cons a l w =>
  intro t;simp only[List.map_cons,look,w];by_cases h:a=t
  ·subst h;simp
  ·have g:zA a t=false:=by
    cases u:zA a t with
    |false=>rfl
    |true=>exact absurd (zC u) h
   have j:¬ t=a:=fun e=>h e.symm;simp[g,j]
theorem ZdI {g:AL}{tm:List AV}(j:tm.length=n)(h:∀ i,i<n->tm[i]?=some (look g i)):XT n g=tm:=by
 apply List.ext_getElem?;intro i;rw[I4];split
 ·rename_i hi;rw[h i hi]
 ·rename_i hi;rw[zH (by omega)]
theorem ZsP {tm:List AV}(h:tm.length=n):XT n (CV tm)=tm:=by
 apply ZdI h;intro i hi;unfold CV;rw[Oz];have:i<tm.length:=by omega
 simp[this]
theorem Zvg {args:List AV}(h:args.length<=n):XT n (CV args)=args++zI (n-args.length) .undef:=by
 apply ZdI
 ·simp;omega
 ·intro i hi;unfold CV;rw[Oz,List.getElem?_append];by_cases g:i<args.length
  ·simp[g]
  ·have j:i-args.length<n-args.length:=by omega
   simp[g,j]
theorem ZiL (j:AL)(g:Option Tmp)(v:AV):XT n (OE j g v)=X8 (XT n j) g v:=by
 cases g with
 |none=>rfl
 |some d =>
  apply ZdI
  ·simp[X8,Li]
  ·intro i hi;simp only[X8,OE,look];by_cases h:d=i
   ·subst h;simp[Li,hi]
   ·have u:zA d i=false:=by
     cases w:zA d i with
     |false=>rfl
     |true=>exact absurd (zC w) h
    rw[List.getElem?_set_ne h,I4];simp[hi,u]
theorem Zka (keep:List Nat):∀ (l:List AV) (i j:Nat),(XD keep i l)[j]?=(l[j]?).map fun a=>if keep.contains (i+j) then a else .undef:=by
 intro l
 induction l with
 |nil=>intro i j;simp[XD]
 |cons a l g =>
  intro i j
  cases j with
  |zero=>simp[XD]
  |succ j=>simp only[XD,List.getElem?_cons_succ,g];rw[Nat.add_right_comm,Nat.add_assoc]
theorem Pv (c:Code)(g:AL)(H:Hp):trim kp c (XT n g,H)=(XT n (Y3 kp c g),H):=by
 unfold trim Y3
 cases YJ c with
 |none=>rfl
 |some r =>
  simp only
  cases kp r with
  |none=>rfl
  |some keep =>
   simp only;refine Prod.ext ?_ rfl;symm;apply ZdI
   ·simp[RK,Li]
   ·intro i hi;rw[Zka,I4,Oz];simp[hi]
theorem Zfv (g:AL):eval C (XT n g)=Jx C n g:=by
 funext x
 cases x with
 |tmp t=>exact Ey g t
 |_=>rfl
theorem Zuz {α:Type}(ops:Array Oper)(u:AL)(o:Oper)(els:α)(x:Option α):Od ops (XT n u) o els x=ZdF n ops u o els x:=by
 unfold Od ZdF
 cases o.guard with
 |none=>rfl
 |some p =>
  obtain⟨j,w⟩:=p;simp only
  cases ops[j]? with
  |none=>rfl
  |some g =>
   simp only
   cases g.dst with
   |none=>rfl
   |some d =>
    simp only;rw[I4];by_cases h:d<n
    ·simp[h,ZkQ h]
    ·simp[h,Zj3 h]
theorem Zro {CL:ZF}{ops:Array Oper}{fl:Bool}{o:Oper}{k:St->Z4}{h:AL->Hp->Z4}(hk:∀ g H,k (XT n g,H)=h g H)(g:AL)(H:Hp) :
 Ziu C CL ops fl o k (XT n g) H=ZgR C CL n ops fl o h g H:=by
 unfold Ziu ZgR;rw[Zfv];simp only[Zuz,<-ZiL,hk];rfl
theorem Zsj {op:Op}{x:Operand}(h:ZuZ op=some x)(ev:Operand->AV):ZT C ev op=some (ev x)/\Xz C op=0:=by
 cases op <;> simp only[ZuZ,zB,reduceCtorEq]at h
 ·subst h;exact⟨rfl,rfl⟩
 ·subst h;exact⟨rfl,rfl⟩
theorem Zl8 {CL:ZF}{ops:Array Oper}{fl:Bool}{o:Oper}{k:St->Z4}{h:AL->Hp->Z4}(hk:∀ g H,k (XT n g,H)=h g H)(g:AL)(H:Hp) :
 Ziu C CL ops fl o k (XT n g) H=Zko C CL n ops fl o h g H:=by
 rw[Zro hk];unfold Zko;split
 ·rename_i x w hm;obtain⟨j,u⟩:=Zsj (C:=C) hm (Jx C n g);unfold ZgR;rw[j,u,ite_self];simp only[ZdF,w,Z0]
 ·rfl
theorem Zrp {CL:ZF}{ops:Array Oper}{b:Nat}{k:St->Z4}{j:AL->Hp->Z4}(hk:∀ g H,k (XT n g,H)=j g H):∀ (l:List Oper) (i:Nat) (g:AL) (H:Hp),
 Ru C CL ops true b i l k (XT n g,H)=Zcg C CL n ops b i l j g H:=by
 intro l
 induction l with
 |nil=>intro i g H;exact hk g H
 |cons o l h =>
  intro i g H;unfold Ru Zcg;simp only[Bool.true_and]
  cases w:Vi C ops i with
  |true =>
   simp only[if_true];unfold Zs1
   cases u:Xj C ops i with
   |true=>rfl
   |false =>
    simp only[zD,if_false];rw[Zfv];congr 1;funext r;rw[<-h (i+1) (OE g o.dst r.1) r.2,ZiL]
  |false =>
   simp only[zD,if_false];exact Zl8 (fun g H=>h (i+1) g H) g H
theorem ZuM {ops:Array Oper}(h:Vj C ops ops.size=0)(i:Nat):Vi C ops i=false:=by
 cases g:Vi C ops i with
 |false=>rfl
 |true =>
  have hi:i<ops.size:=by
   unfold Vi at g
   cases j:ops[i]? with
   |none=>simp[j]at g
   |some o=>exact (Array.getElem?_eq_some_iff.1 j).1
  have:=Zo4 g hi;omega
theorem Zjb {CL:ZF}{ops:Array Oper}{draw:Bool}{b:Nat}(j:draw=true->Vj C ops ops.size=0){k:St->Z4}{h:AL->Hp->Z4}(hk:∀ g H,k (XT n g,H)=h g H):∀ (l:List Oper) (i:Nat) (g:AL) (H:Hp),
 Ru C CL ops draw b i l k (XT n g,H)=ZgS C CL n ops draw i l h g H:=by
 intro l
 induction l with
 |nil=>intro i g H;exact hk g H
 |cons o l w =>
  intro i g H;unfold Ru ZgS
  have u:(draw&&Vi C ops i)=false:=by
   cases draw with
   |false=>rfl
   |true=>simp[ZuM (j rfl) i]
  simp only[u,zD,if_false];exact Zl8 (fun g H=>w (i+1) g H) g H
theorem ZwU {CL:ZF}{ops:Array Oper}{draw:Bool}{k:St->Z4}{j:AL->Hp->Z4}(hk:∀ g H,k (XT n g,H)=j g H)(g:AL)(H:Hp) :
 Ru C CL ops draw H.length 0 ops.toList k (XT n g,Qg (if draw then Vj C ops ops.size else 0) H)=ZlZ C CL n ops draw j g H:=by
 unfold ZlZ ZxE
 cases draw with
 |false=>exact Zjb (fun h=>by cases h) hk _ _ _ _
 |true =>
  simp only[if_true]
  cases u:Vj C ops ops.size with
  |zero =>
   simp only[zA,Qg];exact Zjb (fun _=>u) hk _ _ _ _
  |succ m =>
   simp only[zA,Qg];exact Zrp hk _ _ _ _
theorem Zwz {k:St->Z4}{j:AL->Hp->Z4}(hk:∀ g H,k (XT n g,H)=j g H):∀ (h:List Nat) (g:AL) (H:Hp),k (ZiA h (XT n g,H))=Zus n j h g H:=by
 intro h
 induction h with
 |nil=>intro g H;exact hk g H
 |cons t h u =>
  intro g H;show k (ZiA h (frz1 (XT n g,H) t))=_;unfold frz1;simp only[Ey];have:=ZiL (n:=n) g (some t) (Pd (ZfG n g t) H).1;simp only[X8,OE]at this;rw[<-this];exact u _ _
theorem Zwy {k:St->Z4}{h:AL->Hp->Z4}(hk:∀ g H,k (XT n g,H)=h g H)(id:Nat)(g:AL)(H:Hp):k (frzs kp id (XT n g,H))=Zpz n (kp (id+1000000)) h g H:=by
 unfold frzs Zpz
 cases kp (id+1000000) with
 |none=>exact hk g H
 |some j=>exact Zwz hk j g H
theorem Zuu (id:Nat)(s:St):(frzs kp id s).1.length=s.1.length:=by
 unfold frzs
 cases kp (id+1000000) with
 |none=>rfl
 |some g =>
  simp only[ZiA]
  induction g generalizing s with
  |nil=>rfl
  |cons t g h=>rw[List.foldl_cons,h];simp[frz1]
theorem Zsr {call:ZF}{ops:Array Oper}{fl:Bool}{o:Oper}{s s':St}(h:VR C call ops fl o s=some s'):s'.1.length=s.1.length:=by
 unfold VR at h;split at h
 ·simp only[zB]at h;subst h;cases o.dst <;> simp[X8]
 ·cases h
theorem Zqc {call:ZF}{ops:Array Oper}{draw:Bool}{b i:Nat}{o:Oper}{s s':St}(h:XZ C call ops draw b i o s=some s'):s'.1.length=s.1.length:=by
 unfold XZ at h;split at h
 ·split at h
  ·cases h
  ·split at h
   ·simp only[zB]at h;subst h;cases o.dst <;> simp[X8]
   ·cases h
 ·exact Zsr h
theorem Zn9 {call:ZF}{ops:Array Oper}{draw:Bool}{b:Nat}:∀ (l:List Oper) (i:Nat) (s s':St),Yo C call ops draw b i l s=some s'->s'.1.length=s.1.length:=by
 intro l
 induction l with
 |nil=>intro i s s' h;simp[Yo]at h;rw[h]
 |cons o l j =>
  intro i s s' h;unfold Yo at h;split at h
  ·rename_i u g;rw[j _ _ _ h,Zqc g]
  ·cases h
theorem Zg0 (c:Code)(s:St):(trim kp c s).1.length=s.1.length:=by
 unfold trim
 cases YJ c with
 |none=>rfl
 |some r =>
  simp only
  cases kp r with
  |none=>rfl
  |some keep=>simp[RK]
theorem Zuk {call:ZF}{m:Nat}:∀ (c:Code) (s s':St) (e:AExit),Zp C call kp m c s=some (e,s')->s'.1.length=s.1.length:=by
 intro c
 induction c with
 |region id ops draw =>
  intro s s' e h;simp only[Zp]at h;split at h
  ·cases h
  ·split at h
   ·rename_i E g;simp only[zB,zJ]at h;rw[<-h.2,<-Zuu (kp:=kp) id s];exact (Zn9 _ _ _ _ g :)
   ·cases h
 |seq a b w z =>
  intro s s' e h;simp only[Zp]at h;split at h
  ·rename_i E g;rw[z _ _ _ h,Zg0,w _ _ _ g]
  ·exact w _ _ _ h
 |cond c x y B D =>
  intro s s' e h;simp only[Zp]at h;split at h
  ·split at h
   ·exact B _ _ _ h
   ·exact D _ _ _ h
  ·cases h
 |block id c u =>
  intro s s' e h;simp only[Zp]at h;split at h
  ·rename_i i E g;split at h <;>
   ·simp only[zB,zJ]at h;rw[<-h.2];exact u _ _ _ g
  ·exact u _ _ _ h
 |loop c u =>
  intro s s' e h;simp only[Zp]at h
  have key:∀ (j:Nat) (s:St),XY (fun s=>Zp C call kp m c (trim kp c s)) j s=some (e,s')->s'.1.length=s.1.length:=by
   intro j
   induction j with
   |zero=>intro s h;simp[XY]at h
   |succ j A =>
    intro s h;unfold XY at h;split at h
    ·rename_i E g;rw[A _ h,u _ _ _ g,Zg0]
    ·rw[u _ _ _ h,Zg0]
  exact key _ _ h
 |scope c u =>
  intro s s' e h;simp only[Zp]at h;split at h
  ·exact u _ _ _ h
  ·cases h
 |skip=>intro s s' e h;simp[Zp]at h;rw[h.2]
 |exit id=>intro s s' e h;simp[Zp]at h;rw[h.2]
 |label l=>intro s s' e h;simp[Zp]at h;rw[h.2]
 |goto l=>intro s s' e h;simp[Zp]at h;rw[h.2]
 |ret=>intro s s' e h;simp[Zp]at h;rw[h.2]
 |_=>intro s s' e h;simp[Zp]at h
theorem ZrC {c:Code}{s s':St}{e:AExit}(h:Yt C kp c s=some (e,s')):s'.1.length=s.1.length:=by
 obtain⟨m,hm⟩:=ZV.1 h;exact Zuk _ _ _ _ hm
def Zky (n:Nat)(k:Kt)(h:KL):Prop:=∀ e g H,k e (XT n g,H)=h e g H
theorem Iv {c:Code}{k:Kt}{u:KL}(hk:Zky n k u)(g:AL)(H:Hp):SR C kp c k (XT n g,H)=Y4 C kp n c u g H:=by
 unfold SR Y4
 cases h:Yt C kp (.loop c) (XT n g,H) with
 |none=>rfl
 |some p =>
  obtain⟨e,tm,H'⟩:=p;have j:=ZrC h;simp only[Li]at j;simp only[Z0];rw[<-hk e (CV tm) H',ZsP j]
theorem Zx5 (x y:AV):OX x y=if M8 x y then some () else none:=by
 cases x with
 |ptr o f=>cases y with
  |ptr g h =>
   show (bif zA o g then none else some ())=if (!zA o g)=true then some () else none;cases zA o g <;> rfl
  |_=>rfl
 |_=>rfl
theorem Zj4 (ev:Operand->AV)(r:Z4):∀ l:List (Nat×Nat),(l.all (fun p=>M8 (ev (.tmp p.1)) (ev (.tmp p.2)))=true->AE ev r l=r)/\(l.all (fun p=>M8 (ev (.tmp p.1)) (ev (.tmp p.2)))=false->AE ev r l=none):=by
 intro l
 induction l with
 |nil=>exact⟨fun _=>rfl,fun h=>by cases h⟩
 |cons p l g =>
  simp only[AE,Zx5,List.all_cons]
  cases j:M8 (ev (.tmp p.1)) (ev (.tmp p.2)) with
  |true=>exact⟨fun h=>g.1 (by simpa using h),fun h=>g.2 (by simpa using h)⟩
  |false=>exact⟨fun h=>by simp at h,fun _=>rfl⟩
theorem Zf4:∀ (c:Code) (k:Kt) (h:KL),Zky n k h->∀ (g:AL) (H:Hp),CX C (Za C) (SR C kp) kp c k (XT n g,H)=Yl C (Za C) (Y4 C kp n) kp n Zc Z6 c h g H:=by
 intro c
 induction c with
 |region id ops draw =>
  intro k h hk g H;simp only[CX,Yl];by_cases w:(draw&&!(V2 ops&&FK C ops))=true
  ·rw[if_pos w,if_pos];unfold Dx
   revert w
   cases draw <;> cases V2 ops <;> cases FK C ops <;> simp
  ·rw[if_neg w];refine Zwy (kp:=kp) (k:=fun s=>if (draw&&!(V2 ops&&Dx C ops (eval C s.1)))=true then none else Ru C (Za C) ops draw s.2.length 0 ops.toList (fun s'=>k .normal s') (s.1,Qg (if draw then Vj C ops ops.size else 0) s.2)) (fun g H=>?_) id g H;have j:=ZwU (C:=C) (CL:=Za C) (n:=n) (ops:=ops) (draw:=draw) (fun g H=>hk .normal g H) g H;unfold Zvf
   cases draw with
   |false=>simpa using j
   |true =>
    have u:V2 ops=true/\FK C ops=true:=by
     revert w
     cases V2 ops <;> cases FK C ops <;> simp
    show _=AE (Jx C n g) (ZlZ C (Za C) n ops true _ g H) (O7 C ops);unfold Dx Zpm;rw[u.1,u.2]
    have I:((O7 C ops).all fun p=>M8 (eval C (XT n g) (.tmp p.1)) (eval C (XT n g) (.tmp p.2)))=((O7 C ops).all fun p=>M8 (Jx C n g (.tmp p.1)) (Jx C n g (.tmp p.2))):=by
     congr 1;funext p;show M8 ((XT n g).getD p.1 (.tuple [])) ((XT n g).getD p.2 (.tuple []))=_;rw[Ey,Ey];rfl
    rw[I]
    cases F:((O7 C ops).all fun p=>M8 (Jx C n g (.tmp p.1)) (Jx C n g (.tmp p.2))) with
    |true=>rw[(Zj4 _ _ _).1 F,<-j];rfl
    |false=>rw[(Zj4 _ _ _).2 F];rfl
 |seq a b A B =>
  intro k h hk g H;simp only[CX,Yl];refine A _ _ (fun e g H=>?_) g H
  cases e with
  |normal=>simp only[OJ,Zc];rw[Pv];exact B k h hk _ _
  |_=>exact hk _ _ _
 |cond c x y D E =>
  intro k h hk g H;simp only[CX,Yl];rw[Zfv,D k h hk,E k h hk]
 |block id c z =>
  intro k h hk g H;simp only[CX,Yl];refine z _ _ (fun e g H=>?_) g H
  cases e with
  |exit i =>
   simp only[Zcb,Z6];split <;> exact hk _ _ _
  |_=>exact hk _ _ _
 |loop c _ =>
  intro k h hk g H;simp only[CX,Yl];rw[Pv];exact Iv hk _ _
 |scope c z =>
  intro k h hk g H;simp only[CX,Yl];split
  ·exact z k h hk g H
  ·rfl
 |skip=>intro k h hk g H;exact hk _ _ _
 |exit id=>intro k h hk g H;exact hk _ _ _
 |label l=>intro k h hk g H;exact hk _ _ _
 |goto l=>intro k h hk g H;exact hk _ _ _
 |ret=>intro k h hk g H;exact hk _ _ _
 |_=>intro k h hk g H;rfl
def ZR (n:Nat)(g:KL):Prop:=∃ k,Zky n k g
theorem Zn (id:Nat){g:KL}(h:ZR n g):ZR n (Z6 id g):=by
 obtain⟨k,hk⟩:=h;refine⟨Zcb id k,fun e j H=>?_⟩
 cases e with
 |exit i =>
  simp only[Zcb,Z6];split <;> exact hk _ _ _
 |_=>exact hk _ _ _
theorem Zw (b:Code){j:KL}(h:ZR n j):ZR n (Zc (fun k' g H'=>Yl C (Za C) (Y4 C kp n) kp n Zc Z6 b k' (Y3 kp b g) H') j):=by
 obtain⟨k,hk⟩:=h;refine⟨OJ (fun s'=>CX C (Za C) (SR C kp) kp b k (trim kp b s')) k,fun e u H=>?_⟩
 cases e with
 |normal=>simp only[OJ,Zc];rw[Pv];exact Zf4 b k j hk _ _
 |_=>exact hk _ _ _
theorem CS (c:Code){j:KL}(h:ZR n j):ZR n (Zc (fun k' g H'=>Y4 C kp n c k' (Y3 kp c g) H') j):=by
 obtain⟨k,hk⟩:=h;refine⟨OJ (fun s'=>SR C kp c k (trim kp c s')) k,fun e u H=>?_⟩
 cases e with
 |normal=>simp only[OJ,Zc];rw[Pv];exact Iv hk _ _
 |_=>exact hk _ _ _
theorem Zxa {c:Code}{u:KL}(h:ZR n u)(g:AL)(H:Hp):Y4 C kp n c u g H=Yl C (Za C) (Y4 C kp n) kp n Zc Z6 c (Zc (fun k' j H'=>Y4 C kp n c k' (Y3 kp c j) H') u) (Y3 kp c g) H:=by
 obtain⟨k,hk⟩:=h;rw[<-Iv hk,Zxc,Pv];refine Zf4 c _ _ (fun e g H=>?_) _ _
 cases e with
 |normal=>simp only[OJ,Zc];rw[Pv];exact Iv hk _ _
 |_=>exact hk _ _ _
def ZiM (C:Cfg)(n:Nat)(h:AL)(H:Hp):ResultVar->Option AV
 |.tmp t=>some (ZfG n h t)
 |.cell a t=>match Xl C.P t,X7 C.P t with
  |some g,some sz=>Z3 g sz (ZfG n h a) H
  |_,_=>none
def Zm1 (C:Cfg)(n:Nat)(g:AL)(H:Hp):List ResultVar->List AV->(List AV->Z4)->Z4
 |[],acc,k=>k acc
 |r::rs,acc,k=>Z0 (ZiM C n g H r) fun v=>Zm1 C n g H rs (acc++[v]) k
noncomputable abbrev Zg (C:Cfg)(n:Nat)(f:FuncId)(fn:Func)(H0:Hp):KL:=fun e al H =>
 match e with
 |.normal=>Zm1 C n al H fn.results.toList [] (Zd0 C f H0 H)
 |.ret=>Zm1 C n al H fn.results.toList [] (Zd0 C f H0 H)
 |_=>none
theorem Zoc (h:AL)(H:Hp)(k:List AV->Z4):∀ (rs:List ResultVar) (g:List AV),OG C rs (XT n h,H) g k=Zm1 C n h H rs g k:=by
 intro rs
 induction rs with
 |nil=>intro g;rfl
 |cons r rs j =>
  intro g;unfold OG Zm1
  have:Wy C (XT n h,H) r=ZiM C n h H r:=by
   cases r <;> (simp only[Wy,ZiM,Ey] <;> rfl)
  rw[this];simp only[j]
theorem Zm6 (f:FuncId)(fn:Func)(g:Hp):Zky n (ZxR C f fn g) (Zg C n f fn g):=by
 intro e h H
 cases e with
 |normal=>exact Zoc _ _ _ _ _
 |ret=>exact Zoc _ _ _ _ _
 |_=>rfl
theorem ZB (f:FuncId)(fn:Func)(g:Hp):ZR n (Zg C n f fn g):=⟨_,Zm6 f fn g⟩
def ID:Nat->List AV->AL
 |_,[]=>[]
 |i,a::r=>(i,a)::ID (i+1) r
theorem ZmS (args:List AV):XT n (ID 0 args)=XT n (CV args):=by
 have key:∀ (l:List AV) (i t:Nat),look (ID i l) t=if i<=t then l.getD (t-i) .undef else .undef:=by
  intro l
  induction l with
  |nil=>intro i t;simp[ID,look]
  |cons a l z =>
   intro i t;simp only[ID,look,z];by_cases h:i=t
   ·subst h;simp
   ·have u:zA i t=false:=by
     cases y:zA i t with
     |false=>rfl
     |true=>exact absurd (zC y) h
    simp only[u,cond_false];by_cases j:i<=t
    ·have g:i+1<=t:=by omega
     have w:t-i=(t-(i+1))+1:=by omega
     simp[j,g,w]
    ·have g:¬ i+1<=t:=by omega
     simp[j,g]
 unfold XT;apply List.map_congr_left;intro t _;rw[key];unfold CV;rw[Oz];by_cases h:t<args.length <;> simp[h]
theorem Zr8 {f:FuncId}{fn:Func}{c:Code}(j:C.P.funcs[f]?=some fn)(h:Rs C f fn=some c)(g:fn.ntmps=n)(args:List AV)(u:Nat.ble args.length n=true)(H:Hp) :
 Za C f args H=Yl C (Za C) (Y4 C (C.keep f) n) (C.keep f) n Zc Z6 c (Zg C n f fn H) (ID 0 args) H:=by
 subst g;rw[ZtO j h,<-Zvg (zG u),<-ZmS];exact Zf4 _ _ _ (Zm6 f fn H) _ _
end
end Go.Am
