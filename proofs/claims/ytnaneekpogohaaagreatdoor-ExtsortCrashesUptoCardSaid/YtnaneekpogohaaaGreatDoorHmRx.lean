/- THE ABSTRACT MACHINE -/
import Derived.Test.YtnaneekpogohaaaGreatDoorHmOx
open List renaming getElem?_eq_none->zH,replicate->zI,range->zK
open Nat renaming beq->zA,eq_of_beq_eq_true->zC,blt->zE,le_of_ble_eq_true->zG
open Bool renaming false_eq_true->zD,rec->zF
open Option.some renaming injEq->zB
open Prod.mk renaming injEq->zJ
namespace Go.Am
open RowKit
abbrev AL:=List (Nat×AV)
abbrev KL:=AExit->AL->Hp->Z5
def look:AL->Nat->AV
 |[],_=>.undef
 |(i,v)::r,t=>bif zA i t then v else look r t
def XZ (n:Nat)(g:AL):List AV:=(zK n).map (look g)
def Al (tm:List AV):AL:=(zK tm.length).map fun i=>(i,tm.getD i .undef)
def ZgP (n:Nat)(g:AL)(t:Nat):AV:=bif zE t n then look g t else .tuple []
def JR (C:Cfg)(n:Nat)(g:AL):Operand->AV
 |.tmp t=>ZgP n g t
 |x=>eval C [] x
def ZeK {α:Type}(n:Nat)(ops:Array Oper)(h:AL)(o:Oper)(els:α)(x:Option α):Option α :=
 match o.guard with
 |none=>x
 |some (j,want)=>match (match ops[j]? with|some g=>g.dst|none=>none) with
  |none=>some els
  |some d=>bif zE d n then Z7 (look h d) want els x else some els
def ZaJ (h:AL)(g:Option Tmp)(v:AV):AL :=
 match g with
 |some d=>(d,v)::h
 |none=>h
def Y4 (kp:Nat->Option (List Nat))(c:Code)(g:AL):AL :=
 match YL c with
 |none=>g
 |some r=>match kp r with
  |none=>g
  |some keep=>keep.map fun t=>(t,look g t)
def Zwq:Op->Option Operand
 |.move x=>some x
 |.assign x=>some x
 |_=>none
def Zi2 (C:Cfg)(CL:ZF)(n:Nat)(ops:Array Oper)(fl:Bool)(o:Oper)(k:AL->Hp->Z5)(g:AL)(H:Hp):Z5 :=
 match (if fl then 0 else XF C o.op) with
 |0=>Z0 (ZeK n ops g o (.tuple []) (ZT C (JR C n g) o.op)) fun v=>k (ZaJ g o.dst v) H
 |1=>Z0 (ZeK n ops g o (.tuple []) (N6 C (JR C n g) H o.op)) fun v=>k (ZaJ g o.dst v) H
 |_=>Z0 (ZeK n ops g o (.tuple [],H) (ZE C CL (JR C n g) H o.op)) fun r=>k (ZaJ g o.dst r.1) r.2
def ZlH (C:Cfg)(CL:ZF)(n:Nat)(ops:Array Oper)(fl:Bool)(o:Oper)(k:AL->Hp->Z5)(g:AL)(H:Hp):Z5 :=
 match o.guard,Zwq o.op with
 |none,some x=>k (ZaJ g o.dst (JR C n g x)) H
 |_,_=>Zi2 C CL n ops fl o k g H
def Zi3 (C:Cfg)(CL:ZF)(n:Nat)(ops:Array Oper)(draw:Bool):Nat->List Oper->(AL->Hp->Z5)->AL->Hp->Z5
 |_,[],k,al,H=>k al H
 |i,o::rest,k,al,H=>ZlH C CL n ops (draw&&Xo C ops i) o (Zi3 C CL n ops draw (i+1) rest k) al H
noncomputable def Ztn (C:Cfg)(n:Nat)(ops:Array Oper)(b i:Nat)(o:Oper)(k:AL->Hp->Z5)(g:AL)(H:Hp):Z5 :=
 zF (motive:=fun _=>Z5) (Z0 (JK (b+Vv C ops i) (Mh C (JR C n g) o.op) H) fun r=>k (ZaJ g o.dst r.1) r.2) none (Xo C ops i)
noncomputable def Zdm (C:Cfg)(CL:ZF)(n:Nat)(ops:Array Oper)(b:Nat):Nat->List Oper->(AL->Hp->Z5)->AL->Hp->Z5
 |_,[],k,al,H=>k al H
 |i,o::rest,k,al,H=>zF (motive:=fun _=>Z5) (ZlH C CL n ops (Xo C ops i) o (Zdm C CL n ops b (i+1) rest k) al H) (Ztn C n ops b i o (Zdm C CL n ops b (i+1) rest k) al H) (Vu C ops i)
noncomputable def Zz9 (C:Cfg)(ops:Array Oper)(draw:Bool):Bool:=zF (motive:=fun _=>Bool) false (zF (motive:=fun _=>Bool) true false (zA (Vv C ops ops.size) 0)) draw
noncomputable def Znl (C:Cfg)(CL:ZF)(n:Nat)(ops:Array Oper)(draw:Bool)(k:AL->Hp->Z5)(g:AL)(H:Hp):Z5 :=
 zF (motive:=fun _=>Z5) (Zi3 C CL n ops draw 0 ops.toList k g H) (Zdm C CL n ops H.length 0 ops.toList k g (H++zI (Vv C ops ops.size) .free)) (Zz9 C ops draw)
def Zb2 (x y:AV):Option Unit :=
 match x,y with
 |.ptr o _,.ptr o' _=>bif zA o o' then none else some ()
 |_,_=>none
def IM (ev:Operand->AV)(r:Z5):List (Nat×Nat)->Z5
 |[]=>r
 |p::l=>Z0 (Zb2 (ev (.tmp p.1)) (ev (.tmp p.2))) fun _=>IM ev r l
noncomputable def ZwG (C:Cfg)(CL:ZF)(n:Nat)(ops:Array Oper)(draw:Bool)(k:AL->Hp->Z5)(g:AL)(H:Hp):Z5 :=
 zF (motive:=fun _=>Z5) (Znl C CL n ops draw k g H) (IM (JR C n g) (Znl C CL n ops draw k g H) (Zaf C ops)) draw
abbrev SQ:=(KL->AL->Hp->Z5)->KL->KL
abbrev BL:=Nat->KL->KL
def UZ (a:AV)(H:Hp)(k:AV->Hp->Z5):Z5:=k (PE a H).1 (PE a H).2
def ZvS (n:Nat)(k:AL->Hp->Z5):List Nat->AL->Hp->Z5
 |[],al,H=>k al H
 |t::ts,al,H=>UZ (ZgP n al t) H fun v H'=>ZvS n k ts ((t,v)::al) H'
def ZqT (n:Nat)(g:Option (List Nat))(k:AL->Hp->Z5)(h:AL)(H:Hp):Z5 :=
 match g with
 |none=>k h H
 |some g=>ZvS n k g h H
noncomputable def Yn (C:Cfg)(CL:ZF)(g:Code->KL->AL->Hp->Z5)(kp:Nat->Option (List Nat))(n:Nat)(u:SQ)(j:BL):Code->KL->AL->Hp->Z5
 |.skip,k,al,H=>k .normal al H
 |.region id ops draw,k,al,H=>if draw&&!(V9 ops&&R9 C ops) then none else ZqT n (kp (id+1000000)) (ZwG C CL n ops draw (fun h H'=>k .normal h H')) al H
 |.seq a b,k,al,H=>Yn C CL g kp n u j a (u (fun k' h H'=>Yn C CL g kp n u j b k' (Y4 kp b h) H') k) al H
 |.cond c x y,k,al,H=>Zj (JR C n al c) (Yn C CL g kp n u j x k al H) (Yn C CL g kp n u j y k al H)
 |.block id c,k,al,H=>Yn C CL g kp n u j c (j id k) al H
 |.loop c,k,al,H=>g c k (Y4 kp c al) H
 |.scope c,k,al,H=>if XI c then Yn C CL g kp n u j c k al H else none
 |.exit id,k,al,H=>k (.exit id) al H
 |.label _,k,al,H=>k .normal al H
 |.goto l,k,al,H=>k (.goto l) al H
 |.ret,k,al,H=>k .ret al H
 |_,_,_,_=>none
abbrev CXT:=Cfg->ZF->(Code->KL->AL->Hp->Z5)->(Nat->Option (List Nat))->Nat->SQ->BL->Code->KL->AL->Hp->Z5
noncomputable def Zc (B:KL->AL->Hp->Z5)(k:KL):KL:=(fun (_:CXT) e al H =>
 match e with
 |.normal=>B k al H
 |e=>k e al H) Yn
noncomputable def Z8 (id:Nat)(k:KL):KL:=(fun (_:CXT) e al H =>
 match e with
 |.exit i=>if i=id then k .normal al H else k (.exit i) al H
 |e=>k e al H) Yn
noncomputable def Y5 (C:Cfg)(kp:Nat->Option (List Nat))(n:Nat)(c:Code)(k:KL)(g:AL)(H:Hp):Z5 :=
 Z0 (Yz C kp (.loop c) (XZ n g,H)) fun p=>k p.1 (Al p.2.1) p.2.2
section
variable {C:Cfg}{kp:Nat->Option (List Nat)}{n:Nat}
theorem Zmb {a b:Nat}(h:a<b):zE a b=true:=by rw[zE];exact Nat.ble_eq_true_of_le h
theorem Zkf {a b:Nat}(h:¬ a<b):zE a b=false:=by
 cases g:zE a b with
 |false=>rfl
 |true=>exact absurd (zG (by rw[zE]at g;exact g)) h
theorem LO (g:AL):(XZ n g).length=n:=by simp[XZ]
theorem Of (g:AL)(t:Nat):(XZ n g)[t]?=if t<n then some (look g t) else none:=by
 unfold XZ;rw[List.getElem?_map];split
 ·rename_i h;rw[List.getElem?_range h];rfl
 ·rename_i h;rw[zH (by simp;omega)];rfl
theorem SH (g:AL)(t:Nat):(XZ n g).getD t (.tuple [])=ZgP n g t:=by
 rw[List.getD_eq_getElem?_getD,Of];unfold ZgP;by_cases h:t<n
 ·simp[h,Zmb h]
 ·simp[h,Zkf h]
theorem ZaD (f:Nat->AV):∀ (l:List Nat) (t:Nat),look (l.map fun i=>(i,f i)) t=if t∈l then f t else .undef:=by
 intro l
 induction l with
 |nil=>intro t;rfl
 |cons a l w =>
  intro t;simp only[List.map_cons,look,w];by_cases h:a=t
  ·subst h;simp
  ·have g:zA a t=false:=by
    cases u:zA a t with
    |false=>rfl
    |true=>exact absurd (zC u) h
   have j:¬ t=a:=fun e=>h e.symm;simp[g,j]
theorem ZeN {g:AL}{tm:List AV}(j:tm.length=n)(h:∀ i,i<n->tm[i]?=some (look g i)):XZ n g=tm:=by
 apply List.ext_getElem?;intro i;rw[Of];split
 ·rename_i hi;rw[h i hi]
 ·rename_i hi;rw[zH (by omega)]
theorem Zub {tm:List AV}(h:tm.length=n):XZ n (Al tm)=tm:=by
 apply ZeN h;intro i hi;unfold Al;rw[ZaD];have:i<tm.length:=by omega
 simp[this]
theorem ZwH {args:List AV}(h:args.length<=n):XZ n (Al args)=args++zI (n-args.length) .undef:=by
 apply ZeN
 ·simp;omega
 ·intro i hi;unfold Al;rw[ZaD,List.getElem?_append];by_cases g:i<args.length
  ·simp[g]
  ·have j:i-args.length<n-args.length:=by omega
   simp[g,j]
theorem ZjW (j:AL)(g:Option Tmp)(v:AV):XZ n (ZaJ j g v)=Xd (XZ n j) g v:=by
 cases g with
 |none=>rfl
 |some d =>
  apply ZeN
  ·simp[Xd,LO]
  ·intro i hi;simp only[Xd,ZaJ,look];by_cases h:d=i
   ·subst h;simp[LO,hi]
   ·have u:zA d i=false:=by
     cases w:zA d i with
     |false=>rfl
     |true=>exact absurd (zC w) h
    rw[List.getElem?_set_ne h,Of];simp[hi,u]
theorem Zlr (keep:List Nat):∀ (l:List AV) (i j:Nat),(XJ keep i l)[j]?=(l[j]?).map fun a=>if keep.contains (i+j) then a else .undef:=by
 intro l
 induction l with
 |nil=>intro i j;simp[XJ]
 |cons a l g =>
  intro i j
  cases j with
  |zero=>simp[XJ]
  |succ j=>simp only[XJ,List.getElem?_cons_succ,g];rw[Nat.add_right_comm,Nat.add_assoc]
theorem PT (c:Code)(g:AL)(H:Hp):trim kp c (XZ n g,H)=(XZ n (Y4 kp c g),H):=by
 unfold trim Y4
 cases YL c with
 |none=>rfl
 |some r =>
  simp only
  cases kp r with
  |none=>rfl
  |some keep =>
   simp only;refine Prod.ext ?_ rfl;symm;apply ZeN
   ·simp[Tf,LO]
   ·intro i hi;rw[Zlr,Of,ZaD];simp[hi]
theorem ZgF (g:AL):eval C (XZ n g)=JR C n g:=by
 funext x
 cases x with
 |tmp t=>exact SH g t
 |_=>rfl
theorem ZvZ {α:Type}(ops:Array Oper)(u:AL)(o:Oper)(els:α)(x:Option α):Zak ops (XZ n u) o els x=ZeK n ops u o els x:=by
 unfold Zak ZeK
 cases o.guard with
 |none=>rfl
 |some p =>
  obtain⟨j,w⟩:=p;simp only
  cases ops[j]? with
  |none=>rfl
  |some g =>
   simp only
   cases g.dst with
   |none=>rfl
   |some d =>
    simp only;rw[Of];by_cases h:d<n
    ·simp[h,Zmb h]
    ·simp[h,Zkf h]
theorem ZsJ {CL:ZF}{ops:Array Oper}{fl:Bool}{o:Oper}{k:St->Z5}{h:AL->Hp->Z5}(hk:∀ g H,k (XZ n g,H)=h g H)(g:AL)(H:Hp) :
 ZjF C CL ops fl o k (XZ n g) H=Zi2 C CL n ops fl o h g H:=by
 unfold ZjF Zi2;rw[ZgF];simp only[ZvZ,<-ZjW,hk];rfl
theorem ZtF {op:Op}{x:Operand}(h:Zwq op=some x)(ev:Operand->AV):ZT C ev op=some (ev x)/\XF C op=0:=by
 cases op <;> simp only[Zwq,zB,reduceCtorEq]at h
 ·subst h;exact⟨rfl,rfl⟩
 ·subst h;exact⟨rfl,rfl⟩
theorem Zmt {CL:ZF}{ops:Array Oper}{fl:Bool}{o:Oper}{k:St->Z5}{h:AL->Hp->Z5}(hk:∀ g H,k (XZ n g,H)=h g H)(g:AL)(H:Hp) :
 ZjF C CL ops fl o k (XZ n g) H=ZlH C CL n ops fl o h g H:=by
 rw[ZsJ hk];unfold ZlH;split
 ·rename_i x w hm;obtain⟨j,u⟩:=ZtF (C:=C) hm (JR C n g);unfold Zi2;rw[j,u,ite_self];simp only[ZeK,w,Z0]
 ·rfl
theorem ZsK {CL:ZF}{ops:Array Oper}{b:Nat}{k:St->Z5}{j:AL->Hp->Z5}(hk:∀ g H,k (XZ n g,H)=j g H):∀ (l:List Oper) (i:Nat) (g:AL) (H:Hp),
 RU C CL ops true b i l k (XZ n g,H)=Zdm C CL n ops b i l j g H:=by
 intro l
 induction l with
 |nil=>intro i g H;exact hk g H
 |cons o l h =>
  intro i g H;unfold RU Zdm;simp only[Bool.true_and]
  cases w:Vu C ops i with
  |true =>
   simp only[if_true];unfold Ztn
   cases u:Xo C ops i with
   |true=>rfl
   |false =>
    simp only[zD,if_false];rw[ZgF];congr 1;funext r;rw[<-h (i+1) (ZaJ g o.dst r.1) r.2,ZjW]
  |false =>
   simp only[zD,if_false];exact Zmt (fun g H=>h (i+1) g H) g H
theorem Zwc {ops:Array Oper}(h:Vv C ops ops.size=0)(i:Nat):Vu C ops i=false:=by
 cases g:Vu C ops i with
 |false=>rfl
 |true =>
  have hi:i<ops.size:=by
   unfold Vu at g
   cases j:ops[i]? with
   |none=>simp[j]at g
   |some o=>exact (Array.getElem?_eq_some_iff.1 j).1
  have:=Zpq g hi;omega
theorem Zkn {CL:ZF}{ops:Array Oper}{draw:Bool}{b:Nat}(j:draw=true->Vv C ops ops.size=0){k:St->Z5}{h:AL->Hp->Z5}(hk:∀ g H,k (XZ n g,H)=h g H):∀ (l:List Oper) (i:Nat) (g:AL) (H:Hp),
 RU C CL ops draw b i l k (XZ n g,H)=Zi3 C CL n ops draw i l h g H:=by
 intro l
 induction l with
 |nil=>intro i g H;exact hk g H
 |cons o l w =>
  intro i g H;unfold RU Zi3
  have u:(draw&&Vu C ops i)=false:=by
   cases draw with
   |false=>rfl
   |true=>simp[Zwc (j rfl) i]
  simp only[u,zD,if_false];exact Zmt (fun g H=>w (i+1) g H) g H
theorem Zyn {CL:ZF}{ops:Array Oper}{draw:Bool}{k:St->Z5}{j:AL->Hp->Z5}(hk:∀ g H,k (XZ n g,H)=j g H)(g:AL)(H:Hp) :
 RU C CL ops draw H.length 0 ops.toList k (XZ n g,Qx (if draw then Vv C ops ops.size else 0) H)=Znl C CL n ops draw j g H:=by
 unfold Znl Zz9
 cases draw with
 |false=>exact Zkn (fun h=>by cases h) hk _ _ _ _
 |true =>
  simp only[if_true]
  cases u:Vv C ops ops.size with
  |zero =>
   simp only[zA,Qx];exact Zkn (fun _=>u) hk _ _ _ _
  |succ m =>
   simp only[zA,Qx];exact ZsK hk _ _ _ _
theorem Zy3 {k:St->Z5}{j:AL->Hp->Z5}(hk:∀ g H,k (XZ n g,H)=j g H):∀ (h:List Nat) (g:AL) (H:Hp),k (ZjL h (XZ n g,H))=ZvS n j h g H:=by
 intro h
 induction h with
 |nil=>intro g H;exact hk g H
 |cons t h u =>
  intro g H;show k (ZjL h (frz1 (XZ n g,H) t))=_;unfold frz1;simp only[SH];have:=ZjW (n:=n) g (some t) (PE (ZgP n g t) H).1;simp only[Xd,ZaJ]at this;rw[<-this];exact u _ _
theorem Zy2 {k:St->Z5}{h:AL->Hp->Z5}(hk:∀ g H,k (XZ n g,H)=h g H)(id:Nat)(g:AL)(H:Hp):k (frzs kp id (XZ n g,H))=ZqT n (kp (id+1000000)) h g H:=by
 unfold frzs ZqT
 cases kp (id+1000000) with
 |none=>exact hk g H
 |some j=>exact Zy3 hk j g H
theorem ZvU (id:Nat)(s:St):(frzs kp id s).1.length=s.1.length:=by
 unfold frzs
 cases kp (id+1000000) with
 |none=>rfl
 |some g =>
  simp only[ZjL]
  induction g generalizing s with
  |nil=>rfl
  |cons t g h=>rw[List.foldl_cons,h];simp[frz1]
theorem ZtM {call:ZF}{ops:Array Oper}{fl:Bool}{o:Oper}{s s':St}(h:U8 C call ops fl o s=some s'):s'.1.length=s.1.length:=by
 unfold U8 at h;split at h
 ·simp only[zB]at h;subst h;cases o.dst <;> simp[Xd]
 ·cases h
theorem Zrx {call:ZF}{ops:Array Oper}{draw:Bool}{b i:Nat}{o:Oper}{s s':St}(h:W7 C call ops draw b i o s=some s'):s'.1.length=s.1.length:=by
 unfold W7 at h;split at h
 ·split at h
  ·cases h
  ·split at h
   ·simp only[zB]at h;subst h;cases o.dst <;> simp[Xd]
   ·cases h
 ·exact ZtM h
theorem Zow {call:ZF}{ops:Array Oper}{draw:Bool}{b:Nat}:∀ (l:List Oper) (i:Nat) (s s':St),Yt C call ops draw b i l s=some s'->s'.1.length=s.1.length:=by
 intro l
 induction l with
 |nil=>intro i s s' h;simp[Yt]at h;rw[h]
 |cons o l j =>
  intro i s s' h;unfold Yt at h;split at h
  ·rename_i u g;rw[j _ _ _ h,Zrx g]
  ·cases h
theorem Zh9 (c:Code)(s:St):(trim kp c s).1.length=s.1.length:=by
 unfold trim
 cases YL c with
 |none=>rfl
 |some r =>
  simp only
  cases kp r with
  |none=>rfl
  |some keep=>simp[Tf]
theorem ZvK {call:ZF}{m:Nat}:∀ (c:Code) (s s':St) (e:AExit),Zs C call kp m c s=some (e,s')->s'.1.length=s.1.length:=by
 intro c
 induction c with
 |region id ops draw =>
  intro s s' e h;simp only[Zs]at h;split at h
  ·cases h
  ·split at h
   ·rename_i E g;simp only[zB,zJ]at h;rw[<-h.2,<-ZvU (kp:=kp) id s];exact (Zow _ _ _ _ g :)
   ·cases h
 |seq a b w z =>
  intro s s' e h;simp only[Zs]at h;split at h
  ·rename_i E g;rw[z _ _ _ h,Zh9,w _ _ _ g]
  ·exact w _ _ _ h
 |cond c x y B D =>
  intro s s' e h;simp only[Zs]at h;split at h
  ·split at h
   ·exact B _ _ _ h
   ·exact D _ _ _ h
  ·cases h
 |block id c u =>
  intro s s' e h;simp only[Zs]at h;split at h
  ·rename_i i E g;split at h <;>
   ·simp only[zB,zJ]at h;rw[<-h.2];exact u _ _ _ g
  ·exact u _ _ _ h
 |loop c u =>
  intro s s' e h;simp only[Zs]at h
  have key:∀ (j:Nat) (s:St),W6 (fun s=>Zs C call kp m c (trim kp c s)) j s=some (e,s')->s'.1.length=s.1.length:=by
   intro j
   induction j with
   |zero=>intro s h;simp[W6]at h
   |succ j A =>
    intro s h;unfold W6 at h;split at h
    ·rename_i E g;rw[A _ h,u _ _ _ g,Zh9]
    ·rw[u _ _ _ h,Zh9]
  exact key _ _ h
 |scope c u =>
  intro s s' e h;simp only[Zs]at h;split at h
  ·exact u _ _ _ h
  ·cases h
 |skip=>intro s s' e h;simp[Zs]at h;rw[h.2]
 |exit id=>intro s s' e h;simp[Zs]at h;rw[h.2]
 |label l=>intro s s' e h;simp[Zs]at h;rw[h.2]
 |goto l=>intro s s' e h;simp[Zs]at h;rw[h.2]
 |ret=>intro s s' e h;simp[Zs]at h;rw[h.2]
 |_=>intro s s' e h;simp[Zs]at h
theorem ZsX {c:Code}{s s':St}{e:AExit}(h:Yz C kp c s=some (e,s')):s'.1.length=s.1.length:=by
 obtain⟨m,hm⟩:=ZV.1 h;exact ZvK _ _ _ _ hm
def ZlS (n:Nat)(k:Kt)(h:KL):Prop:=∀ e g H,k e (XZ n g,H)=h e g H
theorem OH {c:Code}{k:Kt}{u:KL}(hk:ZlS n k u)(g:AL)(H:Hp):CU C kp c k (XZ n g,H)=Y5 C kp n c u g H:=by
 unfold CU Y5
 cases h:Yz C kp (.loop c) (XZ n g,H) with
 |none=>rfl
 |some p =>
  obtain⟨e,tm,H'⟩:=p;have j:=ZsX h;simp only[LO]at j;simp only[Z0];rw[<-hk e (Al tm) H',Zub j]
theorem Zyy (x y:AV):Zb2 x y=if MA x y then some () else none:=by
 cases x with
 |ptr o f=>cases y with
  |ptr g h =>
   show (bif zA o g then none else some ())=if (!zA o g)=true then some () else none;cases zA o g <;> rfl
  |_=>rfl
 |_=>rfl
theorem Zkg (ev:Operand->AV)(r:Z5):∀ l:List (Nat×Nat),(l.all (fun p=>MA (ev (.tmp p.1)) (ev (.tmp p.2)))=true->IM ev r l=r)/\(l.all (fun p=>MA (ev (.tmp p.1)) (ev (.tmp p.2)))=false->IM ev r l=none):=by
 intro l
 induction l with
 |nil=>exact⟨fun _=>rfl,fun h=>by cases h⟩
 |cons p l g =>
  simp only[IM,Zyy,List.all_cons]
  cases j:MA (ev (.tmp p.1)) (ev (.tmp p.2)) with
  |true=>exact⟨fun h=>g.1 (by simpa using h),fun h=>g.2 (by simpa using h)⟩
  |false=>exact⟨fun h=>by simp at h,fun _=>rfl⟩
theorem Zgb:∀ (c:Code) (k:Kt) (h:KL),ZlS n k h->∀ (g:AL) (H:Hp),CX C (Zb C) (CU C kp) kp c k (XZ n g,H)=Yn C (Zb C) (Y5 C kp n) kp n Zc Z8 c h g H:=by
 intro c
 induction c with
 |region id ops draw =>
  intro k h hk g H;simp only[CX,Yn];by_cases w:(draw&&!(V9 ops&&R9 C ops))=true
  ·rw[if_pos w,if_pos];unfold DN
   revert w
   cases draw <;> cases V9 ops <;> cases R9 C ops <;> simp
  ·rw[if_neg w];refine Zy2 (kp:=kp) (k:=fun s=>if (draw&&!(V9 ops&&DN C ops (eval C s.1)))=true then none else RU C (Zb C) ops draw s.2.length 0 ops.toList (fun s'=>k .normal s') (s.1,Qx (if draw then Vv C ops ops.size else 0) s.2)) (fun g H=>?_) id g H;have j:=Zyn (C:=C) (CL:=Zb C) (n:=n) (ops:=ops) (draw:=draw) (fun g H=>hk .normal g H) g H;unfold ZwG
   cases draw with
   |false=>simpa using j
   |true =>
    have u:V9 ops=true/\R9 C ops=true:=by
     revert w
     cases V9 ops <;> cases R9 C ops <;> simp
    show _=IM (JR C n g) (Znl C (Zb C) n ops true _ g H) (Zaf C ops);unfold DN ZqG;rw[u.1,u.2]
    have I:((Zaf C ops).all fun p=>MA (eval C (XZ n g) (.tmp p.1)) (eval C (XZ n g) (.tmp p.2)))=((Zaf C ops).all fun p=>MA (JR C n g (.tmp p.1)) (JR C n g (.tmp p.2))):=by
     congr 1;funext p;show MA ((XZ n g).getD p.1 (.tuple [])) ((XZ n g).getD p.2 (.tuple []))=_;rw[SH,SH];rfl
    rw[I]
    cases F:((Zaf C ops).all fun p=>MA (JR C n g (.tmp p.1)) (JR C n g (.tmp p.2))) with
    |true=>rw[(Zkg _ _ _).1 F,<-j];rfl
    |false=>rw[(Zkg _ _ _).2 F];rfl
 |seq a b A B =>
  intro k h hk g H;simp only[CX,Yn];refine A _ _ (fun e g H=>?_) g H
  cases e with
  |normal=>simp only[ZaO,Zc];rw[PT];exact B k h hk _ _
  |_=>exact hk _ _ _
 |cond c x y D E =>
  intro k h hk g H;simp only[CX,Yn];rw[ZgF,D k h hk,E k h hk]
 |block id c z =>
  intro k h hk g H;simp only[CX,Yn];refine z _ _ (fun e g H=>?_) g H
  cases e with
  |exit i =>
   simp only[Zdh,Z8];split <;> exact hk _ _ _
  |_=>exact hk _ _ _
 |loop c _ =>
  intro k h hk g H;simp only[CX,Yn];rw[PT];exact OH hk _ _
 |scope c z =>
  intro k h hk g H;simp only[CX,Yn];split
  ·exact z k h hk g H
  ·rfl
 |skip=>intro k h hk g H;exact hk _ _ _
 |exit id=>intro k h hk g H;exact hk _ _ _
 |label l=>intro k h hk g H;exact hk _ _ _
 |goto l=>intro k h hk g H;exact hk _ _ _
 |ret=>intro k h hk g H;exact hk _ _ _
 |_=>intro k h hk g H;rfl
def ZS (n:Nat)(g:KL):Prop:=∃ k,ZlS n k g
theorem Zn (id:Nat){g:KL}(h:ZS n g):ZS n (Z8 id g):=by
 obtain⟨k,hk⟩:=h;refine⟨Zdh id k,fun e j H=>?_⟩
 cases e with
 |exit i =>
  simp only[Zdh,Z8];split <;> exact hk _ _ _
 |_=>exact hk _ _ _
theorem Zw (b:Code){j:KL}(h:ZS n j):ZS n (Zc (fun k' g H'=>Yn C (Zb C) (Y5 C kp n) kp n Zc Z8 b k' (Y4 kp b g) H') j):=by
 obtain⟨k,hk⟩:=h;refine⟨ZaO (fun s'=>CX C (Zb C) (CU C kp) kp b k (trim kp b s')) k,fun e u H=>?_⟩
 cases e with
 |normal=>simp only[ZaO,Zc];rw[PT];exact Zgb b k j hk _ _
 |_=>exact hk _ _ _
theorem Ai (c:Code){j:KL}(h:ZS n j):ZS n (Zc (fun k' g H'=>Y5 C kp n c k' (Y4 kp c g) H') j):=by
 obtain⟨k,hk⟩:=h;refine⟨ZaO (fun s'=>CU C kp c k (trim kp c s')) k,fun e u H=>?_⟩
 cases e with
 |normal=>simp only[ZaO,Zc];rw[PT];exact OH hk _ _
 |_=>exact hk _ _ _
theorem ZyD {c:Code}{u:KL}(h:ZS n u)(g:AL)(H:Hp):Y5 C kp n c u g H=Yn C (Zb C) (Y5 C kp n) kp n Zc Z8 c (Zc (fun k' j H'=>Y5 C kp n c k' (Y4 kp c j) H') u) (Y4 kp c g) H:=by
 obtain⟨k,hk⟩:=h;rw[<-OH hk,ZyF,PT];refine Zgb c _ _ (fun e g H=>?_) _ _
 cases e with
 |normal=>simp only[ZaO,Zc];rw[PT];exact OH hk _ _
 |_=>exact hk _ _ _
def ZjX (C:Cfg)(n:Nat)(h:AL)(H:Hp):ResultVar->Option AV
 |.tmp t=>some (ZgP n h t)
 |.cell a t=>match Xq C.P t,Xc C.P t with
  |some g,some sz=>Z3 g sz (ZgP n h a) H
  |_,_=>none
def Znn (C:Cfg)(n:Nat)(g:AL)(H:Hp):List ResultVar->List AV->(List AV->Z5)->Z5
 |[],acc,k=>k acc
 |r::rs,acc,k=>Z0 (ZjX C n g H r) fun v=>Znn C n g H rs (acc++[v]) k
noncomputable abbrev Zf (C:Cfg)(n:Nat)(f:FuncId)(fn:Func)(H0:Hp):KL:=fun e al H =>
 match e with
 |.normal=>Znn C n al H fn.results.toList [] (Ze5 C f H0 H)
 |.ret=>Znn C n al H fn.results.toList [] (Ze5 C f H0 H)
 |_=>none
theorem Zpy (h:AL)(H:Hp)(k:List AV->Z5):∀ (rs:List ResultVar) (g:List AV),ZaL C rs (XZ n h,H) g k=Znn C n h H rs g k:=by
 intro rs
 induction rs with
 |nil=>intro g;rfl
 |cons r rs j =>
  intro g;unfold ZaL Znn
  have:WE C (XZ n h,H) r=ZjX C n h H r:=by
   cases r <;> (simp only[WE,ZjX,SH] <;> rfl)
  rw[this];simp only[j]
theorem Zns (f:FuncId)(fn:Func)(g:Hp):ZlS n (Zzm C f fn g) (Zf C n f fn g):=by
 intro e h H
 cases e with
 |normal=>exact Zpy _ _ _ _ _
 |ret=>exact Zpy _ _ _ _ _
 |_=>rfl
theorem Zz (f:FuncId)(fn:Func)(g:Hp):ZS n (Zf C n f fn g):=⟨_,Zns f fn g⟩
def OO:Nat->List AV->AL
 |_,[]=>[]
 |i,a::r=>(i,a)::OO (i+1) r
theorem Zof (args:List AV):XZ n (OO 0 args)=XZ n (Al args):=by
 have key:∀ (l:List AV) (i t:Nat),look (OO i l) t=if i<=t then l.getD (t-i) .undef else .undef:=by
  intro l
  induction l with
  |nil=>intro i t;simp[OO,look]
  |cons a l z =>
   intro i t;simp only[OO,look,z];by_cases h:i=t
   ·subst h;simp
   ·have u:zA i t=false:=by
     cases y:zA i t with
     |false=>rfl
     |true=>exact absurd (zC y) h
    simp only[u,cond_false];by_cases j:i<=t
    ·have g:i+1<=t:=by omega
     have w:t-i=(t-(i+1))+1:=by omega
     simp[j,g,w]
    ·have g:¬ i+1<=t:=by omega
     simp[j,g]
 unfold XZ;apply List.map_congr_left;intro t _;rw[key];unfold Al;rw[ZaD];by_cases h:t<args.length <;> simp[h]
theorem Zst {f:FuncId}{fn:Func}{c:Code}(j:C.P.funcs[f]?=some fn)(h:RR C f fn=some c)(g:fn.ntmps=n)(args:List AV)(u:Nat.ble args.length n=true)(H:Hp) :
 Zb C f args H=Yn C (Zb C) (Y5 C (C.keep f) n) (C.keep f) n Zc Z8 c (Zf C n f fn H) (OO 0 args) H:=by
 subst g;rw[Zvb j h,<-ZwH (zG u),<-Zof];exact Zgb _ _ _ (Zns f fn H) _ _
end
end Go.Am
