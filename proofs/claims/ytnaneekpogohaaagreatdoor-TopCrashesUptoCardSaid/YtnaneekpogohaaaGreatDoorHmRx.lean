/- THE ABSTRACT MACHINE -/
import Derived.Test.YtnaneekpogohaaaGreatDoorHmOx
open List renaming getElem?_eq_none->zH,replicate->zI,range->zK
open Nat renaming beq->zA,eq_of_beq_eq_true->zC,blt->zE,le_of_ble_eq_true->zG
open Bool renaming false_eq_true->zD,rec->zF
open Option.some renaming injEq->zB
open Prod.mk renaming injEq->zJ
namespace Go.Am
open RowKit
abbrev AL:=List (Nat×AV)
abbrev KL:=AExit->AL->Hp->Z4
def look:AL->Nat->AV
 |[],_=>.undef
 |(i,v)::r,t=>bif zA i t then v else look r t
def XZ (n:Nat)(g:AL):List AV:=(zK n).map (look g)
def AK (tm:List AV):AL:=(zK tm.length).map fun i=>(i,tm.getD i .undef)
def ZgS (n:Nat)(g:AL)(t:Nat):AV:=bif zE t n then look g t else .tuple []
def K7 (C:Cfg)(n:Nat)(g:AL):Operand->AV
 |.tmp t=>ZgS n g t
 |x=>eval C [] x
def ZeV {α:Type}(n:Nat)(ops:Array Oper)(h:AL)(o:Oper)(els:α)(x:Option α):Option α :=
 match o.guard with
 |none=>x
 |some (j,want)=>match (match ops[j]? with|some g=>g.dst|none=>none) with
  |none=>some els
  |some d=>bif zE d n then Z8 (look h d) want els x else some els
def Zb6 (h:AL)(g:Option Tmp)(v:AV):AL :=
 match g with
 |some d=>(d,v)::h
 |none=>h
def Y3 (kp:Nat->Option (List Nat))(c:Code)(g:AL):AL :=
 match YL c with
 |none=>g
 |some r=>match kp r with
  |none=>g
  |some keep=>keep.map fun t=>(t,look g t)
def Zw6:Op->Option Operand
 |.move x=>some x
 |.assign x=>some x
 |_=>none
def ZhZ (C:Cfg)(CL:ZF)(n:Nat)(ops:Array Oper)(fl:Bool)(o:Oper)(k:AL->Hp->Z4)(g:AL)(H:Hp):Z4 :=
 match (if fl then 0 else XH C o.op) with
 |0=>Z0 (ZeV n ops g o (.tuple []) (ZT C (K7 C n g) o.op)) fun v=>k (Zb6 g o.dst v) H
 |1=>Z0 (ZeV n ops g o (.tuple []) (NE C (K7 C n g) H o.op)) fun v=>k (Zb6 g o.dst v) H
 |_=>Z0 (ZeV n ops g o (.tuple [],H) (ZE C CL (K7 C n g) H o.op)) fun r=>k (Zb6 g o.dst r.1) r.2
def Zls (C:Cfg)(CL:ZF)(n:Nat)(ops:Array Oper)(fl:Bool)(o:Oper)(k:AL->Hp->Z4)(g:AL)(H:Hp):Z4 :=
 match o.guard,Zw6 o.op with
 |none,some x=>k (Zb6 g o.dst (K7 C n g x)) H
 |_,_=>ZhZ C CL n ops fl o k g H
def Zi0 (C:Cfg)(CL:ZF)(n:Nat)(ops:Array Oper)(draw:Bool):Nat->List Oper->(AL->Hp->Z4)->AL->Hp->Z4
 |_,[],k,al,H=>k al H
 |i,o::rest,k,al,H=>Zls C CL n ops (draw&&Xp C ops i) o (Zi0 C CL n ops draw (i+1) rest k) al H
noncomputable def Zt4 (C:Cfg)(n:Nat)(ops:Array Oper)(b i:Nat)(o:Oper)(k:AL->Hp->Z4)(g:AL)(H:Hp):Z4 :=
 zF (motive:=fun _=>Z4) (Z0 (ME (b+VD C ops i) (MT C (K7 C n g) o.op) H) fun r=>k (Zb6 g o.dst r.1) r.2) none (Xp C ops i)
noncomputable def ZdG (C:Cfg)(CL:ZF)(n:Nat)(ops:Array Oper)(b:Nat):Nat->List Oper->(AL->Hp->Z4)->AL->Hp->Z4
 |_,[],k,al,H=>k al H
 |i,o::rest,k,al,H=>zF (motive:=fun _=>Z4) (Zls C CL n ops (Xp C ops i) o (ZdG C CL n ops b (i+1) rest k) al H) (Zt4 C n ops b i o (ZdG C CL n ops b (i+1) rest k) al H) (VC C ops i)
noncomputable def ZyQ (C:Cfg)(ops:Array Oper)(draw:Bool):Bool:=zF (motive:=fun _=>Bool) false (zF (motive:=fun _=>Bool) true false (zA (VD C ops ops.size) 0)) draw
noncomputable def Zn6 (C:Cfg)(CL:ZF)(n:Nat)(ops:Array Oper)(draw:Bool)(k:AL->Hp->Z4)(g:AL)(H:Hp):Z4 :=
 zF (motive:=fun _=>Z4) (Zi0 C CL n ops draw 0 ops.toList k g H) (ZdG C CL n ops H.length 0 ops.toList k g (H++zI (VD C ops ops.size) .free)) (ZyQ C ops draw)
def Zbp (x y:AV):Option Unit :=
 match x,y with
 |.ptr o _,.ptr o' _=>bif zA o o' then none else some ()
 |_,_=>none
def Oc (ev:Operand->AV)(r:Z4):List (Nat×Nat)->Z4
 |[]=>r
 |p::l=>Z0 (Zbp (ev (.tmp p.1)) (ev (.tmp p.2))) fun _=>Oc ev r l
noncomputable def Zwm (C:Cfg)(CL:ZF)(n:Nat)(ops:Array Oper)(draw:Bool)(k:AL->Hp->Z4)(g:AL)(H:Hp):Z4 :=
 zF (motive:=fun _=>Z4) (Zn6 C CL n ops draw k g H) (Oc (K7 C n g) (Zn6 C CL n ops draw k g H) (ZaC C ops)) draw
abbrev SQ:=(KL->AL->Hp->Z4)->KL->KL
abbrev BL:=Nat->KL->KL
def Qd (a:AV)(H:Hp)(k:AV->Hp->Z4):Z4:=k (Nc a H).1 (Nc a H).2
def Zvz (n:Nat)(k:AL->Hp->Z4):List Nat->AL->Hp->Z4
 |[],al,H=>k al H
 |t::ts,al,H=>Qd (ZgS n al t) H fun v H'=>Zvz n k ts ((t,v)::al) H'
def Zqy (n:Nat)(g:Option (List Nat))(k:AL->Hp->Z4)(h:AL)(H:Hp):Z4 :=
 match g with
 |none=>k h H
 |some g=>Zvz n k g h H
noncomputable def Yn (C:Cfg)(CL:ZF)(g:Code->KL->AL->Hp->Z4)(kp:Nat->Option (List Nat))(n:Nat)(u:SQ)(j:BL):Code->KL->AL->Hp->Z4
 |.skip,k,al,H=>k .normal al H
 |.region id ops draw,k,al,H=>if draw&&!(Vf ops&&Ry C ops) then none else Zqy n (kp (id+1000000)) (Zwm C CL n ops draw (fun h H'=>k .normal h H')) al H
 |.seq a b,k,al,H=>Yn C CL g kp n u j a (u (fun k' h H'=>Yn C CL g kp n u j b k' (Y3 kp b h) H') k) al H
 |.cond c x y,k,al,H=>Zj (K7 C n al c) (Yn C CL g kp n u j x k al H) (Yn C CL g kp n u j y k al H)
 |.block id c,k,al,H=>Yn C CL g kp n u j c (j id k) al H
 |.loop c,k,al,H=>g c k (Y3 kp c al) H
 |.scope c,k,al,H=>if XJ c then Yn C CL g kp n u j c k al H else none
 |.exit id,k,al,H=>k (.exit id) al H
 |.label _,k,al,H=>k .normal al H
 |.goto l,k,al,H=>k (.goto l) al H
 |.ret,k,al,H=>k .ret al H
 |_,_,_,_=>none
abbrev CXT:=Cfg->ZF->(Code->KL->AL->Hp->Z4)->(Nat->Option (List Nat))->Nat->SQ->BL->Code->KL->AL->Hp->Z4
noncomputable def Zc (B:KL->AL->Hp->Z4)(k:KL):KL:=(fun (_:CXT) e al H =>
 match e with
 |.normal=>B k al H
 |e=>k e al H) Yn
noncomputable def Z7 (id:Nat)(k:KL):KL:=(fun (_:CXT) e al H =>
 match e with
 |.exit i=>if i=id then k .normal al H else k (.exit i) al H
 |e=>k e al H) Yn
noncomputable def Y5 (C:Cfg)(kp:Nat->Option (List Nat))(n:Nat)(c:Code)(k:KL)(g:AL)(H:Hp):Z4 :=
 Z0 (Yz C kp (.loop c) (XZ n g,H)) fun p=>k p.1 (AK p.2.1) p.2.2
section
variable {C:Cfg}{kp:Nat->Option (List Nat)}{n:Nat}
theorem ZlV {a b:Nat}(h:a<b):zE a b=true:=by rw[zE];exact Nat.ble_eq_true_of_le h
theorem Zk5 {a b:Nat}(h:¬ a<b):zE a b=false:=by
 cases g:zE a b with
 |false=>rfl
 |true=>exact absurd (zG (by rw[zE]at g;exact g)) h
theorem Ey (g:AL):(XZ n g).length=n:=by simp[XZ]
theorem OF (g:AL)(t:Nat):(XZ n g)[t]?=if t<n then some (look g t) else none:=by
 unfold XZ;rw[List.getElem?_map];split
 ·rename_i h;rw[List.getElem?_range h];rfl
 ·rename_i h;rw[zH (by simp;omega)];rfl
theorem Cb (g:AL)(t:Nat):(XZ n g).getD t (.tuple [])=ZgS n g t:=by
 rw[List.getD_eq_getElem?_getD,OF];unfold ZgS;by_cases h:t<n
 ·simp[h,ZlV h]
 ·simp[h,Zk5 h]
theorem Zb0 (f:Nat->AV):∀ (l:List Nat) (t:Nat),look (l.map fun i=>(i,f i)) t=if t∈l then f t else .undef:=by
 intro l
 induction l with
 |nil=>intro t;rfl
 |cons a l w =>
  intro t;simp only[List.map_cons,look,w];by_cases h:a=t
  ·subst h;simp
  ·have g:zA a t=false:=by
    cases u:zA a t with
    |false=>rfl
    |true=>exact absurd (zC u) h
   have j:¬ t=a:=fun e=>h e.symm;simp[g,j]
theorem ZeY {g:AL}{tm:List AV}(j:tm.length=n)(h:∀ i,i<n->tm[i]?=some (look g i)):XZ n g=tm:=by
 apply List.ext_getElem?;intro i;rw[OF];split
 ·rename_i hi;rw[h i hi]
 ·rename_i hi;rw[zH (by omega)]
theorem ZtS {tm:List AV}(h:tm.length=n):XZ n (AK tm)=tm:=by
 apply ZeY h;intro i hi;unfold AK;rw[Zb0];have:i<tm.length:=by omega
 simp[this]
theorem Zwn {args:List AV}(h:args.length<=n):XZ n (AK args)=args++zI (n-args.length) .undef:=by
 apply ZeY
 ·simp;omega
 ·intro i hi;unfold AK;rw[Zb0,List.getElem?_append];by_cases g:i<args.length
  ·simp[g]
  ·have j:i-args.length<n-args.length:=by omega
   simp[g,j]
theorem ZjN (j:AL)(g:Option Tmp)(v:AV):XZ n (Zb6 j g v)=Xf (XZ n j) g v:=by
 cases g with
 |none=>rfl
 |some d =>
  apply ZeY
  ·simp[Xf,Ey]
  ·intro i hi;simp only[Xf,Zb6,look];by_cases h:d=i
   ·subst h;simp[Ey,hi]
   ·have u:zA d i=false:=by
     cases w:zA d i with
     |false=>rfl
     |true=>exact absurd (zC w) h
    rw[List.getElem?_set_ne h,OF];simp[hi,u]
theorem Zlc (keep:List Nat):∀ (l:List AV) (i j:Nat),(XK keep i l)[j]?=(l[j]?).map fun a=>if keep.contains (i+j) then a else .undef:=by
 intro l
 induction l with
 |nil=>intro i j;simp[XK]
 |cons a l g =>
  intro i j
  cases j with
  |zero=>simp[XK]
  |succ j=>simp only[XK,List.getElem?_cons_succ,g];rw[Nat.add_right_comm,Nat.add_assoc]
theorem Nt (c:Code)(g:AL)(H:Hp):trim kp c (XZ n g,H)=(XZ n (Y3 kp c g),H):=by
 unfold trim Y3
 cases YL c with
 |none=>rfl
 |some r =>
  simp only
  cases kp r with
  |none=>rfl
  |some keep =>
   simp only;refine Prod.ext ?_ rfl;symm;apply ZeY
   ·simp[TH,Ey]
   ·intro i hi;rw[Zlc,OF,Zb0];simp[hi]
theorem ZgI (g:AL):eval C (XZ n g)=K7 C n g:=by
 funext x
 cases x with
 |tmp t=>exact Cb g t
 |_=>rfl
theorem ZvG {α:Type}(ops:Array Oper)(u:AL)(o:Oper)(els:α)(x:Option α):ZaH ops (XZ n u) o els x=ZeV n ops u o els x:=by
 unfold ZaH ZeV
 cases o.guard with
 |none=>rfl
 |some p =>
  obtain⟨j,w⟩:=p;simp only
  cases ops[j]? with
  |none=>rfl
  |some g =>
   simp only
   cases g.dst with
   |none=>rfl
   |some d =>
    simp only;rw[OF];by_cases h:d<n
    ·simp[h,ZlV h]
    ·simp[h,Zk5 h]
theorem Zsn {CL:ZF}{ops:Array Oper}{fl:Bool}{o:Oper}{k:St->Z4}{h:AL->Hp->Z4}(hk:∀ g H,k (XZ n g,H)=h g H)(g:AL)(H:Hp) :
 Zjv C CL ops fl o k (XZ n g) H=ZhZ C CL n ops fl o h g H:=by
 unfold Zjv ZhZ;rw[ZgI];simp only[ZvG,<-ZjN,hk];rfl
theorem Zto {op:Op}{x:Operand}(h:Zw6 op=some x)(ev:Operand->AV):ZT C ev op=some (ev x)/\XH C op=0:=by
 cases op <;> simp only[Zw6,zB,reduceCtorEq]at h
 ·subst h;exact⟨rfl,rfl⟩
 ·subst h;exact⟨rfl,rfl⟩
theorem Zmd {CL:ZF}{ops:Array Oper}{fl:Bool}{o:Oper}{k:St->Z4}{h:AL->Hp->Z4}(hk:∀ g H,k (XZ n g,H)=h g H)(g:AL)(H:Hp) :
 Zjv C CL ops fl o k (XZ n g) H=Zls C CL n ops fl o h g H:=by
 rw[Zsn hk];unfold Zls;split
 ·rename_i x w hm;obtain⟨j,u⟩:=Zto (C:=C) hm (K7 C n g);unfold ZhZ;rw[j,u,ite_self];simp only[ZeV,w,Z0]
 ·rfl
theorem Zso {CL:ZF}{ops:Array Oper}{b:Nat}{k:St->Z4}{j:AL->Hp->Z4}(hk:∀ g H,k (XZ n g,H)=j g H):∀ (l:List Oper) (i:Nat) (g:AL) (H:Hp),
 Ts C CL ops true b i l k (XZ n g,H)=ZdG C CL n ops b i l j g H:=by
 intro l
 induction l with
 |nil=>intro i g H;exact hk g H
 |cons o l h =>
  intro i g H;unfold Ts ZdG;simp only[Bool.true_and]
  cases w:VC C ops i with
  |true =>
   simp only[if_true];unfold Zt4
   cases u:Xp C ops i with
   |true=>rfl
   |false =>
    simp only[zD,if_false];rw[ZgI];congr 1;funext r;rw[<-h (i+1) (Zb6 g o.dst r.1) r.2,ZjN]
  |false =>
   simp only[zD,if_false];exact Zmd (fun g H=>h (i+1) g H) g H
theorem ZvT {ops:Array Oper}(h:VD C ops ops.size=0)(i:Nat):VC C ops i=false:=by
 cases g:VC C ops i with
 |false=>rfl
 |true =>
  have hi:i<ops.size:=by
   unfold VC at g
   cases j:ops[i]? with
   |none=>simp[j]at g
   |some o=>exact (Array.getElem?_eq_some_iff.1 j).1
  have:=Zp9 g hi;omega
theorem Zkd {CL:ZF}{ops:Array Oper}{draw:Bool}{b:Nat}(j:draw=true->VD C ops ops.size=0){k:St->Z4}{h:AL->Hp->Z4}(hk:∀ g H,k (XZ n g,H)=h g H):∀ (l:List Oper) (i:Nat) (g:AL) (H:Hp),
 Ts C CL ops draw b i l k (XZ n g,H)=Zi0 C CL n ops draw i l h g H:=by
 intro l
 induction l with
 |nil=>intro i g H;exact hk g H
 |cons o l w =>
  intro i g H;unfold Ts Zi0
  have u:(draw&&VC C ops i)=false:=by
   cases draw with
   |false=>rfl
   |true=>simp[ZvT (j rfl) i]
  simp only[u,zD,if_false];exact Zmd (fun g H=>w (i+1) g H) g H
theorem Zy4 {CL:ZF}{ops:Array Oper}{draw:Bool}{k:St->Z4}{j:AL->Hp->Z4}(hk:∀ g H,k (XZ n g,H)=j g H)(g:AL)(H:Hp) :
 Ts C CL ops draw H.length 0 ops.toList k (XZ n g,QL (if draw then VD C ops ops.size else 0) H)=Zn6 C CL n ops draw j g H:=by
 unfold Zn6 ZyQ
 cases draw with
 |false=>exact Zkd (fun h=>by cases h) hk _ _ _ _
 |true =>
  simp only[if_true]
  cases u:VD C ops ops.size with
  |zero =>
   simp only[zA,QL];exact Zkd (fun _=>u) hk _ _ _ _
  |succ m =>
   simp only[zA,QL];exact Zso hk _ _ _ _
theorem ZxK {k:St->Z4}{j:AL->Hp->Z4}(hk:∀ g H,k (XZ n g,H)=j g H):∀ (h:List Nat) (g:AL) (H:Hp),k (ZjC h (XZ n g,H))=Zvz n j h g H:=by
 intro h
 induction h with
 |nil=>intro g H;exact hk g H
 |cons t h u =>
  intro g H;show k (ZjC h (frz1 (XZ n g,H) t))=_;unfold frz1;simp only[Cb];have:=ZjN (n:=n) g (some t) (Nc (ZgS n g t) H).1;simp only[Xf,Zb6]at this;rw[<-this];exact u _ _
theorem ZxJ {k:St->Z4}{h:AL->Hp->Z4}(hk:∀ g H,k (XZ n g,H)=h g H)(id:Nat)(g:AL)(H:Hp):k (frzs kp id (XZ n g,H))=Zqy n (kp (id+1000000)) h g H:=by
 unfold frzs Zqy
 cases kp (id+1000000) with
 |none=>exact hk g H
 |some j=>exact ZxK hk j g H
theorem ZvB (id:Nat)(s:St):(frzs kp id s).1.length=s.1.length:=by
 unfold frzs
 cases kp (id+1000000) with
 |none=>rfl
 |some g =>
  simp only[ZjC]
  induction g generalizing s with
  |nil=>rfl
  |cons t g h=>rw[List.foldl_cons,h];simp[frz1]
theorem Ztv {call:ZF}{ops:Array Oper}{fl:Bool}{o:Oper}{s s':St}(h:Ul C call ops fl o s=some s'):s'.1.length=s.1.length:=by
 unfold Ul at h;split at h
 ·simp only[zB]at h;subst h;cases o.dst <;> simp[Xf]
 ·cases h
theorem Zrb {call:ZF}{ops:Array Oper}{draw:Bool}{b i:Nat}{o:Oper}{s s':St}(h:W7 C call ops draw b i o s=some s'):s'.1.length=s.1.length:=by
 unfold W7 at h;split at h
 ·split at h
  ·cases h
  ·split at h
   ·simp only[zB]at h;subst h;cases o.dst <;> simp[Xf]
   ·cases h
 ·exact Ztv h
theorem Zof {call:ZF}{ops:Array Oper}{draw:Bool}{b:Nat}:∀ (l:List Oper) (i:Nat) (s s':St),Yt C call ops draw b i l s=some s'->s'.1.length=s.1.length:=by
 intro l
 induction l with
 |nil=>intro i s s' h;simp[Yt]at h;rw[h]
 |cons o l j =>
  intro i s s' h;unfold Yt at h;split at h
  ·rename_i u g;rw[j _ _ _ h,Zrb g]
  ·cases h
theorem Zhc (c:Code)(s:St):(trim kp c s).1.length=s.1.length:=by
 unfold trim
 cases YL c with
 |none=>rfl
 |some r =>
  simp only
  cases kp r with
  |none=>rfl
  |some keep=>simp[TH]
theorem Zvq {call:ZF}{m:Nat}:∀ (c:Code) (s s':St) (e:AExit),Zs C call kp m c s=some (e,s')->s'.1.length=s.1.length:=by
 intro c
 induction c with
 |region id ops draw =>
  intro s s' e h;simp only[Zs]at h;split at h
  ·cases h
  ·split at h
   ·rename_i E g;simp only[zB,zJ]at h;rw[<-h.2,<-ZvB (kp:=kp) id s];exact (Zof _ _ _ _ g :)
   ·cases h
 |seq a b w z =>
  intro s s' e h;simp only[Zs]at h;split at h
  ·rename_i E g;rw[z _ _ _ h,Zhc,w _ _ _ g]
  ·exact w _ _ _ h
 |cond c x y B D =>
  intro s s' e h;simp only[Zs]at h;split at h
  ·split at h
   ·exact B _ _ _ h
   ·exact D _ _ _ h
  ·cases h
 |block id c u =>
  intro s s' e h;simp only[Zs]at h;split at h
  ·rename_i i E g;split at h <;>
   ·simp only[zB,zJ]at h;rw[<-h.2];exact u _ _ _ g
  ·exact u _ _ _ h
 |loop c u =>
  intro s s' e h;simp only[Zs]at h
  have key:∀ (j:Nat) (s:St),W6 (fun s=>Zs C call kp m c (trim kp c s)) j s=some (e,s')->s'.1.length=s.1.length:=by
   intro j
   induction j with
   |zero=>intro s h;simp[W6]at h
   |succ j A =>
    intro s h;unfold W6 at h;split at h
    ·rename_i E g;rw[A _ h,u _ _ _ g,Zhc]
    ·rw[u _ _ _ h,Zhc]
  exact key _ _ h
 |scope c u =>
  intro s s' e h;simp only[Zs]at h;split at h
  ·exact u _ _ _ h
  ·cases h
 |skip=>intro s s' e h;simp[Zs]at h;rw[h.2]
 |exit id=>intro s s' e h;simp[Zs]at h;rw[h.2]
 |label l=>intro s s' e h;simp[Zs]at h;rw[h.2]
 |goto l=>intro s s' e h;simp[Zs]at h;rw[h.2]
 |ret=>intro s s' e h;simp[Zs]at h;rw[h.2]
 |_=>intro s s' e h;simp[Zs]at h
theorem ZsB {c:Code}{s s':St}{e:AExit}(h:Yz C kp c s=some (e,s')):s'.1.length=s.1.length:=by
 obtain⟨m,hm⟩:=ZU.1 h;exact Zvq _ _ _ _ hm
def ZlE (n:Nat)(k:Kt)(h:KL):Prop:=∀ e g H,k e (XZ n g,H)=h e g H
theorem Za4 {c:Code}{k:Kt}{u:KL}(hk:ZlE n k u)(g:AL)(H:Hp):HN C kp c k (XZ n g,H)=Y5 C kp n c u g H:=by
 unfold HN Y5
 cases h:Yz C kp (.loop c) (XZ n g,H) with
 |none=>rfl
 |some p =>
  obtain⟨e,tm,H'⟩:=p;have j:=ZsB h;simp only[Ey]at j;simp only[Z0];rw[<-hk e (AK tm) H',ZtS j]
theorem Zyf (x y:AV):Zbp x y=if Lg x y then some () else none:=by
 cases x with
 |ptr o f=>cases y with
  |ptr g h =>
   show (bif zA o g then none else some ())=if (!zA o g)=true then some () else none;cases zA o g <;> rfl
  |_=>rfl
 |_=>rfl
theorem Zk6 (ev:Operand->AV)(r:Z4):∀ l:List (Nat×Nat),(l.all (fun p=>Lg (ev (.tmp p.1)) (ev (.tmp p.2)))=true->Oc ev r l=r)/\(l.all (fun p=>Lg (ev (.tmp p.1)) (ev (.tmp p.2)))=false->Oc ev r l=none):=by
 intro l
 induction l with
 |nil=>exact⟨fun _=>rfl,fun h=>by cases h⟩
 |cons p l g =>
  simp only[Oc,Zyf,List.all_cons]
  cases j:Lg (ev (.tmp p.1)) (ev (.tmp p.2)) with
  |true=>exact⟨fun h=>g.1 (by simpa using h),fun h=>g.2 (by simpa using h)⟩
  |false=>exact⟨fun h=>by simp at h,fun _=>rfl⟩
theorem Zgg:∀ (c:Code) (k:Kt) (h:KL),ZlE n k h->∀ (g:AL) (H:Hp),CX C (Zb C) (HN C kp) kp c k (XZ n g,H)=Yn C (Zb C) (Y5 C kp n) kp n Zc Z7 c h g H:=by
 intro c
 induction c with
 |region id ops draw =>
  intro k h hk g H;simp only[CX,Yn];by_cases w:(draw&&!(Vf ops&&Ry C ops))=true
  ·rw[if_pos w,if_pos];unfold Fc
   revert w
   cases draw <;> cases Vf ops <;> cases Ry C ops <;> simp
  ·rw[if_neg w];refine ZxJ (kp:=kp) (k:=fun s=>if (draw&&!(Vf ops&&Fc C ops (eval C s.1)))=true then none else Ts C (Zb C) ops draw s.2.length 0 ops.toList (fun s'=>k .normal s') (s.1,QL (if draw then VD C ops ops.size else 0) s.2)) (fun g H=>?_) id g H;have j:=Zy4 (C:=C) (CL:=Zb C) (n:=n) (ops:=ops) (draw:=draw) (fun g H=>hk .normal g H) g H;unfold Zwm
   cases draw with
   |false=>simpa using j
   |true =>
    have u:Vf ops=true/\Ry C ops=true:=by
     revert w
     cases Vf ops <;> cases Ry C ops <;> simp
    show _=Oc (K7 C n g) (Zn6 C (Zb C) n ops true _ g H) (ZaC C ops);unfold Fc Zqn;rw[u.1,u.2]
    have I:((ZaC C ops).all fun p=>Lg (eval C (XZ n g) (.tmp p.1)) (eval C (XZ n g) (.tmp p.2)))=((ZaC C ops).all fun p=>Lg (K7 C n g (.tmp p.1)) (K7 C n g (.tmp p.2))):=by
     congr 1;funext p;show Lg ((XZ n g).getD p.1 (.tuple [])) ((XZ n g).getD p.2 (.tuple []))=_;rw[Cb,Cb];rfl
    rw[I]
    cases F:((ZaC C ops).all fun p=>Lg (K7 C n g (.tmp p.1)) (K7 C n g (.tmp p.2))) with
    |true=>rw[(Zk6 _ _ _).1 F,<-j];rfl
    |false=>rw[(Zk6 _ _ _).2 F];rfl
 |seq a b A B =>
  intro k h hk g H;simp only[CX,Yn];refine A _ _ (fun e g H=>?_) g H
  cases e with
  |normal=>simp only[Zbb,Zc];rw[Nt];exact B k h hk _ _
  |_=>exact hk _ _ _
 |cond c x y D E =>
  intro k h hk g H;simp only[CX,Yn];rw[ZgI,D k h hk,E k h hk]
 |block id c z =>
  intro k h hk g H;simp only[CX,Yn];refine z _ _ (fun e g H=>?_) g H
  cases e with
  |exit i =>
   simp only[ZdB,Z7];split <;> exact hk _ _ _
  |_=>exact hk _ _ _
 |loop c _ =>
  intro k h hk g H;simp only[CX,Yn];rw[Nt];exact Za4 hk _ _
 |scope c z =>
  intro k h hk g H;simp only[CX,Yn];split
  ·exact z k h hk g H
  ·rfl
 |skip=>intro k h hk g H;exact hk _ _ _
 |exit id=>intro k h hk g H;exact hk _ _ _
 |label l=>intro k h hk g H;exact hk _ _ _
 |goto l=>intro k h hk g H;exact hk _ _ _
 |ret=>intro k h hk g H;exact hk _ _ _
 |_=>intro k h hk g H;rfl
def ZS (n:Nat)(g:KL):Prop:=∃ k,ZlE n k g
theorem Zn (id:Nat){g:KL}(h:ZS n g):ZS n (Z7 id g):=by
 obtain⟨k,hk⟩:=h;refine⟨ZdB id k,fun e j H=>?_⟩
 cases e with
 |exit i =>
  simp only[ZdB,Z7];split <;> exact hk _ _ _
 |_=>exact hk _ _ _
theorem Zw (b:Code){j:KL}(h:ZS n j):ZS n (Zc (fun k' g H'=>Yn C (Zb C) (Y5 C kp n) kp n Zc Z7 b k' (Y3 kp b g) H') j):=by
 obtain⟨k,hk⟩:=h;refine⟨Zbb (fun s'=>CX C (Zb C) (HN C kp) kp b k (trim kp b s')) k,fun e u H=>?_⟩
 cases e with
 |normal=>simp only[Zbb,Zc];rw[Nt];exact Zgg b k j hk _ _
 |_=>exact hk _ _ _
theorem AH (c:Code){j:KL}(h:ZS n j):ZS n (Zc (fun k' g H'=>Y5 C kp n c k' (Y3 kp c g) H') j):=by
 obtain⟨k,hk⟩:=h;refine⟨Zbb (fun s'=>HN C kp c k (trim kp c s')) k,fun e u H=>?_⟩
 cases e with
 |normal=>simp only[Zbb,Zc];rw[Nt];exact Za4 hk _ _
 |_=>exact hk _ _ _
theorem Zyj {c:Code}{u:KL}(h:ZS n u)(g:AL)(H:Hp):Y5 C kp n c u g H=Yn C (Zb C) (Y5 C kp n) kp n Zc Z7 c (Zc (fun k' j H'=>Y5 C kp n c k' (Y3 kp c j) H') u) (Y3 kp c g) H:=by
 obtain⟨k,hk⟩:=h;rw[<-Za4 hk,Zyl,Nt];refine Zgg c _ _ (fun e g H=>?_) _ _
 cases e with
 |normal=>simp only[Zbb,Zc];rw[Nt];exact Za4 hk _ _
 |_=>exact hk _ _ _
def ZjO (C:Cfg)(n:Nat)(h:AL)(H:Hp):ResultVar->Option AV
 |.tmp t=>some (ZgS n h t)
 |.cell a t=>match Xr C.P t,Xe C.P t with
  |some g,some sz=>Z3 g sz (ZgS n h a) H
  |_,_=>none
def Zn8 (C:Cfg)(n:Nat)(g:AL)(H:Hp):List ResultVar->List AV->(List AV->Z4)->Z4
 |[],acc,k=>k acc
 |r::rs,acc,k=>Z0 (ZjO C n g H r) fun v=>Zn8 C n g H rs (acc++[v]) k
noncomputable abbrev Zf (C:Cfg)(n:Nat)(f:FuncId)(fn:Func)(H0:Hp):KL:=fun e al H =>
 match e with
 |.normal=>Zn8 C n al H fn.results.toList [] (Zef C f H0 H)
 |.ret=>Zn8 C n al H fn.results.toList [] (Zef C f H0 H)
 |_=>none
theorem Zph (h:AL)(H:Hp)(k:List AV->Z4):∀ (rs:List ResultVar) (g:List AV),Zb8 C rs (XZ n h,H) g k=Zn8 C n h H rs g k:=by
 intro rs
 induction rs with
 |nil=>intro g;rfl
 |cons r rs j =>
  intro g;unfold Zb8 Zn8
  have:WI C (XZ n h,H) r=ZjO C n h H r:=by
   cases r <;> (simp only[WI,ZjO,Cb] <;> rfl)
  rw[this];simp only[j]
theorem Znd (f:FuncId)(fn:Func)(g:Hp):ZlE n (Zz0 C f fn g) (Zf C n f fn g):=by
 intro e h H
 cases e with
 |normal=>exact Zph _ _ _ _ _
 |ret=>exact Zph _ _ _ _ _
 |_=>rfl
theorem Zy (f:FuncId)(fn:Func)(g:Hp):ZS n (Zf C n f fn g):=⟨_,Znd f fn g⟩
def Zac:Nat->List AV->AL
 |_,[]=>[]
 |i,a::r=>(i,a)::Zac (i+1) r
theorem ZnY (args:List AV):XZ n (Zac 0 args)=XZ n (AK args):=by
 have key:∀ (l:List AV) (i t:Nat),look (Zac i l) t=if i<=t then l.getD (t-i) .undef else .undef:=by
  intro l
  induction l with
  |nil=>intro i t;simp[Zac,look]
  |cons a l z =>
   intro i t;simp only[Zac,look,z];by_cases h:i=t
   ·subst h;simp
   ·have u:zA i t=false:=by
     cases y:zA i t with
     |false=>rfl
     |true=>exact absurd (zC y) h
    simp only[u,cond_false];by_cases j:i<=t
    ·have g:i+1<=t:=by omega
     have w:t-i=(t-(i+1))+1:=by omega
     simp[j,g,w]
    ·have g:¬ i+1<=t:=by omega
     simp[j,g]
 unfold XZ;apply List.map_congr_left;intro t _;rw[key];unfold AK;rw[Zb0];by_cases h:t<args.length <;> simp[h]
theorem Zs7 {f:FuncId}{fn:Func}{c:Code}(j:C.P.funcs[f]?=some fn)(h:Tq C f fn=some c)(g:fn.ntmps=n)(args:List AV)(u:Nat.ble args.length n=true)(H:Hp) :
 Zb C f args H=Yn C (Zb C) (Y5 C (C.keep f) n) (C.keep f) n Zc Z7 c (Zf C n f fn H) (Zac 0 args) H:=by
 subst g;rw[ZuS j h,<-Zwn (zG u),<-ZnY];exact Zgg _ _ _ (Znd f fn H) _ _
end
end Go.Am
