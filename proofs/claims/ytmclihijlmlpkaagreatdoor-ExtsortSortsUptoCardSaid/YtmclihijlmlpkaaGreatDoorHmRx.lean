/- THE ABSTRACT MACHINE -/
import Derived.Test.YtmclihijlmlpkaaGreatDoorHmOx
open Option renaming some->T,none->N
open Bool renaming true->S,false->Z
open List renaming length->O
open List renaming getElem?_eq_none->zH,replicate->zI,range->zK
open Nat renaming beq->zA,eq_of_beq_eq_true->zC,blt->zE,le_of_ble_eq_true->zG
open Bool renaming false_eq_true->zD,rec->zF
open Option.some renaming injEq->zB
open Prod.mk renaming injEq->zJ
namespace Go.Am
open RowKit
abbrev AL:=List (Nat×AV)
abbrev KL:=AExit->AL->Hp->Z4
def look:AL->Nat->AV
 |[],_=>.undef
 |(i,v)::r,t=>bif zA i t then v else look r t
def XY (n:Nat)(g:AL):c6:=(zK n).map (look g)
def IQ (tm:c6):AL:=(zK (O tm)).map λi=>(i,tm.getD i .undef)
def ZfD (n:Nat)(g:AL)(t:Nat):AV:=bif zE t n then look g t else .tuple []
def JA (C:Cfg)(n:Nat)(g:AL):Operand->AV
 |.tmp t=>ZfD n g t
 |x=>eval C [] x
def Zc1 {α:Type}(n:Nat)(ops:Array Oper)(h:AL)(o:Oper)(els:α)(x:Option α):Option α :=
 match o.guard with
 |none=>x
 |some (j,want)=>match (match ops[j]? with|some g=>g.dst|none=>N) with
  |none=>T els
  |some d=>bif zE d n then Z7 (look h d) want els x else T els
def iB (h:AL)(g:Option Tmp)(v:AV):AL :=
 match g with
 |some d=>(d,v)::h
 |none=>h
def Ya (kp:Nat->Option da)(c:Code)(g:AL):AL :=
 match YP c with
 |none=>g
 |some r=>match kp r with
  |none=>g
  |some keep=>keep.map λt=>(t,look g t)
def Zxz:Op->Option Operand
 |.move x=>T x
 |.assign x=>T x
 |_=>N
def ZhO (C:Cfg)(CL:ZM)(n:Nat)(ops:Array Oper)(fl:Bool)(o:Oper)(k:AL->Hp->Z4)(g:AL)(H:Hp):Z4 :=
 match (if fl then 0 else XK C o.op) with
 |0=>Z0 (Zc1 n ops g o (.tuple []) (Y9 C (JA C n g) o.op)) λv=>k (iB g o.dst v) H
 |1=>Z0 (Zc1 n ops g o (.tuple []) (Mb C (JA C n g) H o.op)) λv=>k (iB g o.dst v) H
 |_=>Z0 (Zc1 n ops g o (.tuple [],H) (ZL C CL (JA C n g) H o.op)) λr=>k (iB g o.dst r.1) r.2
def Zmv (C:Cfg)(CL:ZM)(n:Nat)(ops:Array Oper)(fl:Bool)(o:Oper)(k:AL->Hp->Z4)(g:AL)(H:Hp):Z4 :=
 match o.guard,Zxz o.op with
 |none,T x=>k (iB g o.dst (JA C n g x)) H
 |_,_=>ZhO C CL n ops fl o k g H
def ZhP (C:Cfg)(CL:ZM)(n:Nat)(ops:Array Oper)(draw:Bool):Nat->List Oper->(AL->Hp->Z4)->AL->Hp->Z4
 |_,[],k,al,H=>k al H
 |i,o::rest,k,al,H=>Zmv C CL n ops (draw&&Xv C ops i) o (ZhP C CL n ops draw (i+1) rest k) al H
noncomputable def Zuv (C:Cfg)(n:Nat)(ops:Array Oper)(b i:Nat)(o:Oper)(k:AL->Hp->Z4)(g:AL)(H:Hp):Z4 :=
 zF (motive:=λ_=>Z4) (Z0 (D2 (b+Vr C ops i) (Lw C (JA C n g) o.op) H) λr=>k (iB g o.dst r.1) r.2) N (Xv C ops i)
noncomputable def Zau (C:Cfg)(CL:ZM)(n:Nat)(ops:Array Oper)(b:Nat):Nat->List Oper->(AL->Hp->Z4)->AL->Hp->Z4
 |_,[],k,al,H=>k al H
 |i,o::rest,k,al,H=>zF (motive:=λ_=>Z4) (Zmv C CL n ops (Xv C ops i) o (Zau C CL n ops b (i+1) rest k) al H) (Zuv C n ops b i o (Zau C CL n ops b (i+1) rest k) al H) (Vq C ops i)
noncomputable def ZA6 (C:Cfg)(ops:Array Oper)(draw:Bool):Bool:=zF (motive:=λ_=>Bool) Z (zF (motive:=λ_=>Bool) S Z (zA (Vr C ops ops.size) 0)) draw
noncomputable def Zo7 (C:Cfg)(CL:ZM)(n:Nat)(ops:Array Oper)(draw:Bool)(k:AL->Hp->Z4)(g:AL)(H:Hp):Z4 :=
 zF (motive:=λ_=>Z4) (ZhP C CL n ops draw 0 ops.toList k g H) (Zau C CL n ops (O H) 0 ops.toList k g (H++zI (Vr C ops ops.size) .free)) (ZA6 C ops draw)
def Zg7 (x y:AV):Option Unit :=
 match x,y with
 |.ptr o _,.ptr o' _=>bif zA o o' then N else T ()
 |_,_=>N
def cH (ev:Operand->AV)(r:Z4):List (Nat×Nat)->Z4
 |[]=>r
 |p::l=>Z0 (Zg7 (ev (.tmp p.1)) (ev (.tmp p.2))) λ_=>cH ev r l
noncomputable def ZxO (C:Cfg)(CL:ZM)(n:Nat)(ops:Array Oper)(draw:Bool)(k:AL->Hp->Z4)(g:AL)(H:Hp):Z4 :=
 zF (motive:=λ_=>Z4) (Zo7 C CL n ops draw k g H) (cH (JA C n g) (Zo7 C CL n ops draw k g H) (fX C ops)) draw
abbrev SQ:=(KL->AL->Hp->Z4)->KL->KL
abbrev BL:=Nat->KL->KL
def Wy (a:AV)(H:Hp)(k:AV->Hp->Z4):Z4:=k (Ng a H).1 (Ng a H).2
def Zx3 (n:Nat)(k:AL->Hp->Z4):da->AL->Hp->Z4
 |[],al,H=>k al H
 |t::ts,al,H=>Wy (ZfD n al t) H λv H'=>Zx3 n k ts ((t,v)::al) H'
def ZrN (n:Nat)(g:Option da)(k:AL->Hp->Z4)(h:AL)(H:Hp):Z4 :=
 match g with
 |none=>k h H
 |some g=>Zx3 n k g h H
noncomputable def Yg (C:Cfg)(CL:ZM)(g:Code->KL->AL->Hp->Z4)(kp:Nat->Option da)(n:Nat)(u:SQ)(j:BL):Code->KL->AL->Hp->Z4
 |.skip,k,al,H=>k .normal al H
 |.region id ops draw,k,al,H=>if draw&&!(V9 ops&&Rq C ops) then N else ZrN n (kp (id+1000000)) (ZxO C CL n ops draw (λh H'=>k .normal h H')) al H
 |.seq a b,k,al,H=>Yg C CL g kp n u j a (u (λk' h H'=>Yg C CL g kp n u j b k' (Ya kp b h) H') k) al H
 |.cond c x y,k,al,H=>Zl (JA C n al c) (Yg C CL g kp n u j x k al H) (Yg C CL g kp n u j y k al H)
 |.block id c,k,al,H=>Yg C CL g kp n u j c (j id k) al H
 |.loop c,k,al,H=>g c k (Ya kp c al) H
 |.scope c,k,al,H=>if XM c then Yg C CL g kp n u j c k al H else N
 |.exit id,k,al,H=>k (.exit id) al H
 |.label _,k,al,H=>k .normal al H
 |.goto l,k,al,H=>k (.goto l) al H
 |.ret,k,al,H=>k .ret al H
 |_,_,_,_=>N
abbrev CXT:=Cfg->ZM->(Code->KL->AL->Hp->Z4)->(Nat->Option da)->Nat->SQ->BL->Code->KL->AL->Hp->Z4
noncomputable def Za (B:KL->AL->Hp->Z4)(k:KL):KL:=(λ(_:CXT) e al H =>
 match e with
 |.normal=>B k al H
 |e=>k e al H) Yg
noncomputable def Z5 (id:Nat)(k:KL):KL:=(λ(_:CXT) e al H =>
 match e with
 |.exit i=>if i=id then k .normal al H else k (.exit i) al H
 |e=>k e al H) Yg
noncomputable def Y0 (C:Cfg)(kp:Nat->Option da)(n:Nat)(c:Code)(k:KL)(g:AL)(H:Hp):Z4 :=
 Z0 (YH C kp (.loop c) (XY n g,H)) λp=>k p.1 (IQ p.2.1) p.2.2
section
variable {C:Cfg}{kp:Nat->Option da}{n:Nat}
theorem Zn2 {a b:Nat}(h:a<b):zE a b=S:=by rw[zE];exact Nat.ble_eq_true_of_le h
theorem Zl1 {a b:Nat}(h:¬ a<b):zE a b=Z:=by
 cases g:zE a b with
 |false=>rfl
 |true=>exact absurd (zG (by rw[zE]at g;exact g)) h
theorem Si (g:AL):(XY n g).length=n:=by simp[XY]
theorem dH (g:AL)(t:Nat):(XY n g)[t]?=if t<n then T (look g t) else N:=by
 unfold XY;rw[List.getElem?_map];split
 ·rename_i h;rw[List.getElem?_range h];rfl
 ·rename_i h;rw[zH (by simp;omega)];rfl
theorem Hq (g:AL)(t:Nat):(XY n g).getD t (.tuple [])=ZfD n g t:=by
 rw[List.getD_eq_getElem?_getD,dH];unfold ZfD;by_cases h:t<n
 ·simp[h,Zn2 h]
 ·simp[h,Zl1 h]
theorem hJ (f:Nat->AV):∀ (l:da) (t:Nat),look (l.map λi=>(i,f i)) t=if t∈l then f t else .undef:=by
 intro l
 induction l with
 |nil=>intro t;rfl
 |cons a l w =>
  intro t;simp only[List.map_cons,look,w];by_cases h:a=t
  ·subst h;simp
  ·have g:zA a t=Z:=by
    cases u:zA a t with
    |false=>rfl
    |true=>exact absurd (zC u) h
   have j:¬ t=a:=λe=>h e.symm;simp[g,j]
theorem Zc6 {g:AL}{tm:c6}(j:O tm=n)(h:∀ i,i<n->tm[i]?=T (look g i)):XY n g=tm:=by
 apply List.ext_getElem?;intro i;rw[dH];split
 ·rename_i hi;rw[h i hi]
 ·rename_i hi;rw[zH cm]
theorem Zvi {tm:c6}(h:O tm=n):XY n (IQ tm)=tm:=by
 apply Zc6 h;intro i hi;unfold IQ;rw[hJ];have:i<O tm:=cm
 simp[this]
theorem ZxP {args:c6}(h:O args<=n):XY n (IQ args)=args++zI (n-O args) .undef:=by
 apply Zc6
 ·simp;omega
 ·intro i hi;unfold IQ;rw[hJ,List.getElem?_append];by_cases g:i<O args
  ·simp[g]
  ·have j:i-O args<n-O args:=cm
   simp[g,j]
theorem ZkI (j:AL)(g:Option Tmp)(v:AV):XY n (iB j g v)=Xh (XY n j) g v:=by
 cases g with
 |none=>rfl
 |some d =>
  apply Zc6
  ·simp[Xh,Si]
  ·intro i hi;simp only[Xh,iB,look];by_cases h:d=i
   ·subst h;simp[Si,hi]
   ·have u:zA d i=Z:=by
     cases w:zA d i with
     |false=>rfl
     |true=>exact absurd (zC w) h
    rw[List.getElem?_set_ne h,dH];simp[hi,u]
theorem Zmf (keep:da):∀ (l:c6) (i j:Nat),(XQ keep i l)[j]?=(l[j]?).map λa=>if keep.contains (i+j) then a else .undef:=by
 intro l
 induction l with
 |nil=>intro i j;simp[XQ]
 |cons a l g =>
  intro i j
  cases j with
  |zero=>simp[XQ]
  |succ j=>simp only[XQ,List.getElem?_cons_succ,g];rw[Nat.add_right_comm,Nat.add_assoc]
theorem Ny (c:Code)(g:AL)(H:Hp):trim kp c (XY n g,H)=(XY n (Ya kp c g),H):=by
 unfold trim Ya
 cases YP c with
 |none=>rfl
 |some r =>
  simp only
  cases kp r with
  |none=>rfl
  |some keep =>
   simp only;refine Prod.ext ?_ rfl;symm;apply Zc6
   ·simp[TR,Si]
   ·intro i hi;rw[Zmf,dH,hJ];simp[hi]
theorem Zfr (g:AL):eval C (XY n g)=JA C n g:=by
 funext x
 cases x with
 |tmp t=>exact Hq g t
 |_=>rfl
theorem Zx7 {α:Type}(ops:Array Oper)(u:AL)(o:Oper)(els:α)(x:Option α):gC ops (XY n u) o els x=Zc1 n ops u o els x:=by
 unfold gC Zc1
 cases o.guard with
 |none=>rfl
 |some p =>
  obtain⟨j,w⟩:=p;simp only
  cases ops[j]? with
  |none=>rfl
  |some g =>
   simp only
   cases g.dst with
   |none=>rfl
   |some d =>
    simp only;rw[dH];by_cases h:d<n
    ·simp[h,Zn2 h]
    ·simp[h,Zl1 h]
theorem ZtQ {CL:ZM}{ops:Array Oper}{fl:Bool}{o:Oper}{k:St->Z4}{h:AL->Hp->Z4}(j:∀ g H,k (XY n g,H)=h g H)(g:AL)(H:Hp) :
 Zkm C CL ops fl o k (XY n g) H=ZhO C CL n ops fl o h g H:=by
 unfold Zkm ZhO;rw[Zfr];simp only[Zx7,<-ZkI,j];rfl
theorem ZuL {op:Op}{x:Operand}(h:Zxz op=T x)(ev:Operand->AV):Y9 C ev op=T (ev x)/\XK C op=0:=by
 cases op <;> simp only[Zxz,zB,reduceCtorEq]at h
 ·subst h;exact⟨rfl,rfl⟩
 ·subst h;exact⟨rfl,rfl⟩
theorem Zng {CL:ZM}{ops:Array Oper}{fl:Bool}{o:Oper}{k:St->Z4}{h:AL->Hp->Z4}(y:∀ g H,k (XY n g,H)=h g H)(g:AL)(H:Hp) :
 Zkm C CL ops fl o k (XY n g) H=Zmv C CL n ops fl o h g H:=by
 rw[ZtQ y];unfold Zmv;split
 ·rename_i x w z;obtain⟨j,u⟩:=ZuL (C:=C) z (JA C n g);unfold ZhO;rw[j,u,ite_self];simp only[Zc1,w,Z0]
 ·rfl
theorem ZtR {CL:ZM}{ops:Array Oper}{b:Nat}{k:St->Z4}{j:AL->Hp->Z4}(u:∀ g H,k (XY n g,H)=j g H):∀ (l:List Oper) (i:Nat) (g:AL) (H:Hp),
 TC C CL ops S b i l k (XY n g,H)=Zau C CL n ops b i l j g H:=by
 intro l
 induction l with
 |nil=>intro i g H;exact u g H
 |cons o l h =>
  intro i g H;unfold TC Zau;simp only[Bool.true_and]
  cases y:Vq C ops i with
  |true =>
   simp only[if_true];unfold Zuv
   cases w:Xv C ops i with
   |true=>rfl
   |false =>
    simp only[zD,if_false];rw[Zfr];congr 1;funext r;rw[<-h (i+1) (iB g o.dst r.1) r.2,ZkI]
  |false =>
   simp only[zD,if_false];exact Zng (λg H=>h (i+1) g H) g H
theorem Zxn {ops:Array Oper}(h:Vr C ops ops.size=0)(i:Nat):Vq C ops i=Z:=by
 cases g:Vq C ops i with
 |false=>rfl
 |true =>
  have hi:i<ops.size:=by
   unfold Vq at g
   cases j:ops[i]? with
   |none=>simp[j]at g
   |some o=>exact (Array.getElem?_eq_some_iff.1 j).1
  have:=Zqc g hi;omega
theorem Zl7 {CL:ZM}{ops:Array Oper}{draw:Bool}{b:Nat}(j:draw=S->Vr C ops ops.size=0){k:St->Z4}{h:AL->Hp->Z4}(u:∀ g H,k (XY n g,H)=h g H):∀ (l:List Oper) (i:Nat) (g:AL) (H:Hp),
 TC C CL ops draw b i l k (XY n g,H)=ZhP C CL n ops draw i l h g H:=by
 intro l
 induction l with
 |nil=>intro i g H;exact u g H
 |cons o l y =>
  intro i g H;unfold TC ZhP
  have w:(draw&&Vq C ops i)=Z:=by
   cases draw with
   |false=>rfl
   |true=>simp[Zxn (j rfl) i]
  simp only[w,zD,if_false];exact Zng (λg H=>y (i+1) g H) g H
theorem Zzm {CL:ZM}{ops:Array Oper}{draw:Bool}{k:St->Z4}{u:AL->Hp->Z4}(j:∀ g H,k (XY n g,H)=u g H)(g:AL)(H:Hp) :
 TC C CL ops draw (O H) 0 ops.toList k (XY n g,Qj (if draw then Vr C ops ops.size else 0) H)=Zo7 C CL n ops draw u g H:=by
 unfold Zo7 ZA6
 cases draw with
 |false=>exact Zl7 (λh=>by cases h) j _ _ _ _
 |true =>
  simp only[if_true]
  cases w:Vr C ops ops.size with
  |zero =>
   simp only[zA,Qj];exact Zl7 (λ_=>w) j _ _ _ _
  |succ m =>
   simp only[zA,Qj];exact ZtR j _ _ _ _
theorem Zz3 {k:St->Z4}{j:AL->Hp->Z4}(u:∀ g H,k (XY n g,H)=j g H):∀ (h:da) (g:AL) (H:Hp),k (Zks h (XY n g,H))=Zx3 n j h g H:=by
 intro h
 induction h with
 |nil=>intro g H;exact u g H
 |cons t h w =>
  intro g H;show k (Zks h (frz1 (XY n g,H) t))=_;unfold frz1;simp only[Hq];have:=ZkI (n:=n) g (T t) (Ng (ZfD n g t) H).1;simp only[Xh,iB]at this;rw[<-this];exact w _ _
theorem Zz2 {k:St->Z4}{j:AL->Hp->Z4}(h:∀ g H,k (XY n g,H)=j g H)(id:Nat)(g:AL)(H:Hp):k (frzs kp id (XY n g,H))=ZrN n (kp (id+1000000)) j g H:=by
 unfold frzs ZrN
 cases kp (id+1000000) with
 |none=>exact h g H
 |some u=>exact Zz3 h u g H
theorem Zx4 (id:Nat)(s:St):(frzs kp id s).1.length=O s.1:=by
 unfold frzs
 cases kp (id+1000000) with
 |none=>rfl
 |some g =>
  simp only[Zks]
  induction g generalizing s with
  |nil=>rfl
  |cons t g h=>rw[List.foldl_cons,h];simp[frz1]
theorem ZuT {call:ZM}{ops:Array Oper}{fl:Bool}{o:Oper}{s s':St}(h:VW C call ops fl o s=T s'):O s'.1=O s.1:=by
 unfold VW at h;split at h
 ·simp only[zB]at h;subst h;cases o.dst <;> simp[Xh]
 ·cases h
theorem Zsp {call:ZM}{ops:Array Oper}{draw:Bool}{b i:Nat}{o:Oper}{s s':St}(h:W5 C call ops draw b i o s=T s'):O s'.1=O s.1:=by
 unfold W5 at h;split at h
 ·split at h
  ·cases h
  ·split at h
   ·simp only[zB]at h;subst h;cases o.dst <;> simp[Xh]
   ·cases h
 ·exact ZuT h
theorem Zph {call:ZM}{ops:Array Oper}{draw:Bool}{b:Nat}:∀ (l:List Oper) (i:Nat) (s s':St),YD C call ops draw b i l s=T s'->O s'.1=O s.1:=by
 intro l
 induction l with
 |nil=>intro i s s' h;simp[YD]at h;rw[h]
 |cons o l j =>
  intro i s s' h;unfold YD at h;split at h
  ·rename_i u g;rw[j _ _ _ h,Zsp g]
  ·cases h
theorem Zg6 (c:Code)(s:St):(trim kp c s).1.length=O s.1:=by
 unfold trim
 cases YP c with
 |none=>rfl
 |some r =>
  simp only
  cases kp r with
  |none=>rfl
  |some keep=>simp[TR]
theorem ZwT {call:ZM}{m:Nat}:∀ (c:Code) (s s':St) (e:AExit),ZA C call kp m c s=T (e,s')->O s'.1=O s.1:=by
 intro c
 induction c with
 |region id ops draw =>
  intro s s' e h;simp only[ZA]at h;split at h
  ·cases h
  ·split at h
   ·rename_i E g;simp only[zB,zJ]at h;rw[<-h.2,<-Zx4 (kp:=kp) id s];exact (Zph _ _ _ _ g :)
   ·cases h
 |seq a b w z =>
  intro s s' e h;simp only[ZA]at h;split at h
  ·rename_i E g;rw[z _ _ _ h,Zg6,w _ _ _ g]
  ·exact w _ _ _ h
 |cond c x y B D =>
  intro s s' e h;simp only[ZA]at h;split at h
  ·split at h
   ·exact B _ _ _ h
   ·exact D _ _ _ h
  ·cases h
 |block id c u =>
  intro s s' e h;simp only[ZA]at h;split at h
  ·rename_i i E g;split at h <;>
   ·simp only[zB,zJ]at h;rw[<-h.2];exact u _ _ _ g
  ·exact u _ _ _ h
 |loop c u =>
  intro s s' e h;simp only[ZA]at h
  have key:∀ (j:Nat) (s:St),W4 (λs=>ZA C call kp m c (trim kp c s)) j s=T (e,s')->O s'.1=O s.1:=by
   intro j
   induction j with
   |zero=>intro s h;simp[W4]at h
   |succ j A =>
    intro s h;unfold W4 at h;split at h
    ·rename_i E g;rw[A _ h,u _ _ _ g,Zg6]
    ·rw[u _ _ _ h,Zg6]
  exact key _ _ h
 |scope c u =>
  intro s s' e h;simp only[ZA]at h;split at h
  ·exact u _ _ _ h
  ·cases h
 |skip=>intro s s' e h;simp[ZA]at h;rw[h.2]
 |exit id=>intro s s' e h;simp[ZA]at h;rw[h.2]
 |label l=>intro s s' e h;simp[ZA]at h;rw[h.2]
 |goto l=>intro s s' e h;simp[ZA]at h;rw[h.2]
 |ret=>intro s s' e h;simp[ZA]at h;rw[h.2]
 |_=>intro s s' e h;simp[ZA]at h
theorem Zu3 {c:Code}{s s':St}{e:AExit}(h:YH C kp c s=T (e,s')):O s'.1=O s.1:=by
 obtain⟨m,g⟩:=Yb.1 h;exact ZwT _ _ _ _ g
def ZmM (n:Nat)(k:Kt)(h:KL):Prop:=∀ e g H,k e (XY n g,H)=h e g H
theorem eK {c:Code}{k:Kt}{u:KL}(w:ZmM n k u)(g:AL)(H:Hp):Az C kp c k (XY n g,H)=Y0 C kp n c u g H:=by
 unfold Az Y0
 cases h:YH C kp (.loop c) (XY n g,H) with
 |none=>rfl
 |some p =>
  obtain⟨e,tm,H'⟩:=p;have j:=Zu3 h;simp only[Si]at j;simp only[Z0];rw[<-w e (IQ tm) H',Zvi j]
theorem ZzA (x y:AV):Zg7 x y=if LS x y then T () else N:=by
 cases x with
 |ptr o f=>cases y with
  |ptr g h =>
   show (bif zA o g then N else T ())=if (!zA o g)=S then T () else N;cases zA o g <;> rfl
  |_=>rfl
 |_=>rfl
theorem Zl3 (ev:Operand->AV)(r:Z4):∀ l:List (Nat×Nat),(l.all (λp=>LS (ev (.tmp p.1)) (ev (.tmp p.2)))=S->cH ev r l=r)/\(l.all (λp=>LS (ev (.tmp p.1)) (ev (.tmp p.2)))=Z->cH ev r l=N):=by
 intro l
 induction l with
 |nil=>exact⟨λ_=>rfl,λh=>by cases h⟩
 |cons p l g =>
  simp only[cH,ZzA,List.all_cons]
  cases j:LS (ev (.tmp p.1)) (ev (.tmp p.2)) with
  |true=>exact⟨λh=>g.1 (by simpa using h),λh=>g.2 (by simpa using h)⟩
  |false=>exact⟨λh=>by simp at h,λ_=>rfl⟩
theorem Zep:∀ (c:Code) (k:Kt) (j:KL),ZmM n k j->∀ (g:AL) (H:Hp),CX C (Zb C) (Az C kp) kp c k (XY n g,H)=Yg C (Zb C) (Y0 C kp n) kp n Za Z5 c j g H:=by
 intro c
 induction c with
 |region id ops draw =>
  intro k j h g H;simp only[CX,Yg];by_cases z:(draw&&!(V9 ops&&Rq C ops))=S
  ·rw[if_pos z,if_pos];unfold DQ
   revert z
   cases draw <;> cases V9 ops <;> cases Rq C ops <;> simp
  ·rw[if_neg z];refine Zz2 (kp:=kp) (k:=λs=>if (draw&&!(V9 ops&&DQ C ops (eval C s.1)))=S then N else TC C (Zb C) ops draw (O s.2) 0 ops.toList (λs'=>k .normal s') (s.1,Qj (if draw then Vr C ops ops.size else 0) s.2)) (λg H=>?_) id g H;have u:=Zzm (C:=C) (CL:=Zb C) (n:=n) (ops:=ops) (draw:=draw) (λg H=>h .normal g H) g H;unfold ZxO
   cases draw with
   |false=>simpa using u
   |true =>
    have w:V9 ops=S/\Rq C ops=S:=by
     revert z
     cases V9 ops <;> cases Rq C ops <;> simp
    show _=cH (JA C n g) (Zo7 C (Zb C) n ops S _ g H) (fX C ops);unfold DQ Zry;rw[w.1,w.2]
    have M:((fX C ops).all λp=>LS (eval C (XY n g) (.tmp p.1)) (eval C (XY n g) (.tmp p.2)))=((fX C ops).all λp=>LS (JA C n g (.tmp p.1)) (JA C n g (.tmp p.2))):=by
     congr 1;funext p;show LS ((XY n g).getD p.1 (.tuple [])) ((XY n g).getD p.2 (.tuple []))=_;rw[Hq,Hq];rfl
    rw[M]
    cases L:((fX C ops).all λp=>LS (JA C n g (.tmp p.1)) (JA C n g (.tmp p.2))) with
    |true=>rw[(Zl3 _ _ _).1 L,<-u];rfl
    |false=>rw[(Zl3 _ _ _).2 L];rfl
 |seq a b B D =>
  intro k j h g H;simp only[CX,Yg];refine B _ _ (λe g H=>?_) g H
  cases e with
  |normal=>simp only[iE,Za];rw[Ny];exact D k j h _ _
  |_=>exact h _ _ _
 |cond c x y E F =>
  intro k j h g H;simp only[CX,Yg];rw[Zfr,E k j h,F k j h]
 |block id c A =>
  intro k j h g H;simp only[CX,Yg];refine A _ _ (λe g H=>?_) g H
  cases e with
  |exit i =>
   simp only[Zam,Z5];split <;> exact h _ _ _
  |_=>exact h _ _ _
 |loop c _ =>
  intro k j h g H;simp only[CX,Yg];rw[Ny];exact eK h _ _
 |scope c A =>
  intro k j h g H;simp only[CX,Yg];split
  ·exact A k j h g H
  ·rfl
 |skip=>intro k j h g H;exact h _ _ _
 |exit id=>intro k j h g H;exact h _ _ _
 |label l=>intro k j h g H;exact h _ _ _
 |goto l=>intro k j h g H;exact h _ _ _
 |ret=>intro k j h g H;exact h _ _ _
 |_=>intro k j h g H;rfl
def ZH (n:Nat)(g:KL):Prop:=∃ k,ZmM n k g
theorem Zg (id:Nat){j:KL}(h:ZH n j):ZH n (Z5 id j):=by
 obtain⟨k,g⟩:=h;refine⟨Zam id k,λe u H=>?_⟩
 cases e with
 |exit i =>
  simp only[Zam,Z5];split <;> exact g _ _ _
 |_=>exact g _ _ _
theorem Zq (b:Code){j:KL}(h:ZH n j):ZH n (Za (λk' g H'=>Yg C (Zb C) (Y0 C kp n) kp n Za Z5 b k' (Ya kp b g) H') j):=by
 obtain⟨k,u⟩:=h;refine⟨iE (λs'=>CX C (Zb C) (Az C kp) kp b k (trim kp b s')) k,λe w H=>?_⟩
 cases e with
 |normal=>simp only[iE,Za];rw[Ny];exact Zep b k j u _ _
 |_=>exact u _ _ _
theorem Qn (c:Code){u:KL}(h:ZH n u):ZH n (Za (λk' g H'=>Y0 C kp n c k' (Ya kp c g) H') u):=by
 obtain⟨k,j⟩:=h;refine⟨iE (λs'=>Az C kp c k (trim kp c s')) k,λe w H=>?_⟩
 cases e with
 |normal=>simp only[iE,Za];rw[Ny];exact eK j _ _
 |_=>exact j _ _ _
theorem ZzE {c:Code}{w:KL}(h:ZH n w)(g:AL)(H:Hp):Y0 C kp n c w g H=Yg C (Zb C) (Y0 C kp n) kp n Za Z5 c (Za (λk' j H'=>Y0 C kp n c k' (Ya kp c j) H') w) (Ya kp c g) H:=by
 obtain⟨k,u⟩:=h;rw[<-eK u,ZzF,Ny];refine Zep c _ _ (λe g H=>?_) _ _
 cases e with
 |normal=>simp only[iE,Za];rw[Ny];exact eK u _ _
 |_=>exact u _ _ _
def ZkJ (C:Cfg)(n:Nat)(h:AL)(H:Hp):ResultVar->Option AV
 |.tmp t=>T (ZfD n h t)
 |.cell a t=>match Xx C.P t,Xr C.P t with
  |some g,T sz=>Z2 g sz (ZfD n h a) H
  |_,_=>N
def Zo8 (C:Cfg)(n:Nat)(g:AL)(H:Hp):List ResultVar->c6->(c6->Z4)->Z4
 |[],acc,k=>k acc
 |r::rs,acc,k=>Z0 (ZkJ C n g H r) λv=>Zo8 C n g H rs (acc++[v]) k
noncomputable abbrev Zf (C:Cfg)(n:Nat)(f:FuncId)(fn:Func)(H0:Hp):KL:=λe al H =>
 match e with
 |.normal=>Zo8 C n al H fn.results.toList [] (Zbl C f H0 H)
 |.ret=>Zo8 C n al H fn.results.toList [] (Zbl C f H0 H)
 |_=>N
theorem Zqj (h:AL)(H:Hp)(k:c6->Z4):∀ (rs:List ResultVar) (g:c6),iD C rs (XY n h,H) g k=Zo8 C n h H rs g k:=by
 intro rs
 induction rs with
 |nil=>intro g;rfl
 |cons r rs j =>
  intro g;unfold iD Zo8
  have:WH C (XY n h,H) r=ZkJ C n h H r:=by
   cases r <;> (simp only[WH,ZkJ,Hq] <;> rfl)
  rw[this];simp only[j]
theorem Zod (f:FuncId)(fn:Func)(H0:Hp):ZmM n (ZAh C f fn H0) (Zf C n f fn H0):=by
 intro e g H
 cases e with
 |normal=>exact Zqj _ _ _ _ _
 |ret=>exact Zqj _ _ _ _ _
 |_=>rfl
theorem Zv (f:FuncId)(fn:Func)(H0:Hp):ZH n (Zf C n f fn H0):=⟨_,Zod f fn H0⟩
def eV:Nat->c6->AL
 |_,[]=>[]
 |i,a::r=>(i,a)::eV (i+1) r
theorem Zp2 (args:c6):XY n (eV 0 args)=XY n (IQ args):=by
 have key:∀ (l:c6) (i t:Nat),look (eV i l) t=if i<=t then l.getD (t-i) .undef else .undef:=by
  intro l
  induction l with
  |nil=>intro i t;simp[eV,look]
  |cons a l z =>
   intro i t;simp only[eV,look,z];by_cases h:i=t
   ·subst h;simp
   ·have u:zA i t=Z:=by
     cases y:zA i t with
     |false=>rfl
     |true=>exact absurd (zC y) h
    simp only[u,cond_false];by_cases j:i<=t
    ·have g:i+1<=t:=cm
     have w:t-i=(t-(i+1))+1:=cm
     simp[j,g,w]
    ·have g:¬ i+1<=t:=cm
     simp[j,g]
 unfold XY;apply List.map_congr_left;intro t _;rw[key];unfold IQ;rw[hJ];by_cases h:t<O args <;> simp[h]
theorem ZtB {f:FuncId}{fn:Func}{c:Code}(j:C.P.funcs[f]?=T fn)(h:Tz C f fn=T c)(g:fn.ntmps=n)(args:c6)(u:Nat.ble (O args) n=S)(H:Hp) :
 Zb C f args H=Yg C (Zb C) (Y0 C (C.keep f) n) (C.keep f) n Za Z5 c (Zf C n f fn H) (eV 0 args) H:=by
 subst g;rw[Zwq j h,<-ZxP (zG u),<-Zp2];exact Zep _ _ _ (Zod f fn H) _ _
end
end Go.Am
