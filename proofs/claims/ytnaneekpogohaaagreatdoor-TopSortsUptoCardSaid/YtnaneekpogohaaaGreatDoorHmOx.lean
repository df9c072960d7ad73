/- THE ABSTRACT MACHINE -/
import Derived.Test.YtnaneekpogohaaaGreatDoorHmMx
import Derived.Defers
open List renaming replicate->zE,mapM_cons->zM
open Nat renaming le_max_right->zF,le_max_left->zG,ne_of_beq_eq_false->zL
open Bool renaming false_eq_true->zB,and_eq_true->zD,not_eq_true'->zH,false_and->zN
open Option renaming ext->zI
open Array renaming replicate->zJ,getD_eq_getD_getElem?->zK
open Option.some renaming injEq->zA
open Prod.mk renaming injEq->zC
namespace Go.Am
open RowKit
section
variable {C:Cfg}{W0:World}
theorem ZgB {P:Program}{t:TypeId}{u:Value}{g:Addr}{v:Value}{w:World}(j:u=.pointer (some g))(h:(loadVar t g).run P w=.ok v w):(do loadVar t (<-asAddr u):Sem Value).run P w=.ok v w:=by
 subst j;simp[asAddr,h]
def Znd (tmps:Array Value):ResultVar->Sem Value
 |.tmp t=>pure (tmps.getD t undef)
 |.cell a t=>do loadVar t (<-asAddr (tmps.getD a undef))
theorem Zrz (fn:Func)(tmps:Array Value):results fn tmps=(do let vs <-fn.results.mapM (Znd tmps);pure (if h:vs.size=1 then vs[0] else .tuple vs)):=by
 unfold results;congr 1
theorem Zn1 {S:Snap}{H:Hp}{tm:List AV}{tmps:Array Value}(u:Inv W0 S H)(j:FRel S tm tmps){r:ResultVar}{v:AV}(h:Wv C (tm,H) r=some v) :
 ∃ v',(Znd tmps r).run C.P S.w=.ok v' S.w/\VRel S v v':=by
 cases r with
 |tmp t =>
  simp only[Wv,zA]at h;subst h;exact⟨_,rfl,j.getD t⟩
 |cell a t =>
  simp only[Wv]at h;split at h
  ·rename_i g sz y A;obtain⟨v',E,B,z,D⟩:=Zfr (P:=C.P) u y A (j.getD a) h;exact⟨v',ZgB B z,D⟩
  ·cases h
theorem ZwP {S:Snap}{H:Hp}{tm:List AV}{tmps:Array Value}(J:Inv W0 S H)(I:FRel S tm tmps):∀ (l:List ResultVar) (r:List AV),l.mapM (Wv C (tm,H))=some r ->
 ∃ vs:List Value,(l.mapM (Znd tmps)).run C.P S.w=.ok vs S.w/\vs.length=r.length /\
  ∀ (i:Nat) (a:AV) (v:Value),r[i]?=some a->vs[i]?=some v->VRel S a v:=by
 intro l
 induction l with
 |nil=>intro r h;simp at h;subst h;exact⟨[],rfl,rfl,by simp⟩
 |cons x l K =>
  intro r h;rw[zM]at h
  cases g:Wv C (tm,H) x with
  |none=>simp[g]at h
  |some a =>
   cases u:l.mapM (Wv C (tm,H)) with
   |none=>simp[g,u]at h
   |some z =>
    simp[g,u]at h;subst h;obtain⟨v,A,B⟩:=Zn1 J I g;obtain⟨vs,D,E,F⟩:=K z u;refine⟨v::vs,?_,by simp[E],fun i a v j y=>?_⟩
    ·rw[zM];simp only[Sem.run_bind,A,D,Result.andThen_ok,Sem.run_pure]
    ·cases i with
     |zero=>simp at j y;subst j y;exact B
     |succ i=>exact F i a v (by simpa using j) (by simpa using y)
theorem Zn2 {S:Snap}{H:Hp}{tm:List AV}{tmps:Array Value}(E:Inv W0 S H)(D:FRel S tm tmps){fn:Func}{v:AV}(h:VB C fn (tm,H)=some v):∃ v',(results fn tmps).run C.P S.w=.ok v' S.w/\VRel S v v':=by
 unfold VB at h
 have g:∀ l,fn.results.toList.mapM (Wv C (tm,H))=some l->∃ vs:List Value,(results fn tmps).run C.P S.w=.ok (if h:vs.toArray.size=1 then vs.toArray[0] else .tuple vs.toArray) S.w/\vs.length=l.length /\
  ∀ (i:Nat) (a:AV) (v:Value),l[i]?=some a->vs[i]?=some v->VRel S a v:=by
  intro l A;obtain⟨vs,j,y,z⟩:=ZwP E D _ l A;refine⟨vs,?_,y,z⟩;rw[Zrz,Sem.run_bind,Array.mapM_eq_mapM_toList,Sem.run_map,j];rfl
 split at h
 ·rename_i L A;injection h with h;subst h;obtain⟨vs,j,y,z⟩:=g _ A
  match vs,y with
  |[u],_=>exact⟨u,by simpa using j,z 0 L u rfl rfl⟩
 ·rename_i l B A;injection h with h;subst h;obtain⟨vs,j,y,z⟩:=g _ A
  have J:vs.toArray.size≠1:=by
   intro I;have:l.length=1:=by simp at I;omega
   match l,this with
   |[a],_=>exact B a rfl
  rw[dif_neg J]at j;exact⟨_,j,.tuple _ _ (by simp[y]) fun i a v F K=>z i a v F (by simpa using K)⟩
 ·cases h
theorem ZmC {S:Snap}{args:List AV}{args':Array Value}(w:args'.size=args.length)(h:∀ (i:Nat) (a:AV) (u:Value),args[i]?=some a->args'[i]?=some u->VRel S a u)(n:Nat) :
 FRel S (args++zE (n-args.length) .undef) (args'++zJ (n-args'.size) undef):=by
 refine⟨by simp[w],fun i a v g j=>?_⟩;rcases Nat.lt_or_ge i args.length with hi|hi
 ·rw[List.getElem?_append_left hi]at g;rw[Array.getElem?_append_left (by omega)]at j;exact h i a v g j
 ·rw[List.getElem?_append_right hi]at g;rw[Array.getElem?_append_right (by omega)]at j;rw[List.getElem?_replicate]at g;rw[Array.getElem?_replicate]at j;split at g
  ·injection g with g;split at j
   ·injection j with j;subst g j;exact .undef _
   ·cases j
  ·cases g
theorem H9 {f:FuncId}{fn:Func}{S z:Snap}{H H':Hp}{s:St}{tmps:Array Value}{v:AV}(J:Inv W0 S H)(D:Ext S z)(y:Inv W0 z s.2)(F:FRel z s.1 tmps)
 (g:(match VB C fn s with|some v=>Ku C f H (v,s.2)|none=>none)=some (v,H')) :
 ∃ u,(results fn tmps).run C.P z.w=.ok u z.w/\∃ E,E.w=z.w/\Ext S E/\Inv W0 E H'/\VRel E v u:=by
 split at g
 ·rename_i L I;obtain⟨v',B,K⟩:=Zn2 (tm:=s.1) y F I;refine⟨v',B,?_⟩;unfold Ku at g;split at g
  ·unfold NC at g;split at g
   ·rename_i j
    cases A:Zb s.2 H.length 9 L with
    |none=>simp[A]at g
    |some M =>
     simp only[A,zA,zC]at g;obtain⟨rfl,rfl⟩:=g;exact⟨z.back H,rfl,Ext.back J D,Inv.back J y j,Ez y j 9 _ _ _ A K⟩
   ·cases g
  ·simp only[zA,zC]at g;obtain⟨rfl,rfl⟩:=g;exact⟨z,rfl,D,y,K⟩
 ·cases g
def D0 (N:Nat)(a:Act):Prop:=a.defers=[]/\N<=a.tmps.size
theorem D0.put {N:Nat}(a:Act)(g:Option Tmp)(v:Value)(h:D0 N a):D0 N (a.put g v):=by
 cases g with
 |none=>exact h
 |some d=>exact⟨h.1,by show N<=(a.tmps.setIfInBounds d v).size;rw[Array.size_setIfInBounds];exact h.2⟩
theorem ZkE {S:Snap}{H:Hp}{args:List AV}{args':Array Value}(j:Inv W0 S H)(g:GlobOk C S)(z:args'.size=args.length)(y:∀ (i:Nat) (a:AV) (u:Value),args[i]?=some a->args'[i]?=some u->VRel S a u)(n:Nat) :
 Rel C W0 S (D0 n) (args++zE (n-args.length) .undef,H) { tmps:=args'++zJ (n-args'.size) undef,defers:=[] } S.w :=
 ⟨S,rfl,Ext.refl S,j,g,ZmC z y n,rfl,by simp;omega⟩
theorem ZoT (Q:VM C){cl:Zw}(y:XC C W0 cl)(O:Xt cl){n:Nat}{f:FuncId}{fn:Func}{c:Code}{args:List AV}{H H':Hp}{v:AV}
 (h:body C cl n f fn c args H=some (v,H')) {S:Snap} {args':Array Value} (M:Inv W0 S H) (R:GlobOk C S) (W:args'.size=args.length) (U:∀ (i:Nat) (a:AV) (u:Value),args[i]?=some a->args'[i]?=some u->VRel S a u) :
 c.wp C.P (bodyPost C.P fn fun e w'=>∃ v' j,e=.returned v'/\j.w=w'/\Ext S j/\Inv W0 j H'/\VRel j v v') { tmps:=args'++zJ (fn.ntmps-args'.size) undef,defers:=[] } S.w:=by
 unfold body at h;have D:=ZkE M R W U fn.ntmps
 cases g:Zp C cl (C.keep f) n c (args++zE (fn.ntmps-args.length) .undef,H) with
 |none=>simp[g]at h
 |some p =>
  obtain⟨e,s⟩:=p;refine wp_mono (Zeo Q y O c _ s e _ _ (Za9 D0.put c) g D) fun Y a w V=>?_;obtain⟨rfl,X,rfl,E,A,T,z,B⟩:=V
  cases e with
  |normal =>
   simp only[g]at h;obtain⟨u,F,j,I,J,K,L⟩:=H9 M E A z h;exact⟨B.1,u,F,u,j,rfl,I,J,K,L⟩
  |ret =>
   simp only[g]at h;obtain⟨u,F,j,I,J,K,L⟩:=H9 M E A z h;exact⟨B.1,u,F,u,j,rfl,I,J,K,L⟩
  |_=>simp[g]at h
theorem Zq0 (z:VM C){cl:Zw}(g:XC C W0 cl)(y:Xt cl){n:Nat}{f:FuncId}{fn:Func}{c:Code}(F:C.P.funcs[f]?=some fn)(E:fn.body=some c){args:List AV}{H H':Hp}{v:AV}
 (h:body C cl n f fn c args H=some (v,H')) {S:Snap} {args':Array Value} (B:Inv W0 S H) (A:GlobOk C S) (I:args'.size=args.length) (D:∀ (i:Nat) (a:AV) (u:Value),args[i]?=some a->args'[i]?=some u->VRel S a u) :
 Calls C.P f args' S.w fun e w'=>∃ v' j,e=.returned v'/\j.w=w'/\Ext S j/\Inv W0 j H'/\VRel j v v' :=
 calls_of_wp F E (ZoT z g y h B A I D)
def Oh (C:Cfg)(call:Zw):Prop :=
 ∀ {W0:World} (f:FuncId) (args:List AV) (H H':Hp) (v:AV),C.dfr f=false->call f args H=some (v,H')->∀ (S:Snap) (args':Array Value),Inv W0 S H->GlobOk C S->args'.size=args.length ->
  (∀ (i:Nat) (a:AV) (u:Value),args[i]?=some a->args'[i]?=some u->VRel S a u)->∀ j:FrameMode,
  CallsD C.P f args' j S.w fun e u w'=>u=j/\∃ v' g,e=.returned v'/\g.w=w'/\Ext S g/\Inv W0 g H'/\VRel g v v'
theorem ZfF (K:Nat):∀ c:Code,Yp (X6 K c)=Yp c:=by
 intro c
 induction c with
 |seq a b j u=>simp only[X6,Yp,j,u]
 |block id c g=>exact g
 |loop c g=>exact g
 |scope c g=>exact g
 |_=>rfl
theorem Zn4 (K:Nat):∀ c:Code,Xf (X6 K c)=Xf c:=by
 intro c
 induction c with
 |seq a b j u=>simp only[X6,Xf,j,u]
 |cond c x y w z=>simp only[X6,Xf,w,z]
 |block id c g=>exact g
 |loop c g=>exact g
 |scope c g=>exact g
 |_=>rfl
theorem ZiJ {kp:Nat->Option (List Nat)}{c c':Code}(h:Yp c=Yp c')(s:St):trim kp c s=trim kp c' s:=by unfold trim;rw[h]
def Tf (K:Nat)(r:Option (AExit×St)):Option (AExit×St) :=
 match r with
 |some (.ret,s')=>some (.exit K,s')
 |r=>r
theorem ZhM {cl:Zw}{kp:Nat->Option (List Nat)}{n K:Nat}:∀ c:Code,Kz K c=true->∀ s,Zp C cl kp n (X6 K c) s=Tf K (Zp C cl kp n c s):=by
 intro c
 induction c with
 |skip=>intro _ s;rfl
 |region id ops draw =>
  intro _ s;simp only[X6,Zp];split
  ·rfl
  ·split <;> rfl
 |seq a b w z =>
  intro g s;simp only[Kz,zD]at g;simp only[X6,Zp];rw[w g.1 s]
  cases Zp C cl kp n a s with
  |none=>rfl
  |some p =>
   obtain⟨e,u⟩:=p
   cases e with
   |normal =>
    show Zp C cl kp n (X6 K b) (trim kp (X6 K b) u)=_;rw[ZiJ (ZfF K b)];exact z g.2 _
   |_=>rfl
 |cond c x y B D =>
  intro g s;simp only[Kz,zD]at g;simp only[X6,Zp];split
  ·split
   ·exact B g.1 s
   ·exact D g.2 s
  ·rfl
 |block id c j =>
  intro g s;simp only[Kz,zD,zH]at g;simp only[X6,Zp];rw[j g.2 s]
  cases Zp C cl kp n c s with
  |none=>rfl
  |some p =>
   obtain⟨e,u⟩:=p
   cases e with
   |ret =>
    simp only[Tf];rw[if_neg (fun h=>zL g.1 h.symm)]
   |exit i =>
    simp only[Tf];split <;> rfl
   |_=>rfl
 |loop c j =>
  intro g s;simp only[Kz]at g;simp only[X6,Zp]
  have key:∀ (m:Nat) (s:St),XT (fun s=>Zp C cl kp n (X6 K c) (trim kp (X6 K c) s)) m s=Tf K (XT (fun s=>Zp C cl kp n c (trim kp c s)) m s):=by
   intro m
   induction m with
   |zero=>intro s;rfl
   |succ m A =>
    intro s;simp only[XT];rw[ZiJ (ZfF K c),j g]
    cases Zp C cl kp n c (trim kp c s) with
    |none=>rfl
    |some p =>
     obtain⟨e,u⟩:=p
     cases e with
     |normal=>exact A u
     |_=>rfl
  exact key n s
 |rangeFunc f p x y _ _=>intro _ s;rfl
 |exit id=>intro _ s;rfl
 |scope c j =>
  intro g s;simp only[Kz]at g;simp only[X6,Zp];rw[Zn4];split
  ·exact j g s
  ·rfl
 |label l=>intro _ s;rfl
 |goto l=>intro _ s;rfl
 |ret=>intro _ s;rfl
 |refuse m=>intro _ s;rfl
theorem Zo9 {cl:Zw}{kp:Nat->Option (List Nat)}{n K:Nat}:∀ c:Code,Kz K c=true->∀ s s',Zp C cl kp n c s=some (.exit K,s')->False:=by
 intro c
 induction c with
 |skip=>intro _ s s' h;simp[Zp]at h
 |region id ops draw =>
  intro _ s s' h;simp only[Zp]at h;split at h
  ·cases h
  ·split at h
   ·simp at h
   ·cases h
 |seq a b w z =>
  intro g s s' h;simp only[Kz,zD]at g;simp only[Zp]at h
  cases j:Zp C cl kp n a s with
  |none=>simp[j]at h
  |some p =>
   obtain⟨e,E⟩:=p
   cases e with
   |normal=>simp only[j]at h;exact z g.2 _ _ h
   |exit i =>
    simp only[j,zA,zC,AExit.exit.injEq]at h;obtain⟨rfl,rfl⟩:=h;exact w g.1 _ _ j
   |_=>simp[j]at h
 |cond c x y B D =>
  intro g s s' h;simp only[Kz,zD]at g;simp only[Zp]at h;split at h
  ·split at h
   ·exact B g.1 _ _ h
   ·exact D g.2 _ _ h
  ·cases h
 |block id c u =>
  intro g s s' h;simp only[Kz,zD,zH]at g;simp only[Zp]at h
  cases j:Zp C cl kp n c s with
  |none=>simp[j]at h
  |some p =>
   obtain⟨e,E⟩:=p
   cases e with
   |exit i =>
    simp only[j]at h;split at h
    ·simp at h
    ·simp only[zA,zC,AExit.exit.injEq]at h;obtain⟨rfl,rfl⟩:=h;exact u g.2 _ _ j
   |_=>simp[j]at h
 |loop c u =>
  intro g s s' h;simp only[Kz]at g;simp only[Zp]at h
  have key:∀ (m:Nat) (s:St),XT (fun s=>Zp C cl kp n c (trim kp c s)) m s=some (.exit K,s')->False:=by
   intro m
   induction m with
   |zero=>intro s h;simp[XT]at h
   |succ m A =>
    intro s h;simp only[XT]at h
    cases j:Zp C cl kp n c (trim kp c s) with
    |none=>simp[j]at h
    |some p =>
     obtain⟨e,E⟩:=p
     cases e with
     |normal=>simp only[j]at h;exact A E h
     |exit i =>
      simp only[j,zA,zC,AExit.exit.injEq]at h;obtain⟨rfl,rfl⟩:=h;exact u g _ _ j
     |_=>simp[j]at h
  exact key n s h
 |rangeFunc f p x y _ _=>intro _ s s' h;simp[Zp]at h
 |exit id =>
  intro g s s' h;simp only[Kz,zH]at g;simp only[Zp,zA,zC,AExit.exit.injEq]at h;exact zL g h.1
 |scope c u =>
  intro g s s' h;simp only[Kz]at g;simp only[Zp]at h;split at h
  ·exact u g _ _ h
  ·cases h
 |label l=>intro _ s s' h;simp[Zp]at h
 |goto l=>intro _ s s' h;simp[Zp]at h
 |ret=>intro _ s s' h;simp[Zp]at h
 |refuse m=>intro _ s s' h;simp[Zp]at h
theorem Zl1 {cl:Zw}{kp:Nat->Option (List Nat)}{n K:Nat}{c:Code}(j:Kz K c=true){s s':St}(h:Zp C cl kp n (.block K (X6 K c)) s=some (.normal,s')) :
 Zp C cl kp n c s=some (.normal,s')\/Zp C cl kp n c s=some (.ret,s'):=by
 simp only[Zp]at h;rw[ZhM c j]at h
 cases g:Zp C cl kp n c s with
 |none=>rw[g]at h;simp[Tf]at h
 |some p =>
  obtain⟨e,u⟩:=p;rw[g]at h
  cases e with
  |normal=>simp only[Tf,zA,zC,true_and]at h;subst h;exact .inl rfl
  |ret=>simp only[Tf,if_true,zA,zC,true_and]at h;subst h;exact .inr rfl
  |exit i =>
   simp only[Tf]at h;split at h
   ·rename_i hi;subst hi;exact (Zo9 c j _ _ g).elim
   ·simp at h
  |goto l=>simp[Tf]at h
theorem Zb7 {g:FuncId}(h:IZ C g=true):C.user g=true/\C.flat g=false/\C.ro g=false/\C.ext g=none/\C.sum g=none/\C.eff g=none/\C.dfr g=false:=by
 unfold IZ at h;simp only[zD,zH,Option.isNone_iff_eq_none]at h;exact h
theorem Zm5 {N:Nat}{ops:Array Oper}{u B:Oper}{x:Nat}(h:ZhG C N ops=some (u,B,x)) :
 ∃ (o:Oper) (c:Call) (g:FuncId) (z w:Array Operand),ops.toList=[u,o]/\u.op=.makeFunc (.func g) z w/\u.dst=some x/\u.guard=none/\o.op=.defer c/\o.dst=none/\o.guard=none /\
  B={ o with op:=.call c }/\c.callee=.value (.tmp x)/\c.args=#[]/\x<N/\IZ C g=true:=by
 unfold ZhG at h;split at h
 ·rename_i O M L;split at h
  ·rename_i g z w x1 D E F;split at h
   ·rename_i c H I J;split at h
    ·rename_i y K;split at h
     ·rename_i j;simp only[zA,zC]at h;obtain⟨rfl,rfl,rfl⟩:=h;simp only[zD]at j;have A:=Nat.eq_of_beq_eq_true j.1;refine⟨M,c,g,z,w,L,D,E,F,H,I,J,rfl,by rw[K,A],?_,?_,j.2.2.2⟩
      ·have:=j.2.2.1;rw[Array.isEmpty_iff]at this;exact this
      ·have:=j.2.1;rw[Nat.blt]at this;exact Nat.le_of_ble_eq_true this
     ·cases h
    ·cases h
   ·cases h
  ·cases h
 ·cases h
def D1 (d:Deferred)(x:Nat)(u:Value)(a:Act):Prop:=a.defers=[d]/\a.eval (.tmp x)=u
theorem D1.put {d:Deferred}{x:Nat}{u:Value}{a:Act}{g:Option Tmp}(v:Value)(w:g≠some x)(h:D1 d x u a):D1 d x u (a.put g v):=by
 cases g with
 |none=>exact h
 |some t =>
  refine⟨h.1,?_⟩;have j:t≠x:=fun e=>w (by rw[e]);have:=h.2;show (a.tmps.setIfInBounds t v).getD x undef=u;rw[<-this];show (a.tmps.setIfInBounds t v).getD x undef=a.tmps.getD x undef;rw[zK,zK,Array.getElem?_setIfInBounds_ne j]
theorem D1.keeps {d:Deferred}{x:Nat}{u:Value}:∀ c:Code,F6 x c=true->Dc (D1 d x u) c:=by
 intro c
 induction c with
 |region id ops draw =>
  intro h i o A a v y;refine y.put v fun z=>?_;have h:Ji ops x=true:=h;unfold Ji at h;rw[List.all_eq_true]at h;have:=h o (by rw[Array.mem_toList_iff];exact Array.mem_of_getElem? A);rw[z]at this;simp at this
 |seq a b g j=>intro h;simp only[F6,zD]at h;exact⟨g h.1,j h.2⟩
 |cond c a b g j=>intro h;simp only[F6,zD]at h;exact⟨g h.1,j h.2⟩
 |block id c w=>intro h;exact w h
 |loop c w=>intro h;exact w h
 |scope c w=>intro h;exact w h
 |_=>intro _;trivial
def QD (C:Cfg)(W0:World)(S0:Snap)(s':St)(e:Exit)(a:Act)(w:World):Prop :=
 (e=.normal\/e=.ret)/\(Rel C W0 S0 (fun a=>a.defers=[]) s' a w \/
  ∃ fv cap j g y,a.defers=[{ target:=.fn fv cap,args:=j }]/\(invoke (.fn fv cap) j).run C.P w=.ok (.enter g y) w /\
   CallsD C.P g y .returning w fun e u w'=>u=.returning/\(∃ v,e=.returned v)/\Rel C W0 S0 (fun _=>True) s' a w')
theorem ZnF {cl:Zw}{g:FuncId}{u j:List AV}{H:Hp}(E:IZ C g=true):Yd C cl (.fn (.func g) u j) [] H=cl g (u++[]++j) H:=by
 obtain⟨w,y,z,A,B,D,F⟩:=Zb7 E;simp[Yd,X4,w,y,z,A,B,D]
section
variable {cl:Zw}{S0:Snap}{kp:Nat->Option (List Nat)}{n N:Nat}
theorem Zg8 {a b:Code}{s:St}:Zp C cl kp n (.seq a b) s=match Zp C cl kp n a s with
 |some (.normal,s')=>Zp C cl kp n b (trim kp b s')
 |r=>r:=rfl
theorem Zmf {K:Nat}{c:Code}(j:Kz K c=true){s s':St}(h:Zp C cl kp n (.block K (X6 K c)) s=some (.ret,s')):False:=by
 simp only[Zp]at h;rw[ZhM c j]at h
 cases g:Zp C cl kp n c s with
 |none=>rw[g]at h;simp[Tf]at h
 |some p =>
  obtain⟨e,u⟩:=p;rw[g]at h
  cases e with
  |normal=>simp[Tf]at h
  |ret=>simp[Tf]at h
  |exit i =>
   simp only[Tf]at h;split at h <;> simp at h
  |goto l=>simp[Tf]at h
theorem Zmg {id:Nat}{o:Oper}{s s':St}{e:AExit}(j:o.guard=none)(h:Zp C cl kp n (.region id #[o] false) s=some (e,s')) :
 e=.normal/\∃ v H',X9 C cl (eval C (frzs kp id s).1) (frzs kp id s).2 false o.op=some (v,H')/\s'=(Xa (frzs kp id s).1 o.dst v,H'):=by
 simp only[Zp,zN,zB,if_false]at h;have u:Q6 0 (frzs kp id s).2=(frzs kp id s).2:=by simp[Q6]
 rw[u]at h;simp only[Yt,XU,zN,zB,if_false,VL,Yu,Wz,j]at h
 cases g:X9 C cl (eval C (frzs kp id s).1) (frzs kp id s).2 false o.op with
 |none=>rw[g]at h;simp at h
 |some p =>
  obtain⟨v,H'⟩:=p;rw[g]at h;simp only[zA,zC]at h;exact⟨h.1.symm,v,H',rfl,h.2.symm⟩
theorem Zoy {ops:Array Oper}{o:Oper}{s:St}{v:AV}{H':Hp}(g:o.guard=none)(h:X9 C cl (eval C s.1) s.2 false o.op=some (v,H')):VL C cl ops false o s=some (Xa s.1 o.dst v,H'):=by
 simp only[VL,Yu,Wz,g,h]
theorem Znu (hC:VM C)(B:XC C W0 cl)(J:Oh C cl)(ar:Xt cl){id:Nat}{ops:Array Oper}{b:Code}{z o2:Oper}{x:Nat}(ao:ZhG C N ops=some (z,o2,x))
 (hb:(F6 x b&&Kz 900001 b)=true) {s s':St} {e:AExit} {a:Act} {w:World}
 (h:Zp C cl kp n (.seq (.region id #[z] false) (.seq (.block 900001 (X6 900001 b)) (.seq (.region 900002 #[o2] false) .ret))) s=some (e,s')) (L:e=.normal\/e=.ret)
 (hr:Rel C W0 S0 (D0 N) s a w):(Code.seq (.region id ops false) b).wp C.P (QD C W0 S0 s') a w:=by
 obtain⟨o,c,g,X,W,hl,h1,h2,h3,h4,h5,h6,rfl,h7,h8,h9,aa⟩:=Zm5 ao
 have af:ops=#[z,o]:=by
  have:ops=ops.toList.toArray:=by simp
  rw[this,hl]
 subst af;rw[zD]at hb;rw[Zg8]at h
 cases T:Zp C cl kp n (.region id #[z] false) s with
 |none=>rw[T]at h;cases h
 |some p =>
 obtain⟨e1,s1⟩:=p;obtain⟨rfl,v1,H1,A,rfl⟩:=Zmg h3 T;rw[T]at h;dsimp only at h
 have ba:v1=.fn (.func g) (X.toList.map (eval C (frzs kp id s).1)) (W.toList.map (eval C (frzs kp id s).1))/\H1=(frzs kp id s).2:=by
  rw[h1]at A;simp only[X9,ZK,zA,zC]at A;exact⟨A.1.symm,A.2.symm⟩
 refine wp_seq (wp_region ?_);show wpOps C.P #[z,o] _ [0,1] a w;rw[wpOps_cons];refine ZmU (S0:=S0) (D:=D0 N) hC B (fun a v ha=>D0.put a _ v ha) (ops:=#[z,o]) (i:=0) (o:=z) rfl (Zoy h3 A) (hr.frzs (kp:=kp) (id:=id)) fun E w1 ag=>?_;rw[wpOps_cons];unfold wpOp;show (if Region.wanted o (yielded #[z,o] E.tmps) then _ else _);rw[if_pos (by unfold Region.wanted;simp[h6])];refine .inl ?_;obtain⟨rfl,rfl⟩:=ba;obtain⟨V,rfl,bb,aj,ai,M,am,bd⟩:=ag
 have ae:x<(frzs kp id s).1.length:=by
  have:=M.1;simp only[h2,Xa,List.length_set]at this;omega
 have hv:=M.getD x
 have ad:(Xa (frzs kp id s).1 z.dst (.fn (.func g) (X.toList.map (eval C (frzs kp id s).1)) (W.toList.map (eval C (frzs kp id s).1)))).getD x (.tuple [])=.fn (.func g) (X.toList.map (eval C (frzs kp id s).1)) (W.toList.map (eval C (frzs kp id s).1)):=by
  rw[h2];simp only[Xa];rw[List.getD_eq_getElem?_getD,List.getElem?_set_self ae];rfl
 rw[ad]at hv;have Q:E.eval (.tmp x)=E.tmps.getD x undef:=rfl;generalize hu:E.tmps.getD x undef=u at hv Q;cases hv with|fn _ _ _ F K hF hK ag hr2 =>
 have ah:(execOp E.eval o).run C.P V.w=.ok (.defer { target:=.fn (.func g) K,args:=F++#[] }) V.w:=by
  simp[execOp,h4,resolve,h7,h8,Q,Deferred.ofValue]
 show o.wp C.P E V.w _ _;unfold Oper.wp;rw[ah,Oper.upon_defer,h5]
 have ax:Rel C W0 S0 (D1 { target:=.fn (.func g) K,args:=F++#[] } x (.func (.func g) F K)) (Xa (frzs kp id s).1 z.dst (.fn (.func g) (X.toList.map (eval C (frzs kp id s).1)) (W.toList.map (eval C (frzs kp id s).1))),(frzs kp id s).2)
  {E with defers:={ target:=.fn (.func g) K,args:=F++#[] }::E.defers } V.w:=⟨V,rfl,bb,aj,ai,M,by rw[am],Q⟩
 show b.wp C.P (QD C W0 S0 s') { E with defers:={ target:=.fn (.func g) K,args:=F++#[] }::E.defers } V.w;rw[Zg8]at h
 cases hy:Zp C cl kp n (.block 900001 (X6 900001 b)) (trim kp (.seq (.block 900001 (X6 900001 b)) (.seq (.region 900002 #[{ o with op:=.call c }] false) .ret)) (Xa (frzs kp id s).1 z.dst (.fn (.func g) (X.toList.map (eval C (frzs kp id s).1)) (W.toList.map (eval C (frzs kp id s).1))),(frzs kp id s).2)) with
 |none=>rw[hy]at h;cases h
 |some p =>
 obtain⟨e2,s2⟩:=p;rw[hy]at h
 have U:e2=.normal/\∃ Z,(Z=.normal\/Z=.ret)/\Zp C cl kp n b (trim kp (.seq (.block 900001 (X6 900001 b)) (.seq (.region 900002 #[{ o with op:=.call c }] false) .ret)) (Xa (frzs kp id s).1 z.dst (.fn (.func g) (X.toList.map (eval C (frzs kp id s).1)) (W.toList.map (eval C (frzs kp id s).1))),(frzs kp id s).2))=some (Z,s2):=by
  cases e2 with
  |normal =>
   rcases Zl1 hb.2 hy with h|h
   ·exact⟨rfl,_,.inl rfl,h⟩
   ·exact⟨rfl,_,.inr rfl,h⟩
  |ret=>exact (Zmf hb.2 hy).elim
  |exit i =>
   simp only[zA,zC]at h;obtain⟨rfl,_⟩:=h;rcases L with L|L <;> cases L
  |goto l =>
   simp only[zA,zC]at h;obtain⟨rfl,_⟩:=h;rcases L with L|L <;> cases L
 obtain⟨rfl,Z,ap,U⟩:=U;dsimp only at h;refine wp_mono (Zeo hC B ar b _ s2 Z _ _ (D1.keeps b hb.1) U ax.trim) fun e' a3 w3 hp=>?_;obtain⟨rfl,au⟩:=hp;rw[Zg8]at h
 cases hz:Zp C cl kp n (.region 900002 #[{ o with op:=.call c }] false) (trim kp (.seq (.region 900002 #[{ o with op:=.call c }] false) .ret) s2) with
 |none=>rw[hz]at h;cases h
 |some p =>
 obtain⟨e4,s4⟩:=p;obtain⟨rfl,v,H',j,rfl⟩:=Zmg (o:={ o with op:=.call c }) h6 hz;rw[hz]at h;dsimp only at h
 have ay:s'=(Xa (frzs kp 900002 (trim kp (.seq (.region 900002 #[{ o with op:=.call c }] false) .ret) s2)).1 none v,H'):=by
  simp only[Zp,zA,zC,h5]at h;exact h.2.symm
 subst ay;have aw:=(au.trim (kp:=kp) (c:=.seq (.region 900002 #[{ o with op:=.call c }] false) .ret)).frzs (kp:=kp) (id:=900002);obtain⟨Y,rfl,bc,ac,ab,O,an,az⟩:=aw;generalize frzs kp 900002 (trim kp (.seq (.region 900002 #[{ o with op:=.call c }] false) .ret) s2)=s5 at j ac O;obtain⟨callee,args,argTypes⟩:=c;dsimp only at h7 h8;subst h7 h8
 have y:Yd C cl (eval C s5.1 (.tmp x)) [] s5.2=some (v,H'):=by
  simp only[X9,ZK,ZC,zB,if_false]at j;split at j
  ·unfold Xu qC at j;split at j
   ·rename_i aq;split at j
    ·rw[aq];exact j
    ·cases j
   ·cases j
  ·exact j
 have R:VRel Y (eval C s5.1 (.tmp x)) (a3.eval (.tmp x)):=O.getD x;rw[az]at R;generalize eval C s5.1 (.tmp x)=av at y R
 have ak:∃ I H,av=.fn (.func g) I H/\F.size=I.length/\K.size=H.length/\(∀ (i:Nat) (a:AV) (u:Value),I[i]?=some a->F[i]?=some u->VRel Y a u)/\(∀ (i:Nat) (a:AV) (u:Value),H[i]?=some a->K[i]?=some u->VRel Y a u):=by
  unfold Yd at y;split at y
  ·cases R with|fn _ _ _ _ _ q1 q2 q3 q4=>exact⟨_,_,rfl,q1,q2,q3,q4⟩
  ·cases y
 obtain⟨I,H,rfl,q1,q2,q3,q4⟩:=ak;rw[ZnF aa]at y;obtain⟨p1,p2,p3,p4,p5,p6,p7⟩:=Zb7 aa;have al:=J g _ _ _ _ p7 y Y (F++#[]++K) ac ab (by simp[q1,q2]) (Zej (S:=Y) (by simp[q1]) (Zej q1 q3 (fun i a u ha _=>by simp at ha)) q4) .returning;refine⟨?_,.inr ⟨.func g,K,F++#[],g,F++#[]++K,an,?_,al.mono ?_⟩⟩
 ·rcases ap with rfl|rfl
  ·exact .inl rfl
  ·exact .inr rfl
 ·simp only[invoke];exact hC.2.1 g p1 _ _
 ·rintro e u w' ⟨rfl,v',S',rfl,hw,T,hI,hv⟩
  exact⟨rfl,⟨v',rfl⟩,S',hw,bc.trans T,hI,ab.mono T,O.mono T,trivial⟩
theorem ZrQ (M:VM C)(g:XC C W0 cl)(z:Oh C cl)(A:Xt cl):∀ (c:Code) (s s':St) (e:AExit) (a:Act) (w:World),
 Zp C cl kp n (GN C N c) s=some (e,s')->(e=.normal\/e=.ret)->Rel C W0 S0 (D0 N) s a w->c.wp C.P (QD C W0 S0 s') a w:=by
 intro c
 have u:∀ (c:Code) (s s':St) (e:AExit) (a:Act) (w:World),Zp C cl kp n c s=some (e,s')->(e=.normal\/e=.ret)->Rel C W0 S0 (D0 N) s a w->c.wp C.P (QD C W0 S0 s') a w:=by
  intro c s s' e a w h j B;refine wp_mono (Zeo M g A c s s' e a w (Za9 D0.put c) h B) fun U a' w' Q=>?_;obtain⟨rfl,S,F,H,I,J,K,L⟩:=Q;refine⟨?_,.inl ⟨S,F,H,I,J,K,L.1⟩⟩;rcases j with rfl|rfl
  ·exact .inl rfl
  ·exact .inr rfl
 induction c with
 |seq x b W R =>
  intro s s' e a w h j B
  have Vn:Zp C cl kp n (.seq x (GN C N b)) s=some (e,s')->(Code.seq x b).wp C.P (QD C W0 S0 s') a w:=by
   intro h;simp only[Zp]at h
   cases D:Zp C cl kp n x s with
   |none=>simp[D]at h
   |some p =>
    obtain⟨T,X⟩:=p;refine wp_seq (wp_mono (Zeo M g A x s X T a w (Za9 D0.put x) D B) fun U a' w' Q=>?_);obtain⟨rfl,E⟩:=Q
    cases T with
    |normal =>
     simp only[D]at h;exact R _ s' e a' w' h j E.trim
    |ret =>
     simp only[D,zA,zC]at h;obtain⟨_,rfl⟩:=h;obtain⟨S,F,H,I,J,K,L⟩:=E;exact⟨.inr rfl,.inl ⟨S,F,H,I,J,K,L.1⟩⟩
    |exit i =>
     simp only[D,zA,zC]at h;obtain⟨rfl,_⟩:=h;rcases j with j|j <;> cases j
    |goto l =>
     simp only[D,zA,zC]at h;obtain⟨rfl,_⟩:=h;rcases j with j|j <;> cases j
  simp only[GN]at h;split at h
  ·rename_i id ops;split at h
   ·rename_i Y Z y O;split at h
    ·rename_i V;exact Znu M g z A O V h j B
    ·exact u _ s s' e a w h j B
   ·exact Vn h
  ·exact Vn h
 |_=>intro s s' e a w h j B;exact u _ s s' e a w h j B
end
theorem ZnT (hC:VM C){cl:Zw}(E:XC C W0 cl)(z:Oh C cl)(Z:Xt cl){n:Nat}{f:FuncId}{fn:Func}{c:Code}(hf:C.P.funcs[f]?=some fn)(hb:fn.body=some c){args:List AV}{H H':Hp}{v:AV}
 (h:body C cl n f fn (GN C fn.ntmps c) args H=some (v,H')) {S:Snap} {args':Array Value} (W:Inv W0 S H) (hG:GlobOk C S) (hs:args'.size=args.length) (ha:∀ (i:Nat) (a:AV) (u:Value),args[i]?=some a->args'[i]?=some u->VRel S a u) :
 Calls C.P f args' S.w fun e w'=>∃ v' j,e=.returned v'/\j.w=w'/\Ext S j/\Inv W0 j H'/\VRel j v v':=by
 unfold body at h;refine calls_of_wp_defers hf hb ?_;have L:=ZkE W hG hs ha fn.ntmps
 have J:∀ (s:St) (e:AExit),Zp C cl (C.keep f) n (GN C fn.ntmps c) (args++zE (fn.ntmps-args.length) .undef,H)=some (e,s)->(e=.normal\/e=.ret) ->
  (match VB C fn s with|some v=>Ku C f H (v,s.2)|none=>none)=some (v,H') ->
  c.wp C.P (bodyPostD C.P fn fun e w'=>∃ v' j,e=.returned v'/\j.w=w'/\Ext S j/\Inv W0 j H'/\VRel j v v') { tmps:=args'++zJ (fn.ntmps-args'.size) undef,defers:=[] } S.w:=by
  intro s e y he hr;refine wp_mono (ZrQ hC E z Z c _ s e _ _ y he L) fun e' a w hq=>?_;obtain⟨Y,hq⟩:=hq
  have A:Leaves C.P fn a.tmps (fun e w'=>∃ v' j,e=.returned v'/\j.w=w'/\Ext S j/\Inv W0 j H'/\VRel j v v') a.defers .returning w:=by
   rcases hq with ⟨S1,rfl,I,D,V,B,F⟩|⟨fv,cap,M,g,as,hd,K,X⟩
   ·obtain⟨u,O,j,Q,R,T,U⟩:=H9 W I D B hr;have F:a.defers=[]:=F;rw[F];exact⟨u,O,u,j,rfl,Q,R,T,U⟩
   ·rw[hd];refine leaves_cons (by simp) K (X.mono ?_)
    rintro e u w' ⟨rfl,⟨v',rfl⟩,S1,rfl,I,D,V,B,_⟩
    obtain⟨u,O,j,Q,R,T,U⟩:=H9 W I D B hr;exact⟨u,O,u,j,rfl,Q,R,T,U⟩
  rcases Y with rfl|rfl
  ·exact A
  ·exact A
 cases y:Zp C cl (C.keep f) n (GN C fn.ntmps c) (args++zE (fn.ntmps-args.length) .undef,H) with
 |none=>simp[y]at h
 |some p =>
  obtain⟨e,s⟩:=p
  cases e with
  |normal =>
   simp only[y]at h;exact J s _ y (.inl rfl) h
  |ret =>
   simp only[y]at h;exact J s _ y (.inr rfl) h
  |_=>simp[y]at h
theorem ZnW (w:VM C):∀ n,XC C W0 (call C n)/\Oh C (call C n):=by
 intro n
 induction n with
 |zero=>exact⟨fun {W1} f args H H' v h=>by simp[call]at h,fun {W1} f args H H' v _ h=>by simp[call]at h⟩
 |succ n y =>
  have key:∀ {W1:World},XC C W1 (call C n):=fun {W1}=>y.1;refine⟨fun {W1} f args H H' v h S args' hI hG hs ha=>?_,fun {W1} f args H H' v j h S args' hI hG hs ha u0=>?_⟩
  ·simp only[call]at h;split at h
   ·cases h
   ·rename_i fn u;unfold Di at h
    cases j:C.dfr f with
    |false =>
     rw[j]at h;dsimp only at h;split at h
     ·cases h
     ·rename_i c g;exact Zq0 w (key (W1:=W1)) (N1 C n) u g h hI hG hs ha
    |true =>
     rw[j]at h;dsimp only at h
     cases g:fn.body with
     |none=>rw[g]at h;cases h
     |some c =>
      rw[g]at h;exact ZnT w (key (W1:=W1)) y.2 (N1 C n) u g h hI hG hs ha
  ·simp only[call]at h;split at h
   ·cases h
   ·rename_i fn u;unfold Di at h;rw[j]at h;dsimp only at h;split at h
    ·cases h
    ·rename_i c g;exact callsD_of_wp u g (ZoT w (key (W1:=W1)) (N1 C n) h hI hG hs ha)
theorem Zq8 (g:VM C):∀ n,XC C W0 (call C n):=fun n=>(ZnW (W0:=W0) g n).1
end
end Go.Am
namespace Go.Am
open RowKit
section
variable {C:Cfg}
def Le (c c':Zw):Prop:=∀ f a H r,c f a H=some r->c' f a H=some r
theorem ZhW {a:List AV->Hp->Option (AV×Hp)}{args:List AV}{H:Hp}{r:AV×Hp}(h:Ze a args H=some r) :
 ∃ args' q,a args' []=some q/\∀ b:List AV->Hp->Option (AV×Hp),b args' []=some q->Ze b args H=some r:=by
 unfold Ze at h;split at h
 ·rename_i g w;split at h
  ·rename_i y H1 u;exact⟨g,_,u,fun b j=>by unfold Ze;simp only[w,j];exact h⟩
  ·cases h
 ·cases h
theorem Zn9 {a:List AV->Hp->Option (AV×Hp)}{args:List AV}{H:Hp}{r:AV×Hp}(h:QW a args H=some r) :
 ∃ q,a args H=some q/\∀ b:List AV->Hp->Option (AV×Hp),b args H=some q->QW b args H=some r:=by
 unfold QW at h;split at h
 ·rename_i u H1 j;exact⟨_,j,fun b g=>by unfold QW;simp only[g];exact h⟩
 ·cases h
theorem ZnD {c c':Zw}(h:Le c c'){id:FuncId}{args:List AV}{H:Hp}{r:AV×Hp}(j:X4 C c id args H=some r):X4 C c' id args H=some r:=by
 unfold X4 at j ⊢
 cases A:C.ext id with
 |some e=>simpa[A]using j
 |none =>
  cases w:C.sum id with
  |some g=>simpa[A,w]using j
  |none =>
  cases y:C.eff id with
  |some g=>simpa[A,w,y]using j
  |none =>
  simp only[A,w,y]at j ⊢;by_cases B:C.user id=true
  ·by_cases u:C.flat id=true
   ·simp only[B,u,if_true]at j ⊢;obtain⟨args',q,D,E⟩:=ZhW j;exact E _ (h _ _ _ _ D)
   ·by_cases z:C.ro id=true
    ·simp only[B,u,z,zB,if_false,if_true]at j ⊢;obtain⟨q,D,E⟩:=Zn9 j;exact E _ (h _ _ _ _ D)
    ·simp only[B,u,z,zB,if_false,if_true]at j ⊢;exact h _ _ _ _ j
  ·simp[B]at j
theorem Oy {c c':Zw}(h:Le c c'){f:AV}{args:List AV}{H:Hp}{r:AV×Hp}(g:Yd C c f args H=some r):Yd C c' f args H=some r:=by
 unfold Yd at g ⊢;split at g
 ·exact ZnD h g
 ·cases g
theorem ZnE {c c':Zw}(h:Le c c'){f:AV}{args:List AV}{H:Hp}{r:AV×Hp}(g:Xu C c f args H=some r):Xu C c' f args H=some r:=by
 unfold Xu qC at g ⊢;split at g
 ·split at g
  ·rename_i j;rw[if_pos j];exact Oy h g
  ·cases g
 ·cases g
theorem Zhq {c c':Zw}(h:Le c c'){ev:Operand->AV}{H:Hp}{op:Op}{r:AV×Hp}(g:ZC C c ev H op=some r):ZC C c' ev H op=some r:=by
 cases op <;> try exact g
 case makeMap t r=>cases r <;> exact g
 case call cl =>
  obtain⟨callee,args,u⟩:=cl
  cases callee with
  |value f =>
   simp only[ZC]at g ⊢;split at g
   ·rename_i j;rw[if_pos j];exact ZnE h g
   ·rename_i j;rw[if_neg j];exact Oy h g
  |invoke r m =>
   simp only[ZC]at g ⊢;unfold Zly at g ⊢;split at g
   ·split at g
    ·exact Oy h g
    ·cases g
   ·cases g
  |builtin b=>cases b <;> exact g
theorem Zvm {c c':Zw}(h:Le c c'){ev:Operand->AV}{H:Hp}{fl:Bool}{op:Op}{r:AV×Hp}(g:X9 C c ev H fl op=some r):X9 C c' ev H fl op=some r:=by
 unfold X9 at g ⊢;split at g
 ·exact g
 ·split at g
  ·cases g
  ·rename_i j;rw[if_neg j];exact Zhq h g
theorem Zrl {c c':Zw}(h:Le c c'){ops:Array Oper}{fl:Bool}{o:Oper}{s r:St}(g:VL C c ops fl o s=some r):VL C c' ops fl o s=some r:=by
 unfold VL Yu at g ⊢
 cases hw:Wz ops s.1 o with
 |none=>simp[hw]at g
 |some b =>
  cases b with
  |false=>simp only[hw]at g ⊢;exact g
  |true =>
   simp only[hw]at g ⊢
   cases j:X9 C c (eval C s.1) s.2 fl o.op with
   |none=>simp[j]at g
   |some q=>rw[Zvm h j];rw[j]at g;exact g
theorem Ziv {c c':Zw}(h:Le c c'){ops:Array Oper}{draw:Bool}{b i:Nat}{o:Oper}{s r:St}(g:XU C c ops draw b i o s=some r):XU C c' ops draw b i o s=some r:=by
 unfold XU at g ⊢;by_cases j:(draw&&lag C ops i)=true
 ·rw[if_pos j]at g ⊢;exact g
 ·rw[if_neg j]at g ⊢;exact Zrl h g
theorem EK {c c':Zw}(h:Le c c'){ops:Array Oper}{draw:Bool}{b:Nat}:∀ (l:List Oper) (i:Nat) (s r:St),Yt C c ops draw b i l s=some r->Yt C c' ops draw b i l s=some r:=by
 intro l
 induction l with
 |nil=>intro i s r g;exact g
 |cons o l u =>
  intro i s r g;unfold Yt at g ⊢;split at g
  ·rename_i s' j;rw[Ziv h j];exact u _ _ _ g
  ·cases g
theorem Zak {f g:St->Option (AExit×St)}(h:∀ s r,f s=some r->g s=some r):∀ (n m:Nat) (s:St) (r:AExit×St),n<=m->XT f n s=some r->XT g m s=some r:=by
 intro n
 induction n with
 |zero=>intro m s r _ j;cases j
 |succ n w =>
  intro m s r y j;obtain⟨m,rfl⟩:∃ k,m=k+1:=⟨m-1,by omega⟩;unfold XT at j ⊢
  cases u:f s with
  |none=>simp[u]at j
  |some p =>
   rw[h s p u];obtain⟨e,s'⟩:=p
   cases e with
   |normal=>simp only[u]at j ⊢;exact w m s' r (by omega) j
   |_=>simpa[u]using j
theorem KZ {c c':Zw}(h:Le c c'){kp:Nat->Option (List Nat)}{n m:Nat}(B:n<=m):∀ (A:Code) (s:St) (r:AExit×St),Zp C c kp n A s=some r->Zp C c' kp m A s=some r:=by
 intro A
 induction A with
 |region id ops draw =>
  intro s r g;simp only[Zp]at g ⊢;split at g
  ·cases g
  ·rename_i D;rw[if_neg D];split at g
   ·rename_i s' F;rw[EK h _ _ _ _ F];exact g
   ·cases g
 |seq x y u w =>
  intro s r g;simp only[Zp]at g ⊢
  cases j:Zp C c kp n x s with
  |none=>simp[j]at g
  |some p =>
   rw[u s p j];obtain⟨e,s'⟩:=p
   cases e with
   |normal=>simp only[j]at g ⊢;exact w _ _ g
   |_=>simpa[j]using g
 |cond o x y u w =>
  intro s r g;simp only[Zp]at g ⊢;split at g
  ·rename_i t H
   cases t with
   |true=>exact u _ _ (by simpa using g)
   |false=>exact w _ _ (by simpa using g)
  ·cases g
 |block id x z =>
  intro s r g;simp only[Zp]at g ⊢
  cases j:Zp C c kp n x s with
  |none=>simp[j]at g
  |some p=>rw[z s p j];rw[j]at g;exact g
 |loop x z =>
  intro s r g;simp only[Zp]at g ⊢;exact Zak (fun s r=>z (trim kp x s) r) n m s r B g
 |scope x z =>
  intro s r g;simp only[Zp]at g ⊢;split at g
  ·rename_i E;rw[if_pos E];exact z s r g
  ·cases g
 |_=>intro s r g;exact g
theorem Zsz {c c':Zw}(h:Le c c'){n m:Nat}(u:n<=m){f:FuncId}{fn:Func}{j:Code}{args:List AV}{H:Hp}{r:AV×Hp}(g:body C c n f fn j args H=some r):body C c' m f fn j args H=some r:=by
 unfold body at g ⊢
 cases w:Zp C c (C.keep f) n j (args++zE (fn.ntmps-args.length) .undef,H) with
 |none=>simp[w]at g
 |some p=>rw[KZ h u _ _ _ w];rw[w]at g;exact g
theorem UW:∀ (n m:Nat),n<=m->Le (call C n) (call C m):=by
 intro n
 induction n with
 |zero=>intro m _ f a H r g;cases g
 |succ n j =>
  intro m z f a H r g;obtain⟨m,rfl⟩:∃ k,m=k+1:=⟨m-1,by omega⟩;simp only[call]at g ⊢;split at g
  ·cases g
  ·rename_i fn y;split at g
   ·cases g
   ·rename_i u w;exact Zsz (j m (by omega)) (by omega) g
open Classical in
noncomputable def lim {α:Type}(f:Nat->Option α):Option α:=if h:∃ n r,f n=some r then some h.choose_spec.choose else none
theorem ZmL {α:Type}{f:Nat->Option α}(u:∀ n m r,n<=m->f n=some r->f m=some r){r:α}:lim f=some r↔∃ n,f n=some r:=by
 unfold lim;constructor
 ·intro h;split at h
  ·rename_i g;injection h with h;exact⟨g.choose,h ▸ g.choose_spec.choose_spec⟩
  ·cases h
 ·rintro⟨n,hn⟩
  have g:∃ n r,f n=some r:=⟨n,r,hn⟩;rw[dif_pos g];have w:=u _ (max g.choose n) _ (zG _ _) g.choose_spec.choose_spec;have j:=u _ (max g.choose n) _ (zF _ _) hn;rw[w]at j;exact j
noncomputable def Z9 (C:Cfg):Zw:=fun f a H=>lim fun n=>call C n f a H
theorem UX {f:FuncId}{a:List AV}{H:Hp}{r:AV×Hp}:Z9 C f a H=some r↔∃ n,call C n f a H=some r:=ZmL fun n m r h g=>UW n m h f a H r g
noncomputable def Yy (C:Cfg)(kp:Nat->Option (List Nat))(c:Code)(s:St):Option (AExit×St):=lim fun n=>Zp C (call C n) kp n c s
theorem ZY {kp:Nat->Option (List Nat)}{c:Code}{s:St}{r:AExit×St}:Yy C kp c s=some r↔∃ n,Zp C (call C n) kp n c s=some r :=
 ZmL fun n m r h g=>KZ (UW n m h) h c s r g
theorem ZkV (n:Nat):Le (call C n) (Z9 C):=fun _ _ _ _ h=>UX.2 ⟨n,h⟩
theorem ZxX {id:FuncId}{args:List AV}{H:Hp}{r:AV×Hp}(h:X4 C (Z9 C) id args H=some r):∃ n,X4 C (call C n) id args H=some r:=by
 unfold X4 at h
 cases z:C.ext id with
 |some e=>exact⟨0,by unfold X4;simpa[z]using h⟩
 |none =>
  cases u:C.sum id with
  |some g=>exact⟨0,by unfold X4;simpa[z,u]using h⟩
  |none =>
  cases w:C.eff id with
  |some g=>exact⟨0,by unfold X4;simpa[z,u,w]using h⟩
  |none =>
  simp only[z,u,w]at h;by_cases A:C.user id=true
  ·by_cases j:C.flat id=true
   ·simp only[A,j,if_true]at h;obtain⟨args',q,D,E⟩:=ZhW h;obtain⟨n,B⟩:=UX.1 D;exact⟨n,by unfold X4;simp only[z,u,w,A,j,if_true];exact E _ B⟩
   ·by_cases y:C.ro id=true
    ·simp only[A,j,y,zB,if_false,if_true]at h;obtain⟨q,D,E⟩:=Zn9 h;obtain⟨n,B⟩:=UX.1 D;exact⟨n,by unfold X4;simp only[z,u,w,A,j,y,zB,if_false,if_true];exact E _ B⟩
    ·simp only[A,j,y,zB,if_false,if_true]at h;obtain⟨n,B⟩:=UX.1 h;exact⟨n,by unfold X4;simp only[z,u,w,A,j,y,zB,if_false,if_true];exact B⟩
  ·simp[A]at h
theorem Zlx {f:AV}{args:List AV}{H:Hp}{r:AV×Hp}(h:Yd C (Z9 C) f args H=some r):∃ n,Yd C (call C n) f args H=some r:=by
 unfold Yd at h;split at h
 ·exact ZxX h
 ·cases h
theorem ZxY {f:AV}{args:List AV}{H:Hp}{r:AV×Hp}(h:Xu C (Z9 C) f args H=some r):∃ n,Xu C (call C n) f args H=some r:=by
 unfold Xu qC at h ⊢;split at h
 ·split at h
  ·rename_i j;obtain⟨n,g⟩:=Zlx h;exact⟨n,by rw[if_pos j];exact g⟩
  ·cases h
 ·cases h
theorem Zzm {ev:Operand->AV}{H:Hp}{op:Op}{r:AV×Hp}(h:ZC C (Z9 C) ev H op=some r):∃ n,ZC C (call C n) ev H op=some r:=by
 cases op <;> try exact⟨0,h⟩
 case makeMap t r=>cases r <;> exact⟨0,h⟩
 case call cl =>
  obtain⟨callee,args,j⟩:=cl
  cases callee with
  |value f =>
   simp only[ZC]at h ⊢;split at h
   ·rename_i g;simp only[if_pos g];exact ZxY h
   ·rename_i g;simp only[if_neg g];exact Zlx h
  |invoke r m =>
   simp only[ZC]at h ⊢;unfold Zly at h ⊢;split at h
   ·split at h
    ·exact Zlx h
    ·cases h
   ·cases h
  |builtin b=>cases b <;> exact⟨0,h⟩
theorem ZAG {ev:Operand->AV}{H:Hp}{fl:Bool}{op:Op}{r:AV×Hp}(h:X9 C (Z9 C) ev H fl op=some r):∃ n,X9 C (call C n) ev H fl op=some r:=by
 unfold X9 at h ⊢;split at h
 ·exact⟨0,h⟩
 ·split at h
  ·cases h
  ·rename_i g;obtain⟨n,j⟩:=Zzm h;exact⟨n,by rw[if_neg g];exact j⟩
theorem ZzW {ops:Array Oper}{fl:Bool}{o:Oper}{s r:St}(h:VL C (Z9 C) ops fl o s=some r):∃ n,VL C (call C n) ops fl o s=some r:=by
 unfold VL Yu at h ⊢
 cases hw:Wz ops s.1 o with
 |none=>simp[hw]at h
 |some b =>
  cases b with
  |false=>simp only[hw]at h ⊢;exact⟨0,h⟩
  |true =>
   simp only[hw]at h ⊢
   cases g:X9 C (Z9 C) (eval C s.1) s.2 fl o.op with
   |none=>simp[g]at h
   |some q =>
    obtain⟨n,j⟩:=ZAG g;exact⟨n,by rw[j];rw[g]at h;exact h⟩
theorem ZA1 {ops:Array Oper}{draw:Bool}{b i:Nat}{o:Oper}{s r:St}(h:XU C (Z9 C) ops draw b i o s=some r):∃ n,XU C (call C n) ops draw b i o s=some r:=by
 unfold XU at h ⊢;by_cases g:(draw&&lag C ops i)=true
 ·rw[if_pos g]at h;simp only[if_pos g];exact⟨0,h⟩
 ·rw[if_neg g]at h;simp only[if_neg g];exact ZzW h
theorem Zw6 {ops:Array Oper}{draw:Bool}{b:Nat}:∀ (l:List Oper) (i:Nat) (s r:St),Yt C (Z9 C) ops draw b i l s=some r->∃ n,Yt C (call C n) ops draw b i l s=some r:=by
 intro l
 induction l with
 |nil=>intro i s r h;exact⟨0,h⟩
 |cons o l w =>
  intro i s r h;unfold Yt at h;split at h
  ·rename_i s' u;obtain⟨n,j⟩:=ZA1 u;obtain⟨m,g⟩:=w _ _ _ h;refine⟨max n m,?_⟩;unfold Yt;rw[Ziv (UW n _ (zG n m)) j];exact EK (UW m _ (zF n m)) _ _ _ _ g
  ·cases h
section
variable {kp:Nat->Option (List Nat)}
theorem Zmh (id:Nat)(ops:Array Oper)(draw:Bool)(s:St):Yy C kp (.region id ops draw) s =
 if draw&&!(W7 ops&&Dr C ops (eval C (frzs kp id s).1)) then none else match Yt C (Z9 C) ops draw (frzs kp id s).2.length 0 ops.toList ((frzs kp id s).1,Q6 (if draw then XI C ops ops.size else 0) (frzs kp id s).2) with
  |some s'=>some (.normal,s')
  |none=>none:=by
 apply zI;intro r;rw[ZY];constructor
 ·rintro⟨n,g⟩
  simp only[Zp]at g;split at g
  ·cases g
  ·rename_i j;rw[if_neg j];split at g
   ·rename_i s' u;rw[EK (ZkV n) _ _ _ _ u];exact g
   ·cases g
 ·intro h;split at h
  ·cases h
  ·rename_i j;split at h
   ·rename_i s' u;obtain⟨n,g⟩:=Zw6 _ _ _ _ u;exact⟨n,by simp only[Zp];rw[if_neg j,g];exact h⟩
   ·cases h
theorem Zt7 (a b:Code)(s:St):Yy C kp (.seq a b) s=match Yy C kp a s with
 |some (.normal,s')=>Yy C kp b (trim kp b s')
 |r=>r:=by
 apply zI;intro r;rw[ZY];constructor
 ·rintro⟨n,j⟩
  simp only[Zp]at j
  cases g:Zp C (call C n) kp n a s with
  |none=>simp[g]at j
  |some p =>
   rw[ZY.2 ⟨n,g⟩];obtain⟨e,s'⟩:=p
   cases e with
   |normal=>simp only[g]at j ⊢;exact ZY.2 ⟨n,j⟩
   |_=>simpa[g]using j
 ·intro h
  cases g:Yy C kp a s with
  |none=>simp[g]at h
  |some p =>
   obtain⟨n,j⟩:=ZY.1 g;obtain⟨e,s'⟩:=p
   cases e with
   |normal =>
    simp only[g]at h;obtain⟨m,u⟩:=ZY.1 h;refine⟨max n m,?_⟩;simp only[Zp];rw[KZ (UW n _ (zG n m)) (zG n m) _ _ _ j];exact KZ (UW m _ (zF n m)) (zF n m) _ _ _ u
   |_=>exact⟨n,by simp only[Zp];rw[j];simpa[g]using h⟩
theorem Zqq (o:Operand)(x y:Code)(s:St):Yy C kp (.cond o x y) s=match eval C s.1 o with
 |.bool t=>if t then Yy C kp x s else Yy C kp y s
 |_=>none:=by
 apply zI;intro r;rw[ZY];simp only[Zp];generalize eval C s.1 o=v
 cases v with
 |bool t=>cases t <;> simp[ZY]
 |_=>simp
theorem Zob (id:Nat)(c:Code)(s:St):Yy C kp (.block id c) s=match Yy C kp c s with
 |some (.exit i,s')=>if i=id then some (.normal,s') else some (.exit i,s')
 |r=>r:=by
 apply zI;intro r;rw[ZY];constructor
 ·rintro⟨n,j⟩
  simp only[Zp]at j
  cases g:Zp C (call C n) kp n c s with
  |none=>simp[g]at j
  |some p=>rw[ZY.2 ⟨n,g⟩];rw[g]at j;exact j
 ·intro h
  cases g:Yy C kp c s with
  |none=>simp[g]at h
  |some p =>
   obtain⟨n,j⟩:=ZY.1 g;exact⟨n,by simp only[Zp];rw[j];rw[g]at h;exact h⟩
theorem Zod (c:Code)(s:St):Yy C kp (.scope c) s=if Xf c then Yy C kp c s else none:=by
 apply zI;intro r;rw[ZY];simp only[Zp];by_cases g:Xf c=true
 ·simp only[g,if_true];rw[ZY]
 ·simp[g]
theorem RQ (c:Code)(s:St):Yy C kp (.loop c) s=match Yy C kp c (trim kp c s) with
 |some (.normal,s')=>Yy C kp (.loop c) s'
 |r=>r:=by
 apply zI;intro r;rw[ZY];constructor
 ·rintro⟨n,g⟩
  simp only[Zp]at g
  cases n with
  |zero=>cases g
  |succ n =>
   unfold XT at g
   cases j:Zp C (call C (n+1)) kp (n+1) c (trim kp c s) with
   |none=>simp[j]at g
   |some p =>
    rw[ZY.2 ⟨n+1,j⟩];obtain⟨e,s'⟩:=p
    cases e with
    |normal =>
     simp only[j]at g ⊢;refine ZY.2 ⟨n+1,?_⟩;simp only[Zp];exact Zak (fun s r h=>h) n (n+1) s' r (Nat.le_succ _) g
    |_=>simpa[j]using g
 ·intro h
  cases j:Yy C kp c (trim kp c s) with
  |none=>simp[j]at h
  |some p =>
   obtain⟨n,g⟩:=ZY.1 j;obtain⟨e,s'⟩:=p
   cases e with
   |normal =>
    simp only[j]at h;obtain⟨m,w⟩:=ZY.1 h;simp only[Zp]at w;have y:=zG n m;have u:=zF n m;refine⟨max n m+1,?_⟩;simp only[Zp];unfold XT;rw[KZ (UW n (max n m+1) (by omega)) (m:=max n m+1) (by omega) _ _ _ g];exact Zak (fun s r h=>KZ (UW m (max n m+1) (by omega)) (by omega) _ _ _ h) m (max n m) s' r u w
   |_ =>
    simp only[j]at h;refine⟨n+1,?_⟩;simp only[Zp];unfold XT;rw[KZ (UW n (n+1) (by omega)) (m:=n+1) (by omega) _ _ _ g];exact h
theorem Zqt (s:St):Yy C kp .skip s=some (.normal,s):=ZY.2 ⟨0,rfl⟩
theorem Zoc (l:Nat)(s:St):Yy C kp (.label l) s=some (.normal,s):=ZY.2 ⟨0,rfl⟩
theorem Zqr (i:Nat)(s:St):Yy C kp (.exit i) s=some (.exit i,s):=ZY.2 ⟨0,rfl⟩
theorem Zqs (i:Nat)(s:St):Yy C kp (.goto i) s=some (.goto i,s):=ZY.2 ⟨0,rfl⟩
theorem Zt6 (s:St):Yy C kp .ret s=some (.ret,s):=ZY.2 ⟨0,rfl⟩
theorem ZhN {c:Code}{s:St}(h:∀ n,Zp C (call C n) kp n c s=none):Yy C kp c s=none:=by
 cases j:Yy C kp c s with
 |none=>rfl
 |some r=>obtain⟨n,g⟩:=ZY.1 j;rw[h n]at g;cases g
end
theorem ZvE {f:FuncId}{fn:Func}{c:Code}(w:C.P.funcs[f]?=some fn)(u:Di C f fn=some c)(args:List AV)(H:Hp):Z9 C f args H =
 match Yy C (C.keep f) c (args++zE (fn.ntmps-args.length) .undef,H) with
 |some (.normal,s)|some (.ret,s)=>match VB C fn s with
  |some v=>Ku C f H (v,s.2)
  |none=>none
 |_=>none:=by
 apply zI;intro r;rw[UX];constructor
 ·rintro⟨n,g⟩
  cases n with
  |zero=>cases g
  |succ n =>
   simp only[call,w,u]at g;unfold body at g
   cases j:Zp C (call C n) (C.keep f) n c (args++zE (fn.ntmps-args.length) .undef,H) with
   |none=>simp[j]at g
   |some p=>rw[ZY.2 ⟨n,j⟩];rw[j]at g;exact g
 ·intro h
  cases j:Yy C (C.keep f) c (args++zE (fn.ntmps-args.length) .undef,H) with
  |none=>simp[j]at h
  |some p =>
   obtain⟨n,g⟩:=ZY.1 j;refine⟨n+1,?_⟩;simp only[call,w,u];unfold body;rw[g];rw[j]at h;exact h
theorem Zfu {W0:World}(g:VM C):XC C W0 (Z9 C):=by
 intro W1 f args H H' v h S args' u j z w;obtain⟨n,y⟩:=UX.1 h;exact Zq8 (W0:=W1) g n f args H H' v y S args' u j z w
end
end Go.Am
namespace Go.Am
open RowKit
abbrev Z4:=Option (AV×Hp)
abbrev Kt:=AExit->St->Z4
def Z0 {α β:Type}(x:Option α)(f:α->Option β):Option β :=
 match x with
 |some a=>f a
 |none=>none
def Zk (c:AV)(x y:Z4):Z4 :=
 match c with
 |.bool t=>if t then x else y
 |_=>none
def Z8 {α:Type}(g:AV)(j:Bool)(els:α)(x:Option α):Option α :=
 match g with
 |.bool b=>if b==j then x else some els
 |.undef=>none
 |_=>some els
def Za7 {α:Type}(ops:Array Oper)(tm:List AV)(o:Oper)(els:α)(x:Option α):Option α :=
 match o.guard with
 |none=>x
 |some (j,want)=>match (match ops[j]? with|some g=>g.dst|none=>none) with
  |none=>some els
  |some d=>match tm[d]? with
   |some g=>Z8 g want els x
   |none=>some els
def Lo (C:Cfg)(s d:TypeId):Nat :=
 match C.P.underlying s,C.P.underlying d with
 |some (.slice _),some .string=>1
 |some .string,some (.slice _)=>if C.wrb d then 2 else 0
 |_,_=>0
def ZdO (C:Cfg)(g:List TypeId):Nat :=
 match g with
 |[t]=>match BS C.P t with
  |some _=>1
  |none=>0
 |_=>0
def Xp (C:Cfg):Op->Nat
 |.call { callee:=.builtin .len,argTypes,.. }=>ZdO C argTypes.toList
 |.call { callee:=.builtin .delete,.. }=>2
 |.convert s d _=>Lo C s d
 |.load _ _=>1
 |.lookup _ _ _ _=>1
 |.alloc _|.box _ _|.store _ _ _|.makeSlice _ _ _=>2
 |.makeMap _ _|.mapUpdate _ _ _ _|.insert _ _ _ _=>2
 |.call { callee:=.value _,.. }=>2
 |.call { callee:=.invoke _ _,.. }=>2
 |.call { callee:=.builtin .append,.. }=>2
 |.call { callee:=.builtin .copy,.. }=>2
 |_=>0
def BI (x:AV)(H:Hp):Option AV :=
 match QR x with
 |some v=>some v
 |none=>match QK x H with
  |some l=>match WU l with
   |some s=>some (.str s)
   |none=>none
  |none=>none
def Gk (C:Cfg)(ev:Operand->AV)(H:Hp):Op->Option AV
 |.load t a=>match YN C.P t,YB C.P t with
  |some g,some sz=>Z3 g sz (ev a) H
  |_,_=>none
 |.lookup t x k ck=>match BS C.P t with
  |some (d,e)=>match VT C.P e with
   |some z=>Yc d z ck (ev x) (ev k) H
   |none=>none
  |none=>none
 |.convert s d x=>match C.P.underlying s,C.P.underlying d with
  |some (.slice e),some .string=>if ZdM (C.P.underlying e) then BI (ev x) H else none
  |_,_=>none
 |.call { callee:=.builtin .len,args,argTypes }=>match args.toList,argTypes.toList with
  |[x],[t]=>match BS C.P t with
   |some _=>J7 (ev x) H
   |none=>none
  |_,_=>none
 |_=>none
def Zjj (C:Cfg)(CL:Zw)(ops:Array Oper)(fl:Bool)(o:Oper)(k:St->Z4)(tm:List AV)(H:Hp):Z4 :=
 match (if fl then 0 else Xp C o.op) with
 |0=>Z0 (Za7 ops tm o (.tuple []) (ZK C (eval C tm) o.op)) fun v=>k (Xa tm o.dst v,H)
 |1=>Z0 (Za7 ops tm o (.tuple []) (Gk C (eval C tm) H o.op)) fun v=>k (Xa tm o.dst v,H)
 |_=>Z0 (Za7 ops tm o (.tuple [],H) (ZC C CL (eval C tm) H o.op)) fun r=>k (Xa tm o.dst r.1,r.2)
def RK (C:Cfg)(CL:Zw)(ops:Array Oper)(draw:Bool)(b:Nat):Nat->List Oper->(St->Z4)->St->Z4
 |_,[],k,s=>k s
 |i,o::rest,k,s=>if draw&&lag C ops i then (if YF C ops i then none else Z0 (KV (b+XI C ops i) (T0 C (eval C s.1) o.op) s.2) fun r=>RK C CL ops draw b (i+1) rest k (Xa s.1 o.dst r.1,r.2))
  else Zjj C CL ops (draw&&YF C ops i) o (RK C CL ops draw b (i+1) rest k) s.1 s.2
abbrev Zat (g:St->Z4)(k:Kt):Kt:=fun e s =>
 match e with
 |.normal=>g s
 |e=>k e s
abbrev Zd2 (id:Nat)(k:Kt):Kt:=fun e s =>
 match e with
 |.exit i=>if i=id then k .normal s else k (.exit i) s
 |e=>k e s
def CX (C:Cfg)(CL:Zw)(g:Code->Kt->St->Z4)(kp:Nat->Option (List Nat)):Code->Kt->St->Z4
 |.skip,k,s=>k .normal s
 |.region id ops draw,k,s=>if draw&&!(W7 ops&&Dr C ops (eval C (frzs kp id s).1)) then none else RK C CL ops draw (frzs kp id s).2.length 0 ops.toList (fun s'=>k .normal s') ((frzs kp id s).1,Q6 (if draw then XI C ops ops.size else 0) (frzs kp id s).2)
 |.seq a b,k,s=>CX C CL g kp a (Zat (fun s'=>CX C CL g kp b k (trim kp b s')) k) s
 |.cond c x y,k,s=>Zk (eval C s.1 c) (CX C CL g kp x k s) (CX C CL g kp y k s)
 |.block id c,k,s=>CX C CL g kp c (Zd2 id k) s
 |.loop c,k,s=>g c k (trim kp c s)
 |.scope c,k,s=>if Xf c then CX C CL g kp c k s else none
 |.exit id,k,s=>k (.exit id) s
 |.label _,k,s=>k .normal s
 |.goto l,k,s=>k (.goto l) s
 |.ret,k,s=>k .ret s
 |_,_,_=>none
noncomputable def CF (C:Cfg)(kp:Nat->Option (List Nat))(c:Code)(k:Kt)(s:St):Z4:=Z0 (Yy C kp (.loop c) s) fun p=>k p.1 p.2
def sub:Code->List Nat->Code
 |.seq a _,0::p=>sub a p
 |.seq _ b,1::p=>sub b p
 |.cond _ x _,0::p=>sub x p
 |.cond _ _ y,1::p=>sub y p
 |.block _ c,0::p=>sub c p
 |.loop c,0::p=>sub c p
 |.scope c,0::p=>sub c p
 |c,_=>c
def Z1 (fn:Func):Code :=
 match fn.body with
 |some c=>c
 |none=>.skip
def Us (C:Cfg)(f:FuncId)(fn:Func):Code :=
 match Di C f fn with
 |some c=>c
 |none=>.skip
theorem T5 {α β:Type}[BEq α][LawfulBEq α]{l:List (α×β)}{a:α}{b:β}(h:l.lookup a=some b):(a,b)∈l:=by
 induction l with
 |nil=>simp at h
 |cons x l j =>
  obtain⟨c,d⟩:=x;simp only[List.lookup_cons]at h;split at h
  ·rename_i g;injection h with h;subst h;rw[eq_of_beq g];simp
  ·exact List.mem_cons_of_mem _ (j h)
def Is (P:Program)(f:Nat):Prop:=∀ (args:Array Value) (w:World),(callFunc f args).run P w=.ok (.enter f args) w
theorem ZiL {P:Program}:∀ f∈([]:List Nat),Is P f:=fun _ h=>by cases h
theorem Z2 {P:Program}{f:Nat}{l:List Nat}(h:Is P f)(t:∀ g∈l,Is P g):∀ g∈f::l,Is P g:=fun g j=>by
 rcases List.mem_cons.1 j with rfl|j
 ·exact h
 ·exact t g j
def Zp4 (l:List (Nat×List (Nat×List Nat)))(f r:Nat):Option (List Nat) :=
 match l.lookup f with
 |some m=>m.lookup r
 |none=>none
section
variable {C:Cfg}{kp:Nat->Option (List Nat)}
theorem Zl3 (keep:List Nat):∀ (l:List AV) (i:Nat),XB keep i (XB keep i l)=XB keep i l:=by
 intro l
 induction l with
 |nil=>intro i;rfl
 |cons a l g =>
  intro i;simp only[XB,g];split <;> simp_all
theorem ZkH (c:Code)(s:St):trim kp c (trim kp c s)=trim kp c s:=by
 unfold trim
 cases Yp c with
 |none=>rfl
 |some r =>
  simp only
  cases kp r with
  |none=>rfl
  |some keep=>simp[Zl3]
theorem ZuZ (c:Code)(k:Kt)(s:St):CF C kp c k (trim kp c s)=CF C kp c k s:=by
 unfold CF;rw[RQ,RQ (s:=s),ZkH]
theorem ZmO {x:Option AV}{H:Hp}:x.map (fun v=>(v,H))=Z0 x fun v=>some (v,H):=by cases x <;> rfl
theorem ZpR {CL:Zw}{ev:Operand->AV}{H:Hp}{t:TypeId}{x q:Operand}{g:Bool}:X9 C CL ev H false (.lookup t x q g)=(Z0 (Gk C ev H (.lookup t x q g)) fun v=>some (v,H)):=by
 simp only[X9,ZK,ZC,Gk,zB,if_false]
 cases BS C.P t with
 |none=>rfl
 |some p =>
  obtain⟨d,e⟩:=p;simp only
  cases VT C.P e with
  |none=>rfl
  |some z=>simp only;cases Yc d z g (ev x) (ev q) H <;> rfl
theorem Zvl {CL:Zw}{ev:Operand->AV}{H:Hp}{t:TypeId}{a:Operand}:X9 C CL ev H false (.load t a)=Z0 (Gk C ev H (.load t a)) fun v=>some (v,H):=by
 unfold X9;simp only[ZK,Gk,ZC]
 cases YN C.P t with
 |none=>rfl
 |some g =>
  cases YB C.P t with
  |none=>rfl
  |some sz =>
   simp only[zB,if_false];rw[ZmO]
   cases ev a <;> first
    |rfl
    |(simp only[XE,Z3];generalize apart g sz _ 0=x;cases x <;> rfl)
theorem Zvj {CL:Zw}{ev:Operand->AV}{H:Hp}{s d:TypeId}{x:Operand}(h:Lo C s d=1):X9 C CL ev H false (.convert s d x)=Z0 (Gk C ev H (.convert s d x)) fun v=>some (v,H):=by
 unfold Lo at h;split at h
 ·rename_i e j g;unfold X9;simp only[ZK,Gk,ZC,CN,j,g,zB,if_false]
  cases ZdM (C.P.underlying e) with
  |false=>rfl
  |true =>
   simp only[if_true];unfold BI KY
   cases QR (ev x) with
   |some v=>rfl
   |none =>
    simp only
    cases QK (ev x) H with
    |none=>rfl
    |some l=>simp only;cases WU l <;> rfl
 ·split at h <;> cases h
 ·cases h
theorem Zvc {t:TypeId}{p:TypeDesc×TypeId}{x:AV}(h:BS C.P t=some p):Zjb C.P t x=none:=by
 obtain⟨d,e⟩:=p;obtain⟨k,g,_⟩:=IK h;unfold Zjb;rw[g];rfl
theorem Zy3 {CL:Zw}{ev:Operand->AV}{H:Hp}{args:Array Operand}{g:Array TypeId}(h:ZdO C g.toList=1):X9 C CL ev H false (.call { callee:=.builtin .len,args:=args,argTypes:=g })=Z0 (Gk C ev H (.call { callee:=.builtin .len,args:=args,argTypes:=g })) fun v=>some (v,H):=by
 unfold X9;simp only[ZK,Gk,ZC,zB,if_false];unfold ZdO at h;split at h
 ·rename_i t u;split at h
  ·rename_i p j;rw[u]
   cases args.toList with
   |nil=>rfl
   |cons x l =>
    cases l with
    |nil =>
     simp only[Zvc j,j];exact ZmO
    |cons y l=>rfl
  ·cases h
 ·cases h
theorem Zsj {CL:Zw}{ev:Operand->AV}{H:Hp}{args:Array Operand}{g:Array TypeId}(h:ZdO C g.toList=0):ZC C CL ev H (.call { callee:=.builtin .len,args:=args,argTypes:=g })=none:=by
 simp only[ZC];unfold ZdO at h;split
 ·rename_i x t w u;rw[u]at h;simp only at h;split at h
  ·cases h
  ·rename_i j;rw[j]
 ·rfl
theorem Zp6 (g:List TypeId):ZdO C g=0\/ZdO C g=1:=by
 unfold ZdO;split
 ·split
  ·exact .inr rfl
  ·exact .inl rfl
 ·exact .inl rfl
theorem ZpH {CL:Zw}{ev:Operand->AV}{H:Hp}{op:Op}(h:Xp C op=0):ZC C CL ev H op=none:=by
 cases op with
 |call c =>
  obtain⟨callee,args,y⟩:=c
  cases callee with
  |value f=>simp[Xp]at h
  |invoke r m=>simp[Xp]at h
  |builtin b=>cases b <;> first|rfl|(exact Zsj h)|(simp[Xp]at h;done)
 |convert s d x =>
  simp only[Xp,Lo]at h;simp only[ZC];split at h
  ·cases h
  ·rename_i e j g;split at h
   ·cases h
   ·rename_i hw;simp only[j,g,Bool.eq_false_iff.2 hw,zN];rfl
  ·rename_i u w;split
   ·rename_i e j g;exact absurd g (u _ j)
   ·rename_i e j g;exact absurd g (w _ j)
   ·rfl
 |_=>first|rfl|(simp[Xp]at h;done)
theorem Zsr {ev:Operand->AV}{op:Op}(h:Xp C op=2):ZK C ev op=none:=by
 cases op with
 |call c =>
  obtain⟨callee,args,u⟩:=c
  cases callee with
  |value f=>rfl
  |invoke r m=>rfl
  |builtin b =>
   cases b <;> first
    |rfl
    |(simp[Xp]at h;done)
    |(simp only[Xp]at h;rcases Zp6 (C:=C) u.toList with e|e <;> (rw[e]at h;cases h))
 |convert s d x =>
  simp only[Xp,Lo]at h;split at h
  ·cases h
  ·rename_i e j g;split at h
   ·rename_i hw;simp only[ZK,CN,j,g,hw,if_true];split <;> rfl
   ·cases h
  ·cases h
 |_=>first|rfl|(simp[Xp]at h;done)
theorem ZvN (s d:TypeId):Lo C s d=0\/Lo C s d=1\/Lo C s d=2:=by
 unfold Lo;split
 ·simp
 ·split <;> simp
 ·simp
theorem ZtD (op:Op):Xp C op=0\/Xp C op=1\/Xp C op=2:=by
 unfold Xp;split <;> first|exact ZvN _ _|(rcases Zp6 (C:=C) _ with h|h <;> rw[h] <;> simp)|simp
theorem Zvk {CL:Zw}{ev:Operand->AV}{H:Hp}{op:Op}:X9 C CL ev H true op=Z0 (ZK C ev op) fun v=>some (v,H):=by
 unfold X9;cases ZK C ev op <;> rfl
theorem Zjv {α:Type}{ops:Array Oper}{tm:List AV}{o:Oper}{els:α}{x:Option α}:Za7 ops tm o els x=match Wz ops tm o with
 |none=>none
 |some false=>some els
 |some true=>x:=by
 unfold Za7 Wz
 cases o.guard with
 |none=>rfl
 |some p =>
  obtain⟨j,u⟩:=p;simp only
  cases ops[j]? with
  |none=>rfl
  |some g =>
   simp only
   cases g.dst with
   |none=>rfl
   |some d =>
    simp only
    cases tm[d]? with
    |none=>rfl
    |some g =>
     cases g with
     |bool b=>simp only[Z8];cases (b==u) <;> rfl
     |_=>rfl
theorem ZwS {CL:Zw}{ops:Array Oper}{fl:Bool}{o:Oper}{k:St->Z4}{s:St}:Z0 (VL C CL ops fl o s) k=Zjj C CL ops fl o k s.1 s.2:=by
 obtain⟨tm,H⟩:=s
 have u:∀ (r:Z4),X9 C CL (eval C tm) H fl o.op=r ->
  Z0 (VL C CL ops fl o (tm,H)) k=Z0 (Za7 ops tm o (.tuple [],H) r) fun r=>k (Xa tm o.dst r.1,r.2):=by
  intro r j;unfold VL Yu;rw[Zjv]
  cases Wz ops tm o with
  |none=>rfl
  |some b =>
   cases b with
   |false=>rfl
   |true=>simp only[j];cases r <;> rfl
 have val:∀ (r:Option AV),X9 C CL (eval C tm) H fl o.op=(Z0 r fun v=>some (v,H)) ->
  Z0 (VL C CL ops fl o (tm,H)) k=Z0 (Za7 ops tm o (.tuple []) r) fun v=>k (Xa tm o.dst v,H):=by
  intro r j;rw[u _ j,Zjv,Zjv]
  cases Wz ops tm o with
  |none=>rfl
  |some b =>
   cases b with
   |false=>rfl
   |true=>cases r <;> rfl
 unfold Zjj
 cases fl with
 |true =>
  simp only[if_true];exact val _ Zvk
 |false =>
  simp only[zB,if_false];rcases ZtD (C:=C) o.op with h|h|h
  ·rw[h];refine val _ ?_;unfold X9;have w:=ZpH (C:=C) (CL:=CL) (ev:=eval C tm) (H:=H) h
   cases ZK C (eval C tm) o.op with
   |none=>simp only[zB,if_false];rw[w];rfl
   |some v=>rfl
  ·rw[h]
   cases g:o.op with
   |load t a=>exact val _ (by rw[g];exact Zvl)
   |lookup t x q y=>exact val _ (by rw[g];exact ZpR)
   |convert s d x=>exact val _ (by rw[g];rw[g]at h;exact Zvj h)
   |call c =>
    rw[g]at h;obtain⟨callee,args,z⟩:=c
    cases callee with
    |value f=>simp[Xp]at h
    |invoke r m=>simp[Xp]at h
    |builtin b=>cases b <;> first|(simp[Xp]at h;done)|(exact val _ (by rw[g];exact Zy3 h))
   |_=>rw[g]at h;simp[Xp]at h
  ·rw[h];refine u _ ?_;unfold X9;rw[Zsr h];rfl
theorem Zqo {CL:Zw}{ops:Array Oper}{draw:Bool}{b:Nat}{k:St->Z4}:∀ (l:List Oper) (i:Nat) (s:St),Z0 (Yt C CL ops draw b i l s) k=RK C CL ops draw b i l k s:=by
 intro l
 induction l with
 |nil=>intro i s;rfl
 |cons o l u =>
  intro i s;unfold Yt RK XU;by_cases j:(draw&&lag C ops i)=true
  ·rw[if_pos j,if_pos j];by_cases g:YF C ops i=true
   ·rw[if_pos g,if_pos g];rfl
   ·rw[if_neg g,if_neg g]
    cases KV (b+XI C ops i) (T0 C (eval C s.1) o.op) s.2 with
    |none=>rfl
    |some p=>exact u (i+1) _
  ·rw[if_neg j,if_neg j,<-ZwS]
   cases VL C CL ops (draw&&YF C ops i) o s with
   |none=>rfl
   |some s'=>exact u (i+1) s'
theorem ZxG:∀ (c:Code) (k:Kt) (s:St),CX C (Z9 C) (CF C kp) kp c k s=Z0 (Yy C kp c s) fun p=>k p.1 p.2:=by
 intro c
 induction c with
 |skip=>intro k s;rw[Zqt];rfl
 |region id ops draw =>
  intro k s;rw[Zmh];simp only[CX];split
  ·rfl
  ·rw[<-Zqo];cases Yt C (Z9 C) ops draw (frzs kp id s).2.length 0 ops.toList ((frzs kp id s).1,Q6 (if draw then XI C ops ops.size else 0) (frzs kp id s).2) <;> rfl
 |seq a b j u =>
  intro k s;rw[Zt7];simp only[CX];rw[j]
  cases Yy C kp a s with
  |none=>rfl
  |some p =>
   obtain⟨e,s'⟩:=p
   cases e with
   |normal=>simp only[Z0,Zat];rw[u];rfl
   |_=>rfl
 |cond c x y w z =>
  intro k s;rw[Zqq];simp only[CX];rw[w,z]
  cases eval C s.1 c with
  |bool t=>cases t <;> rfl
  |_=>rfl
 |block id c g =>
  intro k s;rw[Zob];simp only[CX];rw[g]
  cases Yy C kp c s with
  |none=>rfl
  |some p =>
   obtain⟨e,s'⟩:=p
   cases e with
   |exit i =>
    simp only[Z0,Zd2];split <;> rfl
   |_=>rfl
 |loop c _ =>
  intro k s;simp only[CX];rw[ZuZ];rfl
 |rangeFunc f p x y _ _=>intro k s;simp only[CX];rw[ZhN (fun n=>rfl)];rfl
 |exit id=>intro k s;rw[Zqr];rfl
 |scope c g =>
  intro k s;rw[Zod];simp only[CX];split
  ·exact g k s
  ·rfl
 |label l=>intro k s;rw[Zoc];rfl
 |goto l=>intro k s;rw[Zqs];rfl
 |ret=>intro k s;rw[Zt6];rfl
 |refuse s=>intro k s;simp only[CX];rw[ZhN (fun n=>rfl)];rfl
theorem Zzi (c:Code)(k:Kt)(s:St):CF C kp c k s=CX C (Z9 C) (CF C kp) kp c (Zat (fun s'=>CF C kp c k (trim kp c s')) k) (trim kp c s):=by
 rw[ZxG];unfold CF;rw[RQ]
 cases Yy C kp c (trim kp c s) with
 |none=>rfl
 |some p =>
  obtain⟨e,s'⟩:=p
  cases e with
  |normal =>
   show Z0 (Yy C kp (.loop c) s') _=Z0 (Yy C kp (.loop c) (trim kp c s')) _;rw[RQ,RQ (s:=trim kp c s'),ZkH]
  |_=>rfl
def Zaq (C:Cfg):List ResultVar->St->List AV->(List AV->Z4)->Z4
 |[],_,acc,k=>k acc
 |r::rs,s,acc,k=>Z0 (Wv C s r) fun v=>Zaq C rs s (acc++[v]) k
noncomputable def S5 (C:Cfg)(f:FuncId)(g:Hp)(H:Hp):List AV->Z4
 |[v]=>Ku C f g (v,H)
 |l=>Ku C f g (.tuple l,H)
noncomputable abbrev ZA2 (C:Cfg)(f:FuncId)(fn:Func)(H0:Hp):Kt:=fun e s =>
 match e with
 |.normal=>Zaq C fn.results.toList s [] (S5 C f H0 s.2)
 |.ret=>Zaq C fn.results.toList s [] (S5 C f H0 s.2)
 |_=>none
theorem Zz1 (s:St)(k:List AV->Z4):∀ (rs:List ResultVar) (g:List AV),Zaq C rs s g k=Z0 (rs.mapM (Wv C s)) fun l=>k (g++l):=by
 intro rs
 induction rs with
 |nil=>intro g;simp[Zaq,Z0]
 |cons r rs j =>
  intro g;rw[zM];unfold Zaq
  cases Wv C s r with
  |none=>rfl
  |some v =>
   simp only[Z0];rw[j]
   cases rs.mapM (Wv C s) with
   |none=>rfl
   |some l=>simp[Z0]
theorem ZvD {f:FuncId}{fn:Func}{c:Code}(j:C.P.funcs[f]?=some fn)(g:Di C f fn=some c)(args:List AV)(H:Hp) :
 Z9 C f args H=CX C (Z9 C) (CF C (C.keep f)) (C.keep f) c (ZA2 C f fn H) (args++zE (fn.ntmps-args.length) .undef,H):=by
 rw[ZvE j g,ZxG]
 have key:∀ s:St,(match VB C fn s with|some v=>Ku C f H (v,s.2)|none=>none)=Zaq C fn.results.toList s [] (S5 C f H s.2):=by
  intro s;rw[Zz1];unfold VB
  cases fn.results.toList.mapM (Wv C s) with
  |none=>rfl
  |some l =>
   match l with
   |[]=>rfl
   |[v]=>rfl
   |a::b::l=>rfl
 cases Yy C (C.keep f) c (args++zE (fn.ntmps-args.length) .undef,H) with
 |none=>rfl
 |some p =>
  obtain⟨e,s⟩:=p
  cases e with
  |normal=>exact key s
  |ret=>exact key s
  |_=>rfl
end
end Go.Am
