/- THE ABSTRACT MACHINE -/
import Derived.Test.YtnaneekpogohaaaGreatDoorHmMx
import Derived.Defers
open List renaming replicate->zE,mapM_cons->zM
open Nat renaming le_max_right->zF,le_max_left->zG,ne_of_beq_eq_false->zL
open Bool renaming false_eq_true->zB,and_eq_true->zD,not_eq_true'->zH,false_and->zN
open Option renaming ext->zI
open Array renaming replicate->zJ,getD_eq_getD_getElem?->zK
open Option.some renaming injEq->zA
open Prod.mk renaming injEq->zC
namespace Go.Am
open RowKit
section
variable {C:Cfg}{W0:World}
theorem Zh5 {P:Program}{t:TypeId}{u:Value}{g:Addr}{v:Value}{w:World}(j:u=.pointer (some g))(h:(loadVar t g).run P w=.ok v w):(do loadVar t (<-asAddr u):Sem Value).run P w=.ok v w:=by
 subst j;simp[asAddr,h]
def Znj (tmps:Array Value):ResultVar->Sem Value
 |.tmp t=>pure (tmps.getD t undef)
 |.cell a t=>do loadVar t (<-asAddr (tmps.getD a undef))
theorem Zrd (fn:Func)(tmps:Array Value):results fn tmps=(do let vs <-fn.results.mapM (Znj tmps);pure (if h:vs.size=1 then vs[0] else .tuple vs)):=by
 unfold results;congr 1
theorem Zn9 {S:Snap}{H:Hp}{tm:List AV}{tmps:Array Value}(u:Inv W0 S H)(j:FRel S tm tmps){r:ResultVar}{v:AV}(h:WI C (tm,H) r=some v) :
 ∃ v',(Znj tmps r).run C.P S.w=.ok v' S.w/\VRel S v v':=by
 cases r with
 |tmp t =>
  simp only[WI,zA]at h;subst h;exact⟨_,rfl,j.getD t⟩
 |cell a t =>
  simp only[WI]at h;split at h
  ·rename_i g sz y A;obtain⟨v',E,B,z,D⟩:=ZfR (P:=C.P) u y A (j.getD a) h;exact⟨v',Zh5 B z,D⟩
  ·cases h
theorem Zw4 {S:Snap}{H:Hp}{tm:List AV}{tmps:Array Value}(J:Inv W0 S H)(I:FRel S tm tmps):∀ (l:List ResultVar) (r:List AV),l.mapM (WI C (tm,H))=some r ->
 ∃ vs:List Value,(l.mapM (Znj tmps)).run C.P S.w=.ok vs S.w/\vs.length=r.length /\
  ∀ (i:Nat) (a:AV) (v:Value),r[i]?=some a->vs[i]?=some v->VRel S a v:=by
 intro l
 induction l with
 |nil=>intro r h;simp at h;subst h;exact⟨[],rfl,rfl,by simp⟩
 |cons x l K =>
  intro r h;rw[zM]at h
  cases g:WI C (tm,H) x with
  |none=>simp[g]at h
  |some a =>
   cases u:l.mapM (WI C (tm,H)) with
   |none=>simp[g,u]at h
   |some z =>
    simp[g,u]at h;subst h;obtain⟨v,A,B⟩:=Zn9 J I g;obtain⟨vs,D,E,F⟩:=K z u;refine⟨v::vs,?_,by simp[E],fun i a v j y=>?_⟩
    ·rw[zM];simp only[Sem.run_bind,A,D,Result.andThen_ok,Sem.run_pure]
    ·cases i with
     |zero=>simp at j y;subst j y;exact B
     |succ i=>exact F i a v (by simpa using j) (by simpa using y)
theorem Zna {S:Snap}{H:Hp}{tm:List AV}{tmps:Array Value}(E:Inv W0 S H)(D:FRel S tm tmps){fn:Func}{v:AV}(h:Uc C fn (tm,H)=some v):∃ v',(results fn tmps).run C.P S.w=.ok v' S.w/\VRel S v v':=by
 unfold Uc at h
 have g:∀ l,fn.results.toList.mapM (WI C (tm,H))=some l->∃ vs:List Value,(results fn tmps).run C.P S.w=.ok (if h:vs.toArray.size=1 then vs.toArray[0] else .tuple vs.toArray) S.w/\vs.length=l.length /\
  ∀ (i:Nat) (a:AV) (v:Value),l[i]?=some a->vs[i]?=some v->VRel S a v:=by
  intro l A;obtain⟨vs,j,y,z⟩:=Zw4 E D _ l A;refine⟨vs,?_,y,z⟩;rw[Zrd,Sem.run_bind,Array.mapM_eq_mapM_toList,Sem.run_map,j];rfl
 split at h
 ·rename_i L A;injection h with h;subst h;obtain⟨vs,j,y,z⟩:=g _ A
  match vs,y with
  |[u],_=>exact⟨u,by simpa using j,z 0 L u rfl rfl⟩
 ·rename_i l B A;injection h with h;subst h;obtain⟨vs,j,y,z⟩:=g _ A
  have J:vs.toArray.size≠1:=by
   intro I;have:l.length=1:=by simp at I;omega
   match l,this with
   |[a],_=>exact B a rfl
  rw[dif_neg J]at j;exact⟨_,j,.tuple _ _ (by simp[y]) fun i a v F K=>z i a v F (by simpa using K)⟩
 ·cases h
theorem ZmI {S:Snap}{args:List AV}{args':Array Value}(w:args'.size=args.length)(h:∀ (i:Nat) (a:AV) (u:Value),args[i]?=some a->args'[i]?=some u->VRel S a u)(n:Nat) :
 FRel S (args++zE (n-args.length) .undef) (args'++zJ (n-args'.size) undef):=by
 refine⟨by simp[w],fun i a v g j=>?_⟩;rcases Nat.lt_or_ge i args.length with hi|hi
 ·rw[List.getElem?_append_left hi]at g;rw[Array.getElem?_append_left (by omega)]at j;exact h i a v g j
 ·rw[List.getElem?_append_right hi]at g;rw[Array.getElem?_append_right (by omega)]at j;rw[List.getElem?_replicate]at g;rw[Array.getElem?_replicate]at j;split at g
  ·injection g with g;split at j
   ·injection j with j;subst g j;exact .undef _
   ·cases j
  ·cases g
theorem A0 {f:FuncId}{fn:Func}{S y:Snap}{H H':Hp}{s:St}{tmps:Array Value}{v:AV}(I:Inv W0 S H)(B:Ext S y)(j:Inv W0 y s.2)(E:FRel y s.1 tmps)
 (g:(match Uc C fn s with|some v=>FR C f H (v,s.2)|none=>none)=some (v,H')) :
 ∃ u,(results fn tmps).run C.P y.w=.ok u y.w/\∃ D,D.w=y.w/\Ext S D/\Inv W0 D H'/\VRel D v u:=by
 split at g
 ·rename_i K F;obtain⟨v',A,J⟩:=Zna (tm:=s.1) j E F;refine⟨v',A,?_⟩;unfold FR at g;split at g
  ·unfold ZmM at g;split at g
   ·rename_i h
    cases z:Ze s.2 H.length 9 K with
    |none=>simp[z]at g
    |some L =>
     simp only[z,zA,zC]at g;obtain⟨rfl,rfl⟩:=g;exact⟨y.back H,rfl,Ext.back I B,Inv.back I j h,SC j h 9 _ _ _ z J⟩
   ·cases g
  ·simp only[zA,zC]at g;obtain⟨rfl,rfl⟩:=g;exact⟨y,rfl,B,j,J⟩
 ·cases g
def D0 (N:Nat)(a:Act):Prop:=a.defers=[]/\N<=a.tmps.size
theorem D0.put {N:Nat}(a:Act)(g:Option Tmp)(v:Value)(h:D0 N a):D0 N (a.put g v):=by
 cases g with
 |none=>exact h
 |some d=>exact⟨h.1,by show N<=(a.tmps.setIfInBounds d v).size;rw[Array.size_setIfInBounds];exact h.2⟩
theorem ZkN {S:Snap}{H:Hp}{args:List AV}{args':Array Value}(h:Inv W0 S H)(g:GlobOk C S)(y:args'.size=args.length)(j:∀ (i:Nat) (a:AV) (u:Value),args[i]?=some a->args'[i]?=some u->VRel S a u)(n:Nat) :
 Rel C W0 S (D0 n) (args++zE (n-args.length) .undef,H) { tmps:=args'++zJ (n-args'.size) undef,defers:=[] } S.w :=
 ⟨S,rfl,Ext.refl S,h,g,ZmI y j n,rfl,by simp;omega⟩
theorem Zp2 (Q:Um C){cl:ZF}(y:XT C W0 cl)(O:Xy cl){n:Nat}{f:FuncId}{fn:Func}{c:Code}{args:List AV}{H H':Hp}{v:AV}
 (h:body C cl n f fn c args H=some (v,H')) {S:Snap} {args':Array Value} (M:Inv W0 S H) (R:GlobOk C S) (W:args'.size=args.length) (U:∀ (i:Nat) (a:AV) (u:Value),args[i]?=some a->args'[i]?=some u->VRel S a u) :
 c.wp C.P (bodyPost C.P fn fun e w'=>∃ v' j,e=.returned v'/\j.w=w'/\Ext S j/\Inv W0 j H'/\VRel j v v') { tmps:=args'++zJ (fn.ntmps-args'.size) undef,defers:=[] } S.w:=by
 unfold body at h;have D:=ZkN M R W U fn.ntmps
 cases g:Zs C cl (C.keep f) n c (args++zE (fn.ntmps-args.length) .undef,H) with
 |none=>simp[g]at h
 |some p =>
  obtain⟨e,s⟩:=p;refine wp_mono (ZeS Q y O c _ s e _ _ (ZaI D0.put c) g D) fun Y a w V=>?_;obtain⟨rfl,X,rfl,E,A,T,z,B⟩:=V
  cases e with
  |normal =>
   simp only[g]at h;obtain⟨u,F,j,I,J,K,L⟩:=A0 M E A z h;exact⟨B.1,u,F,u,j,rfl,I,J,K,L⟩
  |ret =>
   simp only[g]at h;obtain⟨u,F,j,I,J,K,L⟩:=A0 M E A z h;exact⟨B.1,u,F,u,j,rfl,I,J,K,L⟩
  |_=>simp[g]at h
theorem ZpX (z:Um C){cl:ZF}(g:XT C W0 cl)(y:Xy cl){n:Nat}{f:FuncId}{fn:Func}{c:Code}(F:C.P.funcs[f]?=some fn)(E:fn.body=some c){args:List AV}{H H':Hp}{v:AV}
 (h:body C cl n f fn c args H=some (v,H')) {S:Snap} {args':Array Value} (B:Inv W0 S H) (A:GlobOk C S) (I:args'.size=args.length) (D:∀ (i:Nat) (a:AV) (u:Value),args[i]?=some a->args'[i]?=some u->VRel S a u) :
 Calls C.P f args' S.w fun e w'=>∃ v' j,e=.returned v'/\j.w=w'/\Ext S j/\Inv W0 j H'/\VRel j v v' :=
 calls_of_wp F E (Zp2 z g y h B A I D)
def OV (C:Cfg)(call:ZF):Prop :=
 ∀ {W0:World} (f:FuncId) (args:List AV) (H H':Hp) (v:AV),C.dfr f=false->call f args H=some (v,H')->∀ (S:Snap) (args':Array Value),Inv W0 S H->GlobOk C S->args'.size=args.length ->
  (∀ (i:Nat) (a:AV) (u:Value),args[i]?=some a->args'[i]?=some u->VRel S a u)->∀ h:FrameMode,
  CallsD C.P f args' h S.w fun e u w'=>u=h/\∃ v' g,e=.returned v'/\g.w=w'/\Ext S g/\Inv W0 g H'/\VRel g v v'
theorem Zgc (K:Nat):∀ c:Code,YL (Xb K c)=YL c:=by
 intro c
 induction c with
 |seq a b h j=>simp only[Xb,YL,h,j]
 |block id c g=>exact g
 |loop c g=>exact g
 |scope c g=>exact g
 |_=>rfl
theorem Znc (K:Nat):∀ c:Code,XJ (Xb K c)=XJ c:=by
 intro c
 induction c with
 |seq a b h j=>simp only[Xb,XJ,h,j]
 |cond c x y u w=>simp only[Xb,XJ,u,w]
 |block id c g=>exact g
 |loop c g=>exact g
 |scope c g=>exact g
 |_=>rfl
theorem ZiW {kp:Nat->Option (List Nat)}{c c':Code}(h:YL c=YL c')(s:St):trim kp c s=trim kp c' s:=by unfold trim;rw[h]
def TT (K:Nat)(r:Option (AExit×St)):Option (AExit×St) :=
 match r with
 |some (.ret,s')=>some (.exit K,s')
 |r=>r
theorem Zi7 {cl:ZF}{kp:Nat->Option (List Nat)}{n K:Nat}:∀ c:Code,GF K c=true->∀ s,Zs C cl kp n (Xb K c) s=TT K (Zs C cl kp n c s):=by
 intro c
 induction c with
 |skip=>intro _ s;rfl
 |region id ops draw =>
  intro _ s;simp only[Xb,Zs];split
  ·rfl
  ·split <;> rfl
 |seq a b u w =>
  intro hk s;simp only[GF,zD]at hk;simp only[Xb,Zs];rw[u hk.1 s]
  cases Zs C cl kp n a s with
  |none=>rfl
  |some p =>
   obtain⟨e,j⟩:=p
   cases e with
   |normal =>
    show Zs C cl kp n (Xb K b) (trim kp (Xb K b) j)=_;rw[ZiW (Zgc K b)];exact w hk.2 _
   |_=>rfl
 |cond c x y A B =>
  intro hk s;simp only[GF,zD]at hk;simp only[Xb,Zs];split
  ·split
   ·exact A hk.1 s
   ·exact B hk.2 s
  ·rfl
 |block id c g =>
  intro hk s;simp only[GF,zD,zH]at hk;simp only[Xb,Zs];rw[g hk.2 s]
  cases Zs C cl kp n c s with
  |none=>rfl
  |some p =>
   obtain⟨e,j⟩:=p
   cases e with
   |ret =>
    simp only[TT];rw[if_neg (fun h=>zL hk.1 h.symm)]
   |exit i =>
    simp only[TT];split <;> rfl
   |_=>rfl
 |loop c g =>
  intro hk s;simp only[GF]at hk;simp only[Xb,Zs]
  have key:∀ (m:Nat) (s:St),W6 (fun s=>Zs C cl kp n (Xb K c) (trim kp (Xb K c) s)) m s=TT K (W6 (fun s=>Zs C cl kp n c (trim kp c s)) m s):=by
   intro m
   induction m with
   |zero=>intro s;rfl
   |succ m z =>
    intro s;simp only[W6];rw[ZiW (Zgc K c),g hk]
    cases Zs C cl kp n c (trim kp c s) with
    |none=>rfl
    |some p =>
     obtain⟨e,j⟩:=p
     cases e with
     |normal=>exact z j
     |_=>rfl
  exact key n s
 |rangeFunc f p x y _ _=>intro _ s;rfl
 |exit id=>intro _ s;rfl
 |scope c g =>
  intro hk s;simp only[GF]at hk;simp only[Xb,Zs];rw[Znc];split
  ·exact g hk s
  ·rfl
 |label l=>intro _ s;rfl
 |goto l=>intro _ s;rfl
 |ret=>intro _ s;rfl
 |refuse m=>intro _ s;rfl
theorem Zog {cl:ZF}{kp:Nat->Option (List Nat)}{n K:Nat}:∀ c:Code,GF K c=true->∀ s s',Zs C cl kp n c s=some (.exit K,s')->False:=by
 intro c
 induction c with
 |skip=>intro _ s s' h;simp[Zs]at h
 |region id ops draw =>
  intro _ s s' h;simp only[Zs]at h;split at h
  ·cases h
  ·split at h
   ·simp at h
   ·cases h
 |seq a b u w =>
  intro hk s s' h;simp only[GF,zD]at hk;simp only[Zs]at h
  cases g:Zs C cl kp n a s with
  |none=>simp[g]at h
  |some p =>
   obtain⟨e,D⟩:=p
   cases e with
   |normal=>simp only[g]at h;exact w hk.2 _ _ h
   |exit i =>
    simp only[g,zA,zC,AExit.exit.injEq]at h;obtain⟨rfl,rfl⟩:=h;exact u hk.1 _ _ g
   |_=>simp[g]at h
 |cond c x y A B =>
  intro hk s s' h;simp only[GF,zD]at hk;simp only[Zs]at h;split at h
  ·split at h
   ·exact A hk.1 _ _ h
   ·exact B hk.2 _ _ h
  ·cases h
 |block id c j =>
  intro hk s s' h;simp only[GF,zD,zH]at hk;simp only[Zs]at h
  cases g:Zs C cl kp n c s with
  |none=>simp[g]at h
  |some p =>
   obtain⟨e,D⟩:=p
   cases e with
   |exit i =>
    simp only[g]at h;split at h
    ·simp at h
    ·simp only[zA,zC,AExit.exit.injEq]at h;obtain⟨rfl,rfl⟩:=h;exact j hk.2 _ _ g
   |_=>simp[g]at h
 |loop c j =>
  intro hk s s' h;simp only[GF]at hk;simp only[Zs]at h
  have key:∀ (m:Nat) (s:St),W6 (fun s=>Zs C cl kp n c (trim kp c s)) m s=some (.exit K,s')->False:=by
   intro m
   induction m with
   |zero=>intro s h;simp[W6]at h
   |succ m z =>
    intro s h;simp only[W6]at h
    cases g:Zs C cl kp n c (trim kp c s) with
    |none=>simp[g]at h
    |some p =>
     obtain⟨e,D⟩:=p
     cases e with
     |normal=>simp only[g]at h;exact z D h
     |exit i =>
      simp only[g,zA,zC,AExit.exit.injEq]at h;obtain⟨rfl,rfl⟩:=h;exact j hk _ _ g
     |_=>simp[g]at h
  exact key n s h
 |rangeFunc f p x y _ _=>intro _ s s' h;simp[Zs]at h
 |exit id =>
  intro hk s s' h;simp only[GF,zH]at hk;simp only[Zs,zA,zC,AExit.exit.injEq]at h;exact zL hk h.1
 |scope c j =>
  intro hk s s' h;simp only[GF]at hk;simp only[Zs]at h;split at h
  ·exact j hk _ _ h
  ·cases h
 |label l=>intro _ s s' h;simp[Zs]at h
 |goto l=>intro _ s s' h;simp[Zs]at h
 |ret=>intro _ s s' h;simp[Zs]at h
 |refuse m=>intro _ s s' h;simp[Zs]at h
theorem Zlb {cl:ZF}{kp:Nat->Option (List Nat)}{n K:Nat}{c:Code}(hk:GF K c=true){s s':St}(h:Zs C cl kp n (.block K (Xb K c)) s=some (.normal,s')) :
 Zs C cl kp n c s=some (.normal,s')\/Zs C cl kp n c s=some (.ret,s'):=by
 simp only[Zs]at h;rw[Zi7 c hk]at h
 cases g:Zs C cl kp n c s with
 |none=>rw[g]at h;simp[TT]at h
 |some p =>
  obtain⟨e,j⟩:=p;rw[g]at h
  cases e with
  |normal=>simp only[TT,zA,zC,true_and]at h;subst h;exact .inl rfl
  |ret=>simp only[TT,if_true,zA,zC,true_and]at h;subst h;exact .inr rfl
  |exit i =>
   simp only[TT]at h;split at h
   ·rename_i hi;subst hi;exact (Zog c hk _ _ g).elim
   ·simp at h
  |goto l=>simp[TT]at h
theorem ZbS {g:FuncId}(h:OE C g=true):C.user g=true/\C.flat g=false/\C.ro g=false/\C.ext g=none/\C.sum g=none/\C.eff g=none/\C.dfr g=false:=by
 unfold OE at h;simp only[zD,zH,Option.isNone_iff_eq_none]at h;exact h
theorem Zmg {N:Nat}{ops:Array Oper}{u B:Oper}{x:Nat}(h:Zi1 C N ops=some (u,B,x)) :
 ∃ (o:Oper) (c:Call) (g:FuncId) (z w:Array Operand),ops.toList=[u,o]/\u.op=.makeFunc (.func g) z w/\u.dst=some x/\u.guard=none/\o.op=.defer c/\o.dst=none/\o.guard=none /\
  B={ o with op:=.call c }/\c.callee=.value (.tmp x)/\c.args=#[]/\x<N/\OE C g=true:=by
 unfold Zi1 at h;split at h
 ·rename_i O M L;split at h
  ·rename_i g z w Q D E F;split at h
   ·rename_i c H I J;split at h
    ·rename_i y K;split at h
     ·rename_i j;simp only[zA,zC]at h;obtain⟨rfl,rfl,rfl⟩:=h;simp only[zD]at j;have A:=Nat.eq_of_beq_eq_true j.1;refine⟨M,c,g,z,w,L,D,E,F,H,I,J,rfl,by rw[K,A],?_,?_,j.2.2.2⟩
      ·have:=j.2.2.1;rw[Array.isEmpty_iff]at this;exact this
      ·have:=j.2.1;rw[Nat.blt]at this;exact Nat.le_of_ble_eq_true this
     ·cases h
    ·cases h
   ·cases h
  ·cases h
 ·cases h
def D1 (d:Deferred)(x:Nat)(u:Value)(a:Act):Prop:=a.defers=[d]/\a.eval (.tmp x)=u
theorem D1.put {d:Deferred}{x:Nat}{u:Value}{a:Act}{g:Option Tmp}(v:Value)(w:g≠some x)(h:D1 d x u a):D1 d x u (a.put g v):=by
 cases g with
 |none=>exact h
 |some t =>
  refine⟨h.1,?_⟩;have j:t≠x:=fun e=>w (by rw[e]);have:=h.2;show (a.tmps.setIfInBounds t v).getD x undef=u;rw[<-this];show (a.tmps.setIfInBounds t v).getD x undef=a.tmps.getD x undef;rw[zK,zK,Array.getElem?_setIfInBounds_ne j]
theorem D1.keeps {d:Deferred}{x:Nat}{u:Value}:∀ c:Code,FV x c=true->DZ (D1 d x u) c:=by
 intro c
 induction c with
 |region id ops draw =>
  intro h i o A a v y;refine y.put v fun z=>?_;have h:Kf ops x=true:=h;unfold Kf at h;rw[List.all_eq_true]at h;have:=h o (by rw[Array.mem_toList_iff];exact Array.mem_of_getElem? A);rw[z]at this;simp at this
 |seq a b g j=>intro h;simp only[FV,zD]at h;exact⟨g h.1,j h.2⟩
 |cond c a b g j=>intro h;simp only[FV,zD]at h;exact⟨g h.1,j h.2⟩
 |block id c w=>intro h;exact w h
 |loop c w=>intro h;exact w h
 |scope c w=>intro h;exact w h
 |_=>intro _;trivial
def QD (C:Cfg)(W0:World)(S0:Snap)(s':St)(e:Exit)(a:Act)(w:World):Prop :=
 (e=.normal\/e=.ret)/\(Rel C W0 S0 (fun a=>a.defers=[]) s' a w \/
  ∃ fv cap h g j,a.defers=[{ target:=.fn fv cap,args:=h }]/\(invoke (.fn fv cap) h).run C.P w=.ok (.enter g j) w /\
   CallsD C.P g j .returning w fun e u w'=>u=.returning/\(∃ v,e=.returned v)/\Rel C W0 S0 (fun _=>True) s' a w')
theorem ZnN {cl:ZF}{g:FuncId}{j h:List AV}{H:Hp}(D:OE C g=true):Yf C cl (.fn (.func g) j h) [] H=cl g (j++[]++h) H:=by
 obtain⟨u,w,y,z,A,B,E⟩:=ZbS D;simp[Yf,Xz,u,w,y,z,A,B]
section
variable {cl:ZF}{S0:Snap}{kp:Nat->Option (List Nat)}{n N:Nat}
theorem ZgJ {a b:Code}{s:St}:Zs C cl kp n (.seq a b) s=match Zs C cl kp n a s with
 |some (.normal,s')=>Zs C cl kp n b (trim kp b s')
 |r=>r:=rfl
theorem Zmq {K:Nat}{c:Code}(hk:GF K c=true){s s':St}(h:Zs C cl kp n (.block K (Xb K c)) s=some (.ret,s')):False:=by
 simp only[Zs]at h;rw[Zi7 c hk]at h
 cases g:Zs C cl kp n c s with
 |none=>rw[g]at h;simp[TT]at h
 |some p =>
  obtain⟨e,j⟩:=p;rw[g]at h
  cases e with
  |normal=>simp[TT]at h
  |ret=>simp[TT]at h
  |exit i =>
   simp only[TT]at h;split at h <;> simp at h
  |goto l=>simp[TT]at h
theorem Zmr {id:Nat}{o:Oper}{s s':St}{e:AExit}(j:o.guard=none)(h:Zs C cl kp n (.region id #[o] false) s=some (e,s')) :
 e=.normal/\∃ v H',Xd C cl (eval C (frzs kp id s).1) (frzs kp id s).2 false o.op=some (v,H')/\s'=(Xf (frzs kp id s).1 o.dst v,H'):=by
 simp only[Zs,zN,zB,if_false]at h;have u:QL 0 (frzs kp id s).2=(frzs kp id s).2:=by simp[QL]
 rw[u]at h;simp only[Yt,W7,zN,zB,if_false,Ul,Yx,WP,j]at h
 cases g:Xd C cl (eval C (frzs kp id s).1) (frzs kp id s).2 false o.op with
 |none=>rw[g]at h;simp at h
 |some p =>
  obtain⟨v,H'⟩:=p;rw[g]at h;simp only[zA,zC]at h;exact⟨h.1.symm,v,H',rfl,h.2.symm⟩
theorem ZoI {ops:Array Oper}{o:Oper}{s:St}{v:AV}{H':Hp}(g:o.guard=none)(h:Xd C cl (eval C s.1) s.2 false o.op=some (v,H')):Ul C cl ops false o s=some (Xf s.1 o.dst v,H'):=by
 simp only[Ul,Yx,WP,g,h]
theorem ZnA (hC:Um C)(B:XT C W0 cl)(J:OV C cl)(ar:Xy cl){id:Nat}{ops:Array Oper}{b:Code}{z o2:Oper}{x:Nat}(ao:Zi1 C N ops=some (z,o2,x))
 (hb:(FV x b&&GF 900001 b)=true) {s s':St} {e:AExit} {a:Act} {w:World}
 (h:Zs C cl kp n (.seq (.region id #[z] false) (.seq (.block 900001 (Xb 900001 b)) (.seq (.region 900002 #[o2] false) .ret))) s=some (e,s')) (L:e=.normal\/e=.ret)
 (hr:Rel C W0 S0 (D0 N) s a w):(Code.seq (.region id ops false) b).wp C.P (QD C W0 S0 s') a w:=by
 obtain⟨o,c,g,X,W,hl,h1,h2,h3,h4,h5,h6,rfl,h7,h8,h9,aa⟩:=Zmg ao
 have af:ops=#[z,o]:=by
  have:ops=ops.toList.toArray:=by simp
  rw[this,hl]
 subst af;rw[zD]at hb;rw[ZgJ]at h
 cases T:Zs C cl kp n (.region id #[z] false) s with
 |none=>rw[T]at h;cases h
 |some p =>
 obtain⟨e1,s1⟩:=p;obtain⟨rfl,v1,H1,A,rfl⟩:=Zmr h3 T;rw[T]at h;dsimp only at h
 have ba:v1=.fn (.func g) (X.toList.map (eval C (frzs kp id s).1)) (W.toList.map (eval C (frzs kp id s).1))/\H1=(frzs kp id s).2:=by
  rw[h1]at A;simp only[Xd,ZT,zA,zC]at A;exact⟨A.1.symm,A.2.symm⟩
 refine wp_seq (wp_region ?_);show wpOps C.P #[z,o] _ [0,1] a w;rw[wpOps_cons];refine ZmY (S0:=S0) (D:=D0 N) hC B (fun a v ha=>D0.put a _ v ha) (ops:=#[z,o]) (i:=0) (o:=z) rfl (ZoI h3 A) (hr.frzs (kp:=kp) (id:=id)) fun E w1 ag=>?_;rw[wpOps_cons];unfold wpOp;show (if Region.wanted o (yielded #[z,o] E.tmps) then _ else _);rw[if_pos (by unfold Region.wanted;simp[h6])];refine .inl ?_;obtain⟨rfl,rfl⟩:=ba;obtain⟨V,rfl,bb,aj,ai,M,am,bd⟩:=ag
 have ae:x<(frzs kp id s).1.length:=by
  have:=M.1;simp only[h2,Xf,List.length_set]at this;omega
 have hv:=M.getD x
 have ad:(Xf (frzs kp id s).1 z.dst (.fn (.func g) (X.toList.map (eval C (frzs kp id s).1)) (W.toList.map (eval C (frzs kp id s).1)))).getD x (.tuple [])=.fn (.func g) (X.toList.map (eval C (frzs kp id s).1)) (W.toList.map (eval C (frzs kp id s).1)):=by
  rw[h2];simp only[Xf];rw[List.getD_eq_getElem?_getD,List.getElem?_set_self ae];rfl
 rw[ad]at hv;have Q:E.eval (.tmp x)=E.tmps.getD x undef:=rfl;generalize hu:E.tmps.getD x undef=u at hv Q;cases hv with|fn _ _ _ F K hF hK ag hr2 =>
 have ah:(execOp E.eval o).run C.P V.w=.ok (.defer { target:=.fn (.func g) K,args:=F++#[] }) V.w:=by
  simp[execOp,h4,resolve,h7,h8,Q,Deferred.ofValue]
 show o.wp C.P E V.w _ _;unfold Oper.wp;rw[ah,Oper.upon_defer,h5]
 have ax:Rel C W0 S0 (D1 { target:=.fn (.func g) K,args:=F++#[] } x (.func (.func g) F K)) (Xf (frzs kp id s).1 z.dst (.fn (.func g) (X.toList.map (eval C (frzs kp id s).1)) (W.toList.map (eval C (frzs kp id s).1))),(frzs kp id s).2)
  {E with defers:={ target:=.fn (.func g) K,args:=F++#[] }::E.defers } V.w:=⟨V,rfl,bb,aj,ai,M,by rw[am],Q⟩
 show b.wp C.P (QD C W0 S0 s') { E with defers:={ target:=.fn (.func g) K,args:=F++#[] }::E.defers } V.w;rw[ZgJ]at h
 cases hy:Zs C cl kp n (.block 900001 (Xb 900001 b)) (trim kp (.seq (.block 900001 (Xb 900001 b)) (.seq (.region 900002 #[{ o with op:=.call c }] false) .ret)) (Xf (frzs kp id s).1 z.dst (.fn (.func g) (X.toList.map (eval C (frzs kp id s).1)) (W.toList.map (eval C (frzs kp id s).1))),(frzs kp id s).2)) with
 |none=>rw[hy]at h;cases h
 |some p =>
 obtain⟨e2,s2⟩:=p;rw[hy]at h
 have U:e2=.normal/\∃ Z,(Z=.normal\/Z=.ret)/\Zs C cl kp n b (trim kp (.seq (.block 900001 (Xb 900001 b)) (.seq (.region 900002 #[{ o with op:=.call c }] false) .ret)) (Xf (frzs kp id s).1 z.dst (.fn (.func g) (X.toList.map (eval C (frzs kp id s).1)) (W.toList.map (eval C (frzs kp id s).1))),(frzs kp id s).2))=some (Z,s2):=by
  cases e2 with
  |normal =>
   rcases Zlb hb.2 hy with h|h
   ·exact⟨rfl,_,.inl rfl,h⟩
   ·exact⟨rfl,_,.inr rfl,h⟩
  |ret=>exact (Zmq hb.2 hy).elim
  |exit i =>
   simp only[zA,zC]at h;obtain⟨rfl,_⟩:=h;rcases L with L|L <;> cases L
  |goto l =>
   simp only[zA,zC]at h;obtain⟨rfl,_⟩:=h;rcases L with L|L <;> cases L
 obtain⟨rfl,Z,ap,U⟩:=U;dsimp only at h;refine wp_mono (ZeS hC B ar b _ s2 Z _ _ (D1.keeps b hb.1) U ax.trim) fun e' a3 w3 hp=>?_;obtain⟨rfl,au⟩:=hp;rw[ZgJ]at h
 cases hz:Zs C cl kp n (.region 900002 #[{ o with op:=.call c }] false) (trim kp (.seq (.region 900002 #[{ o with op:=.call c }] false) .ret) s2) with
 |none=>rw[hz]at h;cases h
 |some p =>
 obtain⟨e4,s4⟩:=p;obtain⟨rfl,v,H',j,rfl⟩:=Zmr (o:={ o with op:=.call c }) h6 hz;rw[hz]at h;dsimp only at h
 have ay:s'=(Xf (frzs kp 900002 (trim kp (.seq (.region 900002 #[{ o with op:=.call c }] false) .ret) s2)).1 none v,H'):=by
  simp only[Zs,zA,zC,h5]at h;exact h.2.symm
 subst ay;have aw:=(au.trim (kp:=kp) (c:=.seq (.region 900002 #[{ o with op:=.call c }] false) .ret)).frzs (kp:=kp) (id:=900002);obtain⟨Y,rfl,bc,ac,ab,O,an,az⟩:=aw;generalize frzs kp 900002 (trim kp (.seq (.region 900002 #[{ o with op:=.call c }] false) .ret) s2)=s5 at j ac O;obtain⟨callee,args,argTypes⟩:=c;dsimp only at h7 h8;subst h7 h8
 have y:Yf C cl (eval C s5.1 (.tmp x)) [] s5.2=some (v,H'):=by
  simp only[Xd,ZT,ZE,zB,if_false]at j;split at j
  ·unfold XA qC at j;split at j
   ·rename_i aq;split at j
    ·rw[aq];exact j
    ·cases j
   ·cases j
  ·exact j
 have R:VRel Y (eval C s5.1 (.tmp x)) (a3.eval (.tmp x)):=O.getD x;rw[az]at R;generalize eval C s5.1 (.tmp x)=av at y R
 have ak:∃ I H,av=.fn (.func g) I H/\F.size=I.length/\K.size=H.length/\(∀ (i:Nat) (a:AV) (u:Value),I[i]?=some a->F[i]?=some u->VRel Y a u)/\(∀ (i:Nat) (a:AV) (u:Value),H[i]?=some a->K[i]?=some u->VRel Y a u):=by
  unfold Yf at y;split at y
  ·cases R with|fn _ _ _ _ _ q1 q2 q3 q4=>exact⟨_,_,rfl,q1,q2,q3,q4⟩
  ·cases y
 obtain⟨I,H,rfl,q1,q2,q3,q4⟩:=ak;rw[ZnN aa]at y;obtain⟨p1,p2,p3,p4,p5,p6,p7⟩:=ZbS aa;have al:=J g _ _ _ _ p7 y Y (F++#[]++K) ac ab (by simp[q1,q2]) (ZeO (S:=Y) (by simp[q1]) (ZeO q1 q3 (fun i a u ha _=>by simp at ha)) q4) .returning;refine⟨?_,.inr ⟨.func g,K,F++#[],g,F++#[]++K,an,?_,al.mono ?_⟩⟩
 ·rcases ap with rfl|rfl
  ·exact .inl rfl
  ·exact .inr rfl
 ·simp only[invoke];exact hC.2.1 g p1 _ _
 ·rintro e u w' ⟨rfl,v',S',rfl,hw,T,hI,hv⟩
  exact⟨rfl,⟨v',rfl⟩,S',hw,bc.trans T,hI,ab.mono T,O.mono T,trivial⟩
theorem Zrv (M:Um C)(g:XT C W0 cl)(z:OV C cl)(A:Xy cl):∀ (c:Code) (s s':St) (e:AExit) (a:Act) (w:World),
 Zs C cl kp n (BI C N c) s=some (e,s')->(e=.normal\/e=.ret)->Rel C W0 S0 (D0 N) s a w->c.wp C.P (QD C W0 S0 s') a w:=by
 intro c
 have u:∀ (c:Code) (s s':St) (e:AExit) (a:Act) (w:World),Zs C cl kp n c s=some (e,s')->(e=.normal\/e=.ret)->Rel C W0 S0 (D0 N) s a w->c.wp C.P (QD C W0 S0 s') a w:=by
  intro c s s' e a w h j B;refine wp_mono (ZeS M g A c s s' e a w (ZaI D0.put c) h B) fun U a' w' Q=>?_;obtain⟨rfl,S,F,H,I,J,K,L⟩:=Q;refine⟨?_,.inl ⟨S,F,H,I,J,K,L.1⟩⟩;rcases j with rfl|rfl
  ·exact .inl rfl
  ·exact .inr rfl
 induction c with
 |seq x b W R =>
  intro s s' e a w h j B
  have VQ:Zs C cl kp n (.seq x (BI C N b)) s=some (e,s')->(Code.seq x b).wp C.P (QD C W0 S0 s') a w:=by
   intro h;simp only[Zs]at h
   cases D:Zs C cl kp n x s with
   |none=>simp[D]at h
   |some p =>
    obtain⟨T,X⟩:=p;refine wp_seq (wp_mono (ZeS M g A x s X T a w (ZaI D0.put x) D B) fun U a' w' Q=>?_);obtain⟨rfl,E⟩:=Q
    cases T with
    |normal =>
     simp only[D]at h;exact R _ s' e a' w' h j E.trim
    |ret =>
     simp only[D,zA,zC]at h;obtain⟨_,rfl⟩:=h;obtain⟨S,F,H,I,J,K,L⟩:=E;exact⟨.inr rfl,.inl ⟨S,F,H,I,J,K,L.1⟩⟩
    |exit i =>
     simp only[D,zA,zC]at h;obtain⟨rfl,_⟩:=h;rcases j with j|j <;> cases j
    |goto l =>
     simp only[D,zA,zC]at h;obtain⟨rfl,_⟩:=h;rcases j with j|j <;> cases j
  simp only[BI]at h;split at h
  ·rename_i id ops;split at h
   ·rename_i Y Z y O;split at h
    ·rename_i V;exact ZnA M g z A O V h j B
    ·exact u _ s s' e a w h j B
   ·exact VQ h
  ·exact VQ h
 |_=>intro s s' e a w h j B;exact u _ s s' e a w h j B
end
theorem Zo0 (hC:Um C){cl:ZF}(E:XT C W0 cl)(z:OV C cl)(Z:Xy cl){n:Nat}{f:FuncId}{fn:Func}{c:Code}(hf:C.P.funcs[f]?=some fn)(hb:fn.body=some c){args:List AV}{H H':Hp}{v:AV}
 (h:body C cl n f fn (BI C fn.ntmps c) args H=some (v,H')) {S:Snap} {args':Array Value} (W:Inv W0 S H) (hG:GlobOk C S) (hs:args'.size=args.length) (ha:∀ (i:Nat) (a:AV) (u:Value),args[i]?=some a->args'[i]?=some u->VRel S a u) :
 Calls C.P f args' S.w fun e w'=>∃ v' j,e=.returned v'/\j.w=w'/\Ext S j/\Inv W0 j H'/\VRel j v v':=by
 unfold body at h;refine calls_of_wp_defers hf hb ?_;have L:=ZkN W hG hs ha fn.ntmps
 have J:∀ (s:St) (e:AExit),Zs C cl (C.keep f) n (BI C fn.ntmps c) (args++zE (fn.ntmps-args.length) .undef,H)=some (e,s)->(e=.normal\/e=.ret) ->
  (match Uc C fn s with|some v=>FR C f H (v,s.2)|none=>none)=some (v,H') ->
  c.wp C.P (bodyPostD C.P fn fun e w'=>∃ v' j,e=.returned v'/\j.w=w'/\Ext S j/\Inv W0 j H'/\VRel j v v') { tmps:=args'++zJ (fn.ntmps-args'.size) undef,defers:=[] } S.w:=by
  intro s e y he hr;refine wp_mono (Zrv hC E z Z c _ s e _ _ y he L) fun e' a w hq=>?_;obtain⟨Y,hq⟩:=hq
  have A:Leaves C.P fn a.tmps (fun e w'=>∃ v' j,e=.returned v'/\j.w=w'/\Ext S j/\Inv W0 j H'/\VRel j v v') a.defers .returning w:=by
   rcases hq with ⟨S1,rfl,I,D,V,B,F⟩|⟨fv,cap,M,g,as,hd,K,X⟩
   ·obtain⟨u,O,j,Q,R,T,U⟩:=A0 W I D B hr;have F:a.defers=[]:=F;rw[F];exact⟨u,O,u,j,rfl,Q,R,T,U⟩
   ·rw[hd];refine leaves_cons (by simp) K (X.mono ?_)
    rintro e u w' ⟨rfl,⟨v',rfl⟩,S1,rfl,I,D,V,B,_⟩
    obtain⟨u,O,j,Q,R,T,U⟩:=A0 W I D B hr;exact⟨u,O,u,j,rfl,Q,R,T,U⟩
  rcases Y with rfl|rfl
  ·exact A
  ·exact A
 cases y:Zs C cl (C.keep f) n (BI C fn.ntmps c) (args++zE (fn.ntmps-args.length) .undef,H) with
 |none=>simp[y]at h
 |some p =>
  obtain⟨e,s⟩:=p
  cases e with
  |normal =>
   simp only[y]at h;exact J s _ y (.inl rfl) h
  |ret =>
   simp only[y]at h;exact J s _ y (.inr rfl) h
  |_=>simp[y]at h
theorem Zo3 (w:Um C):∀ n,XT C W0 (call C n)/\OV C (call C n):=by
 intro n
 induction n with
 |zero=>exact⟨fun {W1} f args H H' v h=>by simp[call]at h,fun {W1} f args H H' v _ h=>by simp[call]at h⟩
 |succ n y =>
  have key:∀ {W1:World},XT C W1 (call C n):=fun {W1}=>y.1;refine⟨fun {W1} f args H H' v h S args' hI hG hs ha=>?_,fun {W1} f args H H' v j h S args' hI hG hs ha u0=>?_⟩
  ·simp only[call]at h;split at h
   ·cases h
   ·rename_i fn u;unfold Tq at h
    cases j:C.dfr f with
    |false =>
     rw[j]at h;dsimp only at h;split at h
     ·cases h
     ·rename_i c g;exact ZpX w (key (W1:=W1)) (NF C n) u g h hI hG hs ha
    |true =>
     rw[j]at h;dsimp only at h
     cases g:fn.body with
     |none=>rw[g]at h;cases h
     |some c =>
      rw[g]at h;exact Zo0 w (key (W1:=W1)) y.2 (NF C n) u g h hI hG hs ha
  ·simp only[call]at h;split at h
   ·cases h
   ·rename_i fn u;unfold Tq at h;rw[j]at h;dsimp only at h;split at h
    ·cases h
    ·rename_i c g;exact callsD_of_wp u g (Zp2 w (key (W1:=W1)) (NF C n) h hI hG hs ha)
theorem ZpZ (g:Um C):∀ n,XT C W0 (call C n):=fun n=>(Zo3 (W0:=W0) g n).1
end
end Go.Am
namespace Go.Am
open RowKit
section
variable {C:Cfg}
def Le (c c':ZF):Prop:=∀ f a H r,c f a H=some r->c' f a H=some r
theorem Zie {a:List AV->Hp->Option (AV×Hp)}{args:List AV}{H:Hp}{r:AV×Hp}(h:Zh a args H=some r) :
 ∃ args' q,a args' []=some q/\∀ b:List AV->Hp->Option (AV×Hp),b args' []=some q->Zh b args H=some r:=by
 unfold Zh at h;split at h
 ·rename_i g hm;split at h
  ·rename_i w H1 u;exact⟨g,_,u,fun b j=>by unfold Zh;simp only[hm,j];exact h⟩
  ·cases h
 ·cases h
theorem Zng {a:List AV->Hp->Option (AV×Hp)}{args:List AV}{H:Hp}{r:AV×Hp}(h:JQ a args H=some r) :
 ∃ q,a args H=some q/\∀ b:List AV->Hp->Option (AV×Hp),b args H=some q->JQ b args H=some r:=by
 unfold JQ at h;split at h
 ·rename_i u H1 j;exact⟨_,j,fun b g=>by unfold JQ;simp only[g];exact h⟩
 ·cases h
theorem ZnL {c c':ZF}(h:Le c c'){id:FuncId}{args:List AV}{H:Hp}{r:AV×Hp}(j:Xz C c id args H=some r):Xz C c' id args H=some r:=by
 unfold Xz at j ⊢
 cases A:C.ext id with
 |some e=>simpa[A]using j
 |none =>
  cases w:C.sum id with
  |some g=>simpa[A,w]using j
  |none =>
  cases y:C.eff id with
  |some g=>simpa[A,w,y]using j
  |none =>
  simp only[A,w,y]at j ⊢;by_cases B:C.user id=true
  ·by_cases u:C.flat id=true
   ·simp only[B,u,if_true]at j ⊢;obtain⟨args',q,D,E⟩:=Zie j;exact E _ (h _ _ _ _ D)
   ·by_cases z:C.ro id=true
    ·simp only[B,u,z,zB,if_false,if_true]at j ⊢;obtain⟨q,D,E⟩:=Zng j;exact E _ (h _ _ _ _ D)
    ·simp only[B,u,z,zB,if_false,if_true]at j ⊢;exact h _ _ _ _ j
  ·simp[B]at j
theorem Zaa {c c':ZF}(h:Le c c'){f:AV}{args:List AV}{H:Hp}{r:AV×Hp}(g:Yf C c f args H=some r):Yf C c' f args H=some r:=by
 unfold Yf at g ⊢;split at g
 ·exact ZnL h g
 ·cases g
theorem ZnM {c c':ZF}(h:Le c c'){f:AV}{args:List AV}{H:Hp}{r:AV×Hp}(g:XA C c f args H=some r):XA C c' f args H=some r:=by
 unfold XA qC at g ⊢;split at g
 ·split at g
  ·rename_i j;rw[if_pos j];exact Zaa h g
  ·cases g
 ·cases g
theorem ZpE {c c':ZF}(h:Le c c'){ev:Operand->AV}{H:Hp}{op:Op}{r:AV×Hp}(g:ZE C c ev H op=some r):ZE C c' ev H op=some r:=by
 cases op <;> try exact g
 case makeMap t r=>cases r <;> exact g
 case call cl =>
  obtain⟨callee,args,u⟩:=cl
  cases callee with
  |value f =>
   simp only[ZE]at g ⊢;split at g
   ·rename_i j;rw[if_pos j];exact ZnM h g
   ·rename_i j;rw[if_neg j];exact Zaa h g
  |invoke r m =>
   simp only[ZE]at g ⊢;unfold ZlM at g ⊢;split at g
   ·split at g
    ·exact Zaa h g
    ·cases g
   ·cases g
  |builtin b=>cases b <;> exact g
theorem ZuJ {c c':ZF}(h:Le c c'){ev:Operand->AV}{H:Hp}{fl:Bool}{op:Op}{r:AV×Hp}(g:Xd C c ev H fl op=some r):Xd C c' ev H fl op=some r:=by
 unfold Xd at g ⊢;split at g
 ·exact g
 ·split at g
  ·cases g
  ·rename_i j;rw[if_neg j];exact ZpE h g
theorem Zr0 {c c':ZF}(h:Le c c'){ops:Array Oper}{fl:Bool}{o:Oper}{s r:St}(g:Ul C c ops fl o s=some r):Ul C c' ops fl o s=some r:=by
 unfold Ul Yx at g ⊢
 cases hw:WP ops s.1 o with
 |none=>simp[hw]at g
 |some b =>
  cases b with
  |false=>simp only[hw]at g ⊢;exact g
  |true =>
   simp only[hw]at g ⊢
   cases j:Xd C c (eval C s.1) s.2 fl o.op with
   |none=>simp[j]at g
   |some q=>rw[ZuJ h j];rw[j]at g;exact g
theorem ZiJ {c c':ZF}(h:Le c c'){ops:Array Oper}{draw:Bool}{b i:Nat}{o:Oper}{s r:St}(g:W7 C c ops draw b i o s=some r):W7 C c' ops draw b i o s=some r:=by
 unfold W7 at g ⊢;by_cases j:(draw&&VC C ops i)=true
 ·rw[if_pos j]at g ⊢;exact g
 ·rw[if_neg j]at g ⊢;exact Zr0 h g
theorem SK {c c':ZF}(h:Le c c'){ops:Array Oper}{draw:Bool}{b:Nat}:∀ (l:List Oper) (i:Nat) (s r:St),Yt C c ops draw b i l s=some r->Yt C c' ops draw b i l s=some r:=by
 intro l
 induction l with
 |nil=>intro i s r g;exact g
 |cons o l u =>
  intro i s r g;unfold Yt at g ⊢;split at g
  ·rename_i s' j;rw[ZiJ h j];exact u _ _ _ g
  ·cases g
theorem Zb1 {f g:St->Option (AExit×St)}(h:∀ s r,f s=some r->g s=some r):∀ (n m:Nat) (s:St) (r:AExit×St),n<=m->W6 f n s=some r->W6 g m s=some r:=by
 intro n
 induction n with
 |zero=>intro m s r _ j;cases j
 |succ n w =>
  intro m s r hm j;obtain⟨m,rfl⟩:∃ k,m=k+1:=⟨m-1,by omega⟩;unfold W6 at j ⊢
  cases u:f s with
  |none=>simp[u]at j
  |some p =>
   rw[h s p u];obtain⟨e,s'⟩:=p
   cases e with
   |normal=>simp only[u]at j ⊢;exact w m s' r (by omega) j
   |_=>simpa[u]using j
theorem B2 {c c':ZF}(h:Le c c'){kp:Nat->Option (List Nat)}{n m:Nat}(B:n<=m):∀ (A:Code) (s:St) (r:AExit×St),Zs C c kp n A s=some r->Zs C c' kp m A s=some r:=by
 intro A
 induction A with
 |region id ops draw =>
  intro s r g;simp only[Zs]at g ⊢;split at g
  ·cases g
  ·rename_i D;rw[if_neg D];split at g
   ·rename_i s' F;rw[SK h _ _ _ _ F];exact g
   ·cases g
 |seq x y u w =>
  intro s r g;simp only[Zs]at g ⊢
  cases j:Zs C c kp n x s with
  |none=>simp[j]at g
  |some p =>
   rw[u s p j];obtain⟨e,s'⟩:=p
   cases e with
   |normal=>simp only[j]at g ⊢;exact w _ _ g
   |_=>simpa[j]using g
 |cond o x y u w =>
  intro s r g;simp only[Zs]at g ⊢;split at g
  ·rename_i t H
   cases t with
   |true=>exact u _ _ (by simpa using g)
   |false=>exact w _ _ (by simpa using g)
  ·cases g
 |block id x z =>
  intro s r g;simp only[Zs]at g ⊢
  cases j:Zs C c kp n x s with
  |none=>simp[j]at g
  |some p=>rw[z s p j];rw[j]at g;exact g
 |loop x z =>
  intro s r g;simp only[Zs]at g ⊢;exact Zb1 (fun s r=>z (trim kp x s) r) n m s r B g
 |scope x z =>
  intro s r g;simp only[Zs]at g ⊢;split at g
  ·rename_i E;rw[if_pos E];exact z s r g
  ·cases g
 |_=>intro s r g;exact g
theorem Zs6 {c c':ZF}(h:Le c c'){n m:Nat}(u:n<=m){f:FuncId}{fn:Func}{j:Code}{args:List AV}{H:Hp}{r:AV×Hp}(g:body C c n f fn j args H=some r):body C c' m f fn j args H=some r:=by
 unfold body at g ⊢
 cases w:Zs C c (C.keep f) n j (args++zE (fn.ntmps-args.length) .undef,H) with
 |none=>simp[w]at g
 |some p=>rw[B2 h u _ _ _ w];rw[w]at g;exact g
theorem Qu:∀ (n m:Nat),n<=m->Le (call C n) (call C m):=by
 intro n
 induction n with
 |zero=>intro m _ f a H r g;cases g
 |succ n h =>
  intro m hm f a H r g;obtain⟨m,rfl⟩:∃ k,m=k+1:=⟨m-1,by omega⟩;simp only[call]at g ⊢;split at g
  ·cases g
  ·rename_i fn w;split at g
   ·cases g
   ·rename_i j u;exact Zs6 (h m (by omega)) (by omega) g
open Classical in
noncomputable def lim {α:Type}(f:Nat->Option α):Option α:=if h:∃ n r,f n=some r then some h.choose_spec.choose else none
theorem ZmN {α:Type}{f:Nat->Option α}(hm:∀ n m r,n<=m->f n=some r->f m=some r){r:α}:lim f=some r↔∃ n,f n=some r:=by
 unfold lim;constructor
 ·intro h;split at h
  ·rename_i g;injection h with h;exact⟨g.choose,h ▸ g.choose_spec.choose_spec⟩
  ·cases h
 ·rintro⟨n,hn⟩
  have g:∃ n r,f n=some r:=⟨n,r,hn⟩;rw[dif_pos g];have u:=hm _ (max g.choose n) _ (zG _ _) g.choose_spec.choose_spec;have j:=hm _ (max g.choose n) _ (zF _ _) hn;rw[u]at j;exact j
noncomputable def Zb (C:Cfg):ZF:=fun f a H=>lim fun n=>call C n f a H
theorem Qv {f:FuncId}{a:List AV}{H:Hp}{r:AV×Hp}:Zb C f a H=some r↔∃ n,call C n f a H=some r:=ZmN fun n m r h g=>Qu n m h f a H r g
noncomputable def Yz (C:Cfg)(kp:Nat->Option (List Nat))(c:Code)(s:St):Option (AExit×St):=lim fun n=>Zs C (call C n) kp n c s
theorem ZU {kp:Nat->Option (List Nat)}{c:Code}{s:St}{r:AExit×St}:Yz C kp c s=some r↔∃ n,Zs C (call C n) kp n c s=some r :=
 ZmN fun n m r h g=>B2 (Qu n m h) h c s r g
theorem Zl5 (n:Nat):Le (call C n) (Zb C):=fun _ _ _ _ h=>Qv.2 ⟨n,h⟩
theorem Zxb {id:FuncId}{args:List AV}{H:Hp}{r:AV×Hp}(h:Xz C (Zb C) id args H=some r):∃ n,Xz C (call C n) id args H=some r:=by
 unfold Xz at h
 cases z:C.ext id with
 |some e=>exact⟨0,by unfold Xz;simpa[z]using h⟩
 |none =>
  cases u:C.sum id with
  |some g=>exact⟨0,by unfold Xz;simpa[z,u]using h⟩
  |none =>
  cases w:C.eff id with
  |some g=>exact⟨0,by unfold Xz;simpa[z,u,w]using h⟩
  |none =>
  simp only[z,u,w]at h;by_cases A:C.user id=true
  ·by_cases j:C.flat id=true
   ·simp only[A,j,if_true]at h;obtain⟨args',q,D,E⟩:=Zie h;obtain⟨n,B⟩:=Qv.1 D;exact⟨n,by unfold Xz;simp only[z,u,w,A,j,if_true];exact E _ B⟩
   ·by_cases y:C.ro id=true
    ·simp only[A,j,y,zB,if_false,if_true]at h;obtain⟨q,D,E⟩:=Zng h;obtain⟨n,B⟩:=Qv.1 D;exact⟨n,by unfold Xz;simp only[z,u,w,A,j,y,zB,if_false,if_true];exact E _ B⟩
    ·simp only[A,j,y,zB,if_false,if_true]at h;obtain⟨n,B⟩:=Qv.1 h;exact⟨n,by unfold Xz;simp only[z,u,w,A,j,y,zB,if_false,if_true];exact B⟩
  ·simp[A]at h
theorem ZlL {f:AV}{args:List AV}{H:Hp}{r:AV×Hp}(h:Yf C (Zb C) f args H=some r):∃ n,Yf C (call C n) f args H=some r:=by
 unfold Yf at h;split at h
 ·exact Zxb h
 ·cases h
theorem Zxc {f:AV}{args:List AV}{H:Hp}{r:AV×Hp}(h:XA C (Zb C) f args H=some r):∃ n,XA C (call C n) f args H=some r:=by
 unfold XA qC at h ⊢;split at h
 ·split at h
  ·rename_i j;obtain⟨n,g⟩:=ZlL h;exact⟨n,by rw[if_pos j];exact g⟩
  ·cases h
 ·cases h
theorem Zyq {ev:Operand->AV}{H:Hp}{op:Op}{r:AV×Hp}(h:ZE C (Zb C) ev H op=some r):∃ n,ZE C (call C n) ev H op=some r:=by
 cases op <;> try exact⟨0,h⟩
 case makeMap t r=>cases r <;> exact⟨0,h⟩
 case call cl =>
  obtain⟨callee,args,j⟩:=cl
  cases callee with
  |value f =>
   simp only[ZE]at h ⊢;split at h
   ·rename_i g;simp only[if_pos g];exact Zxc h
   ·rename_i g;simp only[if_neg g];exact ZlL h
  |invoke r m =>
   simp only[ZE]at h ⊢;unfold ZlM at h ⊢;split at h
   ·split at h
    ·exact ZlL h
    ·cases h
   ·cases h
  |builtin b=>cases b <;> exact⟨0,h⟩
theorem ZzH {ev:Operand->AV}{H:Hp}{fl:Bool}{op:Op}{r:AV×Hp}(h:Xd C (Zb C) ev H fl op=some r):∃ n,Xd C (call C n) ev H fl op=some r:=by
 unfold Xd at h ⊢;split at h
 ·exact⟨0,h⟩
 ·split at h
  ·cases h
  ·rename_i g;obtain⟨n,j⟩:=Zyq h;exact⟨n,by rw[if_neg g];exact j⟩
theorem ZyV {ops:Array Oper}{fl:Bool}{o:Oper}{s r:St}(h:Ul C (Zb C) ops fl o s=some r):∃ n,Ul C (call C n) ops fl o s=some r:=by
 unfold Ul Yx at h ⊢
 cases hw:WP ops s.1 o with
 |none=>simp[hw]at h
 |some b =>
  cases b with
  |false=>simp only[hw]at h ⊢;exact⟨0,h⟩
  |true =>
   simp only[hw]at h ⊢
   cases g:Xd C (Zb C) (eval C s.1) s.2 fl o.op with
   |none=>simp[g]at h
   |some q =>
    obtain⟨n,j⟩:=ZzH g;exact⟨n,by rw[j];rw[g]at h;exact h⟩
theorem ZyZ {ops:Array Oper}{draw:Bool}{b i:Nat}{o:Oper}{s r:St}(h:W7 C (Zb C) ops draw b i o s=some r):∃ n,W7 C (call C n) ops draw b i o s=some r:=by
 unfold W7 at h ⊢;by_cases g:(draw&&VC C ops i)=true
 ·rw[if_pos g]at h;simp only[if_pos g];exact⟨0,h⟩
 ·rw[if_neg g]at h;simp only[if_neg g];exact ZyV h
theorem Zvp {ops:Array Oper}{draw:Bool}{b:Nat}:∀ (l:List Oper) (i:Nat) (s r:St),Yt C (Zb C) ops draw b i l s=some r->∃ n,Yt C (call C n) ops draw b i l s=some r:=by
 intro l
 induction l with
 |nil=>intro i s r h;exact⟨0,h⟩
 |cons o l u =>
  intro i s r h;unfold Yt at h;split at h
  ·rename_i s' j;obtain⟨n,g⟩:=ZyZ j;obtain⟨m,hm⟩:=u _ _ _ h;refine⟨max n m,?_⟩;unfold Yt;rw[ZiJ (Qu n _ (zG n m)) g];exact SK (Qu m _ (zF n m)) _ _ _ _ hm
  ·cases h
section
variable {kp:Nat->Option (List Nat)}
theorem Zms (id:Nat)(ops:Array Oper)(draw:Bool)(s:St):Yz C kp (.region id ops draw) s =
 if draw&&!(Vf ops&&Fc C ops (eval C (frzs kp id s).1)) then none else match Yt C (Zb C) ops draw (frzs kp id s).2.length 0 ops.toList ((frzs kp id s).1,QL (if draw then VD C ops ops.size else 0) (frzs kp id s).2) with
  |some s'=>some (.normal,s')
  |none=>none:=by
 apply zI;intro r;rw[ZU];constructor
 ·rintro⟨n,g⟩
  simp only[Zs]at g;split at g
  ·cases g
  ·rename_i j;rw[if_neg j];split at g
   ·rename_i s' u;rw[SK (Zl5 n) _ _ _ _ u];exact g
   ·cases g
 ·intro h;split at h
  ·cases h
  ·rename_i j;split at h
   ·rename_i s' u;obtain⟨n,g⟩:=Zvp _ _ _ _ u;exact⟨n,by simp only[Zs];rw[if_neg j,g];exact h⟩
   ·cases h
theorem ZsD (a b:Code)(s:St):Yz C kp (.seq a b) s=match Yz C kp a s with
 |some (.normal,s')=>Yz C kp b (trim kp b s')
 |r=>r:=by
 apply zI;intro r;rw[ZU];constructor
 ·rintro⟨n,j⟩
  simp only[Zs]at j
  cases g:Zs C (call C n) kp n a s with
  |none=>simp[g]at j
  |some p =>
   rw[ZU.2 ⟨n,g⟩];obtain⟨e,s'⟩:=p
   cases e with
   |normal=>simp only[g]at j ⊢;exact ZU.2 ⟨n,j⟩
   |_=>simpa[g]using j
 ·intro h
  cases g:Yz C kp a s with
  |none=>simp[g]at h
  |some p =>
   obtain⟨n,j⟩:=ZU.1 g;obtain⟨e,s'⟩:=p
   cases e with
   |normal =>
    simp only[g]at h;obtain⟨m,hm⟩:=ZU.1 h;refine⟨max n m,?_⟩;simp only[Zs];rw[B2 (Qu n _ (zG n m)) (zG n m) _ _ _ j];exact B2 (Qu m _ (zF n m)) (zF n m) _ _ _ hm
   |_=>exact⟨n,by simp only[Zs];rw[j];simpa[g]using h⟩
theorem Zqf (o:Operand)(x y:Code)(s:St):Yz C kp (.cond o x y) s=match eval C s.1 o with
 |.bool t=>if t then Yz C kp x s else Yz C kp y s
 |_=>none:=by
 apply zI;intro r;rw[ZU];simp only[Zs];generalize eval C s.1 o=v
 cases v with
 |bool t=>cases t <;> simp[ZU]
 |_=>simp
theorem Zoi (id:Nat)(c:Code)(s:St):Yz C kp (.block id c) s=match Yz C kp c s with
 |some (.exit i,s')=>if i=id then some (.normal,s') else some (.exit i,s')
 |r=>r:=by
 apply zI;intro r;rw[ZU];constructor
 ·rintro⟨n,j⟩
  simp only[Zs]at j
  cases g:Zs C (call C n) kp n c s with
  |none=>simp[g]at j
  |some p=>rw[ZU.2 ⟨n,g⟩];rw[g]at j;exact j
 ·intro h
  cases g:Yz C kp c s with
  |none=>simp[g]at h
  |some p =>
   obtain⟨n,j⟩:=ZU.1 g;exact⟨n,by simp only[Zs];rw[j];rw[g]at h;exact h⟩
theorem Zok (c:Code)(s:St):Yz C kp (.scope c) s=if XJ c then Yz C kp c s else none:=by
 apply zI;intro r;rw[ZU];simp only[Zs];by_cases g:XJ c=true
 ·simp only[g,if_true];rw[ZU]
 ·simp[g]
theorem Ty (c:Code)(s:St):Yz C kp (.loop c) s=match Yz C kp c (trim kp c s) with
 |some (.normal,s')=>Yz C kp (.loop c) s'
 |r=>r:=by
 apply zI;intro r;rw[ZU];constructor
 ·rintro⟨n,g⟩
  simp only[Zs]at g
  cases n with
  |zero=>cases g
  |succ n =>
   unfold W6 at g
   cases j:Zs C (call C (n+1)) kp (n+1) c (trim kp c s) with
   |none=>simp[j]at g
   |some p =>
    rw[ZU.2 ⟨n+1,j⟩];obtain⟨e,s'⟩:=p
    cases e with
    |normal =>
     simp only[j]at g ⊢;refine ZU.2 ⟨n+1,?_⟩;simp only[Zs];exact Zb1 (fun s r h=>h) n (n+1) s' r (Nat.le_succ _) g
    |_=>simpa[j]using g
 ·intro h
  cases j:Yz C kp c (trim kp c s) with
  |none=>simp[j]at h
  |some p =>
   obtain⟨n,g⟩:=ZU.1 j;obtain⟨e,s'⟩:=p
   cases e with
   |normal =>
    simp only[j]at h;obtain⟨m,hm⟩:=ZU.1 h;simp only[Zs]at hm;have w:=zG n m;have u:=zF n m;refine⟨max n m+1,?_⟩;simp only[Zs];unfold W6;rw[B2 (Qu n (max n m+1) (by omega)) (m:=max n m+1) (by omega) _ _ _ g];exact Zb1 (fun s r h=>B2 (Qu m (max n m+1) (by omega)) (by omega) _ _ _ h) m (max n m) s' r u hm
   |_ =>
    simp only[j]at h;refine⟨n+1,?_⟩;simp only[Zs];unfold W6;rw[B2 (Qu n (n+1) (by omega)) (m:=n+1) (by omega) _ _ _ g];exact h
theorem Zqi (s:St):Yz C kp .skip s=some (.normal,s):=ZU.2 ⟨0,rfl⟩
theorem Zoj (l:Nat)(s:St):Yz C kp (.label l) s=some (.normal,s):=ZU.2 ⟨0,rfl⟩
theorem Zqg (i:Nat)(s:St):Yz C kp (.exit i) s=some (.exit i,s):=ZU.2 ⟨0,rfl⟩
theorem Zqh (i:Nat)(s:St):Yz C kp (.goto i) s=some (.goto i,s):=ZU.2 ⟨0,rfl⟩
theorem ZsC (s:St):Yz C kp .ret s=some (.ret,s):=ZU.2 ⟨0,rfl⟩
theorem Zi8 {c:Code}{s:St}(h:∀ n,Zs C (call C n) kp n c s=none):Yz C kp c s=none:=by
 cases j:Yz C kp c s with
 |none=>rfl
 |some r=>obtain⟨n,g⟩:=ZU.1 j;rw[h n]at g;cases g
end
theorem ZuT {f:FuncId}{fn:Func}{c:Code}(w:C.P.funcs[f]?=some fn)(u:Tq C f fn=some c)(args:List AV)(H:Hp):Zb C f args H =
 match Yz C (C.keep f) c (args++zE (fn.ntmps-args.length) .undef,H) with
 |some (.normal,s)|some (.ret,s)=>match Uc C fn s with
  |some v=>FR C f H (v,s.2)
  |none=>none
 |_=>none:=by
 apply zI;intro r;rw[Qv];constructor
 ·rintro⟨n,g⟩
  cases n with
  |zero=>cases g
  |succ n =>
   simp only[call,w,u]at g;unfold body at g
   cases j:Zs C (call C n) (C.keep f) n c (args++zE (fn.ntmps-args.length) .undef,H) with
   |none=>simp[j]at g
   |some p=>rw[ZU.2 ⟨n,j⟩];rw[j]at g;exact g
 ·intro h
  cases j:Yz C (C.keep f) c (args++zE (fn.ntmps-args.length) .undef,H) with
  |none=>simp[j]at h
  |some p =>
   obtain⟨n,g⟩:=ZU.1 j;refine⟨n+1,?_⟩;simp only[call,w,u];unfold body;rw[g];rw[j]at h;exact h
theorem ZfU {W0:World}(g:Um C):XT C W0 (Zb C):=by
 intro W1 f args H H' v h S args' u j z w;obtain⟨n,y⟩:=Qv.1 h;exact ZpZ (W0:=W1) g n f args H H' v y S args' u j z w
end
end Go.Am
namespace Go.Am
open RowKit
abbrev Z4:=Option (AV×Hp)
abbrev Kt:=AExit->St->Z4
def Z0 {α β:Type}(x:Option α)(f:α->Option β):Option β :=
 match x with
 |some a=>f a
 |none=>none
def Zj (c:AV)(x y:Z4):Z4 :=
 match c with
 |.bool t=>if t then x else y
 |_=>none
def Z8 {α:Type}(g:AV)(h:Bool)(els:α)(x:Option α):Option α :=
 match g with
 |.bool b=>if b==h then x else some els
 |.undef=>none
 |_=>some els
def ZaH {α:Type}(ops:Array Oper)(tm:List AV)(o:Oper)(els:α)(x:Option α):Option α :=
 match o.guard with
 |none=>x
 |some (j,want)=>match (match ops[j]? with|some g=>g.dst|none=>none) with
  |none=>some els
  |some d=>match tm[d]? with
   |some g=>Z8 g want els x
   |none=>some els
def Ee (C:Cfg)(s d:TypeId):Nat :=
 match C.P.underlying s,C.P.underlying d with
 |some (.slice _),some .string=>1
 |some .string,some (.slice _)=>if C.wrb d then 2 else 0
 |_,_=>0
def Zeg (C:Cfg)(g:List TypeId):Nat :=
 match g with
 |[t]=>match DJ C.P t with
  |some _=>1
  |none=>0
 |_=>0
def XH (C:Cfg):Op->Nat
 |.call { callee:=.builtin .len,argTypes,.. }=>Zeg C argTypes.toList
 |.call { callee:=.builtin .delete,.. }=>2
 |.convert s d _=>Ee C s d
 |.load _ _=>1
 |.lookup _ _ _ _=>1
 |.alloc _|.box _ _|.store _ _ _|.makeSlice _ _ _=>2
 |.makeMap _ _|.mapUpdate _ _ _ _|.insert _ _ _ _=>2
 |.call { callee:=.value _,.. }=>2
 |.call { callee:=.invoke _ _,.. }=>2
 |.call { callee:=.builtin .append,.. }=>2
 |.call { callee:=.builtin .copy,.. }=>2
 |_=>0
def Qb (x:AV)(H:Hp):Option AV :=
 match JK x with
 |some v=>some v
 |none=>match JB x H with
  |some l=>match Vd l with
   |some s=>some (.str s)
   |none=>none
  |none=>none
def NE (C:Cfg)(ev:Operand->AV)(H:Hp):Op->Option AV
 |.load t a=>match Xr C.P t,Xe C.P t with
  |some g,some sz=>Z3 g sz (ev a) H
  |_,_=>none
 |.lookup t x k ck=>match DJ C.P t with
  |some (d,e)=>match Jr C.P e with
   |some z=>Y7 d z ck (ev x) (ev k) H
   |none=>none
  |none=>none
 |.convert s d x=>match C.P.underlying s,C.P.underlying d with
  |some (.slice e),some .string=>if Zed (C.P.underlying e) then Qb (ev x) H else none
  |_,_=>none
 |.call { callee:=.builtin .len,args,argTypes }=>match args.toList,argTypes.toList with
  |[x],[t]=>match DJ C.P t with
   |some _=>K1 (ev x) H
   |none=>none
  |_,_=>none
 |_=>none
def Zjv (C:Cfg)(CL:ZF)(ops:Array Oper)(fl:Bool)(o:Oper)(k:St->Z4)(tm:List AV)(H:Hp):Z4 :=
 match (if fl then 0 else XH C o.op) with
 |0=>Z0 (ZaH ops tm o (.tuple []) (ZT C (eval C tm) o.op)) fun v=>k (Xf tm o.dst v,H)
 |1=>Z0 (ZaH ops tm o (.tuple []) (NE C (eval C tm) H o.op)) fun v=>k (Xf tm o.dst v,H)
 |_=>Z0 (ZaH ops tm o (.tuple [],H) (ZE C CL (eval C tm) H o.op)) fun r=>k (Xf tm o.dst r.1,r.2)
def Ts (C:Cfg)(CL:ZF)(ops:Array Oper)(draw:Bool)(b:Nat):Nat->List Oper->(St->Z4)->St->Z4
 |_,[],k,s=>k s
 |i,o::rest,k,s=>if draw&&VC C ops i then (if Xp C ops i then none else Z0 (ME (b+VD C ops i) (MT C (eval C s.1) o.op) s.2) fun r=>Ts C CL ops draw b (i+1) rest k (Xf s.1 o.dst r.1,r.2))
  else Zjv C CL ops (draw&&Xp C ops i) o (Ts C CL ops draw b (i+1) rest k) s.1 s.2
abbrev Zbb (g:St->Z4)(k:Kt):Kt:=fun e s =>
 match e with
 |.normal=>g s
 |e=>k e s
abbrev ZdB (id:Nat)(k:Kt):Kt:=fun e s =>
 match e with
 |.exit i=>if i=id then k .normal s else k (.exit i) s
 |e=>k e s
def CX (C:Cfg)(CL:ZF)(g:Code->Kt->St->Z4)(kp:Nat->Option (List Nat)):Code->Kt->St->Z4
 |.skip,k,s=>k .normal s
 |.region id ops draw,k,s=>if draw&&!(Vf ops&&Fc C ops (eval C (frzs kp id s).1)) then none else Ts C CL ops draw (frzs kp id s).2.length 0 ops.toList (fun s'=>k .normal s') ((frzs kp id s).1,QL (if draw then VD C ops ops.size else 0) (frzs kp id s).2)
 |.seq a b,k,s=>CX C CL g kp a (Zbb (fun s'=>CX C CL g kp b k (trim kp b s')) k) s
 |.cond c x y,k,s=>Zj (eval C s.1 c) (CX C CL g kp x k s) (CX C CL g kp y k s)
 |.block id c,k,s=>CX C CL g kp c (ZdB id k) s
 |.loop c,k,s=>g c k (trim kp c s)
 |.scope c,k,s=>if XJ c then CX C CL g kp c k s else none
 |.exit id,k,s=>k (.exit id) s
 |.label _,k,s=>k .normal s
 |.goto l,k,s=>k (.goto l) s
 |.ret,k,s=>k .ret s
 |_,_,_=>none
noncomputable def HN (C:Cfg)(kp:Nat->Option (List Nat))(c:Code)(k:Kt)(s:St):Z4:=Z0 (Yz C kp (.loop c) s) fun p=>k p.1 p.2
def sub:Code->List Nat->Code
 |.seq a _,0::p=>sub a p
 |.seq _ b,1::p=>sub b p
 |.cond _ x _,0::p=>sub x p
 |.cond _ _ y,1::p=>sub y p
 |.block _ c,0::p=>sub c p
 |.loop c,0::p=>sub c p
 |.scope c,0::p=>sub c p
 |c,_=>c
def Z1 (fn:Func):Code :=
 match fn.body with
 |some c=>c
 |none=>.skip
def UX (C:Cfg)(f:FuncId)(fn:Func):Code :=
 match Tq C f fn with
 |some c=>c
 |none=>.skip
theorem TJ {α β:Type}[BEq α][LawfulBEq α]{l:List (α×β)}{a:α}{b:β}(h:l.lookup a=some b):(a,b)∈l:=by
 induction l with
 |nil=>simp at h
 |cons x l j =>
  obtain⟨c,d⟩:=x;simp only[List.lookup_cons]at h;split at h
  ·rename_i g;injection h with h;subst h;rw[eq_of_beq g];simp
  ·exact List.mem_cons_of_mem _ (j h)
def Oa (P:Program)(f:Nat):Prop:=∀ (args:Array Value) (w:World),(callFunc f args).run P w=.ok (.enter f args) w
theorem ZiX {P:Program}:∀ f∈([]:List Nat),Oa P f:=fun _ h=>by cases h
theorem Z2 {P:Program}{f:Nat}{l:List Nat}(h:Oa P f)(t:∀ g∈l,Oa P g):∀ g∈f::l,Oa P g:=fun g j=>by
 rcases List.mem_cons.1 j with rfl|j
 ·exact h
 ·exact t g j
def Zp8 (l:List (Nat×List (Nat×List Nat)))(f r:Nat):Option (List Nat) :=
 match l.lookup f with
 |some m=>m.lookup r
 |none=>none
section
variable {C:Cfg}{kp:Nat->Option (List Nat)}
theorem Zld (keep:List Nat):∀ (l:List AV) (i:Nat),XK keep i (XK keep i l)=XK keep i l:=by
 intro l
 induction l with
 |nil=>intro i;rfl
 |cons a l g =>
  intro i;simp only[XK,g];split <;> simp_all
theorem ZkR (c:Code)(s:St):trim kp c (trim kp c s)=trim kp c s:=by
 unfold trim
 cases YL c with
 |none=>rfl
 |some r =>
  simp only
  cases kp r with
  |none=>rfl
  |some keep=>simp[Zld]
theorem Zuo (c:Code)(k:Kt)(s:St):HN C kp c k (trim kp c s)=HN C kp c k s:=by
 unfold HN;rw[Ty,Ty (s:=s),ZkR]
theorem ZmR {x:Option AV}{H:Hp}:x.map (fun v=>(v,H))=Z0 x fun v=>some (v,H):=by cases x <;> rfl
theorem ZpP {CL:ZF}{ev:Operand->AV}{H:Hp}{t:TypeId}{x q:Operand}{g:Bool}:Xd C CL ev H false (.lookup t x q g)=(Z0 (NE C ev H (.lookup t x q g)) fun v=>some (v,H)):=by
 simp only[Xd,ZT,ZE,NE,zB,if_false]
 cases DJ C.P t with
 |none=>rfl
 |some p =>
  obtain⟨d,e⟩:=p;simp only
  cases Jr C.P e with
  |none=>rfl
  |some z=>simp only;cases Y7 d z g (ev x) (ev q) H <;> rfl
theorem ZuI {CL:ZF}{ev:Operand->AV}{H:Hp}{t:TypeId}{a:Operand}:Xd C CL ev H false (.load t a)=Z0 (NE C ev H (.load t a)) fun v=>some (v,H):=by
 unfold Xd;simp only[ZT,NE,ZE]
 cases Xr C.P t with
 |none=>rfl
 |some g =>
  cases Xe C.P t with
  |none=>rfl
  |some sz =>
   simp only[zB,if_false];rw[ZmR]
   cases ev a <;> first
    |rfl
    |(simp only[Jy,Z3];generalize apart g sz _ 0=x;cases x <;> rfl)
theorem ZuG {CL:ZF}{ev:Operand->AV}{H:Hp}{s d:TypeId}{x:Operand}(h:Ee C s d=1):Xd C CL ev H false (.convert s d x)=Z0 (NE C ev H (.convert s d x)) fun v=>some (v,H):=by
 unfold Ee at h;split at h
 ·rename_i e j g;unfold Xd;simp only[ZT,NE,ZE,ZhJ,j,g,zB,if_false]
  cases Zed (C.P.underlying e) with
  |false=>rfl
  |true =>
   simp only[if_true];unfold Qb B1
   cases JK (ev x) with
   |some v=>rfl
   |none =>
    simp only
    cases JB (ev x) H with
    |none=>rfl
    |some l=>simp only;cases Vd l <;> rfl
 ·split at h <;> cases h
 ·cases h
theorem Zuz {t:TypeId}{p:TypeDesc×TypeId}{x:AV}(h:DJ C.P t=some p):ZlN C.P t x=none:=by
 obtain⟨d,e⟩:=p;obtain⟨k,g,_⟩:=Ov h;unfold ZlN;rw[g];rfl
theorem Zxh {CL:ZF}{ev:Operand->AV}{H:Hp}{args:Array Operand}{g:Array TypeId}(h:Zeg C g.toList=1):Xd C CL ev H false (.call { callee:=.builtin .len,args:=args,argTypes:=g })=Z0 (NE C ev H (.call { callee:=.builtin .len,args:=args,argTypes:=g })) fun v=>some (v,H):=by
 unfold Xd;simp only[ZT,NE,ZE,zB,if_false];unfold Zeg at h;split at h
 ·rename_i t u;split at h
  ·rename_i p j;rw[u]
   cases args.toList with
   |nil=>rfl
   |cons x l =>
    cases l with
    |nil =>
     simp only[Zuz j,j];exact ZmR
    |cons y l=>rfl
  ·cases h
 ·cases h
theorem ZrR {CL:ZF}{ev:Operand->AV}{H:Hp}{args:Array Operand}{g:Array TypeId}(h:Zeg C g.toList=0):ZE C CL ev H (.call { callee:=.builtin .len,args:=args,argTypes:=g })=none:=by
 simp only[ZE];unfold Zeg at h;split
 ·rename_i x t u j;rw[j]at h;simp only at h;split at h
  ·cases h
  ·rename_i hm;rw[hm]
 ·rfl
theorem Zpa (g:List TypeId):Zeg C g=0\/Zeg C g=1:=by
 unfold Zeg;split
 ·split
  ·exact .inr rfl
  ·exact .inl rfl
 ·exact .inl rfl
theorem ZpF {CL:ZF}{ev:Operand->AV}{H:Hp}{op:Op}(h:XH C op=0):ZE C CL ev H op=none:=by
 cases op with
 |call c =>
  obtain⟨callee,args,y⟩:=c
  cases callee with
  |value f=>simp[XH]at h
  |invoke r m=>simp[XH]at h
  |builtin b=>cases b <;> first|rfl|(exact ZrR h)|(simp[XH]at h;done)
 |convert s d x =>
  simp only[XH,Ee]at h;simp only[ZE];split at h
  ·cases h
  ·rename_i e j g;split at h
   ·cases h
   ·rename_i hw;simp only[j,g,Bool.eq_false_iff.2 hw,zN];rfl
  ·rename_i u w;split
   ·rename_i e j g;exact absurd g (u _ j)
   ·rename_i e j g;exact absurd g (w _ j)
   ·rfl
 |_=>first|rfl|(simp[XH]at h;done)
theorem ZrY {ev:Operand->AV}{op:Op}(h:XH C op=2):ZT C ev op=none:=by
 cases op with
 |call c =>
  obtain⟨callee,args,u⟩:=c
  cases callee with
  |value f=>rfl
  |invoke r m=>rfl
  |builtin b =>
   cases b <;> first
    |rfl
    |(simp[XH]at h;done)
    |(simp only[XH]at h;rcases Zpa (C:=C) u.toList with e|e <;> (rw[e]at h;cases h))
 |convert s d x =>
  simp only[XH,Ee]at h;split at h
  ·cases h
  ·rename_i e j g;split at h
   ·rename_i hw;simp only[ZT,ZhJ,j,g,hw,if_true];split <;> rfl
   ·cases h
  ·cases h
 |_=>first|rfl|(simp[XH]at h;done)
theorem Zv3 (s d:TypeId):Ee C s d=0\/Ee C s d=1\/Ee C s d=2:=by
 unfold Ee;split
 ·simp
 ·split <;> simp
 ·simp
theorem Zt3 (op:Op):XH C op=0\/XH C op=1\/XH C op=2:=by
 unfold XH;split <;> first|exact Zv3 _ _|(rcases Zpa (C:=C) _ with h|h <;> rw[h] <;> simp)|simp
theorem ZuH {CL:ZF}{ev:Operand->AV}{H:Hp}{op:Op}:Xd C CL ev H true op=Z0 (ZT C ev op) fun v=>some (v,H):=by
 unfold Xd;cases ZT C ev op <;> rfl
theorem ZjG {α:Type}{ops:Array Oper}{tm:List AV}{o:Oper}{els:α}{x:Option α}:ZaH ops tm o els x=match WP ops tm o with
 |none=>none
 |some false=>some els
 |some true=>x:=by
 unfold ZaH WP
 cases o.guard with
 |none=>rfl
 |some p =>
  obtain⟨j,h⟩:=p;simp only
  cases ops[j]? with
  |none=>rfl
  |some g =>
   simp only
   cases g.dst with
   |none=>rfl
   |some d =>
    simp only
    cases tm[d]? with
    |none=>rfl
    |some g =>
     cases g with
     |bool b=>simp only[Z8];cases (b==h) <;> rfl
     |_=>rfl
theorem Zw8 {CL:ZF}{ops:Array Oper}{fl:Bool}{o:Oper}{k:St->Z4}{s:St}:Z0 (Ul C CL ops fl o s) k=Zjv C CL ops fl o k s.1 s.2:=by
 obtain⟨tm,H⟩:=s
 have u:∀ (r:Z4),Xd C CL (eval C tm) H fl o.op=r ->
  Z0 (Ul C CL ops fl o (tm,H)) k=Z0 (ZaH ops tm o (.tuple [],H) r) fun r=>k (Xf tm o.dst r.1,r.2):=by
  intro r j;unfold Ul Yx;rw[ZjG]
  cases WP ops tm o with
  |none=>rfl
  |some b =>
   cases b with
   |false=>rfl
   |true=>simp only[j];cases r <;> rfl
 have val:∀ (r:Option AV),Xd C CL (eval C tm) H fl o.op=(Z0 r fun v=>some (v,H)) ->
  Z0 (Ul C CL ops fl o (tm,H)) k=Z0 (ZaH ops tm o (.tuple []) r) fun v=>k (Xf tm o.dst v,H):=by
  intro r j;rw[u _ j,ZjG,ZjG]
  cases WP ops tm o with
  |none=>rfl
  |some b =>
   cases b with
   |false=>rfl
   |true=>cases r <;> rfl
 unfold Zjv
 cases fl with
 |true =>
  simp only[if_true];exact val _ ZuH
 |false =>
  simp only[zB,if_false];rcases Zt3 (C:=C) o.op with h|h|h
  ·rw[h];refine val _ ?_;unfold Xd;have w:=ZpF (C:=C) (CL:=CL) (ev:=eval C tm) (H:=H) h
   cases ZT C (eval C tm) o.op with
   |none=>simp only[zB,if_false];rw[w];rfl
   |some v=>rfl
  ·rw[h]
   cases g:o.op with
   |load t a=>exact val _ (by rw[g];exact ZuI)
   |lookup t x q y=>exact val _ (by rw[g];exact ZpP)
   |convert s d x=>exact val _ (by rw[g];rw[g]at h;exact ZuG h)
   |call c =>
    rw[g]at h;obtain⟨callee,args,z⟩:=c
    cases callee with
    |value f=>simp[XH]at h
    |invoke r m=>simp[XH]at h
    |builtin b=>cases b <;> first|(simp[XH]at h;done)|(exact val _ (by rw[g];exact Zxh h))
   |_=>rw[g]at h;simp[XH]at h
  ·rw[h];refine u _ ?_;unfold Xd;rw[ZrY h];rfl
theorem Zqd {CL:ZF}{ops:Array Oper}{draw:Bool}{b:Nat}{k:St->Z4}:∀ (l:List Oper) (i:Nat) (s:St),Z0 (Yt C CL ops draw b i l s) k=Ts C CL ops draw b i l k s:=by
 intro l
 induction l with
 |nil=>intro i s;rfl
 |cons o l j =>
  intro i s;unfold Yt Ts W7;by_cases h:(draw&&VC C ops i)=true
  ·rw[if_pos h,if_pos h];by_cases g:Xp C ops i=true
   ·rw[if_pos g,if_pos g];rfl
   ·rw[if_neg g,if_neg g]
    cases ME (b+VD C ops i) (MT C (eval C s.1) o.op) s.2 with
    |none=>rfl
    |some p=>exact j (i+1) _
  ·rw[if_neg h,if_neg h,<-Zw8]
   cases Ul C CL ops (draw&&Xp C ops i) o s with
   |none=>rfl
   |some s'=>exact j (i+1) s'
theorem ZwX:∀ (c:Code) (k:Kt) (s:St),CX C (Zb C) (HN C kp) kp c k s=Z0 (Yz C kp c s) fun p=>k p.1 p.2:=by
 intro c
 induction c with
 |skip=>intro k s;rw[Zqi];rfl
 |region id ops draw =>
  intro k s;rw[Zms];simp only[CX];split
  ·rfl
  ·rw[<-Zqd];cases Yt C (Zb C) ops draw (frzs kp id s).2.length 0 ops.toList ((frzs kp id s).1,QL (if draw then VD C ops ops.size else 0) (frzs kp id s).2) <;> rfl
 |seq a b h j =>
  intro k s;rw[ZsD];simp only[CX];rw[h]
  cases Yz C kp a s with
  |none=>rfl
  |some p =>
   obtain⟨e,s'⟩:=p
   cases e with
   |normal=>simp only[Z0,Zbb];rw[j];rfl
   |_=>rfl
 |cond c x y u w =>
  intro k s;rw[Zqf];simp only[CX];rw[u,w]
  cases eval C s.1 c with
  |bool t=>cases t <;> rfl
  |_=>rfl
 |block id c g =>
  intro k s;rw[Zoi];simp only[CX];rw[g]
  cases Yz C kp c s with
  |none=>rfl
  |some p =>
   obtain⟨e,s'⟩:=p
   cases e with
   |exit i =>
    simp only[Z0,ZdB];split <;> rfl
   |_=>rfl
 |loop c _ =>
  intro k s;simp only[CX];rw[Zuo];rfl
 |rangeFunc f p x y _ _=>intro k s;simp only[CX];rw[Zi8 (fun n=>rfl)];rfl
 |exit id=>intro k s;rw[Zqg];rfl
 |scope c g =>
  intro k s;rw[Zok];simp only[CX];split
  ·exact g k s
  ·rfl
 |label l=>intro k s;rw[Zoj];rfl
 |goto l=>intro k s;rw[Zqh];rfl
 |ret=>intro k s;rw[ZsC];rfl
 |refuse s=>intro k s;simp only[CX];rw[Zi8 (fun n=>rfl)];rfl
theorem Zyl (c:Code)(k:Kt)(s:St):HN C kp c k s=CX C (Zb C) (HN C kp) kp c (Zbb (fun s'=>HN C kp c k (trim kp c s')) k) (trim kp c s):=by
 rw[ZwX];unfold HN;rw[Ty]
 cases Yz C kp c (trim kp c s) with
 |none=>rfl
 |some p =>
  obtain⟨e,s'⟩:=p
  cases e with
  |normal =>
   show Z0 (Yz C kp (.loop c) s') _=Z0 (Yz C kp (.loop c) (trim kp c s')) _;rw[Ty,Ty (s:=trim kp c s'),ZkR]
  |_=>rfl
def Zb8 (C:Cfg):List ResultVar->St->List AV->(List AV->Z4)->Z4
 |[],_,acc,k=>k acc
 |r::rs,s,acc,k=>Z0 (WI C s r) fun v=>Zb8 C rs s (acc++[v]) k
noncomputable def Zef (C:Cfg)(f:FuncId)(g:Hp)(H:Hp):List AV->Z4
 |[v]=>FR C f g (v,H)
 |l=>FR C f g (.tuple l,H)
noncomputable abbrev Zz0 (C:Cfg)(f:FuncId)(fn:Func)(H0:Hp):Kt:=fun e s =>
 match e with
 |.normal=>Zb8 C fn.results.toList s [] (Zef C f H0 s.2)
 |.ret=>Zb8 C fn.results.toList s [] (Zef C f H0 s.2)
 |_=>none
theorem Zy6 (s:St)(k:List AV->Z4):∀ (rs:List ResultVar) (g:List AV),Zb8 C rs s g k=Z0 (rs.mapM (WI C s)) fun l=>k (g++l):=by
 intro rs
 induction rs with
 |nil=>intro g;simp[Zb8,Z0]
 |cons r rs h =>
  intro g;rw[zM];unfold Zb8
  cases WI C s r with
  |none=>rfl
  |some v =>
   simp only[Z0];rw[h]
   cases rs.mapM (WI C s) with
   |none=>rfl
   |some l=>simp[Z0]
theorem ZuS {f:FuncId}{fn:Func}{c:Code}(h:C.P.funcs[f]?=some fn)(g:Tq C f fn=some c)(args:List AV)(H:Hp) :
 Zb C f args H=CX C (Zb C) (HN C (C.keep f)) (C.keep f) c (Zz0 C f fn H) (args++zE (fn.ntmps-args.length) .undef,H):=by
 rw[ZuT h g,ZwX]
 have key:∀ s:St,(match Uc C fn s with|some v=>FR C f H (v,s.2)|none=>none)=Zb8 C fn.results.toList s [] (Zef C f H s.2):=by
  intro s;rw[Zy6];unfold Uc
  cases fn.results.toList.mapM (WI C s) with
  |none=>rfl
  |some l =>
   match l with
   |[]=>rfl
   |[v]=>rfl
   |a::b::l=>rfl
 cases Yz C (C.keep f) c (args++zE (fn.ntmps-args.length) .undef,H) with
 |none=>rfl
 |some p =>
  obtain⟨e,s⟩:=p
  cases e with
  |normal=>exact key s
  |ret=>exact key s
  |_=>rfl
end
end Go.Am
