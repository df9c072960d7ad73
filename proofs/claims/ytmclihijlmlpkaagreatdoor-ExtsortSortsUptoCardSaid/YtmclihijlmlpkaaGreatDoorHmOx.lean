/- THE ABSTRACT MACHINE -/
import Derived.Test.YtmclihijlmlpkaaGreatDoorHmMx
import Derived.Defers
open Option renaming some->Z,none->Q
open Bool renaming true->Y,false->X
open List renaming length->J
open List renaming replicate->zE,mapM_cons->zM
open Nat renaming le_max_right->zF,le_max_left->zG,ne_of_beq_eq_false->zL
open Bool renaming false_eq_true->zB,and_eq_true->zD,not_eq_true'->zH,false_and->zN
open Option renaming ext->zI
open Array renaming replicate->zJ,getD_eq_getD_getElem?->zK
open Option.some renaming injEq->zA
open Prod.mk renaming injEq->zC
namespace Go.Am
open RowKit
section
variable {C:Cfg}{W0:World}
theorem ZfR {P:Program}{t:TypeId}{u:Value}{g:Addr}{v:Value}{w:World}(j:u=.pointer (Z g))(h:(loadVar t g).run P w=.ok v w):(do loadVar t (<-asAddr u):Sem Value).run P w=.ok v w:=by
 subst j;simp[asAddr,h]
def Zoo (tmps:Array Value):ResultVar->Sem Value
 |.tmp t=>pure (tmps.getD t undef)
 |.cell a t=>do loadVar t (<-asAddr (tmps.getD a undef))
theorem Zsv (fn:Func)(tmps:Array Value):results fn tmps=(do let vs <-fn.results.mapM (Zoo tmps);pure (if h:vs.size=1 then vs[0] else .tuple vs)):=by
 unfold results;congr 1
theorem Zo9 {S:Snap}{H:Hp}{tm:c6}{tmps:Array Value}(u:Inv W0 S H)(j:FRel S tm tmps){r:ResultVar}{v:AV}(h:WH C (tm,H) r=Z v) :
 ∃ v',(Zoo tmps r).run C.P S.w=.ok v' S.w/\VRel S v v':=by
 cases r with
 |tmp t =>
  simp only[WH,zA]at h;subst h;exact⟨_,rfl,j.getD t⟩
 |cell a t =>
  simp only[WH]at h;split at h
  ·rename_i g sz y A;obtain⟨v',E,B,z,D⟩:=Ze3 (P:=C.P) u y A (j.getD a) h;exact⟨v',ZfR B z,D⟩
  ·cases h
theorem Zxx {S:Snap}{H:Hp}{tm:c6}{tmps:Array Value}(L:Inv W0 S H)(K:FRel S tm tmps):∀ (l:List ResultVar) (r:c6),l.mapM (WH C (tm,H))=Z r ->
 ∃ vs:List Value,(l.mapM (Zoo tmps)).run C.P S.w=.ok vs S.w/\J vs=J r /\
  ∀ (i:Nat) (a:AV) (v:Value),r[i]?=Z a->vs[i]?=Z v->VRel S a v:=by
 intro l
 induction l with
 |nil=>intro r h;simp at h;subst h;exact⟨[],rfl,rfl,cn⟩
 |cons x l O =>
  intro r h;rw[zM]at h
  cases g:WH C (tm,H) x with
  |none=>simp[g]at h
  |some a =>
   cases u:l.mapM (WH C (tm,H)) with
   |none=>simp[g,u]at h
   |some z =>
    simp[g,u]at h;subst h;obtain⟨v,A,B⟩:=Zo9 L K g;obtain⟨vs,D,E,F⟩:=O z u;refine⟨v::vs,?_,by simp[E],λi a v j y=>?_⟩
    ·rw[zM];simp only[Sem.run_bind,A,D,Result.andThen_ok,Sem.run_pure]
    ·cases i with
     |zero=>simp at j y;subst j y;exact B
     |succ i=>exact F i a v (by simpa using j) (by simpa using y)
theorem Zoa {S:Snap}{H:Hp}{tm:c6}{tmps:Array Value}(E:Inv W0 S H)(D:FRel S tm tmps){fn:Func}{v:AV}(h:VL C fn (tm,H)=Z v):∃ v',(results fn tmps).run C.P S.w=.ok v' S.w/\VRel S v v':=by
 unfold VL at h
 have g:∀ l,fn.results.toList.mapM (WH C (tm,H))=Z l->∃ vs:List Value,(results fn tmps).run C.P S.w=.ok (if h:vs.toArray.size=1 then vs.toArray[0] else .tuple vs.toArray) S.w/\J vs=J l /\
  ∀ (i:Nat) (a:AV) (v:Value),l[i]?=Z a->vs[i]?=Z v->VRel S a v:=by
  intro l A;obtain⟨vs,j,y,z⟩:=Zxx E D _ l A;refine⟨vs,?_,y,z⟩;rw[Zsv,Sem.run_bind,Array.mapM_eq_mapM_toList,Sem.run_map,j];rfl
 split at h
 ·rename_i R A;injection h with h;subst h;obtain⟨vs,j,y,z⟩:=g _ A
  match vs,y with
  |[u],_=>exact⟨u,by simpa using j,z 0 R u rfl rfl⟩
 ·rename_i l B A;injection h with h;subst h;obtain⟨vs,j,y,z⟩:=g _ A
  have L:vs.toArray.size≠1:=by
   intro K;have:J l=1:=by simp at K;omega
   match l,this with
   |[a],_=>exact B a rfl
  rw[dif_neg L]at j;exact⟨_,j,.tuple _ _ (by simp[y]) λi a v F O=>z i a v F (by simpa using O)⟩
 ·cases h
theorem ZnL {S:Snap}{args:c6}{args':Array Value}(w:args'.size=J args)(h:∀ (i:Nat) (a:AV) (u:Value),args[i]?=Z a->args'[i]?=Z u->VRel S a u)(n:Nat) :
 FRel S (args++zE (n-J args) .undef) (args'++zJ (n-args'.size) undef):=by
 refine⟨by simp[w],λi a v g j=>?_⟩;rcases Nat.lt_or_ge i (J args) with hi|hi
 ·rw[List.getElem?_append_left hi]at g;rw[Array.getElem?_append_left cm]at j;exact h i a v g j
 ·rw[List.getElem?_append_right hi]at g;rw[Array.getElem?_append_right cm]at j;rw[List.getElem?_replicate]at g;rw[Array.getElem?_replicate]at j;split at g
  ·injection g with g;split at j
   ·injection j with j;subst g j;exact .undef _
   ·cases j
  ·cases g
theorem AX {f:FuncId}{fn:Func}{S y:Snap}{H H':Hp}{s:St}{tmps:Array Value}{v:AV}(K:Inv W0 S H)(B:Ext S y)(j:Inv W0 y s.2)(E:FRel y s.1 tmps)
 (g:(match VL C fn s with|some v=>FH C f H (v,s.2)|none=>Q)=Z (v,H')) :
 ∃ u,(results fn tmps).run C.P y.w=.ok u y.w/\∃ D,D.w=y.w/\Ext S D/\Inv W0 D H'/\VRel D v u:=by
 split at g
 ·rename_i O F;obtain⟨v',A,L⟩:=Zoa (tm:=s.1) j E F;refine⟨v',A,?_⟩;unfold FH at g;split at g
  ·unfold cO at g;split at g
   ·rename_i h
    cases z:Zh s.2 (J H) 9 O with
    |none=>simp[z]at g
    |some R =>
     simp only[z,zA,zC]at g;obtain⟨rfl,rfl⟩:=g;exact⟨y.back H,rfl,Ext.back K B,Inv.back K j h,CE j h 9 _ _ _ z L⟩
   ·cases g
  ·simp only[zA,zC]at g;obtain⟨rfl,rfl⟩:=g;exact⟨y,rfl,B,j,L⟩
 ·cases g
def D0 (N:Nat)(a:Act):Prop:=a.defers=[]/\N<=a.tmps.size
theorem D0.put {N:Nat}(a:Act)(g:Option Tmp)(v:Value)(h:D0 N a):D0 N (a.put g v):=by
 cases g with
 |none=>exact h
 |some d=>exact⟨h.1,by show N<=(a.tmps.setIfInBounds d v).size;rw[Array.size_setIfInBounds];exact h.2⟩
theorem ZlK {S:Snap}{H:Hp}{args:c6}{args':Array Value}(h:Inv W0 S H)(g:GlobOk C S)(y:args'.size=J args)(j:∀ (i:Nat) (a:AV) (u:Value),args[i]?=Z a->args'[i]?=Z u->VRel S a u)(n:Nat) :
 Rel C W0 S (D0 n) (args++zE (n-J args) .undef,H) { tmps:=args'++zJ (n-args'.size) undef,defers:=[] } S.w :=
 ⟨S,rfl,Ext.refl S,h,g,ZnL y j n,rfl,by simp;omega⟩
theorem Zq6 (hC:VX C){cl:ZM}(y:XR C W0 cl)(aa:XE cl){n:Nat}{f:FuncId}{fn:Func}{c:Code}{args:c6}{H H':Hp}{v:AV}
 (h:body C cl n f fn c args H=Z (v,H')) {S:Snap} {args':Array Value} (T:Inv W0 S H) (hG:GlobOk C S) (hs:args'.size=J args) (ha:∀ (i:Nat) (a:AV) (u:Value),args[i]?=Z a->args'[i]?=Z u->VRel S a u) :
 c.wp C.P (bodyPost C.P fn λe w'=>∃ v' j,e=.returned v'/\j.w=w'/\Ext S j/\Inv W0 j H'/\VRel j v v') { tmps:=args'++zJ (fn.ntmps-args'.size) undef,defers:=[] } S.w:=by
 unfold body at h;have D:=ZlK T hG hs ha fn.ntmps
 cases g:ZA C cl (C.keep f) n c (args++zE (fn.ntmps-J args) .undef,H) with
 |none=>simp[g]at h
 |some p =>
  obtain⟨e,s⟩:=p;refine wp_mono (ZbW hC y aa c _ s e _ _ (gD D0.put c) g D) λe' a w hp=>?_;obtain⟨rfl,S1,rfl,E,A,ab,z,B⟩:=hp
  cases e with
  |normal =>
   simp only[g]at h;obtain⟨u,F,j,K,L,O,R⟩:=AX T E A z h;exact⟨B.1,u,F,u,j,rfl,K,L,O,R⟩
  |ret =>
   simp only[g]at h;obtain⟨u,F,j,K,L,O,R⟩:=AX T E A z h;exact⟨B.1,u,F,u,j,rfl,K,L,O,R⟩
  |_=>simp[g]at h
theorem Zr5 (z:VX C){cl:ZM}(g:XR C W0 cl)(y:XE cl){n:Nat}{f:FuncId}{fn:Func}{c:Code}(F:C.P.funcs[f]?=Z fn)(E:fn.body=Z c){args:c6}{H H':Hp}{v:AV}
 (h:body C cl n f fn c args H=Z (v,H')) {S:Snap} {args':Array Value} (B:Inv W0 S H) (A:GlobOk C S) (K:args'.size=J args) (D:∀ (i:Nat) (a:AV) (u:Value),args[i]?=Z a->args'[i]?=Z u->VRel S a u) :
 Calls C.P f args' S.w λe w'=>∃ v' j,e=.returned v'/\j.w=w'/\Ext S j/\Inv W0 j H'/\VRel j v v' :=
 calls_of_wp F E (Zq6 z g y h B A K D)
def eC (C:Cfg)(call:ZM):Prop :=
 ∀ {W0:World} (f:FuncId) (args:c6) (H H':Hp) (v:AV),C.dfr f=X->call f args H=Z (v,H')->∀ (S:Snap) (args':Array Value),Inv W0 S H->GlobOk C S->args'.size=J args ->
  (∀ (i:Nat) (a:AV) (u:Value),args[i]?=Z a->args'[i]?=Z u->VRel S a u)->∀ h:FrameMode,
  CallsD C.P f args' h S.w λe u w'=>u=h/\∃ v' g,e=.returned v'/\g.w=w'/\Ext S g/\Inv W0 g H'/\VRel g v v'
theorem Zeg (K:Nat):∀ c:Code,YP (Xc K c)=YP c:=by
 intro c
 induction c with
 |seq a b h j=>simp only[Xc,YP,h,j]
 |block id c g=>exact g
 |loop c g=>exact g
 |scope c g=>exact g
 |_=>rfl
theorem Zoc (K:Nat):∀ c:Code,XM (Xc K c)=XM c:=by
 intro c
 induction c with
 |seq a b h j=>simp only[Xc,XM,h,j]
 |cond c x y u w=>simp only[Xc,XM,u,w]
 |block id c g=>exact g
 |loop c g=>exact g
 |scope c g=>exact g
 |_=>rfl
theorem ZiX {kp:Nat->Option da}{c c':Code}(h:YP c=YP c')(s:St):trim kp c s=trim kp c' s:=by unfold trim;rw[h]
def P6 (K:Nat)(r:Option (AExit×St)):Option (AExit×St) :=
 match r with
 |some (.ret,s')=>Z (.exit K,s')
 |r=>r
theorem ZhZ {cl:ZM}{kp:Nat->Option da}{n K:Nat}:∀ c:Code,KR K c=Y->∀ s,ZA C cl kp n (Xc K c) s=P6 K (ZA C cl kp n c s):=by
 intro c
 induction c with
 |skip=>intro _ s;rfl
 |region id ops draw =>
  intro _ s;simp only[Xc,ZA];split
  ·rfl
  ·split <;> rfl
 |seq a b w z =>
  intro g s;simp only[KR,zD]at g;simp only[Xc,ZA];rw[w g.1 s]
  cases ZA C cl kp n a s with
  |none=>rfl
  |some p =>
   obtain⟨e,u⟩:=p
   cases e with
   |normal =>
    show ZA C cl kp n (Xc K b) (trim kp (Xc K b) u)=_;rw[ZiX (Zeg K b)];exact z g.2 _
   |_=>rfl
 |cond c x y B D =>
  intro g s;simp only[KR,zD]at g;simp only[Xc,ZA];split
  ·split
   ·exact B g.1 s
   ·exact D g.2 s
  ·rfl
 |block id c j =>
  intro g s;simp only[KR,zD,zH]at g;simp only[Xc,ZA];rw[j g.2 s]
  cases ZA C cl kp n c s with
  |none=>rfl
  |some p =>
   obtain⟨e,u⟩:=p
   cases e with
   |ret =>
    simp only[P6];rw[if_neg (λh=>zL g.1 h.symm)]
   |exit i =>
    simp only[P6];split <;> rfl
   |_=>rfl
 |loop c j =>
  intro g s;simp only[KR]at g;simp only[Xc,ZA]
  have key:∀ (m:Nat) (s:St),W4 (λs=>ZA C cl kp n (Xc K c) (trim kp (Xc K c) s)) m s=P6 K (W4 (λs=>ZA C cl kp n c (trim kp c s)) m s):=by
   intro m
   induction m with
   |zero=>intro s;rfl
   |succ m A =>
    intro s;simp only[W4];rw[ZiX (Zeg K c),j g]
    cases ZA C cl kp n c (trim kp c s) with
    |none=>rfl
    |some p =>
     obtain⟨e,u⟩:=p
     cases e with
     |normal=>exact A u
     |_=>rfl
  exact key n s
 |rangeFunc f p x y _ _=>intro _ s;rfl
 |exit id=>intro _ s;rfl
 |scope c j =>
  intro g s;simp only[KR]at g;simp only[Xc,ZA];rw[Zoc];split
  ·exact j g s
  ·rfl
 |label l=>intro _ s;rfl
 |goto l=>intro _ s;rfl
 |ret=>intro _ s;rfl
 |refuse m=>intro _ s;rfl
theorem Zpi {cl:ZM}{kp:Nat->Option da}{n K:Nat}:∀ c:Code,KR K c=Y->∀ s s',ZA C cl kp n c s=Z (.exit K,s')->False:=by
 intro c
 induction c with
 |skip=>intro _ s s' h;simp[ZA]at h
 |region id ops draw =>
  intro _ s s' h;simp only[ZA]at h;split at h
  ·cases h
  ·split at h
   ·simp at h
   ·cases h
 |seq a b w z =>
  intro g s s' h;simp only[KR,zD]at g;simp only[ZA]at h
  cases j:ZA C cl kp n a s with
  |none=>simp[j]at h
  |some p =>
   obtain⟨e,E⟩:=p
   cases e with
   |normal=>simp only[j]at h;exact z g.2 _ _ h
   |exit i =>
    simp only[j,zA,zC,AExit.exit.injEq]at h;obtain⟨rfl,rfl⟩:=h;exact w g.1 _ _ j
   |_=>simp[j]at h
 |cond c x y B D =>
  intro g s s' h;simp only[KR,zD]at g;simp only[ZA]at h;split at h
  ·split at h
   ·exact B g.1 _ _ h
   ·exact D g.2 _ _ h
  ·cases h
 |block id c u =>
  intro g s s' h;simp only[KR,zD,zH]at g;simp only[ZA]at h
  cases j:ZA C cl kp n c s with
  |none=>simp[j]at h
  |some p =>
   obtain⟨e,E⟩:=p
   cases e with
   |exit i =>
    simp only[j]at h;split at h
    ·simp at h
    ·simp only[zA,zC,AExit.exit.injEq]at h;obtain⟨rfl,rfl⟩:=h;exact u g.2 _ _ j
   |_=>simp[j]at h
 |loop c u =>
  intro g s s' h;simp only[KR]at g;simp only[ZA]at h
  have key:∀ (m:Nat) (s:St),W4 (λs=>ZA C cl kp n c (trim kp c s)) m s=Z (.exit K,s')->False:=by
   intro m
   induction m with
   |zero=>intro s h;simp[W4]at h
   |succ m A =>
    intro s h;simp only[W4]at h
    cases j:ZA C cl kp n c (trim kp c s) with
    |none=>simp[j]at h
    |some p =>
     obtain⟨e,E⟩:=p
     cases e with
     |normal=>simp only[j]at h;exact A E h
     |exit i =>
      simp only[j,zA,zC,AExit.exit.injEq]at h;obtain⟨rfl,rfl⟩:=h;exact u g _ _ j
     |_=>simp[j]at h
  exact key n s h
 |rangeFunc f p x y _ _=>intro _ s s' h;simp[ZA]at h
 |exit id =>
  intro g s s' h;simp only[KR,zH]at g;simp only[ZA,zA,zC,AExit.exit.injEq]at h;exact zL g h.1
 |scope c u =>
  intro g s s' h;simp only[KR]at g;simp only[ZA]at h;split at h
  ·exact u g _ _ h
  ·cases h
 |label l=>intro _ s s' h;simp[ZA]at h
 |goto l=>intro _ s s' h;simp[ZA]at h
 |ret=>intro _ s s' h;simp[ZA]at h
 |refuse m=>intro _ s s' h;simp[ZA]at h
theorem Zmd {cl:ZM}{kp:Nat->Option da}{n K:Nat}{c:Code}(j:KR K c=Y){s s':St}(h:ZA C cl kp n (.block K (Xc K c)) s=Z (.normal,s')) :
 ZA C cl kp n c s=Z (.normal,s')\/ZA C cl kp n c s=Z (.ret,s'):=by
 simp only[ZA]at h;rw[ZhZ c j]at h
 cases g:ZA C cl kp n c s with
 |none=>rw[g]at h;simp[P6]at h
 |some p =>
  obtain⟨e,u⟩:=p;rw[g]at h
  cases e with
  |normal=>simp only[P6,zA,zC,true_and]at h;subst h;exact .inl rfl
  |ret=>simp only[P6,if_true,zA,zC,true_and]at h;subst h;exact .inr rfl
  |exit i =>
   simp only[P6]at h;split at h
   ·rename_i hi;subst hi;exact (Zpi c j _ _ g).elim
   ·simp at h
  |goto l=>simp[P6]at h
theorem kU {g:FuncId}(h:dG C g=Y):C.user g=Y/\C.flat g=X/\C.ro g=X/\C.ext g=Q/\C.sum g=Q/\C.eff g=Q/\C.dfr g=X:=by
 unfold dG at h;simp only[zD,zH,Option.isNone_iff_eq_none]at h;exact h
theorem Zni {N:Nat}{ops:Array Oper}{u B:Oper}{x:Nat}(h:ZhQ C N ops=Z (u,B,x)) :
 ∃ (o:Oper) (c:Call) (g:FuncId) (z w:Array Operand),ops.toList=[u,o]/\u.op=.makeFunc (.func g) z w/\u.dst=Z x/\u.guard=Q/\o.op=.defer c/\o.dst=Q/\o.guard=Q /\
  B={ o with op:=.call c }/\c.callee=.value (.tmp x)/\c.args=#[]/\x<N/\dG C g=Y:=by
 unfold ZhQ at h;split at h
 ·rename_i T S R;split at h
  ·rename_i g z w x1 D E F;split at h
   ·rename_i c H K L;split at h
    ·rename_i y O;split at h
     ·rename_i j;simp only[zA,zC]at h;obtain⟨rfl,rfl,rfl⟩:=h;simp only[zD]at j;have A:=Nat.eq_of_beq_eq_true j.1;refine⟨S,c,g,z,w,R,D,E,F,H,K,L,rfl,by rw[O,A],?_,?_,j.2.2.2⟩
      ·have:=j.2.2.1;rw[Array.isEmpty_iff]at this;exact this
      ·have:=j.2.1;rw[Nat.blt]at this;exact Nat.le_of_ble_eq_true this
     ·cases h
    ·cases h
   ·cases h
  ·cases h
 ·cases h
def D1 (d:Deferred)(x:Nat)(u:Value)(a:Act):Prop:=a.defers=[d]/\a.eval (.tmp x)=u
theorem D1.put {d:Deferred}{x:Nat}{u:Value}{a:Act}{g:Option Tmp}(v:Value)(w:g≠Z x)(h:D1 d x u a):D1 d x u (a.put g v):=by
 cases g with
 |none=>exact h
 |some t =>
  refine⟨h.1,?_⟩;have j:t≠x:=λe=>w (by rw[e]);have:=h.2;show (a.tmps.setIfInBounds t v).getD x undef=u;rw[<-this];show (a.tmps.setIfInBounds t v).getD x undef=a.tmps.getD x undef;rw[zK,zK,Array.getElem?_setIfInBounds_ne j]
theorem D1.keeps {d:Deferred}{x:Nat}{u:Value}:∀ c:Code,FL x c=Y->Dx (D1 d x u) c:=by
 intro c
 induction c with
 |region id ops draw =>
  intro h i o A a v y;refine y.put v λz=>?_;have h:JF ops x=Y:=h;unfold JF at h;rw[List.all_eq_true]at h;have:=h o (by rw[Array.mem_toList_iff];exact Array.mem_of_getElem? A);rw[z]at this;simp at this
 |seq a b g j=>intro h;simp only[FL,zD]at h;exact⟨g h.1,j h.2⟩
 |cond c a b g j=>intro h;simp only[FL,zD]at h;exact⟨g h.1,j h.2⟩
 |block id c w=>intro h;exact w h
 |loop c w=>intro h;exact w h
 |scope c w=>intro h;exact w h
 |_=>intro _;trivial
def QD (C:Cfg)(W0:World)(S0:Snap)(s':St)(e:Exit)(a:Act)(w:World):Prop :=
 (e=.normal\/e=.ret)/\(Rel C W0 S0 (λa=>a.defers=[]) s' a w \/
  ∃ fv cap h g j,a.defers=[{ target:=.fn fv cap,args:=h }]/\(invoke (.fn fv cap) h).run C.P w=.ok (.enter g j) w /\
   CallsD C.P g j .returning w λe u w'=>u=.returning/\(∃ v,e=.returned v)/\Rel C W0 S0 (λ_=>True) s' a w')
theorem ZoQ {cl:ZM}{g:FuncId}{j h:c6}{H:Hp}(D:dG C g=Y):Yu C cl (.fn (.func g) j h) [] H=cl g (j++[]++h) H:=by
 obtain⟨u,w,y,z,A,B,E⟩:=kU D;simp[Yu,XF,u,w,y,z,A,B]
section
variable {cl:ZM}{S0:Snap}{kp:Nat->Option da}{n N:Nat}
theorem Zfs {a b:Code}{s:St}:ZA C cl kp n (.seq a b) s=match ZA C cl kp n a s with
 |some (.normal,s')=>ZA C cl kp n b (trim kp b s')
 |r=>r:=rfl
theorem Zns {K:Nat}{c:Code}(j:KR K c=Y){s s':St}(h:ZA C cl kp n (.block K (Xc K c)) s=Z (.ret,s')):False:=by
 simp only[ZA]at h;rw[ZhZ c j]at h
 cases g:ZA C cl kp n c s with
 |none=>rw[g]at h;simp[P6]at h
 |some p =>
  obtain⟨e,u⟩:=p;rw[g]at h
  cases e with
  |normal=>simp[P6]at h
  |ret=>simp[P6]at h
  |exit i =>
   simp only[P6]at h;split at h <;> simp at h
  |goto l=>simp[P6]at h
theorem Znt {id:Nat}{o:Oper}{s s':St}{e:AExit}(j:o.guard=Q)(h:ZA C cl kp n (.region id #[o] X) s=Z (e,s')) :
 e=.normal/\∃ v H',Xf C cl (eval C (frzs kp id s).1) (frzs kp id s).2 X o.op=Z (v,H')/\s'=(Xh (frzs kp id s).1 o.dst v,H'):=by
 simp only[ZA,zN,zB,if_false]at h;have u:Qj 0 (frzs kp id s).2=(frzs kp id s).2:=by simp[Qj]
 rw[u]at h;simp only[YD,W5,zN,zB,if_false,VW,YF,WM,j]at h
 cases g:Xf C cl (eval C (frzs kp id s).1) (frzs kp id s).2 X o.op with
 |none=>rw[g]at h;simp at h
 |some p =>
  obtain⟨v,H'⟩:=p;rw[g]at h;simp only[zA,zC]at h;exact⟨h.1.symm,v,H',rfl,h.2.symm⟩
theorem ZpH {ops:Array Oper}{o:Oper}{s:St}{v:AV}{H':Hp}(g:o.guard=Q)(h:Xf C cl (eval C s.1) s.2 X o.op=Z (v,H')):VW C cl ops X o s=Z (Xh s.1 o.dst v,H'):=by
 simp only[VW,YF,WM,g,h]
theorem ZoD (hC:VX C)(B:XR C W0 cl)(O:eC C cl)(ay:XE cl){id:Nat}{ops:Array Oper}{b:Code}{z o2:Oper}{x:Nat}(au:ZhQ C N ops=Z (z,o2,x))
 (hb:(FL x b&&KR 900001 b)=Y) {s s':St} {e:AExit} {a:Act} {w:World}
 (h:ZA C cl kp n (.seq (.region id #[z] X) (.seq (.block 900001 (Xc 900001 b)) (.seq (.region 900002 #[o2] X) .ret))) s=Z (e,s')) (R:e=.normal\/e=.ret)
 (hr:Rel C W0 S0 (D0 N) s a w):(Code.seq (.region id ops X) b).wp C.P (QD C W0 S0 s') a w:=by
 obtain⟨o,c,g,fi,ca,hl,h1,h2,h3,h4,h5,h6,rfl,h7,h8,h9,ae⟩:=Zni au
 have aj:ops=#[z,o]:=by
  have:ops=ops.toList.toArray:=cn
  rw[this,hl]
 subst aj;rw[zD]at hb;rw[Zfs]at h
 cases hx:ZA C cl kp n (.region id #[z] X) s with
 |none=>rw[hx]at h;cases h
 |some p =>
 obtain⟨e1,s1⟩:=p;obtain⟨rfl,v1,H1,A,rfl⟩:=Znt h3 hx;rw[hx]at h;dsimp only at h
 have be:v1=.fn (.func g) (fi.toList.map (eval C (frzs kp id s).1)) (ca.toList.map (eval C (frzs kp id s).1))/\H1=(frzs kp id s).2:=by
  rw[h1]at A;simp only[Xf,Y9,zA,zC]at A;exact⟨A.1.symm,A.2.symm⟩
 refine wp_seq (wp_region ?_);show wpOps C.P #[z,o] _ [0,1] a w;rw[wpOps_cons];refine ZnY (S0:=S0) (D:=D0 N) hC B (λa v ha=>D0.put a _ v ha) (ops:=#[z,o]) (i:=0) (o:=z) rfl (ZpH h3 A) (hr.frzs (kp:=kp) (id:=id)) λE w1 ak=>?_;rw[wpOps_cons];unfold wpOp;show (if Region.wanted o (yielded #[z,o] E.tmps) then _ else _);rw[if_pos (by unfold Region.wanted;simp[h6])];refine .inl ?_;obtain⟨rfl,rfl⟩:=be;obtain⟨S1,rfl,bf,an,am,T,aq,bh⟩:=ak
 have ai:x<(frzs kp id s).1.length:=by
  have:=T.1;simp only[h2,Xh,List.length_set]at this;omega
 have hv:=T.getD x
 have ah:(Xh (frzs kp id s).1 z.dst (.fn (.func g) (fi.toList.map (eval C (frzs kp id s).1)) (ca.toList.map (eval C (frzs kp id s).1)))).getD x (.tuple [])=.fn (.func g) (fi.toList.map (eval C (frzs kp id s).1)) (ca.toList.map (eval C (frzs kp id s).1)):=by
  rw[h2];simp only[Xh];rw[List.getD_eq_getElem?_getD,List.getElem?_set_self ai];rfl
 rw[ah]at hv;have ab:E.eval (.tmp x)=E.tmps.getD x undef:=rfl;generalize hu:E.tmps.getD x undef=u at hv ab;cases hv with|fn _ _ _ F K hF hK ak hr2 =>
 have al:(execOp E.eval o).run C.P S1.w=.ok (.defer { target:=.fn (.func g) K,args:=F++#[] }) S1.w:=by
  simp[execOp,h4,resolve,h7,h8,ab,Deferred.ofValue]
 show o.wp C.P E S1.w _ _;unfold Oper.wp;rw[al,Oper.upon_defer,h5]
 have bb:Rel C W0 S0 (D1 { target:=.fn (.func g) K,args:=F++#[] } x (.func (.func g) F K)) (Xh (frzs kp id s).1 z.dst (.fn (.func g) (fi.toList.map (eval C (frzs kp id s).1)) (ca.toList.map (eval C (frzs kp id s).1))),(frzs kp id s).2)
  {E with defers:={ target:=.fn (.func g) K,args:=F++#[] }::E.defers } S1.w:=⟨S1,rfl,bf,an,am,T,by rw[aq],ab⟩
 show b.wp C.P (QD C W0 S0 s') { E with defers:={ target:=.fn (.func g) K,args:=F++#[] }::E.defers } S1.w;rw[Zfs]at h
 cases hy:ZA C cl kp n (.block 900001 (Xc 900001 b)) (trim kp (.seq (.block 900001 (Xc 900001 b)) (.seq (.region 900002 #[{ o with op:=.call c }] X) .ret)) (Xh (frzs kp id s).1 z.dst (.fn (.func g) (fi.toList.map (eval C (frzs kp id s).1)) (ca.toList.map (eval C (frzs kp id s).1))),(frzs kp id s).2)) with
 |none=>rw[hy]at h;cases h
 |some p =>
 obtain⟨e2,s2⟩:=p;rw[hy]at h
 have ad:e2=.normal/\∃ eb,(eb=.normal\/eb=.ret)/\ZA C cl kp n b (trim kp (.seq (.block 900001 (Xc 900001 b)) (.seq (.region 900002 #[{ o with op:=.call c }] X) .ret)) (Xh (frzs kp id s).1 z.dst (.fn (.func g) (fi.toList.map (eval C (frzs kp id s).1)) (ca.toList.map (eval C (frzs kp id s).1))),(frzs kp id s).2))=Z (eb,s2):=by
  cases e2 with
  |normal =>
   rcases Zmd hb.2 hy with h|h
   ·exact⟨rfl,_,.inl rfl,h⟩
   ·exact⟨rfl,_,.inr rfl,h⟩
  |ret=>exact (Zns hb.2 hy).elim
  |exit i =>
   simp only[zA,zC]at h;obtain⟨rfl,_⟩:=h;rcases R with R|R <;> cases R
  |goto l =>
   simp only[zA,zC]at h;obtain⟨rfl,_⟩:=h;rcases R with R|R <;> cases R
 obtain⟨rfl,eb,aw,ad⟩:=ad;dsimp only at h;refine wp_mono (ZbW hC B ay b _ s2 eb _ _ (D1.keeps b hb.1) ad bb.trim) λe' a3 w3 hp=>?_;obtain⟨rfl,az⟩:=hp;rw[Zfs]at h
 cases hz:ZA C cl kp n (.region 900002 #[{ o with op:=.call c }] X) (trim kp (.seq (.region 900002 #[{ o with op:=.call c }] X) .ret) s2) with
 |none=>rw[hz]at h;cases h
 |some p =>
 obtain⟨e4,s4⟩:=p;obtain⟨rfl,v,H',j,rfl⟩:=Znt (o:={ o with op:=.call c }) h6 hz;rw[hz]at h;dsimp only at h
 have bc:s'=(Xh (frzs kp 900002 (trim kp (.seq (.region 900002 #[{ o with op:=.call c }] X) .ret) s2)).1 Q v,H'):=by
  simp only[ZA,zA,zC,h5]at h;exact h.2.symm
 subst bc;have ba:=(az.trim (kp:=kp) (c:=.seq (.region 900002 #[{ o with op:=.call c }] X) .ret)).frzs (kp:=kp) (id:=900002);obtain⟨S3,rfl,bg,ag,af,aa,ar,bd⟩:=ba;generalize frzs kp 900002 (trim kp (.seq (.region 900002 #[{ o with op:=.call c }] X) .ret) s2)=s5 at j ag aa;obtain⟨callee,args,argTypes⟩:=c;dsimp only at h7 h8;subst h7 h8
 have y:Yu C cl (eval C s5.1 (.tmp x)) [] s5.2=Z (v,H'):=by
  simp only[Xf,Y9,ZL,zB,if_false]at j;split at j
  ·unfold XG qC at j;split at j
   ·rename_i ax;split at j
    ·rw[ax];exact j
    ·cases j
   ·cases j
  ·exact j
 have ac:VRel S3 (eval C s5.1 (.tmp x)) (a3.eval (.tmp x)):=aa.getD x;rw[bd]at ac;generalize eval C s5.1 (.tmp x)=av at y ac
 have ao:∃ L H,av=.fn (.func g) L H/\F.size=J L/\K.size=J H/\(∀ (i:Nat) (a:AV) (u:Value),L[i]?=Z a->F[i]?=Z u->VRel S3 a u)/\(∀ (i:Nat) (a:AV) (u:Value),H[i]?=Z a->K[i]?=Z u->VRel S3 a u):=by
  unfold Yu at y;split at y
  ·cases ac with|fn _ _ _ _ _ q1 q2 q3 q4=>exact⟨_,_,rfl,q1,q2,q3,q4⟩
  ·cases y
 obtain⟨L,H,rfl,q1,q2,q3,q4⟩:=ao;rw[ZoQ ae]at y;obtain⟨p1,p2,p3,p4,p5,p6,p7⟩:=kU ae;have ap:=O g _ _ _ _ p7 y S3 (F++#[]++K) ag af (by simp[q1,q2]) (ZbS (S:=S3) (by simp[q1]) (ZbS q1 q3 (λi a u ha _=>by simp at ha)) q4) .returning;refine⟨?_,.inr ⟨.func g,K,F++#[],g,F++#[]++K,ar,?_,ap.mono ?_⟩⟩
 ·rcases aw with rfl|rfl
  ·exact .inl rfl
  ·exact .inr rfl
 ·simp only[invoke];exact hC.2.1 g p1 _ _
 ·rintro e u w' ⟨rfl,v',S',rfl,hw,hx,hI,hv⟩
  exact⟨rfl,⟨v',rfl⟩,S',hw,bg.trans hx,hI,af.mono hx,aa.mono hx,trivial⟩
theorem ZsV (T:VX C)(g:XR C W0 cl)(z:eC C cl)(A:XE cl):∀ (c:Code) (s s':St) (e:AExit) (a:Act) (w:World),
 ZA C cl kp n (B9 C N c) s=Z (e,s')->(e=.normal\/e=.ret)->Rel C W0 S0 (D0 N) s a w->c.wp C.P (QD C W0 S0 s') a w:=by
 intro c
 have u:∀ (c:Code) (s s':St) (e:AExit) (a:Act) (w:World),ZA C cl kp n c s=Z (e,s')->(e=.normal\/e=.ret)->Rel C W0 S0 (D0 N) s a w->c.wp C.P (QD C W0 S0 s') a w:=by
  intro c s s' e a w h j B;refine wp_mono (ZbW T g A c s s' e a w (gD D0.put c) h B) λe' a' w' hp=>?_;obtain⟨rfl,S,F,H,K,L,O,R⟩:=hp;refine⟨?_,.inl ⟨S,F,H,K,L,O,R.1⟩⟩;rcases j with rfl|rfl
  ·exact .inl rfl
  ·exact .inr rfl
 induction c with
 |seq x b ac ab =>
  intro s s' e a w h j B
  have Vl:ZA C cl kp n (.seq x (B9 C N b)) s=Z (e,s')->(Code.seq x b).wp C.P (QD C W0 S0 s') a w:=by
   intro h;simp only[ZA]at h
   cases D:ZA C cl kp n x s with
   |none=>simp[D]at h
   |some p =>
    obtain⟨e1,s1⟩:=p;refine wp_seq (wp_mono (ZbW T g A x s s1 e1 a w (gD D0.put x) D B) λe' a' w' hp=>?_);obtain⟨rfl,E⟩:=hp
    cases e1 with
    |normal =>
     simp only[D]at h;exact ab _ s' e a' w' h j E.trim
    |ret =>
     simp only[D,zA,zC]at h;obtain⟨_,rfl⟩:=h;obtain⟨S,F,H,K,L,O,R⟩:=E;exact⟨.inr rfl,.inl ⟨S,F,H,K,L,O,R.1⟩⟩
    |exit i =>
     simp only[D,zA,zC]at h;obtain⟨rfl,_⟩:=h;rcases j with j|j <;> cases j
    |goto l =>
     simp only[D,zA,zC]at h;obtain⟨rfl,_⟩:=h;rcases j with j|j <;> cases j
  simp only[B9]at h;split at h
  ·rename_i id ops;split at h
   ·rename_i o1 o2 y aa;split at h
    ·rename_i hb;exact ZoD T g z A aa hb h j B
    ·exact u _ s s' e a w h j B
   ·exact Vl h
  ·exact Vl h
 |_=>intro s s' e a w h j B;exact u _ s s' e a w h j B
end
theorem Zp4 (hC:VX C){cl:ZM}(E:XR C W0 cl)(z:eC C cl)(ad:XE cl){n:Nat}{f:FuncId}{fn:Func}{c:Code}(hf:C.P.funcs[f]?=Z fn)(hb:fn.body=Z c){args:c6}{H H':Hp}{v:AV}
 (h:body C cl n f fn (B9 C fn.ntmps c) args H=Z (v,H')) {S:Snap} {args':Array Value} (hI:Inv W0 S H) (hG:GlobOk C S) (hs:args'.size=J args) (ha:∀ (i:Nat) (a:AV) (u:Value),args[i]?=Z a->args'[i]?=Z u->VRel S a u) :
 Calls C.P f args' S.w λe w'=>∃ v' j,e=.returned v'/\j.w=w'/\Ext S j/\Inv W0 j H'/\VRel j v v':=by
 unfold body at h;refine calls_of_wp_defers hf hb ?_;have R:=ZlK hI hG hs ha fn.ntmps
 have L:∀ (s:St) (e:AExit),ZA C cl (C.keep f) n (B9 C fn.ntmps c) (args++zE (fn.ntmps-J args) .undef,H)=Z (e,s)->(e=.normal\/e=.ret) ->
  (match VL C fn s with|some v=>FH C f H (v,s.2)|none=>Q)=Z (v,H') ->
  c.wp C.P (bodyPostD C.P fn λe w'=>∃ v' j,e=.returned v'/\j.w=w'/\Ext S j/\Inv W0 j H'/\VRel j v v') { tmps:=args'++zJ (fn.ntmps-args'.size) undef,defers:=[] } S.w:=by
  intro s e y he hr;refine wp_mono (ZsV hC E z ad c _ s e _ _ y he R) λe' a w hq=>?_;obtain⟨ac,hq⟩:=hq
  have A:Leaves C.P fn a.tmps (λe w'=>∃ v' j,e=.returned v'/\j.w=w'/\Ext S j/\Inv W0 j H'/\VRel j v v') a.defers .returning w:=by
   rcases hq with ⟨S1,rfl,K,D,aa,B,F⟩|⟨fv,cap,T,g,as,hd,O,ab⟩
   ·obtain⟨u,g1,j,g2,g3,g4,g5⟩:=AX hI K D B hr;have F:a.defers=[]:=F;rw[F];exact⟨u,g1,u,j,rfl,g2,g3,g4,g5⟩
   ·rw[hd];refine leaves_cons cn O (ab.mono ?_)
    rintro e u w' ⟨rfl,⟨v',rfl⟩,S1,rfl,K,D,aa,B,_⟩
    obtain⟨u,g1,j,g2,g3,g4,g5⟩:=AX hI K D B hr;exact⟨u,g1,u,j,rfl,g2,g3,g4,g5⟩
  rcases ac with rfl|rfl
  ·exact A
  ·exact A
 cases y:ZA C cl (C.keep f) n (B9 C fn.ntmps c) (args++zE (fn.ntmps-J args) .undef,H) with
 |none=>simp[y]at h
 |some p =>
  obtain⟨e,s⟩:=p
  cases e with
  |normal =>
   simp only[y]at h;exact L s _ y (.inl rfl) h
  |ret =>
   simp only[y]at h;exact L s _ y (.inr rfl) h
  |_=>simp[y]at h
theorem Zp7 (w:VX C):∀ n,XR C W0 (call C n)/\eC C (call C n):=by
 intro n
 induction n with
 |zero=>exact⟨λ{W1} f args H H' v h=>by simp[call]at h,λ{W1} f args H H' v _ h=>by simp[call]at h⟩
 |succ n y =>
  have key:∀ {W1:World},XR C W1 (call C n):=λ{W1}=>y.1;refine⟨λ{W1} f args H H' v h S args' hI hG hs ha=>?_,λ{W1} f args H H' v j h S args' hI hG hs ha u0=>?_⟩
  ·simp only[call]at h;split at h
   ·cases h
   ·rename_i fn u;unfold Tz at h
    cases j:C.dfr f with
    |false =>
     rw[j]at h;dsimp only at h;split at h
     ·cases h
     ·rename_i c g;exact Zr5 w (key (W1:=W1)) (Mc C n) u g h hI hG hs ha
    |true =>
     rw[j]at h;dsimp only at h
     cases g:fn.body with
     |none=>rw[g]at h;cases h
     |some c =>
      rw[g]at h;exact Zp4 w (key (W1:=W1)) y.2 (Mc C n) u g h hI hG hs ha
  ·simp only[call]at h;split at h
   ·cases h
   ·rename_i fn u;unfold Tz at h;rw[j]at h;dsimp only at h;split at h
    ·cases h
    ·rename_i c g;exact callsD_of_wp u g (Zq6 w (key (W1:=W1)) (Mc C n) h hI hG hs ha)
theorem Zr8 (g:VX C):∀ n,XR C W0 (call C n):=λn=>(Zp7 (W0:=W0) g n).1
end
end Go.Am
namespace Go.Am
open RowKit
section
variable {C:Cfg}
def Le (c c':ZM):Prop:=∀ f a H r,c f a H=Z r->c' f a H=Z r
theorem Zi6 {a:c6->Hp->Option (AV×Hp)}{args:c6}{H:Hp}{r:AV×Hp}(h:Ze a args H=Z r) :
 ∃ args' q,a args' []=Z q/\∀ b:c6->Hp->Option (AV×Hp),b args' []=Z q->Ze b args H=Z r:=by
 unfold Ze at h;split at h
 ·rename_i g w;split at h
  ·rename_i y H1 u;exact⟨g,_,u,λb j=>by unfold Ze;simp only[w,j];exact h⟩
  ·cases h
 ·cases h
theorem Zoj {a:c6->Hp->Option (AV×Hp)}{args:c6}{H:Hp}{r:AV×Hp}(h:Kb a args H=Z r) :
 ∃ q,a args H=Z q/\∀ b:c6->Hp->Option (AV×Hp),b args H=Z q->Kb b args H=Z r:=by
 unfold Kb at h;split at h
 ·rename_i u H1 j;exact⟨_,j,λb g=>by unfold Kb;simp only[g];exact h⟩
 ·cases h
theorem ZoO {c c':ZM}(h:Le c c'){id:FuncId}{args:c6}{H:Hp}{r:AV×Hp}(j:XF C c id args H=Z r):XF C c' id args H=Z r:=by
 unfold XF at j ⊢
 cases A:C.ext id with
 |some e=>simpa[A]using j
 |none =>
  cases w:C.sum id with
  |some g=>simpa[A,w]using j
  |none =>
  cases y:C.eff id with
  |some g=>simpa[A,w,y]using j
  |none =>
  simp only[A,w,y]at j ⊢;by_cases B:C.user id=Y
  ·by_cases u:C.flat id=Y
   ·simp only[B,u,if_true]at j ⊢;obtain⟨args',q,D,E⟩:=Zi6 j;exact E _ (h _ _ _ _ D)
   ·by_cases z:C.ro id=Y
    ·simp only[B,u,z,zB,if_false,if_true]at j ⊢;obtain⟨q,D,E⟩:=Zoj j;exact E _ (h _ _ _ _ D)
    ·simp only[B,u,z,zB,if_false,if_true]at j ⊢;exact h _ _ _ _ j
  ·simp[B]at j
theorem eR {c c':ZM}(h:Le c c'){f:AV}{args:c6}{H:Hp}{r:AV×Hp}(g:Yu C c f args H=Z r):Yu C c' f args H=Z r:=by
 unfold Yu at g ⊢;split at g
 ·exact ZoO h g
 ·cases g
theorem ZoP {c c':ZM}(h:Le c c'){f:AV}{args:c6}{H:Hp}{r:AV×Hp}(g:XG C c f args H=Z r):XG C c' f args H=Z r:=by
 unfold XG qC at g ⊢;split at g
 ·split at g
  ·rename_i j;rw[if_pos j];exact eR h g
  ·cases g
 ·cases g
theorem ZqO {c c':ZM}(h:Le c c'){ev:Operand->AV}{H:Hp}{op:Op}{r:AV×Hp}(g:ZL C c ev H op=Z r):ZL C c' ev H op=Z r:=by
 cases op <;> try exact g
 case makeMap t r=>cases r <;> exact g
 case call cl =>
  obtain⟨callee,args,u⟩:=cl
  cases callee with
  |value f =>
   simp only[ZL]at g ⊢;split at g
   ·rename_i j;rw[if_pos j];exact ZoP h g
   ·rename_i j;rw[if_neg j];exact eR h g
  |invoke r m =>
   simp only[ZL]at g ⊢;unfold ZmU at g ⊢;split at g
   ·split at g
    ·exact eR h g
    ·cases g
   ·cases g
  |builtin b=>cases b <;> exact g
theorem Zwe {c c':ZM}(h:Le c c'){ev:Operand->AV}{H:Hp}{fl:Bool}{op:Op}{r:AV×Hp}(g:Xf C c ev H fl op=Z r):Xf C c' ev H fl op=Z r:=by
 unfold Xf at g ⊢;split at g
 ·exact g
 ·split at g
  ·cases g
  ·rename_i j;rw[if_neg j];exact ZqO h g
theorem Zse {c c':ZM}(h:Le c c'){ops:Array Oper}{fl:Bool}{o:Oper}{s r:St}(g:VW C c ops fl o s=Z r):VW C c' ops fl o s=Z r:=by
 unfold VW YF at g ⊢
 cases hw:WM ops s.1 o with
 |none=>simp[hw]at g
 |some b =>
  cases b with
  |false=>simp only[hw]at g ⊢;exact g
  |true =>
   simp only[hw]at g ⊢
   cases j:Xf C c (eval C s.1) s.2 fl o.op with
   |none=>simp[j]at g
   |some q=>rw[Zwe h j];rw[j]at g;exact g
theorem ZiE {c c':ZM}(h:Le c c'){ops:Array Oper}{draw:Bool}{b i:Nat}{o:Oper}{s r:St}(g:W5 C c ops draw b i o s=Z r):W5 C c' ops draw b i o s=Z r:=by
 unfold W5 at g ⊢;by_cases j:(draw&&Vq C ops i)=Y
 ·rw[if_pos j]at g ⊢;exact g
 ·rw[if_neg j]at g ⊢;exact Zse h g
theorem CN {c c':ZM}(h:Le c c'){ops:Array Oper}{draw:Bool}{b:Nat}:∀ (l:List Oper) (i:Nat) (s r:St),YD C c ops draw b i l s=Z r->YD C c' ops draw b i l s=Z r:=by
 intro l
 induction l with
 |nil=>intro i s r g;exact g
 |cons o l u =>
  intro i s r g;unfold YD at g ⊢;split at g
  ·rename_i s' j;rw[ZiE h j];exact u _ _ _ g
  ·cases g
theorem hM {f g:St->Option (AExit×St)}(h:∀ s r,f s=Z r->g s=Z r):∀ (n m:Nat) (s:St) (r:AExit×St),n<=m->W4 f n s=Z r->W4 g m s=Z r:=by
 intro n
 induction n with
 |zero=>intro m s r _ j;cases j
 |succ n w =>
  intro m s r y j;obtain⟨m,rfl⟩:∃ k,m=k+1:=⟨m-1,cm⟩;unfold W4 at j ⊢
  cases u:f s with
  |none=>simp[u]at j
  |some p =>
   rw[h s p u];obtain⟨e,s'⟩:=p
   cases e with
   |normal=>simp only[u]at j ⊢;exact w m s' r cm j
   |_=>simpa[u]using j
theorem Gj {c c':ZM}(h:Le c c'){kp:Nat->Option da}{n m:Nat}(B:n<=m):∀ (A:Code) (s:St) (r:AExit×St),ZA C c kp n A s=Z r->ZA C c' kp m A s=Z r:=by
 intro A
 induction A with
 |region id ops draw =>
  intro s r g;simp only[ZA]at g ⊢;split at g
  ·cases g
  ·rename_i D;rw[if_neg D];split at g
   ·rename_i s' F;rw[CN h _ _ _ _ F];exact g
   ·cases g
 |seq x y u w =>
  intro s r g;simp only[ZA]at g ⊢
  cases j:ZA C c kp n x s with
  |none=>simp[j]at g
  |some p =>
   rw[u s p j];obtain⟨e,s'⟩:=p
   cases e with
   |normal=>simp only[j]at g ⊢;exact w _ _ g
   |_=>simpa[j]using g
 |cond o x y u w =>
  intro s r g;simp only[ZA]at g ⊢;split at g
  ·rename_i t H
   cases t with
   |true=>exact u _ _ (by simpa using g)
   |false=>exact w _ _ (by simpa using g)
  ·cases g
 |block id x z =>
  intro s r g;simp only[ZA]at g ⊢
  cases j:ZA C c kp n x s with
  |none=>simp[j]at g
  |some p=>rw[z s p j];rw[j]at g;exact g
 |loop x z =>
  intro s r g;simp only[ZA]at g ⊢;exact hM (λs r=>z (trim kp x s) r) n m s r B g
 |scope x z =>
  intro s r g;simp only[ZA]at g ⊢;split at g
  ·rename_i E;rw[if_pos E];exact z s r g
  ·cases g
 |_=>intro s r g;exact g
theorem ZtA {c c':ZM}(h:Le c c'){n m:Nat}(u:n<=m){f:FuncId}{fn:Func}{j:Code}{args:c6}{H:Hp}{r:AV×Hp}(g:body C c n f fn j args H=Z r):body C c' m f fn j args H=Z r:=by
 unfold body at g ⊢
 cases w:ZA C c (C.keep f) n j (args++zE (fn.ntmps-J args) .undef,H) with
 |none=>simp[w]at g
 |some p=>rw[Gj h u _ _ _ w];rw[w]at g;exact g
theorem Q4:∀ (n m:Nat),n<=m->Le (call C n) (call C m):=by
 intro n
 induction n with
 |zero=>intro m _ f a H r g;cases g
 |succ n h =>
  intro m y f a H r g;obtain⟨m,rfl⟩:∃ k,m=k+1:=⟨m-1,cm⟩;simp only[call]at g ⊢;split at g
  ·cases g
  ·rename_i fn w;split at g
   ·cases g
   ·rename_i j u;exact ZtA (h m cm) cm g
open Classical in
noncomputable def lim {α:Type}(f:Nat->Option α):Option α:=if h:∃ n r,f n=Z r then Z h.choose_spec.choose else Q
theorem ZnQ {α:Type}{f:Nat->Option α}(u:∀ n m r,n<=m->f n=Z r->f m=Z r){r:α}:lim f=Z r↔∃ n,f n=Z r:=by
 unfold lim;constructor
 ·intro h;split at h
  ·rename_i g;injection h with h;exact⟨g.choose,h ▸ g.choose_spec.choose_spec⟩
  ·cases h
 ·rintro⟨n,hn⟩
  have g:∃ n r,f n=Z r:=⟨n,r,hn⟩;rw[dif_pos g];have w:=u _ (max g.choose n) _ (zG _ _) g.choose_spec.choose_spec;have j:=u _ (max g.choose n) _ (zF _ _) hn;rw[w]at j;exact j
noncomputable def Zb (C:Cfg):ZM:=λf a H=>lim λn=>call C n f a H
theorem Q5 {f:FuncId}{a:c6}{H:Hp}{r:AV×Hp}:Zb C f a H=Z r↔∃ n,call C n f a H=Z r:=ZnQ λn m r h g=>Q4 n m h f a H r g
noncomputable def YH (C:Cfg)(kp:Nat->Option da)(c:Code)(s:St):Option (AExit×St):=lim λn=>ZA C (call C n) kp n c s
theorem Yb {kp:Nat->Option da}{c:Code}{s:St}{r:AExit×St}:YH C kp c s=Z r↔∃ n,ZA C (call C n) kp n c s=Z r :=
 ZnQ λn m r h g=>Gj (Q4 n m h) h c s r g
theorem Zm7 (n:Nat):Le (call C n) (Zb C):=λ_ _ _ _ h=>Q5.2 ⟨n,h⟩
theorem Zyw {id:FuncId}{args:c6}{H:Hp}{r:AV×Hp}(h:XF C (Zb C) id args H=Z r):∃ n,XF C (call C n) id args H=Z r:=by
 unfold XF at h
 cases z:C.ext id with
 |some e=>exact⟨0,by unfold XF;simpa[z]using h⟩
 |none =>
  cases u:C.sum id with
  |some g=>exact⟨0,by unfold XF;simpa[z,u]using h⟩
  |none =>
  cases w:C.eff id with
  |some g=>exact⟨0,by unfold XF;simpa[z,u,w]using h⟩
  |none =>
  simp only[z,u,w]at h;by_cases A:C.user id=Y
  ·by_cases j:C.flat id=Y
   ·simp only[A,j,if_true]at h;obtain⟨args',q,D,E⟩:=Zi6 h;obtain⟨n,B⟩:=Q5.1 D;exact⟨n,by unfold XF;simp only[z,u,w,A,j,if_true];exact E _ B⟩
   ·by_cases y:C.ro id=Y
    ·simp only[A,j,y,zB,if_false,if_true]at h;obtain⟨q,D,E⟩:=Zoj h;obtain⟨n,B⟩:=Q5.1 D;exact⟨n,by unfold XF;simp only[z,u,w,A,j,y,zB,if_false,if_true];exact E _ B⟩
    ·simp only[A,j,y,zB,if_false,if_true]at h;obtain⟨n,B⟩:=Q5.1 h;exact⟨n,by unfold XF;simp only[z,u,w,A,j,y,zB,if_false,if_true];exact B⟩
  ·simp[A]at h
theorem ZmT {f:AV}{args:c6}{H:Hp}{r:AV×Hp}(h:Yu C (Zb C) f args H=Z r):∃ n,Yu C (call C n) f args H=Z r:=by
 unfold Yu at h;split at h
 ·exact Zyw h
 ·cases h
theorem Zyx {f:AV}{args:c6}{H:Hp}{r:AV×Hp}(h:XG C (Zb C) f args H=Z r):∃ n,XG C (call C n) f args H=Z r:=by
 unfold XG qC at h ⊢;split at h
 ·split at h
  ·rename_i j;obtain⟨n,g⟩:=ZmT h;exact⟨n,by rw[if_pos j];exact g⟩
  ·cases h
 ·cases h
theorem ZzI {ev:Operand->AV}{H:Hp}{op:Op}{r:AV×Hp}(h:ZL C (Zb C) ev H op=Z r):∃ n,ZL C (call C n) ev H op=Z r:=by
 cases op <;> try exact⟨0,h⟩
 case makeMap t r=>cases r <;> exact⟨0,h⟩
 case call cl =>
  obtain⟨callee,args,j⟩:=cl
  cases callee with
  |value f =>
   simp only[ZL]at h ⊢;split at h
   ·rename_i g;simp only[if_pos g];exact Zyx h
   ·rename_i g;simp only[if_neg g];exact ZmT h
  |invoke r m =>
   simp only[ZL]at h ⊢;unfold ZmU at h ⊢;split at h
   ·split at h
    ·exact ZmT h
    ·cases h
   ·cases h
  |builtin b=>cases b <;> exact⟨0,h⟩
theorem ZAU {ev:Operand->AV}{H:Hp}{fl:Bool}{op:Op}{r:AV×Hp}(h:Xf C (Zb C) ev H fl op=Z r):∃ n,Xf C (call C n) ev H fl op=Z r:=by
 unfold Xf at h ⊢;split at h
 ·exact⟨0,h⟩
 ·split at h
  ·cases h
  ·rename_i g;obtain⟨n,j⟩:=ZzI h;exact⟨n,by rw[if_neg g];exact j⟩
theorem ZAe {ops:Array Oper}{fl:Bool}{o:Oper}{s r:St}(h:VW C (Zb C) ops fl o s=Z r):∃ n,VW C (call C n) ops fl o s=Z r:=by
 unfold VW YF at h ⊢
 cases hw:WM ops s.1 o with
 |none=>simp[hw]at h
 |some b =>
  cases b with
  |false=>simp only[hw]at h ⊢;exact⟨0,h⟩
  |true =>
   simp only[hw]at h ⊢
   cases g:Xf C (Zb C) (eval C s.1) s.2 fl o.op with
   |none=>simp[g]at h
   |some q =>
    obtain⟨n,j⟩:=ZAU g;exact⟨n,by rw[j];rw[g]at h;exact h⟩
theorem ZAg {ops:Array Oper}{draw:Bool}{b i:Nat}{o:Oper}{s r:St}(h:W5 C (Zb C) ops draw b i o s=Z r):∃ n,W5 C (call C n) ops draw b i o s=Z r:=by
 unfold W5 at h ⊢;by_cases g:(draw&&Vq C ops i)=Y
 ·rw[if_pos g]at h;simp only[if_pos g];exact⟨0,h⟩
 ·rw[if_neg g]at h;simp only[if_neg g];exact ZAe h
theorem ZwS {ops:Array Oper}{draw:Bool}{b:Nat}:∀ (l:List Oper) (i:Nat) (s r:St),YD C (Zb C) ops draw b i l s=Z r->∃ n,YD C (call C n) ops draw b i l s=Z r:=by
 intro l
 induction l with
 |nil=>intro i s r h;exact⟨0,h⟩
 |cons o l w =>
  intro i s r h;unfold YD at h;split at h
  ·rename_i s' u;obtain⟨n,j⟩:=ZAg u;obtain⟨m,g⟩:=w _ _ _ h;refine⟨max n m,?_⟩;unfold YD;rw[ZiE (Q4 n _ (zG n m)) j];exact CN (Q4 m _ (zF n m)) _ _ _ _ g
  ·cases h
section
variable {kp:Nat->Option da}
theorem Znu (id:Nat)(ops:Array Oper)(draw:Bool)(s:St):YH C kp (.region id ops draw) s =
 if draw&&!(V9 ops&&DQ C ops (eval C (frzs kp id s).1)) then Q else match YD C (Zb C) ops draw (frzs kp id s).2.length 0 ops.toList ((frzs kp id s).1,Qj (if draw then Vr C ops ops.size else 0) (frzs kp id s).2) with
  |some s'=>Z (.normal,s')
  |none=>Q:=by
 apply zI;intro r;rw[Yb];constructor
 ·rintro⟨n,g⟩
  simp only[ZA]at g;split at g
  ·cases g
  ·rename_i j;rw[if_neg j];split at g
   ·rename_i s' u;rw[CN (Zm7 n) _ _ _ _ u];exact g
   ·cases g
 ·intro h;split at h
  ·cases h
  ·rename_i j;split at h
   ·rename_i s' u;obtain⟨n,g⟩:=ZwS _ _ _ _ u;exact⟨n,by simp only[ZA];rw[if_neg j,g];exact h⟩
   ·cases h
theorem Zu5 (a b:Code)(s:St):YH C kp (.seq a b) s=match YH C kp a s with
 |some (.normal,s')=>YH C kp b (trim kp b s')
 |r=>r:=by
 apply zI;intro r;rw[Yb];constructor
 ·rintro⟨n,j⟩
  simp only[ZA]at j
  cases g:ZA C (call C n) kp n a s with
  |none=>simp[g]at j
  |some p =>
   rw[Yb.2 ⟨n,g⟩];obtain⟨e,s'⟩:=p
   cases e with
   |normal=>simp only[g]at j ⊢;exact Yb.2 ⟨n,j⟩
   |_=>simpa[g]using j
 ·intro h
  cases g:YH C kp a s with
  |none=>simp[g]at h
  |some p =>
   obtain⟨n,j⟩:=Yb.1 g;obtain⟨e,s'⟩:=p
   cases e with
   |normal =>
    simp only[g]at h;obtain⟨m,u⟩:=Yb.1 h;refine⟨max n m,?_⟩;simp only[ZA];rw[Gj (Q4 n _ (zG n m)) (zG n m) _ _ _ j];exact Gj (Q4 m _ (zF n m)) (zF n m) _ _ _ u
   |_=>exact⟨n,by simp only[ZA];rw[j];simpa[g]using h⟩
theorem Zrq (o:Operand)(x y:Code)(s:St):YH C kp (.cond o x y) s=match eval C s.1 o with
 |.bool t=>if t then YH C kp x s else YH C kp y s
 |_=>Q:=by
 apply zI;intro r;rw[Yb];simp only[ZA];generalize eval C s.1 o=v
 cases v with
 |bool t=>cases t <;> simp[Yb]
 |_=>simp
theorem Zpk (id:Nat)(c:Code)(s:St):YH C kp (.block id c) s=match YH C kp c s with
 |some (.exit i,s')=>if i=id then Z (.normal,s') else Z (.exit i,s')
 |r=>r:=by
 apply zI;intro r;rw[Yb];constructor
 ·rintro⟨n,j⟩
  simp only[ZA]at j
  cases g:ZA C (call C n) kp n c s with
  |none=>simp[g]at j
  |some p=>rw[Yb.2 ⟨n,g⟩];rw[g]at j;exact j
 ·intro h
  cases g:YH C kp c s with
  |none=>simp[g]at h
  |some p =>
   obtain⟨n,j⟩:=Yb.1 g;exact⟨n,by simp only[ZA];rw[j];rw[g]at h;exact h⟩
theorem Zpm (c:Code)(s:St):YH C kp (.scope c) s=if XM c then YH C kp c s else Q:=by
 apply zI;intro r;rw[Yb];simp only[ZA];by_cases g:XM c=Y
 ·simp only[g,if_true];rw[Yb]
 ·simp[g]
theorem TI (c:Code)(s:St):YH C kp (.loop c) s=match YH C kp c (trim kp c s) with
 |some (.normal,s')=>YH C kp (.loop c) s'
 |r=>r:=by
 apply zI;intro r;rw[Yb];constructor
 ·rintro⟨n,g⟩
  simp only[ZA]at g
  cases n with
  |zero=>cases g
  |succ n =>
   unfold W4 at g
   cases j:ZA C (call C (n+1)) kp (n+1) c (trim kp c s) with
   |none=>simp[j]at g
   |some p =>
    rw[Yb.2 ⟨n+1,j⟩];obtain⟨e,s'⟩:=p
    cases e with
    |normal =>
     simp only[j]at g ⊢;refine Yb.2 ⟨n+1,?_⟩;simp only[ZA];exact hM (λs r h=>h) n (n+1) s' r (Nat.le_succ _) g
    |_=>simpa[j]using g
 ·intro h
  cases j:YH C kp c (trim kp c s) with
  |none=>simp[j]at h
  |some p =>
   obtain⟨n,g⟩:=Yb.1 j;obtain⟨e,s'⟩:=p
   cases e with
   |normal =>
    simp only[j]at h;obtain⟨m,w⟩:=Yb.1 h;simp only[ZA]at w;have y:=zG n m;have u:=zF n m;refine⟨max n m+1,?_⟩;simp only[ZA];unfold W4;rw[Gj (Q4 n (max n m+1) cm) (m:=max n m+1) cm _ _ _ g];exact hM (λs r h=>Gj (Q4 m (max n m+1) cm) cm _ _ _ h) m (max n m) s' r u w
   |_ =>
    simp only[j]at h;refine⟨n+1,?_⟩;simp only[ZA];unfold W4;rw[Gj (Q4 n (n+1) cm) (m:=n+1) cm _ _ _ g];exact h
theorem Zrt (s:St):YH C kp .skip s=Z (.normal,s):=Yb.2 ⟨0,rfl⟩
theorem Zpl (l:Nat)(s:St):YH C kp (.label l) s=Z (.normal,s):=Yb.2 ⟨0,rfl⟩
theorem Zrr (i:Nat)(s:St):YH C kp (.exit i) s=Z (.exit i,s):=Yb.2 ⟨0,rfl⟩
theorem Zrs (i:Nat)(s:St):YH C kp (.goto i) s=Z (.goto i,s):=Yb.2 ⟨0,rfl⟩
theorem Zu4 (s:St):YH C kp .ret s=Z (.ret,s):=Yb.2 ⟨0,rfl⟩
theorem Zi0 {c:Code}{s:St}(h:∀ n,ZA C (call C n) kp n c s=Q):YH C kp c s=Q:=by
 cases j:YH C kp c s with
 |none=>rfl
 |some r=>obtain⟨n,g⟩:=Yb.1 j;rw[h n]at g;cases g
end
theorem Zwr {f:FuncId}{fn:Func}{c:Code}(w:C.P.funcs[f]?=Z fn)(u:Tz C f fn=Z c)(args:c6)(H:Hp):Zb C f args H =
 match YH C (C.keep f) c (args++zE (fn.ntmps-J args) .undef,H) with
 |some (.normal,s)|some (.ret,s)=>match VL C fn s with
  |some v=>FH C f H (v,s.2)
  |none=>Q
 |_=>Q:=by
 apply zI;intro r;rw[Q5];constructor
 ·rintro⟨n,g⟩
  cases n with
  |zero=>cases g
  |succ n =>
   simp only[call,w,u]at g;unfold body at g
   cases j:ZA C (call C n) (C.keep f) n c (args++zE (fn.ntmps-J args) .undef,H) with
   |none=>simp[j]at g
   |some p=>rw[Yb.2 ⟨n,j⟩];rw[j]at g;exact g
 ·intro h
  cases j:YH C (C.keep f) c (args++zE (fn.ntmps-J args) .undef,H) with
  |none=>simp[j]at h
  |some p =>
   obtain⟨n,g⟩:=Yb.1 j;refine⟨n+1,?_⟩;simp only[call,w,u];unfold body;rw[g];rw[j]at h;exact h
theorem Ze6 {W0:World}(g:VX C):XR C W0 (Zb C):=by
 intro W1 f args H H' v h S args' u j z w;obtain⟨n,y⟩:=Q5.1 h;exact Zr8 (W0:=W1) g n f args H H' v y S args' u j z w
end
end Go.Am
namespace Go.Am
open RowKit
abbrev Z4:=Option (AV×Hp)
abbrev Kt:=AExit->St->Z4
def Z0 {α β:Type}(x:Option α)(f:α->Option β):Option β :=
 match x with
 |some a=>f a
 |none=>Q
def Zl (c:AV)(x y:Z4):Z4 :=
 match c with
 |.bool t=>if t then x else y
 |_=>Q
def Z7 {α:Type}(g:AV)(h:Bool)(els:α)(x:Option α):Option α :=
 match g with
 |.bool b=>if b==h then x else Z els
 |.undef=>Q
 |_=>Z els
def gC {α:Type}(ops:Array Oper)(tm:c6)(o:Oper)(els:α)(x:Option α):Option α :=
 match o.guard with
 |none=>x
 |some (j,want)=>match (match ops[j]? with|some g=>g.dst|none=>Q) with
  |none=>Z els
  |some d=>match tm[d]? with
   |some g=>Z7 g want els x
   |none=>Z els
def EQ (C:Cfg)(s d:TypeId):Nat :=
 match C.P.underlying s,C.P.underlying d with
 |some (.slice _),Z .string=>1
 |some .string,Z (.slice _)=>if C.wrb d then 2 else 0
 |_,_=>0
def Zbm (C:Cfg)(g:List TypeId):Nat :=
 match g with
 |[t]=>match Dc C.P t with
  |some _=>1
  |none=>0
 |_=>0
def XK (C:Cfg):Op->Nat
 |.call { callee:=.builtin .len,argTypes,.. }=>Zbm C argTypes.toList
 |.call { callee:=.builtin .delete,.. }=>2
 |.convert s d _=>EQ C s d
 |.load _ _=>1
 |.lookup _ _ _ _=>1
 |.alloc _|.box _ _|.store _ _ _|.makeSlice _ _ _=>2
 |.makeMap _ _|.mapUpdate _ _ _ _|.insert _ _ _ _=>2
 |.call { callee:=.value _,.. }=>2
 |.call { callee:=.invoke _ _,.. }=>2
 |.call { callee:=.builtin .append,.. }=>2
 |.call { callee:=.builtin .copy,.. }=>2
 |_=>0
def Uh (x:AV)(H:Hp):Option AV :=
 match Jk x with
 |some v=>Z v
 |none=>match J9 x H with
  |some l=>match V6 l with
   |some s=>Z (.str s)
   |none=>Q
  |none=>Q
def Mb (C:Cfg)(ev:Operand->AV)(H:Hp):Op->Option AV
 |.load t a=>match Xx C.P t,Xr C.P t with
  |some g,Z sz=>Z2 g sz (ev a) H
  |_,_=>Q
 |.lookup t x k ck=>match Dc C.P t with
  |some (d,e)=>match JY C.P e with
   |some z=>Yo d z ck (ev x) (ev k) H
   |none=>Q
  |none=>Q
 |.convert s d x=>match C.P.underlying s,C.P.underlying d with
  |some (.slice e),Z .string=>if Zbj (C.P.underlying e) then Uh (ev x) H else Q
  |_,_=>Q
 |.call { callee:=.builtin .len,args,argTypes }=>match args.toList,argTypes.toList with
  |[x],[t]=>match Dc C.P t with
   |some _=>Jw (ev x) H
   |none=>Q
  |_,_=>Q
 |_=>Q
def Zkm (C:Cfg)(CL:ZM)(ops:Array Oper)(fl:Bool)(o:Oper)(k:St->Z4)(tm:c6)(H:Hp):Z4 :=
 match (if fl then 0 else XK C o.op) with
 |0=>Z0 (gC ops tm o (.tuple []) (Y9 C (eval C tm) o.op)) λv=>k (Xh tm o.dst v,H)
 |1=>Z0 (gC ops tm o (.tuple []) (Mb C (eval C tm) H o.op)) λv=>k (Xh tm o.dst v,H)
 |_=>Z0 (gC ops tm o (.tuple [],H) (ZL C CL (eval C tm) H o.op)) λr=>k (Xh tm o.dst r.1,r.2)
def TC (C:Cfg)(CL:ZM)(ops:Array Oper)(draw:Bool)(b:Nat):Nat->List Oper->(St->Z4)->St->Z4
 |_,[],k,s=>k s
 |i,o::rest,k,s=>if draw&&Vq C ops i then (if Xv C ops i then Q else Z0 (D2 (b+Vr C ops i) (Lw C (eval C s.1) o.op) s.2) λr=>TC C CL ops draw b (i+1) rest k (Xh s.1 o.dst r.1,r.2))
  else Zkm C CL ops (draw&&Xv C ops i) o (TC C CL ops draw b (i+1) rest k) s.1 s.2
abbrev iE (g:St->Z4)(k:Kt):Kt:=λe s =>
 match e with
 |.normal=>g s
 |e=>k e s
abbrev Zam (id:Nat)(k:Kt):Kt:=λe s =>
 match e with
 |.exit i=>if i=id then k .normal s else k (.exit i) s
 |e=>k e s
def CX (C:Cfg)(CL:ZM)(g:Code->Kt->St->Z4)(kp:Nat->Option da):Code->Kt->St->Z4
 |.skip,k,s=>k .normal s
 |.region id ops draw,k,s=>if draw&&!(V9 ops&&DQ C ops (eval C (frzs kp id s).1)) then Q else TC C CL ops draw (frzs kp id s).2.length 0 ops.toList (λs'=>k .normal s') ((frzs kp id s).1,Qj (if draw then Vr C ops ops.size else 0) (frzs kp id s).2)
 |.seq a b,k,s=>CX C CL g kp a (iE (λs'=>CX C CL g kp b k (trim kp b s')) k) s
 |.cond c x y,k,s=>Zl (eval C s.1 c) (CX C CL g kp x k s) (CX C CL g kp y k s)
 |.block id c,k,s=>CX C CL g kp c (Zam id k) s
 |.loop c,k,s=>g c k (trim kp c s)
 |.scope c,k,s=>if XM c then CX C CL g kp c k s else Q
 |.exit id,k,s=>k (.exit id) s
 |.label _,k,s=>k .normal s
 |.goto l,k,s=>k (.goto l) s
 |.ret,k,s=>k .ret s
 |_,_,_=>Q
noncomputable def Az (C:Cfg)(kp:Nat->Option da)(c:Code)(k:Kt)(s:St):Z4:=Z0 (YH C kp (.loop c) s) λp=>k p.1 p.2
def sub:Code->da->Code
 |.seq a _,0::p=>sub a p
 |.seq _ b,1::p=>sub b p
 |.cond _ x _,0::p=>sub x p
 |.cond _ _ y,1::p=>sub y p
 |.block _ c,0::p=>sub c p
 |.loop c,0::p=>sub c p
 |.scope c,0::p=>sub c p
 |c,_=>c
def Z1 (fn:Func):Code :=
 match fn.body with
 |some c=>c
 |none=>.skip
def Uz (C:Cfg)(f:FuncId)(fn:Func):Code :=
 match Tz C f fn with
 |some c=>c
 |none=>.skip
theorem TU {α β:Type}[BEq α][LawfulBEq α]{l:List (α×β)}{a:α}{b:β}(h:l.lookup a=Z b):(a,b)∈l:=by
 induction l with
 |nil=>simp at h
 |cons x l j =>
  obtain⟨c,d⟩:=x;simp only[List.lookup_cons]at h;split at h
  ·rename_i g;injection h with h;subst h;rw[eq_of_beq g];simp
  ·exact List.mem_cons_of_mem _ (j h)
def cE (P:Program)(f:Nat):Prop:=∀ (args:Array Value) (w:World),(callFunc f args).run P w=.ok (.enter f args) w
theorem Zj0 {P:Program}:∀ f∈([]:da),cE P f:=λ_ h=>by cases h
theorem Z6 {P:Program}{f:Nat}{l:da}(h:cE P f)(t:∀ g∈l,cE P g):∀ g∈f::l,cE P g:=λg j=>by
 rcases List.mem_cons.1 j with rfl|j
 ·exact h
 ·exact t g j
def Zqb (l:List (Nat×List (Nat×da)))(f r:Nat):Option da :=
 match l.lookup f with
 |some m=>m.lookup r
 |none=>Q
section
variable {C:Cfg}{kp:Nat->Option da}
theorem Zmg (keep:da):∀ (l:c6) (i:Nat),XQ keep i (XQ keep i l)=XQ keep i l:=by
 intro l
 induction l with
 |nil=>intro i;rfl
 |cons a l g =>
  intro i;simp only[XQ,g];split <;> simp_all
theorem ZlM (c:Code)(s:St):trim kp c (trim kp c s)=trim kp c s:=by
 unfold trim
 cases YP c with
 |none=>rfl
 |some r =>
  simp only
  cases kp r with
  |none=>rfl
  |some keep=>simp[Zmg]
theorem ZvQ (c:Code)(k:Kt)(s:St):Az C kp c k (trim kp c s)=Az C kp c k s:=by
 unfold Az;rw[TI,TI (s:=s),ZlM]
theorem ZnS {x:Option AV}{H:Hp}:x.map (λv=>(v,H))=Z0 x λv=>Z (v,H):=by cases x <;> rfl
theorem ZqX {CL:ZM}{ev:Operand->AV}{H:Hp}{t:TypeId}{x q:Operand}{g:Bool}:Xf C CL ev H X (.lookup t x q g)=(Z0 (Mb C ev H (.lookup t x q g)) λv=>Z (v,H)):=by
 simp only[Xf,Y9,ZL,Mb,zB,if_false]
 cases Dc C.P t with
 |none=>rfl
 |some p =>
  obtain⟨d,e⟩:=p;simp only
  cases JY C.P e with
  |none=>rfl
  |some z=>simp only;cases Yo d z g (ev x) (ev q) H <;> rfl
theorem Zwd {CL:ZM}{ev:Operand->AV}{H:Hp}{t:TypeId}{a:Operand}:Xf C CL ev H X (.load t a)=Z0 (Mb C ev H (.load t a)) λv=>Z (v,H):=by
 unfold Xf;simp only[Y9,Mb,ZL]
 cases Xx C.P t with
 |none=>rfl
 |some g =>
  cases Xr C.P t with
  |none=>rfl
  |some sz =>
   simp only[zB,if_false];rw[ZnS]
   cases ev a <;> first
    |rfl
    |(simp only[Xk,Z2];generalize apart g sz _ 0=x;cases x <;> rfl)
theorem Zwb {CL:ZM}{ev:Operand->AV}{H:Hp}{s d:TypeId}{x:Operand}(h:EQ C s d=1):Xf C CL ev H X (.convert s d x)=Z0 (Mb C ev H (.convert s d x)) λv=>Z (v,H):=by
 unfold EQ at h;split at h
 ·rename_i e j g;unfold Xf;simp only[Y9,Mb,ZL,Zht,j,g,zB,if_false]
  cases Zbj (C.P.underlying e) with
  |false=>rfl
  |true =>
   simp only[if_true];unfold Uh Gh
   cases Jk (ev x) with
   |some v=>rfl
   |none =>
    simp only
    cases J9 (ev x) H with
    |none=>rfl
    |some l=>simp only;cases V6 l <;> rfl
 ·split at h <;> cases h
 ·cases h
theorem Zw4 {t:TypeId}{p:TypeDesc×TypeId}{x:AV}(h:Dc C.P t=Z p):ZmV C.P t x=Q:=by
 obtain⟨d,e⟩:=p;obtain⟨k,g,_⟩:=cV h;unfold ZmV;rw[g];rfl
theorem ZyC {CL:ZM}{ev:Operand->AV}{H:Hp}{args:Array Operand}{g:Array TypeId}(h:Zbm C g.toList=1):Xf C CL ev H X (.call { callee:=.builtin .len,args:=args,argTypes:=g })=Z0 (Mb C ev H (.call { callee:=.builtin .len,args:=args,argTypes:=g })) λv=>Z (v,H):=by
 unfold Xf;simp only[Y9,Mb,ZL,zB,if_false];unfold Zbm at h;split at h
 ·rename_i t u;split at h
  ·rename_i p j;rw[u]
   cases args.toList with
   |nil=>rfl
   |cons x l =>
    cases l with
    |nil =>
     simp only[Zw4 j,j];exact ZnS
    |cons y l=>rfl
  ·cases h
 ·cases h
theorem Ztm {CL:ZM}{ev:Operand->AV}{H:Hp}{args:Array Operand}{g:Array TypeId}(h:Zbm C g.toList=0):ZL C CL ev H (.call { callee:=.builtin .len,args:=args,argTypes:=g })=Q:=by
 simp only[ZL];unfold Zbm at h;split
 ·rename_i x t w u;rw[u]at h;simp only at h;split at h
  ·cases h
  ·rename_i j;rw[j]
 ·rfl
theorem Zqd (g:List TypeId):Zbm C g=0\/Zbm C g=1:=by
 unfold Zbm;split
 ·split
  ·exact .inr rfl
  ·exact .inl rfl
 ·exact .inl rfl
theorem ZqP {CL:ZM}{ev:Operand->AV}{H:Hp}{op:Op}(h:XK C op=0):ZL C CL ev H op=Q:=by
 cases op with
 |call c =>
  obtain⟨callee,args,y⟩:=c
  cases callee with
  |value f=>simp[XK]at h
  |invoke r m=>simp[XK]at h
  |builtin b=>cases b <;> first|rfl|(exact Ztm h)|(simp[XK]at h;done)
 |convert s d x =>
  simp only[XK,EQ]at h;simp only[ZL];split at h
  ·cases h
  ·rename_i e j g;split at h
   ·cases h
   ·rename_i hw;simp only[j,g,Bool.eq_false_iff.2 hw,zN];rfl
  ·rename_i u w;split
   ·rename_i e j g;exact absurd g (u _ j)
   ·rename_i e j g;exact absurd g (w _ j)
   ·rfl
 |_=>first|rfl|(simp[XK]at h;done)
theorem Zts {ev:Operand->AV}{op:Op}(h:XK C op=2):Y9 C ev op=Q:=by
 cases op with
 |call c =>
  obtain⟨callee,args,u⟩:=c
  cases callee with
  |value f=>rfl
  |invoke r m=>rfl
  |builtin b =>
   cases b <;> first
    |rfl
    |(simp[XK]at h;done)
    |(simp only[XK]at h;rcases Zqd (C:=C) u.toList with e|e <;> (rw[e]at h;cases h))
 |convert s d x =>
  simp only[XK,EQ]at h;split at h
  ·cases h
  ·rename_i e j g;split at h
   ·rename_i hw;simp only[Y9,Zht,j,g,hw,if_true];split <;> rfl
   ·cases h
  ·cases h
 |_=>first|rfl|(simp[XK]at h;done)
theorem ZwA (s d:TypeId):EQ C s d=0\/EQ C s d=1\/EQ C s d=2:=by
 unfold EQ;split
 ·simp
 ·split <;> simp
 ·simp
theorem Zuu (op:Op):XK C op=0\/XK C op=1\/XK C op=2:=by
 unfold XK;split <;> first|exact ZwA _ _|(rcases Zqd (C:=C) _ with h|h <;> rw[h] <;> simp)|simp
theorem Zwc {CL:ZM}{ev:Operand->AV}{H:Hp}{op:Op}:Xf C CL ev H Y op=Z0 (Y9 C ev op) λv=>Z (v,H):=by
 unfold Xf;cases Y9 C ev op <;> rfl
theorem Zkw {α:Type}{ops:Array Oper}{tm:c6}{o:Oper}{els:α}{x:Option α}:gC ops tm o els x=match WM ops tm o with
 |none=>Q
 |some X=>Z els
 |some Y=>x:=by
 unfold gC WM
 cases o.guard with
 |none=>rfl
 |some p =>
  obtain⟨j,h⟩:=p;simp only
  cases ops[j]? with
  |none=>rfl
  |some g =>
   simp only
   cases g.dst with
   |none=>rfl
   |some d =>
    simp only
    cases tm[d]? with
    |none=>rfl
    |some g =>
     cases g with
     |bool b=>simp only[Z7];cases (b==h) <;> rfl
     |_=>rfl
theorem ZxB {CL:ZM}{ops:Array Oper}{fl:Bool}{o:Oper}{k:St->Z4}{s:St}:Z0 (VW C CL ops fl o s) k=Zkm C CL ops fl o k s.1 s.2:=by
 obtain⟨tm,H⟩:=s
 have u:∀ (r:Z4),Xf C CL (eval C tm) H fl o.op=r ->
  Z0 (VW C CL ops fl o (tm,H)) k=Z0 (gC ops tm o (.tuple [],H) r) λr=>k (Xh tm o.dst r.1,r.2):=by
  intro r j;unfold VW YF;rw[Zkw]
  cases WM ops tm o with
  |none=>rfl
  |some b =>
   cases b with
   |false=>rfl
   |true=>simp only[j];cases r <;> rfl
 have val:∀ (r:Option AV),Xf C CL (eval C tm) H fl o.op=(Z0 r λv=>Z (v,H)) ->
  Z0 (VW C CL ops fl o (tm,H)) k=Z0 (gC ops tm o (.tuple []) r) λv=>k (Xh tm o.dst v,H):=by
  intro r j;rw[u _ j,Zkw,Zkw]
  cases WM ops tm o with
  |none=>rfl
  |some b =>
   cases b with
   |false=>rfl
   |true=>cases r <;> rfl
 unfold Zkm
 cases fl with
 |true =>
  simp only[if_true];exact val _ Zwc
 |false =>
  simp only[zB,if_false];rcases Zuu (C:=C) o.op with h|h|h
  ·rw[h];refine val _ ?_;unfold Xf;have w:=ZqP (C:=C) (CL:=CL) (ev:=eval C tm) (H:=H) h
   cases Y9 C (eval C tm) o.op with
   |none=>simp only[zB,if_false];rw[w];rfl
   |some v=>rfl
  ·rw[h]
   cases g:o.op with
   |load t a=>exact val _ (by rw[g];exact Zwd)
   |lookup t x q y=>exact val _ (by rw[g];exact ZqX)
   |convert s d x=>exact val _ (by rw[g];rw[g]at h;exact Zwb h)
   |call c =>
    rw[g]at h;obtain⟨callee,args,z⟩:=c
    cases callee with
    |value f=>simp[XK]at h
    |invoke r m=>simp[XK]at h
    |builtin b=>cases b <;> first|(simp[XK]at h;done)|(exact val _ (by rw[g];exact ZyC h))
   |_=>rw[g]at h;simp[XK]at h
  ·rw[h];refine u _ ?_;unfold Xf;rw[Zts h];rfl
theorem Zro {CL:ZM}{ops:Array Oper}{draw:Bool}{b:Nat}{k:St->Z4}:∀ (l:List Oper) (i:Nat) (s:St),Z0 (YD C CL ops draw b i l s) k=TC C CL ops draw b i l k s:=by
 intro l
 induction l with
 |nil=>intro i s;rfl
 |cons o l j =>
  intro i s;unfold YD TC W5;by_cases h:(draw&&Vq C ops i)=Y
  ·rw[if_pos h,if_pos h];by_cases g:Xv C ops i=Y
   ·rw[if_pos g,if_pos g];rfl
   ·rw[if_neg g,if_neg g]
    cases D2 (b+Vr C ops i) (Lw C (eval C s.1) o.op) s.2 with
    |none=>rfl
    |some p=>exact j (i+1) _
  ·rw[if_neg h,if_neg h,<-ZxB]
   cases VW C CL ops (draw&&Xv C ops i) o s with
   |none=>rfl
   |some s'=>exact j (i+1) s'
theorem Zyj:∀ (c:Code) (k:Kt) (s:St),CX C (Zb C) (Az C kp) kp c k s=Z0 (YH C kp c s) λp=>k p.1 p.2:=by
 intro c
 induction c with
 |skip=>intro k s;rw[Zrt];rfl
 |region id ops draw =>
  intro k s;rw[Znu];simp only[CX];split
  ·rfl
  ·rw[<-Zro];cases YD C (Zb C) ops draw (frzs kp id s).2.length 0 ops.toList ((frzs kp id s).1,Qj (if draw then Vr C ops ops.size else 0) (frzs kp id s).2) <;> rfl
 |seq a b h j =>
  intro k s;rw[Zu5];simp only[CX];rw[h]
  cases YH C kp a s with
  |none=>rfl
  |some p =>
   obtain⟨e,s'⟩:=p
   cases e with
   |normal=>simp only[Z0,iE];rw[j];rfl
   |_=>rfl
 |cond c x y u w =>
  intro k s;rw[Zrq];simp only[CX];rw[u,w]
  cases eval C s.1 c with
  |bool t=>cases t <;> rfl
  |_=>rfl
 |block id c g =>
  intro k s;rw[Zpk];simp only[CX];rw[g]
  cases YH C kp c s with
  |none=>rfl
  |some p =>
   obtain⟨e,s'⟩:=p
   cases e with
   |exit i =>
    simp only[Z0,Zam];split <;> rfl
   |_=>rfl
 |loop c _ =>
  intro k s;simp only[CX];rw[ZvQ];rfl
 |rangeFunc f p x y _ _=>intro k s;simp only[CX];rw[Zi0 (λn=>rfl)];rfl
 |exit id=>intro k s;rw[Zrr];rfl
 |scope c g =>
  intro k s;rw[Zpm];simp only[CX];split
  ·exact g k s
  ·rfl
 |label l=>intro k s;rw[Zpl];rfl
 |goto l=>intro k s;rw[Zrs];rfl
 |ret=>intro k s;rw[Zu4];rfl
 |refuse s=>intro k s;simp only[CX];rw[Zi0 (λn=>rfl)];rfl
theorem ZzF (c:Code)(k:Kt)(s:St):Az C kp c k s=CX C (Zb C) (Az C kp) kp c (iE (λs'=>Az C kp c k (trim kp c s')) k) (trim kp c s):=by
 rw[Zyj];unfold Az;rw[TI]
 cases YH C kp c (trim kp c s) with
 |none=>rfl
 |some p =>
  obtain⟨e,s'⟩:=p
  cases e with
  |normal =>
   show Z0 (YH C kp (.loop c) s') _=Z0 (YH C kp (.loop c) (trim kp c s')) _;rw[TI,TI (s:=trim kp c s'),ZlM]
  |_=>rfl
def iD (C:Cfg):List ResultVar->St->c6->(c6->Z4)->Z4
 |[],_,acc,k=>k acc
 |r::rs,s,acc,k=>Z0 (WH C s r) λv=>iD C rs s (acc++[v]) k
noncomputable def Zbl (C:Cfg)(f:FuncId)(H0:Hp)(H:Hp):c6->Z4
 |[v]=>FH C f H0 (v,H)
 |l=>FH C f H0 (.tuple l,H)
noncomputable abbrev ZAh (C:Cfg)(f:FuncId)(fn:Func)(H0:Hp):Kt:=λe s =>
 match e with
 |.normal=>iD C fn.results.toList s [] (Zbl C f H0 s.2)
 |.ret=>iD C fn.results.toList s [] (Zbl C f H0 s.2)
 |_=>Q
theorem Zzo (s:St)(k:c6->Z4):∀ (rs:List ResultVar) (g:c6),iD C rs s g k=Z0 (rs.mapM (WH C s)) λl=>k (g++l):=by
 intro rs
 induction rs with
 |nil=>intro g;simp[iD,Z0]
 |cons r rs h =>
  intro g;rw[zM];unfold iD
  cases WH C s r with
  |none=>rfl
  |some v =>
   simp only[Z0];rw[h]
   cases rs.mapM (WH C s) with
   |none=>rfl
   |some l=>simp[Z0]
theorem Zwq {f:FuncId}{fn:Func}{c:Code}(h:C.P.funcs[f]?=Z fn)(g:Tz C f fn=Z c)(args:c6)(H:Hp) :
 Zb C f args H=CX C (Zb C) (Az C (C.keep f)) (C.keep f) c (ZAh C f fn H) (args++zE (fn.ntmps-J args) .undef,H):=by
 rw[Zwr h g,Zyj]
 have key:∀ s:St,(match VL C fn s with|some v=>FH C f H (v,s.2)|none=>Q)=iD C fn.results.toList s [] (Zbl C f H s.2):=by
  intro s;rw[Zzo];unfold VL
  cases fn.results.toList.mapM (WH C s) with
  |none=>rfl
  |some l =>
   match l with
   |[]=>rfl
   |[v]=>rfl
   |a::b::l=>rfl
 cases YH C (C.keep f) c (args++zE (fn.ntmps-J args) .undef,H) with
 |none=>rfl
 |some p =>
  obtain⟨e,s⟩:=p
  cases e with
  |normal=>exact key s
  |ret=>exact key s
  |_=>rfl
end
end Go.Am
