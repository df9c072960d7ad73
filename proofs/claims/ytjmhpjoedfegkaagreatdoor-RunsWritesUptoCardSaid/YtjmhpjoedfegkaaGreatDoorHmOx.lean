/- THE ABSTRACT MACHINE -/
import Derived.Test.YtjmhpjoedfegkaaGreatDoorHmMx
import Derived.Defers
open Option renaming some->Z,none->Q
open Bool renaming true->Y,false->X
open List renaming length->J
open List renaming replicate->zE,mapM_cons->zM
open Nat renaming le_max_right->zF,le_max_left->zG,ne_of_beq_eq_false->zL
open Bool renaming false_eq_true->zB,and_eq_true->zD,not_eq_true'->zH,false_and->zN
open Option renaming ext->zI
open Array renaming replicate->zJ,getD_eq_getD_getElem?->zK
open Option.some renaming injEq->zA
open Prod.mk renaming injEq->zC
namespace Go.Am
open RowKit
section
variable {C:Cfg}{W0:World}
theorem Zg9 {P:Program}{t:TypeId}{u:Value}{j:Addr}{v:Value}{w:World}(y:u=.pointer (Z j))(h:(loadVar t j).run P w=.ok v w):(do loadVar t (<-asAddr u):Sem Value).run P w=.ok v w:=by
 subst y;simp[asAddr,h]
def ZnR (tmps:Array Value):ResultVar->Sem Value
 |.tmp t=>pure (tmps.getD t undef)
 |.cell a t=>do loadVar t (<-asAddr (tmps.getD a undef))
theorem ZrH (fn:Func)(tmps:Array Value):results fn tmps=(do let vs <-fn.results.mapM (ZnR tmps);pure (if h:vs.size=1 then vs[0] else .tuple vs)):=by
 unfold results;congr 1
theorem ZnD {S:Snap}{H:Hp}{tm:du}{tmps:Array Value}(u:Inv W0 S H)(j:FRel S tm tmps){r:ResultVar}{v:AV}(h:WJ C (tm,H) r=Z v) :
 ∃ v',(ZnR tmps r).run C.P S.w=.ok v' S.w/\VRel S v v':=by
 cases r with
 |tmp t =>
  simp only[WJ,zA]at h;subst h;exact⟨_,rfl,j.getD t⟩
 |cell a t =>
  simp only[WJ]at h;split at h
  ·rename_i g sz y A;obtain⟨v',E,B,z,D⟩:=Zeo (P:=C.P) u y A (j.getD a) h;exact⟨v',Zg9 B z,D⟩
  ·cases h
theorem Zx4 {S:Snap}{H:Hp}{tm:du}{tmps:Array Value}(L:Inv W0 S H)(K:FRel S tm tmps):∀ (l:List ResultVar) (r:du),l.mapM (WJ C (tm,H))=Z r ->
 ∃ vs:List Value,(l.mapM (ZnR tmps)).run C.P S.w=.ok vs S.w/\J vs=J r /\
  ∀ (i:Nat) (a:AV) (v:Value),r[i]?=Z a->vs[i]?=Z v->VRel S a v:=by
 intro l
 induction l with
 |nil=>intro r h;simp at h;subst h;exact⟨[],rfl,rfl,dh⟩
 |cons x l O =>
  intro r h;rw[zM]at h
  cases j:WJ C (tm,H) x with
  |none=>simp[j]at h
  |some a =>
   cases y:l.mapM (WJ C (tm,H)) with
   |none=>simp[j,y]at h
   |some A =>
    simp[j,y]at h;subst h;obtain⟨v,B,D⟩:=ZnD L K j;obtain⟨vs,E,F,G⟩:=O A y;refine⟨v::vs,?_,by simp[F],λi a v u z=>?_⟩
    ·rw[zM];simp only[Sem.run_bind,B,E,Result.andThen_ok,Sem.run_pure]
    ·cases i with
     |zero=>simp at u z;subst u z;exact D
     |succ i=>exact G i a v (by simpa using u) (by simpa using z)
theorem ZnE {S:Snap}{H:Hp}{tm:du}{tmps:Array Value}(F:Inv W0 S H)(E:FRel S tm tmps){fn:Func}{v:AV}(h:VQ C fn (tm,H)=Z v):∃ v',(results fn tmps).run C.P S.w=.ok v' S.w/\VRel S v v':=by
 unfold VQ at h
 have j:∀ l,fn.results.toList.mapM (WJ C (tm,H))=Z l->∃ vs:List Value,(results fn tmps).run C.P S.w=.ok (if h:vs.toArray.size=1 then vs.toArray[0] else .tuple vs.toArray) S.w/\J vs=J l /\
  ∀ (i:Nat) (a:AV) (v:Value),l[i]?=Z a->vs[i]?=Z v->VRel S a v:=by
  intro l B;obtain⟨vs,y,z,A⟩:=Zx4 F E _ l B;refine⟨vs,?_,z,A⟩;rw[ZrH,Sem.run_bind,Array.mapM_eq_mapM_toList,Sem.run_map,y];rfl
 split at h
 ·rename_i R B;injection h with h;subst h;obtain⟨vs,y,z,A⟩:=j _ B
  match vs,z with
  |[u],_=>exact⟨u,by simpa using y,A 0 R u rfl rfl⟩
 ·rename_i l D B;injection h with h;subst h;obtain⟨vs,y,z,A⟩:=j _ B
  have L:vs.toArray.size≠1:=by
   intro K;have:J l=1:=by simp at K;omega
   match l,this with
   |[a],_=>exact D a rfl
  rw[dif_neg L]at y;exact⟨_,y,.tuple _ _ (by simp[z]) λi a v G O=>A i a v G (by simpa using O)⟩
 ·cases h
theorem Zna {S:Snap}{args:du}{args':Array Value}(y:args'.size=J args)(h:∀ (i:Nat) (a:AV) (u:Value),args[i]?=Z a->args'[i]?=Z u->VRel S a u)(n:Nat) :
 FRel S (args++zE (n-J args) .undef) (args'++zJ (n-args'.size) undef):=by
 refine⟨by simp[y],λi a v j w=>?_⟩;rcases Nat.lt_or_ge i (J args) with hi|hi
 ·rw[List.getElem?_append_left hi]at j;rw[Array.getElem?_append_left b5]at w;exact h i a v j w
 ·rw[List.getElem?_append_right hi]at j;rw[Array.getElem?_append_right b5]at w;rw[List.getElem?_replicate]at j;rw[Array.getElem?_replicate]at w;split at j
  ·injection j with j;split at w
   ·injection w with w;subst j w;exact .undef _
   ·cases w
  ·cases j
theorem IT {f:FuncId}{fn:Func}{S z:Snap}{H H':Hp}{s:St}{tmps:Array Value}{v:AV}(K:Inv W0 S H)(D:Ext S z)(y:Inv W0 z s.2)(F:FRel z s.1 tmps)
 (h:(match VQ C fn s with|some v=>FZ C f H (v,s.2)|none=>Q)=Z (v,H')) :
 ∃ u,(results fn tmps).run C.P z.w=.ok u z.w/\∃ E,E.w=z.w/\Ext S E/\Inv W0 E H'/\VRel E v u:=by
 split at h
 ·rename_i O G;obtain⟨v',B,L⟩:=ZnE (tm:=s.1) y F G;refine⟨v',B,?_⟩;unfold FZ at h;split at h
  ·unfold Znh at h;split at h
   ·rename_i j
    cases A:Zk s.2 (J H) 9 O with
    |none=>simp[A]at h
    |some R =>
     simp only[A,zA,zC]at h;obtain⟨rfl,rfl⟩:=h;exact⟨z.back H,rfl,Ext.back K D,Inv.back K y j,HP y j 9 _ _ _ A L⟩
   ·cases h
  ·simp only[zA,zC]at h;obtain⟨rfl,rfl⟩:=h;exact⟨z,rfl,D,y,L⟩
 ·cases h
def D0 (N:Nat)(a:Act):Prop:=a.defers=[]/\N<=a.tmps.size
theorem D0.put {N:Nat}(a:Act)(j:Option Tmp)(v:Value)(h:D0 N a):D0 N (a.put j v):=by
 cases j with
 |none=>exact h
 |some d=>exact⟨h.1,by show N<=(a.tmps.setIfInBounds d v).size;rw[Array.size_setIfInBounds];exact h.2⟩
theorem Zl5 {S:Snap}{H:Hp}{args:du}{args':Array Value}(j:Inv W0 S H)(h:GlobOk C S)(z:args'.size=J args)(y:∀ (i:Nat) (a:AV) (u:Value),args[i]?=Z a->args'[i]?=Z u->VRel S a u)(n:Nat) :
 Rel C W0 S (D0 n) (args++zE (n-J args) .undef,H) { tmps:=args'++zJ (n-args'.size) undef,defers:=[] } S.w :=
 ⟨S,rfl,Ext.refl S,j,h,Zna z y n,rfl,by simp;omega⟩
theorem Zpt (hC:VG C){cl:ZQ}(z:W3 C W0 cl)(aa:XQ cl){n:Nat}{f:FuncId}{fn:Func}{c:Code}{args:du}{H H':Hp}{v:AV}
 (h:body C cl n f fn c args H=Z (v,H')) {S:Snap} {args':Array Value} (T:Inv W0 S H) (hG:GlobOk C S) (hs:args'.size=J args) (ha:∀ (i:Nat) (a:AV) (u:Value),args[i]?=Z a->args'[i]?=Z u->VRel S a u) :
 c.wp C.P (bodyPost C.P fn λe w'=>∃ v' y,e=.returned v'/\y.w=w'/\Ext S y/\Inv W0 y H'/\VRel y v v') { tmps:=args'++zJ (fn.ntmps-args'.size) undef,defers:=[] } S.w:=by
 unfold body at h;have E:=Zl5 T hG hs ha fn.ntmps
 cases j:Zz C cl (C.keep f) n c (args++zE (fn.ntmps-J args) .undef,H) with
 |none=>simp[j]at h
 |some p =>
  obtain⟨e,s⟩:=p;refine wp_mono (ZcD hC z aa c _ s e _ _ (iT D0.put c) j E) λe' a w hp=>?_;obtain⟨rfl,S1,rfl,F,B,ab,A,D⟩:=hp
  cases e with
  |normal =>
   simp only[j]at h;obtain⟨u,G,y,K,L,O,R⟩:=IT T F B A h;exact⟨D.1,u,G,u,y,rfl,K,L,O,R⟩
  |ret =>
   simp only[j]at h;obtain⟨u,G,y,K,L,O,R⟩:=IT T F B A h;exact⟨D.1,u,G,u,y,rfl,K,L,O,R⟩
  |_=>simp[j]at h
theorem Zqs (A:VG C){cl:ZQ}(j:W3 C W0 cl)(z:XQ cl){n:Nat}{f:FuncId}{fn:Func}{c:Code}(G:C.P.funcs[f]?=Z fn)(F:fn.body=Z c){args:du}{H H':Hp}{v:AV}
 (h:body C cl n f fn c args H=Z (v,H')) {S:Snap} {args':Array Value} (D:Inv W0 S H) (B:GlobOk C S) (K:args'.size=J args) (E:∀ (i:Nat) (a:AV) (u:Value),args[i]?=Z a->args'[i]?=Z u->VRel S a u) :
 Calls C.P f args' S.w λe w'=>∃ v' y,e=.returned v'/\y.w=w'/\Ext S y/\Inv W0 y H'/\VRel y v v' :=
 calls_of_wp G F (Zpt A j z h D B K E)
def fH (C:Cfg)(call:ZQ):Prop :=
 ∀ {W0:World} (f:FuncId) (args:du) (H H':Hp) (v:AV),C.dfr f=X->call f args H=Z (v,H')->∀ (S:Snap) (args':Array Value),Inv W0 S H->GlobOk C S->args'.size=J args ->
  (∀ (i:Nat) (a:AV) (u:Value),args[i]?=Z a->args'[i]?=Z u->VRel S a u)->∀ j:FrameMode,
  CallsD C.P f args' j S.w λe u w'=>u=j/\∃ v' h,e=.returned v'/\h.w=w'/\Ext S h/\Inv W0 h H'/\VRel h v v'
theorem ZeD (K:Nat):∀ c:Code,YQ (Xg K c)=YQ c:=by
 intro c
 induction c with
 |seq a b j u=>simp only[Xg,YQ,j,u]
 |block id c h=>exact h
 |loop c h=>exact h
 |scope c h=>exact h
 |_=>rfl
theorem ZnG (K:Nat):∀ c:Code,XW (Xg K c)=XW c:=by
 intro c
 induction c with
 |seq a b j u=>simp only[Xg,XW,j,u]
 |cond c x y w z=>simp only[Xg,XW,w,z]
 |block id c h=>exact h
 |loop c h=>exact h
 |scope c h=>exact h
 |_=>rfl
theorem ZiM {kp:Nat->Option dv}{c c':Code}(h:YQ c=YQ c')(s:St):trim kp c s=trim kp c' s:=by unfold trim;rw[h]
def Pt (K:Nat)(r:Option (AExit×St)):Option (AExit×St) :=
 match r with
 |some (.ret,s')=>Z (.exit K,s')
 |r=>r
theorem ZhW {cl:ZQ}{kp:Nat->Option dv}{n K:Nat}:∀ c:Code,GC K c=Y->∀ s,Zz C cl kp n (Xg K c) s=Pt K (Zz C cl kp n c s):=by
 intro c
 induction c with
 |skip=>intro _ s;rfl
 |region id ops draw =>
  intro _ s;simp only[Xg,Zz];split
  ·rfl
  ·split <;> rfl
 |seq a b z A =>
  intro j s;simp only[GC,zD]at j;simp only[Xg,Zz];rw[z j.1 s]
  cases Zz C cl kp n a s with
  |none=>rfl
  |some p =>
   obtain⟨e,w⟩:=p
   cases e with
   |normal =>
    show Zz C cl kp n (Xg K b) (trim kp (Xg K b) w)=_;rw[ZiM (ZeD K b)];exact A j.2 _
   |_=>rfl
 |cond c x y D E =>
  intro j s;simp only[GC,zD]at j;simp only[Xg,Zz];split
  ·split
   ·exact D j.1 s
   ·exact E j.2 s
  ·rfl
 |block id c u =>
  intro j s;simp only[GC,zD,zH]at j;simp only[Xg,Zz];rw[u j.2 s]
  cases Zz C cl kp n c s with
  |none=>rfl
  |some p =>
   obtain⟨e,w⟩:=p
   cases e with
   |ret =>
    simp only[Pt];rw[if_neg (λh=>zL j.1 h.symm)]
   |exit i =>
    simp only[Pt];split <;> rfl
   |_=>rfl
 |loop c u =>
  intro j s;simp only[GC]at j;simp only[Xg,Zz]
  have key:∀ (m:Nat) (s:St),Wa (λs=>Zz C cl kp n (Xg K c) (trim kp (Xg K c) s)) m s=Pt K (Wa (λs=>Zz C cl kp n c (trim kp c s)) m s):=by
   intro m
   induction m with
   |zero=>intro s;rfl
   |succ m B =>
    intro s;simp only[Wa];rw[ZiM (ZeD K c),u j]
    cases Zz C cl kp n c (trim kp c s) with
    |none=>rfl
    |some p =>
     obtain⟨e,w⟩:=p
     cases e with
     |normal=>exact B w
     |_=>rfl
  exact key n s
 |rangeFunc f p x y _ _=>intro _ s;rfl
 |exit id=>intro _ s;rfl
 |scope c u =>
  intro j s;simp only[GC]at j;simp only[Xg,Zz];rw[ZnG];split
  ·exact u j s
  ·rfl
 |label l=>intro _ s;rfl
 |goto l=>intro _ s;rfl
 |ret=>intro _ s;rfl
 |refuse m=>intro _ s;rfl
theorem ZoI {cl:ZQ}{kp:Nat->Option dv}{n K:Nat}:∀ c:Code,GC K c=Y->∀ s s',Zz C cl kp n c s=Z (.exit K,s')->False:=by
 intro c
 induction c with
 |skip=>intro _ s s' h;simp[Zz]at h
 |region id ops draw =>
  intro _ s s' h;simp only[Zz]at h;split at h
  ·cases h
  ·split at h
   ·simp at h
   ·cases h
 |seq a b z A =>
  intro j s s' h;simp only[GC,zD]at j;simp only[Zz]at h
  cases u:Zz C cl kp n a s with
  |none=>simp[u]at h
  |some p =>
   obtain⟨e,F⟩:=p
   cases e with
   |normal=>simp only[u]at h;exact A j.2 _ _ h
   |exit i =>
    simp only[u,zA,zC,AExit.exit.injEq]at h;obtain⟨rfl,rfl⟩:=h;exact z j.1 _ _ u
   |_=>simp[u]at h
 |cond c x y D E =>
  intro j s s' h;simp only[GC,zD]at j;simp only[Zz]at h;split at h
  ·split at h
   ·exact D j.1 _ _ h
   ·exact E j.2 _ _ h
  ·cases h
 |block id c w =>
  intro j s s' h;simp only[GC,zD,zH]at j;simp only[Zz]at h
  cases u:Zz C cl kp n c s with
  |none=>simp[u]at h
  |some p =>
   obtain⟨e,F⟩:=p
   cases e with
   |exit i =>
    simp only[u]at h;split at h
    ·simp at h
    ·simp only[zA,zC,AExit.exit.injEq]at h;obtain⟨rfl,rfl⟩:=h;exact w j.2 _ _ u
   |_=>simp[u]at h
 |loop c w =>
  intro j s s' h;simp only[GC]at j;simp only[Zz]at h
  have key:∀ (m:Nat) (s:St),Wa (λs=>Zz C cl kp n c (trim kp c s)) m s=Z (.exit K,s')->False:=by
   intro m
   induction m with
   |zero=>intro s h;simp[Wa]at h
   |succ m B =>
    intro s h;simp only[Wa]at h
    cases u:Zz C cl kp n c (trim kp c s) with
    |none=>simp[u]at h
    |some p =>
     obtain⟨e,F⟩:=p
     cases e with
     |normal=>simp only[u]at h;exact B F h
     |exit i =>
      simp only[u,zA,zC,AExit.exit.injEq]at h;obtain⟨rfl,rfl⟩:=h;exact w j _ _ u
     |_=>simp[u]at h
  exact key n s h
 |rangeFunc f p x y _ _=>intro _ s s' h;simp[Zz]at h
 |exit id =>
  intro j s s' h;simp only[GC,zH]at j;simp only[Zz,zA,zC,AExit.exit.injEq]at h;exact zL j h.1
 |scope c w =>
  intro j s s' h;simp only[GC]at j;simp only[Zz]at h;split at h
  ·exact w j _ _ h
  ·cases h
 |label l=>intro _ s s' h;simp[Zz]at h
 |goto l=>intro _ s s' h;simp[Zz]at h
 |ret=>intro _ s s' h;simp[Zz]at h
 |refuse m=>intro _ s s' h;simp[Zz]at h
theorem Zlz {cl:ZQ}{kp:Nat->Option dv}{n K:Nat}{c:Code}(u:GC K c=Y){s s':St}(h:Zz C cl kp n (.block K (Xg K c)) s=Z (.normal,s')) :
 Zz C cl kp n c s=Z (.normal,s')\/Zz C cl kp n c s=Z (.ret,s'):=by
 simp only[Zz]at h;rw[ZhW c u]at h
 cases j:Zz C cl kp n c s with
 |none=>rw[j]at h;simp[Pt]at h
 |some p =>
  obtain⟨e,w⟩:=p;rw[j]at h
  cases e with
  |normal=>simp only[Pt,zA,zC,true_and]at h;subst h;exact .inl rfl
  |ret=>simp only[Pt,if_true,zA,zC,true_and]at h;subst h;exact .inr rfl
  |exit i =>
   simp only[Pt]at h;split at h
   ·rename_i hi;subst hi;exact (ZoI c u _ _ j).elim
   ·simp at h
  |goto l=>simp[Pt]at h
theorem nB {g:FuncId}(h:eK C g=Y):C.user g=Y/\C.flat g=X/\C.ro g=X/\C.ext g=Q/\C.sum g=Q/\C.eff g=Q/\C.dfr g=X:=by
 unfold eK at h;simp only[zD,zH,Option.isNone_iff_eq_none]at h;exact h
theorem ZmJ {N:Nat}{ops:Array Oper}{u B:Oper}{x:Nat}(h:ZhO C N ops=Z (u,B,x)) :
 ∃ (o:Oper) (c:Call) (g:FuncId) (z w:Array Operand),ops.toList=[u,o]/\u.op=.makeFunc (.func g) z w/\u.dst=Z x/\u.guard=Q/\o.op=.defer c/\o.dst=Q/\o.guard=Q /\
  B={ o with op:=.call c }/\c.callee=.value (.tmp x)/\c.args=#[]/\x<N/\eK C g=Y:=by
 unfold ZhO at h;split at h
 ·rename_i R P O;split at h
  ·rename_i g z w S D E F;split at h
   ·rename_i c G H K;split at h
    ·rename_i y L;split at h
     ·rename_i j;simp only[zA,zC]at h;obtain⟨rfl,rfl,rfl⟩:=h;simp only[zD]at j;have A:=Nat.eq_of_beq_eq_true j.1;refine⟨P,c,g,z,w,O,D,E,F,G,H,K,rfl,by rw[L,A],?_,?_,j.2.2.2⟩
      ·have:=j.2.2.1;rw[Array.isEmpty_iff]at this;exact this
      ·have:=j.2.1;rw[Nat.blt]at this;exact Nat.le_of_ble_eq_true this
     ·cases h
    ·cases h
   ·cases h
  ·cases h
 ·cases h
def D1 (d:Deferred)(x:Nat)(u:Value)(a:Act):Prop:=a.defers=[d]/\a.eval (.tmp x)=u
theorem D1.put {d:Deferred}{x:Nat}{u:Value}{a:Act}{j:Option Tmp}(v:Value)(y:j≠Z x)(h:D1 d x u a):D1 d x u (a.put j v):=by
 cases j with
 |none=>exact h
 |some t =>
  refine⟨h.1,?_⟩;have w:t≠x:=λe=>y (by rw[e]);have:=h.2;show (a.tmps.setIfInBounds t v).getD x undef=u;rw[<-this];show (a.tmps.setIfInBounds t v).getD x undef=a.tmps.getD x undef;rw[zK,zK,Array.getElem?_setIfInBounds_ne w]
theorem D1.keeps {d:Deferred}{x:Nat}{u:Value}:∀ c:Code,R0 x c=Y->DW (D1 d x u) c:=by
 intro c
 induction c with
 |region id ops draw =>
  intro h i o B a v z;refine z.put v λA=>?_;have h:Kj ops x=Y:=h;unfold Kj at h;rw[List.all_eq_true]at h;have:=h o (by rw[Array.mem_toList_iff];exact Array.mem_of_getElem? B);rw[A]at this;simp at this
 |seq a b j w=>intro h;simp only[R0,zD]at h;exact⟨j h.1,w h.2⟩
 |cond c a b j w=>intro h;simp only[R0,zD]at h;exact⟨j h.1,w h.2⟩
 |block id c y=>intro h;exact y h
 |loop c y=>intro h;exact y h
 |scope c y=>intro h;exact y h
 |_=>intro _;trivial
def QD (C:Cfg)(W0:World)(S0:Snap)(s':St)(e:Exit)(a:Act)(w:World):Prop :=
 (e=.normal\/e=.ret)/\(Rel C W0 S0 (λa=>a.defers=[]) s' a w \/
  ∃ y cap h g j,a.defers=[{ target:=.fn y cap,args:=h }]/\(invoke (.fn y cap) h).run C.P w=.ok (.enter g j) w /\
   CallsD C.P g j .returning w λe u w'=>u=.returning/\(∃ v,e=.returned v)/\Rel C W0 S0 (λ_=>True) s' a w')
theorem Zoh {cl:ZQ}{g:FuncId}{j h:du}{H:Hp}(D:eK C g=Y):YJ C cl (.fn (.func g) j h) [] H=cl g (j++[]++h) H:=by
 obtain⟨u,w,y,z,A,B,E⟩:=nB D;simp[YJ,XR,u,w,y,z,A,B]
section
variable {cl:ZQ}{S0:Snap}{kp:Nat->Option dv}{n N:Nat}
theorem ZfT {a b:Code}{s:St}:Zz C cl kp n (.seq a b) s=match Zz C cl kp n a s with
 |some (.normal,s')=>Zz C cl kp n b (trim kp b s')
 |r=>r:=rfl
theorem ZmU {K:Nat}{c:Code}(u:GC K c=Y){s s':St}(h:Zz C cl kp n (.block K (Xg K c)) s=Z (.ret,s')):False:=by
 simp only[Zz]at h;rw[ZhW c u]at h
 cases j:Zz C cl kp n c s with
 |none=>rw[j]at h;simp[Pt]at h
 |some p =>
  obtain⟨e,w⟩:=p;rw[j]at h
  cases e with
  |normal=>simp[Pt]at h
  |ret=>simp[Pt]at h
  |exit i =>
   simp only[Pt]at h;split at h <;> simp at h
  |goto l=>simp[Pt]at h
theorem ZmV {id:Nat}{o:Oper}{s s':St}{e:AExit}(u:o.guard=Q)(h:Zz C cl kp n (.region id #[o] X) s=Z (e,s')) :
 e=.normal/\∃ v H',Xi C cl (eval C (frzs kp id s).1) (frzs kp id s).2 X o.op=Z (v,H')/\s'=(Xk (frzs kp id s).1 o.dst v,H'):=by
 simp only[Zz,zN,zB,if_false]at h;have w:Qw 0 (frzs kp id s).2=(frzs kp id s).2:=by simp[Qw]
 rw[w]at h;simp only[Yz,Wb,zN,zB,if_false,U1,YA,WP,u]at h
 cases j:Xi C cl (eval C (frzs kp id s).1) (frzs kp id s).2 X o.op with
 |none=>rw[j]at h;simp at h
 |some p =>
  obtain⟨v,H'⟩:=p;rw[j]at h;simp only[zA,zC]at h;exact⟨h.1.symm,v,H',rfl,h.2.symm⟩
theorem Zp6 {ops:Array Oper}{o:Oper}{s:St}{v:AV}{H':Hp}(j:o.guard=Q)(h:Xi C cl (eval C s.1) s.2 X o.op=Z (v,H')):U1 C cl ops X o s=Z (Xk s.1 o.dst v,H'):=by
 simp only[U1,YA,WP,j,h]
theorem Zo3 (hC:VG C)(B:W3 C W0 cl)(L:fH C cl)(ax:XQ cl){id:Nat}{ops:Array Oper}{b:Code}{z o2:Oper}{x:Nat}(ar:ZhO C N ops=Z (z,o2,x))
 (hb:(R0 x b&&GC 900001 b)=Y) {s s':St} {e:AExit} {a:Act} {w:World}
 (h:Zz C cl kp n (.seq (.region id #[z] X) (.seq (.block 900001 (Xg 900001 b)) (.seq (.region 900002 #[o2] X) .ret))) s=Z (e,s')) (O:e=.normal\/e=.ret)
 (hr:Rel C W0 S0 (D0 N) s a w):(Code.seq (.region id ops X) b).wp C.P (QD C W0 S0 s') a w:=by
 obtain⟨o,c,g,fi,ca,hl,h1,h2,h3,h4,h5,h6,rfl,h7,h8,h9,ad⟩:=ZmJ ar
 have ai:ops=#[z,o]:=by
  have:ops=ops.toList.toArray:=dh
  rw[this,hl]
 subst ai;rw[zD]at hb;rw[ZfT]at h
 cases hx:Zz C cl kp n (.region id #[z] X) s with
 |none=>rw[hx]at h;cases h
 |some p =>
 obtain⟨e1,s1⟩:=p;obtain⟨rfl,v1,H1,A,rfl⟩:=ZmV h3 hx;rw[hx]at h;dsimp only at h
 have bd:v1=.fn (.func g) (fi.toList.map (eval C (frzs kp id s).1)) (ca.toList.map (eval C (frzs kp id s).1))/\H1=(frzs kp id s).2:=by
  rw[h1]at A;simp only[Xi,Yc,zA,zC]at A;exact⟨A.1.symm,A.2.symm⟩
 refine wp_seq (wp_region ?_);show wpOps C.P #[z,o] _ [0,1] a w;rw[wpOps_cons];refine Znq (S0:=S0) (D:=D0 N) hC B (λa v ha=>D0.put a _ v ha) (ops:=#[z,o]) (i:=0) (o:=z) rfl (Zp6 h3 A) (hr.frzs (kp:=kp) (id:=id)) λE w1 aj=>?_;rw[wpOps_cons];unfold wpOp;show (if Region.wanted o (yielded #[z,o] E.tmps) then _ else _);rw[if_pos (by unfold Region.wanted;simp[h6])];refine .inl ?_;obtain⟨rfl,rfl⟩:=bd;obtain⟨S1,rfl,be,am,al,R,ap,bg⟩:=aj
 have ah:x<(frzs kp id s).1.length:=by
  have:=R.1;simp only[h2,Xk,List.length_set]at this;omega
 have hv:=R.getD x
 have ag:(Xk (frzs kp id s).1 z.dst (.fn (.func g) (fi.toList.map (eval C (frzs kp id s).1)) (ca.toList.map (eval C (frzs kp id s).1)))).getD x (.tuple [])=.fn (.func g) (fi.toList.map (eval C (frzs kp id s).1)) (ca.toList.map (eval C (frzs kp id s).1)):=by
  rw[h2];simp only[Xk];rw[List.getD_eq_getElem?_getD,List.getElem?_set_self ah];rfl
 rw[ag]at hv;have aa:E.eval (.tmp x)=E.tmps.getD x undef:=rfl;generalize hu:E.tmps.getD x undef=u at hv aa;cases hv with|fn _ _ _ F K hF hK aj hr2 =>
 have ak:(execOp E.eval o).run C.P S1.w=.ok (.defer { target:=.fn (.func g) K,args:=F++#[] }) S1.w:=by
  simp[execOp,h4,resolve,h7,h8,aa,Deferred.ofValue]
 show o.wp C.P E S1.w _ _;unfold Oper.wp;rw[ak,Oper.upon_defer,h5]
 have ba:Rel C W0 S0 (D1 { target:=.fn (.func g) K,args:=F++#[] } x (.func (.func g) F K)) (Xk (frzs kp id s).1 z.dst (.fn (.func g) (fi.toList.map (eval C (frzs kp id s).1)) (ca.toList.map (eval C (frzs kp id s).1))),(frzs kp id s).2)
  {E with defers:={ target:=.fn (.func g) K,args:=F++#[] }::E.defers } S1.w:=⟨S1,rfl,be,am,al,R,by rw[ap],aa⟩
 show b.wp C.P (QD C W0 S0 s') { E with defers:={ target:=.fn (.func g) K,args:=F++#[] }::E.defers } S1.w;rw[ZfT]at h
 cases hy:Zz C cl kp n (.block 900001 (Xg 900001 b)) (trim kp (.seq (.block 900001 (Xg 900001 b)) (.seq (.region 900002 #[{ o with op:=.call c }] X) .ret)) (Xk (frzs kp id s).1 z.dst (.fn (.func g) (fi.toList.map (eval C (frzs kp id s).1)) (ca.toList.map (eval C (frzs kp id s).1))),(frzs kp id s).2)) with
 |none=>rw[hy]at h;cases h
 |some p =>
 obtain⟨e2,s2⟩:=p;rw[hy]at h
 have ac:e2=.normal/\∃ eb,(eb=.normal\/eb=.ret)/\Zz C cl kp n b (trim kp (.seq (.block 900001 (Xg 900001 b)) (.seq (.region 900002 #[{ o with op:=.call c }] X) .ret)) (Xk (frzs kp id s).1 z.dst (.fn (.func g) (fi.toList.map (eval C (frzs kp id s).1)) (ca.toList.map (eval C (frzs kp id s).1))),(frzs kp id s).2))=Z (eb,s2):=by
  cases e2 with
  |normal =>
   rcases Zlz hb.2 hy with h|h
   ·exact⟨rfl,_,.inl rfl,h⟩
   ·exact⟨rfl,_,.inr rfl,h⟩
  |ret=>exact (ZmU hb.2 hy).elim
  |exit i =>
   simp only[zA,zC]at h;obtain⟨rfl,_⟩:=h;rcases O with O|O <;> cases O
  |goto l =>
   simp only[zA,zC]at h;obtain⟨rfl,_⟩:=h;rcases O with O|O <;> cases O
 obtain⟨rfl,eb,au,ac⟩:=ac;dsimp only at h;refine wp_mono (ZcD hC B ax b _ s2 eb _ _ (D1.keeps b hb.1) ac ba.trim) λe' a3 w3 hp=>?_;obtain⟨rfl,ay⟩:=hp;rw[ZfT]at h
 cases hz:Zz C cl kp n (.region 900002 #[{ o with op:=.call c }] X) (trim kp (.seq (.region 900002 #[{ o with op:=.call c }] X) .ret) s2) with
 |none=>rw[hz]at h;cases h
 |some p =>
 obtain⟨e4,s4⟩:=p;obtain⟨rfl,v,H',j,rfl⟩:=ZmV (o:={ o with op:=.call c }) h6 hz;rw[hz]at h;dsimp only at h
 have bb:s'=(Xk (frzs kp 900002 (trim kp (.seq (.region 900002 #[{ o with op:=.call c }] X) .ret) s2)).1 Q v,H'):=by
  simp only[Zz,zA,zC,h5]at h;exact h.2.symm
 subst bb;have az:=(ay.trim (kp:=kp) (c:=.seq (.region 900002 #[{ o with op:=.call c }] X) .ret)).frzs (kp:=kp) (id:=900002);obtain⟨S3,rfl,bf,af,ae,T,aq,bc⟩:=az;generalize frzs kp 900002 (trim kp (.seq (.region 900002 #[{ o with op:=.call c }] X) .ret) s2)=s5 at j af T;obtain⟨callee,args,argTypes⟩:=c;dsimp only at h7 h8;subst h7 h8
 have y:YJ C cl (eval C s5.1 (.tmp x)) [] s5.2=Z (v,H'):=by
  simp only[Xi,Yc,ZP,zB,if_false]at j;split at j
  ·unfold XS qC at j;split at j
   ·rename_i aw;split at j
    ·rw[aw];exact j
    ·cases j
   ·cases j
  ·exact j
 have ab:VRel S3 (eval C s5.1 (.tmp x)) (a3.eval (.tmp x)):=T.getD x;rw[bc]at ab;generalize eval C s5.1 (.tmp x)=av at y ab
 have an:∃ H G,av=.fn (.func g) H G/\F.size=J H/\K.size=J G/\(∀ (i:Nat) (a:AV) (u:Value),H[i]?=Z a->F[i]?=Z u->VRel S3 a u)/\(∀ (i:Nat) (a:AV) (u:Value),G[i]?=Z a->K[i]?=Z u->VRel S3 a u):=by
  unfold YJ at y;split at y
  ·cases ab with|fn _ _ _ _ _ q1 q2 q3 q4=>exact⟨_,_,rfl,q1,q2,q3,q4⟩
  ·cases y
 obtain⟨H,G,rfl,q1,q2,q3,q4⟩:=an;rw[Zoh ad]at y;obtain⟨p1,p2,p3,p4,p5,p6,p7⟩:=nB ad;have ao:=L g _ _ _ _ p7 y S3 (F++#[]++K) af ae (by simp[q1,q2]) (Zcy (S:=S3) (by simp[q1]) (Zcy q1 q3 (λi a u ha _=>by simp at ha)) q4) .returning;refine⟨?_,.inr ⟨.func g,K,F++#[],g,F++#[]++K,aq,?_,ao.mono ?_⟩⟩
 ·rcases au with rfl|rfl
  ·exact .inl rfl
  ·exact .inr rfl
 ·simp only[invoke];exact hC.2.1 g p1 _ _
 ·rintro e u w' ⟨rfl,v',S',rfl,hw,hx,hI,hv⟩
  exact⟨rfl,⟨v',rfl⟩,S',hw,bf.trans hx,hI,ae.mono hx,T.mono hx,trivial⟩
theorem Zsf (T:VG C)(j:W3 C W0 cl)(A:fH C cl)(B:XQ cl):∀ (c:Code) (s s':St) (e:AExit) (a:Act) (w:World),
 Zz C cl kp n (D4 C N c) s=Z (e,s')->(e=.normal\/e=.ret)->Rel C W0 S0 (D0 N) s a w->c.wp C.P (QD C W0 S0 s') a w:=by
 intro c
 have z:∀ (c:Code) (s s':St) (e:AExit) (a:Act) (w:World),Zz C cl kp n c s=Z (e,s')->(e=.normal\/e=.ret)->Rel C W0 S0 (D0 N) s a w->c.wp C.P (QD C W0 S0 s') a w:=by
  intro c s s' e a w h u D;refine wp_mono (ZcD T j B c s s' e a w (iT D0.put c) h D) λe' a' w' hp=>?_;obtain⟨rfl,S,G,H,K,L,O,R⟩:=hp;refine⟨?_,.inl ⟨S,G,H,K,L,O,R.1⟩⟩;rcases u with rfl|rfl
  ·exact .inl rfl
  ·exact .inr rfl
 induction c with
 |seq x b ac ab =>
  intro s s' e a w h u D
  have Jh:Zz C cl kp n (.seq x (D4 C N b)) s=Z (e,s')->(Code.seq x b).wp C.P (QD C W0 S0 s') a w:=by
   intro h;simp only[Zz]at h
   cases E:Zz C cl kp n x s with
   |none=>simp[E]at h
   |some p =>
    obtain⟨e1,s1⟩:=p;refine wp_seq (wp_mono (ZcD T j B x s s1 e1 a w (iT D0.put x) E D) λe' a' w' hp=>?_);obtain⟨rfl,F⟩:=hp
    cases e1 with
    |normal =>
     simp only[E]at h;exact ab _ s' e a' w' h u F.trim
    |ret =>
     simp only[E,zA,zC]at h;obtain⟨_,rfl⟩:=h;obtain⟨S,G,H,K,L,O,R⟩:=F;exact⟨.inr rfl,.inl ⟨S,G,H,K,L,O,R.1⟩⟩
    |exit i =>
     simp only[E,zA,zC]at h;obtain⟨rfl,_⟩:=h;rcases u with u|u <;> cases u
    |goto l =>
     simp only[E,zA,zC]at h;obtain⟨rfl,_⟩:=h;rcases u with u|u <;> cases u
  simp only[D4]at h;split at h
  ·rename_i id ops;split at h
   ·rename_i o1 o2 y aa;split at h
    ·rename_i hb;exact Zo3 T j A B aa hb h u D
    ·exact z _ s s' e a w h u D
   ·exact Jh h
  ·exact Jh h
 |_=>intro s s' e a w h u D;exact z _ s s' e a w h u D
end
theorem Zov (hC:VG C){cl:ZQ}(E:W3 C W0 cl)(z:fH C cl)(ad:XQ cl){n:Nat}{f:FuncId}{fn:Func}{c:Code}(hf:C.P.funcs[f]?=Z fn)(hb:fn.body=Z c){args:du}{H H':Hp}{v:AV}
 (h:body C cl n f fn (D4 C fn.ntmps c) args H=Z (v,H')) {S:Snap} {args':Array Value} (hI:Inv W0 S H) (hG:GlobOk C S) (hs:args'.size=J args) (ha:∀ (i:Nat) (a:AV) (u:Value),args[i]?=Z a->args'[i]?=Z u->VRel S a u) :
 Calls C.P f args' S.w λe w'=>∃ v' j,e=.returned v'/\j.w=w'/\Ext S j/\Inv W0 j H'/\VRel j v v':=by
 unfold body at h;refine calls_of_wp_defers hf hb ?_;have L:=Zl5 hI hG hs ha fn.ntmps
 have fin:∀ (s:St) (e:AExit),Zz C cl (C.keep f) n (D4 C fn.ntmps c) (args++zE (fn.ntmps-J args) .undef,H)=Z (e,s)->(e=.normal\/e=.ret) ->
  (match VQ C fn s with|some v=>FZ C f H (v,s.2)|none=>Q)=Z (v,H') ->
  c.wp C.P (bodyPostD C.P fn λe w'=>∃ v' j,e=.returned v'/\j.w=w'/\Ext S j/\Inv W0 j H'/\VRel j v v') { tmps:=args'++zJ (fn.ntmps-args'.size) undef,defers:=[] } S.w:=by
  intro s e y he hr;refine wp_mono (Zsf hC E z ad c _ s e _ _ y he L) λe' a w hq=>?_;obtain⟨ac,hq⟩:=hq
  have A:Leaves C.P fn a.tmps (λe w'=>∃ v' j,e=.returned v'/\j.w=w'/\Ext S j/\Inv W0 j H'/\VRel j v v') a.defers .returning w:=by
   rcases hq with ⟨S1,rfl,G,D,aa,B,F⟩|⟨fv,cap,O,g,as,hd,K,ab⟩
   ·obtain⟨u,R,j,T,g3,g4,g5⟩:=IT hI G D B hr;have F:a.defers=[]:=F;rw[F];exact⟨u,R,u,j,rfl,T,g3,g4,g5⟩
   ·rw[hd];refine leaves_cons dh K (ab.mono ?_)
    rintro e u w' ⟨rfl,⟨v',rfl⟩,S1,rfl,G,D,aa,B,_⟩
    obtain⟨u,R,j,T,g3,g4,g5⟩:=IT hI G D B hr;exact⟨u,R,u,j,rfl,T,g3,g4,g5⟩
  rcases ac with rfl|rfl
  ·exact A
  ·exact A
 cases y:Zz C cl (C.keep f) n (D4 C fn.ntmps c) (args++zE (fn.ntmps-J args) .undef,H) with
 |none=>simp[y]at h
 |some p =>
  obtain⟨e,s⟩:=p
  cases e with
  |normal =>
   simp only[y]at h;exact fin s _ y (.inl rfl) h
  |ret =>
   simp only[y]at h;exact fin s _ y (.inr rfl) h
  |_=>simp[y]at h
theorem Zox (y:VG C):∀ n,W3 C W0 (call C n)/\fH C (call C n):=by
 intro n
 induction n with
 |zero=>exact⟨λ{W1} f args H H' v h=>by simp[call]at h,λ{W1} f args H H' v _ h=>by simp[call]at h⟩
 |succ n z =>
  have key:∀ {W1:World},W3 C W1 (call C n):=λ{W1}=>z.1;refine⟨λ{W1} f args H H' v h S args' hI hG hs ha=>?_,λ{W1} f args H H' v u h S args' hI hG hs ha u0=>?_⟩
  ·simp only[call]at h;split at h
   ·cases h
   ·rename_i fn w;unfold L8 at h
    cases u:C.dfr f with
    |false =>
     rw[u]at h;dsimp only at h;split at h
     ·cases h
     ·rename_i c j;exact Zqs y (key (W1:=W1)) (Ms C n) w j h hI hG hs ha
    |true =>
     rw[u]at h;dsimp only at h
     cases j:fn.body with
     |none=>rw[j]at h;cases h
     |some c =>
      rw[j]at h;exact Zov y (key (W1:=W1)) z.2 (Ms C n) w j h hI hG hs ha
  ·simp only[call]at h;split at h
   ·cases h
   ·rename_i fn w;unfold L8 at h;rw[u]at h;dsimp only at h;split at h
    ·cases h
    ·rename_i c j;exact callsD_of_wp w j (Zpt y (key (W1:=W1)) (Ms C n) h hI hG hs ha)
theorem Zqw (h:VG C):∀ n,W3 C W0 (call C n):=λn=>(Zox (W0:=W0) h n).1
end
end Go.Am
namespace Go.Am
open RowKit
section
variable {C:Cfg}
def Le (c c':ZQ):Prop:=∀ f a H r,c f a H=Z r->c' f a H=Z r
theorem Zi2 {a:du->Hp->Option (AV×Hp)}{args:du}{H:Hp}{r:AV×Hp}(h:Ze a args H=Z r) :
 ∃ args' q,a args' []=Z q/\∀ b:du->Hp->Option (AV×Hp),b args' []=Z q->Ze b args H=Z r:=by
 unfold Ze at h;split at h
 ·rename_i j y;split at h
  ·rename_i z H1 w;exact⟨j,_,w,λb u=>by unfold Ze;simp only[y,u];exact h⟩
  ·cases h
 ·cases h
theorem ZnO {a:du->Hp->Option (AV×Hp)}{args:du}{H:Hp}{r:AV×Hp}(h:Ve a args H=Z r) :
 ∃ q,a args H=Z q/\∀ b:du->Hp->Option (AV×Hp),b args H=Z q->Ve b args H=Z r:=by
 unfold Ve at h;split at h
 ·rename_i w H1 u;exact⟨_,u,λb j=>by unfold Ve;simp only[j];exact h⟩
 ·cases h
theorem Zof {c c':ZQ}(h:Le c c'){id:FuncId}{args:du}{H:Hp}{r:AV×Hp}(j:XR C c id args H=Z r):XR C c' id args H=Z r:=by
 unfold XR at j ⊢
 cases A:C.ext id with
 |some e=>simpa[A]using j
 |none =>
  cases w:C.sum id with
  |some g=>simpa[A,w]using j
  |none =>
  cases y:C.eff id with
  |some g=>simpa[A,w,y]using j
  |none =>
  simp only[A,w,y]at j ⊢;by_cases B:C.user id=Y
  ·by_cases u:C.flat id=Y
   ·simp only[B,u,if_true]at j ⊢;obtain⟨args',q,D,E⟩:=Zi2 j;exact E _ (h _ _ _ _ D)
   ·by_cases z:C.ro id=Y
    ·simp only[B,u,z,zB,if_false,if_true]at j ⊢;obtain⟨q,D,E⟩:=ZnO j;exact E _ (h _ _ _ _ D)
    ·simp only[B,u,z,zB,if_false,if_true]at j ⊢;exact h _ _ _ _ j
  ·simp[B]at j
theorem gX {c c':ZQ}(h:Le c c'){f:AV}{args:du}{H:Hp}{r:AV×Hp}(j:YJ C c f args H=Z r):YJ C c' f args H=Z r:=by
 unfold YJ at j ⊢;split at j
 ·exact Zof h j
 ·cases j
theorem Zog {c c':ZQ}(h:Le c c'){f:AV}{args:du}{H:Hp}{r:AV×Hp}(j:XS C c f args H=Z r):XS C c' f args H=Z r:=by
 unfold XS qC at j ⊢;split at j
 ·split at j
  ·rename_i u;rw[if_pos u];exact gX h j
  ·cases j
 ·cases j
theorem Zqb {c c':ZQ}(h:Le c c'){ev:Operand->AV}{H:Hp}{op:Op}{r:AV×Hp}(j:ZP C c ev H op=Z r):ZP C c' ev H op=Z r:=by
 cases op <;> try exact j
 case makeMap t r=>cases r <;> exact j
 case call cl =>
  obtain⟨callee,args,w⟩:=cl
  cases callee with
  |value f =>
   simp only[ZP]at j ⊢;split at j
   ·rename_i u;rw[if_pos u];exact Zog h j
   ·rename_i u;rw[if_neg u];exact gX h j
  |invoke r m =>
   simp only[ZP]at j ⊢;unfold Zmo at j ⊢;split at j
   ·split at j
    ·exact gX h j
    ·cases j
   ·cases j
  |builtin b=>cases b <;> exact j
theorem ZvN {c c':ZQ}(h:Le c c'){ev:Operand->AV}{H:Hp}{fl:Bool}{op:Op}{r:AV×Hp}(j:Xi C c ev H fl op=Z r):Xi C c' ev H fl op=Z r:=by
 unfold Xi at j ⊢;split at j
 ·exact j
 ·split at j
  ·cases j
  ·rename_i u;rw[if_neg u];exact Zqb h j
theorem Zrr {c c':ZQ}(h:Le c c'){ops:Array Oper}{fl:Bool}{o:Oper}{s r:St}(j:U1 C c ops fl o s=Z r):U1 C c' ops fl o s=Z r:=by
 unfold U1 YA at j ⊢
 cases hw:WP ops s.1 o with
 |none=>simp[hw]at j
 |some b =>
  cases b with
  |false=>simp only[hw]at j ⊢;exact j
  |true =>
   simp only[hw]at j ⊢
   cases u:Xi C c (eval C s.1) s.2 fl o.op with
   |none=>simp[u]at j
   |some q=>rw[ZvN h u];rw[u]at j;exact j
theorem Zit {c c':ZQ}(h:Le c c'){ops:Array Oper}{draw:Bool}{b i:Nat}{o:Oper}{s r:St}(j:Wb C c ops draw b i o s=Z r):Wb C c' ops draw b i o s=Z r:=by
 unfold Wb at j ⊢;by_cases u:(draw&&Vs C ops i)=Y
 ·rw[if_pos u]at j ⊢;exact j
 ·rw[if_neg u]at j ⊢;exact Zrr h j
theorem HW {c c':ZQ}(h:Le c c'){ops:Array Oper}{draw:Bool}{b:Nat}:∀ (l:List Oper) (i:Nat) (s r:St),Yz C c ops draw b i l s=Z r->Yz C c' ops draw b i l s=Z r:=by
 intro l
 induction l with
 |nil=>intro i s r j;exact j
 |cons o l w =>
  intro i s r j;unfold Yz at j ⊢;split at j
  ·rename_i s' u;rw[Zit h u];exact w _ _ _ j
  ·cases j
theorem jN {f g:St->Option (AExit×St)}(h:∀ s r,f s=Z r->g s=Z r):∀ (n m:Nat) (s:St) (r:AExit×St),n<=m->Wa f n s=Z r->Wa g m s=Z r:=by
 intro n
 induction n with
 |zero=>intro m s r _ j;cases j
 |succ n w =>
  intro m s r y j;obtain⟨m,rfl⟩:∃ k,m=k+1:=⟨m-1,b5⟩;unfold Wa at j ⊢
  cases u:f s with
  |none=>simp[u]at j
  |some p =>
   rw[h s p u];obtain⟨e,s'⟩:=p
   cases e with
   |normal=>simp only[u]at j ⊢;exact w m s' r b5 j
   |_=>simpa[u]using j
theorem Bh {c c':ZQ}(h:Le c c'){kp:Nat->Option dv}{n m:Nat}(D:n<=m):∀ (B:Code) (s:St) (r:AExit×St),Zz C c kp n B s=Z r->Zz C c' kp m B s=Z r:=by
 intro B
 induction B with
 |region id ops draw =>
  intro s r j;simp only[Zz]at j ⊢;split at j
  ·cases j
  ·rename_i E;rw[if_neg E];split at j
   ·rename_i s' G;rw[HW h _ _ _ _ G];exact j
   ·cases j
 |seq x y w z =>
  intro s r j;simp only[Zz]at j ⊢
  cases u:Zz C c kp n x s with
  |none=>simp[u]at j
  |some p =>
   rw[w s p u];obtain⟨e,s'⟩:=p
   cases e with
   |normal=>simp only[u]at j ⊢;exact z _ _ j
   |_=>simpa[u]using j
 |cond o x y w z =>
  intro s r j;simp only[Zz]at j ⊢;split at j
  ·rename_i t H
   cases t with
   |true=>exact w _ _ (by simpa using j)
   |false=>exact z _ _ (by simpa using j)
  ·cases j
 |block id x A =>
  intro s r j;simp only[Zz]at j ⊢
  cases u:Zz C c kp n x s with
  |none=>simp[u]at j
  |some p=>rw[A s p u];rw[u]at j;exact j
 |loop x A =>
  intro s r j;simp only[Zz]at j ⊢;exact jN (λs r=>A (trim kp x s) r) n m s r D j
 |scope x A =>
  intro s r j;simp only[Zz]at j ⊢;split at j
  ·rename_i F;rw[if_pos F];exact A s r j
  ·cases j
 |_=>intro s r j;exact j
theorem ZsO {c c':ZQ}(h:Le c c'){n m:Nat}(w:n<=m){f:FuncId}{fn:Func}{u:Code}{args:du}{H:Hp}{r:AV×Hp}(j:body C c n f fn u args H=Z r):body C c' m f fn u args H=Z r:=by
 unfold body at j ⊢
 cases y:Zz C c (C.keep f) n u (args++zE (fn.ntmps-J args) .undef,H) with
 |none=>simp[y]at j
 |some p=>rw[Bh h w _ _ _ y];rw[y]at j;exact j
theorem Qh:∀ (n m:Nat),n<=m->Le (call C n) (call C m):=by
 intro n
 induction n with
 |zero=>intro m _ f a H r h;cases h
 |succ n j =>
  intro m z f a H r h;obtain⟨m,rfl⟩:∃ k,m=k+1:=⟨m-1,b5⟩;simp only[call]at h ⊢;split at h
  ·cases h
  ·rename_i fn y;split at h
   ·cases h
   ·rename_i u w;exact ZsO (j m b5) b5 h
open Classical in
noncomputable def lim {α:Type}(f:Nat->Option α):Option α:=if h:∃ n r,f n=Z r then Z h.choose_spec.choose else Q
theorem Zni {α:Type}{f:Nat->Option α}(w:∀ n m r,n<=m->f n=Z r->f m=Z r){r:α}:lim f=Z r↔∃ n,f n=Z r:=by
 unfold lim;constructor
 ·intro h;split at h
  ·rename_i j;injection h with h;exact⟨j.choose,h ▸ j.choose_spec.choose_spec⟩
  ·cases h
 ·rintro⟨n,hn⟩
  have j:∃ n r,f n=Z r:=⟨n,r,hn⟩;rw[dif_pos j];have y:=w _ (max j.choose n) _ (zG _ _) j.choose_spec.choose_spec;have u:=w _ (max j.choose n) _ (zF _ _) hn;rw[y]at u;exact u
noncomputable def Za (C:Cfg):ZQ:=λf a H=>lim λn=>call C n f a H
theorem Qi {f:FuncId}{a:du}{H:Hp}{r:AV×Hp}:Za C f a H=Z r↔∃ n,call C n f a H=Z r:=Zni λn m r h j=>Qh n m h f a H r j
noncomputable def YD (C:Cfg)(kp:Nat->Option dv)(c:Code)(s:St):Option (AExit×St):=lim λn=>Zz C (call C n) kp n c s
theorem Yd {kp:Nat->Option dv}{c:Code}{s:St}{r:AExit×St}:YD C kp c s=Z r↔∃ n,Zz C (call C n) kp n c s=Z r :=
 Zni λn m r h j=>Bh (Qh n m h) h c s r j
theorem Zlt (n:Nat):Le (call C n) (Za C):=λ_ _ _ _ h=>Qi.2 ⟨n,h⟩
theorem Zyg {id:FuncId}{args:du}{H:Hp}{r:AV×Hp}(h:XR C (Za C) id args H=Z r):∃ n,XR C (call C n) id args H=Z r:=by
 unfold XR at h
 cases z:C.ext id with
 |some e=>exact⟨0,by unfold XR;simpa[z]using h⟩
 |none =>
  cases u:C.sum id with
  |some g=>exact⟨0,by unfold XR;simpa[z,u]using h⟩
  |none =>
  cases w:C.eff id with
  |some g=>exact⟨0,by unfold XR;simpa[z,u,w]using h⟩
  |none =>
  simp only[z,u,w]at h;by_cases A:C.user id=Y
  ·by_cases j:C.flat id=Y
   ·simp only[A,j,if_true]at h;obtain⟨args',q,D,E⟩:=Zi2 h;obtain⟨n,B⟩:=Qi.1 D;exact⟨n,by unfold XR;simp only[z,u,w,A,j,if_true];exact E _ B⟩
   ·by_cases y:C.ro id=Y
    ·simp only[A,j,y,zB,if_false,if_true]at h;obtain⟨q,D,E⟩:=ZnO h;obtain⟨n,B⟩:=Qi.1 D;exact⟨n,by unfold XR;simp only[z,u,w,A,j,y,zB,if_false,if_true];exact E _ B⟩
    ·simp only[A,j,y,zB,if_false,if_true]at h;obtain⟨n,B⟩:=Qi.1 h;exact⟨n,by unfold XR;simp only[z,u,w,A,j,y,zB,if_false,if_true];exact B⟩
  ·simp[A]at h
theorem Zmn {f:AV}{args:du}{H:Hp}{r:AV×Hp}(h:YJ C (Za C) f args H=Z r):∃ n,YJ C (call C n) f args H=Z r:=by
 unfold YJ at h;split at h
 ·exact Zyg h
 ·cases h
theorem Zyh {f:AV}{args:du}{H:Hp}{r:AV×Hp}(h:XS C (Za C) f args H=Z r):∃ n,XS C (call C n) f args H=Z r:=by
 unfold XS qC at h ⊢;split at h
 ·split at h
  ·rename_i u;obtain⟨n,j⟩:=Zmn h;exact⟨n,by rw[if_pos u];exact j⟩
  ·cases h
 ·cases h
theorem Zzy {ev:Operand->AV}{H:Hp}{op:Op}{r:AV×Hp}(h:ZP C (Za C) ev H op=Z r):∃ n,ZP C (call C n) ev H op=Z r:=by
 cases op <;> try exact⟨0,h⟩
 case makeMap t r=>cases r <;> exact⟨0,h⟩
 case call cl =>
  obtain⟨callee,args,u⟩:=cl
  cases callee with
  |value f =>
   simp only[ZP]at h ⊢;split at h
   ·rename_i j;simp only[if_pos j];exact Zyh h
   ·rename_i j;simp only[if_neg j];exact Zmn h
  |invoke r m =>
   simp only[ZP]at h ⊢;unfold Zmo at h ⊢;split at h
   ·split at h
    ·exact Zmn h
    ·cases h
   ·cases h
  |builtin b=>cases b <;> exact⟨0,h⟩
theorem ZB2 {ev:Operand->AV}{H:Hp}{fl:Bool}{op:Op}{r:AV×Hp}(h:Xi C (Za C) ev H fl op=Z r):∃ n,Xi C (call C n) ev H fl op=Z r:=by
 unfold Xi at h ⊢;split at h
 ·exact⟨0,h⟩
 ·split at h
  ·cases h
  ·rename_i j;obtain⟨n,u⟩:=Zzy h;exact⟨n,by rw[if_neg j];exact u⟩
theorem ZA6 {ops:Array Oper}{fl:Bool}{o:Oper}{s r:St}(h:U1 C (Za C) ops fl o s=Z r):∃ n,U1 C (call C n) ops fl o s=Z r:=by
 unfold U1 YA at h ⊢
 cases hw:WP ops s.1 o with
 |none=>simp[hw]at h
 |some b =>
  cases b with
  |false=>simp only[hw]at h ⊢;exact⟨0,h⟩
  |true =>
   simp only[hw]at h ⊢
   cases j:Xi C (Za C) (eval C s.1) s.2 fl o.op with
   |none=>simp[j]at h
   |some q =>
    obtain⟨n,u⟩:=ZB2 j;exact⟨n,by rw[u];rw[j]at h;exact h⟩
theorem ZA8 {ops:Array Oper}{draw:Bool}{b i:Nat}{o:Oper}{s r:St}(h:Wb C (Za C) ops draw b i o s=Z r):∃ n,Wb C (call C n) ops draw b i o s=Z r:=by
 unfold Wb at h ⊢;by_cases j:(draw&&Vs C ops i)=Y
 ·rw[if_pos j]at h;simp only[if_pos j];exact⟨0,h⟩
 ·rw[if_neg j]at h;simp only[if_neg j];exact ZA6 h
theorem Zws {ops:Array Oper}{draw:Bool}{b:Nat}:∀ (l:List Oper) (i:Nat) (s r:St),Yz C (Za C) ops draw b i l s=Z r->∃ n,Yz C (call C n) ops draw b i l s=Z r:=by
 intro l
 induction l with
 |nil=>intro i s r h;exact⟨0,h⟩
 |cons o l y =>
  intro i s r h;unfold Yz at h;split at h
  ·rename_i s' w;obtain⟨n,u⟩:=ZA8 w;obtain⟨m,j⟩:=y _ _ _ h;refine⟨max n m,?_⟩;unfold Yz;rw[Zit (Qh n _ (zG n m)) u];exact HW (Qh m _ (zF n m)) _ _ _ _ j
  ·cases h
section
variable {kp:Nat->Option dv}
theorem ZmW (id:Nat)(ops:Array Oper)(draw:Bool)(s:St):YD C kp (.region id ops draw) s =
 if draw&&!(Vb ops&&F9 C ops (eval C (frzs kp id s).1)) then Q else match Yz C (Za C) ops draw (frzs kp id s).2.length 0 ops.toList ((frzs kp id s).1,Qw (if draw then Vt C ops ops.size else 0) (frzs kp id s).2) with
  |some s'=>Z (.normal,s')
  |none=>Q:=by
 apply zI;intro r;rw[Yd];constructor
 ·rintro⟨n,j⟩
  simp only[Zz]at j;split at j
  ·cases j
  ·rename_i u;rw[if_neg u];split at j
   ·rename_i s' w;rw[HW (Zlt n) _ _ _ _ w];exact j
   ·cases j
 ·intro h;split at h
  ·cases h
  ·rename_i u;split at h
   ·rename_i s' w;obtain⟨n,j⟩:=Zws _ _ _ _ w;exact⟨n,by simp only[Zz];rw[if_neg u,j];exact h⟩
   ·cases h
theorem Ztm (a b:Code)(s:St):YD C kp (.seq a b) s=match YD C kp a s with
 |some (.normal,s')=>YD C kp b (trim kp b s')
 |r=>r:=by
 apply zI;intro r;rw[Yd];constructor
 ·rintro⟨n,u⟩
  simp only[Zz]at u
  cases j:Zz C (call C n) kp n a s with
  |none=>simp[j]at u
  |some p =>
   rw[Yd.2 ⟨n,j⟩];obtain⟨e,s'⟩:=p
   cases e with
   |normal=>simp only[j]at u ⊢;exact Yd.2 ⟨n,u⟩
   |_=>simpa[j]using u
 ·intro h
  cases j:YD C kp a s with
  |none=>simp[j]at h
  |some p =>
   obtain⟨n,u⟩:=Yd.1 j;obtain⟨e,s'⟩:=p
   cases e with
   |normal =>
    simp only[j]at h;obtain⟨m,w⟩:=Yd.1 h;refine⟨max n m,?_⟩;simp only[Zz];rw[Bh (Qh n _ (zG n m)) (zG n m) _ _ _ u];exact Bh (Qh m _ (zF n m)) (zF n m) _ _ _ w
   |_=>exact⟨n,by simp only[Zz];rw[u];simpa[j]using h⟩
theorem ZqM (o:Operand)(x y:Code)(s:St):YD C kp (.cond o x y) s=match eval C s.1 o with
 |.bool t=>if t then YD C kp x s else YD C kp y s
 |_=>Q:=by
 apply zI;intro r;rw[Yd];simp only[Zz];generalize eval C s.1 o=v
 cases v with
 |bool t=>cases t <;> simp[Yd]
 |_=>simp
theorem ZoK (id:Nat)(c:Code)(s:St):YD C kp (.block id c) s=match YD C kp c s with
 |some (.exit i,s')=>if i=id then Z (.normal,s') else Z (.exit i,s')
 |r=>r:=by
 apply zI;intro r;rw[Yd];constructor
 ·rintro⟨n,u⟩
  simp only[Zz]at u
  cases j:Zz C (call C n) kp n c s with
  |none=>simp[j]at u
  |some p=>rw[Yd.2 ⟨n,j⟩];rw[j]at u;exact u
 ·intro h
  cases j:YD C kp c s with
  |none=>simp[j]at h
  |some p =>
   obtain⟨n,u⟩:=Yd.1 j;exact⟨n,by simp only[Zz];rw[u];rw[j]at h;exact h⟩
theorem ZoM (c:Code)(s:St):YD C kp (.scope c) s=if XW c then YD C kp c s else Q:=by
 apply zI;intro r;rw[Yd];simp only[Zz];by_cases h:XW c=Y
 ·simp only[h,if_true];rw[Yd]
 ·simp[h]
theorem Pi (c:Code)(s:St):YD C kp (.loop c) s=match YD C kp c (trim kp c s) with
 |some (.normal,s')=>YD C kp (.loop c) s'
 |r=>r:=by
 apply zI;intro r;rw[Yd];constructor
 ·rintro⟨n,j⟩
  simp only[Zz]at j
  cases n with
  |zero=>cases j
  |succ n =>
   unfold Wa at j
   cases u:Zz C (call C (n+1)) kp (n+1) c (trim kp c s) with
   |none=>simp[u]at j
   |some p =>
    rw[Yd.2 ⟨n+1,u⟩];obtain⟨e,s'⟩:=p
    cases e with
    |normal =>
     simp only[u]at j ⊢;refine Yd.2 ⟨n+1,?_⟩;simp only[Zz];exact jN (λs r h=>h) n (n+1) s' r (Nat.le_succ _) j
    |_=>simpa[u]using j
 ·intro h
  cases u:YD C kp c (trim kp c s) with
  |none=>simp[u]at h
  |some p =>
   obtain⟨n,j⟩:=Yd.1 u;obtain⟨e,s'⟩:=p
   cases e with
   |normal =>
    simp only[u]at h;obtain⟨m,y⟩:=Yd.1 h;simp only[Zz]at y;have z:=zG n m;have w:=zF n m;refine⟨max n m+1,?_⟩;simp only[Zz];unfold Wa;rw[Bh (Qh n (max n m+1) b5) (m:=max n m+1) b5 _ _ _ j];exact jN (λs r h=>Bh (Qh m (max n m+1) b5) b5 _ _ _ h) m (max n m) s' r w y
   |_ =>
    simp only[u]at h;refine⟨n+1,?_⟩;simp only[Zz];unfold Wa;rw[Bh (Qh n (n+1) b5) (m:=n+1) b5 _ _ _ j];exact h
theorem ZqP (s:St):YD C kp .skip s=Z (.normal,s):=Yd.2 ⟨0,rfl⟩
theorem ZoL (l:Nat)(s:St):YD C kp (.label l) s=Z (.normal,s):=Yd.2 ⟨0,rfl⟩
theorem ZqN (i:Nat)(s:St):YD C kp (.exit i) s=Z (.exit i,s):=Yd.2 ⟨0,rfl⟩
theorem ZqO (i:Nat)(s:St):YD C kp (.goto i) s=Z (.goto i,s):=Yd.2 ⟨0,rfl⟩
theorem Ztl (s:St):YD C kp .ret s=Z (.ret,s):=Yd.2 ⟨0,rfl⟩
theorem ZhX {c:Code}{s:St}(h:∀ n,Zz C (call C n) kp n c s=Q):YD C kp c s=Q:=by
 cases u:YD C kp c s with
 |none=>rfl
 |some r=>obtain⟨n,j⟩:=Yd.1 u;rw[h n]at j;cases j
end
theorem Zw1 {f:FuncId}{fn:Func}{c:Code}(y:C.P.funcs[f]?=Z fn)(w:L8 C f fn=Z c)(args:du)(H:Hp):Za C f args H =
 match YD C (C.keep f) c (args++zE (fn.ntmps-J args) .undef,H) with
 |some (.normal,s)|some (.ret,s)=>match VQ C fn s with
  |some v=>FZ C f H (v,s.2)
  |none=>Q
 |_=>Q:=by
 apply zI;intro r;rw[Qi];constructor
 ·rintro⟨n,j⟩
  cases n with
  |zero=>cases j
  |succ n =>
   simp only[call,y,w]at j;unfold body at j
   cases u:Zz C (call C n) (C.keep f) n c (args++zE (fn.ntmps-J args) .undef,H) with
   |none=>simp[u]at j
   |some p=>rw[Yd.2 ⟨n,u⟩];rw[u]at j;exact j
 ·intro h
  cases u:YD C (C.keep f) c (args++zE (fn.ntmps-J args) .undef,H) with
  |none=>simp[u]at h
  |some p =>
   obtain⟨n,j⟩:=Yd.1 u;refine⟨n+1,?_⟩;simp only[call,y,w];unfold body;rw[j];rw[u]at h;exact h
theorem aK {W0:World}(j:VG C):W3 C W0 (Za C):=by
 intro W1 f args H H' v h S args' w u A y;obtain⟨n,z⟩:=Qi.1 h;exact Zqw (W0:=W1) j n f args H H' v z S args' w u A y
end
end Go.Am
namespace Go.Am
open RowKit
abbrev Z3:=Option (AV×Hp)
abbrev Kt:=AExit->St->Z3
def Z0 {α β:Type}(x:Option α)(f:α->Option β):Option β :=
 match x with
 |some a=>f a
 |none=>Q
def Zh (c:AV)(x y:Z3):Z3 :=
 match c with
 |.bool t=>if t then x else y
 |_=>Q
def Z8 {α:Type}(g:AV)(h:Bool)(els:α)(x:Option α):Option α :=
 match g with
 |.bool b=>if b==h then x else Z els
 |.undef=>Q
 |_=>Z els
def iR {α:Type}(ops:Array Oper)(tm:du)(o:Oper)(els:α)(x:Option α):Option α :=
 match o.guard with
 |none=>x
 |some (j,want)=>match (match ops[j]? with|some g=>g.dst|none=>Q) with
  |none=>Z els
  |some d=>match tm[d]? with
   |some g=>Z8 g want els x
   |none=>Z els
def SL (C:Cfg)(s d:TypeId):Nat :=
 match C.P.underlying s,C.P.underlying d with
 |some (.slice _),Z .string=>1
 |some .string,Z (.slice _)=>if C.wrb d then 2 else 0
 |_,_=>0
def ZbX (C:Cfg)(h:List TypeId):Nat :=
 match h with
 |[t]=>match DI C.P t with
  |some _=>1
  |none=>0
 |_=>0
def XU (C:Cfg):Op->Nat
 |.call { callee:=.builtin .len,argTypes,.. }=>ZbX C argTypes.toList
 |.call { callee:=.builtin .delete,.. }=>2
 |.convert s d _=>SL C s d
 |.load _ _=>1
 |.lookup _ _ _ _=>1
 |.alloc _|.box _ _|.store _ _ _|.makeSlice _ _ _=>2
 |.makeMap _ _|.mapUpdate _ _ _ _|.insert _ _ _ _=>2
 |.call { callee:=.value _,.. }=>2
 |.call { callee:=.invoke _ _,.. }=>2
 |.call { callee:=.builtin .append,.. }=>2
 |.call { callee:=.builtin .copy,.. }=>2
 |_=>0
def XM (x:AV)(H:Hp):Option AV :=
 match Ql x with
 |some v=>Z v
 |none=>match Qm x H with
  |some l=>match V8 l with
   |some s=>Z (.str s)
   |none=>Q
  |none=>Q
def Mr (C:Cfg)(ev:Operand->AV)(H:Hp):Op->Option AV
 |.load t a=>match XD C.P t,Xt C.P t with
  |some g,Z sz=>Z4 g sz (ev a) H
  |_,_=>Q
 |.lookup t x k ck=>match DI C.P t with
  |some (d,e)=>match KK C.P e with
   |some z=>Yj d z ck (ev x) (ev k) H
   |none=>Q
  |none=>Q
 |.convert s d x=>match C.P.underlying s,C.P.underlying d with
  |some (.slice e),Z .string=>if ZbT (C.P.underlying e) then XM (ev x) H else Q
  |_,_=>Q
 |.call { callee:=.builtin .len,args,argTypes }=>match args.toList,argTypes.toList with
  |[x],[t]=>match DI C.P t with
   |some _=>K7 (ev x) H
   |none=>Q
  |_,_=>Q
 |_=>Q
def ZjL (C:Cfg)(CL:ZQ)(ops:Array Oper)(fl:Bool)(o:Oper)(k:St->Z3)(tm:du)(H:Hp):Z3 :=
 match (if fl then 0 else XU C o.op) with
 |0=>Z0 (iR ops tm o (.tuple []) (Yc C (eval C tm) o.op)) λv=>k (Xk tm o.dst v,H)
 |1=>Z0 (iR ops tm o (.tuple []) (Mr C (eval C tm) H o.op)) λv=>k (Xk tm o.dst v,H)
 |_=>Z0 (iR ops tm o (.tuple [],H) (ZP C CL (eval C tm) H o.op)) λr=>k (Xk tm o.dst r.1,r.2)
def Pb (C:Cfg)(CL:ZQ)(ops:Array Oper)(draw:Bool)(b:Nat):Nat->List Oper->(St->Z3)->St->Z3
 |_,[],k,s=>k s
 |i,o::rest,k,s=>if draw&&Vs C ops i then (if XA C ops i then Q else Z0 (LS (b+Vt C ops i) (LW C (eval C s.1) o.op) s.2) λr=>Pb C CL ops draw b (i+1) rest k (Xk s.1 o.dst r.1,r.2))
  else ZjL C CL ops (draw&&XA C ops i) o (Pb C CL ops draw b (i+1) rest k) s.1 s.2
abbrev kD (g:St->Z3)(k:Kt):Kt:=λe s =>
 match e with
 |.normal=>g s
 |e=>k e s
abbrev Zbn (id:Nat)(k:Kt):Kt:=λe s =>
 match e with
 |.exit i=>if i=id then k .normal s else k (.exit i) s
 |e=>k e s
def CX (C:Cfg)(CL:ZQ)(h:Code->Kt->St->Z3)(kp:Nat->Option dv):Code->Kt->St->Z3
 |.skip,k,s=>k .normal s
 |.region id ops draw,k,s=>if draw&&!(Vb ops&&F9 C ops (eval C (frzs kp id s).1)) then Q else Pb C CL ops draw (frzs kp id s).2.length 0 ops.toList (λs'=>k .normal s') ((frzs kp id s).1,Qw (if draw then Vt C ops ops.size else 0) (frzs kp id s).2)
 |.seq a b,k,s=>CX C CL h kp a (kD (λs'=>CX C CL h kp b k (trim kp b s')) k) s
 |.cond c x y,k,s=>Zh (eval C s.1 c) (CX C CL h kp x k s) (CX C CL h kp y k s)
 |.block id c,k,s=>CX C CL h kp c (Zbn id k) s
 |.loop c,k,s=>h c k (trim kp c s)
 |.scope c,k,s=>if XW c then CX C CL h kp c k s else Q
 |.exit id,k,s=>k (.exit id) s
 |.label _,k,s=>k .normal s
 |.goto l,k,s=>k (.goto l) s
 |.ret,k,s=>k .ret s
 |_,_,_=>Q
noncomputable def IB (C:Cfg)(kp:Nat->Option dv)(c:Code)(k:Kt)(s:St):Z3:=Z0 (YD C kp (.loop c) s) λp=>k p.1 p.2
def sub:Code->dv->Code
 |.seq a _,0::p=>sub a p
 |.seq _ b,1::p=>sub b p
 |.cond _ x _,0::p=>sub x p
 |.cond _ _ y,1::p=>sub y p
 |.block _ c,0::p=>sub c p
 |.loop c,0::p=>sub c p
 |.scope c,0::p=>sub c p
 |c,_=>c
def Z1 (fn:Func):Code :=
 match fn.body with
 |some c=>c
 |none=>.skip
theorem BQ {α β:Type}[BEq α][LawfulBEq α]{l:List (α×β)}{a:α}{b:β}(h:l.lookup a=Z b):(a,b)∈l:=by
 induction l with
 |nil=>simp at h
 |cons x l u =>
  obtain⟨c,d⟩:=x;simp only[List.lookup_cons]at h;split at h
  ·rename_i j;injection h with h;subst h;rw[eq_of_beq j];simp
  ·exact List.mem_cons_of_mem _ (u h)
def HI (P:Program)(f:Nat):Prop:=∀ (args:Array Value) (w:World),(callFunc f args).run P w=.ok (.enter f args) w
theorem kY {P:Program}:∀ f∈([]:dv),HI P f:=λ_ h=>by cases h
theorem Z5 {P:Program}{f:Nat}{l:dv}(h:HI P f)(t:∀ g∈l,HI P g):∀ g∈f::l,HI P g:=λg j=>by
 rcases List.mem_cons.1 j with rfl|j
 ·exact h
 ·exact t g j
def ZjV (l:List (Nat×List (Nat×dv)))(f r:Nat):Option dv :=
 match l.lookup f with
 |some m=>m.lookup r
 |none=>Q
section
variable {C:Cfg}{kp:Nat->Option dv}
theorem ZlC (keep:dv):∀ (l:du) (i:Nat),XZ keep i (XZ keep i l)=XZ keep i l:=by
 intro l
 induction l with
 |nil=>intro i;rfl
 |cons a l h =>
  intro i;simp only[XZ,h];split <;> simp_all
theorem Zl7 (c:Code)(s:St):trim kp c (trim kp c s)=trim kp c s:=by
 unfold trim
 cases YQ c with
 |none=>rfl
 |some r =>
  simp only
  cases kp r with
  |none=>rfl
  |some keep=>simp[ZlC]
theorem Zvr (c:Code)(k:Kt)(s:St):IB C kp c k (trim kp c s)=IB C kp c k s:=by
 unfold IB;rw[Pi,Pi (s:=s),Zl7]
theorem Znl {x:Option AV}{H:Hp}:x.map (λv=>(v,H))=Z0 x λv=>Z (v,H):=by cases x <;> rfl
theorem Zqk {CL:ZQ}{ev:Operand->AV}{H:Hp}{t:TypeId}{x q:Operand}{h:Bool}:Xi C CL ev H X (.lookup t x q h)=(Z0 (Mr C ev H (.lookup t x q h)) λv=>Z (v,H)):=by
 simp only[Xi,Yc,ZP,Mr,zB,if_false]
 cases DI C.P t with
 |none=>rfl
 |some p =>
  obtain⟨d,e⟩:=p;simp only
  cases KK C.P e with
  |none=>rfl
  |some z=>simp only;cases Yj d z h (ev x) (ev q) H <;> rfl
theorem ZvM {CL:ZQ}{ev:Operand->AV}{H:Hp}{t:TypeId}{a:Operand}:Xi C CL ev H X (.load t a)=Z0 (Mr C ev H (.load t a)) λv=>Z (v,H):=by
 unfold Xi;simp only[Yc,Mr,ZP]
 cases XD C.P t with
 |none=>rfl
 |some g =>
  cases Xt C.P t with
  |none=>rfl
  |some sz =>
   simp only[zB,if_false];rw[Znl]
   cases ev a <;> first
    |rfl
    |(simp only[Xy,Z4];generalize apart g sz _ 0=x;cases x <;> rfl)
theorem ZvK {CL:ZQ}{ev:Operand->AV}{H:Hp}{s d:TypeId}{x:Operand}(h:SL C s d=1):Xi C CL ev H X (.convert s d x)=Z0 (Mr C ev H (.convert s d x)) λv=>Z (v,H):=by
 unfold SL at h;split at h
 ·rename_i e u j;unfold Xi;simp only[Yc,Mr,ZP,Zhs,u,j,zB,if_false]
  cases ZbT (C.P.underlying e) with
  |false=>rfl
  |true =>
   simp only[if_true];unfold XM Bg
   cases Ql (ev x) with
   |some v=>rfl
   |none =>
    simp only
    cases Qm (ev x) H with
    |none=>rfl
    |some l=>simp only;cases V8 l <;> rfl
 ·split at h <;> cases h
 ·cases h
theorem ZvD {t:TypeId}{p:TypeDesc×TypeId}{x:AV}(h:DI C.P t=Z p):Zmp C.P t x=Q:=by
 obtain⟨d,e⟩:=p;obtain⟨k,j,_⟩:=eH h;unfold Zmp;rw[j];rfl
theorem Zym {CL:ZQ}{ev:Operand->AV}{H:Hp}{args:Array Operand}{j:Array TypeId}(h:ZbX C j.toList=1):Xi C CL ev H X (.call { callee:=.builtin .len,args:=args,argTypes:=j })=Z0 (Mr C ev H (.call { callee:=.builtin .len,args:=args,argTypes:=j })) λv=>Z (v,H):=by
 unfold Xi;simp only[Yc,Mr,ZP,zB,if_false];unfold ZbX at h;split at h
 ·rename_i t w;split at h
  ·rename_i p u;rw[w]
   cases args.toList with
   |nil=>rfl
   |cons x l =>
    cases l with
    |nil =>
     simp only[ZvD u,u];exact Znl
    |cons y l=>rfl
  ·cases h
 ·cases h
theorem Zsz {CL:ZQ}{ev:Operand->AV}{H:Hp}{args:Array Operand}{j:Array TypeId}(h:ZbX C j.toList=0):ZP C CL ev H (.call { callee:=.builtin .len,args:=args,argTypes:=j })=Q:=by
 simp only[ZP];unfold ZbX at h;split
 ·rename_i x t y w;rw[w]at h;simp only at h;split at h
  ·cases h
  ·rename_i u;rw[u]
 ·rfl
theorem ZpB (h:List TypeId):ZbX C h=0\/ZbX C h=1:=by
 unfold ZbX;split
 ·split
  ·exact .inr rfl
  ·exact .inl rfl
 ·exact .inl rfl
theorem Zqc {CL:ZQ}{ev:Operand->AV}{H:Hp}{op:Op}(h:XU C op=0):ZP C CL ev H op=Q:=by
 cases op with
 |call c =>
  obtain⟨callee,args,z⟩:=c
  cases callee with
  |value f=>simp[XU]at h
  |invoke r m=>simp[XU]at h
  |builtin b=>cases b <;> first|rfl|(exact Zsz h)|(simp[XU]at h;done)
 |convert s d x =>
  simp only[XU,SL]at h;simp only[ZP];split at h
  ·cases h
  ·rename_i e u j;split at h
   ·cases h
   ·rename_i hw;simp only[u,j,Bool.eq_false_iff.2 hw,zN];rfl
  ·rename_i w y;split
   ·rename_i e u j;exact absurd j (w _ u)
   ·rename_i e u j;exact absurd j (y _ u)
   ·rfl
 |_=>first|rfl|(simp[XU]at h;done)
theorem ZsG {ev:Operand->AV}{op:Op}(h:XU C op=2):Yc C ev op=Q:=by
 cases op with
 |call c =>
  obtain⟨callee,args,w⟩:=c
  cases callee with
  |value f=>rfl
  |invoke r m=>rfl
  |builtin b =>
   cases b <;> first
    |rfl
    |(simp[XU]at h;done)
    |(simp only[XU]at h;rcases ZpB (C:=C) w.toList with e|e <;> (rw[e]at h;cases h))
 |convert s d x =>
  simp only[XU,SL]at h;split at h
  ·cases h
  ·rename_i e u j;split at h
   ·rename_i hw;simp only[Yc,Zhs,u,j,hw,if_true];split <;> rfl
   ·cases h
  ·cases h
 |_=>first|rfl|(simp[XU]at h;done)
theorem Zw9 (s d:TypeId):SL C s d=0\/SL C s d=1\/SL C s d=2:=by
 unfold SL;split
 ·simp
 ·split <;> simp
 ·simp
theorem ZtO (op:Op):XU C op=0\/XU C op=1\/XU C op=2:=by
 unfold XU;split <;> first|exact Zw9 _ _|(rcases ZpB (C:=C) _ with h|h <;> rw[h] <;> simp)|simp
theorem ZvL {CL:ZQ}{ev:Operand->AV}{H:Hp}{op:Op}:Xi C CL ev H Y op=Z0 (Yc C ev op) λv=>Z (v,H):=by
 unfold Xi;cases Yc C ev op <;> rfl
theorem ZjS {α:Type}{ops:Array Oper}{tm:du}{o:Oper}{els:α}{x:Option α}:iR ops tm o els x=match WP ops tm o with
 |none=>Q
 |some X=>Z els
 |some Y=>x:=by
 unfold iR WP
 cases o.guard with
 |none=>rfl
 |some p =>
  obtain⟨j,h⟩:=p;simp only
  cases ops[j]? with
  |none=>rfl
  |some g =>
   simp only
   cases g.dst with
   |none=>rfl
   |some d =>
    simp only
    cases tm[d]? with
    |none=>rfl
    |some g =>
     cases g with
     |bool b=>simp only[Z8];cases (b==h) <;> rfl
     |_=>rfl
theorem Zx9 {CL:ZQ}{ops:Array Oper}{fl:Bool}{o:Oper}{k:St->Z3}{s:St}:Z0 (U1 C CL ops fl o s) k=ZjL C CL ops fl o k s.1 s.2:=by
 obtain⟨tm,H⟩:=s
 have w:∀ (r:Z3),Xi C CL (eval C tm) H fl o.op=r ->
  Z0 (U1 C CL ops fl o (tm,H)) k=Z0 (iR ops tm o (.tuple [],H) r) λr=>k (Xk tm o.dst r.1,r.2):=by
  intro r u;unfold U1 YA;rw[ZjS]
  cases WP ops tm o with
  |none=>rfl
  |some b =>
   cases b with
   |false=>rfl
   |true=>simp only[u];cases r <;> rfl
 have val:∀ (r:Option AV),Xi C CL (eval C tm) H fl o.op=(Z0 r λv=>Z (v,H)) ->
  Z0 (U1 C CL ops fl o (tm,H)) k=Z0 (iR ops tm o (.tuple []) r) λv=>k (Xk tm o.dst v,H):=by
  intro r u;rw[w _ u,ZjS,ZjS]
  cases WP ops tm o with
  |none=>rfl
  |some b =>
   cases b with
   |false=>rfl
   |true=>cases r <;> rfl
 unfold ZjL
 cases fl with
 |true =>
  simp only[if_true];exact val _ ZvL
 |false =>
  simp only[zB,if_false];rcases ZtO (C:=C) o.op with h|h|h
  ·rw[h];refine val _ ?_;unfold Xi;have y:=Zqc (C:=C) (CL:=CL) (ev:=eval C tm) (H:=H) h
   cases Yc C (eval C tm) o.op with
   |none=>simp only[zB,if_false];rw[y];rfl
   |some v=>rfl
  ·rw[h]
   cases j:o.op with
   |load t a=>exact val _ (by rw[j];exact ZvM)
   |lookup t x q z=>exact val _ (by rw[j];exact Zqk)
   |convert s d x=>exact val _ (by rw[j];rw[j]at h;exact ZvK h)
   |call c =>
    rw[j]at h;obtain⟨callee,args,A⟩:=c
    cases callee with
    |value f=>simp[XU]at h
    |invoke r m=>simp[XU]at h
    |builtin b=>cases b <;> first|(simp[XU]at h;done)|(exact val _ (by rw[j];exact Zym h))
   |_=>rw[j]at h;simp[XU]at h
  ·rw[h];refine w _ ?_;unfold Xi;rw[ZsG h];rfl
theorem ZqK {CL:ZQ}{ops:Array Oper}{draw:Bool}{b:Nat}{k:St->Z3}:∀ (l:List Oper) (i:Nat) (s:St),Z0 (Yz C CL ops draw b i l s) k=Pb C CL ops draw b i l k s:=by
 intro l
 induction l with
 |nil=>intro i s;rfl
 |cons o l u =>
  intro i s;unfold Yz Pb Wb;by_cases j:(draw&&Vs C ops i)=Y
  ·rw[if_pos j,if_pos j];by_cases h:XA C ops i=Y
   ·rw[if_pos h,if_pos h];rfl
   ·rw[if_neg h,if_neg h]
    cases LS (b+Vt C ops i) (LW C (eval C s.1) o.op) s.2 with
    |none=>rfl
    |some p=>exact u (i+1) _
  ·rw[if_neg j,if_neg j,<-Zx9]
   cases U1 C CL ops (draw&&XA C ops i) o s with
   |none=>rfl
   |some s'=>exact u (i+1) s'
theorem Zy4:∀ (c:Code) (k:Kt) (s:St),CX C (Za C) (IB C kp) kp c k s=Z0 (YD C kp c s) λp=>k p.1 p.2:=by
 intro c
 induction c with
 |skip=>intro k s;rw[ZqP];rfl
 |region id ops draw =>
  intro k s;rw[ZmW];simp only[CX];split
  ·rfl
  ·rw[<-ZqK];cases Yz C (Za C) ops draw (frzs kp id s).2.length 0 ops.toList ((frzs kp id s).1,Qw (if draw then Vt C ops ops.size else 0) (frzs kp id s).2) <;> rfl
 |seq a b j u =>
  intro k s;rw[Ztm];simp only[CX];rw[j]
  cases YD C kp a s with
  |none=>rfl
  |some p =>
   obtain⟨e,s'⟩:=p
   cases e with
   |normal=>simp only[Z0,kD];rw[u];rfl
   |_=>rfl
 |cond c x y w z =>
  intro k s;rw[ZqM];simp only[CX];rw[w,z]
  cases eval C s.1 c with
  |bool t=>cases t <;> rfl
  |_=>rfl
 |block id c h =>
  intro k s;rw[ZoK];simp only[CX];rw[h]
  cases YD C kp c s with
  |none=>rfl
  |some p =>
   obtain⟨e,s'⟩:=p
   cases e with
   |exit i =>
    simp only[Z0,Zbn];split <;> rfl
   |_=>rfl
 |loop c _ =>
  intro k s;simp only[CX];rw[Zvr];rfl
 |rangeFunc f p x y _ _=>intro k s;simp only[CX];rw[ZhX (λn=>rfl)];rfl
 |exit id=>intro k s;rw[ZqN];rfl
 |scope c h =>
  intro k s;rw[ZoM];simp only[CX];split
  ·exact h k s
  ·rfl
 |label l=>intro k s;rw[ZoL];rfl
 |goto l=>intro k s;rw[ZqO];rfl
 |ret=>intro k s;rw[Ztl];rfl
 |refuse s=>intro k s;simp only[CX];rw[ZhX (λn=>rfl)];rfl
theorem Zzt (c:Code)(k:Kt)(s:St):IB C kp c k s=CX C (Za C) (IB C kp) kp c (kD (λs'=>IB C kp c k (trim kp c s')) k) (trim kp c s):=by
 rw[Zy4];unfold IB;rw[Pi]
 cases YD C kp c (trim kp c s) with
 |none=>rfl
 |some p =>
  obtain⟨e,s'⟩:=p
  cases e with
  |normal =>
   show Z0 (YD C kp (.loop c) s') _=Z0 (YD C kp (.loop c) (trim kp c s')) _;rw[Pi,Pi (s:=trim kp c s'),Zl7]
  |_=>rfl
def jY (C:Cfg):List ResultVar->St->du->(du->Z3)->Z3
 |[],_,acc,k=>k acc
 |r::rs,s,acc,k=>Z0 (WJ C s r) λv=>jY C rs s (acc++[v]) k
noncomputable def ZbV (C:Cfg)(f:FuncId)(h:Hp)(H:Hp):du->Z3
 |[v]=>FZ C f h (v,H)
 |l=>FZ C f h (.tuple l,H)
noncomputable abbrev ZAa (C:Cfg)(f:FuncId)(fn:Func)(H0:Hp):Kt:=λe s =>
 match e with
 |.normal=>jY C fn.results.toList s [] (ZbV C f H0 s.2)
 |.ret=>jY C fn.results.toList s [] (ZbV C f H0 s.2)
 |_=>Q
theorem Zz9 (s:St)(k:du->Z3):∀ (rs:List ResultVar) (h:du),jY C rs s h k=Z0 (rs.mapM (WJ C s)) λl=>k (h++l):=by
 intro rs
 induction rs with
 |nil=>intro h;simp[jY,Z0]
 |cons r rs j =>
  intro h;rw[zM];unfold jY
  cases WJ C s r with
  |none=>rfl
  |some v =>
   simp only[Z0];rw[j]
   cases rs.mapM (WJ C s) with
   |none=>rfl
   |some l=>simp[Z0]
theorem Zw0 {f:FuncId}{fn:Func}{c:Code}(j:C.P.funcs[f]?=Z fn)(h:L8 C f fn=Z c)(args:du)(H:Hp) :
 Za C f args H=CX C (Za C) (IB C (C.keep f)) (C.keep f) c (ZAa C f fn H) (args++zE (fn.ntmps-J args) .undef,H):=by
 rw[Zw1 j h,Zy4]
 have key:∀ s:St,(match VQ C fn s with|some v=>FZ C f H (v,s.2)|none=>Q)=jY C fn.results.toList s [] (ZbV C f H s.2):=by
  intro s;rw[Zz9];unfold VQ
  cases fn.results.toList.mapM (WJ C s) with
  |none=>rfl
  |some l =>
   match l with
   |[]=>rfl
   |[v]=>rfl
   |a::b::l=>rfl
 cases YD C (C.keep f) c (args++zE (fn.ntmps-J args) .undef,H) with
 |none=>rfl
 |some p =>
  obtain⟨e,s⟩:=p
  cases e with
  |normal=>exact key s
  |ret=>exact key s
  |_=>rfl
end
end Go.Am
