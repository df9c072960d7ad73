/-
  THE ABSTRACT MACHINE, part O: calls are sound.
-/
import Derived.Test.YtpahcdhligjdiaaKmMx
import Derived.Defers
namespace Go.Am
open RowKit

section
variable {C:Cfg} {W0:World}

theorem run_loadVar_addr {P:Program} {t:TypeId} {u:Value} {ad:Addr} {v:Value} {w:World} (hu:u=.pointer (some ad)) (h:(loadVar t ad).run P w=.ok v w):(do loadVar t (← asAddr u):Sem Value).run P w=.ok v w:=by
 subst hu
 simp [asAddr,h]

def runRes (tmps:Array Value):ResultVar→Sem Value
 | .tmp t=>pure (tmps.getD t undef)
 | .cell a t=>do loadVar t (← asAddr (tmps.getD a undef))
theorem results_eq (fn:Func) (tmps:Array Value):results fn tmps=(do let vs ← fn.results.mapM (runRes tmps);pure (if h:vs.size=1 then vs[0] else .tuple vs)):=by
 unfold results
 congr 1

theorem resOne_sound {S : Snap} {H : Hp} {tm : List AV} {tmps : Array Value} (hI : Inv W0 S H) (hF : FRel S tm tmps) {r : ResultVar} {v : AV} (h : resOne C (tm, H) r = some v) :
    ∃ v',(runRes tmps r).run C.P S.w=.ok v' S.w∧VRel S v v':=by
 cases r with
 | tmp t =>
  simp only [resOne,Option.some.injEq] at h
  subst h
  exact ⟨_,rfl,hF.getD t⟩
 | cell a t =>
  simp only [resOne] at h
  split at h
  ·rename_i g sz hg hs
   obtain ⟨v',ad,hu,hr,hv⟩:=aload_sound (P:=C.P) hI hg hs (hF.getD a) h
   exact ⟨v',run_loadVar_addr hu hr,hv⟩
  ·cases h

theorem mapM_res {S : Snap} {H : Hp} {tm : List AV} {tmps : Array Value} (hI : Inv W0 S H) (hF : FRel S tm tmps) : ∀ (l : List ResultVar) (r : List AV), l.mapM (resOne C (tm, H)) = some r →
    ∃ vs:List Value,(l.mapM (runRes tmps)).run C.P S.w=.ok vs S.w∧vs.length=r.length ∧
     ∀ (i:Nat) (a:AV) (v:Value),r[i]?=some a→vs[i]?=some v→VRel S a v:=by
 intro l
 induction l with
 | nil=>intro r h;simp at h;subst h;exact ⟨[],rfl,rfl,by simp⟩
 | cons x l ih =>
  intro r h
  rw [List.mapM_cons] at h
  cases hx:resOne C (tm,H) x with
  | none=>simp [hx] at h
  | some a =>
   cases hl:l.mapM (resOne C (tm,H)) with
   | none=>simp [hx,hl] at h
   | some as =>
    simp [hx,hl] at h
    subst h
    obtain ⟨v,h1,h2⟩:=resOne_sound hI hF hx
    obtain ⟨vs,h3,h4,h5⟩:=ih as hl
    refine ⟨v :: vs,?_,by simp [h4],fun i a v ha hv=>?_⟩
    ·rw [List.mapM_cons]
     simp only [Sem.run_bind,h1,h3,Result.andThen_ok,Sem.run_pure]
    ·cases i with
     | zero=>simp at ha hv;subst ha hv;exact h2
     | succ i=>exact h5 i a v (by simpa using ha) (by simpa using hv)

theorem resVal_sound {S:Snap} {H:Hp} {tm:List AV} {tmps:Array Value} (hI:Inv W0 S H) (hF:FRel S tm tmps) {fn:Func} {v:AV} (h:resVal C fn (tm,H)=some v):∃ v',(results fn tmps).run C.P S.w=.ok v' S.w∧VRel S v v':=by
 unfold resVal at h
 have main : ∀ l, fn.results.toList.mapM (resOne C (tm, H)) = some l → ∃ vs : List Value, (results fn tmps).run C.P S.w = .ok (if h : vs.toArray.size = 1 then vs.toArray[0] else .tuple vs.toArray) S.w ∧ vs.length = l.length ∧
     ∀ (i:Nat) (a:AV) (v:Value),l[i]?=some a→vs[i]?=some v→VRel S a v:=by
  intro l hl
  obtain ⟨vs,h1,h2,h3⟩:=mapM_res hI hF _ l hl
  refine ⟨vs,?_,h2,h3⟩
  rw [results_eq,Sem.run_bind,Array.mapM_eq_mapM_toList,Sem.run_map,h1]
  rfl
 split at h
 ·rename_i v1 hl
  injection h with h
  subst h
  obtain ⟨vs,h1,h2,h3⟩:=main _ hl
  match vs,h2 with
  | [u],_=>exact ⟨u,by simpa using h1,h3 0 v1 u rfl rfl⟩
 ·rename_i l hne hl
  injection h with h
  subst h
  obtain ⟨vs,h1,h2,h3⟩:=main _ hl
  have hn:vs.toArray.size ≠ 1:=by
   intro hc
   have:l.length=1:=by simp at hc;omega
   match l,this with
   | [a],_=>exact hne a rfl
  rw [dif_neg hn] at h1
  exact ⟨_,h1,.tuple _ _ (by simp [h2]) fun i a v ha hv=>h3 i a v ha (by simpa using hv)⟩
 ·cases h

theorem initial_frel {S : Snap} {args : List AV} {args' : Array Value} (hs : args'.size = args.length) (h : ∀ (i : Nat) (a : AV) (u : Value), args[i]? = some a → args'[i]? = some u → VRel S a u) (n : Nat) :
    FRel S (args++List.replicate (n - args.length) .undef) (args'++Array.replicate (n - args'.size) undef):=by
 refine ⟨by simp [hs],fun i a v ha hv=>?_⟩
 rcases Nat.lt_or_ge i args.length with hi | hi
 ·rw [List.getElem?_append_left hi] at ha
  rw [Array.getElem?_append_left (by omega)] at hv
  exact h i a v ha hv
 ·rw [List.getElem?_append_right hi] at ha
  rw [Array.getElem?_append_right (by omega)] at hv
  rw [List.getElem?_replicate] at ha
  rw [Array.getElem?_replicate] at hv
  split at ha
  ·injection ha with ha
   split at hv
   ·injection hv with hv
    subst ha hv
    exact .undef _
   ·cases hv
  ·cases ha

theorem end_sound {f : FuncId} {fn : Func} {S S1 : Snap} {H H' : Hp} {s : St} {tmps : Array Value} {v : AV} (hI : Inv W0 S H) (hx1 : Ext S S1) (hI1 : Inv W0 S1 s.2) (hF1 : FRel S1 s.1 tmps)
    (hr:(match resVal C fn s with | some v=>leave C f H (v,s.2) | none=>none)=some (v,H')) :
    ∃ u,(results fn tmps).run C.P S1.w=.ok u S1.w∧∃ S',S'.w=S1.w∧Ext S S'∧Inv W0 S' H'∧VRel S' v u:=by
 split at hr
 ·rename_i v1 hv1
  obtain ⟨v',hrun,hv⟩:=resVal_sound (tm:=s.1) hI1 hF1 hv1
  refine ⟨v',hrun,?_⟩
  unfold leave at hr
  split at hr
  ·unfold leaveP at hr
   split at hr
   ·rename_i htake
    cases hcl:closeV s.2 H.length 400 v1 with
    | none=>simp [hcl] at hr
    | some v2 =>
     simp only [hcl,Option.some.injEq,Prod.mk.injEq] at hr
     obtain ⟨rfl,rfl⟩:=hr
     exact ⟨S1.back H,rfl,Ext.back hI hx1,Inv.back hI hI1 htake,closeV_sound hI1 htake 400 _ _ _ hcl hv⟩
   ·cases hr
  ·simp only [Option.some.injEq,Prod.mk.injEq] at hr
   obtain ⟨rfl,rfl⟩:=hr
   exact ⟨S1,rfl,hx1,hI1,hv⟩
 ·cases hr

def D0 (N:Nat) (a:Act):Prop:=a.defers=[]∧N≤a.tmps.size
theorem D0.put {N:Nat} (a:Act) (dst:Option Tmp) (v:Value) (h:D0 N a):D0 N (a.put dst v):=by
 cases dst with
 | none=>exact h
 | some d=>exact ⟨h.1,by show N≤(a.tmps.setIfInBounds d v).size;rw [Array.size_setIfInBounds];exact h.2⟩

theorem start_rel {S : Snap} {H : Hp} {args : List AV} {args' : Array Value} (hI : Inv W0 S H) (hG : GlobOk C S) (hs : args'.size = args.length) (ha : ∀ (i : Nat) (a : AV) (u : Value), args[i]? = some a → args'[i]? = some u → VRel S a u) (n : Nat) :
    Rel C W0 S (D0 n) (args++List.replicate (n - args.length) .undef,H) { tmps:=args'++Array.replicate (n - args'.size) undef,defers:=[] } S.w :=
 ⟨S,rfl,Ext.refl S,hI,hG,initial_frel hs ha n,rfl,by simp;omega⟩

theorem body_wp (hC : okCfg C) {cl : CallF} (hcall : CallsOk C W0 cl) (hfr : Framed cl) {n : Nat} {f : FuncId} {fn : Func} {c : Code} {args : List AV} {H H' : Hp} {v : AV}
    (h:body C cl n f fn c args H=some (v,H')) {S:Snap} {args':Array Value} (hI:Inv W0 S H) (hG:GlobOk C S) (hs:args'.size=args.length) (ha:∀ (i:Nat) (a:AV) (u:Value),args[i]?=some a→args'[i]?=some u→VRel S a u) :
    c.wp C.P (bodyPost C.P fn fun e w'=>∃ v' S',e=.returned v'∧S'.w=w'∧Ext S S'∧Inv W0 S' H'∧VRel S' v v') { tmps:=args'++Array.replicate (fn.ntmps - args'.size) undef,defers:=[] } S.w:=by
 unfold body at h
 have hrel:=start_rel hI hG hs ha fn.ntmps
 cases hex:exec C cl (C.keep f) n c (args++List.replicate (fn.ntmps - args.length) .undef,H) with
 | none=>simp [hex] at h
 | some p =>
  obtain ⟨e,s⟩:=p
  refine wp_mono (exec_wp hC hcall hfr c _ s e _ _ (keepsD_all D0.put c) hex hrel) fun e' a w hp=>?_
  obtain ⟨rfl,S1,rfl,hx1,hI1,hG1,hF1,hd1⟩:=hp
  cases e with
  | normal =>
   simp only [hex] at h
   obtain ⟨u,g1,S',g2,g3,g4,g5⟩:=end_sound hI hx1 hI1 hF1 h
   exact ⟨hd1.1,u,g1,u,S',rfl,g2,g3,g4,g5⟩
  | ret =>
   simp only [hex] at h
   obtain ⟨u,g1,S',g2,g3,g4,g5⟩:=end_sound hI hx1 hI1 hF1 h
   exact ⟨hd1.1,u,g1,u,S',rfl,g2,g3,g4,g5⟩
  | _=>simp [hex] at h

theorem body_sound (hC : okCfg C) {cl : CallF} (hcall : CallsOk C W0 cl) (hfr : Framed cl) {n : Nat} {f : FuncId} {fn : Func} {c : Code} (hf : C.P.funcs[f]? = some fn) (hb : fn.body = some c) {args : List AV} {H H' : Hp} {v : AV}
    (h:body C cl n f fn c args H=some (v,H')) {S:Snap} {args':Array Value} (hI:Inv W0 S H) (hG:GlobOk C S) (hs:args'.size=args.length) (ha:∀ (i:Nat) (a:AV) (u:Value),args[i]?=some a→args'[i]?=some u→VRel S a u) :
    Calls C.P f args' S.w fun e w'=>∃ v' S',e=.returned v'∧S'.w=w'∧Ext S S'∧Inv W0 S' H'∧VRel S' v v' :=
 calls_of_wp hf hb (body_wp hC hcall hfr h hI hG hs ha)

def CallsOkD (C:Cfg) (call:CallF):Prop :=
 ∀ {W0:World} (f:FuncId) (args:List AV) (H H':Hp) (v:AV),C.dfr f=false→call f args H=some (v,H')→∀ (S:Snap) (args':Array Value),Inv W0 S H→GlobOk C S→args'.size=args.length →
  (∀ (i:Nat) (a:AV) (u:Value),args[i]?=some a→args'[i]?=some u→VRel S a u)→∀ u0:FrameMode,
  CallsD C.P f args' u0 S.w fun e u w'=>u=u0∧∃ v' S',e=.returned v'∧S'.w=w'∧Ext S S'∧Inv W0 S' H'∧VRel S' v v'

theorem retEx_first (K:Nat):∀ c:Code,firstRegion (retEx K c)=firstRegion c:=by
 intro c
 induction c with
 | seq a b iha ihb=>simp only [retEx,firstRegion,iha,ihb]
 | block id c ih=>exact ih
 | loop c ih=>exact ih
 | scope c ih=>exact ih
 | _=>rfl
theorem retEx_noGoto (K:Nat):∀ c:Code,noGoto (retEx K c)=noGoto c:=by
 intro c
 induction c with
 | seq a b iha ihb=>simp only [retEx,noGoto,iha,ihb]
 | cond c x y ihx ihy=>simp only [retEx,noGoto,ihx,ihy]
 | block id c ih=>exact ih
 | loop c ih=>exact ih
 | scope c ih=>exact ih
 | _=>rfl
theorem trim_first {kp:Nat→Option (List Nat)} {c c':Code} (h:firstRegion c=firstRegion c') (s:St):trim kp c s=trim kp c' s:=by unfold trim;rw [h]
def retE (K:Nat) (r:Option (AExit × St)):Option (AExit × St) :=
 match r with
 | some (.ret,s')=>some (.exit K,s')
 | r=>r
theorem exec_retEx {cl:CallF} {kp:Nat→Option (List Nat)} {n K:Nat}:∀ c:Code,okK K c=true→∀ s,exec C cl kp n (retEx K c) s=retE K (exec C cl kp n c s):=by
 intro c
 induction c with
 | skip=>intro _ s;rfl
 | region id ops draw =>
  intro _ s
  simp only [retEx,exec]
  split
  ·rfl
  ·split <;> rfl
 | seq a b iha ihb =>
  intro hk s
  simp only [okK,Bool.and_eq_true] at hk
  simp only [retEx,exec]
  rw [iha hk.1 s]
  cases exec C cl kp n a s with
  | none=>rfl
  | some p =>
   obtain ⟨e,s1⟩:=p
   cases e with
   | normal =>
    show exec C cl kp n (retEx K b) (trim kp (retEx K b) s1)=_
    rw [trim_first (retEx_first K b)]
    exact ihb hk.2 _
   | _=>rfl
 | cond c x y ihx ihy =>
  intro hk s
  simp only [okK,Bool.and_eq_true] at hk
  simp only [retEx,exec]
  split
  ·split
   ·exact ihx hk.1 s
   ·exact ihy hk.2 s
  ·rfl
 | block id c ih =>
  intro hk s
  simp only [okK,Bool.and_eq_true,Bool.not_eq_true'] at hk
  simp only [retEx,exec]
  rw [ih hk.2 s]
  cases exec C cl kp n c s with
  | none=>rfl
  | some p =>
   obtain ⟨e,s1⟩:=p
   cases e with
   | ret =>
    simp only [retE]
    rw [if_neg (fun h=>Nat.ne_of_beq_eq_false hk.1 h.symm)]
   | exit i =>
    simp only [retE]
    split <;> rfl
   | _=>rfl
 | loop c ih =>
  intro hk s
  simp only [okK] at hk
  simp only [retEx,exec]
  have key:∀ (m:Nat) (s:St),loopN (fun s=>exec C cl kp n (retEx K c) (trim kp (retEx K c) s)) m s=retE K (loopN (fun s=>exec C cl kp n c (trim kp c s)) m s):=by
   intro m
   induction m with
   | zero=>intro s;rfl
   | succ m ihm =>
    intro s
    simp only [loopN]
    rw [trim_first (retEx_first K c),ih hk]
    cases exec C cl kp n c (trim kp c s) with
    | none=>rfl
    | some p =>
     obtain ⟨e,s1⟩:=p
     cases e with
     | normal=>exact ihm s1
     | _=>rfl
  exact key n s
 | rangeFunc f p x y _ _=>intro _ s;rfl
 | exit id=>intro _ s;rfl
 | scope c ih =>
  intro hk s
  simp only [okK] at hk
  simp only [retEx,exec]
  rw [retEx_noGoto]
  split
  ·exact ih hk s
  ·rfl
 | label l=>intro _ s;rfl
 | goto l=>intro _ s;rfl
 | ret=>intro _ s;rfl
 | refuse m=>intro _ s;rfl
theorem exec_noExit {cl:CallF} {kp:Nat→Option (List Nat)} {n K:Nat}:∀ c:Code,okK K c=true→∀ s s',exec C cl kp n c s=some (.exit K,s')→False:=by
 intro c
 induction c with
 | skip=>intro _ s s' h;simp [exec] at h
 | region id ops draw =>
  intro _ s s' h
  simp only [exec] at h
  split at h
  ·cases h
  ·split at h
   ·simp at h
   ·cases h
 | seq a b iha ihb =>
  intro hk s s' h
  simp only [okK,Bool.and_eq_true] at hk
  simp only [exec] at h
  cases hx:exec C cl kp n a s with
  | none=>simp [hx] at h
  | some p =>
   obtain ⟨e,s1⟩:=p
   cases e with
   | normal=>simp only [hx] at h;exact ihb hk.2 _ _ h
   | exit i =>
    simp only [hx,Option.some.injEq,Prod.mk.injEq,AExit.exit.injEq] at h
    obtain ⟨rfl,rfl⟩:=h
    exact iha hk.1 _ _ hx
   | _=>simp [hx] at h
 | cond c x y ihx ihy =>
  intro hk s s' h
  simp only [okK,Bool.and_eq_true] at hk
  simp only [exec] at h
  split at h
  ·split at h
   ·exact ihx hk.1 _ _ h
   ·exact ihy hk.2 _ _ h
  ·cases h
 | block id c ih =>
  intro hk s s' h
  simp only [okK,Bool.and_eq_true,Bool.not_eq_true'] at hk
  simp only [exec] at h
  cases hx:exec C cl kp n c s with
  | none=>simp [hx] at h
  | some p =>
   obtain ⟨e,s1⟩:=p
   cases e with
   | exit i =>
    simp only [hx] at h
    split at h
    ·simp at h
    ·simp only [Option.some.injEq,Prod.mk.injEq,AExit.exit.injEq] at h
     obtain ⟨rfl,rfl⟩:=h
     exact ih hk.2 _ _ hx
   | _=>simp [hx] at h
 | loop c ih =>
  intro hk s s' h
  simp only [okK] at hk
  simp only [exec] at h
  have key:∀ (m:Nat) (s:St),loopN (fun s=>exec C cl kp n c (trim kp c s)) m s=some (.exit K,s')→False:=by
   intro m
   induction m with
   | zero=>intro s h;simp [loopN] at h
   | succ m ihm =>
    intro s h
    simp only [loopN] at h
    cases hx:exec C cl kp n c (trim kp c s) with
    | none=>simp [hx] at h
    | some p =>
     obtain ⟨e,s1⟩:=p
     cases e with
     | normal=>simp only [hx] at h;exact ihm s1 h
     | exit i =>
      simp only [hx,Option.some.injEq,Prod.mk.injEq,AExit.exit.injEq] at h
      obtain ⟨rfl,rfl⟩:=h
      exact ih hk _ _ hx
     | _=>simp [hx] at h
  exact key n s h
 | rangeFunc f p x y _ _=>intro _ s s' h;simp [exec] at h
 | exit id =>
  intro hk s s' h
  simp only [okK,Bool.not_eq_true'] at hk
  simp only [exec,Option.some.injEq,Prod.mk.injEq,AExit.exit.injEq] at h
  exact Nat.ne_of_beq_eq_false hk h.1
 | scope c ih =>
  intro hk s s' h
  simp only [okK] at hk
  simp only [exec] at h
  split at h
  ·exact ih hk _ _ h
  ·cases h
 | label l=>intro _ s s' h;simp [exec] at h
 | goto l=>intro _ s s' h;simp [exec] at h
 | ret=>intro _ s s' h;simp [exec] at h
 | refuse m=>intro _ s s' h;simp [exec] at h
theorem exec_blockRet {cl : CallF} {kp : Nat → Option (List Nat)} {n K : Nat} {c : Code} (hk : okK K c = true) {s s' : St} (h : exec C cl kp n (.block K (retEx K c)) s = some (.normal, s')) :
    exec C cl kp n c s=some (.normal,s') ∨ exec C cl kp n c s=some (.ret,s'):=by
 simp only [exec] at h
 rw [exec_retEx c hk] at h
 cases hx:exec C cl kp n c s with
 | none=>rw [hx] at h;simp [retE] at h
 | some p =>
  obtain ⟨e,s1⟩:=p
  rw [hx] at h
  cases e with
  | normal=>simp only [retE,Option.some.injEq,Prod.mk.injEq,true_and] at h;subst h;exact .inl rfl
  | ret=>simp only [retE,if_true,Option.some.injEq,Prod.mk.injEq,true_and] at h;subst h;exact .inr rfl
  | exit i =>
   simp only [retE] at h
   split at h
   ·rename_i hi
    subst hi
    exact (exec_noExit c hk _ _ hx).elim
   ·simp at h
  | goto l=>simp [retE] at h

theorem plainFn_facts {g:FuncId} (h:plainFn C g=true):C.user g=true∧C.flat g=false∧C.ro g=false∧C.gro g=false∧C.ext g=none∧C.sum g=none∧C.eff g=none∧C.dfr g=false:=by
 unfold plainFn at h
 simp only [Bool.and_eq_true,Bool.not_eq_true',Option.isNone_iff_eq_none] at h
 exact h
theorem dferOf_facts {N : Nat} {ops : Array Oper} {o1 o2 : Oper} {x : Nat} (h : dferOf C N ops = some (o1, o2, x)) :
    ∃ (o:Oper) (c:Call) (g:FuncId) (fi ca:Array Operand),ops.toList=[o1,o]∧o1.op=.makeFunc (.func g) fi ca∧o1.dst=some x∧o1.guard=none∧o.op=.defer c∧o.dst=none∧o.guard=none ∧
     o2={ o with op:=.call c }∧c.callee=.value (.tmp x)∧c.args=#[]∧x < N∧plainFn C g=true:=by
 unfold dferOf at h
 split at h
 ·rename_i p1 p2 hl
  split at h
  ·rename_i g fi ca x1 h1 h2 h3
   split at h
   ·rename_i c h4 h5 h6
    split at h
    ·rename_i y h7
     split at h
     ·rename_i hb
      simp only [Option.some.injEq,Prod.mk.injEq] at h
      obtain ⟨rfl,rfl,rfl⟩:=h
      simp only [Bool.and_eq_true] at hb
      have hxy:=Nat.eq_of_beq_eq_true hb.1
      refine ⟨p2,c,g,fi,ca,hl,h1,h2,h3,h4,h5,h6,rfl,by rw [h7,hxy],?_,?_,hb.2.2.2⟩
      ·have:=hb.2.2.1
       rw [Array.isEmpty_iff] at this
       exact this
      ·have:=hb.2.1
       rw [Nat.blt] at this
       exact Nat.le_of_ble_eq_true this
     ·cases h
    ·cases h
   ·cases h
  ·cases h
 ·cases h

def D1 (d:Deferred) (x:Nat) (u:Value) (a:Act):Prop:=a.defers=[d]∧a.eval (.tmp x)=u
theorem D1.put {d:Deferred} {x:Nat} {u:Value} {a:Act} {dst:Option Tmp} (v:Value) (hd:dst ≠ some x) (h:D1 d x u a):D1 d x u (a.put dst v):=by
 cases dst with
 | none=>exact h
 | some t =>
  refine ⟨h.1,?_⟩
  have hne:t ≠ x:=fun e=>hd (by rw [e])
  have:=h.2
  show (a.tmps.setIfInBounds t v).getD x undef=u
  rw [← this]
  show (a.tmps.setIfInBounds t v).getD x undef=a.tmps.getD x undef
  rw [Array.getD_eq_getD_getElem?,Array.getD_eq_getD_getElem?,Array.getElem?_setIfInBounds_ne hne]
theorem D1.keeps {d:Deferred} {x:Nat} {u:Value}:∀ c:Code,noDst x c=true→KeepsD (D1 d x u) c:=by
 intro c
 induction c with
 | region id ops draw =>
  intro h i o ho a v ha
  refine ha.put v fun hd=>?_
  have h:keptSlot ops x=true:=h
  unfold keptSlot at h
  rw [List.all_eq_true] at h
  have:=h o (by rw [Array.mem_toList_iff];exact Array.mem_of_getElem? ho)
  rw [hd] at this
  simp at this
 | seq a b iha ihb=>intro h;simp only [noDst,Bool.and_eq_true] at h;exact ⟨iha h.1,ihb h.2⟩
 | cond c a b iha ihb=>intro h;simp only [noDst,Bool.and_eq_true] at h;exact ⟨iha h.1,ihb h.2⟩
 | block id c ih=>intro h;exact ih h
 | loop c ih=>intro h;exact ih h
 | scope c ih=>intro h;exact ih h
 | _=>intro _;trivial

def QD (C:Cfg) (W0:World) (S0:Snap) (s':St) (e:Exit) (a:Act) (w:World):Prop :=
 (e=.normal ∨ e=.ret)∧(Rel C W0 S0 (fun a=>a.defers=[]) s' a w ∨
  ∃ fv cap dargs g as,a.defers=[{ target:=.fn fv cap,args:=dargs }]∧(invoke (.fn fv cap) dargs).run C.P w=.ok (.enter g as) w ∧
   CallsD C.P g as .returning w fun e u w'=>u=.returning∧(∃ v,e=.returned v)∧Rel C W0 S0 (fun _=>True) s' a w')
theorem acall_plain {cl:CallF} {g:FuncId} {fi ca:List AV} {H:Hp} (hp:plainFn C g=true):acall C cl (.fn (.func g) fi ca) [] H=cl g (fi++[]++ca) H:=by
 obtain ⟨h1,h2,h3,h3b,h4,h5,h6,h7⟩:=plainFn_facts hp
 simp [acall,acallF,h1,h2,h3,h3b,h4,h5,h6]

section
variable {cl:CallF} {S0:Snap} {kp:Nat→Option (List Nat)} {n N:Nat}
theorem exec_seq {a b : Code} {s : St} : exec C cl kp n (.seq a b) s = match exec C cl kp n a s with
    | some (.normal,s')=>exec C cl kp n b (trim kp b s')
    | r=>r:=rfl
theorem exec_blockNo {K:Nat} {c:Code} (hk:okK K c=true) {s s':St} (h:exec C cl kp n (.block K (retEx K c)) s=some (.ret,s')):False:=by
 simp only [exec] at h
 rw [exec_retEx c hk] at h
 cases hx:exec C cl kp n c s with
 | none=>rw [hx] at h;simp [retE] at h
 | some p =>
  obtain ⟨e,s1⟩:=p
  rw [hx] at h
  cases e with
  | normal=>simp [retE] at h
  | ret=>simp [retE] at h
  | exit i =>
   simp only [retE] at h
   split at h <;> simp at h
  | goto l=>simp [retE] at h
theorem exec_one {id : Nat} {o : Oper} {s s' : St} {e : AExit} (hg : o.guard = none) (h : exec C cl kp n (.region id #[o] false) s = some (e, s')) :
    e=.normal∧∃ v H',aop C cl (eval C (frzs kp id s).1) (frzs kp id s).2 false o.op=some (v,H')∧s'=(aput (frzs kp id s).1 o.dst v,H'):=by
 simp only [exec,Bool.false_and,Bool.false_eq_true,if_false] at h
 have hz:resvH 0 (frzs kp id s).2=(frzs kp id s).2:=by simp [resvH]
 rw [hz] at h
 simp only [execOps,rStep,Bool.false_and,Bool.false_eq_true,if_false,oStep,oVal,awanted,hg] at h
 cases hx:aop C cl (eval C (frzs kp id s).1) (frzs kp id s).2 false o.op with
 | none=>rw [hx] at h;simp at h
 | some p =>
  obtain ⟨v,H'⟩:=p
  rw [hx] at h
  simp only [Option.some.injEq,Prod.mk.injEq] at h
  exact ⟨h.1.symm,v,H',rfl,h.2.symm⟩
theorem oStep_plain {ops:Array Oper} {o:Oper} {s:St} {v:AV} {H':Hp} (hg:o.guard=none) (h:aop C cl (eval C s.1) s.2 false o.op=some (v,H')):oStep C cl ops false o s=some (aput s.1 o.dst v,H'):=by
 simp only [oStep,oVal,awanted,hg,h]
theorem undefer_here (hC : okCfg C) (hcall : CallsOk C W0 cl) (hcallD : CallsOkD C cl) (hfr : Framed cl) {id : Nat} {ops : Array Oper} {b : Code} {o1 o2 : Oper} {x : Nat} (hdf : dferOf C N ops = some (o1, o2, x))
    (hb:(noDst x b && okK 900001 b)=true) {s s':St} {e:AExit} {a:Act} {w:World}
    (h:exec C cl kp n (.seq (.region id #[o1] false) (.seq (.block 900001 (retEx 900001 b)) (.seq (.region 900002 #[o2] false) .ret))) s=some (e,s')) (he:e=.normal ∨ e=.ret)
    (hr:Rel C W0 S0 (D0 N) s a w):(Code.seq (.region id ops false) b).wp C.P (QD C W0 S0 s') a w:=by
 obtain ⟨o,c,g,fi,ca,hl,h1,h2,h3,h4,h5,h6,rfl,h7,h8,h9,h10⟩:=dferOf_facts hdf
 have hops:ops=#[o1,o]:=by
  have:ops=ops.toList.toArray:=by simp
  rw [this,hl]
 subst hops
 rw [Bool.and_eq_true] at hb
 rw [exec_seq] at h
 cases hx:exec C cl kp n (.region id #[o1] false) s with
 | none=>rw [hx] at h;cases h
 | some p =>
 obtain ⟨e1,s1⟩:=p
 obtain ⟨rfl,v1,H1,ha1,rfl⟩:=exec_one h3 hx
 rw [hx] at h
 dsimp only at h
 have hv1:v1=.fn (.func g) (fi.toList.map (eval C (frzs kp id s).1)) (ca.toList.map (eval C (frzs kp id s).1))∧H1=(frzs kp id s).2:=by
  rw [h1] at ha1
  simp only [aop,apure,Option.some.injEq,Prod.mk.injEq] at ha1
  exact ⟨ha1.1.symm,ha1.2.symm⟩
 refine wp_seq (wp_region ?_)
 show wpOps C.P #[o1,o] _ [0,1] a w
 rw [wpOps_cons]
 refine oStep_wp (S0:=S0) (D:=D0 N) hC hcall (fun a v ha=>D0.put a _ v ha) (ops:=#[o1,o]) (i:=0) (o:=o1) rfl (oStep_plain h3 ha1) (hr.frzs (kp:=kp) (id:=id)) fun a1 w1 hr1=>?_
 rw [wpOps_cons]
 unfold wpOp
 show (if Region.wanted o (yielded #[o1,o] a1.tmps) then _ else _)
 rw [if_pos (by unfold Region.wanted;simp [h6])]
 refine .inl ?_
 obtain ⟨rfl,rfl⟩:=hv1
 obtain ⟨S1,rfl,hx1,hI1,hG1,hF1,hd1,hN1⟩:=hr1
 have hlen:x < (frzs kp id s).1.length:=by
  have:=hF1.1
  simp only [h2,aput,List.length_set] at this
  omega
 have hv:=hF1.getD x
 have hget:(aput (frzs kp id s).1 o1.dst (.fn (.func g) (fi.toList.map (eval C (frzs kp id s).1)) (ca.toList.map (eval C (frzs kp id s).1)))).getD x (.tuple [])=.fn (.func g) (fi.toList.map (eval C (frzs kp id s).1)) (ca.toList.map (eval C (frzs kp id s).1)):=by
  rw [h2]
  simp only [aput]
  rw [List.getD_eq_getElem?_getD,List.getElem?_set_self hlen]
  rfl
 rw [hget] at hv
 have hu0:a1.eval (.tmp x)=a1.tmps.getD x undef:=rfl
 generalize hu:a1.tmps.getD x undef=u at hv hu0
 cases hv with | fn _ _ _ F K hF hK hr1 hr2 =>
 have hrun:(execOp a1.eval o).run C.P S1.w=.ok (.defer { target:=.fn (.func g) K,args:=F++#[] }) S1.w:=by
  simp [execOp,h4,resolve,h7,h8,hu0,Deferred.ofValue]
 show o.wp C.P a1 S1.w _ _
 unfold Oper.wp
 rw [hrun,Oper.upon_defer,h5]
 have hrb : Rel C W0 S0 (D1 { target := .fn (.func g) K, args := F ++ #[] } x (.func (.func g) F K)) (aput (frzs kp id s).1 o1.dst (.fn (.func g) (fi.toList.map (eval C (frzs kp id s).1)) (ca.toList.map (eval C (frzs kp id s).1))), (frzs kp id s).2)
     {a1 with defers:={ target:=.fn (.func g) K,args:=F++#[] } :: a1.defers } S1.w:=⟨S1,rfl,hx1,hI1,hG1,hF1,by rw [hd1],hu0⟩
 show b.wp C.P (QD C W0 S0 s') { a1 with defers:={ target:=.fn (.func g) K,args:=F++#[] } :: a1.defers } S1.w
 rw [exec_seq] at h
 cases hy:exec C cl kp n (.block 900001 (retEx 900001 b)) (trim kp (.seq (.block 900001 (retEx 900001 b)) (.seq (.region 900002 #[{ o with op:=.call c }] false) .ret)) (aput (frzs kp id s).1 o1.dst (.fn (.func g) (fi.toList.map (eval C (frzs kp id s).1)) (ca.toList.map (eval C (frzs kp id s).1))),(frzs kp id s).2)) with
 | none=>rw [hy] at h;cases h
 | some p =>
 obtain ⟨e2,s2⟩:=p
 rw [hy] at h
 have hyb:e2=.normal∧∃ eb,(eb=.normal ∨ eb=.ret)∧exec C cl kp n b (trim kp (.seq (.block 900001 (retEx 900001 b)) (.seq (.region 900002 #[{ o with op:=.call c }] false) .ret)) (aput (frzs kp id s).1 o1.dst (.fn (.func g) (fi.toList.map (eval C (frzs kp id s).1)) (ca.toList.map (eval C (frzs kp id s).1))),(frzs kp id s).2))=some (eb,s2):=by
  cases e2 with
  | normal =>
   rcases exec_blockRet hb.2 hy with h | h
   ·exact ⟨rfl,_,.inl rfl,h⟩
   ·exact ⟨rfl,_,.inr rfl,h⟩
  | ret=>exact (exec_blockNo hb.2 hy).elim
  | exit i =>
   simp only [Option.some.injEq,Prod.mk.injEq] at h
   obtain ⟨rfl,_⟩:=h
   rcases he with he | he <;> cases he
  | goto l =>
   simp only [Option.some.injEq,Prod.mk.injEq] at h
   obtain ⟨rfl,_⟩:=h
   rcases he with he | he <;> cases he
 obtain ⟨rfl,eb,heb,hyb⟩:=hyb
 dsimp only at h
 refine wp_mono (exec_wp hC hcall hfr b _ s2 eb _ _ (D1.keeps b hb.1) hyb hrb.trim) fun e' a3 w3 hp=>?_
 obtain ⟨rfl,hr3⟩:=hp
 rw [exec_seq] at h
 cases hz:exec C cl kp n (.region 900002 #[{ o with op:=.call c }] false) (trim kp (.seq (.region 900002 #[{ o with op:=.call c }] false) .ret) s2) with
 | none=>rw [hz] at h;cases h
 | some p =>
 obtain ⟨e4,s4⟩:=p
 obtain ⟨rfl,v,H',haop,rfl⟩:=exec_one (o:={ o with op:=.call c }) h6 hz
 rw [hz] at h
 dsimp only at h
 have hs':s'=(aput (frzs kp 900002 (trim kp (.seq (.region 900002 #[{ o with op:=.call c }] false) .ret) s2)).1 none v,H'):=by
  simp only [exec,Option.some.injEq,Prod.mk.injEq,h5] at h
  exact h.2.symm
 subst hs'
 have hr4:=(hr3.trim (kp:=kp) (c:=.seq (.region 900002 #[{ o with op:=.call c }] false) .ret)).frzs (kp:=kp) (id:=900002)
 obtain ⟨S3,rfl,hx3,hI3,hG3,hF3,hd3,hu3⟩:=hr4
 generalize frzs kp 900002 (trim kp (.seq (.region 900002 #[{ o with op:=.call c }] false) .ret) s2)=s5 at haop hI3 hF3
 obtain ⟨callee,args,argTypes⟩:=c
 dsimp only at h7 h8
 subst h7 h8
 have hac:acall C cl (eval C s5.1 (.tmp x)) [] s5.2=some (v,H'):=by
  simp only [aop,apure,aheap,Bool.false_eq_true,if_false] at haop
  split at haop
  ·unfold acallQ qC at haop
   split at haop
   ·rename_i heq
    split at haop
    ·rw [heq];exact haop
    ·cases haop
   ·cases haop
  ·exact haop
 have hv3:VRel S3 (eval C s5.1 (.tmp x)) (a3.eval (.tmp x)):=hF3.getD x
 rw [hu3] at hv3
 generalize eval C s5.1 (.tmp x)=av at hac hv3
 have hav:∃ fi' ca',av=.fn (.func g) fi' ca'∧F.size=fi'.length∧K.size=ca'.length∧(∀ (i:Nat) (a:AV) (u:Value),fi'[i]?=some a→F[i]?=some u→VRel S3 a u)∧(∀ (i:Nat) (a:AV) (u:Value),ca'[i]?=some a→K[i]?=some u→VRel S3 a u):=by
  unfold acall at hac
  split at hac
  ·cases hv3 with | fn _ _ _ _ _ q1 q2 q3 q4=>exact ⟨_,_,rfl,q1,q2,q3,q4⟩
  ·cases hac
 obtain ⟨fi',ca',rfl,q1,q2,q3,q4⟩:=hav
 rw [acall_plain h10] at hac
 obtain ⟨p1,p2,p3,p3b,p4,p5,p6,p7⟩:=plainFn_facts h10
 have hcd:=hcallD g _ _ _ _ p7 hac S3 (F++#[]++K) hI3 hG3 (by simp [q1,q2]) (app_rel (S:=S3) (by simp [q1]) (app_rel q1 q3 (fun i a u ha _=>by simp at ha)) q4) .returning
 refine ⟨?_,.inr ⟨.func g,K,F++#[],g,F++#[]++K,hd3,?_,hcd.mono ?_⟩⟩
 ·rcases heb with rfl | rfl
  ·exact .inl rfl
  ·exact .inr rfl
 ·simp only [invoke]
  exact hC.2.1 g p1 _ _
 ·rintro e u w' ⟨rfl,v',S',rfl,hw,hx,hI,hv⟩
  exact ⟨rfl,⟨v',rfl⟩,S',hw,hx3.trans hx,hI,hG3.mono hx,hF3.mono hx,trivial⟩
theorem undefer_wp (hC : okCfg C) (hcall : CallsOk C W0 cl) (hcallD : CallsOkD C cl) (hfr : Framed cl) : ∀ (c : Code) (s s' : St) (e : AExit) (a : Act) (w : World),
    exec C cl kp n (undefer C N c) s=some (e,s')→(e=.normal ∨ e=.ret)→Rel C W0 S0 (D0 N) s a w→c.wp C.P (QD C W0 S0 s') a w:=by
 intro c
 have whole:∀ (c:Code) (s s':St) (e:AExit) (a:Act) (w:World),exec C cl kp n c s=some (e,s')→(e=.normal ∨ e=.ret)→Rel C W0 S0 (D0 N) s a w→c.wp C.P (QD C W0 S0 s') a w:=by
  intro c s s' e a w h he hr
  refine wp_mono (exec_wp hC hcall hfr c s s' e a w (keepsD_all D0.put c) h hr) fun e' a' w' hp=>?_
  obtain ⟨rfl,S,h1,h2,h3,h4,h5,h6⟩:=hp
  refine ⟨?_,.inl ⟨S,h1,h2,h3,h4,h5,h6.1⟩⟩
  rcases he with rfl | rfl
  ·exact .inl rfl
  ·exact .inr rfl
 induction c with
 | seq x b ihx ihb =>
  intro s s' e a w h he hr
  have plain:exec C cl kp n (.seq x (undefer C N b)) s=some (e,s')→(Code.seq x b).wp C.P (QD C W0 S0 s') a w:=by
   intro h
   simp only [exec] at h
   cases hx:exec C cl kp n x s with
   | none=>simp [hx] at h
   | some p =>
    obtain ⟨e1,s1⟩:=p
    refine wp_seq (wp_mono (exec_wp hC hcall hfr x s s1 e1 a w (keepsD_all D0.put x) hx hr) fun e' a' w' hp=>?_)
    obtain ⟨rfl,hr'⟩:=hp
    cases e1 with
    | normal =>
     simp only [hx] at h
     exact ihb _ s' e a' w' h he hr'.trim
    | ret =>
     simp only [hx,Option.some.injEq,Prod.mk.injEq] at h
     obtain ⟨_,rfl⟩:=h
     obtain ⟨S,h1,h2,h3,h4,h5,h6⟩:=hr'
     exact ⟨.inr rfl,.inl ⟨S,h1,h2,h3,h4,h5,h6.1⟩⟩
    | exit i =>
     simp only [hx,Option.some.injEq,Prod.mk.injEq] at h
     obtain ⟨rfl,_⟩:=h
     rcases he with he | he <;> cases he
    | goto l =>
     simp only [hx,Option.some.injEq,Prod.mk.injEq] at h
     obtain ⟨rfl,_⟩:=h
     rcases he with he | he <;> cases he
  simp only [undefer] at h
  split at h
  ·rename_i id ops
   split at h
   ·rename_i o1 o2 y hdf
    split at h
    ·rename_i hb
     exact undefer_here hC hcall hcallD hfr hdf hb h he hr
    ·exact whole _ s s' e a w h he hr
   ·exact plain h
  ·exact plain h
 | _=>intro s s' e a w h he hr;exact whole _ s s' e a w h he hr
end
theorem body_defers (hC : okCfg C) {cl : CallF} (hcall : CallsOk C W0 cl) (hcallD : CallsOkD C cl) (hfr : Framed cl) {n : Nat} {f : FuncId} {fn : Func} {c : Code} (hf : C.P.funcs[f]? = some fn) (hb : fn.body = some c) {args : List AV} {H H' : Hp} {v : AV}
    (h:body C cl n f fn (undefer C fn.ntmps c) args H=some (v,H')) {S:Snap} {args':Array Value} (hI:Inv W0 S H) (hG:GlobOk C S) (hs:args'.size=args.length) (ha:∀ (i:Nat) (a:AV) (u:Value),args[i]?=some a→args'[i]?=some u→VRel S a u) :
    Calls C.P f args' S.w fun e w'=>∃ v' S',e=.returned v'∧S'.w=w'∧Ext S S'∧Inv W0 S' H'∧VRel S' v v':=by
 unfold body at h
 refine calls_of_wp_defers hf hb ?_
 have hrel:=start_rel hI hG hs ha fn.ntmps
 have fin : ∀ (s : St) (e : AExit), exec C cl (C.keep f) n (undefer C fn.ntmps c) (args ++ List.replicate (fn.ntmps - args.length) .undef, H) = some (e, s) → (e = .normal ∨ e = .ret) →
     (match resVal C fn s with | some v=>leave C f H (v,s.2) | none=>none)=some (v,H') →
     c.wp C.P (bodyPostD C.P fn fun e w'=>∃ v' S',e=.returned v'∧S'.w=w'∧Ext S S'∧Inv W0 S' H'∧VRel S' v v') { tmps:=args'++Array.replicate (fn.ntmps - args'.size) undef,defers:=[] } S.w:=by
  intro s e hex he hr
  refine wp_mono (undefer_wp hC hcall hcallD hfr c _ s e _ _ hex he hrel) fun e' a w hq=>?_
  obtain ⟨he',hq⟩:=hq
  have main:Leaves C.P fn a.tmps (fun e w'=>∃ v' S',e=.returned v'∧S'.w=w'∧Ext S S'∧Inv W0 S' H'∧VRel S' v v') a.defers .returning w:=by
   rcases hq with ⟨S1,rfl,hx1,hI1,hG1,hF1,hd1⟩ | ⟨fv,cap,dargs,g,as,hd,hinv,hcd⟩
   ·obtain ⟨u,g1,S',g2,g3,g4,g5⟩:=end_sound hI hx1 hI1 hF1 hr
    have hd1:a.defers=[]:=hd1
    rw [hd1]
    exact ⟨u,g1,u,S',rfl,g2,g3,g4,g5⟩
   ·rw [hd]
    refine leaves_cons (by simp) hinv (hcd.mono ?_)
    rintro e u w' ⟨rfl,⟨v',rfl⟩,S1,rfl,hx1,hI1,hG1,hF1,_⟩
    obtain ⟨u,g1,S',g2,g3,g4,g5⟩:=end_sound hI hx1 hI1 hF1 hr
    exact ⟨u,g1,u,S',rfl,g2,g3,g4,g5⟩
  rcases he' with rfl | rfl
  ·exact main
  ·exact main
 cases hex:exec C cl (C.keep f) n (undefer C fn.ntmps c) (args++List.replicate (fn.ntmps - args.length) .undef,H) with
 | none=>simp [hex] at h
 | some p =>
  obtain ⟨e,s⟩:=p
  cases e with
  | normal =>
   simp only [hex] at h
   exact fin s _ hex (.inl rfl) h
  | ret =>
   simp only [hex] at h
   exact fin s _ hex (.inr rfl) h
  | _=>simp [hex] at h

theorem call_sounds (hC:okCfg C):∀ n,CallsOk C W0 (call C n)∧CallsOkD C (call C n):=by
 intro n
 induction n with
 | zero=>exact ⟨fun {W1} f args H H' v h=>by simp [call] at h,fun {W1} f args H H' v _ h=>by simp [call] at h⟩
 | succ n ih =>
  have key:∀ {W1:World},CallsOk C W1 (call C n):=fun {W1}=>ih.1
  refine ⟨fun {W1} f args H H' v h S args' hI hG hs ha=>?_,fun {W1} f args H H' v hd h S args' hI hG hs ha u0=>?_⟩
  ·simp only [call] at h
   split at h
   ·cases h
   ·rename_i fn hf
    unfold codeOf at h
    cases hd:C.dfr f with
    | false =>
     rw [hd] at h
     dsimp only at h
     split at h
     ·cases h
     ·rename_i c hb
      exact body_sound hC (key (W1:=W1)) (call_framed C n) hf hb h hI hG hs ha
    | true =>
     rw [hd] at h
     dsimp only at h
     cases hb:fn.body with
     | none=>rw [hb] at h;cases h
     | some c =>
      rw [hb] at h
      exact body_defers hC (key (W1:=W1)) ih.2 (call_framed C n) hf hb h hI hG hs ha
  ·simp only [call] at h
   split at h
   ·cases h
   ·rename_i fn hf
    unfold codeOf at h
    rw [hd] at h
    dsimp only at h
    split at h
    ·cases h
    ·rename_i c hb
     exact callsD_of_wp hf hb (body_wp hC (key (W1:=W1)) (call_framed C n) h hI hG hs ha)
theorem call_sound (hC:okCfg C):∀ n,CallsOk C W0 (call C n):=fun n=>(call_sounds (W0:=W0) hC n).1
end
end Go.Am
namespace Go.Am
open RowKit

section
variable {C:Cfg}

def Le (c c':CallF):Prop:=∀ f a H r,c f a H=some r→c' f a H=some r

theorem flatC_some {a : List AV → Hp → Option (AV × Hp)} {args : List AV} {H : Hp} {r : AV × Hp} (h : flatC a args H = some r) :
    ∃ args' q,a args' []=some q∧∀ b:List AV→Hp→Option (AV × Hp),b args' []=some q→flatC b args H=some r:=by
 unfold flatC at h
 split at h
 ·rename_i args1 hm
  split at h
  ·rename_i v1 H1 hc
   exact ⟨args1,_,hc,fun b hb=>by unfold flatC;simp only [hm,hb];exact h⟩
  ·cases h
 ·cases h
theorem roC_some {a : List AV → Hp → Option (AV × Hp)} {args : List AV} {H : Hp} {r : AV × Hp} (h : roC a args H = some r) :
    ∃ q,a args H=some q∧∀ b:List AV→Hp→Option (AV × Hp),b args H=some q→roC b args H=some r:=by
 unfold roC at h
 split at h
 ·rename_i v1 H1 hc
  exact ⟨_,hc,fun b hb=>by unfold roC;simp only [hb];exact h⟩
 ·cases h
theorem groC_some {a : List AV → Hp → Option (AV × Hp)} {args : List AV} {H : Hp} {r : AV × Hp} (h : groC a args H = some r) :
    ∃ q,a args H=some q∧∀ b:List AV→Hp→Option (AV × Hp),b args H=some q→groC b args H=some r:=by
 unfold groC at h
 split at h
 ·rename_i v H1 hc
  exact ⟨_,hc,fun b hb=>by unfold groC;simp only [hb];exact h⟩
 ·cases h
theorem acallF_mono {c c':CallF} (h:Le c c') {id:FuncId} {args:List AV} {H:Hp} {r:AV × Hp} (hr:acallF C c id args H=some r):acallF C c' id args H=some r:=by
 unfold acallF at hr ⊢
 cases he:C.ext id with
 | some e=>simpa [he] using hr
 | none =>
  cases hsm:C.sum id with
  | some g=>simpa [he,hsm] using hr
  | none =>
  cases hef:C.eff id with
  | some g=>simpa [he,hsm,hef] using hr
  | none =>
  simp only [he,hsm,hef] at hr ⊢
  by_cases hu:C.user id=true
  ·by_cases hfl:C.flat id=true
   ·simp only [hu,hfl,if_true] at hr ⊢
    obtain ⟨args',q,q1,q2⟩:=flatC_some hr
    exact q2 _ (h _ _ _ _ q1)
   ·by_cases hro:C.ro id=true
    ·simp only [hu,hfl,hro,Bool.false_eq_true,if_false,if_true] at hr ⊢
     obtain ⟨q,q1,q2⟩:=roC_some hr
     exact q2 _ (h _ _ _ _ q1)
    ·by_cases hgr:C.gro id=true
     ·simp only [hu,hfl,hro,hgr,Bool.false_eq_true,if_false,if_true] at hr ⊢
      obtain ⟨q,q1,q2⟩:=groC_some hr
      exact q2 _ (h _ _ _ _ q1)
     ·simp only [hu,hfl,hro,hgr,Bool.false_eq_true,if_false,if_true] at hr ⊢
      exact h _ _ _ _ hr
  ·simp [hu] at hr
theorem acall_mono {c c':CallF} (h:Le c c') {f:AV} {args:List AV} {H:Hp} {r:AV × Hp} (hr:acall C c f args H=some r):acall C c' f args H=some r:=by
 unfold acall at hr ⊢
 split at hr
 ·exact acallF_mono h hr
 ·cases hr

theorem acallQ_mono {c c':CallF} (h:Le c c') {f:AV} {args:List AV} {H:Hp} {r:AV × Hp} (hr:acallQ C c f args H=some r):acallQ C c' f args H=some r:=by
 unfold acallQ qC at hr ⊢
 split at hr
 ·split at hr
  ·rename_i hq
   rw [if_pos hq]
   exact acall_mono h hr
  ·cases hr
 ·cases hr

theorem aheap_mono {c c':CallF} (h:Le c c') {ev:Operand→AV} {H:Hp} {op:Op} {r:AV × Hp} (hr:aheap C c ev H op=some r):aheap C c' ev H op=some r:=by
 cases op <;> try exact hr
 case makeMap t r=>cases r <;> exact hr
 case call cl =>
  obtain ⟨callee,args,ts⟩:=cl
  cases callee with
  | value f =>
   simp only [aheap] at hr ⊢
   split at hr
   ·rename_i hq
    rw [if_pos hq]
    exact acallQ_mono h hr
   ·rename_i hq
    rw [if_neg hq]
    exact acall_mono h hr
  | invoke r m =>
   simp only [aheap] at hr ⊢
   unfold ainv at hr ⊢
   split at hr
   ·split at hr
    ·exact acall_mono h hr
    ·cases hr
   ·cases hr
  | builtin b=>cases b <;> exact hr

theorem aop_mono {c c':CallF} (h:Le c c') {ev:Operand→AV} {H:Hp} {fl:Bool} {op:Op} {r:AV × Hp} (hr:aop C c ev H fl op=some r):aop C c' ev H fl op=some r:=by
 unfold aop at hr ⊢
 split at hr
 ·exact hr
 ·split at hr
  ·cases hr
  ·rename_i hf
   rw [if_neg hf]
   exact aheap_mono h hr

theorem oStep_mono {c c':CallF} (h:Le c c') {ops:Array Oper} {fl:Bool} {o:Oper} {s r:St} (hr:oStep C c ops fl o s=some r):oStep C c' ops fl o s=some r:=by
 unfold oStep oVal at hr ⊢
 cases hw:awanted ops s.1 o with
 | none=>simp [hw] at hr
 | some b =>
  cases b with
  | false=>simp only [hw] at hr ⊢;exact hr
  | true =>
   simp only [hw] at hr ⊢
   cases ha:aop C c (eval C s.1) s.2 fl o.op with
   | none=>simp [ha] at hr
   | some q=>rw [aop_mono h ha];rw [ha] at hr;exact hr

theorem rStep_mono {c c':CallF} (h:Le c c') {ops:Array Oper} {draw:Bool} {b i:Nat} {o:Oper} {s r:St} (hr:rStep C c ops draw b i o s=some r):rStep C c' ops draw b i o s=some r:=by
 unfold rStep at hr ⊢
 by_cases hl:(draw && lag C ops i)=true
 ·rw [if_pos hl] at hr ⊢;exact hr
 ·rw [if_neg hl] at hr ⊢;exact oStep_mono h hr
theorem execOps_mono {c c':CallF} (h:Le c c') {ops:Array Oper} {draw:Bool} {b:Nat}:∀ (l:List Oper) (i:Nat) (s r:St),execOps C c ops draw b i l s=some r→execOps C c' ops draw b i l s=some r:=by
 intro l
 induction l with
 | nil=>intro i s r hr;exact hr
 | cons o l ih =>
  intro i s r hr
  unfold execOps at hr ⊢
  split at hr
  ·rename_i s' hs
   rw [rStep_mono h hs]
   exact ih _ _ _ hr
  ·cases hr

theorem loopN_mono {f g:St→Option (AExit × St)} (h:∀ s r,f s=some r→g s=some r):∀ (n m:Nat) (s:St) (r:AExit × St),n≤m→loopN f n s=some r→loopN g m s=some r:=by
 intro n
 induction n with
 | zero=>intro m s r _ hr;cases hr
 | succ n ih =>
  intro m s r hm hr
  obtain ⟨m,rfl⟩:∃ k,m=k+1:=⟨m - 1,by omega⟩
  unfold loopN at hr ⊢
  cases hf:f s with
  | none=>simp [hf] at hr
  | some p =>
   rw [h s p hf]
   obtain ⟨e,s'⟩:=p
   cases e with
   | normal=>simp only [hf] at hr ⊢;exact ih m s' r (by omega) hr
   | _=>simpa [hf] using hr

theorem exec_mono {c c':CallF} (h:Le c c') {kp:Nat→Option (List Nat)} {n m:Nat} (hnm:n≤m):∀ (cd:Code) (s:St) (r:AExit × St),exec C c kp n cd s=some r→exec C c' kp m cd s=some r:=by
 intro cd
 induction cd with
 | region id ops draw =>
  intro s r hr
  simp only [exec] at hr ⊢
  split at hr
  ·cases hr
  ·rename_i hd
   rw [if_neg hd]
   split at hr
   ·rename_i s' hs
    rw [execOps_mono h _ _ _ _ hs]
    exact hr
   ·cases hr
 | seq x y ihx ihy =>
  intro s r hr
  simp only [exec] at hr ⊢
  cases hx:exec C c kp n x s with
  | none=>simp [hx] at hr
  | some p =>
   rw [ihx s p hx]
   obtain ⟨e,s'⟩:=p
   cases e with
   | normal=>simp only [hx] at hr ⊢;exact ihy _ _ hr
   | _=>simpa [hx] using hr
 | cond o x y ihx ihy =>
  intro s r hr
  simp only [exec] at hr ⊢
  split at hr
  ·rename_i t ht
   cases t with
   | true=>exact ihx _ _ (by simpa using hr)
   | false=>exact ihy _ _ (by simpa using hr)
  ·cases hr
 | block id x ih =>
  intro s r hr
  simp only [exec] at hr ⊢
  cases hx:exec C c kp n x s with
  | none=>simp [hx] at hr
  | some p=>rw [ih s p hx];rw [hx] at hr;exact hr
 | loop x ih =>
  intro s r hr
  simp only [exec] at hr ⊢
  exact loopN_mono (fun s r=>ih (trim kp x s) r) n m s r hnm hr
 | scope x ih =>
  intro s r hr
  simp only [exec] at hr ⊢
  split at hr
  ·rename_i hg
   rw [if_pos hg]
   exact ih s r hr
  ·cases hr
 | _=>intro s r hr;exact hr

theorem body_mono {c c':CallF} (h:Le c c') {n m:Nat} (hnm:n≤m) {f:FuncId} {fn:Func} {cd:Code} {args:List AV} {H:Hp} {r:AV × Hp} (hr:body C c n f fn cd args H=some r):body C c' m f fn cd args H=some r:=by
 unfold body at hr ⊢
 cases hx:exec C c (C.keep f) n cd (args++List.replicate (fn.ntmps - args.length) .undef,H) with
 | none=>simp [hx] at hr
 | some p=>rw [exec_mono h hnm _ _ _ hx];rw [hx] at hr;exact hr

theorem call_mono:∀ (n m:Nat),n≤m→Le (call C n) (call C m):=by
 intro n
 induction n with
 | zero=>intro m _ f a H r hr;cases hr
 | succ n ih =>
  intro m hm f a H r hr
  obtain ⟨m,rfl⟩:∃ k,m=k+1:=⟨m - 1,by omega⟩
  simp only [call] at hr ⊢
  split at hr
  ·cases hr
  ·rename_i fn hf
   split at hr
   ·cases hr
   ·rename_i cd hb
    exact body_mono (ih m (by omega)) (by omega) hr

open Classical in
noncomputable def lim {α:Type} (f:Nat→Option α):Option α:=if h:∃ n r,f n=some r then some h.choose_spec.choose else none

theorem lim_some {α:Type} {f:Nat→Option α} (hm:∀ n m r,n≤m→f n=some r→f m=some r) {r:α}:lim f=some r ↔ ∃ n,f n=some r:=by
 unfold lim
 constructor
 ·intro h
  split at h
  ·rename_i hx
   injection h with h
   exact ⟨hx.choose,h ▸ hx.choose_spec.choose_spec⟩
  ·cases h
 ·rintro ⟨n,hn⟩
  have hx:∃ n r,f n=some r:=⟨n,r,hn⟩
  rw [dif_pos hx]
  have h1:=hm _ (max hx.choose n) _ (Nat.le_max_left _ _) hx.choose_spec.choose_spec
  have h2:=hm _ (max hx.choose n) _ (Nat.le_max_right _ _) hn
  rw [h1] at h2
  exact h2

noncomputable def callw (C:Cfg):CallF:=fun f a H=>lim fun n=>call C n f a H
theorem callw_some {f:FuncId} {a:List AV} {H:Hp} {r:AV × Hp}:callw C f a H=some r ↔ ∃ n,call C n f a H=some r:=lim_some fun n m r h hr=>call_mono n m h f a H r hr
noncomputable def execw (C:Cfg) (kp:Nat→Option (List Nat)) (c:Code) (s:St):Option (AExit × St):=lim fun n=>exec C (call C n) kp n c s
theorem execw_some {kp:Nat→Option (List Nat)} {c:Code} {s:St} {r:AExit × St}:execw C kp c s=some r ↔ ∃ n,exec C (call C n) kp n c s=some r :=
 lim_some fun n m r h hr=>exec_mono (call_mono n m h) h c s r hr

theorem call_le_callw (n:Nat):Le (call C n) (callw C):=fun _ _ _ _ h=>callw_some.2 ⟨n,h⟩

theorem acallFw {id:FuncId} {args:List AV} {H:Hp} {r:AV × Hp} (h:acallF C (callw C) id args H=some r):∃ n,acallF C (call C n) id args H=some r:=by
 unfold acallF at h
 cases he:C.ext id with
 | some e=>exact ⟨0,by unfold acallF;simpa [he] using h⟩
 | none =>
  cases hsm:C.sum id with
  | some g=>exact ⟨0,by unfold acallF;simpa [he,hsm] using h⟩
  | none =>
  cases hef:C.eff id with
  | some g=>exact ⟨0,by unfold acallF;simpa [he,hsm,hef] using h⟩
  | none =>
  simp only [he,hsm,hef] at h
  by_cases hu:C.user id=true
  ·by_cases hfl:C.flat id=true
   ·simp only [hu,hfl,if_true] at h
    obtain ⟨args',q,q1,q2⟩:=flatC_some h
    obtain ⟨n,hn⟩:=callw_some.1 q1
    exact ⟨n,by unfold acallF;simp only [he,hsm,hef,hu,hfl,if_true];exact q2 _ hn⟩
   ·by_cases hro:C.ro id=true
    ·simp only [hu,hfl,hro,Bool.false_eq_true,if_false,if_true] at h
     obtain ⟨q,q1,q2⟩:=roC_some h
     obtain ⟨n,hn⟩:=callw_some.1 q1
     exact ⟨n,by unfold acallF;simp only [he,hsm,hef,hu,hfl,hro,Bool.false_eq_true,if_false,if_true];exact q2 _ hn⟩
    ·by_cases hgr:C.gro id=true
     ·simp only [hu,hfl,hro,hgr,Bool.false_eq_true,if_false,if_true] at h
      obtain ⟨q,q1,q2⟩:=groC_some h
      obtain ⟨n,hn⟩:=callw_some.1 q1
      exact ⟨n,by unfold acallF;simp only [he,hsm,hef,hu,hfl,hro,hgr,Bool.false_eq_true,if_false,if_true];exact q2 _ hn⟩
     ·simp only [hu,hfl,hro,hgr,Bool.false_eq_true,if_false,if_true] at h
      obtain ⟨n,hn⟩:=callw_some.1 h
      exact ⟨n,by unfold acallF;simp only [he,hsm,hef,hu,hfl,hro,hgr,Bool.false_eq_true,if_false,if_true];exact hn⟩
  ·simp [hu] at h
theorem acallw {f:AV} {args:List AV} {H:Hp} {r:AV × Hp} (h:acall C (callw C) f args H=some r):∃ n,acall C (call C n) f args H=some r:=by
 unfold acall at h
 split at h
 ·exact acallFw h
 ·cases h
theorem acallQw {f:AV} {args:List AV} {H:Hp} {r:AV × Hp} (h:acallQ C (callw C) f args H=some r):∃ n,acallQ C (call C n) f args H=some r:=by
 unfold acallQ qC at h ⊢
 split at h
 ·split at h
  ·rename_i hq
   obtain ⟨n,hn⟩:=acallw h
   exact ⟨n,by rw [if_pos hq];exact hn⟩
  ·cases h
 ·cases h
theorem aheapw {ev:Operand→AV} {H:Hp} {op:Op} {r:AV × Hp} (h:aheap C (callw C) ev H op=some r):∃ n,aheap C (call C n) ev H op=some r:=by
 cases op <;> try exact ⟨0,h⟩
 case makeMap t r=>cases r <;> exact ⟨0,h⟩
 case call cl =>
  obtain ⟨callee,args,ts⟩:=cl
  cases callee with
  | value f =>
   simp only [aheap] at h ⊢
   split at h
   ·rename_i hq
    simp only [if_pos hq]
    exact acallQw h
   ·rename_i hq
    simp only [if_neg hq]
    exact acallw h
  | invoke r m =>
   simp only [aheap] at h ⊢
   unfold ainv at h ⊢
   split at h
   ·split at h
    ·exact acallw h
    ·cases h
   ·cases h
  | builtin b=>cases b <;> exact ⟨0,h⟩
theorem aopw {ev:Operand→AV} {H:Hp} {fl:Bool} {op:Op} {r:AV × Hp} (h:aop C (callw C) ev H fl op=some r):∃ n,aop C (call C n) ev H fl op=some r:=by
 unfold aop at h ⊢
 split at h
 ·exact ⟨0,h⟩
 ·split at h
  ·cases h
  ·rename_i hf
   obtain ⟨n,hn⟩:=aheapw h
   exact ⟨n,by rw [if_neg hf];exact hn⟩
theorem oStepw {ops:Array Oper} {fl:Bool} {o:Oper} {s r:St} (h:oStep C (callw C) ops fl o s=some r):∃ n,oStep C (call C n) ops fl o s=some r:=by
 unfold oStep oVal at h ⊢
 cases hw:awanted ops s.1 o with
 | none=>simp [hw] at h
 | some b =>
  cases b with
  | false=>simp only [hw] at h ⊢;exact ⟨0,h⟩
  | true =>
   simp only [hw] at h ⊢
   cases ha:aop C (callw C) (eval C s.1) s.2 fl o.op with
   | none=>simp [ha] at h
   | some q =>
    obtain ⟨n,hn⟩:=aopw ha
    exact ⟨n,by rw [hn];rw [ha] at h;exact h⟩
theorem rStepw {ops:Array Oper} {draw:Bool} {b i:Nat} {o:Oper} {s r:St} (h:rStep C (callw C) ops draw b i o s=some r):∃ n,rStep C (call C n) ops draw b i o s=some r:=by
 unfold rStep at h ⊢
 by_cases hl:(draw && lag C ops i)=true
 ·rw [if_pos hl] at h
  simp only [if_pos hl]
  exact ⟨0,h⟩
 ·rw [if_neg hl] at h
  simp only [if_neg hl]
  exact oStepw h
theorem execOpsw {ops:Array Oper} {draw:Bool} {b:Nat}:∀ (l:List Oper) (i:Nat) (s r:St),execOps C (callw C) ops draw b i l s=some r→∃ n,execOps C (call C n) ops draw b i l s=some r:=by
 intro l
 induction l with
 | nil=>intro i s r h;exact ⟨0,h⟩
 | cons o l ih =>
  intro i s r h
  unfold execOps at h
  split at h
  ·rename_i s' hs
   obtain ⟨n,hn⟩:=rStepw hs
   obtain ⟨m,hm⟩:=ih _ _ _ h
   refine ⟨max n m,?_⟩
   unfold execOps
   rw [rStep_mono (call_mono n _ (Nat.le_max_left n m)) hn]
   exact execOps_mono (call_mono m _ (Nat.le_max_right n m)) _ _ _ _ hm
  ·cases h

section
variable {kp:Nat→Option (List Nat)}

theorem execw_region (id : Nat) (ops : Array Oper) (draw : Bool) (s : St) : execw C kp (.region id ops draw) s =
    if draw && !(orderOk ops && farAll C ops (eval C (frzs kp id s).1)) then none else match execOps C (callw C) ops draw (frzs kp id s).2.length 0 ops.toList ((frzs kp id s).1,resvH (if draw then lags C ops ops.size else 0) (frzs kp id s).2) with
     | some s'=>some (.normal,s')
     | none=>none:=by
 apply Option.ext
 intro r
 rw [execw_some]
 constructor
 ·rintro ⟨n,hn⟩
  simp only [exec] at hn
  split at hn
  ·cases hn
  ·rename_i hd
   rw [if_neg hd]
   split at hn
   ·rename_i s' hs
    rw [execOps_mono (call_le_callw n) _ _ _ _ hs]
    exact hn
   ·cases hn
 ·intro h
  split at h
  ·cases h
  ·rename_i hd
   split at h
   ·rename_i s' hs
    obtain ⟨n,hn⟩:=execOpsw _ _ _ _ hs
    exact ⟨n,by simp only [exec];rw [if_neg hd,hn];exact h⟩
   ·cases h

theorem execw_seq (a b : Code) (s : St) : execw C kp (.seq a b) s = match execw C kp a s with
    | some (.normal,s')=>execw C kp b (trim kp b s')
    | r=>r:=by
 apply Option.ext
 intro r
 rw [execw_some]
 constructor
 ·rintro ⟨n,hn⟩
  simp only [exec] at hn
  cases hx:exec C (call C n) kp n a s with
  | none=>simp [hx] at hn
  | some p =>
   rw [execw_some.2 ⟨n,hx⟩]
   obtain ⟨e,s'⟩:=p
   cases e with
   | normal=>simp only [hx] at hn ⊢;exact execw_some.2 ⟨n,hn⟩
   | _=>simpa [hx] using hn
 ·intro h
  cases hx:execw C kp a s with
  | none=>simp [hx] at h
  | some p =>
   obtain ⟨n,hn⟩:=execw_some.1 hx
   obtain ⟨e,s'⟩:=p
   cases e with
   | normal =>
    simp only [hx] at h
    obtain ⟨m,hm⟩:=execw_some.1 h
    refine ⟨max n m,?_⟩
    simp only [exec]
    rw [exec_mono (call_mono n _ (Nat.le_max_left n m)) (Nat.le_max_left n m) _ _ _ hn]
    exact exec_mono (call_mono m _ (Nat.le_max_right n m)) (Nat.le_max_right n m) _ _ _ hm
   | _=>exact ⟨n,by simp only [exec];rw [hn];simpa [hx] using h⟩

theorem execw_cond (o : Operand) (x y : Code) (s : St) : execw C kp (.cond o x y) s = match eval C s.1 o with
    | .bool t=>if t then execw C kp x s else execw C kp y s
    | _=>none:=by
 apply Option.ext
 intro r
 rw [execw_some]
 simp only [exec]
 generalize eval C s.1 o=v
 cases v with
 | bool t=>cases t <;> simp [execw_some]
 | _=>simp

theorem execw_block (id : Nat) (c : Code) (s : St) : execw C kp (.block id c) s = match execw C kp c s with
    | some (.exit i,s')=>if i=id then some (.normal,s') else some (.exit i,s')
    | r=>r:=by
 apply Option.ext
 intro r
 rw [execw_some]
 constructor
 ·rintro ⟨n,hn⟩
  simp only [exec] at hn
  cases hx:exec C (call C n) kp n c s with
  | none=>simp [hx] at hn
  | some p=>rw [execw_some.2 ⟨n,hx⟩];rw [hx] at hn;exact hn
 ·intro h
  cases hx:execw C kp c s with
  | none=>simp [hx] at h
  | some p =>
   obtain ⟨n,hn⟩:=execw_some.1 hx
   exact ⟨n,by simp only [exec];rw [hn];rw [hx] at h;exact h⟩

theorem execw_scope (c:Code) (s:St):execw C kp (.scope c) s=if noGoto c then execw C kp c s else none:=by
 apply Option.ext
 intro r
 rw [execw_some]
 simp only [exec]
 by_cases hg:noGoto c=true
 ·simp only [hg,if_true];rw [execw_some]
 ·simp [hg]

theorem execw_loop (c : Code) (s : St) : execw C kp (.loop c) s = match execw C kp c (trim kp c s) with
    | some (.normal,s')=>execw C kp (.loop c) s'
    | r=>r:=by
 apply Option.ext
 intro r
 rw [execw_some]
 constructor
 ·rintro ⟨n,hn⟩
  simp only [exec] at hn
  cases n with
  | zero=>cases hn
  | succ n =>
   unfold loopN at hn
   cases hx:exec C (call C (n+1)) kp (n+1) c (trim kp c s) with
   | none=>simp [hx] at hn
   | some p =>
    rw [execw_some.2 ⟨n+1,hx⟩]
    obtain ⟨e,s'⟩:=p
    cases e with
    | normal =>
     simp only [hx] at hn ⊢
     refine execw_some.2 ⟨n+1,?_⟩
     simp only [exec]
     exact loopN_mono (fun s r h=>h) n (n+1) s' r (Nat.le_succ _) hn
    | _=>simpa [hx] using hn
 ·intro h
  cases hx:execw C kp c (trim kp c s) with
  | none=>simp [hx] at h
  | some p =>
   obtain ⟨n,hn⟩:=execw_some.1 hx
   obtain ⟨e,s'⟩:=p
   cases e with
   | normal =>
    simp only [hx] at h
    obtain ⟨m,hm⟩:=execw_some.1 h
    simp only [exec] at hm
    have hm1:=Nat.le_max_left n m
    have hm2:=Nat.le_max_right n m
    refine ⟨max n m+1,?_⟩
    simp only [exec]
    unfold loopN
    rw [exec_mono (call_mono n (max n m+1) (by omega)) (m:=max n m+1) (by omega) _ _ _ hn]
    exact loopN_mono (fun s r h=>exec_mono (call_mono m (max n m+1) (by omega)) (by omega) _ _ _ h) m (max n m) s' r hm2 hm
   | _ =>
    simp only [hx] at h
    refine ⟨n+1,?_⟩
    simp only [exec]
    unfold loopN
    rw [exec_mono (call_mono n (n+1) (by omega)) (m:=n+1) (by omega) _ _ _ hn]
    exact h

theorem execw_skip (s:St):execw C kp .skip s=some (.normal,s):=execw_some.2 ⟨0,rfl⟩
theorem execw_label (l:Nat) (s:St):execw C kp (.label l) s=some (.normal,s):=execw_some.2 ⟨0,rfl⟩
theorem execw_exit (i:Nat) (s:St):execw C kp (.exit i) s=some (.exit i,s):=execw_some.2 ⟨0,rfl⟩
theorem execw_goto (i:Nat) (s:St):execw C kp (.goto i) s=some (.goto i,s):=execw_some.2 ⟨0,rfl⟩
theorem execw_ret (s:St):execw C kp .ret s=some (.ret,s):=execw_some.2 ⟨0,rfl⟩
theorem execw_none {c:Code} {s:St} (h:∀ n,exec C (call C n) kp n c s=none):execw C kp c s=none:=by
 cases hx:execw C kp c s with
 | none=>rfl
 | some r=>obtain ⟨n,hn⟩:=execw_some.1 hx;rw [h n] at hn;cases hn
end

theorem callw_eq {f : FuncId} {fn : Func} {c : Code} (hf : C.P.funcs[f]? = some fn) (hb : codeOf C f fn = some c) (args : List AV) (H : Hp) : callw C f args H =
    match execw C (C.keep f) c (args++List.replicate (fn.ntmps - args.length) .undef,H) with
    | some (.normal,s) | some (.ret,s)=>match resVal C fn s with
     | some v=>leave C f H (v,s.2)
     | none=>none
    | _=>none:=by
 apply Option.ext
 intro r
 rw [callw_some]
 constructor
 ·rintro ⟨n,hn⟩
  cases n with
  | zero=>cases hn
  | succ n =>
   simp only [call,hf,hb] at hn
   unfold body at hn
   cases hx:exec C (call C n) (C.keep f) n c (args++List.replicate (fn.ntmps - args.length) .undef,H) with
   | none=>simp [hx] at hn
   | some p=>rw [execw_some.2 ⟨n,hx⟩];rw [hx] at hn;exact hn
 ·intro h
  cases hx:execw C (C.keep f) c (args++List.replicate (fn.ntmps - args.length) .undef,H) with
  | none=>simp [hx] at h
  | some p =>
   obtain ⟨n,hn⟩:=execw_some.1 hx
   refine ⟨n+1,?_⟩
   simp only [call,hf,hb]
   unfold body
   rw [hn]
   rw [hx] at h
   exact h

theorem callw_sound {W0:World} (hC:okCfg C):CallsOk C W0 (callw C):=by
 intro W1 f args H H' v h S args' hI hG hs ha
 obtain ⟨n,hn⟩:=callw_some.1 h
 exact call_sound (W0:=W1) hC n f args H H' v hn S args' hI hG hs ha
end
end Go.Am
namespace Go.Am
open RowKit

abbrev Res:=Option (AV × Hp)
abbrev Kt:=AExit→St→Res

def bnd {α β:Type} (x:Option α) (f:α→Option β):Option β :=
 match x with
 | some a=>f a
 | none=>none
def cnd (c:AV) (x y:Res):Res :=
 match c with
 | .bool t=>if t then x else y
 | _=>none
def gdv {α:Type} (g:AV) (want:Bool) (els:α) (x:Option α):Option α :=
 match g with
 | .bool b=>if b == want then x else some els
 | .undef=>none
 | _=>some els
def gval {α:Type} (ops:Array Oper) (tm:List AV) (o:Oper) (els:α) (x:Option α):Option α :=
 match o.guard with
 | none=>x
 | some (j,want)=>match (match ops[j]? with | some g=>g.dst | none=>none) with
  | none=>some els
  | some d=>match tm[d]? with
   | some g=>gdv g want els x
   | none=>some els

def convK (C:Cfg) (s d:TypeId):Nat :=
 match C.P.underlying s,C.P.underlying d with
 | some (.slice _),some .string=>1
 | some .string,some (.slice _)=>if C.wrb d then 2 else 0
 | _,_=>0
def lenK (C:Cfg) (ts:List TypeId):Nat :=
 match ts with
 | [t]=>match mapT C.P t with
  | some _=>1
  | none=>0
 | _=>0
def kindOf (C:Cfg):Op→Nat
 | .call { callee:=.builtin .len,argTypes,.. }=>lenK C argTypes.toList
 | .call { callee:=.builtin .delete,.. }=>2
 | .convert s d _=>convK C s d
 | .load _ _=>1
 | .lookup _ _ _ _=>1
 | .alloc _ | .box _ _ | .store _ _ _ | .makeSlice _ _ _=>2
 | .makeMap _ _ | .mapUpdate _ _ _ _ | .insert _ _ _ _=>2
 | .call { callee:=.value _,.. }=>2
 | .call { callee:=.invoke _ _,.. }=>2
 | .call { callee:=.builtin .append,.. }=>2
 | .call { callee:=.builtin .copy,.. }=>2
 | _=>0
def cvRd (x:AV) (H:Hp):Option AV :=
 match cvOfBytes x with
 | some v=>some v
 | none=>match elemsS x H with
  | some l=>match bytesOf l with
   | some s=>some (.str s)
   | none=>none
  | none=>none
def aread (C:Cfg) (ev:Operand→AV) (H:Hp):Op→Option AV
 | .load t a=>match isAggT C.P t,szT C.P t with
  | some g,some sz=>aload g sz (ev a) H
  | _,_=>none
 | .lookup t x k ck=>match mapT C.P t with
  | some (d,e)=>match zeroT C.P e with
   | some z=>alookup d z ck (ev x) (ev k) H
   | none=>none
  | none=>none
 | .convert s d x=>match C.P.underlying s,C.P.underlying d with
  | some (.slice e),some .string=>if isU8 (C.P.underlying e) then cvRd (ev x) H else none
  | _,_=>none
 | .call { callee:=.builtin .len,args,argTypes }=>match args.toList,argTypes.toList with
  | [x],[t]=>match mapT C.P t with
   | some _=>alenM (ev x) H
   | none=>none
  | _,_=>none
 | _=>none

def cxOp (C:Cfg) (CL:CallF) (ops:Array Oper) (fl:Bool) (o:Oper) (k:St→Res) (tm:List AV) (H:Hp):Res :=
 match (if fl then 0 else kindOf C o.op) with
 | 0=>bnd (gval ops tm o (.tuple []) (apure C (eval C tm) o.op)) fun v=>k (aput tm o.dst v,H)
 | 1=>bnd (gval ops tm o (.tuple []) (aread C (eval C tm) H o.op)) fun v=>k (aput tm o.dst v,H)
 | _=>bnd (gval ops tm o (.tuple [],H) (aheap C CL (eval C tm) H o.op)) fun r=>k (aput tm o.dst r.1,r.2)
def cxOps (C:Cfg) (CL:CallF) (ops:Array Oper) (draw:Bool) (b:Nat):Nat→List Oper→(St→Res)→St→Res
 | _,[],k,s=>k s
 | i,o :: rest,k,s=>if draw && lag C ops i then (if floats C ops i then none else bnd (alag (b+lags C ops i) (lagV C (eval C s.1) o.op) s.2) fun r=>cxOps C CL ops draw b (i+1) rest k (aput s.1 o.dst r.1,r.2))
  else cxOp C CL ops (draw && floats C ops i) o (cxOps C CL ops draw b (i+1) rest k) s.1 s.2

abbrev seqK (g:St→Res) (k:Kt):Kt:=fun e s =>
 match e with
 | .normal=>g s
 | e=>k e s
abbrev blockK (id:Nat) (k:Kt):Kt:=fun e s =>
 match e with
 | .exit i=>if i=id then k .normal s else k (.exit i) s
 | e=>k e s

def CX (C:Cfg) (CL:CallF) (LP:Code→Kt→St→Res) (kp:Nat→Option (List Nat)):Code→Kt→St→Res
 | .skip,k,s=>k .normal s
 | .region id ops draw,k,s=>if draw && !(orderOk ops && farAll C ops (eval C (frzs kp id s).1)) then none else cxOps C CL ops draw (frzs kp id s).2.length 0 ops.toList (fun s'=>k .normal s') ((frzs kp id s).1,resvH (if draw then lags C ops ops.size else 0) (frzs kp id s).2)
 | .seq a b,k,s=>CX C CL LP kp a (seqK (fun s'=>CX C CL LP kp b k (trim kp b s')) k) s
 | .cond c x y,k,s=>cnd (eval C s.1 c) (CX C CL LP kp x k s) (CX C CL LP kp y k s)
 | .block id c,k,s=>CX C CL LP kp c (blockK id k) s
 | .loop c,k,s=>LP c k (trim kp c s)
 | .scope c,k,s=>if noGoto c then CX C CL LP kp c k s else none
 | .exit id,k,s=>k (.exit id) s
 | .label _,k,s=>k .normal s
 | .goto l,k,s=>k (.goto l) s
 | .ret,k,s=>k .ret s
 | _,_,_=>none

noncomputable def LPw (C:Cfg) (kp:Nat→Option (List Nat)) (c:Code) (k:Kt) (s:St):Res:=bnd (execw C kp (.loop c) s) fun p=>k p.1 p.2

def sub:Code→List Nat→Code
 | .seq a _,0 :: p=>sub a p
 | .seq _ b,1 :: p=>sub b p
 | .cond _ x _,0 :: p=>sub x p
 | .cond _ _ y,1 :: p=>sub y p
 | .block _ c,0 :: p=>sub c p
 | .loop c,0 :: p=>sub c p
 | .scope c,0 :: p=>sub c p
 | c,_=>c
def bodyOf (fn:Func):Code :=
 match fn.body with
 | some c=>c
 | none=>.skip
theorem lookup_mem {α β:Type} [BEq α] [LawfulBEq α] {l:List (α × β)} {a:α} {b:β} (h:l.lookup a=some b):(a,b) ∈ l:=by
 induction l with
 | nil=>simp at h
 | cons x l ih =>
  obtain ⟨c,d⟩:=x
  simp only [List.lookup_cons] at h
  split at h
  ·rename_i he
   injection h with h
   subst h
   rw [eq_of_beq he]
   simp
  ·exact List.mem_cons_of_mem _ (ih h)
def UserOk (P:Program) (f:Nat):Prop:=∀ (args:Array Value) (w:World),(callFunc f args).run P w=.ok (.enter f args) w
theorem userOk_nil {P:Program}:∀ f ∈ ([]:List Nat),UserOk P f:=fun _ h=>by cases h
theorem userOk_cons {P:Program} {f:Nat} {l:List Nat} (h:UserOk P f) (t:∀ g ∈ l,UserOk P g):∀ g ∈ f :: l,UserOk P g:=fun g hg=>by
 rcases List.mem_cons.1 hg with rfl | hg
 ·exact h
 ·exact t g hg
def keepTab (l:List (Nat × List (Nat × List Nat))) (f r:Nat):Option (List Nat) :=
 match l.lookup f with
 | some m=>m.lookup r
 | none=>none

section
variable {C:Cfg} {kp:Nat→Option (List Nat)}

theorem keepFrom_idem (keep:List Nat):∀ (l:List AV) (i:Nat),keepFrom keep i (keepFrom keep i l)=keepFrom keep i l:=by
 intro l
 induction l with
 | nil=>intro i;rfl
 | cons a l ih =>
  intro i
  simp only [keepFrom,ih]
  split <;> simp_all
theorem trim_idem (c:Code) (s:St):trim kp c (trim kp c s)=trim kp c s:=by
 unfold trim
 cases firstRegion c with
 | none=>rfl
 | some r =>
  simp only
  cases kp r with
  | none=>rfl
  | some keep=>simp [keepFrom_idem]
theorem LPw_trim (c:Code) (k:Kt) (s:St):LPw C kp c k (trim kp c s)=LPw C kp c k s:=by
 unfold LPw
 rw [execw_loop,execw_loop (s:=s),trim_idem]

theorem map_pair {x:Option AV} {H:Hp}:x.map (fun v=>(v,H))=bnd x fun v=>some (v,H):=by cases x <;> rfl
theorem aop_lookup {CL:CallF} {ev:Operand→AV} {H:Hp} {t:TypeId} {x q:Operand} {ck:Bool}:aop C CL ev H false (.lookup t x q ck)=(bnd (aread C ev H (.lookup t x q ck)) fun v=>some (v,H)):=by
 simp only [aop,apure,aheap,aread,Bool.false_eq_true,if_false]
 cases mapT C.P t with
 | none=>rfl
 | some p =>
  obtain ⟨d,e⟩:=p
  simp only
  cases zeroT C.P e with
  | none=>rfl
  | some z=>simp only;cases alookup d z ck (ev x) (ev q) H <;> rfl
theorem aop_load {CL:CallF} {ev:Operand→AV} {H:Hp} {t:TypeId} {a:Operand}:aop C CL ev H false (.load t a)=bnd (aread C ev H (.load t a)) fun v=>some (v,H):=by
 unfold aop
 simp only [apure,aread,aheap]
 cases isAggT C.P t with
 | none=>rfl
 | some g =>
  cases szT C.P t with
  | none=>rfl
  | some sz =>
   simp only [Bool.false_eq_true,if_false]
   rw [map_pair]
   cases ev a <;> first
    | rfl
    | (simp only [aloadv,aload];generalize apart g sz _ 0=x;cases x <;> rfl)

theorem aop_conv {CL:CallF} {ev:Operand→AV} {H:Hp} {s d:TypeId} {x:Operand} (h:convK C s d=1):aop C CL ev H false (.convert s d x)=bnd (aread C ev H (.convert s d x)) fun v=>some (v,H):=by
 unfold convK at h
 split at h
 ·rename_i e hs hd
  unfold aop
  simp only [apure,aread,aheap,aconv,hs,hd,Bool.false_eq_true,if_false]
  cases isU8 (C.P.underlying e) with
  | false=>rfl
  | true =>
   simp only [if_true]
   unfold cvRd cvStrH
   cases cvOfBytes (ev x) with
   | some v=>rfl
   | none =>
    simp only
    cases elemsS (ev x) H with
    | none=>rfl
    | some l=>simp only;cases bytesOf l <;> rfl
 ·split at h <;> cases h
 ·cases h
theorem alen_map {t:TypeId} {p:TypeDesc × TypeId} {x:AV} (h:mapT C.P t=some p):alen C.P t x=none:=by
 obtain ⟨d,e⟩:=p
 obtain ⟨k,h1,_⟩:=mapT_of h
 unfold alen
 rw [h1]
 rfl
theorem aop_len {CL:CallF} {ev:Operand→AV} {H:Hp} {args:Array Operand} {ts:Array TypeId} (h:lenK C ts.toList=1):aop C CL ev H false (.call { callee:=.builtin .len,args:=args,argTypes:=ts })=bnd (aread C ev H (.call { callee:=.builtin .len,args:=args,argTypes:=ts })) fun v=>some (v,H):=by
 unfold aop
 simp only [apure,aread,aheap,Bool.false_eq_true,if_false]
 unfold lenK at h
 split at h
 ·rename_i t ht
  split at h
  ·rename_i p hp
   rw [ht]
   cases args.toList with
   | nil=>rfl
   | cons x l =>
    cases l with
    | nil =>
     simp only [alen_map hp,hp]
     exact map_pair
    | cons y l=>rfl
  ·cases h
 ·cases h
theorem aheap_len {CL:CallF} {ev:Operand→AV} {H:Hp} {args:Array Operand} {ts:Array TypeId} (h:lenK C ts.toList=0):aheap C CL ev H (.call { callee:=.builtin .len,args:=args,argTypes:=ts })=none:=by
 simp only [aheap]
 unfold lenK at h
 split
 ·rename_i x t hx ht
  rw [ht] at h
  simp only at h
  split at h
  ·cases h
  ·rename_i hm
   rw [hm]
 ·rfl
theorem lenK_le (ts:List TypeId):lenK C ts=0 ∨ lenK C ts=1:=by
 unfold lenK
 split
 ·split
  ·exact .inr rfl
  ·exact .inl rfl
 ·exact .inl rfl
theorem aheap_zero {CL:CallF} {ev:Operand→AV} {H:Hp} {op:Op} (h:kindOf C op=0):aheap C CL ev H op=none:=by
 cases op with
 | call c =>
  obtain ⟨callee,args,ts⟩:=c
  cases callee with
  | value f=>simp [kindOf] at h
  | invoke r m=>simp [kindOf] at h
  | builtin b=>cases b <;> first | rfl | (exact aheap_len h) | (simp [kindOf] at h;done)
 | convert s d x =>
  simp only [kindOf,convK] at h
  simp only [aheap]
  split at h
  ·cases h
  ·rename_i e hs hd
   split at h
   ·cases h
   ·rename_i hw
    simp only [hs,hd,Bool.eq_false_iff.2 hw,Bool.false_and]
    rfl
  ·rename_i h1 h2
   split
   ·rename_i e hs hd;exact absurd hd (h1 _ hs)
   ·rename_i e hs hd;exact absurd hd (h2 _ hs)
   ·rfl
 | _=>first | rfl | (simp [kindOf] at h;done)
theorem apure_two {ev:Operand→AV} {op:Op} (h:kindOf C op=2):apure C ev op=none:=by
 cases op with
 | call c =>
  obtain ⟨callee,args,ts⟩:=c
  cases callee with
  | value f=>rfl
  | invoke r m=>rfl
  | builtin b =>
   cases b <;> first
    | rfl
    | (simp [kindOf] at h;done)
    | (simp only [kindOf] at h;rcases lenK_le (C:=C) ts.toList with e | e <;> (rw [e] at h;cases h))
 | convert s d x =>
  simp only [kindOf,convK] at h
  split at h
  ·cases h
  ·rename_i e hs hd
   split at h
   ·rename_i hw
    simp only [apure,aconv,hs,hd,hw,if_true]
    split <;> rfl
   ·cases h
  ·cases h
 | _=>first | rfl | (simp [kindOf] at h;done)
theorem convK_le (s d:TypeId):convK C s d=0 ∨ convK C s d=1 ∨ convK C s d=2:=by
 unfold convK
 split
 ·simp
 ·split <;> simp
 ·simp
theorem kindOf_le (op:Op):kindOf C op=0 ∨ kindOf C op=1 ∨ kindOf C op=2:=by
 unfold kindOf
 split <;> first | exact convK_le _ _ | (rcases lenK_le (C:=C) _ with h | h <;> rw [h] <;> simp) | simp

theorem aop_flag {CL:CallF} {ev:Operand→AV} {H:Hp} {op:Op}:aop C CL ev H true op=bnd (apure C ev op) fun v=>some (v,H):=by
 unfold aop
 cases apure C ev op <;> rfl

theorem gval_eq {α : Type} {ops : Array Oper} {tm : List AV} {o : Oper} {els : α} {x : Option α} : gval ops tm o els x = match awanted ops tm o with
    | none=>none
    | some false=>some els
    | some true=>x:=by
 unfold gval awanted
 cases o.guard with
 | none=>rfl
 | some p =>
  obtain ⟨j,want⟩:=p
  simp only
  cases ops[j]? with
  | none=>rfl
  | some g =>
   simp only
   cases g.dst with
   | none=>rfl
   | some d =>
    simp only
    cases tm[d]? with
    | none=>rfl
    | some g =>
     cases g with
     | bool b=>simp only [gdv];cases (b == want) <;> rfl
     | _=>rfl

theorem oStep_cx {CL:CallF} {ops:Array Oper} {fl:Bool} {o:Oper} {k:St→Res} {s:St}:bnd (oStep C CL ops fl o s) k=cxOp C CL ops fl o k s.1 s.2:=by
 obtain ⟨tm,H⟩:=s
 have hp : ∀ (r : Res), aop C CL (eval C tm) H fl o.op = r →
     bnd (oStep C CL ops fl o (tm,H)) k=bnd (gval ops tm o (.tuple [],H) r) fun r=>k (aput tm o.dst r.1,r.2):=by
  intro r hr
  unfold oStep oVal
  rw [gval_eq]
  cases awanted ops tm o with
  | none=>rfl
  | some b =>
   cases b with
   | false=>rfl
   | true=>simp only [hr];cases r <;> rfl
 have val : ∀ (r : Option AV), aop C CL (eval C tm) H fl o.op = (bnd r fun v => some (v, H)) →
     bnd (oStep C CL ops fl o (tm,H)) k=bnd (gval ops tm o (.tuple []) r) fun v=>k (aput tm o.dst v,H):=by
  intro r hr
  rw [hp _ hr,gval_eq,gval_eq]
  cases awanted ops tm o with
  | none=>rfl
  | some b =>
   cases b with
   | false=>rfl
   | true=>cases r <;> rfl
 unfold cxOp
 cases fl with
 | true =>
  simp only [if_true]
  exact val _ aop_flag
 | false =>
  simp only [Bool.false_eq_true,if_false]
  rcases kindOf_le (C:=C) o.op with h | h | h
  ·rw [h]
   refine val _ ?_
   unfold aop
   have h0:=aheap_zero (C:=C) (CL:=CL) (ev:=eval C tm) (H:=H) h
   cases apure C (eval C tm) o.op with
   | none=>simp only [Bool.false_eq_true,if_false];rw [h0];rfl
   | some v=>rfl
  ·rw [h]
   cases hop:o.op with
   | load t a=>exact val _ (by rw [hop];exact aop_load)
   | lookup t x q ck=>exact val _ (by rw [hop];exact aop_lookup)
   | convert s d x=>exact val _ (by rw [hop];rw [hop] at h;exact aop_conv h)
   | call c =>
    rw [hop] at h
    obtain ⟨callee,args,ts⟩:=c
    cases callee with
    | value f=>simp [kindOf] at h
    | invoke r m=>simp [kindOf] at h
    | builtin b=>cases b <;> first | (simp [kindOf] at h;done) | (exact val _ (by rw [hop];exact aop_len h))
   | _=>rw [hop] at h;simp [kindOf] at h
  ·rw [h]
   refine hp _ ?_
   unfold aop
   rw [apure_two h]
   rfl

theorem execOps_cx {CL:CallF} {ops:Array Oper} {draw:Bool} {b:Nat} {k:St→Res}:∀ (l:List Oper) (i:Nat) (s:St),bnd (execOps C CL ops draw b i l s) k=cxOps C CL ops draw b i l k s:=by
 intro l
 induction l with
 | nil=>intro i s;rfl
 | cons o l ih =>
  intro i s
  unfold execOps cxOps rStep
  by_cases hl:(draw && lag C ops i)=true
  ·rw [if_pos hl,if_pos hl]
   by_cases hf:floats C ops i=true
   ·rw [if_pos hf,if_pos hf];rfl
   ·rw [if_neg hf,if_neg hf]
    cases alag (b+lags C ops i) (lagV C (eval C s.1) o.op) s.2 with
    | none=>rfl
    | some p=>exact ih (i+1) _
  ·rw [if_neg hl,if_neg hl,← oStep_cx]
   cases oStep C CL ops (draw && floats C ops i) o s with
   | none=>rfl
   | some s'=>exact ih (i+1) s'

theorem cx_eq:∀ (c:Code) (k:Kt) (s:St),CX C (callw C) (LPw C kp) kp c k s=bnd (execw C kp c s) fun p=>k p.1 p.2:=by
 intro c
 induction c with
 | skip=>intro k s;rw [execw_skip];rfl
 | region id ops draw =>
  intro k s
  rw [execw_region]
  simp only [CX]
  split
  ·rfl
  ·rw [← execOps_cx]
   cases execOps C (callw C) ops draw (frzs kp id s).2.length 0 ops.toList ((frzs kp id s).1,resvH (if draw then lags C ops ops.size else 0) (frzs kp id s).2) <;> rfl
 | seq a b iha ihb =>
  intro k s
  rw [execw_seq]
  simp only [CX]
  rw [iha]
  cases execw C kp a s with
  | none=>rfl
  | some p =>
   obtain ⟨e,s'⟩:=p
   cases e with
   | normal=>simp only [bnd,seqK];rw [ihb];rfl
   | _=>rfl
 | cond c x y ihx ihy =>
  intro k s
  rw [execw_cond]
  simp only [CX]
  rw [ihx,ihy]
  cases eval C s.1 c with
  | bool t=>cases t <;> rfl
  | _=>rfl
 | block id c ih =>
  intro k s
  rw [execw_block]
  simp only [CX]
  rw [ih]
  cases execw C kp c s with
  | none=>rfl
  | some p =>
   obtain ⟨e,s'⟩:=p
   cases e with
   | exit i =>
    simp only [bnd,blockK]
    split <;> rfl
   | _=>rfl
 | loop c _ =>
  intro k s
  simp only [CX]
  rw [LPw_trim]
  rfl
 | rangeFunc f p x y _ _=>intro k s;simp only [CX];rw [execw_none (fun n=>rfl)];rfl
 | exit id=>intro k s;rw [execw_exit];rfl
 | scope c ih =>
  intro k s
  rw [execw_scope]
  simp only [CX]
  split
  ·exact ih k s
  ·rfl
 | label l=>intro k s;rw [execw_label];rfl
 | goto l=>intro k s;rw [execw_goto];rfl
 | ret=>intro k s;rw [execw_ret];rfl
 | refuse s=>intro k s;simp only [CX];rw [execw_none (fun n=>rfl)];rfl

theorem LPw_eq (c:Code) (k:Kt) (s:St):LPw C kp c k s=CX C (callw C) (LPw C kp) kp c (seqK (fun s'=>LPw C kp c k (trim kp c s')) k) (trim kp c s):=by
 rw [cx_eq]
 unfold LPw
 rw [execw_loop]
 cases execw C kp c (trim kp c s) with
 | none=>rfl
 | some p =>
  obtain ⟨e,s'⟩:=p
  cases e with
  | normal =>
   show bnd (execw C kp (.loop c) s') _=bnd (execw C kp (.loop c) (trim kp c s')) _
   rw [execw_loop,execw_loop (s:=trim kp c s'),trim_idem]
  | _=>rfl

def resK (C:Cfg):List ResultVar→St→List AV→(List AV→Res)→Res
 | [],_,acc,k=>k acc
 | r :: rs,s,acc,k=>bnd (resOne C s r) fun v=>resK C rs s (acc++[v]) k
noncomputable def leaveL (C:Cfg) (f:FuncId) (H0:Hp) (H:Hp):List AV→Res
 | [v]=>leave C f H0 (v,H)
 | l=>leave C f H0 (.tuple l,H)
noncomputable abbrev retK (C:Cfg) (f:FuncId) (fn:Func) (H0:Hp):Kt:=fun e s =>
 match e with
 | .normal=>resK C fn.results.toList s [] (leaveL C f H0 s.2)
 | .ret=>resK C fn.results.toList s [] (leaveL C f H0 s.2)
 | _=>none

theorem resK_eq (s:St) (k:List AV→Res):∀ (rs:List ResultVar) (acc:List AV),resK C rs s acc k=bnd (rs.mapM (resOne C s)) fun l=>k (acc++l):=by
 intro rs
 induction rs with
 | nil=>intro acc;simp [resK,bnd]
 | cons r rs ih =>
  intro acc
  rw [List.mapM_cons]
  unfold resK
  cases resOne C s r with
  | none=>rfl
  | some v =>
   simp only [bnd]
   rw [ih]
   cases rs.mapM (resOne C s) with
   | none=>rfl
   | some l=>simp [bnd]

theorem callw_cx {f : FuncId} {fn : Func} {c : Code} (hf : C.P.funcs[f]? = some fn) (hb : codeOf C f fn = some c) (args : List AV) (H : Hp) :
    callw C f args H=CX C (callw C) (LPw C (C.keep f)) (C.keep f) c (retK C f fn H) (args++List.replicate (fn.ntmps - args.length) .undef,H):=by
 rw [callw_eq hf hb,cx_eq]
 have key:∀ s:St,(match resVal C fn s with | some v=>leave C f H (v,s.2) | none=>none)=resK C fn.results.toList s [] (leaveL C f H s.2):=by
  intro s
  rw [resK_eq]
  unfold resVal
  cases fn.results.toList.mapM (resOne C s) with
  | none=>rfl
  | some l =>
   match l with
   | []=>rfl
   | [v]=>rfl
   | a :: b :: l=>rfl
 cases execw C (C.keep f) c (args++List.replicate (fn.ntmps - args.length) .undef,H) with
 | none=>rfl
 | some p =>
  obtain ⟨e,s⟩:=p
  cases e with
  | normal=>exact key s
  | ret=>exact key s
  | _=>rfl
end
end Go.Am
