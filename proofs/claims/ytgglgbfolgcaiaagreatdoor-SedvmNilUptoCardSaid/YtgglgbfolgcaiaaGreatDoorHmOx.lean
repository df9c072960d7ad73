/-
  THE ABSTRACT MACHINE, part O: calls are sound.
-/
import Derived.Test.YtgglgbfolgcaiaaGreatDoorHmMx
namespace Go.Am
open RowKit

section
variable {C:Cfg} {W0:World}

theorem run_loadVar_addr {P:Program} {t:TypeId} {u:Value} {ad:Addr} {v:Value} {w:World} (hu:u=.pointer (some ad)) (h:(loadVar t ad).run P w=.ok v w):(do loadVar t (← asAddr u):Sem Value).run P w=.ok v w:=by
 subst hu
 simp [asAddr,h]

def runRes (tmps:Array Value):ResultVar→Sem Value
 | .tmp t=>pure (tmps.getD t undef)
 | .cell a t=>do loadVar t (← asAddr (tmps.getD a undef))
theorem results_eq (fn:Func) (tmps:Array Value):results fn tmps=(do let vs ← fn.results.mapM (runRes tmps);pure (if h:vs.size=1 then vs[0] else .tuple vs)):=by
 unfold results
 congr 1

theorem resOne_sound {S : Snap} {H : Hp} {tm : List AV} {tmps : Array Value} (hI : Inv W0 S H) (hF : FRel S tm tmps) {r : ResultVar} {v : AV} (h : resOne C (tm, H) r = some v) :
    ∃ v',(runRes tmps r).run C.P S.w=.ok v' S.w∧VRel S v v':=by
 cases r with
 | tmp t =>
  simp only [resOne,Option.some.injEq] at h
  subst h
  exact ⟨_,rfl,hF.getD t⟩
 | cell a t =>
  simp only [resOne] at h
  split at h
  ·rename_i g sz hg hs
   obtain ⟨v',ad,hu,hr,hv⟩:=aload_sound (P:=C.P) hI hg hs (hF.getD a) h
   exact ⟨v',run_loadVar_addr hu hr,hv⟩
  ·cases h

theorem mapM_res {S : Snap} {H : Hp} {tm : List AV} {tmps : Array Value} (hI : Inv W0 S H) (hF : FRel S tm tmps) : ∀ (l : List ResultVar) (r : List AV), l.mapM (resOne C (tm, H)) = some r →
    ∃ vs:List Value,(l.mapM (runRes tmps)).run C.P S.w=.ok vs S.w∧vs.length=r.length ∧
     ∀ (i:Nat) (a:AV) (v:Value),r[i]?=some a→vs[i]?=some v→VRel S a v:=by
 intro l
 induction l with
 | nil=>intro r h;simp at h;subst h;exact ⟨[],rfl,rfl,by simp⟩
 | cons x l ih =>
  intro r h
  rw [List.mapM_cons] at h
  cases hx:resOne C (tm,H) x with
  | none=>simp [hx] at h
  | some a =>
   cases hl:l.mapM (resOne C (tm,H)) with
   | none=>simp [hx,hl] at h
   | some as =>
    simp [hx,hl] at h
    subst h
    obtain ⟨v,h1,h2⟩:=resOne_sound hI hF hx
    obtain ⟨vs,h3,h4,h5⟩:=ih as hl
    refine ⟨v :: vs,?_,by simp [h4],fun i a v ha hv=>?_⟩
    ·rw [List.mapM_cons]
     simp only [Sem.run_bind,h1,h3,Result.andThen_ok,Sem.run_pure]
    ·cases i with
     | zero=>simp at ha hv;subst ha hv;exact h2
     | succ i=>exact h5 i a v (by simpa using ha) (by simpa using hv)

theorem resVal_sound {S:Snap} {H:Hp} {tm:List AV} {tmps:Array Value} (hI:Inv W0 S H) (hF:FRel S tm tmps) {fn:Func} {v:AV} (h:resVal C fn (tm,H)=some v):∃ v',(results fn tmps).run C.P S.w=.ok v' S.w∧VRel S v v':=by
 unfold resVal at h
 have main : ∀ l, fn.results.toList.mapM (resOne C (tm, H)) = some l → ∃ vs : List Value, (results fn tmps).run C.P S.w = .ok (if h : vs.toArray.size = 1 then vs.toArray[0] else .tuple vs.toArray) S.w ∧ vs.length = l.length ∧
     ∀ (i:Nat) (a:AV) (v:Value),l[i]?=some a→vs[i]?=some v→VRel S a v:=by
  intro l hl
  obtain ⟨vs,h1,h2,h3⟩:=mapM_res hI hF _ l hl
  refine ⟨vs,?_,h2,h3⟩
  rw [results_eq,Sem.run_bind,Array.mapM_eq_mapM_toList,Sem.run_map,h1]
  rfl
 split at h
 ·rename_i v1 hl
  injection h with h
  subst h
  obtain ⟨vs,h1,h2,h3⟩:=main _ hl
  match vs,h2 with
  | [u],_=>exact ⟨u,by simpa using h1,h3 0 v1 u rfl rfl⟩
 ·rename_i l hne hl
  injection h with h
  subst h
  obtain ⟨vs,h1,h2,h3⟩:=main _ hl
  have hn:vs.toArray.size ≠ 1:=by
   intro hc
   have:l.length=1:=by simp at hc;omega
   match l,this with
   | [a],_=>exact hne a rfl
  rw [dif_neg hn] at h1
  exact ⟨_,h1,.tuple _ _ (by simp [h2]) fun i a v ha hv=>h3 i a v ha (by simpa using hv)⟩
 ·cases h

theorem initial_frel {S : Snap} {args : List AV} {args' : Array Value} (hs : args'.size = args.length) (h : ∀ (i : Nat) (a : AV) (u : Value), args[i]? = some a → args'[i]? = some u → VRel S a u) (n : Nat) :
    FRel S (args++List.replicate (n - args.length) .undef) (args'++Array.replicate (n - args'.size) undef):=by
 refine ⟨by simp [hs],fun i a v ha hv=>?_⟩
 rcases Nat.lt_or_ge i args.length with hi | hi
 ·rw [List.getElem?_append_left hi] at ha
  rw [Array.getElem?_append_left (by omega)] at hv
  exact h i a v ha hv
 ·rw [List.getElem?_append_right hi] at ha
  rw [Array.getElem?_append_right (by omega)] at hv
  rw [List.getElem?_replicate] at ha
  rw [Array.getElem?_replicate] at hv
  split at ha
  ·injection ha with ha
   split at hv
   ·injection hv with hv
    subst ha hv
    exact .undef _
   ·cases hv
  ·cases ha

theorem body_sound (hC : okCfg C) {cl : CallF} (hcall : CallsOk C W0 cl) (hfr : Framed cl) {n : Nat} {f : FuncId} {fn : Func} {c : Code} (hf : C.P.funcs[f]? = some fn) (hb : fn.body = some c) {args : List AV} {H H' : Hp} {v : AV}
    (h:body C cl n f fn c args H=some (v,H')) {S:Snap} {args':Array Value} (hI:Inv W0 S H) (hG:GlobOk C S) (hs:args'.size=args.length) (ha:∀ (i:Nat) (a:AV) (u:Value),args[i]?=some a→args'[i]?=some u→VRel S a u) :
    Calls C.P f args' S.w fun e w'=>∃ v' S',e=.returned v'∧S'.w=w'∧Ext S S'∧Inv W0 S' H'∧VRel S' v v':=by
 unfold body at h
 refine calls_of_wp hf hb ?_
 have hrel:Rel C W0 S (args++List.replicate (fn.ntmps - args.length) .undef,H) { tmps:=args'++Array.replicate (fn.ntmps - args'.size) undef,defers:=[] } S.w :=
  ⟨S,rfl,Ext.refl S,hI,hG,initial_frel hs ha fn.ntmps,rfl⟩
 cases hex:exec C cl (C.keep f) n c (args++List.replicate (fn.ntmps - args.length) .undef,H) with
 | none=>simp [hex] at h
 | some p =>
  obtain ⟨e,s⟩:=p
  refine wp_mono (exec_wp hC hcall hfr c _ s e _ _ hex hrel) fun e' a w hp=>?_
  obtain ⟨rfl,S1,rfl,hx1,hI1,hG1,hF1,hd1⟩:=hp
  have fin : ∀ r, (match resVal C fn s with | some v => leave C f H (v, s.2) | none => none) = some r → r = (v, H') → a.defers = [] ∧ ∃ v, (results fn a.tmps).run C.P S1.w = .ok v S1.w ∧
      (fun e w'=>∃ v' S',e=Ending.returned v'∧S'.w=w'∧Ext S S'∧Inv W0 S' H'∧VRel S' r.1 v') (.returned v) S1.w:=by
   rintro r hr rfl
   refine ⟨hd1,?_⟩
   split at hr
   ·rename_i v1 hv1
    obtain ⟨v',hrun,hv⟩:=resVal_sound (tm:=s.1) hI1 hF1 hv1
    refine ⟨v',hrun,?_⟩
    unfold leave at hr
    split at hr
    ·unfold leaveP at hr
     split at hr
     ·rename_i htake
      cases hcl:closeV s.2 H.length 9 v1 with
      | none=>simp [hcl] at hr
      | some v2 =>
       simp only [hcl,Option.some.injEq,Prod.mk.injEq] at hr
       obtain ⟨rfl,rfl⟩:=hr
       exact ⟨v',S1.back H,rfl,rfl,Ext.back hI hx1,Inv.back hI hI1 htake,closeV_sound hI1 htake 9 _ _ _ hcl hv⟩
     ·cases hr
    ·simp only [Option.some.injEq,Prod.mk.injEq] at hr
     obtain ⟨rfl,rfl⟩:=hr
     exact ⟨v',S1,rfl,rfl,hx1,hI1,hv⟩
   ·cases hr
  cases e with
  | normal =>
   simp only [hex] at h
   exact fin _ h rfl
  | ret =>
   simp only [hex] at h
   exact fin _ h rfl
  | _=>simp [hex] at h

theorem call_sound (hC:okCfg C):∀ n,CallsOk C W0 (call C n):=by
 intro n
 induction n with
 | zero=>intro W1 f args H H' v h;simp [call] at h
 | succ n ih =>
  intro W1 f args H H' v h S args' hI hG hs ha
  have ih':CallsOk C W1 (call C n):=ih
  simp only [call] at h
  split at h
  ·cases h
  ·rename_i fn hf
   split at h
   ·cases h
   ·rename_i c hb
    exact body_sound hC ih' (call_framed C n) hf hb h hI hG hs ha
end
end Go.Am
