/-
  THE ABSTRACT MACHINE, part Fs: a place that is free ahead of and behind a call has no part in it.
-/
import Derived.Test.YtpahcdhligjdiaaKmLx
namespace Go.Am

section
variable {C:Cfg} {call:CallF}

def FrmS {α:Type} (f:St→Option (α × St)):Prop :=
 ∀ s e s',f s=some (e,s')→s.2.length≤s'.2.length∧∀ o,o < s.2.length→s'.2[o]?=some .free→s.2[o]?=some .free∧∀ x,f (s.1,s.2.set o x)=some (e,(s'.1,s'.2.set o x))
def FrmT (f:St→St):Prop :=
 ∀ s,s.2.length≤(f s).2.length∧∀ o,o < s.2.length→(f s).2[o]?=some .free→s.2[o]?=some .free∧∀ x,f (s.1,s.2.set o x)=((f s).1,(f s).2.set o x)
theorem FrmT.id:FrmT fun s=>s:=fun _=>⟨Nat.le_refl _,fun _ _ h=>⟨h,fun _=>rfl⟩⟩
theorem FrmT.comp {f g:St→St} (hf:FrmT f) (hg:FrmT g):FrmT fun s=>g (f s):=by
 intro s
 obtain ⟨f1,f2⟩:=hf s
 obtain ⟨g1,g2⟩:=hg (f s)
 refine ⟨Nat.le_trans f1 g1,fun o ho h=>?_⟩
 obtain ⟨g3,g4⟩:=g2 o (by omega) h
 obtain ⟨f3,f4⟩:=f2 o ho g3
 exact ⟨f3,fun x=>by simp only [f4 x];exact g4 x⟩
theorem FrmS.after {α:Type} {f:St→St} {g:St→Option (α × St)} (hf:FrmT f) (hg:FrmS g):FrmS fun s=>g (f s):=by
 intro s e s' h
 obtain ⟨f1,f2⟩:=hf s
 obtain ⟨g1,g2⟩:=hg (f s) e s' h
 refine ⟨Nat.le_trans f1 g1,fun o ho h=>?_⟩
 obtain ⟨g3,g4⟩:=g2 o (by omega) h
 obtain ⟨f3,f4⟩:=f2 o ho g3
 exact ⟨f3,fun x=>by simp only [f4 x];exact g4 x⟩
theorem frz1_fr (t:Nat):FrmT fun s=>frz1 s t:=by
 intro s
 obtain ⟨tm,H⟩:=s
 simp only [frz1]
 generalize tm.getD t (.tuple [])=a
 have key:H.length≤(frzV a H).2.length∧∀ o,o < H.length→(frzV a H).2[o]?=some .free→H[o]?=some .free∧∀ x,frzV a (H.set o x)=((frzV a H).1,(frzV a H).2.set o x):=by
  cases a with
  | ptr p off =>
   cases off with
   | zero =>
    simp only [frzV]
    cases hp:H[p]? with
    | none =>
     refine ⟨Nat.le_refl _,fun o ho h=>⟨h,fun x=>?_⟩⟩
     have hne:o ≠ p:=by rintro rfl;rw [h] at hp;cases hp
     rw [List.getElem?_set_ne hne,hp]
    | some z =>
     cases z with
     | cells l =>
      refine ⟨by simp,fun o ho h=>?_⟩
      obtain ⟨h1,h2⟩:=free_of_set h (by simp)
      refine ⟨h2,fun x=>?_⟩
      rw [List.getElem?_set_ne h1,hp]
      simp only
      rw [List.set_comm _ _ h1]
     | free =>
      refine ⟨by simp,fun o ho h=>?_⟩
      obtain ⟨h1,h2⟩:=free_of_set h (by simp)
      refine ⟨h2,fun x=>?_⟩
      rw [List.getElem?_set_ne h1,hp]
      simp only
      rw [List.set_comm _ _ h1]
     | _ =>
      refine ⟨Nat.le_refl _,fun o ho h=>⟨h,fun x=>?_⟩⟩
      have hne:o ≠ p:=by rintro rfl;simp only at h;rw [h] at hp;cases hp
      rw [List.getElem?_set_ne hne,hp]
   | succ n=>exact ⟨Nat.le_refl _,fun o ho h=>⟨h,fun x=>rfl⟩⟩
  | _=>exact ⟨Nat.le_refl _,fun o ho h=>⟨h,fun x=>rfl⟩⟩
 refine ⟨key.1,fun o ho h=>?_⟩
 obtain ⟨h1,h2⟩:=key.2 o ho h
 exact ⟨h1,fun x=>by rw [h2 x]⟩
theorem frzs_fr (kp:Nat→Option (List Nat)) (id:Nat):FrmT (frzs kp id):=by
 unfold frzs
 cases kp (id+1000000) with
 | none=>exact FrmT.id
 | some ts =>
  simp only [frzL]
  induction ts with
  | nil=>exact FrmT.id
  | cons t ts ih=>exact FrmT.comp (frz1_fr t) ih
theorem trim_fr (kp:Nat→Option (List Nat)) (c:Code):FrmT (trim kp c):=by
 unfold trim
 cases firstRegion c with
 | none=>exact FrmT.id
 | some r =>
  simp only
  cases kp r with
  | none=>exact FrmT.id
  | some keep=>exact fun s=>⟨Nat.le_refl _,fun o _ h=>⟨h,fun x=>rfl⟩⟩
theorem resv_fr (n:Nat):FrmT fun s=>(s.1,resvH n s.2):=by
 intro s
 cases n with
 | zero=>exact ⟨Nat.le_refl _,fun o _ h=>⟨h,fun x=>rfl⟩⟩
 | succ n =>
  simp only [resvH]
  refine ⟨by simp,fun o ho h=>?_⟩
  obtain ⟨h1,h2⟩:=free_of_push ho h
  exact ⟨h1,fun x=>by rw [h2]⟩

theorem rStep_fr (hc : Framed call) {ops : Array Oper} {draw : Bool} {b i : Nat} {o : Oper} {s s' : St} (h : rStep C call ops draw b i o s = some s') :
    s.2.length≤s'.2.length∧∀ q,q < s.2.length→s'.2[q]?=some .free→s.2[q]?=some .free∧∀ x,rStep C call ops draw b i o (s.1,s.2.set q x)=some (s'.1,s'.2.set q x):=by
 simp only [rStep_val] at h ⊢
 cases hv:rVal C call ops draw b i o s.1 s.2 with
 | none=>simp [hv] at h
 | some p =>
  obtain ⟨v,H⟩:=p
  simp only [hv,Option.some.injEq] at h
  subst h
  obtain ⟨h1,h2⟩:=rVal_fr hc draw b i o s.1 s.2 v H hv
  refine ⟨h1,fun o' ho hf=>?_⟩
  obtain ⟨h3,h4⟩:=h2 o' ho hf
  exact ⟨h3,fun x=>by simp only [h4 x]⟩
theorem execOps_fr (hc : Framed call) {ops : Array Oper} {draw : Bool} {b : Nat} : ∀ (l : List Oper) (i : Nat) (s s' : St), execOps C call ops draw b i l s = some s' →
    s.2.length≤s'.2.length∧∀ q,q < s.2.length→s'.2[q]?=some .free→s.2[q]?=some .free∧∀ x,execOps C call ops draw b i l (s.1,s.2.set q x)=some (s'.1,s'.2.set q x):=by
 intro l
 induction l with
 | nil =>
  intro i s s' h
  simp only [execOps,Option.some.injEq] at h
  subst h
  exact ⟨Nat.le_refl _,fun o _ hf=>⟨hf,fun x=>rfl⟩⟩
 | cons o l ih =>
  intro i s s' h
  simp only [execOps] at h ⊢
  cases hs:rStep C call ops draw b i o s with
  | none=>simp [hs] at h
  | some s1 =>
   simp only [hs] at h
   obtain ⟨f1,f2⟩:=rStep_fr hc hs
   obtain ⟨g1,g2⟩:=ih (i+1) s1 s' h
   refine ⟨Nat.le_trans f1 g1,fun o' ho hf=>?_⟩
   obtain ⟨g3,g4⟩:=g2 o' (by omega) hf
   obtain ⟨f3,f4⟩:=f2 o' ho g3
   refine ⟨f3,fun x=>?_⟩
   simp only [f4 x]
   exact g4 x

theorem loopN_fr {f:St→Option (AExit × St)} (hf:FrmS f):∀ n,FrmS (loopN f n):=by
 intro n
 induction n with
 | zero=>intro s e s' h;cases h
 | succ n ih =>
  intro s e s' h
  simp only [loopN] at h ⊢
  cases hs:f s with
  | none=>simp [hs] at h
  | some p =>
   obtain ⟨e1,s1⟩:=p
   obtain ⟨f1,f2⟩:=hf s e1 s1 hs
   cases e1 with
   | normal =>
    simp only [hs] at h
    obtain ⟨g1,g2⟩:=ih s1 e s' h
    refine ⟨Nat.le_trans f1 g1,fun o ho hfr=>?_⟩
    obtain ⟨g3,g4⟩:=g2 o (by omega) hfr
    obtain ⟨f3,f4⟩:=f2 o ho g3
    exact ⟨f3,fun x=>by simp only [f4 x];exact g4 x⟩
   | _ =>
    simp only [hs,Option.some.injEq,Prod.mk.injEq] at h
    obtain ⟨rfl,rfl⟩:=h
    refine ⟨f1,fun o ho hfr=>?_⟩
    obtain ⟨f3,f4⟩:=f2 o ho hfr
    exact ⟨f3,fun x=>by simp only [f4 x]⟩

theorem exec_fr (hc:Framed call) {kp:Nat→Option (List Nat)} {n:Nat}:∀ c:Code,FrmS (exec C call kp n c):=by
 intro c
 have stay:∀ e0:AExit,FrmS fun s:St=>some (e0,s):=by
  intro e0 s e s' h
  simp only [Option.some.injEq,Prod.mk.injEq] at h
  obtain ⟨rfl,rfl⟩:=h
  exact ⟨Nat.le_refl _,fun o _ hf=>⟨hf,fun x=>rfl⟩⟩
 have never:FrmS fun _:St=>(none:Option (AExit × St)):=fun s e s' h=>by cases h
 induction c with
 | skip=>exact stay _
 | region id ops draw =>
  intro s e s' h
  simp only [exec] at h ⊢
  by_cases hd:(draw && !(orderOk ops && farAll C ops (eval C (frzs kp id s).1)))=true
  ·rw [if_pos hd] at h;cases h
  ·rw [if_neg hd] at h
   generalize hm:(if draw=true then lags C ops ops.size else 0)=m at h ⊢
   obtain ⟨z1,z2⟩:=frzs_fr kp id s
   obtain ⟨r1,r2⟩:=resv_fr m (frzs kp id s)
   cases hx:execOps C call ops draw (frzs kp id s).2.length 0 ops.toList ((frzs kp id s).1,resvH m (frzs kp id s).2) with
   | none=>simp [hx] at h
   | some s1 =>
    simp only [hx,Option.some.injEq,Prod.mk.injEq] at h
    obtain ⟨rfl,rfl⟩:=h
    obtain ⟨g1,g2⟩:=execOps_fr hc ops.toList 0 _ s1 hx
    refine ⟨Nat.le_trans z1 (Nat.le_trans r1 g1),fun o ho hf=>?_⟩
    obtain ⟨g3,g4⟩:=g2 o (by simp only at r1 ⊢;omega) hf
    obtain ⟨r3,r4⟩:=r2 o (by omega) g3
    obtain ⟨z3,z4⟩:=z2 o ho r3
    refine ⟨z3,fun x=>?_⟩
    have r5:=r4 x
    simp only [Prod.mk.injEq,true_and] at r5
    rw [z4 x]
    simp only
    rw [if_neg hd,r5,List.length_set]
    have g5:=g4 x
    simp only at g5
    rw [g5]
 | seq a b iha ihb =>
  intro s e s' h
  simp only [exec] at h ⊢
  cases hx:exec C call kp n a s with
  | none=>simp [hx] at h
  | some p =>
   obtain ⟨e1,s1⟩:=p
   obtain ⟨f1,f2⟩:=iha s e1 s1 hx
   cases e1 with
   | normal =>
    simp only [hx] at h
    obtain ⟨g1,g2⟩:=FrmS.after (trim_fr kp b) ihb s1 e s' h
    refine ⟨Nat.le_trans f1 g1,fun o ho hf=>?_⟩
    obtain ⟨g3,g4⟩:=g2 o (by omega) hf
    obtain ⟨f3,f4⟩:=f2 o ho g3
    exact ⟨f3,fun x=>by simp only [f4 x];exact g4 x⟩
   | _ =>
    simp only [hx,Option.some.injEq,Prod.mk.injEq] at h
    obtain ⟨rfl,rfl⟩:=h
    refine ⟨f1,fun o ho hf=>?_⟩
    obtain ⟨f3,f4⟩:=f2 o ho hf
    exact ⟨f3,fun x=>by simp only [f4 x]⟩
 | cond c x y ihx ihy =>
  intro s e s' h
  simp only [exec] at h ⊢
  cases hc:eval C s.1 c with
  | bool t =>
   simp only [hc] at h ⊢
   cases t with
   | true=>exact ihx s e s' h
   | false=>exact ihy s e s' h
  | _=>simp [hc] at h
 | block id c ih =>
  intro s e s' h
  simp only [exec] at h ⊢
  cases hx:exec C call kp n c s with
  | none=>simp [hx] at h
  | some p =>
   obtain ⟨e1,s1⟩:=p
   obtain ⟨f1,f2⟩:=ih s e1 s1 hx
   have fin : ∀ e2, (match some (e1, s1) with
       | some (AExit.exit i,s')=>if i=id then some (AExit.normal,s') else some (AExit.exit i,s')
       | r=>r)=some (e2,s')→s'=s1∧∀ s2:St,(match some (e1,s2) with
       | some (AExit.exit i,s')=>if i=id then some (AExit.normal,s') else some (AExit.exit i,s')
       | r=>r)=some (e2,s2):=by
    intro e2 h
    cases e1 with
    | exit i =>
     simp only at h ⊢
     split at h
     ·rename_i hi
      simp only [Option.some.injEq,Prod.mk.injEq] at h
      obtain ⟨rfl,rfl⟩:=h
      exact ⟨rfl,fun s2=>by rw [if_pos hi]⟩
     ·rename_i hi
      simp only [Option.some.injEq,Prod.mk.injEq] at h
      obtain ⟨rfl,rfl⟩:=h
      exact ⟨rfl,fun s2=>by rw [if_neg hi]⟩
    | _ =>
     simp only [Option.some.injEq,Prod.mk.injEq] at h
     obtain ⟨rfl,rfl⟩:=h
     exact ⟨rfl,fun s2=>rfl⟩
   rw [hx] at h
   obtain ⟨rfl,h2⟩:=fin e h
   refine ⟨f1,fun o ho hf=>?_⟩
   obtain ⟨f3,f4⟩:=f2 o ho hf
   exact ⟨f3,fun x=>by rw [f4 x];exact h2 _⟩
 | loop c ih=>exact loopN_fr (FrmS.after (trim_fr kp c) ih) n
 | exit id=>exact stay _
 | label l=>exact stay _
 | goto l=>exact stay _
 | ret=>exact stay _
 | rangeFunc f p x y _ _=>exact never
 | scope c ih =>
  intro s e s' h
  simp only [exec] at h ⊢
  split at h
  ·rename_i hg
   obtain ⟨f1,f2⟩:=ih s e s' h
   refine ⟨f1,fun o ho hf=>?_⟩
   obtain ⟨f3,f4⟩:=f2 o ho hf
   exact ⟨f3,fun x=>by rw [if_pos hg];exact f4 x⟩
  ·cases h
 | refuse s=>exact never

theorem resOne_rd {tm:List AV} {H:Hp} {r:ResultVar} {v:AV} (h:resOne C (tm,H) r=some v) {o:Nat} (ho:H[o]?=some .free) (x:AObj):resOne C (tm,H.set o x) r=some v:=by
 cases r with
 | tmp t=>exact h
 | cell a t =>
  simp only [resOne] at h ⊢
  split at h
  ·exact aload_rd _ _ _ H v h o ho x
  ·cases h
theorem mapM_le' {α β:Type} {f g:α→Option β} (h:∀ a b,f a=some b→g a=some b) {l:List α} {r:List β} (hl:l.mapM f=some r):l.mapM g=some r:=mapM_le h hl
theorem resVal_rd {fn:Func} {tm:List AV} {H:Hp} {v:AV} (h:resVal C fn (tm,H)=some v) {o:Nat} (ho:H[o]?=some .free) (x:AObj):resVal C fn (tm,H.set o x)=some v:=by
 unfold resVal at h ⊢
 cases hm:fn.results.toList.mapM (resOne C (tm,H)) with
 | none=>simp [hm] at h
 | some l =>
  rw [mapM_le' (fun a b hab=>resOne_rd hab ho x) hm]
  rw [hm] at h
  exact h

theorem body_fr (hc:Framed call) {n:Nat} {f:FuncId} {fn:Func} {c:Code} {args:List AV}:Frm (body C call n f fn c args):=by
 intro H v H' h
 unfold body at h ⊢
 cases hx:exec C call (C.keep f) n c (args++List.replicate (fn.ntmps - args.length) .undef,H) with
 | none=>simp [hx] at h
 | some p =>
  obtain ⟨e,s1⟩:=p
  obtain ⟨f1,f2⟩:=exec_fr hc c _ e s1 hx
  simp only at f1 f2
  have fin : (match resVal C fn s1 with | some v => leave C f H (v, s1.2) | none => none) = some (v, H') → H.length ≤ H'.length ∧ ∀ o, o < H.length → H'[o]? = some .free → H[o]? = some .free ∧ s1.2[o]? = some .free ∧
      ∀ x,(match resVal C fn (s1.1,s1.2.set o x) with | some v=>leave C f (H.set o x) (v,s1.2.set o x) | none=>none)=some (v,H'.set o x):=by
   intro h
   cases hr:resVal C fn s1 with
   | none=>simp [hr] at h
   | some u =>
    simp only [hr] at h
    have hres:∀ o,s1.2[o]?=some .free→∀ x,resVal C fn (s1.1,s1.2.set o x)=some u:=fun o ho x=>resVal_rd hr ho x
    unfold leave at h ⊢
    by_cases hp:C.pure f=true
    ·simp only [hp,if_true] at h ⊢
     unfold leaveP at h ⊢
     by_cases ht:s1.2.take H.length=H
     ·rw [if_pos ht] at h
      cases hcl:closeV s1.2 H.length 400 u with
      | none=>simp [hcl] at h
      | some u2 =>
       simp only [hcl,Option.some.injEq,Prod.mk.injEq] at h
       obtain ⟨rfl,rfl⟩:=h
       refine ⟨Nat.le_refl _,fun o ho hf=>?_⟩
       have h1:s1.2[o]?=some .free:=by
        rw [← ht,List.getElem?_take_of_lt ho] at hf
        exact hf
       refine ⟨hf,h1,fun x=>?_⟩
       rw [hres o h1 x]
       simp only
       have h2:(s1.2.set o x).take (H.set o x).length=H.set o x:=by
        rw [List.length_set,List.take_set,ht]
       rw [if_pos h2]
       have h3:closeV (s1.2.set o x) (H.set o x).length 400 u=some u2:=by
        rw [List.length_set]
        exact closeV_rd H.length 400 u s1.2 u2 hcl o h1 x
       rw [h3]
     ·rw [if_neg ht] at h;cases h
    ·simp only [hp,Bool.false_eq_true,if_false,Option.some.injEq,Prod.mk.injEq] at h ⊢
     obtain ⟨rfl,rfl⟩:=h
     refine ⟨f1,fun o ho hf=>?_⟩
     obtain ⟨f3,f4⟩:=f2 o ho hf
     exact ⟨f3,hf,fun x=>by rw [hres o hf x]⟩
  have both:(e=.normal ∨ e=.ret)→(match resVal C fn s1 with | some v=>leave C f H (v,s1.2) | none=>none)=some (v,H'):=by
   intro he
   rw [hx] at h
   rcases he with rfl | rfl <;> exact h
  have he:e=.normal ∨ e=.ret:=by
   rw [hx] at h
   cases e <;> first | exact .inl rfl | exact .inr rfl | (cases h;done)
  obtain ⟨g1,g2⟩:=fin (both he)
  refine ⟨g1,fun o ho hf=>?_⟩
  obtain ⟨g3,g4,g5⟩:=g2 o ho hf
  obtain ⟨f3,f4⟩:=f2 o ho g4
  refine ⟨g3,fun x=>?_⟩
  rw [f4 x]
  rcases he with rfl | rfl <;> exact g5 x

end
theorem call_framed (C:Cfg):∀ n,Framed (call C n):=by
 intro n
 induction n with
 | zero=>intro f args;exact fr_none
 | succ n ih =>
  intro f args
  show Frm fun H=>call C (n+1) f args H
  simp only [call]
  cases C.P.funcs[f]? with
  | none=>exact fr_none
  | some fn =>
   simp only
   cases codeOf C f fn with
   | none=>exact fr_none
   | some c=>exact body_fr ih
end Go.Am
