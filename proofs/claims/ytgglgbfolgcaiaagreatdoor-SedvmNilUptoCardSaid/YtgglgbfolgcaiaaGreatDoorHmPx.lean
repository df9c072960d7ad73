/-
  THE ABSTRACT MACHINE, part P: without fuel: the limit, and its equations in the form of continuations.
-/
import Derived.Test.YtgglgbfolgcaiaaGreatDoorHmOx
namespace Go.Am
open RowKit

section
variable {C:Cfg}

def Le (c c':CallF):Prop:=∀ f a H r,c f a H=some r→c' f a H=some r

theorem flatC_some {a : List AV → Hp → Option (AV × Hp)} {args : List AV} {H : Hp} {r : AV × Hp} (h : flatC a args H = some r) :
    ∃ args' q,a args' []=some q∧∀ b:List AV→Hp→Option (AV × Hp),b args' []=some q→flatC b args H=some r:=by
 unfold flatC at h
 split at h
 ·rename_i args1 hm
  split at h
  ·rename_i v1 H1 hc
   exact ⟨args1,_,hc,fun b hb=>by unfold flatC;simp only [hm,hb];exact h⟩
  ·cases h
 ·cases h
theorem roC_some {a : List AV → Hp → Option (AV × Hp)} {args : List AV} {H : Hp} {r : AV × Hp} (h : roC a args H = some r) :
    ∃ q,a args H=some q∧∀ b:List AV→Hp→Option (AV × Hp),b args H=some q→roC b args H=some r:=by
 unfold roC at h
 split at h
 ·rename_i v1 H1 hc
  exact ⟨_,hc,fun b hb=>by unfold roC;simp only [hb];exact h⟩
 ·cases h
theorem acallF_mono {c c':CallF} (h:Le c c') {id:FuncId} {args:List AV} {H:Hp} {r:AV × Hp} (hr:acallF C c id args H=some r):acallF C c' id args H=some r:=by
 unfold acallF at hr ⊢
 cases he:C.ext id with
 | some e=>simpa [he] using hr
 | none =>
  cases hsm:C.sum id with
  | some g=>simpa [he,hsm] using hr
  | none =>
  cases hef:C.eff id with
  | some g=>simpa [he,hsm,hef] using hr
  | none =>
  simp only [he,hsm,hef] at hr ⊢
  by_cases hu:C.user id=true
  ·by_cases hfl:C.flat id=true
   ·simp only [hu,hfl,if_true] at hr ⊢
    obtain ⟨args',q,q1,q2⟩:=flatC_some hr
    exact q2 _ (h _ _ _ _ q1)
   ·by_cases hro:C.ro id=true
    ·simp only [hu,hfl,hro,Bool.false_eq_true,if_false,if_true] at hr ⊢
     obtain ⟨q,q1,q2⟩:=roC_some hr
     exact q2 _ (h _ _ _ _ q1)
    ·simp only [hu,hfl,hro,Bool.false_eq_true,if_false,if_true] at hr ⊢
     exact h _ _ _ _ hr
  ·simp [hu] at hr
theorem acall_mono {c c':CallF} (h:Le c c') {f:AV} {args:List AV} {H:Hp} {r:AV × Hp} (hr:acall C c f args H=some r):acall C c' f args H=some r:=by
 unfold acall at hr ⊢
 split at hr
 ·exact acallF_mono h hr
 ·cases hr

theorem acallQ_mono {c c':CallF} (h:Le c c') {f:AV} {args:List AV} {H:Hp} {r:AV × Hp} (hr:acallQ C c f args H=some r):acallQ C c' f args H=some r:=by
 unfold acallQ qC at hr ⊢
 split at hr
 ·split at hr
  ·rename_i hq
   rw [if_pos hq]
   exact acall_mono h hr
  ·cases hr
 ·cases hr

theorem aheap_mono {c c':CallF} (h:Le c c') {ev:Operand→AV} {H:Hp} {op:Op} {r:AV × Hp} (hr:aheap C c ev H op=some r):aheap C c' ev H op=some r:=by
 cases op <;> try exact hr
 case makeMap t r=>cases r <;> exact hr
 case call cl =>
  obtain ⟨callee,args,ts⟩:=cl
  cases callee with
  | value f =>
   simp only [aheap] at hr ⊢
   split at hr
   ·rename_i hq
    rw [if_pos hq]
    exact acallQ_mono h hr
   ·rename_i hq
    rw [if_neg hq]
    exact acall_mono h hr
  | invoke r m =>
   simp only [aheap] at hr ⊢
   unfold ainv at hr ⊢
   split at hr
   ·split at hr
    ·exact acall_mono h hr
    ·cases hr
   ·cases hr
  | builtin b=>cases b <;> exact hr

theorem aop_mono {c c':CallF} (h:Le c c') {ev:Operand→AV} {H:Hp} {fl:Bool} {op:Op} {r:AV × Hp} (hr:aop C c ev H fl op=some r):aop C c' ev H fl op=some r:=by
 unfold aop at hr ⊢
 split at hr
 ·exact hr
 ·split at hr
  ·cases hr
  ·rename_i hf
   rw [if_neg hf]
   exact aheap_mono h hr

theorem oStep_mono {c c':CallF} (h:Le c c') {ops:Array Oper} {fl:Bool} {o:Oper} {s r:St} (hr:oStep C c ops fl o s=some r):oStep C c' ops fl o s=some r:=by
 unfold oStep oVal at hr ⊢
 cases hw:awanted ops s.1 o with
 | none=>simp [hw] at hr
 | some b =>
  cases b with
  | false=>simp only [hw] at hr ⊢;exact hr
  | true =>
   simp only [hw] at hr ⊢
   cases ha:aop C c (eval C s.1) s.2 fl o.op with
   | none=>simp [ha] at hr
   | some q=>rw [aop_mono h ha];rw [ha] at hr;exact hr

theorem rStep_mono {c c':CallF} (h:Le c c') {ops:Array Oper} {draw:Bool} {b i:Nat} {o:Oper} {s r:St} (hr:rStep C c ops draw b i o s=some r):rStep C c' ops draw b i o s=some r:=by
 unfold rStep at hr ⊢
 by_cases hl:(draw && lag C ops i)=true
 ·rw [if_pos hl] at hr ⊢;exact hr
 ·rw [if_neg hl] at hr ⊢;exact oStep_mono h hr
theorem execOps_mono {c c':CallF} (h:Le c c') {ops:Array Oper} {draw:Bool} {b:Nat}:∀ (l:List Oper) (i:Nat) (s r:St),execOps C c ops draw b i l s=some r→execOps C c' ops draw b i l s=some r:=by
 intro l
 induction l with
 | nil=>intro i s r hr;exact hr
 | cons o l ih =>
  intro i s r hr
  unfold execOps at hr ⊢
  split at hr
  ·rename_i s' hs
   rw [rStep_mono h hs]
   exact ih _ _ _ hr
  ·cases hr

theorem loopN_mono {f g:St→Option (AExit × St)} (h:∀ s r,f s=some r→g s=some r):∀ (n m:Nat) (s:St) (r:AExit × St),n≤m→loopN f n s=some r→loopN g m s=some r:=by
 intro n
 induction n with
 | zero=>intro m s r _ hr;cases hr
 | succ n ih =>
  intro m s r hm hr
  obtain ⟨m,rfl⟩:∃ k,m=k+1:=⟨m - 1,by omega⟩
  unfold loopN at hr ⊢
  cases hf:f s with
  | none=>simp [hf] at hr
  | some p =>
   rw [h s p hf]
   obtain ⟨e,s'⟩:=p
   cases e with
   | normal=>simp only [hf] at hr ⊢;exact ih m s' r (by omega) hr
   | _=>simpa [hf] using hr

theorem exec_mono {c c':CallF} (h:Le c c') {kp:Nat→Option (List Nat)} {n m:Nat} (hnm:n≤m):∀ (cd:Code) (s:St) (r:AExit × St),exec C c kp n cd s=some r→exec C c' kp m cd s=some r:=by
 intro cd
 induction cd with
 | region id ops draw =>
  intro s r hr
  simp only [exec] at hr ⊢
  split at hr
  ·cases hr
  ·rename_i hd
   rw [if_neg hd]
   split at hr
   ·rename_i s' hs
    rw [execOps_mono h _ _ _ _ hs]
    exact hr
   ·cases hr
 | seq x y ihx ihy =>
  intro s r hr
  simp only [exec] at hr ⊢
  cases hx:exec C c kp n x s with
  | none=>simp [hx] at hr
  | some p =>
   rw [ihx s p hx]
   obtain ⟨e,s'⟩:=p
   cases e with
   | normal=>simp only [hx] at hr ⊢;exact ihy _ _ hr
   | _=>simpa [hx] using hr
 | cond o x y ihx ihy =>
  intro s r hr
  simp only [exec] at hr ⊢
  split at hr
  ·rename_i t ht
   cases t with
   | true=>exact ihx _ _ (by simpa using hr)
   | false=>exact ihy _ _ (by simpa using hr)
  ·cases hr
 | block id x ih =>
  intro s r hr
  simp only [exec] at hr ⊢
  cases hx:exec C c kp n x s with
  | none=>simp [hx] at hr
  | some p=>rw [ih s p hx];rw [hx] at hr;exact hr
 | loop x ih =>
  intro s r hr
  simp only [exec] at hr ⊢
  exact loopN_mono (fun s r=>ih (trim kp x s) r) n m s r hnm hr
 | scope x ih =>
  intro s r hr
  simp only [exec] at hr ⊢
  split at hr
  ·rename_i hg
   rw [if_pos hg]
   exact ih s r hr
  ·cases hr
 | _=>intro s r hr;exact hr

theorem body_mono {c c':CallF} (h:Le c c') {n m:Nat} (hnm:n≤m) {f:FuncId} {fn:Func} {cd:Code} {args:List AV} {H:Hp} {r:AV × Hp} (hr:body C c n f fn cd args H=some r):body C c' m f fn cd args H=some r:=by
 unfold body at hr ⊢
 cases hx:exec C c (C.keep f) n cd (args++List.replicate (fn.ntmps - args.length) .undef,H) with
 | none=>simp [hx] at hr
 | some p=>rw [exec_mono h hnm _ _ _ hx];rw [hx] at hr;exact hr

theorem call_mono:∀ (n m:Nat),n≤m→Le (call C n) (call C m):=by
 intro n
 induction n with
 | zero=>intro m _ f a H r hr;cases hr
 | succ n ih =>
  intro m hm f a H r hr
  obtain ⟨m,rfl⟩:∃ k,m=k+1:=⟨m - 1,by omega⟩
  simp only [call] at hr ⊢
  split at hr
  ·cases hr
  ·rename_i fn hf
   split at hr
   ·cases hr
   ·rename_i cd hb
    exact body_mono (ih m (by omega)) (by omega) hr

open Classical in
noncomputable def lim {α:Type} (f:Nat→Option α):Option α:=if h:∃ n r,f n=some r then some h.choose_spec.choose else none

theorem lim_some {α:Type} {f:Nat→Option α} (hm:∀ n m r,n≤m→f n=some r→f m=some r) {r:α}:lim f=some r ↔ ∃ n,f n=some r:=by
 unfold lim
 constructor
 ·intro h
  split at h
  ·rename_i hx
   injection h with h
   exact ⟨hx.choose,h ▸ hx.choose_spec.choose_spec⟩
  ·cases h
 ·rintro ⟨n,hn⟩
  have hx:∃ n r,f n=some r:=⟨n,r,hn⟩
  rw [dif_pos hx]
  have h1:=hm _ (max hx.choose n) _ (Nat.le_max_left _ _) hx.choose_spec.choose_spec
  have h2:=hm _ (max hx.choose n) _ (Nat.le_max_right _ _) hn
  rw [h1] at h2
  exact h2

noncomputable def callw (C:Cfg):CallF:=fun f a H=>lim fun n=>call C n f a H
theorem callw_some {f:FuncId} {a:List AV} {H:Hp} {r:AV × Hp}:callw C f a H=some r ↔ ∃ n,call C n f a H=some r:=lim_some fun n m r h hr=>call_mono n m h f a H r hr
noncomputable def execw (C:Cfg) (kp:Nat→Option (List Nat)) (c:Code) (s:St):Option (AExit × St):=lim fun n=>exec C (call C n) kp n c s
theorem execw_some {kp:Nat→Option (List Nat)} {c:Code} {s:St} {r:AExit × St}:execw C kp c s=some r ↔ ∃ n,exec C (call C n) kp n c s=some r :=
 lim_some fun n m r h hr=>exec_mono (call_mono n m h) h c s r hr

theorem call_le_callw (n:Nat):Le (call C n) (callw C):=fun _ _ _ _ h=>callw_some.2 ⟨n,h⟩

theorem acallFw {id:FuncId} {args:List AV} {H:Hp} {r:AV × Hp} (h:acallF C (callw C) id args H=some r):∃ n,acallF C (call C n) id args H=some r:=by
 unfold acallF at h
 cases he:C.ext id with
 | some e=>exact ⟨0,by unfold acallF;simpa [he] using h⟩
 | none =>
  cases hsm:C.sum id with
  | some g=>exact ⟨0,by unfold acallF;simpa [he,hsm] using h⟩
  | none =>
  cases hef:C.eff id with
  | some g=>exact ⟨0,by unfold acallF;simpa [he,hsm,hef] using h⟩
  | none =>
  simp only [he,hsm,hef] at h
  by_cases hu:C.user id=true
  ·by_cases hfl:C.flat id=true
   ·simp only [hu,hfl,if_true] at h
    obtain ⟨args',q,q1,q2⟩:=flatC_some h
    obtain ⟨n,hn⟩:=callw_some.1 q1
    exact ⟨n,by unfold acallF;simp only [he,hsm,hef,hu,hfl,if_true];exact q2 _ hn⟩
   ·by_cases hro:C.ro id=true
    ·simp only [hu,hfl,hro,Bool.false_eq_true,if_false,if_true] at h
     obtain ⟨q,q1,q2⟩:=roC_some h
     obtain ⟨n,hn⟩:=callw_some.1 q1
     exact ⟨n,by unfold acallF;simp only [he,hsm,hef,hu,hfl,hro,Bool.false_eq_true,if_false,if_true];exact q2 _ hn⟩
    ·simp only [hu,hfl,hro,Bool.false_eq_true,if_false,if_true] at h
     obtain ⟨n,hn⟩:=callw_some.1 h
     exact ⟨n,by unfold acallF;simp only [he,hsm,hef,hu,hfl,hro,Bool.false_eq_true,if_false,if_true];exact hn⟩
  ·simp [hu] at h
theorem acallw {f:AV} {args:List AV} {H:Hp} {r:AV × Hp} (h:acall C (callw C) f args H=some r):∃ n,acall C (call C n) f args H=some r:=by
 unfold acall at h
 split at h
 ·exact acallFw h
 ·cases h
theorem acallQw {f:AV} {args:List AV} {H:Hp} {r:AV × Hp} (h:acallQ C (callw C) f args H=some r):∃ n,acallQ C (call C n) f args H=some r:=by
 unfold acallQ qC at h ⊢
 split at h
 ·split at h
  ·rename_i hq
   obtain ⟨n,hn⟩:=acallw h
   exact ⟨n,by rw [if_pos hq];exact hn⟩
  ·cases h
 ·cases h
theorem aheapw {ev:Operand→AV} {H:Hp} {op:Op} {r:AV × Hp} (h:aheap C (callw C) ev H op=some r):∃ n,aheap C (call C n) ev H op=some r:=by
 cases op <;> try exact ⟨0,h⟩
 case makeMap t r=>cases r <;> exact ⟨0,h⟩
 case call cl =>
  obtain ⟨callee,args,ts⟩:=cl
  cases callee with
  | value f =>
   simp only [aheap] at h ⊢
   split at h
   ·rename_i hq
    simp only [if_pos hq]
    exact acallQw h
   ·rename_i hq
    simp only [if_neg hq]
    exact acallw h
  | invoke r m =>
   simp only [aheap] at h ⊢
   unfold ainv at h ⊢
   split at h
   ·split at h
    ·exact acallw h
    ·cases h
   ·cases h
  | builtin b=>cases b <;> exact ⟨0,h⟩
theorem aopw {ev:Operand→AV} {H:Hp} {fl:Bool} {op:Op} {r:AV × Hp} (h:aop C (callw C) ev H fl op=some r):∃ n,aop C (call C n) ev H fl op=some r:=by
 unfold aop at h ⊢
 split at h
 ·exact ⟨0,h⟩
 ·split at h
  ·cases h
  ·rename_i hf
   obtain ⟨n,hn⟩:=aheapw h
   exact ⟨n,by rw [if_neg hf];exact hn⟩
theorem oStepw {ops:Array Oper} {fl:Bool} {o:Oper} {s r:St} (h:oStep C (callw C) ops fl o s=some r):∃ n,oStep C (call C n) ops fl o s=some r:=by
 unfold oStep oVal at h ⊢
 cases hw:awanted ops s.1 o with
 | none=>simp [hw] at h
 | some b =>
  cases b with
  | false=>simp only [hw] at h ⊢;exact ⟨0,h⟩
  | true =>
   simp only [hw] at h ⊢
   cases ha:aop C (callw C) (eval C s.1) s.2 fl o.op with
   | none=>simp [ha] at h
   | some q =>
    obtain ⟨n,hn⟩:=aopw ha
    exact ⟨n,by rw [hn];rw [ha] at h;exact h⟩
theorem rStepw {ops:Array Oper} {draw:Bool} {b i:Nat} {o:Oper} {s r:St} (h:rStep C (callw C) ops draw b i o s=some r):∃ n,rStep C (call C n) ops draw b i o s=some r:=by
 unfold rStep at h ⊢
 by_cases hl:(draw && lag C ops i)=true
 ·rw [if_pos hl] at h
  simp only [if_pos hl]
  exact ⟨0,h⟩
 ·rw [if_neg hl] at h
  simp only [if_neg hl]
  exact oStepw h
theorem execOpsw {ops:Array Oper} {draw:Bool} {b:Nat}:∀ (l:List Oper) (i:Nat) (s r:St),execOps C (callw C) ops draw b i l s=some r→∃ n,execOps C (call C n) ops draw b i l s=some r:=by
 intro l
 induction l with
 | nil=>intro i s r h;exact ⟨0,h⟩
 | cons o l ih =>
  intro i s r h
  unfold execOps at h
  split at h
  ·rename_i s' hs
   obtain ⟨n,hn⟩:=rStepw hs
   obtain ⟨m,hm⟩:=ih _ _ _ h
   refine ⟨max n m,?_⟩
   unfold execOps
   rw [rStep_mono (call_mono n _ (Nat.le_max_left n m)) hn]
   exact execOps_mono (call_mono m _ (Nat.le_max_right n m)) _ _ _ _ hm
  ·cases h

section
variable {kp:Nat→Option (List Nat)}

theorem execw_region (id : Nat) (ops : Array Oper) (draw : Bool) (s : St) : execw C kp (.region id ops draw) s =
    if draw && !orderOk ops then none else match execOps C (callw C) ops draw (frzs kp id s).2.length 0 ops.toList ((frzs kp id s).1,resvH (if draw then lags C ops ops.size else 0) (frzs kp id s).2) with
     | some s'=>some (.normal,s')
     | none=>none:=by
 apply Option.ext
 intro r
 rw [execw_some]
 constructor
 ·rintro ⟨n,hn⟩
  simp only [exec] at hn
  split at hn
  ·cases hn
  ·rename_i hd
   rw [if_neg hd]
   split at hn
   ·rename_i s' hs
    rw [execOps_mono (call_le_callw n) _ _ _ _ hs]
    exact hn
   ·cases hn
 ·intro h
  split at h
  ·cases h
  ·rename_i hd
   split at h
   ·rename_i s' hs
    obtain ⟨n,hn⟩:=execOpsw _ _ _ _ hs
    exact ⟨n,by simp only [exec];rw [if_neg hd,hn];exact h⟩
   ·cases h

theorem execw_seq (a b : Code) (s : St) : execw C kp (.seq a b) s = match execw C kp a s with
    | some (.normal,s')=>execw C kp b (trim kp b s')
    | r=>r:=by
 apply Option.ext
 intro r
 rw [execw_some]
 constructor
 ·rintro ⟨n,hn⟩
  simp only [exec] at hn
  cases hx:exec C (call C n) kp n a s with
  | none=>simp [hx] at hn
  | some p =>
   rw [execw_some.2 ⟨n,hx⟩]
   obtain ⟨e,s'⟩:=p
   cases e with
   | normal=>simp only [hx] at hn ⊢;exact execw_some.2 ⟨n,hn⟩
   | _=>simpa [hx] using hn
 ·intro h
  cases hx:execw C kp a s with
  | none=>simp [hx] at h
  | some p =>
   obtain ⟨n,hn⟩:=execw_some.1 hx
   obtain ⟨e,s'⟩:=p
   cases e with
   | normal =>
    simp only [hx] at h
    obtain ⟨m,hm⟩:=execw_some.1 h
    refine ⟨max n m,?_⟩
    simp only [exec]
    rw [exec_mono (call_mono n _ (Nat.le_max_left n m)) (Nat.le_max_left n m) _ _ _ hn]
    exact exec_mono (call_mono m _ (Nat.le_max_right n m)) (Nat.le_max_right n m) _ _ _ hm
   | _=>exact ⟨n,by simp only [exec];rw [hn];simpa [hx] using h⟩

theorem execw_cond (o : Operand) (x y : Code) (s : St) : execw C kp (.cond o x y) s = match eval C s.1 o with
    | .bool t=>if t then execw C kp x s else execw C kp y s
    | _=>none:=by
 apply Option.ext
 intro r
 rw [execw_some]
 simp only [exec]
 generalize eval C s.1 o=v
 cases v with
 | bool t=>cases t <;> simp [execw_some]
 | _=>simp

theorem execw_block (id : Nat) (c : Code) (s : St) : execw C kp (.block id c) s = match execw C kp c s with
    | some (.exit i,s')=>if i=id then some (.normal,s') else some (.exit i,s')
    | r=>r:=by
 apply Option.ext
 intro r
 rw [execw_some]
 constructor
 ·rintro ⟨n,hn⟩
  simp only [exec] at hn
  cases hx:exec C (call C n) kp n c s with
  | none=>simp [hx] at hn
  | some p=>rw [execw_some.2 ⟨n,hx⟩];rw [hx] at hn;exact hn
 ·intro h
  cases hx:execw C kp c s with
  | none=>simp [hx] at h
  | some p =>
   obtain ⟨n,hn⟩:=execw_some.1 hx
   exact ⟨n,by simp only [exec];rw [hn];rw [hx] at h;exact h⟩

theorem execw_scope (c:Code) (s:St):execw C kp (.scope c) s=if noGoto c then execw C kp c s else none:=by
 apply Option.ext
 intro r
 rw [execw_some]
 simp only [exec]
 by_cases hg:noGoto c=true
 ·simp only [hg,if_true];rw [execw_some]
 ·simp [hg]

theorem execw_loop (c : Code) (s : St) : execw C kp (.loop c) s = match execw C kp c (trim kp c s) with
    | some (.normal,s')=>execw C kp (.loop c) s'
    | r=>r:=by
 apply Option.ext
 intro r
 rw [execw_some]
 constructor
 ·rintro ⟨n,hn⟩
  simp only [exec] at hn
  cases n with
  | zero=>cases hn
  | succ n =>
   unfold loopN at hn
   cases hx:exec C (call C (n+1)) kp (n+1) c (trim kp c s) with
   | none=>simp [hx] at hn
   | some p =>
    rw [execw_some.2 ⟨n+1,hx⟩]
    obtain ⟨e,s'⟩:=p
    cases e with
    | normal =>
     simp only [hx] at hn ⊢
     refine execw_some.2 ⟨n+1,?_⟩
     simp only [exec]
     exact loopN_mono (fun s r h=>h) n (n+1) s' r (Nat.le_succ _) hn
    | _=>simpa [hx] using hn
 ·intro h
  cases hx:execw C kp c (trim kp c s) with
  | none=>simp [hx] at h
  | some p =>
   obtain ⟨n,hn⟩:=execw_some.1 hx
   obtain ⟨e,s'⟩:=p
   cases e with
   | normal =>
    simp only [hx] at h
    obtain ⟨m,hm⟩:=execw_some.1 h
    simp only [exec] at hm
    have hm1:=Nat.le_max_left n m
    have hm2:=Nat.le_max_right n m
    refine ⟨max n m+1,?_⟩
    simp only [exec]
    unfold loopN
    rw [exec_mono (call_mono n (max n m+1) (by omega)) (m:=max n m+1) (by omega) _ _ _ hn]
    exact loopN_mono (fun s r h=>exec_mono (call_mono m (max n m+1) (by omega)) (by omega) _ _ _ h) m (max n m) s' r hm2 hm
   | _ =>
    simp only [hx] at h
    refine ⟨n+1,?_⟩
    simp only [exec]
    unfold loopN
    rw [exec_mono (call_mono n (n+1) (by omega)) (m:=n+1) (by omega) _ _ _ hn]
    exact h

theorem execw_skip (s:St):execw C kp .skip s=some (.normal,s):=execw_some.2 ⟨0,rfl⟩
theorem execw_label (l:Nat) (s:St):execw C kp (.label l) s=some (.normal,s):=execw_some.2 ⟨0,rfl⟩
theorem execw_exit (i:Nat) (s:St):execw C kp (.exit i) s=some (.exit i,s):=execw_some.2 ⟨0,rfl⟩
theorem execw_goto (i:Nat) (s:St):execw C kp (.goto i) s=some (.goto i,s):=execw_some.2 ⟨0,rfl⟩
theorem execw_ret (s:St):execw C kp .ret s=some (.ret,s):=execw_some.2 ⟨0,rfl⟩
theorem execw_none {c:Code} {s:St} (h:∀ n,exec C (call C n) kp n c s=none):execw C kp c s=none:=by
 cases hx:execw C kp c s with
 | none=>rfl
 | some r=>obtain ⟨n,hn⟩:=execw_some.1 hx;rw [h n] at hn;cases hn
end

theorem callw_eq {f : FuncId} {fn : Func} {c : Code} (hf : C.P.funcs[f]? = some fn) (hb : fn.body = some c) (args : List AV) (H : Hp) : callw C f args H =
    match execw C (C.keep f) c (args++List.replicate (fn.ntmps - args.length) .undef,H) with
    | some (.normal,s) | some (.ret,s)=>match resVal C fn s with
     | some v=>leave C f H (v,s.2)
     | none=>none
    | _=>none:=by
 apply Option.ext
 intro r
 rw [callw_some]
 constructor
 ·rintro ⟨n,hn⟩
  cases n with
  | zero=>cases hn
  | succ n =>
   simp only [call,hf,hb] at hn
   unfold body at hn
   cases hx:exec C (call C n) (C.keep f) n c (args++List.replicate (fn.ntmps - args.length) .undef,H) with
   | none=>simp [hx] at hn
   | some p=>rw [execw_some.2 ⟨n,hx⟩];rw [hx] at hn;exact hn
 ·intro h
  cases hx:execw C (C.keep f) c (args++List.replicate (fn.ntmps - args.length) .undef,H) with
  | none=>simp [hx] at h
  | some p =>
   obtain ⟨n,hn⟩:=execw_some.1 hx
   refine ⟨n+1,?_⟩
   simp only [call,hf,hb]
   unfold body
   rw [hn]
   rw [hx] at h
   exact h

theorem callw_sound {W0:World} (hC:okCfg C):CallsOk C W0 (callw C):=by
 intro W1 f args H H' v h S args' hI hG hs ha
 obtain ⟨n,hn⟩:=callw_some.1 h
 exact call_sound (W0:=W1) hC n f args H H' v hn S args' hI hG hs ha
end
end Go.Am
