/-
  THE ABSTRACT MACHINE, part O: calls are sound.
-/
import Derived.Test.YtehanadfidoodaaGreatDoorEmMx
namespace Go.Am
open RowKit
section
variable {C:Cfg}{W0:World}
theorem Za5 {P:Program}{t:TypeId}{u:Value}{ad:Addr}{v:Value}{w:World}(hu:u=.pointer (some ad))(h:(loadVar t ad).run P w=.ok v w):(do loadVar t (←asAddr u):Sem Value).run P w=.ok v w:=by
 subst hu
 simp[asAddr,h]
def ZfM (tmps:Array Value):ResultVar→Sem Value
 |.tmp t=>pure (tmps.getD t undef)
 |.cell a t=>do loadVar t (←asAddr (tmps.getD a undef))
theorem Zjw (fn:Func)(tmps:Array Value):results fn tmps=(do let vs ←fn.results.mapM (ZfM tmps);pure (if h:vs.size=1 then vs[0] else .tuple vs)):=by
 unfold results
 congr 1
theorem ZfB {S:Snap}{H:Hp}{tm:List AV}{tmps:Array Value}(hI:Inv W0 S H)(hF:FRel S tm tmps){r:ResultVar}{v:AV}(h:XR C (tm,H) r=some v) :
 ∃ v',(ZfM tmps r).run C.P S.w=.ok v' S.w∧VRel S v v':=by
 cases r with
 |tmp t =>
  simp only[XR,Option.some.injEq]at h
  subst h
  exact⟨_,rfl,hF.getD t⟩
 |cell a t =>
  simp only[XR]at h
  split at h
  ·rename_i g sz hg hs
   obtain⟨v',ad,hu,hr,hv⟩:=O0 (P:=C.P) hI hg hs (hF.getD a) h
   exact⟨v',Za5 hu hr,hv⟩
  ·cases h
theorem Zod {S:Snap}{H:Hp}{tm:List AV}{tmps:Array Value}(hI:Inv W0 S H)(hF:FRel S tm tmps):∀ (l:List ResultVar) (r:List AV),l.mapM (XR C (tm,H))=some r →
 ∃ vs:List Value,(l.mapM (ZfM tmps)).run C.P S.w=.ok vs S.w∧vs.length=r.length ∧
  ∀ (i:Nat) (a:AV) (v:Value),r[i]?=some a→vs[i]?=some v→VRel S a v:=by
 intro l
 induction l with
 |nil=>intro r h;simp at h;subst h;exact⟨[],rfl,rfl,by simp⟩
 |cons x l ih =>
  intro r h
  rw[List.mapM_cons]at h
  cases hx:XR C (tm,H) x with
  |none=>simp[hx]at h
  |some a =>
   cases hl:l.mapM (XR C (tm,H)) with
   |none=>simp[hx,hl]at h
   |some as =>
    simp[hx,hl]at h
    subst h
    obtain⟨v,h1,h2⟩:=ZfB hI hF hx
    obtain⟨vs,h3,h4,h5⟩:=ih as hl
    refine⟨v::vs,?_,by simp[h4],fun i a v ha hv=>?_⟩
    ·rw[List.mapM_cons]
     simp only[Sem.run_bind,h1,h3,Result.andThen_ok,Sem.run_pure]
    ·cases i with
     |zero=>simp at ha hv;subst ha hv;exact h2
     |succ i=>exact h5 i a v (by simpa using ha) (by simpa using hv)
theorem ZfC {S:Snap}{H:Hp}{tm:List AV}{tmps:Array Value}(hI:Inv W0 S H)(hF:FRel S tm tmps){fn:Func}{v:AV}(h:Vb C fn (tm,H)=some v):∃ v',(results fn tmps).run C.P S.w=.ok v' S.w∧VRel S v v':=by
 unfold Vb at h
 have main:∀ l,fn.results.toList.mapM (XR C (tm,H))=some l→∃ vs:List Value,(results fn tmps).run C.P S.w=.ok (if h:vs.toArray.size=1 then vs.toArray[0] else .tuple vs.toArray) S.w∧vs.length=l.length ∧
  ∀ (i:Nat) (a:AV) (v:Value),l[i]?=some a→vs[i]?=some v→VRel S a v:=by
  intro l hl
  obtain⟨vs,h1,h2,h3⟩:=Zod hI hF _ l hl
  refine⟨vs,?_,h2,h3⟩
  rw[Zjw,Sem.run_bind,Array.mapM_eq_mapM_toList,Sem.run_map,h1]
  rfl
 split at h
 ·rename_i v1 hl
  injection h with h
  subst h
  obtain⟨vs,h1,h2,h3⟩:=main _ hl
  match vs,h2 with
  |[u],_=>exact⟨u,by simpa using h1,h3 0 v1 u rfl rfl⟩
 ·rename_i l hne hl
  injection h with h
  subst h
  obtain⟨vs,h1,h2,h3⟩:=main _ hl
  have hn:vs.toArray.size≠1:=by
   intro hc
   have:l.length=1:=by simp at hc;omega
   match l,this with
   |[a],_=>exact hne a rfl
  rw[dif_neg hn]at h1
  exact⟨_,h1,.tuple _ _ (by simp[h2]) fun i a v ha hv=>h3 i a v ha (by simpa using hv)⟩
 ·cases h
theorem Zff {S:Snap}{args:List AV}{args':Array Value}(hs:args'.size=args.length)(h:∀ (i:Nat) (a:AV) (u:Value),args[i]?=some a→args'[i]?=some u→VRel S a u)(n:Nat) :
 FRel S (args++List.replicate (n-args.length) .undef) (args'++Array.replicate (n-args'.size) undef):=by
 refine⟨by simp[hs],fun i a v ha hv=>?_⟩
 rcases Nat.lt_or_ge i args.length with hi|hi
 ·rw[List.getElem?_append_left hi]at ha
  rw[Array.getElem?_append_left (by omega)]at hv
  exact h i a v ha hv
 ·rw[List.getElem?_append_right hi]at ha
  rw[Array.getElem?_append_right (by omega)]at hv
  rw[List.getElem?_replicate]at ha
  rw[Array.getElem?_replicate]at hv
  split at ha
  ·injection ha with ha
   split at hv
   ·injection hv with hv
    subst ha hv
    exact .undef _
   ·cases hv
  ·cases ha
theorem Zik (hC:QW C){cl:ZD}(hcall:WX C W0 cl)(hfr:W7 cl){n:Nat}{f:FuncId}{fn:Func}{c:Code}(hf:C.P.funcs[f]?=some fn)(hb:fn.body=some c){args:List AV}{H H':Hp}{v:AV}
 (h:body C cl n f fn c args H=some (v,H')) {S:Snap} {args':Array Value} (hI:Inv W0 S H) (hG:GlobOk C S) (hs:args'.size=args.length) (ha:∀ (i:Nat) (a:AV) (u:Value),args[i]?=some a→args'[i]?=some u→VRel S a u) :
 Calls C.P f args' S.w fun e w'=>∃ v' S',e=.returned v'∧S'.w=w'∧Ext S S'∧Inv W0 S' H'∧VRel S' v v':=by
 unfold body at h
 refine calls_of_wp hf hb ?_
 have hrel:Rel C W0 S (args++List.replicate (fn.ntmps-args.length) .undef,H) { tmps:=args'++Array.replicate (fn.ntmps-args'.size) undef,defers:=[] } S.w :=
  ⟨S,rfl,Ext.refl S,hI,hG,Zff hs ha fn.ntmps,rfl⟩
 cases hex:ZI C cl (C.keep f) n c (args++List.replicate (fn.ntmps-args.length) .undef,H) with
 |none=>simp[hex]at h
 |some p =>
  obtain⟨e,s⟩:=p
  refine wp_mono (ZpL hC hcall hfr c _ s e _ _ hex hrel) fun e' a w hp=>?_
  obtain⟨rfl,S1,rfl,hx1,hI1,hG1,hF1,hd1⟩:=hp
  have fin:∀ r,(match Vb C fn s with|some v=>BV C f H (v,s.2)|none=>none)=some r→r=(v,H')→a.defers=[]∧∃ v,(results fn a.tmps).run C.P S1.w=.ok v S1.w ∧
   (fun e w'=>∃ v' S',e=Ending.returned v'∧S'.w=w'∧Ext S S'∧Inv W0 S' H'∧VRel S' r.1 v') (.returned v) S1.w:=by
   rintro r hr rfl
   refine⟨hd1,?_⟩
   split at hr
   ·rename_i v1 hv1
    obtain⟨v',hrun,hv⟩:=ZfC (tm:=s.1) hI1 hF1 hv1
    refine⟨v',hrun,?_⟩
    unfold BV at hr
    split at hr
    ·unfold Zfi at hr
     split at hr
     ·rename_i htake
      cases hcl:Z9 s.2 H.length 6 v1 with
      |none=>simp[hcl]at hr
      |some v2 =>
       simp only[hcl,Option.some.injEq,Prod.mk.injEq]at hr
       obtain⟨rfl,rfl⟩:=hr
       exact⟨v',S1.back H,rfl,rfl,Ext.back hI hx1,Inv.back hI hI1 htake,Pk hI1 htake 6 _ _ _ hcl hv⟩
     ·cases hr
    ·simp only[Option.some.injEq,Prod.mk.injEq]at hr
     obtain⟨rfl,rfl⟩:=hr
     exact⟨v',S1,rfl,rfl,hx1,hI1,hv⟩
   ·cases hr
  cases e with
  |normal =>
   simp only[hex]at h
   exact fin _ h rfl
  |ret =>
   simp only[hex]at h
   exact fin _ h rfl
  |_=>simp[hex]at h
theorem Zim (hC:QW C):∀ n,WX C W0 (call C n):=by
 intro n
 induction n with
 |zero=>intro W1 f args H H' v h;simp[call]at h
 |succ n ih =>
  intro W1 f args H H' v h S args' hI hG hs ha
  have ih':WX C W1 (call C n):=ih
  simp only[call]at h
  split at h
  ·cases h
  ·rename_i fn hf
   split at h
   ·cases h
   ·rename_i c hb
    exact Zik hC ih' (O3 C n) hf hb h hI hG hs ha
end
end Go.Am
namespace Go.Am
open RowKit
section
variable {C:Cfg}
def Le (c c':ZD):Prop:=∀ f a H r,c f a H=some r→c' f a H=some r
theorem Zbl {a:List AV→Hp→Option (AV×Hp)}{args:List AV}{H:Hp}{r:AV×Hp}(h:Ze a args H=some r) :
 ∃ args' q,a args' []=some q∧∀ b:List AV→Hp→Option (AV×Hp),b args' []=some q→Ze b args H=some r:=by
 unfold Ze at h
 split at h
 ·rename_i args1 hm
  split at h
  ·rename_i v1 H1 hc
   exact⟨args1,_,hc,fun b hb=>by unfold Ze;simp only[hm,hb];exact h⟩
  ·cases h
 ·cases h
theorem ZfJ {a:List AV→Hp→Option (AV×Hp)}{args:List AV}{H:Hp}{r:AV×Hp}(h:D7 a args H=some r) :
 ∃ q,a args H=some q∧∀ b:List AV→Hp→Option (AV×Hp),b args H=some q→D7 b args H=some r:=by
 unfold D7 at h
 split at h
 ·rename_i v1 H1 hc
  exact⟨_,hc,fun b hb=>by unfold D7;simp only[hb];exact h⟩
 ·cases h
theorem Zg9 {c c':ZD}(h:Le c c'){id:FuncId}{args:List AV}{H:Hp}{r:AV×Hp}(hr:Xc C c id args H=some r):Xc C c' id args H=some r:=by
 unfold Xc at hr ⊢
 cases he:C.ext id with
 |some e=>simpa[he]using hr
 |none =>
  cases hsm:C.sum id with
  |some g=>simpa[he,hsm]using hr
  |none =>
  cases hef:C.eff id with
  |some g=>simpa[he,hsm,hef]using hr
  |none =>
  simp only[he,hsm,hef]at hr ⊢
  by_cases hu:C.user id=true
  ·by_cases hfl:C.flat id=true
   ·simp only[hu,hfl,if_true]at hr ⊢
    obtain⟨args',q,q1,q2⟩:=Zbl hr
    exact q2 _ (h _ _ _ _ q1)
   ·by_cases hro:C.ro id=true
    ·simp only[hu,hfl,hro,Bool.false_eq_true,if_false,if_true]at hr ⊢
     obtain⟨q,q1,q2⟩:=ZfJ hr
     exact q2 _ (h _ _ _ _ q1)
    ·simp only[hu,hfl,hro,Bool.false_eq_true,if_false,if_true]at hr ⊢
     exact h _ _ _ _ hr
  ·simp[hu]at hr
theorem ZaR {c c':ZD}(h:Le c c'){f:AV}{args:List AV}{H:Hp}{r:AV×Hp}(hr:Yp C c f args H=some r):Yp C c' f args H=some r:=by
 unfold Yp at hr ⊢
 split at hr
 ·exact Zg9 h hr
 ·cases hr
theorem Zga {c c':ZD}(h:Le c c'){f:AV}{args:List AV}{H:Hp}{r:AV×Hp}(hr:Xd C c f args H=some r):Xd C c' f args H=some r:=by
 unfold Xd qC at hr ⊢
 split at hr
 ·split at hr
  ·rename_i hq
   rw[if_pos hq]
   exact ZaR h hr
  ·cases hr
 ·cases hr
theorem ZhY {c c':ZD}(h:Le c c'){ev:Operand→AV}{H:Hp}{op:Op}{r:AV×Hp}(hr:ZE C c ev H op=some r):ZE C c' ev H op=some r:=by
 cases op <;> try exact hr
 case makeMap t r=>cases r <;> exact hr
 case call cl =>
  obtain⟨callee,args,ts⟩:=cl
  cases callee with
  |value f =>
   simp only[ZE]at hr ⊢
   split at hr
   ·rename_i hq
    rw[if_pos hq]
    exact Zga h hr
   ·rename_i hq
    rw[if_neg hq]
    exact ZaR h hr
  |invoke r m=>exact hr
  |builtin b=>cases b <;> exact hr
theorem ZmX {c c':ZD}(h:Le c c'){ev:Operand→AV}{H:Hp}{fl:Bool}{op:Op}{r:AV×Hp}(hr:Xl C c ev H fl op=some r):Xl C c' ev H fl op=some r:=by
 unfold Xl at hr ⊢
 split at hr
 ·exact hr
 ·split at hr
  ·cases hr
  ·rename_i hf
   rw[if_neg hf]
   exact ZhY h hr
theorem Zjk {c c':ZD}(h:Le c c'){ops:Array Oper}{fl:Bool}{o:Oper}{s r:St}(hr:Uq C c ops fl o s=some r):Uq C c' ops fl o s=some r:=by
 unfold Uq Wo at hr ⊢
 cases hw:Wx ops s.1 o with
 |none=>simp[hw]at hr
 |some b =>
  cases b with
  |false=>simp only[hw]at hr ⊢;exact hr
  |true =>
   simp only[hw]at hr ⊢
   cases ha:Xl C c (eval C s.1) s.2 fl o.op with
   |none=>simp[ha]at hr
   |some q=>rw[ZmX h ha];rw[ha]at hr;exact hr
theorem ZbP {c c':ZD}(h:Le c c'){ops:Array Oper}{draw:Bool}{b i:Nat}{o:Oper}{s r:St}(hr:XD C c ops draw b i o s=some r):XD C c' ops draw b i o s=some r:=by
 unfold XD at hr ⊢
 by_cases hl:(draw&&Wm C ops i)=true
 ·rw[if_pos hl]at hr ⊢;exact hr
 ·rw[if_neg hl]at hr ⊢;exact Zjk h hr
theorem Pr {c c':ZD}(h:Le c c'){ops:Array Oper}{draw:Bool}{b:Nat}:∀ (l:List Oper) (i:Nat) (s r:St),Yb C c ops draw b i l s=some r→Yb C c' ops draw b i l s=some r:=by
 intro l
 induction l with
 |nil=>intro i s r hr;exact hr
 |cons o l ih =>
  intro i s r hr
  unfold Yb at hr ⊢
  split at hr
  ·rename_i s' hs
   rw[ZbP h hs]
   exact ih _ _ _ hr
  ·cases hr
theorem EY {f g:St→Option (AExit×St)}(h:∀ s r,f s=some r→g s=some r):∀ (n m:Nat) (s:St) (r:AExit×St),n≤m→Up f n s=some r→Up g m s=some r:=by
 intro n
 induction n with
 |zero=>intro m s r _ hr;cases hr
 |succ n ih =>
  intro m s r hm hr
  obtain⟨m,rfl⟩:∃ k,m=k+1:=⟨m-1,by omega⟩
  unfold Up at hr ⊢
  cases hf:f s with
  |none=>simp[hf]at hr
  |some p =>
   rw[h s p hf]
   obtain⟨e,s'⟩:=p
   cases e with
   |normal=>simp only[hf]at hr ⊢;exact ih m s' r (by omega) hr
   |_=>simpa[hf]using hr
theorem Jm {c c':ZD}(h:Le c c'){kp:Nat→Option (List Nat)}{n m:Nat}(hnm:n≤m):∀ (cd:Code) (s:St) (r:AExit×St),ZI C c kp n cd s=some r→ZI C c' kp m cd s=some r:=by
 intro cd
 induction cd with
 |region id ops draw =>
  intro s r hr
  simp only[ZI]at hr ⊢
  split at hr
  ·cases hr
  ·rename_i hd
   rw[if_neg hd]
   split at hr
   ·rename_i s' hs
    rw[Pr h _ _ _ _ hs]
    exact hr
   ·cases hr
 |seq x y ihx ihy =>
  intro s r hr
  simp only[ZI]at hr ⊢
  cases hx:ZI C c kp n x s with
  |none=>simp[hx]at hr
  |some p =>
   rw[ihx s p hx]
   obtain⟨e,s'⟩:=p
   cases e with
   |normal=>simp only[hx]at hr ⊢;exact ihy _ _ hr
   |_=>simpa[hx]using hr
 |cond o x y ihx ihy =>
  intro s r hr
  simp only[ZI]at hr ⊢
  split at hr
  ·rename_i t ht
   cases t with
   |true=>exact ihx _ _ (by simpa using hr)
   |false=>exact ihy _ _ (by simpa using hr)
  ·cases hr
 |block id x ih =>
  intro s r hr
  simp only[ZI]at hr ⊢
  cases hx:ZI C c kp n x s with
  |none=>simp[hx]at hr
  |some p=>rw[ih s p hx];rw[hx]at hr;exact hr
 |loop x ih =>
  intro s r hr
  simp only[ZI]at hr ⊢
  exact EY (fun s r=>ih (trim kp x s) r) n m s r hnm hr
 |_=>intro s r hr;exact hr
theorem Zko {c c':ZD}(h:Le c c'){n m:Nat}(hnm:n≤m){f:FuncId}{fn:Func}{cd:Code}{args:List AV}{H:Hp}{r:AV×Hp}(hr:body C c n f fn cd args H=some r):body C c' m f fn cd args H=some r:=by
 unfold body at hr ⊢
 cases hx:ZI C c (C.keep f) n cd (args++List.replicate (fn.ntmps-args.length) .undef,H) with
 |none=>simp[hx]at hr
 |some p=>rw[Jm h hnm _ _ _ hx];rw[hx]at hr;exact hr
theorem VL:∀ (n m:Nat),n≤m→Le (call C n) (call C m):=by
 intro n
 induction n with
 |zero=>intro m _ f a H r hr;cases hr
 |succ n ih =>
  intro m hm f a H r hr
  obtain⟨m,rfl⟩:∃ k,m=k+1:=⟨m-1,by omega⟩
  simp only[call]at hr ⊢
  split at hr
  ·cases hr
  ·rename_i fn hf
   split at hr
   ·cases hr
   ·rename_i cd hb
    exact Zko (ih m (by omega)) (by omega) hr
open Classical in
noncomputable def lim {α:Type}(f:Nat→Option α):Option α:=if h:∃ n r,f n=some r then some h.choose_spec.choose else none
theorem Zfj {α:Type}{f:Nat→Option α}(hm:∀ n m r,n≤m→f n=some r→f m=some r){r:α}:lim f=some r↔∃ n,f n=some r:=by
 unfold lim
 constructor
 ·intro h
  split at h
  ·rename_i hx
   injection h with h
   exact⟨hx.choose,h ▸ hx.choose_spec.choose_spec⟩
  ·cases h
 ·rintro⟨n,hn⟩
  have hx:∃ n r,f n=some r:=⟨n,r,hn⟩
  rw[dif_pos hx]
  have h1:=hm _ (max hx.choose n) _ (Nat.le_max_left _ _) hx.choose_spec.choose_spec
  have h2:=hm _ (max hx.choose n) _ (Nat.le_max_right _ _) hn
  rw[h1]at h2
  exact h2
noncomputable def Za (C:Cfg):ZD:=fun f a H=>lim fun n=>call C n f a H
theorem VM {f:FuncId}{a:List AV}{H:Hp}{r:AV×Hp}:Za C f a H=some r↔∃ n,call C n f a H=some r:=Zfj fun n m r h hr=>VL n m h f a H r hr
noncomputable def Yi (C:Cfg)(kp:Nat→Option (List Nat))(c:Code)(s:St):Option (AExit×St):=lim fun n=>ZI C (call C n) kp n c s
theorem ZO {kp:Nat→Option (List Nat)}{c:Code}{s:St}{r:AExit×St}:Yi C kp c s=some r↔∃ n,ZI C (call C n) kp n c s=some r :=
 Zfj fun n m r h hr=>Jm (VL n m h) h c s r hr
theorem ZdY (n:Nat):Le (call C n) (Za C):=fun _ _ _ _ h=>VM.2 ⟨n,h⟩
theorem Zpf {id:FuncId}{args:List AV}{H:Hp}{r:AV×Hp}(h:Xc C (Za C) id args H=some r):∃ n,Xc C (call C n) id args H=some r:=by
 unfold Xc at h
 cases he:C.ext id with
 |some e=>exact⟨0,by unfold Xc;simpa[he]using h⟩
 |none =>
  cases hsm:C.sum id with
  |some g=>exact⟨0,by unfold Xc;simpa[he,hsm]using h⟩
  |none =>
  cases hef:C.eff id with
  |some g=>exact⟨0,by unfold Xc;simpa[he,hsm,hef]using h⟩
  |none =>
  simp only[he,hsm,hef]at h
  by_cases hu:C.user id=true
  ·by_cases hfl:C.flat id=true
   ·simp only[hu,hfl,if_true]at h
    obtain⟨args',q,q1,q2⟩:=Zbl h
    obtain⟨n,hn⟩:=VM.1 q1
    exact⟨n,by unfold Xc;simp only[he,hsm,hef,hu,hfl,if_true];exact q2 _ hn⟩
   ·by_cases hro:C.ro id=true
    ·simp only[hu,hfl,hro,Bool.false_eq_true,if_false,if_true]at h
     obtain⟨q,q1,q2⟩:=ZfJ h
     obtain⟨n,hn⟩:=VM.1 q1
     exact⟨n,by unfold Xc;simp only[he,hsm,hef,hu,hfl,hro,Bool.false_eq_true,if_false,if_true];exact q2 _ hn⟩
    ·simp only[hu,hfl,hro,Bool.false_eq_true,if_false,if_true]at h
     obtain⟨n,hn⟩:=VM.1 h
     exact⟨n,by unfold Xc;simp only[he,hsm,hef,hu,hfl,hro,Bool.false_eq_true,if_false,if_true];exact hn⟩
  ·simp[hu]at h
theorem Zk6 {f:AV}{args:List AV}{H:Hp}{r:AV×Hp}(h:Yp C (Za C) f args H=some r):∃ n,Yp C (call C n) f args H=some r:=by
 unfold Yp at h
 split at h
 ·exact Zpf h
 ·cases h
theorem Zpg {f:AV}{args:List AV}{H:Hp}{r:AV×Hp}(h:Xd C (Za C) f args H=some r):∃ n,Xd C (call C n) f args H=some r:=by
 unfold Xd qC at h ⊢
 split at h
 ·split at h
  ·rename_i hq
   obtain⟨n,hn⟩:=Zk6 h
   exact⟨n,by rw[if_pos hq];exact hn⟩
  ·cases h
 ·cases h
theorem ZqH {ev:Operand→AV}{H:Hp}{op:Op}{r:AV×Hp}(h:ZE C (Za C) ev H op=some r):∃ n,ZE C (call C n) ev H op=some r:=by
 cases op <;> try exact⟨0,h⟩
 case makeMap t r=>cases r <;> exact⟨0,h⟩
 case call cl =>
  obtain⟨callee,args,ts⟩:=cl
  cases callee with
  |value f =>
   simp only[ZE]at h ⊢
   split at h
   ·rename_i hq
    simp only[if_pos hq]
    exact Zpg h
   ·rename_i hq
    simp only[if_neg hq]
    exact Zk6 h
  |invoke r m=>exact⟨0,h⟩
  |builtin b=>cases b <;> exact⟨0,h⟩
theorem Zsf {ev:Operand→AV}{H:Hp}{fl:Bool}{op:Op}{r:AV×Hp}(h:Xl C (Za C) ev H fl op=some r):∃ n,Xl C (call C n) ev H fl op=some r:=by
 unfold Xl at h ⊢
 split at h
 ·exact⟨0,h⟩
 ·split at h
  ·cases h
  ·rename_i hf
   obtain⟨n,hn⟩:=ZqH h
   exact⟨n,by rw[if_neg hf];exact hn⟩
theorem Zri {ops:Array Oper}{fl:Bool}{o:Oper}{s r:St}(h:Uq C (Za C) ops fl o s=some r):∃ n,Uq C (call C n) ops fl o s=some r:=by
 unfold Uq Wo at h ⊢
 cases hw:Wx ops s.1 o with
 |none=>simp[hw]at h
 |some b =>
  cases b with
  |false=>simp only[hw]at h ⊢;exact⟨0,h⟩
  |true =>
   simp only[hw]at h ⊢
   cases ha:Xl C (Za C) (eval C s.1) s.2 fl o.op with
   |none=>simp[ha]at h
   |some q =>
    obtain⟨n,hn⟩:=Zsf ha
    exact⟨n,by rw[hn];rw[ha]at h;exact h⟩
theorem Zrm {ops:Array Oper}{draw:Bool}{b i:Nat}{o:Oper}{s r:St}(h:XD C (Za C) ops draw b i o s=some r):∃ n,XD C (call C n) ops draw b i o s=some r:=by
 unfold XD at h ⊢
 by_cases hl:(draw&&Wm C ops i)=true
 ·rw[if_pos hl]at h
  simp only[if_pos hl]
  exact⟨0,h⟩
 ·rw[if_neg hl]at h
  simp only[if_neg hl]
  exact Zri h
theorem Znz {ops:Array Oper}{draw:Bool}{b:Nat}:∀ (l:List Oper) (i:Nat) (s r:St),Yb C (Za C) ops draw b i l s=some r→∃ n,Yb C (call C n) ops draw b i l s=some r:=by
 intro l
 induction l with
 |nil=>intro i s r h;exact⟨0,h⟩
 |cons o l ih =>
  intro i s r h
  unfold Yb at h
  split at h
  ·rename_i s' hs
   obtain⟨n,hn⟩:=Zrm hs
   obtain⟨m,hm⟩:=ih _ _ _ h
   refine⟨max n m,?_⟩
   unfold Yb
   rw[ZbP (VL n _ (Nat.le_max_left n m)) hn]
   exact Pr (VL m _ (Nat.le_max_right n m)) _ _ _ _ hm
  ·cases h
section
variable {kp:Nat→Option (List Nat)}
theorem ZeZ (id:Nat)(ops:Array Oper)(draw:Bool)(s:St):Yi C kp (.region id ops draw) s =
 if draw&&!QG ops then none else match Yb C (Za C) ops draw (frzs kp id s).2.length 0 ops.toList ((frzs kp id s).1,QX (if draw then WB C ops ops.size else 0) (frzs kp id s).2) with
  |some s'=>some (.normal,s')
  |none=>none:=by
 apply Option.ext
 intro r
 rw[ZO]
 constructor
 ·rintro⟨n,hn⟩
  simp only[ZI]at hn
  split at hn
  ·cases hn
  ·rename_i hd
   rw[if_neg hd]
   split at hn
   ·rename_i s' hs
    rw[Pr (ZdY n) _ _ _ _ hs]
    exact hn
   ·cases hn
 ·intro h
  split at h
  ·cases h
  ·rename_i hd
   split at h
   ·rename_i s' hs
    obtain⟨n,hn⟩:=Znz _ _ _ _ hs
    exact⟨n,by simp only[ZI];rw[if_neg hd,hn];exact h⟩
   ·cases h
theorem ZkS (a b:Code)(s:St):Yi C kp (.seq a b) s=match Yi C kp a s with
 |some (.normal,s')=>Yi C kp b (trim kp b s')
 |r=>r:=by
 apply Option.ext
 intro r
 rw[ZO]
 constructor
 ·rintro⟨n,hn⟩
  simp only[ZI]at hn
  cases hx:ZI C (call C n) kp n a s with
  |none=>simp[hx]at hn
  |some p =>
   rw[ZO.2 ⟨n,hx⟩]
   obtain⟨e,s'⟩:=p
   cases e with
   |normal=>simp only[hx]at hn ⊢;exact ZO.2 ⟨n,hn⟩
   |_=>simpa[hx]using hn
 ·intro h
  cases hx:Yi C kp a s with
  |none=>simp[hx]at h
  |some p =>
   obtain⟨n,hn⟩:=ZO.1 hx
   obtain⟨e,s'⟩:=p
   cases e with
   |normal =>
    simp only[hx]at h
    obtain⟨m,hm⟩:=ZO.1 h
    refine⟨max n m,?_⟩
    simp only[ZI]
    rw[Jm (VL n _ (Nat.le_max_left n m)) (Nat.le_max_left n m) _ _ _ hn]
    exact Jm (VL m _ (Nat.le_max_right n m)) (Nat.le_max_right n m) _ _ _ hm
   |_=>exact⟨n,by simp only[ZI];rw[hn];simpa[hx]using h⟩
theorem Ziz (o:Operand)(x y:Code)(s:St):Yi C kp (.cond o x y) s=match eval C s.1 o with
 |.bool t=>if t then Yi C kp x s else Yi C kp y s
 |_=>none:=by
 apply Option.ext
 intro r
 rw[ZO]
 simp only[ZI]
 generalize eval C s.1 o=v
 cases v with
 |bool t=>cases t <;> simp[ZO]
 |_=>simp
theorem ZgD (id:Nat)(c:Code)(s:St):Yi C kp (.block id c) s=match Yi C kp c s with
 |some (.exit i,s')=>if i=id then some (.normal,s') else some (.exit i,s')
 |r=>r:=by
 apply Option.ext
 intro r
 rw[ZO]
 constructor
 ·rintro⟨n,hn⟩
  simp only[ZI]at hn
  cases hx:ZI C (call C n) kp n c s with
  |none=>simp[hx]at hn
  |some p=>rw[ZO.2 ⟨n,hx⟩];rw[hx]at hn;exact hn
 ·intro h
  cases hx:Yi C kp c s with
  |none=>simp[hx]at h
  |some p =>
   obtain⟨n,hn⟩:=ZO.1 hx
   exact⟨n,by simp only[ZI];rw[hn];rw[hx]at h;exact h⟩
theorem BO (c:Code)(s:St):Yi C kp (.loop c) s=match Yi C kp c (trim kp c s) with
 |some (.normal,s')=>Yi C kp (.loop c) s'
 |r=>r:=by
 apply Option.ext
 intro r
 rw[ZO]
 constructor
 ·rintro⟨n,hn⟩
  simp only[ZI]at hn
  cases n with
  |zero=>cases hn
  |succ n =>
   unfold Up at hn
   cases hx:ZI C (call C (n+1)) kp (n+1) c (trim kp c s) with
   |none=>simp[hx]at hn
   |some p =>
    rw[ZO.2 ⟨n+1,hx⟩]
    obtain⟨e,s'⟩:=p
    cases e with
    |normal =>
     simp only[hx]at hn ⊢
     refine ZO.2 ⟨n+1,?_⟩
     simp only[ZI]
     exact EY (fun s r h=>h) n (n+1) s' r (Nat.le_succ _) hn
    |_=>simpa[hx]using hn
 ·intro h
  cases hx:Yi C kp c (trim kp c s) with
  |none=>simp[hx]at h
  |some p =>
   obtain⟨n,hn⟩:=ZO.1 hx
   obtain⟨e,s'⟩:=p
   cases e with
   |normal =>
    simp only[hx]at h
    obtain⟨m,hm⟩:=ZO.1 h
    simp only[ZI]at hm
    have hm1:=Nat.le_max_left n m
    have hm2:=Nat.le_max_right n m
    refine⟨max n m+1,?_⟩
    simp only[ZI]
    unfold Up
    rw[Jm (VL n (max n m+1) (by omega)) (m:=max n m+1) (by omega) _ _ _ hn]
    exact EY (fun s r h=>Jm (VL m (max n m+1) (by omega)) (by omega) _ _ _ h) m (max n m) s' r hm2 hm
   |_ =>
    simp only[hx]at h
    refine⟨n+1,?_⟩
    simp only[ZI]
    unfold Up
    rw[Jm (VL n (n+1) (by omega)) (m:=n+1) (by omega) _ _ _ hn]
    exact h
theorem ZiC (s:St):Yi C kp .skip s=some (.normal,s):=ZO.2 ⟨0,rfl⟩
theorem ZgE (l:Nat)(s:St):Yi C kp (.label l) s=some (.normal,s):=ZO.2 ⟨0,rfl⟩
theorem ZiA (i:Nat)(s:St):Yi C kp (.exit i) s=some (.exit i,s):=ZO.2 ⟨0,rfl⟩
theorem ZiB (i:Nat)(s:St):Yi C kp (.goto i) s=some (.goto i,s):=ZO.2 ⟨0,rfl⟩
theorem ZkR (s:St):Yi C kp .ret s=some (.ret,s):=ZO.2 ⟨0,rfl⟩
theorem EJ {c:Code}{s:St}(h:∀ n,ZI C (call C n) kp n c s=none):Yi C kp c s=none:=by
 cases hx:Yi C kp c s with
 |none=>rfl
 |some r=>obtain⟨n,hn⟩:=ZO.1 hx;rw[h n]at hn;cases hn
end
theorem Zn8 {f:FuncId}{fn:Func}{c:Code}(hf:C.P.funcs[f]?=some fn)(hb:fn.body=some c)(args:List AV)(H:Hp):Za C f args H =
 match Yi C (C.keep f) c (args++List.replicate (fn.ntmps-args.length) .undef,H) with
 |some (.normal,s)|some (.ret,s)=>match Vb C fn s with
  |some v=>BV C f H (v,s.2)
  |none=>none
 |_=>none:=by
 apply Option.ext
 intro r
 rw[VM]
 constructor
 ·rintro⟨n,hn⟩
  cases n with
  |zero=>cases hn
  |succ n =>
   simp only[call,hf,hb]at hn
   unfold body at hn
   cases hx:ZI C (call C n) (C.keep f) n c (args++List.replicate (fn.ntmps-args.length) .undef,H) with
   |none=>simp[hx]at hn
   |some p=>rw[ZO.2 ⟨n,hx⟩];rw[hx]at hn;exact hn
 ·intro h
  cases hx:Yi C (C.keep f) c (args++List.replicate (fn.ntmps-args.length) .undef,H) with
  |none=>simp[hx]at h
  |some p =>
   obtain⟨n,hn⟩:=ZO.1 hx
   refine⟨n+1,?_⟩
   simp only[call,hf,hb]
   unfold body
   rw[hn]
   rw[hx]at h
   exact h
theorem O4 {W0:World}(hC:QW C):WX C W0 (Za C):=by
 intro W1 f args H H' v h S args' hI hG hs ha
 obtain⟨n,hn⟩:=VM.1 h
 exact Zim (W0:=W1) hC n f args H H' v hn S args' hI hG hs ha
end
end Go.Am
namespace Go.Am
open RowKit
abbrev Z3:=Option (AV×Hp)
abbrev Kt:=AExit→St→Z3
def Z0 {α β:Type}(x:Option α)(f:α→Option β):Option β :=
 match x with
 |some a=>f a
 |none=>none
def Zl (c:AV)(x y:Z3):Z3 :=
 match c with
 |.bool t=>if t then x else y
 |_=>none
def Z6 {α:Type}(g:AV)(want:Bool)(els:α)(x:Option α):Option α :=
 match g with
 |.bool b=>if b==want then x else some els
 |.undef=>none
 |_=>some els
def EO {α:Type}(ops:Array Oper)(tm:List AV)(o:Oper)(els:α)(x:Option α):Option α :=
 match o.guard with
 |none=>x
 |some (j,want)=>match (match ops[j]? with|some g=>g.dst|none=>none) with
  |none=>some els
  |some d=>match tm[d]? with
   |some g=>Z6 g want els x
   |none=>some els
def Te (C:Cfg)(s d:TypeId):Nat :=
 match C.P.underlying s,C.P.underlying d with
 |some (.slice _),some .string=>1
 |some .string,some (.slice _)=>if C.wrb d then 2 else 0
 |_,_=>0
def Ay (C:Cfg)(ts:List TypeId):Nat :=
 match ts with
 |[t]=>match GD C.P t with
  |some _=>1
  |none=>0
 |_=>0
def X5 (C:Cfg):Op→Nat
 |.call { callee:=.builtin .len,argTypes,.. }=>Ay C argTypes.toList
 |.call { callee:=.builtin .delete,.. }=>2
 |.convert s d _=>Te C s d
 |.load _ _=>1
 |.lookup _ _ _ _=>1
 |.alloc _|.box _ _|.store _ _ _|.makeSlice _ _ _=>2
 |.makeMap _ _|.mapUpdate _ _ _ _=>2
 |.call { callee:=.value _,.. }=>2
 |.call { callee:=.builtin .append,.. }=>2
 |.call { callee:=.builtin .copy,.. }=>2
 |_=>0
def Q2 (x:AV)(H:Hp):Option AV :=
 match UK x with
 |some v=>some v
 |none=>match UB x H with
  |some l=>match Wb l with
   |some s=>some (.str s)
   |none=>none
  |none=>none
def Fh (C:Cfg)(ev:Operand→AV)(H:Hp):Op→Option AV
 |.load t a=>match Xg C.P t,YY C.P t with
  |some g,some sz=>Z4 g sz (ev a) H
  |_,_=>none
 |.lookup t x k ck=>match GD C.P t with
  |some (d,e)=>match Qq C.P e with
   |some z=>ZZ d z ck (ev x) (ev k) H
   |none=>none
  |none=>none
 |.convert s d x=>match C.P.underlying s,C.P.underlying d with
  |some (.slice e),some .string=>if Au (C.P.underlying e) then Q2 (ev x) H else none
  |_,_=>none
 |.call { callee:=.builtin .len,args,argTypes }=>match args.toList,argTypes.toList with
  |[x],[t]=>match GD C.P t with
   |some _=>Q0 (ev x) H
   |none=>none
  |_,_=>none
 |_=>none
def Zcu (C:Cfg)(CL:ZD)(ops:Array Oper)(fl:Bool)(o:Oper)(k:St→Z3)(tm:List AV)(H:Hp):Z3 :=
 match (if fl then 0 else X5 C o.op) with
 |0=>Z0 (EO ops tm o (.tuple []) (ZS C (eval C tm) o.op)) fun v=>k (Wl tm o.dst v,H)
 |1=>Z0 (EO ops tm o (.tuple []) (Fh C (eval C tm) H o.op)) fun v=>k (Wl tm o.dst v,H)
 |_=>Z0 (EO ops tm o (.tuple [],H) (ZE C CL (eval C tm) H o.op)) fun r=>k (Wl tm o.dst r.1,r.2)
def BH (C:Cfg)(CL:ZD)(ops:Array Oper)(draw:Bool)(b:Nat):Nat→List Oper→(St→Z3)→St→Z3
 |_,[],k,s=>k s
 |i,o::rest,k,s=>if draw&&Wm C ops i then (if YV C ops i then none else Z0 (Rb (b+WB C ops i) (Py C (eval C s.1) o.op) s.2) fun r=>BH C CL ops draw b (i+1) rest k (Wl s.1 o.dst r.1,r.2))
  else Zcu C CL ops (draw&&YV C ops i) o (BH C CL ops draw b (i+1) rest k) s.1 s.2
abbrev Sa (g:St→Z3)(k:Kt):Kt:=fun e s =>
 match e with
 |.normal=>g s
 |e=>k e s
abbrev HT (id:Nat)(k:Kt):Kt:=fun e s =>
 match e with
 |.exit i=>if i=id then k .normal s else k (.exit i) s
 |e=>k e s
def CX (C:Cfg)(CL:ZD)(LP:Code→Kt→St→Z3)(kp:Nat→Option (List Nat)):Code→Kt→St→Z3
 |.skip,k,s=>k .normal s
 |.region id ops draw,k,s=>if draw&&!QG ops then none else BH C CL ops draw (frzs kp id s).2.length 0 ops.toList (fun s'=>k .normal s') ((frzs kp id s).1,QX (if draw then WB C ops ops.size else 0) (frzs kp id s).2)
 |.seq a b,k,s=>CX C CL LP kp a (Sa (fun s'=>CX C CL LP kp b k (trim kp b s')) k) s
 |.cond c x y,k,s=>Zl (eval C s.1 c) (CX C CL LP kp x k s) (CX C CL LP kp y k s)
 |.block id c,k,s=>CX C CL LP kp c (HT id k) s
 |.loop c,k,s=>LP c k (trim kp c s)
 |.exit id,k,s=>k (.exit id) s
 |.label _,k,s=>k .normal s
 |.goto l,k,s=>k (.goto l) s
 |.ret,k,s=>k .ret s
 |_,_,_=>none
noncomputable def NG (C:Cfg)(kp:Nat→Option (List Nat))(c:Code)(k:Kt)(s:St):Z3:=Z0 (Yi C kp (.loop c) s) fun p=>k p.1 p.2
def sub:Code→List Nat→Code
 |.seq a _,0::p=>sub a p
 |.seq _ b,1::p=>sub b p
 |.cond _ x _,0::p=>sub x p
 |.cond _ _ y,1::p=>sub y p
 |.block _ c,0::p=>sub c p
 |.loop c,0::p=>sub c p
 |c,_=>c
def Z1 (fn:Func):Code :=
 match fn.body with
 |some c=>c
 |none=>.skip
theorem BX {α β:Type}[BEq α][LawfulBEq α]{l:List (α×β)}{a:α}{b:β}(h:l.lookup a=some b):(a,b)∈l:=by
 induction l with
 |nil=>simp at h
 |cons x l ih =>
  obtain⟨c,d⟩:=x
  simp only[List.lookup_cons]at h
  split at h
  ·rename_i he
   injection h with h
   subst h
   rw[eq_of_beq he]
   simp
  ·exact List.mem_cons_of_mem _ (ih h)
def Lv (P:Program)(f:Nat):Prop:=∀ (args:Array Value) (w:World),(callFunc f args).run P w=.ok (.enter f args) w
theorem Zc3 {P:Program}:∀ f∈([]:List Nat),Lv P f:=fun _ h=>by cases h
theorem Z2 {P:Program}{f:Nat}{l:List Nat}(h:Lv P f)(t:∀ g∈l,Lv P g):∀ g∈f::l,Lv P g:=fun g hg=>by
 rcases List.mem_cons.1 hg with rfl|hg
 ·exact h
 ·exact t g hg
def Zhm (l:List (Nat×List (Nat×List Nat)))(f r:Nat):Option (List Nat) :=
 match l.lookup f with
 |some m=>m.lookup r
 |none=>none
section
variable {C:Cfg}{kp:Nat→Option (List Nat)}
theorem Ze4 (keep:List Nat):∀ (l:List AV) (i:Nat),X9 keep i (X9 keep i l)=X9 keep i l:=by
 intro l
 induction l with
 |nil=>intro i;rfl
 |cons a l ih =>
  intro i
  simp only[X9,ih]
  split <;> simp_all
theorem ZdB (c:Code)(s:St):trim kp c (trim kp c s)=trim kp c s:=by
 unfold trim
 cases XF c with
 |none=>rfl
 |some r =>
  simp only
  cases kp r with
  |none=>rfl
  |some keep=>simp[Ze4]
theorem Zmy (c:Code)(k:Kt)(s:St):NG C kp c k (trim kp c s)=NG C kp c k s:=by
 unfold NG
 rw[BO,BO (s:=s),ZdB]
theorem Zfm {x:Option AV}{H:Hp}:x.map (fun v=>(v,H))=Z0 x fun v=>some (v,H):=by cases x <;> rfl
theorem Zia {CL:ZD}{ev:Operand→AV}{H:Hp}{t:TypeId}{x q:Operand}{ck:Bool}:Xl C CL ev H false (.lookup t x q ck)=(Z0 (Fh C ev H (.lookup t x q ck)) fun v=>some (v,H)):=by
 simp only[Xl,ZS,ZE,Fh,Bool.false_eq_true,if_false]
 cases GD C.P t with
 |none=>rfl
 |some p =>
  obtain⟨d,e⟩:=p
  simp only
  cases Qq C.P e with
  |none=>rfl
  |some z=>simp only;cases ZZ d z ck (ev x) (ev q) H <;> rfl
theorem ZmW {CL:ZD}{ev:Operand→AV}{H:Hp}{t:TypeId}{a:Operand}:Xl C CL ev H false (.load t a)=Z0 (Fh C ev H (.load t a)) fun v=>some (v,H):=by
 unfold Xl
 simp only[ZS,Fh,ZE]
 cases Xg C.P t with
 |none=>rfl
 |some g =>
  cases YY C.P t with
  |none=>rfl
  |some sz =>
   simp only[Bool.false_eq_true,if_false]
   rw[Zfm]
   cases ev a <;> first
    |rfl
    |(simp only[Yr,Z4];generalize apart g sz _ 0=x;cases x <;> rfl)
theorem ZmU {CL:ZD}{ev:Operand→AV}{H:Hp}{s d:TypeId}{x:Operand}(h:Te C s d=1):Xl C CL ev H false (.convert s d x)=Z0 (Fh C ev H (.convert s d x)) fun v=>some (v,H):=by
 unfold Te at h
 split at h
 ·rename_i e hs hd
  unfold Xl
  simp only[ZS,Fh,ZE,ZaS,hs,hd,Bool.false_eq_true,if_false]
  cases Au (C.P.underlying e) with
  |false=>rfl
  |true =>
   simp only[if_true]
   unfold Q2 Jj
   cases UK (ev x) with
   |some v=>rfl
   |none =>
    simp only
    cases UB (ev x) H with
    |none=>rfl
    |some l=>simp only;cases Wb l <;> rfl
 ·split at h <;> cases h
 ·cases h
theorem ZmM {t:TypeId}{p:TypeDesc×TypeId}{x:AV}(h:GD C.P t=some p):Zez C.P t x=none:=by
 obtain⟨d,e⟩:=p
 obtain⟨k,h1,_⟩:=LH h
 unfold Zez
 rw[h1]
 rfl
theorem Zpn {CL:ZD}{ev:Operand→AV}{H:Hp}{args:Array Operand}{ts:Array TypeId}(h:Ay C ts.toList=1):Xl C CL ev H false (.call { callee:=.builtin .len,args:=args,argTypes:=ts })=Z0 (Fh C ev H (.call { callee:=.builtin .len,args:=args,argTypes:=ts })) fun v=>some (v,H):=by
 unfold Xl
 simp only[ZS,Fh,ZE,Bool.false_eq_true,if_false]
 unfold Ay at h
 split at h
 ·rename_i t ht
  split at h
  ·rename_i p hp
   rw[ht]
   cases args.toList with
   |nil=>rfl
   |cons x l =>
    cases l with
    |nil =>
     simp only[ZmM hp,hp]
     exact Zfm
    |cons y l=>rfl
  ·cases h
 ·cases h
theorem Zk9 {CL:ZD}{ev:Operand→AV}{H:Hp}{args:Array Operand}{ts:Array TypeId}(h:Ay C ts.toList=0):ZE C CL ev H (.call { callee:=.builtin .len,args:=args,argTypes:=ts })=none:=by
 simp only[ZE]
 unfold Ay at h
 split
 ·rename_i x t hx ht
  rw[ht]at h
  simp only at h
  split at h
  ·cases h
  ·rename_i hm
   rw[hm]
 ·rfl
theorem Zho (ts:List TypeId):Ay C ts=0∨Ay C ts=1:=by
 unfold Ay
 split
 ·split
  ·exact .inr rfl
  ·exact .inl rfl
 ·exact .inl rfl
theorem ZhZ {CL:ZD}{ev:Operand→AV}{H:Hp}{op:Op}(h:X5 C op=0):ZE C CL ev H op=none:=by
 cases op with
 |call c =>
  obtain⟨callee,args,ts⟩:=c
  cases callee with
  |value f=>simp[X5]at h
  |invoke r m=>rfl
  |builtin b=>cases b <;> first|rfl|(exact Zk9 h)|(simp[X5]at h;done)
 |convert s d x =>
  simp only[X5,Te]at h
  simp only[ZE]
  split at h
  ·cases h
  ·rename_i e hs hd
   split at h
   ·cases h
   ·rename_i hw
    simp only[hs,hd,Bool.eq_false_iff.2 hw,Bool.false_and]
    rfl
  ·rename_i h1 h2
   split
   ·rename_i e hs hd;exact absurd hd (h1 _ hs)
   ·rename_i e hs hd;exact absurd hd (h2 _ hs)
   ·rfl
 |_=>first|rfl|(simp[X5]at h;done)
theorem Zkg {ev:Operand→AV}{op:Op}(h:X5 C op=2):ZS C ev op=none:=by
 cases op with
 |call c =>
  obtain⟨callee,args,ts⟩:=c
  cases callee with
  |value f=>rfl
  |invoke r m=>simp[X5]at h
  |builtin b =>
   cases b <;> first
    |rfl
    |(simp[X5]at h;done)
    |(simp only[X5]at h;rcases Zho (C:=C) ts.toList with e|e <;> (rw[e]at h;cases h))
 |convert s d x =>
  simp only[X5,Te]at h
  split at h
  ·cases h
  ·rename_i e hs hd
   split at h
   ·rename_i hw
    simp only[ZS,ZaS,hs,hd,hw,if_true]
    split <;> rfl
   ·cases h
  ·cases h
 |_=>first|rfl|(simp[X5]at h;done)
theorem Znf (s d:TypeId):Te C s d=0∨Te C s d=1∨Te C s d=2:=by
 unfold Te
 split
 ·simp
 ·split <;> simp
 ·simp
theorem Zle (op:Op):X5 C op=0∨X5 C op=1∨X5 C op=2:=by
 unfold X5
 split <;> first|exact Znf _ _|(rcases Zho (C:=C) _ with h|h <;> rw[h] <;> simp)|simp
theorem ZmV {CL:ZD}{ev:Operand→AV}{H:Hp}{op:Op}:Xl C CL ev H true op=Z0 (ZS C ev op) fun v=>some (v,H):=by
 unfold Xl
 cases ZS C ev op <;> rfl
theorem ZcC {α:Type}{ops:Array Oper}{tm:List AV}{o:Oper}{els:α}{x:Option α}:EO ops tm o els x=match Wx ops tm o with
 |none=>none
 |some false=>some els
 |some true=>x:=by
 unfold EO Wx
 cases o.guard with
 |none=>rfl
 |some p =>
  obtain⟨j,want⟩:=p
  simp only
  cases ops[j]? with
  |none=>rfl
  |some g =>
   simp only
   cases g.dst with
   |none=>rfl
   |some d =>
    simp only
    cases tm[d]? with
    |none=>rfl
    |some g =>
     cases g with
     |bool b=>simp only[Z6];cases (b==want) <;> rfl
     |_=>rfl
theorem Zoh {CL:ZD}{ops:Array Oper}{fl:Bool}{o:Oper}{k:St→Z3}{s:St}:Z0 (Uq C CL ops fl o s) k=Zcu C CL ops fl o k s.1 s.2:=by
 obtain⟨tm,H⟩:=s
 have hp:∀ (r:Z3),Xl C CL (eval C tm) H fl o.op=r →
  Z0 (Uq C CL ops fl o (tm,H)) k=Z0 (EO ops tm o (.tuple [],H) r) fun r=>k (Wl tm o.dst r.1,r.2):=by
  intro r hr
  unfold Uq Wo
  rw[ZcC]
  cases Wx ops tm o with
  |none=>rfl
  |some b =>
   cases b with
   |false=>rfl
   |true=>simp only[hr];cases r <;> rfl
 have val:∀ (r:Option AV),Xl C CL (eval C tm) H fl o.op=(Z0 r fun v=>some (v,H)) →
  Z0 (Uq C CL ops fl o (tm,H)) k=Z0 (EO ops tm o (.tuple []) r) fun v=>k (Wl tm o.dst v,H):=by
  intro r hr
  rw[hp _ hr,ZcC,ZcC]
  cases Wx ops tm o with
  |none=>rfl
  |some b =>
   cases b with
   |false=>rfl
   |true=>cases r <;> rfl
 unfold Zcu
 cases fl with
 |true =>
  simp only[if_true]
  exact val _ ZmV
 |false =>
  simp only[Bool.false_eq_true,if_false]
  rcases Zle (C:=C) o.op with h|h|h
  ·rw[h]
   refine val _ ?_
   unfold Xl
   have h0:=ZhZ (C:=C) (CL:=CL) (ev:=eval C tm) (H:=H) h
   cases ZS C (eval C tm) o.op with
   |none=>simp only[Bool.false_eq_true,if_false];rw[h0];rfl
   |some v=>rfl
  ·rw[h]
   cases hop:o.op with
   |load t a=>exact val _ (by rw[hop];exact ZmW)
   |lookup t x q ck=>exact val _ (by rw[hop];exact Zia)
   |convert s d x=>exact val _ (by rw[hop];rw[hop]at h;exact ZmU h)
   |call c =>
    rw[hop]at h
    obtain⟨callee,args,ts⟩:=c
    cases callee with
    |value f=>simp[X5]at h
    |invoke r m=>simp[X5]at h
    |builtin b=>cases b <;> first|(simp[X5]at h;done)|(exact val _ (by rw[hop];exact Zpn h))
   |_=>rw[hop]at h;simp[X5]at h
  ·rw[h]
   refine hp _ ?_
   unfold Xl
   rw[Zkg h]
   rfl
theorem Zix {CL:ZD}{ops:Array Oper}{draw:Bool}{b:Nat}{k:St→Z3}:∀ (l:List Oper) (i:Nat) (s:St),Z0 (Yb C CL ops draw b i l s) k=BH C CL ops draw b i l k s:=by
 intro l
 induction l with
 |nil=>intro i s;rfl
 |cons o l ih =>
  intro i s
  unfold Yb BH XD
  by_cases hl:(draw&&Wm C ops i)=true
  ·rw[if_pos hl,if_pos hl]
   by_cases hf:YV C ops i=true
   ·rw[if_pos hf,if_pos hf];rfl
   ·rw[if_neg hf,if_neg hf]
    cases Rb (b+WB C ops i) (Py C (eval C s.1) o.op) s.2 with
    |none=>rfl
    |some p=>exact ih (i+1) _
  ·rw[if_neg hl,if_neg hl,←Zoh]
   cases Uq C CL ops (draw&&YV C ops i) o s with
   |none=>rfl
   |some s'=>exact ih (i+1) s'
theorem Zp1:∀ (c:Code) (k:Kt) (s:St),CX C (Za C) (NG C kp) kp c k s=Z0 (Yi C kp c s) fun p=>k p.1 p.2:=by
 intro c
 induction c with
 |skip=>intro k s;rw[ZiC];rfl
 |region id ops draw =>
  intro k s
  rw[ZeZ]
  simp only[CX]
  split
  ·rfl
  ·rw[←Zix]
   cases Yb C (Za C) ops draw (frzs kp id s).2.length 0 ops.toList ((frzs kp id s).1,QX (if draw then WB C ops ops.size else 0) (frzs kp id s).2) <;> rfl
 |seq a b iha ihb =>
  intro k s
  rw[ZkS]
  simp only[CX]
  rw[iha]
  cases Yi C kp a s with
  |none=>rfl
  |some p =>
   obtain⟨e,s'⟩:=p
   cases e with
   |normal=>simp only[Z0,Sa];rw[ihb];rfl
   |_=>rfl
 |cond c x y ihx ihy =>
  intro k s
  rw[Ziz]
  simp only[CX]
  rw[ihx,ihy]
  cases eval C s.1 c with
  |bool t=>cases t <;> rfl
  |_=>rfl
 |block id c ih =>
  intro k s
  rw[ZgD]
  simp only[CX]
  rw[ih]
  cases Yi C kp c s with
  |none=>rfl
  |some p =>
   obtain⟨e,s'⟩:=p
   cases e with
   |exit i =>
    simp only[Z0,HT]
    split <;> rfl
   |_=>rfl
 |loop c _ =>
  intro k s
  simp only[CX]
  rw[Zmy]
  rfl
 |rangeFunc f p x y _ _=>intro k s;simp only[CX];rw[EJ (fun n=>rfl)];rfl
 |exit id=>intro k s;rw[ZiA];rfl
 |scope c _=>intro k s;simp only[CX];rw[EJ (fun n=>rfl)];rfl
 |label l=>intro k s;rw[ZgE];rfl
 |goto l=>intro k s;rw[ZiB];rfl
 |ret=>intro k s;rw[ZkR];rfl
 |refuse s=>intro k s;simp only[CX];rw[EJ (fun n=>rfl)];rfl
theorem ZqD (c:Code)(k:Kt)(s:St):NG C kp c k s=CX C (Za C) (NG C kp) kp c (Sa (fun s'=>NG C kp c k (trim kp c s')) k) (trim kp c s):=by
 rw[Zp1]
 unfold NG
 rw[BO]
 cases Yi C kp c (trim kp c s) with
 |none=>rfl
 |some p =>
  obtain⟨e,s'⟩:=p
  cases e with
  |normal =>
   show Z0 (Yi C kp (.loop c) s') _=Z0 (Yi C kp (.loop c) (trim kp c s')) _
   rw[BO,BO (s:=trim kp c s'),ZdB]
  |_=>rfl
def S8 (C:Cfg):List ResultVar→St→List AV→(List AV→Z3)→Z3
 |[],_,acc,k=>k acc
 |r::rs,s,acc,k=>Z0 (XR C s r) fun v=>S8 C rs s (acc++[v]) k
noncomputable def Ax (C:Cfg)(f:FuncId)(H0:Hp)(H:Hp):List AV→Z3
 |[v]=>BV C f H0 (v,H)
 |l=>BV C f H0 (.tuple l,H)
noncomputable abbrev Zrp (C:Cfg)(f:FuncId)(fn:Func)(H0:Hp):Kt:=fun e s =>
 match e with
 |.normal=>S8 C fn.results.toList s [] (Ax C f H0 s.2)
 |.ret=>S8 C fn.results.toList s [] (Ax C f H0 s.2)
 |_=>none
theorem Zqh (s:St)(k:List AV→Z3):∀ (rs:List ResultVar) (acc:List AV),S8 C rs s acc k=Z0 (rs.mapM (XR C s)) fun l=>k (acc++l):=by
 intro rs
 induction rs with
 |nil=>intro acc;simp[S8,Z0]
 |cons r rs ih =>
  intro acc
  rw[List.mapM_cons]
  unfold S8
  cases XR C s r with
  |none=>rfl
  |some v =>
   simp only[Z0]
   rw[ih]
   cases rs.mapM (XR C s) with
   |none=>rfl
   |some l=>simp[Z0]
theorem Zn7 {f:FuncId}{fn:Func}{c:Code}(hf:C.P.funcs[f]?=some fn)(hb:fn.body=some c)(args:List AV)(H:Hp) :
 Za C f args H=CX C (Za C) (NG C (C.keep f)) (C.keep f) c (Zrp C f fn H) (args++List.replicate (fn.ntmps-args.length) .undef,H):=by
 rw[Zn8 hf hb,Zp1]
 have key:∀ s:St,(match Vb C fn s with|some v=>BV C f H (v,s.2)|none=>none)=S8 C fn.results.toList s [] (Ax C f H s.2):=by
  intro s
  rw[Zqh]
  unfold Vb
  cases fn.results.toList.mapM (XR C s) with
  |none=>rfl
  |some l =>
   match l with
   |[]=>rfl
   |[v]=>rfl
   |a::b::l=>rfl
 cases Yi C (C.keep f) c (args++List.replicate (fn.ntmps-args.length) .undef,H) with
 |none=>rfl
 |some p =>
  obtain⟨e,s⟩:=p
  cases e with
  |normal=>exact key s
  |ret=>exact key s
  |_=>rfl
end
end Go.Am
