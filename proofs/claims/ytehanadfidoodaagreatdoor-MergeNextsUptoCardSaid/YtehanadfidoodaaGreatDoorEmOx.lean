/-
  THE ABSTRACT MACHINE, part O: calls are sound.
-/
import Derived.Test.YtehanadfidoodaaGreatDoorEmMx
namespace Go.Am
open RowKit
section
variable {C:Cfg}{W0:World}
theorem Zec {P:Program}{t:TypeId}{u:Value}{ad:Addr}{v:Value}{w:World}(hu:u=.pointer (some ad))(h:(loadVar t ad).run P w=.ok v w):(do loadVar t (←asAddr u):Sem Value).run P w=.ok v w:=by
 subst hu
 simp[asAddr,h]
def Zlj (tmps:Array Value):ResultVar→Sem Value
 |.tmp t=>pure (tmps.getD t undef)
 |.cell a t=>do loadVar t (←asAddr (tmps.getD a undef))
theorem ZoP (fn:Func)(tmps:Array Value):results fn tmps=(do let vs ←fn.results.mapM (Zlj tmps);pure (if h:vs.size=1 then vs[0] else .tuple vs)):=by
 unfold results
 congr 1
theorem Zl6 {S:Snap}{H:Hp}{tm:List AV}{tmps:Array Value}(hI:Inv W0 S H)(hF:FRel S tm tmps){r:ResultVar}{v:AV}(h:XW C (tm,H) r=some v) :
 ∃ v',(Zlj tmps r).run C.P S.w=.ok v' S.w∧VRel S v v':=by
 cases r with
 |tmp t =>
  simp only[XW,Option.some.injEq]at h
  subst h
  exact⟨_,rfl,hF.getD t⟩
 |cell a t =>
  simp only[XW]at h
  split at h
  ·rename_i g sz hg hs
   obtain⟨v',ad,hu,hr,hv⟩:=ZcI (P:=C.P) hI hg hs (hF.getD a) h
   exact⟨v',Zec hu hr,hv⟩
  ·cases h
theorem Ztw {S:Snap}{H:Hp}{tm:List AV}{tmps:Array Value}(hI:Inv W0 S H)(hF:FRel S tm tmps):∀ (l:List ResultVar) (r:List AV),l.mapM (XW C (tm,H))=some r →
 ∃ vs:List Value,(l.mapM (Zlj tmps)).run C.P S.w=.ok vs S.w∧vs.length=r.length ∧
  ∀ (i:Nat) (a:AV) (v:Value),r[i]?=some a→vs[i]?=some v→VRel S a v:=by
 intro l
 induction l with
 |nil=>intro r h;simp at h;subst h;exact⟨[],rfl,rfl,by simp⟩
 |cons x l ih =>
  intro r h
  rw[List.mapM_cons]at h
  cases hx:XW C (tm,H) x with
  |none=>simp[hx]at h
  |some a =>
   cases hl:l.mapM (XW C (tm,H)) with
   |none=>simp[hx,hl]at h
   |some as =>
    simp[hx,hl]at h
    subst h
    obtain⟨v,h1,h2⟩:=Zl6 hI hF hx
    obtain⟨vs,h3,h4,h5⟩:=ih as hl
    refine⟨v::vs,?_,by simp[h4],fun i a v ha hv=>?_⟩
    ·rw[List.mapM_cons]
     simp only[Sem.run_bind,h1,h3,Result.andThen_ok,Sem.run_pure]
    ·cases i with
     |zero=>simp at ha hv;subst ha hv;exact h2
     |succ i=>exact h5 i a v (by simpa using ha) (by simpa using hv)
theorem Zl7 {S:Snap}{H:Hp}{tm:List AV}{tmps:Array Value}(hI:Inv W0 S H)(hF:FRel S tm tmps){fn:Func}{v:AV}(h:Vh C fn (tm,H)=some v):∃ v',(results fn tmps).run C.P S.w=.ok v' S.w∧VRel S v v':=by
 unfold Vh at h
 have main:∀ l,fn.results.toList.mapM (XW C (tm,H))=some l→∃ vs:List Value,(results fn tmps).run C.P S.w=.ok (if h:vs.toArray.size=1 then vs.toArray[0] else .tuple vs.toArray) S.w∧vs.length=l.length ∧
  ∀ (i:Nat) (a:AV) (v:Value),l[i]?=some a→vs[i]?=some v→VRel S a v:=by
  intro l hl
  obtain⟨vs,h1,h2,h3⟩:=Ztw hI hF _ l hl
  refine⟨vs,?_,h2,h3⟩
  rw[ZoP,Sem.run_bind,Array.mapM_eq_mapM_toList,Sem.run_map,h1]
  rfl
 split at h
 ·rename_i v1 hl
  injection h with h
  subst h
  obtain⟨vs,h1,h2,h3⟩:=main _ hl
  match vs,h2 with
  |[u],_=>exact⟨u,by simpa using h1,h3 0 v1 u rfl rfl⟩
 ·rename_i l hne hl
  injection h with h
  subst h
  obtain⟨vs,h1,h2,h3⟩:=main _ hl
  have hn:vs.toArray.size≠1:=by
   intro hc
   have:l.length=1:=by simp at hc;omega
   match l,this with
   |[a],_=>exact hne a rfl
  rw[dif_neg hn]at h1
  exact⟨_,h1,.tuple _ _ (by simp[h2]) fun i a v ha hv=>h3 i a v ha (by simpa using hv)⟩
 ·cases h
theorem ZkH {S:Snap}{args:List AV}{args':Array Value}(hs:args'.size=args.length)(h:∀ (i:Nat) (a:AV) (u:Value),args[i]?=some a→args'[i]?=some u→VRel S a u)(n:Nat) :
 FRel S (args++List.replicate (n-args.length) .undef) (args'++Array.replicate (n-args'.size) undef):=by
 refine⟨by simp[hs],fun i a v ha hv=>?_⟩
 rcases Nat.lt_or_ge i args.length with hi|hi
 ·rw[List.getElem?_append_left hi]at ha
  rw[Array.getElem?_append_left (by omega)]at hv
  exact h i a v ha hv
 ·rw[List.getElem?_append_right hi]at ha
  rw[Array.getElem?_append_right (by omega)]at hv
  rw[List.getElem?_replicate]at ha
  rw[Array.getElem?_replicate]at hv
  split at ha
  ·injection ha with ha
   split at hv
   ·injection hv with hv
    subst ha hv
    exact .undef _
   ·cases hv
  ·cases ha
theorem ZnE (hC:JZ C){cl:ZG}(hcall:V5 C W0 cl)(hfr:Wb cl){n:Nat}{f:FuncId}{fn:Func}{c:Code}(hf:C.P.funcs[f]?=some fn)(hb:fn.body=some c){args:List AV}{H H':Hp}{v:AV}
 (h:body C cl n f fn c args H=some (v,H')) {S:Snap} {args':Array Value} (hI:Inv W0 S H) (hG:GlobOk C S) (hs:args'.size=args.length) (ha:∀ (i:Nat) (a:AV) (u:Value),args[i]?=some a→args'[i]?=some u→VRel S a u) :
 Calls C.P f args' S.w fun e w'=>∃ v' S',e=.returned v'∧S'.w=w'∧Ext S S'∧Inv W0 S' H'∧VRel S' v v':=by
 unfold body at h
 refine calls_of_wp hf hb ?_
 have hrel:Rel C W0 S (args++List.replicate (fn.ntmps-args.length) .undef,H) { tmps:=args'++Array.replicate (fn.ntmps-args'.size) undef,defers:=[] } S.w :=
  ⟨S,rfl,Ext.refl S,hI,hG,ZkH hs ha fn.ntmps,rfl⟩
 cases hex:ZN C cl (C.keep f) n c (args++List.replicate (fn.ntmps-args.length) .undef,H) with
 |none=>simp[hex]at h
 |some p =>
  obtain⟨e,s⟩:=p
  refine wp_mono (Zv4 hC hcall hfr c _ s e _ _ hex hrel) fun e' a w hp=>?_
  obtain⟨rfl,S1,rfl,hx1,hI1,hG1,hF1,hd1⟩:=hp
  have fin:∀ r,(match Vh C fn s with|some v=>DH C f H (v,s.2)|none=>none)=some r→r=(v,H')→a.defers=[]∧∃ v,(results fn a.tmps).run C.P S1.w=.ok v S1.w ∧
   (fun e w'=>∃ v' S',e=Ending.returned v'∧S'.w=w'∧Ext S S'∧Inv W0 S' H'∧VRel S' r.1 v') (.returned v) S1.w:=by
   rintro r hr rfl
   refine⟨hd1,?_⟩
   split at hr
   ·rename_i v1 hv1
    obtain⟨v',hrun,hv⟩:=Zl7 (tm:=s.1) hI1 hF1 hv1
    refine⟨v',hrun,?_⟩
    unfold DH at hr
    split at hr
    ·unfold M4 at hr
     split at hr
     ·rename_i htake
      cases hcl:Ze s.2 H.length 6 v1 with
      |none=>simp[hcl]at hr
      |some v2 =>
       simp only[hcl,Option.some.injEq,Prod.mk.injEq]at hr
       obtain⟨rfl,rfl⟩:=hr
       exact⟨v',S1.back H,rfl,rfl,Ext.back hI hx1,Inv.back hI hI1 htake,NQ hI1 htake 6 _ _ _ hcl hv⟩
     ·cases hr
    ·simp only[Option.some.injEq,Prod.mk.injEq]at hr
     obtain⟨rfl,rfl⟩:=hr
     exact⟨v',S1,rfl,rfl,hx1,hI1,hv⟩
   ·cases hr
  cases e with
  |normal =>
   simp only[hex]at h
   exact fin _ h rfl
  |ret =>
   simp only[hex]at h
   exact fin _ h rfl
  |_=>simp[hex]at h
theorem ZnH (hC:JZ C):∀ n,V5 C W0 (call C n):=by
 intro n
 induction n with
 |zero=>intro W1 f args H H' v h;simp[call]at h
 |succ n ih =>
  intro W1 f args H H' v h S args' hI hG hs ha
  have ih':V5 C W1 (call C n):=ih
  simp only[call]at h
  split at h
  ·cases h
  ·rename_i fn hf
   split at h
   ·cases h
   ·rename_i c hb
    exact ZnE hC ih' (ZlV C n) hf hb h hI hG hs ha
end
end Go.Am
namespace Go.Am
open RowKit
section
variable {C:Cfg}
def Le (c c':ZG):Prop:=∀ f a H r,c f a H=some r→c' f a H=some r
theorem Zgb {a:List AV→Hp→Option (AV×Hp)}{args:List AV}{H:Hp}{r:AV×Hp}(h:Zc a args H=some r) :
 ∃ args' q,a args' []=some q∧∀ b:List AV→Hp→Option (AV×Hp),b args' []=some q→Zc b args H=some r:=by
 unfold Zc at h
 split at h
 ·rename_i args1 hm
  split at h
  ·rename_i v1 H1 hc
   exact⟨args1,_,hc,fun b hb=>by unfold Zc;simp only[hm,hb];exact h⟩
  ·cases h
 ·cases h
theorem Zlg {a:List AV→Hp→Option (AV×Hp)}{args:List AV}{H:Hp}{r:AV×Hp}(h:DS a args H=some r) :
 ∃ q,a args H=some q∧∀ b:List AV→Hp→Option (AV×Hp),b args H=some q→DS b args H=some r:=by
 unfold DS at h
 split at h
 ·rename_i v1 H1 hc
  exact⟨_,hc,fun b hb=>by unfold DS;simp only[hb];exact h⟩
 ·cases h
theorem ZlD {c c':ZG}(h:Le c c'){id:FuncId}{args:List AV}{H:Hp}{r:AV×Hp}(hr:Xj C c id args H=some r):Xj C c' id args H=some r:=by
 unfold Xj at hr ⊢
 cases he:C.ext id with
 |some e=>simpa[he]using hr
 |none =>
  cases hsm:C.sum id with
  |some g=>simpa[he,hsm]using hr
  |none =>
  cases hef:C.eff id with
  |some g=>simpa[he,hsm,hef]using hr
  |none =>
  simp only[he,hsm,hef]at hr ⊢
  by_cases hu:C.user id=true
  ·by_cases hfl:C.flat id=true
   ·simp only[hu,hfl,if_true]at hr ⊢
    obtain⟨args',q,q1,q2⟩:=Zgb hr
    exact q2 _ (h _ _ _ _ q1)
   ·by_cases hro:C.ro id=true
    ·simp only[hu,hfl,hro,Bool.false_eq_true,if_false,if_true]at hr ⊢
     obtain⟨q,q1,q2⟩:=Zlg hr
     exact q2 _ (h _ _ _ _ q1)
    ·simp only[hu,hfl,hro,Bool.false_eq_true,if_false,if_true]at hr ⊢
     exact h _ _ _ _ hr
  ·simp[hu]at hr
theorem ZfC {c c':ZG}(h:Le c c'){f:AV}{args:List AV}{H:Hp}{r:AV×Hp}(hr:Yr C c f args H=some r):Yr C c' f args H=some r:=by
 unfold Yr at hr ⊢
 split at hr
 ·exact ZlD h hr
 ·cases hr
theorem ZlE {c c':ZG}(h:Le c c'){f:AV}{args:List AV}{H:Hp}{r:AV×Hp}(hr:Xk C c f args H=some r):Xk C c' f args H=some r:=by
 unfold Xk qC at hr ⊢
 split at hr
 ·split at hr
  ·rename_i hq
   rw[if_pos hq]
   exact ZfC h hr
  ·cases hr
 ·cases hr
theorem Znl {c c':ZG}(h:Le c c'){ev:Operand→AV}{H:Hp}{op:Op}{r:AV×Hp}(hr:ZH C c ev H op=some r):ZH C c' ev H op=some r:=by
 cases op <;> try exact hr
 case makeMap t r=>cases r <;> exact hr
 case call cl =>
  obtain⟨callee,args,ts⟩:=cl
  cases callee with
  |value f =>
   simp only[ZH]at hr ⊢
   split at hr
   ·rename_i hq
    rw[if_pos hq]
    exact ZlE h hr
   ·rename_i hq
    rw[if_neg hq]
    exact ZfC h hr
  |invoke r m=>exact hr
  |builtin b=>cases b <;> exact hr
theorem Zsg {c c':ZG}(h:Le c c'){ev:Operand→AV}{H:Hp}{fl:Bool}{op:Op}{r:AV×Hp}(hr:Xs C c ev H fl op=some r):Xs C c' ev H fl op=some r:=by
 unfold Xs at hr ⊢
 split at hr
 ·exact hr
 ·split at hr
  ·cases hr
  ·rename_i hf
   rw[if_neg hf]
   exact Znl h hr
theorem ZoB {c c':ZG}(h:Le c c'){ops:Array Oper}{fl:Bool}{o:Oper}{s r:St}(hr:Ut C c ops fl o s=some r):Ut C c' ops fl o s=some r:=by
 unfold Ut Wx at hr ⊢
 cases hw:WG ops s.1 o with
 |none=>simp[hw]at hr
 |some b =>
  cases b with
  |false=>simp only[hw]at hr ⊢;exact hr
  |true =>
   simp only[hw]at hr ⊢
   cases ha:Xs C c (eval C s.1) s.2 fl o.op with
   |none=>simp[ha]at hr
   |some q=>rw[Zsg h ha];rw[ha]at hr;exact hr
theorem ZgJ {c c':ZG}(h:Le c c'){ops:Array Oper}{draw:Bool}{b i:Nat}{o:Oper}{s r:St}(hr:XH C c ops draw b i o s=some r):XH C c' ops draw b i o s=some r:=by
 unfold XH at hr ⊢
 by_cases hl:(draw&&Wv C ops i)=true
 ·rw[if_pos hl]at hr ⊢;exact hr
 ·rw[if_neg hl]at hr ⊢;exact ZoB h hr
theorem NX {c c':ZG}(h:Le c c'){ops:Array Oper}{draw:Bool}{b:Nat}:∀ (l:List Oper) (i:Nat) (s r:St),Ye C c ops draw b i l s=some r→Ye C c' ops draw b i l s=some r:=by
 intro l
 induction l with
 |nil=>intro i s r hr;exact hr
 |cons o l ih =>
  intro i s r hr
  unfold Ye at hr ⊢
  split at hr
  ·rename_i s' hs
   rw[ZgJ h hs]
   exact ih _ _ _ hr
  ·cases hr
theorem Hq {f g:St→Option (AExit×St)}(h:∀ s r,f s=some r→g s=some r):∀ (n m:Nat) (s:St) (r:AExit×St),n≤m→Us f n s=some r→Us g m s=some r:=by
 intro n
 induction n with
 |zero=>intro m s r _ hr;cases hr
 |succ n ih =>
  intro m s r hm hr
  obtain⟨m,rfl⟩:∃ k,m=k+1:=⟨m-1,by omega⟩
  unfold Us at hr ⊢
  cases hf:f s with
  |none=>simp[hf]at hr
  |some p =>
   rw[h s p hf]
   obtain⟨e,s'⟩:=p
   cases e with
   |normal=>simp only[hf]at hr ⊢;exact ih m s' r (by omega) hr
   |_=>simpa[hf]using hr
theorem Js {c c':ZG}(h:Le c c'){kp:Nat→Option (List Nat)}{n m:Nat}(hnm:n≤m):∀ (cd:Code) (s:St) (r:AExit×St),ZN C c kp n cd s=some r→ZN C c' kp m cd s=some r:=by
 intro cd
 induction cd with
 |region id ops draw =>
  intro s r hr
  simp only[ZN]at hr ⊢
  split at hr
  ·cases hr
  ·rename_i hd
   rw[if_neg hd]
   split at hr
   ·rename_i s' hs
    rw[NX h _ _ _ _ hs]
    exact hr
   ·cases hr
 |seq x y ihx ihy =>
  intro s r hr
  simp only[ZN]at hr ⊢
  cases hx:ZN C c kp n x s with
  |none=>simp[hx]at hr
  |some p =>
   rw[ihx s p hx]
   obtain⟨e,s'⟩:=p
   cases e with
   |normal=>simp only[hx]at hr ⊢;exact ihy _ _ hr
   |_=>simpa[hx]using hr
 |cond o x y ihx ihy =>
  intro s r hr
  simp only[ZN]at hr ⊢
  split at hr
  ·rename_i t ht
   cases t with
   |true=>exact ihx _ _ (by simpa using hr)
   |false=>exact ihy _ _ (by simpa using hr)
  ·cases hr
 |block id x ih =>
  intro s r hr
  simp only[ZN]at hr ⊢
  cases hx:ZN C c kp n x s with
  |none=>simp[hx]at hr
  |some p=>rw[ih s p hx];rw[hx]at hr;exact hr
 |loop x ih =>
  intro s r hr
  simp only[ZN]at hr ⊢
  exact Hq (fun s r=>ih (trim kp x s) r) n m s r hnm hr
 |_=>intro s r hr;exact hr
theorem ZpJ {c c':ZG}(h:Le c c'){n m:Nat}(hnm:n≤m){f:FuncId}{fn:Func}{cd:Code}{args:List AV}{H:Hp}{r:AV×Hp}(hr:body C c n f fn cd args H=some r):body C c' m f fn cd args H=some r:=by
 unfold body at hr ⊢
 cases hx:ZN C c (C.keep f) n cd (args++List.replicate (fn.ntmps-args.length) .undef,H) with
 |none=>simp[hx]at hr
 |some p=>rw[Js h hnm _ _ _ hx];rw[hx]at hr;exact hr
theorem VP:∀ (n m:Nat),n≤m→Le (call C n) (call C m):=by
 intro n
 induction n with
 |zero=>intro m _ f a H r hr;cases hr
 |succ n ih =>
  intro m hm f a H r hr
  obtain⟨m,rfl⟩:∃ k,m=k+1:=⟨m-1,by omega⟩
  simp only[call]at hr ⊢
  split at hr
  ·cases hr
  ·rename_i fn hf
   split at hr
   ·cases hr
   ·rename_i cd hb
    exact ZpJ (ih m (by omega)) (by omega) hr
open Classical in
noncomputable def lim {α:Type}(f:Nat→Option α):Option α:=if h:∃ n r,f n=some r then some h.choose_spec.choose else none
theorem ZkL {α:Type}{f:Nat→Option α}(hm:∀ n m r,n≤m→f n=some r→f m=some r){r:α}:lim f=some r↔∃ n,f n=some r:=by
 unfold lim
 constructor
 ·intro h
  split at h
  ·rename_i hx
   injection h with h
   exact⟨hx.choose,h ▸ hx.choose_spec.choose_spec⟩
  ·cases h
 ·rintro⟨n,hn⟩
  have hx:∃ n r,f n=some r:=⟨n,r,hn⟩
  rw[dif_pos hx]
  have h1:=hm _ (max hx.choose n) _ (Nat.le_max_left _ _) hx.choose_spec.choose_spec
  have h2:=hm _ (max hx.choose n) _ (Nat.le_max_right _ _) hn
  rw[h1]at h2
  exact h2
noncomputable def Za (C:Cfg):ZG:=fun f a H=>lim fun n=>call C n f a H
theorem JO {f:FuncId}{a:List AV}{H:Hp}{r:AV×Hp}:Za C f a H=some r↔∃ n,call C n f a H=some r:=ZkL fun n m r h hr=>VP n m h f a H r hr
noncomputable def Yo (C:Cfg)(kp:Nat→Option (List Nat))(c:Code)(s:St):Option (AExit×St):=lim fun n=>ZN C (call C n) kp n c s
theorem ZY {kp:Nat→Option (List Nat)}{c:Code}{s:St}{r:AExit×St}:Yo C kp c s=some r↔∃ n,ZN C (call C n) kp n c s=some r :=
 ZkL fun n m r h hr=>Js (VP n m h) h c s r hr
theorem Zjk (n:Nat):Le (call C n) (Za C):=fun _ _ _ _ h=>JO.2 ⟨n,h⟩
theorem Zuz {id:FuncId}{args:List AV}{H:Hp}{r:AV×Hp}(h:Xj C (Za C) id args H=some r):∃ n,Xj C (call C n) id args H=some r:=by
 unfold Xj at h
 cases he:C.ext id with
 |some e=>exact⟨0,by unfold Xj;simpa[he]using h⟩
 |none =>
  cases hsm:C.sum id with
  |some g=>exact⟨0,by unfold Xj;simpa[he,hsm]using h⟩
  |none =>
  cases hef:C.eff id with
  |some g=>exact⟨0,by unfold Xj;simpa[he,hsm,hef]using h⟩
  |none =>
  simp only[he,hsm,hef]at h
  by_cases hu:C.user id=true
  ·by_cases hfl:C.flat id=true
   ·simp only[hu,hfl,if_true]at h
    obtain⟨args',q,q1,q2⟩:=Zgb h
    obtain⟨n,hn⟩:=JO.1 q1
    exact⟨n,by unfold Xj;simp only[he,hsm,hef,hu,hfl,if_true];exact q2 _ hn⟩
   ·by_cases hro:C.ro id=true
    ·simp only[hu,hfl,hro,Bool.false_eq_true,if_false,if_true]at h
     obtain⟨q,q1,q2⟩:=Zlg h
     obtain⟨n,hn⟩:=JO.1 q1
     exact⟨n,by unfold Xj;simp only[he,hsm,hef,hu,hfl,hro,Bool.false_eq_true,if_false,if_true];exact q2 _ hn⟩
    ·simp only[hu,hfl,hro,Bool.false_eq_true,if_false,if_true]at h
     obtain⟨n,hn⟩:=JO.1 h
     exact⟨n,by unfold Xj;simp only[he,hsm,hef,hu,hfl,hro,Bool.false_eq_true,if_false,if_true];exact hn⟩
  ·simp[hu]at h
theorem Zps {f:AV}{args:List AV}{H:Hp}{r:AV×Hp}(h:Yr C (Za C) f args H=some r):∃ n,Yr C (call C n) f args H=some r:=by
 unfold Yr at h
 split at h
 ·exact Zuz h
 ·cases h
theorem ZuA {f:AV}{args:List AV}{H:Hp}{r:AV×Hp}(h:Xk C (Za C) f args H=some r):∃ n,Xk C (call C n) f args H=some r:=by
 unfold Xk qC at h ⊢
 split at h
 ·split at h
  ·rename_i hq
   obtain⟨n,hn⟩:=Zps h
   exact⟨n,by rw[if_pos hq];exact hn⟩
  ·cases h
 ·cases h
theorem ZvZ {ev:Operand→AV}{H:Hp}{op:Op}{r:AV×Hp}(h:ZH C (Za C) ev H op=some r):∃ n,ZH C (call C n) ev H op=some r:=by
 cases op <;> try exact⟨0,h⟩
 case makeMap t r=>cases r <;> exact⟨0,h⟩
 case call cl =>
  obtain⟨callee,args,ts⟩:=cl
  cases callee with
  |value f =>
   simp only[ZH]at h ⊢
   split at h
   ·rename_i hq
    simp only[if_pos hq]
    exact ZuA h
   ·rename_i hq
    simp only[if_neg hq]
    exact Zps h
  |invoke r m=>exact⟨0,h⟩
  |builtin b=>cases b <;> exact⟨0,h⟩
theorem Zxv {ev:Operand→AV}{H:Hp}{fl:Bool}{op:Op}{r:AV×Hp}(h:Xs C (Za C) ev H fl op=some r):∃ n,Xs C (call C n) ev H fl op=some r:=by
 unfold Xs at h ⊢
 split at h
 ·exact⟨0,h⟩
 ·split at h
  ·cases h
  ·rename_i hf
   obtain⟨n,hn⟩:=ZvZ h
   exact⟨n,by rw[if_neg hf];exact hn⟩
theorem ZwD {ops:Array Oper}{fl:Bool}{o:Oper}{s r:St}(h:Ut C (Za C) ops fl o s=some r):∃ n,Ut C (call C n) ops fl o s=some r:=by
 unfold Ut Wx at h ⊢
 cases hw:WG ops s.1 o with
 |none=>simp[hw]at h
 |some b =>
  cases b with
  |false=>simp only[hw]at h ⊢;exact⟨0,h⟩
  |true =>
   simp only[hw]at h ⊢
   cases ha:Xs C (Za C) (eval C s.1) s.2 fl o.op with
   |none=>simp[ha]at h
   |some q =>
    obtain⟨n,hn⟩:=Zxv ha
    exact⟨n,by rw[hn];rw[ha]at h;exact h⟩
theorem ZwG {ops:Array Oper}{draw:Bool}{b i:Nat}{o:Oper}{s r:St}(h:XH C (Za C) ops draw b i o s=some r):∃ n,XH C (call C n) ops draw b i o s=some r:=by
 unfold XH at h ⊢
 by_cases hl:(draw&&Wv C ops i)=true
 ·rw[if_pos hl]at h
  simp only[if_pos hl]
  exact⟨0,h⟩
 ·rw[if_neg hl]at h
  simp only[if_neg hl]
  exact ZwD h
theorem ZsR {ops:Array Oper}{draw:Bool}{b:Nat}:∀ (l:List Oper) (i:Nat) (s r:St),Ye C (Za C) ops draw b i l s=some r→∃ n,Ye C (call C n) ops draw b i l s=some r:=by
 intro l
 induction l with
 |nil=>intro i s r h;exact⟨0,h⟩
 |cons o l ih =>
  intro i s r h
  unfold Ye at h
  split at h
  ·rename_i s' hs
   obtain⟨n,hn⟩:=ZwG hs
   obtain⟨m,hm⟩:=ih _ _ _ h
   refine⟨max n m,?_⟩
   unfold Ye
   rw[ZgJ (VP n _ (Nat.le_max_left n m)) hn]
   exact NX (VP m _ (Nat.le_max_right n m)) _ _ _ _ hm
  ·cases h
section
variable {kp:Nat→Option (List Nat)}
theorem Zks (id:Nat)(ops:Array Oper)(draw:Bool)(s:St):Yo C kp (.region id ops draw) s =
 if draw&&!QI ops then none else match Ye C (Za C) ops draw (frzs kp id s).2.length 0 ops.toList ((frzs kp id s).1,J1 (if draw then WK C ops ops.size else 0) (frzs kp id s).2) with
  |some s'=>some (.normal,s')
  |none=>none:=by
 apply Option.ext
 intro r
 rw[ZY]
 constructor
 ·rintro⟨n,hn⟩
  simp only[ZN]at hn
  split at hn
  ·cases hn
  ·rename_i hd
   rw[if_neg hd]
   split at hn
   ·rename_i s' hs
    rw[NX (Zjk n) _ _ _ _ hs]
    exact hn
   ·cases hn
 ·intro h
  split at h
  ·cases h
  ·rename_i hd
   split at h
   ·rename_i s' hs
    obtain⟨n,hn⟩:=ZsR _ _ _ _ hs
    exact⟨n,by simp only[ZN];rw[if_neg hd,hn];exact h⟩
   ·cases h
theorem Zq9 (a b:Code)(s:St):Yo C kp (.seq a b) s=match Yo C kp a s with
 |some (.normal,s')=>Yo C kp b (trim kp b s')
 |r=>r:=by
 apply Option.ext
 intro r
 rw[ZY]
 constructor
 ·rintro⟨n,hn⟩
  simp only[ZN]at hn
  cases hx:ZN C (call C n) kp n a s with
  |none=>simp[hx]at hn
  |some p =>
   rw[ZY.2 ⟨n,hx⟩]
   obtain⟨e,s'⟩:=p
   cases e with
   |normal=>simp only[hx]at hn ⊢;exact ZY.2 ⟨n,hn⟩
   |_=>simpa[hx]using hn
 ·intro h
  cases hx:Yo C kp a s with
  |none=>simp[hx]at h
  |some p =>
   obtain⟨n,hn⟩:=ZY.1 hx
   obtain⟨e,s'⟩:=p
   cases e with
   |normal =>
    simp only[hx]at h
    obtain⟨m,hm⟩:=ZY.1 h
    refine⟨max n m,?_⟩
    simp only[ZN]
    rw[Js (VP n _ (Nat.le_max_left n m)) (Nat.le_max_left n m) _ _ _ hn]
    exact Js (VP m _ (Nat.le_max_right n m)) (Nat.le_max_right n m) _ _ _ hm
   |_=>exact⟨n,by simp only[ZN];rw[hn];simpa[hx]using h⟩
theorem ZnT (o:Operand)(x y:Code)(s:St):Yo C kp (.cond o x y) s=match eval C s.1 o with
 |.bool t=>if t then Yo C kp x s else Yo C kp y s
 |_=>none:=by
 apply Option.ext
 intro r
 rw[ZY]
 simp only[ZN]
 generalize eval C s.1 o=v
 cases v with
 |bool t=>cases t <;> simp[ZY]
 |_=>simp
theorem Zm8 (id:Nat)(c:Code)(s:St):Yo C kp (.block id c) s=match Yo C kp c s with
 |some (.exit i,s')=>if i=id then some (.normal,s') else some (.exit i,s')
 |r=>r:=by
 apply Option.ext
 intro r
 rw[ZY]
 constructor
 ·rintro⟨n,hn⟩
  simp only[ZN]at hn
  cases hx:ZN C (call C n) kp n c s with
  |none=>simp[hx]at hn
  |some p=>rw[ZY.2 ⟨n,hx⟩];rw[hx]at hn;exact hn
 ·intro h
  cases hx:Yo C kp c s with
  |none=>simp[hx]at h
  |some p =>
   obtain⟨n,hn⟩:=ZY.1 hx
   exact⟨n,by simp only[ZN];rw[hn];rw[hx]at h;exact h⟩
theorem Dz (c:Code)(s:St):Yo C kp (.loop c) s=match Yo C kp c (trim kp c s) with
 |some (.normal,s')=>Yo C kp (.loop c) s'
 |r=>r:=by
 apply Option.ext
 intro r
 rw[ZY]
 constructor
 ·rintro⟨n,hn⟩
  simp only[ZN]at hn
  cases n with
  |zero=>cases hn
  |succ n =>
   unfold Us at hn
   cases hx:ZN C (call C (n+1)) kp (n+1) c (trim kp c s) with
   |none=>simp[hx]at hn
   |some p =>
    rw[ZY.2 ⟨n+1,hx⟩]
    obtain⟨e,s'⟩:=p
    cases e with
    |normal =>
     simp only[hx]at hn ⊢
     refine ZY.2 ⟨n+1,?_⟩
     simp only[ZN]
     exact Hq (fun s r h=>h) n (n+1) s' r (Nat.le_succ _) hn
    |_=>simpa[hx]using hn
 ·intro h
  cases hx:Yo C kp c (trim kp c s) with
  |none=>simp[hx]at h
  |some p =>
   obtain⟨n,hn⟩:=ZY.1 hx
   obtain⟨e,s'⟩:=p
   cases e with
   |normal =>
    simp only[hx]at h
    obtain⟨m,hm⟩:=ZY.1 h
    simp only[ZN]at hm
    have hm1:=Nat.le_max_left n m
    have hm2:=Nat.le_max_right n m
    refine⟨max n m+1,?_⟩
    simp only[ZN]
    unfold Us
    rw[Js (VP n (max n m+1) (by omega)) (m:=max n m+1) (by omega) _ _ _ hn]
    exact Hq (fun s r h=>Js (VP m (max n m+1) (by omega)) (by omega) _ _ _ h) m (max n m) s' r hm2 hm
   |_ =>
    simp only[hx]at h
    refine⟨n+1,?_⟩
    simp only[ZN]
    unfold Us
    rw[Js (VP n (n+1) (by omega)) (m:=n+1) (by omega) _ _ _ hn]
    exact h
theorem ZnW (s:St):Yo C kp .skip s=some (.normal,s):=ZY.2 ⟨0,rfl⟩
theorem Zm9 (l:Nat)(s:St):Yo C kp (.label l) s=some (.normal,s):=ZY.2 ⟨0,rfl⟩
theorem ZnU (i:Nat)(s:St):Yo C kp (.exit i) s=some (.exit i,s):=ZY.2 ⟨0,rfl⟩
theorem ZnV (i:Nat)(s:St):Yo C kp (.goto i) s=some (.goto i,s):=ZY.2 ⟨0,rfl⟩
theorem Zq8 (s:St):Yo C kp .ret s=some (.ret,s):=ZY.2 ⟨0,rfl⟩
theorem H8 {c:Code}{s:St}(h:∀ n,ZN C (call C n) kp n c s=none):Yo C kp c s=none:=by
 cases hx:Yo C kp c s with
 |none=>rfl
 |some r=>obtain⟨n,hn⟩:=ZY.1 hx;rw[h n]at hn;cases hn
end
theorem Zst {f:FuncId}{fn:Func}{c:Code}(hf:C.P.funcs[f]?=some fn)(hb:fn.body=some c)(args:List AV)(H:Hp):Za C f args H =
 match Yo C (C.keep f) c (args++List.replicate (fn.ntmps-args.length) .undef,H) with
 |some (.normal,s)|some (.ret,s)=>match Vh C fn s with
  |some v=>DH C f H (v,s.2)
  |none=>none
 |_=>none:=by
 apply Option.ext
 intro r
 rw[JO]
 constructor
 ·rintro⟨n,hn⟩
  cases n with
  |zero=>cases hn
  |succ n =>
   simp only[call,hf,hb]at hn
   unfold body at hn
   cases hx:ZN C (call C n) (C.keep f) n c (args++List.replicate (fn.ntmps-args.length) .undef,H) with
   |none=>simp[hx]at hn
   |some p=>rw[ZY.2 ⟨n,hx⟩];rw[hx]at hn;exact hn
 ·intro h
  cases hx:Yo C (C.keep f) c (args++List.replicate (fn.ntmps-args.length) .undef,H) with
  |none=>simp[hx]at h
  |some p =>
   obtain⟨n,hn⟩:=ZY.1 hx
   refine⟨n+1,?_⟩
   simp only[call,hf,hb]
   unfold body
   rw[hn]
   rw[hx]at h
   exact h
theorem ZlW {W0:World}(hC:JZ C):V5 C W0 (Za C):=by
 intro W1 f args H H' v h S args' hI hG hs ha
 obtain⟨n,hn⟩:=JO.1 h
 exact ZnH (W0:=W1) hC n f args H H' v hn S args' hI hG hs ha
end
end Go.Am
namespace Go.Am
open RowKit
abbrev Z4:=Option (AV×Hp)
abbrev Kt:=AExit→St→Z4
def Z0 {α β:Type}(x:Option α)(f:α→Option β):Option β :=
 match x with
 |some a=>f a
 |none=>none
def Zk (c:AV)(x y:Z4):Z4 :=
 match c with
 |.bool t=>if t then x else y
 |_=>none
def Z6 {α:Type}(g:AV)(want:Bool)(els:α)(x:Option α):Option α :=
 match g with
 |.bool b=>if b==want then x else some els
 |.undef=>none
 |_=>some els
def Hc {α:Type}(ops:Array Oper)(tm:List AV)(o:Oper)(els:α)(x:Option α):Option α :=
 match o.guard with
 |none=>x
 |some (j,want)=>match (match ops[j]? with|some g=>g.dst|none=>none) with
  |none=>some els
  |some d=>match tm[d]? with
   |some g=>Z6 g want els x
   |none=>some els
def Pp (C:Cfg)(s d:TypeId):Nat :=
 match C.P.underlying s,C.P.underlying d with
 |some (.slice _),some .string=>1
 |some .string,some (.slice _)=>if C.wrb d then 2 else 0
 |_,_=>0
def ZaL (C:Cfg)(ts:List TypeId):Nat :=
 match ts with
 |[t]=>match B1 C.P t with
  |some _=>1
  |none=>0
 |_=>0
def Xd (C:Cfg):Op→Nat
 |.call { callee:=.builtin .len,argTypes,.. }=>ZaL C argTypes.toList
 |.call { callee:=.builtin .delete,.. }=>2
 |.convert s d _=>Pp C s d
 |.load _ _=>1
 |.lookup _ _ _ _=>1
 |.alloc _|.box _ _|.store _ _ _|.makeSlice _ _ _=>2
 |.makeMap _ _|.mapUpdate _ _ _ _=>2
 |.call { callee:=.value _,.. }=>2
 |.call { callee:=.builtin .append,.. }=>2
 |.call { callee:=.builtin .copy,.. }=>2
 |_=>0
def UE (x:AV)(H:Hp):Option AV :=
 match UQ x with
 |some v=>some v
 |none=>match UF x H with
  |some l=>match Wg l with
   |some s=>some (.str s)
   |none=>none
  |none=>none
def Rm (C:Cfg)(ev:Operand→AV)(H:Hp):Op→Option AV
 |.load t a=>match Xm C.P t,X5 C.P t with
  |some g,some sz=>Z3 g sz (ev a) H
  |_,_=>none
 |.lookup t x k ck=>match B1 C.P t with
  |some (d,e)=>match Qp C.P e with
   |some z=>Y6 d z ck (ev x) (ev k) H
   |none=>none
  |none=>none
 |.convert s d x=>match C.P.underlying s,C.P.underlying d with
  |some (.slice e),some .string=>if ZaG (C.P.underlying e) then UE (ev x) H else none
  |_,_=>none
 |.call { callee:=.builtin .len,args,argTypes }=>match args.toList,argTypes.toList with
  |[x],[t]=>match B1 C.P t with
   |some _=>Q2 (ev x) H
   |none=>none
  |_,_=>none
 |_=>none
def ZhL (C:Cfg)(CL:ZG)(ops:Array Oper)(fl:Bool)(o:Oper)(k:St→Z4)(tm:List AV)(H:Hp):Z4 :=
 match (if fl then 0 else Xd C o.op) with
 |0=>Z0 (Hc ops tm o (.tuple []) (Y2 C (eval C tm) o.op)) fun v=>k (Wt tm o.dst v,H)
 |1=>Z0 (Hc ops tm o (.tuple []) (Rm C (eval C tm) H o.op)) fun v=>k (Wt tm o.dst v,H)
 |_=>Z0 (Hc ops tm o (.tuple [],H) (ZH C CL (eval C tm) H o.op)) fun r=>k (Wt tm o.dst r.1,r.2)
def Dt (C:Cfg)(CL:ZG)(ops:Array Oper)(draw:Bool)(b:Nat):Nat→List Oper→(St→Z4)→St→Z4
 |_,[],k,s=>k s
 |i,o::rest,k,s=>if draw&&Wv C ops i then (if X2 C ops i then none else Z0 (Tq (b+WK C ops i) (M3 C (eval C s.1) o.op) s.2) fun r=>Dt C CL ops draw b (i+1) rest k (Wt s.1 o.dst r.1,r.2))
  else ZhL C CL ops (draw&&X2 C ops i) o (Dt C CL ops draw b (i+1) rest k) s.1 s.2
abbrev Hy (g:St→Z4)(k:Kt):Kt:=fun e s =>
 match e with
 |.normal=>g s
 |e=>k e s
abbrev Zah (id:Nat)(k:Kt):Kt:=fun e s =>
 match e with
 |.exit i=>if i=id then k .normal s else k (.exit i) s
 |e=>k e s
def CX (C:Cfg)(CL:ZG)(LP:Code→Kt→St→Z4)(kp:Nat→Option (List Nat)):Code→Kt→St→Z4
 |.skip,k,s=>k .normal s
 |.region id ops draw,k,s=>if draw&&!QI ops then none else Dt C CL ops draw (frzs kp id s).2.length 0 ops.toList (fun s'=>k .normal s') ((frzs kp id s).1,J1 (if draw then WK C ops ops.size else 0) (frzs kp id s).2)
 |.seq a b,k,s=>CX C CL LP kp a (Hy (fun s'=>CX C CL LP kp b k (trim kp b s')) k) s
 |.cond c x y,k,s=>Zk (eval C s.1 c) (CX C CL LP kp x k s) (CX C CL LP kp y k s)
 |.block id c,k,s=>CX C CL LP kp c (Zah id k) s
 |.loop c,k,s=>LP c k (trim kp c s)
 |.exit id,k,s=>k (.exit id) s
 |.label _,k,s=>k .normal s
 |.goto l,k,s=>k (.goto l) s
 |.ret,k,s=>k .ret s
 |_,_,_=>none
noncomputable def Lo (C:Cfg)(kp:Nat→Option (List Nat))(c:Code)(k:Kt)(s:St):Z4:=Z0 (Yo C kp (.loop c) s) fun p=>k p.1 p.2
def sub:Code→List Nat→Code
 |.seq a _,0::p=>sub a p
 |.seq _ b,1::p=>sub b p
 |.cond _ x _,0::p=>sub x p
 |.cond _ _ y,1::p=>sub y p
 |.block _ c,0::p=>sub c p
 |.loop c,0::p=>sub c p
 |c,_=>c
def Z1 (fn:Func):Code :=
 match fn.body with
 |some c=>c
 |none=>.skip
theorem Ho {α β:Type}[BEq α][LawfulBEq α]{l:List (α×β)}{a:α}{b:β}(h:l.lookup a=some b):(a,b)∈l:=by
 induction l with
 |nil=>simp at h
 |cons x l ih =>
  obtain⟨c,d⟩:=x
  simp only[List.lookup_cons]at h
  split at h
  ·rename_i he
   injection h with h
   subst h
   rw[eq_of_beq he]
   simp
  ·exact List.mem_cons_of_mem _ (ih h)
def Za6 (P:Program)(f:Nat):Prop:=∀ (args:Array Value) (w:World),(callFunc f args).run P w=.ok (.enter f args) w
theorem Zpa {P:Program}:∀ f∈([]:List Nat),Za6 P f:=fun _ h=>by cases h
theorem Z2 {P:Program}{f:Nat}{l:List Nat}(h:Za6 P f)(t:∀ g∈l,Za6 P g):∀ g∈f::l,Za6 P g:=fun g hg=>by
 rcases List.mem_cons.1 hg with rfl|hg
 ·exact h
 ·exact t g hg
def Zvf (l:List (Nat×List (Nat×List Nat)))(f r:Nat):Option (List Nat) :=
 match l.lookup f with
 |some m=>m.lookup r
 |none=>none
section
variable {C:Cfg}{kp:Nat→Option (List Nat)}
theorem Zjq (keep:List Nat):∀ (l:List AV) (i:Nat),Xh keep i (Xh keep i l)=Xh keep i l:=by
 intro l
 induction l with
 |nil=>intro i;rfl
 |cons a l ih =>
  intro i
  simp only[Xh,ih]
  split <;> simp_all
theorem ZiW (c:Code)(s:St):trim kp c (trim kp c s)=trim kp c s:=by
 unfold trim
 cases XJ c with
 |none=>rfl
 |some r =>
  simp only
  cases kp r with
  |none=>rfl
  |some keep=>simp[Zjq]
theorem ZrR (c:Code)(k:Kt)(s:St):Lo C kp c k (trim kp c s)=Lo C kp c k s:=by
 unfold Lo
 rw[Dz,Dz (s:=s),ZiW]
theorem ZkN {x:Option AV}{H:Hp}:x.map (fun v=>(v,H))=Z0 x fun v=>some (v,H):=by cases x <;> rfl
theorem Znv {CL:ZG}{ev:Operand→AV}{H:Hp}{t:TypeId}{x q:Operand}{ck:Bool}:Xs C CL ev H false (.lookup t x q ck)=(Z0 (Rm C ev H (.lookup t x q ck)) fun v=>some (v,H)):=by
 simp only[Xs,Y2,ZH,Rm,Bool.false_eq_true,if_false]
 cases B1 C.P t with
 |none=>rfl
 |some p =>
  obtain⟨d,e⟩:=p
  simp only
  cases Qp C.P e with
  |none=>rfl
  |some z=>simp only;cases Y6 d z ck (ev x) (ev q) H <;> rfl
theorem Zsf {CL:ZG}{ev:Operand→AV}{H:Hp}{t:TypeId}{a:Operand}:Xs C CL ev H false (.load t a)=Z0 (Rm C ev H (.load t a)) fun v=>some (v,H):=by
 unfold Xs
 simp only[Y2,Rm,ZH]
 cases Xm C.P t with
 |none=>rfl
 |some g =>
  cases X5 C.P t with
  |none=>rfl
  |some sz =>
   simp only[Bool.false_eq_true,if_false]
   rw[ZkN]
   cases ev a <;> first
    |rfl
    |(simp only[Yi,Z3];generalize apart g sz _ 0=x;cases x <;> rfl)
theorem Zsd {CL:ZG}{ev:Operand→AV}{H:Hp}{s d:TypeId}{x:Operand}(h:Pp C s d=1):Xs C CL ev H false (.convert s d x)=Z0 (Rm C ev H (.convert s d x)) fun v=>some (v,H):=by
 unfold Pp at h
 split at h
 ·rename_i e hs hd
  unfold Xs
  simp only[Y2,Rm,ZH,ZfD,hs,hd,Bool.false_eq_true,if_false]
  cases ZaG (C.P.underlying e) with
  |false=>rfl
  |true =>
   simp only[if_true]
   unfold UE Jq
   cases UQ (ev x) with
   |some v=>rfl
   |none =>
    simp only
    cases UF (ev x) H with
    |none=>rfl
    |some l=>simp only;cases Wg l <;> rfl
 ·split at h <;> cases h
 ·cases h
theorem Zs5 {t:TypeId}{p:TypeDesc×TypeId}{x:AV}(h:B1 C.P t=some p):Zk4 C.P t x=none:=by
 obtain⟨d,e⟩:=p
 obtain⟨k,h1,_⟩:=C2 h
 unfold Zk4
 rw[h1]
 rfl
theorem ZuH {CL:ZG}{ev:Operand→AV}{H:Hp}{args:Array Operand}{ts:Array TypeId}(h:ZaL C ts.toList=1):Xs C CL ev H false (.call { callee:=.builtin .len,args:=args,argTypes:=ts })=Z0 (Rm C ev H (.call { callee:=.builtin .len,args:=args,argTypes:=ts })) fun v=>some (v,H):=by
 unfold Xs
 simp only[Y2,Rm,ZH,Bool.false_eq_true,if_false]
 unfold ZaL at h
 split at h
 ·rename_i t ht
  split at h
  ·rename_i p hp
   rw[ht]
   cases args.toList with
   |nil=>rfl
   |cons x l =>
    cases l with
    |nil =>
     simp only[Zs5 hp,hp]
     exact ZkN
    |cons y l=>rfl
  ·cases h
 ·cases h
theorem Zpv {CL:ZG}{ev:Operand→AV}{H:Hp}{args:Array Operand}{ts:Array TypeId}(h:ZaL C ts.toList=0):ZH C CL ev H (.call { callee:=.builtin .len,args:=args,argTypes:=ts })=none:=by
 simp only[ZH]
 unfold ZaL at h
 split
 ·rename_i x t hx ht
  rw[ht]at h
  simp only at h
  split at h
  ·cases h
  ·rename_i hm
   rw[hm]
 ·rfl
theorem ZmM (ts:List TypeId):ZaL C ts=0∨ZaL C ts=1:=by
 unfold ZaL
 split
 ·split
  ·exact .inr rfl
  ·exact .inl rfl
 ·exact .inl rfl
theorem Znm {CL:ZG}{ev:Operand→AV}{H:Hp}{op:Op}(h:Xd C op=0):ZH C CL ev H op=none:=by
 cases op with
 |call c =>
  obtain⟨callee,args,ts⟩:=c
  cases callee with
  |value f=>simp[Xd]at h
  |invoke r m=>rfl
  |builtin b=>cases b <;> first|rfl|(exact Zpv h)|(simp[Xd]at h;done)
 |convert s d x =>
  simp only[Xd,Pp]at h
  simp only[ZH]
  split at h
  ·cases h
  ·rename_i e hs hd
   split at h
   ·cases h
   ·rename_i hw
    simp only[hs,hd,Bool.eq_false_iff.2 hw,Bool.false_and]
    rfl
  ·rename_i h1 h2
   split
   ·rename_i e hs hd;exact absurd hd (h1 _ hs)
   ·rename_i e hs hd;exact absurd hd (h2 _ hs)
   ·rfl
 |_=>first|rfl|(simp[Xd]at h;done)
theorem ZpB {ev:Operand→AV}{op:Op}(h:Xd C op=2):Y2 C ev op=none:=by
 cases op with
 |call c =>
  obtain⟨callee,args,ts⟩:=c
  cases callee with
  |value f=>rfl
  |invoke r m=>simp[Xd]at h
  |builtin b =>
   cases b <;> first
    |rfl
    |(simp[Xd]at h;done)
    |(simp only[Xd]at h;rcases ZmM (C:=C) ts.toList with e|e <;> (rw[e]at h;cases h))
 |convert s d x =>
  simp only[Xd,Pp]at h
  split at h
  ·cases h
  ·rename_i e hs hd
   split at h
   ·rename_i hw
    simp only[Y2,ZfD,hs,hd,hw,if_true]
    split <;> rfl
   ·cases h
  ·cases h
 |_=>first|rfl|(simp[Xd]at h;done)
theorem ZsA (s d:TypeId):Pp C s d=0∨Pp C s d=1∨Pp C s d=2:=by
 unfold Pp
 split
 ·simp
 ·split <;> simp
 ·simp
theorem ZqA (op:Op):Xd C op=0∨Xd C op=1∨Xd C op=2:=by
 unfold Xd
 split <;> first|exact ZsA _ _|(rcases ZmM (C:=C) _ with h|h <;> rw[h] <;> simp)|simp
theorem Zse {CL:ZG}{ev:Operand→AV}{H:Hp}{op:Op}:Xs C CL ev H true op=Z0 (Y2 C ev op) fun v=>some (v,H):=by
 unfold Xs
 cases Y2 C ev op <;> rfl
theorem ZhS {α:Type}{ops:Array Oper}{tm:List AV}{o:Oper}{els:α}{x:Option α}:Hc ops tm o els x=match WG ops tm o with
 |none=>none
 |some false=>some els
 |some true=>x:=by
 unfold Hc WG
 cases o.guard with
 |none=>rfl
 |some p =>
  obtain⟨j,want⟩:=p
  simp only
  cases ops[j]? with
  |none=>rfl
  |some g =>
   simp only
   cases g.dst with
   |none=>rfl
   |some d =>
    simp only
    cases tm[d]? with
    |none=>rfl
    |some g =>
     cases g with
     |bool b=>simp only[Z6];cases (b==want) <;> rfl
     |_=>rfl
theorem ZtA {CL:ZG}{ops:Array Oper}{fl:Bool}{o:Oper}{k:St→Z4}{s:St}:Z0 (Ut C CL ops fl o s) k=ZhL C CL ops fl o k s.1 s.2:=by
 obtain⟨tm,H⟩:=s
 have hp:∀ (r:Z4),Xs C CL (eval C tm) H fl o.op=r →
  Z0 (Ut C CL ops fl o (tm,H)) k=Z0 (Hc ops tm o (.tuple [],H) r) fun r=>k (Wt tm o.dst r.1,r.2):=by
  intro r hr
  unfold Ut Wx
  rw[ZhS]
  cases WG ops tm o with
  |none=>rfl
  |some b =>
   cases b with
   |false=>rfl
   |true=>simp only[hr];cases r <;> rfl
 have val:∀ (r:Option AV),Xs C CL (eval C tm) H fl o.op=(Z0 r fun v=>some (v,H)) →
  Z0 (Ut C CL ops fl o (tm,H)) k=Z0 (Hc ops tm o (.tuple []) r) fun v=>k (Wt tm o.dst v,H):=by
  intro r hr
  rw[hp _ hr,ZhS,ZhS]
  cases WG ops tm o with
  |none=>rfl
  |some b =>
   cases b with
   |false=>rfl
   |true=>cases r <;> rfl
 unfold ZhL
 cases fl with
 |true =>
  simp only[if_true]
  exact val _ Zse
 |false =>
  simp only[Bool.false_eq_true,if_false]
  rcases ZqA (C:=C) o.op with h|h|h
  ·rw[h]
   refine val _ ?_
   unfold Xs
   have h0:=Znm (C:=C) (CL:=CL) (ev:=eval C tm) (H:=H) h
   cases Y2 C (eval C tm) o.op with
   |none=>simp only[Bool.false_eq_true,if_false];rw[h0];rfl
   |some v=>rfl
  ·rw[h]
   cases hop:o.op with
   |load t a=>exact val _ (by rw[hop];exact Zsf)
   |lookup t x q ck=>exact val _ (by rw[hop];exact Znv)
   |convert s d x=>exact val _ (by rw[hop];rw[hop]at h;exact Zsd h)
   |call c =>
    rw[hop]at h
    obtain⟨callee,args,ts⟩:=c
    cases callee with
    |value f=>simp[Xd]at h
    |invoke r m=>simp[Xd]at h
    |builtin b=>cases b <;> first|(simp[Xd]at h;done)|(exact val _ (by rw[hop];exact ZuH h))
   |_=>rw[hop]at h;simp[Xd]at h
  ·rw[h]
   refine hp _ ?_
   unfold Xs
   rw[ZpB h]
   rfl
theorem ZnR {CL:ZG}{ops:Array Oper}{draw:Bool}{b:Nat}{k:St→Z4}:∀ (l:List Oper) (i:Nat) (s:St),Z0 (Ye C CL ops draw b i l s) k=Dt C CL ops draw b i l k s:=by
 intro l
 induction l with
 |nil=>intro i s;rfl
 |cons o l ih =>
  intro i s
  unfold Ye Dt XH
  by_cases hl:(draw&&Wv C ops i)=true
  ·rw[if_pos hl,if_pos hl]
   by_cases hf:X2 C ops i=true
   ·rw[if_pos hf,if_pos hf];rfl
   ·rw[if_neg hf,if_neg hf]
    cases Tq (b+WK C ops i) (M3 C (eval C s.1) o.op) s.2 with
    |none=>rfl
    |some p=>exact ih (i+1) _
  ·rw[if_neg hl,if_neg hl,←ZtA]
   cases Ut C CL ops (draw&&X2 C ops i) o s with
   |none=>rfl
   |some s'=>exact ih (i+1) s'
theorem Zuj:∀ (c:Code) (k:Kt) (s:St),CX C (Za C) (Lo C kp) kp c k s=Z0 (Yo C kp c s) fun p=>k p.1 p.2:=by
 intro c
 induction c with
 |skip=>intro k s;rw[ZnW];rfl
 |region id ops draw =>
  intro k s
  rw[Zks]
  simp only[CX]
  split
  ·rfl
  ·rw[←ZnR]
   cases Ye C (Za C) ops draw (frzs kp id s).2.length 0 ops.toList ((frzs kp id s).1,J1 (if draw then WK C ops ops.size else 0) (frzs kp id s).2) <;> rfl
 |seq a b iha ihb =>
  intro k s
  rw[Zq9]
  simp only[CX]
  rw[iha]
  cases Yo C kp a s with
  |none=>rfl
  |some p =>
   obtain⟨e,s'⟩:=p
   cases e with
   |normal=>simp only[Z0,Hy];rw[ihb];rfl
   |_=>rfl
 |cond c x y ihx ihy =>
  intro k s
  rw[ZnT]
  simp only[CX]
  rw[ihx,ihy]
  cases eval C s.1 c with
  |bool t=>cases t <;> rfl
  |_=>rfl
 |block id c ih =>
  intro k s
  rw[Zm8]
  simp only[CX]
  rw[ih]
  cases Yo C kp c s with
  |none=>rfl
  |some p =>
   obtain⟨e,s'⟩:=p
   cases e with
   |exit i =>
    simp only[Z0,Zah]
    split <;> rfl
   |_=>rfl
 |loop c _ =>
  intro k s
  simp only[CX]
  rw[ZrR]
  rfl
 |rangeFunc f p x y _ _=>intro k s;simp only[CX];rw[H8 (fun n=>rfl)];rfl
 |exit id=>intro k s;rw[ZnU];rfl
 |scope c _=>intro k s;simp only[CX];rw[H8 (fun n=>rfl)];rfl
 |label l=>intro k s;rw[Zm9];rfl
 |goto l=>intro k s;rw[ZnV];rfl
 |ret=>intro k s;rw[Zq8];rfl
 |refuse s=>intro k s;simp only[CX];rw[H8 (fun n=>rfl)];rfl
theorem ZvV (c:Code)(k:Kt)(s:St):Lo C kp c k s=CX C (Za C) (Lo C kp) kp c (Hy (fun s'=>Lo C kp c k (trim kp c s')) k) (trim kp c s):=by
 rw[Zuj]
 unfold Lo
 rw[Dz]
 cases Yo C kp c (trim kp c s) with
 |none=>rfl
 |some p =>
  obtain⟨e,s'⟩:=p
  cases e with
  |normal =>
   show Z0 (Yo C kp (.loop c) s') _=Z0 (Yo C kp (.loop c) (trim kp c s')) _
   rw[Dz,Dz (s:=trim kp c s'),ZiW]
  |_=>rfl
def Hw (C:Cfg):List ResultVar→St→List AV→(List AV→Z4)→Z4
 |[],_,acc,k=>k acc
 |r::rs,s,acc,k=>Z0 (XW C s r) fun v=>Hw C rs s (acc++[v]) k
noncomputable def ZaJ (C:Cfg)(f:FuncId)(H0:Hp)(H:Hp):List AV→Z4
 |[v]=>DH C f H0 (v,H)
 |l=>DH C f H0 (.tuple l,H)
noncomputable abbrev ZwJ (C:Cfg)(f:FuncId)(fn:Func)(H0:Hp):Kt:=fun e s =>
 match e with
 |.normal=>Hw C fn.results.toList s [] (ZaJ C f H0 s.2)
 |.ret=>Hw C fn.results.toList s [] (ZaJ C f H0 s.2)
 |_=>none
theorem ZvA (s:St)(k:List AV→Z4):∀ (rs:List ResultVar) (acc:List AV),Hw C rs s acc k=Z0 (rs.mapM (XW C s)) fun l=>k (acc++l):=by
 intro rs
 induction rs with
 |nil=>intro acc;simp[Hw,Z0]
 |cons r rs ih =>
  intro acc
  rw[List.mapM_cons]
  unfold Hw
  cases XW C s r with
  |none=>rfl
  |some v =>
   simp only[Z0]
   rw[ih]
   cases rs.mapM (XW C s) with
   |none=>rfl
   |some l=>simp[Z0]
theorem Zss {f:FuncId}{fn:Func}{c:Code}(hf:C.P.funcs[f]?=some fn)(hb:fn.body=some c)(args:List AV)(H:Hp) :
 Za C f args H=CX C (Za C) (Lo C (C.keep f)) (C.keep f) c (ZwJ C f fn H) (args++List.replicate (fn.ntmps-args.length) .undef,H):=by
 rw[Zst hf hb,Zuj]
 have key:∀ s:St,(match Vh C fn s with|some v=>DH C f H (v,s.2)|none=>none)=Hw C fn.results.toList s [] (ZaJ C f H s.2):=by
  intro s
  rw[ZvA]
  unfold Vh
  cases fn.results.toList.mapM (XW C s) with
  |none=>rfl
  |some l =>
   match l with
   |[]=>rfl
   |[v]=>rfl
   |a::b::l=>rfl
 cases Yo C (C.keep f) c (args++List.replicate (fn.ntmps-args.length) .undef,H) with
 |none=>rfl
 |some p =>
  obtain⟨e,s⟩:=p
  cases e with
  |normal=>exact key s
  |ret=>exact key s
  |_=>rfl
end
end Go.Am
