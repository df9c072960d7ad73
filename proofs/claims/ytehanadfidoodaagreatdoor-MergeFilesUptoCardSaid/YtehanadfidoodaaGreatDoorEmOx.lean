/-
  THE ABSTRACT MACHINE, part O: calls are sound.
-/
import Derived.Test.YtehanadfidoodaaGreatDoorEmMx
namespace Go.Am
open RowKit
section
variable {C:Cfg}{W0:World}
theorem ZbJ {P:Program}{t:TypeId}{u:Value}{ad:Addr}{v:Value}{w:World}(hu:u=.pointer (some ad))(h:(loadVar t ad).run P w=.ok v w):(do loadVar t (←asAddr u):Sem Value).run P w=.ok v w:=by
 subst hu
 simp[asAddr,h]
def Zhx (tmps:Array Value):ResultVar→Sem Value
 |.tmp t=>pure (tmps.getD t undef)
 |.cell a t=>do loadVar t (←asAddr (tmps.getD a undef))
theorem Zlm (fn:Func)(tmps:Array Value):results fn tmps=(do let vs ←fn.results.mapM (Zhx tmps);pure (if h:vs.size=1 then vs[0] else .tuple vs)):=by
 unfold results
 congr 1
theorem Zhm {S:Snap}{H:Hp}{tm:List AV}{tmps:Array Value}(hI:Inv W0 S H)(hF:FRel S tm tmps){r:ResultVar}{v:AV}(h:W7 C (tm,H) r=some v) :
 ∃ v',(Zhx tmps r).run C.P S.w=.ok v' S.w∧VRel S v v':=by
 cases r with
 |tmp t =>
  simp only[W7,Option.some.injEq]at h
  subst h
  exact⟨_,rfl,hF.getD t⟩
 |cell a t =>
  simp only[W7]at h
  split at h
  ·rename_i g sz hg hs
   obtain⟨v',ad,hu,hr,hv⟩:=Zaz (P:=C.P) hI hg hs (hF.getD a) h
   exact⟨v',ZbJ hu hr,hv⟩
  ·cases h
theorem ZpS {S:Snap}{H:Hp}{tm:List AV}{tmps:Array Value}(hI:Inv W0 S H)(hF:FRel S tm tmps):∀ (l:List ResultVar) (r:List AV),l.mapM (W7 C (tm,H))=some r →
 ∃ vs:List Value,(l.mapM (Zhx tmps)).run C.P S.w=.ok vs S.w∧vs.length=r.length ∧
  ∀ (i:Nat) (a:AV) (v:Value),r[i]?=some a→vs[i]?=some v→VRel S a v:=by
 intro l
 induction l with
 |nil=>intro r h;simp at h;subst h;exact⟨[],rfl,rfl,by simp⟩
 |cons x l ih =>
  intro r h
  rw[List.mapM_cons]at h
  cases hx:W7 C (tm,H) x with
  |none=>simp[hx]at h
  |some a =>
   cases hl:l.mapM (W7 C (tm,H)) with
   |none=>simp[hx,hl]at h
   |some as =>
    simp[hx,hl]at h
    subst h
    obtain⟨v,h1,h2⟩:=Zhm hI hF hx
    obtain⟨vs,h3,h4,h5⟩:=ih as hl
    refine⟨v::vs,?_,by simp[h4],fun i a v ha hv=>?_⟩
    ·rw[List.mapM_cons]
     simp only[Sem.run_bind,h1,h3,Result.andThen_ok,Sem.run_pure]
    ·cases i with
     |zero=>simp at ha hv;subst ha hv;exact h2
     |succ i=>exact h5 i a v (by simpa using ha) (by simpa using hv)
theorem Zhn {S:Snap}{H:Hp}{tm:List AV}{tmps:Array Value}(hI:Inv W0 S H)(hF:FRel S tm tmps){fn:Func}{v:AV}(h:Vv C fn (tm,H)=some v):∃ v',(results fn tmps).run C.P S.w=.ok v' S.w∧VRel S v v':=by
 unfold Vv at h
 have main:∀ l,fn.results.toList.mapM (W7 C (tm,H))=some l→∃ vs:List Value,(results fn tmps).run C.P S.w=.ok (if h:vs.toArray.size=1 then vs.toArray[0] else .tuple vs.toArray) S.w∧vs.length=l.length ∧
  ∀ (i:Nat) (a:AV) (v:Value),l[i]?=some a→vs[i]?=some v→VRel S a v:=by
  intro l hl
  obtain⟨vs,h1,h2,h3⟩:=ZpS hI hF _ l hl
  refine⟨vs,?_,h2,h3⟩
  rw[Zlm,Sem.run_bind,Array.mapM_eq_mapM_toList,Sem.run_map,h1]
  rfl
 split at h
 ·rename_i v1 hl
  injection h with h
  subst h
  obtain⟨vs,h1,h2,h3⟩:=main _ hl
  match vs,h2 with
  |[u],_=>exact⟨u,by simpa using h1,h3 0 v1 u rfl rfl⟩
 ·rename_i l hne hl
  injection h with h
  subst h
  obtain⟨vs,h1,h2,h3⟩:=main _ hl
  have hn:vs.toArray.size≠1:=by
   intro hc
   have:l.length=1:=by simp at hc;omega
   match l,this with
   |[a],_=>exact hne a rfl
  rw[dif_neg hn]at h1
  exact⟨_,h1,.tuple _ _ (by simp[h2]) fun i a v ha hv=>h3 i a v ha (by simpa using hv)⟩
 ·cases h
theorem Zh2 {S:Snap}{args:List AV}{args':Array Value}(hs:args'.size=args.length)(h:∀ (i:Nat) (a:AV) (u:Value),args[i]?=some a→args'[i]?=some u→VRel S a u)(n:Nat) :
 FRel S (args++List.replicate (n-args.length) .undef) (args'++Array.replicate (n-args'.size) undef):=by
 refine⟨by simp[hs],fun i a v ha hv=>?_⟩
 rcases Nat.lt_or_ge i args.length with hi|hi
 ·rw[List.getElem?_append_left hi]at ha
  rw[Array.getElem?_append_left (by omega)]at hv
  exact h i a v ha hv
 ·rw[List.getElem?_append_right hi]at ha
  rw[Array.getElem?_append_right (by omega)]at hv
  rw[List.getElem?_replicate]at ha
  rw[Array.getElem?_replicate]at hv
  split at ha
  ·injection ha with ha
   split at hv
   ·injection hv with hv
    subst ha hv
    exact .undef _
   ·cases hv
  ·cases ha
theorem Zk4 (hC:Ji C){cl:ZI}(hcall:Vh C W0 cl)(hfr:Wj cl){n:Nat}{f:FuncId}{fn:Func}{c:Code}(hf:C.P.funcs[f]?=some fn)(hb:fn.body=some c){args:List AV}{H H':Hp}{v:AV}
 (h:body C cl n f fn c args H=some (v,H')) {S:Snap} {args':Array Value} (hI:Inv W0 S H) (hG:GlobOk C S) (hs:args'.size=args.length) (ha:∀ (i:Nat) (a:AV) (u:Value),args[i]?=some a→args'[i]?=some u→VRel S a u) :
 Calls C.P f args' S.w fun e w'=>∃ v' S',e=.returned v'∧S'.w=w'∧Ext S S'∧Inv W0 S' H'∧VRel S' v v':=by
 unfold body at h
 refine calls_of_wp hf hb ?_
 have hrel:Rel C W0 S (args++List.replicate (fn.ntmps-args.length) .undef,H) { tmps:=args'++Array.replicate (fn.ntmps-args'.size) undef,defers:=[] } S.w :=
  ⟨S,rfl,Ext.refl S,hI,hG,Zh2 hs ha fn.ntmps,rfl⟩
 cases hex:ZL C cl (C.keep f) n c (args++List.replicate (fn.ntmps-args.length) .undef,H) with
 |none=>simp[hex]at h
 |some p =>
  obtain⟨e,s⟩:=p
  refine wp_mono (Zrk hC hcall hfr c _ s e _ _ hex hrel) fun e' a w hp=>?_
  obtain⟨rfl,S1,rfl,hx1,hI1,hG1,hF1,hd1⟩:=hp
  have fin:∀ r,(match Vv C fn s with|some v=>DB C f H (v,s.2)|none=>none)=some r→r=(v,H')→a.defers=[]∧∃ v,(results fn a.tmps).run C.P S1.w=.ok v S1.w ∧
   (fun e w'=>∃ v' S',e=Ending.returned v'∧S'.w=w'∧Ext S S'∧Inv W0 S' H'∧VRel S' r.1 v') (.returned v) S1.w:=by
   rintro r hr rfl
   refine⟨hd1,?_⟩
   split at hr
   ·rename_i v1 hv1
    obtain⟨v',hrun,hv⟩:=Zhn (tm:=s.1) hI1 hF1 hv1
    refine⟨v',hrun,?_⟩
    unfold DB at hr
    split at hr
    ·unfold Nk at hr
     split at hr
     ·rename_i htake
      cases hcl:Z9 s.2 H.length 6 v1 with
      |none=>simp[hcl]at hr
      |some v2 =>
       simp only[hcl,Option.some.injEq,Prod.mk.injEq]at hr
       obtain⟨rfl,rfl⟩:=hr
       exact⟨v',S1.back H,rfl,rfl,Ext.back hI hx1,Inv.back hI hI1 htake,N3 hI1 htake 6 _ _ _ hcl hv⟩
     ·cases hr
    ·simp only[Option.some.injEq,Prod.mk.injEq]at hr
     obtain⟨rfl,rfl⟩:=hr
     exact⟨v',S1,rfl,rfl,hx1,hI1,hv⟩
   ·cases hr
  cases e with
  |normal =>
   simp only[hex]at h
   exact fin _ h rfl
  |ret =>
   simp only[hex]at h
   exact fin _ h rfl
  |_=>simp[hex]at h
theorem Zk6 (hC:Ji C):∀ n,Vh C W0 (call C n):=by
 intro n
 induction n with
 |zero=>intro W1 f args H H' v h;simp[call]at h
 |succ n ih =>
  intro W1 f args H H' v h S args' hI hG hs ha
  have ih':Vh C W1 (call C n):=ih
  simp only[call]at h
  split at h
  ·cases h
  ·rename_i fn hf
   split at h
   ·cases h
   ·rename_i c hb
    exact Zk4 hC ih' (ZaC C n) hf hb h hI hG hs ha
end
end Go.Am
namespace Go.Am
open RowKit
section
variable {C:Cfg}
def Le (c c':ZI):Prop:=∀ f a H r,c f a H=some r→c' f a H=some r
theorem ZcX {a:List AV→Hp→Option (AV×Hp)}{args:List AV}{H:Hp}{r:AV×Hp}(h:Ze a args H=some r) :
 ∃ args' q,a args' []=some q∧∀ b:List AV→Hp→Option (AV×Hp),b args' []=some q→Ze b args H=some r:=by
 unfold Ze at h
 split at h
 ·rename_i args1 hm
  split at h
  ·rename_i v1 H1 hc
   exact⟨args1,_,hc,fun b hb=>by unfold Ze;simp only[hm,hb];exact h⟩
  ·cases h
 ·cases h
theorem Zhu {a:List AV→Hp→Option (AV×Hp)}{args:List AV}{H:Hp}{r:AV×Hp}(h:JM a args H=some r) :
 ∃ q,a args H=some q∧∀ b:List AV→Hp→Option (AV×Hp),b args H=some q→JM b args H=some r:=by
 unfold JM at h
 split at h
 ·rename_i v1 H1 hc
  exact⟨_,hc,fun b hb=>by unfold JM;simp only[hb];exact h⟩
 ·cases h
theorem ZhU {c c':ZI}(h:Le c c'){id:FuncId}{args:List AV}{H:Hp}{r:AV×Hp}(hr:Xk C c id args H=some r):Xk C c' id args H=some r:=by
 unfold Xk at hr ⊢
 cases he:C.ext id with
 |some e=>simpa[he]using hr
 |none =>
  cases hsm:C.sum id with
  |some g=>simpa[he,hsm]using hr
  |none =>
  cases hef:C.eff id with
  |some g=>simpa[he,hsm,hef]using hr
  |none =>
  simp only[he,hsm,hef]at hr ⊢
  by_cases hu:C.user id=true
  ·by_cases hfl:C.flat id=true
   ·simp only[hu,hfl,if_true]at hr ⊢
    obtain⟨args',q,q1,q2⟩:=ZcX hr
    exact q2 _ (h _ _ _ _ q1)
   ·by_cases hro:C.ro id=true
    ·simp only[hu,hfl,hro,Bool.false_eq_true,if_false,if_true]at hr ⊢
     obtain⟨q,q1,q2⟩:=Zhu hr
     exact q2 _ (h _ _ _ _ q1)
    ·simp only[hu,hfl,hro,Bool.false_eq_true,if_false,if_true]at hr ⊢
     exact h _ _ _ _ hr
  ·simp[hu]at hr
theorem Zcu {c c':ZI}(h:Le c c'){f:AV}{args:List AV}{H:Hp}{r:AV×Hp}(hr:Yf C c f args H=some r):Yf C c' f args H=some r:=by
 unfold Yf at hr ⊢
 split at hr
 ·exact ZhU h hr
 ·cases hr
theorem ZhV {c c':ZI}(h:Le c c'){f:AV}{args:List AV}{H:Hp}{r:AV×Hp}(hr:Xl C c f args H=some r):Xl C c' f args H=some r:=by
 unfold Xl qC at hr ⊢
 split at hr
 ·split at hr
  ·rename_i hq
   rw[if_pos hq]
   exact Zcu h hr
  ·cases hr
 ·cases hr
theorem ZjH {c c':ZI}(h:Le c c'){ev:Operand→AV}{H:Hp}{op:Op}{r:AV×Hp}(hr:ZJ C c ev H op=some r):ZJ C c' ev H op=some r:=by
 cases op <;> try exact hr
 case makeMap t r=>cases r <;> exact hr
 case call cl =>
  obtain⟨callee,args,ts⟩:=cl
  cases callee with
  |value f =>
   simp only[ZJ]at hr ⊢
   split at hr
   ·rename_i hq
    rw[if_pos hq]
    exact ZhV h hr
   ·rename_i hq
    rw[if_neg hq]
    exact Zcu h hr
  |invoke r m=>exact hr
  |builtin b=>cases b <;> exact hr
theorem ZoI {c c':ZI}(h:Le c c'){ev:Operand→AV}{H:Hp}{fl:Bool}{op:Op}{r:AV×Hp}(hr:Xx C c ev H fl op=some r):Xx C c' ev H fl op=some r:=by
 unfold Xx at hr ⊢
 split at hr
 ·exact hr
 ·split at hr
  ·cases hr
  ·rename_i hf
   rw[if_neg hf]
   exact ZjH h hr
theorem Zl9 {c c':ZI}(h:Le c c'){ops:Array Oper}{fl:Bool}{o:Oper}{s r:St}(hr:UI C c ops fl o s=some r):UI C c' ops fl o s=some r:=by
 unfold UI WA at hr ⊢
 cases hw:WL ops s.1 o with
 |none=>simp[hw]at hr
 |some b =>
  cases b with
  |false=>simp only[hw]at hr ⊢;exact hr
  |true =>
   simp only[hw]at hr ⊢
   cases ha:Xx C c (eval C s.1) s.2 fl o.op with
   |none=>simp[ha]at hr
   |some q=>rw[ZoI h ha];rw[ha]at hr;exact hr
theorem Zdu {c c':ZI}(h:Le c c'){ops:Array Oper}{draw:Bool}{b i:Nat}{o:Oper}{s r:St}(hr:XN C c ops draw b i o s=some r):XN C c' ops draw b i o s=some r:=by
 unfold XN at hr ⊢
 by_cases hl:(draw&&Wy C ops i)=true
 ·rw[if_pos hl]at hr ⊢;exact hr
 ·rw[if_neg hl]at hr ⊢;exact Zl9 h hr
theorem Na {c c':ZI}(h:Le c c'){ops:Array Oper}{draw:Bool}{b:Nat}:∀ (l:List Oper) (i:Nat) (s r:St),Yb C c ops draw b i l s=some r→Yb C c' ops draw b i l s=some r:=by
 intro l
 induction l with
 |nil=>intro i s r hr;exact hr
 |cons o l ih =>
  intro i s r hr
  unfold Yb at hr ⊢
  split at hr
  ·rename_i s' hs
   rw[Zdu h hs]
   exact ih _ _ _ hr
  ·cases hr
theorem Cd {f g:St→Option (AExit×St)}(h:∀ s r,f s=some r→g s=some r):∀ (n m:Nat) (s:St) (r:AExit×St),n≤m→UH f n s=some r→UH g m s=some r:=by
 intro n
 induction n with
 |zero=>intro m s r _ hr;cases hr
 |succ n ih =>
  intro m s r hm hr
  obtain⟨m,rfl⟩:∃ k,m=k+1:=⟨m-1,by omega⟩
  unfold UH at hr ⊢
  cases hf:f s with
  |none=>simp[hf]at hr
  |some p =>
   rw[h s p hf]
   obtain⟨e,s'⟩:=p
   cases e with
   |normal=>simp only[hf]at hr ⊢;exact ih m s' r (by omega) hr
   |_=>simpa[hf]using hr
theorem JI {c c':ZI}(h:Le c c'){kp:Nat→Option (List Nat)}{n m:Nat}(hnm:n≤m):∀ (cd:Code) (s:St) (r:AExit×St),ZL C c kp n cd s=some r→ZL C c' kp m cd s=some r:=by
 intro cd
 induction cd with
 |region id ops draw =>
  intro s r hr
  simp only[ZL]at hr ⊢
  split at hr
  ·cases hr
  ·rename_i hd
   rw[if_neg hd]
   split at hr
   ·rename_i s' hs
    rw[Na h _ _ _ _ hs]
    exact hr
   ·cases hr
 |seq x y ihx ihy =>
  intro s r hr
  simp only[ZL]at hr ⊢
  cases hx:ZL C c kp n x s with
  |none=>simp[hx]at hr
  |some p =>
   rw[ihx s p hx]
   obtain⟨e,s'⟩:=p
   cases e with
   |normal=>simp only[hx]at hr ⊢;exact ihy _ _ hr
   |_=>simpa[hx]using hr
 |cond o x y ihx ihy =>
  intro s r hr
  simp only[ZL]at hr ⊢
  split at hr
  ·rename_i t ht
   cases t with
   |true=>exact ihx _ _ (by simpa using hr)
   |false=>exact ihy _ _ (by simpa using hr)
  ·cases hr
 |block id x ih =>
  intro s r hr
  simp only[ZL]at hr ⊢
  cases hx:ZL C c kp n x s with
  |none=>simp[hx]at hr
  |some p=>rw[ih s p hx];rw[hx]at hr;exact hr
 |loop x ih =>
  intro s r hr
  simp only[ZL]at hr ⊢
  exact Cd (fun s r=>ih (trim kp x s) r) n m s r hnm hr
 |_=>intro s r hr;exact hr
theorem Zmb {c c':ZI}(h:Le c c'){n m:Nat}(hnm:n≤m){f:FuncId}{fn:Func}{cd:Code}{args:List AV}{H:Hp}{r:AV×Hp}(hr:body C c n f fn cd args H=some r):body C c' m f fn cd args H=some r:=by
 unfold body at hr ⊢
 cases hx:ZL C c (C.keep f) n cd (args++List.replicate (fn.ntmps-args.length) .undef,H) with
 |none=>simp[hx]at hr
 |some p=>rw[JI h hnm _ _ _ hx];rw[hx]at hr;exact hr
theorem U5:∀ (n m:Nat),n≤m→Le (call C n) (call C m):=by
 intro n
 induction n with
 |zero=>intro m _ f a H r hr;cases hr
 |succ n ih =>
  intro m hm f a H r hr
  obtain⟨m,rfl⟩:∃ k,m=k+1:=⟨m-1,by omega⟩
  simp only[call]at hr ⊢
  split at hr
  ·cases hr
  ·rename_i fn hf
   split at hr
   ·cases hr
   ·rename_i cd hb
    exact Zmb (ih m (by omega)) (by omega) hr
open Classical in
noncomputable def lim {α:Type}(f:Nat→Option α):Option α:=if h:∃ n r,f n=some r then some h.choose_spec.choose else none
theorem Zh5 {α:Type}{f:Nat→Option α}(hm:∀ n m r,n≤m→f n=some r→f m=some r){r:α}:lim f=some r↔∃ n,f n=some r:=by
 unfold lim
 constructor
 ·intro h
  split at h
  ·rename_i hx
   injection h with h
   exact⟨hx.choose,h ▸ hx.choose_spec.choose_spec⟩
  ·cases h
 ·rintro⟨n,hn⟩
  have hx:∃ n r,f n=some r:=⟨n,r,hn⟩
  rw[dif_pos hx]
  have h1:=hm _ (max hx.choose n) _ (Nat.le_max_left _ _) hx.choose_spec.choose_spec
  have h2:=hm _ (max hx.choose n) _ (Nat.le_max_right _ _) hn
  rw[h1]at h2
  exact h2
noncomputable def Za (C:Cfg):ZI:=fun f a H=>lim fun n=>call C n f a H
theorem U6 {f:FuncId}{a:List AV}{H:Hp}{r:AV×Hp}:Za C f a H=some r↔∃ n,call C n f a H=some r:=Zh5 fun n m r h hr=>U5 n m h f a H r hr
noncomputable def Yi (C:Cfg)(kp:Nat→Option (List Nat))(c:Code)(s:St):Option (AExit×St):=lim fun n=>ZL C (call C n) kp n c s
theorem ZT {kp:Nat→Option (List Nat)}{c:Code}{s:St}{r:AExit×St}:Yi C kp c s=some r↔∃ n,ZL C (call C n) kp n c s=some r :=
 Zh5 fun n m r h hr=>JI (U5 n m h) h c s r hr
theorem ZfJ (n:Nat):Le (call C n) (Za C):=fun _ _ _ _ h=>U6.2 ⟨n,h⟩
theorem ZqO {id:FuncId}{args:List AV}{H:Hp}{r:AV×Hp}(h:Xk C (Za C) id args H=some r):∃ n,Xk C (call C n) id args H=some r:=by
 unfold Xk at h
 cases he:C.ext id with
 |some e=>exact⟨0,by unfold Xk;simpa[he]using h⟩
 |none =>
  cases hsm:C.sum id with
  |some g=>exact⟨0,by unfold Xk;simpa[he,hsm]using h⟩
  |none =>
  cases hef:C.eff id with
  |some g=>exact⟨0,by unfold Xk;simpa[he,hsm,hef]using h⟩
  |none =>
  simp only[he,hsm,hef]at h
  by_cases hu:C.user id=true
  ·by_cases hfl:C.flat id=true
   ·simp only[hu,hfl,if_true]at h
    obtain⟨args',q,q1,q2⟩:=ZcX h
    obtain⟨n,hn⟩:=U6.1 q1
    exact⟨n,by unfold Xk;simp only[he,hsm,hef,hu,hfl,if_true];exact q2 _ hn⟩
   ·by_cases hro:C.ro id=true
    ·simp only[hu,hfl,hro,Bool.false_eq_true,if_false,if_true]at h
     obtain⟨q,q1,q2⟩:=Zhu h
     obtain⟨n,hn⟩:=U6.1 q1
     exact⟨n,by unfold Xk;simp only[he,hsm,hef,hu,hfl,hro,Bool.false_eq_true,if_false,if_true];exact q2 _ hn⟩
    ·simp only[hu,hfl,hro,Bool.false_eq_true,if_false,if_true]at h
     obtain⟨n,hn⟩:=U6.1 h
     exact⟨n,by unfold Xk;simp only[he,hsm,hef,hu,hfl,hro,Bool.false_eq_true,if_false,if_true];exact hn⟩
  ·simp[hu]at h
theorem ZlT {f:AV}{args:List AV}{H:Hp}{r:AV×Hp}(h:Yf C (Za C) f args H=some r):∃ n,Yf C (call C n) f args H=some r:=by
 unfold Yf at h
 split at h
 ·exact ZqO h
 ·cases h
theorem ZqP {f:AV}{args:List AV}{H:Hp}{r:AV×Hp}(h:Xl C (Za C) f args H=some r):∃ n,Xl C (call C n) f args H=some r:=by
 unfold Xl qC at h ⊢
 split at h
 ·split at h
  ·rename_i hq
   obtain⟨n,hn⟩:=ZlT h
   exact⟨n,by rw[if_pos hq];exact hn⟩
  ·cases h
 ·cases h
theorem Zsc {ev:Operand→AV}{H:Hp}{op:Op}{r:AV×Hp}(h:ZJ C (Za C) ev H op=some r):∃ n,ZJ C (call C n) ev H op=some r:=by
 cases op <;> try exact⟨0,h⟩
 case makeMap t r=>cases r <;> exact⟨0,h⟩
 case call cl =>
  obtain⟨callee,args,ts⟩:=cl
  cases callee with
  |value f =>
   simp only[ZJ]at h ⊢
   split at h
   ·rename_i hq
    simp only[if_pos hq]
    exact ZqP h
   ·rename_i hq
    simp only[if_neg hq]
    exact ZlT h
  |invoke r m=>exact⟨0,h⟩
  |builtin b=>cases b <;> exact⟨0,h⟩
theorem ZtI {ev:Operand→AV}{H:Hp}{fl:Bool}{op:Op}{r:AV×Hp}(h:Xx C (Za C) ev H fl op=some r):∃ n,Xx C (call C n) ev H fl op=some r:=by
 unfold Xx at h ⊢
 split at h
 ·exact⟨0,h⟩
 ·split at h
  ·cases h
  ·rename_i hf
   obtain⟨n,hn⟩:=Zsc h
   exact⟨n,by rw[if_neg hf];exact hn⟩
theorem ZsO {ops:Array Oper}{fl:Bool}{o:Oper}{s r:St}(h:UI C (Za C) ops fl o s=some r):∃ n,UI C (call C n) ops fl o s=some r:=by
 unfold UI WA at h ⊢
 cases hw:WL ops s.1 o with
 |none=>simp[hw]at h
 |some b =>
  cases b with
  |false=>simp only[hw]at h ⊢;exact⟨0,h⟩
  |true =>
   simp only[hw]at h ⊢
   cases ha:Xx C (Za C) (eval C s.1) s.2 fl o.op with
   |none=>simp[ha]at h
   |some q =>
    obtain⟨n,hn⟩:=ZtI ha
    exact⟨n,by rw[hn];rw[ha]at h;exact h⟩
theorem ZsS {ops:Array Oper}{draw:Bool}{b i:Nat}{o:Oper}{s r:St}(h:XN C (Za C) ops draw b i o s=some r):∃ n,XN C (call C n) ops draw b i o s=some r:=by
 unfold XN at h ⊢
 by_cases hl:(draw&&Wy C ops i)=true
 ·rw[if_pos hl]at h
  simp only[if_pos hl]
  exact⟨0,h⟩
 ·rw[if_neg hl]at h
  simp only[if_neg hl]
  exact ZsO h
theorem Zph {ops:Array Oper}{draw:Bool}{b:Nat}:∀ (l:List Oper) (i:Nat) (s r:St),Yb C (Za C) ops draw b i l s=some r→∃ n,Yb C (call C n) ops draw b i l s=some r:=by
 intro l
 induction l with
 |nil=>intro i s r h;exact⟨0,h⟩
 |cons o l ih =>
  intro i s r h
  unfold Yb at h
  split at h
  ·rename_i s' hs
   obtain⟨n,hn⟩:=ZsS hs
   obtain⟨m,hm⟩:=ih _ _ _ h
   refine⟨max n m,?_⟩
   unfold Yb
   rw[Zdu (U5 n _ (Nat.le_max_left n m)) hn]
   exact Na (U5 m _ (Nat.le_max_right n m)) _ _ _ _ hm
  ·cases h
section
variable {kp:Nat→Option (List Nat)}
theorem ZgM (id:Nat)(ops:Array Oper)(draw:Bool)(s:St):Yi C kp (.region id ops draw) s =
 if draw&&!QY ops then none else match Yb C (Za C) ops draw (frzs kp id s).2.length 0 ops.toList ((frzs kp id s).1,Jj (if draw then WP C ops ops.size else 0) (frzs kp id s).2) with
  |some s'=>some (.normal,s')
  |none=>none:=by
 apply Option.ext
 intro r
 rw[ZT]
 constructor
 ·rintro⟨n,hn⟩
  simp only[ZL]at hn
  split at hn
  ·cases hn
  ·rename_i hd
   rw[if_neg hd]
   split at hn
   ·rename_i s' hs
    rw[Na (ZfJ n) _ _ _ _ hs]
    exact hn
   ·cases hn
 ·intro h
  split at h
  ·cases h
  ·rename_i hd
   split at h
   ·rename_i s' hs
    obtain⟨n,hn⟩:=Zph _ _ _ _ hs
    exact⟨n,by simp only[ZL];rw[if_neg hd,hn];exact h⟩
   ·cases h
theorem ZmF (a b:Code)(s:St):Yi C kp (.seq a b) s=match Yi C kp a s with
 |some (.normal,s')=>Yi C kp b (trim kp b s')
 |r=>r:=by
 apply Option.ext
 intro r
 rw[ZT]
 constructor
 ·rintro⟨n,hn⟩
  simp only[ZL]at hn
  cases hx:ZL C (call C n) kp n a s with
  |none=>simp[hx]at hn
  |some p =>
   rw[ZT.2 ⟨n,hx⟩]
   obtain⟨e,s'⟩:=p
   cases e with
   |normal=>simp only[hx]at hn ⊢;exact ZT.2 ⟨n,hn⟩
   |_=>simpa[hx]using hn
 ·intro h
  cases hx:Yi C kp a s with
  |none=>simp[hx]at h
  |some p =>
   obtain⟨n,hn⟩:=ZT.1 hx
   obtain⟨e,s'⟩:=p
   cases e with
   |normal =>
    simp only[hx]at h
    obtain⟨m,hm⟩:=ZT.1 h
    refine⟨max n m,?_⟩
    simp only[ZL]
    rw[JI (U5 n _ (Nat.le_max_left n m)) (Nat.le_max_left n m) _ _ _ hn]
    exact JI (U5 m _ (Nat.le_max_right n m)) (Nat.le_max_right n m) _ _ _ hm
   |_=>exact⟨n,by simp only[ZL];rw[hn];simpa[hx]using h⟩
theorem Zkm (o:Operand)(x y:Code)(s:St):Yi C kp (.cond o x y) s=match eval C s.1 o with
 |.bool t=>if t then Yi C kp x s else Yi C kp y s
 |_=>none:=by
 apply Option.ext
 intro r
 rw[ZT]
 simp only[ZL]
 generalize eval C s.1 o=v
 cases v with
 |bool t=>cases t <;> simp[ZT]
 |_=>simp
theorem Zip (id:Nat)(c:Code)(s:St):Yi C kp (.block id c) s=match Yi C kp c s with
 |some (.exit i,s')=>if i=id then some (.normal,s') else some (.exit i,s')
 |r=>r:=by
 apply Option.ext
 intro r
 rw[ZT]
 constructor
 ·rintro⟨n,hn⟩
  simp only[ZL]at hn
  cases hx:ZL C (call C n) kp n c s with
  |none=>simp[hx]at hn
  |some p=>rw[ZT.2 ⟨n,hx⟩];rw[hx]at hn;exact hn
 ·intro h
  cases hx:Yi C kp c s with
  |none=>simp[hx]at h
  |some p =>
   obtain⟨n,hn⟩:=ZT.1 hx
   exact⟨n,by simp only[ZL];rw[hn];rw[hx]at h;exact h⟩
theorem Du (c:Code)(s:St):Yi C kp (.loop c) s=match Yi C kp c (trim kp c s) with
 |some (.normal,s')=>Yi C kp (.loop c) s'
 |r=>r:=by
 apply Option.ext
 intro r
 rw[ZT]
 constructor
 ·rintro⟨n,hn⟩
  simp only[ZL]at hn
  cases n with
  |zero=>cases hn
  |succ n =>
   unfold UH at hn
   cases hx:ZL C (call C (n+1)) kp (n+1) c (trim kp c s) with
   |none=>simp[hx]at hn
   |some p =>
    rw[ZT.2 ⟨n+1,hx⟩]
    obtain⟨e,s'⟩:=p
    cases e with
    |normal =>
     simp only[hx]at hn ⊢
     refine ZT.2 ⟨n+1,?_⟩
     simp only[ZL]
     exact Cd (fun s r h=>h) n (n+1) s' r (Nat.le_succ _) hn
    |_=>simpa[hx]using hn
 ·intro h
  cases hx:Yi C kp c (trim kp c s) with
  |none=>simp[hx]at h
  |some p =>
   obtain⟨n,hn⟩:=ZT.1 hx
   obtain⟨e,s'⟩:=p
   cases e with
   |normal =>
    simp only[hx]at h
    obtain⟨m,hm⟩:=ZT.1 h
    simp only[ZL]at hm
    have hm1:=Nat.le_max_left n m
    have hm2:=Nat.le_max_right n m
    refine⟨max n m+1,?_⟩
    simp only[ZL]
    unfold UH
    rw[JI (U5 n (max n m+1) (by omega)) (m:=max n m+1) (by omega) _ _ _ hn]
    exact Cd (fun s r h=>JI (U5 m (max n m+1) (by omega)) (by omega) _ _ _ h) m (max n m) s' r hm2 hm
   |_ =>
    simp only[hx]at h
    refine⟨n+1,?_⟩
    simp only[ZL]
    unfold UH
    rw[JI (U5 n (n+1) (by omega)) (m:=n+1) (by omega) _ _ _ hn]
    exact h
theorem Zkp (s:St):Yi C kp .skip s=some (.normal,s):=ZT.2 ⟨0,rfl⟩
theorem Ziq (l:Nat)(s:St):Yi C kp (.label l) s=some (.normal,s):=ZT.2 ⟨0,rfl⟩
theorem Zkn (i:Nat)(s:St):Yi C kp (.exit i) s=some (.exit i,s):=ZT.2 ⟨0,rfl⟩
theorem Zko (i:Nat)(s:St):Yi C kp (.goto i) s=some (.goto i,s):=ZT.2 ⟨0,rfl⟩
theorem ZmE (s:St):Yi C kp .ret s=some (.ret,s):=ZT.2 ⟨0,rfl⟩
theorem SV {c:Code}{s:St}(h:∀ n,ZL C (call C n) kp n c s=none):Yi C kp c s=none:=by
 cases hx:Yi C kp c s with
 |none=>rfl
 |some r=>obtain⟨n,hn⟩:=ZT.1 hx;rw[h n]at hn;cases hn
end
theorem ZoS {f:FuncId}{fn:Func}{c:Code}(hf:C.P.funcs[f]?=some fn)(hb:fn.body=some c)(args:List AV)(H:Hp):Za C f args H =
 match Yi C (C.keep f) c (args++List.replicate (fn.ntmps-args.length) .undef,H) with
 |some (.normal,s)|some (.ret,s)=>match Vv C fn s with
  |some v=>DB C f H (v,s.2)
  |none=>none
 |_=>none:=by
 apply Option.ext
 intro r
 rw[U6]
 constructor
 ·rintro⟨n,hn⟩
  cases n with
  |zero=>cases hn
  |succ n =>
   simp only[call,hf,hb]at hn
   unfold body at hn
   cases hx:ZL C (call C n) (C.keep f) n c (args++List.replicate (fn.ntmps-args.length) .undef,H) with
   |none=>simp[hx]at hn
   |some p=>rw[ZT.2 ⟨n,hx⟩];rw[hx]at hn;exact hn
 ·intro h
  cases hx:Yi C (C.keep f) c (args++List.replicate (fn.ntmps-args.length) .undef,H) with
  |none=>simp[hx]at h
  |some p =>
   obtain⟨n,hn⟩:=ZT.1 hx
   refine⟨n+1,?_⟩
   simp only[call,hf,hb]
   unfold body
   rw[hn]
   rw[hx]at h
   exact h
theorem ZaD {W0:World}(hC:Ji C):Vh C W0 (Za C):=by
 intro W1 f args H H' v h S args' hI hG hs ha
 obtain⟨n,hn⟩:=U6.1 h
 exact Zk6 (W0:=W1) hC n f args H H' v hn S args' hI hG hs ha
end
end Go.Am
namespace Go.Am
open RowKit
abbrev Z3:=Option (AV×Hp)
abbrev Kt:=AExit→St→Z3
def Z0 {α β:Type}(x:Option α)(f:α→Option β):Option β :=
 match x with
 |some a=>f a
 |none=>none
def Zm (c:AV)(x y:Z3):Z3 :=
 match c with
 |.bool t=>if t then x else y
 |_=>none
def Z7 {α:Type}(g:AV)(want:Bool)(els:α)(x:Option α):Option α :=
 match g with
 |.bool b=>if b==want then x else some els
 |.undef=>none
 |_=>some els
def C2 {α:Type}(ops:Array Oper)(tm:List AV)(o:Oper)(els:α)(x:Option α):Option α :=
 match o.guard with
 |none=>x
 |some (j,want)=>match (match ops[j]? with|some g=>g.dst|none=>none) with
  |none=>some els
  |some d=>match tm[d]? with
   |some g=>Z7 g want els x
   |none=>some els
def P0 (C:Cfg)(s d:TypeId):Nat :=
 match C.P.underlying s,C.P.underlying d with
 |some (.slice _),some .string=>1
 |some .string,some (.slice _)=>if C.wrb d then 2 else 0
 |_,_=>0
def O2 (C:Cfg)(ts:List TypeId):Nat :=
 match ts with
 |[t]=>match Bf C.P t with
  |some _=>1
  |none=>0
 |_=>0
def Xc (C:Cfg):Op→Nat
 |.call { callee:=.builtin .len,argTypes,.. }=>O2 C argTypes.toList
 |.call { callee:=.builtin .delete,.. }=>2
 |.convert s d _=>P0 C s d
 |.load _ _=>1
 |.lookup _ _ _ _=>1
 |.alloc _|.box _ _|.store _ _ _|.makeSlice _ _ _=>2
 |.makeMap _ _|.mapUpdate _ _ _ _=>2
 |.call { callee:=.value _,.. }=>2
 |.call { callee:=.builtin .append,.. }=>2
 |.call { callee:=.builtin .copy,.. }=>2
 |_=>0
def Qe (x:AV)(H:Hp):Option AV :=
 match Q0 x with
 |some v=>some v
 |none=>match US x H with
  |some l=>match Wn l with
   |some s=>some (.str s)
   |none=>none
  |none=>none
def R6 (C:Cfg)(ev:Operand→AV)(H:Hp):Op→Option AV
 |.load t a=>match Xn C.P t,X7 C.P t with
  |some g,some sz=>Z4 g sz (ev a) H
  |_,_=>none
 |.lookup t x k ck=>match Bf C.P t with
  |some (d,e)=>match QJ C.P e with
   |some z=>Y8 d z ck (ev x) (ev k) H
   |none=>none
  |none=>none
 |.convert s d x=>match C.P.underlying s,C.P.underlying d with
  |some (.slice e),some .string=>if IY (C.P.underlying e) then Qe (ev x) H else none
  |_,_=>none
 |.call { callee:=.builtin .len,args,argTypes }=>match args.toList,argTypes.toList with
  |[x],[t]=>match Bf C.P t with
   |some _=>Qc (ev x) H
   |none=>none
  |_,_=>none
 |_=>none
def Ze8 (C:Cfg)(CL:ZI)(ops:Array Oper)(fl:Bool)(o:Oper)(k:St→Z3)(tm:List AV)(H:Hp):Z3 :=
 match (if fl then 0 else Xc C o.op) with
 |0=>Z0 (C2 ops tm o (.tuple []) (ZY C (eval C tm) o.op)) fun v=>k (Wx tm o.dst v,H)
 |1=>Z0 (C2 ops tm o (.tuple []) (R6 C (eval C tm) H o.op)) fun v=>k (Wx tm o.dst v,H)
 |_=>Z0 (C2 ops tm o (.tuple [],H) (ZJ C CL (eval C tm) H o.op)) fun r=>k (Wx tm o.dst r.1,r.2)
def Do (C:Cfg)(CL:ZI)(ops:Array Oper)(draw:Bool)(b:Nat):Nat→List Oper→(St→Z3)→St→Z3
 |_,[],k,s=>k s
 |i,o::rest,k,s=>if draw&&Wy C ops i then (if X4 C ops i then none else Z0 (RZ (b+WP C ops i) (Ni C (eval C s.1) o.op) s.2) fun r=>Do C CL ops draw b (i+1) rest k (Wx s.1 o.dst r.1,r.2))
  else Ze8 C CL ops (draw&&X4 C ops i) o (Do C CL ops draw b (i+1) rest k) s.1 s.2
abbrev Co (g:St→Z3)(k:Kt):Kt:=fun e s =>
 match e with
 |.normal=>g s
 |e=>k e s
abbrev Is (id:Nat)(k:Kt):Kt:=fun e s =>
 match e with
 |.exit i=>if i=id then k .normal s else k (.exit i) s
 |e=>k e s
def CX (C:Cfg)(CL:ZI)(LP:Code→Kt→St→Z3)(kp:Nat→Option (List Nat)):Code→Kt→St→Z3
 |.skip,k,s=>k .normal s
 |.region id ops draw,k,s=>if draw&&!QY ops then none else Do C CL ops draw (frzs kp id s).2.length 0 ops.toList (fun s'=>k .normal s') ((frzs kp id s).1,Jj (if draw then WP C ops ops.size else 0) (frzs kp id s).2)
 |.seq a b,k,s=>CX C CL LP kp a (Co (fun s'=>CX C CL LP kp b k (trim kp b s')) k) s
 |.cond c x y,k,s=>Zm (eval C s.1 c) (CX C CL LP kp x k s) (CX C CL LP kp y k s)
 |.block id c,k,s=>CX C CL LP kp c (Is id k) s
 |.loop c,k,s=>LP c k (trim kp c s)
 |.exit id,k,s=>k (.exit id) s
 |.label _,k,s=>k .normal s
 |.goto l,k,s=>k (.goto l) s
 |.ret,k,s=>k .ret s
 |_,_,_=>none
noncomputable def Mx (C:Cfg)(kp:Nat→Option (List Nat))(c:Code)(k:Kt)(s:St):Z3:=Z0 (Yi C kp (.loop c) s) fun p=>k p.1 p.2
def sub:Code→List Nat→Code
 |.seq a _,0::p=>sub a p
 |.seq _ b,1::p=>sub b p
 |.cond _ x _,0::p=>sub x p
 |.cond _ _ y,1::p=>sub y p
 |.block _ c,0::p=>sub c p
 |.loop c,0::p=>sub c p
 |c,_=>c
def Z1 (fn:Func):Code :=
 match fn.body with
 |some c=>c
 |none=>.skip
theorem DD {α β:Type}[BEq α][LawfulBEq α]{l:List (α×β)}{a:α}{b:β}(h:l.lookup a=some b):(a,b)∈l:=by
 induction l with
 |nil=>simp at h
 |cons x l ih =>
  obtain⟨c,d⟩:=x
  simp only[List.lookup_cons]at h
  split at h
  ·rename_i he
   injection h with h
   subst h
   rw[eq_of_beq he]
   simp
  ·exact List.mem_cons_of_mem _ (ih h)
def Ep (P:Program)(f:Nat):Prop:=∀ (args:Array Value) (w:World),(callFunc f args).run P w=.ok (.enter f args) w
theorem ZdG {P:Program}:∀ f∈([]:List Nat),Ep P f:=fun _ h=>by cases h
theorem Z2 {P:Program}{f:Nat}{l:List Nat}(h:Ep P f)(t:∀ g∈l,Ep P g):∀ g∈f::l,Ep P g:=fun g hg=>by
 rcases List.mem_cons.1 hg with rfl|hg
 ·exact h
 ·exact t g hg
def Zj7 (l:List (Nat×List (Nat×List Nat)))(f r:Nat):Option (List Nat) :=
 match l.lookup f with
 |some m=>m.lookup r
 |none=>none
section
variable {C:Cfg}{kp:Nat→Option (List Nat)}
theorem ZfP (keep:List Nat):∀ (l:List AV) (i:Nat),Xg keep i (Xg keep i l)=Xg keep i l:=by
 intro l
 induction l with
 |nil=>intro i;rfl
 |cons a l ih =>
  intro i
  simp only[Xg,ih]
  split <;> simp_all
theorem Zfm (c:Code)(s:St):trim kp c (trim kp c s)=trim kp c s:=by
 unfold trim
 cases XR c with
 |none=>rfl
 |some r =>
  simp only
  cases kp r with
  |none=>rfl
  |some keep=>simp[ZfP]
theorem Zok (c:Code)(k:Kt)(s:St):Mx C kp c k (trim kp c s)=Mx C kp c k s:=by
 unfold Mx
 rw[Du,Du (s:=s),Zfm]
theorem Zh8 {x:Option AV}{H:Hp}:x.map (fun v=>(v,H))=Z0 x fun v=>some (v,H):=by cases x <;> rfl
theorem ZjT {CL:ZI}{ev:Operand→AV}{H:Hp}{t:TypeId}{x q:Operand}{ck:Bool}:Xx C CL ev H false (.lookup t x q ck)=(Z0 (R6 C ev H (.lookup t x q ck)) fun v=>some (v,H)):=by
 simp only[Xx,ZY,ZJ,R6,Bool.false_eq_true,if_false]
 cases Bf C.P t with
 |none=>rfl
 |some p =>
  obtain⟨d,e⟩:=p
  simp only
  cases QJ C.P e with
  |none=>rfl
  |some z=>simp only;cases Y8 d z ck (ev x) (ev q) H <;> rfl
theorem ZoH {CL:ZI}{ev:Operand→AV}{H:Hp}{t:TypeId}{a:Operand}:Xx C CL ev H false (.load t a)=Z0 (R6 C ev H (.load t a)) fun v=>some (v,H):=by
 unfold Xx
 simp only[ZY,R6,ZJ]
 cases Xn C.P t with
 |none=>rfl
 |some g =>
  cases X7 C.P t with
  |none=>rfl
  |some sz =>
   simp only[Bool.false_eq_true,if_false]
   rw[Zh8]
   cases ev a <;> first
    |rfl
    |(simp only[YE,Z4];generalize apart g sz _ 0=x;cases x <;> rfl)
theorem ZoF {CL:ZI}{ev:Operand→AV}{H:Hp}{s d:TypeId}{x:Operand}(h:P0 C s d=1):Xx C CL ev H false (.convert s d x)=Z0 (R6 C ev H (.convert s d x)) fun v=>some (v,H):=by
 unfold P0 at h
 split at h
 ·rename_i e hs hd
  unfold Xx
  simp only[ZY,R6,ZJ,Zcv,hs,hd,Bool.false_eq_true,if_false]
  cases IY (C.P.underlying e) with
  |false=>rfl
  |true =>
   simp only[if_true]
   unfold Qe JG
   cases Q0 (ev x) with
   |some v=>rfl
   |none =>
    simp only
    cases US (ev x) H with
    |none=>rfl
    |some l=>simp only;cases Wn l <;> rfl
 ·split at h <;> cases h
 ·cases h
theorem Zox {t:TypeId}{p:TypeDesc×TypeId}{x:AV}(h:Bf C.P t=some p):Zgk C.P t x=none:=by
 obtain⟨d,e⟩:=p
 obtain⟨k,h1,_⟩:=EC h
 unfold Zgk
 rw[h1]
 rfl
theorem ZqW {CL:ZI}{ev:Operand→AV}{H:Hp}{args:Array Operand}{ts:Array TypeId}(h:O2 C ts.toList=1):Xx C CL ev H false (.call { callee:=.builtin .len,args:=args,argTypes:=ts })=Z0 (R6 C ev H (.call { callee:=.builtin .len,args:=args,argTypes:=ts })) fun v=>some (v,H):=by
 unfold Xx
 simp only[ZY,R6,ZJ,Bool.false_eq_true,if_false]
 unfold O2 at h
 split at h
 ·rename_i t ht
  split at h
  ·rename_i p hp
   rw[ht]
   cases args.toList with
   |nil=>rfl
   |cons x l =>
    cases l with
    |nil =>
     simp only[Zox hp,hp]
     exact Zh8
    |cons y l=>rfl
  ·cases h
 ·cases h
theorem ZlW {CL:ZI}{ev:Operand→AV}{H:Hp}{args:Array Operand}{ts:Array TypeId}(h:O2 C ts.toList=0):ZJ C CL ev H (.call { callee:=.builtin .len,args:=args,argTypes:=ts })=none:=by
 simp only[ZJ]
 unfold O2 at h
 split
 ·rename_i x t hx ht
  rw[ht]at h
  simp only at h
  split at h
  ·cases h
  ·rename_i hm
   rw[hm]
 ·rfl
theorem Zj9 (ts:List TypeId):O2 C ts=0∨O2 C ts=1:=by
 unfold O2
 split
 ·split
  ·exact .inr rfl
  ·exact .inl rfl
 ·exact .inl rfl
theorem ZjI {CL:ZI}{ev:Operand→AV}{H:Hp}{op:Op}(h:Xc C op=0):ZJ C CL ev H op=none:=by
 cases op with
 |call c =>
  obtain⟨callee,args,ts⟩:=c
  cases callee with
  |value f=>simp[Xc]at h
  |invoke r m=>rfl
  |builtin b=>cases b <;> first|rfl|(exact ZlW h)|(simp[Xc]at h;done)
 |convert s d x =>
  simp only[Xc,P0]at h
  simp only[ZJ]
  split at h
  ·cases h
  ·rename_i e hs hd
   split at h
   ·cases h
   ·rename_i hw
    simp only[hs,hd,Bool.eq_false_iff.2 hw,Bool.false_and]
    rfl
  ·rename_i h1 h2
   split
   ·rename_i e hs hd;exact absurd hd (h1 _ hs)
   ·rename_i e hs hd;exact absurd hd (h2 _ hs)
   ·rfl
 |_=>first|rfl|(simp[Xc]at h;done)
theorem Zm3 {ev:Operand→AV}{op:Op}(h:Xc C op=2):ZY C ev op=none:=by
 cases op with
 |call c =>
  obtain⟨callee,args,ts⟩:=c
  cases callee with
  |value f=>rfl
  |invoke r m=>simp[Xc]at h
  |builtin b =>
   cases b <;> first
    |rfl
    |(simp[Xc]at h;done)
    |(simp only[Xc]at h;rcases Zj9 (C:=C) ts.toList with e|e <;> (rw[e]at h;cases h))
 |convert s d x =>
  simp only[Xc,P0]at h
  split at h
  ·cases h
  ·rename_i e hs hd
   split at h
   ·rename_i hw
    simp only[ZY,Zcv,hs,hd,hw,if_true]
    split <;> rfl
   ·cases h
  ·cases h
 |_=>first|rfl|(simp[Xc]at h;done)
theorem ZoZ (s d:TypeId):P0 C s d=0∨P0 C s d=1∨P0 C s d=2:=by
 unfold P0
 split
 ·simp
 ·split <;> simp
 ·simp
theorem Zn0 (op:Op):Xc C op=0∨Xc C op=1∨Xc C op=2:=by
 unfold Xc
 split <;> first|exact ZoZ _ _|(rcases Zj9 (C:=C) _ with h|h <;> rw[h] <;> simp)|simp
theorem ZoG {CL:ZI}{ev:Operand→AV}{H:Hp}{op:Op}:Xx C CL ev H true op=Z0 (ZY C ev op) fun v=>some (v,H):=by
 unfold Xx
 cases ZY C ev op <;> rfl
theorem Zeh {α:Type}{ops:Array Oper}{tm:List AV}{o:Oper}{els:α}{x:Option α}:C2 ops tm o els x=match WL ops tm o with
 |none=>none
 |some false=>some els
 |some true=>x:=by
 unfold C2 WL
 cases o.guard with
 |none=>rfl
 |some p =>
  obtain⟨j,want⟩:=p
  simp only
  cases ops[j]? with
  |none=>rfl
  |some g =>
   simp only
   cases g.dst with
   |none=>rfl
   |some d =>
    simp only
    cases tm[d]? with
    |none=>rfl
    |some g =>
     cases g with
     |bool b=>simp only[Z7];cases (b==want) <;> rfl
     |_=>rfl
theorem ZpW {CL:ZI}{ops:Array Oper}{fl:Bool}{o:Oper}{k:St→Z3}{s:St}:Z0 (UI C CL ops fl o s) k=Ze8 C CL ops fl o k s.1 s.2:=by
 obtain⟨tm,H⟩:=s
 have hp:∀ (r:Z3),Xx C CL (eval C tm) H fl o.op=r →
  Z0 (UI C CL ops fl o (tm,H)) k=Z0 (C2 ops tm o (.tuple [],H) r) fun r=>k (Wx tm o.dst r.1,r.2):=by
  intro r hr
  unfold UI WA
  rw[Zeh]
  cases WL ops tm o with
  |none=>rfl
  |some b =>
   cases b with
   |false=>rfl
   |true=>simp only[hr];cases r <;> rfl
 have val:∀ (r:Option AV),Xx C CL (eval C tm) H fl o.op=(Z0 r fun v=>some (v,H)) →
  Z0 (UI C CL ops fl o (tm,H)) k=Z0 (C2 ops tm o (.tuple []) r) fun v=>k (Wx tm o.dst v,H):=by
  intro r hr
  rw[hp _ hr,Zeh,Zeh]
  cases WL ops tm o with
  |none=>rfl
  |some b =>
   cases b with
   |false=>rfl
   |true=>cases r <;> rfl
 unfold Ze8
 cases fl with
 |true =>
  simp only[if_true]
  exact val _ ZoG
 |false =>
  simp only[Bool.false_eq_true,if_false]
  rcases Zn0 (C:=C) o.op with h|h|h
  ·rw[h]
   refine val _ ?_
   unfold Xx
   have h0:=ZjI (C:=C) (CL:=CL) (ev:=eval C tm) (H:=H) h
   cases ZY C (eval C tm) o.op with
   |none=>simp only[Bool.false_eq_true,if_false];rw[h0];rfl
   |some v=>rfl
  ·rw[h]
   cases hop:o.op with
   |load t a=>exact val _ (by rw[hop];exact ZoH)
   |lookup t x q ck=>exact val _ (by rw[hop];exact ZjT)
   |convert s d x=>exact val _ (by rw[hop];rw[hop]at h;exact ZoF h)
   |call c =>
    rw[hop]at h
    obtain⟨callee,args,ts⟩:=c
    cases callee with
    |value f=>simp[Xc]at h
    |invoke r m=>simp[Xc]at h
    |builtin b=>cases b <;> first|(simp[Xc]at h;done)|(exact val _ (by rw[hop];exact ZqW h))
   |_=>rw[hop]at h;simp[Xc]at h
  ·rw[h]
   refine hp _ ?_
   unfold Xx
   rw[Zm3 h]
   rfl
theorem Zkk {CL:ZI}{ops:Array Oper}{draw:Bool}{b:Nat}{k:St→Z3}:∀ (l:List Oper) (i:Nat) (s:St),Z0 (Yb C CL ops draw b i l s) k=Do C CL ops draw b i l k s:=by
 intro l
 induction l with
 |nil=>intro i s;rfl
 |cons o l ih =>
  intro i s
  unfold Yb Do XN
  by_cases hl:(draw&&Wy C ops i)=true
  ·rw[if_pos hl,if_pos hl]
   by_cases hf:X4 C ops i=true
   ·rw[if_pos hf,if_pos hf];rfl
   ·rw[if_neg hf,if_neg hf]
    cases RZ (b+WP C ops i) (Ni C (eval C s.1) o.op) s.2 with
    |none=>rfl
    |some p=>exact ih (i+1) _
  ·rw[if_neg hl,if_neg hl,←ZpW]
   cases UI C CL ops (draw&&X4 C ops i) o s with
   |none=>rfl
   |some s'=>exact ih (i+1) s'
theorem ZqC:∀ (c:Code) (k:Kt) (s:St),CX C (Za C) (Mx C kp) kp c k s=Z0 (Yi C kp c s) fun p=>k p.1 p.2:=by
 intro c
 induction c with
 |skip=>intro k s;rw[Zkp];rfl
 |region id ops draw =>
  intro k s
  rw[ZgM]
  simp only[CX]
  split
  ·rfl
  ·rw[←Zkk]
   cases Yb C (Za C) ops draw (frzs kp id s).2.length 0 ops.toList ((frzs kp id s).1,Jj (if draw then WP C ops ops.size else 0) (frzs kp id s).2) <;> rfl
 |seq a b iha ihb =>
  intro k s
  rw[ZmF]
  simp only[CX]
  rw[iha]
  cases Yi C kp a s with
  |none=>rfl
  |some p =>
   obtain⟨e,s'⟩:=p
   cases e with
   |normal=>simp only[Z0,Co];rw[ihb];rfl
   |_=>rfl
 |cond c x y ihx ihy =>
  intro k s
  rw[Zkm]
  simp only[CX]
  rw[ihx,ihy]
  cases eval C s.1 c with
  |bool t=>cases t <;> rfl
  |_=>rfl
 |block id c ih =>
  intro k s
  rw[Zip]
  simp only[CX]
  rw[ih]
  cases Yi C kp c s with
  |none=>rfl
  |some p =>
   obtain⟨e,s'⟩:=p
   cases e with
   |exit i =>
    simp only[Z0,Is]
    split <;> rfl
   |_=>rfl
 |loop c _ =>
  intro k s
  simp only[CX]
  rw[Zok]
  rfl
 |rangeFunc f p x y _ _=>intro k s;simp only[CX];rw[SV (fun n=>rfl)];rfl
 |exit id=>intro k s;rw[Zkn];rfl
 |scope c _=>intro k s;simp only[CX];rw[SV (fun n=>rfl)];rfl
 |label l=>intro k s;rw[Ziq];rfl
 |goto l=>intro k s;rw[Zko];rfl
 |ret=>intro k s;rw[ZmE];rfl
 |refuse s=>intro k s;simp only[CX];rw[SV (fun n=>rfl)];rfl
theorem Zs8 (c:Code)(k:Kt)(s:St):Mx C kp c k s=CX C (Za C) (Mx C kp) kp c (Co (fun s'=>Mx C kp c k (trim kp c s')) k) (trim kp c s):=by
 rw[ZqC]
 unfold Mx
 rw[Du]
 cases Yi C kp c (trim kp c s) with
 |none=>rfl
 |some p =>
  obtain⟨e,s'⟩:=p
  cases e with
  |normal =>
   show Z0 (Yi C kp (.loop c) s') _=Z0 (Yi C kp (.loop c) (trim kp c s')) _
   rw[Du,Du (s:=trim kp c s'),Zfm]
  |_=>rfl
def Cl (C:Cfg):List ResultVar→St→List AV→(List AV→Z3)→Z3
 |[],_,acc,k=>k acc
 |r::rs,s,acc,k=>Z0 (W7 C s r) fun v=>Cl C rs s (acc++[v]) k
noncomputable def O1 (C:Cfg)(f:FuncId)(H0:Hp)(H:Hp):List AV→Z3
 |[v]=>DB C f H0 (v,H)
 |l=>DB C f H0 (.tuple l,H)
noncomputable abbrev ZsU (C:Cfg)(f:FuncId)(fn:Func)(H0:Hp):Kt:=fun e s =>
 match e with
 |.normal=>Cl C fn.results.toList s [] (O1 C f H0 s.2)
 |.ret=>Cl C fn.results.toList s [] (O1 C f H0 s.2)
 |_=>none
theorem ZrR (s:St)(k:List AV→Z3):∀ (rs:List ResultVar) (acc:List AV),Cl C rs s acc k=Z0 (rs.mapM (W7 C s)) fun l=>k (acc++l):=by
 intro rs
 induction rs with
 |nil=>intro acc;simp[Cl,Z0]
 |cons r rs ih =>
  intro acc
  rw[List.mapM_cons]
  unfold Cl
  cases W7 C s r with
  |none=>rfl
  |some v =>
   simp only[Z0]
   rw[ih]
   cases rs.mapM (W7 C s) with
   |none=>rfl
   |some l=>simp[Z0]
theorem ZoR {f:FuncId}{fn:Func}{c:Code}(hf:C.P.funcs[f]?=some fn)(hb:fn.body=some c)(args:List AV)(H:Hp) :
 Za C f args H=CX C (Za C) (Mx C (C.keep f)) (C.keep f) c (ZsU C f fn H) (args++List.replicate (fn.ntmps-args.length) .undef,H):=by
 rw[ZoS hf hb,ZqC]
 have key:∀ s:St,(match Vv C fn s with|some v=>DB C f H (v,s.2)|none=>none)=Cl C fn.results.toList s [] (O1 C f H s.2):=by
  intro s
  rw[ZrR]
  unfold Vv
  cases fn.results.toList.mapM (W7 C s) with
  |none=>rfl
  |some l =>
   match l with
   |[]=>rfl
   |[v]=>rfl
   |a::b::l=>rfl
 cases Yi C (C.keep f) c (args++List.replicate (fn.ntmps-args.length) .undef,H) with
 |none=>rfl
 |some p =>
  obtain⟨e,s⟩:=p
  cases e with
  |normal=>exact key s
  |ret=>exact key s
  |_=>rfl
end
end Go.Am
