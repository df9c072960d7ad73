/-
  THE ABSTRACT MACHINE, part YP: a place that is free before and Xb a step has no part in it.
-/
import Derived.Test.YtehanadfidoodaaGreatDoorEmKx
namespace Go.Am
def Rdm {α:Type}(r:Hp→Option α):Prop:=∀ H v,r H=some v→∀ o,H[o]?=some .free→∀ x,r (H.set o x)=some v
theorem Ra {H:Hp}{o t:Nat}{y:AObj}(h:(H.set t y)[o]?=some .free)(hy:y≠.free):o≠t∧H[o]?=some .free:=by
  by_cases e:t=o
  · subst e
    exfalso
    by_cases hl:t<H.length
    · simp[hl]at h;exact hy h
    · simp[hl]at h
  · rw[List.getElem?_set_ne e]at h
    exact⟨fun h'=>e h'.symm,h⟩
theorem IT {H l:Hp}{o:Nat}(ho:o<H.length)(h:(H++l)[o]?=some .free):H[o]?=some .free∧∀ x,(H++l).set o x=H.set o x++l:=by
  rw[List.getElem?_append_left ho]at h
  exact⟨h,fun x=>List.set_append_left _ _ ho⟩
theorem Kc {H:Hp}{o t:Nat}{z:AObj}(h:H[o]?=some .free)(ht:H[t]?=some z)(hz:z≠.free)(x:AObj):o≠t∧(H.set o x)[t]?=some z:=by
  have hne:o≠t:=by
    rintro rfl
    rw[h]at ht
    injection ht with ht
    exact hz ht.symm
  exact⟨hne,by rw[List.getElem?_set_ne hne];exact ht⟩
theorem Zlj {α:Type}{r:Hp→Option α}(h:Rdm r):YP fun H=>(r H).map (·,H):=by
  intro H v H' hg
  cases hr:r H with
  |none=>simp[hr]at hg
  |some u =>
    simp[hr]at hg
    obtain⟨rfl,rfl⟩:=hg
    refine⟨Nat.le_refl _,fun o _ ho=>⟨ho,fun x=>?_⟩⟩
    simp[h H u hr o ho x]
theorem Zq4 {α:Type}(r:Option α):Rdm fun _=>r:=fun _ _ h _ _ _=>h
theorem Zs {α:Type}:YP fun _=>(none:Option (α×Hp)):=fun _ _ _ h=>by cases h
theorem Wo {α:Type}(v:α):YP fun H=>some (v,H):=by
  intro H v H' h
  injection h with h
  injection h with h1 h2
  subst h1 h2
  exact⟨Nat.le_refl _,fun o _ ho=>⟨ho,fun x=>rfl⟩⟩
theorem Vj {α:Type}(g:Nat→α)(l:Hp):YP fun H=>some (g H.length,H++l):=by
  intro H v H' h
  injection h with h
  injection h with h1 h2
  subst h1 h2
  refine⟨by simp,fun o ho hf=>?_⟩
  obtain⟨h1,h2⟩:=IT ho hf
  exact⟨h1,fun x=>by simp[h2]⟩
theorem OE {α β:Type}{r:Hp→Option α}{g:α→Hp→Option (β×Hp)}(hr:Rdm r)(hg:∀ a,YP (g a)):YP fun H=>match r H with|some a=>g a H|none=>none:=by
  intro H v H' h
  simp only at h
  cases ha:r H with
  |none=>simp[ha]at h
  |some a =>
    simp only[ha]at h
    obtain⟨h1,h2⟩:=hg a H v H' h
    refine⟨h1,fun o ho hf=>?_⟩
    obtain⟨h3,h4⟩:=h2 o ho hf
    exact⟨h3,fun x=>by simp only[hr H a ha o h3 x];exact h4 x⟩
theorem X5 {α:Type}{g g':Hp→Option (α×Hp)}(h:YP g)(he:∀ H,g' H=g H):YP g':=by
  intro H v H' hh
  rw[he]at hh
  obtain⟨h1,h2⟩:=h H v H' hh
  exact⟨h1,fun o ho hf=>⟨(h2 o ho hf).1,fun x=>by rw[he];exact (h2 o ho hf).2 x⟩⟩
theorem Y5 {α:Type}(c:Prop)[Decidable c]{g g':Hp→Option (α×Hp)}(h:c→YP g)(h':¬ c→YP g'):YP fun H=>if c then g H else g' H:=by
  by_cases hc:c
  · exact X5 (h hc) fun H=>if_pos hc
  · exact X5 (h' hc) fun H=>if_neg hc
theorem JJ {α:Type}(t:Nat)(f:AObj→Option (α×AObj))(hf:f .free=none)(hy:∀ z v y,f z=some (v,y)→y≠.free):YP fun H=>match H[t]? with|some z=>(match f z with|some (v,y)=>some (v,H.set t y)|none=>none)|none=>none:=by
  intro H v H' h
  simp only at h
  cases hz:H[t]? with
  |none=>simp[hz]at h
  |some z =>
    simp only[hz]at h
    cases hfz:f z with
    |none=>simp[hfz]at h
    |some p =>
      obtain⟨u,y⟩:=p
      simp only[hfz,Option.some.injEq,Prod.mk.injEq]at h
      obtain⟨rfl,rfl⟩:=h
      refine⟨by simp,fun o ho hfr=>?_⟩
      obtain⟨h1,h2⟩:=Ra hfr (hy z _ y hfz)
      refine⟨h2,fun x=>?_⟩
      have hz':z≠.free:=by rintro rfl;rw[hf]at hfz;cases hfz
      obtain⟨h3,h4⟩:=Kc h2 hz hz' x
      simp only[h4,hfz]
      rw[List.set_comm _ _ h3]
theorem Zgl (g:Bool)(sz:Nat)(a:AV):Rdm (Z4 g sz a):=by
  intro H v h o ho x
  cases a with
  |ptr t off =>
    simp only[Z4]at h ⊢
    cases hz:H[t]? with
    |none=>simp[hz]at h
    |some z =>
      have hz':z≠.free:=by rintro rfl;simp[hz]at h
      rw[(Kc ho hz hz' x).2]
      rw[hz]at h
      exact h
  |wp t e off =>
    simp only[Z4]at h ⊢
    cases hz:H[t]? with
    |none=>simp[hz]at h
    |some z =>
      have hz':z≠.free:=by rintro rfl;simp[hz]at h
      rw[(Kc ho hz hz' x).2]
      rw[hz]at h
      exact h
  |_=>exact h
theorem FJ (k:Nat)(a:AV):Rdm (elems k a):=by
  intro H v h o ho x
  cases a with
  |rs ag k' t off len cap =>
    simp only[elems]at h ⊢
    cases hz:H[t]? with
    |none=>simp[hz]at h
    |some z =>
      have hz':z≠.free:=by rintro rfl;simp[hz]at h
      rw[(Kc ho hz hz' x).2]
      rw[hz]at h
      exact h
  |ws ag k' t e len =>
    simp only[elems]at h ⊢
    cases hz:H[t]? with
    |none=>simp[hz]at h
    |some z =>
      have hz':z≠.free:=by rintro rfl;simp[hz]at h
      rw[(Kc ho hz hz' x).2]
      rw[hz]at h
      exact h
  |_=>exact h
theorem ZcQ (a:AV):Rdm (YW a):=by
  intro H v h o ho x
  cases a with
  |map t =>
    simp only[YW]at h ⊢
    cases hz:H[t]? with
    |none=>simp[hz]at h
    |some z =>
      have hz':z≠.free:=by rintro rfl;simp[hz]at h
      rw[(Kc ho hz hz' x).2]
      rw[hz]at h
      exact h
  |_=>exact h
theorem ZjQ (d:TypeDesc)(z:AV)(ck:Bool)(a k:AV):Rdm (Y8 d z ck a k):=by
  intro H v h o ho x
  unfold Y8 at h ⊢
  cases he:YW a H with
  |none=>simp[he]at h
  |some es=>rw[ZcQ a H es he o ho x];rw[he]at h;exact h
theorem Zow (a:AV):Rdm (Qc a):=by
  intro H v h o ho x
  unfold Qc at h ⊢
  cases he:YW a H with
  |none=>simp[he]at h
  |some es=>rw[ZcQ a H es he o ho x];rw[he]at h;exact h
theorem ZeF (n:Nat):∀ (f:Nat) (a:AV),Rdm fun H=>Z9 H n f a:=by
  intro f
  induction f with
  |zero=>intro a H v h;cases h
  |succ f ih =>
    intro a H v h o ho x
    have lst:∀ l l':List AV,l.mapM (Z9 H n f)=some l'→l.mapM (Z9 (H.set o x) n f)=some l':=fun l l' hl=>Zja (fun a b hab=>ih a H b hab o ho x) hl
    cases a with
    |vp cells =>
      simp only[Z9]at h ⊢
      cases hm:cells.mapM (Z9 H n f) with
      |none=>simp[hm]at h
      |some l=>rw[lst _ _ hm];rw[hm]at h;exact h
    |vs k tok l =>
      simp only[Z9]at h ⊢
      cases hm:l.mapM (Z9 H n f) with
      |none=>simp[hm]at h
      |some l'=>rw[lst _ _ hm];rw[hm]at h;exact h
    |rs ag k t off len cap =>
      simp only[Z9]at h ⊢
      split at h
      · rename_i hlt;rw[if_pos hlt];exact h
      · rename_i hlt
        rw[if_neg hlt]
        cases hel:elems k (.rs ag k t off len cap) H with
        |none=>simp[hel]at h
        |some l =>
          rw[FJ _ _ H l hel o ho x]
          simp only[hel]at h ⊢
          cases hm:l.mapM (Z9 H n f) with
          |none=>simp[hm]at h
          |some l'=>rw[lst _ _ hm];rw[hm]at h;exact h
    |ws ag k t e len =>
      simp only[Z9]at h ⊢
      split at h
      · rename_i hlt;rw[if_pos hlt];exact h
      · rename_i hlt
        rw[if_neg hlt]
        cases hel:elems k (.ws ag k t e len) H with
        |none=>simp[hel]at h
        |some l =>
          rw[FJ _ _ H l hel o ho x]
          simp only[hel]at h ⊢
          cases hm:l.mapM (Z9 H n f) with
          |none=>simp[hm]at h
          |some l'=>rw[lst _ _ hm];rw[hm]at h;exact h
    |fn fn a b =>
      simp only[Z9]at h ⊢
      cases hm:a.mapM (Z9 H n f) with
      |none=>simp[hm]at h
      |some l =>
        cases hm2:b.mapM (Z9 H n f) with
        |none=>simp[hm,hm2]at h
        |some l2=>rw[lst _ _ hm,lst _ _ hm2];rw[hm,hm2]at h;exact h
    |iface t v' =>
      simp only[Z9]at h ⊢
      cases hm:Z9 H n f v' with
      |none=>simp[hm]at h
      |some l =>
        have h3:Z9 (H.set o x) n f v'=some l:=ih v' H l hm o ho x
        rw[h3];rw[hm]at h;exact h
    |agg l =>
      simp only[Z9]at h ⊢
      cases hm:l.mapM (Z9 H n f) with
      |none=>simp[hm]at h
      |some l'=>rw[lst _ _ hm];rw[hm]at h;exact h
    |tuple l =>
      simp only[Z9]at h ⊢
      cases hm:l.mapM (Z9 H n f) with
      |none=>simp[hm]at h
      |some l'=>rw[lst _ _ hm];rw[hm]at h;exact h
    |_=>exact h
def ZhE (sz off:Nat)(v:AV):AObj→Option (AV×AObj)
  |.cells l=>if v.known=true∧v.cells.length=sz∧off+sz≤l.length then some (AV.tuple [],AObj.cells (splice l off v.cells)) else none
  |_=>none
def ZhF (sz e off:Nat)(v:AV):AObj→Option (AV×AObj)
  |.row e' l=>if e'=e∧v.known=true∧v.cells.length=sz∧off+sz≤l.length then some (AV.tuple [],AObj.row e (splice l off v.cells)) else none
  |_=>none
theorem ZjX (sz:Nat)(a v:AV):YP (Zi sz a v):=by
  cases a with
  |ptr t off =>
    refine X5 (JJ t (ZhE sz off v) rfl (fun z u y h=>?_)) fun H=>?_
    · unfold ZhE at h
      split at h
      · split at h
        · injection h with h
          injection h with h1 h2
          subst h2
          simp
        · cases h
      · cases h
    · unfold Zi Xm ZhE
      dsimp only
      rcases H[t]? with _|z
      · rfl
      · cases z with
        |cells l =>
                     dsimp only
                     by_cases hc:v.known=true∧v.cells.length=sz∧off+sz≤l.length
                     · rw[if_pos hc,if_pos hc]
                     · rw[if_neg hc,if_neg hc]
        |_=>rfl
  |wp t e off =>
    refine X5 (JJ t (ZhF sz e off v) rfl (fun z u y h=>?_)) fun H=>?_
    · unfold ZhF at h
      split at h
      · split at h
        · injection h with h
          injection h with h1 h2
          subst h2
          simp
        · cases h
      · cases h
    · unfold Zi Xm ZhF
      dsimp only
      rcases H[t]? with _|z
      · rfl
      · cases z with
        |row e' l =>
                     dsimp only
                     by_cases hc:e'=e∧v.known=true∧v.cells.length=sz∧off+sz≤l.length
                     · rw[if_pos hc,if_pos hc]
                     · rw[if_neg hc,if_neg hc]
        |_=>rfl
  |_=>exact Zs
theorem TY (k bytes:Nat)(s:AV)(xs:List AV):YP (Yo k bytes s xs):=by
  cases s with
  |nils =>
    unfold Yo
    exact Y5 _ (fun _=>Wo _) fun _=>Y5 _ (fun _=>Vj (fun n=>AV.vs k (.own n xs.length) xs) _) fun _=>Zs
  |vs k' tok l =>
    unfold Yo
    refine Y5 _ (fun _=>Y5 _ (fun _=>Wo _) fun _=>?_) fun _=>Zs
    cases tok with
    |no=>exact Zs
    |clip=>exact Vj (fun n=>AV.vs k (.own n (l.length+xs.length)) (l++xs)) _
    |own t e =>
      refine X5 (JJ t (fun z=>match z with|.tok e'=>if e'=e then some (AV.vs k (.own t (e+xs.length)) (l++xs),AObj.tok (e+xs.length)) else none|_=>none) rfl (fun z u y h=>?_)) fun H=>?_
      · split at h
        · split at h
          · injection h with h
            injection h with h1 h2
            subst h2
            simp
          · cases h
        · cases h
      · dsimp only
        rcases H[t]? with _|z
        · rfl
        · cases z with
          |tok e' =>
                       dsimp only
                       by_cases hc:e'=e
                       · rw[if_pos hc,if_pos hc]
                       · rw[if_neg hc,if_neg hc]
          |_=>rfl
  |_=>exact Zs
theorem Zoq (k bytes:Nat)(s x:AV):YP (Y7 k bytes s x):=by
  unfold Y7
  refine X5 (OE (FJ k x) fun xs=>TY k bytes s xs) fun H=>?_
  cases elems k x H <;> rfl
def Zq9 (ag:Bool)(k o e len:Nat)(xs:List AV):AObj→Option (AV×AObj)
  |.row e' l=>if e'=e∧l.length=len*k then some (AV.ws ag k o (e+1) (len+xs.length),AObj.row (e+1) (l++(xs.map AV.cells).flatten)) else none
  |_=>none
theorem Zor (ag:Bool)(k bytes:Nat)(s:AV)(xs:List AV):YP (R5 ag k bytes s xs):=by
  cases s with
  |nils =>
    unfold R5
    exact Y5 _ (fun _=>Wo _) fun _=>Y5 _ (fun _=>Vj (fun n=>AV.ws ag k n 0 xs.length) _) fun _=>Zs
  |vs k' tok l =>
    cases tok with
    |clip =>
      unfold R5
      exact Y5 _ (fun _=>Y5 _ (fun _=>Wo _) fun _=>Vj (fun n=>AV.ws ag k n 0 (l.length+xs.length)) _) fun _=>Zs
    |no=>exact X5 (TY k bytes (.vs k' .no l) xs) fun H=>rfl
    |own t e=>exact X5 (TY k bytes (.vs k' (.own t e) l) xs) fun H=>rfl
  |ws ag' k' t e len =>
    unfold R5
    refine Y5 _ (fun _=>Y5 _ (fun _=>Wo _) fun _=>?_) fun _=>Zs
    refine X5 (JJ t (Zq9 ag k t e len xs) rfl (fun z u y h=>?_)) fun H=>?_
    · unfold Zq9 at h
      split at h
      · split at h
        · injection h with h
          injection h with h1 h2
          subst h2
          simp
        · cases h
      · cases h
    · unfold Zq9
      rcases H[t]? with _|z
      · rfl
      · cases z with
        |row e' l =>
                     dsimp only
                     by_cases hc:e'=e∧l.length=len*k
                     · rw[if_pos hc,if_pos hc]
                     · rw[if_neg hc,if_neg hc]
        |_=>rfl
  |_=>first|exact X5 (TY k bytes _ xs) fun H=>rfl|exact Zs
theorem ZlO (ag:Bool)(k bytes:Nat)(s x:AV):YP (Gw ag k bytes s x):=by
  unfold Gw
  refine X5 (OE (FJ k x) fun xs=>Zor ag k bytes s xs) fun H=>?_
  cases elems k x H <;> rfl
def Zqy (k:Nat)(d:AV)(xs:List AV)(H:Hp):Option (AV×Hp) :=
  match d with
    |.nils=>if xs=[] then some (.int .i64 0,H) else none
    |.vs _ _ _=>if xs=[] then some (.int .i64 0,H) else none
    |.rs _ k' o off len _=>if xs=[] then some (.int .i64 0,H) else if k'=k∧xs.length≤len then match H[o]? with
      |some (.cells cs)=>if off+xs.length*k≤cs.length then some (.int .i64 xs.length,H.set o (.cells (splice cs off (xs.map AV.cells).flatten))) else none
      |_=>none else none
    |_=>none
theorem Zot (k:Nat)(d x:AV):YP (Mz k d x):=by
  have key:∀ xs,YP (Zqy k d xs):=fun xs=>?_
  · unfold Mz
    refine X5 (OE (FJ k x) key) fun H=>?_
    cases elems k x H <;> rfl
  unfold Zqy
  cases d with
  |nils=>exact Y5 _ (fun _=>Wo _) fun _=>Zs
  |vs _ _ _=>exact Y5 _ (fun _=>Wo _) fun _=>Zs
  |rs ag k' t off len cap =>
    refine Y5 _ (fun _=>Wo _) fun _=>Y5 _ (fun _=>?_) fun _=>Zs
    refine X5 (JJ t (fun z=>match z with|.cells cs=>if off+xs.length*k≤cs.length then some (AV.int .i64 xs.length,AObj.cells (splice cs off (xs.map AV.cells).flatten)) else none|_=>none) rfl (fun z u y h=>?_)) fun H=>?_
    · split at h
      · split at h
        · injection h with h
          injection h with h1 h2
          subst h2
          simp
        · cases h
      · cases h
    · skip
      rcases H[t]? with _|z
      · rfl
      · cases z with
        |cells l =>
                     dsimp only
                     by_cases hc:off+xs.length*k≤l.length
                     · rw[if_pos hc,if_pos hc]
                     · rw[if_neg hc,if_neg hc]
        |_=>rfl
  |_=>exact Zs
theorem ZoA (k bytes:Nat)(ag:Bool)(z len cap:AV):YP (K7 k bytes ag z len cap):=by
  unfold K7
  split
  · rename_i n c
    refine Y5 _ (fun _=>Y5 _ (fun _=>?_) fun _=>?_) fun _=>Zs
    · exact Vj (fun m=>AV.vs k (.own m 0) []) _
    · exact Vj (fun m=>AV.rs ag k m 0 n.toNat c.toNat) _
  · exact Zs
def ZpP (d:TypeDesc)(k v:AV):AObj→Option (AV×AObj)
  |.map es c=>if Wc d k then match YL k es 0 with
    |some (some (i,_))=>some (AV.tuple [],AObj.map (es.set i (k,v,(es.getD i (.undef,.undef,0)).2.2)) c)
    |some none=>some (AV.tuple [],AObj.map (es++[(k,v,c)]) (c+1))
    |none=>none else none
  |_=>none
theorem ZjS (d:TypeDesc)(m k v:AV):YP (Xh d m k v):=by
  cases m with
  |map t =>
    refine X5 (JJ t (ZpP d k v) rfl (fun z u y h=>?_)) fun H=>?_
    · unfold ZpP at h
      split at h
      · split at h
        · split at h
          · injection h with h
            injection h with h1 h2
            subst h2
            simp
          · injection h with h
            injection h with h1 h2
            subst h2
            simp
          · cases h
        · cases h
      · cases h
    · unfold Xh ZpP
      dsimp only
      rcases H[t]? with _|z
      · rfl
      · cases z with
        |map es c =>
          dsimp only
          cases Wc d k with
          |false=>rfl
          |true =>
          simp only[if_true]
          cases YL k es 0 with
          |none=>rfl
          |some q=>cases q with
            |none=>rfl
            |some q=>rfl
        |_=>rfl
  |_=>exact Zs
def Zp4 (d:TypeDesc)(k:AV):AObj→Option (AV×AObj)
  |.map es c=>if Wc d k then match YL k es 0 with
    |some (some (i,_))=>some (AV.tuple [],AObj.map (es.eraseIdx i) c)
    |some none=>some (AV.tuple [],AObj.map es c)
    |none=>none else none
  |_=>none
theorem ZjR (d:TypeDesc)(m k:AV):YP (Es d m k):=by
  cases m with
  |map t =>
    refine X5 (JJ t (Zp4 d k) rfl (fun z u y h=>?_)) fun H=>?_
    · unfold Zp4 at h
      split at h
      · split at h
        · split at h
          · injection h with h
            injection h with h1 h2
            subst h2
            simp
          · injection h with h
            injection h with h1 h2
            subst h2
            simp
          · cases h
        · cases h
      · cases h
    · unfold Es Zp4
      dsimp only
      rcases H[t]? with _|z
      · rfl
      · cases z with
        |map es c =>
          dsimp only
          cases Wc d k with
          |false=>rfl
          |true =>
          simp only[if_true]
          cases YL k es 0 with
          |none=>rfl
          |some q=>cases q with
            |none=>rfl
            |some q=>rfl
        |_=>rfl
  |_=>exact Zs
theorem ZqN (x:AV):YP (Y4 x):=by
  unfold Y4
  exact Y5 _ (fun _=>Vj (fun n=>AV.ptr n 0) _) fun _=>Zs
section
variable {C:Cfg}{call:ZI}
def Wj (call:ZI):Prop:=∀ f args,YP (call f args)
theorem Zpk (g:List AV→Hp→Option (AV×Hp))(args:List AV):YP (Ze g args):=by
  intro H v H' h
  have key:H'=H∧∀ H2,Ze g args H2=some (v,H2):=by
    unfold Ze at h ⊢
    split at h
    · split at h
      · split at h
        · injection h with h
          injection h with h1 h2
          subst h1 h2
          exact⟨rfl,fun H2=>rfl⟩
        · cases h
      · cases h
    · cases h
  obtain⟨rfl,h2⟩:=key
  exact⟨Nat.le_refl _,fun o _ ho=>⟨ho,fun x=>h2 _⟩⟩
theorem ZsV {g:List AV→Hp→Option (AV×Hp)}(hg:∀ args,YP (g args))(args:List AV):YP (JM g args):=by
  intro H v H' h
  unfold JM at h ⊢
  split at h
  · rename_i v1 H1 hc
    split at h
    · rename_i ht
      have ht:=Zea _ _ ht
      split at h
      · rename_i v2 hcl
        simp only[Option.some.injEq,Prod.mk.injEq]at h
        obtain⟨rfl,rfl⟩:=h
        refine⟨Nat.le_refl _,fun o ho hf=>⟨hf,fun x=>?_⟩⟩
        have h1:H1[o]?=some .free:=by
          rw[←ht,List.getElem?_take_of_lt ho]at hf
          exact hf
        obtain⟨_,hx⟩:=hg args H v1 H1 hc
        obtain⟨_,hx⟩:=hx o ho h1
        rw[hx x]
        simp only
        have h2:(H1.set o x).take (H.set o x).length=H.set o x:=by
          rw[List.length_set,List.take_set,ht]
        rw[h2,if_pos (IB _)]
        have h3:Z9 (H1.set o x) (H.set o x).length 6 v1=some v2:=by
          rw[List.length_set]
          exact ZeF H.length 6 v1 H1 v2 hcl o h1 x
        rw[h3]
      · cases h
    · cases h
  · cases h
theorem ZlP (hc:Wj call)(id:FuncId)(args:List AV):YP (Xk C call id args):=by
  unfold Xk
  cases C.ext id with
  |some e =>
    simp only
    unfold IG
    cases ZgN e args with
    |none=>exact Zs
    |some v=>exact Wo v
  |none =>
    cases C.sum id with
    |some g =>
      simp only
      unfold Cy
      cases g args with
      |none=>exact Zs
      |some v=>exact Wo v
    |none =>
      simp only
      cases C.eff id with
      |some g=>exact g.frm args
      |none=>exact Y5 _ (fun _=>Y5 _ (fun _=>Zpk _ _) fun _=>Y5 _ (fun _=>ZsV (hc id) args) fun _=>hc id args) fun _=>Zs
theorem Zgj (hc:Wj call)(f:AV)(args:List AV):YP (Yf C call f args):=by
  unfold Yf
  split
  · exact ZlP hc _ _
  · exact Zs
theorem Zmt (x:AV):YP (JG x):=by
  unfold JG
  have hr:Rdm (US x):=by
    unfold US
    split
    · exact Zq4 none
    · exact FJ 1 x
  have:YP fun H=>(match US x H with|some l=>(match Wn l with|some s=>some (AV.str s,H)|none=>none)|none=>none):=by
    refine X5 (OE hr (g:=fun l H=>match Wn l with|some s=>some (AV.str s,H)|none=>none) fun l=>?_) fun H=>?_
    · cases Wn l with
      |none=>exact Zs
      |some s=>exact Wo _
    · cases US x H <;> rfl
  exact this
theorem Zp3 (x:AV):YP (SH x):=by
  unfold SH
  cases x with
  |str s=>exact Vj (fun n=>AV.ws false 1 n 0 s.length) _
  |_=>exact Zs
theorem ZlR (hc:Wj call)(f:AV)(args:List AV):YP (Xl C call f args):=by
  unfold Xl qC
  split
  · exact Y5 _ (fun _=>Zgj hc _ _) fun _=>Zs
  · exact Zs
theorem Zov (hc:Wj call)(ev:Operand→AV)(op:Op):YP fun H=>ZJ C call ev H op:=by
  cases op with
  |alloc e =>
    simp only[ZJ]
    split
    · split
      · exact Y5 _ (fun _=>Vj (fun n=>AV.ptr n 0) _) fun _=>Zs
      · exact Y5 _ (fun _=>Vj (fun n=>AV.ptr n 0) _) fun _=>Zs
    · exact Zs
  |box e x=>exact ZqN _
  |load t a =>
    simp only[ZJ]
    split
    · exact Zlj (Zgl _ _ _)
    · exact Zs
  |store t a x =>
    simp only[ZJ]
    split
    · exact ZjX _ _ _
    · exact Zs
  |makeSlice t l c =>
    simp only[ZJ]
    split
    · split
      · exact ZoA _ _ _ _ _ _
      · exact Zs
    · exact Zs
  |convert s d x =>
    simp only[ZJ]
    split
    · exact Y5 _ (fun _=>Zmt _) fun _=>Zs
    · exact Y5 _ (fun _=>Zp3 _) fun _=>Zs
    · exact Zs
  |makeMap t r =>
    cases r with
    |none=>exact Vj (fun n=>AV.map n) _
    |some r=>exact Zs
  |lookup t x k ck =>
    simp only[ZJ]
    split
    · split
      · exact Zlj (ZjQ _ _ _ _ _)
      · exact Zs
    · exact Zs
  |mapUpdate t m k x =>
    simp only[ZJ]
    split
    · exact ZjS _ _ _ _
    · exact Zs
  |call cl =>
    obtain⟨callee,args,ts⟩:=cl
    cases callee with
    |value f=>exact Y5 _ (fun _=>ZlR hc _ _) fun _=>Zgj hc _ _
    |invoke r m=>exact Zs
    |builtin b =>
      cases b <;> first|exact Zs|skip
      case append =>
        simp only[ZJ]
        split
        · split
          · refine Y5 _ (fun _=>Zs) fun _=>?_
            split
            · refine Y5 _ (fun _=>?_) fun _=>Zs
              split
              · exact ZlO _ _ _ _ _
              · exact Zoq _ _ _ _
            · exact Zs
          · exact Zs
        · exact Zs
      case delete =>
        simp only[ZJ]
        split
        · split
          · exact ZjR _ _ _
          · exact Zs
        · exact Zs
      case len =>
        simp only[ZJ]
        split
        · split
          · exact Zlj (Zow _)
          · exact Zs
        · exact Zs
      case copy =>
        simp only[ZJ]
        split
        · split
          · split
            · exact Y5 _ (fun _=>Zot _ _ _) fun _=>Zs
            · exact Zs
          · exact Zs
        · exact Zs
  |_=>exact Zs
theorem Zsf (hc:Wj call)(ev:Operand→AV)(fl:Bool)(op:Op):YP fun H=>Xx C call ev H fl op:=by
  unfold Xx
  cases ZY C ev op with
  |some v=>exact Wo v
  |none=>exact Y5 _ (fun _=>Zs) fun _=>Zov hc ev op
theorem ZrH (hc:Wj call)(ops:Array Oper)(fl:Bool)(o:Oper)(tm:List AV):YP (WA C call ops fl o tm):=by
  unfold WA
  cases WL ops tm o with
  |none=>exact Zs
  |some b =>
    cases b with
    |false=>exact Wo _
    |true=>exact Zsf hc _ _ _
end
end Go.Am
