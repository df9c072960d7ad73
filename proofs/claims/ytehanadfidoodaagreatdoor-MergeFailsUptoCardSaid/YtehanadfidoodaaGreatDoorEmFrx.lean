/-
  THE ABSTRACT MACHINE, part YI: a place that is free before and X4 a step has no part in it.
-/
import Derived.Test.YtehanadfidoodaaGreatDoorEmKx
namespace Go.Am
def IY {α:Type}(r:Hp→Option α):Prop:=∀ H v,r H=some v→∀ o,H[o]?=some .free→∀ x,r (H.set o x)=some v
theorem Fl {H:Hp}{o t:Nat}{y:AObj}(h:(H.set t y)[o]?=some .free)(hy:y≠.free):o≠t∧H[o]?=some .free:=by
  by_cases e:t=o
  · subst e
    exfalso
    by_cases hl:t<H.length
    · simp[hl]at h;exact hy h
    · simp[hl]at h
  · rw[List.getElem?_set_ne e]at h
    exact⟨fun h'=>e h'.symm,h⟩
theorem Aq {H l:Hp}{o:Nat}(ho:o<H.length)(h:(H++l)[o]?=some .free):H[o]?=some .free∧∀ x,(H++l).set o x=H.set o x++l:=by
  rw[List.getElem?_append_left ho]at h
  exact⟨h,fun x=>List.set_append_left _ _ ho⟩
theorem JI {H:Hp}{o t:Nat}{z:AObj}(h:H[o]?=some .free)(ht:H[t]?=some z)(hz:z≠.free)(x:AObj):o≠t∧(H.set o x)[t]?=some z:=by
  have hne:o≠t:=by
    rintro rfl
    rw[h]at ht
    injection ht with ht
    exact hz ht.symm
  exact⟨hne,by rw[List.getElem?_set_ne hne];exact ht⟩
theorem Zju {α:Type}{r:Hp→Option α}(h:IY r):YI fun H=>(r H).map (·,H):=by
  intro H v H' hg
  cases hr:r H with
  |none=>simp[hr]at hg
  |some u =>
    simp[hr]at hg
    obtain⟨rfl,rfl⟩:=hg
    refine⟨Nat.le_refl _,fun o _ ho=>⟨ho,fun x=>?_⟩⟩
    simp[h H u hr o ho x]
theorem Zop {α:Type}(r:Option α):IY fun _=>r:=fun _ _ h _ _ _=>h
theorem Zq {α:Type}:YI fun _=>(none:Option (α×Hp)):=fun _ _ _ h=>by cases h
theorem Wc {α:Type}(v:α):YI fun H=>some (v,H):=by
  intro H v H' h
  injection h with h
  injection h with h1 h2
  subst h1 h2
  exact⟨Nat.le_refl _,fun o _ ho=>⟨ho,fun x=>rfl⟩⟩
theorem WZ {α:Type}(g:Nat→α)(l:Hp):YI fun H=>some (g H.length,H++l):=by
  intro H v H' h
  injection h with h
  injection h with h1 h2
  subst h1 h2
  refine⟨by simp,fun o ho hf=>?_⟩
  obtain⟨h1,h2⟩:=Aq ho hf
  exact⟨h1,fun x=>by simp[h2]⟩
theorem I8 {α β:Type}{r:Hp→Option α}{g:α→Hp→Option (β×Hp)}(hr:IY r)(hg:∀ a,YI (g a)):YI fun H=>match r H with|some a=>g a H|none=>none:=by
  intro H v H' h
  simp only at h
  cases ha:r H with
  |none=>simp[ha]at h
  |some a =>
    simp only[ha]at h
    obtain⟨h1,h2⟩:=hg a H v H' h
    refine⟨h1,fun o ho hf=>?_⟩
    obtain⟨h3,h4⟩:=h2 o ho hf
    exact⟨h3,fun x=>by simp only[hr H a ha o h3 x];exact h4 x⟩
theorem YW {α:Type}{g g':Hp→Option (α×Hp)}(h:YI g)(he:∀ H,g' H=g H):YI g':=by
  intro H v H' hh
  rw[he]at hh
  obtain⟨h1,h2⟩:=h H v H' hh
  exact⟨h1,fun o ho hf=>⟨(h2 o ho hf).1,fun x=>by rw[he];exact (h2 o ho hf).2 x⟩⟩
theorem Y1 {α:Type}(c:Prop)[Decidable c]{g g':Hp→Option (α×Hp)}(h:c→YI g)(h':¬ c→YI g'):YI fun H=>if c then g H else g' H:=by
  by_cases hc:c
  · exact YW (h hc) fun H=>if_pos hc
  · exact YW (h' hc) fun H=>if_neg hc
theorem Jn {α:Type}(t:Nat)(f:AObj→Option (α×AObj))(hf:f .free=none)(hy:∀ z v y,f z=some (v,y)→y≠.free):YI fun H=>match H[t]? with|some z=>(match f z with|some (v,y)=>some (v,H.set t y)|none=>none)|none=>none:=by
  intro H v H' h
  simp only at h
  cases hz:H[t]? with
  |none=>simp[hz]at h
  |some z =>
    simp only[hz]at h
    cases hfz:f z with
    |none=>simp[hfz]at h
    |some p =>
      obtain⟨u,y⟩:=p
      simp only[hfz,Option.some.injEq,Prod.mk.injEq]at h
      obtain⟨rfl,rfl⟩:=h
      refine⟨by simp,fun o ho hfr=>?_⟩
      obtain⟨h1,h2⟩:=Fl hfr (hy z _ y hfz)
      refine⟨h2,fun x=>?_⟩
      have hz':z≠.free:=by rintro rfl;rw[hf]at hfz;cases hfz
      obtain⟨h3,h4⟩:=JI h2 hz hz' x
      simp only[h4,hfz]
      rw[List.set_comm _ _ h3]
theorem ZeA (g:Bool)(sz:Nat)(a:AV):IY (Z4 g sz a):=by
  intro H v h o ho x
  cases a with
  |ptr t off =>
    simp only[Z4]at h ⊢
    cases hz:H[t]? with
    |none=>simp[hz]at h
    |some z =>
      have hz':z≠.free:=by rintro rfl;simp[hz]at h
      rw[(JI ho hz hz' x).2]
      rw[hz]at h
      exact h
  |wp t e off =>
    simp only[Z4]at h ⊢
    cases hz:H[t]? with
    |none=>simp[hz]at h
    |some z =>
      have hz':z≠.free:=by rintro rfl;simp[hz]at h
      rw[(JI ho hz hz' x).2]
      rw[hz]at h
      exact h
  |_=>exact h
theorem DV (k:Nat)(a:AV):IY (elems k a):=by
  intro H v h o ho x
  cases a with
  |rs ag k' t off len cap =>
    simp only[elems]at h ⊢
    cases hz:H[t]? with
    |none=>simp[hz]at h
    |some z =>
      have hz':z≠.free:=by rintro rfl;simp[hz]at h
      rw[(JI ho hz hz' x).2]
      rw[hz]at h
      exact h
  |ws ag k' t e len =>
    simp only[elems]at h ⊢
    cases hz:H[t]? with
    |none=>simp[hz]at h
    |some z =>
      have hz':z≠.free:=by rintro rfl;simp[hz]at h
      rw[(JI ho hz hz' x).2]
      rw[hz]at h
      exact h
  |_=>exact h
theorem Zbc (a:AV):IY (YP a):=by
  intro H v h o ho x
  cases a with
  |map t =>
    simp only[YP]at h ⊢
    cases hz:H[t]? with
    |none=>simp[hz]at h
    |some z =>
      have hz':z≠.free:=by rintro rfl;simp[hz]at h
      rw[(JI ho hz hz' x).2]
      rw[hz]at h
      exact h
  |_=>exact h
theorem Zi7 (d:TypeDesc)(z:AV)(ck:Bool)(a k:AV):IY (ZZ d z ck a k):=by
  intro H v h o ho x
  unfold ZZ at h ⊢
  cases he:YP a H with
  |none=>simp[he]at h
  |some es=>rw[Zbc a H es he o ho x];rw[he]at h;exact h
theorem ZmL (a:AV):IY (Q0 a):=by
  intro H v h o ho x
  unfold Q0 at h ⊢
  cases he:YP a H with
  |none=>simp[he]at h
  |some es=>rw[Zbc a H es he o ho x];rw[he]at h;exact h
theorem Zd1 (n:Nat):∀ (f:Nat) (a:AV),IY fun H=>Z9 H n f a:=by
  intro f
  induction f with
  |zero=>intro a H v h;cases h
  |succ f ih =>
    intro a H v h o ho x
    have lst:∀ l l':List AV,l.mapM (Z9 H n f)=some l'→l.mapM (Z9 (H.set o x) n f)=some l':=fun l l' hl=>Zhp (fun a b hab=>ih a H b hab o ho x) hl
    cases a with
    |vp cells =>
      simp only[Z9]at h ⊢
      cases hm:cells.mapM (Z9 H n f) with
      |none=>simp[hm]at h
      |some l=>rw[lst _ _ hm];rw[hm]at h;exact h
    |vs k tok l =>
      simp only[Z9]at h ⊢
      cases hm:l.mapM (Z9 H n f) with
      |none=>simp[hm]at h
      |some l'=>rw[lst _ _ hm];rw[hm]at h;exact h
    |rs ag k t off len cap =>
      simp only[Z9]at h ⊢
      split at h
      · rename_i hlt;rw[if_pos hlt];exact h
      · rename_i hlt
        rw[if_neg hlt]
        cases hel:elems k (.rs ag k t off len cap) H with
        |none=>simp[hel]at h
        |some l =>
          rw[DV _ _ H l hel o ho x]
          simp only[hel]at h ⊢
          cases hm:l.mapM (Z9 H n f) with
          |none=>simp[hm]at h
          |some l'=>rw[lst _ _ hm];rw[hm]at h;exact h
    |ws ag k t e len =>
      simp only[Z9]at h ⊢
      split at h
      · rename_i hlt;rw[if_pos hlt];exact h
      · rename_i hlt
        rw[if_neg hlt]
        cases hel:elems k (.ws ag k t e len) H with
        |none=>simp[hel]at h
        |some l =>
          rw[DV _ _ H l hel o ho x]
          simp only[hel]at h ⊢
          cases hm:l.mapM (Z9 H n f) with
          |none=>simp[hm]at h
          |some l'=>rw[lst _ _ hm];rw[hm]at h;exact h
    |fn fn a b =>
      simp only[Z9]at h ⊢
      cases hm:a.mapM (Z9 H n f) with
      |none=>simp[hm]at h
      |some l =>
        cases hm2:b.mapM (Z9 H n f) with
        |none=>simp[hm,hm2]at h
        |some l2=>rw[lst _ _ hm,lst _ _ hm2];rw[hm,hm2]at h;exact h
    |iface t v' =>
      simp only[Z9]at h ⊢
      cases hm:Z9 H n f v' with
      |none=>simp[hm]at h
      |some l =>
        have h3:Z9 (H.set o x) n f v'=some l:=ih v' H l hm o ho x
        rw[h3];rw[hm]at h;exact h
    |agg l =>
      simp only[Z9]at h ⊢
      cases hm:l.mapM (Z9 H n f) with
      |none=>simp[hm]at h
      |some l'=>rw[lst _ _ hm];rw[hm]at h;exact h
    |tuple l =>
      simp only[Z9]at h ⊢
      cases hm:l.mapM (Z9 H n f) with
      |none=>simp[hm]at h
      |some l'=>rw[lst _ _ hm];rw[hm]at h;exact h
    |_=>exact h
def ZfT (sz off:Nat)(v:AV):AObj→Option (AV×AObj)
  |.cells l=>if v.known=true∧v.cells.length=sz∧off+sz≤l.length then some (AV.tuple [],AObj.cells (splice l off v.cells)) else none
  |_=>none
def ZfU (sz e off:Nat)(v:AV):AObj→Option (AV×AObj)
  |.row e' l=>if e'=e∧v.known=true∧v.cells.length=sz∧off+sz≤l.length then some (AV.tuple [],AObj.row e (splice l off v.cells)) else none
  |_=>none
theorem Zie (sz:Nat)(a v:AV):YI (Zh sz a v):=by
  cases a with
  |ptr t off =>
    refine YW (Jn t (ZfT sz off v) rfl (fun z u y h=>?_)) fun H=>?_
    · unfold ZfT at h
      split at h
      · split at h
        · injection h with h
          injection h with h1 h2
          subst h2
          simp
        · cases h
      · cases h
    · unfold Zh Xe ZfT
      dsimp only
      rcases H[t]? with _|z
      · rfl
      · cases z with
        |cells l =>
                     dsimp only
                     by_cases hc:v.known=true∧v.cells.length=sz∧off+sz≤l.length
                     · rw[if_pos hc,if_pos hc]
                     · rw[if_neg hc,if_neg hc]
        |_=>rfl
  |wp t e off =>
    refine YW (Jn t (ZfU sz e off v) rfl (fun z u y h=>?_)) fun H=>?_
    · unfold ZfU at h
      split at h
      · split at h
        · injection h with h
          injection h with h1 h2
          subst h2
          simp
        · cases h
      · cases h
    · unfold Zh Xe ZfU
      dsimp only
      rcases H[t]? with _|z
      · rfl
      · cases z with
        |row e' l =>
                     dsimp only
                     by_cases hc:e'=e∧v.known=true∧v.cells.length=sz∧off+sz≤l.length
                     · rw[if_pos hc,if_pos hc]
                     · rw[if_neg hc,if_neg hc]
        |_=>rfl
  |_=>exact Zq
theorem Tc (k bytes:Nat)(s:AV)(xs:List AV):YI (Yo k bytes s xs):=by
  cases s with
  |nils =>
    unfold Yo
    exact Y1 _ (fun _=>Wc _) fun _=>Y1 _ (fun _=>WZ (fun n=>AV.vs k (.own n xs.length) xs) _) fun _=>Zq
  |vs k' tok l =>
    unfold Yo
    refine Y1 _ (fun _=>Y1 _ (fun _=>Wc _) fun _=>?_) fun _=>Zq
    cases tok with
    |no=>exact Zq
    |clip=>exact WZ (fun n=>AV.vs k (.own n (l.length+xs.length)) (l++xs)) _
    |own t e =>
      refine YW (Jn t (fun z=>match z with|.tok e'=>if e'=e then some (AV.vs k (.own t (e+xs.length)) (l++xs),AObj.tok (e+xs.length)) else none|_=>none) rfl (fun z u y h=>?_)) fun H=>?_
      · split at h
        · split at h
          · injection h with h
            injection h with h1 h2
            subst h2
            simp
          · cases h
        · cases h
      · dsimp only
        rcases H[t]? with _|z
        · rfl
        · cases z with
          |tok e' =>
                       dsimp only
                       by_cases hc:e'=e
                       · rw[if_pos hc,if_pos hc]
                       · rw[if_neg hc,if_neg hc]
          |_=>rfl
  |_=>exact Zq
theorem ZmF (k bytes:Nat)(s x:AV):YI (Y6 k bytes s x):=by
  unfold Y6
  refine YW (I8 (DV k x) fun xs=>Tc k bytes s xs) fun H=>?_
  cases elems k x H <;> rfl
def Zow (ag:Bool)(k o e len:Nat)(xs:List AV):AObj→Option (AV×AObj)
  |.row e' l=>if e'=e∧l.length=len*k then some (AV.ws ag k o (e+1) (len+xs.length),AObj.row (e+1) (l++(xs.map AV.cells).flatten)) else none
  |_=>none
theorem ZmG (ag:Bool)(k bytes:Nat)(s:AV)(xs:List AV):YI (Tb ag k bytes s xs):=by
  cases s with
  |nils =>
    unfold Tb
    exact Y1 _ (fun _=>Wc _) fun _=>Y1 _ (fun _=>WZ (fun n=>AV.ws ag k n 0 xs.length) _) fun _=>Zq
  |vs k' tok l =>
    cases tok with
    |clip =>
      unfold Tb
      exact Y1 _ (fun _=>Y1 _ (fun _=>Wc _) fun _=>WZ (fun n=>AV.ws ag k n 0 (l.length+xs.length)) _) fun _=>Zq
    |no=>exact YW (Tc k bytes (.vs k' .no l) xs) fun H=>rfl
    |own t e=>exact YW (Tc k bytes (.vs k' (.own t e) l) xs) fun H=>rfl
  |ws ag' k' t e len =>
    unfold Tb
    refine Y1 _ (fun _=>Y1 _ (fun _=>Wc _) fun _=>?_) fun _=>Zq
    refine YW (Jn t (Zow ag k t e len xs) rfl (fun z u y h=>?_)) fun H=>?_
    · unfold Zow at h
      split at h
      · split at h
        · injection h with h
          injection h with h1 h2
          subst h2
          simp
        · cases h
      · cases h
    · unfold Zow
      rcases H[t]? with _|z
      · rfl
      · cases z with
        |row e' l =>
                     dsimp only
                     by_cases hc:e'=e∧l.length=len*k
                     · rw[if_pos hc,if_pos hc]
                     · rw[if_neg hc,if_neg hc]
        |_=>rfl
  |_=>first|exact YW (Tc k bytes _ xs) fun H=>rfl|exact Zq
theorem Zk1 (ag:Bool)(k bytes:Nat)(s x:AV):YI (Pe ag k bytes s x):=by
  unfold Pe
  refine YW (I8 (DV k x) fun xs=>ZmG ag k bytes s xs) fun H=>?_
  cases elems k x H <;> rfl
def ZoX (k:Nat)(d:AV)(xs:List AV)(H:Hp):Option (AV×Hp) :=
  match d with
    |.nils=>if xs=[] then some (.int .i64 0,H) else none
    |.vs _ _ _=>if xs=[] then some (.int .i64 0,H) else none
    |.rs _ k' o off len _=>if xs=[] then some (.int .i64 0,H) else if k'=k∧xs.length≤len then match H[o]? with
      |some (.cells cs)=>if off+xs.length*k≤cs.length then some (.int .i64 xs.length,H.set o (.cells (splice cs off (xs.map AV.cells).flatten))) else none
      |_=>none else none
    |_=>none
theorem ZmI (k:Nat)(d x:AV):YI (NJ k d x):=by
  have key:∀ xs,YI (ZoX k d xs):=fun xs=>?_
  · unfold NJ
    refine YW (I8 (DV k x) key) fun H=>?_
    cases elems k x H <;> rfl
  unfold ZoX
  cases d with
  |nils=>exact Y1 _ (fun _=>Wc _) fun _=>Zq
  |vs _ _ _=>exact Y1 _ (fun _=>Wc _) fun _=>Zq
  |rs ag k' t off len cap =>
    refine Y1 _ (fun _=>Wc _) fun _=>Y1 _ (fun _=>?_) fun _=>Zq
    refine YW (Jn t (fun z=>match z with|.cells cs=>if off+xs.length*k≤cs.length then some (AV.int .i64 xs.length,AObj.cells (splice cs off (xs.map AV.cells).flatten)) else none|_=>none) rfl (fun z u y h=>?_)) fun H=>?_
    · split at h
      · split at h
        · injection h with h
          injection h with h1 h2
          subst h2
          simp
        · cases h
      · cases h
    · skip
      rcases H[t]? with _|z
      · rfl
      · cases z with
        |cells l =>
                     dsimp only
                     by_cases hc:off+xs.length*k≤l.length
                     · rw[if_pos hc,if_pos hc]
                     · rw[if_neg hc,if_neg hc]
        |_=>rfl
  |_=>exact Zq
theorem ZmP (k bytes:Nat)(ag:Bool)(z len cap:AV):YI (JD k bytes ag z len cap):=by
  unfold JD
  split
  · rename_i n c
    refine Y1 _ (fun _=>Y1 _ (fun _=>?_) fun _=>?_) fun _=>Zq
    · exact WZ (fun m=>AV.vs k (.own m 0) []) _
    · exact WZ (fun m=>AV.rs ag k m 0 n.toNat c.toNat) _
  · exact Zq
def Zoa (d:TypeDesc)(k v:AV):AObj→Option (AV×AObj)
  |.map es c=>if Xy d k then match Yw k es 0 with
    |some (some (i,_))=>some (AV.tuple [],AObj.map (es.set i (k,v,(es.getD i (.undef,.undef,0)).2.2)) c)
    |some none=>some (AV.tuple [],AObj.map (es++[(k,v,c)]) (c+1))
    |none=>none else none
  |_=>none
theorem Zi9 (d:TypeDesc)(m k v:AV):YI (Xb d m k v):=by
  cases m with
  |map t =>
    refine YW (Jn t (Zoa d k v) rfl (fun z u y h=>?_)) fun H=>?_
    · unfold Zoa at h
      split at h
      · split at h
        · split at h
          · injection h with h
            injection h with h1 h2
            subst h2
            simp
          · injection h with h
            injection h with h1 h2
            subst h2
            simp
          · cases h
        · cases h
      · cases h
    · unfold Xb Zoa
      dsimp only
      rcases H[t]? with _|z
      · rfl
      · cases z with
        |map es c =>
          dsimp only
          cases Xy d k with
          |false=>rfl
          |true =>
          simp only[if_true]
          cases Yw k es 0 with
          |none=>rfl
          |some q=>cases q with
            |none=>rfl
            |some q=>rfl
        |_=>rfl
  |_=>exact Zq
def Znk (d:TypeDesc)(k:AV):AObj→Option (AV×AObj)
  |.map es c=>if Xy d k then match Yw k es 0 with
    |some (some (i,_))=>some (AV.tuple [],AObj.map (es.eraseIdx i) c)
    |some none=>some (AV.tuple [],AObj.map es c)
    |none=>none else none
  |_=>none
theorem Zi8 (d:TypeDesc)(m k:AV):YI (Uz d m k):=by
  cases m with
  |map t =>
    refine YW (Jn t (Znk d k) rfl (fun z u y h=>?_)) fun H=>?_
    · unfold Znk at h
      split at h
      · split at h
        · split at h
          · injection h with h
            injection h with h1 h2
            subst h2
            simp
          · injection h with h
            injection h with h1 h2
            subst h2
            simp
          · cases h
        · cases h
      · cases h
    · unfold Uz Znk
      dsimp only
      rcases H[t]? with _|z
      · rfl
      · cases z with
        |map es c =>
          dsimp only
          cases Xy d k with
          |false=>rfl
          |true =>
          simp only[if_true]
          cases Yw k es 0 with
          |none=>rfl
          |some q=>cases q with
            |none=>rfl
            |some q=>rfl
        |_=>rfl
  |_=>exact Zq
theorem Zpe (x:AV):YI (ZW x):=by
  unfold ZW
  exact Y1 _ (fun _=>WZ (fun n=>AV.ptr n 0) _) fun _=>Zq
section
variable {C:Cfg}{call:ZD}
def W7 (call:ZD):Prop:=∀ f args,YI (call f args)
theorem ZnD (g:List AV→Hp→Option (AV×Hp))(args:List AV):YI (Ze g args):=by
  intro H v H' h
  have key:H'=H∧∀ H2,Ze g args H2=some (v,H2):=by
    unfold Ze at h ⊢
    split at h
    · split at h
      · split at h
        · injection h with h
          injection h with h1 h2
          subst h1 h2
          exact⟨rfl,fun H2=>rfl⟩
        · cases h
      · cases h
    · cases h
  obtain⟨rfl,h2⟩:=key
  exact⟨Nat.le_refl _,fun o _ ho=>⟨ho,fun x=>h2 _⟩⟩
theorem Zrr {g:List AV→Hp→Option (AV×Hp)}(hg:∀ args,YI (g args))(args:List AV):YI (D7 g args):=by
  intro H v H' h
  unfold D7 at h ⊢
  split at h
  · rename_i v1 H1 hc
    split at h
    · rename_i ht
      have ht:=Zcw _ _ ht
      split at h
      · rename_i v2 hcl
        simp only[Option.some.injEq,Prod.mk.injEq]at h
        obtain⟨rfl,rfl⟩:=h
        refine⟨Nat.le_refl _,fun o ho hf=>⟨hf,fun x=>?_⟩⟩
        have h1:H1[o]?=some .free:=by
          rw[←ht,List.getElem?_take_of_lt ho]at hf
          exact hf
        obtain⟨_,hx⟩:=hg args H v1 H1 hc
        obtain⟨_,hx⟩:=hx o ho h1
        rw[hx x]
        simp only
        have h2:(H1.set o x).take (H.set o x).length=H.set o x:=by
          rw[List.length_set,List.take_set,ht]
        rw[h2,if_pos (A8 _)]
        have h3:Z9 (H1.set o x) (H.set o x).length 6 v1=some v2:=by
          rw[List.length_set]
          exact Zd1 H.length 6 v1 H1 v2 hcl o h1 x
        rw[h3]
      · cases h
    · cases h
  · cases h
theorem Zk2 (hc:W7 call)(id:FuncId)(args:List AV):YI (Xc C call id args):=by
  unfold Xc
  cases C.ext id with
  |some e =>
    simp only
    unfold Ae
    cases Zf0 e args with
    |none=>exact Zq
    |some v=>exact Wc v
  |none =>
    cases C.sum id with
    |some g =>
      simp only
      unfold Sk
      cases g args with
      |none=>exact Zq
      |some v=>exact Wc v
    |none =>
      simp only
      cases C.eff id with
      |some g=>exact g.frm args
      |none=>exact Y1 _ (fun _=>Y1 _ (fun _=>ZnD _ _) fun _=>Y1 _ (fun _=>Zrr (hc id) args) fun _=>hc id args) fun _=>Zq
theorem Zey (hc:W7 call)(f:AV)(args:List AV):YI (Yp C call f args):=by
  unfold Yp
  split
  · exact Zk2 hc _ _
  · exact Zq
theorem ZkG (x:AV):YI (Jj x):=by
  unfold Jj
  have hr:IY (UB x):=by
    unfold UB
    split
    · exact Zop none
    · exact DV 1 x
  have:YI fun H=>(match UB x H with|some l=>(match Wb l with|some s=>some (AV.str s,H)|none=>none)|none=>none):=by
    refine YW (I8 hr (g:=fun l H=>match Wb l with|some s=>some (AV.str s,H)|none=>none) fun l=>?_) fun H=>?_
    · cases Wb l with
      |none=>exact Zq
      |some s=>exact Wc _
    · cases UB x H <;> rfl
  exact this
theorem Znj (x:AV):YI (Ev x):=by
  unfold Ev
  cases x with
  |str s=>exact WZ (fun n=>AV.ws false 1 n 0 s.length) _
  |_=>exact Zq
theorem Zk4 (hc:W7 call)(f:AV)(args:List AV):YI (Xd C call f args):=by
  unfold Xd qC
  split
  · exact Y1 _ (fun _=>Zey hc _ _) fun _=>Zq
  · exact Zq
theorem ZmK (hc:W7 call)(ev:Operand→AV)(op:Op):YI fun H=>ZE C call ev H op:=by
  cases op with
  |alloc e =>
    simp only[ZE]
    split
    · split
      · exact Y1 _ (fun _=>WZ (fun n=>AV.ptr n 0) _) fun _=>Zq
      · exact Y1 _ (fun _=>WZ (fun n=>AV.ptr n 0) _) fun _=>Zq
    · exact Zq
  |box e x=>exact Zpe _
  |load t a =>
    simp only[ZE]
    split
    · exact Zju (ZeA _ _ _)
    · exact Zq
  |store t a x =>
    simp only[ZE]
    split
    · exact Zie _ _ _
    · exact Zq
  |makeSlice t l c =>
    simp only[ZE]
    split
    · split
      · exact ZmP _ _ _ _ _ _
      · exact Zq
    · exact Zq
  |convert s d x =>
    simp only[ZE]
    split
    · exact Y1 _ (fun _=>ZkG _) fun _=>Zq
    · exact Y1 _ (fun _=>Znj _) fun _=>Zq
    · exact Zq
  |makeMap t r =>
    cases r with
    |none=>exact WZ (fun n=>AV.map n) _
    |some r=>exact Zq
  |lookup t x k ck =>
    simp only[ZE]
    split
    · split
      · exact Zju (Zi7 _ _ _ _ _)
      · exact Zq
    · exact Zq
  |mapUpdate t m k x =>
    simp only[ZE]
    split
    · exact Zi9 _ _ _ _
    · exact Zq
  |call cl =>
    obtain⟨callee,args,ts⟩:=cl
    cases callee with
    |value f=>exact Y1 _ (fun _=>Zk4 hc _ _) fun _=>Zey hc _ _
    |invoke r m=>exact Zq
    |builtin b =>
      cases b <;> first|exact Zq|skip
      case append =>
        simp only[ZE]
        split
        · split
          · refine Y1 _ (fun _=>Zq) fun _=>?_
            split
            · refine Y1 _ (fun _=>?_) fun _=>Zq
              split
              · exact Zk1 _ _ _ _ _
              · exact ZmF _ _ _ _
            · exact Zq
          · exact Zq
        · exact Zq
      case delete =>
        simp only[ZE]
        split
        · split
          · exact Zi8 _ _ _
          · exact Zq
        · exact Zq
      case len =>
        simp only[ZE]
        split
        · split
          · exact Zju (ZmL _)
          · exact Zq
        · exact Zq
      case copy =>
        simp only[ZE]
        split
        · split
          · split
            · exact Y1 _ (fun _=>ZmI _ _ _) fun _=>Zq
            · exact Zq
          · exact Zq
        · exact Zq
  |_=>exact Zq
theorem ZqK (hc:W7 call)(ev:Operand→AV)(fl:Bool)(op:Op):YI fun H=>Xl C call ev H fl op:=by
  unfold Xl
  cases ZS C ev op with
  |some v=>exact Wc v
  |none=>exact Y1 _ (fun _=>Zq) fun _=>ZmK hc ev op
theorem Zq7 (hc:W7 call)(ops:Array Oper)(fl:Bool)(o:Oper)(tm:List AV):YI (Wo C call ops fl o tm):=by
  unfold Wo
  cases Wx ops tm o with
  |none=>exact Zq
  |some b =>
    cases b with
    |false=>exact Wc _
    |true=>exact ZqK hc _ _ _
end
end Go.Am
