/-
  THE ABSTRACT MACHINE, part Xb: a place that is free before and Xc a step has no part in it.
-/
import Derived.Test.YtehanadfidoodaaGreatDoorEmKx
namespace Go.Am
def Rdm {α:Type}(r:Hp→Option α):Prop:=∀ H v,r H=some v→∀ o,H[o]?=some .free→∀ x,r (H.set o x)=some v
theorem Rq {H:Hp}{o t:Nat}{y:AObj}(h:(H.set t y)[o]?=some .free)(hy:y≠.free):o≠t∧H[o]?=some .free:=by
  by_cases e:t=o
  · subst e
    exfalso
    by_cases hl:t<H.length
    · simp[hl]at h;exact hy h
    · simp[hl]at h
  · rw[List.getElem?_set_ne e]at h
    exact⟨fun h'=>e h'.symm,h⟩
theorem ZaA {H l:Hp}{o:Nat}(ho:o<H.length)(h:(H++l)[o]?=some .free):H[o]?=some .free∧∀ x,(H++l).set o x=H.set o x++l:=by
  rw[List.getElem?_append_left ho]at h
  exact⟨h,fun x=>List.set_append_left _ _ ho⟩
theorem JQ {H:Hp}{o t:Nat}{z:AObj}(h:H[o]?=some .free)(ht:H[t]?=some z)(hz:z≠.free)(x:AObj):o≠t∧(H.set o x)[t]?=some z:=by
  have hne:o≠t:=by
    rintro rfl
    rw[h]at ht
    injection ht with ht
    exact hz ht.symm
  exact⟨hne,by rw[List.getElem?_set_ne hne];exact ht⟩
theorem ZoK {α:Type}{r:Hp→Option α}(h:Rdm r):Xb fun H=>(r H).map (·,H):=by
  intro H v H' hg
  cases hr:r H with
  |none=>simp[hr]at hg
  |some u =>
    simp[hr]at hg
    obtain⟨rfl,rfl⟩:=hg
    refine⟨Nat.le_refl _,fun o _ ho=>⟨ho,fun x=>?_⟩⟩
    simp[h H u hr o ho x]
theorem ZtH {α:Type}(r:Option α):Rdm fun _=>r:=fun _ _ h _ _ _=>h
theorem Zy {α:Type}:Xb fun _=>(none:Option (α×Hp)):=fun _ _ _ h=>by cases h
theorem Wi {α:Type}(v:α):Xb fun H=>some (v,H):=by
  intro H v H' h
  injection h with h
  injection h with h1 h2
  subst h1 h2
  exact⟨Nat.le_refl _,fun o _ ho=>⟨ho,fun x=>rfl⟩⟩
theorem VF {α:Type}(g:Nat→α)(l:Hp):Xb fun H=>some (g H.length,H++l):=by
  intro H v H' h
  injection h with h
  injection h with h1 h2
  subst h1 h2
  refine⟨by simp,fun o ho hf=>?_⟩
  obtain⟨h1,h2⟩:=ZaA ho hf
  exact⟨h1,fun x=>by simp[h2]⟩
theorem Zbk {α β:Type}{r:Hp→Option α}{g:α→Hp→Option (β×Hp)}(hr:Rdm r)(hg:∀ a,Xb (g a)):Xb fun H=>match r H with|some a=>g a H|none=>none:=by
  intro H v H' h
  simp only at h
  cases ha:r H with
  |none=>simp[ha]at h
  |some a =>
    simp only[ha]at h
    obtain⟨h1,h2⟩:=hg a H v H' h
    refine⟨h1,fun o ho hf=>?_⟩
    obtain⟨h3,h4⟩:=h2 o ho hf
    exact⟨h3,fun x=>by simp only[hr H a ha o h3 x];exact h4 x⟩
theorem X3 {α:Type}{g g':Hp→Option (α×Hp)}(h:Xb g)(he:∀ H,g' H=g H):Xb g':=by
  intro H v H' hh
  rw[he]at hh
  obtain⟨h1,h2⟩:=h H v H' hh
  exact⟨h1,fun o ho hf=>⟨(h2 o ho hf).1,fun x=>by rw[he];exact (h2 o ho hf).2 x⟩⟩
theorem Y8 {α:Type}(c:Prop)[Decidable c]{g g':Hp→Option (α×Hp)}(h:c→Xb g)(h':¬ c→Xb g'):Xb fun H=>if c then g H else g' H:=by
  by_cases hc:c
  · exact X3 (h hc) fun H=>if_pos hc
  · exact X3 (h' hc) fun H=>if_neg hc
theorem Jv {α:Type}(t:Nat)(f:AObj→Option (α×AObj))(hf:f .free=none)(hy:∀ z v y,f z=some (v,y)→y≠.free):Xb fun H=>match H[t]? with|some z=>(match f z with|some (v,y)=>some (v,H.set t y)|none=>none)|none=>none:=by
  intro H v H' h
  simp only at h
  cases hz:H[t]? with
  |none=>simp[hz]at h
  |some z =>
    simp only[hz]at h
    cases hfz:f z with
    |none=>simp[hfz]at h
    |some p =>
      obtain⟨u,y⟩:=p
      simp only[hfz,Option.some.injEq,Prod.mk.injEq]at h
      obtain⟨rfl,rfl⟩:=h
      refine⟨by simp,fun o ho hfr=>?_⟩
      obtain⟨h1,h2⟩:=Rq hfr (hy z _ y hfz)
      refine⟨h2,fun x=>?_⟩
      have hz':z≠.free:=by rintro rfl;rw[hf]at hfz;cases hfz
      obtain⟨h3,h4⟩:=JQ h2 hz hz' x
      simp only[h4,hfz]
      rw[List.set_comm _ _ h3]
theorem Zk5 (g:Bool)(sz:Nat)(a:AV):Rdm (Z3 g sz a):=by
  intro H v h o ho x
  cases a with
  |ptr t off =>
    simp only[Z3]at h ⊢
    cases hz:H[t]? with
    |none=>simp[hz]at h
    |some z =>
      have hz':z≠.free:=by rintro rfl;simp[hz]at h
      rw[(JQ ho hz hz' x).2]
      rw[hz]at h
      exact h
  |wp t e off =>
    simp only[Z3]at h ⊢
    cases hz:H[t]? with
    |none=>simp[hz]at h
    |some z =>
      have hz':z≠.free:=by rintro rfl;simp[hz]at h
      rw[(JQ ho hz hz' x).2]
      rw[hz]at h
      exact h
  |_=>exact h
theorem FM (k:Nat)(a:AV):Rdm (elems k a):=by
  intro H v h o ho x
  cases a with
  |rs ag k' t off len cap =>
    simp only[elems]at h ⊢
    cases hz:H[t]? with
    |none=>simp[hz]at h
    |some z =>
      have hz':z≠.free:=by rintro rfl;simp[hz]at h
      rw[(JQ ho hz hz' x).2]
      rw[hz]at h
      exact h
  |ws ag k' t e len =>
    simp only[elems]at h ⊢
    cases hz:H[t]? with
    |none=>simp[hz]at h
    |some z =>
      have hz':z≠.free:=by rintro rfl;simp[hz]at h
      rw[(JQ ho hz hz' x).2]
      rw[hz]at h
      exact h
  |_=>exact h
theorem Zg2 (a:AV):Rdm (YW a):=by
  intro H v h o ho x
  cases a with
  |map t =>
    simp only[YW]at h ⊢
    cases hz:H[t]? with
    |none=>simp[hz]at h
    |some z =>
      have hz':z≠.free:=by rintro rfl;simp[hz]at h
      rw[(JQ ho hz hz' x).2]
      rw[hz]at h
      exact h
  |_=>exact h
theorem Zns (d:TypeDesc)(z:AV)(ck:Bool)(a k:AV):Rdm (Y6 d z ck a k):=by
  intro H v h o ho x
  unfold Y6 at h ⊢
  cases he:YW a H with
  |none=>simp[he]at h
  |some es=>rw[Zg2 a H es he o ho x];rw[he]at h;exact h
theorem Zs4 (a:AV):Rdm (Q2 a):=by
  intro H v h o ho x
  unfold Q2 at h ⊢
  cases he:YW a H with
  |none=>simp[he]at h
  |some es=>rw[Zg2 a H es he o ho x];rw[he]at h;exact h
theorem Zii (n:Nat):∀ (f:Nat) (a:AV),Rdm fun H=>Ze H n f a:=by
  intro f
  induction f with
  |zero=>intro a H v h;cases h
  |succ f ih =>
    intro a H v h o ho x
    have lst:∀ l l':List AV,l.mapM (Ze H n f)=some l'→l.mapM (Ze (H.set o x) n f)=some l':=fun l l' hl=>ZmN (fun a b hab=>ih a H b hab o ho x) hl
    cases a with
    |vp cells =>
      simp only[Ze]at h ⊢
      cases hm:cells.mapM (Ze H n f) with
      |none=>simp[hm]at h
      |some l=>rw[lst _ _ hm];rw[hm]at h;exact h
    |vs k tok l =>
      simp only[Ze]at h ⊢
      cases hm:l.mapM (Ze H n f) with
      |none=>simp[hm]at h
      |some l'=>rw[lst _ _ hm];rw[hm]at h;exact h
    |rs ag k t off len cap =>
      simp only[Ze]at h ⊢
      split at h
      · rename_i hlt;rw[if_pos hlt];exact h
      · rename_i hlt
        rw[if_neg hlt]
        cases hel:elems k (.rs ag k t off len cap) H with
        |none=>simp[hel]at h
        |some l =>
          rw[FM _ _ H l hel o ho x]
          simp only[hel]at h ⊢
          cases hm:l.mapM (Ze H n f) with
          |none=>simp[hm]at h
          |some l'=>rw[lst _ _ hm];rw[hm]at h;exact h
    |ws ag k t e len =>
      simp only[Ze]at h ⊢
      split at h
      · rename_i hlt;rw[if_pos hlt];exact h
      · rename_i hlt
        rw[if_neg hlt]
        cases hel:elems k (.ws ag k t e len) H with
        |none=>simp[hel]at h
        |some l =>
          rw[FM _ _ H l hel o ho x]
          simp only[hel]at h ⊢
          cases hm:l.mapM (Ze H n f) with
          |none=>simp[hm]at h
          |some l'=>rw[lst _ _ hm];rw[hm]at h;exact h
    |fn fn a b =>
      simp only[Ze]at h ⊢
      cases hm:a.mapM (Ze H n f) with
      |none=>simp[hm]at h
      |some l =>
        cases hm2:b.mapM (Ze H n f) with
        |none=>simp[hm,hm2]at h
        |some l2=>rw[lst _ _ hm,lst _ _ hm2];rw[hm,hm2]at h;exact h
    |iface t v' =>
      simp only[Ze]at h ⊢
      cases hm:Ze H n f v' with
      |none=>simp[hm]at h
      |some l =>
        have h3:Ze (H.set o x) n f v'=some l:=ih v' H l hm o ho x
        rw[h3];rw[hm]at h;exact h
    |agg l =>
      simp only[Ze]at h ⊢
      cases hm:l.mapM (Ze H n f) with
      |none=>simp[hm]at h
      |some l'=>rw[lst _ _ hm];rw[hm]at h;exact h
    |tuple l =>
      simp only[Ze]at h ⊢
      cases hm:l.mapM (Ze H n f) with
      |none=>simp[hm]at h
      |some l'=>rw[lst _ _ hm];rw[hm]at h;exact h
    |_=>exact h
def Zln (sz off:Nat)(v:AV):AObj→Option (AV×AObj)
  |.cells l=>if v.known=true∧v.cells.length=sz∧off+sz≤l.length then some (AV.tuple [],AObj.cells (splice l off v.cells)) else none
  |_=>none
def Zlo (sz e off:Nat)(v:AV):AObj→Option (AV×AObj)
  |.row e' l=>if e'=e∧v.known=true∧v.cells.length=sz∧off+sz≤l.length then some (AV.tuple [],AObj.row e (splice l off v.cells)) else none
  |_=>none
theorem Zny (sz:Nat)(a v:AV):Xb (Zi sz a v):=by
  cases a with
  |ptr t off =>
    refine X3 (Jv t (Zln sz off v) rfl (fun z u y h=>?_)) fun H=>?_
    · unfold Zln at h
      split at h
      · split at h
        · injection h with h
          injection h with h1 h2
          subst h2
          simp
        · cases h
      · cases h
    · unfold Zi YB Zln
      dsimp only
      rcases H[t]? with _|z
      · rfl
      · cases z with
        |cells l =>
                     dsimp only
                     by_cases hc:v.known=true∧v.cells.length=sz∧off+sz≤l.length
                     · rw[if_pos hc,if_pos hc]
                     · rw[if_neg hc,if_neg hc]
        |_=>rfl
  |wp t e off =>
    refine X3 (Jv t (Zlo sz e off v) rfl (fun z u y h=>?_)) fun H=>?_
    · unfold Zlo at h
      split at h
      · split at h
        · injection h with h
          injection h with h1 h2
          subst h2
          simp
        · cases h
      · cases h
    · unfold Zi YB Zlo
      dsimp only
      rcases H[t]? with _|z
      · rfl
      · cases z with
        |row e' l =>
                     dsimp only
                     by_cases hc:e'=e∧v.known=true∧v.cells.length=sz∧off+sz≤l.length
                     · rw[if_pos hc,if_pos hc]
                     · rw[if_neg hc,if_neg hc]
        |_=>rfl
  |_=>exact Zy
theorem Pn (k bytes:Nat)(s:AV)(xs:List AV):Xb (Yc k bytes s xs):=by
  cases s with
  |nils =>
    unfold Yc
    exact Y8 _ (fun _=>Wi _) fun _=>Y8 _ (fun _=>VF (fun n=>AV.vs k (.own n xs.length) xs) _) fun _=>Zy
  |vs k' tok l =>
    unfold Yc
    refine Y8 _ (fun _=>Y8 _ (fun _=>Wi _) fun _=>?_) fun _=>Zy
    cases tok with
    |no=>exact Zy
    |clip=>exact VF (fun n=>AV.vs k (.own n (l.length+xs.length)) (l++xs)) _
    |own t e =>
      refine X3 (Jv t (fun z=>match z with|.tok e'=>if e'=e then some (AV.vs k (.own t (e+xs.length)) (l++xs),AObj.tok (e+xs.length)) else none|_=>none) rfl (fun z u y h=>?_)) fun H=>?_
      · split at h
        · split at h
          · injection h with h
            injection h with h1 h2
            subst h2
            simp
          · cases h
        · cases h
      · dsimp only
        rcases H[t]? with _|z
        · rfl
        · cases z with
          |tok e' =>
                       dsimp only
                       by_cases hc:e'=e
                       · rw[if_pos hc,if_pos hc]
                       · rw[if_neg hc,if_neg hc]
          |_=>rfl
  |_=>exact Zy
theorem ZrY (k bytes:Nat)(s x:AV):Xb (ZS k bytes s x):=by
  unfold ZS
  refine X3 (Zbk (FM k x) fun xs=>Pn k bytes s xs) fun H=>?_
  cases elems k x H <;> rfl
def ZtN (ag:Bool)(k o e len:Nat)(xs:List AV):AObj→Option (AV×AObj)
  |.row e' l=>if e'=e∧l.length=len*k then some (AV.ws ag k o (e+1) (len+xs.length),AObj.row (e+1) (l++(xs.map AV.cells).flatten)) else none
  |_=>none
theorem ZrZ (ag:Bool)(k bytes:Nat)(s:AV)(xs:List AV):Xb (Pm ag k bytes s xs):=by
  cases s with
  |nils =>
    unfold Pm
    exact Y8 _ (fun _=>Wi _) fun _=>Y8 _ (fun _=>VF (fun n=>AV.ws ag k n 0 xs.length) _) fun _=>Zy
  |vs k' tok l =>
    cases tok with
    |clip =>
      unfold Pm
      exact Y8 _ (fun _=>Y8 _ (fun _=>Wi _) fun _=>VF (fun n=>AV.ws ag k n 0 (l.length+xs.length)) _) fun _=>Zy
    |no=>exact X3 (Pn k bytes (.vs k' .no l) xs) fun H=>rfl
    |own t e=>exact X3 (Pn k bytes (.vs k' (.own t e) l) xs) fun H=>rfl
  |ws ag' k' t e len =>
    unfold Pm
    refine Y8 _ (fun _=>Y8 _ (fun _=>Wi _) fun _=>?_) fun _=>Zy
    refine X3 (Jv t (ZtN ag k t e len xs) rfl (fun z u y h=>?_)) fun H=>?_
    · unfold ZtN at h
      split at h
      · split at h
        · injection h with h
          injection h with h1 h2
          subst h2
          simp
        · cases h
      · cases h
    · unfold ZtN
      rcases H[t]? with _|z
      · rfl
      · cases z with
        |row e' l =>
                     dsimp only
                     by_cases hc:e'=e∧l.length=len*k
                     · rw[if_pos hc,if_pos hc]
                     · rw[if_neg hc,if_neg hc]
        |_=>rfl
  |_=>first|exact X3 (Pn k bytes _ xs) fun H=>rfl|exact Zy
theorem Zpn (ag:Bool)(k bytes:Nat)(s x:AV):Xb (NK ag k bytes s x):=by
  unfold NK
  refine X3 (Zbk (FM k x) fun xs=>ZrZ ag k bytes s xs) fun H=>?_
  cases elems k x H <;> rfl
def Zuf (k:Nat)(d:AV)(xs:List AV)(H:Hp):Option (AV×Hp) :=
  match d with
    |.nils=>if xs=[] then some (.int .i64 0,H) else none
    |.vs _ _ _=>if xs=[] then some (.int .i64 0,H) else none
    |.rs _ k' o off len _=>if xs=[] then some (.int .i64 0,H) else if k'=k∧xs.length≤len then match H[o]? with
      |some (.cells cs)=>if off+xs.length*k≤cs.length then some (.int .i64 xs.length,H.set o (.cells (splice cs off (xs.map AV.cells).flatten))) else none
      |_=>none else none
    |_=>none
theorem Zs1 (k:Nat)(d x:AV):Xb (Ly k d x):=by
  have key:∀ xs,Xb (Zuf k d xs):=fun xs=>?_
  · unfold Ly
    refine X3 (Zbk (FM k x) key) fun H=>?_
    cases elems k x H <;> rfl
  unfold Zuf
  cases d with
  |nils=>exact Y8 _ (fun _=>Wi _) fun _=>Zy
  |vs _ _ _=>exact Y8 _ (fun _=>Wi _) fun _=>Zy
  |rs ag k' t off len cap =>
    refine Y8 _ (fun _=>Wi _) fun _=>Y8 _ (fun _=>?_) fun _=>Zy
    refine X3 (Jv t (fun z=>match z with|.cells cs=>if off+xs.length*k≤cs.length then some (AV.int .i64 xs.length,AObj.cells (splice cs off (xs.map AV.cells).flatten)) else none|_=>none) rfl (fun z u y h=>?_)) fun H=>?_
    · split at h
      · split at h
        · injection h with h
          injection h with h1 h2
          subst h2
          simp
        · cases h
      · cases h
    · skip
      rcases H[t]? with _|z
      · rfl
      · cases z with
        |cells l =>
                     dsimp only
                     by_cases hc:off+xs.length*k≤l.length
                     · rw[if_pos hc,if_pos hc]
                     · rw[if_neg hc,if_neg hc]
        |_=>rfl
  |_=>exact Zy
theorem Zs8 (k bytes:Nat)(ag:Bool)(z len cap:AV):Xb (VN k bytes ag z len cap):=by
  unfold VN
  split
  · rename_i n c
    refine Y8 _ (fun _=>Y8 _ (fun _=>?_) fun _=>?_) fun _=>Zy
    · exact VF (fun m=>AV.vs k (.own m 0) []) _
    · exact VF (fun m=>AV.rs ag k m 0 n.toNat c.toNat) _
  · exact Zy
def Ztt (d:TypeDesc)(k v:AV):AObj→Option (AV×AObj)
  |.map es c=>if W4 d k then match YJ k es 0 with
    |some (some (i,_))=>some (AV.tuple [],AObj.map (es.set i (k,v,(es.getD i (.undef,.undef,0)).2.2)) c)
    |some none=>some (AV.tuple [],AObj.map (es++[(k,v,c)]) (c+1))
    |none=>none else none
  |_=>none
theorem Znu (d:TypeDesc)(m k v:AV):Xb (Xi d m k v):=by
  cases m with
  |map t =>
    refine X3 (Jv t (Ztt d k v) rfl (fun z u y h=>?_)) fun H=>?_
    · unfold Ztt at h
      split at h
      · split at h
        · split at h
          · injection h with h
            injection h with h1 h2
            subst h2
            simp
          · injection h with h
            injection h with h1 h2
            subst h2
            simp
          · cases h
        · cases h
      · cases h
    · unfold Xi Ztt
      dsimp only
      rcases H[t]? with _|z
      · rfl
      · cases z with
        |map es c =>
          dsimp only
          cases W4 d k with
          |false=>rfl
          |true =>
          simp only[if_true]
          cases YJ k es 0 with
          |none=>rfl
          |some q=>cases q with
            |none=>rfl
            |some q=>rfl
        |_=>rfl
  |_=>exact Zy
def ZsF (d:TypeDesc)(k:AV):AObj→Option (AV×AObj)
  |.map es c=>if W4 d k then match YJ k es 0 with
    |some (some (i,_))=>some (AV.tuple [],AObj.map (es.eraseIdx i) c)
    |some none=>some (AV.tuple [],AObj.map es c)
    |none=>none else none
  |_=>none
theorem Znt (d:TypeDesc)(m k:AV):Xb (SO d m k):=by
  cases m with
  |map t =>
    refine X3 (Jv t (ZsF d k) rfl (fun z u y h=>?_)) fun H=>?_
    · unfold ZsF at h
      split at h
      · split at h
        · split at h
          · injection h with h
            injection h with h1 h2
            subst h2
            simp
          · injection h with h
            injection h with h1 h2
            subst h2
            simp
          · cases h
        · cases h
      · cases h
    · unfold SO ZsF
      dsimp only
      rcases H[t]? with _|z
      · rfl
      · cases z with
        |map es c =>
          dsimp only
          cases W4 d k with
          |false=>rfl
          |true =>
          simp only[if_true]
          cases YJ k es 0 with
          |none=>rfl
          |some q=>cases q with
            |none=>rfl
            |some q=>rfl
        |_=>rfl
  |_=>exact Zy
theorem Zuy (x:AV):Xb (ZU x):=by
  unfold ZU
  exact Y8 _ (fun _=>VF (fun n=>AV.ptr n 0) _) fun _=>Zy
section
variable {C:Cfg}{call:ZG}
def Wb (call:ZG):Prop:=∀ f args,Xb (call f args)
theorem ZsW (g:List AV→Hp→Option (AV×Hp))(args:List AV):Xb (Zc g args):=by
  intro H v H' h
  have key:H'=H∧∀ H2,Zc g args H2=some (v,H2):=by
    unfold Zc at h ⊢
    split at h
    · split at h
      · split at h
        · injection h with h
          injection h with h1 h2
          subst h1 h2
          exact⟨rfl,fun H2=>rfl⟩
        · cases h
      · cases h
    · cases h
  obtain⟨rfl,h2⟩:=key
  exact⟨Nat.le_refl _,fun o _ ho=>⟨ho,fun x=>h2 _⟩⟩
theorem ZwK {g:List AV→Hp→Option (AV×Hp)}(hg:∀ args,Xb (g args))(args:List AV):Xb (DS g args):=by
  intro H v H' h
  unfold DS at h ⊢
  split at h
  · rename_i v1 H1 hc
    split at h
    · rename_i ht
      have ht:=ZhN _ _ ht
      split at h
      · rename_i v2 hcl
        simp only[Option.some.injEq,Prod.mk.injEq]at h
        obtain⟨rfl,rfl⟩:=h
        refine⟨Nat.le_refl _,fun o ho hf=>⟨hf,fun x=>?_⟩⟩
        have h1:H1[o]?=some .free:=by
          rw[←ht,List.getElem?_take_of_lt ho]at hf
          exact hf
        obtain⟨_,hx⟩:=hg args H v1 H1 hc
        obtain⟨_,hx⟩:=hx o ho h1
        rw[hx x]
        simp only
        have h2:(H1.set o x).take (H.set o x).length=H.set o x:=by
          rw[List.length_set,List.take_set,ht]
        rw[h2,if_pos (Zap _)]
        have h3:Ze (H1.set o x) (H.set o x).length 6 v1=some v2:=by
          rw[List.length_set]
          exact Zii H.length 6 v1 H1 v2 hcl o h1 x
        rw[h3]
      · cases h
    · cases h
  · cases h
theorem Zpo (hc:Wb call)(id:FuncId)(args:List AV):Xb (Xj C call id args):=by
  unfold Xj
  cases C.ext id with
  |some e =>
    simp only
    unfold Zar
    cases Zkt e args with
    |none=>exact Zy
    |some v=>exact Wi v
  |none =>
    cases C.sum id with
    |some g =>
      simp only
      unfold HM
      cases g args with
      |none=>exact Zy
      |some v=>exact Wi v
    |none =>
      simp only
      cases C.eff id with
      |some g=>exact g.frm args
      |none=>exact Y8 _ (fun _=>Y8 _ (fun _=>ZsW _ _) fun _=>Y8 _ (fun _=>ZwK (hc id) args) fun _=>hc id args) fun _=>Zy
theorem Zk3 (hc:Wb call)(f:AV)(args:List AV):Xb (Yr C call f args):=by
  unfold Yr
  split
  · exact Zpo hc _ _
  · exact Zy
theorem ZpY (x:AV):Xb (Jq x):=by
  unfold Jq
  have hr:Rdm (UF x):=by
    unfold UF
    split
    · exact ZtH none
    · exact FM 1 x
  have:Xb fun H=>(match UF x H with|some l=>(match Wg l with|some s=>some (AV.str s,H)|none=>none)|none=>none):=by
    refine X3 (Zbk hr (g:=fun l H=>match Wg l with|some s=>some (AV.str s,H)|none=>none) fun l=>?_) fun H=>?_
    · cases Wg l with
      |none=>exact Zy
      |some s=>exact Wi _
    · cases UF x H <;> rfl
  exact this
theorem ZsE (x:AV):Xb (CP x):=by
  unfold CP
  cases x with
  |str s=>exact VF (fun n=>AV.ws false 1 n 0 s.length) _
  |_=>exact Zy
theorem Zpq (hc:Wb call)(f:AV)(args:List AV):Xb (Xk C call f args):=by
  unfold Xk qC
  split
  · exact Y8 _ (fun _=>Zk3 hc _ _) fun _=>Zy
  · exact Zy
theorem Zs3 (hc:Wb call)(ev:Operand→AV)(op:Op):Xb fun H=>ZH C call ev H op:=by
  cases op with
  |alloc e =>
    simp only[ZH]
    split
    · split
      · exact Y8 _ (fun _=>VF (fun n=>AV.ptr n 0) _) fun _=>Zy
      · exact Y8 _ (fun _=>VF (fun n=>AV.ptr n 0) _) fun _=>Zy
    · exact Zy
  |box e x=>exact Zuy _
  |load t a =>
    simp only[ZH]
    split
    · exact ZoK (Zk5 _ _ _)
    · exact Zy
  |store t a x =>
    simp only[ZH]
    split
    · exact Zny _ _ _
    · exact Zy
  |makeSlice t l c =>
    simp only[ZH]
    split
    · split
      · exact Zs8 _ _ _ _ _ _
      · exact Zy
    · exact Zy
  |convert s d x =>
    simp only[ZH]
    split
    · exact Y8 _ (fun _=>ZpY _) fun _=>Zy
    · exact Y8 _ (fun _=>ZsE _) fun _=>Zy
    · exact Zy
  |makeMap t r =>
    cases r with
    |none=>exact VF (fun n=>AV.map n) _
    |some r=>exact Zy
  |lookup t x k ck =>
    simp only[ZH]
    split
    · split
      · exact ZoK (Zns _ _ _ _ _)
      · exact Zy
    · exact Zy
  |mapUpdate t m k x =>
    simp only[ZH]
    split
    · exact Znu _ _ _ _
    · exact Zy
  |call cl =>
    obtain⟨callee,args,ts⟩:=cl
    cases callee with
    |value f=>exact Y8 _ (fun _=>Zpq hc _ _) fun _=>Zk3 hc _ _
    |invoke r m=>exact Zy
    |builtin b =>
      cases b <;> first|exact Zy|skip
      case append =>
        simp only[ZH]
        split
        · split
          · refine Y8 _ (fun _=>Zy) fun _=>?_
            split
            · refine Y8 _ (fun _=>?_) fun _=>Zy
              split
              · exact Zpn _ _ _ _ _
              · exact ZrY _ _ _ _
            · exact Zy
          · exact Zy
        · exact Zy
      case delete =>
        simp only[ZH]
        split
        · split
          · exact Znt _ _ _
          · exact Zy
        · exact Zy
      case len =>
        simp only[ZH]
        split
        · split
          · exact ZoK (Zs4 _)
          · exact Zy
        · exact Zy
      case copy =>
        simp only[ZH]
        split
        · split
          · split
            · exact Y8 _ (fun _=>Zs1 _ _ _) fun _=>Zy
            · exact Zy
          · exact Zy
        · exact Zy
  |_=>exact Zy
theorem Zw2 (hc:Wb call)(ev:Operand→AV)(fl:Bool)(op:Op):Xb fun H=>Xs C call ev H fl op:=by
  unfold Xs
  cases Y2 C ev op with
  |some v=>exact Wi v
  |none=>exact Y8 _ (fun _=>Zy) fun _=>Zs3 hc ev op
theorem Zvq (hc:Wb call)(ops:Array Oper)(fl:Bool)(o:Oper)(tm:List AV):Xb (Wx C call ops fl o tm):=by
  unfold Wx
  cases WG ops tm o with
  |none=>exact Zy
  |some b =>
    cases b with
    |false=>exact Wi _
    |true=>exact Zw2 hc _ _ _
end
end Go.Am
