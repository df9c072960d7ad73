/-
  THE ABSTRACT MACHINE, part Frm: a place that is free before and behind a step has no part in it.
-/
import Derived.Test.YtpahcdhligjdiaaKmKx
namespace Go.Am

def Rdm {α:Type} (r:Hp→Option α):Prop:=∀ H v,r H=some v→∀ o,H[o]?=some .free→∀ x,r (H.set o x)=some v

theorem free_of_set {H:Hp} {o t:Nat} {y:AObj} (h:(H.set t y)[o]?=some .free) (hy:y ≠ .free):o ≠ t∧H[o]?=some .free:=by
  by_cases e:t=o
  · subst e
    exfalso
    by_cases hl:t < H.length
    · simp [hl] at h;exact hy h
    · simp [hl] at h
  · rw [List.getElem?_set_ne e] at h
    exact ⟨fun h'=>e h'.symm,h⟩
theorem free_of_push {H l:Hp} {o:Nat} (ho:o < H.length) (h:(H++l)[o]?=some .free):H[o]?=some .free∧∀ x,(H++l).set o x=H.set o x++l:=by
  rw [List.getElem?_append_left ho] at h
  exact ⟨h,fun x=>List.set_append_left _ _ ho⟩
theorem get_beside {H:Hp} {o t:Nat} {z:AObj} (h:H[o]?=some .free) (ht:H[t]?=some z) (hz:z ≠ .free) (x:AObj):o ≠ t∧(H.set o x)[t]?=some z:=by
  have hne:o ≠ t:=by
    rintro rfl
    rw [h] at ht
    injection ht with ht
    exact hz ht.symm
  exact ⟨hne,by rw [List.getElem?_set_ne hne];exact ht⟩

theorem rd_fr {α:Type} {r:Hp→Option α} (h:Rdm r):Frm fun H=>(r H).map (·,H):=by
  intro H v H' hg
  cases hr:r H with
  | none=>simp [hr] at hg
  | some u =>
    simp [hr] at hg
    obtain ⟨rfl,rfl⟩:=hg
    refine ⟨Nat.le_refl _,fun o _ ho=>⟨ho,fun x=>?_⟩⟩
    simp [h H u hr o ho x]
theorem rd_const {α:Type} (r:Option α):Rdm fun _=>r:=fun _ _ h _ _ _=>h
theorem fr_none {α:Type}:Frm fun _=>(none:Option (α × Hp)):=fun _ _ _ h=>by cases h
theorem fr_still {α:Type} (v:α):Frm fun H=>some (v,H):=by
  intro H v H' h
  injection h with h
  injection h with h1 h2
  subst h1 h2
  exact ⟨Nat.le_refl _,fun o _ ho=>⟨ho,fun x=>rfl⟩⟩
theorem fr_push {α:Type} (g:Nat→α) (l:Hp):Frm fun H=>some (g H.length,H++l):=by
  intro H v H' h
  injection h with h
  injection h with h1 h2
  subst h1 h2
  refine ⟨by simp,fun o ho hf=>?_⟩
  obtain ⟨h1,h2⟩:=free_of_push ho hf
  exact ⟨h1,fun x=>by simp [h2]⟩
theorem fr_bind {α β:Type} {r:Hp→Option α} {g:α→Hp→Option (β × Hp)} (hr:Rdm r) (hg:∀ a,Frm (g a)):Frm fun H=>match r H with | some a=>g a H | none=>none:=by
  intro H v H' h
  simp only at h
  cases ha:r H with
  | none=>simp [ha] at h
  | some a =>
    simp only [ha] at h
    obtain ⟨h1,h2⟩:=hg a H v H' h
    refine ⟨h1,fun o ho hf=>?_⟩
    obtain ⟨h3,h4⟩:=h2 o ho hf
    exact ⟨h3,fun x=>by simp only [hr H a ha o h3 x];exact h4 x⟩
theorem fr_congr {α:Type} {g g':Hp→Option (α × Hp)} (h:Frm g) (he:∀ H,g' H=g H):Frm g':=by
  intro H v H' hh
  rw [he] at hh
  obtain ⟨h1,h2⟩:=h H v H' hh
  exact ⟨h1,fun o ho hf=>⟨(h2 o ho hf).1,fun x=>by rw [he];exact (h2 o ho hf).2 x⟩⟩
theorem fr_ite {α:Type} (c:Prop) [Decidable c] {g g':Hp→Option (α × Hp)} (h:c→Frm g) (h':¬ c→Frm g'):Frm fun H=>if c then g H else g' H:=by
  by_cases hc:c
  · exact fr_congr (h hc) fun H=>if_pos hc
  · exact fr_congr (h' hc) fun H=>if_neg hc
theorem fr_write {α:Type} (t:Nat) (f:AObj→Option (α × AObj)) (hf:f .free=none) (hy:∀ z v y,f z=some (v,y)→y ≠ .free):Frm fun H=>match H[t]? with | some z=>(match f z with | some (v,y)=>some (v,H.set t y) | none=>none) | none=>none:=by
  intro H v H' h
  simp only at h
  cases hz:H[t]? with
  | none=>simp [hz] at h
  | some z =>
    simp only [hz] at h
    cases hfz:f z with
    | none=>simp [hfz] at h
    | some p =>
      obtain ⟨u,y⟩:=p
      simp only [hfz,Option.some.injEq,Prod.mk.injEq] at h
      obtain ⟨rfl,rfl⟩:=h
      refine ⟨by simp,fun o ho hfr=>?_⟩
      obtain ⟨h1,h2⟩:=free_of_set hfr (hy z _ y hfz)
      refine ⟨h2,fun x=>?_⟩
      have hz':z ≠ .free:=by rintro rfl;rw [hf] at hfz;cases hfz
      obtain ⟨h3,h4⟩:=get_beside h2 hz hz' x
      simp only [h4,hfz]
      rw [List.set_comm _ _ h3]

theorem aload_rd (g:Bool) (sz:Nat) (a:AV):Rdm (aload g sz a):=by
  intro H v h o ho x
  cases a with
  | ptr t off =>
    simp only [aload] at h ⊢
    cases hz:H[t]? with
    | none=>simp [hz] at h
    | some z =>
      have hz':z ≠ .free:=by rintro rfl;simp [hz] at h
      rw [(get_beside ho hz hz' x).2]
      rw [hz] at h
      exact h
  | wp t e off =>
    simp only [aload] at h ⊢
    cases hz:H[t]? with
    | none=>simp [hz] at h
    | some z =>
      have hz':z ≠ .free:=by rintro rfl;simp [hz] at h
      rw [(get_beside ho hz hz' x).2]
      rw [hz] at h
      exact h
  | _=>exact h
theorem elems_rd (k:Nat) (a:AV):Rdm (elems k a):=by
  intro H v h o ho x
  cases a with
  | rs ag k' t off len cap =>
    simp only [elems] at h ⊢
    cases hz:H[t]? with
    | none=>simp [hz] at h
    | some z =>
      have hz':z ≠ .free:=by rintro rfl;simp [hz] at h
      rw [(get_beside ho hz hz' x).2]
      rw [hz] at h
      exact h
  | ws ag k' t e len =>
    simp only [elems] at h ⊢
    cases hz:H[t]? with
    | none=>simp [hz] at h
    | some z =>
      have hz':z ≠ .free:=by rintro rfl;simp [hz] at h
      rw [(get_beside ho hz hz' x).2]
      rw [hz] at h
      exact h
  | _=>exact h
theorem entries_rd (a:AV):Rdm (entries a):=by
  intro H v h o ho x
  cases a with
  | map t =>
    simp only [entries] at h ⊢
    cases hz:H[t]? with
    | none=>simp [hz] at h
    | some z =>
      have hz':z ≠ .free:=by rintro rfl;simp [hz] at h
      rw [(get_beside ho hz hz' x).2]
      rw [hz] at h
      exact h
  | _=>exact h
theorem alookup_rd (d:TypeDesc) (z:AV) (ck:Bool) (a k:AV):Rdm (alookup d z ck a k):=by
  intro H v h o ho x
  unfold alookup at h ⊢
  cases he:entries a H with
  | none=>simp [he] at h
  | some es=>rw [entries_rd a H es he o ho x];rw [he] at h;exact h
theorem alenM_rd (a:AV):Rdm (alenM a):=by
  intro H v h o ho x
  unfold alenM at h ⊢
  cases he:entries a H with
  | none=>simp [he] at h
  | some es=>rw [entries_rd a H es he o ho x];rw [he] at h;exact h
theorem closeV_rd (n:Nat):∀ (f:Nat) (a:AV),Rdm fun H=>closeV H n f a:=by
  intro f
  induction f with
  | zero=>intro a H v h;cases h
  | succ f ih =>
    intro a H v h o ho x
    have lst:∀ l l':List AV,l.mapM (closeV H n f)=some l'→l.mapM (closeV (H.set o x) n f)=some l':=fun l l' hl=>mapM_le (fun a b hab=>ih a H b hab o ho x) hl
    cases a with
    | vp cells =>
      simp only [closeV] at h ⊢
      cases hm:cells.mapM (closeV H n f) with
      | none=>simp [hm] at h
      | some l=>rw [lst _ _ hm];rw [hm] at h;exact h
    | vs k tok l =>
      simp only [closeV] at h ⊢
      cases hm:l.mapM (closeV H n f) with
      | none=>simp [hm] at h
      | some l'=>rw [lst _ _ hm];rw [hm] at h;exact h
    | rs ag k t off len cap =>
      simp only [closeV] at h ⊢
      split at h
      · rename_i hlt;rw [if_pos hlt];exact h
      · rename_i hlt
        rw [if_neg hlt]
        cases hel:elems k (.rs ag k t off len cap) H with
        | none=>simp [hel] at h
        | some l =>
          rw [elems_rd _ _ H l hel o ho x]
          simp only [hel] at h ⊢
          cases hm:l.mapM (closeV H n f) with
          | none=>simp [hm] at h
          | some l'=>rw [lst _ _ hm];rw [hm] at h;exact h
    | ws ag k t e len =>
      simp only [closeV] at h ⊢
      split at h
      · rename_i hlt;rw [if_pos hlt];exact h
      · rename_i hlt
        rw [if_neg hlt]
        cases hel:elems k (.ws ag k t e len) H with
        | none=>simp [hel] at h
        | some l =>
          rw [elems_rd _ _ H l hel o ho x]
          simp only [hel] at h ⊢
          cases hm:l.mapM (closeV H n f) with
          | none=>simp [hm] at h
          | some l'=>rw [lst _ _ hm];rw [hm] at h;exact h
    | fn fn a b =>
      simp only [closeV] at h ⊢
      cases hm:a.mapM (closeV H n f) with
      | none=>simp [hm] at h
      | some l =>
        cases hm2:b.mapM (closeV H n f) with
        | none=>simp [hm,hm2] at h
        | some l2=>rw [lst _ _ hm,lst _ _ hm2];rw [hm,hm2] at h;exact h
    | iface t v' =>
      simp only [closeV] at h ⊢
      cases hm:closeV H n f v' with
      | none=>simp [hm] at h
      | some l =>
        have h3:closeV (H.set o x) n f v'=some l:=ih v' H l hm o ho x
        rw [h3];rw [hm] at h;exact h
    | agg l =>
      simp only [closeV] at h ⊢
      cases hm:l.mapM (closeV H n f) with
      | none=>simp [hm] at h
      | some l'=>rw [lst _ _ hm];rw [hm] at h;exact h
    | tuple l =>
      simp only [closeV] at h ⊢
      cases hm:l.mapM (closeV H n f) with
      | none=>simp [hm] at h
      | some l'=>rw [lst _ _ hm];rw [hm] at h;exact h
    | _=>exact h

def storeF (sz off:Nat) (v:AV):AObj→Option (AV × AObj)
  | .cells l=>if v.known=true∧v.cells.length=sz∧off+sz≤l.length then some (AV.tuple [],AObj.cells (splice l off v.cells)) else none
  | _=>none
def storeW (sz e off:Nat) (v:AV):AObj→Option (AV × AObj)
  | .row e' l=>if e'=e∧v.known=true∧v.cells.length=sz∧off+sz≤l.length then some (AV.tuple [],AObj.row e (splice l off v.cells)) else none
  | _=>none
theorem astoreU_fr (sz:Nat) (a v:AV):Frm (astoreU sz a v):=by
  cases a with
  | ptr t off =>
    refine fr_congr (fr_write t (storeF sz off v) rfl (fun z u y h=>?_)) fun H=>?_
    · unfold storeF at h
      split at h
      · split at h
        · injection h with h
          injection h with h1 h2
          subst h2
          simp
        · cases h
      · cases h
    · unfold astoreU astore storeF
      dsimp only
      rcases H[t]? with _ | z
      · rfl
      · cases z with
        | cells l =>
                     dsimp only
                     by_cases hc:v.known=true∧v.cells.length=sz∧off+sz≤l.length
                     · rw [if_pos hc,if_pos hc]
                     · rw [if_neg hc,if_neg hc]
        | _=>rfl
  | wp t e off =>
    refine fr_congr (fr_write t (storeW sz e off v) rfl (fun z u y h=>?_)) fun H=>?_
    · unfold storeW at h
      split at h
      · split at h
        · injection h with h
          injection h with h1 h2
          subst h2
          simp
        · cases h
      · cases h
    · unfold astoreU astore storeW
      dsimp only
      rcases H[t]? with _ | z
      · rfl
      · cases z with
        | row e' l =>
                     dsimp only
                     by_cases hc:e'=e∧v.known=true∧v.cells.length=sz∧off+sz≤l.length
                     · rw [if_pos hc,if_pos hc]
                     · rw [if_neg hc,if_neg hc]
        | _=>rfl
  | _=>exact fr_none
theorem aappend_fr (k bytes:Nat) (s:AV) (xs:List AV):Frm (aappend k bytes s xs):=by
  cases s with
  | nils =>
    unfold aappend
    exact fr_ite _ (fun _=>fr_still _) fun _=>fr_ite _ (fun _=>fr_push (fun n=>AV.vs k (.own n xs.length) xs) _) fun _=>fr_none
  | vs k' tok l =>
    unfold aappend
    refine fr_ite _ (fun _=>fr_ite _ (fun _=>fr_still _) fun _=>?_) fun _=>fr_none
    cases tok with
    | no=>exact fr_none
    | clip=>exact fr_push (fun n=>AV.vs k (.own n (l.length+xs.length)) (l++xs)) _
    | own t e =>
      refine fr_congr (fr_write t (fun z=>match z with | .tok e'=>if e'=e then some (AV.vs k (.own t (e+xs.length)) (l++xs),AObj.tok (e+xs.length)) else none | _=>none) rfl (fun z u y h=>?_)) fun H=>?_
      · split at h
        · split at h
          · injection h with h
            injection h with h1 h2
            subst h2
            simp
          · cases h
        · cases h
      · dsimp only
        rcases H[t]? with _ | z
        · rfl
        · cases z with
          | tok e' =>
                       dsimp only
                       by_cases hc:e'=e
                       · rw [if_pos hc,if_pos hc]
                       · rw [if_neg hc,if_neg hc]
          | _=>rfl
  | _=>exact fr_none
theorem aappE_fr (k bytes:Nat) (s x:AV):Frm (aappE k bytes s x):=by
  unfold aappE
  refine fr_congr (fr_bind (elems_rd k x) fun xs=>aappend_fr k bytes s xs) fun H=>?_
  cases elems k x H <;> rfl
def rowF (ag:Bool) (k o e len:Nat) (xs:List AV):AObj→Option (AV × AObj)
  | .row e' l=>if e'=e∧len * k≤l.length then some (AV.ws ag k o (e+1) (len+xs.length),AObj.row (e+1) (cutL (len * k) l++(xs.map AV.cells).flatten)) else none
  | _=>none
theorem aappL_fr (ag:Bool) (k bytes:Nat) (s:AV) (xs:List AV):Frm (aappL ag k bytes s xs):=by
  cases s with
  | nils =>
    unfold aappL
    exact fr_ite _ (fun _=>fr_still _) fun _=>fr_ite _ (fun _=>fr_push (fun n=>AV.ws ag k n 0 xs.length) _) fun _=>fr_none
  | vs k' tok l =>
    cases tok with
    | clip =>
      unfold aappL
      exact fr_ite _ (fun _=>fr_ite _ (fun _=>fr_still _) fun _=>fr_push (fun n=>AV.ws ag k n 0 (l.length+xs.length)) _) fun _=>fr_none
    | no=>exact fr_congr (aappend_fr k bytes (.vs k' .no l) xs) fun H=>rfl
    | own t e=>exact fr_congr (aappend_fr k bytes (.vs k' (.own t e) l) xs) fun H=>rfl
  | ws ag' k' t e len =>
    unfold aappL
    refine fr_ite _ (fun _=>fr_ite _ (fun _=>fr_still _) fun _=>?_) fun _=>fr_none
    refine fr_congr (fr_write t (rowF ag k t e len xs) rfl (fun z u y h=>?_)) fun H=>?_
    · unfold rowF at h
      split at h
      · split at h
        · injection h with h
          injection h with h1 h2
          subst h2
          simp
        · cases h
      · cases h
    · unfold rowF
      rcases H[t]? with _ | z
      · rfl
      · cases z with
        | row e' l =>
                     dsimp only
                     by_cases hc:e'=e∧len * k≤l.length
                     · rw [if_pos hc,if_pos hc]
                     · rw [if_neg hc,if_neg hc]
        | _=>rfl
  | _=>first | exact fr_congr (aappend_fr k bytes _ xs) fun H=>rfl | exact fr_none
theorem aappEL_fr (ag:Bool) (k bytes:Nat) (s x:AV):Frm (aappEL ag k bytes s x):=by
  unfold aappEL
  refine fr_congr (fr_bind (elems_rd k x) fun xs=>aappL_fr ag k bytes s xs) fun H=>?_
  cases elems k x H <;> rfl
def copyF (k:Nat) (d:AV) (xs:List AV) (H:Hp):Option (AV × Hp) :=
  match d with
    | .nils=>if xs=[] then some (.int .i64 0,H) else none
    | .vs _ _ _=>if xs=[] then some (.int .i64 0,H) else none
    | .rs _ k' o off len _=>if xs=[] then some (.int .i64 0,H) else if k'=k∧xs.length≤len then match H[o]? with
      | some (.cells cs)=>if off+xs.length * k≤cs.length then some (.int .i64 xs.length,H.set o (.cells (splice cs off (xs.map AV.cells).flatten))) else none
      | _=>none else none
    | _=>none
theorem acopy_fr (k:Nat) (d x:AV):Frm (acopy k d x):=by
  have key:∀ xs,Frm (copyF k d xs):=fun xs=>?_
  · unfold acopy
    refine fr_congr (fr_bind (elems_rd k x) key) fun H=>?_
    cases elems k x H <;> rfl
  unfold copyF
  cases d with
  | nils=>exact fr_ite _ (fun _=>fr_still _) fun _=>fr_none
  | vs _ _ _=>exact fr_ite _ (fun _=>fr_still _) fun _=>fr_none
  | rs ag k' t off len cap =>
    refine fr_ite _ (fun _=>fr_still _) fun _=>fr_ite _ (fun _=>?_) fun _=>fr_none
    refine fr_congr (fr_write t (fun z=>match z with | .cells cs=>if off+xs.length * k≤cs.length then some (AV.int .i64 xs.length,AObj.cells (splice cs off (xs.map AV.cells).flatten)) else none | _=>none) rfl (fun z u y h=>?_)) fun H=>?_
    · split at h
      · split at h
        · injection h with h
          injection h with h1 h2
          subst h2
          simp
        · cases h
      · cases h
    · skip
      rcases H[t]? with _ | z
      · rfl
      · cases z with
        | cells l =>
                     dsimp only
                     by_cases hc:off+xs.length * k≤l.length
                     · rw [if_pos hc,if_pos hc]
                     · rw [if_neg hc,if_neg hc]
        | _=>rfl
  | _=>exact fr_none
theorem amake_fr (k bytes:Nat) (ag:Bool) (z len cap:AV):Frm (amake k bytes ag z len cap):=by
  unfold amake
  split
  · rename_i n c
    refine fr_ite _ (fun _=>fr_ite _ (fun _=>?_) fun _=>?_) fun _=>fr_none
    · exact fr_push (fun m=>AV.vs k (if c=0 then .clip else .own m 0) []) _
    · exact fr_push (fun m=>AV.rs ag k m 0 n.toNat c.toNat) _
  · exact fr_none
def mapF (d:TypeDesc) (k v:AV):AObj→Option (AV × AObj)
  | .map es c=>if keyOk d k then match findK k es 0 with
    | some (some (i,_))=>some (AV.tuple [],AObj.map (es.set i (k,v,(es.getD i (.undef,.undef,0)).2.2)) c)
    | some none=>some (AV.tuple [],AObj.map (es++[(k,v,c)]) (c+1))
    | none=>none else none
  | _=>none
theorem amapSet_fr (d:TypeDesc) (m k v:AV):Frm (amapSet d m k v):=by
  cases m with
  | map t =>
    refine fr_congr (fr_write t (mapF d k v) rfl (fun z u y h=>?_)) fun H=>?_
    · unfold mapF at h
      split at h
      · split at h
        · split at h
          · injection h with h
            injection h with h1 h2
            subst h2
            simp
          · injection h with h
            injection h with h1 h2
            subst h2
            simp
          · cases h
        · cases h
      · cases h
    · unfold amapSet mapF
      dsimp only
      rcases H[t]? with _ | z
      · rfl
      · cases z with
        | map es c =>
          dsimp only
          cases keyOk d k with
          | false=>rfl
          | true =>
          simp only [if_true]
          cases findK k es 0 with
          | none=>rfl
          | some q=>cases q with
            | none=>rfl
            | some q=>rfl
        | _=>rfl
  | _=>exact fr_none
def delF (d:TypeDesc) (k:AV):AObj→Option (AV × AObj)
  | .map es c=>if keyOk d k then match findK k es 0 with
    | some (some (i,_))=>some (AV.tuple [],AObj.map (es.eraseIdx i) c)
    | some none=>some (AV.tuple [],AObj.map es c)
    | none=>none else none
  | _=>none
theorem amapDel_fr (d:TypeDesc) (m k:AV):Frm (amapDel d m k):=by
  cases m with
  | map t =>
    refine fr_congr (fr_write t (delF d k) rfl (fun z u y h=>?_)) fun H=>?_
    · unfold delF at h
      split at h
      · split at h
        · split at h
          · injection h with h
            injection h with h1 h2
            subst h2
            simp
          · injection h with h
            injection h with h1 h2
            subst h2
            simp
          · cases h
        · cases h
      · cases h
    · unfold amapDel delF
      dsimp only
      rcases H[t]? with _ | z
      · rfl
      · cases z with
        | map es c =>
          dsimp only
          cases keyOk d k with
          | false=>rfl
          | true =>
          simp only [if_true]
          cases findK k es 0 with
          | none=>rfl
          | some q=>cases q with
            | none=>rfl
            | some q=>rfl
        | _=>rfl
  | _=>exact fr_none
theorem abox_fr (x:AV):Frm (abox x):=by
  unfold abox
  exact fr_ite _ (fun _=>fr_push (fun n=>AV.ptr n 0) _) fun _=>fr_none

section
variable {C:Cfg} {call:CallF}
def Framed (call:CallF):Prop:=∀ f args,Frm (call f args)

theorem flatC_fr (g:List AV→Hp→Option (AV × Hp)) (args:List AV):Frm (flatC g args):=by
  intro H v H' h
  have key:H'=H∧∀ H2,flatC g args H2=some (v,H2):=by
    unfold flatC at h ⊢
    split at h
    · split at h
      · split at h
        · injection h with h
          injection h with h1 h2
          subst h1 h2
          exact ⟨rfl,fun H2=>rfl⟩
        · cases h
      · cases h
    · cases h
  obtain ⟨rfl,h2⟩:=key
  exact ⟨Nat.le_refl _,fun o _ ho=>⟨ho,fun x=>h2 _⟩⟩
theorem roC_fr {g:List AV→Hp→Option (AV × Hp)} (hg:∀ args,Frm (g args)) (args:List AV):Frm (roC g args):=by
  intro H v H' h
  unfold roC at h ⊢
  split at h
  · rename_i v1 H1 hc
    split at h
    · rename_i ht
      have ht:=eqbH_eq _ _ ht
      split at h
      · rename_i v2 hcl
        simp only [Option.some.injEq,Prod.mk.injEq] at h
        obtain ⟨rfl,rfl⟩:=h
        refine ⟨Nat.le_refl _,fun o ho hf=>⟨hf,fun x=>?_⟩⟩
        have h1:H1[o]?=some .free:=by
          rw [← ht,List.getElem?_take_of_lt ho] at hf
          exact hf
        obtain ⟨_,hx⟩:=hg args H v1 H1 hc
        obtain ⟨_,hx⟩:=hx o ho h1
        rw [hx x]
        simp only
        have h2:(H1.set o x).take (H.set o x).length=H.set o x:=by
          rw [List.length_set,List.take_set,ht]
        rw [h2,if_pos (eqbH_refl _)]
        have h3:closeV (H1.set o x) (H.set o x).length 400 v1=some v2:=by
          rw [List.length_set]
          exact closeV_rd H.length 400 v1 H1 v2 hcl o h1 x
        rw [h3]
      · cases h
    · cases h
  · cases h
theorem groC_fr {g:List AV→Hp→Option (AV × Hp)} (hg:∀ args,Frm (g args)) (args:List AV):Frm (groC g args):=by
  intro H v H' h
  unfold groC at h ⊢
  split at h
  · rename_i v1 H1 hc
    split at h
    · rename_i ht
      have ht:=eqbH_eq _ _ ht
      simp only [Option.some.injEq,Prod.mk.injEq] at h
      obtain ⟨rfl,rfl⟩:=h
      obtain ⟨hl,hx⟩:=hg args H v1 H1 hc
      refine ⟨hl,fun o ho hf=>?_⟩
      obtain ⟨h1,h2⟩:=hx o ho hf
      refine ⟨h1,fun x=>?_⟩
      rw [h2 x]
      simp only
      have h3:(H1.set o x).take (H.set o x).length=H.set o x:=by
        rw [List.length_set,List.take_set,ht]
      rw [h3,if_pos (eqbH_refl _)]
    · cases h
  · cases h
theorem acallF_fr (hc:Framed call) (id:FuncId) (args:List AV):Frm (acallF C call id args):=by
  unfold acallF
  cases C.ext id with
  | some e =>
    simp only
    unfold extC
    cases extA e args with
    | none=>exact fr_none
    | some v=>exact fr_still v
  | none =>
    cases C.sum id with
    | some g =>
      simp only
      unfold sumC
      cases g args with
      | none=>exact fr_none
      | some v=>exact fr_still v
    | none =>
      simp only
      cases C.eff id with
      | some g=>exact g.frm args
      | none=>exact fr_ite _ (fun _=>fr_ite _ (fun _=>flatC_fr _ _) fun _=>fr_ite _ (fun _=>roC_fr (hc id) args) fun _=>fr_ite _ (fun _=>groC_fr (hc id) args) fun _=>hc id args) fun _=>fr_none
theorem acall_fr (hc:Framed call) (f:AV) (args:List AV):Frm (acall C call f args):=by
  unfold acall
  split
  · exact acallF_fr hc _ _
  · exact fr_none

theorem cvStrH_fr (x:AV):Frm (cvStrH x):=by
  unfold cvStrH
  have hr:Rdm (elemsS x):=by
    unfold elemsS
    split
    · exact rd_const none
    · exact elems_rd 1 x
  have:Frm fun H=>(match elemsS x H with | some l=>(match bytesOf l with | some s=>some (AV.str s,H) | none=>none) | none=>none):=by
    refine fr_congr (fr_bind hr (g:=fun l H=>match bytesOf l with | some s=>some (AV.str s,H) | none=>none) fun l=>?_) fun H=>?_
    · cases bytesOf l with
      | none=>exact fr_none
      | some s=>exact fr_still _
    · cases elemsS x H <;> rfl
  exact this
theorem cvRow_fr (x:AV):Frm (cvRow x):=by
  unfold cvRow
  cases x with
  | str s=>exact fr_push (fun n=>AV.ws false 1 n 0 s.length) _
  | _=>exact fr_none
theorem acallQ_fr (hc:Framed call) (f:AV) (args:List AV):Frm (acallQ C call f args):=by
  unfold acallQ qC
  split
  · exact fr_ite _ (fun _=>acall_fr hc _ _) fun _=>fr_none
  · exact fr_none
theorem aheap_fr (hc:Framed call) (ev:Operand→AV) (op:Op):Frm fun H=>aheap C call ev H op:=by
  cases op with
  | alloc e =>
    simp only [aheap]
    split
    · split
      · exact fr_ite _ (fun _=>fr_push (fun n=>AV.ptr n 0) _) fun _=>fr_none
      · exact fr_ite _ (fun _=>fr_push (fun n=>AV.ptr n 0) _) fun _=>fr_none
    · exact fr_none
  | box e x=>exact abox_fr _
  | load t a =>
    simp only [aheap]
    split
    · exact rd_fr (aload_rd _ _ _)
    · exact fr_none
  | store t a x =>
    simp only [aheap]
    split
    · exact fr_ite _ (fun _=>astoreU_fr _ _ _) fun _=>fr_none
    · exact fr_none
  | makeSlice t l c =>
    simp only [aheap]
    split
    · split
      · exact amake_fr _ _ _ _ _ _
      · exact fr_none
    · exact fr_none
  | convert s d x =>
    simp only [aheap]
    split
    · exact fr_ite _ (fun _=>cvStrH_fr _) fun _=>fr_none
    · exact fr_ite _ (fun _=>cvRow_fr _) fun _=>fr_none
    · exact fr_none
  | makeMap t r =>
    cases r with
    | none=>exact fr_push (fun n=>AV.map n) _
    | some r=>exact fr_none
  | lookup t x k ck =>
    simp only [aheap]
    split
    · split
      · exact rd_fr (alookup_rd _ _ _ _ _)
      · exact fr_none
    · exact fr_none
  | mapUpdate t m k x =>
    simp only [aheap]
    split
    · exact amapSet_fr _ _ _ _
    · exact fr_none
  | insert t m k x =>
    simp only [aheap]
    split
    · exact amapSet_fr _ _ _ _
    · exact fr_none
  | call cl =>
    obtain ⟨callee,args,ts⟩:=cl
    cases callee with
    | value f=>exact fr_ite _ (fun _=>acallQ_fr hc _ _) fun _=>acall_fr hc _ _
    | invoke r m =>
      simp only [aheap]
      unfold ainv
      split
      · split
        · exact acall_fr hc _ _
        · exact fr_none
      · exact fr_none
    | builtin b =>
      cases b <;> first | exact fr_none | skip
      case append =>
        simp only [aheap]
        split
        · split
          · refine fr_ite _ (fun _=>fr_none) fun _=>?_
            split
            · refine fr_ite _ (fun _=>?_) fun _=>fr_none
              split
              · exact aappEL_fr _ _ _ _ _
              · exact aappE_fr _ _ _ _
            · exact fr_none
          · exact fr_none
        · exact fr_none
      case delete =>
        simp only [aheap]
        split
        · split
          · exact amapDel_fr _ _ _
          · exact fr_none
        · exact fr_none
      case len =>
        simp only [aheap]
        split
        · split
          · exact rd_fr (alenM_rd _)
          · exact fr_none
        · exact fr_none
      case copy =>
        simp only [aheap]
        split
        · split
          · split
            · exact fr_ite _ (fun _=>acopy_fr _ _ _) fun _=>fr_none
            · exact fr_none
          · exact fr_none
        · exact fr_none
  | _=>exact fr_none
theorem aop_fr (hc:Framed call) (ev:Operand→AV) (fl:Bool) (op:Op):Frm fun H=>aop C call ev H fl op:=by
  unfold aop
  cases apure C ev op with
  | some v=>exact fr_still v
  | none=>exact fr_ite _ (fun _=>fr_none) fun _=>aheap_fr hc ev op
theorem oVal_fr (hc:Framed call) (ops:Array Oper) (fl:Bool) (o:Oper) (tm:List AV):Frm (oVal C call ops fl o tm):=by
  unfold oVal
  cases awanted ops tm o with
  | none=>exact fr_none
  | some b =>
    cases b with
    | false=>exact fr_still _
    | true=>exact aop_fr hc _ _ _
end
end Go.Am
