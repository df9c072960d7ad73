/-
  THE ABSTRACT MACHINE, part Frm: a place that is free before and Zbz a step has no part in it.
-/
import Derived.Test.YtehanadfidoodaaGreatDoorEmKx
namespace Go.Am

def Rdm {α:Type} (r:Hp→Option α):Prop:=∀ H v,r H=some v→∀ o,H[o]?=some .free→∀ x,r (H.set o x)=some v

theorem Zks {H:Hp} {o t:Nat} {y:AObj} (h:(H.set t y)[o]?=some .free) (hy:y ≠ .free):o ≠ t∧H[o]?=some .free:=by
  by_cases e:t=o
  · subst e
    exfalso
    by_cases hl:t < H.length
    · simp [hl] at h;exact hy h
    · simp [hl] at h
  · rw [List.getElem?_set_ne e] at h
    exact ⟨fun h'=>e h'.symm,h⟩
theorem ZtP {H l:Hp} {o:Nat} (ho:o < H.length) (h:(H++l)[o]?=some .free):H[o]?=some .free∧∀ x,(H++l).set o x=H.set o x++l:=by
  rw [List.getElem?_append_left ho] at h
  exact ⟨h,fun x=>List.set_append_left _ _ ho⟩
theorem Zgp {H:Hp} {o t:Nat} {z:AObj} (h:H[o]?=some .free) (ht:H[t]?=some z) (hz:z ≠ .free) (x:AObj):o ≠ t∧(H.set o x)[t]?=some z:=by
  have hne:o ≠ t:=by
    rintro rfl
    rw [h] at ht
    injection ht with ht
    exact hz ht.symm
  exact ⟨hne,by rw [List.getElem?_set_ne hne];exact ht⟩

theorem ZEP {α:Type} {r:Hp→Option α} (h:Rdm r):Frm fun H=>(r H).map (·,H):=by
  intro H v H' hg
  cases hr:r H with
  | none=>simp [hr] at hg
  | some u =>
    simp [hr] at hg
    obtain ⟨rfl,rfl⟩:=hg
    refine ⟨Nat.le_refl _,fun o _ ho=>⟨ho,fun x=>?_⟩⟩
    simp [h H u hr o ho x]
theorem ZJs {α:Type} (r:Option α):Rdm fun _=>r:=fun _ _ h _ _ _=>h
theorem Zak {α:Type}:Frm fun _=>(none:Option (α × Hp)):=fun _ _ _ h=>by cases h
theorem Zcu {α:Type} (v:α):Frm fun H=>some (v,H):=by
  intro H v H' h
  injection h with h
  injection h with h1 h2
  subst h1 h2
  exact ⟨Nat.le_refl _,fun o _ ho=>⟨ho,fun x=>rfl⟩⟩
theorem ZdI {α:Type} (g:Nat→α) (l:Hp):Frm fun H=>some (g H.length,H++l):=by
  intro H v H' h
  injection h with h
  injection h with h1 h2
  subst h1 h2
  refine ⟨by simp,fun o ho hf=>?_⟩
  obtain ⟨h1,h2⟩:=ZtP ho hf
  exact ⟨h1,fun x=>by simp [h2]⟩
theorem Zut {α β:Type} {r:Hp→Option α} {g:α→Hp→Option (β × Hp)} (hr:Rdm r) (hg:∀ a,Frm (g a)):Frm fun H=>match r H with | some a=>g a H | none=>none:=by
  intro H v H' h
  simp only at h
  cases ha:r H with
  | none=>simp [ha] at h
  | some a =>
    simp only [ha] at h
    obtain ⟨h1,h2⟩:=hg a H v H' h
    refine ⟨h1,fun o ho hf=>?_⟩
    obtain ⟨h3,h4⟩:=h2 o ho hf
    exact ⟨h3,fun x=>by simp only [hr H a ha o h3 x];exact h4 x⟩
theorem Zbt {α:Type} {g g':Hp→Option (α × Hp)} (h:Frm g) (he:∀ H,g' H=g H):Frm g':=by
  intro H v H' hh
  rw [he] at hh
  obtain ⟨h1,h2⟩:=h H v H' hh
  exact ⟨h1,fun o ho hf=>⟨(h2 o ho hf).1,fun x=>by rw [he];exact (h2 o ho hf).2 x⟩⟩
theorem ZaN {α:Type} (c:Prop) [Decidable c] {g g':Hp→Option (α × Hp)} (h:c→Frm g) (h':¬ c→Frm g'):Frm fun H=>if c then g H else g' H:=by
  by_cases hc:c
  · exact Zbt (h hc) fun H=>if_pos hc
  · exact Zbt (h' hc) fun H=>if_neg hc
theorem Zg7 {α:Type} (t:Nat) (f:AObj→Option (α × AObj)) (hf:f .free=none) (hy:∀ z v y,f z=some (v,y)→y ≠ .free):Frm fun H=>match H[t]? with | some z=>(match f z with | some (v,y)=>some (v,H.set t y) | none=>none) | none=>none:=by
  intro H v H' h
  simp only at h
  cases hz:H[t]? with
  | none=>simp [hz] at h
  | some z =>
    simp only [hz] at h
    cases hfz:f z with
    | none=>simp [hfz] at h
    | some p =>
      obtain ⟨u,y⟩:=p
      simp only [hfz,Option.some.injEq,Prod.mk.injEq] at h
      obtain ⟨rfl,rfl⟩:=h
      refine ⟨by simp,fun o ho hfr=>?_⟩
      obtain ⟨h1,h2⟩:=Zks hfr (hy z _ y hfz)
      refine ⟨h2,fun x=>?_⟩
      have hz':z ≠ .free:=by rintro rfl;rw [hf] at hfz;cases hfz
      obtain ⟨h3,h4⟩:=Zgp h2 hz hz' x
      simp only [h4,hfz]
      rw [List.set_comm _ _ h3]

theorem ZAp (g:Bool) (sz:Nat) (a:AV):Rdm (Za2 g sz a):=by
  intro H v h o ho x
  cases a with
  | ptr t off =>
    simp only [Za2] at h ⊢
    cases hz:H[t]? with
    | none=>simp [hz] at h
    | some z =>
      have hz':z ≠ .free:=by rintro rfl;simp [hz] at h
      rw [(Zgp ho hz hz' x).2]
      rw [hz] at h
      exact h
  | wp t e off =>
    simp only [Za2] at h ⊢
    cases hz:H[t]? with
    | none=>simp [hz] at h
    | some z =>
      have hz':z ≠ .free:=by rintro rfl;simp [hz] at h
      rw [(Zgp ho hz hz' x).2]
      rw [hz] at h
      exact h
  | _=>exact h
theorem Zk5 (k:Nat) (a:AV):Rdm (elems k a):=by
  intro H v h o ho x
  cases a with
  | rs ag k' t off len cap =>
    simp only [elems] at h ⊢
    cases hz:H[t]? with
    | none=>simp [hz] at h
    | some z =>
      have hz':z ≠ .free:=by rintro rfl;simp [hz] at h
      rw [(Zgp ho hz hz' x).2]
      rw [hz] at h
      exact h
  | ws ag k' t e len =>
    simp only [elems] at h ⊢
    cases hz:H[t]? with
    | none=>simp [hz] at h
    | some z =>
      have hz':z ≠ .free:=by rintro rfl;simp [hz] at h
      rw [(Zgp ho hz hz' x).2]
      rw [hz] at h
      exact h
  | _=>exact h
theorem Zxe (a:AV):Rdm (Zbn a):=by
  intro H v h o ho x
  cases a with
  | map t =>
    simp only [Zbn] at h ⊢
    cases hz:H[t]? with
    | none=>simp [hz] at h
    | some z =>
      have hz':z ≠ .free:=by rintro rfl;simp [hz] at h
      rw [(Zgp ho hz hz' x).2]
      rw [hz] at h
      exact h
  | _=>exact h
theorem ZDF (d:TypeDesc) (z:AV) (ck:Bool) (a k:AV):Rdm (ZaK d z ck a k):=by
  intro H v h o ho x
  unfold ZaK at h ⊢
  cases he:Zbn a H with
  | none=>simp [he] at h
  | some es=>rw [Zxe a H es he o ho x];rw [he] at h;exact h
theorem ZHV (a:AV):Rdm (ZeS a):=by
  intro H v h o ho x
  unfold ZeS at h ⊢
  cases he:Zbn a H with
  | none=>simp [he] at h
  | some es=>rw [Zxe a H es he o ho x];rw [he] at h;exact h
theorem ZyX (n:Nat):∀ (f:Nat) (a:AV),Rdm fun H=>Za6 H n f a:=by
  intro f
  induction f with
  | zero=>intro a H v h;cases h
  | succ f ih =>
    intro a H v h o ho x
    have lst:∀ l l':List AV,l.mapM (Za6 H n f)=some l'→l.mapM (Za6 (H.set o x) n f)=some l':=fun l l' hl=>ZD1 (fun a b hab=>ih a H b hab o ho x) hl
    cases a with
    | vp cells =>
      simp only [Za6] at h ⊢
      cases hm:cells.mapM (Za6 H n f) with
      | none=>simp [hm] at h
      | some l=>rw [lst _ _ hm];rw [hm] at h;exact h
    | vs k tok l =>
      simp only [Za6] at h ⊢
      cases hm:l.mapM (Za6 H n f) with
      | none=>simp [hm] at h
      | some l'=>rw [lst _ _ hm];rw [hm] at h;exact h
    | rs ag k t off len cap =>
      simp only [Za6] at h ⊢
      split at h
      · rename_i hlt;rw [if_pos hlt];exact h
      · rename_i hlt
        rw [if_neg hlt]
        cases hel:elems k (.rs ag k t off len cap) H with
        | none=>simp [hel] at h
        | some l =>
          rw [Zk5 _ _ H l hel o ho x]
          simp only [hel] at h ⊢
          cases hm:l.mapM (Za6 H n f) with
          | none=>simp [hm] at h
          | some l'=>rw [lst _ _ hm];rw [hm] at h;exact h
    | ws ag k t e len =>
      simp only [Za6] at h ⊢
      split at h
      · rename_i hlt;rw [if_pos hlt];exact h
      · rename_i hlt
        rw [if_neg hlt]
        cases hel:elems k (.ws ag k t e len) H with
        | none=>simp [hel] at h
        | some l =>
          rw [Zk5 _ _ H l hel o ho x]
          simp only [hel] at h ⊢
          cases hm:l.mapM (Za6 H n f) with
          | none=>simp [hm] at h
          | some l'=>rw [lst _ _ hm];rw [hm] at h;exact h
    | fn fn a b =>
      simp only [Za6] at h ⊢
      cases hm:a.mapM (Za6 H n f) with
      | none=>simp [hm] at h
      | some l =>
        cases hm2:b.mapM (Za6 H n f) with
        | none=>simp [hm,hm2] at h
        | some l2=>rw [lst _ _ hm,lst _ _ hm2];rw [hm,hm2] at h;exact h
    | iface t v' =>
      simp only [Za6] at h ⊢
      cases hm:Za6 H n f v' with
      | none=>simp [hm] at h
      | some l =>
        have h3:Za6 (H.set o x) n f v'=some l:=ih v' H l hm o ho x
        rw [h3];rw [hm] at h;exact h
    | agg l =>
      simp only [Za6] at h ⊢
      cases hm:l.mapM (Za6 H n f) with
      | none=>simp [hm] at h
      | some l'=>rw [lst _ _ hm];rw [hm] at h;exact h
    | tuple l =>
      simp only [Za6] at h ⊢
      cases hm:l.mapM (Za6 H n f) with
      | none=>simp [hm] at h
      | some l'=>rw [lst _ _ hm];rw [hm] at h;exact h
    | _=>exact h

def ZBC (sz off:Nat) (v:AV):AObj→Option (AV × AObj)
  | .cells l=>if v.known=true∧v.cells.length=sz∧off+sz≤l.length then some (AV.tuple [],AObj.cells (splice l off v.cells)) else none
  | _=>none
def ZBD (sz e off:Nat) (v:AV):AObj→Option (AV × AObj)
  | .row e' l=>if e'=e∧v.known=true∧v.cells.length=sz∧off+sz≤l.length then some (AV.tuple [],AObj.row e (splice l off v.cells)) else none
  | _=>none
theorem ZDM (sz:Nat) (a v:AV):Frm (Zab sz a v):=by
  cases a with
  | ptr t off =>
    refine Zbt (Zg7 t (ZBC sz off v) rfl (fun z u y h=>?_)) fun H=>?_
    · unfold ZBC at h
      split at h
      · split at h
        · injection h with h
          injection h with h1 h2
          subst h2
          simp
        · cases h
      · cases h
    · unfold Zab ZbG ZBC
      dsimp only
      rcases H[t]? with _ | z
      · rfl
      · cases z with
        | cells l =>
                     dsimp only
                     by_cases hc:v.known=true∧v.cells.length=sz∧off+sz≤l.length
                     · rw [if_pos hc,if_pos hc]
                     · rw [if_neg hc,if_neg hc]
        | _=>rfl
  | wp t e off =>
    refine Zbt (Zg7 t (ZBD sz e off v) rfl (fun z u y h=>?_)) fun H=>?_
    · unfold ZBD at h
      split at h
      · split at h
        · injection h with h
          injection h with h1 h2
          subst h2
          simp
        · cases h
      · cases h
    · unfold Zab ZbG ZBD
      dsimp only
      rcases H[t]? with _ | z
      · rfl
      · cases z with
        | row e' l =>
                     dsimp only
                     by_cases hc:e'=e∧v.known=true∧v.cells.length=sz∧off+sz≤l.length
                     · rw [if_pos hc,if_pos hc]
                     · rw [if_neg hc,if_neg hc]
        | _=>rfl
  | _=>exact Zak
theorem Zm0 (k bytes:Nat) (s:AV) (xs:List AV):Frm (ZaJ k bytes s xs):=by
  cases s with
  | nils =>
    unfold ZaJ
    exact ZaN _ (fun _=>Zcu _) fun _=>ZaN _ (fun _=>ZdI (fun n=>AV.vs k (.own n xs.length) xs) _) fun _=>Zak
  | vs k' tok l =>
    unfold ZaJ
    refine ZaN _ (fun _=>ZaN _ (fun _=>Zcu _) fun _=>?_) fun _=>Zak
    cases tok with
    | no=>exact Zak
    | clip=>exact ZdI (fun n=>AV.vs k (.own n (l.length+xs.length)) (l++xs)) _
    | own t e =>
      refine Zbt (Zg7 t (fun z=>match z with | .tok e'=>if e'=e then some (AV.vs k (.own t (e+xs.length)) (l++xs),AObj.tok (e+xs.length)) else none | _=>none) rfl (fun z u y h=>?_)) fun H=>?_
      · split at h
        · split at h
          · injection h with h
            injection h with h1 h2
            subst h2
            simp
          · cases h
        · cases h
      · dsimp only
        rcases H[t]? with _ | z
        · rfl
        · cases z with
          | tok e' =>
                       dsimp only
                       by_cases hc:e'=e
                       · rw [if_pos hc,if_pos hc]
                       · rw [if_neg hc,if_neg hc]
          | _=>rfl
  | _=>exact Zak
theorem ZHR (k bytes:Nat) (s x:AV):Frm (ZaH k bytes s x):=by
  unfold ZaH
  refine Zbt (Zut (Zk5 k x) fun xs=>Zm0 k bytes s xs) fun H=>?_
  cases elems k x H <;> rfl
def rowF (ag:Bool) (k o e len:Nat) (xs:List AV):AObj→Option (AV × AObj)
  | .row e' l=>if e'=e∧l.length=len * k then some (AV.ws ag k o (e+1) (len+xs.length),AObj.row (e+1) (l++(xs.map AV.cells).flatten)) else none
  | _=>none
theorem ZHS (ag:Bool) (k bytes:Nat) (s:AV) (xs:List AV):Frm (ZhX ag k bytes s xs):=by
  cases s with
  | nils =>
    unfold ZhX
    exact ZaN _ (fun _=>Zcu _) fun _=>ZaN _ (fun _=>ZdI (fun n=>AV.ws ag k n 0 xs.length) _) fun _=>Zak
  | vs k' tok l =>
    cases tok with
    | clip =>
      unfold ZhX
      exact ZaN _ (fun _=>ZaN _ (fun _=>Zcu _) fun _=>ZdI (fun n=>AV.ws ag k n 0 (l.length+xs.length)) _) fun _=>Zak
    | no=>exact Zbt (Zm0 k bytes (.vs k' .no l) xs) fun H=>rfl
    | own t e=>exact Zbt (Zm0 k bytes (.vs k' (.own t e) l) xs) fun H=>rfl
  | ws ag' k' t e len =>
    unfold ZhX
    refine ZaN _ (fun _=>ZaN _ (fun _=>Zcu _) fun _=>?_) fun _=>Zak
    refine Zbt (Zg7 t (rowF ag k t e len xs) rfl (fun z u y h=>?_)) fun H=>?_
    · unfold rowF at h
      split at h
      · split at h
        · injection h with h
          injection h with h1 h2
          subst h2
          simp
        · cases h
      · cases h
    · unfold rowF
      rcases H[t]? with _ | z
      · rfl
      · cases z with
        | row e' l =>
                     dsimp only
                     by_cases hc:e'=e∧l.length=len * k
                     · rw [if_pos hc,if_pos hc]
                     · rw [if_neg hc,if_neg hc]
        | _=>rfl
  | _=>first | exact Zbt (Zm0 k bytes _ xs) fun H=>rfl | exact Zak
theorem ZFj (ag:Bool) (k bytes:Nat) (s x:AV):Frm (ZiV ag k bytes s x):=by
  unfold ZiV
  refine Zbt (Zut (Zk5 k x) fun xs=>ZHS ag k bytes s xs) fun H=>?_
  cases elems k x H <;> rfl
def ZJV (k:Nat) (d:AV) (xs:List AV) (H:Hp):Option (AV × Hp) :=
  match d with
    | .nils=>if xs=[] then some (.int .i64 0,H) else none
    | .vs _ _ _=>if xs=[] then some (.int .i64 0,H) else none
    | .rs _ k' o off len _=>if xs=[] then some (.int .i64 0,H) else if k'=k∧xs.length≤len then match H[o]? with
      | some (.cells cs)=>if off+xs.length * k≤cs.length then some (.int .i64 xs.length,H.set o (.cells (splice cs off (xs.map AV.cells).flatten))) else none
      | _=>none else none
    | _=>none
theorem ZHT (k:Nat) (d x:AV):Frm (Zon k d x):=by
  have key:∀ xs,Frm (ZJV k d xs):=fun xs=>?_
  · unfold Zon
    refine Zbt (Zut (Zk5 k x) key) fun H=>?_
    cases elems k x H <;> rfl
  unfold ZJV
  cases d with
  | nils=>exact ZaN _ (fun _=>Zcu _) fun _=>Zak
  | vs _ _ _=>exact ZaN _ (fun _=>Zcu _) fun _=>Zak
  | rs ag k' t off len cap =>
    refine ZaN _ (fun _=>Zcu _) fun _=>ZaN _ (fun _=>?_) fun _=>Zak
    refine Zbt (Zg7 t (fun z=>match z with | .cells cs=>if off+xs.length * k≤cs.length then some (AV.int .i64 xs.length,AObj.cells (splice cs off (xs.map AV.cells).flatten)) else none | _=>none) rfl (fun z u y h=>?_)) fun H=>?_
    · split at h
      · split at h
        · injection h with h
          injection h with h1 h2
          subst h2
          simp
        · cases h
      · cases h
    · skip
      rcases H[t]? with _ | z
      · rfl
      · cases z with
        | cells l =>
                     dsimp only
                     by_cases hc:off+xs.length * k≤l.length
                     · rw [if_pos hc,if_pos hc]
                     · rw [if_neg hc,if_neg hc]
        | _=>rfl
  | _=>exact Zak
theorem ZHZ (k bytes:Nat) (ag:Bool) (z len cap:AV):Frm (Zgj k bytes ag z len cap):=by
  unfold Zgj
  split
  · rename_i n c
    refine ZaN _ (fun _=>ZaN _ (fun _=>?_) fun _=>?_) fun _=>Zak
    · exact ZdI (fun m=>AV.vs k (.own m 0) []) _
    · exact ZdI (fun m=>AV.rs ag k m 0 n.toNat c.toNat) _
  · exact Zak
def mapF (d:TypeDesc) (k v:AV):AObj→Option (AV × AObj)
  | .map es c=>if Zch d k then match Zbd k es 0 with
    | some (some (i,_))=>some (AV.tuple [],AObj.map (es.set i (k,v,(es.getD i (.undef,.undef,0)).2.2)) c)
    | some none=>some (AV.tuple [],AObj.map (es++[(k,v,c)]) (c+1))
    | none=>none else none
  | _=>none
theorem ZDH (d:TypeDesc) (m k v:AV):Frm (ZbD d m k v):=by
  cases m with
  | map t =>
    refine Zbt (Zg7 t (mapF d k v) rfl (fun z u y h=>?_)) fun H=>?_
    · unfold mapF at h
      split at h
      · split at h
        · split at h
          · injection h with h
            injection h with h1 h2
            subst h2
            simp
          · injection h with h
            injection h with h1 h2
            subst h2
            simp
          · cases h
        · cases h
      · cases h
    · unfold ZbD mapF
      dsimp only
      rcases H[t]? with _ | z
      · rfl
      · cases z with
        | map es c =>
          dsimp only
          cases Zch d k with
          | false=>rfl
          | true =>
          simp only [if_true]
          cases Zbd k es 0 with
          | none=>rfl
          | some q=>cases q with
            | none=>rfl
            | some q=>rfl
        | _=>rfl
  | _=>exact Zak
def delF (d:TypeDesc) (k:AV):AObj→Option (AV × AObj)
  | .map es c=>if Zch d k then match Zbd k es 0 with
    | some (some (i,_))=>some (AV.tuple [],AObj.map (es.eraseIdx i) c)
    | some none=>some (AV.tuple [],AObj.map es c)
    | none=>none else none
  | _=>none
theorem ZDG (d:TypeDesc) (m k:AV):Frm (ZpX d m k):=by
  cases m with
  | map t =>
    refine Zbt (Zg7 t (delF d k) rfl (fun z u y h=>?_)) fun H=>?_
    · unfold delF at h
      split at h
      · split at h
        · split at h
          · injection h with h
            injection h with h1 h2
            subst h2
            simp
          · injection h with h
            injection h with h1 h2
            subst h2
            simp
          · cases h
        · cases h
      · cases h
    · unfold ZpX delF
      dsimp only
      rcases H[t]? with _ | z
      · rfl
      · cases z with
        | map es c =>
          dsimp only
          cases Zch d k with
          | false=>rfl
          | true =>
          simp only [if_true]
          cases Zbd k es 0 with
          | none=>rfl
          | some q=>cases q with
            | none=>rfl
            | some q=>rfl
        | _=>rfl
  | _=>exact Zak
theorem ZKc (x:AV):Frm (abox x):=by
  unfold abox
  exact ZaN _ (fun _=>ZdI (fun n=>AV.ptr n 0) _) fun _=>Zak

section
variable {C:Cfg} {call:Zas}
def Zco (call:Zas):Prop:=∀ f args,Frm (call f args)

theorem ZIK (g:List AV→Hp→Option (AV × Hp)) (args:List AV):Frm (Zaa g args):=by
  intro H v H' h
  have key:H'=H∧∀ H2,Zaa g args H2=some (v,H2):=by
    unfold Zaa at h ⊢
    split at h
    · split at h
      · split at h
        · injection h with h
          injection h with h1 h2
          subst h1 h2
          exact ⟨rfl,fun H2=>rfl⟩
        · cases h
      · cases h
    · cases h
  obtain ⟨rfl,h2⟩:=key
  exact ⟨Nat.le_refl _,fun o _ ho=>⟨ho,fun x=>h2 _⟩⟩
theorem ZMk {g:List AV→Hp→Option (AV × Hp)} (hg:∀ args,Frm (g args)) (args:List AV):Frm (roC g args):=by
  intro H v H' h
  unfold roC at h ⊢
  split at h
  · rename_i v1 H1 hc
    split at h
    · rename_i ht
      have ht:=Zyx _ _ ht
      split at h
      · rename_i v2 hcl
        simp only [Option.some.injEq,Prod.mk.injEq] at h
        obtain ⟨rfl,rfl⟩:=h
        refine ⟨Nat.le_refl _,fun o ho hf=>⟨hf,fun x=>?_⟩⟩
        have h1:H1[o]?=some .free:=by
          rw [← ht,List.getElem?_take_of_lt ho] at hf
          exact hf
        obtain ⟨_,hx⟩:=hg args H v1 H1 hc
        obtain ⟨_,hx⟩:=hx o ho h1
        rw [hx x]
        simp only
        have h2:(H1.set o x).take (H.set o x).length=H.set o x:=by
          rw [List.length_set,List.take_set,ht]
        rw [h2,if_pos (ZtE _)]
        have h3:Za6 (H1.set o x) (H.set o x).length 6 v1=some v2:=by
          rw [List.length_set]
          exact ZyX H.length 6 v1 H1 v2 hcl o h1 x
        rw [h3]
      · cases h
    · cases h
  · cases h
theorem ZFk (hc:Zco call) (id:FuncId) (args:List AV):Frm (ZbE C call id args):=by
  unfold ZbE
  cases C.ext id with
  | some e =>
    simp only
    unfold extC
    cases extA e args with
    | none=>exact Zak
    | some v=>exact Zcu v
  | none =>
    cases C.sum id with
    | some g =>
      simp only
      unfold sumC
      cases g args with
      | none=>exact Zak
      | some v=>exact Zcu v
    | none =>
      simp only
      cases C.eff id with
      | some g=>exact g.frm args
      | none=>exact ZaN _ (fun _=>ZaN _ (fun _=>ZIK _ _) fun _=>ZaN _ (fun _=>ZMk (hc id) args) fun _=>hc id args) fun _=>Zak
theorem ZAo (hc:Zco call) (f:AV) (args:List AV):Frm (Zb0 C call f args):=by
  unfold Zb0
  split
  · exact ZFk hc _ _
  · exact Zak

theorem ZFU (x:AV):Frm (Zg4 x):=by
  unfold Zg4
  have hr:Rdm (Zex x):=by
    unfold Zex
    split
    · exact ZJs none
    · exact Zk5 1 x
  have:Frm fun H=>(match Zex x H with | some l=>(match Zct l with | some s=>some (AV.str s,H) | none=>none) | none=>none):=by
    refine Zbt (Zut hr (g:=fun l H=>match Zct l with | some s=>some (AV.str s,H) | none=>none) fun l=>?_) fun H=>?_
    · cases Zct l with
      | none=>exact Zak
      | some s=>exact Zcu _
    · cases Zex x H <;> rfl
  exact this
theorem ZIs (x:AV):Frm (ZqN x):=by
  unfold ZqN
  cases x with
  | str s=>exact ZdI (fun n=>AV.ws false 1 n 0 s.length) _
  | _=>exact Zak
theorem ZFm (hc:Zco call) (f:AV) (args:List AV):Frm (ZbF C call f args):=by
  unfold ZbF qC
  split
  · exact ZaN _ (fun _=>ZAo hc _ _) fun _=>Zak
  · exact Zak
theorem ZHU (hc:Zco call) (ev:Operand→AV) (op:Op):Frm fun H=>Zat C call ev H op:=by
  cases op with
  | alloc e =>
    simp only [Zat]
    split
    · split
      · exact ZaN _ (fun _=>ZdI (fun n=>AV.ptr n 0) _) fun _=>Zak
      · exact ZaN _ (fun _=>ZdI (fun n=>AV.ptr n 0) _) fun _=>Zak
    · exact Zak
  | box e x=>exact ZKc _
  | load t a =>
    simp only [Zat]
    split
    · exact ZEP (ZAp _ _ _)
    · exact Zak
  | store t a x =>
    simp only [Zat]
    split
    · exact ZDM _ _ _
    · exact Zak
  | makeSlice t l c =>
    simp only [Zat]
    split
    · split
      · exact ZHZ _ _ _ _ _ _
      · exact Zak
    · exact Zak
  | convert s d x =>
    simp only [Zat]
    split
    · exact ZaN _ (fun _=>ZFU _) fun _=>Zak
    · exact ZaN _ (fun _=>ZIs _) fun _=>Zak
    · exact Zak
  | makeMap t r =>
    cases r with
    | none=>exact ZdI (fun n=>AV.map n) _
    | some r=>exact Zak
  | lookup t x k ck =>
    simp only [Zat]
    split
    · split
      · exact ZEP (ZDF _ _ _ _ _)
      · exact Zak
    · exact Zak
  | mapUpdate t m k x =>
    simp only [Zat]
    split
    · exact ZDH _ _ _ _
    · exact Zak
  | call cl =>
    obtain ⟨callee,args,ts⟩:=cl
    cases callee with
    | value f=>exact ZaN _ (fun _=>ZFm hc _ _) fun _=>ZAo hc _ _
    | invoke r m=>exact Zak
    | builtin b =>
      cases b <;> first | exact Zak | skip
      case append =>
        simp only [Zat]
        split
        · split
          · refine ZaN _ (fun _=>Zak) fun _=>?_
            split
            · refine ZaN _ (fun _=>?_) fun _=>Zak
              split
              · exact ZFj _ _ _ _ _
              · exact ZHR _ _ _ _
            · exact Zak
          · exact Zak
        · exact Zak
      case delete =>
        simp only [Zat]
        split
        · split
          · exact ZDG _ _ _
          · exact Zak
        · exact Zak
      case len =>
        simp only [Zat]
        split
        · split
          · exact ZEP (ZHV _)
          · exact Zak
        · exact Zak
      case copy =>
        simp only [Zat]
        split
        · split
          · split
            · exact ZaN _ (fun _=>ZHT _ _ _) fun _=>Zak
            · exact Zak
          · exact Zak
        · exact Zak
  | _=>exact Zak
theorem ZLH (hc:Zco call) (ev:Operand→AV) (fl:Bool) (op:Op):Frm fun H=>aop C call ev H fl op:=by
  unfold aop
  cases ZaD C ev op with
  | some v=>exact Zcu v
  | none=>exact ZaN _ (fun _=>Zak) fun _=>ZHU hc ev op
theorem ZL8 (hc:Zco call) (ops:Array Oper) (fl:Bool) (o:Oper) (tm:List AV):Frm (oVal C call ops fl o tm):=by
  unfold oVal
  cases ZcN ops tm o with
  | none=>exact Zak
  | some b =>
    cases b with
    | false=>exact Zcu _
    | true=>exact ZLH hc _ _ _
end
end Go.Am
