/-
  THE ABSTRACT MACHINE, part Frm: a place that is free before and Zbl a step has no part in it.
-/
import Derived.Test.YtehanadfidoodaaGreatDoorEmKx
namespace Go.Am

def Rdm {α:Type} (r:Hp→Option α):Prop:=∀ H v,r H=some v→∀ o,H[o]?=some .free→∀ x,r (H.set o x)=some v

theorem Zjd {H:Hp} {o t:Nat} {y:AObj} (h:(H.set t y)[o]?=some .free) (hy:y ≠ .free):o ≠ t∧H[o]?=some .free:=by
  by_cases e:t=o
  · subst e
    exfalso
    by_cases hl:t < H.length
    · simp [hl] at h;exact hy h
    · simp [hl] at h
  · rw [List.getElem?_set_ne e] at h
    exact ⟨fun h'=>e h'.symm,h⟩
theorem Zs9 {H l:Hp} {o:Nat} (ho:o < H.length) (h:(H++l)[o]?=some .free):H[o]?=some .free∧∀ x,(H++l).set o x=H.set o x++l:=by
  rw [List.getElem?_append_left ho] at h
  exact ⟨h,fun x=>List.set_append_left _ _ ho⟩
theorem Zfo {H:Hp} {o t:Nat} {z:AObj} (h:H[o]?=some .free) (ht:H[t]?=some z) (hz:z ≠ .free) (x:AObj):o ≠ t∧(H.set o x)[t]?=some z:=by
  have hne:o ≠ t:=by
    rintro rfl
    rw [h] at ht
    injection ht with ht
    exact hz ht.symm
  exact ⟨hne,by rw [List.getElem?_set_ne hne];exact ht⟩

theorem ZDL {α:Type} {r:Hp→Option α} (h:Rdm r):Frm fun H=>(r H).map (·,H):=by
  intro H v H' hg
  cases hr:r H with
  | none=>simp [hr] at hg
  | some u =>
    simp [hr] at hg
    obtain ⟨rfl,rfl⟩:=hg
    refine ⟨Nat.le_refl _,fun o _ ho=>⟨ho,fun x=>?_⟩⟩
    simp [h H u hr o ho x]
theorem ZHo {α:Type} (r:Option α):Rdm fun _=>r:=fun _ _ h _ _ _=>h
theorem Zal {α:Type}:Frm fun _=>(none:Option (α × Hp)):=fun _ _ _ h=>by cases h
theorem Zc9 {α:Type} (v:α):Frm fun H=>some (v,H):=by
  intro H v H' h
  injection h with h
  injection h with h1 h2
  subst h1 h2
  exact ⟨Nat.le_refl _,fun o _ ho=>⟨ho,fun x=>rfl⟩⟩
theorem Zd3 {α:Type} (g:Nat→α) (l:Hp):Frm fun H=>some (g H.length,H++l):=by
  intro H v H' h
  injection h with h
  injection h with h1 h2
  subst h1 h2
  refine ⟨by simp,fun o ho hf=>?_⟩
  obtain ⟨h1,h2⟩:=Zs9 ho hf
  exact ⟨h1,fun x=>by simp [h2]⟩
theorem ZsM {α β:Type} {r:Hp→Option α} {g:α→Hp→Option (β × Hp)} (hr:Rdm r) (hg:∀ a,Frm (g a)):Frm fun H=>match r H with | some a=>g a H | none=>none:=by
  intro H v H' h
  simp only at h
  cases ha:r H with
  | none=>simp [ha] at h
  | some a =>
    simp only [ha] at h
    obtain ⟨h1,h2⟩:=hg a H v H' h
    refine ⟨h1,fun o ho hf=>?_⟩
    obtain ⟨h3,h4⟩:=h2 o ho hf
    exact ⟨h3,fun x=>by simp only [hr H a ha o h3 x];exact h4 x⟩
theorem Zbf {α:Type} {g g':Hp→Option (α × Hp)} (h:Frm g) (he:∀ H,g' H=g H):Frm g':=by
  intro H v H' hh
  rw [he] at hh
  obtain ⟨h1,h2⟩:=h H v H' hh
  exact ⟨h1,fun o ho hf=>⟨(h2 o ho hf).1,fun x=>by rw [he];exact (h2 o ho hf).2 x⟩⟩
theorem ZaF {α:Type} (c:Prop) [Decidable c] {g g':Hp→Option (α × Hp)} (h:c→Frm g) (h':¬ c→Frm g'):Frm fun H=>if c then g H else g' H:=by
  by_cases hc:c
  · exact Zbf (h hc) fun H=>if_pos hc
  · exact Zbf (h' hc) fun H=>if_neg hc
theorem Zf4 {α:Type} (t:Nat) (f:AObj→Option (α × AObj)) (hf:f .free=none) (hy:∀ z v y,f z=some (v,y)→y ≠ .free):Frm fun H=>match H[t]? with | some z=>(match f z with | some (v,y)=>some (v,H.set t y) | none=>none) | none=>none:=by
  intro H v H' h
  simp only at h
  cases hz:H[t]? with
  | none=>simp [hz] at h
  | some z =>
    simp only [hz] at h
    cases hfz:f z with
    | none=>simp [hfz] at h
    | some p =>
      obtain ⟨u,y⟩:=p
      simp only [hfz,Option.some.injEq,Prod.mk.injEq] at h
      obtain ⟨rfl,rfl⟩:=h
      refine ⟨by simp,fun o ho hfr=>?_⟩
      obtain ⟨h1,h2⟩:=Zjd hfr (hy z _ y hfz)
      refine ⟨h2,fun x=>?_⟩
      have hz':z ≠ .free:=by rintro rfl;rw [hf] at hfz;cases hfz
      obtain ⟨h3,h4⟩:=Zfo h2 hz hz' x
      simp only [h4,hfz]
      rw [List.set_comm _ _ h3]

theorem ZzT (g:Bool) (sz:Nat) (a:AV):Rdm (Za2 g sz a):=by
  intro H v h o ho x
  cases a with
  | ptr t off =>
    simp only [Za2] at h ⊢
    cases hz:H[t]? with
    | none=>simp [hz] at h
    | some z =>
      have hz':z ≠ .free:=by rintro rfl;simp [hz] at h
      rw [(Zfo ho hz hz' x).2]
      rw [hz] at h
      exact h
  | wp t e off =>
    simp only [Za2] at h ⊢
    cases hz:H[t]? with
    | none=>simp [hz] at h
    | some z =>
      have hz':z ≠ .free:=by rintro rfl;simp [hz] at h
      rw [(Zfo ho hz hz' x).2]
      rw [hz] at h
      exact h
  | _=>exact h
theorem ZiD (k:Nat) (a:AV):Rdm (elems k a):=by
  intro H v h o ho x
  cases a with
  | rs ag k' t off len cap =>
    simp only [elems] at h ⊢
    cases hz:H[t]? with
    | none=>simp [hz] at h
    | some z =>
      have hz':z ≠ .free:=by rintro rfl;simp [hz] at h
      rw [(Zfo ho hz hz' x).2]
      rw [hz] at h
      exact h
  | ws ag k' t e len =>
    simp only [elems] at h ⊢
    cases hz:H[t]? with
    | none=>simp [hz] at h
    | some z =>
      have hz':z ≠ .free:=by rintro rfl;simp [hz] at h
      rw [(Zfo ho hz hz' x).2]
      rw [hz] at h
      exact h
  | _=>exact h
theorem ZwB (a:AV):Rdm (Zc7 a):=by
  intro H v h o ho x
  cases a with
  | map t =>
    simp only [Zc7] at h ⊢
    cases hz:H[t]? with
    | none=>simp [hz] at h
    | some z =>
      have hz':z ≠ .free:=by rintro rfl;simp [hz] at h
      rw [(Zfo ho hz hz' x).2]
      rw [hz] at h
      exact h
  | _=>exact h
theorem ZCC (d:TypeDesc) (z:AV) (ck:Bool) (a k:AV):Rdm (Zbb d z ck a k):=by
  intro H v h o ho x
  unfold Zbb at h ⊢
  cases he:Zc7 a H with
  | none=>simp [he] at h
  | some es=>rw [ZwB a H es he o ho x];rw [he] at h;exact h
theorem ZGc (a:AV):Rdm (ZgG a):=by
  intro H v h o ho x
  unfold ZgG at h ⊢
  cases he:Zc7 a H with
  | none=>simp [he] at h
  | some es=>rw [ZwB a H es he o ho x];rw [he] at h;exact h
theorem Zyj (n:Nat):∀ (f:Nat) (a:AV),Rdm fun H=>Za6 H n f a:=by
  intro f
  induction f with
  | zero=>intro a H v h;cases h
  | succ f ih =>
    intro a H v h o ho x
    have lst:∀ l l':List AV,l.mapM (Za6 H n f)=some l'→l.mapM (Za6 (H.set o x) n f)=some l':=fun l l' hl=>ZC0 (fun a b hab=>ih a H b hab o ho x) hl
    cases a with
    | vp cells =>
      simp only [Za6] at h ⊢
      cases hm:cells.mapM (Za6 H n f) with
      | none=>simp [hm] at h
      | some l=>rw [lst _ _ hm];rw [hm] at h;exact h
    | vs k tok l =>
      simp only [Za6] at h ⊢
      cases hm:l.mapM (Za6 H n f) with
      | none=>simp [hm] at h
      | some l'=>rw [lst _ _ hm];rw [hm] at h;exact h
    | rs ag k t off len cap =>
      simp only [Za6] at h ⊢
      split at h
      · rename_i hlt;rw [if_pos hlt];exact h
      · rename_i hlt
        rw [if_neg hlt]
        cases hel:elems k (.rs ag k t off len cap) H with
        | none=>simp [hel] at h
        | some l =>
          rw [ZiD _ _ H l hel o ho x]
          simp only [hel] at h ⊢
          cases hm:l.mapM (Za6 H n f) with
          | none=>simp [hm] at h
          | some l'=>rw [lst _ _ hm];rw [hm] at h;exact h
    | ws ag k t e len =>
      simp only [Za6] at h ⊢
      split at h
      · rename_i hlt;rw [if_pos hlt];exact h
      · rename_i hlt
        rw [if_neg hlt]
        cases hel:elems k (.ws ag k t e len) H with
        | none=>simp [hel] at h
        | some l =>
          rw [ZiD _ _ H l hel o ho x]
          simp only [hel] at h ⊢
          cases hm:l.mapM (Za6 H n f) with
          | none=>simp [hm] at h
          | some l'=>rw [lst _ _ hm];rw [hm] at h;exact h
    | fn fn a b =>
      simp only [Za6] at h ⊢
      cases hm:a.mapM (Za6 H n f) with
      | none=>simp [hm] at h
      | some l =>
        cases hm2:b.mapM (Za6 H n f) with
        | none=>simp [hm,hm2] at h
        | some l2=>rw [lst _ _ hm,lst _ _ hm2];rw [hm,hm2] at h;exact h
    | iface t v' =>
      simp only [Za6] at h ⊢
      cases hm:Za6 H n f v' with
      | none=>simp [hm] at h
      | some l =>
        have h3:Za6 (H.set o x) n f v'=some l:=ih v' H l hm o ho x
        rw [h3];rw [hm] at h;exact h
    | agg l =>
      simp only [Za6] at h ⊢
      cases hm:l.mapM (Za6 H n f) with
      | none=>simp [hm] at h
      | some l'=>rw [lst _ _ hm];rw [hm] at h;exact h
    | tuple l =>
      simp only [Za6] at h ⊢
      cases hm:l.mapM (Za6 H n f) with
      | none=>simp [hm] at h
      | some l'=>rw [lst _ _ hm];rw [hm] at h;exact h
    | _=>exact h

def ZAO (sz off:Nat) (v:AV):AObj→Option (AV × AObj)
  | .cells l=>if v.known=true∧v.cells.length=sz∧off+sz≤l.length then some (AV.tuple [],AObj.cells (splice l off v.cells)) else none
  | _=>none
def ZAP (sz e off:Nat) (v:AV):AObj→Option (AV × AObj)
  | .row e' l=>if e'=e∧v.known=true∧v.cells.length=sz∧off+sz≤l.length then some (AV.tuple [],AObj.row e (splice l off v.cells)) else none
  | _=>none
theorem ZCJ (sz:Nat) (a v:AV):Frm (Zag sz a v):=by
  cases a with
  | ptr t off =>
    refine Zbf (Zf4 t (ZAO sz off v) rfl (fun z u y h=>?_)) fun H=>?_
    · unfold ZAO at h
      split at h
      · split at h
        · injection h with h
          injection h with h1 h2
          subst h2
          simp
        · cases h
      · cases h
    · unfold Zag ZaQ ZAO
      dsimp only
      rcases H[t]? with _ | z
      · rfl
      · cases z with
        | cells l =>
                     dsimp only
                     by_cases hc:v.known=true∧v.cells.length=sz∧off+sz≤l.length
                     · rw [if_pos hc,if_pos hc]
                     · rw [if_neg hc,if_neg hc]
        | _=>rfl
  | wp t e off =>
    refine Zbf (Zf4 t (ZAP sz e off v) rfl (fun z u y h=>?_)) fun H=>?_
    · unfold ZAP at h
      split at h
      · split at h
        · injection h with h
          injection h with h1 h2
          subst h2
          simp
        · cases h
      · cases h
    · unfold Zag ZaQ ZAP
      dsimp only
      rcases H[t]? with _ | z
      · rfl
      · cases z with
        | row e' l =>
                     dsimp only
                     by_cases hc:e'=e∧v.known=true∧v.cells.length=sz∧off+sz≤l.length
                     · rw [if_pos hc,if_pos hc]
                     · rw [if_neg hc,if_neg hc]
        | _=>rfl
  | _=>exact Zal
theorem ZkL (k bytes:Nat) (s:AV) (xs:List AV):Frm (Zc0 k bytes s xs):=by
  cases s with
  | nils =>
    unfold Zc0
    exact ZaF _ (fun _=>Zc9 _) fun _=>ZaF _ (fun _=>Zd3 (fun n=>AV.vs k (.own n xs.length) xs) _) fun _=>Zal
  | vs k' tok l =>
    unfold Zc0
    refine ZaF _ (fun _=>ZaF _ (fun _=>Zc9 _) fun _=>?_) fun _=>Zal
    cases tok with
    | no=>exact Zal
    | clip=>exact Zd3 (fun n=>AV.vs k (.own n (l.length+xs.length)) (l++xs)) _
    | own t e =>
      refine Zbf (Zf4 t (fun z=>match z with | .tok e'=>if e'=e then some (AV.vs k (.own t (e+xs.length)) (l++xs),AObj.tok (e+xs.length)) else none | _=>none) rfl (fun z u y h=>?_)) fun H=>?_
      · split at h
        · split at h
          · injection h with h
            injection h with h1 h2
            subst h2
            simp
          · cases h
        · cases h
      · dsimp only
        rcases H[t]? with _ | z
        · rfl
        · cases z with
          | tok e' =>
                       dsimp only
                       by_cases hc:e'=e
                       · rw [if_pos hc,if_pos hc]
                       · rw [if_neg hc,if_neg hc]
          | _=>rfl
  | _=>exact Zal
theorem ZG8 (k bytes:Nat) (s x:AV):Frm (ZaH k bytes s x):=by
  unfold ZaH
  refine Zbf (ZsM (ZiD k x) fun xs=>ZkL k bytes s xs) fun H=>?_
  cases elems k x H <;> rfl
def rowF (ag:Bool) (k o e len:Nat) (xs:List AV):AObj→Option (AV × AObj)
  | .row e' l=>if e'=e∧l.length=len * k then some (AV.ws ag k o (e+1) (len+xs.length),AObj.row (e+1) (l++(xs.map AV.cells).flatten)) else none
  | _=>none
theorem ZG9 (ag:Bool) (k bytes:Nat) (s:AV) (xs:List AV):Frm (ZhK ag k bytes s xs):=by
  cases s with
  | nils =>
    unfold ZhK
    exact ZaF _ (fun _=>Zc9 _) fun _=>ZaF _ (fun _=>Zd3 (fun n=>AV.ws ag k n 0 xs.length) _) fun _=>Zal
  | vs k' tok l =>
    cases tok with
    | clip =>
      unfold ZhK
      exact ZaF _ (fun _=>ZaF _ (fun _=>Zc9 _) fun _=>Zd3 (fun n=>AV.ws ag k n 0 (l.length+xs.length)) _) fun _=>Zal
    | no=>exact Zbf (ZkL k bytes (.vs k' .no l) xs) fun H=>rfl
    | own t e=>exact Zbf (ZkL k bytes (.vs k' (.own t e) l) xs) fun H=>rfl
  | ws ag' k' t e len =>
    unfold ZhK
    refine ZaF _ (fun _=>ZaF _ (fun _=>Zc9 _) fun _=>?_) fun _=>Zal
    refine Zbf (Zf4 t (rowF ag k t e len xs) rfl (fun z u y h=>?_)) fun H=>?_
    · unfold rowF at h
      split at h
      · split at h
        · injection h with h
          injection h with h1 h2
          subst h2
          simp
        · cases h
      · cases h
    · unfold rowF
      rcases H[t]? with _ | z
      · rfl
      · cases z with
        | row e' l =>
                     dsimp only
                     by_cases hc:e'=e∧l.length=len * k
                     · rw [if_pos hc,if_pos hc]
                     · rw [if_neg hc,if_neg hc]
        | _=>rfl
  | _=>first | exact Zbf (ZkL k bytes _ xs) fun H=>rfl | exact Zal
theorem ZEa (ag:Bool) (k bytes:Nat) (s x:AV):Frm (ZhJ ag k bytes s x):=by
  unfold ZhJ
  refine Zbf (ZsM (ZiD k x) fun xs=>ZG9 ag k bytes s xs) fun H=>?_
  cases elems k x H <;> rfl
def ZHL (k:Nat) (d:AV) (xs:List AV) (H:Hp):Option (AV × Hp) :=
  match d with
    | .nils=>if xs=[] then some (.int .i64 0,H) else none
    | .vs _ _ _=>if xs=[] then some (.int .i64 0,H) else none
    | .rs _ k' o off len _=>if xs=[] then some (.int .i64 0,H) else if k'=k∧xs.length≤len then match H[o]? with
      | some (.cells cs)=>if off+xs.length * k≤cs.length then some (.int .i64 xs.length,H.set o (.cells (splice cs off (xs.map AV.cells).flatten))) else none
      | _=>none else none
    | _=>none
theorem ZGa (k:Nat) (d x:AV):Frm (ZmI k d x):=by
  have key:∀ xs,Frm (ZHL k d xs):=fun xs=>?_
  · unfold ZmI
    refine Zbf (ZsM (ZiD k x) key) fun H=>?_
    cases elems k x H <;> rfl
  unfold ZHL
  cases d with
  | nils=>exact ZaF _ (fun _=>Zc9 _) fun _=>Zal
  | vs _ _ _=>exact ZaF _ (fun _=>Zc9 _) fun _=>Zal
  | rs ag k' t off len cap =>
    refine ZaF _ (fun _=>Zc9 _) fun _=>ZaF _ (fun _=>?_) fun _=>Zal
    refine Zbf (Zf4 t (fun z=>match z with | .cells cs=>if off+xs.length * k≤cs.length then some (AV.int .i64 xs.length,AObj.cells (splice cs off (xs.map AV.cells).flatten)) else none | _=>none) rfl (fun z u y h=>?_)) fun H=>?_
    · split at h
      · split at h
        · injection h with h
          injection h with h1 h2
          subst h2
          simp
        · cases h
      · cases h
    · skip
      rcases H[t]? with _ | z
      · rfl
      · cases z with
        | cells l =>
                     dsimp only
                     by_cases hc:off+xs.length * k≤l.length
                     · rw [if_pos hc,if_pos hc]
                     · rw [if_neg hc,if_neg hc]
        | _=>rfl
  | _=>exact Zal
theorem ZGf (k bytes:Nat) (ag:Bool) (z len cap:AV):Frm (Zda k bytes ag z len cap):=by
  unfold Zda
  split
  · rename_i n c
    refine ZaF _ (fun _=>ZaF _ (fun _=>?_) fun _=>?_) fun _=>Zal
    · exact Zd3 (fun m=>AV.vs k (.own m 0) []) _
    · exact Zd3 (fun m=>AV.rs ag k m 0 n.toNat c.toNat) _
  · exact Zal
def mapF (d:TypeDesc) (k v:AV):AObj→Option (AV × AObj)
  | .map es c=>if ZcY d k then match Zcw k es 0 with
    | some (some (i,_))=>some (AV.tuple [],AObj.map (es.set i (k,v,(es.getD i (.undef,.undef,0)).2.2)) c)
    | some none=>some (AV.tuple [],AObj.map (es++[(k,v,c)]) (c+1))
    | none=>none else none
  | _=>none
theorem ZCE (d:TypeDesc) (m k v:AV):Frm (Zd2 d m k v):=by
  cases m with
  | map t =>
    refine Zbf (Zf4 t (mapF d k v) rfl (fun z u y h=>?_)) fun H=>?_
    · unfold mapF at h
      split at h
      · split at h
        · split at h
          · injection h with h
            injection h with h1 h2
            subst h2
            simp
          · injection h with h
            injection h with h1 h2
            subst h2
            simp
          · cases h
        · cases h
      · cases h
    · unfold Zd2 mapF
      dsimp only
      rcases H[t]? with _ | z
      · rfl
      · cases z with
        | map es c =>
          dsimp only
          cases ZcY d k with
          | false=>rfl
          | true =>
          simp only [if_true]
          cases Zcw k es 0 with
          | none=>rfl
          | some q=>cases q with
            | none=>rfl
            | some q=>rfl
        | _=>rfl
  | _=>exact Zal
def delF (d:TypeDesc) (k:AV):AObj→Option (AV × AObj)
  | .map es c=>if ZcY d k then match Zcw k es 0 with
    | some (some (i,_))=>some (AV.tuple [],AObj.map (es.eraseIdx i) c)
    | some none=>some (AV.tuple [],AObj.map es c)
    | none=>none else none
  | _=>none
theorem ZCD (d:TypeDesc) (m k:AV):Frm (Zob d m k):=by
  cases m with
  | map t =>
    refine Zbf (Zf4 t (delF d k) rfl (fun z u y h=>?_)) fun H=>?_
    · unfold delF at h
      split at h
      · split at h
        · split at h
          · injection h with h
            injection h with h1 h2
            subst h2
            simp
          · injection h with h
            injection h with h1 h2
            subst h2
            simp
          · cases h
        · cases h
      · cases h
    · unfold Zob delF
      dsimp only
      rcases H[t]? with _ | z
      · rfl
      · cases z with
        | map es c =>
          dsimp only
          cases ZcY d k with
          | false=>rfl
          | true =>
          simp only [if_true]
          cases Zcw k es 0 with
          | none=>rfl
          | some q=>cases q with
            | none=>rfl
            | some q=>rfl
        | _=>rfl
  | _=>exact Zal
theorem ZHY (x:AV):Frm (abox x):=by
  unfold abox
  exact ZaF _ (fun _=>Zd3 (fun n=>AV.ptr n 0) _) fun _=>Zal

section
variable {C:Cfg} {call:Zav}
def Zc4 (call:Zav):Prop:=∀ f args,Frm (call f args)

theorem ZGS (g:List AV→Hp→Option (AV × Hp)) (args:List AV):Frm (Za5 g args):=by
  intro H v H' h
  have key:H'=H∧∀ H2,Za5 g args H2=some (v,H2):=by
    unfold Za5 at h ⊢
    split at h
    · split at h
      · split at h
        · injection h with h
          injection h with h1 h2
          subst h1 h2
          exact ⟨rfl,fun H2=>rfl⟩
        · cases h
      · cases h
    · cases h
  obtain ⟨rfl,h2⟩:=key
  exact ⟨Nat.le_refl _,fun o _ ho=>⟨ho,fun x=>h2 _⟩⟩
theorem ZJH {g:List AV→Hp→Option (AV × Hp)} (hg:∀ args,Frm (g args)) (args:List AV):Frm (roC g args):=by
  intro H v H' h
  unfold roC at h ⊢
  split at h
  · rename_i v1 H1 hc
    split at h
    · rename_i ht
      have ht:=ZxZ _ _ ht
      split at h
      · rename_i v2 hcl
        simp only [Option.some.injEq,Prod.mk.injEq] at h
        obtain ⟨rfl,rfl⟩:=h
        refine ⟨Nat.le_refl _,fun o ho hf=>⟨hf,fun x=>?_⟩⟩
        have h1:H1[o]?=some .free:=by
          rw [← ht,List.getElem?_take_of_lt ho] at hf
          exact hf
        obtain ⟨_,hx⟩:=hg args H v1 H1 hc
        obtain ⟨_,hx⟩:=hx o ho h1
        rw [hx x]
        simp only
        have h2:(H1.set o x).take (H.set o x).length=H.set o x:=by
          rw [List.length_set,List.take_set,ht]
        rw [h2,if_pos (Zyn _)]
        have h3:Za6 (H1.set o x) (H.set o x).length 6 v1=some v2:=by
          rw [List.length_set]
          exact Zyj H.length 6 v1 H1 v2 hcl o h1 x
        rw [h3]
      · cases h
    · cases h
  · cases h
theorem ZEb (hc:Zc4 call) (id:FuncId) (args:List AV):Frm (Zbs C call id args):=by
  unfold Zbs
  cases C.ext id with
  | some e =>
    simp only
    unfold extC
    cases extA e args with
    | none=>exact Zal
    | some v=>exact Zc9 v
  | none =>
    cases C.sum id with
    | some g =>
      simp only
      unfold sumC
      cases g args with
      | none=>exact Zal
      | some v=>exact Zc9 v
    | none =>
      simp only
      cases C.eff id with
      | some g=>exact g.frm args
      | none=>exact ZaF _ (fun _=>ZaF _ (fun _=>ZGS _ _) fun _=>ZaF _ (fun _=>ZJH (hc id) args) fun _=>hc id args) fun _=>Zal
theorem ZzS (hc:Zc4 call) (f:AV) (args:List AV):Frm (ZaN C call f args):=by
  unfold ZaN
  split
  · exact ZEb hc _ _
  · exact Zal

theorem ZEH (x:AV):Frm (Zf1 x):=by
  unfold Zf1
  have hr:Rdm (ZdK x):=by
    unfold ZdK
    split
    · exact ZHo none
    · exact ZiD 1 x
  have:Frm fun H=>(match ZdK x H with | some l=>(match ZcI l with | some s=>some (AV.str s,H) | none=>none) | none=>none):=by
    refine Zbf (ZsM hr (g:=fun l H=>match ZcI l with | some s=>some (AV.str s,H) | none=>none) fun l=>?_) fun H=>?_
    · cases ZcI l with
      | none=>exact Zal
      | some s=>exact Zc9 _
    · cases ZdK x H <;> rfl
  exact this
theorem ZGF (x:AV):Frm (Zp2 x):=by
  unfold Zp2
  cases x with
  | str s=>exact Zd3 (fun n=>AV.ws false 1 n 0 s.length) _
  | _=>exact Zal
theorem ZEd (hc:Zc4 call) (f:AV) (args:List AV):Frm (Zbt C call f args):=by
  unfold Zbt qC
  split
  · exact ZaF _ (fun _=>ZzS hc _ _) fun _=>Zal
  · exact Zal
theorem ZGb (hc:Zc4 call) (ev:Operand→AV) (op:Op):Frm fun H=>Zaw C call ev H op:=by
  cases op with
  | alloc e =>
    simp only [Zaw]
    split
    · split
      · exact ZaF _ (fun _=>Zd3 (fun n=>AV.ptr n 0) _) fun _=>Zal
      · exact ZaF _ (fun _=>Zd3 (fun n=>AV.ptr n 0) _) fun _=>Zal
    · exact Zal
  | box e x=>exact ZHY _
  | load t a =>
    simp only [Zaw]
    split
    · exact ZDL (ZzT _ _ _)
    · exact Zal
  | store t a x =>
    simp only [Zaw]
    split
    · exact ZCJ _ _ _
    · exact Zal
  | makeSlice t l c =>
    simp only [Zaw]
    split
    · split
      · exact ZGf _ _ _ _ _ _
      · exact Zal
    · exact Zal
  | convert s d x =>
    simp only [Zaw]
    split
    · exact ZaF _ (fun _=>ZEH _) fun _=>Zal
    · exact ZaF _ (fun _=>ZGF _) fun _=>Zal
    · exact Zal
  | makeMap t r =>
    cases r with
    | none=>exact Zd3 (fun n=>AV.map n) _
    | some r=>exact Zal
  | lookup t x k ck =>
    simp only [Zaw]
    split
    · split
      · exact ZDL (ZCC _ _ _ _ _)
      · exact Zal
    · exact Zal
  | mapUpdate t m k x =>
    simp only [Zaw]
    split
    · exact ZCE _ _ _ _
    · exact Zal
  | call cl =>
    obtain ⟨callee,args,ts⟩:=cl
    cases callee with
    | value f=>exact ZaF _ (fun _=>ZEd hc _ _) fun _=>ZzS hc _ _
    | invoke r m=>exact Zal
    | builtin b =>
      cases b <;> first | exact Zal | skip
      case append =>
        simp only [Zaw]
        split
        · split
          · refine ZaF _ (fun _=>Zal) fun _=>?_
            split
            · refine ZaF _ (fun _=>?_) fun _=>Zal
              split
              · exact ZEa _ _ _ _ _
              · exact ZG8 _ _ _ _
            · exact Zal
          · exact Zal
        · exact Zal
      case delete =>
        simp only [Zaw]
        split
        · split
          · exact ZCD _ _ _
          · exact Zal
        · exact Zal
      case len =>
        simp only [Zaw]
        split
        · split
          · exact ZDL (ZGc _)
          · exact Zal
        · exact Zal
      case copy =>
        simp only [Zaw]
        split
        · split
          · split
            · exact ZaF _ (fun _=>ZGa _ _ _) fun _=>Zal
            · exact Zal
          · exact Zal
        · exact Zal
  | _=>exact Zal
theorem ZJc (hc:Zc4 call) (ev:Operand→AV) (fl:Bool) (op:Op):Frm fun H=>aop C call ev H fl op:=by
  unfold aop
  cases ZaD C ev op with
  | some v=>exact Zc9 v
  | none=>exact ZaF _ (fun _=>Zal) fun _=>ZGb hc ev op
theorem ZII (hc:Zc4 call) (ops:Array Oper) (fl:Bool) (o:Oper) (tm:List AV):Frm (oVal C call ops fl o tm):=by
  unfold oVal
  cases Zcm ops tm o with
  | none=>exact Zal
  | some b =>
    cases b with
    | false=>exact Zc9 _
    | true=>exact ZJc hc _ _ _
end
end Go.Am
