/- THE ABSTRACT MACHINE -/
import Derived.Test.YtnaneekpogohaaaGreatDoorHmKx
open List renaming getElem?_set_ne->zC,length_set->zF
open Nat renaming le_refl->zB
open Option.some renaming injEq->zD
open Prod.mk renaming injEq->zG
open Go.Am.AObj renaming map->zE,cells->zI
open Go.Am.AV renaming tuple->zA,cells->zH
namespace Go.Am
def Rdm {α:Type}(r:Hp->Option α):Prop:=∀ H v,r H=some v->∀ o,H[o]?=some .free->∀ x,r (H.set o x)=some v
theorem Nb {H:Hp}{o t:Nat}{y:AObj}(h:(H.set t y)[o]?=some .free)(hy:y≠.free):o≠t/\H[o]?=some .free:=by
  by_cases e:t=o
  · subst e
    exfalso;by_cases hl:t<H.length
    · simp[hl]at h;exact hy h
    · simp[hl]at h
  · rw[zC e]at h
    exact⟨fun h'=>e h'.symm,h⟩
theorem ZdZ {H l:Hp}{o:Nat}(ho:o<H.length)(h:(H++l)[o]?=some .free):H[o]?=some .free/\∀ x,(H++l).set o x=H.set o x++l:=by
  rw[List.getElem?_append_left ho]at h;exact⟨h,fun x=>List.set_append_left _ _ ho⟩
theorem GW {H:Hp}{o t:Nat}{z:AObj}(h:H[o]?=some .free)(ht:H[t]?=some z)(hz:z≠.free)(x:AObj):o≠t/\(H.set o x)[t]?=some z:=by
  have hne:o≠t:=by
    rintro rfl
    rw[h]at ht;injection ht with ht;exact hz ht.symm
  exact⟨hne,by rw[zC hne];exact ht⟩
theorem Zry {α:Type}{r:Hp->Option α}(h:Rdm r):Xf fun H=>(r H).map (·,H):=by
  intro H v H' hg
  cases hr:r H with
  |none=>simp[hr]at hg
  |some u =>
    simp[hr]at hg;obtain⟨rfl,rfl⟩:=hg;refine⟨zB _,fun o _ ho=>⟨ho,fun x=>?_⟩⟩;simp[h H u hr o ho x]
theorem ZwD {α:Type}(r:Option α):Rdm fun _=>r:=fun _ _ h _ _ _=>h
theorem Zv {α:Type}:Xf fun _=>(none:Option (α×Hp)):=fun _ _ _ h=>by cases h
theorem V7 {α:Type}(v:α):Xf fun H=>some (v,H):=by
  intro H v H' h;injection h with h;injection h with h1 h2;subst h1 h2;exact⟨zB _,fun o _ ho=>⟨ho,fun x=>rfl⟩⟩
theorem Uo {α:Type}(g:Nat->α)(l:Hp):Xf fun H=>some (g H.length,H++l):=by
  intro H v H' h;injection h with h;injection h with h1 h2;subst h1 h2;refine⟨by simp,fun o ho hf=>?_⟩;obtain⟨h1,h2⟩:=ZdZ ho hf;exact⟨h1,fun x=>by simp[h2]⟩
theorem ZeJ {α β:Type}{r:Hp->Option α}{g:α->Hp->Option (β×Hp)}(hr:Rdm r)(hg:∀ a,Xf (g a)):Xf fun H=>match r H with|some a=>g a H|none=>none:=by
  intro H v H' h;simp only at h
  cases ha:r H with
  |none=>simp[ha]at h
  |some a =>
    simp only[ha]at h;obtain⟨h1,h2⟩:=hg a H v H' h;refine⟨h1,fun o ho hf=>?_⟩;obtain⟨h3,h4⟩:=h2 o ho hf;exact⟨h3,fun x=>by simp only[hr H a ha o h3 x];exact h4 x⟩
theorem Xp {α:Type}{g g':Hp->Option (α×Hp)}(h:Xf g)(he:∀ H,g' H=g H):Xf g':=by
  intro H v H' hh;rw[he]at hh;obtain⟨h1,h2⟩:=h H v H' hh;exact⟨h1,fun o ho hf=>⟨(h2 o ho hf).1,fun x=>by rw[he];exact (h2 o ho hf).2 x⟩⟩
theorem Ye {α:Type}(c:Prop)[Decidable c]{g g':Hp->Option (α×Hp)}(h:c->Xf g)(h':¬ c->Xf g'):Xf fun H=>if c then g H else g' H:=by
  by_cases hc:c
  · exact Xp (h hc) fun H=>if_pos hc
  · exact Xp (h' hc) fun H=>if_neg hc
theorem GI {α:Type}(t:Nat)(f:AObj->Option (α×AObj))(hf:f .free=none)(hy:∀ z v y,f z=some (v,y)->y≠.free):Xf fun H=>match H[t]? with|some z=>(match f z with|some (v,y)=>some (v,H.set t y)|none=>none)|none=>none:=by
  intro H v H' h;simp only at h
  cases hz:H[t]? with
  |none=>simp[hz]at h
  |some z =>
    simp only[hz]at h
    cases hfz:f z with
    |none=>simp[hfz]at h
    |some p =>
      obtain⟨u,y⟩:=p;simp only[hfz,zD,zG]at h;obtain⟨rfl,rfl⟩:=h;refine⟨by simp,fun o ho hfr=>?_⟩;obtain⟨h1,h2⟩:=Nb hfr (hy z _ y hfz);refine⟨h2,fun x=>?_⟩;have hz':z≠.free:=by rintro rfl;rw[hf]at hfz;cases hfz
      obtain⟨h3,h4⟩:=GW h2 hz hz' x;simp only[h4,hfz];rw[List.set_comm _ _ h3]
theorem Zm4 (g:Bool)(sz:Nat)(a:AV):Rdm (Z3 g sz a):=by
  intro H v h o ho x
  cases a with
  |ptr t off =>
    simp only[Z3]at h ⊢
    cases hz:H[t]? with
    |none=>simp[hz]at h
    |some z =>
      have hz':z≠.free:=by rintro rfl;simp[hz]at h
      rw[(GW ho hz hz' x).2];rw[hz]at h;exact h
  |wp t e off =>
    simp only[Z3]at h ⊢
    cases hz:H[t]? with
    |none=>simp[hz]at h
    |some z =>
      have hz':z≠.free:=by rintro rfl;simp[hz]at h
      rw[(GW ho hz hz' x).2];rw[hz]at h;exact h
  |_=>exact h
theorem Py (k:Nat)(a:AV):Rdm (elems k a):=by
  intro H v h o ho x
  cases a with
  |rs ag k' t off len cap =>
    simp only[elems]at h ⊢
    cases hz:H[t]? with
    |none=>simp[hz]at h
    |some z =>
      have hz':z≠.free:=by rintro rfl;simp[hz]at h
      rw[(GW ho hz hz' x).2];rw[hz]at h;exact h
  |ws ag k' t e len =>
    simp only[elems]at h ⊢
    cases hz:H[t]? with
    |none=>simp[hz]at h
    |some z =>
      have hz':z≠.free:=by rintro rfl;simp[hz]at h
      rw[(GW ho hz hz' x).2];rw[hz]at h;exact h
  |_=>exact h
theorem Zi7 (a:AV):Rdm (Xj a):=by
  intro H v h o ho x
  cases a with
  |map t =>
    simp only[Xj]at h ⊢
    cases hz:H[t]? with
    |none=>simp[hz]at h
    |some z =>
      have hz':z≠.free:=by rintro rfl;simp[hz]at h
      rw[(GW ho hz hz' x).2];rw[hz]at h;exact h
  |_=>exact h
theorem Zq5 (d:TypeDesc)(z:AV)(ck:Bool)(a k:AV):Rdm (Y8 d z ck a k):=by
  intro H v h o ho x;unfold Y8 at h ⊢
  cases he:Xj a H with
  |none=>simp[he]at h
  |some es=>rw[Zi7 a H es he o ho x];rw[he]at h;exact h
theorem ZuQ (a:AV):Rdm (JL a):=by
  intro H v h o ho x;unfold JL at h ⊢
  cases he:Xj a H with
  |none=>simp[he]at h
  |some es=>rw[Zi7 a H es he o ho x];rw[he]at h;exact h
theorem Zkh (n:Nat):∀ (f:Nat) (a:AV),Rdm fun H=>Ze H n f a:=by
  intro f
  induction f with
  |zero=>intro a H v h;cases h
  |succ f ih =>
    intro a H v h o ho x;have lst:∀ l l':List AV,l.mapM (Ze H n f)=some l'->l.mapM (Ze (H.set o x) n f)=some l':=fun l l' hl=>Zpt (fun a b hab=>ih a H b hab o ho x) hl
    cases a with
    |vp cells =>
      simp only[Ze]at h ⊢
      cases hm:cells.mapM (Ze H n f) with
      |none=>simp[hm]at h
      |some l=>rw[lst _ _ hm];rw[hm]at h;exact h
    |vs k tok l =>
      simp only[Ze]at h ⊢
      cases hm:l.mapM (Ze H n f) with
      |none=>simp[hm]at h
      |some l'=>rw[lst _ _ hm];rw[hm]at h;exact h
    |rs ag k t off len cap =>
      simp only[Ze]at h ⊢;split at h
      · rename_i hlt;rw[if_pos hlt];exact h
      · rename_i hlt
        rw[if_neg hlt]
        cases hel:elems k (.rs ag k t off len cap) H with
        |none=>simp[hel]at h
        |some l =>
          rw[Py _ _ H l hel o ho x];simp only[hel]at h ⊢
          cases hm:l.mapM (Ze H n f) with
          |none=>simp[hm]at h
          |some l'=>rw[lst _ _ hm];rw[hm]at h;exact h
    |ws ag k t e len =>
      simp only[Ze]at h ⊢;split at h
      · rename_i hlt;rw[if_pos hlt];exact h
      · rename_i hlt
        rw[if_neg hlt]
        cases hel:elems k (.ws ag k t e len) H with
        |none=>simp[hel]at h
        |some l =>
          rw[Py _ _ H l hel o ho x];simp only[hel]at h ⊢
          cases hm:l.mapM (Ze H n f) with
          |none=>simp[hm]at h
          |some l'=>rw[lst _ _ hm];rw[hm]at h;exact h
    |fn fn a b =>
      simp only[Ze]at h ⊢
      cases hm:a.mapM (Ze H n f) with
      |none=>simp[hm]at h
      |some l =>
        cases hm2:b.mapM (Ze H n f) with
        |none=>simp[hm,hm2]at h
        |some l2=>rw[lst _ _ hm,lst _ _ hm2];rw[hm,hm2]at h;exact h
    |iface t v' =>
      simp only[Ze]at h ⊢
      cases hm:Ze H n f v' with
      |none=>simp[hm]at h
      |some l =>
        have h3:Ze (H.set o x) n f v'=some l:=ih v' H l hm o ho x;rw[h3];rw[hm]at h;exact h
    |agg l =>
      simp only[Ze]at h ⊢
      cases hm:l.mapM (Ze H n f) with
      |none=>simp[hm]at h
      |some l'=>rw[lst _ _ hm];rw[hm]at h;exact h
    |tuple l =>
      simp only[Ze]at h ⊢
      cases hm:l.mapM (Ze H n f) with
      |none=>simp[hm]at h
      |some l'=>rw[lst _ _ hm];rw[hm]at h;exact h
    |_=>exact h
def ZnG (sz off:Nat)(v:AV):AObj->Option (AV×AObj)
  |.cells l=>if v.known=true/\v.cells.length=sz/\off+sz<=l.length then some (zA [],zI (splice l off v.cells)) else none
  |_=>none
def ZnH (sz e off:Nat)(v:AV):AObj->Option (AV×AObj)
  |.row e' l=>if e'=e/\v.known=true/\v.cells.length=sz/\off+sz<=l.length then some (zA [],AObj.row e (splice l off v.cells)) else none
  |_=>none
theorem Zqa (sz:Nat)(a v:AV):Xf (Za sz a v):=by
  cases a with
  |ptr t off =>
    refine Xp (GI t (ZnG sz off v) rfl (fun z u y h=>?_)) fun H=>?_
    · unfold ZnG at h
      split at h
      · split at h
        · injection h with h
          injection h with h1 h2;subst h2;simp
        · cases h
      · cases h
    · unfold Za YX ZnG
      dsimp only;rcases H[t]? with _|z
      · rfl
      · cases z with
        |cells l =>
                     dsimp only;by_cases hc:v.known=true/\v.cells.length=sz/\off+sz<=l.length
                     · rw[if_pos hc,if_pos hc]
                     · rw[if_neg hc,if_neg hc]
        |_=>rfl
  |wp t e off =>
    refine Xp (GI t (ZnH sz e off v) rfl (fun z u y h=>?_)) fun H=>?_
    · unfold ZnH at h
      split at h
      · split at h
        · injection h with h
          injection h with h1 h2;subst h2;simp
        · cases h
      · cases h
    · unfold Za YX ZnH
      dsimp only;rcases H[t]? with _|z
      · rfl
      · cases z with
        |row e' l =>
                     dsimp only;by_cases hc:e'=e/\v.known=true/\v.cells.length=sz/\off+sz<=l.length
                     · rw[if_pos hc,if_pos hc]
                     · rw[if_neg hc,if_neg hc]
        |_=>rfl
  |_=>exact Zv
theorem Lq (k bytes:Nat)(s:AV)(xs:List AV):Xf (YN k bytes s xs):=by
  cases s with
  |nils =>
    unfold YN;exact Ye _ (fun _=>V7 _) fun _=>Ye _ (fun _=>Uo (fun n=>AV.vs k (.own n xs.length) xs) _) fun _=>Zv
  |vs k' tok l =>
    unfold YN;refine Ye _ (fun _=>Ye _ (fun _=>V7 _) fun _=>?_) fun _=>Zv
    cases tok with
    |no=>exact Zv
    |clip=>exact Uo (fun n=>AV.vs k (.own n (l.length+xs.length)) (l++xs)) _
    |own t e =>
      refine Xp (GI t (fun z=>match z with|.tok e'=>if e'=e then some (AV.vs k (.own t (e+xs.length)) (l++xs),AObj.tok (e+xs.length)) else none|_=>none) rfl (fun z u y h=>?_)) fun H=>?_
      · split at h
        · split at h
          · injection h with h
            injection h with h1 h2;subst h2;simp
          · cases h
        · cases h
      · dsimp only
        rcases H[t]? with _|z
        · rfl
        · cases z with
          |tok e' =>
                       dsimp only;by_cases hc:e'=e
                       · rw[if_pos hc,if_pos hc]
                       · rw[if_neg hc,if_neg hc]
          |_=>rfl
  |_=>exact Zv
theorem ZuK (k bytes:Nat)(s x:AV):Xf (Y9 k bytes s x):=by
  unfold Y9;refine Xp (ZeJ (Py k x) fun xs=>Lq k bytes s xs) fun H=>?_;cases elems k x H <;> rfl
def ZwM (ag:Bool)(k o e len:Nat)(xs:List AV):AObj->Option (AV×AObj)
  |.row e' l=>if e'=e/\len*k<=l.length then some (AV.ws ag k o (e+1) (len+xs.length),AObj.row (e+1) (Zqq (len*k) l++(xs.map zH).flatten)) else none
  |_=>none
theorem ZuL (ag:Bool)(k bytes:Nat)(s:AV)(xs:List AV):Xf (Fh ag k bytes s xs):=by
  cases s with
  |nils =>
    unfold Fh;exact Ye _ (fun _=>V7 _) fun _=>Ye _ (fun _=>Uo (fun n=>AV.ws ag k n 0 xs.length) _) fun _=>Zv
  |vs k' tok l =>
    cases tok with
    |clip =>
      unfold Fh;exact Ye _ (fun _=>Ye _ (fun _=>V7 _) fun _=>Uo (fun n=>AV.ws ag k n 0 (l.length+xs.length)) _) fun _=>Zv
    |no=>exact Xp (Lq k bytes (.vs k' .no l) xs) fun H=>rfl
    |own t e=>exact Xp (Lq k bytes (.vs k' (.own t e) l) xs) fun H=>rfl
  |ws ag' k' t e len =>
    unfold Fh;refine Ye _ (fun _=>Ye _ (fun _=>V7 _) fun _=>?_) fun _=>Zv;refine Xp (GI t (ZwM ag k t e len xs) rfl (fun z u y h=>?_)) fun H=>?_
    · unfold ZwM at h
      split at h
      · split at h
        · injection h with h
          injection h with h1 h2;subst h2;simp
        · cases h
      · cases h
    · unfold ZwM
      rcases H[t]? with _|z
      · rfl
      · cases z with
        |row e' l =>
                     dsimp only;by_cases hc:e'=e/\len*k<=l.length
                     · rw[if_pos hc,if_pos hc]
                     · rw[if_neg hc,if_neg hc]
        |_=>rfl
  |_=>first|exact Xp (Lq k bytes _ xs) fun H=>rfl|exact Zv
theorem Zs6 (ag:Bool)(k bytes:Nat)(s x:AV):Xf (Gy ag k bytes s x):=by
  unfold Gy;refine Xp (ZeJ (Py k x) fun xs=>ZuL ag k bytes s xs) fun H=>?_;cases elems k x H <;> rfl
def Zxd (k:Nat)(d:AV)(xs:List AV)(H:Hp):Option (AV×Hp) :=
  match d with
    |.nils=>if xs=[] then some (.int .i64 0,H) else none
    |.vs _ _ _=>if xs=[] then some (.int .i64 0,H) else none
    |.rs _ k' o off len _=>if xs=[] then some (.int .i64 0,H) else if k'=k/\xs.length<=len then match H[o]? with
      |some (.cells cs)=>if off+xs.length*k<=cs.length then some (.int .i64 xs.length,H.set o (.cells (splice cs off (xs.map zH).flatten))) else none
      |_=>none else none
    |_=>none
theorem ZuN (k:Nat)(d x:AV):Xf (Hi k d x):=by
  have key:∀ xs,Xf (Zxd k d xs):=fun xs=>?_
  · unfold Hi
    refine Xp (ZeJ (Py k x) key) fun H=>?_;cases elems k x H <;> rfl
  unfold Zxd
  cases d with
  |nils=>exact Ye _ (fun _=>V7 _) fun _=>Zv
  |vs _ _ _=>exact Ye _ (fun _=>V7 _) fun _=>Zv
  |rs ag k' t off len cap =>
    refine Ye _ (fun _=>V7 _) fun _=>Ye _ (fun _=>?_) fun _=>Zv;refine Xp (GI t (fun z=>match z with|.cells cs=>if off+xs.length*k<=cs.length then some (AV.int .i64 xs.length,zI (splice cs off (xs.map zH).flatten)) else none|_=>none) rfl (fun z u y h=>?_)) fun H=>?_
    · split at h
      · split at h
        · injection h with h
          injection h with h1 h2;subst h2;simp
        · cases h
      · cases h
    · skip
      rcases H[t]? with _|z
      · rfl
      · cases z with
        |cells l =>
                     dsimp only;by_cases hc:off+xs.length*k<=l.length
                     · rw[if_pos hc,if_pos hc]
                     · rw[if_neg hc,if_neg hc]
        |_=>rfl
  |_=>exact Zv
theorem ZuT (k bytes:Nat)(ag:Bool)(z len cap:AV):Xf (JM k bytes ag z len cap):=by
  unfold JM;split
  · rename_i n c
    refine Ye _ (fun _=>Ye _ (fun _=>?_) fun _=>?_) fun _=>Zv
    · exact Uo (fun m=>AV.vs k (.own m 0) []) _
    · exact Uo (fun m=>AV.rs ag k m 0 n.toNat c.toNat) _
  · exact Zv
def Zwl (d:TypeDesc)(k v:AV):AObj->Option (AV×AObj)
  |.map es c=>if Wj d k then match YS k es 0 with
    |some (some (i,_))=>some (zA [],zE (es.set i (k,v,(es.getD i (.undef,.undef,0)).2.2)) c)
    |some none=>some (zA [],zE (es++[(k,v,c)]) (c+1))
    |none=>none else none
  |_=>none
theorem ZhP (d:TypeDesc)(m k v:AV):Xf (Xv d m k v):=by
  cases m with
  |map t =>
    refine Xp (GI t (Zwl d k v) rfl (fun z u y h=>?_)) fun H=>?_
    · unfold Zwl at h
      split at h
      · split at h
        · split at h
          · injection h with h
            injection h with h1 h2;subst h2;simp
          · injection h with h
            injection h with h1 h2;subst h2;simp
          · cases h
        · cases h
      · cases h
    · unfold Xv Zwl
      dsimp only;rcases H[t]? with _|z
      · rfl
      · cases z with
        |map es c =>
          dsimp only
          cases Wj d k with
          |false=>rfl
          |true =>
          simp only[if_true]
          cases YS k es 0 with
          |none=>rfl
          |some q=>cases q with
            |none=>rfl
            |some q=>rfl
        |_=>rfl
  |_=>exact Zv
def Zvu (d:TypeDesc)(k:AV):AObj->Option (AV×AObj)
  |.map es c=>if Wj d k then match YS k es 0 with
    |some (some (i,_))=>some (zA [],zE (es.eraseIdx i) c)
    |some none=>some (zA [],zE es c)
    |none=>none else none
  |_=>none
theorem Zq6 (d:TypeDesc)(m k:AV):Xf (Jj d m k):=by
  cases m with
  |map t =>
    refine Xp (GI t (Zvu d k) rfl (fun z u y h=>?_)) fun H=>?_
    · unfold Zvu at h
      split at h
      · split at h
        · split at h
          · injection h with h
            injection h with h1 h2;subst h2;simp
          · injection h with h
            injection h with h1 h2;subst h2;simp
          · cases h
        · cases h
      · cases h
    · unfold Jj Zvu
      dsimp only;rcases H[t]? with _|z
      · rfl
      · cases z with
        |map es c =>
          dsimp only
          cases Wj d k with
          |false=>rfl
          |true =>
          simp only[if_true]
          cases YS k es 0 with
          |none=>rfl
          |some q=>cases q with
            |none=>rfl
            |some q=>rfl
        |_=>rfl
  |_=>exact Zv
theorem Zxr (x:AV):Xf (ZO x):=by
  unfold ZO;exact Ye _ (fun _=>Uo (fun n=>AV.ptr n 0) _) fun _=>Zv
section
variable {C:Cfg}{call:ZF}
def Xx (call:ZF):Prop:=∀ f args,Xf (call f args)
theorem ZvO (g:List AV->Hp->Option (AV×Hp))(args:List AV):Xf (Zh g args):=by
  intro H v H' h
  have key:H'=H/\∀ H2,Zh g args H2=some (v,H2):=by
    unfold Zh at h ⊢;split at h
    · split at h
      · split at h
        · injection h with h
          injection h with h1 h2;subst h1 h2;exact⟨rfl,fun H2=>rfl⟩
        · cases h
      · cases h
    · cases h
  obtain⟨rfl,h2⟩:=key;exact⟨zB _,fun o _ ho=>⟨ho,fun x=>h2 _⟩⟩
theorem Zzp {g:List AV->Hp->Option (AV×Hp)}(hg:∀ args,Xf (g args))(args:List AV):Xf (Jr g args):=by
  intro H v H' h;unfold Jr at h ⊢;split at h
  · rename_i v1 H1 hc
    split at h
    · rename_i ht
      have ht:=ZjH _ _ ht;split at h
      · rename_i v2 hcl
        simp only[zD,zG]at h;obtain⟨rfl,rfl⟩:=h;refine⟨zB _,fun o ho hf=>⟨hf,fun x=>?_⟩⟩
        have h1:H1[o]?=some .free:=by
          rw[<-ht,List.getElem?_take_of_lt ho]at hf;exact hf
        obtain⟨_,hx⟩:=hg args H v1 H1 hc;obtain⟨_,hx⟩:=hx o ho h1;rw[hx x];simp only
        have h2:(H1.set o x).take (H.set o x).length=H.set o x:=by
          rw[zF,List.take_set,ht]
        rw[h2,if_pos (Zdq _)]
        have h3:Ze (H1.set o x) (H.set o x).length 9 v1=some v2:=by
          rw[zF];exact Zkh H.length 9 v1 H1 v2 hcl o h1 x
        rw[h3]
      · cases h
    · cases h
  · cases h
theorem Zs7 (hc:Xx call)(id:FuncId)(args:List AV):Xf (Xy C call id args):=by
  unfold Xy
  cases C.ext id with
  |some e =>
    simp only;unfold Za9
    cases ZmI e args with
    |none=>exact Zv
    |some v=>exact V7 v
  |none =>
    cases C.sum id with
    |some g =>
      simp only;unfold ZaX
      cases g args with
      |none=>exact Zv
      |some v=>exact V7 v
    |none =>
      simp only
      cases C.eff id with
      |some g=>exact g.frm args
      |none=>exact Ye _ (fun _=>Ye _ (fun _=>ZvO _ _) fun _=>Ye _ (fun _=>Zzp (hc id) args) fun _=>hc id args) fun _=>Zv
theorem Zgv (hc:Xx call)(f:AV)(args:List AV):Xf (Yf C call f args):=by
  unfold Yf;split
  · exact Zs7 hc _ _
  · exact Zv
theorem ZsI (x:AV):Xf (GD x):=by
  unfold GD
  have hr:Rdm (Jm x):=by
    unfold Jm;split
    · exact ZwD none
    · exact Py 1 x
  have:Xf fun H=>(match Jm x H with|some l=>(match V6 l with|some s=>some (AV.str s,H)|none=>none)|none=>none):=by
    refine Xp (ZeJ hr (g:=fun l H=>match V6 l with|some s=>some (AV.str s,H)|none=>none) fun l=>?_) fun H=>?_
    · cases V6 l with
      |none=>exact Zv
      |some s=>exact V7 _
    · cases Jm x H <;> rfl
  exact this
theorem Zvs (x:AV):Xf (OV x):=by
  unfold OV
  cases x with
  |str s=>exact Uo (fun n=>AV.ws false 1 n 0 s.length) _
  |_=>exact Zv
theorem Zs9 (hc:Xx call)(f:AV)(args:List AV):Xf (Xz C call f args):=by
  unfold Xz qC;split
  · exact Ye _ (fun _=>Zgv hc _ _) fun _=>Zv
  · exact Zv
theorem ZuP (hc:Xx call)(ev:Operand->AV)(op:Op):Xf fun H=>ZE C call ev H op:=by
  cases op with
  |alloc e =>
    simp only[ZE];split
    · split
      · exact Ye _ (fun _=>Uo (fun n=>AV.ptr n 0) _) fun _=>Zv
      · exact Ye _ (fun _=>Uo (fun n=>AV.ptr n 0) _) fun _=>Zv
    · exact Zv
  |box e x=>exact Zxr _
  |load t a =>
    simp only[ZE];split
    · exact Zry (Zm4 _ _ _)
    · exact Zv
  |store t a x =>
    simp only[ZE];split
    · exact Ye _ (fun _=>Zqa _ _ _) fun _=>Zv
    · exact Zv
  |makeSlice t l c =>
    simp only[ZE];split
    · split
      · exact ZuT _ _ _ _ _ _
      · exact Zv
    · exact Zv
  |convert s d x =>
    simp only[ZE];split
    · exact Ye _ (fun _=>ZsI _) fun _=>Zv
    · exact Ye _ (fun _=>Zvs _) fun _=>Zv
    · exact Zv
  |makeMap t r =>
    cases r with
    |none=>exact Uo (fun n=>AV.map n) _
    |some r=>exact Zv
  |lookup t x k ck =>
    simp only[ZE];split
    · split
      · exact Zry (Zq5 _ _ _ _ _)
      · exact Zv
    · exact Zv
  |mapUpdate t m k x =>
    simp only[ZE];split
    · exact ZhP _ _ _ _
    · exact Zv
  |insert t m k x =>
    simp only[ZE];split
    · exact ZhP _ _ _ _
    · exact Zv
  |call cl =>
    obtain⟨callee,args,ts⟩:=cl
    cases callee with
    |value f=>exact Ye _ (fun _=>Zs9 hc _ _) fun _=>Zgv hc _ _
    |invoke r m =>
      simp only[ZE];unfold Zm2;split
      · split
        · exact Zgv hc _ _
        · exact Zv
      · exact Zv
    |builtin b =>
      cases b <;> first|exact Zv|skip
      case append =>
        simp only[ZE];split
        · split
          · refine Ye _ (fun _=>Zv) fun _=>?_
            split
            · refine Ye _ (fun _=>?_) fun _=>Zv
              split
              · exact Zs6 _ _ _ _ _
              · exact ZuK _ _ _ _
            · exact Zv
          · exact Zv
        · exact Zv
      case delete =>
        simp only[ZE];split
        · split
          · exact Zq6 _ _ _
          · exact Zv
        · exact Zv
      case len =>
        simp only[ZE];split
        · split
          · exact Zry (ZuQ _)
          · exact Zv
        · exact Zv
      case copy =>
        simp only[ZE];split
        · split
          · split
            · exact Ye _ (fun _=>ZuN _ _ _) fun _=>Zv
            · exact Zv
          · exact Zv
        · exact Zv
  |_=>exact Zv
theorem ZyO (hc:Xx call)(ev:Operand->AV)(fl:Bool)(op:Op):Xf fun H=>Xb C call ev H fl op:=by
  unfold Xb
  cases ZT C ev op with
  |some v=>exact V7 v
  |none=>exact Ye _ (fun _=>Zv) fun _=>ZuP hc ev op
theorem Zyf (hc:Xx call)(ops:Array Oper)(fl:Bool)(o:Oper)(tm:List AV):Xf (Yw C call ops fl o tm):=by
  unfold Yw
  cases WJ ops tm o with
  |none=>exact Zv
  |some b =>
    cases b with
    |false=>exact V7 _
    |true=>exact ZyO hc _ _ _
end
end Go.Am
