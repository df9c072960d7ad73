/- THE ABSTRACT MACHINE -/
import Derived.Test.YtnaneekpogohaaaGreatDoorHmKx
open List renaming getElem?_set_ne->zC,length_set->zF
open Nat renaming le_refl->zB
open Option.some renaming injEq->zD
open Prod.mk renaming injEq->zG
open Go.Am.AObj renaming map->zE,cells->zI
open Go.Am.AV renaming tuple->zA,cells->zH
namespace Go.Am
def Rdm {α:Type}(r:Hp->Option α):Prop:=∀ H v,r H=some v->∀ o,H[o]?=some .free->∀ x,r (H.set o x)=some v
theorem PO {H:Hp}{o t:Nat}{y:AObj}(h:(H.set t y)[o]?=some .free)(hy:y≠.free):o≠t/\H[o]?=some .free:=by
  by_cases e:t=o
  · subst e
    exfalso;by_cases hl:t<H.length
    · simp[hl]at h;exact hy h
    · simp[hl]at h
  · rw[zC e]at h
    exact⟨fun h'=>e h'.symm,h⟩
theorem ZcS {H l:Hp}{o:Nat}(ho:o<H.length)(h:(H++l)[o]?=some .free):H[o]?=some .free/\∀ x,(H++l).set o x=H.set o x++l:=by
  rw[List.getElem?_append_left ho]at h;exact⟨h,fun x=>List.set_append_left _ _ ho⟩
theorem GJ {H:Hp}{o t:Nat}{z:AObj}(h:H[o]?=some .free)(ht:H[t]?=some z)(hz:z≠.free)(x:AObj):o≠t/\(H.set o x)[t]?=some z:=by
  have hne:o≠t:=by
    rintro rfl
    rw[h]at ht;injection ht with ht;exact hz ht.symm
  exact⟨hne,by rw[zC hne];exact ht⟩
theorem Zqd {α:Type}{r:Hp->Option α}(h:Rdm r):Xa fun H=>(r H).map (·,H):=by
  intro H v H' hg
  cases hr:r H with
  |none=>simp[hr]at hg
  |some u =>
    simp[hr]at hg;obtain⟨rfl,rfl⟩:=hg;refine⟨zB _,fun o _ ho=>⟨ho,fun x=>?_⟩⟩;simp[h H u hr o ho x]
theorem Zvc {α:Type}(r:Option α):Rdm fun _=>r:=fun _ _ h _ _ _=>h
theorem Zt {α:Type}:Xa fun _=>(none:Option (α×Hp)):=fun _ _ _ h=>by cases h
theorem V1 {α:Type}(v:α):Xa fun H=>some (v,H):=by
  intro H v H' h;injection h with h;injection h with h1 h2;subst h1 h2;exact⟨zB _,fun o _ ho=>⟨ho,fun x=>rfl⟩⟩
theorem U7 {α:Type}(g:Nat->α)(l:Hp):Xa fun H=>some (g H.length,H++l):=by
  intro H v H' h;injection h with h;injection h with h1 h2;subst h1 h2;refine⟨by simp,fun o ho hf=>?_⟩;obtain⟨h1,h2⟩:=ZcS ho hf;exact⟨h1,fun x=>by simp[h2]⟩
theorem ZdE {α β:Type}{r:Hp->Option α}{g:α->Hp->Option (β×Hp)}(hr:Rdm r)(hg:∀ a,Xa (g a)):Xa fun H=>match r H with|some a=>g a H|none=>none:=by
  intro H v H' h;simp only at h
  cases ha:r H with
  |none=>simp[ha]at h
  |some a =>
    simp only[ha]at h;obtain⟨h1,h2⟩:=hg a H v H' h;refine⟨h1,fun o ho hf=>?_⟩;obtain⟨h3,h4⟩:=h2 o ho hf;exact⟨h3,fun x=>by simp only[hr H a ha o h3 x];exact h4 x⟩
theorem Xk {α:Type}{g g':Hp->Option (α×Hp)}(h:Xa g)(he:∀ H,g' H=g H):Xa g':=by
  intro H v H' hh;rw[he]at hh;obtain⟨h1,h2⟩:=h H v H' hh;exact⟨h1,fun o ho hf=>⟨(h2 o ho hf).1,fun x=>by rw[he];exact (h2 o ho hf).2 x⟩⟩
theorem Yc {α:Type}(c:Prop)[Decidable c]{g g':Hp->Option (α×Hp)}(h:c->Xa g)(h':¬ c->Xa g'):Xa fun H=>if c then g H else g' H:=by
  by_cases hc:c
  · exact Xk (h hc) fun H=>if_pos hc
  · exact Xk (h' hc) fun H=>if_neg hc
theorem Gv {α:Type}(t:Nat)(f:AObj->Option (α×AObj))(hf:f .free=none)(hy:∀ z v y,f z=some (v,y)->y≠.free):Xa fun H=>match H[t]? with|some z=>(match f z with|some (v,y)=>some (v,H.set t y)|none=>none)|none=>none:=by
  intro H v H' h;simp only at h
  cases hz:H[t]? with
  |none=>simp[hz]at h
  |some z =>
    simp only[hz]at h
    cases hfz:f z with
    |none=>simp[hfz]at h
    |some p =>
      obtain⟨u,y⟩:=p;simp only[hfz,zD,zG]at h;obtain⟨rfl,rfl⟩:=h;refine⟨by simp,fun o ho hfr=>?_⟩;obtain⟨h1,h2⟩:=PO hfr (hy z _ y hfz);refine⟨h2,fun x=>?_⟩;have hz':z≠.free:=by rintro rfl;rw[hf]at hfz;cases hfz
      obtain⟨h3,h4⟩:=GJ h2 hz hz' x;simp only[h4,hfz];rw[List.set_comm _ _ h3]
theorem ZkK (g:Bool)(sz:Nat)(a:AV):Rdm (Z3 g sz a):=by
  intro H v h o ho x
  cases a with
  |ptr t off =>
    simp only[Z3]at h ⊢
    cases hz:H[t]? with
    |none=>simp[hz]at h
    |some z =>
      have hz':z≠.free:=by rintro rfl;simp[hz]at h
      rw[(GJ ho hz hz' x).2];rw[hz]at h;exact h
  |wp t e off =>
    simp only[Z3]at h ⊢
    cases hz:H[t]? with
    |none=>simp[hz]at h
    |some z =>
      have hz':z≠.free:=by rintro rfl;simp[hz]at h
      rw[(GJ ho hz hz' x).2];rw[hz]at h;exact h
  |_=>exact h
theorem P7 (k:Nat)(a:AV):Rdm (elems k a):=by
  intro H v h o ho x
  cases a with
  |rs ag k' t off len cap =>
    simp only[elems]at h ⊢
    cases hz:H[t]? with
    |none=>simp[hz]at h
    |some z =>
      have hz':z≠.free:=by rintro rfl;simp[hz]at h
      rw[(GJ ho hz hz' x).2];rw[hz]at h;exact h
  |ws ag k' t e len =>
    simp only[elems]at h ⊢
    cases hz:H[t]? with
    |none=>simp[hz]at h
    |some z =>
      have hz':z≠.free:=by rintro rfl;simp[hz]at h
      rw[(GJ ho hz hz' x).2];rw[hz]at h;exact h
  |_=>exact h
theorem ZgW (a:AV):Rdm (Xe a):=by
  intro H v h o ho x
  cases a with
  |map t =>
    simp only[Xe]at h ⊢
    cases hz:H[t]? with
    |none=>simp[hz]at h
    |some z =>
      have hz':z≠.free:=by rintro rfl;simp[hz]at h
      rw[(GJ ho hz hz' x).2];rw[hz]at h;exact h
  |_=>exact h
theorem ZoL (d:TypeDesc)(z:AV)(ck:Bool)(a k:AV):Rdm (Y9 d z ck a k):=by
  intro H v h o ho x;unfold Y9 at h ⊢
  cases he:Xe a H with
  |none=>simp[he]at h
  |some es=>rw[ZgW a H es he o ho x];rw[he]at h;exact h
theorem Ztt (a:AV):Rdm (Jr a):=by
  intro H v h o ho x;unfold Jr at h ⊢
  cases he:Xe a H with
  |none=>simp[he]at h
  |some es=>rw[ZgW a H es he o ho x];rw[he]at h;exact h
theorem Zj5 (n:Nat):∀ (f:Nat) (a:AV),Rdm fun H=>Zd H n f a:=by
  intro f
  induction f with
  |zero=>intro a H v h;cases h
  |succ f ih =>
    intro a H v h o ho x;have lst:∀ l l':List AV,l.mapM (Zd H n f)=some l'->l.mapM (Zd (H.set o x) n f)=some l':=fun l l' hl=>Zo7 (fun a b hab=>ih a H b hab o ho x) hl
    cases a with
    |vp cells =>
      simp only[Zd]at h ⊢
      cases hm:cells.mapM (Zd H n f) with
      |none=>simp[hm]at h
      |some l=>rw[lst _ _ hm];rw[hm]at h;exact h
    |vs k tok l =>
      simp only[Zd]at h ⊢
      cases hm:l.mapM (Zd H n f) with
      |none=>simp[hm]at h
      |some l'=>rw[lst _ _ hm];rw[hm]at h;exact h
    |rs ag k t off len cap =>
      simp only[Zd]at h ⊢;split at h
      · rename_i hlt;rw[if_pos hlt];exact h
      · rename_i hlt
        rw[if_neg hlt]
        cases hel:elems k (.rs ag k t off len cap) H with
        |none=>simp[hel]at h
        |some l =>
          rw[P7 _ _ H l hel o ho x];simp only[hel]at h ⊢
          cases hm:l.mapM (Zd H n f) with
          |none=>simp[hm]at h
          |some l'=>rw[lst _ _ hm];rw[hm]at h;exact h
    |ws ag k t e len =>
      simp only[Zd]at h ⊢;split at h
      · rename_i hlt;rw[if_pos hlt];exact h
      · rename_i hlt
        rw[if_neg hlt]
        cases hel:elems k (.ws ag k t e len) H with
        |none=>simp[hel]at h
        |some l =>
          rw[P7 _ _ H l hel o ho x];simp only[hel]at h ⊢
          cases hm:l.mapM (Zd H n f) with
          |none=>simp[hm]at h
          |some l'=>rw[lst _ _ hm];rw[hm]at h;exact h
    |fn fn a b =>
      simp only[Zd]at h ⊢
      cases hm:a.mapM (Zd H n f) with
      |none=>simp[hm]at h
      |some l =>
        cases hm2:b.mapM (Zd H n f) with
        |none=>simp[hm,hm2]at h
        |some l2=>rw[lst _ _ hm,lst _ _ hm2];rw[hm,hm2]at h;exact h
    |iface t v' =>
      simp only[Zd]at h ⊢
      cases hm:Zd H n f v' with
      |none=>simp[hm]at h
      |some l =>
        have h3:Zd (H.set o x) n f v'=some l:=ih v' H l hm o ho x;rw[h3];rw[hm]at h;exact h
    |agg l =>
      simp only[Zd]at h ⊢
      cases hm:l.mapM (Zd H n f) with
      |none=>simp[hm]at h
      |some l'=>rw[lst _ _ hm];rw[hm]at h;exact h
    |tuple l =>
      simp only[Zd]at h ⊢
      cases hm:l.mapM (Zd H n f) with
      |none=>simp[hm]at h
      |some l'=>rw[lst _ _ hm];rw[hm]at h;exact h
    |_=>exact h
def Zmk (sz off:Nat)(v:AV):AObj->Option (AV×AObj)
  |.cells l=>if v.known=true/\v.cells.length=sz/\off+sz<=l.length then some (zA [],zI (splice l off v.cells)) else none
  |_=>none
def Zml (sz e off:Nat)(v:AV):AObj->Option (AV×AObj)
  |.row e' l=>if e'=e/\v.known=true/\v.cells.length=sz/\off+sz<=l.length then some (zA [],AObj.row e (splice l off v.cells)) else none
  |_=>none
theorem ZoQ (sz:Nat)(a v:AV):Xa (Zb sz a v):=by
  cases a with
  |ptr t off =>
    refine Xk (Gv t (Zmk sz off v) rfl (fun z u y h=>?_)) fun H=>?_
    · unfold Zmk at h
      split at h
      · split at h
        · injection h with h
          injection h with h1 h2;subst h2;simp
        · cases h
      · cases h
    · unfold Zb YU Zmk
      dsimp only;rcases H[t]? with _|z
      · rfl
      · cases z with
        |cells l =>
                     dsimp only;by_cases hc:v.known=true/\v.cells.length=sz/\off+sz<=l.length
                     · rw[if_pos hc,if_pos hc]
                     · rw[if_neg hc,if_neg hc]
        |_=>rfl
  |wp t e off =>
    refine Xk (Gv t (Zml sz e off v) rfl (fun z u y h=>?_)) fun H=>?_
    · unfold Zml at h
      split at h
      · split at h
        · injection h with h
          injection h with h1 h2;subst h2;simp
        · cases h
      · cases h
    · unfold Zb YU Zml
      dsimp only;rcases H[t]? with _|z
      · rfl
      · cases z with
        |row e' l =>
                     dsimp only;by_cases hc:e'=e/\v.known=true/\v.cells.length=sz/\off+sz<=l.length
                     · rw[if_pos hc,if_pos hc]
                     · rw[if_neg hc,if_neg hc]
        |_=>rfl
  |_=>exact Zt
theorem MU (k bytes:Nat)(s:AV)(xs:List AV):Xa (YL k bytes s xs):=by
  cases s with
  |nils =>
    unfold YL;exact Yc _ (fun _=>V1 _) fun _=>Yc _ (fun _=>U7 (fun n=>AV.vs k (.own n xs.length) xs) _) fun _=>Zt
  |vs k' tok l =>
    unfold YL;refine Yc _ (fun _=>Yc _ (fun _=>V1 _) fun _=>?_) fun _=>Zt
    cases tok with
    |no=>exact Zt
    |clip=>exact U7 (fun n=>AV.vs k (.own n (l.length+xs.length)) (l++xs)) _
    |own t e =>
      refine Xk (Gv t (fun z=>match z with|.tok e'=>if e'=e then some (AV.vs k (.own t (e+xs.length)) (l++xs),AObj.tok (e+xs.length)) else none|_=>none) rfl (fun z u y h=>?_)) fun H=>?_
      · split at h
        · split at h
          · injection h with h
            injection h with h1 h2;subst h2;simp
          · cases h
        · cases h
      · dsimp only
        rcases H[t]? with _|z
        · rfl
        · cases z with
          |tok e' =>
                       dsimp only;by_cases hc:e'=e
                       · rw[if_pos hc,if_pos hc]
                       · rw[if_neg hc,if_neg hc]
          |_=>rfl
  |_=>exact Zt
theorem Zto (k bytes:Nat)(s x:AV):Xa (Y7 k bytes s x):=by
  unfold Y7;refine Xk (ZdE (P7 k x) fun xs=>MU k bytes s xs) fun H=>?_;cases elems k x H <;> rfl
def Zvl (ag:Bool)(k o e len:Nat)(xs:List AV):AObj->Option (AV×AObj)
  |.row e' l=>if e'=e/\len*k<=l.length then some (AV.ws ag k o (e+1) (len+xs.length),AObj.row (e+1) (Zp6 (len*k) l++(xs.map zH).flatten)) else none
  |_=>none
theorem Ztp (ag:Bool)(k bytes:Nat)(s:AV)(xs:List AV):Xa (DZ ag k bytes s xs):=by
  cases s with
  |nils =>
    unfold DZ;exact Yc _ (fun _=>V1 _) fun _=>Yc _ (fun _=>U7 (fun n=>AV.ws ag k n 0 xs.length) _) fun _=>Zt
  |vs k' tok l =>
    cases tok with
    |clip =>
      unfold DZ;exact Yc _ (fun _=>Yc _ (fun _=>V1 _) fun _=>U7 (fun n=>AV.ws ag k n 0 (l.length+xs.length)) _) fun _=>Zt
    |no=>exact Xk (MU k bytes (.vs k' .no l) xs) fun H=>rfl
    |own t e=>exact Xk (MU k bytes (.vs k' (.own t e) l) xs) fun H=>rfl
  |ws ag' k' t e len =>
    unfold DZ;refine Yc _ (fun _=>Yc _ (fun _=>V1 _) fun _=>?_) fun _=>Zt;refine Xk (Gv t (Zvl ag k t e len xs) rfl (fun z u y h=>?_)) fun H=>?_
    · unfold Zvl at h
      split at h
      · split at h
        · injection h with h
          injection h with h1 h2;subst h2;simp
        · cases h
      · cases h
    · unfold Zvl
      rcases H[t]? with _|z
      · rfl
      · cases z with
        |row e' l =>
                     dsimp only;by_cases hc:e'=e/\len*k<=l.length
                     · rw[if_pos hc,if_pos hc]
                     · rw[if_neg hc,if_neg hc]
        |_=>rfl
  |_=>first|exact Xk (MU k bytes _ xs) fun H=>rfl|exact Zt
theorem ZqL (ag:Bool)(k bytes:Nat)(s x:AV):Xa (Gj ag k bytes s x):=by
  unfold Gj;refine Xk (ZdE (P7 k x) fun xs=>Ztp ag k bytes s xs) fun H=>?_;cases elems k x H <;> rfl
def ZvK (k:Nat)(d:AV)(xs:List AV)(H:Hp):Option (AV×Hp) :=
  match d with
    |.nils=>if xs=[] then some (.int .i64 0,H) else none
    |.vs _ _ _=>if xs=[] then some (.int .i64 0,H) else none
    |.rs _ k' o off len _=>if xs=[] then some (.int .i64 0,H) else if k'=k/\xs.length<=len then match H[o]? with
      |some (.cells cs)=>if off+xs.length*k<=cs.length then some (.int .i64 xs.length,H.set o (.cells (splice cs off (xs.map zH).flatten))) else none
      |_=>none else none
    |_=>none
theorem Ztr (k:Nat)(d x:AV):Xa (SZ k d x):=by
  have key:∀ xs,Xa (ZvK k d xs):=fun xs=>?_
  · unfold SZ
    refine Xk (ZdE (P7 k x) key) fun H=>?_;cases elems k x H <;> rfl
  unfold ZvK
  cases d with
  |nils=>exact Yc _ (fun _=>V1 _) fun _=>Zt
  |vs _ _ _=>exact Yc _ (fun _=>V1 _) fun _=>Zt
  |rs ag k' t off len cap =>
    refine Yc _ (fun _=>V1 _) fun _=>Yc _ (fun _=>?_) fun _=>Zt;refine Xk (Gv t (fun z=>match z with|.cells cs=>if off+xs.length*k<=cs.length then some (AV.int .i64 xs.length,zI (splice cs off (xs.map zH).flatten)) else none|_=>none) rfl (fun z u y h=>?_)) fun H=>?_
    · split at h
      · split at h
        · injection h with h
          injection h with h1 h2;subst h2;simp
        · cases h
      · cases h
    · skip
      rcases H[t]? with _|z
      · rfl
      · cases z with
        |cells l =>
                     dsimp only;by_cases hc:off+xs.length*k<=l.length
                     · rw[if_pos hc,if_pos hc]
                     · rw[if_neg hc,if_neg hc]
        |_=>rfl
  |_=>exact Zt
theorem Ztw (k bytes:Nat)(ag:Bool)(z len cap:AV):Xa (Js k bytes ag z len cap):=by
  unfold Js;split
  · rename_i n c
    refine Yc _ (fun _=>Yc _ (fun _=>?_) fun _=>?_) fun _=>Zt
    · exact U7 (fun m=>AV.vs k (.own m 0) []) _
    · exact U7 (fun m=>AV.rs ag k m 0 n.toNat c.toNat) _
  · exact Zt
def ZuU (d:TypeDesc)(k v:AV):AObj->Option (AV×AObj)
  |.map es c=>if Wf d k then match YQ k es 0 with
    |some (some (i,_))=>some (zA [],zE (es.set i (k,v,(es.getD i (.undef,.undef,0)).2.2)) c)
    |some none=>some (zA [],zE (es++[(k,v,c)]) (c+1))
    |none=>none else none
  |_=>none
theorem ZgE (d:TypeDesc)(m k v:AV):Xa (Xq d m k v):=by
  cases m with
  |map t =>
    refine Xk (Gv t (ZuU d k v) rfl (fun z u y h=>?_)) fun H=>?_
    · unfold ZuU at h
      split at h
      · split at h
        · split at h
          · injection h with h
            injection h with h1 h2;subst h2;simp
          · injection h with h
            injection h with h1 h2;subst h2;simp
          · cases h
        · cases h
      · cases h
    · unfold Xq ZuU
      dsimp only;rcases H[t]? with _|z
      · rfl
      · cases z with
        |map es c =>
          dsimp only
          cases Wf d k with
          |false=>rfl
          |true =>
          simp only[if_true]
          cases YQ k es 0 with
          |none=>rfl
          |some q=>cases q with
            |none=>rfl
            |some q=>rfl
        |_=>rfl
  |_=>exact Zt
def Zu4 (d:TypeDesc)(k:AV):AObj->Option (AV×AObj)
  |.map es c=>if Wf d k then match YQ k es 0 with
    |some (some (i,_))=>some (zA [],zE (es.eraseIdx i) c)
    |some none=>some (zA [],zE es c)
    |none=>none else none
  |_=>none
theorem ZoM (d:TypeDesc)(m k:AV):Xa (J0 d m k):=by
  cases m with
  |map t =>
    refine Xk (Gv t (Zu4 d k) rfl (fun z u y h=>?_)) fun H=>?_
    · unfold Zu4 at h
      split at h
      · split at h
        · split at h
          · injection h with h
            injection h with h1 h2;subst h2;simp
          · injection h with h
            injection h with h1 h2;subst h2;simp
          · cases h
        · cases h
      · cases h
    · unfold J0 Zu4
      dsimp only;rcases H[t]? with _|z
      · rfl
      · cases z with
        |map es c =>
          dsimp only
          cases Wf d k with
          |false=>rfl
          |true =>
          simp only[if_true]
          cases YQ k es 0 with
          |none=>rfl
          |some q=>cases q with
            |none=>rfl
            |some q=>rfl
        |_=>rfl
  |_=>exact Zt
theorem Zw0 (x:AV):Xa (ZN x):=by
  unfold ZN;exact Yc _ (fun _=>U7 (fun n=>AV.ptr n 0) _) fun _=>Zt
section
variable {C:Cfg}{call:ZF}
def Xs (call:ZF):Prop:=∀ f args,Xa (call f args)
theorem Zuo (g:List AV->Hp->Option (AV×Hp))(args:List AV):Xa (Zf g args):=by
  intro H v H' h
  have key:H'=H/\∀ H2,Zf g args H2=some (v,H2):=by
    unfold Zf at h ⊢;split at h
    · split at h
      · split at h
        · injection h with h
          injection h with h1 h2;subst h1 h2;exact⟨rfl,fun H2=>rfl⟩
        · cases h
      · cases h
    · cases h
  obtain⟨rfl,h2⟩:=key;exact⟨zB _,fun o _ ho=>⟨ho,fun x=>h2 _⟩⟩
theorem ZxU {g:List AV->Hp->Option (AV×Hp)}(hg:∀ args,Xa (g args))(args:List AV):Xa (G1 g args):=by
  intro H v H' h;unfold G1 at h ⊢;split at h
  · rename_i v1 H1 hc
    split at h
    · rename_i ht
      have ht:=Ziw _ _ ht;split at h
      · rename_i v2 hcl
        simp only[zD,zG]at h;obtain⟨rfl,rfl⟩:=h;refine⟨zB _,fun o ho hf=>⟨hf,fun x=>?_⟩⟩
        have h1:H1[o]?=some .free:=by
          rw[<-ht,List.getElem?_take_of_lt ho]at hf;exact hf
        obtain⟨_,hx⟩:=hg args H v1 H1 hc;obtain⟨_,hx⟩:=hx o ho h1;rw[hx x];simp only
        have h2:(H1.set o x).take (H.set o x).length=H.set o x:=by
          rw[zF,List.take_set,ht]
        rw[h2,if_pos (Zck _)]
        have h3:Zd (H1.set o x) (H.set o x).length 9 v1=some v2:=by
          rw[zF];exact Zj5 H.length 9 v1 H1 v2 hcl o h1 x
        rw[h3]
      · cases h
    · cases h
  · cases h
theorem ZqM (hc:Xs call)(id:FuncId)(args:List AV):Xa (Xt C call id args):=by
  unfold Xt
  cases C.ext id with
  |some e =>
    simp only;unfold O1
    cases Zln e args with
    |none=>exact Zt
    |some v=>exact V1 v
  |none =>
    cases C.sum id with
    |some g =>
      simp only;unfold OS
      cases g args with
      |none=>exact Zt
      |some v=>exact V1 v
    |none =>
      simp only
      cases C.eff id with
      |some g=>exact g.frm args
      |none=>exact Yc _ (fun _=>Yc _ (fun _=>Zuo _ _) fun _=>Yc _ (fun _=>ZxU (hc id) args) fun _=>hc id args) fun _=>Zt
theorem Zfn (hc:Xs call)(f:AV)(args:List AV):Xa (Yd C call f args):=by
  unfold Yd;split
  · exact ZqM hc _ _
  · exact Zt
theorem Zrn (x:AV):Xa (Gq x):=by
  unfold Gq
  have hr:Rdm (J3 x):=by
    unfold J3;split
    · exact Zvc none
    · exact P7 1 x
  have:Xa fun H=>(match J3 x H with|some l=>(match V0 l with|some s=>some (AV.str s,H)|none=>none)|none=>none):=by
    refine Xk (ZdE hr (g:=fun l H=>match V0 l with|some s=>some (AV.str s,H)|none=>none) fun l=>?_) fun H=>?_
    · cases V0 l with
      |none=>exact Zt
      |some s=>exact V1 _
    · cases J3 x H <;> rfl
  exact this
theorem Zu3 (x:AV):Xa (IK x):=by
  unfold IK
  cases x with
  |str s=>exact U7 (fun n=>AV.ws false 1 n 0 s.length) _
  |_=>exact Zt
theorem ZqO (hc:Xs call)(f:AV)(args:List AV):Xa (Xu C call f args):=by
  unfold Xu qC;split
  · exact Yc _ (fun _=>Zfn hc _ _) fun _=>Zt
  · exact Zt
theorem Zts (hc:Xs call)(ev:Operand->AV)(op:Op):Xa fun H=>ZE C call ev H op:=by
  cases op with
  |alloc e =>
    simp only[ZE];split
    · split
      · exact Yc _ (fun _=>U7 (fun n=>AV.ptr n 0) _) fun _=>Zt
      · exact Yc _ (fun _=>U7 (fun n=>AV.ptr n 0) _) fun _=>Zt
    · exact Zt
  |box e x=>exact Zw0 _
  |load t a =>
    simp only[ZE];split
    · exact Zqd (ZkK _ _ _)
    · exact Zt
  |store t a x =>
    simp only[ZE];split
    · exact Yc _ (fun _=>ZoQ _ _ _) fun _=>Zt
    · exact Zt
  |makeSlice t l c =>
    simp only[ZE];split
    · split
      · exact Ztw _ _ _ _ _ _
      · exact Zt
    · exact Zt
  |convert s d x =>
    simp only[ZE];split
    · exact Yc _ (fun _=>Zrn _) fun _=>Zt
    · exact Yc _ (fun _=>Zu3 _) fun _=>Zt
    · exact Zt
  |makeMap t r =>
    cases r with
    |none=>exact U7 (fun n=>AV.map n) _
    |some r=>exact Zt
  |lookup t x k ck =>
    simp only[ZE];split
    · split
      · exact Zqd (ZoL _ _ _ _ _)
      · exact Zt
    · exact Zt
  |mapUpdate t m k x =>
    simp only[ZE];split
    · exact ZgE _ _ _ _
    · exact Zt
  |insert t m k x =>
    simp only[ZE];split
    · exact ZgE _ _ _ _
    · exact Zt
  |call cl =>
    obtain⟨callee,args,ts⟩:=cl
    cases callee with
    |value f=>exact Yc _ (fun _=>ZqO hc _ _) fun _=>Zfn hc _ _
    |invoke r m =>
      simp only[ZE];unfold ZkI;split
      · split
        · exact Zfn hc _ _
        · exact Zt
      · exact Zt
    |builtin b =>
      cases b <;> first|exact Zt|skip
      case append =>
        simp only[ZE];split
        · split
          · refine Yc _ (fun _=>Zt) fun _=>?_
            split
            · refine Yc _ (fun _=>?_) fun _=>Zt
              split
              · exact ZqL _ _ _ _ _
              · exact Zto _ _ _ _
            · exact Zt
          · exact Zt
        · exact Zt
      case delete =>
        simp only[ZE];split
        · split
          · exact ZoM _ _ _
          · exact Zt
        · exact Zt
      case len =>
        simp only[ZE];split
        · split
          · exact Zqd (Ztt _)
          · exact Zt
        · exact Zt
      case copy =>
        simp only[ZE];split
        · split
          · split
            · exact Yc _ (fun _=>Ztr _ _ _) fun _=>Zt
            · exact Zt
          · exact Zt
        · exact Zt
  |_=>exact Zt
theorem Zxk (hc:Xs call)(ev:Operand->AV)(fl:Bool)(op:Op):Xa fun H=>X6 C call ev H fl op:=by
  unfold X6
  cases ZT C ev op with
  |some v=>exact V1 v
  |none=>exact Yc _ (fun _=>Zt) fun _=>Zts hc ev op
theorem ZwL (hc:Xs call)(ops:Array Oper)(fl:Bool)(o:Oper)(tm:List AV):Xa (Yq C call ops fl o tm):=by
  unfold Yq
  cases WC ops tm o with
  |none=>exact Zt
  |some b =>
    cases b with
    |false=>exact V1 _
    |true=>exact Zxk hc _ _ _
end
end Go.Am
