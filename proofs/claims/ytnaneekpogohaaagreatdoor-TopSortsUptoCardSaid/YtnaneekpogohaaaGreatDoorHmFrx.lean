/- THE ABSTRACT MACHINE -/
import Derived.Test.YtnaneekpogohaaaGreatDoorHmKx
open List renaming getElem?_set_ne->zC,length_set->zF
open Nat renaming le_refl->zB
open Option.some renaming injEq->zD
open Prod.mk renaming injEq->zG
open Go.Am.AObj renaming map->zE,cells->zI
open Go.Am.AV renaming tuple->zA,cells->zH
namespace Go.Am
def Rdm {α:Type}(r:Hp->Option α):Prop:=∀ H v,r H=some v->∀ o,H[o]?=some .free->∀ x,r (H.set o x)=some v
theorem N7 {H:Hp}{o t:Nat}{y:AObj}(h:(H.set t y)[o]?=some .free)(hy:y≠.free):o≠t/\H[o]?=some .free:=by
  by_cases e:t=o
  · subst e
    exfalso;by_cases hl:t<H.length
    · simp[hl]at h;exact hy h
    · simp[hl]at h
  · rw[zC e]at h
    exact⟨fun h'=>e h'.symm,h⟩
theorem ZdI {H l:Hp}{o:Nat}(ho:o<H.length)(h:(H++l)[o]?=some .free):H[o]?=some .free/\∀ x,(H++l).set o x=H.set o x++l:=by
  rw[List.getElem?_append_left ho]at h;exact⟨h,fun x=>List.set_append_left _ _ ho⟩
theorem Gp {H:Hp}{o t:Nat}{z:AObj}(h:H[o]?=some .free)(ht:H[t]?=some z)(hz:z≠.free)(x:AObj):o≠t/\(H.set o x)[t]?=some z:=by
  have hne:o≠t:=by
    rintro rfl
    rw[h]at ht;injection ht with ht;exact hz ht.symm
  exact⟨hne,by rw[zC hne];exact ht⟩
theorem Zry {α:Type}{r:Hp->Option α}(h:Rdm r):Xd fun H=>(r H).map (·,H):=by
  intro H v H' hg
  cases hr:r H with
  |none=>simp[hr]at hg
  |some u =>
    simp[hr]at hg;obtain⟨rfl,rfl⟩:=hg;refine⟨zB _,fun o _ ho=>⟨ho,fun x=>?_⟩⟩;simp[h H u hr o ho x]
theorem Zx5 {α:Type}(r:Option α):Rdm fun _=>r:=fun _ _ h _ _ _=>h
theorem Zv {α:Type}:Xd fun _=>(none:Option (α×Hp)):=fun _ _ _ h=>by cases h
theorem WV {α:Type}(v:α):Xd fun H=>some (v,H):=by
  intro H v H' h;injection h with h;injection h with h1 h2;subst h1 h2;exact⟨zB _,fun o _ ho=>⟨ho,fun x=>rfl⟩⟩
theorem U3 {α:Type}(g:Nat->α)(l:Hp):Xd fun H=>some (g H.length,H++l):=by
  intro H v H' h;injection h with h;injection h with h1 h2;subst h1 h2;refine⟨by simp,fun o ho hf=>?_⟩;obtain⟨h1,h2⟩:=ZdI ho hf;exact⟨h1,fun x=>by simp[h2]⟩
theorem Zet {α β:Type}{r:Hp->Option α}{g:α->Hp->Option (β×Hp)}(hr:Rdm r)(hg:∀ a,Xd (g a)):Xd fun H=>match r H with|some a=>g a H|none=>none:=by
  intro H v H' h;simp only at h
  cases ha:r H with
  |none=>simp[ha]at h
  |some a =>
    simp only[ha]at h;obtain⟨h1,h2⟩:=hg a H v H' h;refine⟨h1,fun o ho hf=>?_⟩;obtain⟨h3,h4⟩:=h2 o ho hf;exact⟨h3,fun x=>by simp only[hr H a ha o h3 x];exact h4 x⟩
theorem Xn {α:Type}{g g':Hp->Option (α×Hp)}(h:Xd g)(he:∀ H,g' H=g H):Xd g':=by
  intro H v H' hh;rw[he]at hh;obtain⟨h1,h2⟩:=h H v H' hh;exact⟨h1,fun o ho hf=>⟨(h2 o ho hf).1,fun x=>by rw[he];exact (h2 o ho hf).2 x⟩⟩
theorem Ye {α:Type}(c:Prop)[Decidable c]{g g':Hp->Option (α×Hp)}(h:c->Xd g)(h':¬ c->Xd g'):Xd fun H=>if c then g H else g' H:=by
  by_cases hc:c
  · exact Xn (h hc) fun H=>if_pos hc
  · exact Xn (h' hc) fun H=>if_neg hc
theorem G1 {α:Type}(t:Nat)(f:AObj->Option (α×AObj))(hf:f .free=none)(hy:∀ z v y,f z=some (v,y)->y≠.free):Xd fun H=>match H[t]? with|some z=>(match f z with|some (v,y)=>some (v,H.set t y)|none=>none)|none=>none:=by
  intro H v H' h;simp only at h
  cases hz:H[t]? with
  |none=>simp[hz]at h
  |some z =>
    simp only[hz]at h
    cases hfz:f z with
    |none=>simp[hfz]at h
    |some p =>
      obtain⟨u,y⟩:=p;simp only[hfz,zD,zG]at h;obtain⟨rfl,rfl⟩:=h;refine⟨by simp,fun o ho hfr=>?_⟩;obtain⟨h1,h2⟩:=N7 hfr (hy z _ y hfz);refine⟨h2,fun x=>?_⟩;have hz':z≠.free:=by rintro rfl;rw[hf]at hfz;cases hfz
      obtain⟨h3,h4⟩:=Gp h2 hz hz' x;simp only[h4,hfz];rw[List.set_comm _ _ h3]
theorem Zlz (g:Bool)(sz:Nat)(a:AV):Rdm (Z3 g sz a):=by
  intro H v h o ho x
  cases a with
  |ptr t off =>
    simp only[Z3]at h ⊢
    cases hz:H[t]? with
    |none=>simp[hz]at h
    |some z =>
      have hz':z≠.free:=by rintro rfl;simp[hz]at h
      rw[(Gp ho hz hz' x).2];rw[hz]at h;exact h
  |wp t e off =>
    simp only[Z3]at h ⊢
    cases hz:H[t]? with
    |none=>simp[hz]at h
    |some z =>
      have hz':z≠.free:=by rintro rfl;simp[hz]at h
      rw[(Gp ho hz hz' x).2];rw[hz]at h;exact h
  |_=>exact h
theorem Pk (k:Nat)(a:AV):Rdm (elems k a):=by
  intro H v h o ho x
  cases a with
  |rs ag k' t off len cap =>
    simp only[elems]at h ⊢
    cases hz:H[t]? with
    |none=>simp[hz]at h
    |some z =>
      have hz':z≠.free:=by rintro rfl;simp[hz]at h
      rw[(Gp ho hz hz' x).2];rw[hz]at h;exact h
  |ws ag k' t e len =>
    simp only[elems]at h ⊢
    cases hz:H[t]? with
    |none=>simp[hz]at h
    |some z =>
      have hz':z≠.free:=by rintro rfl;simp[hz]at h
      rw[(Gp ho hz hz' x).2];rw[hz]at h;exact h
  |_=>exact h
theorem ZhJ (a:AV):Rdm (Xi a):=by
  intro H v h o ho x
  cases a with
  |map t =>
    simp only[Xi]at h ⊢
    cases hz:H[t]? with
    |none=>simp[hz]at h
    |some z =>
      have hz':z≠.free:=by rintro rfl;simp[hz]at h
      rw[(Gp ho hz hz' x).2];rw[hz]at h;exact h
  |_=>exact h
theorem ZpP (d:TypeDesc)(z:AV)(ck:Bool)(a k:AV):Rdm (Yc d z ck a k):=by
  intro H v h o ho x;unfold Yc at h ⊢
  cases he:Xi a H with
  |none=>simp[he]at h
  |some es=>rw[ZhJ a H es he o ho x];rw[he]at h;exact h
theorem Zvb (a:AV):Rdm (J7 a):=by
  intro H v h o ho x;unfold J7 at h ⊢
  cases he:Xi a H with
  |none=>simp[he]at h
  |some es=>rw[ZhJ a H es he o ho x];rw[he]at h;exact h
theorem ZjY (n:Nat):∀ (f:Nat) (a:AV),Rdm fun H=>Zb H n f a:=by
  intro f
  induction f with
  |zero=>intro a H v h;cases h
  |succ f ih =>
    intro a H v h o ho x;have lst:∀ l l':List AV,l.mapM (Zb H n f)=some l'->l.mapM (Zb (H.set o x) n f)=some l':=fun l l' hl=>Zp8 (fun a b hab=>ih a H b hab o ho x) hl
    cases a with
    |vp cells =>
      simp only[Zb]at h ⊢
      cases hm:cells.mapM (Zb H n f) with
      |none=>simp[hm]at h
      |some l=>rw[lst _ _ hm];rw[hm]at h;exact h
    |vs k tok l =>
      simp only[Zb]at h ⊢
      cases hm:l.mapM (Zb H n f) with
      |none=>simp[hm]at h
      |some l'=>rw[lst _ _ hm];rw[hm]at h;exact h
    |rs ag k t off len cap =>
      simp only[Zb]at h ⊢;split at h
      · rename_i hlt;rw[if_pos hlt];exact h
      · rename_i hlt
        rw[if_neg hlt]
        cases hel:elems k (.rs ag k t off len cap) H with
        |none=>simp[hel]at h
        |some l =>
          rw[Pk _ _ H l hel o ho x];simp only[hel]at h ⊢
          cases hm:l.mapM (Zb H n f) with
          |none=>simp[hm]at h
          |some l'=>rw[lst _ _ hm];rw[hm]at h;exact h
    |ws ag k t e len =>
      simp only[Zb]at h ⊢;split at h
      · rename_i hlt;rw[if_pos hlt];exact h
      · rename_i hlt
        rw[if_neg hlt]
        cases hel:elems k (.ws ag k t e len) H with
        |none=>simp[hel]at h
        |some l =>
          rw[Pk _ _ H l hel o ho x];simp only[hel]at h ⊢
          cases hm:l.mapM (Zb H n f) with
          |none=>simp[hm]at h
          |some l'=>rw[lst _ _ hm];rw[hm]at h;exact h
    |fn fn a b =>
      simp only[Zb]at h ⊢
      cases hm:a.mapM (Zb H n f) with
      |none=>simp[hm]at h
      |some l =>
        cases hm2:b.mapM (Zb H n f) with
        |none=>simp[hm,hm2]at h
        |some l2=>rw[lst _ _ hm,lst _ _ hm2];rw[hm,hm2]at h;exact h
    |iface t v' =>
      simp only[Zb]at h ⊢
      cases hm:Zb H n f v' with
      |none=>simp[hm]at h
      |some l =>
        have h3:Zb (H.set o x) n f v'=some l:=ih v' H l hm o ho x;rw[h3];rw[hm]at h;exact h
    |agg l =>
      simp only[Zb]at h ⊢
      cases hm:l.mapM (Zb H n f) with
      |none=>simp[hm]at h
      |some l'=>rw[lst _ _ hm];rw[hm]at h;exact h
    |tuple l =>
      simp only[Zb]at h ⊢
      cases hm:l.mapM (Zb H n f) with
      |none=>simp[hm]at h
      |some l'=>rw[lst _ _ hm];rw[hm]at h;exact h
    |_=>exact h
def Znk (sz off:Nat)(v:AV):AObj->Option (AV×AObj)
  |.cells l=>if v.known=true/\v.cells.length=sz/\off+sz<=l.length then some (zA [],zI (splice l off v.cells)) else none
  |_=>none
def Znl (sz e off:Nat)(v:AV):AObj->Option (AV×AObj)
  |.row e' l=>if e'=e/\v.known=true/\v.cells.length=sz/\off+sz<=l.length then some (zA [],AObj.row e (splice l off v.cells)) else none
  |_=>none
theorem ZpV (sz:Nat)(a v:AV):Xd (Zf sz a v):=by
  cases a with
  |ptr t off =>
    refine Xn (G1 t (Znk sz off v) rfl (fun z u y h=>?_)) fun H=>?_
    · unfold Znk at h
      split at h
      · split at h
        · injection h with h
          injection h with h1 h2;subst h2;simp
        · cases h
      · cases h
    · unfold Zf YM Znk
      dsimp only;rcases H[t]? with _|z
      · rfl
      · cases z with
        |cells l =>
                     dsimp only;by_cases hc:v.known=true/\v.cells.length=sz/\off+sz<=l.length
                     · rw[if_pos hc,if_pos hc]
                     · rw[if_neg hc,if_neg hc]
        |_=>rfl
  |wp t e off =>
    refine Xn (G1 t (Znl sz e off v) rfl (fun z u y h=>?_)) fun H=>?_
    · unfold Znl at h
      split at h
      · split at h
        · injection h with h
          injection h with h1 h2;subst h2;simp
        · cases h
      · cases h
    · unfold Zf YM Znl
      dsimp only;rcases H[t]? with _|z
      · rfl
      · cases z with
        |row e' l =>
                     dsimp only;by_cases hc:e'=e/\v.known=true/\v.cells.length=sz/\off+sz<=l.length
                     · rw[if_pos hc,if_pos hc]
                     · rw[if_neg hc,if_neg hc]
        |_=>rfl
  |_=>exact Zv
theorem Lk (k bytes:Nat)(s:AV)(xs:List AV):Xd (Yv k bytes s xs):=by
  cases s with
  |nils =>
    unfold Yv;exact Ye _ (fun _=>WV _) fun _=>Ye _ (fun _=>U3 (fun n=>AV.vs k (.own n xs.length) xs) _) fun _=>Zv
  |vs k' tok l =>
    unfold Yv;refine Ye _ (fun _=>Ye _ (fun _=>WV _) fun _=>?_) fun _=>Zv
    cases tok with
    |no=>exact Zv
    |clip=>exact U3 (fun n=>AV.vs k (.own n (l.length+xs.length)) (l++xs)) _
    |own t e =>
      refine Xn (G1 t (fun z=>match z with|.tok e'=>if e'=e then some (AV.vs k (.own t (e+xs.length)) (l++xs),AObj.tok (e+xs.length)) else none|_=>none) rfl (fun z u y h=>?_)) fun H=>?_
      · split at h
        · split at h
          · injection h with h
            injection h with h1 h2;subst h2;simp
          · cases h
        · cases h
      · dsimp only
        rcases H[t]? with _|z
        · rfl
        · cases z with
          |tok e' =>
                       dsimp only;by_cases hc:e'=e
                       · rw[if_pos hc,if_pos hc]
                       · rw[if_neg hc,if_neg hc]
          |_=>rfl
  |_=>exact Zv
theorem Zv5 (k bytes:Nat)(s x:AV):Xd (Ym k bytes s x):=by
  unfold Ym;refine Xn (Zet (Pk k x) fun xs=>Lk k bytes s xs) fun H=>?_;cases elems k x H <;> rfl
def Zxb (ag:Bool)(k o e len:Nat)(xs:List AV):AObj->Option (AV×AObj)
  |.row e' l=>if e'=e/\len*k<=l.length then some (AV.ws ag k o (e+1) (len+xs.length),AObj.row (e+1) (Zji (len*k) l++(xs.map zH).flatten)) else none
  |_=>none
theorem Zv6 (ag:Bool)(k bytes:Nat)(s:AV)(xs:List AV):Xd (VH ag k bytes s xs):=by
  cases s with
  |nils =>
    unfold VH;exact Ye _ (fun _=>WV _) fun _=>Ye _ (fun _=>U3 (fun n=>AV.ws ag k n 0 xs.length) _) fun _=>Zv
  |vs k' tok l =>
    cases tok with
    |clip =>
      unfold VH;exact Ye _ (fun _=>Ye _ (fun _=>WV _) fun _=>U3 (fun n=>AV.ws ag k n 0 (l.length+xs.length)) _) fun _=>Zv
    |no=>exact Xn (Lk k bytes (.vs k' .no l) xs) fun H=>rfl
    |own t e=>exact Xn (Lk k bytes (.vs k' (.own t e) l) xs) fun H=>rfl
  |ws ag' k' t e len =>
    unfold VH;refine Ye _ (fun _=>Ye _ (fun _=>WV _) fun _=>?_) fun _=>Zv;refine Xn (G1 t (Zxb ag k t e len xs) rfl (fun z u y h=>?_)) fun H=>?_
    · unfold Zxb at h
      split at h
      · split at h
        · injection h with h
          injection h with h1 h2;subst h2;simp
        · cases h
      · cases h
    · unfold Zxb
      rcases H[t]? with _|z
      · rfl
      · cases z with
        |row e' l =>
                     dsimp only;by_cases hc:e'=e/\len*k<=l.length
                     · rw[if_pos hc,if_pos hc]
                     · rw[if_neg hc,if_neg hc]
        |_=>rfl
  |_=>first|exact Xn (Lk k bytes _ xs) fun H=>rfl|exact Zv
theorem Zsc (ag:Bool)(k bytes:Nat)(s x:AV):Xd (Wk ag k bytes s x):=by
  unfold Wk;refine Xn (Zet (Pk k x) fun xs=>Zv6 ag k bytes s xs) fun H=>?_;cases elems k x H <;> rfl
def ZxC (k:Nat)(d:AV)(xs:List AV)(H:Hp):Option (AV×Hp) :=
  match d with
    |.nils=>if xs=[] then some (.int .i64 0,H) else none
    |.vs _ _ _=>if xs=[] then some (.int .i64 0,H) else none
    |.rs _ k' o off len _=>if xs=[] then some (.int .i64 0,H) else if k'=k/\xs.length<=len then match H[o]? with
      |some (.cells cs)=>if off+xs.length*k<=cs.length then some (.int .i64 xs.length,H.set o (.cells (splice cs off (xs.map zH).flatten))) else none
      |_=>none else none
    |_=>none
theorem Zv8 (k:Nat)(d x:AV):Xd (CO k d x):=by
  have key:∀ xs,Xd (ZxC k d xs):=fun xs=>?_
  · unfold CO
    refine Xn (Zet (Pk k x) key) fun H=>?_;cases elems k x H <;> rfl
  unfold ZxC
  cases d with
  |nils=>exact Ye _ (fun _=>WV _) fun _=>Zv
  |vs _ _ _=>exact Ye _ (fun _=>WV _) fun _=>Zv
  |rs ag k' t off len cap =>
    refine Ye _ (fun _=>WV _) fun _=>Ye _ (fun _=>?_) fun _=>Zv;refine Xn (G1 t (fun z=>match z with|.cells cs=>if off+xs.length*k<=cs.length then some (AV.int .i64 xs.length,zI (splice cs off (xs.map zH).flatten)) else none|_=>none) rfl (fun z u y h=>?_)) fun H=>?_
    · split at h
      · split at h
        · injection h with h
          injection h with h1 h2;subst h2;simp
        · cases h
      · cases h
    · skip
      rcases H[t]? with _|z
      · rfl
      · cases z with
        |cells l =>
                     dsimp only;by_cases hc:off+xs.length*k<=l.length
                     · rw[if_pos hc,if_pos hc]
                     · rw[if_neg hc,if_neg hc]
        |_=>rfl
  |_=>exact Zv
theorem Zve (k bytes:Nat)(ag:Bool)(z len cap:AV):Xd (RE k bytes ag z len cap):=by
  unfold RE;split
  · rename_i n c
    refine Ye _ (fun _=>Ye _ (fun _=>?_) fun _=>?_) fun _=>Zv
    · exact U3 (fun m=>AV.vs k (.own m 0) []) _
    · exact U3 (fun m=>AV.rs ag k m 0 n.toNat c.toNat) _
  · exact Zv
def ZwM (d:TypeDesc)(k v:AV):AObj->Option (AV×AObj)
  |.map es c=>if Wa d k then match YS k es 0 with
    |some (some (i,_))=>some (zA [],zE (es.set i (k,v,(es.getD i (.undef,.undef,0)).2.2)) c)
    |some none=>some (zA [],zE (es++[(k,v,c)]) (c+1))
    |none=>none else none
  |_=>none
theorem Zht (d:TypeDesc)(m k v:AV):Xd (Xs d m k v):=by
  cases m with
  |map t =>
    refine Xn (G1 t (ZwM d k v) rfl (fun z u y h=>?_)) fun H=>?_
    · unfold ZwM at h
      split at h
      · split at h
        · split at h
          · injection h with h
            injection h with h1 h2;subst h2;simp
          · injection h with h
            injection h with h1 h2;subst h2;simp
          · cases h
        · cases h
      · cases h
    · unfold Xs ZwM
      dsimp only;rcases H[t]? with _|z
      · rfl
      · cases z with
        |map es c =>
          dsimp only
          cases Wa d k with
          |false=>rfl
          |true =>
          simp only[if_true]
          cases YS k es 0 with
          |none=>rfl
          |some q=>cases q with
            |none=>rfl
            |some q=>rfl
        |_=>rfl
  |_=>exact Zv
def ZvS (d:TypeDesc)(k:AV):AObj->Option (AV×AObj)
  |.map es c=>if Wa d k then match YS k es 0 with
    |some (some (i,_))=>some (zA [],zE (es.eraseIdx i) c)
    |some none=>some (zA [],zE es c)
    |none=>none else none
  |_=>none
theorem ZpQ (d:TypeDesc)(m k:AV):Xd (QI d m k):=by
  cases m with
  |map t =>
    refine Xn (G1 t (ZvS d k) rfl (fun z u y h=>?_)) fun H=>?_
    · unfold ZvS at h
      split at h
      · split at h
        · split at h
          · injection h with h
            injection h with h1 h2;subst h2;simp
          · injection h with h
            injection h with h1 h2;subst h2;simp
          · cases h
        · cases h
      · cases h
    · unfold QI ZvS
      dsimp only;rcases H[t]? with _|z
      · rfl
      · cases z with
        |map es c =>
          dsimp only
          cases Wa d k with
          |false=>rfl
          |true =>
          simp only[if_true]
          cases YS k es 0 with
          |none=>rfl
          |some q=>cases q with
            |none=>rfl
            |some q=>rfl
        |_=>rfl
  |_=>exact Zv
theorem ZxW (x:AV):Xd (ZO x):=by
  unfold ZO;exact Ye _ (fun _=>U3 (fun n=>AV.ptr n 0) _) fun _=>Zv
section
variable {C:Cfg}{call:Zw}
def Xt (call:Zw):Prop:=∀ f args,Xd (call f args)
theorem Zwf (g:List AV->Hp->Option (AV×Hp))(args:List AV):Xd (Ze g args):=by
  intro H v H' h
  have key:H'=H/\∀ H2,Ze g args H2=some (v,H2):=by
    unfold Ze at h ⊢;split at h
    · split at h
      · split at h
        · injection h with h
          injection h with h1 h2;subst h1 h2;exact⟨rfl,fun H2=>rfl⟩
        · cases h
      · cases h
    · cases h
  obtain⟨rfl,h2⟩:=key;exact⟨zB _,fun o _ ho=>⟨ho,fun x=>h2 _⟩⟩
theorem ZA5 {g:List AV->Hp->Option (AV×Hp)}(hg:∀ args,Xd (g args))(args:List AV):Xd (QW g args):=by
  intro H v H' h;unfold QW at h ⊢;split at h
  · rename_i v1 H1 hc
    split at h
    · rename_i ht
      have ht:=Zen _ _ ht;split at h
      · rename_i v2 hcl
        simp only[zD,zG]at h;obtain⟨rfl,rfl⟩:=h;refine⟨zB _,fun o ho hf=>⟨hf,fun x=>?_⟩⟩
        have h1:H1[o]?=some .free:=by
          rw[<-ht,List.getElem?_take_of_lt ho]at hf;exact hf
        obtain⟨_,hx⟩:=hg args H v1 H1 hc;obtain⟨_,hx⟩:=hx o ho h1;rw[hx x];simp only
        have h2:(H1.set o x).take (H.set o x).length=H.set o x:=by
          rw[zF,List.take_set,ht]
        rw[h2,if_pos (Zdc _)]
        have h3:Zb (H1.set o x) (H.set o x).length 9 v1=some v2:=by
          rw[zF];exact ZjY H.length 9 v1 H1 v2 hcl o h1 x
        rw[h3]
      · cases h
    · cases h
  · cases h
theorem Zse (hc:Xt call)(id:FuncId)(args:List AV):Xd (X4 C call id args):=by
  unfold X4
  cases C.ext id with
  |some e =>
    simp only;unfold AC
    cases Zmi e args with
    |none=>exact Zv
    |some v=>exact WV v
  |none =>
    cases C.sum id with
    |some g =>
      simp only;unfold I1
      cases g args with
      |none=>exact Zv
      |some v=>exact WV v
    |none =>
      simp only
      cases C.eff id with
      |some g=>exact g.frm args
      |none=>exact Ye _ (fun _=>Ye _ (fun _=>Zwf _ _) fun _=>Ye _ (fun _=>ZA5 (hc id) args) fun _=>hc id args) fun _=>Zv
theorem Zg0 (hc:Xt call)(f:AV)(args:List AV):Xd (Yd C call f args):=by
  unfold Yd;split
  · exact Zse hc _ _
  · exact Zv
theorem ZsT (x:AV):Xd (KY x):=by
  unfold KY
  have hr:Rdm (QK x):=by
    unfold QK;split
    · exact Zx5 none
    · exact Pk 1 x
  have:Xd fun H=>(match QK x H with|some l=>(match WU l with|some s=>some (AV.str s,H)|none=>none)|none=>none):=by
    refine Xn (Zet hr (g:=fun l H=>match WU l with|some s=>some (AV.str s,H)|none=>none) fun l=>?_) fun H=>?_
    · cases WU l with
      |none=>exact Zv
      |some s=>exact WV _
    · cases QK x H <;> rfl
  exact this
theorem ZvR (x:AV):Xd (OM x):=by
  unfold OM
  cases x with
  |str s=>exact U3 (fun n=>AV.ws false 1 n 0 s.length) _
  |_=>exact Zv
theorem Zsg (hc:Xt call)(f:AV)(args:List AV):Xd (Xu C call f args):=by
  unfold Xu qC;split
  · exact Ye _ (fun _=>Zg0 hc _ _) fun _=>Zv
  · exact Zv
theorem Zva (hc:Xt call)(ev:Operand->AV)(op:Op):Xd fun H=>ZC C call ev H op:=by
  cases op with
  |alloc e =>
    simp only[ZC];split
    · split
      · exact Ye _ (fun _=>U3 (fun n=>AV.ptr n 0) _) fun _=>Zv
      · exact Ye _ (fun _=>U3 (fun n=>AV.ptr n 0) _) fun _=>Zv
    · exact Zv
  |box e x=>exact ZxW _
  |load t a =>
    simp only[ZC];split
    · exact Zry (Zlz _ _ _)
    · exact Zv
  |store t a x =>
    simp only[ZC];split
    · exact Ye _ (fun _=>ZpV _ _ _) fun _=>Zv
    · exact Zv
  |makeSlice t l c =>
    simp only[ZC];split
    · split
      · exact Zve _ _ _ _ _ _
      · exact Zv
    · exact Zv
  |convert s d x =>
    simp only[ZC];split
    · exact Ye _ (fun _=>ZsT _) fun _=>Zv
    · exact Ye _ (fun _=>ZvR _) fun _=>Zv
    · exact Zv
  |makeMap t r =>
    cases r with
    |none=>exact U3 (fun n=>AV.map n) _
    |some r=>exact Zv
  |lookup t x k ck =>
    simp only[ZC];split
    · split
      · exact Zry (ZpP _ _ _ _ _)
      · exact Zv
    · exact Zv
  |mapUpdate t m k x =>
    simp only[ZC];split
    · exact Zht _ _ _ _
    · exact Zv
  |insert t m k x =>
    simp only[ZC];split
    · exact Zht _ _ _ _
    · exact Zv
  |call cl =>
    obtain⟨callee,args,ts⟩:=cl
    cases callee with
    |value f=>exact Ye _ (fun _=>Zsg hc _ _) fun _=>Zg0 hc _ _
    |invoke r m =>
      simp only[ZC];unfold Zly;split
      · split
        · exact Zg0 hc _ _
        · exact Zv
      · exact Zv
    |builtin b =>
      cases b <;> first|exact Zv|skip
      case append =>
        simp only[ZC];split
        · split
          · refine Ye _ (fun _=>Zv) fun _=>?_
            split
            · refine Ye _ (fun _=>?_) fun _=>Zv
              split
              · exact Zsc _ _ _ _ _
              · exact Zv5 _ _ _ _
            · exact Zv
          · exact Zv
        · exact Zv
      case delete =>
        simp only[ZC];split
        · split
          · exact ZpQ _ _ _
          · exact Zv
        · exact Zv
      case len =>
        simp only[ZC];split
        · split
          · exact Zry (Zvb _)
          · exact Zv
        · exact Zv
      case copy =>
        simp only[ZC];split
        · split
          · split
            · exact Ye _ (fun _=>Zv8 _ _ _) fun _=>Zv
            · exact Zv
          · exact Zv
        · exact Zv
  |_=>exact Zv
theorem Zzq (hc:Xt call)(ev:Operand->AV)(fl:Bool)(op:Op):Xd fun H=>X9 C call ev H fl op:=by
  unfold X9
  cases ZK C ev op with
  |some v=>exact WV v
  |none=>exact Ye _ (fun _=>Zv) fun _=>Zva hc ev op
theorem ZyP (hc:Xt call)(ops:Array Oper)(fl:Bool)(o:Oper)(tm:List AV):Xd (Yu C call ops fl o tm):=by
  unfold Yu
  cases Wz ops tm o with
  |none=>exact Zv
  |some b =>
    cases b with
    |false=>exact WV _
    |true=>exact Zzq hc _ _ _
end
end Go.Am
