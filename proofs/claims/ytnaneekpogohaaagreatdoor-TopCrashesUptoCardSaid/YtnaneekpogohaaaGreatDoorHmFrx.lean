/- THE ABSTRACT MACHINE -/
import Derived.Test.YtnaneekpogohaaaGreatDoorHmKx
open List renaming getElem?_set_ne->zC,length_set->zF
open Nat renaming le_refl->zB
open Option.some renaming injEq->zD
open Prod.mk renaming injEq->zG
open Go.Am.AObj renaming map->zE,cells->zI
open Go.Am.AV renaming tuple->zA,cells->zH
namespace Go.Am
def Rdm {α:Type}(r:Hp->Option α):Prop:=∀ H v,r H=some v->∀ o,H[o]?=some .free->∀ x,r (H.set o x)=some v
theorem NJ {H:Hp}{o t:Nat}{y:AObj}(h:(H.set t y)[o]?=some .free)(hy:y≠.free):o≠t/\H[o]?=some .free:=by
  by_cases e:t=o
  · subst e
    exfalso;by_cases hl:t<H.length
    · simp[hl]at h;exact hy h
    · simp[hl]at h
  · rw[zC e]at h
    exact⟨fun h'=>e h'.symm,h⟩
theorem Ze9 {H l:Hp}{o:Nat}(ho:o<H.length)(h:(H++l)[o]?=some .free):H[o]?=some .free/\∀ x,(H++l).set o x=H.set o x++l:=by
  rw[List.getElem?_append_left ho]at h;exact⟨h,fun x=>List.set_append_left _ _ ho⟩
theorem Bm {H:Hp}{o t:Nat}{z:AObj}(h:H[o]?=some .free)(ht:H[t]?=some z)(hz:z≠.free)(x:AObj):o≠t/\(H.set o x)[t]?=some z:=by
  have hne:o≠t:=by
    rintro rfl
    rw[h]at ht;injection ht with ht;exact hz ht.symm
  exact⟨hne,by rw[zC hne];exact ht⟩
theorem Zrc {α:Type}{r:Hp->Option α}(h:Rdm r):Xh fun H=>(r H).map (·,H):=by
  intro H v H' hg
  cases hr:r H with
  |none=>simp[hr]at hg
  |some u =>
    simp[hr]at hg;obtain⟨rfl,rfl⟩:=hg;refine⟨zB _,fun o _ ho=>⟨ho,fun x=>?_⟩⟩;simp[h H u hr o ho x]
theorem Zwj {α:Type}(r:Option α):Rdm fun _=>r:=fun _ _ h _ _ _=>h
theorem Zv {α:Type}:Xh fun _=>(none:Option (α×Hp)):=fun _ _ _ h=>by cases h
theorem Ve {α:Type}(v:α):Xh fun H=>some (v,H):=by
  intro H v H' h;injection h with h;injection h with h1 h2;subst h1 h2;exact⟨zB _,fun o _ ho=>⟨ho,fun x=>rfl⟩⟩
theorem UC {α:Type}(g:Nat->α)(l:Hp):Xh fun H=>some (g H.length,H++l):=by
  intro H v H' h;injection h with h;injection h with h1 h2;subst h1 h2;refine⟨by simp,fun o ho hf=>?_⟩;obtain⟨h1,h2⟩:=Ze9 ho hf;exact⟨h1,fun x=>by simp[h2]⟩
theorem ZeU {α β:Type}{r:Hp->Option α}{g:α->Hp->Option (β×Hp)}(hr:Rdm r)(hg:∀ a,Xh (g a)):Xh fun H=>match r H with|some a=>g a H|none=>none:=by
  intro H v H' h;simp only at h
  cases ha:r H with
  |none=>simp[ha]at h
  |some a =>
    simp only[ha]at h;obtain⟨h1,h2⟩:=hg a H v H' h;refine⟨h1,fun o ho hf=>?_⟩;obtain⟨h3,h4⟩:=h2 o ho hf;exact⟨h3,fun x=>by simp only[hr H a ha o h3 x];exact h4 x⟩
theorem Xq {α:Type}{g g':Hp->Option (α×Hp)}(h:Xh g)(he:∀ H,g' H=g H):Xh g':=by
  intro H v H' hh;rw[he]at hh;obtain⟨h1,h2⟩:=h H v H' hh;exact⟨h1,fun o ho hf=>⟨(h2 o ho hf).1,fun x=>by rw[he];exact (h2 o ho hf).2 x⟩⟩
theorem Ye {α:Type}(c:Prop)[Decidable c]{g g':Hp->Option (α×Hp)}(h:c->Xh g)(h':¬ c->Xh g'):Xh fun H=>if c then g H else g' H:=by
  by_cases hc:c
  · exact Xq (h hc) fun H=>if_pos hc
  · exact Xq (h' hc) fun H=>if_neg hc
theorem B6 {α:Type}(t:Nat)(f:AObj->Option (α×AObj))(hf:f .free=none)(hy:∀ z v y,f z=some (v,y)->y≠.free):Xh fun H=>match H[t]? with|some z=>(match f z with|some (v,y)=>some (v,H.set t y)|none=>none)|none=>none:=by
  intro H v H' h;simp only at h
  cases hz:H[t]? with
  |none=>simp[hz]at h
  |some z =>
    simp only[hz]at h
    cases hfz:f z with
    |none=>simp[hfz]at h
    |some p =>
      obtain⟨u,y⟩:=p;simp only[hfz,zD,zG]at h;obtain⟨rfl,rfl⟩:=h;refine⟨by simp,fun o ho hfr=>?_⟩;obtain⟨h1,h2⟩:=NJ hfr (hy z _ y hfz);refine⟨h2,fun x=>?_⟩;have hz':z≠.free:=by rintro rfl;rw[hf]at hfz;cases hfz
      obtain⟨h3,h4⟩:=Bm h2 hz hz' x;simp only[h4,hfz];rw[List.set_comm _ _ h3]
theorem ZlO (g:Bool)(sz:Nat)(a:AV):Rdm (Z3 g sz a):=by
  intro H v h o ho x
  cases a with
  |ptr t off =>
    simp only[Z3]at h ⊢
    cases hz:H[t]? with
    |none=>simp[hz]at h
    |some z =>
      have hz':z≠.free:=by rintro rfl;simp[hz]at h
      rw[(Bm ho hz hz' x).2];rw[hz]at h;exact h
  |wp t e off =>
    simp only[Z3]at h ⊢
    cases hz:H[t]? with
    |none=>simp[hz]at h
    |some z =>
      have hz':z≠.free:=by rintro rfl;simp[hz]at h
      rw[(Bm ho hz hz' x).2];rw[hz]at h;exact h
  |_=>exact h
theorem N6 (k:Nat)(a:AV):Rdm (elems k a):=by
  intro H v h o ho x
  cases a with
  |rs ag k' t off len cap =>
    simp only[elems]at h ⊢
    cases hz:H[t]? with
    |none=>simp[hz]at h
    |some z =>
      have hz':z≠.free:=by rintro rfl;simp[hz]at h
      rw[(Bm ho hz hz' x).2];rw[hz]at h;exact h
  |ws ag k' t e len =>
    simp only[elems]at h ⊢
    cases hz:H[t]? with
    |none=>simp[hz]at h
    |some z =>
      have hz':z≠.free:=by rintro rfl;simp[hz]at h
      rw[(Bm ho hz hz' x).2];rw[hz]at h;exact h
  |_=>exact h
theorem Zi4 (a:AV):Rdm (Xk a):=by
  intro H v h o ho x
  cases a with
  |map t =>
    simp only[Xk]at h ⊢
    cases hz:H[t]? with
    |none=>simp[hz]at h
    |some z =>
      have hz':z≠.free:=by rintro rfl;simp[hz]at h
      rw[(Bm ho hz hz' x).2];rw[hz]at h;exact h
  |_=>exact h
theorem ZpN (d:TypeDesc)(z:AV)(ck:Bool)(a k:AV):Rdm (Y7 d z ck a k):=by
  intro H v h o ho x;unfold Y7 at h ⊢
  cases he:Xk a H with
  |none=>simp[he]at h
  |some es=>rw[Zi4 a H es he o ho x];rw[he]at h;exact h
theorem Zuy (a:AV):Rdm (K1 a):=by
  intro H v h o ho x;unfold K1 at h ⊢
  cases he:Xk a H with
  |none=>simp[he]at h
  |some es=>rw[Zi4 a H es he o ho x];rw[he]at h;exact h
theorem Zk7 (n:Nat):∀ (f:Nat) (a:AV),Rdm fun H=>Ze H n f a:=by
  intro f
  induction f with
  |zero=>intro a H v h;cases h
  |succ f ih =>
    intro a H v h o ho x;have lst:∀ l l':List AV,l.mapM (Ze H n f)=some l'->l.mapM (Ze (H.set o x) n f)=some l':=fun l l' hl=>Zpc (fun a b hab=>ih a H b hab o ho x) hl
    cases a with
    |vp cells =>
      simp only[Ze]at h ⊢
      cases hm:cells.mapM (Ze H n f) with
      |none=>simp[hm]at h
      |some l=>rw[lst _ _ hm];rw[hm]at h;exact h
    |vs k tok l =>
      simp only[Ze]at h ⊢
      cases hm:l.mapM (Ze H n f) with
      |none=>simp[hm]at h
      |some l'=>rw[lst _ _ hm];rw[hm]at h;exact h
    |rs ag k t off len cap =>
      simp only[Ze]at h ⊢;split at h
      · rename_i hlt;rw[if_pos hlt];exact h
      · rename_i hlt
        rw[if_neg hlt]
        cases hel:elems k (.rs ag k t off len cap) H with
        |none=>simp[hel]at h
        |some l =>
          rw[N6 _ _ H l hel o ho x];simp only[hel]at h ⊢
          cases hm:l.mapM (Ze H n f) with
          |none=>simp[hm]at h
          |some l'=>rw[lst _ _ hm];rw[hm]at h;exact h
    |ws ag k t e len =>
      simp only[Ze]at h ⊢;split at h
      · rename_i hlt;rw[if_pos hlt];exact h
      · rename_i hlt
        rw[if_neg hlt]
        cases hel:elems k (.ws ag k t e len) H with
        |none=>simp[hel]at h
        |some l =>
          rw[N6 _ _ H l hel o ho x];simp only[hel]at h ⊢
          cases hm:l.mapM (Ze H n f) with
          |none=>simp[hm]at h
          |some l'=>rw[lst _ _ hm];rw[hm]at h;exact h
    |fn fn a b =>
      simp only[Ze]at h ⊢
      cases hm:a.mapM (Ze H n f) with
      |none=>simp[hm]at h
      |some l =>
        cases hm2:b.mapM (Ze H n f) with
        |none=>simp[hm,hm2]at h
        |some l2=>rw[lst _ _ hm,lst _ _ hm2];rw[hm,hm2]at h;exact h
    |iface t v' =>
      simp only[Ze]at h ⊢
      cases hm:Ze H n f v' with
      |none=>simp[hm]at h
      |some l =>
        have h3:Ze (H.set o x) n f v'=some l:=ih v' H l hm o ho x;rw[h3];rw[hm]at h;exact h
    |agg l =>
      simp only[Ze]at h ⊢
      cases hm:l.mapM (Ze H n f) with
      |none=>simp[hm]at h
      |some l'=>rw[lst _ _ hm];rw[hm]at h;exact h
    |tuple l =>
      simp only[Ze]at h ⊢
      cases hm:l.mapM (Ze H n f) with
      |none=>simp[hm]at h
      |some l'=>rw[lst _ _ hm];rw[hm]at h;exact h
    |_=>exact h
def Znq (sz off:Nat)(v:AV):AObj->Option (AV×AObj)
  |.cells l=>if v.known=true/\v.cells.length=sz/\off+sz<=l.length then some (zA [],zI (splice l off v.cells)) else none
  |_=>none
def Znr (sz e off:Nat)(v:AV):AObj->Option (AV×AObj)
  |.row e' l=>if e'=e/\v.known=true/\v.cells.length=sz/\off+sz<=l.length then some (zA [],AObj.row e (splice l off v.cells)) else none
  |_=>none
theorem ZpS (sz:Nat)(a v:AV):Xh (Za sz a v):=by
  cases a with
  |ptr t off =>
    refine Xq (B6 t (Znq sz off v) rfl (fun z u y h=>?_)) fun H=>?_
    · unfold Znq at h
      split at h
      · split at h
        · injection h with h
          injection h with h1 h2;subst h2;simp
        · cases h
      · cases h
    · unfold Za YX Znq
      dsimp only;rcases H[t]? with _|z
      · rfl
      · cases z with
        |cells l =>
                     dsimp only;by_cases hc:v.known=true/\v.cells.length=sz/\off+sz<=l.length
                     · rw[if_pos hc,if_pos hc]
                     · rw[if_neg hc,if_neg hc]
        |_=>rfl
  |wp t e off =>
    refine Xq (B6 t (Znr sz e off v) rfl (fun z u y h=>?_)) fun H=>?_
    · unfold Znr at h
      split at h
      · split at h
        · injection h with h
          injection h with h1 h2;subst h2;simp
        · cases h
      · cases h
    · unfold Za YX Znr
      dsimp only;rcases H[t]? with _|z
      · rfl
      · cases z with
        |row e' l =>
                     dsimp only;by_cases hc:e'=e/\v.known=true/\v.cells.length=sz/\off+sz<=l.length
                     · rw[if_pos hc,if_pos hc]
                     · rw[if_neg hc,if_neg hc]
        |_=>rfl
  |_=>exact Zv
theorem E8 (k bytes:Nat)(s:AV)(xs:List AV):Xh (YN k bytes s xs):=by
  cases s with
  |nils =>
    unfold YN;exact Ye _ (fun _=>Ve _) fun _=>Ye _ (fun _=>UC (fun n=>AV.vs k (.own n xs.length) xs) _) fun _=>Zv
  |vs k' tok l =>
    unfold YN;refine Ye _ (fun _=>Ye _ (fun _=>Ve _) fun _=>?_) fun _=>Zv
    cases tok with
    |no=>exact Zv
    |clip=>exact UC (fun n=>AV.vs k (.own n (l.length+xs.length)) (l++xs)) _
    |own t e =>
      refine Xq (B6 t (fun z=>match z with|.tok e'=>if e'=e then some (AV.vs k (.own t (e+xs.length)) (l++xs),AObj.tok (e+xs.length)) else none|_=>none) rfl (fun z u y h=>?_)) fun H=>?_
      · split at h
        · split at h
          · injection h with h
            injection h with h1 h2;subst h2;simp
          · cases h
        · cases h
      · dsimp only
        rcases H[t]? with _|z
        · rfl
        · cases z with
          |tok e' =>
                       dsimp only;by_cases hc:e'=e
                       · rw[if_pos hc,if_pos hc]
                       · rw[if_neg hc,if_neg hc]
          |_=>rfl
  |_=>exact Zv
theorem Zus (k bytes:Nat)(s x:AV):Xh (Y9 k bytes s x):=by
  unfold Y9;refine Xq (ZeU (N6 k x) fun xs=>E8 k bytes s xs) fun H=>?_;cases elems k x H <;> rfl
def Zws (ag:Bool)(k o e len:Nat)(xs:List AV):AObj->Option (AV×AObj)
  |.row e' l=>if e'=e/\len*k<=l.length then some (AV.ws ag k o (e+1) (len+xs.length),AObj.row (e+1) (Zq8 (len*k) l++(xs.map zH).flatten)) else none
  |_=>none
theorem Zut (ag:Bool)(k bytes:Nat)(s:AV)(xs:List AV):Xh (FM ag k bytes s xs):=by
  cases s with
  |nils =>
    unfold FM;exact Ye _ (fun _=>Ve _) fun _=>Ye _ (fun _=>UC (fun n=>AV.ws ag k n 0 xs.length) _) fun _=>Zv
  |vs k' tok l =>
    cases tok with
    |clip =>
      unfold FM;exact Ye _ (fun _=>Ye _ (fun _=>Ve _) fun _=>UC (fun n=>AV.ws ag k n 0 (l.length+xs.length)) _) fun _=>Zv
    |no=>exact Xq (E8 k bytes (.vs k' .no l) xs) fun H=>rfl
    |own t e=>exact Xq (E8 k bytes (.vs k' (.own t e) l) xs) fun H=>rfl
  |ws ag' k' t e len =>
    unfold FM;refine Ye _ (fun _=>Ye _ (fun _=>Ve _) fun _=>?_) fun _=>Zv;refine Xq (B6 t (Zws ag k t e len xs) rfl (fun z u y h=>?_)) fun H=>?_
    · unfold Zws at h
      split at h
      · split at h
        · injection h with h
          injection h with h1 h2;subst h2;simp
        · cases h
      · cases h
    · unfold Zws
      rcases H[t]? with _|z
      · rfl
      · cases z with
        |row e' l =>
                     dsimp only;by_cases hc:e'=e/\len*k<=l.length
                     · rw[if_pos hc,if_pos hc]
                     · rw[if_neg hc,if_neg hc]
        |_=>rfl
  |_=>first|exact Xq (E8 k bytes _ xs) fun H=>rfl|exact Zv
theorem ZrK (ag:Bool)(k bytes:Nat)(s x:AV):Xh (GV ag k bytes s x):=by
  unfold GV;refine Xq (ZeU (N6 k x) fun xs=>Zut ag k bytes s xs) fun H=>?_;cases elems k x H <;> rfl
def ZwT (k:Nat)(d:AV)(xs:List AV)(H:Hp):Option (AV×Hp) :=
  match d with
    |.nils=>if xs=[] then some (.int .i64 0,H) else none
    |.vs _ _ _=>if xs=[] then some (.int .i64 0,H) else none
    |.rs _ k' o off len _=>if xs=[] then some (.int .i64 0,H) else if k'=k/\xs.length<=len then match H[o]? with
      |some (.cells cs)=>if off+xs.length*k<=cs.length then some (.int .i64 xs.length,H.set o (.cells (splice cs off (xs.map zH).flatten))) else none
      |_=>none else none
    |_=>none
theorem Zuv (k:Nat)(d x:AV):Xh (HT k d x):=by
  have key:∀ xs,Xh (ZwT k d xs):=fun xs=>?_
  · unfold HT
    refine Xq (ZeU (N6 k x) key) fun H=>?_;cases elems k x H <;> rfl
  unfold ZwT
  cases d with
  |nils=>exact Ye _ (fun _=>Ve _) fun _=>Zv
  |vs _ _ _=>exact Ye _ (fun _=>Ve _) fun _=>Zv
  |rs ag k' t off len cap =>
    refine Ye _ (fun _=>Ve _) fun _=>Ye _ (fun _=>?_) fun _=>Zv;refine Xq (B6 t (fun z=>match z with|.cells cs=>if off+xs.length*k<=cs.length then some (AV.int .i64 xs.length,zI (splice cs off (xs.map zH).flatten)) else none|_=>none) rfl (fun z u y h=>?_)) fun H=>?_
    · split at h
      · split at h
        · injection h with h
          injection h with h1 h2;subst h2;simp
        · cases h
      · cases h
    · skip
      rcases H[t]? with _|z
      · rfl
      · cases z with
        |cells l =>
                     dsimp only;by_cases hc:off+xs.length*k<=l.length
                     · rw[if_pos hc,if_pos hc]
                     · rw[if_neg hc,if_neg hc]
        |_=>rfl
  |_=>exact Zv
theorem ZuB (k bytes:Nat)(ag:Bool)(z len cap:AV):Xh (K2 k bytes ag z len cap):=by
  unfold K2;split
  · rename_i n c
    refine Ye _ (fun _=>Ye _ (fun _=>?_) fun _=>?_) fun _=>Zv
    · exact UC (fun m=>AV.vs k (.own m 0) []) _
    · exact UC (fun m=>AV.rs ag k m 0 n.toNat c.toNat) _
  · exact Zv
def Zw1 (d:TypeDesc)(k v:AV):AObj->Option (AV×AObj)
  |.map es c=>if Wn d k then match YT k es 0 with
    |some (some (i,_))=>some (zA [],zE (es.set i (k,v,(es.getD i (.undef,.undef,0)).2.2)) c)
    |some none=>some (zA [],zE (es++[(k,v,c)]) (c+1))
    |none=>none else none
  |_=>none
theorem ZhM (d:TypeDesc)(m k v:AV):Xh (Xw d m k v):=by
  cases m with
  |map t =>
    refine Xq (B6 t (Zw1 d k v) rfl (fun z u y h=>?_)) fun H=>?_
    · unfold Zw1 at h
      split at h
      · split at h
        · split at h
          · injection h with h
            injection h with h1 h2;subst h2;simp
          · injection h with h
            injection h with h1 h2;subst h2;simp
          · cases h
        · cases h
      · cases h
    · unfold Xw Zw1
      dsimp only;rcases H[t]? with _|z
      · rfl
      · cases z with
        |map es c =>
          dsimp only
          cases Wn d k with
          |false=>rfl
          |true =>
          simp only[if_true]
          cases YT k es 0 with
          |none=>rfl
          |some q=>cases q with
            |none=>rfl
            |some q=>rfl
        |_=>rfl
  |_=>exact Zv
def Zva (d:TypeDesc)(k:AV):AObj->Option (AV×AObj)
  |.map es c=>if Wn d k then match YT k es 0 with
    |some (some (i,_))=>some (zA [],zE (es.eraseIdx i) c)
    |some none=>some (zA [],zE es c)
    |none=>none else none
  |_=>none
theorem ZpO (d:TypeDesc)(m k:AV):Xh (Jz d m k):=by
  cases m with
  |map t =>
    refine Xq (B6 t (Zva d k) rfl (fun z u y h=>?_)) fun H=>?_
    · unfold Zva at h
      split at h
      · split at h
        · split at h
          · injection h with h
            injection h with h1 h2;subst h2;simp
          · injection h with h
            injection h with h1 h2;subst h2;simp
          · cases h
        · cases h
      · cases h
    · unfold Jz Zva
      dsimp only;rcases H[t]? with _|z
      · rfl
      · cases z with
        |map es c =>
          dsimp only
          cases Wn d k with
          |false=>rfl
          |true =>
          simp only[if_true]
          cases YT k es 0 with
          |none=>rfl
          |some q=>cases q with
            |none=>rfl
            |some q=>rfl
        |_=>rfl
  |_=>exact Zv
theorem Zxa (x:AV):Xh (ZQ x):=by
  unfold ZQ;exact Ye _ (fun _=>UC (fun n=>AV.ptr n 0) _) fun _=>Zv
section
variable {C:Cfg}{call:ZF}
def Xy (call:ZF):Prop:=∀ f args,Xh (call f args)
theorem Zvv (g:List AV->Hp->Option (AV×Hp))(args:List AV):Xh (Zh g args):=by
  intro H v H' h
  have key:H'=H/\∀ H2,Zh g args H2=some (v,H2):=by
    unfold Zh at h ⊢;split at h
    · split at h
      · split at h
        · injection h with h
          injection h with h1 h2;subst h1 h2;exact⟨rfl,fun H2=>rfl⟩
        · cases h
      · cases h
    · cases h
  obtain⟨rfl,h2⟩:=key;exact⟨zB _,fun o _ ho=>⟨ho,fun x=>h2 _⟩⟩
theorem Zz3 {g:List AV->Hp->Option (AV×Hp)}(hg:∀ args,Xh (g args))(args:List AV):Xh (JQ g args):=by
  intro H v H' h;unfold JQ at h ⊢;split at h
  · rename_i v1 H1 hc
    split at h
    · rename_i ht
      have ht:=Zjx _ _ ht;split at h
      · rename_i v2 hcl
        simp only[zD,zG]at h;obtain⟨rfl,rfl⟩:=h;refine⟨zB _,fun o ho hf=>⟨hf,fun x=>?_⟩⟩
        have h1:H1[o]?=some .free:=by
          rw[<-ht,List.getElem?_take_of_lt ho]at hf;exact hf
        obtain⟨_,hx⟩:=hg args H v1 H1 hc;obtain⟨_,hx⟩:=hx o ho h1;rw[hx x];simp only
        have h2:(H1.set o x).take (H.set o x).length=H.set o x:=by
          rw[zF,List.take_set,ht]
        rw[h2,if_pos (ZdK _)]
        have h3:Ze (H1.set o x) (H.set o x).length 9 v1=some v2:=by
          rw[zF];exact Zk7 H.length 9 v1 H1 v2 hcl o h1 x
        rw[h3]
      · cases h
    · cases h
  · cases h
theorem ZrM (hc:Xy call)(id:FuncId)(args:List AV):Xh (Xz C call id args):=by
  unfold Xz
  cases C.ext id with
  |some e =>
    simp only;unfold Zay
    cases Zmt e args with
    |none=>exact Zv
    |some v=>exact Ve v
  |none =>
    cases C.sum id with
    |some g =>
      simp only;unfold Zbk
      cases g args with
      |none=>exact Zv
      |some v=>exact Ve v
    |none =>
      simp only
      cases C.eff id with
      |some g=>exact g.frm args
      |none=>exact Ye _ (fun _=>Ye _ (fun _=>Zvv _ _) fun _=>Ye _ (fun _=>Zz3 (hc id) args) fun _=>hc id args) fun _=>Zv
theorem Zgz (hc:Xy call)(f:AV)(args:List AV):Xh (Yf C call f args):=by
  unfold Yf;split
  · exact ZrM hc _ _
  · exact Zv
theorem Zsm (x:AV):Xh (B1 x):=by
  unfold B1
  have hr:Rdm (JB x):=by
    unfold JB;split
    · exact Zwj none
    · exact N6 1 x
  have:Xh fun H=>(match JB x H with|some l=>(match Vd l with|some s=>some (AV.str s,H)|none=>none)|none=>none):=by
    refine Xq (ZeU hr (g:=fun l H=>match Vd l with|some s=>some (AV.str s,H)|none=>none) fun l=>?_) fun H=>?_
    · cases Vd l with
      |none=>exact Zv
      |some s=>exact Ve _
    · cases JB x H <;> rfl
  exact this
theorem Zv9 (x:AV):Xh (Zak x):=by
  unfold Zak
  cases x with
  |str s=>exact UC (fun n=>AV.ws false 1 n 0 s.length) _
  |_=>exact Zv
theorem ZrO (hc:Xy call)(f:AV)(args:List AV):Xh (XA C call f args):=by
  unfold XA qC;split
  · exact Ye _ (fun _=>Zgz hc _ _) fun _=>Zv
  · exact Zv
theorem Zux (hc:Xy call)(ev:Operand->AV)(op:Op):Xh fun H=>ZE C call ev H op:=by
  cases op with
  |alloc e =>
    simp only[ZE];split
    · split
      · exact Ye _ (fun _=>UC (fun n=>AV.ptr n 0) _) fun _=>Zv
      · exact Ye _ (fun _=>UC (fun n=>AV.ptr n 0) _) fun _=>Zv
    · exact Zv
  |box e x=>exact Zxa _
  |load t a =>
    simp only[ZE];split
    · exact Zrc (ZlO _ _ _)
    · exact Zv
  |store t a x =>
    simp only[ZE];split
    · exact Ye _ (fun _=>ZpS _ _ _) fun _=>Zv
    · exact Zv
  |makeSlice t l c =>
    simp only[ZE];split
    · split
      · exact ZuB _ _ _ _ _ _
      · exact Zv
    · exact Zv
  |convert s d x =>
    simp only[ZE];split
    · exact Ye _ (fun _=>Zsm _) fun _=>Zv
    · exact Ye _ (fun _=>Zv9 _) fun _=>Zv
    · exact Zv
  |makeMap t r =>
    cases r with
    |none=>exact UC (fun n=>AV.map n) _
    |some r=>exact Zv
  |lookup t x k ck =>
    simp only[ZE];split
    · split
      · exact Zrc (ZpN _ _ _ _ _)
      · exact Zv
    · exact Zv
  |mapUpdate t m k x =>
    simp only[ZE];split
    · exact ZhM _ _ _ _
    · exact Zv
  |insert t m k x =>
    simp only[ZE];split
    · exact ZhM _ _ _ _
    · exact Zv
  |call cl =>
    obtain⟨callee,args,ts⟩:=cl
    cases callee with
    |value f=>exact Ye _ (fun _=>ZrO hc _ _) fun _=>Zgz hc _ _
    |invoke r m =>
      simp only[ZE];unfold ZlM;split
      · split
        · exact Zgz hc _ _
        · exact Zv
      · exact Zv
    |builtin b =>
      cases b <;> first|exact Zv|skip
      case append =>
        simp only[ZE];split
        · split
          · refine Ye _ (fun _=>Zv) fun _=>?_
            split
            · refine Ye _ (fun _=>?_) fun _=>Zv
              split
              · exact ZrK _ _ _ _ _
              · exact Zus _ _ _ _
            · exact Zv
          · exact Zv
        · exact Zv
      case delete =>
        simp only[ZE];split
        · split
          · exact ZpO _ _ _
          · exact Zv
        · exact Zv
      case len =>
        simp only[ZE];split
        · split
          · exact Zrc (Zuy _)
          · exact Zv
        · exact Zv
      case copy =>
        simp only[ZE];split
        · split
          · split
            · exact Ye _ (fun _=>Zuv _ _ _) fun _=>Zv
            · exact Zv
          · exact Zv
        · exact Zv
  |_=>exact Zv
theorem Zyu (hc:Xy call)(ev:Operand->AV)(fl:Bool)(op:Op):Xh fun H=>Xd C call ev H fl op:=by
  unfold Xd
  cases ZT C ev op with
  |some v=>exact Ve v
  |none=>exact Ye _ (fun _=>Zv) fun _=>Zux hc ev op
theorem ZxW (hc:Xy call)(ops:Array Oper)(fl:Bool)(o:Oper)(tm:List AV):Xh (Yx C call ops fl o tm):=by
  unfold Yx
  cases WP ops tm o with
  |none=>exact Zv
  |some b =>
    cases b with
    |false=>exact Ve _
    |true=>exact Zyu hc _ _ _
end
end Go.Am
