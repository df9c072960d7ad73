/- THE ABSTRACT MACHINE -/
import Derived.Test.YtmclihijlmlpkaaGreatDoorHmKx
open List renaming getElem?_set_ne->zC,length_set->zF
open Nat renaming le_refl->zB
open Option.some renaming injEq->zD
open Prod.mk renaming injEq->zG
open Go.Am.AObj renaming map->zE,cells->zI
open Go.Am.AV renaming tuple->zA,cells->zH
namespace Go.Am
def Rdm {α:Type}(r:Hp->Option α):Prop:=∀ H v,r H=some v->∀ o,H[o]?=some .free->∀ x,r (H.set o x)=some v
theorem Mh {H:Hp}{o t:Nat}{y:AObj}(h:(H.set t y)[o]?=some .free)(hy:y≠.free):o≠t/\H[o]?=some .free:=by
 by_cases e:t=o
 · subst e
   exfalso;by_cases hl:t<H.length
   · simp[hl]at h;exact hy h
   · simp[hl]at h
 · rw[zC e]at h
   exact⟨λh'=>e h'.symm,h⟩
theorem Zbc {H l:Hp}{o:Nat}(ho:o<H.length)(h:(H++l)[o]?=some .free):H[o]?=some .free/\∀ x,(H++l).set o x=H.set o x++l:=by
 rw[List.getElem?_append_left ho]at h;exact⟨h,λx=>List.set_append_left _ _ ho⟩
theorem GK {H:Hp}{o t:Nat}{z:AObj}(h:H[o]?=some .free)(ht:H[t]?=some z)(hz:z≠.free)(x:AObj):o≠t/\(H.set o x)[t]?=some z:=by
 have hne:o≠t:=by
  rintro rfl
  rw[h]at ht;injection ht with ht;exact hz ht.symm
 exact⟨hne,by rw[zC hne];exact ht⟩
theorem Zsr {α:Type}{r:Hp->Option α}(h:Rdm r):Xp λH=>(r H).map (·,H):=by
 intro H v H' hg
 cases hr:r H with
 |none=>simp[hr]at hg
 |some u =>
  simp[hr]at hg;obtain⟨rfl,rfl⟩:=hg;refine⟨zB _,λo _ ho=>⟨ho,λx=>?_⟩⟩;simp[h H u hr o ho x]
theorem ZxL {α:Type}(r:Option α):Rdm λ_=>r:=λ_ _ h _ _ _=>h
theorem ZE {α:Type}:Xp λ_=>(none:Option (α×Hp)):=λ_ _ _ h=>by cases h
theorem V8 {α:Type}(v:α):Xp λH=>some (v,H):=by
 intro H v H' h;injection h with h;injection h with h1 h2;subst h1 h2;exact⟨zB _,λo _ ho=>⟨ho,λx=>rfl⟩⟩
theorem UU {α:Type}(g:Nat->α)(l:Hp):Xp λH=>some (g H.length,H++l):=by
 intro H v H' h;injection h with h;injection h with h1 h2;subst h1 h2;refine⟨by simp,λo ho hf=>?_⟩;obtain⟨h1,h2⟩:=Zbc ho hf;exact⟨h1,λx=>by simp[h2]⟩
theorem ZbY {α β:Type}{r:Hp->Option α}{g:α->Hp->Option (β×Hp)}(hr:Rdm r)(hg:∀ a,Xp (g a)):Xp λH=>match r H with|some a=>g a H|none=>none:=by
 intro H v H' h;simp only at h
 cases ha:r H with
 |none=>simp[ha]at h
 |some a =>
  simp only[ha]at h;obtain⟨h1,h2⟩:=hg a H v H' h;refine⟨h1,λo ho hf=>?_⟩;obtain⟨h3,h4⟩:=h2 o ho hf;exact⟨h3,λx=>by simp only[hr H a ha o h3 x];exact h4 x⟩
theorem Xw {α:Type}{g g':Hp->Option (α×Hp)}(h:Xp g)(he:∀ H,g' H=g H):Xp g':=by
 intro H v H' hh;rw[he]at hh;obtain⟨h1,h2⟩:=h H v H' hh;exact⟨h1,λo ho hf=>⟨(h2 o ho hf).1,λx=>by rw[he];exact (h2 o ho hf).2 x⟩⟩
theorem Yt {α:Type}(c:Prop)[Decidable c]{g g':Hp->Option (α×Hp)}(h:c->Xp g)(h':¬ c->Xp g'):Xp λH=>if c then g H else g' H:=by
 by_cases hc:c
 · exact Xw (h hc) λH=>if_pos hc
 · exact Xw (h' hc) λH=>if_neg hc
theorem Gm {α:Type}(t:Nat)(f:AObj->Option (α×AObj))(hf:f .free=none)(hy:∀ z v y,f z=some (v,y)->y≠.free):Xp λH=>match H[t]? with|some z=>(match f z with|some (v,y)=>some (v,H.set t y)|none=>none)|none=>none:=by
 intro H v H' h;simp only at h
 cases hz:H[t]? with
 |none=>simp[hz]at h
 |some z =>
  simp only[hz]at h
  cases hfz:f z with
  |none=>simp[hfz]at h
  |some p =>
   obtain⟨u,y⟩:=p;simp only[hfz,zD,zG]at h;obtain⟨rfl,rfl⟩:=h;refine⟨by simp,λo ho hfr=>?_⟩;obtain⟨h1,h2⟩:=Mh hfr (hy z _ y hfz);refine⟨h2,λx=>?_⟩;have hz':z≠.free:=by rintro rfl;rw[hf]at hfz;cases hfz
   obtain⟨h3,h4⟩:=GK h2 hz hz' x;simp only[h4,hfz];rw[List.set_comm _ _ h3]
theorem ZmW (g:Bool)(sz:Nat)(a:AV):Rdm (Z2 g sz a):=by
 intro H v h o ho x
 cases a with
 |ptr t off =>
  simp only[Z2]at h ⊢
  cases hz:H[t]? with
  |none=>simp[hz]at h
  |some z =>
   have hz':z≠.free:=by rintro rfl;simp[hz]at h
   rw[(GK ho hz hz' x).2];rw[hz]at h;exact h
 |wp t e off =>
  simp only[Z2]at h ⊢
  cases hz:H[t]? with
  |none=>simp[hz]at h
  |some z =>
   have hz':z≠.free:=by rintro rfl;simp[hz]at h
   rw[(GK ho hz hz' x).2];rw[hz]at h;exact h
 |_=>exact h
theorem Nb (k:Nat)(a:AV):Rdm (elems k a):=by
 intro H v h o ho x
 cases a with
 |rs ag k' t off len cap =>
  simp only[elems]at h ⊢
  cases hz:H[t]? with
  |none=>simp[hz]at h
  |some z =>
   have hz':z≠.free:=by rintro rfl;simp[hz]at h
   rw[(GK ho hz hz' x).2];rw[hz]at h;exact h
 |ws ag k' t e len =>
  simp only[elems]at h ⊢
  cases hz:H[t]? with
  |none=>simp[hz]at h
  |some z =>
   have hz':z≠.free:=by rintro rfl;simp[hz]at h
   rw[(GK ho hz hz' x).2];rw[hz]at h;exact h
 |_=>exact h
theorem ZhV (a:AV):Rdm (Xq a):=by
 intro H v h o ho x
 cases a with
 |map t =>
  simp only[Xq]at h ⊢
  cases hz:H[t]? with
  |none=>simp[hz]at h
  |some z =>
   have hz':z≠.free:=by rintro rfl;simp[hz]at h
   rw[(GK ho hz hz' x).2];rw[hz]at h;exact h
 |_=>exact h
theorem ZqV (d:TypeDesc)(z:AV)(ck:Bool)(a k:AV):Rdm (Yo d z ck a k):=by
 intro H v h o ho x;unfold Yo at h ⊢
 cases he:Xq a H with
 |none=>simp[he]at h
 |some es=>rw[ZhV a H es he o ho x];rw[he]at h;exact h
theorem Zw3 (a:AV):Rdm (Jw a):=by
 intro H v h o ho x;unfold Jw at h ⊢
 cases he:Xq a H with
 |none=>simp[he]at h
 |some es=>rw[ZhV a H es he o ho x];rw[he]at h;exact h
theorem Zl4 (n:Nat):∀ (f:Nat) (a:AV),Rdm λH=>Zh H n f a:=by
  intro f
  induction f with
  |zero=>intro a H v h;cases h
  |succ f ih =>
    intro a H v h o ho x;have lst:∀ l l':List AV,l.mapM (Zh H n f)=some l'->l.mapM (Zh (H.set o x) n f)=some l':=λl l' hl=>Zqf (λa b hab=>ih a H b hab o ho x) hl
    cases a with
    |vp cells =>
      simp only[Zh]at h ⊢
      cases hm:cells.mapM (Zh H n f) with
      |none=>simp[hm]at h
      |some l=>rw[lst _ _ hm];rw[hm]at h;exact h
    |vs k tok l =>
      simp only[Zh]at h ⊢
      cases hm:l.mapM (Zh H n f) with
      |none=>simp[hm]at h
      |some l'=>rw[lst _ _ hm];rw[hm]at h;exact h
    |rs ag k t off len cap =>
      simp only[Zh]at h ⊢;split at h
      · rename_i hlt;rw[if_pos hlt];exact h
      · rename_i hlt
        rw[if_neg hlt]
        cases hel:elems k (.rs ag k t off len cap) H with
        |none=>simp[hel]at h
        |some l =>
          rw[Nb _ _ H l hel o ho x];simp only[hel]at h ⊢
          cases hm:l.mapM (Zh H n f) with
          |none=>simp[hm]at h
          |some l'=>rw[lst _ _ hm];rw[hm]at h;exact h
    |ws ag k t e len =>
      simp only[Zh]at h ⊢;split at h
      · rename_i hlt;rw[if_pos hlt];exact h
      · rename_i hlt
        rw[if_neg hlt]
        cases hel:elems k (.ws ag k t e len) H with
        |none=>simp[hel]at h
        |some l =>
          rw[Nb _ _ H l hel o ho x];simp only[hel]at h ⊢
          cases hm:l.mapM (Zh H n f) with
          |none=>simp[hm]at h
          |some l'=>rw[lst _ _ hm];rw[hm]at h;exact h
    |fn fn a b =>
      simp only[Zh]at h ⊢
      cases hm:a.mapM (Zh H n f) with
      |none=>simp[hm]at h
      |some l =>
        cases hm2:b.mapM (Zh H n f) with
        |none=>simp[hm,hm2]at h
        |some l2=>rw[lst _ _ hm,lst _ _ hm2];rw[hm,hm2]at h;exact h
    |iface t v' =>
      simp only[Zh]at h ⊢
      cases hm:Zh H n f v' with
      |none=>simp[hm]at h
      |some l =>
        have h3:Zh (H.set o x) n f v'=some l:=ih v' H l hm o ho x;rw[h3];rw[hm]at h;exact h
    |agg l =>
      simp only[Zh]at h ⊢
      cases hm:l.mapM (Zh H n f) with
      |none=>simp[hm]at h
      |some l'=>rw[lst _ _ hm];rw[hm]at h;exact h
    |tuple l =>
      simp only[Zh]at h ⊢
      cases hm:l.mapM (Zh H n f) with
      |none=>simp[hm]at h
      |some l'=>rw[lst _ _ hm];rw[hm]at h;exact h
    |_=>exact h
def Zou (sz off:Nat)(v:AV):AObj->Option (AV×AObj)
  |.cells l=>if v.known=true/\v.cells.length=sz/\off+sz<=l.length then some (zA [],zI (splice l off v.cells)) else none
  |_=>none
def Zov (sz e off:Nat)(v:AV):AObj->Option (AV×AObj)
  |.row e' l=>if e'=e/\v.known=true/\v.cells.length=sz/\off+sz<=l.length then some (zA [],AObj.row e (splice l off v.cells)) else none
  |_=>none
theorem Zr0 (sz:Nat)(a v:AV):Xp (Zc sz a v):=by
 cases a with
 |ptr t off =>
  refine Xw (Gm t (Zou sz off v) rfl (λz u y h=>?_)) λH=>?_
  · unfold Zou at h
    split at h
    · split at h
      · injection h with h
        injection h with h1 h2;subst h2;simp
      · cases h
    · cases h
  · unfold Zc YI Zou
    dsimp only;rcases H[t]? with _|z
    · rfl
    · cases z with
      |cells l =>
       dsimp only;by_cases hc:v.known=true/\v.cells.length=sz/\off+sz<=l.length
       · rw[if_pos hc,if_pos hc]
       · rw[if_neg hc,if_neg hc]
      |_=>rfl
 |wp t e off =>
  refine Xw (Gm t (Zov sz e off v) rfl (λz u y h=>?_)) λH=>?_
  · unfold Zov at h
    split at h
    · split at h
      · injection h with h
        injection h with h1 h2;subst h2;simp
      · cases h
    · cases h
  · unfold Zc YI Zov
    dsimp only;rcases H[t]? with _|z
    · rfl
    · cases z with
      |row e' l =>
       dsimp only;by_cases hc:e'=e/\v.known=true/\v.cells.length=sz/\off+sz<=l.length
       · rw[if_pos hc,if_pos hc]
       · rw[if_neg hc,if_neg hc]
      |_=>rfl
 |_=>exact ZE
theorem EL (k bytes:Nat)(s:AV)(xs:List AV):Xp (Ys k bytes s xs):=by
 cases s with
 |nils =>
  unfold Ys;exact Yt _ (λ_=>V8 _) λ_=>Yt _ (λ_=>UU (λn=>AV.vs k (.own n xs.length) xs) _) λ_=>ZE
 |vs k' tok l =>
  unfold Ys;refine Yt _ (λ_=>Yt _ (λ_=>V8 _) λ_=>?_) λ_=>ZE
  cases tok with
  |no=>exact ZE
  |clip=>exact UU (λn=>AV.vs k (.own n (l.length+xs.length)) (l++xs)) _
  |own t e =>
   refine Xw (Gm t (λz=>match z with|.tok e'=>if e'=e then some (AV.vs k (.own t (e+xs.length)) (l++xs),AObj.tok (e+xs.length)) else none|_=>none) rfl (λz u y h=>?_)) λH=>?_
   · split at h
     · split at h
       · injection h with h
         injection h with h1 h2;subst h2;simp
       · cases h
     · cases h
   · dsimp only
     rcases H[t]? with _|z
     · rfl
     · cases z with
       |tok e' =>
        dsimp only;by_cases hc:e'=e
        · rw[if_pos hc,if_pos hc]
        · rw[if_neg hc,if_neg hc]
       |_=>rfl
 |_=>exact ZE
theorem ZvW (k bytes:Nat)(s x:AV):Xp (ZR k bytes s x):=by
  unfold ZR;refine Xw (ZbY (Nb k x) λxs=>EL k bytes s xs) λH=>?_;cases elems k x H <;> rfl
def ZxS (ag:Bool)(k o e len:Nat)(xs:List AV):AObj->Option (AV×AObj)
  |.row e' l=>if e'=e/\len*k<=l.length then some (AV.ws ag k o (e+1) (len+xs.length),AObj.row (e+1) (Zrj (len*k) l++(xs.map zH).flatten)) else none
  |_=>none
theorem ZvX (ag:Bool)(k bytes:Nat)(s:AV)(xs:List AV):Xp (QH ag k bytes s xs):=by
 cases s with
 |nils =>
  unfold QH;exact Yt _ (λ_=>V8 _) λ_=>Yt _ (λ_=>UU (λn=>AV.ws ag k n 0 xs.length) _) λ_=>ZE
 |vs k' tok l =>
  cases tok with
  |clip =>
   unfold QH;exact Yt _ (λ_=>Yt _ (λ_=>V8 _) λ_=>UU (λn=>AV.ws ag k n 0 (l.length+xs.length)) _) λ_=>ZE
  |no=>exact Xw (EL k bytes (.vs k' .no l) xs) λH=>rfl
  |own t e=>exact Xw (EL k bytes (.vs k' (.own t e) l) xs) λH=>rfl
 |ws ag' k' t e len =>
  unfold QH;refine Yt _ (λ_=>Yt _ (λ_=>V8 _) λ_=>?_) λ_=>ZE;refine Xw (Gm t (ZxS ag k t e len xs) rfl (λz u y h=>?_)) λH=>?_
  · unfold ZxS at h
    split at h
    · split at h
      · injection h with h
        injection h with h1 h2;subst h2;simp
      · cases h
    · cases h
  · unfold ZxS
    rcases H[t]? with _|z
    · rfl
    · cases z with
      |row e' l =>
       dsimp only;by_cases hc:e'=e/\len*k<=l.length
       · rw[if_pos hc,if_pos hc]
       · rw[if_neg hc,if_neg hc]
      |_=>rfl
 |_=>first|exact Xw (EL k bytes _ xs) λH=>rfl|exact ZE
theorem Ztg (ag:Bool)(k bytes:Nat)(s x:AV):Xp (Xu ag k bytes s x):=by
 unfold Xu;refine Xw (ZbY (Nb k x) λxs=>ZvX ag k bytes s xs) λH=>?_;cases elems k x H <;> rfl
def Zyf (k:Nat)(d:AV)(xs:List AV)(H:Hp):Option (AV×Hp) :=
 match d with
  |.nils=>if xs=[] then some (.int .i64 0,H) else none
  |.vs _ _ _=>if xs=[] then some (.int .i64 0,H) else none
  |.rs _ k' o off len _=>if xs=[] then some (.int .i64 0,H) else if k'=k/\xs.length<=len then match H[o]? with
   |some (.cells cs)=>if off+xs.length*k<=cs.length then some (.int .i64 xs.length,H.set o (.cells (splice cs off (xs.map zH).flatten))) else none
   |_=>none else none
  |_=>none
theorem Zw0 (k:Nat)(d x:AV):Xp (AQ k d x):=by
 have key:∀ xs,Xp (Zyf k d xs):=λxs=>?_
 · unfold AQ
   refine Xw (ZbY (Nb k x) key) λH=>?_;cases elems k x H <;> rfl
 unfold Zyf
 cases d with
 |nils=>exact Yt _ (λ_=>V8 _) λ_=>ZE
 |vs _ _ _=>exact Yt _ (λ_=>V8 _) λ_=>ZE
 |rs ag k' t off len cap =>
  refine Yt _ (λ_=>V8 _) λ_=>Yt _ (λ_=>?_) λ_=>ZE;refine Xw (Gm t (λz=>match z with|.cells cs=>if off+xs.length*k<=cs.length then some (AV.int .i64 xs.length,zI (splice cs off (xs.map zH).flatten)) else none|_=>none) rfl (λz u y h=>?_)) λH=>?_
  · split at h
    · split at h
      · injection h with h
        injection h with h1 h2;subst h2;simp
      · cases h
    · cases h
  · skip
    rcases H[t]? with _|z
    · rfl
    · cases z with
      |cells l =>
       dsimp only;by_cases hc:off+xs.length*k<=l.length
       · rw[if_pos hc,if_pos hc]
       · rw[if_neg hc,if_neg hc]
      |_=>rfl
 |_=>exact ZE
theorem Zw6 (k bytes:Nat)(ag:Bool)(z len cap:AV):Xp (Uy k bytes ag z len cap):=by
  unfold Uy;split
  · rename_i n c
    refine Yt _ (λ_=>Yt _ (λ_=>?_) λ_=>?_) λ_=>ZE
    · exact UU (λm=>AV.vs k (.own m 0) []) _
    · exact UU (λm=>AV.rs ag k m 0 n.toNat c.toNat) _
  · exact ZE
def Zxu (d:TypeDesc)(k v:AV):AObj->Option (AV×AObj)
  |.map es c=>if Wo d k then match YX k es 0 with
    |some (some (i,_))=>some (zA [],zE (es.set i (k,v,(es.getD i (.undef,.undef,0)).2.2)) c)
    |some none=>some (zA [],zE (es++[(k,v,c)]) (c+1))
    |none=>none else none
  |_=>none
theorem ZhA (d:TypeDesc)(m k v:AV):Xp (XC d m k v):=by
  cases m with
  |map t =>
    refine Xw (Gm t (Zxu d k v) rfl (λz u y h=>?_)) λH=>?_
    · unfold Zxu at h
      split at h
      · split at h
        · split at h
          · injection h with h
            injection h with h1 h2;subst h2;simp
          · injection h with h
            injection h with h1 h2;subst h2;simp
          · cases h
        · cases h
      · cases h
    · unfold XC Zxu
      dsimp only;rcases H[t]? with _|z
      · rfl
      · cases z with
        |map es c =>
          dsimp only
          cases Wo d k with
          |false=>rfl
          |true =>
          simp only[if_true]
          cases YX k es 0 with
          |none=>rfl
          |some q=>cases q with
            |none=>rfl
            |some q=>rfl
        |_=>rfl
  |_=>exact ZE
def ZwF (d:TypeDesc)(k:AV):AObj->Option (AV×AObj)
  |.map es c=>if Wo d k then match YX k es 0 with
    |some (some (i,_))=>some (zA [],zE (es.eraseIdx i) c)
    |some none=>some (zA [],zE es c)
    |none=>none else none
  |_=>none
theorem ZqW (d:TypeDesc)(m k:AV):Xp (J7 d m k):=by
 cases m with
 |map t =>
  refine Xw (Gm t (ZwF d k) rfl (λz u y h=>?_)) λH=>?_
  · unfold ZwF at h
    split at h
    · split at h
      · split at h
        · injection h with h
          injection h with h1 h2;subst h2;simp
        · injection h with h
          injection h with h1 h2;subst h2;simp
        · cases h
      · cases h
    · cases h
  · unfold J7 ZwF
    dsimp only;rcases H[t]? with _|z
    · rfl
    · cases z with
      |map es c =>
       dsimp only
       cases Wo d k with
       |false=>rfl
       |true =>
       simp only[if_true]
       cases YX k es 0 with
       |none=>rfl
       |some q=>cases q with
        |none=>rfl
        |some q=>rfl
      |_=>rfl
 |_=>exact ZE
theorem Zyv (x:AV):Xp (ZF x):=by
 unfold ZF;exact Yt _ (λ_=>UU (λn=>AV.ptr n 0) _) λ_=>ZE
section
variable {C:Cfg}{call:ZM}
def XE (call:ZM):Prop:=∀ f args,Xp (call f args)
theorem ZwX (g:List AV->Hp->Option (AV×Hp))(args:List AV):Xp (Ze g args):=by
 intro H v H' h
 have key:H'=H/\∀ H2,Ze g args H2=some (v,H2):=by
  unfold Ze at h ⊢;split at h
  · split at h
    · split at h
      · injection h with h
        injection h with h1 h2;subst h1 h2;exact⟨rfl,λH2=>rfl⟩
      · cases h
    · cases h
  · cases h
 obtain⟨rfl,h2⟩:=key;exact⟨zB _,λo _ ho=>⟨ho,λx=>h2 _⟩⟩
theorem ZAk {g:List AV->Hp->Option (AV×Hp)}(hg:∀ args,Xp (g args))(args:List AV):Xp (Kb g args):=by
 intro H v H' h;unfold Kb at h ⊢;split at h
 · rename_i v1 H1 hc
   split at h
   · rename_i ht
     have ht:=Zko _ _ ht;split at h
     · rename_i v2 hcl
       simp only[zD,zG]at h;obtain⟨rfl,rfl⟩:=h;refine⟨zB _,λo ho hf=>⟨hf,λx=>?_⟩⟩
       have h1:H1[o]?=some .free:=by
        rw[<-ht,List.getElem?_take_of_lt ho]at hf;exact hf
       obtain⟨_,hx⟩:=hg args H v1 H1 hc;obtain⟨_,hx⟩:=hx o ho h1;rw[hx x];simp only
       have h2:(H1.set o x).take (H.set o x).length=H.set o x:=by
        rw[zF,List.take_set,ht]
       rw[h2,if_pos (Zay _)]
       have h3:Zh (H1.set o x) (H.set o x).length 9 v1=some v2:=by
        rw[zF];exact Zl4 H.length 9 v1 H1 v2 hcl o h1 x
       rw[h3]
     · cases h
   · cases h
 · cases h
theorem Zth (hc:XE call)(id:FuncId)(args:List AV):Xp (XF C call id args):=by
 unfold XF
 cases C.ext id with
 |some e =>
  simp only;unfold fR
  cases Znv e args with
  |none=>exact ZE
  |some v=>exact V8 v
 |none =>
  cases C.sum id with
  |some g =>
   simp only;unfold iS
   cases g args with
   |none=>exact ZE
   |some v=>exact V8 v
  |none =>
   simp only
   cases C.eff id with
   |some g=>exact g.frm args
   |none=>exact Yt _ (λ_=>Yt _ (λ_=>ZwX _ _) λ_=>Yt _ (λ_=>ZAk (hc id) args) λ_=>hc id args) λ_=>ZE
theorem Zfg (hc:XE call)(f:AV)(args:List AV):Xp (Yu C call f args):=by
 unfold Yu;split
 · exact Zth hc _ _
 · exact ZE
theorem ZtP (x:AV):Xp (Gh x):=by
 unfold Gh
 have hr:Rdm (J9 x):=by
  unfold J9;split
  · exact ZxL none
  · exact Nb 1 x
 have:Xp λH=>(match J9 x H with|some l=>(match V6 l with|some s=>some (AV.str s,H)|none=>none)|none=>none):=by
  refine Xw (ZbY hr (g:=λl H=>match V6 l with|some s=>some (AV.str s,H)|none=>none) λl=>?_) λH=>?_
  · cases V6 l with
    |none=>exact ZE
    |some s=>exact V8 _
  · cases J9 x H <;> rfl
 exact this
theorem ZwE (x:AV):Xp (fF x):=by
 unfold fF
 cases x with
 |str s=>exact UU (λn=>AV.ws false 1 n 0 s.length) _
 |_=>exact ZE
theorem Ztj (hc:XE call)(f:AV)(args:List AV):Xp (XG C call f args):=by
 unfold XG qC;split
 · exact Yt _ (λ_=>Zfg hc _ _) λ_=>ZE
 · exact ZE
theorem Zw2 (hc:XE call)(ev:Operand->AV)(op:Op):Xp λH=>ZL C call ev H op:=by
 cases op with
 |alloc e =>
  simp only[ZL];split
  · split
    · exact Yt _ (λ_=>UU (λn=>AV.ptr n 0) _) λ_=>ZE
    · exact Yt _ (λ_=>UU (λn=>AV.ptr n 0) _) λ_=>ZE
  · exact ZE
 |box e x=>exact Zyv _
 |load t a =>
  simp only[ZL];split
  · exact Zsr (ZmW _ _ _)
  · exact ZE
 |store t a x =>
  simp only[ZL];split
  · exact Yt _ (λ_=>Zr0 _ _ _) λ_=>ZE
  · exact ZE
 |makeSlice t l c =>
  simp only[ZL];split
  · split
    · exact Zw6 _ _ _ _ _ _
    · exact ZE
  · exact ZE
 |convert s d x =>
  simp only[ZL];split
  · exact Yt _ (λ_=>ZtP _) λ_=>ZE
  · exact Yt _ (λ_=>ZwE _) λ_=>ZE
  · exact ZE
 |makeMap t r =>
  cases r with
  |none=>exact UU (λn=>AV.map n) _
  |some r=>exact ZE
 |lookup t x k ck =>
  simp only[ZL];split
  · split
    · exact Zsr (ZqV _ _ _ _ _)
    · exact ZE
  · exact ZE
 |mapUpdate t m k x =>
  simp only[ZL];split
  · exact ZhA _ _ _ _
  · exact ZE
 |insert t m k x =>
  simp only[ZL];split
  · exact ZhA _ _ _ _
  · exact ZE
 |call cl =>
  obtain⟨callee,args,ts⟩:=cl
  cases callee with
  |value f=>exact Yt _ (λ_=>Ztj hc _ _) λ_=>Zfg hc _ _
  |invoke r m =>
   simp only[ZL];unfold ZmU;split
   · split
     · exact Zfg hc _ _
     · exact ZE
   · exact ZE
  |builtin b =>
   cases b <;> first|exact ZE|skip
   case append =>
    simp only[ZL];split
    · split
      · refine Yt _ (λ_=>ZE) λ_=>?_
        split
        · refine Yt _ (λ_=>?_) λ_=>ZE
          split
          · exact Ztg _ _ _ _ _
          · exact ZvW _ _ _ _
        · exact ZE
      · exact ZE
    · exact ZE
   case delete =>
    simp only[ZL];split
    · split
      · exact ZqW _ _ _
      · exact ZE
    · exact ZE
   case len =>
    simp only[ZL];split
    · split
      · exact Zsr (Zw3 _)
      · exact ZE
    · exact ZE
   case copy =>
    simp only[ZL];split
    · split
      · split
        · exact Yt _ (λ_=>Zw0 _ _ _) λ_=>ZE
        · exact ZE
      · exact ZE
    · exact ZE
 |_=>exact ZE
theorem ZzM (hc:XE call)(ev:Operand->AV)(fl:Bool)(op:Op):Xp λH=>Xf C call ev H fl op:=by
 unfold Xf
 cases Y9 C ev op with
 |some v=>exact V8 v
 |none=>exact Yt _ (λ_=>ZE) λ_=>Zw2 hc ev op
theorem Zzc (hc:XE call)(ops:Array Oper)(fl:Bool)(o:Oper)(tm:List AV):Xp (YF C call ops fl o tm):=by
 unfold YF
 cases WM ops tm o with
 |none=>exact ZE
 |some b =>
  cases b with
  |false=>exact V8 _
  |true=>exact ZzM hc _ _ _
end
end Go.Am
