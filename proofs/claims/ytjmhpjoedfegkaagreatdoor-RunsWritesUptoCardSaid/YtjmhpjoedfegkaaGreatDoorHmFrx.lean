/- THE ABSTRACT MACHINE -/
import Derived.Test.YtjmhpjoedfegkaaGreatDoorHmKx
open List renaming getElem?_set_ne->zC,length_set->zF
open Nat renaming le_refl->zB
open Option.some renaming injEq->zD
open Prod.mk renaming injEq->zG
open Go.Am.AObj renaming map->zE,cells->zI
open Go.Am.AV renaming tuple->zA,cells->zH
namespace Go.Am
def Rdm {α:Type}(r:Hp->Option α):Prop:=∀ H v,r H=some v->∀ o,H[o]?=some .free->∀ x,r (H.set o x)=some v
theorem Mx {H:Hp}{o t:Nat}{y:AObj}(h:(H.set t y)[o]?=some .free)(hy:y≠.free):o≠t/\H[o]?=some .free:=by
 by_cases e:t=o
 · subst e
   exfalso;by_cases hl:t<H.length
   · simp[hl]at h;exact hy h
   · simp[hl]at h
 · rw[zC e]at h
   exact⟨λh'=>e h'.symm,h⟩
theorem ZbL {H l:Hp}{o:Nat}(ho:o<H.length)(h:(H++l)[o]?=some .free):H[o]?=some .free/\∀ x,(H++l).set o x=H.set o x++l:=by
 rw[List.getElem?_append_left ho]at h;exact⟨h,λx=>List.set_append_left _ _ ho⟩
theorem BJ {H:Hp}{o t:Nat}{z:AObj}(h:H[o]?=some .free)(ht:H[t]?=some z)(hz:z≠.free)(x:AObj):o≠t/\(H.set o x)[t]?=some z:=by
 have hne:o≠t:=by
  rintro rfl
  rw[h]at ht;injection ht with ht;exact hz ht.symm
 exact⟨hne,by rw[zC hne];exact ht⟩
theorem ZrB {α:Type}{r:Hp->Option α}(h:Rdm r):Xr λH=>(r H).map (·,H):=by
 intro H v H' hg
 cases hr:r H with
 |none=>simp[hr]at hg
 |some u =>
  simp[hr]at hg;obtain⟨rfl,rfl⟩:=hg;refine⟨zB _,λo _ ho=>⟨ho,λx=>?_⟩⟩;simp[h H u hr o ho x]
theorem Zxh {α:Type}(r:Option α):Rdm λ_=>r:=λ_ _ h _ _ _=>h
theorem ZF {α:Type}:Xr λ_=>(none:Option (α×Hp)):=λ_ _ _ h=>by cases h
theorem Va {α:Type}(v:α):Xr λH=>some (v,H):=by
 intro H v H' h;injection h with h;injection h with h1 h2;subst h1 h2;exact⟨zB _,λo _ ho=>⟨ho,λx=>rfl⟩⟩
theorem Q3 {α:Type}(g:Nat->α)(l:Hp):Xr λH=>some (g H.length,H++l):=by
 intro H v H' h;injection h with h;injection h with h1 h2;subst h1 h2;refine⟨by simp,λo ho hf=>?_⟩;obtain⟨h1,h2⟩:=ZbL ho hf;exact⟨h1,λx=>by simp[h2]⟩
theorem ZcF {α β:Type}{r:Hp->Option α}{g:α->Hp->Option (β×Hp)}(hr:Rdm r)(hg:∀ a,Xr (g a)):Xr λH=>match r H with|some a=>g a H|none=>none:=by
 intro H v H' h;simp only at h
 cases ha:r H with
 |none=>simp[ha]at h
 |some a =>
  simp only[ha]at h;obtain⟨h1,h2⟩:=hg a H v H' h;refine⟨h1,λo ho hf=>?_⟩;obtain⟨h3,h4⟩:=h2 o ho hf;exact⟨h3,λx=>by simp only[hr H a ha o h3 x];exact h4 x⟩
theorem XB {α:Type}{g g':Hp->Option (α×Hp)}(h:Xr g)(he:∀ H,g' H=g H):Xr g':=by
 intro H v H' hh;rw[he]at hh;obtain⟨h1,h2⟩:=h H v H' hh;exact⟨h1,λo ho hf=>⟨(h2 o ho hf).1,λx=>by rw[he];exact (h2 o ho hf).2 x⟩⟩
theorem Yt {α:Type}(c:Prop)[Decidable c]{g g':Hp->Option (α×Hp)}(h:c->Xr g)(h':¬ c->Xr g'):Xr λH=>if c then g H else g' H:=by
 by_cases hc:c
 · exact XB (h hc) λH=>if_pos hc
 · exact XB (h' hc) λH=>if_neg hc
theorem Bj {α:Type}(t:Nat)(f:AObj->Option (α×AObj))(hf:f .free=none)(hy:∀ z v y,f z=some (v,y)->y≠.free):Xr λH=>match H[t]? with|some z=>(match f z with|some (v,y)=>some (v,H.set t y)|none=>none)|none=>none:=by
 intro H v H' h;simp only at h
 cases hz:H[t]? with
 |none=>simp[hz]at h
 |some z =>
  simp only[hz]at h
  cases hfz:f z with
  |none=>simp[hfz]at h
  |some p =>
   obtain⟨u,y⟩:=p;simp only[hfz,zD,zG]at h;obtain⟨rfl,rfl⟩:=h;refine⟨by simp,λo ho hfr=>?_⟩;obtain⟨h1,h2⟩:=Mx hfr (hy z _ y hfz);refine⟨h2,λx=>?_⟩;have hz':z≠.free:=by rintro rfl;rw[hf]at hfz;cases hfz
   obtain⟨h3,h4⟩:=BJ h2 hz hz' x;simp only[h4,hfz];rw[List.set_comm _ _ h3]
theorem Zmq (g:Bool)(sz:Nat)(a:AV):Rdm (Z4 g sz a):=by
 intro H v h o ho x
 cases a with
 |ptr t off =>
  simp only[Z4]at h ⊢
  cases hz:H[t]? with
  |none=>simp[hz]at h
  |some z =>
   have hz':z≠.free:=by rintro rfl;simp[hz]at h
   rw[(BJ ho hz hz' x).2];rw[hz]at h;exact h
 |wp t e off =>
  simp only[Z4]at h ⊢
  cases hz:H[t]? with
  |none=>simp[hz]at h
  |some z =>
   have hz':z≠.free:=by rintro rfl;simp[hz]at h
   rw[(BJ ho hz hz' x).2];rw[hz]at h;exact h
 |_=>exact h
theorem NM (k:Nat)(a:AV):Rdm (elems k a):=by
 intro H v h o ho x
 cases a with
 |rs ag k' t off len cap =>
  simp only[elems]at h ⊢
  cases hz:H[t]? with
  |none=>simp[hz]at h
  |some z =>
   have hz':z≠.free:=by rintro rfl;simp[hz]at h
   rw[(BJ ho hz hz' x).2];rw[hz]at h;exact h
 |ws ag k' t e len =>
  simp only[elems]at h ⊢
  cases hz:H[t]? with
  |none=>simp[hz]at h
  |some z =>
   have hz':z≠.free:=by rintro rfl;simp[hz]at h
   rw[(BJ ho hz hz' x).2];rw[hz]at h;exact h
 |_=>exact h
theorem ZhQ (a:AV):Rdm (Xs a):=by
 intro H v h o ho x
 cases a with
 |map t =>
  simp only[Xs]at h ⊢
  cases hz:H[t]? with
  |none=>simp[hz]at h
  |some z =>
   have hz':z≠.free:=by rintro rfl;simp[hz]at h
   rw[(BJ ho hz hz' x).2];rw[hz]at h;exact h
 |_=>exact h
theorem Zqi (d:TypeDesc)(z:AV)(ck:Bool)(a k:AV):Rdm (Yj d z ck a k):=by
 intro H v h o ho x;unfold Yj at h ⊢
 cases he:Xs a H with
 |none=>simp[he]at h
 |some es=>rw[ZhQ a H es he o ho x];rw[he]at h;exact h
theorem ZvC (a:AV):Rdm (K7 a):=by
 intro H v h o ho x;unfold K7 at h ⊢
 cases he:Xs a H with
 |none=>simp[he]at h
 |some es=>rw[ZhQ a H es he o ho x];rw[he]at h;exact h
theorem Zkl (n:Nat):∀ (f:Nat) (a:AV),Rdm λH=>Zk H n f a:=by
  intro f
  induction f with
  |zero=>intro a H v h;cases h
  |succ f ih =>
    intro a H v h o ho x;have lst:∀ l l':List AV,l.mapM (Zk H n f)=some l'->l.mapM (Zk (H.set o x) n f)=some l':=λl l' hl=>ZpC (λa b hab=>ih a H b hab o ho x) hl
    cases a with
    |vp cells =>
      simp only[Zk]at h ⊢
      cases hm:cells.mapM (Zk H n f) with
      |none=>simp[hm]at h
      |some l=>rw[lst _ _ hm];rw[hm]at h;exact h
    |vs k tok l =>
      simp only[Zk]at h ⊢
      cases hm:l.mapM (Zk H n f) with
      |none=>simp[hm]at h
      |some l'=>rw[lst _ _ hm];rw[hm]at h;exact h
    |rs ag k t off len cap =>
      simp only[Zk]at h ⊢;split at h
      · rename_i hlt;rw[if_pos hlt];exact h
      · rename_i hlt
        rw[if_neg hlt]
        cases hel:elems k (.rs ag k t off len cap) H with
        |none=>simp[hel]at h
        |some l =>
          rw[NM _ _ H l hel o ho x];simp only[hel]at h ⊢
          cases hm:l.mapM (Zk H n f) with
          |none=>simp[hm]at h
          |some l'=>rw[lst _ _ hm];rw[hm]at h;exact h
    |ws ag k t e len =>
      simp only[Zk]at h ⊢;split at h
      · rename_i hlt;rw[if_pos hlt];exact h
      · rename_i hlt
        rw[if_neg hlt]
        cases hel:elems k (.ws ag k t e len) H with
        |none=>simp[hel]at h
        |some l =>
          rw[NM _ _ H l hel o ho x];simp only[hel]at h ⊢
          cases hm:l.mapM (Zk H n f) with
          |none=>simp[hm]at h
          |some l'=>rw[lst _ _ hm];rw[hm]at h;exact h
    |fn fn a b =>
      simp only[Zk]at h ⊢
      cases hm:a.mapM (Zk H n f) with
      |none=>simp[hm]at h
      |some l =>
        cases hm2:b.mapM (Zk H n f) with
        |none=>simp[hm,hm2]at h
        |some l2=>rw[lst _ _ hm,lst _ _ hm2];rw[hm,hm2]at h;exact h
    |iface t v' =>
      simp only[Zk]at h ⊢
      cases hm:Zk H n f v' with
      |none=>simp[hm]at h
      |some l =>
        have h3:Zk (H.set o x) n f v'=some l:=ih v' H l hm o ho x;rw[h3];rw[hm]at h;exact h
    |agg l =>
      simp only[Zk]at h ⊢
      cases hm:l.mapM (Zk H n f) with
      |none=>simp[hm]at h
      |some l'=>rw[lst _ _ hm];rw[hm]at h;exact h
    |tuple l =>
      simp only[Zk]at h ⊢
      cases hm:l.mapM (Zk H n f) with
      |none=>simp[hm]at h
      |some l'=>rw[lst _ _ hm];rw[hm]at h;exact h
    |_=>exact h
def ZnV (sz off:Nat)(v:AV):AObj->Option (AV×AObj)
  |.cells l=>if v.known=true/\v.cells.length=sz/\off+sz<=l.length then some (zA [],zI (splice l off v.cells)) else none
  |_=>none
def ZnW (sz e off:Nat)(v:AV):AObj->Option (AV×AObj)
  |.row e' l=>if e'=e/\v.known=true/\v.cells.length=sz/\off+sz<=l.length then some (zA [],AObj.row e (splice l off v.cells)) else none
  |_=>none
theorem Zqn (sz:Nat)(a v:AV):Xr (Zg sz a v):=by
 cases a with
 |ptr t off =>
  refine XB (Bj t (ZnV sz off v) rfl (λz u y h=>?_)) λH=>?_
  · unfold ZnV at h
    split at h
    · split at h
      · injection h with h
        injection h with h1 h2;subst h2;simp
      · cases h
    · cases h
  · unfold Zg YE ZnV
    dsimp only;rcases H[t]? with _|z
    · rfl
    · cases z with
      |cells l =>
       dsimp only;by_cases hc:v.known=true/\v.cells.length=sz/\off+sz<=l.length
       · rw[if_pos hc,if_pos hc]
       · rw[if_neg hc,if_neg hc]
      |_=>rfl
 |wp t e off =>
  refine XB (Bj t (ZnW sz e off v) rfl (λz u y h=>?_)) λH=>?_
  · unfold ZnW at h
    split at h
    · split at h
      · injection h with h
        injection h with h1 h2;subst h2;simp
      · cases h
    · cases h
  · unfold Zg YE ZnW
    dsimp only;rcases H[t]? with _|z
    · rfl
    · cases z with
      |row e' l =>
       dsimp only;by_cases hc:e'=e/\v.known=true/\v.cells.length=sz/\off+sz<=l.length
       · rw[if_pos hc,if_pos hc]
       · rw[if_neg hc,if_neg hc]
      |_=>rfl
 |_=>exact ZF
theorem SG (k bytes:Nat)(s:AV)(xs:List AV):Xr (YR k bytes s xs):=by
 cases s with
 |nils =>
  unfold YR;exact Yt _ (λ_=>Va _) λ_=>Yt _ (λ_=>Q3 (λn=>AV.vs k (.own n xs.length) xs) _) λ_=>ZF
 |vs k' tok l =>
  unfold YR;refine Yt _ (λ_=>Yt _ (λ_=>Va _) λ_=>?_) λ_=>ZF
  cases tok with
  |no=>exact ZF
  |clip=>exact Q3 (λn=>AV.vs k (.own n (l.length+xs.length)) (l++xs)) _
  |own t e =>
   refine XB (Bj t (λz=>match z with|.tok e'=>if e'=e then some (AV.vs k (.own t (e+xs.length)) (l++xs),AObj.tok (e+xs.length)) else none|_=>none) rfl (λz u y h=>?_)) λH=>?_
   · split at h
     · split at h
       · injection h with h
         injection h with h1 h2;subst h2;simp
       · cases h
     · cases h
   · dsimp only
     rcases H[t]? with _|z
     · rfl
     · cases z with
       |tok e' =>
        dsimp only;by_cases hc:e'=e
        · rw[if_pos hc,if_pos hc]
        · rw[if_neg hc,if_neg hc]
       |_=>rfl
 |_=>exact ZF
theorem Zvw (k bytes:Nat)(s x:AV):Xr (Ya k bytes s x):=by
  unfold Ya;refine XB (ZcF (NM k x) λxs=>SG k bytes s xs) λH=>?_;cases elems k x H <;> rfl
def Zxu (ag:Bool)(k o e len:Nat)(xs:List AV):AObj->Option (AV×AObj)
  |.row e' l=>if e'=e/\len*k<=l.length then some (AV.ws ag k o (e+1) (len+xs.length),AObj.row (e+1) (ZqG (len*k) l++(xs.map zH).flatten)) else none
  |_=>none
theorem Zvx (ag:Bool)(k bytes:Nat)(s:AV)(xs:List AV):Xr (BF ag k bytes s xs):=by
 cases s with
 |nils =>
  unfold BF;exact Yt _ (λ_=>Va _) λ_=>Yt _ (λ_=>Q3 (λn=>AV.ws ag k n 0 xs.length) _) λ_=>ZF
 |vs k' tok l =>
  cases tok with
  |clip =>
   unfold BF;exact Yt _ (λ_=>Yt _ (λ_=>Va _) λ_=>Q3 (λn=>AV.ws ag k n 0 (l.length+xs.length)) _) λ_=>ZF
  |no=>exact XB (SG k bytes (.vs k' .no l) xs) λH=>rfl
  |own t e=>exact XB (SG k bytes (.vs k' (.own t e) l) xs) λH=>rfl
 |ws ag' k' t e len =>
  unfold BF;refine Yt _ (λ_=>Yt _ (λ_=>Va _) λ_=>?_) λ_=>ZF;refine XB (Bj t (Zxu ag k t e len xs) rfl (λz u y h=>?_)) λH=>?_
  · unfold Zxu at h
    split at h
    · split at h
      · injection h with h
        injection h with h1 h2;subst h2;simp
      · cases h
    · cases h
  · unfold Zxu
    rcases H[t]? with _|z
    · rfl
    · cases z with
      |row e' l =>
       dsimp only;by_cases hc:e'=e/\len*k<=l.length
       · rw[if_pos hc,if_pos hc]
       · rw[if_neg hc,if_neg hc]
      |_=>rfl
 |_=>first|exact XB (SG k bytes _ xs) λH=>rfl|exact ZF
theorem Zst (ag:Bool)(k bytes:Nat)(s x:AV):Xr (V1 ag k bytes s x):=by
 unfold V1;refine XB (ZcF (NM k x) λxs=>Zvx ag k bytes s xs) λH=>?_;cases elems k x H <;> rfl
def Zy0 (k:Nat)(d:AV)(xs:List AV)(H:Hp):Option (AV×Hp) :=
 match d with
  |.nils=>if xs=[] then some (.int .i64 0,H) else none
  |.vs _ _ _=>if xs=[] then some (.int .i64 0,H) else none
  |.rs _ k' o off len _=>if xs=[] then some (.int .i64 0,H) else if k'=k/\xs.length<=len then match H[o]? with
   |some (.cells cs)=>if off+xs.length*k<=cs.length then some (.int .i64 xs.length,H.set o (.cells (splice cs off (xs.map zH).flatten))) else none
   |_=>none else none
  |_=>none
theorem Zvz (k:Nat)(d x:AV):Xr (IN k d x):=by
 have key:∀ xs,Xr (Zy0 k d xs):=λxs=>?_
 · unfold IN
   refine XB (ZcF (NM k x) key) λH=>?_;cases elems k x H <;> rfl
 unfold Zy0
 cases d with
 |nils=>exact Yt _ (λ_=>Va _) λ_=>ZF
 |vs _ _ _=>exact Yt _ (λ_=>Va _) λ_=>ZF
 |rs ag k' t off len cap =>
  refine Yt _ (λ_=>Va _) λ_=>Yt _ (λ_=>?_) λ_=>ZF;refine XB (Bj t (λz=>match z with|.cells cs=>if off+xs.length*k<=cs.length then some (AV.int .i64 xs.length,zI (splice cs off (xs.map zH).flatten)) else none|_=>none) rfl (λz u y h=>?_)) λH=>?_
  · split at h
    · split at h
      · injection h with h
        injection h with h1 h2;subst h2;simp
      · cases h
    · cases h
  · skip
    rcases H[t]? with _|z
    · rfl
    · cases z with
      |cells l =>
       dsimp only;by_cases hc:off+xs.length*k<=l.length
       · rw[if_pos hc,if_pos hc]
       · rw[if_neg hc,if_neg hc]
      |_=>rfl
 |_=>exact ZF
theorem ZvF (k bytes:Nat)(ag:Bool)(z len cap:AV):Xr (K8 k bytes ag z len cap):=by
  unfold K8;split
  · rename_i n c
    refine Yt _ (λ_=>Yt _ (λ_=>?_) λ_=>?_) λ_=>ZF
    · exact Q3 (λm=>AV.vs k (.own m 0) []) _
    · exact Q3 (λm=>AV.rs ag k m 0 n.toNat c.toNat) _
  · exact ZF
def Zx2 (d:TypeDesc)(k v:AV):AObj->Option (AV×AObj)
  |.map es c=>if Wr d k then match X2 k es 0 with
    |some (some (i,_))=>some (zA [],zE (es.set i (k,v,(es.getD i (.undef,.undef,0)).2.2)) c)
    |some none=>some (zA [],zE (es++[(k,v,c)]) (c+1))
    |none=>none else none
  |_=>none
theorem Zhz (d:TypeDesc)(m k v:AV):Xr (XL d m k v):=by
  cases m with
  |map t =>
    refine XB (Bj t (Zx2 d k v) rfl (λz u y h=>?_)) λH=>?_
    · unfold Zx2 at h
      split at h
      · split at h
        · split at h
          · injection h with h
            injection h with h1 h2;subst h2;simp
          · injection h with h
            injection h with h1 h2;subst h2;simp
          · cases h
        · cases h
      · cases h
    · unfold XL Zx2
      dsimp only;rcases H[t]? with _|z
      · rfl
      · cases z with
        |map es c =>
          dsimp only
          cases Wr d k with
          |false=>rfl
          |true =>
          simp only[if_true]
          cases X2 k es 0 with
          |none=>rfl
          |some q=>cases q with
            |none=>rfl
            |some q=>rfl
        |_=>rfl
  |_=>exact ZF
def Zwf (d:TypeDesc)(k:AV):AObj->Option (AV×AObj)
  |.map es c=>if Wr d k then match X2 k es 0 with
    |some (some (i,_))=>some (zA [],zE (es.eraseIdx i) c)
    |some none=>some (zA [],zE es c)
    |none=>none else none
  |_=>none
theorem Zqj (d:TypeDesc)(m k:AV):Xr (Jx d m k):=by
 cases m with
 |map t =>
  refine XB (Bj t (Zwf d k) rfl (λz u y h=>?_)) λH=>?_
  · unfold Zwf at h
    split at h
    · split at h
      · split at h
        · injection h with h
          injection h with h1 h2;subst h2;simp
        · injection h with h
          injection h with h1 h2;subst h2;simp
        · cases h
      · cases h
    · cases h
  · unfold Jx Zwf
    dsimp only;rcases H[t]? with _|z
    · rfl
    · cases z with
      |map es c =>
       dsimp only
       cases Wr d k with
       |false=>rfl
       |true =>
       simp only[if_true]
       cases X2 k es 0 with
       |none=>rfl
       |some q=>cases q with
        |none=>rfl
        |some q=>rfl
      |_=>rfl
 |_=>exact ZF
theorem Zyf (x:AV):Xr (ZY x):=by
 unfold ZY;exact Yt _ (λ_=>Q3 (λn=>AV.ptr n 0) _) λ_=>ZF
section
variable {C:Cfg}{call:ZQ}
def XQ (call:ZQ):Prop:=∀ f args,Xr (call f args)
theorem Zwv (g:List AV->Hp->Option (AV×Hp))(args:List AV):Xr (Ze g args):=by
 intro H v H' h
 have key:H'=H/\∀ H2,Ze g args H2=some (v,H2):=by
  unfold Ze at h ⊢;split at h
  · split at h
    · split at h
      · injection h with h
        injection h with h1 h2;subst h1 h2;exact⟨rfl,λH2=>rfl⟩
      · cases h
    · cases h
  · cases h
 obtain⟨rfl,h2⟩:=key;exact⟨zB _,λo _ ho=>⟨ho,λx=>h2 _⟩⟩
theorem ZAf {g:List AV->Hp->Option (AV×Hp)}(hg:∀ args,Xr (g args))(args:List AV):Xr (Ve g args):=by
 intro H v H' h;unfold Ve at h ⊢;split at h
 · rename_i v1 H1 hc
   split at h
   · rename_i ht
     have ht:=ZjN _ _ ht;split at h
     · rename_i v2 hcl
       simp only[zD,zG]at h;obtain⟨rfl,rfl⟩:=h;refine⟨zB _,λo ho hf=>⟨hf,λx=>?_⟩⟩
       have h1:H1[o]?=some .free:=by
        rw[<-ht,List.getElem?_take_of_lt ho]at hf;exact hf
       obtain⟨_,hx⟩:=hg args H v1 H1 hc;obtain⟨_,hx⟩:=hx o ho h1;rw[hx x];simp only
       have h2:(H1.set o x).take (H.set o x).length=H.set o x:=by
        rw[zF,List.take_set,ht]
       rw[h2,if_pos (Zbx _)]
       have h3:Zk (H1.set o x) (H.set o x).length 9 v1=some v2:=by
        rw[zF];exact Zkl H.length 9 v1 H1 v2 hcl o h1 x
       rw[h3]
     · cases h
   · cases h
 · cases h
theorem Zsu (hc:XQ call)(id:FuncId)(args:List AV):Xr (XR C call id args):=by
 unfold XR
 cases C.ext id with
 |some e =>
  simp only;unfold iL
  cases ZmX e args with
  |none=>exact ZF
  |some v=>exact Va v
 |none =>
  cases C.sum id with
  |some g =>
   simp only;unfold kR
   cases g args with
   |none=>exact ZF
   |some v=>exact Va v
  |none =>
   simp only
   cases C.eff id with
   |some g=>exact g.frm args
   |none=>exact Yt _ (λ_=>Yt _ (λ_=>Zwv _ _) λ_=>Yt _ (λ_=>ZAf (hc id) args) λ_=>hc id args) λ_=>ZF
theorem ZfJ (hc:XQ call)(f:AV)(args:List AV):Xr (YJ C call f args):=by
 unfold YJ;split
 · exact Zsu hc _ _
 · exact ZF
theorem Zt5 (x:AV):Xr (Bg x):=by
 unfold Bg
 have hr:Rdm (Qm x):=by
  unfold Qm;split
  · exact Zxh none
  · exact NM 1 x
 have:Xr λH=>(match Qm x H with|some l=>(match V8 l with|some s=>some (AV.str s,H)|none=>none)|none=>none):=by
  refine XB (ZcF hr (g:=λl H=>match V8 l with|some s=>some (AV.str s,H)|none=>none) λl=>?_) λH=>?_
  · cases V8 l with
    |none=>exact ZF
    |some s=>exact Va _
  · cases Qm x H <;> rfl
 exact this
theorem Zwe (x:AV):Xr (SM x):=by
 unfold SM
 cases x with
 |str s=>exact Q3 (λn=>AV.ws false 1 n 0 s.length) _
 |_=>exact ZF
theorem Zsw (hc:XQ call)(f:AV)(args:List AV):Xr (XS C call f args):=by
 unfold XS qC;split
 · exact Yt _ (λ_=>ZfJ hc _ _) λ_=>ZF
 · exact ZF
theorem ZvB (hc:XQ call)(ev:Operand->AV)(op:Op):Xr λH=>ZP C call ev H op:=by
 cases op with
 |alloc e =>
  simp only[ZP];split
  · split
    · exact Yt _ (λ_=>Q3 (λn=>AV.ptr n 0) _) λ_=>ZF
    · exact Yt _ (λ_=>Q3 (λn=>AV.ptr n 0) _) λ_=>ZF
  · exact ZF
 |box e x=>exact Zyf _
 |load t a =>
  simp only[ZP];split
  · exact ZrB (Zmq _ _ _)
  · exact ZF
 |store t a x =>
  simp only[ZP];split
  · exact Yt _ (λ_=>Zqn _ _ _) λ_=>ZF
  · exact ZF
 |makeSlice t l c =>
  simp only[ZP];split
  · split
    · exact ZvF _ _ _ _ _ _
    · exact ZF
  · exact ZF
 |convert s d x =>
  simp only[ZP];split
  · exact Yt _ (λ_=>Zt5 _) λ_=>ZF
  · exact Yt _ (λ_=>Zwe _) λ_=>ZF
  · exact ZF
 |makeMap t r =>
  cases r with
  |none=>exact Q3 (λn=>AV.map n) _
  |some r=>exact ZF
 |lookup t x k ck =>
  simp only[ZP];split
  · split
    · exact ZrB (Zqi _ _ _ _ _)
    · exact ZF
  · exact ZF
 |mapUpdate t m k x =>
  simp only[ZP];split
  · exact Zhz _ _ _ _
  · exact ZF
 |insert t m k x =>
  simp only[ZP];split
  · exact Zhz _ _ _ _
  · exact ZF
 |call cl =>
  obtain⟨callee,args,ts⟩:=cl
  cases callee with
  |value f=>exact Yt _ (λ_=>Zsw hc _ _) λ_=>ZfJ hc _ _
  |invoke r m =>
   simp only[ZP];unfold Zmo;split
   · split
     · exact ZfJ hc _ _
     · exact ZF
   · exact ZF
  |builtin b =>
   cases b <;> first|exact ZF|skip
   case append =>
    simp only[ZP];split
    · split
      · refine Yt _ (λ_=>ZF) λ_=>?_
        split
        · refine Yt _ (λ_=>?_) λ_=>ZF
          split
          · exact Zst _ _ _ _ _
          · exact Zvw _ _ _ _
        · exact ZF
      · exact ZF
    · exact ZF
   case delete =>
    simp only[ZP];split
    · split
      · exact Zqj _ _ _
      · exact ZF
    · exact ZF
   case len =>
    simp only[ZP];split
    · split
      · exact ZrB (ZvC _)
      · exact ZF
    · exact ZF
   case copy =>
    simp only[ZP];split
    · split
      · split
        · exact Yt _ (λ_=>Zvz _ _ _) λ_=>ZF
        · exact ZF
      · exact ZF
    · exact ZF
 |_=>exact ZF
theorem ZzC (hc:XQ call)(ev:Operand->AV)(fl:Bool)(op:Op):Xr λH=>Xi C call ev H fl op:=by
 unfold Xi
 cases Yc C ev op with
 |some v=>exact Va v
 |none=>exact Yt _ (λ_=>ZF) λ_=>ZvB hc ev op
theorem Zz0 (hc:XQ call)(ops:Array Oper)(fl:Bool)(o:Oper)(tm:List AV):Xr (YA C call ops fl o tm):=by
 unfold YA
 cases WP ops tm o with
 |none=>exact ZF
 |some b =>
  cases b with
  |false=>exact Va _
  |true=>exact ZzC hc _ _ _
end
end Go.Am
