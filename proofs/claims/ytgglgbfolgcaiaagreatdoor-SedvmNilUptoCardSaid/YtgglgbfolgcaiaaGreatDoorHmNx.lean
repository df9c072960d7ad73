/-
  THE ABSTRACT MACHINE, part N: calls; what a call that changed nothing leaves behind.
-/
import Derived.Test.YtgglgbfolgcaiaaGreatDoorHmJx
namespace Go.Am
open RowKit

section
variable {S S':Snap} {W0:World} {H H':Hp} {n:Nat}

theorem lt_of_get {α:Type} {l:List α} {i:Nat} {x:α} (h:l[i]?=some x):i < l.length:=by
 rcases Nat.lt_or_ge i l.length with h' | h'
 ·exact h'
 ·rw [List.getElem?_eq_none h'] at h;cases h

inductive Sc (n:Nat):AV→Prop
 | undef:Sc n .undef
 | bool (b:Bool):Sc n (.bool b)
 | int (k:IntKind) (m:Int):Sc n (.int k m)
 | str (s:List UInt8):Sc n (.str s)
 | nilp:Sc n .nilp
 | ptr (o off:Nat) (h:o < n):Sc n (.ptr o off)
 | vp (cells:List AV) (h:∀ c ∈ cells,Sc n c):Sc n (.vp cells)
 | nils:Sc n .nils
 | vs (k:Nat) (tok:Tok) (l:List AV) (ht:∀ t e,tok=.own t e→t < n) (h:∀ e ∈ l,∀ c ∈ e.cells,Sc n c):Sc n (.vs k tok l)
 | rs (ag:Bool) (k o off len cap:Nat) (h:o < n):Sc n (.rs ag k o off len cap)
 | ws (ag:Bool) (k o e len:Nat) (h:o < n):Sc n (.ws ag k o e len)
 | wp (o e off:Nat) (h:o < n):Sc n (.wp o e off)
 | nilm:Sc n .nilm
 | map (o:Nat) (h:o < n):Sc n (.map o)
 | nilf:Sc n .nilf
 | fn (fn:Fn) (a b:List AV) (h1:∀ c ∈ a,Sc n c) (h2:∀ c ∈ b,Sc n c):Sc n (.fn fn a b)
 | nili:Sc n .nili
 | iface (t:TypeId) (v:AV) (h:Sc n v):Sc n (.iface t v)
 | agg (l:List AV) (h:∀ c ∈ l,Sc n c):Sc n (.agg l)
 | tuple (l:List AV) (h:∀ c ∈ l,Sc n c):Sc n (.tuple l)

theorem mem_rel {l:List AV} {vs:Array Value} (hs:vs.size=l.length) {p:AV→Prop} (h:∀ (i:Nat) (c:AV) (v:Value),l[i]?=some c→vs[i]?=some v→p c):∀ c ∈ l,p c:=by
 intro c hc
 obtain ⟨i,hi⟩:=List.getElem?_of_mem hc
 have hlt:i < vs.size:=by rw [hs];exact lt_of_get hi
 exact h i c vs[i] hi (Array.getElem?_eq_getElem hlt)

theorem VRel.sc (hp:∀ o,n≤o→S.phi o=none∧S.tk o=none) {a:AV} {v:Value} (h:VRel S a v):Sc n a:=by
 have lt:∀ o b,S.phi o=some b→o < n:=fun o b h=>by
  rcases Nat.lt_or_ge o n with h' | h'
  ·exact h'
  ·rw [(hp o h').1] at h;cases h
 have ltk:∀ o,S.tk o ≠ none→o < n:=fun o h=>by
  rcases Nat.lt_or_ge o n with h' | h'
  ·exact h'
  ·exact absurd (hp o h').2 h
 induction h with
 | undef v=>exact .undef
 | bool b=>exact .bool b
 | int k m=>exact .int k m
 | str s b h=>exact .str s
 | nilp=>exact .nilp
 | ptr o off b h=>exact .ptr o off (lt o b h)
 | vp cells b off f hc h1 h2 ih =>
  refine .vp cells fun c hc=>?_
  obtain ⟨i,hi⟩:=List.getElem?_of_mem hc
  exact ih i c hi
 | nils=>exact .nils
 | vs k tok l b off cap f hcap hk h1 h2 ht sp hsp ih =>
  refine .vs k tok l (fun t e he=>?_) fun e he c hc=>?_
  ·subst he
   obtain ⟨e0,b0,hw0,sz0,q,_⟩:=ht
   rcases Nat.lt_or_ge t n with h' | h'
   ·exact h'
   ·rw [(hp t h').2] at q;cases q
  ·obtain ⟨j,hj⟩:=List.getElem?_of_mem he
   obtain ⟨i,hi⟩:=List.getElem?_of_mem hc
   exact ih j e i c hj hi
 | rs ag k o off len cap b h hlen=>exact .rs ag k o off len cap (lt o b h)
 | ws ag k o e len cap b h hlen=>exact .ws ag k o e len (ltk o (by obtain ⟨_,_,_,_,q,_⟩:=h;rw [q];simp))
 | wp o e off b h=>exact .wp o e off (ltk o (by obtain ⟨_,_,_,_,q,_⟩:=h;rw [q];simp))
 | nilm=>exact .nilm
 | map o b h=>exact .map o (lt o b h)
 | nilf=>exact .nilf
 | fn fn first captured F K hF hK h1 h2 ih1 ih2=>exact .fn fn _ _ (mem_rel hF ih1) (mem_rel hK ih2)
 | nili=>exact .nili
 | iface t v u h ih=>exact .iface t v ih
 | agg cells vs hc hs h ih=>exact .agg _ (mem_rel hs ih)
 | tuple l vs hs h ih=>exact .tuple _ (mem_rel hs ih)

def Snap.back (S:Snap) (H:Hp):Snap :=
 {w:=S.w,phi:=fun o=>if o < H.length then S.phi o else none,tk:=fun t=>if t < H.length then S.tk t else none,lim:=S.lim,
  pub:=fun b i=>S.pub b i ∨ (S.lim≤b∧b < S.w.heap.size∧(∀ o x,H[o]?=some x→x ≠ .dead→S.phi o ≠ some b)∧∀ t,t < H.length→∀ e hw sz,S.tk t ≠ some (e,b,hw,sz)) }

theorem VRel.back {a:AV} {v:Value} (h:VRel S a v) (hs:Sc H.length a):VRel (S.back H) a v:=by
 have phi:∀ o b,o < H.length→S.phi o=some b→(S.back H).phi o=some b:=fun o b h1 h2=>by simp [Snap.back,h1,h2]
 induction h with
 | undef v=>exact .undef v
 | bool b=>exact .bool b
 | int k m=>exact .int k m
 | str s b h=>exact .str s b h
 | nilp=>exact .nilp
 | ptr o off b h=>cases hs with | ptr _ _ ho=>exact .ptr o off b (phi o b ho h)
 | vp cells b off f hc h1 h2 ih =>
  cases hs with | vp _ hcs =>
  exact .vp cells b off f hc (fun i hi=>⟨(h1 i hi).1,.inl (h1 i hi).2⟩) fun i c hi=>ih i c hi (hcs c (List.mem_of_getElem? hi))
 | nils=>exact .nils
 | vs k tok l b off cap f hcap hk h1 h2 ht sp hsp ih =>
  cases hs with | vs _ _ _ htk hcs =>
  refine VRel.vs (S:=S.back H) k tok l b off cap f hcap hk (fun j i hj hi=>⟨(h1 j i hj hi).1,.inl (h1 j i hj hi).2⟩) (fun j e i c he hc=>ih j e i c he hc (hcs e (List.mem_of_getElem? he) c (List.mem_of_getElem? hc))) ?_ sp hsp
  cases tok with
  | no=>trivial
  | clip=>exact ht
  | own t e =>
   obtain ⟨e0,b0,hw0,sz0,q1,q2⟩:=ht
   exact ⟨e0,b0,hw0,sz0,by simp [Snap.back,htk t e rfl,q1],q2⟩
 | rs ag k o off len cap b h hlen=>cases hs with | rs _ _ _ _ _ _ ho=>exact .rs ag k o off len cap b (phi o b ho h) hlen
 | ws ag k o e len cap b h hlen =>
  cases hs with | ws _ _ _ _ _ ho =>
  obtain ⟨e0,b0,hw0,sz0,q1,q2⟩:=h
  exact .ws ag k o e len cap b ⟨e0,b0,hw0,sz0,by simp [Snap.back,ho,q1],q2⟩ hlen
 | wp o e off b h =>
  cases hs with | wp _ _ _ ho =>
  obtain ⟨e0,b0,hw0,sz0,q1,q2⟩:=h
  exact .wp o e off b ⟨e0,b0,hw0,sz0,by simp [Snap.back,ho,q1],q2⟩
 | nilm=>exact .nilm
 | map o b h=>cases hs with | map _ ho=>exact .map o b (phi o b ho h)
 | nilf=>exact .nilf
 | fn fn first captured F K hF hK h1 h2 ih1 ih2 =>
  cases hs with | fn _ _ _ g1 g2 =>
  exact .fn fn _ _ F K hF hK (fun i c v hi hv=>ih1 i c v hi hv (g1 c (List.mem_of_getElem? hi))) (fun i c v hi hv=>ih2 i c v hi hv (g2 c (List.mem_of_getElem? hi)))
 | nili=>exact .nili
 | iface t v u h ih=>cases hs with | iface _ _ g=>exact .iface t v u (ih g)
 | agg cells vs hc hs' h ih=>cases hs with | agg _ g=>exact .agg _ _ hc hs' fun i c v hi hv=>ih i c v hi hv (g c (List.mem_of_getElem? hi))
 | tuple l vs hs' h ih=>cases hs with | tuple _ g=>exact .tuple _ _ hs' fun i c v hi hv=>ih i c v hi hv (g c (List.mem_of_getElem? hi))

theorem Ext.back (hI:Inv W0 S H) (hx:Ext S S'):Ext S (S'.back H):=by
 have lt:∀ o,(S.phi o ≠ none ∨ S.tk o ≠ none)→o < H.length:=fun o h=>by
  rcases Nat.lt_or_ge o H.length with h' | h'
  ·exact h'
  ·obtain ⟨p,q⟩:=hI.past o h'
   rcases h with h | h
   ·exact absurd p h
   ·exact absurd q h
 refine ⟨⟨fun o b h=>?_,fun b i h=>⟨.inl (hx.pub b i h).1,(hx.pub b i h).2⟩,fun t e b hw sz h=>?_⟩,hx.lim,fun b i hp hl=>hp.elim (fun h=>hx.old b i h hl) fun h=>by have:=h.1;have:=hx.lim;omega⟩
 ·have:=lt o (.inl (by rw [h];simp))
  simp [Snap.back,this,hx.phi o b h]
 ·have:=lt t (.inr (by rw [h];simp))
  obtain ⟨e',b',hw',sz',h1,h2⟩:=hx.tk t e b hw sz h
  exact ⟨e',b',hw',sz',by simp [Snap.back,this,h1],h2⟩

theorem Inv.back (hI:Inv W0 S H) (hI':Inv W0 S' H') (ht:H'.take H.length=H):Inv W0 (S'.back H) H:=by
 have hle:H.length≤H'.length:=by
  have:=congrArg List.length ht
  simp at this
  omega
 have hget:∀ o,o < H.length→H'[o]?=H[o]?:=fun o ho=>by
  rw [← ht,List.getElem?_take_of_lt ho]
 have phi:∀ o,o < H.length→(S'.back H).phi o=S'.phi o:=fun o ho=>by simp [Snap.back,ho]
 have tk:∀ o,o < H.length→(S'.back H).tk o=S'.tk o:=fun o ho=>by simp [Snap.back,ho]
 have phi':∀ o b,(S'.back H).phi o=some b→o < H.length∧S'.phi o=some b:=fun o b h=>by
  by_cases ho:o < H.length
  ·rw [phi o ho] at h;exact ⟨ho,h⟩
  ·simp [Snap.back,ho] at h
 have tk':∀ o r,(S'.back H).tk o=some r→o < H.length∧S'.tk o=some r:=fun o r h=>by
  by_cases ho:o < H.length
  ·rw [tk o ho] at h;exact ⟨ho,h⟩
  ·simp [Snap.back,ho] at h
 have nop:∀ o b i x,H[o]?=some x→x ≠ .dead→S'.phi o=some b→(S'.back H).pub b i→S'.pub b i:=fun o b i x ho hx hb hp=>by
  rcases hp with hp | ⟨_,_,hp,_⟩
  ·exact hp
  ·exact absurd hb (hp o x ho hx)
 have nod:∀ o:Nat,H[o]? ≠ some AObj.dead→o < H.length→H'[o]? ≠ some AObj.dead:=fun o h ho=>by rwa [hget o ho]
 refine ⟨hI'.below,fun o x h=>?_,fun o ho=>⟨by simp [Snap.back];omega,by simp [Snap.back];omega⟩,fun o o' b h h' hd hd'=>?_,fun t t' e b hw sz e' hw' sz' h h'=>?_,fun t e b hw sz o h h'=>?_,fun b i h=>?_,fun o b h=>hI'.dom o b (phi' o b h).2,fun t e b hw sz h=>hI'.tdom t e b hw sz (tk' _ _ h).2,hI'.lim⟩
 ·have ho:=lt_of_get h
  have h':H'[o]?=some x:=by rw [hget o ho];exact h
  have h0:=hI.objs o x h
  have h1:=hI'.objs o x h'
  have past:=hI.past
  cases x with
  | dead=>trivial
  | free=>exact ⟨by rw [phi o ho];exact h1.1,by rw [tk o ho];exact h1.2⟩
  | cells l =>
   obtain ⟨b0,c0,el0,p1,p2,p3,p4,p5,p6,p7⟩:=h0
   obtain ⟨b,c,el,q1,q2,q3,q4,q5,q6,q7⟩:=h1
   refine ⟨b,c,el,by rw [phi o ho];exact q1,q2,q3,q4,fun i x v hi hv=>(q5 i x v hi hv).back ?_,fun i hp=>q6 i (nop o b i _ h (by simp) q1 hp),q7⟩
   exact mem_rel p4 (fun i x v hi hv=>(p5 i x v hi hv).sc past) x (List.mem_of_getElem? hi)
  | bld T u l =>
   obtain ⟨b,q1,q2,q3,q4,q5⟩:=h1
   refine ⟨b,by rw [phi o ho];exact q1,q2,q3,fun i hp=>q4 i (nop o b i _ h (by simp) q1 hp),fun v g hv hg=>?_⟩
   obtain ⟨⟨n,hw,sz,r1⟩,r2⟩:=q5 v g hv hg
   refine ⟨⟨n,hw,sz,by rw [tk o ho];exact r1⟩,fun i hp=>r2 i ?_⟩
   rcases hp with hp | ⟨_,_,_,hp⟩
   ·exact hp
   ·exact absurd r1 (hp o ho _ _ _)
  | row e l =>
   obtain ⟨b0,sz0,c0,el0,fz0,p1,p2,p3,p4,p5,p6,p7,p8,p9⟩:=h0
   obtain ⟨b,sz,c,el,fz,q1,q2,q3,q4,q5,q6,q7,q8,q9⟩:=h1
   refine ⟨b,sz,c,el,fz,by rw [tk o ho];exact q1,q2,q3,q4,q5,fun i x v hi hv=>(q6 i x v hi hv).back ?_,fun i hp=>q7 i ?_,q8,q9⟩
   ·have hil:=lt_of_get hi
    have hlt:i < c0.size:=by omega
    exact (p6 i x c0[i] hi (Array.getElem?_eq_getElem hlt)).sc past
   ·rcases hp with hp | ⟨_,_,_,hp⟩
    ·exact hp
    ·exact absurd q1 (hp o ho _ _ _)
  | tok e =>
   obtain ⟨b,hw,sz,c,el,fz,q1,q2,q3,q4,q5,q6,q7⟩:=h1
   refine ⟨b,hw,sz,c,el,fz,by rw [tk o ho];exact q1,q2,q3,q4,q5,fun i hi hp=>q6 i hi ?_,q7⟩
   rcases hp with hp | ⟨_,_,_,hp⟩
   ·exact hp
   ·exact absurd q1 (hp o ho e hw sz)
  | map es clock =>
   obtain ⟨b0,es0,p1,p2,p3,p4,p5,p6⟩:=h0
   obtain ⟨b,es',q1,q2,q3,q4,q5,q6⟩:=h1
   refine ⟨b,es',by rw [phi o ho];exact q1,q2,q3,q4,fun i hp=>q5 i (nop o b i _ h (by simp) q1 hp),fun i k v m e hi he=>?_⟩
   obtain ⟨r1,r2,r3⟩:=q6 i k v m e hi he
   have hlt:i < es0.size:=by rw [p4];exact lt_of_get hi
   obtain ⟨s1,s2,_⟩:=p6 i k v m es0[i] hi (Array.getElem?_eq_getElem hlt)
   exact ⟨r1.back (s1.sc past),r2.back (s2.sc past),r3⟩
  | siter s pos =>
   obtain ⟨b,s',q1,q2,q3,q4,q5⟩:=h1
   exact ⟨b,s',by rw [phi o ho];exact q1,q2,q3,q4,fun i hp=>q5 i (nop o b i _ h (by simp) q1 hp)⟩
 ·obtain ⟨g1,g2⟩:=phi' o b h
  obtain ⟨g3,g4⟩:=phi' o' b h'
  exact hI'.inj o o' b g2 g4 (nod o hd g1) (nod o' hd' g3)
 ·exact hI'.tinj _ _ _ _ _ _ _ _ _ (tk' _ _ h).2 (tk' _ _ h').2
 ·exact hI'.apart _ _ _ _ _ o (tk' _ _ h).2 (phi' o b h').2
 ·rcases h with h | ⟨_,h,_⟩
  ·exact hI'.puball b i h
  ·exact h

theorem closeV_isCell {f:Nat} {a b:AV} (h:closeV H' n f a=some b) (hc:a.isCell=true):b.isCell=true:=by
 cases f with
 | zero=>cases h
 | succ f =>
  cases a <;> simp only [closeV] at h <;> first
   | (simp [AV.isCell] at hc;done)
   | (injection h with h;subst h;rfl)
   | (split at h <;> first | (injection h with h;subst h;rfl) | (cases h;done) | (split at h <;> first | (cases h;done) | (split at h <;> first | (cases h;done) | (injection h with h;subst h;rfl))))

theorem closeV_agg {f:Nat} {l:List AV} {b:AV} (h:closeV H' n (f+1) (.agg l)=some b):∃ l',b=.agg l'∧l.mapM (closeV H' n f)=some l':=by
 simp only [closeV] at h
 split at h
 ·injection h with h;exact ⟨_,h.symm,‹_›⟩
 ·cases h

def valOf (e:AV) (g:Nat→Value):Value :=
 match e with
 | .agg cs=>.agg ((List.range cs.length).map g).toArray
 | _=>g 0

theorem valOf_rel {e:AV} {g:Nat→Value} (hc:e.cells.all AV.isCell=true) (h:∀ (i:Nat) (c:AV),e.cells[i]?=some c→VRel S e (valOf e g) ∨ VRel S c (g i)) (h':∀ (i:Nat) (c:AV),e.cells[i]?=some c→VRel S c (g i)):VRel S e (valOf e g):=by
 cases e with
 | agg cs =>
  refine .agg cs _ hc (by simp) fun i c v hi hv=>?_
  have:=lt_of_get hi
  simp [this] at hv
  subst hv
  exact h' i c hi
 | _=>first | exact h' 0 _ rfl

theorem elem_close {f : Nat} {e b : AV} {g : Nat → Value} {T : Snap} (h : closeV H' n f e = some b) (hc : e.cells.all AV.isCell = true) (hb : VRel T b (valOf e g)) :
    b.cells.length=e.cells.length∧b.cells.all AV.isCell=true∧∀ (i:Nat) (c:AV),b.cells[i]?=some c→VRel T c (g i):=by
 have scal:e.isCell=true→e.cells=[e]→valOf e g=g 0→b.cells.length=e.cells.length∧b.cells.all AV.isCell=true∧∀ (i:Nat) (c:AV),b.cells[i]?=some c→VRel T c (g i):=by
  intro h1 h2 h3
  have hbc:=closeV_isCell h h1
  rw [isCell_cells hbc,h2]
  refine ⟨rfl,by simp [hbc],fun i c hi=>?_⟩
  cases i with
  | zero=>simp at hi;subst hi;rwa [h3] at hb
  | succ i=>simp at hi
 cases e with
 | agg cs =>
  cases f with
  | zero=>cases h
  | succ f =>
   obtain ⟨l',rfl,hm⟩:=closeV_agg h
   obtain ⟨m1,m2⟩:=mapM_some hm
   simp only [valOf] at hb
   cases hb with | agg _ _ hb1 hb2 hb3 =>
   refine ⟨by simpa [AV.cells] using m1,hb1,fun i c hi=>hb3 i c (g i) hi ?_⟩
   have:i < cs.length:=by rw [← m1];exact lt_of_get hi
   simp [this]
 | undef=>simp [AV.cells,AV.isCell] at hc
 | tuple l=>simp [AV.cells,AV.isCell] at hc
 | _=>exact scal rfl rfl rfl

theorem list_close {f k : Nat} {l l' : List AV} {T : Snap} {g : Nat → Nat → Value} (ih : ∀ (a b : AV) (v : Value), closeV H' n f a = some b → VRel S a v → VRel T b v) (hm : l.mapM (closeV H' n f) = some l')
    (hk:∀ e,e ∈ l→e.cells.length=k∧e.cells.all AV.isCell=true) (h2:∀ (j:Nat) (e:AV) (i:Nat) (c:AV),l[j]?=some e→e.cells[i]?=some c→VRel S c (g j i)) :
    l'.length=l.length∧(∀ e,e ∈ l'→e.cells.length=k∧e.cells.all AV.isCell=true)∧∀ (j:Nat) (e:AV) (i:Nat) (c:AV),l'[j]?=some e→e.cells[i]?=some c→VRel T c (g j i):=by
 obtain ⟨m1,m2⟩:=mapM_some hm
 have key:∀ (j:Nat) (b:AV),l'[j]?=some b→∃ e,l[j]?=some e∧closeV H' n f e=some b:=fun j b hb=>by
  have hj:j < l.length:=by rw [← m1];exact lt_of_get hb
  obtain ⟨b',h1,h3⟩:=m2 j l[j] (List.getElem?_eq_getElem hj)
  rw [hb] at h3
  injection h3 with h3
  subst h3
  exact ⟨l[j],List.getElem?_eq_getElem hj,h1⟩
 have one:∀ (j:Nat) (b:AV),l'[j]?=some b→b.cells.length=k∧b.cells.all AV.isCell=true∧∀ (i:Nat) (c:AV),b.cells[i]?=some c→VRel T c (g j i):=fun j b hb=>by
  obtain ⟨e,he,hcl⟩:=key j b hb
  obtain ⟨hk1,hk2⟩:=hk e (List.mem_of_getElem? he)
  have hv:=valOf_rel (S:=S) (g:=g j) hk2 (fun i c hi=>.inr (h2 j e i c he hi)) (fun i c hi=>h2 j e i c he hi)
  obtain ⟨q1,q2,q3⟩:=elem_close hcl hk2 (ih e b _ hcl hv)
  exact ⟨by rw [q1,hk1],q2,q3⟩
 refine ⟨m1,fun b hb=>?_,fun j e i c he hc=>(one j e he).2.2 i c hc⟩
 obtain ⟨j,hj⟩:=List.getElem?_of_mem hb
 exact ⟨(one j b hj).1,(one j b hj).2.1⟩

theorem vals_close {f : Nat} {l l' : List AV} {T : Snap} {vs : Array Value} (ih : ∀ (a b : AV) (v : Value), closeV H' n f a = some b → VRel S a v → VRel T b v) (hm : l.mapM (closeV H' n f) = some l')
    (hs:vs.size=l.length) (h:∀ (i:Nat) (c:AV) (v:Value),l[i]?=some c→vs[i]?=some v→VRel S c v) :
    vs.size=l'.length∧∀ (i:Nat) (c:AV) (v:Value),l'[i]?=some c→vs[i]?=some v→VRel T c v:=by
 obtain ⟨m1,m2⟩:=mapM_some hm
 refine ⟨by rw [hs,m1],fun i b v hb hv=>?_⟩
 have hi:i < l.length:=by rw [← m1];exact lt_of_get hb
 obtain ⟨b',h1,h3⟩:=m2 i l[i] (List.getElem?_eq_getElem hi)
 rw [hb] at h3
 injection h3 with h3
 subst h3
 exact ih _ _ v h1 (h i _ v (List.getElem?_eq_getElem hi) hv)
theorem cells_close {f:Nat} {l l':List AV} (hm:l.mapM (closeV H' n f)=some l') (hc:l.all AV.isCell=true):l'.all AV.isCell=true:=by
 obtain ⟨m1,m2⟩:=mapM_some hm
 refine all_of_get fun i b hb=>?_
 have hi:i < l.length:=by rw [← m1];exact lt_of_get hb
 obtain ⟨b',h1,h3⟩:=m2 i l[i] (List.getElem?_eq_getElem hi)
 rw [hb] at h3
 injection h3 with h3
 subst h3
 exact closeV_isCell h1 (get_of_all hc (List.getElem?_eq_getElem hi))

theorem closeV_sound (hI':Inv W0 S H') (ht:H'.take H.length=H):∀ (f:Nat) (a b:AV) (v:Value),closeV H' H.length f a=some b→VRel S a v→VRel (S.back H) b v:=by
 have hget:∀ o,o < H.length→H'[o]?=H[o]?:=fun o ho=>by
  rw [← ht,List.getElem?_take_of_lt ho]
 intro f
 induction f with
 | zero=>intro a b v h;cases h
 | succ f ih =>
  intro a b v h hv
  cases hv with
  | undef v=>simp only [closeV] at h;injection h with h;subst h;exact .undef v
  | bool c=>simp only [closeV] at h;injection h with h;subst h;exact .bool c
  | int k m=>simp only [closeV] at h;injection h with h;subst h;exact .int k m
  | str s c hc=>simp only [closeV] at h;injection h with h;subst h;exact .str s c hc
  | nilp=>simp only [closeV] at h;injection h with h;subst h;exact .nilp
  | nils=>simp only [closeV] at h;injection h with h;subst h;exact .nils
  | nilm=>simp only [closeV] at h;injection h with h;subst h;exact .nilm
  | nilf=>simp only [closeV] at h;injection h with h;subst h;exact .nilf
  | nili=>simp only [closeV] at h;injection h with h;subst h;exact .nili
  | ptr o off c hc =>
   simp only [closeV] at h
   split at h
   ·injection h with h;subst h;exact .ptr o off c (by simp [Snap.back, *])
   ·cases h
  | map o c hc =>
   simp only [closeV] at h
   split at h
   ·injection h with h;subst h;exact .map o c (by simp [Snap.back, *])
   ·cases h
  | vp cells c off g hc h1 h2 =>
   simp only [closeV] at h
   split at h
   ·rename_i l' hm
    injection h with h;subst h
    obtain ⟨m1,m2⟩:=mapM_some hm
    refine .vp l' c off g (cells_close hm hc) (fun i hi=>⟨(h1 i (by omega)).1,.inl (h1 i (by omega)).2⟩) fun i b hb=>?_
    have hi:i < cells.length:=by rw [← m1];exact lt_of_get hb
    obtain ⟨b',q1,q3⟩:=m2 i cells[i] (List.getElem?_eq_getElem hi)
    rw [hb] at q3
    injection q3 with q3
    subst q3
    exact ih _ _ _ q1 (h2 i _ (List.getElem?_eq_getElem hi))
   ·cases h
  | vs k tok l c off cap g hcap hk h1 h2 htk sp hsp =>
   simp only [closeV] at h
   split at h
   ·rename_i l' hm
    injection h with h;subst h
    obtain ⟨q1,q2,q3⟩:=list_close (S:=S) (g:=g) ih hm hk h2
    rw [← q1]
    refine VRel.vs (S:=S.back H) k _ l' c off cap g (by omega) q2 (fun j i hj hi=>⟨(h1 j i (by omega) hi).1,.inl (h1 j i (by omega) hi).2⟩) q3 ?_ sp hsp
    cases tok with
    | no=>trivial
    | clip=>simp only [TokOk] at htk ⊢;omega
    | own t e =>
     simp only
     split
     ·rename_i htn
      obtain ⟨e0,b0,hw0,sz0,p1,p2⟩:=htk
      rw [q1]
      exact ⟨e0,b0,hw0,sz0,by simp [Snap.back,htn,p1],p2⟩
     ·trivial
   ·cases h
  | rs ag k o off len cap c hc hlen =>
   simp only [closeV] at h
   split at h
   ·injection h with h;subst h;exact .rs ag k o off len cap c (by simp [Snap.back, *]) hlen
   ·rename_i hon
    split at h
    ·rename_i l hel
     split at h
     ·rename_i l' hm
      injection h with h;subst h
      unfold elems at hel
      simp only [true_and] at hel
      split at hel
      ·rename_i hag
       split at hel
       ·rename_i cs ho
        split at hel
        ·rename_i hle
         injection hel with hel
         obtain ⟨b',arr,el,p1,p2,p3,p4,p5,p6,p7⟩:=hI'.objs o _ ho
         rw [hc] at p1
         injection p1 with p1
         subst p1
         obtain ⟨f1,f2,f3⟩:=flat_chunks hag len (cs.drop off) (all_drop p7 off) (by simp;omega)
         rw [hel] at f1 f2 f3
         have fc:(flat l).all AV.isCell=true:=by rw [f1];exact all_sub p7 off (len * k)
         obtain ⟨q1,q2,q3⟩:=list_close (S:=S) (T:=S.back H) (g:=fun j i=>arr.getD (off+(j * k+i)) undef) ih hm (fun e he=>⟨f2 e he,flat_cell fc he⟩) (fun j e i x he hx=>by
          have hjl:=lt_of_get he
          have hik:i < k:=by rw [← f2 e (List.mem_of_getElem? he)];exact lt_of_get hx
          have hin:j * k+i < len * k:=by
           have:=Nat.mul_le_mul_right k (Nat.succ_le_of_lt hjl);rw [Nat.succ_mul,f3] at this;omega
          have hxx:=flat_get f2 j i e he hik
          rw [hx,f1,List.getElem?_take_of_lt hin,List.getElem?_drop] at hxx
          have:off+(j * k+i) < arr.size:=by omega
          refine p5 _ x _ hxx ?_
          simp [this])
         have hll:len=l'.length:=by omega
         rw [hll]
         have hfree:∀ i,(S.back H).pub c i:=fun i=>.inr ⟨Nat.le_trans hI'.lim p2,heap_lt p3,fun o' x hx hxd hp=>?_,fun t htn e hw sz htt=>?_⟩
         ·refine .vs k .no l' c off cap _ (by omega) q2 (fun j i hj hi=>⟨?_,hfree _⟩) q3 trivial none (.inl rfl)
          have hin:j * k+i < len * k:=by
           have:=Nat.mul_le_mul_right k (Nat.succ_le_of_lt hj);rw [Nat.succ_mul,← hll] at this;omega
          have:off+(j * k+i) < arr.size:=by omega
          show S.w.cell? _=_
          rw [cell_of_row S.w c _ arr el (0,0) p3,show off+j * k+i=off+(j * k+i) by omega]
          simp [this]
         ·have hol:=lt_of_get hx
          have:=hI'.inj o' o c hp hc (by rw [hget o' hol,hx];simp [hxd]) (by rw [ho];simp)
          omega
         ·exact hI'.apart t e c hw sz o htt hc
        ·cases hel
       ·cases hel
      ·cases hel
     ·cases h
    ·cases h
  | wp o e off c hc =>
   simp only [closeV] at h
   split at h
   ·rename_i ho
    injection h with h;subst h
    obtain ⟨e0,b0,hw0,sz0,q1,q2⟩:=hc
    exact .wp o e off c ⟨e0,b0,hw0,sz0,by simp [Snap.back,ho,q1],q2⟩
   ·cases h
  | ws ag k o e len cap c hc hlen =>
   simp only [closeV] at h
   split at h
   ·rename_i ho
    injection h with h;subst h
    obtain ⟨e0,b0,hw0,sz0,q1,q2⟩:=hc
    exact .ws ag k o e len cap c ⟨e0,b0,hw0,sz0,by simp [Snap.back,ho,q1],q2⟩ hlen
   ·rename_i hon
    split at h
    ·rename_i l hel
     split at h
     ·rename_i l' hm
      injection h with h;subst h
      unfold elems at hel
      simp only [true_and] at hel
      split at hel
      ·rename_i hag
       split at hel
       ·rename_i e' cs ho
        split at hel
        ·rename_i hle
         obtain ⟨rfl,hle⟩:=hle
         injection hel with hel
         obtain ⟨e0,b0,hw0,sz0,q1,q2,q3⟩:=hc
         obtain ⟨b',sz',arr,el,fz,p1,p2,p3,p4,p5,p6,p7,p8,p9⟩:=hI'.objs o _ ho
         have q1':=q1
         rw [p1] at q1'
         simp only [Option.some.injEq,Prod.mk.injEq] at q1'
         obtain ⟨u1,u2,u3,u4⟩:=q1'
         obtain ⟨w1,w2,w3⟩:=q3 (by omega)
         obtain rfl:c=b':=by omega
         obtain ⟨f1,f2,f3⟩:=flat_chunks hag len cs p8 hle
         rw [hel] at f1 f2 f3
         have fc:(flat l).all AV.isCell=true:=by rw [f1];exact all_sub p8 0 (len * k)
         obtain ⟨q1,q2,q3⟩:=list_close (S:=S) (T:=S.back H) (g:=fun j i=>arr.getD (j * k+i) undef) ih hm (fun e he=>⟨f2 e he,flat_cell fc he⟩) (fun j e i x he hx=>by
          have hjl:=lt_of_get he
          have hik:i < k:=by rw [← f2 e (List.mem_of_getElem? he)];exact lt_of_get hx
          have hin:j * k+i < len * k:=by
           have:=Nat.mul_le_mul_right k (Nat.succ_le_of_lt hjl);rw [Nat.succ_mul,f3] at this;omega
          have hxx:=flat_get f2 j i e he hik
          rw [hx,f1,List.getElem?_take_of_lt hin] at hxx
          have:j * k+i < arr.size:=by omega
          refine p6 _ x _ hxx ?_
          simp [this])
         have hll:len=l'.length:=by omega
         rw [hll]
         have hfree:∀ i,(S.back H).pub c i:=fun i=>.inr ⟨Nat.le_trans hI'.lim p2,heap_lt p3,fun o' x hx hxd hp=>?_,fun t htn e hw sz htt=>?_⟩
         ·refine .vs k .no l' c 0 cap _ (by omega) q2 (fun j i hj hi=>⟨?_,hfree _⟩) q3 trivial none (.inl rfl)
          have hin:j * k+i < len * k:=by
           have:=Nat.mul_le_mul_right k (Nat.succ_le_of_lt hj);rw [Nat.succ_mul,← hll] at this;omega
          have:j * k+i < arr.size:=by omega
          show S.w.cell? _=_
          rw [cell_of_row S.w c _ arr el fz p3,show 0+j * k+i=j * k+i by omega]
          simp [this]
         ·exact hI'.apart o _ c _ _ o' p1 hp
         ·have:=hI'.tinj _ _ _ _ _ _ _ _ _ htt p1
          omega
        ·cases hel
       ·cases hel
      ·cases hel
     ·cases h
    ·cases h
  | fn fn a1 a2 F K hF hK h1 h2 =>
   simp only [closeV] at h
   split at h
   ·rename_i l1 l2 hm1 hm2
    injection h with h;subst h
    obtain ⟨q1,q2⟩:=vals_close (S:=S) ih hm1 hF h1
    obtain ⟨q3,q4⟩:=vals_close (S:=S) ih hm2 hK h2
    exact .fn fn l1 l2 F K q1 q3 q2 q4
   ·cases h
  | iface t x u hx =>
   simp only [closeV] at h
   split at h
   ·injection h with h;subst h;exact .iface t _ u (ih _ _ _ ‹_› hx)
   ·cases h
  | agg l vs hc hs h1 =>
   simp only [closeV] at h
   split at h
   ·rename_i l' hm
    injection h with h;subst h
    obtain ⟨q1,q2⟩:=vals_close (S:=S) ih hm hs h1
    exact .agg l' vs (cells_close hm hc) q1 q2
   ·cases h
  | tuple l vs hs h1 =>
   simp only [closeV] at h
   split at h
   ·rename_i l' hm
    injection h with h;subst h
    obtain ⟨q1,q2⟩:=vals_close (S:=S) ih hm hs h1
    exact .tuple l' vs q1 q2
   ·cases h
theorem VRel.bare {T:Snap} (hw:T.w=S.w) (hp:∀ b i,S.pub b i→T.pub b i) {a:AV} {v:Value} (h:VRel S a v) (hs:Sc 0 a):VRel T a v:=by
 induction h with
 | undef v=>exact .undef v
 | bool b=>exact .bool b
 | int k m=>exact .int k m
 | str s b h=>exact .str s b h
 | nilp=>exact .nilp
 | ptr o off b h=>cases hs with | ptr _ _ ho=>exact absurd ho (Nat.not_lt_zero _)
 | vp cells b off f hc h1 h2 ih =>
  cases hs with | vp _ hcs =>
  exact .vp cells b off f hc (fun i hi=>⟨by rw [hw];exact (h1 i hi).1,hp _ _ (h1 i hi).2⟩) fun i c hi=>ih i c hi (hcs c (List.mem_of_getElem? hi))
 | nils=>exact .nils
 | vs k tok l b off cap f hcap hk h1 h2 ht sp hsp ih =>
  cases hs with | vs _ _ _ htk hcs =>
  refine VRel.vs (S:=T) k tok l b off cap f hcap hk (fun j i hj hi=>⟨by rw [hw];exact (h1 j i hj hi).1,hp _ _ (h1 j i hj hi).2⟩) (fun j e i c he hc=>ih j e i c he hc (hcs e (List.mem_of_getElem? he) c (List.mem_of_getElem? hc))) ?_ sp hsp
  cases tok with
  | no=>trivial
  | clip=>exact ht
  | own t e=>exact absurd (htk t e rfl) (Nat.not_lt_zero _)
 | rs ag k o off len cap b h hlen=>cases hs with | rs _ _ _ _ _ _ ho=>exact absurd ho (Nat.not_lt_zero _)
 | ws ag k o e len cap b h hlen=>cases hs with | ws _ _ _ _ _ ho=>exact absurd ho (Nat.not_lt_zero _)
 | wp o e off b h=>cases hs with | wp _ _ _ ho=>exact absurd ho (Nat.not_lt_zero _)
 | nilm=>exact .nilm
 | map o b h=>cases hs with | map _ ho=>exact absurd ho (Nat.not_lt_zero _)
 | nilf=>exact .nilf
 | fn fn first captured F K hF hK h1 h2 ih1 ih2 =>
  cases hs with | fn _ _ _ g1 g2 =>
  exact .fn fn _ _ F K hF hK (fun i c v hi hv=>ih1 i c v hi hv (g1 c (List.mem_of_getElem? hi))) (fun i c v hi hv=>ih2 i c v hi hv (g2 c (List.mem_of_getElem? hi)))
 | nili=>exact .nili
 | iface t v u h ih=>cases hs with | iface _ _ g=>exact .iface t v u (ih g)
 | agg cells vs hc hs' h ih=>cases hs with | agg _ g=>exact .agg _ _ hc hs' fun i c v hi hv=>ih i c v hi hv (g c (List.mem_of_getElem? hi))
 | tuple l vs hs' h ih=>cases hs with | tuple _ g=>exact .tuple _ _ hs' fun i c v hi hv=>ih i c v hi hv (g c (List.mem_of_getElem? hi))

theorem closeV_bare {T:Snap} (hw:T.w=S.w) (hp:∀ b i,S.pub b i→T.pub b i):∀ (f:Nat) (a b:AV) (v:Value),closeV [] 0 f a=some b→VRel S a v→VRel T b v:=by
 intro f
 induction f with
 | zero=>intro a b v h;cases h
 | succ f ih =>
  intro a b v h hv
  cases hv with
  | undef v=>simp only [closeV] at h;injection h with h;subst h;exact .undef v
  | bool c=>simp only [closeV] at h;injection h with h;subst h;exact .bool c
  | int k m=>simp only [closeV] at h;injection h with h;subst h;exact .int k m
  | str s c hc=>simp only [closeV] at h;injection h with h;subst h;exact .str s c hc
  | nilp=>simp only [closeV] at h;injection h with h;subst h;exact .nilp
  | nils=>simp only [closeV] at h;injection h with h;subst h;exact .nils
  | nilm=>simp only [closeV] at h;injection h with h;subst h;exact .nilm
  | nilf=>simp only [closeV] at h;injection h with h;subst h;exact .nilf
  | nili=>simp only [closeV] at h;injection h with h;subst h;exact .nili
  | ptr o off c hc =>
   simp only [closeV] at h
   split at h
   ·rename_i ho;exact absurd ho (Nat.not_lt_zero _)
   ·cases h
  | map o c hc =>
   simp only [closeV] at h
   split at h
   ·rename_i ho;exact absurd ho (Nat.not_lt_zero _)
   ·cases h
  | vp cells c off g hc h1 h2 =>
   simp only [closeV] at h
   split at h
   ·rename_i l' hm
    injection h with h;subst h
    obtain ⟨m1,m2⟩:=mapM_some hm
    refine .vp l' c off g (cells_close hm hc) (fun i hi=>⟨by rw [hw];exact (h1 i (by omega)).1,hp _ _ (h1 i (by omega)).2⟩) fun i b hb=>?_
    have hi:i < cells.length:=by rw [← m1];exact lt_of_get hb
    obtain ⟨b',q1,q3⟩:=m2 i cells[i] (List.getElem?_eq_getElem hi)
    rw [hb] at q3
    injection q3 with q3
    subst q3
    exact ih _ _ _ q1 (h2 i _ (List.getElem?_eq_getElem hi))
   ·cases h
  | vs k tok l c off cap g hcap hk h1 h2 htk sp hsp =>
   simp only [closeV] at h
   split at h
   ·rename_i l' hm
    injection h with h;subst h
    obtain ⟨q1,q2,q3⟩:=list_close (S:=S) (g:=g) ih hm hk h2
    rw [← q1]
    refine VRel.vs (S:=T) k _ l' c off cap g (by omega) q2 (fun j i hj hi=>⟨by rw [hw];exact (h1 j i (by omega) hi).1,hp _ _ (h1 j i (by omega) hi).2⟩) q3 ?_ sp hsp
    cases tok with
    | no=>trivial
    | clip=>simp only [TokOk] at htk ⊢;omega
    | own t e =>
     simp only
     split
     ·rename_i htn;exact absurd htn (Nat.not_lt_zero _)
     ·trivial
   ·cases h
  | wp o e off c hc =>
   simp only [closeV] at h
   split at h
   ·rename_i ho;exact absurd ho (Nat.not_lt_zero _)
   ·cases h
  | ws ag k o e len cap c hc hlen =>
   simp only [closeV] at h
   split at h
   ·rename_i ho;exact absurd ho (Nat.not_lt_zero _)
   ·have:elems k (.ws ag k o e len) ([]:Hp)=none:=by simp [elems]
    rw [this] at h
    cases h
  | rs ag k o off len cap c hc hlen =>
   simp only [closeV] at h
   split at h
   ·rename_i ho;exact absurd ho (Nat.not_lt_zero _)
   ·have:elems k (.rs ag k o off len cap) ([]:Hp)=none:=by simp [elems]
    rw [this] at h
    cases h
  | fn fn a1 a2 F K hF hK h1 h2 =>
   simp only [closeV] at h
   split at h
   ·rename_i l1 l2 hm1 hm2
    injection h with h;subst h
    obtain ⟨q1,q2⟩:=vals_close (S:=S) ih hm1 hF h1
    obtain ⟨q3,q4⟩:=vals_close (S:=S) ih hm2 hK h2
    exact .fn fn l1 l2 F K q1 q3 q2 q4
   ·cases h
  | iface t x u hx =>
   simp only [closeV] at h
   split at h
   ·injection h with h;subst h;exact .iface t _ u (ih _ _ _ ‹_› hx)
   ·cases h
  | agg l vs hc hs h1 =>
   simp only [closeV] at h
   split at h
   ·rename_i l' hm
    injection h with h;subst h
    obtain ⟨q1,q2⟩:=vals_close (S:=S) ih hm hs h1
    exact .agg l' vs (cells_close hm hc) q1 q2
   ·cases h
  | tuple l vs hs h1 =>
   simp only [closeV] at h
   split at h
   ·rename_i l' hm
    injection h with h;subst h
    obtain ⟨q1,q2⟩:=vals_close (S:=S) ih hm hs h1
    exact .tuple l' vs q1 q2
   ·cases h
end
end Go.Am
