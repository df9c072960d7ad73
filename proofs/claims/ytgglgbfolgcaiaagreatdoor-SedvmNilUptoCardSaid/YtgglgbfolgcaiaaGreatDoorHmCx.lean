/-
  THE ABSTRACT MACHINE, part C: the operations that look at no object do what the model does.
-/
import Derived.Test.YtgglgbfolgcaiaaGreatDoorHmBx
namespace Go.Am
open RowKit

section
variable {P:Program} {S:Snap} {W0:World} {H:Hp}

theorem acallQ_sub {C:Cfg} {call:CallF} {f:AV} {args:List AV} {r:AV × Hp} (h:acallQ C call f args H=some r):acall C call f args H=some r:=by
 unfold acallQ qC at h
 split at h
 ·split at h
  ·exact h
  ·cases h
 ·cases h
theorem acallE_sub {C:Cfg} {call:CallF} {b:Bool} {f:AV} {args:List AV} {r:AV × Hp} (h:(if b then acallQ C call f args H else acall C call f args H)=some r):acall C call f args H=some r:=by
 cases b with
 | true=>exact acallQ_sub h
 | false=>exact h
def Yields (P:Program) (W0:World) (S:Snap) (H:Hp) (s:Sem Value) (v:AV) (H':Hp):Prop :=
 Inv W0 S H→∃ v' S',s.run P S.w=.ok v' S'.w∧Ext S S'∧Inv W0 S' H'∧VRel S' v v'

theorem Yields.same {s:Sem Value} {v:AV} (v':Value) (h:s.run P S.w=.ok v' S.w) (hv:VRel S v v'):Yields P W0 S H s v H :=
 fun hI=>⟨v',S,h,Ext.refl S,hI,hv⟩

theorem Inv.size (hI:Inv W0 S H):W0.heap.size≤S.w.heap.size:=hI.below.size

theorem heap_lt {w:World} {b:Nat} {o:Obj} (h:w.heap[b]?=some o):b < w.heap.size:=by
 rcases Nat.lt_or_ge b w.heap.size with h' | h'
 ·exact h'
 ·rw [Array.getElem?_eq_none h'] at h;cases h

theorem _root_.Go.Lib.BuilderAtF.frame {T e : TypeId} {B b : Nat} {p : Value} {bs : List Value} {w w' : World} (h : Lib.BuilderAtF T e B b p bs w) (hb : w'.heap[b]? = w.heap[b]?)
    (hg:∀ v g,w.cell? ⟨b,1,none⟩=some v→v.ownBlock=some g→w'.heap[g]?=w.heap[g]?):Lib.BuilderAtF T e B b p bs w':=by
 obtain ⟨hB,v,hbk,hown,hne⟩:=h
 have hc:w.cell? ⟨b,1,none⟩=some v:=by rw [Lib.cell_of_heap hbk];rfl
 refine ⟨hB,v,hb.trans hbk,⟨hown.1,?_⟩,hne⟩
 rcases hown.2 with h | ⟨g,cap,cur,fz,hv,hbg,hgg,rest⟩
 ·exact .inl h
 ·exact .inr ⟨g,cap,cur,fz,hv,hbg,(hg v g hc (by rw [hv];rfl)).trans hgg,rest⟩
theorem _root_.Go.Lib.IsBuilderF.frame {T e : TypeId} {B b : Nat} {bs : List Value} {w w' : World} (h : Lib.IsBuilderF T e B b bs w) (hb : w'.heap[b]? = w.heap[b]?)
    (hg:∀ v g,w.cell? ⟨b,1,none⟩=some v→v.ownBlock=some g→w'.heap[g]?=w.heap[g]?):Lib.IsBuilderF T e B b bs w' :=
 h.elim (fun h=>.inl (h.frame hb hg)) fun h=>.inr (h.frame hb hg)
theorem _root_.Go.Lib.BuilderAtF.own_lt {T e:TypeId} {B b:Nat} {p:Value} {bs:List Value} {w:World} (h:Lib.BuilderAtF T e B b p bs w) {v:Value} {g:Nat} (hv:w.cell? ⟨b,1,none⟩=some v) (hg:v.ownBlock=some g):g < w.heap.size:=by
 obtain ⟨hB,v',hbk,hown,hne⟩:=h
 rw [Lib.cell_of_heap hbk] at hv
 injection hv with hv
 subst hv
 exact (hown.lt g hg).2
theorem _root_.Go.Lib.IsBuilderF.own_lt {T e:TypeId} {B b:Nat} {bs:List Value} {w:World} (h:Lib.IsBuilderF T e B b bs w) {v:Value} {g:Nat} (hv:w.cell? ⟨b,1,none⟩=some v) (hg:v.ownBlock=some g):g < w.heap.size :=
 h.elim (fun h=>h.own_lt hv hg) fun h=>h.own_lt hv hg
theorem ORel.frame {S S' : Snap} (hx : Ext S S') {B0 o : Nat} {x : AObj} (h : ORel S B0 o x)
    (hb:∀ b,(S.phi o=some b ∨ ∃ e hw sz,S.tk o=some (e,b,hw,sz))→b < S.w.heap.size→S'.w.heap[b]?=S.w.heap[b]?∧∀ i,S'.pub b i→S.pub b i)
    (htk:S'.tk o=S.tk o) (hph:S'.phi o=S.phi o):ORel S' B0 o x:=by
 cases x with
 | cells l =>
  obtain ⟨b,c,el,h1,h2,h3,h4,h5,h6,h7⟩:=h
  obtain ⟨e1,e2⟩:=hb b (.inl h1) (heap_lt h3)
  exact ⟨b,c,el,hx.phi _ _ h1,h2,e1.trans h3,h4,fun i x v hi hv=>(h5 i x v hi hv).mono hx,fun i hp=>h6 i (e2 i hp),h7⟩
 | bld T u l =>
  obtain ⟨b,h1,h2,h3,h4,h5⟩:=h
  have hlt:b < S.w.heap.size:=h2.elim (fun h=>h.lt) fun h=>h.lt
  obtain ⟨e1,e2⟩:=hb b (.inl h1) hlt
  have hcell:∀ i,S'.w.cell? ⟨b,i,none⟩=S.w.cell? ⟨b,i,none⟩:=fun i=>by unfold World.cell?;rw [e1]
  refine ⟨b,hx.phi _ _ h1,h2.frame e1 fun v g hv hg=>?_,h3,fun i hp=>h4 i (e2 i hp),fun v g hv hg=>?_⟩
  ·obtain ⟨⟨n,hw,sz,q⟩,_⟩:=h5 v g hv hg
   exact (hb g (.inr ⟨_,_,_,q⟩) (h2.own_lt hv hg)).1
  ·rw [hcell] at hv
   obtain ⟨⟨n,hw,sz,q⟩,q2⟩:=h5 v g hv hg
   exact ⟨⟨n,hw,sz,htk.trans q⟩,fun i hp=>q2 i ((hb g (.inr ⟨_,_,_,q⟩) (h2.own_lt hv hg)).2 i hp)⟩
 | row e l =>
  obtain ⟨b,sz,c,el,fz,h1,h2,h3,h4,h5,h6,h7,h8,h9⟩:=h
  obtain ⟨e1,e2⟩:=hb b (.inr ⟨_,_,_,h1⟩) (heap_lt h3)
  exact ⟨b,sz,c,el,fz,htk.trans h1,h2,e1.trans h3,h4,h5,fun i x v hi hv=>(h6 i x v hi hv).mono hx,fun i hp=>h7 i (e2 i hp),h8,h9⟩
 | tok e =>
  obtain ⟨b,hw,sz,c,el,fz,h1,h2,h3,h4,h5,h6,h7⟩:=h
  obtain ⟨e1,e2⟩:=hb b (.inr ⟨_,_,_,h1⟩) (heap_lt h3)
  exact ⟨b,hw,sz,c,el,fz,htk.trans h1,h2,e1.trans h3,h4,h5,fun i hi hp=>h6 i hi (e2 i hp),h7⟩
 | map es clock =>
  obtain ⟨b,es',h1,h2,h3,h4,h5,h6⟩:=h
  obtain ⟨e1,e2⟩:=hb b (.inl h1) (heap_lt h3)
  exact ⟨b,es',hx.phi _ _ h1,h2,e1.trans h3,h4,fun i hp=>h5 i (e2 i hp),fun i k v n e hi he =>
   let ⟨p,q,r⟩:=h6 i k v n e hi he;⟨p.mono hx,q.mono hx,r⟩⟩
 | siter s pos =>
  obtain ⟨b,s',h1,h2,h3,h4,h5⟩:=h
  obtain ⟨e1,e2⟩:=hb b (.inl h1) (heap_lt h3)
  exact ⟨b,s',hx.phi _ _ h1,h2,e1.trans h3,h4,fun i hp=>h5 i (e2 i hp)⟩
 | dead=>trivial
 | free=>exact ⟨hph.trans h.1,htk.trans h.2⟩

def Snap.drew (S:Snap):Snap:={ S with w:=S.w.drew }
theorem Ext.drew (S:Snap):Ext S S.drew :=
 ⟨⟨fun _ _ h=>h,fun _ _ h=>⟨h,rfl⟩,fun _ e b hw sz h=>⟨e,b,hw,sz,h,Nat.le_refl _,fun _=>⟨rfl,rfl,rfl⟩⟩⟩,rfl,fun _ _ h _=>h⟩
theorem Inv.drew (hI:Inv W0 S H):Inv W0 S.drew H :=
 ⟨hI.below.drew,fun o x h=>(hI.objs o x h).frame (Ext.drew S) (fun _ _ _=>⟨rfl,fun _ h=>h⟩) rfl rfl,hI.past,hI.inj,hI.tinj,hI.apart,hI.puball,hI.dom,hI.tdom,hI.lim⟩

def Snap.grow (S:Snap) (o:Obj):Snap:={ S with w:=S.w.alloc o,pub:=fun b i=>S.pub b i ∨ b=S.w.heap.size }
theorem Ext.grow (hI:Inv W0 S H) (o:Obj):Ext S (S.grow o):=by
 refine ⟨⟨fun _ _ h=>h,fun b i h=>⟨.inl h,?_⟩,fun _ e b hw sz h=>⟨e,b,hw,sz,h,Nat.le_refl _,fun _=>⟨rfl,rfl,rfl⟩⟩⟩,rfl,fun b i hp hl=>hp.elim id fun e=>by have:=hI.lim;have:=hI.below.size;omega⟩
 exact World.cell?_alloc_lt _ _ _ (hI.puball b i h)
theorem Inv.grow (hI:Inv W0 S H) (o:Obj):Inv W0 (S.grow o) H:=by
 refine ⟨hI.below.alloc hI.size o,fun n x h=>(hI.objs n x h).frame (Ext.grow hI o) (fun b _ hlt=>⟨Below.heap_alloc S.w o b hlt,fun i hp=>?_⟩) rfl rfl,
  hI.past,hI.inj,hI.tinj,hI.apart,fun b i h=>?_,fun o b h=>?_,fun t e b hw sz h=>?_,hI.lim⟩
 ·rcases hp with hp | rfl
  ·exact hp
  ·exact absurd hlt (Nat.lt_irrefl _)
 ·show b < (S.w.alloc o).heap.size
  rw [World.size_alloc]
  rcases h with h | rfl
  ·exact Nat.lt_succ_of_lt (hI.puball b i h)
  ·exact Nat.lt_succ_self _
 ·show b < (S.w.alloc _).heap.size
  rw [World.size_alloc];exact Nat.lt_succ_of_lt (hI.dom _ b h)
 ·show b < (S.w.alloc _).heap.size
  rw [World.size_alloc];exact Nat.lt_succ_of_lt (hI.tdom _ _ b _ _ h)

theorem run_szT {t:TypeId} {n:Nat} (h:szT P t=some n) (w:World):(sizeOf t).run P w=.ok n w:=by
 unfold szT at h
 cases hi:P.info? t with
 | none=>simp [hi] at h
 | some i=>simp [hi] at h;subst h;simp [sizeOf,typeInfo,hi]
theorem run_isAggT {t:TypeId} {g:Bool} (h:isAggT P t=some g) (w:World):(isAgg t).run P w=.ok g w:=by
 unfold isAggT at h
 unfold isAgg
 cases hu:P.underlying t with
 | none=>simp [hu] at h
 | some d=>rw [Sem.run_bind,run_underlying hu];cases d <;> simp_all

structure CellsRel (S:Snap) (l:List AV) (c:Array Value):Prop where
 size:c.size=l.length
 rel:∀ (i:Nat) (x:AV) (v:Value),l[i]?=some x→c[i]?=some v→VRel S x v
 cell:l.all AV.isCell=true

theorem CellsRel.get {l:List AV} {c:Array Value} (h:CellsRel S l c) {i:Nat} {x:AV} (hi:l[i]?=some x):∃ v,c[i]?=some v∧VRel S x v:=by
 have hlt:i < c.size:=by
  rw [h.size]
  rcases Nat.lt_or_ge i l.length with h' | h'
  ·exact h'
  ·rw [List.getElem?_eq_none h'] at hi;cases hi
 exact ⟨c[i],Array.getElem?_eq_getElem hlt,h.rel i x _ hi (Array.getElem?_eq_getElem hlt)⟩
theorem CellsRel.mono {S S':Snap} (hx:Ext S S') {l:List AV} {c:Array Value} (h:CellsRel S l c):CellsRel S' l c :=
 ⟨h.size,fun i x v hi hv=>(h.rel i x v hi hv).mono hx,h.cell⟩
theorem all_of_get {l:List AV} (h:∀ (i:Nat) (x:AV),l[i]?=some x→x.isCell=true):l.all AV.isCell=true:=by
 rw [List.all_eq_true]
 intro x hx
 obtain ⟨i,hi⟩:=List.getElem?_of_mem hx
 exact h i x hi
theorem get_of_all {l:List AV} (h:l.all AV.isCell=true) {i:Nat} {x:AV} (hi:l[i]?=some x):x.isCell=true:=List.all_eq_true.1 h x (List.mem_of_getElem? hi)
theorem all_sub {l:List AV} (h:l.all AV.isCell=true) (a n:Nat):((l.drop a).take n).all AV.isCell=true:=by
 rw [List.all_eq_true] at h ⊢
 exact fun x hx=>h x (List.mem_of_mem_drop (List.mem_of_mem_take hx))
theorem CellsRel.extract {l:List AV} {c:Array Value} (h:CellsRel S l c) (a n:Nat) (hn:a+n≤l.length):CellsRel S ((l.drop a).take n) (c.extract a (a+n)):=by
 refine ⟨by simp [h.size];omega,fun i x v hi hv=>?_,all_sub h.cell a n⟩
 have hin:i < n:=by
  rcases Nat.lt_or_ge i n with h' | h'
  ·exact h'
  ·rw [List.getElem?_eq_none (by simp;omega)] at hi;cases hi
 rw [List.getElem?_take_of_lt hin,List.getElem?_drop] at hi
 refine h.rel (a+i) x v hi ?_
 rw [Array.getElem?_extract] at hv
 split at hv
 ·exact hv
 ·cases hv

theorem VRel.cells {a:AV} {v:Value} (h:VRel S a v) (hu:a.known=true):CellsRel S a.cells v.cells:=by
 cases h with
 | undef v=>cases hu
 | tuple _ _ _ _=>cases hu
 | agg cells vs hc hs h=>exact ⟨hs,h,hc⟩
 | _ =>
  refine ⟨rfl,fun i x v hi hv=>?_,rfl⟩
  cases i with
  | zero =>
   simp [AV.cells] at hi
   simp [Value.cells] at hv
   subst hi hv
   first
    | exact .bool _
    | exact .int _ _
    | exact .str _ _ ‹_›
    | exact .nilp
    | exact .ptr _ _ _ ‹_›
    | exact .vp _ _ _ _ ‹_› ‹_› ‹_›
    | exact .nils
    | exact .vs _ _ _ _ _ _ _ ‹_› ‹_› ‹_› ‹_› ‹_› _ ‹_›
    | exact .rs _ _ _ _ _ _ _ ‹_› ‹_›
    | exact .ws _ _ _ _ _ _ _ ‹_› ‹_›
    | exact .wp _ _ _ _ ‹_›
    | exact .nilm
    | exact .map _ _ ‹_›
    | exact .nilf
    | exact .fn _ _ _ _ _ ‹_› ‹_› ‹_› ‹_›
    | exact .nili
    | exact .iface _ _ _ ‹_›
  | succ n=>simp [AV.cells] at hi

theorem part_sound {t : TypeId} {g : Bool} {sz off : Nat} {l : List AV} {c : Array Value} {v : AV} (hg : isAggT P t = some g) (hs : szT P t = some sz) (hc : CellsRel S l c)
    (h:apart g sz l off=some v):∃ v',(part t c off).run P S.w=.ok v' S.w∧VRel S v v':=by
 unfold apart at h
 cases g with
 | true =>
  simp only [if_true] at h
  split at h
  ·rename_i hle
   injection h with h
   subst h
   have hx:=hc.extract off sz hle
   exact ⟨.agg (c.extract off (off+sz)),by simp [part,run_isAggT hg,run_szT hs],.agg _ _ hx.cell hx.size hx.rel⟩
  ·cases h
 | false =>
  simp only [Bool.false_eq_true,if_false] at h
  obtain ⟨u,hu,hr⟩:=hc.get h
  exact ⟨u,by simp [part,run_isAggT hg,hu],hr⟩

theorem loadVar_sound {t : TypeId} {g : Bool} {sz off b : Nat} {l : List AV} {f : Nat → Value} {v : AV} (hg : isAggT P t = some g) (hs : szT P t = some sz)
    (h1:∀ i,i < l.length→S.w.cell? ⟨b,i+off,none⟩=some (f i)) (h2:∀ (i:Nat) (x:AV),l[i]?=some x→VRel S x (f i)) (h3:l.all AV.isCell=true) (h:apart g sz l 0=some v) :
    ∃ v',(loadVar t ⟨b,off,none⟩).run P S.w=.ok v' S.w∧VRel S v v':=by
 unfold apart at h
 have hadd:∀ j,(⟨b,off,none⟩:Addr).add j=⟨b,j+off,none⟩:=fun j=>by unfold Addr.add;split <;> simp_all [Nat.add_comm]
 cases g with
 | true =>
  simp only [if_true] at h
  split at h
  ·rename_i hle
   injection h with h
   subst h
   have hl:=run_loadCells (P:=P) S.w ⟨b,off,none⟩ sz f (fun j hj=>by rw [hadd];exact h1 j (by omega))
   refine ⟨.agg ((List.range sz).map f).toArray,by simp [loadVar,run_isAggT hg,run_szT hs,hl],.agg _ _ (all_sub h3 0 sz) (by simp;omega) (fun i x v hi hv=>?_)⟩
   have hin:i < sz:=by
    rcases Nat.lt_or_ge i sz with h' | h'
    ·exact h'
    ·rw [List.getElem?_eq_none (by simp;omega)] at hi;cases hi
   simp [hin] at hi hv
   subst hv
   exact h2 i x hi
  ·cases h
 | false =>
  simp only [Bool.false_eq_true,if_false] at h
  have hlt:0 < l.length:=by
   cases l with
   | nil=>simp at h
   | cons=>simp
  have h0:=h1 0 hlt
  simp only [Nat.zero_add] at h0
  exact ⟨f 0,by simp [loadVar,run_isAggT hg,h0],h2 0 v h⟩
end
end Go.Am
