/-
  THE ABSTRACT MACHINE, part I: operations on objects.
-/
import Derived.Test.YtgglgbfolgcaiaaGreatDoorHmHx
namespace Go.Am
open RowKit

section
variable {P:Program} {S:Snap} {W0:World} {H:Hp}

theorem Below.setRow {B g:Nat} {a w:World} (h:Below B a w) (hg:B≤g) (cs:Array Value):Below B a (w.setRow g cs) :=
 h.trans ⟨rfl,rfl,rfl,by simp,fun k hk=>setRow_other _ _ _ _ (by omega)⟩

theorem CellsRel.oneCells {l:List AV} {c:Array Value} (h:CellsRel S l c):∀ v ∈ c.toList,v.oneCell'=true:=by
 intro v hv
 obtain ⟨i,hi⟩:=List.getElem?_of_mem hv
 rw [Array.getElem?_toList] at hi
 have hlt:i < l.length:=by
  rw [← h.size]
  rcases Nat.lt_or_ge i c.size with h' | h'
  ·exact h'
  ·rw [Array.getElem?_eq_none h'] at hi;cases hi
 have hr:=h.rel i l[i] v (List.getElem?_eq_getElem hlt) hi
 have hcell:(l[i]).isCell=true:=List.all_eq_true.1 h.cell _ (List.getElem_mem hlt)
 generalize l[i]=a at hr hcell
 cases hr <;> first | rfl | (simp [AV.isCell] at hcell;done)

theorem lt_of_getL {α:Type} {l:List α} {i:Nat} {x:α} (h:l[i]?=some x):i < l.length:=by
 rcases Nat.lt_or_ge i l.length with h' | h'
 ·exact h'
 ·rw [List.getElem?_eq_none h'] at h;cases h
def Snap.obj (S:Snap) (n:Nat) (o:Obj):Snap:={ S with w:=S.w.alloc o,phi:=fun x=>if x=n then some S.w.heap.size else S.phi x }
theorem Ext.objAt (hI:Inv W0 S H) {n:Nat} (hp:S.phi n=none) (o:Obj):Ext S (S.obj n o):=by
 refine ⟨⟨fun x b h=>?_,fun b i h=>⟨h,World.cell?_alloc_lt _ _ _ (hI.puball b i h)⟩,fun _ e b hw sz h=>⟨e,b,hw,sz,h,Nat.le_refl _,fun _=>⟨rfl,rfl,rfl⟩⟩⟩,rfl,fun _ _ h _=>h⟩
 show (if x=n then _ else _)=_
 rw [if_neg]
 ·exact h
 ·rintro rfl
  rw [hp] at h
  cases h
theorem Ext.obj (hI:Inv W0 S H) (o:Obj):Ext S (S.obj H.length o):=Ext.objAt hI (hI.past _ (Nat.le_refl _)).1 o
theorem obj_phi_new (S:Snap) (n:Nat) (o:Obj):(S.obj n o).phi n=some S.w.heap.size:=by simp [Snap.obj]
theorem obj_phi_old {n x:Nat} {o:Obj} (h:x ≠ n):(S.obj n o).phi x=S.phi x:=by simp [Snap.obj,h]
theorem obj_heap (S:Snap) (n:Nat) (o:Obj):(S.obj n o).w.heap[S.w.heap.size]?=some o:=heap_alloc_new S.w o

theorem Inv.objAt (hI:Inv W0 S H) {n0:Nat} {H':Hp} {o:Obj} {x:AObj} (hp:S.phi n0=none) (hn:H'[n0]?=some x) (ho:∀ m,m ≠ n0→H'[m]?=H[m]?) (hl:H.length≤H'.length) (hx:ORel (S.obj n0 o) W0.heap.size n0 x):Inv W0 (S.obj n0 o) H':=by
 have hext:=Ext.objAt hI hp o
 have hn0:n0 < H'.length:=by
  rcases Nat.lt_or_ge n0 H'.length with h' | h'
  ·exact h'
  ·rw [List.getElem?_eq_none h'] at hn;cases hn
 refine ⟨hI.below.alloc hI.size o,fun n y h=>?_,fun n hn=>?_,fun o1 o2 b h1 h2 hd1 hd2=>?_,hI.tinj,fun t e b hw sz n ht=>?_,fun b i h=>?_,fun n b h=>?_,fun t e b hw sz h=>?_,hI.lim⟩
 ·by_cases e1:n=n0
  ·subst e1
   rw [hn] at h
   injection h with h
   subst h
   exact hx
  ·rw [ho n e1] at h
   exact (hI.objs n y h).frame hext (fun b _ hlt=>⟨Below.heap_alloc S.w o b hlt,fun i hp=>hp⟩) rfl (obj_phi_old e1)
 ·obtain ⟨p,q⟩:=hI.past n (by omega)
  exact ⟨by rw [obj_phi_old (by omega)];exact p,q⟩
 ·have old:∀ x,x ≠ n0→(S.obj n0 o).phi x=some b→b < S.w.heap.size:=fun x hx h=>by rw [obj_phi_old hx] at h;exact hI.dom x b h
  by_cases e1:o1=n0
  ·by_cases e2:o2=n0
   ·rw [e1,e2]
   ·rw [e1,obj_phi_new] at h1
    injection h1 with h1
    have:=old o2 e2 h2
    omega
  ·by_cases e2:o2=n0
   ·rw [e2,obj_phi_new] at h2
    injection h2 with h2
    have:=old o1 e1 h1
    omega
   ·rw [ho o1 e1] at hd1
    rw [ho o2 e2] at hd2
    rw [obj_phi_old e1] at h1
    rw [obj_phi_old e2] at h2
    exact hI.inj o1 o2 b h1 h2 hd1 hd2
 ·by_cases e1:n=n0
  ·rw [e1,obj_phi_new]
   have:=hI.tdom t e b hw sz ht
   intro hc
   injection hc with hc
   omega
  ·rw [obj_phi_old e1]
   exact hI.apart t e b hw sz n ht
 ·show b < (S.w.alloc o).heap.size
  rw [World.size_alloc];exact Nat.lt_succ_of_lt (hI.puball b i h)
 ·show b < (S.w.alloc o).heap.size
  rw [World.size_alloc]
  by_cases e1:n=n0
  ·rw [e1,obj_phi_new] at h
   injection h with h
   omega
  ·rw [obj_phi_old e1] at h
   exact Nat.lt_succ_of_lt (hI.dom n b h)
 ·show b < (S.w.alloc o).heap.size
  rw [World.size_alloc];exact Nat.lt_succ_of_lt (hI.tdom t e b hw sz h)
theorem Inv.obj (hI:Inv W0 S H) {o:Obj} {x:AObj} (hx:ORel (S.obj H.length o) W0.heap.size H.length x):Inv W0 (S.obj H.length o) (H++[x]):=by
 refine Inv.objAt hI (hI.past _ (Nat.le_refl _)).1 (by simp) (fun m hm=>?_) (by simp) hx
 rcases Nat.lt_or_ge m H.length with hlt | hge
 ·rw [List.getElem?_append_left hlt]
 ·rw [List.getElem?_eq_none hge,List.getElem?_eq_none (by simp;omega)]
theorem Inv.resv (hI:Inv W0 S H) (n:Nat):Inv W0 S (H++List.replicate n .free):=by
 have get:∀ m,H.length≤m→(H++List.replicate n AObj.free)[m]?=none ∨ (H++List.replicate n AObj.free)[m]?=some .free:=fun m hm=>by
  rw [List.getElem?_append_right hm,List.getElem?_replicate]
  split
  ·exact .inr rfl
  ·exact .inl rfl
 refine ⟨hI.below,fun o x h=>?_,fun o h=>hI.past o (by simp at h;omega),fun o o' b h h' hd hd'=>?_,hI.tinj,hI.apart,hI.puball,hI.dom,hI.tdom,hI.lim⟩
 ·rcases Nat.lt_or_ge o H.length with hlt | hge
  ·rw [List.getElem?_append_left hlt] at h
   exact hI.objs o x h
  ·rcases get o hge with g | g
   ·rw [g] at h;cases h
   ·rw [g] at h
    injection h with h
    subst h
    exact hI.past o hge
 ·have lt : ∀ o b, S.phi o = some b → o < H.length := fun o b h => by
     rcases Nat.lt_or_ge o H.length with h' | h'
     ·exact h'
     ·rw [(hI.past o h').1] at h;cases h
  rw [List.getElem?_append_left (lt o b h)] at hd
  rw [List.getElem?_append_left (lt o' b h')] at hd'
  exact hI.inj o o' b h h' hd hd'

theorem newRow_sound {l : List AV} {c : Array Value} (hI : Inv W0 S H) (hc : CellsRel S l c) (el : TypeId) :
    (newRow el c).run P S.w=.ok ⟨S.w.heap.size,0,none⟩ (S.obj H.length (.cells c el)).w∧Inv W0 (S.obj H.length (.cells c el)) (H++[.cells l])∧(S.obj H.length (.cells c el)).phi H.length=some S.w.heap.size:=by
 have hext:=Ext.obj hI (.cells c el)
 refine ⟨by simp [newRow];rfl,hI.obj ⟨S.w.heap.size,c,el,obj_phi_new S _ _,hI.size,obj_heap S _ _,hc.size,fun i x v hi hv=>(hc.rel i x v hi hv).mono hext,fun i hp=>?_,hc.cell⟩,obj_phi_new S _ _⟩
 exact absurd (hI.puball _ i hp) (Nat.lt_irrefl _)

theorem newBld_sound {T u : TypeId} {c : Array Value} (hI : Inv W0 S H) (hc : c = #[.pointer none, .slice none 0 0]) (hTu : T ≠ u) :
    (newRow T c).run P S.w=.ok ⟨S.w.heap.size,0,none⟩ (S.obj H.length (.cells c T)).w∧Inv W0 (S.obj H.length (.cells c T)) (H++[.bld T u []])∧(S.obj H.length (.cells c T)).phi H.length=some S.w.heap.size:=by
 subst hc
 refine ⟨by simp [newRow];rfl,hI.obj ⟨S.w.heap.size,obj_phi_new S _ _,.inl ⟨hI.size,.slice none 0 0,obj_heap S _ _,World.ownsRowF_nil _ _ _ _,by simp [Value.ownBlock]⟩,hTu,fun i hp=>?_,fun v g hv hg=>?_⟩,obj_phi_new S _ _⟩
 ·exact absurd (hI.puball _ i hp) (Nat.lt_irrefl _)
 ·have:=obj_heap S H.length (.cells #[.pointer none,.slice none 0 0] T)
  rw [Lib.cell_of_heap this] at hv
  injection hv with hv
  subst hv
  simp [Value.ownBlock] at hg

theorem newRow_at {n : Nat} {l : List AV} {c : Array Value} (hI : Inv W0 S H) (hn : H[n]? = some .free) (hc : CellsRel S l c) (el : TypeId) :
    (newRow el c).run P S.w=.ok ⟨S.w.heap.size,0,none⟩ (S.obj n (.cells c el)).w∧Ext S (S.obj n (.cells c el))∧Inv W0 (S.obj n (.cells c el)) (H.set n (.cells l))∧(S.obj n (.cells c el)).phi n=some S.w.heap.size:=by
 have hfree:=hI.objs n _ hn
 have hext:=Ext.objAt hI hfree.1 (.cells c el)
 have hlt:n < H.length:=by
  rcases Nat.lt_or_ge n H.length with h' | h'
  ·exact h'
  ·rw [List.getElem?_eq_none h'] at hn;cases hn
 refine ⟨by simp [newRow];rfl,hext,hI.objAt hfree.1 (x:=.cells l) (by simp [hlt]) (fun m hm=>by rw [List.getElem?_set_ne (Ne.symm hm)]) (by simp) ⟨S.w.heap.size,c,el,obj_phi_new S _ _,hI.size,obj_heap S _ _,hc.size,fun i x v hi hv=>(hc.rel i x v hi hv).mono hext,fun i hp=>?_,hc.cell⟩,obj_phi_new S _ _⟩
 exact absurd (hI.puball _ i hp) (Nat.lt_irrefl _)

theorem run_storeCells_z (P : Program) (g o : Nat) (t : TypeId) (fz : Nat × Nat) : ∀ (vs : List Value) (i : Nat) (cur : Array Value) (w : World), w.heap[g]? = some (.cells cur t fz) → FzOk cur.size fz → o + i + vs.length ≤ cur.size → (∀ v ∈ vs, v.oneCell' = true) →
    (storeCells ⟨g,o,none⟩ vs i).run P w=.ok () (w.setRow g (cur.toList.take (o+i)++vs++cur.toList.drop (o+i+vs.length)).toArray):=by
 intro vs
 induction vs with
 | nil =>
  intro i cur w hg hf hl h1
  simp only [storeCells,List.append_nil,List.length_nil,Nat.add_zero,List.take_append_drop,Array.toArray_toList]
  rw [setRow_self w g cur t fz hg]
  rfl
 | cons v rest ih =>
  intro i cur w hg hf hl h1
  have hi:o+i < cur.size:=by simp at hl;omega
  have hcell:w.cell? ⟨g,o+i,none⟩=some cur[o+i]:=by simp [World.cell?,hg,hi]
  have hfro:w.frozen? ⟨g,o+i,none⟩=false:=by
   have:=hf (o+i) hi
   obtain ⟨lo,hi'⟩:=fz
   simp only [World.frozen?,hg,Bool.and_eq_false_iff,decide_eq_false_iff_not]
   simp only at this
   omega
  have hst:(store ((⟨g,o,none⟩:Addr).add i) v).run P w=.ok () (w.setRow g (cur.setIfInBounds (o+i) v)):=by
   rw [add_spot,run_store P w _ v _ (h1 v (by simp)),hcell]
   simp [hfro,setCell_eq_setRow w g (o+i) cur t fz v hg]
  have:=ih (i+1) (cur.setIfInBounds (o+i) v) (w.setRow g (cur.setIfInBounds (o+i) v)) (setRow_heap w g cur _ t _ hg) (by simpa using hf) (by simp at hl ⊢;omega) (fun x hx=>h1 x (by simp [hx]))
  simp only [storeCells,Sem.run_bind,hst,Result.andThen_ok,this,setRow_setRow]
  congr 3
  have e:=list_seg_step cur.toList (o+i) v rest (by simp at hl ⊢;omega)
  simpa [Array.toList_setIfInBounds,Nat.add_assoc] using e

theorem Ext.write {b:Nat} (hp:∀ i,¬ S.pub b i) (c':Array Value):Ext S { S with w:=S.w.setRow b c' } :=
 ⟨⟨fun _ _ h=>h,fun b' i h=>⟨h,cell_setRow_other _ _ _ _ (by rintro rfl;exact hp i h)⟩,fun _ e b hw sz h=>⟨e,b,hw,sz,h,Nat.le_refl _,fun _=>⟨rfl,rfl,rfl⟩⟩⟩,rfl,fun _ _ h _=>h⟩

theorem Inv.writeG (hI : Inv W0 S H) {o b : Nat} {x y : AObj} {c' : Array Value} (ho : H[o]? = some x) (hb : S.phi o = some b ∨ ∃ e hw sz, S.tk o = some (e, b, hw, sz)) (hB : W0.heap.size ≤ b) (hxd : x ≠ .dead)
    (hp:∀ i,¬ S.pub b i) (hr:ORel { S with w:=S.w.setRow b c' } W0.heap.size o y):Inv W0 { S with w:=S.w.setRow b c' } (H.set o y):=by
 have hext:=Ext.write hp c'
 have holt:o < H.length:=by
  rcases Nat.lt_or_ge o H.length with h' | h'
  ·exact h'
  ·rw [List.getElem?_eq_none h'] at ho;cases ho
 have hdead:∀ n:Nat,(H.set o y)[n]? ≠ some AObj.dead→H[n]? ≠ some AObj.dead:=fun n h=>by
  by_cases e:o=n
  ·subst e;rw [ho];simpa using hxd
  ·rwa [List.getElem?_set_ne e] at h
 refine ⟨Below.setRow hI.below hB c',fun n z h=>?_,fun n hn=>hI.past n (by simpa using hn),fun o1 o2 b h1 h2 hd1 hd2=>hI.inj o1 o2 b h1 h2 (hdead _ hd1) (hdead _ hd2),hI.tinj,hI.apart,fun b' i h=>?_,fun n b' h=>?_,fun t e b' hw sz h=>?_,hI.lim⟩
 ·by_cases e:o=n
  ·subst e
   simp [holt] at h
   subst h
   exact hr
  ·rw [List.getElem?_set_ne e] at h
   cases z with
   | dead=>trivial
   | _ =>
    refine (hI.objs n _ h).frame hext (fun b' hb' hlt=>⟨setRow_other _ _ _ _ ?_,fun i hp=>hp⟩) rfl rfl
    rintro rfl
    rcases hb with hb | ⟨e1,hw1,sz1,hb⟩
    ·rcases hb' with hb' | ⟨e',hw,sz,ht⟩
     ·exact e (hI.inj o n b' hb hb' (by rw [ho];simpa using hxd) (by rw [h];simp))
     ·exact hI.apart n e' b' hw sz o ht hb
    ·rcases hb' with hb' | ⟨e',hw,sz,ht⟩
     ·exact hI.apart o e1 b' hw1 sz1 n hb hb'
     ·exact e (hI.tinj _ _ _ _ _ _ _ _ _ hb ht)
 ·simpa using hI.puball b' i h
 ·simpa using hI.dom n b' h
 ·simpa using hI.tdom t e b' hw sz h

theorem Inv.write (hI : Inv W0 S H) {o b : Nat} {l l' : List AV} {c c' : Array Value} {el : TypeId} (ho : H[o]? = some (.cells l)) (hb : S.phi o = some b) (hB : W0.heap.size ≤ b)
    (hc:S.w.heap[b]?=some (.cells c el (0,0))) (hp:∀ i,¬ S.pub b i) (hr:CellsRel { S with w:=S.w.setRow b c' } l' c'):Inv W0 { S with w:=S.w.setRow b c' } (H.set o (.cells l')) :=
 hI.writeG ho (.inl hb) hB (by simp) hp ⟨b,c',el,hb,hB,setRow_heap S.w b c c' el (0,0) hc,hr.size,hr.rel,hp,hr.cell⟩

theorem row_load {t : TypeId} {g : Bool} {sz off b : Nat} {l : List AV} {c : Array Value} {el : TypeId} {fz : Nat × Nat} {v : AV} (hg : isAggT P t = some g) (hs : szT P t = some sz) (h3 : S.w.heap[b]? = some (.cells c el fz)) (h4 : l.length ≤ c.size)
    (h5:∀ (i:Nat) (x:AV) (v:Value),l[i]?=some x→c[i]?=some v→VRel S x v) (h7:l.all AV.isCell=true) (h:apart g sz l off=some v) :
    ∃ v',(loadVar t ⟨b,off,none⟩).run P S.w=.ok v' S.w∧VRel S v v':=by
 have hdrop:apart g sz (l.drop off) 0=some v:=by
  unfold apart at h ⊢
  cases g with
  | true =>
   simp only [if_true] at h ⊢
   split at h
   ·rename_i hc
    rw [if_pos (by simp;omega)]
    simpa using h
   ·cases h
  | false=>simpa using h
 exact loadVar_sound (P:=P) (S:=S) (t:=t) (off:=off) (b:=b) (l:=l.drop off) (f:=fun i=>c.getD (i+off) undef) hg hs
  (fun i hi=>by
   have hlt:i+off < c.size:=by simp at hi;omega
   rw [cell_of_row S.w b _ c el fz h3]
   simp [hlt])
  (fun i x hx=>by
   rw [List.getElem?_drop] at hx
   have hlt:off+i < l.length:=by
    rcases Nat.lt_or_ge (off+i) l.length with h' | h'
    ·exact h'
    ·rw [List.getElem?_eq_none h'] at hx;cases hx
   have hlt':i+off < c.size:=by omega
   refine h5 (off+i) x _ hx ?_
   rw [Nat.add_comm off i]
   simp [hlt']) (by rw [List.all_eq_true] at h7 ⊢;exact fun x hx=>h7 x (List.mem_of_mem_drop hx)) hdrop

theorem aload_sound {t : TypeId} {g : Bool} {sz : Nat} {a v : AV} {u : Value} (hI : Inv W0 S H) (hg : isAggT P t = some g) (hs : szT P t = some sz) (ha : VRel S a u) (h : aload g sz a H = some v) :
    ∃ v' ad,u=.pointer (some ad)∧(loadVar t ad).run P S.w=.ok v' S.w∧VRel S v v':=by
 unfold aload at h
 split at h
 ·rename_i o off
  split at h
  ·rename_i l ho
   cases ha with | ptr _ _ b hb =>
   obtain ⟨b',c,el,h1,h2,h3,h4,h5,h6,h7⟩:=hI.objs o _ ho
   rw [hb] at h1
   injection h1 with h1
   subst h1
   obtain ⟨v',hr,hv⟩:=row_load (P:=P) hg hs h3 (by omega) h5 h7 h
   exact ⟨v',_,rfl,hr,hv⟩
  ·cases h
 ·rename_i cells
  cases ha with | vp _ b off f h0 h1 h2 =>
  obtain ⟨v',hr,hv⟩:=loadVar_sound (P:=P) (S:=S) (t:=t) (off:=off) (b:=b) (f:=f) hg hs (fun i hi=>by rw [Nat.add_comm];exact (h1 i hi).1) h2 h0 h
  exact ⟨v',_,rfl,hr,hv⟩
 ·rename_i o e off
  split at h
  ·rename_i e' l ho
   split at h
   ·rename_i he
    subst he
    cases ha with | wp _ _ _ b hb =>
    obtain ⟨e0,b0,hw0,sz0,q1,q2,q3⟩:=hb
    obtain ⟨b',sz',c,el,fz,h1,h2,h3,h4,h5,h6,h7,h8,h9⟩:=hI.objs o _ ho
    rw [h1] at q1
    simp only [Option.some.injEq,Prod.mk.injEq] at q1
    obtain ⟨r1,r2,r3,r4⟩:=q1
    obtain rfl:b=b0:=q3 r1
    subst r2
    obtain ⟨v',hr,hv⟩:=row_load (P:=P) hg hs h3 (by omega) h6 h8 h
    exact ⟨v',_,rfl,hr,hv⟩
   ·cases h
  ·cases h
 ·cases h

theorem fold_eq_splice (off : Nat) (cs cur : Array Value) (h : off + cs.size ≤ cur.size) :
    cs.zipIdx.foldl (fun (a:Array Value) (p:Value × Nat)=>a.setIfInBounds (off+p.2) p.1) cur=(cur.toList.take off++cs.toList++cur.toList.drop (off+cs.toList.length)).toArray:=by
 apply Array.ext_getElem?
 intro i
 rw [← Array.foldl_toList,Array.toList_zipIdx,fold_get]
 simp only [Nat.add_zero,List.getElem?_toArray,Array.length_toList,Nat.sub_zero,Array.getElem?_toList]
 by_cases h1:i < off
 ·rw [if_neg (by omega),List.getElem?_append_left (by simp;omega),List.getElem?_append_left (by simp;omega),List.getElem?_take_of_lt h1,Array.getElem?_toList]
 ·by_cases h2:i < off+cs.size
  ·rw [if_pos (by omega),List.getElem?_append_left (by simp;omega),List.getElem?_append_right (by simp;omega)]
   simp only [List.length_take,Array.length_toList,Array.getElem?_toList]
   congr 1;omega
  ·rw [if_neg (by omega),List.getElem?_append_right (by simp;omega),List.getElem?_drop,Array.getElem?_toList]
   simp only [List.length_append,List.length_take,Array.length_toList]
   congr 1;omega

theorem astore_sound {t : TypeId} {sz : Nat} {a v : AV} {u x : Value} {H' : Hp} (hI : Inv W0 S H) (hs : szT P t = some sz) (ha : VRel S a u) (hv : VRel S v x) (h : astore sz a v H = some H') :
    ∃ ad S',u=.pointer (some ad)∧(storeVar t ad x).run P S.w=.ok () S'.w∧Ext S S'∧Inv W0 S' H':=by
 unfold astore at h
 split at h
 ·rename_i o off
  split at h
  ·rename_i l ho
   split at h
   ·rename_i hc
    obtain ⟨hkn,hsz,hle⟩:=hc
    injection h with h
    subst h
    cases ha with | ptr _ _ b hb =>
    obtain ⟨b',c,el,h1,h2,h3,h4,h5,h6,h7⟩:=hI.objs o _ ho
    rw [hb] at h1
    injection h1 with h1
    subst h1
    have hxc:=hv.cells hkn
    have hxs:x.cells.size=sz:=by rw [hxc.size,hsz]
    have hst:=run_storeCells_at P b off el x.cells.toList 0 c S.w h3 (by simp;omega) hxc.oneCells
    rw [Nat.add_zero,← fold_eq_splice off x.cells c (by omega)] at hst
    refine ⟨_,{ S with w:=S.w.setRow b _ },rfl,by simp only [storeVar,Sem.run_bind,run_szT hs,Result.andThen_ok];rw [if_neg (by simp [hxs])];exact hst,Ext.write h6 _,?_⟩
    refine hI.write ho hb h2 h3 h6 ?_
    exact (CellsRel.splice (S:=S) ⟨h4,h5,h7⟩ hxc (by omega)).mono (Ext.write h6 _)
   ·cases h
  ·cases h
 ·rename_i o e off
  split at h
  ·rename_i e' l ho
   split at h
   ·rename_i hc
    obtain ⟨rfl,hkn,hsz,hle⟩:=hc
    injection h with h
    subst h
    cases ha with | wp _ _ _ b hb =>
    obtain ⟨e0,b0,hw0,sz0,q1,q2,q3⟩:=hb
    obtain ⟨b',sz',c,el,fz,h1,h2,h3,h4,h5,h6,h7,h8,h9⟩:=hI.objs o _ ho
    have q1':=q1
    rw [h1] at q1
    simp only [Option.some.injEq,Prod.mk.injEq] at q1
    obtain ⟨r1,r2,r3,r4⟩:=q1
    obtain rfl:b=b0:=q3 r1
    subst r2
    have hxc:=hv.cells hkn
    have hxs:x.cells.size=sz:=by rw [hxc.size,hsz]
    have hst:=run_storeCells_z P b' off el fz x.cells.toList 0 c S.w h3 h9 (by simp;omega) hxc.oneCells
    rw [Nat.add_zero,← fold_eq_splice off x.cells c (by omega)] at hst
    refine ⟨_,{ S with w:=S.w.setRow b' _ },rfl,by simp only [storeVar,Sem.run_bind,run_szT hs,Result.andThen_ok];rw [if_neg (by simp [hxs])];exact hst,Ext.write h7 _,?_⟩
    have hcr:CellsRel S l (c.extract 0 l.length):=by
     refine ⟨by simp;omega,fun i x v hi hv=>?_,h8⟩
     rw [Array.getElem?_extract] at hv
     split at hv
     ·rw [Nat.zero_add] at hv;exact h6 i x v hi hv
     ·cases hv
    have hx7:=Ext.write h7 (x.cells.zipIdx.foldl (fun (a:Array Value) (p:Value × Nat)=>a.setIfInBounds (off+p.2) p.1) c)
    have hcs:(x.cells.zipIdx.foldl (fun (a:Array Value) (p:Value × Nat)=>a.setIfInBounds (off+p.2) p.1) c).size=c.size:=by
     rw [fold_eq_splice off x.cells c (by omega)]
     simp
     omega
    have hsl:(splice l off v.cells).length=l.length:=by unfold splice;simp;omega
    refine hI.writeG ho (.inr ⟨_,_,_,h1⟩) h2 (by simp) h7 ⟨b',sz',_,el,fz,by rw [hsl];exact h1,h2,setRow_heap S.w b' c _ el fz h3,by rw [hcs];exact h4,by rw [hsl];exact h5,fun i y u hy hu=>?_,h7,?_,by rw [hcs];exact h9⟩
    ·have hsp:=CellsRel.splice (S:=S) (off:=off) hcr hxc (by omega)
     refine (hsp.rel i y u hy ?_).mono hx7
     have hil:i < l.length:=by rw [← hsl];exact lt_of_getL hy
     rw [← hu]
     rw [fold_eq_splice off x.cells c (by omega),fold_eq_splice off x.cells (c.extract 0 l.length) (by simp;omega)]
     simp only [List.getElem?_toArray]
     by_cases g1:i < off
     ·rw [List.getElem?_append_left (by simp;omega),List.getElem?_append_left (by simp;omega),List.getElem?_append_left (by simp;omega),List.getElem?_append_left (by simp;omega),List.getElem?_take_of_lt g1,List.getElem?_take_of_lt g1,Array.getElem?_toList,Array.getElem?_toList,Array.getElem?_extract]
      simp
      omega
     ·by_cases g2:i < off+x.cells.size
      ·rw [List.getElem?_append_left (by simp;omega),List.getElem?_append_right (by simp;omega),List.getElem?_append_left (by simp;omega),List.getElem?_append_right (by simp;omega)]
       congr 1
       simp
       omega
      ·rw [List.getElem?_append_right (by simp;omega),List.getElem?_append_right (by simp;omega),List.getElem?_drop,List.getElem?_drop,Array.getElem?_toList,Array.getElem?_toList,Array.getElem?_extract]
       simp only [List.length_append,List.length_take,Array.length_toList,Array.size_extract]
       rw [if_pos (by omega)]
       congr 1
       omega
    ·exact (CellsRel.splice (S:=S) (off:=off) hcr hxc (by omega)).cell
   ·cases h
  ·cases h
 ·cases h
end
end Go.Am
