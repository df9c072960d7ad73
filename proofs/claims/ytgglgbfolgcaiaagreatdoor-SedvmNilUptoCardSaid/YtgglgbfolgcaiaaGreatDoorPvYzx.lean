/-
  The arguments of the statement about nil machines.
-/
import Derived.Test.YtgglgbfolgcaiaaGreatDoorPvSx
import Derived.Test.YtgglgbfolgcaiaaGreatDoorHmXx
import Derived.Test.YtgglgbfolgcaiaaGreatDoorRows
namespace Go.Am
open Go.Proofs Go.Proofs.YtgglgbfolgcaiaaGreatDoor
set_option linter.unusedVariables false
set_option maxRecDepth 100000
theorem laidOut:laidOutB Tryz.prog=true:=by kernel_rfl
theorem own:ownKnob Tryz.prog.godebug=none:=by kernel_rfl
def argTypes:List Nat:=[4,9,22,26]
theorem argTypes_ok:argTypes.all (plainIn Tryz.prog argTypes)=true:=by kernel_rfl
theorem under_4:Tryz.prog.underlying 4=some .bool:=by kernel_rfl
theorem under_9:Tryz.prog.underlying 9=some .string:=by kernel_rfl
theorem under_22:Tryz.prog.underlying 22=some (.slice 26):=by kernel_rfl
theorem fields_26:fieldTypes Tryz.prog 26=some [9,9,4]:=by kernel_rfl
theorem agg_22:aggOf Tryz.prog 22=false:=by kernel_rfl
theorem agg_26:aggOf Tryz.prog 26=true:=by kernel_rfl
theorem cells_26:Tryz.prog.cellsOf 26=3:=by kernel_rfl
abbrev Sl (k:Nat) (x:AV) (l:List AV):Prop:=x=.nils∧l=[] ∨ ∃ t,x=.vs k t l
theorem ofCells_one (v:AV):ofCells false [v]=v:=(Eq.refl _).trans (Eq.refl _)
theorem list_of {α:Type} {f:α→AV} {q:α→Prop}:∀ l:List AV,(∀ x ∈ l,∃ k,q k∧x=f k)→∃ ks:List α,l=ks.map f∧∀ k ∈ ks,q k:=by
 intro l
 induction l with
 | nil=>intro _;exact ⟨[],rfl,by simp⟩
 | cons x l ih =>
  intro h
  obtain ⟨k,h1,h2⟩:=h x (by simp)
  obtain ⟨ks,h3,h4⟩:=ih (fun y hy=>h y (by simp [hy]))
  exact ⟨k :: ks,by simp [h2,h3],by simpa [h1] using h4⟩
theorem mem_data {l:List AV} {α:Type} {es:List α} (hl:l.length=es.length) {x:AV} (hx:x ∈ l):∃ (i:Nat) (d:α),l[i]?=some x∧es[i]?=some d:=by
 obtain ⟨i,hi⟩:=List.getElem?_of_mem hx
 have:i < es.length:=by rw [← hl];exact lt_of_get hi
 exact ⟨i,es[i],hi,List.getElem?_eq_getElem this⟩
theorem three_of {α:Type} {l:List α} (h:l.length=3):∃ a b c,l=[a,b,c]:=match l,h with | [a,b,c],_=>⟨a,b,c,rfl⟩
section
variable {H:Type}
theorem bulk_pos (d:DataW H):1≤Rows.uptoBulk d:=by
 cases d with
 | lit l=>cases l <;> simp [Rows.uptoBulk]
 | _=>simp [Rows.uptoBulk]
theorem bulk_all (es:List (DataW H)):es.length≤Rows.uptoBulkAll es∧∀ d ∈ es,Rows.uptoBulk d≤Rows.uptoBulkAll es:=by
 induction es with
 | nil=>exact ⟨Nat.zero_le _,by simp⟩
 | cons x es ih =>
  have hp:=bulk_pos x
  have e:Rows.uptoBulkAll (x :: es)=Rows.uptoBulk x+Rows.uptoBulkAll es:=by rw [Rows.uptoBulkAll]
  rw [e]
  refine ⟨by simp only [List.length_cons];omega,fun d hd=>?_⟩
  rcases List.mem_cons.1 hd with rfl | hd
  ·omega
  ·have:=ih.2 d hd
   omega
abbrev Small (d:DataW H):Prop:=Rows.uptoBulk d≤1048576
theorem small_slice {es sp:List (DataW H)} (h:Small (.slice es sp)):(∀ d ∈ es,Small d)∧es.length≤1048576:=by
 unfold Small at h ⊢
 rw [Rows.uptoBulk] at h
 obtain ⟨h1,h2⟩:=bulk_all es
 exact ⟨fun d hd=>by have:=h2 d hd;omega,by omega⟩
theorem list_tv {α : Type} {f : α → AV} {q : α → Prop} {t e k : Nat} (hu : Tryz.prog.underlying t = some (.slice e)) (hc : Tryz.prog.cellsOf e = k)
    (hf:∀ (m:Nat) (d':DataW H) (cs:List AV),TV Tryz.prog m e d' cs→Small d'→∃ y,q y∧ofCells (aggOf Tryz.prog e) cs=f y) {n:Nat} {d:DataW H} {vals:List AV} (h:TV Tryz.prog n t d vals) (hb:Small d) :
    ∃ (x:AV) (ks:List α),vals=[x]∧Sl k x (ks.map f)∧(∀ y ∈ ks,q y)∧ks.length≤1048576:=by
 rcases h.slice hu with ⟨_,rfl⟩ | ⟨es,sp,l,m,rfl,rfl,h1,_,h3⟩
 ·exact ⟨.nils,[],rfl,.inl ⟨rfl,rfl⟩,by simp,by simp⟩
 ·obtain ⟨b1,b2⟩:=small_slice hb
  obtain ⟨ks,h4,h5⟩:=list_of (f:=f) (q:=q) l (fun x hx=>by
   obtain ⟨i,d',g1,g2⟩:=mem_data h1 hx
   obtain ⟨cs,e,ht⟩:=h3 i x d' g1 g2
   obtain ⟨y,hy,e2⟩:=hf m d' cs ht (b1 _ (List.mem_of_getElem? g2))
   exact ⟨y,hy,by rw [e,e2]⟩)
  subst h4
  rw [hc]
  rw [List.length_map] at h1
  exact ⟨_,ks,rfl,.inr ⟨_,rfl⟩,h5,by omega⟩
theorem pcs_of {d:DataW H} {a:AV} (h:AT Tryz.prog 22 d a) (hb:Small d):∃ L:List Pc,PcsAt a L∧L.length≤1048576:=by
 obtain ⟨n,vals,ht,rfl⟩:=h
 obtain ⟨x,ks,rfl,h1,h2,h3⟩:=list_tv (f:=fun p:Pc=>AV.agg p.cells) (q:=fun _:Pc=>True) under_22 cells_26 (fun m d' cs ht hb=>by
  obtain ⟨ds,parts,m,rfl,rfl,h1,h2,h3⟩:=ht.fields fields_26
  obtain ⟨a,b,c,rfl⟩:=three_of h1
  obtain ⟨a',b',c',rfl⟩:=three_of h2
  obtain ⟨x,_,rfl,_⟩:=(h3 0 9 a a' rfl rfl rfl).str under_9
  obtain ⟨y,_,rfl,_⟩:=(h3 1 9 b b' rfl rfl rfl).str under_9
  obtain ⟨z,_,rfl⟩:=(h3 2 4 c c' rfl rfl rfl).bool under_4
  exact ⟨⟨x,y,z⟩,trivial,by rw [agg_26];rfl⟩) ht hb
 rw [agg_22,ofCells_one]
 exact ⟨ks,h1,h3⟩
end
end Go.Am
