/-
  The arguments of the statements about sorting in files.
-/
import Derived.Test.YtnaneekpogohaaaGreatDoorXeKx
import Derived.Test.YtnaneekpogohaaaGreatDoorHmXx
import Derived.Test.YtnaneekpogohaaaGreatDoorRows
namespace Go.Am
open Go.Proofs Go.Proofs.YtnaneekpogohaaaGreatDoor
set_option linter.unusedVariables false
set_option maxRecDepth 100000
theorem laidOut:laidOutB Tryz.prog=true:=by kernel_rfl
theorem own:ownKnob Tryz.prog.godebug=none:=by kernel_rfl
def argTypes:List Nat:=[3,4,9,22,24,26,28,29,38,119]
theorem argTypes_ok:argTypes.all (plainIn Tryz.prog argTypes)=true:=by kernel_rfl
theorem under_3:Tryz.prog.underlying 3=some (.int .i64):=by kernel_rfl
theorem under_38:Tryz.prog.underlying 38=some (.slice 3):=by kernel_rfl
theorem agg_3:aggOf Tryz.prog 3=false:=by kernel_rfl
theorem cells_3:Tryz.prog.cellsOf 3=1:=by kernel_rfl
theorem fields_26:fieldTypes Tryz.prog 26=some [3,3]:=by kernel_rfl
theorem agg_26:aggOf Tryz.prog 26=true:=by kernel_rfl
theorem agg_38:aggOf Tryz.prog 38=false:=by kernel_rfl
theorem ofCells_one (v:AV):ofCells false [v]=v:=(Eq.refl _).trans (Eq.refl _)
theorem list_of {α:Type} {f:α→AV} {q:α→Prop}:∀ l:List AV,(∀ x ∈ l,∃ k,q k∧x=f k)→∃ ks:List α,l=ks.map f∧∀ k ∈ ks,q k:=by
 intro l
 induction l with
 | nil=>intro _;exact ⟨[],rfl,by simp⟩
 | cons x l ih =>
  intro h
  obtain ⟨k,h1,h2⟩:=h x (by simp)
  obtain ⟨ks,h3,h4⟩:=ih (fun y hy=>h y (by simp [hy]))
  exact ⟨k :: ks,by simp [h2,h3],by simpa [h1] using h4⟩
theorem mem_data {l:List AV} {α:Type} {es:List α} (hl:l.length=es.length) {x:AV} (hx:x ∈ l):∃ (i:Nat) (d:α),l[i]?=some x∧es[i]?=some d:=by
 obtain ⟨i,hi⟩:=List.getElem?_of_mem hx
 have:i < es.length:=by rw [← hl];exact lt_of_get hi
 exact ⟨i,es[i],hi,List.getElem?_eq_getElem this⟩
theorem two_of {α:Type} {l:List α} (h:l.length=2):∃ a b,l=[a,b]:=match l,h with | [a,b],_=>⟨a,b,rfl⟩
section
variable {H:Type}
theorem bulk_pos (d:DataW H):1≤Rows.uptoBulk d:=by
 cases d with
 | lit l=>cases l <;> simp [Rows.uptoBulk]
 | _=>simp [Rows.uptoBulk]
theorem bulk_all (es:List (DataW H)):es.length≤Rows.uptoBulkAll es∧∀ d ∈ es,Rows.uptoBulk d≤Rows.uptoBulkAll es:=by
 induction es with
 | nil=>exact ⟨Nat.zero_le _,by simp⟩
 | cons x es ih =>
  have hp:=bulk_pos x
  have e:Rows.uptoBulkAll (x :: es)=Rows.uptoBulk x+Rows.uptoBulkAll es:=by rw [Rows.uptoBulkAll]
  rw [e]
  refine ⟨by simp only [List.length_cons];omega,fun d hd=>?_⟩
  rcases List.mem_cons.1 hd with rfl | hd
  ·omega
  ·have:=ih.2 d hd
   omega
abbrev Small (d:DataW H):Prop:=Rows.uptoBulk d≤1048576
theorem small_slice {es sp:List (DataW H)} (h:Small (.slice es sp)):(∀ d ∈ es,Small d)∧es.length≤1048576:=by
 unfold Small at h ⊢
 rw [Rows.uptoBulk] at h
 obtain ⟨h1,h2⟩:=bulk_all es
 exact ⟨fun d hd=>by have:=h2 d hd;omega,by omega⟩
theorem list_tv {α : Type} {f : α → AV} {q : α → Prop} {t e k : Nat} (hu : Tryz.prog.underlying t = some (.slice e)) (hc : Tryz.prog.cellsOf e = k)
    (hf:∀ (m:Nat) (d':DataW H) (cs:List AV),TV Tryz.prog m e d' cs→Small d'→∃ y,q y∧ofCells (aggOf Tryz.prog e) cs=f y) {n:Nat} {d:DataW H} {vals:List AV} (h:TV Tryz.prog n t d vals) (hb:Small d) :
    ∃ (x:AV) (ks:List α),vals=[x]∧Sl k x (ks.map f)∧(∀ y ∈ ks,q y)∧ks.length≤1048576:=by
 rcases h.slice hu with ⟨_,rfl⟩ | ⟨es,sp,l,m,rfl,rfl,h1,_,h3⟩
 ·exact ⟨.nils,[],rfl,.inl ⟨rfl,rfl⟩,by simp,by simp⟩
 ·obtain ⟨b1,b2⟩:=small_slice hb
  obtain ⟨ks,h4,h5⟩:=list_of (f:=f) (q:=q) l (fun x hx=>by
   obtain ⟨i,d',g1,g2⟩:=mem_data h1 hx
   obtain ⟨cs,e,ht⟩:=h3 i x d' g1 g2
   obtain ⟨y,hy,e2⟩:=hf m d' cs ht (b1 _ (List.mem_of_getElem? g2))
   exact ⟨y,hy,by rw [e,e2]⟩)
  subst h4
  rw [hc]
  rw [List.length_map] at h1
  exact ⟨_,ks,rfl,.inr ⟨_,rfl⟩,h5,by omega⟩
theorem ints_tv {n:Nat} {d:DataW H} {vals:List AV} (h:TV Tryz.prog n 38 d vals) (hb:Small d):∃ (x:AV) (ks:List Int),vals=[x]∧Sl 1 x (ks.map (AV.int .i64))∧(∀ k ∈ ks,True)∧ks.length≤1048576 :=
 list_tv under_38 cells_3 (fun m d' cs ht hb=>by
  obtain ⟨y,_,rfl,_⟩:=ht.int under_3
  exact ⟨y,trivial,by rw [agg_3];rfl⟩) h hb
theorem ints_of {d:DataW H} {a:AV} (h:AT Tryz.prog 38 d a) (hb:Small d):∃ l:List Int,Sl 1 a (l.map (AV.int .i64))∧l.length≤1048576:=by
 obtain ⟨n,vals,ht,rfl⟩:=h
 obtain ⟨x,ks,rfl,h1,h2,h3⟩:=ints_tv ht hb
 rw [agg_38,ofCells_one]
 exact ⟨ks,h1,h3⟩
theorem sizes_tv {n:Nat} {d:DataW H} {cs:List AV} (h:TV Tryz.prog n 26 d cs):∃ m w:Int,cs=[.int .i64 m,.int .i64 w]:=by
 obtain ⟨ds,parts,m,rfl,rfl,h1,h2,h3⟩:=h.fields fields_26
 obtain ⟨a,b,rfl⟩:=two_of h1
 obtain ⟨a',b',rfl⟩:=two_of h2
 obtain ⟨x,_,rfl,hx⟩:=(h3 0 3 a a' rfl rfl rfl).int under_3
 obtain ⟨y,_,rfl,hy⟩:=(h3 1 3 b b' rfl rfl rfl).int under_3
 exact ⟨x,y,rfl⟩
theorem sizes_of {d:DataW H} {a:AV} (h:AT Tryz.prog 26 d a):∃ m w:Int,a=.agg [.int .i64 m,.int .i64 w]:=by
 obtain ⟨n,cs,ht,e0⟩:=h.agg agg_26
 obtain ⟨m,w,rfl⟩:=sizes_tv ht
 exact ⟨m,w,e0⟩
end
end Go.Am
