/-
  The locale that counts.
-/
import Derived.Test.YtnaneekpogohaaaGreatDoorXeSx
import Derived.Test.YtnaneekpogohaaaGreatDoorHmYbx
import Derived.Test.YtnaneekpogohaaaGreatDoorXeGx
namespace Go.Am
set_option linter.unusedSimpArgs false
set_option linter.unusedVariables false
set_option maxRecDepth 100000

theorem checked {L:Loc} (h:(lcheckS L != 0)=false):L.w.length=256∧L.lo.length=256∧L.up.length=256:=by
 simp only [lcheckS,bne_eq_false_iff_eq] at h
 split at h
 ·split at h
  ·cases h
  ·rename_i h1
   simp only [Bool.or_eq_true,bne_iff_ne,ne_eq,not_or,Decidable.not_not] at h1
   exact h1
 ·cases h
end Go.Am
namespace Go.Am
set_option linter.unusedSimpArgs false
set_option linter.unusedVariables false
set_option maxRecDepth 100000

def LocCells (l:List AV) (L:Loc):Prop:=∃ x c e,l=L.cells x c e∧Sl 1 x (L.w.map (AV.int .i64))∧Sl 5 c (L.cls.map clsAV)∧Sl 2 e (L.els.map elAV)
theorem LocCells.close {l:List AV} {L:Loc} (h:LocCells l L) (H:Hp) (n f:Nat):∃ l',l.mapM (closeV H n (f+3))=some l'∧LocCells l' L:=by
 obtain ⟨x,c,e,rfl,hx,hc,he⟩:=h
 obtain ⟨x',hx1,hx2⟩:=hx.close (H:=H) (n:=n) (f:=f+2) (fun y hy=>by obtain ⟨m,_,rfl⟩:=List.mem_map.1 hy;rfl)
 obtain ⟨c',hc1,hc2⟩:=hc.close (H:=H) (n:=n) (f:=f+2) (fun y hy=>by obtain ⟨m,_,rfl⟩:=List.mem_map.1 hy;exact cls_close m H n f)
 obtain ⟨e',he1,he2⟩:=he.close (H:=H) (n:=n) (f:=f+2) (fun y hy=>by obtain ⟨m,_,rfl⟩:=List.mem_map.1 hy;exact el_close m H n f)
 refine ⟨L.cells x' c' e',?_,x',c',e',rfl,hx2,hc2,he2⟩
 simp only [Loc.cells,List.mapM_cons,hx1,hc1,he1,List.mapM_nil]
 rfl
theorem RowN.close {n:Nat} {H:Hp} {x:AV} {l:List Int} (h:RowN n H 1 x (l.map (AV.int .i64))) (H1:Hp):∃ x',closeV H1 0 9 x=some x'∧Sl 1 x' (l.map (AV.int .i64)) :=
 h.sl.close (f:=8) (fun y hy=>by obtain ⟨m,_,rfl⟩:=List.mem_map.1 hy;rfl)

end Go.Am
namespace Go.Am
set_option linter.unusedSimpArgs false
set_option linter.unusedVariables false
set_option maxRecDepth 100000

def dg (b:UInt8):Int:=IntKind.u8.wrap ((b.toNat:Int) - 48)
def fr:Nat→List UInt8→Int→Int
 | 0,_,d=>d
 | k+1,[],d=>fr k [] (d * 10)
 | k+1,b :: l,d=>fr k l (d * 10+dg b)
end Go.Am
namespace Go.Am
set_option linter.unusedSimpArgs false
set_option linter.unusedVariables false
set_option maxRecDepth 100000

theorem Sl.known {k:Nat} {x:AV} {l:List AV} (h:Sl k x l):x.known=true:=by
 rcases h with ⟨rfl,_⟩ | ⟨tok,rfl⟩ <;> rfl

end Go.Am
namespace Go.Am
set_option linter.unusedSimpArgs false
set_option linter.unusedVariables false
set_option linter.unusedSectionVars false
set_option maxRecDepth 100000

abbrev Str:=List UInt8
abbrev SS (x:AV) (l:List Str):Prop:=Sl 1 x (l.map AV.str)
theorem SS.len {x:AV} {l:List Str} (h:SS x l) (e:Nat):alenD (.slice e) x=some (.int .i64 (l.length:Int)):=by
 have:=Sl.len h e
 rwa [List.length_map] at this
theorem SS.idx {x:AV} {l:List Str} (h:SS x l) {i:Nat} {s:Str} (hi:l[i]?=some s):aindexS 1 x (.int .i64 (i:Int))=some (.vp [.str s]):=Sl.idx h (c:=.str s) (by simp [hi])
theorem SS.closed {x:AV} {l:List Str} (h:SS x l) (H:Hp) (n f:Nat):∃ x',closeV H n (f+2) x=some x'∧SS x' l :=
 Sl.close h (f:=f+1) (fun y hy=>by obtain ⟨m,_,rfl⟩:=List.mem_map.1 hy;rfl)
theorem SS.lo {x:AV} {l:List Str} (h:SS x l) {n:Nat} (hn:n≤l.length):∃ x',asliceV 1 x (some (.int .i64 (n:Int))) none none=some x'∧SS x' (l.drop n):=by
 rcases h with ⟨rfl,h0⟩ | ⟨tok,rfl⟩
 ·have:l=[]:=List.map_eq_nil_iff.1 h0
  subst this
  have hn0:n=0:=by simpa using hn
  subst hn0
  exact ⟨.nils,asliceV_nils_lo 1 .i64,.inl ⟨rfl,rfl⟩⟩
 ·exact ⟨_,asliceV_lo 1 tok .i64 (by omega) (by simp;omega),.inr ⟨tok,by simp⟩⟩
theorem asliceV_hi {l:List AV} {n:Nat} (z:Nat) (t:Tok) (h1:n≤l.length):∃ t',asliceV z (.vs z t l) none (some (.int .i64 (n:Int))) none=some (.vs z t' (l.take n)):=by
 refine ⟨if n=l.length then t else .no,?_⟩
 simp only [asliceV]
 delta abounds
 simp [abound,h1]
theorem SS.hi {x:AV} {l:List Str} (h:SS x l) {n:Nat} (hn:n≤l.length):∃ x',asliceV 1 x none (some (.int .i64 (n:Int))) none=some x'∧SS x' (l.take n):=by
 rcases h with ⟨rfl,h0⟩ | ⟨tok,rfl⟩
 ·have:l=[]:=List.map_eq_nil_iff.1 h0
  subst this
  have hn0:n=0:=by simpa using hn
  subst hn0
  refine ⟨.nils,?_,.inl ⟨rfl,by simp⟩⟩
  simp only [asliceV]
  delta abounds
  simp [abound]
 ·obtain ⟨t',h1⟩:=asliceV_hi 1 tok (l:=l.map AV.str) (n:=n) (by simp;omega)
  exact ⟨_,h1,.inr ⟨t',by simp⟩⟩
theorem SS.elems {x:AV} {l:List Str} (h:SS x l) (H:Hp):elems 1 x H=some (l.map AV.str):=by
 rcases h with ⟨rfl,h0⟩ | ⟨tok,rfl⟩
 ·rw [h0];rfl
 ·rfl
abbrev RS (H:Hp) (x:AV) (l:List Str):Prop:=RowN 0 H 1 x (l.map AV.str)
theorem RS.app {H:Hp} {x:AV} {l:List Str} (h:RS H x l) {y:AV} {m:List Str} (hy:SS y m) (hl:l.length+m.length≤4194304):∃ x' H',aappE 1 16 x y H=some (x',H')∧RS H' x' (l++m):=by
 obtain ⟨x',H',q1,q2,_,_,_⟩:=RowN.app h (Nat.zero_le _) 16 y (m.map AV.str) (SS.elems hy H) (by simp;omega)
 exact ⟨x',H',q1,by show RowN 0 H' 1 x' ((l++m).map AV.str);rw [List.map_append];exact q2⟩
theorem RS.done {H:Hp} {x:AV} {l:List Str} (h:RS H x l) (H1:Hp):∃ x',closeV H1 0 9 x=some x'∧SS x' l:=SS.closed h.sl H1 0 7
end Go.Am
