/-
  Replacements in the machine: rows of parts; comparing them, and whether they are normal.
-/
import Derived.Test.YtcllemkfpjaooaaGreatPtGx
import Derived.Test.YtcllemkfpjaooaaGreatHmTx
namespace Go.Am
set_option linter.unusedSimpArgs false
set_option linter.unusedVariables false
set_option maxRecDepth 100000

theorem afield_wp (k o e x:Nat):afield k (.wp o e x)=some (.wp o e (x+k)):=(Eq.refl _).trans (Eq.refl _)
attribute [go_sem] afield_wp
theorem wnat {n:Nat} (h:n≤9223372036854775807):IntKind.i64.wrap (n:Int)=n:=wrap64 (by omega) (by omega)
theorem wsucc {n:Nat} (h:n < 9223372036854775807):IntKind.i64.wrap ((n:Int)+1)=((n+1:Nat):Int):=by rw [wrap64 (by omega) (by omega)];omega
structure Pt where
 kind:Int
 group:Int
 text:List UInt8
deriving DecidableEq
def ptC (p:Pt):List AV:=[.int .i64 p.kind,.int .i64 p.group,.str p.text]
def ptV (p:Pt):AV:=.agg (ptC p)
def rowC (L:List Pt):List AV:=(L.map ptC).flatten
theorem rowC_app (A B:List Pt):rowC (A++B)=rowC A++rowC B:=by simp [rowC]
theorem rowC_cons (f:Pt) (B:List Pt):rowC (f :: B)=ptC f++rowC B:=by simp [rowC]
theorem rowC_len (L:List Pt):(rowC L).length=L.length * 3:=by
 induction L with
 | nil=>rfl
 | cons f L ih=>rw [rowC_cons,List.length_append,ih,List.length_cons];simp [ptC];omega
theorem mid_of {L:List Pt} {i:Nat} {f:Pt} (h:L[i]?=some f):∃ A B,L=A++f :: B∧A.length=i:=by
 obtain ⟨hl,he⟩:=List.getElem?_eq_some_iff.1 h
 refine ⟨L.take i,L.drop (i+1),?_,by rw [List.length_take];omega⟩
 rw [← he,← List.drop_eq_getElem_cons hl,List.take_append_drop]
def Kpt (W:List Nat) (H H':Hp):Prop:=H.length≤H'.length∧∀ i,i < H.length→i ∉ W→H'[i]?=H[i]?
theorem Kpt.refl (W:List Nat) (H:Hp):Kpt W H H:=⟨Nat.le_refl _,fun _ _ _=>rfl⟩
theorem Kpt.trans {W:List Nat} {H H' H'':Hp} (h:Kpt W H H') (h':Kpt W H' H''):Kpt W H H'' :=
 ⟨Nat.le_trans h.1 h'.1,fun i hi hn=>(h'.2 i (Nat.lt_of_lt_of_le hi h.1) hn).trans (h.2 i hi hn)⟩
theorem Kpt.push (W:List Nat) (H l:Hp):Kpt W H (H++l):=⟨by simp,fun i hi _=>by rw [List.getElem?_append_left hi]⟩
theorem Kpt.set {W:List Nat} (H:Hp) {o:Nat} (x:AObj) (h:o ∈ W):Kpt W H (H.set o x) :=
 ⟨by simp,fun i hi hn=>by rw [List.getElem?_set_ne (fun e=>hn (by rw [← e];exact h))]⟩
theorem Kpt.get {W:List Nat} {H H':Hp} (h:Kpt W H H') {i:Nat} {x:AObj} (hx:H[i]?=some x) (hn:i ∉ W):H'[i]?=some x:=(h.2 i (lt_of_get hx) hn).trans hx
def RdAt (H:Hp) (x:AV) (L:List Pt):Prop:=x=.nils∧L=[] ∨ (∃ t,x=.vs 3 t (L.map ptV)) ∨ ∃ o e,x=.ws true 3 o e L.length∧H[o]?=some (.row e (rowC L))
def rowA:AV→List Nat
 | .ws _ _ o _ _=>[o]
 | _=>[]
theorem RdAt.frame {H H':Hp} {x:AV} {L:List Pt} (h:RdAt H x L) (hf:∀ a ∈ rowA x,H'[a]?=H[a]?):RdAt H' x L :=
 h.imp id fun h=>h.imp id fun ⟨o,e,h1,h2⟩=>⟨o,e,h1,(hf o (by rw [h1];simp [rowA])).trans h2⟩
theorem RdAt.lt {H:Hp} {x:AV} {L:List Pt} (h:RdAt H x L):∀ a ∈ rowA x,a < H.length:=by
 intro a ha
 rcases h with ⟨rfl,_⟩ | ⟨t,rfl⟩ | ⟨o,e,rfl,h2⟩
 ·cases ha
 ·cases ha
 ·rw [List.mem_singleton.1 ha];exact lt_of_get h2
theorem RdAt.kept {H H':Hp} {x:AV} {L:List Pt} {W:List Nat} (h:RdAt H x L) (hk:Kpt W H H') (hn:∀ a ∈ rowA x,a ∉ W):RdAt H' x L :=
 h.frame fun a ha=>hk.2 a (h.lt a ha) (hn a ha)
theorem RdAt.len {H:Hp} {x:AV} {L:List Pt} (h:RdAt H x L) (t:Nat):alenD (.slice t) x=some (.int .i64 (L.length:Int)):=by
 rcases h with ⟨rfl,rfl⟩ | ⟨tk,rfl⟩ | ⟨o,e,rfl,_⟩
 ·rfl
 ·rw [alen_vs,List.length_map]
 ·rfl
theorem RdAt.idx {H : Hp} {x : AV} {L : List Pt} (h : RdAt H x L) {i : Nat} {f : Pt} (hi : L[i]? = some f) :
    ∃ a a0 a1 a2,aindexS 3 x (.int .i64 (i:Int))=some a∧afield 0 a=some a0∧afield 1 a=some a1∧afield 2 a=some a2 ∧
     aload false 1 a0 H=some (.int .i64 f.kind)∧aload false 1 a1 H=some (.int .i64 f.group)∧aload false 1 a2 H=some (.str f.text) ∧
     aload true 3 a H=some (.agg (ptC f)):=by
 have hl:=(List.getElem?_eq_some_iff.1 hi).1
 rcases h with ⟨rfl,rfl⟩ | ⟨tk,rfl⟩ | ⟨o,e,rfl,h2⟩
 ·simp at hi
 ·refine ⟨.vp (ptC f),.vp (ptC f),.vp [.int .i64 f.group,.str f.text],.vp [.str f.text],?_,rfl,rfl,rfl,rfl,rfl,rfl,rfl⟩
  unfold aindexS
  dsimp only
  rw [if_pos ⟨rfl,by omega⟩,Int.toNat_natCast,List.getElem?_map,hi]
  rfl
 ·obtain ⟨A,B,rfl,rfl⟩:=mid_of hi
  have hrow:rowC (A++f :: B)=rowC A++(ptC f++rowC B):=by rw [rowC_app,rowC_cons]
  have hA:=rowC_len A
  have hd:(rowC (A++f :: B)).drop (A.length * 3)=ptC f++rowC B:=by rw [hrow,← hA,List.drop_left]
  have hg:∀ j,(rowC (A++f :: B))[A.length * 3+j]?=(ptC f++rowC B)[j]?:=fun j=>by rw [← List.getElem?_drop,hd]
  refine ⟨.wp o e (A.length * 3),.wp o e (A.length * 3+0),.wp o e (A.length * 3+1),.wp o e (A.length * 3+2),?_,rfl,rfl,rfl,?_,?_,?_,?_⟩
  ·unfold aindexS
   dsimp only
   rw [if_pos (by omega),Int.toNat_natCast]
  ·unfold aload
   simp only [h2,if_true]
   unfold Go.Am.apart
   simp only [hg]
   rfl
  ·unfold aload
   simp only [h2,if_true]
   unfold Go.Am.apart
   simp only [hg]
   rfl
  ·unfold aload
   simp only [h2,if_true]
   unfold Go.Am.apart
   simp only [hg]
   rfl
  ·unfold aload
   simp only [h2,if_true]
   unfold Go.Am.apart
   have h3:((rowC (A++f :: B)).drop (A.length * 3)).take 3=ptC f:=by rw [hd];rfl
   simp only [h3,if_true]
   rw [if_pos (by rw [rowC_len];simp;omega)]
def RowAt (H:Hp) (x:AV) (L:List Pt):Prop:=x=.nils∧L=[] ∨ ∃ o e,x=.ws true 3 o e L.length∧H[o]?=some (.row e (rowC L))
end Go.Am
