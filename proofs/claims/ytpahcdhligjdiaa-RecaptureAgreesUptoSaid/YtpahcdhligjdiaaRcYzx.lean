/-
  The arguments of the statements about captures.
-/
import Derived.Test.YtpahcdhligjdiaaRcAnx
import Derived.Test.YtpahcdhligjdiaaKmVx
import Derived.Deep.DeepHandedRow
import Derived.Deep.DeepLaidRun
import Derived.Test.YtpahcdhligjdiaaRows
namespace Go.Am
open Go.Proofs Go.Proofs.Ytpahcdhligjdiaa
set_option linter.unusedVariables false
set_option maxRecDepth 100000
theorem laidOut:laidOutB Try.prog=true:=by kernel_rfl
theorem own:ownKnob Try.prog.godebug=none:=by kernel_rfl
def argTypes:List Nat:=[3,4,9,22,23,25,26,28,30,32]
theorem argTypes_ok:argTypes.all (plainIn Try.prog argTypes)=true:=by kernel_rfl
theorem under_3:Try.prog.underlying 3=some (.int .i64):=by kernel_rfl
theorem under_4:Try.prog.underlying 4=some .bool:=by kernel_rfl
theorem under_9:Try.prog.underlying 9=some .string:=by kernel_rfl
theorem under_22:Try.prog.underlying 22=some (.int .u64):=by kernel_rfl
theorem under_23:Try.prog.underlying 23=some (.array 4 22):=by kernel_rfl
theorem under_26:Try.prog.underlying 26=some (.slice 28):=by kernel_rfl
theorem fields_25:fieldTypes Try.prog 25=some [23]:=by kernel_rfl
theorem fields_28:fieldTypes Try.prog 28=some [3,25,3,3,3,26]:=by kernel_rfl
theorem fields_30:fieldTypes Try.prog 30=some [3,3]:=by kernel_rfl
theorem fields_32:fieldTypes Try.prog 32=some [9,30,4]:=by kernel_rfl
theorem agg_28:aggOf Try.prog 28=true:=by kernel_rfl
theorem agg_32:aggOf Try.prog 32=true:=by kernel_rfl
theorem cells_28:Try.prog.cellsOf 28=9:=by kernel_rfl
theorem three_of {α:Type} {l:List α} (h:l.length=3):∃ a b c,l=[a,b,c]:=match l,h with | [a,b,c],_=>⟨a,b,c,rfl⟩
theorem one_of {α:Type} {l:List α} (h:l.length=1):∃ a,l=[a]:=match l,h with | [a],_=>⟨a,rfl⟩
theorem two_of {α:Type} {l:List α} (h:l.length=2):∃ a b,l=[a,b]:=match l,h with | [a,b],_=>⟨a,b,rfl⟩
theorem four_of {α:Type} {l:List α} (h:l.length=4):∃ a b c d,l=[a,b,c,d]:=match l,h with | [a,b,c,d],_=>⟨a,b,c,d,rfl⟩
theorem six_of {α:Type} {l:List α} (h:l.length=6):∃ a b c d e f,l=[a,b,c,d,e,f]:=match l,h with | [a,b,c,d,e,f],_=>⟨a,b,c,d,e,f,rfl⟩
section
variable {H:Type} {P:Program} {d:DataW H}
theorem tv_slice {n : Nat} {t e : TypeId} {vals : List AV} (hu : P.underlying t = some (.slice e)) (h : TV P (n + 1) t d vals) :
    d=.nil∧vals=[.nils] ∨ ∃ es sp l,d=.slice es sp∧vals=[.vs (P.cellsOf e) .no l]∧l.length=es.length∧l.length≤maxLen∧∀ (i:Nat) (x:AV) (d':DataW H),l[i]?=some x→es[i]?=some d'→∃ cs,x=ofCells (aggOf P e) cs∧TV P n e d' cs:=by
 unfold TV at h
 rw [hu] at h
 exact h
theorem tv_array {n m : Nat} {t e : TypeId} {vals : List AV} (hu : P.underlying t = some (.array m e)) (h : TV P (n + 1) t d vals) :
    ∃ (ds:List (DataW H)) (parts:List (List AV)),d=.agg ds∧vals=parts.flatten∧parts.length=m∧ds.length=m∧∀ (i:Nat) (p:List AV) (d':DataW H),parts[i]?=some p→ds[i]?=some d'→TV P n e d' p:=by
 unfold TV at h
 rw [hu] at h
 exact h
theorem tv_fields {n : Nat} {t : TypeId} {ts : List Nat} {vals : List AV} (hf : fieldTypes P t = some ts) (h : TV P (n + 1) t d vals) :
    ∃ (ds:List (DataW H)) (parts:List (List AV)),d=.agg ds∧vals=parts.flatten∧parts.length=ts.length∧ds.length=ts.length ∧
     ∀ (i:Nat) (u:TypeId) (p:List AV) (d':DataW H),ts[i]?=some u→parts[i]?=some p→ds[i]?=some d'→TV P n u d' p:=by
 unfold TV at h
 unfold fieldTypes at hf
 split at hf
 ·rename_i fs hu
  injection hf with hf
  subst hf
  rw [hu] at h
  obtain ⟨ds,parts,h0,h1,h2,h3,h4⟩:=h
  refine ⟨ds,parts,h0,h1,by simp [h2],by simp [h3],fun i u p d' hu' hp hd=>?_⟩
  rw [List.getElem?_map,Option.map_eq_some_iff] at hu'
  obtain ⟨f,hf,rfl⟩:=hu'
  exact h4 i f p d' (by simpa using hf) hp hd
 ·cases hf
end
section
variable {H:Type}
theorem set_of {n:Nat} {d:DataW H} {cs:List AV} (h:TV Try.prog n 25 d cs):∃ a b c d:Int,cs=[.int .u64 a,.int .u64 b,.int .u64 c,.int .u64 d]:=by
 obtain ⟨ds,parts,m,rfl,rfl,h1,h2,h3⟩:=h.fields fields_25
 obtain ⟨a,rfl⟩:=one_of h1
 obtain ⟨a',rfl⟩:=one_of h2
 have h4:=h3 0 23 a a' rfl rfl rfl
 cases m with
 | zero=>exact h4.elim
 | succ m =>
  obtain ⟨es,ps,e1,rfl,g1,g2,g3⟩:=tv_array under_23 h4
  obtain ⟨p,q,r,t,rfl⟩:=four_of g1
  obtain ⟨p',q',r',t',rfl⟩:=four_of g2
  obtain ⟨x,_,rfl,_⟩:=(g3 0 p p' rfl rfl).int under_22
  obtain ⟨y,_,rfl,_⟩:=(g3 1 q q' rfl rfl).int under_22
  obtain ⟨z,_,rfl,_⟩:=(g3 2 r r' rfl rfl).int under_22
  obtain ⟨w,_,rfl,_⟩:=(g3 3 t t' rfl rfl).int under_22
  exact ⟨x,y,z,w,rfl⟩
theorem list_rt:∀ l:List AV,(∀ x ∈ l,∃ e,RtC e x)→∃ A,RtL A l:=by
 intro l
 induction l with
 | nil=>intro _;exact ⟨[],RtL.nil⟩
 | cons x l ih =>
  intro h
  obtain ⟨e,he⟩:=h x (by simp)
  obtain ⟨A,hA⟩:=ih fun y hy=>h y (by simp [hy])
  exact ⟨[e]++A,(RtL.nil.snoc he).app hA⟩
theorem re_of:∀ (n:Nat) (d:DataW H) (cs:List AV),TV Try.prog n 28 d cs→∃ e,RtC e (.agg cs):=by
 intro n
 induction n using Nat.strongRecOn with
 | ind n ih =>
  intro d cs h
  cases n with
  | zero=>exact h.elim
  | succ n =>
   obtain ⟨ds,parts,rfl,rfl,h1,h2,h3⟩:=tv_fields fields_28 h
   obtain ⟨a,b,c,d,e,f,rfl⟩:=six_of h1
   obtain ⟨a',b',c',d',e',f',rfl⟩:=six_of h2
   obtain ⟨op,_,rfl,_⟩:=(h3 0 3 a a' rfl rfl rfl).int under_3
   obtain ⟨b0,b1,b2,b3,rfl⟩:=set_of (h3 1 25 b b' rfl rfl rfl)
   obtain ⟨lo,_,rfl,_⟩:=(h3 2 3 c c' rfl rfl rfl).int under_3
   obtain ⟨hi,_,rfl,_⟩:=(h3 3 3 d d' rfl rfl rfl).int under_3
   obtain ⟨g,_,rfl,_⟩:=(h3 4 3 e e' rfl rfl rfl).int under_3
   have h6:=h3 5 26 f f' rfl rfl rfl
   cases n with
   | zero=>exact h6.elim
   | succ n =>
    rcases tv_slice under_26 h6 with ⟨_,rfl⟩ | ⟨es,sp,l,_,rfl,g1,_,g3⟩
    ·exact ⟨.mk ⟨op,b0,b1,b2,b3,lo,hi,g⟩ [],RtC.of (.inl ⟨rfl,rfl⟩) RtL.nil⟩
    ·obtain ⟨A, hA⟩ := list_rt l (fun x hx => by
        obtain ⟨i,hi⟩:=List.getElem?_of_mem hx
        have hlt:i < es.length:=by rw [← g1];exact lt_of_get hi
        obtain ⟨cs,e1,ht⟩:=g3 i x es[i] hi (List.getElem?_eq_getElem hlt)
        obtain ⟨e,he⟩:=ih n (by omega) _ _ ht
        refine ⟨e,?_⟩
        rw [e1,agg_28]
        exact he)
     refine ⟨.mk ⟨op,b0,b1,b2,b3,lo,hi,g⟩ A,RtC.of (l:=l) (.inr (.inl ?_)) hA⟩
     rw [cells_28]
theorem re_at {d:DataW H} {a:AV} (h:AT Try.prog 28 d a):∃ e,RtC e a:=by
 obtain ⟨n,cs,ht,rfl⟩:=h
 rw [agg_28]
 exact re_of n d cs ht
theorem case_at {d:DataW H} {a:AV} (h:AT Try.prog 32 d a):∃ s fr to lines,a=.agg (cse s fr to lines):=by
 obtain ⟨n,cs,ht,rfl⟩:=h
 rw [agg_32]
 obtain ⟨ds,parts,m,rfl,rfl,h1,h2,h3⟩:=ht.fields fields_32
 obtain ⟨a,b,c,rfl⟩:=three_of h1
 obtain ⟨a',b',c',rfl⟩:=three_of h2
 obtain ⟨s,_,rfl,_⟩:=(h3 0 9 a a' rfl rfl rfl).str under_9
 obtain ⟨ds2,parts2,m2,_,rfl,g1,g2,g3⟩:=(h3 1 30 b b' rfl rfl rfl).fields fields_30
 obtain ⟨x,y,rfl⟩:=two_of g1
 obtain ⟨x',y',rfl⟩:=two_of g2
 obtain ⟨fr,_,rfl,_⟩:=(g3 0 3 x x' rfl rfl rfl).int under_3
 obtain ⟨to,_,rfl,_⟩:=(g3 1 3 y y' rfl rfl rfl).int under_3
 obtain ⟨l,_,rfl⟩:=(h3 2 4 c c' rfl rfl rfl).bool under_4
 exact ⟨s,fr,to,l,rfl⟩
end
end Go.Am
