/-
  The statements about replacements: reading, printing, and both.
-/
import Derived.Test.YtcllemkfpjaooaaGreatPtYx
import Derived.Test.YtcllemkfpjaooaaGreatPtVax
namespace Go.Am
set_option linter.unusedSimpArgs false
set_option linter.unusedVariables false
set_option maxRecDepth 100000

theorem escL_len (l:List UInt8):(escL l).length≤2 * l.length:=by
 induction l with
 | nil=>simp [escL]
 | cons c l ih =>
  rw [escL_cons,List.length_append,List.length_cons]
  have:(escB c).length≤2:=by unfold escB;split <;> (try split) <;> simp
  omega
theorem printOne_len (p:Pt):(printOne p).length≤2 * p.text.length+2:=by
 unfold printOne
 split
 ·simp
 ·split
  ·simp
  ·split
   ·have:=escL_len p.text;omega
   ·simp
theorem printP_len {L:List Pt} (h:∀ p ∈ L,p.text.length≤1048576):(printP L).length≤L.length * 2097154:=by
 induction L with
 | nil=>simp [printP]
 | cons p L ih =>
  rw [printP_cons,List.length_append,List.length_cons]
  have h1:=printOne_len p
  have h2:=h p (by simp)
  have h3:=ih fun q hq=>h q (List.mem_cons_of_mem _ hq)
  omega
theorem expP_len {L:List Pt} {s:List UInt8} (M:List (Int × Int)) (hs:s.length≤1048576) (h:∀ p ∈ L,p.text.length≤1048576):(expP s M L).length≤L.length * 2097152:=by
 induction L with
 | nil=>simp [expP]
 | cons p L ih =>
  rw [expP_cons,List.length_append,List.length_append,List.length_cons]
  have h1:(expT p).length≤1048576:=by
   have:=h p (by simp)
   unfold expT
   split
   ·exact this
   ·simp
  have h2:(expG s M p).length≤1048576:=by
   have hsp:∀ m,(spanS s m).length≤1048576:=fun m=>by
    unfold spanS
    split
    ·simp;omega
    ·simp
   unfold expG
   split
   ·split
    ·exact hsp _
    ·simp
   ·simp
  have h3:=ih fun q hq=>h q (List.mem_cons_of_mem _ hq)
  omega
theorem RdAt.sl {x:AV} {L:List Pt} (h:x=.nils∧L=[] ∨ ∃ t,x=.vs 3 t (L.map ptV)) (H:Hp):RdAt H x L:=h.imp id Or.inl
theorem Prints_law {x y : AV} {L : List Pt} {s : List UInt8} {M : List (Int × Int)} (hx : x = .nils ∧ L = [] ∨ ∃ t, x = .vs 3 t (L.map ptV)) (hy : SpAt y M) (hL : L.length ≤ 1048576) (ht : ∀ p ∈ L, p.text.length ≤ 1048576) (hs : s.length ≤ 1048576)
    (H:Hp) (awake:∀ H,flatC C_L16_awake [] H=some (.bool true,H)) :
    ∃ H',C_L16_TemplatePrints [x,.str s,.agg [y]] H=some (.bool true,H'):=by
 have hm:maxB=140737488355328:=rfl
 have hpl:=printP_len ht
 have hel:=expP_len M hs ht
 have ht':∀ p ∈ L,p.text.length≤8000000000000:=fun p hp=>by have:=ht p hp;omega
 have hyk:(AV.agg [y]).known=true∧(AV.agg [y]).cells=[y]:=by
  rcases hy with ⟨rfl,_⟩ | ⟨t,rfl⟩ <;> exact ⟨rfl,rfl⟩
 have hbx:abox (.agg [y]) H=some (.ptr H.length 0,H++[.cells [y]]):=by rw [abox_of hyk.1,hyk.2]
 have hfz:∀ k:AV→Hp→Res,frzK (.ptr H.length 0) (H++[.cells [y]]) k=k (.vp [y]) (H++[.dead]):=fun k=>by
  rw [frz_of (l:=[y]) (by simp)]
  simp
 obtain ⟨H1,a1,a2⟩:=print_spec (RdAt.sl hx (H++[.dead])) (by omega) ht' (by omega)
 have b1:=rprint_spec (RdAt.sl hx H1) (by omega) ht' (by omega)
 obtain ⟨H2,c1,c2⟩:=expand_spec (RdAt.sl hx H1) hy (s:=s) (by omega) (by omega) (by omega)
 obtain ⟨H3,d1,d2⟩:=rexpand_spec (RdAt.sl hx H2) hy (s:=s) (by omega) (by omega) (by omega)
 have l1:aload true 1 (.vp [y]) H1=some (.agg [y]):=rfl
 have l2:aloadv true 1 (.vp [y])=some (.agg [y]):=rfl
 have e1:(printP L == printP L)=true:=by simp
 have e2:(expP s M L == expP s M L)=true:=by simp
 rw [F_L16_TemplatePrints_eq]
 unfold F_L16_TemplatePrints
 simp only [hbx,go_sem,hfz,a1,b1,e1,l1,c1,l2,d1,e2,awake]
 exact ⟨_,rfl⟩
end Go.Am
