/-
  TemplatePrints returns true: a replacement as a string, and its value in a match, are those of the document. It holds of the given program for every list of parts, every string and every match of at most 1048576 values and bytes together, on the axioms propext, Classical.choice and Quot.sound; nothing is assumed.
-/
import Derived.Test.YtcllemkfpjaooaaGreatPtYzx
import Derived.Test.YtcllemkfpjaooaaGreatPtAx
import Derived.Test.YtcllemkfpjaooaaGreatPtYcx
import Derived.Test.YtcllemkfpjaooaaGreatRows
namespace Go.Proofs.YtcllemkfpjaooaaGreat.wTemplatePrints
open Go.Am Go.ChangeAt
theorem law {H : Type} (ds : List (DataW H)) (avs : List AV) (hm : ds.length = Tryz.f4.params.toList.length) (hn : avs.length = Tryz.f4.params.toList.length)
    (h:∀ (j:Nat) (t:TypeId) (d:DataW H) (a:AV),Tryz.f4.params.toList[j]?=some t→ds[j]?=some d→avs[j]?=some a→AT Tryz.prog t d a) (hk:Rows.uptoBulkAll ds≤1048576):∃ H',callw cfg 4 avs []=some (.bool true,H'):=by
 rw [Tryz.params4] at hm hn h
 match ds,avs,hm,hn with
 | [d0,d1,d2],[a0,a1,a2],_,_ =>
  simp only [Rows.uptoBulkAll] at hk
  obtain ⟨L,h1,h2,h3⟩:=parts_of (h 0 22 d0 a0 rfl rfl rfl) (show _≤_ by omega)
  obtain ⟨s,rfl,h4⟩:=str_bulk (h 1 9 d1 a1 rfl rfl rfl) (show _≤_ by omega)
  obtain ⟨y,M,rfl,h5⟩:=match_of (h 2 31 d2 a2 rfl rfl rfl) (show _≤_ by omega)
  exact Prints_law h1 h5 h2 h3 h4 [] awake_ok
theorem reads (os:Os) {H:Type} (enc:TypeId × Value→H):∃ places,DataW.whole enc Tryz.prog ((laidWorld os).forCall (fun _ _=>0) ⟨#[],#[.slice none 0 0,.string .empty,.agg #[.slice none 0 0]],[]⟩).memory Tryz.f4.params.toList Rows.templatePrintsSpec.vars false (#[.slice none 0 0,.string .empty,.agg #[.slice none 0 0]]:Array Value).toList 8=some ([.nil,.lit (.string []),.agg [.nil]],[],places) :=
 ⟨[],by kernel_rfl⟩
set_option maxRecDepth 100000 in
theorem lifted (os : Os) (started : os.Started) (H : Type) (enc : TypeId × Value → H) (F : Stop.Interp) :
    ReturnsInHanded {} Tryz.checked os 4 .any ((Rows.OpenSpec.upto Rows.templatePrintsSpec).preRow enc Tryz.prog Tryz.f4 Rows.templatePrintsUptoRow.domain false Rows.templatePrintsUptoRow.laid) (((Rows.OpenSpec.upto Rows.templatePrintsSpec).at F).post enc Tryz.prog Tryz.f4 false true false false):=by
 obtain ⟨places,hx⟩:=reads os enc
 refine returnsInHanded_of_row (C:=Tryz.checked) (s:=Rows.OpenSpec.upto Rows.templatePrintsSpec) own started (by kernel_rfl) Tryz.func4
  (witness_row_at (enc:=enc) (C:=Tryz.checked) false (laidWorld os) #[.slice none 0 0,.string .empty,.agg #[.slice none 0 0]] rfl (by kernel_rfl) (by kernel_rfl) (by kernel_rfl)
   (OpenSpec.preRow_of_cond 8 hx (by kernel_rfl) (fun k hk=>by cases hk;kernel_rfl) (by kernel_rfl) (laid_met os _))) ?_
 intro W base args ds gs before hval hW _ hcond _ hlaid _ _
 have hgs:gs=[]:=by
  obtain ⟨_,_,_,hV,_⟩:=hW
  exact (ChangeShapes.trodVars_none hV).1
 subst hgs
 have hk:=hcond _ rfl
 rw [List.append_nil] at hk
 exact law_contract (C:=cfg) (s:=Rows.templatePrintsSpec) cfg_ok laidOut argTypes_ok (by kernel_rfl) rfl (fun ds h=>by
  rw [Tryz.params4] at h
  match ds,h with
  | [a0,a1,a2],_=>rfl) (rt:=4) (by kernel_rfl) Tryz.underlying4 (fun ds=>Rows.uptoBulkAll ds≤1048576) law W base args ds [] before hval hW (of_decide_eq_true hk) (glob_laid hlaid)
theorem proved:Rows.TemplatePrintsUptoSaid :=
 OpenClaim.holds_of_cond 4 Tryz.f4 rfl rfl rfl rfl rfl rfl rfl ⟨rfl,rfl,rfl,rfl,rfl⟩ rfl rfl rfl rfl rfl (by kernel_rfl) Tryz.func4 (by kernel_rfl)
  (of_decide_eq_true (by kernel_rfl)) (by unfold Func.isWrapper;first | (rw [if_pos (by decide +kernel)];kernel_rfl) | (rw [if_neg (by decide +kernel)];exact ⟨rfl,rfl⟩))
  (fun os started H enc _ F=>by rw [OpenClaim.pre_eq_preRow];exact lifted os started H enc F)
end Go.Proofs.YtcllemkfpjaooaaGreat.wTemplatePrints
