/-
  TemplateParses returns true: the parts of a replacement, or the error and its offset, are those of the document. It holds of the given program for every string of at most 1048576 bytes and every number of groups, on the axioms propext, Classical.choice and Quot.sound; nothing is assumed.
-/
import Derived.Test.YtcllemkfpjaooaaGreatPtYzx
import Derived.Test.YtcllemkfpjaooaaGreatPtAx
import Derived.Test.YtcllemkfpjaooaaGreatPtYcx
import Derived.Test.YtcllemkfpjaooaaGreatRows
namespace Go.Proofs.YtcllemkfpjaooaaGreat.wTemplateParses
open Go.Am Go.ChangeAt
theorem law {H : Type} (ds : List (DataW H)) (avs : List AV) (hm : ds.length = Tryz.f3.params.toList.length) (hn : avs.length = Tryz.f3.params.toList.length)
    (h:∀ (j:Nat) (t:TypeId) (d:DataW H) (a:AV),Tryz.f3.params.toList[j]?=some t→ds[j]?=some d→avs[j]?=some a→AT Tryz.prog t d a) (hk:Rows.uptoBulkAll ds≤1048576):∃ H',callw cfg 3 avs []=some (.bool true,H'):=by
 rw [Tryz.params3] at hm hn h
 match ds,avs,hm,hn with
 | [d0,d1],[a0,a1],_,_ =>
  simp only [Rows.uptoBulkAll] at hk
  obtain ⟨s,rfl,h4⟩:=str_bulk (h 0 9 d0 a0 rfl rfl rfl) (show _≤_ by omega)
  obtain ⟨g,_,rfl,_⟩:=AT.int under_3 (h 1 3 d1 a1 rfl rfl rfl)
  exact Parses_law h4 g [] awake_ok
theorem reads (os:Os) {H:Type} (enc:TypeId × Value→H):∃ places,DataW.whole enc Tryz.prog ((laidWorld os).forCall (fun _ _=>0) ⟨#[],#[.string .empty,.int .i64 0],[]⟩).memory Tryz.f3.params.toList Rows.templateParsesSpec.vars false (#[.string .empty,.int .i64 0]:Array Value).toList 8=some ([.lit (.string []),.lit (.int .i64 0)],[],places) :=
 ⟨[],by kernel_rfl⟩
set_option maxRecDepth 100000 in
theorem lifted (os : Os) (started : os.Started) (H : Type) (enc : TypeId × Value → H) (F : Stop.Interp) :
    ReturnsInHanded {} Tryz.checked os 3 .any ((Rows.OpenSpec.upto Rows.templateParsesSpec).preRow enc Tryz.prog Tryz.f3 Rows.templateParsesUptoRow.domain false Rows.templateParsesUptoRow.laid) (((Rows.OpenSpec.upto Rows.templateParsesSpec).at F).post enc Tryz.prog Tryz.f3 false true false false):=by
 obtain ⟨places,hx⟩:=reads os enc
 refine returnsInHanded_of_row (C:=Tryz.checked) (s:=Rows.OpenSpec.upto Rows.templateParsesSpec) own started (by kernel_rfl) Tryz.func3
  (witness_row_at (enc:=enc) (C:=Tryz.checked) false (laidWorld os) #[.string .empty,.int .i64 0] rfl (by kernel_rfl) (by kernel_rfl) (by kernel_rfl)
   (OpenSpec.preRow_of_cond 8 hx (by kernel_rfl) (fun k hk=>by cases hk;kernel_rfl) (by kernel_rfl) (laid_met os _))) ?_
 intro W base args ds gs before hval hW _ hcond _ hlaid _ _
 have hgs:gs=[]:=by
  obtain ⟨_,_,_,hV,_⟩:=hW
  exact (ChangeShapes.trodVars_none hV).1
 subst hgs
 have hk:=hcond _ rfl
 rw [List.append_nil] at hk
 exact law_contract (C:=cfg) (s:=Rows.templateParsesSpec) cfg_ok laidOut argTypes_ok (by kernel_rfl) rfl (fun ds h=>by
  rw [Tryz.params3] at h
  match ds,h with
  | [a0,a1],_=>rfl) (rt:=4) (by kernel_rfl) Tryz.underlying4 (fun ds=>Rows.uptoBulkAll ds≤1048576) law W base args ds [] before hval hW (of_decide_eq_true hk) (glob_laid hlaid)
theorem proved:Rows.TemplateParsesUptoSaid :=
 OpenClaim.holds_of_cond 3 Tryz.f3 rfl rfl rfl rfl rfl rfl rfl ⟨rfl,rfl,rfl,rfl,rfl⟩ rfl rfl rfl rfl rfl (by kernel_rfl) Tryz.func3 (by kernel_rfl)
  (of_decide_eq_true (by kernel_rfl)) (by unfold Func.isWrapper;first | (rw [if_pos (by decide +kernel)];kernel_rfl) | (rw [if_neg (by decide +kernel)];exact ⟨rfl,rfl⟩))
  (fun os started H enc _ F=>by rw [OpenClaim.pre_eq_preRow];exact lifted os started H enc F)
end Go.Proofs.YtcllemkfpjaooaaGreat.wTemplateParses
