/-
  TemplateLimits returns true: a replacement whose result has more than MaxText bytes is an error, and one of exactly MaxText bytes is not. It holds of the given program for all numbers, on the axioms propext, Classical.choice and Quot.sound; nothing is assumed.
-/
import Derived.Test.YtcllemkfpjaooaaGreatPtYzx
import Derived.Test.YtcllemkfpjaooaaGreatPtNx
import Derived.Test.YtcllemkfpjaooaaGreatPtAx
import Derived.Test.YtcllemkfpjaooaaGreatPtYcx
import Derived.Test.YtcllemkfpjaooaaGreatRows
namespace Go.Proofs.YtcllemkfpjaooaaGreat.wTemplateLimits
open Go.Am Go.ChangeAt
theorem law {H : Type} (ds : List (DataW H)) (avs : List AV) (hm : ds.length = Tryz.f5.params.toList.length) (hn : avs.length = Tryz.f5.params.toList.length)
    (h:∀ (j:Nat) (t:TypeId) (d:DataW H) (a:AV),Tryz.f5.params.toList[j]?=some t→ds[j]?=some d→avs[j]?=some a→AT Tryz.prog t d a) (hk:Rows.uptoBulkAll ds≤1048576):∃ H',callw cfg 5 avs []=some (.bool true,H'):=by
 rw [Tryz.params5] at hm hn h
 match ds,avs,hm,hn with
 | [d0,d1],[a0,a1],_,_ =>
  simp only [Rows.uptoBulkAll] at hk
  obtain ⟨a,_,rfl,_⟩:=AT.int under_3 (h 0 3 d0 a0 rfl rfl rfl)
  obtain ⟨b,_,rfl,_⟩:=AT.int under_3 (h 1 3 d1 a1 rfl rfl rfl)
  exact Limits_law a b [] awake_ok
theorem reads (os:Os) {H:Type} (enc:TypeId × Value→H):∃ places,DataW.whole enc Tryz.prog ((laidWorld os).forCall (fun _ _=>0) ⟨#[],#[.int .i64 0,.int .i64 0],[]⟩).memory Tryz.f5.params.toList Rows.templateLimitsSpec.vars false (#[.int .i64 0,.int .i64 0]:Array Value).toList 8=some ([.lit (.int .i64 0),.lit (.int .i64 0)],[],places) :=
 ⟨[],by kernel_rfl⟩
set_option maxRecDepth 100000 in
theorem lifted (os : Os) (started : os.Started) (H : Type) (enc : TypeId × Value → H) (F : Stop.Interp) :
    ReturnsInHanded {} Tryz.checked os 5 .any ((Rows.OpenSpec.upto Rows.templateLimitsSpec).preRow enc Tryz.prog Tryz.f5 Rows.templateLimitsUptoRow.domain false Rows.templateLimitsUptoRow.laid) (((Rows.OpenSpec.upto Rows.templateLimitsSpec).at F).post enc Tryz.prog Tryz.f5 false true false false):=by
 obtain ⟨places,hx⟩:=reads os enc
 refine returnsInHanded_of_row (C:=Tryz.checked) (s:=Rows.OpenSpec.upto Rows.templateLimitsSpec) own started (by kernel_rfl) Tryz.func5
  (witness_row_at (enc:=enc) (C:=Tryz.checked) false (laidWorld os) #[.int .i64 0,.int .i64 0] rfl (by kernel_rfl) (by kernel_rfl) (by kernel_rfl)
   (OpenSpec.preRow_of_cond 8 hx (by kernel_rfl) (fun k hk=>by cases hk;kernel_rfl) (by kernel_rfl) (laid_met os _))) ?_
 intro W base args ds gs before hval hW _ hcond _ hlaid _ _
 have hgs:gs=[]:=by
  obtain ⟨_,_,_,hV,_⟩:=hW
  exact (ChangeShapes.trodVars_none hV).1
 subst hgs
 have hk:=hcond _ rfl
 rw [List.append_nil] at hk
 exact law_contract (C:=cfg) (s:=Rows.templateLimitsSpec) cfg_ok laidOut argTypes_ok (by kernel_rfl) rfl (fun ds h=>by
  rw [Tryz.params5] at h
  match ds,h with
  | [a0,a1],_=>rfl) (rt:=4) (by kernel_rfl) Tryz.underlying4 (fun ds=>Rows.uptoBulkAll ds≤1048576) law W base args ds [] before hval hW (of_decide_eq_true hk) (glob_laid hlaid)
theorem proved:Rows.TemplateLimitsUptoSaid :=
 OpenClaim.holds_of_cond 5 Tryz.f5 rfl rfl rfl rfl rfl rfl rfl ⟨rfl,rfl,rfl,rfl,rfl⟩ rfl rfl rfl rfl rfl (by kernel_rfl) Tryz.func5 (by kernel_rfl)
  (of_decide_eq_true (by kernel_rfl)) (by unfold Func.isWrapper;first | (rw [if_pos (by decide +kernel)];kernel_rfl) | (rw [if_neg (by decide +kernel)];exact ⟨rfl,rfl⟩))
  (fun os started H enc _ F=>by rw [OpenClaim.pre_eq_preRow];exact lifted os started H enc F)
end Go.Proofs.YtcllemkfpjaooaaGreat.wTemplateLimits
