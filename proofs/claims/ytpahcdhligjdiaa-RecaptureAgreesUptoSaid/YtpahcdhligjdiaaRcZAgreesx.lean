/-
  RecaptureAgrees returns true: Captures finds a match exactly where the last instruction of the compiled program is among the threads of the simulation at the end. It holds of the given program for every expression and every case of at most 1048576 values and letters together, on the axioms propext, Classical.choice and Quot.sound; nothing is assumed.
-/
import Derived.Test.YtpahcdhligjdiaaRcYzx
import Derived.Test.YtpahcdhligjdiaaRcAqx
import Derived.Test.YtpahcdhligjdiaaRcChx
import Derived.Test.YtpahcdhligjdiaaRcYcx
import Derived.Test.YtpahcdhligjdiaaRows
namespace Go.Proofs.Ytpahcdhligjdiaa.wRecaptureAgrees
open Go.Am Go.ChangeAt
theorem law {H : Type} (ds : List (DataW H)) (avs : List AV) (hm : ds.length = Try.f5.params.toList.length) (hn : avs.length = Try.f5.params.toList.length)
    (h:∀ (j:Nat) (t:TypeId) (d:DataW H) (a:AV),Try.f5.params.toList[j]?=some t→ds[j]?=some d→avs[j]?=some a→AT Try.prog t d a) (hk:Rows.uptoBulkAll ds≤1048576):∃ H',callw cfg 5 avs []=some (.bool true,H'):=by
 rw [Try.params5] at hm hn h
 match ds,avs,hm,hn with
 | [d0,d1],[a0,a1],_,_ =>
  obtain ⟨e,he⟩:=re_at (h 0 28 d0 a0 rfl rfl rfl)
  obtain ⟨s,fr,to,lines,rfl⟩:=case_at (h 1 32 d1 a1 rfl rfl rfl)
  exact Agrees_law he s fr to lines [] awake_ok
theorem reads (os:Os) {H:Type} (enc:TypeId × Value→H):∃ places,DataW.whole enc Try.prog ((laidWorld os).forCall (fun _ _=>0) ⟨#[],#[.agg #[.int .i64 0,.int .u64 0,.int .u64 0,.int .u64 0,.int .u64 0,.int .i64 0,.int .i64 0,.int .i64 0,.slice none 0 0],.agg #[.string .empty,.int .i64 0,.int .i64 0,.bool false]],[]⟩).memory Try.f5.params.toList Rows.recaptureAgreesSpec.vars false (#[.agg #[.int .i64 0,.int .u64 0,.int .u64 0,.int .u64 0,.int .u64 0,.int .i64 0,.int .i64 0,.int .i64 0,.slice none 0 0],.agg #[.string .empty,.int .i64 0,.int .i64 0,.bool false]]:Array Value).toList 8=some ([.agg [.lit (.int .i64 0),.agg [.agg [.lit (.int .u64 0),.lit (.int .u64 0),.lit (.int .u64 0),.lit (.int .u64 0)]],.lit (.int .i64 0),.lit (.int .i64 0),.lit (.int .i64 0),.nil],.agg [.lit (.string []),.agg [.lit (.int .i64 0),.lit (.int .i64 0)],.lit (.bool false)]],[],places) :=
 ⟨[],by kernel_rfl⟩
set_option maxRecDepth 100000 in
theorem lifted (os : Os) (started : os.Started) (H : Type) (enc : TypeId × Value → H) (F : Stop.Interp) :
    ReturnsInHanded {} Try.checked os 5 .any ((Rows.OpenSpec.upto Rows.recaptureAgreesSpec).preRow enc Try.prog Try.f5 Rows.recaptureAgreesUptoRow.domain false Rows.recaptureAgreesUptoRow.laid) (((Rows.OpenSpec.upto Rows.recaptureAgreesSpec).at F).post enc Try.prog Try.f5 false true false false):=by
 obtain ⟨places,hx⟩:=reads os enc
 refine returnsInHanded_of_row (C:=Try.checked) (s:=Rows.OpenSpec.upto Rows.recaptureAgreesSpec) own started (by kernel_rfl) Try.func5
  (witness_row_at (enc:=enc) (C:=Try.checked) false (laidWorld os) #[.agg #[.int .i64 0,.int .u64 0,.int .u64 0,.int .u64 0,.int .u64 0,.int .i64 0,.int .i64 0,.int .i64 0,.slice none 0 0],.agg #[.string .empty,.int .i64 0,.int .i64 0,.bool false]] rfl (by kernel_rfl) (by kernel_rfl) (by kernel_rfl)
   (OpenSpec.preRow_of_cond 8 hx (by kernel_rfl) (fun k hk=>by cases hk;kernel_rfl) (by kernel_rfl) (laid_met os _))) ?_
 intro W base args ds gs before hval hW _ hcond _ hlaid _ _
 have hgs:gs=[]:=by
  obtain ⟨_,_,_,hV,_⟩:=hW
  exact (ChangeShapes.trodVars_none hV).1
 subst hgs
 have hk:=hcond _ rfl
 rw [List.append_nil] at hk
 exact law_contract (C:=cfg) (s:=Rows.recaptureAgreesSpec) cfg_ok laidOut argTypes_ok (by kernel_rfl) rfl (fun ds h=>by
  rw [Try.params5] at h
  match ds,h with
  | [a0,a1],_=>rfl) (rt:=4) (by kernel_rfl) Try.underlying4 (fun ds=>Rows.uptoBulkAll ds≤1048576) law W base args ds [] before hval hW (of_decide_eq_true hk) (glob_laid hlaid)
theorem proved:Rows.RecaptureAgreesUptoSaid :=
 OpenClaim.holds_of_cond 5 Try.f5 rfl rfl rfl rfl rfl rfl rfl ⟨rfl,rfl,rfl,rfl,rfl⟩ rfl rfl rfl rfl rfl (by kernel_rfl) Try.func5 (by kernel_rfl)
  (of_decide_eq_true (by kernel_rfl)) (by unfold Func.isWrapper;first | (rw [if_pos (by decide +kernel)];kernel_rfl) | (rw [if_neg (by decide +kernel)];exact ⟨rfl,rfl⟩))
  (fun os started H enc _ F=>by rw [OpenClaim.pre_eq_preRow];exact lifted os started H enc F)
end Go.Proofs.Ytpahcdhligjdiaa.wRecaptureAgrees
