/-
  RecaptureNests returns true: the groups that Captures finds lie in the order and within each other as in the expression, and within the whole match. It holds of the given program for every expression and every case of at most 1048576 values and letters together, on the axioms propext, Classical.choice and Quot.sound; nothing is assumed.
-/
import Derived.Test.YtpahcdhligjdiaaRcYzx
import Derived.Test.YtpahcdhligjdiaaRcAqx
import Derived.Test.YtpahcdhligjdiaaRcYcx
import Derived.Test.YtpahcdhligjdiaaRows
namespace Go.Proofs.Ytpahcdhligjdiaa.wRecaptureNests
open Go.Am Go.ChangeAt
theorem law {H : Type} (ds : List (DataW H)) (avs : List AV) (hm : ds.length = Try.f4.params.toList.length) (hn : avs.length = Try.f4.params.toList.length)
    (h:∀ (j:Nat) (t:TypeId) (d:DataW H) (a:AV),Try.f4.params.toList[j]?=some t→ds[j]?=some d→avs[j]?=some a→AT Try.prog t d a) (hk:Rows.uptoBulkAll ds≤1048576):∃ H',callw cfg 4 avs []=some (.bool true,H'):=by
 rw [Try.params4] at hm hn h
 match ds,avs,hm,hn with
 | [d0,d1],[a0,a1],_,_ =>
  obtain ⟨e,he⟩:=re_at (h 0 28 d0 a0 rfl rfl rfl)
  obtain ⟨s,fr,to,lines,rfl⟩:=case_at (h 1 32 d1 a1 rfl rfl rfl)
  exact Nests_law he s fr to lines [] awake_ok
theorem reads (os:Os) {H:Type} (enc:TypeId × Value→H):∃ places,DataW.whole enc Try.prog ((laidWorld os).forCall (fun _ _=>0) ⟨#[],#[.agg #[.int .i64 0,.int .u64 0,.int .u64 0,.int .u64 0,.int .u64 0,.int .i64 0,.int .i64 0,.int .i64 0,.slice none 0 0],.agg #[.string .empty,.int .i64 0,.int .i64 0,.bool false]],[]⟩).memory Try.f4.params.toList Rows.recaptureNestsSpec.vars false (#[.agg #[.int .i64 0,.int .u64 0,.int .u64 0,.int .u64 0,.int .u64 0,.int .i64 0,.int .i64 0,.int .i64 0,.slice none 0 0],.agg #[.string .empty,.int .i64 0,.int .i64 0,.bool false]]:Array Value).toList 8=some ([.agg [.lit (.int .i64 0),.agg [.agg [.lit (.int .u64 0),.lit (.int .u64 0),.lit (.int .u64 0),.lit (.int .u64 0)]],.lit (.int .i64 0),.lit (.int .i64 0),.lit (.int .i64 0),.nil],.agg [.lit (.string []),.agg [.lit (.int .i64 0),.lit (.int .i64 0)],.lit (.bool false)]],[],places) :=
 ⟨[],by kernel_rfl⟩
set_option maxRecDepth 100000 in
theorem lifted (os : Os) (started : os.Started) (H : Type) (enc : TypeId × Value → H) (F : Stop.Interp) :
    ReturnsInHanded {} Try.checked os 4 .any ((Rows.OpenSpec.upto Rows.recaptureNestsSpec).preRow enc Try.prog Try.f4 Rows.recaptureNestsUptoRow.domain false Rows.recaptureNestsUptoRow.laid) (((Rows.OpenSpec.upto Rows.recaptureNestsSpec).at F).post enc Try.prog Try.f4 false true false false):=by
 obtain ⟨places,hx⟩:=reads os enc
 refine returnsInHanded_of_row (C:=Try.checked) (s:=Rows.OpenSpec.upto Rows.recaptureNestsSpec) own started (by kernel_rfl) Try.func4
  (witness_row_at (enc:=enc) (C:=Try.checked) false (laidWorld os) #[.agg #[.int .i64 0,.int .u64 0,.int .u64 0,.int .u64 0,.int .u64 0,.int .i64 0,.int .i64 0,.int .i64 0,.slice none 0 0],.agg #[.string .empty,.int .i64 0,.int .i64 0,.bool false]] rfl (by kernel_rfl) (by kernel_rfl) (by kernel_rfl)
   (OpenSpec.preRow_of_cond 8 hx (by kernel_rfl) (fun k hk=>by cases hk;kernel_rfl) (by kernel_rfl) (laid_met os _))) ?_
 intro W base args ds gs before hval hW _ hcond _ hlaid _ _
 have hgs:gs=[]:=by
  obtain ⟨_,_,_,hV,_⟩:=hW
  exact (ChangeShapes.trodVars_none hV).1
 subst hgs
 have hk:=hcond _ rfl
 rw [List.append_nil] at hk
 exact law_contract (C:=cfg) (s:=Rows.recaptureNestsSpec) cfg_ok laidOut argTypes_ok (by kernel_rfl) rfl (fun ds h=>by
  rw [Try.params4] at h
  match ds,h with
  | [a0,a1],_=>rfl) (rt:=4) (by kernel_rfl) Try.underlying4 (fun ds=>Rows.uptoBulkAll ds≤1048576) law W base args ds [] before hval hW (of_decide_eq_true hk) (glob_laid hlaid)
theorem proved:Rows.RecaptureNestsUptoSaid :=
 OpenClaim.holds_of_cond 4 Try.f4 rfl rfl rfl rfl rfl rfl rfl ⟨rfl,rfl,rfl,rfl,rfl⟩ rfl rfl rfl rfl rfl (by kernel_rfl) Try.func4 (by kernel_rfl)
  (of_decide_eq_true (by kernel_rfl)) (by unfold Func.isWrapper;first | (rw [if_pos (by decide +kernel)];kernel_rfl) | (rw [if_neg (by decide +kernel)];exact ⟨rfl,rfl⟩))
  (fun os started H enc _ F=>by rw [OpenClaim.pre_eq_preRow];exact lifted os started H enc F)
end Go.Proofs.Ytpahcdhligjdiaa.wRecaptureNests
