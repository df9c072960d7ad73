/-
  RecaptureMoves returns true: what Captures finds in a text, it finds in the same place of a longer text, where the expression has no anchors. It holds of the given program for every expression, every case and all strings of at most 1048576 values and letters together, on the axioms propext, Classical.choice and Quot.sound; nothing is assumed.
-/
import Derived.Test.YtpahcdhligjdiaaRcYzx
import Derived.Test.YtpahcdhligjdiaaRcAqx
import Derived.Test.YtpahcdhligjdiaaRcYcx
import Derived.Test.YtpahcdhligjdiaaRows
namespace Go.Proofs.Ytpahcdhligjdiaa.wRecaptureMoves
open Go.Am Go.ChangeAt
theorem law {H : Type} (ds : List (DataW H)) (avs : List AV) (hm : ds.length = Try.f3.params.toList.length) (hn : avs.length = Try.f3.params.toList.length)
    (h:∀ (j:Nat) (t:TypeId) (d:DataW H) (a:AV),Try.f3.params.toList[j]?=some t→ds[j]?=some d→avs[j]?=some a→AT Try.prog t d a) (hk:Rows.uptoBulkAll ds≤1048576):∃ H',callw cfg 3 avs []=some (.bool true,H'):=by
 rw [Try.params3] at hm hn h
 match ds,avs,hm,hn with
 | [d0,d1,d2,d3],[a0,a1,a2,a3],_,_ =>
  simp only [Rows.uptoBulkAll] at hk
  obtain ⟨e,he⟩:=re_at (h 0 28 d0 a0 rfl rfl rfl)
  obtain ⟨s,fr,to,lines,rfl⟩:=case_at (h 1 32 d1 a1 rfl rfl rfl)
  obtain ⟨b,rfl,hb⟩:=str_at (h 2 9 d2 a2 rfl rfl rfl) (show _≤_ by omega)
  obtain ⟨c,rfl,hc⟩:=str_at (h 3 9 d3 a3 rfl rfl rfl) (show _≤_ by omega)
  exact Moves_law he s fr to lines hb hc [] awake_ok
theorem reads (os:Os) {H:Type} (enc:TypeId × Value→H):∃ places,DataW.whole enc Try.prog ((laidWorld os).forCall (fun _ _=>0) ⟨#[],#[.agg #[.int .i64 0,.int .u64 0,.int .u64 0,.int .u64 0,.int .u64 0,.int .i64 0,.int .i64 0,.int .i64 0,.slice none 0 0],.agg #[.string .empty,.int .i64 0,.int .i64 0,.bool false],.string .empty,.string .empty],[]⟩).memory Try.f3.params.toList Rows.recaptureMovesSpec.vars false (#[.agg #[.int .i64 0,.int .u64 0,.int .u64 0,.int .u64 0,.int .u64 0,.int .i64 0,.int .i64 0,.int .i64 0,.slice none 0 0],.agg #[.string .empty,.int .i64 0,.int .i64 0,.bool false],.string .empty,.string .empty]:Array Value).toList 8=some ([.agg [.lit (.int .i64 0),.agg [.agg [.lit (.int .u64 0),.lit (.int .u64 0),.lit (.int .u64 0),.lit (.int .u64 0)]],.lit (.int .i64 0),.lit (.int .i64 0),.lit (.int .i64 0),.nil],.agg [.lit (.string []),.agg [.lit (.int .i64 0),.lit (.int .i64 0)],.lit (.bool false)],.lit (.string []),.lit (.string [])],[],places) :=
 ⟨[],by kernel_rfl⟩
set_option maxRecDepth 100000 in
theorem lifted (os : Os) (started : os.Started) (H : Type) (enc : TypeId × Value → H) (F : Stop.Interp) :
    ReturnsInHanded {} Try.checked os 3 .any ((Rows.OpenSpec.upto Rows.recaptureMovesSpec).preRow enc Try.prog Try.f3 Rows.recaptureMovesUptoRow.domain false Rows.recaptureMovesUptoRow.laid) (((Rows.OpenSpec.upto Rows.recaptureMovesSpec).at F).post enc Try.prog Try.f3 false true false false):=by
 obtain ⟨places,hx⟩:=reads os enc
 refine returnsInHanded_of_row (C:=Try.checked) (s:=Rows.OpenSpec.upto Rows.recaptureMovesSpec) own started (by kernel_rfl) Try.func3
  (witness_row_at (enc:=enc) (C:=Try.checked) false (laidWorld os) #[.agg #[.int .i64 0,.int .u64 0,.int .u64 0,.int .u64 0,.int .u64 0,.int .i64 0,.int .i64 0,.int .i64 0,.slice none 0 0],.agg #[.string .empty,.int .i64 0,.int .i64 0,.bool false],.string .empty,.string .empty] rfl (by kernel_rfl) (by kernel_rfl) (by kernel_rfl)
   (OpenSpec.preRow_of_cond 8 hx (by kernel_rfl) (fun k hk=>by cases hk;kernel_rfl) (by kernel_rfl) (laid_met os _))) ?_
 intro W base args ds gs before hval hW _ hcond _ hlaid _ _
 have hgs:gs=[]:=by
  obtain ⟨_,_,_,hV,_⟩:=hW
  exact (ChangeShapes.trodVars_none hV).1
 subst hgs
 have hk:=hcond _ rfl
 rw [List.append_nil] at hk
 exact law_contract (C:=cfg) (s:=Rows.recaptureMovesSpec) cfg_ok laidOut argTypes_ok (by kernel_rfl) rfl (fun ds h=>by
  rw [Try.params3] at h
  match ds,h with
  | [a0,a1,a2,a3],_=>rfl) (rt:=4) (by kernel_rfl) Try.underlying4 (fun ds=>Rows.uptoBulkAll ds≤1048576) law W base args ds [] before hval hW (of_decide_eq_true hk) (glob_laid hlaid)
theorem proved:Rows.RecaptureMovesUptoSaid :=
 OpenClaim.holds_of_cond 3 Try.f3 rfl rfl rfl rfl rfl rfl rfl ⟨rfl,rfl,rfl,rfl,rfl⟩ rfl rfl rfl rfl rfl (by kernel_rfl) Try.func3 (by kernel_rfl)
  (of_decide_eq_true (by kernel_rfl)) (by unfold Func.isWrapper;first | (rw [if_pos (by decide +kernel)];kernel_rfl) | (rw [if_neg (by decide +kernel)];exact ⟨rfl,rfl⟩))
  (fun os started H enc _ F=>by rw [OpenClaim.pre_eq_preRow];exact lifted os started H enc F)
end Go.Proofs.Ytpahcdhligjdiaa.wRecaptureMoves
