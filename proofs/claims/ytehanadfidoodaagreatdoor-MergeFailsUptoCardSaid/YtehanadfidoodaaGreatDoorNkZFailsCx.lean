/-
  The row of MergeFails in its first form.
-/
import Derived.Test.YtehanadfidoodaaGreatDoorNkSmx
import Derived.Test.YtehanadfidoodaaGreatDoorNkYbx
import Derived.Test.YtehanadfidoodaaGreatDoorNkUfx
import Derived.Test.YtehanadfidoodaaGreatDoorNkYcx
import Derived.Test.YtehanadfidoodaaGreatDoorCards
import Derived.Test.YtehanadfidoodaaGreatDoorTie
import Derived.Test.YtehanadfidoodaaGreatDoorNkZFailsAx
import Derived.Test.YtehanadfidoodaaGreatDoorNkZFailsBx
namespace Go.Proofs.YtehanadfidoodaaGreatDoor.wMergeFails
open Go.Am Go.ChangeAt
theorem Pz {H:Type}(ds:List (DataW H))(avs:List AV)(hm:ds.length=Tryz.f13.params.toList.length)(hn:avs.length=Tryz.f13.params.toList.length)
 (h:∀ (j:Nat) (t:TypeId) (d:DataW H) (a:AV),Tryz.f13.params.toList[j]?=some t→ds[j]?=some d→avs[j]?=some a→AT Tryz.prog t d a) (hk:Rows.uptoBulkAll ds≤1048576):∃ H',Za cfg 13 avs []=some (.bool true,H'):=by
 rw[Tryz.params13]at hm hn h
 match ds,avs,hm,hn with
 |[d0,d1,d2],[a0,a1,a2],_,_ =>
  simp only[Rows.uptoBulkAll]at hk
  obtain⟨L,h1,h2,h3⟩:=Zq1 (h 0 26 d0 a0 rfl rfl rfl) (show _≤_ by omega)
  obtain⟨p,h4,h5,h6⟩:=ZoI (h 1 29 d1 a1 rfl rfl rfl) (show _≤_ by omega)
  obtain⟨ls,h7,h8,h9,h10⟩:=Zo7 (h 2 30 d2 a2 rfl rfl rfl) (show _≤_ by omega)
  exact ZjV h1 h2 h3 h4 h5 h6 h7 h8 h9 h10
theorem Zs1 (os:Os){H:Type}(enc:TypeId×Value→H):∃ places,DataW.whole enc Tryz.prog ((Aw os).forCall (fun _ _=>0) ⟨#[],#[.agg #[.string .empty,.slice none 0 0,.string .empty,.string .empty,.slice none 0 0,.slice none 0 0],.agg #[.slice none 0 0,.int .i64 0,.int .i64 0,.bool false,.bool false],.slice none 0 0],[]⟩).memory Tryz.f13.params.toList Rows.mergeFailsSpec.vars false (#[.agg #[.string .empty,.slice none 0 0,.string .empty,.string .empty,.slice none 0 0,.slice none 0 0],.agg #[.slice none 0 0,.int .i64 0,.int .i64 0,.bool false,.bool false],.slice none 0 0]:Array Value).toList 8=some ([.agg [.lit (.string []),.nil,.lit (.string []),.lit (.string []),.nil,.nil],.agg [.nil,.lit (.int .i64 0),.lit (.int .i64 0),.lit (.bool false),.lit (.bool false)],.nil],[],places) :=
 ⟨[],by kernel_rfl⟩
set_option maxRecDepth 100000 in
theorem Zra (os:Os)(started:os.Started)(H:Type)(enc:TypeId×Value→H)(F:Stop.Interp) :
 ReturnsInHanded {} Tryz.checked os 13 .any ((Rows.OpenSpec.upto Rows.mergeFailsSpec).preRow enc Tryz.prog Tryz.f13 Rows.mergeFailsUptoRow.domain false Rows.mergeFailsUptoRow.laid) (((Rows.OpenSpec.upto Rows.mergeFailsSpec).at F).post enc Tryz.prog Tryz.f13 false true false false):=by
 obtain⟨places,hx⟩:=Zs1 os enc
 refine returnsInHanded_of_row (C:=Tryz.checked) (s:=Rows.OpenSpec.upto Rows.mergeFailsSpec) own started (by kernel_rfl) Tryz.func13
  (witness_row_at (enc:=enc) (C:=Tryz.checked) false (Aw os) #[.agg #[.string .empty,.slice none 0 0,.string .empty,.string .empty,.slice none 0 0,.slice none 0 0],.agg #[.slice none 0 0,.int .i64 0,.int .i64 0,.bool false,.bool false],.slice none 0 0] rfl (by kernel_rfl) (by kernel_rfl) (by kernel_rfl)
   (OpenSpec.preRow_of_cond 8 hx (by kernel_rfl) (fun k hk=>by cases hk;kernel_rfl) (by kernel_rfl) (Zo2 os _))) ?_
 intro W base args ds gs before hval hW _ hcond _ hlaid _ _
 have hgs:gs=[]:=by
  obtain⟨_,_,_,hV,_⟩:=hW
  exact (ChangeShapes.trodVars_none hV).1
 subst hgs
 have hk:=hcond _ rfl
 rw[List.append_nil]at hk
 exact Zfh (C:=cfg) (s:=Rows.mergeFailsSpec) cfg_ok ZpY Zgm (by kernel_rfl) rfl (fun ds h=>by
  rw[Tryz.params13]at h
  match ds,h with
  |[a0,a1,a2],_=>rfl) (rt:=4) (by kernel_rfl) Tryz.underlying4 (fun ds=>Rows.uptoBulkAll ds≤1048576) Pz W base args ds [] before hval hW (of_decide_eq_true hk) (Zlb hlaid)
theorem closed:joinedFacts Tryz.pinned.checked.prog 13 Tryz.f13 (OpenSpec.bare (Rows.OpenSpec.upto Rows.mergeFailsSpec)) Rows.mergeFailsUptoRow=true:=by
 unfold joinedFacts
 refine Bool.and_eq_true_iff.2 ⟨?_,by kernel_rfl⟩
 refine Bool.and_eq_true_iff.2 ⟨?_,by kernel_rfl⟩
 refine Bool.and_eq_true_iff.2 ⟨?_,by kernel_rfl⟩
 refine Bool.and_eq_true_iff.2 ⟨?_,by kernel_rfl⟩
 refine Bool.and_eq_true_iff.2 ⟨?_,by kernel_rfl⟩
 refine Bool.and_eq_true_iff.2 ⟨?_,by kernel_rfl⟩
 refine Bool.and_eq_true_iff.2 ⟨?_,by kernel_rfl⟩
 refine Bool.and_eq_true_iff.2 ⟨?_,by kernel_rfl⟩
 refine Bool.and_eq_true_iff.2 ⟨?_,by kernel_rfl⟩
 refine Bool.and_eq_true_iff.2 ⟨?_,by kernel_rfl⟩
 refine Bool.and_eq_true_iff.2 ⟨?_,by kernel_rfl⟩
 refine Bool.and_eq_true_iff.2 ⟨?_,by kernel_rfl⟩
 refine Bool.and_eq_true_iff.2 ⟨?_,by kernel_rfl⟩
 refine Bool.and_eq_true_iff.2 ⟨?_,by kernel_rfl⟩
 refine Bool.and_eq_true_iff.2 ⟨?_,by kernel_rfl⟩
 refine Bool.and_eq_true_iff.2 ⟨?_,by kernel_rfl⟩
 refine Bool.and_eq_true_iff.2 ⟨?_,by kernel_rfl⟩
 refine Bool.and_eq_true_iff.2 ⟨?_,by kernel_rfl⟩
 refine Bool.and_eq_true_iff.2 ⟨?_,by kernel_rfl⟩
 refine Bool.and_eq_true_iff.2 ⟨?_,k13⟩
 refine Bool.and_eq_true_iff.2 ⟨?_,k12⟩
 refine Bool.and_eq_true_iff.2 ⟨?_,k11⟩
 refine Bool.and_eq_true_iff.2 ⟨?_,k10⟩
 kernel_rfl
theorem Zsk:Rows.MergeFailsUptoSaid :=
 OpenClaim.holds_of_cond 13 Tryz.f13 rfl rfl rfl rfl rfl rfl rfl ⟨rfl,rfl,rfl,rfl,rfl⟩ rfl rfl rfl rfl rfl (by kernel_rfl) Tryz.func13 closed
  (of_decide_eq_true (by kernel_rfl)) (by unfold Func.isWrapper;first|(rw[if_pos (by decide +kernel)];kernel_rfl)|(rw[if_neg (by decide +kernel)];exact⟨rfl,rfl⟩))
  (fun os started H enc _ F=>by rw[OpenClaim.pre_eq_preRow];exact Zra os started H enc F)
end Go.Proofs.YtehanadfidoodaaGreatDoor.wMergeFails
