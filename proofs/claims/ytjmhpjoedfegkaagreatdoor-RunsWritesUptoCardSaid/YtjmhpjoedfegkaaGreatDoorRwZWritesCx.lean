/-
  The row of RunsWrites in its first form.
-/
import Derived.Test.YtjmhpjoedfegkaaGreatDoorRwYrx
import Derived.Test.YtjmhpjoedfegkaaGreatDoorRwYbx
import Derived.Test.YtjmhpjoedfegkaaGreatDoorRwAbx
import Derived.Test.YtjmhpjoedfegkaaGreatDoorRwYcx
import Derived.Test.YtjmhpjoedfegkaaGreatDoorCards
import Derived.Test.YtjmhpjoedfegkaaGreatDoorTie
import Derived.Test.YtjmhpjoedfegkaaGreatDoorRwZWritesAx
import Derived.Test.YtjmhpjoedfegkaaGreatDoorRwZWritesBx
namespace Go.Proofs.YtjmhpjoedfegkaaGreatDoor.wRunsWrites
open Go.Am Go.ChangeAt
theorem O6 {H:Type}(ds:List (DataW H))(avs:List AV)(hm:ds.length=Tryz.f3.params.toList.length)(hn:avs.length=Tryz.f3.params.toList.length)
 (h:∀ (j:Nat) (t:TypeId) (d:DataW H) (a:AV),Tryz.f3.params.toList[j]?=some t→ds[j]?=some d→avs[j]?=some a→AT Tryz.prog t d a) (hk:Rows.uptoBulkAll ds≤1048576):∃ H',Za cfg 3 avs []=some (.bool true,H'):=by
 rw[Tryz.params3]at hm hn h
 match ds,avs,hm,hn with
 |[d0,d1],[a0,a1],_,_ =>
  simp only[Rows.uptoBulkAll]at hk
  obtain⟨st,lim,fl,rfl,g1,g2,g3⟩:=Zs5 (h 0 23 d0 a0 rfl rfl rfl)
  obtain⟨p,xp,x,y,l,cs,rfl,h1,h2,h3,h4,h5,h6,h7,h8,h9⟩:=ZAg (h 1 30 d1 a1 rfl rfl rfl) (show _≤_ by omega)
  exact Zq1 g1 g2 g3 h1 h2 h3 h4 h5 h6 h7 h8 h9
theorem ZAD (os:Os){H:Type}(enc:TypeId×Value→H):∃ places,DataW.whole enc Tryz.prog ((ZbU os).forCall (fun _ _=>0) ⟨#[],#[.agg #[.int .i64 0,.int .i64 0,.int .i64 0],.agg #[.slice none 0 0,.int .i64 0,.int .i64 0,.bool false,.bool false,.slice none 0 0,.slice none 0 0]],[]⟩).memory Tryz.f3.params.toList Rows.runsWritesSpec.vars false (#[.agg #[.int .i64 0,.int .i64 0,.int .i64 0],.agg #[.slice none 0 0,.int .i64 0,.int .i64 0,.bool false,.bool false,.slice none 0 0,.slice none 0 0]]:Array Value).toList 8=some ([.agg [.lit (.int .i64 0),.lit (.int .i64 0),.lit (.int .i64 0)],.agg [.agg [.nil,.lit (.int .i64 0),.lit (.int .i64 0),.lit (.bool false),.lit (.bool false)],.nil,.nil]],[],places) :=
 ⟨[],by kernel_rfl⟩
set_option maxRecDepth 100000 in
theorem ZA2 (os:Os)(started:os.Started)(H:Type)(enc:TypeId×Value→H)(F:Stop.Interp) :
 ReturnsInHanded {} Tryz.checked os 3 .any ((Rows.OpenSpec.upto Rows.runsWritesSpec).preRow enc Tryz.prog Tryz.f3 Rows.runsWritesUptoRow.domain false Rows.runsWritesUptoRow.laid) (((Rows.OpenSpec.upto Rows.runsWritesSpec).at F).post enc Tryz.prog Tryz.f3 false true false false):=by
 obtain⟨places,hx⟩:=ZAD os enc
 refine returnsInHanded_of_row (C:=Tryz.checked) (s:=Rows.OpenSpec.upto Rows.runsWritesSpec) own started (by kernel_rfl) Tryz.func3
  (witness_row_at (enc:=enc) (C:=Tryz.checked) false (ZbU os) #[.agg #[.int .i64 0,.int .i64 0,.int .i64 0],.agg #[.slice none 0 0,.int .i64 0,.int .i64 0,.bool false,.bool false,.slice none 0 0,.slice none 0 0]] rfl (by kernel_rfl) (by kernel_rfl) (by kernel_rfl)
   (OpenSpec.preRow_of_cond 8 hx (by kernel_rfl) (fun k hk=>by cases hk;kernel_rfl) (by kernel_rfl) (ZwW os _))) ?_
 intro W base args ds gs before hval hW _ hcond _ hlaid _ _
 have hgs:gs=[]:=by
  obtain⟨_,_,_,hV,_⟩:=hW
  exact (ChangeShapes.trodVars_none hV).1
 subst hgs
 have hk:=hcond _ rfl
 rw[List.append_nil]at hk
 exact Znd (C:=cfg) (s:=Rows.runsWritesSpec) cfg_ok ZyU Zos (by kernel_rfl) rfl (fun ds h=>by
  rw[Tryz.params3]at h
  match ds,h with
  |[a0,a1],_=>rfl) (rt:=4) (by kernel_rfl) Tryz.underlying4 (fun ds=>Rows.uptoBulkAll ds≤1048576) O6 W base args ds [] before hval hW (of_decide_eq_true hk) (ZtI hlaid)
theorem closed:joinedFacts Tryz.pinned.checked.prog 3 Tryz.f3 (OpenSpec.bare (Rows.OpenSpec.upto Rows.runsWritesSpec)) Rows.runsWritesUptoRow=true:=by
 unfold joinedFacts
 refine Bool.and_eq_true_iff.2 ⟨?_,by kernel_rfl⟩
 refine Bool.and_eq_true_iff.2 ⟨?_,by kernel_rfl⟩
 refine Bool.and_eq_true_iff.2 ⟨?_,by kernel_rfl⟩
 refine Bool.and_eq_true_iff.2 ⟨?_,by kernel_rfl⟩
 refine Bool.and_eq_true_iff.2 ⟨?_,by kernel_rfl⟩
 refine Bool.and_eq_true_iff.2 ⟨?_,by kernel_rfl⟩
 refine Bool.and_eq_true_iff.2 ⟨?_,by kernel_rfl⟩
 refine Bool.and_eq_true_iff.2 ⟨?_,by kernel_rfl⟩
 refine Bool.and_eq_true_iff.2 ⟨?_,by kernel_rfl⟩
 refine Bool.and_eq_true_iff.2 ⟨?_,by kernel_rfl⟩
 refine Bool.and_eq_true_iff.2 ⟨?_,by kernel_rfl⟩
 refine Bool.and_eq_true_iff.2 ⟨?_,by kernel_rfl⟩
 refine Bool.and_eq_true_iff.2 ⟨?_,by kernel_rfl⟩
 refine Bool.and_eq_true_iff.2 ⟨?_,by kernel_rfl⟩
 refine Bool.and_eq_true_iff.2 ⟨?_,by kernel_rfl⟩
 refine Bool.and_eq_true_iff.2 ⟨?_,by kernel_rfl⟩
 refine Bool.and_eq_true_iff.2 ⟨?_,by kernel_rfl⟩
 refine Bool.and_eq_true_iff.2 ⟨?_,by kernel_rfl⟩
 refine Bool.and_eq_true_iff.2 ⟨?_,by kernel_rfl⟩
 refine Bool.and_eq_true_iff.2 ⟨?_,k13⟩
 refine Bool.and_eq_true_iff.2 ⟨?_,k12⟩
 refine Bool.and_eq_true_iff.2 ⟨?_,k11⟩
 refine Bool.and_eq_true_iff.2 ⟨?_,k10⟩
 kernel_rfl
theorem ZB7:Rows.RunsWritesUptoSaid :=
 OpenClaim.holds_of_cond 3 Tryz.f3 rfl rfl rfl rfl rfl rfl rfl ⟨rfl,rfl,rfl,rfl,rfl⟩ rfl rfl rfl rfl rfl (by kernel_rfl) Tryz.func3 closed
  (of_decide_eq_true (by kernel_rfl)) (by unfold Func.isWrapper;first|(rw[if_pos (by decide +kernel)];kernel_rfl)|(rw[if_neg (by decide +kernel)];exact⟨rfl,rfl⟩))
  (fun os started H enc _ F=>by rw[OpenClaim.pre_eq_preRow];exact ZA2 os started H enc F)
end Go.Proofs.YtjmhpjoedfegkaaGreatDoor.wRunsWrites
