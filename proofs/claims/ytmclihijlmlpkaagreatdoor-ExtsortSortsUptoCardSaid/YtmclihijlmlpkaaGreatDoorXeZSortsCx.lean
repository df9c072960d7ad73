/-
  The row of ExtsortSorts in its first form.
-/
import Derived.Test.YtmclihijlmlpkaaGreatDoorXeLax
import Derived.Test.YtmclihijlmlpkaaGreatDoorXeYbx
import Derived.Test.YtmclihijlmlpkaaGreatDoorXeNcx
import Derived.Test.YtmclihijlmlpkaaGreatDoorXeYcx
import Derived.Test.YtmclihijlmlpkaaGreatDoorCards
import Derived.Test.YtmclihijlmlpkaaGreatDoorTie
import Derived.Test.YtmclihijlmlpkaaGreatDoorXeZSortsAx
import Derived.Test.YtmclihijlmlpkaaGreatDoorXeZSortsBx
namespace Go.Proofs.YtmclihijlmlpkaaGreatDoor.wExtsortSorts
open Go.Am Go.ChangeAt
theorem TS {H:Type}(ds:List (DataW H))(avs:List AV)(hm:ds.length=Tryz.f3.params.toList.length)(hn:avs.length=Tryz.f3.params.toList.length)
 (h:∀ (j:Nat) (t:TypeId) (d:DataW H) (a:AV),Tryz.f3.params.toList[j]?=some t→ds[j]?=some d→avs[j]?=some a→AT Tryz.prog t d a) (hk:Rows.uptoBulkAll ds≤1048576):∃ H',Zb cfg 3 avs []=some (.bool true,H'):=by
 rw[Tryz.params3]at hm hn h
 match ds,avs,hm,hn with
 |[d0,d1],[a0,a1],_,_ =>
  simp only[Rows.uptoBulkAll]at hk
  obtain⟨p,xp,mem,w,rfl,h1,h2,h3⟩:=ZxF (h 0 28 d0 a0 rfl rfl rfl) (show _≤_ by omega)
  obtain⟨l,h4,h5,h6⟩:=Zzw (h 1 29 d1 a1 rfl rfl rfl) (show _≤_ by omega)
  exact Ztd h1 h2 h3 h4 h5 h6
theorem ZAB (os:Os){H:Type}(enc:TypeId×Value→H):∃ places,DataW.whole enc Tryz.prog ((Zbk os).forCall (fun _ _=>0) ⟨#[],#[.agg #[.slice none 0 0,.int .i64 0,.int .i64 0,.bool false,.bool false,.int .i64 0,.int .i64 0],.slice none 0 0],[]⟩).memory Tryz.f3.params.toList Rows.extsortSortsSpec.vars false (#[.agg #[.slice none 0 0,.int .i64 0,.int .i64 0,.bool false,.bool false,.int .i64 0,.int .i64 0],.slice none 0 0]:Array Value).toList 8=some ([.agg [.agg [.nil,.lit (.int .i64 0),.lit (.int .i64 0),.lit (.bool false),.lit (.bool false)],.agg [.lit (.int .i64 0),.lit (.int .i64 0)]],.nil],[],places) :=
 ⟨[],by kernel_rfl⟩
set_option maxRecDepth 100000 in
theorem ZA9 (os:Os)(started:os.Started)(H:Type)(enc:TypeId×Value→H)(F:Stop.Interp) :
 ReturnsInHanded {} Tryz.checked os 3 .any ((Rows.OpenSpec.upto Rows.extsortSortsSpec).preRow enc Tryz.prog Tryz.f3 Rows.extsortSortsUptoRow.domain false Rows.extsortSortsUptoRow.laid) (((Rows.OpenSpec.upto Rows.extsortSortsSpec).at F).post enc Tryz.prog Tryz.f3 false true false false):=by
 obtain⟨places,hx⟩:=ZAB os enc
 refine returnsInHanded_of_row (C:=Tryz.checked) (s:=Rows.OpenSpec.upto Rows.extsortSortsSpec) own started (by kernel_rfl) Tryz.func3
  (witness_row_at (enc:=enc) (C:=Tryz.checked) false (Zbk os) #[.agg #[.slice none 0 0,.int .i64 0,.int .i64 0,.bool false,.bool false,.int .i64 0,.int .i64 0],.slice none 0 0] rfl (by kernel_rfl) (by kernel_rfl) (by kernel_rfl)
   (OpenSpec.preRow_of_cond 8 hx (by kernel_rfl) (fun k hk=>by cases hk;kernel_rfl) (by kernel_rfl) (Zxo os _))) ?_
 intro W base args ds gs before hval hW _ hcond _ hlaid _ _
 have hgs:gs=[]:=by
  obtain⟨_,_,_,hV,_⟩:=hW
  exact (ChangeShapes.trodVars_none hV).1
 subst hgs
 have hk:=hcond _ rfl
 rw[List.append_nil]at hk
 exact ZnO (C:=cfg) (s:=Rows.extsortSortsSpec) cfg_ok Zz8 Zp1 (by kernel_rfl) rfl (fun ds h=>by
  rw[Tryz.params3]at h
  match ds,h with
  |[a0,a1],_=>rfl) (rt:=4) (by kernel_rfl) Tryz.underlying4 (fun ds=>Rows.uptoBulkAll ds≤1048576) TS W base args ds [] before hval hW (of_decide_eq_true hk) (Zup hlaid)
theorem closed:joinedFacts Tryz.pinned.checked.prog 3 Tryz.f3 (OpenSpec.bare (Rows.OpenSpec.upto Rows.extsortSortsSpec)) Rows.extsortSortsUptoRow=true:=by
 unfold joinedFacts
 refine Bool.and_eq_true_iff.2 ⟨?_,by kernel_rfl⟩
 refine Bool.and_eq_true_iff.2 ⟨?_,by kernel_rfl⟩
 refine Bool.and_eq_true_iff.2 ⟨?_,by kernel_rfl⟩
 refine Bool.and_eq_true_iff.2 ⟨?_,by kernel_rfl⟩
 refine Bool.and_eq_true_iff.2 ⟨?_,by kernel_rfl⟩
 refine Bool.and_eq_true_iff.2 ⟨?_,by kernel_rfl⟩
 refine Bool.and_eq_true_iff.2 ⟨?_,by kernel_rfl⟩
 refine Bool.and_eq_true_iff.2 ⟨?_,by kernel_rfl⟩
 refine Bool.and_eq_true_iff.2 ⟨?_,by kernel_rfl⟩
 refine Bool.and_eq_true_iff.2 ⟨?_,by kernel_rfl⟩
 refine Bool.and_eq_true_iff.2 ⟨?_,by kernel_rfl⟩
 refine Bool.and_eq_true_iff.2 ⟨?_,by kernel_rfl⟩
 refine Bool.and_eq_true_iff.2 ⟨?_,by kernel_rfl⟩
 refine Bool.and_eq_true_iff.2 ⟨?_,by kernel_rfl⟩
 refine Bool.and_eq_true_iff.2 ⟨?_,by kernel_rfl⟩
 refine Bool.and_eq_true_iff.2 ⟨?_,by kernel_rfl⟩
 refine Bool.and_eq_true_iff.2 ⟨?_,by kernel_rfl⟩
 refine Bool.and_eq_true_iff.2 ⟨?_,by kernel_rfl⟩
 refine Bool.and_eq_true_iff.2 ⟨?_,by kernel_rfl⟩
 refine Bool.and_eq_true_iff.2 ⟨?_,k13⟩
 refine Bool.and_eq_true_iff.2 ⟨?_,k12⟩
 refine Bool.and_eq_true_iff.2 ⟨?_,k11⟩
 refine Bool.and_eq_true_iff.2 ⟨?_,k10⟩
 kernel_rfl
theorem ZAX:Rows.ExtsortSortsUptoSaid :=
 OpenClaim.holds_of_cond 3 Tryz.f3 rfl rfl rfl rfl rfl rfl rfl ⟨rfl,rfl,rfl,rfl,rfl⟩ rfl rfl rfl rfl rfl (by kernel_rfl) Tryz.func3 closed
  (of_decide_eq_true (by kernel_rfl)) (by unfold Func.isWrapper;first|(rw[if_pos (by decide +kernel)];kernel_rfl)|(rw[if_neg (by decide +kernel)];exact⟨rfl,rfl⟩))
  (fun os started H enc _ F=>by rw[OpenClaim.pre_eq_preRow];exact ZA9 os started H enc F)
end Go.Proofs.YtmclihijlmlpkaaGreatDoor.wExtsortSorts
