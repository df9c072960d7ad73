/-
  The row of TopCrashes in its first form.
-/
import Derived.Test.YtnaneekpogohaaaGreatDoorXeLax
import Derived.Test.YtnaneekpogohaaaGreatDoorXeYbx
import Derived.Test.YtnaneekpogohaaaGreatDoorXeKlx
import Derived.Test.YtnaneekpogohaaaGreatDoorXeYcx
import Derived.Test.YtnaneekpogohaaaGreatDoorCards
import Derived.Test.YtnaneekpogohaaaGreatDoorTie
import Derived.Test.YtnaneekpogohaaaGreatDoorXeZTopCrashesAx
import Derived.Test.YtnaneekpogohaaaGreatDoorXeZTopCrashesBx
namespace Go.Proofs.YtnaneekpogohaaaGreatDoor.wTopCrashes
open Go.Am Go.ChangeAt
theorem Fd {H:Type}(ds:List (DataW H))(avs:List AV)(hm:ds.length=Tryz.f3.params.toList.length)(hn:avs.length=Tryz.f3.params.toList.length)
 (h:∀ (j:Nat) (t:TypeId) (d:DataW H) (a:AV),Tryz.f3.params.toList[j]?=some t→ds[j]?=some d→avs[j]?=some a→AT Tryz.prog t d a) (hk:Rows.uptoBulkAll ds≤1048576):∃ H',Zb cfg 3 avs []=some (.bool true,H'):=by
 rw[Tryz.params3]at hm hn h
 match ds,avs,hm,hn with
 |[d0,d1,d2],[a0,a1,a2],_,_ =>
  simp only[Rows.uptoBulkAll]at hk
  obtain⟨p,xp,mem,w,rfl,h1,h2,h3⟩:=Zwc (h 0 28 d0 a0 rfl rfl rfl) (show _≤_ by omega)
  obtain⟨l,h4,h5,h6⟩:=Zyc (h 1 29 d1 a1 rfl rfl rfl) (show _≤_ by omega)
  obtain⟨a0,a1,a2,k0,k1,k2,rfl⟩:=Zvs (h 2 33 d2 a2 rfl rfl rfl)
  exact Zjm h1 h2 h3 h4 h5 h6 a0 a1 a2 k0 k1 k2
theorem Zzn (os:Os){H:Type}(enc:TypeId×Value→H):∃ places,DataW.whole enc Tryz.prog ((Zee os).forCall (fun _ _=>0) ⟨#[],#[.agg #[.slice none 0 0,.int .i64 0,.int .i64 0,.bool false,.bool false,.int .i64 0,.int .i64 0],.slice none 0 0,.agg #[.int .i64 0,.int .u64 0,.int .i64 0,.int .u64 0,.int .i64 0,.int .u64 0]],[]⟩).memory Tryz.f3.params.toList Rows.topCrashesSpec.vars false (#[.agg #[.slice none 0 0,.int .i64 0,.int .i64 0,.bool false,.bool false,.int .i64 0,.int .i64 0],.slice none 0 0,.agg #[.int .i64 0,.int .u64 0,.int .i64 0,.int .u64 0,.int .i64 0,.int .u64 0]]:Array Value).toList 8=some ([.agg [.agg [.nil,.lit (.int .i64 0),.lit (.int .i64 0),.lit (.bool false),.lit (.bool false)],.agg [.lit (.int .i64 0),.lit (.int .i64 0)]],.nil,.agg [.agg [.lit (.int .i64 0),.lit (.int .u64 0)],.agg [.lit (.int .i64 0),.lit (.int .u64 0)],.agg [.lit (.int .i64 0),.lit (.int .u64 0)]]],[],places) :=
 ⟨[],by kernel_rfl⟩
set_option maxRecDepth 100000 in
theorem ZyR (os:Os)(started:os.Started)(H:Type)(enc:TypeId×Value→H)(F:Stop.Interp) :
 ReturnsInHanded {} Tryz.checked os 3 .any ((Rows.OpenSpec.upto Rows.topCrashesSpec).preRow enc Tryz.prog Tryz.f3 Rows.topCrashesUptoRow.domain false Rows.topCrashesUptoRow.laid) (((Rows.OpenSpec.upto Rows.topCrashesSpec).at F).post enc Tryz.prog Tryz.f3 false true false false):=by
 obtain⟨places,hx⟩:=Zzn os enc
 refine returnsInHanded_of_row (C:=Tryz.checked) (s:=Rows.OpenSpec.upto Rows.topCrashesSpec) own started (by kernel_rfl) Tryz.func3
  (witness_row_at (enc:=enc) (C:=Tryz.checked) false (Zee os) #[.agg #[.slice none 0 0,.int .i64 0,.int .i64 0,.bool false,.bool false,.int .i64 0,.int .i64 0],.slice none 0 0,.agg #[.int .i64 0,.int .u64 0,.int .i64 0,.int .u64 0,.int .i64 0,.int .u64 0]] rfl (by kernel_rfl) (by kernel_rfl) (by kernel_rfl)
   (OpenSpec.preRow_of_cond 8 hx (by kernel_rfl) (fun k hk=>by cases hk;kernel_rfl) (by kernel_rfl) (ZvU os _))) ?_
 intro W base args ds gs before hval hW _ hcond _ hlaid _ _
 have hgs:gs=[]:=by
  obtain⟨_,_,_,hV,_⟩:=hW
  exact (ChangeShapes.trodVars_none hV).1
 subst hgs
 have hk:=hcond _ rfl
 rw[List.append_nil]at hk
 exact ZmL (C:=cfg) (s:=Rows.topCrashesSpec) cfg_ok ZxR ZlQ (by kernel_rfl) rfl (fun ds h=>by
  rw[Tryz.params3]at h
  match ds,h with
  |[a0,a1,a2],_=>rfl) (rt:=4) (by kernel_rfl) Tryz.underlying4 (fun ds=>Rows.uptoBulkAll ds≤1048576) Fd W base args ds [] before hval hW (of_decide_eq_true hk) (ZsZ hlaid)
theorem closed:joinedFacts Tryz.pinned.checked.prog 3 Tryz.f3 (OpenSpec.bare (Rows.OpenSpec.upto Rows.topCrashesSpec)) Rows.topCrashesUptoRow=true:=by
 unfold joinedFacts
 refine Bool.and_eq_true_iff.2 ⟨?_,by kernel_rfl⟩
 refine Bool.and_eq_true_iff.2 ⟨?_,by kernel_rfl⟩
 refine Bool.and_eq_true_iff.2 ⟨?_,by kernel_rfl⟩
 refine Bool.and_eq_true_iff.2 ⟨?_,by kernel_rfl⟩
 refine Bool.and_eq_true_iff.2 ⟨?_,by kernel_rfl⟩
 refine Bool.and_eq_true_iff.2 ⟨?_,by kernel_rfl⟩
 refine Bool.and_eq_true_iff.2 ⟨?_,by kernel_rfl⟩
 refine Bool.and_eq_true_iff.2 ⟨?_,by kernel_rfl⟩
 refine Bool.and_eq_true_iff.2 ⟨?_,by kernel_rfl⟩
 refine Bool.and_eq_true_iff.2 ⟨?_,by kernel_rfl⟩
 refine Bool.and_eq_true_iff.2 ⟨?_,by kernel_rfl⟩
 refine Bool.and_eq_true_iff.2 ⟨?_,by kernel_rfl⟩
 refine Bool.and_eq_true_iff.2 ⟨?_,by kernel_rfl⟩
 refine Bool.and_eq_true_iff.2 ⟨?_,by kernel_rfl⟩
 refine Bool.and_eq_true_iff.2 ⟨?_,by kernel_rfl⟩
 refine Bool.and_eq_true_iff.2 ⟨?_,by kernel_rfl⟩
 refine Bool.and_eq_true_iff.2 ⟨?_,by kernel_rfl⟩
 refine Bool.and_eq_true_iff.2 ⟨?_,by kernel_rfl⟩
 refine Bool.and_eq_true_iff.2 ⟨?_,by kernel_rfl⟩
 refine Bool.and_eq_true_iff.2 ⟨?_,k13⟩
 refine Bool.and_eq_true_iff.2 ⟨?_,k12⟩
 refine Bool.and_eq_true_iff.2 ⟨?_,k11⟩
 refine Bool.and_eq_true_iff.2 ⟨?_,k10⟩
 kernel_rfl
theorem ZzN:Rows.TopCrashesUptoSaid :=
 OpenClaim.holds_of_cond 3 Tryz.f3 rfl rfl rfl rfl rfl rfl rfl ⟨rfl,rfl,rfl,rfl,rfl⟩ rfl rfl rfl rfl rfl (by kernel_rfl) Tryz.func3 closed
  (of_decide_eq_true (by kernel_rfl)) (by unfold Func.isWrapper;first|(rw[if_pos (by decide +kernel)];kernel_rfl)|(rw[if_neg (by decide +kernel)];exact⟨rfl,rfl⟩))
  (fun os started H enc _ F=>by rw[OpenClaim.pre_eq_preRow];exact ZyR os started H enc F)
end Go.Proofs.YtnaneekpogohaaaGreatDoor.wTopCrashes
