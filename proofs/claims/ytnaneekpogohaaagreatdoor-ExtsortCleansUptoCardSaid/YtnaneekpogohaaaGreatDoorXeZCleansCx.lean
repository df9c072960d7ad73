/-
  The row of ExtsortCleans in its first form.
-/
import Derived.Test.YtnaneekpogohaaaGreatDoorXeLax
import Derived.Test.YtnaneekpogohaaaGreatDoorXeYbx
import Derived.Test.YtnaneekpogohaaaGreatDoorXeNcx
import Derived.Test.YtnaneekpogohaaaGreatDoorXeYcx
import Derived.Test.YtnaneekpogohaaaGreatDoorCards
import Derived.Test.YtnaneekpogohaaaGreatDoorTie
import Derived.Test.YtnaneekpogohaaaGreatDoorXeZCleansAx
import Derived.Test.YtnaneekpogohaaaGreatDoorXeZCleansBx
namespace Go.Proofs.YtnaneekpogohaaaGreatDoor.wExtsortCleans
open Go.Am Go.ChangeAt
theorem Tu {H:Type}(ds:List (DataW H))(avs:List AV)(hm:ds.length=Tryz.f7.params.toList.length)(hn:avs.length=Tryz.f7.params.toList.length)
 (h:∀ (j:Nat) (t:TypeId) (d:DataW H) (a:AV),Tryz.f7.params.toList[j]?=some t→ds[j]?=some d→avs[j]?=some a→AT Tryz.prog t d a) (hk:Rows.uptoBulkAll ds≤1048576):∃ H',Za cfg 7 avs []=some (.bool true,H'):=by
 rw[Tryz.params7]at hm hn h
 match ds,avs,hm,hn with
 |[d0,d1,d2],[a0,a1,a2],_,_ =>
  simp only[Rows.uptoBulkAll]at hk
  obtain⟨p,xp,mem,w,rfl,h1,h2,h3⟩:=Zv5 (h 0 28 d0 a0 rfl rfl rfl) (show _≤_ by omega)
  obtain⟨l,h4,h5,h6⟩:=Zx2 (h 1 29 d1 a1 rfl rfl rfl) (show _≤_ by omega)
  obtain⟨n,_,rfl,hn⟩:=AT.int Kw (h 2 3 d2 a2 rfl rfl rfl)
  exact Zon h1 h2 h3 h4 h5 h6 (Zmy hn)
theorem Zye (os:Os){H:Type}(enc:TypeId×Value→H):∃ places,DataW.whole enc Tryz.prog ((ZcZ os).forCall (fun _ _=>0) ⟨#[],#[.agg #[.slice none 0 0,.int .i64 0,.int .i64 0,.bool false,.bool false,.int .i64 0,.int .i64 0],.slice none 0 0,.int .i64 0],[]⟩).memory Tryz.f7.params.toList Rows.extsortCleansSpec.vars false (#[.agg #[.slice none 0 0,.int .i64 0,.int .i64 0,.bool false,.bool false,.int .i64 0,.int .i64 0],.slice none 0 0,.int .i64 0]:Array Value).toList 8=some ([.agg [.agg [.nil,.lit (.int .i64 0),.lit (.int .i64 0),.lit (.bool false),.lit (.bool false)],.agg [.lit (.int .i64 0),.lit (.int .i64 0)]],.nil,.lit (.int .i64 0)],[],places) :=
 ⟨[],by kernel_rfl⟩
set_option maxRecDepth 100000 in
theorem ZxH (os:Os)(started:os.Started)(H:Type)(enc:TypeId×Value→H)(F:Stop.Interp) :
 ReturnsInHanded {} Tryz.checked os 7 .any ((Rows.OpenSpec.upto Rows.extsortCleansSpec).preRow enc Tryz.prog Tryz.f7 Rows.extsortCleansUptoRow.domain false Rows.extsortCleansUptoRow.laid) (((Rows.OpenSpec.upto Rows.extsortCleansSpec).at F).post enc Tryz.prog Tryz.f7 false true false false):=by
 obtain⟨places,hx⟩:=Zye os enc
 refine returnsInHanded_of_row (C:=Tryz.checked) (s:=Rows.OpenSpec.upto Rows.extsortCleansSpec) own started (by kernel_rfl) Tryz.func7
  (witness_row_at (enc:=enc) (C:=Tryz.checked) false (ZcZ os) #[.agg #[.slice none 0 0,.int .i64 0,.int .i64 0,.bool false,.bool false,.int .i64 0,.int .i64 0],.slice none 0 0,.int .i64 0] rfl (by kernel_rfl) (by kernel_rfl) (by kernel_rfl)
   (OpenSpec.preRow_of_cond 8 hx (by kernel_rfl) (fun k hk=>by cases hk;kernel_rfl) (by kernel_rfl) (ZuN os _))) ?_
 intro W base args ds gs before hval hW _ hcond _ hlaid _ _
 have hgs:gs=[]:=by
  obtain⟨_,_,_,hV,_⟩:=hW
  exact (ChangeShapes.trodVars_none hV).1
 subst hgs
 have hk:=hcond _ rfl
 rw[List.append_nil]at hk
 exact ZlE (C:=cfg) (s:=Rows.extsortCleansSpec) cfg_ok ZwG ZmR (by kernel_rfl) rfl (fun ds h=>by
  rw[Tryz.params7]at h
  match ds,h with
  |[a0,a1,a2],_=>rfl) (rt:=4) (by kernel_rfl) Tryz.underlying4 (fun ds=>Rows.uptoBulkAll ds≤1048576) Tu W base args ds [] before hval hW (of_decide_eq_true hk) (ZrW hlaid)
theorem closed:joinedFacts Tryz.pinned.checked.prog 7 Tryz.f7 (OpenSpec.bare (Rows.OpenSpec.upto Rows.extsortCleansSpec)) Rows.extsortCleansUptoRow=true:=by
 unfold joinedFacts
 refine Bool.and_eq_true_iff.2 ⟨?_,by kernel_rfl⟩
 refine Bool.and_eq_true_iff.2 ⟨?_,by kernel_rfl⟩
 refine Bool.and_eq_true_iff.2 ⟨?_,by kernel_rfl⟩
 refine Bool.and_eq_true_iff.2 ⟨?_,by kernel_rfl⟩
 refine Bool.and_eq_true_iff.2 ⟨?_,by kernel_rfl⟩
 refine Bool.and_eq_true_iff.2 ⟨?_,by kernel_rfl⟩
 refine Bool.and_eq_true_iff.2 ⟨?_,by kernel_rfl⟩
 refine Bool.and_eq_true_iff.2 ⟨?_,by kernel_rfl⟩
 refine Bool.and_eq_true_iff.2 ⟨?_,by kernel_rfl⟩
 refine Bool.and_eq_true_iff.2 ⟨?_,by kernel_rfl⟩
 refine Bool.and_eq_true_iff.2 ⟨?_,by kernel_rfl⟩
 refine Bool.and_eq_true_iff.2 ⟨?_,by kernel_rfl⟩
 refine Bool.and_eq_true_iff.2 ⟨?_,by kernel_rfl⟩
 refine Bool.and_eq_true_iff.2 ⟨?_,by kernel_rfl⟩
 refine Bool.and_eq_true_iff.2 ⟨?_,by kernel_rfl⟩
 refine Bool.and_eq_true_iff.2 ⟨?_,by kernel_rfl⟩
 refine Bool.and_eq_true_iff.2 ⟨?_,by kernel_rfl⟩
 refine Bool.and_eq_true_iff.2 ⟨?_,by kernel_rfl⟩
 refine Bool.and_eq_true_iff.2 ⟨?_,by kernel_rfl⟩
 refine Bool.and_eq_true_iff.2 ⟨?_,k13⟩
 refine Bool.and_eq_true_iff.2 ⟨?_,k12⟩
 refine Bool.and_eq_true_iff.2 ⟨?_,k11⟩
 refine Bool.and_eq_true_iff.2 ⟨?_,k10⟩
 kernel_rfl
theorem ZyC:Rows.ExtsortCleansUptoSaid :=
 OpenClaim.holds_of_cond 7 Tryz.f7 rfl rfl rfl rfl rfl rfl rfl ⟨rfl,rfl,rfl,rfl,rfl⟩ rfl rfl rfl rfl rfl (by kernel_rfl) Tryz.func7 closed
  (of_decide_eq_true (by kernel_rfl)) (by unfold Func.isWrapper;first|(rw[if_pos (by decide +kernel)];kernel_rfl)|(rw[if_neg (by decide +kernel)];exact⟨rfl,rfl⟩))
  (fun os started H enc _ F=>by rw[OpenClaim.pre_eq_preRow];exact ZxH os started H enc F)
end Go.Proofs.YtnaneekpogohaaaGreatDoor.wExtsortCleans
