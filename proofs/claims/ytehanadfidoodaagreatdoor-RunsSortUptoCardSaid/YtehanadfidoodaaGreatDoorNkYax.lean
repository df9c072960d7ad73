/-
  The arguments of the statements about orders of lines.
-/
import Derived.Test.YtehanadfidoodaaGreatDoorNkNx
import Derived.Test.YtehanadfidoodaaGreatDoorNkYzx
import Derived.Test.YtehanadfidoodaaGreatDoorRows
namespace Go.Am
open Go.Proofs Go.Proofs.YtehanadfidoodaaGreatDoor
set_option linter.unusedVariables false
set_option maxRecDepth 100000
section
variable {H:Type}
theorem key_tv {n:Nat} {d:DataW H} {cs:List AV} (h:TV Tryz.prog n 149 d cs):∃ k:Ke,KeOk k ∧ cs = k.cells:=by
  obtain ⟨ds,parts,m,rfl,rfl,h1,h2,h3⟩:=h.fields fields_149
  obtain ⟨a,b,c,d,e,rfl⟩:=five_of h1
  obtain ⟨a',b',c',d',e',rfl⟩:=five_of h2
  obtain ⟨x,_,rfl,hx⟩:=(h3 0 3 a a' rfl rfl rfl).int under_3
  obtain ⟨y,_,rfl,hy⟩:=(h3 1 3 b b' rfl rfl rfl).int under_3
  obtain ⟨z,_,rfl,hz⟩:=(h3 2 3 c c' rfl rfl rfl).int under_3
  obtain ⟨u,_,rfl,hu⟩:=(h3 3 3 d d' rfl rfl rfl).int under_3
  obtain ⟨v,_,rfl,hv⟩:=(h3 4 3 e e' rfl rfl rfl).int under_3
  exact ⟨⟨x,y,z,u,v⟩,⟨wf64 hx,wf64 hy,wf64 hz,wf64 hu⟩,rfl⟩
theorem keys_tv {n:Nat} {d:DataW H} {vals:List AV} (h:TV Tryz.prog n 27 d vals) (hb:Small d):∃ (x:AV) (ks:List Ke),vals = [x] ∧ Sl 5 x (ks.map Ke.av) ∧ (∀ k ∈ ks,KeOk k) ∧ ks.length ≤ 1048576 :=
  list_tv under_27 cells_149 (fun m d' cs ht hb=>by
    obtain ⟨k,hk,e2⟩:=key_tv ht
    exact ⟨k,hk,by rw [e2,agg_149]; rfl⟩) h hb
theorem spec_of {d:DataW H} {a:AV} (h:AT Tryz.prog 29 d a) (hb:Small d):∃ p:Spec,SpecAV a p ∧ ∀ k ∈ p.keys,KeOk k:=by
  obtain ⟨n,cs,ht,e0⟩:=h.agg agg_29
  subst e0
  obtain ⟨ds,parts,m,rfl,rfl,h1,h2,h3⟩:=ht.fields fields_29
  obtain ⟨a,b,c,d,e,rfl⟩:=five_of h1
  obtain ⟨a',b',c',d',e',rfl⟩:=five_of h2
  obtain ⟨x,ks,rfl,hx,hk,_⟩:=keys_tv (h3 0 27 a a' rfl rfl rfl) (small_agg hb (i:=0) rfl)
  obtain ⟨y,_,rfl,_⟩:=(h3 1 3 b b' rfl rfl rfl).int under_3
  obtain ⟨z,_,rfl,_⟩:=(h3 2 3 c c' rfl rfl rfl).int under_3
  obtain ⟨u,_,rfl⟩:=(h3 3 4 d d' rfl rfl rfl).bool under_4
  obtain ⟨v,_,rfl⟩:=(h3 4 4 e e' rfl rfl rfl).bool under_4
  exact ⟨⟨ks,y,z,v,u⟩,⟨x,rfl,hx⟩,hk⟩
end
end Go.Am
