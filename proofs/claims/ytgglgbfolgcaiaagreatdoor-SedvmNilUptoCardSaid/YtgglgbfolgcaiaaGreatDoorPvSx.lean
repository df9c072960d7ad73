/-
  A nil machine does nothing.
-/
import Derived.Test.YtgglgbfolgcaiaaGreatDoorPvGx
import Derived.Test.YtgglgbfolgcaiaaGreatDoorHmYbx
namespace Go.Am
open Go.Proofs
set_option linter.unusedVariables false
set_option linter.unusedSimpArgs false
set_option maxRecDepth 100000
theorem feed_nil (a b c:AV) (H:Hp):C_sedvm_Machine_Feed [.nilp,a,b,c] H=some (.str [],H):=by
 rw [F_sedvm_Machine_Feed_eq]
 unfold F_sedvm_Machine_Feed
 simp only [go_sem]
theorem done_nil (H:Hp):C_sedvm_Machine_Done [.nilp] H=some (.bool false,H):=by
 rw [F_sedvm_Machine_Done_eq]
 unfold F_sedvm_Machine_Done
 simp only [go_sem]
def zR:AV:=.agg [(.str []),.nils,.nils,(.int .i64 0)]
theorem close_nil (H:Hp):∃ H',C_sedvm_Machine_Close [.nilp] H=some (zR,H'):=by
 have h0:(H++[AObj.cells [AV.str [],AV.nils,AV.nils,AV.int IntKind.i64 0]])[H.length]?=some (.cells [AV.str [],AV.nils,AV.nils,AV.int IntKind.i64 0]):=by simp
 have h1:=astore_of (off:=0) (sz:=4) (v:=AV.agg [AV.str [],AV.nils,AV.nils,AV.int IntKind.i64 0]) h0 rfl rfl (by simp)
 have h2:=get_set_eq (AObj.cells (splice [AV.str [],AV.nils,AV.nils,AV.int IntKind.i64 0] 0 (AV.agg [AV.str [],AV.nils,AV.nils,AV.int IntKind.i64 0]).cells)) h0
 have h3:=aload_of (off:=0) h2 true 4
 have h4:apart true 4 (splice [AV.str [],AV.nils,AV.nils,AV.int IntKind.i64 0] 0 (AV.agg [AV.str [],AV.nils,AV.nils,AV.int IntKind.i64 0]).cells) 0=some zR:=rfl
 rw [h4] at h3
 rw [F_sedvm_Machine_Close_eq]
 unfold F_sedvm_Machine_Close
 simp only [go_sem,h1,h3]
 exact ⟨_,rfl⟩
theorem same_run:okV (flatC (callR k0 cfg 1000 50 6) [zR,zR] []) (.bool true)=true:=by kernel_rfl
theorem same_nil (H:Hp):flatC C_R38_SameResult [zR,zR] H=some (.bool true,H):=okV_flat k0_ok same_run H
structure Pc where
 name:List UInt8
 text:List UInt8
 last:Bool
def Pc.cells (p:Pc):List AV:=[.str p.name,.str p.text,.bool p.last]
abbrev PcsAt (x:AV) (l:List Pc):Prop:=x=.nils∧l.map (fun p=>AV.agg p.cells)=[] ∨ ∃ t,x=.vs 3 t (l.map fun p=>AV.agg p.cells)
theorem ld_pc (p:Pc) (i:Nat) (H:Hp):aload false 1 (.vp (p.cells.drop i)) H=p.cells[i]?:=by
 rw [show p.cells[i]?=(p.cells.drop i)[0]? by simp]
 rfl
theorem pcs_ix {x:AV} {l:List Pc} (h:PcsAt x l) {i:Nat} (hi:i < l.length):aindexS 3 x (.int .i64 (i:Int))=some (.vp l[i].cells):=by
 rcases h with ⟨_,h⟩ | ⟨t,rfl⟩
 ·rw [List.map_eq_nil_iff] at h
  subst h
  cases hi
 ·unfold aindexS
  dsimp only
  rw [if_pos ⟨rfl,by omega⟩,Int.toNat_natCast,List.getElem?_map,List.getElem?_eq_getElem hi]
  rfl
theorem pcs_len {x:AV} {l:List Pc} (h:PcsAt x l) (e:Nat):alenD (.slice e) x=some (.int .i64 (l.length:Int)):=by
 rcases h with ⟨rfl,h⟩ | ⟨t,rfl⟩
 ·rw [List.map_eq_nil_iff] at h
  subst h
  rfl
 ·rw [alen_vs,List.length_map]
theorem af0 (p:Pc):afield 0 (.vp p.cells)=some (.vp (p.cells.drop 0)):=rfl
theorem af1 (p:Pc):afield 1 (.vp p.cells)=some (.vp (p.cells.drop 1)):=rfl
theorem af2 (p:Pc):afield 2 (.vp p.cells)=some (.vp (p.cells.drop 2)):=rfl
theorem nil_loop {x : AV} {l : List Pc} (h : PcsAt x l) (hl : l.length ≤ 1048576) (awake : ∀ H, flatC C_L38_awake [] H = some (.bool true, H)) (H0 H : Hp) : ∀ (k i : Nat), l.length - i = k → i ≤ l.length →
    ∃ H',L38_SedvmNil_L1 x .nilp (.int .i64 (i:Int)) H0 H=some (.bool true,H'):=by
 intro k
 induction k with
 | zero =>
  intro i hk hi
  obtain rfl:i=l.length:=by omega
  have hlt:decide ((l.length:Int) < (l.length:Int))=false:=decide_eq_false (by omega)
  obtain ⟨H1,hcl⟩:=close_nil H
  have:=same_nil H1
  unfold zR at this hcl
  rw [L38_SedvmNil_L1_eq]
  simp only [pcs_len h,go_sem,hlt,L38_SedvmNil_J1_eq,hcl,this,awake]
  exact ⟨_,rfl⟩
 | succ k ih =>
  intro i hk hi
  have hL:i < l.length:=by omega
  have hlt:decide ((i:Int) < (l.length:Int))=true:=decide_eq_true (by omega)
  have e0:l[i].cells[0]?=some (.str l[i].name):=rfl
  have e1:l[i].cells[1]?=some (.str l[i].text):=rfl
  have e2:l[i].cells[2]?=some (.bool l[i].last):=rfl
  have hne:(!(([]:List UInt8) == []))=false:=rfl
  have hw:IntKind.i64.wrap ((i:Int)+1)=((i+1:Nat):Int):=by rw [wrap64 (by omega) (by omega)];simp
  rw [L38_SedvmNil_L1_eq]
  simp only [pcs_len h,go_sem,hlt,L38_SedvmNil_J2_eq,pcs_ix h hL,af0,af1,af2,ld_pc,e0,e1,e2,feed_nil,hne,done_nil,L38_SedvmNil_J3_eq,hw]
  exact ih (i+1) (by omega) (by omega)
theorem Nil_law {x:AV} {l:List Pc} (h:PcsAt x l) (hl:l.length≤1048576) (H:Hp) (awake:∀ H,flatC C_L38_awake [] H=some (.bool true,H)):∃ H',C_L38_SedvmNil [x] H=some (.bool true,H'):=by
 rw [F_L38_SedvmNil_eq]
 unfold F_L38_SedvmNil
 exact nil_loop h hl awake H H l.length 0 (by omega) (by omega)
end Go.Am
