/-
  texttoolsref35.known, a function of a constant list of bytes, told by what it hands back: written by program (wip/sv/pvk.py).
-/
import Derived.Test.YtgglgbfolgcaiaaGreatDoorPvPx
import Derived.WalkKit
import Derived.LoopN
import Derived.Lib.SlBytesConst
namespace Go.Am
open Go.Proofs Go.RowKit
set_option linter.unusedVariables false
set_option linter.unusedSimpArgs false
def knownL:List Int:=[123,97,98,99,100,68,103,71,104,72,105,108,110,78,112,80,113,81,114,115,116,84,119,120,121,61,58]
def knownA:List AV→Option AV
 | [.int .u8 c]=>some (.bool (knownL.any fun d=>decide (d=c)))
 | _=>none
set_option maxHeartbeats 16000000 in
set_option maxRecDepth 100000 in
theorem known_walk (c:Int) (w:World):Calls Tryz.prog 105 #[.int .u8 c] w fun e w'=>e=.returned (.bool (knownL.any fun d=>decide (d=c)))∧∃ o,w'=w.alloc o:=by
 have kc:=fun (w:World) (C:Array Value) (n c:Nat)=>Lib.run_convert_bytes_const (P:=Tryz.prog) w 54 5 C n c Tryz.underlying54 Tryz.underlying5
 have k0:=fun j=>World.cell?_alloc_mark w #[Value.int .u8 123,Value.int .u8 97,Value.int .u8 98,Value.int .u8 99,Value.int .u8 100,Value.int .u8 68,Value.int .u8 103,Value.int .u8 71,Value.int .u8 104,Value.int .u8 72,Value.int .u8 105,Value.int .u8 108,Value.int .u8 110,Value.int .u8 78,Value.int .u8 112,Value.int .u8 80,Value.int .u8 113,Value.int .u8 81,Value.int .u8 114,Value.int .u8 115,Value.int .u8 116,Value.int .u8 84,Value.int .u8 119,Value.int .u8 120,Value.int .u8 121,Value.int .u8 61,Value.int .u8 58] 5 (27,28) j
 go_enter Tryz.func105,Tryz.ntmps105
 go_wp2
 refine wp_loop_rounds 28 ?_
 rw [rounds_succ]
 by_cases h0:(123:Int)=c
 ·subst h0
  go_wp2
  go_ret
  exact ⟨rfl,_,rfl⟩
 go_wp2
 rw [rounds_succ]
 by_cases h1:(97:Int)=c
 ·subst h1
  go_wp2
  go_ret
  exact ⟨rfl,_,rfl⟩
 go_wp2
 rw [rounds_succ]
 by_cases h2:(98:Int)=c
 ·subst h2
  go_wp2
  go_ret
  exact ⟨rfl,_,rfl⟩
 go_wp2
 rw [rounds_succ]
 by_cases h3:(99:Int)=c
 ·subst h3
  go_wp2
  go_ret
  exact ⟨rfl,_,rfl⟩
 go_wp2
 rw [rounds_succ]
 by_cases h4:(100:Int)=c
 ·subst h4
  go_wp2
  go_ret
  exact ⟨rfl,_,rfl⟩
 go_wp2
 rw [rounds_succ]
 by_cases h5:(68:Int)=c
 ·subst h5
  go_wp2
  go_ret
  exact ⟨rfl,_,rfl⟩
 go_wp2
 rw [rounds_succ]
 by_cases h6:(103:Int)=c
 ·subst h6
  go_wp2
  go_ret
  exact ⟨rfl,_,rfl⟩
 go_wp2
 rw [rounds_succ]
 by_cases h7:(71:Int)=c
 ·subst h7
  go_wp2
  go_ret
  exact ⟨rfl,_,rfl⟩
 go_wp2
 rw [rounds_succ]
 by_cases h8:(104:Int)=c
 ·subst h8
  go_wp2
  go_ret
  exact ⟨rfl,_,rfl⟩
 go_wp2
 rw [rounds_succ]
 by_cases h9:(72:Int)=c
 ·subst h9
  go_wp2
  go_ret
  exact ⟨rfl,_,rfl⟩
 go_wp2
 rw [rounds_succ]
 by_cases h10:(105:Int)=c
 ·subst h10
  go_wp2
  go_ret
  exact ⟨rfl,_,rfl⟩
 go_wp2
 rw [rounds_succ]
 by_cases h11:(108:Int)=c
 ·subst h11
  go_wp2
  go_ret
  exact ⟨rfl,_,rfl⟩
 go_wp2
 rw [rounds_succ]
 by_cases h12:(110:Int)=c
 ·subst h12
  go_wp2
  go_ret
  exact ⟨rfl,_,rfl⟩
 go_wp2
 rw [rounds_succ]
 by_cases h13:(78:Int)=c
 ·subst h13
  go_wp2
  go_ret
  exact ⟨rfl,_,rfl⟩
 go_wp2
 rw [rounds_succ]
 by_cases h14:(112:Int)=c
 ·subst h14
  go_wp2
  go_ret
  exact ⟨rfl,_,rfl⟩
 go_wp2
 rw [rounds_succ]
 by_cases h15:(80:Int)=c
 ·subst h15
  go_wp2
  go_ret
  exact ⟨rfl,_,rfl⟩
 go_wp2
 rw [rounds_succ]
 by_cases h16:(113:Int)=c
 ·subst h16
  go_wp2
  go_ret
  exact ⟨rfl,_,rfl⟩
 go_wp2
 rw [rounds_succ]
 by_cases h17:(81:Int)=c
 ·subst h17
  go_wp2
  go_ret
  exact ⟨rfl,_,rfl⟩
 go_wp2
 rw [rounds_succ]
 by_cases h18:(114:Int)=c
 ·subst h18
  go_wp2
  go_ret
  exact ⟨rfl,_,rfl⟩
 go_wp2
 rw [rounds_succ]
 by_cases h19:(115:Int)=c
 ·subst h19
  go_wp2
  go_ret
  exact ⟨rfl,_,rfl⟩
 go_wp2
 rw [rounds_succ]
 by_cases h20:(116:Int)=c
 ·subst h20
  go_wp2
  go_ret
  exact ⟨rfl,_,rfl⟩
 go_wp2
 rw [rounds_succ]
 by_cases h21:(84:Int)=c
 ·subst h21
  go_wp2
  go_ret
  exact ⟨rfl,_,rfl⟩
 go_wp2
 rw [rounds_succ]
 by_cases h22:(119:Int)=c
 ·subst h22
  go_wp2
  go_ret
  exact ⟨rfl,_,rfl⟩
 go_wp2
 rw [rounds_succ]
 by_cases h23:(120:Int)=c
 ·subst h23
  go_wp2
  go_ret
  exact ⟨rfl,_,rfl⟩
 go_wp2
 rw [rounds_succ]
 by_cases h24:(121:Int)=c
 ·subst h24
  go_wp2
  go_ret
  exact ⟨rfl,_,rfl⟩
 go_wp2
 rw [rounds_succ]
 by_cases h25:(61:Int)=c
 ·subst h25
  go_wp2
  go_ret
  exact ⟨rfl,_,rfl⟩
 go_wp2
 rw [rounds_succ]
 by_cases h26:(58:Int)=c
 ·subst h26
  go_wp2
  go_ret
  exact ⟨rfl,_,rfl⟩
 go_wp2
 rw [rounds_succ]
 go_wp2
 go_ret
 refine ⟨?_,_,rfl⟩
 simp [knownL,h0,h1,h2,h3,h4,h5,h6,h7,h8,h9,h10,h11,h12,h13,h14,h15,h16,h17,h18,h19,h20,h21,h22,h23,h24,h25,h26]
theorem knownA_ok {C:Cfg} (hP:C.P=Tryz.prog) {gl:Nat→Option (List AV)} (_:∀ g,C.glob g=gl g):SumOk C 105 knownA:=by
 intro W0 S H args args' v hI hW hs ha h
 unfold knownA at h
 split at h
 ·rename_i c
  injection h with h
  subst h
  obtain ⟨l⟩:=args'
  match l,hs with
  | [u],_ =>
   have h1:=ha 0 _ u rfl rfl
   cases h1
   rw [hP]
   refine (known_walk c S.w).mono ?_
   rintro e w' ⟨rfl,o,rfl⟩
   exact ⟨_,S.grow o,rfl,rfl,Ext.grow hI o,hI.grow o,.bool _⟩
 ·cases h
end Go.Am
