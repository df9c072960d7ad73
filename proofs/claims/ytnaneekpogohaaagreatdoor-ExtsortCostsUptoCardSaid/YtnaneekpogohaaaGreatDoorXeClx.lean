/-
  The law of ExtsortCosts in the machine.
-/
import Derived.Test.YtnaneekpogohaaaGreatDoorXeCox
import Derived.Test.YtnaneekpogohaaaGreatDoorXeAwx
import Derived.Test.YtnaneekpogohaaaGreatDoorXeGLx
namespace Go.Am
set_option linter.unusedSimpArgs false
set_option linter.unusedVariables false
set_option maxRecDepth 100000
theorem Costs_law {x : AV} {l : List Int} (hx : Sl 1 x (l.map (AV.int .i64))) (hll : l.length ≤ 1048576) (mem w : Int) :
    ∃ H',C_L24_ExtsortCosts [x,.agg [.int .i64 mem,.int .i64 w]] []=some (.bool true,H'):=by
 rw [F_L24_ExtsortCosts_eq]
 unfold F_L24_ExtsortCosts
 have hxl:=Sl.len hx 3
 rw [List.length_map] at hxl
 by_cases h:400 < l.length
 ·have c:decide ((400:Int) < (l.length:Int))=true:=by rw [decide_eq_true_eq];omega
  refine ⟨Hz mem w,?_⟩
  simp only [abox_z,go_sem,hxl,c,awake24_ok]
 ·have c:decide ((400:Int) < (l.length:Int))=false:=by rw [decide_eq_false_iff_not];omega
  have e1:=cost_flat hx (by omega) mem w (Hz mem w)
  have e2:=rcost_flat hx (by omega) mem w (Hz mem w)
  have b1:((costZ mem w l).1 == (costZ mem w l).1)=true:=beq_self_eq_true _
  have b2:((costZ mem w l).2 == (costZ mem w l).2)=true:=beq_self_eq_true _
  refine ⟨Hz mem w,?_⟩
  simp only [abox_z,go_sem,hxl,c,L24_ExtsortCosts_J1_eq,hza,e1,e2,b1,b2,awake24_ok,List.getElem?_cons_zero,List.getElem?_cons_succ]
end Go.Am
