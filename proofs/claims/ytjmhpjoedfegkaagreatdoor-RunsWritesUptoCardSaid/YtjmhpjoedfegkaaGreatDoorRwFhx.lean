/- The reference's seal -/
import Derived.Test.YtjmhpjoedfegkaaGreatDoorRwFix
import Derived.Test.YtjmhpjoedfegkaaGreatDoorRwFex
namespace Go.Am
noncomputable def sealE:EffFn:=⟨Sg.C_R17_seal,λargs=>Zkj Sg.cfg 132 args⟩
theorem ZxB {C:Cfg}{gl:Nat->Option (List AV)}(hP:C.P=Go.Proofs.Tryz.prog)(_:∀ g,C.glob g=gl g):Bw C 132 sealE:=by
 intro W0 S H H' args args' v hI hW hs ha h;have hg:GlobOk Sg.cfg S:=λg cs h=>by cases h
 have:=aK (W0:=W0) Sg.cfg_ok 132 args H H' v h S args' hI hg hs ha;rw[hP];exact this
theorem ZxA (p0:AV)(H:Hp):sealE.run [p0] H=Sg.F_R17_seal p0 H:=Sg.F_R17_seal_eq p0 H
end Go.Am
