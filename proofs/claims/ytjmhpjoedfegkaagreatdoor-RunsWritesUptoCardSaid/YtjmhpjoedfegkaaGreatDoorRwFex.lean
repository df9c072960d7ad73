/- tempfile -/
import Derived.Test.YtjmhpjoedfegkaaGreatDoorRwFgx
import Derived.Test.YtjmhpjoedfegkaaGreatDoorHmOx
namespace Go.Am
theorem Zkj (C:Cfg)(f:FuncId)(args:List AV):Xr (Za C f args):=λH v H' h=>by
 obtain⟨n,hn⟩:=Qi.1 h;obtain⟨h1,h2⟩:=Ms C n f args H v H' hn;exact⟨h1,λo ho hf=>⟨(h2 o ho hf).1,λx=>Qi.2 ⟨n,(h2 o ho hf).2 x⟩⟩⟩
noncomputable def forgetE:EffFn:=⟨Fg.C_tempfile_owned_forget,λargs=>Zkj Fg.cfg 84 args⟩
theorem Zr3 {C:Cfg}{gl:Nat->Option (List AV)}(hP:C.P=Go.Proofs.Tryz.prog)(_:∀ g,C.glob g=gl g):Bw C 84 forgetE:=by
 intro W0 S H H' args args' v hI hW hs ha h;have hg:GlobOk Fg.cfg S:=λg cs h=>by cases h
 have:=aK (W0:=W0) Fg.cfg_ok 84 args H H' v h S args' hI hg hs ha;rw[hP];exact this
theorem Zr2 (p0 p1:AV)(H:Hp):forgetE.run [p0,p1] H=Fg.F_tempfile_owned_forget p0 p1 H:=Fg.F_tempfile_owned_forget_eq p0 p1 H
end Go.Am
