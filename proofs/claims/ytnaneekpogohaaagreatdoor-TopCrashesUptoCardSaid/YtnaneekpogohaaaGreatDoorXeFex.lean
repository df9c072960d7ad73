/- tempfile -/
import Derived.Test.YtnaneekpogohaaaGreatDoorXeFgx
import Derived.Test.YtnaneekpogohaaaGreatDoorHmOx
namespace Go.Am
theorem Zs8 (C:Cfg)(f:FuncId)(args:List AV):Xh (Zb C f args):=fun H v H' h=>by
 obtain⟨n,hn⟩:=Qv.1 h;obtain⟨h1,h2⟩:=NF C n f args H v H' hn;exact⟨h1,fun o ho hf=>⟨(h2 o ho hf).1,fun x=>Qv.2 ⟨n,(h2 o ho hf).2 x⟩⟩⟩
noncomputable def forgetE:EffFn:=⟨Fg.C_tempfile_owned_forget,fun args=>Zs8 Fg.cfg 73 args⟩
theorem Zqw {C:Cfg}{gl:Nat->Option (List AV)}(hP:C.P=Go.Proofs.Tryz.prog)(_:∀ g,C.glob g=gl g):FH C 73 forgetE:=by
 intro W0 S H H' args args' v hI hW hs ha h;have hg:GlobOk Fg.cfg S:=fun g cs h=>by cases h
 have:=ZfU (W0:=W0) Fg.cfg_ok 73 args H H' v h S args' hI hg hs ha;rw[hP];exact this
theorem Zqv (p0 p1:AV)(H:Hp):forgetE.run [p0,p1] H=Fg.F_tempfile_owned_forget p0 p1 H:=Fg.F_tempfile_owned_forget_eq p0 p1 H
end Go.Am
