/-
  tempfile.owned.forget, told as a function of the machine by the machine itself, in the configuration of XeFg.
-/
import Derived.Test.YtnaneekpogohaaaGreatDoorXeFgx
import Derived.Test.YtnaneekpogohaaaGreatDoorHmOx
namespace Go.Am
set_option linter.unusedVariables false
theorem callw_frm (C:Cfg) (f:FuncId) (args:List AV):Frm (callw C f args):=fun H v H' h=>by
 obtain ⟨n,hn⟩:=callw_some.1 h
 obtain ⟨h1,h2⟩:=call_framed C n f args H v H' hn
 exact ⟨h1,fun o ho hf=>⟨(h2 o ho hf).1,fun x=>callw_some.2 ⟨n,(h2 o ho hf).2 x⟩⟩⟩
noncomputable def forgetE:EffFn:=⟨Fg.C_tempfile_owned_forget,fun args=>callw_frm Fg.cfg 73 args⟩
theorem forgetE_ok {C:Cfg} {gl:Nat→Option (List AV)} (hP:C.P=Go.Proofs.Tryz.prog) (_:∀ g,C.glob g=gl g):EffOk C 73 forgetE:=by
 intro W0 S H H' args args' v hI hW hs ha h
 have hg:GlobOk Fg.cfg S:=fun g cs h=>by cases h
 have:=callw_sound (W0:=W0) Fg.cfg_ok 73 args H H' v h S args' hI hg hs ha
 rw [hP]
 exact this
end Go.Am
