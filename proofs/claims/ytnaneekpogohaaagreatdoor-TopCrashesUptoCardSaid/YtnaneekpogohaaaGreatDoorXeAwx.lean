/- The example of chapter 24 -/
import Derived.Test.YtnaneekpogohaaaGreatDoorXeGx
import Derived.Test.YtnaneekpogohaaaGreatDoorHmYx
import Derived.Test.YtnaneekpogohaaaGreatDoorHmWx
namespace Go.Am
open Go.Proofs
set_option maxRecDepth 1000000
def sb:AV:=.str [98,49,50,51,52,53,54,55,56,57,48,49,50,51,52,53,54,55,56,57,48,49,50,51,52,53,54,55,56,57,48,49,50,51,52,53,54,55,56,57]
def sc:AV:=.str [99,49,50,51,52,53,54,55,56,57,48,49,50,51,52,53,54,55,56,57,48,49,50,51,52,53,54,55,56,57,48,49,50,51,52,53,54,55,56,57]
def se:AV:=.str [101,49,50,51,52,53,54,55,56,57,48,49,50,51,52,53,54,55,56,57,48,49,50,51,52,53,54,55,56,57,48,49,50,51,52,53,54,55,56,57]
end Go.Am
