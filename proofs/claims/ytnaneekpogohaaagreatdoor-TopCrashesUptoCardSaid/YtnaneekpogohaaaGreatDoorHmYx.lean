/- THE ABSTRACT MACHINE -/
import Derived.Test.YtnaneekpogohaaaGreatDoorHmSx
namespace Go.Am
noncomputable section
structure Kn where
 fl:FuncId->List AV->Option AV
 ef:FuncId->Option (List AV->Hp->Option (AV×Hp))
def k0:Kn:=⟨fun _ _=>none,fun _=>none⟩
end
end Go.Am
