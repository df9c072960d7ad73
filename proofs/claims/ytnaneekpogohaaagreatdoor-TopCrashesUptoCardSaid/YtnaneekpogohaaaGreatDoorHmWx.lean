/- THE ABSTRACT MACHINE -/
import Derived.Test.YtnaneekpogohaaaGreatDoorHmSx
namespace Go.Am
section
variable {α β:Type}
end
abbrev A1:=AV->Hp->Z4
abbrev A2:=AV->AV->Hp->Z4
abbrev A3:=AV->AV->AV->Hp->Z4
abbrev A4:=AV->AV->AV->AV->Hp->Z4
abbrev A5:=AV->AV->AV->AV->AV->Hp->Z4
abbrev A6:=AV->AV->AV->AV->AV->AV->Hp->Z4
abbrev A7:=AV->AV->AV->AV->AV->AV->AV->Hp->Z4
end Go.Am
