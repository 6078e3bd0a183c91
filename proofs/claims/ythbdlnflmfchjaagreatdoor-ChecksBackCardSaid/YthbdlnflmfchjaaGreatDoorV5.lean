/- The walk of the specification's Text. -/
import Derived.Test.YthbdlnflmfchjaaGreatDoorV4
import Derived.Laws.Cover4
set_option linter.unusedVariables false
set_option linter.unusedSimpArgs false
namespace Go.Proofs.YthbdlnflmfchjaaGreatDoor
open Go.RowKit Go.Proofs.Uni Go.Proofs.StrIt
def isT (s:ByteArray):Bool:=decide (cat (runes s.data.toList)=s.data.toList) && !(runes s.data.toList).any ctl
end Go.Proofs.YthbdlnflmfchjaaGreatDoor
