/- Proved: whatever the input, paternosterlaw23.ItemsKnown returns true, and the input reads as it did (the facts). -/
import Derived.Test.YtmmhmcplegpenaaGreatDoorTopItemsKnownFinPlace
import Derived.Test.YtmmhmcplegpenaaGreatDoorTopItemsKnownFunfollowed
import Derived.Test.YtmmhmcplegpenaaGreatDoorTopItemsKnownFrecurses
import Derived.Test.YtmmhmcplegpenaaGreatDoorTopItemsKnownFvarsNamed
import Derived.ProofKit
import Derived.JoinedOf
namespace Go.Proofs.YtmmhmcplegpenaaGreatDoor
open Go Go.Y Go.ChangeShapes Go.WideShapes Go.ChangeAt Go.RowKit
set_option linter.unusedSimpArgs false
set_option linter.unusedVariables false
theorem V3:joinedFacts Tryz.prog 3 Tryz.f3 Rows.itemsKnownSpec Rows.itemsKnownRow=true:=by
 unfold joinedFacts
 rw [Th,Ny,Rq,Qa]
 kernel_rfl
end Go.Proofs.YtmmhmcplegpenaaGreatDoor
