/- Proved: whatever the input, paternosterlaw25.NoticesKnown returns true, and the input reads as it did (the facts). -/
import Derived.Test.YtmmhmcplegpenaaGreatDoorTopNoticesKnownFinPlace
import Derived.Test.YtmmhmcplegpenaaGreatDoorTopNoticesKnownFunfollowed
import Derived.Test.YtmmhmcplegpenaaGreatDoorTopNoticesKnownFrecurses
import Derived.Test.YtmmhmcplegpenaaGreatDoorTopNoticesKnownFvarsNamed
import Derived.ProofKit
import Derived.JoinedOf
namespace Go.Proofs.YtmmhmcplegpenaaGreatDoor
open Go Go.Y Go.ChangeShapes Go.WideShapes Go.ChangeAt Go.RowKit
set_option linter.unusedSimpArgs false
set_option linter.unusedVariables false
theorem Aus:joinedFacts Tryz.prog 9 Tryz.f9 Rows.noticesKnownSpec Rows.noticesKnownRow=true:=by
 unfold joinedFacts
 rw [Alh,Y5,Ahs,Adw]
 kernel_rfl
end Go.Proofs.YtmmhmcplegpenaaGreatDoor
