/- Proved: whatever the input, paternosterlaw25.NoticesErrors returns true, and the input reads as it did (the facts). -/
import Derived.Test.YtmmhmcplegpenaaGreatDoorTopNoticesErrorsFinPlace
import Derived.Test.YtmmhmcplegpenaaGreatDoorTopNoticesErrorsFunfollowed
import Derived.Test.YtmmhmcplegpenaaGreatDoorTopNoticesErrorsFrecurses
import Derived.Test.YtmmhmcplegpenaaGreatDoorTopNoticesErrorsFvarsNamed
import Derived.ProofKit
import Derived.JoinedOf
namespace Go.Proofs.YtmmhmcplegpenaaGreatDoor
open Go Go.Y Go.ChangeShapes Go.WideShapes Go.ChangeAt Go.RowKit
set_option linter.unusedSimpArgs false
set_option linter.unusedVariables false
theorem Ajd:joinedFacts Tryz.prog 6 Tryz.f6 Rows.noticesErrorsSpec Rows.noticesErrorsRow=true:=by
 unfold joinedFacts
 rw [Adx,Vd,Aaw,Yi]
 kernel_rfl
end Go.Proofs.YtmmhmcplegpenaaGreatDoor
