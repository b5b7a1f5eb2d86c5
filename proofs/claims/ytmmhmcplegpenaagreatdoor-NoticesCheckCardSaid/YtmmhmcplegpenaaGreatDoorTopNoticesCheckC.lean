/- Proved: whatever the input, paternosterlaw25.NoticesCheck returns true, and the input reads as it did (the facts). -/
import Derived.Test.YtmmhmcplegpenaaGreatDoorTopNoticesCheckFinPlace
import Derived.Test.YtmmhmcplegpenaaGreatDoorTopNoticesCheckFunfollowed
import Derived.Test.YtmmhmcplegpenaaGreatDoorTopNoticesCheckFrecurses
import Derived.Test.YtmmhmcplegpenaaGreatDoorTopNoticesCheckFvarsNamed
import Derived.ProofKit
import Derived.JoinedOf
namespace Go.Proofs.YtmmhmcplegpenaaGreatDoor
open Go Go.Y Go.ChangeShapes Go.WideShapes Go.ChangeAt Go.RowKit
set_option linter.unusedSimpArgs false
set_option linter.unusedVariables false
theorem f10_closed:joinedFacts Tryz.prog 10 Tryz.f10 Rows.noticesCheckSpec Rows.noticesCheckRow=true:=by
 unfold joinedFacts
 rw [f10_inPlace,f10_unfollowed,f10_recurses,f10_varsNamed]
 kernel_rfl
end Go.Proofs.YtmmhmcplegpenaaGreatDoor
