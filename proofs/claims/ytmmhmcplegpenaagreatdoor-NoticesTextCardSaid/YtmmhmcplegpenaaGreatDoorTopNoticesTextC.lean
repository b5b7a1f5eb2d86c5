/- Proved: whatever the input, paternosterlaw25.NoticesText returns true, and the input reads as it did (the facts). -/
import Derived.Test.YtmmhmcplegpenaaGreatDoorTopNoticesTextFinPlace
import Derived.Test.YtmmhmcplegpenaaGreatDoorTopNoticesTextFunfollowed
import Derived.Test.YtmmhmcplegpenaaGreatDoorTopNoticesTextFrecurses
import Derived.Test.YtmmhmcplegpenaaGreatDoorTopNoticesTextFvarsNamed
import Derived.ProofKit
import Derived.JoinedOf
namespace Go.Proofs.YtmmhmcplegpenaaGreatDoor
open Go Go.Y Go.ChangeShapes Go.WideShapes Go.ChangeAt Go.RowKit
set_option linter.unusedSimpArgs false
set_option linter.unusedVariables false
theorem Afr:joinedFacts Tryz.prog 7 Tryz.f7 Rows.noticesTextSpec Rows.noticesTextRow=true:=by
 unfold joinedFacts
 rw [Abb,To,Yz,Wm]
 kernel_rfl
end Go.Proofs.YtmmhmcplegpenaaGreatDoor
