/- What the program reaches: unfollowed. -/
import Derived.Test.YtmmhmcplegpenaaGreatDoorRows
import Derived.Test.YtmmhmcplegpenaaGreatDoorYC
import Derived.ProofKit
namespace Go.Proofs.YtmmhmcplegpenaaGreatDoor
open Go Go.Y Go.ChangeShapes Go.WideShapes Go.ChangeAt Go.RowKit
set_option linter.unusedSimpArgs false
set_option linter.unusedVariables false
theorem Y5:(Rows.noticesKnownRow.unfollowed==Tryz.prog.unfollowed 9)=true:=by kernel_rfl
end Go.Proofs.YtmmhmcplegpenaaGreatDoor
