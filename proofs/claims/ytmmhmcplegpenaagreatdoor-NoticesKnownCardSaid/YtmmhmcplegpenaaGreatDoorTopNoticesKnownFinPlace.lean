/- What the program reaches: inPlace. -/
import Derived.Test.YtmmhmcplegpenaaGreatDoorRows
import Derived.Test.YtmmhmcplegpenaaGreatDoorYC
import Derived.ProofKit
namespace Go.Proofs.YtmmhmcplegpenaaGreatDoor
open Go Go.Y Go.ChangeShapes Go.WideShapes Go.ChangeAt Go.RowKit
set_option linter.unusedSimpArgs false
set_option linter.unusedVariables false
theorem Alh:(Rows.noticesKnownRow.inPlace==Tryz.prog.inPlace 9)=true:=by kernel_rfl
end Go.Proofs.YtmmhmcplegpenaaGreatDoor
