/- Proved: whatever the input, paternosterlaw25.NoticesApply returns true, and the input reads as it did (the facts). -/
import Derived.Test.YtmmhmcplegpenaaGreatDoorTopNoticesApplyFinPlace
import Derived.Test.YtmmhmcplegpenaaGreatDoorTopNoticesApplyFunfollowed
import Derived.Test.YtmmhmcplegpenaaGreatDoorTopNoticesApplyFrecurses
import Derived.Test.YtmmhmcplegpenaaGreatDoorTopNoticesApplyFvarsNamed
import Derived.ProofKit
import Derived.JoinedOf
namespace Go.Proofs.YtmmhmcplegpenaaGreatDoor
open Go Go.Y Go.ChangeShapes Go.WideShapes Go.ChangeAt Go.RowKit
set_option linter.unusedSimpArgs false
set_option linter.unusedVariables false
theorem Alf:joinedFacts Tryz.prog 4 Tryz.f4 Rows.noticesApplySpec Rows.noticesApplyRow=true:=by
 unfold joinedFacts
 rw [Afq,Vk,Abz,Zc]
 kernel_rfl
end Go.Proofs.YtmmhmcplegpenaaGreatDoor
