/- Proved: whatever the input, paternosterlaw25.NoticesApply returns true, and the input reads as it did (the row). -/
import Derived.Test.YtmmhmcplegpenaaGreatDoorTopNoticesApplyL
import Derived.Test.YtmmhmcplegpenaaGreatDoorTopNoticesApplyC
import Derived.ProofKit
namespace Go.Proofs.YtmmhmcplegpenaaGreatDoor
open Go Go.Y Go.ChangeShapes Go.WideShapes Go.ChangeAt Go.RowKit
set_option linter.unusedSimpArgs false
set_option linter.unusedVariables false
theorem N3:Rows.NoticesApplySaid :=
 OpenClaim.holds_of_wide 4 Tryz.f4 rfl rfl rfl rfl rfl rfl rfl ⟨rfl,rfl,rfl,rfl,rfl⟩ rfl rfl rfl rfl rfl (by kernel_rfl) Tryz.func4 Alf
  (dT (by kernel_rfl)) (by unfold Func.isWrapper;rw [if_neg (dF (by kernel_rfl))];exact ⟨rfl,rfl⟩)
  (fun os started H enc _=>Nc os started H enc)
end Go.Proofs.YtmmhmcplegpenaaGreatDoor
