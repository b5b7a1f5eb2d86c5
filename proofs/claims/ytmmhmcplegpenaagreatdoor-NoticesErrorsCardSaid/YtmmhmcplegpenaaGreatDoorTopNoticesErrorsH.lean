/- Proved: whatever the input, paternosterlaw25.NoticesErrors returns true, and the input reads as it did (the row). -/
import Derived.Test.YtmmhmcplegpenaaGreatDoorTopNoticesErrorsL
import Derived.Test.YtmmhmcplegpenaaGreatDoorTopNoticesErrorsC
import Derived.ProofKit
namespace Go.Proofs.YtmmhmcplegpenaaGreatDoor
open Go Go.Y Go.ChangeShapes Go.WideShapes Go.ChangeAt Go.RowKit
set_option linter.unusedSimpArgs false
set_option linter.unusedVariables false
theorem Nn:Rows.NoticesErrorsSaid :=
 OpenClaim.holds_of_wide 6 Tryz.f6 rfl rfl rfl rfl rfl rfl rfl ⟨rfl,rfl,rfl,rfl,rfl⟩ rfl rfl rfl rfl rfl (by kernel_rfl) Tryz.func6 Ajd
  (dT (by kernel_rfl)) (by unfold Func.isWrapper;rw [if_neg (dF (by kernel_rfl))];exact ⟨rfl,rfl⟩)
  (fun os started H enc _=>Mp os started H enc)
end Go.Proofs.YtmmhmcplegpenaaGreatDoor
