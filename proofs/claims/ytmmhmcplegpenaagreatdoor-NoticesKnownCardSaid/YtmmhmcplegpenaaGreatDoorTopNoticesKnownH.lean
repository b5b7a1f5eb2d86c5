/- Proved: whatever the input, paternosterlaw25.NoticesKnown returns true, and the input reads as it did (the row). -/
import Derived.Test.YtmmhmcplegpenaaGreatDoorTopNoticesKnownL
import Derived.Test.YtmmhmcplegpenaaGreatDoorTopNoticesKnownC
import Derived.ProofKit
namespace Go.Proofs.YtmmhmcplegpenaaGreatDoor
open Go Go.Y Go.ChangeShapes Go.WideShapes Go.ChangeAt Go.RowKit
set_option linter.unusedSimpArgs false
set_option linter.unusedVariables false
theorem Qt:Rows.NoticesKnownSaid :=
 OpenClaim.holds_of_wide 9 Tryz.f9 rfl rfl rfl rfl rfl rfl rfl ⟨rfl,rfl,rfl,rfl,rfl⟩ rfl rfl rfl rfl rfl (by kernel_rfl) Tryz.func9 Aus
  (dT (by kernel_rfl)) (by unfold Func.isWrapper;rw [if_neg (dF (by kernel_rfl))];exact ⟨rfl,rfl⟩)
  (fun os started H enc _=>Pz os started H enc)
end Go.Proofs.YtmmhmcplegpenaaGreatDoor
