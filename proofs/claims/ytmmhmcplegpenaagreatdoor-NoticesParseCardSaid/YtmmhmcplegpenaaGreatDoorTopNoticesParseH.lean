/- Proved: whatever the input, paternosterlaw25.NoticesParse returns true, and the input reads as it did (the row). -/
import Derived.Test.YtmmhmcplegpenaaGreatDoorTopNoticesParseL
import Derived.Test.YtmmhmcplegpenaaGreatDoorTopNoticesParseC
import Derived.ProofKit
namespace Go.Proofs.YtmmhmcplegpenaaGreatDoor
open Go Go.Y Go.ChangeShapes Go.WideShapes Go.ChangeAt Go.RowKit
set_option linter.unusedSimpArgs false
set_option linter.unusedVariables false
theorem Nz:Rows.NoticesParseSaid :=
 OpenClaim.holds_of_wide 8 Tryz.f8 rfl rfl rfl rfl rfl rfl rfl ⟨rfl,rfl,rfl,rfl,rfl⟩ rfl rfl rfl rfl rfl (by kernel_rfl) Tryz.func8 Ahi
  (dT (by kernel_rfl)) (by unfold Func.isWrapper;rw [if_neg (dF (by kernel_rfl))];exact ⟨rfl,rfl⟩)
  (fun os started H enc _=>Nb os started H enc)
end Go.Proofs.YtmmhmcplegpenaaGreatDoor
