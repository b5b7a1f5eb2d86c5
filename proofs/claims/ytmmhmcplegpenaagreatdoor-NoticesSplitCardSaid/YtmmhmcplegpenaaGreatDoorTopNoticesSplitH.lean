/- Proved: whatever the input, paternosterlaw25.NoticesSplit returns true, and the input reads as it did (the row). -/
import Derived.Test.YtmmhmcplegpenaaGreatDoorTopNoticesSplitL
import Derived.Test.YtmmhmcplegpenaaGreatDoorTopNoticesSplitC
import Derived.ProofKit
namespace Go.Proofs.YtmmhmcplegpenaaGreatDoor
open Go Go.Y Go.ChangeShapes Go.WideShapes Go.ChangeAt Go.RowKit
set_option linter.unusedSimpArgs false
set_option linter.unusedVariables false
theorem N0:Rows.NoticesSplitSaid :=
 OpenClaim.holds_of_wide 5 Tryz.f5 rfl rfl rfl rfl rfl rfl rfl ⟨rfl,rfl,rfl,rfl,rfl⟩ rfl rfl rfl rfl rfl (by kernel_rfl) Tryz.func5 Aln
  (dT (by kernel_rfl)) (by unfold Func.isWrapper;rw [if_neg (dF (by kernel_rfl))];exact ⟨rfl,rfl⟩)
  (fun os started H enc _=>M9 os started H enc)
end Go.Proofs.YtmmhmcplegpenaaGreatDoor
