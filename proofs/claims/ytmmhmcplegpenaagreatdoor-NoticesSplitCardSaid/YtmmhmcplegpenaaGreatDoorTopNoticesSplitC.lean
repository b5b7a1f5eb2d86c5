/- Proved: whatever the input, paternosterlaw25.NoticesSplit returns true, and the input reads as it did (the facts). -/
import Derived.Test.YtmmhmcplegpenaaGreatDoorTopNoticesSplitFinPlace
import Derived.Test.YtmmhmcplegpenaaGreatDoorTopNoticesSplitFunfollowed
import Derived.Test.YtmmhmcplegpenaaGreatDoorTopNoticesSplitFrecurses
import Derived.Test.YtmmhmcplegpenaaGreatDoorTopNoticesSplitFvarsNamed
import Derived.ProofKit
import Derived.JoinedOf
namespace Go.Proofs.YtmmhmcplegpenaaGreatDoor
open Go Go.Y Go.ChangeShapes Go.WideShapes Go.ChangeAt Go.RowKit
set_option linter.unusedSimpArgs false
set_option linter.unusedVariables false
theorem Aln:joinedFacts Tryz.prog 5 Tryz.f5 Rows.noticesSplitSpec Rows.noticesSplitRow=true:=by
 unfold joinedFacts
 rw [Afq,Vi,Ack,Zh]
 kernel_rfl
end Go.Proofs.YtmmhmcplegpenaaGreatDoor
