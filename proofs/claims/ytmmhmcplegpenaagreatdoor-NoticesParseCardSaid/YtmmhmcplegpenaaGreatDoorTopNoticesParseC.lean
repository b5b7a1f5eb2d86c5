/- Proved: whatever the input, paternosterlaw25.NoticesParse returns true, and the input reads as it did (the facts). -/
import Derived.Test.YtmmhmcplegpenaaGreatDoorTopNoticesParseFinPlace
import Derived.Test.YtmmhmcplegpenaaGreatDoorTopNoticesParseFunfollowed
import Derived.Test.YtmmhmcplegpenaaGreatDoorTopNoticesParseFrecurses
import Derived.Test.YtmmhmcplegpenaaGreatDoorTopNoticesParseFvarsNamed
import Derived.ProofKit
import Derived.JoinedOf
namespace Go.Proofs.YtmmhmcplegpenaaGreatDoor
open Go Go.Y Go.ChangeShapes Go.WideShapes Go.ChangeAt Go.RowKit
set_option linter.unusedSimpArgs false
set_option linter.unusedVariables false
theorem Ahi:joinedFacts Tryz.prog 8 Tryz.f8 Rows.noticesParseSpec Rows.noticesParseRow=true:=by
 unfold joinedFacts
 rw [Acn,Um,Zw,Xn]
 kernel_rfl
end Go.Proofs.YtmmhmcplegpenaaGreatDoor
