/- Whatever the two items and the template, paternostertop.TopRendered returns true, and the input reads as it did. No conditions. -/
import Derived.Test.YtinhmakomfennaaGreatTopRendered
import Derived.Test.YtinhmakomfennaaGreatLf
set_option linter.unusedSimpArgs false
set_option linter.unusedVariables false
set_option linter.unusedSectionVars false
namespace Go.Proofs.YtinhmakomfennaaGreat
theorem topRendered_holds:Rows.TopRenderedSaid:=P6 V.live_ok
end Go.Proofs.YtinhmakomfennaaGreat
