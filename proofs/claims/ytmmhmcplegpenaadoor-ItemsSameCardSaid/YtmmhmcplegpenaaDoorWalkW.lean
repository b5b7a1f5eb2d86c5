/- The walks, part W. -/
import Derived.Test.YtmmhmcplegpenaaDoorWalkL
namespace Go.Proofs.YtmmhmcplegpenaaDoor
open Go Go.Y Go.Proofs
set_option linter.unusedSimpArgs false
set_option linter.unusedVariables false
end Go.Proofs.YtmmhmcplegpenaaDoor
