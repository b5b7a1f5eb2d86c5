/- The walks, part N. -/
import Derived.Test.YtlnehkjmmegkhaaGreatWalkM
namespace Go.Proofs.YtlnehkjmmegkhaaGreat
open Go Go.Y Go.Proofs
set_option linter.unusedSimpArgs false
set_option linter.unusedVariables false
end Go.Proofs.YtlnehkjmmegkhaaGreat
