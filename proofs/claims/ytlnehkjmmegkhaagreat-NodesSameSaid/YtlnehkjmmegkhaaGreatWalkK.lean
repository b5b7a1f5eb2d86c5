/- The walks, part K. -/
import Derived.Test.YtlnehkjmmegkhaaGreatWalkJ
namespace Go.Proofs.YtlnehkjmmegkhaaGreat
open Go Go.Y Go.Proofs
set_option linter.unusedSimpArgs false
set_option linter.unusedVariables false
end Go.Proofs.YtlnehkjmmegkhaaGreat
