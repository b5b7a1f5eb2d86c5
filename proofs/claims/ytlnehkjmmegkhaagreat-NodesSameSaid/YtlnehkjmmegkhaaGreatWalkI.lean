/- The walks, part I. -/
import Derived.Test.YtlnehkjmmegkhaaGreatWalkH
namespace Go.Proofs.YtlnehkjmmegkhaaGreat
open Go Go.Y Go.Proofs
set_option linter.unusedSimpArgs false
set_option linter.unusedVariables false
end Go.Proofs.YtlnehkjmmegkhaaGreat
