/- The walks, part D. -/
import Derived.Test.YtlnehkjmmegkhaaGreatWalkC
import Derived.Test.YtlnehkjmmegkhaaGreatPrt
namespace Go.Proofs.YtlnehkjmmegkhaaGreat
open Go Go.Y Go.Proofs
set_option linter.unusedSimpArgs false
set_option linter.unusedVariables false
end Go.Proofs.YtlnehkjmmegkhaaGreat
