/- The walks, part E. -/
import Derived.Test.YtokeofoemjeleaaDoorWalkC
namespace Go.Proofs.YtokeofoemjeleaaDoor
open Go Go.Y Go.Proofs
set_option linter.unusedSimpArgs false
set_option linter.unusedVariables false

end Go.Proofs.YtokeofoemjeleaaDoor
