/- Own lemmas. -/
import Derived.Test.YtinhmakomfennaaGreatJ16
set_option linter.unusedSimpArgs false
set_option linter.unusedVariables false
set_option linter.unusedSectionVars false
set_option maxRecDepth 100000
namespace Go.V
theorem t7:okB (evF Aeo 1000 7 [] ⟨.lf,0⟩)=true:=kR
theorem live_ok:LiveP:=live_if t7
end Go.V
