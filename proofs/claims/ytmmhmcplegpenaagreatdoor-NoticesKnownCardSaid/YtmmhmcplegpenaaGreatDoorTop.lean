/- Opening the arguments. -/
import Derived.Test.YtmmhmcplegpenaaGreatDoorJ1
import Derived.Test.YtmmhmcplegpenaaGreatDoorJ14
namespace Go.Proofs.YtmmhmcplegpenaaGreatDoor
open Go Go.Y Go.ChangeShapes Go.WideShapes Go.ChangeAt Go.RowKit
set_option linter.unusedSimpArgs false
set_option linter.unusedVariables false
set_option maxRecDepth 100000
theorem tokB:TOK Tryz.prog 4 ⟨.bool,1,1,.bool false⟩:=⟨by kernel_rfl,by kernel_rfl,by kernel_rfl⟩
theorem laidOut:laidOutB Tryz.prog=true:=by kernel_rfl
section
variable {H:Type} {enc:TypeId × Value→H} {w:World} {hd:Bool}
end
theorem of_ret {w0 w:World} {e:Ending} (h:B5 w0 (G0 w0) [] (fun v=>v=.bool true) e w):∃ v,e=.returned v∧v=.bool true∧Below w0.heap.size w0 w:=by
 cases e with
 | returned v=>exact ⟨v,rfl,h.2,h.1.below⟩
 | panicked c=>exact h.elim
 | outgrown=>exact h.elim
end Go.Proofs.YtmmhmcplegpenaaGreatDoor
