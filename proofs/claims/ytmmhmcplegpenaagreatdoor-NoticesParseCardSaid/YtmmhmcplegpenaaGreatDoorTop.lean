/- Opening the arguments. -/
import Derived.Test.YtmmhmcplegpenaaGreatDoorJ1
import Derived.Test.YtmmhmcplegpenaaGreatDoorJ13
namespace Go.Proofs.YtmmhmcplegpenaaGreatDoor
open Go Go.Y Go.ChangeShapes Go.WideShapes Go.ChangeAt Go.RowKit
set_option linter.unusedSimpArgs false
set_option linter.unusedVariables false
set_option maxRecDepth 100000
theorem tokB:TOK Tryz.prog 4 ⟨.bool,1,1,.bool false⟩:=⟨by kernel_rfl,by kernel_rfl,by kernel_rfl⟩
theorem laidOut:laidOutB Tryz.prog=true:=by kernel_rfl
section
variable {H:Type} {enc:TypeId × Value→H} {w:World} {hd:Bool}
theorem open_s {P:Program} {W:World} {sp:Nat→Bool} {r:Go.Reach} {base t:Nat} {v:Value} {d:DataW H} {p:List MemPlace} (ht:tk P t=.str)
  (hv:Value.okWide P W r base t v) (h:DataW.Trod enc P w 0 sp hd t v d p):∃ s:List UInt8,v=.string (str s)∧s.length≤9223372036854775807:=by
 obtain ⟨b,rfl⟩:=okWide_string (H8 ht) hv
 obtain ⟨fuel,hf⟩:=h
 obtain ⟨b',h1,h2⟩:=trod_s ht hf
 simp only [Value.cells,List.cons.injEq,Value.string.injEq,and_true] at h1
 subst h1
 have hl:b.data.toList.length=b.size:=Array.length_toList
 exact ⟨b.data.toList,rfl,by rw [hl];exact h2⟩
end
theorem of_ret {w0 w:World} {e:Ending} (h:Cl w0 (G0 w0) [] (fun v=>v=.bool true) e w):∃ v,e=.returned v∧v=.bool true∧Below w0.heap.size w0 w:=by
 cases e with
 | returned v=>exact ⟨v,rfl,h.2,h.1.below⟩
 | panicked c=>exact h.elim
 | outgrown=>exact h.elim
end Go.Proofs.YtmmhmcplegpenaaGreatDoor
