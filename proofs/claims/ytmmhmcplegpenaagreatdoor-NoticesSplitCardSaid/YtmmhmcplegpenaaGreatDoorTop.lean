/- Opening the arguments. -/
import Derived.Test.YtmmhmcplegpenaaGreatDoorJ1
import Derived.Test.YtmmhmcplegpenaaGreatDoorJ13
namespace Go.Proofs.YtmmhmcplegpenaaGreatDoor
open Go Go.Y Go.ChangeShapes Go.WideShapes Go.ChangeAt Go.RowKit
set_option linter.unusedSimpArgs false
set_option linter.unusedVariables false
set_option maxRecDepth 100000
theorem tokB:TOK Tryz.prog 4 ⟨.bool,1,1,.bool false⟩:=⟨by kernel_rfl,by kernel_rfl,by kernel_rfl⟩
theorem laidOut:laidOutB Tryz.prog=true:=by kernel_rfl
section
variable {H:Type} {enc:TypeId × Value→H} {w:World} {hd:Bool}
theorem open_i {P:Program} {W:World} {sp:Nat→Bool} {r:Go.Reach} {base t:Nat} {k:IntKind} {v:Value} {d:DataW H} {p:List MemPlace} (ht:tk P t=.int k)
  (hv:Value.okWide P W r base t v) (h:DataW.Trod enc P w 0 sp hd t v d p):∃ n,v=.int k n∧Au k n:=by
 obtain ⟨n,rfl⟩:=okWide_int (Bo ht) hv
 obtain ⟨fuel,hf⟩:=h
 obtain ⟨m,h1,h2⟩:=Ie ht hf
 simp only [Value.cells,List.cons.injEq,Value.int.injEq,true_and,and_true] at h1
 exact ⟨n,rfl,by rw [h1];exact h2⟩
end
theorem Tt {P:Program} {w:World} {r:Go.Reach} {base t:Nat} {v:Value} {fs:List (Nat × Nat × Nat)} (ht:tk P t=.struct fs) (h:Value.okWide P w r base t v):∃ cs,v=.agg cs:=by
 obtain ⟨ff,hu,_⟩:=Hg ht
 simp only [Value.okWide,hu] at h
 obtain ⟨cs,h1,_⟩:=h
 exact ⟨cs,h1⟩
theorem of_ret {w0 w:World} {e:Ending} (h:Bu w0 (G0 w0) [] (fun v=>v=.bool true) e w):∃ v,e=.returned v∧v=.bool true∧Below w0.heap.size w0 w:=by
 cases e with
 | returned v=>exact ⟨v,rfl,h.2,h.1.below⟩
 | panicked c=>exact h.elim
 | outgrown=>exact h.elim
end Go.Proofs.YtmmhmcplegpenaaGreatDoor
