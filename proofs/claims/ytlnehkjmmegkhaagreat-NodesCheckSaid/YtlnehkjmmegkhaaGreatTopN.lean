/- Proved: how the arguments of the laws of nodes read. -/
import Derived.Test.YtlnehkjmmegkhaaGreatRows
import Derived.Test.YtlnehkjmmegkhaaGreatTab
import Derived.Test.YtlnehkjmmegkhaaGreatTab2
import Derived.Test.YtlnehkjmmegkhaaGreatWalkNM
import Derived.Test.YtlnehkjmmegkhaaGreatYB
namespace Go.Proofs.YtlnehkjmmegkhaaGreat
open Go Go.Y Go.ChangeShapes Go.WideShapes Go.ChangeAt Go.RowKit
set_option linter.unusedSimpArgs false
set_option linter.unusedVariables false
set_option maxRecDepth 100000
theorem own : ownKnob Tryz.prog.godebug = none := by kernel_rfl
theorem tokB : TOK Tryz.prog 4 ⟨.bool, 1, 1, .bool false⟩ := ⟨by kernel_rfl, by kernel_rfl, by kernel_rfl⟩
theorem laidOut : laidOutB Tryz.prog = true := by kernel_rfl
theorem agg_eq {cs : Array Value} {l : List Value} (h : cs.toList = l) : Value.agg cs = .agg l.toArray := by rw [← h]
section
variable {H : Type} {enc : TypeId × Value → H} {w : World} {hd : Bool}
theorem str_bytes (s : ByteArray) : str s.data.toList = s := by cases s; simp [str]
theorem trod_str {P : Program} {t : TypeId} {fuel : Nat} {cs : List Value} {x : DataW H × List MemPlace} (ht : tk P t = .str) (h : DataW.trod enc P w 0 (fun _ => true) hd fuel t cs = some x) : ∃ s : List UInt8, cs = [.string (str s)] ∧ s.length ≤ 9223372036854775807 := by
 obtain ⟨b, h1, h2⟩ := trod_s ht h
 exact ⟨b.data.toList, by rw [str_bytes]; exact h1, h2⟩
theorem okWide_agg {P : Program} {w : World} {r : Go.Reach} {base t : Nat} {v : Value} {fs : List (Nat × Nat × Nat)} (ht : tk P t = .struct fs) (h : Value.okWide P w r base t v) : ∃ cs, v = .agg cs := by
 obtain ⟨ff, hu, _⟩ := under_struct ht
 simp only [Value.okWide, hu] at h
 obtain ⟨cs, h1, _⟩ := h
 exact ⟨cs, h1⟩
end
theorem of_ret {w0 w : World} {e : Ending} (h : RetS w0 (G0 w0) [] (fun v => v = .bool true) e w) : ∃ v, e = .returned v ∧ v = .bool true ∧ Below w0.heap.size w0 w := by
 cases e with
 | returned v => exact ⟨v, rfl, h.2, h.1.below⟩
 | panicked c => exact h.elim
 | outgrown => exact h.elim
end Go.Proofs.YtlnehkjmmegkhaaGreat
