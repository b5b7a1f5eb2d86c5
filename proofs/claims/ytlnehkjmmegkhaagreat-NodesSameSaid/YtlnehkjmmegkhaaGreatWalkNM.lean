/- The walks, part NM. -/
import Derived.Test.YtlnehkjmmegkhaaGreatWalkNL
namespace Go.Proofs.YtlnehkjmmegkhaaGreat
open Go Go.Y Go.Proofs
set_option linter.unusedSimpArgs false
set_option linter.unusedVariables false
theorem u8_natN {n : Int} (h : inKind .u8 n) : ∃ m : Nat, n = (m : Int) ∧ m < 256 := by
 have h1 : (0 : Int) ≤ n := h.1
 have h2 : n ≤ 255 := h.2
 exact ⟨n.toNat, by omega, by omega⟩
theorem valid_kid {y c : NT} (h : Valid y) (hc : c ∈ y.kids) : Valid c := by
 obtain ⟨i, hi⟩ := List.getElem?_of_mem hc
 have := sizes_kid hi
 exact ⟨(show Tr.Ok Alone 5 c from h.1.2 c hc).mono (by decide), by have := h.2; omega⟩
end Go.Proofs.YtlnehkjmmegkhaaGreat
