/- The text of a valid tree is read as the tree again. -/
import Derived.Test.YtlnehkjmmegkhaaGreatWalkNX
namespace Go.Proofs.YtlnehkjmmegkhaaGreat
open Go Go.Y Go.Proofs
set_option linter.unusedVariables false
/-- A text stands at a place of a text. -/
def Pre (s : List UInt8) (i : Nat) (t : List UInt8) : Prop := ∃ r, s.drop i = t ++ r
section
variable {s : List UInt8} {i : Nat}
theorem Pre.left {t u : List UInt8} (h : Pre s i (t ++ u)) : Pre s i t := by
 obtain ⟨r, h⟩ := h; exact ⟨u ++ r, by rw [h, List.append_assoc]⟩
theorem Pre.right {t u : List UInt8} (h : Pre s i (t ++ u)) : Pre s (i + t.length) u := by
 obtain ⟨r, h⟩ := h; exact ⟨r, by rw [← List.drop_drop, h, List.append_assoc, List.drop_left]⟩
theorem Pre.pk {b : UInt8} {t : List UInt8} (h : Pre s i (b :: t)) : pkB s i = b := by
 obtain ⟨r, h⟩ := h
 have : s[i]? = some b := by rw [← List.head?_drop, h]; rfl
 exact pkB_some this
theorem Pre.len {t : List UInt8} (h : Pre s i t) : t.length + i ≤ s.length ∨ t = [] := by
 obtain ⟨r, h⟩ := h
 have h2 := congrArg List.length h
 rw [List.length_drop, List.length_append] at h2
 rcases Nat.eq_zero_or_pos t.length with h3 | h3
 ·exact Or.inr (List.eq_nil_of_length_eq_zero h3)
 ·left; omega
end
end Go.Proofs.YtlnehkjmmegkhaaGreat
