/- The walks, part ND. -/
import Derived.Test.YtlnehkjmmegkhaaGreatWalkNC
namespace Go.Proofs.YtlnehkjmmegkhaaGreat
open Go Go.Y Go.Proofs
set_option linter.unusedSimpArgs false
set_option linter.unusedVariables false
theorem keysNil : KeysOk [] := fun i j a b h ha => by simp at ha
theorem keysAdd {l : List NT} {x : NT} (h : KeysOk l) (hx : x.key = [] ∨ ∀ a ∈ l, a.key ≠ x.key) : KeysOk (l ++ [x]) := by
 intro i j a b hij ha hb hne
 have hj := lt_of_get hb
 rw [List.length_append, List.length_singleton] at hj
 rw [List.getElem?_append_left (by omega)] at ha
 rcases Nat.lt_or_ge j l.length with h1 | h1
 ·rw [List.getElem?_append_left h1] at hb; exact h i j a b hij ha hb hne
 ·have : j = l.length := by omega
  subst this
  have hb2 : x = b := by simpa using hb
  subst hb2
  rcases hx with hx | hx
  ·exact absurd hx hne
  ·exact hx a (List.mem_of_getElem? ha)
structure NsInv (d q0 q : Nat) (ps : List NT) : Prop where
 sz : Tr.sizes ps + q0 ≤ q
 ok : ∀ p ∈ ps, Tr.Ok Alone (d + 1) p
 keys : KeysOk ps
 le : ps.length ≤ 16
theorem NsInv.zero {d q : Nat} : NsInv d q q [] := ⟨by simp [Tr.sizes], by simp, keysNil, by simp⟩
theorem NsInv.add {d q0 q q' : Nat} {ps : List NT} (h : NsInv d q0 q ps) {p : NT} (hl : ¬ ps.length = 16) (hp : Tr.Ok Alone (d + 1) p) (hk : p.key = [] ∨ ∀ a ∈ ps, a.key ≠ p.key) (hs : p.size + q ≤ q') : NsInv d q0 q' (ps ++ [p]) :=
 ⟨by rw [Tr.sizes_append]; have := h.sz; simp only [Tr.sizes]; omega, fun c hc => by
  rcases List.mem_append.1 hc with hc | hc
  ·exact h.ok c hc
  ·rw [List.mem_singleton.1 hc]; exact hp, keysAdd h.keys hk, by rw [List.length_append, List.length_singleton]; have := h.le; omega⟩
theorem NsInv.one {d q0 q : Nat} {ps : List NT} (h : NsInv d q0 q ps) {p : NT} (hl : ¬ ps.length = 16) (hp : Tr.Ok Alone (d + 1) p) (hk : p.key = [] ∨ ∀ a ∈ ps, a.key ≠ p.key) (he : p.kids = []) : NsInv d q0 (q + 1) (ps ++ [p]) :=
 h.add hl hp hk (by rw [Tr.size_eq, he]; simp only [Tr.sizes]; omega)
end Go.Proofs.YtlnehkjmmegkhaaGreat
