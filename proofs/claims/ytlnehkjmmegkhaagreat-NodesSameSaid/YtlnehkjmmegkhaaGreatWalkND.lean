/- The walks, part ND. -/
import Derived.Test.YtlnehkjmmegkhaaGreatWalkNC
namespace Go.Proofs.YtlnehkjmmegkhaaGreat
open Go Go.Y Go.Proofs
set_option linter.unusedSimpArgs false
set_option linter.unusedVariables false
theorem okWordsN {d : Nat} {t : List UInt8} (h : Str t) : Tr.Ok Alone (d + 1) (.mk 2 [] [] [] t [] : NT) := ⟨Or.inl ⟨rfl, h, rfl, rfl, rfl, rfl⟩, fun c hc => by cases hc⟩
theorem okElemN {d : Nat} {t k : List UInt8} {al : List AttrD} {ks : List NT} (h : Name t) (hk : k = [] ∨ Name k) (ha : AttrsOk al) (ha8 : al.length ≤ 8) (hl : ks.length ≤ 16) (hK : KeysOk ks) (hp : ∀ p ∈ ks, Tr.Ok Alone d p) : Tr.Ok Alone (d + 1) (.mk 1 t k al [] ks : NT) := ⟨Or.inr ⟨by show ¬ (1 : Int) = 2; decide, rfl, h, hk, rfl, ha8, hl, ha, hK⟩, hp⟩
theorem keysNil : KeysOk [] := fun i j a b h ha => by simp at ha
theorem keysAdd {l : List NT} {x : NT} (h : KeysOk l) (hx : x.key = [] ∨ ∀ a ∈ l, a.key ≠ x.key) : KeysOk (l ++ [x]) := by
 intro i j a b hij ha hb hne
 have hj := lt_of_get hb
 rw [List.length_append, List.length_singleton] at hj
 rw [List.getElem?_append_left (by omega)] at ha
 rcases Nat.lt_or_ge j l.length with h1 | h1
 ·rw [List.getElem?_append_left h1] at hb; exact h i j a b hij ha hb hne
 ·have : j = l.length := by omega
  subst this
  have hb2 : x = b := by simpa using hb
  subst hb2
  rcases hx with hx | hx
  ·exact absurd hx hne
  ·exact hx a (List.mem_of_getElem? ha)
structure NsInv (d q0 q : Nat) (ps : List NT) : Prop where
 sz : Tr.sizes ps + q0 ≤ q
 ok : ∀ p ∈ ps, Tr.Ok Alone (d + 1) p
 keys : KeysOk ps
 le : ps.length ≤ 16
theorem NsInv.zero {d q : Nat} : NsInv d q q [] := ⟨by simp [Tr.sizes], by simp, keysNil, by simp⟩
theorem NsInv.up {d q0 q : Nat} {ps : List NT} (h : NsInv d q0 q ps) : NsInv d q0 (q + 1) ps := ⟨by have := h.sz; omega, h.ok, h.keys, h.le⟩
theorem NsInv.add {d q0 q q' : Nat} {ps : List NT} (h : NsInv d q0 q ps) {p : NT} (hl : ¬ ps.length = 16) (hp : Tr.Ok Alone (d + 1) p) (hk : p.key = [] ∨ ∀ a ∈ ps, a.key ≠ p.key) (hs : p.size + q ≤ q') : NsInv d q0 q' (ps ++ [p]) :=
 ⟨by rw [Tr.sizes_append]; have := h.sz; simp only [Tr.sizes]; omega, fun c hc => by
  rcases List.mem_append.1 hc with hc | hc
  ·exact h.ok c hc
  ·rw [List.mem_singleton.1 hc]; exact hp, keysAdd h.keys hk, by rw [List.length_append, List.length_singleton]; have := h.le; omega⟩
theorem NsInv.one {d q0 q : Nat} {ps : List NT} (h : NsInv d q0 q ps) {p : NT} (hl : ¬ ps.length = 16) (hp : Tr.Ok Alone (d + 1) p) (hk : p.key = [] ∨ ∀ a ∈ ps, a.key ≠ p.key) (he : p.kids = []) : NsInv d q0 (q + 1) (ps ++ [p]) :=
 h.add hl hp hk (by rw [Tr.size_eq, he]; simp only [Tr.sizes]; omega)
theorem key_step {kk K : List UInt8} {ps : List NT} {j : Nat} {d : NT} (h : kk = [] ∨ (kk = K ∧ ∀ (m : Nat) (d : NT), m < j → ps[m]? = some d → ¬ d.key = K)) (hd : ps[j]? = some d) (hn : ¬ d.key = kk) : kk = [] ∨ (kk = K ∧ ∀ (m : Nat) (d : NT), m < j + 1 → ps[m]? = some d → ¬ d.key = K) := by
 rcases h with h | ⟨h1, h2⟩
 ·exact Or.inl h
 ·refine Or.inr ⟨h1, fun m e hm he => ?_⟩
  rcases Nat.eq_or_lt_of_le (show m ≤ j by omega) with h3 | h3
  ·subst h3; rw [hd] at he; cases he; rw [← h1]; exact hn
  ·exact h2 m e h3 he
theorem key_done {kk K : List UInt8} {ps : List NT} {j : Nat} (h : kk = [] ∨ (kk = K ∧ ∀ (m : Nat) (d : NT), m < j → ps[m]? = some d → ¬ d.key = K)) (hj : ps.length ≤ j) (hK : Name K) : kk = [] ∨ (Name kk ∧ ∀ a ∈ ps, a.key ≠ kk) := by
 rcases h with h | ⟨h1, h2⟩
 ·exact Or.inl h
 ·subst h1
  refine Or.inr ⟨hK, fun a ha => ?_⟩
  obtain ⟨m, hm⟩ := List.mem_iff_getElem?.1 ha
  exact h2 m a (by have := lt_of_get hm; omega) hm
theorem key_or {k : List UInt8} {p : Prop} (h : k = [] ∨ (Name k ∧ p)) : (k = [] ∨ Name k) ∧ (k = [] ∨ p) := by
 rcases h with h | ⟨h1, h2⟩
 ·exact ⟨Or.inl h, Or.inl h⟩
 ·exact ⟨Or.inr h1, Or.inr h2⟩
theorem key_len {k : List UInt8} {p : Prop} (h : k = [] ∨ (Name k ∧ p)) : k.length ≤ 16 := by
 rcases h with h | ⟨h1, _⟩
 ·subst h; simp
 ·exact h1.1.2
end Go.Proofs.YtlnehkjmmegkhaaGreat
