/- The walks, part NC. -/
import Derived.Test.YtlnehkjmmegkhaaGreatWalkNB
import Derived.Test.YtlnehkjmmegkhaaGreatWalkQ
namespace Go.Proofs.YtlnehkjmmegkhaaGreat
open Go Go.Y Go.Proofs
set_option linter.unusedSimpArgs false
set_option linter.unusedVariables false
def ntgS : List (List UInt8) := [[97], [98], [112, 49], [115, 105, 120, 116, 101, 101, 110, 98, 121, 116, 101, 115, 116, 97, 103, 48]]
theorem ntgE {G : Ghost} : Els rdStr 1 G [.string (str ([97] : List UInt8)), .string (str ([98] : List UInt8)), .string (str ([112, 49] : List UInt8)), .string (str ([115, 105, 120, 116, 101, 101, 110, 98, 121, 116, 101, 115, 116, 97, 103, 48] : List UInt8))] ntgS :=
 Els.cons (c := [_]) ⟨rfl, by decide⟩ rfl (Els.cons (c := [_]) ⟨rfl, by decide⟩ rfl (Els.cons (c := [_]) ⟨rfl, by decide⟩ rfl (Els.one ⟨rfl, by decide⟩ rfl)))
def navS : List (List UInt8) := [[], [120], [97, 34, 98, 92, 99], [32, 126]]
theorem navE {G : Ghost} : Els rdStr 1 G [.string (str ([] : List UInt8)), .string (str ([120] : List UInt8)), .string (str ([97, 34, 98, 92, 99] : List UInt8)), .string (str ([32, 126] : List UInt8))] navS :=
 Els.cons (c := [_]) ⟨rfl, by decide⟩ rfl (Els.cons (c := [_]) ⟨rfl, by decide⟩ rfl (Els.cons (c := [_]) ⟨rfl, by decide⟩ rfl (Els.one ⟨rfl, by decide⟩ rfl)))
def nwdS : List (List UInt8) := [[], [120], [104, 105, 32, 34, 121, 111, 117, 92], [48]]
theorem nwdE {G : Ghost} : Els rdStr 1 G [.string (str ([] : List UInt8)), .string (str ([120] : List UInt8)), .string (str ([104, 105, 32, 34, 121, 111, 117, 92] : List UInt8)), .string (str ([48] : List UInt8))] nwdS :=
 Els.cons (c := [_]) ⟨rfl, by decide⟩ rfl (Els.cons (c := [_]) ⟨rfl, by decide⟩ rfl (Els.cons (c := [_]) ⟨rfl, by decide⟩ rfl (Els.one ⟨rfl, by decide⟩ rfl)))
def nkyS : List (List UInt8) := [[107, 48], [107, 49], [107, 50], [107, 51]]
theorem nkyE {G : Ghost} : Els rdStr 1 G [.string (str ([107, 48] : List UInt8)), .string (str ([107, 49] : List UInt8)), .string (str ([107, 50] : List UInt8)), .string (str ([107, 51] : List UInt8))] nkyS :=
 Els.cons (c := [_]) ⟨rfl, by decide⟩ rfl (Els.cons (c := [_]) ⟨rfl, by decide⟩ rfl (Els.cons (c := [_]) ⟨rfl, by decide⟩ rfl (Els.one ⟨rfl, by decide⟩ rfl)))
theorem ntgS_ok : ∀ s ∈ ntgS, Name s := by decide
theorem navS_ok : ∀ s ∈ navS, Str s := by decide
theorem nwdS_ok : ∀ s ∈ nwdS, Str s := by decide
theorem nkyS_ok : ∀ s ∈ nkyS, Name s := by decide
/-- The attributes that were made of the first names. -/
structure AtInv (i : Nat) (ss : List AttrD) : Prop where
 to : AttrsOk ss
 le : ss.length ≤ i
 last : ∀ y, 0 < ss.length → ss[ss.length - 1]? = some y → ∃ j, j < i ∧ snS[j]? = some y.n
theorem AtInv.zero : AtInv 0 [] := ⟨fun i x h => by simp at h, Nat.le_refl _, fun y h => by simp at h⟩
theorem AtInv.skip {i : Nat} {ss : List AttrD} (h : AtInv i ss) : AtInv (i + 1) ss := ⟨h.to, by have := h.le; omega, fun y h1 h2 => by obtain ⟨j, hj, hy⟩ := h.last y h1 h2; exact ⟨j, by omega, hy⟩⟩
theorem AtInv.add {i : Nat} {ss : List AttrD} (h : AtInv i ss) {x : AttrD} (hi : i < 3) (hX : snS[i]? = some x.n) (hx : Name x.n ∧ Str x.v) : AtInv (i + 1) (ss ++ [x]) := by
 have hl : (ss ++ [x]).length = ss.length + 1 := by simp
 refine ⟨fun m z hz => ?_, by have := h.le; rw [hl]; omega, fun y h1 h2 => ?_⟩
 ·rcases Nat.lt_or_ge m ss.length with hm | hm
  ·rw [List.getElem?_append_left hm] at hz
   obtain ⟨q1, q2⟩ := h.to m z hz
   refine ⟨q1, fun y h0 hy => ?_⟩
   rw [List.getElem?_append_left (by omega)] at hy
   exact q2 y h0 hy
  ·have hm2 : m = ss.length := by have := lt_of_get hz; rw [hl] at this; omega
   subst hm2
   have hz2 : x = z := by simpa using hz
   subst hz2
   refine ⟨hx, fun y h0 hy => ?_⟩
   rw [List.getElem?_append_left (by omega)] at hy
   obtain ⟨j, hj, hjn⟩ := h.last y h0 hy
   exact sn_asc j i hj hi _ _ hjn hX
 ·rw [hl] at h2
  simp at h2
  subst h2
  exact ⟨i, by omega, hX⟩
end Go.Proofs.YtlnehkjmmegkhaaGreat
