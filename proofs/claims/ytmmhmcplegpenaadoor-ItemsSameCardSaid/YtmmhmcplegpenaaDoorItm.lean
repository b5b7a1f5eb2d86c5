/- Items: names, texts, the item as it is read; which items are valid. -/
import Derived.Test.YtmmhmcplegpenaaDoorYC
import Derived.Laws.RangeAny
import Derived.Laws.RangeString
import Derived.Shelf.GgClosure.StringsIndexFunc
namespace Go.Proofs.YtmmhmcplegpenaaDoor
open Go Go.Y
set_option linter.unusedSimpArgs false
set_option linter.unusedVariables false
structure ItemD where
 key : Nat
 typ : Nat
 text : List UInt8
 marks : List (List UInt8)
deriving DecidableEq
def rdItem : Rd ItemD := fun G cs x => ∃ (a : Option Addr) (c : Nat), cs = [.int .u64 ((x.key : Nat) : Int), .int .u8 ((x.typ : Nat) : Int), .string (str x.text), .slice a x.marks.length c] ∧
 x.key < 18446744073709551616 ∧ x.typ < 256 ∧ x.text.length ≤ 9223372036854775807 ∧ x.marks.length ≤ 9223372036854775807 ∧ RdSl rdStr 1 G (.slice a x.marks.length c) x.marks
theorem mono_rdItem : Mono rdItem := by
 rintro G G' cs x h ⟨a, c, h1, h2, h3, h4, h5, h6⟩
 exact ⟨a, c, h1, h2, h3, h4, h5, h6.mono mono_rdStr h⟩
/-! ### Names and strings -/
def NameB (c : UInt8) : Prop := (97 ≤ nb c ∧ nb c ≤ 122) ∨ (48 ≤ nb c ∧ nb c ≤ 57)
def Name (s : List UInt8) : Prop := (1 ≤ s.length ∧ s.length ≤ 16) ∧ ∀ c ∈ s, NameB c
def StrB (c : UInt8) : Prop := 32 ≤ nb c ∧ nb c ≤ 126
def Str (s : List UInt8) : Prop := s.length ≤ 64 ∧ ∀ c ∈ s, StrB c
instance (c : UInt8) : Decidable (NameB c) := by unfold NameB; infer_instance
instance (c : UInt8) : Decidable (StrB c) := by unfold StrB; infer_instance
instance (s : List UInt8) : Decidable (Name s) := by unfold Name; infer_instance
instance (s : List UInt8) : Decidable (Str s) := by unfold Str; infer_instance
theorem Str.nil : Str [] := ⟨by simp, by simp⟩
theorem all_step {α : Type} {p : α → Prop} {s : List α} {i : Nat} {c : α} (h : ∀ (m : Nat) (b : α), m < i → s[m]? = some b → p b) (hc : s[i]? = some c) (hp : p c) : ∀ (m : Nat) (b : α), m < i + 1 → s[m]? = some b → p b := by
 intro m b hm hb
 rcases Nat.lt_or_ge m i with h1 | h1
 ·exact h m b h1 hb
 ·have : m = i := by omega
  subst this; rw [hc] at hb; simp only [Option.some.injEq] at hb; subst hb; exact hp
theorem all_end {α : Type} {p : α → Prop} {s : List α} {i : Nat} (h : ∀ (m : Nat) (b : α), m < i → s[m]? = some b → p b) (hi : s.length ≤ i) : ∀ c ∈ s, p c := by
 intro c hc
 obtain ⟨m, hm⟩ := List.mem_iff_getElem?.1 hc
 exact h m c (by have := lt_of_get hm; omega) hm
/-- The runes that no text has, and that no name has. -/
def badR (r : Nat) : Bool := decide ((r : Int) < 32) || decide (126 < (r : Int))
def badN (r : Nat) : Bool := (decide ((r : Int) < 97) || decide (122 < (r : Int))) && (decide ((r : Int) < 48) || decide (57 < (r : Int)))
theorem idx_badP {bad : Nat → Bool} {P : UInt8 → Prop} (h1 : ∀ b : UInt8, bad b.toNat = false ↔ P b) (h2 : ∀ r, 128 ≤ r → bad r = true) (l : List UInt8) : ∀ (f pos : Nat), l.length ≤ pos + f → (Lib.idxFuncFrom bad true (str l) f pos < 0 ↔ ∀ (m : Nat) (b : UInt8), pos ≤ m → l[m]? = some b → P b)
 | 0, pos, h => by
  have : Lib.idxFuncFrom bad true (str l) 0 pos = -1 := rfl
  rw [this]
  refine ⟨fun _ m b hm hb => ?_, fun _ => by decide⟩
  have := lt_of_get hb; omega
 | f + 1, pos, h => by
  unfold Lib.idxFuncFrom
  by_cases hp : pos < (str l).size
  ·rw [if_pos hp]
   have hl : pos < l.length := by rw [str_size] at hp; exact hp
   have hb : l[pos]? = some ((str l)[pos]'hp) := by rw [← str_get, getElem?_pos (str l) pos hp]
   generalize hB : (str l)[pos]'hp = B at hb
   by_cases ha : B.toNat < 128
   ·have hd := decode_ascii (str l) pos hp (by rw [hB]; exact ha)
    rw [hB] at hd
    rw [hd]
    by_cases hg : P B
    ·have hbad : bad B.toNat = false := (h1 B).2 hg
     simp only [hbad, Bool.false_eq_true, if_false]
     rw [idx_badP h1 h2 l f (pos + 1) (by omega)]
     constructor
     ·intro h1 m b hm hb'
      rcases Nat.eq_or_lt_of_le hm with e | e
      ·subst e; rw [hb] at hb'; simp only [Option.some.injEq] at hb'; subst hb'; exact hg
      ·exact h1 m b (by omega) hb'
     ·exact fun h1 m b hm hb' => h1 m b (by omega) hb'
    ·have hbad : bad B.toNat = true := by
      cases hx : bad B.toNat with
      | true => rfl
      | false => exact absurd ((h1 B).1 hx) hg
     simp only [hbad, if_true]
     refine ⟨fun h1 => by omega, fun h1 => absurd (h1 pos B (Nat.le_refl _) hb) hg⟩
   ·have hd := (decode_high (str l) pos hp (by rw [hB]; omega)).1
    have hbad : bad (Utf8.decode (str l) pos).1 = true := h2 _ (by omega)
    simp only [hbad, if_true]
    refine ⟨fun h1 => by omega, fun h3 => ?_⟩
    have h4 := (h1 B).2 (h3 pos B (Nat.le_refl _) hb)
    rw [h2 _ (by omega)] at h4; cases h4
  ·rw [if_neg hp]
   refine ⟨fun _ m b hm hb => ?_, fun _ => by decide⟩
   have := lt_of_get hb; rw [str_size] at hp; omega
theorem idx_P {bad : Nat → Bool} {P : UInt8 → Prop} (h1 : ∀ b : UInt8, bad b.toNat = false ↔ P b) (h2 : ∀ r, 128 ≤ r → bad r = true) (l : List UInt8) : Lib.idxFunc bad true (str l) < 0 ↔ ∀ c ∈ l, P c := by
 unfold Lib.idxFunc
 rw [idx_badP h1 h2 l _ 0 (by rw [str_size]; omega)]
 constructor
 ·intro h c hc
  obtain ⟨m, hm⟩ := List.mem_iff_getElem?.1 hc
  exact h m c (Nat.zero_le _) hm
 ·exact fun h m b _ hb => h b (List.mem_of_getElem? hb)
theorem idx_str (l : List UInt8) : Lib.idxFunc badR true (str l) < 0 ↔ ∀ c ∈ l, StrB c :=
 idx_P (fun b => by simp only [badR, StrB, nb, Bool.or_eq_false_iff, decide_eq_false_iff_not]; omega) (fun r h => by simp only [badR, Bool.or_eq_true, decide_eq_true_eq]; omega) l
theorem idx_name (l : List UInt8) : Lib.idxFunc badN true (str l) < 0 ↔ ∀ c ∈ l, NameB c :=
 idx_P (fun b => by simp only [badN, NameB, nb, Bool.and_eq_false_iff, Bool.or_eq_false_iff, decide_eq_false_iff_not]; omega) (fun r h => by simp only [badN, Bool.and_eq_true, Bool.or_eq_true, decide_eq_true_eq]; omega) l
/-! ### Which items are valid -/
def ItemOk (t : Int) (x : ItemD) : Prop := x.key ≠ 0 ∧ (x.typ : Int) < t ∧ Str x.text ∧ x.marks.length ≤ 8 ∧ ∀ s ∈ x.marks, Name s
instance (t : Int) (x : ItemD) : Decidable (ItemOk t x) := by unfold ItemOk; infer_instance
def itmF (t : Int) (x : ItemD) : Int := if ItemOk t x then 0 else 6
theorem itmF_yes {t : Int} {x : ItemD} (h : ItemOk t x) : itmF t x = 0 := by unfold itmF; rw [if_pos h]
theorem itmF_no {t : Int} {x : ItemD} (h : ¬ ItemOk t x) : itmF t x = 6 := by unfold itmF; rw [if_neg h]
theorem itmF_zero {t : Int} {x : ItemD} : itmF t x = 0 ↔ ItemOk t x := by
 unfold itmF
 split
 ·rename_i h; exact ⟨fun _ => h, fun _ => rfl⟩
 ·rename_i h; exact ⟨fun h2 => (by cases h2), fun h2 => absurd h2 h⟩
theorem marks_all {l : List (List UInt8)} {i : Nat} (h : ∀ (m : Nat) (s : List UInt8), m < i → l[m]? = some s → Name s) (hi : l.length ≤ i) : ∀ s ∈ l, Name s := all_end h hi
theorem none_snoc {α : Type} {p : α → Prop} {l : List α} {i : Nat} {x : α} (h : ∀ (m : Nat) (s : α), m < i → l[m]? = some s → p s) (hx : l[i]? = some x) (hp : p x) : ∀ (m : Nat) (s : α), m < i + 1 → l[m]? = some s → p s := all_step h hx hp
/-! ### Within the bounds of the statements; what is found -/
def MkFew (x : ItemD) : Prop := x.text.length ≤ 70 ∧ x.marks.length ≤ 12 ∧ ∀ s ∈ x.marks, s.length ≤ 20
def Few (l : List ItemD) : Prop := l.length ≤ 30 ∧ ∀ x ∈ l, MkFew x
instance (x : ItemD) : Decidable (MkFew x) := by unfold MkFew; infer_instance
instance (l : List ItemD) : Decidable (Few l) := by unfold Few; infer_instance
theorem Few.no {l : List ItemD} {i : Nat} {x : ItemD} (h : l[i]? = some x) (hn : ¬ MkFew x) : ¬ Few l := fun h2 => hn (h2.2 x (List.mem_of_getElem? h))
theorem item_ext {x y : ItemD} (h1 : x.key = y.key) (h2 : x.typ = y.typ) (h3 : x.text = y.text) (h4 : x.marks = y.marks) : x = y := by
 cases x; cases y; simp_all
theorem ne_of_get {α : Type} {xs ys : List α} {i : Nat} {x y : α} (h1 : xs[i]? = some x) (h2 : ys[i]? = some y) (h : x ≠ y) : xs ≠ ys := by
 rintro rfl; rw [h1] at h2; simp only [Option.some.injEq] at h2; exact h h2
theorem eq_step {α : Type} {xs ys : List α} {i : Nat} {x y : α} (h : ∀ m, m < i → xs[m]? = ys[m]?) (h1 : xs[i]? = some x) (h2 : ys[i]? = some y) (he : x = y) : ∀ m, m < i + 1 → xs[m]? = ys[m]? := by
 intro m hm
 rcases Nat.lt_or_ge m i with h3 | h3
 ·exact h m h3
 ·have : m = i := by omega
  subst this; rw [h1, h2, he]
theorem eq_end {α : Type} {xs ys : List α} {i : Nat} (h : ∀ m, m < i → xs[m]? = ys[m]?) (hl : xs.length = ys.length) (hi : xs.length ≤ i) : xs = ys := by
 apply List.ext_getElem?
 intro m
 rcases Nat.lt_or_ge m i with h3 | h3
 ·exact h m h3
 ·rw [List.getElem?_eq_none (by omega), List.getElem?_eq_none (by omega)]
def FindR (xs : List ItemD) (k : Nat) (z : Int) : Prop := (z = -1 ∧ ∀ x ∈ xs, x.key ≠ k) ∨ ∃ (i : Nat) (x : ItemD), z = (i : Int) ∧ xs[i]? = some x ∧ x.key = k ∧ ∀ (m : Nat) (y : ItemD), m < i → xs[m]? = some y → y.key ≠ k
theorem FindR.uniq {xs : List ItemD} {k : Nat} {z z' : Int} (h : FindR xs k z) (h' : FindR xs k z') : z = z' := by
 rcases h with ⟨rfl, h⟩ | ⟨i, x, rfl, h1, h2, h3⟩ <;> rcases h' with ⟨rfl, h'⟩ | ⟨j, y, rfl, h1', h2', h3'⟩
 ·rfl
 ·exact absurd h2' (h y (List.mem_of_getElem? h1'))
 ·exact absurd h2 (h' x (List.mem_of_getElem? h1))
 ·rcases Nat.lt_trichotomy i j with h4 | h4 | h4
  ·exact absurd h2 (h3' i x h4 h1)
  ·rw [h4]
  ·exact absurd h2' (h3 j y h4 h1')
theorem FindR.none {xs : List ItemD} {k i : Nat} (h : ∀ (m : Nat) (y : ItemD), m < i → xs[m]? = some y → y.key ≠ k) (hi : xs.length ≤ i) : FindR xs k (-1) := Or.inl ⟨rfl, all_end (p := fun y : ItemD => y.key ≠ k) h hi⟩
theorem FindR.some {xs : List ItemD} {k i : Nat} {x : ItemD} (h : ∀ (m : Nat) (y : ItemD), m < i → xs[m]? = some y → y.key ≠ k) (hx : xs[i]? = some x) (hk : x.key = k) : FindR xs k (i : Int) := Or.inr ⟨i, x, rfl, hx, hk, h⟩
end Go.Proofs.YtmmhmcplegpenaaDoor
