/- What is valid can be decided, and the examples of chapter 14. -/
import Derived.Test.YtlnehkjmmegkhaaGreatWalkQ
namespace Go.Proofs.YtlnehkjmmegkhaaGreat
open Go Go.Y Go.Proofs
set_option linter.unusedSimpArgs false
instance instEqAttr : DecidableEq AttrD := fun a b => decidable_of_iff (a.n = b.n ∧ a.v = b.v) (by cases a; cases b; simp)
instance instEqSlot : DecidableEq SlotD := fun a b => decidable_of_iff (a.n = b.n ∧ a.src = b.src ∧ a.v = b.v) (by cases a; cases b; simp)
/-- All elements, each with the one before it. -/
def chainB {α : Type} (p : α → Bool) (q : α → α → Bool) : List α → Bool
 | [] => true
 | [a] => p a
 | a :: b :: l => p a && q a b && chainB p q (b :: l)
theorem chainB_iff {α : Type} {p : α → Bool} {q : α → α → Bool} : ∀ l : List α, chainB p q l = true ↔ ∀ (i : Nat) (x : α), l[i]? = some x → p x = true ∧ ∀ y, 0 < i → l[i - 1]? = some y → q y x = true
 | [] => by simp [chainB]
 | [a] => by
  simp only [chainB]
  constructor
  ·intro h i x hx
   match i with
   | 0 => simp only [List.getElem?_cons_zero, Option.some.injEq] at hx; subst hx; exact ⟨h, fun y h0 => by omega⟩
   | i + 1 => simp at hx
  ·intro h; exact (h 0 a rfl).1
 | a :: b :: l => by
  simp only [chainB, Bool.and_eq_true, chainB_iff (b :: l)]
  constructor
  ·rintro ⟨⟨h1, h2⟩, h3⟩ i x hx
   match i with
   | 0 => simp only [List.getElem?_cons_zero, Option.some.injEq] at hx; subst hx; exact ⟨h1, fun y h0 => by omega⟩
   | 1 =>
    simp only [List.getElem?_cons_succ, List.getElem?_cons_zero, Option.some.injEq] at hx; subst hx
    refine ⟨(h3 0 b rfl).1, fun y _ hy => ?_⟩
    simp only [Nat.sub_self, List.getElem?_cons_zero, Option.some.injEq] at hy; subst hy; exact h2
   | i + 2 =>
    simp only [List.getElem?_cons_succ] at hx
    obtain ⟨h4, h5⟩ := h3 (i + 1) x (by simpa using hx)
    exact ⟨h4, fun y _ hy => h5 y (by omega) (by simpa using hy)⟩
  ·intro h
   refine ⟨⟨(h 0 a rfl).1, (h 1 b rfl).2 a (by decide) rfl⟩, fun i x hx => ?_⟩
   obtain ⟨h4, h5⟩ := h (i + 1) x (by simpa using hx)
   exact ⟨h4, fun y h0 hy => h5 y (by omega) (by
    obtain ⟨i', rfl⟩ : ∃ i', i = i' + 1 := ⟨i - 1, by omega⟩
    simpa using hy)⟩
instance instAttrsOk : DecidablePred AttrsOk := fun l => decidable_of_iff (chainB (fun x => decide (Name x.n ∧ Str x.v)) (fun y x => Op.bytesLess y.n x.n) l = true) (by
 rw [chainB_iff]; unfold AttrsOk; simp only [decide_eq_true_eq])
instance instSlotAt : DecidablePred SlotAt := fun x => by unfold SlotAt; infer_instance
instance instSlotsOk : DecidablePred SlotsOk := fun l => decidable_of_iff (l.length ≤ 8 ∧ chainB (fun x => decide (SlotAt x)) (fun y x => Op.bytesLess y.n x.n) l = true) (by
 rw [chainB_iff]; unfold SlotsOk SlotsTo; simp only [decide_eq_true_eq]
 exact ⟨fun h => ⟨h.1, fun m x _ hx => h.2 m x hx⟩, fun h => ⟨h.1, fun m x hx => h.2 m x (lt_of_get hx) hx⟩⟩)
instance instKeysOk : DecidablePred KeysOk := fun l => decidable_of_iff (l.Pairwise fun a b => b.key ≠ [] → a.key ≠ b.key) (by
 rw [List.pairwise_iff_getElem]; unfold KeysOk
 constructor
 ·intro h i j a b hij ha hb
  obtain ⟨h1, rfl⟩ := List.getElem?_eq_some_iff.1 ha
  obtain ⟨h2, rfl⟩ := List.getElem?_eq_some_iff.1 hb
  exact h i j h1 h2 hij
 ·intro h i j h1 h2 hij
  exact h i j _ _ hij (List.getElem?_eq_getElem h1) (List.getElem?_eq_getElem h2))
instance instAlone : DecidablePred Alone := fun x => by unfold Alone; infer_instance
instance instAloneP : DecidablePred AloneP := fun x => by unfold AloneP; infer_instance
def decOk {β : Type} (A : Tr β → Prop) [DecidablePred A] : (n : Nat) → (x : Tr β) → Decidable (Tr.Ok A n x)
 | 0, _ => isFalse id
 | n + 1, x => by
  have : ∀ c, Decidable (Tr.Ok A n c) := decOk A n
  exact inferInstanceAs (Decidable (A x ∧ ∀ c ∈ x.kids, Tr.Ok A n c))
instance instOk {β : Type} (A : Tr β → Prop) [DecidablePred A] (n : Nat) : DecidablePred (Tr.Ok A n) := decOk A n
instance instValid : DecidablePred Valid := fun x => by unfold Valid; infer_instance
instance instValidP : DecidablePred ValidP := fun x => by unfold ValidP; infer_instance
instance instItemOk : DecidablePred ItemOk := fun x => by unfold ItemOk; infer_instance
instance instShortQ : DecidablePred ShortQ := fun x => by unfold ShortQ; infer_instance
instance instPlainA : DecidablePred PlainA := fun x => by unfold PlainA; infer_instance
/-! ### The example -/
end Go.Proofs.YtlnehkjmmegkhaaGreat
