/- Templates: slots, valid parts; what a walk over all parts does. -/
import Derived.Test.YtlnehkjmmegkhaaGreatNod
namespace Go.Proofs.YtlnehkjmmegkhaaGreat
open Go Go.Y
theorem chkF_zero {x : NT} : chkF x = 0 ↔ Valid x := by
 unfold chkF
 split
 ·rename_i h; exact ⟨fun _ => h, fun _ => rfl⟩
 ·rename_i h; exact ⟨fun h2 => (by cases h2), fun h2 => absurd h2 h⟩
/-! ### Slots and parts -/
def SlotAt (x : SlotD) : Prop := Name x.n ∧ x.src ≤ 3 ∧ Str x.v ∧ (x.src = 0 ∨ x.v = [])
def SlotsTo (l : List SlotD) (i : Nat) : Prop := ∀ (m : Nat) (x : SlotD), m < i → l[m]? = some x → SlotAt x ∧ ∀ y, 0 < m → l[m - 1]? = some y → Op.bytesLess y.n x.n = true
def SlotsOk (l : List SlotD) : Prop := l.length ≤ 8 ∧ SlotsTo l l.length
theorem SlotsTo.zero (l : List SlotD) : SlotsTo l 0 := fun m x h => by omega
theorem SlotsTo.step {l : List SlotD} {i : Nat} {x : SlotD} (h : SlotsTo l i) (hx : l[i]? = some x) (hn : SlotAt x) (ho : ∀ y, 0 < i → l[i - 1]? = some y → Op.bytesLess y.n x.n = true) : SlotsTo l (i + 1) := by
 intro m z hm hz
 rcases Nat.eq_or_lt_of_le (show m ≤ i by omega) with e | e
 ·subst e; rw [hx] at hz; simp only [Option.some.injEq] at hz; subst hz; exact ⟨hn, ho⟩
 ·exact h m z e hz
theorem SlotsTo.done {l : List SlotD} {i : Nat} (h : SlotsTo l i) (h8 : l.length ≤ 8) (hi : l.length ≤ i) : SlotsOk l := ⟨h8, fun m x hm hx => h m x (by omega) hx⟩
def AloneP (x : PT) : Prop :=
 (x.kind = 1 ∧ Name x.tag ∧ (x.key = [] ∨ Name x.key) ∧ SlotsOk x.as ∧ x.text = [] ∧ x.kids.length ≤ 16) ∨
 (x.kind = 2 ∧ Str x.text ∧ x.tag = [] ∧ x.key = [] ∧ x.as.length = 0 ∧ x.kids.length = 0) ∨
 ((x.kind = 3 ∨ x.kind = 4) ∧ x.text = [] ∧ x.tag = [] ∧ x.key = [] ∧ x.as.length = 0 ∧ x.kids.length = 0) ∨
 (x.kind = 5 ∧ Name x.tag ∧ SlotsOk x.as ∧ x.key = [] ∧ x.text = [] ∧ x.kids.length = 0)
def ValidP (x : PT) : Prop := x.kind = 1 ∧ Tr.Ok AloneP 6 x ∧ x.size ≤ 64
/-! ### A walk over all parts -/
section
variable {β σ : Type} (f : σ → Tr β → σ)
end
/-! ### How many nodes a template makes -/
/-! ### What a template uses -/
/-! ### Items -/
structure ItemD where
 key : Int
 typ : Int
 text : List UInt8
 marks : List (List UInt8)
def ItemOk (x : ItemD) : Prop := ¬ x.key = 0 ∧ Str x.text ∧ x.marks.length ≤ 8 ∧ ∀ s ∈ x.marks, Name s
/-! ### Decimal numbers -/
/-! ### Attributes of an item -/
/-! ### What is made of an item -/
/-! ### Render -/
def zeroN : NT := .mk 0 [] [] [] [] []
section
variable {p : PT} {x : ItemD} {most : Int}
end
end Go.Proofs.YtlnehkjmmegkhaaGreat
