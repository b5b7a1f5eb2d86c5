/- Opening the arguments. -/
import Derived.Test.YtokeofoemjeleaaDoorLaid
import Derived.Test.YtokeofoemjeleaaDoorWalkL
namespace Go.Proofs.YtokeofoemjeleaaDoor
open Go Go.Y Go.ChangeShapes Go.WideShapes Go.ChangeAt Go.RowKit

theorem tokB : TOK Tryd.prog 4 ⟨.bool, 1, 1, .bool false⟩ := ⟨by kernel_rfl, by kernel_rfl, by kernel_rfl⟩
theorem laidOut : laidOutB Tryd.prog = true := by kernel_rfl
section
variable {H : Type} {enc : TypeId × Value → H} {w : World} {hd : Bool}
theorem el_pair (n : Nat) (cs : List Value) (y : DataW H × List MemPlace) (h : DataW.trod enc Tryd.prog w 0 (fun _ => true) hd n 39 cs = some y) (hl : cs.length = 2) :
    ∃ X, rdPair (G0 w) cs X ∧ ∀ u ∈ cs, u.oneCell' = true := by
  obtain ⟨m, _, hf⟩ := trod_fld tok39.k h
  match cs, hl with
  | [c0, c1], _ =>
    obtain ⟨y0, h0⟩ := hf 0 0 1 37 rfl
    obtain ⟨y1, h1⟩ := hf 1 1 1 2 rfl
    obtain ⟨k, e0, k0⟩ := trod_i tok37.k h0
    obtain ⟨v, e1, k1⟩ := trod_i tok2.k h1
    simp at e0 e1
    subst e0 e1
    exact ⟨⟨k, v⟩, ⟨rfl, k0, k1⟩, by simp [Value.oneCell']⟩
theorem cells39 : Tryd.prog.cellsOf 39 = 2 := by kernel_rfl
theorem open_hs {v : Value} {d : DataW H} {p : List MemPlace} (h : DataW.Trod enc Tryd.prog w 0 (fun _ => true) hd 22 v d p) (hv : ∃ a l c, v = .slice a l c) :
    ∃ a xs c, v = .slice a xs.length c ∧ RdSl rdPair 2 (G0 w) (.slice a xs.length c) xs ∧ xs.length ≤ 9223372036854775807 := by
  obtain ⟨fuel, hf⟩ := h
  obtain ⟨a0, l0, c0, rfl⟩ := hv
  obtain ⟨a, xs, c, he, h2, h3⟩ := trod_sl tok22.k cells39 (by omega) el_pair hf
  simp only [Value.cells, List.cons.injEq, and_true] at he
  exact ⟨a, xs, c, he, h2, h3⟩
theorem open_i {P : Program} {W : World} {sp : Nat → Bool} {r : Go.Reach} {base t : Nat} {k : IntKind} {v : Value} {d : DataW H} {p : List MemPlace} (ht : tk P t = .int k)
    (hv : Value.okWide P W r base t v) (h : DataW.Trod enc P w 0 sp hd t v d p) : ∃ n, v = .int k n ∧ inKind k n := by
  obtain ⟨n, rfl⟩ := okWide_int (under_int ht) hv
  obtain ⟨fuel, hf⟩ := h
  obtain ⟨m, h1, h2⟩ := trod_i ht hf
  simp only [Value.cells, List.cons.injEq, Value.int.injEq, true_and, and_true] at h1
  exact ⟨n, rfl, by rw [h1]; exact h2⟩
end
theorem of_ret {w0 w : World} {e : Ending} (h : RetS w0 (G0 w0) [] (fun v => v = .bool true) e w) : ∃ v, e = .returned v ∧ v = .bool true ∧ Below w0.heap.size w0 w := by
  cases e with
  | returned v => exact ⟨v, rfl, h.2, h.1.below⟩
  | panicked c => exact h.elim
  | outgrown => exact h.elim
end Go.Proofs.YtokeofoemjeleaaDoor
