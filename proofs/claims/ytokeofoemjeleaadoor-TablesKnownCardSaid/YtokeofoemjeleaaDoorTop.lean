/- Opening the arguments. -/
import Derived.Test.YtokeofoemjeleaaDoorLaid
import Derived.Test.YtokeofoemjeleaaDoorWalkL
namespace Go.Proofs.YtokeofoemjeleaaDoor
open Go Go.Y Go.ChangeShapes Go.WideShapes Go.ChangeAt Go.RowKit
set_option maxRecDepth 100000
theorem tokB : TOK Tryd.prog 4 ⟨.bool, 1, 1, .bool false⟩ := ⟨by kernel_rfl, by kernel_rfl, by kernel_rfl⟩
theorem laidOut : laidOutB Tryd.prog = true := by kernel_rfl
section
variable {H : Type} {enc : TypeId × Value → H} {w : World} {hd : Bool}
theorem el_pair (n : Nat) (cs : List Value) (y : DataW H × List MemPlace) (h : DataW.trod enc Tryd.prog w 0 (fun _ => true) hd n 39 cs = some y) (hl : cs.length = 2) :
    ∃ X, rdPair (G0 w) cs X ∧ ∀ u ∈ cs, u.oneCell' = true := by
  obtain ⟨m, _, hf⟩ := trod_fld tok39.k h
  match cs, hl with
  | [c0, c1], _ =>
    obtain ⟨y0, h0⟩ := hf 0 0 1 37 rfl
    obtain ⟨y1, h1⟩ := hf 1 1 1 2 rfl
    obtain ⟨k, e0, k0⟩ := trod_i tok37.k h0
    obtain ⟨v, e1, k1⟩ := trod_i tok2.k h1
    simp at e0 e1
    subst e0 e1
    exact ⟨⟨k, v⟩, ⟨rfl, k0, k1⟩, by simp [Value.oneCell']⟩
theorem cells39 : Tryd.prog.cellsOf 39 = 2 := by kernel_rfl
theorem open_hs {v : Value} {d : DataW H} {p : List MemPlace} (h : DataW.Trod enc Tryd.prog w 0 (fun _ => true) hd 22 v d p) (hv : ∃ a l c, v = .slice a l c) :
    ∃ a xs c, v = .slice a xs.length c ∧ RdSl rdPair 2 (G0 w) (.slice a xs.length c) xs ∧ xs.length ≤ 9223372036854775807 := by
  obtain ⟨fuel, hf⟩ := h
  obtain ⟨a0, l0, c0, rfl⟩ := hv
  obtain ⟨a, xs, c, he, h2, h3⟩ := trod_sl tok22.k cells39 (by omega) el_pair hf
  simp only [Value.cells, List.cons.injEq, and_true] at he
  exact ⟨a, xs, c, he, h2, h3⟩
theorem open_s {P : Program} {W : World} {sp : Nat → Bool} {r : Go.Reach} {base t : Nat} {v : Value} {d : DataW H} {p : List MemPlace} (ht : tk P t = .str)
    (hv : Value.okWide P W r base t v) (h : DataW.Trod enc P w 0 sp hd t v d p) : ∃ s : List UInt8, v = .string (str s) ∧ s.length ≤ 9223372036854775807 := by
  obtain ⟨b, rfl⟩ := okWide_string (under_str ht) hv
  obtain ⟨fuel, hf⟩ := h
  obtain ⟨b', h1, h2⟩ := trod_s ht hf
  simp only [Value.cells, List.cons.injEq, Value.string.injEq, and_true] at h1
  subst h1
  have hl : b.data.toList.length = b.size := Array.length_toList
  exact ⟨b.data.toList, rfl, by rw [hl]; exact h2⟩
theorem len_two {α : Type} : ∀ {cs : List α}, cs.length = 2 → ∃ a b, cs = [a, b]
  | [a, b], _ => ⟨a, b, rfl⟩
theorem arr89 : tk Tryd.prog 89 = .array 2 5 := by kernel_rfl
theorem cells89 : Tryd.prog.cellsOf 89 = 2 := by kernel_rfl
theorem cells5 : Tryd.prog.cellsOf 5 = 1 := by kernel_rfl
theorem el_p8 (n : Nat) (cs : List Value) (y : DataW H × List MemPlace) (h : DataW.trod enc Tryd.prog w 0 (fun _ => true) hd n 89 cs = some y) (hl : cs.length = 2) :
    ∃ X, rdP8 (G0 w) cs X ∧ ∀ u ∈ cs, u.oneCell' = true := by
  obtain ⟨c0, c1, rfl⟩ := len_two hl
  obtain ⟨xs, m, _, _, _, hn, hel⟩ := DataW.trod_array (under_array arr89) h
  have h0 := hel 0 (by omega)
  have h1 := hel 1 (by omega)
  clear hel h
  have x0 : 0 < xs.length := by omega
  have x1 : 1 < xs.length := by omega
  rw [List.getElem?_eq_getElem x0, cells5] at h0
  rw [List.getElem?_eq_getElem x1, cells5] at h1
  obtain ⟨k, e0, k0⟩ := trod_i tok5.k h0
  obtain ⟨v, e1, k1⟩ := trod_i tok5.k h1
  simp at e0 e1
  subst e0 e1
  exact ⟨⟨k, v⟩, ⟨rfl, k0, k1⟩, by simp [Value.oneCell']⟩
theorem open_t {v : Value} {d : DataW H} {p : List MemPlace} (h : DataW.Trod enc Tryd.prog w 0 (fun _ => true) hd 54 v d p) (hv : ∃ cs, v = .agg cs) :
    ∃ a xs c, v = .agg #[.slice a xs.length c] ∧ RdSl rdP8 2 (G0 w) (.slice a xs.length c) xs ∧ xs.length ≤ 9223372036854775807 := by
  obtain ⟨fuel, hf⟩ := h
  obtain ⟨cs, rfl⟩ := hv
  obtain ⟨m, hl, hf⟩ := trod_fld tok54.k hf
  obtain ⟨y0, h0⟩ := hf 0 0 1 52 rfl
  obtain ⟨a, xs, c, he, h2, h3⟩ := trod_sl tok52.k cells89 (by omega) el_p8 h0
  have hl1 : cs.size = 1 := by
    have : Tryd.prog.cellsOf 54 = 1 := by kernel_rfl
    rw [this] at hl
    simpa [Value.cells] using hl
  refine ⟨a, xs, c, ?_, h2, h3⟩
  have e : cs.toList = [.slice a xs.length c] := by
    have h4 : cs.toList.length = 1 := by simpa using hl1
    match hcs : cs.toList, h4 with
    | [x], _ =>
      simp only [Value.cells, hcs, List.drop_zero, List.take_succ_cons, List.take_zero] at he
      exact he
  rw [← e]
theorem open_i {P : Program} {W : World} {sp : Nat → Bool} {r : Go.Reach} {base t : Nat} {k : IntKind} {v : Value} {d : DataW H} {p : List MemPlace} (ht : tk P t = .int k)
    (hv : Value.okWide P W r base t v) (h : DataW.Trod enc P w 0 sp hd t v d p) : ∃ n, v = .int k n ∧ inKind k n := by
  obtain ⟨n, rfl⟩ := okWide_int (under_int ht) hv
  obtain ⟨fuel, hf⟩ := h
  obtain ⟨m, h1, h2⟩ := trod_i ht hf
  simp only [Value.cells, List.cons.injEq, Value.int.injEq, true_and, and_true] at h1
  exact ⟨n, rfl, by rw [h1]; exact h2⟩
end
theorem okWide_agg {P : Program} {w : World} {r : Go.Reach} {base t : Nat} {v : Value} {fs : List (Nat × Nat × Nat)} (ht : tk P t = .struct fs) (h : Value.okWide P w r base t v) : ∃ cs, v = .agg cs := by
  obtain ⟨ff, hu, _⟩ := under_struct ht
  simp only [Value.okWide, hu] at h
  obtain ⟨cs, h1, _⟩ := h
  exact ⟨cs, h1⟩
theorem of_ret {w0 w : World} {e : Ending} (h : RetS w0 (G0 w0) [] (fun v => v = .bool true) e w) : ∃ v, e = .returned v ∧ v = .bool true ∧ Below w0.heap.size w0 w := by
  cases e with
  | returned v => exact ⟨v, rfl, h.2, h.1.below⟩
  | panicked c => exact h.elim
  | outgrown => exact h.elim
end Go.Proofs.YtokeofoemjeleaaDoor
