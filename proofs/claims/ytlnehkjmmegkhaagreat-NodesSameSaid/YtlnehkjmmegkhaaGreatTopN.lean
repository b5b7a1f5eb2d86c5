/- Proved: how the arguments of the laws of nodes read. -/
import Derived.Test.YtlnehkjmmegkhaaGreatRows
import Derived.Test.YtlnehkjmmegkhaaGreatTab
import Derived.Test.YtlnehkjmmegkhaaGreatTab2
import Derived.Test.YtlnehkjmmegkhaaGreatWalkNM
import Derived.Test.YtlnehkjmmegkhaaGreatYB
namespace Go.Proofs.YtlnehkjmmegkhaaGreat
open Go Go.Y Go.ChangeShapes Go.WideShapes Go.ChangeAt Go.RowKit
set_option linter.unusedSimpArgs false
set_option linter.unusedVariables false
set_option maxRecDepth 100000
theorem own : ownKnob Tryz.prog.godebug = none := by kernel_rfl
theorem tokB : TOK Tryz.prog 4 ⟨.bool, 1, 1, .bool false⟩ := ⟨by kernel_rfl, by kernel_rfl, by kernel_rfl⟩
theorem laidOut : laidOutB Tryz.prog = true := by kernel_rfl
theorem agg_eq {cs : Array Value} {l : List Value} (h : cs.toList = l) : Value.agg cs = .agg l.toArray := by rw [← h]
section
variable {H : Type} {enc : TypeId × Value → H} {w : World} {hd : Bool}
theorem cells5 : Tryz.prog.cellsOf 5 = 1 := by kernel_rfl
theorem el_b (n : Nat) (cs : List Value) (y : DataW H × List MemPlace) (h : DataW.trod enc Tryz.prog w 0 (fun _ => true) hd n 5 cs = some y) (_ : cs.length = 1) :
  ∃ X, rdB (G0 w) cs X ∧ ∀ u ∈ cs, u.oneCell' = true := by
 obtain ⟨z, rfl, hk⟩ := trod_i tok5.k h
 have h1 : (0 : Int) ≤ z := hk.1
 have h2 : z ≤ 255 := hk.2
 refine ⟨UInt8.ofNat z.toNat, ?_, by simp [Value.oneCell']⟩
 have : nb (UInt8.ofNat z.toNat) = z := by simp only [nb, UInt8.toNat_ofNat']; omega
 show [Value.int .u8 z] = _
 rw [this]
theorem okWide_agg {P : Program} {w : World} {r : Go.Reach} {base t : Nat} {v : Value} {fs : List (Nat × Nat × Nat)} (ht : tk P t = .struct fs) (h : Value.okWide P w r base t v) : ∃ cs, v = .agg cs := by
 obtain ⟨ff, hu, _⟩ := under_struct ht
 simp only [Value.okWide, hu] at h
 obtain ⟨cs, h1, _⟩ := h
 exact ⟨cs, h1⟩
theorem cells24 : Tryz.prog.cellsOf 24 = 3 := by kernel_rfl
theorem open_N {v : Value} {d : DataW H} {p : List MemPlace} (h : DataW.Trod enc Tryz.prog w 0 (fun _ => true) hd 24 v d p) (hv : ∃ cs, v = .agg cs) :
  ∃ (n0 : Int) (n1 : Int) (a2 : Option Addr) (x2 : List UInt8) (c2 : Nat), v = .agg #[.int .u8 n0, .int .u8 n1, .slice a2 x2.length c2] ∧ (inKind .u8 n0) ∧ (inKind .u8 n1) ∧ (RdSl rdB 1 (G0 w) (.slice a2 x2.length c2) x2 ∧ x2.length ≤ 9223372036854775807) := by
 obtain ⟨fuel, hf⟩ := h
 obtain ⟨cs, rfl⟩ := hv
 obtain ⟨m, hl, hf⟩ := trod_fld tok24.k hf
 have hl1 : cs.toList.length = 3 := by rw [cells24] at hl; simpa [Value.cells] using hl
 obtain ⟨c'0, c'1, c'2, hcs⟩ : ∃ c'0 c'1 c'2, cs.toList = [c'0, c'1, c'2] := match cs.toList, hl1 with
  | [c'0, c'1, c'2], _ => ⟨c'0, c'1, c'2, rfl⟩
 obtain ⟨y0, h0⟩ := hf 0 0 1 5 rfl
 simp only [Value.cells, hcs, List.drop_zero, List.take_succ_cons, List.take_zero, List.drop_succ_cons] at h0
 obtain ⟨n0, e0, k0⟩ := trod_i tok5.k h0
 simp only [List.cons.injEq, and_true] at e0
 obtain ⟨y1, h1⟩ := hf 1 1 1 5 rfl
 simp only [Value.cells, hcs, List.drop_zero, List.take_succ_cons, List.take_zero, List.drop_succ_cons] at h1
 obtain ⟨n1, e1, k1⟩ := trod_i tok5.k h1
 simp only [List.cons.injEq, and_true] at e1
 obtain ⟨y2, h2⟩ := hf 2 2 1 22 rfl
 simp only [Value.cells, hcs, List.drop_zero, List.take_succ_cons, List.take_zero, List.drop_succ_cons] at h2
 obtain ⟨a2, x2, c2, e2, S2, k2⟩ := trod_sl tok22.k cells5 (by decide) el_b h2
 simp only [List.cons.injEq, and_true] at e2
 subst e0 e1 e2
 exact ⟨_, _, _, _, _, agg_eq hcs, k0, k1, ⟨S2, k2⟩⟩
end
theorem of_ret {w0 w : World} {e : Ending} (h : RetS w0 (G0 w0) [] (fun v => v = .bool true) e w) : ∃ v, e = .returned v ∧ v = .bool true ∧ Below w0.heap.size w0 w := by
 cases e with
 | returned v => exact ⟨v, rfl, h.2, h.1.below⟩
 | panicked c => exact h.elim
 | outgrown => exact h.elim
end Go.Proofs.YtlnehkjmmegkhaaGreat
