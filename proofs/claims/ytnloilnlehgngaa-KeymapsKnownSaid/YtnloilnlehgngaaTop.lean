/- Proved: whatever the input, paternosterlaw07.KeymapsScript and paternosterlaw07.KeymapsGet return true, and the input reads as it did. No conditions. -/
import Derived.Test.YtnloilnlehgngaaRows
import Derived.Test.YtnloilnlehgngaaWalkG
import Derived.Test.YtnloilnlehgngaaYTop
namespace Go.Proofs.Ytnloilnlehgngaa
open Go Go.Y Go.ChangeShapes Go.WideShapes Go.ChangeAt Go.RowKit
theorem Try.own : ownKnob Try.prog.godebug = none := by kernel_rfl
theorem Try.laidOut : laidOutB Try.prog = true := by kernel_rfl

section
variable {H : Type} {enc : TypeId × Value → H} {w : World} {hd : Bool}
theorem el_step (n : Nat) (cs : List Value) (y : DataW H × List MemPlace) (h : DataW.trod enc Try.prog w 0 (fun _ => true) hd n 29 cs = some y) (hl : cs.length = 3) :
    ∃ X, rdStep (G0 w) cs X ∧ ∀ u ∈ cs, u.oneCell' = true := by
  obtain ⟨m, _, hf⟩ := trod_fld tok29.k h
  match cs, hl with
  | [c0, c1, c2], _ =>
    obtain ⟨y0, h0⟩ := hf 0 0 1 27 rfl
    obtain ⟨y1, h1⟩ := hf 1 1 1 3 rfl
    obtain ⟨y2, h2⟩ := hf 2 2 1 4 rfl
    obtain ⟨k, e0, k0⟩ := trod_i tok27.k h0
    obtain ⟨v, e1, k1⟩ := trod_i tok3.k h1
    obtain ⟨b, e2⟩ := trod_b tok4.k h2
    simp at e0 e1 e2
    subst e0 e1 e2
    exact ⟨⟨k, v, b⟩, ⟨rfl, k0, k1⟩, by simp [Value.oneCell']⟩
theorem cells29 : Try.prog.cellsOf 29 = 3 := by kernel_rfl
theorem open_steps {v : Value} {d : DataW H} {p : List MemPlace} (h : DataW.Trod enc Try.prog w 0 (fun _ => true) hd 22 v d p) (hv : ∃ a l c, v = .slice a l c) :
    ∃ a xs c, v = .slice a xs.length c ∧ RdSl rdStep 3 (G0 w) (.slice a xs.length c) xs ∧ xs.length ≤ 9223372036854775807 := by
  obtain ⟨fuel, hf⟩ := h
  obtain ⟨a0, l0, c0, rfl⟩ := hv
  obtain ⟨a, xs, c, he, h2, h3⟩ := trod_sl tok22.k cells29 (by omega) el_step hf
  simp only [Value.cells, List.cons.injEq, and_true] at he
  exact ⟨a, xs, c, he, h2, h3⟩
theorem open_o {v : Value} {d : DataW H} {p : List MemPlace} (h : DataW.Trod enc Try.prog w 0 (fun _ => true) hd 45 v d p) (hv : ∃ cs, v = .agg cs) :
    ∃ a xs c, v = .agg #[.slice a xs.length c] ∧ RdSl rdStep 3 (G0 w) (.slice a xs.length c) xs ∧ xs.length ≤ 9223372036854775807 := by
  obtain ⟨fuel, hf⟩ := h
  obtain ⟨cs, rfl⟩ := hv
  obtain ⟨m, hl, hf⟩ := trod_fld tok45.k hf
  obtain ⟨y0, h0⟩ := hf 0 0 1 22 rfl
  obtain ⟨a, xs, c, he, h2, h3⟩ := trod_sl tok22.k cells29 (by omega) el_step h0
  have hl1 : cs.size = 1 := by
    have : Try.prog.cellsOf 45 = 1 := by kernel_rfl
    rw [this] at hl
    simpa [Value.cells] using hl
  refine ⟨a, xs, c, ?_, h2, h3⟩
  have e : cs.toList = [.slice a xs.length c] := by
    have h4 : cs.toList.length = 1 := by simpa using hl1
    match hcs : cs.toList, h4 with
    | [x], _ =>
      simp only [Value.cells, hcs, List.drop_zero, List.take_succ_cons, List.take_zero] at he
      exact he
  rw [← e]
theorem okWide_agg {P : Program} {w : World} {r : Go.Reach} {base t : Nat} {v : Value} {fs : List (Nat × Nat × Nat)} (ht : tk P t = .struct fs) (h : Value.okWide P w r base t v) : ∃ cs, v = .agg cs := by
  obtain ⟨ff, hu, _⟩ := under_struct ht
  simp only [Value.okWide, hu] at h
  obtain ⟨cs, h1, _⟩ := h
  exact ⟨cs, h1⟩
end

theorem open_i {P : Program} {H : Type} {enc : TypeId × Value → H} {w W : World} {sp : Nat → Bool} {hd : Bool} {r : Go.Reach} {base t : Nat} {k : IntKind} {v : Value} {d : DataW H} {p : List MemPlace} (ht : tk P t = .int k)
    (hv : Value.okWide P W r base t v) (h : DataW.Trod enc P w 0 sp hd t v d p) : ∃ n, v = .int k n ∧ inKind k n := by
  obtain ⟨n, rfl⟩ := okWide_int (under_int ht) hv
  obtain ⟨fuel, hf⟩ := h
  obtain ⟨m, h1, h2⟩ := trod_i ht hf
  simp only [Value.cells, List.cons.injEq, Value.int.injEq, true_and, and_true] at h1
  exact ⟨n, rfl, by rw [h1]; exact h2⟩
theorem of_ret {w0 w : World} {e : Ending} (h : RetS w0 (G0 w0) [] (fun v => v = .bool true) e w) : ∃ v, e = .returned v ∧ v = .bool true ∧ Below w0.heap.size w0 w := by
  cases e with
  | returned v => exact ⟨v, rfl, h.2, h.1.below⟩
  | panicked c => exact h.elim
  | outgrown => exact h.elim

set_option maxRecDepth 100000 in
theorem script_lifted (os : Os) (started : os.Started) (H : Type) (enc : TypeId × Value → H) :
    ReturnsInHanded {} Try.checked os 3 .any (Rows.keymapsScriptSpec.pre6 enc Try.prog Try.f3 Rows.keymapsScriptRow.domain false) (Rows.keymapsScriptSpec.post enc Try.prog Try.f3 false true false false) := by
  refine returnsInHanded_of_change (C := Try.checked) Try.own started (by kernel_rfl) Try.func3
    (ChangeSpec.witness6 (enc := enc) (C := Try.checked) false ⟨#[], #[.slice none 0 0], []⟩ 8 (by kernel_rfl) (by kernel_rfl) (by kernel_rfl) (by kernel_rfl)) ?_
  intro W base args ds gs before hval0 hW hcnd _
  have hval : ∀ (j : Nat) t v, Try.f3.params[j]? = some t → args[j]? = some v → Value.okWide Try.prog W .any base t v := hval0
  have hW' := hW
  obtain ⟨p, q, hA0, hV, rfl, hfz, hnd⟩ := hW
  have hA : DataW.TrodAll enc Try.prog W 0 (fun _ => true) true [22] args.toList ds p := hA0
  have hp : Try.f3.params.toList = [22] := by kernel_rfl
  obtain ⟨v0, d0, rfl, rfl, h0⟩ := trodAll_one hA
  obtain ⟨rfl, rfl⟩ := trodVars_none hV
  obtain ⟨a, xs, c, rfl, S, hx⟩ := open_steps h0 (okWide_slice (under_slice tok22.k) (hval 0 22 v0 rfl rfl))
  refine (script_law (Mem.start W) S hx).mono fun e W' he => ?_
  obtain ⟨v, rfl, rfl, hb⟩ := of_ret he
  exact ⟨_, rfl, post_true Try.laidOut (by kernel_rfl) hW' rfl hb ⟨rfl, rfl, rfl⟩ rfl tok4.k⟩
theorem keymapsScript_holds : Rows.KeymapsScriptSaid :=
  OpenClaim.holds_of_wide 3 Try.f3 rfl rfl rfl rfl rfl rfl rfl ⟨rfl, rfl, rfl, rfl, rfl⟩ rfl rfl rfl rfl rfl (by kernel_rfl) Try.func3 (by kernel_rfl)
    (of_decide_eq_true (by kernel_rfl)) (by unfold Func.isWrapper; rw [if_neg (of_decide_eq_false (by kernel_rfl))]; exact ⟨rfl, rfl⟩)
    (fun os started H enc _ => script_lifted os started H enc)

set_option maxRecDepth 100000 in
theorem get_lifted (os : Os) (started : os.Started) (H : Type) (enc : TypeId × Value → H) :
    ReturnsInHanded {} Try.checked os 4 .any (Rows.keymapsGetSpec.pre6 enc Try.prog Try.f4 Rows.keymapsGetRow.domain false) (Rows.keymapsGetSpec.post enc Try.prog Try.f4 false true false false) := by
  refine returnsInHanded_of_change (C := Try.checked) Try.own started (by kernel_rfl) Try.func4
    (ChangeSpec.witness6 (enc := enc) (C := Try.checked) false ⟨#[], #[.agg #[.slice none 0 0], .int .u64 0], []⟩ 8 (by kernel_rfl) (by kernel_rfl) (by kernel_rfl) (by kernel_rfl)) ?_
  intro W base args ds gs before hval0 hW hcnd _
  have hval : ∀ (j : Nat) t v, Try.f4.params[j]? = some t → args[j]? = some v → Value.okWide Try.prog W .any base t v := hval0
  have hW' := hW
  obtain ⟨p, q, hA0, hV, rfl, hfz, hnd⟩ := hW
  have hA : DataW.TrodAll enc Try.prog W 0 (fun _ => true) true [45, 27] args.toList ds p := hA0
  obtain ⟨v0, v1, d0, d1, p0, p1, rfl, rfl, rfl, h0, h1⟩ := trodAll_two hA
  obtain ⟨rfl, rfl⟩ := trodVars_none hV
  obtain ⟨a, xs, c, rfl, S, hx⟩ := open_o h0 (okWide_agg tok45.k (hval 0 45 v0 rfl rfl))
  obtain ⟨key, rfl, hkey⟩ := open_i tok27.k (hval 1 27 v1 rfl rfl) h1
  refine (get_law (Mem.start W) S hx hkey).mono fun e W' he => ?_
  obtain ⟨v, rfl, rfl, hb⟩ := of_ret he
  exact ⟨_, rfl, post_true Try.laidOut (by kernel_rfl) hW' rfl hb ⟨rfl, rfl, rfl⟩ rfl tok4.k⟩
theorem keymapsGet_holds : Rows.KeymapsGetSaid :=
  OpenClaim.holds_of_wide 4 Try.f4 rfl rfl rfl rfl rfl rfl rfl ⟨rfl, rfl, rfl, rfl, rfl⟩ rfl rfl rfl rfl rfl (by kernel_rfl) Try.func4 (by kernel_rfl)
    (of_decide_eq_true (by kernel_rfl)) (by unfold Func.isWrapper; rw [if_neg (of_decide_eq_false (by kernel_rfl))]; exact ⟨rfl, rfl⟩)
    (fun os started H enc _ => get_lifted os started H enc)
end Go.Proofs.Ytnloilnlehgngaa
