/- Proved: whatever the input, paternosterlaw14.TemplatesCheck returns true, and the input reads as it did. No conditions. -/
import Derived.Test.YtlnehkjmmegkhaaGreatTop
import Derived.Test.YtlnehkjmmegkhaaGreatTopT
import Derived.Test.YtlnehkjmmegkhaaGreatWalkV
namespace Go.Proofs.YtlnehkjmmegkhaaGreat
open Go Go.Y Go.ChangeShapes Go.WideShapes Go.ChangeAt Go.RowKit
set_option linter.unusedSimpArgs false
set_option linter.unusedVariables false
set_option maxRecDepth 100000 in
theorem check_lifted (os : Os) (started : os.Started) (H : Type) (enc : TypeId × Value → H) :
    ReturnsInHanded {} Tryz.checked os 6 .any (Rows.templatesCheckSpec.pre6 enc Tryz.prog Tryz.f6 Rows.templatesCheckRow.domain false) (Rows.templatesCheckSpec.post enc Tryz.prog Tryz.f6 false true false false) := by
  refine returnsInHanded_of_change (C := Tryz.checked) own started (by kernel_rfl) Tryz.func6
    (ChangeSpec.witness6 (enc := enc) (C := Tryz.checked) false ⟨#[], #[.agg #[.int .u8 0, .string (str []), .string (str []), .slice none 0 0, .string (str []), .slice none 0 0], .int .i64 0], []⟩ 8 (by kernel_rfl) (by kernel_rfl) (by kernel_rfl) (by kernel_rfl)) ?_
  intro W base args ds gs before hval0 hW hcnd _
  have hval : ∀ (j : Nat) t v, Tryz.f6.params[j]? = some t → args[j]? = some v → Value.okWide Tryz.prog W .any base t v := hval0
  have hW' := hW
  obtain ⟨p, q, hA0, hV, rfl, hfz, hnd⟩ := hW
  have hA : DataW.TrodAll enc Tryz.prog W 0 (fun _ => true) true [46, 3] args.toList ds p := hA0
  obtain ⟨v0, v1, d0, d1, p0, p1, rfl, rfl, rfl, h0, h1⟩ := trodAll_two hA
  obtain ⟨rfl, rfl⟩ := trodVars_none hV
  obtain ⟨x, a1, c1, a2, c2, rfl, hk, hl, SA, SK⟩ := open_T h0 (okWide_agg tok46.k (hval 0 46 v0 rfl rfl))
  obtain ⟨m, rfl, km⟩ := open_i tok3.k (hval 1 3 v1 rfl rfl) h1
  refine (checklaw_spec (Mem.start W) hk hl SA SK).mono fun e W' he => ?_
  obtain ⟨v, rfl, rfl, hb⟩ := of_ret he
  exact ⟨_, rfl, post_true laidOut (by kernel_rfl) hW' rfl hb ⟨rfl, rfl, rfl⟩ rfl tokB.k⟩
theorem templatesCheck_holds : Rows.TemplatesCheckSaid :=
  OpenClaim.holds_of_wide 6 Tryz.f6 rfl rfl rfl rfl rfl rfl rfl ⟨rfl, rfl, rfl, rfl, rfl⟩ rfl rfl rfl rfl rfl (by kernel_rfl) Tryz.func6 (by kernel_rfl)
    (of_decide_eq_true (by kernel_rfl)) (by unfold Func.isWrapper; rw [if_neg (of_decide_eq_false (by kernel_rfl))]; exact ⟨rfl, rfl⟩)
    (fun os started H enc _ => check_lifted os started H enc)
end Go.Proofs.YtlnehkjmmegkhaaGreat
