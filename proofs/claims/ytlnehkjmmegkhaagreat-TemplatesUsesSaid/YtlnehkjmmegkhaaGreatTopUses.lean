/- Proved: whatever the input, paternosterlaw14.TemplatesUses returns true, and the input reads as it did. No conditions. -/
import Derived.Test.YtlnehkjmmegkhaaGreatTop
import Derived.Test.YtlnehkjmmegkhaaGreatWalkU
namespace Go.Proofs.YtlnehkjmmegkhaaGreat
open Go Go.Y Go.ChangeShapes Go.WideShapes Go.ChangeAt Go.RowKit
set_option linter.unusedSimpArgs false
set_option linter.unusedVariables false
set_option maxRecDepth 100000 in
theorem uses_lifted (os : Os) (started : os.Started) (H : Type) (enc : TypeId × Value → H) :
    ReturnsInHanded {} Tryz.checked os 5 .any (Rows.templatesUsesSpec.pre6 enc Tryz.prog Tryz.f5 Rows.templatesUsesRow.domain false) (Rows.templatesUsesSpec.post enc Tryz.prog Tryz.f5 false true false false) := by
  refine returnsInHanded_of_change (C := Tryz.checked) own started (by kernel_rfl) Tryz.func5
    (ChangeSpec.witness6 (enc := enc) (C := Tryz.checked) false ⟨#[], #[.agg #[.int .u8 0, .int .u8 0, .slice none 0 0], .agg #[.int .u16 0, .int .u8 0, .slice none 0 0], .agg #[.int .u16 0, .int .u8 0, .slice none 0 0]], []⟩ 8 (by kernel_rfl) (by kernel_rfl) (by kernel_rfl) (by kernel_rfl)) ?_
  intro W base args ds gs before hval0 hW hcnd _
  have hval : ∀ (j : Nat) t v, Tryz.f5.params[j]? = some t → args[j]? = some v → Value.okWide Tryz.prog W .any base t v := hval0
  have hW' := hW
  obtain ⟨p, q, hA0, hV, rfl, hfz, hnd⟩ := hW
  have hA : DataW.TrodAll enc Tryz.prog W 0 (fun _ => true) true [39, 42, 42] args.toList ds p := hA0
  obtain ⟨v0, v1, v2, d0, d1, d2, p0, p1, p2, rfl, rfl, rfl, h0, h1, h2⟩ := trodAll_three hA
  obtain ⟨rfl, rfl⟩ := trodVars_none hV
  obtain ⟨n0, n1, ca, cs, cc, rfl, k0, k1, S, hS⟩ := open_P h0 (okWide_agg tok39.k (hval 0 39 v0 rfl rfl))
  obtain ⟨n2, n3, ca1, cs1, cc1, rfl, k2, k3, S1, hS1⟩ := open_I h1 (okWide_agg tok42.k (hval 1 42 v1 rfl rfl))
  obtain ⟨n4, n5, ca2, cs2, cc2, rfl, k4, k5, S2, hS2⟩ := open_I h2 (okWide_agg tok42.k (hval 2 42 v2 rfl rfl))
  refine (useslaw_law (Mem.start W) S k0 k1 S1 k2 k3 S2 k4 k5).mono fun e W' he => ?_
  obtain ⟨v, rfl, rfl, hb⟩ := of_ret he
  exact ⟨_, rfl, post_true laidOut (by kernel_rfl) hW' rfl hb ⟨rfl, rfl, rfl⟩ rfl tokB.k⟩
theorem templatesUses_holds : Rows.TemplatesUsesSaid :=
  OpenClaim.holds_of_wide 5 Tryz.f5 rfl rfl rfl rfl rfl rfl rfl ⟨rfl, rfl, rfl, rfl, rfl⟩ rfl rfl rfl rfl rfl (by kernel_rfl) Tryz.func5 (by kernel_rfl)
    (of_decide_eq_true (by kernel_rfl)) (by unfold Func.isWrapper; rw [if_neg (of_decide_eq_false (by kernel_rfl))]; exact ⟨rfl, rfl⟩)
    (fun os started H enc _ => uses_lifted os started H enc)
end Go.Proofs.YtlnehkjmmegkhaaGreat
