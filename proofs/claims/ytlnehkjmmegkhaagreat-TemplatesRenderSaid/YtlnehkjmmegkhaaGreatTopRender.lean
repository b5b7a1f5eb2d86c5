/- Proved: whatever the input, paternosterlaw14.TemplatesRender returns true, and the input reads as it did. No conditions. -/
import Derived.Test.YtlnehkjmmegkhaaGreatTop
import Derived.Test.YtlnehkjmmegkhaaGreatWalkW
namespace Go.Proofs.YtlnehkjmmegkhaaGreat
open Go Go.Y Go.ChangeShapes Go.WideShapes Go.ChangeAt Go.RowKit
set_option linter.unusedSimpArgs false
set_option linter.unusedVariables false
set_option maxRecDepth 100000 in
theorem render_lifted (os : Os) (started : os.Started) (H : Type) (enc : TypeId × Value → H) :
    ReturnsInHanded {} Tryz.checked os 4 .any (Rows.templatesRenderSpec.pre6 enc Tryz.prog Tryz.f4 Rows.templatesRenderRow.domain false) (Rows.templatesRenderSpec.post enc Tryz.prog Tryz.f4 false true false false) := by
  refine returnsInHanded_of_change (C := Tryz.checked) own started (by kernel_rfl) Tryz.func4
    (ChangeSpec.witness6 (enc := enc) (C := Tryz.checked) false ⟨#[], #[.agg #[.int .u8 0, .int .u8 0, .slice none 0 0], .agg #[.int .u16 0, .int .u8 0, .slice none 0 0], .int .u8 0], []⟩ 8 (by kernel_rfl) (by kernel_rfl) (by kernel_rfl) (by kernel_rfl)) ?_
  intro W base args ds gs before hval0 hW hcnd _
  have hval : ∀ (j : Nat) t v, Tryz.f4.params[j]? = some t → args[j]? = some v → Value.okWide Tryz.prog W .any base t v := hval0
  have hW' := hW
  obtain ⟨p, q, hA0, hV, rfl, hfz, hnd⟩ := hW
  have hA : DataW.TrodAll enc Tryz.prog W 0 (fun _ => true) true [39, 42, 5] args.toList ds p := hA0
  obtain ⟨v0, v1, v2, d0, d1, d2, p0, p1, p2, rfl, rfl, rfl, h0, h1, h2⟩ := trodAll_three hA
  obtain ⟨rfl, rfl⟩ := trodVars_none hV
  obtain ⟨n0, n1, ca, cs, cc, rfl, k0, k1, S, hS⟩ := open_P h0 (okWide_agg tok39.k (hval 0 39 v0 rfl rfl))
  obtain ⟨n2, n3, ca1, cs1, cc1, rfl, k2, k3, S1, hS1⟩ := open_I h1 (okWide_agg tok42.k (hval 1 42 v1 rfl rfl))
  obtain ⟨mo, rfl, hmo⟩ := open_i tok5.k (hval 2 5 v2 rfl rfl) h2
  refine (renderlaw_law (Mem.start W) S k0 k1 S1 k2 k3 hmo).mono fun e W' he => ?_
  obtain ⟨v, rfl, rfl, hb⟩ := of_ret he
  exact ⟨_, rfl, post_true laidOut (by kernel_rfl) hW' rfl hb ⟨rfl, rfl, rfl⟩ rfl tokB.k⟩
theorem templatesRender_holds : Rows.TemplatesRenderSaid :=
  OpenClaim.holds_of_wide 4 Tryz.f4 rfl rfl rfl rfl rfl rfl rfl ⟨rfl, rfl, rfl, rfl, rfl⟩ rfl rfl rfl rfl rfl (by kernel_rfl) Tryz.func4 (by kernel_rfl)
    (of_decide_eq_true (by kernel_rfl)) (by unfold Func.isWrapper; rw [if_neg (of_decide_eq_false (by kernel_rfl))]; exact ⟨rfl, rfl⟩)
    (fun os started H enc _ => render_lifted os started H enc)
end Go.Proofs.YtlnehkjmmegkhaaGreat
