/- Proved: whatever the input, paternosterlaw12.NodesSame returns true, and the input reads as it did. No conditions. -/
import Derived.Test.YtlnehkjmmegkhaaGreatTopN
import Derived.Test.YtlnehkjmmegkhaaGreatWalkNI
namespace Go.Proofs.YtlnehkjmmegkhaaGreat
open Go Go.Y Go.ChangeShapes Go.WideShapes Go.ChangeAt Go.RowKit
set_option linter.unusedSimpArgs false
set_option linter.unusedVariables false
set_option maxRecDepth 100000 in
theorem same_lifted (os : Os) (started : os.Started) (H : Type) (enc : TypeId × Value → H) :
  ReturnsInHanded {} Tryz.checked os 12 .any (Rows.nodesSameSpec.pre6 enc Tryz.prog Tryz.f12 Rows.nodesSameRow.domain false) (Rows.nodesSameSpec.post enc Tryz.prog Tryz.f12 false true false false) := by
 refine returnsInHanded_of_change (C := Tryz.checked) own started (by kernel_rfl) Tryz.func12
  (ChangeSpec.witness6 (enc := enc) (C := Tryz.checked) false ⟨#[], #[.agg #[.int .u8 0, .int .u8 0, .slice none 0 0], .agg #[.int .u8 0, .int .u8 0, .slice none 0 0]], []⟩ 8 (by kernel_rfl) (by kernel_rfl) (by kernel_rfl) (by kernel_rfl)) ?_
 intro W base args ds gs before hval0 hW hcnd _
 have hval : ∀ (j : Nat) t v, Tryz.f12.params[j]? = some t → args[j]? = some v → Value.okWide Tryz.prog W .any base t v := hval0
 have hW' := hW
 obtain ⟨p, q, hA0, hV, rfl, hfz, hnd⟩ := hW
 have hA : DataW.TrodAll enc Tryz.prog W 0 (fun _ => true) true [24, 24] args.toList ds p := hA0
 obtain ⟨v0, v1, d0, d1, p0, p1, rfl, rfl, rfl, h0, h1⟩ := trodAll_two hA
 obtain ⟨rfl, rfl⟩ := trodVars_none hV
 obtain ⟨n0, n1, ca, cs, cc, rfl, k0, k1, S, hS⟩ := open_N h0 (okWide_agg tok24.k (hval 0 24 v0 rfl rfl))
 obtain ⟨n2, n3, ca2, cs2, cc2, rfl, k2, k3, S2, hS2⟩ := open_N h1 (okWide_agg tok24.k (hval 1 24 v1 rfl rfl))
 refine (nodesSame_law (Mem.start W) S k0 k1 S2 k2 k3).mono fun e W' he => ?_
 obtain ⟨v, rfl, rfl, hb⟩ := of_ret he
 exact ⟨_, rfl, post_true laidOut (by kernel_rfl) hW' rfl hb ⟨rfl, rfl, rfl⟩ rfl tokB.k⟩
theorem nodesSame_holds : Rows.NodesSameSaid :=
 OpenClaim.holds_of_wide 12 Tryz.f12 rfl rfl rfl rfl rfl rfl rfl ⟨rfl, rfl, rfl, rfl, rfl⟩ rfl rfl rfl rfl rfl (by kernel_rfl) Tryz.func12 (by kernel_rfl)
  (of_decide_eq_true (by kernel_rfl)) (by unfold Func.isWrapper; rw [if_neg (of_decide_eq_false (by kernel_rfl))]; exact ⟨rfl, rfl⟩)
  (fun os started H enc _ => same_lifted os started H enc)
end Go.Proofs.YtlnehkjmmegkhaaGreat
