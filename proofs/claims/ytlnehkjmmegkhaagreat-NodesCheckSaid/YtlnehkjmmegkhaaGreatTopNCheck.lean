/- Proved: whatever the input, paternosterlaw12.NodesCheck returns true, and the input reads as it did. No conditions. -/
import Derived.Test.YtlnehkjmmegkhaaGreatTopN
import Derived.Test.YtlnehkjmmegkhaaGreatTopM
import Derived.Test.YtlnehkjmmegkhaaGreatWalkNQ
namespace Go.Proofs.YtlnehkjmmegkhaaGreat
open Go Go.Y Go.ChangeShapes Go.WideShapes Go.ChangeAt Go.RowKit
set_option linter.unusedSimpArgs false
set_option linter.unusedVariables false
set_option maxRecDepth 100000 in
theorem check_lifted (os : Os) (started : os.Started) (H : Type) (enc : TypeId × Value → H) :
  ReturnsInHanded {} Tryz.checked os 11 .any (Rows.nodesCheckSpec.pre6 enc Tryz.prog Tryz.f11 Rows.nodesCheckRow.domain false) (Rows.nodesCheckSpec.post enc Tryz.prog Tryz.f11 false true false false) := by
 refine returnsInHanded_of_change (C := Tryz.checked) own started (by kernel_rfl) Tryz.func11
  (ChangeSpec.witness6 (enc := enc) (C := Tryz.checked) false ⟨#[], #[.agg #[.int .u8 0, .string (str []), .string (str []), .slice none 0 0, .string (str []), .slice none 0 0]], []⟩ 8 (by kernel_rfl) (by kernel_rfl) (by kernel_rfl) (by kernel_rfl)) ?_
 intro W base args ds gs before hval0 hW hcnd _
 have hval : ∀ (j : Nat) t v, Tryz.f11.params[j]? = some t → args[j]? = some v → Value.okWide Tryz.prog W .any base t v := hval0
 have hW' := hW
 obtain ⟨p, q, hA0, hV, rfl, hfz, hnd⟩ := hW
 have hA : DataW.TrodAll enc Tryz.prog W 0 (fun _ => true) true [30] args.toList ds p := hA0
 obtain ⟨v0, d0, rfl, rfl, h0⟩ := trodAll_one hA
 obtain ⟨rfl, rfl⟩ := trodVars_none hV
 obtain ⟨x, a1, c1, a2, c2, rfl, hk, hl, SA, SK⟩ := open_Node h0 (okWide_agg tok30.k (hval 0 30 v0 rfl rfl))
 refine (nodesCheck_spec (Mem.start W) hk hl SA SK).mono fun e W' he => ?_
 obtain ⟨v, rfl, rfl, hb⟩ := of_ret he
 exact ⟨_, rfl, post_true laidOut (by kernel_rfl) hW' rfl hb ⟨rfl, rfl, rfl⟩ rfl tokB.k⟩
theorem nodesCheck_holds : Rows.NodesCheckSaid :=
 OpenClaim.holds_of_wide 11 Tryz.f11 rfl rfl rfl rfl rfl rfl rfl ⟨rfl, rfl, rfl, rfl, rfl⟩ rfl rfl rfl rfl rfl (by kernel_rfl) Tryz.func11 (by kernel_rfl)
  (of_decide_eq_true (by kernel_rfl)) (by unfold Func.isWrapper; rw [if_neg (of_decide_eq_false (by kernel_rfl))]; exact ⟨rfl, rfl⟩)
  (fun os started H enc _ => check_lifted os started H enc)
end Go.Proofs.YtlnehkjmmegkhaaGreat
