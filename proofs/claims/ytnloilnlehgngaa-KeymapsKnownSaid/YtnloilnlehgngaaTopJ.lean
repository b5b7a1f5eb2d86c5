/- Proved: paternosterlaw07.KeymapsKnown returns true. No conditions. -/
import Derived.Test.YtnloilnlehgngaaTop
import Derived.Test.YtnloilnlehgngaaWalkJ
namespace Go.Proofs.Ytnloilnlehgngaa
open Go Go.Y Go.ChangeShapes Go.WideShapes Go.ChangeAt Go.RowKit

set_option maxRecDepth 100000 in
theorem known_lifted (os : Os) (started : os.Started) (H : Type) (enc : TypeId × Value → H) :
    ReturnsInHanded {} Try.checked os 6 .any (Rows.keymapsKnownSpec.pre6 enc Try.prog Try.f6 Rows.keymapsKnownRow.domain false) (Rows.keymapsKnownSpec.post enc Try.prog Try.f6 false true false false) := by
  refine returnsInHanded_of_change (C := Try.checked) Try.own started (by kernel_rfl) Try.func6
    (ChangeSpec.witness6 (enc := enc) (C := Try.checked) false ⟨#[], #[], []⟩ 8 (by kernel_rfl) (by kernel_rfl) (by kernel_rfl) (by kernel_rfl)) ?_
  intro W base args ds gs before hval0 hW hcnd _
  have hval : ∀ (j : Nat) t v, Try.f6.params[j]? = some t → args[j]? = some v → Value.okWide Try.prog W .any base t v := hval0
  have hW' := hW
  obtain ⟨p, q, hA0, hV, rfl, hfz, hnd⟩ := hW
  have hA : DataW.TrodAll enc Try.prog W 0 (fun _ => true) true [] args.toList ds p := hA0
  obtain ⟨rfl, rfl, rfl⟩ := trodAll_none hA
  obtain ⟨rfl, rfl⟩ := trodVars_none hV
  refine (known_law (Mem.start W)).mono fun e W' he => ?_
  obtain ⟨v, rfl, rfl, hb⟩ := of_ret he
  exact ⟨_, rfl, post_true Try.laidOut (by kernel_rfl) hW' rfl hb ⟨rfl, rfl, rfl⟩ rfl tok4.k⟩
theorem keymapsKnown_holds : Rows.KeymapsKnownSaid :=
  OpenClaim.holds_of_wide 6 Try.f6 rfl rfl rfl rfl rfl rfl rfl ⟨rfl, rfl, rfl, rfl, rfl⟩ rfl rfl rfl rfl rfl (by kernel_rfl) Try.func6 (by kernel_rfl)
    (of_decide_eq_true (by kernel_rfl)) (by unfold Func.isWrapper; rw [if_neg (of_decide_eq_false (by kernel_rfl))]; exact ⟨rfl, rfl⟩)
    (fun os started H enc _ => known_lifted os started H enc)
end Go.Proofs.Ytnloilnlehgngaa
