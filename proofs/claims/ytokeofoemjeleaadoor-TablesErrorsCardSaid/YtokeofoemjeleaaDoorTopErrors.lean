/- Proved: whatever the input, paternosterlaw11.TablesErrors returns true, and the input reads as it did. -/
import Derived.Test.YtokeofoemjeleaaDoorTop
import Derived.Test.YtokeofoemjeleaaDoorWalkM
import Derived.Test.YtokeofoemjeleaaDoorCards
import Derived.ProofKit
import Derived.SevenTiedAt
namespace Go.Proofs.YtokeofoemjeleaaDoor
open Go Go.Y Go.ChangeShapes Go.WideShapes Go.ChangeAt Go.RowKit

set_option maxRecDepth 100000 in
theorem errors_lifted (os : Os) (started : os.Started) (H : Type) (enc : TypeId × Value → H) :
    ReturnsInHanded {} Tryd.checked os 4 .any (fun w args => (Rows.tablesErrorsSpec.pre enc Tryd.prog Tryd.f4 [] false w args ∧ laidMetH Tryd.prog laids w) ∧ sizedMet enc Tryd.prog Tryd.f4 (OpenSpec.ofChange Rows.tablesErrorsSpec) false w args)
      (Rows.tablesErrorsSpec.post enc Tryd.prog Tryd.f4 false true false false) := by
  refine handed_shaped (C := Tryd.checked) (X := fun w _ => laidMetH Tryd.prog laids w) (fun _ _ _ hh h => h.of_heap hh) own started (by kernel_rfl) Tryd.func4
    (ChangeSpec.witness_shaped (enc := enc) (C := Tryd.checked) (os := os) (X := fun w _ => laidMetH Tryd.prog laids w) false (World.doorLaid Tryd.prog 400 os) #[.slice none 0 0, .slice none 0 0, .int .i64 0] 8 rfl (World.shaped_of_RefB (by kernel_rfl) (by kernel_rfl)) (by kernel_rfl) (by kernel_rfl) (by kernel_rfl) (door_met os _)) ?_
  intro W base args ds gs before hval0 hW hsh hL
  have hval : ∀ (j : Nat) t v, Tryd.f4.params[j]? = some t → args[j]? = some v → Value.okWide Tryd.prog W .any base t v := hval0
  have hW' := hW
  obtain ⟨p, q, hA0, hV, rfl, hfz, hnd⟩ := hW
  have hA : DataW.TrodAll enc Tryd.prog W 0 (fun _ => true) true [22, 22, 2] args.toList ds p := hA0
  obtain ⟨v0, v1, v2, d0, d1, d2, p0, p1, p2, rfl, rfl, rfl, h0, h1, h2⟩ := trodAll_three hA
  obtain ⟨rfl, rfl⟩ := trodVars_none hV
  obtain ⟨a, xs, c, rfl, S, hx⟩ := open_hs h0 (okWide_slice (under_slice tok22.k) (hval 0 22 v0 rfl rfl))
  obtain ⟨a2, ys, c2, rfl, S2, hy⟩ := open_hs h1 (okWide_slice (under_slice tok22.k) (hval 1 22 v1 rfl rfl))
  obtain ⟨least, rfl, hleast⟩ := open_i tok2.k (hval 2 2 v2 rfl rfl) h2
  refine (errors_law (Mem.start W) (globs_of hL hsh) S hx S2 hy).mono fun e W' he => ?_
  obtain ⟨v, rfl, rfl, hb⟩ := of_ret he
  exact ⟨_, rfl, post_true laidOut (by kernel_rfl) hW' rfl hb ⟨rfl, rfl, rfl⟩ rfl tokB.k⟩
theorem tablesErrors_holds : Rows.TablesErrorsSaid :=
  OpenClaim.holds_of_wide 4 Tryd.f4 rfl rfl rfl rfl rfl rfl rfl ⟨rfl, rfl, rfl, rfl, rfl⟩ rfl rfl rfl rfl rfl (by kernel_rfl) Tryd.func4 (by kernel_rfl)
    (of_decide_eq_true (by kernel_rfl)) (by unfold Func.isWrapper; rw [if_neg (of_decide_eq_false (by kernel_rfl))]; exact ⟨rfl, rfl⟩)
    (fun os started H enc _ => errors_lifted os started H enc)
theorem tablesErrors_card : Rows.TablesErrorsCardSaid :=
  Claim7.holds_tied_plain_at .later [] [.data, .data, .data, .sentinel, .sentinel] true (true, "87ad62ff78ff66d374cc75b455388ce7f428d801f66932245dc3c47a396c995e") true
    tablesErrors_holds (fun _ h => by cases h) (by kernel_rfl) (fun _ h => by cases h) tablesErrors_row_tie rfl ⟨rfl, rfl⟩ (by kernel_rfl) rfl
    (fun f fn hf hfn => by
      obtain rfl : f = 4 := Option.some.inj ((show Tryd.prog.funcNamed "paternoster/paternosterlaw11.TablesErrors" = some 4 by kernel_rfl).symm.trans hf) |>.symm
      obtain rfl : fn = Tryd.f4 := (Option.some.inj (Tryd.func4.symm.trans hfn)).symm
      exact ⟨by kernel_rfl, fun j t ht => by
        have hm : t ∈ ([22, 22, 2] : List TypeId) := by
          have h1 := Array.mem_of_getElem? ht
          have h2 : Tryd.f4.params = ([22, 22, 2] : List TypeId).toArray := rfl
          rw [h2] at h1
          simpa using h1
        have hall : (([22, 22, 2] : List TypeId).all fun u => !Tryd.prog.wantsStandIn u) = true := by kernel_rfl
        exact (show Tryd.prog.wantsStandIn t = false by simpa using List.all_eq_true.1 hall t hm)⟩)
    (by kernel_rfl)
end Go.Proofs.YtokeofoemjeleaaDoor
