/- Proved: whatever the input, paternosterlaw11.TablesFind returns true, and the input reads as it did. -/
import Derived.Test.YtokeofoemjeleaaDoorTop
import Derived.Test.YtokeofoemjeleaaDoorWalkI
import Derived.Test.YtokeofoemjeleaaDoorCards
import Derived.ProofKit
import Derived.SevenTiedAt
namespace Go.Proofs.YtokeofoemjeleaaDoor
open Go Go.Y Go.ChangeShapes Go.WideShapes Go.ChangeAt Go.RowKit

set_option maxRecDepth 100000 in
theorem find_lifted (os : Os) (started : os.Started) (H : Type) (enc : TypeId × Value → H) :
    ReturnsInHanded {} Tryd.checked os 8 .any (fun w args => (Rows.tablesFindSpec.pre enc Tryd.prog Tryd.f8 [] false w args ∧ laidMetH Tryd.prog laids w) ∧ sizedMet enc Tryd.prog Tryd.f8 (OpenSpec.ofChange Rows.tablesFindSpec) false w args)
      (Rows.tablesFindSpec.post enc Tryd.prog Tryd.f8 false true false false) := by
  refine handed_shaped (C := Tryd.checked) (X := fun w _ => laidMetH Tryd.prog laids w) (fun _ _ _ hh h => h.of_heap hh) own started (by kernel_rfl) Tryd.func8
    (ChangeSpec.witness_shaped (enc := enc) (C := Tryd.checked) (os := os) (X := fun w _ => laidMetH Tryd.prog laids w) false (World.doorLaid Tryd.prog 400 os) #[.slice none 0 0, .int .u64 0] 8 rfl (World.shaped_of_RefB (by kernel_rfl) (by kernel_rfl)) (by kernel_rfl) (by kernel_rfl) (by kernel_rfl) (door_met os _)) ?_
  intro W base args ds gs before hval0 hW hsh hL
  have hval : ∀ (j : Nat) t v, Tryd.f8.params[j]? = some t → args[j]? = some v → Value.okWide Tryd.prog W .any base t v := hval0
  have hW' := hW
  obtain ⟨p, q, hA0, hV, rfl, hfz, hnd⟩ := hW
  have hA : DataW.TrodAll enc Tryd.prog W 0 (fun _ => true) true [22, 37] args.toList ds p := hA0
  obtain ⟨v0, v1, d0, d1, p0, p1, rfl, rfl, rfl, h0, h1⟩ := trodAll_two hA
  obtain ⟨rfl, rfl⟩ := trodVars_none hV
  obtain ⟨a, xs, c, rfl, S, hx⟩ := open_hs h0 (okWide_slice (under_slice tok22.k) (hval 0 22 v0 rfl rfl))
  obtain ⟨key, rfl, hkey⟩ := open_i tok37.k (hval 1 37 v1 rfl rfl) h1
  refine (find_law (Mem.start W) (globs_of hL hsh) S hx).mono fun e W' he => ?_
  obtain ⟨v, rfl, rfl, hb⟩ := of_ret he
  exact ⟨_, rfl, post_true laidOut (by kernel_rfl) hW' rfl hb ⟨rfl, rfl, rfl⟩ rfl tokB.k⟩
theorem tablesFind_holds : Rows.TablesFindSaid :=
  OpenClaim.holds_of_wide 8 Tryd.f8 rfl rfl rfl rfl rfl rfl rfl ⟨rfl, rfl, rfl, rfl, rfl⟩ rfl rfl rfl rfl rfl (by kernel_rfl) Tryd.func8 (by kernel_rfl)
    (of_decide_eq_true (by kernel_rfl)) (by unfold Func.isWrapper; rw [if_neg (of_decide_eq_false (by kernel_rfl))]; exact ⟨rfl, rfl⟩)
    (fun os started H enc _ => find_lifted os started H enc)
theorem tablesFind_card : Rows.TablesFindCardSaid :=
  Claim7.holds_tied_plain_at .later [] [.data, .data, .data, .sentinel, .sentinel] true (true, "87ad62ff78ff66d374cc75b455388ce7f428d801f66932245dc3c47a396c995e") true
    tablesFind_holds (fun _ h => by cases h) (by kernel_rfl) (fun _ h => by cases h) tablesFind_row_tie rfl ⟨rfl, rfl⟩ (by kernel_rfl) rfl
    (fun f fn hf hfn => by
      obtain rfl : f = 8 := Option.some.inj ((show Tryd.prog.funcNamed "paternoster/paternosterlaw11.TablesFind" = some 8 by kernel_rfl).symm.trans hf) |>.symm
      obtain rfl : fn = Tryd.f8 := (Option.some.inj (Tryd.func8.symm.trans hfn)).symm
      exact ⟨by kernel_rfl, fun j t ht => by
        have hm : t ∈ ([22, 37] : List TypeId) := by
          have h1 := Array.mem_of_getElem? ht
          have h2 : Tryd.f8.params = ([22, 37] : List TypeId).toArray := rfl
          rw [h2] at h1
          simpa using h1
        have hall : (([22, 37] : List TypeId).all fun u => !Tryd.prog.wantsStandIn u) = true := by kernel_rfl
        exact (show Tryd.prog.wantsStandIn t = false by simpa using List.all_eq_true.1 hall t hm)⟩)
    (by kernel_rfl)
end Go.Proofs.YtokeofoemjeleaaDoor
