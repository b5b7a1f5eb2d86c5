/- Proved: whatever the input, paternosterlaw23.ItemsSame returns true, and the input reads as it did. -/
import Derived.Test.YtmmhmcplegpenaaDoorTop
import Derived.Test.YtmmhmcplegpenaaDoorWalkY
import Derived.Test.YtmmhmcplegpenaaDoorCards
import Derived.ProofKit
import Derived.SevenTiedAt
namespace Go.Proofs.YtmmhmcplegpenaaDoor
open Go Go.Y Go.ChangeShapes Go.WideShapes Go.ChangeAt Go.RowKit
set_option linter.unusedSimpArgs false
set_option linter.unusedVariables false
set_option maxRecDepth 100000 in
theorem same_lifted (os : Os) (started : os.Started) (H : Type) (enc : TypeId × Value → H) :
  ReturnsInHanded {} Tryd.checked os 6 .any (fun w args => (Rows.itemsSameSpec.pre enc Tryd.prog Tryd.f6 [] false w args ∧ laidMetH Tryd.prog laids w) ∧ sizedMet enc Tryd.prog Tryd.f6 (OpenSpec.ofChange Rows.itemsSameSpec) false w args)
   (Rows.itemsSameSpec.post enc Tryd.prog Tryd.f6 false true false false) := by
 refine handed_shaped (C := Tryd.checked) (X := fun w _ => laidMetH Tryd.prog laids w) (fun _ _ _ hh h => h.of_heap hh) own started (by kernel_rfl) Tryd.func6
  (ChangeSpec.witness_shaped (enc := enc) (C := Tryd.checked) (os := os) (X := fun w _ => laidMetH Tryd.prog laids w) false (World.laidAll Tryd.prog os laids) #[.slice none 0 0, .slice none 0 0, .int .u64 0] 8 (World.laidAll_os _ _ _) (World.shaped_of_ZipB (by kernel_rfl) (by kernel_rfl)) (by kernel_rfl) (by kernel_rfl) (by kernel_rfl) (by rw [MakeChecks.laidMetH_plain _ _ _ (by kernel_rfl)]; exact laidMet_laidAll _ (by kernel_rfl) (by kernel_rfl))) ?_
 intro W base args ds gs before hval0 hW hsh hL
 have hval : ∀ (j : Nat) t v, Tryd.f6.params[j]? = some t → args[j]? = some v → Value.okWide Tryd.prog W .any base t v := hval0
 have hW' := hW
 obtain ⟨p, q, hA0, hV, rfl, hfz, hnd⟩ := hW
 have hA : DataW.TrodAll enc Tryd.prog W 0 (fun _ => true) true [22, 22, 27] args.toList ds p := hA0
 obtain ⟨v0, v1, v2, d0, d1, d2, p0, p1, p2, rfl, rfl, rfl, h0, h1, h2⟩ := trodAll_three hA
 obtain ⟨rfl, rfl⟩ := trodVars_none hV
 obtain ⟨a, xs, c, rfl, S, hx⟩ := open_hs h0 (okWide_slice (under_slice tok22.k) (hval 0 22 v0 rfl rfl))
 obtain ⟨a2, ys, c2, rfl, S2, hy⟩ := open_hs h1 (okWide_slice (under_slice tok22.k) (hval 1 22 v1 rfl rfl))
 obtain ⟨key, rfl, hkey⟩ := open_i tok27.k (hval 2 27 v2 rfl rfl) h2
 refine (same_lawI (Mem.start W) (globs_of hL hsh) S S2 hkey.1).mono fun e W' he => ?_
 obtain ⟨v, rfl, rfl, hb⟩ := of_ret he
 exact ⟨_, rfl, post_true laidOut (by kernel_rfl) hW' rfl hb ⟨rfl, rfl, rfl⟩ rfl tokB.k⟩
theorem itemsSame_holds : Rows.ItemsSameSaid :=
 OpenClaim.holds_of_wide 6 Tryd.f6 rfl rfl rfl rfl rfl rfl rfl ⟨rfl, rfl, rfl, rfl, rfl⟩ rfl rfl rfl rfl rfl (by kernel_rfl) Tryd.func6 (by kernel_rfl)
  (of_decide_eq_true (by kernel_rfl)) (by unfold Func.isWrapper; rw [if_neg (of_decide_eq_false (by kernel_rfl))]; exact ⟨rfl, rfl⟩)
  (fun os started H enc _ => same_lifted os started H enc)
theorem itemsSame_card : Rows.ItemsSameCardSaid :=
 Claim7.holds_tied_plain_at .later [] [.data, .data, .data, .data, .sentinel, .sentinel, .pinned] true (true, "a4f069b5db7fe2fcf41ef224949ffd0ed8b3a142c52bdc934f3cb214a7ab30b3") true
  itemsSame_holds (fun _ h => by cases h) (by kernel_rfl) (fun _ h => by cases h) itemsSame_row_tie rfl ⟨rfl, rfl⟩ (by kernel_rfl) rfl
  (fun f fn hf hfn => by
   obtain rfl : f = 6 := Option.some.inj ((show Tryd.prog.funcNamed "paternoster/paternosterlaw23.ItemsSame" = some 6 by kernel_rfl).symm.trans hf) |>.symm
   obtain rfl : fn = Tryd.f6 := (Option.some.inj (Tryd.func6.symm.trans hfn)).symm
   exact ⟨by kernel_rfl, fun j t ht => by
    have hm : t ∈ ([22, 22, 27] : List TypeId) := by
     have h1 := Array.mem_of_getElem? ht
     have h2 : Tryd.f6.params = ([22, 22, 27] : List TypeId).toArray := rfl
     rw [h2] at h1
     simpa using h1
    have hall : (([22, 22, 27] : List TypeId).all fun u => !Tryd.prog.wantsStandIn u) = true := by kernel_rfl
    exact (show Tryd.prog.wantsStandIn t = false by simpa using List.all_eq_true.1 hall t hm)⟩)
  (by kernel_rfl)
end Go.Proofs.YtmmhmcplegpenaaDoor
