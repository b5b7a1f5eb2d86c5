/- Proved: whatever the input, paternosterlaw25.NoticesKnown returns true, and the input reads as it did. -/
import Derived.Test.YtmmhmcplegpenaaGreatDoorTopNoticesKnownH
import Derived.Test.YtmmhmcplegpenaaGreatDoorCards
import Derived.SevenTiedAt
namespace Go.Proofs.YtmmhmcplegpenaaGreatDoor
open Go Go.Y Go.ChangeShapes Go.WideShapes Go.ChangeAt Go.RowKit
set_option linter.unusedSimpArgs false
set_option linter.unusedVariables false
theorem noticesKnown_card:Rows.NoticesKnownCardSaid :=
 Claim7.holds_tied_plain_at .later [] [.data,.data,.data,.data,.sentinel,.sentinel,.pinned] true (true,"e0425224d7acef56497a043dd38d783ec2a62dc99b4690e3f747ac34140bf903") true
  Qt (fun _ h=>by cases h) (by kernel_rfl) (fun _ h=>by cases h) noticesKnown_row_tie rfl ⟨rfl,rfl⟩ (by kernel_rfl) rfl
  (fun f fn hf hfn=>by
   obtain rfl:f=9:=Option.some.inj ((show Tryz.prog.funcNamed "paternoster/paternosterlaw25.NoticesKnown" = some 9 by kernel_rfl).symm.trans hf) |>.symm
   obtain rfl:fn=Tryz.f9:=(Option.some.inj (Tryz.func9.symm.trans hfn)).symm
   exact ⟨by kernel_rfl,fun j t ht=>by
    have hm:t∈([]:List TypeId):=by
     have h1:=Array.mem_of_getElem? ht
     have h2:Tryz.f9.params=([]:List TypeId).toArray:=rfl
     rw [h2] at h1
     exact List.mem_toArray.1 h1
    have hall:(([]:List TypeId).all fun u=>!Tryz.prog.wantsStandIn u)=true:=by kernel_rfl
    exact (show Tryz.prog.wantsStandIn t=false by simpa using List.all_eq_true.1 hall t hm)⟩)
  (by kernel_rfl)
end Go.Proofs.YtmmhmcplegpenaaGreatDoor
