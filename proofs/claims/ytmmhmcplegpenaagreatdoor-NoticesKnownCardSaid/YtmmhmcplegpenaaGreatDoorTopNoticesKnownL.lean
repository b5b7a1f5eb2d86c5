/- Proved: whatever the input, paternosterlaw25.NoticesKnown returns true, and the input reads as it did (the lifted law). -/
import Derived.Test.YtmmhmcplegpenaaGreatDoorTop
import Derived.Test.YtmmhmcplegpenaaGreatDoorJ19
namespace Go.Proofs.YtmmhmcplegpenaaGreatDoor
open Go Go.Y Go.ChangeShapes Go.WideShapes Go.ChangeAt Go.RowKit
set_option linter.unusedSimpArgs false
set_option linter.unusedVariables false
set_option maxRecDepth 100000 in
theorem Pz (os:Os) (started:os.Started) (H:Type) (enc:TypeId × Value→H) :
  ReturnsInHanded {} Tryz.checked os 9 .any (fun w args=>(Rows.noticesKnownSpec.pre enc Tryz.prog Tryz.f9 [] false w args∧laidMetH Tryz.prog Ahf w)∧sizedMet enc Tryz.prog Tryz.f9 (OpenSpec.ofChange Rows.noticesKnownSpec) false w args)
   (Rows.noticesKnownSpec.post enc Tryz.prog Tryz.f9 false true false false):=by
 refine Y4 (C:=Tryz.checked) (X:=fun w _=>laidMetH Tryz.prog Ahf w) (fun _ _ _ hh h=>h.of_heap hh) own started (by kernel_rfl) Tryz.func9
  (ChangeSpec.witness_shaped (enc:=enc) (C:=Tryz.checked) (os:=os) (X:=fun w _=>laidMetH Tryz.prog Ahf w) false (World.laidAll Tryz.prog os Ahf) #[] 8 (World.laidAll_os _ _ _) (World.shaped_of_ZipB (by kernel_rfl) (by kernel_rfl)) (by kernel_rfl) (by kernel_rfl) (by kernel_rfl) (by rw [MakeChecks.laidMetH_plain _ _ _ (by kernel_rfl)];exact laidMet_laidAll _ (by kernel_rfl) (by kernel_rfl))) ?_
 intro W base args ds gs before hval0 hW hsh hL
 have hval:∀ (j:Nat) t v,Tryz.f9.params[j]?=some t→args[j]?=some v→Value.okWide Tryz.prog W .any base t v:=hval0
 have hW':=hW
 obtain ⟨p,q,hA0,hV,rfl,hfz,hnd⟩:=hW
 have hA:DataW.TrodAll enc Tryz.prog W 0 (fun _=>true) true [] args.toList ds p:=hA0
 obtain ⟨rfl,rfl,rfl⟩:=trodAll_none hA
 obtain ⟨rfl,rfl⟩:=trodVars_none hV
 refine (Ret.plain (Mem.start W) (Akt (Mem.start W) (Azt hL hsh))).mono fun e W' he=>?_
 obtain ⟨v,rfl,rfl,hb⟩:=of_ret he
 exact ⟨_,rfl,Arn laidOut (by kernel_rfl) hW' rfl hb ⟨rfl,rfl,rfl⟩ rfl tokB.k⟩
end Go.Proofs.YtmmhmcplegpenaaGreatDoor
