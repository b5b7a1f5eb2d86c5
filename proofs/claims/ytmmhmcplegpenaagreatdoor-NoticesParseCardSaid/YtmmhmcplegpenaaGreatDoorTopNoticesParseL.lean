/- Proved: whatever the input, paternosterlaw25.NoticesParse returns true, and the input reads as it did (the lifted law). -/
import Derived.Test.YtmmhmcplegpenaaGreatDoorTop
import Derived.Test.YtmmhmcplegpenaaGreatDoorJ15
namespace Go.Proofs.YtmmhmcplegpenaaGreatDoor
open Go Go.Y Go.ChangeShapes Go.WideShapes Go.ChangeAt Go.RowKit
set_option linter.unusedSimpArgs false
set_option linter.unusedVariables false
set_option maxRecDepth 100000 in
theorem Nb (os:Os) (started:os.Started) (H:Type) (enc:TypeId × Value→H) :
  ReturnsInHanded {} Tryz.checked os 8 .any (fun w args=>(Rows.noticesParseSpec.pre enc Tryz.prog Tryz.f8 [] false w args∧laidMetH Tryz.prog Zm w)∧sizedMet enc Tryz.prog Tryz.f8 (OpenSpec.ofChange Rows.noticesParseSpec) false w args)
   (Rows.noticesParseSpec.post enc Tryz.prog Tryz.f8 false true false false):=by
 refine Ul (C:=Tryz.checked) (X:=fun w _=>laidMetH Tryz.prog Zm w) (fun _ _ _ hh h=>h.of_heap hh) own started (by kernel_rfl) Tryz.func8
  (ChangeSpec.witness_shaped (enc:=enc) (C:=Tryz.checked) (os:=os) (X:=fun w _=>laidMetH Tryz.prog Zm w) false (World.laidAll Tryz.prog os Zm) #[.string ⟨#[]⟩] 8 (World.laidAll_os _ _ _) (World.shaped_of_ZipB (by kernel_rfl) (by kernel_rfl)) (by kernel_rfl) (by kernel_rfl) (by kernel_rfl) (by rw [MakeChecks.laidMetH_plain _ _ _ (by kernel_rfl)];exact laidMet_laidAll _ (by kernel_rfl) (by kernel_rfl))) ?_
 intro W base args ds gs before hval0 hW hsh hL
 have hval:∀ (j:Nat) t v,Tryz.f8.params[j]?=some t→args[j]?=some v→Value.okWide Tryz.prog W .any base t v:=hval0
 have hW':=hW
 obtain ⟨p,q,hA0,hV,rfl,hfz,hnd⟩:=hW
 have hA:DataW.TrodAll enc Tryz.prog W 0 (fun _=>true) true [9] args.toList ds p:=hA0
 obtain ⟨v0,d0,rfl,rfl,h0⟩:=trodAll_one hA
 obtain ⟨rfl,rfl⟩:=trodVars_none hV
 obtain ⟨s,rfl,hs⟩:=open_s Bq.k (hval 0 9 v0 rfl rfl) h0
 refine (Ret.plain (Mem.start W) (Yw (Mem.start W) (Alc hL hsh) hs)).mono fun e W' he=>?_
 obtain ⟨v,rfl,rfl,hb⟩:=of_ret he
 exact ⟨_,rfl,Agc laidOut (by kernel_rfl) hW' rfl hb ⟨rfl,rfl,rfl⟩ rfl tokB.k⟩
end Go.Proofs.YtmmhmcplegpenaaGreatDoor
