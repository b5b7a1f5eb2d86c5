/- Proved: whatever the input, paternosterlaw25.NoticesApply returns true, and the input reads as it did (the lifted law). -/
import Derived.Test.YtmmhmcplegpenaaGreatDoorTopS
import Derived.Test.YtmmhmcplegpenaaGreatDoorJ15
namespace Go.Proofs.YtmmhmcplegpenaaGreatDoor
open Go Go.Y Go.ChangeShapes Go.WideShapes Go.ChangeAt Go.RowKit
set_option linter.unusedSimpArgs false
set_option linter.unusedVariables false
set_option maxRecDepth 100000 in
theorem Nc (os:Os) (started:os.Started) (H:Type) (enc:TypeId × Value→H) :
  ReturnsInHanded {} Tryz.checked os 4 .any (fun w args=>(Rows.noticesApplySpec.pre enc Tryz.prog Tryz.f4 [] false w args∧laidMetH Tryz.prog Abk w)∧sizedMet enc Tryz.prog Tryz.f4 (OpenSpec.ofChange Rows.noticesApplySpec) false w args)
   (Rows.noticesApplySpec.post enc Tryz.prog Tryz.f4 false true false false):=by
 refine Vj (C:=Tryz.checked) (X:=fun w _=>laidMetH Tryz.prog Abk w) (fun _ _ _ hh h=>h.of_heap hh) own started (by kernel_rfl) Tryz.func4
  (ChangeSpec.witness_shaped (enc:=enc) (C:=Tryz.checked) (os:=os) (X:=fun w _=>laidMetH Tryz.prog Abk w) false (World.laidAll Tryz.prog os Abk) #[.agg #[.slice none 0 0,.slice none 0 0,.int .u8 0],.slice none 0 0] 8 (World.laidAll_os _ _ _) (World.shaped_of_ZipB (by kernel_rfl) (by kernel_rfl)) (by kernel_rfl) (by kernel_rfl) (by kernel_rfl) (by rw [MakeChecks.laidMetH_plain _ _ _ (by kernel_rfl)];exact laidMet_laidAll _ (by kernel_rfl) (by kernel_rfl))) ?_
 intro W base args ds gs before hval0 hW hsh hL
 have hval:∀ (j:Nat) t v,Tryz.f4.params[j]?=some t→args[j]?=some v→Value.okWide Tryz.prog W .any base t v:=hval0
 have hW':=hW
 obtain ⟨p,q,hA0,hV,rfl,hfz,hnd⟩:=hW
 have hA:DataW.TrodAll enc Tryz.prog W 0 (fun _=>true) true [46,47] args.toList ds p:=hA0
 obtain ⟨v0,v1,d0,d1,p0,p1,rfl,rfl,rfl,h0,h1⟩:=trodAll_two hA
 obtain ⟨rfl,rfl⟩:=trodVars_none hV
 obtain ⟨n,qa,qc,qs,za,zc,zs,rfl,hn,SQ,SZ⟩:=open_M h0 (Afa Nj.k (hval 0 46 v0 rfl rfl))
 obtain ⟨a,xs,c,rfl,SX,hx⟩:=open_hs h1 (okWide_slice (Cn Ih.k) (hval 1 47 v1 rfl rfl))
 refine (Ret.plain (Mem.start W) (Acv (Mem.start W) (Aqr hL hsh) hn SQ SZ SX)).mono fun e W' he=>?_
 obtain ⟨v,rfl,rfl,hb⟩:=of_ret he
 exact ⟨_,rfl,Ake laidOut (by kernel_rfl) hW' rfl hb ⟨rfl,rfl,rfl⟩ rfl tokB.k⟩
end Go.Proofs.YtmmhmcplegpenaaGreatDoor
