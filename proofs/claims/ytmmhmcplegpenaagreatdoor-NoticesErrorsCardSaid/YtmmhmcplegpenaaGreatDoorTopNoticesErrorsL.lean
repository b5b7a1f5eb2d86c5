/- Proved: whatever the input, paternosterlaw25.NoticesErrors returns true, and the input reads as it did (the lifted law). -/
import Derived.Test.YtmmhmcplegpenaaGreatDoorTopR
import Derived.Test.YtmmhmcplegpenaaGreatDoorJ16
namespace Go.Proofs.YtmmhmcplegpenaaGreatDoor
open Go Go.Y Go.ChangeShapes Go.WideShapes Go.ChangeAt Go.RowKit
set_option linter.unusedSimpArgs false
set_option linter.unusedVariables false
set_option maxRecDepth 100000 in
theorem Mp (os:Os) (started:os.Started) (H:Type) (enc:TypeId × Value→H) :
  ReturnsInHanded {} Tryz.checked os 6 .any (fun w args=>(Rows.noticesErrorsSpec.pre enc Tryz.prog Tryz.f6 [] false w args∧laidMetH Tryz.prog Aaj w)∧sizedMet enc Tryz.prog Tryz.f6 (OpenSpec.ofChange Rows.noticesErrorsSpec) false w args)
   (Rows.noticesErrorsSpec.post enc Tryz.prog Tryz.f6 false true false false):=by
 refine Vc (C:=Tryz.checked) (X:=fun w _=>laidMetH Tryz.prog Aaj w) (fun _ _ _ hh h=>h.of_heap hh) own started (by kernel_rfl) Tryz.func6
  (ChangeSpec.witness_shaped (enc:=enc) (C:=Tryz.checked) (os:=os) (X:=fun w _=>laidMetH Tryz.prog Aaj w) false (World.laidAll Tryz.prog os Aaj) #[.agg #[.slice none 0 0,.int .i64 0],.agg #[.slice none 0 0],.agg #[.int .u8 0,.int .i64 0,.int .i64 0,.int .i64 0,.slice none 0 0]] 8 (World.laidAll_os _ _ _) (World.shaped_of_ZipB (by kernel_rfl) (by kernel_rfl)) (by kernel_rfl) (by kernel_rfl) (by kernel_rfl) (by rw [MakeChecks.laidMetH_plain _ _ _ (by kernel_rfl)];exact laidMet_laidAll _ (by kernel_rfl) (by kernel_rfl))) ?_
 intro W base args ds gs before hval0 hW hsh hL
 have hval:∀ (j:Nat) t v,Tryz.f6.params[j]?=some t→args[j]?=some v→Value.okWide Tryz.prog W .any base t v:=hval0
 have hW':=hW
 obtain ⟨p,q,hA0,hV,rfl,hfz,hnd⟩:=hW
 have hA:DataW.TrodAll enc Tryz.prog W 0 (fun _=>true) true [51,54,65] args.toList ds p:=hA0
 obtain ⟨v0,v1,v2,d0,d1,d2,p0,p1,p2,rfl,rfl,rfl,h0,h1,h2⟩:=trodAll_three hA
 obtain ⟨rfl,rfl⟩:=trodVars_none hV
 obtain ⟨c,ka,kc,rfl,SC⟩:=open_R h0 (Of Co.k (hval 0 51 v0 rfl rfl))
 obtain ⟨l,a1,c1,rfl,S⟩:=open_L h1 (Of Ba.k (hval 1 54 v1 rfl rfl))
 obtain ⟨x,na,nc,rfl,hN,SI⟩:=open_N h2 (Of Bm.k (hval 2 65 v2 rfl rfl))
 refine (Ret.plain (Mem.start W) (Yj (Mem.start W) (Aml hL hsh) SC S hN SI)).mono fun e W' he=>?_
 obtain ⟨v,rfl,rfl,hb⟩:=of_ret he
 exact ⟨_,rfl,Aic laidOut (by kernel_rfl) hW' rfl hb ⟨rfl,rfl,rfl⟩ rfl tokB.k⟩
end Go.Proofs.YtmmhmcplegpenaaGreatDoor
