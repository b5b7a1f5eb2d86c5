/- Proved: whatever the input, paternosterlaw25.NoticesSplit returns true, and the input reads as it did (the lifted law). -/
import Derived.Test.YtmmhmcplegpenaaGreatDoorTopB
import Derived.Test.YtmmhmcplegpenaaGreatDoorJ16
namespace Go.Proofs.YtmmhmcplegpenaaGreatDoor
open Go Go.Y Go.ChangeShapes Go.WideShapes Go.ChangeAt Go.RowKit
set_option linter.unusedSimpArgs false
set_option linter.unusedVariables false
set_option maxRecDepth 100000 in
theorem M9 (os:Os) (started:os.Started) (H:Type) (enc:TypeId × Value→H) :
  ReturnsInHanded {} Tryz.checked os 5 .any (fun w args=>(Rows.noticesSplitSpec.pre enc Tryz.prog Tryz.f5 [] false w args∧laidMetH Tryz.prog Abw w)∧sizedMet enc Tryz.prog Tryz.f5 (OpenSpec.ofChange Rows.noticesSplitSpec) false w args)
   (Rows.noticesSplitSpec.post enc Tryz.prog Tryz.f5 false true false false):=by
 refine Vh (C:=Tryz.checked) (X:=fun w _=>laidMetH Tryz.prog Abw w) (fun _ _ _ hh h=>h.of_heap hh) own started (by kernel_rfl) Tryz.func5
  (ChangeSpec.witness_shaped (enc:=enc) (C:=Tryz.checked) (os:=os) (X:=fun w _=>laidMetH Tryz.prog Abw w) false (World.laidAll Tryz.prog os Abw) #[.agg #[.slice none 0 0,.slice none 0 0,.int .u8 0],.agg #[.slice none 0 0],.int .u8 0] 8 (World.laidAll_os _ _ _) (World.shaped_of_ZipB (by kernel_rfl) (by kernel_rfl)) (by kernel_rfl) (by kernel_rfl) (by kernel_rfl) (by rw [MakeChecks.laidMetH_plain _ _ _ (by kernel_rfl)];exact laidMet_laidAll _ (by kernel_rfl) (by kernel_rfl))) ?_
 intro W base args ds gs before hval0 hW hsh hL
 have hval:∀ (j:Nat) t v,Tryz.f5.params[j]?=some t→args[j]?=some v→Value.okWide Tryz.prog W .any base t v:=hval0
 have hW':=hW
 obtain ⟨p,q,hA0,hV,rfl,hfz,hnd⟩:=hW
 have hA:DataW.TrodAll enc Tryz.prog W 0 (fun _=>true) true [46,73,5] args.toList ds p:=hA0
 obtain ⟨v0,v1,v2,d0,d1,d2,p0,p1,p2,rfl,rfl,rfl,h0,h1,h2⟩:=trodAll_three hA
 obtain ⟨rfl,rfl⟩:=trodVars_none hV
 obtain ⟨n,qa,qc,qs,za,zc,zs,rfl,hn,SQ,SZ⟩:=open_M h0 (Tt Ol.k (hval 0 46 v0 rfl rfl))
 obtain ⟨bs,ba,bc,rfl,SB⟩:=open_B h1 (Tt Vq.k (hval 1 73 v1 rfl rfl))
 obtain ⟨z,rfl,hz⟩:=open_i Cl.k (hval 2 5 v2 rfl rfl) h2
 refine (Ret.plain (Mem.start W) (X5 (Mem.start W) (Aqo hL hsh) hn SQ SZ SB hz)).mono fun e W' he=>?_
 obtain ⟨v,rfl,rfl,hb⟩:=of_ret he
 exact ⟨_,rfl,Akj laidOut (by kernel_rfl) hW' rfl hb ⟨rfl,rfl,rfl⟩ rfl tokB.k⟩
end Go.Proofs.YtmmhmcplegpenaaGreatDoor
