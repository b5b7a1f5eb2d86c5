/- Own lemmas. -/
import Derived.Test.YtinhmakomfennaaGreatTop
set_option linter.unusedSimpArgs false
set_option linter.unusedVariables false
set_option linter.unusedSectionVars false
namespace Go.Proofs.YtinhmakomfennaaGreat
open Go Go.Y Go.ChangeShapes Go.WideShapes Go.ChangeAt Go.RowKit
set_option maxRecDepth 100000 in
theorem O0 (Y:V.LiveP) (os:Os) (D:os.Started) (H:Type) (enc:TypeId × Value→H) :
  ReturnsInHanded {} Tryz.checked os 3 .any (Rows.topRenderedSpec.pre6 enc Tryz.prog Tryz.f3 Rows.topRenderedRow.domain false) (Rows.topRenderedSpec.post enc Tryz.prog Tryz.f3 false true false false):=by
 refine returnsInHanded_of_change (C:=Tryz.checked) own D kR Tryz.func3
  (ChangeSpec.witness6 (enc:=enc) (C:=Tryz.checked) false ⟨#[],#[.agg #[.int .u8 0,.int .u8 0,.slice none 0 0],.agg #[.int .u16 0,.int .u8 0,.slice none 0 0],.agg #[.int .u16 0,.int .u8 0,.slice none 0 0]],[]⟩ 8 kR kR kR kR) ?_
 intro W I args ds gs J E Z aa _;have z:∀ (j:Nat) t v,Tryz.f3.params[j]?=some t→args[j]?=some v→Value.okWide Tryz.prog W .any I t v:=E;have U:=Z;obtain ⟨p,q,O,hV,rfl,ak,am⟩:=Z;have hA:DataW.TrodAll enc Tryz.prog W 0 (fun _=>true) true [24,27,27] args.toList ds p:=O;obtain ⟨v0,v1,v2,d0,d1,d2,p0,p1,p2,rfl,rfl,rfl,h0,h1,h2⟩:=trodAll_three hA;obtain ⟨rfl,rfl⟩:=trodVars_none hV;obtain ⟨n0,n1,ca,cs,cc,rfl,k0,k1,S,hS⟩:=open_P h0 (Ls tok24.k (z 0 24 v0 rfl rfl));obtain ⟨n2,n3,ab,ag,ae,rfl,k2,k3,S1,ai⟩:=Avg h1 (Ls Ara.k (z 1 27 v1 rfl rfl));obtain ⟨n4,n5,ac,ah,af,rfl,k4,k5,S2,aj⟩:=Avg h2 (Ls Ara.k (z 2 27 v2 rfl rfl));refine (V.toprendered_law Y k0 k1 k2 k3 k4 k5 S S1 S2 (Q7 lies24 (z 0 24 _ rfl rfl)) (Q7 Awb (z 1 27 _ rfl rfl)) (Q7 Awb (z 2 27 _ rfl rfl))).mono fun e W' he=>?_;obtain ⟨v,rfl,rfl,hb⟩:=of_ret he;exact ⟨_,rfl,Alf laidOut kR U rfl hb ⟨rfl,rfl,rfl⟩ rfl tokB.k⟩
theorem P6 (D:V.LiveP):Rows.TopRenderedSaid :=
 OpenClaim.holds_of_wide 3 Tryz.f3 rfl rfl rfl rfl rfl rfl rfl ⟨rfl,rfl,rfl,rfl,rfl⟩ rfl rfl rfl rfl rfl kR Tryz.func3 kR
  (of_decide_eq_true kR) (by unfold Func.isWrapper;rw [if_neg (of_decide_eq_false kR)];exact ⟨rfl,rfl⟩)
  (fun os z H enc _=>O0 D os z H enc)
end Go.Proofs.YtinhmakomfennaaGreat
