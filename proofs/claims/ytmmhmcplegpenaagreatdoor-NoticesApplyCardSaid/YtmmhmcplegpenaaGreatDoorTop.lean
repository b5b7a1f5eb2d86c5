/- Opening the arguments. -/
import Derived.Test.YtmmhmcplegpenaaGreatDoorJ1
import Derived.Test.YtmmhmcplegpenaaGreatDoorJ13
namespace Go.Proofs.YtmmhmcplegpenaaGreatDoor
open Go Go.Y Go.ChangeShapes Go.WideShapes Go.ChangeAt Go.RowKit
set_option linter.unusedSimpArgs false
set_option linter.unusedVariables false
set_option maxRecDepth 100000
theorem tokB:TOK Tryz.prog 4 ⟨.bool,1,1,.bool false⟩:=⟨by kernel_rfl,by kernel_rfl,by kernel_rfl⟩
theorem laidOut:laidOutB Tryz.prog=true:=by kernel_rfl
section
variable {H:Type} {enc:TypeId × Value→H} {w:World} {hd:Bool}
theorem Zw {P:Program} {sp:Nat→Bool} {t:TypeId} {fuel:Nat} {cs:List Value} {x:DataW H × List MemPlace} (ht:tk P t=.str) (h:DataW.trod enc P w 0 sp hd fuel t cs=some x):∃ s:List UInt8,cs=[.string (str s)]∧s.length≤9223372036854775807:=by
 obtain ⟨b,h1,h2⟩:=trod_s ht h
 have hl:b.data.toList.length=b.size:=Array.length_toList
 exact ⟨b.data.toList,h1,by rw [hl];exact h2⟩
theorem el_str (n:Nat) (cs:List Value) (y:DataW H × List MemPlace) (h:DataW.trod enc Tryz.prog w 0 (fun _=>true) hd n 9 cs=some y) (_:cs.length=1) :
  ∃ X,Cb (G0 w) cs X∧∀ u∈cs,u.oneCell' = true:=by
 obtain ⟨s,rfl,hk⟩:=Zw Dg.k h
 exact ⟨s,⟨rfl,hk⟩,by simp [Value.oneCell']⟩
theorem cells9:Tryz.prog.cellsOf 9=1:=by kernel_rfl
theorem cells26:Tryz.prog.cellsOf 26=4:=by kernel_rfl
theorem el_item (n:Nat) (cs:List Value) (y:DataW H × List MemPlace) (h:DataW.trod enc Tryz.prog w 0 (fun _=>true) hd n 26 cs=some y) (hl:cs.length=4) :
  ∃ X,Bt (G0 w) cs X∧∀ u∈cs,u.oneCell' = true:=by
 obtain ⟨m,_,hf⟩:=Oq Bi.k h
 match cs,hl with
 | [c0,c1,c2,c3],_ =>
  obtain ⟨y0,h0⟩:=hf 0 0 1 23 rfl
  obtain ⟨y1,h1⟩:=hf 1 1 1 5 rfl
  obtain ⟨y2,h2⟩:=hf 2 2 1 9 rfl
  obtain ⟨y3,h3⟩:=hf 3 3 1 24 rfl
  obtain ⟨k,e0,k0⟩:=H7 Ii.k h0
  obtain ⟨t,e1,k1⟩:=H7 E6.k h1
  obtain ⟨s,e2,k2⟩:=Zw Dg.k h2
  obtain ⟨a,xs,c,e3,k3,k4⟩:=Oo Dv.k cells9 (by omega) el_str h3
  simp at e0 e1 e2 e3
  subst e0 e1 e2 e3
  have a1:(0:Int)≤k:=k0.1
  have a2:k≤18446744073709551615:=k0.2
  have b1:(0:Int)≤t:=k1.1
  have b2:t≤255:=k1.2
  refine ⟨⟨k.toNat,t.toNat,s,xs⟩,⟨a,c,?_,by show k.toNat < _;omega,by show t.toNat < _;omega,k2,k4,k3⟩,by simp [Value.oneCell']⟩
  show _=[Value.int .u64 ((k.toNat:Nat):Int),.int .u8 ((t.toNat:Nat):Int),_,_]
  rw [Int.toNat_of_nonneg a1,Int.toNat_of_nonneg b1]
theorem cells65:Tryz.prog.cellsOf 65=5:=by kernel_rfl
theorem el_note (n:Nat) (cs:List Value) (y:DataW H × List MemPlace) (h:DataW.trod enc Tryz.prog w 0 (fun _=>true) hd n 65 cs=some y) (hl:cs.length=5) :
  ∃ X,D9 (G0 w) cs X∧∀ u∈cs,u.oneCell' = true:=by
 obtain ⟨m,_,hf⟩:=Oq B0.k h
 match cs,hl with
 | [c0,c1,c2,c3,c4],_ =>
  obtain ⟨y0,h0⟩:=hf 0 0 1 5 rfl
  obtain ⟨y1,h1⟩:=hf 1 1 1 3 rfl
  obtain ⟨y2,h2⟩:=hf 2 2 1 3 rfl
  obtain ⟨y3,h3⟩:=hf 3 3 1 3 rfl
  obtain ⟨y4,h4⟩:=hf 4 4 1 22 rfl
  obtain ⟨k,e0,k0⟩:=H7 E6.k h0
  obtain ⟨p,e1,k1⟩:=H7 Cw.k h1
  obtain ⟨q,e2,k2⟩:=H7 Cw.k h2
  obtain ⟨r,e3,k3⟩:=H7 Cw.k h3
  obtain ⟨a,xs,c,e4,k4,k5⟩:=Oo C0.k cells26 (by omega) el_item h4
  simp at e0 e1 e2 e3 e4
  subst e0 e1 e2 e3 e4
  have a1:(0:Int)≤k:=k0.1
  have a2:k≤255:=k0.2
  refine ⟨⟨k.toNat,p,q,r,xs⟩,⟨a,c,?_,by show k.toNat < _;omega,k1,k2,k3,k5,k4⟩,by simp [Value.oneCell']⟩
  show _=[Value.int .u8 ((k.toNat:Nat):Int),_,_,_,_]
  rw [Int.toNat_of_nonneg a1]
theorem open_hs {v:Value} {d:DataW H} {p:List MemPlace} (h:DataW.Trod enc Tryz.prog w 0 (fun _=>true) hd 47 v d p) (hv:∃ a l c,v=.slice a l c) :
  ∃ a xs c,v=.slice a xs.length c∧Ag D9 5 (G0 w) (.slice a xs.length c) xs∧xs.length≤9223372036854775807:=by
 obtain ⟨fuel,hf⟩:=h
 obtain ⟨a0,l0,c0,rfl⟩:=hv
 obtain ⟨a,xs,c,he,h2,h3⟩:=Oo Ih.k cells65 (by omega) el_note hf
 simp only [Value.cells,List.cons.injEq,and_true] at he
 exact ⟨a,xs,c,he,h2,h3⟩
end
theorem Afa {P:Program} {w:World} {r:Go.Reach} {base t:Nat} {v:Value} {fs:List (Nat × Nat × Nat)} (ht:tk P t=.struct fs) (h:Value.okWide P w r base t v):∃ cs,v=.agg cs:=by
 obtain ⟨ff,hu,_⟩:=Hb ht
 simp only [Value.okWide,hu] at h
 obtain ⟨cs,h1,_⟩:=h
 exact ⟨cs,h1⟩
theorem of_ret {w0 w:World} {e:Ending} (h:Bn w0 (G0 w0) [] (fun v=>v=.bool true) e w):∃ v,e=.returned v∧v=.bool true∧Below w0.heap.size w0 w:=by
 cases e with
 | returned v=>exact ⟨v,rfl,h.2,h.1.below⟩
 | panicked c=>exact h.elim
 | outgrown=>exact h.elim
end Go.Proofs.YtmmhmcplegpenaaGreatDoor
