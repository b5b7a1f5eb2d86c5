/- Opening what the makers of notices take. -/
import Derived.Test.YtmmhmcplegpenaaGreatDoorTopS
import Derived.Test.YtmmhmcplegpenaaGreatDoorJ13
namespace Go.Proofs.YtmmhmcplegpenaaGreatDoor
open Go Go.Y Go.ChangeShapes Go.WideShapes Go.ChangeAt Go.RowKit
set_option linter.unusedSimpArgs false
set_option linter.unusedVariables false
set_option maxRecDepth 100000
section
variable {H:Type} {enc:TypeId × Value→H} {w:World} {hd:Bool}
theorem arr93:tk Tryz.prog 93=.array 5 5:=by kernel_rfl
theorem cells93:Tryz.prog.cellsOf 93=5:=by kernel_rfl
theorem el_q5 (n:Nat) (cs:List Value) (y:DataW H × List MemPlace) (h:DataW.trod enc Tryz.prog w 0 (fun _=>true) hd n 93 cs=some y) (hl:cs.length=5) :
  ∃ X,Akd (G0 w) cs X∧∀ u∈cs,u.oneCell' = true:=by
 match cs,hl with
 | [c0,c1,c2,c3,c4],_ =>
  obtain ⟨xs,m,_,_,_,hn,hel⟩:=DataW.trod_array (Dz arr93) h
  have h0:=hel 0 (by omega)
  have h1:=hel 1 (by omega)
  have h2:=hel 2 (by omega)
  have h3:=hel 3 (by omega)
  have h4:=hel 4 (by omega)
  clear hel h
  rw [List.getElem?_eq_getElem (by omega),Agg] at h0 h1 h2 h3 h4
  obtain ⟨k0,e0,q0⟩:=Ie Cl.k h0
  obtain ⟨k1,e1,q1⟩:=Ie Cl.k h1
  obtain ⟨k2,e2,q2⟩:=Ie Cl.k h2
  obtain ⟨k3,e3,q3⟩:=Ie Cl.k h3
  obtain ⟨k4,e4,q4⟩:=Ie Cl.k h4
  simp at e0 e1 e2 e3 e4
  subst e0 e1 e2 e3 e4
  have a0:(0:Int)≤k0:=q0.1
  have a1:(0:Int)≤k1:=q1.1
  have a2:(0:Int)≤k2:=q2.1
  have a3:(0:Int)≤k3:=q3.1
  have a4:(0:Int)≤k4:=q4.1
  have b0:k0≤255:=q0.2
  have b1:k1≤255:=q1.2
  have b2:k2≤255:=q2.2
  have b3:k3≤255:=q3.2
  have b4:k4≤255:=q4.2
  refine ⟨⟨k0.toNat,k1.toNat,k2.toNat,k3.toNat,k4.toNat⟩,⟨?_,by show k0.toNat < _;omega,by show k1.toNat < _;omega,by show k2.toNat < _;omega,by show k3.toNat < _;omega,by show k4.toNat < _;omega⟩,by simp [Value.oneCell']⟩
  show _=[Value.int .u8 ((k0.toNat:Nat):Int),.int .u8 ((k1.toNat:Nat):Int),.int .u8 ((k2.toNat:Nat):Int),.int .u8 ((k3.toNat:Nat):Int),.int .u8 ((k4.toNat:Nat):Int)]
  rw [Int.toNat_of_nonneg a0,Int.toNat_of_nonneg a1,Int.toNat_of_nonneg a2,Int.toNat_of_nonneg a3,Int.toNat_of_nonneg a4]
theorem cells73:Tryz.prog.cellsOf 73=1:=by kernel_rfl
theorem open_B {v:Value} {d:DataW H} {p:List MemPlace} (h:DataW.Trod enc Tryz.prog w 0 (fun _=>true) hd 73 v d p) (hv:∃ cs,v=.agg cs) :
  ∃ (bs:List Q5) (ba:Option Addr) (bc:Nat),v=.agg #[.slice ba bs.length bc]∧Ag Akd 5 (G0 w) (.slice ba bs.length bc) bs:=by
 obtain ⟨fuel,hf⟩:=h
 obtain ⟨cs,rfl⟩:=hv
 obtain ⟨m,hl,hf⟩:=Sj Vq.k hf
 have hl1:cs.toList.length=1:=by rw [cells73] at hl;simpa [Value.cells] using hl
 obtain ⟨c0,hcs⟩:∃ c0,cs.toList=[c0]:=match cs.toList,hl1 with
  | [c0],_=>⟨c0,rfl⟩
 obtain ⟨y0,h0⟩:=hf 0 0 1 71 rfl
 simp only [Value.cells,hcs,List.drop_zero,List.take_succ_cons,List.take_zero,List.drop_succ_cons] at h0
 obtain ⟨a,xs,k,e0,S,_⟩:=Xv Vr.k cells93 (by decide) el_q5 h0
 simp only [List.cons.injEq,and_true] at e0
 subst e0
 exact ⟨xs,a,k,Ajb hcs,S⟩
end
end Go.Proofs.YtmmhmcplegpenaaGreatDoor
