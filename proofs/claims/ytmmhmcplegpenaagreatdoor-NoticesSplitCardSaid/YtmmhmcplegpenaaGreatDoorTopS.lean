/- Opening what the makers take. -/
import Derived.Test.YtmmhmcplegpenaaGreatDoorTop
import Derived.Test.YtmmhmcplegpenaaGreatDoorJ13
namespace Go.Proofs.YtmmhmcplegpenaaGreatDoor
open Go Go.Y Go.ChangeShapes Go.WideShapes Go.ChangeAt Go.RowKit
set_option linter.unusedSimpArgs false
set_option linter.unusedVariables false
set_option maxRecDepth 100000
section
variable {H:Type} {enc:TypeId × Value→H} {w:World} {hd:Bool}
theorem Agg:Tryz.prog.cellsOf 5=1:=by kernel_rfl
theorem arr39:tk Tryz.prog 39=.array 4 5:=by kernel_rfl
theorem cells39:Tryz.prog.cellsOf 39=4:=by kernel_rfl
theorem Ajb {cs:Array Value} {l:List Value} (h:cs.toList=l):Value.agg cs=.agg l.toArray:=by rw [← h]
theorem el_b (n:Nat) (cs:List Value) (y:DataW H × List MemPlace) (h:DataW.trod enc Tryz.prog w 0 (fun _=>true) hd n 5 cs=some y) (_:cs.length=1) :
  ∃ X,rdB (G0 w) cs X∧∀ u∈cs,u.oneCell' = true:=by
 obtain ⟨z,rfl,hk⟩:=Ie Cl.k h
 have h1:(0:Int)≤z:=hk.1
 have h2:z≤255:=hk.2
 refine ⟨UInt8.ofNat z.toNat,?_,by simp [Value.oneCell']⟩
 have:nb (UInt8.ofNat z.toNat)=z:=by simp only [nb,UInt8.toNat_ofNat'];omega
 show [Value.int .u8 z]=_
 rw [this]
theorem el_q4 (n:Nat) (cs:List Value) (y:DataW H × List MemPlace) (h:DataW.trod enc Tryz.prog w 0 (fun _=>true) hd n 39 cs=some y) (hl:cs.length=4) :
  ∃ X,Aaq (G0 w) cs X∧∀ u∈cs,u.oneCell' = true:=by
 match cs,hl with
 | [c0,c1,c2,c3],_ =>
  obtain ⟨xs,m,_,_,_,hn,hel⟩:=DataW.trod_array (Dz arr39) h
  have h0:=hel 0 (by omega)
  have h1:=hel 1 (by omega)
  have h2:=hel 2 (by omega)
  have h3:=hel 3 (by omega)
  clear hel h
  rw [List.getElem?_eq_getElem (by omega),Agg] at h0 h1 h2 h3
  obtain ⟨k0,e0,q0⟩:=Ie Cl.k h0
  obtain ⟨k1,e1,q1⟩:=Ie Cl.k h1
  obtain ⟨k2,e2,q2⟩:=Ie Cl.k h2
  obtain ⟨k3,e3,q3⟩:=Ie Cl.k h3
  simp at e0 e1 e2 e3
  subst e0 e1 e2 e3
  have a0:(0:Int)≤k0:=q0.1
  have a1:(0:Int)≤k1:=q1.1
  have a2:(0:Int)≤k2:=q2.1
  have a3:(0:Int)≤k3:=q3.1
  have b0:k0≤255:=q0.2
  have b1:k1≤255:=q1.2
  have b2:k2≤255:=q2.2
  have b3:k3≤255:=q3.2
  refine ⟨⟨k0.toNat,k1.toNat,k2.toNat,k3.toNat⟩,⟨?_,by show k0.toNat < _;omega,by show k1.toNat < _;omega,by show k2.toNat < _;omega,by show k3.toNat < _;omega⟩,by simp [Value.oneCell']⟩
  show _=[Value.int .u8 ((k0.toNat:Nat):Int),.int .u8 ((k1.toNat:Nat):Int),.int .u8 ((k2.toNat:Nat):Int),.int .u8 ((k3.toNat:Nat):Int)]
  rw [Int.toNat_of_nonneg a0,Int.toNat_of_nonneg a1,Int.toNat_of_nonneg a2,Int.toNat_of_nonneg a3]
theorem cells46:Tryz.prog.cellsOf 46=3:=by kernel_rfl
theorem open_M {v:Value} {d:DataW H} {p:List MemPlace} (h:DataW.Trod enc Tryz.prog w 0 (fun _=>true) hd 46 v d p) (hv:∃ cs,v=.agg cs) :
  ∃ (n:Nat) (qa:Option Addr) (qc:Nat) (qs:List Q4) (za:Option Addr) (zc:Nat) (zs:List UInt8),v=.agg #[.slice qa qs.length qc,.slice za zs.length zc,.int .u8 ((n:Nat):Int)]∧n < 256∧Ag Aaq 4 (G0 w) (.slice qa qs.length qc) qs∧Ag rdB 1 (G0 w) (.slice za zs.length zc) zs:=by
 obtain ⟨fuel,hf⟩:=h
 obtain ⟨cs,rfl⟩:=hv
 obtain ⟨m,hl,hf⟩:=Sj Ol.k hf
 have hl1:cs.toList.length=3:=by rw [cells46] at hl;simpa [Value.cells] using hl
 obtain ⟨c0,c1,c2,hcs⟩:∃ c0 c1 c2,cs.toList=[c0,c1,c2]:=match cs.toList,hl1 with
  | [c0,c1,c2],_=>⟨c0,c1,c2,rfl⟩
 obtain ⟨y0,h0⟩:=hf 0 0 1 42 rfl
 obtain ⟨y1,h1⟩:=hf 1 1 1 32 rfl
 obtain ⟨y2,h2⟩:=hf 2 2 1 5 rfl
 simp only [Value.cells,hcs,List.drop_zero,List.take_succ_cons,List.take_zero,List.drop_succ_cons] at h0 h1 h2
 obtain ⟨m0,_,hf0⟩:=Sj Z3.k h0
 obtain ⟨y3,h3⟩:=hf0 0 0 1 40 rfl
 obtain ⟨a,xs,k,e0,S,_⟩:=Xv Vs.k cells39 (by decide) el_q4 h3
 obtain ⟨b,zs,j,e1,Z,_⟩:=Xv La.k Agg (by decide) el_b h1
 obtain ⟨n,e2,hn⟩:=Ie Cl.k h2
 simp only [List.drop_zero,List.take_succ_cons,List.take_zero,List.cons.injEq,and_true] at e0 e1 e2
 subst e0 e1 e2
 have a1:(0:Int)≤n:=hn.1
 have a2:n≤255:=hn.2
 refine ⟨n.toNat,a,k,xs,b,j,zs,?_,by omega,S,Z⟩
 rw [Int.toNat_of_nonneg a1]
 exact Ajb hcs
end
end Go.Proofs.YtmmhmcplegpenaaGreatDoor
