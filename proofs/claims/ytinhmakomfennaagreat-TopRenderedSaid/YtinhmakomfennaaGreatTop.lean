/- Own lemmas. -/
import Derived.Test.YtinhmakomfennaaGreatRows
import Derived.Test.YtinhmakomfennaaGreatJ4
import Derived.Test.YtinhmakomfennaaGreatYC
import Derived.Test.YtinhmakomfennaaGreatJ12
set_option linter.unusedSimpArgs false
set_option linter.unusedVariables false
set_option linter.unusedSectionVars false
set_option maxRecDepth 100000
namespace Go.Proofs.YtinhmakomfennaaGreat
open Go Go.Y Go.ChangeShapes Go.WideShapes Go.ChangeAt Go.RowKit
theorem own:ownKnob Tryz.prog.godebug=none:=kR
theorem tokB:TOK Tryz.prog 4 ⟨.bool,1,1,.bool false⟩:=⟨kR,kR,kR⟩
theorem laidOut:laidOutB Tryz.prog=true:=kR
theorem Ayq {cs:Array Value} {l:List Value} (h:cs.toList=l):Value.agg cs=.agg l.toArray:=by rw [← h]
section
variable {H:Type} {enc:TypeId × Value→H} {w:World} {hd:Bool}
theorem Axz:Tryz.prog.cellsOf 5=1:=kR
theorem el_b (n:Nat) (cs:List Value) (y:DataW H × List MemPlace) (h:DataW.trod enc Tryz.prog w 0 (fun _=>true) hd n 5 cs=some y) (_:cs.length=1) :
  ∃ X,rdB (G0 w) cs X∧∀ u∈cs,u.oneCell' = true:=by
 obtain ⟨z,rfl,D⟩:=Pz M8.k h;have E:(0:Int)≤z:=D.1;have I:z≤255:=D.2;refine ⟨UInt8.ofNat z.toNat,?_,by simp [Value.oneCell']⟩;have:nb (UInt8.ofNat z.toNat)=z:=by simp only [nb,UInt8.toNat_ofNat'];omega
 show [Value.int .u8 z]=_;rw [this]
theorem Ls {P:Program} {w:World} {r:Go.Reach} {z t:Nat} {v:Value} {D:List (Nat × Nat × Nat)} (I:tk P t=.struct D) (h:Value.okWide P w r z t v):∃ cs,v=.agg cs:=by
 obtain ⟨O,J,_⟩:=Ga I;simp only [Value.okWide,J] at h;obtain ⟨cs,E,_⟩:=h;exact ⟨cs,E⟩
theorem cells24:Tryz.prog.cellsOf 24=3:=kR
theorem open_P {v:Value} {d:DataW H} {p:List MemPlace} (h:DataW.Trod enc Tryz.prog w 0 (fun _=>true) hd 24 v d p) (hv:∃ cs,v=.agg cs) :
  ∃ (n0:Int) (Y:Int) (a2:Option Addr) (O:List UInt8) (c2:Nat),v=.agg #[.int .u8 n0,.int .u8 Y,.slice a2 O.length c2]∧(inKind .u8 n0)∧(inKind .u8 Y)∧(RdSl rdB 1 (G0 w) (.slice a2 O.length c2) O∧O.length≤9223372036854775807):=by
 obtain ⟨aa,J⟩:=h;obtain ⟨cs,rfl⟩:=hv;obtain ⟨m,hl,J⟩:=Zf tok24.k J;have U:cs.toList.length=3:=by rw [cells24] at hl;simpa [Value.cells] using hl
 obtain ⟨z,D,E,I⟩:∃ z D E,cs.toList=[z,D,E]:=match cs.toList,U with
  | [z,D,E],_=>⟨z,D,E,rfl⟩
 obtain ⟨y0,h0⟩:=J 0 0 1 5 rfl;simp only [Value.cells,I,List.drop_zero,List.take_succ_cons,List.take_zero,List.drop_succ_cons] at h0;obtain ⟨n0,Z,k0⟩:=Pz M8.k h0;simp only [List.cons.injEq,and_true] at Z;obtain ⟨y1,h1⟩:=J 1 1 1 5 rfl;simp only [Value.cells,I,List.drop_zero,List.take_succ_cons,List.take_zero,List.drop_succ_cons] at h1;obtain ⟨Y,e1,k1⟩:=Pz M8.k h1;simp only [List.cons.injEq,and_true] at e1;obtain ⟨y2,h2⟩:=J 2 2 1 22 rfl;simp only [Value.cells,I,List.drop_zero,List.take_succ_cons,List.take_zero,List.drop_succ_cons] at h2;obtain ⟨a2,O,c2,e2,S2,k2⟩:=Afe Cj.k Axz tD el_b h2;simp only [List.cons.injEq,and_true] at e2;subst Z e1 e2;exact ⟨_,_,_,_,_,Ayq I,k0,k1,⟨S2,k2⟩⟩
theorem cells27:Tryz.prog.cellsOf 27=3:=kR
theorem Avg {v:Value} {d:DataW H} {p:List MemPlace} (h:DataW.Trod enc Tryz.prog w 0 (fun _=>true) hd 27 v d p) (hv:∃ cs,v=.agg cs) :
  ∃ (n0:Int) (Y:Int) (a2:Option Addr) (O:List UInt8) (c2:Nat),v=.agg #[.int .u16 n0,.int .u8 Y,.slice a2 O.length c2]∧(inKind .u16 n0)∧(inKind .u8 Y)∧(RdSl rdB 1 (G0 w) (.slice a2 O.length c2) O∧O.length≤9223372036854775807):=by
 obtain ⟨aa,J⟩:=h;obtain ⟨cs,rfl⟩:=hv;obtain ⟨m,hl,J⟩:=Zf Ara.k J;have U:cs.toList.length=3:=by rw [cells27] at hl;simpa [Value.cells] using hl
 obtain ⟨z,D,E,I⟩:∃ z D E,cs.toList=[z,D,E]:=match cs.toList,U with
  | [z,D,E],_=>⟨z,D,E,rfl⟩
 obtain ⟨y0,h0⟩:=J 0 0 1 25 rfl;simp only [Value.cells,I,List.drop_zero,List.take_succ_cons,List.take_zero,List.drop_succ_cons] at h0;obtain ⟨n0,Z,k0⟩:=Pz tok25.k h0;simp only [List.cons.injEq,and_true] at Z;obtain ⟨y1,h1⟩:=J 1 1 1 5 rfl;simp only [Value.cells,I,List.drop_zero,List.take_succ_cons,List.take_zero,List.drop_succ_cons] at h1;obtain ⟨Y,e1,k1⟩:=Pz M8.k h1;simp only [List.cons.injEq,and_true] at e1;obtain ⟨y2,h2⟩:=J 2 2 1 22 rfl;simp only [Value.cells,I,List.drop_zero,List.take_succ_cons,List.take_zero,List.drop_succ_cons] at h2;obtain ⟨a2,O,c2,e2,S2,k2⟩:=Afe Cj.k Axz tD el_b h2;simp only [List.cons.injEq,and_true] at e2;subst Z e1 e2;exact ⟨_,_,_,_,_,Ayq I,k0,k1,⟨S2,k2⟩⟩
end
theorem of_ret {w0 w:World} {e:Ending} (h:RetS w0 (G0 w0) [] (fun v=>v=.bool true) e w):∃ v,e=.returned v∧v=.bool true∧Below w0.heap.size w0 w:=by
 cases e with
 | returned v=>exact ⟨v,rfl,h.2,h.1.below⟩
 | panicked c=>exact h.elim
 | outgrown=>exact h.elim
theorem row_le {p:Program} {fits:TypeId→Bool}:∀ (d e count off n:Nat),rowAt p fits d e count off n=true→off≤count * p.cellsOf e
 | 0,e,count,off,n,h=>by cases h
 | d+1,e,count,off,n,h=>by
  unfold rowAt at h;simp only at h;split at h
  ·cases h
  ·rename_i hs;have hdiv:=Nat.div_add_mod off (p.cellsOf e);rcases Bool.or_eq_true_iff.1 h with h | h
   ·simp only [Bool.and_eq_true,decide_eq_true_eq,beq_iff_eq] at h;obtain ⟨⟨h1,h2⟩,_⟩:=h;have:=Nat.mul_le_mul_left (p.cellsOf e) (show off / p.cellsOf e≤count by omega);rw [Nat.mul_comm count];omega
   ·simp only [Bool.and_eq_true,decide_eq_true_eq] at h;have h1:=h.1;have:=Nat.mul_le_mul_left (p.cellsOf e) (show off / p.cellsOf e+1≤count by omega);rw [Nat.mul_add,Nat.mul_one] at this;have hm:=Nat.mod_lt off (Nat.pos_of_ne_zero hs);rw [Nat.mul_comm count];omega
theorem Amt {w:World} {z n c:Nat} {ad:Option Addr} (h:Cell.okWide Tryz.prog w .any z 22 (.slice ad n c)):V.Lies w ad:=by
 intro x Z;subst Z;have h:Cell.ok Tryz.prog w .any z 22 (.slice (some x) n c):=by
  unfold Cell.okWide at h;rw [Tryz.underlying22] at h;exact h
 unfold Cell.ok at h;rw [Tryz.underlying22] at h;obtain ⟨_,_,_,O,D,cells,E,I⟩:=h;refine ⟨O,?_⟩;have U:rowAt Tryz.prog (sameLayout Tryz.prog Tryz.prog.depth · 5) Tryz.prog.depth D (cells / Tryz.prog.cellsOf D) x.off c=true:=by
  have hd:∃ d,Tryz.prog.depth=d+1:=⟨Tryz.prog.depth - 1,by have:0 < Tryz.prog.depth:=of_decide_eq_true kR;omega⟩;obtain ⟨d,hd⟩:=hd;rw [hd] at I;unfold liesAt at I;rw [Tryz.underlying5] at I;rw [hd];simpa [hd] using I
 have h6:=row_le _ _ _ _ _ U;have h7:=Nat.div_mul_le_self cells (Tryz.prog.cellsOf D);unfold World.shape? at E;split at E
 ·rename_i J t mk Y;cases E;exact ⟨J,_,_,Y,tM⟩
 ·cases E
theorem Q7 {w:World} {z n c t:Nat} {x y:Value} {ad:Option Addr} (Z:(∃ D,Tryz.prog.underlying t=some (.struct D))∧Tryz.prog.cellTypes Tryz.prog.depth t=some [(if t=24 then 5 else 25),5,22]) (h:Value.okWide Tryz.prog w .any z t (.agg #[x,y,.slice ad n c])):V.Lies w ad:=by
 obtain ⟨⟨D,hu⟩,Y⟩:=Z;unfold Value.okWide at h;rw [hu] at h;have h:∃ cs,Value.agg #[x,y,.slice ad n c]=.agg cs∧cs.size=Tryz.prog.cellsOf t∧Row.okWide Tryz.prog w .any z t cs:=h;obtain ⟨cs,I,_,ts,E,_,J⟩:=h;cases I;rw [Y] at E;cases E;obtain ⟨u,O,U⟩:=J 2 _ rfl;cases O;exact Amt U
theorem lies24:(∃ z,Tryz.prog.underlying 24=some (.struct z))∧Tryz.prog.cellTypes Tryz.prog.depth 24=some [(if 24=24 then 5 else 25),5,22]:=⟨⟨_,Tryz.underlying24⟩,kR⟩
theorem Awb:(∃ z,Tryz.prog.underlying 27=some (.struct z))∧Tryz.prog.cellTypes Tryz.prog.depth 27=some [(if 27=24 then 5 else 25),5,22]:=⟨⟨_,Tryz.underlying27⟩,kR⟩
end Go.Proofs.YtinhmakomfennaaGreat
