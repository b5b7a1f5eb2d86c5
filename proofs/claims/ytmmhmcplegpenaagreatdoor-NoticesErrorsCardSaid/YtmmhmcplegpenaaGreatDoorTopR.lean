/- Opening rules, lists, notices. -/
import Derived.Test.YtmmhmcplegpenaaGreatDoorTop
import Derived.Test.YtmmhmcplegpenaaGreatDoorJ15
namespace Go.Proofs.YtmmhmcplegpenaaGreatDoor
open Go Go.Y Go.ChangeShapes Go.WideShapes Go.ChangeAt Go.RowKit
set_option linter.unusedSimpArgs false
set_option linter.unusedVariables false
section
variable {H:Type} {enc:TypeId × Value→H} {P:Program} {w:World} {sp:Nat→Bool} {hd:Bool}
theorem Ahc {t:TypeId} {fs:List (Nat × Nat × Nat)} {fuel:Nat} {cs:List Value} {x:DataW H × List MemPlace} (ht:tk P t=.struct fs) (h:DataW.trod enc P w 0 sp hd fuel t cs=some x) :
  ∃ n,cs.length=P.cellsOf t∧∀ (i o c ty:Nat),fs[i]?=some (o,c,ty)→∃ y,DataW.trod enc P w 0 sp hd n ty ((cs.drop o).take c)=some y∧SizeOf.sizeOf y.1 < SizeOf.sizeOf x.1:=by
 obtain ⟨ff,hu,hff⟩:=Hi ht
 obtain ⟨xs,n,_,hx,hl,hxs,hf⟩:=DataW.trod_struct hu h
 refine ⟨n,hl,fun i o c ty hi=>?_⟩
 rw [← hff] at hi
 simp only [List.getElem?_map,Option.map_eq_some_iff] at hi
 obtain ⟨f,hfi,he⟩:=hi
 simp only [Prod.mk.injEq] at he
 obtain ⟨rfl,rfl,rfl⟩:=he
 have hi2:ff[i]?=some f:=by simpa using hfi
 have hlt:i < xs.length:=by
  rw [hxs]
  rcases Nat.lt_or_ge i ff.size with h' | h'
  ·exact h'
  ·simp [Array.getElem?_eq_none h'] at hi2
 refine ⟨xs[i],by rw [hf i f hi2];exact List.getElem?_eq_getElem hlt,?_⟩
 have hm1:(xs[i]).1∈xs.map (·.1):=List.mem_map.2 ⟨xs[i],List.getElem_mem hlt,rfl⟩
 have:=List.sizeOf_lt_of_mem hm1
 rw [hx];simp only [DataW.agg.sizeOf_spec];omega
theorem Ake {α:Type} {rd:Rd α} {sz:Nat} {t e:TypeId} {fuel:Nat} {cs:List Value} {x:DataW H × List MemPlace} (ht:tk P t=.slice e) (hsz:P.cellsOf e=sz) (hpos:0 < sz)
  (el:∀ n cs y,DataW.trod enc P w 0 sp hd n e cs=some y→cs.length=sz→SizeOf.sizeOf y.1 < SizeOf.sizeOf x.1→∃ X,rd (G0 w) cs X∧∀ u∈cs,u.oneCell' = true)
  (h:DataW.trod enc P w 0 sp hd fuel t cs=some x) (hsp:∀ b,sp b=true:=by intro;rfl):∃ a xs c,cs=[.slice a xs.length c]∧Au rd sz (G0 w) (.slice a xs.length c) xs∧xs.length≤9223372036854775807:=by
 subst hsz
 rcases Deep.open_slice (Dw ht) h with ⟨rfl,_⟩ | ⟨a,len,cap,m,n,D,Pl,rfl,_,hlc,hcm,hm,hx,hel⟩
 ·exact ⟨none,[],0,rfl,Au.nil,by simp⟩
 have hlm:len≤m:=by rw [hm];split <;> omega
 have hX:∀ i,i < len→∃ X:α,∃ cs',w.cells? 0 (a.add (i * P.cellsOf e)) (P.cellsOf e)=some cs'∧cs'.length=P.cellsOf e∧rd (G0 w) cs' X∧(∀ u∈cs',u.oneCell' = true) ∧
   ∀ j u,cs'[j]?=some u→w.cell? (a.add (i * P.cellsOf e+j))=some u:=by
  intro i hi
  obtain ⟨cs',h1,h2⟩:=hel i (by omega)
  have h3:=h1
  simp only [World.cells?,Nat.zero_le,if_true] at h3
  have hl:=mapM_some_length h3
  obtain ⟨X,h4,h5⟩:=el n cs' _ h2 (by rw [hl];simp) (by
   have hm1:D i∈(List.range len).map D:=List.mem_map.2 ⟨i,by simpa using hi,rfl⟩
   have:=List.sizeOf_lt_of_mem hm1
   rw [hx];simp only [DataW.slice.sizeOf_spec];omega)
  refine ⟨X,cs',h1,by rw [hl];simp,h4,h5,fun j u hj=>?_⟩
  have hjl:j < P.cellsOf e:=by
   have:=Bj hj
   rw [hl] at this
   simpa using this
  have:=mapM_some_get h3 j j (by simp [hjl])
  rw [hj] at this
  rw [Deep.add_add] at this
  exact this
 by_cases h0:len=0
 ·subst h0
  by_cases hc:cap=0
  ·subst hc
   exact ⟨some a,[],0,rfl,⟨_,_,rfl,Nat.le_refl _,by omega,Or.inl ⟨rfl,rfl⟩⟩,by simp⟩
  ·rw [if_pos (hsp a.block)] at hm
   obtain ⟨cs',h1,_⟩:=hel 0 (by omega)
   simp only [World.cells?,Nat.zero_le,if_true] at h1
   have hl:=mapM_some_length h1
   have hl':0 < cs'.length:=by rw [hl];simpa using hpos
   have h2:=mapM_some_get h1 0 0 (by simp [hpos])
   rw [List.getElem?_eq_getElem hl'] at h2
   have hsp:a.spot=none:=by
    have:=World.cell?_spot h2
    simpa [Addr.add] using this
   obtain ⟨b,o,s⟩:=a
   simp only at hsp
   subst hsp
   exact ⟨_,[],cap,rfl,⟨_,_,rfl,Nat.zero_le _,hcm,Or.inr ⟨b,o,rfl,by simp⟩⟩,by simp⟩
 ·haveI:Inhabited α:=⟨(hX 0 (by omega)).choose⟩
  obtain ⟨X,hX'⟩:=Deep.choose_lt hX
  obtain ⟨cs0,_,hl0,_,_,hc0⟩:=hX' 0 (by omega)
  have h2:=hc0 0 cs0[0] (List.getElem?_eq_getElem (by omega))
  have hsp:a.spot=none:=by
   have:=World.cell?_spot h2
   simpa [Addr.add] using this
  obtain ⟨b,o,s⟩:=a
  simp only at hsp
  subst hsp
  refine ⟨some ⟨b,o,none⟩,(List.range len).map X,cap,by simp,⟨_,_,by simp,by simpa using hlc,hcm,Or.inr ⟨b,o,rfl,fun i x hx=>?_⟩⟩,by simp only [List.length_map,List.length_range,maxLen] at *;omega⟩
  have hi:i < len:=by have:=Bj hx;simpa using this
  have hxe:x=X i:=by
   rw [List.getElem?_map] at hx
   simp only [List.getElem?_range hi,Option.map_some,Option.some.injEq] at hx
   exact hx.symm
  subst hxe
  obtain ⟨cs',_,h5,h6,h7,h8⟩:=hX' i hi
  refine ⟨cs',h5,h7,fun j v hj=>?_,h6⟩
  rw [Mt]
  have:=h8 j v hj
  rw [Y.add_plain] at this
  rw [Nat.add_assoc]
  exact this
end
section
variable {H:Type} {enc:TypeId × Value→H} {w:World} {hd:Bool}
theorem Apm:Tryz.prog.cellsOf 189=3:=by kernel_rfl
theorem cells79:Tryz.prog.cellsOf 79=6:=by kernel_rfl
theorem el_slot (n:Nat) (cs:List Value) (y:DataW H × List MemPlace) (h:DataW.trod enc Tryz.prog w 0 (fun _=>true) hd n 189 cs=some y) (hl:cs.length=3) :
  ∃ X,T.rdSlot (G0 w) cs X∧∀ u∈cs,u.oneCell' = true:=by
 obtain ⟨m,_,hf⟩:=I2 C8.k h
 match cs,hl with
 | [c0,c1,c2],_ =>
  obtain ⟨y0,h0⟩:=hf 0 0 1 9 rfl
  obtain ⟨y1,h1⟩:=hf 1 1 1 5 rfl
  obtain ⟨y2,h2⟩:=hf 2 2 1 9 rfl
  obtain ⟨s0,e0,k0⟩:=J0 Bq.k h0
  obtain ⟨n1,e1,k1⟩:=Jb Fa.k h1
  obtain ⟨s2,e2,k2⟩:=J0 Bq.k h2
  simp at e0 e1 e2
  subst e0 e1 e2
  exact ⟨⟨s0,n1,s2⟩,⟨rfl,k0,k1,k2⟩,by simp [Value.oneCell']⟩
theorem Ago:∀ (k n:Nat) (cs:List Value) (y:DataW H × List MemPlace),DataW.trod enc Tryz.prog w 0 (fun _=>true) hd n 79 cs=some y→cs.length=6→SizeOf.sizeOf y.1 < k →
  ∃ X,T.rdP (G0 w) cs X∧∀ u∈cs,u.oneCell' = true
 | 0,_,_,_,_,_,h=>by omega
 | k+1,n,cs,y,h,hl,hk=>by
  obtain ⟨m,_,hf⟩:=Ahc Bn.k h
  match cs,hl with
  | [c0,c1,c2,c3,c4,c5],_ =>
   obtain ⟨y0,h0,_⟩:=hf 0 0 1 5 rfl
   obtain ⟨y1,h1,_⟩:=hf 1 1 1 9 rfl
   obtain ⟨y2,h2,_⟩:=hf 2 2 1 9 rfl
   obtain ⟨y3,h3,_⟩:=hf 3 3 1 76 rfl
   obtain ⟨y4,h4,_⟩:=hf 4 4 1 9 rfl
   obtain ⟨y5,h5,hs5⟩:=hf 5 5 1 77 rfl
   obtain ⟨n0,e0,k0⟩:=Jb Fa.k h0
   obtain ⟨s1,e1,k1⟩:=J0 Bq.k h1
   obtain ⟨s2,e2,k2⟩:=J0 Bq.k h2
   obtain ⟨a3,x3,q3,e3,S3,_⟩:=O2 Du.k Apm (by decide) el_slot h3
   obtain ⟨s4,e4,k4⟩:=J0 Bq.k h4
   obtain ⟨a5,x5,q5,e5,S5,_⟩:=Ake (rd:=T.rdP) C7.k cells79 (by decide) (fun n' cs' y' h' hl' hs'=>Ago k n' cs' y' h' hl' (by omega)) h5
   simp at e0 e1 e2 e3 e4 e5
   subst e0 e1 e2 e3 e4 e5
   exact ⟨.mk n0 s1 s2 x3 s4 x5,F9 (x:=(.mk n0 s1 s2 x3 s4 x5:T.PT)) k0 ⟨k1,k2,k4⟩ S3 S5,by simp [Value.oneCell']⟩
theorem Aeq {cs:Array Value} {l:List Value} (h:cs.toList=l):Value.agg cs=.agg l.toArray:=by rw [← h]
theorem cells81:Tryz.prog.cellsOf 81=9:=by kernel_rfl
theorem el_kind (n:Nat) (cs:List Value) (y:DataW H × List MemPlace) (h:DataW.trod enc Tryz.prog w 0 (fun _=>true) hd n 81 cs=some y) (hl:cs.length=9) :
  ∃ X,C6 (G0 w) cs X∧∀ u∈cs,u.oneCell' = true:=by
 obtain ⟨m,_,hf⟩:=I2 Fz.k h
 match cs,hl with
 | [c0,c1,c2,c3,c4,c5,c6,c7,c8],_ =>
  obtain ⟨y0,h0⟩:=hf 0 0 6 79 rfl
  obtain ⟨y1,h1⟩:=hf 1 6 1 2 rfl
  obtain ⟨y2,h2⟩:=hf 2 7 1 4 rfl
  obtain ⟨y3,h3⟩:=hf 3 8 1 3 rfl
  obtain ⟨p,k0,hp⟩:=Ago _ m _ _ h0 rfl (Nat.lt_succ_self _)
  obtain ⟨b,e1,k1⟩:=Jb Ld.k h1
  obtain ⟨s,e2⟩:=Akf Io.k h2
  obtain ⟨q,e3,k3⟩:=Jb Cg.k h3
  simp at e1 e2 e3
  subst e1 e2 e3
  refine ⟨⟨p,b,s,q⟩,⟨[c0,c1,c2,c3,c4,c5],rfl,k0,k1⟩,?_⟩
  intro u hu
  have hp2:∀ u∈[c0,c1,c2,c3,c4,c5],u.oneCell' = true:=hp
  rcases List.mem_append.1 (show u∈[c0,c1,c2,c3,c4,c5]++[.int .i64 b,.bool s,.int .i64 q] from hu) with h | h
  ·exact hp2 u h
  ·simp only [List.mem_cons,List.not_mem_nil,or_false] at h
   rcases h with rfl | rfl | rfl <;> rfl
theorem cells51:Tryz.prog.cellsOf 51=2:=by kernel_rfl
theorem open_R {v:Value} {d:DataW H} {p:List MemPlace} (h:DataW.Trod enc Tryz.prog w 0 (fun _=>true) hd 51 v d p) (hv:∃ cs,v=.agg cs) :
  ∃ (c:RulesD) (a:Option Addr) (k:Nat),v=.agg #[.slice a c.kinds.length k,.int .i64 c.cap]∧Au C6 9 (G0 w) (.slice a c.kinds.length k) c.kinds:=by
 obtain ⟨fuel,hf⟩:=h
 obtain ⟨cs,rfl⟩:=hv
 obtain ⟨m,hl,hf⟩:=I2 Co.k hf
 have hl1:cs.toList.length=2:=by rw [cells51] at hl;simpa [Value.cells] using hl
 obtain ⟨c0,c1,hcs⟩:∃ c0 c1,cs.toList=[c0,c1]:=match cs.toList,hl1 with
  | [c0,c1],_=>⟨c0,c1,rfl⟩
 obtain ⟨y0,h0⟩:=hf 0 0 1 49 rfl
 obtain ⟨y1,h1⟩:=hf 1 1 1 3 rfl
 simp only [Value.cells,hcs,List.drop_zero,List.take_succ_cons,List.take_zero,List.drop_succ_cons] at h0 h1
 obtain ⟨a,xs,k,e0,S,_⟩:=O2 Dr.k cells81 (by decide) el_kind h0
 obtain ⟨n,e1,_⟩:=Jb Cg.k h1
 simp only [List.cons.injEq,and_true] at e0 e1
 subst e0 e1
 exact ⟨⟨xs,n⟩,a,k,Aeq hcs,S⟩
theorem cells69:Tryz.prog.cellsOf 69=6:=by kernel_rfl
theorem el_ent (n:Nat) (cs:List Value) (y:DataW H × List MemPlace) (h:DataW.trod enc Tryz.prog w 0 (fun _=>true) hd n 69 cs=some y) (hl:cs.length=6) :
  ∃ X,Ca (G0 w) cs X∧∀ u∈cs,u.oneCell' = true:=by
 obtain ⟨m,_,hf⟩:=I2 Bu.k h
 match cs,hl with
 | [c0,c1,c2,c3,c4,c5],_ =>
  obtain ⟨y0,h0⟩:=hf 0 0 4 26 rfl
  obtain ⟨y1,h1⟩:=hf 1 4 1 2 rfl
  obtain ⟨y2,h2⟩:=hf 2 5 1 4 rfl
  obtain ⟨p,k0,hp⟩:=Agp m _ _ h0 rfl
  obtain ⟨b,e1,k1⟩:=Jb Ld.k h1
  obtain ⟨s,e2⟩:=Akf Io.k h2
  simp at e1 e2
  subst e1 e2
  refine ⟨⟨p,b,s⟩,⟨[c0,c1,c2,c3],rfl,k0,k1⟩,?_⟩
  intro u hu
  have hp2:∀ u∈[c0,c1,c2,c3],u.oneCell' = true:=hp
  rcases List.mem_append.1 (show u∈[c0,c1,c2,c3]++[.int .i64 b,.bool s] from hu) with h | h
  ·exact hp2 u h
  ·simp only [List.mem_cons,List.not_mem_nil,or_false] at h
   rcases h with rfl | rfl <;> rfl
theorem cells54:Tryz.prog.cellsOf 54=1:=by kernel_rfl
theorem open_L {v:Value} {d:DataW H} {p:List MemPlace} (h:DataW.Trod enc Tryz.prog w 0 (fun _=>true) hd 54 v d p) (hv:∃ cs,v=.agg cs) :
  ∃ (l:List EntD) (a:Option Addr) (k:Nat),v=.agg #[.slice a l.length k]∧Au Ca 6 (G0 w) (.slice a l.length k) l:=by
 obtain ⟨fuel,hf⟩:=h
 obtain ⟨cs,rfl⟩:=hv
 obtain ⟨m,hl,hf⟩:=I2 Ba.k hf
 have hl1:cs.toList.length=1:=by rw [cells54] at hl;simpa [Value.cells] using hl
 obtain ⟨c0,hcs⟩:∃ c0,cs.toList=[c0]:=match cs.toList,hl1 with
  | [c0],_=>⟨c0,rfl⟩
 obtain ⟨y0,h0⟩:=hf 0 0 1 52 rfl
 simp only [Value.cells,hcs,List.drop_zero,List.take_succ_cons,List.take_zero,List.drop_succ_cons] at h0
 obtain ⟨a,xs,k,e0,S,_⟩:=O2 Br.k cells69 (by decide) el_ent h0
 simp only [List.cons.injEq,and_true] at e0
 subst e0
 exact ⟨xs,a,k,Aeq hcs,S⟩
theorem open_N {v:Value} {d:DataW H} {p:List MemPlace} (h:DataW.Trod enc Tryz.prog w 0 (fun _=>true) hd 65 v d p) (hv:∃ cs,v=.agg cs) :
  ∃ (x:NotD) (a:Option Addr) (k:Nat),v=.agg #[.int .u8 ((x.kind:Nat):Int),.int .i64 x.at_,.int .i64 x.count,.int .i64 x.to,.slice a x.items.length k] ∧
   (x.kind < 256∧Bb .i64 x.at_∧Bb .i64 x.count∧Bb .i64 x.to∧x.items.length≤9223372036854775807)∧Au Cv 4 (G0 w) (.slice a x.items.length k) x.items:=by
 obtain ⟨fuel,hf⟩:=h
 obtain ⟨cs,rfl⟩:=hv
 obtain ⟨m,hl,_⟩:=I2 Bm.k hf
 have hl1:cs.toList.length=5:=by rw [cells65] at hl;simpa [Value.cells] using hl
 obtain ⟨x,hx,_⟩:=el_note fuel _ _ hf hl1
 obtain ⟨a,c,e,h1,h2,h3,h4,h5,S⟩:=hx
 exact ⟨x,a,c,Aeq e,⟨h1,h2,h3,h4,h5⟩,S⟩
end
end Go.Proofs.YtmmhmcplegpenaaGreatDoor
