/- Proved: how a whole node that is handed in reads. -/
import Derived.Test.YtlnehkjmmegkhaaGreatTopN
namespace Go.Proofs.YtlnehkjmmegkhaaGreat
open Go Go.Y Go.ChangeShapes Go.WideShapes Go.ChangeAt Go.RowKit
set_option linter.unusedSimpArgs false
set_option linter.unusedVariables false
section
variable {H : Type} {enc : TypeId × Value → H} {P : Program} {w : World} {sp : Nat → Bool} {hd : Bool}
theorem trod_fldS {t : TypeId} {fs : List (Nat × Nat × Nat)} {fuel : Nat} {cs : List Value} {x : DataW H × List MemPlace} (ht : tk P t = .struct fs) (h : DataW.trod enc P w 0 sp hd fuel t cs = some x) :
  ∃ n, cs.length = P.cellsOf t ∧ ∀ (i o c ty : Nat), fs[i]? = some (o, c, ty) → ∃ y, DataW.trod enc P w 0 sp hd n ty ((cs.drop o).take c) = some y ∧ SizeOf.sizeOf y.1 < SizeOf.sizeOf x.1 := by
 obtain ⟨ff, hu, hff⟩ := under_struct ht
 obtain ⟨xs, n, _, hx, hl, hxs, hf⟩ := DataW.trod_struct hu h
 refine ⟨n, hl, fun i o c ty hi => ?_⟩
 rw [← hff] at hi
 simp only [List.getElem?_map, Option.map_eq_some_iff] at hi
 obtain ⟨f, hfi, he⟩ := hi
 simp only [Prod.mk.injEq] at he
 obtain ⟨rfl, rfl, rfl⟩ := he
 have hi2 : ff[i]? = some f := by simpa using hfi
 have hlt : i < xs.length := by
  rw [hxs]
  rcases Nat.lt_or_ge i ff.size with h' | h'
  ·exact h'
  ·simp [Array.getElem?_eq_none h'] at hi2
 refine ⟨xs[i], by rw [hf i f hi2]; exact List.getElem?_eq_getElem hlt, ?_⟩
 have hm1 : (xs[i]).1 ∈ xs.map (·.1) := List.mem_map.2 ⟨xs[i], List.getElem_mem hlt, rfl⟩
 have := List.sizeOf_lt_of_mem hm1
 rw [hx]; simp only [DataW.agg.sizeOf_spec]; omega
/-- A slice that is read: its elements' cells, and what they read as. -/
theorem trod_slS {α : Type} {rd : Rd α} {sz : Nat} {t e : TypeId} {fuel : Nat} {cs : List Value} {x : DataW H × List MemPlace} (ht : tk P t = .slice e) (hsz : P.cellsOf e = sz) (hpos : 0 < sz)
  (el : ∀ n cs y, DataW.trod enc P w 0 sp hd n e cs = some y → cs.length = sz → SizeOf.sizeOf y.1 < SizeOf.sizeOf x.1 → ∃ X, rd (G0 w) cs X ∧ ∀ u ∈ cs, u.oneCell' = true)
  (h : DataW.trod enc P w 0 sp hd fuel t cs = some x) (hsp : ∀ b, sp b = true := by intro; rfl) : ∃ a xs c, cs = [.slice a xs.length c] ∧ RdSl rd sz (G0 w) (.slice a xs.length c) xs ∧ xs.length ≤ 9223372036854775807 := by
 subst hsz
 rcases Deep.open_slice (under_slice ht) h with ⟨rfl, _⟩ | ⟨a, len, cap, m, n, D, Pl, rfl, _, hlc, hcm, hm, hx, hel⟩
 ·exact ⟨none, [], 0, rfl, RdSl.nil, by simp⟩
 have hlm : len ≤ m := by rw [hm]; split <;> omega
 have hX : ∀ i, i < len → ∃ X : α, ∃ cs', w.cells? 0 (a.add (i * P.cellsOf e)) (P.cellsOf e) = some cs' ∧ cs'.length = P.cellsOf e ∧ rd (G0 w) cs' X ∧ (∀ u ∈ cs', u.oneCell' = true) ∧
   ∀ j u, cs'[j]? = some u → w.cell? (a.add (i * P.cellsOf e + j)) = some u := by
  intro i hi
  obtain ⟨cs', h1, h2⟩ := hel i (by omega)
  have h3 := h1
  simp only [World.cells?, Nat.zero_le, if_true] at h3
  have hl := mapM_some_length h3
  obtain ⟨X, h4, h5⟩ := el n cs' _ h2 (by rw [hl]; simp) (by
   have hm1 : D i ∈ (List.range len).map D := List.mem_map.2 ⟨i, by simpa using hi, rfl⟩
   have := List.sizeOf_lt_of_mem hm1
   rw [hx]; simp only [DataW.slice.sizeOf_spec]; omega)
  refine ⟨X, cs', h1, by rw [hl]; simp, h4, h5, fun j u hj => ?_⟩
  have hjl : j < P.cellsOf e := by
   have := lt_of_get hj
   rw [hl] at this
   simpa using this
  have := mapM_some_get h3 j j (by simp [hjl])
  rw [hj] at this
  rw [Deep.add_add] at this
  exact this
 by_cases h0 : len = 0
 ·subst h0
  by_cases hc : cap = 0
  ·subst hc
   exact ⟨some a, [], 0, rfl, ⟨_, _, rfl, Nat.le_refl _, by omega, Or.inl ⟨rfl, rfl⟩⟩, by simp⟩
  ·rw [if_pos (hsp a.block)] at hm
   obtain ⟨cs', h1, _⟩ := hel 0 (by omega)
   simp only [World.cells?, Nat.zero_le, if_true] at h1
   have hl := mapM_some_length h1
   have hl' : 0 < cs'.length := by rw [hl]; simpa using hpos
   have h2 := mapM_some_get h1 0 0 (by simp [hpos])
   rw [List.getElem?_eq_getElem hl'] at h2
   have hsp : a.spot = none := by
    have := World.cell?_spot h2
    simpa [Addr.add] using this
   obtain ⟨b, o, s⟩ := a
   simp only at hsp
   subst hsp
   exact ⟨_, [], cap, rfl, ⟨_, _, rfl, Nat.zero_le _, hcm, Or.inr ⟨b, o, rfl, by simp⟩⟩, by simp⟩
 ·haveI : Inhabited α := ⟨(hX 0 (by omega)).choose⟩
  obtain ⟨X, hX'⟩ := Deep.choose_lt hX
  obtain ⟨cs0, _, hl0, _, _, hc0⟩ := hX' 0 (by omega)
  have h2 := hc0 0 cs0[0] (List.getElem?_eq_getElem (by omega))
  have hsp : a.spot = none := by
   have := World.cell?_spot h2
   simpa [Addr.add] using this
  obtain ⟨b, o, s⟩ := a
  simp only at hsp
  subst hsp
  refine ⟨some ⟨b, o, none⟩, (List.range len).map X, cap, by simp, ⟨_, _, by simp, by simpa using hlc, hcm, Or.inr ⟨b, o, rfl, fun i x hx => ?_⟩⟩, by simp only [List.length_map, List.length_range, maxLen] at *; omega⟩
  have hi : i < len := by have := lt_of_get hx; simpa using this
  have hxe : x = X i := by
   rw [List.getElem?_map] at hx
   simp only [List.getElem?_range hi, Option.map_some, Option.some.injEq] at hx
   exact hx.symm
  subst hxe
  obtain ⟨cs', _, h5, h6, h7, h8⟩ := hX' i hi
  refine ⟨cs', h5, h7, fun j v hj => ?_, h6⟩
  rw [gcell_G0]
  have := h8 j v hj
  rw [Y.add_plain] at this
  rw [Nat.add_assoc]
  exact this
end
section
variable {H : Type} {enc : TypeId × Value → H} {w : World} {hd : Bool}
theorem cells87 : Tryz.prog.cellsOf 87 = 2 := by kernel_rfl
theorem cells30 : Tryz.prog.cellsOf 30 = 6 := by kernel_rfl
theorem el_attr (n : Nat) (cs : List Value) (y : DataW H × List MemPlace) (h : DataW.trod enc Tryz.prog w 0 (fun _ => true) hd n 87 cs = some y) (hl : cs.length = 2) :
  ∃ X, rdAttr (G0 w) cs X ∧ ∀ u ∈ cs, u.oneCell' = true := by
 obtain ⟨m, _, hf⟩ := trod_fld tok87.k h
 match cs, hl with
 | [c0, c1], _ =>
  obtain ⟨y0, h0⟩ := hf 0 0 1 9 rfl
  obtain ⟨y1, h1⟩ := hf 1 1 1 9 rfl
  obtain ⟨s0, e0, k0⟩ := trod_str tok9.k h0
  obtain ⟨s1, e1, k1⟩ := trod_str tok9.k h1
  simp at e0 e1
  subst e0 e1
  exact ⟨⟨s0, s1⟩, ⟨rfl, k0, k1⟩, by simp [Value.oneCell']⟩
theorem el_node : ∀ (k n : Nat) (cs : List Value) (y : DataW H × List MemPlace), DataW.trod enc Tryz.prog w 0 (fun _ => true) hd n 30 cs = some y → cs.length = 6 → SizeOf.sizeOf y.1 < k →
  ∃ X, rdN (G0 w) cs X ∧ ∀ u ∈ cs, u.oneCell' = true
 | 0, _, _, _, _, _, h => by omega
 | k + 1, n, cs, y, h, hl, hk => by
  obtain ⟨m, _, hf⟩ := trod_fldS tok30.k h
  match cs, hl with
  | [c0, c1, c2, c3, c4, c5], _ =>
   obtain ⟨y0, h0, _⟩ := hf 0 0 1 5 rfl
   obtain ⟨y1, h1, _⟩ := hf 1 1 1 9 rfl
   obtain ⟨y2, h2, _⟩ := hf 2 2 1 9 rfl
   obtain ⟨y3, h3, _⟩ := hf 3 3 1 27 rfl
   obtain ⟨y4, h4, _⟩ := hf 4 4 1 9 rfl
   obtain ⟨y5, h5, hs5⟩ := hf 5 5 1 28 rfl
   obtain ⟨n0, e0, k0⟩ := trod_i tok5.k h0
   obtain ⟨s1, e1, k1⟩ := trod_str tok9.k h1
   obtain ⟨s2, e2, k2⟩ := trod_str tok9.k h2
   obtain ⟨a3, x3, q3, e3, S3, _⟩ := trod_sl tok27.k cells87 (by decide) el_attr h3
   obtain ⟨s4, e4, k4⟩ := trod_str tok9.k h4
   obtain ⟨a5, x5, q5, e5, S5, _⟩ := trod_slS (rd := rdN) tok28.k cells30 (by decide) (fun n' cs' y' h' hl' hs' => el_node k n' cs' y' h' hl' (by omega)) h5
   simp at e0 e1 e2 e3 e4 e5
   subst e0 e1 e2 e3 e4 e5
   exact ⟨.mk n0 s1 s2 x3 s4 x5, rdT_close (x := (.mk n0 s1 s2 x3 s4 x5 : NT)) k0 ⟨k1, k2, k4⟩ S3 S5, by simp [Value.oneCell']⟩
theorem open_Node {v : Value} {d : DataW H} {p : List MemPlace} (h : DataW.Trod enc Tryz.prog w 0 (fun _ => true) hd 30 v d p) (hv : ∃ cs, v = .agg cs) :
  ∃ (x : NT) (a1 : Option Addr) (c1 : Nat) (a2 : Option Addr) (c2 : Nat), v = .agg #[.int .u8 x.kind, .string (str x.tag), .string (str x.key), .slice a1 x.as.length c1, .string (str x.text), .slice a2 x.kids.length c2] ∧
   inKind .u8 x.kind ∧ (x.tag.length ≤ 9223372036854775807 ∧ x.key.length ≤ 9223372036854775807 ∧ x.text.length ≤ 9223372036854775807) ∧ RdSl rdAttr 2 (G0 w) (.slice a1 x.as.length c1) x.as ∧ RdSl rdN 6 (G0 w) (.slice a2 x.kids.length c2) x.kids := by
 obtain ⟨fuel, hf⟩ := h
 obtain ⟨cs, rfl⟩ := hv
 obtain ⟨m, hl, _⟩ := trod_fld tok30.k hf
 obtain ⟨X, h1, _⟩ := el_node _ fuel _ _ hf (by rw [hl, cells30]) (Nat.lt_succ_self _)
 obtain ⟨a1, c1, a2, c2, e, hk, hl, SA, SK⟩ := rdT_open h1
 exact ⟨X, a1, c1, a2, c2, agg_eq e, hk, hl, SA, SK⟩
end
end Go.Proofs.YtlnehkjmmegkhaaGreat
