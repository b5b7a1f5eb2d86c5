/- The proof core, the top frame: from a reading of the arguments to persistent slices; from a contract to what a row asks. -/
import Derived.Test.YtokeofoemjeleaaDoorYRules4
import Derived.ProofKit
import Derived.Deep.Slices
namespace Go.Y
open Go Go.RowKit Go.WideShapes Go.ChangeShapes

def G0 (w : World) : Ghost := fun r => w.heap[r]?
theorem Mem.start (w : World) : Mem w (G0 w) [] w :=
  ⟨rfl, rfl, rfl, Nat.le_refl _, fun _ _ h => h, by simp, by simp, List.Pairwise.nil⟩
theorem Mem.below {w0 w : World} {L : List Res} (M : Mem w0 (G0 w0) L w) : Below w0.heap.size w0 w :=
  ⟨M.os, M.tape, M.output, M.grow, fun k hk => by
    have h : G0 w0 k = some w0.heap[k] := Array.getElem?_eq_getElem hk
    rw [M.pers k _ h]; exact h.symm⟩

theorem gcell_G0 {w : World} {b o : Nat} : gcell (G0 w) b o = w.cell? ⟨b, o, none⟩ := by
  simp only [gcell, G0, World.cell?]
  cases w.heap[b]? with
  | none => rfl
  | some x => cases x <;> simp

section
variable {H : Type} {enc : TypeId × Value → H} {P : Program} {w : World} {sp : Nat → Bool} {hd : Bool}

theorem trod_fld {t : TypeId} {fs : List (Nat × Nat × Nat)} {fuel : Nat} {cs : List Value} {x : DataW H × List MemPlace} (ht : tk P t = .struct fs) (h : DataW.trod enc P w 0 sp hd fuel t cs = some x) :
    ∃ n, cs.length = P.cellsOf t ∧ ∀ (i o c ty : Nat), fs[i]? = some (o, c, ty) → ∃ y, DataW.trod enc P w 0 sp hd n ty ((cs.drop o).take c) = some y := by
  obtain ⟨ff, hu, hff⟩ := under_struct ht
  obtain ⟨xs, n, _, _, hl, hxs, hf⟩ := DataW.trod_struct hu h
  refine ⟨n, hl, fun i o c ty hi => ?_⟩
  rw [← hff] at hi
  simp only [List.getElem?_map, Option.map_eq_some_iff] at hi
  obtain ⟨f, hfi, he⟩ := hi
  simp only [Prod.mk.injEq] at he
  obtain ⟨rfl, rfl, rfl⟩ := he
  have hi2 : ff[i]? = some f := by simpa using hfi
  have hlt : i < xs.length := by
    rw [hxs]
    rcases Nat.lt_or_ge i ff.size with h' | h'
    · exact h'
    · simp [Array.getElem?_eq_none h'] at hi2
  exact ⟨xs[i], by rw [hf i f hi2]; exact List.getElem?_eq_getElem hlt⟩

theorem trod_i {t : TypeId} {k : IntKind} {fuel : Nat} {cs : List Value} {x : DataW H × List MemPlace} (ht : tk P t = .int k) (h : DataW.trod enc P w 0 sp hd fuel t cs = some x) : ∃ n, cs = [.int k n] ∧ inKind k n := by
  obtain ⟨n, h1, _, h2⟩ := DataW.trod_int (under_int ht) h
  simp only [Lit.wf, Bool.and_eq_true, decide_eq_true_eq] at h2
  exact ⟨n, h1, h2⟩
theorem trod_b {t : TypeId} {fuel : Nat} {cs : List Value} {x : DataW H × List MemPlace} (ht : tk P t = .bool) (h : DataW.trod enc P w 0 sp hd fuel t cs = some x) : ∃ b, cs = [.bool b] := by
  obtain ⟨b, h1, _⟩ := DataW.trod_bool (under_bool ht) h
  exact ⟨b, h1⟩
theorem trod_s {t : TypeId} {fuel : Nat} {cs : List Value} {x : DataW H × List MemPlace} (ht : tk P t = .str) (h : DataW.trod enc P w 0 sp hd fuel t cs = some x) : ∃ s, cs = [.string s] ∧ s.size ≤ maxLen := by
  obtain ⟨b, h1, _, h2⟩ := DataW.trod_string (under_str ht) h
  exact ⟨b, h1, h2⟩

theorem one_of_trod_cell {v : Value} {a : Addr} {w : World} (_ : w.cell? a = some v) : True := trivial

/-- A slice that is read: its elements' cells, and what they read as. -/
theorem trod_sl {α : Type} {rd : Rd α} {sz : Nat} {t e : TypeId} {fuel : Nat} {cs : List Value} {x : DataW H × List MemPlace} (ht : tk P t = .slice e) (hsz : P.cellsOf e = sz) (hpos : 0 < sz)
    (el : ∀ n cs y, DataW.trod enc P w 0 sp hd n e cs = some y → cs.length = sz → ∃ X, rd (G0 w) cs X ∧ ∀ u ∈ cs, u.oneCell' = true)
    (h : DataW.trod enc P w 0 sp hd fuel t cs = some x) (hsp : ∀ b, sp b = true := by intro; rfl) : ∃ a xs c, cs = [.slice a xs.length c] ∧ RdSl rd sz (G0 w) (.slice a xs.length c) xs ∧ xs.length ≤ 9223372036854775807 := by
  subst hsz
  rcases Deep.open_slice (under_slice ht) h with ⟨rfl, _⟩ | ⟨a, len, cap, m, n, D, Pl, rfl, _, hlc, hcm, hm, _, hel⟩
  · exact ⟨none, [], 0, rfl, RdSl.nil, by simp⟩
  have hlm : len ≤ m := by rw [hm]; split <;> omega
  have hX : ∀ i, i < len → ∃ X : α, ∃ cs', w.cells? 0 (a.add (i * P.cellsOf e)) (P.cellsOf e) = some cs' ∧ cs'.length = P.cellsOf e ∧ rd (G0 w) cs' X ∧ (∀ u ∈ cs', u.oneCell' = true) ∧
      ∀ j u, cs'[j]? = some u → w.cell? (a.add (i * P.cellsOf e + j)) = some u := by
    intro i hi
    obtain ⟨cs', h1, h2⟩ := hel i (by omega)
    have h3 := h1
    simp only [World.cells?, Nat.zero_le, if_true] at h3
    have hl := mapM_some_length h3
    obtain ⟨X, h4, h5⟩ := el n cs' _ h2 (by rw [hl]; simp)
    refine ⟨X, cs', h1, by rw [hl]; simp, h4, h5, fun j u hj => ?_⟩
    have hjl : j < P.cellsOf e := by
      have := lt_of_get hj
      rw [hl] at this
      simpa using this
    have := mapM_some_get h3 j j (by simp [hjl])
    rw [hj] at this
    rw [Deep.add_add] at this
    exact this
  by_cases h0 : len = 0
  · subst h0
    by_cases hc : cap = 0
    · subst hc
      exact ⟨some a, [], 0, rfl, ⟨_, _, rfl, Nat.le_refl _, by omega, Or.inl ⟨rfl, rfl⟩⟩, by simp⟩
    · rw [if_pos (hsp a.block)] at hm
      obtain ⟨cs', h1, _⟩ := hel 0 (by omega)
      simp only [World.cells?, Nat.zero_le, if_true] at h1
      have hl := mapM_some_length h1
      have hl' : 0 < cs'.length := by rw [hl]; simpa using hpos
      have h2 := mapM_some_get h1 0 0 (by simp [hpos])
      rw [List.getElem?_eq_getElem hl'] at h2
      have hsp : a.spot = none := by
        have := World.cell?_spot h2
        simpa [Addr.add] using this
      obtain ⟨b, o, s⟩ := a
      simp only at hsp
      subst hsp
      exact ⟨_, [], cap, rfl, ⟨_, _, rfl, Nat.zero_le _, hcm, Or.inr ⟨b, o, rfl, by simp⟩⟩, by simp⟩
  · haveI : Inhabited α := ⟨(hX 0 (by omega)).choose⟩
    obtain ⟨X, hX'⟩ := Deep.choose_lt hX
    obtain ⟨cs0, _, hl0, _, _, hc0⟩ := hX' 0 (by omega)
    have h2 := hc0 0 cs0[0] (List.getElem?_eq_getElem (by omega))
    have hsp : a.spot = none := by
      have := World.cell?_spot h2
      simpa [Addr.add] using this
    obtain ⟨b, o, s⟩ := a
    simp only at hsp
    subst hsp
    refine ⟨some ⟨b, o, none⟩, (List.range len).map X, cap, by simp, ⟨_, _, by simp, by simpa using hlc, hcm, Or.inr ⟨b, o, rfl, fun i x hx => ?_⟩⟩, by simp only [List.length_map, List.length_range, maxLen] at *; omega⟩
    have hi : i < len := by have := lt_of_get hx; simpa using this
    have hxe : x = X i := by
      rw [List.getElem?_map] at hx
      simp only [List.getElem?_range hi, Option.map_some, Option.some.injEq] at hx
      exact hx.symm
    subst hxe
    obtain ⟨cs', _, h5, h6, h7, h8⟩ := hX' i hi
    refine ⟨cs', h5, h7, fun j v hj => ?_, h6⟩
    rw [gcell_G0]
    have := h8 j v hj
    rw [add_plain] at this
    rw [Nat.add_assoc]
    exact this

theorem trodAll_stays {W' : World} {sp' : Nat → Bool} (hl : laidOutB P = true) (hb : Below w.heap.size w W') : ∀ {ts : List TypeId} {vs : List Value} {ds : List (DataW H)} {ps : List MemPlace},
    (∀ t ∈ ts, P.readableRec t = true ∧ t < P.types.size) → DataW.TrodAll enc P w 0 (fun _ => true) true ts vs ds ps → (∀ p ∈ ps, p.block < w.heap.size) → (∀ p ∈ ps, sp' p.block = true) → DataW.TrodAll enc P W' 0 sp' true ts vs ds ps
  | [], [], [], ps, _, h, _, _ => h
  | t :: ts, v :: vs, d :: ds, ps, ht, h, hp, hs => by
    obtain ⟨p, q, h1, h2, rfl⟩ := h
    refine ⟨p, q, WideElems.Trod_stays hl (ht t (by simp)).1 (ht t (by simp)).2 h1 (fun x hx => hb.same (hp x (by simp [hx]))) (fun x hx => hs x (by simp [hx])), ?_, rfl⟩
    exact trodAll_stays hl hb (fun u hu => ht u (by simp [hu])) h2 (fun x hx => hp x (by simp [hx])) (fun x hx => hs x (by simp [hx]))
  | [], [], _ :: _, _, _, h, _, _ => h.elim
  | [], _ :: _, _, _, _, h, _, _ => h.elim
  | _ :: _, [], _, _, _, h, _, _ => h.elim
  | _ :: _, _ :: _, [], _, _, h, _, _ => h.elim

/-- What a row asks of a law that returns true and leaves what was there. -/
theorem post_true {f : Func} {s : ChangeSpec} {apart fresh handsOn : Bool} {W' : World} {args : Array Value} {ds gs : List (DataW H)} {before : List MemPlace} {tb : TypeId}
    (hl : laidOutB P = true) (hpar : f.params.toList.all (fun t => P.readableRec t && decide (t < P.types.size)) = true)
    (hW : DataW.Whole enc P f.params.toList s.vars apart w args.toList ds gs before) (hv : s.vars = []) (hb : Below w.heap.size w W')
    (hs : (s.fn H (ds ++ gs)).results = [.lit (.bool true)] ∧ (s.fn H (ds ++ gs)).args = ds ∧ (s.fn H (ds ++ gs)).vars = []) (hr : f.resultTypes = #[tb]) (hu : tk P tb = .bool) :
    s.post enc P f apart fresh handsOn false w args (.bool true) W' := by
  have hW' := hW
  obtain ⟨p, q, hA, hV, rfl, hfz, hnd⟩ := hW
  rw [hv] at hV
  obtain ⟨rfl, rfl⟩ := trodVars_none hV
  have hlt := hW'.lt
  refine ⟨ds, [], p ++ [], [], p, [], hW', ?_, ?_, ?_, hb.frame _, fun h => by cases h⟩
  · rw [hs.1, hr]; exact trodAll_mk1 (shut_bool (under_bool hu) true)
  · rw [hs.2.1]
    refine trodAll_stays hl hb (fun t ht => ?_) hA (fun x hx => hlt x (by simpa using hx)) (fun x hx => by simpa using hlt x (by simpa using hx))
    have := List.all_eq_true.1 hpar t ht
    simpa using this
  · rw [hs.2.2, hv]; rfl
end
end Go.Y
