/- Any number of owned things lent for a while, and taken back. -/
import Derived.Test.YtmmhmcplegpenaaDoorCpy
namespace Go.Y
open Go
set_option linter.unusedSimpArgs false
set_option linter.unusedVariables false
section
variable {w0 w : World} {G : Ghost} {L Ls : List Res}
open Classical in
/-- The ghost with the blocks of these resources in it, as they are now. -/
noncomputable def lent (G : Ghost) (Ls : List Res) (w : World) : Ghost := fun r => if ∃ x ∈ Ls, x.foot = some r then w.heap[r]? else G r
theorem lent_in {x : Res} (hx : x ∈ Ls) {b : Nat} (hb : x.foot = some b) : lent G Ls w b = w.heap[b]? := by
 unfold lent; rw [if_pos ⟨x, hx, hb⟩]
theorem Mem.lend (M : Mem w0 G (Ls ++ L) w) : Gle G (lent G Ls w) ∧ Mem w0 (lent G Ls w) L w := by
 have hfree : ∀ r, (∃ x ∈ Ls, x.foot = some r) → G r = none := fun r ⟨x, hx, hb⟩ => M.free x (List.mem_append_left _ hx) r hb
 refine ⟨fun r o hr => ?_, ⟨M.os, M.tape, M.output, M.grow, fun r o hr => ?_, fun x hx => M.own x (List.mem_append_right _ hx), fun x hx b hb => ?_, (List.pairwise_append.1 M.apart).2.1⟩⟩
 ·unfold lent
  by_cases h : ∃ x ∈ Ls, x.foot = some r
  ·rw [hfree r h] at hr; cases hr
  ·rw [if_neg h]; exact hr
 ·unfold lent at hr
  by_cases h : ∃ x ∈ Ls, x.foot = some r
  ·rw [if_pos h] at hr; exact hr
  ·rw [if_neg h] at hr; exact M.pers r o hr
 ·unfold lent
  rw [if_neg]
  ·exact M.free x (List.mem_append_right _ hx) b hb
  ·rintro ⟨y, hy, hyb⟩
   exact (List.pairwise_append.1 M.apart).2.2 y hy x hx b hyb hb
/-- What was lent is owned again. -/
theorem Mem.back {w' : World} (M : Mem w0 G (Ls ++ L) w) (M' : Mem w0 (lent G Ls w) L w') : Mem w0 G (Ls ++ L) w' := by
 have hle := M.lend.1
 refine ⟨M'.os, M'.tape, M'.output, M'.grow, fun r o hr => M'.pers r o (hle r o hr), fun x hx => ?_, M.free, M.apart⟩
 rcases List.mem_append.1 hx with hx | hx
 ·refine Res.holds_of (M.own x (List.mem_append_left _ hx)) fun b hb => ?_
  have hlt := Res.foot_lt (M.own x (List.mem_append_left _ hx)) hb
  have h1 : lent G Ls w b = some w.heap[b] := by rw [lent_in hx hb]; exact Array.getElem?_eq_getElem hlt
  rw [M'.pers b _ h1, Array.getElem?_eq_getElem hlt]
 ·exact M'.own x hx
/-- A row that is lent reads as a slice. -/
theorem lent_row {α : Type} {rd : Rd α} {sz : Nat} {a : Option Addr} {c : Nat} {cs : List Value} {t : TypeId} {xs : List α} (M : Mem w0 G (Ls ++ L) w) (hx : Res.row (.slice a xs.length c) xs.length cs t sz ∈ Ls) (hE : Els rd sz (lent G Ls w) cs xs) (hs : 0 < sz) :
  RdSl rd sz (lent G Ls w) (.slice a xs.length c) xs := by
 obtain ⟨⟨hl, h2⟩, h1⟩ := M.own _ (List.mem_append_left L hx)
 rcases h2 with ⟨h, h0⟩ | ⟨g, cap, cur, hv, _, hg, hnc, hcm, hcs, htake⟩
 ·have : xs = [] := List.eq_nil_of_length_eq_zero h0
  subst this
  simp only [Value.slice.injEq] at h
  obtain ⟨rfl, _, rfl⟩ := h
  exact RdSl.nil
 ·simp only [Value.slice.injEq, true_and] at hv
  obtain ⟨rfl, rfl⟩ := hv
  refine RdSl.of_cells (cs := cs) hE h1 ?_ hnc (by simpa [maxLen] using hcm)
  intro j u hj
  have hj' : j < xs.length * sz := by
   rw [← hl]
   rcases Nat.lt_or_ge j cs.length with h' | h'
   ·exact h'
   ·simp [List.getElem?_eq_none h'] at hj
  rw [← htake, List.getElem?_take, if_pos hj'] at hj
  have h9 : lent G Ls w g = some (.cells cur t (0, 0)) := by rw [lent_in hx rfl]; exact hg
  simp only [gcell, h9, Nat.zero_add]
  simpa using hj
end
end Go.Y
