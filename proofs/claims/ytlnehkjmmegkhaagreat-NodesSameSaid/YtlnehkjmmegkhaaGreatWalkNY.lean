/- The walks, part NY. -/
import Derived.Test.YtlnehkjmmegkhaaGreatWalkNL
namespace Go.Proofs.YtlnehkjmmegkhaaGreat
open Go Go.Y Go.Proofs
set_option linter.unusedSimpArgs false
set_option linter.unusedVariables false
/-- An owned row is lent: it reads as a slice for a while, and is owned again behind. -/
theorem memLend {α : Type} {rd : Rd α} {w0 w : World} {G : Ghost} {L : List Res} {a : Option Addr} {n c : Nat} {cs : List Value} {t : TypeId} {sz : Nat} (hm : Mono rd) (M : Mem w0 G (.row (.slice a n c) n cs t sz :: L) w) {xs : List α} (hE : Els rd sz G cs xs) (hs : 0 < sz) :
  ∃ G', Gle G G' ∧ RdSl rd sz G' (.slice a n c) xs ∧ Mem w0 G' L w ∧ ∀ (w' : World) (G'' : Ghost) (L' : List Res), Gle G' G'' → Mem w0 G'' L' w' → ∃ G3, Gle G G3 ∧ Mem w0 G3 (.row (.slice a n c) n cs t sz :: L') w' := by
 obtain ⟨⟨hl, h2⟩, h1⟩ := M.row_at (k := 0) rfl
 have hn : n = xs.length := by
  have := hE.length
  rw [hl] at this
  exact Nat.eq_of_mul_eq_mul_right hs this
 subst hn
 rcases h2 with ⟨e, h0⟩ | ⟨g, cap, cur, e, h00, hg, hnc, hcm, hcs, htake⟩
 ·have : xs = [] := List.eq_nil_of_length_eq_zero h0
  subst this
  simp only [Value.slice.injEq] at e
  obtain ⟨rfl, _, rfl⟩ := e
  refine ⟨G, Gle.refl G, RdSl.nil, M.weaken (List.sublist_cons_self _ _), fun w' G'' L' hG M' => ⟨G'', hG, ⟨M'.os, M'.tape, M'.output, M'.grow, M'.pers, ?_, ?_, ?_⟩⟩⟩
  ·intro x hx
   rcases List.mem_cons.1 hx with rfl | hx
   ·exact ⟨⟨hl, Or.inl ⟨rfl, h0⟩⟩, h1⟩
   ·exact M'.own x hx
  ·intro x hx b hb
   rcases List.mem_cons.1 hx with rfl | hx
   ·cases hb
   ·exact M'.free x hx b hb
  ·exact List.pairwise_cons.2 ⟨fun x _ b hb => (by cases hb), M'.apart⟩
 ·simp only [Value.slice.injEq] at e
  obtain ⟨rfl, _, rfl⟩ := e
  have hb : G g = none := M.free (.row (.slice (some ⟨g, 0, none⟩) xs.length c) xs.length cs t sz) (by simp) g rfl
  have hap := List.pairwise_cons.1 M.apart
  refine ⟨fun r => if r = g then some (.cells cur t (0, 0)) else G r, ?_, ?_, ?_, ?_⟩
  ·intro r o hr
   by_cases h : r = g
   ·subst h; rw [hb] at hr; cases hr
   ·simp [h, hr]
  ·refine RdSl.of_cells (cs := cs) (hE.mono hm ?_) h1 ?_ hnc (by simpa [maxLen] using hcm)
   ·intro r o hr
    by_cases h : r = g
    ·subst h; rw [hb] at hr; cases hr
    ·simp [h, hr]
   ·intro j u hj
    have hj' : j < xs.length * sz := by
     rw [← hl]
     rcases Nat.lt_or_ge j cs.length with h' | h'
     ·exact h'
     ·simp [List.getElem?_eq_none h'] at hj
    rw [← htake, List.getElem?_take, if_pos hj'] at hj
    simp only [gcell, if_true, Nat.zero_add]
    simpa using hj
  ·refine ⟨M.os, M.tape, M.output, M.grow, ?_, ?_, ?_, hap.2⟩
   ·intro r o hr
    by_cases h : r = g
    ·subst h; simp at hr; subst hr; exact hg
    ·simp only [h, if_false] at hr; exact M.pers r o hr
   ·exact fun x hx => M.own x (by simp [hx])
   ·intro x hx b hc
    have hne : b ≠ g := fun e => hap.1 x hx g rfl (e ▸ hc)
    simp only [hne, if_false]
    exact M.free x (by simp [hx]) b hc
  ·intro w' G'' L' hG M'
   have hgg : G'' g = some (.cells cur t (0, 0)) := hG g _ (by simp)
   refine ⟨fun r => if r = g then none else G'' r, ?_, ⟨M'.os, M'.tape, M'.output, M'.grow, ?_, ?_, ?_, ?_⟩⟩
   ·intro r o hr
    have hne : r ≠ g := fun e => by subst e; rw [hb] at hr; cases hr
    simp only [hne, if_false]
    exact hG r o (by simp only [hne, if_false]; exact hr)
   ·intro r o hr
    by_cases h : r = g
    ·simp [h] at hr
    ·simp only [h, if_false] at hr; exact M'.pers r o hr
   ·intro x hx
    rcases List.mem_cons.1 hx with rfl | hx
    ·exact ⟨⟨hl, Or.inr ⟨g, c, cur, rfl, h00, M'.pers g _ hgg, hnc, hcm, hcs, htake⟩⟩, h1⟩
    ·exact M'.own x hx
   ·intro x hx b hc
    rcases List.mem_cons.1 hx with rfl | hx
    ·simp only [Res.foot, Value.ownBlock, Option.some.injEq] at hc
     subst hc; simp
    ·by_cases h : b = g
     ·simp [h]
     ·simp only [h, if_false]; exact M'.free x hx b hc
   ·refine List.pairwise_cons.2 ⟨fun x hx b hb1 hb2 => ?_, M'.apart⟩
    simp only [Res.foot, Value.ownBlock, Option.some.injEq] at hb1
    subst hb1
    have := M'.free x hx _ hb2
    rw [hgg] at this; cases this
end Go.Proofs.YtlnehkjmmegkhaaGreat
