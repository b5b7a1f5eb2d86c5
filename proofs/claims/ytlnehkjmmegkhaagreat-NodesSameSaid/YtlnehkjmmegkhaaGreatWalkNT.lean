/- The walks, part NT. -/
import Derived.Test.YtlnehkjmmegkhaaGreatWalkNO
import Derived.Test.YtlnehkjmmegkhaaGreatRdb
namespace Go.Proofs.YtlnehkjmmegkhaaGreat
open Go Go.Y Go.Proofs
set_option linter.unusedSimpArgs false
set_option linter.unusedVariables false
theorem strip_key (x : NT) : (stripF x).key = [] := by cases x; rfl
theorem strip_kids (x : NT) : (stripF x).kids = x.kids.map stripF := by cases x; simp only [stripF, Tr.kids, stripsF_map]
theorem strip_rest (x : NT) : (stripF x).kind = x.kind ∧ (stripF x).tag = x.tag ∧ (stripF x).as = x.as ∧ (stripF x).text = x.text := by cases x; exact ⟨rfl, rfl, rfl, rfl⟩
theorem strip_size (x : NT) : (stripF x).size = x.size := by
 induction x using Tr.ind with
 | _ x ih =>
  rw [Tr.size_eq, Tr.size_eq x, strip_kids]
  have : ∀ l : List NT, (∀ c ∈ l, (stripF c).size = c.size) → Tr.sizes (l.map stripF) = Tr.sizes l := by
   intro l
   induction l with
   | nil => intro _; rfl
   | cons c l ih2 => intro h; simp only [List.map_cons, Tr.sizes]; rw [h c (by simp), ih2 fun d hd => h d (by simp [hd])]
  rw [this _ ih]
theorem strip_ok : ∀ {n : Nat} {x : NT}, Tr.Ok Alone n x → Tr.Ok Alone n (stripF x)
 | 0, x, h => h.elim
 | n + 1, x, h => by
  obtain ⟨e1, e2, e3, e4⟩ := strip_rest x
  refine ⟨?_, fun c hc => ?_⟩
  ·rcases h.1 with ⟨a, b, c, d, e, f⟩ | ⟨a, a1, c, d, e, f, g, g2, g3⟩
   ·exact Or.inl ⟨by rw [e1]; exact a, by rw [e4]; exact b, by rw [e2]; exact c, strip_key x, by rw [e3]; exact e, by rw [strip_kids, List.length_map]; exact f⟩
   ·refine Or.inr ⟨by rw [e1]; exact a, by rw [e1]; exact a1, by rw [e2]; exact c, Or.inl (strip_key x), by rw [e4]; exact e, by rw [e3]; exact f, by rw [strip_kids, List.length_map]; exact g, by rw [e3]; exact g2, ?_⟩
    rw [strip_kids]
    intro i j p q hij hp hq hne
    rw [List.getElem?_map] at hq
    cases hc : x.kids[j]? with
    | none => rw [hc] at hq; cases hq
    | some y => rw [hc] at hq; simp only [Option.map_some, Option.some.injEq] at hq; subst hq; exact absurd (strip_key y) hne
  ·rw [strip_kids] at hc
   obtain ⟨y, hy, rfl⟩ := List.mem_map.1 hc
   exact strip_ok (h.2 y hy)
theorem strF_valid {x : NT} (h : Valid x) : Valid (strF x) := by
 rw [strF_yes h, copF_false]; exact ⟨strip_ok h.1, by rw [strip_size]; exact h.2⟩
theorem nsamF_yes {x : NT} (h : Valid x) : nsamF x x = true := by unfold nsamF; rw [if_pos ⟨h, h, rfl⟩]
end Go.Proofs.YtlnehkjmmegkhaaGreat
