/- The walks, part Q. -/
import Derived.Test.YtlnehkjmmegkhaaGreatWalkP
namespace Go.Proofs.YtlnehkjmmegkhaaGreat
open Go Go.Y Go.Proofs
set_option linter.unusedSimpArgs false
set_option linter.unusedVariables false
theorem run_shrN {P : Program} {w : World} {t : TypeId} {p : String} {af : Array Edge} {ρ : Operand → Value} {dd : Option Tmp} {g : Option (Nat × Bool)} {x y : Operand} {ty yt : TypeId} {k yk : IntKind} {a b : Int} {n m : Nat} (hx : ρ x = .int k a) (hy : ρ y = .int yk b) (ha : a = (n : Int)) (hb : b = (m : Int)) (hm : m ≤ k.bits) :
  (execOp ρ ⟨dd, .binOp .shr ty x y yt, t, p, af, g⟩).run P w = .ok (.value (.int k ((n / 2 ^ m : Nat) : Int))) w := by
 subst ha
 have := run_shri (P := P) (w := w) (t := t) (p := p) (af := af) (dd := dd) (g := g) (ty := ty) (yt := yt) hx hy hb hm
 rw [this, Int.natCast_ediv, Int.natCast_pow]; rfl
instance instNameB : DecidablePred NameB := fun c => by unfold NameB; infer_instance
instance instName : DecidablePred Name := fun s => by unfold Name; infer_instance
instance instStrB : DecidablePred StrB := fun c => by unfold StrB; infer_instance
instance instStr : DecidablePred Str := fun s => by unfold Str; infer_instance
def snS : List (List UInt8) := [[99, 108, 97, 115, 115], [105, 100], [122, 57]]
theorem snE {G : Ghost} : Els rdStr 1 G [.string (str ([99, 108, 97, 115, 115] : List UInt8)), .string (str ([105, 100] : List UInt8)), .string (str ([122, 57] : List UInt8))] snS :=
 Els.cons (c := [_]) ⟨rfl, by decide⟩ rfl (Els.cons (c := [_]) ⟨rfl, by decide⟩ rfl (Els.one ⟨rfl, by decide⟩ rfl))
theorem snS_ok : ∀ s ∈ snS, Name s := by decide
theorem in_lit {p : List UInt8 → Prop} {l : List (List UInt8)} (h : ∀ s ∈ l, p s) {i : Nat} {s : List UInt8} (hs : l[i]? = some s) : p s := h s (List.mem_of_getElem? hs)
theorem sn_asc : ∀ i j : Nat, i < j → j < 3 → ∀ a b, snS[i]? = some a → snS[j]? = some b → Op.bytesLess a b = true := by
 intro i j hij hj a b ha hb
 have hi : i < 3 := by omega
 match j, hj with
 | 0, _ => omega
 | 1, _ => match i, hij with
  | 0, _ => simp only [snS, List.getElem?_cons_zero, List.getElem?_cons_succ, Option.some.injEq] at ha hb; subst ha hb; decide
 | 2, _ => match i, hij with
  | 0, _ => simp only [snS, List.getElem?_cons_zero, List.getElem?_cons_succ, Option.some.injEq] at ha hb; subst ha hb; decide
  | 1, _ => simp only [snS, List.getElem?_cons_zero, List.getElem?_cons_succ, Option.some.injEq] at ha hb; subst ha hb; decide
/-- The slots that were made of the first names. -/
structure SlInv (i : Nat) (ss : List SlotD) : Prop where
 to : SlotsTo ss ss.length
 le : ss.length ≤ i
 last : ∀ y, 0 < ss.length → ss[ss.length - 1]? = some y → ∃ j, j < i ∧ snS[j]? = some y.n
theorem SlInv.zero : SlInv 0 [] := ⟨SlotsTo.zero _, Nat.le_refl _, fun y h => by simp at h⟩
theorem SlInv.skip {i : Nat} {ss : List SlotD} (h : SlInv i ss) : SlInv (i + 1) ss := ⟨h.to, by have := h.le; omega, fun y h1 h2 => by obtain ⟨j, hj, hy⟩ := h.last y h1 h2; exact ⟨j, by omega, hy⟩⟩
theorem SlInv.add {i : Nat} {ss : List SlotD} (h : SlInv i ss) {x : SlotD} (hi : i < 3) (hX : snS[i]? = some x.n) (hx : SlotAt x) : SlInv (i + 1) (ss ++ [x]) := by
 have hl : (ss ++ [x]).length = ss.length + 1 := by simp
 refine ⟨?_, by have := h.le; rw [hl]; omega, fun y h1 h2 => ?_⟩
 ·rw [hl]
  refine SlotsTo.step (x := x) ?_ (by simp) hx fun y h0 hy => ?_
  ·intro m z hm hz
   rw [List.getElem?_append_left hm] at hz
   obtain ⟨h1, h2⟩ := h.to m z hm hz
   refine ⟨h1, fun y h0 hy => ?_⟩
   rw [List.getElem?_append_left (by omega)] at hy
   exact h2 y h0 hy
  ·rw [List.getElem?_append_left (by omega)] at hy
   obtain ⟨j, hj, hjn⟩ := h.last y h0 hy
   exact sn_asc j i hj hi _ _ hjn hX
 ·rw [hl] at h2
  simp at h2
  subst h2
  exact ⟨i, by omega, hX⟩
theorem SlInv.ok {i : Nat} {ss : List SlotD} (h : SlInv i ss) (hi : i ≤ 3) : SlotsOk ss := ⟨by have := h.le; omega, h.to⟩
theorem len_le_sizes {β : Type} : ∀ l : List (Tr β), l.length ≤ Tr.sizes l
 | [] => Nat.zero_le _
 | x :: l => by have := Tr.size_pos x; have := len_le_sizes l; simp only [List.length_cons, Tr.sizes]; omega
structure PsInv (d q0 q : Nat) (ps : List PT) : Prop where
 sz : Tr.sizes ps + q0 ≤ q
 ok : ∀ p ∈ ps, Tr.Ok AloneP (d + 1) p
theorem PsInv.len {d q0 q : Nat} {ps : List PT} (h : PsInv d q0 q ps) : ps.length + q0 ≤ q := by have := len_le_sizes ps; have := h.sz; omega
theorem PsInv.zero {d q : Nat} : PsInv d q q [] := ⟨by simp [Tr.sizes], by simp⟩
theorem PsInv.add {d q0 q q' : Nat} {ps : List PT} (h : PsInv d q0 q ps) {p : PT} (hp : Tr.Ok AloneP (d + 1) p) (hs : p.size + q ≤ q') : PsInv d q0 q' (ps ++ [p]) :=
 ⟨by rw [Tr.sizes_append]; have := h.sz; simp only [Tr.sizes]; omega, fun c hc => by
  rcases List.mem_append.1 hc with hc | hc
  ·exact h.ok c hc
  ·rw [List.mem_singleton.1 hc]; exact hp⟩
theorem PsInv.one {d q0 q : Nat} {ps : List PT} (h : PsInv d q0 q ps) {p : PT} (hp : Tr.Ok AloneP (d + 1) p) (hk : p.kids = []) : PsInv d q0 (q + 1) (ps ++ [p]) :=
 h.add hp (by rw [Tr.size_eq, hk]; simp only [Tr.sizes]; omega)
theorem PsInv.up {d q0 q : Nat} {ps : List PT} (h : PsInv d q0 q ps) : PsInv d q0 (q + 1) ps := ⟨by have := h.sz; omega, h.ok⟩
end Go.Proofs.YtlnehkjmmegkhaaGreat
