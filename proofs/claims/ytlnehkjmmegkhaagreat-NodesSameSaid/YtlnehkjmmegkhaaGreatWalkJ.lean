/- The walks, part J. -/
import Derived.Test.YtlnehkjmmegkhaaGreatWalkI
namespace Go.Proofs.YtlnehkjmmegkhaaGreat
open Go Go.Y Go.Proofs
set_option linter.unusedSimpArgs false
set_option linter.unusedVariables false
/-- The cells of a node without spare capacity anywhere. -/
def rdTx : Nat → Rd NT
 | 0 => fun _ _ _ => False
 | d + 1 => fun G cs x => ∃ a1 a2, cs = [.int .u8 x.kind, .string (str x.tag), .string (str x.key), .slice a1 x.as.length x.as.length, .string (str x.text), .slice a2 x.kids.length x.kids.length] ∧
   inKind .u8 x.kind ∧ (x.tag.length ≤ 9223372036854775807 ∧ x.key.length ≤ 9223372036854775807 ∧ x.text.length ≤ 9223372036854775807) ∧
   RdSl rdAttr 2 G (.slice a1 x.as.length x.as.length) x.as ∧ RdSl (rdTx d) 6 G (.slice a2 x.kids.length x.kids.length) x.kids
def rdNE : Rd NT := fun G cs x => ∃ d, rdTx d G cs x
theorem rdTx_up : ∀ {d : Nat} {G : Ghost} {cs : List Value} {x : NT}, rdTx d G cs x → rdTx (d + 1) G cs x
 | 0, _, _, _, h => h.elim
 | d + 1, G, cs, x, ⟨a1, a2, h1, h2, h3, h4, h5⟩ => ⟨a1, a2, h1, h2, h3, h4, h5.imp fun _ _ h => rdTx_up h⟩
theorem rdTx_le {d e : Nat} {G : Ghost} {cs : List Value} {x : NT} (h : rdTx d G cs x) (hd : d ≤ e) : rdTx e G cs x := by
 induction hd with
 | refl => exact h
 | step _ ih => exact rdTx_up ih
theorem mono_rdTx : ∀ d : Nat, Mono (rdTx d)
 | 0 => fun _ _ _ _ _ h => h
 | d + 1 => fun G G' cs x hg ⟨a1, a2, h1, h2, h3, h4, h5⟩ => ⟨a1, a2, h1, h2, h3, h4.mono mono_rdAttr hg, h5.mono (mono_rdTx d) hg⟩
theorem mono_rdNE : Mono (rdNE) := fun G G' cs x hg ⟨d, h⟩ => ⟨d, mono_rdTx d G G' cs x hg h⟩
theorem rdNE_open {G : Ghost} {cs : List Value} {x : NT} (h : rdNE G cs x) : ∃ a1 a2, cs = [.int .u8 x.kind, .string (str x.tag), .string (str x.key), .slice a1 x.as.length x.as.length, .string (str x.text), .slice a2 x.kids.length x.kids.length] ∧
      inKind .u8 x.kind ∧ (x.tag.length ≤ 9223372036854775807 ∧ x.key.length ≤ 9223372036854775807 ∧ x.text.length ≤ 9223372036854775807) ∧
      RdSl rdAttr 2 G (.slice a1 x.as.length x.as.length) x.as ∧ RdSl (rdNE) 6 G (.slice a2 x.kids.length x.kids.length) x.kids := by
  obtain ⟨d, h⟩ := h
  cases d with
  | zero => exact h.elim
  | succ d =>
    obtain ⟨a1, a2, h1, h2, h3, h4, h5⟩ := h
    exact ⟨a1, a2, h1, h2, h3, h4, h5.imp fun _ _ h => ⟨d, h⟩⟩
theorem rdTxs_deep {G : Ghost} {v : Value} {xs : List NT} (S : RdSl (rdNE) 6 G v xs) : ∃ d, RdSl (rdTx d) 6 G v xs := by
 obtain ⟨a, c, h1, h2, h3, h4⟩ := S
 rcases h4 with h4 | ⟨b, o, h5, h6⟩
 ·exact ⟨0, a, c, h1, h2, h3, Or.inl h4⟩
 ·have key : ∀ n, ∃ d, ∀ i x, i < n → xs[i]? = some x → ∃ cs : List Value, cs.length = 6 ∧ (∀ u ∈ cs, u.oneCell' = true) ∧ At G b (o + i * 6) cs ∧ rdTx d G cs x := by
   intro n
   induction n with
   | zero => exact ⟨0, fun i x h => by omega⟩
   | succ n ih =>
    obtain ⟨d, hd⟩ := ih
    cases hx : xs[n]? with
    | none =>
     refine ⟨d, fun i x hi hi2 => ?_⟩
     rcases Nat.lt_or_ge i n with h | h
     ·exact hd i x h hi2
     ·have : i = n := by omega
      subst this; rw [hx] at hi2; cases hi2
    | some y =>
     obtain ⟨cs, q1, q2, q3, e, q4⟩ := h6 n y hx
     refine ⟨max d e, fun i x hi hi2 => ?_⟩
     rcases Nat.lt_or_ge i n with h | h
     ·obtain ⟨cs', r1, r2, r3, r4⟩ := hd i x h hi2
      exact ⟨cs', r1, r2, r3, rdTx_le r4 (by omega)⟩
     ·have : i = n := by omega
      subst this
      rw [hx] at hi2
      simp only [Option.some.injEq] at hi2
      subst hi2
      exact ⟨cs, q1, q2, q3, rdTx_le q4 (by omega)⟩
  obtain ⟨d, hd⟩ := key xs.length
  refine ⟨d, a, c, h1, h2, h3, Or.inr ⟨b, o, h5, fun i x hx => hd i x ?_ hx⟩⟩
  rcases Nat.lt_or_ge i xs.length with h | h
  ·exact h
  ·rw [List.getElem?_eq_none h] at hx; cases hx
theorem rdNE_close {G : Ghost} {a1 a2 : Option Addr} {x : NT} (h2 : inKind .u8 x.kind) (h3 : x.tag.length ≤ 9223372036854775807 ∧ x.key.length ≤ 9223372036854775807 ∧ x.text.length ≤ 9223372036854775807)
  (h4 : RdSl rdAttr 2 G (.slice a1 x.as.length x.as.length) x.as) (h5 : RdSl (rdNE) 6 G (.slice a2 x.kids.length x.kids.length) x.kids) :
  rdNE G [.int .u8 x.kind, .string (str x.tag), .string (str x.key), .slice a1 x.as.length x.as.length, .string (str x.text), .slice a2 x.kids.length x.kids.length] x := by
 obtain ⟨d, h5⟩ := rdTxs_deep h5
 exact ⟨d + 1, a1, a2, rfl, h2, h3, h4, h5⟩
theorem rdTx_weak : ∀ {d : Nat} {G : Ghost} {cs : List Value} {x : NT}, rdTx d G cs x → rdTr rdAttr 2 d G cs x
 | 0, _, _, _, h => h.elim
 | d + 1, _, _, _, ⟨a1, a2, h1, h2, h3, h4, h5⟩ => ⟨a1, _, a2, _, h1, h2, h3, h4, h5.imp fun _ _ h => rdTx_weak h⟩
theorem weakN {G : Ghost} {v : Value} {xs : List NT} (h : RdSl rdNE 6 G v xs) : RdSl rdN 6 G v xs := h.imp fun _ _ ⟨d, h⟩ => ⟨d, rdTx_weak h⟩
end Go.Proofs.YtlnehkjmmegkhaaGreat
