/- The generic core, third part: trees. -/
import Derived.Test.YtmmhmcplegpenaaDoorYB
set_option linter.unusedSimpArgs false
set_option linter.unusedVariables false
/- Trees in memory: what they are, how they are read, how many nodes they have. -/
namespace Go.Y
open Go Go.RowKit
/-- A tree: of each node a kind, a tag, a key, a list, a text, and what is below. -/
inductive Tr (β : Type) where
 | mk (kind : Int) (tag key : List UInt8) (as : List β) (text : List UInt8) (kids : List (Tr β))
namespace Tr
variable {β : Type}
def kind : Tr β → Int | .mk k _ _ _ _ _ => k
def tag : Tr β → List UInt8 | .mk _ t _ _ _ _ => t
def key : Tr β → List UInt8 | .mk _ _ k _ _ _ => k
def as : Tr β → List β | .mk _ _ _ l _ _ => l
def text : Tr β → List UInt8 | .mk _ _ _ _ t _ => t
def kids : Tr β → List (Tr β) | .mk _ _ _ _ _ l => l
mutual
def size : Tr β → Nat
 | .mk _ _ _ _ _ l => sizes l + 1
def sizes : List (Tr β) → Nat
 | [] => 0
 | x :: l => size x + sizes l
end
mutual
def depth : Tr β → Nat
 | .mk _ _ _ _ _ l => depths l + 1
def depths : List (Tr β) → Nat
 | [] => 0
 | x :: l => max (depth x) (depths l)
end
theorem depth_eq (x : Tr β) : x.depth = depths x.kids + 1 := by cases x; simp only [depth, kids]
/-- Valid node by node, on so many levels. -/
def Ok (A : Tr β → Prop) : Nat → Tr β → Prop
 | 0, _ => False
 | n + 1, x => A x ∧ ∀ c ∈ x.kids, Ok A n c
theorem Ok.depth {A : Tr β → Prop} : ∀ {n : Nat} {x : Tr β}, Ok A n x → x.depth ≤ n
 | 0, _, h => h.elim
 | n + 1, x, h => by
  rw [depth_eq]
  have : ∀ l : List (Tr β), (∀ c ∈ l, Ok A n c) → depths l ≤ n := by
   intro l
   induction l with
   | nil => intro _; simp [depths]
   | cons y l ih =>
    intro hl
    have h1 := Ok.depth (hl y (by simp))
    have h2 := ih (fun c hc => hl c (by simp [hc]))
    simp only [depths]; omega
  have := this _ h.2
  omega
theorem Ok.mono {A : Tr β → Prop} : ∀ {n m : Nat} {x : Tr β}, Ok A n x → n ≤ m → Ok A m x
 | 0, _, _, h, _ => h.elim
 | n + 1, 0, _, _, h => by omega
 | n + 1, m + 1, x, h, hm => ⟨h.1, fun c hc => Ok.mono (h.2 c hc) (by omega)⟩
end Tr
section
variable {β : Type} (rb : Rd β) (zb : Nat)
variable {rb zb}
end
section
variable {P : Program} {w0 w : World} {G : Ghost} {L : List Res} {ops : Array Oper} {Q : Exit → Act → World → Prop} {n : Nat} {a : Act} {e : Env} {d : Nat} {t : TypeId} {p : String} {af : Array Edge} {r : List Oper}
theorem rl_callvS {f : FuncId} {cal : Operand} {args : List Operand} {ats : Array TypeId} {vs caps : List Value} {Φ : Value → Prop}
  (F : Fits n a e) (hE : Ent P f) (hc : ev e cal = some (.func (.func f) #[] caps.toArray)) (hv : evs e args = some vs) (hd : Nat.ble (d + 1) n = true) (hs : Calls P f (vs ++ caps).toArray w (RetS w0 G L Φ))
  (k : ∀ v w' a', Mem w0 G L w' → Φ v → Fits n a' ((d, v) :: e) → rl P ops Q r a' w') :
  rl P ops Q (⟨some d, .call ⟨.value cal, args.toArray, ats⟩, t, p, af, none⟩ :: r) a w := by
 refine rl_callv F hE hc hv hd hs fun x w' hx => ?_
 cases x with
 | returned v => obtain ⟨h1, h2⟩ := hx; exact ⟨v, rfl, fun a' F' => k v w' a' h1 h2 F'⟩
 | panicked c => exact hx.elim
 | outgrown => exact hx.elim
theorem At.of_cells {b : Nat} {cs : List Value} {ty : TypeId} {f : Nat × Nat} (h : G b = some (.cells cs.toArray ty f)) : At G b 0 cs := by
 intro j v hj
 unfold gcell
 rw [h]
 simpa using hj
end
section
variable {P : Program} {w0 w : World} {G : Ghost} {L : List Res} {ρ : Operand → Value} {dd : Option Tmp} {t : TypeId} {p : String} {af : Array Edge} {g : Option (Nat × Bool)}
end
section
variable {P : Program} {w0 w : World} {G : Ghost} {L : List Res} {ops : Array Oper} {Q : Exit → Act → World → Prop} {n : Nat} {a : Act} {e : Env} {d : Nat} {t : TypeId} {p : String} {af : Array Edge} {r : List Oper}
/-- 'make([]T, n)' -/
theorem rl_makeE {α : Type} {rd : Rd α} {sz : Nat} {s et : TypeId} {i : TI} {x y : Operand} {kl kc : IntKind} {l : Nat} {zl zc : Int} {Z : α} (F : Fits n a e) (M : Mem w0 G L w) (hs : tk P s = .slice et) (ht : TOK P et i) (hsz : i.size = sz) (hpos : 0 < sz) (hz : i.zero.cells.size = i.size)
  (hx : ev e x = some (.int kl zl)) (hzl : zl = (l : Int)) (hy : ev e y = some (.int kc zc)) (hzc : zc = (l : Int)) (hb : i.bytes * l ≤ 281474976710656) (h63 : l ≤ 9223372036854775807)
  (h1 : ∀ u ∈ i.zero.cells.toList, u.oneCell' = true) (hr : rd G i.zero.cells.toList Z) (hd : Nat.ble (d + 1) n = true)
  (k : ∀ b cs w' a', Mem w0 G (.row (.slice (some ⟨b, 0, none⟩) l l) l cs et sz :: L) w' → Els rd sz G cs (List.replicate l Z) → Fits n a' ((d, .slice (some ⟨b, 0, none⟩) l l) :: e) → rl P ops Q r a' w') :
  rl P ops Q (⟨some d, .makeSlice s x y, t, p, af, none⟩ :: r) a w := by
 subst hsz
 refine rl_run F (run_make_op hs ht (F.ev hx) hzl (F.ev hy) hzc (Nat.le_refl _) hb h63) hd fun a' F' => k _ (List.replicate l i.zero.cells.toList).flatten _ a' ?_ (Els.replicate (by simpa using hz) hr l) F'
 have hm : (madeCells i.zero.cells (l * i.size)) = ((List.replicate l i.zero.cells.toList).flatten ++ []).toArray := by
  rw [List.append_nil, ← made_eq _, hz]
 rw [hm]
 have hl : (List.replicate l i.zero.cells.toList).flatten.length = l * i.size := by
  rw [← made_eq _, Array.length_toList, size_madeCells, hz]
 have h63' : l ≤ maxLen := h63
 refine M.newrow (spare := []) ?_ hl (by rw [List.append_nil]; exact hl) (Nat.le_refl _) h63'
 intro u hu
 obtain ⟨q, hq, hu⟩ := List.mem_flatten.1 hu
 rw [(List.mem_replicate.1 hq).2] at hu
 exact h1 u hu
end
section
variable {P : Program} {w0 w : World} {G : Ghost} {L : List Res}
end
/-! ### Drawn regions: what waits for an operation through others -/
section
variable {P : Program} {ops : Array Oper} {Q : Exit → Act → World → Prop} {C : World → Prop} {ch : List Nat}
end
section
variable {P : Program} {w : World} {ρ : Operand → Value} {dd : Option Tmp} {t : TypeId} {p : String} {af : Array Edge} {g : Option (Nat × Bool)}
end
end Go.Y
