/- The generic core, third part: trees. -/
import Derived.Test.YtlnehkjmmegkhaaGreatYB
/- Trees in memory: what they are, how they are read, how many nodes they have. -/
namespace Go.Y
open Go Go.RowKit
/-- A tree: of each node a kind, a tag, a key, a list, a text, and what is below. -/
inductive Tr (β : Type) where
 | mk (kind : Int) (tag key : List UInt8) (as : List β) (text : List UInt8) (kids : List (Tr β))
namespace Tr
variable {β : Type}
def kind : Tr β → Int | .mk k _ _ _ _ _ => k
def tag : Tr β → List UInt8 | .mk _ t _ _ _ _ => t
def key : Tr β → List UInt8 | .mk _ _ k _ _ _ => k
def as : Tr β → List β | .mk _ _ _ l _ _ => l
def text : Tr β → List UInt8 | .mk _ _ _ _ t _ => t
def kids : Tr β → List (Tr β) | .mk _ _ _ _ _ l => l
theorem eta (x : Tr β) : x = .mk x.kind x.tag x.key x.as x.text x.kids := by cases x; rfl
mutual
def size : Tr β → Nat
 | .mk _ _ _ _ _ l => sizes l + 1
def sizes : List (Tr β) → Nat
 | [] => 0
 | x :: l => size x + sizes l
end
mutual
def depth : Tr β → Nat
 | .mk _ _ _ _ _ l => depths l + 1
def depths : List (Tr β) → Nat
 | [] => 0
 | x :: l => max (depth x) (depths l)
end
theorem size_eq (x : Tr β) : x.size = sizes x.kids + 1 := by cases x; simp only [size, kids]
theorem depth_eq (x : Tr β) : x.depth = depths x.kids + 1 := by cases x; simp only [depth, kids]
theorem sizes_append : ∀ (l m : List (Tr β)), sizes (l ++ m) = sizes l + sizes m
 | [], m => by simp [sizes]
 | x :: l, m => by simp only [List.cons_append, sizes, sizes_append l m]; omega
theorem depths_append : ∀ (l m : List (Tr β)), depths (l ++ m) = max (depths l) (depths m)
 | [], m => by simp [depths]
 | x :: l, m => by simp only [List.cons_append, depths, depths_append l m]; omega
theorem size_pos (x : Tr β) : 1 ≤ x.size := by rw [size_eq]; omega
theorem size_mem : ∀ {l : List (Tr β)} {x : Tr β}, x ∈ l → x.size ≤ sizes l
 | y :: l, x, h => by
  simp only [sizes]
  rcases List.mem_cons.1 h with rfl | h
  ·omega
  ·have := size_mem h; omega
theorem size_kid {x c : Tr β} (h : c ∈ x.kids) : c.size < x.size := by
 have := size_mem h
 rw [size_eq x]; omega
/-- From below. -/
theorem ind {p : Tr β → Prop} (h : ∀ x, (∀ c ∈ x.kids, p c) → p x) (x : Tr β) : p x := by
 suffices ∀ n x, size x ≤ n → p x from this _ x (Nat.le_refl _)
 intro n
 induction n with
 | zero => intro x hx; have := size_pos x; omega
 | succ n ih => intro x hx; exact h x fun c hc => ih c (by have := size_kid hc; omega)
theorem take_snoc' {α : Type} {xs : List α} {i : Nat} {x : α} (hx : xs[i]? = some x) : xs.take (i + 1) = xs.take i ++ [x] := by
 have hlt : i < xs.length := by
  rcases Nat.lt_or_ge i xs.length with h | h
  ·exact h
  ·rw [List.getElem?_eq_none h] at hx; cases hx
 rw [List.take_succ_eq_append_getElem hlt]
 rw [List.getElem?_eq_getElem hlt] at hx
 simp only [Option.some.injEq] at hx
 rw [hx]
theorem sizes_snoc {l : List (Tr β)} {i : Nat} {x : Tr β} (h : l[i]? = some x) : sizes (l.take (i + 1)) = sizes (l.take i) + x.size := by
 rw [take_snoc' h, sizes_append]; simp [sizes]
theorem depths_snoc {l : List (Tr β)} {i : Nat} {x : Tr β} (h : l[i]? = some x) : depths (l.take (i + 1)) = max (depths (l.take i)) x.depth := by
 rw [take_snoc' h, depths_append]; simp [depths]
theorem sizes_take_le (l : List (Tr β)) (i : Nat) : sizes (l.take i) ≤ sizes l := by
 conv => rhs; rw [← List.take_append_drop i l]
 rw [sizes_append]; omega
/-- Valid node by node, on so many levels. -/
def Ok (A : Tr β → Prop) : Nat → Tr β → Prop
 | 0, _ => False
 | n + 1, x => A x ∧ ∀ c ∈ x.kids, Ok A n c
theorem Ok.depth {A : Tr β → Prop} : ∀ {n : Nat} {x : Tr β}, Ok A n x → x.depth ≤ n
 | 0, _, h => h.elim
 | n + 1, x, h => by
  rw [depth_eq]
  have : ∀ l : List (Tr β), (∀ c ∈ l, Ok A n c) → depths l ≤ n := by
   intro l
   induction l with
   | nil => intro _; simp [depths]
   | cons y l ih =>
    intro hl
    have h1 := Ok.depth (hl y (by simp))
    have h2 := ih (fun c hc => hl c (by simp [hc]))
    simp only [depths]; omega
  have := this _ h.2
  omega
theorem Ok.mono {A : Tr β → Prop} : ∀ {n m : Nat} {x : Tr β}, Ok A n x → n ≤ m → Ok A m x
 | 0, _, _, h, _ => h.elim
 | n + 1, 0, _, _, h => by omega
 | n + 1, m + 1, x, h, hm => ⟨h.1, fun c hc => Ok.mono (h.2 c hc) (by omega)⟩
end Tr
theorem RdSl.imp {α : Type} {rd rd' : Rd α} {sz : Nat} {G : Ghost} {v : Value} {xs : List α} (h : ∀ cs x, rd G cs x → rd' G cs x) (S : RdSl rd sz G v xs) : RdSl rd' sz G v xs := by
 obtain ⟨a, c, h1, h2, h3, h4⟩ := S
 refine ⟨a, c, h1, h2, h3, ?_⟩
 rcases h4 with h4 | ⟨b, o, h5, h6⟩
 ·exact Or.inl h4
 ·refine Or.inr ⟨b, o, h5, fun i x hx => ?_⟩
  obtain ⟨cs, h7, h10, h8, h9⟩ := h6 i x hx
  exact ⟨cs, h7, h10, h8, h _ _ h9⟩
section
variable {β : Type} (rb : Rd β) (zb : Nat)
/-- The cells of a tree's root, what is below having so many levels. -/
def rdTr : Nat → Rd (Tr β)
 | 0 => fun _ _ _ => False
 | d + 1 => fun G cs x => ∃ a1 c1 a2 c2, cs = [.int .u8 x.kind, .string (str x.tag), .string (str x.key), .slice a1 x.as.length c1, .string (str x.text), .slice a2 x.kids.length c2] ∧
   inKind .u8 x.kind ∧ (x.tag.length ≤ 9223372036854775807 ∧ x.key.length ≤ 9223372036854775807 ∧ x.text.length ≤ 9223372036854775807) ∧
   RdSl rb zb G (.slice a1 x.as.length c1) x.as ∧ RdSl (rdTr d) 6 G (.slice a2 x.kids.length c2) x.kids
def rdT : Rd (Tr β) := fun G cs x => ∃ d, rdTr rb zb d G cs x
variable {rb zb}
theorem rdTr_up : ∀ {d : Nat} {G : Ghost} {cs : List Value} {x : Tr β}, rdTr rb zb d G cs x → rdTr rb zb (d + 1) G cs x
 | 0, _, _, _, h => h.elim
 | d + 1, G, cs, x, ⟨a1, c1, a2, c2, h1, h2, h3, h4, h5⟩ => ⟨a1, c1, a2, c2, h1, h2, h3, h4, h5.imp fun _ _ h => rdTr_up h⟩
theorem rdTr_le {d e : Nat} {G : Ghost} {cs : List Value} {x : Tr β} (h : rdTr rb zb d G cs x) (hd : d ≤ e) : rdTr rb zb e G cs x := by
 induction hd with
 | refl => exact h
 | step _ ih => exact rdTr_up ih
theorem mono_rdTr (hm : Mono rb) : ∀ d : Nat, Mono (rdTr rb zb d)
 | 0 => fun _ _ _ _ _ h => h
 | d + 1 => fun G G' cs x hg ⟨a1, c1, a2, c2, h1, h2, h3, h4, h5⟩ => ⟨a1, c1, a2, c2, h1, h2, h3, h4.mono hm hg, h5.mono (mono_rdTr hm d) hg⟩
theorem mono_rdT (hm : Mono rb) : Mono (rdT rb zb) := fun G G' cs x hg ⟨d, h⟩ => ⟨d, mono_rdTr hm d G G' cs x hg h⟩
theorem rdT_open {G : Ghost} {cs : List Value} {x : Tr β} (h : rdT rb zb G cs x) : ∃ a1 c1 a2 c2, cs = [.int .u8 x.kind, .string (str x.tag), .string (str x.key), .slice a1 x.as.length c1, .string (str x.text), .slice a2 x.kids.length c2] ∧
      inKind .u8 x.kind ∧ (x.tag.length ≤ 9223372036854775807 ∧ x.key.length ≤ 9223372036854775807 ∧ x.text.length ≤ 9223372036854775807) ∧
      RdSl rb zb G (.slice a1 x.as.length c1) x.as ∧ RdSl (rdT rb zb) 6 G (.slice a2 x.kids.length c2) x.kids := by
  obtain ⟨d, h⟩ := h
  cases d with
  | zero => exact h.elim
  | succ d =>
    obtain ⟨a1, c1, a2, c2, h1, h2, h3, h4, h5⟩ := h
    exact ⟨a1, c1, a2, c2, h1, h2, h3, h4, h5.imp fun _ _ h => ⟨d, h⟩⟩
theorem rdTs_deep {G : Ghost} {v : Value} {xs : List (Tr β)} (S : RdSl (rdT rb zb) 6 G v xs) : ∃ d, RdSl (rdTr rb zb d) 6 G v xs := by
 obtain ⟨a, c, h1, h2, h3, h4⟩ := S
 rcases h4 with h4 | ⟨b, o, h5, h6⟩
 ·exact ⟨0, a, c, h1, h2, h3, Or.inl h4⟩
 ·have key : ∀ n, ∃ d, ∀ i x, i < n → xs[i]? = some x → ∃ cs : List Value, cs.length = 6 ∧ (∀ u ∈ cs, u.oneCell' = true) ∧ At G b (o + i * 6) cs ∧ rdTr rb zb d G cs x := by
   intro n
   induction n with
   | zero => exact ⟨0, fun i x h => by omega⟩
   | succ n ih =>
    obtain ⟨d, hd⟩ := ih
    cases hx : xs[n]? with
    | none =>
     refine ⟨d, fun i x hi hi2 => ?_⟩
     rcases Nat.lt_or_ge i n with h | h
     ·exact hd i x h hi2
     ·have : i = n := by omega
      subst this; rw [hx] at hi2; cases hi2
    | some y =>
     obtain ⟨cs, q1, q2, q3, e, q4⟩ := h6 n y hx
     refine ⟨max d e, fun i x hi hi2 => ?_⟩
     rcases Nat.lt_or_ge i n with h | h
     ·obtain ⟨cs', r1, r2, r3, r4⟩ := hd i x h hi2
      exact ⟨cs', r1, r2, r3, rdTr_le r4 (by omega)⟩
     ·have : i = n := by omega
      subst this
      rw [hx] at hi2
      simp only [Option.some.injEq] at hi2
      subst hi2
      exact ⟨cs, q1, q2, q3, rdTr_le q4 (by omega)⟩
  obtain ⟨d, hd⟩ := key xs.length
  refine ⟨d, a, c, h1, h2, h3, Or.inr ⟨b, o, h5, fun i x hx => hd i x ?_ hx⟩⟩
  rcases Nat.lt_or_ge i xs.length with h | h
  ·exact h
  ·rw [List.getElem?_eq_none h] at hx; cases hx
theorem rdT_close {G : Ghost} {a1 a2 : Option Addr} {c1 c2 : Nat} {x : Tr β} (h2 : inKind .u8 x.kind) (h3 : x.tag.length ≤ 9223372036854775807 ∧ x.key.length ≤ 9223372036854775807 ∧ x.text.length ≤ 9223372036854775807)
  (h4 : RdSl rb zb G (.slice a1 x.as.length c1) x.as) (h5 : RdSl (rdT rb zb) 6 G (.slice a2 x.kids.length c2) x.kids) :
  rdT rb zb G [.int .u8 x.kind, .string (str x.tag), .string (str x.key), .slice a1 x.as.length c1, .string (str x.text), .slice a2 x.kids.length c2] x := by
 obtain ⟨d, h5⟩ := rdTs_deep h5
 exact ⟨d + 1, a1, c1, a2, c2, rfl, h2, h3, h4, h5⟩
end
section
variable {P : Program} {w0 w : World} {G : Ghost} {L : List Res} {ops : Array Oper} {Q : Exit → Act → World → Prop} {n : Nat} {a : Act} {e : Env} {d : Nat} {t : TypeId} {p : String} {af : Array Edge} {r : List Oper}
theorem rl_callvS {f : FuncId} {cal : Operand} {args : List Operand} {ats : Array TypeId} {vs caps : List Value} {Φ : Value → Prop}
  (F : Fits n a e) (hE : Ent P f) (hc : ev e cal = some (.func (.func f) #[] caps.toArray)) (hv : evs e args = some vs) (hd : Nat.ble (d + 1) n = true) (hs : Calls P f (vs ++ caps).toArray w (RetS w0 G L Φ))
  (k : ∀ v w' a', Mem w0 G L w' → Φ v → Fits n a' ((d, v) :: e) → rl P ops Q r a' w') :
  rl P ops Q (⟨some d, .call ⟨.value cal, args.toArray, ats⟩, t, p, af, none⟩ :: r) a w := by
 refine rl_callv F hE hc hv hd hs fun x w' hx => ?_
 cases x with
 | returned v => obtain ⟨h1, h2⟩ := hx; exact ⟨v, rfl, fun a' F' => k v w' a' h1 h2 F'⟩
 | panicked c => exact hx.elim
 | outgrown => exact hx.elim
theorem pk_skip_u {C : World → Prop} {r : List (PK × Oper)} {q : PK} {op : Op} {j g : Nat} {want : Bool} (F : Fits n a e) (hj : (ops[j]?).bind (·.dst) = some g) (hb : look e g = some undef) (hd : Nat.ble (d + 1) n = true)
  (k : ∀ a', Fits n a' ((d, undef) :: e) → pk P ops Q C r a' w) : pk P ops Q C ((q, ⟨some d, op, t, p, af, some (j, want)⟩) :: r) a w := by
 have hy : yielded ops a.tmps j = none := by simp [yielded, hj, F.slot _ _ hb, undef]
 have hne : Region.wanted ⟨some d, op, t, p, af, some (j, want)⟩ (yielded ops a.tmps) = false := by simp [Region.wanted, hy]
 cases q with
 | free => exact ⟨undef, Or.inr ⟨hne, rfl⟩, k _ (F.put hd)⟩
 | pure => exact ⟨undef, Or.inr ⟨hne, rfl⟩, k _ (F.put hd)⟩
 | keep => exact ⟨fun h => (by rw [hne] at h; cases h), fun _ => k _ (F.put hd)⟩
 | chg => exact ⟨fun h => (by rw [hne] at h; cases h), fun _ => k _ (F.put hd)⟩
theorem At.of_cells {b : Nat} {cs : List Value} {ty : TypeId} {f : Nat × Nat} (h : G b = some (.cells cs.toArray ty f)) : At G b 0 cs := by
 intro j v hj
 unfold gcell
 rw [h]
 simpa using hj
theorem fin_cc {fn : Func} (F : Fits n a e) {t u ty1 ty2 k1 k2 b1 b2 : Nat} {x y : Value} {R : Ending → World → Prop} (M : Mem w0 G L w) (hk1 : L[k1]? = some (.blk b1 [x] ty1)) (hk2 : L[k2]? = some (.blk b2 [y] ty2)) (hf : fn.results = #[.cell t ty1, .cell u ty2])
  (h1 : (tk P ty1).agg = some false) (h2 : (tk P ty2).agg = some false) (hv1 : look e t = some (.pointer (some ⟨b1, 0, none⟩))) (hv2 : look e u = some (.pointer (some ⟨b2, 0, none⟩))) (h : R (.returned (.tuple #[x, y])) w) : bodyPost P fn R .ret a w := by
 refine fin_of F (v := .tuple #[x, y]) ?_ h
 have l1 : (loadVar ty1 ⟨b1, 0, none⟩).run P w = .ok x w := run_loadVar1 h1 (M.cellL hk1 rfl)
 have l2 : (loadVar ty2 ⟨b2, 0, none⟩).run P w = .ok y w := run_loadVar1 h2 (M.cellL hk2 rfl)
 simp [results, hf, F.slot _ _ hv1, F.slot _ _ hv2, asAddr, l1, l2]
end
section
variable {P : Program} {w0 w : World} {G : Ghost} {L : List Res} {ρ : Operand → Value} {dd : Option Tmp} {t : TypeId} {p : String} {af : Array Edge} {g : Option (Nat × Bool)}
end
section
variable {P : Program} {w0 w : World} {G : Ghost} {L : List Res} {ops : Array Oper} {Q : Exit → Act → World → Prop} {n : Nat} {a : Act} {e : Env} {d : Nat} {t : TypeId} {p : String} {af : Array Edge} {r : List Oper}
/-- 'make([]T, n)' -/
theorem rl_makeE {α : Type} {rd : Rd α} {sz : Nat} {s et : TypeId} {i : TI} {x y : Operand} {kl kc : IntKind} {l : Nat} {zl zc : Int} {Z : α} (F : Fits n a e) (M : Mem w0 G L w) (hs : tk P s = .slice et) (ht : TOK P et i) (hsz : i.size = sz) (hpos : 0 < sz) (hz : i.zero.cells.size = i.size)
  (hx : ev e x = some (.int kl zl)) (hzl : zl = (l : Int)) (hy : ev e y = some (.int kc zc)) (hzc : zc = (l : Int)) (hb : i.bytes * l ≤ 281474976710656) (h63 : l ≤ 9223372036854775807)
  (h1 : ∀ u ∈ i.zero.cells.toList, u.oneCell' = true) (hr : rd G i.zero.cells.toList Z) (hd : Nat.ble (d + 1) n = true)
  (k : ∀ b cs w' a', Mem w0 G (.row (.slice (some ⟨b, 0, none⟩) l l) l cs et sz :: L) w' → Els rd sz G cs (List.replicate l Z) → Fits n a' ((d, .slice (some ⟨b, 0, none⟩) l l) :: e) → rl P ops Q r a' w') :
  rl P ops Q (⟨some d, .makeSlice s x y, t, p, af, none⟩ :: r) a w := by
 subst hsz
 refine rl_run F (run_make_op hs ht (F.ev hx) hzl (F.ev hy) hzc (Nat.le_refl _) hb h63) hd fun a' F' => k _ (List.replicate l i.zero.cells.toList).flatten _ a' ?_ (Els.replicate (by simpa using hz) hr l) F'
 have hm : (madeCells i.zero.cells (l * i.size)) = ((List.replicate l i.zero.cells.toList).flatten ++ []).toArray := by
  rw [List.append_nil, ← made_eq _, hz]
 rw [hm]
 have hl : (List.replicate l i.zero.cells.toList).flatten.length = l * i.size := by
  rw [← made_eq _, Array.length_toList, size_madeCells, hz]
 have h63' : l ≤ maxLen := h63
 refine M.newrow (spare := []) ?_ hl (by rw [List.append_nil]; exact hl) (Nat.le_refl _) h63'
 intro u hu
 obtain ⟨q, hq, hu⟩ := List.mem_flatten.1 hu
 rw [(List.mem_replicate.1 hq).2] at hu
 exact h1 u hu
end
section
variable {P : Program} {w0 w : World} {G : Ghost} {L : List Res}
theorem fin_c {fn : Func} {n : Nat} {a : Act} {e : Env} (F : Fits n a e) {t ty k b : Nat} {i : TI} {cs : List Value} {R : Ending → World → Prop} (M : Mem w0 G L w) (hk : L[k]? = some (.blk b cs ty)) (hf : fn.results = #[.cell t ty])
  (hty : TOK P ty i) (hag : i.k.agg = some true) (hl : cs.length = i.size) (hv : look e t = some (.pointer (some ⟨b, 0, none⟩))) (h : R (.returned (.agg cs.toArray)) w) : bodyPost P fn R .ret a w := by
 refine fin_of F (v := .agg cs.toArray) ?_ h
 have h1 : (loadVar ty ⟨b, 0, none⟩).run P w = .ok (.agg cs.toArray) w := run_loadVarA hty hag hl (M.cellsL hk (by rw [List.drop_zero, ← hl, List.take_length]))
 simp [results, hf, F.slot _ _ hv, asAddr, h1]
end
/-! ### Drawn regions: what waits for an operation through others -/
section
variable {P : Program} {ops : Array Oper} {Q : Exit → Act → World → Prop} {C : World → Prop} {ch : List Nat}
theorem anyD_first2 {i : Nat} {oi : Oper} {v : Value} {fr : Bool} (hi : ops[i]? = some oi) (hsel : ∀ (j : Nat) (o : Oper) cs b, ops[j]? = some o → o.op ≠ .select cs b) (hQ : ∀ c a w, Q (.panic c) (a.put oi.dst v) w → Q (.panic c) a w)
  (D : Nat → Bool) (hD : ∀ (j : Nat) (oj : Oper), ops[j]? = some oj → D j = true → ∃ e ∈ oj.after, Region.binds .any e = true ∧ (e.on = i ∨ D e.on = true)) :
  ∀ (fuel : Nat) (C : World → Prop) (listed : Array Bool) (a : Act) (w : World), C w →
   (∀ j oj, ops[j]? = some oj → j ≠ i → listed.getD j true = false → D j = false → oi.apart ops oj = true ∧ (fr = true ∨ inL ch j = false)) →
   (∀ j, D j = true → listed.getD j true = false) → i ∈ Region.ready .any ops listed → (if fr = true then Gives P ops (fun _ => True) oi v a else Gives P ops C oi v a) → anyD P ops Q ch C fuel (listed.setIfInBounds i true) (a.put oi.dst v) w → anyD P ops Q ch C (fuel + 1) listed a w := by
 have gC : ∀ {C : World → Prop} {a : Act}, (if fr = true then Gives P ops (fun _ => True) oi v a else Gives P ops C oi v a) → Gives P ops C oi v a := by
  intro C a h
  split at h
  ·exact h.mono fun _ _ => trivial
  ·exact h
 intro fuel
 induction fuel with
 | zero =>
  intro C listed a w hC _ _ hr hy H
  refine ⟨fun h => (by rw [h] at hr; cases hr), fun j hj => ?_⟩
  by_cases hji : j = i
  ·subst hji; exact (gC hy).op hi hC ⟨C, hC, fun _ _ h => h, H⟩
  ·have := ready_mono hj hji
   rw [H.1] at this
   cases this
 | succ fuel ih =>
  intro C listed a w hC hf hu hr hy H
  refine ⟨fun h => (by rw [h] at hr; cases hr), fun j hj => ?_⟩
  by_cases hji : j = i
  ·subst hji; exact (gC hy).op hi hC ⟨C, hC, fun _ _ h => h, H⟩
  ·obtain ⟨hju, oj, hoj, hall⟩ := mem_ready.1 hj
   have hno : D j = false := by
    rw [← Bool.not_eq_true]
    intro hdj
    obtain ⟨e, he, hb, hor⟩ := hD j oj hoj hdj
    rcases hor with heq | hde
    ·exact ready_waits hoj hj hr he hb heq
    ·have h1 : (listed[e.on]?).getD false = true := by simpa using hall e he hb
     have h0 : (listed[e.on]?).getD true = false := by simpa using hu e.on hde
     cases hq : listed[e.on]? with
     | none => rw [hq] at h1; cases h1
     | some b => rw [hq] at h1 h0; simp only [Option.getD_some] at h1 h0; rw [h1] at h0; cases h0
   obtain ⟨hap, hfr⟩ := hf j oj hoj hji hju hno
   have key : ∀ {D : World → Prop}, Gives P ops D oi v a → (∀ (a' : Act) (C' : World → Prop), Gives P ops D oi v a' → (inL ch j = false → ∀ w, C' w → C w) → (if fr = true then Gives P ops (fun _ => True) oi v a' else Gives P ops C' oi v a')) →
     wpOp P ops Q j (fun a' w' => ∃ C' : World → Prop, C' w' ∧ (inL ch j = false → ∀ w, C' w → C w) ∧ anyD P ops Q ch C' (fuel + 1) (listed.setIfInBounds j true) a' w') a w := by
    intro D hg hstep
    have h2 := op_apart hoj hap (hsel i oi · · hi) (hsel j oj · · hoj) hQ hg (H.2 j (ready_mono hj hji))
    refine wpOp_mono (fun a' w' h3 => ?_) h2
    obtain ⟨h4, C', h5, h7, h6⟩ := h3
    refine ⟨C', h5, h7, ih C' _ a' w' h5 ?_ ?_ (ready_mono hr (Ne.symm hji)) (hstep a' C' h4 h7) ?_⟩
    ·intro k ok hk hki hun hno'
     refine hf k ok hk hki ?_ hno'
     by_cases hjk : j = k
     ·subst hjk; exact hju
     ·rw [getD_set_ne true hjk] at hun; exact hun
    ·intro k hk
     have hjk : j ≠ k := by rintro rfl; rw [hno] at hk; cases hk
     rw [getD_set_ne true hjk]; exact hu k hk
    ·rw [Array.setIfInBounds_comm _ _ hji]
     exact h6
   cases fr with
   | true =>
    simp only [if_true] at hy
    exact key hy fun a' C' h _ => by simpa using h
   | false =>
    simp only [Bool.false_eq_true, if_false] at hy
    have hk : inL ch j = false := by simpa using hfr
    exact key hy fun a' C' h h7 => by simpa using h.mono (h7 hk)
def depB (ops : Array Oper) (i : Nat) : Nat → Nat → Bool
 | 0, _ => false
 | f + 1, j => match ops[j]? with
  | none => false
  | some oj => oj.after.any fun e => Region.binds .any e && (Nat.beq e.on i || depB ops i f e.on)
theorem depB_open {i f j : Nat} {oj : Oper} (hj : ops[j]? = some oj) (h : depB ops i (f + 1) j = true) : ∃ e ∈ oj.after, Region.binds .any e = true ∧ (e.on = i ∨ depB ops i f e.on = true) := by
 simp only [depB, hj] at h
 obtain ⟨e, he, hb⟩ := Array.any_eq_true'.1 h
 simp only [Bool.and_eq_true, Bool.or_eq_true] at hb
 exact ⟨e, he, hb.1, hb.2.imp Nat.eq_of_beq_eq_true id⟩
theorem depB_up {i : Nat} : ∀ {f j : Nat}, depB ops i f j = true → depB ops i (f + 1) j = true
 | 0, _, h => by cases h
 | f + 1, j, h => by
  cases hj : ops[j]? with
  | none => simp [depB, hj] at h
  | some oj =>
   obtain ⟨e, he, hb, hor⟩ := depB_open hj h
   simp only [depB, hj]
   refine Array.any_eq_true'.2 ⟨e, he, ?_⟩
   rw [hb, Bool.true_and, Bool.or_eq_true]
   rcases hor with h1 | h1
   ·left; rw [h1]; exact Nat.beq_refl i
   ·right
    have := depB_up h1
    simpa [depB] using this
theorem depB_closed {i f : Nat} (j : Nat) (oj : Oper) (hj : ops[j]? = some oj) (h : depB ops i f j = true) : ∃ e ∈ oj.after, Region.binds .any e = true ∧ (e.on = i ∨ depB ops i f e.on = true) := by
 cases f with
 | zero => cases h
 | succ f =>
  obtain ⟨e, he, hb, hor⟩ := depB_open hj h
  exact ⟨e, he, hb, hor.imp id depB_up⟩
def freeD2 (ops : Array Oper) (fr : Bool) (ch : List Nat) (i : Nat) (listed : Array Bool) : Bool :=
 match ops[i]? with
 | none => false
 | some oi => (List.range ops.size).all fun j => match ops[j]? with
  | none => true
  | some oj => if depB ops i 5 j then !(listed.getD j true) else (Nat.beq j i || listed.getD j true || (oi.apart ops oj && (fr || !inL ch j)))
theorem freeD2_spec {fr : Bool} {i : Nat} {oi : Oper} {listed : Array Bool} (hi : ops[i]? = some oi) (hf : freeD2 ops fr ch i listed = true) :
  (∀ j oj, ops[j]? = some oj → j ≠ i → listed.getD j true = false → depB ops i 5 j = false → oi.apart ops oj = true ∧ (fr = true ∨ inL ch j = false)) ∧ (∀ j, depB ops i 5 j = true → listed.getD j true = false) := by
 have key : ∀ j oj, ops[j]? = some oj → (if depB ops i 5 j then !(listed.getD j true) else (Nat.beq j i || listed.getD j true || (oi.apart ops oj && (fr || !inL ch j)))) = true := by
  intro j oj hj
  unfold freeD2 at hf
  simp only [hi] at hf
  have hlt : j < ops.size := by
   rcases Nat.lt_or_ge j ops.size with h' | h'
   ·exact h'
   ·rw [Array.getElem?_eq_none h'] at hj; cases hj
  have := List.all_eq_true.1 hf j (List.mem_range.2 hlt)
  simp only [hj] at this
  exact this
 refine ⟨fun j oj hj hji hun hd => ?_, fun j hd => ?_⟩
 ·have h := key j oj hj
  rw [hd, if_neg (by simp)] at h
  simp only [Bool.or_eq_true, Bool.and_eq_true] at h
  rcases h with (h1 | h1) | h1
  ·exact absurd (Nat.eq_of_beq_eq_true h1) hji
  ·rw [h1] at hun; cases hun
  ·exact ⟨h1.1, by simpa using h1.2⟩
 ·cases hj : ops[j]? with
  | none => simp [depB, hj] at hd
  | some oj =>
   have h := key j oj hj
   rw [hd, if_pos rfl] at h
   simpa using h
def planD2 (ops : Array Oper) (ch : List Nat) : List (PK × Nat) → Array Bool → Bool
 | [], listed => (Region.ready .any ops listed).isEmpty
 | (.free, i) :: r, listed => (Region.ready .any ops listed).any (Nat.beq i) && freeD2 ops true ch i listed && planD2 ops ch r (listed.setIfInBounds i true)
 | (.pure, i) :: r, listed => (Region.ready .any ops listed).any (Nat.beq i) && freeD2 ops false ch i listed && planD2 ops ch r (listed.setIfInBounds i true)
 | (.keep, i) :: r, listed => (match Region.ready .any ops listed with | [j] => Nat.beq i j | _ => false) && planD2 ops ch r (listed.setIfInBounds i true)
 | (.chg, i) :: r, listed => inL ch i && (match Region.ready .any ops listed with | [j] => Nat.beq i j | _ => false) && planD2 ops ch r (listed.setIfInBounds i true)
theorem anyD_of_pk2 (hsel : ∀ (j : Nat) (o : Oper) cs b, ops[j]? = some o → o.op ≠ .select cs b) (hQ : ∀ c a d v w, Q (.panic c) (a.put d v) w → Q (.panic c) a w) :
  ∀ (order : List (PK × Nat)) (C : World → Prop) (listed : Array Bool) (plan : List (PK × Oper)) (a : Act) (w : World), order.map (fun x => (x.1, ops[x.2]?)) = plan.map (fun x => (x.1, some x.2)) → planD2 ops ch order listed = true → C w →
   pk P ops Q C plan a w → anyD P ops Q ch C order.length listed a w
 | [], C, listed, plan, a, w, hp, hok, _, h => by
  cases plan with
  | nil => exact ⟨by simpa [planD2] using hok, h⟩
  | cons x y => simp at hp
 | (k, i) :: order, C, listed, plan, a, w, hp, hok, hC, h => by
  cases plan with
  | nil => simp at hp
  | cons x plan =>
   obtain ⟨b, o⟩ := x
   simp only [List.map_cons, List.cons.injEq, Prod.mk.injEq] at hp
   obtain ⟨⟨rfl, hi⟩, hp⟩ := hp
   have hin : ∀ {l : List Nat}, l.any (Nat.beq i) = true → i ∈ l := by
    intro l hl
    obtain ⟨j, hj, hb⟩ := List.any_eq_true.1 hl
    rw [Nat.eq_of_beq_eq_true hb]; exact hj
   have one : (match Region.ready .any ops listed with | [j] => Nat.beq i j | _ => false) = true → Region.ready .any ops listed = [i] := by
    intro hr
    split at hr
    ·rename_i j hj; rw [hj, Nat.eq_of_beq_eq_true hr]
    ·cases hr
   cases k with
   | free =>
    simp only [planD2, Bool.and_eq_true] at hok
    obtain ⟨⟨hr, hf⟩, hok⟩ := hok
    obtain ⟨v, hy, h'⟩ := h
    exact anyD_first2 (fr := true) hi hsel (fun c a w => hQ c a o.dst v w) _ depB_closed _ C listed a w hC (freeD2_spec hi hf).1 (freeD2_spec hi hf).2 (hin hr) (by simpa using hy) (anyD_of_pk2 hsel hQ order C _ plan _ w hp hok hC h')
   | pure =>
    simp only [planD2, Bool.and_eq_true] at hok
    obtain ⟨⟨hr, hf⟩, hok⟩ := hok
    obtain ⟨v, hy, h'⟩ := h
    exact anyD_first2 (fr := false) hi hsel (fun c a w => hQ c a o.dst v w) _ depB_closed _ C listed a w hC (freeD2_spec hi hf).1 (freeD2_spec hi hf).2 (hin hr) (by simpa using hy) (anyD_of_pk2 hsel hQ order C _ plan _ w hp hok hC h')
   | keep =>
    simp only [planD2, Bool.and_eq_true] at hok
    obtain ⟨hr, hok⟩ := hok
    have hready := one hr
    refine ⟨fun h0 => (by rw [hready] at h0; cases h0), fun j hj => ?_⟩
    rw [hready] at hj
    have hji : j = i := by simpa using hj
    subst hji
    obtain ⟨h1, h2⟩ := h
    unfold wpOp
    simp only [hi]
    by_cases hw : Region.wanted o (yielded ops a.tmps) = true
    ·rw [if_pos hw]
     left
     exact Oper.wp_mono (fun a' w' hk => by
      obtain ⟨C', h3, h4, h5⟩ := hk
      exact ⟨C', h3, fun _ => h4, anyD_of_pk2 hsel hQ order C' _ plan a' w' hp hok h3 h5⟩) (h1 hw)
    ·rw [if_neg hw]
     exact ⟨C, hC, fun _ _ h => h, anyD_of_pk2 hsel hQ order C _ plan _ w hp hok hC (h2 (by simpa using hw))⟩
   | chg =>
    simp only [planD2, Bool.and_eq_true] at hok
    obtain ⟨⟨hch, hr⟩, hok⟩ := hok
    have hready := one hr
    refine ⟨fun h0 => (by rw [hready] at h0; cases h0), fun j hj => ?_⟩
    rw [hready] at hj
    have hji : j = i := by simpa using hj
    subst hji
    obtain ⟨h1, h2⟩ := h
    unfold wpOp
    simp only [hi]
    by_cases hw : Region.wanted o (yielded ops a.tmps) = true
    ·rw [if_pos hw]
     left
     exact Oper.wp_mono (fun a' w' hk => by
      obtain ⟨C', h3, h5⟩ := hk
      exact ⟨C', h3, fun h => (by rw [hch] at h; cases h), anyD_of_pk2 hsel hQ order C' _ plan a' w' hp hok h3 h5⟩) (h1 hw)
    ·rw [if_neg hw]
     exact ⟨C, hC, fun h => (by rw [hch] at h; cases h), anyD_of_pk2 hsel hQ order C _ plan _ w hp hok hC (h2 (by simpa using hw))⟩
def planCheck3 (l : List Oper) (ch : List Nat) (order : List (PK × Nat)) : Bool :=
 Region.noSelect l.toArray && order.all (fun x => Nat.ble (x.2 + 1) l.length) && Nat.beq order.length l.length && planD2 l.toArray ch order (Array.replicate l.length false)
theorem w_plan3 {id : Nat} {l : List Oper} {a : Act} {w : World} (order : List (PK × Nat)) (ch : List Nat) (C : World → Prop) (hm : P.follows .mixedOrders = true) (hk : planCheck3 l ch order = true)
  (hQ : ∀ c a d v w, Q (.panic c) (a.put d v) w → Q (.panic c) a w) (hC : C { w with drawn := w.drawn + 1 }) (h : pk P l.toArray Q C (planOf2 l.toArray order) a { w with drawn := w.drawn + 1 }) : (Code.region id l.toArray true).wp P Q a w := by
 simp only [planCheck3, Bool.and_eq_true] at hk
 obtain ⟨⟨⟨hs, hr⟩, hn⟩, hok⟩ := hk
 refine wp_region_any hm (any_of_anyD (ch := ch) _ C _ _ _ ?_)
 have hn' := Nat.eq_of_beq_eq_true hn
 have := anyD_of_pk2 (P := P) (Region.noSelect_spec hs) hQ order C (Array.replicate l.length false) _ a _ (planOf2_map order (by simpa using hr)) hok hC h
 rw [hn'] at this
 simpa using this
end
section
variable {P : Program} {w : World} {ρ : Operand → Value} {dd : Option Tmp} {t : TypeId} {p : String} {af : Array Edge} {g : Option (Nat × Bool)}
theorem run_equal2s {ty t1 t2 : TypeId} {a1 a2 b1 b2 : List UInt8} (hst : P.stoodInHeld ty = false) (hty : P.underlying ty = some (.struct (P.fieldsOf ty)))
  (hf : (P.fieldsOf ty).toList.map (fun f => (f.name == "_", f.type, f.offset)) = [(false, t1, 0), (false, t2, 1)]) (h1 : tk P t1 = .str) (h2 : tk P t2 = .str) :
  (Op.equalIn 10000 ty (.agg #[.string (str a1), .string (str a2)]) (.agg #[.string (str b1), .string (str b2)])).run P w = .ok (decide (a1 = b1 ∧ a2 = b2)) w := by
 rw [run_equalIn_struct w 9999 ty _ _ hty hst]
 generalize hfs : (P.fieldsOf ty).toList = fs at hf
 obtain ⟨f, f', rfl⟩ : ∃ f f', fs = [f, f'] := by
  have hl := congrArg List.length hf
  simp only [List.length_map, List.length_cons, List.length_nil] at hl
  match fs, hl with
  | [f, f'], _ => exact ⟨f, f', rfl⟩
 simp only [List.map_cons, List.map_nil, List.cons.injEq, Prod.mk.injEq, and_true] at hf
 obtain ⟨⟨hn, rfl, ho⟩, hn', rfl, ho'⟩ := hf
 have e1 : f.name ≠ "_" := by simpa using hn
 have e2 : f'.name ≠ "_" := by simpa using hn'
 have p1 : ∀ (w : World) (x y : List UInt8), (part f.type #[.string (str x), .string (str y)] f.offset).run P w = .ok (.string (str x)) w := fun w x y => run_part1 (by rw [h1]; rfl) (by rw [ho]; rfl)
 have p2 : ∀ (w : World) (x y : List UInt8), (part f'.type #[.string (str x), .string (str y)] f'.offset).run P w = .ok (.string (str y)) w := fun w x y => run_part1 (by rw [h2]; rfl) (by rw [ho']; rfl)
 have q1 : (Op.equalIn 9999 f.type (.string (str a1)) (.string (str b1))).run P w = .ok (a1 == b1) w := by have h_ := run_equalIn_string (P := P) (w := w) 9998 f.type (str a1) (str b1) (under_str h1); rw [str_toList, str_toList] at h_; exact h_
 have q2 : (Op.equalIn 9999 f'.type (.string (str a2)) (.string (str b2))).run P w = .ok (a2 == b2) w := by have h_ := run_equalIn_string (P := P) (w := w) 9998 f'.type (str a2) (str b2) (under_str h2); rw [str_toList, str_toList] at h_; exact h_
 by_cases c1 : a1 = b1
 ·have d1 : (a1 == b1) = true := by simpa using c1
  by_cases c2 : a2 = b2
  ·have d2 : (a2 == b2) = true := by simpa using c2
   rw [decide_eq_true ⟨c1, c2⟩]
   simp only [Op.eqFields, ne_eq, e1, e2, not_false_eq_true, if_true, Sem.run_bind, p1, p2, Result.andThen_ok, q1, q2, d1, d2, Bool.not_true, Bool.false_eq_true, if_false, Sem.run_pure]
  ·have d2 : (a2 == b2) = false := by simpa using c2
   rw [decide_eq_false (fun h => c2 h.2)]
   simp only [Op.eqFields, ne_eq, e1, e2, not_false_eq_true, if_true, Sem.run_bind, p1, p2, Result.andThen_ok, q1, q2, d1, d2, Bool.not_true, Bool.not_false, Bool.false_eq_true, if_false, Sem.run_pure]
 ·have d1 : (a1 == b1) = false := by simpa using c1
  rw [decide_eq_false (fun h => c1 h.1)]
  simp only [Op.eqFields, ne_eq, e1, not_false_eq_true, if_true, Sem.run_bind, p1, Result.andThen_ok, q1, d1, Bool.not_false, Sem.run_pure]
theorem run_ne2s {ty yt t1 t2 : TypeId} {x y : Operand} {a1 a2 b1 b2 : List UInt8} (hg : P.eqGuardType P.depth ty = false) (hst : P.stoodInHeld ty = false) (hty : P.underlying ty = some (.struct (P.fieldsOf ty)))
  (hf : (P.fieldsOf ty).toList.map (fun f => (f.name == "_", f.type, f.offset)) = [(false, t1, 0), (false, t2, 1)]) (h1 : tk P t1 = .str) (h2 : tk P t2 = .str)
  (hx : ρ x = .agg #[.string (str a1), .string (str a2)]) (hy : ρ y = .agg #[.string (str b1), .string (str b2)]) :
  (execOp ρ ⟨dd, .binOp .neq ty x y yt, t, p, af, g⟩).run P w = .ok (.value (.bool (!decide (a1 = b1 ∧ a2 = b2)))) w := by
 have h0 := run_eqGuard_agg (P := P) w .neq ty x y #[.string (str a1), .string (str a2)] #[.string (str b1), .string (str b2)] hg
 have h3 := run_neq_struct (P := P) w ty #[.string (str a1), .string (str a2)] #[.string (str b1), .string (str b2)]
 rw [run_equal2s hst hty hf h1 h2] at h3
 simp only [execOp, hx, hy, Sem.run_bind, h0, Result.andThen_ok, h3, Sem.run_pure]
end
end Go.Y
