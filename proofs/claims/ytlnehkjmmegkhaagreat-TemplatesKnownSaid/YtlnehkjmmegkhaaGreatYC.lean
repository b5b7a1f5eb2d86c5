/- The generic core, third part: trees. -/
import Derived.Test.YtlnehkjmmegkhaaGreatYB
/- Trees in memory: what they are, how they are read, how many nodes they have. -/
namespace Go.Y
open Go Go.RowKit
/-- A tree: of each node a kind, a tag, a key, a list, a text, and what is below. -/
inductive Tr (β : Type) where
  | mk (kind : Int) (tag key : List UInt8) (as : List β) (text : List UInt8) (kids : List (Tr β))
namespace Tr
variable {β : Type}
def kind : Tr β → Int | .mk k _ _ _ _ _ => k
def tag : Tr β → List UInt8 | .mk _ t _ _ _ _ => t
def key : Tr β → List UInt8 | .mk _ _ k _ _ _ => k
def as : Tr β → List β | .mk _ _ _ l _ _ => l
def text : Tr β → List UInt8 | .mk _ _ _ _ t _ => t
def kids : Tr β → List (Tr β) | .mk _ _ _ _ _ l => l
mutual
def size : Tr β → Nat
  | .mk _ _ _ _ _ l => sizes l + 1
def sizes : List (Tr β) → Nat
  | [] => 0
  | x :: l => size x + sizes l
end
mutual
def depth : Tr β → Nat
  | .mk _ _ _ _ _ l => depths l + 1
def depths : List (Tr β) → Nat
  | [] => 0
  | x :: l => max (depth x) (depths l)
end
theorem size_eq (x : Tr β) : x.size = sizes x.kids + 1 := by cases x; simp only [size, kids]
theorem depth_eq (x : Tr β) : x.depth = depths x.kids + 1 := by cases x; simp only [depth, kids]
theorem sizes_append : ∀ (l m : List (Tr β)), sizes (l ++ m) = sizes l + sizes m
  | [], m => by simp [sizes]
  | x :: l, m => by simp only [List.cons_append, sizes, sizes_append l m]; omega
theorem depths_append : ∀ (l m : List (Tr β)), depths (l ++ m) = max (depths l) (depths m)
  | [], m => by simp [depths]
  | x :: l, m => by simp only [List.cons_append, depths, depths_append l m]; omega
theorem size_pos (x : Tr β) : 1 ≤ x.size := by rw [size_eq]; omega
theorem size_mem : ∀ {l : List (Tr β)} {x : Tr β}, x ∈ l → x.size ≤ sizes l
  | y :: l, x, h => by
    simp only [sizes]
    rcases List.mem_cons.1 h with rfl | h
    · omega
    · have := size_mem h; omega
theorem size_kid {x c : Tr β} (h : c ∈ x.kids) : c.size < x.size := by
  have := size_mem h
  rw [size_eq x]; omega
/-- From below. -/
theorem ind {p : Tr β → Prop} (h : ∀ x, (∀ c ∈ x.kids, p c) → p x) (x : Tr β) : p x := by
  suffices ∀ n x, size x ≤ n → p x from this _ x (Nat.le_refl _)
  intro n
  induction n with
  | zero => intro x hx; have := size_pos x; omega
  | succ n ih => intro x hx; exact h x fun c hc => ih c (by have := size_kid hc; omega)
theorem take_snoc' {α : Type} {xs : List α} {i : Nat} {x : α} (hx : xs[i]? = some x) : xs.take (i + 1) = xs.take i ++ [x] := by
  have hlt : i < xs.length := by
    rcases Nat.lt_or_ge i xs.length with h | h
    · exact h
    · rw [List.getElem?_eq_none h] at hx; cases hx
  rw [List.take_succ_eq_append_getElem hlt]
  rw [List.getElem?_eq_getElem hlt] at hx
  simp only [Option.some.injEq] at hx
  rw [hx]
theorem sizes_snoc {l : List (Tr β)} {i : Nat} {x : Tr β} (h : l[i]? = some x) : sizes (l.take (i + 1)) = sizes (l.take i) + x.size := by
  rw [take_snoc' h, sizes_append]; simp [sizes]
theorem depths_snoc {l : List (Tr β)} {i : Nat} {x : Tr β} (h : l[i]? = some x) : depths (l.take (i + 1)) = max (depths (l.take i)) x.depth := by
  rw [take_snoc' h, depths_append]; simp [depths]
theorem sizes_take_le (l : List (Tr β)) (i : Nat) : sizes (l.take i) ≤ sizes l := by
  conv => rhs; rw [← List.take_append_drop i l]
  rw [sizes_append]; omega
/-- Valid node by node, on so many levels. -/
def Ok (A : Tr β → Prop) : Nat → Tr β → Prop
  | 0, _ => False
  | n + 1, x => A x ∧ ∀ c ∈ x.kids, Ok A n c
theorem Ok.depth {A : Tr β → Prop} : ∀ {n : Nat} {x : Tr β}, Ok A n x → x.depth ≤ n
  | 0, _, h => h.elim
  | n + 1, x, h => by
    rw [depth_eq]
    have : ∀ l : List (Tr β), (∀ c ∈ l, Ok A n c) → depths l ≤ n := by
      intro l
      induction l with
      | nil => intro _; simp [depths]
      | cons y l ih =>
        intro hl
        have h1 := Ok.depth (hl y (by simp))
        have h2 := ih (fun c hc => hl c (by simp [hc]))
        simp only [depths]; omega
    have := this _ h.2
    omega
theorem Ok.mono {A : Tr β → Prop} : ∀ {n m : Nat} {x : Tr β}, Ok A n x → n ≤ m → Ok A m x
  | 0, _, _, h, _ => h.elim
  | n + 1, 0, _, _, h => by omega
  | n + 1, m + 1, x, h, hm => ⟨h.1, fun c hc => Ok.mono (h.2 c hc) (by omega)⟩
end Tr
theorem RdSl.imp {α : Type} {rd rd' : Rd α} {sz : Nat} {G : Ghost} {v : Value} {xs : List α} (h : ∀ cs x, rd G cs x → rd' G cs x) (S : RdSl rd sz G v xs) : RdSl rd' sz G v xs := by
  obtain ⟨a, c, h1, h2, h3, h4⟩ := S
  refine ⟨a, c, h1, h2, h3, ?_⟩
  rcases h4 with h4 | ⟨b, o, h5, h6⟩
  · exact Or.inl h4
  · refine Or.inr ⟨b, o, h5, fun i x hx => ?_⟩
    obtain ⟨cs, h7, h10, h8, h9⟩ := h6 i x hx
    exact ⟨cs, h7, h10, h8, h _ _ h9⟩
section
variable {β : Type} (rb : Rd β) (zb : Nat)
/-- The cells of a tree's root, what is below having so many levels. -/
def rdTr : Nat → Rd (Tr β)
  | 0 => fun _ _ _ => False
  | d + 1 => fun G cs x => ∃ a1 c1 a2 c2, cs = [.int .u8 x.kind, .string (str x.tag), .string (str x.key), .slice a1 x.as.length c1, .string (str x.text), .slice a2 x.kids.length c2] ∧
      inKind .u8 x.kind ∧ (x.tag.length ≤ 9223372036854775807 ∧ x.key.length ≤ 9223372036854775807 ∧ x.text.length ≤ 9223372036854775807) ∧
      RdSl rb zb G (.slice a1 x.as.length c1) x.as ∧ RdSl (rdTr d) 6 G (.slice a2 x.kids.length c2) x.kids
def rdT : Rd (Tr β) := fun G cs x => ∃ d, rdTr rb zb d G cs x
variable {rb zb}
theorem rdTr_up : ∀ {d : Nat} {G : Ghost} {cs : List Value} {x : Tr β}, rdTr rb zb d G cs x → rdTr rb zb (d + 1) G cs x
  | 0, _, _, _, h => h.elim
  | d + 1, G, cs, x, ⟨a1, c1, a2, c2, h1, h2, h3, h4, h5⟩ => ⟨a1, c1, a2, c2, h1, h2, h3, h4, h5.imp fun _ _ h => rdTr_up h⟩
theorem rdTr_le {d e : Nat} {G : Ghost} {cs : List Value} {x : Tr β} (h : rdTr rb zb d G cs x) (hd : d ≤ e) : rdTr rb zb e G cs x := by
  induction hd with
  | refl => exact h
  | step _ ih => exact rdTr_up ih
theorem mono_rdTr (hm : Mono rb) : ∀ d : Nat, Mono (rdTr rb zb d)
  | 0 => fun _ _ _ _ _ h => h
  | d + 1 => fun G G' cs x hg ⟨a1, c1, a2, c2, h1, h2, h3, h4, h5⟩ => ⟨a1, c1, a2, c2, h1, h2, h3, h4.mono hm hg, h5.mono (mono_rdTr hm d) hg⟩
theorem mono_rdT (hm : Mono rb) : Mono (rdT rb zb) := fun G G' cs x hg ⟨d, h⟩ => ⟨d, mono_rdTr hm d G G' cs x hg h⟩
theorem rdT_open {G : Ghost} {cs : List Value} {x : Tr β} (h : rdT rb zb G cs x) : ∃ a1 c1 a2 c2, cs = [.int .u8 x.kind, .string (str x.tag), .string (str x.key), .slice a1 x.as.length c1, .string (str x.text), .slice a2 x.kids.length c2] ∧
      inKind .u8 x.kind ∧ (x.tag.length ≤ 9223372036854775807 ∧ x.key.length ≤ 9223372036854775807 ∧ x.text.length ≤ 9223372036854775807) ∧
      RdSl rb zb G (.slice a1 x.as.length c1) x.as ∧ RdSl (rdT rb zb) 6 G (.slice a2 x.kids.length c2) x.kids := by
  obtain ⟨d, h⟩ := h
  cases d with
  | zero => exact h.elim
  | succ d =>
    obtain ⟨a1, c1, a2, c2, h1, h2, h3, h4, h5⟩ := h
    exact ⟨a1, c1, a2, c2, h1, h2, h3, h4, h5.imp fun _ _ h => ⟨d, h⟩⟩
theorem rdTs_deep {G : Ghost} {v : Value} {xs : List (Tr β)} (S : RdSl (rdT rb zb) 6 G v xs) : ∃ d, RdSl (rdTr rb zb d) 6 G v xs := by
  obtain ⟨a, c, h1, h2, h3, h4⟩ := S
  rcases h4 with h4 | ⟨b, o, h5, h6⟩
  · exact ⟨0, a, c, h1, h2, h3, Or.inl h4⟩
  · have key : ∀ n, ∃ d, ∀ i x, i < n → xs[i]? = some x → ∃ cs : List Value, cs.length = 6 ∧ (∀ u ∈ cs, u.oneCell' = true) ∧ At G b (o + i * 6) cs ∧ rdTr rb zb d G cs x := by
      intro n
      induction n with
      | zero => exact ⟨0, fun i x h => by omega⟩
      | succ n ih =>
        obtain ⟨d, hd⟩ := ih
        cases hx : xs[n]? with
        | none =>
          refine ⟨d, fun i x hi hi2 => ?_⟩
          rcases Nat.lt_or_ge i n with h | h
          · exact hd i x h hi2
          · have : i = n := by omega
            subst this; rw [hx] at hi2; cases hi2
        | some y =>
          obtain ⟨cs, q1, q2, q3, e, q4⟩ := h6 n y hx
          refine ⟨max d e, fun i x hi hi2 => ?_⟩
          rcases Nat.lt_or_ge i n with h | h
          · obtain ⟨cs', r1, r2, r3, r4⟩ := hd i x h hi2
            exact ⟨cs', r1, r2, r3, rdTr_le r4 (by omega)⟩
          · have : i = n := by omega
            subst this
            rw [hx] at hi2
            simp only [Option.some.injEq] at hi2
            subst hi2
            exact ⟨cs, q1, q2, q3, rdTr_le q4 (by omega)⟩
    obtain ⟨d, hd⟩ := key xs.length
    refine ⟨d, a, c, h1, h2, h3, Or.inr ⟨b, o, h5, fun i x hx => hd i x ?_ hx⟩⟩
    rcases Nat.lt_or_ge i xs.length with h | h
    · exact h
    · rw [List.getElem?_eq_none h] at hx; cases hx
theorem rdT_close {G : Ghost} {a1 a2 : Option Addr} {c1 c2 : Nat} {x : Tr β} (h2 : inKind .u8 x.kind) (h3 : x.tag.length ≤ 9223372036854775807 ∧ x.key.length ≤ 9223372036854775807 ∧ x.text.length ≤ 9223372036854775807)
    (h4 : RdSl rb zb G (.slice a1 x.as.length c1) x.as) (h5 : RdSl (rdT rb zb) 6 G (.slice a2 x.kids.length c2) x.kids) :
    rdT rb zb G [.int .u8 x.kind, .string (str x.tag), .string (str x.key), .slice a1 x.as.length c1, .string (str x.text), .slice a2 x.kids.length c2] x := by
  obtain ⟨d, h5⟩ := rdTs_deep h5
  exact ⟨d + 1, a1, c1, a2, c2, rfl, h2, h3, h4, h5⟩
end
section
variable {P : Program} {w0 w : World} {G : Ghost} {L : List Res} {ops : Array Oper} {Q : Exit → Act → World → Prop} {n : Nat} {a : Act} {e : Env} {d : Nat} {t : TypeId} {p : String} {af : Array Edge} {r : List Oper}
theorem rl_callvS {f : FuncId} {cal : Operand} {args : List Operand} {ats : Array TypeId} {vs caps : List Value} {Φ : Value → Prop}
    (F : Fits n a e) (hE : Ent P f) (hc : ev e cal = some (.func (.func f) #[] caps.toArray)) (hv : evs e args = some vs) (hd : Nat.ble (d + 1) n = true) (hs : Calls P f (vs ++ caps).toArray w (RetS w0 G L Φ))
    (k : ∀ v w' a', Mem w0 G L w' → Φ v → Fits n a' ((d, v) :: e) → rl P ops Q r a' w') :
    rl P ops Q (⟨some d, .call ⟨.value cal, args.toArray, ats⟩, t, p, af, none⟩ :: r) a w := by
  refine rl_callv F hE hc hv hd hs fun x w' hx => ?_
  cases x with
  | returned v => obtain ⟨h1, h2⟩ := hx; exact ⟨v, rfl, fun a' F' => k v w' a' h1 h2 F'⟩
  | panicked c => exact hx.elim
  | outgrown => exact hx.elim
theorem pk_skip_u {C : World → Prop} {r : List (PK × Oper)} {q : PK} {op : Op} {j g : Nat} {want : Bool} (F : Fits n a e) (hj : (ops[j]?).bind (·.dst) = some g) (hb : look e g = some undef) (hd : Nat.ble (d + 1) n = true)
    (k : ∀ a', Fits n a' ((d, undef) :: e) → pk P ops Q C r a' w) : pk P ops Q C ((q, ⟨some d, op, t, p, af, some (j, want)⟩) :: r) a w := by
  have hy : yielded ops a.tmps j = none := by simp [yielded, hj, F.slot _ _ hb, undef]
  have hne : Region.wanted ⟨some d, op, t, p, af, some (j, want)⟩ (yielded ops a.tmps) = false := by simp [Region.wanted, hy]
  cases q with
  | free => exact ⟨undef, Or.inr ⟨hne, rfl⟩, k _ (F.put hd)⟩
  | pure => exact ⟨undef, Or.inr ⟨hne, rfl⟩, k _ (F.put hd)⟩
  | keep => exact ⟨fun h => (by rw [hne] at h; cases h), fun _ => k _ (F.put hd)⟩
  | chg => exact ⟨fun h => (by rw [hne] at h; cases h), fun _ => k _ (F.put hd)⟩
theorem At.of_cells {b : Nat} {cs : List Value} {ty : TypeId} {f : Nat × Nat} (h : G b = some (.cells cs.toArray ty f)) : At G b 0 cs := by
  intro j v hj
  unfold gcell
  rw [h]
  simpa using hj
theorem fin_cc {fn : Func} (F : Fits n a e) {t u ty1 ty2 k1 k2 b1 b2 : Nat} {x y : Value} {R : Ending → World → Prop} (M : Mem w0 G L w) (hk1 : L[k1]? = some (.blk b1 [x] ty1)) (hk2 : L[k2]? = some (.blk b2 [y] ty2)) (hf : fn.results = #[.cell t ty1, .cell u ty2])
    (h1 : (tk P ty1).agg = some false) (h2 : (tk P ty2).agg = some false) (hv1 : look e t = some (.pointer (some ⟨b1, 0, none⟩))) (hv2 : look e u = some (.pointer (some ⟨b2, 0, none⟩))) (h : R (.returned (.tuple #[x, y])) w) : bodyPost P fn R .ret a w := by
  refine fin_of F (v := .tuple #[x, y]) ?_ h
  have l1 : (loadVar ty1 ⟨b1, 0, none⟩).run P w = .ok x w := run_loadVar1 h1 (M.cellL hk1 rfl)
  have l2 : (loadVar ty2 ⟨b2, 0, none⟩).run P w = .ok y w := run_loadVar1 h2 (M.cellL hk2 rfl)
  simp [results, hf, F.slot _ _ hv1, F.slot _ _ hv2, asAddr, l1, l2]
end
section
variable {P : Program} {w0 w : World} {G : Ghost} {L : List Res} {ρ : Operand → Value} {dd : Option Tmp} {t : TypeId} {p : String} {af : Array Edge} {g : Option (Nat × Bool)}
theorem run_sliceArrL {ta et : TypeId} {i : TI} {x y : Operand} {n b l : Nat} {k : IntKind} {z : Int} (ha : tk P ta = .array n et) (ht : TOK P et i) (h1 : i.size = 1) (hx : ρ x = .pointer (some ⟨b, 0, none⟩)) (hy : ρ y = .int k z) (hz : z = (l : Int)) (hl : l < n) :
    (execOp ρ ⟨dd, .slice ta x (some y) none none, t, p, af, g⟩).run P w = .ok (.value (.slice (some ⟨b, l, none⟩) (n - l) (n - l))) w := by
  subst hz
  have c1 : (0 : Int) ≤ (l : Int) := by omega
  have c2 : (l : Int) ≤ (n : Int) := by omega
  have e : ¬ (n - l = 0) := by omega
  have c3 : ((n : Int) - (l : Int)).toNat = n - l := by omega
  simp [execOp, Instr.sliceAt, run_under (under_array ha), hx, Instr.sureAddr, Instr.sliceBounds, Instr.sliceBound, hy, asIntOf, c1, ht.sizeOf, add_plain, h1, Nat.le_of_lt hl]
  intro h
  omega
theorem run_strOfBlkL {src dst e bt : TypeId} {x : Operand} {k b o n c : Nat} {l : List UInt8} (M : Mem w0 G L w) (hk : L[k]? = some (.blk b (bc l) bt)) (hs : tk P src = .slice e) (he : tk P e = .int .u8) (hd : tk P dst = .str)
    (hx : ρ x = .slice (some ⟨b, o, none⟩) n c) (hn : o + n = l.length) : (execOp ρ ⟨dd, .convert src dst x, t, p, af, g⟩).run P w = .ok (.value (.string (str (l.drop o)))) w := by
  have := conv_bytes (P := P) (w := w) (b := b) (o := o) (n := n) (c := c) (l := l.drop o) hs he hd (by rw [List.length_drop]; omega) (fun j hj => by
    have h1 : (bc (l.drop o))[j]? = (bc l)[o + j]? := by
      simp only [bc, List.getElem?_map, List.getElem?_drop]
    rw [h1]
    have hjl : o + j < (bc l).length := by rw [bc_len]; omega
    rw [List.getElem?_eq_getElem hjl]
    exact M.cellL hk (List.getElem?_eq_getElem hjl))
  simp [execOp, hx, this]
theorem bc_set (l : List UInt8) (o : Nat) (b : UInt8) : (bc l).set o (.int .u8 (nb b)) = bc (l.set o b) := by
  simp [bc, List.map_set]
end
section
variable {P : Program} {w0 w : World} {G : Ghost} {L : List Res} {ops : Array Oper} {Q : Exit → Act → World → Prop} {n : Nat} {a : Act} {e : Env} {d : Nat} {t : TypeId} {p : String} {af : Array Edge} {r : List Oper}
/-- 'make([]T, n)' -/
theorem rl_makeE {α : Type} {rd : Rd α} {sz : Nat} {s et : TypeId} {i : TI} {x y : Operand} {kl kc : IntKind} {l : Nat} {zl zc : Int} {Z : α} (F : Fits n a e) (M : Mem w0 G L w) (hs : tk P s = .slice et) (ht : TOK P et i) (hsz : i.size = sz) (hpos : 0 < sz) (hz : i.zero.cells.size = i.size)
    (hx : ev e x = some (.int kl zl)) (hzl : zl = (l : Int)) (hy : ev e y = some (.int kc zc)) (hzc : zc = (l : Int)) (hb : i.bytes * l ≤ 281474976710656) (h63 : l ≤ 9223372036854775807)
    (h1 : ∀ u ∈ i.zero.cells.toList, u.oneCell' = true) (hr : rd G i.zero.cells.toList Z) (hd : Nat.ble (d + 1) n = true)
    (k : ∀ b cs w' a', Mem w0 G (.row (.slice (some ⟨b, 0, none⟩) l l) l cs et sz :: L) w' → Els rd sz G cs (List.replicate l Z) → Fits n a' ((d, .slice (some ⟨b, 0, none⟩) l l) :: e) → rl P ops Q r a' w') :
    rl P ops Q (⟨some d, .makeSlice s x y, t, p, af, none⟩ :: r) a w := by
  subst hsz
  refine rl_run F (run_make_op hs ht (F.ev hx) hzl (F.ev hy) hzc (Nat.le_refl _) hb h63) hd fun a' F' => k _ (List.replicate l i.zero.cells.toList).flatten _ a' ?_ (Els.replicate (by simpa using hz) hr l) F'
  have hm : (madeCells i.zero.cells (l * i.size)) = ((List.replicate l i.zero.cells.toList).flatten ++ []).toArray := by
    rw [List.append_nil, ← made_eq _, hz]
  rw [hm]
  have hl : (List.replicate l i.zero.cells.toList).flatten.length = l * i.size := by
    rw [← made_eq _, Array.length_toList, size_madeCells, hz]
  have h63' : l ≤ maxLen := h63
  refine M.newrow (spare := []) ?_ hl (by rw [List.append_nil]; exact hl) (Nat.le_refl _) h63'
  intro u hu
  obtain ⟨q, hq, hu⟩ := List.mem_flatten.1 hu
  rw [(List.mem_replicate.1 hq).2] at hu
  exact h1 u hu
end
section
variable {P : Program} {w0 w : World} {G : Ghost} {L : List Res}
theorem fin_c {fn : Func} {n : Nat} {a : Act} {e : Env} (F : Fits n a e) {t ty k b : Nat} {i : TI} {cs : List Value} {R : Ending → World → Prop} (M : Mem w0 G L w) (hk : L[k]? = some (.blk b cs ty)) (hf : fn.results = #[.cell t ty])
    (hty : TOK P ty i) (hag : i.k.agg = some true) (hl : cs.length = i.size) (hv : look e t = some (.pointer (some ⟨b, 0, none⟩))) (h : R (.returned (.agg cs.toArray)) w) : bodyPost P fn R .ret a w := by
  refine fin_of F (v := .agg cs.toArray) ?_ h
  have h1 : (loadVar ty ⟨b, 0, none⟩).run P w = .ok (.agg cs.toArray) w := run_loadVarA hty hag hl (M.cellsL hk (by rw [List.drop_zero, ← hl, List.take_length]))
  simp [results, hf, F.slot _ _ hv, asAddr, h1]
end
/-! ### Drawn regions: what waits for an operation through others -/
section
variable {P : Program} {ops : Array Oper} {Q : Exit → Act → World → Prop} {C : World → Prop} {ch : List Nat}
end
section
variable {P : Program} {w : World} {ρ : Operand → Value} {dd : Option Tmp} {t : TypeId} {p : String} {af : Array Edge} {g : Option (Nat × Bool)}
end
end Go.Y
