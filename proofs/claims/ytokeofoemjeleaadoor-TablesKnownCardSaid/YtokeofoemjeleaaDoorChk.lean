/- The plain theory of the tables: the check of a table. -/
import Derived.Test.YtokeofoemjeleaaDoorWid
namespace Go.Proofs.YtokeofoemjeleaaDoor
open Go Go.Y

def Srt (ps : List PairD) : Prop := ps.Pairwise (fun a b => a.key < b.key)

theorem getF_congr {ps ps' : List PairD} {k : Int} (h : Srt ps) (h' : Srt ps') (hm : ∀ v, (⟨k, v⟩ : PairD) ∈ ps ↔ (⟨k, v⟩ : PairD) ∈ ps') : getF ps k = getF ps' k := by
  by_cases hx : ∃ v, (⟨k, v⟩ : PairD) ∈ ps
  · obtain ⟨v, hv⟩ := hx
    rw [getF_hit h hv, getF_hit h' ((hm v).1 hv)]
  · rw [getF_miss h, getF_miss h']
    · intro q hq e; subst e; exact hx ⟨q.v, (hm q.v).2 hq⟩
    · intro q hq e; subst e; exact hx ⟨q.v, hq⟩
theorem Srt.putted {ps : List PairD} (h : Srt ps) (hl : ps.length < 4096) {k : Int} (hk0 : k ≠ 0) (v : Int) : Srt (putF ps k v).1 ∧ (⟨k, v⟩ : PairD) ∈ (putF ps k v).1 ∧ ∀ k', k' ≠ k → ∀ u, (⟨k', u⟩ : PairD) ∈ (putF ps k v).1 ↔ (⟨k', u⟩ : PairD) ∈ ps := by
  by_cases hx : ∃ q ∈ ps, q.key = k
  · obtain ⟨q, hq, hk⟩ := hx
    obtain ⟨_, _, r, h2, h3, h4⟩ := putF_old (v := v) h hk0 hq hk
    refine ⟨h4, h3.mem_iff.2 (by simp), fun k' hk' u => ?_⟩
    rw [h2.mem_iff, h3.mem_iff, List.mem_cons, List.mem_cons]
    constructor
    · rintro (e | e)
      · simp only [PairD.mk.injEq] at e; exact absurd e.1 hk'
      · exact Or.inr e
    · rintro (e | e)
      · rw [← e] at hk; exact absurd hk hk'
      · exact Or.inr e
  · have hn : ∀ q ∈ ps, q.key ≠ k := fun q hq e => hx ⟨q, hq, e⟩
    obtain ⟨_, h2, h3⟩ := putF_new (v := v) h hk0 hn hl
    refine ⟨h3, h2.mem_iff.2 (by simp), fun k' hk' u => ?_⟩
    rw [h2.mem_iff, List.mem_cons]
    constructor
    · rintro (e | e)
      · simp only [PairD.mk.injEq] at e; exact absurd e.1 hk'
      · exact e
    · exact Or.inr
/-- What is found after a key was put in. -/
theorem getF_put {ps : List PairD} (h : Srt ps) (hl : ps.length < 4096) {k : Int} (hk0 : k ≠ 0) (v k' : Int) : getF (putF ps k v).1 k' = if k' = k then (v, true) else getF ps k' := by
  obtain ⟨h1, h2, h3⟩ := h.putted hl hk0 v
  split
  · rename_i e; subst e; exact getF_hit h1 h2
  · rename_i e; exact getF_congr h1 h (h3 k' e)
theorem putF_len (ps : List PairD) (k v : Int) : (putF ps k v).1.length ≤ ps.length + 1 := by
  have := atF_le ps k
  unfold putF
  split
  · simp
  · split
    · simp
    · simp only [List.length_append, List.length_take, List.length_drop, List.length_cons, List.length_nil]
      split <;> omega
theorem putF_ok {ps : List PairD} {k v : Int} (hk : k ≠ 0) (hl : ps.length < 4096) : (putF ps k v).2 = 0 := by
  unfold putF
  rw [if_neg hk, if_neg (by omega)]

/-- The error of a height behind keys that were seen. -/
def oneF (ps : List PairD) (h : PairD) (least : Int) : Int :=
  if h.key = 0 then 9 else if h.v < least ∨ 2305843009213693952 < h.v then 12 else if (getF ps h.key).2 = true then 8 else 0
/-- The error of the height at an index. -/
def faultF (l : List PairD) (i : Nat) (least : Int) : Int :=
  match l[i]? with
  | none => 0
  | some h => if h.key = 0 then 9 else if h.v < least ∨ 2305843009213693952 < h.v then 12 else if (l.take i).any (fun x => decide (x.key = h.key)) = true then 8 else 0
/-- The keys of the map are those of the list. -/
structure Seen (ps l : List PairD) : Prop where
  srt : Srt ps
  has : ∀ k, (getF ps k).2 = true ↔ ∃ x ∈ l, x.key = k
  len : ps.length ≤ l.length
theorem Seen.nil : Seen [] [] := ⟨List.Pairwise.nil, fun k => by simp [getF, atF], Nat.le_refl _⟩
theorem Seen.put {ps l : List PairD} (h : Seen ps l) {x : PairD} (hk : x.key ≠ 0) (hl : l.length < 4096) (v : Int) : Seen (putF ps x.key v).1 (l ++ [x]) := by
  have hlen := h.len
  refine ⟨(h.srt.putted (by omega) hk v).1, fun k => ?_, ?_⟩
  · rw [getF_put h.srt (by omega) hk]
    by_cases e : k = x.key
    · rw [if_pos e]
      simp only [true_iff]
      exact ⟨x, by simp, e.symm⟩
    · rw [if_neg e, h.has]
      constructor
      · rintro ⟨y, hy, hk⟩; exact ⟨y, by simp [hy], hk⟩
      · rintro ⟨y, hy, hky⟩
        rcases List.mem_append.1 hy with hy | hy
        · exact ⟨y, hy, hky⟩
        · simp only [List.mem_singleton] at hy
          subst hy; exact absurd hky.symm e
  · have := putF_len ps x.key v
    simp only [List.length_append, List.length_cons, List.length_nil]
    omega
theorem Seen.any {ps l : List PairD} (h : Seen ps l) (k : Int) : l.any (fun x => decide (x.key = k)) = (getF ps k).2 := by
  rw [Bool.eq_iff_iff, h.has]
  simp
theorem take_snoc {α : Type} {xs : List α} {i : Nat} {x : α} (hx : xs[i]? = some x) : xs.take (i + 1) = xs.take i ++ [x] := by
  rw [List.take_succ_eq_append_getElem (lt_of_get hx)]
  rw [List.getElem?_eq_getElem (lt_of_get hx)] at hx
  simp only [Option.some.injEq] at hx
  rw [hx]
theorem Seen.fault {ps l : List PairD} {i : Nat} {x : PairD} (h : Seen ps (l.take i)) (hx : l[i]? = some x) (least : Int) : oneF ps x least = faultF l i least := by
  unfold oneF faultF
  simp only [hx]
  rw [h.any]
theorem oneF_key {ps : List PairD} {h : PairD} {least : Int} (he : oneF ps h least = 0) : h.key ≠ 0 := by
  intro e
  unfold oneF at he
  rw [if_pos e] at he
  cases he
theorem Seen.next {ps l : List PairD} {i : Nat} {x : PairD} {least : Int} (h : Seen ps (l.take i)) (hx : l[i]? = some x) (he : oneF ps x least = 0) (hl : l.length ≤ 4000) : Seen (putF ps x.key 0).1 (l.take (i + 1)) := by
  have hi := lt_of_get hx
  rw [take_snoc hx]
  exact h.put (oneF_key he) (by rw [List.length_take]; omega) 0

/-- The first fault from an index on, within so many steps. -/
def ffF (l : List PairD) (least : Int) : Nat → Nat → Nat × Int
  | _, 0 => (0, 0)
  | i, n + 1 => if faultF l i least = 0 then ffF l least (i + 1) n else (i, faultF l i least)
def checkF (l : List PairD) (least : Int) : Nat × Int :=
  if least < 1 ∨ 2305843009213693952 < least then (0, 1) else if 256 < l.length then (0, 3) else ffF l least 0 l.length
theorem ffF_step {l : List PairD} {least : Int} {i : Nat} (h : ffF l least 0 l.length = ffF l least i (l.length - i)) (hi : i < l.length) :
    (faultF l i least = 0 → ffF l least 0 l.length = ffF l least (i + 1) (l.length - (i + 1))) ∧ (faultF l i least ≠ 0 → ffF l least 0 l.length = (i, faultF l i least)) := by
  have e : l.length - i = (l.length - (i + 1)) + 1 := by omega
  rw [e] at h
  simp only [ffF] at h
  exact ⟨fun h0 => by rw [h, if_pos h0], fun h0 => by rw [h, if_neg h0]⟩
theorem ffF_end {l : List PairD} {least : Int} {i : Nat} (h : ffF l least 0 l.length = ffF l least i (l.length - i)) (hi : l.length ≤ i) : ffF l least 0 l.length = (0, 0) := by
  rw [show l.length - i = 0 by omega] at h
  exact h
theorem checkF_bad {l : List PairD} {least : Int} (h : least < 1 ∨ 2305843009213693952 < least) : checkF l least = (0, 1) := by rw [checkF, if_pos h]
theorem checkF_long {l : List PairD} {least : Int} (h : ¬ (least < 1 ∨ 2305843009213693952 < least)) (hl : 256 < l.length) : checkF l least = (0, 3) := by rw [checkF, if_neg h, if_pos hl]
theorem checkF_ff {l : List PairD} {least : Int} (h : ¬ (least < 1 ∨ 2305843009213693952 < least)) (hl : ¬ 256 < l.length) : checkF l least = ffF l least 0 l.length := by rw [checkF, if_neg h, if_neg hl]
theorem any_take {l : List PairD} {i k : Nat} {X Y : PairD} (_ : l[i]? = some X) (hY : l[k]? = some Y) (hk : k < i) (h : Y.key = X.key) : (l.take i).any (fun x => decide (x.key = X.key)) = true := by
  rw [List.any_eq_true]
  exact ⟨Y, List.mem_of_getElem? (by rw [List.getElem?_take, if_pos hk]; exact hY), by simpa using h⟩
theorem none_take {l : List PairD} {i k : Nat} {X : PairD} (h : ∀ (m : Nat) (Y : PairD), m < k → l[m]? = some Y → Y.key ≠ X.key) (hk : i ≤ k) : (l.take i).any (fun x => decide (x.key = X.key)) = false := by
  rw [List.any_eq_false]
  intro Y hY
  obtain ⟨m, hm⟩ := List.mem_iff_getElem?.1 hY
  rw [List.getElem?_take] at hm
  split at hm
  · rename_i h1
    simpa using h m Y (by omega) hm
  · cases hm
theorem none_step {l : List PairD} {k : Nat} {X Z : PairD} (h : ∀ (m : Nat) (Y : PairD), m < k → l[m]? = some Y → Y.key ≠ X.key) (hZ : l[k]? = some Z) (hne : ¬ (Z.key = X.key)) :
    ∀ (m : Nat) (Y : PairD), m < k + 1 → l[m]? = some Y → Y.key ≠ X.key := by
  intro m Y h1 h2
  rcases Nat.lt_or_ge m k with h3 | h3
  · exact h m Y h3 h2
  · have e : m = k := by omega
    subst e
    rw [hZ] at h2
    simp only [Option.some.injEq] at h2
    subst h2; exact hne
end Go.Proofs.YtokeofoemjeleaaDoor
