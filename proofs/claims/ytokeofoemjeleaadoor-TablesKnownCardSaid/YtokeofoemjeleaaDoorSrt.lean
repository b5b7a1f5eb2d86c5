/- The plain theory of the stable sort. -/
import Derived.Test.YtokeofoemjeleaaDoorPrs
namespace Go.Proofs.YtokeofoemjeleaaDoor
open Go Go.Y

def cmpF (x y : Int) : Int := if x < y then -1 else if y < x then 1 else 0
theorem cmpF_neg {x y : Int} : cmpF x y < 0 ↔ x < y := by unfold cmpF; split <;> (try split) <;> omega
/-- The same heights, those with one key in the same order. -/
def Same (xs ys : List PairD) : Prop := ∀ k : Int, ys.filter (fun x => decide (x.key = k)) = xs.filter (fun x => decide (x.key = k))
theorem Same.refl (xs : List PairD) : Same xs xs := fun _ => rfl
theorem Same.trans {xs ys zs : List PairD} (h : Same xs ys) (h' : Same ys zs) : Same xs zs := fun k => (h' k).trans (h k)
theorem Same.mem {xs ys : List PairD} (h : Same xs ys) {x : PairD} : x ∈ ys ↔ x ∈ xs := by
  have h1 := h x.key
  have e : ∀ l : List PairD, x ∈ l ↔ x ∈ l.filter (fun y => decide (y.key = x.key)) := fun l => by simp
  rw [e ys, e xs, h1]
/-- Ascending from an index to another. -/
def SrtR (ys : List PairD) (a b : Nat) : Prop := ∀ (p q : Nat) (X Y : PairD), a ≤ p → p < q → q < b → ys[p]? = some X → ys[q]? = some Y → X.key ≤ Y.key
theorem SrtR.mono {ys : List PairD} {a b a' b' : Nat} (h : SrtR ys a b) (ha : a ≤ a') (hb : b' ≤ b) : SrtR ys a' b' := fun p q X Y h1 h2 h3 => h p q X Y (by omega) h2 (by omega)
/-- What a step of the sort did between two indexes. -/
structure Seg (a b : Nat) (xs ys : List PairD) : Prop where
  same : Same xs ys
  len : ys.length = xs.length
  out : ∀ p, (p < a ∨ b ≤ p) → ys[p]? = xs[p]?
theorem Seg.refl (a b : Nat) (xs : List PairD) : Seg a b xs xs := ⟨Same.refl _, rfl, fun _ _ => rfl⟩
theorem Seg.trans {a b : Nat} {xs ys zs : List PairD} (h : Seg a b xs ys) (h' : Seg a b ys zs) : Seg a b xs zs :=
  ⟨h.same.trans h'.same, h'.len.trans h.len, fun p hp => (h'.out p hp).trans (h.out p hp)⟩
theorem Seg.mono {a b a' b' : Nat} {xs ys : List PairD} (h : Seg a b xs ys) (ha : a' ≤ a) (hb : b ≤ b') : Seg a' b' xs ys :=
  ⟨h.same, h.len, fun p hp => h.out p (by omega)⟩
theorem swapAt {X Y : PairD} : ∀ (ys : List PairD) (j : Nat), ys[j]? = some Y → ys[j + 1]? = some X → ∃ A B, ys = A ++ Y :: X :: B ∧ A.length = j ∧ (ys.set (j + 1) Y).set j X = A ++ X :: Y :: B
  | [], j, h, _ => by simp at h
  | [a], 0, _, h => by simp at h
  | a :: b :: l, 0, h1, h2 => by
    simp at h1 h2
    subst h1 h2
    exact ⟨[], l, rfl, rfl, rfl⟩
  | a :: l, j + 1, h1, h2 => by
    obtain ⟨A, B, e1, e2, e3⟩ := swapAt l j (by simpa using h1) (by simpa using h2)
    exact ⟨a :: A, B, by rw [e1]; rfl, by simp [e2], by simp only [List.set_cons_succ, e3, List.cons_append]⟩
theorem swap_same {ys : List PairD} {j : Nat} {X Y : PairD} (hY : ys[j]? = some Y) (hX : ys[j + 1]? = some X) (hne : X.key ≠ Y.key) : Same ys ((ys.set (j + 1) Y).set j X) := by
  obtain ⟨A, B, e1, _, e3⟩ := swapAt ys j hY hX
  intro k
  rw [e3]
  conv => rhs; rw [e1]
  simp only [List.filter_append, List.filter_cons]
  by_cases h1 : X.key = k <;> by_cases h2 : Y.key = k
  · exact absurd (h1.trans h2.symm) hne
  · simp [h1, h2]
  · simp [h1, h2]
  · simp [h1, h2]
theorem swap_get {ys : List PairD} {j p : Nat} {X Y : PairD} (hY : ys[j]? = some Y) (hX : ys[j + 1]? = some X) : ((ys.set (j + 1) Y).set j X)[p]? = if p = j then some X else if p = j + 1 then some Y else ys[p]? := by
  have h1 := lt_of_get hX
  rw [List.getElem?_set, List.getElem?_set]
  simp only [List.length_set]
  split
  · rename_i h; subst h; rw [if_pos rfl, if_pos (by omega)]
  · rename_i h
    rw [if_neg (Ne.symm h)]
    split
    · rename_i h3; subst h3; simp [h1]
    · rename_i h3; rw [if_neg (Ne.symm h3)]
/-- The inner loop's invariant of the insertion. -/
def Ins (ys : List PairD) (a i j : Nat) : Prop := ∀ (p q : Nat) (X Y : PairD), a ≤ p → p < q → q ≤ i → q ≠ j → ys[p]? = some X → ys[q]? = some Y → X.key ≤ Y.key
theorem Ins.start {ys : List PairD} {a i : Nat} (h : SrtR ys a i) : Ins ys a i i := fun p q X Y h1 h2 h3 h4 => h p q X Y h1 h2 (by omega)
theorem Ins.step {ys : List PairD} {a i j : Nat} {X Y : PairD} (h : Ins ys a i (j + 1)) (ha : a ≤ j) (hji : j + 1 ≤ i) (hY : ys[j]? = some Y) (hX : ys[j + 1]? = some X) (hlt : X.key < Y.key) : Ins ((ys.set (j + 1) Y).set j X) a i j := by
  intro p q U V h1 h2 h3 h4 hU hV
  rw [swap_get hY hX] at hU hV
  rw [if_neg h4] at hV
  by_cases hq : q = j + 1
  · rw [if_pos hq] at hV
    simp only [Option.some.injEq] at hV
    subst hV
    by_cases hp : p = j
    · rw [if_pos hp] at hU; simp only [Option.some.injEq] at hU; subst hU; omega
    · rw [if_neg hp, if_neg (by omega)] at hU
      exact h p j U _ h1 (by omega) (by omega) (by omega) hU hY
  · rw [if_neg hq] at hV
    by_cases hp : p = j
    · rw [if_pos hp] at hU; simp only [Option.some.injEq] at hU; subst hU
      exact h (j + 1) q _ V (by omega) (by omega) h3 hq hX hV
    · rw [if_neg hp] at hU
      by_cases hp1 : p = j + 1
      · rw [if_pos hp1] at hU; simp only [Option.some.injEq] at hU; subst hU
        exact h j q _ V (by omega) (by omega) h3 hq hY hV
      · rw [if_neg hp1] at hU
        exact h p q U V h1 h2 h3 hq hU hV
theorem Ins.endA {ys : List PairD} {a i j : Nat} (h : Ins ys a i j) (hj : j ≤ a) : SrtR ys a (i + 1) := fun p q X Y h1 h2 h3 => h p q X Y h1 h2 (by omega) (by omega)
theorem Ins.endB {ys : List PairD} {a i j : Nat} {X Y : PairD} (h : Ins ys a i (j + 1)) (ha : a ≤ j) (hji : j + 1 ≤ i) (hY : ys[j]? = some Y) (hX : ys[j + 1]? = some X) (hlt : ¬ X.key < Y.key) : SrtR ys a (i + 1) := by
  intro p q U V h1 h2 h3 hU hV
  by_cases hq : q = j + 1
  · subst hq
    rw [hX] at hV; simp only [Option.some.injEq] at hV; subst hV
    by_cases hp : p = j
    · subst hp; rw [hY] at hU; simp only [Option.some.injEq] at hU; subst hU; omega
    · have := h p j U Y h1 (by omega) (by omega) (by omega) hU hY
      omega
  · exact h p q U V h1 h2 (by omega) hq hU hV
theorem Seg.swap {xs ys : List PairD} {a b j : Nat} {X Y : PairD} (h : Seg a b xs ys) (hY : ys[j]? = some Y) (hX : ys[j + 1]? = some X) (hne : X.key ≠ Y.key) (ha : a ≤ j) (hb : j + 1 < b) : Seg a b xs ((ys.set (j + 1) Y).set j X) :=
  h.trans ⟨swap_same hY hX hne, by simp, fun p hp => by rw [swap_get hY hX, if_neg (by omega), if_neg (by omega)]⟩
theorem SrtR.one {ys : List PairD} {a : Nat} : SrtR ys a (a + 1) := fun p q X Y h1 h2 h3 => by omega
theorem two_sorted {x y : PairD} {ys : List PairD} (h : Same [x, y] ys) (hl : ys.length = 2) (hs : SrtR ys 0 ys.length) (hxy : y.key < x.key) : ys = [y, x] := by
  match ys, hl with
  | [p, q], _ =>
    have hx : x ∈ [p, q] := h.mem.2 (by simp)
    have hy : y ∈ [p, q] := h.mem.2 (by simp)
    have hpq := hs 0 1 p q (by omega) (by omega) (by show 1 < 2; omega) rfl rfl
    simp only [List.mem_cons, List.not_mem_nil, or_false] at hx hy
    rcases hx with rfl | rfl <;> rcases hy with rfl | rfl
    · omega
    · omega
    · rfl
    · omega
theorem Ins.step' {ys : List PairD} {a i j : Nat} {X Y : PairD} (h : Ins ys a i j) (ha : a < j) (hji : j ≤ i) (hY : ys[j - 1]? = some Y) (hX : ys[j]? = some X) (hlt : X.key < Y.key) : Ins ((ys.set j Y).set (j - 1) X) a i (j - 1) := by
  obtain ⟨q, rfl⟩ : ∃ q, j = q + 1 := ⟨j - 1, by omega⟩
  exact h.step (by omega) hji hY hX hlt
theorem Ins.endB' {ys : List PairD} {a i j : Nat} {X Y : PairD} (h : Ins ys a i j) (ha : a < j) (hji : j ≤ i) (hY : ys[j - 1]? = some Y) (hX : ys[j]? = some X) (hlt : ¬ X.key < Y.key) : SrtR ys a (i + 1) := by
  obtain ⟨q, rfl⟩ : ∃ q, j = q + 1 := ⟨j - 1, by omega⟩
  exact h.endB (by omega) hji hY hX hlt
theorem Seg.swap' {xs ys : List PairD} {a b j : Nat} {X Y : PairD} (h : Seg a b xs ys) (hY : ys[j - 1]? = some Y) (hX : ys[j]? = some X) (hlt : X.key < Y.key) (ha : a < j) (hb : j < b) : Seg a b xs ((ys.set j Y).set (j - 1) X) := by
  obtain ⟨q, rfl⟩ : ∃ q, j = q + 1 := ⟨j - 1, by omega⟩
  exact h.swap hY hX (by omega) (by omega) hb
end Go.Proofs.YtokeofoemjeleaaDoor
