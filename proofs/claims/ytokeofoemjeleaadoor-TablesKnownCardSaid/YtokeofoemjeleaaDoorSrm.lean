/- The plain theory of the stable sort: rotations and merges. -/
import Derived.Test.YtokeofoemjeleaaDoorSrt
namespace Go.Proofs.YtokeofoemjeleaaDoor
open Go Go.Y

/-- Where an element stood before two ranges of n changed places. -/
def swI (a b n p : Nat) : Nat := if a ≤ p ∧ p < a + n then p - a + b else if b ≤ p ∧ p < b + n then p - b + a else p
/-- Where an element stood before the ranges from a to m and from m to b changed places. -/
def roI (a m b p : Nat) : Nat := if a ≤ p ∧ p < a + (b - m) then p - a + m else if a + (b - m) ≤ p ∧ p < b then p - (b - m) else p
/-- A list whose elements came from these places. -/
def FromI (f : Nat → Nat) (xs ys : List PairD) : Prop := ys.length = xs.length ∧ ∀ p, ys[p]? = xs[f p]?
theorem FromI.start (a b : Nat) (xs : List PairD) : FromI (swI a b 0) xs xs := ⟨rfl, fun p => by
  have : swI a b 0 p = p := by unfold swI; rw [if_neg (by omega), if_neg (by omega)]
  rw [this]⟩
theorem swI_step {xs ys : List PairD} {a b i : Nat} {X Y : PairD} (h : FromI (swI a b i) xs ys) (hab : a + i < b) (hX : ys[a + i]? = some X) (hY : ys[b + i]? = some Y) : FromI (swI a b (i + 1)) xs ((ys.set (a + i) Y).set (b + i) X) := by
  have l1 := lt_of_get hX
  have l2 := lt_of_get hY
  have hx := h.2 (a + i)
  have hy := h.2 (b + i)
  have ex : swI a b i (a + i) = a + i := by unfold swI; rw [if_neg (by omega), if_neg (by omega)]
  have ey : swI a b i (b + i) = b + i := by unfold swI; rw [if_neg (by omega), if_neg (by omega)]
  rw [ex, hX] at hx
  rw [ey, hY] at hy
  refine ⟨by simp [h.1], fun p => ?_⟩
  rw [List.getElem?_set, List.getElem?_set]
  simp only [List.length_set]
  by_cases h1 : b + i = p
  · rw [if_pos h1, if_pos (by omega)]
    have : swI a b (i + 1) p = a + i := by unfold swI; rw [if_neg (by omega), if_pos (by omega)]; omega
    rw [this, hx]
  · rw [if_neg h1]
    by_cases h2 : a + i = p
    · rw [if_pos h2, if_pos (by omega)]
      have : swI a b (i + 1) p = b + i := by unfold swI; rw [if_pos (by omega)]; omega
      rw [this, hy]
    · rw [if_neg h2, h.2 p]
      have e : swI a b i p = swI a b (i + 1) p := by
        clear hx hy hX hY h ex ey l1 l2
        unfold swI
        repeat' split
        all_goals omega
      rw [e]
theorem FromI.comp {f g h : Nat → Nat} {xs ys zs : List PairD} (h1 : FromI f xs ys) (h2 : FromI g ys zs) (e : ∀ p, f (g p) = h p) : FromI h xs zs :=
  ⟨h2.1.trans h1.1, fun p => by rw [h2.2 p, h1.2 (g p), e p]⟩
/-- What is left of a rotation: the target, seen from the list so far. -/
def Left (cur tgt : List PairD) (m i j : Nat) : Prop := FromI (roI (m - i) m (m + j)) cur tgt
theorem roI_gt {m i j : Nat} (hi : i ≤ m) (hij : j < i) (p : Nat) : swI (m - i) m j (roI (m - (i - j)) m (m + j) p) = roI (m - i) m (m + j) p := by
  unfold roI swI
  repeat' split
  all_goals omega
theorem roI_lt {m i j : Nat} (hi : i ≤ m) (hij : i < j) (p : Nat) : swI (m - i) (m + j - i) i (roI (m - i) m (m + (j - i)) p) = roI (m - i) m (m + j) p := by
  unfold roI swI
  repeat' split
  all_goals omega
theorem roI_eq {m i : Nat} (hi : i ≤ m) (p : Nat) : swI (m - i) m i p = roI (m - i) m (m + i) p := by
  unfold roI swI
  repeat' split
  all_goals omega
/-- A rotation, as lists. -/
theorem rot_list {xs zs : List PairD} {a m b : Nat} (ham : a ≤ m) (hmb : m ≤ b) (hb : b ≤ xs.length) (h : FromI (roI a m b) xs zs) :
    zs = xs.take a ++ ((xs.take b).drop m ++ ((xs.take m).drop a ++ xs.drop b)) := by
  apply List.ext_getElem?
  intro p
  rw [h.2 p]
  simp only [List.getElem?_append, List.getElem?_take, List.getElem?_drop, List.length_take, List.length_drop]
  unfold roI
  by_cases c1 : p < a
  · rw [if_neg (by omega), if_neg (by omega), if_pos (by omega), if_pos c1]
  · by_cases c2 : p < a + (b - m)
    · rw [if_pos (by omega), if_neg (by omega), if_pos (by omega), if_pos (by omega)]
      congr 1; omega
    · by_cases c3 : p < b
      · rw [if_neg (by omega), if_pos (by omega), if_neg (by omega), if_neg (by omega), if_pos (by omega), if_pos (by omega)]
        congr 1; omega
      · rw [if_neg (by omega), if_neg (by omega), if_neg (by omega), if_neg (by omega), if_neg (by omega)]
        congr 1; omega
theorem rot_same {xs zs : List PairD} {a m b : Nat} (ham : a ≤ m) (hmb : m ≤ b) (hb : b ≤ xs.length) (h : FromI (roI a m b) xs zs)
    (hd : ∀ (p q : Nat) (X Y : PairD), a ≤ p → p < m → m ≤ q → q < b → xs[p]? = some X → xs[q]? = some Y → Y.key < X.key) : Same xs zs := by
  intro k
  rw [rot_list ham hmb hb h]
  have e : xs = xs.take a ++ ((xs.take m).drop a ++ ((xs.take b).drop m ++ xs.drop b)) := by
    conv => lhs; rw [← List.take_append_drop b xs, ← List.take_append_drop m (xs.take b), List.take_take, Nat.min_eq_left hmb, ← List.take_append_drop a (xs.take m), List.take_take, Nat.min_eq_left ham]
    simp
  conv => rhs; rw [e]
  simp only [List.filter_append]
  have hU : ∀ x ∈ (xs.take m).drop a, ∃ p, a ≤ p ∧ p < m ∧ xs[p]? = some x := by
    intro x hx
    obtain ⟨i, hi⟩ := List.mem_iff_getElem?.1 hx
    rw [List.getElem?_drop, List.getElem?_take] at hi
    split at hi
    · exact ⟨a + i, by omega, by omega, hi⟩
    · cases hi
  have hV : ∀ x ∈ (xs.take b).drop m, ∃ p, m ≤ p ∧ p < b ∧ xs[p]? = some x := by
    intro x hx
    obtain ⟨i, hi⟩ := List.mem_iff_getElem?.1 hx
    rw [List.getElem?_drop, List.getElem?_take] at hi
    split at hi
    · exact ⟨m + i, by omega, by omega, hi⟩
    · cases hi
  by_cases hk : ∃ x ∈ (xs.take m).drop a, x.key = k
  · obtain ⟨x, hx, hxk⟩ := hk
    obtain ⟨p, p1, p2, p3⟩ := hU x hx
    have : ((xs.take b).drop m).filter (fun x => decide (x.key = k)) = [] := by
      rw [List.filter_eq_nil_iff]
      intro y hy
      obtain ⟨q, q1, q2, q3⟩ := hV y hy
      have := hd p q x y p1 p2 q1 q2 p3 q3
      simp only [decide_eq_true_eq]
      omega
    rw [this]; simp
  · have : ((xs.take m).drop a).filter (fun x => decide (x.key = k)) = [] := by
      rw [List.filter_eq_nil_iff]
      intro y hy
      simp only [decide_eq_true_eq]
      exact fun e => hk ⟨y, hy, e⟩
    rw [this]; simp
theorem rot_seg {xs zs : List PairD} {a m b : Nat} (ham : a ≤ m) (hmb : m ≤ b) (hb : b ≤ xs.length) (h : FromI (roI a m b) xs zs)
    (hd : ∀ (p q : Nat) (X Y : PairD), a ≤ p → p < m → m ≤ q → q < b → xs[p]? = some X → xs[q]? = some Y → Y.key < X.key) : Seg a b xs zs :=
  ⟨rot_same ham hmb hb h hd, h.1, fun p hp => by
    rw [h.2 p]
    congr 1
    unfold roI
    rw [if_neg (by omega), if_neg (by omega)]⟩
/-- An element of the part stood in the part. -/
theorem Seg.mem {xs ys : List PairD} {a b p : Nat} {X : PairD} (h : Seg a b xs ys) (hab : a ≤ b) (hb : b ≤ xs.length) (h1 : a ≤ p) (h2 : p < b) (hX : ys[p]? = some X) : ∃ q, a ≤ q ∧ q < b ∧ xs[q]? = some X := by
  have hl := h.len
  have split3 : ∀ l : List PairD, l = l.take a ++ ((l.take b).drop a ++ l.drop b) := by
    intro l
    conv => lhs; rw [← List.take_append_drop b l, ← List.take_append_drop a (l.take b), List.take_take, Nat.min_eq_left hab]
    simp
  have eA : ys.take a = xs.take a := by
    apply List.ext_getElem?
    intro i
    rw [List.getElem?_take, List.getElem?_take]
    split
    · exact h.out i (by omega)
    · rfl
  have eB : ys.drop b = xs.drop b := by
    apply List.ext_getElem?
    intro i
    rw [List.getElem?_drop, List.getElem?_drop]
    exact h.out (b + i) (by omega)
  have hk := h.same X.key
  rw [split3 ys, split3 xs, eA, eB] at hk
  simp only [List.filter_append, List.append_cancel_left_eq, List.append_cancel_right_eq] at hk
  have hm : X ∈ (ys.take b).drop a := by
    rw [List.mem_iff_getElem?]
    exact ⟨p - a, by rw [List.getElem?_drop, List.getElem?_take, if_pos (by omega)]; rw [show a + (p - a) = p by omega]; exact hX⟩
  have hm2 : X ∈ ((xs.take b).drop a).filter (fun x => decide (x.key = X.key)) := by
    rw [← hk]
    exact List.mem_filter.2 ⟨hm, by simp⟩
  obtain ⟨i, hi⟩ := List.mem_iff_getElem?.1 (List.mem_filter.1 hm2).1
  rw [List.getElem?_drop, List.getElem?_take] at hi
  split at hi
  · exact ⟨a + i, by omega, by omega, hi⟩
  · cases hi
/-- Two sorted halves, the left one below the right one. -/
theorem halves {xs ys zs : List PairD} {a mid b : Nat} (ham : a ≤ mid) (hmb : mid ≤ b) (hb : b ≤ xs.length) (h1 : Seg a mid xs ys) (h2 : Seg mid b ys zs) (s1 : SrtR ys a mid) (s2 : SrtR zs mid b)
    (hd : ∀ (p q : Nat) (X Y : PairD), a ≤ p → p < mid → mid ≤ q → q < b → xs[p]? = some X → xs[q]? = some Y → X.key ≤ Y.key) : SrtR zs a b := by
  have l1 := h1.len
  intro p q X Y hp hpq hq hX hY
  by_cases c1 : q < mid
  · rw [h2.out p (by omega)] at hX
    rw [h2.out q (by omega)] at hY
    exact s1 p q X Y hp hpq c1 hX hY
  · by_cases c2 : mid ≤ p
    · exact s2 p q X Y c2 hpq hq hX hY
    · rw [h2.out p (by omega)] at hX
      obtain ⟨p', a1, a2, a3⟩ := h1.mem ham (by omega) hp (by omega) hX
      obtain ⟨q', b1, b2, b3⟩ := h2.mem hmb (by omega) (by omega) hq hY
      rw [h1.out q' (by omega)] at b3
      exact hd p' q' X Y a1 a2 b1 b2 a3 b3
/-! ### One element ahead of a sorted part -/
/-- Binary search: what lies before is below, what lies from there on is not. -/
def Lo (ys : List PairD) (m i : Nat) (x : Int) : Prop := ∀ (q : Nat) (Y : PairD), m ≤ q → q < i → ys[q]? = some Y → Y.key < x
def Hi (ys : List PairD) (j b : Nat) (x : Int) : Prop := ∀ (q : Nat) (Y : PairD), j ≤ q → q < b → ys[q]? = some Y → x ≤ Y.key
theorem lo_step {ys : List PairD} {m b h : Nat} {x : Int} {Z : PairD} (hs : SrtR ys m b) (hZ : ys[h]? = some Z) (hb : h < b) (hlt : Z.key < x) : Lo ys m (h + 1) x := by
  intro q Y h1 h2 hY
  by_cases e : q = h
  · subst e; rw [hZ] at hY; simp only [Option.some.injEq] at hY; subst hY; exact hlt
  · have := hs q h Y Z h1 (by omega) hb hY hZ
    omega
theorem hi_step {ys : List PairD} {m b h : Nat} {x : Int} {Z : PairD} (hs : SrtR ys m b) (hZ : ys[h]? = some Z) (hm : m ≤ h) (hge : ¬ Z.key < x) : Hi ys h b x := by
  intro q Y h1 h2 hY
  by_cases e : q = h
  · subst e; rw [hZ] at hY; simp only [Option.some.injEq] at hY; subst hY; omega
  · have := hs h q Z Y hm (by omega) h2 hZ hY
    omega
theorem lo_none {ys : List PairD} {m : Nat} {x : Int} : Lo ys m m x := fun q Y h1 h2 => by omega
theorem hi_none {ys : List PairD} {b : Nat} {x : Int} : Hi ys b b x := fun q Y h1 h2 => by omega
/-- Below or equal, and above: the other search. -/
def Le (ys : List PairD) (a i : Nat) (x : Int) : Prop := ∀ (q : Nat) (Y : PairD), a ≤ q → q < i → ys[q]? = some Y → Y.key ≤ x
def Gt (ys : List PairD) (j m : Nat) (x : Int) : Prop := ∀ (q : Nat) (Y : PairD), j ≤ q → q < m → ys[q]? = some Y → x < Y.key
theorem le_step {ys : List PairD} {m b h : Nat} {x : Int} {Z : PairD} (hs : SrtR ys m b) (hZ : ys[h]? = some Z) (hb : h < b) (hle : ¬ x < Z.key) : Le ys m (h + 1) x := by
  intro q Y h1 h2 hY
  by_cases e : q = h
  · subst e; rw [hZ] at hY; simp only [Option.some.injEq] at hY; subst hY; omega
  · have := hs q h Y Z h1 (by omega) hb hY hZ
    omega
theorem gt_step {ys : List PairD} {m b h : Nat} {x : Int} {Z : PairD} (hs : SrtR ys m b) (hZ : ys[h]? = some Z) (hm : m ≤ h) (hgt : x < Z.key) : Gt ys h b x := by
  intro q Y h1 h2 hY
  by_cases e : q = h
  · subst e; rw [hZ] at hY; simp only [Option.some.injEq] at hY; subst hY; omega
  · have := hs h q Z Y hm (by omega) h2 hZ hY
    omega
theorem le_none {ys : List PairD} {m : Nat} {x : Int} : Le ys m m x := fun q Y h1 h2 => by omega
theorem gt_none {ys : List PairD} {b : Nat} {x : Int} : Gt ys b b x := fun q Y h1 h2 => by omega
/-- The element at a went right to k; the element at m went left to k. -/
def shI (a k p : Nat) : Nat := if p = k then a else if a ≤ p ∧ p < k then p + 1 else p
def shJ (m k p : Nat) : Nat := if p = k then m else if k < p ∧ p ≤ m then p - 1 else p
theorem FromI.id {f : Nat → Nat} {xs : List PairD} (e : ∀ p, f p = p) : FromI f xs xs := ⟨rfl, fun p => by rw [e p]⟩
theorem shI_zero (a p : Nat) : shI a a p = p := by unfold shI; repeat' split
                                                   all_goals omega
theorem shJ_zero (m p : Nat) : shJ m m p = p := by unfold shJ; repeat' split
                                                   all_goals omega
theorem set2_get {ys : List PairD} {j k p : Nat} {X Y : PairD} (hj : j < ys.length) (hk : k < ys.length) : ((ys.set j X).set k Y)[p]? = if p = k then some Y else if p = j then some X else ys[p]? := by
  rw [List.getElem?_set, List.getElem?_set]
  simp only [List.length_set]
  by_cases h1 : k = p
  · rw [if_pos h1, if_pos (by omega), if_pos h1.symm]
  · rw [if_neg h1, if_neg (Ne.symm h1)]
    by_cases h2 : j = p
    · rw [if_pos h2, if_pos (by omega), if_pos h2.symm]
    · rw [if_neg h2, if_neg (Ne.symm h2)]
theorem shI_step {xs ys : List PairD} {a k : Nat} {X Y : PairD} (h : FromI (shI a k) xs ys) (hak : a ≤ k) (hX : ys[k]? = some X) (hY : ys[k + 1]? = some Y) : FromI (shI a (k + 1)) xs ((ys.set k Y).set (k + 1) X) := by
  have l1 := lt_of_get hX
  have l2 := lt_of_get hY
  have hx := h.2 k
  have hy := h.2 (k + 1)
  have ex : shI a k k = a := by unfold shI; rw [if_pos rfl]
  have ey : shI a k (k + 1) = k + 1 := by unfold shI; rw [if_neg (by omega), if_neg (by omega)]
  rw [ex, hX] at hx
  rw [ey, hY] at hy
  refine ⟨by simp [h.1], fun p => ?_⟩
  rw [set2_get l1 l2]
  by_cases h1 : p = k + 1
  · rw [if_pos h1, hx]
    have : shI a (k + 1) p = a := by unfold shI; rw [if_pos h1]
    rw [this]
  · rw [if_neg h1]
    by_cases h2 : p = k
    · rw [if_pos h2, hy]
      have : shI a (k + 1) p = k + 1 := by unfold shI; rw [if_neg (by omega), if_pos (by omega)]; omega
      rw [this]
    · rw [if_neg h2, h.2 p]
      have : shI a k p = shI a (k + 1) p := by
        unfold shI
        repeat' split
        all_goals omega
      rw [this]
theorem shJ_step {xs ys : List PairD} {m k : Nat} {X Y : PairD} (h : FromI (shJ m k) xs ys) (hk0 : 0 < k) (hkm : k ≤ m) (hX : ys[k]? = some X) (hY : ys[k - 1]? = some Y) : FromI (shJ m (k - 1)) xs ((ys.set k Y).set (k - 1) X) := by
  have l1 := lt_of_get hX
  have l2 := lt_of_get hY
  have hx := h.2 k
  have hy := h.2 (k - 1)
  have ex : shJ m k k = m := by unfold shJ; rw [if_pos rfl]
  have ey : shJ m k (k - 1) = k - 1 := by unfold shJ; rw [if_neg (by omega), if_neg (by omega)]
  rw [ex, hX] at hx
  rw [ey, hY] at hy
  refine ⟨by simp [h.1], fun p => ?_⟩
  rw [set2_get l1 l2]
  by_cases h1 : p = k - 1
  · rw [if_pos h1, hx]
    have : shJ m (k - 1) p = m := by unfold shJ; rw [if_pos h1]
    rw [this]
  · rw [if_neg h1]
    by_cases h2 : p = k
    · rw [if_pos h2, hy]
      have : shJ m (k - 1) p = k - 1 := by unfold shJ; rw [if_neg (by omega), if_pos (by omega)]; omega
      rw [this]
    · rw [if_neg h2, h.2 p]
      have : shJ m k p = shJ m (k - 1) p := by
        unfold shJ
        repeat' split
        all_goals omega
      rw [this]
/-- The same swap, seen as part of the sort. -/
theorem Seg.swapR {xs ys : List PairD} {a b k : Nat} {X Y : PairD} (h : Seg a b xs ys) (hX : ys[k]? = some X) (hY : ys[k + 1]? = some Y) (hlt : Y.key < X.key) (ha : a ≤ k) (hb : k + 1 < b) : Seg a b xs ((ys.set k Y).set (k + 1) X) := by
  have := h.swap hX hY (by omega) ha hb
  rwa [List.set_comm _ _ (by omega)] at this
theorem sortedR {xs zs : List PairD} {a b i : Nat} {X : PairD} (h : FromI (shI a (i - 1)) xs zs) (hX : xs[a]? = some X) (hi : a + 1 ≤ i) (hib : i ≤ b) (hs : SrtR xs (a + 1) b) (hlo : Lo xs (a + 1) i X.key) (hhi : Hi xs i b X.key) : SrtR zs a b := by
  intro p q U V h1 h2 h3 hU hV
  rw [h.2 p] at hU
  rw [h.2 q] at hV
  have cU : (p = i - 1 ∧ shI a (i - 1) p = a) ∨ (p < i - 1 ∧ shI a (i - 1) p = p + 1) ∨ (i ≤ p ∧ shI a (i - 1) p = p) := by
    unfold shI
    by_cases c : p = i - 1
    · rw [if_pos c]; exact Or.inl ⟨c, rfl⟩
    · rw [if_neg c]
      by_cases c2 : p < i - 1
      · rw [if_pos (by omega)]; exact Or.inr (Or.inl ⟨c2, rfl⟩)
      · rw [if_neg (by omega)]; exact Or.inr (Or.inr ⟨by omega, rfl⟩)
  have cV : (q = i - 1 ∧ shI a (i - 1) q = a) ∨ (q < i - 1 ∧ shI a (i - 1) q = q + 1) ∨ (i ≤ q ∧ shI a (i - 1) q = q) := by
    unfold shI
    by_cases c : q = i - 1
    · rw [if_pos c]; exact Or.inl ⟨c, rfl⟩
    · rw [if_neg c]
      by_cases c2 : q < i - 1
      · rw [if_pos (by omega)]; exact Or.inr (Or.inl ⟨c2, rfl⟩)
      · rw [if_neg (by omega)]; exact Or.inr (Or.inr ⟨by omega, rfl⟩)
  rcases cU with ⟨c, e⟩ | ⟨c, e⟩ | ⟨c, e⟩ <;> rcases cV with ⟨c', e'⟩ | ⟨c', e'⟩ | ⟨c', e'⟩ <;> rw [e] at hU <;> rw [e'] at hV
  · omega
  · omega
  · rw [hX] at hU; simp only [Option.some.injEq] at hU; subst hU
    exact hhi q V c' h3 hV
  · rw [hX] at hV; simp only [Option.some.injEq] at hV; subst hV
    have := hlo (p + 1) U (by omega) (by omega) hU
    omega
  · exact hs (p + 1) (q + 1) U V (by omega) (by omega) (by omega) hU hV
  · have h4 := hlo (p + 1) U (by omega) (by omega) hU
    have h5 := hhi q V c' h3 hV
    omega
  · omega
  · omega
  · exact hs p q U V (by omega) h2 h3 hU hV
theorem sortedL {xs zs : List PairD} {a m i : Nat} {X : PairD} (h : FromI (shJ m i) xs zs) (hX : xs[m]? = some X) (hai : a ≤ i) (him : i ≤ m) (hs : SrtR xs a m) (hlo : Le xs a i X.key) (hhi : Gt xs i m X.key) : SrtR zs a (m + 1) := by
  intro p q U V h1 h2 h3 hU hV
  rw [h.2 p] at hU
  rw [h.2 q] at hV
  have key : ∀ p, p ≤ m → (p = i ∧ shJ m i p = m) ∨ (p < i ∧ shJ m i p = p) ∨ (i < p ∧ shJ m i p = p - 1) := by
    intro p hp
    unfold shJ
    by_cases c : p = i
    · rw [if_pos c]; exact Or.inl ⟨c, rfl⟩
    · rw [if_neg c]
      by_cases c2 : p < i
      · rw [if_neg (by omega)]; exact Or.inr (Or.inl ⟨c2, rfl⟩)
      · rw [if_pos (by omega)]; exact Or.inr (Or.inr ⟨by omega, rfl⟩)
  rcases key p (by omega) with ⟨c, e⟩ | ⟨c, e⟩ | ⟨c, e⟩ <;> rcases key q (by omega) with ⟨c', e'⟩ | ⟨c', e'⟩ | ⟨c', e'⟩ <;> rw [e] at hU <;> rw [e'] at hV
  · omega
  · omega
  · rw [hX] at hU; simp only [Option.some.injEq] at hU; subst hU
    have := hhi (q - 1) V (by omega) (by omega) hV
    omega
  · rw [hX] at hV; simp only [Option.some.injEq] at hV; subst hV
    exact hlo p U h1 c hU
  · exact hs p q U V h1 h2 (by omega) hU hV
  · have h4 := hlo p U h1 c hU
    have h5 := hhi (q - 1) V (by omega) (by omega) hV
    omega
  · omega
  · omega
  · exact hs (p - 1) (q - 1) U V (by omega) (by omega) (by omega) hU hV
/-! ### The merge in the middle -/
/-- What the search in the middle knows: up to here the left one is not above its partner, from there on it is. -/
def MLo (ys : List PairD) (s0 c p : Nat) : Prop := ∀ (q : Nat) (X Y : PairD), s0 ≤ q → q < c → ys[q]? = some X → ys[p - q]? = some Y → X.key ≤ Y.key
def MHi (ys : List PairD) (c r0 p : Nat) : Prop := ∀ (q : Nat) (X Y : PairD), c ≤ q → q < r0 → ys[q]? = some X → ys[p - q]? = some Y → Y.key < X.key
theorem mlo_step {ys : List PairD} {a m b s0 c p : Nat} {X Y : PairD} (h1 : SrtR ys a m) (h2 : SrtR ys m b) (hX : ys[c]? = some X) (hY : ys[p - c]? = some Y) (hle : ¬ Y.key < X.key) (ha : a ≤ s0) (hc : c < m) (hpm : m ≤ p - c) (hpb : p - s0 < b) : MLo ys s0 (c + 1) p := by
  intro q U V k1 k2 hU hV
  by_cases e : q = c
  · subst e
    rw [hX] at hU; rw [hY] at hV
    simp only [Option.some.injEq] at hU hV
    subst hU hV; omega
  · have e1 := h1 q c U X (by omega) (by omega) hc hU hX
    have e2 := h2 (p - c) (p - q) Y V hpm (by omega) (by omega) hY hV
    omega
theorem mhi_step {ys : List PairD} {a m b c r0 p : Nat} {X Y : PairD} (h1 : SrtR ys a m) (h2 : SrtR ys m b) (hX : ys[c]? = some X) (hY : ys[p - c]? = some Y) (hgt : Y.key < X.key) (ha : a ≤ c) (hr : r0 ≤ m) (hpm : m + r0 ≤ p + 1) (hpb : p - c < b) : MHi ys c r0 p := by
  intro q U V k1 k2 hU hV
  by_cases e : q = c
  · subst e
    rw [hX] at hU; rw [hY] at hV
    simp only [Option.some.injEq] at hU hV
    subst hU hV; omega
  · have e1 := h1 c q X U ha (by omega) (by omega) hX hU
    have e2 := h2 (p - q) (p - c) V Y (by omega) (by omega) hpb hV hY
    omega
theorem mid_k1 {xs : List PairD} {a b s0 s p e : Nat} (h : MLo xs s0 s p) (hp : p + 1 = s + e) (hc : a < s → e < b → s0 < s) : ∀ (X Y : PairD), a < s → e < b → xs[s - 1]? = some X → xs[e]? = some Y → X.key ≤ Y.key := by
  intro X Y h1 h2 hX hY
  have h3 := hc h1 h2
  exact h (s - 1) X Y (by omega) (by omega) hX (by rw [show p - (s - 1) = e by omega]; exact hY)
theorem mid_k2 {xs : List PairD} {m s r0 p e : Nat} (h : MHi xs s r0 p) (hp : p + 1 = s + e) (hc : s < m → m < e → s < r0) : ∀ (X Y : PairD), s < m → m < e → xs[s]? = some X → xs[e - 1]? = some Y → Y.key < X.key := by
  intro X Y h1 h2 hX hY
  have h3 := hc h1 h2
  exact h s X Y (Nat.le_refl _) h3 hX (by rw [show p - s = e - 1 by omega]; exact hY)
theorem mid_all {xs zs : List PairD} {a m b mid s e : Nat} (hn : s + e = mid + m) (has : a ≤ s) (hsm : s ≤ m) (hme : m ≤ e) (heb : e ≤ b) (hb : b ≤ xs.length) (h1 : SrtR xs a m) (h2 : SrtR xs m b) (h : FromI (roI s m e) xs zs)
    (k1 : ∀ (X Y : PairD), a < s → e < b → xs[s - 1]? = some X → xs[e]? = some Y → X.key ≤ Y.key)
    (k2 : ∀ (X Y : PairD), s < m → m < e → xs[s]? = some X → xs[e - 1]? = some Y → Y.key < X.key) :
    Seg a b xs zs ∧ SrtR zs a s ∧ SrtR zs s mid ∧ SrtR zs mid e ∧ SrtR zs e b ∧ ∀ (p q : Nat) (X Y : PairD), a ≤ p → p < mid → mid ≤ q → q < b → zs[p]? = some X → zs[q]? = some Y → X.key ≤ Y.key := by
  have le1 : ∀ (p q : Nat) (X Y : PairD), a ≤ p → p ≤ q → q < m → xs[p]? = some X → xs[q]? = some Y → X.key ≤ Y.key := by
    intro p q X Y hp hpq hq hX hY
    rcases Nat.lt_or_ge p q with hlt | hge
    · exact h1 p q X Y hp hlt hq hX hY
    · have : p = q := by omega
      subst this
      rw [hX] at hY; simp only [Option.some.injEq] at hY; subst hY; omega
  have le2 : ∀ (p q : Nat) (X Y : PairD), m ≤ p → p ≤ q → q < b → xs[p]? = some X → xs[q]? = some Y → X.key ≤ Y.key := by
    intro p q X Y hp hpq hq hX hY
    rcases Nat.lt_or_ge p q with hlt | hge
    · exact h2 p q X Y hp hlt hq hX hY
    · have : p = q := by omega
      subst this
      rw [hX] at hY; simp only [Option.some.injEq] at hY; subst hY; omega
  have c1 : ∀ (p q : Nat) (X Y : PairD), a ≤ p → p < s → e ≤ q → q < b → xs[p]? = some X → xs[q]? = some Y → X.key ≤ Y.key := by
    intro p q X Y hp hps hq hqb hX hY
    obtain ⟨U, hU⟩ := get_of_lt (xs := xs) (i := s - 1) (by omega)
    obtain ⟨V, hV⟩ := get_of_lt (xs := xs) (i := e) (by omega)
    have e1 := le1 p (s - 1) X U hp (by omega) (by omega) hX hU
    have e2 := k1 U V (by omega) (by omega) hU hV
    have e3 := le2 e q V Y hme hq hqb hV hY
    omega
  have c2 : ∀ (p q : Nat) (X Y : PairD), s ≤ p → p < m → m ≤ q → q < e → xs[p]? = some X → xs[q]? = some Y → Y.key < X.key := by
    intro p q X Y hp hpm hq hqe hX hY
    obtain ⟨U, hU⟩ := get_of_lt (xs := xs) (i := s) (by omega)
    obtain ⟨V, hV⟩ := get_of_lt (xs := xs) (i := e - 1) (by omega)
    have e1 := le1 s p U X has hp hpm hU hX
    have e2 := k2 U V (by omega) (by omega) hU hV
    have e3 := le2 q (e - 1) Y V hq (by omega) (by omega) hY hV
    omega
  have z1 : ∀ p, p < s → zs[p]? = xs[p]? := fun p hp => by
    rw [h.2 p]; congr 1; unfold roI; rw [if_neg (by omega), if_neg (by omega)]
  have z2 : ∀ p, s ≤ p → p < mid → zs[p]? = xs[p - s + m]? := fun p hp hq => by
    rw [h.2 p]; congr 1; unfold roI; rw [if_pos (by omega)]
  have z3 : ∀ p, mid ≤ p → p < e → zs[p]? = xs[p - (e - m)]? := fun p hp hq => by
    rw [h.2 p]; congr 1; unfold roI; rw [if_neg (by omega), if_pos (by omega)]
  have z4 : ∀ p, e ≤ p → zs[p]? = xs[p]? := fun p hp => by
    rw [h.2 p]; congr 1; unfold roI; rw [if_neg (by omega), if_neg (by omega)]
  refine ⟨(rot_seg hsm hme (by omega) h c2).mono has heb, ?_, ?_, ?_, ?_, ?_⟩
  · intro p q X Y hp hpq hq hX hY
    rw [z1 p (by omega)] at hX
    rw [z1 q hq] at hY
    exact le1 p q X Y hp (by omega) (by omega) hX hY
  · intro p q X Y hp hpq hq hX hY
    rw [z2 p hp (by omega)] at hX
    rw [z2 q (by omega) hq] at hY
    exact le2 _ _ X Y (by omega) (by omega) (by omega) hX hY
  · intro p q X Y hp hpq hq hX hY
    rw [z3 p hp (by omega)] at hX
    rw [z3 q (by omega) hq] at hY
    exact le1 _ _ X Y (by omega) (by omega) (by omega) hX hY
  · intro p q X Y hp hpq hq hX hY
    rw [z4 p hp] at hX
    rw [z4 q (by omega)] at hY
    exact le2 p q X Y (by omega) (by omega) hq hX hY
  · intro p q X Y hp hpm hq hqb hX hY
    by_cases d1 : p < s
    · rw [z1 p d1] at hX
      by_cases d2 : q < e
      · rw [z3 q hq d2] at hY
        exact le1 p _ X Y hp (by omega) (by omega) hX hY
      · rw [z4 q (by omega)] at hY
        exact c1 p q X Y hp d1 (by omega) hqb hX hY
    · rw [z2 p (by omega) hpm] at hX
      by_cases d2 : q < e
      · rw [z3 q hq d2] at hY
        have := c2 _ _ Y X (by omega) (by omega) (by omega) (by omega) hY hX
        omega
      · rw [z4 q (by omega)] at hY
        exact le2 _ q X Y (by omega) (by omega) hqb hX hY
theorem SrtR.join1 {zs : List PairD} {a s mid : Nat} (h1 : SrtR zs a s) (h2 : SrtR zs s mid) (h : ¬ (a < s ∧ s < mid)) : SrtR zs a mid := by
  rcases Nat.lt_or_ge a s with h3 | h3
  · exact h1.mono (Nat.le_refl _) (by omega)
  · intro p q X Y hp hpq hq
    exact h2 p q X Y (by omega) hpq hq
/-- The swaps of the moves are of elements with different keys. -/
theorem sh_lt {xs ys : List PairD} {a k i : Nat} {X0 X Y : PairD} (h : FromI (shI a k) xs ys) (hX0 : xs[a]? = some X0) (hlo : Lo xs (a + 1) i X0.key) (hak : a ≤ k) (hki : k + 1 < i) (hX : ys[k]? = some X) (hY : ys[k + 1]? = some Y) : Y.key < X.key := by
  have hx := h.2 k
  have hy := h.2 (k + 1)
  have ex : shI a k k = a := by unfold shI; rw [if_pos rfl]
  have ey : shI a k (k + 1) = k + 1 := by unfold shI; rw [if_neg (by omega), if_neg (by omega)]
  rw [ex, hX, hX0] at hx
  rw [ey, hY] at hy
  simp only [Option.some.injEq] at hx
  subst hx
  exact hlo (k + 1) Y (by omega) hki hy.symm
theorem sh_gt {xs ys : List PairD} {m k i : Nat} {X0 X Y : PairD} (h : FromI (shJ m k) xs ys) (hX0 : xs[m]? = some X0) (hhi : Gt xs i m X0.key) (hik : i < k) (hkm : k ≤ m) (hX : ys[k]? = some X) (hY : ys[k - 1]? = some Y) : X.key < Y.key := by
  have hx := h.2 k
  have hy := h.2 (k - 1)
  have ex : shJ m k k = m := by unfold shJ; rw [if_pos rfl]
  have ey : shJ m k (k - 1) = k - 1 := by unfold shJ; rw [if_neg (by omega), if_neg (by omega)]
  rw [ex, hX, hX0] at hx
  rw [ey, hY] at hy
  simp only [Option.some.injEq] at hx
  subst hx
  exact hhi (k - 1) Y (by omega) (by omega) hy.symm
theorem roI_triv {a m b : Nat} (ham : a ≤ m) (hmb : m ≤ b) (h : ¬ (a < m ∧ m < b)) (p : Nat) : roI a m b p = p := by
  unfold roI
  repeat' split
  all_goals omega
theorem Seg.srt_out {xs ys : List PairD} {a b c d : Nat} (h : Seg a b xs ys) (hs : SrtR xs c d) (hbc : b ≤ c) : SrtR ys c d := by
  intro p q X Y hp hpq hq hX hY
  rw [h.out p (by omega)] at hX
  rw [h.out q (by omega)] at hY
  exact hs p q X Y hp hpq hq hX hY
end Go.Proofs.YtokeofoemjeleaaDoor
