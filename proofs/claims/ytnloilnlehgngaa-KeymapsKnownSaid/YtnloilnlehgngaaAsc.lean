/- The plain theory of the closed law: keys that come one after the other, and go. -/
import Derived.Test.YtnloilnlehgngaaOrd
namespace Go.Proofs.Ytnloilnlehgngaa
open Go Go.Y

theorem atF_last : ∀ (ps : List PairD) (k : Int), (∀ q ∈ ps, q.key < k) → atF ps k = (ps.length, false)
  | [], k, _ => rfl
  | x :: ps, k, h => by
    have h0 := h x (by simp)
    have ih := atF_last ps k (fun q hq => h q (by simp [hq]))
    unfold atF
    rw [if_neg (by omega), ih]
    simp
theorem putF_last {ps : List PairD} {k v : Int} (h : ∀ q ∈ ps, q.key < k) (hk : 0 < k) (hl : ps.length < 4096) : putF ps k v = (ps ++ [⟨k, v⟩], 0) := by
  unfold putF
  rw [if_neg (by omega), atF_last ps k h]
  simp only [true_and]
  rw [if_neg (by omega)]
  simp
theorem dropF_head {q : PairD} {ps : List PairD} : dropF (q :: ps) q.key = (ps, true) := by simp [dropF, atF]
theorem dropF_second {p q : PairD} {ps : List PairD} (h : p.key < q.key) : dropF (p :: q :: ps) q.key = (p :: ps, true) := by
  have : ¬ q.key ≤ p.key := by omega
  simp [dropF, atF, this]
theorem getF_second {p q : PairD} {ps : List PairD} (h : p.key < q.key) : getF (p :: q :: ps) q.key = (q.v, true) := by
  have : ¬ q.key ≤ p.key := by omega
  simp [getF, atF, this]
theorem getF_head {q : PairD} {ps : List PairD} : getF (q :: ps) q.key = (q.v, true) := by simp [getF, atF]
theorem putF_head {q : PairD} {ps : List PairD} {v : Int} (hk : q.key ≠ 0) : putF (q :: ps) q.key v = (⟨q.key, v⟩ :: ps, 0) := by simp [putF, atF, hk]

def pr (c : Int) (j : Nat) : PairD := ⟨((j + 1 : Nat) : Int) * c, ((j + 1 : Nat) : Int)⟩
def asc (c : Int) (n : Nat) : List PairD := (List.range n).map (pr c)
theorem asc_len (c : Int) (n : Nat) : (asc c n).length = n := by simp [asc]
theorem asc_get {c : Int} {n j : Nat} (h : j < n) : (asc c n)[j]? = some (pr c j) := by
  simp [asc, List.getElem?_range h]
theorem asc_succ (c : Int) (n : Nat) : asc c (n + 1) = asc c n ++ [pr c n] := by simp [asc, List.range_succ]
theorem asc_drop {c : Int} {n j : Nat} (h : j < n) : (asc c n).drop j = pr c j :: (asc c n).drop (j + 1) := drop_cons (asc_get h)
theorem asc_lt {c : Int} (hc : 0 < c) {n : Nat} {q : PairD} (h : q ∈ asc c n) : q.key < ((n + 1 : Nat) : Int) * c := by
  simp only [asc, List.mem_map, List.mem_range] at h
  obtain ⟨j, hj, rfl⟩ := h
  exact Int.mul_lt_mul_of_pos_right (by omega) hc
theorem asc_put {c : Int} (hc : 0 < c) {n m : Nat} (hm : m ≤ n) (hl : n - m < 4096) : putF ((asc c n).drop m) (((n + 1 : Nat) : Int) * c) ((n + 1 : Nat) : Int) = ((asc c (n + 1)).drop m, 0) := by
  rw [putF_last (fun q hq => asc_lt hc (List.mem_of_mem_drop hq)) (Int.mul_pos (by omega) hc) (by rw [List.length_drop, asc_len]; omega), asc_succ, List.drop_append_of_le_length (by rw [asc_len]; omega)]
  rfl
theorem asc_put0 {c : Int} (hc : 0 < c) {n : Nat} (hl : n < 4096) : putF (asc c n) (((n + 1 : Nat) : Int) * c) ((n + 1 : Nat) : Int) = (asc c (n + 1), 0) := by
  have := asc_put hc (Nat.zero_le n) (m := 0) (by omega)
  simpa using this
theorem asc_drop1 {c : Int} {n j : Nat} (h : j < n) : dropF ((asc c n).drop j) (((j + 1 : Nat) : Int) * c) = ((asc c n).drop (j + 1), true) := by
  rw [asc_drop h]; exact dropF_head
theorem asc_get2 {c : Int} (hc : 0 < c) {n j : Nat} (h : j < n) (h0 : 0 < j) (v : Int) : getF (⟨c, v⟩ :: (asc c n).drop j) (((j + 1 : Nat) : Int) * c) = (((j + 1 : Nat) : Int), true) := by
  rw [asc_drop h]
  refine getF_second (q := pr c j) ?_
  show c < ((j + 1 : Nat) : Int) * c
  have : 1 * c < ((j + 1 : Nat) : Int) * c := Int.mul_lt_mul_of_pos_right (by omega) hc
  omega
theorem asc_drop2 {c : Int} (hc : 0 < c) {n j : Nat} (h : j < n) (h0 : 0 < j) (v : Int) : dropF (⟨c, v⟩ :: (asc c n).drop j) (((j + 1 : Nat) : Int) * c) = (⟨c, v⟩ :: (asc c n).drop (j + 1), true) := by
  rw [asc_drop h]
  refine dropF_second (q := pr c j) ?_
  show c < ((j + 1 : Nat) : Int) * c
  have : 1 * c < ((j + 1 : Nat) : Int) * c := Int.mul_lt_mul_of_pos_right (by omega) hc
  omega
theorem asc_first {c : Int} {n : Nat} (h : 0 < n) (hc : c ≠ 0) (v : Int) : putF (asc c n) c v = (⟨c, v⟩ :: (asc c n).drop 1, 0) := by
  have h1 := asc_drop (c := c) h
  rw [List.drop_zero] at h1
  rw [h1]
  have hk : (pr c 0).key = c := by show ((0 + 1 : Nat) : Int) * c = c; omega
  have := putF_head (q := pr c 0) (ps := (asc c n).drop (0 + 1)) (v := v) (by rw [hk]; exact hc)
  rw [hk] at this
  rw [this]
  rfl
theorem asc_no7 (n : Nat) : ∀ q ∈ asc 1099511627776 n, q.key ≠ 7 := by
  intro q h
  simp only [asc, List.mem_map, List.mem_range] at h
  obtain ⟨j, hj, rfl⟩ := h
  show ((j + 1 : Nat) : Int) * 1099511627776 ≠ 7
  omega
theorem asc1_put {n m : Nat} (hm : m ≤ n) (hl : n - m < 4096) : putF ((asc 1 n).drop m) ((n + 1 : Nat) : Int) ((n + 1 : Nat) : Int) = ((asc 1 (n + 1)).drop m, 0) := by
  have := asc_put (c := 1) (by decide) hm hl
  rwa [Int.mul_one] at this
theorem asc1_drop {k : Nat} (h : 5 ≤ k) : dropF ((asc 1 (k + 1)).drop (k - 5)) (((k + 1 : Nat) : Int) - 5) = ((asc 1 (k + 1)).drop (k + 1 - 5), true) := by
  have := asc_drop1 (c := 1) (n := k + 1) (j := k - 5) (by omega)
  rw [Int.mul_one, show ((k - 5 + 1 : Nat) : Int) = ((k + 1 : Nat) : Int) - 5 by omega, show k - 5 + 1 = k + 1 - 5 by omega] at this
  exact this
theorem asc_5 {c : Int} (n : Nat) : (asc c (n + 5)).drop n = [pr c n, pr c (n + 1), pr c (n + 2), pr c (n + 3), pr c (n + 4)] := by
  rw [asc_drop (by omega), asc_drop (by omega), asc_drop (by omega), asc_drop (by omega), asc_drop (by omega), List.drop_of_length_le (by rw [asc_len]; omega)]
end Go.Proofs.Ytnloilnlehgngaa
