/- The plain theory of the stable sort: blocks. -/
import Derived.Test.YtokeofoemjeleaaDoorSrm
namespace Go.Proofs.YtokeofoemjeleaaDoor
open Go Go.Y

def AllB (bs n : Nat) (ys : List PairD) : Prop := ∀ t : Nat, SrtR ys (t * bs) (min (t * bs + bs) n)
theorem Seg.srt_before {xs ys : List PairD} {a b c d : Nat} (h : Seg a b xs ys) (hs : SrtR xs c d) (hd : d ≤ a) : SrtR ys c d := by
  intro p q X Y hp hpq hq hX hY
  rw [h.out p (by omega)] at hX
  rw [h.out q (by omega)] at hY
  exact hs p q X Y hp hpq hq hX hY
theorem SrtR.empty {ys : List PairD} {a b : Nat} (h : b ≤ a) : SrtR ys a b := fun p q X Y h1 h2 h3 => by omega
theorem b20_step {ys zs : List PairD} {x : Nat} (hx : x % 20 = 0) (h : ∀ t, t * 20 < x → SrtR ys (t * 20) (t * 20 + 20)) (hG : Seg x (x + 20) ys zs) (hS : SrtR zs x (x + 20)) : ∀ t, t * 20 < x + 20 → SrtR zs (t * 20) (t * 20 + 20) := by
  intro t ht
  by_cases c : t * 20 < x
  · exact hG.srt_before (h t c) (by omega)
  · have : t * 20 = x := by omega
    rw [this]; exact hS
theorem b20_end {ys zs : List PairD} {x n : Nat} (hx : x % 20 = 0) (hn : n < x + 20) (hxn : x ≤ n) (h : ∀ t, t * 20 < x → SrtR ys (t * 20) (t * 20 + 20)) (hG : Seg x n ys zs) (hS : SrtR zs x n) : AllB 20 n zs := by
  intro t
  by_cases c : t * 20 < x
  · exact (hG.srt_before (h t c) (by omega)).mono (Nat.le_refl _) (Nat.min_le_left _ _)
  · by_cases c2 : t * 20 = x
    · rw [c2]; exact hS.mono (Nat.le_refl _) (Nat.min_le_right _ _)
    · exact SrtR.empty (by omega)
theorem two_blocks {ys : List PairD} {t0 bs n x : Nat} (hx : x = t0 * (2 * bs)) (hB : ∀ t, x ≤ t * bs → SrtR ys (t * bs) (min (t * bs + bs) n)) : SrtR ys x (min (x + bs) n) ∧ SrtR ys (x + bs) (min (x + bs + bs) n) := by
  have e1 : (2 * t0) * bs = x := by rw [hx, Nat.mul_comm 2 t0, Nat.mul_assoc]
  have e2 : (2 * t0 + 1) * bs = x + bs := by rw [Nat.add_mul, e1, Nat.one_mul]
  have h1 := hB (2 * t0) (by omega)
  have h2 := hB (2 * t0 + 1) (by omega)
  rw [e1] at h1
  rw [e2] at h2
  exact ⟨h1, h2⟩
theorem mul_lt_step {t t0 c : Nat} (h : t * c < t0 * c) : t * c + c ≤ t0 * c := by
  have h1 : t < t0 := Nat.lt_of_mul_lt_mul_right h
  have h2 : (t + 1) * c ≤ t0 * c := Nat.mul_le_mul_right c h1
  rw [Nat.add_mul, Nat.one_mul] at h2
  exact h2
theorem bb_step {ys zs : List PairD} {t0 c x : Nat} (hx : x = t0 * c) (h : ∀ t, t * c < x → SrtR ys (t * c) (t * c + c)) (hG : Seg x (x + c) ys zs) (hS : SrtR zs x (x + c)) : ∀ t, t * c < x + c → SrtR zs (t * c) (t * c + c) := by
  intro t ht
  by_cases k : t * c < x
  · exact hG.srt_before (h t k) (by rw [hx] at k ⊢; exact mul_lt_step k)
  · have : t * c = x := by
      rcases Nat.lt_or_ge x (t * c) with h1 | h1
      · rw [hx] at h1; have := mul_lt_step h1; omega
      · omega
    rw [this]; exact hS
theorem bb_end {ys zs : List PairD} {t0 c x n : Nat} (hx : x = t0 * c) (hn : n < x + c) (h : ∀ t, t * c < x → SrtR ys (t * c) (t * c + c)) (hG : Seg x n ys zs) (hS : SrtR zs x n) : AllB c n zs := by
  intro t
  by_cases k : t * c < x
  · exact (hG.srt_before (h t k) (by rw [hx] at k ⊢; exact mul_lt_step k)).mono (Nat.le_refl _) (Nat.min_le_left _ _)
  · by_cases k2 : t * c = x
    · rw [k2]; exact hS.mono (Nat.le_refl _) (Nat.min_le_right _ _)
    · refine SrtR.empty ?_
      have h1 : x < t * c := by omega
      rw [hx] at h1
      have := mul_lt_step h1
      omega
theorem AllB.all {bs n : Nat} {ys : List PairD} (h : AllB bs n ys) (hn : n ≤ bs) : SrtR ys 0 n := by
  have := h 0
  rw [Nat.zero_mul, Nat.zero_add, Nat.min_eq_right hn] at this
  exact this
theorem AllB.after {bs n x : Nat} {ys : List PairD} (h : AllB bs n ys) : ∀ t, x ≤ t * bs → SrtR ys (t * bs) (min (t * bs + bs) n) := fun t _ => h t
end Go.Proofs.YtokeofoemjeleaaDoor
