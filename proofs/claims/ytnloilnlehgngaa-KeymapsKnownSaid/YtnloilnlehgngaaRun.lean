/- The plain theory of the laws: steps, and what is there after them. -/
import Derived.Test.YtnloilnlehgngaaKeys
namespace Go.Proofs.Ytnloilnlehgngaa
open Go Go.Y

structure StepD where
  key : Int
  v : Int
  drop : Bool
def rdStep : Rd StepD := fun _ cs x => cs = [.int .u64 x.key, .int .i64 x.v, .bool x.drop] ∧ inKind .u64 x.key ∧ inKind .i64 x.v
theorem mono_rdStep : Mono rdStep := fun _ _ _ _ _ h => h

def stepF (ps : List PairD) (x : StepD) : List PairD := if x.drop then (dropF ps x.key).1 else (putF ps x.key x.v).1
def runF (l : List StepD) : List PairD := l.foldl stepF []

theorem putF_len (ps : List PairD) (k v : Int) : (putF ps k v).1.length ≤ ps.length + 1 := by
  have := atF_le ps k
  unfold putF
  split
  · simp
  · split
    · simp
    · simp only [List.length_append, List.length_take, List.length_drop, List.length_cons, List.length_nil]
      split <;> omega
theorem dropF_len (ps : List PairD) (k : Int) : (dropF ps k).1.length ≤ ps.length := by
  unfold dropF
  split
  · simp only [List.length_append, List.length_take, List.length_drop]; omega
  · simp
theorem stepF_len (ps : List PairD) (x : StepD) : (stepF ps x).length ≤ ps.length + 1 := by
  unfold stepF
  have := putF_len ps x.key x.v
  have := dropF_len ps x.key
  split <;> omega
theorem foldF_len : ∀ (l : List StepD) (ps : List PairD), (l.foldl stepF ps).length ≤ ps.length + l.length
  | [], ps => by simp
  | x :: l, ps => by
    have := foldF_len l (stepF ps x)
    have := stepF_len ps x
    simp only [List.foldl_cons, List.length_cons]
    omega
theorem runF_len (l : List StepD) : (runF l).length ≤ l.length := by
  have := foldF_len l []
  simpa [runF] using this
theorem runF_le (l : List StepD) (i : Nat) : (runF (l.take i)).length ≤ i := by
  have := runF_len (l.take i)
  rw [List.length_take] at this
  omega
section
variable {xs : List StepD} {i : Nat} {X : StepD}
theorem runF_step (hX : xs[i]? = some X) : runF (xs.take (i + 1)) = stepF (runF (xs.take i)) X := by
  rw [take_succ_get hX]; simp [runF]
theorem runF_put (hX : xs[i]? = some X) (h : X.drop = false) : runF (xs.take (i + 1)) = (putF (runF (xs.take i)) X.key X.v).1 := by
  rw [runF_step hX, stepF, h]; rfl
theorem runF_drop (hX : xs[i]? = some X) (h : X.drop = true) : runF (xs.take (i + 1)) = (dropF (runF (xs.take i)) X.key).1 := by
  rw [runF_step hX, stepF, h]; rfl
end
theorem runF_fin {xs : List StepD} {i : Nat} (h : ¬ ((i : Int) < xs.length) ∨ ¬ ((i : Int) < 80)) (hi : i ≤ xs.length) (h80 : i ≤ 80 := by omega) : runF (xs.take i) = runF (xs.take 80) := by
  by_cases h1 : i = 80
  · rw [h1]
  · have : i = xs.length := by omega
    rw [List.take_of_length_le (by omega), List.take_of_length_le (by omega)]
theorem getF_snd (ps : List PairD) (k : Int) : (getF ps k).2 = (atF ps k).2 := by
  unfold getF
  cases (atF ps k).2 <;> rfl
theorem getF_no {ps : List PairD} {k : Int} (h : (atF ps k).2 = false) : (getF ps k).1 = 0 := by
  unfold getF; rw [h]; rfl
theorem getF_at {ps : List PairD} {k : Int} {X : PairD} (h : (atF ps k).2 = true) (hX : ps[(atF ps k).1]? = some X) : (getF ps k).1 = X.v := by
  unfold getF; rw [h, hX]; rfl
end Go.Proofs.Ytnloilnlehgngaa
