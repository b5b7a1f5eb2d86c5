/- The plain theory of the law Find: the k-th height with a key. -/
import Derived.Test.YtokeofoemjeleaaDoorStb
namespace Go.Proofs.YtokeofoemjeleaaDoor
open Go Go.Y

/-- How many of the first ones have the key. -/
def cntK (ys : List PairD) (i : Nat) (k : Int) : Nat := ((ys.take i).filter (keyIs k)).length
theorem cntK_zero (ys : List PairD) (k : Int) : cntK ys 0 k = 0 := rfl
theorem cntK_yes {ys : List PairD} {i : Nat} {k : Int} {X : PairD} (h : ys[i]? = some X) (hk : X.key = k) : cntK ys (i + 1) k = cntK ys i k + 1 := by
  unfold cntK
  rw [take_snoc h, List.filter_append]
  simp [keyIs, hk]
theorem cntK_no {ys : List PairD} {i : Nat} {k : Int} {X : PairD} (h : ys[i]? = some X) (hk : ¬ X.key = k) : cntK ys (i + 1) k = cntK ys i k := by
  unfold cntK
  rw [take_snoc h, List.filter_append]
  simp [keyIs, hk]
/-- What the search of the k-th one knows: it is still ahead, or it was met. -/
def KS (xs : List PairD) (n : Nat) (kz : Int) (Y : PairD) : Prop := (∃ kk : Nat, kz = (kk : Int) ∧ ((xs.drop n).filter (keyIs Y.key))[kk]? = some Y) ∨ kz = -1
theorem KS.start {xs ys : List PairD} {i : Nat} {Y : PairD} (h : Same xs ys) (hY : ys[i]? = some Y) : KS xs 0 ((cntK ys i Y.key : Nat) : Int) Y := by
  refine Or.inl ⟨_, rfl, ?_⟩
  have h1 := h Y.key
  have e : (xs.drop 0).filter (keyIs Y.key) = ys.filter (keyIs Y.key) := h1.symm
  rw [e]
  have hs : ys = ys.take i ++ Y :: ys.drop (i + 1) := by
    conv => lhs; rw [← List.take_append_drop i ys, drop_cons hY]
  have hY2 : keyIs Y.key Y = true := by simp [keyIs]
  unfold cntK
  generalize hc : ((ys.take i).filter (keyIs Y.key)).length = c
  rw [hs, List.filter_append, List.getElem?_append_right (by omega), hc, Nat.sub_self, List.filter_cons, if_pos hY2]
  rfl
theorem KS.hit0 {xs : List PairD} {n : Nat} {X Y : PairD} (h : KS xs n 0 Y) (hX : xs[n]? = some X) (hk : X.key = Y.key) : X = Y := by
  rcases h with ⟨kk, h1, h2⟩ | h
  · have : kk = 0 := by omega
    subst this
    have hX2 : keyIs Y.key X = true := by simp [keyIs, hk]
    rw [drop_cons hX, List.filter_cons, if_pos hX2] at h2
    simpa using h2
  · omega
theorem KS.hit {xs : List PairD} {n : Nat} {X Y : PairD} {kz : Int} (h : KS xs n kz Y) (h0 : 0 ≤ kz) (hX : xs[n]? = some X) (hk : X.key = Y.key) : KS xs (n + 1) (kz - 1) Y := by
  rcases h with ⟨kk, h1, h2⟩ | h
  · have hX2 : keyIs Y.key X = true := by simp [keyIs, hk]
    rw [drop_cons hX, List.filter_cons, if_pos hX2] at h2
    cases kk with
    | zero => exact Or.inr (by omega)
    | succ q => exact Or.inl ⟨q, by omega, by simpa using h2⟩
  · omega
theorem KS.miss {xs : List PairD} {n : Nat} {X Y : PairD} {kz : Int} (h : KS xs n kz Y) (hX : xs[n]? = some X) (hk : ¬ X.key = Y.key) : KS xs (n + 1) kz Y := by
  rcases h with ⟨kk, h1, h2⟩ | h
  · have hX2 : ¬ keyIs Y.key X = true := by simp [keyIs, hk]
    rw [drop_cons hX, List.filter_cons, if_neg hX2] at h2
    exact Or.inl ⟨kk, h1, h2⟩
  · exact Or.inr h
theorem KS.stop {xs : List PairD} {n : Nat} {Y : PairD} {kz : Int} (h : KS xs n kz Y) (hn : xs.length ≤ n) : kz < 0 := by
  rcases h with ⟨kk, h1, h2⟩ | h
  · rw [List.drop_eq_nil_of_le hn] at h2
    simp at h2
  · omega
end Go.Proofs.YtokeofoemjeleaaDoor
