/- The plain theory of the laws: what is there after steps hangs on the last step for each key alone. -/
import Derived.Test.YtnloilnlehgngaaRun
namespace Go.Proofs.Ytnloilnlehgngaa
open Go Go.Y

def Srt (ps : List PairD) : Prop := ps.Pairwise (fun a b => a.key < b.key)

theorem getF_congr {ps ps' : List PairD} {k : Int} (h : Srt ps) (h' : Srt ps') (hm : ∀ v, (⟨k, v⟩ : PairD) ∈ ps ↔ (⟨k, v⟩ : PairD) ∈ ps') : getF ps k = getF ps' k := by
  by_cases hx : ∃ v, (⟨k, v⟩ : PairD) ∈ ps
  · obtain ⟨v, hv⟩ := hx
    rw [getF_hit h hv, getF_hit h' ((hm v).1 hv)]
  · rw [getF_miss h, getF_miss h']
    · intro q hq e; subst e; exact hx ⟨q.v, (hm q.v).2 hq⟩
    · intro q hq e; subst e; exact hx ⟨q.v, hq⟩

theorem Srt.dropped {ps : List PairD} (h : Srt ps) (k : Int) : Srt (dropF ps k).1 ∧ (∀ v, (⟨k, v⟩ : PairD) ∉ (dropF ps k).1) ∧ ∀ k', k' ≠ k → ∀ v, (⟨k', v⟩ : PairD) ∈ (dropF ps k).1 ↔ (⟨k', v⟩ : PairD) ∈ ps := by
  by_cases hx : ∃ q ∈ ps, q.key = k
  · obtain ⟨q, hq, hk⟩ := hx
    obtain ⟨_, h2, h3⟩ := dropF_old h hq hk
    have hs := List.Pairwise.sublist h3 h
    refine ⟨hs, fun v hv => ?_, fun k' hk' v => ?_⟩
    · have hp : (q :: (dropF ps k).1).Pairwise (fun a b => a.key ≠ b.key) := h2.pairwise (nodup_of_sorted h) (fun hab => Ne.symm hab)
      exact (List.pairwise_cons.1 hp).1 _ hv hk
    · rw [h2.mem_iff, List.mem_cons]
      constructor
      · exact Or.inr
      · rintro (e | e)
        · rw [← e] at hk; exact absurd hk hk'
        · exact e
  · have hn : ∀ q ∈ ps, q.key ≠ k := fun q hq e => hx ⟨q, hq, e⟩
    rw [dropF_none h hn]
    exact ⟨h, fun v hv => hn _ hv rfl, fun _ _ _ => Iff.rfl⟩

theorem Srt.putted {ps : List PairD} (h : Srt ps) (hl : ps.length < 4096) {k : Int} (hk0 : k ≠ 0) (v : Int) : Srt (putF ps k v).1 ∧ (⟨k, v⟩ : PairD) ∈ (putF ps k v).1 ∧ ∀ k', k' ≠ k → ∀ u, (⟨k', u⟩ : PairD) ∈ (putF ps k v).1 ↔ (⟨k', u⟩ : PairD) ∈ ps := by
  by_cases hx : ∃ q ∈ ps, q.key = k
  · obtain ⟨q, hq, hk⟩ := hx
    obtain ⟨_, _, r, h2, h3, h4⟩ := putF_old (v := v) h hk0 hq hk
    refine ⟨h4, h3.mem_iff.2 (by simp), fun k' hk' u => ?_⟩
    rw [h2.mem_iff, h3.mem_iff, List.mem_cons, List.mem_cons]
    constructor
    · rintro (e | e)
      · simp only [PairD.mk.injEq] at e; exact absurd e.1 hk'
      · exact Or.inr e
    · rintro (e | e)
      · rw [← e] at hk; exact absurd hk hk'
      · exact Or.inr e
  · have hn : ∀ q ∈ ps, q.key ≠ k := fun q hq e => hx ⟨q, hq, e⟩
    obtain ⟨_, h2, h3⟩ := putF_new (v := v) h hk0 hn hl
    refine ⟨h3, h2.mem_iff.2 (by simp), fun k' hk' u => ?_⟩
    rw [h2.mem_iff, List.mem_cons]
    constructor
    · rintro (e | e)
      · simp only [PairD.mk.injEq] at e; exact absurd e.1 hk'
      · exact e
    · exact Or.inr

theorem Srt.step {ps : List PairD} (h : Srt ps) (hl : ps.length < 4096) (x : StepD) : Srt (stepF ps x) := by
  unfold stepF
  split
  · exact (h.dropped x.key).1
  · by_cases h0 : x.key = 0
    · rw [h0, putF_zero]; exact h
    · exact (h.putted hl h0 x.v).1
theorem getF_other {ps : List PairD} (h : Srt ps) (hl : ps.length < 4096) {x : StepD} {k : Int} (hk : x.key ≠ k) : getF (stepF ps x) k = getF ps k := by
  refine getF_congr (h.step hl x) h fun v => ?_
  unfold stepF
  split
  · exact (h.dropped x.key).2.2 k (Ne.symm hk) v
  · by_cases h0 : x.key = 0
    · rw [h0, putF_zero]
    · exact (h.putted hl h0 x.v).2.2 k (Ne.symm hk) v
theorem getF_same {ps : List PairD} (h : Srt ps) (hl : ps.length < 4096) {x : StepD} (h0 : x.key ≠ 0) : getF (stepF ps x) x.key = if x.drop then (0, false) else (x.v, true) := by
  unfold stepF
  split
  · refine getF_miss (h.dropped x.key).1 fun q hq e => ?_
    have hq' : (⟨x.key, q.v⟩ : PairD) = q := by rw [← e]
    exact (h.dropped x.key).2.1 q.v (by rw [hq']; exact hq)
  · exact getF_hit (h.putted hl h0 x.v).1 (h.putted hl h0 x.v).2.1
theorem fold_sorted : ∀ (l : List StepD) (ps : List PairD), Srt ps → ps.length + l.length ≤ 4095 → Srt (l.foldl stepF ps)
  | [], ps, h, _ => h
  | x :: l, ps, h, hl => by
    simp only [List.length_cons] at hl
    have := stepF_len ps x
    exact fold_sorted l _ (h.step (by omega) x) (by omega)
theorem fold_same : ∀ (l : List StepD) (ps : List PairD) (k : Int), Srt ps → ps.length + l.length ≤ 4095 → (∀ x ∈ l, x.key ≠ k) → getF (l.foldl stepF ps) k = getF ps k
  | [], ps, k, _, _, _ => rfl
  | x :: l, ps, k, h, hl, hx => by
    simp only [List.length_cons] at hl
    have := stepF_len ps x
    rw [List.foldl_cons, fold_same l _ k (h.step (by omega) x) (by omega) (fun y hy => hx y (by simp [hy]))]
    exact getF_other h (by omega) (hx x (by simp))
/-- The last step for a key tells what is there. -/
theorem run_last {xs ys : List StepD} {i : Nat} {X : StepD} (hl : xs.length + ys.length ≤ 4000) (hX : ys[i]? = some X) (h0 : X.key ≠ 0) (hlast : ∀ (m : Nat) (Y : StepD), i < m → ys[m]? = some Y → Y.key ≠ X.key) :
    getF (runF (xs ++ ys)) X.key = if X.drop then (0, false) else (X.v, true) := by
  have hi := lt_of_get hX
  have e : runF (xs ++ ys) = (ys.drop (i + 1)).foldl stepF (stepF (runF (xs ++ ys.take i)) X) := by
    conv => lhs; rw [← List.take_append_drop i ys, drop_cons hX]
    simp [runF]
  have h1 := runF_len (xs ++ ys.take i)
  have h2 := stepF_len (runF (xs ++ ys.take i)) X
  simp only [List.length_append, List.length_take] at h1
  have hs : Srt (runF (xs ++ ys.take i)) := fold_sorted _ _ List.Pairwise.nil (by simp only [List.length_append, List.length_take, List.length_nil]; omega)
  rw [e, fold_same _ _ _ (hs.step (by omega) X) (by simp only [List.length_drop]; omega) ?_]
  · exact getF_same hs (by omega) h0
  · intro Y hY
    obtain ⟨m, hm⟩ := List.mem_iff_getElem?.1 hY
    rw [List.getElem?_drop] at hm
    exact hlast _ Y (by omega) hm
theorem last_step {ys : List StepD} {i k : Nat} {lv : Bool} {Xi Y : StepD} (h : lv = true → ∀ (m : Nat) (Z : StepD), i < m → m < k → ys[m]? = some Z → Z.key ≠ Xi.key) (hlv : lv = true) (hY : ys[k]? = some Y)
    (hn : (!(decide (Y.key = Xi.key))) = true) : ∀ (m : Nat) (Z : StepD), i < m → m < k + 1 → ys[m]? = some Z → Z.key ≠ Xi.key := by
  intro m Z h1 h2 hZ
  rcases Nat.lt_or_ge m k with h3 | h3
  · exact h hlv m Z h1 h3 hZ
  · have e : m = k := by omega
    subst e
    rw [hY] at hZ
    simp only [Option.some.injEq] at hZ
    subst hZ
    simpa using hn
theorem last_f {r : Int × Bool} {X : StepD} (h : r = if X.drop then (0, false) else (X.v, true)) : (r.2 == X.drop) = false := by
  rw [h]; cases X.drop <;> rfl
theorem last_v {r : Int × Bool} {X : StepD} (h : r = if X.drop then (0, false) else (X.v, true)) (hf : r.2 = true) : r.1 = X.v := by
  rw [h] at hf ⊢
  cases hd : X.drop with
  | true => rw [hd] at hf; simp at hf
  | false => rfl
theorem run_last40 {xs ys zs : List StepD} (hzs : zs = [] ++ xs.take (min xs.length 40) ++ ys.take (min ys.length 40)) {i k : Nat} {X : StepD} (hX : ys[i]? = some X) (hi : i < 40) (h0 : X.key ≠ 0)
    (hlv : ∀ (m : Nat) (Z : StepD), i < m → m < k → ys[m]? = some Z → Z.key ≠ X.key) (hk : ys.length ≤ k ∨ 40 ≤ k) : getF (runF (zs.take 80)) X.key = if X.drop then (0, false) else (X.v, true) := by
  have hxl := lt_of_get hX
  have hl : zs.length ≤ 80 := by rw [hzs]; simp only [List.nil_append, List.length_append, List.length_take]; omega
  rw [List.take_of_length_le hl, hzs, List.nil_append]
  refine run_last (i := i) (by simp only [List.length_take]; omega) ?_ h0 ?_
  · rw [List.getElem?_take, if_pos (by omega)]; exact hX
  · intro m Y h1 hY
    rw [List.getElem?_take] at hY
    split at hY
    · rename_i hm
      exact hlv m Y h1 (by omega) hY
    · cases hY
end Go.Proofs.Ytnloilnlehgngaa
