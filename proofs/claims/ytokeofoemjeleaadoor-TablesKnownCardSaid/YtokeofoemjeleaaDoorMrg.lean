/- The plain theory of the tables: finding, merging. -/
import Derived.Test.YtokeofoemjeleaaDoorChk
namespace Go.Proofs.YtokeofoemjeleaaDoor
open Go Go.Y

def rdI : Rd Int := fun _ cs x => cs = [.int .i64 x] ∧ inKind .i64 x
theorem mono_rdI : Mono rdI := fun _ _ _ _ _ h => h
theorem u8_b {x : Int} (h : inKind .u8 x) : 0 ≤ x ∧ x ≤ 255 := h
theorem i64_b {x : Int} (h : inKind .i64 x) : -9223372036854775808 ≤ x ∧ x ≤ 9223372036854775807 := h
structure P8 where
  a : Int
  b : Int
def rdP8 : Rd P8 := fun _ cs x => cs = [.int .u8 x.a, .int .u8 x.b] ∧ inKind .u8 x.a ∧ inKind .u8 x.b
theorem mono_rdP8 : Mono rdP8 := fun _ _ _ _ _ h => h

def keyIs (k : Int) : PairD → Bool := fun x => decide (x.key = k)
/-- Where a key is first, -1 if nowhere. -/
def AtR (l : List PairD) (k z : Int) : Prop :=
  (∃ (i : Nat) (X : PairD), z = (i : Int) ∧ l[i]? = some X ∧ X.key = k ∧ ∀ (m : Nat) (Y : PairD), m < i → l[m]? = some Y → Y.key ≠ k) ∨ (z = -1 ∧ ∀ (m : Nat) (Y : PairD), l[m]? = some Y → Y.key ≠ k)
theorem at_none {l : List PairD} {k z : Int} (h : AtR l k z) (hz : z < 0) : ∀ (m : Nat) (Y : PairD), l[m]? = some Y → Y.key ≠ k := by
  rcases h with ⟨i, X, rfl, _⟩ | ⟨_, h⟩
  · omega
  · exact h
theorem at_some {l : List PairD} {k z : Int} (h : AtR l k z) (hz : 0 ≤ z) : ∃ (i : Nat) (X : PairD), z = (i : Int) ∧ l[i]? = some X ∧ X.key = k ∧ ∀ (m : Nat) (Y : PairD), m < i → l[m]? = some Y → Y.key ≠ k := by
  rcases h with h | ⟨h, _⟩
  · exact h
  · omega
theorem find_at {l : List PairD} {k : Int} : ∀ {i : Nat} {X : PairD}, l[i]? = some X → X.key = k → (∀ (m : Nat) (Y : PairD), m < i → l[m]? = some Y → Y.key ≠ k) → l.find? (keyIs k) = some X := by
  induction l with
  | nil => intro i X h; simp at h
  | cons y l ih =>
    intro i X h hk hm
    cases i with
    | zero =>
      simp at h
      subst h
      simp [keyIs, hk]
    | succ i =>
      have h0 := hm 0 y (by omega) (by simp)
      rw [List.find?_cons_of_neg (by simpa [keyIs] using h0)]
      exact ih (i := i) (by simpa using h) hk (fun m Y h1 h2 => hm (m + 1) Y (by omega) (by simpa using h2))
theorem find_no {l : List PairD} {k : Int} (h : ∀ (m : Nat) (Y : PairD), l[m]? = some Y → Y.key ≠ k) : l.find? (keyIs k) = none := by
  rw [List.find?_eq_none]
  intro Y hY
  obtain ⟨m, hm⟩ := List.mem_iff_getElem?.1 hY
  simpa [keyIs] using h m Y hm
def findV (l : List PairD) (k : Int) : Int × Bool := match l.find? (keyIs k) with
  | some X => (X.v, true)
  | none => (0, false)
theorem find_step {l : List PairD} {k : Int} {i : Nat} {X : PairD} (h : l.find? (keyIs k) = (l.drop i).find? (keyIs k)) (hX : l[i]? = some X) :
    (X.key = k → findV l k = (X.v, true)) ∧ (¬ X.key = k → l.find? (keyIs k) = (l.drop (i + 1)).find? (keyIs k)) := by
  rw [drop_cons hX] at h
  refine ⟨fun e => ?_, fun e => ?_⟩
  · rw [List.find?_cons_of_pos (by simpa [keyIs] using e)] at h
    simp [findV, h]
  · rw [List.find?_cons_of_neg (by simpa [keyIs] using e)] at h
    exact h
theorem find_end {l : List PairD} {k : Int} {i : Nat} (h : l.find? (keyIs k) = (l.drop i).find? (keyIs k)) (hi : l.length ≤ i) : findV l k = (0, false) := by
  rw [List.drop_of_length_le hi] at h
  simp [findV, h]

def ofI : List Int → List PairD
  | a :: b :: r => ⟨a, b⟩ :: ofI r
  | _ => []
theorem ofI_step {l : List Int} {i : Nat} {A B : Int} (hA : l[i]? = some A) (hB : l[i + 1]? = some B) : ofI (l.drop i) = ⟨A, B⟩ :: ofI (l.drop (i + 2)) := by
  rw [drop_cons hA, drop_cons hB]; rfl
theorem ofI_end {l : List Int} {i : Nat} (h : l.length ≤ i + 1) : ofI (l.drop i) = [] := by
  have hl : (l.drop i).length ≤ 1 := by rw [List.length_drop]; omega
  match h0 : l.drop i, hl with
  | [], _ => rfl
  | [x], _ => rfl

theorem none_stepK {l : List PairD} {k : Nat} {key : Int} {Z : PairD} (h : ∀ (m : Nat) (Y : PairD), m < k → l[m]? = some Y → Y.key ≠ key) (hZ : l[k]? = some Z) (hne : ¬ (Z.key = key)) :
    ∀ (m : Nat) (Y : PairD), m < k + 1 → l[m]? = some Y → Y.key ≠ key := by
  intro m Y h1 h2
  rcases Nat.lt_or_ge m k with h3 | h3
  · exact h m Y h3 h2
  · have e : m = k := by omega
    subst e
    rw [hZ] at h2
    simp only [Option.some.injEq] at h2
    subst h2; exact hne
theorem of_step {l : List Int} {ys : List PairD} {j : Nat} {A B : Int} (h : ys ++ ofI (l.drop (2 * j)) = ofI l) (hA : l[2 * j]? = some A) (hB : l[2 * j + 1]? = some B) : (ys ++ [⟨A, B⟩]) ++ ofI (l.drop (2 * (j + 1))) = ofI l := by
  rw [← h, ofI_step hA hB]; simp [Nat.mul_succ]
theorem of_end {l : List Int} {ys : List PairD} {j : Nat} (h : ys ++ ofI (l.drop (2 * j)) = ofI l) (hl : l.length ≤ 2 * j + 1) : ys = ofI l := by
  rw [ofI_end hl] at h; simpa using h
/-- The table of two. -/
def mergeF (a b : List PairD) : List PairD := a.map (fun x => (b.find? (keyIs x.key)).getD x) ++ b.filter (fun y => !(a.any (keyIs y.key)))
def mrg (a b : List PairD) (j : Nat) : List PairD := a.map (fun x => ((b.take j).find? (keyIs x.key)).getD x) ++ (b.take j).filter (fun y => !(a.any (keyIs y.key)))
theorem mrg_zero (a b : List PairD) : mrg a b 0 = a := by simp [mrg]
theorem mrg_all {a b : List PairD} {j : Nat} (h : b.length ≤ j) : mrg a b j = mergeF a b := by simp [mrg, mergeF, List.take_of_length_le h]
theorem mrg_len (a b : List PairD) (j : Nat) : a.length ≤ (mrg a b j).length ∧ (mrg a b j).length ≤ a.length + j := by
  simp only [mrg, List.length_append, List.length_map]
  have h1 := List.length_filter_le (fun y => !(a.any (keyIs y.key))) (b.take j)
  rw [List.length_take] at h1
  omega
theorem mrg_new {a b : List PairD} {j : Nat} {h : PairD} (hb : b[j]? = some h) (hn : ∀ x ∈ a, x.key ≠ h.key) : mrg a b (j + 1) = mrg a b j ++ [h] := by
  unfold mrg
  rw [take_snoc hb, List.filter_append, ← List.append_assoc]
  congr 1
  · congr 1
    apply List.map_congr_left
    intro x hx
    have hne := hn x hx
    rw [List.find?_append]
    have : [h].find? (keyIs x.key) = none := by simp [keyIs, Ne.symm hne]
    rw [this, Option.or_none]
  · have : a.any (keyIs h.key) = false := by
      rw [List.any_eq_false]
      intro x hx
      simpa [keyIs] using hn x hx
    simp [this]
theorem mrg_old {a b : List PairD} {j i : Nat} {h x : PairD} (hb : b[j]? = some h) (hx : a[i]? = some x) (hk : x.key = h.key) (hd : a.Pairwise (fun p q => p.key ≠ q.key)) (hdb : ∀ y ∈ b.take j, y.key ≠ h.key) :
    mrg a b (j + 1) = (mrg a b j).set i h := by
  have hi := lt_of_get hx
  unfold mrg
  rw [take_snoc hb, List.filter_append, List.set_append_left _ _ (by rw [List.length_map]; exact hi)]
  have hany : a.any (keyIs h.key) = true := by
    rw [List.any_eq_true]
    exact ⟨x, List.mem_of_getElem? hx, by simpa [keyIs] using hk⟩
  have hf : [h].filter (fun y => !(a.any (keyIs y.key))) = [] := by simp [hany]
  rw [hf, List.append_nil]
  congr 1
  apply List.ext_getElem?
  intro m
  rw [List.getElem?_set]
  by_cases hm : i = m
  · subst hm
    rw [if_pos rfl, if_pos (by rw [List.length_map]; exact hi), List.getElem?_map, hx]
    simp only [Option.map_some]
    rw [List.find?_append]
    have h1 : (b.take j).find? (keyIs x.key) = none := by
      rw [List.find?_eq_none]
      intro y hy
      have := hdb y hy
      simpa [keyIs, hk] using this
    have h2 : [h].find? (keyIs x.key) = some h := by simp [keyIs, hk]
    rw [h1, h2]
    rfl
  · rw [if_neg hm, List.getElem?_map, List.getElem?_map]
    cases hy : a[m]? with
    | none => rfl
    | some y =>
      simp only [Option.map_some, Option.some.injEq]
      have hne : y.key ≠ h.key := by
        rw [← hk]
        intro e
        rcases Nat.lt_or_ge i m with h1 | h1
        · exact List.pairwise_iff_getElem.1 hd i m hi (lt_of_get hy) h1 (by
            rw [List.getElem?_eq_getElem hi] at hx; rw [List.getElem?_eq_getElem (lt_of_get hy)] at hy
            simp only [Option.some.injEq] at hx hy
            rw [hx, hy]; exact e.symm)
        · exact List.pairwise_iff_getElem.1 hd m i (lt_of_get hy) hi (by omega) (by
            rw [List.getElem?_eq_getElem hi] at hx; rw [List.getElem?_eq_getElem (lt_of_get hy)] at hy
            simp only [Option.some.injEq] at hx hy
            rw [hx, hy]; exact e)
      rw [List.find?_append]
      have : [h].find? (keyIs y.key) = none := by simp [keyIs, Ne.symm hne]
      rw [this, Option.or_none]

/-- What a table that passed the check is. -/
theorem ff_ok {l : List PairD} {least : Int} : ∀ (n i : Nat), (ffF l least i n).2 = 0 → ∀ m, i ≤ m → m < i + n → faultF l m least = 0
  | 0, i, h, m, h1, h2 => by omega
  | n + 1, i, h, m, h1, h2 => by
    unfold ffF at h
    split at h
    · rename_i h0
      rcases Nat.lt_or_ge i m with h3 | h3
      · exact ff_ok n (i + 1) h m (by omega) (by omega)
      · have : m = i := by omega
        subst this; exact h0
    · rename_i h0
      exact absurd h h0
theorem fault_ok {l : List PairD} {least : Int} {i : Nat} {x : PairD} (h : faultF l i least = 0) (hx : l[i]? = some x) : x.key ≠ 0 ∧ least ≤ x.v ∧ x.v ≤ 2305843009213693952 ∧ ∀ (m : Nat) (Y : PairD), m < i → l[m]? = some Y → Y.key ≠ x.key := by
  unfold faultF at h
  simp only [hx] at h
  split at h
  · cases h
  · rename_i h1
    split at h
    · cases h
    · rename_i h2
      split at h
      · cases h
      · rename_i h3
        refine ⟨h1, by omega, by omega, fun m Y hm hY e => h3 ?_⟩
        exact any_take hx hY hm e
structure TOk (l : List PairD) (least : Int) : Prop where
  lst : 1 ≤ least ∧ least ≤ 2305843009213693952
  len : l.length ≤ 256
  ok : ∀ (i : Nat) (x : PairD), l[i]? = some x → x.key ≠ 0 ∧ least ≤ x.v ∧ x.v ≤ 2305843009213693952 ∧ ∀ (m : Nat) (Y : PairD), m < i → l[m]? = some Y → Y.key ≠ x.key
theorem tok_of {l : List PairD} {least : Int} (h : (checkF l least).2 = 0) : TOk l least := by
  unfold checkF at h
  split at h
  · cases h
  · split at h
    · cases h
    · refine ⟨by omega, by omega, fun i x hx => fault_ok (ff_ok _ 0 h i (Nat.zero_le _) (by have := lt_of_get hx; omega)) hx⟩
theorem TOk.pw {l : List PairD} {least : Int} (h : TOk l least) : l.Pairwise (fun p q => p.key ≠ q.key) := by
  rw [List.pairwise_iff_getElem]
  intro i j hi hj hij
  exact (h.ok j l[j] (List.getElem?_eq_getElem hj)).2.2.2 i l[i] hij (List.getElem?_eq_getElem hi)
theorem ff_of {l : List PairD} {least : Int} : ∀ (n i : Nat), (∀ m, i ≤ m → m < i + n → faultF l m least = 0) → ffF l least i n = (0, 0)
  | 0, _, _ => rfl
  | n + 1, i, h => by
    unfold ffF
    rw [if_pos (h i (Nat.le_refl _) (by omega))]
    exact ff_of n (i + 1) (fun m h1 h2 => h m (by omega) (by omega))
theorem TOk.check {l : List PairD} {least : Int} (h : TOk l least) : checkF l least = (0, 0) := by
  have h1 := h.lst
  have h2 := h.len
  rw [checkF_ff (by omega) (by omega)]
  apply ff_of
  intro m _ hm
  unfold faultF
  have hX := List.getElem?_eq_getElem (l := l) (i := m) (by omega)
  obtain ⟨a1, a2, a3, a4⟩ := h.ok m _ hX
  simp only [hX]
  rw [if_neg a1, if_neg (by omega), if_neg ?_]
  rw [Bool.not_eq_true]
  exact none_take (k := m) (fun q Y h1 h2 => a4 q Y h1 h2) (Nat.le_refl _)

theorem tk_ne {l : List PairD} {least : Int} (T : TOk l least) {j : Nat} {h : PairD} (hX : l[j]? = some h) : ∀ y ∈ l.take j, y.key ≠ h.key := by
  intro y hy
  obtain ⟨m, hm⟩ := List.mem_iff_getElem?.1 hy
  rw [List.getElem?_take] at hm
  split at hm
  · rename_i h5; exact (T.ok j _ hX).2.2.2 m y h5 hm
  · cases hm
/-- The map tells where a key is. -/
structure AtMap (ps l : List PairD) : Prop where
  srt : Srt ps
  len : ps.length ≤ l.length
  has : ∀ (i : Nat) (X : PairD), l[i]? = some X → getF ps X.key = ((i : Int), true)
  not : ∀ k, (∀ X ∈ l, X.key ≠ k) → (getF ps k).2 = false
theorem AtMap.nil : AtMap [] [] := ⟨List.Pairwise.nil, Nat.le_refl _, fun i X h => by simp at h, fun k _ => by simp [getF, atF]⟩
theorem AtMap.next {ps l : List PairD} {least : Int} {i : Nat} {X : PairD} (h : AtMap ps (l.take i)) (T : TOk l least) (hX : l[i]? = some X) : AtMap (putF ps X.key (i : Int)).1 (l.take (i + 1)) := by
  have hi := lt_of_get hX
  have hl := T.len
  have hlen := h.len
  rw [List.length_take] at hlen
  obtain ⟨hk, _, _, hd⟩ := T.ok i X hX
  have hg := getF_put h.srt (by omega) hk (i : Int)
  refine ⟨(h.srt.putted (by omega) hk _).1, ?_, fun m Y hY => ?_, fun k hk' => ?_⟩
  · have := putF_len ps X.key (i : Int)
    rw [List.length_take]; omega
  · rw [List.getElem?_take] at hY
    split at hY
    · rename_i hm
      rw [hg]
      rcases Nat.lt_or_ge m i with h3 | h3
      · rw [if_neg (hd m Y h3 hY)]
        exact h.has m Y (by rw [List.getElem?_take, if_pos h3]; exact hY)
      · have : m = i := by omega
        subst this
        rw [hX] at hY
        simp only [Option.some.injEq] at hY
        rw [if_pos (by rw [hY])]
    · cases hY
  · rw [hg, if_neg ?_]
    · exact h.not k fun Y hY => hk' Y (List.take_subset_take_left l (Nat.le_succ i) hY)
    · intro e
      exact hk' X (List.mem_of_getElem? (i := i) (by rw [List.getElem?_take, if_pos (by omega)]; exact hX)) e.symm
theorem AtMap.found {ps l : List PairD} (h : AtMap ps l) {k : Int} (hf : (getF ps k).2 = true) : ∃ (i : Nat) (X : PairD), l[i]? = some X ∧ X.key = k ∧ (getF ps k).1 = (i : Int) := by
  by_cases hx : ∃ X ∈ l, X.key = k
  · obtain ⟨X, hX, hk⟩ := hx
    obtain ⟨i, hi⟩ := List.mem_iff_getElem?.1 hX
    have := h.has i X hi
    rw [hk] at this
    exact ⟨i, X, hi, hk, by rw [this]⟩
  · rw [h.not k (fun X hX e => hx ⟨X, hX, e⟩)] at hf
    cases hf
theorem AtMap.miss {ps l : List PairD} (h : AtMap ps l) {k : Int} (hf : (getF ps k).2 = false) : ∀ X ∈ l, X.key ≠ k := by
  intro X hX e
  obtain ⟨i, hi⟩ := List.mem_iff_getElem?.1 hX
  have := h.has i X hi
  rw [e] at this
  rw [this] at hf
  cases hf
/-- The error of a merge. -/
def mergeE (a b : List PairD) (least : Int) : Int :=
  if (checkF a least).2 ≠ 0 then (checkF a least).2 else if (checkF b least).2 ≠ 0 then (checkF b least).2 else if 256 < (mergeF a b).length then 3 else 0
def mergeR (a b : List PairD) (least : Int) : List PairD := if mergeE a b least = 0 then mergeF a b else []
theorem mergeE_a {a b : List PairD} {least : Int} (h : (checkF a least).2 ≠ 0) : mergeE a b least = (checkF a least).2 := by unfold mergeE; rw [if_pos h]
theorem mergeE_b {a b : List PairD} {least : Int} (h0 : (checkF a least).2 = 0) (h : (checkF b least).2 ≠ 0) : mergeE a b least = (checkF b least).2 := by unfold mergeE; rw [if_neg (by omega), if_pos h]
theorem mergeE_l {a b : List PairD} {least : Int} (h0 : (checkF a least).2 = 0) (h1 : (checkF b least).2 = 0) (h : 256 < (mergeF a b).length) : mergeE a b least = 3 := by unfold mergeE; rw [if_neg (by omega), if_neg (by omega), if_pos h]
theorem mergeE_0 {a b : List PairD} {least : Int} (h0 : (checkF a least).2 = 0) (h1 : (checkF b least).2 = 0) (h : ¬ 256 < (mergeF a b).length) : mergeE a b least = 0 := by unfold mergeE; rw [if_neg (by omega), if_neg (by omega), if_neg h]
/-- A table of small numbers. -/
structure VT (l : List PairD) : Prop where
  rng : ∀ x ∈ l, 1 ≤ x.key ∧ x.key ≤ 40 ∧ 1 ≤ x.v ∧ x.v ≤ 40
  pw : l.Pairwise (fun p q => p.key ≠ q.key)
theorem VT.nil : VT [] := ⟨by simp, List.Pairwise.nil⟩
theorem VT.snoc {l : List PairD} {x : PairD} (h : VT l) (hx : 1 ≤ x.key ∧ x.key ≤ 40 ∧ 1 ≤ x.v ∧ x.v ≤ 40) (hn : ∀ (m : Nat) (Y : PairD), l[m]? = some Y → Y.key ≠ x.key) : VT (l ++ [x]) := by
  refine ⟨fun y hy => ?_, ?_⟩
  · rcases List.mem_append.1 hy with hy | hy
    · exact h.rng y hy
    · simp only [List.mem_singleton] at hy; subst hy; exact hx
  · rw [List.pairwise_append]
    refine ⟨h.pw, List.pairwise_singleton _ _, fun y hy z hz => ?_⟩
    simp only [List.mem_singleton] at hz
    subst hz
    obtain ⟨m, hm⟩ := List.mem_iff_getElem?.1 hy
    exact hn m y hm
theorem VT.tok {l : List PairD} (h : VT l) (hl : l.length ≤ 256) : TOk l 1 := by
  refine ⟨by omega, hl, fun i x hx => ?_⟩
  have := h.rng x (List.mem_of_getElem? hx)
  refine ⟨by omega, by omega, by omega, fun m Y hm hY e => ?_⟩
  have hi := lt_of_get hx
  have hp := List.pairwise_iff_getElem.1 h.pw m i (by omega) hi hm
  rw [List.getElem?_eq_getElem hi] at hx
  rw [List.getElem?_eq_getElem (by omega)] at hY
  simp only [Option.some.injEq] at hx hY
  rw [hx, hY] at hp
  exact hp e
theorem any_no {l : List PairD} {k : Int} (h : ∀ (m : Nat) (Y : PairD), l[m]? = some Y → Y.key ≠ k) : l.any (keyIs k) = false := by
  rw [List.any_eq_false]
  intro Y hY
  obtain ⟨m, hm⟩ := List.mem_iff_getElem?.1 hY
  simpa [keyIs] using h m Y hm
theorem any_yes {l : List PairD} {k : Int} {i : Nat} {X : PairD} (h : l[i]? = some X) (hk : X.key = k) : l.any (keyIs k) = true := by
  rw [List.any_eq_true]
  exact ⟨X, List.mem_of_getElem? h, by simpa [keyIs] using hk⟩
/-- The reference's merge, step by step. -/
def rmA (a b : List PairD) (i : Nat) : List PairD := (a.take i).map (fun x => (b.find? (keyIs x.key)).getD x)
def rmB (a b : List PairD) (j : Nat) : List PairD := a.map (fun x => (b.find? (keyIs x.key)).getD x) ++ (b.take j).filter (fun y => !(a.any (keyIs y.key)))
theorem rmA_step {a b : List PairD} {i : Nat} {x y : PairD} (hx : a[i]? = some x) (hy : (b.find? (keyIs x.key)).getD x = y) : rmA a b (i + 1) = rmA a b i ++ [y] := by
  unfold rmA
  rw [take_snoc hx]; simp [hy]
theorem rmA_end {a b : List PairD} {i : Nat} (h : a.length ≤ i) : rmA a b i = rmB a b 0 := by simp [rmA, rmB, List.take_of_length_le h]
theorem rmB_yes {a b : List PairD} {j : Nat} {y : PairD} (hy : b[j]? = some y) (h : a.any (keyIs y.key) = false) : rmB a b (j + 1) = rmB a b j ++ [y] := by
  unfold rmB
  rw [take_snoc hy, List.filter_append, ← List.append_assoc]
  simp [h]
theorem rmB_no {a b : List PairD} {j : Nat} {y : PairD} (hy : b[j]? = some y) (h : a.any (keyIs y.key) = true) : rmB a b (j + 1) = rmB a b j := by
  unfold rmB
  rw [take_snoc hy, List.filter_append]
  simp [h]
theorem rmB_end {a b : List PairD} {j : Nat} (h : b.length ≤ j) : rmB a b j = mergeF a b := by simp [rmB, mergeF, List.take_of_length_le h]
theorem rmA_len (a b : List PairD) (i : Nat) : (rmA a b i).length ≤ a.length := by simp only [rmA, List.length_map, List.length_take]; omega
theorem rmB_len (a b : List PairD) (j : Nat) : (rmB a b j).length ≤ a.length + b.length := by
  have h1 := List.length_filter_le (fun y => !(a.any (keyIs y.key))) (b.take j)
  simp only [rmB, List.length_append, List.length_map, List.length_take] at *
  omega
end Go.Proofs.YtokeofoemjeleaaDoor
