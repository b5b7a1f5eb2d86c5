/- The plain theory of the tables: lines and whole texts. -/
import Derived.Test.YtokeofoemjeleaaDoorTxt
namespace Go.Proofs.YtokeofoemjeleaaDoor
open Go Go.Y

/-- Where a byte is first; the length if it is nowhere. -/
def ix (c : UInt8) : List UInt8 → Nat
  | [] => 0
  | b :: l => if b = c then 0 else ix c l + 1
theorem ix_le (c : UInt8) : ∀ (l : List UInt8), ix c l ≤ l.length
  | [] => Nat.le_refl _
  | b :: l => by have := ix_le c l; unfold ix; split <;> simp only [List.length_cons] <;> omega
theorem ix_ne (c : UInt8) : ∀ (l : List UInt8) (m : Nat) (b : UInt8), m < ix c l → l[m]? = some b → b ≠ c
  | [], m, b, h, _ => by simp [ix] at h
  | a :: l, m, b, h, hb => by
    unfold ix at h
    split at h
    · omega
    · rename_i ha
      cases m with
      | zero => simp at hb; subst hb; exact ha
      | succ m => exact ix_ne c l m b (by omega) (by simpa using hb)
theorem ix_at (c : UInt8) : ∀ (l : List UInt8), ix c l < l.length → l[ix c l]? = some c
  | [], h => by simp at h
  | a :: l, h => by
    unfold ix at h ⊢
    split
    · rename_i ha; subst ha; rfl
    · rename_i ha
      rw [if_neg ha] at h
      simp only [List.length_cons] at h
      rw [List.getElem?_cons_succ]
      exact ix_at c l (by omega)
theorem ix_unique {c : UInt8} : ∀ {l : List UInt8} {k : Nat}, (∀ (m : Nat) (b : UInt8), m < k → l[m]? = some b → b ≠ c) → (l[k]? = some c ∨ k = l.length) → ix c l = k
  | [], k, _, h => by
    rcases h with h | h
    · simp at h
    · simp [ix, h]
  | a :: l, k, h, hk => by
    unfold ix
    cases k with
    | zero =>
      rcases hk with hk | hk
      · simp at hk; rw [if_pos hk]
      · simp at hk
    | succ k =>
      have h0 := h 0 a (by omega) (by simp)
      rw [if_neg h0, ix_unique (l := l) (k := k) (fun m b h1 h2 => h (m + 1) b (by omega) (by simpa using h2)) (by
        rcases hk with hk | hk
        · left; simpa using hk
        · right; simpa using hk)]
theorem index_ix (c : UInt8) : ∀ (l : List UInt8), Lib.index l [c] = if ix c l < l.length then ((ix c l : Nat) : Int) else -1
  | [] => by simp [Lib.index, ix]
  | b :: l => by
    have ih := index_ix c l
    unfold Lib.index ix
    by_cases h : b = c
    · subst h
      simp
    · have hp : ([c].isPrefixOf (b :: l)) = false := by simp [List.isPrefixOf, Ne.symm h]
      rw [if_neg (by rw [hp]; simp), if_neg h]
      by_cases hl : ix c l < l.length
      · rw [if_pos hl] at ih
        have h1 : ¬ (Lib.index l [c] == -1) = true := by rw [ih, beq_iff_eq]; omega
        have h2 : ix c l + 1 < (b :: l).length := by rw [List.length_cons]; omega
        rw [if_neg h1, if_pos h2, ih]
        omega
      · rw [if_neg hl] at ih
        have h1 : (Lib.index l [c] == -1) = true := by rw [ih]; rfl
        have h2 : ¬ ix c l + 1 < (b :: l).length := by rw [List.length_cons]; omega
        rw [if_pos h1, if_neg h2]
theorem cut_ix (c : UInt8) (l : List UInt8) : Lib.cut l [c] = if ix c l < l.length then (l.take (ix c l), l.drop (ix c l + 1), true) else (l, [], false) := by
  unfold Lib.cut
  rw [index_ix]
  by_cases h : ix c l < l.length
  · simp only [if_pos h]
    rw [if_pos (by omega)]
    simp
  · simp only [if_neg h]
    rw [if_neg (by omega)]

theorem dc_step {u m : Nat} {l : List UInt8} (h : Lib.decDigits u = (if m = 0 then [] else Lib.decDigits m) ++ l) (hm : 0 < m) : Lib.decDigits u = (if m / 10 = 0 then [] else Lib.decDigits (m / 10)) ++ ([UInt8.ofNat (48 + m % 10)] ++ l) := by
  rw [h, if_neg (by omega)]
  conv => lhs; rw [dec_split m]
  rw [List.append_assoc]
theorem dc_len {m : Nat} {l : List UInt8} (h : l.length ≤ 100 ∧ m < 10 ^ (100 - l.length)) (hm : 0 < m) (c : UInt8 := 0) : ([UInt8.ofNat (48 + m % 10)] ++ l).length ≤ 100 ∧ m / 10 < 10 ^ (100 - ([UInt8.ofNat (48 + m % 10)] ++ l).length) := by
  obtain ⟨h1, h2⟩ := h
  have h3 : l.length ≠ 100 := by
    intro e; rw [e] at h2; simp at h2; omega
  have e1 : ([UInt8.ofNat (48 + m % 10)] ++ l).length = l.length + 1 := by simp
  rw [e1]
  refine ⟨by omega, ?_⟩
  have e2 : 100 - l.length = (100 - (l.length + 1)) + 1 := by omega
  rw [e2, Nat.pow_succ] at h2
  exact Nat.div_lt_of_lt_mul (by rw [Nat.mul_comm]; exact h2)
theorem num_ok {s : List UInt8} {u : Nat} {er : Value} (h : (Lib.parseUintB 64 s = .ok u ∧ isNilI er = true) ∨ ((∀ x, Lib.parseUintB 64 s ≠ .ok x) ∧ isNilI er = false)) (hb : isNilI er = true) : numQ s 18446744073709551615 = if decide (Lib.decDigits u = s) = true then some u else none := by
  rw [← num_eq]
  rcases h with ⟨h1, _⟩ | ⟨_, h2⟩
  · rw [h1]; simp only [decide_eq_true_eq]
  · rw [h2] at hb; cases hb
theorem num_no {s : List UInt8} {u : Nat} {er : Value} (h : (Lib.parseUintB 64 s = .ok u ∧ isNilI er = true) ∨ ((∀ x, Lib.parseUintB 64 s ≠ .ok x) ∧ isNilI er = false)) (hb : isNilI er = false) : numQ s 18446744073709551615 = if false = true then some u else none := by
  rw [← num_eq]
  rcases h with ⟨_, h2⟩ | ⟨h1, _⟩
  · rw [h2] at hb; cases hb
  · cases hq : Lib.parseUintB 64 s with
    | ok x => exact absurd hq (h1 x)
    | range => rfl
    | _ => rfl
/-- The height that a line stands for. -/
def lineP (s : List UInt8) : Option PairD :=
  if ix 32 s < s.length then
    match numQ (s.take (ix 32 s)) 18446744073709551615, numQ (s.drop (ix 32 s + 1)) 9223372036854775807 with
    | some k, some v => some ⟨(k : Int), (v : Int)⟩
    | _, _ => none
  else none
theorem cut_lens (c : UInt8) (s : List UInt8) : (Lib.cut s [c]).1.length ≤ s.length ∧ (Lib.cut s [c]).2.1.length ≤ s.length := by
  rw [cut_ix]
  split
  · simp only [List.length_take, List.length_drop]; omega
  · simp
theorem ln_yes {s : List UInt8} {k v : Nat} {b1 b2 : Bool} (hc : (Lib.cut s [32]).2.2 = true) (h1 : numQ (Lib.cut s [32]).1 18446744073709551615 = if b1 = true then some k else none) (h2 : numQ (Lib.cut s [32]).2.1 18446744073709551615 = if b2 = true then some v else none)
    (hb1 : b1 = true) (hb2 : b2 = true) (hv : v ≤ 9223372036854775807) : lineP s = if true = true then some ⟨(k : Int), (v : Int)⟩ else none := by
  subst hb1 hb2
  rw [cut_ix] at hc h1 h2
  unfold lineP
  by_cases hi : ix 32 s < s.length
  · simp only [if_pos hi, if_true] at h1 h2 ⊢
    rw [numQ_63, h1, h2]
    simp only [if_pos hv]
  · rw [if_neg hi] at hc; cases hc
theorem ln_no {s : List UInt8} {k v : Nat} {b1 b2 : Bool} (h1 : numQ (Lib.cut s [32]).1 18446744073709551615 = if b1 = true then some k else none) (h2 : numQ (Lib.cut s [32]).2.1 18446744073709551615 = if b2 = true then some v else none)
    (h : (Lib.cut s [32]).2.2 = false ∨ b1 = false ∨ b2 = false ∨ 9223372036854775807 < v) : lineP s = none := by
  rw [cut_ix] at h h1 h2
  unfold lineP
  by_cases hi : ix 32 s < s.length
  · simp only [if_pos hi] at h1 h2 h ⊢
    rw [numQ_63, h1, h2]
    rcases h with h | rfl | rfl | h
    · cases h
    · rfl
    · cases b1 <;> rfl
    · cases b1
      · rfl
      · cases b2
        · rfl
        · simp only [if_true]; rw [if_neg (by omega)]
  · rw [if_neg hi]
/-- The table with a text: the heights so far, the lines so far, what is left. -/
def parseGo : Nat → List PairD → Nat → List UInt8 → List PairD × Nat × Int
  | 0, l, _, _ => (l, 0, 0)
  | f + 1, l, n, s =>
    if s = [] then (l, 0, 0)
    else if ix 10 s < s.length then
      match lineP (s.take (ix 10 s)) with
      | none => ([], n + 1, 5)
      | some h => if l.length = 256 then ([], n + 1, 3) else if faultF (l ++ [h]) l.length 1 = 0 then parseGo f (l ++ [h]) (n + 1) (s.drop (ix 10 s + 1)) else ([], n + 1, faultF (l ++ [h]) l.length 1)
    else ([], n + 1, 5)
def parseF (s : List UInt8) : List PairD × Nat × Int := if 1048576 < s.length then ([], 0, 3) else parseGo (s.length + 1) [] 0 s
section
variable {s0 s : List UInt8} {f n : Nat} {l : List PairD}
theorem pg_end (h : parseF s0 = parseGo (f + 1) l n s) (hs : s = []) : parseF s0 = (l, 0, 0) := by rw [h]; unfold parseGo; rw [if_pos hs]
theorem pg_cut (h : parseF s0 = parseGo (f + 1) l n s) (hs : s ≠ []) (hc : ¬ ix 10 s < s.length) : parseF s0 = ([], n + 1, 5) := by rw [h]; unfold parseGo; rw [if_neg hs, if_neg hc]
theorem pg_line (h : parseF s0 = parseGo (f + 1) l n s) (hs : s ≠ []) (hc : ix 10 s < s.length) (hl : lineP (s.take (ix 10 s)) = none) : parseF s0 = ([], n + 1, 5) := by rw [h]; unfold parseGo; rw [if_neg hs, if_pos hc, hl]
theorem pg_full {x : PairD} (h : parseF s0 = parseGo (f + 1) l n s) (hs : s ≠ []) (hc : ix 10 s < s.length) (hl : lineP (s.take (ix 10 s)) = some x) (hf : l.length = 256) : parseF s0 = ([], n + 1, 3) := by rw [h]; unfold parseGo; rw [if_neg hs, if_pos hc, hl]; simp only; rw [if_pos hf]
theorem pg_fault {x : PairD} (h : parseF s0 = parseGo (f + 1) l n s) (hs : s ≠ []) (hc : ix 10 s < s.length) (hl : lineP (s.take (ix 10 s)) = some x) (hf : ¬ l.length = 256) (he : faultF (l ++ [x]) l.length 1 ≠ 0) : parseF s0 = ([], n + 1, faultF (l ++ [x]) l.length 1) := by
  rw [h]; unfold parseGo; rw [if_neg hs, if_pos hc, hl]; simp only; rw [if_neg hf, if_neg he]
theorem pg_next {x : PairD} (h : parseF s0 = parseGo (f + 1) l n s) (hs : s ≠ []) (hc : ix 10 s < s.length) (hl : lineP (s.take (ix 10 s)) = some x) (hf : ¬ l.length = 256) (he : faultF (l ++ [x]) l.length 1 = 0) : parseF s0 = parseGo f (l ++ [x]) (n + 1) (s.drop (ix 10 s + 1)) := by
  rw [h]
  conv => lhs; unfold parseGo
  rw [if_neg hs, if_pos hc, hl]; simp only; rw [if_neg hf, if_pos he]
end
theorem Seen.faultS {ps l : List PairD} {x : PairD} (h : Seen ps l) (least : Int) : oneF ps x least = faultF (l ++ [x]) l.length least :=
  Seen.fault (l := l ++ [x]) (by rw [List.take_left]; exact h) (by simp) least
theorem Seen.nextS {ps l : List PairD} {x : PairD} {least : Int} (h : Seen ps l) (he : oneF ps x least = 0) (hl : l.length < 4000) : Seen (putF ps x.key 0).1 (l ++ [x]) := h.put (oneF_key he) (by omega) 0
theorem cut_yes {c : UInt8} {s : List UInt8} (h : (Lib.cut s [c]).2.2 = true) : ix c s < s.length ∧ (Lib.cut s [c]).1 = s.take (ix c s) ∧ (Lib.cut s [c]).2.1 = s.drop (ix c s + 1) := by
  rw [cut_ix] at h ⊢
  by_cases hi : ix c s < s.length
  · rw [if_pos hi]; exact ⟨hi, rfl, rfl⟩
  · rw [if_neg hi] at h; cases h
theorem cut_no {c : UInt8} {s : List UInt8} (h : (Lib.cut s [c]).2.2 = false) : ¬ ix c s < s.length := by
  rw [cut_ix] at h
  intro hi
  rw [if_pos hi] at h; cases h
section
variable {s0 s : List UInt8} {f n : Nat} {l ps : List PairD} {b : Bool} {x : PairD}
theorem pgc_cut (h : parseF s0 = parseGo (f + 1) l n s) (hs : ¬ s = []) (hc : (Lib.cut s [10]).2.2 = false) : parseF s0 = ([], n + 1, 5) := pg_cut h hs (cut_no hc)
theorem pgc_line (h : parseF s0 = parseGo (f + 1) l n s) (hs : ¬ s = []) (hl : lineP (Lib.cut s [10]).1 = if b = true then some x else none) (hb : b = false) : parseF s0 = ([], n + 1, 5) := by
  cases hc : (Lib.cut s [10]).2.2 with
  | false => exact pgc_cut h hs hc
  | true =>
    obtain ⟨h1, h2, _⟩ := cut_yes hc
    rw [h2, hb] at hl
    exact pg_line h hs h1 hl
theorem pgc_full (h : parseF s0 = parseGo (f + 1) l n s) (hs : ¬ s = []) (hc : (Lib.cut s [10]).2.2 = true) (hl : lineP (Lib.cut s [10]).1 = if b = true then some x else none) (hb : b = true) (hf : l.length = 256) : parseF s0 = ([], n + 1, 3) := by
  obtain ⟨h1, h2, _⟩ := cut_yes hc
  rw [h2, hb] at hl
  exact pg_full h hs h1 hl hf
theorem pgc_fault (h : parseF s0 = parseGo (f + 1) l n s) (hs : ¬ s = []) (hc : (Lib.cut s [10]).2.2 = true) (hl : lineP (Lib.cut s [10]).1 = if b = true then some x else none) (hb : b = true) (hf : ¬ l.length = 256) (hS : Seen ps l) (he : oneF ps x 1 ≠ 0) : parseF s0 = ([], n + 1, oneF ps x 1) := by
  obtain ⟨h1, h2, _⟩ := cut_yes hc
  rw [h2, hb] at hl
  rw [hS.faultS] at he ⊢
  exact pg_fault h hs h1 hl hf he
theorem pgc_next (h : parseF s0 = parseGo (f + 1) l n s) (hs : ¬ s = []) (hc : (Lib.cut s [10]).2.2 = true) (hl : lineP (Lib.cut s [10]).1 = if b = true then some x else none) (hb : b = true) (hf : ¬ l.length = 256) (hS : Seen ps l) (he : oneF ps x 1 = 0) (hfu : s.length ≤ f) :
    parseF s0 = parseGo ((f - 1) + 1) (l ++ [x]) (n + 1) (Lib.cut s [10]).2.1 ∧ (Lib.cut s [10]).2.1.length ≤ f - 1 ∧ (Lib.cut s [10]).2.1.length < s.length := by
  obtain ⟨h1, h2, h3⟩ := cut_yes hc
  rw [h2, hb] at hl
  rw [hS.faultS] at he
  have e : f - 1 + 1 = f := by omega
  rw [h3, e, List.length_drop]
  exact ⟨pg_next h hs h1 hl hf he, by omega, by omega⟩
theorem pf_big (h : 1048576 < s.length) : parseF s = ([], 0, 3) := by unfold parseF; rw [if_pos h]
theorem pf_go (h : ¬ 1048576 < s.length) : parseF s = parseGo (s.length + 1) [] 0 s := by unfold parseF; rw [if_neg h]
end
/-! ### The reference's reader -/
theorem scan_step {c : UInt8} {r : List UInt8} {j : Nat} {B : UInt8} {z : Int} (h : ∀ (m : Nat) (b : UInt8), m < j → r[m]? = some b → b ≠ c) (hB : r[j]? = some B) (hc : nb c = z) (hn : ¬ nb B = z) : ∀ (m : Nat) (b : UInt8), m < j + 1 → r[m]? = some b → b ≠ c := by
  intro m b hm hb
  rcases Nat.lt_or_ge m j with h1 | h1
  · exact h m b h1 hb
  · have : m = j := by omega
    subst this
    rw [hB] at hb
    simp only [Option.some.injEq] at hb
    subst hb
    rintro rfl
    exact hn hc
theorem scan_ix {c : UInt8} {r : List UInt8} {j : Nat} (h : ∀ (m : Nat) (b : UInt8), m < j → r[m]? = some b → b ≠ c) (hj : j = r.length ∨ ∃ B, r[j]? = some B ∧ nb B = nb c) : ix c r = j := by
  refine ix_unique h ?_
  rcases hj with hj | ⟨B, hB, hn⟩
  · exact Or.inr hj
  · rw [nb_eq] at hn; subst hn; exact Or.inl hB
theorem scan_take {c : UInt8} {r : List UInt8} {j k : Nat} (h : ∀ (m : Nat) (b : UInt8), m < k → r[m]? = some b → b ≠ c) (hkj : k ≤ j) (hj : j ≤ r.length) (hk : k = j ∨ ∃ B, r[k]? = some B ∧ nb B = nb c) : ix c (r.take j) = k := by
  refine ix_unique (fun m b hm hb => ?_) ?_
  · rw [List.getElem?_take] at hb
    split at hb
    · exact h m b hm hb
    · cases hb
  · rcases Nat.lt_or_ge k j with hlt | hge
    · rcases hk with hk | ⟨B, hB, hn⟩
      · omega
      · rw [nb_eq] at hn; subst hn
        left; rw [List.getElem?_take, if_pos hlt]; exact hB
    · right; rw [List.length_take]; omega
section
variable {s0 r : List UInt8} {f n j k u1 u2 : Nat} {l : List PairD} {b1 b2 : Bool} {x : PairD}
theorem rline (hix : ix 32 (r.take j) = k) (hkj : k < j) (hj : j ≤ r.length) (h1 : numQ (r.take k) 18446744073709551615 = if b1 = true then some u1 else none) (h2 : numQ ((r.take j).drop (k + 1)) 9223372036854775807 = if b2 = true then some u2 else none) :
    lineP (r.take j) = if b1 = true then (if b2 = true then some ⟨(u1 : Int), (u2 : Int)⟩ else none) else none := by
  unfold lineP
  rw [hix, if_pos (by rw [List.length_take]; omega), List.take_take, Nat.min_eq_left (by omega), h1, h2]
  cases b1 <;> cases b2 <;> rfl
theorem rline_no (hix : ix 32 (r.take j) = k) (hkj : k = j) (hj : j ≤ r.length) : lineP (r.take j) = none := by
  unfold lineP
  rw [hix, if_neg (by rw [List.length_take]; omega)]
theorem pgr_cut (h : parseF s0 = parseGo (f + 1) l n r) (hne : 0 < r.length) (hix : ix 10 r = j) (hj : j = r.length) : parseF s0 = ([], n + 1, 5) :=
  pg_cut h (fun e => by rw [e] at hne; cases hne) (by omega)
theorem pgr_no (h : parseF s0 = parseGo (f + 1) l n r) (hne : 0 < r.length) (hix : ix 10 r = j) (hl : lineP (r.take j) = none) : parseF s0 = ([], n + 1, 5) := by
  have hn : r ≠ [] := fun e => by rw [e] at hne; cases hne
  by_cases hj : ix 10 r < r.length
  · exact pg_line h hn hj (by rw [hix]; exact hl)
  · exact pg_cut h hn hj
theorem pgr_full (h : parseF s0 = parseGo (f + 1) l n r) (hix : ix 10 r = j) (hj : j < r.length) (hl : lineP (r.take j) = some x) (hf : l.length = 256) : parseF s0 = ([], n + 1, 3) :=
  pg_full h (fun e => by rw [e] at hj; cases hj) (by omega) (by rw [hix]; exact hl) hf
theorem pgr_fault (h : parseF s0 = parseGo (f + 1) l n r) (hix : ix 10 r = j) (hj : j < r.length) (hl : lineP (r.take j) = some x) (hf : ¬ l.length = 256) (he : faultF (l ++ [x]) l.length 1 ≠ 0) : parseF s0 = ([], n + 1, faultF (l ++ [x]) l.length 1) :=
  pg_fault h (fun e => by rw [e] at hj; cases hj) (by omega) (by rw [hix]; exact hl) hf he
theorem pgr_next (h : parseF s0 = parseGo (f + 1) l n r) (hix : ix 10 r = j) (hj : j < r.length) (hl : lineP (r.take j) = some x) (hf : ¬ l.length = 256) (he : faultF (l ++ [x]) l.length 1 = 0) (hfu : r.length ≤ f) :
    parseF s0 = parseGo ((f - 1) + 1) (l ++ [x]) (n + 1) (r.drop (j + 1)) ∧ (r.drop (j + 1)).length ≤ f - 1 ∧ (r.drop (j + 1)).length < r.length := by
  have e : f - 1 + 1 = f := by omega
  rw [e, List.length_drop]
  have := pg_next h (fun e => by rw [e] at hj; cases hj) (by omega) (by rw [hix]; exact hl) hf he
  rw [hix] at this
  exact ⟨this, by omega, by omega⟩
theorem pgr_end (h : parseF s0 = parseGo (f + 1) l n r) (hr : ¬ 0 < r.length) : parseF s0 = (l, 0, 0) := pg_end h (List.eq_nil_of_length_eq_zero (by omega))
end
/-- The line, and the text, of heights. -/
def lineF (h : PairD) : List UInt8 := Lib.decDigits h.key.toNat ++ [32] ++ Lib.itoa h.v ++ [10]
def textF (l : List PairD) : List UInt8 := (l.map lineF).flatten
theorem textF_snoc {l : List PairD} {i : Nat} {x : PairD} (h : l[i]? = some x) : textF (l.take (i + 1)) = textF (l.take i) ++ lineF x := by
  unfold textF; rw [take_snoc h]; simp
theorem dec_len (u : Nat) (h : u < 18446744073709551616) : (Lib.decDigits u).length ≤ 20 := by
  rw [Lib.decDigits_length]
  rcases Nat.eq_zero_or_pos u with h0 | h0
  · subst h0; rw [Lib.nDigits_small (by decide)]; omega
  · have h1 := Lib.numDigits_eq u h0 h
    split at h1 <;> omega
theorem itoa_nn {n : Int} (h : 0 ≤ n) : Lib.itoa n = Lib.decDigits n.toNat := by unfold Lib.itoa; rw [if_neg (by omega)]
theorem itoa_len {n : Int} (h : inKind .i64 n) : (Lib.itoa n).length ≤ 21 := by
  obtain ⟨h1, h2⟩ : -9223372036854775808 ≤ n ∧ n ≤ 9223372036854775807 := h
  unfold Lib.itoa
  split
  · simp only [List.length_cons]; have := dec_len n.natAbs (by omega); omega
  · have := dec_len n.toNat (by omega); omega
theorem lineF_len {x : PairD} (hk : inKind .u64 x.key) (hv : inKind .i64 x.v) : (lineF x).length ≤ 43 := by
  obtain ⟨h1, h2⟩ : 0 ≤ x.key ∧ x.key ≤ 18446744073709551615 := hk
  have := dec_len x.key.toNat (by omega)
  have := itoa_len hv
  simp only [lineF, List.length_append, List.length_cons, List.length_nil]; omega
theorem textF_len {l : List PairD} {i : Nat} {x : PairD} (h : (textF (l.take i)).length ≤ 43 * i) (hx : l[i]? = some x) (hk : inKind .u64 x.key) (hv : inKind .i64 x.v) : (textF (l.take (i + 1))).length ≤ 43 * (i + 1) := by
  rw [textF_snoc hx, List.length_append]
  have := lineF_len hk hv
  omega
end Go.Proofs.YtokeofoemjeleaaDoor
