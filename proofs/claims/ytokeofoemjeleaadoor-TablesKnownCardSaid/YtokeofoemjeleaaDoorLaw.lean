/- The plain laws of the tables. -/
import Derived.Test.YtokeofoemjeleaaDoorSrt
namespace Go.Proofs.YtokeofoemjeleaaDoor
open Go Go.Y

theorem ix_split {c : UInt8} {s : List UInt8} (h : ix c s < s.length) : s = s.take (ix c s) ++ c :: s.drop (ix c s + 1) := by
  conv => lhs; rw [← List.take_append_drop (ix c s) s]
  rw [gq_drop (ix_at c s h)]
theorem ix_app {c : UInt8} : ∀ {d e : List UInt8}, c ∉ d → ix c (d ++ c :: e) = d.length
  | [], e, _ => by simp [ix]
  | b :: d, e, h => by
    simp only [List.cons_append, List.length_cons]
    unfold ix
    rw [if_neg (fun hb => h (by rw [hb]; simp)), ix_app (fun hd => h (by simp [hd]))]
theorem line_inv {s : List UInt8} {h : PairD} (hl : lineP s = some h) : s ++ [10] = lineF h := by
  unfold lineP at hl
  split at hl
  · rename_i hi
    cases h1 : numQ (s.take (ix 32 s)) 18446744073709551615 with
    | none => rw [h1] at hl; cases hl
    | some k =>
      cases h2 : numQ (s.drop (ix 32 s + 1)) 9223372036854775807 with
      | none => rw [h1, h2] at hl; cases hl
      | some v =>
        rw [h1, h2] at hl
        simp only [Option.some.injEq] at hl
        subst hl
        have e1 := numQ_inv (by omega) h1
        have e2 := numQ_inv (by omega) h2
        unfold lineF
        rw [itoa_nn (Int.natCast_nonneg v)]
        simp only [Int.toNat_natCast]
        rw [← e1, ← e2]
        conv => lhs; rw [ix_split hi]
        simp
  · cases hl
theorem line_fwd {h : PairD} (hk : 0 ≤ h.key ∧ h.key ≤ 18446744073709551615) (hv : 0 ≤ h.v ∧ h.v ≤ 9223372036854775807) : lineP (Lib.decDigits h.key.toNat ++ 32 :: Lib.decDigits h.v.toNat) = some h := by
  have hn : (32 : UInt8) ∉ Lib.decDigits h.key.toNat := fun hm => by
    have := dec_dig _ _ hm
    obtain ⟨h1, _⟩ := this
    exact absurd h1 (by decide)
  have hi := ix_app (e := Lib.decDigits h.v.toNat) hn
  unfold lineP
  rw [hi, if_pos (by simp)]
  have e1 : (Lib.decDigits h.key.toNat ++ 32 :: Lib.decDigits h.v.toNat).take (Lib.decDigits h.key.toNat).length = Lib.decDigits h.key.toNat := by simp
  have e2 : (Lib.decDigits h.key.toNat ++ 32 :: Lib.decDigits h.v.toNat).drop ((Lib.decDigits h.key.toNat).length + 1) = Lib.decDigits h.v.toNat := by
    rw [← List.drop_drop]; simp
  rw [e1, e2, numQ_dec (by omega) (by omega), numQ_dec (by omega) (by omega)]
  simp only [Option.some.injEq]
  obtain ⟨k, v⟩ := h
  simp only [PairD.mk.injEq]
  exact ⟨Int.toNat_of_nonneg hk.1, Int.toNat_of_nonneg hv.1⟩
theorem fault_app {l : List PairD} {x : PairD} {i : Nat} {least : Int} (h : i < l.length) : faultF (l ++ [x]) i least = faultF l i least := by
  unfold faultF
  rw [List.getElem?_append_left h, List.take_append_of_le_length (by omega)]
def AllOk (l : List PairD) : Prop := l.length ≤ 256 ∧ ∀ i, i < l.length → faultF l i 1 = 0
theorem AllOk.snoc {l : List PairD} {x : PairD} (h : AllOk l) (hl : ¬ l.length = 256) (hf : faultF (l ++ [x]) l.length 1 = 0) : AllOk (l ++ [x]) := by
  refine ⟨by have := h.1; simp; omega, fun i hi => ?_⟩
  simp only [List.length_append, List.length_cons, List.length_nil] at hi
  rcases Nat.lt_or_ge i l.length with h1 | h1
  · rw [fault_app h1]; exact h.2 i h1
  · have : i = l.length := by omega
    subst this; exact hf
theorem AllOk.check {l : List PairD} (h : AllOk l) : checkF l 1 = (0, 0) := by
  have := h.1
  rw [checkF_ff (by omega) (by omega)]
  exact ff_of _ _ (fun m _ hm => h.2 m (by omega))
theorem textF_app (l : List PairD) (x : PairD) : textF (l ++ [x]) = textF l ++ lineF x := by unfold textF; simp
theorem pg_inv : ∀ (f : Nat) (l : List PairD) (n : Nat) (s : List UInt8) (L : List PairD) (a : Nat), parseGo f l n s = (L, a, 0) → s.length < f → AllOk l → textF L = textF l ++ s ∧ AllOk L
  | 0, _, _, _, _, _, _, h, _ => absurd h (by omega)
  | f + 1, l, n, s, L, a, hp, hf, hA => by
    unfold parseGo at hp
    split at hp
    · rename_i hs
      simp only [Prod.mk.injEq] at hp
      obtain ⟨rfl, _⟩ := hp
      subst hs
      exact ⟨by simp, hA⟩
    · split at hp
      · rename_i hi
        cases hl : lineP (s.take (ix 10 s)) with
        | none => rw [hl] at hp; simp at hp
        | some h =>
          rw [hl] at hp
          simp only at hp
          split at hp
          · simp at hp
          · rename_i h256
            split at hp
            · rename_i hz
              obtain ⟨e1, e2⟩ := pg_inv f _ _ _ _ _ hp (by rw [List.length_drop]; omega) (hA.snoc h256 hz)
              refine ⟨?_, e2⟩
              rw [e1, textF_app, ← line_inv hl]
              conv => rhs; rw [ix_split hi]
              simp
            · rename_i hz
              simp only [Prod.mk.injEq] at hp
              exact absurd hp.2.2 hz
      · simp at hp
theorem AllOk.nil : AllOk [] := ⟨by simp, fun i h => by simp at h⟩
/-- What was parsed without an error. -/
theorem parse_ok {s : List UInt8} (h : (parseF s).2.2 = 0) : (if (checkF (parseF s).1 1).2 = 0 then textF (parseF s).1 else []) = s ∧ (checkF (parseF s).1 1).2 = 0 := by
  by_cases hb : 1048576 < s.length
  · rw [pf_big hb] at h; cases h
  · have hg := pf_go hb
    obtain ⟨L, a, e⟩ : ∃ L a, parseGo (s.length + 1) [] 0 s = (L, a, 0) := ⟨(parseF s).1, (parseF s).2.1, by rw [hg] at h ⊢; rw [← h]⟩
    obtain ⟨e1, e2⟩ := pg_inv _ _ _ _ _ _ e (by omega) AllOk.nil
    rw [hg, e]
    simp only [e2.check, if_true]
    exact ⟨by rw [e1]; rfl, trivial⟩
theorem parse_len {s : List UInt8} : (parseF s).1.length ≤ 256 := by
  by_cases h : (parseF s).2.2 = 0
  · have := (parse_ok h).2
    exact (tok_of this).len
  · by_cases hb : 1048576 < s.length
    · rw [pf_big hb]; simp
    · rw [pf_go hb] at h ⊢
      have key : ∀ (f : Nat) (l : List PairD) (n : Nat) (s : List UInt8), (parseGo f l n s).2.2 ≠ 0 → (parseGo f l n s).1 = [] := by
        intro f
        induction f with
        | zero => intro l n s h; exact absurd rfl h
        | succ f ih =>
          intro l n s h
          unfold parseGo at h ⊢
          split at h
          · exact absurd rfl h
          · rename_i hs
            rw [if_neg hs]
            split at h
            · rename_i hi
              rw [if_pos hi]
              cases hl : lineP (s.take (ix 10 s)) with
              | none => rfl
              | some x =>
                rw [hl] at h
                simp only at h ⊢
                split at h
                · rename_i h2; rw [if_pos h2]
                · rename_i h2
                  rw [if_neg h2]
                  split at h
                  · rename_i h3; rw [if_pos h3]; exact ih _ _ _ h
                  · rename_i h3; rw [if_neg h3]
            · rename_i hi; rw [if_neg hi]
      rw [key _ _ _ _ h]; simp
/-- The text of a table is read as the table again. -/
theorem fault_tok {l p r : List PairD} {h : PairD} {least : Int} (T : TOk l least) (e : l = p ++ h :: r) : faultF (p ++ [h]) p.length least = 0 := by
  have hX : l[p.length]? = some h := by rw [e]; simp
  obtain ⟨a1, a2, a3, a4⟩ := T.ok _ _ hX
  unfold faultF
  have e1 : (p ++ [h])[p.length]? = some h := by simp
  simp only [e1]
  rw [if_neg a1, if_neg (by omega), if_neg ?_]
  rw [Bool.not_eq_true, List.take_left, List.any_eq_false]
  intro y hy
  obtain ⟨m, hm⟩ := List.mem_iff_getElem?.1 hy
  have hlt := lt_of_get hm
  have := a4 m y hlt (by rw [e, List.getElem?_append_left hlt]; exact hm)
  simpa using this
theorem pg_text {l : List PairD} (T : TOk l 1) (hk : ∀ x ∈ l, inKind .u64 x.key) : ∀ (r p : List PairD) (n f : Nat), l = p ++ r → (textF r).length < f → parseGo f p n (textF r) = (l, 0, 0)
  | [], p, n, f, e, hf => by
    obtain ⟨f, rfl⟩ : ∃ q, f = q + 1 := ⟨f - 1, by omega⟩
    have : textF [] = [] := rfl
    rw [this]
    unfold parseGo
    rw [if_pos rfl, e]; simp
  | h :: r, p, n, f, e, hf => by
    obtain ⟨f, rfl⟩ : ∃ q, f = q + 1 := ⟨f - 1, by omega⟩
    have hX : l[p.length]? = some h := by rw [e]; simp
    obtain ⟨a1, a2, a3, a4⟩ := T.ok _ _ hX
    obtain ⟨k0, k1⟩ : 0 ≤ h.key ∧ h.key ≤ 18446744073709551615 := hk h (List.mem_of_getElem? hX)
    have et : textF (h :: r) = (Lib.decDigits h.key.toNat ++ 32 :: Lib.decDigits h.v.toNat) ++ 10 :: textF r := by
      show lineF h ++ textF r = _
      unfold lineF
      rw [itoa_nn (by omega)]
      simp
    have hn : (10 : UInt8) ∉ (Lib.decDigits h.key.toNat ++ 32 :: Lib.decDigits h.v.toNat) := by
      intro hm
      rcases List.mem_append.1 hm with hm | hm
      · exact absurd (dec_dig _ _ hm).1 (by decide)
      · rcases List.mem_cons.1 hm with hm | hm
        · exact absurd hm (by decide)
        · exact absurd (dec_dig _ _ hm).1 (by decide)
    have hi := ix_app (e := textF r) hn
    have hlen : p.length + (r.length + 1) = l.length := by rw [e]; simp
    have hT := T.len
    rw [et] at hf ⊢
    simp only [List.length_append, List.length_cons] at hf
    unfold parseGo
    rw [if_neg (by simp), hi, if_pos (by simp)]
    have e1 : ((Lib.decDigits h.key.toNat ++ 32 :: Lib.decDigits h.v.toNat) ++ 10 :: textF r).take (Lib.decDigits h.key.toNat ++ 32 :: Lib.decDigits h.v.toNat).length = Lib.decDigits h.key.toNat ++ 32 :: Lib.decDigits h.v.toNat := List.take_left
    have e2 : ((Lib.decDigits h.key.toNat ++ 32 :: Lib.decDigits h.v.toNat) ++ 10 :: textF r).drop ((Lib.decDigits h.key.toNat ++ 32 :: Lib.decDigits h.v.toNat).length + 1) = textF r := by
      rw [← List.drop_drop, List.drop_left]; rfl
    rw [e1, e2, line_fwd ⟨k0, k1⟩ ⟨by omega, by omega⟩]
    simp only
    rw [if_neg (by omega), if_pos (fault_tok T e)]
    exact pg_text T hk r (p ++ [h]) _ f (by rw [e]; simp) (by omega)
theorem textF_le {l : List PairD} (hk : ∀ x ∈ l, inKind .u64 x.key ∧ inKind .i64 x.v) : (textF l).length ≤ 43 * l.length := by
  induction l with
  | nil => simp [textF]
  | cons x l ih =>
    have h1 := ih (fun y hy => hk y (by simp [hy]))
    have h2 := lineF_len (hk x (by simp)).1 (hk x (by simp)).2
    have : textF (x :: l) = lineF x ++ textF l := rfl
    rw [this, List.length_append, List.length_cons]
    omega
theorem parse_textF {l : List PairD} (T : TOk l 1) (hk : ∀ x ∈ l, inKind .u64 x.key ∧ inKind .i64 x.v) : parseF (textF l) = (l, 0, 0) := by
  have h1 := textF_le hk
  have h2 := T.len
  rw [pf_go (by omega)]
  exact pg_text T (fun x hx => (hk x hx).1) l [] 0 _ rfl (by omega)
theorem hs_kinds {G : Ghost} {ad : Option Addr} {c : Nat} {xs : List PairD} (S : RdSl rdPair 2 G (.slice ad xs.length c) xs) : ∀ x ∈ xs, inKind .u64 x.key ∧ inKind .i64 x.v := by
  intro x hx
  obtain ⟨i, hi⟩ := List.mem_iff_getElem?.1 hx
  obtain ⟨_, _, _, _, _, _, ⟨_, h1, h2⟩⟩ := S.at hi
  exact ⟨h1, h2⟩
theorem mergeF_len (a b : List PairD) : (mergeF a b).length ≤ a.length + b.length := by
  have := List.length_filter_le (fun y => !(a.any (keyIs y.key))) b
  simp only [mergeF, List.length_append, List.length_map]; omega
theorem mergeE_40 {a b : List PairD} {least : Int} (ha : a.length ≤ 100) (hb : b.length ≤ 100) (h0 : (checkF a least).2 = 0) : mergeE a b least = (checkF b least).2 := by
  have := mergeF_len a b
  by_cases h : (checkF b least).2 = 0
  · rw [mergeE_0 h0 h (by omega), h]
  · rw [mergeE_b h0 h]
theorem mergeR_nil {a b : List PairD} {least : Int} (h : mergeE a b least ≠ 0) : mergeR a b least = [] := by unfold mergeR; rw [if_neg h]
theorem mergeR_le (a b : List PairD) (least : Int) : (mergeR a b least).length ≤ a.length + b.length := by
  unfold mergeR
  split
  · exact mergeF_len a b
  · simp
/-! ### The table of two -/
theorem map_key (b : List PairD) (x : PairD) : ((b.find? (keyIs x.key)).getD x).key = x.key := by
  cases h : b.find? (keyIs x.key) with
  | none => rfl
  | some y =>
    have := List.find?_some h
    simpa [keyIs] using this
theorem getD_in {b : List PairD} {x : PairD} : (b.find? (keyIs x.key)).getD x = x ∨ (b.find? (keyIs x.key)).getD x ∈ b := by
  cases h : b.find? (keyIs x.key) with
  | none => exact Or.inl rfl
  | some y => exact Or.inr (List.mem_of_find?_eq_some h)
theorem VT.merge {a b : List PairD} (ha : VT a) (hb : VT b) : VT (mergeF a b) := by
  refine ⟨fun x hx => ?_, ?_⟩
  · rcases List.mem_append.1 hx with hx | hx
    · obtain ⟨y, hy, rfl⟩ := List.mem_map.1 hx
      rcases getD_in (b := b) (x := y) with h | h
      · rw [h]; exact ha.rng y hy
      · exact hb.rng _ h
    · exact hb.rng x (List.mem_filter.1 hx).1
  · unfold mergeF
    rw [List.pairwise_append]
    refine ⟨?_, hb.pw.filter _, fun x hx y hy => ?_⟩
    · rw [List.pairwise_map]
      refine ha.pw.imp fun {p q} h => ?_
      rw [map_key, map_key]; exact h
    · obtain ⟨z, hz, rfl⟩ := List.mem_map.1 hx
      rw [map_key]
      intro e
      have h2 := (List.mem_filter.1 hy).2
      have h3 : a.any (keyIs y.key) = true := by
        rw [List.any_eq_true]
        exact ⟨z, hz, by simpa [keyIs] using e⟩
      rw [h3] at h2
      cases h2
theorem mergeVT {a b : List PairD} (ha : VT a) (hla : a.length ≤ 100) (hb : VT b) (hlb : b.length ≤ 100) : mergeR a b 1 = mergeF a b ∧ mergeE a b 1 = 0 := by
  have h1 := (ha.tok (by omega)).check
  have h2 := (hb.tok (by omega)).check
  have h3 : mergeE a b 1 = 0 := by rw [mergeE_40 hla hlb (by rw [h1]), h2]
  exact ⟨by unfold mergeR; rw [if_pos h3], h3⟩
theorem mergeVT_check {a b : List PairD} (ha : VT a) (hla : a.length ≤ 100) (hb : VT b) (hlb : b.length ≤ 100) : checkF (mergeF a b) 1 = (0, 0) := by
  have := mergeF_len a b
  exact ((ha.merge hb).tok (by omega)).check
theorem mergeF_self {a : List PairD} (ha : VT a) : mergeF a a = a := by
  unfold mergeF
  have h1 : a.map (fun x => (a.find? (keyIs x.key)).getD x) = a := by
    conv => rhs; rw [← List.map_id a]
    apply List.map_congr_left
    intro x hx
    obtain ⟨i, hi⟩ := List.mem_iff_getElem?.1 hx
    rw [find_at hi rfl (fun m Y hm hY e => ?_)]
    · rfl
    · have hlt := lt_of_get hi
      have hp := List.pairwise_iff_getElem.1 ha.pw m i (by omega) hlt hm
      rw [List.getElem?_eq_getElem hlt] at hi
      rw [List.getElem?_eq_getElem (by omega)] at hY
      simp only [Option.some.injEq] at hi hY
      rw [hi, hY] at hp
      exact hp e
  have h2 : a.filter (fun y => !(a.any (keyIs y.key))) = [] := by
    rw [List.filter_eq_nil_iff]
    intro y hy
    have : a.any (keyIs y.key) = true := by
      rw [List.any_eq_true]
      exact ⟨y, hy, by simp [keyIs]⟩
    simp [this]
  rw [h1, h2, List.append_nil]
theorem mergeVT_self {a : List PairD} (ha : VT a) (hla : a.length ≤ 100) : mergeR a a 1 = a ∧ mergeE a a 1 = 0 := by
  obtain ⟨h1, h2⟩ := mergeVT ha hla ha hla
  exact ⟨h1.trans (mergeF_self ha), h2⟩
theorem find_map {a b : List PairD} {k : Int} : (a.map (fun x => (b.find? (keyIs x.key)).getD x)).find? (keyIs k) = (a.find? (keyIs k)).map (fun x => (b.find? (keyIs k)).getD x) := by
  induction a with
  | nil => rfl
  | cons x a ih =>
    rw [List.map_cons, List.find?_cons, List.find?_cons]
    have hk : keyIs k ((b.find? (keyIs x.key)).getD x) = keyIs k x := by
      show decide (((b.find? (keyIs x.key)).getD x).key = k) = decide (x.key = k)
      rw [map_key]
    rw [hk]
    cases hx : keyIs k x with
    | false => exact ih
    | true =>
      have : x.key = k := by simpa [keyIs] using hx
      rw [this]; rfl
theorem findV_merge {a b : List PairD} {k : Int} (_ : VT a) : findV (mergeF a b) k = if (findV b k).2 = true then findV b k else findV a k := by
  unfold findV mergeF
  rw [List.find?_append, find_map]
  cases ha : a.find? (keyIs k) with
  | some x =>
    cases hb : b.find? (keyIs k) with
    | some y => rfl
    | none => rfl
  | none =>
    have hno : ∀ x ∈ a, x.key ≠ k := by
      intro x hx e
      have := List.find?_eq_none.1 ha x hx
      simp [keyIs, e] at this
    have hf : (b.filter (fun y => !(a.any (keyIs y.key)))).find? (keyIs k) = b.find? (keyIs k) := by
      rw [List.find?_filter]
      congr 1
      funext y
      cases hy : keyIs k y with
      | false => simp
      | true =>
        have e : y.key = k := by simpa [keyIs] using hy
        have : a.any (keyIs y.key) = false := by
          rw [List.any_eq_false]
          intro x hx
          simpa [keyIs, e] using hno x hx
        simp [this]
    rw [hf]
    cases hb : b.find? (keyIs k) with
    | some y => rfl
    | none => rfl
end Go.Proofs.YtokeofoemjeleaaDoor
