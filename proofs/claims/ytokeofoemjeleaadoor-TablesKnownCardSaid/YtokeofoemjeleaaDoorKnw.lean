/- The plain theory of the law Known: heights one after the other, texts with a rest, great numbers. -/
import Derived.Test.YtokeofoemjeleaaDoorLaw
namespace Go.Proofs.YtokeofoemjeleaaDoor
open Go Go.Y

/-- The heights (1, 1) to (n, n). -/
def hh (n : Nat) : List PairD := (List.range n).map (fun i => ⟨((i + 1 : Nat) : Int), ((i + 1 : Nat) : Int)⟩)
theorem hh_len (n : Nat) : (hh n).length = n := by simp [hh]
theorem hh_snoc (n : Nat) : hh (n + 1) = hh n ++ [⟨((n + 1 : Nat) : Int), ((n + 1 : Nat) : Int)⟩] := by
  unfold hh; rw [List.range_succ, List.map_append]; rfl
/-- Keys and sizes that count up from a number. -/
def Run (c : Nat) (l : List PairD) : Prop := ∀ (i : Nat) (X : PairD), l[i]? = some X → X.key = ((i + c : Nat) : Int) ∧ X.v = ((i + c : Nat) : Int)
theorem run_hh (n : Nat) : Run 1 (hh n) := by
  intro i X h
  have hi := lt_of_get h
  rw [hh_len] at hi
  unfold hh at h
  rw [List.getElem?_map, List.getElem?_range hi] at h
  simp only [Option.map_some, Option.some.injEq] at h
  subst h
  exact ⟨rfl, rfl⟩
theorem Run.take {c : Nat} {l : List PairD} (h : Run c l) (k : Nat) : Run c (l.take k) := by
  intro i X hX
  rw [List.getElem?_take] at hX
  split at hX
  · exact h i X hX
  · cases hX
theorem Run.drop {c : Nat} {l : List PairD} (h : Run c l) (k : Nat) : Run (k + c) (l.drop k) := by
  intro i X hX
  rw [List.getElem?_drop] at hX
  have := h _ _ hX
  rw [show i + (k + c) = k + i + c by omega]
  exact this
theorem Run.tok {c : Nat} {l : List PairD} {least : Int} (h : Run c l) (hc : 1 ≤ c) (hc2 : c ≤ 1000) (hl : l.length ≤ 256) (h1 : 1 ≤ least) (h2 : least ≤ (c : Int)) : TOk l least := by
  refine ⟨by omega, hl, fun i x hx => ?_⟩
  obtain ⟨e1, e2⟩ := h _ _ hx
  have hi := lt_of_get hx
  refine ⟨by omega, by omega, by omega, fun m Y hm hY e => ?_⟩
  obtain ⟨e3, _⟩ := h _ _ hY
  omega
theorem Run.kinds {c : Nat} {l : List PairD} (h : Run c l) (hc2 : c ≤ 1000) (hl : l.length ≤ 1000) : ∀ x ∈ l, inKind .u64 x.key ∧ inKind .i64 x.v := by
  intro x hx
  obtain ⟨i, hi⟩ := List.mem_iff_getElem?.1 hx
  obtain ⟨e1, e2⟩ := h _ _ hi
  have := lt_of_get hi
  exact ⟨in_u64 (by omega) (by omega), in_i64 (by omega) (by omega)⟩
theorem run_merge {a b : List PairD} {c : Nat} (ha : Run 1 a) (hb : Run c b) (hc : 1 ≤ c) (hm : c ≤ a.length + 1) : (mergeF a b).length = a.length + (b.length - (a.length + 1 - c)) := by
  unfold mergeF
  rw [List.length_append, List.length_map]
  congr 1
  generalize hk : a.length + 1 - c = k
  have e1 : (b.take k).filter (fun y => !(a.any (keyIs y.key))) = [] := by
    rw [List.filter_eq_nil_iff]
    intro y hy
    obtain ⟨i, hi⟩ := List.mem_iff_getElem?.1 hy
    have hlt := lt_of_get hi
    rw [List.length_take] at hlt
    obtain ⟨q1, _⟩ := (hb.take k) _ _ hi
    have : a.any (keyIs y.key) = true := by
      rw [List.any_eq_true]
      obtain ⟨Z, hZ⟩ := get_of_lt (xs := a) (i := i + c - 1) (by omega)
      refine ⟨Z, List.mem_of_getElem? hZ, ?_⟩
      have := (ha _ _ hZ).1
      simp only [keyIs, decide_eq_true_eq]
      omega
    simp [this]
  have e2 : (b.drop k).filter (fun y => !(a.any (keyIs y.key))) = b.drop k := by
    rw [List.filter_eq_self]
    intro y hy
    obtain ⟨i, hi⟩ := List.mem_iff_getElem?.1 hy
    obtain ⟨q1, _⟩ := (hb.drop k) _ _ hi
    have : a.any (keyIs y.key) = false := by
      rw [List.any_eq_false]
      intro x hx
      obtain ⟨j, hj⟩ := List.mem_iff_getElem?.1 hx
      have := (ha _ _ hj).1
      have := lt_of_get hj
      simp only [keyIs, decide_eq_true_eq]
      omega
    simp [this]
  conv => lhs; rw [← List.take_append_drop k b]
  rw [List.filter_append, e1, e2, List.nil_append, List.length_drop]
/-! ### A text of a table with a rest -/
theorem pg_rest {l : List PairD} (T : TOk l 1) (hk : ∀ x ∈ l, inKind .u64 x.key) (z : List UInt8) : ∀ (r p : List PairD) (n f : Nat), l = p ++ r → (textF r ++ z).length < f → ∃ g, z.length ≤ g ∧ parseGo f p n (textF r ++ z) = parseGo (g + 1) l (n + r.length) z
  | [], p, n, f, e, hf => by
    obtain ⟨f, rfl⟩ : ∃ q, f = q + 1 := ⟨f - 1, by omega⟩
    have h0 : textF [] = [] := rfl
    rw [h0, List.nil_append] at hf ⊢
    exact ⟨f, by omega, by rw [e]; simp⟩
  | h :: r, p, n, f, e, hf => by
    obtain ⟨f, rfl⟩ : ∃ q, f = q + 1 := ⟨f - 1, by omega⟩
    have hX : l[p.length]? = some h := by rw [e]; simp
    obtain ⟨a1, a2, a3, a4⟩ := T.ok _ _ hX
    obtain ⟨k0, k1⟩ : 0 ≤ h.key ∧ h.key ≤ 18446744073709551615 := hk h (List.mem_of_getElem? hX)
    have et : textF (h :: r) ++ z = (Lib.decDigits h.key.toNat ++ 32 :: Lib.decDigits h.v.toNat) ++ 10 :: (textF r ++ z) := by
      show lineF h ++ textF r ++ z = _
      unfold lineF
      rw [itoa_nn (by omega)]
      simp
    have hn : (10 : UInt8) ∉ (Lib.decDigits h.key.toNat ++ 32 :: Lib.decDigits h.v.toNat) := by
      intro hm
      rcases List.mem_append.1 hm with hm | hm
      · exact absurd (dec_dig _ _ hm).1 (by decide)
      · rcases List.mem_cons.1 hm with hm | hm
        · exact absurd hm (by decide)
        · exact absurd (dec_dig _ _ hm).1 (by decide)
    have hi := ix_app (e := textF r ++ z) hn
    have hlen : p.length + (r.length + 1) = l.length := by rw [e]; simp
    have hT := T.len
    rw [et] at hf ⊢
    rw [List.length_append, List.length_cons] at hf
    have e1 : ((Lib.decDigits h.key.toNat ++ 32 :: Lib.decDigits h.v.toNat) ++ 10 :: (textF r ++ z)).take (Lib.decDigits h.key.toNat ++ 32 :: Lib.decDigits h.v.toNat).length = Lib.decDigits h.key.toNat ++ 32 :: Lib.decDigits h.v.toNat := List.take_left
    have e2 : ((Lib.decDigits h.key.toNat ++ 32 :: Lib.decDigits h.v.toNat) ++ 10 :: (textF r ++ z)).drop ((Lib.decDigits h.key.toNat ++ 32 :: Lib.decDigits h.v.toNat).length + 1) = textF r ++ z := by
      rw [← List.drop_drop, List.drop_left]; rfl
    obtain ⟨g, hg, eg⟩ := pg_rest T hk z r (p ++ [h]) (n + 1) f (by rw [e]; simp) (by omega)
    refine ⟨g, hg, ?_⟩
    rw [show n + (h :: r).length = n + 1 + r.length by rw [List.length_cons]; omega, ← eg]
    conv => lhs; unfold parseGo
    rw [if_neg (by simp), hi, if_pos (by simp), e1, e2, line_fwd ⟨k0, k1⟩ ⟨by omega, by omega⟩]
    simp only
    rw [if_neg (by omega), if_pos (fault_tok T e)]
theorem parse_rest {l : List PairD} (T : TOk l 1) (hk : ∀ x ∈ l, inKind .u64 x.key ∧ inKind .i64 x.v) (z : List UInt8) (hz : z.length ≤ 100) : ∃ g, parseF (textF l ++ z) = parseGo (g + 1) l l.length z := by
  have h1 := textF_le hk
  have h2 := T.len
  have h3 : (textF l ++ z).length ≤ 43 * 256 + 100 := by rw [List.length_append]; omega
  rw [pf_go (by omega)]
  obtain ⟨g, _, h⟩ := pg_rest T (fun x hx => (hk x hx).1) z l [] 0 _ rfl (Nat.lt_succ_self _)
  exact ⟨g, by rw [h, Nat.zero_add]⟩
theorem rest_full {l : List PairD} {x : PairD} {z : List UInt8} (T : TOk l 1) (hk : ∀ x ∈ l, inKind .u64 x.key ∧ inKind .i64 x.v) (hz : z.length ≤ 100) (hs : z ≠ []) (hc : ix 10 z < z.length) (hl : lineP (z.take (ix 10 z)) = some x) (hf : l.length = 256) : parseF (textF l ++ z) = ([], 257, 3) := by
  obtain ⟨g, h⟩ := parse_rest T hk z hz
  rw [pg_full h hs hc hl hf, hf]
theorem rest_no {l : List PairD} {z : List UInt8} (T : TOk l 1) (hk : ∀ x ∈ l, inKind .u64 x.key ∧ inKind .i64 x.v) (hz : z.length ≤ 100) (hs : z ≠ []) (hc : ix 10 z < z.length) (hl : lineP (z.take (ix 10 z)) = none) (hf : l.length = 256) : parseF (textF l ++ z) = ([], 257, 5) := by
  obtain ⟨g, h⟩ := parse_rest T hk z hz
  rw [pg_line h hs hc hl, hf]
/-- The first ones of a slice, with no more capacity. -/
theorem _root_.Go.Y.RdSl.head3 {α : Type} {rd : Rd α} {sz : Nat} {G : Ghost} {ad : Option Addr} {n c : Nat} {xs : List α} (S : RdSl rd sz G (.slice ad n c) xs) (h : Nat) (h1 : h ≤ xs.length) (h0 : 0 < h) :
    RdSl rd sz G (.slice ad (xs.take h).length (xs.take h).length) (xs.take h) := by
  obtain ⟨a', c', e1, e2, e3, e4⟩ := S
  simp only [Value.slice.injEq] at e1
  obtain ⟨rfl, rfl, rfl⟩ := e1
  have hl : (xs.take h).length = h := by rw [List.length_take]; omega
  refine ⟨_, _, rfl, Nat.le_refl _, by omega, ?_⟩
  rcases e4 with ⟨_, rfl⟩ | ⟨b, o, h5, h6⟩
  · simp at h1; omega
  · refine Or.inr ⟨b, o, h5, fun i x hx => h6 i x ?_⟩
    rw [List.getElem?_take] at hx
    split at hx
    · exact hx
    · cases hx
/-! ### The examples -/
theorem kn_c3 : checkF (hh 257) 1 = (0, 3) := checkF_long (by omega) (by rw [hh_len]; omega)
theorem kn_len : ((hh 257).take 256).length = 256 := by rw [List.length_take, hh_len]; rfl
theorem kn_run : Run 1 ((hh 257).take 256) := (run_hh 257).take 256
theorem kn_tok : TOk ((hh 257).take 256) 1 := kn_run.tok (by omega) (by omega) (by rw [kn_len]; omega) (by omega) (by omega)
theorem kn_kinds : ∀ x ∈ (hh 257).take 256, inKind .u64 x.key ∧ inKind .i64 x.v := kn_run.kinds (by omega) (by rw [kn_len]; omega)
theorem kn_c0 : checkF ((hh 257).take 256) 1 = (0, 0) := kn_tok.check
theorem kn_c200 : checkF ((hh 257).take 256) 200 = (0, 12) := by
  rw [checkF_ff (by omega) (by rw [kn_len]; omega), kn_len]
  obtain ⟨X, hX⟩ := get_of_lt (xs := (hh 257).take 256) (i := 0) (by rw [kn_len]; omega)
  obtain ⟨e1, e2⟩ := kn_run _ _ hX
  have hf : faultF ((hh 257).take 256) 0 200 = 12 := by
    unfold faultF
    simp only [hX]
    rw [if_neg (by omega), if_pos (by omega)]
  show (if faultF ((hh 257).take 256) 0 200 = 0 then _ else (0, faultF ((hh 257).take 256) 0 200)) = _
  rw [hf, if_neg (by decide)]
theorem kn_p0 : parseF (textF ((hh 257).take 256)) = ((hh 257).take 256, 0, 0) := parse_textF kn_tok kn_kinds
theorem kn_tlen : (textF ((hh 257).take 256)).length ≤ 11008 := by have := textF_le kn_kinds; rw [kn_len] at this; omega
theorem kn_p1 : parseF (textF ((hh 257).take 256) ++ [50, 53, 55, 32, 49, 10]) = ([], 257, 3) := rest_full (x := ⟨257, 1⟩) kn_tok kn_kinds (by decide) (by decide) (by decide) (by kernel_rfl) kn_len
theorem kn_p2 : parseF (textF ((hh 257).take 256) ++ [49, 32, 49, 32, 49, 10]) = ([], 257, 5) := rest_no kn_tok kn_kinds (by decide) (by decide) (by decide) (by kernel_rfl) kn_len
theorem kn_p3 : parseF (textF ((hh 257).take 256) ++ [49, 32, 49, 10]) = ([], 257, 3) := rest_full (x := ⟨1, 1⟩) kn_tok kn_kinds (by decide) (by decide) (by decide) (by kernel_rfl) kn_len
theorem kn_a : Run 1 ((hh 257).take 200) := (run_hh 257).take 200
theorem kn_al : ((hh 257).take 200).length = 200 := by rw [List.length_take, hh_len]; rfl
theorem kn_at : TOk ((hh 257).take 200) 1 := kn_a.tok (by omega) (by omega) (by rw [kn_al]; omega) (by omega) (by omega)
theorem kn_b : Run 2 (((hh 257).take 257).drop 1) := ((run_hh 257).take 257).drop 1
theorem kn_bl : (((hh 257).take 257).drop 1).length = 256 := by rw [List.length_drop, List.length_take, hh_len]; rfl
theorem kn_bt : TOk (((hh 257).take 257).drop 1) 1 := kn_b.tok (by omega) (by omega) (by rw [kn_bl]; omega) (by omega) (by omega)
theorem kn_d : Run 101 (((hh 257).take 256).drop 100) := ((run_hh 257).take 256).drop 100
theorem kn_dl : (((hh 257).take 256).drop 100).length = 156 := by rw [List.length_drop, List.length_take, hh_len]; rfl
theorem kn_dt : TOk (((hh 257).take 256).drop 100) 1 := kn_d.tok (by omega) (by omega) (by rw [kn_dl]; omega) (by omega) (by omega)
theorem kn_m1 : mergeR ((hh 257).take 200) (((hh 257).take 257).drop 1) 1 = [] ∧ mergeE ((hh 257).take 200) (((hh 257).take 257).drop 1) 1 = 3 := by
  have hl := run_merge kn_a kn_b (by omega) (by rw [kn_al]; omega)
  rw [kn_al, kn_bl] at hl
  have he : mergeE ((hh 257).take 200) (((hh 257).take 257).drop 1) 1 = 3 := mergeE_l (by rw [kn_at.check]) (by rw [kn_bt.check]) (by omega)
  exact ⟨mergeR_nil (by rw [he]; decide), he⟩
theorem kn_m2 : mergeR ((hh 257).take 200) (((hh 257).take 256).drop 100) 1 = mergeF ((hh 257).take 200) (((hh 257).take 256).drop 100) ∧ mergeE ((hh 257).take 200) (((hh 257).take 256).drop 100) 1 = 0 := by
  have hl := run_merge kn_a kn_d (by omega) (by rw [kn_al]; omega)
  rw [kn_al, kn_dl] at hl
  have he : mergeE ((hh 257).take 200) (((hh 257).take 256).drop 100) 1 = 0 := mergeE_0 (by rw [kn_at.check]) (by rw [kn_dt.check]) (by omega)
  exact ⟨by unfold mergeR; rw [if_pos he], he⟩
theorem kn_m2l : (mergeF ((hh 257).take 200) (((hh 257).take 256).drop 100)).length = 256 := by
  have hl := run_merge kn_a kn_d (by omega) (by rw [kn_al]; omega)
  rw [kn_al, kn_dl] at hl
  exact hl
/-- The greatest height. -/
def gt1 : List PairD := [⟨18446744073709551615, 2305843009213693952⟩]
theorem kn_gt : (if (checkF gt1 1).2 = 0 then textF gt1 else []) = ([49, 56, 52, 52, 54, 55, 52, 52, 48, 55, 51, 55, 48, 57, 53, 53, 49, 54, 49, 53, 32, 50, 51, 48, 53, 56, 52, 51, 48, 48, 57, 50, 49, 51, 54, 57, 51, 57, 53, 50, 10] : List UInt8) ∧ (checkF gt1 1).2 = 0 := by
  have hc : (checkF gt1 1).2 = 0 := by kernel_rfl
  refine ⟨?_, hc⟩
  rw [if_pos hc]
  have d1 : Lib.decDigits 18446744073709551615 = [49, 56, 52, 52, 54, 55, 52, 52, 48, 55, 51, 55, 48, 57, 53, 53, 49, 54, 49, 53] := (numQ_inv (most := 18446744073709551615) (by decide) (by kernel_rfl)).symm
  have d2 : Lib.decDigits 2305843009213693952 = [50, 51, 48, 53, 56, 52, 51, 48, 48, 57, 50, 49, 51, 54, 57, 51, 57, 53, 50] := (numQ_inv (most := 18446744073709551615) (by decide) (by kernel_rfl)).symm
  show lineF ⟨18446744073709551615, 2305843009213693952⟩ ++ [] = _
  unfold lineF
  rw [itoa_nn (by decide)]
  show Lib.decDigits 18446744073709551615 ++ [32] ++ Lib.decDigits 2305843009213693952 ++ [10] ++ [] = _
  rw [d1, d2]
  rfl
theorem kn_long : parseF (List.replicate 1048577 0) = ([], 0, 3) := pf_big (by rw [List.length_replicate]; omega)
end Go.Proofs.YtokeofoemjeleaaDoor
