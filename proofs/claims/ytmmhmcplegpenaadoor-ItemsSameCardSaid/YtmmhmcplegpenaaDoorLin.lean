/- Items: numbers, lines, what a line stands for. -/
import Derived.Test.YtmmhmcplegpenaaDoorItm
import Derived.Test.YtmmhmcplegpenaaDoorYB
import Derived.Lib.IndexMore
import Derived.Lib.SplitLaws
import Derived.Lib.ParseIntB
import Derived.Lib.Join
namespace Go.Proofs.YtmmhmcplegpenaaDoor
open Go Go.Y
set_option linter.unusedSimpArgs false
set_option linter.unusedVariables false
theorem dec_split (u : Nat) : Lib.decDigits u = (if u / 10 = 0 then [] else Lib.decDigits (u / 10)) ++ [UInt8.ofNat (48 + u % 10)] := by
 rw [Lib.decDigits]
 split
 ·rename_i h
  rw [if_pos (by omega), Nat.mod_eq_of_lt h]
  rfl
 ·rename_i h
  rw [if_neg (by omega)]
def isDig (c : UInt8) : Prop := 48 ≤ c.toNat ∧ c.toNat ≤ 57
def valA : List UInt8 → Nat → Nat
 | [], acc => acc
 | c :: r, acc => valA r (10 * acc + (c.toNat - 48))
theorem valA_le : ∀ (l : List UInt8) (acc : Nat), acc ≤ valA l acc
 | [], acc => Nat.le_refl _
 | c :: r, acc => by have := valA_le r (10 * acc + (c.toNat - 48)); simp only [valA]; omega
theorem valA_snoc (c : UInt8) : ∀ (l : List UInt8) (acc : Nat), valA (l ++ [c]) acc = 10 * valA l acc + (c.toNat - 48)
 | [], acc => rfl
 | b :: r, acc => valA_snoc c r _
instance (c : UInt8) : Decidable (isDig c) := by unfold isDig; infer_instance
theorem dec_dig : ∀ (u : Nat), ∀ c ∈ Lib.decDigits u, isDig c := by
 intro u
 induction u using Nat.strongRecOn with
 | _ u ih =>
  intro c hc
  rw [dec_split] at hc
  rcases List.mem_append.1 hc with hc | hc
  ·split at hc
   ·simp at hc
   ·exact ih (u / 10) (by omega) c hc
  ·simp only [List.mem_singleton] at hc
   subst hc
   have h1 : (UInt8.ofNat (48 + u % 10)).toNat = 48 + u % 10 := UInt8.toNat_ofNat_of_lt' (by show 48 + u % 10 < 256; omega)
   unfold isDig
   omega
theorem val_dec : ∀ (u : Nat), valA (Lib.decDigits u) 0 = u := by
 intro u
 induction u using Nat.strongRecOn with
 | _ u ih =>
  have h1 : (UInt8.ofNat (48 + u % 10)).toNat = 48 + u % 10 := UInt8.toNat_ofNat_of_lt' (by show 48 + u % 10 < 256; omega)
  rw [dec_split, valA_snoc, h1]
  split
  ·rename_i h; simp only [valA]; omega
  ·rename_i h; rw [ih (u / 10) (by omega)]; omega
theorem dec_head : ∀ (u : Nat), 0 < u → (Lib.decDigits u).head? ≠ some 48 := by
 intro u
 induction u using Nat.strongRecOn with
 | _ u ih =>
  intro h0
  rw [dec_split]
  split
  ·rename_i h
   rw [List.nil_append, List.head?_cons]
   intro e
   simp only [Option.some.injEq] at e
   have h1 : (UInt8.ofNat (48 + u % 10)).toNat = 48 + u % 10 := UInt8.toNat_ofNat_of_lt' (by show 48 + u % 10 < 256; omega)
   rw [e] at h1
   have h2 : (48 : UInt8).toNat = 48 := rfl
   omega
  ·rename_i h
   rw [List.head?_append]
   have := ih (u / 10) (by omega) (by omega)
   cases hh : (Lib.decDigits (u / 10)).head? with
   | none =>
    rw [List.head?_eq_none_iff] at hh
    have := Lib.decDigits_length (u / 10)
    rw [hh] at this
    have := Lib.nDigits_pos (u / 10)
    simp at *; omega
   | some x => rw [hh] at this; simpa using this
def ix (c : UInt8) : List UInt8 → Nat
 | [] => 0
 | b :: l => if b = c then 0 else ix c l + 1
theorem ix_unique {c : UInt8} : ∀ {l : List UInt8} {k : Nat}, (∀ (m : Nat) (b : UInt8), m < k → l[m]? = some b → b ≠ c) → (l[k]? = some c ∨ k = l.length) → ix c l = k
 | [], k, _, h => by
  rcases h with h | h
  ·simp at h
  ·simp [ix, h]
 | a :: l, k, h, hk => by
  unfold ix
  cases k with
  | zero =>
   rcases hk with hk | hk
   ·simp at hk; rw [if_pos hk]
   ·simp at hk
  | succ k =>
   have h0 := h 0 a (by omega) (by simp)
   rw [if_neg h0, ix_unique (l := l) (k := k) (fun m b h1 h2 => h (m + 1) b (by omega) (by simpa using h2)) (by
    rcases hk with hk | hk
    ·left; simpa using hk
    ·right; simpa using hk)]
theorem index_ix (c : UInt8) : ∀ (l : List UInt8), Lib.index l [c] = if ix c l < l.length then ((ix c l : Nat) : Int) else -1
 | [] => by simp [Lib.index, ix]
 | b :: l => by
  have ih := index_ix c l
  unfold Lib.index ix
  by_cases h : b = c
  ·subst h
   simp
  ·have hp : ([c].isPrefixOf (b :: l)) = false := by simp [List.isPrefixOf, Ne.symm h]
   rw [if_neg (by rw [hp]; simp), if_neg h]
   by_cases hl : ix c l < l.length
   ·rw [if_pos hl] at ih
    have h1 : ¬ (Lib.index l [c] == -1) = true := by rw [ih, beq_iff_eq]; omega
    have h2 : ix c l + 1 < (b :: l).length := by rw [List.length_cons]; omega
    rw [if_neg h1, if_pos h2, ih]
    omega
   ·rw [if_neg hl] at ih
    have h1 : (Lib.index l [c] == -1) = true := by rw [ih]; rfl
    have h2 : ¬ ix c l + 1 < (b :: l).length := by rw [List.length_cons]; omega
    rw [if_pos h1, if_neg h2]
theorem cut_ix (c : UInt8) (l : List UInt8) : Lib.cut l [c] = if ix c l < l.length then (l.take (ix c l), l.drop (ix c l + 1), true) else (l, [], false) := by
 unfold Lib.cut
 rw [index_ix]
 by_cases h : ix c l < l.length
 ·simp only [if_pos h]
  rw [if_pos (by omega)]
  simp
 ·simp only [if_neg h]
  rw [if_neg (by omega)]
theorem cut_lens (c : UInt8) (s : List UInt8) : (Lib.cut s [c]).1.length ≤ s.length ∧ (Lib.cut s [c]).2.1.length ≤ s.length := by
 rw [cut_ix]
 split
 ·simp only [List.length_take, List.length_drop]; omega
 ·simp
theorem dec_len (u : Nat) (h : u < 18446744073709551616) : (Lib.decDigits u).length ≤ 20 := by
 rw [Lib.decDigits_length]
 rcases Nat.eq_zero_or_pos u with h0 | h0
 ·subst h0; rw [Lib.nDigits_small (by decide)]; omega
 ·have h1 := Lib.numDigits_eq u h0 h
  split at h1 <;> omega
theorem ix_app {c : UInt8} : ∀ {d e : List UInt8}, c ∉ d → ix c (d ++ c :: e) = d.length
 | [], e, _ => by simp [ix]
 | b :: d, e, h => by
  simp only [List.cons_append, List.length_cons]
  unfold ix
  rw [if_neg (fun hb => h (by rw [hb]; simp)), ix_app (fun hd => h (by simp [hd]))]
theorem dec_ne (u : Nat) : Lib.decDigits u ≠ [] := by
 rw [dec_split]; simp
theorem pum_dec {most : Nat} (hm : most ≤ 18446744073709551615) : ∀ (l : List UInt8) (acc : Nat), (∀ c ∈ l, isDig c) → valA l acc ≤ most → Lib.parseUintM most acc l = .ok (valA l acc)
 | [], acc, _, _ => rfl
 | c :: r, acc, hd, hv => by
  have hc : 48 ≤ c.toNat ∧ c.toNat ≤ 57 := hd c (by simp)
  simp only [valA] at hv ⊢
  have := valA_le r (10 * acc + (c.toNat - 48))
  unfold Lib.parseUintM
  rw [if_pos hc, if_neg (by omega), if_neg (by omega), Nat.mul_comm acc 10]
  exact pum_dec hm r _ (fun x hx => hd x (by simp [hx])) hv
theorem pub_dec {B u : Nat} (hB : B ≤ 64) (hu : u < 2 ^ B) : Lib.parseUintB B (Lib.decDigits u) = .ok u := by
 unfold Lib.parseUintB
 have h64 : 2 ^ B ≤ 2 ^ 64 := Nat.pow_le_pow_right (by decide) hB
 rw [if_neg (dec_ne u), pum_dec (by omega) _ _ (dec_dig u) (by rw [val_dec]; omega), val_dec]
theorem dig_not {c : UInt8} {u : Nat} (hc : ¬ isDig c) : c ∉ Lib.decDigits u := fun h => hc (dec_dig u c h)
theorem cut_app {c : UInt8} {d e : List UInt8} (h : c ∉ d) : Lib.cut (d ++ c :: e) [c] = (d, e, true) := by
 rw [cut_ix, ix_app h, if_pos (by simp)]
 simp
theorem cut_miss {c : UInt8} {d : List UInt8} (h : c ∉ d) : Lib.cut d [c] = (d, [], false) := by
 have : ix c d = d.length := ix_unique (fun m b _ hb => fun e => h (e ▸ List.mem_of_getElem? hb)) (Or.inr rfl)
 rw [cut_ix, this, if_neg (by omega)]
/-! ### The line of an item -/
def markS (ms : List (List UInt8)) : List UInt8 := if ms = [] then [45] else Lib.join ms [44]
def lineF (x : ItemD) : List UInt8 := Lib.decDigits x.key ++ [32] ++ Lib.decDigits x.typ ++ [32] ++ markS x.marks ++ [32] ++ x.text
theorem name_byte {s : List UInt8} (h : Name s) {c : UInt8} (hc : ¬ NameB c) : c ∉ s := fun hs => hc (h.2 c hs)
theorem join_two (m : List UInt8) (y : List UInt8) (r : List (List UInt8)) : Lib.join (m :: y :: r) [44] = m ++ 44 :: Lib.join (y :: r) [44] := by
 rw [Lib.join_cons, Lib.join_cons]
 simp [Lib.joinTail]
theorem join_mem {c : UInt8} (hc : ¬ NameB c) (h44 : c ≠ 44) : ∀ (ms : List (List UInt8)), (∀ s ∈ ms, Name s) → c ∉ Lib.join ms [44]
 | [], _ => by simp [Lib.join_nil]
 | [m], h => by rw [Lib.join_one]; exact name_byte (h m (by simp)) hc
 | m :: y :: r, h => by
  rw [join_two]
  intro hx
  rcases List.mem_append.1 hx with hx | hx
  ·exact name_byte (h m (by simp)) hc hx
  ·rcases List.mem_cons.1 hx with hx | hx
   ·exact h44 hx
   ·exact join_mem hc h44 (y :: r) (fun s hs => h s (by simp [hs])) hx
theorem join_ne {m : List UInt8} {r : List (List UInt8)} (h : Name m) : Lib.join (m :: r) [44] ≠ [] := by
 rw [Lib.join_cons]
 intro e
 have h1 := (List.append_eq_nil_iff.1 e).1
 subst h1
 exact absurd h.1.1 (by simp)
theorem join_ne45 {m : List UInt8} {r : List (List UInt8)} (h : Name m) : Lib.join (m :: r) [44] ≠ [45] := by
 rw [Lib.join_cons]
 intro e
 cases m with
 | nil => exact absurd h.1.1 (by simp)
 | cons b m =>
  simp only [List.cons_append, List.cons.injEq] at e
  have h1 := h.2 b (by simp)
  rw [e.1] at h1
  exact absurd h1 (by decide)
theorem markS_mem {ms : List (List UInt8)} (h : ∀ s ∈ ms, Name s) : (32 : UInt8) ∉ markS ms ∧ (10 : UInt8) ∉ markS ms := by
 unfold markS
 split
 ·exact ⟨by decide, by decide⟩
 ·exact ⟨join_mem (by decide) (by decide) ms h, join_mem (by decide) (by decide) ms h⟩
theorem str_not10 {s : List UInt8} (h : Str s) : (10 : UInt8) ∉ s := fun hs => absurd (h.2 10 hs) (by decide)
theorem line_not10 {x : ItemD} (h : ItemOk 8 x) : (10 : UInt8) ∉ lineF x := by
 obtain ⟨_, _, h3, _, h5⟩ := h
 unfold lineF
 simp only [List.mem_append, List.mem_singleton, not_or]
 exact ⟨⟨⟨⟨⟨⟨dig_not (by decide), by decide⟩, dig_not (by decide)⟩, by decide⟩, (markS_mem h5).2⟩, by decide⟩, str_not10 h3⟩
theorem line_r (x : ItemD) : lineF x = Lib.decDigits x.key ++ 32 :: (Lib.decDigits x.typ ++ 32 :: (markS x.marks ++ 32 :: x.text)) := by
 simp [lineF]
theorem line_cut1 (x : ItemD) (e : List UInt8) : Lib.cut (lineF x ++ e) [32] = (Lib.decDigits x.key, Lib.decDigits x.typ ++ 32 :: (markS x.marks ++ 32 :: (x.text ++ e)), true) := by
 rw [line_r, show Lib.decDigits x.key ++ 32 :: (Lib.decDigits x.typ ++ 32 :: (markS x.marks ++ 32 :: x.text)) ++ e = Lib.decDigits x.key ++ 32 :: (Lib.decDigits x.typ ++ 32 :: (markS x.marks ++ 32 :: (x.text ++ e))) by simp]
 exact cut_app (dig_not (by decide))
theorem line_cut2 (t : Nat) (r : List UInt8) : Lib.cut (Lib.decDigits t ++ 32 :: r) [32] = (Lib.decDigits t, r, true) := cut_app (dig_not (by decide))
theorem line_cut3 {ms : List (List UInt8)} (h : ∀ s ∈ ms, Name s) (r : List UInt8) : Lib.cut (markS ms ++ 32 :: r) [32] = (markS ms, r, true) := cut_app (markS_mem h).1
/-! ### Its length -/
theorem lens_le {b : Nat} : ∀ (ms : List (List UInt8)), (∀ s ∈ ms, s.length ≤ b) → Lib.lens ms ≤ b * ms.length
 | [], _ => by simp [Lib.lens]
 | m :: r, h => by
  have h1 := lens_le r (fun s hs => h s (by simp [hs]))
  have h2 := h m (by simp)
  simp only [Lib.lens, List.map_cons, List.sum_cons, List.length_cons, Nat.mul_succ] at h1 ⊢
  omega
theorem join_len {ms : List (List UInt8)} {b : Nat} (h : ∀ s ∈ ms, s.length ≤ b) : (Lib.join ms [44]).length ≤ (b + 1) * ms.length := by
 cases ms with
 | nil => simp [Lib.join_nil]
 | cons m r =>
  rw [Lib.join_length]
  have h1 := lens_le (m :: r) h
  simp only [List.length_cons, List.length_nil, Nat.add_mul] at h1 ⊢
  omega
theorem join_len16 {ms : List (List UInt8)} (h8 : ms.length ≤ 8) (h : ∀ s ∈ ms, Name s) : (Lib.join ms [44]).length ≤ 136 := by
 have h1 := join_len (b := 16) (fun s hs => (h s hs).1.2)
 have h2 := Nat.mul_le_mul_left 17 h8
 omega
theorem markS_len {ms : List (List UInt8)} (h8 : ms.length ≤ 8) (h : ∀ s ∈ ms, Name s) : (markS ms).length ≤ 136 := by
 unfold markS
 split
 ·decide
 ·exact join_len16 h8 h
theorem line_len {x : ItemD} {t : Int} (h : ItemOk t x) (hk : x.key < 18446744073709551616) (ht : x.typ < 256) : (lineF x).length ≤ 300 := by
 obtain ⟨_, _, h3, h4, h5⟩ := h
 have h6 := markS_len h4 h5
 have h7 := dec_len x.key hk
 have h8 := dec_len x.typ (by omega)
 have h9 := h3.1
 unfold lineF
 simp only [List.length_append, List.length_cons, List.length_nil]
 omega
/-! ### Split -/
def splitF (s : List UInt8) : List (List UInt8) := Lib.split s [44]
theorem splitK_len : ∀ (k : Nat) (s : List UInt8) (p : List UInt8), p ∈ Lib.splitK [44] 0 k s → p.length ≤ s.length
 | 0, s, p, h => by simp only [Lib.splitK, List.mem_singleton] at h; subst h; exact Nat.le_refl _
 | k + 1, s, p, h => by
  unfold Lib.splitK at h
  split at h
  ·simp only [List.mem_singleton] at h; subst h; exact Nat.le_refl _
  ·rcases List.mem_cons.1 h with rfl | h
   ·simp only [List.length_take]; omega
   ·have := splitK_len k _ p h; simp only [List.length_drop] at this; omega
theorem splitF_len {s p : List UInt8} (h : p ∈ splitF s) : p.length ≤ s.length := splitK_len _ _ _ h
theorem splitK_hit {m r : List UInt8} (k : Nat) (h : (44 : UInt8) ∉ m) : Lib.splitK [44] 0 (k + 1) (m ++ 44 :: r) = m :: Lib.splitK [44] 0 k r := by
 have h1 : Lib.index (m ++ 44 :: r) [44] = ((m.length : Nat) : Int) := by rw [index_ix, ix_app h, if_pos (by simp)]
 rw [Lib.splitK, h1, if_neg (by rw [beq_iff_eq]; omega)]
 congr 1
 ·simp
 ·congr 1; simp
theorem splitK_join : ∀ (m : List UInt8) (r : List (List UInt8)), (∀ s ∈ m :: r, Name s) → Lib.splitK [44] 0 r.length (Lib.join (m :: r) [44]) = m :: r
 | m, [], _ => by simp [Lib.join_one, Lib.splitK]
 | m, y :: r, h => by
  rw [join_two, List.length_cons, splitK_hit _ (name_byte (h m (by simp)) (by decide)), splitK_join y r (fun s hs => h s (by simp [hs]))]
theorem count_join : ∀ (m : List UInt8) (r : List (List UInt8)), (∀ s ∈ m :: r, Name s) → (Lib.join (m :: r) [44]).count 44 = r.length
 | m, [], h => by
  rw [Lib.join_one]; exact List.count_eq_zero.2 (name_byte (h m (by simp)) (by decide))
 | m, y :: r, h => by
  rw [join_two, List.count_append, List.count_cons_self, count_join y r (fun s hs => h s (by simp [hs])), List.count_eq_zero.2 (name_byte (h m (by simp)) (by decide))]
  simp
theorem splitF_join {ms : List (List UInt8)} (h : ∀ s ∈ ms, Name s) (h0 : ms ≠ []) : splitF (markS ms) = ms := by
 cases ms with
 | nil => exact absurd rfl h0
 | cons m r =>
  unfold splitF Lib.split markS
  rw [if_neg h0, Lib.count_one, count_join m r h, splitK_join m r h]
/-! ### What a line stands for -/
def Rd8 (s : List UInt8) (x : ItemD) : Prop := ItemOk 8 x ∧ x.key < 18446744073709551616 ∧ lineF x = s
theorem lineF_inj {x y : ItemD} (hx : ItemOk 8 x) (hy : ItemOk 8 y) (hkx : x.key < 18446744073709551616) (hky : y.key < 18446744073709551616) (e : lineF x = lineF y) : x = y := by
 have a1 := line_cut1 x []
 have b1 := line_cut1 y []
 rw [List.append_nil, List.append_nil] at a1 b1
 rw [e, b1] at a1
 simp only [Prod.mk.injEq, and_true] at a1
 obtain ⟨h1, h2⟩ := a1
 have c1 := line_cut2 x.typ (markS x.marks ++ 32 :: x.text)
 rw [← h2, line_cut2] at c1
 simp only [Prod.mk.injEq, and_true] at c1
 obtain ⟨h3, h4⟩ := c1
 have d1 := line_cut3 hx.2.2.2.2 x.text
 rw [← h4, line_cut3 hy.2.2.2.2] at d1
 simp only [Prod.mk.injEq, and_true] at d1
 obtain ⟨h5, h6⟩ := d1
 refine item_ext ?_ ?_ h6.symm ?_
 ·rw [← val_dec x.key, ← h1, val_dec]
 ·rw [← val_dec x.typ, ← h3, val_dec]
 ·by_cases hm : x.marks = []
  ·by_cases hn : y.marks = []
   ·rw [hm, hn]
   ·obtain ⟨m, r, hmr⟩ := List.exists_cons_of_ne_nil hn
    rw [hm, hmr] at h5
    simp only [markS, if_true, if_neg (List.cons_ne_nil m r)] at h5
    exact absurd h5 (join_ne45 (hy.2.2.2.2 m (by rw [hmr]; simp)))
  ·by_cases hn : y.marks = []
   ·obtain ⟨m, r, hmr⟩ := List.exists_cons_of_ne_nil hm
    rw [hn, hmr] at h5
    simp only [markS, if_true, if_neg (List.cons_ne_nil m r)] at h5
    exact absurd h5.symm (join_ne45 (hx.2.2.2.2 m (by rw [hmr]; simp)))
   ·rw [← splitF_join hx.2.2.2.2 hm, ← h5, splitF_join hy.2.2.2.2 hn]
theorem Rd8.uniq {s : List UInt8} {x y : ItemD} (hx : Rd8 s x) (hy : Rd8 s y) : x = y := lineF_inj hx.1 hy.1 hx.2.1 hy.2.1 (hx.2.2.trans hy.2.2.symm)
/-! ### Whole texts -/
def textF (l : List ItemD) : List UInt8 := (l.map fun x => lineF x ++ [10]).flatten
theorem textF_snoc {l : List ItemD} {i : Nat} {x : ItemD} (h : l[i]? = some x) : textF (l.take (i + 1)) = textF (l.take i) ++ (lineF x ++ [10]) := by
 unfold textF
 rw [List.take_add_one, h]
 simp
def AllOk (l : List ItemD) : Prop := ∀ x ∈ l, ItemOk 8 x
instance (l : List ItemD) : Decidable (AllOk l) := by unfold AllOk; infer_instance
theorem AllOk.no {l : List ItemD} {i : Nat} {x : ItemD} (h : l[i]? = some x) (hn : ¬ ItemOk 8 x) : ¬ AllOk l := fun h2 => hn (h2 x (List.mem_of_getElem? h))
def textE (l : List ItemD) : Int := if 1024 < l.length then 3 else if AllOk l then 0 else 6
def textR (l : List ItemD) : List UInt8 := if textE l = 0 then textF l else []
theorem text_big {l : List ItemD} (h : 1024 < l.length) : textE l = 3 ∧ textR l = [] := by
 have : textE l = 3 := by unfold textE; rw [if_pos h]
 exact ⟨this, by unfold textR; rw [this]; rfl⟩
theorem text_bad {l : List ItemD} (h : l.length ≤ 1024) (hn : ¬ AllOk l) : textE l = 6 ∧ textR l = [] := by
 have : textE l = 6 := by unfold textE; rw [if_neg (by omega), if_neg hn]
 exact ⟨this, by unfold textR; rw [this]; rfl⟩
theorem text_ok {l : List ItemD} (h : l.length ≤ 1024) (hn : AllOk l) : textE l = 0 ∧ textR l = textF l := by
 have : textE l = 0 := by unfold textE; rw [if_neg (by omega), if_pos hn]
 exact ⟨this, by unfold textR; rw [if_pos this]⟩
theorem line_join {x : ItemD} (h : ¬ Lib.join x.marks [44] = []) : lineF x = Lib.decDigits x.key ++ [32] ++ Lib.decDigits x.typ ++ [32] ++ Lib.join x.marks [44] ++ [32] ++ x.text := by
 unfold lineF markS
 rw [if_neg (fun e => h (by rw [e]; rfl))]
theorem line_dash {x : ItemD} (h : Lib.join x.marks [44] = []) (hok : ItemOk 8 x) : lineF x = Lib.decDigits x.key ++ [32] ++ Lib.decDigits x.typ ++ [32] ++ [45] ++ [32] ++ x.text := by
 have : x.marks = [] := by
  cases hm : x.marks with
  | nil => rfl
  | cons m r => rw [hm] at h; exact absurd h (join_ne (hok.2.2.2.2 m (by rw [hm]; simp)))
 unfold lineF markS
 rw [if_pos this]
/-! ### Lines read back -/
/-- What every reader of a number owes: a number's own text is read as the number. -/
def NumR (lim : Nat) (s : List UInt8) (u : Nat) (b : Bool) : Prop := u < lim ∧ ∀ m : Nat, m < lim → s = Lib.decDigits m → b = true ∧ u = m
def marksG (c : List UInt8) : List (List UInt8) := if c = [45] then [] else splitF c
theorem marksG_S {ms : List (List UInt8)} (h : ∀ s ∈ ms, Name s) : marksG (markS ms) = ms := by
 unfold marksG
 cases ms with
 | nil => rfl
 | cons m r =>
  have : markS (m :: r) = Lib.join (m :: r) [44] := by unfold markS; rw [if_neg (List.cons_ne_nil m r)]
  rw [if_neg (by rw [this]; exact join_ne45 (h m (by simp))), splitF_join h (List.cons_ne_nil m r)]
theorem item_back {s : List UInt8} {y : ItemD} {u1 u2 lim : Nat} {b1 b2 : Bool} (h : Rd8 s y) (n1 : NumR 18446744073709551616 (Lib.cut s [32]).1 u1 b1) (hl : 256 ≤ lim) (n2 : NumR lim (Lib.cut (Lib.cut s [32]).2.1 [32]).1 u2 b2) :
  b1 = true ∧ b2 = true ∧ (⟨u1, u2, (Lib.cut (Lib.cut (Lib.cut s [32]).2.1 [32]).2.1 [32]).2.1, marksG (Lib.cut (Lib.cut (Lib.cut s [32]).2.1 [32]).2.1 [32]).1⟩ : ItemD) = y := by
 obtain ⟨hok, hk, rfl⟩ := h
 have ht : y.typ < 256 := by have := hok.2.1; omega
 have a1 := line_cut1 y []
 rw [List.append_nil, List.append_nil] at a1
 rw [a1] at n1 n2
 simp only [line_cut2] at n2
 rw [a1]
 simp only [line_cut2, line_cut3 hok.2.2.2.2, marksG_S hok.2.2.2.2]
 obtain ⟨h1, h2⟩ := n1.2 y.key hk rfl
 obtain ⟨h3, h4⟩ := n2.2 y.typ (by omega) rfl
 exact ⟨h1, h3, by rw [h2, h4]⟩
def Rd10 (s : List UInt8) (x : ItemD) : Prop := ItemOk 8 x ∧ x.key < 18446744073709551616 ∧ lineF x ++ [10] = s
theorem Rd10.one {s : List UInt8} {x : ItemD} (h : Rd10 (s ++ [10]) x) : Rd8 s x := ⟨h.1, h.2.1, by have := h.2.2; simpa using this⟩
theorem Rd8.ten {s : List UInt8} {x : ItemD} (h : Rd8 s x) : Rd10 (s ++ [10]) x := ⟨h.1, h.2.1, by rw [h.2.2]⟩
/-- The marks that a reader of marks has taken, and what is left. -/
def MkI (y xs : List (List UInt8)) (c : List UInt8) : Prop := ∃ ys, y = xs ++ ys ∧ c = markS ys
theorem MkI.nil {y : List (List UInt8)} {c : List UInt8} (h : c = markS y) : MkI y [] c := ⟨y, rfl, h⟩
theorem MkI.step {y xs : List (List UInt8)} {c : List UInt8} (hn : ∀ s ∈ y, Name s) (h : MkI y xs c) (hc : ¬ c = [45]) :
  ((Lib.cut c [44]).2.2 = true → MkI y (xs ++ [(Lib.cut c [44]).1]) (Lib.cut c [44]).2.1) ∧ (¬ (Lib.cut c [44]).2.2 = true → y = xs ++ [(Lib.cut c [44]).1]) := by
 obtain ⟨ys, h1, h2⟩ := h
 cases ys with
 | nil => exact absurd h2 hc
 | cons m r =>
  have hm : (44 : UInt8) ∉ m := name_byte (hn m (by rw [h1]; simp)) (by decide)
  have hj : markS (m :: r) = Lib.join (m :: r) [44] := by unfold markS; rw [if_neg (List.cons_ne_nil m r)]
  cases r with
  | nil =>
   rw [hj, Lib.join_one] at h2
   subst h2
   rw [cut_miss hm]
   exact ⟨fun h => (by cases h), fun _ => h1⟩
  | cons m2 r =>
   rw [hj, join_two] at h2
   subst h2
   rw [cut_app hm]
   refine ⟨fun _ => ⟨m2 :: r, by rw [h1]; simp, ?_⟩, fun h => absurd rfl h⟩
   unfold markS; rw [if_neg (List.cons_ne_nil m2 r)]
/-! ### Parsing -/
noncomputable def itemOf (s : List UInt8) : Option ItemD := by
 classical exact if h : ∃ x, Rd8 s x then some h.choose else none
theorem itemOf_yes {s : List UInt8} {x : ItemD} (h : Rd8 s x) : itemOf s = some x := by
 have hx : ∃ x, Rd8 s x := ⟨x, h⟩
 unfold itemOf
 rw [dif_pos hx, Rd8.uniq hx.choose_spec h]
theorem itemOf_no {s : List UInt8} (h : ∀ y, ¬ Rd8 s y) : itemOf s = none := by
 unfold itemOf
 rw [dif_neg (fun ⟨x, hx⟩ => h x hx)]
noncomputable def pGo : Nat → List ItemD → List UInt8 → List ItemD × Nat × Int
 | 0, _, _ => ([], 0, 0)
 | f + 1, l, s => if s = [] then (l, 0, 0) else if (Lib.cut s [10]).2.2 = true then
   (match itemOf (Lib.cut s [10]).1 with
    | some x => if l.length = 1024 then ([], l.length + 1, 3) else pGo f (l ++ [x]) (Lib.cut s [10]).2.1
    | none => ([], l.length + 1, 5)) else ([], l.length + 1, 5)
noncomputable def parseF (s : List UInt8) : List ItemD × Nat × Int := if 1048576 < s.length then ([], 0, 3) else pGo (s.length + 1) [] s
def PInv (s0 : List UInt8) (xs : List ItemD) (c : List UInt8) : Prop := ∃ f, c.length < f ∧ parseF s0 = pGo f xs c ∧ xs.length ≤ 1024 ∧ AllOk xs
theorem parse_big {s : List UInt8} (h : 1048576 < s.length) : parseF s = ([], 0, 3) := by unfold parseF; rw [if_pos h]
theorem PInv.start {s : List UInt8} (h : ¬ 1048576 < s.length) : PInv s [] s := ⟨s.length + 1, by omega, by unfold parseF; rw [if_neg h], by simp, fun x hx => by simp at hx⟩
theorem PInv.fin {s0 : List UInt8} {xs : List ItemD} (h : PInv s0 xs []) : parseF s0 = (xs, 0, 0) := by
 obtain ⟨f, h1, h2, _⟩ := h
 cases f with
 | zero => simp at h1
 | succ f => rw [h2]; unfold pGo; rw [if_pos rfl]
theorem cut_lt10 {s : List UInt8} (h : ¬ s = []) : (Lib.cut s [10]).2.1.length < s.length := by
 have h0 := List.length_pos_iff.2 h
 rw [cut_ix]
 split
 ·simp only [List.length_drop]; omega
 ·simpa using h0
theorem PInv.bad {s0 : List UInt8} {xs : List ItemD} {c : List UInt8} (h : PInv s0 xs c) (hc : ¬ c = []) (hb : ¬ (Lib.cut c [10]).2.2 = true ∨ ∀ y, ¬ Rd8 (Lib.cut c [10]).1 y) : parseF s0 = ([], xs.length + 1, 5) := by
 obtain ⟨f, h1, h2, _⟩ := h
 cases f with
 | zero => omega
 | succ f =>
  rw [h2]
  unfold pGo
  rw [if_neg hc]
  by_cases hq : (Lib.cut c [10]).2.2 = true
  ·rw [if_pos hq, itemOf_no (hb.resolve_left (fun h => h hq))]
  ·rw [if_neg hq]
theorem PInv.full {s0 : List UInt8} {xs : List ItemD} {c : List UInt8} {x : ItemD} (h : PInv s0 xs c) (hc : ¬ c = []) (hq : (Lib.cut c [10]).2.2 = true) (hx : Rd8 (Lib.cut c [10]).1 x) (hl : xs.length = 1024) : parseF s0 = ([], xs.length + 1, 3) := by
 obtain ⟨f, h1, h2, _⟩ := h
 cases f with
 | zero => omega
 | succ f =>
  rw [h2]
  unfold pGo
  rw [if_neg hc, if_pos hq, itemOf_yes hx]
  simp only
  rw [if_pos hl]
theorem PInv.next {s0 : List UInt8} {xs : List ItemD} {c : List UInt8} {x : ItemD} (h : PInv s0 xs c) (hc : ¬ c = []) (hq : (Lib.cut c [10]).2.2 = true) (hx : Rd8 (Lib.cut c [10]).1 x) (hl : ¬ xs.length = 1024) : PInv s0 (xs ++ [x]) (Lib.cut c [10]).2.1 := by
 obtain ⟨f, h1, h2, h3, h4⟩ := h
 cases f with
 | zero => omega
 | succ f =>
  have h5 := cut_lt10 hc
  refine ⟨f, by omega, ?_, by simp only [List.length_append, List.length_cons, List.length_nil]; omega, fun y hy => ?_⟩
  ·rw [h2, pGo, if_neg hc, if_pos hq, itemOf_yes hx]
   simp only
   rw [if_neg hl]
  ·rcases List.mem_append.1 hy with hy | hy
   ·exact h4 y hy
   ·simp only [List.mem_singleton] at hy; subst hy; exact hx.1
theorem textF_cons (x : ItemD) (l : List ItemD) : textF (x :: l) = lineF x ++ 10 :: textF l := by unfold textF; simp
theorem pg_text : ∀ (r p : List ItemD) (f : Nat), AllOk r → (∀ x ∈ r, x.key < 18446744073709551616) → p.length + r.length ≤ 1024 → (textF r).length < f → pGo f p (textF r) = (p ++ r, 0, 0)
 | [], p, f, _, _, _, hf => by
  cases f with
  | zero => omega
  | succ f => unfold pGo; rw [if_pos (by rfl)]; simp
 | x :: r, p, f, hok, hk, hl, hf => by
  cases f with
  | zero => omega
  | succ f =>
   have h1 := hok x (by simp)
   have hc : Lib.cut (textF (x :: r)) [10] = (lineF x, textF r, true) := by rw [textF_cons]; exact cut_app (line_not10 h1)
   have hne : ¬ textF (x :: r) = [] := by rw [textF_cons]; simp
   simp only [List.length_cons] at hl
   rw [pGo, if_neg hne, hc, if_pos rfl, itemOf_yes ⟨h1, hk x (by simp), rfl⟩]
   simp only
   rw [if_neg (by omega), pg_text r (p ++ [x]) f (fun y hy => hok y (by simp [hy])) (fun y hy => hk y (by simp [hy])) (by simp only [List.length_append, List.length_cons, List.length_nil]; omega) (by rw [textF_cons] at hf; simp only [List.length_append, List.length_cons] at hf; omega)]
   simp
theorem parse_textF {l : List ItemD} (h : AllOk l) (hk : ∀ x ∈ l, x.key < 18446744073709551616) (hl : l.length ≤ 1024) (hs : (textF l).length ≤ 1048576) : parseF (textF l) = (l, 0, 0) := by
 unfold parseF
 rw [if_neg (by omega), pg_text l [] _ h hk (by simpa using hl) (by omega)]
 rfl
/-! ### The examples -/
theorem rd_flag {s : List UInt8} {y : ItemD} (h : Rd8 s y) : (Lib.cut (Lib.cut (Lib.cut s [32]).2.1 [32]).2.1 [32]).2.2 = true := by
 obtain ⟨hok, hk, rfl⟩ := h
 have a1 := line_cut1 y []
 rw [List.append_nil, List.append_nil] at a1
 rw [a1]
 simp only [line_cut2, line_cut3 hok.2.2.2.2]
theorem rd_head {s : List UInt8} {y : ItemD} (h : Rd8 s y) : (Lib.cut s [32]).1 = Lib.decDigits y.key ∧ y.key ≠ 0 := by
 obtain ⟨hok, hk, rfl⟩ := h
 have a1 := line_cut1 y []
 rw [List.append_nil, List.append_nil] at a1
 rw [a1]
 exact ⟨rfl, hok.1⟩
theorem rd_marks {s : List UInt8} {y : ItemD} (h : Rd8 s y) : ∀ p ∈ marksG (Lib.cut (Lib.cut (Lib.cut s [32]).2.1 [32]).2.1 [32]).1, Name p := by
 obtain ⟨hok, hk, rfl⟩ := h
 have a1 := line_cut1 y []
 rw [List.append_nil, List.append_nil] at a1
 rw [a1]
 simp only [line_cut2, line_cut3 hok.2.2.2.2, marksG_S hok.2.2.2.2]
 exact hok.2.2.2.2
end Go.Proofs.YtmmhmcplegpenaaDoor
