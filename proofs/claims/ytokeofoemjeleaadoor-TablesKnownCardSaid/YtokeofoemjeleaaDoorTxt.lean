/- The plain theory of the tables: numbers, lines, texts. -/
import Derived.Test.YtokeofoemjeleaaDoorMrg
import Derived.Test.YtokeofoemjeleaaDoorYB
import Derived.Lib.IndexMore
namespace Go.Proofs.YtokeofoemjeleaaDoor
open Go Go.Y

theorem dec_split (u : Nat) : Lib.decDigits u = (if u / 10 = 0 then [] else Lib.decDigits (u / 10)) ++ [UInt8.ofNat (48 + u % 10)] := by
  rw [Lib.decDigits]
  split
  · rename_i h
    rw [if_pos (by omega), Nat.mod_eq_of_lt h]
    rfl
  · rename_i h
    rw [if_neg (by omega)]
theorem dig_nb (u : Nat) : (48 : Int) + ((u : Nat) : Int) % 10 = nb (UInt8.ofNat (48 + u % 10)) := by
  have h : (UInt8.ofNat (48 + u % 10)).toNat = 48 + u % 10 := by
    rw [UInt8.toNat_ofNat_of_lt' (by show 48 + u % 10 < 256; omega)]
  simp only [nb, h]
  omega

/-! ### Numbers -/
def isDig (c : UInt8) : Prop := 48 ≤ c.toNat ∧ c.toNat ≤ 57
def valA : List UInt8 → Nat → Nat
  | [], acc => acc
  | c :: r, acc => valA r (10 * acc + (c.toNat - 48))
theorem valA_le : ∀ (l : List UInt8) (acc : Nat), acc ≤ valA l acc
  | [], acc => Nat.le_refl _
  | c :: r, acc => by have := valA_le r (10 * acc + (c.toNat - 48)); simp only [valA]; omega
theorem valA_snoc (c : UInt8) : ∀ (l : List UInt8) (acc : Nat), valA (l ++ [c]) acc = 10 * valA l acc + (c.toNat - 48)
  | [], acc => rfl
  | b :: r, acc => valA_snoc c r _
instance (c : UInt8) : Decidable (isDig c) := by unfold isDig; infer_instance
def goQ (most : Nat) : List UInt8 → Nat → Option Nat
  | [], acc => some acc
  | c :: r, acc => if isDig c then (if (most - (c.toNat - 48)) / 10 < acc then none else goQ most r (10 * acc + (c.toNat - 48))) else none
theorem goQ_eq {most : Nat} (h9 : 9 ≤ most) : ∀ (l : List UInt8) (acc : Nat), acc ≤ most → goQ most l acc = if (∀ c ∈ l, isDig c) ∧ valA l acc ≤ most then some (valA l acc) else none
  | [], acc, h => by simp [goQ, valA, h]
  | c :: r, acc, h => by
    unfold goQ
    by_cases hc : isDig c
    · rw [if_pos hc]
      obtain ⟨c1, c2⟩ := hc
      by_cases hb : (most - (c.toNat - 48)) / 10 < acc
      · rw [if_pos hb, if_neg]
        rintro ⟨_, h2⟩
        have := valA_le r (10 * acc + (c.toNat - 48))
        simp only [valA] at h2
        omega
      · rw [if_neg hb, goQ_eq h9 r _ (by omega)]
        have : (∀ x ∈ c :: r, isDig x) ↔ ∀ x ∈ r, isDig x := by
          constructor
          · exact fun h x hx => h x (by simp [hx])
          · intro h x hx
            rcases List.mem_cons.1 hx with rfl | hx
            · exact ⟨c1, c2⟩
            · exact h x hx
        simp only [this, valA]
    · rw [if_neg hc, if_neg]
      rintro ⟨h1, _⟩
      exact hc (h1 c (by simp))
theorem pum_eq : ∀ (l : List UInt8) (acc : Nat), acc ≤ 18446744073709551615 → (match Lib.parseUintM (2 ^ 64 - 1) acc l with | .ok u => some u | _ => none) = if (∀ c ∈ l, isDig c) ∧ valA l acc ≤ 18446744073709551615 then some (valA l acc) else none
  | [], acc, h => by simp [Lib.parseUintM, valA, h]
  | c :: r, acc, h => by
    unfold Lib.parseUintM
    by_cases hc : 48 ≤ c.toNat ∧ c.toNat ≤ 57
    · rw [if_pos hc]
      by_cases hb : 1844674407370955162 ≤ acc
      · rw [if_pos hb, if_neg]
        rintro ⟨_, h2⟩
        have := valA_le r (10 * acc + (c.toNat - 48))
        simp only [valA] at h2
        omega
      · rw [if_neg hb]
        by_cases hm : 2 ^ 64 - 1 < acc * 10 + (c.toNat - 48)
        · rw [if_pos hm, if_neg]
          rintro ⟨_, h2⟩
          have := valA_le r (10 * acc + (c.toNat - 48))
          simp only [valA] at h2
          omega
        · rw [if_neg hm, pum_eq r _ (by omega), Nat.mul_comm acc 10]
          have : (∀ x ∈ c :: r, isDig x) ↔ ∀ x ∈ r, isDig x := by
            constructor
            · exact fun h x hx => h x (by simp [hx])
            · intro h x hx
              rcases List.mem_cons.1 hx with rfl | hx
              · exact hc
              · exact h x hx
          simp only [this, valA]
    · rw [if_neg hc, if_neg]
      rintro ⟨h1, _⟩
      exact hc (h1 c (by simp))
/-- No leading zero, something there. -/
def lead (s : List UInt8) : Prop := s ≠ [] ∧ ¬ (1 < s.length ∧ s.head? = some 48)
instance (s : List UInt8) : Decidable (lead s) := by unfold lead; infer_instance
def numQ (s : List UInt8) (most : Nat) : Option Nat := if lead s then goQ most s 0 else none
theorem dec_head : ∀ (u : Nat), 0 < u → (Lib.decDigits u).head? ≠ some 48 := by
  intro u
  induction u using Nat.strongRecOn with
  | _ u ih =>
    intro h0
    rw [dec_split]
    split
    · rename_i h
      rw [List.nil_append, List.head?_cons]
      intro e
      simp only [Option.some.injEq] at e
      have h1 : (UInt8.ofNat (48 + u % 10)).toNat = 48 + u % 10 := UInt8.toNat_ofNat_of_lt' (by show 48 + u % 10 < 256; omega)
      rw [e] at h1
      have h2 : (48 : UInt8).toNat = 48 := rfl
      omega
    · rename_i h
      rw [List.head?_append]
      have := ih (u / 10) (by omega) (by omega)
      cases hh : (Lib.decDigits (u / 10)).head? with
      | none =>
        rw [List.head?_eq_none_iff] at hh
        have := Lib.decDigits_length (u / 10)
        rw [hh] at this
        have := Lib.nDigits_pos (u / 10)
        simp at *; omega
      | some x => rw [hh] at this; simpa using this
theorem dec_lead (u : Nat) : lead (Lib.decDigits u) := by
  have hl := Lib.decDigits_length u
  have hp := Lib.nDigits_pos u
  refine ⟨fun h => by rw [h] at hl; simp at hl; omega, ?_⟩
  rintro ⟨h1, h2⟩
  rcases Nat.eq_zero_or_pos u with h | h
  · subst h
    have : Lib.nDigits 0 = 1 := Lib.nDigits_small (by decide)
    omega
  · exact dec_head u h h2
theorem val_pos {l : List UInt8} (h : l ≠ []) (hd : ∀ c ∈ l, isDig c) (hh : l.head? ≠ some 48) : 0 < valA l 0 := by
  match l, h with
  | c :: r, _ =>
    have h1 : c ≠ 48 := by simpa using hh
    obtain ⟨c1, c2⟩ := hd c (by simp)
    have h2 : c.toNat ≠ 48 := fun e => h1 (by apply UInt8.toNat_inj.1; exact e)
    have := valA_le r (10 * 0 + (c.toNat - 48))
    simp only [valA]
    omega
theorem dec_val : ∀ (n : Nat) (l : List UInt8), l.length = n → lead l → (∀ c ∈ l, isDig c) → Lib.decDigits (valA l 0) = l := by
  intro n
  induction n with
  | zero => intro l hl h; exact absurd (List.eq_nil_of_length_eq_zero hl) h.1
  | succ n ih =>
    intro l hl h hd
    have hne := h.1
    obtain ⟨l', c, rfl⟩ : ∃ l' c, l = l' ++ [c] := ⟨l.dropLast, l.getLast hne, (List.dropLast_concat_getLast hne).symm⟩
    obtain ⟨c1, c2⟩ := hd c (by simp)
    have hc : UInt8.ofNat (48 + (c.toNat - 48)) = c := by rw [show 48 + (c.toNat - 48) = c.toNat by omega]; simp
    rw [valA_snoc, dec_split]
    have e1 : (10 * valA l' 0 + (c.toNat - 48)) / 10 = valA l' 0 := by omega
    have e2 : (10 * valA l' 0 + (c.toNat - 48)) % 10 = c.toNat - 48 := by omega
    rw [e1, e2, hc]
    by_cases h0 : l' = []
    · subst h0; simp [valA]
    · have hh : l'.head? ≠ some 48 := by
        intro e
        refine h.2 ⟨?_, ?_⟩
        · have := List.length_pos_iff.2 h0
          simp only [List.length_append, List.length_cons, List.length_nil]; omega
        · rw [List.head?_append, e]; rfl
      have hd' : ∀ x ∈ l', isDig x := fun x hx => hd x (by simp [hx])
      have hp := val_pos h0 hd' hh
      rw [if_neg (by omega), ih l' (by simp at hl; exact hl) ⟨h0, fun e => hh e.2⟩ hd']
/-- What the program's reader of a number takes. -/
theorem num_eq (s : List UInt8) : (match Lib.parseUintB 64 s with | .ok u => if Lib.decDigits u = s then some u else none | _ => none) = numQ s 18446744073709551615 := by
  unfold numQ Lib.parseUintB
  by_cases h0 : s = []
  · subst h0
    simp [lead]
  · rw [if_neg h0]
    have hp := pum_eq s 0 (by omega)
    rw [goQ_eq (by omega) s 0 (by omega)]
    by_cases hd : (∀ c ∈ s, isDig c) ∧ valA s 0 ≤ 18446744073709551615
    · rw [if_pos hd] at hp ⊢
      cases hq : Lib.parseUintM (2 ^ 64 - 1) 0 s with
      | ok u =>
        rw [hq] at hp
        simp only [Option.some.injEq] at hp
        subst hp
        by_cases hl : lead s
        · rw [if_pos hl]; simp only; rw [if_pos (dec_val _ s rfl hl hd.1)]
        · rw [if_neg hl]; simp only; rw [if_neg]
          intro e
          have := dec_lead (valA s 0)
          rw [e] at this
          exact hl this
      | range => rw [hq] at hp; cases hp
      | _ => rw [hq] at hp; cases hp
    · rw [if_neg hd] at hp ⊢
      have : (if lead s then (none : Option Nat) else none) = none := by split <;> rfl
      rw [this]
      cases hq : Lib.parseUintM (2 ^ 64 - 1) 0 s with
      | ok u => rw [hq] at hp; cases hp
      | range => rfl
      | _ => rfl
theorem numQ_le {s : List UInt8} {most u : Nat} (h9 : 9 ≤ most) (h : numQ s most = some u) : u ≤ most := by
  unfold numQ at h
  split at h
  · rw [goQ_eq h9 s 0 (by omega)] at h
    split at h
    · rename_i h1; simp only [Option.some.injEq] at h; omega
    · cases h
  · cases h
theorem numQ_63 (s : List UInt8) : numQ s 9223372036854775807 = match numQ s 18446744073709551615 with | some u => if u ≤ 9223372036854775807 then some u else none | none => none := by
  unfold numQ
  split
  · rw [goQ_eq (by omega) s 0 (by omega), goQ_eq (by omega) s 0 (by omega)]
    by_cases hd : ∀ c ∈ s, isDig c
    · by_cases h1 : valA s 0 ≤ 9223372036854775807
      · rw [if_pos ⟨hd, h1⟩, if_pos ⟨hd, by omega⟩]; simp only; rw [if_pos h1]
      · rw [if_neg (fun h => h1 h.2)]
        split
        · rename_i u hu
          split at hu
          · simp only [Option.some.injEq] at hu; subst hu; rw [if_neg h1]
          · cases hu
        · rfl
    · rw [if_neg (fun h => hd h.1), if_neg (fun h => hd h.1)]
  · rfl
theorem dec_dig : ∀ (u : Nat), ∀ c ∈ Lib.decDigits u, isDig c := by
  intro u
  induction u using Nat.strongRecOn with
  | _ u ih =>
    intro c hc
    rw [dec_split] at hc
    rcases List.mem_append.1 hc with hc | hc
    · split at hc
      · simp at hc
      · exact ih (u / 10) (by omega) c hc
    · simp only [List.mem_singleton] at hc
      subst hc
      have h1 : (UInt8.ofNat (48 + u % 10)).toNat = 48 + u % 10 := UInt8.toNat_ofNat_of_lt' (by show 48 + u % 10 < 256; omega)
      unfold isDig
      omega
theorem val_dec : ∀ (u : Nat), valA (Lib.decDigits u) 0 = u := by
  intro u
  induction u using Nat.strongRecOn with
  | _ u ih =>
    have h1 : (UInt8.ofNat (48 + u % 10)).toNat = 48 + u % 10 := UInt8.toNat_ofNat_of_lt' (by show 48 + u % 10 < 256; omega)
    rw [dec_split, valA_snoc, h1]
    split
    · rename_i h; simp only [valA]; omega
    · rename_i h; rw [ih (u / 10) (by omega)]; omega
theorem numQ_dec {u most : Nat} (h9 : 9 ≤ most) (h : u ≤ most) : numQ (Lib.decDigits u) most = some u := by
  unfold numQ
  rw [if_pos (dec_lead u), goQ_eq h9 _ 0 (by omega), val_dec, if_pos ⟨dec_dig u, h⟩]
theorem numQ_inv {s : List UInt8} {u most : Nat} (h9 : 9 ≤ most) (h : numQ s most = some u) : s = Lib.decDigits u := by
  unfold numQ at h
  split at h
  · rename_i hl
    rw [goQ_eq h9 s 0 (by omega)] at h
    split at h
    · rename_i hd
      simp only [Option.some.injEq] at h
      rw [← h, dec_val _ s rfl hl hd.1]
    · cases h
  · cases h
/-! ### The reference's reader of a number, step by step -/
section
variable {most : Nat} {s : List UInt8} {i acc : Nat} {c : UInt8}
theorem num_l0 (h : s.length = 0) : numQ s most = none := by
  have : s = [] := List.eq_nil_of_length_eq_zero h
  subst this; rfl
theorem num_l1 (h : 1 < s.length) (hc : s[0]? = some c) (h48 : nb c = 48) : numQ s most = none := by
  have e : c = 48 := nb_eq.1 (by rw [h48]; rfl)
  subst e
  unfold numQ
  rw [if_neg]
  rintro ⟨_, h2⟩
  exact h2 ⟨h, by rw [List.head?_eq_getElem?]; exact hc⟩
theorem num_l2 (h : s.length ≠ 0) (hc : ¬ 1 < s.length ∨ ∃ c, s[0]? = some c ∧ nb c ≠ 48) : numQ s most = goQ most s 0 := by
  unfold numQ
  rw [if_pos]
  refine ⟨fun e => h (by rw [e]; rfl), ?_⟩
  rintro ⟨h1, h2⟩
  rcases hc with hc | ⟨c, hc, hn⟩
  · exact hc h1
  · rw [List.head?_eq_getElem?, hc] at h2
    simp only [Option.some.injEq] at h2
    subst h2
    exact hn rfl
theorem gq_drop (hc : s[i]? = some c) : s.drop i = c :: s.drop (i + 1) := by
  obtain ⟨h1, h2⟩ := List.getElem?_eq_some_iff.1 hc
  rw [List.drop_eq_getElem_cons h1, h2]
theorem gq_no (h : goQ most s 0 = goQ most (s.drop i) acc) (hc : s[i]? = some c) (hd : nb c < 48 ∨ 57 < nb c) : goQ most s 0 = none := by
  rw [h, gq_drop hc]
  unfold goQ
  have e : nb c = (c.toNat : Int) := rfl
  rw [if_neg]
  rintro ⟨h1, h2⟩
  omega
theorem gq_big (h : goQ most s 0 = goQ most (s.drop i) acc) (hc : s[i]? = some c) (h1 : ¬ nb c < 48) (h2 : ¬ 57 < nb c) (hb : (most - (c.toNat - 48)) / 10 < acc) : goQ most s 0 = none := by
  rw [h, gq_drop hc]
  unfold goQ
  have e : nb c = (c.toNat : Int) := rfl
  rw [if_pos ⟨by omega, by omega⟩, if_pos hb]
theorem gq_next (h : goQ most s 0 = goQ most (s.drop i) acc) (hc : s[i]? = some c) (h1 : ¬ nb c < 48) (h2 : ¬ 57 < nb c) (hb : ¬ (most - (c.toNat - 48)) / 10 < acc) : goQ most s 0 = goQ most (s.drop (i + 1)) (10 * acc + (c.toNat - 48)) := by
  rw [h, gq_drop hc]
  conv => lhs; unfold goQ
  have e : nb c = (c.toNat : Int) := rfl
  rw [if_pos ⟨by omega, by omega⟩, if_neg hb]
theorem gq_end (h : goQ most s 0 = goQ most (s.drop i) acc) (hi : s.length ≤ i) : goQ most s 0 = some acc := by
  rw [h, List.drop_eq_nil_of_le hi]; rfl
end
end Go.Proofs.YtokeofoemjeleaaDoor
