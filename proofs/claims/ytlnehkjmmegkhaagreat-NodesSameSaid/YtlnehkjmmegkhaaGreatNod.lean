/- Virtual trees: names, strings, attributes; what a valid node is; how many nodes a valid tree has. -/
import Derived.Test.YtlnehkjmmegkhaaGreatYC
import Derived.Laws.RangeAny
import Derived.Laws.RangeString
import Derived.Shelf.GgClosure.StringsIndexFunc
namespace Go.Proofs.YtlnehkjmmegkhaaGreat
open Go Go.Y
structure AttrD where
 n : List UInt8
 v : List UInt8
def rdAttr : Rd AttrD := fun _ cs x => cs = [.string (str x.n), .string (str x.v)] ∧ x.n.length ≤ 9223372036854775807 ∧ x.v.length ≤ 9223372036854775807
theorem mono_rdAttr : Mono rdAttr := fun _ _ _ _ _ h => h
structure SlotD where
 n : List UInt8
 src : Int
 v : List UInt8
abbrev NT := Tr AttrD
abbrev PT := Tr SlotD
abbrev rdN : Rd NT := rdT rdAttr 2
theorem mono_rdN : Mono rdN := mono_rdT mono_rdAttr
/-! ### Names and strings -/
def NameB (c : UInt8) : Prop := (97 ≤ nb c ∧ nb c ≤ 122) ∨ (48 ≤ nb c ∧ nb c ≤ 57)
def Name (s : List UInt8) : Prop := (1 ≤ s.length ∧ s.length ≤ 16) ∧ ∀ c ∈ s, NameB c
def StrB (c : UInt8) : Prop := 32 ≤ nb c ∧ nb c ≤ 126
def Str (s : List UInt8) : Prop := s.length ≤ 64 ∧ ∀ c ∈ s, StrB c
theorem Str.nil : Str [] := ⟨by simp, by simp⟩
theorem all_step {p : UInt8 → Prop} {s : List UInt8} {i : Nat} {c : UInt8} (h : ∀ (m : Nat) (b : UInt8), m < i → s[m]? = some b → p b) (hc : s[i]? = some c) (hp : p c) : ∀ (m : Nat) (b : UInt8), m < i + 1 → s[m]? = some b → p b := by
 intro m b hm hb
 rcases Nat.lt_or_ge m i with h1 | h1
 ·exact h m b h1 hb
 ·have : m = i := by omega
  subst this; rw [hc] at hb; simp only [Option.some.injEq] at hb; subst hb; exact hp
theorem all_end {p : UInt8 → Prop} {s : List UInt8} {i : Nat} (h : ∀ (m : Nat) (b : UInt8), m < i → s[m]? = some b → p b) (hi : s.length ≤ i) : ∀ c ∈ s, p c := by
 intro c hc
 obtain ⟨m, hm⟩ := List.mem_iff_getElem?.1 hc
 exact h m c (by have := lt_of_get hm; omega) hm
theorem not_all {p : UInt8 → Prop} {s : List UInt8} {i : Nat} {c : UInt8} (hc : s[i]? = some c) (hp : ¬ p c) : ¬ ∀ c ∈ s, p c := fun h => hp (h c (List.mem_of_getElem? hc))
/-- The runes that no string of a tree has. -/
def badR (r : Nat) : Bool := decide ((r : Int) < 32) || decide (126 < (r : Int))
theorem idx_bad (l : List UInt8) : ∀ (f pos : Nat), l.length ≤ pos + f → (Lib.idxFuncFrom badR true (str l) f pos < 0 ↔ ∀ (m : Nat) (b : UInt8), pos ≤ m → l[m]? = some b → StrB b)
 | 0, pos, h => by
  have : Lib.idxFuncFrom badR true (str l) 0 pos = -1 := rfl
  rw [this]
  refine ⟨fun _ m b hm hb => ?_, fun _ => by decide⟩
  have := lt_of_get hb; omega
 | f + 1, pos, h => by
  unfold Lib.idxFuncFrom
  by_cases hp : pos < (str l).size
  ·rw [if_pos hp]
   have hl : pos < l.length := by rw [str_size] at hp; exact hp
   have hb : l[pos]? = some ((str l)[pos]'hp) := by rw [← str_get, getElem?_pos (str l) pos hp]
   generalize hB : (str l)[pos]'hp = B at hb
   by_cases ha : B.toNat < 128
   ·have hd := decode_ascii (str l) pos hp (by rw [hB]; exact ha)
    rw [hB] at hd
    rw [hd]
    by_cases hg : StrB B
    ·have hbad : badR B.toNat = false := by
      obtain ⟨h1, h2⟩ := hg
      simp only [nb] at h1 h2
      simp only [badR, Bool.or_eq_false_iff, decide_eq_false_iff_not]
      omega
     simp only [hbad, Bool.false_eq_true, if_false]
     rw [idx_bad l f (pos + 1) (by omega)]
     constructor
     ·intro h1 m b hm hb'
      rcases Nat.eq_or_lt_of_le hm with e | e
      ·subst e; rw [hb] at hb'; simp only [Option.some.injEq] at hb'; subst hb'; exact hg
      ·exact h1 m b (by omega) hb'
     ·exact fun h1 m b hm hb' => h1 m b (by omega) hb'
    ·have hbad : badR B.toNat = true := by
      simp only [StrB, nb] at hg
      simp only [badR, Bool.or_eq_true, decide_eq_true_eq]
      omega
     simp only [hbad, if_true]
     refine ⟨fun h1 => by omega, fun h1 => absurd (h1 pos B (Nat.le_refl _) hb) hg⟩
   ·have hd := (decode_high (str l) pos hp (by rw [hB]; omega)).1
    have hbad : badR (Utf8.decode (str l) pos).1 = true := by
     simp only [badR, Bool.or_eq_true, decide_eq_true_eq]
     omega
    simp only [hbad, if_true]
    refine ⟨fun h1 => by omega, fun h1 => ?_⟩
    have := (h1 pos B (Nat.le_refl _) hb).2
    simp only [nb] at this; omega
  ·rw [if_neg hp]
   refine ⟨fun _ m b hm hb => ?_, fun _ => by decide⟩
   have := lt_of_get hb; rw [str_size] at hp; omega
theorem idx_str (l : List UInt8) : Lib.idxFunc badR true (str l) < 0 ↔ ∀ c ∈ l, StrB c := by
 unfold Lib.idxFunc
 rw [idx_bad l _ 0 (by rw [str_size]; omega)]
 constructor
 ·intro h c hc
  obtain ⟨m, hm⟩ := List.mem_iff_getElem?.1 hc
  exact h m c (Nat.zero_le _) hm
 ·exact fun h m b _ hb => h b (List.mem_of_getElem? hb)
/-! ### The order of strings -/
theorem bl_irrefl : ∀ l : List UInt8, Op.bytesLess l l = false
 | [] => rfl
 | a :: l => by simp [Op.bytesLess, bl_irrefl l]
theorem bl_trans : ∀ {a b c : List UInt8}, Op.bytesLess a b = true → Op.bytesLess b c = true → Op.bytesLess a c = true
 | [], [], _, h, _ => by simp [Op.bytesLess] at h
 | [], _ :: _, [], _, h => by simp [Op.bytesLess] at h
 | [], _ :: _, _ :: _, _, _ => by simp [Op.bytesLess]
 | _ :: _, [], _, h, _ => by simp [Op.bytesLess] at h
 | _ :: _, _ :: _, [], _, h => by simp [Op.bytesLess] at h
 | x :: a, y :: b, z :: c, h1, h2 => by
  simp only [Op.bytesLess, Bool.or_eq_true, Bool.and_eq_true, decide_eq_true_eq, beq_iff_eq] at h1 h2 ⊢
  rcases h1 with h1 | ⟨rfl, h1⟩
  ·rcases h2 with h2 | ⟨rfl, h2⟩
   ·exact Or.inl (UInt8.lt_trans h1 h2)
   ·exact Or.inl h1
  ·rcases h2 with h2 | ⟨rfl, h2⟩
   ·exact Or.inl h2
   ·exact Or.inr ⟨rfl, bl_trans h1 h2⟩
theorem bl_total : ∀ (a b : List UInt8), Op.bytesLess a b = true ∨ a = b ∨ Op.bytesLess b a = true
 | [], [] => Or.inr (Or.inl rfl)
 | [], _ :: _ => Or.inl rfl
 | _ :: _, [] => Or.inr (Or.inr rfl)
 | x :: a, y :: b => by
  simp only [Op.bytesLess, Bool.or_eq_true, Bool.and_eq_true, decide_eq_true_eq, beq_iff_eq, List.cons.injEq]
  rcases UInt8.lt_or_lt_of_ne (a := x) (b := y) |> fun f => (Decidable.em (x = y)).symm.imp f id with h | h
  ·rcases h with h | h
   ·exact Or.inl (Or.inl h)
   ·exact Or.inr (Or.inr (Or.inl h))
  ·subst h
   rcases bl_total a b with h | h | h
   ·exact Or.inl (Or.inr ⟨rfl, h⟩)
   ·exact Or.inr (Or.inl ⟨rfl, h⟩)
   ·exact Or.inr (Or.inr (Or.inr ⟨rfl, h⟩))
/-- 'a ≤ b' as the machine tells it is 'not b < a'. -/
theorem bl_le {a b : List UInt8} : (Op.bytesLess a b || a == b) = true ↔ ¬ Op.bytesLess b a = true := by
 constructor
 ·intro h h2
  simp only [Bool.or_eq_true, beq_iff_eq] at h
  rcases h with h | rfl
  ·have := bl_trans h h2
   rw [bl_irrefl] at this; cases this
  ·rw [bl_irrefl] at h2; cases h2
 ·intro h
  simp only [Bool.or_eq_true, beq_iff_eq]
  rcases bl_total a b with h1 | h1 | h1
  ·exact Or.inl h1
  ·exact Or.inr h1
  ·exact absurd h1 h
/-! ### Valid nodes -/
def AttrsOk (l : List AttrD) : Prop := ∀ (i : Nat) (x : AttrD), l[i]? = some x → (Name x.n ∧ Str x.v) ∧ ∀ y, 0 < i → l[i - 1]? = some y → Op.bytesLess y.n x.n = true
def KeysOk (l : List NT) : Prop := ∀ (i j : Nat) (a b : NT), i < j → l[i]? = some a → l[j]? = some b → b.key ≠ [] → a.key ≠ b.key
def Alone (x : NT) : Prop := (x.kind = 2 ∧ Str x.text ∧ x.tag = [] ∧ x.key = [] ∧ x.as.length = 0 ∧ x.kids.length = 0) ∨
 (¬ x.kind = 2 ∧ x.kind = 1 ∧ Name x.tag ∧ (x.key = [] ∨ Name x.key) ∧ x.text = [] ∧ x.as.length ≤ 8 ∧ x.kids.length ≤ 16 ∧ AttrsOk x.as ∧ KeysOk x.kids)
def Valid (x : NT) : Prop := Tr.Ok Alone 6 x ∧ x.size ≤ 64
open Classical in
/-- The number of nodes of a valid tree, 0 for another one. -/
noncomputable def cntF (x : NT) : Nat := if Valid x then x.size else 0
theorem cntF_pos {x : NT} : 0 < cntF x ↔ Valid x := by
 unfold cntF
 split
 ·rename_i h; exact ⟨fun _ => h, fun _ => Tr.size_pos x⟩
 ·rename_i h; exact ⟨fun h2 => by omega, fun h2 => absurd h2 h⟩
theorem AttrsOk.all {l : List AttrD} (h : AttrsOk l) : ∀ (i k : Nat) (x y : AttrD), k < i → l[i]? = some x → l[k]? = some y → Op.bytesLess y.n x.n = true := by
 intro i
 induction i with
 | zero => intro k x y hk; omega
 | succ i ih =>
  intro k x y hk hx hy
  obtain ⟨z, hz⟩ := get_of_lt (xs := l) (i := i) (by have := lt_of_get hx; omega)
  have h1 := (h (i + 1) x hx).2 z (by omega) hz
  rcases Nat.eq_or_lt_of_le (show k ≤ i by omega) with e | e
  ·subst e; rw [hz] at hy; simp only [Option.some.injEq] at hy; subst hy; exact h1
  ·exact bl_trans (ih k z y e hz hy) h1
/-! ### The scans -/
def AttrsTo (l : List AttrD) (i : Nat) : Prop := ∀ (m : Nat) (x : AttrD), m < i → l[m]? = some x → (Name x.n ∧ Str x.v) ∧ ∀ y, 0 < m → l[m - 1]? = some y → Op.bytesLess y.n x.n = true
theorem AttrsTo.zero (l : List AttrD) : AttrsTo l 0 := fun m x h => by omega
theorem AttrsTo.step {l : List AttrD} {i : Nat} {x : AttrD} (h : AttrsTo l i) (hx : l[i]? = some x) (hn : Name x.n) (hv : Str x.v) (ho : ∀ y, 0 < i → l[i - 1]? = some y → Op.bytesLess y.n x.n = true) : AttrsTo l (i + 1) := by
 intro m z hm hz
 rcases Nat.eq_or_lt_of_le (show m ≤ i by omega) with e | e
 ·subst e; rw [hx] at hz; simp only [Option.some.injEq] at hz; subst hz; exact ⟨⟨hn, hv⟩, ho⟩
 ·exact h m z e hz
theorem AttrsTo.all {l : List AttrD} {i : Nat} (h : AttrsTo l i) (hi : l.length ≤ i) : AttrsOk l := fun m x hx => h m x (by have := lt_of_get hx; omega) hx
theorem attrs_no1 {l : List AttrD} {i : Nat} {x : AttrD} (hx : l[i]? = some x) (h : ¬ Name x.n ∨ ¬ Str x.v) : ¬ AttrsOk l := fun ho => by
 have := (ho i x hx).1
 rcases h with h | h
 ·exact h this.1
 ·exact h this.2
theorem attrs_no2 {l : List AttrD} {i k : Nat} {x y : AttrD} (hx : l[i]? = some x) (hy : l[k]? = some y) (hk : k < i) (h : ¬ Op.bytesLess y.n x.n = true) : ¬ AttrsOk l := fun ho => h (ho.all i k x y hk hx hy)
def KeysTo (l : List NT) (j : Nat) : Prop := ∀ (i m : Nat) (a b : NT), i < m → m < j → l[i]? = some a → l[m]? = some b → b.key ≠ [] → a.key ≠ b.key
theorem KeysTo.zero (l : List NT) : KeysTo l 0 := fun i m a b h1 h2 => by omega
theorem KeysTo.step {l : List NT} {j : Nat} {x : NT} (h : KeysTo l j) (hx : l[j]? = some x) (hn : x.key = [] ∨ ∀ i a, i < j → l[i]? = some a → a.key ≠ x.key) : KeysTo l (j + 1) := by
 intro i m a b h1 h2 ha hb hk
 rcases Nat.eq_or_lt_of_le (show m ≤ j by omega) with e | e
 ·subst e
  rw [hx] at hb; simp only [Option.some.injEq] at hb; subst hb
  rcases hn with hn | hn
  ·exact absurd hn hk
  ·exact hn i a h1 ha
 ·exact h i m a b h1 e ha hb hk
theorem KeysTo.all {l : List NT} {j : Nat} (h : KeysTo l j) (hj : l.length ≤ j) : KeysOk l := fun i m a b h1 ha hb => h i m a b h1 (by have := lt_of_get hb; omega) ha hb
theorem keys_no {l : List NT} {i j : Nat} {a b : NT} (h1 : i < j) (ha : l[i]? = some a) (hb : l[j]? = some b) (hk : b.key ≠ []) (he : a.key = b.key) : ¬ KeysOk l := fun h => h i j a b h1 ha hb hk he
/-- Whether one of the nodes has the key. -/
def HasKey (l : List NT) (k : List UInt8) : Prop := ∃ d ∈ l, d.key = k
theorem haskey_no {l : List NT} {j : Nat} {x : NT} (hx : l[j]? = some x) (hk : x.key ≠ []) (h : HasKey (l.take j) x.key) : ¬ KeysOk l := by
 obtain ⟨d, hd, he⟩ := h
 obtain ⟨i, hi⟩ := List.mem_iff_getElem?.1 hd
 rw [List.getElem?_take] at hi
 split at hi
 ·exact keys_no (by assumption) hi hx hk he
 ·cases hi
theorem haskey_step {l : List NT} {j : Nat} {x : NT} (h : ¬ HasKey (l.take j) x.key) : ∀ i a, i < j → l[i]? = some a → a.key ≠ x.key := by
 intro i a hi ha e
 exact h ⟨a, List.mem_of_getElem? (by rw [List.getElem?_take, if_pos hi]; exact ha), e⟩
/-- What is asked of an element's own fields. -/
def Elem (x : NT) : Prop := x.kind = 1 ∧ Name x.tag ∧ (x.key = [] ∨ Name x.key) ∧ x.text = [] ∧ x.as.length ≤ 8 ∧ x.kids.length ≤ 16
theorem alone_words {x : NT} (h : x.kind = 2) : Alone x ↔ (Str x.text ∧ x.tag = [] ∧ x.key = [] ∧ x.as.length = 0 ∧ x.kids.length = 0) := by
 unfold Alone
 constructor
 ·rintro (⟨_, h⟩ | ⟨h1, _⟩)
  ·exact h
  ·exact absurd h h1
 ·exact fun h2 => Or.inl ⟨h, h2⟩
theorem alone_elem {x : NT} (h : ¬ x.kind = 2) : Alone x ↔ (Elem x ∧ AttrsOk x.as ∧ KeysOk x.kids) := by
 unfold Alone Elem
 constructor
 ·rintro (⟨h1, _⟩ | ⟨_, a, b, c, d, e, f, g, i⟩)
  ·exact absurd h1 h
  ·exact ⟨⟨a, b, c, d, e, f⟩, g, i⟩
 ·rintro ⟨⟨a, b, c, d, e, f⟩, g, i⟩
  exact Or.inr ⟨h, a, b, c, d, e, f, g, i⟩
theorem alone_len {x : NT} (h : Alone x) : x.kids.length ≤ 16 ∧ x.as.length ≤ 8 := by
 rcases h with ⟨_, _, _, _, h1, h2⟩ | ⟨_, _, _, _, _, h1, h2, _⟩ <;> omega
/-! ### Equal trees -/
theorem list_eq_of {α : Type} {l r : List α} (hl : l.length = r.length) (h : ∀ (m : Nat) (a b : α), l[m]? = some a → r[m]? = some b → a = b) : l = r := by
 apply List.ext_getElem?
 intro m
 rcases Nat.lt_or_ge m l.length with h1 | h1
 ·rw [List.getElem?_eq_getElem h1, List.getElem?_eq_getElem (by omega)]
  exact congrArg some (h m _ _ (List.getElem?_eq_getElem h1) (List.getElem?_eq_getElem (by omega)))
 ·rw [List.getElem?_eq_none h1, List.getElem?_eq_none (by omega)]
theorem tree_eq {β : Type} {a b : Tr β} (h1 : a.kind = b.kind) (h2 : a.tag = b.tag) (h3 : a.key = b.key) (h4 : a.as = b.as) (h5 : a.text = b.text) (h6 : a.kids = b.kids) : a = b := by
 rw [Tr.eta a, Tr.eta b, h1, h2, h3, h4, h5, h6]
theorem attr_eq {a b : AttrD} (h : a.n = b.n ∧ a.v = b.v) : a = b := by
 cases a; cases b; simp_all
theorem as_ne {a b : NT} {i : Nat} {x y : AttrD} (hx : a.as[i]? = some x) (hy : b.as[i]? = some y) (h : ¬ (x.n = y.n ∧ x.v = y.v)) : a ≠ b := by
 rintro rfl
 rw [hx] at hy
 simp only [Option.some.injEq] at hy
 subst hy; exact h ⟨rfl, rfl⟩
theorem kids_ne {a b : NT} {i : Nat} {x y : NT} (hx : a.kids[i]? = some x) (hy : b.kids[i]? = some y) (h : x ≠ y) : a ≠ b := by
 rintro rfl
 rw [hx] at hy
 simp only [Option.some.injEq] at hy
 exact h hy
theorem pair_snoc {α : Type} {l r : List α} {i : Nat} {x y : α} (h : ∀ (m : Nat) (a b : α), m < i → l[m]? = some a → r[m]? = some b → a = b) (hx : l[i]? = some x) (hy : r[i]? = some y) (e : x = y) : ∀ (m : Nat) (a b : α), m < i + 1 → l[m]? = some a → r[m]? = some b → a = b := by
 intro m a b hm ha hb
 rcases Nat.eq_or_lt_of_le (show m ≤ i by omega) with h1 | h1
 ·subst h1; rw [hx] at ha; rw [hy] at hb; simp only [Option.some.injEq] at ha hb; rw [← ha, ← hb]; exact e
 ·exact h m a b h1 ha hb
open Classical in
noncomputable def eqF (a b : NT) : Int := if a = b then 1 else 0
theorem eqF_yes {a b : NT} (h : a = b) : eqF a b = 1 := by unfold eqF; rw [if_pos h]
theorem eqF_no {a b : NT} (h : a ≠ b) : eqF a b = 0 := by unfold eqF; rw [if_neg h]
theorem eqF_zero {a b : NT} : eqF a b = 0 ↔ a ≠ b := by
 unfold eqF
 split
 ·rename_i h; exact ⟨fun h2 => (by cases h2), fun h2 => absurd h h2⟩
 ·rename_i h; exact ⟨fun _ => h, fun _ => rfl⟩
/-! ### Counting -/
section
variable {β : Type} {A : Tr β → Prop}
theorem ok_at {x : Tr β} {lev : Nat} (h : lev ≤ 6) : Tr.Ok A (7 - lev) x ↔ A x ∧ ∀ c ∈ x.kids, Tr.Ok A (7 - (lev + 1)) c := by
 have e : 7 - lev = (7 - (lev + 1)) + 1 := by omega
 rw [e]; exact Iff.rfl
theorem meas_no0 {x : Tr β} {c lev : Nat} (h : 6 < lev ∨ 64 < c + 1 ∨ ¬ A x) : ¬ (Tr.Ok A (7 - lev) x ∧ c + x.size ≤ 64) := by
 rintro ⟨h1, h2⟩
 have := Tr.size_pos x
 rcases h with h | h | h
 ·rw [show 7 - lev = 0 by omega] at h1; exact h1
 ·omega
 ·rcases Nat.lt_or_ge 6 lev with h3 | h3
  ·rw [show 7 - lev = 0 by omega] at h1; exact h1
  ·exact h ((ok_at h3).1 h1).1
theorem sizes_kid {x X : Tr β} {i : Nat} (hX : x.kids[i]? = some X) : Tr.sizes (x.kids.take i) + X.size + 1 ≤ x.size := by
 have h1 := Tr.sizes_snoc hX
 have h2 := Tr.sizes_take_le x.kids (i + 1)
 rw [Tr.size_eq x]; omega
theorem meas_no_kid {x X : Tr β} {i c lev : Nat} (hX : x.kids[i]? = some X) (hl : lev ≤ 6) (h : ¬ (Tr.Ok A (7 - (lev + 1)) X ∧ c + 1 + Tr.sizes (x.kids.take i) + X.size ≤ 64)) : ¬ (Tr.Ok A (7 - lev) x ∧ c + x.size ≤ 64) := by
 rintro ⟨h1, h2⟩
 have := sizes_kid hX
 exact h ⟨((ok_at hl).1 h1).2 X (List.mem_of_getElem? hX), by omega⟩
theorem meas_yes {x : Tr β} {lev i : Nat} (hl : lev ≤ 6) (hA : A x) (hi : x.kids.length ≤ i) (hO : ∀ (m : Nat) (y : Tr β), m < i → x.kids[m]? = some y → Tr.Ok A (7 - (lev + 1)) y) : Tr.Ok A (7 - lev) x := by
 refine (ok_at hl).2 ⟨hA, fun c hc => ?_⟩
 obtain ⟨m, hm⟩ := List.mem_iff_getElem?.1 hc
 exact hO m c (by have := lt_of_get hm; omega) hm
theorem ok_step {l : List (Tr β)} {p : Tr β → Prop} {i : Nat} {X : Tr β} (h : ∀ (m : Nat) (y : Tr β), m < i → l[m]? = some y → p y) (hX : l[i]? = some X) (hp : p X) : ∀ (m : Nat) (y : Tr β), m < i + 1 → l[m]? = some y → p y := by
 intro m y hm hy
 rcases Nat.eq_or_lt_of_le (show m ≤ i by omega) with e | e
 ·subst e; rw [hX] at hy; simp only [Option.some.injEq] at hy; subst hy; exact hp
 ·exact h m y e hy
theorem sizes_full {x : Tr β} {i : Nat} (hi : x.kids.length ≤ i) : Tr.sizes (x.kids.take i) + 1 = x.size := by rw [List.take_of_length_le hi, Tr.size_eq]
theorem depths_full {x : Tr β} {i : Nat} (hi : x.kids.length ≤ i) : Tr.depths (x.kids.take i) + 1 = x.depth := by rw [List.take_of_length_le hi, Tr.depth_eq]
structure Cnt (A : Tr β → Prop) (x : Tr β) (lev r : Nat) : Prop where
 lo : 1 ≤ r
 hi : r ≤ 1000 + 64 * lev
 ok : r ≤ 64 ↔ (Tr.Ok A lev x ∧ x.size ≤ 64)
 eq : r ≤ 64 → r = x.size
theorem Cnt.bad {x : Tr β} {lev : Nat} (h : lev < 1 ∨ ¬ A x) : Cnt A x lev 1000 := by
  refine ⟨by omega, by omega, ⟨fun h2 => by omega, fun h2 => ?_⟩, fun h2 => by omega⟩
  cases lev with
  | zero => exact h2.1.elim
  | succ n => rcases h with h | h
              · omega
              · exact absurd h2.1.1 h
structure CntL (A : Tr β → Prop) (x : Tr β) (lev i c : Nat) : Prop where
 lo : 1 ≤ c
 hi : c ≤ 1000 + 64 * lev
 good : c ≤ 64 → c = 1 + Tr.sizes (x.kids.take i) ∧ ∀ (m : Nat) (y : Tr β), m < i → x.kids[m]? = some y → Tr.Ok A (lev - 1) y
 bad : 64 < c → ¬ (Tr.Ok A lev x ∧ x.size ≤ 64)
theorem CntL.zero {A : Tr β → Prop} (x : Tr β) (lev : Nat) : CntL A x lev 0 1 := ⟨by omega, by omega, fun _ => ⟨by simp [Tr.sizes], fun m y h => by omega⟩, fun h => by omega⟩
theorem CntL.step {x X : Tr β} {lev i c r : Nat} (h : CntL A x lev i c) (hl : 1 ≤ lev) (hc : c ≤ 64) (hX : x.kids[i]? = some X) (hr : Cnt A X (lev - 1) r) : CntL A x lev (i + 1) (c + r) := by
 obtain ⟨g1, g2⟩ := h.good hc
 have hs := Tr.sizes_snoc hX
 have hk := sizes_kid hX
 have hlo := hr.lo
 have hhi := hr.hi
 refine ⟨by omega, by omega, fun h2 => ?_, fun h2 => ?_⟩
 ·have h3 : r ≤ 64 := by omega
  exact ⟨by rw [hr.eq h3]; omega, ok_step g2 hX (hr.ok.1 h3).1⟩
 ·rintro ⟨h3, h4⟩
  have h5 : Tr.Ok A (lev - 1) X := by
   cases lev with
   | zero => omega
   | succ n => exact h3.2 X (List.mem_of_getElem? hX)
  have h6 := hr.ok.2 ⟨h5, by omega⟩
  have := hr.eq h6
  omega
theorem CntL.done {x : Tr β} {lev i c : Nat} (h : CntL A x lev i c) (hl : 1 ≤ lev) (hA : A x) (hi : x.kids.length ≤ i ∨ 64 < c) : Cnt A x lev c := by
 refine ⟨h.lo, h.hi, ⟨fun h2 => ?_, fun h2 => ?_⟩, fun h2 => ?_⟩
 ·obtain ⟨g1, g2⟩ := h.good h2
  have hi' : x.kids.length ≤ i := by omega
  have := sizes_full hi'
  refine ⟨?_, by omega⟩
  cases lev with
  | zero => omega
  | succ n =>
   refine ⟨hA, fun y hy => ?_⟩
   obtain ⟨m, hm⟩ := List.mem_iff_getElem?.1 hy
   exact g2 m y (by have := lt_of_get hm; omega) hm
 ·rcases Nat.lt_or_ge 64 c with h3 | h3
  ·exact absurd h2 (h.bad h3)
  ·exact h3
 ·obtain ⟨g1, _⟩ := h.good h2
  have := sizes_full (x := x) (i := i) (by omega)
  omega
end
open Classical in
/-- The number of levels of a valid tree, 0 for another one. -/
noncomputable def depF (x : NT) : Nat := if Valid x then x.depth else 0
theorem cntF_yes {x : NT} (h : Valid x) : cntF x = x.size := by unfold cntF; rw [if_pos h]
theorem cntF_no {x : NT} (h : ¬ Valid x) : cntF x = 0 := by unfold cntF; rw [if_neg h]
theorem depF_yes {x : NT} (h : Valid x) : depF x = x.depth := by unfold depF; rw [if_pos h]
theorem depF_no {x : NT} (h : ¬ Valid x) : depF x = 0 := by unfold depF; rw [if_neg h]
open Classical in
/-- The error of a tree. -/
noncomputable def chkF (x : NT) : Int := if Valid x then 0 else 14
theorem chkF_yes {x : NT} (h : Valid x) : chkF x = 0 := by unfold chkF; rw [if_pos h]
theorem chkF_no {x : NT} (h : ¬ Valid x) : chkF x = 14 := by unfold chkF; rw [if_neg h]
theorem Cnt.cntF {x : NT} {r : Nat} (h : Cnt Alone x 6 r) : (64 < r → cntF x = 0) ∧ (r ≤ 64 → cntF x = r) := by
 refine ⟨fun h1 => cntF_no fun h2 => ?_, fun h1 => ?_⟩
 ·have := h.ok.2 h2; omega
 ·rw [cntF_yes (h.ok.1 h1), h.eq h1]
open Classical in
/-- What the reference's Same hands back. -/
noncomputable def sameF (a b : NT) : Int := if Valid a ∧ Valid b ∧ a = b then 1 else 0
theorem sameF_yes {a b : NT} (h : Valid a ∧ Valid b ∧ a = b) : sameF a b = 1 := by unfold sameF; rw [if_pos h]
theorem sameF_no {a b : NT} (h : ¬ (Valid a ∧ Valid b ∧ a = b)) : sameF a b = 0 := by unfold sameF; rw [if_neg h]
theorem sameF_eq {a b : NT} (h1 : Valid a) (h2 : Valid b) : sameF a b = eqF a b := by
 by_cases e : a = b
 ·rw [sameF_yes ⟨h1, h2, e⟩, eqF_yes e]
 ·rw [sameF_no (fun h => e h.2.2), eqF_no e]
end Go.Proofs.YtlnehkjmmegkhaaGreat
