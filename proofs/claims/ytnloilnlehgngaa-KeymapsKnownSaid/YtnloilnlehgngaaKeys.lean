/- The plain theory of the map: the keys; what is said of copies. -/
import Derived.Test.YtnloilnlehgngaaWid
import Derived.Test.YtnloilnlehgngaaSort
import Derived.Test.YtnloilnlehgngaaYRules4
namespace Go.Proofs.Ytnloilnlehgngaa
open Go Go.Y

def rdU : Rd Int := fun _ cs x => cs = [.int .u64 x] ∧ inKind .u64 x
theorem mono_rdU : Mono rdU := fun _ _ _ _ _ h => h
theorem Els_eu {G : Ghost} : ∀ {l : List Int}, (∀ x ∈ l, inKind .u64 x) → Els rdU 1 G (l.map eu) l
  | [], _ => rfl
  | x :: l, h => ⟨[.int .u64 x], l.map eu, rfl, rfl, ⟨rfl, h x (by simp)⟩, Els_eu fun y hy => h y (by simp [hy])⟩

section
variable {s : List SlotD} {many tombs : Int} {ps : List PairD} {most : Nat} {i : Nat} {x : SlotD}

theorem U_take_used (hx : s[i]? = some x) (h : x.st = 1) : U (s.take (i + 1)) = U (s.take i) ++ [toP x] := by
  rw [take_succ_get hx, U_append, U_one, if_pos h]
theorem U_take_not (hx : s[i]? = some x) (h : x.st ≠ 1) : U (s.take (i + 1)) = U (s.take i) := by
  rw [take_succ_get hx, U_append, U_one, if_neg h, List.append_nil]
theorem U_take_le (s : List SlotD) (i : Nat) : (U (s.take i)).length ≤ (U s).length := by
  conv => rhs; rw [← List.take_append_drop i s, U_append, List.length_append]
  omega
theorem KOK.ulen (K : KOK s many tombs ps most) : (U s).length = ps.length := K.perm.length_eq
theorem KOK.room (K : KOK s many tombs ps most) (hx : s[i]? = some x) (h : x.st = 1) : (U (s.take i)).length + 1 ≤ ps.length := by
  have h1 := U_take_le s (i + 1)
  rw [U_take_used hx h, List.length_append, K.ulen] at h1
  exact h1
theorem KOK.sortd (K : KOK s many tombs ps most) {d : List Int} (h1 : d.Perm ((U s).map PairD.key)) (h2 : d.Pairwise (· ≤ ·)) : d = ps.map PairD.key :=
  sorted_eq _ _ (h1.trans (K.perm.map _)) h2 (by rw [List.pairwise_map]; exact K.sorted.imp fun h => by omega)
end
theorem map_snoc (ks : List PairD) (x : SlotD) : (ks.map PairD.key).map eu ++ [.int .u64 x.key] = ((ks ++ [toP x]).map PairD.key).map eu := by simp [eu, toP]

/-! ### What 'same' looks at -/
theorem pow_le16 {p e : Nat} (hp : p = 2 ^ e) (h : p ≤ 65536) : e ≤ 16 := by
  subst hp
  rcases Nat.lt_or_ge 16 e with h' | h'
  · have : 2 ^ 17 ≤ 2 ^ e := Nat.pow_le_pow_right (by omega) h'
    omega
  · exact h'
theorem pow_gt16 {p e : Nat} (hp : p = 2 ^ e) (h : ¬ p ≤ 65536) : 17 ≤ e := by
  subst hp
  rcases Nat.lt_or_ge 16 e with h' | h'
  · exact h'
  · have : 2 ^ e ≤ 2 ^ 16 := Nat.pow_le_pow_right (by omega) h'
    omega
theorem pw_start {n : Nat} (h : n = 0 ∨ ∃ e2, 3 ≤ e2 ∧ e2 < 3 ∧ n = 2 ^ e2) : ((n : Nat) : Int) = 0 := by
  rcases h with h | ⟨e2, h1, h2, _⟩ <;> omega
theorem pw_step {n e p : Nat} {pw : Bool} (hpw : (n = 0 ∨ ∃ e2, 3 ≤ e2 ∧ e2 < e ∧ n = 2 ^ e2) → pw = true) (h : pw = false) (hp : p = 2 ^ e) (h2 : n = 0 ∨ ∃ e2, 3 ≤ e2 ∧ e2 < e + 1 ∧ n = 2 ^ e2) : ((p : Nat) : Int) = ((n : Nat) : Int) := by
  rcases h2 with h2 | ⟨e2, h3, h4, h5⟩
  · rw [hpw (Or.inl h2)] at h; cases h
  · rcases Nat.lt_or_ge e2 e with h6 | h6
    · rw [hpw (Or.inr ⟨e2, h3, h6, h5⟩)] at h; cases h
    · have : e2 = e := by omega
      subst this
      rw [h5, hp]
theorem pw_end {s : List SlotD} {many tombs : Int} {ps : List PairD} {most n e : Nat} (K : KOK s many tombs ps most) (hn : n = s.length) (he : 17 ≤ e) : n = 0 ∨ ∃ e2, 3 ≤ e2 ∧ e2 < e ∧ n = 2 ^ e2 := by
  rcases K.pow with h | ⟨e2, h1, h2, h3⟩
  · left; rw [hn, h]; rfl
  · exact Or.inr ⟨e2, h1, by omega, by rw [hn, h3]⟩
theorem getF_mem {ps : List PairD} (hs : ps.Pairwise (fun a b => a.key < b.key)) {i : Nat} {x : PairD} (h : ps[i]? = some x) : getF ps x.key = (x.v, true) :=
  getF_hit hs (List.mem_of_getElem? h)
theorem wrap_ink (k : IntKind) (n : Int) : inKind k (k.wrap n) := by
  cases k <;> simp [inKind, IntKind.wrap, IntKind.min, IntKind.max, IntKind.bits, IntKind.signed] <;> omega
end Go.Proofs.Ytnloilnlehgngaa
