/- The plain theory of the map: slots, probing, what a look finds. -/
import Derived.Test.YtokeofoemjeleaaDoorPlain
import Derived.Laws.Closers25b
namespace Go.Proofs.YtokeofoemjeleaaDoor
open Go Go.Y

def mix (x : Int) : Int :=
  bits .xor .u64
    (IntKind.u64.wrap (bits .xor .u64 (IntKind.u64.wrap (bits .xor .u64 x (x / 1073741824) * 13787848793156543929)) (IntKind.u64.wrap (bits .xor .u64 x (x / 1073741824) * 13787848793156543929) / 134217728) * 10723151780598845931))
    (IntKind.u64.wrap (bits .xor .u64 (IntKind.u64.wrap (bits .xor .u64 x (x / 1073741824) * 13787848793156543929)) (IntKind.u64.wrap (bits .xor .u64 x (x / 1073741824) * 13787848793156543929) / 134217728) * 10723151780598845931) / 2147483648)
theorem mix_lo (x : Int) : 0 ≤ mix x := bits_lo_u64 _ _ _
theorem mix_hi (x : Int) : mix x ≤ 18446744073709551615 := bits_hi_u64 _ _ _

structure SlotD where
  st : Int
  key : Int
  v : Int
def rdSlot : Rd SlotD := fun _ cs x => cs = [.int .u8 x.st, .int .u64 x.key, .int .i64 x.v] ∧ (x.st = 0 ∨ x.st = 1 ∨ x.st = 2) ∧ inKind .u64 x.key ∧ inKind .i64 x.v
theorem mono_rdSlot : Mono rdSlot := fun _ _ _ _ _ h => h

def home (n : Nat) (key : Int) : Nat := (mix key).toNat % n
def Reach (s : List SlotD) (key : Int) (i : Nat) : Prop :=
  ∃ D, D < s.length ∧ (home s.length key + D) % s.length = i ∧ ∀ d, d < D → ∀ y, s[(home s.length key + d) % s.length]? = some y → y.st ≠ 0
def PI (s : List SlotD) : Prop := ∀ i x, s[i]? = some x → x.st = 1 → Reach s x.key i
def HasFree (s : List SlotD) : Prop := ∃ (i : Nat) (x : SlotD), s[i]? = some x ∧ x.st = 0
def LookR (s : List SlotD) (key : Int) (p : Nat) (f : Bool) : Prop :=
  p < s.length ∧ (f = true → ∃ x, s[p]? = some x ∧ x.st = 1 ∧ x.key = key) ∧
  (f = false → (∀ (i : Nat) (x : SlotD), s[i]? = some x → x.st = 1 → x.key ≠ key) ∧ (∃ x, s[p]? = some x ∧ x.st ≠ 1) ∧ Reach s key p)

/-- Where the look has been. -/
def Vis (s : List SlotD) (key : Int) (d : Nat) (gr : Int) : Prop :=
  (∃ D0, D0 < s.length ∧ d ≤ D0 ∧ ∃ y, s[(home s.length key + D0) % s.length]? = some y ∧ y.st = 0) ∧
  (∀ q, q < d → ∀ y, s[(home s.length key + q) % s.length]? = some y → y.st ≠ 0 ∧ ¬ (y.st = 1 ∧ y.key = key)) ∧
  (gr = -1 ∨ ∃ D, D < d ∧ gr = (((home s.length key + D) % s.length : Nat) : Int) ∧ ∃ y, s[(home s.length key + D) % s.length]? = some y ∧ y.st = 2)

theorem home_lt {n : Nat} (h : 0 < n) (key : Int) : home n key < n := Nat.mod_lt _ h

theorem free_at {s : List SlotD} (h : HasFree s) (key : Int) : ∃ D0, D0 < s.length ∧ ∃ y, s[(home s.length key + D0) % s.length]? = some y ∧ y.st = 0 := by
  obtain ⟨i, x, hx, h0⟩ := h
  have hi := lt_of_get hx
  have hh := home_lt (n := s.length) (by omega) key
  refine ⟨(i + s.length - home s.length key) % s.length, Nat.mod_lt _ (by omega), x, ?_, h0⟩
  have : (home s.length key + (i + s.length - home s.length key) % s.length) % s.length = i := by
    rw [Nat.add_mod_mod, show home s.length key + (i + s.length - home s.length key) = i + s.length by omega, Nat.add_mod_right, Nat.mod_eq_of_lt hi]
  rw [this]; exact hx

theorem vis_start {s : List SlotD} (h : HasFree s) (key : Int) : Vis s key 0 (-1) := by
  obtain ⟨D0, h1, h2⟩ := free_at h key
  exact ⟨⟨D0, h1, Nat.zero_le _, h2⟩, fun q hq => absurd hq (Nat.not_lt_zero _), Or.inl rfl⟩

theorem vis_lt {s : List SlotD} {key gr : Int} {d : Nat} (h : Vis s key d gr) : d < s.length := by
  obtain ⟨⟨D0, h1, h2, _⟩, _⟩ := h
  omega

theorem vis_next {s : List SlotD} {key gr gr' : Int} {d : Nat} {x : SlotD} (h : Vis s key d gr) (hx : s[(home s.length key + d) % s.length]? = some x) (h0 : x.st ≠ 0) (h1 : ¬ (x.st = 1 ∧ x.key = key))
    (hg : gr' = gr ∨ (x.st = 2 ∧ gr' = (((home s.length key + d) % s.length : Nat) : Int))) : Vis s key (d + 1) gr' := by
  obtain ⟨⟨D0, h2, h3, y, hy, h4⟩, h5, h6⟩ := h
  refine ⟨⟨D0, h2, ?_, y, hy, h4⟩, ?_, ?_⟩
  · rcases Nat.lt_or_ge d D0 with hlt | hge
    · exact hlt
    · have : d = D0 := by omega
      subst this
      rw [hx] at hy
      simp only [Option.some.injEq] at hy
      subst hy
      exact absurd h4 h0
  · intro q hq z hz
    rcases Nat.lt_or_ge q d with hlt | hge
    · exact h5 q hlt z hz
    · have : q = d := by omega
      subst this
      rw [hx] at hz
      simp only [Option.some.injEq] at hz
      subst hz
      exact ⟨h0, h1⟩
  · rcases hg with rfl | ⟨h7, rfl⟩
    · rcases h6 with h6 | ⟨D, h8, h9, h10⟩
      · exact Or.inl h6
      · exact Or.inr ⟨D, by omega, h9, h10⟩
    · exact Or.inr ⟨d, by omega, rfl, x, hx, h7⟩

theorem look_hit {s : List SlotD} {key : Int} {p : Nat} {x : SlotD} (hx : s[p]? = some x) (h1 : x.st = 1) (h2 : x.key = key) : LookR s key p true :=
  ⟨lt_of_get hx, fun _ => ⟨x, hx, h1, h2⟩, fun h => by cases h⟩

theorem look_absent {s : List SlotD} {key gr : Int} {d : Nat} {x : SlotD} (hp : PI s) (h : Vis s key d gr) (hx : s[(home s.length key + d) % s.length]? = some x) (h0 : x.st = 0) :
    ∀ (i : Nat) (y : SlotD), s[i]? = some y → y.st = 1 → y.key ≠ key := by
  intro i y hy h1 hk
  obtain ⟨D, h2, h3, h4⟩ := hp i y hy h1
  rw [hk] at h3 h4
  obtain ⟨_, h5, _⟩ := h
  rcases Nat.lt_trichotomy D d with hlt | heq | hgt
  · exact (h5 D hlt y (by rw [h3]; exact hy)).2 ⟨h1, hk⟩
  · subst heq
    rw [h3, hy] at hx
    simp only [Option.some.injEq] at hx
    subst hx
    omega
  · exact h4 d hgt x hx h0

theorem look_free {s : List SlotD} {key gr : Int} {d : Nat} {x : SlotD} (hp : PI s) (h : Vis s key d gr) (hx : s[(home s.length key + d) % s.length]? = some x) (h0 : x.st = 0) :
    LookR s key ((home s.length key + d) % s.length) false :=
  ⟨lt_of_get hx, (fun h => by cases h), fun _ => ⟨look_absent hp h hx h0, ⟨x, hx, by omega⟩, d, vis_lt h, rfl, fun q hq y hy => (h.2.1 q hq y hy).1⟩⟩

theorem look_grave {s : List SlotD} {key gr : Int} {d : Nat} {x : SlotD} (hp : PI s) (h : Vis s key d gr) (hx : s[(home s.length key + d) % s.length]? = some x) (h0 : x.st = 0) (hg : 0 ≤ gr) :
    ∃ p : Nat, gr = (p : Int) ∧ LookR s key p false := by
  have habs := look_absent hp h hx h0
  obtain ⟨h4, h5, h6⟩ := h
  rcases h6 with h6 | ⟨D, h8, h9, y, hy, h10⟩
  · omega
  · refine ⟨_, h9, lt_of_get hy, (fun h => by cases h), fun _ => ⟨habs, ⟨y, hy, by omega⟩, D, ?_, rfl, fun q hq z hz => (h5 q (by omega) z hz).1⟩⟩
    obtain ⟨D0, h11, h12, _⟩ := h4
    omega

theorem at_next {h d n : Nat} : ((((h + d) % n : Nat) : Int) + 1) % ((n : Nat) : Int) = (((h + (d + 1)) % n : Nat) : Int) := by
  rw [show ((((h + d) % n : Nat) : Int) + 1) = (((h + d) % n + 1 : Nat) : Int) by omega]
  rw [← Int.natCast_emod, Nat.mod_add_mod]
  rfl
theorem at_start {n : Nat} {key : Int} : (mix key) % ((n : Nat) : Int) = (((home n key + 0) % n : Nat) : Int) := by
  have h := mix_lo key
  obtain ⟨m, hm⟩ := Int.eq_ofNat_of_zero_le h
  simp only [home, hm, Int.toNat_natCast, Nat.add_zero, Nat.mod_mod]
  rw [← Int.natCast_emod]
end Go.Proofs.YtokeofoemjeleaaDoor
