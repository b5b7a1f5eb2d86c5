/- Templates: slots, valid parts; what a walk over all parts does. -/
import Derived.Test.YtlnehkjmmegkhaaGreatNod
namespace Go.Proofs.YtlnehkjmmegkhaaGreat
open Go Go.Y
theorem u8_1 : inKind .u8 1 := ⟨by decide, by decide⟩
theorem u8_2 : inKind .u8 2 := ⟨by decide, by decide⟩
theorem u8_b {x : Int} (h : inKind .u8 x) : 0 ≤ x ∧ x ≤ 255 := h
theorem named_valid {s : List UInt8} : Valid (.mk 1 s [] [] [] []) ↔ Name s := by
  unfold Valid
  constructor
  · rintro ⟨⟨h, _⟩, _⟩
    rcases h with ⟨h1, _⟩ | ⟨_, _, h, _⟩
    · exact absurd h1 (by simp [Tr.kind])
    · exact h
  · intro h
    refine ⟨⟨Or.inr ⟨by simp [Tr.kind], rfl, h, Or.inl rfl, rfl, by simp [Tr.as], by simp [Tr.kids], fun i x hx => ?_, fun i j a b _ ha => ?_⟩, fun c hc => ?_⟩, by simp [Tr.size, Tr.sizes]⟩
    · simp [Tr.as] at hx
    · simp [Tr.kids] at ha
    · simp [Tr.kids] at hc
theorem words_valid {s : List UInt8} : Valid (.mk 2 [] [] [] s []) ↔ Str s := by
  unfold Valid
  constructor
  · rintro ⟨⟨h, _⟩, _⟩
    rcases h with ⟨_, h, _⟩ | ⟨_, h1, _⟩
    · exact h
    · exact absurd h1 (by simp [Tr.kind])
  · intro h
    refine ⟨⟨Or.inl ⟨rfl, h, rfl, rfl, rfl, rfl⟩, fun c hc => ?_⟩, by simp [Tr.size, Tr.sizes]⟩
    simp [Tr.kids] at hc
theorem chkF_zero {x : NT} : chkF x = 0 ↔ Valid x := by
  unfold chkF
  split
  · rename_i h; exact ⟨fun _ => h, fun _ => rfl⟩
  · rename_i h; exact ⟨fun h2 => (by cases h2), fun h2 => absurd h2 h⟩
/-! ### Slots and parts -/
def SlotAt (x : SlotD) : Prop := Name x.n ∧ x.src ≤ 3 ∧ Str x.v ∧ (x.src = 0 ∨ x.v = [])
def SlotsTo (l : List SlotD) (i : Nat) : Prop := ∀ (m : Nat) (x : SlotD), m < i → l[m]? = some x → SlotAt x ∧ ∀ y, 0 < m → l[m - 1]? = some y → Op.bytesLess y.n x.n = true
def SlotsOk (l : List SlotD) : Prop := l.length ≤ 8 ∧ SlotsTo l l.length
theorem SlotsTo.zero (l : List SlotD) : SlotsTo l 0 := fun m x h => by omega
theorem SlotsTo.step {l : List SlotD} {i : Nat} {x : SlotD} (h : SlotsTo l i) (hx : l[i]? = some x) (hn : SlotAt x) (ho : ∀ y, 0 < i → l[i - 1]? = some y → Op.bytesLess y.n x.n = true) : SlotsTo l (i + 1) := by
  intro m z hm hz
  rcases Nat.eq_or_lt_of_le (show m ≤ i by omega) with e | e
  · subst e; rw [hx] at hz; simp only [Option.some.injEq] at hz; subst hz; exact ⟨hn, ho⟩
  · exact h m z e hz
theorem SlotsTo.done {l : List SlotD} {i : Nat} (h : SlotsTo l i) (h8 : l.length ≤ 8) (hi : l.length ≤ i) : SlotsOk l := ⟨h8, fun m x hm hx => h m x (by omega) hx⟩
theorem slots_no1 {l : List SlotD} {i : Nat} {x : SlotD} (hx : l[i]? = some x) (h : ¬ SlotAt x) : ¬ SlotsOk l := fun ho => h (ho.2 i x (lt_of_get hx) hx).1
theorem slots_no2 {l : List SlotD} {i : Nat} {x y : SlotD} (hx : l[i]? = some x) (hy : l[i - 1]? = some y) (hi : 0 < i) (h : ¬ Op.bytesLess y.n x.n = true) : ¬ SlotsOk l := fun ho => h ((ho.2 i x (lt_of_get hx) hx).2 y hi hy)
def AloneP (x : PT) : Prop :=
  (x.kind = 1 ∧ Name x.tag ∧ (x.key = [] ∨ Name x.key) ∧ SlotsOk x.as ∧ x.text = [] ∧ x.kids.length ≤ 16) ∨
  (x.kind = 2 ∧ Str x.text ∧ x.tag = [] ∧ x.key = [] ∧ x.as.length = 0 ∧ x.kids.length = 0) ∨
  ((x.kind = 3 ∨ x.kind = 4) ∧ x.text = [] ∧ x.tag = [] ∧ x.key = [] ∧ x.as.length = 0 ∧ x.kids.length = 0) ∨
  (x.kind = 5 ∧ Name x.tag ∧ SlotsOk x.as ∧ x.key = [] ∧ x.text = [] ∧ x.kids.length = 0)
theorem aloneP_len {x : PT} (h : AloneP x) : x.kids.length ≤ 16 ∧ x.as.length ≤ 8 := by
  rcases h with ⟨_, _, _, h, _, h2⟩ | ⟨_, _, _, _, h, h2⟩ | ⟨_, _, _, _, h, h2⟩ | ⟨_, _, h, _, _, h2⟩
  · exact ⟨h2, h.1⟩
  · omega
  · omega
  · exact ⟨by omega, h.1⟩
def ValidP (x : PT) : Prop := x.kind = 1 ∧ Tr.Ok AloneP 6 x ∧ x.size ≤ 64
open Classical in
/-- The number of parts of a valid template, 0 for another one. -/
noncomputable def cntP (x : PT) : Nat := if ValidP x then x.size else 0
open Classical in
noncomputable def chkP (x : PT) : Int := if ValidP x then 0 else 14
theorem cntP_yes {x : PT} (h : ValidP x) : cntP x = x.size := by unfold cntP; rw [if_pos h]
theorem cntP_no {x : PT} (h : ¬ ValidP x) : cntP x = 0 := by unfold cntP; rw [if_neg h]
theorem chkP_yes {x : PT} (h : ValidP x) : chkP x = 0 := by unfold chkP; rw [if_pos h]
theorem chkP_no {x : PT} (h : ¬ ValidP x) : chkP x = 14 := by unfold chkP; rw [if_neg h]
theorem cntP_pos {x : PT} : 0 < cntP x ↔ ValidP x := by
  unfold cntP
  split
  · rename_i h; exact ⟨fun _ => h, fun _ => Tr.size_pos x⟩
  · rename_i h; exact ⟨fun h2 => (by omega), fun h2 => absurd h2 h⟩
theorem chkP_zero {x : PT} : chkP x = 0 ↔ ValidP x := by
  unfold chkP
  split
  · rename_i h; exact ⟨fun _ => h, fun _ => rfl⟩
  · rename_i h; exact ⟨fun h2 => (by cases h2), fun h2 => absurd h2 h⟩
theorem Cnt.cntP {x : PT} {r : Nat} (h : Cnt AloneP x 6 r) : (x.kind ≠ 1 ∨ 64 < r → _root_.Go.Proofs.YtlnehkjmmegkhaaGreat.cntP x = 0) ∧ (x.kind = 1 → r ≤ 64 → _root_.Go.Proofs.YtlnehkjmmegkhaaGreat.cntP x = r) := by
  refine ⟨fun h1 => cntP_no fun h2 => ?_, fun h0 h1 => ?_⟩
  · rcases h1 with h1 | h1
    · exact h1 h2.1
    · have := h.ok.2 h2.2; omega
  · rw [cntP_yes ⟨h0, h.ok.1 h1⟩, h.eq h1]
/-! ### A walk over all parts -/
section
variable {β σ : Type} (f : σ → Tr β → σ)
mutual
/-- What is there behind all nodes of a tree, a node ahead of those below it. -/
def visit (s : σ) : Tr β → σ
  | .mk k t y a x l => visits (f s (.mk k t y a x l)) l
def visits (s : σ) : List (Tr β) → σ
  | [] => s
  | c :: l => visits (visit s c) l
end
theorem visit_eq (s : σ) (x : Tr β) : visit f s x = visits f (f s x) x.kids := by cases x; simp only [visit, Tr.kids]
theorem visits_append : ∀ (l m : List (Tr β)) (s : σ), visits f s (l ++ m) = visits f (visits f s l) m
  | [], m, s => by simp [visits]
  | x :: l, m, s => by simp only [List.cons_append, visits, visits_append l m]
theorem visits_snoc {l : List (Tr β)} {i : Nat} {x : Tr β} (h : l[i]? = some x) (s : σ) : visits f s (l.take (i + 1)) = visit f (visits f s (l.take i)) x := by
  rw [Tr.take_snoc' h, visits_append]; simp [visits]
end
/-! ### How many nodes a template makes -/
mutual
def ndF (m : Nat) : PT → Nat
  | .mk k _ _ _ _ l => (if k = 5 then 2 * m else 1) + ndFs m l
def ndFs (m : Nat) : List PT → Nat
  | [] => 0
  | c :: l => ndF m c + ndFs m l
end
theorem ndF_eq (m : Nat) (x : PT) : ndF m x = (if x.kind = 5 then 2 * m else 1) + ndFs m x.kids := by
  cases x
  simp only [ndF, Tr.kids, Tr.kind]
  rfl
theorem ndF_le {m : Nat} (hm : m ≤ 8) (x : PT) : ndF m x ≤ 16 * x.size := by
  induction x using Tr.ind with
  | _ x ih =>
    have key : ∀ l : List PT, (∀ c ∈ l, ndF m c ≤ 16 * c.size) → ndFs m l ≤ 16 * Tr.sizes l := by
      intro l
      induction l with
      | nil => intro _; simp [ndFs]
      | cons c l ihl =>
        intro h
        have h1 := h c (by simp)
        have h2 := ihl (fun d hd => h d (by simp [hd]))
        simp only [ndFs, Tr.sizes]; omega
    have := key _ ih
    rw [ndF_eq, Tr.size_eq]
    split <;> omega
/-- What the walk of Nodes adds for a part. -/
def stpN (m n : Int) (x : PT) : Int := if x.kind = 5 then IntKind.i64.wrap (n + IntKind.i64.wrap (2 * m)) else IntKind.i64.wrap (n + 1)
theorem stpN_small {m : Nat} {n : Int} {x : PT} (hm : m ≤ 8) (h0 : 0 ≤ n) (h1 : n ≤ 1000000) : stpN (m : Int) n x = n + (if x.kind = 5 then 2 * (m : Int) else 1) := by
  unfold stpN
  split
  · rw [wrap_in (k := .i64) (n := 2 * (m : Int)) ⟨by show (-9223372036854775808 : Int) ≤ _; omega, by show _ ≤ (9223372036854775807 : Int); omega⟩, wrap_in (k := .i64) ⟨by show (-9223372036854775808 : Int) ≤ _; omega, by show _ ≤ (9223372036854775807 : Int); omega⟩]
  · rw [wrap_in (k := .i64) ⟨by show (-9223372036854775808 : Int) ≤ _; omega, by show _ ≤ (9223372036854775807 : Int); omega⟩]
theorem visitN {m : Nat} (hm : m ≤ 8) (x : PT) : ∀ s : Int, 0 ≤ s → s + (ndF m x : Int) ≤ 1000000 → visit (stpN (m : Int)) s x = s + (ndF m x : Int) := by
  induction x using Tr.ind with
  | _ x ih =>
    intro s h0 h1
    have key : ∀ l : List PT, (∀ c ∈ l, ∀ s : Int, 0 ≤ s → s + (ndF m c : Int) ≤ 1000000 → visit (stpN (m : Int)) s c = s + (ndF m c : Int)) → ∀ s : Int, 0 ≤ s → s + (ndFs m l : Int) ≤ 1000000 → visits (stpN (m : Int)) s l = s + (ndFs m l : Int) := by
      intro l
      induction l with
      | nil => intro _ s _ _; simp [visits, ndFs]
      | cons c l ihl =>
        intro h s h0 h1
        simp only [ndFs] at h1 ⊢
        simp only [visits]
        rw [h c (by simp) s h0 (by omega), ihl (fun d hd => h d (by simp [hd])) _ (by omega) (by omega)]
        omega
    rw [ndF_eq] at h1 ⊢
    rw [visit_eq, stpN_small hm h0 (by omega), key _ ih _ (by split <;> omega) (by split <;> rename_i h <;> simp only [h, if_true, if_false] at h1 <;> omega)]
    split <;> omega
open Classical in
/-- What Nodes hands back. -/
noncomputable def nodesF (x : PT) (m : Int) : Int × Int := if ValidP x then (if m < 0 ∨ 8 < m then (0, 1) else ((ndF m.toNat x : Int), 0)) else (0, 14)
theorem nodesF_no {x : PT} {m : Int} (h : ¬ ValidP x) : nodesF x m = (0, 14) := by unfold nodesF; rw [if_neg h]
theorem nodesF_arg {x : PT} {m : Int} (h : ValidP x) (hm : m < 0 ∨ 8 < m) : nodesF x m = (0, 1) := by unfold nodesF; rw [if_pos h, if_pos hm]
theorem nodesF_ok {x : PT} {m : Nat} (h : ValidP x) (hm : m ≤ 8) : nodesF x (m : Int) = ((ndF m x : Int), 0) := by unfold nodesF; rw [if_pos h, if_neg (by omega)]; rfl
theorem nodesF_vis {x : PT} {m : Int} (h : ValidP x) (h0 : ¬ m < 0) (h8 : ¬ 8 < m) : nodesF x m = (visit (stpN m) 0 x, 0) := by
  obtain ⟨k, rfl⟩ : ∃ k : Nat, m = (k : Int) := ⟨m.toNat, by omega⟩
  have h1 := ndF_le (m := k) (by omega) x
  have h2 := h.2.2
  rw [nodesF_ok h (by omega), visitN (by omega) x 0 (by omega) (by omega), Int.zero_add]
theorem Tr.Ok.kid {β : Type} {A : Tr β → Prop} {n : Nat} {x c : Tr β} (h : Tr.Ok A n x) (hc : c ∈ x.kids) : ∃ m, Tr.Ok A m c := by
  cases n with
  | zero => exact h.elim
  | succ n => exact ⟨n, h.2 c hc⟩
/-! ### What a template uses -/
def note (s : Bool × Bool × Bool) (k : Int) : Bool × Bool × Bool := (s.1 || decide (k = 1), s.2.1 || decide (k = 2), s.2.2 || decide (k = 3))
def kindU (s : Bool × Bool × Bool) (k : Int) : Bool × Bool × Bool := if k = 3 then note s 1 else if k = 4 then note s 2 else if k = 5 then note s 3 else s
def stpU (s : Bool × Bool × Bool) (x : PT) : Bool × Bool × Bool := (x.as.map SlotD.src).foldl note (kindU s x.kind)
mutual
def usesB (k : Int) : PT → Bool
  | .mk q _ _ a _ l => decide (q = k + 2) || a.any (fun s => decide (s.src = k)) || usesBs k l
def usesBs (k : Int) : List PT → Bool
  | [] => false
  | c :: l => usesB k c || usesBs k l
end
theorem usesB_eq (k : Int) (x : PT) : usesB k x = (decide (x.kind = k + 2) || x.as.any (fun s => decide (s.src = k)) || usesBs k x.kids) := by
  cases x
  simp only [usesB, Tr.kind, Tr.as, Tr.kids]
  rfl
theorem foldl_note : ∀ (l : List Int) (s : Bool × Bool × Bool), l.foldl note s = (s.1 || l.any (fun k => decide (k = 1)), s.2.1 || l.any (fun k => decide (k = 2)), s.2.2 || l.any (fun k => decide (k = 3)))
  | [], s => by simp
  | k :: l, s => by
    rw [List.foldl_cons, foldl_note l]
    simp only [note, List.any_cons, Bool.or_assoc]
theorem kindU_eq (s : Bool × Bool × Bool) (k : Int) : kindU s k = (s.1 || decide (k = 3), s.2.1 || decide (k = 4), s.2.2 || decide (k = 5)) := by
  unfold kindU note
  obtain ⟨a, b, c⟩ := s
  split
  · rename_i h; subst h; simp
  · split
    · rename_i h; subst h; simp
    · split
      · rename_i h; subst h; simp
      · rename_i h1 h2 h3; simp [h1, h2, h3]
theorem visitU (x : PT) : ∀ s, visit stpU s x = (s.1 || usesB 1 x, s.2.1 || usesB 2 x, s.2.2 || usesB 3 x) := by
  induction x using Tr.ind with
  | _ x ih =>
    intro s
    have key : ∀ l : List PT, (∀ c ∈ l, ∀ s, visit stpU s c = (s.1 || usesB 1 c, s.2.1 || usesB 2 c, s.2.2 || usesB 3 c)) → ∀ s, visits stpU s l = (s.1 || usesBs 1 l, s.2.1 || usesBs 2 l, s.2.2 || usesBs 3 l) := by
      intro l
      induction l with
      | nil => intro _ s; simp [visits, usesBs]
      | cons c l ihl =>
        intro h s
        simp only [visits]
        rw [h c (by simp) s, ihl (fun d hd => h d (by simp [hd]))]
        simp only [usesBs, Bool.or_assoc]
    rw [visit_eq, key _ ih]
    simp only [stpU, foldl_note, kindU_eq, usesB_eq, List.any_map, Bool.or_assoc, Function.comp_def]
    rfl
open Classical in
/-- What Uses hands back. -/
noncomputable def usesF (x : PT) : Bool × Bool × Bool := if ValidP x then (usesB 1 x, usesB 2 x, usesB 3 x) else (false, false, false)
theorem usesF_no {x : PT} (h : ¬ ValidP x) : usesF x = (false, false, false) := by unfold usesF; rw [if_neg h]
theorem usesF_yes {x : PT} (h : ValidP x) : usesF x = visit stpU (false, false, false) x := by unfold usesF; rw [if_pos h, visitU]; simp
theorem srcs_snoc {l : List SlotD} {i : Nat} {x : SlotD} (h : l[i]? = some x) (s : Bool × Bool × Bool) : ((l.take (i + 1)).map SlotD.src).foldl note s = note (((l.take i).map SlotD.src).foldl note s) x.src := by
  rw [Tr.take_snoc' h, List.map_append, List.foldl_append]; rfl
theorem none_snoc {α : Type} {p : α → Prop} {l : List α} {i : Nat} {x : α} (h : ∀ (m : Nat) (y : α), m < i → l[m]? = some y → p y) (hx : l[i]? = some x) (hp : p x) : ∀ (m : Nat) (y : α), m < i + 1 → l[m]? = some y → p y := by
  intro m y hm hy
  rcases Nat.eq_or_lt_of_le (show m ≤ i by omega) with e | e
  · subst e; rw [hx] at hy; simp only [Option.some.injEq] at hy; subst hy; exact hp
  · exact h m y e hy
/-! ### Items -/
structure ItemD where
  key : Int
  typ : Int
  text : List UInt8
  marks : List (List UInt8)
def ItemOk (x : ItemD) : Prop := ¬ x.key = 0 ∧ Str x.text ∧ x.marks.length ≤ 8 ∧ ∀ s ∈ x.marks, Name s
open Classical in
/-- The error of an item. -/
noncomputable def itmF (x : ItemD) : Int := if ItemOk x then 0 else 6
theorem itmF_yes {x : ItemD} (h : ItemOk x) : itmF x = 0 := by unfold itmF; rw [if_pos h]
theorem itmF_no {x : ItemD} (h : ¬ ItemOk x) : itmF x = 6 := by unfold itmF; rw [if_neg h]
theorem marks_all {l : List (List UInt8)} {i : Nat} (h : ∀ (m : Nat) (s : List UInt8), m < i → l[m]? = some s → Name s) (hi : l.length ≤ i) : ∀ s ∈ l, Name s := by
  intro s hs
  obtain ⟨m, hm⟩ := List.mem_iff_getElem?.1 hs
  exact h m s (by have := lt_of_get hm; omega) hm
/-! ### Decimal numbers -/
theorem dec_split (u : Nat) : Lib.decDigits u = (if u / 10 = 0 then [] else Lib.decDigits (u / 10)) ++ [UInt8.ofNat (48 + u % 10)] := by
  rw [Lib.decDigits]
  split
  · rename_i h
    rw [if_pos (by omega), Nat.mod_eq_of_lt h]
    rfl
  · rename_i h
    rw [if_neg (by omega)]
theorem dec_len (u : Nat) (h : u < 18446744073709551616) : (Lib.decDigits u).length ≤ 20 := by
  rw [Lib.decDigits_length]
  rcases Nat.eq_zero_or_pos u with h0 | h0
  · subst h0; rw [Lib.nDigits_small (by decide)]; omega
  · have h1 := Lib.numDigits_eq u h0 h
    split at h1 <;> omega
theorem dig_at : ∀ k : Nat, k < 10 → ([48, 49, 50, 51, 52, 53, 54, 55, 56, 57] : List UInt8)[k]? = some (UInt8.ofNat (48 + k)) := by decide
theorem dec_small {k : Nat} (h : k < 10) : Lib.decDigits k = [UInt8.ofNat (48 + k)] := by
  rw [dec_split, if_pos (by omega), Nat.mod_eq_of_lt h]; rfl
theorem dec_two {u : Nat} (h : ¬ u < 10) : Lib.decDigits (u / 10) ++ Lib.decDigits (u % 10) = Lib.decDigits u := by
  rw [dec_split u, if_neg (by omega), dec_small (k := u % 10) (by omega)]
theorem set_drop {l : List UInt8} {k : Nat} {b : UInt8} (h : k < l.length) : (l.set k b).drop k = b :: l.drop (k + 1) := by
  rw [List.drop_eq_getElem_cons (by rw [List.length_set]; exact h), List.getElem_set_self, List.drop_set_of_lt (by omega)]
theorem decl_step {u n i : Nat} {l : List UInt8} {b : UInt8} (h : Lib.decDigits u = Lib.decDigits n ++ l.drop i) (hi : 1 ≤ i) (hi2 : i ≤ 20) (hl : l.length = 20) (hb : ([48, 49, 50, 51, 52, 53, 54, 55, 56, 57] : List UInt8)[n % 10]? = some b) :
    Lib.decDigits u = (if n / 10 = 0 then [] else Lib.decDigits (n / 10)) ++ (l.set (i - 1) b).drop (i - 1) := by
  rw [dig_at _ (by omega)] at hb
  simp only [Option.some.injEq] at hb
  rw [h, dec_split n, set_drop (by omega), ← hb, show i - 1 + 1 = i by omega]
  simp
theorem decl_pos {u n i : Nat} {l : List UInt8} (h : Lib.decDigits u = Lib.decDigits n ++ l.drop i) (hu : u < 18446744073709551616) (hl : l.length = 20) (hi : i ≤ 20) : 1 ≤ i := by
  have h1 := dec_len u hu
  rw [h, List.length_append, List.length_drop, Lib.decDigits_length] at h1
  have := Lib.nDigits_pos n
  omega
/-! ### Attributes of an item -/
def attrV (x : ItemD) (s : SlotD) : List UInt8 := if s.src = 1 then x.text else if s.src = 2 then Lib.decDigits x.key.toNat else if s.src = 3 then Lib.decDigits x.marks.length else s.v
def attrF (x : ItemD) (s : SlotD) : AttrD := ⟨s.n, attrV x s⟩
theorem attrs_step {x : ItemD} {xs : List SlotD} {i : Nat} {s : SlotD} (h : xs[i]? = some s) :
    ((xs.take i).map (attrF x) ++ List.replicate (xs.length - i) (⟨[], []⟩ : AttrD)).set i (attrF x s) = (xs.take (i + 1)).map (attrF x) ++ List.replicate (xs.length - (i + 1)) (⟨[], []⟩ : AttrD) := by
  have hi := lt_of_get h
  rw [Tr.take_snoc' h, List.map_append, List.set_append_right _ _ (by simp; omega)]
  have e : xs.length - i = (xs.length - (i + 1)) + 1 := by omega
  have e2 : i - ((xs.take i).map (attrF x)).length = 0 := by simp; omega
  rw [e, e2, List.replicate_succ]
  simp
theorem pick4 {x : ItemD} {s : SlotD} (h0 : 0 ≤ s.src) (h3 : s.src ≤ 3) : (#[Value.string (str s.v), Value.string (str x.text), Value.string (str (Lib.decDigits x.key.toNat)), Value.string (str (Lib.decDigits x.marks.length))] : Array Value)[s.src.toNat]? = some (.string (str (attrV x s))) := by
  unfold attrV
  have h : s.src = 0 ∨ s.src = 1 ∨ s.src = 2 ∨ s.src = 3 := by omega
  rcases h with h | h | h | h <;> rw [h] <;> rfl
theorem attrV_len {x : ItemD} (ht : x.text.length ≤ 9223372036854775807) (hk : inKind .u64 x.key) (hm : x.marks.length ≤ 9223372036854775807) (s : SlotD) (hv : s.v.length ≤ 9223372036854775807) : (attrV x s).length ≤ 9223372036854775807 := by
  obtain ⟨h1, h2⟩ : 0 ≤ x.key ∧ x.key ≤ 18446744073709551615 := hk
  have a := dec_len x.key.toNat (by omega)
  have b := dec_len x.marks.length (by omega)
  unfold attrV
  split
  · exact ht
  · split
    · omega
    · split
      · omega
      · exact hv
theorem slots_src {l : List SlotD} (h : SlotsOk l) {s : SlotD} (hs : s ∈ l) : s.src ≤ 3 := by
  obtain ⟨m, hm⟩ := List.mem_iff_getElem?.1 hs
  exact (h.2 m s (lt_of_get hm) hm).1.2.1
/-! ### What is made of an item -/
def wordsN (s : List UInt8) : NT := .mk 2 [] [] [] s []
def eachN (x : ItemD) (tag : List UInt8) (al : List SlotD) (m : List UInt8) : NT := .mk 1 tag m (al.map (attrF x)) [] [wordsN m]
mutual
def madeF (x : ItemD) : PT → List NT
  | .mk k tag key al text kids => if k = 1 then [.mk 1 tag key (al.map (attrF x)) [] (madesF x kids)] else if k = 2 then [wordsN text] else if k = 3 then [wordsN x.text] else if k = 4 then [wordsN (Lib.decDigits x.key.toNat)] else
      if k = 5 then x.marks.map (eachN x tag al) else []
def madesF (x : ItemD) : List PT → List NT
  | [] => []
  | c :: l => madeF x c ++ madesF x l
end
theorem mades_append (x : ItemD) : ∀ (l r : List PT), madesF x (l ++ r) = madesF x l ++ madesF x r
  | [], r => by simp [madesF]
  | c :: l, r => by simp only [List.cons_append, madesF, mades_append x l r, List.append_assoc]
theorem mades_snoc {x : ItemD} {l : List PT} {i : Nat} {c : PT} (h : l[i]? = some c) : madesF x (l.take (i + 1)) = madesF x (l.take i) ++ madeF x c := by
  rw [Tr.take_snoc' h, mades_append]; simp [madesF]
theorem made1 {x : ItemD} {p : PT} (h : p.kind = 1) : madeF x p = [.mk 1 p.tag p.key (p.as.map (attrF x)) [] (madesF x p.kids)] := by
  cases p; simp only [Tr.kind] at h; subst h; simp [madeF, Tr.tag, Tr.key, Tr.as, Tr.kids]
theorem made2 {x : ItemD} {p : PT} (h : p.kind = 2) : madeF x p = [wordsN p.text] := by
  cases p; simp only [Tr.kind] at h; subst h; simp [madeF, Tr.text]
theorem made3 {x : ItemD} {p : PT} (h : p.kind = 3) : madeF x p = [wordsN x.text] := by
  cases p; simp only [Tr.kind] at h; subst h; simp [madeF]
theorem made4 {x : ItemD} {p : PT} (h : p.kind = 4) : madeF x p = [wordsN (Lib.decDigits x.key.toNat)] := by
  cases p; simp only [Tr.kind] at h; subst h; simp [madeF]
theorem made5 {x : ItemD} {p : PT} (h : p.kind = 5) : madeF x p = x.marks.map (eachN x p.tag p.as) := by
  cases p; simp only [Tr.kind] at h; subst h; simp [madeF, Tr.tag, Tr.as]
theorem made0 {x : ItemD} {p : PT} (h1 : ¬ p.kind = 1) (h2 : ¬ p.kind = 2) (h3 : ¬ p.kind = 3) (h4 : ¬ p.kind = 4) (h5 : ¬ p.kind = 5) : madeF x p = [] := by
  cases p; simp only [Tr.kind] at h1 h2 h3 h4 h5; simp [madeF, h1, h2, h3, h4, h5]
theorem made_len {x : ItemD} (hm : x.marks.length ≤ 8) (p : PT) : (madeF x p).length ≤ 8 := by
  cases p with
  | mk k tag key al text kids =>
    simp only [madeF]
    repeat' split
    all_goals simp
    exact hm
theorem mades_len {x : ItemD} (hm : x.marks.length ≤ 8) : ∀ l : List PT, (madesF x l).length ≤ 8 * l.length
  | [] => by simp [madesF]
  | c :: l => by
    have h1 := made_len hm c
    have h2 := mades_len hm l
    simp only [madesF, List.length_append, List.length_cons]; omega
theorem okP_slots {p : PT} {n : Nat} (h : Tr.Ok AloneP n p) (hk : p.kind = 1 ∨ p.kind = 5) : SlotsOk p.as := by
  cases n with
  | zero => exact h.elim
  | succ n =>
    rcases h.1 with ⟨_, _, _, h, _⟩ | ⟨h, _⟩ | ⟨h, _⟩ | ⟨_, _, h, _⟩
    · exact h
    · omega
    · omega
    · exact h
theorem okP_len {p : PT} {n : Nat} (h : Tr.Ok AloneP n p) : p.kids.length ≤ 16 := by
  cases n with
  | zero => exact h.elim
  | succ n => exact (aloneP_len h.1).1
theorem okP_kids {p : PT} {n : Nat} (h : Tr.Ok AloneP n p) : ∀ c ∈ p.kids, ∃ m, Tr.Ok AloneP m c := fun c hc => Tr.Ok.kid h hc
theorem each_snoc {l : List (List UInt8)} {j : Nat} {s : List UInt8} (h : l[j]? = some s) (f : List UInt8 → NT) : (l.take (j + 1)).map f = (l.take j).map f ++ [f s] := by
  rw [Tr.take_snoc' h, List.map_append]; rfl
theorem sizes_kids_lt {ps : List PT} {p : PT} (h : p ∈ ps) : Tr.sizes p.kids < Tr.sizes ps := by
  have h1 := Tr.size_mem h
  rw [Tr.size_eq] at h1; omega
/-! ### Render -/
def node1 (x : ItemD) (p : PT) : NT := .mk 1 p.tag p.key (p.as.map (attrF x)) [] (madesF x p.kids)
def zeroN : NT := .mk 0 [] [] [] [] []
theorem mades_one {x : ItemD} {p : PT} (h : p.kind = 1) : madesF x [p] = [node1 x p] := by simp [madesF, made1 h, node1]
open Classical in
/-- The error of Render. -/
noncomputable def rendE (p : PT) (x : ItemD) (most : Int) : Int :=
  if most < 1 ∨ 64 < most then 1 else if ¬ ValidP p then 14 else if ¬ ItemOk x then 6 else if cntF (node1 x p) = 0 ∨ most < (cntF (node1 x p) : Int) then 14 else 0
open Classical in
noncomputable def rendN (p : PT) (x : ItemD) (most : Int) : NT := if rendE p x most = 0 then node1 x p else zeroN
section
variable {p : PT} {x : ItemD} {most : Int}
theorem rend_arg (h : most < 1 ∨ 64 < most) : rendE p x most = 1 := by unfold rendE; rw [if_pos h]
theorem rend_tree (h : ¬ (most < 1 ∨ 64 < most)) (hp : ¬ ValidP p) : rendE p x most = 14 := by unfold rendE; rw [if_neg h, if_pos hp]
theorem rend_item (h : ¬ (most < 1 ∨ 64 < most)) (hp : ValidP p) (hx : ¬ ItemOk x) : rendE p x most = 6 := by unfold rendE; rw [if_neg h, if_neg (not_not_intro hp), if_pos hx]
theorem rend_many (h : ¬ (most < 1 ∨ 64 < most)) (hp : ValidP p) (hx : ItemOk x) (hc : cntF (node1 x p) = 0 ∨ most < (cntF (node1 x p) : Int)) : rendE p x most = 14 := by
  unfold rendE; rw [if_neg h, if_neg (not_not_intro hp), if_neg (not_not_intro hx), if_pos hc]
theorem rend_ok (h : ¬ (most < 1 ∨ 64 < most)) (hp : ValidP p) (hx : ItemOk x) (hc : ¬ (cntF (node1 x p) = 0 ∨ most < (cntF (node1 x p) : Int))) : rendE p x most = 0 := by
  unfold rendE; rw [if_neg h, if_neg (not_not_intro hp), if_neg (not_not_intro hx), if_neg hc]
theorem rendN_ok (h : rendE p x most = 0) : rendN p x most = node1 x p := by unfold rendN; rw [if_pos h]
theorem rendN_no (h : rendE p x most ≠ 0) : rendN p x most = zeroN := by unfold rendN; rw [if_neg h]
end
theorem itmF_zero {x : ItemD} : itmF x = 0 ↔ ItemOk x := by
  unfold itmF
  split
  · rename_i h; exact ⟨fun _ => h, fun _ => rfl⟩
  · rename_i h; exact ⟨fun h2 => (by cases h2), fun h2 => absurd h2 h⟩
theorem validP_elem {p : PT} (h : ValidP p) : ∃ n, Tr.Ok AloneP n p := ⟨6, h.2.1⟩
theorem rendN_kind {p : PT} {x : ItemD} {m : Int} (_ : inKind .u8 p.kind) : inKind .u8 (rendN p x m).kind := by
  unfold rendN
  split
  · exact u8_1
  · exact ⟨by decide, by decide⟩
theorem rendN_len {p : PT} {x : ItemD} {m : Int} (h : p.tag.length ≤ 9223372036854775807 ∧ p.key.length ≤ 9223372036854775807 ∧ p.text.length ≤ 9223372036854775807) :
    (rendN p x m).tag.length ≤ 9223372036854775807 ∧ (rendN p x m).key.length ≤ 9223372036854775807 ∧ (rendN p x m).text.length ≤ 9223372036854775807 := by
  unfold rendN
  split
  · exact ⟨h.1, h.2.1, Nat.zero_le _⟩
  · exact ⟨Nat.zero_le _, Nat.zero_le _, Nat.zero_le _⟩
theorem perm_mid3 {a b c : Res} (R L : List Res) : (a :: b :: c :: (R ++ L)).Perm (R ++ (a :: b :: c :: L)) := by
  have h1 : (R ++ (a :: b :: c :: L)).Perm (a :: (R ++ (b :: c :: L))) := List.perm_middle
  have h2 : (R ++ (b :: c :: L)).Perm (b :: (R ++ (c :: L))) := List.perm_middle
  have h3 : (R ++ (c :: L)).Perm (c :: (R ++ L)) := List.perm_middle
  exact (h1.trans ((h2.trans (h3.cons b)).cons a)).symm
end Go.Proofs.YtlnehkjmmegkhaaGreat
