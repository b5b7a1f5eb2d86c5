/- The plain theory of the map: its invariant, and what looking, putting and dropping do to it. -/
import Derived.Test.YtokeofoemjeleaaDoorKm
namespace Go.Proofs.YtokeofoemjeleaaDoor
open Go Go.Y

theorem lperm_front {α : Type} : ∀ (l : List α) (k : Nat) (x : α), l[k]? = some x → l.Perm (x :: l.eraseIdx k)
  | [], k, x, h => by simp at h
  | y :: l, 0, x, h => by simp at h; subst h; simp
  | y :: l, k + 1, x, h => by
    have h' : l[k]? = some x := by simpa using h
    simp only [List.eraseIdx_cons_succ]
    exact ((lperm_front l k x h').cons y).trans (List.Perm.swap x y _)
theorem lperm_set {α : Type} : ∀ (l : List α) (k : Nat) (x y : α), l[k]? = some x → (l.set k y).Perm (y :: l.eraseIdx k)
  | [], k, x, y, h => by simp at h
  | z :: l, 0, x, y, h => by simp
  | z :: l, k + 1, x, y, h => by
    have h' : l[k]? = some x := by simpa using h
    simp only [List.eraseIdx_cons_succ, List.set_cons_succ]
    exact ((lperm_set l k x y h').cons z).trans (List.Perm.swap y z _)

def toP (x : SlotD) : PairD := ⟨x.key, x.v⟩
def U (s : List SlotD) : List PairD := (s.filter (fun x => decide (x.st = 1))).map toP
def tc (s : List SlotD) : Nat := (s.filter (fun x => decide (x.st = 2))).length
def zc (s : List SlotD) : Nat := (s.filter (fun x => decide (x.st = 0))).length

theorem U_perm {s t : List SlotD} (h : s.Perm t) : (U s).Perm (U t) := (h.filter _).map _
theorem tc_perm {s t : List SlotD} (h : s.Perm t) : tc s = tc t := (h.filter _).length_eq
theorem zc_perm {s t : List SlotD} (h : s.Perm t) : zc s = zc t := (h.filter _).length_eq
theorem U_cons (x : SlotD) (s : List SlotD) : U (x :: s) = if x.st = 1 then toP x :: U s else U s := by
  unfold U; by_cases h : x.st = 1 <;> simp [h]
theorem tc_cons (x : SlotD) (s : List SlotD) : tc (x :: s) = if x.st = 2 then tc s + 1 else tc s := by
  unfold tc; by_cases h : x.st = 2 <;> simp [h]
theorem zc_cons (x : SlotD) (s : List SlotD) : zc (x :: s) = if x.st = 0 then zc s + 1 else zc s := by
  unfold zc; by_cases h : x.st = 0 <;> simp [h]
theorem count_all : ∀ (s : List SlotD), (∀ x ∈ s, x.st = 0 ∨ x.st = 1 ∨ x.st = 2) → s.length = (U s).length + tc s + zc s
  | [], _ => rfl
  | x :: s, h => by
    have ih := count_all s (fun y hy => h y (by simp [hy]))
    have hx := h x (by simp)
    rw [U_cons, tc_cons, zc_cons, List.length_cons, ih]
    rcases hx with h0 | h0 | h0 <;> simp [h0] <;> omega
theorem zc_free : ∀ (s : List SlotD), 0 < zc s → HasFree s
  | [], h => by simp [zc] at h
  | x :: s, h => by
    by_cases h0 : x.st = 0
    · exact ⟨0, x, rfl, h0⟩
    · rw [zc_cons, if_neg h0] at h
      obtain ⟨i, y, hy, h1⟩ := zc_free s h
      exact ⟨i + 1, y, by simpa using hy, h1⟩

structure KOK (s : List SlotD) (many tombs : Int) (ps : List PairD) (most : Nat) : Prop where
  dom : ∀ x ∈ s, x.st = 0 ∨ x.st = 1 ∨ x.st = 2
  perm : (U s).Perm ps
  sorted : ps.Pairwise (fun a b => a.key < b.key)
  keys : ∀ p ∈ ps, inKind .u64 p.key ∧ 1 ≤ p.key ∧ inKind .i64 p.v
  many : many = (ps.length : Int)
  tombs : tombs = (tc s : Int)
  load : 4 * (ps.length + tc s) ≤ 3 * s.length
  pi : PI s
  pow : s = [] ∨ ∃ e, 3 ≤ e ∧ e ≤ 13 ∧ s.length = 2 ^ e
  small : (s.length ≤ 8 ∨ s.length ≤ 4 * most) ∧ (most = 0 → s.length = 0)
  cnt : ps.length ≤ 4096
  cntm : ps.length ≤ most

theorem KOK.nil : KOK [] 0 0 [] 0 :=
  ⟨by simp, List.Perm.refl _, List.Pairwise.nil, by simp, rfl, rfl, Nat.le_refl _, fun i x h => by simp at h, Or.inl rfl, ⟨Or.inl (by simp), fun _ => rfl⟩, by simp, by simp⟩

theorem KOK.len {s : List SlotD} {many tombs : Int} {ps : List PairD} {most : Nat} (K : KOK s many tombs ps most) : s.length ≤ 8192 ∧ (0 < s.length → 8 ≤ s.length) := by
  rcases K.pow with h | ⟨e, h1, h2, h3⟩
  · subst h; simp
  · have h4 : 2 ^ 3 ≤ 2 ^ e := Nat.pow_le_pow_right (by omega) h1
    have h5 : 2 ^ e ≤ 2 ^ 13 := Nat.pow_le_pow_right (by omega) h2
    rw [h3]
    exact ⟨h5, fun _ => h4⟩

section
variable {s : List SlotD} {many tombs : Int} {ps : List PairD} {most : Nat} {key v : Int} {p : Nat} {x : SlotD}

theorem KOK.free (K : KOK s many tombs ps most) (h : 0 < s.length) : HasFree s := by
  refine zc_free s ?_
  have h1 := count_all s K.dom
  have h2 := K.perm.length_eq
  have h3 := K.load
  omega

theorem mem_U {q : PairD} : q ∈ U s ↔ ∃ (i : Nat) (x : SlotD), s[i]? = some x ∧ x.st = 1 ∧ toP x = q := by
  unfold U
  simp only [List.mem_map, List.mem_filter, decide_eq_true_eq]
  constructor
  · rintro ⟨x, ⟨hx, h1⟩, h2⟩
    obtain ⟨i, hi⟩ := List.mem_iff_getElem?.1 hx
    exact ⟨i, x, hi, h1, h2⟩
  · rintro ⟨i, x, hi, h1, h2⟩
    exact ⟨x, ⟨List.mem_of_getElem? hi, h1⟩, h2⟩

theorem KOK.hit (K : KOK s many tombs ps most) (hL : LookR s key p true) : ∃ x, s[p]? = some x ∧ x.st = 1 ∧ x.key = key ∧ (⟨key, x.v⟩ : PairD) ∈ ps := by
  obtain ⟨_, h, _⟩ := hL
  obtain ⟨x, hx, h1, h2⟩ := h rfl
  refine ⟨x, hx, h1, h2, K.perm.mem_iff.1 (mem_U.2 ⟨p, x, hx, h1, ?_⟩)⟩
  simp [toP, h2]
theorem KOK.miss (K : KOK s many tombs ps most) (hL : LookR s key p false) : ∀ q ∈ ps, q.key ≠ key := by
  obtain ⟨_, _, h⟩ := hL
  intro q hq
  obtain ⟨i, x, hx, h1, h2⟩ := mem_U.1 (K.perm.mem_iff.2 hq)
  have := (h rfl).1 i x hx h1
  subst h2
  exact this

/-! ### The sorted list -/
theorem atF_split : ∀ (ps : List PairD), ps.Pairwise (fun a b => a.key < b.key) → ∀ key,
    (∀ q ∈ ps.take (atF ps key).1, q.key < key) ∧ (∀ q ∈ ps.drop (atF ps key).1, key ≤ q.key) ∧
    ((atF ps key).2 = true → ∃ q, ps[(atF ps key).1]? = some q ∧ q.key = key) ∧ ((atF ps key).2 = false → ∀ q ∈ ps, q.key ≠ key)
  | [], _, key => by simp [atF]
  | x :: ps, h, key => by
    obtain ⟨h1, h2⟩ := List.pairwise_cons.1 h
    obtain ⟨i1, i2, i3, i4⟩ := atF_split ps h2 key
    by_cases hk : key ≤ x.key
    · simp only [atF, hk, if_true, List.take_zero, List.drop_zero]
      refine ⟨by simp, ?_, ?_, ?_⟩
      · intro q hq
        rcases List.mem_cons.1 hq with rfl | hq
        · exact hk
        · have := h1 q hq; omega
      · intro hd
        exact ⟨x, rfl, of_decide_eq_true hd⟩
      · intro hd q hq
        have hd' := of_decide_eq_false hd
        rcases List.mem_cons.1 hq with rfl | hq
        · exact hd'
        · have := h1 q hq; omega
    · simp only [atF, hk, if_false, List.take_succ_cons, List.drop_succ_cons]
      refine ⟨?_, i2, ?_, ?_⟩
      · intro q hq
        rcases List.mem_cons.1 hq with rfl | hq
        · omega
        · exact i1 q hq
      · intro hd
        obtain ⟨q, hq, hk'⟩ := i3 hd
        exact ⟨q, by simpa using hq, hk'⟩
      · intro hd q hq
        rcases List.mem_cons.1 hq with rfl | hq
        · omega
        · exact i4 hd q hq

theorem sorted_unique {a b : PairD} (hs : ps.Pairwise (fun a b => a.key < b.key)) (ha : a ∈ ps) (hb : b ∈ ps) (h : a.key = b.key) : a = b := by
  induction ps with
  | nil => simp at ha
  | cons c ps ih =>
    obtain ⟨h1, h2⟩ := List.pairwise_cons.1 hs
    rcases List.mem_cons.1 ha with e1 | e1 <;> rcases List.mem_cons.1 hb with e2 | e2
    · rw [e1, e2]
    · have := h1 b e2; rw [← e1] at this; omega
    · have := h1 a e1; rw [← e2] at this; omega
    · exact ih h2 e1 e2

theorem take_cons_drop {α : Type} {l : List α} {i : Nat} {x : α} (h : l[i]? = some x) : l = l.take i ++ x :: l.drop (i + 1) := by
  rw [← drop_cons h, List.take_append_drop]

/-- Put where the key is there. -/
theorem putF_old (hs : ps.Pairwise (fun a b => a.key < b.key)) (hk : key ≠ 0) {q : PairD} (hq : q ∈ ps) (hqk : q.key = key) :
    (putF ps key v).2 = 0 ∧ (putF ps key v).1.length = ps.length ∧ ∃ r, ps.Perm (q :: r) ∧ (putF ps key v).1.Perm (⟨key, v⟩ :: r) ∧ (putF ps key v).1.Pairwise (fun a b => a.key < b.key) := by
  obtain ⟨h1, h2, h3, h4⟩ := atF_split ps hs key
  have hf : (atF ps key).2 = true := by
    cases hb : (atF ps key).2 with
    | true => rfl
    | false => exact absurd hqk (h4 hb q hq)
  obtain ⟨q', hq', hk'⟩ := h3 hf
  have : q = q' := sorted_unique hs hq (List.mem_of_getElem? hq') (by omega)
  subst this
  have hp : putF ps key v = (ps.take (atF ps key).1 ++ [⟨key, v⟩] ++ ps.drop ((atF ps key).1 + 1), 0) := by simp [putF, hk, hf]
  rw [hp]
  have hsplit := take_cons_drop hq'
  refine ⟨rfl, ?_, ps.take (atF ps key).1 ++ ps.drop ((atF ps key).1 + 1), ?_, ?_, ?_⟩
  · conv => rhs; rw [hsplit]
    simp
  · conv => lhs; rw [hsplit]
    exact List.perm_middle
  · simp only [List.append_assoc, List.singleton_append]
    exact List.perm_middle
  · rw [hsplit] at hs
    simp only [List.append_assoc, List.singleton_append]
    rw [List.pairwise_append] at hs ⊢
    obtain ⟨s1, s2, s3⟩ := hs
    obtain ⟨s4, s5⟩ := List.pairwise_cons.1 s2
    refine ⟨s1, List.pairwise_cons.2 ⟨fun b hb => ?_, s5⟩, fun a ha b hb => ?_⟩
    · have := s4 b hb; show key < b.key; omega
    · rcases List.mem_cons.1 hb with rfl | hb
      · have := s3 a ha q (by simp); show a.key < key; omega
      · exact s3 a ha b (by simp [hb])

/-- Put of a new key. -/
theorem putF_new (hs : ps.Pairwise (fun a b => a.key < b.key)) (hk : key ≠ 0) (hq : ∀ q ∈ ps, q.key ≠ key) (hl : ps.length < 4096) :
    (putF ps key v).2 = 0 ∧ (putF ps key v).1.Perm (⟨key, v⟩ :: ps) ∧ (putF ps key v).1.Pairwise (fun a b => a.key < b.key) := by
  obtain ⟨h1, h2, h3, h4⟩ := atF_split ps hs key
  have hf : (atF ps key).2 = false := by
    cases hb : (atF ps key).2 with
    | false => rfl
    | true => obtain ⟨q, hq', hk'⟩ := h3 hb; exact absurd hk' (hq q (List.mem_of_getElem? hq'))
  have hp : putF ps key v = (ps.take (atF ps key).1 ++ [⟨key, v⟩] ++ ps.drop (atF ps key).1, 0) := by simp [putF, hk, hf]; omega
  rw [hp]
  refine ⟨rfl, ?_, ?_⟩
  · simp only [List.append_assoc, List.singleton_append]
    refine List.perm_middle.trans ?_
    rw [List.take_append_drop]
  · simp only [List.append_assoc, List.singleton_append]
    conv at hs => rw [← List.take_append_drop (atF ps key).1 ps]
    rw [List.pairwise_append] at hs ⊢
    obtain ⟨s1, s2, s3⟩ := hs
    refine ⟨s1, List.pairwise_cons.2 ⟨fun b hb => ?_, s2⟩, fun a ha b hb => ?_⟩
    · have e1 := h2 b hb
      have e2 := hq b (List.drop_subset _ _ hb)
      show key < b.key
      omega
    · rcases List.mem_cons.1 hb with rfl | hb
      · exact h1 a ha
      · exact s3 a ha b hb

theorem dropF_old (hs : ps.Pairwise (fun a b => a.key < b.key)) {q : PairD} (hq : q ∈ ps) (hqk : q.key = key) :
    (dropF ps key).2 = true ∧ ps.Perm (q :: (dropF ps key).1) ∧ (dropF ps key).1.Sublist ps := by
  obtain ⟨h1, h2, h3, h4⟩ := atF_split ps hs key
  have hf : (atF ps key).2 = true := by
    cases hb : (atF ps key).2 with
    | true => rfl
    | false => exact absurd hqk (h4 hb q hq)
  obtain ⟨q', hq', hk'⟩ := h3 hf
  have : q = q' := sorted_unique hs hq (List.mem_of_getElem? hq') (by omega)
  subst this
  have hp : dropF ps key = (ps.take (atF ps key).1 ++ ps.drop ((atF ps key).1 + 1), true) := by simp [dropF, hf]
  rw [hp]
  have hsplit := take_cons_drop hq'
  refine ⟨rfl, ?_, ?_⟩
  · conv => lhs; rw [hsplit]
    exact List.perm_middle
  · conv => rhs; rw [hsplit]
    exact List.Sublist.append_left (List.sublist_cons_self _ _) _
theorem dropF_none (hs : ps.Pairwise (fun a b => a.key < b.key)) (hq : ∀ q ∈ ps, q.key ≠ key) : dropF ps key = (ps, false) := by
  obtain ⟨h1, h2, h3, h4⟩ := atF_split ps hs key
  have hf : (atF ps key).2 = false := by
    cases hb : (atF ps key).2 with
    | false => rfl
    | true => obtain ⟨q, hq', hk'⟩ := h3 hb; exact absurd hk' (hq q (List.mem_of_getElem? hq'))
  simp [dropF, hf]

/-! ### What a store into a slot does -/
theorem U_set (hx : s[p]? = some x) (y : SlotD) : ∃ r, (U s).Perm (if x.st = 1 then toP x :: r else r) ∧ (U (s.set p y)).Perm (if y.st = 1 then toP y :: r else r) := by
  refine ⟨U (s.eraseIdx p), ?_, ?_⟩
  · have := U_perm (lperm_front s p x hx); rwa [U_cons] at this
  · have := U_perm (lperm_set s p x y hx); rwa [U_cons] at this
theorem tc_set (hx : s[p]? = some x) (y : SlotD) : ∃ n, tc s = (if x.st = 2 then n + 1 else n) ∧ tc (s.set p y) = (if y.st = 2 then n + 1 else n) := by
  refine ⟨tc (s.eraseIdx p), ?_, ?_⟩
  · have := tc_perm (lperm_front s p x hx); rwa [tc_cons] at this
  · have := tc_perm (lperm_set s p x y hx); rwa [tc_cons] at this

theorem reach_set {y : SlotD} (hy : y.st ≠ 0) {k : Int} {i : Nat} (h : Reach s k i) : Reach (s.set p y) k i := by
  obtain ⟨D, h1, h2, h3⟩ := h
  refine ⟨D, by simpa using h1, by simpa using h2, fun d hd z hz => ?_⟩
  simp only [List.length_set] at hz
  rw [List.getElem?_set] at hz
  split at hz
  · split at hz
    · simp only [Option.some.injEq] at hz; subst hz; exact hy
    · cases hz
  · exact h3 d hd z hz

theorem pi_set {y : SlotD} (hp : PI s) (hy : y.st ≠ 0) (hr : y.st = 1 → Reach s y.key p) : PI (s.set p y) := by
  intro i z hz h1
  rw [List.getElem?_set] at hz
  split at hz
  · rename_i hpi
    subst hpi
    split at hz
    · simp only [Option.some.injEq] at hz; subst hz; exact reach_set hy (hr h1)
    · cases hz
  · exact reach_set hy (hp i z hz h1)

theorem dom_set {y : SlotD} (hd : ∀ x ∈ s, x.st = 0 ∨ x.st = 1 ∨ x.st = 2) (hy : y.st = 0 ∨ y.st = 1 ∨ y.st = 2) : ∀ x ∈ s.set p y, x.st = 0 ∨ x.st = 1 ∨ x.st = 2 := by
  intro z hz
  rcases List.mem_or_eq_of_mem_set hz with h | h
  · exact hd z h
  · subst h; exact hy

theorem pow_set {y : SlotD} (h : s = [] ∨ ∃ e, 3 ≤ e ∧ e ≤ 13 ∧ s.length = 2 ^ e) : s.set p y = [] ∨ ∃ e, 3 ≤ e ∧ e ≤ 13 ∧ (s.set p y).length = 2 ^ e := by
  rcases h with h | h
  · left; subst h; rfl
  · right; simpa using h

theorem KOK.put_old (K : KOK s many tombs ps most) (hL : LookR s key p true) (hk : key ≠ 0) (hv : inKind .i64 v) (hx : s[p]? = some x) :
    KOK (s.set p ⟨x.st, x.key, v⟩) many tombs (putF ps key v).1 most ∧ (putF ps key v).2 = 0 := by
  obtain ⟨x', hx', h1, h2, h3⟩ := K.hit hL
  rw [hx] at hx'
  simp only [Option.some.injEq] at hx'
  subst hx'
  obtain ⟨e1, e2, r, e3, e4, e5⟩ := putF_old (v := v) K.sorted hk h3 rfl
  obtain ⟨r', f1, f2⟩ := U_set hx ⟨x.st, x.key, v⟩
  obtain ⟨n, g1, g2⟩ := tc_set hx ⟨x.st, x.key, v⟩
  simp only [h1, if_true] at f1 f2
  have hr : r'.Perm r := by
    have h5 : (toP x :: r').Perm (⟨key, x.v⟩ :: r) := (f1.symm.trans K.perm).trans e3
    have h6 : toP x = ⟨key, x.v⟩ := by simp [toP, h2]
    rw [h6] at h5
    exact (List.perm_cons _).1 h5
  refine ⟨⟨dom_set K.dom (by simp [h1]), ?_, e5, ?_, by rw [e2]; exact K.many, ?_, ?_, pi_set K.pi (by simp [h1]) (fun _ => K.pi p x hx h1), pow_set K.pow, by simpa using K.small, by rw [e2]; exact K.cnt, by rw [e2]; exact K.cntm⟩, e1⟩
  · rw [← h1] at f2
    refine f2.trans (List.Perm.trans ?_ e4.symm)
    have h6 : toP ⟨x.st, x.key, v⟩ = ⟨key, v⟩ := by simp [toP, h2]
    rw [h6]
    exact hr.cons _
  · intro q hq
    rcases List.mem_cons.1 (e4.mem_iff.1 hq) with rfl | hq
    · have := K.keys _ h3
      exact ⟨this.1, this.2.1, hv⟩
    · exact K.keys q (e3.mem_iff.2 (by simp [hq]))
  · rw [g2, ← g1]; exact K.tombs
  · rw [e2, List.length_set, g2, ← g1]; exact K.load

theorem KOK.put_new (K : KOK s many tombs ps most) (hL : LookR s key p false) (hk : 1 ≤ key) (hkk : inKind .u64 key) (hv : inKind .i64 v) (hl : ps.length < 4096) (hload : 4 * (ps.length + tc s + 1) ≤ 3 * s.length) (hx : s[p]? = some x) :
    KOK (s.set p ⟨1, key, v⟩) (many + 1) (if x.st = 2 then tombs - 1 else tombs) (putF ps key v).1 (max most (ps.length + 1)) ∧ (putF ps key v).2 = 0 ∧ (putF ps key v).1.length = ps.length + 1 := by
  have hmiss := K.miss hL
  obtain ⟨_, _, h⟩ := hL
  obtain ⟨_, ⟨x', hx', h1⟩, hreach⟩ := h rfl
  rw [hx] at hx'
  simp only [Option.some.injEq] at hx'
  subst hx'
  obtain ⟨e1, e2, e3⟩ := putF_new (v := v) K.sorted (by omega) hmiss hl
  obtain ⟨r', f1, f2⟩ := U_set hx ⟨1, key, v⟩
  obtain ⟨n, g1, g2⟩ := tc_set hx ⟨1, key, v⟩
  simp only [h1, if_false, if_true] at f1 f2
  have hlen : (putF ps key v).1.length = ps.length + 1 := by rw [e2.length_eq]; rfl
  have hlt : tc s < 1000000 := by have := K.load; have := K.len; omega
  refine ⟨⟨dom_set K.dom (by simp), ?_, e3, ?_, by rw [hlen, K.many]; omega, ?_, ?_, pi_set K.pi (by simp) (fun _ => hreach), pow_set K.pow, ?_, by omega, by rw [hlen]; omega⟩, e1, hlen⟩
  · exact f2.trans (((f1.symm.trans K.perm).cons _).trans e2.symm)
  · intro q hq
    rcases List.mem_cons.1 (e2.mem_iff.1 hq) with rfl | hq
    · exact ⟨hkk, hk, hv⟩
    · exact K.keys q hq
  · have := K.tombs
    simp only [show ¬ ((1 : Int) = 2) by omega, if_false] at g2
    split <;> rename_i hst
    · simp only [hst, if_true] at g1; omega
    · simp only [hst, if_false] at g1; omega
  · rw [hlen, List.length_set]
    simp only [show ¬ ((1 : Int) = 2) by omega, if_false] at g2
    split at g1 <;> omega
  · have := K.small
    rw [List.length_set]
    omega

theorem KOK.drop_old (K : KOK s many tombs ps most) (hL : LookR s key p true) (hx : s[p]? = some x) :
    KOK (s.set p ⟨2, 0, 0⟩) (many - 1) (tombs + 1) (dropF ps key).1 most ∧ (dropF ps key).2 = true ∧ 1 ≤ ps.length := by
  obtain ⟨x', hx', h1, h2, h3⟩ := K.hit hL
  rw [hx] at hx'
  simp only [Option.some.injEq] at hx'
  subst hx'
  obtain ⟨e1, e2, e3⟩ := dropF_old (key := key) K.sorted h3 rfl
  obtain ⟨r', f1, f2⟩ := U_set hx ⟨2, 0, 0⟩
  obtain ⟨n, g1, g2⟩ := tc_set hx ⟨2, 0, 0⟩
  simp only [h1, if_true, show ¬ ((2 : Int) = 1) by omega, if_false] at f1 f2
  simp only [h1, show ¬ ((1 : Int) = 2) by omega, if_false, if_true] at g1 g2
  have hl : ps.length = (dropF ps key).1.length + 1 := by rw [e2.length_eq]; rfl
  refine ⟨⟨dom_set K.dom (by simp), ?_, K.sorted.sublist e3, fun q hq => K.keys q (e3.subset hq), by have := K.many; omega, by have := K.tombs; omega, ?_, pi_set K.pi (by simp) (fun h => absurd h (by simp)), pow_set K.pow, by simpa using K.small, by have := K.cnt; omega, by have := K.cntm; omega⟩, e1, by omega⟩
  · have h5 : (toP x :: r').Perm (⟨key, x.v⟩ :: (dropF ps key).1) := (f1.symm.trans K.perm).trans e2
    have h6 : toP x = ⟨key, x.v⟩ := by simp [toP, h2]
    rw [h6] at h5
    exact f2.trans ((List.perm_cons _).1 h5)
  · rw [List.length_set]
    have := K.load
    omega
end
end Go.Proofs.YtokeofoemjeleaaDoor
