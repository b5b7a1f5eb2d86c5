/- The plain theory of the map: widening. -/
import Derived.Test.YtokeofoemjeleaaDoorInv
namespace Go.Proofs.YtokeofoemjeleaaDoor
open Go Go.Y

/-- After i of the old slots: the new ones hold what was used among them. -/
structure WInv (s : List SlotD) (n i : Nat) (t : List SlotD) : Prop where
  len : t.length = n
  dom : ∀ x ∈ t, x.st = 0 ∨ x.st = 1
  pi : PI t
  perm : (U t).Perm (U (s.take i))

def z0 : SlotD := ⟨0, 0, 0⟩

theorem WInv.start (s : List SlotD) (n : Nat) : WInv s n 0 (List.replicate n z0) := by
  refine ⟨by simp, ?_, ?_, ?_⟩
  · intro x hx
    rw [(List.mem_replicate.1 hx).2]; exact Or.inl rfl
  · intro i x hx h1
    rw [(List.mem_replicate.1 (List.mem_of_getElem? hx)).2] at h1
    simp [z0] at h1
  · have : U (List.replicate n z0) = [] := by
      unfold U
      rw [List.filter_eq_nil_iff.2 (by intro x hx; rw [(List.mem_replicate.1 hx).2]; simp [z0])]
      rfl
    rw [this]
    exact List.Perm.refl _

theorem take_succ_get {α : Type} {l : List α} {i : Nat} {x : α} (h : l[i]? = some x) : l.take (i + 1) = l.take i ++ [x] := by
  rw [List.take_add_one, h]; rfl

theorem U_append (s t : List SlotD) : U (s ++ t) = U s ++ U t := by simp [U]
theorem U_one (x : SlotD) : U [x] = if x.st = 1 then [toP x] else [] := by rw [U_cons]; rfl

theorem nodup_of_sorted {ps : List PairD} (h : ps.Pairwise (fun a b => a.key < b.key)) : ps.Pairwise (fun a b => a.key ≠ b.key) := h.imp (fun h => by omega)

section
variable {s t : List SlotD} {n i : Nat} {x : SlotD} {many tombs : Int} {ps : List PairD} {most : Nat} {p : Nat} {f : Bool}

theorem WInv.skip (W : WInv s n i t) (hx : s[i]? = some x) (h : x.st ≠ 1) : WInv s n (i + 1) t :=
  ⟨W.len, W.dom, W.pi, by rw [take_succ_get hx, U_append, U_one, if_neg h, List.append_nil]; exact W.perm⟩

theorem WInv.tc (W : WInv s n i t) : tc t = 0 := by
  unfold YtokeofoemjeleaaDoor.tc
  rw [List.length_eq_zero_iff, List.filter_eq_nil_iff]
  intro x hx
  rcases W.dom x hx with h | h <;> simp [h]

theorem WInv.free (W : WInv s n i t) (K : KOK s many tombs ps most) (hn : ps.length < n) : HasFree t := by
  refine zc_free t ?_
  have h1 := count_all t (fun x hx => (W.dom x hx).imp id Or.inl)
  have h2 := W.perm.length_eq
  have h3 := W.tc
  have h4 : (U (s.take i)).length ≤ (U s).length := by
    conv => rhs; rw [← List.take_append_drop i s]
    rw [U_append, List.length_append]; omega
  have h5 := K.perm.length_eq
  have h6 := W.len
  omega

theorem WInv.miss (W : WInv s n i t) (K : KOK s many tombs ps most) (hx : s[i]? = some x) (h1 : x.st = 1) (hL : LookR t x.key p f) : f = false := by
  cases f with
  | false => rfl
  | true =>
    exfalso
    obtain ⟨_, h, _⟩ := hL
    obtain ⟨y, hy, h2, h3⟩ := h rfl
    have hm : toP y ∈ U (s.take i) := W.perm.mem_iff.1 (mem_U.2 ⟨p, y, hy, h2, rfl⟩)
    have hs : U s = U (s.take i) ++ (toP x :: U (s.drop (i + 1))) := by
      conv => lhs; rw [take_cons_drop hx]
      rw [U_append, U_cons, if_pos h1]
    have hp := K.perm.symm.pairwise (nodup_of_sorted K.sorted) (fun {a b} h => fun e => h e.symm)
    rw [hs, List.pairwise_append] at hp
    exact hp.2.2 _ hm (toP x) (by simp) (by simpa [toP] using h3)

theorem WInv.add (W : WInv s n i t) (K : KOK s many tombs ps most) (hx : s[i]? = some x) (h1 : x.st = 1) (hL : LookR t x.key p f) : WInv s n (i + 1) (t.set p x) := by
  have hf := W.miss K hx h1 hL
  subst hf
  obtain ⟨_, _, h⟩ := hL
  obtain ⟨_, ⟨y, hy, h2⟩, hr⟩ := h rfl
  refine ⟨by simpa using W.len, ?_, ?_, ?_⟩
  · intro z hz
    rcases List.mem_or_eq_of_mem_set hz with h | h
    · exact W.dom z h
    · subst h; exact Or.inr h1
  · exact pi_set W.pi (by omega) (fun _ => hr)
  · obtain ⟨r, e1, e2⟩ := U_set hy x
    rw [if_neg h2] at e1
    rw [if_pos h1] at e2
    rw [take_succ_get hx, U_append, U_one, if_pos h1]
    refine e2.trans ?_
    refine ((e1.symm.trans W.perm).cons _).trans ?_
    exact (List.perm_append_singleton _ _).symm

theorem KOK.widened (W : WInv s n s.length t) (K : KOK s many tombs ps most) {e : Nat} (he : 3 ≤ e) (hn : n = 2 ^ e) (h2 : 2 * (ps.length + 1) ≤ n) (h4 : n = 8 ∨ n < 4 * (ps.length + 1)) (hc : ps.length < 4096) : KOK t many 0 ps (max most (ps.length + 1)) := by
  have hp : (U t).Perm ps := by
    have := W.perm
    rw [List.take_length] at this
    exact this.trans K.perm
  refine ⟨fun x hx => (W.dom x hx).imp id Or.inl, hp, K.sorted, K.keys, K.many, by rw [W.tc]; rfl, by rw [W.tc, W.len]; omega, W.pi, Or.inr ⟨e, he, ?_, by rw [W.len, hn]⟩, ?_, K.cnt, by have := K.cntm; omega⟩
  · rcases Nat.lt_or_ge e 14 with h | h
    · omega
    · have := Nat.pow_le_pow_right (show 0 < 2 by omega) h
      omega
  · rw [W.len]
    omega
end

def getF (ps : List PairD) (key : Int) : Int × Bool := if (atF ps key).2 then (((ps[(atF ps key).1]?).map (·.v)).getD 0, true) else (0, false)
theorem getF_hit {ps : List PairD} (hs : ps.Pairwise (fun a b => a.key < b.key)) {key v : Int} (h : (⟨key, v⟩ : PairD) ∈ ps) : getF ps key = (v, true) := by
  obtain ⟨h1, h2, h3, h4⟩ := atF_split ps hs key
  have hf : (atF ps key).2 = true := by
    cases hb : (atF ps key).2 with
    | true => rfl
    | false => exact absurd rfl (h4 hb _ h)
  obtain ⟨q, hq, hk⟩ := h3 hf
  have : q = ⟨key, v⟩ := sorted_unique hs (List.mem_of_getElem? hq) h hk
  subst this
  simp [getF, hf, hq]
theorem getF_miss {ps : List PairD} (hs : ps.Pairwise (fun a b => a.key < b.key)) {key : Int} (h : ∀ q ∈ ps, q.key ≠ key) : getF ps key = (0, false) := by
  obtain ⟨h1, h2, h3, h4⟩ := atF_split ps hs key
  have hf : (atF ps key).2 = false := by
    cases hb : (atF ps key).2 with
    | false => rfl
    | true => obtain ⟨q, hq', hk'⟩ := h3 hb; exact absurd hk' (h q (List.mem_of_getElem? hq'))
  simp [getF, hf]
theorem putF_zero {ps : List PairD} {v : Int} : putF ps 0 v = (ps, 9) := by simp [putF]
theorem putF_full {ps : List PairD} (hs : ps.Pairwise (fun a b => a.key < b.key)) {key v : Int} (hk : key ≠ 0) (h : ∀ q ∈ ps, q.key ≠ key) (hl : 4096 ≤ ps.length) : putF ps key v = (ps, 3) := by
  obtain ⟨h1, h2, h3, h4⟩ := atF_split ps hs key
  have hf : (atF ps key).2 = false := by
    cases hb : (atF ps key).2 with
    | false => rfl
    | true => obtain ⟨q, hq', hk'⟩ := h3 hb; exact absurd hk' (h q (List.mem_of_getElem? hq'))
  simp [putF, hk, hf, hl]
theorem KOK.none {s : List SlotD} {many tombs : Int} {ps : List PairD} {most : Nat} (K : KOK s many tombs ps most) (h : s.length = 0) : ps = [] ∧ many = 0 ∧ tombs = 0 ∧ tc s = 0 := by
  have h1 := K.load
  have h2 := K.many
  have h3 := K.tombs
  exact ⟨List.eq_nil_of_length_eq_zero (by omega), by omega, by omega, by omega⟩
theorem KOK.more {s : List SlotD} {many tombs : Int} {ps : List PairD} {most m : Nat} (K : KOK s many tombs ps most) (h : most ≤ m) : KOK s many tombs ps m :=
  ⟨K.dom, K.perm, K.sorted, K.keys, K.many, K.tombs, K.load, K.pi, K.pow, by have := K.small; omega, K.cnt, by have := K.cntm; omega⟩
end Go.Proofs.YtokeofoemjeleaaDoor
