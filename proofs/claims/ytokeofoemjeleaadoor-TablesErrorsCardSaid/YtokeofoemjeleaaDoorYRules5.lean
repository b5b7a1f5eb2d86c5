/- The proof core: literals of many elements; shifts. -/
import Derived.Test.YtokeofoemjeleaaDoorYRules4
import Derived.Test.YtokeofoemjeleaaDoorYTree
namespace Go.Y
open Go Go.RowKit

/-- These parts, from this place on, have these cells. -/
def Parts : Nat → List (Nat × Value) → List (List Value) → Prop
  | _, [], [] => True
  | k, p :: ps, c :: cs => p.1 = k ∧ p.2.cells = c.toArray ∧ Parts (k + 1) ps cs
  | _, _, _ => False

theorem foldl_off (off : Nat) : ∀ (c : List Value) (j : Nat) (pre mid post : List Value), mid.length = c.length → pre.length = off + j →
    (c.zipIdx j).foldl (fun (cs : Array Value) (cj : Value × Nat) => cs.setIfInBounds (off + cj.2) cj.1) (pre ++ mid ++ post).toArray = (pre ++ c ++ post).toArray
  | [], j, pre, mid, post, h, _ => by
    have : mid = [] := List.eq_nil_of_length_eq_zero h
    subst this; rfl
  | x :: c, j, pre, mid, post, h, hp => by
    match mid, h with
    | m :: mid, h =>
      simp only [List.zipIdx_cons, List.foldl_cons]
      have h1 : (pre ++ m :: mid ++ post).toArray.setIfInBounds (off + j) x = ((pre ++ [x]) ++ mid ++ post).toArray := by
        rw [← hp]
        simp
      rw [h1, foldl_off off c (j + 1) (pre ++ [x]) mid post (by simpa using h) (by simp [hp]; omega)]
      simp

theorem fill_parts {sz : Nat} : ∀ (ps : List (Nat × Value)) (cs : List (List Value)) (k : Nat) (pre rest : List Value), Parts k ps cs → (∀ c ∈ cs, c.length = sz) → pre.length = k * sz → rest.length = cs.length * sz →
    Instr.fill (fun j => some (j * sz, sz)) (pre ++ rest).toArray ps = some (pre ++ cs.flatten).toArray
  | [], [], k, pre, rest, _, _, _, hr => by
    have : rest = [] := List.eq_nil_of_length_eq_zero (by simpa using hr)
    subst this
    simp [Instr.fill]
  | p :: ps, c :: cs, k, pre, rest, h, hl, hp, hr => by
    obtain ⟨i, v⟩ := p
    obtain ⟨h1, h2, h3⟩ := h
    simp only at h1 h2
    subst h1
    have hcl : c.length = sz := hl c (by simp)
    have hr' : rest.length = sz + cs.length * sz := by simpa [Nat.add_mul, Nat.add_comm] using hr
    have hsplit : rest = rest.take sz ++ rest.drop sz := by simp
    have hf : (c.toArray.zipIdx.foldl (fun (cs : Array Value) (cj : Value × Nat) => cs.setIfInBounds (i * sz + cj.2) cj.1) (pre ++ rest).toArray) = ((pre ++ c) ++ rest.drop sz).toArray := by
      have := foldl_off (i * sz) c 0 pre (rest.take sz) (rest.drop sz) (by rw [List.length_take]; omega) (by omega)
      rw [← Array.foldl_toList, Array.toList_zipIdx]
      rw [← this]
      conv => lhs; rw [hsplit]
      simp
    have hc : ¬ (v.cells.size ≠ sz ∨ i * sz + v.cells.size > (pre ++ rest).toArray.size) := by
      rw [h2]
      simp only [List.size_toArray, List.length_append, hcl, hp, hr']
      omega
    simp only [Instr.fill]
    rw [if_neg (by simpa using hc), h2]
    have ih := fill_parts ps cs (i + 1) (pre ++ c) (rest.drop sz) h3 (fun c hc => hl c (by simp [hc])) (by simp [hp, hcl, Nat.add_mul]) (by rw [List.length_drop]; omega)
    rw [show (fun (cs : Array Value) (x : Value × Nat) => match x with | (c, j) => cs.setIfInBounds (i * sz + j) c) = (fun (cs : Array Value) (cj : Value × Nat) => cs.setIfInBounds (i * sz + cj.2) cj.1) from rfl, hf, ih]
    simp

theorem Els.cons {α : Type} {rd : Rd α} {sz : Nat} {G : Ghost} {c r : List Value} {x : α} {xs : List α} (h : rd G c x) (hl : c.length = sz) (hr : Els rd sz G r xs) : Els rd sz G (c ++ r) (x :: xs) := ⟨c, r, rfl, hl, h, hr⟩

theorem flat_len {sz : Nat} : ∀ {cs : List (List Value)}, (∀ c ∈ cs, c.length = sz) → cs.flatten.length = cs.length * sz
  | [], _ => by simp
  | c :: cs, hl => by
    have ih := flat_len (cs := cs) (fun c hc => hl c (by simp [hc]))
    have h0 := hl c (by simp)
    simp only [List.flatten_cons, List.length_append, List.length_cons, ih, h0, Nat.add_mul, Nat.one_mul]
    omega

section
variable {P : Program} {ops : Array Oper} {Q : Exit → Act → World → Prop} {n : Nat} {a : Act} {w w0 : World} {e : Env} {G : Ghost} {L : List Res}
  {d : Nat} {t : TypeId} {p : String} {af : Array Edge} {r : List Oper}

theorem rl_buildSliceN {s et : TypeId} {i : TI} {len : Nat} {parts : List (Nat × Operand)} {ps : List (Nat × Value)} {cs : List (List Value)} {fl : List Value} (F : Fits n a e) (M : Mem w0 G L w) (hs : tk P s = .slice et) (ht : TOK P et i)
    (hp : evp e parts = some ps) (hfl : cs.flatten = fl) (hP : Parts 0 ps cs) (hl : ∀ c ∈ cs, c.length = i.size) (hlen : cs.length = len) (h1 : ∀ u ∈ fl, u.oneCell' = true) (hpos : 0 < i.size) (hsm : len * i.size ≤ 16777216) (hd : Nat.ble (d + 1) n = true)
    (k : ∀ v w' a', Mem w0 G (.row v len fl et i.size :: L) w' → Fits n a' ((d, v) :: e) → rl P ops Q r a' w') :
    rl P ops Q (⟨some d, .buildSlice s len parts.toArray, t, p, af, none⟩ :: r) a w := by
  subst hfl
  have hfl : cs.flatten.length = len * i.size := by
    rw [← hlen]; exact flat_len hl
  refine rl_run F (run_buildSlice (cs := cs.flatten) hs ht hsm ?_) hd fun a' F' => k _ _ a' ?_ F'
  · rw [F.evp hp]
    have := fill_parts (sz := i.size) ps cs 0 [] ((Array.range (len * i.size)).map (i.zero.cells[· % i.zero.cells.size]!)).toList hP hl (by simp) (by simp [hlen])
    rw [List.nil_append] at this
    rw [show (Array.range (len * i.size)).map (i.zero.cells[· % i.zero.cells.size]!) = ((Array.range (len * i.size)).map (i.zero.cells[· % i.zero.cells.size]!)).toList.toArray from rfl]
    simpa only [List.nil_append] using this
  · have := M.newrow (t := et) (sz := i.size) (cs := cs.flatten) (spare := []) (n := len) (c := len) h1 hfl (by simpa using hfl) (Nat.le_refl _) ?_
    · rw [List.append_nil] at this
      exact this
    · simp only [maxLen]
      have : len * 1 ≤ len * i.size := Nat.mul_le_mul_left _ hpos
      omega

variable {ρ : Operand → Value} {dd : Option Tmp} {g : Option (Nat × Bool)}
theorem run_shli {x y : Operand} {ty yt : TypeId} {k yk : IntKind} {a b : Int} {m : Nat} (hx : ρ x = .int k a) (hy : ρ y = .int yk b) (hb : b = (m : Int)) (hm : m ≤ k.bits) (h : inKind k (a * 2 ^ m)) :
    (execOp ρ ⟨dd, .binOp .shl ty x y yt, t, p, af, g⟩).run P w = .ok (.value (.int k (a * 2 ^ m))) w := by
  subst hb
  have h0 : ¬ ((m : Int) < 0) := by omega
  simp [execOp, hx, hy, eqGuard, binOp, Op.shift, h0, Nat.min_eq_left hm, wrap_in h]
theorem run_shlc {x y : Operand} {ty yt : TypeId} {k yk : IntKind} {a b c : Int} {m : Nat} (hx : ρ x = .int k a) (hy : ρ y = .int yk b) (hb : b = (m : Int)) (hm : m ≤ k.bits) (hc : (2 : Int) ^ m = c) (h : inKind k (a * c)) :
    (execOp ρ ⟨dd, .binOp .shl ty x y yt, t, p, af, g⟩).run P w = .ok (.value (.int k (a * c))) w := by
  subst hc; exact run_shli hx hy hb hm h
theorem run_shri {x y : Operand} {ty yt : TypeId} {k yk : IntKind} {a b : Int} {m : Nat} (hx : ρ x = .int k a) (hy : ρ y = .int yk b) (hb : b = (m : Int)) (hm : m ≤ k.bits) :
    (execOp ρ ⟨dd, .binOp .shr ty x y yt, t, p, af, g⟩).run P w = .ok (.value (.int k (a / 2 ^ m))) w := by
  subst hb
  have h0 : ¬ ((m : Int) < 0) := by omega
  have h1 : (0 : Int) ≤ 2 ^ m := Int.pow_nonneg (by decide)
  simp [execOp, hx, hy, eqGuard, binOp, Op.shift, h0, Nat.min_eq_left hm, Int.fdiv_eq_ediv_of_nonneg _ h1]
end
end Go.Y
