/- The plain functions. -/
import Derived.Test.YtokeofoemjeleaaDoorYA
namespace Go.Proofs.YtokeofoemjeleaaDoor
open Go Go.Y

structure PairD where
  key : Int
  v : Int

def rdPair : Rd PairD := fun _ cs x => cs = [.int .u64 x.key, .int .i64 x.v] ∧ inKind .u64 x.key ∧ inKind .i64 x.v
theorem mono_rdPair : Mono rdPair := fun _ _ _ _ _ h => h

def atF : List PairD → Int → Nat × Bool
  | [], _ => (0, false)
  | x :: xs, key => if key ≤ x.key then (0, decide (x.key = key)) else ((atF xs key).1 + 1, (atF xs key).2)

theorem drop_cons {α : Type} {xs : List α} {k : Nat} {x : α} (hx : xs[k]? = some x) : xs.drop k = x :: xs.drop (k + 1) := by
  rw [List.drop_eq_getElem_cons (lt_of_get hx)]
  congr 1
  rw [List.getElem?_eq_getElem (lt_of_get hx)] at hx
  simpa using hx

theorem atF_step {xs : List PairD} {key : Int} {k : Nat} {x : PairD} (h : atF xs key = ((atF (xs.drop k) key).1 + k, (atF (xs.drop k) key).2)) (hx : xs[k]? = some x) :
    (key ≤ x.key → atF xs key = (k, decide (x.key = key))) ∧ (¬ key ≤ x.key → atF xs key = ((atF (xs.drop (k + 1)) key).1 + (k + 1), (atF (xs.drop (k + 1)) key).2)) := by
  rw [drop_cons hx] at h
  refine ⟨fun hk => ?_, fun hk => ?_⟩
  · rw [h]; simp [atF, hk]
  · rw [h]; simp [atF, hk]; omega

theorem atF_end {xs : List PairD} {key : Int} {k : Nat} (h : atF xs key = ((atF (xs.drop k) key).1 + k, (atF (xs.drop k) key).2)) (hk : xs.length ≤ k) (hk2 : k ≤ xs.length := by omega) : atF xs key = (xs.length, false) := by
  rw [List.drop_of_length_le hk] at h
  rw [h]; simp [atF]; omega

theorem atF_le : ∀ (xs : List PairD) (key : Int), (atF xs key).1 ≤ xs.length ∧ ((atF xs key).2 = true → (atF xs key).1 < xs.length)
  | [], key => by simp [atF]
  | x :: xs, key => by
    have ih := atF_le xs key
    unfold atF
    split
    · simp
    · simp only [List.length_cons]
      exact ⟨by omega, fun h => by have := ih.2 h; omega⟩

def putF (xs : List PairD) (key v : Int) : List PairD × Int :=
  if key = 0 then (xs, 9) else
  if (atF xs key).2 = false ∧ 4096 ≤ xs.length then (xs, 3) else
  (xs.take (atF xs key).1 ++ [⟨key, v⟩] ++ xs.drop (if (atF xs key).2 then (atF xs key).1 + 1 else (atF xs key).1), 0)

def dropF (xs : List PairD) (key : Int) : List PairD × Bool :=
  if (atF xs key).2 then (xs.take (atF xs key).1 ++ xs.drop ((atF xs key).1 + 1), true) else (xs, false)

def PutR (xs : List PairD) (key v : Int) (G : Ghost) (r : Value) : Prop :=
  ∃ a c, r = .tuple #[.slice a (putF xs key v).1.length c, .int .i64 (putF xs key v).2] ∧ RdSl rdPair 2 G (.slice a (putF xs key v).1.length c) (putF xs key v).1
theorem PutR.mk {xs ys : List PairD} {key v er : Int} {G : Ghost} {a : Option Addr} {n c : Nat} (h : putF xs key v = (ys, er)) (hn : n = ys.length) (S : RdSl rdPair 2 G (.slice a n c) ys) :
    PutR xs key v G (.tuple #[.slice a n c, .int .i64 er]) := by
  subst hn; exact ⟨a, c, by rw [h], by rw [h]; exact S⟩
def DropR (xs : List PairD) (key : Int) (G : Ghost) (r : Value) : Prop :=
  ∃ a c, r = .tuple #[.slice a (dropF xs key).1.length c, .bool (dropF xs key).2] ∧ RdSl rdPair 2 G (.slice a (dropF xs key).1.length c) (dropF xs key).1
theorem DropR.mk {xs ys : List PairD} {key : Int} {b : Bool} {G : Ghost} {a : Option Addr} {n c : Nat} (h : dropF xs key = (ys, b)) (hn : n = ys.length) (S : RdSl rdPair 2 G (.slice a n c) ys) :
    DropR xs key G (.tuple #[.slice a n c, .bool b]) := by
  subst hn; exact ⟨a, c, by rw [h], by rw [h]; exact S⟩
end Go.Proofs.YtokeofoemjeleaaDoor
