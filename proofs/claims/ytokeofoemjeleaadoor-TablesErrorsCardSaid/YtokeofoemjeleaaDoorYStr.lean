/- The proof core: strings, as lists of bytes. -/
import Derived.Test.YtokeofoemjeleaaDoorYRules5
import Derived.Lib.Strings
namespace Go.Y
open Go Go.RowKit

/-- The string of these bytes. -/
def str (l : List UInt8) : ByteArray := ⟨l.toArray⟩
theorem str_of (s : ByteArray) : s = str s.data.toList := rfl
theorem str_size (l : List UInt8) : (str l).size = l.length := by simp [str, ByteArray.size]
theorem str_toList (l : List UInt8) : (str l).toList = l := by rw [Lib.toList_data]; simp [str]
theorem str_data (l : List UInt8) : (str l).data.toList = l := by simp [str]
theorem str_inj {l l' : List UInt8} (h : str l = str l') : l = l' := by
  have := congrArg (fun s : ByteArray => s.data.toList) h
  simpa [str] using this
theorem str_append (l l' : List UInt8) : str l ++ str l' = str (l ++ l') := by
  apply ByteArray.ext
  rw [ByteArray.data_append]
  simp [str]
theorem str_extract (l : List UInt8) (a b : Nat) : (str l).extract a b = str ((l.take b).drop a) := by
  rw [Lib.extract_eq, str_data, str, List.drop_take]
theorem str_get (l : List UInt8) (i : Nat) : (str l)[i]? = l[i]? := by
  by_cases hi : i < l.length
  · have h' : i < (str l).size := by rw [str_size]; exact hi
    rw [getElem?_pos (str l) i h', List.getElem?_eq_getElem hi]
    rfl
  · have h' : ¬ i < (str l).size := by rw [str_size]; exact hi
    rw [getElem?_neg (str l) i h', List.getElem?_eq_none (by omega)]

theorem bd (l l' : List UInt8) : (l == l') = decide (l = l') := by
  by_cases h : l = l'
  · subst h; simp
  · simp [h]

def rdStr : Rd (List UInt8) := fun _ cs x => cs = [.string (str x)] ∧ x.length ≤ 9223372036854775807
theorem mono_rdStr : Mono rdStr := fun _ _ _ _ _ h => h

/-- One byte as a number. -/
abbrev nb (b : UInt8) : Int := (b.toNat : Int)
theorem nb_lo (b : UInt8) : 0 ≤ nb b := by simp [nb]
theorem nb_hi (b : UInt8) : nb b ≤ 255 := by
  have := b.toNat_lt
  simp only [nb]; omega
theorem nb_in (b : UInt8) : inKind .u8 (nb b) := ⟨nb_lo b, nb_hi b⟩
theorem nb_eq {a b : UInt8} : nb a = nb b ↔ a = b := by
  constructor
  · intro h; exact UInt8.toNat_inj.1 (by simp only [nb] at h; omega)
  · intro h; rw [h]

section
variable {P : Program} {w : World} {ρ : Operand → Value} {dd : Option Tmp} {t : TypeId} {p : String} {af : Array Edge} {g : Option (Nat × Bool)}

theorem run_lenStr {ty : TypeId} {x : Operand} {l : List UInt8} (ht : tk P ty = .str) (hx : ρ x = .string (str l)) :
    (execOp ρ ⟨dd, .call ⟨.builtin .len, #[x], #[ty]⟩, t, p, af, g⟩).run P w = .ok (.value (.int .i64 (l.length : Nat))) w := by
  simp [execOp, resolve, invoke, builtin, Builtin.len_, hx, run_under (under_str ht), goInt, str_size]

theorem run_strIndex {ty : TypeId} {x y : Operand} {l : List UInt8} {k : IntKind} {i : Nat} {b : UInt8} (ht : tk P ty = .str) (hx : ρ x = .string (str l)) (hy : ρ y = .int k (i : Int)) (hi : l[i]? = some b) :
    (execOp ρ ⟨dd, .index ty x y, t, p, af, g⟩).run P w = .ok (.value (.int .u8 (nb b))) w := by
  have h0 : (0 : Int) ≤ (i : Int) := by omega
  simp [execOp, Instr.index, hx, hy, asIntOf, run_under (under_str ht), str_get, hi]

theorem run_strSlice {ty : TypeId} {x : Operand} {lo hi : Option Operand} {l : List UInt8} {a b : Nat} {ka kb : IntKind} {za zb : Int} (ht : tk P ty = .str) (hx : ρ x = .string (str l))
    (hl : match lo with | none => a = 0 | some y => ρ y = .int ka za ∧ za = (a : Int)) (hh : match hi with | none => b = l.length | some y => ρ y = .int kb zb ∧ zb = (b : Int)) (h1 : a ≤ b) (h2 : b ≤ l.length) :
    (execOp ρ ⟨dd, .slice ty x lo hi none, t, p, af, g⟩).run P w = .ok (.value (.string (str ((l.take b).drop a)))) w := by
  have hs' := run_under (w := w) (under_str ht)
  have c1 : (a : Int) ≤ (b : Int) := by omega
  have c2 : (b : Int) ≤ (l.length : Int) := by omega
  cases lo with
  | none =>
    simp only at hl; subst hl
    cases hi with
    | none =>
      simp only at hh; subst hh
      simp [execOp, Instr.sliceAt, hs', Instr.slice, hx, Instr.sliceBounds, str_size, str_extract]
    | some y =>
      obtain ⟨hh, rfl⟩ := hh
      simp [execOp, Instr.sliceAt, hs', Instr.slice, hx, Instr.sliceBounds, Instr.sliceBound, hh, asIntOf, h2, str_size, str_extract]
  | some z =>
    obtain ⟨hl, rfl⟩ := hl
    cases hi with
    | none =>
      simp only at hh; subst hh
      simp [execOp, Instr.sliceAt, hs', Instr.slice, hx, Instr.sliceBounds, Instr.sliceBound, hl, asIntOf, h1, str_size, str_extract]
    | some y =>
      obtain ⟨hh, rfl⟩ := hh
      simp [execOp, Instr.sliceAt, hs', Instr.slice, hx, Instr.sliceBounds, Instr.sliceBound, hl, hh, asIntOf, h1, h2, str_size, str_extract]

theorem run_strAdd {x y : Operand} {ty yt : TypeId} {l l' : List UInt8} (hx : ρ x = .string (str l)) (hy : ρ y = .string (str l')) (h : l.length + l'.length ≤ 9223372036854775807) :
    (execOp ρ ⟨dd, .binOp .add ty x y yt, t, p, af, g⟩).run P w = .ok (.value (.string (str (l ++ l')))) w := by
  have h' : ((l.length : Int) + (l'.length : Int)) ≤ 9223372036854775807 := by omega
  simp [execOp, hx, hy, eqGuard, binOp, Op.stringOp, str_size, str_append, h']
theorem run_strEq {x y : Operand} {ty yt : TypeId} {l l' : List UInt8} (hx : ρ x = .string (str l)) (hy : ρ y = .string (str l')) :
    (execOp ρ ⟨dd, .binOp .eql ty x y yt, t, p, af, g⟩).run P w = .ok (.value (.bool (decide (l = l')))) w := by
  simp [execOp, hx, hy, eqGuard, binOp, Op.stringOp, str_toList]
  exact bd _ _
theorem run_strNe {x y : Operand} {ty yt : TypeId} {l l' : List UInt8} (hx : ρ x = .string (str l)) (hy : ρ y = .string (str l')) :
    (execOp ρ ⟨dd, .binOp .neq ty x y yt, t, p, af, g⟩).run P w = .ok (.value (.bool (!decide (l = l')))) w := by
  simp [execOp, hx, hy, eqGuard, binOp, Op.stringOp, str_toList]
  exact bd _ _
theorem run_strLss {x y : Operand} {ty yt : TypeId} {l l' : List UInt8} (hx : ρ x = .string (str l)) (hy : ρ y = .string (str l')) :
    (execOp ρ ⟨dd, .binOp .lss ty x y yt, t, p, af, g⟩).run P w = .ok (.value (.bool (Op.bytesLess l l'))) w := by
  simp [execOp, hx, hy, eqGuard, binOp, Op.stringOp, str_toList]
theorem run_strGeq {x y : Operand} {ty yt : TypeId} {l l' : List UInt8} (hx : ρ x = .string (str l)) (hy : ρ y = .string (str l')) :
    (execOp ρ ⟨dd, .binOp .geq ty x y yt, t, p, af, g⟩).run P w = .ok (.value (.bool (!Op.bytesLess l l'))) w := by
  simp [execOp, hx, hy, eqGuard, binOp, Op.stringOp, str_toList]
theorem run_strLeq {x y : Operand} {ty yt : TypeId} {l l' : List UInt8} (hx : ρ x = .string (str l)) (hy : ρ y = .string (str l')) :
    (execOp ρ ⟨dd, .binOp .leq ty x y yt, t, p, af, g⟩).run P w = .ok (.value (.bool (Op.bytesLess l l' || l == l'))) w := by
  simp [execOp, hx, hy, eqGuard, binOp, Op.stringOp, str_toList]
theorem run_strGtr {x y : Operand} {ty yt : TypeId} {l l' : List UInt8} (hx : ρ x = .string (str l)) (hy : ρ y = .string (str l')) :
    (execOp ρ ⟨dd, .binOp .gtr ty x y yt, t, p, af, g⟩).run P w = .ok (.value (.bool (!(Op.bytesLess l l' || l == l')))) w := by
  simp [execOp, hx, hy, eqGuard, binOp, Op.stringOp, str_toList]
end
end Go.Y
