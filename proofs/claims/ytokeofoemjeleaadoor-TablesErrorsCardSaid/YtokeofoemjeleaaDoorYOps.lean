/- The proof core, operations: what each operation's run comes to. -/
import Derived.Test.YtokeofoemjeleaaDoorYMem
namespace Go.Y
open Go

section
variable {P : Program} {w : World} {ρ : Operand → Value} {d : Option Tmp} {t : TypeId} {p : String} {af : Array Edge} {g : Option (Nat × Bool)}

theorem run_move {x : Operand} {v : Value} (hx : ρ x = v) : (execOp ρ ⟨d, .move x, t, p, af, g⟩).run P w = .ok (.value v) w := by simp [execOp, hx]
theorem run_assign {x : Operand} {v : Value} (hx : ρ x = v) : (execOp ρ ⟨d, .assign x, t, p, af, g⟩).run P w = .ok (.value v) w := by simp [execOp, hx]
theorem run_pick_t {c x y : Operand} {b : Bool} {v : Value} (hc : ρ c = .bool b) (hb : b = true) (hx : ρ x = v) : (execOp ρ ⟨d, .pick c x y, t, p, af, g⟩).run P w = .ok (.value v) w := by
  subst hb; simp [execOp, hc, hx, asBool]
theorem run_pick_f {c x y : Operand} {b : Bool} {v : Value} (hc : ρ c = .bool b) (hb : b = false) (hy : ρ y = v) : (execOp ρ ⟨d, .pick c x y, t, p, af, g⟩).run P w = .ok (.value v) w := by
  subst hb; simp [execOp, hc, hy, asBool]
theorem run_nilCheck {x : Operand} {a : Addr} (hx : ρ x = .pointer (some a)) : (execOp ρ ⟨d, .nilCheck x, t, p, af, g⟩).run P w = .ok (.value (.pointer (some a))) w := by
  simp [execOp, hx]
theorem run_extract {x : Operand} {i : Nat} {vs : Array Value} {v : Value} (hx : ρ x = .tuple vs) (hi : vs[i]? = some v) : (execOp ρ ⟨d, .extract x i, t, p, af, g⟩).run P w = .ok (.value v) w := by
  simp [execOp, hx, Instr.extract, hi]
theorem run_not {x : Operand} {ty : TypeId} {b : Bool} (hx : ρ x = .bool b) : (execOp ρ ⟨d, .unOp .not ty x, t, p, af, g⟩).run P w = .ok (.value (.bool (!b))) w := by
  simp [execOp, hx, Op.unary]
theorem run_makeFunc {fn : Fn} {cs : Array Operand} {vs : Array Value} (hv : cs.map ρ = vs) : (execOp ρ ⟨d, .makeFunc fn #[] cs, t, p, af, g⟩).run P w = .ok (.value (.func fn #[] vs)) w := by
  simp [execOp, Instr.makeFunc, hv]

/-! ### Integers -/
theorem run_add {x y : Operand} {ty yt : TypeId} {k : IntKind} {a b : Int} (hx : ρ x = .int k a) (hy : ρ y = .int k b) :
    (execOp ρ ⟨d, .binOp .add ty x y yt, t, p, af, g⟩).run P w = .ok (.value (.int k (k.wrap (a + b)))) w := by
  simp [execOp, hx, hy, eqGuard, binOp, Op.intArith]
theorem run_sub {x y : Operand} {ty yt : TypeId} {k : IntKind} {a b : Int} (hx : ρ x = .int k a) (hy : ρ y = .int k b) :
    (execOp ρ ⟨d, .binOp .sub ty x y yt, t, p, af, g⟩).run P w = .ok (.value (.int k (k.wrap (a - b)))) w := by
  simp [execOp, hx, hy, eqGuard, binOp, Op.intArith]
theorem run_mul {x y : Operand} {ty yt : TypeId} {k : IntKind} {a b : Int} (hx : ρ x = .int k a) (hy : ρ y = .int k b) :
    (execOp ρ ⟨d, .binOp .mul ty x y yt, t, p, af, g⟩).run P w = .ok (.value (.int k (k.wrap (a * b)))) w := by
  simp [execOp, hx, hy, eqGuard, binOp, Op.intArith]
def inKind (k : IntKind) (n : Int) : Prop := k.min ≤ n ∧ n ≤ k.max
theorem wrap_in {k : IntKind} {n : Int} (h : inKind k n) : k.wrap n = n := by
  obtain ⟨h1, h2⟩ := h
  cases k <;> simp [IntKind.min, IntKind.max, IntKind.wrap, IntKind.signed, IntKind.bits] at * <;> omega
theorem in_i64 {n : Int} (h1 : -9223372036854775808 ≤ n) (h2 : n ≤ 9223372036854775807) : inKind .i64 n := ⟨h1, h2⟩
theorem in_u64 {n : Int} (h1 : 0 ≤ n) (h2 : n ≤ 18446744073709551615) : inKind .u64 n := ⟨h1, h2⟩
theorem in_u8 {n : Int} (h1 : 0 ≤ n) (h2 : n ≤ 255) : inKind .u8 n := ⟨h1, h2⟩
theorem in_i32 {n : Int} (h1 : -2147483648 ≤ n) (h2 : n ≤ 2147483647) : inKind .i32 n := ⟨h1, h2⟩
theorem run_addi {x y : Operand} {ty yt : TypeId} {k : IntKind} {a b : Int} (hx : ρ x = .int k a) (hy : ρ y = .int k b) (h : inKind k (a + b)) :
    (execOp ρ ⟨d, .binOp .add ty x y yt, t, p, af, g⟩).run P w = .ok (.value (.int k (a + b))) w := by
  rw [run_add hx hy, wrap_in h]
theorem run_subi {x y : Operand} {ty yt : TypeId} {k : IntKind} {a b : Int} (hx : ρ x = .int k a) (hy : ρ y = .int k b) (h : inKind k (a - b)) :
    (execOp ρ ⟨d, .binOp .sub ty x y yt, t, p, af, g⟩).run P w = .ok (.value (.int k (a - b))) w := by
  rw [run_sub hx hy, wrap_in h]
theorem run_muli {x y : Operand} {ty yt : TypeId} {k : IntKind} {a b : Int} (hx : ρ x = .int k a) (hy : ρ y = .int k b) (h : inKind k (a * b)) :
    (execOp ρ ⟨d, .binOp .mul ty x y yt, t, p, af, g⟩).run P w = .ok (.value (.int k (a * b))) w := by
  rw [run_mul hx hy, wrap_in h]
theorem run_lss {x y : Operand} {ty yt : TypeId} {k : IntKind} {a b : Int} (hx : ρ x = .int k a) (hy : ρ y = .int k b) :
    (execOp ρ ⟨d, .binOp .lss ty x y yt, t, p, af, g⟩).run P w = .ok (.value (.bool (decide (a < b)))) w := by
  simp [execOp, hx, hy, eqGuard, binOp, Op.intCmp]
theorem run_leq {x y : Operand} {ty yt : TypeId} {k : IntKind} {a b : Int} (hx : ρ x = .int k a) (hy : ρ y = .int k b) :
    (execOp ρ ⟨d, .binOp .leq ty x y yt, t, p, af, g⟩).run P w = .ok (.value (.bool (decide (a ≤ b)))) w := by
  simp [execOp, hx, hy, eqGuard, binOp, Op.intCmp]
theorem run_gtr {x y : Operand} {ty yt : TypeId} {k : IntKind} {a b : Int} (hx : ρ x = .int k a) (hy : ρ y = .int k b) :
    (execOp ρ ⟨d, .binOp .gtr ty x y yt, t, p, af, g⟩).run P w = .ok (.value (.bool (decide (b < a)))) w := by
  simp [execOp, hx, hy, eqGuard, binOp, Op.intCmp]
theorem run_geq {x y : Operand} {ty yt : TypeId} {k : IntKind} {a b : Int} (hx : ρ x = .int k a) (hy : ρ y = .int k b) :
    (execOp ρ ⟨d, .binOp .geq ty x y yt, t, p, af, g⟩).run P w = .ok (.value (.bool (decide (b ≤ a)))) w := by
  simp [execOp, hx, hy, eqGuard, binOp, Op.intCmp]
theorem run_eqi {x y : Operand} {ty yt : TypeId} {k : IntKind} {a b : Int} (hx : ρ x = .int k a) (hy : ρ y = .int k b) :
    (execOp ρ ⟨d, .binOp .eql ty x y yt, t, p, af, g⟩).run P w = .ok (.value (.bool (decide (a = b)))) w := by
  simp [execOp, hx, hy, eqGuard, binOp, Op.intCmp]
  rfl
theorem run_nei {x y : Operand} {ty yt : TypeId} {k : IntKind} {a b : Int} (hx : ρ x = .int k a) (hy : ρ y = .int k b) :
    (execOp ρ ⟨d, .binOp .neq ty x y yt, t, p, af, g⟩).run P w = .ok (.value (.bool (!decide (a = b)))) w := by
  simp [execOp, hx, hy, eqGuard, binOp, Op.intCmp]
  rfl
theorem run_rem {x y : Operand} {ty yt : TypeId} {k : IntKind} {a b : Int} (hx : ρ x = .int k a) (hy : ρ y = .int k b) (hb : b ≠ 0) :
    (execOp ρ ⟨d, .binOp .rem ty x y yt, t, p, af, g⟩).run P w = .ok (.value (.int k (a.tmod b))) w := by
  simp [execOp, hx, hy, eqGuard, binOp, Op.intDiv, hb]
theorem run_remi {x y : Operand} {ty yt : TypeId} {k : IntKind} {a b : Int} (hx : ρ x = .int k a) (hy : ρ y = .int k b) (ha : 0 ≤ a) (hb : 0 < b) :
    (execOp ρ ⟨d, .binOp .rem ty x y yt, t, p, af, g⟩).run P w = .ok (.value (.int k (a % b))) w := by
  rw [run_rem hx hy (by omega), Int.tmod_eq_emod_of_nonneg ha]
theorem run_quoi {x y : Operand} {ty yt : TypeId} {k : IntKind} {a b : Int} (hx : ρ x = .int k a) (hy : ρ y = .int k b) (ha : 0 ≤ a) (hb : 0 < b) (hk : inKind k a) :
    (execOp ρ ⟨d, .binOp .quo ty x y yt, t, p, af, g⟩).run P w = .ok (.value (.int k (a / b))) w := by
  have hb' : b ≠ 0 := by omega
  have h1 : a.tdiv b = a / b := Int.tdiv_eq_ediv_of_nonneg ha
  have h2 : inKind k (a / b) := by
    obtain ⟨l, r⟩ := hk
    have h0 : 0 ≤ a / b := Int.ediv_nonneg ha (by omega)
    have h3 : a / b ≤ a := Int.ediv_le_self b ha
    have h4 : k.min ≤ 0 := by cases k <;> simp [IntKind.min, IntKind.signed, IntKind.bits]
    exact ⟨by omega, by omega⟩
  simp [execOp, hx, hy, eqGuard, binOp, Op.intDiv, hb', h1, wrap_in h2]
theorem run_conv_int {src dst : TypeId} {x : Operand} {k k' : IntKind} {a : Int} (hd : tk P dst = .int k) (hs : ∃ u, P.underlying src = some u) (hx : ρ x = .int k' a) (h : inKind k a) :
    (execOp ρ ⟨d, .convert src dst x, t, p, af, g⟩).run P w = .ok (.value (.int k a)) w := by
  obtain ⟨u, hu⟩ := hs
  simp [execOp, hx, convert, run_under hu, run_under (under_int hd), Conv.intToInt, wrap_in h]

/-! ### Bools, pointers -/
theorem run_equalIn_bool (n : Nat) {ty : TypeId} {a b : Bool} (ht : tk P ty = .bool) : (Op.equalIn (n + 1) ty (.bool a) (.bool b)).run P w = .ok (a == b) w := by
  simp only [Op.equalIn, Sem.run_bind, run_under (under_bool ht), Result.andThen_ok, Sem.run_pure]
theorem run_equal_bool {ty : TypeId} {a b : Bool} (ht : tk P ty = .bool) : (Op.equal ty (.bool a) (.bool b)).run P w = .ok (a == b) w := run_equalIn_bool 9999 ht
theorem run_equalIn_nil (n : Nat) {ty e : TypeId} {a : Option Addr} (ht : tk P ty = .ptr e) : (Op.equalIn (n + 1) ty (.pointer a) (.pointer none)).run P w = .ok a.isNone w := by
  cases a <;> simp only [Op.equalIn, Sem.run_bind, run_under (under_ptr ht), Result.andThen_ok, Sem.run_pure] <;> rfl
theorem run_equal_nil {ty e : TypeId} {a : Option Addr} (ht : tk P ty = .ptr e) : (Op.equal ty (.pointer a) (.pointer none)).run P w = .ok a.isNone w := run_equalIn_nil 9999 ht
theorem run_eqb {x y : Operand} {ty yt : TypeId} {a b : Bool} (ht : tk P ty = .bool) (hx : ρ x = .bool a) (hy : ρ y = .bool b) :
    (execOp ρ ⟨d, .binOp .eql ty x y yt, t, p, af, g⟩).run P w = .ok (.value (.bool (a == b))) w := by
  simp [execOp, hx, hy, eqGuard, binOp, run_equal_bool ht]
theorem run_neb {x y : Operand} {ty yt : TypeId} {a b : Bool} (ht : tk P ty = .bool) (hx : ρ x = .bool a) (hy : ρ y = .bool b) :
    (execOp ρ ⟨d, .binOp .neq ty x y yt, t, p, af, g⟩).run P w = .ok (.value (.bool (!(a == b)))) w := by
  simp [execOp, hx, hy, eqGuard, binOp, run_equal_bool ht]
theorem run_eqnil {x y : Operand} {ty yt : TypeId} {e : TypeId} {a : Option Addr} (ht : tk P ty = .ptr e) (hx : ρ x = .pointer a) (hy : ρ y = .pointer none) :
    (execOp ρ ⟨d, .binOp .eql ty x y yt, t, p, af, g⟩).run P w = .ok (.value (.bool a.isNone)) w := by
  simp [execOp, hx, hy, eqGuard, binOp, run_equal_nil ht]
theorem run_nenil {x y : Operand} {ty yt : TypeId} {e : TypeId} {a : Option Addr} (ht : tk P ty = .ptr e) (hx : ρ x = .pointer a) (hy : ρ y = .pointer none) :
    (execOp ρ ⟨d, .binOp .neq ty x y yt, t, p, af, g⟩).run P w = .ok (.value (.bool (!a.isNone))) w := by
  simp [execOp, hx, hy, eqGuard, binOp, run_equal_nil ht]

/-! ### Memory -/
theorem run_alloc {e : TypeId} {i : TI} (ht : TOK P e i) : (execOp ρ ⟨d, .alloc e, t, p, af, g⟩).run P w =
    .ok (.value (.pointer (some ⟨w.heap.size, 0, none⟩))) { w with heap := w.heap.push (.cells i.zero.cells e (0, 0)) } := by
  simp [execOp, Instr.alloc, ht.zeroValue, newVar, newRow, newObj, Sem.run]
theorem run_box {e : TypeId} {x : Operand} {v : Value} (hx : ρ x = v) : (execOp ρ ⟨d, .box e x, t, p, af, g⟩).run P w =
    .ok (.value (.pointer (some ⟨w.heap.size, 0, none⟩))) { w with heap := w.heap.push (.cells v.cells e (0, 0)) } := by
  simp [execOp, Instr.box, hx, newVar, newRow, newObj, Sem.run]
theorem run_loadVar1 {e : TypeId} {a : Addr} {v : Value} (ht : (tk P e).agg = some false) (hc : w.cell? a = some v) : (loadVar e a).run P w = .ok v w := by
  simp [loadVar, run_isAgg_f ht, hc]
theorem run_load1 {e : TypeId} {x : Operand} {a : Addr} {v : Value} (ht : (tk P e).agg = some false) (hx : ρ x = .pointer (some a)) (hc : w.cell? a = some v) :
    (execOp ρ ⟨d, .load e x, t, p, af, g⟩).run P w = .ok (.value v) w := by
  simp [execOp, Instr.loadAt, Instr.sureAddr, hx, run_loadVar1 ht hc]

theorem add_plain {b o k : Nat} : (⟨b, o, none⟩ : Addr).add k = ⟨b, o + k, none⟩ := by
  unfold Addr.add
  split
  · rename_i h; subst h; rfl
  · rfl

theorem run_loadCellsFrom {b o : Nat} : ∀ (n i : Nat) (acc : Array Value) (cs : List Value), cs.length = n → (∀ j, j < n → w.cell? ⟨b, o + (i + j), none⟩ = cs[j]?) →
    (loadCellsFrom ⟨b, o, none⟩ i n acc).run P w = .ok (acc ++ cs.toArray) w
  | 0, i, acc, cs, hl, hc => by
    have : cs = [] := List.eq_nil_of_length_eq_zero hl
    subst this
    simp [loadCellsFrom]
  | n + 1, i, acc, cs, hl, hc => by
    match cs, hl with
    | c :: cs, hl =>
      have h0 := hc 0 (by omega)
      simp only [Nat.add_zero, List.getElem?_cons_zero] at h0
      have ih := run_loadCellsFrom n (i + 1) (acc.push c) cs (by simpa using hl) (fun j hj => by
        have := hc (j + 1) (by omega)
        simp only [List.getElem?_cons_succ] at this
        rw [← this]
        have e : o + (i + 1 + j) = o + (i + (j + 1)) := by omega
        rw [e])
      simp only [loadCellsFrom, Sem.run_bind, add_plain]
      have hl : (load (⟨b, o + i, none⟩ : Addr)).run P w = .ok c w := by simp [h0]
      rw [hl]
      simp only [Result.andThen_ok, ih]
      simp

theorem run_loadVarA {e : TypeId} {i : TI} {b o : Nat} {cs : List Value} (ht : TOK P e i) (ha : i.k.agg = some true) (hl : cs.length = i.size)
    (hc : ∀ j, j < i.size → w.cell? ⟨b, o + j, none⟩ = cs[j]?) : (loadVar e ⟨b, o, none⟩).run P w = .ok (.agg cs.toArray) w := by
  have h1 := run_loadCellsFrom (P := P) (w := w) (b := b) (o := o) i.size 0 #[] cs hl (fun j hj => by rw [← hc j hj, Nat.zero_add])
  simp only [loadVar, Sem.run_bind, run_isAgg_t (by rw [ht.k]; exact ha), Result.andThen_ok, if_true, ht.sizeOf, loadCells, h1, Sem.run_pure]
  simp
theorem run_loadA {e : TypeId} {i : TI} {x : Operand} {b o : Nat} {cs : List Value} (ht : TOK P e i) (ha : i.k.agg = some true) (hx : ρ x = .pointer (some ⟨b, o, none⟩)) (hl : cs.length = i.size)
    (hc : ∀ j, j < i.size → w.cell? ⟨b, o + j, none⟩ = cs[j]?) : (execOp ρ ⟨d, .load e x, t, p, af, g⟩).run P w = .ok (.value (.agg cs.toArray)) w := by
  simp [execOp, Instr.loadAt, Instr.sureAddr, hx, run_loadVarA ht ha hl hc]

theorem run_fieldAddr {s : TypeId} {x : Operand} {f b o off sz ty : Nat} {fs : List (Nat × Nat × Nat)} (hs : tk P s = .struct fs) (hf : fs[f]? = some (off, sz, ty)) (hz : Nat.beq sz 0 = false) (hx : ρ x = .pointer (some ⟨b, o, none⟩)) :
    (execOp ρ ⟨d, .fieldAddr s x f, t, p, af, g⟩).run P w = .ok (.value (.pointer (some ⟨b, o + off, none⟩))) w := by
  obtain ⟨ff, hu, hff⟩ := under_struct hs
  subst hff
  simp only [List.getElem?_map, Option.map_eq_some_iff] at hf
  obtain ⟨fd, hfd, he⟩ := hf
  simp only [Prod.mk.injEq] at he
  obtain ⟨rfl, h1, rfl⟩ := he
  have hfd' : ff[f]? = some fd := by simpa using hfd
  have hsz : P.cellsOf fd.type ≠ 0 := by
    intro h0; rw [h1] at h0; subst h0; simp at hz
  have hi : ∃ i, P.info? fd.type = some i ∧ i.size ≠ 0 := by
    unfold Program.cellsOf at hsz
    cases hii : P.info? fd.type with
    | none => rw [hii] at hsz; simp at hsz
    | some i => rw [hii] at hsz; exact ⟨i, rfl, by simpa using hsz⟩
  obtain ⟨i, hi1, hi2⟩ := hi
  simp [execOp, Instr.fieldAt, run_under hu, hfd', hx, Instr.sureAddr, fieldPlace, sizeOf, typeInfo, program, Sem.run, hi1, hi2, add_plain]

theorem run_indexAddr {s e : TypeId} {i : TI} {x y : Operand} {b o n c : Nat} {k : IntKind} {j : Nat} (hs : tk P s = .slice e) (ht : TOK P e i) (hx : ρ x = .slice (some ⟨b, o, none⟩) n c) (hy : ρ y = .int k (j : Int)) (hj : j < n) :
    (execOp ρ ⟨d, .indexAddr s x y, t, p, af, g⟩).run P w = .ok (.value (.pointer (some ⟨b, o + j * i.size, none⟩))) w := by
  have h2 : (j : Int) < (n : Int) := by omega
  simp [execOp, Instr.indexAt, run_under (under_slice hs), hx, hy, asIntOf, ht.sizeOf, hj, add_plain]

theorem run_lenSl {s e : TypeId} {x : Operand} {a : Option Addr} {n c : Nat} (hs : tk P s = .slice e) (hx : ρ x = .slice a n c) :
    (execOp ρ ⟨d, .call ⟨.builtin .len, #[x], #[s]⟩, t, p, af, g⟩).run P w = .ok (.value (.int .i64 n)) w := by
  simp [execOp, resolve, invoke, builtin, Builtin.len_, run_under (under_slice hs), hx, goInt]
theorem run_capSl {s e : TypeId} {x : Operand} {a : Option Addr} {n c : Nat} (hs : tk P s = .slice e) (hx : ρ x = .slice a n c) :
    (execOp ρ ⟨d, .call ⟨.builtin .cap, #[x], #[s]⟩, t, p, af, g⟩).run P w = .ok (.value (.int .i64 c)) w := by
  simp [execOp, resolve, invoke, builtin, Builtin.cap_, run_under (under_slice hs), hx, goInt]
theorem run_len_str {s : TypeId} {x : Operand} {b : ByteArray} (hs : tk P s = .str) (hx : ρ x = .string b) :
    (execOp ρ ⟨d, .call ⟨.builtin .len, #[x], #[s]⟩, t, p, af, g⟩).run P w = .ok (.value (.int .i64 b.size)) w := by
  simp [execOp, resolve, invoke, builtin, Builtin.len_, run_under (under_str hs), hx, goInt]

/-- Where a store goes: one cell. -/
theorem run_store1 {e : TypeId} {i : TI} {x y : Operand} {a : Addr} {v old : Value} (ht : TOK P e i) (h1 : i.size = 1) (hx : ρ x = .pointer (some a)) (hy : ρ y = v) (hv : v.cells = #[v]) (hna : ∀ c, v ≠ .agg c) (hnt : ∀ c, v ≠ .tuple c)
    (hc : w.cell? a = some old) (hf : w.frozen? a = false) :
    (execOp ρ ⟨d, .store e x y, t, p, af, g⟩).run P w = .ok .skip (w.setCell a v) := by
  have hadd : a.add 0 = a := by simp [Addr.add]
  have hst : (store a v).run P w = .ok () (w.setCell a v) := by
    unfold store
    cases v <;> simp_all [Sem.run]
  simp only [execOp, hx, hy, Instr.storeAt, Instr.sureAddr, storeVar, Sem.run_bind, Sem.run_pure, Result.andThen_ok, ht.sizeOf, h1, hv]
  simp [storeCells, hadd, hst]
end
end Go.Y
