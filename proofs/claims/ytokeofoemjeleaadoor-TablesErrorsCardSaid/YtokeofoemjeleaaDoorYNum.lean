/- The proof core: what the library's number and string functions' contracts need of memory. -/
import Derived.Test.YtokeofoemjeleaaDoorYBld
import Derived.Sort.Row
import Derived.Sort.Grow
import Derived.Laws.BytesArg
import Derived.Lib.ItoaNum
import Derived.Lib.Itoa
import Derived.Below
import Derived.Lib.LaidTab
import Derived.Lib.ParseIntB
import Derived.Lib.ConvBytes
namespace Go.Y
open Go Go.RowKit Go.Sort

section
variable {P : Program} {w0 w : World} {G : Ghost} {L : List Res}

theorem Mem.below' (M : Mem w0 G L w) {w' : World} (h : Below w.heap.size w w') : Mem w0 G L w' := M.same h.os h.tape h.output h.size h.block
theorem Mem.drewN (M : Mem w0 G L w) (n : Nat) : Mem w0 G L (w.drewN n) := M.same rfl rfl rfl (Nat.le_refl _) (fun _ _ => rfl)
theorem Mem.grew (M : Mem w0 G L w) (os : Array Obj) : Mem w0 G L (Go.Sort.grow w os) :=
  M.same rfl rfl rfl (by simp [Go.Sort.grow]) (fun b hb => by
    show (w.heap ++ os)[b]? = _
    rw [Array.getElem?_append_left hb])

abbrev encB : UInt8 → Value := fun b => Value.int .u8 (b.toNat : Int)

theorem Mem.holdsB (M : Mem w0 G L w) {k b : Nat} {l : List UInt8} {t : TypeId} (hk : L[k]? = some (.blk b (bc l) t)) (m : Nat) (hm : m ≤ l.length) : Holds encB w b 0 (l.take m).toArray := by
  intro j hj
  have hj' : j < m := by simp only [List.size_toArray, List.length_take] at hj; omega
  have hjl : j < l.length := by omega
  refine ⟨M.cellL hk ?_, M.frozenL hk _⟩
  rw [Nat.zero_add, bc, List.getElem?_map, List.getElem?_eq_getElem hjl]
  rw [getElem!_pos _ j (by simpa using hj)]
  simp [encB, nb]

theorem Mem.putRowB (M : Mem w0 G L w) {k b : Nat} {l : List UInt8} {t : TypeId} (hk : L[k]? = some (.blk b (bc l) t)) (dk : Array UInt8) (hm : dk.size ≤ l.length) (n : Nat) :
    Mem w0 G (L.set k (.blk b (bc (dk.toList ++ l.drop dk.size)) t)) ((putRow encB w b 0 dk).drewN n) := by
  refine Mem.drewN ?_ n
  have hh : w.heap[b]? = some (.cells (bc l).toArray t (0, 0)) := M.own _ (List.mem_of_getElem? hk)
  refine M.swap_at hk rfl ?_ rfl rfl rfl (by simp [putRow, mapBlock]) ?_
  · show (putRow encB w b 0 dk).heap[b]? = _
    simp only [putRow, mapBlock, Array.getElem?_modify, hh, if_true, Option.map_some, onCells]
    congr 2
    apply Array.ext_getElem?
    intro j
    simp only [putCells, Array.getElem?_mapIdx, List.getElem?_toArray]
    by_cases hj : j < l.length
    · rw [bc, List.getElem?_map, List.getElem?_eq_getElem hj]
      simp only [Option.map_some]
      by_cases hd : j < dk.size
      · rw [bc, List.getElem?_map, List.getElem?_append_left (by simpa using hd)]
        have : dk.toList[j]? = some dk[j] := by simp [hd]
        rw [this]
        simp [hd, encB, nb]
      · rw [bc, List.getElem?_map, List.getElem?_append_right (by simpa using Nat.le_of_not_lt hd), List.getElem?_drop]
        have e : dk.size + (j - dk.toList.length) = j := by simp; omega
        rw [e, List.getElem?_eq_getElem hj]
        simp [hd]
    · rw [List.getElem?_eq_none (by rw [bc_len]; omega), List.getElem?_eq_none (by rw [bc_len, List.length_append, List.length_drop]; simp; omega)]
      rfl
  · intro r hr
    simp only [putRow, mapBlock, Array.getElem?_modify]
    rw [if_neg (fun e => hr (by simp [Res.foot, e]))]
end

section
variable {P : Program} {w0 w : World} {G : Ghost} {L : List Res} {ρ : Operand → Value} {dd : Option Tmp} {t : TypeId} {p : String} {af : Array Edge} {g : Option (Nat × Bool)}

theorem nums_str (l : List UInt8) : strOfNums (l.map fun b => (b.toNat : Int)) = str l := by
  unfold strOfNums str
  rw [List.map_map]
  congr 2
  conv => rhs; rw [← List.map_id l]
  apply List.map_congr_left
  intro b _
  simp
def isNilI : Value → Bool
  | .nilIface => true
  | _ => false
/-- a[:h] of an array of bytes in a block. -/
theorem run_sliceArr {ta et : TypeId} {i : TI} {x y : Operand} {n b h : Nat} {k : IntKind} {z : Int} (ha : tk P ta = .array n et) (ht : TOK P et i) (hx : ρ x = .pointer (some ⟨b, 0, none⟩)) (hy : ρ y = .int k z) (hz : z = (h : Int)) (hh : h ≤ n) :
    (execOp ρ ⟨dd, .slice ta x none (some y) none, t, p, af, g⟩).run P w = .ok (.value (.slice (some ⟨b, 0, none⟩) h n)) w := by
  subst hz
  have h1 : (h : Int) ≤ (n : Int) := by omega
  simp [execOp, Instr.sliceAt, run_under (under_array ha), hx, Instr.sureAddr, Instr.sliceBounds, Instr.sliceBound, hy, asIntOf, hh, ht.sizeOf, add_plain]

theorem conv_bytes {src dst e : TypeId} {b o n c : Nat} {l : List UInt8} (hs : tk P src = .slice e) (he : tk P e = .int .u8) (hd : tk P dst = .str) (hl : l.length = n)
    (hc : ∀ j, j < n → w.cell? ⟨b, o + j, none⟩ = (bc l)[j]?) : (convert src dst (.slice (some ⟨b, o, none⟩) n c)).run P w = .ok (.string (str l)) w := by
  have := run_convert_bytes_arg (P := P) w src e (under_slice hs) (under_int he) b o n c (l.map fun b => (b.toNat : Int)) (by simpa using hl) (fun j hj => by
    rw [hc j hj, bc, List.getElem?_map, List.getElem?_eq_getElem (by omega), List.getD_eq_getElem?_getD, List.getElem?_map, List.getElem?_eq_getElem (by omega)]
    rfl) dst (under_str hd)
  rw [this, nums_str]

/-- string(b), b the head of a block of bytes. -/
theorem run_strOfBlk {src dst e bt : TypeId} {x : Operand} {k b n c : Nat} {l : List UInt8} (M : Mem w0 G L w) (hk : L[k]? = some (.blk b (bc l) bt)) (hs : tk P src = .slice e) (he : tk P e = .int .u8) (hd : tk P dst = .str)
    (hx : ρ x = .slice (some ⟨b, 0, none⟩) n c) (hn : n ≤ l.length) : (execOp ρ ⟨dd, .convert src dst x, t, p, af, g⟩).run P w = .ok (.value (.string (str (l.take n)))) w := by
  have := conv_bytes (P := P) (w := w) (b := b) (o := 0) (n := n) (c := c) (l := l.take n) hs he hd (by rw [List.length_take]; omega) (fun j hj => by
    have h1 : (bc (l.take n))[j]? = (bc l)[j]? := by
      simp only [bc, List.getElem?_map, List.getElem?_take, if_pos hj]
    rw [h1, Nat.zero_add]
    have hjl : j < (bc l).length := by rw [bc_len]; omega
    rw [List.getElem?_eq_getElem hjl]
    exact M.cellL hk (List.getElem?_eq_getElem hjl))
  simp [execOp, hx, this]

/-- string(b), b an owned row of bytes. -/
theorem run_strOfRow {src dst e et : TypeId} {x : Operand} {k n c : Nat} {ad : Option Addr} {l : List UInt8} (M : Mem w0 G L w) (hk : L[k]? = some (.row (.slice ad n c) n (bc l) et 1)) (hn : n = l.length) (hs : tk P src = .slice e) (he : tk P e = .int .u8) (hd : tk P dst = .str)
    (hx : ρ x = .slice ad n c) : (execOp ρ ⟨dd, .convert src dst x, t, p, af, g⟩).run P w = .ok (.value (.string (str l))) w := by
  obtain ⟨hown, _⟩ := M.row_at hk
  rcases hown.2 with ⟨hv, h0⟩ | ⟨g', cap, cur, hv, hbg, hgg, hnc, hcm, hcs, htake⟩
  · simp only [Value.slice.injEq] at hv
    obtain ⟨rfl, _, _⟩ := hv
    have : l = [] := List.eq_nil_of_length_eq_zero (by omega)
    subst this
    have := run_convert_bytes_nil (P := P) w src e (under_slice hs) (under_int he) n c dst (under_str hd)
    simp [execOp, hx, this]
    rfl
  · simp only [Value.slice.injEq] at hv
    obtain ⟨rfl, _, rfl⟩ := hv
    have holds := hown.cells (g := g') rfl
    have := conv_bytes (P := P) (w := w) (b := g') (o := 0) (n := n) (c := c) (l := l) hs he hd hn.symm (fun j hj => by
      have hjl : j < (bc l).length := by rw [bc_len]; omega
      rw [List.getElem?_eq_getElem hjl]
      have := holds j _ (List.getElem?_eq_getElem hjl)
      rwa [add_plain] at this)
    simp [execOp, hx, this]

/-- An error held against nil. -/
theorem run_equalIn_nilI (n : Nat) {ty : TypeId} (hi : tk P ty = .iface) {v : Value} (hv : v = .nilIface ∨ ∃ te u, v = .iface te u) : (Op.equalIn (n + 1) ty v .nilIface).run P w = .ok (isNilI v) w := by
  have hu : ∃ m, P.underlying ty = some (.interface m) := by
    unfold tk at hi
    split at hi <;> simp_all
  obtain ⟨m, hu⟩ := hu
  rcases hv with rfl | ⟨te, u, rfl⟩
  · simp only [Op.equalIn, Sem.run_bind, run_under hu, Result.andThen_ok, Sem.run_pure, isNilI]
  · simp only [Op.equalIn, Sem.run_bind, run_under hu, Result.andThen_ok, Sem.run_pure, isNilI]
theorem run_equal_nilI {ty : TypeId} (hi : tk P ty = .iface) {v : Value} (hv : v = .nilIface ∨ ∃ te u, v = .iface te u) : (Op.equal ty v .nilIface).run P w = .ok (isNilI v) w := run_equalIn_nilI 9999 hi hv
theorem run_eqNilI {x : Operand} {ty yt : TypeId} {v : Value} (hi : tk P ty = .iface) (hv : v = .nilIface ∨ ∃ te u, v = .iface te u) (hx : ρ x = v) (hc : ρ (.const .nilIface) = .nilIface) :
    (execOp ρ ⟨dd, .binOp .eql ty x (.const .nilIface) yt, t, p, af, g⟩).run P w = .ok (.value (.bool (isNilI v))) w := by
  rcases hv with rfl | ⟨te, u, rfl⟩
  · simp [execOp, hx, hc, eqGuard, binOp, run_equal_nilI hi (Or.inl rfl), isNilI]
  · simp [execOp, hx, hc, eqGuard, binOp, run_equal_nilI hi (Or.inr ⟨te, u, rfl⟩), isNilI]
theorem run_neNilI {x : Operand} {ty yt : TypeId} {v : Value} (hi : tk P ty = .iface) (hv : v = .nilIface ∨ ∃ te u, v = .iface te u) (hx : ρ x = v) (hc : ρ (.const .nilIface) = .nilIface) :
    (execOp ρ ⟨dd, .binOp .neq ty x (.const .nilIface) yt, t, p, af, g⟩).run P w = .ok (.value (.bool (!(isNilI v)))) w := by
  rcases hv with rfl | ⟨te, u, rfl⟩
  · simp [execOp, hx, hc, eqGuard, binOp, run_equal_nilI hi (Or.inl rfl), isNilI]
  · simp [execOp, hx, hc, eqGuard, binOp, run_equal_nilI hi (Or.inr ⟨te, u, rfl⟩), isNilI]
end

/-- What the library's package variables hold: the powers of ten, a number, two errors. -/
structure Globs (gt gm gs gr : Nat) (G : Ghost) : Prop where
  tab : ∃ t f, G gt = some (.cells (Lib.pow10Tab.map fun z => Value.int .u64 z).toArray t f)
  max : ∃ m, gcell G gm 0 = some (.int .i64 m)
  syn : ∃ ev, gcell G gs 0 = some ev ∧ (ev = .nilIface ∨ ∃ te pe, ev = .iface te pe)
  rng : ∃ ev, gcell G gr 0 = some ev ∧ (ev = .nilIface ∨ ∃ te pe, ev = .iface te pe)
theorem Globs.mono {gt gm gs gr : Nat} {G G' : Ghost} (h : Globs gt gm gs gr G) (hg : Gle G G') : Globs gt gm gs gr G' := by
  obtain ⟨⟨t, f, h1⟩, ⟨m, h2⟩, ⟨e1, h3, h4⟩, ⟨e2, h5, h6⟩⟩ := h
  exact ⟨⟨t, f, hg _ _ h1⟩, ⟨m, gcell_mono hg h2⟩, ⟨e1, gcell_mono hg h3, h4⟩, ⟨e2, gcell_mono hg h5, h6⟩⟩

section
variable {P : Program} {w0 w : World} {G : Ghost} {L : List Res}
theorem Globs.tabIs {gt gm gs gr : Nat} (h : Globs gt gm gs gr G) (M : Mem w0 G L w) {name : String} (hn : P.globalNamed name = some gt) : Lib.TabIs P w name .u64 Lib.pow10Tab := by
  obtain ⟨t, f, h1⟩ := h.tab
  simp [Lib.TabIs, World.var?, hn, M.pers _ _ h1]
theorem Mem.bytesWorld (M : Mem w0 G L w) (e : TypeId) (s : ByteArray) : Mem w0 G L (Lib.bytesWorld w e s) := by
  refine M.same rfl rfl rfl ?_ ?_
  · simp only [Lib.bytesWorld, World.freeze, if_neg (by decide : ¬ (1 = 0)), World.alloc, World.drew, Array.size_modify, Array.size_push]; omega
  · intro b hb
    simp only [Lib.bytesWorld, World.freeze, if_neg (by decide : ¬ (1 = 0)), World.alloc, World.drew, Array.getElem?_modify]
    rw [if_neg (by omega), Array.getElem?_push, if_neg (by omega)]
end

theorem pum_le {M : Nat} : ∀ (l : List UInt8) (acc u : Nat), acc ≤ M → Lib.parseUintM M acc l = .ok u → u ≤ M
  | [], acc, u, h, hu => by
    simp only [Lib.parseUintM, Lib.NumEnd.ok.injEq] at hu
    omega
  | c :: r, acc, u, h, hu => by
    unfold Lib.parseUintM at hu
    split at hu
    · split at hu
      · cases hu
      · split at hu
        · cases hu
        · exact pum_le r _ u (by omega) hu
    · cases hu
theorem pu64_le {l : List UInt8} {u : Nat} (h : Lib.parseUintB 64 l = .ok u) : u ≤ 18446744073709551615 := by
  unfold Lib.parseUintB at h
  split at h
  · cases h
  · exact pum_le l 0 u (by omega) h
theorem fmt_digits {u v : Nat} {dk : Array UInt8} (h : Lib.FmtInv (Lib.nDigits u) u 0 v dk) : dk.toList = Lib.decDigits u := by
  rw [Lib.decDigits_eq]
  apply List.ext_getElem?
  intro t
  have hs := h.size
  by_cases ht : t < Lib.nDigits u
  · have h1 := h.done t (Nat.zero_le _) ht
    rw [getElem!_pos dk t (by omega)] at h1
    rw [List.getElem?_map, List.getElem?_range ht, Option.map_some, ← h1]
    simp [show t < dk.size by omega]
  · rw [List.getElem?_eq_none (by simp; omega), List.getElem?_eq_none (by simp; omega)]
end Go.Y
