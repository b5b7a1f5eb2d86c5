/- Rules for a replacer's bytes: a string's bytes in a block of its own, copied into an owned row; bytes that are counted. -/
import Derived.Test.YtlnehkjmmegkhaaGreatRpl
import Derived.Laws.CopyRow
import Derived.Lib.Bytealg
namespace Go.Y
open Go
section
variable {P : Program} {ops : Array Oper} {Q : Exit → Act → World → Prop} {w0 w : World} {G : Ghost} {L : List Res} {n d : Nat} {a : Act} {e : Env} {t : TypeId} {p : String} {af : Array Edge} {r : List Oper}
/-- A block that begins with these bytes. -/
def BytesAt (o : Obj) (l : List UInt8) : Prop := ∃ cs t f, o = .cells cs t f ∧ ∀ (j : Nat) (v : Value), (bc l)[j]? = some v → cs[j]? = some v
theorem bytesRow_at (l : List UInt8) (cap : Nat) : ∀ (j : Nat) (v : Value), (bc l)[j]? = some v → (bytesRow (str l) cap)[j]? = some v := by
 intro j v hj
 have h1 : (str l).data.map (fun b => Value.int .u8 b.toNat) = (bc l).toArray := by simp [bc, str, nb]
 have hlt : j < (bc l).length := by
  rcases Nat.lt_or_ge j (bc l).length with h | h
  ·exact h
  ·simp [List.getElem?_eq_none h] at hj
 unfold bytesRow
 rw [h1, Array.getElem?_append_left (by simpa using hlt)]
 simpa using hj
theorem rl_strBytesO {src dst et : TypeId} {x : Operand} {l : List UInt8} (F : Fits n a e) (M : Mem w0 G L w) (hs : tk P src = .str) (hds : tk P dst = .slice et) (he : tk P et = .int .u8) (hx : ev e x = some (.string (str l))) (hd : Nat.ble (d + 1) n = true)
  (k : ∀ b c o w' a', BytesAt o l → Mem w0 G (.obj b o :: L) w' → Fits n a' ((d, .slice (some ⟨b, 0, none⟩) l.length c) :: e) → rl P ops Q r a' w') :
  rl P ops Q (⟨some d, .convert src dst x, t, p, af, none⟩ :: r) a w := by
 have h := run_bytes_of_string (P := P) w src dst et (str l) (under_str hs) (under_slice hds) (under_int he)
 have hz : (str l).size = l.length := by simp [str, ByteArray.size]
 rw [hz] at h
 generalize grownCap w l.length 0 et = C at h
 refine rl_run F (w' := _) (v := _) (by simp only [execOp, F.ev hx, Sem.run_bind, h, Result.andThen_ok]; rfl) hd fun a' F' => k _ _ (.cells (bytesRow (str l) C) et ((bytesRow (str l) C).size, (bytesRow (str l) C).size + 1)) _ a' ⟨_, _, _, rfl, bytesRow_at l _⟩ ?_ F'
 exact ((M.drew (w.drawn + 1)).new _)
/-- 'copy(buf[j:], src)': the bytes of a block into an owned row. -/
theorem rl_copyB {dT sT et : TypeId} {i : TI} {x y : Operand} {k ks m c cx b b2 j c2 q : Nat} {l old : List UInt8} {o : Obj} (F : Fits n a e) (M : Mem w0 G L w) (hk : L[k]? = some (.row (.slice (some ⟨b, 0, none⟩) m c) m (bc old) et 1)) (hks : L[ks]? = some (.obj b2 o))
  (hB : BytesAt o l) (ht : tk P dT = .slice et) (hi : TOK P et i) (h1 : i.size = 1) (hx : ev e x = some (.slice (some ⟨b, j, none⟩) (m - j) cx)) (hy : ev e y = some (.slice (some ⟨b2, 0, none⟩) q c2)) (hq : l.length = q) (hfit : j + q ≤ m) (hd : Nat.ble (d + 1) n = true)
  (kk : ∀ w' a', Mem w0 G (L.set k (.row (.slice (some ⟨b, 0, none⟩) m c) m (bc (old.take j ++ l ++ old.drop (j + q))) et 1)) w' → Fits n a' ((d, .int .i64 (q : Nat)) :: e) → rl P ops Q r a' w') :
  rl P ops Q (⟨some d, .call ⟨.builtin .copy, #[x, y], #[dT, sT]⟩, t, p, af, none⟩ :: r) a w := by
 subst hq
 obtain ⟨cs2, t2, f2, rfl, hB⟩ := hB
 obtain ⟨⟨hl, hr⟩, h1c⟩ := M.row_at hk
 rw [bc_len] at hl
 rcases hr with ⟨h, _⟩ | ⟨g, cap, cur, hv, _, hg, hnc, hcm, hcs, htake⟩
 ·cases h
 simp only [Value.slice.injEq, Option.some.injEq, Addr.mk.injEq, and_true, true_and] at hv
 obtain ⟨rfl, rfl⟩ := hv
 obtain ⟨z, hz1, hz2, _⟩ := hi.info
 have hh2 : w.heap[b2]? = some (.cells cs2 t2 f2) := M.own _ (List.mem_of_getElem? hks)
 have hrun := run_copy_row (P := P) w dT sT t et b j (m - j) cx ⟨b2, 0, none⟩ l.length c2 cur et (bc l) (under_slice ht) (by rw [hz1]; simp [hz2, h1]) hg (by rw [bc_len]; simp [Nat.min_def]; omega)
  (fun z v hz => by rw [add_plain]; simp only [World.cell?, hh2]; simpa using hB z v hz) (by rw [bc_len]; omega) (bc_one l)
 rw [bc_len] at hrun
 refine rl_run F (w' := _) (v := _) (by simp only [execOp, resolve, Sem.run_bind, Sem.run_pure, Result.andThen_ok, invoke, builtin, List.map_toArray, List.map_cons, List.map_nil, F.ev hx, F.ev hy, hrun]; rfl) hd fun a' F' => kk _ a' ?_ F'
 rw [← Array.length_toList] at hcs
 refine M.grow_at hk (fun z hz => Or.inl hz) ⟨⟨by rw [bc_len]; simp only [List.length_append, List.length_take, List.length_drop]; omega, Or.inr ⟨b, c, _, rfl, Nat.zero_le _, setRow_heap w b cur _ et (0, 0) hg, hnc, hcm, ?_, ?_⟩⟩, bc_one _⟩ rfl rfl rfl (by simp [World.setRow]) (fun z hz hne => setRow_other w b z _ (fun h => hne (by rw [h]; rfl)))
 ·simp only [List.size_toArray, List.length_append, List.length_take, List.length_drop, bc_len]; omega
 ·simp only [Nat.mul_one] at htake ⊢
  have e1 : cur.toList.take j = bc (old.take j) := by
   have := congrArg (List.take j) htake
   rw [List.take_take, Nat.min_eq_left (by omega)] at this
   rw [this]; simp [bc, List.map_take]
  have e2 : (cur.toList.drop (j + l.length)).take (m - (j + l.length)) = bc (old.drop (j + l.length)) := by
   have := congrArg (List.drop (j + l.length)) htake
   rw [List.drop_take] at this
   rw [this]; simp [bc, List.map_drop]
  rw [bc_append, bc_append, ← e1, ← e2]
  have hlen : (cur.toList.take j ++ bc l).length = j + l.length := by simp only [List.length_append, List.length_take, bc_len]; omega
  show List.take m (cur.toList.take j ++ bc l ++ cur.toList.drop (j + l.length)) = _
  rw [List.take_append, hlen, List.take_of_length_le (by omega)]
theorem run_sliceRowL {s et : TypeId} {i : TI} {x y : Operand} {ρ : Operand → Value} {dd : Option Tmp} {g : Option (Nat × Bool)} {b m c l : Nat} {k : IntKind} {z : Int} (hs : tk P s = .slice et) (ht : TOK P et i) (h1 : i.size = 1) (hx : ρ x = .slice (some ⟨b, 0, none⟩) m c) (hy : ρ y = .int k z) (hz : z = (l : Int)) (hl : l < m) (hc : m ≤ c) :
  (execOp ρ ⟨dd, .slice s x (some y) none none, t, p, af, g⟩).run P w = .ok (.value (.slice (some ⟨b, l, none⟩) (m - l) (c - l))) w := by
 have := run_slice_op (P := P) (w := w) (t := t) (p := p) (af := af) (dd := dd) (g := g) (hi := none) (lo := some y) (kh := k) (zh := 0) hs ht hx ⟨hy, hz⟩ rfl (Nat.le_of_lt hl) hc
 rw [this, if_neg (by omega), h1, Nat.mul_one]
 simp [add_plain]
/-- internal/bytealg.CountString. -/
theorem run_countStr {ρ : Operand → Value} {dd : Option Tmp} {g : Option (Nat × Bool)} {f : FuncId} {fn : Func} {x y : Operand} {ats : Array TypeId} {l : List UInt8} {c : UInt8} (hf : P.funcs[f]? = some fn) (hname : (fn.name == "runtime.NumGoroutine") = false)
  (hb : fn.body.isNone = true) (hn : Extern.findNext fn = none) (he : Extern.find fn = some Extern.BytealgCount.count) (hx : ρ x = .string (str l)) (hy : ρ y = .int .u8 (nb c)) (hfo : ρ (.func f) = .func (.func f) #[] #[]) :
  (execOp ρ ⟨dd, .call ⟨.value (.func f), #[x, y], ats⟩, t, p, af, g⟩).run P w = .ok (.value (.int .i64 ((l.count c : Nat) : Int))) w := by
 have h2 := run_callFunc_extern (P := P) hf hname hb hn he #[.string (str l), .int .u8 (nb c)] w
 have hc : (nb c).toNat.toUInt8 = c := by simp [nb]
 have hk : Lib.countByte (str l).data.toList c = l.count c := by simp [Lib.countByte, str]
 rw [Lib.run_countString, hc, hk] at h2
 simp only [execOp, resolve, hfo, Deferred.ofValue, Sem.run_bind, Sem.run_pure, Result.andThen_ok, invoke]
 simp [hx, hy, h2]
end
end Go.Y
