/- The proof core: a string's bytes appended to an owned row of bytes; a builder's buffer turned to a string; pointers turned round through unsafe.Pointer. -/
import Derived.Test.YtokeofoemjeleaaDoorYStr
import Derived.Lib.AppendStr
import Derived.Lib.UnsafeStr
import Derived.Lib.Builder
import Derived.Laws.Externs
namespace Go.Y
open Go Go.RowKit

/-- Bytes as cells. -/
def bc (l : List UInt8) : List Value := l.map fun b => .int .u8 (nb b)
theorem bc_len (l : List UInt8) : (bc l).length = l.length := by simp [bc]
theorem bc_append (l l' : List UInt8) : bc (l ++ l') = bc l ++ bc l' := by simp [bc]
theorem bc_str (l : List UInt8) : Lib.strCells (str l) = bc l := by simp [Lib.strCells, bc, str, nb]
theorem bc_one (l : List UInt8) : ∀ u ∈ bc l, u.oneCell' = true := by
  intro u hu
  simp only [bc, List.mem_map] at hu
  obtain ⟨b, _, rfl⟩ := hu
  rfl
def rdB : Rd UInt8 := fun _ cs x => cs = [.int .u8 (nb x)]
theorem mono_rdB : Mono rdB := fun _ _ _ _ _ h => h
theorem Els_bc {G : Ghost} : ∀ (l : List UInt8), Els rdB 1 G (bc l) l
  | [] => rfl
  | b :: l => ⟨[.int .u8 (nb b)], bc l, rfl, rfl, rfl, Els_bc l⟩
theorem Els_bc_eq {G : Ghost} : ∀ {l : List UInt8} {cs : List Value}, Els rdB 1 G cs l → cs = bc l
  | [], cs, h => h
  | b :: l, cs, h => by
    obtain ⟨c, r, rfl, _, h2, h3⟩ := h
    rw [Els_bc_eq h3, h2]; rfl

section
variable {P : Program} {w0 w : World} {G : Ghost} {L : List Res}

theorem ownsRow_base {w : World} {B : Nat} {e : TypeId} {sz : Nat} {v : Value} {n : Nat} {xs : List Value} (h : w.ownsRow B e sz v n xs) : w.ownsRow 0 e sz v n xs := by
  obtain ⟨h1, h2⟩ := h
  rcases h2 with h2 | ⟨g, cap, cur, h3, _, h5⟩
  · exact ⟨h1, Or.inl h2⟩
  · exact ⟨h1, Or.inr ⟨g, cap, cur, h3, Nat.zero_le _, h5⟩⟩

/-- append(b, s...), b a row of bytes that the call owns. -/
theorem Mem.appendStr (M : Mem w0 G L w) {k n : Nat} {v : Value} {cs : List Value} {t u ty e : TypeId} {i : TI} {l : List UInt8} (hk : L[k]? = some (.row v n cs e 1)) (ht : tk P t = .slice e) (hu : tk P u = .str) (hi : TOK P e i) (hz : i.zero = .int .u8 0) (hs : i.size = 1) (hby : i.bytes = 1)
    (h63 : n + l.length ≤ 140737488355328) :
    ∃ v' w', (Builtin.append_ #[t, u] ty #[v, .string (str l)]).run P w = .ok v' w' ∧ Mem w0 G (L.set k (.row v' (n + l.length) (cs ++ bc l) e 1)) w' ∧ (v' = .slice none 0 0 ↔ v = .slice none 0 0 ∧ l = []) := by
  obtain ⟨x, hx1, hx2, hx3, hx4⟩ := hi.info
  obtain ⟨hown, h2⟩ := M.row_at hk
  have hus := under_slice ht
  have huu := under_str hu
  rw [hz] at hx4
  have hsz := str_size l
  have h64 : n + (str l).size ≤ maxLen := by rw [hsz]; simp only [maxLen]; omega
  have h65 : n + (str l).size ≤ 140737488355328 := by rw [hsz]; exact h63
  have key : ∀ v' w', (Builtin.append_ #[t, u] ty #[v, .string (str l)]).run P w = .ok v' w' → w'.ownsRow 0 e 1 v' (n + (str l).size) (cs ++ Lib.strCells (str l)) → w.grownBy w' v.ownBlock → (∀ b, v'.ownBlock = some b → v.ownBlock = some b ∨ w.heap.size ≤ b) → (v' = .slice none 0 0 ↔ v = .slice none 0 0 ∧ (str l).size = 0) →
      ∃ v' w', (Builtin.append_ #[t, u] ty #[v, .string (str l)]).run P w = .ok v' w' ∧ Mem w0 G (L.set k (.row v' (n + l.length) (cs ++ bc l) e 1)) w' ∧ (v' = .slice none 0 0 ↔ v = .slice none 0 0 ∧ l = []) := by
    intro v' w' hr ho hg hf hn
    rw [hsz, bc_str] at ho
    refine ⟨v', w', hr, M.grow_at hk hf ⟨ho, fun u hu => ?_⟩ hg.os hg.tape hg.output hg.size (fun b hb hne => hg.block b hb (fun e => hne e.symm)), ?_⟩
    · rcases List.mem_append.1 hu with hu | hu
      · exact h2 u hu
      · exact bc_one l u hu
    · rw [hn, hsz]
      constructor
      · rintro ⟨h1, h2⟩; exact ⟨h1, List.eq_nil_of_length_eq_zero h2⟩
      · rintro ⟨h1, h2⟩; exact ⟨h1, by rw [h2]; rfl⟩
  rcases hown.2 with ⟨hv, hn0⟩ | ⟨g, cap, cur, hv, hbg, hgg, hnc, hcm, hcs, htake⟩
  · obtain ⟨v', w', hr, ho, hg, hn⟩ := Lib.run_append_own_string (P := P) w w.heap.size t u ty e x hus huu hx1 hx4 (by rw [hx2, hs]) (by rw [hx3, hby]) v n cs ⟨hown.1, Or.inl ⟨hv, hn0⟩⟩ (str l) h64 h65 (Nat.le_refl _)
    refine key v' w' hr (ownsRow_base ho) hg (fun b hb => ?_) hn
    rcases ho.2 with ⟨hv', _⟩ | ⟨g', cap', cur', hv', hbg', _⟩
    · rw [hv'] at hb; simp [Value.ownBlock] at hb
    · rw [hv'] at hb
      simp only [Value.ownBlock, Option.some.injEq] at hb
      subst hb; exact Or.inr hbg'
  · obtain ⟨v', w', hr, ho, hg, hn⟩ := Lib.run_append_own_string (P := P) w 0 t u ty e x hus huu hx1 hx4 (by rw [hx2, hs]) (by rw [hx3, hby]) v n cs hown (str l) h64 h65 (Nat.zero_le _)
    refine key v' w' hr ho hg (fun b hb => ?_) hn
    subst hv
    have hsz2 : cap * 1 = cur.size := by first | exact hcs | exact hcs.symm
    by_cases hroom : n + (str l).size ≤ cap
    · have := Lib.run_append_room_string (P := P) w t u ty e x hus huu hx1 (by rw [hx2, hs]) g n cap cur hgg (str l) hroom (by omega)
      rw [this] at hr
      simp only [Result.ok.injEq] at hr
      obtain ⟨rfl, _⟩ := hr
      exact Or.inl hb
    · have holds := hown.cells (g := g) rfl
      have := Lib.run_append_grow_string (P := P) w t u ty e x _ hus huu hx1 hx4 ⟨g, 0, none⟩ n cap cs (by rw [hx2, hs]; exact hown.1) holds (str l) (by omega) (by simp only [maxLen] at h64; omega)
        (by rw [hx3, hby]; exact growslice_fits (by omega) (by omega))
      rw [this] at hr
      simp only [Result.ok.injEq] at hr
      obtain ⟨rfl, _⟩ := hr
      simp only [Value.ownBlock, Option.some.injEq] at hb
      right; omega

/-- A row of bytes is frozen: it is nobody's any more. -/
theorem Mem.freezeRow (M : Mem w0 G L w) {k n c g : Nat} {cs : List Value} {e : TypeId} (hk : L[k]? = some (.row (.slice (some ⟨g, 0, none⟩) n c) n cs e 1)) (m : Nat) : Mem w0 G (L.eraseIdx k) (w.freeze ⟨g, 0, none⟩ m) := by
  have M' := M.perm (perm_front L k _ hk)
  by_cases hm : m = 0
  · subst hm
    have : w.freeze ⟨g, 0, none⟩ 0 = w := by simp [World.freeze]
    rw [this]
    exact M'.weaken (List.sublist_cons_self _ _)
  · have hh : ∀ b, b ≠ g → (w.freeze ⟨g, 0, none⟩ m).heap[b]? = w.heap[b]? := fun b hb => by
      simp only [World.freeze, hm, if_false, Array.getElem?_modify]
      rw [if_neg (fun e => hb e.symm)]
    have hgo : ∃ o, (w.freeze ⟨g, 0, none⟩ m).heap[g]? = some o := by
      obtain ⟨hown, _⟩ := M.row_at hk
      have hlt : g < w.heap.size := (hown.lt g rfl).2
      have : g < (w.freeze ⟨g, 0, none⟩ m).heap.size := by simpa [World.freeze, hm] using hlt
      exact ⟨_, Array.getElem?_eq_getElem this⟩
    obtain ⟨o, ho⟩ := hgo
    have := M'.swap_head (y := .obj g o) (w' := w.freeze ⟨g, 0, none⟩ m) rfl ho (by simp [World.freeze, hm]) (by simp [World.freeze, hm]) (by simp [World.freeze, hm]) (by simp [World.freeze, hm]) (fun b hb => hh b (fun e => hb (by simp [Res.foot, Value.ownBlock, e])))
    exact this.weaken (List.sublist_cons_self _ _)
end

section
variable {P : Program} {ops : Array Oper} {Q : Exit → Act → World → Prop} {n : Nat} {a : Act} {w w0 : World} {e : Env} {G : Ghost} {L : List Res}
  {d : Nat} {t : TypeId} {p : String} {af : Array Edge} {r : List Oper}

theorem run_append_opS {ρ : Operand → Value} {dd : Option Tmp} {g : Option (Nat × Bool)} {s u : TypeId} {x y : Operand} {v z v' : Value} {w' : World} (hx : ρ x = v) (hy : ρ y = z)
    (h : (Builtin.append_ #[s, u] t #[v, z]).run P w = .ok v' w') : (execOp ρ ⟨dd, .call ⟨.builtin .append, #[x, y], #[s, u]⟩, t, p, af, g⟩).run P w = .ok (.value v') w' := by
  simp [execOp, resolve, invoke, builtin, hx, hy, h]

theorem rl_appendStr {s u et : TypeId} {i : TI} {x y : Operand} {v : Value} {k m : Nat} {cs : List Value} {l : List UInt8}
    (F : Fits n a e) (M : Mem w0 G L w) (hk : L[k]? = some (.row v m cs et 1)) (hs : tk P s = .slice et) (hu : tk P u = .str) (ht : TOK P et i) (hz : i.zero = .int .u8 0) (h1 : i.size = 1) (hb : i.bytes = 1)
    (hx : ev e x = some v) (hy : ev e y = some (.string (str l))) (hlen : m + l.length ≤ 140737488355328) (hd : Nat.ble (d + 1) n = true)
    (kk : ∀ v' w' a', Mem w0 G (L.set k (.row v' (m + l.length) (cs ++ bc l) et 1)) w' → (v' = .slice none 0 0 ↔ v = .slice none 0 0 ∧ l = []) → Fits n a' ((d, v') :: e) → rl P ops Q r a' w') :
    rl P ops Q (⟨some d, .call ⟨.builtin .append, #[x, y], #[s, u]⟩, t, p, af, none⟩ :: r) a w := by
  obtain ⟨v', w', hr, M', hn⟩ := M.appendStr (P := P) (ty := t) (t := s) (u := u) hk hs hu ht hz h1 hb hlen
  exact rl_run F (run_append_opS (F.ev hx) (F.ev hy) hr) hd fun a' F' => kk v' w' a' M' hn F'

theorem run_sliceData {ρ : Operand → Value} {dd : Option Tmp} {g : Option (Nat × Bool)} {s : TypeId} {x : Operand} {ad : Addr} {m c : Nat} (hx : ρ x = .slice (some ad) m c) (hc : c ≠ 0) :
    (execOp ρ ⟨dd, .call ⟨.builtin .unsafeSliceData, #[x], #[s]⟩, t, p, af, g⟩).run P w = .ok (.value (.pointer (some ad))) w := by
  simp [execOp, resolve, invoke, builtin, hx, Lib.run_unsafeSliceData_row w #[s] t ad m c hc]
theorem run_sliceData0 {ρ : Operand → Value} {dd : Option Tmp} {g : Option (Nat × Bool)} {s : TypeId} {x : Operand} {m c : Nat} (hx : ρ x = .slice none m c) :
    (execOp ρ ⟨dd, .call ⟨.builtin .unsafeSliceData, #[x], #[s]⟩, t, p, af, g⟩).run P w = .ok (.value (.pointer none)) w := by
  simp [execOp, resolve, invoke, builtin, hx, Lib.run_unsafeSliceData_nil w #[s] t m c]
theorem run_unsafeStr0 {ρ : Operand → Value} {dd : Option Tmp} {g : Option (Nat × Bool)} {s u : TypeId} {x y : Operand} (hx : ρ x = .pointer none) (hy : ρ y = .int .i64 0) :
    (execOp ρ ⟨dd, .call ⟨.builtin .unsafeString, #[x, y], #[s, u]⟩, t, p, af, g⟩).run P w = .ok (.value (.string (str []))) w := by
  simp [execOp, resolve, invoke, builtin, hx, hy, Lib.run_unsafeString_none w s u t none]
  rfl

/-- unsafe.String of an owned row's bytes: the row is spent. -/
theorem rl_unsafeStr {s u et : TypeId} {i : TI} {x y : Operand} {k c g : Nat} {l : List UInt8} (F : Fits n a e) (M : Mem w0 G L w) (hk : L[k]? = some (.row (.slice (some ⟨g, 0, none⟩) l.length c) l.length (bc l) et 1))
    (hp : tk P s = .ptr et) (ht : TOK P et i) (h1 : i.size = 1) (h0 : l ≠ []) (hx : ev e x = some (.pointer (some ⟨g, 0, none⟩))) (hy : ev e y = some (.int .i64 (l.length : Nat))) (hd : Nat.ble (d + 1) n = true)
    (kk : ∀ w' a', Mem w0 G (L.eraseIdx k) w' → Fits n a' ((d, .string (str l)) :: e) → rl P ops Q r a' w') :
    rl P ops Q (⟨some d, .call ⟨.builtin .unsafeString, #[x, y], #[s, u]⟩, t, p, af, none⟩ :: r) a w := by
  obtain ⟨hown, h2⟩ := M.row_at hk
  have hc : P.cellsOf et = 1 := by
    obtain ⟨z, hz1, hz2, _⟩ := ht.info
    simp [Program.cellsOf, hz1, hz2, h1]
  rcases hown.2 with ⟨hv, hn0⟩ | ⟨g', cap, cur, hv, hbg, hgg, hnc, hcm, hcs, htake⟩
  · cases hv
  · simp only [Value.slice.injEq, Option.some.injEq, Addr.mk.injEq, true_and, and_true] at hv
    obtain ⟨rfl, rfl⟩ := hv
    have hsh : w.shape? g = some (et, cur.size) := by simp [World.shape?, hgg]
    have holds := hown.cells (g := g) rfl
    have hr := Lib.run_unsafeString_row (P := P) w s u t et (under_ptr hp) hc g cur.size hsh l h0 (by omega) (by simp only [maxLen] at hcm; omega) (fun j x hx => holds j _ (by rw [bc, List.getElem?_map, hx]; rfl))
    refine rl_run F (w' := w.freeze ⟨g, 0, none⟩ l.length) ?_ hd fun a' F' => kk _ a' (M.freezeRow hk _) F'
    have hx' := F.ev hx
    have hy' := F.ev hy
    simp only [execOp, resolve, Sem.run_bind, Sem.run_pure, Result.andThen_ok, invoke, builtin]
    simp [hx', hy', hr]
    rfl

theorem run_nePtr_same {ρ : Operand → Value} {dd : Option Tmp} {g : Option (Nat × Bool)} {ty yt te : TypeId} {i : TI} {x y : Operand} {ad : Addr} (hp : tk P ty = .ptr te) (ht : TOK P te i) (hx : ρ x = .pointer (some ad)) (hy : ρ y = .pointer (some ad)) :
    (execOp ρ ⟨dd, .binOp .neq ty x y yt, t, p, af, g⟩).run P w = .ok (.value (.bool false)) w := by
  obtain ⟨z, hz, _⟩ := ht.info
  have := Lib.run_neq_ptr_same (P := P) w ad (under_ptr hp) hz
  simp [execOp, hx, hy, eqGuard, this]

theorem run_toUnsafe {ρ : Operand → Value} {dd : Option Tmp} {g : Option (Nat × Bool)} {src dst te bt : TypeId} {i : TI} {x : Operand} {b k o : Nat} {cs : List Value} (M : Mem w0 G L w) (hk : L[k]? = some (.blk b cs bt)) (ho : o < cs.length)
    (hs : tk P src = .ptr te) (hd : P.underlying dst = some .unsafePointer) (ht : TOK P te i) (h0 : i.size ≠ 0) (hx : ρ x = .pointer (some ⟨b, o, none⟩)) :
    (execOp ρ ⟨dd, .convert src dst x, t, p, af, g⟩).run P w = .ok (.value (.pointer (some ⟨b, o, none⟩))) w := by
  obtain ⟨z, hz, hz2, _⟩ := ht.info
  have hh : w.heap[b]? = some (.cells cs.toArray bt (0, 0)) := M.own _ (List.mem_of_getElem? hk)
  have hsh : w.shape? b = some (bt, cs.length) := by simp [World.shape?, hh]
  have := Lib.run_to_unsafe (P := P) w ⟨b, o, none⟩ (under_ptr hs) hd hz (by rw [hz2]; exact h0) hsh ho
  simp [execOp, hx, this]
theorem run_fromUnsafe {ρ : Operand → Value} {dd : Option Tmp} {g : Option (Nat × Bool)} {src dst te bt : TypeId} {i : TI} {x : Operand} {b k o : Nat} {cs : List Value} (M : Mem w0 G L w) (hk : L[k]? = some (.blk b cs bt))
    (hs : P.underlying src = some .unsafePointer) (hd : tk P dst = .ptr te) (ht : TOK P te i) (hl : liesAt P P.depth bt (cs.length / P.cellsOf bt) o te 1 = true) (hx : ρ x = .pointer (some ⟨b, o, none⟩)) :
    (execOp ρ ⟨dd, .convert src dst x, t, p, af, g⟩).run P w = .ok (.value (.pointer (some ⟨b, o, none⟩))) w := by
  obtain ⟨z, hz, _⟩ := ht.info
  have hh : w.heap[b]? = some (.cells cs.toArray bt (0, 0)) := M.own _ (List.mem_of_getElem? hk)
  have hsh : w.shape? b = some (bt, cs.length) := by simp [World.shape?, hh]
  have := Lib.run_from_unsafe (P := P) w ⟨b, o, none⟩ hs (under_ptr hd) hz hsh hl
  simp [execOp, hx, this]
/-- internal/abi.NoEscape. -/
theorem run_noEscape {ρ : Operand → Value} {dd : Option Tmp} {g : Option (Nat × Bool)} {f : FuncId} {fn : Func} {x : Operand} {ats : Array TypeId} {v : Value} (hf : P.funcs[f]? = some fn) (hname : (fn.name == "runtime.NumGoroutine") = false)
    (hb : fn.body.isNone = true) (hn : Extern.findNext fn = none) (he : Extern.find fn = some Extern.AbiNoEscape.same) (hx : ρ x = v) (hfo : ρ (.func f) = .func (.func f) #[] #[]) :
    (execOp ρ ⟨dd, .call ⟨.value (.func f), #[x], ats⟩, t, p, af, g⟩).run P w = .ok (.value v) w := by
  have h2 := run_callFunc_extern (P := P) hf hname hb hn he #[v] w
  rw [Lib.run_noEscape] at h2
  simp only [execOp, resolve, hfo, Deferred.ofValue, Sem.run_bind, Sem.run_pure, Result.andThen_ok, invoke]
  simp [hx, h2]
end
end Go.Y
