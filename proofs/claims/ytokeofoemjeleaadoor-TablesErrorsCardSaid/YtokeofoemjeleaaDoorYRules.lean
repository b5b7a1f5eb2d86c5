/- The proof core, rules for slices' operations in a region. -/
import Derived.Test.YtokeofoemjeleaaDoorYRow
namespace Go.Y
open Go Go.RowKit

section
variable {P : Program} {ops : Array Oper} {Q : Exit → Act → World → Prop} {n : Nat} {a : Act} {w w0 : World} {e : Env} {G : Ghost} {L : List Res}
  {d : Nat} {t : TypeId} {p : String} {af : Array Edge} {r : List Oper}

theorem rl_alloc {et : TypeId} {i : TI} {cs : List Value} (F : Fits n a e) (M : Mem w0 G L w) (ht : TOK P et i) (hz : i.zero.cells = cs.toArray) (hd : Nat.ble (d + 1) n = true)
    (k : ∀ b w' a', Mem w0 G (.blk b cs et :: L) w' → Fits n a' ((d, .pointer (some ⟨b, 0, none⟩)) :: e) → rl P ops Q r a' w') : rl P ops Q (⟨some d, .alloc et, t, p, af, none⟩ :: r) a w := by
  refine rl_run F (run_alloc ht) hd fun a' F' => k w.heap.size _ a' ?_ F'
  have := M.new (.cells i.zero.cells et (0, 0))
  rw [hz] at this ⊢
  exact this.swap_head (x := .obj _ _) rfl (this.own (.obj _ _) (by simp)) rfl rfl rfl rfl (fun _ _ => rfl)

theorem rl_box {et : TypeId} {x : Operand} {v : Value} {cs : List Value} (F : Fits n a e) (M : Mem w0 G L w) (hx : ev e x = some v) (hc : v.cells = cs.toArray) (hd : Nat.ble (d + 1) n = true)
    (k : ∀ b w' a', Mem w0 G (.blk b cs et :: L) w' → Fits n a' ((d, .pointer (some ⟨b, 0, none⟩)) :: e) → rl P ops Q r a' w') : rl P ops Q (⟨some d, .box et x, t, p, af, none⟩ :: r) a w := by
  refine rl_run F (run_box (F.ev hx)) hd fun a' F' => k w.heap.size _ a' ?_ F'
  have := M.new (.cells v.cells et (0, 0))
  rw [hc] at this ⊢
  exact this.swap_head (x := .obj _ _) rfl (this.own (.obj _ _) (by simp)) rfl rfl rfl rfl (fun _ _ => rfl)

/-- A store into one cell of an owned block. -/
theorem rl_store1 {et : TypeId} {i : TI} {x y : Operand} {v old : Value} {k b o : Nat} {cs : List Value} {bt : TypeId} (F : Fits n a e) (M : Mem w0 G L w) (ht : TOK P et i) (h1 : i.size = 1)
    (hk : L[k]? = some (.blk b cs bt)) (hx : ev e x = some (.pointer (some ⟨b, o, none⟩))) (hy : ev e y = some v) (hv : v.oneCell' = true) (ho : cs[o]? = some old)
    (kk : ∀ w' a', Mem w0 G (L.set k (.blk b (cs.set o v) bt)) w' → Fits n a' e → rl P ops Q r a' w') : rl P ops Q (⟨none, .store et x y, t, p, af, none⟩ :: r) a w := by
  refine rl_skip F (run_store1 ht h1 (F.ev hx) (F.ev hy) ?_ ?_ ?_ (M.cellL hk ho) (M.frozenL hk o)) fun a' F' => kk _ a' (M.set hk o v) F'
  · cases v <;> simp_all [Value.cells, Value.oneCell']
  · intro c hc; subst hc; simp [Value.oneCell'] at hv
  · intro c hc; subst hc; simp [Value.oneCell'] at hv

theorem run_slice_op {ρ : Operand → Value} {dd : Option Tmp} {g : Option (Nat × Bool)} {s et : TypeId} {i : TI} {x : Operand} {lo hi : Option Operand} {ad : Option Addr} {m c l h : Nat} {kl kh : IntKind} {zl zh : Int}
    (hs : tk P s = .slice et) (ht : TOK P et i) (hx : ρ x = .slice ad m c)
    (hl : match lo with | none => l = 0 | some y => ρ y = .int kl zl ∧ zl = (l : Int)) (hh : match hi with | none => h = m | some y => ρ y = .int kh zh ∧ zh = (h : Int)) (h1 : l ≤ h) (h2 : h ≤ c) :
    (execOp ρ ⟨dd, .slice s x lo hi none, t, p, af, g⟩).run P w = .ok (.value (.slice (if c = l then ad else ad.map (·.add (l * i.size))) (h - l) (c - l))) w := by
  have hs' := run_under (w := w) (under_slice hs)
  have c1 : (l : Int) ≤ (h : Int) := by omega
  have c2 : (h : Int) ≤ (c : Int) := by omega
  cases lo with
  | none =>
    simp only at hl; subst hl
    cases hi with
    | none =>
      simp only at hh; subst hh
      simp [execOp, Instr.sliceAt, hs', Instr.slice, hx, Instr.sliceBounds, ht.sizeOf]
    | some y =>
      obtain ⟨hh, rfl⟩ := hh
      simp [execOp, Instr.sliceAt, hs', Instr.slice, hx, Instr.sliceBounds, ht.sizeOf, Instr.sliceBound, hh, asIntOf, h2]
  | some z =>
    obtain ⟨hl, rfl⟩ := hl
    cases hi with
    | none =>
      simp only at hh; subst hh
      simp [execOp, Instr.sliceAt, hs', Instr.slice, hx, Instr.sliceBounds, ht.sizeOf, Instr.sliceBound, hl, asIntOf, h1]
    | some y =>
      obtain ⟨hh, rfl⟩ := hh
      simp [execOp, Instr.sliceAt, hs', Instr.slice, hx, Instr.sliceBounds, ht.sizeOf, Instr.sliceBound, hl, hh, asIntOf, h1, h2]

theorem RdSl.sub {α : Type} {rd : Rd α} {sz : Nat} {ad : Option Addr} {m c l h : Nat} {xs : List α} (S : RdSl rd sz G (.slice ad m c) xs) (h1 : l ≤ h) (h2 : h ≤ xs.length) :
    ∃ a', (if c = l then ad else ad.map (·.add (l * sz))) = a' ∧ RdSl rd sz G (.slice a' (h - l) (c - l)) ((xs.take h).drop l) := by
  refine ⟨_, rfl, ?_⟩
  obtain ⟨a', c', e1, e2, e3, e4⟩ := S
  simp only [Value.slice.injEq] at e1
  obtain ⟨rfl, rfl, rfl⟩ := e1
  have hlen : ((xs.take h).drop l).length = h - l := by simp; omega
  refine ⟨_, c - l, by rw [hlen], by rw [hlen]; omega, by omega, ?_⟩
  rcases e4 with ⟨rfl, rfl⟩ | ⟨b, o, rfl, e5⟩
  · left
    have : h = 0 := by simpa using h2
    subst this
    refine ⟨by omega, by simp⟩
  · right
    by_cases hcl : c = l
    · subst hcl
      simp only [if_true]
      refine ⟨b, o, rfl, fun i x hx => ?_⟩
      have : ((xs.take h).drop c)[i]? = none := by
        rw [List.getElem?_eq_none]
        omega
      rw [this] at hx
      cases hx
    · simp only [hcl, if_false, Option.map_some, add_plain]
      refine ⟨b, o + l * sz, rfl, fun i x hx => ?_⟩
      rw [List.getElem?_drop, List.getElem?_take] at hx
      split at hx
      · obtain ⟨cs, f1, f2, f3, f4⟩ := e5 (l + i) x hx
        refine ⟨cs, f1, f2, ?_, f4⟩
        rw [Nat.add_mul] at f3
        rw [Nat.add_assoc]
        exact f3
      · cases hx

/-- 'l[lo:hi]' of a slice that is read. -/
theorem rl_slice {α : Type} {rd : Rd α} {sz : Nat} {s et : TypeId} {i : TI} {x : Operand} {lo hi : Option Operand} {ad : Option Addr} {m c l h : Nat} {kl kh : IntKind} {zl zh : Int} {xs : List α}
    (F : Fits n a e) (hs : tk P s = .slice et) (ht : TOK P et i) (hz : i.size = sz) (S : RdSl rd sz G (.slice ad m c) xs) (hx : ev e x = some (.slice ad m c))
    (hl : match lo with | none => l = 0 | some y => ev e y = some (.int kl zl) ∧ zl = (l : Int)) (hh : match hi with | none => h = xs.length | some y => ev e y = some (.int kh zh) ∧ zh = (h : Int)) (h1 : l ≤ h) (h2 : h ≤ xs.length)
    (hd : Nat.ble (d + 1) n = true)
    (k : ∀ a1 c1 a', RdSl rd sz G (.slice a1 (h - l) c1) ((xs.take h).drop l) → Fits n a' ((d, .slice a1 (h - l) c1) :: e) → rl P ops Q r a' w) :
    rl P ops Q (⟨some d, .slice s x lo hi none, t, p, af, none⟩ :: r) a w := by
  subst hz
  obtain ⟨hm, hmc, _⟩ := S.cells
  obtain ⟨a', e1, S'⟩ := S.sub h1 h2
  have hr := run_slice_op (P := P) (w := w) (ρ := a.eval) (dd := some d) (g := none) (t := t) (p := p) (af := af) (lo := lo) (hi := hi) (l := l) (h := h) (kl := kl) (kh := kh) (zl := zl) (zh := zh) hs ht (F.ev hx)
    (by cases lo with | none => exact hl | some y => exact ⟨F.ev hl.1, hl.2⟩) (by cases hi with | none => rw [hm]; exact hh | some y => exact ⟨F.ev hh.1, hh.2⟩) h1 (by omega)
  rw [e1] at hr
  exact rl_run F hr hd fun a'' F'' => k _ _ a'' S' F''

theorem run_append_op {ρ : Operand → Value} {dd : Option Tmp} {g : Option (Nat × Bool)} {s : TypeId} {x y : Operand} {v u v' : Value} {w' : World} (hx : ρ x = v) (hy : ρ y = u)
    (h : (Builtin.append_ #[s, s] t #[v, u]).run P w = .ok v' w') : (execOp ρ ⟨dd, .call ⟨.builtin .append, #[x, y], #[s, s]⟩, t, p, af, g⟩).run P w = .ok (.value v') w' := by
  simp [execOp, resolve, invoke, builtin, hx, hy, h]

/-- append of a slice that is read to an owned row. -/
theorem rl_append {α : Type} {rd : Rd α} {sz : Nat} {s et : TypeId} {i : TI} {x y : Operand} {v : Value} {k m : Nat} {cs : List Value} {ad : Option Addr} {m' c : Nat} {xs : List α}
    (F : Fits n a e) (M : Mem w0 G L w) (hk : L[k]? = some (.row v m cs et sz)) (hs : tk P s = .slice et) (ht : TOK P et i) (hz : i.zero.cells.size = i.size) (hsz : i.size = sz) (hpos : 0 < sz)
    (hx : ev e x = some v) (S : RdSl rd sz G (.slice ad m' c) xs) (hy : ev e y = some (.slice ad m' c))
    (hb : (m + xs.length) * i.bytes ≤ 140737488355328) (hb2 : m + xs.length ≤ 9223372036854775807) (hd : Nat.ble (d + 1) n = true)
    (kk : ∀ v' cs' w' a', Mem w0 G (L.set k (.row v' (m + xs.length) (cs ++ cs') et sz)) w' → Els rd sz G cs' xs → Fits n a' ((d, v') :: e) → rl P ops Q r a' w') :
    rl P ops Q (⟨some d, .call ⟨.builtin .append, #[x, y], #[s, s]⟩, t, p, af, none⟩ :: r) a w := by
  subst hsz
  obtain ⟨rfl, h2, h3, news, h4, h5, h6⟩ := S.cells
  rcases h6 with ⟨rfl, rfl⟩ | ⟨b, o, rfl, h6⟩
  · simp only [Els] at h4
    subst h4
    rcases ad with _ | ad
    rotate_left
    · obtain ⟨v', w', hr, M'⟩ := M.append (P := P) (ty := t) (t := s) hk hs ht hz hpos (ad := ad) (m := 0) (c := 0) (news := []) (by simp) (by simp) (by simp) (by simp only [maxLen]; simpa using hb2) (by simpa using hb)
      exact rl_run F (run_append_op (F.ev hx) (F.ev hy) hr) hd fun a' F' => kk v' [] w' a' M' rfl F'
    have hr := M.append_none (P := P) (t := s) (ty := t) hk hs ht
    refine rl_run F (run_append_op (F.ev hx) (F.ev hy) hr) hd fun a' F' => kk v [] w a' ?_ rfl F'
    have hset : L.set k (.row v (m + ([] : List α).length) (cs ++ []) et i.size) = L := by
      simp only [List.length_nil, Nat.add_zero, List.append_nil]
      apply List.ext_getElem?
      intro j
      rw [List.getElem?_set]
      split
      · rename_i hj; subst hj; split
        · rw [hk]
        · rename_i hlt; rw [List.getElem?_eq_none (by omega)] at hk; cases hk
      · rfl
    rw [hset]; exact M
  · obtain ⟨v', w', hr, M'⟩ := M.append (P := P) (ty := t) (t := s) hk hs ht hz hpos (ad := ⟨b, o, none⟩) (m := xs.length) (c := c) (news := news) h4.length
      (fun j u hj => by rw [add_plain]; exact M.cell (h6 j u hj)) h5 (by simp only [maxLen]; omega) hb
    exact rl_run F (run_append_op (F.ev hx) (F.ev hy) hr) hd fun a' F' => kk v' news w' a' M' h4 F'

/-- append of an owned row to another. -/
theorem rl_append_row {s et : TypeId} {i : TI} {x y : Operand} {v u : Value} {k k2 m m2 sz : Nat} {cs cs2 : List Value}
    (F : Fits n a e) (M : Mem w0 G L w) (hk : L[k]? = some (.row v m cs et sz)) (hk2 : L[k2]? = some (.row u m2 cs2 et sz)) (hs : tk P s = .slice et) (ht : TOK P et i) (hz : i.zero.cells.size = i.size) (hsz : i.size = sz) (hpos : 0 < sz)
    (hx : ev e x = some v) (hy : ev e y = some u)
    (hb : (m + m2) * i.bytes ≤ 140737488355328) (hb2 : m + m2 ≤ 9223372036854775807) (hd : Nat.ble (d + 1) n = true)
    (kk : ∀ v' w' a', Mem w0 G (L.set k (.row v' (m + m2) (cs ++ cs2) et sz)) w' → Fits n a' ((d, v') :: e) → rl P ops Q r a' w') :
    rl P ops Q (⟨some d, .call ⟨.builtin .append, #[x, y], #[s, s]⟩, t, p, af, none⟩ :: r) a w := by
  subst hsz
  obtain ⟨ho, h1⟩ := M.row_at hk2
  rcases ho.2 with ⟨rfl, rfl⟩ | ⟨g, cap, cur, rfl, hbg, hgg, hnc, hcm, hcs, htake⟩
  · have h0 : cs2 = [] := List.eq_nil_of_length_eq_zero (by simpa using ho.1)
    subst h0
    have hr := M.append_none (P := P) (t := s) (ty := t) hk hs ht
    refine rl_run F (run_append_op (F.ev hx) (F.ev hy) hr) hd fun a' F' => kk v w a' ?_ F'
    have hset : L.set k (.row v (m + 0) (cs ++ []) et i.size) = L := by
      simp only [Nat.add_zero, List.append_nil]
      apply List.ext_getElem?
      intro j
      rw [List.getElem?_set]
      split
      · rename_i hj; subst hj; split
        · rw [hk]
        · rename_i hlt; rw [List.getElem?_eq_none (by omega)] at hk; cases hk
      · rfl
    rw [hset]; exact M
  · obtain ⟨v', w', hr, M'⟩ := M.append (P := P) (ty := t) (t := s) hk hs ht hz hpos (ad := ⟨g, 0, none⟩) (m := m2) (c := cap) (news := cs2) ho.1
      (ho.cells (g := g) rfl) h1 (by simp only [maxLen]; omega) hb
    exact rl_run F (run_append_op (F.ev hx) (F.ev hy) hr) hd fun a' F' => kk v' w' a' M' F'

/-- '[]T{..}' -/
theorem run_buildSlice {ρ : Operand → Value} {dd : Option Tmp} {g : Option (Nat × Bool)} {s et : TypeId} {i : TI} {len : Nat} {parts : Array (Nat × Operand)} {cs : List Value}
    (hs : tk P s = .slice et) (ht : TOK P et i) (hlen : len * i.size ≤ 16777216)
    (hf : Instr.fill (fun j => some (j * i.size, i.size)) ((Array.range (len * i.size)).map (i.zero.cells[· % i.zero.cells.size]!)) (parts.map fun (j, x) => (j, ρ x)).toList = some cs.toArray) :
    (execOp ρ ⟨dd, .buildSlice s len parts, t, p, af, g⟩).run P w = .ok (.value (.slice (some ⟨w.heap.size, 0, none⟩) len len)) { w with heap := w.heap.push (.cells cs.toArray et (0, 0)) } := by
  have hn : ¬ (16777216 < len * i.size) := by omega
  by_cases h0 : len * i.size = 0
  · have h00 : (Array.range 0).map (i.zero.cells[· % i.zero.cells.size]!) = #[] := Array.eq_empty_of_size_eq_zero (by simp)
    have h01 : (Array.range 0).map (fun _ => (default : Value)) = #[] := Array.eq_empty_of_size_eq_zero (by simp)
    have hf' : Instr.fill (fun j => some (j * i.size, i.size)) #[] (parts.map fun (j, x) => (j, ρ x)).toList = some cs.toArray := by
      rw [h0, h00] at hf
      exact hf
    simp only [execOp, Instr.buildSlice, Sem.run_bind, run_under (under_slice hs), Result.andThen_ok, ht.sizeOf]
    simp only [show (2 : Nat) ^ 24 = 16777216 from rfl, gt_iff_lt, h0, if_true, Sem.run_pure]
    have hf2 : Instr.fill (fun j => some (j * i.size, i.size)) (Array.map (fun _ => (default : Value)) (Array.range 0)) (List.map (fun x => (x.fst, ρ x.snd)) parts.toList) = some cs.toArray := by
      rw [h01]; simpa using hf'
    simp [newRow, newObj, Sem.run, hf2]
  · simp only [execOp, Instr.buildSlice, Sem.run_bind, run_under (under_slice hs), Result.andThen_ok, ht.sizeOf]
    simp only [show (2 : Nat) ^ 24 = 16777216 from rfl, gt_iff_lt, hn, if_false, h0, Sem.run_bind, ht.zeroValue, Sem.run_pure, Result.andThen_ok, hf]
    simp [newRow, newObj, Sem.run]

theorem foldl_set (l : List Value) : ∀ (k : Nat) (acc : Array Value), k + l.length ≤ acc.size → ∀ j, ((l.zipIdx k).foldl (fun (cs : Array Value) (cj : Value × Nat) => cs.setIfInBounds cj.2 cj.1) acc)[j]? = if j < k then acc[j]? else if j < k + l.length then l[j - k]? else acc[j]? := by
  induction l with
  | nil => intro k acc _ j; simp; intro h1 h2; omega
  | cons c l ih =>
    intro k acc hk j
    simp only [List.length_cons] at hk
    simp only [List.zipIdx_cons, List.foldl_cons]
    rw [ih (k + 1) _ (by simp; omega)]
    simp only [List.length_cons, Array.getElem?_setIfInBounds]
    by_cases h1 : j < k
    · simp [h1, show j < k + 1 by omega, show ¬ k = j by omega]
    · by_cases h2 : j = k
      · subst h2
        simp [show j < acc.size by omega]
      · have h3 : ¬ j < k + 1 := by omega
        have h4 : ¬ k = j := by omega
        simp only [h1, h3, h4, if_false]
        have h5 : j - k = (j - (k + 1)) + 1 := by omega
        by_cases h6 : j < k + 1 + l.length
        · simp [h6, show j < k + (l.length + 1) by omega, h5]
        · simp [h6, show ¬ j < k + (l.length + 1) by omega]

theorem fill_one {v : Value} {cs : List Value} {zs : Array Value} {sz : Nat} (hv : v.cells = cs.toArray) (hl : cs.length = sz) (hz : zs.size = sz) :
    Instr.fill (fun j => some (j * sz, sz)) zs [(0, v)] = some cs.toArray := by
  have h : (cs.toArray.zipIdx.foldl (fun (cs : Array Value) (cj : Value × Nat) => cs.setIfInBounds (0 * sz + cj.2) cj.1) zs) = cs.toArray := by
    apply Array.ext_getElem?
    intro j
    have := foldl_set cs 0 zs (by omega) j
    rw [← Array.foldl_toList]
    simp only [Array.toList_zipIdx]
    simp only [Nat.zero_mul, Nat.zero_add] at *
    simp only [Nat.not_lt_zero, if_false, Nat.sub_zero] at this
    rw [this]
    by_cases hj : j < cs.length
    · simp [hj]
    · simp [hj, show ¬ j < zs.size by omega]
  simp only [Instr.fill, hv, List.size_toArray, hl, hz]
  simp only [ne_eq, not_true_eq_false, decide_false, Nat.zero_mul, Nat.zero_add, gt_iff_lt, Nat.lt_irrefl, Bool.or_self, Bool.false_eq_true, if_false]
  simp only [Nat.zero_mul] at h
  exact congrArg some (by simpa using h)

theorem rl_buildSlice0 {s et : TypeId} {i : TI} (F : Fits n a e) (M : Mem w0 G L w) (hs : tk P s = .slice et) (ht : TOK P et i) (hd : Nat.ble (d + 1) n = true)
    (k : ∀ v w' a', Mem w0 G (.row v 0 [] et i.size :: L) w' → Fits n a' ((d, v) :: e) → rl P ops Q r a' w') :
    rl P ops Q (⟨some d, .buildSlice s 0 #[], t, p, af, none⟩ :: r) a w := by
  refine rl_run F (run_buildSlice (cs := []) hs ht (by omega) (by simp [Instr.fill])) hd fun a' F' => k _ _ a' ?_ F'
  exact M.newrow (cs := []) (spare := []) (n := 0) (c := 0) (by simp) (by simp) (by simp) (Nat.le_refl _) (by simp [maxLen])

/-- One element, of whatever size. -/
theorem rl_buildSlice1 {s et : TypeId} {i : TI} {x : Operand} {v : Value} {cs : List Value} (F : Fits n a e) (M : Mem w0 G L w) (hs : tk P s = .slice et) (ht : TOK P et i) (hz : i.zero.cells.size = i.size) (hx : ev e x = some v) (hv : v.cells = cs.toArray)
    (hl : cs.length = i.size) (h1 : ∀ u ∈ cs, u.oneCell' = true) (hsm : i.size ≤ 16777216) (hd : Nat.ble (d + 1) n = true)
    (k : ∀ v w' a', Mem w0 G (.row v 1 cs et i.size :: L) w' → Fits n a' ((d, v) :: e) → rl P ops Q r a' w') :
    rl P ops Q (⟨some d, .buildSlice s 1 #[(0, x)], t, p, af, none⟩ :: r) a w := by
  refine rl_run F (run_buildSlice (cs := cs) hs ht (by omega) ?_) hd fun a' F' => k _ _ a' ?_ F'
  · simp only [List.map_toArray, List.map_cons, List.map_nil, F.ev hx]
    exact fill_one hv hl (by simp)
  · have := M.newrow (t := et) (sz := i.size) (cs := cs) (spare := []) (n := 1) (c := 1) h1 (by simpa using hl) (by simpa using hl) (Nat.le_refl _) (by simp [maxLen])
    rw [List.append_nil] at this
    exact this
end
end Go.Y
