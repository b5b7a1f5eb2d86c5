/- The proof core, more rules: elements of owned rows, struct literals, stores of many cells, regions that draw. -/
import Derived.Test.YtokeofoemjeleaaDoorYRules
import Derived.Deep.QuietTactic
namespace Go.Y
open Go Go.RowKit

section
variable {P : Program} {w0 w : World} {G G' : Ghost} {L : List Res}

theorem Mem.row_shape (M : Mem w0 G L w) {k n : Nat} {v : Value} {cs : List Value} {t : TypeId} {sz : Nat} (hk : L[k]? = some (.row v n cs t sz)) :
    ∃ a c, v = .slice a n c ∧ n ≤ c ∧ c ≤ 9223372036854775807 ∧ cs.length = n * sz := by
  obtain ⟨⟨hl, h2⟩, _⟩ := M.row_at hk
  rcases h2 with ⟨rfl, h0⟩ | ⟨g, cap, cur, rfl, _, _, hnc, hcm, _, _⟩
  · subst h0; exact ⟨none, 0, rfl, Nat.le_refl _, by omega, hl⟩
  · exact ⟨_, cap, rfl, hnc, by simpa [maxLen] using hcm, hl⟩

theorem Mem.row_some (M : Mem w0 G L w) {k n c : Nat} {ad : Option Addr} {cs : List Value} {t : TypeId} {sz : Nat} (hk : L[k]? = some (.row (.slice ad n c) n cs t sz)) (h0 : 0 < n) :
    ∃ b, ad = some ⟨b, 0, none⟩ := by
  obtain ⟨⟨hl, h2⟩, _⟩ := M.row_at hk
  rcases h2 with ⟨_, h0'⟩ | ⟨g, cap, cur, he, _⟩
  · omega
  · simp only [Value.slice.injEq] at he
    exact ⟨g, he.1⟩

theorem Mem.row_cell (M : Mem w0 G L w) {k n c b : Nat} {cs : List Value} {t : TypeId} {sz : Nat} (hk : L[k]? = some (.row (.slice (some ⟨b, 0, none⟩) n c) n cs t sz)) {q : Nat} {v : Value} (hq : cs[q]? = some v) :
    w.cell? ⟨b, q, none⟩ = some v := by
  obtain ⟨ho, _⟩ := M.row_at hk
  have hlt : q < cs.length := by
    rcases Nat.lt_or_ge q cs.length with h' | h'
    · exact h'
    · simp [List.getElem?_eq_none h'] at hq
  rw [ho.cellAt q (by rw [← ho.1]; exact hlt), hq]

theorem Mem.set_row (M : Mem w0 G L w) {k n c b : Nat} {cs : List Value} {t : TypeId} {sz : Nat} (hk : L[k]? = some (.row (.slice (some ⟨b, 0, none⟩) n c) n cs t sz)) (q : Nat) {u : Value} (hu : u.oneCell' = true) :
    Mem w0 G (L.set k (.row (.slice (some ⟨b, 0, none⟩) n c) n (cs.set q u) t sz)) (w.setCell ⟨b, q, none⟩ u) := by
  obtain ⟨ho, h1⟩ := M.row_at hk
  obtain ⟨h2, h3⟩ := ho.stored q u
  refine M.swap_at hk rfl ⟨h2, fun v hv => ?_⟩ rfl rfl rfl (by simp [World.setCell]) ?_
  · rcases List.mem_or_eq_of_mem_set hv with h | h
    · exact h1 v h
    · subst h; exact hu
  · intro r hr
    exact heap_setCell_other (fun e => hr (by simp [Res.foot, Value.ownBlock, e]))

/-- The list with us laid over it from place q on. -/
def over : List Value → Nat → List Value → List Value
  | cs, _, [] => cs
  | cs, q, u :: us => over (cs.set q u) (q + 1) us

theorem over_mid (us : List Value) : ∀ (l c r : List Value), c.length = us.length → over (l ++ c ++ r) l.length us = l ++ us ++ r := by
  induction us with
  | nil => intro l c r h; have : c = [] := List.eq_nil_of_length_eq_zero (by simpa using h); subst this; simp [over]
  | cons u us ih =>
    intro l c r h
    match c, h with
    | x :: c, h =>
      simp only [over]
      have e1 : (l ++ x :: c ++ r).set l.length u = (l ++ [u]) ++ c ++ r := by
        simp
      rw [e1, show l.length + 1 = (l ++ [u]).length by simp, ih (l ++ [u]) c r (by simpa using h)]
      simp

theorem set_self {α : Type} {L : List α} {k : Nat} {x : α} (hk : L[k]? = some x) : L.set k x = L := by
  apply List.ext_getElem?
  intro j
  rw [List.getElem?_set]
  split
  · rename_i hj
    subst hj
    split
    · rw [hk]
    · rename_i hlt
      rw [List.getElem?_eq_none (by omega)] at hk
      cases hk
  · rfl

theorem run_store_cell {a : Addr} {v old : Value} (hv : v.oneCell' = true) (hc : w.cell? a = some old) (hf : w.frozen? a = false) : (store a v).run P w = .ok () (w.setCell a v) := by
  unfold store
  cases v <;> simp_all [Sem.run, Value.oneCell']

theorem Mem.store_row {us : List Value} : ∀ {w : World} {L : List Res}, (M : Mem w0 G L w) → ∀ {k n c b : Nat} {cs : List Value} {t : TypeId} {sz : Nat} (_ : L[k]? = some (.row (.slice (some ⟨b, 0, none⟩) n c) n cs t sz)) (o i : Nat)
    (_ : ∀ u ∈ us, u.oneCell' = true) (_ : o + i + us.length ≤ cs.length),
    ∃ w', (storeCells ⟨b, o, none⟩ us i).run P w = .ok () w' ∧ Mem w0 G (L.set k (.row (.slice (some ⟨b, 0, none⟩) n c) n (over cs (o + i) us) t sz)) w' := by
  induction us with
  | nil =>
    intro w L M k n c b cs t sz hk o i hu hfit
    refine ⟨w, by simp [storeCells], ?_⟩
    simp only [over]
    rw [set_self hk]
    exact M
  | cons u us ih =>
    intro w L M k n c b cs t sz hk o i hu hfit
    simp only [List.length_cons] at hfit
    have hfz : w.frozen? ⟨b, o + i, none⟩ = false := (M.row_at hk).1.frozenAt _
    have hc : w.cell? ⟨b, o + i, none⟩ = some cs[o + i] := M.row_cell hk (List.getElem?_eq_getElem (by omega))
    have M' := M.set_row hk (o + i) (hu u (by simp))
    have hk' : (L.set k (.row (.slice (some ⟨b, 0, none⟩) n c) n (cs.set (o + i) u) t sz))[k]? = some (.row (.slice (some ⟨b, 0, none⟩) n c) n (cs.set (o + i) u) t sz) := by
      rw [List.getElem?_set]
      have hlt : k < L.length := by
        rcases Nat.lt_or_ge k L.length with h' | h'
        · exact h'
        · simp [List.getElem?_eq_none h'] at hk
      simp [hlt]
    obtain ⟨w', hr, M''⟩ := ih M' hk' o (i + 1) (fun v hv => hu v (by simp [hv])) (by simp; omega)
    refine ⟨w', ?_, ?_⟩
    · simp only [storeCells, Sem.run_bind, add_plain, run_store_cell (hu u (by simp)) hc hfz, Result.andThen_ok]
      exact hr
    · rw [List.set_set] at M''
      exact M''
end

section
variable {P : Program} {ops : Array Oper} {Q : Exit → Act → World → Prop} {n : Nat} {a : Act} {w w0 : World} {e : Env} {G : Ghost} {L : List Res}
  {d : Nat} {t : TypeId} {p : String} {af : Array Edge} {r : List Oper}

/-- The address of an element of an owned row. -/
theorem rl_indexRow {α : Type} {rd : Rd α} {sz : Nat} {s et bt : TypeId} {i : TI} {x y : Operand} {ad : Option Addr} {m c k : Nat} {cs : List Value} {xs : List α} {ki : IntKind} {z : Int} {j : Nat} {X : α}
    (F : Fits n a e) (M : Mem w0 G L w) (hk : L[k]? = some (.row (.slice ad m c) m cs bt sz)) (hs : tk P s = .slice et) (ht : TOK P et i) (hz : i.size = sz) (hpos : 0 < sz) (E : Els rd sz G cs xs)
    (hx : ev e x = some (.slice ad m c)) (hy : ev e y = some (.int ki z)) (hzj : z = (j : Int)) (hj : xs[j]? = some X) (hd : Nat.ble (d + 1) n = true)
    (kk : ∀ b l ch rr, ad = some ⟨b, 0, none⟩ → m = xs.length → cs = l ++ ch ++ rr → l.length = j * sz → ch.length = sz → rd G ch X → (∀ q v, ch[q]? = some v → w.cell? ⟨b, j * sz + q, none⟩ = some v) →
      (∀ c' x', c'.length = sz → rd G c' x' → Els rd sz G (l ++ c' ++ rr) (xs.set j x')) → ∀ a', Fits n a' ((d, .pointer (some ⟨b, j * sz, none⟩)) :: e) → rl P ops Q r a' w) :
    rl P ops Q (⟨some d, .indexAddr s x y, t, p, af, none⟩ :: r) a w := by
  obtain ⟨l, ch, rr, h1, h2, h3, h4, h5⟩ := E.get hj
  have hm : m = xs.length := by
    have h6 := E.length
    rw [(M.row_at hk).1.1] at h6
    exact Nat.eq_of_mul_eq_mul_right hpos h6
  have hlt : j < xs.length := by
    rcases Nat.lt_or_ge j xs.length with h' | h'
    · exact h'
    · simp [List.getElem?_eq_none h'] at hj
  obtain ⟨b, rfl⟩ := M.row_some hk (by omega)
  subst hzj hz
  have hr := run_indexAddr (P := P) (w := w) (d := some d) (t := t) (p := p) (af := af) (g := none) hs ht (F.ev hx) (F.ev hy) (by omega : j < m)
  rw [Nat.zero_add] at hr
  refine rl_run F hr hd (kk b l ch rr rfl hm h1 h2 h3 h4 (fun q v hq => M.row_cell hk ?_) h5)
  have hql : q < ch.length := by
    rcases Nat.lt_or_ge q ch.length with h' | h'
    · exact h'
    · simp [List.getElem?_eq_none h'] at hq
  rw [h1, List.append_assoc, List.getElem?_append_right (by omega), h2, Nat.add_sub_cancel_left, List.getElem?_append_left hql, hq]

/-- A store of a whole element into an owned row. -/
theorem rl_storeRow {et bt : TypeId} {i : TI} {x y : Operand} {v : Value} {k m c b o sz : Nat} {cs us : List Value} (F : Fits n a e) (M : Mem w0 G L w) (ht : TOK P et i)
    (hk : L[k]? = some (.row (.slice (some ⟨b, 0, none⟩) m c) m cs bt sz)) (hx : ev e x = some (.pointer (some ⟨b, o, none⟩))) (hy : ev e y = some v) (hv : v.cells = us.toArray) (hl : us.length = i.size)
    (hu : ∀ u ∈ us, u.oneCell' = true) (hfit : o + us.length ≤ cs.length)
    (kk : ∀ w' a', Mem w0 G (L.set k (.row (.slice (some ⟨b, 0, none⟩) m c) m (over cs o us) bt sz)) w' → Fits n a' e → rl P ops Q r a' w') : rl P ops Q (⟨none, .store et x y, t, p, af, none⟩ :: r) a w := by
  obtain ⟨w', hr, M'⟩ := M.store_row (P := P) (us := us) hk o 0 hu (by omega)
  refine rl_skip F (w' := w') ?_ fun a' F' => kk w' a' (by simpa using M') F'
  simp only [execOp, F.ev hx, F.ev hy, Instr.storeAt, Instr.sureAddr, storeVar, Sem.run_bind, Sem.run_pure, Result.andThen_ok, ht.sizeOf, hv]
  simp [hl, hr]

/-! ### Struct literals -/
theorem run_places (fs : List Field) : (∀ f ∈ fs, P.cellsOf f.type ≠ 0) → (fs.mapM fun f => do pure (f.offset, ← sizeOf f.type) : Sem (List (Nat × Nat))).run P w = .ok (fs.map fun f => (f.offset, P.cellsOf f.type)) w := by
  induction fs with
  | nil => intro _; simp
  | cons f fs ih =>
    intro h
    have h0 := h f (by simp)
    have hi : ∃ i, P.info? f.type = some i ∧ i.size = P.cellsOf f.type := by
      unfold Program.cellsOf at *
      cases hii : P.info? f.type with
      | none => rw [hii] at h0; simp at h0
      | some i => exact ⟨i, rfl, by simp⟩
    obtain ⟨i, h1, h2⟩ := hi
    have ih' := ih (fun g hg => h g (by simp [hg]))
    have hsz : (sizeOf f.type).run P w = .ok (P.cellsOf f.type) w := by simp [sizeOf, typeInfo, program, Sem.run, h1, h2]
    simp only [List.mapM_cons, Sem.run_bind, hsz, Result.andThen_ok, Sem.run_pure, ih', List.map_cons]

theorem run_buildS {ρ : Operand → Value} {dd : Option Tmp} {g : Option (Nat × Bool)} {s : TypeId} {i : TI} {parts : Array (Nat × Operand)} {ps : List (Nat × Value)} {fs : List (Nat × Nat × Nat)} {cs : List Value}
    (hs : tk P s = .struct fs) (hnz : fs.all (fun x => !Nat.beq x.2.1 0) = true) (ht : TOK P s i) (hp : (parts.map fun (j, x) => (j, ρ x)).toList = ps)
    (hf : Instr.fill (fun j => (fs.map fun x => (x.1, x.2.1))[j]?) i.zero.cells ps = some cs.toArray) :
    (execOp ρ ⟨dd, .build s parts, t, p, af, g⟩).run P w = .ok (.value (.agg cs.toArray)) w := by
  obtain ⟨ff, hu, hff⟩ := under_struct hs
  have hne : ∀ f ∈ ff.toList, P.cellsOf f.type ≠ 0 := by
    intro f hf
    have hm : (f.offset, P.cellsOf f.type, f.type) ∈ fs := by rw [← hff]; exact List.mem_map.2 ⟨f, hf, rfl⟩
    have := (List.all_eq_true.1 hnz) _ hm
    intro h0
    simp [h0] at this
  have hpl := run_places (P := P) (w := w) ff.toList hne
  have hpl' : (ff.mapM fun f => do pure (f.offset, ← sizeOf f.type) : Sem (Array (Nat × Nat))).run P w = .ok (ff.toList.map fun f => (f.offset, P.cellsOf f.type)).toArray w := by
    have h1 : (ff.mapM fun f => do pure (f.offset, ← sizeOf f.type) : Sem (Array (Nat × Nat))) = List.toArray <$> (ff.toList.mapM fun f => do pure (f.offset, ← sizeOf f.type)) := by
      rw [Array.mapM_eq_mapM_toList]
    rw [h1, Sem.run_map, hpl]
    rfl
  have hfs : (fs.map fun x => (x.1, x.2.1)) = ff.toList.map fun f => (f.offset, P.cellsOf f.type) := by
    rw [← hff, List.map_map]; rfl
  have hplace : (fun (j : Nat) => (ff.toList.map fun f => (f.offset, P.cellsOf f.type)).toArray[j]?) = fun (j : Nat) => (fs.map fun x => (x.1, x.2.1))[j]? := by
    funext j; rw [hfs]; simp
  simp only [execOp, Instr.build, Sem.run_bind, ht.zeroValue, Result.andThen_ok, run_under hu, hpl', Sem.run_pure]
  rw [hplace, hp, hf]
  simp

/-! ### Regions that draw their order, and leave the memory as it is -/
theorem w_quiet {id : Nat} {l : List Oper} (M : Mem w0 G L w) (hm : P.follows .mixedOrders = true) (hB : Region.lexB .any l.toArray = true)
    (h : wpQuiet P l.toArray (Mem w0 G L) (fun a' => ∀ w', Mem w0 G L w' → Q .normal a' w') l a) : (Code.region id l.toArray true).wp P Q a w :=
  wp_region_quiet (C := Mem w0 G L) hm hB (M.drew _) (by simpa using h)

variable {C : World → Prop} {K : Act → Prop}
theorem q_nil (h : K a) : wpQuiet P ops C K [] a := h
theorem q_run {op : Op} {v : Value} (F : Fits n a e) (hr : ∀ w, C w → (execOp a.eval ⟨some d, op, t, p, af, none⟩).run P w = .ok (.value v) w) (hd : Nat.ble (d + 1) n = true)
    (k : ∀ a', Fits n a' ((d, v) :: e) → wpQuiet P ops C K r a') : wpQuiet P ops C K (⟨some d, op, t, p, af, none⟩ :: r) a := by
  simp only [wpQuiet, Region.wanted, if_true]
  refine ⟨v, fun w hw => ?_, k _ (F.put hd)⟩
  unfold Oper.quietAt
  rw [hr w hw]
  exact ⟨rfl, rfl⟩
theorem q_guard_run {op : Op} {v : Value} {j g : Nat} {want : Bool} (F : Fits n a e) (hj : (ops[j]?).bind (·.dst) = some g) {b : Bool} (hb : look e g = some (.bool b)) (hw : b = want)
    (hr : ∀ w, C w → (execOp a.eval ⟨some d, op, t, p, af, some (j, want)⟩).run P w = .ok (.value v) w) (hd : Nat.ble (d + 1) n = true)
    (k : ∀ a', Fits n a' ((d, v) :: e) → wpQuiet P ops C K r a') : wpQuiet P ops C K (⟨some d, op, t, p, af, some (j, want)⟩ :: r) a := by
  have hy : yielded ops a.tmps j = some b := by simp [yielded, hj, F.slot _ _ hb]
  subst hw
  simp only [wpQuiet, Region.wanted, hy, BEq.rfl, if_true]
  refine ⟨v, fun w hw => ?_, k _ (F.put hd)⟩
  unfold Oper.quietAt
  rw [hr w hw]
  exact ⟨rfl, rfl⟩
theorem q_guard_skip {op : Op} {j g : Nat} {want : Bool} (F : Fits n a e) (hj : (ops[j]?).bind (·.dst) = some g) {b : Bool} (hb : look e g = some (.bool b)) (hw : b = !want)
    (hd : Nat.ble (d + 1) n = true) (k : ∀ a', Fits n a' ((d, undef) :: e) → wpQuiet P ops C K r a') : wpQuiet P ops C K (⟨some d, op, t, p, af, some (j, want)⟩ :: r) a := by
  have hy : yielded ops a.tmps j = some b := by simp [yielded, hj, F.slot _ _ hb]
  have hne : (some b == some want) = false := by subst hw; cases want <;> rfl
  simp only [wpQuiet, Region.wanted, hy, hne, Bool.false_eq_true, if_false]
  exact k _ (F.put hd)
theorem q_call {f : FuncId} {args : List Operand} {ats : Array TypeId} {vs : List Value} {v : Value} (F : Fits n a e) (hE : Ent P f) (hv : evs e args = some vs) (hd : Nat.ble (d + 1) n = true)
    (hs : ∀ w, C w → Calls P f vs.toArray w fun x w' => x = .returned v ∧ C w')
    (k : ∀ a', Fits n a' ((d, v) :: e) → wpQuiet P ops C K r a') : wpQuiet P ops C K (⟨some d, .call ⟨.value (.func f), args.toArray, ats⟩, t, p, af, none⟩ :: r) a := by
  simp only [wpQuiet, Region.wanted, if_true]
  refine ⟨v, fun w hw => ?_, k _ (F.put hd)⟩
  have hr : (execOp a.eval ⟨some d, .call ⟨.value (.func f), args.toArray, ats⟩, t, p, af, none⟩).run P w = .ok (.enter f vs.toArray) w := by
    have h2 := F.evs hv
    simp only [execOp, resolve, Act.eval, Deferred.ofValue, Sem.run_bind, Sem.run_pure, Result.andThen_ok, invoke]
    rw [show (#[] ++ Array.map a.eval args.toArray ++ #[]) = vs.toArray by simp [← h2]]
    exact run_enter hE
  unfold Oper.quietAt
  rw [hr]
  exact ⟨rfl, hs w hw⟩
theorem q_index {α : Type} {rd : Rd α} {sz : Nat} {s et : TypeId} {i : TI} {x y : Operand} {ad : Option Addr} {m c : Nat} {xs : List α} {k : IntKind} {z : Int} {j : Nat} {X : α}
    (F : Fits n a e) (hs : tk P s = .slice et) (ht : TOK P et i) (hz : i.size = sz) (S : RdSl rd sz G (.slice ad m c) xs)
    (hx : ev e x = some (.slice ad m c)) (hy : ev e y = some (.int k z)) (hzj : z = (j : Int)) (hj : xs[j]? = some X) (hd : Nat.ble (d + 1) n = true)
    (kk : ∀ b o cs, cs.length = sz → At G b o cs → rd G cs X → ∀ a', Fits n a' ((d, .pointer (some ⟨b, o, none⟩)) :: e) → wpQuiet P ops C K r a') :
    wpQuiet P ops C K (⟨some d, .indexAddr s x y, t, p, af, none⟩ :: r) a := by
  obtain ⟨b, o, cs, rfl, rfl, h1, h2, h3⟩ := S.index hj
  subst hzj hz
  have hlt : j < xs.length := by
    rcases Nat.lt_or_ge j xs.length with h' | h'
    · exact h'
    · simp [List.getElem?_eq_none h'] at hj
  exact q_run F (fun w _ => run_indexAddr hs ht (F.ev hx) (F.ev hy) hlt) hd (kk b _ cs h1 h2 h3)
end
end Go.Y
