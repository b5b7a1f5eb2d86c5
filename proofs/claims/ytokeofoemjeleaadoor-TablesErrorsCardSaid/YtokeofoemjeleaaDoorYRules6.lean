/- The proof core: bound methods called, structs held against each other, slices cut to their length, arrays indexed. -/
import Derived.Test.YtokeofoemjeleaaDoorYNum
import Derived.Test.YtokeofoemjeleaaDoorYPlan2
import Derived.Laws.StructEq
namespace Go.Y
open Go Go.RowKit

section
variable {P : Program} {ops : Array Oper} {Q : Exit → Act → World → Prop} {n : Nat} {a : Act} {w w0 : World} {e : Env} {G : Ghost} {L : List Res}
  {d : Nat} {t : TypeId} {p : String} {af : Array Edge} {r : List Oper}

theorem rl_callF {f : FuncId} {cal : Operand} {args : List Operand} {ats : Array TypeId} {vs first : List Value} {Φ : Value → Prop}
    (F : Fits n a e) (hE : Ent P f) (hc : ev e cal = some (.func (.func f) first.toArray #[])) (hv : evs e args = some vs) (hd : Nat.ble (d + 1) n = true)
    (hs : Calls P f (first ++ vs).toArray w (RetS w0 G L Φ))
    (k : ∀ v w' a', Mem w0 G L w' → Φ v → Fits n a' ((d, v) :: e) → rl P ops Q r a' w') :
    rl P ops Q (⟨some d, .call ⟨.value cal, args.toArray, ats⟩, t, p, af, none⟩ :: r) a w := by
  refine ⟨fun _ => ?_, fun h => by simp [Region.wanted] at h⟩
  unfold Oper.wp
  have hr : (execOp a.eval ⟨some d, .call ⟨.value cal, args.toArray, ats⟩, t, p, af, none⟩).run P w = .ok (.enter f (first ++ vs).toArray) w := by
    have h1 := F.ev hc
    have h2 := F.evs hv
    simp only [execOp, resolve, h1, Deferred.ofValue, Sem.run_bind, Sem.run_pure, Result.andThen_ok, invoke]
    rw [show (first.toArray ++ Array.map a.eval args.toArray ++ #[]) = (first ++ vs).toArray by simp [← h2]]
    exact run_enter hE
  rw [hr]
  refine Calls.mono hs fun x w' hx => ?_
  cases x with
  | returned v => obtain ⟨h1, h2⟩ := hx; exact k v w' _ h1 h2 (F.put hd)
  | panicked c => exact hx.elim
  | outgrown => exact hx.elim

variable {ρ : Operand → Value} {dd : Option Tmp} {g : Option (Nat × Bool)}
theorem run_makeFunc1 {fn : Fn} {x : Operand} {v : Value} (hv : ρ x = v) : (execOp ρ ⟨dd, .makeFunc fn #[x] #[], t, p, af, g⟩).run P w = .ok (.value (.func fn #[v] #[])) w := by
  simp [execOp, Instr.makeFunc, hv]

theorem run_part1 {t1 : TypeId} {cs : Array Value} {o : Nat} {v : Value} (h : (tk P t1).agg = some false) (hv : cs[o]? = some v) : (part t1 cs o).run P w = .ok v w := by
  simp [part, run_isAgg_f h, hv]

theorem run_equal2 {ty t1 t2 : TypeId} {k1 k2 : IntKind} {a1 a2 b1 b2 : Int} (hst : P.stoodInHeld ty = false) (hty : P.underlying ty = some (.struct (P.fieldsOf ty)))
    (hf : (P.fieldsOf ty).toList.map (fun f => (f.name == "_", f.type, f.offset)) = [(false, t1, 0), (false, t2, 1)]) (h1 : tk P t1 = .int k1) (h2 : tk P t2 = .int k2) :
    (Op.equalIn 10000 ty (.agg #[.int k1 a1, .int k2 a2]) (.agg #[.int k1 b1, .int k2 b2])).run P w = .ok (decide (a1 = b1 ∧ a2 = b2)) w := by
  rw [run_equalIn_struct w 9999 ty _ _ hty hst]
  generalize hfs : (P.fieldsOf ty).toList = fs at hf
  obtain ⟨f, f', rfl⟩ : ∃ f f', fs = [f, f'] := by
    have hl := congrArg List.length hf
    simp only [List.length_map, List.length_cons, List.length_nil] at hl
    match fs, hl with
    | [f, f'], _ => exact ⟨f, f', rfl⟩
  simp only [List.map_cons, List.map_nil, List.cons.injEq, Prod.mk.injEq, and_true] at hf
  obtain ⟨⟨hn, rfl, ho⟩, hn', rfl, ho'⟩ := hf
  have e1 : f.name ≠ "_" := by simpa using hn
  have e2 : f'.name ≠ "_" := by simpa using hn'
  have p1 : ∀ (w : World) (x y : Int), (part f.type #[.int k1 x, .int k2 y] f.offset).run P w = .ok (.int k1 x) w := fun w x y => run_part1 (by rw [h1]; rfl) (by rw [ho]; rfl)
  have p2 : ∀ (w : World) (x y : Int), (part f'.type #[.int k1 x, .int k2 y] f'.offset).run P w = .ok (.int k2 y) w := fun w x y => run_part1 (by rw [h2]; rfl) (by rw [ho']; rfl)
  have q1 : (Op.equalIn 9999 f.type (.int k1 a1) (.int k1 b1)).run P w = .ok (a1 == b1) w := run_equalIn_int (P := P) w 9998 f.type k1 k1 a1 b1 (under_int h1)
  have q2 : (Op.equalIn 9999 f'.type (.int k2 a2) (.int k2 b2)).run P w = .ok (a2 == b2) w := run_equalIn_int (P := P) w 9998 f'.type k2 k2 a2 b2 (under_int h2)
  by_cases c1 : a1 = b1
  · have d1 : (a1 == b1) = true := by simpa using c1
    by_cases c2 : a2 = b2
    · have d2 : (a2 == b2) = true := by simpa using c2
      rw [decide_eq_true ⟨c1, c2⟩]
      simp only [Op.eqFields, ne_eq, e1, e2, not_false_eq_true, if_true, Sem.run_bind, p1, p2, Result.andThen_ok, q1, q2, d1, d2, Bool.not_true, Bool.false_eq_true, if_false, Sem.run_pure]
    · have d2 : (a2 == b2) = false := by simpa using c2
      rw [decide_eq_false (fun h => c2 h.2)]
      simp only [Op.eqFields, ne_eq, e1, e2, not_false_eq_true, if_true, Sem.run_bind, p1, p2, Result.andThen_ok, q1, q2, d1, d2, Bool.not_true, Bool.not_false, Bool.false_eq_true, if_false, Sem.run_pure]
  · have d1 : (a1 == b1) = false := by simpa using c1
    rw [decide_eq_false (fun h => c1 h.1)]
    simp only [Op.eqFields, ne_eq, e1, not_false_eq_true, if_true, Sem.run_bind, p1, Result.andThen_ok, q1, d1, Bool.not_false, Sem.run_pure]

theorem run_ne2 {ty yt t1 t2 : TypeId} {x y : Operand} {k1 k2 : IntKind} {a1 a2 b1 b2 : Int} (hg : P.eqGuardType P.depth ty = false) (hst : P.stoodInHeld ty = false) (hty : P.underlying ty = some (.struct (P.fieldsOf ty)))
    (hf : (P.fieldsOf ty).toList.map (fun f => (f.name == "_", f.type, f.offset)) = [(false, t1, 0), (false, t2, 1)]) (h1 : tk P t1 = .int k1) (h2 : tk P t2 = .int k2)
    (hx : ρ x = .agg #[.int k1 a1, .int k2 a2]) (hy : ρ y = .agg #[.int k1 b1, .int k2 b2]) :
    (execOp ρ ⟨dd, .binOp .neq ty x y yt, t, p, af, g⟩).run P w = .ok (.value (.bool (!decide (a1 = b1 ∧ a2 = b2)))) w := by
  have h0 := run_eqGuard_agg (P := P) w .neq ty x y #[.int k1 a1, .int k2 a2] #[.int k1 b1, .int k2 b2] hg
  have h3 := run_neq_struct (P := P) w ty #[.int k1 a1, .int k2 a2] #[.int k1 b1, .int k2 b2]
  rw [run_equal2 hst hty hf h1 h2] at h3
  simp only [execOp, hx, hy, Sem.run_bind, h0, Result.andThen_ok, h3, Sem.run_pure]
theorem run_eq2 {ty yt t1 t2 : TypeId} {x y : Operand} {k1 k2 : IntKind} {a1 a2 b1 b2 : Int} (hg : P.eqGuardType P.depth ty = false) (hst : P.stoodInHeld ty = false) (hty : P.underlying ty = some (.struct (P.fieldsOf ty)))
    (hf : (P.fieldsOf ty).toList.map (fun f => (f.name == "_", f.type, f.offset)) = [(false, t1, 0), (false, t2, 1)]) (h1 : tk P t1 = .int k1) (h2 : tk P t2 = .int k2)
    (hx : ρ x = .agg #[.int k1 a1, .int k2 a2]) (hy : ρ y = .agg #[.int k1 b1, .int k2 b2]) :
    (execOp ρ ⟨dd, .binOp .eql ty x y yt, t, p, af, g⟩).run P w = .ok (.value (.bool (decide (a1 = b1 ∧ a2 = b2)))) w := by
  have h0 := run_eqGuard_agg (P := P) w .eql ty x y #[.int k1 a1, .int k2 a2] #[.int k1 b1, .int k2 b2] hg
  have h3 := run_eql_struct (P := P) w ty #[.int k1 a1, .int k2 a2] #[.int k1 b1, .int k2 b2]
  rw [run_equal2 hst hty hf h1 h2] at h3
  simp only [execOp, hx, hy, Sem.run_bind, h0, Result.andThen_ok, h3, Sem.run_pure]

/-- l[:h:m] -/
theorem run_slice3 {s et : TypeId} {i : TI} {x y z : Operand} {ad : Option Addr} {m c h q : Nat} {kh kq : IntKind} {zh zq : Int} (hs : tk P s = .slice et) (ht : TOK P et i) (hx : ρ x = .slice ad m c)
    (hy : ρ y = .int kh zh) (hzh : zh = (h : Int)) (hz : ρ z = .int kq zq) (hzq : zq = (q : Int)) (h1 : h ≤ q) (h2 : q ≤ c) :
    (execOp ρ ⟨dd, .slice s x none (some y) (some z), t, p, af, g⟩).run P w = .ok (.value (.slice ad h q)) w := by
  subst hzh hzq
  have c1 : (h : Int) ≤ (q : Int) := by omega
  have c2 : (q : Int) ≤ (c : Int) := by omega
  have e : (if q = 0 then ad else ad.map (·.add (0 * i.size))) = ad := by
    split
    · rfl
    · cases ad with
      | none => rfl
      | some z => simp [Addr.add]
  have hs' := run_under (w := w) (under_slice hs)
  simp only [execOp, Instr.sliceAt, Sem.run_bind, hs', Result.andThen_ok, Instr.slice, hx]
  simp [Instr.sliceBounds, Instr.sliceBound, hy, hz, asIntOf, h1, h2, ht.sizeOf, hs']
  rw [show (fun x : Addr => x.add 0) = (fun x => x) from by funext x; simp [Addr.add]] 
  cases ad <;> simp

/-- A scope that nothing jumps about in. -/
theorem w_scope0 {c : Code} {l : Nat} {a : Act} {w : World} (h : c.wp P (Exit.jump l (fun _ _ => False) Q) a w) : (Code.scope c).wp P Q a w := by
  intro b k cs
  obtain ⟨e, a₁, w₁, hq, harr⟩ := h b (.inScope c :: k) cs
  cases e with
  | normal => exact ⟨.normal, a₁, w₁, hq, .head step_scope (Steps.trans harr (.one step_inScope))⟩
  | exit id => exact ⟨.exit id, a₁, w₁, hq, fun k' hk => .head step_scope (harr k' (by simp [exitTo, hk]))⟩
  | goto l' => exact hq.2.elim
  | ret => exact ⟨_, a₁, w₁, hq, .of_steps (.one step_scope) harr⟩
  | panic ch => exact ⟨_, a₁, w₁, hq, .of_steps (.one step_scope) harr⟩
  | outgrown => exact ⟨_, a₁, w₁, hq, .of_steps (.one step_scope) harr⟩
/-- An element of an array behind a pointer. -/
theorem run_idxPtr {ta et : TypeId} {i : TI} {x y : Operand} {m b o : Nat} {k : IntKind} {z : Int} {j : Nat} (ha : tk P ta = .array m et) (ht : TOK P et i) (h1 : i.size = 1) (hx : ρ x = .pointer (some ⟨b, o, none⟩)) (hy : ρ y = .int k z) (hz : z = (j : Int)) (hj : j < m) :
    (execOp ρ ⟨dd, .indexAddr ta x y, t, p, af, g⟩).run P w = .ok (.value (.pointer (some ⟨b, o + j, none⟩))) w := by
  subst hz
  have c1 : (0 : Int) ≤ (j : Int) := by omega
  have c2 : (j : Int) < (m : Int) := by omega
  simp [execOp, Instr.indexAt, hx, hy, asIntOf, run_under (under_array ha), hj, ht.sizeOf, h1, add_plain, Instr.sureAddr]
theorem run_buildA {s et : TypeId} {i j : TI} {m : Nat} {parts : List (Nat × Operand)} {ps : List (Nat × Value)} {cs : List Value} {a : Act} {n : Nat} {e : Env} (F : Fits n a e) (hs : tk P s = .array m et) (ht : TOK P s i) (hte : TOK P et j) (hp : evp e parts = some ps)
    (hf : Instr.fill (fun k => some (k * j.size, j.size)) i.zero.cells ps = some cs.toArray) :
    (execOp a.eval ⟨dd, .build s parts.toArray, t, p, af, g⟩).run P w = .ok (.value (.agg cs.toArray)) w := by
  have hp' := F.evp hp
  simp only [List.map_toArray] at hp'
  simp only [execOp, Instr.build, Sem.run_bind, ht.zeroValue, Result.andThen_ok, run_under (under_array hs), hte.sizeOf]
  rw [show (parts.toArray.map fun (x : Nat × Operand) => (x.1, a.eval x.2)).toList = ps from by simpa using hp', hf]
  simp
theorem RdSl.bound {α : Type} {rd : Rd α} {sz : Nat} {ad : Option Addr} {n c : Nat} {xs : List α} (S : RdSl rd sz G (.slice ad n c) xs) : n ≤ c ∧ c ≤ 9223372036854775807 := by
  obtain ⟨a', c', h1, h2, h3, h4⟩ := S
  simp only [Value.slice.injEq] at h1
  obtain ⟨rfl, rfl, rfl⟩ := h1
  exact ⟨h2, h3⟩
theorem RdSl.nilz {α : Type} {rd : Rd α} {sz : Nat} {ad : Option Addr} {n c : Nat} {xs : List α} (S : RdSl rd sz G (.slice ad n c) xs) (h : ad.isNone = true) : xs = [] := by
  obtain ⟨a', c', h1, h2, h3, h4⟩ := S
  simp only [Value.slice.injEq] at h1
  obtain ⟨rfl, rfl, rfl⟩ := h1
  rcases h4 with ⟨_, h5⟩ | ⟨b, o, h5, _⟩
  · exact h5
  · rw [h5] at h; cases h
theorem Mem.row_bound (M : Mem w0 G L w) {k n c : Nat} {ad : Option Addr} {cs : List Value} {t : TypeId} {sz : Nat} (hk : L[k]? = some (.row (.slice ad n c) n cs t sz)) : n ≤ c ∧ c ≤ 9223372036854775807 := by
  obtain ⟨a', c', h1, h2, h3, _⟩ := M.row_shape hk
  simp only [Value.slice.injEq] at h1
  obtain ⟨_, _, rfl⟩ := h1
  exact ⟨h2, h3⟩
theorem RdSl.clip {α : Type} {rd : Rd α} {sz : Nat} {ad : Option Addr} {n c : Nat} {xs : List α} (S : RdSl rd sz G (.slice ad n c) xs) : RdSl rd sz G (.slice ad n n) xs := by
  obtain ⟨a', c', h1, h2, h3, h4⟩ := S
  simp only [Value.slice.injEq] at h1
  obtain ⟨rfl, rfl, rfl⟩ := h1
  refine ⟨_, _, rfl, Nat.le_refl _, by omega, ?_⟩
  rcases h4 with ⟨rfl, rfl⟩ | ⟨b, o, h5, h6⟩
  · exact Or.inl ⟨rfl, rfl⟩
  · exact Or.inr ⟨b, o, h5, h6⟩

/-- An element of an array that is a value. -/
theorem run_idxArr {ta et : TypeId} {i : TI} {x y : Operand} {m : Nat} {cs : Array Value} {k : IntKind} {z : Int} {j : Nat} {v : Value} (ha : tk P ta = .array m et) (ht : TOK P et i) (h1 : i.size = 1) (hag : i.k.agg = some false)
    (hx : ρ x = .agg cs) (hy : ρ y = .int k z) (hz : z = (j : Int)) (hj : j < m) (hv : cs[j]? = some v) :
    (execOp ρ ⟨dd, .index ta x y, t, p, af, g⟩).run P w = .ok (.value v) w := by
  subst hz
  have c1 : (0 : Int) ≤ (j : Int) := by omega
  have c2 : (j : Int) < (m : Int) := by omega
  simp [execOp, Instr.index, hx, hy, asIntOf, run_under (under_array ha), hj, ht.sizeOf, h1, run_part1 (w := w) (by rw [ht.k]; exact hag) hv]
/-- The results: a cell that is a struct, and a slot. -/
theorem fin_ct {fn : Func} {n : Nat} {a : Act} {e : Env} (F : Fits n a e) {t u ty k b : Nat} {i : TI} {cs : List Value} {x : Value} {R : Ending → World → Prop} (M : Mem w0 G L w) (hk : L[k]? = some (.blk b cs ty)) (hf : fn.results = #[.cell t ty, .tmp u])
    (hty : TOK P ty i) (hag : i.k.agg = some true) (hl : cs.length = i.size) (hv : look e t = some (.pointer (some ⟨b, 0, none⟩))) (hx : look e u = some x) (h : R (.returned (.tuple #[.agg cs.toArray, x])) w) : bodyPost P fn R .ret a w := by
  refine fin_of F (v := .tuple #[.agg cs.toArray, x]) ?_ h
  have h1 : (loadVar ty ⟨b, 0, none⟩).run P w = .ok (.agg cs.toArray) w := run_loadVarA hty hag hl (M.cellsL hk (by rw [List.drop_zero, ← hl, List.take_length]))
  simp [results, hf, F.slot _ _ hv, F.slot _ _ hx, asAddr, h1]
/-- A guard that was itself passed by. -/
theorem rl_guard_u {ops : Array Oper} {Q : Exit → Act → World → Prop} {n : Nat} {a : Act} {e : Env} {d : Nat} {r : List Oper} {op : Op} {j q : Nat} {want : Bool} (F : Fits n a e) (hj : (ops[j]?).bind (·.dst) = some q) (hb : look e q = some undef) (hd : Nat.ble (d + 1) n = true)
    (k : ∀ a', Fits n a' ((d, undef) :: e) → rl P ops Q r a' w) : rl P ops Q (⟨some d, op, t, p, af, some (j, want)⟩ :: r) a w := by
  have hy : yielded ops a.tmps j = none := by
    simp [yielded, hj, F.slot _ _ hb, undef]
  refine ⟨fun h => ?_, fun h => k _ (F.put hd)⟩
  simp [Region.wanted, hy] at h
end
end Go.Y
