/- The proof core: rules over the kit's weakest preconditions: known slots as a list, memory as persistent blocks and owned resources. -/
import Derived.WalkKit
import Derived.ScopeJumps
import Derived.IntWalk
import Derived.KernelRfl
namespace Go.Y
open Go

/-! ### Slots -/
abbrev Env := List (Nat × Value)

def look : Env → Nat → Option Value
  | [], _ => none
  | (i, v) :: e, j => match Nat.beq i j with
    | true => some v
    | false => look e j

structure Fits (n : Nat) (a : Act) (e : Env) : Prop where
  size : a.tmps.size = n
  defers : a.defers = []
  slot : ∀ i v, look e i = some v → a.tmps[i]? = some v

def ev (e : Env) : Operand → Option Value
  | .tmp i => look e i
  | .const v => some v
  | .global g => some (.pointer (some ⟨g, 0, none⟩))
  | .func f => some (.func (.func f) #[] #[])

section
variable {n : Nat} {a : Act} {e : Env}

theorem Fits.ev (F : Fits n a e) {x : Operand} {v : Value} (h : ev e x = some v) : a.eval x = v := by
  cases x with
  | tmp i =>
    have := F.slot i v h
    simp [Act.eval, Array.getD_eq_getD_getElem?, this]
  | const c => simpa [Y.ev, Act.eval] using h
  | global g => simpa [Y.ev, Act.eval] using h
  | func f => simpa [Y.ev, Act.eval] using h

theorem look_cons_ne {i j : Nat} {v : Value} (h : i ≠ j) : look ((i, v) :: e) j = look e j := by
  have : Nat.beq i j = false := by
    cases hb : Nat.beq i j with
    | false => rfl
    | true => exact absurd (Nat.eq_of_beq_eq_true hb) h
  simp [look, this]
theorem look_cons_eq {i : Nat} {v : Value} : look ((i, v) :: e) i = some v := by
  simp [look]

theorem Fits.put (F : Fits n a e) {d : Nat} {v : Value} (hd : Nat.ble (d + 1) n = true) : Fits n (a.put (some d) v) ((d, v) :: e) := by
  have hd' : d < n := Nat.le_of_ble_eq_true hd
  refine ⟨by simp [Act.put, F.size], F.defers, ?_⟩
  intro i u hi
  by_cases h : d = i
  · subst h
    rw [look_cons_eq] at hi
    simp only [Option.some.injEq] at hi
    subst hi
    simp [Act.put, F.size, hd']
  · rw [look_cons_ne h] at hi
    simp only [Act.put]
    rw [Array.getElem?_setIfInBounds_ne h]
    exact F.slot i u hi

theorem Fits.sub (F : Fits n a e) {e' : Env} (h : ∀ i v, look e' i = some v → look e i = some v) : Fits n a e' :=
  ⟨F.size, F.defers, fun i v hi => F.slot i v (h i v hi)⟩

/-- Every entry of the second list is found in the first. -/
def Sub (e : Env) : Env → Prop
  | [] => True
  | (i, v) :: r => look e i = some v ∧ Sub e r

theorem Sub.look {e' : Env} (h : Sub e e') : ∀ i v, look e' i = some v → look e i = some v := by
  induction e' with
  | nil => intro i v h; simp [Y.look] at h
  | cons p r ih =>
    obtain ⟨j, u⟩ := p
    intro i v hi
    by_cases hji : j = i
    · subst hji
      rw [look_cons_eq] at hi
      simp only [Option.some.injEq] at hi
      subst hi
      exact h.1
    · rw [look_cons_ne hji] at hi
      exact ih h.2 i v hi

theorem Fits.to (F : Fits n a e) {e' : Env} (h : Sub e e') : Fits n a e' := F.sub h.look
end

/-! ### A region, operation by operation -/
section
variable {P : Program} {ops : Array Oper} {Q : Exit → Act → World → Prop}

def rl (P : Program) (ops : Array Oper) (Q : Exit → Act → World → Prop) : List Oper → Act → World → Prop
  | [], a, w => Q .normal a w
  | o :: r, a, w =>
    (Region.wanted o (yielded ops a.tmps) = true → o.wp P a w (rl P ops Q r) Q) ∧
    (Region.wanted o (yielded ops a.tmps) = false → rl P ops Q r (a.put o.dst undef) w)

theorem wpOps_of_rl : ∀ (l : List Nat) (a : Act) (w : World), rl P ops Q (l.filterMap (ops[·]?)) a w → wpOps P ops Q l a w
  | [], a, w, h => h
  | i :: l, a, w, h => by
    cases ho : ops[i]? with
    | none =>
      simp only [wpOps, ho]
      simp only [List.filterMap_cons, ho] at h
      exact wpOps_of_rl l a w h
    | some o =>
      simp only [wpOps, ho]
      simp only [List.filterMap_cons, ho, rl] at h
      by_cases hw : Region.wanted o (yielded ops a.tmps) = true
      · simp only [hw, if_true]
        exact .inl (Oper.wp_mono (fun a w => wpOps_of_rl l a w) (h.1 hw))
      · simp only [hw]
        exact wpOps_of_rl l _ _ (h.2 (by simpa using hw))

theorem range_filterMap (ops : Array Oper) : (List.range ops.size).filterMap (ops[·]?) = ops.toList := by
  apply List.ext_getElem?
  intro i
  have h : ∀ m, m ≤ ops.size → (List.range m).filterMap (ops[·]?) = ops.toList.take m := by
    intro m
    induction m with
    | zero => intro _; simp
    | succ m ih =>
      intro hm
      rw [List.range_succ, List.filterMap_append, ih (by omega)]
      have : ops[m]? = some ops[m] := Array.getElem?_eq_getElem (by omega)
      simp only [List.filterMap_cons, this, List.filterMap_nil]
      rw [List.take_succ_eq_append_getElem (by simpa using (by omega : m < ops.size))]
      simp
  rw [h _ (Nat.le_refl _), List.take_of_length_le (by simp)]

theorem w_region {id : Nat} {a : Act} {w : World} (h : rl P ops Q ops.toList a w) : (Code.region id ops false).wp P Q a w :=
  wp_region (wpOps_of_rl _ a w (by rw [range_filterMap]; exact h))

/-- The same, its operations written out. -/
theorem w_reg {id : Nat} {l : List Oper} {a : Act} {w : World} (h : rl P l.toArray Q l a w) : (Code.region id l.toArray false).wp P Q a w :=
  w_region (by simpa using h)

theorem rl_nil {a : Act} {w : World} (h : Q .normal a w) : rl P ops Q [] a w := h

/-- One operation that yields a value and leaves a world. -/
theorem rl_run {n : Nat} {a : Act} {w : World} {e : Env} {d : Nat} {op : Op} {t : TypeId} {p : String} {af : Array Edge} {r : List Oper} {v : Value} {w' : World}
    (F : Fits n a e) (hr : (execOp a.eval ⟨some d, op, t, p, af, none⟩).run P w = .ok (.value v) w') (hd : Nat.ble (d + 1) n = true)
    (k : ∀ a', Fits n a' ((d, v) :: e) → rl P ops Q r a' w') : rl P ops Q (⟨some d, op, t, p, af, none⟩ :: r) a w := by
  refine ⟨fun _ => ?_, fun h => by simp [Region.wanted] at h⟩
  unfold Oper.wp
  rw [hr]
  exact k _ (F.put hd)

/-- One operation that yields nothing (a store). -/
theorem rl_skip {n : Nat} {a : Act} {w : World} {e : Env} {op : Op} {t : TypeId} {p : String} {af : Array Edge} {r : List Oper} {w' : World}
    (F : Fits n a e) (hr : (execOp a.eval ⟨none, op, t, p, af, none⟩).run P w = .ok .skip w')
    (k : ∀ a', Fits n a' e → rl P ops Q r a' w') : rl P ops Q (⟨none, op, t, p, af, none⟩ :: r) a w := by
  refine ⟨fun _ => ?_, fun h => by simp [Region.wanted] at h⟩
  unfold Oper.wp
  rw [hr]
  exact k _ F

/-- A guarded operation: carried out, or passed by. -/
theorem rl_guard {n : Nat} {a : Act} {w : World} {e : Env} {d : Nat} {op : Op} {t : TypeId} {p : String} {af : Array Edge} {r : List Oper} {j g : Nat} {want b : Bool}
    (F : Fits n a e) (hj : (ops[j]?).bind (·.dst) = some g) (hb : look e g = some (.bool b)) (hd : Nat.ble (d + 1) n = true)
    (yes : b = want → rl P ops Q (⟨some d, op, t, p, af, none⟩ :: r) a w)
    (no : b = !want → ∀ a', Fits n a' ((d, undef) :: e) → rl P ops Q r a' w) : rl P ops Q (⟨some d, op, t, p, af, some (j, want)⟩ :: r) a w := by
  have hy : yielded ops a.tmps j = some b := by
    simp [yielded, hj, F.slot _ _ hb]
  refine ⟨fun h => ?_, fun h => ?_⟩
  · have : b = want := by simpa [Region.wanted, hy] using h
    exact (yes this).1 rfl
  · have : b = !want := by
      have h' : ¬ b = want := by simpa [Region.wanted, hy] using h
      cases b <;> cases want <;> simp_all
    exact no this _ (F.put hd)

theorem rl_guardS {n : Nat} {a : Act} {w : World} {e : Env} {op : Op} {t : TypeId} {p : String} {af : Array Edge} {r : List Oper} {j g : Nat} {want b : Bool}
    (F : Fits n a e) (hj : (ops[j]?).bind (·.dst) = some g) (hb : look e g = some (.bool b))
    (yes : b = want → rl P ops Q (⟨none, op, t, p, af, none⟩ :: r) a w)
    (no : b = !want → rl P ops Q r a w) : rl P ops Q (⟨none, op, t, p, af, some (j, want)⟩ :: r) a w := by
  have hy : yielded ops a.tmps j = some b := by
    simp [yielded, hj, F.slot _ _ hb]
  refine ⟨fun h => ?_, fun h => ?_⟩
  · have : b = want := by simpa [Region.wanted, hy] using h
    exact (yes this).1 rfl
  · have : b = !want := by
      have h' : ¬ b = want := by simpa [Region.wanted, hy] using h
      cases b <;> cases want <;> simp_all
    exact no this

theorem rl_mono {Q' : Exit → Act → World → Prop} (hq : ∀ e a w, Q e a w → Q' e a w) : ∀ (r : List Oper) (a : Act) (w : World), rl P ops Q r a w → rl P ops Q' r a w
  | [], a, w, h => hq _ _ _ h
  | o :: r, a, w, h => by
    refine ⟨fun hw => ?_, fun hw => rl_mono hq r _ _ (h.2 hw)⟩
    have h1 := h.1 hw
    unfold Oper.wp at *
    generalize (execOp a.eval o).run P w = x at *
    cases x with
    | ok n w' =>
      cases n <;> simp only [Oper.upon] at h1 ⊢
      case value u => exact rl_mono hq r _ _ h1
      case skip => exact rl_mono hq r _ _ h1
      case defer d => exact rl_mono hq r _ _ h1
      case enter f args =>
        refine Calls.mono h1 fun e w'' he => ?_
        cases e with
        | returned u => exact rl_mono hq r _ _ he
        | panicked c => exact hq _ _ _ he
        | outgrown => obtain ⟨a0, w0, h0⟩ := he; exact ⟨a0, w0, hq _ _ _ h0⟩
      case row row args => exact Rows.mono h1 fun u w'' he => rl_mono hq r _ _ he
    | halt x w' => cases x <;> simp only [Oper.upon] at h1 ⊢ <;> exact hq _ _ _ h1

/-- What a region comes to, said once: all ways through it meet here. -/
theorem rl_cut {r : List Oper} {a : Act} {w : World} (R : Act → World → Prop) (h : rl P ops (fun e a w => match e with | .normal => R a w | e => Q e a w) r a w)
    (k : ∀ a w, R a w → Q .normal a w) : rl P ops Q r a w :=
  rl_mono (fun e a w h => by cases e <;> first | exact k _ _ h | exact h) r a w h
end

/-! ### Control -/
section
variable {P : Program} {Q : Exit → Act → World → Prop} {n : Nat} {a : Act} {w : World} {e : Env}

theorem w_cond {c : Operand} {x y : Code} {t : Bool} (F : Fits n a e) (hc : ev e c = some (.bool t)) (ht : t = true → x.wp P Q a w)
    (hf : t = false → y.wp P Q a w) : (Code.cond c x y).wp P Q a w := wp_cond_split (F.ev hc) ht hf

theorem w_cond_t {c : Operand} {x y : Code} {t : Bool} (F : Fits n a e) (hc : ev e c = some (.bool t)) (ht : t = true) (k : x.wp P Q a w) : (Code.cond c x y).wp P Q a w :=
  wp_cond_split (F.ev hc) (fun _ => k) (fun h => by rw [ht] at h; cases h)
theorem w_cond_f {c : Operand} {x y : Code} {t : Bool} (F : Fits n a e) (hc : ev e c = some (.bool t)) (ht : t = false) (k : y.wp P Q a w) : (Code.cond c x y).wp P Q a w :=
  wp_cond_split (F.ev hc) (fun h => by rw [ht] at h; cases h) (fun _ => k)

/-- What a piece of code comes to, said once. -/
theorem w_cut {c : Code} (R : Act → World → Prop) (h : c.wp P (fun e a w => match e with | .normal => R a w | e => Q e a w) a w)
    (k : ∀ a w, R a w → Q .normal a w) : c.wp P Q a w :=
  wp_mono h fun e a w h => by cases e <;> first | exact k _ _ h | exact h

theorem w_loop {σ : Type} {c : Code} (I : σ → Act → World → Prop) (rk : σ → Nat) (s0 : σ) (h0 : I s0 a w)
    (round : ∀ s a w, I s a w → c.wp P (Exit.then (fun a' w' => ∃ s', rk s' < rk s ∧ I s' a' w') Q) a w) : (Code.loop c).wp P Q a w := by
  intro b k cs
  have key : ∀ n s a w, rk s = n → I s a w →
      ∃ e a' w', Q e a' w' ∧ Arrives P (lone (b.at a (.code c :: .inLoop c :: k)) cs w) b k cs e a' w' := by
    intro n
    induction n using Nat.strongRecOn with
    | _ n ih =>
      intro s a w hn hI
      obtain ⟨e, a₁, w₁, hq, harr⟩ := round s a w hI b (.inLoop c :: k) cs
      cases e with
      | normal =>
        obtain ⟨s', hlt, hI₁⟩ := hq
        obtain ⟨e₂, a₂, w₂, hq₂, harr₂⟩ := ih (rk s') (hn ▸ hlt) s' a₁ w₁ rfl hI₁
        exact ⟨e₂, a₂, w₂, hq₂, .of_steps (Steps.trans harr (.one step_inLoop)) harr₂⟩
      | exit id => exact ⟨_, a₁, w₁, hq, .pass (x := .inLoop c) rfl (fun _ _ => .inl (by simp)) harr⟩
      | goto l => exact ⟨_, a₁, w₁, hq, .pass (x := .inLoop c) rfl (fun _ _ => .inl (by simp)) harr⟩
      | ret => exact ⟨_, a₁, w₁, hq, .pass (x := .inLoop c) rfl (fun _ _ => .inl (by simp)) harr⟩
      | panic ch => exact ⟨_, a₁, w₁, hq, .pass (x := .inLoop c) rfl (fun _ _ => .inl (by simp)) harr⟩
      | outgrown => exact ⟨_, a₁, w₁, hq, .pass (x := .inLoop c) rfl (fun _ _ => .inl (by simp)) harr⟩
  obtain ⟨e, a', w', hq, harr⟩ := key _ s0 a w rfl h0
  exact ⟨e, a', w', hq, .of_steps (.one step_loop) harr⟩

theorem w_scope_jumps {σ : Type} {c rest : Code} (l : Nat) (J : σ → Act → World → Prop) (rk : σ → Nat) (hf : findLabel c l = some rest)
    (first : c.wp P (Exit.jump l (fun a w => ∃ s, J s a w) Q) a w)
    (pass : ∀ s a w, J s a w → rest.wp P (Exit.jump l (fun a' w' => ∃ s', rk s' < rk s ∧ J s' a' w') Q) a w) : (Code.scope c).wp P Q a w := by
  intro b k cs
  have hg : gotoIn l (.inScope c :: k) = some (.code rest :: .inScope c :: k) := by simp [gotoIn, hf]
  have key : ∀ n s a w, rk s = n → J s a w → ∃ e a' w', Q e a' w' ∧ Arrives P (lone (b.at a (.code rest :: .inScope c :: k)) cs w) b k cs e a' w' := by
    intro n
    induction n using Nat.strongRecOn with
    | _ n ih =>
      intro s a w hn hJ
      obtain ⟨e, a₁, w₁, hq, harr⟩ := pass s a w hJ b (.inScope c :: k) cs
      cases e with
      | normal => exact ⟨.normal, a₁, w₁, hq, Steps.trans harr (.one step_inScope)⟩
      | exit id => exact ⟨.exit id, a₁, w₁, hq, fun k' hk => harr k' (by simp [exitTo, hk])⟩
      | goto l' =>
        obtain ⟨rfl, s', hlt, hJ'⟩ := hq
        obtain ⟨e₂, a₂, w₂, hq₂, harr₂⟩ := ih _ (hn ▸ hlt) s' a₁ w₁ rfl hJ'
        exact ⟨e₂, a₂, w₂, hq₂, .of_steps (harr _ hg) harr₂⟩
      | ret => exact ⟨_, a₁, w₁, hq, harr⟩
      | panic ch => exact ⟨_, a₁, w₁, hq, harr⟩
      | outgrown => exact ⟨_, a₁, w₁, hq, harr⟩
  obtain ⟨e, a₁, w₁, hq, harr⟩ := first b (.inScope c :: k) cs
  cases e with
  | normal => exact ⟨.normal, a₁, w₁, hq, .head step_scope (Steps.trans harr (.one step_inScope))⟩
  | exit id => exact ⟨.exit id, a₁, w₁, hq, fun k' hk => .head step_scope (harr k' (by simp [exitTo, hk]))⟩
  | goto l' =>
    obtain ⟨rfl, s, hJ'⟩ := hq
    obtain ⟨e₂, a₂, w₂, hq₂, harr₂⟩ := key _ s a₁ w₁ rfl hJ'
    exact ⟨e₂, a₂, w₂, hq₂, .of_steps (.head step_scope (harr _ hg)) harr₂⟩
  | ret => exact ⟨_, a₁, w₁, hq, .of_steps (.one step_scope) harr⟩
  | panic ch => exact ⟨_, a₁, w₁, hq, .of_steps (.one step_scope) harr⟩
  | outgrown => exact ⟨_, a₁, w₁, hq, .of_steps (.one step_scope) harr⟩

theorem q_block_hit {id : Nat} (h : Q .normal a w) : Exit.inBlock id Q (.exit id) a w := by simpa [Exit.inBlock] using h
theorem q_block_miss {id j : Nat} (hj : j ≠ id) (h : Q (.exit j) a w) : Exit.inBlock id Q (.exit j) a w := by simpa [Exit.inBlock, hj] using h
end

/-! ### Entering and leaving a function -/
section
variable {P : Program} {R : Ending → World → Prop} {w : World}

def envOf : Nat → List Value → Env
  | _, [] => []
  | i, v :: vs => (i, v) :: envOf (i + 1) vs

theorem look_envOf : ∀ (vs : List Value) (k i : Nat) (v : Value), look (envOf k vs) i = some v → k ≤ i ∧ vs[i - k]? = some v
  | [], k, i, v, h => by simp [envOf, look] at h
  | u :: vs, k, i, v, h => by
    by_cases hk : k = i
    · subst hk
      simp only [envOf] at h
      rw [look_cons_eq] at h
      simpa using h
    · simp only [envOf] at h
      rw [look_cons_ne hk] at h
      obtain ⟨h1, h2⟩ := look_envOf vs (k + 1) i v h
      refine ⟨by omega, ?_⟩
      rw [show i - k = (i - (k + 1)) + 1 by omega]
      simpa using h2

theorem calls_start {f : FuncId} {fn : Func} {c : Code} {vs : List Value} (hf : P.funcs[f]? = some fn) (hb : fn.body = some c) {n : Nat} (hn : fn.ntmps = n) (hs : Nat.ble vs.length n = true)
    (h : ∀ a, Fits n a (envOf 0 vs) → c.wp P (bodyPost P fn R) a w) : Calls P f vs.toArray w R := by
  have hs' := Nat.le_of_ble_eq_true hs
  refine calls_of_wp hf hb (h _ ⟨by simp [hn]; omega, rfl, ?_⟩)
  intro i v hi
  obtain ⟨_, h2⟩ := look_envOf vs 0 i v hi
  have hlt : i < vs.length := by
    rcases Nat.lt_or_ge i vs.length with h' | h'
    · exact h'
    · simp [List.getElem?_eq_none h'] at h2
  simp only [Nat.sub_zero] at h2
  rw [Array.getElem?_append_left (by simpa using hlt)]
  simpa using h2

theorem fin_of {fn : Func} {n : Nat} {a : Act} {e : Env} (F : Fits n a e) {v : Value} (hr : (results fn a.tmps).run P w = .ok v w) (h : R (.returned v) w) : bodyPost P fn R .ret a w :=
  ⟨F.defers, v, hr, h⟩

theorem fin0 {fn : Func} {n : Nat} {a : Act} {e : Env} (F : Fits n a e) (hf : fn.results = #[]) (h : R (.returned (.tuple #[])) w) : bodyPost P fn R .ret a w :=
  fin_of F (v := .tuple #[]) (results_none hf _ _ _) h
theorem fin0n {fn : Func} {n : Nat} {a : Act} {e : Env} (F : Fits n a e) (hf : fn.results = #[]) (h : R (.returned (.tuple #[])) w) : bodyPost P fn R .normal a w := fin0 F hf h

theorem getD_of {a : Act} {n : Nat} {e : Env} (F : Fits n a e) {t : Nat} {v : Value} (h : look e t = some v) : a.tmps.getD t undef = v := by
  simp [Array.getD_eq_getD_getElem?, F.slot _ _ h]

theorem fin1 {fn : Func} {n : Nat} {a : Act} {e : Env} (F : Fits n a e) {t : Nat} {v : Value} (hf : fn.results = #[.tmp t]) (hv : look e t = some v) (h : R (.returned v) w) : bodyPost P fn R .ret a w :=
  fin_of F (v := v) (by rw [results_tmp hf, getD_of F hv]) h

theorem fin2 {fn : Func} {n : Nat} {a : Act} {e : Env} (F : Fits n a e) {t u : Nat} {v x : Value} (hf : fn.results = #[.tmp t, .tmp u]) (hv : look e t = some v) (hx : look e u = some x) (h : R (.returned (.tuple #[v, x])) w) : bodyPost P fn R .ret a w :=
  fin_of F (v := .tuple #[v, x]) (by rw [results_tmp2 hf, getD_of F hv, getD_of F hx]) h

theorem fin3 {fn : Func} {n : Nat} {a : Act} {e : Env} (F : Fits n a e) {t u s : Nat} {v x y : Value} (hf : fn.results = #[.tmp t, .tmp u, .tmp s]) (hv : look e t = some v) (hx : look e u = some x) (hy : look e s = some y) (h : R (.returned (.tuple #[v, x, y])) w) : bodyPost P fn R .ret a w :=
  fin_of F (v := .tuple #[v, x, y]) (by rw [results_tmp3 hf, getD_of F hv, getD_of F hx, getD_of F hy]) h
end
end Go.Y
