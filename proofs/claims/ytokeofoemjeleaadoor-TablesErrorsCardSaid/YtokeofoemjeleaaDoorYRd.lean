/- The proof core, data: what a value reads as in persistent memory; calls by contract. -/
import Derived.Test.YtokeofoemjeleaaDoorYOps
namespace Go.Y
open Go

/-! ### Calls -/
structure Ent (P : Program) (f : FuncId) : Prop where
  is : ∃ fn, P.funcs[f]? = some fn ∧ (fn.name == "runtime.NumGoroutine") = false ∧ fn.body.isNone = false

theorem Ent.mk' {P : Program} {f : FuncId} {fn : Func} (h : P.funcs[f]? = some fn) (h1 : (fn.name == "runtime.NumGoroutine") = false) (h2 : fn.body.isNone = false) : Ent P f := ⟨fn, h, h1, h2⟩

def evs (e : Env) : List Operand → Option (List Value)
  | [] => some []
  | x :: xs => match ev e x with
    | some v => match evs e xs with
      | some vs => some (v :: vs)
      | none => none
    | none => none

def Ret (w0 : World) (G : Ghost) (L : List Res) (Φ : Ghost → Value → Prop) : Ending → World → Prop
  | .returned v, w' => ∃ G', Gle G G' ∧ Mem w0 G' L w' ∧ Φ G' v
  | _, _ => False
def RetM (w0 : World) (G : Ghost) (Φ : Ghost → List Res → Value → Prop) : Ending → World → Prop
  | .returned v, w' => ∃ G' L', Gle G G' ∧ Mem w0 G' L' w' ∧ Φ G' L' v
  | _, _ => False

section
variable {P : Program} {ops : Array Oper} {Q : Exit → Act → World → Prop} {n : Nat} {a : Act} {w w0 : World} {e : Env} {G : Ghost} {L : List Res}
  {d : Nat} {t : TypeId} {p : String} {af : Array Edge} {r : List Oper}

theorem Fits.evs (F : Fits n a e) : ∀ {xs : List Operand} {vs : List Value}, evs e xs = some vs → xs.map a.eval = vs
  | [], vs, h => by simp [Y.evs] at h; subst h; rfl
  | x :: xs, vs, h => by
    simp only [Y.evs] at h
    cases hx : Y.ev e x with
    | none => rw [hx] at h; simp at h
    | some v =>
      rw [hx] at h
      cases hxs : Y.evs e xs with
      | none => rw [hxs] at h; simp at h
      | some us =>
        rw [hxs] at h
        simp at h
        subst h
        simp [F.ev hx, F.evs hxs]

theorem run_enter {f : FuncId} {args : Array Value} (hE : Ent P f) : (callFunc f args).run P w = .ok (.enter f args) w := by
  obtain ⟨fn, h1, h2, h3⟩ := hE.is
  have h2' : ¬ fn.name = "runtime.NumGoroutine" := by simpa using h2
  have h3' : ¬ fn.body = none := by intro hh; rw [hh] at h3; simp at h3
  simp [callFunc, program, Sem.run, h1, h2', h3']

/-- A call of a function value. -/
theorem rl_callv {f : FuncId} {cal : Operand} {args : List Operand} {ats : Array TypeId} {vs caps : List Value} {R : Ending → World → Prop}
    (F : Fits n a e) (hE : Ent P f) (hc : ev e cal = some (.func (.func f) #[] caps.toArray)) (hv : evs e args = some vs) (hd : Nat.ble (d + 1) n = true)
    (hs : Calls P f (vs ++ caps).toArray w R)
    (k : ∀ x w', R x w' → ∃ v, x = .returned v ∧ ∀ a', Fits n a' ((d, v) :: e) → rl P ops Q r a' w') :
    rl P ops Q (⟨some d, .call ⟨.value cal, args.toArray, ats⟩, t, p, af, none⟩ :: r) a w := by
  refine ⟨fun _ => ?_, fun h => by simp [Region.wanted] at h⟩
  unfold Oper.wp
  have hr : (execOp a.eval ⟨some d, .call ⟨.value cal, args.toArray, ats⟩, t, p, af, none⟩).run P w = .ok (.enter f (vs ++ caps).toArray) w := by
    have h1 := F.ev hc
    have h2 := F.evs hv
    simp only [execOp, resolve, h1, Deferred.ofValue, Sem.run_bind, Sem.run_pure, Result.andThen_ok, invoke]
    rw [show (#[] ++ Array.map a.eval args.toArray ++ caps.toArray) = (vs ++ caps).toArray by simp [← h2]]
    exact run_enter hE
  rw [hr]
  refine Calls.mono hs fun x w' hx => ?_
  obtain ⟨v, rfl, hk⟩ := k x w' hx
  exact hk _ (F.put hd)

theorem rl_call {f : FuncId} {args : List Operand} {ats : Array TypeId} {vs : List Value} {Φ : Ghost → Value → Prop}
    (F : Fits n a e) (hE : Ent P f) (hv : evs e args = some vs) (hd : Nat.ble (d + 1) n = true)
    (hs : Calls P f vs.toArray w (Ret w0 G L Φ))
    (k : ∀ v G' w' a', Gle G G' → Mem w0 G' L w' → Φ G' v → Fits n a' ((d, v) :: e) → rl P ops Q r a' w') :
    rl P ops Q (⟨some d, .call ⟨.value (.func f), args.toArray, ats⟩, t, p, af, none⟩ :: r) a w := by
  refine rl_callv (caps := []) F hE rfl hv hd (by rw [List.append_nil]; exact hs) fun x w' hx => ?_
  cases x with
  | returned v => obtain ⟨G', h1, h2, h3⟩ := hx; exact ⟨v, rfl, fun a' F' => k v G' w' a' h1 h2 h3 F'⟩
  | panicked c => exact hx.elim
  | outgrown => exact hx.elim

theorem rl_callM {f : FuncId} {args : List Operand} {ats : Array TypeId} {vs : List Value} {Φ : Ghost → List Res → Value → Prop}
    (F : Fits n a e) (hE : Ent P f) (hv : evs e args = some vs) (hd : Nat.ble (d + 1) n = true)
    (hs : Calls P f vs.toArray w (RetM w0 G Φ))
    (k : ∀ v G' L' w' a', Gle G G' → Mem w0 G' L' w' → Φ G' L' v → Fits n a' ((d, v) :: e) → rl P ops Q r a' w') :
    rl P ops Q (⟨some d, .call ⟨.value (.func f), args.toArray, ats⟩, t, p, af, none⟩ :: r) a w := by
  refine rl_callv (caps := []) F hE rfl hv hd (by rw [List.append_nil]; exact hs) fun x w' hx => ?_
  cases x with
  | returned v => obtain ⟨G', L', h1, h2, h3⟩ := hx; exact ⟨v, rfl, fun a' F' => k v G' L' w' a' h1 h2 h3 F'⟩
  | panicked c => exact hx.elim
  | outgrown => exact hx.elim
end

/-! ### Reading -/
def At (G : Ghost) (b o : Nat) (cs : List Value) : Prop := ∀ (j : Nat) (v : Value), cs[j]? = some v → gcell G b (o + j) = some v
theorem At.mono {G G' : Ghost} (h : Gle G G') {b o : Nat} {cs : List Value} (hA : At G b o cs) : At G' b o cs := fun j v hj => gcell_mono h (hA j v hj)

abbrev Rd (α : Type) := Ghost → List Value → α → Prop
def Mono {α : Type} (rd : Rd α) : Prop := ∀ G G' cs x, Gle G G' → rd G cs x → rd G' cs x

/-- The slice value with this address, length and capacity reads as the list. -/
def RdSl {α : Type} (rd : Rd α) (sz : Nat) (G : Ghost) (v : Value) (xs : List α) : Prop :=
  ∃ a c, v = .slice a xs.length c ∧ xs.length ≤ c ∧ c ≤ 9223372036854775807 ∧ ((c = 0 ∧ xs = []) ∨
    ∃ b o, a = some ⟨b, o, none⟩ ∧ ∀ i x, xs[i]? = some x → ∃ cs, cs.length = sz ∧ (∀ u ∈ cs, u.oneCell' = true) ∧ At G b (o + i * sz) cs ∧ rd G cs x)

theorem RdSl.mono {α : Type} {rd : Rd α} {sz : Nat} {G G' : Ghost} {v : Value} {xs : List α} (hm : Mono rd) (h : Gle G G') (hS : RdSl rd sz G v xs) : RdSl rd sz G' v xs := by
  obtain ⟨a, c, h1, h2, h3, h4⟩ := hS
  refine ⟨a, c, h1, h2, h3, ?_⟩
  rcases h4 with h4 | ⟨b, o, h5, h6⟩
  · exact Or.inl h4
  · refine Or.inr ⟨b, o, h5, fun i x hx => ?_⟩
    obtain ⟨cs, h7, h10, h8, h9⟩ := h6 i x hx
    exact ⟨cs, h7, h10, h8.mono h, hm _ _ _ _ h h9⟩

theorem RdSl.nil {α : Type} {rd : Rd α} {sz : Nat} {G : Ghost} : RdSl rd sz G (.slice none 0 0) [] := ⟨none, 0, rfl, Nat.le_refl _, by omega, Or.inl ⟨rfl, rfl⟩⟩

theorem RdSl.shape {α : Type} {rd : Rd α} {sz : Nat} {G : Ghost} {v : Value} {xs : List α} (hS : RdSl rd sz G v xs) : ∃ a c, v = .slice a xs.length c ∧ xs.length ≤ c ∧ c ≤ 9223372036854775807 := by
  obtain ⟨a, c, h1, h2, h3, _⟩ := hS
  exact ⟨a, c, h1, h2, h3⟩

theorem RdSl.index {α : Type} {rd : Rd α} {sz : Nat} {G : Ghost} {a : Option Addr} {n c : Nat} {xs : List α} (hS : RdSl rd sz G (.slice a n c) xs) {i : Nat} {x : α} (hx : xs[i]? = some x) :
    ∃ b o cs, a = some ⟨b, o, none⟩ ∧ n = xs.length ∧ cs.length = sz ∧ At G b (o + i * sz) cs ∧ rd G cs x := by
  obtain ⟨a', c', h1, h2, h3, h4⟩ := hS
  simp only [Value.slice.injEq] at h1
  obtain ⟨rfl, rfl, rfl⟩ := h1
  rcases h4 with ⟨_, rfl⟩ | ⟨b, o, h5, h6⟩
  · simp at hx
  · obtain ⟨cs, h7, _, h8, h9⟩ := h6 i x hx
    exact ⟨b, o, cs, h5, rfl, h7, h8, h9⟩

section
variable {P : Program} {ops : Array Oper} {Q : Exit → Act → World → Prop} {n : Nat} {a : Act} {w w0 : World} {e : Env} {G : Ghost} {L : List Res}
  {d : Nat} {t : TypeId} {p : String} {af : Array Edge} {r : List Oper}

/-- The address of an element of a slice that is read. -/
theorem rl_index {α : Type} {rd : Rd α} {sz : Nat} {s et : TypeId} {i : TI} {x y : Operand} {ad : Option Addr} {m c : Nat} {xs : List α} {k : IntKind} {z : Int} {j : Nat} {X : α}
    (F : Fits n a e) (hs : tk P s = .slice et) (ht : TOK P et i) (hz : i.size = sz) (S : RdSl rd sz G (.slice ad m c) xs)
    (hx : ev e x = some (.slice ad m c)) (hy : ev e y = some (.int k z)) (hzj : z = (j : Int)) (hj : xs[j]? = some X) (hd : Nat.ble (d + 1) n = true)
    (kk : ∀ b o cs, cs.length = sz → At G b o cs → rd G cs X → ∀ a', Fits n a' ((d, .pointer (some ⟨b, o, none⟩)) :: e) → rl P ops Q r a' w) :
    rl P ops Q (⟨some d, .indexAddr s x y, t, p, af, none⟩ :: r) a w := by
  obtain ⟨b, o, cs, rfl, rfl, h1, h2, h3⟩ := S.index hj
  subst hzj hz
  have hlt : j < xs.length := by
    rcases Nat.lt_or_ge j xs.length with h' | h'
    · exact h'
    · simp [List.getElem?_eq_none h'] at hj
  exact rl_run F (run_indexAddr hs ht (F.ev hx) (F.ev hy) hlt) hd (kk b _ cs h1 h2 h3)
end
end Go.Y
