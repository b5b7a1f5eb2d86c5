/- The proof core: small change: decided guards, ways out of nested control, loops counted by a number, contracts of functions that return plain values. -/
import Derived.Test.YtokeofoemjeleaaDoorYRules2
namespace Go.Y
open Go Go.RowKit

theorem not_t {b : Bool} (h : b = false) : (!b) = true := by simp [h]
theorem not_f {b : Bool} (h : b = true) : (!b) = false := by simp [h]
theorem of_not_t {b : Bool} (h : (!b) = true) : b = false := by simpa using h
theorem of_not_f {b : Bool} (h : (!b) = false) : b = true := by simpa using h
theorem get_of_lt {α : Type} {xs : List α} {i : Nat} (h : i < xs.length) : ∃ x, xs[i]? = some x := ⟨_, List.getElem?_eq_getElem h⟩
theorem lt_of_get {α : Type} {xs : List α} {i : Nat} {x : α} (h : xs[i]? = some x) : i < xs.length := by
  rcases Nat.lt_or_ge i xs.length with h' | h'
  · exact h'
  · simp [List.getElem?_eq_none h'] at h

section
variable {P : Program} {ops : Array Oper} {Q K : Exit → Act → World → Prop} {N : Act → World → Prop} {n : Nat} {a : Act} {w w0 : World} {e : Env} {G : Ghost} {L : List Res}
  {d : Nat} {t : TypeId} {p : String} {af : Array Edge} {r : List Oper}

theorem rl_guard_t {op : Op} {j g : Nat} {want b : Bool} (F : Fits n a e) (hj : (ops[j]?).bind (·.dst) = some g) (hb : look e g = some (.bool b)) (hd : Nat.ble (d + 1) n = true) (hw : b = want)
    (k : rl P ops Q (⟨some d, op, t, p, af, none⟩ :: r) a w) : rl P ops Q (⟨some d, op, t, p, af, some (j, want)⟩ :: r) a w :=
  rl_guard F hj hb hd (fun _ => k) (fun h => by subst hw; cases b <;> cases h)
theorem rl_guard_f {op : Op} {j g : Nat} {want b : Bool} (F : Fits n a e) (hj : (ops[j]?).bind (·.dst) = some g) (hb : look e g = some (.bool b)) (hd : Nat.ble (d + 1) n = true) (hw : b = !want)
    (k : ∀ a', Fits n a' ((d, undef) :: e) → rl P ops Q r a' w) : rl P ops Q (⟨some d, op, t, p, af, some (j, want)⟩ :: r) a w :=
  rl_guard F hj hb hd (fun h => by subst h; cases b <;> cases hw) (fun _ => k)

def evp (e : Env) : List (Nat × Operand) → Option (List (Nat × Value))
  | [] => some []
  | x :: xs => match ev e x.2 with
    | some v => match evp e xs with
      | some vs => some ((x.1, v) :: vs)
      | none => none
    | none => none
theorem Fits.evp (F : Fits n a e) : ∀ {xs : List (Nat × Operand)} {vs : List (Nat × Value)}, Y.evp e xs = some vs → (xs.toArray.map fun (j, x) => (j, a.eval x)).toList = vs
  | [], vs, h => by simp [Y.evp] at h; subst h; simp
  | (j, x) :: xs, vs, h => by
    simp only [Y.evp] at h
    cases hx : Y.ev e x with
    | none => rw [hx] at h; simp at h
    | some v =>
      rw [hx] at h
      cases hxs : Y.evp e xs with
      | none => rw [hxs] at h; simp at h
      | some us =>
        rw [hxs] at h
        simp at h
        subst h
        have ih := Fits.evp F hxs
        simp only [List.map_toArray] at ih ⊢
        simp only [List.map_cons, F.ev hx]
        rw [ih]

/-! ### Ways out -/
theorem q_tn (h : N a w) : Exit.then N Q .normal a w := h
theorem q_te {id : Nat} (h : Q (.exit id) a w) : Exit.then N Q (.exit id) a w := h
theorem q_tg {l : Nat} (h : Q (.goto l) a w) : Exit.then N Q (.goto l) a w := h
theorem q_tr (h : Q .ret a w) : Exit.then N Q .ret a w := h
theorem q_bn {id : Nat} (h : Q .normal a w) : Exit.inBlock id Q .normal a w := h
theorem q_bh {id : Nat} (h : Q .normal a w) : Exit.inBlock id Q (.exit id) a w := q_block_hit h
theorem q_be {id j : Nat} (hj : Nat.beq j id = false) (h : Q (.exit j) a w) : Exit.inBlock id Q (.exit j) a w :=
  q_block_miss (fun e => by subst e; simp at hj) h
theorem q_bg {id l : Nat} (h : Q (.goto l) a w) : Exit.inBlock id Q (.goto l) a w := h
theorem q_br {id : Nat} (h : Q .ret a w) : Exit.inBlock id Q .ret a w := h
theorem q_jn {l : Nat} (h : Q .normal a w) : Exit.jump l N Q .normal a w := h
theorem q_jr {l : Nat} (h : Q .ret a w) : Exit.jump l N Q .ret a w := h
theorem q_je {l id : Nat} (h : Q (.exit id) a w) : Exit.jump l N Q (.exit id) a w := h
theorem q_jg {l : Nat} (h : N a w) : Exit.jump l N Q (.goto l) a w := ⟨rfl, h⟩

theorem w_loopN {c : Code} (I : Nat → Act → World → Prop) (m0 : Nat) (h0 : I m0 a w)
    (round : ∀ m a w, I m a w → c.wp P (Exit.then (fun a' w' => ∃ m', m' < m ∧ I m' a' w') Q) a w) : (Code.loop c).wp P Q a w :=
  w_loop (σ := Nat) I (fun m => m) m0 h0 round
theorem w_scopeN {c rest : Code} (l : Nat) (J : Nat → Act → World → Prop) (hf : findLabel c l = some rest)
    (first : c.wp P (Exit.jump l (fun a w => ∃ m, J m a w) Q) a w)
    (pass : ∀ m a w, J m a w → rest.wp P (Exit.jump l (fun a' w' => ∃ m', m' < m ∧ J m' a' w') Q) a w) : (Code.scope c).wp P Q a w :=
  w_scope_jumps (σ := Nat) l J (fun m => m) hf first pass

/-- A scope with one label, which the run jumps back to: the pass from the label serves the first one too. -/
theorem w_scopeL {c body : Code} (l : Nat) (J : Nat → Act → World → Prop) (hf : findLabel c l = some (.seq .skip body))
    (pass : ∀ m a w, J m a w → body.wp P (Exit.jump l (fun a' w' => ∃ m', m' < m ∧ J m' a' w') Q) a w)
    (first : (∀ m a w, J m a w → body.wp P (Exit.jump l (fun a w => ∃ m, J m a w) Q) a w) → c.wp P (Exit.jump l (fun a w => ∃ m, J m a w) Q) a w) : (Code.scope c).wp P Q a w := by
  refine w_scopeN l J hf (first fun m a w h => wp_mono (pass m a w h) fun e a w hq => ?_) fun m a w h => wp_seq (wp_skip (pass m a w h))
  cases e with
  | goto l' => obtain ⟨h1, m', _, h2⟩ := hq; exact ⟨h1, m', h2⟩
  | _ => exact hq

/-! ### Plain results -/
def RetS (w0 : World) (G : Ghost) (L : List Res) (Φ : Value → Prop) : Ending → World → Prop
  | .returned v, w' => Mem w0 G L w' ∧ Φ v
  | _, _ => False

theorem rl_callS {f : FuncId} {args : List Operand} {ats : Array TypeId} {vs : List Value} {Φ : Value → Prop}
    (F : Fits n a e) (hE : Ent P f) (hv : evs e args = some vs) (hd : Nat.ble (d + 1) n = true)
    (hs : Calls P f vs.toArray w (RetS w0 G L Φ))
    (k : ∀ v w' a', Mem w0 G L w' → Φ v → Fits n a' ((d, v) :: e) → rl P ops Q r a' w') :
    rl P ops Q (⟨some d, .call ⟨.value (.func f), args.toArray, ats⟩, t, p, af, none⟩ :: r) a w := by
  refine rl_callv (caps := []) F hE rfl hv hd (by rw [List.append_nil]; exact hs) fun x w' hx => ?_
  cases x with
  | returned v => obtain ⟨h1, h2⟩ := hx; exact ⟨v, rfl, fun a' F' => k v w' a' h1 h2 F'⟩
  | panicked c => exact hx.elim
  | outgrown => exact hx.elim

theorem Mem.ghost {G' : Ghost} (hg : Gle G G') (M : Mem w0 G' L w) (hf : ∀ x ∈ L, ∀ b, x.foot = some b → G b = none) : Mem w0 G L w :=
  ⟨M.os, M.tape, M.output, M.grow, fun r o h => M.pers r o (hg r o h), M.own, hf, M.apart⟩

/-- A plain result needs no new ghost. -/
theorem Ret.plain {f : FuncId} {vs : Array Value} {Φ : Value → Prop} (M : Mem w0 G L w) (h : Calls P f vs w (Ret w0 G L fun _ v => Φ v)) : Calls P f vs w (RetS w0 G L Φ) :=
  h.mono fun x w' hx => by
    cases x with
    | returned v => obtain ⟨G', h1, h2, h3⟩ := hx; exact ⟨h2.ghost h1 M.free, h3⟩
    | panicked c => exact hx
    | outgrown => exact hx

theorem q_callS {f : FuncId} {args : List Operand} {ats : Array TypeId} {vs : List Value} {v : Value} {K : Act → Prop} (F : Fits n a e) (hE : Ent P f) (hv : evs e args = some vs) (hd : Nat.ble (d + 1) n = true)
    (hs : ∀ w, Mem w0 G L w → Calls P f vs.toArray w (RetS w0 G L fun x => x = v))
    (k : ∀ a', Fits n a' ((d, v) :: e) → wpQuiet P ops (Mem w0 G L) K r a') : wpQuiet P ops (Mem w0 G L) K (⟨some d, .call ⟨.value (.func f), args.toArray, ats⟩, t, p, af, none⟩ :: r) a :=
  q_call F hE hv hd (fun w hw => (hs w hw).mono fun x w' hx => by
    cases x with
    | returned u => obtain ⟨h1, h2⟩ := hx; exact ⟨by rw [h2], h1⟩
    | panicked c => exact hx.elim
    | outgrown => exact hx.elim) k

/-- A store of many cells into an owned block. -/
theorem Mem.store_blk {us : List Value} : ∀ {w : World} {L : List Res}, (M : Mem w0 G L w) → ∀ {k b : Nat} {cs : List Value} {t : TypeId} (_ : L[k]? = some (.blk b cs t)) (o i : Nat)
    (_ : ∀ u ∈ us, u.oneCell' = true) (_ : o + i + us.length ≤ cs.length),
    ∃ w', (storeCells ⟨b, o, none⟩ us i).run P w = .ok () w' ∧ Mem w0 G (L.set k (.blk b (over cs (o + i) us) t)) w' := by
  induction us with
  | nil =>
    intro w L M k b cs t hk o i hu hfit
    refine ⟨w, by simp [storeCells], ?_⟩
    simp only [over]
    rw [set_self hk]
    exact M
  | cons u us ih =>
    intro w L M k b cs t hk o i hu hfit
    simp only [List.length_cons] at hfit
    have hfz : w.frozen? ⟨b, o + i, none⟩ = false := M.frozenL hk _
    have hc : w.cell? ⟨b, o + i, none⟩ = some cs[o + i] := M.cellL hk (List.getElem?_eq_getElem (by omega))
    have M' := M.set hk (o + i) u
    have hk' : (L.set k (.blk b (cs.set (o + i) u) t))[k]? = some (.blk b (cs.set (o + i) u) t) := by
      rw [List.getElem?_set]
      simp [lt_of_get hk]
    obtain ⟨w', hr, M''⟩ := ih M' hk' o (i + 1) (fun v hv => hu v (by simp [hv])) (by simp; omega)
    refine ⟨w', ?_, ?_⟩
    · simp only [storeCells, Sem.run_bind, add_plain, run_store_cell (hu u (by simp)) hc hfz, Result.andThen_ok]
      exact hr
    · rw [List.set_set] at M''
      exact M''

theorem rl_storeA {et bt : TypeId} {i : TI} {x y : Operand} {v : Value} {k b o : Nat} {cs us : List Value} (F : Fits n a e) (M : Mem w0 G L w) (ht : TOK P et i)
    (hk : L[k]? = some (.blk b cs bt)) (hx : ev e x = some (.pointer (some ⟨b, o, none⟩))) (hy : ev e y = some v) (hv : v.cells = us.toArray) (hl : us.length = i.size)
    (hu : ∀ u ∈ us, u.oneCell' = true) (hfit : o + us.length ≤ cs.length)
    (kk : ∀ w' a', Mem w0 G (L.set k (.blk b (over cs o us) bt)) w' → Fits n a' e → rl P ops Q r a' w') : rl P ops Q (⟨none, .store et x y, t, p, af, none⟩ :: r) a w := by
  obtain ⟨w', hr, M'⟩ := M.store_blk (P := P) (us := us) hk o 0 hu (by omega)
  refine rl_skip F (w' := w') ?_ fun a' F' => kk w' a' (by simpa using M') F'
  simp only [execOp, F.ev hx, F.ev hy, Instr.storeAt, Instr.sureAddr, storeVar, Sem.run_bind, Sem.run_pure, Result.andThen_ok, ht.sizeOf, hv]
  simp [hl, hr]
end
end Go.Y
