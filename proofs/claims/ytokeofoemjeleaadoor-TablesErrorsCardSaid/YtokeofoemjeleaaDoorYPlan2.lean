/- The proof core, regions that draw their order, and change what they have read: a plan of four kinds of operations: free (their value hangs on no world), pure (on the class), keep (they act, the class stays), chg (they act, and every pure operation ahead of them is one that they wait for). -/
import Derived.Test.YtokeofoemjeleaaDoorYTree
namespace Go.Y
open Go Go.RowKit

inductive PK where
  | free | pure | keep | chg

section
variable {P : Program} {ops : Array Oper} {Q : Exit → Act → World → Prop} {C : World → Prop} {ch : List Nat}

def inL (l : List Nat) (i : Nat) : Bool := l.any (Nat.beq i)

def anyD (P : Program) (ops : Array Oper) (Q : Exit → Act → World → Prop) (ch : List Nat) : (World → Prop) → Nat → Array Bool → Act → World → Prop
  | _, 0, listed, a, w => Region.ready .any ops listed = [] ∧ Q .normal a w
  | C, fuel + 1, listed, a, w =>
    (Region.ready .any ops listed = [] → Q .normal a w) ∧
    ∀ i ∈ Region.ready .any ops listed, wpOp P ops Q i (fun a' w' => ∃ C' : World → Prop, C' w' ∧ (inL ch i = false → ∀ w, C' w → C w) ∧ anyD P ops Q ch C' fuel (listed.setIfInBounds i true) a' w') a w

theorem any_of_anyD : ∀ (fuel : Nat) (C : World → Prop) (listed : Array Bool) (a : Act) (w : World), anyD P ops Q ch C fuel listed a w → wpAny P .any ops Q fuel listed a w
  | 0, _, _, _, _, h => h
  | fuel + 1, _, _, _, _, h => ⟨h.1, fun i hi => wpOp_mono (fun a' w' hk => by obtain ⟨C', _, _, h'⟩ := hk; exact any_of_anyD fuel C' _ a' w' h') (h.2 i hi)⟩

theorem ready_waits {i j : Nat} {oj : Oper} {listed : Array Bool} (hj : ops[j]? = some oj) (hr : j ∈ Region.ready .any ops listed) (hi : i ∈ Region.ready .any ops listed) {e : Edge} (he : e ∈ oj.after) (hb : Region.binds .any e = true) (heq : e.on = i) : False := by
  obtain ⟨_, oj', hoj, hall⟩ := mem_ready.1 hr
  rw [hj] at hoj
  simp only [Option.some.injEq] at hoj
  subst hoj
  have h1 := hall e he hb
  have h0 := (mem_ready.1 hi).1
  rw [heq] at h1
  by_cases hlt : i < listed.size
  · simp [hlt] at h0 h1; rw [h0] at h1; cases h1
  · simp [Array.getElem?_eq_none (Nat.le_of_not_lt hlt)] at h1

theorem anyD_first {i : Nat} {oi : Oper} {v : Value} {fr : Bool} (hi : ops[i]? = some oi) (hsel : ∀ (j : Nat) (o : Oper) cs b, ops[j]? = some o → o.op ≠ .select cs b) (hQ : ∀ c a w, Q (.panic c) (a.put oi.dst v) w → Q (.panic c) a w) :
    ∀ (fuel : Nat) (C : World → Prop) (listed : Array Bool) (a : Act) (w : World), C w →
      (∀ j oj, ops[j]? = some oj → j ≠ i → listed.getD j true = false → (∀ e ∈ oj.after, Region.binds .any e = true → e.on ≠ i) → oi.apart ops oj = true ∧ (fr = true ∨ inL ch j = false)) →
      i ∈ Region.ready .any ops listed → (if fr = true then Gives P ops (fun _ => True) oi v a else Gives P ops C oi v a) → anyD P ops Q ch C fuel (listed.setIfInBounds i true) (a.put oi.dst v) w → anyD P ops Q ch C (fuel + 1) listed a w := by
  have gC : ∀ {C : World → Prop} {a : Act}, (if fr = true then Gives P ops (fun _ => True) oi v a else Gives P ops C oi v a) → Gives P ops C oi v a := by
    intro C a h
    split at h
    · exact h.mono fun _ _ => trivial
    · exact h
  intro fuel
  induction fuel with
  | zero =>
    intro C listed a w hC _ hr hy H
    refine ⟨fun h => (by rw [h] at hr; cases hr), fun j hj => ?_⟩
    by_cases hji : j = i
    · subst hji; exact (gC hy).op hi hC ⟨C, hC, fun _ _ h => h, H⟩
    · have := ready_mono hj hji
      rw [H.1] at this
      cases this
  | succ fuel ih =>
    intro C listed a w hC hf hr hy H
    refine ⟨fun h => (by rw [h] at hr; cases hr), fun j hj => ?_⟩
    by_cases hji : j = i
    · subst hji; exact (gC hy).op hi hC ⟨C, hC, fun _ _ h => h, H⟩
    · obtain ⟨hju, oj, hoj, hall⟩ := mem_ready.1 hj
      have hno : ∀ e ∈ oj.after, Region.binds .any e = true → e.on ≠ i := fun e he hb heq => ready_waits hoj hj hr he hb heq
      obtain ⟨hap, hfr⟩ := hf j oj hoj hji hju hno
      have key : ∀ {D : World → Prop}, Gives P ops D oi v a → (∀ (a' : Act) (C' : World → Prop), Gives P ops D oi v a' → (inL ch j = false → ∀ w, C' w → C w) → (if fr = true then Gives P ops (fun _ => True) oi v a' else Gives P ops C' oi v a')) →
          wpOp P ops Q j (fun a' w' => ∃ C' : World → Prop, C' w' ∧ (inL ch j = false → ∀ w, C' w → C w) ∧ anyD P ops Q ch C' (fuel + 1) (listed.setIfInBounds j true) a' w') a w := by
        intro D hg hstep
        have h2 := op_apart hoj hap (hsel i oi · · hi) (hsel j oj · · hoj) hQ hg (H.2 j (ready_mono hj hji))
        refine wpOp_mono (fun a' w' h3 => ?_) h2
        obtain ⟨h4, C', h5, h7, h6⟩ := h3
        refine ⟨C', h5, h7, ih C' _ a' w' h5 ?_ (ready_mono hr (Ne.symm hji)) (hstep a' C' h4 h7) ?_⟩
        · intro k ok hk hki hun hno'
          refine hf k ok hk hki ?_ hno'
          by_cases hjk : j = k
          · subst hjk; exact hju
          · rw [getD_set_ne true hjk] at hun; exact hun
        · rw [Array.setIfInBounds_comm _ _ hji]
          exact h6
      cases fr with
      | true =>
        simp only [if_true] at hy
        exact key hy fun a' C' h _ => by simpa using h
      | false =>
        simp only [Bool.false_eq_true, if_false] at hy
        have hk : inL ch j = false := by simpa using hfr
        exact key hy fun a' C' h h7 => by simpa using h.mono (h7 hk)

/-- What is asked, in the plan's order. -/
def pk (P : Program) (ops : Array Oper) (Q : Exit → Act → World → Prop) : (World → Prop) → List (PK × Oper) → Act → World → Prop
  | _, [], a, w => Q .normal a w
  | C, (.free, o) :: r, a, w => ∃ v, Gives P ops (fun _ => True) o v a ∧ pk P ops Q C r (a.put o.dst v) w
  | C, (.pure, o) :: r, a, w => ∃ v, Gives P ops C o v a ∧ pk P ops Q C r (a.put o.dst v) w
  | C, (.keep, o) :: r, a, w =>
    (Region.wanted o (yielded ops a.tmps) = true → o.wp P a w (fun a' w' => ∃ C' : World → Prop, C' w' ∧ (∀ w, C' w → C w) ∧ pk P ops Q C' r a' w') Q) ∧
    (Region.wanted o (yielded ops a.tmps) = false → pk P ops Q C r (a.put o.dst undef) w)
  | C, (.chg, o) :: r, a, w =>
    (Region.wanted o (yielded ops a.tmps) = true → o.wp P a w (fun a' w' => ∃ C' : World → Prop, C' w' ∧ pk P ops Q C' r a' w') Q) ∧
    (Region.wanted o (yielded ops a.tmps) = false → pk P ops Q C r (a.put o.dst undef) w)

def freeD (ops : Array Oper) (fr : Bool) (ch : List Nat) (i : Nat) (listed : Array Bool) : Bool :=
  match ops[i]? with
  | none => false
  | some oi => (List.range ops.size).all fun j => match ops[j]? with
    | none => true
    | some oj => Nat.beq j i || listed.getD j true || oj.after.any (fun e => Region.binds .any e && Nat.beq e.on i) || (oi.apart ops oj && (fr || !inL ch j))

def planD (ops : Array Oper) (ch : List Nat) : List (PK × Nat) → Array Bool → Bool
  | [], listed => (Region.ready .any ops listed).isEmpty
  | (.free, i) :: r, listed => (Region.ready .any ops listed).any (Nat.beq i) && freeD ops true ch i listed && planD ops ch r (listed.setIfInBounds i true)
  | (.pure, i) :: r, listed => (Region.ready .any ops listed).any (Nat.beq i) && freeD ops false ch i listed && planD ops ch r (listed.setIfInBounds i true)
  | (.keep, i) :: r, listed => (match Region.ready .any ops listed with | [j] => Nat.beq i j | _ => false) && planD ops ch r (listed.setIfInBounds i true)
  | (.chg, i) :: r, listed => inL ch i && (match Region.ready .any ops listed with | [j] => Nat.beq i j | _ => false) && planD ops ch r (listed.setIfInBounds i true)

theorem freeD_spec {fr : Bool} {i : Nat} {oi : Oper} {listed : Array Bool} (hi : ops[i]? = some oi) (hf : freeD ops fr ch i listed = true) :
    ∀ j oj, ops[j]? = some oj → j ≠ i → listed.getD j true = false → (∀ e ∈ oj.after, Region.binds .any e = true → e.on ≠ i) → oi.apart ops oj = true ∧ (fr = true ∨ inL ch j = false) := by
  intro j oj hj hji hun hno
  unfold freeD at hf
  simp only [hi] at hf
  have hlt : j < ops.size := by
    rcases Nat.lt_or_ge j ops.size with h' | h'
    · exact h'
    · rw [Array.getElem?_eq_none h'] at hj; cases hj
  have := List.all_eq_true.1 hf j (List.mem_range.2 hlt)
  simp only [hj, Bool.or_eq_true, Bool.and_eq_true] at this
  rcases this with ((h1 | h1) | h1) | h1
  · exact absurd (Nat.eq_of_beq_eq_true h1) hji
  · rw [h1] at hun; cases hun
  · obtain ⟨e, he, hb⟩ := Array.any_eq_true'.1 h1
    simp only [Bool.and_eq_true] at hb
    exact absurd (Nat.eq_of_beq_eq_true hb.2) (hno e he hb.1)
  · exact ⟨h1.1, by simpa using h1.2⟩

theorem anyD_of_pk (hsel : ∀ (j : Nat) (o : Oper) cs b, ops[j]? = some o → o.op ≠ .select cs b) (hQ : ∀ c a d v w, Q (.panic c) (a.put d v) w → Q (.panic c) a w) :
    ∀ (order : List (PK × Nat)) (C : World → Prop) (listed : Array Bool) (plan : List (PK × Oper)) (a : Act) (w : World), order.map (fun x => (x.1, ops[x.2]?)) = plan.map (fun x => (x.1, some x.2)) → planD ops ch order listed = true → C w →
      pk P ops Q C plan a w → anyD P ops Q ch C order.length listed a w
  | [], C, listed, plan, a, w, hp, hok, _, h => by
    cases plan with
    | nil => exact ⟨by simpa [planD] using hok, h⟩
    | cons x y => simp at hp
  | (k, i) :: order, C, listed, plan, a, w, hp, hok, hC, h => by
    cases plan with
    | nil => simp at hp
    | cons x plan =>
      obtain ⟨b, o⟩ := x
      simp only [List.map_cons, List.cons.injEq, Prod.mk.injEq] at hp
      obtain ⟨⟨rfl, hi⟩, hp⟩ := hp
      have hin : ∀ {l : List Nat}, l.any (Nat.beq i) = true → i ∈ l := by
        intro l hl
        obtain ⟨j, hj, hb⟩ := List.any_eq_true.1 hl
        rw [Nat.eq_of_beq_eq_true hb]; exact hj
      have one : (match Region.ready .any ops listed with | [j] => Nat.beq i j | _ => false) = true → Region.ready .any ops listed = [i] := by
        intro hr
        split at hr
        · rename_i j hj; rw [hj, Nat.eq_of_beq_eq_true hr]
        · cases hr
      cases k with
      | free =>
        simp only [planD, Bool.and_eq_true] at hok
        obtain ⟨⟨hr, hf⟩, hok⟩ := hok
        obtain ⟨v, hy, h'⟩ := h
        exact anyD_first (fr := true) hi hsel (fun c a w => hQ c a o.dst v w) _ C listed a w hC (freeD_spec hi hf) (hin hr) (by simpa using hy) (anyD_of_pk hsel hQ order C _ plan _ w hp hok hC h')
      | pure =>
        simp only [planD, Bool.and_eq_true] at hok
        obtain ⟨⟨hr, hf⟩, hok⟩ := hok
        obtain ⟨v, hy, h'⟩ := h
        exact anyD_first (fr := false) hi hsel (fun c a w => hQ c a o.dst v w) _ C listed a w hC (freeD_spec hi hf) (hin hr) (by simpa using hy) (anyD_of_pk hsel hQ order C _ plan _ w hp hok hC h')
      | keep =>
        simp only [planD, Bool.and_eq_true] at hok
        obtain ⟨hr, hok⟩ := hok
        have hready := one hr
        refine ⟨fun h0 => (by rw [hready] at h0; cases h0), fun j hj => ?_⟩
        rw [hready] at hj
        have hji : j = i := by simpa using hj
        subst hji
        obtain ⟨h1, h2⟩ := h
        unfold wpOp
        simp only [hi]
        by_cases hw : Region.wanted o (yielded ops a.tmps) = true
        · rw [if_pos hw]
          left
          exact Oper.wp_mono (fun a' w' hk => by
            obtain ⟨C', h3, h4, h5⟩ := hk
            exact ⟨C', h3, fun _ => h4, anyD_of_pk hsel hQ order C' _ plan a' w' hp hok h3 h5⟩) (h1 hw)
        · rw [if_neg hw]
          exact ⟨C, hC, fun _ _ h => h, anyD_of_pk hsel hQ order C _ plan _ w hp hok hC (h2 (by simpa using hw))⟩
      | chg =>
        simp only [planD, Bool.and_eq_true] at hok
        obtain ⟨⟨hch, hr⟩, hok⟩ := hok
        have hready := one hr
        refine ⟨fun h0 => (by rw [hready] at h0; cases h0), fun j hj => ?_⟩
        rw [hready] at hj
        have hji : j = i := by simpa using hj
        subst hji
        obtain ⟨h1, h2⟩ := h
        unfold wpOp
        simp only [hi]
        by_cases hw : Region.wanted o (yielded ops a.tmps) = true
        · rw [if_pos hw]
          left
          exact Oper.wp_mono (fun a' w' hk => by
            obtain ⟨C', h3, h5⟩ := hk
            exact ⟨C', h3, fun h => (by rw [hch] at h; cases h), anyD_of_pk hsel hQ order C' _ plan a' w' hp hok h3 h5⟩) (h1 hw)
        · rw [if_neg hw]
          exact ⟨C, hC, fun h => (by rw [hch] at h; cases h), anyD_of_pk hsel hQ order C _ plan _ w hp hok hC (h2 (by simpa using hw))⟩

def planOf2 (ops : Array Oper) : List (PK × Nat) → List (PK × Oper)
  | [] => []
  | x :: r => match ops[x.2]? with
    | some o => (x.1, o) :: planOf2 ops r
    | none => planOf2 ops r
theorem planOf2_map : ∀ (order : List (PK × Nat)), order.all (fun x => Nat.ble (x.2 + 1) ops.size) = true → order.map (fun x => (x.1, ops[x.2]?)) = (planOf2 ops order).map (fun x => (x.1, some x.2))
  | [], _ => rfl
  | x :: r, h => by
    simp only [List.all_cons, Bool.and_eq_true] at h
    have hlt : x.2 < ops.size := Nat.le_of_ble_eq_true h.1
    simp only [planOf2, Array.getElem?_eq_getElem hlt, List.map_cons, planOf2_map r h.2]
def planCheck2 (l : List Oper) (ch : List Nat) (order : List (PK × Nat)) : Bool :=
  Region.noSelect l.toArray && order.all (fun x => Nat.ble (x.2 + 1) l.length) && Nat.beq order.length l.length && planD l.toArray ch order (Array.replicate l.length false)

theorem w_plan2 {id : Nat} {l : List Oper} {a : Act} {w : World} (order : List (PK × Nat)) (ch : List Nat) (C : World → Prop) (hm : P.follows .mixedOrders = true) (hk : planCheck2 l ch order = true)
    (hQ : ∀ c a d v w, Q (.panic c) (a.put d v) w → Q (.panic c) a w) (hC : C { w with drawn := w.drawn + 1 }) (h : pk P l.toArray Q C (planOf2 l.toArray order) a { w with drawn := w.drawn + 1 }) : (Code.region id l.toArray true).wp P Q a w := by
  simp only [planCheck2, Bool.and_eq_true] at hk
  obtain ⟨⟨⟨hs, hr⟩, hn⟩, hok⟩ := hk
  refine wp_region_any hm (any_of_anyD (ch := ch) _ C _ _ _ ?_)
  have hn' := Nat.eq_of_beq_eq_true hn
  have := anyD_of_pk (P := P) (Region.noSelect_spec hs) hQ order C (Array.replicate l.length false) _ a _ (planOf2_map order (by simpa using hr)) hok hC h
  rw [hn'] at this
  simpa using this
end

section
variable {P : Program} {ops : Array Oper} {Q : Exit → Act → World → Prop} {C : World → Prop} {n : Nat} {a : Act} {w w0 : World} {e : Env} {G : Ghost} {L : List Res} {d : Nat} {t : TypeId} {p : String} {af : Array Edge} {r : List (PK × Oper)}
theorem pk_nil (h : Q .normal a w) : pk P ops Q C [] a w := h
theorem pk_free {op : Op} {v : Value} (F : Fits n a e) (hr : ∀ w, True → (execOp a.eval ⟨some d, op, t, p, af, none⟩).run P w = .ok (.value v) w) (hd : Nat.ble (d + 1) n = true)
    (k : ∀ a', Fits n a' ((d, v) :: e) → pk P ops Q C r a' w) : pk P ops Q C ((.free, ⟨some d, op, t, p, af, none⟩) :: r) a w :=
  ⟨v, Or.inl ⟨rfl, hr⟩, k _ (F.put hd)⟩
theorem pk_pure {op : Op} {v : Value} (F : Fits n a e) (hr : ∀ w, C w → (execOp a.eval ⟨some d, op, t, p, af, none⟩).run P w = .ok (.value v) w) (hd : Nat.ble (d + 1) n = true)
    (k : ∀ a', Fits n a' ((d, v) :: e) → pk P ops Q C r a' w) : pk P ops Q C ((.pure, ⟨some d, op, t, p, af, none⟩) :: r) a w :=
  ⟨v, Or.inl ⟨rfl, hr⟩, k _ (F.put hd)⟩
theorem pk_free_g {op : Op} {v : Value} {j g : Nat} {want b : Bool} (F : Fits n a e) (hj : (ops[j]?).bind (·.dst) = some g) (hb : look e g = some (.bool b)) (hw : b = want)
    (hr : ∀ w, True → (execOp a.eval ⟨some d, op, t, p, af, some (j, want)⟩).run P w = .ok (.value v) w) (hd : Nat.ble (d + 1) n = true)
    (k : ∀ a', Fits n a' ((d, v) :: e) → pk P ops Q C r a' w) : pk P ops Q C ((.free, ⟨some d, op, t, p, af, some (j, want)⟩) :: r) a w := by
  have hy : yielded ops a.tmps j = some b := by simp [yielded, hj, F.slot _ _ hb]
  subst hw
  exact ⟨v, Or.inl ⟨by simp [Region.wanted, hy], hr⟩, k _ (F.put hd)⟩
theorem pk_pure_g {op : Op} {v : Value} {j g : Nat} {want b : Bool} (F : Fits n a e) (hj : (ops[j]?).bind (·.dst) = some g) (hb : look e g = some (.bool b)) (hw : b = want)
    (hr : ∀ w, C w → (execOp a.eval ⟨some d, op, t, p, af, some (j, want)⟩).run P w = .ok (.value v) w) (hd : Nat.ble (d + 1) n = true)
    (k : ∀ a', Fits n a' ((d, v) :: e) → pk P ops Q C r a' w) : pk P ops Q C ((.pure, ⟨some d, op, t, p, af, some (j, want)⟩) :: r) a w := by
  have hy : yielded ops a.tmps j = some b := by simp [yielded, hj, F.slot _ _ hb]
  subst hw
  exact ⟨v, Or.inl ⟨by simp [Region.wanted, hy], hr⟩, k _ (F.put hd)⟩
theorem pk_skip {q : PK} {op : Op} {j g : Nat} {want b : Bool} (F : Fits n a e) (hj : (ops[j]?).bind (·.dst) = some g) (hb : look e g = some (.bool b)) (hw : b = !want) (hd : Nat.ble (d + 1) n = true)
    (k : ∀ a', Fits n a' ((d, undef) :: e) → pk P ops Q C r a' w) : pk P ops Q C ((q, ⟨some d, op, t, p, af, some (j, want)⟩) :: r) a w := by
  have hy : yielded ops a.tmps j = some b := by simp [yielded, hj, F.slot _ _ hb]
  have hne : Region.wanted ⟨some d, op, t, p, af, some (j, want)⟩ (yielded ops a.tmps) = false := by
    subst hw; cases want <;> simp [Region.wanted, hy]
  cases q with
  | free => exact ⟨undef, Or.inr ⟨hne, rfl⟩, k _ (F.put hd)⟩
  | pure => exact ⟨undef, Or.inr ⟨hne, rfl⟩, k _ (F.put hd)⟩
  | keep => exact ⟨fun h => (by rw [hne] at h; cases h), fun _ => k _ (F.put hd)⟩
  | chg => exact ⟨fun h => (by rw [hne] at h; cases h), fun _ => k _ (F.put hd)⟩

theorem rl_to_wp {o : Oper} {K : Act → World → Prop} (hw : Region.wanted o (yielded ops a.tmps) = true) (h : rl P ops (fun e a w => match e with | .normal => K a w | e => Q e a w) [o] a w) : o.wp P a w K Q := by
  have h3 := h.1 hw
  unfold Oper.wp at *
  generalize (execOp a.eval o).run P w = x at *
  cases x with
  | ok nx w' =>
    cases nx <;> simp only [Oper.upon] at h3 ⊢
    case value u => exact h3
    case skip => exact h3
    case defer d => exact h3
    case enter f args =>
      refine Calls.mono h3 fun e w'' he => ?_
      cases e with
      | returned u => exact he
      | panicked c => exact he
      | outgrown => obtain ⟨a0, w0, h0⟩ := he; exact ⟨a0, w0, h0⟩
    case row row args => exact h3
  | halt x w' => cases x <;> simp only [Oper.upon] at h3 ⊢ <;> exact h3
theorem pk_keep {o : Oper} (h : rl P ops (fun e a w => match e with | .normal => ∃ C' : World → Prop, C' w ∧ (∀ w, C' w → C w) ∧ pk P ops Q C' r a w | e => Q e a w) [o] a w) (hg : o.guard = none) :
    pk P ops Q C ((.keep, o) :: r) a w := by
  have hw : Region.wanted o (yielded ops a.tmps) = true := by simp [Region.wanted, hg]
  exact ⟨fun h1 => rl_to_wp hw h, fun h1 => (by rw [hw] at h1; cases h1)⟩
theorem pk_chg {o : Oper} (h : rl P ops (fun e a w => match e with | .normal => ∃ C' : World → Prop, C' w ∧ pk P ops Q C' r a w | e => Q e a w) [o] a w) (hg : o.guard = none) :
    pk P ops Q C ((.chg, o) :: r) a w := by
  have hw : Region.wanted o (yielded ops a.tmps) = true := by simp [Region.wanted, hg]
  exact ⟨fun h1 => rl_to_wp hw h, fun h1 => (by rw [hw] at h1; cases h1)⟩
/-- A guarded operation that acts, where it is wanted. -/
theorem pk_keep_g {op : Op} {j g : Nat} {want b : Bool} (F : Fits n a e) (hj : (ops[j]?).bind (·.dst) = some g) (hb : look e g = some (.bool b)) (hw : b = want)
    (h : rl P ops (fun e a w => match e with | .normal => ∃ C' : World → Prop, C' w ∧ (∀ w, C' w → C w) ∧ pk P ops Q C' r a w | e => Q e a w) [⟨some d, op, t, p, af, some (j, want)⟩] a w) :
    pk P ops Q C ((.keep, ⟨some d, op, t, p, af, some (j, want)⟩) :: r) a w := by
  have hy : yielded ops a.tmps j = some b := by simp [yielded, hj, F.slot _ _ hb]
  have hw' : Region.wanted ⟨some d, op, t, p, af, some (j, want)⟩ (yielded ops a.tmps) = true := by subst hw; simp [Region.wanted, hy]
  exact ⟨fun h1 => rl_to_wp hw' h, fun h1 => (by rw [hw'] at h1; cases h1)⟩

/-- An element of an owned row, read in every world of the class. -/
theorem Mem.atRowK {α : Type} {rd : Rd α} {sz : Nat} (M : Mem w0 G L w) {k m c : Nat} {ad : Option Addr} {cs : List Value} {bt : TypeId} {xs : List α} (hk : L[k]? = some (.row (.slice ad m c) m cs bt sz)) (hpos : 0 < sz) (E : Els rd sz G cs xs)
    {Lr : List Res} {k' : Nat} (hk' : Lr[k']? = some (.row (.slice ad m c) m cs bt sz)) {j : Nat} {X : α} (hX : xs[j]? = some X) :
    ∃ b ch, Ix ad m j sz b (j * sz) ∧ m = xs.length ∧ ch.length = sz ∧ (∀ w, Keep G Lr w → ∀ (q : Nat) (v : Value), ch[q]? = some v → w.cell? ⟨b, j * sz + q, none⟩ = some v) ∧ rd G ch X := by
  obtain ⟨l, ch, rr, h1, h2, h3, h4, h5⟩ := E.get hX
  have hm : m = xs.length := by
    have h6 := E.length
    rw [(M.row_at hk).1.1] at h6
    exact Nat.eq_of_mul_eq_mul_right hpos h6
  have hlt := lt_of_get hX
  obtain ⟨b, rfl⟩ := M.row_some hk (by omega)
  refine ⟨b, ch, ⟨0, rfl, (Nat.zero_add _).symm, by omega⟩, hm, h3, fun w hK q v hq => ?_, h4⟩
  have hrow : rowIs w (.slice (some ⟨b, 0, none⟩) m c) m cs bt sz := hK.own _ (List.mem_of_getElem? hk')
  have hq' : cs[j * sz + q]? = some v := by
    rw [h1, List.append_assoc, List.getElem?_append_right (by omega), h2, Nat.add_sub_cancel_left, List.getElem?_append_left (lt_of_get hq), hq]
  have hlt' := lt_of_get hq'
  rw [hrow.1.cellAt (j * sz + q) (by rw [← hrow.1.1]; exact hlt'), hq']
end
end Go.Y
