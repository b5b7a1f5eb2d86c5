/- The proof core, regions that draw their order: a plan: what yields its value in every world of a class is taken as soon as it may; what acts is alone when it comes. -/
import Derived.Test.YtokeofoemjeleaaDoorYRules3
namespace Go.Y
open Go Go.RowKit

section
variable {P : Program} {ops : Array Oper} {Q : Exit → Act → World → Prop} {C : World → Prop}

/-- In every world of the class the operation leaves this value, and the world as it is. -/
def Gives (P : Program) (ops : Array Oper) (C : World → Prop) (o : Oper) (v : Value) (a : Act) : Prop :=
  (Region.wanted o (yielded ops a.tmps) = true ∧ ∀ w, C w → (execOp a.eval o).run P w = .ok (.value v) w) ∨
  (Region.wanted o (yielded ops a.tmps) = false ∧ v = undef)

/-- Any order, the world always of the class. -/
def anyC (P : Program) (ops : Array Oper) (Q : Exit → Act → World → Prop) : (World → Prop) → Nat → Array Bool → Act → World → Prop
  | _, 0, listed, a, w => Region.ready .any ops listed = [] ∧ Q .normal a w
  | C, fuel + 1, listed, a, w =>
    (Region.ready .any ops listed = [] → Q .normal a w) ∧
    ∀ i ∈ Region.ready .any ops listed, wpOp P ops Q i (fun a' w' => ∃ C' : World → Prop, C' w' ∧ (∀ w, C' w → C w) ∧ anyC P ops Q C' fuel (listed.setIfInBounds i true) a' w') a w

theorem any_of_anyC : ∀ (fuel : Nat) (C : World → Prop) (listed : Array Bool) (a : Act) (w : World), anyC P ops Q C fuel listed a w → wpAny P .any ops Q fuel listed a w
  | 0, _, _, _, _, h => h
  | fuel + 1, _, _, _, _, h => ⟨h.1, fun i hi => wpOp_mono (fun a' w' hk => by obtain ⟨C', _, _, h'⟩ := hk; exact any_of_anyC fuel C' _ a' w' h') (h.2 i hi)⟩

theorem Gives.mono {o : Oper} {v : Value} {a : Act} {C' : World → Prop} (h : ∀ w, C' w → C w) (hy : Gives P ops C o v a) : Gives P ops C' o v a := by
  rcases hy with ⟨h1, h2⟩ | h3
  · exact Or.inl ⟨h1, fun w hw => h2 w (h w hw)⟩
  · exact Or.inr h3

theorem Gives.op {i : Nat} {o : Oper} {v : Value} {a : Act} (hi : ops[i]? = some o) (hy : Gives P ops C o v a) {K : Act → World → Prop} {w : World} (hC : C w) (h : K (a.put o.dst v) w) : wpOp P ops Q i K a w := by
  unfold wpOp
  simp only [hi]
  rcases hy with ⟨h1, h2⟩ | ⟨h1, rfl⟩
  · rw [if_pos h1]; left; unfold Oper.wp; rw [h2 w hC]; exact h
  · rw [if_neg (by simp [h1])]; exact h

/-- An operation that is apart from another finds the same, whether or not that one's value is laid; and leaves what that one gives as it is. -/
theorem op_apart {j : Nat} {oi oj : Oper} {v : Value} (hj : ops[j]? = some oj) (hap : oi.apart ops oj = true) (hsi : ∀ cs b, oi.op ≠ .select cs b) (hsj : ∀ cs b, oj.op ≠ .select cs b)
    (hQ : ∀ c a w, Q (.panic c) (a.put oi.dst v) w → Q (.panic c) a w) {K : Act → World → Prop} {a : Act} {w : World} (hy : Gives P ops C oi v a) (h : wpOp P ops Q j K (a.put oi.dst v) w) :
    wpOp P ops Q j (fun a' w' => Gives P ops C oi v a' ∧ K (a'.put oi.dst v) w') a w := by
  obtain ⟨h1, h2, h3⟩ := Oper.apart_spec hap
  have hk : ∀ (a : Act) (u : Value), Gives P ops C oi v a → Gives P ops C oi v (a.put oj.dst u) := fun a u hg => by
    unfold Gives at *
    rw [execOp_put oi hsi a oj.dst u h3, wanted_put oi a oj.dst u h3]
    exact hg
  have he := execOp_put oj hsj a oi.dst v h1
  have hw := wanted_put oj a oi.dst v h1
  unfold wpOp at h ⊢
  simp only [hj] at h ⊢
  rw [hw] at h
  by_cases hwt : Region.wanted oj (yielded ops a.tmps) = true
  · rw [if_pos hwt] at h ⊢
    rcases h with h | ⟨ha, hl⟩
    · left
      unfold Oper.wp at h ⊢
      rw [he] at h
      cases hr : (execOp a.eval oj).run P w with
      | halt x w' =>
        rw [hr] at h
        cases x <;> simp only [Oper.upon] at h ⊢
        exact hQ _ _ _ h
      | ok nx w' =>
        rw [hr] at h
        cases nx <;> simp only [Oper.upon] at h ⊢
        case value u => exact ⟨hk a u hy, by rw [← Act.put_comm a v u h2]; exact h⟩
        case skip => exact ⟨hk a _ hy, by rw [← Act.put_comm a v undef h2]; exact h⟩
        case defer d => exact ⟨hk { a with defers := d :: a.defers } _ hy, by rw [← Act.put_comm _ v undef h2, ← Act.put_defers]; exact h⟩
        case enter f args =>
          refine h.mono fun e w'' hh => ?_
          cases e with
          | returned u => exact ⟨hk a u hy, by rw [← Act.put_comm a v u h2]; exact hh⟩
          | panicked c => exact hQ _ _ _ hh
          | outgrown => exact hh
        case row row args => exact Rows.mono h fun u w'' hh => ⟨hk a u hy, by rw [← Act.put_comm a v u h2]; exact hh⟩
    · right
      refine ⟨?_, hl⟩
      unfold Oper.asks at ha ⊢
      rw [he] at ha
      exact ha
  · rw [if_neg hwt] at h ⊢
    exact ⟨hk a undef hy, by rw [← Act.put_comm a v undef h2]; exact h⟩

theorem anyC_first {i : Nat} {oi : Oper} {v : Value} (hi : ops[i]? = some oi) (hsel : ∀ (j : Nat) (o : Oper) cs b, ops[j]? = some o → o.op ≠ .select cs b) (hQ : ∀ c a w, Q (.panic c) (a.put oi.dst v) w → Q (.panic c) a w) :
    ∀ (fuel : Nat) (C : World → Prop) (listed : Array Bool) (a : Act) (w : World), C w →
      (∀ j oj, ops[j]? = some oj → j ≠ i → listed.getD j true = false → (∀ e ∈ oj.after, Region.binds .any e = true → e.on ≠ i) → oi.apart ops oj = true) →
      i ∈ Region.ready .any ops listed → Gives P ops C oi v a → anyC P ops Q C fuel (listed.setIfInBounds i true) (a.put oi.dst v) w → anyC P ops Q C (fuel + 1) listed a w := by
  intro fuel
  induction fuel with
  | zero =>
    intro C listed a w hC _ hr hy H
    refine ⟨fun h => (by rw [h] at hr; cases hr), fun j hj => ?_⟩
    by_cases hji : j = i
    · subst hji; exact hy.op hi hC ⟨C, hC, fun _ h => h, H⟩
    · have := ready_mono hj hji
      rw [H.1] at this
      cases this
  | succ fuel ih =>
    intro C listed a w hC hf hr hy H
    refine ⟨fun h => (by rw [h] at hr; cases hr), fun j hj => ?_⟩
    by_cases hji : j = i
    · subst hji; exact hy.op hi hC ⟨C, hC, fun _ h => h, H⟩
    · obtain ⟨hju, oj, hoj, hall⟩ := mem_ready.1 hj
      have hno : ∀ e ∈ oj.after, Region.binds .any e = true → e.on ≠ i := by
        intro e he hb heq
        have h1 := hall e he hb
        have h0 := (mem_ready.1 hr).1
        rw [heq] at h1
        by_cases hlt : i < listed.size
        · simp [hlt] at h0 h1; rw [h0] at h1; cases h1
        · simp [Array.getElem?_eq_none (Nat.le_of_not_lt hlt)] at h1
      have h2 := op_apart hoj (hf j oj hoj hji hju hno) (hsel i oi · · hi) (hsel j oj · · hoj) hQ hy (H.2 j (ready_mono hj hji))
      refine wpOp_mono (fun a' w' h3 => ?_) h2
      obtain ⟨h4, C', h5, h7, h6⟩ := h3
      refine ⟨C', h5, h7, ih C' _ a' w' h5 ?_ (ready_mono hr (Ne.symm hji)) (h4.mono h7) ?_⟩
      · intro k ok hk hki hun hno'
        refine hf k ok hk hki ?_ hno'
        by_cases hjk : j = k
        · subst hjk; exact hju
        · rw [getD_set_ne true hjk] at hun; exact hun
      · rw [Array.setIfInBounds_comm _ _ hji]
        exact h6

/-- What is asked, in the plan's order: (true: it gives its value; false: it acts). -/
def pl (P : Program) (ops : Array Oper) (Q : Exit → Act → World → Prop) : (World → Prop) → List (Bool × Oper) → Act → World → Prop
  | _, [], a, w => Q .normal a w
  | C, (true, o) :: r, a, w => ∃ v, Gives P ops C o v a ∧ pl P ops Q C r (a.put o.dst v) w
  | C, (false, o) :: r, a, w =>
    (Region.wanted o (yielded ops a.tmps) = true → o.wp P a w (fun a' w' => ∃ C' : World → Prop, C' w' ∧ (∀ w, C' w → C w) ∧ pl P ops Q C' r a' w') Q) ∧
    (Region.wanted o (yielded ops a.tmps) = false → pl P ops Q C r (a.put o.dst undef) w)

def freeB (ops : Array Oper) (i : Nat) (listed : Array Bool) : Bool :=
  match ops[i]? with
  | none => false
  | some oi => (List.range ops.size).all fun j => match ops[j]? with
    | none => true
    | some oj => Nat.beq j i || listed.getD j true || oj.after.any (fun e => Region.binds .any e && Nat.beq e.on i) || oi.apart ops oj

def planOk (ops : Array Oper) : List (Bool × Nat) → Array Bool → Bool
  | [], listed => (Region.ready .any ops listed).isEmpty
  | (true, i) :: r, listed => (Region.ready .any ops listed).any (Nat.beq i) && freeB ops i listed && planOk ops r (listed.setIfInBounds i true)
  | (false, i) :: r, listed => (match Region.ready .any ops listed with | [j] => Nat.beq i j | _ => false) && planOk ops r (listed.setIfInBounds i true)

theorem anyC_of_pl (hsel : ∀ (j : Nat) (o : Oper) cs b, ops[j]? = some o → o.op ≠ .select cs b) (hQ : ∀ c a d v w, Q (.panic c) (a.put d v) w → Q (.panic c) a w) :
    ∀ (order : List (Bool × Nat)) (C : World → Prop) (listed : Array Bool) (plan : List (Bool × Oper)) (a : Act) (w : World), order.map (fun x => (x.1, ops[x.2]?)) = plan.map (fun x => (x.1, some x.2)) → planOk ops order listed = true → C w →
      pl P ops Q C plan a w → anyC P ops Q C order.length listed a w
  | [], C, listed, plan, a, w, hp, hok, _, h => by
    cases plan with
    | nil => exact ⟨by simpa [planOk] using hok, h⟩
    | cons x y => simp at hp
  | (true, i) :: order, C, listed, plan, a, w, hp, hok, hC, h => by
    cases plan with
    | nil => simp at hp
    | cons x plan =>
      obtain ⟨b, o⟩ := x
      simp only [List.map_cons, List.cons.injEq, Prod.mk.injEq] at hp
      obtain ⟨⟨rfl, hi⟩, hp⟩ := hp
      simp only [planOk, Bool.and_eq_true] at hok
      obtain ⟨⟨hr, hf⟩, hok⟩ := hok
      obtain ⟨v, hy, h'⟩ := h
      have hr' : i ∈ Region.ready .any ops listed := by
        obtain ⟨j, hj, hb⟩ := List.any_eq_true.1 hr
        rw [Nat.eq_of_beq_eq_true hb]; exact hj
      refine anyC_first hi hsel (fun c a w => hQ c a o.dst v w) _ C listed a w hC ?_ hr' hy (anyC_of_pl hsel hQ order C _ plan _ w hp hok hC h')
      intro j oj hj hji hun hno
      unfold freeB at hf
      simp only [hi] at hf
      have hlt : j < ops.size := by
        rcases Nat.lt_or_ge j ops.size with h' | h'
        · exact h'
        · rw [Array.getElem?_eq_none h'] at hj; cases hj
      have := List.all_eq_true.1 hf j (List.mem_range.2 hlt)
      simp only [hj, Bool.or_eq_true] at this
      rcases this with ((h1 | h1) | h1) | h1
      · exact absurd (Nat.eq_of_beq_eq_true h1) hji
      · rw [h1] at hun; cases hun
      · obtain ⟨e, he, hb⟩ := Array.any_eq_true'.1 h1
        simp only [Bool.and_eq_true] at hb
        exact absurd (Nat.eq_of_beq_eq_true hb.2) (hno e he hb.1)
      · exact h1
  | (false, i) :: order, C, listed, plan, a, w, hp, hok, hC, h => by
    cases plan with
    | nil => simp at hp
    | cons x plan =>
      obtain ⟨b, o⟩ := x
      simp only [List.map_cons, List.cons.injEq, Prod.mk.injEq] at hp
      obtain ⟨⟨rfl, hi⟩, hp⟩ := hp
      simp only [planOk, Bool.and_eq_true] at hok
      obtain ⟨hr, hok⟩ := hok
      have hready : Region.ready .any ops listed = [i] := by
        split at hr
        · rename_i j hj; rw [hj, Nat.eq_of_beq_eq_true hr]
        · cases hr
      refine ⟨fun h0 => (by rw [hready] at h0; cases h0), fun j hj => ?_⟩
      rw [hready] at hj
      have hji : j = i := by simpa using hj
      subst hji
      obtain ⟨h1, h2⟩ := h
      unfold wpOp
      simp only [hi]
      by_cases hw : Region.wanted o (yielded ops a.tmps) = true
      · rw [if_pos hw]
        left
        exact Oper.wp_mono (fun a' w' hk => by
          obtain ⟨C', h3, h4, h5⟩ := hk
          exact ⟨C', h3, h4, anyC_of_pl hsel hQ order C' _ plan a' w' hp hok h3 h5⟩) (h1 hw)
      · rw [if_neg hw]
        exact ⟨C, hC, fun _ h => h, anyC_of_pl hsel hQ order C _ plan _ w hp hok hC (h2 (by simpa using hw))⟩

def planOf (ops : Array Oper) : List (Bool × Nat) → List (Bool × Oper)
  | [] => []
  | x :: r => match ops[x.2]? with
    | some o => (x.1, o) :: planOf ops r
    | none => planOf ops r

theorem planOf_map : ∀ (order : List (Bool × Nat)), order.all (fun x => Nat.ble (x.2 + 1) ops.size) = true → order.map (fun x => (x.1, ops[x.2]?)) = (planOf ops order).map (fun x => (x.1, some x.2))
  | [], _ => rfl
  | x :: r, h => by
    simp only [List.all_cons, Bool.and_eq_true] at h
    have hlt : x.2 < ops.size := Nat.le_of_ble_eq_true h.1
    simp only [planOf, Array.getElem?_eq_getElem hlt, List.map_cons, planOf_map r h.2]

def planCheck (l : List Oper) (order : List (Bool × Nat)) : Bool :=
  Region.noSelect l.toArray && order.all (fun x => Nat.ble (x.2 + 1) l.length) && Nat.beq order.length l.length && planOk l.toArray order (Array.replicate l.length false)

theorem w_plan {id : Nat} {l : List Oper} {a : Act} {w : World} (order : List (Bool × Nat)) (C : World → Prop) (hm : P.follows .mixedOrders = true) (hk : planCheck l order = true)
    (hQ : ∀ c a d v w, Q (.panic c) (a.put d v) w → Q (.panic c) a w) (hC : C { w with drawn := w.drawn + 1 }) (h : pl P l.toArray Q C (planOf l.toArray order) a { w with drawn := w.drawn + 1 }) : (Code.region id l.toArray true).wp P Q a w := by
  simp only [planCheck, Bool.and_eq_true] at hk
  obtain ⟨⟨⟨hs, hr⟩, hn⟩, hok⟩ := hk
  refine wp_region_any hm (any_of_anyC _ C _ _ _ ?_)
  have hn' := Nat.eq_of_beq_eq_true hn
  have := anyC_of_pl (P := P) (Region.noSelect_spec hs) hQ order C (Array.replicate l.length false) _ a _ (planOf_map order (by simpa using hr)) hok hC h
  rw [hn'] at this
  simpa using this
end

/-! ### The class: what is persistent stays, and these resources are as they are -/
structure Keep (G : Ghost) (L : List Res) (w : World) : Prop where
  pers : ∀ r o, G r = some o → w.heap[r]? = some o
  own : ∀ x ∈ L, x.holds w

section
variable {P : Program} {ops : Array Oper} {Q : Exit → Act → World → Prop} {C : World → Prop} {n : Nat} {a : Act} {w w0 : World} {e : Env} {G G' : Ghost} {L L' : List Res}
  {d : Nat} {t : TypeId} {p : String} {af : Array Edge} {r : List (Bool × Oper)}

theorem Mem.keep (M : Mem w0 G' L' w) (hg : Gle G G') (hL : ∀ x ∈ L, x ∈ L') : Keep G L w := ⟨fun r o h => M.pers r o (hg r o h), fun x hx => M.own x (hL x hx)⟩
theorem Keep.mono {G' : Ghost} (hg : Gle G G') (hL : ∀ x ∈ L, x ∈ L') (h : Keep G' L' w) : Keep G L w := ⟨fun r o h1 => h.pers r o (hg r o h1), fun x hx => h.own x (hL x hx)⟩
theorem Keep.cell (M : Keep G L w) {b o : Nat} {v : Value} (h : gcell G b o = some v) : w.cell? ⟨b, o, none⟩ = some v := by
  unfold gcell at h
  split at h
  · rename_i c t f hb
    simp [World.cell?, M.pers _ _ hb, h]
  · cases h
theorem Keep.cellL (M : Keep G L w) {k b : Nat} {cs : List Value} {t : TypeId} (hk : L[k]? = some (.blk b cs t)) {o : Nat} {v : Value} (hv : cs[o]? = some v) : w.cell? ⟨b, o, none⟩ = some v := by
  have hh : w.heap[b]? = some (.cells cs.toArray t (0, 0)) := M.own _ (List.mem_of_getElem? hk)
  simp [World.cell?, hh, hv]

theorem pl_nil (h : Q .normal a w) : pl P ops Q C [] a w := h
theorem pl_run {op : Op} {v : Value} (F : Fits n a e) (hr : ∀ w, C w → (execOp a.eval ⟨some d, op, t, p, af, none⟩).run P w = .ok (.value v) w) (hd : Nat.ble (d + 1) n = true)
    (k : ∀ a', Fits n a' ((d, v) :: e) → pl P ops Q C r a' w) : pl P ops Q C ((true, ⟨some d, op, t, p, af, none⟩) :: r) a w :=
  ⟨v, Or.inl ⟨rfl, hr⟩, k _ (F.put hd)⟩
theorem pl_guard_run {op : Op} {v : Value} {j g : Nat} {want b : Bool} (F : Fits n a e) (hj : (ops[j]?).bind (·.dst) = some g) (hb : look e g = some (.bool b)) (hw : b = want)
    (hr : ∀ w, C w → (execOp a.eval ⟨some d, op, t, p, af, some (j, want)⟩).run P w = .ok (.value v) w) (hd : Nat.ble (d + 1) n = true)
    (k : ∀ a', Fits n a' ((d, v) :: e) → pl P ops Q C r a' w) : pl P ops Q C ((true, ⟨some d, op, t, p, af, some (j, want)⟩) :: r) a w := by
  have hy : yielded ops a.tmps j = some b := by simp [yielded, hj, F.slot _ _ hb]
  subst hw
  exact ⟨v, Or.inl ⟨by simp [Region.wanted, hy], hr⟩, k _ (F.put hd)⟩
theorem pl_guard_skip {b2 : Bool} {op : Op} {j g : Nat} {want b : Bool} (F : Fits n a e) (hj : (ops[j]?).bind (·.dst) = some g) (hb : look e g = some (.bool b)) (hw : b = !want) (hd : Nat.ble (d + 1) n = true)
    (k : ∀ a', Fits n a' ((d, undef) :: e) → pl P ops Q C r a' w) : pl P ops Q C ((b2, ⟨some d, op, t, p, af, some (j, want)⟩) :: r) a w := by
  have hy : yielded ops a.tmps j = some b := by simp [yielded, hj, F.slot _ _ hb]
  have hne : Region.wanted ⟨some d, op, t, p, af, some (j, want)⟩ (yielded ops a.tmps) = false := by
    subst hw; cases want <;> simp [Region.wanted, hy]
  cases b2 with
  | true => exact ⟨undef, Or.inr ⟨hne, rfl⟩, k _ (F.put hd)⟩
  | false => exact ⟨fun h => (by rw [hne] at h; cases h), fun _ => k _ (F.put hd)⟩
/-- What acts: by the rules of an ordered region. -/
theorem pl_act {o : Oper} (h : rl P ops (fun e a w => match e with | .normal => ∃ C' : World → Prop, C' w ∧ (∀ w, C' w → C w) ∧ pl P ops Q C' r a w | e => Q e a w) [o] a w) (hg : o.guard = none) : pl P ops Q C ((false, o) :: r) a w := by
  obtain ⟨h1, h2⟩ := h
  have hw : Region.wanted o (yielded ops a.tmps) = true := by simp [Region.wanted, hg]
  refine ⟨fun _ => ?_, fun h => by rw [hw] at h; cases h⟩
  have h3 := h1 hw
  unfold Oper.wp at *
  generalize (execOp a.eval o).run P w = x at *
  cases x with
  | ok nx w' =>
    cases nx <;> simp only [Oper.upon] at h3 ⊢
    case value u => exact h3
    case skip => exact h3
    case defer d => exact h3
    case enter f args =>
      refine Calls.mono h3 fun e w'' he => ?_
      cases e with
      | returned u => exact he
      | panicked c => exact he
      | outgrown => obtain ⟨a0, w0, h0⟩ := he; exact ⟨a0, w0, h0⟩
    case row row args => exact h3
  | halt x w' => cases x <;> simp only [Oper.upon] at h3 ⊢ <;> exact h3
/-! ### Small laws -/
theorem agf {s : TypeId} {i : TI} (h : TOK P s i) (ha : i.k.agg = some false) : (tk P s).agg = some false := by rw [h.k]; exact ha
theorem Mem.cellsL (M : Mem w0 G L w) {k b : Nat} {cs : List Value} {t : TypeId} (hk : L[k]? = some (.blk b cs t)) {o m : Nat} {us : List Value} (hu : (cs.drop o).take m = us) : ∀ j, j < m → w.cell? ⟨b, o + j, none⟩ = us[j]? := by
  intro j hj
  have hh : w.heap[b]? = some (.cells cs.toArray t (0, 0)) := M.own _ (List.mem_of_getElem? hk)
  subst hu
  simp [World.cell?, hh, hj]
theorem Mem.cellsA (M : Mem w0 G L w) {b o z : Nat} {cs : List Value} (hA : At G b o cs) (q : Nat) (hz : z = o + q) {m : Nat} {us : List Value} (hu : (cs.drop q).take m = us) (hl : us.length = m := by rfl) : ∀ j, j < m → w.cell? ⟨b, z + j, none⟩ = us[j]? := by
  intro j hj
  subst hu hz
  obtain ⟨v, hv⟩ := get_of_lt (xs := (cs.drop q).take m) (i := j) (by omega)
  rw [hv]
  rw [List.getElem?_take, if_pos hj, List.getElem?_drop] at hv
  have := M.cell (hA (q + j) v hv)
  rw [Nat.add_assoc]
  exact this
theorem Keep.cellsL (M : Keep G L w) {k b : Nat} {cs : List Value} {t : TypeId} (hk : L[k]? = some (.blk b cs t)) {o m : Nat} {us : List Value} (hu : (cs.drop o).take m = us) : ∀ j, j < m → w.cell? ⟨b, o + j, none⟩ = us[j]? := by
  intro j hj
  have hh : w.heap[b]? = some (.cells cs.toArray t (0, 0)) := M.own _ (List.mem_of_getElem? hk)
  subst hu
  simp [World.cell?, hh, hj]
theorem Keep.cellsA (M : Keep G L w) {b o z : Nat} {cs : List Value} (hA : At G b o cs) (q : Nat) (hz : z = o + q) {m : Nat} {us : List Value} (hu : (cs.drop q).take m = us) (hl : us.length = m := by rfl) : ∀ j, j < m → w.cell? ⟨b, z + j, none⟩ = us[j]? := by
  intro j hj
  subst hu hz
  obtain ⟨v, hv⟩ := get_of_lt (xs := (cs.drop q).take m) (i := j) (by omega)
  rw [hv]
  rw [List.getElem?_take, if_pos hj, List.getElem?_drop] at hv
  have := M.cell (hA (q + j) v hv)
  rw [Nat.add_assoc]
  exact this

/-- Element j of the slice at this address lies there. -/
def Ix (ad : Option Addr) (m j sz b o : Nat) : Prop := ∃ o0, ad = some ⟨b, o0, none⟩ ∧ o = o0 + j * sz ∧ j < m
theorem RdSl.at {α : Type} {rd : Rd α} {sz : Nat} {ad : Option Addr} {m c : Nat} {xs : List α} (S : RdSl rd sz G (.slice ad m c) xs) {j : Nat} {X : α} (hX : xs[j]? = some X) :
    ∃ b o cs, Ix ad m j sz b o ∧ cs.length = sz ∧ At G b o cs ∧ rd G cs X := by
  obtain ⟨b, o, cs, h1, h2, h3, h4, h5⟩ := S.index hX
  exact ⟨b, _, cs, ⟨o, h1, rfl, by rw [h2]; exact lt_of_get hX⟩, h3, h4, h5⟩
theorem run_indexI {ρ : Operand → Value} {dd : Option Tmp} {g : Option (Nat × Bool)} {s et : TypeId} {i : TI} {x y : Operand} {ad : Option Addr} {m c : Nat} {k : IntKind} {z : Int} {j b o : Nat}
    (hs : tk P s = .slice et) (ht : TOK P et i) (hx : ρ x = .slice ad m c) (hy : ρ y = .int k z) (hzj : z = (j : Int)) (I : Ix ad m j i.size b o) :
    (execOp ρ ⟨dd, .indexAddr s x y, t, p, af, g⟩).run P w = .ok (.value (.pointer (some ⟨b, o, none⟩))) w := by
  obtain ⟨o0, rfl, rfl, hlt⟩ := I
  subst hzj
  exact run_indexAddr hs ht hx hy hlt
/-- A part of a slice lies there. -/
def Sx (ad : Option Addr) (c l sz : Nat) (a1 : Option Addr) (c1 : Nat) : Prop := (if c = l then ad else ad.map (·.add (l * sz))) = a1 ∧ c - l = c1
theorem RdSl.part {α : Type} {rd : Rd α} {sz : Nat} {ad : Option Addr} {m c : Nat} {xs : List α} (S : RdSl rd sz G (.slice ad m c) xs) (l h : Nat) (h1 : l ≤ h) (h2 : h ≤ xs.length) :
    ∃ a1 c1, Sx ad c l sz a1 c1 ∧ m = xs.length ∧ m ≤ c ∧ RdSl rd sz G (.slice a1 (h - l) c1) ((xs.take h).drop l) := by
  obtain ⟨e1, e2, _⟩ := S.cells
  obtain ⟨a1, e3, e4⟩ := S.sub h1 h2
  exact ⟨a1, _, ⟨e3, rfl⟩, e1, e2, e4⟩
theorem RdSl.partT {α : Type} {rd : Rd α} {sz : Nat} {ad : Option Addr} {m c : Nat} {xs : List α} (S : RdSl rd sz G (.slice ad m c) xs) (h : Nat) (h2 : h ≤ xs.length) :
    ∃ a1 c1, Sx ad c 0 sz a1 c1 ∧ m = xs.length ∧ m ≤ c ∧ RdSl rd sz G (.slice a1 (h - 0) c1) (xs.take h) := by
  have := S.part 0 h (Nat.zero_le _) h2
  simpa using this
theorem RdSl.partD {α : Type} {rd : Rd α} {sz : Nat} {ad : Option Addr} {m c : Nat} {xs : List α} (S : RdSl rd sz G (.slice ad m c) xs) (l : Nat) (h2 : l ≤ xs.length) :
    ∃ a1 c1, Sx ad c l sz a1 c1 ∧ m = xs.length ∧ m ≤ c ∧ RdSl rd sz G (.slice a1 (xs.length - l) c1) (xs.drop l) := by
  have := S.part l xs.length h2 (Nat.le_refl _)
  rw [List.take_of_length_le (Nat.le_refl _)] at this
  exact this
theorem run_sliceI {ρ : Operand → Value} {dd : Option Tmp} {g : Option (Nat × Bool)} {s et : TypeId} {i : TI} {x : Operand} {lo hi : Option Operand} {ad a1 : Option Addr} {m c l h c1 : Nat} {kl kh : IntKind} {zl zh : Int}
    (hs : tk P s = .slice et) (ht : TOK P et i) (I : Sx ad c l i.size a1 c1) (hx : ρ x = .slice ad m c)
    (hl : match lo with | none => l = 0 | some y => ρ y = .int kl zl ∧ zl = (l : Int)) (hh : match hi with | none => h = m | some y => ρ y = .int kh zh ∧ zh = (h : Int)) (h1 : l ≤ h) (h2 : h ≤ c) :
    (execOp ρ ⟨dd, .slice s x lo hi none, t, p, af, g⟩).run P w = .ok (.value (.slice a1 (h - l) c1)) w := by
  obtain ⟨rfl, rfl⟩ := I
  exact run_slice_op hs ht hx hl hh h1 h2

theorem run_max2 {ρ : Operand → Value} {dd : Option Tmp} {g : Option (Nat × Bool)} {ats : Array TypeId} {x y : Operand} {k : IntKind} {b c : Int} (hx : ρ x = .int k b) (hy : ρ y = .int k c) :
    (execOp ρ ⟨dd, .call ⟨.builtin .max, #[x, y], ats⟩, t, p, af, g⟩).run P w = .ok (.value (.int k (max b c))) w := by
  have h0 : (if b < c then c else b) = max b c := by rw [Int.max_def]; split <;> split <;> omega
  simp [execOp, resolve, invoke, builtin, Builtin.max_, Builtin.max2, hx, hy, h0]
theorem run_min2 {ρ : Operand → Value} {dd : Option Tmp} {g : Option (Nat × Bool)} {ats : Array TypeId} {x y : Operand} {k : IntKind} {b c : Int} (hx : ρ x = .int k b) (hy : ρ y = .int k c) :
    (execOp ρ ⟨dd, .call ⟨.builtin .min, #[x, y], ats⟩, t, p, af, g⟩).run P w = .ok (.value (.int k (min b c))) w := by
  have h0 : (if c < b then c else b) = min b c := by rw [Int.min_def]; split <;> split <;> omega
  simp [execOp, resolve, invoke, builtin, Builtin.min_, Builtin.min2, hx, hy, h0]

/-! ### Elements of owned rows -/
theorem Mem.atRow {α : Type} {rd : Rd α} {sz : Nat} (M : Mem w0 G L w) {k m c : Nat} {ad : Option Addr} {cs : List Value} {bt : TypeId} {xs : List α} (hk : L[k]? = some (.row (.slice ad m c) m cs bt sz)) (hpos : 0 < sz) (E : Els rd sz G cs xs)
    {j : Nat} {X : α} (hX : xs[j]? = some X) :
    ∃ b ch, Ix ad m j sz b (j * sz) ∧ m = xs.length ∧ ch.length = sz ∧ (∀ (q : Nat) (v : Value), ch[q]? = some v → w.cell? ⟨b, j * sz + q, none⟩ = some v) ∧ rd G ch X := by
  obtain ⟨l, ch, rr, h1, h2, h3, h4, h5⟩ := E.get hX
  have hm : m = xs.length := by
    have h6 := E.length
    rw [(M.row_at hk).1.1] at h6
    exact Nat.eq_of_mul_eq_mul_right hpos h6
  have hlt := lt_of_get hX
  obtain ⟨b, rfl⟩ := M.row_some hk (by omega)
  refine ⟨b, ch, ⟨0, rfl, (Nat.zero_add _).symm, by omega⟩, hm, h3, fun q v hq => M.row_cell hk ?_, h4⟩
  rw [h1, List.append_assoc, List.getElem?_append_right (by omega), h2, Nat.add_sub_cancel_left, List.getElem?_append_left (lt_of_get hq), hq]
theorem cellE {b o z : Nat} {cs : List Value} {v : Value} (hA : ∀ (q : Nat) (v : Value), cs[q]? = some v → w.cell? ⟨b, o + q, none⟩ = some v) (q : Nat) (hz : z = o + q) (hv : cs[q]? = some v) : w.cell? ⟨b, z, none⟩ = some v := by
  subst hz; exact hA q v hv
theorem Mem.cellA (M : Mem w0 G L w) {b o z : Nat} {cs : List Value} {v : Value} (hA : At G b o cs) (q : Nat) (hz : z = o + q) (hv : cs[q]? = some v) : w.cell? ⟨b, z, none⟩ = some v := by
  subst hz; exact M.cell (hA q v hv)
theorem Keep.cellA (M : Keep G L w) {b o z : Nat} {cs : List Value} {v : Value} (hA : At G b o cs) (q : Nat) (hz : z = o + q) (hv : cs[q]? = some v) : w.cell? ⟨b, z, none⟩ = some v := by
  subst hz; exact M.cell (hA q v hv)
theorem cellsE {b o z : Nat} {cs : List Value} (hA : ∀ (q : Nat) (v : Value), cs[q]? = some v → w.cell? ⟨b, o + q, none⟩ = some v) (q : Nat) (hz : z = o + q) {m : Nat} {us : List Value} (hu : (cs.drop q).take m = us) (hl : us.length = m := by rfl) : ∀ j, j < m → w.cell? ⟨b, z + j, none⟩ = us[j]? := by
  intro j hj
  subst hu hz
  obtain ⟨v, hv⟩ := get_of_lt (xs := (cs.drop q).take m) (i := j) (by omega)
  rw [hv]
  rw [List.getElem?_take, if_pos hj, List.getElem?_drop] at hv
  rw [Nat.add_assoc]
  exact hA (q + j) v hv

/-- A store of a whole element into an owned row. -/
theorem rl_storeEl {α : Type} {rd : Rd α} {sz : Nat} {et bt : TypeId} {i : TI} {x y : Operand} {v : Value} {k m c b o j : Nat} {ad : Option Addr} {cs us : List Value} {xs : List α} {X' : α} {r : List Oper}
    (F : Fits n a e) (M : Mem w0 G L w) (ht : TOK P et i) (hk : L[k]? = some (.row (.slice ad m c) m cs bt sz)) (hsz : i.size = sz) (E : Els rd sz G cs xs) (I : Ix ad m j sz b o) (hj : j < xs.length)
    (hx : ev e x = some (.pointer (some ⟨b, o, none⟩))) (hy : ev e y = some v) (hv : v.cells = us.toArray) (hl : us.length = sz) (hu : ∀ u ∈ us, u.oneCell' = true) (hr : rd G us X')
    (kk : ∀ cs' w' a', Mem w0 G (L.set k (.row (.slice ad m c) m cs' bt sz)) w' → Els rd sz G cs' (xs.set j X') → Fits n a' e → rl P ops Q r a' w') : rl P ops Q (⟨none, .store et x y, t, p, af, none⟩ :: r) a w := by
  obtain ⟨X, hX⟩ := get_of_lt hj
  obtain ⟨l, ch, rr, h1, h2, h3, h4, h5⟩ := E.get hX
  obtain ⟨b', hb⟩ := M.row_some hk (by obtain ⟨_, _, _, h⟩ := I; omega)
  obtain ⟨o0, he, ho, hlt⟩ := I
  rw [hb] at he
  simp only [Option.some.injEq, Addr.mk.injEq, and_true] at he
  obtain ⟨rfl, rfl⟩ := he
  subst hb
  subst hsz
  refine rl_storeRow F M ht hk hx hy hv hl hu ?_ ?_
  · rw [h1]; simp only [List.length_append]; omega
  · intro w' a' M' F'
    refine kk _ w' a' M' ?_ F'
    rw [h1, ho, Nat.zero_add, ← h2, over_mid us l ch rr (by omega)]
    exact h5 us X' hl hr

/-- A store into one cell of an element of an owned row. -/
theorem rl_storeElF {α : Type} {rd : Rd α} {sz : Nat} {et bt : TypeId} {i : TI} {x y : Operand} {v : Value} {k m c b o j f z : Nat} {ad : Option Addr} {cs : List Value} {xs : List α} {X X' : α} {r : List Oper}
    (F : Fits n a e) (M : Mem w0 G L w) (ht : TOK P et i) (h1 : i.size = 1) (hk : L[k]? = some (.row (.slice ad m c) m cs bt sz)) (E : Els rd sz G cs xs) (I : Ix ad m j sz b o) (hX : xs[j]? = some X) (hf : f < sz)
    (hx : ev e x = some (.pointer (some ⟨b, z, none⟩))) (hz : z = o + f) (hy : ev e y = some v) (hv : v.oneCell' = true) (hr : ∀ ch, ch.length = sz → rd G ch X → rd G (ch.set f v) X')
    (kk : ∀ cs' w' a', Mem w0 G (L.set k (.row (.slice ad m c) m cs' bt sz)) w' → Els rd sz G cs' (xs.set j X') → Fits n a' e → rl P ops Q r a' w') : rl P ops Q (⟨none, .store et x y, t, p, af, none⟩ :: r) a w := by
  subst hz
  obtain ⟨l, ch, rr, e1, e2, e3, e4, e5⟩ := E.get hX
  obtain ⟨b', hb⟩ := M.row_some hk (by obtain ⟨_, _, _, h⟩ := I; omega)
  obtain ⟨o0, he, ho, hlt⟩ := I
  rw [hb] at he
  simp only [Option.some.injEq, Addr.mk.injEq, and_true] at he
  obtain ⟨rfl, rfl⟩ := he
  subst hb
  have hq : cs[o + f]? = some ch[f] := by
    rw [e1, List.append_assoc, List.getElem?_append_right (by omega), e2, ho, Nat.zero_add, Nat.add_sub_cancel_left, List.getElem?_append_left (by omega), List.getElem?_eq_getElem]
  refine rl_skip F (run_store1 ht h1 (F.ev hx) (F.ev hy) ?_ ?_ ?_ (M.row_cell hk hq) ((M.row_at hk).1.frozenAt _)) fun a' F' => kk _ _ a' (M.set_row hk (o + f) hv) ?_ F'
  · cases v <;> simp_all [Value.cells, Value.oneCell']
  · intro c hc; subst hc; simp [Value.oneCell'] at hv
  · intro c hc; subst hc; simp [Value.oneCell'] at hv
  · have : cs.set (o + f) v = l ++ ch.set f v ++ rr := by
      rw [e1, ho, Nat.zero_add, ← e2, List.append_assoc, List.append_assoc, List.set_append_right _ _ (by omega), Nat.add_sub_cancel_left, List.set_append_left _ _ (by omega)]
    rw [this]
    exact e5 _ X' (by simpa using e3) (hr ch e3 e4)
end

/-! ### make; calls that change what is owned -/
theorem Els.replicate {α : Type} {rd : Rd α} {sz : Nat} {G : Ghost} {z : List Value} {x : α} (hz : z.length = sz) (hr : rd G z x) : ∀ n : Nat, Els rd sz G (List.replicate n z).flatten (List.replicate n x)
  | 0 => rfl
  | n + 1 => ⟨z, (List.replicate n z).flatten, by simp [List.replicate_succ], hz, hr, Els.replicate hz hr n⟩

theorem made_eq (z : Array Value) : ∀ n : Nat, (madeCells z (n * z.size)).toList = (List.replicate n z.toList).flatten := by
  intro n
  apply List.ext_getElem?
  intro j
  have hlen : ∀ m : Nat, (List.replicate m z.toList).flatten.length = m * z.size := by
    intro m; induction m with
    | zero => simp
    | succ m ih => simp [List.replicate_succ, ih, Nat.add_mul]; omega
  have key : ∀ (m j : Nat), (List.replicate m z.toList).flatten[j]? = if j < m * z.size then some z[j % z.size]! else none := by
    intro m
    induction m with
    | zero => intro j; simp
    | succ m ih =>
      intro j
      rw [List.replicate_succ, List.flatten_cons]
      by_cases hj : j < z.size
      · rw [List.getElem?_append_left (by simpa using hj), if_pos (by rw [Nat.add_mul]; omega), Nat.mod_eq_of_lt hj]
        simp [hj]
      · rw [List.getElem?_append_right (by simpa using Nat.le_of_not_lt hj), ih]
        simp only [Array.length_toList]
        have h2 : j % z.size = (j - z.size) % z.size := Nat.mod_eq_sub_mod (Nat.le_of_not_lt hj)
        rw [h2]
        by_cases h3 : j - z.size < m * z.size
        · rw [if_pos h3, if_pos (by rw [Nat.add_mul]; omega)]
        · rw [if_neg h3, if_neg (by rw [Nat.add_mul]; omega)]
  rw [key]
  by_cases hj : j < n * z.size
  · rw [if_pos hj]
    simp [madeCells, hj]
  · rw [if_neg hj]
    simp [madeCells]
    omega

section
variable {P : Program} {ops : Array Oper} {Q : Exit → Act → World → Prop} {n : Nat} {a : Act} {w w0 : World} {e : Env} {G : Ghost} {L : List Res}
  {d : Nat} {t : TypeId} {p : String} {af : Array Edge} {r : List Oper}

theorem run_make_op {ρ : Operand → Value} {dd : Option Tmp} {g : Option (Nat × Bool)} {s et : TypeId} {i : TI} {x y : Operand} {kl kc : IntKind} {l c : Nat} {zl zc : Int} (hs : tk P s = .slice et) (ht : TOK P et i)
    (hx : ρ x = .int kl zl) (hzl : zl = (l : Int)) (hy : ρ y = .int kc zc) (hzc : zc = (c : Int)) (hlc : l ≤ c) (hb : i.bytes * c ≤ 281474976710656) (h63 : c ≤ 9223372036854775807) :
    (execOp ρ ⟨dd, .makeSlice s x y, t, p, af, g⟩).run P w = .ok (.value (.slice (some ⟨w.heap.size, 0, none⟩) l c)) { w with heap := w.heap.push (.cells (madeCells i.zero.cells (c * i.size)) et (0, 0)) } := by
  obtain ⟨q, h1, h2, h3, h4⟩ := ht.info
  subst hzl hzc
  have hr := run_make (P := P) w s et q i.zero (under_slice hs) h1 h4 kl kc l c (by omega) (by omega) (by
    rw [h3]
    have h5 : ((i.bytes * c : Nat) : Int) ≤ ((281474976710656 : Nat) : Int) := Int.ofNat_le.2 hb
    rw [Int.natCast_mul] at h5
    exact h5) (by omega)
  simp only [execOp, hx, hy, Sem.run_bind, hr, Result.andThen_ok, Sem.run_pure, h2]
  rfl

/-- 'make([]T, n)' -/
theorem rl_make {α : Type} {rd : Rd α} {sz : Nat} {s et : TypeId} {i : TI} {x y : Operand} {kl kc : IntKind} {l : Nat} {zl zc : Int} {Z : α} (F : Fits n a e) (M : Mem w0 G L w) (hs : tk P s = .slice et) (ht : TOK P et i) (hsz : i.size = sz) (hpos : 0 < sz) (hz : i.zero.cells.size = i.size)
    (hx : ev e x = some (.int kl zl)) (hzl : zl = (l : Int)) (hy : ev e y = some (.int kc zc)) (hzc : zc = (l : Int)) (hb : i.bytes * l ≤ 281474976710656) (h63 : l ≤ 9223372036854775807)
    (h1 : ∀ u ∈ i.zero.cells.toList, u.oneCell' = true) (hr : rd G i.zero.cells.toList Z) (hd : Nat.ble (d + 1) n = true)
    (k : ∀ v cs w' a', Mem w0 G (.row v l cs et sz :: L) w' → Els rd sz G cs (List.replicate l Z) → Fits n a' ((d, v) :: e) → rl P ops Q r a' w') :
    rl P ops Q (⟨some d, .makeSlice s x y, t, p, af, none⟩ :: r) a w := by
  subst hsz
  refine rl_run F (run_make_op hs ht (F.ev hx) hzl (F.ev hy) hzc (Nat.le_refl _) hb h63) hd fun a' F' => k _ (List.replicate l i.zero.cells.toList).flatten _ a' ?_ (Els.replicate (by simpa using hz) hr l) F'
  have hm : (madeCells i.zero.cells (l * i.size)) = ((List.replicate l i.zero.cells.toList).flatten ++ []).toArray := by
    rw [List.append_nil, ← made_eq _, hz]
  rw [hm]
  have hl : (List.replicate l i.zero.cells.toList).flatten.length = l * i.size := by
    rw [← made_eq _, Array.length_toList, size_madeCells, hz]
  have h63' : l ≤ maxLen := h63
  refine M.newrow (spare := []) ?_ hl (by rw [List.append_nil]; exact hl) (Nat.le_refl _) h63'
  intro u hu
  obtain ⟨q, hq, hu⟩ := List.mem_flatten.1 hu
  rw [(List.mem_replicate.1 hq).2] at hu
  exact h1 u hu
/-- 'make([]T, 0, c)' -/
theorem rl_make0 {sz : Nat} {s et : TypeId} {i : TI} {x y : Operand} {kl kc : IntKind} {c : Nat} {zl zc : Int} (F : Fits n a e) (M : Mem w0 G L w) (hs : tk P s = .slice et) (ht : TOK P et i) (hsz : i.size = sz)
    (hx : ev e x = some (.int kl zl)) (hzl : zl = ((0 : Nat) : Int)) (hy : ev e y = some (.int kc zc)) (hzc : zc = (c : Int)) (hb : i.bytes * c ≤ 281474976710656) (h63 : c ≤ 9223372036854775807) (hd : Nat.ble (d + 1) n = true)
    (k : ∀ b w' a', Mem w0 G (.row (.slice (some ⟨b, 0, none⟩) 0 c) 0 [] et sz :: L) w' → Fits n a' ((d, .slice (some ⟨b, 0, none⟩) 0 c) :: e) → rl P ops Q r a' w') :
    rl P ops Q (⟨some d, .makeSlice s x y, t, p, af, none⟩ :: r) a w := by
  subst hsz
  refine rl_run F (run_make_op hs ht (F.ev hx) hzl (F.ev hy) hzc (Nat.zero_le _) hb h63) hd fun a' F' => k _ _ a' ?_ F'
  have hm : madeCells i.zero.cells (c * i.size) = ([] ++ (madeCells i.zero.cells (c * i.size)).toList).toArray := by simp
  rw [hm]
  have h63' : c ≤ maxLen := h63
  exact M.newrow (cs := []) (n := 0) (by simp) (by simp) (by simp [size_madeCells]) (Nat.zero_le _) h63'

def RetL (w0 : World) (G : Ghost) (Φ : List Res → Value → Prop) : Ending → World → Prop
  | .returned v, w' => ∃ L', Mem w0 G L' w' ∧ Φ L' v
  | _, _ => False
theorem rl_callL {f : FuncId} {args : List Operand} {ats : Array TypeId} {vs : List Value} {Φ : List Res → Value → Prop}
    (F : Fits n a e) (hE : Ent P f) (hv : evs e args = some vs) (hd : Nat.ble (d + 1) n = true) (hs : Calls P f vs.toArray w (RetL w0 G Φ))
    (k : ∀ v L' w' a', Mem w0 G L' w' → Φ L' v → Fits n a' ((d, v) :: e) → rl P ops Q r a' w') :
    rl P ops Q (⟨some d, .call ⟨.value (.func f), args.toArray, ats⟩, t, p, af, none⟩ :: r) a w := by
  refine rl_callv (caps := []) F hE rfl hv hd (by rw [List.append_nil]; exact hs) fun x w' hx => ?_
  cases x with
  | returned v => obtain ⟨L', h1, h2⟩ := hx; exact ⟨v, rfl, fun a' F' => k v L' w' a' h1 h2 F'⟩
  | panicked c => exact hx.elim
  | outgrown => exact hx.elim
end
end Go.Y
