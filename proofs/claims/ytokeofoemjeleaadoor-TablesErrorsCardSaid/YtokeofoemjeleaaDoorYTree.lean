/- The proof core, regions that draw their order: a plan that is a tree: where several operations that act are free at once, a branch for each. -/
import Derived.Test.YtokeofoemjeleaaDoorYPlan
namespace Go.Y
open Go Go.RowKit

inductive PT where
  | fin
  | run (i : Nat) (r : PT)
  | act (i : Nat) (r alt : PT)
  | no
inductive PO where
  | fin
  | run (o : Oper) (r : PO)
  | act (o : Oper) (r alt : PO)
  | no

section
variable {P : Program} {ops : Array Oper} {Q : Exit → Act → World → Prop} {C : World → Prop}

def planT (ops : Array Oper) : PT → PO
  | .fin => .fin
  | .no => .no
  | .run i r => match ops[i]? with
    | some o => .run o (planT ops r)
    | none => .no
  | .act i r alt => match ops[i]? with
    | some o => .act o (planT ops r) (planT ops alt)
    | none => .no

def ptl (P : Program) (ops : Array Oper) (Q : Exit → Act → World → Prop) : (World → Prop) → PO → Act → World → Prop
  | _, .fin, a, w => Q .normal a w
  | _, .no, _, _ => True
  | C, .run o r, a, w => ∃ v, Gives P ops C o v a ∧ ptl P ops Q C r (a.put o.dst v) w
  | C, .act o r alt, a, w =>
    ((Region.wanted o (yielded ops a.tmps) = true → o.wp P a w (fun a' w' => ∃ C' : World → Prop, C' w' ∧ (∀ w, C' w → C w) ∧ ptl P ops Q C' r a' w') Q) ∧
    (Region.wanted o (yielded ops a.tmps) = false → ptl P ops Q C r (a.put o.dst undef) w)) ∧ ptl P ops Q C alt a w

def headsT : PT → List Nat
  | .act i _ alt => i :: headsT alt
  | _ => []

def okT (ops : Array Oper) : Bool → PT → Nat → Array Bool → Bool
  | top, .fin, n, listed => top && Nat.beq n 0 && (Region.ready .any ops listed).isEmpty
  | top, .no, _, _ => !top
  | top, .run i r, n + 1, listed => top && Nat.ble (i + 1) ops.size && (Region.ready .any ops listed).any (Nat.beq i) && freeB ops i listed && okT ops true r n (listed.setIfInBounds i true)
  | top, .act i r alt, n + 1, listed => (!top || (!(Region.ready .any ops listed).isEmpty && (Region.ready .any ops listed).all fun j => (i :: headsT alt).any (Nat.beq j))) && Nat.ble (i + 1) ops.size && okT ops true r n (listed.setIfInBounds i true) && okT ops false alt (n + 1) listed
  | _, .run _ _, 0, _ => false
  | _, .act _ _ _, 0, _ => false

theorem anyC_of_ptl (hsel : ∀ (j : Nat) (o : Oper) cs b, ops[j]? = some o → o.op ≠ .select cs b) (hQ : ∀ c a d v w, Q (.panic c) (a.put d v) w → Q (.panic c) a w) : ∀ (t : PT),
    (∀ (n : Nat) (C : World → Prop) (listed : Array Bool) (a : Act) (w : World), okT ops true t n listed = true → C w → ptl P ops Q C (planT ops t) a w → anyC P ops Q C n listed a w) ∧
    (∀ (n : Nat) (C : World → Prop) (listed : Array Bool) (a : Act) (w : World), okT ops false t (n + 1) listed = true → C w → ptl P ops Q C (planT ops t) a w →
      ∀ i ∈ headsT t, wpOp P ops Q i (fun a' w' => ∃ C' : World → Prop, C' w' ∧ (∀ w, C' w → C w) ∧ anyC P ops Q C' n (listed.setIfInBounds i true) a' w') a w)
  | .fin => by
    refine ⟨fun n C listed a w hok hC h => ?_, fun n C listed a w hok hC h i hi => by simp [headsT] at hi⟩
    simp only [okT, Bool.and_eq_true, Bool.true_and] at hok
    have hn := Nat.eq_of_beq_eq_true hok.1
    subst hn
    exact ⟨by simpa using hok.2, h⟩
  | .no => by
    refine ⟨fun n C listed a w hok hC h => by simp [okT] at hok, fun n C listed a w hok hC h i hi => by simp [headsT] at hi⟩
  | .run i r => by
    obtain ⟨ih, _⟩ := anyC_of_ptl hsel hQ r
    refine ⟨fun n C listed a w hok hC h => ?_, fun n C listed a w hok hC h j hj => by simp [headsT] at hj⟩
    cases n with
    | zero => simp [okT] at hok
    | succ n =>
      simp only [okT, Bool.and_eq_true, Bool.true_and] at hok
      obtain ⟨⟨⟨hlt, hr⟩, hf⟩, hok⟩ := hok
      have hlt' : i < ops.size := Nat.le_of_ble_eq_true hlt
      have hi : ops[i]? = some ops[i] := Array.getElem?_eq_getElem hlt'
      simp only [planT, hi] at h
      obtain ⟨v, hy, h'⟩ := h
      have hr' : i ∈ Region.ready .any ops listed := by
        obtain ⟨j, hj, hb⟩ := List.any_eq_true.1 hr
        rw [Nat.eq_of_beq_eq_true hb]; exact hj
      refine anyC_first hi hsel (fun c a w => hQ c a _ v w) n C listed a w hC ?_ hr' hy (ih n C _ _ w hok hC h')
      intro j oj hj hji hun hno
      unfold freeB at hf
      simp only [hi] at hf
      have hlj : j < ops.size := by
        rcases Nat.lt_or_ge j ops.size with h' | h'
        · exact h'
        · rw [Array.getElem?_eq_none h'] at hj; cases hj
      have := List.all_eq_true.1 hf j (List.mem_range.2 hlj)
      simp only [hj, Bool.or_eq_true] at this
      rcases this with ((h1 | h1) | h1) | h1
      · exact absurd (Nat.eq_of_beq_eq_true h1) hji
      · rw [h1] at hun; cases hun
      · obtain ⟨e, he, hb⟩ := Array.any_eq_true'.1 h1
        simp only [Bool.and_eq_true] at hb
        exact absurd (Nat.eq_of_beq_eq_true hb.2) (hno e he hb.1)
      · exact h1
  | .act i r alt => by
    obtain ⟨ih, _⟩ := anyC_of_ptl hsel hQ r
    obtain ⟨_, ih2⟩ := anyC_of_ptl hsel hQ alt
    have key : ∀ (n : Nat) (C : World → Prop) (listed : Array Bool) (a : Act) (w : World), i < ops.size → okT ops true r n (listed.setIfInBounds i true) = true → okT ops false alt (n + 1) listed = true → C w →
        ptl P ops Q C (planT ops (.act i r alt)) a w → ∀ j ∈ headsT (.act i r alt), wpOp P ops Q j (fun a' w' => ∃ C' : World → Prop, C' w' ∧ (∀ w, C' w → C w) ∧ anyC P ops Q C' n (listed.setIfInBounds j true) a' w') a w := by
      intro n C listed a w hlt h1 h2 hC h j hj
      have hi : ops[i]? = some ops[i] := Array.getElem?_eq_getElem hlt
      simp only [planT, hi] at h
      obtain ⟨⟨h3, h4⟩, h5⟩ := h
      rcases List.mem_cons.1 hj with rfl | hj
      · unfold wpOp
        simp only [hi]
        by_cases hw : Region.wanted ops[j] (yielded ops a.tmps) = true
        · rw [if_pos hw]
          left
          exact Oper.wp_mono (fun a' w' hk => by
            obtain ⟨C', h6, h7, h8⟩ := hk
            exact ⟨C', h6, h7, ih n C' _ a' w' h1 h6 h8⟩) (h3 hw)
        · rw [if_neg hw]
          exact ⟨C, hC, fun _ h => h, ih n C _ _ w h1 hC (h4 (by simpa using hw))⟩
      · exact ih2 n C listed a w h2 hC h5 j hj
    refine ⟨fun n C listed a w hok hC h => ?_, fun n C listed a w hok hC h => ?_⟩
    · cases n with
      | zero => simp [okT] at hok
      | succ n =>
        simp only [okT, Bool.and_eq_true, Bool.not_true, Bool.false_or] at hok
        obtain ⟨⟨⟨⟨hne, hall⟩, hlt⟩, h1⟩, h2⟩ := hok
        have hk := key n C listed a w (Nat.le_of_ble_eq_true hlt) h1 h2 hC h
        refine ⟨fun h0 => by rw [h0] at hne; simp at hne, fun j hj => hk j ?_⟩
        have := List.all_eq_true.1 hall j hj
        obtain ⟨q, hq, hb⟩ := List.any_eq_true.1 this
        rw [Nat.eq_of_beq_eq_true hb]; exact hq
    · simp only [okT, Bool.and_eq_true, Bool.not_false, Bool.true_or, Bool.true_and] at hok
      obtain ⟨⟨hlt, h1⟩, h2⟩ := hok
      exact key n C listed a w (Nat.le_of_ble_eq_true hlt) h1 h2 hC h

def treeCheck (l : List Oper) (t : PT) : Bool := Region.noSelect l.toArray && okT l.toArray true t l.length (Array.replicate l.length false)

theorem w_tree {id : Nat} {l : List Oper} {a : Act} {w : World} (t : PT) (C : World → Prop) (hm : P.follows .mixedOrders = true) (hk : treeCheck l t = true)
    (hQ : ∀ c a d v w, Q (.panic c) (a.put d v) w → Q (.panic c) a w) (hC : C { w with drawn := w.drawn + 1 }) (h : ptl P l.toArray Q C (planT l.toArray t) a { w with drawn := w.drawn + 1 }) : (Code.region id l.toArray true).wp P Q a w := by
  simp only [treeCheck, Bool.and_eq_true] at hk
  refine wp_region_any hm (any_of_anyC _ C _ _ _ ?_)
  have := (anyC_of_ptl (P := P) (Region.noSelect_spec hk.1) hQ t).1 l.length C _ a _ hk.2 hC h
  simpa using this
end

section
variable {P : Program} {ops : Array Oper} {Q : Exit → Act → World → Prop} {C : World → Prop} {n : Nat} {a : Act} {w : World} {e : Env} {d : Nat} {t : TypeId} {p : String} {af : Array Edge} {r alt : PO}
theorem pt_fin (h : Q .normal a w) : ptl P ops Q C .fin a w := h
theorem pt_no : ptl P ops Q C .no a w := trivial
theorem pt_run {op : Op} {v : Value} (F : Fits n a e) (hr : ∀ w, C w → (execOp a.eval ⟨some d, op, t, p, af, none⟩).run P w = .ok (.value v) w) (hd : Nat.ble (d + 1) n = true)
    (k : ∀ a', Fits n a' ((d, v) :: e) → ptl P ops Q C r a' w) : ptl P ops Q C (.run ⟨some d, op, t, p, af, none⟩ r) a w :=
  ⟨v, Or.inl ⟨rfl, hr⟩, k _ (F.put hd)⟩
theorem pt_guard_run {op : Op} {v : Value} {j g : Nat} {want b : Bool} (F : Fits n a e) (hj : (ops[j]?).bind (·.dst) = some g) (hb : look e g = some (.bool b)) (hw : b = want)
    (hr : ∀ w, C w → (execOp a.eval ⟨some d, op, t, p, af, some (j, want)⟩).run P w = .ok (.value v) w) (hd : Nat.ble (d + 1) n = true)
    (k : ∀ a', Fits n a' ((d, v) :: e) → ptl P ops Q C r a' w) : ptl P ops Q C (.run ⟨some d, op, t, p, af, some (j, want)⟩ r) a w := by
  have hy : yielded ops a.tmps j = some b := by simp [yielded, hj, F.slot _ _ hb]
  subst hw
  exact ⟨v, Or.inl ⟨by simp [Region.wanted, hy], hr⟩, k _ (F.put hd)⟩
theorem pt_guard_skip {op : Op} {j g : Nat} {want b : Bool} (F : Fits n a e) (hj : (ops[j]?).bind (·.dst) = some g) (hb : look e g = some (.bool b)) (hw : b = !want) (hd : Nat.ble (d + 1) n = true)
    (k : ∀ a', Fits n a' ((d, undef) :: e) → ptl P ops Q C r a' w) : ptl P ops Q C (.run ⟨some d, op, t, p, af, some (j, want)⟩ r) a w := by
  have hy : yielded ops a.tmps j = some b := by simp [yielded, hj, F.slot _ _ hb]
  have hne : Region.wanted ⟨some d, op, t, p, af, some (j, want)⟩ (yielded ops a.tmps) = false := by
    subst hw; cases want <;> simp [Region.wanted, hy]
  exact ⟨undef, Or.inr ⟨hne, rfl⟩, k _ (F.put hd)⟩
theorem pt_act {o : Oper} (h : rl P ops (fun e a w => match e with | .normal => ∃ C' : World → Prop, C' w ∧ (∀ w, C' w → C w) ∧ ptl P ops Q C' r a w | e => Q e a w) [o] a w) (hg : o.guard = none) (ha : ptl P ops Q C alt a w) :
    ptl P ops Q C (.act o r alt) a w := by
  obtain ⟨h1, h2⟩ := h
  have hw : Region.wanted o (yielded ops a.tmps) = true := by simp [Region.wanted, hg]
  refine ⟨⟨fun _ => ?_, fun h => by rw [hw] at h; cases h⟩, ha⟩
  have h3 := h1 hw
  unfold Oper.wp at *
  generalize (execOp a.eval o).run P w = x at *
  cases x with
  | ok nx w' =>
    cases nx <;> simp only [Oper.upon] at h3 ⊢
    case value u => exact h3
    case skip => exact h3
    case defer d => exact h3
    case enter f args =>
      refine Calls.mono h3 fun e w'' he => ?_
      cases e with
      | returned u => exact he
      | panicked c => exact he
      | outgrown => obtain ⟨a0, w0, h0⟩ := he; exact ⟨a0, w0, h0⟩
    case row row args => exact h3
  | halt x w' => cases x <;> simp only [Oper.upon] at h3 ⊢ <;> exact h3
end
end Go.Y
