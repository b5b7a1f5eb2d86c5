/- Regions that draw their order, by an invariant: several threads (load the argument, call, allocate, store) in any order. -/
import Derived.Test.YtlnehkjmmegkhaaGreatYC
namespace Go.Y
open Go Go.RowKit
/-! ### An invariant over what was done -/
def upd (s : Nat → Bool) (j : Nat) : Nat → Bool := fun i => if i = j then true else s i
theorem upd_eq {s : Nat → Bool} {j : Nat} : upd s j j = true := by simp [upd]
theorem upd_ne {s : Nat → Bool} {i j : Nat} (h : i ≠ j) : upd s j i = s i := by simp [upd, h]
def unl : List Bool → Nat
 | [] => 0
 | true :: l => unl l
 | false :: l => unl l + 1
theorem unl_set : ∀ (L : List Bool) (j : Nat), L[j]? = some false → unl (L.set j true) + 1 = unl L
 | [], j, h => by simp at h
 | b :: l, 0, h => by simp only [List.getElem?_cons_zero, Option.some.injEq] at h; subst h; rfl
 | true :: l, j + 1, h => by simp only [List.getElem?_cons_succ] at h; exact unl_set l j h
 | false :: l, j + 1, h => by simp only [List.getElem?_cons_succ] at h; have := unl_set l j h; simp only [List.set_cons_succ, unl]; omega
theorem unl_zero : ∀ (L : List Bool), unl L = 0 → ∀ j : Nat, L[j]? ≠ some false
 | [], _, j => by simp
 | true :: l, h, 0 => by simp
 | true :: l, h, j + 1 => by simp only [List.getElem?_cons_succ]; exact unl_zero l h j
 | false :: l, h, _ => by simp [unl] at h
section
variable {P : Program} {ops : Array Oper} {Q : Exit → Act → World → Prop}
theorem wp_of_rl1 {o : Oper} {a : Act} {w : World} {K : Act → World → Prop} (h : rl P ops (fun e a w => match e with | .normal => K a w | e => Q e a w) [o] a w) (hw : Region.wanted o (yielded ops a.tmps) = true) : o.wp P a w K Q := by
 have h3 := h.1 hw
 unfold Oper.wp at *
 generalize (execOp a.eval o).run P w = x at *
 cases x with
 | ok nx w' =>
  cases nx <;> simp only [Oper.upon] at h3 ⊢
  case value u => exact h3
  case skip => exact h3
  case defer d => exact h3
  case enter f args =>
   refine Calls.mono h3 fun e w'' he => ?_
   cases e with
   | returned u => exact he
   | panicked c => exact he
   | outgrown => obtain ⟨a0, w0, h0⟩ := he; exact ⟨a0, w0, h0⟩
  case row row args => exact h3
 | halt x w' => cases x <;> simp only [Oper.upon] at h3 ⊢ <;> exact h3
theorem w_inv {id : Nat} {l : List Oper} {a : Act} {w : World} (I : (Nat → Bool) → Act → World → Prop) (hm : P.follows .mixedOrders = true)
  (hback : ∀ j o, l[j]? = some o → o.guard = none ∧ ∀ e ∈ o.after, Region.binds .any e = true → e.on < j)
  (h0 : I (fun _ => false) a { w with drawn := w.drawn + 1 })
  (hstep : ∀ s a w j o, l[j]? = some o → s j = false → (∀ e ∈ o.after, Region.binds .any e = true → s e.on = true) → I s a w →
   rl P l.toArray (fun e a w => match e with | .normal => I (upd s j) a w | e => Q e a w) [o] a w)
  (hend : ∀ s a w, (∀ j, j < l.length → s j = true) → I s a w → Q .normal a w) : (Code.region id l.toArray true).wp P Q a w := by
 have hall : ∀ (listed : Array Bool), listed.size = l.length → Region.ready .any l.toArray listed = [] → ∀ j, j < l.length → listed.getD j false = true := by
  intro listed hs hr j
  induction j using Nat.strongRecOn with
  | _ j ih =>
   intro hj
   cases hb : listed.getD j false with
   | true => rfl
   | false =>
    exfalso
    have hm : j ∈ Region.ready .any l.toArray listed := by
     refine mem_ready.2 ⟨?_, l[j], by simp [hj], fun e he hbd => ih _ ?_ ?_⟩
     ·rw [Array.getD_eq_getD_getElem?, Array.getElem?_eq_getElem (by omega)] at hb ⊢; exact hb
     ·exact (hback j l[j] (by simp [hj])).2 e he hbd
     ·have := (hback j l[j] (by simp [hj])).2 e he hbd; omega
    rw [hr] at hm; cases hm
 have key : ∀ (n : Nat) (listed : Array Bool) (a : Act) (w : World), listed.size = l.length → unl listed.toList ≤ n → I (fun j => listed.getD j false) a w → wpAny P .any l.toArray Q n listed a w := by
  intro n
  induction n with
  | zero =>
   intro listed a w hs hu hI
   have hr : Region.ready .any l.toArray listed = [] := by
    cases hr : Region.ready .any l.toArray listed with
    | nil => rfl
    | cons j _ =>
     exfalso
     have hj : j ∈ Region.ready .any l.toArray listed := by rw [hr]; simp
     obtain ⟨h1, o, h2, _⟩ := mem_ready.1 hj
     refine unl_zero listed.toList (by omega) j ?_
     have hlt : j < listed.size := by
      have := (Array.getElem?_eq_some_iff.1 h2).1; simpa [hs] using this
     rw [Array.getD_eq_getD_getElem?, Array.getElem?_eq_getElem hlt] at h1
     rw [Array.getElem?_toList, Array.getElem?_eq_getElem hlt]
     simpa using h1
   exact ⟨hr, hend _ a w (hall listed hs hr) hI⟩
  | succ n ih =>
   intro listed a w hs hu hI
   refine ⟨fun hr => hend _ a w (hall listed hs hr) hI, fun j hj => ?_⟩
   obtain ⟨h1, o, h2, h3⟩ := mem_ready.1 hj
   have hlj : l[j]? = some o := by simpa using h2
   have hlt : j < listed.size := by
    have := (Array.getElem?_eq_some_iff.1 h2).1; simpa [hs] using this
   have hf : listed.getD j false = false := by
    rw [Array.getD_eq_getD_getElem?, Array.getElem?_eq_getElem hlt] at h1 ⊢; exact h1
   have hw : Region.wanted o (yielded l.toArray a.tmps) = true := by simp [Region.wanted, (hback j o hlj).1]
   unfold wpOp
   simp only [h2, hw, if_true]
   left
   refine Oper.wp_mono (fun a' w' hk => ?_) (wp_of_rl1 (hstep _ a w j o hlj hf h3 hI) hw)
   refine ih _ a' w' (by simp [hs]) ?_ ?_
   ·rw [Array.toList_setIfInBounds]
    have := unl_set listed.toList j (by rw [Array.getElem?_toList]; rw [Array.getD_eq_getD_getElem?, Array.getElem?_eq_getElem hlt] at hf; rw [Array.getElem?_eq_getElem hlt]; simpa using hf)
    omega
   ·have : (fun i => (listed.setIfInBounds j true).getD i false) = upd (fun i => listed.getD i false) j := by
     funext i
     by_cases hij : i = j
     ·subst hij; rw [upd_eq]; simp [hlt]
     ·rw [upd_ne hij, getD_set_ne false (Ne.symm hij)]
    rw [this]; exact hk
 refine wp_region_any hm (key _ _ a _ (by simp) ?_ ?_)
 ·have : ∀ n, unl (List.replicate n false) = n := by
   intro n; induction n with
   | zero => rfl
   | succ n ih => rw [List.replicate_succ]; simp [unl, ih]
  rw [Array.toList_replicate, this]; simp
 ·have : (fun j => (Array.replicate l.toArray.size false).getD j false) = fun _ => false := by
   funext j; rw [Array.getD_eq_getD_getElem?, Array.getElem?_replicate]; split <;> rfl
  rw [this]; exact h0
/-! ### The whole frame as a list -/
def enumE : Nat → List Value → Env
 | _, [] => []
 | k, v :: l => (k, v) :: enumE (k + 1) l
theorem look_enumE : ∀ (l : List Value) (k i : Nat), k ≤ i → look (enumE k l) i = l[i - k]?
 | [], k, i, h => by simp [enumE, look]
 | v :: l, k, i, h => by
  by_cases e : k = i
  ·subst e; simp [enumE, look_cons_eq]
  ·rw [enumE, look_cons_ne e, look_enumE l (k + 1) i (by omega), show i - k = (i - (k + 1)) + 1 by omega, List.getElem?_cons_succ]
theorem full_fits {n : Nat} {a : Act} (hs : a.tmps.size = n) (hd : a.defers = []) : ∃ e, Fits n a e ∧ ∀ i v, a.tmps[i]? = some v → look e i = some v := by
 refine ⟨enumE 0 a.tmps.toList, ⟨hs, hd, fun i v h => ?_⟩, fun i v h => ?_⟩
 ·rw [look_enumE _ _ _ (Nat.zero_le _)] at h; simpa using h
 ·rw [look_enumE _ _ _ (Nat.zero_le _)]; simpa using h
/-! ### Threads -/
structure Thr where
 ld : Nat
 cl : Nat
 al : Nat
 st : Nat
 sp : Nat
 sl : Nat
 sc : Nat
 sa : Nat
 pb : Nat
 bt : TypeId
 t : TypeId
 f : FuncId
 arg : List Value
 zero : List Value
 Good : Ghost → List Value → Prop
def Thr.T (τ : Thr) (s : Nat → Bool) (a : Act) (G : Ghost) (R : List Res) : Prop :=
 (s τ.st = true → s τ.cl = true ∧ s τ.al = true) ∧ (s τ.ld = true → a.tmps[τ.sl]? = some (.agg τ.arg.toArray)) ∧
 ∃ cs, (s τ.cl = true → a.tmps[τ.sc]? = some (.agg cs.toArray) ∧ τ.Good G cs) ∧
  ((s τ.al = false ∧ R = []) ∨ (s τ.al = true ∧ ∃ b, a.tmps[τ.sa]? = some (.pointer (some ⟨b, 0, none⟩)) ∧ R = [.blk b (if s τ.st = true then cs else τ.zero) τ.t]))
/-- One of these edges binds to that operation. -/
def hasB (af : Array Edge) (j : Nat) : Bool := af.toList.any fun e => Region.binds .any e && Nat.beq e.on j
theorem hasB_is {af : Array Edge} {j : Nat} (h : hasB af j = true) : ∃ e ∈ af, Region.binds .any e = true ∧ e.on = j := by
 obtain ⟨e, he, hb⟩ := List.any_eq_true.1 h
 simp only [Bool.and_eq_true] at hb
 exact ⟨e, by simpa using he, hb.1, Nat.eq_of_beq_eq_true hb.2⟩
def nodupB : List Nat → Bool
 | [] => true
 | x :: l => !(l.any (Nat.beq x)) && nodupB l
theorem nodupB_is : ∀ {l : List Nat}, nodupB l = true → l.Nodup
 | [], _ => List.nodup_nil
 | x :: l, h => by
  simp only [nodupB, Bool.and_eq_true, Bool.not_eq_true'] at h
  refine List.nodup_cons.2 ⟨fun hx => ?_, nodupB_is h.2⟩
  have : l.any (Nat.beq x) = true := List.any_eq_true.2 ⟨x, hx, Nat.beq_refl x⟩
  rw [h.1] at this; cases this
/-- What of a thread can be seen in the code. -/
structure Thr.Code (P : Program) (l : List Oper) (n : Nat) (τ : Thr) : Prop where
 oLd : ∃ t p af, l[τ.ld]? = some ⟨some τ.sl, .load τ.bt (.tmp τ.sp), t, p, af, none⟩
 oCl : ∃ ats t p af, l[τ.cl]? = some ⟨some τ.sc, .call ⟨.value (.func τ.f), #[.tmp τ.sl], ats⟩, t, p, af, none⟩ ∧ hasB af τ.ld = true
 oAl : ∃ t p af, l[τ.al]? = some ⟨some τ.sa, .alloc τ.t, t, p, af, none⟩
 oSt : ∃ t p af, l[τ.st]? = some ⟨none, .store τ.t (.tmp τ.sa) (.tmp τ.sc), t, p, af, none⟩ ∧ hasB af τ.cl = true ∧ hasB af τ.al = true
 ops : nodupB [τ.ld, τ.cl, τ.al, τ.st] = true
 slots : nodupB [τ.sl, τ.sc, τ.sa] = true
 fit : Nat.ble (τ.sl + 1) n = true ∧ Nat.ble (τ.sc + 1) n = true ∧ Nat.ble (τ.sa + 1) n = true
 ent : Ent P τ.f
 tb : ∃ i, TOK P τ.bt i ∧ i.k.agg = some true ∧ τ.arg.length = i.size
 tt : ∃ i, TOK P τ.t i ∧ i.zero.cells = τ.zero.toArray ∧ i.size = τ.zero.length
/-- What a thread's call gives. -/
structure Thr.Does (P : Program) (w0 : World) (G0 : Ghost) (Kn : List Res) (τ : Thr) : Prop where
 call : ∀ (w : World) (G : Ghost) (L : List Res), Gle G0 G → (∀ r ∈ Kn, r ∈ L) → Mem w0 G L w → Calls P τ.f #[.agg τ.arg.toArray] w (Ret w0 G L fun G' v => ∃ cs, v = .agg cs.toArray ∧ τ.Good G' cs)
 mono : ∀ G G' cs, Gle G G' → τ.Good G cs → τ.Good G' cs
 good : ∀ G cs, τ.Good G cs → cs.length = τ.zero.length ∧ ∀ u ∈ cs, u.oneCell' = true
theorem over_app' : ∀ (us pre cs : List Value), cs.length = us.length → over (pre ++ cs) pre.length us = pre ++ us
 | [], pre, cs, h => by rw [List.eq_nil_of_length_eq_zero h]; simp [over]
 | u :: us, pre, [], h => by simp at h
 | u :: us, pre, c :: cs, h => by
  have := over_app' us (pre ++ [u]) cs (by simpa using h)
  simp only [over]
  rw [show (pre ++ c :: cs).set pre.length u = (pre ++ [u]) ++ cs by simp]
  simpa using this
theorem over_all' {cs us : List Value} (h : cs.length = us.length) : over cs 0 us = us := over_app' us [] cs h
theorem Thr.step {τ : Thr} {Kn : List Res} {l : List Oper} {n : Nat} {w0 : World} {G0 : Ghost} (hc : τ.Code P l n) (hd : τ.Does P w0 G0 Kn) {s : Nat → Bool} {a : Act} {w : World} {G : Ghost} {R X : List Res} {K : Act → World → Prop} {j : Nat} {o : Oper} (hj : l[j]? = some o)
  (hin : j = τ.ld ∨ j = τ.cl ∨ j = τ.al ∨ j = τ.st) (hs : s j = false) (haf : ∀ e ∈ o.after, Region.binds .any e = true → s e.on = true) (hsz : a.tmps.size = n) (hdf : a.defers = [])
  (hsp : a.tmps[τ.sp]? = some (.pointer (some ⟨τ.pb, 0, none⟩))) (hL : Res.blk τ.pb τ.arg τ.bt ∈ X) (hK : ∀ r ∈ Kn, r ∈ X) (M : Mem w0 G (R ++ X) w) (hG : Gle G0 G) (hT : τ.T s a G R)
  (k : ∀ a' w' G' R', a'.tmps.size = n → a'.defers = [] → (∀ i v, i ≠ τ.sl → i ≠ τ.sc → i ≠ τ.sa → a.tmps[i]? = some v → a'.tmps[i]? = some v) → Gle G G' → Mem w0 G' (R' ++ X) w' → τ.T (upd s j) a' G' R' → K a' w') :
  rl P ops (fun e a w => match e with | .normal => K a w | e => Q e a w) [o] a w := by
 obtain ⟨e, F, hF⟩ := full_fits hsz hdf
 obtain ⟨hT1, hT2, cs, hT3, hT4⟩ := hT
 obtain ⟨⟨o1, o2, o3⟩, ⟨o4, o5⟩, o6⟩ : (τ.ld ≠ τ.cl ∧ τ.ld ≠ τ.al ∧ τ.ld ≠ τ.st) ∧ (τ.cl ≠ τ.al ∧ τ.cl ≠ τ.st) ∧ τ.al ≠ τ.st := by simpa using nodupB_is hc.ops
 obtain ⟨⟨s1, s2⟩, s3⟩ : (τ.sl ≠ τ.sc ∧ τ.sl ≠ τ.sa) ∧ τ.sc ≠ τ.sa := by simpa using nodupB_is hc.slots
 have put : ∀ {a' : Act} {d : Nat} {v : Value}, Fits n a' ((d, v) :: e) → a'.tmps[d]? = some v ∧ ∀ i u, i ≠ d → a.tmps[i]? = some u → a'.tmps[i]? = some u := fun F' =>
  ⟨F'.slot _ _ look_cons_eq, fun i u hi hu => F'.slot i u (by rw [look_cons_ne (Ne.symm hi)]; exact hF i u hu)⟩
 rcases hin with rfl | rfl | rfl | rfl
 ·obtain ⟨t, p, af, ho⟩ := hc.oLd
  rw [hj] at ho; simp only [Option.some.injEq] at ho; subst ho
  obtain ⟨i, h1, h2, h3⟩ := hc.tb
  obtain ⟨m, hm⟩ := List.mem_iff_getElem?.1 (List.mem_append_right R hL)
  refine rl_run F (run_loadA h1 h2 (F.ev (hF _ _ hsp)) h3 (M.cellsL hm (by rw [← h3]; simp))) hc.fit.1 fun a' F' => ?_
  obtain ⟨p1, p2⟩ := put F'
  refine k a' w G R F'.size F'.defers (fun i v q1 q2 q3 hv => p2 i v q1 hv) (Gle.refl _) M ⟨?_, fun _ => p1, cs, ?_, ?_⟩
  ·rw [upd_ne (Ne.symm o3), upd_ne (Ne.symm o1), upd_ne (Ne.symm o2)]; exact hT1
  ·rw [upd_ne (Ne.symm o1)]; exact fun h => ⟨p2 _ _ (Ne.symm s1) (hT3 h).1, (hT3 h).2⟩
  ·rw [upd_ne (Ne.symm o2), upd_ne (Ne.symm o3)]
   rcases hT4 with h | ⟨h4, b, h5, h6⟩
   ·exact Or.inl h
   ·exact Or.inr ⟨h4, b, p2 _ _ (Ne.symm s2) h5, h6⟩
 ·obtain ⟨ats, t, p, af, ho, hx1⟩ := hc.oCl
  obtain ⟨e1, he1, hb1, ho1⟩ := hasB_is hx1
  rw [hj] at ho; simp only [Option.some.injEq] at ho; subst ho
  have hld : s τ.ld = true := by rw [← ho1]; exact haf e1 he1 hb1
  have hst : s τ.st = false := by
   cases h : s τ.st with
   | false => rfl
   | true => rw [(hT1 h).1] at hs; cases hs
  refine rl_call (args := [.tmp τ.sl]) (vs := [.agg τ.arg.toArray]) F hc.ent (by simp only [evs, ev, hF _ _ (hT2 hld)]) hc.fit.2.1 (hd.call w G _ hG (fun r h => List.mem_append_right R (hK r h)) M) ?_
  rintro v G' w' a' hG' M' ⟨cs', rfl, hg⟩ F'
  obtain ⟨p1, p2⟩ := put F'
  refine k a' w' G' R F'.size F'.defers (fun i v q1 q2 q3 hv => p2 i v q2 hv) hG' M' ⟨?_, ?_, cs', fun _ => ⟨p1, hg⟩, ?_⟩
  ·rw [upd_ne (Ne.symm o5), upd_ne (Ne.symm o4), hst]; exact fun h => by cases h
  ·rw [upd_ne o1]; exact fun h => p2 _ _ s1 (hT2 h)
  ·rw [upd_ne (Ne.symm o4), upd_ne (Ne.symm o5), hst]
   rcases hT4 with h | ⟨h4, b, h5, h6⟩
   ·exact Or.inl h
   ·rw [hst] at h6; exact Or.inr ⟨h4, b, p2 _ _ (Ne.symm s3) h5, by simpa using h6⟩
 ·obtain ⟨t, p, af, ho⟩ := hc.oAl
  rw [hj] at ho; simp only [Option.some.injEq] at ho; subst ho
  obtain ⟨i, h1, h2, h3⟩ := hc.tt
  have hst : s τ.st = false := by
   cases h : s τ.st with
   | false => rfl
   | true => rw [(hT1 h).2] at hs; cases hs
  have hR : R = [] := by
   rcases hT4 with h | ⟨h4, _⟩
   ·exact h.2
   ·rw [hs] at h4; cases h4
  subst hR
  refine rl_alloc F M h1 h2 hc.fit.2.2 fun b w' a' M' F' => ?_
  obtain ⟨p1, p2⟩ := put F'
  refine k a' w' G [.blk b τ.zero τ.t] F'.size F'.defers (fun i v q1 q2 q3 hv => p2 i v q3 hv) (Gle.refl _) M' ⟨?_, ?_, cs, ?_, Or.inr ⟨upd_eq, b, p1, ?_⟩⟩
  ·rw [upd_ne (Ne.symm o6), hst]; exact fun h => by cases h
  ·rw [upd_ne o2]; exact fun h => p2 _ _ s2 (hT2 h)
  ·rw [upd_ne o4]; exact fun h => ⟨p2 _ _ s3 (hT3 h).1, (hT3 h).2⟩
  ·rw [upd_ne (Ne.symm o6), hst]; rfl
 ·obtain ⟨t, p, af, ho, hx1, hx2⟩ := hc.oSt
  obtain ⟨e1, he1, hb1, ho1⟩ := hasB_is hx1
  obtain ⟨e2, he2, hb2, ho2⟩ := hasB_is hx2
  rw [hj] at ho; simp only [Option.some.injEq] at ho; subst ho
  have hcl : s τ.cl = true := by rw [← ho1]; exact haf e1 he1 hb1
  have hal : s τ.al = true := by rw [← ho2]; exact haf e2 he2 hb2
  obtain ⟨i, h1, h2, h3⟩ := hc.tt
  obtain ⟨hv, hg⟩ := hT3 hcl
  obtain ⟨hlen, hone⟩ := hd.good G cs hg
  rcases hT4 with ⟨h4, _⟩ | ⟨h4, b, h5, h6⟩
  ·rw [hal] at h4; cases h4
  rw [hs] at h6
  simp only [Bool.false_eq_true, if_false] at h6
  subst h6
  refine rl_storeA (k := 0) (us := cs) F M h1 rfl (hF _ _ h5) (hF _ _ hv) rfl (by rw [hlen, h3]) hone (by omega) fun w' a' M' F' => ?_
  have keep : ∀ i u, a.tmps[i]? = some u → a'.tmps[i]? = some u := fun i u hu => F'.slot i u (hF i u hu)
  rw [over_all' hlen.symm] at M'
  refine k a' w' G [.blk b cs τ.t] F'.size F'.defers (fun i v q1 q2 q3 hv => keep i v hv) (Gle.refl _) M' ⟨?_, ?_, cs, ?_, Or.inr ⟨?_, b, keep _ _ h5, ?_⟩⟩
  ·rw [upd_ne o5, upd_ne o6]; exact fun _ => ⟨hcl, hal⟩
  ·rw [upd_ne o3]; exact fun h => keep _ _ (hT2 h)
  ·rw [upd_ne o5]; exact fun h => ⟨keep _ _ hv, hg⟩
  ·rw [upd_ne o6]; exact hal
  ·rw [upd_eq]; rfl
/-- Two threads that have nothing to do with each other. -/
def Thr.Apart (τ σ : Thr) : Prop := (∀ i ∈ [τ.ld, τ.cl, τ.al, τ.st], i ∉ [σ.ld, σ.cl, σ.al, σ.st]) ∧ ∀ i ∈ [τ.sl, τ.sc, τ.sa], i ∉ [σ.sl, σ.sc, σ.sa]
instance : DecidableRel Thr.Apart := fun τ σ => by unfold Thr.Apart; infer_instance
theorem Thr.T.frame {τ : Thr} {Kn : List Res} {w0 : World} {G0 : Ghost} (hd : τ.Does P w0 G0 Kn) {s : Nat → Bool} {j : Nat} {a a' : Act} {G G' : Ghost} {R : List Res} (h : τ.T s a G R) (hj : j ∉ [τ.ld, τ.cl, τ.al, τ.st]) (hG : Gle G G')
  (ha : ∀ i v, i ∈ [τ.sl, τ.sc, τ.sa] → a.tmps[i]? = some v → a'.tmps[i]? = some v) : τ.T (upd s j) a' G' R := by
 simp only [List.mem_cons, List.not_mem_nil, or_false, not_or] at hj
 obtain ⟨j1, j2, j3, j4⟩ := hj
 obtain ⟨hT1, hT2, cs, hT3, hT4⟩ := h
 unfold Thr.T
 rw [upd_ne (Ne.symm j1), upd_ne (Ne.symm j2), upd_ne (Ne.symm j3), upd_ne (Ne.symm j4)]
 refine ⟨hT1, fun h => ha _ _ (by simp) (hT2 h), cs, fun h => ⟨ha _ _ (by simp) (hT3 h).1, hd.mono _ _ _ hG (hT3 h).2⟩, ?_⟩
 rcases hT4 with h | ⟨h4, b, h5, h6⟩
 ·exact Or.inl h
 ·exact Or.inr ⟨h4, b, ha _ _ (by simp) h5, h6⟩
def Thrs (s : Nat → Bool) (a : Act) (G : Ghost) : List Thr → List Res → Prop
 | [], R => R = []
 | τ :: Θ, R => ∃ R1 R2, R = R1 ++ R2 ∧ τ.T s a G R1 ∧ Thrs s a G Θ R2
theorem Thrs.frame {Kn : List Res} {w0 : World} {G0 : Ghost} {s : Nat → Bool} {j : Nat} {a a' : Act} {G G' : Ghost} (hG : Gle G G') : ∀ {Θ : List Thr} {R : List Res}, (∀ τ ∈ Θ, τ.Does P w0 G0 Kn) → (∀ τ ∈ Θ, j ∉ [τ.ld, τ.cl, τ.al, τ.st]) →
  (∀ τ ∈ Θ, ∀ i v, i ∈ [τ.sl, τ.sc, τ.sa] → a.tmps[i]? = some v → a'.tmps[i]? = some v) → Thrs s a G Θ R → Thrs (upd s j) a' G' Θ R
 | [], _, _, _, _, h => h
 | τ :: Θ, R, hd, hj, ha, ⟨R1, R2, h1, h2, h3⟩ => ⟨R1, R2, h1, h2.frame (hd τ (by simp)) (hj τ (by simp)) hG (ha τ (by simp)),
  Thrs.frame hG (fun σ h => hd σ (by simp [h])) (fun σ h => hj σ (by simp [h])) (fun σ h => ha σ (by simp [h])) h3⟩
theorem Thrs.step {Kn : List Res} {l : List Oper} {n : Nat} {w0 : World} {G0 : Ghost} {s : Nat → Bool} {a : Act} {w : World} {G : Ghost} {K : Act → World → Prop} {j : Nat} {o : Oper} (hj : l[j]? = some o) (hs : s j = false)
  (haf : ∀ e ∈ o.after, Region.binds .any e = true → s e.on = true) (hsz : a.tmps.size = n) (hdf : a.defers = []) (hG : Gle G0 G) : ∀ {Θ : List Thr} {R X : List Res}, (∀ τ ∈ Θ, τ.Code P l n) → (∀ τ ∈ Θ, τ.Does P w0 G0 Kn) → Θ.Pairwise Thr.Apart →
  (∃ τ ∈ Θ, j = τ.ld ∨ j = τ.cl ∨ j = τ.al ∨ j = τ.st) → (∀ τ ∈ Θ, a.tmps[τ.sp]? = some (.pointer (some ⟨τ.pb, 0, none⟩))) → (∀ τ ∈ Θ, Res.blk τ.pb τ.arg τ.bt ∈ X) → (∀ r ∈ Kn, r ∈ X) → Mem w0 G (R ++ X) w → Thrs s a G Θ R →
  (∀ a' w' G' R', a'.tmps.size = n → a'.defers = [] → (∀ i v, (∀ τ ∈ Θ, i ∉ [τ.sl, τ.sc, τ.sa]) → a.tmps[i]? = some v → a'.tmps[i]? = some v) → Gle G G' → Mem w0 G' (R' ++ X) w' → Thrs (upd s j) a' G' Θ R' → K a' w') →
  rl P ops (fun e a w => match e with | .normal => K a w | e => Q e a w) [o] a w
 | [], _, _, _, _, _, ⟨τ, h, _⟩, _, _, _, _, _, _ => by cases h
 | τ :: Θ, R, X, hc, hd, hap, hin, hsp, hL, hK, M, ⟨R1, R2, hR, hT, hTs⟩, k => by
  subst hR
  have hap' := List.pairwise_cons.1 hap
  by_cases hjt : j ∈ [τ.ld, τ.cl, τ.al, τ.st]
  ·refine Thr.step (hc τ (by simp)) (hd τ (by simp)) hj (by simpa using hjt) hs haf hsz hdf (hsp τ (by simp)) (X := R2 ++ X) (List.mem_append_right _ (hL τ (by simp))) (fun r h => List.mem_append_right _ (hK r h)) (by rw [← List.append_assoc]; exact M) hG hT ?_
   intro a' w' G' R' h1 h2 h3 h4 M' h5
   refine k a' w' G' (R' ++ R2) h1 h2 (fun i v hi hv => ?_) h4 (by rw [List.append_assoc]; exact M') ⟨R', R2, rfl, h5, ?_⟩
   ·have := hi τ (by simp)
    simp only [List.mem_cons, List.not_mem_nil, or_false, not_or] at this
    exact h3 i v this.1 this.2.1 this.2.2 hv
   ·refine Thrs.frame h4 (fun σ h => hd σ (by simp [h])) (fun σ h => (hap'.1 σ h).1 j hjt) (fun σ h i v hi hv => ?_) hTs
    have hne : i ∉ [τ.sl, τ.sc, τ.sa] := fun hi' => (hap'.1 σ h).2 i hi' hi
    simp only [List.mem_cons, List.not_mem_nil, or_false, not_or] at hne
    exact h3 i v hne.1 hne.2.1 hne.2.2 hv
  ·have hin' : ∃ σ ∈ Θ, j = σ.ld ∨ j = σ.cl ∨ j = σ.al ∨ j = σ.st := by
    obtain ⟨σ, h, h'⟩ := hin
    rcases List.mem_cons.1 h with rfl | h
    ·exact absurd (by simpa using h') hjt
    ·exact ⟨σ, h, h'⟩
   refine Thrs.step hj hs haf hsz hdf hG (Θ := Θ) (R := R2) (X := R1 ++ X) (fun σ h => hc σ (by simp [h])) (fun σ h => hd σ (by simp [h])) hap'.2 hin' (fun σ h => hsp σ (by simp [h])) (fun σ h => List.mem_append_right _ (hL σ (by simp [h]))) (fun r h => List.mem_append_right _ (hK r h))
    (M.perm (by rw [← List.append_assoc]; exact List.perm_append_comm.append_right X)) hTs ?_
   intro a' w' G' R' h1 h2 h3 h4 M' h5
   have hkeep : ∀ i v, i ∈ [τ.sl, τ.sc, τ.sa] → a.tmps[i]? = some v → a'.tmps[i]? = some v := fun i v hi hv => h3 i v (fun σ h => (hap'.1 σ h).2 i hi) hv
   refine k a' w' G' (R1 ++ R') h1 h2 (fun i v hi hv => h3 i v (fun σ h => hi σ (by simp [h])) hv) h4 (M'.perm (by rw [← List.append_assoc]; exact List.perm_append_comm.append_right X)) ⟨R1, R', rfl, hT.frame (hd τ (by simp)) hjt h4 hkeep, h5⟩
/-- What a thread has done at the end. -/
def Thr.Fin (τ : Thr) (a : Act) (G : Ghost) (r : Res) : Prop :=
 ∃ cs b, a.tmps[τ.sl]? = some (.agg τ.arg.toArray) ∧ a.tmps[τ.sc]? = some (.agg cs.toArray) ∧ a.tmps[τ.sa]? = some (.pointer (some ⟨b, 0, none⟩)) ∧ τ.Good G cs ∧ r = .blk b cs τ.t
def Fins (a : Act) (G : Ghost) : List Thr → List Res → Prop
 | [], R => R = []
 | τ :: Θ, R => ∃ r R', R = r :: R' ∧ τ.Fin a G r ∧ Fins a G Θ R'
theorem Thrs.fins {s : Nat → Bool} {a : Act} {G : Ghost} : ∀ {Θ : List Thr} {R : List Res}, (∀ τ ∈ Θ, ∀ i ∈ [τ.ld, τ.cl, τ.al, τ.st], s i = true) → Thrs s a G Θ R → Fins a G Θ R
 | [], _, _, h => h
 | τ :: Θ, R, hs, ⟨R1, R2, hR, hT, hTs⟩ => by
  obtain ⟨hT1, hT2, cs, hT3, hT4⟩ := hT
  have h1 := hs τ (by simp) τ.ld (by simp)
  have h2 := hs τ (by simp) τ.cl (by simp)
  have h3 := hs τ (by simp) τ.al (by simp)
  have h4 := hs τ (by simp) τ.st (by simp)
  rcases hT4 with ⟨h5, _⟩ | ⟨_, b, h6, h7⟩
  ·rw [h3] at h5; cases h5
  rw [h4] at h7
  simp only [if_true] at h7
  subst h7
  exact ⟨_, R2, hR, ⟨cs, b, hT2 h1, (hT3 h2).1, h6, (hT3 h2).2, rfl⟩, hTs.fins fun σ h => hs σ (by simp [h])⟩
theorem w_par {Kn : List Res} {id : Nat} {l : List Oper} {n : Nat} {a : Act} {w w0 : World} {e : Env} {G : Ghost} {L : List Res} (Θ : List Thr) (hm : P.follows .mixedOrders = true) (F : Fits n a e) (M : Mem w0 G L w)
  (hback : ∀ j o, l[j]? = some o → o.guard = none ∧ ∀ e ∈ o.after, Region.binds .any e = true → e.on < j) (hcov : ∀ j, j < l.length → ∃ τ ∈ Θ, j = τ.ld ∨ j = τ.cl ∨ j = τ.al ∨ j = τ.st)
  (hc : ∀ τ ∈ Θ, τ.Code P l n) (hd : ∀ τ ∈ Θ, τ.Does P w0 G Kn) (hap : Θ.Pairwise Thr.Apart) (hsp : ∀ τ ∈ Θ, look e τ.sp = some (.pointer (some ⟨τ.pb, 0, none⟩))) (hL : ∀ τ ∈ Θ, Res.blk τ.pb τ.arg τ.bt ∈ L) (hK : ∀ r ∈ Kn, r ∈ L)
  (he : ∀ i v, look e i = some v → ∀ τ ∈ Θ, i ∉ [τ.sl, τ.sc, τ.sa])
  (k : ∀ a' w' G' R', Fits n a' e → Gle G G' → Mem w0 G' (R' ++ L) w' → Fins a' G' Θ R' → Q .normal a' w') : (Code.region id l.toArray true).wp P Q a w := by
 refine w_inv (I := fun s a w => a.tmps.size = n ∧ a.defers = [] ∧ (∀ i v, look e i = some v → a.tmps[i]? = some v) ∧ ∃ G' R, Gle G G' ∧ Mem w0 G' (R ++ L) w ∧ Thrs s a G' Θ R) hm hback ?_ ?_ ?_
 ·refine ⟨F.size, F.defers, F.slot, G, [], Gle.refl _, M.drew _, ?_⟩
  clear hback hcov hc hd hap hsp hL hK he k
  induction Θ with
  | nil => rfl
  | cons τ Θ ih => exact ⟨[], [], rfl, ⟨(fun h => by cases h), (fun h => by cases h), τ.zero, (fun h => by cases h), Or.inl ⟨rfl, rfl⟩⟩, ih⟩
 ·rintro s a w j o hj hs haf ⟨h1, h2, h3, G', R, h4, M', hT⟩
  refine Thrs.step hj hs haf h1 h2 h4 hc (fun τ h => ⟨fun w G'' L' hg => (hd τ h).call w G'' L' hg, (hd τ h).mono, (hd τ h).good⟩) hap ?_ (fun τ h => h3 _ _ (hsp τ h)) hL hK M' hT ?_
  ·exact hcov j (by rcases Nat.lt_or_ge j l.length with h | h; exact h; rw [List.getElem?_eq_none h] at hj; cases hj)
  ·intro a' w' G'' R' q1 q2 q3 q4 M'' q5
   exact ⟨q1, q2, fun i v hv => q3 i v (he i v hv) (h3 i v hv), G'', R', h4.trans q4, M'', q5⟩
 ·rintro s a w hs ⟨h1, h2, h3, G', R, h4, M', hT⟩
  refine k a w G' R ⟨h1, h2, h3⟩ h4 M' (hT.fins fun τ h i hi => hs i ?_)
  have h5 := hc τ h
  have lt : ∀ {i : Nat} {o : Oper}, l[i]? = some o → i < l.length := fun h => (List.getElem?_eq_some_iff.1 h).1
  simp only [List.mem_cons, List.not_mem_nil, or_false] at hi
  rcases hi with rfl | rfl | rfl | rfl
  ·obtain ⟨_, _, _, h6⟩ := h5.oLd; exact lt h6
  ·obtain ⟨_, _, _, _, h6, _⟩ := h5.oCl; exact lt h6
  ·obtain ⟨_, _, _, h6⟩ := h5.oAl; exact lt h6
  ·obtain ⟨_, _, _, h6, _⟩ := h5.oSt; exact lt h6
/-! ### The checks as one -/
def backB (l : List Oper) : Bool := (List.range l.length).all fun j => match l[j]? with
 | some o => o.guard.isNone && o.after.toList.all fun e => !Region.binds .any e || Nat.blt e.on j
 | none => true
theorem backB_is {l : List Oper} (h : backB l = true) : ∀ j o, l[j]? = some o → o.guard = none ∧ ∀ e ∈ o.after, Region.binds .any e = true → e.on < j := by
 intro j o hj
 have hlt := (List.getElem?_eq_some_iff.1 hj).1
 have h1 := List.all_eq_true.1 h j (by simpa using hlt)
 simp only [hj, Bool.and_eq_true] at h1
 refine ⟨by simpa using h1.1, fun e he hb => ?_⟩
 have h2 := List.all_eq_true.1 h1.2 e (by simpa using he)
 rw [hb] at h2
 simpa [Nat.blt_eq] using h2
def covB (Θ : List Thr) (n : Nat) : Bool := (List.range n).all fun j => Θ.any fun τ => Nat.beq j τ.ld || (Nat.beq j τ.cl || (Nat.beq j τ.al || Nat.beq j τ.st))
theorem covB_is {Θ : List Thr} {n : Nat} (h : covB Θ n = true) : ∀ j, j < n → ∃ τ ∈ Θ, j = τ.ld ∨ j = τ.cl ∨ j = τ.al ∨ j = τ.st := by
 intro j hj
 obtain ⟨τ, h1, h2⟩ := List.any_eq_true.1 (List.all_eq_true.1 h j (by simpa using hj))
 simp only [Bool.or_eq_true] at h2
 exact ⟨τ, h1, by rcases h2 with h | h | h | h <;> simp [Nat.eq_of_beq_eq_true h]⟩
def disB (x y : List Nat) : Bool := x.all fun i => !(y.any (Nat.beq i))
theorem disB_is {x y : List Nat} (h : disB x y = true) : ∀ i ∈ x, i ∉ y := by
 intro i hi hy
 have h1 := List.all_eq_true.1 h i hi
 have : y.any (Nat.beq i) = true := List.any_eq_true.2 ⟨i, hy, Nat.beq_refl i⟩
 rw [this] at h1; cases h1
def apsB : List Thr → Bool
 | [] => true
 | τ :: Θ => (Θ.all fun σ => disB [τ.ld, τ.cl, τ.al, τ.st] [σ.ld, σ.cl, σ.al, σ.st] && disB [τ.sl, τ.sc, τ.sa] [σ.sl, σ.sc, σ.sa]) && apsB Θ
theorem apsB_is : ∀ {Θ : List Thr}, apsB Θ = true → Θ.Pairwise Thr.Apart
 | [], _ => List.Pairwise.nil
 | τ :: Θ, h => by
  simp only [apsB, Bool.and_eq_true] at h
  refine List.pairwise_cons.2 ⟨fun σ hσ => ?_, apsB_is h.2⟩
  have h1 := List.all_eq_true.1 h.1 σ hσ
  simp only [Bool.and_eq_true] at h1
  exact ⟨disB_is h1.1, disB_is h1.2⟩
def oldB (e : Env) (Θ : List Thr) : Bool := e.all fun p => Θ.all fun τ => disB [p.1] [τ.sl, τ.sc, τ.sa]
theorem look_mem : ∀ {e : Env} {i : Nat} {v : Value}, look e i = some v → ∃ p ∈ e, p.1 = i
 | [], _, _, h => by cases h
 | (k, u) :: e, i, v, h => by
  by_cases hk : k = i
  ·exact ⟨(k, u), by simp, hk⟩
  ·rw [look_cons_ne hk] at h
   obtain ⟨p, h1, h2⟩ := look_mem h
   exact ⟨p, by simp [h1], h2⟩
theorem oldB_is {e : Env} {Θ : List Thr} (h : oldB e Θ = true) : ∀ i v, look e i = some v → ∀ τ ∈ Θ, i ∉ [τ.sl, τ.sc, τ.sa] := by
 intro i v hi τ hτ
 obtain ⟨p, h1, rfl⟩ := look_mem hi
 exact disB_is (List.all_eq_true.1 (List.all_eq_true.1 h p h1) τ hτ) p.1 (by simp)
def AllT (p : Thr → Prop) : List Thr → Prop
 | [] => True
 | τ :: Θ => p τ ∧ AllT p Θ
theorem AllT.is {p : Thr → Prop} : ∀ {Θ : List Thr}, AllT p Θ → ∀ τ ∈ Θ, p τ
 | _ :: _, h, τ, hτ => by
  rcases List.mem_cons.1 hτ with rfl | hτ
  ·exact h.1
  ·exact h.2.is τ hτ
theorem w_threads {Kn : List Res} {id : Nat} {l : List Oper} {n : Nat} {a : Act} {w w0 : World} {e : Env} {G : Ghost} {L : List Res} (Θ : List Thr) (hm : P.follows .mixedOrders = true) (F : Fits n a e) (M : Mem w0 G L w)
  (hb : backB l = true) (hv : covB Θ l.length = true) (hp : apsB Θ = true) (ho : oldB e Θ = true) (hc : AllT (Thr.Code P l n) Θ) (hd : AllT (Thr.Does P w0 G Kn) Θ)
  (hs : AllT (fun τ => look e τ.sp = some (.pointer (some ⟨τ.pb, 0, none⟩)) ∧ Res.blk τ.pb τ.arg τ.bt ∈ L) Θ) (hK : ∀ r ∈ Kn, r ∈ L)
  (k : ∀ a' w' G' R', Fits n a' e → Gle G G' → Mem w0 G' (R' ++ L) w' → Fins a' G' Θ R' → Q .normal a' w') : (Code.region id l.toArray true).wp P Q a w :=
 w_par Θ hm F M (backB_is hb) (covB_is hv) hc.is hd.is (apsB_is hp) (fun τ h => (hs.is τ h).1) (fun τ h => (hs.is τ h).2) hK (oldB_is ho) k
theorem Fits.add {n : Nat} {a : Act} {e : Env} (F : Fits n a e) {d : Nat} {v : Value} (h : a.tmps[d]? = some v) : Fits n a ((d, v) :: e) :=
 ⟨F.size, F.defers, fun i u hi => by
  by_cases hd : d = i
  ·subst hd; rw [look_cons_eq] at hi; rw [h, hi]
  ·rw [look_cons_ne hd] at hi; exact F.slot i u hi⟩
theorem ret_imp {f : FuncId} {args : Array Value} {w w0 : World} {G : Ghost} {L : List Res} {Φ Ψ : Ghost → Value → Prop} (h : Calls P f args w (Ret w0 G L Φ)) (hi : ∀ G' v, Φ G' v → Ψ G' v) : Calls P f args w (Ret w0 G L Ψ) :=
 h.mono fun q w' hq => by
  cases q with
  | returned v => obtain ⟨G', h1, h2, h3⟩ := hq; exact ⟨G', h1, h2, hi _ _ h3⟩
  | panicked c => exact hq.elim
  | outgrown => exact hq.elim
end
end Go.Y
