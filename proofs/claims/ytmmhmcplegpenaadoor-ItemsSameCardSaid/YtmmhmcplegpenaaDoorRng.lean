/- Rules: a range over a function: the loop's record and the block for its rounds' deferred calls are resources like any other. -/
import Derived.Test.YtmmhmcplegpenaaDoorCpy
import Derived.RangeFuncLeaves
import Derived.RangeFuncSeq
import Derived.RangeFuncCalls
namespace Go.Y
open Go
set_option linter.unusedSimpArgs false
set_option linter.unusedVariables false
section
variable {P : Program} {ops : Array Oper} {Q : Exit → Act → World → Prop} {w0 w : World} {G : Ghost} {L : List Res} {n d : Nat} {a : Act} {e : Env} {t : TypeId} {p : String} {af : Array Edge} {r : List Oper}
abbrev Rnd (l : Nat) : Fence := Fence.wide.inRound l
def noDefer (o : Oper) : Bool := match o.op with | .defer _ => false | _ => true
theorem op_inRound {l m : Nat} {o : Oper} {next next' : Act → World → Prop} (hnd : noDefer o = true) (h : o.wp P a w next Q) (hn : ∀ a w, next a w → next' a w) : o.wpIn (Rnd l) m P a w next' Q := by
 refine ⟨fun _ _ => trivial, ?_⟩
 have hnd' : ∀ c, o.op ≠ .defer c := fun c hc => by simp [noDefer, hc] at hnd
 rw [show (Rnd l).round = some l from rfl, Oper.semAt_some l _ _ hnd']
 unfold Oper.wp at h
 have hdep : (Rnd l).depth.isSome = true → 1 ≤ m := fun h => by cases h
 generalize (execOp a.eval o).run P w = res at h
 cases res with
 | ok nx w' =>
  cases nx with
  | value v => exact hn _ _ h
  | skip => exact hn _ _ h
  | defer d => exact hn _ _ h
  | enter f args =>
   refine ⟨hdep, CallsIn.inRound l (callsIn_wide.2 (Calls.mono h fun x w'' hx => ?_))⟩
   cases x with
   | returned v => exact hn _ _ hx
   | panicked c => exact hx
   | outgrown => exact hx
  | row row args =>
   exact ⟨hdep, fun c cs _ => let ⟨v, w'', r', s⟩ := h c cs; ⟨v, w'', hn _ _ r', stepsIn_wide.2 s⟩⟩
  | _ => exact h.elim
 | halt x w' =>
  cases x with
  | panic v => exact h
  | _ => exact h.elim
theorem wpOpsIn_of_rl {l m : Nat} : ∀ (is : List Nat) (a : Act) (w : World), (∀ (i : Nat) (o : Oper), ops[i]? = some o → noDefer o = true) → rl P ops Q (is.filterMap (ops[·]?)) a w → wpOpsIn (Rnd l) m P ops Q is a w
 | [], a, w, _, h => h
 | i :: is, a, w, hnd, h => by
  cases ho : ops[i]? with
  | none =>
   simp only [wpOpsIn, ho]
   simp only [List.filterMap_cons, ho] at h
   exact wpOpsIn_of_rl is a w hnd h
  | some o =>
   simp only [wpOpsIn, ho]
   simp only [List.filterMap_cons, ho, rl] at h
   by_cases hw : Region.wanted o (yielded ops a.tmps) = true
   ·simp only [hw, if_true]
    exact op_inRound (hnd i o ho) (h.1 hw) (fun a w => wpOpsIn_of_rl is a w hnd)
   ·simp only [hw]
    exact ⟨fun _ _ => trivial, wpOpsIn_of_rl is _ _ hnd (h.2 (by simpa using hw))⟩
/-- A region in a round. -/
theorem w_regIn {l m id : Nat} {os : List Oper} (hnd : os.all noDefer = true) (h : rl P os.toArray Q os a w) : (Code.region id os.toArray false).wpIn (Rnd l) m P Q a w :=
 wpIn_region (wpOpsIn_of_rl _ a w (fun i o ho => List.all_eq_true.1 hnd o (by simpa using List.mem_of_getElem? (by simpa using ho))) (by rw [range_filterMap]; simpa using h))
theorem w_condIn {Fe : Fence} {m : Nat} {c : Operand} {x y : Code} {t : Bool} (F : Fits n a e) (hc : ev e c = some (.bool t)) (ht : t = true → x.wpIn Fe m P Q a w) (hf : t = false → y.wpIn Fe m P Q a w) : (Code.cond c x y).wpIn Fe m P Q a w :=
 wpIn_cond_split (F.ev hc) ht hf
theorem w_condIn_t {Fe : Fence} {m : Nat} {c : Operand} {x y : Code} {t : Bool} (F : Fits n a e) (hc : ev e c = some (.bool t)) (ht : t = true) (k : x.wpIn Fe m P Q a w) : (Code.cond c x y).wpIn Fe m P Q a w :=
 wpIn_cond_split (F.ev hc) (fun _ => k) (fun h => by rw [ht] at h; cases h)
theorem w_condIn_f {Fe : Fence} {m : Nat} {c : Operand} {x y : Code} {t : Bool} (F : Fits n a e) (hc : ev e c = some (.bool t)) (ht : t = false) (k : y.wpIn Fe m P Q a w) : (Code.cond c x y).wpIn Fe m P Q a w :=
 wpIn_cond_split (F.ev hc) (fun h => by rw [ht] at h; cases h) (fun _ => k)
theorem w_loopIn {Fe : Fence} {m : Nat} {c : Code} (I : Nat → Act → World → Prop) (m0 : Nat) (h0 : I m0 a w)
  (round : ∀ k a w, I k a w → c.wpIn Fe m P (Exit.then (fun a' w' => ∃ k', k' < k ∧ I k' a' w') Q) a w) : (Code.loop c).wpIn Fe m P Q a w := by
 classical
 have ex : ∀ a w, (∃ k, I k a w) → ∃ k, I k a w ∧ ∀ j, I j a w → k ≤ j := by
  intro a w ⟨k, hk⟩
  induction k using Nat.strongRecOn with
  | _ k ih =>
   by_cases h : ∃ j, j < k ∧ I j a w
   ·obtain ⟨j, h1, h2⟩ := h; exact ih j h1 h2
   ·exact ⟨k, hk, fun j hj => Nat.le_of_not_lt fun hlt => h ⟨j, hlt, hj⟩⟩
 refine wpIn_loop (fun a w => ∃ k, I k a w) (fun a w => if h : ∃ k, I k a w then Classical.choose (ex a w h) else 0) ⟨m0, h0⟩ fun a w hI => ?_
 have hc := Classical.choose_spec (ex a w hI)
 refine wpIn_mono (round _ a w hc.1) fun x a' w' hq => ?_
 cases x with
 | normal =>
  obtain ⟨k', hk', hI'⟩ := hq
  have hex : ∃ k, I k a' w' := ⟨k', hI'⟩
  refine ⟨hex, ?_⟩
  rw [dif_pos hI, dif_pos hex]
  exact Nat.lt_of_le_of_lt ((Classical.choose_spec (ex a' w' hex)).2 k' hI') hk'
 | _ => exact hq
/-! ### The iterator's side: a region that calls yield -/
def rlW (P : Program) (m : Nat) (ops : Array Oper) (Q : Exit → Act → World → Prop) : List Oper → Act → World → Prop
 | [], a, w => Q .normal a w
 | o :: r, a, w =>
  (Region.wanted o (yielded ops a.tmps) = true → o.wpIn Fence.wide m P a w (rlW P m ops Q r) Q) ∧
  (Region.wanted o (yielded ops a.tmps) = false → rlW P m ops Q r (a.put o.dst undef) w)
theorem wpOpsIn_of_rlW {m : Nat} : ∀ (is : List Nat) (a : Act) (w : World), rlW P m ops Q (is.filterMap (ops[·]?)) a w → wpOpsIn Fence.wide m P ops Q is a w
 | [], a, w, h => h
 | i :: is, a, w, h => by
  cases ho : ops[i]? with
  | none =>
   simp only [wpOpsIn, ho]
   simp only [List.filterMap_cons, ho] at h
   exact wpOpsIn_of_rlW is a w h
  | some o =>
   simp only [wpOpsIn, ho]
   simp only [List.filterMap_cons, ho, rlW] at h
   by_cases hw : Region.wanted o (yielded ops a.tmps) = true
   ·simp only [hw, if_true]
    have h1 := h.1 hw
    refine ⟨h1.1, ?_⟩
    have h2 := h1.2
    generalize (Oper.semAt Fence.wide.round a.eval o).run P w = res at h2 ⊢
    cases res with
    | ok nx w' =>
     cases nx with
     | value v => exact wpOpsIn_of_rlW is _ _ h2
     | skip => exact wpOpsIn_of_rlW is _ _ h2
     | defer d => exact wpOpsIn_of_rlW is _ _ h2
     | enter f args =>
      refine ⟨h2.1, CallsIn.mono h2.2 fun x w'' hx => ?_⟩
      cases x with
      | returned v => exact wpOpsIn_of_rlW is _ _ hx
      | panicked c => exact hx
      | outgrown => exact hx
     | row row args => exact ⟨h2.1, RowsIn.mono h2.2 fun v w'' hx => wpOpsIn_of_rlW is _ _ hx⟩
     | round l f tmps assign body =>
      refine ⟨h2.1, RoundIn.mono h2.2 fun x w'' hx => ?_⟩
      cases x with
      | returned v => exact wpOpsIn_of_rlW is _ _ hx
      | panicked c => exact hx
      | outgrown => exact hx
     | _ => exact h2
    | halt x w' =>
     cases x with
     | panic v => exact h2
     | _ => exact h2
   ·simp only [hw]
    exact ⟨fun _ _ => trivial, wpOpsIn_of_rlW is _ _ (h.2 (by simpa using hw))⟩
theorem w_regW {m id : Nat} {os : List Oper} (h : rlW P m os.toArray Q os a w) : (Code.region id os.toArray false).wpIn Fence.wide m P Q a w :=
 wpIn_region (wpOpsIn_of_rlW _ a w (by rw [range_filterMap]; simpa using h))
theorem rlW_run {m : Nat} {op : Op} {v : Value} {w' : World} (F : Fits n a e) (hr : (execOp a.eval ⟨some d, op, t, p, af, none⟩).run P w = .ok (.value v) w') (hd : Nat.ble (d + 1) n = true)
  (k : ∀ a', Fits n a' ((d, v) :: e) → rlW P m ops Q r a' w') : rlW P m ops Q (⟨some d, op, t, p, af, none⟩ :: r) a w := by
 refine ⟨fun _ => ⟨fun _ _ => trivial, ?_⟩, fun h => by simp [Region.wanted] at h⟩
 show Oper.uponIn _ _ _ _ _ _ _ ((execOp a.eval ⟨some d, op, t, p, af, none⟩).run P w)
 rw [hr]
 exact k _ (F.put hd)
theorem rlW_yield {m l : Nat} {cal : Operand} {args : List Operand} {ats : Array TypeId} {vs : List Value} {R : Ending → World → Prop} (F : Fits n a e) (hc : ev e cal = some (.func (.yield l) #[] #[])) (hv : evs e args = some vs) (hd : Nat.ble (d + 1) n = true)
  (hy : YieldAt Fence.wide (m - 1) P l vs.toArray w R) (k : ∀ x w', R x w' → ∃ b, x = .returned (.bool b) ∧ ∀ a', Fits n a' ((d, .bool b) :: e) → rlW P m ops Q r a' w') :
  rlW P m ops Q (⟨some d, .call ⟨.value cal, args.toArray, ats⟩, t, p, af, none⟩ :: r) a w := by
 refine ⟨fun _ => ⟨fun _ _ => trivial, ?_⟩, fun h => by simp [Region.wanted] at h⟩
 obtain ⟨fn, tmps, assign, body, h1, h2⟩ := hy
 have hr : (execOp a.eval ⟨some d, .call ⟨.value cal, args.toArray, ats⟩, t, p, af, none⟩).run P w = .ok (.round l fn tmps assign body) w := by
  have h3 := F.ev hc
  have h4 := F.evs hv
  simp only [execOp, resolve, h3, Deferred.ofValue, Sem.run_bind, Sem.run_pure, Result.andThen_ok, invoke]
  rw [show (#[] ++ Array.map a.eval args.toArray) = vs.toArray by simp [← h4]]
  exact h1
 show Oper.uponIn _ _ _ _ _ _ _ ((execOp a.eval ⟨some d, .call ⟨.value cal, args.toArray, ats⟩, t, p, af, none⟩).run P w)
 rw [hr]
 refine ⟨(fun h => by cases h), RoundIn.mono h2 fun x w' hx => ?_⟩
 obtain ⟨b, rfl, hk⟩ := k x w' hx
 exact hk _ (F.put hd)
/-- The same frame, with deferred calls. -/
def addD (ds : List Deferred) (a : Act) : Act := { a with defers := a.defers ++ ds }
theorem addD_put (ds : List Deferred) (a : Act) (d : Option Tmp) (v : Value) : (addD ds a).put d v = addD ds (a.put d v) := by cases d <;> rfl
theorem rl_addD {Q : Exit → Act → World → Prop} {ds : List Deferred} : ∀ (l : List Oper) (a : Act) (w : World), rl P ops (fun e a w => Q e (addD ds a) w) l a w → rl P ops Q l (addD ds a) w
 | [], a, w, h => h
 | o :: l, a, w, h => by
  refine ⟨fun hw => ?_, fun hw => ?_⟩
  ·have h1 := Oper.wp_mono (fun a w => rl_addD (Q := Q) (ds := ds) l a w) (h.1 hw)
   unfold Oper.wp at h1 ⊢
   rw [show (addD ds a).eval = a.eval from rfl]
   generalize (execOp a.eval o).run P w = r at h1 ⊢
   cases r with
   | ok nx w' =>
    cases nx <;> simp only [Oper.upon, addD_put] at h1 ⊢
    case value u => exact h1
    case skip => exact h1
    case defer d => rw [show ({ tmps := (addD ds a).tmps, defers := d :: (addD ds a).defers } : Act) = addD ds { tmps := a.tmps, defers := d :: a.defers } from rfl, addD_put]; exact h1
    case enter f args =>
     refine Calls.mono h1 fun e w'' he => ?_
     cases e with
     | returned u => exact he
     | panicked c => exact he
     | outgrown => obtain ⟨a0, w0, h0⟩ := he; exact ⟨_, w0, h0⟩
    case row row args => exact h1
   | halt x w' => cases x <;> simp only [Oper.upon] at h1 ⊢ <;> exact h1
  ·rw [addD_put]; exact rl_addD l _ _ (h.2 hw)
/-! ### The statement -/
abbrev W0 : Fence := Fence.wide
theorem w_regX {m id : Nat} {os : List Oper} (h : rl P os.toArray Q os a w) : (Code.region id os.toArray false).wpIn W0 m P Q a w := wpIn_wide.2 (w_reg h)
theorem w_regXD {m id : Nat} {ds : List Deferred} {os : List Oper} (h : rl P os.toArray (fun e a w => Q e (addD ds a) w) os a w) : (Code.region id os.toArray false).wpIn W0 m P Q (addD ds a) w := wpIn_wide.2 (w_reg (rl_addD _ _ _ h))
theorem calls_startM {R : Ending → World → Prop} {f : FuncId} {fn : Func} {c : Code} {vs : List Value} (hf : P.funcs[f]? = some fn) (hb : fn.body = some c) {n : Nat} (hn : fn.ntmps = n) (hs : Nat.ble vs.length n = true)
  (h : ∀ a, Fits n a (envOf 0 vs) → c.wpIn W0 0 P (bodyPostM W0 0 P fn R) a w) : Calls P f vs.toArray w R := by
 have hs' := Nat.le_of_ble_eq_true hs
 refine (callsIn_wide (n := 0)).1 (callsIn_of_wp_marks hf hb trivial (h _ ⟨by simp [hn]; omega, rfl, ?_⟩))
 intro i v hi
 obtain ⟨_, h2⟩ := look_envOf vs 0 i v hi
 have hlt : i < vs.length := by
  rcases Nat.lt_or_ge i vs.length with h' | h'
  ·exact h'
  ·simp [List.getElem?_eq_none h'] at h2
 simp only [Nat.sub_zero] at h2
 rw [Array.getElem?_append_left (by simpa using hlt)]
 simpa using h2
/-- The record of a loop. -/
def Lrec (a : Act) (ps : Array Tmp) (assign body : Code) (fn D : Nat) (st : LoopState) (pe : Option Code) : Loop := { state := st, pending := pe, fn, tmps := a.tmps, params := ps, assign, body, defers := D }
def markD (D : Nat) : Deferred := { target := .collected D, args := #[] }
theorem mem_put {b : Nat} {o o' : Obj} {w' : World} (M : Mem w0 G (.obj b o :: L) w) (h : w' = w.putObj b o') : Mem w0 G (.obj b o' :: L) w' := by
 subst h
 have hb : w.heap[b]? = some o := M.own (.obj b o) (by simp)
 exact M.swap_head (y := .obj b o') rfl (World.putObj_heap_same (Array.getElem?_eq_some_iff.1 hb).1) rfl rfl rfl (by simp) (fun b' hne => World.putObj_heap_other (fun e => hne (by rw [e]; rfl)))
theorem w_rangeFuncM {g : Operand} {ps : Array Tmp} {assign body : Code} {gf m : Nat} {lb : List Value} (F : Fits n a e) (M : Mem w0 G L w) (hg : ev e g = some (.func (.func gf) #[] lb.toArray)) (hE : Ent P gf)
  (h : ∀ fn l D W, Mem w0 G (.obj l (.loop (Lrec a ps assign body fn D .ready none)) :: .obj D (.deferred (some [])) :: L) W →
   Calls P gf (#[.func (.yield l) #[] #[]] ++ lb.toArray) W fun x W' => ∃ v pe G2 L2 st, x = .returned v ∧ st ≠ LoopState.busy ∧ Gle G G2 ∧ Mem w0 G2 (.obj l (.loop (Lrec a ps assign body fn D st pe)) :: .obj D (.deferred (some [])) :: L2) W' ∧
    ∀ W'', Mem w0 G2 (.obj D (.deferred (some [])) :: L2) W'' → match pe with
     | none => Q .normal (addD [markD D] a) W''
     | some c => c.wpIn W0 m P Q (addD [markD D] a) W'') :
  (Code.rangeFunc g ps assign body).wpIn W0 m P Q a w := by
 refine wpIn_rangeFunc ?_
 intro fn _
 have hd : addD [markD w.heap.size] a = { a with defers := [{ target := .collected w.heap.size, args := #[] }] ++ a.defers } := by unfold addD markD; rw [F.defers]; rfl
 have M1 := (M.new (.deferred (some [])))
 have M2 := M1.new (.loop (Lrec a ps assign body fn w.heap.size .ready none))
 have hsz : (({ w with heap := w.heap.push (.deferred (some [])) } : World)).heap.size = w.heap.size + 1 := by simp
 rw [hsz] at M2
 have hen := run_enterLoop_outer (P := P) (w := w) fn a.tmps ps assign body
 have hg' := F.ev hg
 obtain ⟨W1, hW1⟩ : ∃ W1, (w.alloc (.deferred (some []))).alloc (.loop (Lrec a ps assign body fn w.heap.size .ready none)) = W1 := ⟨_, rfl⟩
 have hen' : (Instr.enterLoop fn a.tmps ps assign body none).run P w = .ok (w.heap.size + 1, [{ target := .collected w.heap.size, args := #[] }]) W1 := by rw [hen, ← hW1]; rfl
 have M3 : Mem w0 G (.obj (w.heap.size + 1) (.loop (Lrec a ps assign body fn w.heap.size .ready none)) :: .obj w.heap.size (.deferred (some [])) :: L) W1 := by rw [← hW1]; exact M2
 clear hen M1 M2 hsz hW1
 have hin := run_enter (P := P) (w := W1) (args := #[.func (.yield (w.heap.size + 1)) #[] #[]] ++ lb.toArray) hE
 refine ⟨w.heap.size + 1, [{ target := .collected w.heap.size, args := #[] }], W1, { target := .fn (.func gf) lb.toArray, args := #[.func (.yield (w.heap.size + 1)) #[] #[]] }, W1, gf, #[.func (.yield (w.heap.size + 1)) #[] #[]] ++ lb.toArray, W1, hen', ?_, fun _ _ => trivial, ?_, (fun h => by cases h), ?_⟩
 ·simp only [resolve, rangeCall, hg']
  simp [go_sem]
 ·simp only [invoke]
  exact hin
 ·refine callsIn_wide.2 (Calls.mono (h fn _ _ _ M3) ?_)
  rintro x W' ⟨v, pe, G2, L2, st, rfl, hst, hG, M4, hk⟩
  have hb : W'.heap[w.heap.size + 1]? = some (.loop (Lrec a ps assign body fn w.heap.size st pe)) := M4.own (.obj (w.heap.size + 1) (.loop (Lrec a ps assign body fn w.heap.size st pe))) (by simp)
  have M5 := (mem_put (o' := .loop { Lrec a ps assign body fn w.heap.size st pe with state := .exhausted }) M4 rfl).weaken (List.sublist_cons_self _ _)
  have hk2 := hk _ M5
  rw [hd] at hk2
  exact ⟨pe, _, run_endLoop hb hst, by cases pe with
   | none => exact hk2
   | some c => exact hk2⟩
/-- A round of a loop with two variables. -/
theorem yield2 {l m fn D i j : Nat} {v1 v2 : Value} {assign body : Code} {e0 : Env} {a0 : Act} {R : Ending → World → Prop} (F : Fits n a0 e0) (hi : Nat.ble (i + 1) n = true) (hj : Nat.ble (j + 1) n = true)
  (M : Mem w0 G (.obj l (.loop (Lrec a0 #[i, j] assign body fn D .ready none)) :: L) w)
  (h : ∀ a1, Fits n a1 ((j, v2) :: (i, v1) :: e0) → assign.wpIn (Rnd l) m P (Exit.then (fun a2 w2 => ∀ W2, Mem w0 G (.obj l (.loop (Lrec a0 #[i, j] assign body fn D .busy none)) :: L) W2 → w2 = w ∧ body.wpIn (Rnd l) m P (roundPost P l R) a2 W2) (fun _ _ _ => False)) a1 w) :
  YieldAt W0 m P l #[v1, v2] w R := by
 have hb : w.heap[l]? = some (.loop (Lrec a0 #[i, j] assign body fn D .ready none)) := M.own (.obj l (.loop (Lrec a0 #[i, j] assign body fn D .ready none))) (by simp)
 have hz : ((#[i, j] : Array Tmp).zip #[v1, v2]).foldl (fun t (x : Tmp × Value) => t.setIfInBounds x.1 x.2) a0.tmps = (a0.tmps.setIfInBounds i v1).setIfInBounds j v2 := by simp
 have hy := run_yield (P := P) (args := #[v1, v2]) hb rfl
 have hy2 : (Instr.yield l #[v1, v2]).run P w = .ok (.round l fn ((a0.tmps.setIfInBounds i v1).setIfInBounds j v2) assign body) w := by rw [← hz]; exact hy
 refine ⟨fn, _, assign, body, hy2, roundIn_of_wpIn trivial (wpIn_mono (h _ ?_) ?_)⟩
 ·have F2 := (F.put (v := v1) hi).put (v := v2) hj
  exact ⟨F2.size, rfl, F2.slot⟩
 ·intro x a2 w2 hq
  cases x with
  | normal =>
   have M2 := mem_put (o' := .loop (Lrec a0 #[i, j] assign body fn D .busy none)) M rfl
   obtain ⟨rfl, hq2⟩ := hq _ M2
   exact ⟨_, run_beginRound hb rfl, hq2⟩
  | _ => exact hq
theorem round_end {l fn D : Nat} {ps : Array Tmp} {assign body : Code} {a0 : Act} (jump : Option Code) (M : Mem w0 G (.obj l (.loop (Lrec a0 ps assign body fn D .busy none)) :: L) w) :
  ∃ w', (Instr.endRound l jump).run P w = .ok (.bool jump.isNone) w' ∧ Mem w0 G (.obj l (.loop (Lrec a0 ps assign body fn D (if jump.isNone then .ready else .done) jump)) :: L) w' :=
 ⟨_, run_endRound jump (M.own (.obj l (.loop (Lrec a0 ps assign body fn D .busy none))) (by simp)), mem_put M rfl⟩
/-- Three results, each in a cell; behind a range over a function, and without one. -/
theorem res_ccc {fn : Func} {e0 : Env} {t u s ty1 ty2 ty3 k1 k2 k3 b1 b2 b3 : Nat} {x y z : Value} (F : Fits n a e0) (M : Mem w0 G L w) (hk1 : L[k1]? = some (.blk b1 [x] ty1)) (hk2 : L[k2]? = some (.blk b2 [y] ty2)) (hk3 : L[k3]? = some (.blk b3 [z] ty3))
  (hf : fn.results = #[.cell t ty1, .cell u ty2, .cell s ty3]) (h1 : (tk P ty1).agg = some false) (h2 : (tk P ty2).agg = some false) (h3 : (tk P ty3).agg = some false)
  (hv1 : look e0 t = some (.pointer (some ⟨b1, 0, none⟩))) (hv2 : look e0 u = some (.pointer (some ⟨b2, 0, none⟩))) (hv3 : look e0 s = some (.pointer (some ⟨b3, 0, none⟩))) :
  (results fn a.tmps).run P w = .ok (.tuple #[x, y, z]) w := by
 have l1 : (loadVar ty1 ⟨b1, 0, none⟩).run P w = .ok x w := run_loadVar1 h1 (M.cellL hk1 rfl)
 have l2 : (loadVar ty2 ⟨b2, 0, none⟩).run P w = .ok y w := run_loadVar1 h2 (M.cellL hk2 rfl)
 have l3 : (loadVar ty3 ⟨b3, 0, none⟩).run P w = .ok z w := run_loadVar1 h3 (M.cellL hk3 rfl)
 simp [results, hf, F.slot _ _ hv1, F.slot _ _ hv2, F.slot _ _ hv3, asAddr, l1, l2, l3]
theorem finM {fn : Func} {R : Ending → World → Prop} {e0 : Env} {v : Value} (F : Fits n a e0) (hr : (results fn a.tmps).run P w = .ok v w) (h : R (.returned v) w) : bodyPostM W0 0 P fn R .ret a w := by
 show LeavesInM _ _ _ _ _ _ a.defers _ _
 rw [F.defers]
 exact ⟨v, hr, h⟩
theorem finMD {fn : Func} {R : Ending → World → Prop} {e0 : Env} {v : Value} {D : Nat} (F : Fits n a e0) (M : Mem w0 G (.obj D (.deferred (some [])) :: L) w) (hr : ∀ w', Mem w0 G L w' → (results fn a.tmps).run P w' = .ok v w') (h : ∀ w', Mem w0 G L w' → R (.returned v) w') : bodyPostM W0 0 P fn R .ret (addD [markD D] a) w := by
 show LeavesInM _ _ _ _ _ _ (addD [markD D] a).defers _ _
 rw [show (addD [markD D] a).defers = [markD D] by unfold addD; rw [F.defers]; rfl]
 have M2 := (mem_put (o' := .deferred none) M rfl).weaken (List.sublist_cons_self _ _)
 exact ⟨by simp, Or.inl ⟨D, _, rfl, run_takeDeferred (M.own (.obj D (.deferred (some []))) (by simp)), v, hr _ M2, h _ M2⟩⟩
theorem finMn {fn : Func} {R : Ending → World → Prop} {e0 : Env} {v : Value} (F : Fits n a e0) (hr : (results fn a.tmps).run P w = .ok v w) (h : R (.returned v) w) : bodyPostM W0 0 P fn R .normal a w := finM F hr h
theorem rlW_nil {m : Nat} (h : Q .normal a w) : rlW P m ops Q [] a w := h
theorem w_rangeFuncR {g : Operand} {ps : Array Tmp} {assign body : Code} {gf m : Nat} {lb : List Value} (F : Fits n a e) (M : Mem w0 G L w) (hg : ev e g = some (.func (.func gf) #[] lb.toArray)) (hE : Ent P gf)
  (h : ∀ fn l D (Rc : LoopState → Option Code → Res) W, (∀ st pe, Rc st pe = .obj l (.loop (Lrec a ps assign body fn D st pe))) → Mem w0 G (Rc .ready none :: .obj D (.deferred (some [])) :: L) W →
   Calls P gf (#[.func (.yield l) #[] #[]] ++ lb.toArray) W fun x W' => ∃ v pe G2 L2 st, x = .returned v ∧ st ≠ LoopState.busy ∧ Gle G G2 ∧ Mem w0 G2 (Rc st pe :: .obj D (.deferred (some [])) :: L2) W' ∧
    ∀ W'', Mem w0 G2 (.obj D (.deferred (some [])) :: L2) W'' → match pe with
     | none => Q .normal (addD [markD D] a) W''
     | some c => c.wpIn W0 m P Q (addD [markD D] a) W'') :
  (Code.rangeFunc g ps assign body).wpIn W0 m P Q a w :=
 w_rangeFuncM F M hg hE fun fn l D W M' => h fn l D (fun st pe => .obj l (.loop (Lrec a ps assign body fn D st pe))) W (fun _ _ => rfl) M'
end
end Go.Y
