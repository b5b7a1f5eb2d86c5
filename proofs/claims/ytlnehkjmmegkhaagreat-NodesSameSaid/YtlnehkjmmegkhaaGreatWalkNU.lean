/- The walks, part NU. -/
import Derived.Test.YtlnehkjmmegkhaaGreatWalkNS
namespace Go.Proofs.YtlnehkjmmegkhaaGreat
open Go Go.Y Go.Proofs
set_option linter.unusedSimpArgs false
set_option linter.unusedVariables false
section
variable {P : Program} {ops : Array Oper}
theorem opsS_of_rl {Q : Exit → Act → List Frame → World → Prop} {cs : List Frame} : ∀ (l : List Nat) (a : Act) (w : World), rl P ops (fun e a w => Q e a cs w) (l.filterMap (ops[·]?)) a w → wpOpsS P ops Q l a cs w
 | [], a, w, h => h
 | i :: l, a, w, h => by
  cases ho : ops[i]? with
  | none =>
   simp only [wpOpsS, ho]
   simp only [List.filterMap_cons, ho] at h
   exact opsS_of_rl l a w h
  | some o =>
   simp only [wpOpsS, ho]
   simp only [List.filterMap_cons, ho, rl] at h
   by_cases hw : Region.wanted o (yielded ops a.tmps) = true
   ·simp only [hw, if_true]
    have h2 := Oper.wp_mono (fun a w => opsS_of_rl (Q := Q) (cs := cs) l a w) (h.1 hw)
    unfold Oper.wp at h2
    generalize (execOp a.eval o).run P w = r at h2
    cases r with
    | ok nx w' => cases nx <;> first | exact h2 | exact h2.elim
    | halt x w' => exact h2
   ·simp only [hw]
    exact opsS_of_rl l _ _ (h.2 (by simpa using hw))
theorem succ_filterMap {o0 : Oper} {rest : List Oper} : ((List.range rest.length).map (· + 1)).filterMap ((o0 :: rest).toArray[·]?) = rest := by
 rw [List.filterMap_map]
 have : ((fun x => (o0 :: rest).toArray[x]?) ∘ (· + 1)) = fun i => rest.toArray[i]? := by funext i; simp
 rw [this]
 have h := range_filterMap (ops := rest.toArray)
 simpa using h
theorem wpS_rec {Q : Exit → Act → List Frame → World → Prop} {cs cs' : List Frame} {id d : Nat} {rest : List Oper} {op : Op} {t : TypeId} {p : String} {af : Array Edge} {a : Act} {w : World} {v : Value} (hr : (execOp a.eval ⟨some d, op, t, p, af, none⟩).run P w = .ok .recover w)
  (hc : (recoverD cs = none ∧ v = .nilIface ∧ cs' = cs) ∨ recoverD cs = some (v, cs')) (h : rl P (⟨some d, op, t, p, af, none⟩ :: rest).toArray (fun e a w => Q e a cs' w) rest (a.put (some d) v) w) :
  (Code.region id (⟨some d, op, t, p, af, none⟩ :: rest).toArray false).wpS P Q a cs w := by
 refine wpS_region ?_
 have hs : (⟨some d, op, t, p, af, none⟩ :: rest).toArray.size = rest.length + 1 := by simp
 rw [hs, List.range_succ_eq_map]
 have h0 : (⟨some d, op, t, p, af, none⟩ :: rest : List Oper).toArray[0]? = some ⟨some d, op, t, p, af, none⟩ := by simp
 have hw : Region.wanted (⟨some d, op, t, p, af, none⟩ : Oper) (yielded (⟨some d, op, t, p, af, none⟩ :: rest).toArray a.tmps) = true := by simp [Region.wanted]
 simp only [wpOpsS, h0, hw, if_true, hr]
 have h2 : wpOpsS P (⟨some d, op, t, p, af, none⟩ :: rest).toArray Q ((List.range rest.length).map Nat.succ) (a.put (some d) v) cs' w :=
  opsS_of_rl _ _ _ (by have := succ_filterMap (o0 := ⟨some d, op, t, p, af, none⟩) (rest := rest); rw [show (List.range rest.length).map Nat.succ = (List.range rest.length).map (· + 1) from rfl, this]; exact h)
 rcases hc with ⟨h3, rfl, rfl⟩ | h3
 ·simp only [h3]; exact h2
 ·simp only [h3]; exact h2
theorem callsD_start {f : FuncId} {fn : Func} {c : Code} {vs : List Value} {u : FrameMode} {w : World} {R : Ending → FrameMode → World → Prop} (hf : P.funcs[f]? = some fn) (hb : fn.body = some c) {n : Nat} (hn : fn.ntmps = n) (hs : Nat.ble vs.length n = true)
  (h : ∀ c₀ cs a, c₀.mode = u → Fits n a (envOf 0 vs) → c.wpS P (bodyPostS P fn c₀ cs R) a (c₀ :: cs) w) : CallsD P f vs.toArray u w R := by
 have hs' := Nat.le_of_ble_eq_true hs
 refine callsD_of_wpS hf hb fun c₀ cs hu => h c₀ cs _ hu ⟨by simp [hn]; omega, rfl, ?_⟩
 intro i v hi
 obtain ⟨_, h2⟩ := look_envOf vs 0 i v hi
 have hlt : i < vs.length := by
  rcases Nat.lt_or_ge i vs.length with h' | h'
  ·exact h'
  ·simp [List.getElem?_eq_none h'] at h2
 simp only [Nat.sub_zero] at h2
 rw [Array.getElem?_append_left (by simpa using hlt)]
 simpa using h2
/-- The same frame, with deferred calls. -/
def addD (ds : List Deferred) (a : Act) : Act := { a with defers := a.defers ++ ds }
theorem addD_put (ds : List Deferred) (a : Act) (d : Option Tmp) (v : Value) : (addD ds a).put d v = addD ds (a.put d v) := by cases d <;> rfl
theorem rl_addD {Q : Exit → Act → World → Prop} {ds : List Deferred} : ∀ (l : List Oper) (a : Act) (w : World), rl P ops (fun e a w => Q e (addD ds a) w) l a w → rl P ops Q l (addD ds a) w
 | [], a, w, h => h
 | o :: l, a, w, h => by
  refine ⟨fun hw => ?_, fun hw => ?_⟩
  ·have h1 := Oper.wp_mono (fun a w => rl_addD (Q := Q) (ds := ds) l a w) (h.1 hw)
   unfold Oper.wp at h1 ⊢
   rw [show (addD ds a).eval = a.eval from rfl]
   generalize (execOp a.eval o).run P w = r at h1 ⊢
   cases r with
   | ok nx w' =>
    cases nx <;> simp only [Oper.upon, addD_put] at h1 ⊢
    case value u => exact h1
    case skip => exact h1
    case defer d => rw [show ({ tmps := (addD ds a).tmps, defers := d :: (addD ds a).defers } : Act) = addD ds { tmps := a.tmps, defers := d :: a.defers } from rfl, addD_put]; exact h1
    case enter f args =>
     refine Calls.mono h1 fun e w'' he => ?_
     cases e with
     | returned u => exact he
     | panicked c => exact he
     | outgrown => obtain ⟨a0, w0, h0⟩ := he; exact ⟨_, w0, h0⟩
    case row row args => exact h1
   | halt x w' => cases x <;> simp only [Oper.upon] at h1 ⊢ <;> exact h1
  ·rw [addD_put]; exact rl_addD l _ _ (h.2 hw)
theorem w_regD {Q : Exit → Act → World → Prop} {ds : List Deferred} {id : Nat} {l : List Oper} {a : Act} {w : World} (h : rl P l.toArray (fun e a w => Q e (addD ds a) w) l a w) : (Code.region id l.toArray false).wp P Q (addD ds a) w := w_reg (rl_addD _ _ _ h)
theorem w_condD {Q : Exit → Act → World → Prop} {ds : List Deferred} {n : Nat} {a : Act} {w : World} {e : Env} {c : Operand} {x y : Code} {t : Bool} (F : Fits n a e) (hc : ev e c = some (.bool t)) (ht : t = true → x.wp P Q (addD ds a) w)
  (hf : t = false → y.wp P Q (addD ds a) w) : (Code.cond c x y).wp P Q (addD ds a) w := wp_cond_split (a := addD ds a) (F.ev hc) ht hf
theorem rl_defer {Q : Exit → Act → World → Prop} {n : Nat} {a : Act} {w : World} {e : Env} {op : Op} {t : TypeId} {p : String} {af : Array Edge} {r : List Oper} {d : Deferred} (F : Fits n a e) (hr : (execOp a.eval ⟨none, op, t, p, af, none⟩).run P w = .ok (.defer d) w)
  (k : rl P ops Q r (addD [d] a) w) : rl P ops Q (⟨none, op, t, p, af, none⟩ :: r) a w := by
 refine ⟨fun _ => ?_, fun h => by simp [Region.wanted] at h⟩
 unfold Oper.wp
 rw [hr]
 have : ({ a with defers := d :: a.defers } : Act) = addD [d] a := by unfold addD; rw [F.defers]; rfl
 show rl P ops Q r ({ a with defers := d :: a.defers } : Act) w
 rw [this]; exact k
end
theorem run_assertNil {P : Program} {w : World} {t : TypeId} {p : String} {af : Array Edge} {ρ : Operand → Value} {dd : Option Tmp} {g : Option (Nat × Bool)} {x : Operand} {xt ty : TypeId} {i : TI} {fs : List (Nat × Nat × Nat)} (ht : TOK P ty i) (hs : tk P ty = .struct fs) (hx : ρ x = .nilIface) :
  (execOp ρ ⟨dd, .typeAssert x xt ty true, t, p, af, g⟩).run P w = .ok (.value (.tuple #[i.zero, .bool false])) w := by
 obtain ⟨ff, hu, _⟩ := under_struct hs
 simp [execOp, hx, Instr.typeAssert, run_under hu, ht.zeroValue]
theorem run_assertYes {P : Program} {w : World} {t : TypeId} {p : String} {af : Array Edge} {ρ : Operand → Value} {dd : Option Tmp} {g : Option (Nat × Bool)} {x : Operand} {xt ty : TypeId} {fs : List (Nat × Nat × Nat)} {v : Value} (hs : tk P ty = .struct fs) (hx : ρ x = .iface ty v) :
  (execOp ρ ⟨dd, .typeAssert x xt ty true, t, p, af, g⟩).run P w = .ok (.value (.tuple #[v, .bool true])) w := by
 obtain ⟨ff, hu, _⟩ := under_struct hs
 simp [execOp, hx, Instr.typeAssert, run_under hu]
theorem finS {P : Program} {fn : Func} {c₀ : Frame} {cs cs' : List Frame} {n : Nat} {a : Act} {e : Env} {w : World} {u' : FrameMode} {R : Ending → FrameMode → World → Prop} (F : Fits n a e) (hr : fn.results = #[]) (hc : cs' = { c₀ with mode := u' } :: cs) (h : R (.returned (.tuple #[])) u' w) :
  bodyPostS P fn c₀ cs R .normal a cs' w := by
 obtain ⟨h1, v, h2, h3⟩ := fin0n (P := P) (R := fun e w => R e u' w) F hr h
 exact ⟨h1, u', hc, v, h2, h3⟩
theorem parse1_ret {w0 w : World} {G : Ghost} {L : List Res} (M : Mem w0 G L w) {b2 b3 b4 : Nat} : CallsD Tryz.prog 80 #[.pointer (some ⟨b2, 0, none⟩), .pointer (some ⟨b3, 0, none⟩), .pointer (some ⟨b4, 0, none⟩)] .returning w (fun e u' w' => e = .returned (.tuple #[]) ∧ u' = .returning ∧ Mem w0 G L w') := by
 refine callsD_start (vs := [_, _, _]) Tryz.func80 rfl (n := 16) rfl rfl ?_
 intro c0 cs0 a hu F
 refine wpS_seq <| wpS_rec rfl (Or.inl ⟨by simp [recoverD, hu], rfl, rfl⟩) ?_
 replace F := F.put (d := 6) (v := .nilIface) rfl
 revert F; generalize a.put (some 6) (.nilIface) = a; intro F
 refine rl_run F (run_assertNil tok118 tok118.k (F.ev rfl)) rfl ?_; clear F a; intro a F
 refine rl_run F (run_move (F.ev rfl)) rfl ?_; clear F a; intro a F
 refine rl_run F (run_extract (v := .agg #[.int .i64 (0), .int .i64 (0)]) (F.ev rfl) rfl) rfl ?_; clear F a; intro a F
 refine rl_run F (run_extract (v := .bool false) (F.ev rfl) rfl) rfl ?_; clear F a; intro a F
 refine rl_alloc F M tok118 rfl rfl ?_; clear F M a; intro b1 w a M F
 refine rl_storeA F M tok118 (k := 0) rfl rfl rfl (us := [.int .i64 (0), .int .i64 (0)]) rfl rfl (by simp [Value.oneCell']) (by simp) ?_; clear F M a; intro w a M F
 change Mem w0 G (.blk b1 [.int .i64 (0), .int .i64 (0)] 118 :: L) _ at M
 refine rl_run F (run_assign (F.ev rfl)) rfl ?_; clear F a; intro a F
 refine rl_nil <| (wpS_of_wp ?_ : Code.wpS _ _ _ _ _ _)
 refine wp_seq <| w_reg <| rl_run F (run_move (F.ev rfl)) rfl ?_; clear F a; intro a F
 refine rl_nil <| q_tn <| w_cond_f F rfl rfl ?_
 refine wp_skip ?_
 exact finS (u' := .returning) F rfl (by rw [← hu]) ⟨rfl, rfl, M.weaken (.cons _ (List.Sublist.refl _))⟩
theorem parse1_pan {w0 w : World} {G : Ghost} {L : List Res} {b2 b3 b4 i : Nat} {er : Int} {v0 v1 v2 v3 v4 v5 x3 x4 : Value} (M : Mem w0 G (.blk b2 [v0, v1, v2, v3, v4, v5] 30 :: .blk b3 [x3] 3 :: .blk b4 [x4] 32 :: L) w) :
  CallsD Tryz.prog 80 #[.pointer (some ⟨b2, 0, none⟩), .pointer (some ⟨b3, 0, none⟩), .pointer (some ⟨b4, 0, none⟩)] (.panicking (wrongV (i, er))) w (fun e u' w' => e = .returned (.tuple #[]) ∧ u' = .panicking [{ v := .iface 118 (.agg #[.int .i64 (((i : Nat) : Int)), .int .i64 (er)]), recovered := true }] ∧ Mem w0 G (.blk b2 [.int .u8 0, .string (str []), .string (str []), .slice none 0 0, .string (str []), .slice none 0 0] 30 :: .blk b3 [.int .i64 (i : Int)] 3 :: .blk b4 [.int .i64 er] 32 :: L) w') := by
 refine callsD_start (vs := [_, _, _]) Tryz.func80 rfl (n := 16) rfl rfl ?_
 intro c0 cs0 a hu F
 refine wpS_seq <| wpS_rec (v := .iface 118 (.agg #[.int .i64 (((i : Nat) : Int)), .int .i64 (er)])) (cs' := { c0 with mode := .panicking [{ v := .iface 118 (.agg #[.int .i64 (((i : Nat) : Int)), .int .i64 (er)]), recovered := true }] } :: cs0) rfl (Or.inr (by simp [recoverD, hu, wrongV])) ?_
 replace F := F.put (d := 6) (v := .iface 118 (.agg #[.int .i64 (((i : Nat) : Int)), .int .i64 (er)])) rfl
 revert F; generalize a.put (some 6) (.iface 118 (.agg #[.int .i64 (((i : Nat) : Int)), .int .i64 (er)])) = a; intro F
 refine rl_run F (run_assertYes tok118.k (F.ev rfl)) rfl ?_; clear F a; intro a F
 refine rl_run F (run_move (F.ev rfl)) rfl ?_; clear F a; intro a F
 refine rl_run F (run_extract (v := .agg #[.int .i64 (((i : Nat) : Int)), .int .i64 (er)]) (F.ev rfl) rfl) rfl ?_; clear F a; intro a F
 refine rl_run F (run_extract (v := .bool true) (F.ev rfl) rfl) rfl ?_; clear F a; intro a F
 refine rl_alloc F M tok118 rfl rfl ?_; clear F M a; intro b1 w a M F
 refine rl_storeA F M tok118 (k := 0) rfl rfl rfl (us := [.int .i64 (((i : Nat) : Int)), .int .i64 (er)]) rfl rfl (by simp [Value.oneCell']) (by simp) ?_; clear F M a; intro w a M F
 change Mem w0 G (.blk b1 [.int .i64 (((i : Nat) : Int)), .int .i64 (er)] 118 :: _ :: _ :: _ :: L) _ at M
 refine rl_run F (run_assign (F.ev rfl)) rfl ?_; clear F a; intro a F
 refine rl_nil <| (wpS_of_wp ?_ : Code.wpS _ _ _ _ _ _)
 refine wp_seq <| w_reg <| rl_run F (run_move (F.ev rfl)) rfl ?_; clear F a; intro a F
 refine rl_nil <| q_tn <| w_cond_t F rfl rfl ?_
 refine w_plan [(true, 0), (true, 1), (true, 2), (true, 3), (true, 4), (false, 5), (false, 6), (false, 7)] (Keep G [.blk b1 [.int .i64 (((i : Nat) : Int)), .int .i64 (er)] 118]) rfl (by kernel_rfl) (fun c a d v w h => by cases d <;> exact h) ((M.drew _).keep (Gle.refl _) (by simp)) ?_
 replace M := M.drew (w.drawn + 1)
 refine pl_run F (fun w M => run_buildS (cs := [.int .u8 (0), .string (str ([] : List UInt8)), .string (str ([] : List UInt8)), .slice none (0) (0), .string (str ([] : List UInt8)), .slice none (0) (0)]) (ps := []) tok30.k rfl tok30 (F.evp rfl) rfl) rfl ?_; clear F a; intro a F
 refine pl_run F (fun w M => run_fieldAddr tok118.k rfl rfl (F.ev rfl)) rfl ?_; clear F a; intro a F
 refine pl_run F (fun w M => run_load1 (agf tok3 rfl) (F.ev rfl) (M.cellL (k := 0) rfl rfl)) rfl ?_; clear F a; intro a F
 refine pl_run F (fun w M => run_fieldAddr tok118.k rfl rfl (F.ev rfl)) rfl ?_; clear F a; intro a F
 refine pl_run F (fun w M => run_load1 (agf tok32 rfl) (F.ev rfl) (M.cellL (k := 0) rfl rfl)) rfl ?_; clear F a; intro a F
 refine pl_act ?_ rfl
 refine rl_storeA F M tok30 (k := 1) rfl rfl rfl (us := [.int .u8 (0), .string (str ([] : List UInt8)), .string (str ([] : List UInt8)), .slice none (0) (0), .string (str ([] : List UInt8)), .slice none (0) (0)]) rfl rfl (by simp [Value.oneCell']) (by simp) ?_; clear F M a; intro w a M F
 change Mem w0 G (.blk b1 [.int .i64 (((i : Nat) : Int)), .int .i64 (er)] 118 :: .blk b2 [.int .u8 (0), .string (str ([] : List UInt8)), .string (str ([] : List UInt8)), .slice none (0) (0), .string (str ([] : List UInt8)), .slice none (0) (0)] 30 :: _ :: _ :: L) _ at M
 refine rl_nil <| ⟨Keep G [.blk b1 [.int .i64 (((i : Nat) : Int)), .int .i64 (er)] 118], M.keep (Gle.refl _) (by simp), fun w h => h.mono (Gle.refl _) (by simp), ?_⟩
 refine pl_act ?_ rfl
 refine rl_store1 F M tok3 rfl (k := 2) rfl rfl rfl rfl rfl ?_; clear F M a; intro w a M F
 refine rl_nil <| ⟨Keep G [.blk b1 [.int .i64 (((i : Nat) : Int)), .int .i64 (er)] 118], M.keep (Gle.refl _) (by simp), fun w h => h.mono (Gle.refl _) (by simp), ?_⟩
 refine pl_act ?_ rfl
 refine rl_store1 F M tok32 rfl (k := 3) rfl rfl rfl rfl rfl ?_; clear F M a; intro w a M F
 refine rl_nil <| ⟨Keep G [.blk b1 [.int .i64 (((i : Nat) : Int)), .int .i64 (er)] 118], M.keep (Gle.refl _) (by simp), fun w h => h.mono (Gle.refl _) (by simp), ?_⟩
 refine pl_nil ?_
 replace M := M.perm (perm_front _ 3 _ rfl)
 replace M := M.perm (perm_front _ 3 _ rfl)
 replace M := M.perm (perm_front _ 3 _ rfl)
 change Mem w0 G (.blk b2 [.int .u8 (0), .string (str ([] : List UInt8)), .string (str ([] : List UInt8)), .slice none (0) (0), .string (str ([] : List UInt8)), .slice none (0) (0)] 30 :: .blk b3 [.int .i64 (((i : Nat) : Int))] 3 :: .blk b4 [.int .i64 (er)] 32 :: .blk b1 [.int .i64 (((i : Nat) : Int)), .int .i64 (er)] 118 :: L) _ at M
 exact finS (u' := .panicking [{ v := .iface 118 (.agg #[.int .i64 (((i : Nat) : Int)), .int .i64 (er)]), recovered := true }]) F rfl rfl ⟨rfl, rfl, M.weaken (.cons_cons _ (.cons_cons _ (.cons_cons _ (.cons _ (List.Sublist.refl _)))))⟩
end Go.Proofs.YtlnehkjmmegkhaaGreat
