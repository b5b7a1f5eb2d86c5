/- The walks, part NP. -/
import Derived.Test.YtlnehkjmmegkhaaGreatWalkND
namespace Go.Proofs.YtlnehkjmmegkhaaGreat
open Go Go.Y Go.Proofs
set_option linter.unusedSimpArgs false
set_option linter.unusedVariables false
/-! ### Calls that may panic -/
theorem rl_panic {P : Program} {ops : Array Oper} {Q : Exit → Act → World → Prop} {n : Nat} {a : Act} {w : World} {e : Env} {t ty : TypeId} {p : String} {af : Array Edge} {r : List Oper} {x : Operand} {v : Value} (F : Fits n a e) (hx : ev e x = some (.iface ty v))
  (h : Q (.panic [{ v := .iface ty v, recovered := false }]) a w) : rl P ops Q (⟨none, .panic x, t, p, af, none⟩ :: r) a w := by
 refine ⟨fun _ => ?_, fun h => by simp [Region.wanted] at h⟩
 unfold Oper.wp
 have hr : (execOp a.eval ⟨none, .panic x, t, p, af, none⟩).run P w = .halt (.panic (.iface ty v)) w := by
  simp [execOp, F.ev hx, Instr.panic]
 rw [hr]
 exact h
theorem run_ifaceA {P : Program} {w : World} {t : TypeId} {p : String} {af : Array Edge} {ρ : Operand → Value} {dd : Option Tmp} {g : Option (Nat × Bool)} {x : Operand} {ty : TypeId} {fs : List (Nat × Nat × Nat)} {v : Value} (ht : tk P ty = .struct fs) (hx : ρ x = v) :
  (execOp ρ ⟨dd, .makeInterface ty x, t, p, af, g⟩).run P w = .ok (.value (.iface ty v)) w := by
 obtain ⟨ff, hu, _⟩ := under_struct ht
 simp [execOp, hx, Instr.makeInterface, run_under hu]
/-- The reader. -/
def RB (rb : Nat) (s : List UInt8) (i nd : Nat) : Res := .blk rb [.string (str s), .int .i64 (i : Int), .int .i64 (nd : Int)] 122
def wrongV (e : Nat × Int) : List PanicEntry := [{ v := .iface 118 (.agg #[.int .i64 (e.1 : Int), .int .i64 e.2]), recovered := false }]
def RetRd (w0 : World) (G : Ghost) (L : List Res) (rb : Nat) (s : List UInt8) (Φ : Ghost → Value → Nat → Nat → Prop) (Er : Nat × Int → Prop) : Ending → World → Prop
 | .returned v, w' => ∃ (G' : Ghost) (i nd : Nat), Gle G G' ∧ Mem w0 G' (RB rb s i nd :: L) w' ∧ Φ G' v i nd
 | .panicked c, w' => ∃ (G' : Ghost) (e : Nat × Int) (i nd : Nat), Gle G G' ∧ Mem w0 G' (RB rb s i nd :: L) w' ∧ Er e ∧ c = wrongV e
 | .outgrown, _ => False
theorem finRd {P : Program} {fn : Func} {n : Nat} {a : Act} {w w0 : World} {ev : Env} {G G' : Ghost} {L : List Res} {rb i nd : Nat} {s : List UInt8} {Φ : Ghost → Value → Nat → Nat → Prop} {Er : Nat × Int → Prop} {e : Nat × Int} (F : Fits n a ev) (hg : Gle G G') (M : Mem w0 G' (RB rb s i nd :: L) w) (h : Er e) :
  bodyPost P fn (RetRd w0 G L rb s Φ Er) (.panic (wrongV e)) a w := ⟨F.defers, G', e, i, nd, hg, M, h, rfl⟩
theorem rl_callRd {P : Program} {ops : Array Oper} {Q : Exit → Act → World → Prop} {n : Nat} {a : Act} {w w0 : World} {e : Env} {d : Nat} {t : TypeId} {p : String} {af : Array Edge} {r : List Oper} {G : Ghost} {L : List Res} {rb : Nat} {s : List UInt8} {f : FuncId} {cal : Operand} {args : List Operand} {ats : Array TypeId} {vs : List Value}
  {Φ : Ghost → Value → Nat → Nat → Prop} {Er : Nat × Int → Prop} (F : Fits n a e) (hE : Ent P f) (hr : ∀ w, (execOp a.eval ⟨some d, .call ⟨.value cal, args.toArray, ats⟩, t, p, af, none⟩).run P w = .ok (.enter f vs.toArray) w) (hd : Nat.ble (d + 1) n = true)
  (hs : Calls P f vs.toArray w (RetRd w0 G L rb s Φ Er)) (kp : ∀ e w' G' i nd, Gle G G' → Mem w0 G' (RB rb s i nd :: L) w' → Er e → Q (.panic (wrongV e)) a w')
  (k : ∀ v G' i nd w' a', Gle G G' → Mem w0 G' (RB rb s i nd :: L) w' → Φ G' v i nd → Fits n a' ((d, v) :: e) → rl P ops Q r a' w') : rl P ops Q (⟨some d, .call ⟨.value cal, args.toArray, ats⟩, t, p, af, none⟩ :: r) a w := by
 refine ⟨fun _ => ?_, fun h => by simp [Region.wanted] at h⟩
 unfold Oper.wp
 rw [hr w]
 refine Calls.mono hs fun x w' hx => ?_
 cases x with
 | returned v => obtain ⟨G', i, nd, h1, h2, h3⟩ := hx; exact k v G' i nd w' _ h1 h2 h3 (F.put hd)
 | panicked c => obtain ⟨G', e, i, nd, h1, h2, h3, rfl⟩ := hx; exact kp e w' G' i nd h1 h2 h3
 | outgrown => exact hx.elim
theorem run_callF {P : Program} {n : Nat} {a : Act} {e : Env} {d : Nat} {t : TypeId} {p : String} {af : Array Edge} {f : FuncId} {cal : Operand} {args : List Operand} {ats : Array TypeId} {vs first : List Value} (F : Fits n a e) (hE : Ent P f) (hc : ev e cal = some (.func (.func f) first.toArray #[])) (hv : evs e args = some vs) :
  ∀ w, (execOp a.eval ⟨some d, .call ⟨.value cal, args.toArray, ats⟩, t, p, af, none⟩).run P w = .ok (.enter f (first ++ vs).toArray) w := by
 intro w
 have h1 := F.ev hc
 have h2 := F.evs hv
 simp only [execOp, resolve, h1, Deferred.ofValue, Sem.run_bind, Sem.run_pure, Result.andThen_ok, invoke]
 rw [show (first.toArray ++ Array.map a.eval args.toArray ++ #[]) = (first ++ vs).toArray by simp [← h2]]
 exact run_enter hE
/-! ### The text that is read -/
def pkB (s : List UInt8) (i : Nat) : UInt8 := (s[i]?).getD 0
theorem pkB_some {s : List UInt8} {i : Nat} {b : UInt8} (h : s[i]? = some b) : pkB s i = b := by unfold pkB; rw [h]; rfl
theorem pkB_none {s : List UInt8} {i : Nat} (h : ¬ i < s.length) : nb (pkB s i) = 0 := by unfold pkB; rw [List.getElem?_eq_none (by omega)]; rfl
theorem pkB_lt {s : List UInt8} {i : Nat} (h : nb (pkB s i) ≠ 0) : i < s.length := Classical.byContradiction fun h1 => h (pkB_none h1)
/-- Bytes that have to be there. -/
def takeF (s : List UInt8) : List UInt8 → Nat → Except (Nat × Int) Nat
 | [], i => .ok i
 | b :: wd, i => if nb (pkB s i) = nb b then takeF s wd (i + 1) else .error (i, 5)
theorem rfail_spec {w0 w : World} {G : Ghost} {L : List Res} {rb i nd : Nat} {s : List UInt8} (M : Mem w0 G (RB rb s i nd :: L) w) {er : Int} : Calls Tryz.prog 82 #[.pointer (some ⟨rb, 0, none⟩), .int .i64 er] w (RetRd w0 G L rb s (fun _ _ _ _ => False) (fun x => x = (i, er))) := by
 change Mem w0 G (.blk rb [.string (str (s)), .int .i64 (((i : Nat) : Int)), .int .i64 (((nd : Nat) : Int))] 122 :: L) _ at M
 refine calls_start (vs := [_, _]) Tryz.func82 rfl (n := 11) rfl rfl ?_
 intro a F
 refine w_reg <| rl_run F (run_move (F.ev rfl)) rfl ?_; clear F a; intro a F
 refine rl_run F (run_nilCheck (F.ev rfl)) rfl ?_; clear F a; intro a F
 refine rl_run F (run_fieldAddr tok122.k rfl rfl (F.ev rfl)) rfl ?_; clear F a; intro a F
 refine rl_run F (run_load1 (agf tok3 rfl) (F.ev rfl) (M.cellL (k := 0) rfl rfl)) rfl ?_; clear F a; intro a F
 refine rl_run F (run_move (F.ev rfl)) rfl ?_; clear F a; intro a F
 refine rl_run F (run_buildS (cs := [.int .i64 (((i : Nat) : Int)), .int .i64 (er)]) (ps := [(0, .int .i64 (((i : Nat) : Int))), (1, .int .i64 (er))]) tok118.k rfl tok118 (F.evp rfl) rfl) rfl ?_; clear F a; intro a F
 refine rl_run F (run_ifaceA tok118.k (F.ev rfl)) rfl ?_; clear F a; intro a F
 refine rl_panic F rfl ?_
 exact finRd (e := (i, er)) F (Gle.refl _) M rfl
theorem rpeek_spec {w0 w : World} {G : Ghost} {L : List Res} {rb i nd : Nat} {s : List UInt8} (M : Mem w0 G (RB rb s i nd :: L) w) : Calls Tryz.prog 100 #[.pointer (some ⟨rb, 0, none⟩)] w (RetS w0 G (RB rb s i nd :: L) fun v => v = .int .u8 (nb (pkB s i))) := by
 change Mem w0 G (.blk rb [.string (str (s)), .int .i64 (((i : Nat) : Int)), .int .i64 (((nd : Nat) : Int))] 122 :: L) _ at M
 refine calls_start (vs := [_]) Tryz.func100 rfl (n := 22) rfl rfl ?_
 intro a F
 refine wp_seq <| w_reg <| rl_run F (run_assign (F.ev rfl)) rfl ?_; clear F a; intro a F
 refine rl_nil <| q_tn ?_
 iterate 2 (refine wp_seq ?_)
 refine w_plan2 [(.free, 0), (.free, 1), (.free, 2), (.pure, 3), (.free, 4), (.free, 5), (.free, 6), (.pure, 7), (.pure, 8), (.free, 9)] [] (Keep G [.blk rb [.string (str (s)), .int .i64 (((i : Nat) : Int)), .int .i64 (((nd : Nat) : Int))] 122]) rfl (by kernel_rfl) (fun c a d v w h => by cases d <;> exact h) ((M.drew _).keep (Gle.refl _) (by simp)) ?_
 replace M := M.drew (w.drawn + 1)
 refine pk_free F (fun w _ => run_move (F.ev rfl)) rfl ?_; clear F a; intro a F
 refine pk_free F (fun w _ => run_nilCheck (F.ev rfl)) rfl ?_; clear F a; intro a F
 refine pk_free F (fun w _ => run_fieldAddr tok122.k rfl rfl (F.ev rfl)) rfl ?_; clear F a; intro a F
 refine pk_pure F (fun w M => run_load1 (agf tok3 rfl) (F.ev rfl) (M.cellL (k := 0) rfl rfl)) rfl ?_; clear F a; intro a F
 refine pk_free F (fun w _ => run_move (F.ev rfl)) rfl ?_; clear F a; intro a F
 refine pk_free F (fun w _ => run_nilCheck (F.ev rfl)) rfl ?_; clear F a; intro a F
 refine pk_free F (fun w _ => run_fieldAddr tok122.k rfl rfl (F.ev rfl)) rfl ?_; clear F a; intro a F
 refine pk_pure F (fun w M => run_load1 (agf tok9 rfl) (F.ev rfl) (M.cellL (k := 0) rfl rfl)) rfl ?_; clear F a; intro a F
 refine pk_pure F (fun w M => run_lenStr tok9.k (F.ev rfl)) rfl ?_; clear F a; intro a F
 refine pk_free F (fun w _ => run_lss (F.ev rfl) (F.ev rfl)) rfl ?_; clear F a; intro a F
 refine pk_nil ?_
 generalize ({ w with drawn := w.drawn + 1 } : World) = w at M ⊢
 refine q_tn <| w_cond F rfl ?_ ?_
 ·intro hc
  have h1b := hc; clear hc
  have h1 : ((i : Nat) : Int) < (((s).length : Nat) : Int) := of_decide_eq_true h1b
  refine wp_seq <| w_plan2 [(.free, 0), (.free, 1), (.free, 2), (.pure, 3), (.free, 4), (.free, 5), (.free, 6), (.pure, 7), (.free, 8), (.free, 9)] [] (Keep G [.blk rb [.string (str (s)), .int .i64 (((i : Nat) : Int)), .int .i64 (((nd : Nat) : Int))] 122]) rfl (by kernel_rfl) (fun c a d v w h => by cases d <;> exact h) ((M.drew _).keep (Gle.refl _) (by simp)) ?_
  replace M := M.drew (w.drawn + 1)
  refine pk_free F (fun w _ => run_move (F.ev rfl)) rfl ?_; clear F a; intro a F
  refine pk_free F (fun w _ => run_nilCheck (F.ev rfl)) rfl ?_; clear F a; intro a F
  refine pk_free F (fun w _ => run_fieldAddr tok122.k rfl rfl (F.ev rfl)) rfl ?_; clear F a; intro a F
  refine pk_pure F (fun w M => run_load1 (agf tok9 rfl) (F.ev rfl) (M.cellL (k := 0) rfl rfl)) rfl ?_; clear F a; intro a F
  refine pk_free F (fun w _ => run_move (F.ev rfl)) rfl ?_; clear F a; intro a F
  refine pk_free F (fun w _ => run_nilCheck (F.ev rfl)) rfl ?_; clear F a; intro a F
  refine pk_free F (fun w _ => run_fieldAddr tok122.k rfl rfl (F.ev rfl)) rfl ?_; clear F a; intro a F
  refine pk_pure F (fun w M => run_load1 (agf tok3 rfl) (F.ev rfl) (M.cellL (k := 0) rfl rfl)) rfl ?_; clear F a; intro a F
  obtain ⟨B2, hB2⟩ := get_of_lt (xs := (s)) (i := i) (by omega)
  have lB2 := nb_hi B2
  refine pk_free F (fun w _ => run_strIndex (i := i) tok9.k (F.ev rfl) (F.ev rfl) hB2) rfl ?_; clear F a; intro a F
  refine pk_free F (fun w _ => run_assign (F.ev rfl)) rfl ?_; clear F a; intro a F
  refine pk_nil ?_
  generalize ({ w with drawn := w.drawn + 1 } : World) = w at M ⊢
  refine q_tn <| wp_ret <| q_tr <| fin1 F rfl rfl ?_
  exact ⟨M, by rw [pkB_some hB2]⟩
 ·intro hc
  have h3b := hc; clear hc
  have h3 : ¬ (((i : Nat) : Int) < (((s).length : Nat) : Int)) := of_decide_eq_false h3b
  refine wp_skip <| q_tn <| wp_seq <| w_reg <| rl_run F (run_assign (F.ev rfl)) rfl ?_; clear F a; intro a F
  refine rl_nil <| q_tn <| wp_ret <| fin1 F rfl rfl ?_
  exact ⟨M, by rw [pkB_none (by omega)]⟩
theorem take_step {s wd : List UInt8} {i j q : Nat} {b : UInt8} (h : takeF s wd i = takeF s (wd.drop q) j) (hb : wd[q]? = some b) (he : nb (pkB s j) = nb b) : takeF s wd i = takeF s (wd.drop (q + 1)) (j + 1) := by
 obtain ⟨hq, rfl⟩ := List.getElem?_eq_some_iff.1 hb
 rw [h, List.drop_eq_getElem_cons hq]
 simp only [takeF]
 rw [if_pos he]
theorem take_fail {s wd : List UInt8} {i j q : Nat} {b : UInt8} (h : takeF s wd i = takeF s (wd.drop q) j) (hb : wd[q]? = some b) (he : ¬ nb (pkB s j) = nb b) : takeF s wd i = .error (j, 5) := by
 obtain ⟨hq, rfl⟩ := List.getElem?_eq_some_iff.1 hb
 rw [h, List.drop_eq_getElem_cons hq]
 simp only [takeF]
 rw [if_neg he]
theorem rtake_spec {w0 w : World} {G : Ghost} {L : List Res} {rb i nd : Nat} {s : List UInt8} (M : Mem w0 G (RB rb s i nd :: L) w) {wd : List UInt8} (hwd : wd.length ≤ 1000) (hi : i ≤ 2000000) : Calls Tryz.prog 102 #[.pointer (some ⟨rb, 0, none⟩), .string (str wd)] w (RetRd w0 G L rb s (fun _ v i' nd' => takeF s wd i = .ok i' ∧ nd' = nd ∧ i' = i + wd.length) (fun e => takeF s wd i = .error e)) := by
 change Mem w0 G (.blk rb [.string (str (s)), .int .i64 (((i : Nat) : Int)), .int .i64 (((nd : Nat) : Int))] 122 :: L) _ at M
 refine calls_start (vs := [_, _]) Tryz.func102 rfl (n := 26) rfl rfl ?_
 intro a F
 refine wp_seq <| w_reg <| rl_run F (run_move (F.ev rfl)) rfl ?_; clear F a; intro a F
 refine rl_run F (run_lenStr tok9.k (F.ev rfl)) rfl ?_; clear F a; intro a F
 refine rl_run F (run_move (F.ev rfl)) rfl ?_; clear F a; intro a F
 refine rl_nil <| q_tn <| wp_block <| w_loopN (fun m a' w' => ∃ (q : Nat), ∃ (j : Nat), m = wd.length - q ∧ Fits 26 a' [(0, .pointer (some ⟨rb, 0, none⟩)), (1, .string (str (wd))), (6, .int .i64 ((((wd).length : Nat) : Int))), (7, .int .i64 (((q : Nat) : Int)))] ∧ Mem w0 G (.blk rb [.string (str (s)), .int .i64 (((j : Nat) : Int)), .int .i64 (((nd : Nat) : Int))] 122 :: L) w' ∧ (q ≤ wd.length) ∧ (j = i + q) ∧ (takeF s wd i = takeF s (wd.drop q) j)) _ ⟨0, i, rfl, F.to ⟨rfl, rfl, rfl, rfl, trivial⟩, M, Nat.zero_le _, rfl, rfl⟩ ?_
 clear F M
 rintro m a w ⟨q, j, rfl, F, M, hq, hj, hT⟩
 refine wp_seq <| w_reg <| rl_run F (run_lss (F.ev rfl) (F.ev rfl)) rfl ?_; clear F a; intro a F
 refine rl_nil <| q_tn <| wp_seq <| w_cond F rfl ?_ ?_
 ·intro hc
  have h1b := hc; clear hc
  have h1 : ((q : Nat) : Int) < (((wd).length : Nat) : Int) := of_decide_eq_true h1b
  refine wp_skip <| q_tn <| wp_seq <| wp_block <| wp_seq <| w_reg <| rl_run F (run_move (F.ev rfl)) rfl ?_; clear F a; intro a F
  refine rl_run F (run_assign (F.ev rfl)) rfl ?_; clear F a; intro a F
  refine rl_nil <| q_tn ?_
  iterate 2 (refine wp_seq ?_)
  refine w_plan2 [(.free, 0), (.free, 2), (.free, 3), (.free, 4), (.keep, 1), (.free, 5)] [] (Keep G [.blk rb [.string (str (s)), .int .i64 (((j : Nat) : Int)), .int .i64 (((nd : Nat) : Int))] 122]) rfl (by kernel_rfl) (fun c a d v w h => by cases d <;> exact h) ((M.drew _).keep (Gle.refl _) (by simp)) ?_
  replace M := M.drew (w.drawn + 1)
  iterate 3 (refine pk_free F (fun w _ => run_move (F.ev rfl)) rfl ?_; clear F a; intro a F)
  obtain ⟨B2, hB2⟩ := get_of_lt (xs := (wd)) (i := q) (by omega)
  have lB2 := nb_hi B2
  refine pk_free F (fun w _ => run_strIndex (i := q) tok9.k (F.ev rfl) (F.ev rfl) hB2) rfl ?_; clear F a; intro a F
  refine pk_keep ?_ rfl
  change Mem w0 G (_ :: L) _ at M
  refine rl_callS F ent100 rfl rfl (rpeek_spec (L := L) M) ?_; clear F M a; rintro _ w a M rfl F
  change Mem w0 G (.blk rb [.string (str (s)), .int .i64 (((j : Nat) : Int)), .int .i64 (((nd : Nat) : Int))] 122 :: L) _ at M
  refine rl_nil <| ⟨Keep G [.blk rb [.string (str (s)), .int .i64 (((j : Nat) : Int)), .int .i64 (((nd : Nat) : Int))] 122], M.keep (Gle.refl _) (by simp), fun w h => h.mono (Gle.refl _) (by simp), ?_⟩
  refine pk_free F (fun w _ => run_nei (F.ev rfl) (F.ev rfl)) rfl ?_; clear F a; intro a F
  refine pk_nil <| q_tn <| w_cond F rfl ?_ ?_
  ·intro hc
   have h3b := hc; clear hc
   have h3 : ¬ (nb (pkB s j) = nb B2) := of_decide_eq_false (of_not_t h3b)
   have h3c : (decide (nb (pkB s j) = nb B2)) = false := (of_not_t h3b)
   refine w_reg <| rl_run F (run_move (F.ev rfl)) rfl ?_; clear F a; intro a F
   change Mem w0 G (_ :: L) _ at M
   exact rl_callRd (G := G) (L := L) (rb := rb) (s := s) F ent82 (run_callF F ent82 rfl rfl) rfl (rfail_spec (er := 5) M) (fun e_ w_ G_ i_ nd_ hg_ M_ h_ => finRd (P := Tryz.prog) (fn := Tryz.f102) F hg_ (M_.weaken (.cons_cons _ (List.Sublist.refl _))) (by subst h_; exact take_fail hT hB2 (by assumption))) (fun _ _ _ _ _ _ _ _ h_ _ => h_.elim)
  ·intro hc
   have h5b := hc; clear hc
   have h5 : nb (pkB s j) = nb B2 := of_decide_eq_true (of_not_f h5b)
   have h5c : (decide (nb (pkB s j) = nb B2)) = true := (of_not_f h5b)
   refine wp_skip <| q_tn <| w_reg <| rl_run F (run_move (F.ev rfl)) rfl ?_; clear F a; intro a F
   refine rl_run F (run_nilCheck (F.ev rfl)) rfl ?_; clear F a; intro a F
   refine rl_run F (run_fieldAddr tok122.k rfl rfl (F.ev rfl)) rfl ?_; clear F a; intro a F
   refine rl_run F (run_load1 (agf tok3 rfl) (F.ev rfl) (M.cellL (k := 0) rfl rfl)) rfl ?_; clear F a; intro a F
   refine rl_run F (run_addi (F.ev rfl) (F.ev rfl) (in_i64 (by omega) (by omega))) rfl ?_; clear F a; intro a F
   refine rl_run F (run_nilCheck (F.ev rfl)) rfl ?_; clear F a; intro a F
   refine rl_run F (run_fieldAddr tok122.k rfl rfl (F.ev rfl)) rfl ?_; clear F a; intro a F
   refine rl_store1 F M tok3 rfl (k := 0) rfl rfl rfl rfl rfl ?_; clear F M a; intro w a M F
   refine rl_nil <| q_bn <| q_tn <| w_reg <| rl_run F (run_addi (F.ev rfl) (F.ev rfl) (in_i64 (by omega) (by omega))) rfl ?_; clear F a; intro a F
   refine rl_run F (run_move (F.ev rfl)) rfl ?_; clear F a; intro a F
   refine rl_nil <| q_tn ?_
   exact ⟨_, by omega, q + 1, (j + 1), rfl, F.to ⟨rfl, rfl, rfl, rfl, trivial⟩, M, by omega, by omega, take_step hT hB2 (by assumption)⟩
 ·intro hc
  have h6b := hc; clear hc
  have h6 : ¬ (((q : Nat) : Int) < (((wd).length : Nat) : Int)) := of_decide_eq_false h6b
  refine wp_exit ?_
  iterate 2 (refine q_te ?_)
  refine q_bh <| fin0n F rfl ?_
  rw [List.drop_of_length_le (by omega)] at hT
  exact ⟨_, _, _, (Gle.refl _), M, hT, rfl, by omega⟩
def runN (s : List UInt8) : Nat → Nat → Nat
 | 0, _ => 0
 | f + 1, i => if NameB (pkB s i) then runN s f (i + 1) + 1 else 0
/-- A name. -/
def nameF (s : List UInt8) (i : Nat) : Except (Nat × Int) (List UInt8 × Nat) :=
 let k := runN s 17 i
 if k = 17 then .error (i + 16, 5) else if k = 0 then .error (i, 5) else .ok ((s.drop i).take k, i + k)
theorem runN_yes {s : List UInt8} {f i : Nat} (h : NameB (pkB s i)) : runN s (f + 1) i = runN s f (i + 1) + 1 := by rw [runN, if_pos h]
theorem runN_no {s : List UInt8} {f i : Nat} (h : ¬ NameB (pkB s i)) : runN s f i = 0 := by
 cases f with
 | zero => rfl
 | succ f => rw [runN, if_neg h]
theorem nameB_ne {c : UInt8} (h : NameB c) : nb c ≠ 0 := by rcases h with h | h <;> omega
theorem name_long {s : List UInt8} {i j : Nat} (h : runN s 17 i = (j - i) + runN s (17 - (j - i)) j) (hj : j - i = 16) (hn : NameB (pkB s j)) : nameF s i = .error (j, 5) := by
 rw [hj, show 17 - 16 = 0 + 1 by rfl, runN_yes hn] at h
 have h2 : runN s 17 i = 17 := by rw [h]; rfl
 unfold nameF; rw [if_pos h2, show i + 16 = j by omega]
theorem name_next {s : List UInt8} {i j : Nat} (h : runN s 17 i = (j - i) + runN s (17 - (j - i)) j) (hij : i ≤ j) (hj : j - i ≤ 16) (hn : NameB (pkB s j)) : runN s 17 i = (j + 1 - i) + runN s (17 - (j + 1 - i)) (j + 1) := by
 rw [show 17 - (j - i) = (17 - (j + 1 - i)) + 1 by omega, runN_yes hn] at h
 omega
theorem name_none {s : List UInt8} {i : Nat} (hn : ¬ NameB (pkB s i)) : nameF s i = .error (i, 5) := by
 unfold nameF; rw [runN_no hn]; rfl
theorem name_some {s : List UInt8} {i j : Nat} (h : runN s 17 i = (j - i) + runN s (17 - (j - i)) j) (hij : i ≤ j) (hj : j - i ≤ 16) (hne : ¬ j = i) (hn : ¬ NameB (pkB s j)) : nameF s i = .ok ((s.take j).drop i, j) := by
 rw [runN_no hn] at h
 unfold nameF
 rw [h]
 show (if (j - i + 0) = 17 then _ else if (j - i + 0) = 0 then _ else _) = _
 rw [if_neg (by omega), if_neg (by omega), List.drop_take, show i + (j - i + 0) = j by omega, Nat.add_zero]
theorem rname_read {w0 w : World} {G : Ghost} {L : List Res} {rb i nd : Nat} {s : List UInt8} (M : Mem w0 G (RB rb s i nd :: L) w) (hi : i ≤ s.length) (hs : s.length ≤ 2000000) : Calls Tryz.prog 103 #[.pointer (some ⟨rb, 0, none⟩)] w (RetRd w0 G L rb s (fun _ v i' nd' => ∃ t, nameF s i = .ok (t, i') ∧ v = .string (str t) ∧ nd' = nd ∧ i < i' ∧ i' ≤ s.length ∧ t.length ≤ 16 ∧ t ≠ []) (fun e => nameF s i = .error e)) := by
 change Mem w0 G (.blk rb [.string (str (s)), .int .i64 (((i : Nat) : Int)), .int .i64 (((nd : Nat) : Int))] 122 :: L) _ at M
 refine calls_start (vs := [_]) Tryz.func103 rfl (n := 45) rfl rfl ?_
 intro a F
 refine wp_seq <| w_reg <| rl_run F (run_assign (F.ev rfl)) rfl ?_; clear F a; intro a F
 refine rl_nil <| q_tn <| wp_seq <| w_reg <| rl_run F (run_move (F.ev rfl)) rfl ?_; clear F a; intro a F
 refine rl_run F (run_nilCheck (F.ev rfl)) rfl ?_; clear F a; intro a F
 refine rl_run F (run_fieldAddr tok122.k rfl rfl (F.ev rfl)) rfl ?_; clear F a; intro a F
 refine rl_run F (run_load1 (agf tok3 rfl) (F.ev rfl) (M.cellL (k := 0) rfl rfl)) rfl ?_; clear F a; intro a F
 refine rl_run F (run_assign (F.ev rfl)) rfl ?_; clear F a; intro a F
 refine rl_nil <| q_tn <| wp_seq <| wp_block <| w_loopN (fun m a' w' => ∃ (j : Nat), m = s.length + 17 - j ∧ Fits 45 a' [(0, .pointer (some ⟨rb, 0, none⟩)), (3, .int .i64 (((i : Nat) : Int)))] ∧ Mem w0 G (.blk rb [.string (str (s)), .int .i64 (((j : Nat) : Int)), .int .i64 (((nd : Nat) : Int))] 122 :: L) w' ∧ (i ≤ j ∧ j ≤ s.length ∧ j - i ≤ 16) ∧ (runN s 17 i = (j - i) + runN s (17 - (j - i)) j)) _ ⟨i, rfl, F.to ⟨rfl, rfl, trivial⟩, M, ⟨Nat.le_refl _, hi, by omega⟩, by simp⟩ ?_
 clear F M
 rintro m a w ⟨j, rfl, F, M, hj, hR⟩
 iterate 2 (refine wp_seq ?_)
 refine w_reg <| rl_run F (run_move (F.ev rfl)) rfl ?_; clear F a; intro a F
 change Mem w0 G (_ :: L) _ at M
 refine rl_callS F ent100 rfl rfl (rpeek_spec (L := L) M) ?_; clear F M a; rintro _ w a M rfl F
 change Mem w0 G (.blk rb [.string (str (s)), .int .i64 (((j : Nat) : Int)), .int .i64 (((nd : Nat) : Int))] 122 :: L) _ at M
 refine rl_callS F ent119 rfl rfl (inname_spec (c := (pkB s j)) M) ?_; clear F M a; rintro _ w a M ⟨b1, rfl, hb1⟩ F
 refine rl_nil <| q_tn <| w_cond F rfl ?_ ?_
 ·intro hc
  have h2b := hc; clear hc
  have h2 : (b1) = true := h2b
  refine wp_skip <| q_tn <| wp_block ?_
  iterate 2 (refine wp_seq ?_)
  have hlen9 := hj.2.1
  refine w_reg <| rl_run F (run_move (F.ev rfl)) rfl ?_; clear F a; intro a F
  refine rl_run F (run_nilCheck (F.ev rfl)) rfl ?_; clear F a; intro a F
  refine rl_run F (run_fieldAddr tok122.k rfl rfl (F.ev rfl)) rfl ?_; clear F a; intro a F
  refine rl_run F (run_load1 (agf tok3 rfl) (F.ev rfl) (M.cellL (k := 0) rfl rfl)) rfl ?_; clear F a; intro a F
  refine rl_run F (run_move (F.ev rfl)) rfl ?_; clear F a; intro a F
  refine rl_run F (run_subi (F.ev rfl) (F.ev rfl) (in_i64 (by omega) (by omega))) rfl ?_; clear F a; intro a F
  refine rl_run F (run_eqi (F.ev rfl) (F.ev rfl)) rfl ?_; clear F a; intro a F
  refine rl_nil <| q_tn <| w_cond F rfl ?_ ?_
  ·intro hc
   have h3b := hc; clear hc
   have h3 : (((j : Nat) : Int)) - (((i : Nat) : Int)) = 16 := of_decide_eq_true h3b
   refine w_reg <| rl_run F (run_move (F.ev rfl)) rfl ?_; clear F a; intro a F
   change Mem w0 G (_ :: L) _ at M
   exact rl_callRd (G := G) (L := L) (rb := rb) (s := s) F ent82 (run_callF F ent82 rfl rfl) rfl (rfail_spec (er := 5) M) (fun e_ w_ G_ i_ nd_ hg_ M_ h_ => finRd (P := Tryz.prog) (fn := Tryz.f103) F hg_ (M_.weaken (.cons_cons _ (List.Sublist.refl _))) (by subst h_; exact name_long hR (by omega) (hb1.1 (by assumption)))) (fun _ _ _ _ _ _ _ _ h_ _ => h_.elim)
  ·intro hc
   have h5b := hc; clear hc
   have h5 : ¬ ((((j : Nat) : Int)) - (((i : Nat) : Int)) = 16) := of_decide_eq_false h5b
   refine wp_skip <| q_tn <| w_reg <| rl_run F (run_move (F.ev rfl)) rfl ?_; clear F a; intro a F
   refine rl_run F (run_nilCheck (F.ev rfl)) rfl ?_; clear F a; intro a F
   refine rl_run F (run_fieldAddr tok122.k rfl rfl (F.ev rfl)) rfl ?_; clear F a; intro a F
   refine rl_run F (run_load1 (agf tok3 rfl) (F.ev rfl) (M.cellL (k := 0) rfl rfl)) rfl ?_; clear F a; intro a F
   refine rl_run F (run_addi (F.ev rfl) (F.ev rfl) (in_i64 (by omega) (by omega))) rfl ?_; clear F a; intro a F
   refine rl_run F (run_nilCheck (F.ev rfl)) rfl ?_; clear F a; intro a F
   refine rl_run F (run_fieldAddr tok122.k rfl rfl (F.ev rfl)) rfl ?_; clear F a; intro a F
   refine rl_store1 F M tok3 rfl (k := 0) rfl rfl rfl rfl rfl ?_; clear F M a; intro w a M F
   refine rl_nil <| q_bn <| q_tn ?_
   exact ⟨_, by omega, (j + 1), rfl, F.to ⟨rfl, rfl, trivial⟩, M, by have := pkB_lt (nameB_ne (hb1.1 (by assumption))); omega, name_next hR hj.1 (by omega) (hb1.1 (by assumption))⟩
 ·intro hc
  have h6b := hc; clear hc
  have h6 : (b1) = false := h6b
  have hnb : ¬ NameB (pkB s j) := fun h_ => by have := hb1.2 h_; simp_all
  refine wp_exit ?_
  iterate 2 (refine q_te ?_)
  refine q_bh <| q_tn ?_
  iterate 2 (refine wp_seq ?_)
  refine w_reg <| rl_run F (run_move (F.ev rfl)) rfl ?_; clear F a; intro a F
  refine rl_run F (run_nilCheck (F.ev rfl)) rfl ?_; clear F a; intro a F
  refine rl_run F (run_fieldAddr tok122.k rfl rfl (F.ev rfl)) rfl ?_; clear F a; intro a F
  refine rl_run F (run_load1 (agf tok3 rfl) (F.ev rfl) (M.cellL (k := 0) rfl rfl)) rfl ?_; clear F a; intro a F
  refine rl_run F (run_move (F.ev rfl)) rfl ?_; clear F a; intro a F
  refine rl_run F (run_eqi (F.ev rfl) (F.ev rfl)) rfl ?_; clear F a; intro a F
  refine rl_nil <| q_tn <| w_cond F rfl ?_ ?_
  ·intro hc
   have h7b := hc; clear hc
   have h7 : ((j : Nat) : Int) = ((i : Nat) : Int) := of_decide_eq_true h7b
   refine w_reg <| rl_run F (run_move (F.ev rfl)) rfl ?_; clear F a; intro a F
   change Mem w0 G (_ :: L) _ at M
   exact rl_callRd (G := G) (L := L) (rb := rb) (s := s) F ent82 (run_callF F ent82 rfl rfl) rfl (rfail_spec (er := 5) M) (fun e_ w_ G_ i_ nd_ hg_ M_ h_ => finRd (P := Tryz.prog) (fn := Tryz.f103) F hg_ (M_.weaken (.cons_cons _ (List.Sublist.refl _))) (by subst h_; rw [show j = i by omega] at hnb ⊢; exact name_none hnb)) (fun _ _ _ _ _ _ _ _ h_ _ => h_.elim)
  ·intro hc
   have h9b := hc; clear hc
   have h9 : ¬ (((j : Nat) : Int) = ((i : Nat) : Int)) := of_decide_eq_false h9b
   refine wp_skip <| q_tn <| wp_seq <| w_plan2 [(.free, 0), (.free, 1), (.free, 2), (.pure, 3), (.free, 4), (.free, 5), (.free, 6), (.free, 7), (.pure, 8), (.free, 9), (.free, 10)] [] (Keep G [.blk rb [.string (str (s)), .int .i64 (((j : Nat) : Int)), .int .i64 (((nd : Nat) : Int))] 122]) rfl (by kernel_rfl) (fun c a d v w h => by cases d <;> exact h) ((M.drew _).keep (Gle.refl _) (by simp)) ?_
   replace M := M.drew (w.drawn + 1)
   refine pk_free F (fun w _ => run_move (F.ev rfl)) rfl ?_; clear F a; intro a F
   refine pk_free F (fun w _ => run_nilCheck (F.ev rfl)) rfl ?_; clear F a; intro a F
   refine pk_free F (fun w _ => run_fieldAddr tok122.k rfl rfl (F.ev rfl)) rfl ?_; clear F a; intro a F
   refine pk_pure F (fun w M => run_load1 (agf tok9 rfl) (F.ev rfl) (M.cellL (k := 0) rfl rfl)) rfl ?_; clear F a; intro a F
   iterate 2 (refine pk_free F (fun w _ => run_move (F.ev rfl)) rfl ?_; clear F a; intro a F)
   refine pk_free F (fun w _ => run_nilCheck (F.ev rfl)) rfl ?_; clear F a; intro a F
   refine pk_free F (fun w _ => run_fieldAddr tok122.k rfl rfl (F.ev rfl)) rfl ?_; clear F a; intro a F
   refine pk_pure F (fun w M => run_load1 (agf tok3 rfl) (F.ev rfl) (M.cellL (k := 0) rfl rfl)) rfl ?_; clear F a; intro a F
   refine pk_free F (fun w _ => run_strSlice (a := i) (b := j) tok9.k (F.ev rfl) ⟨(F.ev rfl), by omega⟩ ⟨(F.ev rfl), by omega⟩ (by omega) (by omega)) rfl ?_; clear F a; intro a F
   refine pk_free F (fun w _ => run_assign (F.ev rfl)) rfl ?_; clear F a; intro a F
   refine pk_nil ?_
   generalize ({ w with drawn := w.drawn + 1 } : World) = w at M ⊢
   refine q_tn <| wp_ret <| fin1 F rfl rfl ?_
   exact ⟨_, _, _, (Gle.refl _), M, _, name_some hR hj.1 hj.2.2 (by omega) hnb, rfl, rfl, by omega, by omega, by simp only [List.length_drop, List.length_take]; omega, fun h_ => by have := congrArg List.length h_; simp only [List.length_drop, List.length_take, List.length_nil] at this; omega⟩
def valF (s : List UInt8) : Nat → Nat → List UInt8 → Except (Nat × Int) (List UInt8 × Nat)
 | 0, i, _ => .error (i, 5)
 | f + 1, i, out => if nb (pkB s i) = 34 then .ok (out, i + 1) else if nb (pkB s i) < 32 ∨ 126 < nb (pkB s i) ∨ out.length = 64 then .error (i, 5) else
   if nb (pkB s i) = 92 then (if ¬ nb (pkB s (i + 1)) = 34 ∧ ¬ nb (pkB s (i + 1)) = 92 then .error (i + 1, 5) else valF s f (i + 2) (out ++ [pkB s (i + 1)])) else valF s f (i + 1) (out ++ [pkB s i])
/-- A string between quotation marks. -/
def valueF (s : List UInt8) (i : Nat) : Except (Nat × Int) (List UInt8 × Nat) := match takeF s [34] i with
 | .error e => .error e
 | .ok j => valF s 65 j []
section
variable {s out : List UInt8} {i j : Nat}
theorem val_step0 (h : takeF s [34] i = .ok j) : valueF s i = valF s (65 - ([] : List UInt8).length) j [] := by unfold valueF; rw [h]; rfl
theorem val_take {e : Nat × Int} (h : takeF s [34] i = .error e) : valueF s i = .error e := by unfold valueF; rw [h]
theorem val_done (h : valueF s i = valF s (65 - out.length) j out) (hl : out.length ≤ 64) (h1 : nb (pkB s j) = 34) : valueF s i = .ok (out, j + 1) := by
 rw [h, show 65 - out.length = (64 - out.length) + 1 by omega, valF, if_pos h1]
theorem val_bad (h : valueF s i = valF s (65 - out.length) j out) (hl : out.length ≤ 64) (h1 : ¬ nb (pkB s j) = 34) (h2 : nb (pkB s j) < 32 ∨ 126 < nb (pkB s j) ∨ out.length = 64) : valueF s i = .error (j, 5) := by
 rw [h, show 65 - out.length = (64 - out.length) + 1 by omega, valF, if_neg h1, if_pos h2]
theorem val_esc_bad (h : valueF s i = valF s (65 - out.length) j out) (hl : out.length ≤ 64) (h1 : ¬ nb (pkB s j) = 34) (h2 : ¬ (nb (pkB s j) < 32 ∨ 126 < nb (pkB s j) ∨ out.length = 64)) (h3 : nb (pkB s j) = 92) (h4 : ¬ nb (pkB s (j + 1)) = 34 ∧ ¬ nb (pkB s (j + 1)) = 92) : valueF s i = .error (j + 1, 5) := by
 rw [h, show 65 - out.length = (64 - out.length) + 1 by omega, valF, if_neg h1, if_neg h2, if_pos h3, if_pos h4]
theorem val_esc (h : valueF s i = valF s (65 - out.length) j out) (hl : out.length ≤ 64) (h1 : ¬ nb (pkB s j) = 34) (h2 : ¬ (nb (pkB s j) < 32 ∨ 126 < nb (pkB s j) ∨ out.length = 64)) (h3 : nb (pkB s j) = 92) (h4 : ¬ (¬ nb (pkB s (j + 1)) = 34 ∧ ¬ nb (pkB s (j + 1)) = 92)) :
  valueF s i = valF s (65 - (out ++ [pkB s (j + 1)]).length) (j + 1 + 1) (out ++ [pkB s (j + 1)]) := by
 rw [h, show 65 - out.length = (64 - out.length) + 1 by omega, valF, if_neg h1, if_neg h2, if_pos h3, if_neg h4, List.length_append, List.length_singleton, show 65 - (out.length + 1) = 64 - out.length by omega]
theorem val_one (h : valueF s i = valF s (65 - out.length) j out) (hl : out.length ≤ 64) (h1 : ¬ nb (pkB s j) = 34) (h2 : ¬ (nb (pkB s j) < 32 ∨ 126 < nb (pkB s j) ∨ out.length = 64)) (h3 : ¬ nb (pkB s j) = 92) :
  valueF s i = valF s (65 - (out ++ [pkB s j]).length) (j + 1) (out ++ [pkB s j]) := by
 rw [h, show 65 - out.length = (64 - out.length) + 1 by omega, valF, if_neg h1, if_neg h2, if_neg h3, List.length_append, List.length_singleton, show 65 - (out.length + 1) = 64 - out.length by omega]
theorem take_le : ∀ {wd : List UInt8} {i k : Nat}, takeF s wd i = .ok k → (∀ b ∈ wd, nb b ≠ 0) → i ≤ s.length → k ≤ s.length
 | [], i, k, h, _, hi => by simp only [takeF, Except.ok.injEq] at h; omega
 | b :: wd, i, k, h, hz, hi => by
  simp only [takeF] at h
  by_cases hb : nb (pkB s i) = nb b
  ·rw [if_pos hb] at h
   exact take_le h (fun c hc => hz c (by simp [hc])) (by have := pkB_lt (s := s) (i := i) (by rw [hb]; exact hz b (by simp)); omega)
  ·rw [if_neg hb] at h; cases h
theorem take1 {b : UInt8} {k : Nat} (h : takeF s [b] i = .ok k) (hb : nb b ≠ 0) : i < s.length := by
 refine pkB_lt fun h0 => ?_
 simp only [takeF] at h
 rw [if_neg (by omega)] at h
 cases h
end
theorem rvalue_read {w0 w : World} {G : Ghost} {L : List Res} {rb i nd : Nat} {s : List UInt8} (M : Mem w0 G (RB rb s i nd :: L) w) (hi : i ≤ s.length) (hs : s.length ≤ 2000000) : Calls Tryz.prog 101 #[.pointer (some ⟨rb, 0, none⟩)] w (RetRd w0 G L rb s (fun _ v i' nd' => ∃ t, valueF s i = .ok (t, i') ∧ v = .string (str t) ∧ nd' = nd ∧ i < i' ∧ i' ≤ s.length ∧ t.length ≤ 64) (fun e => valueF s i = .error e)) := by
 change Mem w0 G (.blk rb [.string (str (s)), .int .i64 (((i : Nat) : Int)), .int .i64 (((nd : Nat) : Int))] 122 :: L) _ at M
 refine calls_start (vs := [_]) Tryz.func101 rfl (n := 64) rfl rfl ?_
 intro a F
 refine wp_seq <| w_reg <| rl_run F (run_assign (F.ev rfl)) rfl ?_; clear F a; intro a F
 refine rl_nil <| q_tn <| wp_seq <| w_reg <| rl_run F (run_move (F.ev rfl)) rfl ?_; clear F a; intro a F
 change Mem w0 G (_ :: L) _ at M
 change Mem w0 G (_ :: L) _ at M
 refine rl_callRd (G := G) (L := L) (rb := rb) (s := s) F ent102 (run_callF F ent102 rfl rfl) rfl (rtake_spec (wd := ([34] : List UInt8)) (i := i) (nd := nd) (s := s) (L := L) M (by decide) (by omega)) (fun e_ w_ G_ i_ nd_ hg_ M_ h_ => finRd (P := Tryz.prog) (fn := Tryz.f101) F hg_ (M_.weaken (.cons_cons _ (List.Sublist.refl _))) (val_take h_)) ?_; clear F M a; rintro v_ Gk1 ik1 ndk1 w a hGk1 M ⟨hTk1, hndk1, hIk1⟩ F
 change Mem w0 Gk1 (.blk rb [.string (str (s)), .int .i64 (((ik1 : Nat) : Int)), .int .i64 (((ndk1 : Nat) : Int))] 122 :: L) _ at M
 rw [hndk1] at M
 have hlek1 := take_le hTk1 (by decide) (by omega)
 simp only [List.length_cons, List.length_nil] at hIk1
 refine rl_nil <| q_tn <| wp_seq <| w_reg <| rl_run F (run_assign (F.ev rfl)) rfl ?_; clear F a; intro a F
 refine rl_nil <| q_tn <| wp_seq <| wp_block ?_
 have M := M.nilrow 5 1
 refine w_loopN (fun m a' w' => ∃ (j : Nat), ∃ (out : List UInt8), ∃ (ay : Option Addr), ∃ (ny : Nat), ∃ (cy : Nat), ∃ (csy : List Value), m = s.length + 1 - j ∧ Fits 64 a' [(0, .pointer (some ⟨rb, 0, none⟩)), (3, .slice (ay) (ny) (cy))] ∧ Mem w0 Gk1 (.row (.slice (ay) (ny) (cy)) (ny) (csy) 5 1 :: .blk rb [.string (str (s)), .int .i64 (((j : Nat) : Int)), .int .i64 (((nd : Nat) : Int))] 122 :: L) w' ∧ (valueF s i = valF s (65 - out.length) j out) ∧ (out.length ≤ 64) ∧ (i < j ∧ j ≤ s.length) ∧ (ny = (out).length) ∧ (Els rdB 1 Gk1 csy (out))) _ ⟨ik1, [], (none), (0), (0), ([]), rfl, F.to ⟨rfl, rfl, trivial⟩, M, val_step0 hTk1, by decide, by have := take1 hTk1 (by decide); omega, rfl, Els.nil⟩ ?_
 clear F M
 rintro m a w ⟨j, out, ay, ny, cy, csy, rfl, F, M, hv, hol, hjl, hny, Ey⟩
 iterate 2 (refine wp_seq ?_)
 refine w_reg <| rl_run F (run_move (F.ev rfl)) rfl ?_; clear F a; intro a F
 replace M := M.perm (perm_front _ 1 _ rfl)
 change Mem w0 Gk1 (_ :: _ :: L) _ at M
 refine rl_callS F ent100 rfl rfl (rpeek_spec (L := .row (.slice (ay) (ny) (cy)) (ny) (csy) 5 1 :: L) M) ?_; clear F M a; rintro _ w a M rfl F
 change Mem w0 Gk1 (.blk rb [.string (str (s)), .int .i64 (((j : Nat) : Int)), .int .i64 (((nd : Nat) : Int))] 122 :: _ :: L) _ at M
 refine rl_run F (run_nei (F.ev rfl) (F.ev rfl)) rfl ?_; clear F a; intro a F
 refine rl_nil <| q_tn <| w_cond F rfl ?_ ?_
 ·intro hc
  have h2b := hc; clear hc
  have h2 : ¬ (nb (pkB s j) = 34) := of_decide_eq_false (of_not_t h2b)
  have h2c : (decide (nb (pkB s j) = 34)) = false := (of_not_t h2b)
  refine wp_skip <| q_tn <| wp_block <| wp_seq <| w_reg <| rl_run F (run_move (F.ev rfl)) rfl ?_; clear F a; intro a F
  change Mem w0 Gk1 (_ :: _ :: L) _ at M
  refine rl_callS F ent100 rfl rfl (rpeek_spec (L := .row (.slice (ay) (ny) (cy)) (ny) (csy) 5 1 :: L) M) ?_; clear F M a; rintro _ w a M rfl F
  change Mem w0 Gk1 (.blk rb [.string (str (s)), .int .i64 (((j : Nat) : Int)), .int .i64 (((nd : Nat) : Int))] 122 :: _ :: L) _ at M
  refine rl_run F (run_assign (F.ev rfl)) rfl ?_; clear F a; intro a F
  refine rl_nil <| q_tn ?_
  iterate 2 (refine wp_seq ?_)
  refine w_reg <| rl_run F (run_move (F.ev rfl)) rfl ?_; clear F a; intro a F
  refine rl_run F (run_lss (F.ev rfl) (F.ev rfl)) rfl ?_; clear F a; intro a F
  refine rl_run F (run_move (F.ev rfl)) rfl ?_; clear F a; intro a F
  rcases Bool.eq_false_or_eq_true (decide (nb (pkB s j) < 32)) with hc | hc
  ·skip
   have h3b := hc; clear hc
   have h3 : nb (pkB s j) < 32 := of_decide_eq_true h3b
   iterate 2 (refine rl_guard_f F rfl rfl rfl h3b ?_; clear F a; intro a F)
   refine rl_run F (run_pick_t (F.ev rfl) h3b (F.ev rfl)) rfl ?_; clear F a; intro a F
   refine rl_run F (run_move (F.ev rfl)) rfl ?_; clear F a; intro a F
   iterate 3 (refine rl_guard_f F rfl rfl rfl rfl ?_; clear F a; intro a F)
   refine rl_run F (run_pick_t (F.ev rfl) rfl (F.ev rfl)) rfl ?_; clear F a; intro a F
   refine rl_nil <| q_tn <| w_cond_t F rfl rfl ?_
   refine w_reg <| rl_run F (run_move (F.ev rfl)) rfl ?_; clear F a; intro a F
   change Mem w0 Gk1 (_ :: _ :: L) _ at M
   exact rl_callRd (G := Gk1) (L := .row (.slice (ay) (ny) (cy)) (ny) (csy) 5 1 :: L) (rb := rb) (s := s) F ent82 (run_callF F ent82 rfl rfl) rfl (rfail_spec (er := 5) M) (fun e_ w_ G_ i_ nd_ hg_ M_ h_ => finRd (P := Tryz.prog) (fn := Tryz.f101) F (hGk1.trans hg_) (M_.weaken (.cons_cons _ (.cons _ (List.Sublist.refl _)))) (by subst h_; exact val_bad hv hol (by assumption) (by omega))) (fun _ _ _ _ _ _ _ _ h_ _ => h_.elim)
  ·skip
   have h5b := hc; clear hc
   have h5 : ¬ (nb (pkB s j) < 32) := of_decide_eq_false h5b
   refine rl_guard_t F rfl rfl rfl h5b ?_
   refine rl_run F (run_move (F.ev rfl)) rfl ?_; clear F a; intro a F
   refine rl_guard_t F rfl rfl rfl h5b ?_
   refine rl_run F (run_gtr (F.ev rfl) (F.ev rfl)) rfl ?_; clear F a; intro a F
   refine rl_run F (run_pick_f (F.ev rfl) h5b (F.ev rfl)) rfl ?_; clear F a; intro a F
   refine rl_run F (run_move (F.ev rfl)) rfl ?_; clear F a; intro a F
   rcases Bool.eq_false_or_eq_true (decide (126 < nb (pkB s j))) with hc | hc
   ·skip
    have h6b := hc; clear hc
    have h6 : 126 < nb (pkB s j) := of_decide_eq_true h6b
    iterate 3 (refine rl_guard_f F rfl rfl rfl h6b ?_; clear F a; intro a F)
    refine rl_run F (run_pick_t (F.ev rfl) h6b (F.ev rfl)) rfl ?_; clear F a; intro a F
    refine rl_nil <| q_tn <| w_cond_t F rfl rfl ?_
    refine w_reg <| rl_run F (run_move (F.ev rfl)) rfl ?_; clear F a; intro a F
    change Mem w0 Gk1 (_ :: _ :: L) _ at M
    exact rl_callRd (G := Gk1) (L := .row (.slice (ay) (ny) (cy)) (ny) (csy) 5 1 :: L) (rb := rb) (s := s) F ent82 (run_callF F ent82 rfl rfl) rfl (rfail_spec (er := 5) M) (fun e_ w_ G_ i_ nd_ hg_ M_ h_ => finRd (P := Tryz.prog) (fn := Tryz.f101) F (hGk1.trans hg_) (M_.weaken (.cons_cons _ (.cons _ (List.Sublist.refl _)))) (by subst h_; exact val_bad hv hol (by assumption) (by omega))) (fun _ _ _ _ _ _ _ _ h_ _ => h_.elim)
   ·skip
    have h8b := hc; clear hc
    have h8 : ¬ (126 < nb (pkB s j)) := of_decide_eq_false h8b
    refine rl_guard_t F rfl rfl rfl h8b ?_
    refine rl_run F (run_move (F.ev rfl)) rfl ?_; clear F a; intro a F
    refine rl_guard_t F rfl rfl rfl h8b ?_
    refine rl_run F (run_lenSl tok22.k (F.ev rfl)) rfl ?_; clear F a; intro a F
    refine rl_guard_t F rfl rfl rfl h8b ?_
    refine rl_run F (run_eqi (F.ev rfl) (F.ev rfl)) rfl ?_; clear F a; intro a F
    refine rl_run F (run_pick_f (F.ev rfl) h8b (F.ev rfl)) rfl ?_; clear F a; intro a F
    refine rl_nil <| q_tn <| w_cond F rfl ?_ ?_
    ·intro hc
     have h9b := hc; clear hc
     have h9 : ((ny : Nat) : Int) = 64 := of_decide_eq_true h9b
     refine w_reg <| rl_run F (run_move (F.ev rfl)) rfl ?_; clear F a; intro a F
     change Mem w0 Gk1 (_ :: _ :: L) _ at M
     exact rl_callRd (G := Gk1) (L := .row (.slice (ay) (ny) (cy)) (ny) (csy) 5 1 :: L) (rb := rb) (s := s) F ent82 (run_callF F ent82 rfl rfl) rfl (rfail_spec (er := 5) M) (fun e_ w_ G_ i_ nd_ hg_ M_ h_ => finRd (P := Tryz.prog) (fn := Tryz.f101) F (hGk1.trans hg_) (M_.weaken (.cons_cons _ (.cons _ (List.Sublist.refl _)))) (by subst h_; exact val_bad hv hol (by assumption) (by omega))) (fun _ _ _ _ _ _ _ _ h_ _ => h_.elim)
    ·intro hc
     have h11b := hc; clear hc
     have h11 : ¬ (((ny : Nat) : Int) = 64) := of_decide_eq_false h11b
     refine wp_skip <| q_tn <| wp_seq <| w_reg <| rl_run F (run_move (F.ev rfl)) rfl ?_; clear F a; intro a F
     refine rl_run F (run_nilCheck (F.ev rfl)) rfl ?_; clear F a; intro a F
     refine rl_run F (run_fieldAddr tok122.k rfl rfl (F.ev rfl)) rfl ?_; clear F a; intro a F
     refine rl_run F (run_load1 (agf tok3 rfl) (F.ev rfl) (M.cellL (k := 0) rfl rfl)) rfl ?_; clear F a; intro a F
     refine rl_run F (run_addi (F.ev rfl) (F.ev rfl) (in_i64 (by omega) (by omega))) rfl ?_; clear F a; intro a F
     refine rl_run F (run_nilCheck (F.ev rfl)) rfl ?_; clear F a; intro a F
     refine rl_run F (run_fieldAddr tok122.k rfl rfl (F.ev rfl)) rfl ?_; clear F a; intro a F
     refine rl_store1 F M tok3 rfl (k := 0) rfl rfl rfl rfl rfl ?_; clear F M a; intro w a M F
     refine rl_nil <| q_tn ?_
     iterate 2 (refine wp_seq ?_)
     refine w_reg <| rl_run F (run_move (F.ev rfl)) rfl ?_; clear F a; intro a F
     refine rl_run F (run_eqi (F.ev rfl) (F.ev rfl)) rfl ?_; clear F a; intro a F
     refine rl_nil <| q_tn <| w_cond F rfl ?_ ?_
     ·intro hc
      have h12b := hc; clear hc
      have h12 : nb (pkB s j) = 92 := of_decide_eq_true h12b
      iterate 2 (refine wp_seq ?_)
      refine w_reg <| rl_run F (run_move (F.ev rfl)) rfl ?_; clear F a; intro a F
      change Mem w0 Gk1 (.blk rb [.string (str (s)), .int .i64 ((((j : Nat) : Int)) + 1), .int .i64 (((nd : Nat) : Int))] 122 :: _ :: L) _ at M
      refine rl_callS F ent100 rfl rfl (rpeek_spec (L := .row (.slice (ay) (ny) (cy)) (ny) (csy) 5 1 :: L) M) ?_; clear F M a; rintro _ w a M rfl F
      change Mem w0 Gk1 (.blk rb [.string (str (s)), .int .i64 ((((j : Nat) : Int)) + 1), .int .i64 (((nd : Nat) : Int))] 122 :: _ :: L) _ at M
      refine rl_run F (run_assign (F.ev rfl)) rfl ?_; clear F a; intro a F
      refine rl_nil <| q_tn <| wp_seq <| w_reg <| rl_run F (run_move (F.ev rfl)) rfl ?_; clear F a; intro a F
      refine rl_run F (run_nei (F.ev rfl) (F.ev rfl)) rfl ?_; clear F a; intro a F
      refine rl_run F (run_move (F.ev rfl)) rfl ?_; clear F a; intro a F
      rcases Bool.eq_false_or_eq_true (!(decide (nb (pkB s (j + 1)) = 34))) with hc | hc
      ·skip
       have h13b := hc; clear hc
       have h13 : ¬ (nb (pkB s (j + 1)) = 34) := of_decide_eq_false (of_not_t h13b)
       have h13c : (decide (nb (pkB s (j + 1)) = 34)) = false := (of_not_t h13b)
       refine rl_guard_t F rfl rfl rfl (not_t h13c) ?_
       refine rl_run F (run_move (F.ev rfl)) rfl ?_; clear F a; intro a F
       refine rl_guard_t F rfl rfl rfl (not_t h13c) ?_
       refine rl_run F (run_nei (F.ev rfl) (F.ev rfl)) rfl ?_; clear F a; intro a F
       refine rl_run F (run_pick_t (F.ev rfl) (not_t h13c) (F.ev rfl)) rfl ?_; clear F a; intro a F
       refine rl_nil <| q_tn <| w_cond F rfl ?_ ?_
       ·intro hc
        have h14b := hc; clear hc
        have h14 : ¬ (nb (pkB s (j + 1)) = 92) := of_decide_eq_false (of_not_t h14b)
        have h14c : (decide (nb (pkB s (j + 1)) = 92)) = false := (of_not_t h14b)
        refine w_reg <| rl_run F (run_move (F.ev rfl)) rfl ?_; clear F a; intro a F
        change Mem w0 Gk1 (.blk rb [.string (str (s)), .int .i64 ((((j : Nat) : Int)) + 1), .int .i64 (((nd : Nat) : Int))] 122 :: _ :: L) _ at M
        exact rl_callRd (G := Gk1) (L := .row (.slice (ay) (ny) (cy)) (ny) (csy) 5 1 :: L) (rb := rb) (s := s) F ent82 (run_callF F ent82 rfl rfl) rfl (rfail_spec (er := 5) M) (fun e_ w_ G_ i_ nd_ hg_ M_ h_ => finRd (P := Tryz.prog) (fn := Tryz.f101) F (hGk1.trans hg_) (M_.weaken (.cons_cons _ (.cons _ (List.Sublist.refl _)))) (by subst h_; exact val_esc_bad hv hol (by assumption) (by omega) (by assumption) ⟨by assumption, by assumption⟩)) (fun _ _ _ _ _ _ _ _ h_ _ => h_.elim)
       ·intro hc
        have h16b := hc; clear hc
        have h16 : nb (pkB s (j + 1)) = 92 := of_decide_eq_true (of_not_f h16b)
        have h16c : (decide (nb (pkB s (j + 1)) = 92)) = true := (of_not_f h16b)
        refine wp_skip <| q_tn <| w_reg <| rl_run F (run_move (F.ev rfl)) rfl ?_; clear F a; intro a F
        refine rl_run F (run_nilCheck (F.ev rfl)) rfl ?_; clear F a; intro a F
        refine rl_run F (run_fieldAddr tok122.k rfl rfl (F.ev rfl)) rfl ?_; clear F a; intro a F
        refine rl_run F (run_load1 (agf tok3 rfl) (F.ev rfl) (M.cellL (k := 0) rfl rfl)) rfl ?_; clear F a; intro a F
        refine rl_run F (run_addi (F.ev rfl) (F.ev rfl) (in_i64 (by omega) (by omega))) rfl ?_; clear F a; intro a F
        refine rl_run F (run_nilCheck (F.ev rfl)) rfl ?_; clear F a; intro a F
        refine rl_run F (run_fieldAddr tok122.k rfl rfl (F.ev rfl)) rfl ?_; clear F a; intro a F
        refine rl_store1 F M tok3 rfl (k := 0) rfl rfl rfl rfl rfl ?_; clear F M a; intro w a M F
        refine rl_nil <| q_tn <| w_reg ?_
        iterate 2 (refine rl_run F (run_move (F.ev rfl)) rfl ?_; clear F a; intro a F)
        refine rl_buildSlice1 F M tok22.k tok5 rfl rfl (cs := [.int .u8 (nb (pkB s (j + 1)))]) rfl rfl (by simp [Value.oneCell']) (by decide) rfl ?_; clear F M a; intro v17 w a M F
        obtain ⟨av17, cv17, rfl, hlev17, hcmv17, hlv17⟩ := M.row_shape (k := 0) rfl
        have E18 : Els rdB 1 Gk1 [.int .u8 (nb (pkB s (j + 1)))] [(pkB s (j + 1))] := Els.one rfl rfl
        refine rl_append_row F M (k := 2) (k2 := 0) rfl rfl tok22.k tok5 rfl rfl (by decide) rfl rfl (by show _ * 1 ≤ _; (try simp only [List.length_drop, List.length_take, List.length_append, List.length_cons, List.length_nil]); omega) (by (try simp only [List.length_drop, List.length_take, List.length_append, List.length_cons, List.length_nil]); omega) rfl ?_; clear F M a; intro v19 w a M F
        have Ev19 := Els.append Ey E18
        obtain ⟨av19, cv19, rfl, hlev19, hcmv19, hlv19⟩ := M.row_shape (k := 2) rfl
        refine rl_run F (run_assign (F.ev rfl)) rfl ?_; clear F a; intro a F
        refine rl_nil <| q_bn <| q_tn ?_
        replace M := M.perm (perm_front _ 1 _ rfl)
        replace M := M.perm (perm_front _ 2 _ rfl)
        change Mem w0 Gk1 (_ :: .blk rb [.string (str (s)), .int .i64 (((((j : Nat) : Int)) + 1) + 1), .int .i64 (((nd : Nat) : Int))] 122 :: _ :: L) _ at M
        exact ⟨_, by omega, ((j + 1) + 1), (out ++ ([(pkB s (j + 1))])), (av19), (ny + 1), (cv19), (csy ++ ([.int .u8 (nb (pkB s (j + 1)))])), rfl, F.to ⟨rfl, rfl, trivial⟩, (M.weaken (.cons_cons _ (.cons_cons _ (.cons _ (List.Sublist.refl _))))), val_esc hv hol (by assumption) (by omega) (by assumption) (by omega), by rw [List.length_append, List.length_singleton]; omega, (by have := pkB_lt (s := s) (i := j + 1) (by omega); omega), by rw [List.length_append, ← hny]; rfl, Ev19⟩
      ·skip
       have h20b := hc; clear hc
       have h20 : nb (pkB s (j + 1)) = 34 := of_decide_eq_true (of_not_f h20b)
       have h20c : (decide (nb (pkB s (j + 1)) = 34)) = true := (of_not_f h20b)
       iterate 2 (refine rl_guard_f F rfl rfl rfl (not_f h20c) ?_; clear F a; intro a F)
       refine rl_run F (run_pick_f (F.ev rfl) (not_f h20c) (F.ev rfl)) rfl ?_; clear F a; intro a F
       refine rl_nil <| q_tn <| w_cond_f F rfl rfl ?_
       refine wp_skip <| q_tn <| w_reg <| rl_run F (run_move (F.ev rfl)) rfl ?_; clear F a; intro a F
       refine rl_run F (run_nilCheck (F.ev rfl)) rfl ?_; clear F a; intro a F
       refine rl_run F (run_fieldAddr tok122.k rfl rfl (F.ev rfl)) rfl ?_; clear F a; intro a F
       refine rl_run F (run_load1 (agf tok3 rfl) (F.ev rfl) (M.cellL (k := 0) rfl rfl)) rfl ?_; clear F a; intro a F
       refine rl_run F (run_addi (F.ev rfl) (F.ev rfl) (in_i64 (by omega) (by omega))) rfl ?_; clear F a; intro a F
       refine rl_run F (run_nilCheck (F.ev rfl)) rfl ?_; clear F a; intro a F
       refine rl_run F (run_fieldAddr tok122.k rfl rfl (F.ev rfl)) rfl ?_; clear F a; intro a F
       refine rl_store1 F M tok3 rfl (k := 0) rfl rfl rfl rfl rfl ?_; clear F M a; intro w a M F
       refine rl_nil <| q_tn <| w_reg ?_
       iterate 2 (refine rl_run F (run_move (F.ev rfl)) rfl ?_; clear F a; intro a F)
       refine rl_buildSlice1 F M tok22.k tok5 rfl rfl (cs := [.int .u8 (nb (pkB s (j + 1)))]) rfl rfl (by simp [Value.oneCell']) (by decide) rfl ?_; clear F M a; intro v21 w a M F
       obtain ⟨av21, cv21, rfl, hlev21, hcmv21, hlv21⟩ := M.row_shape (k := 0) rfl
       have E22 : Els rdB 1 Gk1 [.int .u8 (nb (pkB s (j + 1)))] [(pkB s (j + 1))] := Els.one rfl rfl
       refine rl_append_row F M (k := 2) (k2 := 0) rfl rfl tok22.k tok5 rfl rfl (by decide) rfl rfl (by show _ * 1 ≤ _; (try simp only [List.length_drop, List.length_take, List.length_append, List.length_cons, List.length_nil]); omega) (by (try simp only [List.length_drop, List.length_take, List.length_append, List.length_cons, List.length_nil]); omega) rfl ?_; clear F M a; intro v23 w a M F
       have Ev23 := Els.append Ey E22
       obtain ⟨av23, cv23, rfl, hlev23, hcmv23, hlv23⟩ := M.row_shape (k := 2) rfl
       refine rl_run F (run_assign (F.ev rfl)) rfl ?_; clear F a; intro a F
       refine rl_nil <| q_bn <| q_tn ?_
       replace M := M.perm (perm_front _ 1 _ rfl)
       replace M := M.perm (perm_front _ 2 _ rfl)
       change Mem w0 Gk1 (_ :: .blk rb [.string (str (s)), .int .i64 (((((j : Nat) : Int)) + 1) + 1), .int .i64 (((nd : Nat) : Int))] 122 :: _ :: L) _ at M
       exact ⟨_, by omega, ((j + 1) + 1), (out ++ ([(pkB s (j + 1))])), (av23), (ny + 1), (cv23), (csy ++ ([.int .u8 (nb (pkB s (j + 1)))])), rfl, F.to ⟨rfl, rfl, trivial⟩, (M.weaken (.cons_cons _ (.cons_cons _ (.cons _ (List.Sublist.refl _))))), val_esc hv hol (by assumption) (by omega) (by assumption) (by omega), by rw [List.length_append, List.length_singleton]; omega, (by have := pkB_lt (s := s) (i := j + 1) (by omega); omega), by rw [List.length_append, ← hny]; rfl, Ev23⟩
     ·intro hc
      have h24b := hc; clear hc
      have h24 : ¬ (nb (pkB s j) = 92) := of_decide_eq_false h24b
      refine wp_skip <| q_tn <| w_reg ?_
      iterate 2 (refine rl_run F (run_move (F.ev rfl)) rfl ?_; clear F a; intro a F)
      refine rl_buildSlice1 F M tok22.k tok5 rfl rfl (cs := [.int .u8 (nb (pkB s j))]) rfl rfl (by simp [Value.oneCell']) (by decide) rfl ?_; clear F M a; intro v25 w a M F
      obtain ⟨av25, cv25, rfl, hlev25, hcmv25, hlv25⟩ := M.row_shape (k := 0) rfl
      have E26 : Els rdB 1 Gk1 [.int .u8 (nb (pkB s j))] [(pkB s j)] := Els.one rfl rfl
      refine rl_append_row F M (k := 2) (k2 := 0) rfl rfl tok22.k tok5 rfl rfl (by decide) rfl rfl (by show _ * 1 ≤ _; (try simp only [List.length_drop, List.length_take, List.length_append, List.length_cons, List.length_nil]); omega) (by (try simp only [List.length_drop, List.length_take, List.length_append, List.length_cons, List.length_nil]); omega) rfl ?_; clear F M a; intro v27 w a M F
      have Ev27 := Els.append Ey E26
      obtain ⟨av27, cv27, rfl, hlev27, hcmv27, hlv27⟩ := M.row_shape (k := 2) rfl
      refine rl_run F (run_assign (F.ev rfl)) rfl ?_; clear F a; intro a F
      refine rl_nil <| q_bn <| q_tn ?_
      replace M := M.perm (perm_front _ 1 _ rfl)
      replace M := M.perm (perm_front _ 2 _ rfl)
      change Mem w0 Gk1 (_ :: .blk rb [.string (str (s)), .int .i64 ((((j : Nat) : Int)) + 1), .int .i64 (((nd : Nat) : Int))] 122 :: _ :: L) _ at M
      exact ⟨_, by omega, (j + 1), (out ++ ([(pkB s j)])), (av27), (ny + 1), (cv27), (csy ++ ([.int .u8 (nb (pkB s j))])), rfl, F.to ⟨rfl, rfl, trivial⟩, (M.weaken (.cons_cons _ (.cons_cons _ (.cons _ (List.Sublist.refl _))))), val_one hv hol (by assumption) (by omega) (by assumption), by rw [List.length_append, List.length_singleton]; omega, (by have := pkB_lt (s := s) (i := j) (by omega); omega), by rw [List.length_append, ← hny]; rfl, Ev27⟩
 ·intro hc
  have h28b := hc; clear hc
  have h28 : nb (pkB s j) = 34 := of_decide_eq_true (of_not_f h28b)
  have h28c : (decide (nb (pkB s j) = 34)) = true := (of_not_f h28b)
  refine wp_exit ?_
  iterate 2 (refine q_te ?_)
  refine q_bh <| q_tn <| wp_seq <| w_reg <| rl_run F (run_move (F.ev rfl)) rfl ?_; clear F a; intro a F
  refine rl_run F (run_nilCheck (F.ev rfl)) rfl ?_; clear F a; intro a F
  refine rl_run F (run_fieldAddr tok122.k rfl rfl (F.ev rfl)) rfl ?_; clear F a; intro a F
  refine rl_run F (run_load1 (agf tok3 rfl) (F.ev rfl) (M.cellL (k := 0) rfl rfl)) rfl ?_; clear F a; intro a F
  refine rl_run F (run_addi (F.ev rfl) (F.ev rfl) (in_i64 (by omega) (by omega))) rfl ?_; clear F a; intro a F
  refine rl_run F (run_nilCheck (F.ev rfl)) rfl ?_; clear F a; intro a F
  refine rl_run F (run_fieldAddr tok122.k rfl rfl (F.ev rfl)) rfl ?_; clear F a; intro a F
  refine rl_store1 F M tok3 rfl (k := 0) rfl rfl rfl rfl rfl ?_; clear F M a; intro w a M F
  refine rl_nil <| q_tn <| wp_seq <| w_reg <| rl_run F (run_move (F.ev rfl)) rfl ?_; clear F a; intro a F
  obtain rfl := Els_bc_eq Ey
  refine rl_run F (run_strOfRow M (k := 1) rfl hny tok22.k tok5.k tok9.k (F.ev rfl)) rfl ?_; clear F a; intro a F
  refine rl_run F (run_assign (F.ev rfl)) rfl ?_; clear F a; intro a F
  refine rl_nil <| q_tn <| wp_ret <| fin1 F rfl rfl ?_
  exact ⟨_, j + 1, nd, hGk1, M.weaken (.cons_cons _ (.cons _ (List.Sublist.refl _))), out, val_done hv hol (by omega), rfl, rfl, by omega, by have := pkB_lt (s := s) (i := j) (by omega); omega, hol⟩
end Go.Proofs.YtlnehkjmmegkhaaGreat
