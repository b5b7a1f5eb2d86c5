/- The walks, part Q. -/
import Derived.Test.YtokeofoemjeleaaDoorWalkP
namespace Go.Proofs.YtokeofoemjeleaaDoor
open Go Go.Y Go.Proofs
set_option linter.unusedSimpArgs false
set_option linter.unusedVariables false
theorem fault_row {w0 w : World} {G : Ghost} {L : List Res} {n c : Nat} {ad : Option Addr} {cs : List Value} {xs : List PairD} (M : Mem w0 G (.row (.slice ad n c) n cs 39 2 :: L) w) (E : Els rdPair 2 G cs xs) (hn : n = xs.length) {i : Nat} {X : PairD} (hX : xs[i]? = some X) (hxl : xs.length ≤ 9223372036854775807) {least : Int} :
    Calls Tryd.prog 25 #[.slice ad n c, .int .i64 (i : Int), .int .i64 least] w (RetS w0 G (.row (.slice ad n c) n cs 39 2 :: L) fun v => v = .int .i64 (faultF xs i least)) := by
  have hil := lt_of_get hX
  refine calls_start (vs := [_, _, _]) Tryd.func25 rfl (n := 45) rfl rfl ?_
  intro a F
  refine wp_seq ?_
  refine w_reg ?_
  refine rl_run F (run_assign (F.ev rfl)) rfl ?_; clear F a; intro a F
  refine rl_nil ?_
  refine q_tn ?_
  refine wp_seq ?_
  refine wp_seq ?_
  refine w_reg ?_
  refine rl_run F (run_move (F.ev rfl)) rfl ?_; clear F a; intro a F
  refine rl_run F (run_move (F.ev rfl)) rfl ?_; clear F a; intro a F
  obtain ⟨be1, _, Ie1, hme1, _, Ae1, ⟨rfl, hbe11, hbe12⟩⟩ := M.atRow (k := 0) rfl (by decide) E hX
  refine rl_run F (run_indexI tok22.k tok39 (F.ev rfl) (F.ev rfl) (by omega) Ie1) rfl ?_; clear F a; intro a F
  refine rl_run F (run_fieldAddr tok39.k rfl rfl (F.ev rfl)) rfl ?_; clear F a; intro a F
  refine rl_run F (run_load1 (agf tok37 rfl) (F.ev rfl) (cellE Ae1 0 rfl rfl)) rfl ?_; clear F a; intro a F
  refine rl_run F (run_eqi (F.ev rfl) (F.ev rfl)) rfl ?_; clear F a; intro a F
  refine rl_nil ?_
  refine q_tn ?_
  refine w_cond F rfl ?_ ?_
  · intro hc
    have h2b := hc; clear hc
    have h2 : X.key = 0 := of_decide_eq_true h2b
    refine wp_seq ?_
    refine w_reg ?_
    refine rl_run F (run_assign (F.ev rfl)) rfl ?_; clear F a; intro a F
    refine rl_nil ?_
    refine q_tn ?_
    refine wp_ret ?_
    refine q_tr ?_
    refine fin1 F rfl rfl ?_
    exact ⟨M, by unfold faultF; simp only [hX]; rw [if_pos ‹X.key = 0›]⟩
  · intro hc
    have h3b := hc; clear hc
    have h3 : ¬ (X.key = 0) := of_decide_eq_false h3b
    refine wp_skip ?_
    refine q_tn ?_
    refine wp_seq ?_
    refine wp_seq ?_
    refine w_reg ?_
    refine rl_run F (run_move (F.ev rfl)) rfl ?_; clear F a; intro a F
    refine rl_run F (run_move (F.ev rfl)) rfl ?_; clear F a; intro a F
    obtain ⟨be4, _, Ie4, hme4, _, Ae4, ⟨rfl, hbe41, hbe42⟩⟩ := M.atRow (k := 0) rfl (by decide) E hX
    refine rl_run F (run_indexI tok22.k tok39 (F.ev rfl) (F.ev rfl) (by omega) Ie4) rfl ?_; clear F a; intro a F
    refine rl_run F (run_fieldAddr tok39.k rfl rfl (F.ev rfl)) rfl ?_; clear F a; intro a F
    refine rl_run F (run_load1 (agf tok2 rfl) (F.ev rfl) (cellE Ae4 1 rfl rfl)) rfl ?_; clear F a; intro a F
    refine rl_run F (run_move (F.ev rfl)) rfl ?_; clear F a; intro a F
    refine rl_run F (run_lss (F.ev rfl) (F.ev rfl)) rfl ?_; clear F a; intro a F
    refine rl_run F (run_move (F.ev rfl)) rfl ?_; clear F a; intro a F
    rcases Bool.eq_false_or_eq_true (decide (X.v < least)) with hc | hc
    · skip
      have h5b := hc; clear hc
      have h5 : X.v < least := of_decide_eq_true h5b
      refine rl_guard_f F rfl rfl rfl h5b ?_; clear F a; intro a F
      refine rl_guard_f F rfl rfl rfl h5b ?_; clear F a; intro a F
      refine rl_guard_f F rfl rfl rfl h5b ?_; clear F a; intro a F
      refine rl_guard_f F rfl rfl rfl h5b ?_; clear F a; intro a F
      refine rl_guard_f F rfl rfl rfl h5b ?_; clear F a; intro a F
      refine rl_guard_f F rfl rfl rfl h5b ?_; clear F a; intro a F
      refine rl_run F (run_pick_t (F.ev rfl) h5b (F.ev rfl)) rfl ?_; clear F a; intro a F
      refine rl_nil ?_
      refine q_tn ?_
      refine w_cond_t F rfl rfl ?_
      refine wp_seq ?_
      refine w_reg ?_
      refine rl_run F (run_assign (F.ev rfl)) rfl ?_; clear F a; intro a F
      refine rl_nil ?_
      refine q_tn ?_
      refine wp_ret ?_
      refine q_tr ?_
      refine fin1 F rfl rfl ?_
      exact ⟨M, by unfold faultF; simp only [hX]; rw [if_neg ‹¬ (X.key = 0)›, if_pos (by omega)]⟩
    · skip
      have h6b := hc; clear hc
      have h6 : ¬ (X.v < least) := of_decide_eq_false h6b
      refine rl_guard_t F rfl rfl rfl h6b ?_
      refine rl_run F (run_move (F.ev rfl)) rfl ?_; clear F a; intro a F
      refine rl_guard_t F rfl rfl rfl h6b ?_
      refine rl_run F (run_move (F.ev rfl)) rfl ?_; clear F a; intro a F
      refine rl_guard_t F rfl rfl rfl h6b ?_
      obtain ⟨be7, _, Ie7, hme7, _, Ae7, ⟨rfl, hbe71, hbe72⟩⟩ := M.atRow (k := 0) rfl (by decide) E hX
      refine rl_run F (run_indexI tok22.k tok39 (F.ev rfl) (F.ev rfl) (by omega) Ie7) rfl ?_; clear F a; intro a F
      refine rl_guard_t F rfl rfl rfl h6b ?_
      refine rl_run F (run_fieldAddr tok39.k rfl rfl (F.ev rfl)) rfl ?_; clear F a; intro a F
      refine rl_guard_t F rfl rfl rfl h6b ?_
      refine rl_run F (run_load1 (agf tok2 rfl) (F.ev rfl) (cellE Ae7 1 rfl rfl)) rfl ?_; clear F a; intro a F
      refine rl_guard_t F rfl rfl rfl h6b ?_
      refine rl_run F (run_gtr (F.ev rfl) (F.ev rfl)) rfl ?_; clear F a; intro a F
      refine rl_run F (run_pick_f (F.ev rfl) h6b (F.ev rfl)) rfl ?_; clear F a; intro a F
      refine rl_nil ?_
      refine q_tn ?_
      refine w_cond F rfl ?_ ?_
      · intro hc
        have h8b := hc; clear hc
        have h8 : 2305843009213693952 < X.v := of_decide_eq_true h8b
        refine wp_seq ?_
        refine w_reg ?_
        refine rl_run F (run_assign (F.ev rfl)) rfl ?_; clear F a; intro a F
        refine rl_nil ?_
        refine q_tn ?_
        refine wp_ret ?_
        refine q_tr ?_
        refine fin1 F rfl rfl ?_
        exact ⟨M, by unfold faultF; simp only [hX]; rw [if_neg ‹¬ (X.key = 0)›, if_pos (by omega)]⟩
      · intro hc
        have h9b := hc; clear hc
        have h9 : ¬ (2305843009213693952 < X.v) := of_decide_eq_false h9b
        refine wp_skip ?_
        refine q_tn ?_
        refine wp_seq ?_
        refine wp_seq ?_
        refine w_reg ?_
        refine rl_run F (run_assign (F.ev rfl)) rfl ?_; clear F a; intro a F
        refine rl_nil ?_
        refine q_tn ?_
        refine wp_block ?_
        refine w_loopN (fun m a' w' => ∃ (k : Nat), m = i - k ∧ Fits 45 a' [(0, .slice (ad) (n) (c)), (1, .int .i64 ((i : Int))), (7, .int .i64 (((k : Nat) : Int)))] ∧ Mem w0 G (.row (.slice (ad) (n) (c)) (n) (cs) 39 2 :: L) w' ∧ (k ≤ i) ∧ (∀ (m : Nat) (Y : PairD), m < k → xs[m]? = some Y → Y.key ≠ X.key)) _ ⟨0, rfl, F.to ⟨rfl, rfl, rfl, trivial⟩, M, Nat.zero_le _, fun m Y h => by omega⟩ ?_
        clear F M
        rintro m a w ⟨k, rfl, F, M, hk, hinv⟩
        refine wp_seq ?_
        refine wp_seq ?_
        refine w_reg ?_
        refine rl_run F (run_move (F.ev rfl)) rfl ?_; clear F a; intro a F
        refine rl_run F (run_move (F.ev rfl)) rfl ?_; clear F a; intro a F
        refine rl_run F (run_lss (F.ev rfl) (F.ev rfl)) rfl ?_; clear F a; intro a F
        refine rl_nil ?_
        refine q_tn ?_
        refine w_cond F rfl ?_ ?_
        · intro hc
          have h10b := hc; clear hc
          have h10 : ((k : Nat) : Int) < (i : Int) := of_decide_eq_true h10b
          refine wp_skip ?_
          refine q_tn ?_
          refine wp_seq ?_
          refine wp_block ?_
          refine wp_seq ?_
          refine w_plan2 [(.free, 0), (.free, 1), (.free, 2), (.free, 3), (.pure, 4), (.free, 5), (.free, 6), (.free, 7), (.free, 8), (.pure, 9), (.free, 10)] [] (Keep G [.row (.slice (ad) (n) (c)) (n) (cs) 39 2]) rfl (by kernel_rfl) (fun c a d v w h => by cases d <;> exact h) ((M.drew _).keep (Gle.refl _) (by simp)) ?_
          replace M := M.drew (w.drawn + 1)
          refine pk_free F (fun w _ => run_move (F.ev rfl)) rfl ?_; clear F a; intro a F
          refine pk_free F (fun w _ => run_move (F.ev rfl)) rfl ?_; clear F a; intro a F
          obtain ⟨Xe11, hXe11⟩ := get_of_lt (xs := xs) (i := k) (by omega)
          obtain ⟨be11, _, Ie11, hme11, _, Ae11, ⟨rfl, hbe111, hbe112⟩⟩ := M.atRowK (k := 0) rfl (by decide) E (Lr := [.row (.slice (ad) (n) (c)) (n) (cs) 39 2]) (k' := 0) rfl hXe11
          refine pk_free F (fun w _ => run_indexI tok22.k tok39 (F.ev rfl) (F.ev rfl) (by omega) Ie11) rfl ?_; clear F a; intro a F
          refine pk_free F (fun w _ => run_fieldAddr tok39.k rfl rfl (F.ev rfl)) rfl ?_; clear F a; intro a F
          refine pk_pure F (fun w M => run_load1 (agf tok37 rfl) (F.ev rfl) (cellE (Ae11 w M) 0 rfl rfl)) rfl ?_; clear F a; intro a F
          refine pk_free F (fun w _ => run_move (F.ev rfl)) rfl ?_; clear F a; intro a F
          refine pk_free F (fun w _ => run_move (F.ev rfl)) rfl ?_; clear F a; intro a F
          obtain ⟨be12, _, Ie12, hme12, _, Ae12, ⟨rfl, hbe121, hbe122⟩⟩ := M.atRowK (k := 0) rfl (by decide) E (Lr := [.row (.slice (ad) (n) (c)) (n) (cs) 39 2]) (k' := 0) rfl hX
          refine pk_free F (fun w _ => run_indexI tok22.k tok39 (F.ev rfl) (F.ev rfl) (by omega) Ie12) rfl ?_; clear F a; intro a F
          refine pk_free F (fun w _ => run_fieldAddr tok39.k rfl rfl (F.ev rfl)) rfl ?_; clear F a; intro a F
          refine pk_pure F (fun w M => run_load1 (agf tok37 rfl) (F.ev rfl) (cellE (Ae12 w M) 0 rfl rfl)) rfl ?_; clear F a; intro a F
          refine pk_free F (fun w _ => run_eqi (F.ev rfl) (F.ev rfl)) rfl ?_; clear F a; intro a F
          refine pk_nil ?_
          generalize ({ w with drawn := w.drawn + 1 } : World) = w at M ⊢
          refine q_tn ?_
          refine w_cond F rfl ?_ ?_
          · intro hc
            have h13b := hc; clear hc
            have h13 : Xe11.key = X.key := of_decide_eq_true h13b
            refine wp_seq ?_
            refine w_reg ?_
            refine rl_run F (run_assign (F.ev rfl)) rfl ?_; clear F a; intro a F
            refine rl_nil ?_
            refine q_tn ?_
            refine wp_ret ?_
            refine q_br ?_
            refine q_tr ?_
            refine q_tr ?_
            refine q_br ?_
            refine q_tr ?_
            refine fin1 F rfl rfl ?_
            exact ⟨M, by unfold faultF; simp only [hX]; rw [if_neg ‹¬ (X.key = 0)›, if_neg (by omega), if_pos (any_take hX hXe11 (by omega) (by assumption))]⟩
          · intro hc
            have h14b := hc; clear hc
            have h14 : ¬ (Xe11.key = X.key) := of_decide_eq_false h14b
            refine wp_skip ?_
            refine q_bn ?_
            refine q_tn ?_
            refine w_reg ?_
            refine rl_run F (run_move (F.ev rfl)) rfl ?_; clear F a; intro a F
            refine rl_run F (run_addi (F.ev rfl) (F.ev rfl) (in_i64 (by omega) (by omega))) rfl ?_; clear F a; intro a F
            refine rl_run F (run_assign (F.ev rfl)) rfl ?_; clear F a; intro a F
            refine rl_nil ?_
            refine q_tn ?_
            exact ⟨_, by omega, k + 1, rfl, F.to ⟨rfl, rfl, rfl, trivial⟩, M, by omega, none_step hinv hXe11 (by assumption)⟩
        · intro hc
          have h15b := hc; clear hc
          have h15 : ¬ (((k : Nat) : Int) < (i : Int)) := of_decide_eq_false h15b
          refine wp_exit ?_
          refine q_te ?_
          refine q_te ?_
          refine q_bh ?_
          refine q_tn ?_
          refine wp_seq ?_
          refine w_reg ?_
          refine rl_run F (run_assign (F.ev rfl)) rfl ?_; clear F a; intro a F
          refine rl_nil ?_
          refine q_tn ?_
          refine wp_ret ?_
          refine fin1 F rfl rfl ?_
          exact ⟨M, by unfold faultF; simp only [hX]; rw [if_neg ‹¬ (X.key = 0)›, if_neg (by omega), if_neg (by rw [Bool.not_eq_true]; exact none_take hinv (by omega))]⟩

theorem rparse_spec {w0 w : World} {G : Ghost} {L : List Res} (M : Mem w0 G L w) {s : List UInt8} (hs : s.length ≤ 1048576) :
    Calls Tryd.prog 19 #[.string (str s)] w (Ret w0 G L fun G' v => ∃ a' c', v = .tuple #[.slice a' (parseF s).1.length c', .int .i64 ((parseF s).2.1 : Nat), .int .i64 (parseF s).2.2] ∧ RdSl rdPair 2 G' (.slice a' (parseF s).1.length c') (parseF s).1) := by
  refine calls_start (vs := [_]) Tryd.func19 rfl (n := 100) rfl rfl ?_
  intro a F
  refine wp_seq ?_
  refine w_reg ?_
  refine rl_run F (run_assign (F.ev rfl)) rfl ?_; clear F a; intro a F
  refine rl_run F (run_assign (F.ev rfl)) rfl ?_; clear F a; intro a F
  refine rl_run F (run_assign (F.ev rfl)) rfl ?_; clear F a; intro a F
  refine rl_nil ?_
  refine q_tn ?_
  refine wp_seq ?_
  refine w_reg ?_
  refine rl_run F (run_assign (F.ev rfl)) rfl ?_; clear F a; intro a F
  refine rl_nil ?_
  refine q_tn ?_
  refine wp_seq ?_
  refine w_reg ?_
  refine rl_run F (run_assign (F.ev rfl)) rfl ?_; clear F a; intro a F
  refine rl_nil ?_
  refine q_tn ?_
  refine wp_seq ?_
  refine wp_block ?_
  have M := M.nilrow 39 2
  refine w_loopN (fun m a' w' => ∃ (r : List UInt8), ∃ (fu : Nat), ∃ (l : List PairD), ∃ (ln : Nat), ∃ (ao : Option Addr), ∃ (no : Nat), ∃ (co : Nat), ∃ (cso : List Value), m = r.length ∧ Fits 100 a' [(0, .string (str (r))), (5, .slice (ao) (no) (co)), (6, .int .i64 (((ln : Nat) : Int)))] ∧ Mem w0 G (.row (.slice (ao) (no) (co)) (no) (cso) 39 2 :: L) w' ∧ (parseF s = parseGo (fu + 1) l ln r) ∧ (r.length ≤ fu) ∧ (l.length ≤ 256) ∧ (ln + r.length ≤ 1048576) ∧ (no = (l).length) ∧ (Els rdPair 2 G cso (l))) _ ⟨s, s.length, [], 0, (none), (0), (0), ([]), rfl, F.to ⟨rfl, rfl, rfl, trivial⟩, M, pf_go (by omega), Nat.le_refl _, Nat.zero_le _, by omega, rfl, Els.nil⟩ ?_
  clear F M
  rintro m a w ⟨r, fu, l, ln, ao, no, co, cso, rfl, F, M, hpg, hfu, hl256, hlnr, hno, Eo⟩
  refine wp_seq ?_
  refine wp_seq ?_
  refine w_reg ?_
  refine rl_run F (run_move (F.ev rfl)) rfl ?_; clear F a; intro a F
  refine rl_run F (run_lenStr tok9.k (F.ev rfl)) rfl ?_; clear F a; intro a F
  refine rl_run F (run_gtr (F.ev rfl) (F.ev rfl)) rfl ?_; clear F a; intro a F
  refine rl_nil ?_
  refine q_tn ?_
  refine w_cond F rfl ?_ ?_
  · intro hc
    have h1b := hc; clear hc
    have h1 : 0 < (((r).length : Nat) : Int) := of_decide_eq_true h1b
    refine wp_skip ?_
    refine q_tn ?_
    refine wp_block ?_
    refine wp_seq ?_
    refine w_reg ?_
    refine rl_run F (run_move (F.ev rfl)) rfl ?_; clear F a; intro a F
    refine rl_run F (run_addi (F.ev rfl) (F.ev rfl) (in_i64 (by omega) (by omega))) rfl ?_; clear F a; intro a F
    refine rl_run F (run_assign (F.ev rfl)) rfl ?_; clear F a; intro a F
    refine rl_nil ?_
    refine q_tn ?_
    refine wp_seq ?_
    refine w_reg ?_
    refine rl_run F (run_assign (F.ev rfl)) rfl ?_; clear F a; intro a F
    refine rl_nil ?_
    refine q_tn ?_
    refine wp_seq ?_
    refine w_cut (fun a' w' => ∃ (j : Nat), Fits 100 a' [(0, .string (str (r))), (5, .slice (ao) (no) (co)), (6, .int .i64 ((((ln : Nat) : Int)) + 1)), (7, .int .i64 (((j : Nat) : Int)))] ∧ Mem w0 G (.row (.slice (ao) (no) (co)) (no) (cso) 39 2 :: L) w' ∧ (j ≤ r.length) ∧ (ix 10 r = j)) ?_ ?_
    · skip
      refine wp_block ?_
      refine w_loopN (fun m a' w' => ∃ (j : Nat), m = r.length - j ∧ Fits 100 a' [(0, .string (str (r))), (5, .slice (ao) (no) (co)), (6, .int .i64 ((((ln : Nat) : Int)) + 1)), (7, .int .i64 (((j : Nat) : Int)))] ∧ Mem w0 G (.row (.slice (ao) (no) (co)) (no) (cso) 39 2 :: L) w' ∧ (j ≤ r.length) ∧ (∀ (m : Nat) (b : UInt8), m < j → r[m]? = some b → b ≠ 10)) _ ⟨0, rfl, F.to ⟨rfl, rfl, rfl, rfl, trivial⟩, M, Nat.zero_le _, fun m b h => by omega⟩ ?_
      clear F M
      rintro m a w ⟨j, rfl, F, M, hj, hjn⟩
      refine wp_seq ?_
      refine wp_seq ?_
      refine w_reg ?_
      refine rl_run F (run_move (F.ev rfl)) rfl ?_; clear F a; intro a F
      refine rl_run F (run_move (F.ev rfl)) rfl ?_; clear F a; intro a F
      refine rl_run F (run_lenStr tok9.k (F.ev rfl)) rfl ?_; clear F a; intro a F
      refine rl_run F (run_lss (F.ev rfl) (F.ev rfl)) rfl ?_; clear F a; intro a F
      refine rl_run F (run_move (F.ev rfl)) rfl ?_; clear F a; intro a F
      rcases Bool.eq_false_or_eq_true (decide (((j : Nat) : Int) < (((r).length : Nat) : Int))) with hc | hc
      · skip
        have h2b := hc; clear hc
        have h2 : ((j : Nat) : Int) < (((r).length : Nat) : Int) := of_decide_eq_true h2b
        refine rl_guard_t F rfl rfl rfl h2b ?_
        refine rl_run F (run_move (F.ev rfl)) rfl ?_; clear F a; intro a F
        refine rl_guard_t F rfl rfl rfl h2b ?_
        refine rl_run F (run_move (F.ev rfl)) rfl ?_; clear F a; intro a F
        refine rl_guard_t F rfl rfl rfl h2b ?_
        obtain ⟨B3, hB3⟩ := get_of_lt (xs := (r)) (i := j) (by omega)
        have lB3 := nb_hi B3
        refine rl_run F (run_strIndex (i := j) tok9.k (F.ev rfl) (F.ev rfl) hB3) rfl ?_; clear F a; intro a F
        refine rl_guard_t F rfl rfl rfl h2b ?_
        refine rl_run F (run_nei (F.ev rfl) (F.ev rfl)) rfl ?_; clear F a; intro a F
        refine rl_run F (run_pick_t (F.ev rfl) h2b (F.ev rfl)) rfl ?_; clear F a; intro a F
        refine rl_nil ?_
        refine q_tn ?_
        refine w_cond F rfl ?_ ?_
        · intro hc
          have h4b := hc; clear hc
          have h4 : ¬ (nb B3 = 10) := of_decide_eq_false (of_not_t h4b)
          have h4c : (decide (nb B3 = 10)) = false := (of_not_t h4b)
          refine wp_skip ?_
          refine q_tn ?_
          refine wp_block ?_
          refine w_reg ?_
          refine rl_run F (run_move (F.ev rfl)) rfl ?_; clear F a; intro a F
          refine rl_run F (run_addi (F.ev rfl) (F.ev rfl) (in_i64 (by omega) (by omega))) rfl ?_; clear F a; intro a F
          refine rl_run F (run_assign (F.ev rfl)) rfl ?_; clear F a; intro a F
          refine rl_nil ?_
          refine q_bn ?_
          refine q_tn ?_
          exact ⟨_, by omega, j + 1, rfl, F.to ⟨rfl, rfl, rfl, rfl, trivial⟩, M, by omega, scan_step hjn hB3 rfl (by assumption)⟩
        · intro hc
          have h5b := hc; clear hc
          have h5 : nb B3 = 10 := of_decide_eq_true (of_not_f h5b)
          have h5c : (decide (nb B3 = 10)) = true := (of_not_f h5b)
          refine wp_exit ?_
          refine q_te ?_
          refine q_te ?_
          refine q_bh ?_
          exact ⟨j, F.to ⟨rfl, rfl, rfl, rfl, trivial⟩, M, hj, scan_ix hjn (by first | exact Or.inl (by omega) | exact Or.inr ⟨_, hB3, by assumption⟩)⟩
      · skip
        have h6b := hc; clear hc
        have h6 : ¬ (((j : Nat) : Int) < (((r).length : Nat) : Int)) := of_decide_eq_false h6b
        refine rl_guard_f F rfl rfl rfl h6b ?_; clear F a; intro a F
        refine rl_guard_f F rfl rfl rfl h6b ?_; clear F a; intro a F
        refine rl_guard_f F rfl rfl rfl h6b ?_; clear F a; intro a F
        refine rl_guard_f F rfl rfl rfl h6b ?_; clear F a; intro a F
        refine rl_run F (run_pick_f (F.ev rfl) h6b (F.ev rfl)) rfl ?_; clear F a; intro a F
        refine rl_nil ?_
        refine q_tn ?_
        refine w_cond_f F rfl rfl ?_
        refine wp_exit ?_
        refine q_te ?_
        refine q_te ?_
        refine q_bh ?_
        exact ⟨j, F.to ⟨rfl, rfl, rfl, rfl, trivial⟩, M, hj, scan_ix hjn (by first | exact Or.inl (by omega))⟩
    · clear F M
      rintro a w ⟨j, F, M, hj, hix⟩
      refine q_tn ?_
      refine wp_seq ?_
      refine w_reg ?_
      refine rl_run F (run_assign (F.ev rfl)) rfl ?_; clear F a; intro a F
      refine rl_nil ?_
      refine q_tn ?_
      refine wp_seq ?_
      refine w_cut (fun a' w' => ∃ (k : Nat), Fits 100 a' [(0, .string (str (r))), (5, .slice (ao) (no) (co)), (6, .int .i64 ((((ln : Nat) : Int)) + 1)), (7, .int .i64 (((j : Nat) : Int))), (8, .int .i64 (((k : Nat) : Int)))] ∧ Mem w0 G (.row (.slice (ao) (no) (co)) (no) (cso) 39 2 :: L) w' ∧ (k ≤ j) ∧ (ix 32 (r.take j) = k)) ?_ ?_
      · skip
        refine wp_block ?_
        refine w_loopN (fun m a' w' => ∃ (k : Nat), m = j - k ∧ Fits 100 a' [(0, .string (str (r))), (5, .slice (ao) (no) (co)), (6, .int .i64 ((((ln : Nat) : Int)) + 1)), (7, .int .i64 (((j : Nat) : Int))), (8, .int .i64 (((k : Nat) : Int)))] ∧ Mem w0 G (.row (.slice (ao) (no) (co)) (no) (cso) 39 2 :: L) w' ∧ (k ≤ j) ∧ (∀ (m : Nat) (b : UInt8), m < k → r[m]? = some b → b ≠ 32)) _ ⟨0, rfl, F.to ⟨rfl, rfl, rfl, rfl, rfl, trivial⟩, M, Nat.zero_le _, fun m b h => by omega⟩ ?_
        clear F M
        rintro m a w ⟨k, rfl, F, M, hk, hkn⟩
        refine wp_seq ?_
        refine wp_seq ?_
        refine w_reg ?_
        refine rl_run F (run_move (F.ev rfl)) rfl ?_; clear F a; intro a F
        refine rl_run F (run_move (F.ev rfl)) rfl ?_; clear F a; intro a F
        refine rl_run F (run_lss (F.ev rfl) (F.ev rfl)) rfl ?_; clear F a; intro a F
        refine rl_run F (run_move (F.ev rfl)) rfl ?_; clear F a; intro a F
        rcases Bool.eq_false_or_eq_true (decide (((k : Nat) : Int) < ((j : Nat) : Int))) with hc | hc
        · skip
          have h7b := hc; clear hc
          have h7 : ((k : Nat) : Int) < ((j : Nat) : Int) := of_decide_eq_true h7b
          refine rl_guard_t F rfl rfl rfl h7b ?_
          refine rl_run F (run_move (F.ev rfl)) rfl ?_; clear F a; intro a F
          refine rl_guard_t F rfl rfl rfl h7b ?_
          refine rl_run F (run_move (F.ev rfl)) rfl ?_; clear F a; intro a F
          refine rl_guard_t F rfl rfl rfl h7b ?_
          obtain ⟨B8, hB8⟩ := get_of_lt (xs := (r)) (i := k) (by omega)
          have lB8 := nb_hi B8
          refine rl_run F (run_strIndex (i := k) tok9.k (F.ev rfl) (F.ev rfl) hB8) rfl ?_; clear F a; intro a F
          refine rl_guard_t F rfl rfl rfl h7b ?_
          refine rl_run F (run_nei (F.ev rfl) (F.ev rfl)) rfl ?_; clear F a; intro a F
          refine rl_run F (run_pick_t (F.ev rfl) h7b (F.ev rfl)) rfl ?_; clear F a; intro a F
          refine rl_nil ?_
          refine q_tn ?_
          refine w_cond F rfl ?_ ?_
          · intro hc
            have h9b := hc; clear hc
            have h9 : ¬ (nb B8 = 32) := of_decide_eq_false (of_not_t h9b)
            have h9c : (decide (nb B8 = 32)) = false := (of_not_t h9b)
            refine wp_skip ?_
            refine q_tn ?_
            refine wp_block ?_
            refine w_reg ?_
            refine rl_run F (run_move (F.ev rfl)) rfl ?_; clear F a; intro a F
            refine rl_run F (run_addi (F.ev rfl) (F.ev rfl) (in_i64 (by omega) (by omega))) rfl ?_; clear F a; intro a F
            refine rl_run F (run_assign (F.ev rfl)) rfl ?_; clear F a; intro a F
            refine rl_nil ?_
            refine q_bn ?_
            refine q_tn ?_
            exact ⟨_, by omega, k + 1, rfl, F.to ⟨rfl, rfl, rfl, rfl, rfl, trivial⟩, M, by omega, scan_step hkn hB8 rfl (by assumption)⟩
          · intro hc
            have h10b := hc; clear hc
            have h10 : nb B8 = 32 := of_decide_eq_true (of_not_f h10b)
            have h10c : (decide (nb B8 = 32)) = true := (of_not_f h10b)
            refine wp_exit ?_
            refine q_te ?_
            refine q_te ?_
            refine q_bh ?_
            exact ⟨k, F.to ⟨rfl, rfl, rfl, rfl, rfl, trivial⟩, M, hk, scan_take hkn hk hj (by first | exact Or.inl (by omega) | exact Or.inr ⟨_, hB8, by assumption⟩)⟩
        · skip
          have h11b := hc; clear hc
          have h11 : ¬ (((k : Nat) : Int) < ((j : Nat) : Int)) := of_decide_eq_false h11b
          refine rl_guard_f F rfl rfl rfl h11b ?_; clear F a; intro a F
          refine rl_guard_f F rfl rfl rfl h11b ?_; clear F a; intro a F
          refine rl_guard_f F rfl rfl rfl h11b ?_; clear F a; intro a F
          refine rl_guard_f F rfl rfl rfl h11b ?_; clear F a; intro a F
          refine rl_run F (run_pick_f (F.ev rfl) h11b (F.ev rfl)) rfl ?_; clear F a; intro a F
          refine rl_nil ?_
          refine q_tn ?_
          refine w_cond_f F rfl rfl ?_
          refine wp_exit ?_
          refine q_te ?_
          refine q_te ?_
          refine q_bh ?_
          exact ⟨k, F.to ⟨rfl, rfl, rfl, rfl, rfl, trivial⟩, M, hk, scan_take hkn hk hj (by first | exact Or.inl (by omega))⟩
      · clear F M
        rintro a w ⟨k, F, M, hk, hix2⟩
        refine q_tn ?_
        refine wp_seq ?_
        refine wp_seq ?_
        refine w_reg ?_
        refine rl_run F (run_move (F.ev rfl)) rfl ?_; clear F a; intro a F
        refine rl_run F (run_move (F.ev rfl)) rfl ?_; clear F a; intro a F
        refine rl_run F (run_lenStr tok9.k (F.ev rfl)) rfl ?_; clear F a; intro a F
        refine rl_run F (run_eqi (F.ev rfl) (F.ev rfl)) rfl ?_; clear F a; intro a F
        refine rl_run F (run_move (F.ev rfl)) rfl ?_; clear F a; intro a F
        rcases Bool.eq_false_or_eq_true (decide (((j : Nat) : Int) = (((r).length : Nat) : Int))) with hc | hc
        · skip
          have h12b := hc; clear hc
          have h12 : ((j : Nat) : Int) = (((r).length : Nat) : Int) := of_decide_eq_true h12b
          refine rl_guard_f F rfl rfl rfl h12b ?_; clear F a; intro a F
          refine rl_guard_f F rfl rfl rfl h12b ?_; clear F a; intro a F
          refine rl_guard_f F rfl rfl rfl h12b ?_; clear F a; intro a F
          refine rl_run F (run_pick_t (F.ev rfl) h12b (F.ev rfl)) rfl ?_; clear F a; intro a F
          refine rl_nil ?_
          refine q_tn ?_
          refine w_cond_t F rfl rfl ?_
          refine wp_seq ?_
          refine w_reg ?_
          refine rl_run F (run_move (F.ev rfl)) rfl ?_; clear F a; intro a F
          refine rl_run F (run_assign (F.ev rfl)) rfl ?_; clear F a; intro a F
          refine rl_run F (run_assign (F.ev rfl)) rfl ?_; clear F a; intro a F
          refine rl_run F (run_assign (F.ev rfl)) rfl ?_; clear F a; intro a F
          refine rl_nil ?_
          refine q_tn ?_
          refine wp_ret ?_
          refine q_tr ?_
          refine q_br ?_
          refine q_tr ?_
          refine q_br ?_
          refine q_tr ?_
          refine fin3 F rfl rfl rfl rfl ?_
          have hp : parseF s = ([], ln + 1, 5) := by first | exact pgr_cut hpg (by omega) hix (by omega) | exact pgr_no hpg (by omega) hix (rline_no hix2 (by omega) hj)
          exact ⟨G, (Gle.refl _), M.weaken (.cons _ (List.Sublist.refl _)), none, 0, by rw [hp]; rfl, by rw [hp]; exact RdSl.nil⟩
        · skip
          have h13b := hc; clear hc
          have h13 : ¬ (((j : Nat) : Int) = (((r).length : Nat) : Int)) := of_decide_eq_false h13b
          refine rl_guard_t F rfl rfl rfl h13b ?_
          refine rl_run F (run_move (F.ev rfl)) rfl ?_; clear F a; intro a F
          refine rl_guard_t F rfl rfl rfl h13b ?_
          refine rl_run F (run_move (F.ev rfl)) rfl ?_; clear F a; intro a F
          refine rl_guard_t F rfl rfl rfl h13b ?_
          refine rl_run F (run_eqi (F.ev rfl) (F.ev rfl)) rfl ?_; clear F a; intro a F
          refine rl_run F (run_pick_f (F.ev rfl) h13b (F.ev rfl)) rfl ?_; clear F a; intro a F
          refine rl_nil ?_
          refine q_tn ?_
          refine w_cond F rfl ?_ ?_
          · intro hc
            have h14b := hc; clear hc
            have h14 : ((k : Nat) : Int) = ((j : Nat) : Int) := of_decide_eq_true h14b
            refine wp_seq ?_
            refine w_reg ?_
            refine rl_run F (run_move (F.ev rfl)) rfl ?_; clear F a; intro a F
            refine rl_run F (run_assign (F.ev rfl)) rfl ?_; clear F a; intro a F
            refine rl_run F (run_assign (F.ev rfl)) rfl ?_; clear F a; intro a F
            refine rl_run F (run_assign (F.ev rfl)) rfl ?_; clear F a; intro a F
            refine rl_nil ?_
            refine q_tn ?_
            refine wp_ret ?_
            refine q_tr ?_
            refine q_br ?_
            refine q_tr ?_
            refine q_br ?_
            refine q_tr ?_
            refine fin3 F rfl rfl rfl rfl ?_
            have hp : parseF s = ([], ln + 1, 5) := by first | exact pgr_cut hpg (by omega) hix (by omega) | exact pgr_no hpg (by omega) hix (rline_no hix2 (by omega) hj)
            exact ⟨G, (Gle.refl _), M.weaken (.cons _ (List.Sublist.refl _)), none, 0, by rw [hp]; rfl, by rw [hp]; exact RdSl.nil⟩
          · intro hc
            have h15b := hc; clear hc
            have h15 : ¬ (((k : Nat) : Int) = ((j : Nat) : Int)) := of_decide_eq_false h15b
            refine wp_skip ?_
            refine q_tn ?_
            refine wp_seq ?_
            refine w_reg ?_
            refine rl_run F (run_move (F.ev rfl)) rfl ?_; clear F a; intro a F
            refine rl_run F (run_move (F.ev rfl)) rfl ?_; clear F a; intro a F
            refine rl_run F (run_strSlice (a := 0) (b := k) (ka := .i64) (za := 0) tok9.k (F.ev rfl) rfl ⟨(F.ev rfl), by omega⟩ (by omega) (by omega)) rfl ?_; clear F a; intro a F
            have hsl16 : (r.take (k)).drop (0) = r.take k := by rw [List.drop_zero]
            rw [hsl16] at F
            refine rl_callS F ent40 rfl rfl (rnum_spec (s := r.take k) (most := 18446744073709551615) M (by decide) (by decide) (by simp only [List.length_take]; omega)) ?_; clear F M a; rintro _ w a M ⟨k17, bk17, rfl, hlek17, hnk17⟩ F
            refine rl_run F (run_move (F.ev rfl)) rfl ?_; clear F a; intro a F
            refine rl_run F (run_extract (v := .int .u64 (((k17 : Nat) : Int))) (F.ev rfl) rfl) rfl ?_; clear F a; intro a F
            refine rl_run F (run_extract (v := .bool (bk17)) (F.ev rfl) rfl) rfl ?_; clear F a; intro a F
            refine rl_run F (run_assign (F.ev rfl)) rfl ?_; clear F a; intro a F
            refine rl_run F (run_assign (F.ev rfl)) rfl ?_; clear F a; intro a F
            refine rl_nil ?_
            refine q_tn ?_
            refine wp_seq ?_
            refine w_reg ?_
            refine rl_run F (run_move (F.ev rfl)) rfl ?_; clear F a; intro a F
            refine rl_run F (run_move (F.ev rfl)) rfl ?_; clear F a; intro a F
            refine rl_run F (run_addi (F.ev rfl) (F.ev rfl) (in_i64 (by omega) (by omega))) rfl ?_; clear F a; intro a F
            refine rl_run F (run_move (F.ev rfl)) rfl ?_; clear F a; intro a F
            refine rl_run F (run_strSlice (a := k + 1) (b := j) tok9.k (F.ev rfl) ⟨(F.ev rfl), by omega⟩ ⟨(F.ev rfl), by omega⟩ (by omega) (by omega)) rfl ?_; clear F a; intro a F
            refine rl_callS F ent40 rfl rfl (rnum_spec (s := (r.take (j)).drop (k + 1)) (most := 9223372036854775807) M (by decide) (by decide) (by simp only [List.length_take, List.length_drop]; omega)) ?_; clear F M a; rintro _ w a M ⟨k18, bk18, rfl, hlek18, hnk18⟩ F
            refine rl_run F (run_move (F.ev rfl)) rfl ?_; clear F a; intro a F
            refine rl_run F (run_extract (v := .int .u64 (((k18 : Nat) : Int))) (F.ev rfl) rfl) rfl ?_; clear F a; intro a F
            refine rl_run F (run_extract (v := .bool (bk18)) (F.ev rfl) rfl) rfl ?_; clear F a; intro a F
            refine rl_run F (run_assign (F.ev rfl)) rfl ?_; clear F a; intro a F
            refine rl_run F (run_assign (F.ev rfl)) rfl ?_; clear F a; intro a F
            refine rl_nil ?_
            refine q_tn ?_
            refine wp_seq ?_
            refine wp_seq ?_
            have hlp := rline hix2 (by omega) hj hnk17 hnk18
            have hjl : j < r.length := by omega
            refine w_reg ?_
            refine rl_run F (run_move (F.ev rfl)) rfl ?_; clear F a; intro a F
            refine rl_run F (run_not (F.ev rfl)) rfl ?_; clear F a; intro a F
            refine rl_run F (run_move (F.ev rfl)) rfl ?_; clear F a; intro a F
            rcases Bool.eq_false_or_eq_true (!(bk17)) with hc | hc
            · skip
              have h19b := hc; clear hc
              have h19 : (bk17) = false := (of_not_t h19b)
              have h19c : (bk17) = false := (of_not_t h19b)
              refine rl_guard_f F rfl rfl rfl (not_t h19c) ?_; clear F a; intro a F
              refine rl_guard_f F rfl rfl rfl (not_t h19c) ?_; clear F a; intro a F
              refine rl_run F (run_pick_t (F.ev rfl) (not_t h19c) (F.ev rfl)) rfl ?_; clear F a; intro a F
              refine rl_nil ?_
              refine q_tn ?_
              refine w_cond_t F rfl rfl ?_
              refine wp_seq ?_
              refine w_reg ?_
              refine rl_run F (run_move (F.ev rfl)) rfl ?_; clear F a; intro a F
              refine rl_run F (run_assign (F.ev rfl)) rfl ?_; clear F a; intro a F
              refine rl_run F (run_assign (F.ev rfl)) rfl ?_; clear F a; intro a F
              refine rl_run F (run_assign (F.ev rfl)) rfl ?_; clear F a; intro a F
              refine rl_nil ?_
              refine q_tn ?_
              refine wp_ret ?_
              refine q_tr ?_
              refine q_br ?_
              refine q_tr ?_
              refine q_br ?_
              refine q_tr ?_
              refine fin3 F rfl rfl rfl rfl ?_
              have hp : parseF s = ([], ln + 1, 5) := by first | exact pgr_no hpg (by omega) hix (by rw [hlp, if_neg (by simp only [*]; decide)]) | exact pgr_no hpg (by omega) hix (by rw [hlp, if_pos (by assumption), if_neg (by simp only [*]; decide)])
              exact ⟨G, (Gle.refl _), M.weaken (.cons _ (List.Sublist.refl _)), none, 0, by rw [hp]; rfl, by rw [hp]; exact RdSl.nil⟩
            · skip
              have h20b := hc; clear hc
              have h20 : (bk17) = true := (of_not_f h20b)
              have h20c : (bk17) = true := (of_not_f h20b)
              refine rl_guard_t F rfl rfl rfl (not_f h20c) ?_
              refine rl_run F (run_move (F.ev rfl)) rfl ?_; clear F a; intro a F
              refine rl_guard_t F rfl rfl rfl (not_f h20c) ?_
              refine rl_run F (run_not (F.ev rfl)) rfl ?_; clear F a; intro a F
              refine rl_run F (run_pick_f (F.ev rfl) (not_f h20c) (F.ev rfl)) rfl ?_; clear F a; intro a F
              refine rl_nil ?_
              refine q_tn ?_
              refine w_cond F rfl ?_ ?_
              · intro hc
                have h21b := hc; clear hc
                have h21 : (bk18) = false := (of_not_t h21b)
                have h21c : (bk18) = false := (of_not_t h21b)
                refine wp_seq ?_
                refine w_reg ?_
                refine rl_run F (run_move (F.ev rfl)) rfl ?_; clear F a; intro a F
                refine rl_run F (run_assign (F.ev rfl)) rfl ?_; clear F a; intro a F
                refine rl_run F (run_assign (F.ev rfl)) rfl ?_; clear F a; intro a F
                refine rl_run F (run_assign (F.ev rfl)) rfl ?_; clear F a; intro a F
                refine rl_nil ?_
                refine q_tn ?_
                refine wp_ret ?_
                refine q_tr ?_
                refine q_br ?_
                refine q_tr ?_
                refine q_br ?_
                refine q_tr ?_
                refine fin3 F rfl rfl rfl rfl ?_
                have hp : parseF s = ([], ln + 1, 5) := by first | exact pgr_no hpg (by omega) hix (by rw [hlp, if_neg (by simp only [*]; decide)]) | exact pgr_no hpg (by omega) hix (by rw [hlp, if_pos (by assumption), if_neg (by simp only [*]; decide)])
                exact ⟨G, (Gle.refl _), M.weaken (.cons _ (List.Sublist.refl _)), none, 0, by rw [hp]; rfl, by rw [hp]; exact RdSl.nil⟩
              · intro hc
                have h22b := hc; clear hc
                have h22 : (bk18) = true := (of_not_f h22b)
                have h22c : (bk18) = true := (of_not_f h22b)
                refine wp_skip ?_
                refine q_tn ?_
                refine wp_seq ?_
                refine wp_seq ?_
                have hb1_ : bk17 = true := by assumption
                have hb2_ : bk18 = true := by assumption
                rw [if_pos hb1_, if_pos hb2_] at hlp
                refine w_reg ?_
                refine rl_run F (run_move (F.ev rfl)) rfl ?_; clear F a; intro a F
                refine rl_run F (run_lenSl tok22.k (F.ev rfl)) rfl ?_; clear F a; intro a F
                refine rl_run F (run_eqi (F.ev rfl) (F.ev rfl)) rfl ?_; clear F a; intro a F
                refine rl_nil ?_
                refine q_tn ?_
                refine w_cond F rfl ?_ ?_
                · intro hc
                  have h23b := hc; clear hc
                  have h23 : ((no : Nat) : Int) = 256 := of_decide_eq_true h23b
                  refine wp_seq ?_
                  refine w_reg ?_
                  refine rl_run F (run_move (F.ev rfl)) rfl ?_; clear F a; intro a F
                  refine rl_run F (run_assign (F.ev rfl)) rfl ?_; clear F a; intro a F
                  refine rl_run F (run_assign (F.ev rfl)) rfl ?_; clear F a; intro a F
                  refine rl_run F (run_assign (F.ev rfl)) rfl ?_; clear F a; intro a F
                  refine rl_nil ?_
                  refine q_tn ?_
                  refine wp_ret ?_
                  refine q_tr ?_
                  refine q_br ?_
                  refine q_tr ?_
                  refine q_br ?_
                  refine q_tr ?_
                  refine fin3 F rfl rfl rfl rfl ?_
                  have hp : parseF s = ([], ln + 1, 3) := by exact pgr_full hpg hix hjl hlp (by omega)
                  exact ⟨G, (Gle.refl _), M.weaken (.cons _ (List.Sublist.refl _)), none, 0, by rw [hp]; rfl, by rw [hp]; exact RdSl.nil⟩
                · intro hc
                  have h24b := hc; clear hc
                  have h24 : ¬ (((no : Nat) : Int) = 256) := of_decide_eq_false h24b
                  refine wp_skip ?_
                  refine q_tn ?_
                  refine wp_seq ?_
                  refine w_reg ?_
                  refine rl_run F (run_move (F.ev rfl)) rfl ?_; clear F a; intro a F
                  refine rl_run F (run_move (F.ev rfl)) rfl ?_; clear F a; intro a F
                  refine rl_run F (run_move (F.ev rfl)) rfl ?_; clear F a; intro a F
                  refine rl_run F (run_conv_int tok2.k ⟨_, by rw [under_int tok37.k]⟩ (F.ev rfl) (in_i64 (by omega) (by omega))) rfl ?_; clear F a; intro a F
                  refine rl_run F (run_buildS (cs := [.int .u64 (((k17 : Nat) : Int)), .int .i64 (((k18 : Nat) : Int))]) (ps := [(0, .int .u64 (((k17 : Nat) : Int))), (1, .int .i64 (((k18 : Nat) : Int)))]) tok39.k rfl tok39 (F.evp rfl) rfl) rfl ?_; clear F a; intro a F
                  refine rl_buildSlice1 F M tok22.k tok39 rfl rfl (cs := [.int .u64 (((k17 : Nat) : Int)), .int .i64 (((k18 : Nat) : Int))]) rfl rfl (by simp [Value.oneCell']) (by decide) rfl ?_; clear F M a; intro v25 w a M F
                  obtain ⟨av25, cv25, rfl, hlev25, hcmv25, hlv25⟩ := M.row_shape (k := 0) rfl
                  have E26 : Els rdPair 2 G [.int .u64 (((k17 : Nat) : Int)), .int .i64 (((k18 : Nat) : Int))] [(⟨((k17 : Nat) : Int), ((k18 : Nat) : Int)⟩ : PairD)] := Els.one ⟨rfl, (show inKind .u64 ((k17 : Nat) : Int) from in_u64 (by omega) (by omega)), (show inKind .i64 ((k18 : Nat) : Int) from in_i64 (by omega) (by omega))⟩ rfl
                  refine rl_append_row F M (k := 1) (k2 := 0) rfl rfl tok22.k tok39 rfl rfl (by decide) rfl rfl (by show _ * 16 ≤ _; (try simp only [List.length_drop, List.length_take, List.length_append, List.length_cons, List.length_nil]); omega) (by (try simp only [List.length_drop, List.length_take, List.length_append, List.length_cons, List.length_nil]); omega) rfl ?_; clear F M a; intro v27 w a M F
                  have Ev27 := Els.append Eo E26
                  obtain ⟨av27, cv27, rfl, hlev27, hcmv27, hlv27⟩ := M.row_shape (k := 1) rfl
                  refine rl_run F (run_assign (F.ev rfl)) rfl ?_; clear F a; intro a F
                  refine rl_nil ?_
                  refine q_tn ?_
                  refine wp_seq ?_
                  refine w_reg ?_
                  refine rl_run F (run_move (F.ev rfl)) rfl ?_; clear F a; intro a F
                  refine rl_run F (run_move (F.ev rfl)) rfl ?_; clear F a; intro a F
                  refine rl_run F (run_lenSl tok22.k (F.ev rfl)) rfl ?_; clear F a; intro a F
                  refine rl_run F (run_subi (F.ev rfl) (F.ev rfl) (in_i64 (by omega) (by omega))) rfl ?_; clear F a; intro a F
                  have hli : ((((no + 1 : Nat) : Int)) - 1 : Int) = ((l.length : Nat) : Int) := by omega
                  rw [hli] at F
                  replace M := M.perm (perm_front _ 1 _ rfl)
                  change Mem w0 G (.row (.slice (av27) (no + 1) (cv27)) (no + 1) (cso ++ ([.int .u64 (((k17 : Nat) : Int)), .int .i64 (((k18 : Nat) : Int))])) 39 2 :: .row (.slice (av25) (1) (cv25)) (1) ([.int .u64 (((k17 : Nat) : Int)), .int .i64 (((k18 : Nat) : Int))]) 39 2 :: L) _ at M
                  refine rl_callS F ent25 rfl rfl (fault_row (i := l.length) (least := 1) M Ev27 (by simp [hno]) (X := ⟨((k17 : Nat) : Int), ((k18 : Nat) : Int)⟩) (by simp) (by simp only [List.length_append, List.length_cons, List.length_nil]; omega)) ?_; clear F M a; rintro _ w a M rfl F
                  refine rl_run F (run_assign (F.ev rfl)) rfl ?_; clear F a; intro a F
                  refine rl_nil ?_
                  refine q_tn ?_
                  refine wp_seq ?_
                  refine wp_seq ?_
                  refine w_reg ?_
                  refine rl_run F (run_move (F.ev rfl)) rfl ?_; clear F a; intro a F
                  refine rl_run F (run_nei (F.ev rfl) (F.ev rfl)) rfl ?_; clear F a; intro a F
                  refine rl_nil ?_
                  refine q_tn ?_
                  refine w_cond F rfl ?_ ?_
                  · intro hc
                    have h28b := hc; clear hc
                    have h28 : ¬ (faultF (l ++ ([(⟨((k17 : Nat) : Int), ((k18 : Nat) : Int)⟩ : PairD)])) l.length 1 = 0) := of_decide_eq_false (of_not_t h28b)
                    have h28c : (decide (faultF (l ++ ([(⟨((k17 : Nat) : Int), ((k18 : Nat) : Int)⟩ : PairD)])) l.length 1 = 0)) = false := (of_not_t h28b)
                    refine wp_seq ?_
                    refine w_reg ?_
                    refine rl_run F (run_move (F.ev rfl)) rfl ?_; clear F a; intro a F
                    refine rl_run F (run_move (F.ev rfl)) rfl ?_; clear F a; intro a F
                    refine rl_run F (run_assign (F.ev rfl)) rfl ?_; clear F a; intro a F
                    refine rl_run F (run_assign (F.ev rfl)) rfl ?_; clear F a; intro a F
                    refine rl_run F (run_assign (F.ev rfl)) rfl ?_; clear F a; intro a F
                    refine rl_nil ?_
                    refine q_tn ?_
                    refine wp_ret ?_
                    refine q_tr ?_
                    refine q_br ?_
                    refine q_tr ?_
                    refine q_br ?_
                    refine q_tr ?_
                    refine fin3 F rfl rfl rfl rfl ?_
                    have hp : parseF s = ([], ln + 1, faultF (l ++ ([(⟨((k17 : Nat) : Int), ((k18 : Nat) : Int)⟩ : PairD)])) l.length 1) := by exact pgr_fault hpg hix hjl hlp (by omega) (by omega)
                    exact ⟨G, (Gle.refl _), M.weaken (.cons _ (.cons _ (List.Sublist.refl _))), none, 0, by rw [hp]; rfl, by rw [hp]; exact RdSl.nil⟩
                  · intro hc
                    have h29b := hc; clear hc
                    have h29 : faultF (l ++ ([(⟨((k17 : Nat) : Int), ((k18 : Nat) : Int)⟩ : PairD)])) l.length 1 = 0 := of_decide_eq_true (of_not_f h29b)
                    have h29c : (decide (faultF (l ++ ([(⟨((k17 : Nat) : Int), ((k18 : Nat) : Int)⟩ : PairD)])) l.length 1 = 0)) = true := (of_not_f h29b)
                    refine wp_skip ?_
                    refine q_tn ?_
                    refine w_reg ?_
                    refine rl_run F (run_move (F.ev rfl)) rfl ?_; clear F a; intro a F
                    refine rl_run F (run_move (F.ev rfl)) rfl ?_; clear F a; intro a F
                    refine rl_run F (run_addi (F.ev rfl) (F.ev rfl) (in_i64 (by omega) (by omega))) rfl ?_; clear F a; intro a F
                    refine rl_run F (run_strSlice (a := j + 1) (b := (r).length) (kb := .i64) (zb := 0) tok9.k (F.ev rfl) ⟨(F.ev rfl), by omega⟩ rfl (by omega) (by omega)) rfl ?_; clear F a; intro a F
                    have hsl30 : (r.take ((r).length)).drop (j + 1) = r.drop (j + 1) := by rw [List.take_length]
                    rw [hsl30] at F
                    refine rl_run F (run_assign (F.ev rfl)) rfl ?_; clear F a; intro a F
                    refine rl_nil ?_
                    refine q_bn ?_
                    refine q_tn ?_
                    have hnx := pgr_next hpg hix (by omega) hlp (by omega) (by omega) hfu
                    exact ⟨_, (by have := hnx.2.2; omega), r.drop (j + 1), fu - 1, l ++ [⟨((k17 : Nat) : Int), ((k18 : Nat) : Int)⟩], ln + 1, (av27), (no + 1), (cv27), (cso ++ ([.int .u64 (((k17 : Nat) : Int)), .int .i64 (((k18 : Nat) : Int))])), rfl, F.to ⟨rfl, rfl, rfl, trivial⟩, (M.weaken (.cons_cons _ (.cons _ (List.Sublist.refl _)))), hnx.1, hnx.2.1, by rw [List.length_append]; simp only [List.length_cons, List.length_nil]; omega, by have := hnx.2.2; omega, by simp [hno], Ev27⟩
  · intro hc
    have h31b := hc; clear hc
    have h31 : ¬ (0 < (((r).length : Nat) : Int)) := of_decide_eq_false h31b
    refine wp_exit ?_
    refine q_te ?_
    refine q_te ?_
    refine q_bh ?_
    refine q_tn ?_
    refine wp_seq ?_
    refine w_reg ?_
    refine rl_run F (run_move (F.ev rfl)) rfl ?_; clear F a; intro a F
    refine rl_run F (run_assign (F.ev rfl)) rfl ?_; clear F a; intro a F
    refine rl_run F (run_assign (F.ev rfl)) rfl ?_; clear F a; intro a F
    refine rl_run F (run_assign (F.ev rfl)) rfl ?_; clear F a; intro a F
    refine rl_nil ?_
    refine q_tn ?_
    refine wp_ret ?_
    refine fin3 F rfl rfl rfl rfl ?_
    have hp : parseF s = (l, 0, 0) := pgr_end hpg (by omega)
    obtain ⟨hnz32, Gz32, az32, cz32, hGz32, hez32, Sz32, M⟩ := M.freeze_row mono_rdPair (k := 0) rfl Eo (by decide)
    clear hez32 az32 cz32
    exact ⟨Gz32, hGz32, M.weaken (List.Sublist.refl _), _, _, by rw [hp, ← hnz32]; rfl, by have h := Sz32; rw [hnz32] at h; rw [hp]; exact h⟩

end Go.Proofs.YtokeofoemjeleaaDoor
