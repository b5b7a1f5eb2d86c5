/- The walks, part Y. -/
import Derived.Test.YtokeofoemjeleaaDoorWalkX
namespace Go.Proofs.YtokeofoemjeleaaDoor
open Go Go.Y Go.Proofs
set_option linter.unusedSimpArgs false
set_option linter.unusedVariables false
theorem rnum_spec {w0 w : World} {G : Ghost} {L : List Res} (M : Mem w0 G L w) {s : List UInt8} {most : Nat} (h9 : 9 ≤ most) (hm : most ≤ 18446744073709551615) (hs : s.length ≤ 1048577) :
    Calls Tryd.prog 40 #[.string (str s), .int .u64 ((most : Nat) : Int)] w (RetS w0 G L fun v => ∃ (u : Nat) (b : Bool), v = .tuple #[.int .u64 (u : Int), .bool b] ∧ u ≤ most ∧ numQ s most = if b = true then some u else none) := by
  refine calls_start (vs := [_, _]) Tryd.func40 rfl (n := 54) rfl rfl ?_
  intro a F
  refine wp_seq ?_
  refine w_reg ?_
  refine rl_run F (run_assign (F.ev rfl)) rfl ?_; clear F a; intro a F
  refine rl_run F (run_assign (F.ev rfl)) rfl ?_; clear F a; intro a F
  refine rl_nil ?_
  refine q_tn ?_
  refine wp_seq ?_
  refine wp_seq ?_
  refine w_reg ?_
  refine rl_run F (run_move (F.ev rfl)) rfl ?_; clear F a; intro a F
  refine rl_run F (run_lenStr tok9.k (F.ev rfl)) rfl ?_; clear F a; intro a F
  refine rl_run F (run_eqi (F.ev rfl) (F.ev rfl)) rfl ?_; clear F a; intro a F
  refine rl_run F (run_move (F.ev rfl)) rfl ?_; clear F a; intro a F
  rcases Bool.eq_false_or_eq_true (decide ((((s).length : Nat) : Int) = 0)) with hc | hc
  · skip
    have h1b := hc; clear hc
    have h1 : (((s).length : Nat) : Int) = 0 := of_decide_eq_true h1b
    refine rl_guard_f F rfl rfl rfl h1b ?_; clear F a; intro a F
    refine rl_guard_f F rfl rfl rfl h1b ?_; clear F a; intro a F
    refine rl_guard_f F rfl rfl rfl h1b ?_; clear F a; intro a F
    refine rl_guard_f F rfl rfl rfl h1b ?_; clear F a; intro a F
    refine rl_guard_u F rfl rfl rfl ?_; clear F a; intro a F
    refine rl_guard_u F rfl rfl rfl ?_; clear F a; intro a F
    refine rl_guard_u F rfl rfl rfl ?_; clear F a; intro a F
    refine rl_guard_f F rfl rfl rfl h1b ?_; clear F a; intro a F
    refine rl_run F (run_pick_t (F.ev rfl) h1b (F.ev rfl)) rfl ?_; clear F a; intro a F
    refine rl_nil ?_
    refine q_tn ?_
    refine w_cond_t F rfl rfl ?_
    refine wp_seq ?_
    refine w_reg ?_
    refine rl_run F (run_assign (F.ev rfl)) rfl ?_; clear F a; intro a F
    refine rl_run F (run_assign (F.ev rfl)) rfl ?_; clear F a; intro a F
    refine rl_nil ?_
    refine q_tn ?_
    refine wp_ret ?_
    refine q_tr ?_
    refine fin2 F rfl rfl rfl ?_
    have hq_ : numQ s most = none := by first | exact num_l0 (by omega)
    exact ⟨M, 0, false, rfl, Nat.zero_le _, by rw [hq_]; rfl⟩
  · skip
    have h2b := hc; clear hc
    have h2 : ¬ ((((s).length : Nat) : Int) = 0) := of_decide_eq_false h2b
    refine rl_guard_t F rfl rfl rfl h2b ?_
    refine rl_run F (run_move (F.ev rfl)) rfl ?_; clear F a; intro a F
    refine rl_guard_t F rfl rfl rfl h2b ?_
    refine rl_run F (run_lenStr tok9.k (F.ev rfl)) rfl ?_; clear F a; intro a F
    refine rl_guard_t F rfl rfl rfl h2b ?_
    refine rl_run F (run_gtr (F.ev rfl) (F.ev rfl)) rfl ?_; clear F a; intro a F
    refine rl_guard_t F rfl rfl rfl h2b ?_
    refine rl_run F (run_move (F.ev rfl)) rfl ?_; clear F a; intro a F
    rcases Bool.eq_false_or_eq_true (decide (1 < (((s).length : Nat) : Int))) with hc | hc
    · skip
      have h3b := hc; clear hc
      have h3 : 1 < (((s).length : Nat) : Int) := of_decide_eq_true h3b
      refine rl_guard_t F rfl rfl rfl h3b ?_
      refine rl_run F (run_move (F.ev rfl)) rfl ?_; clear F a; intro a F
      refine rl_guard_t F rfl rfl rfl h3b ?_
      obtain ⟨B4, hB4⟩ := get_of_lt (xs := (s)) (i := 0) (by omega)
      have lB4 := nb_hi B4
      refine rl_run F (run_strIndex (i := 0) tok9.k (F.ev rfl) (F.ev rfl) hB4) rfl ?_; clear F a; intro a F
      refine rl_guard_t F rfl rfl rfl h3b ?_
      refine rl_run F (run_eqi (F.ev rfl) (F.ev rfl)) rfl ?_; clear F a; intro a F
      refine rl_guard_t F rfl rfl rfl h2b ?_
      refine rl_run F (run_pick_t (F.ev rfl) h3b (F.ev rfl)) rfl ?_; clear F a; intro a F
      refine rl_run F (run_pick_f (F.ev rfl) h2b (F.ev rfl)) rfl ?_; clear F a; intro a F
      refine rl_nil ?_
      refine q_tn ?_
      refine w_cond F rfl ?_ ?_
      · intro hc
        have h5b := hc; clear hc
        have h5 : nb B4 = 48 := of_decide_eq_true h5b
        refine wp_seq ?_
        refine w_reg ?_
        refine rl_run F (run_assign (F.ev rfl)) rfl ?_; clear F a; intro a F
        refine rl_run F (run_assign (F.ev rfl)) rfl ?_; clear F a; intro a F
        refine rl_nil ?_
        refine q_tn ?_
        refine wp_ret ?_
        refine q_tr ?_
        refine fin2 F rfl rfl rfl ?_
        have hq_ : numQ s most = none := by first | exact num_l0 (by omega) | exact num_l1 (by omega) hB4 (by omega)
        exact ⟨M, 0, false, rfl, Nat.zero_le _, by rw [hq_]; rfl⟩
      · intro hc
        have h6b := hc; clear hc
        have h6 : ¬ (nb B4 = 48) := of_decide_eq_false h6b
        refine wp_skip ?_
        refine q_tn ?_
        refine wp_seq ?_
        have hl0 : numQ s most = goQ most s 0 := by first | exact num_l2 (by omega) (Or.inl (by omega)) | exact num_l2 (by omega) (Or.inr ⟨_, hB4, by omega⟩)
        refine w_reg ?_
        refine rl_run F (run_assign (F.ev rfl)) rfl ?_; clear F a; intro a F
        refine rl_nil ?_
        refine q_tn ?_
        refine wp_seq ?_
        refine wp_seq ?_
        refine w_reg ?_
        refine rl_run F (run_assign (F.ev rfl)) rfl ?_; clear F a; intro a F
        refine rl_nil ?_
        refine q_tn ?_
        refine wp_block ?_
        refine w_loopN (fun m a' w' => ∃ (i : Nat), ∃ (acc : Nat), m = s.length - i ∧ Fits 54 a' [(0, .string (str (s))), (1, .int .u64 (((most : Nat) : Int))), (6, .int .u64 (((acc : Nat) : Int))), (7, .int .i64 (((i : Nat) : Int)))] ∧ Mem w0 G (L) w' ∧ (i ≤ s.length) ∧ (goQ most s 0 = goQ most (s.drop i) acc) ∧ (acc ≤ most)) _ ⟨0, 0, rfl, F.to ⟨rfl, rfl, rfl, rfl, trivial⟩, M, Nat.zero_le _, rfl, Nat.zero_le _⟩ ?_
        clear F M
        rintro m a w ⟨i, acc, rfl, F, M, hi, hg, ham⟩
        refine wp_seq ?_
        refine wp_seq ?_
        refine w_reg ?_
        refine rl_run F (run_move (F.ev rfl)) rfl ?_; clear F a; intro a F
        refine rl_run F (run_move (F.ev rfl)) rfl ?_; clear F a; intro a F
        refine rl_run F (run_lenStr tok9.k (F.ev rfl)) rfl ?_; clear F a; intro a F
        refine rl_run F (run_lss (F.ev rfl) (F.ev rfl)) rfl ?_; clear F a; intro a F
        refine rl_nil ?_
        refine q_tn ?_
        refine w_cond F rfl ?_ ?_
        · intro hc
          have h7b := hc; clear hc
          have h7 : ((i : Nat) : Int) < (((s).length : Nat) : Int) := of_decide_eq_true h7b
          refine wp_skip ?_
          refine q_tn ?_
          refine wp_seq ?_
          refine wp_block ?_
          refine wp_seq ?_
          refine wp_seq ?_
          refine w_reg ?_
          refine rl_run F (run_move (F.ev rfl)) rfl ?_; clear F a; intro a F
          refine rl_run F (run_move (F.ev rfl)) rfl ?_; clear F a; intro a F
          obtain ⟨B8, hB8⟩ := get_of_lt (xs := (s)) (i := i) (by omega)
          have lB8 := nb_hi B8
          refine rl_run F (run_strIndex (i := i) tok9.k (F.ev rfl) (F.ev rfl) hB8) rfl ?_; clear F a; intro a F
          refine rl_run F (run_lss (F.ev rfl) (F.ev rfl)) rfl ?_; clear F a; intro a F
          refine rl_run F (run_move (F.ev rfl)) rfl ?_; clear F a; intro a F
          rcases Bool.eq_false_or_eq_true (decide (nb B8 < 48)) with hc | hc
          · skip
            have h9b := hc; clear hc
            have h9 : nb B8 < 48 := of_decide_eq_true h9b
            refine rl_guard_f F rfl rfl rfl h9b ?_; clear F a; intro a F
            refine rl_guard_f F rfl rfl rfl h9b ?_; clear F a; intro a F
            refine rl_guard_f F rfl rfl rfl h9b ?_; clear F a; intro a F
            refine rl_guard_f F rfl rfl rfl h9b ?_; clear F a; intro a F
            refine rl_run F (run_pick_t (F.ev rfl) h9b (F.ev rfl)) rfl ?_; clear F a; intro a F
            refine rl_nil ?_
            refine q_tn ?_
            refine w_cond_t F rfl rfl ?_
            refine wp_seq ?_
            refine w_reg ?_
            refine rl_run F (run_assign (F.ev rfl)) rfl ?_; clear F a; intro a F
            refine rl_run F (run_assign (F.ev rfl)) rfl ?_; clear F a; intro a F
            refine rl_nil ?_
            refine q_tn ?_
            refine wp_ret ?_
            refine q_tr ?_
            refine q_br ?_
            refine q_tr ?_
            refine q_tr ?_
            refine q_br ?_
            refine q_tr ?_
            refine fin2 F rfl rfl rfl ?_
            have hq_ : numQ s most = none := by first | exact num_l0 (by omega) | (rw [hl0]; exact gq_no hg hB8 (by omega)) | (rw [hl0]; exact gq_big hg hB8 (by omega) (by omega) (by omega))
            exact ⟨M, 0, false, rfl, Nat.zero_le _, by rw [hq_]; rfl⟩
          · skip
            have h10b := hc; clear hc
            have h10 : ¬ (nb B8 < 48) := of_decide_eq_false h10b
            refine rl_guard_t F rfl rfl rfl h10b ?_
            refine rl_run F (run_move (F.ev rfl)) rfl ?_; clear F a; intro a F
            refine rl_guard_t F rfl rfl rfl h10b ?_
            refine rl_run F (run_move (F.ev rfl)) rfl ?_; clear F a; intro a F
            refine rl_guard_t F rfl rfl rfl h10b ?_
            refine rl_run F (run_strIndex (i := i) tok9.k (F.ev rfl) (F.ev rfl) hB8) rfl ?_; clear F a; intro a F
            refine rl_guard_t F rfl rfl rfl h10b ?_
            refine rl_run F (run_gtr (F.ev rfl) (F.ev rfl)) rfl ?_; clear F a; intro a F
            refine rl_run F (run_pick_f (F.ev rfl) h10b (F.ev rfl)) rfl ?_; clear F a; intro a F
            refine rl_nil ?_
            refine q_tn ?_
            refine w_cond F rfl ?_ ?_
            · intro hc
              have h11b := hc; clear hc
              have h11 : 57 < nb B8 := of_decide_eq_true h11b
              refine wp_seq ?_
              refine w_reg ?_
              refine rl_run F (run_assign (F.ev rfl)) rfl ?_; clear F a; intro a F
              refine rl_run F (run_assign (F.ev rfl)) rfl ?_; clear F a; intro a F
              refine rl_nil ?_
              refine q_tn ?_
              refine wp_ret ?_
              refine q_tr ?_
              refine q_br ?_
              refine q_tr ?_
              refine q_tr ?_
              refine q_br ?_
              refine q_tr ?_
              refine fin2 F rfl rfl rfl ?_
              have hq_ : numQ s most = none := by first | exact num_l0 (by omega) | (rw [hl0]; exact gq_no hg hB8 (by omega)) | (rw [hl0]; exact gq_big hg hB8 (by omega) (by omega) (by omega))
              exact ⟨M, 0, false, rfl, Nat.zero_le _, by rw [hq_]; rfl⟩
            · intro hc
              have h12b := hc; clear hc
              have h12 : ¬ (57 < nb B8) := of_decide_eq_false h12b
              refine wp_skip ?_
              refine q_tn ?_
              refine wp_seq ?_
              refine w_reg ?_
              refine rl_run F (run_move (F.ev rfl)) rfl ?_; clear F a; intro a F
              refine rl_run F (run_move (F.ev rfl)) rfl ?_; clear F a; intro a F
              refine rl_run F (run_strIndex (i := i) tok9.k (F.ev rfl) (F.ev rfl) hB8) rfl ?_; clear F a; intro a F
              refine rl_run F (run_subi (F.ev rfl) (F.ev rfl) (in_u8 (by omega) (by omega))) rfl ?_; clear F a; intro a F
              have hnb : nb B8 = (B8.toNat : Int) := rfl
              have hnd : nb B8 - 48 = ((B8.toNat - 48 : Nat) : Int) := by omega
              rw [hnd] at F
              refine rl_run F (run_conv_int tok37.k ⟨_, by rw [under_int tok5.k]⟩ (F.ev rfl) (in_u64 (by omega) (by omega))) rfl ?_; clear F a; intro a F
              refine rl_run F (run_assign (F.ev rfl)) rfl ?_; clear F a; intro a F
              refine rl_nil ?_
              refine q_tn ?_
              refine wp_seq ?_
              refine wp_seq ?_
              refine w_reg ?_
              refine rl_run F (run_move (F.ev rfl)) rfl ?_; clear F a; intro a F
              refine rl_run F (run_move (F.ev rfl)) rfl ?_; clear F a; intro a F
              refine rl_run F (run_move (F.ev rfl)) rfl ?_; clear F a; intro a F
              refine rl_run F (run_subi (F.ev rfl) (F.ev rfl) (in_u64 (by omega) (by omega))) rfl ?_; clear F a; intro a F
              refine rl_run F (run_quoi (F.ev rfl) (F.ev rfl) (by omega) (by omega) (in_u64 (by omega) (by omega))) rfl ?_; clear F a; intro a F
              refine rl_run F (run_gtr (F.ev rfl) (F.ev rfl)) rfl ?_; clear F a; intro a F
              refine rl_nil ?_
              refine q_tn ?_
              refine w_cond F rfl ?_ ?_
              · intro hc
                have h13b := hc; clear hc
                have h13 : ((((most : Nat) : Int)) - (((B8.toNat - 48 : Nat) : Int))) / 10 < ((acc : Nat) : Int) := of_decide_eq_true h13b
                refine wp_seq ?_
                refine w_reg ?_
                refine rl_run F (run_assign (F.ev rfl)) rfl ?_; clear F a; intro a F
                refine rl_run F (run_assign (F.ev rfl)) rfl ?_; clear F a; intro a F
                refine rl_nil ?_
                refine q_tn ?_
                refine wp_ret ?_
                refine q_tr ?_
                refine q_br ?_
                refine q_tr ?_
                refine q_tr ?_
                refine q_br ?_
                refine q_tr ?_
                refine fin2 F rfl rfl rfl ?_
                have hq_ : numQ s most = none := by first | exact num_l0 (by omega) | (rw [hl0]; exact gq_no hg hB8 (by omega)) | (rw [hl0]; exact gq_big hg hB8 (by omega) (by omega) (by omega))
                exact ⟨M, 0, false, rfl, Nat.zero_le _, by rw [hq_]; rfl⟩
              · intro hc
                have h14b := hc; clear hc
                have h14 : ¬ (((((most : Nat) : Int)) - (((B8.toNat - 48 : Nat) : Int))) / 10 < ((acc : Nat) : Int)) := of_decide_eq_false h14b
                refine wp_skip ?_
                refine q_tn ?_
                refine w_reg ?_
                refine rl_run F (run_move (F.ev rfl)) rfl ?_; clear F a; intro a F
                refine rl_run F (run_muli (F.ev rfl) (F.ev rfl) (in_u64 (by omega) (by omega))) rfl ?_; clear F a; intro a F
                refine rl_run F (run_move (F.ev rfl)) rfl ?_; clear F a; intro a F
                refine rl_run F (run_addi (F.ev rfl) (F.ev rfl) (in_u64 (by omega) (by omega))) rfl ?_; clear F a; intro a F
                refine rl_run F (run_assign (F.ev rfl)) rfl ?_; clear F a; intro a F
                refine rl_nil ?_
                refine q_bn ?_
                refine q_tn ?_
                refine w_reg ?_
                refine rl_run F (run_move (F.ev rfl)) rfl ?_; clear F a; intro a F
                refine rl_run F (run_addi (F.ev rfl) (F.ev rfl) (in_i64 (by omega) (by omega))) rfl ?_; clear F a; intro a F
                refine rl_run F (run_assign (F.ev rfl)) rfl ?_; clear F a; intro a F
                refine rl_nil ?_
                refine q_tn ?_
                exact ⟨_, by omega, i + 1, 10 * acc + (B8.toNat - 48), rfl, F.to ⟨rfl, rfl, rfl, rfl, trivial⟩, M, by omega, gq_next hg hB8 (by omega) (by omega) (by omega), by omega⟩
        · intro hc
          have h15b := hc; clear hc
          have h15 : ¬ (((i : Nat) : Int) < (((s).length : Nat) : Int)) := of_decide_eq_false h15b
          refine wp_exit ?_
          refine q_te ?_
          refine q_te ?_
          refine q_bh ?_
          refine q_tn ?_
          refine wp_seq ?_
          refine w_reg ?_
          refine rl_run F (run_move (F.ev rfl)) rfl ?_; clear F a; intro a F
          refine rl_run F (run_assign (F.ev rfl)) rfl ?_; clear F a; intro a F
          refine rl_run F (run_assign (F.ev rfl)) rfl ?_; clear F a; intro a F
          refine rl_nil ?_
          refine q_tn ?_
          refine wp_ret ?_
          refine fin2 F rfl rfl rfl ?_
          exact ⟨M, _, true, rfl, ham, by rw [hl0, gq_end hg (by omega)]; rfl⟩
    · skip
      have h16b := hc; clear hc
      have h16 : ¬ (1 < (((s).length : Nat) : Int)) := of_decide_eq_false h16b
      refine rl_guard_f F rfl rfl rfl h16b ?_; clear F a; intro a F
      refine rl_guard_f F rfl rfl rfl h16b ?_; clear F a; intro a F
      refine rl_guard_f F rfl rfl rfl h16b ?_; clear F a; intro a F
      refine rl_guard_t F rfl rfl rfl h2b ?_
      refine rl_run F (run_pick_f (F.ev rfl) h16b (F.ev rfl)) rfl ?_; clear F a; intro a F
      refine rl_run F (run_pick_f (F.ev rfl) h2b (F.ev rfl)) rfl ?_; clear F a; intro a F
      refine rl_nil ?_
      refine q_tn ?_
      refine w_cond_f F rfl rfl ?_
      refine wp_skip ?_
      refine q_tn ?_
      refine wp_seq ?_
      have hl0 : numQ s most = goQ most s 0 := by first | exact num_l2 (by omega) (Or.inl (by omega))
      refine w_reg ?_
      refine rl_run F (run_assign (F.ev rfl)) rfl ?_; clear F a; intro a F
      refine rl_nil ?_
      refine q_tn ?_
      refine wp_seq ?_
      refine wp_seq ?_
      refine w_reg ?_
      refine rl_run F (run_assign (F.ev rfl)) rfl ?_; clear F a; intro a F
      refine rl_nil ?_
      refine q_tn ?_
      refine wp_block ?_
      refine w_loopN (fun m a' w' => ∃ (i : Nat), ∃ (acc : Nat), m = s.length - i ∧ Fits 54 a' [(0, .string (str (s))), (1, .int .u64 (((most : Nat) : Int))), (6, .int .u64 (((acc : Nat) : Int))), (7, .int .i64 (((i : Nat) : Int)))] ∧ Mem w0 G (L) w' ∧ (i ≤ s.length) ∧ (goQ most s 0 = goQ most (s.drop i) acc) ∧ (acc ≤ most)) _ ⟨0, 0, rfl, F.to ⟨rfl, rfl, rfl, rfl, trivial⟩, M, Nat.zero_le _, rfl, Nat.zero_le _⟩ ?_
      clear F M
      rintro m a w ⟨i, acc, rfl, F, M, hi, hg, ham⟩
      refine wp_seq ?_
      refine wp_seq ?_
      refine w_reg ?_
      refine rl_run F (run_move (F.ev rfl)) rfl ?_; clear F a; intro a F
      refine rl_run F (run_move (F.ev rfl)) rfl ?_; clear F a; intro a F
      refine rl_run F (run_lenStr tok9.k (F.ev rfl)) rfl ?_; clear F a; intro a F
      refine rl_run F (run_lss (F.ev rfl) (F.ev rfl)) rfl ?_; clear F a; intro a F
      refine rl_nil ?_
      refine q_tn ?_
      refine w_cond F rfl ?_ ?_
      · intro hc
        have h17b := hc; clear hc
        have h17 : ((i : Nat) : Int) < (((s).length : Nat) : Int) := of_decide_eq_true h17b
        refine wp_skip ?_
        refine q_tn ?_
        refine wp_seq ?_
        refine wp_block ?_
        refine wp_seq ?_
        refine wp_seq ?_
        refine w_reg ?_
        refine rl_run F (run_move (F.ev rfl)) rfl ?_; clear F a; intro a F
        refine rl_run F (run_move (F.ev rfl)) rfl ?_; clear F a; intro a F
        obtain ⟨B18, hB18⟩ := get_of_lt (xs := (s)) (i := i) (by omega)
        have lB18 := nb_hi B18
        refine rl_run F (run_strIndex (i := i) tok9.k (F.ev rfl) (F.ev rfl) hB18) rfl ?_; clear F a; intro a F
        refine rl_run F (run_lss (F.ev rfl) (F.ev rfl)) rfl ?_; clear F a; intro a F
        refine rl_run F (run_move (F.ev rfl)) rfl ?_; clear F a; intro a F
        rcases Bool.eq_false_or_eq_true (decide (nb B18 < 48)) with hc | hc
        · skip
          have h19b := hc; clear hc
          have h19 : nb B18 < 48 := of_decide_eq_true h19b
          refine rl_guard_f F rfl rfl rfl h19b ?_; clear F a; intro a F
          refine rl_guard_f F rfl rfl rfl h19b ?_; clear F a; intro a F
          refine rl_guard_f F rfl rfl rfl h19b ?_; clear F a; intro a F
          refine rl_guard_f F rfl rfl rfl h19b ?_; clear F a; intro a F
          refine rl_run F (run_pick_t (F.ev rfl) h19b (F.ev rfl)) rfl ?_; clear F a; intro a F
          refine rl_nil ?_
          refine q_tn ?_
          refine w_cond_t F rfl rfl ?_
          refine wp_seq ?_
          refine w_reg ?_
          refine rl_run F (run_assign (F.ev rfl)) rfl ?_; clear F a; intro a F
          refine rl_run F (run_assign (F.ev rfl)) rfl ?_; clear F a; intro a F
          refine rl_nil ?_
          refine q_tn ?_
          refine wp_ret ?_
          refine q_tr ?_
          refine q_br ?_
          refine q_tr ?_
          refine q_tr ?_
          refine q_br ?_
          refine q_tr ?_
          refine fin2 F rfl rfl rfl ?_
          have hq_ : numQ s most = none := by first | exact num_l0 (by omega) | (rw [hl0]; exact gq_no hg hB18 (by omega)) | (rw [hl0]; exact gq_big hg hB18 (by omega) (by omega) (by omega))
          exact ⟨M, 0, false, rfl, Nat.zero_le _, by rw [hq_]; rfl⟩
        · skip
          have h20b := hc; clear hc
          have h20 : ¬ (nb B18 < 48) := of_decide_eq_false h20b
          refine rl_guard_t F rfl rfl rfl h20b ?_
          refine rl_run F (run_move (F.ev rfl)) rfl ?_; clear F a; intro a F
          refine rl_guard_t F rfl rfl rfl h20b ?_
          refine rl_run F (run_move (F.ev rfl)) rfl ?_; clear F a; intro a F
          refine rl_guard_t F rfl rfl rfl h20b ?_
          refine rl_run F (run_strIndex (i := i) tok9.k (F.ev rfl) (F.ev rfl) hB18) rfl ?_; clear F a; intro a F
          refine rl_guard_t F rfl rfl rfl h20b ?_
          refine rl_run F (run_gtr (F.ev rfl) (F.ev rfl)) rfl ?_; clear F a; intro a F
          refine rl_run F (run_pick_f (F.ev rfl) h20b (F.ev rfl)) rfl ?_; clear F a; intro a F
          refine rl_nil ?_
          refine q_tn ?_
          refine w_cond F rfl ?_ ?_
          · intro hc
            have h21b := hc; clear hc
            have h21 : 57 < nb B18 := of_decide_eq_true h21b
            refine wp_seq ?_
            refine w_reg ?_
            refine rl_run F (run_assign (F.ev rfl)) rfl ?_; clear F a; intro a F
            refine rl_run F (run_assign (F.ev rfl)) rfl ?_; clear F a; intro a F
            refine rl_nil ?_
            refine q_tn ?_
            refine wp_ret ?_
            refine q_tr ?_
            refine q_br ?_
            refine q_tr ?_
            refine q_tr ?_
            refine q_br ?_
            refine q_tr ?_
            refine fin2 F rfl rfl rfl ?_
            have hq_ : numQ s most = none := by first | exact num_l0 (by omega) | (rw [hl0]; exact gq_no hg hB18 (by omega)) | (rw [hl0]; exact gq_big hg hB18 (by omega) (by omega) (by omega))
            exact ⟨M, 0, false, rfl, Nat.zero_le _, by rw [hq_]; rfl⟩
          · intro hc
            have h22b := hc; clear hc
            have h22 : ¬ (57 < nb B18) := of_decide_eq_false h22b
            refine wp_skip ?_
            refine q_tn ?_
            refine wp_seq ?_
            refine w_reg ?_
            refine rl_run F (run_move (F.ev rfl)) rfl ?_; clear F a; intro a F
            refine rl_run F (run_move (F.ev rfl)) rfl ?_; clear F a; intro a F
            refine rl_run F (run_strIndex (i := i) tok9.k (F.ev rfl) (F.ev rfl) hB18) rfl ?_; clear F a; intro a F
            refine rl_run F (run_subi (F.ev rfl) (F.ev rfl) (in_u8 (by omega) (by omega))) rfl ?_; clear F a; intro a F
            have hnb : nb B18 = (B18.toNat : Int) := rfl
            have hnd : nb B18 - 48 = ((B18.toNat - 48 : Nat) : Int) := by omega
            rw [hnd] at F
            refine rl_run F (run_conv_int tok37.k ⟨_, by rw [under_int tok5.k]⟩ (F.ev rfl) (in_u64 (by omega) (by omega))) rfl ?_; clear F a; intro a F
            refine rl_run F (run_assign (F.ev rfl)) rfl ?_; clear F a; intro a F
            refine rl_nil ?_
            refine q_tn ?_
            refine wp_seq ?_
            refine wp_seq ?_
            refine w_reg ?_
            refine rl_run F (run_move (F.ev rfl)) rfl ?_; clear F a; intro a F
            refine rl_run F (run_move (F.ev rfl)) rfl ?_; clear F a; intro a F
            refine rl_run F (run_move (F.ev rfl)) rfl ?_; clear F a; intro a F
            refine rl_run F (run_subi (F.ev rfl) (F.ev rfl) (in_u64 (by omega) (by omega))) rfl ?_; clear F a; intro a F
            refine rl_run F (run_quoi (F.ev rfl) (F.ev rfl) (by omega) (by omega) (in_u64 (by omega) (by omega))) rfl ?_; clear F a; intro a F
            refine rl_run F (run_gtr (F.ev rfl) (F.ev rfl)) rfl ?_; clear F a; intro a F
            refine rl_nil ?_
            refine q_tn ?_
            refine w_cond F rfl ?_ ?_
            · intro hc
              have h23b := hc; clear hc
              have h23 : ((((most : Nat) : Int)) - (((B18.toNat - 48 : Nat) : Int))) / 10 < ((acc : Nat) : Int) := of_decide_eq_true h23b
              refine wp_seq ?_
              refine w_reg ?_
              refine rl_run F (run_assign (F.ev rfl)) rfl ?_; clear F a; intro a F
              refine rl_run F (run_assign (F.ev rfl)) rfl ?_; clear F a; intro a F
              refine rl_nil ?_
              refine q_tn ?_
              refine wp_ret ?_
              refine q_tr ?_
              refine q_br ?_
              refine q_tr ?_
              refine q_tr ?_
              refine q_br ?_
              refine q_tr ?_
              refine fin2 F rfl rfl rfl ?_
              have hq_ : numQ s most = none := by first | exact num_l0 (by omega) | (rw [hl0]; exact gq_no hg hB18 (by omega)) | (rw [hl0]; exact gq_big hg hB18 (by omega) (by omega) (by omega))
              exact ⟨M, 0, false, rfl, Nat.zero_le _, by rw [hq_]; rfl⟩
            · intro hc
              have h24b := hc; clear hc
              have h24 : ¬ (((((most : Nat) : Int)) - (((B18.toNat - 48 : Nat) : Int))) / 10 < ((acc : Nat) : Int)) := of_decide_eq_false h24b
              refine wp_skip ?_
              refine q_tn ?_
              refine w_reg ?_
              refine rl_run F (run_move (F.ev rfl)) rfl ?_; clear F a; intro a F
              refine rl_run F (run_muli (F.ev rfl) (F.ev rfl) (in_u64 (by omega) (by omega))) rfl ?_; clear F a; intro a F
              refine rl_run F (run_move (F.ev rfl)) rfl ?_; clear F a; intro a F
              refine rl_run F (run_addi (F.ev rfl) (F.ev rfl) (in_u64 (by omega) (by omega))) rfl ?_; clear F a; intro a F
              refine rl_run F (run_assign (F.ev rfl)) rfl ?_; clear F a; intro a F
              refine rl_nil ?_
              refine q_bn ?_
              refine q_tn ?_
              refine w_reg ?_
              refine rl_run F (run_move (F.ev rfl)) rfl ?_; clear F a; intro a F
              refine rl_run F (run_addi (F.ev rfl) (F.ev rfl) (in_i64 (by omega) (by omega))) rfl ?_; clear F a; intro a F
              refine rl_run F (run_assign (F.ev rfl)) rfl ?_; clear F a; intro a F
              refine rl_nil ?_
              refine q_tn ?_
              exact ⟨_, by omega, i + 1, 10 * acc + (B18.toNat - 48), rfl, F.to ⟨rfl, rfl, rfl, rfl, trivial⟩, M, by omega, gq_next hg hB18 (by omega) (by omega) (by omega), by omega⟩
      · intro hc
        have h25b := hc; clear hc
        have h25 : ¬ (((i : Nat) : Int) < (((s).length : Nat) : Int)) := of_decide_eq_false h25b
        refine wp_exit ?_
        refine q_te ?_
        refine q_te ?_
        refine q_bh ?_
        refine q_tn ?_
        refine wp_seq ?_
        refine w_reg ?_
        refine rl_run F (run_move (F.ev rfl)) rfl ?_; clear F a; intro a F
        refine rl_run F (run_assign (F.ev rfl)) rfl ?_; clear F a; intro a F
        refine rl_run F (run_assign (F.ev rfl)) rfl ?_; clear F a; intro a F
        refine rl_nil ?_
        refine q_tn ?_
        refine wp_ret ?_
        refine fin2 F rfl rfl rfl ?_
        exact ⟨M, _, true, rfl, ham, by rw [hl0, gq_end hg (by omega)]; rfl⟩

end Go.Proofs.YtokeofoemjeleaaDoor
