/- The walks, part J. -/
import Derived.Test.YtnloilnlehgngaaWalkI
import Derived.Test.YtnloilnlehgngaaOrd
import Derived.Test.YtnloilnlehgngaaAsc
import Derived.Test.YtnloilnlehgngaaYRules5
import Derived.Test.YtnloilnlehgngaaWid
namespace Go.Proofs.Ytnloilnlehgngaa
open Go Go.Y Go.Proofs
set_option linter.unusedSimpArgs false
set_option linter.unusedVariables false
theorem known_ret {w0 w : World} {G : Ghost} {L : List Res} (M : Mem w0 G L w) : Calls Try.prog 6 #[] w (Ret w0 G L fun _ v => v = .bool true) := by
  refine calls_start (vs := []) Try.func6 rfl (n := 136) rfl rfl ?_
  intro a F
  refine wp_seq ?_
  refine w_reg ?_
  refine rl_run F (run_assign (F.ev rfl)) rfl ?_; clear F a; intro a F
  refine rl_nil ?_
  refine q_tn ?_
  refine wp_seq ?_
  refine w_reg ?_
  refine rl_callL F ent10 rfl rfl (new_spec M) ?_; clear F M a; rintro _ _ w a M ⟨bm1, rfl, adm1, nm1, cm1, manym1, tombsm1, csm1, sm1, rfl, hnm1, Em1, Km1⟩ F
  have hmm1 : manym1 = 0 := Km1.many
  have hzm1 : nm1 = 0 := by rw [hnm1]; exact Km1.small.2 rfl
  refine rl_run F (run_assign (F.ev rfl)) rfl ?_; clear F a; intro a F
  refine rl_nil ?_
  refine q_tn ?_
  refine wp_seq ?_
  refine wp_seq ?_
  refine w_reg ?_
  refine rl_run F (run_assign (F.ev rfl)) rfl ?_; clear F a; intro a F
  refine rl_nil ?_
  refine q_tn ?_
  refine wp_block ?_
  refine w_loopN (fun m a' w' => ∃ (n : Nat), ∃ (adm : Option Addr), ∃ (nm : Nat), ∃ (cm : Nat), ∃ (manym : Int), ∃ (tombsm : Int), ∃ (csm : List Value), ∃ (sm : List SlotD), m = 4096 - n ∧ Fits 136 a' [(1, .pointer (some ⟨bm1, 0, none⟩)), (2, .int .i64 (((n + 1 : Nat) : Int)))] ∧ Mem w0 G (.blk bm1 [.slice (adm) (nm) (cm), .int .i64 (manym), .int .i64 (tombsm)] 55 :: .row (.slice (adm) (nm) (cm)) (nm) (csm) 58 3 :: L) w' ∧ (n ≤ 4096) ∧ (nm = sm.length) ∧ (Els rdSlot 3 G csm sm) ∧ (KOK sm manym tombsm (asc 1099511627776 n) (4096))) _ ⟨0, (adm1), (nm1), (cm1), (manym1), (tombsm1), (csm1), (sm1), rfl, F.to ⟨rfl, rfl, trivial⟩, M, by omega, hnm1, Em1, Km1.more (by decide)⟩ ?_
  clear F M
  rintro m a w ⟨n, adm, nm, cm, manym, tombsm, csm, sm, rfl, F, M, hn, hnm, Em, Km⟩
  refine wp_seq ?_
  refine wp_seq ?_
  refine w_reg ?_
  refine rl_run F (run_move (F.ev rfl)) rfl ?_; clear F a; intro a F
  refine rl_run F (run_lss (F.ev rfl) (F.ev rfl)) rfl ?_; clear F a; intro a F
  refine rl_nil ?_
  refine q_tn ?_
  refine w_cond F rfl ?_ ?_
  · intro hc
    have h2b := hc; clear hc
    have h2 : ((n + 1 : Nat) : Int) < 4097 := of_decide_eq_true h2b
    refine wp_skip ?_
    refine q_tn ?_
    refine wp_seq ?_
    refine wp_block ?_
    refine wp_seq ?_
    refine w_reg ?_
    refine rl_run F (run_move (F.ev rfl)) rfl ?_; clear F a; intro a F
    refine rl_run F (run_move (F.ev rfl)) rfl ?_; clear F a; intro a F
    refine rl_run F (run_conv_int tok27.k ⟨_, by rw [under_int tok3.k]⟩ (F.ev rfl) (in_u64 (by omega) (by omega))) rfl ?_; clear F a; intro a F
    refine rl_run F (run_shlc (c := 1099511627776) (m := 40) (F.ev rfl) (F.ev rfl) rfl (by decide) (by decide) (in_u64 (by omega) (by omega))) rfl ?_; clear F a; intro a F
    refine rl_run F (run_move (F.ev rfl)) rfl ?_; clear F a; intro a F
    replace M := M.perm (perm_front _ 1 _ rfl)
    replace M := M.perm (perm_front _ 1 _ rfl)
    change Mem w0 G (.blk bm1 [.slice (adm) (nm) (cm), .int .i64 (manym), .int .i64 (tombsm)] 55 :: .row (.slice (adm) (nm) (cm)) (nm) (csm) 58 3 :: L) _ at M
    have hsm3 := putm_spec (v := ((n + 1 : Nat) : Int)) M hnm Em Km (key := (((n + 1 : Nat) : Int)) * 1099511627776) (by first | assumption | exact ⟨by decide, by decide⟩ | exact wrap_ink _ _ | exact in_u64 (by omega) (by omega)) (by first | decide | exact (‹inKind .u64 ((((n + 1 : Nat) : Int)) * 1099511627776)›).1 | omega) (by first | assumption | exact ⟨by decide, by decide⟩ | exact wrap_ink _ _ | exact in_i64 (by omega) (by omega))
    rw [asc_put0 (c := 1099511627776) (n := n) (by decide) (by omega)] at hsm3
    refine rl_callL F ent14 rfl rfl (hsm3) ?_; clear F M a; rintro _ _ w a M ⟨⟨adm3, nm3, cm3, manym3, tombsm3, csm3, sm3, rfl, hnm3, Em3, Km3⟩, rfl⟩ F
    clear hsm3
    replace Km3 := Km3.more (show max 4096 (asc 1099511627776 (n + 1)).length ≤ 4096 by simp only [List.length_cons, List.length_append, List.length_nil, List.length_drop, asc_len]; omega)
    have hlm3 := Km3.len.1
    refine rl_run F (run_nei (F.ev rfl) (F.ev rfl)) rfl ?_; clear F a; intro a F
    refine rl_nil ?_
    refine q_tn ?_
    refine w_cond_f F rfl (not_f (decide_eq_true (by omega))) ?_
    refine wp_skip ?_
    refine q_bn ?_
    refine q_tn ?_
    refine w_reg ?_
    refine rl_run F (run_move (F.ev rfl)) rfl ?_; clear F a; intro a F
    refine rl_run F (run_addi (F.ev rfl) (F.ev rfl) (in_i64 (by omega) (by omega))) rfl ?_; clear F a; intro a F
    refine rl_run F (run_assign (F.ev rfl)) rfl ?_; clear F a; intro a F
    refine rl_nil ?_
    refine q_tn ?_
    exact ⟨_, by omega, n + 1, (adm3), (nm3), (cm3), (manym3), (tombsm3), (csm3), (sm3), rfl, F.to ⟨rfl, rfl, trivial⟩, M, by omega, hnm3, Em3, Km3⟩
  · intro hc
    have h4b := hc; clear hc
    have h4 : ¬ (((n + 1 : Nat) : Int) < 4097) := of_decide_eq_false h4b
    refine wp_exit ?_
    refine q_te ?_
    refine q_te ?_
    refine q_bh ?_
    refine q_tn ?_
    refine wp_seq ?_
    refine wp_seq ?_
    have hm7 := Km.many
    rw [asc_len] at hm7
    have hn7 : n = 4096 := by omega
    refine w_reg ?_
    refine rl_run F (run_move (F.ev rfl)) rfl ?_; clear F a; intro a F
    refine rl_callS F ent20 rfl rfl (len_spec M (k := 0) rfl) ?_; clear F M a; rintro _ w a M rfl F
    refine rl_run F (run_nei (F.ev rfl) (F.ev rfl)) rfl ?_; clear F a; intro a F
    refine rl_run F (run_move (F.ev rfl)) rfl ?_; clear F a; intro a F
    have hg5 : (!(decide (manym = 4096))) = false := (not_f (decide_eq_true (by first | omega | decide)))
    refine rl_guard_t F rfl rfl rfl hg5 ?_
    refine rl_run F (run_move (F.ev rfl)) rfl ?_; clear F a; intro a F
    refine rl_guard_t F rfl rfl rfl hg5 ?_
    replace M := M.perm (perm_front _ 1 _ rfl)
    replace M := M.perm (perm_front _ 1 _ rfl)
    change Mem w0 G (.blk bm1 [.slice (adm) (nm) (cm), .int .i64 (manym), .int .i64 (tombsm)] 55 :: .row (.slice (adm) (nm) (cm)) (nm) (csm) 58 3 :: L) _ at M
    have hsm6 := putm_spec (v := 7) M hnm Em Km (key := 7) (by first | assumption | exact ⟨by decide, by decide⟩ | exact wrap_ink _ _ | exact in_u64 (by omega) (by omega)) (by first | decide | exact (‹inKind .u64 (7)›).1 | omega) (by first | assumption | exact ⟨by decide, by decide⟩ | exact wrap_ink _ _ | exact in_i64 (by omega) (by omega))
    rw [putF_full Km.sorted (by decide) (asc_no7 n) (by rw [asc_len]; omega)] at hsm6
    refine rl_callL F ent14 rfl rfl (hsm6) ?_; clear F M a; rintro _ _ w a M ⟨⟨adm6, nm6, cm6, manym6, tombsm6, csm6, sm6, rfl, hnm6, Em6, Km6⟩, rfl⟩ F
    clear hsm6
    replace Km6 := Km6.more (show max 4096 (asc 1099511627776 n).length ≤ 4096 by simp only [List.length_cons, List.length_append, List.length_nil, List.length_drop, asc_len]; omega)
    have hlm6 := Km6.len.1
    refine rl_guard_t F rfl rfl rfl hg5 ?_
    refine rl_run F (run_nei (F.ev rfl) (F.ev rfl)) rfl ?_; clear F a; intro a F
    refine rl_run F (run_pick_f (F.ev rfl) hg5 (F.ev rfl)) rfl ?_; clear F a; intro a F
    refine rl_run F (run_move (F.ev rfl)) rfl ?_; clear F a; intro a F
    have hg7 : (!(decide ((3 : Int) = 3))) = false := (not_f (decide_eq_true (by first | omega | decide)))
    refine rl_guard_t F rfl rfl rfl hg7 ?_
    refine rl_run F (run_move (F.ev rfl)) rfl ?_; clear F a; intro a F
    refine rl_guard_t F rfl rfl rfl hg7 ?_
    replace M := M.perm (perm_front _ 1 _ rfl)
    replace M := M.perm (perm_front _ 1 _ rfl)
    change Mem w0 G (.blk bm1 [.slice (adm6) (nm6) (cm6), .int .i64 (manym6), .int .i64 (tombsm6)] 55 :: .row (.slice (adm6) (nm6) (cm6)) (nm6) (csm6) 58 3 :: L) _ at M
    have hsm8 := putm_spec (v := 9) M hnm6 Em6 Km6 (key := 1099511627776) (by first | assumption | exact ⟨by decide, by decide⟩ | exact wrap_ink _ _ | exact in_u64 (by omega) (by omega)) (by first | decide | exact (‹inKind .u64 (1099511627776)›).1 | omega) (by first | assumption | exact ⟨by decide, by decide⟩ | exact wrap_ink _ _ | exact in_i64 (by omega) (by omega))
    rw [asc_first (c := 1099511627776) (n := n) (by omega) (by decide) 9] at hsm8
    refine rl_callL F ent14 rfl rfl (hsm8) ?_; clear F M a; rintro _ _ w a M ⟨⟨adm8, nm8, cm8, manym8, tombsm8, csm8, sm8, rfl, hnm8, Em8, Km8⟩, rfl⟩ F
    clear hsm8
    replace Km8 := Km8.more (show max 4096 (⟨1099511627776, 9⟩ :: (asc 1099511627776 n).drop 1).length ≤ 4096 by simp only [List.length_cons, List.length_append, List.length_nil, List.length_drop, asc_len]; omega)
    have hlm8 := Km8.len.1
    refine rl_guard_t F rfl rfl rfl hg7 ?_
    refine rl_run F (run_nei (F.ev rfl) (F.ev rfl)) rfl ?_; clear F a; intro a F
    refine rl_run F (run_pick_f (F.ev rfl) hg7 (F.ev rfl)) rfl ?_; clear F a; intro a F
    refine rl_run F (run_move (F.ev rfl)) rfl ?_; clear F a; intro a F
    have hg9 : (!(decide ((0 : Int) = 0))) = false := (not_f (decide_eq_true (by first | omega | decide)))
    refine rl_guard_t F rfl rfl rfl hg9 ?_
    refine rl_run F (run_move (F.ev rfl)) rfl ?_; clear F a; intro a F
    refine rl_guard_t F rfl rfl rfl hg9 ?_
    refine rl_callS F ent21 rfl rfl (slots_spec M (k := 0) rfl) ?_; clear F M a; rintro _ w a M rfl F
    refine rl_guard_t F rfl rfl rfl hg9 ?_
    refine rl_run F (run_gtr (F.ev rfl) (F.ev rfl)) rfl ?_; clear F a; intro a F
    refine rl_run F (run_pick_f (F.ev rfl) hg9 (F.ev rfl)) rfl ?_; clear F a; intro a F
    refine rl_nil ?_
    refine q_tn ?_
    refine w_cond_f F rfl (decide_eq_false (by omega)) ?_
    refine wp_skip ?_
    refine q_tn ?_
    refine wp_seq ?_
    refine wp_seq ?_
    refine w_reg ?_
    refine rl_run F (run_assign (F.ev rfl)) rfl ?_; clear F a; intro a F
    refine rl_nil ?_
    refine q_tn ?_
    refine wp_block ?_
    refine w_loopN (fun m a' w' => ∃ (j : Nat), ∃ (adq : Option Addr), ∃ (nq : Nat), ∃ (cq : Nat), ∃ (manyq : Int), ∃ (tombsq : Int), ∃ (csq : List Value), ∃ (sq : List SlotD), m = 4096 - j ∧ Fits 136 a' [(1, .pointer (some ⟨bm1, 0, none⟩)), (3, .int .i64 (((j + 1 : Nat) : Int)))] ∧ Mem w0 G (.blk bm1 [.slice (adq) (nq) (cq), .int .i64 (manyq), .int .i64 (tombsq)] 55 :: .row (.slice (adq) (nq) (cq)) (nq) (csq) 58 3 :: L) w' ∧ (1 ≤ j ∧ j ≤ 4096) ∧ (nq = sq.length) ∧ (Els rdSlot 3 G csq sq) ∧ (KOK sq manyq tombsq (⟨1099511627776, 9⟩ :: (asc 1099511627776 n).drop j) (4096))) _ ⟨1, (adm8), (nm8), (cm8), (manym8), (tombsm8), (csm8), (sm8), rfl, F.to ⟨rfl, rfl, trivial⟩, M, by omega, hnm8, Em8, Km8⟩ ?_
    clear F M
    rintro m a w ⟨j, adq, nq, cq, manyq, tombsq, csq, sq, rfl, F, M, hj, hnq, Eq, Kq⟩
    refine wp_seq ?_
    refine wp_seq ?_
    refine w_reg ?_
    refine rl_run F (run_move (F.ev rfl)) rfl ?_; clear F a; intro a F
    refine rl_run F (run_lss (F.ev rfl) (F.ev rfl)) rfl ?_; clear F a; intro a F
    refine rl_nil ?_
    refine q_tn ?_
    refine w_cond F rfl ?_ ?_
    · intro hc
      have h10b := hc; clear hc
      have h10 : ((j + 1 : Nat) : Int) < 4097 := of_decide_eq_true h10b
      refine wp_skip ?_
      refine q_tn ?_
      refine wp_seq ?_
      refine wp_block ?_
      refine wp_seq ?_
      refine w_reg ?_
      refine rl_run F (run_move (F.ev rfl)) rfl ?_; clear F a; intro a F
      refine rl_run F (run_move (F.ev rfl)) rfl ?_; clear F a; intro a F
      refine rl_run F (run_conv_int tok27.k ⟨_, by rw [under_int tok3.k]⟩ (F.ev rfl) (in_u64 (by omega) (by omega))) rfl ?_; clear F a; intro a F
      refine rl_run F (run_shlc (c := 1099511627776) (m := 40) (F.ev rfl) (F.ev rfl) rfl (by decide) (by decide) (in_u64 (by omega) (by omega))) rfl ?_; clear F a; intro a F
      replace M := M.perm (perm_front _ 1 _ rfl)
      replace M := M.perm (perm_front _ 1 _ rfl)
      change Mem w0 G (.blk bm1 [.slice (adq) (nq) (cq), .int .i64 (manyq), .int .i64 (tombsq)] 55 :: .row (.slice (adq) (nq) (cq)) (nq) (csq) 58 3 :: L) _ at M
      have hsg11 := get_spec (key := (((j + 1 : Nat) : Int)) * 1099511627776) M hnq Eq Kq
      rw [asc_get2 (c := 1099511627776) (n := n) (j := j) (by decide) (by omega) (by omega) 9] at hsg11
      refine rl_callS F ent15 rfl rfl (hsg11) ?_; clear F M a; rintro _ w a M rfl F
      clear hsg11
      refine rl_run F (run_move (F.ev rfl)) rfl ?_; clear F a; intro a F
      refine rl_run F (run_extract (v := .int .i64 (((j + 1 : Nat) : Int))) (F.ev rfl) rfl) rfl ?_; clear F a; intro a F
      refine rl_run F (run_extract (v := .bool true) (F.ev rfl) rfl) rfl ?_; clear F a; intro a F
      refine rl_run F (run_assign (F.ev rfl)) rfl ?_; clear F a; intro a F
      refine rl_run F (run_assign (F.ev rfl)) rfl ?_; clear F a; intro a F
      refine rl_nil ?_
      refine q_tn ?_
      refine wp_seq ?_
      refine w_reg ?_
      refine rl_run F (run_move (F.ev rfl)) rfl ?_; clear F a; intro a F
      refine rl_run F (run_not (F.ev rfl)) rfl ?_; clear F a; intro a F
      refine rl_run F (run_move (F.ev rfl)) rfl ?_; clear F a; intro a F
      refine rl_guard_t F rfl rfl rfl rfl ?_
      refine rl_run F (run_move (F.ev rfl)) rfl ?_; clear F a; intro a F
      refine rl_guard_t F rfl rfl rfl rfl ?_
      refine rl_run F (run_move (F.ev rfl)) rfl ?_; clear F a; intro a F
      refine rl_guard_t F rfl rfl rfl rfl ?_
      refine rl_run F (run_nei (F.ev rfl) (F.ev rfl)) rfl ?_; clear F a; intro a F
      refine rl_run F (run_pick_f (F.ev rfl) rfl (F.ev rfl)) rfl ?_; clear F a; intro a F
      refine rl_run F (run_move (F.ev rfl)) rfl ?_; clear F a; intro a F
      have hg12 : (!(decide (((j + 1 : Nat) : Int) = ((j + 1 : Nat) : Int)))) = false := (not_f (decide_eq_true (by first | omega | decide)))
      refine rl_guard_t F rfl rfl rfl hg12 ?_
      refine rl_run F (run_move (F.ev rfl)) rfl ?_; clear F a; intro a F
      refine rl_guard_t F rfl rfl rfl hg12 ?_
      refine rl_run F (run_move (F.ev rfl)) rfl ?_; clear F a; intro a F
      refine rl_guard_t F rfl rfl rfl hg12 ?_
      refine rl_run F (run_conv_int tok27.k ⟨_, by rw [under_int tok3.k]⟩ (F.ev rfl) (in_u64 (by omega) (by omega))) rfl ?_; clear F a; intro a F
      refine rl_guard_t F rfl rfl rfl hg12 ?_
      refine rl_run F (run_shlc (c := 1099511627776) (m := 40) (F.ev rfl) (F.ev rfl) rfl (by decide) (by decide) (in_u64 (by omega) (by omega))) rfl ?_; clear F a; intro a F
      refine rl_guard_t F rfl rfl rfl hg12 ?_
      replace M := M.perm (perm_front _ 1 _ rfl)
      replace M := M.perm (perm_front _ 1 _ rfl)
      change Mem w0 G (.blk bm1 [.slice (adq) (nq) (cq), .int .i64 (manyq), .int .i64 (tombsq)] 55 :: .row (.slice (adq) (nq) (cq)) (nq) (csq) 58 3 :: L) _ at M
      have hsm13 := dropm_spec (key := (((j + 1 : Nat) : Int)) * 1099511627776) M hnq Eq Kq
      rw [asc_drop2 (c := 1099511627776) (n := n) (j := j) (by decide) (by omega) (by omega) 9] at hsm13
      refine rl_callL F ent12 rfl rfl (hsm13) ?_; clear F M a; rintro _ _ w a M ⟨⟨adm13, nm13, cm13, manym13, tombsm13, csm13, sm13, rfl, hnm13, Em13, Km13⟩, rfl⟩ F
      clear hsm13
      refine rl_guard_t F rfl rfl rfl hg12 ?_
      refine rl_run F (run_not (F.ev rfl)) rfl ?_; clear F a; intro a F
      refine rl_run F (run_pick_f (F.ev rfl) hg12 (F.ev rfl)) rfl ?_; clear F a; intro a F
      refine rl_nil ?_
      refine q_tn ?_
      refine w_cond_f F rfl rfl ?_
      refine wp_skip ?_
      refine q_bn ?_
      refine q_tn ?_
      refine w_reg ?_
      refine rl_run F (run_move (F.ev rfl)) rfl ?_; clear F a; intro a F
      refine rl_run F (run_addi (F.ev rfl) (F.ev rfl) (in_i64 (by omega) (by omega))) rfl ?_; clear F a; intro a F
      refine rl_run F (run_assign (F.ev rfl)) rfl ?_; clear F a; intro a F
      refine rl_nil ?_
      refine q_tn ?_
      exact ⟨_, by omega, j + 1, (adm13), (nm13), (cm13), (manym13), (tombsm13), (csm13), (sm13), rfl, F.to ⟨rfl, rfl, trivial⟩, M, by omega, hnm13, Em13, Km13⟩
    · intro hc
      have h14b := hc; clear hc
      have h14 : ¬ (((j + 1 : Nat) : Int) < 4097) := of_decide_eq_false h14b
      refine wp_exit ?_
      refine q_te ?_
      refine q_te ?_
      refine q_bh ?_
      refine q_tn ?_
      refine wp_seq ?_
      refine w_reg ?_
      refine rl_run F (run_move (F.ev rfl)) rfl ?_; clear F a; intro a F
      replace M := M.perm (perm_front _ 1 _ rfl)
      replace M := M.perm (perm_front _ 1 _ rfl)
      change Mem w0 G (.blk bm1 [.slice (adq) (nq) (cq), .int .i64 (manyq), .int .i64 (tombsq)] 55 :: .row (.slice (adq) (nq) (cq)) (nq) (csq) 58 3 :: L) _ at M
      have hsg15 := get_spec (key := 1099511627776) M hnq Eq Kq
      rw [getF_head (q := ⟨1099511627776, 9⟩)] at hsg15
      refine rl_callS F ent15 rfl rfl (hsg15) ?_; clear F M a; rintro _ w a M rfl F
      clear hsg15
      refine rl_run F (run_move (F.ev rfl)) rfl ?_; clear F a; intro a F
      refine rl_run F (run_extract (v := .int .i64 (9)) (F.ev rfl) rfl) rfl ?_; clear F a; intro a F
      refine rl_run F (run_extract (v := .bool true) (F.ev rfl) rfl) rfl ?_; clear F a; intro a F
      refine rl_run F (run_assign (F.ev rfl)) rfl ?_; clear F a; intro a F
      refine rl_run F (run_assign (F.ev rfl)) rfl ?_; clear F a; intro a F
      refine rl_nil ?_
      refine q_tn ?_
      refine wp_seq ?_
      refine wp_seq ?_
      have hm16 := Kq.many
      simp only [List.length_cons, List.length_drop, asc_len] at hm16
      refine w_reg ?_
      refine rl_run F (run_move (F.ev rfl)) rfl ?_; clear F a; intro a F
      refine rl_callS F ent20 rfl rfl (len_spec M (k := 0) rfl) ?_; clear F M a; rintro _ w a M rfl F
      refine rl_run F (run_nei (F.ev rfl) (F.ev rfl)) rfl ?_; clear F a; intro a F
      refine rl_run F (run_move (F.ev rfl)) rfl ?_; clear F a; intro a F
      have hg16 : (!(decide (manyq = 1))) = false := (not_f (decide_eq_true (by first | omega | decide)))
      refine rl_guard_t F rfl rfl rfl hg16 ?_
      refine rl_run F (run_move (F.ev rfl)) rfl ?_; clear F a; intro a F
      refine rl_guard_t F rfl rfl rfl hg16 ?_
      refine rl_run F (run_nei (F.ev rfl) (F.ev rfl)) rfl ?_; clear F a; intro a F
      refine rl_run F (run_pick_f (F.ev rfl) hg16 (F.ev rfl)) rfl ?_; clear F a; intro a F
      refine rl_run F (run_move (F.ev rfl)) rfl ?_; clear F a; intro a F
      have hg17 : (!(decide ((9 : Int) = 9))) = false := (not_f (decide_eq_true (by first | omega | decide)))
      refine rl_guard_t F rfl rfl rfl hg17 ?_
      refine rl_run F (run_move (F.ev rfl)) rfl ?_; clear F a; intro a F
      refine rl_guard_t F rfl rfl rfl hg17 ?_
      refine rl_run F (run_not (F.ev rfl)) rfl ?_; clear F a; intro a F
      refine rl_run F (run_pick_f (F.ev rfl) hg17 (F.ev rfl)) rfl ?_; clear F a; intro a F
      refine rl_nil ?_
      refine q_tn ?_
      refine w_cond_f F rfl rfl ?_
      refine wp_skip ?_
      refine q_tn ?_
      refine wp_seq ?_
      refine w_reg ?_
      refine rl_callL F ent10 rfl rfl (new_spec M) ?_; clear F M a; rintro _ _ w a M ⟨bm18, rfl, adm18, nm18, cm18, manym18, tombsm18, csm18, sm18, rfl, hnm18, Em18, Km18⟩ F
      have hmm18 : manym18 = 0 := Km18.many
      have hzm18 : nm18 = 0 := by rw [hnm18]; exact Km18.small.2 rfl
      refine rl_run F (run_assign (F.ev rfl)) rfl ?_; clear F a; intro a F
      refine rl_nil ?_
      refine q_tn ?_
      refine wp_seq ?_
      refine wp_seq ?_
      refine w_reg ?_
      refine rl_run F (run_assign (F.ev rfl)) rfl ?_; clear F a; intro a F
      refine rl_nil ?_
      refine q_tn ?_
      refine wp_block ?_
      refine w_loopN (fun m a' w' => ∃ (k : Nat), ∃ (adr : Option Addr), ∃ (nr : Nat), ∃ (cr : Nat), ∃ (manyr : Int), ∃ (tombsr : Int), ∃ (csr : List Value), ∃ (sr : List SlotD), m = 2999 - k ∧ Fits 136 a' [(8, .pointer (some ⟨bm18, 0, none⟩)), (9, .int .i64 (((k + 1 : Nat) : Int)))] ∧ Mem w0 G (.blk bm18 [.slice (adr) (nr) (cr), .int .i64 (manyr), .int .i64 (tombsr)] 55 :: .row (.slice (adr) (nr) (cr)) (nr) (csr) 58 3 :: .blk bm1 [.slice (adq) (nq) (cq), .int .i64 (manyq), .int .i64 (tombsq)] 55 :: .row (.slice (adq) (nq) (cq)) (nq) (csq) 58 3 :: L) w' ∧ (k ≤ 2999) ∧ (nr = sr.length) ∧ (Els rdSlot 3 G csr sr) ∧ (KOK sr manyr tombsr ((asc 1 k).drop (k - 5)) (6))) _ ⟨0, (adm18), (nm18), (cm18), (manym18), (tombsm18), (csm18), (sm18), rfl, F.to ⟨rfl, rfl, trivial⟩, M, by omega, hnm18, Em18, Km18.more (by decide)⟩ ?_
      clear F M
      rintro m a w ⟨k, adr, nr, cr, manyr, tombsr, csr, sr, rfl, F, M, hk, hnr, Er, Kr⟩
      refine wp_seq ?_
      refine wp_seq ?_
      refine w_reg ?_
      refine rl_run F (run_move (F.ev rfl)) rfl ?_; clear F a; intro a F
      refine rl_run F (run_lss (F.ev rfl) (F.ev rfl)) rfl ?_; clear F a; intro a F
      refine rl_nil ?_
      refine q_tn ?_
      refine w_cond F rfl ?_ ?_
      · intro hc
        have h19b := hc; clear hc
        have h19 : ((k + 1 : Nat) : Int) < 3000 := of_decide_eq_true h19b
        refine wp_skip ?_
        refine q_tn ?_
        refine wp_seq ?_
        refine wp_block ?_
        refine wp_seq ?_
        refine w_reg ?_
        refine rl_run F (run_move (F.ev rfl)) rfl ?_; clear F a; intro a F
        refine rl_run F (run_move (F.ev rfl)) rfl ?_; clear F a; intro a F
        refine rl_run F (run_conv_int tok27.k ⟨_, by rw [under_int tok3.k]⟩ (F.ev rfl) (in_u64 (by omega) (by omega))) rfl ?_; clear F a; intro a F
        refine rl_run F (run_move (F.ev rfl)) rfl ?_; clear F a; intro a F
        replace M := M.perm (perm_front _ 1 _ rfl)
        replace M := M.perm (perm_front _ 1 _ rfl)
        change Mem w0 G (.blk bm18 [.slice (adr) (nr) (cr), .int .i64 (manyr), .int .i64 (tombsr)] 55 :: .row (.slice (adr) (nr) (cr)) (nr) (csr) 58 3 :: .blk bm1 [.slice (adq) (nq) (cq), .int .i64 (manyq), .int .i64 (tombsq)] 55 :: .row (.slice (adq) (nq) (cq)) (nq) (csq) 58 3 :: L) _ at M
        have hsm20 := putm_spec (v := ((k + 1 : Nat) : Int)) M hnr Er Kr (key := ((k + 1 : Nat) : Int)) (by first | assumption | exact ⟨by decide, by decide⟩ | exact wrap_ink _ _ | exact in_u64 (by omega) (by omega)) (by first | decide | exact (‹inKind .u64 (((k + 1 : Nat) : Int))›).1 | omega) (by first | assumption | exact ⟨by decide, by decide⟩ | exact wrap_ink _ _ | exact in_i64 (by omega) (by omega))
        rw [asc1_put (n := k) (m := k - 5) (by omega) (by omega)] at hsm20
        refine rl_callL F ent14 rfl rfl (hsm20) ?_; clear F M a; rintro _ _ w a M ⟨⟨adm20, nm20, cm20, manym20, tombsm20, csm20, sm20, rfl, hnm20, Em20, Km20⟩, rfl⟩ F
        clear hsm20
        replace Km20 := Km20.more (show max 6 ((asc 1 (k + 1)).drop (k - 5)).length ≤ 6 by simp only [List.length_cons, List.length_append, List.length_nil, List.length_drop, asc_len]; omega)
        have hlm20 := Km20.len.1
        refine rl_run F (run_nei (F.ev rfl) (F.ev rfl)) rfl ?_; clear F a; intro a F
        refine rl_run F (run_move (F.ev rfl)) rfl ?_; clear F a; intro a F
        have hg21 : (!(decide ((0 : Int) = 0))) = false := (not_f (decide_eq_true (by first | omega | decide)))
        refine rl_guard_t F rfl rfl rfl hg21 ?_
        refine rl_run F (run_move (F.ev rfl)) rfl ?_; clear F a; intro a F
        refine rl_guard_t F rfl rfl rfl hg21 ?_
        refine rl_run F (run_gtr (F.ev rfl) (F.ev rfl)) rfl ?_; clear F a; intro a F
        refine rl_guard_t F rfl rfl rfl hg21 ?_
        refine rl_run F (run_move (F.ev rfl)) rfl ?_; clear F a; intro a F
        rcases Bool.eq_false_or_eq_true (decide (5 < ((k + 1 : Nat) : Int))) with hc | hc
        · skip
          have h22b := hc; clear hc
          have h22 : 5 < ((k + 1 : Nat) : Int) := of_decide_eq_true h22b
          refine rl_guard_t F rfl rfl rfl h22b ?_
          refine rl_run F (run_move (F.ev rfl)) rfl ?_; clear F a; intro a F
          refine rl_guard_t F rfl rfl rfl h22b ?_
          refine rl_run F (run_move (F.ev rfl)) rfl ?_; clear F a; intro a F
          refine rl_guard_t F rfl rfl rfl h22b ?_
          refine rl_run F (run_subi (F.ev rfl) (F.ev rfl) (in_i64 (by omega) (by omega))) rfl ?_; clear F a; intro a F
          refine rl_guard_t F rfl rfl rfl h22b ?_
          refine rl_run F (run_conv_int tok27.k ⟨_, by rw [under_int tok3.k]⟩ (F.ev rfl) (in_u64 (by omega) (by omega))) rfl ?_; clear F a; intro a F
          refine rl_guard_t F rfl rfl rfl h22b ?_
          replace M := M.perm (perm_front _ 1 _ rfl)
          replace M := M.perm (perm_front _ 1 _ rfl)
          change Mem w0 G (.blk bm18 [.slice (adm20) (nm20) (cm20), .int .i64 (manym20), .int .i64 (tombsm20)] 55 :: .row (.slice (adm20) (nm20) (cm20)) (nm20) (csm20) 58 3 :: .blk bm1 [.slice (adq) (nq) (cq), .int .i64 (manyq), .int .i64 (tombsq)] 55 :: .row (.slice (adq) (nq) (cq)) (nq) (csq) 58 3 :: L) _ at M
          have hsm23 := dropm_spec (key := (((k + 1 : Nat) : Int)) - 5) M hnm20 Em20 Km20
          rw [asc1_drop (k := k) (by omega)] at hsm23
          refine rl_callL F ent12 rfl rfl (hsm23) ?_; clear F M a; rintro _ _ w a M ⟨⟨adm23, nm23, cm23, manym23, tombsm23, csm23, sm23, rfl, hnm23, Em23, Km23⟩, rfl⟩ F
          clear hsm23
          refine rl_guard_t F rfl rfl rfl h22b ?_
          refine rl_run F (run_not (F.ev rfl)) rfl ?_; clear F a; intro a F
          refine rl_guard_t F rfl rfl rfl hg21 ?_
          refine rl_run F (run_pick_t (F.ev rfl) h22b (F.ev rfl)) rfl ?_; clear F a; intro a F
          refine rl_run F (run_pick_f (F.ev rfl) hg21 (F.ev rfl)) rfl ?_; clear F a; intro a F
          refine rl_nil ?_
          refine q_tn ?_
          refine w_cond_f F rfl rfl ?_
          refine wp_skip ?_
          refine q_bn ?_
          refine q_tn ?_
          refine w_reg ?_
          refine rl_run F (run_move (F.ev rfl)) rfl ?_; clear F a; intro a F
          refine rl_run F (run_addi (F.ev rfl) (F.ev rfl) (in_i64 (by omega) (by omega))) rfl ?_; clear F a; intro a F
          refine rl_run F (run_assign (F.ev rfl)) rfl ?_; clear F a; intro a F
          refine rl_nil ?_
          refine q_tn ?_
          exact ⟨_, by omega, k + 1, (adm23), (nm23), (cm23), (manym23), (tombsm23), (csm23), (sm23), rfl, F.to ⟨rfl, rfl, trivial⟩, M, by omega, hnm23, Em23, Km23⟩
        · skip
          have h24b := hc; clear hc
          have h24 : ¬ (5 < ((k + 1 : Nat) : Int)) := of_decide_eq_false h24b
          refine rl_guard_f F rfl rfl rfl h24b ?_; clear F a; intro a F
          refine rl_guard_f F rfl rfl rfl h24b ?_; clear F a; intro a F
          refine rl_guard_f F rfl rfl rfl h24b ?_; clear F a; intro a F
          refine rl_guard_f F rfl rfl rfl h24b ?_; clear F a; intro a F
          refine rl_guard_f F rfl rfl rfl h24b ?_; clear F a; intro a F
          refine rl_guard_f F rfl rfl rfl h24b ?_; clear F a; intro a F
          refine rl_guard_t F rfl rfl rfl hg21 ?_
          refine rl_run F (run_pick_f (F.ev rfl) h24b (F.ev rfl)) rfl ?_; clear F a; intro a F
          refine rl_run F (run_pick_f (F.ev rfl) hg21 (F.ev rfl)) rfl ?_; clear F a; intro a F
          refine rl_nil ?_
          refine q_tn ?_
          refine w_cond_f F rfl rfl ?_
          refine wp_skip ?_
          refine q_bn ?_
          refine q_tn ?_
          refine w_reg ?_
          refine rl_run F (run_move (F.ev rfl)) rfl ?_; clear F a; intro a F
          refine rl_run F (run_addi (F.ev rfl) (F.ev rfl) (in_i64 (by omega) (by omega))) rfl ?_; clear F a; intro a F
          refine rl_run F (run_assign (F.ev rfl)) rfl ?_; clear F a; intro a F
          refine rl_nil ?_
          refine q_tn ?_
          exact ⟨_, by omega, k + 1, (adm20), (nm20), (cm20), (manym20), (tombsm20), (csm20), (sm20), rfl, F.to ⟨rfl, rfl, trivial⟩, M, by omega, hnm20, Em20, by rw [show k + 1 - 5 = k - 5 by omega]; exact Km20⟩
      · intro hc
        have h25b := hc; clear hc
        have h25 : ¬ (((k + 1 : Nat) : Int) < 3000) := of_decide_eq_false h25b
        refine wp_exit ?_
        refine q_te ?_
        refine q_te ?_
        refine q_bh ?_
        refine q_tn ?_
        refine wp_seq ?_
        have hk9 : k = 2999 := by omega
        have e24 : (asc 1 k).drop (k - 5) = ([⟨2995, 2995⟩, ⟨2996, 2996⟩, ⟨2997, 2997⟩, ⟨2998, 2998⟩, ⟨2999, 2999⟩] : List PairD) := by rw [hk9]; exact (asc_5 2994).trans rfl
        have K24 := Kr
        rw [e24] at K24
        have hm24 := K24.many
        have hs24 := K24.small
        simp only [List.length_cons, List.length_nil] at hm24
        refine w_reg ?_
        refine rl_run F (run_move (F.ev rfl)) rfl ?_; clear F a; intro a F
        refine rl_callS F ent20 rfl rfl (len_spec M (k := 0) rfl) ?_; clear F M a; rintro _ w a M rfl F
        refine rl_run F (run_eqi (F.ev rfl) (F.ev rfl)) rfl ?_; clear F a; intro a F
        refine rl_run F (run_move (F.ev rfl)) rfl ?_; clear F a; intro a F
        have hg26 : (decide (manyr = 5)) = true := (decide_eq_true (by first | omega | decide))
        refine rl_guard_t F rfl rfl rfl hg26 ?_
        refine rl_run F (run_move (F.ev rfl)) rfl ?_; clear F a; intro a F
        refine rl_guard_t F rfl rfl rfl hg26 ?_
        refine rl_callS F ent21 rfl rfl (slots_spec M (k := 0) rfl) ?_; clear F M a; rintro _ w a M rfl F
        refine rl_guard_t F rfl rfl rfl hg26 ?_
        refine rl_run F (run_leq (F.ev rfl) (F.ev rfl)) rfl ?_; clear F a; intro a F
        refine rl_run F (run_pick_t (F.ev rfl) hg26 (F.ev rfl)) rfl ?_; clear F a; intro a F
        refine rl_run F (run_move (F.ev rfl)) rfl ?_; clear F a; intro a F
        have hg27 : (decide (((nr : Nat) : Int) ≤ 48)) = true := (decide_eq_true (by first | omega | decide))
        refine rl_guard_t F rfl rfl rfl hg27 ?_
        refine rl_run F (run_move (F.ev rfl)) rfl ?_; clear F a; intro a F
        refine rl_guard_t F rfl rfl rfl hg27 ?_
        replace M := M.perm (perm_front _ 1 _ rfl)
        replace M := M.perm (perm_front _ 1 _ rfl)
        change Mem w0 G (.blk bm18 [.slice (adr) (nr) (cr), .int .i64 (manyr), .int .i64 (tombsr)] 55 :: .row (.slice (adr) (nr) (cr)) (nr) (csr) 58 3 :: .blk bm1 [.slice (adq) (nq) (cq), .int .i64 (manyq), .int .i64 (tombsq)] 55 :: .row (.slice (adq) (nq) (cq)) (nq) (csq) 58 3 :: L) _ at M
        have hsm28 := putm_spec (v := 1) M hnr Er K24 (key := 18446744073709551615) (by first | assumption | exact ⟨by decide, by decide⟩ | exact wrap_ink _ _ | exact in_u64 (by omega) (by omega)) (by first | decide | exact (‹inKind .u64 (18446744073709551615)›).1 | omega) (by first | assumption | exact ⟨by decide, by decide⟩ | exact wrap_ink _ _ | exact in_i64 (by omega) (by omega))
        rw [show putF ([⟨2995, 2995⟩, ⟨2996, 2996⟩, ⟨2997, 2997⟩, ⟨2998, 2998⟩, ⟨2999, 2999⟩] : List PairD) 18446744073709551615 1 = (([⟨2995, 2995⟩, ⟨2996, 2996⟩, ⟨2997, 2997⟩, ⟨2998, 2998⟩, ⟨2999, 2999⟩, ⟨18446744073709551615, 1⟩] : List PairD), 0) from rfl] at hsm28
        refine rl_callL F ent14 rfl rfl (hsm28) ?_; clear F M a; rintro _ _ w a M ⟨⟨adm28, nm28, cm28, manym28, tombsm28, csm28, sm28, rfl, hnm28, Em28, Km28⟩, rfl⟩ F
        clear hsm28
        have hmm28 : manym28 = 6 := Km28.many
        replace Km28 := Km28.more (show max 6 ([⟨2995, 2995⟩, ⟨2996, 2996⟩, ⟨2997, 2997⟩, ⟨2998, 2998⟩, ⟨2999, 2999⟩, ⟨18446744073709551615, 1⟩] : List PairD).length ≤ 6 by simp only [List.length_cons, List.length_append, List.length_nil, List.length_drop, asc_len]; omega)
        have hlm28 := Km28.len.1
        refine rl_guard_t F rfl rfl rfl hg27 ?_
        refine rl_run F (run_eqi (F.ev rfl) (F.ev rfl)) rfl ?_; clear F a; intro a F
        refine rl_run F (run_pick_t (F.ev rfl) hg27 (F.ev rfl)) rfl ?_; clear F a; intro a F
        refine rl_run F (run_move (F.ev rfl)) rfl ?_; clear F a; intro a F
        have hg29 : (decide ((0 : Int) = 0)) = true := (decide_eq_true (by first | omega | decide))
        refine rl_guard_t F rfl rfl rfl hg29 ?_
        refine rl_run F (run_move (F.ev rfl)) rfl ?_; clear F a; intro a F
        refine rl_guard_t F rfl rfl rfl hg29 ?_
        replace M := M.perm (perm_front _ 1 _ rfl)
        replace M := M.perm (perm_front _ 1 _ rfl)
        change Mem w0 G (.blk bm18 [.slice (adm28) (nm28) (cm28), .int .i64 (manym28), .int .i64 (tombsm28)] 55 :: .row (.slice (adm28) (nm28) (cm28)) (nm28) (csm28) 58 3 :: .blk bm1 [.slice (adq) (nq) (cq), .int .i64 (manyq), .int .i64 (tombsq)] 55 :: .row (.slice (adq) (nq) (cq)) (nq) (csq) 58 3 :: L) _ at M
        have hsm30 := dropm_spec (key := 18446744073709551615) M hnm28 Em28 Km28
        rw [show dropF ([⟨2995, 2995⟩, ⟨2996, 2996⟩, ⟨2997, 2997⟩, ⟨2998, 2998⟩, ⟨2999, 2999⟩, ⟨18446744073709551615, 1⟩] : List PairD) 18446744073709551615 = (([⟨2995, 2995⟩, ⟨2996, 2996⟩, ⟨2997, 2997⟩, ⟨2998, 2998⟩, ⟨2999, 2999⟩] : List PairD), true) from rfl] at hsm30
        refine rl_callL F ent12 rfl rfl (hsm30) ?_; clear F M a; rintro _ _ w a M ⟨⟨adm30, nm30, cm30, manym30, tombsm30, csm30, sm30, rfl, hnm30, Em30, Km30⟩, rfl⟩ F
        clear hsm30
        have hmm30 : manym30 = 5 := Km30.many
        refine rl_run F (run_pick_t (F.ev rfl) hg29 (F.ev rfl)) rfl ?_; clear F a; intro a F
        refine rl_run F (run_move (F.ev rfl)) rfl ?_; clear F a; intro a F
        refine rl_guard_t F rfl rfl rfl rfl ?_
        refine rl_run F (run_move (F.ev rfl)) rfl ?_; clear F a; intro a F
        refine rl_guard_t F rfl rfl rfl rfl ?_
        refine rl_run F (run_buildS (cs := [.int .u64 (2995), .int .i64 (2995)]) (ps := [(0, .int .u64 (2995)), (1, .int .i64 (2995))]) tok41.k rfl tok41 (F.evp rfl) rfl) rfl ?_; clear F a; intro a F
        refine rl_guard_t F rfl rfl rfl rfl ?_
        refine rl_run F (run_buildS (cs := [.int .u64 (2996), .int .i64 (2996)]) (ps := [(0, .int .u64 (2996)), (1, .int .i64 (2996))]) tok41.k rfl tok41 (F.evp rfl) rfl) rfl ?_; clear F a; intro a F
        refine rl_guard_t F rfl rfl rfl rfl ?_
        refine rl_run F (run_buildS (cs := [.int .u64 (2997), .int .i64 (2997)]) (ps := [(0, .int .u64 (2997)), (1, .int .i64 (2997))]) tok41.k rfl tok41 (F.evp rfl) rfl) rfl ?_; clear F a; intro a F
        refine rl_guard_t F rfl rfl rfl rfl ?_
        refine rl_run F (run_buildS (cs := [.int .u64 (2998), .int .i64 (2998)]) (ps := [(0, .int .u64 (2998)), (1, .int .i64 (2998))]) tok41.k rfl tok41 (F.evp rfl) rfl) rfl ?_; clear F a; intro a F
        refine rl_guard_t F rfl rfl rfl rfl ?_
        refine rl_run F (run_buildS (cs := [.int .u64 (2999), .int .i64 (2999)]) (ps := [(0, .int .u64 (2999)), (1, .int .i64 (2999))]) tok41.k rfl tok41 (F.evp rfl) rfl) rfl ?_; clear F a; intro a F
        refine rl_guard_t F rfl rfl rfl rfl ?_
        refine rl_buildSliceN F M tok26.k tok41 (ps := [(0, .agg #[.int .u64 (2995), .int .i64 (2995)]), (1, .agg #[.int .u64 (2996), .int .i64 (2996)]), (2, .agg #[.int .u64 (2997), .int .i64 (2997)]), (3, .agg #[.int .u64 (2998), .int .i64 (2998)]), (4, .agg #[.int .u64 (2999), .int .i64 (2999)])]) (cs := [[.int .u64 (2995), .int .i64 (2995)], [.int .u64 (2996), .int .i64 (2996)], [.int .u64 (2997), .int .i64 (2997)], [.int .u64 (2998), .int .i64 (2998)], [.int .u64 (2999), .int .i64 (2999)]]) (fl := [.int .u64 (2995), .int .i64 (2995), .int .u64 (2996), .int .i64 (2996), .int .u64 (2997), .int .i64 (2997), .int .u64 (2998), .int .i64 (2998), .int .u64 (2999), .int .i64 (2999)]) rfl rfl (by simp [Parts, Value.cells]) (by simp [ti41]) rfl (by simp [Value.oneCell']) (by decide) (by decide) rfl ?_; clear F M a; intro v31 w a M F
        obtain ⟨av31, cv31, rfl, hlev31, hcmv31, hlv31⟩ := M.row_shape (k := 0) rfl
        have El5 : Els rdPair 2 G [.int .u64 (2995), .int .i64 (2995), .int .u64 (2996), .int .i64 (2996), .int .u64 (2997), .int .i64 (2997), .int .u64 (2998), .int .i64 (2998), .int .u64 (2999), .int .i64 (2999)] ([⟨2995, 2995⟩, ⟨2996, 2996⟩, ⟨2997, 2997⟩, ⟨2998, 2998⟩, ⟨2999, 2999⟩] : List PairD) := ⟨[.int .u64 2995, .int .i64 2995], _, rfl, rfl, ⟨rfl, ⟨by decide, by decide⟩, ⟨by decide, by decide⟩⟩, ⟨[.int .u64 2996, .int .i64 2996], _, rfl, rfl, ⟨rfl, ⟨by decide, by decide⟩, ⟨by decide, by decide⟩⟩, ⟨[.int .u64 2997, .int .i64 2997], _, rfl, rfl, ⟨rfl, ⟨by decide, by decide⟩, ⟨by decide, by decide⟩⟩, ⟨[.int .u64 2998, .int .i64 2998], _, rfl, rfl, ⟨rfl, ⟨by decide, by decide⟩, ⟨by decide, by decide⟩⟩, ⟨[.int .u64 2999, .int .i64 2999], _, rfl, rfl, ⟨rfl, ⟨by decide, by decide⟩, ⟨by decide, by decide⟩⟩, rfl⟩⟩⟩⟩⟩
        obtain ⟨hnz32, Gz32, az32, cz32, hGz32, hez32, Sz32, M⟩ := M.freeze_row mono_rdPair (k := 0) rfl El5 (by decide)
        clear hez32 az32 cz32
        replace Eq := Eq.mono mono_rdSlot hGz32
        replace Em30 := Em30.mono mono_rdSlot hGz32
        refine rl_guard_t F rfl rfl rfl rfl ?_
        replace M := M.perm (perm_front _ 1 _ rfl)
        replace M := M.perm (perm_front _ 1 _ rfl)
        change Mem w0 Gz32 (.blk bm18 [.slice (adm30) (nm30) (cm30), .int .i64 (manym30), .int .i64 (tombsm30)] 55 :: .row (.slice (adm30) (nm30) (cm30)) (nm30) (csm30) 58 3 :: .blk bm1 [.slice (adq) (nq) (cq), .int .i64 (manyq), .int .i64 (tombsq)] 55 :: .row (.slice (adq) (nq) (cq)) (nq) (csq) 58 3 :: L) _ at M
        refine rl_callS F ent17 rfl rfl (same_spec (ps := ([⟨2995, 2995⟩, ⟨2996, 2996⟩, ⟨2997, 2997⟩, ⟨2998, 2998⟩, ⟨2999, 2999⟩] : List PairD)) (most := 6) M hnm30 Em30 Km30 Sz32 (by omega)) ?_; clear F M a; rintro _ w a M rfl F
        refine rl_run F (run_pick_t (F.ev rfl) rfl (F.ev rfl)) rfl ?_; clear F a; intro a F
        refine rl_run F (run_move (F.ev rfl)) rfl ?_; clear F a; intro a F
        refine rl_guard_t F rfl rfl rfl rfl ?_
        refine rl_callS F ent9 rfl rfl (lives_spec M) ?_; clear F M a; rintro _ w a M rfl F
        refine rl_run F (run_pick_t (F.ev rfl) rfl (F.ev rfl)) rfl ?_; clear F a; intro a F
        refine rl_run F (run_assign (F.ev rfl)) rfl ?_; clear F a; intro a F
        refine rl_nil ?_
        refine q_tn ?_
        refine wp_ret ?_
        refine fin1 F rfl rfl ?_
        exact ⟨_, hGz32, M.weaken (.cons _ (.cons _ (.cons _ (.cons _ (List.Sublist.refl _))))), rfl⟩

theorem known_law {w0 w : World} {G : Ghost} {L : List Res} (M : Mem w0 G L w) : Calls Try.prog 6 #[] w (RetS w0 G L fun v => v = .bool true) := Ret.plain M (known_ret M)

end Go.Proofs.Ytnloilnlehgngaa
