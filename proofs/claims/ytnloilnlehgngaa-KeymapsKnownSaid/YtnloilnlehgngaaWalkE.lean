/- The walks, part E. -/
import Derived.Test.YtnloilnlehgngaaWalkD
import Derived.Test.YtnloilnlehgngaaRun
import Derived.Test.YtnloilnlehgngaaWid
namespace Go.Proofs.Ytnloilnlehgngaa
open Go Go.Y Go.Proofs
set_option linter.unusedSimpArgs false
set_option linter.unusedVariables false
theorem same_ret {w0 w : World} {G : Ghost} {L : List Res} {n : Nat} {b : Nat} {ad : Option Addr} {c : Nat} {many tombs : Int} {cs : List Value} {s : List SlotD} (M : Mem w0 G (.blk b [.slice ad n c, .int .i64 many, .int .i64 tombs] 55 :: .row (.slice ad n c) n cs 58 3 :: L) w) (hn : n = s.length) (E : Els rdSlot 3 G cs s) {ps : List PairD} {most : Nat} (K : KOK s many tombs ps most) {a2 : Option Addr} {c2 : Nat} (S : RdSl rdPair 2 G (.slice a2 ps.length c2) ps) (hmost : most ≤ 100000) :
    Calls Try.prog 17 #[.pointer (some ⟨b, 0, none⟩), .slice a2 ps.length c2, .int .i64 ((most : Nat) : Int)] w (Ret w0 G (.blk b [.slice ad n c, .int .i64 many, .int .i64 tombs] 55 :: .row (.slice ad n c) n cs 58 3 :: L) fun _ v => v = .bool true) := by
  have hKm := K.many
  have hKl := K.load
  have hKn := K.len
  have hKt := K.tombs
  have hKc := K.cnt
  have hKs := K.small
  refine calls_start (vs := [_, _, _]) Try.func17 rfl (n := 112) rfl rfl ?_
  intro a F
  refine wp_seq ?_
  refine w_reg ?_
  refine rl_run F (run_assign (F.ev rfl)) rfl ?_; clear F a; intro a F
  refine rl_nil ?_
  refine q_tn ?_
  refine wp_seq ?_
  refine w_reg ?_
  refine rl_run F (run_move (F.ev rfl)) rfl ?_; clear F a; intro a F
  replace M := M.perm (perm_front _ 1 _ rfl)
  replace M := M.perm (perm_front _ 1 _ rfl)
  change Mem w0 G (.blk b [.slice (ad) (n) (c), .int .i64 (many), .int .i64 (tombs)] 55 :: .row (.slice (ad) (n) (c)) (n) (cs) 58 3 :: L) _ at M
  refine rl_callL F ent23 rfl rfl (keys_spec M hn E K) ?_; clear F M a; rintro _ _ w a M ⟨ak1, rfl, rfl⟩ F
  have Ek1 : Els rdU 1 G ((ps.map PairD.key).map eu) (ps.map PairD.key) := Els_eu (by intro x hx; obtain ⟨q, hq, rfl⟩ := List.mem_map.1 hx; exact (K.keys q hq).1)
  obtain ⟨hnz2, Gz2, az2, cz2, hGz2, hez2, Sz2, M⟩ := M.freeze_row mono_rdU (k := 0) rfl Ek1 (by decide)
  clear hez2 az2 cz2
  replace E := E.mono mono_rdSlot hGz2
  replace S := S.mono mono_rdPair hGz2
  refine rl_run F (run_assign (F.ev rfl)) rfl ?_; clear F a; intro a F
  refine rl_nil ?_
  refine q_tn ?_
  refine wp_seq ?_
  refine w_reg ?_
  refine rl_run F (run_move (F.ev rfl)) rfl ?_; clear F a; intro a F
  refine rl_callS F ent21 rfl rfl (slots_spec M (k := 0) rfl) ?_; clear F M a; rintro _ w a M rfl F
  refine rl_run F (run_assign (F.ev rfl)) rfl ?_; clear F a; intro a F
  refine rl_nil ?_
  refine q_tn ?_
  refine wp_seq ?_
  refine wp_seq ?_
  refine w_reg ?_
  refine rl_run F (run_move (F.ev rfl)) rfl ?_; clear F a; intro a F
  refine rl_callS F ent20 rfl rfl (len_spec M (k := 0) rfl) ?_; clear F M a; rintro _ w a M rfl F
  refine rl_run F (run_move (F.ev rfl)) rfl ?_; clear F a; intro a F
  refine rl_run F (run_lenSl tok26.k (F.ev rfl)) rfl ?_; clear F a; intro a F
  refine rl_run F (run_nei (F.ev rfl) (F.ev rfl)) rfl ?_; clear F a; intro a F
  refine rl_run F (run_move (F.ev rfl)) rfl ?_; clear F a; intro a F
  have hg3 : (!(decide (many = ((ps.length : Nat) : Int)))) = false := (not_f (decide_eq_true (by omega)))
  refine rl_guard_t F rfl rfl rfl hg3 ?_
  refine rl_run F (run_move (F.ev rfl)) rfl ?_; clear F a; intro a F
  refine rl_guard_t F rfl rfl rfl hg3 ?_
  refine rl_run F (run_lenSl tok51.k (F.ev rfl)) rfl ?_; clear F a; intro a F
  refine rl_guard_t F rfl rfl rfl hg3 ?_
  refine rl_run F (run_move (F.ev rfl)) rfl ?_; clear F a; intro a F
  refine rl_guard_t F rfl rfl rfl hg3 ?_
  refine rl_run F (run_lenSl tok26.k (F.ev rfl)) rfl ?_; clear F a; intro a F
  refine rl_guard_t F rfl rfl rfl hg3 ?_
  refine rl_run F (run_nei (F.ev rfl) (F.ev rfl)) rfl ?_; clear F a; intro a F
  refine rl_run F (run_pick_f (F.ev rfl) hg3 (F.ev rfl)) rfl ?_; clear F a; intro a F
  refine rl_run F (run_move (F.ev rfl)) rfl ?_; clear F a; intro a F
  have hg4 : (!(decide (((ps.length : Nat) : Int) = ((ps.length : Nat) : Int)))) = false := (not_f (decide_eq_true (by omega)))
  refine rl_guard_t F rfl rfl rfl hg4 ?_
  refine rl_run F (run_move (F.ev rfl)) rfl ?_; clear F a; intro a F
  refine rl_guard_t F rfl rfl rfl hg4 ?_
  refine rl_run F (run_capSl tok51.k (F.ev rfl)) rfl ?_; clear F a; intro a F
  refine rl_guard_t F rfl rfl rfl hg4 ?_
  refine rl_run F (run_move (F.ev rfl)) rfl ?_; clear F a; intro a F
  refine rl_guard_t F rfl rfl rfl hg4 ?_
  refine rl_run F (run_lenSl tok51.k (F.ev rfl)) rfl ?_; clear F a; intro a F
  refine rl_guard_t F rfl rfl rfl hg4 ?_
  refine rl_run F (run_nei (F.ev rfl) (F.ev rfl)) rfl ?_; clear F a; intro a F
  refine rl_run F (run_pick_f (F.ev rfl) hg4 (F.ev rfl)) rfl ?_; clear F a; intro a F
  refine rl_run F (run_move (F.ev rfl)) rfl ?_; clear F a; intro a F
  have hg5 : (!(decide (((ps.length : Nat) : Int) = ((ps.length : Nat) : Int)))) = false := (not_f (decide_eq_true (by omega)))
  refine rl_guard_t F rfl rfl rfl hg5 ?_
  refine rl_run F (run_move (F.ev rfl)) rfl ?_; clear F a; intro a F
  refine rl_guard_t F rfl rfl rfl hg5 ?_
  refine rl_callS F ent25 rfl rfl (tombs_spec M (k := 0) rfl) ?_; clear F M a; rintro _ w a M rfl F
  refine rl_guard_t F rfl rfl rfl hg5 ?_
  refine rl_run F (run_lss (F.ev rfl) (F.ev rfl)) rfl ?_; clear F a; intro a F
  refine rl_run F (run_pick_f (F.ev rfl) hg5 (F.ev rfl)) rfl ?_; clear F a; intro a F
  refine rl_run F (run_move (F.ev rfl)) rfl ?_; clear F a; intro a F
  have hg6 : (decide (tombs < 0)) = false := (decide_eq_false (by omega))
  refine rl_guard_t F rfl rfl rfl hg6 ?_
  refine rl_run F (run_move (F.ev rfl)) rfl ?_; clear F a; intro a F
  refine rl_guard_t F rfl rfl rfl hg6 ?_
  refine rl_callS F ent20 rfl rfl (len_spec M (k := 0) rfl) ?_; clear F M a; rintro _ w a M rfl F
  refine rl_guard_t F rfl rfl rfl hg6 ?_
  refine rl_run F (run_move (F.ev rfl)) rfl ?_; clear F a; intro a F
  refine rl_guard_t F rfl rfl rfl hg6 ?_
  refine rl_callS F ent25 rfl rfl (tombs_spec M (k := 0) rfl) ?_; clear F M a; rintro _ w a M rfl F
  refine rl_guard_t F rfl rfl rfl hg6 ?_
  refine rl_run F (run_addi (F.ev rfl) (F.ev rfl) (in_i64 (by omega) (by omega))) rfl ?_; clear F a; intro a F
  refine rl_guard_t F rfl rfl rfl hg6 ?_
  refine rl_run F (run_muli (F.ev rfl) (F.ev rfl) (in_i64 (by omega) (by omega))) rfl ?_; clear F a; intro a F
  refine rl_guard_t F rfl rfl rfl hg6 ?_
  refine rl_run F (run_move (F.ev rfl)) rfl ?_; clear F a; intro a F
  refine rl_guard_t F rfl rfl rfl hg6 ?_
  refine rl_run F (run_muli (F.ev rfl) (F.ev rfl) (in_i64 (by omega) (by omega))) rfl ?_; clear F a; intro a F
  refine rl_guard_t F rfl rfl rfl hg6 ?_
  refine rl_run F (run_gtr (F.ev rfl) (F.ev rfl)) rfl ?_; clear F a; intro a F
  refine rl_run F (run_pick_f (F.ev rfl) hg6 (F.ev rfl)) rfl ?_; clear F a; intro a F
  refine rl_run F (run_move (F.ev rfl)) rfl ?_; clear F a; intro a F
  have hg7 : (decide (3 * (((n : Nat) : Int)) < 4 * (many + tombs))) = false := (decide_eq_false (by omega))
  refine rl_guard_t F rfl rfl rfl hg7 ?_
  refine rl_run F (run_move (F.ev rfl)) rfl ?_; clear F a; intro a F
  refine rl_guard_t F rfl rfl rfl hg7 ?_
  refine rl_run F (run_move (F.ev rfl)) rfl ?_; clear F a; intro a F
  refine rl_guard_t F rfl rfl rfl hg7 ?_
  refine rl_run F (run_muli (F.ev rfl) (F.ev rfl) (in_i64 (by omega) (by omega))) rfl ?_; clear F a; intro a F
  refine rl_guard_t F rfl rfl rfl hg7 ?_
  refine rl_run F (run_max2N (b := 8) (c := 8 * most) (F.ev rfl) (F.ev rfl)) rfl ?_; clear F a; intro a F
  refine rl_guard_t F rfl rfl rfl hg7 ?_
  refine rl_run F (run_gtr (F.ev rfl) (F.ev rfl)) rfl ?_; clear F a; intro a F
  refine rl_run F (run_pick_f (F.ev rfl) hg7 (F.ev rfl)) rfl ?_; clear F a; intro a F
  refine rl_nil ?_
  refine q_tn ?_
  refine w_cond_f F rfl (decide_eq_false (by omega)) ?_
  refine wp_skip ?_
  refine q_tn ?_
  refine wp_seq ?_
  refine w_reg ?_
  refine rl_run F (run_move (F.ev rfl)) rfl ?_; clear F a; intro a F
  refine rl_run F (run_eqi (F.ev rfl) (F.ev rfl)) rfl ?_; clear F a; intro a F
  refine rl_run F (run_assign (F.ev rfl)) rfl ?_; clear F a; intro a F
  refine rl_nil ?_
  refine q_tn ?_
  refine wp_seq ?_
  refine wp_seq ?_
  refine w_reg ?_
  refine rl_run F (run_assign (F.ev rfl)) rfl ?_; clear F a; intro a F
  refine rl_nil ?_
  refine q_tn ?_
  refine wp_block ?_
  refine w_loopN (fun m a' w' => ∃ (e : Nat), ∃ (p : Nat), ∃ (pw : Bool), m = 17 - e ∧ Fits 112 a' [(0, .pointer (some ⟨b, 0, none⟩)), (1, .slice (a2) (ps.length) (c2)), (7, .slice (ak1) (ps.length) (ps.length)), (8, .int .i64 (((n : Nat) : Int))), (9, .bool (pw)), (10, .int .i64 (((p : Nat) : Int)))] ∧ Mem w0 Gz2 (.blk b [.slice (ad) (n) (c), .int .i64 (many), .int .i64 (tombs)] 55 :: .row (.slice (ad) (n) (c)) (n) (cs) 58 3 :: L) w' ∧ (3 ≤ e ∧ e ≤ 17) ∧ (p = 2 ^ e) ∧ ((n = 0 ∨ ∃ e2, 3 ≤ e2 ∧ e2 < e ∧ n = 2 ^ e2) → pw = true)) _ ⟨3, 8, (decide (((n : Nat) : Int) = 0)), rfl, F.to ⟨rfl, rfl, rfl, rfl, rfl, rfl, trivial⟩, M, by omega, rfl, fun h => decide_eq_true (pw_start h)⟩ ?_
  clear F M
  rintro m a w ⟨e, p, pw, rfl, F, M, he, hp, hpw⟩
  refine wp_seq ?_
  refine wp_seq ?_
  refine w_reg ?_
  refine rl_run F (run_move (F.ev rfl)) rfl ?_; clear F a; intro a F
  refine rl_run F (run_leq (F.ev rfl) (F.ev rfl)) rfl ?_; clear F a; intro a F
  refine rl_nil ?_
  refine q_tn ?_
  refine w_cond F rfl ?_ ?_
  · intro hc
    have h8b := hc; clear hc
    have h8 : ((p : Nat) : Int) ≤ 65536 := of_decide_eq_true h8b
    refine wp_skip ?_
    refine q_tn ?_
    refine wp_seq ?_
    refine wp_block ?_
    refine w_reg ?_
    refine rl_run F (run_move (F.ev rfl)) rfl ?_; clear F a; intro a F
    refine rl_run F (run_move (F.ev rfl)) rfl ?_; clear F a; intro a F
    rcases Bool.eq_false_or_eq_true (pw) with hc | hc
    · skip
      have h9b := hc; clear hc
      have h9 : (pw) = true := h9b
      refine rl_guard_f F rfl rfl rfl h9b ?_; clear F a; intro a F
      refine rl_guard_f F rfl rfl rfl h9b ?_; clear F a; intro a F
      refine rl_guard_f F rfl rfl rfl h9b ?_; clear F a; intro a F
      refine rl_run F (run_pick_t (F.ev rfl) h9b (F.ev rfl)) rfl ?_; clear F a; intro a F
      refine rl_run F (run_assign (F.ev rfl)) rfl ?_; clear F a; intro a F
      refine rl_nil ?_
      refine q_bn ?_
      refine q_tn ?_
      refine w_reg ?_
      refine rl_run F (run_move (F.ev rfl)) rfl ?_; clear F a; intro a F
      refine rl_run F (run_muli (F.ev rfl) (F.ev rfl) (in_i64 (by omega) (by omega))) rfl ?_; clear F a; intro a F
      refine rl_run F (run_assign (F.ev rfl)) rfl ?_; clear F a; intro a F
      refine rl_nil ?_
      refine q_tn ?_
      rw [show (2 : Int) * ((p : Nat) : Int) = ((2 * p : Nat) : Int) by omega] at F
      have he16 := pow_le16 hp (by omega)
      exact ⟨_, by omega, e + 1, 2 * p, true, rfl, F.to ⟨rfl, rfl, rfl, rfl, rfl, rfl, trivial⟩, M, by omega, by rw [hp, Nat.pow_succ]; omega, fun _ => rfl⟩
    · skip
      have h10b := hc; clear hc
      have h10 : (pw) = false := h10b
      refine rl_guard_t F rfl rfl rfl h10b ?_
      refine rl_run F (run_move (F.ev rfl)) rfl ?_; clear F a; intro a F
      refine rl_guard_t F rfl rfl rfl h10b ?_
      refine rl_run F (run_move (F.ev rfl)) rfl ?_; clear F a; intro a F
      refine rl_guard_t F rfl rfl rfl h10b ?_
      refine rl_run F (run_eqi (F.ev rfl) (F.ev rfl)) rfl ?_; clear F a; intro a F
      refine rl_run F (run_pick_f (F.ev rfl) h10b (F.ev rfl)) rfl ?_; clear F a; intro a F
      refine rl_run F (run_assign (F.ev rfl)) rfl ?_; clear F a; intro a F
      refine rl_nil ?_
      refine q_bn ?_
      refine q_tn ?_
      refine w_reg ?_
      refine rl_run F (run_move (F.ev rfl)) rfl ?_; clear F a; intro a F
      refine rl_run F (run_muli (F.ev rfl) (F.ev rfl) (in_i64 (by omega) (by omega))) rfl ?_; clear F a; intro a F
      refine rl_run F (run_assign (F.ev rfl)) rfl ?_; clear F a; intro a F
      refine rl_nil ?_
      refine q_tn ?_
      rw [show (2 : Int) * ((p : Nat) : Int) = ((2 * p : Nat) : Int) by omega] at F
      have he16 := pow_le16 hp (by omega)
      exact ⟨_, by omega, e + 1, 2 * p, (decide (((p : Nat) : Int) = ((n : Nat) : Int))), rfl, F.to ⟨rfl, rfl, rfl, rfl, rfl, rfl, trivial⟩, M, by omega, by rw [hp, Nat.pow_succ]; omega, fun h => decide_eq_true (pw_step hpw ‹pw = false› hp h)⟩
  · intro hc
    have h11b := hc; clear hc
    have h11 : ¬ (((p : Nat) : Int) ≤ 65536) := of_decide_eq_false h11b
    refine wp_exit ?_
    refine q_te ?_
    refine q_te ?_
    refine q_bh ?_
    refine q_tn ?_
    refine wp_seq ?_
    refine wp_seq ?_
    refine w_reg ?_
    refine rl_run F (run_assign (F.ev rfl)) rfl ?_; clear F a; intro a F
    refine rl_nil ?_
    refine q_tn ?_
    refine wp_block ?_
    have hpwt : pw = true := hpw (pw_end K hn (pow_gt16 hp (by omega)))
    refine w_loopN (fun m a' w' => ∃ (i : Nat), m = ps.length - i ∧ Fits 112 a' [(0, .pointer (some ⟨b, 0, none⟩)), (1, .slice (a2) (ps.length) (c2)), (7, .slice (ak1) (ps.length) (ps.length)), (9, .bool (pw)), (11, .int .i64 (((i : Nat) : Int)))] ∧ Mem w0 Gz2 (.blk b [.slice (ad) (n) (c), .int .i64 (many), .int .i64 (tombs)] 55 :: .row (.slice (ad) (n) (c)) (n) (cs) 58 3 :: L) w' ∧ (i ≤ ps.length)) _ ⟨0, rfl, F.to ⟨rfl, rfl, rfl, rfl, rfl, trivial⟩, M, Nat.zero_le _⟩ ?_
    clear F M
    rintro m a w ⟨i, rfl, F, M, hi⟩
    refine wp_seq ?_
    refine wp_seq ?_
    refine w_reg ?_
    refine rl_run F (run_move (F.ev rfl)) rfl ?_; clear F a; intro a F
    refine rl_run F (run_move (F.ev rfl)) rfl ?_; clear F a; intro a F
    refine rl_run F (run_lenSl tok26.k (F.ev rfl)) rfl ?_; clear F a; intro a F
    refine rl_run F (run_lss (F.ev rfl) (F.ev rfl)) rfl ?_; clear F a; intro a F
    refine rl_nil ?_
    refine q_tn ?_
    refine w_cond F rfl ?_ ?_
    · intro hc
      have h12b := hc; clear hc
      have h12 : ((i : Nat) : Int) < ((ps.length : Nat) : Int) := of_decide_eq_true h12b
      refine wp_skip ?_
      refine q_tn ?_
      refine wp_seq ?_
      refine wp_block ?_
      refine wp_seq ?_
      refine w_reg ?_
      refine rl_run F (run_move (F.ev rfl)) rfl ?_; clear F a; intro a F
      refine rl_run F (run_move (F.ev rfl)) rfl ?_; clear F a; intro a F
      refine rl_run F (run_move (F.ev rfl)) rfl ?_; clear F a; intro a F
      obtain ⟨Xe13, hXe13⟩ := get_of_lt (xs := ps) (i := i) (by omega)
      obtain ⟨be13, oe13, _, Ie13, _, Ae13, ⟨rfl, hbe131, hbe132⟩⟩ := S.at hXe13
      refine rl_run F (run_indexI tok26.k tok41 (F.ev rfl) (F.ev rfl) (by omega) Ie13) rfl ?_; clear F a; intro a F
      refine rl_run F (run_fieldAddr tok41.k rfl rfl (F.ev rfl)) rfl ?_; clear F a; intro a F
      refine rl_run F (run_load1 (agf tok27 rfl) (F.ev rfl) (M.cellA Ae13 0 rfl rfl)) rfl ?_; clear F a; intro a F
      replace M := M.perm (perm_front _ 1 _ rfl)
      replace M := M.perm (perm_front _ 1 _ rfl)
      change Mem w0 Gz2 (.blk b [.slice (ad) (n) (c), .int .i64 (many), .int .i64 (tombs)] 55 :: .row (.slice (ad) (n) (c)) (n) (cs) 58 3 :: L) _ at M
      have hsg14 := get_spec (key := Xe13.key) M hn E K
      refine rl_callS F ent15 rfl rfl (hsg14) ?_; clear F M a; rintro _ w a M rfl F
      clear hsg14
      refine rl_run F (run_move (F.ev rfl)) rfl ?_; clear F a; intro a F
      refine rl_run F (run_extract (v := .int .i64 ((getF ps Xe13.key).1)) (F.ev rfl) rfl) rfl ?_; clear F a; intro a F
      refine rl_run F (run_extract (v := .bool ((getF ps Xe13.key).2)) (F.ev rfl) rfl) rfl ?_; clear F a; intro a F
      refine rl_run F (run_assign (F.ev rfl)) rfl ?_; clear F a; intro a F
      refine rl_run F (run_assign (F.ev rfl)) rfl ?_; clear F a; intro a F
      refine rl_nil ?_
      refine q_tn ?_
      refine wp_seq ?_
      refine w_plan [(true, 0), (true, 1), (true, 2), (true, 3), (true, 4), (true, 5), (true, 6), (true, 7), (true, 8), (true, 9), (true, 10), (true, 11), (true, 12), (true, 13), (true, 14), (true, 15), (true, 16), (true, 17), (true, 18), (true, 19), (true, 20), (true, 21), (true, 22)] (Keep Gz2 []) rfl (by kernel_rfl) (fun c a d v w h => by cases d <;> exact h) ((M.drew _).keep (Gle.refl _) (by simp)) ?_
      replace M := M.drew (w.drawn + 1)
      refine pl_run F (fun w M => run_move (F.ev rfl)) rfl ?_; clear F a; intro a F
      refine pl_run F (fun w M => run_move (F.ev rfl)) rfl ?_; clear F a; intro a F
      obtain ⟨be15, oe15, _, Ie15, _, Ae15, ⟨rfl, hbe151⟩⟩ := Sz2.at (show (ps.map PairD.key)[i]? = some Xe13.key by rw [List.getElem?_map, hXe13]; rfl)
      refine pl_run F (fun w M => run_indexI tok51.k tok27 (F.ev rfl) (F.ev rfl) (by omega) Ie15) rfl ?_; clear F a; intro a F
      refine pl_run F (fun w M => run_load1 (agf tok27 rfl) (F.ev rfl) (M.cellA Ae15 0 (by omega) rfl)) rfl ?_; clear F a; intro a F
      refine pl_run F (fun w M => run_move (F.ev rfl)) rfl ?_; clear F a; intro a F
      refine pl_run F (fun w M => run_move (F.ev rfl)) rfl ?_; clear F a; intro a F
      obtain ⟨be16, oe16, _, Ie16, _, Ae16, ⟨rfl, hbe161, hbe162⟩⟩ := S.at hXe13
      refine pl_run F (fun w M => run_indexI tok26.k tok41 (F.ev rfl) (F.ev rfl) (by omega) Ie16) rfl ?_; clear F a; intro a F
      refine pl_run F (fun w M => run_fieldAddr tok41.k rfl rfl (F.ev rfl)) rfl ?_; clear F a; intro a F
      refine pl_run F (fun w M => run_load1 (agf tok27 rfl) (F.ev rfl) (M.cellA Ae16 0 rfl rfl)) rfl ?_; clear F a; intro a F
      refine pl_run F (fun w M => run_nei (F.ev rfl) (F.ev rfl)) rfl ?_; clear F a; intro a F
      refine pl_run F (fun w M => run_move (F.ev rfl)) rfl ?_; clear F a; intro a F
      have hg17 : (!(decide (Xe13.key = Xe13.key))) = false := (not_f (decide_eq_true (by rfl)))
      refine pl_guard_run F rfl rfl hg17 (fun w M => run_move (F.ev rfl)) rfl ?_; clear F a; intro a F
      refine pl_guard_run F rfl rfl hg17 (fun w M => run_not (F.ev rfl)) rfl ?_; clear F a; intro a F
      refine pl_run F (fun w M => run_pick_f (F.ev rfl) hg17 (F.ev rfl)) rfl ?_; clear F a; intro a F
      refine pl_run F (fun w M => run_move (F.ev rfl)) rfl ?_; clear F a; intro a F
      have hg18 : (!((getF ps Xe13.key).2)) = false := (not_f (by exact (congrArg Prod.snd (getF_mem K.sorted hXe13))))
      refine pl_guard_run F rfl rfl hg18 (fun w M => run_move (F.ev rfl)) rfl ?_; clear F a; intro a F
      refine pl_guard_run F rfl rfl hg18 (fun w M => run_move (F.ev rfl)) rfl ?_; clear F a; intro a F
      refine pl_guard_run F rfl rfl hg18 (fun w M => run_move (F.ev rfl)) rfl ?_; clear F a; intro a F
      obtain ⟨be19, oe19, _, Ie19, _, Ae19, ⟨rfl, hbe191, hbe192⟩⟩ := S.at hXe13
      refine pl_guard_run F rfl rfl hg18 (fun w M => run_indexI tok26.k tok41 (F.ev rfl) (F.ev rfl) (by omega) Ie19) rfl ?_; clear F a; intro a F
      refine pl_guard_run F rfl rfl hg18 (fun w M => run_fieldAddr tok41.k rfl rfl (F.ev rfl)) rfl ?_; clear F a; intro a F
      refine pl_guard_run F rfl rfl hg18 (fun w M => run_load1 (agf tok3 rfl) (F.ev rfl) (M.cellA Ae19 1 rfl rfl)) rfl ?_; clear F a; intro a F
      refine pl_guard_run F rfl rfl hg18 (fun w M => run_nei (F.ev rfl) (F.ev rfl)) rfl ?_; clear F a; intro a F
      refine pl_run F (fun w M => run_pick_f (F.ev rfl) hg18 (F.ev rfl)) rfl ?_; clear F a; intro a F
      refine pl_nil ?_
      generalize ({ w with drawn := w.drawn + 1 } : World) = w at M ⊢
      refine q_tn ?_
      refine w_cond_f F rfl (not_f (decide_eq_true (by exact (congrArg Prod.fst (getF_mem K.sorted hXe13))))) ?_
      refine wp_skip ?_
      refine q_bn ?_
      refine q_tn ?_
      refine w_reg ?_
      refine rl_run F (run_move (F.ev rfl)) rfl ?_; clear F a; intro a F
      refine rl_run F (run_addi (F.ev rfl) (F.ev rfl) (in_i64 (by omega) (by omega))) rfl ?_; clear F a; intro a F
      refine rl_run F (run_assign (F.ev rfl)) rfl ?_; clear F a; intro a F
      refine rl_nil ?_
      refine q_tn ?_
      exact ⟨_, by omega, i + 1, rfl, F.to ⟨rfl, rfl, rfl, rfl, rfl, trivial⟩, M, by omega⟩
    · intro hc
      have h20b := hc; clear hc
      have h20 : ¬ (((i : Nat) : Int) < ((ps.length : Nat) : Int)) := of_decide_eq_false h20b
      refine wp_exit ?_
      refine q_te ?_
      refine q_te ?_
      refine q_bh ?_
      refine q_tn ?_
      refine wp_seq ?_
      refine w_reg ?_
      refine rl_run F (run_move (F.ev rfl)) rfl ?_; clear F a; intro a F
      refine rl_run F (run_assign (F.ev rfl)) rfl ?_; clear F a; intro a F
      refine rl_nil ?_
      refine q_tn ?_
      refine wp_ret ?_
      refine fin1 F rfl rfl ?_
      replace M := M.perm (perm_front _ 1 _ rfl)
      replace M := M.perm (perm_front _ 1 _ rfl)
      change Mem w0 Gz2 (.blk b [.slice (ad) (n) (c), .int .i64 (many), .int .i64 (tombs)] 55 :: .row (.slice (ad) (n) (c)) (n) (cs) 58 3 :: L) _ at M
      exact ⟨_, by first | assumption | exact Gle.refl _, M, by rw [hpwt]⟩

theorem same_spec {w0 w : World} {G : Ghost} {L : List Res} {n : Nat} {b : Nat} {ad : Option Addr} {c : Nat} {many tombs : Int} {cs : List Value} {s : List SlotD} (M : Mem w0 G (.blk b [.slice ad n c, .int .i64 many, .int .i64 tombs] 55 :: .row (.slice ad n c) n cs 58 3 :: L) w) (hn : n = s.length) (E : Els rdSlot 3 G cs s) {ps : List PairD} {most : Nat} (K : KOK s many tombs ps most) {a2 : Option Addr} {c2 : Nat} (S : RdSl rdPair 2 G (.slice a2 ps.length c2) ps) (hmost : most ≤ 100000) :
    Calls Try.prog 17 #[.pointer (some ⟨b, 0, none⟩), .slice a2 ps.length c2, .int .i64 ((most : Nat) : Int)] w (RetS w0 G (.blk b [.slice ad n c, .int .i64 many, .int .i64 tombs] 55 :: .row (.slice ad n c) n cs 58 3 :: L) fun v => v = .bool true) := Ret.plain M (same_ret M hn E K S hmost)

theorem lives_ret {w0 w : World} {G : Ghost} {L : List Res} (M : Mem w0 G L w) : Calls Try.prog 9 #[] w (Ret w0 G L fun _ v => v = .bool true) := by
  refine calls_start (vs := []) Try.func9 rfl (n := 106) rfl rfl ?_
  intro a F
  refine wp_seq ?_
  refine w_reg ?_
  refine rl_run F (run_assign (F.ev rfl)) rfl ?_; clear F a; intro a F
  refine rl_nil ?_
  refine q_tn ?_
  refine wp_seq ?_
  refine w_reg ?_
  refine rl_callL F ent10 rfl rfl (new_spec M) ?_; clear F M a; rintro _ _ w a M ⟨bm1, rfl, adm1, nm1, cm1, manym1, tombsm1, csm1, sm1, rfl, hnm1, Em1, Km1⟩ F
  have hmm1 : manym1 = 0 := Km1.many
  have hzm1 : nm1 = 0 := by rw [hnm1]; exact Km1.small.2 rfl
  refine rl_run F (run_assign (F.ev rfl)) rfl ?_; clear F a; intro a F
  refine rl_nil ?_
  refine q_tn ?_
  refine wp_seq ?_
  refine w_reg ?_
  refine rl_run F (run_move (F.ev rfl)) rfl ?_; clear F a; intro a F
  replace M := M.perm (perm_front _ 1 _ rfl)
  replace M := M.perm (perm_front _ 1 _ rfl)
  change Mem w0 G (.blk bm1 [.slice (adm1) (nm1) (cm1), .int .i64 (manym1), .int .i64 (tombsm1)] 55 :: .row (.slice (adm1) (nm1) (cm1)) (nm1) (csm1) 58 3 :: L) _ at M
  have hsg2 := get_spec (key := 1) M hnm1 Em1 Km1
  rw [show getF ([] : List PairD) 1 = (0, false) from rfl] at hsg2
  refine rl_callS F ent15 rfl rfl (hsg2) ?_; clear F M a; rintro _ w a M rfl F
  clear hsg2
  refine rl_run F (run_move (F.ev rfl)) rfl ?_; clear F a; intro a F
  refine rl_run F (run_extract (v := .int .i64 (0)) (F.ev rfl) rfl) rfl ?_; clear F a; intro a F
  refine rl_run F (run_extract (v := .bool false) (F.ev rfl) rfl) rfl ?_; clear F a; intro a F
  refine rl_run F (run_assign (F.ev rfl)) rfl ?_; clear F a; intro a F
  refine rl_run F (run_assign (F.ev rfl)) rfl ?_; clear F a; intro a F
  refine rl_nil ?_
  refine q_tn ?_
  refine wp_seq ?_
  refine wp_seq ?_
  refine w_reg ?_
  refine rl_run F (run_move (F.ev rfl)) rfl ?_; clear F a; intro a F
  refine rl_callS F ent20 rfl rfl (len_spec M (k := 0) rfl) ?_; clear F M a; rintro _ w a M rfl F
  refine rl_run F (run_nei (F.ev rfl) (F.ev rfl)) rfl ?_; clear F a; intro a F
  refine rl_run F (run_move (F.ev rfl)) rfl ?_; clear F a; intro a F
  have hg3 : (!(decide (manym1 = 0))) = false := (not_f (decide_eq_true (by first | omega | decide)))
  refine rl_guard_t F rfl rfl rfl hg3 ?_
  refine rl_run F (run_move (F.ev rfl)) rfl ?_; clear F a; intro a F
  refine rl_guard_t F rfl rfl rfl hg3 ?_
  refine rl_callS F ent21 rfl rfl (slots_spec M (k := 0) rfl) ?_; clear F M a; rintro _ w a M rfl F
  refine rl_guard_t F rfl rfl rfl hg3 ?_
  refine rl_run F (run_nei (F.ev rfl) (F.ev rfl)) rfl ?_; clear F a; intro a F
  refine rl_run F (run_pick_f (F.ev rfl) hg3 (F.ev rfl)) rfl ?_; clear F a; intro a F
  refine rl_run F (run_move (F.ev rfl)) rfl ?_; clear F a; intro a F
  have hg4 : (!(decide (((nm1 : Nat) : Int) = 0))) = false := (not_f (decide_eq_true (by first | omega | decide)))
  refine rl_guard_t F rfl rfl rfl hg4 ?_
  refine rl_run F (run_move (F.ev rfl)) rfl ?_; clear F a; intro a F
  refine rl_guard_t F rfl rfl rfl hg4 ?_
  refine rl_run F (run_nei (F.ev rfl) (F.ev rfl)) rfl ?_; clear F a; intro a F
  refine rl_run F (run_pick_f (F.ev rfl) hg4 (F.ev rfl)) rfl ?_; clear F a; intro a F
  refine rl_run F (run_move (F.ev rfl)) rfl ?_; clear F a; intro a F
  have hg5 : (!(decide ((0 : Int) = 0))) = false := (not_f (decide_eq_true (by first | omega | decide)))
  refine rl_guard_t F rfl rfl rfl hg5 ?_
  refine rl_run F (run_move (F.ev rfl)) rfl ?_; clear F a; intro a F
  refine rl_run F (run_pick_f (F.ev rfl) hg5 (F.ev rfl)) rfl ?_; clear F a; intro a F
  refine rl_run F (run_move (F.ev rfl)) rfl ?_; clear F a; intro a F
  refine rl_guard_t F rfl rfl rfl rfl ?_
  refine rl_run F (run_move (F.ev rfl)) rfl ?_; clear F a; intro a F
  refine rl_guard_t F rfl rfl rfl rfl ?_
  replace M := M.perm (perm_front _ 1 _ rfl)
  replace M := M.perm (perm_front _ 1 _ rfl)
  change Mem w0 G (.blk bm1 [.slice (adm1) (nm1) (cm1), .int .i64 (manym1), .int .i64 (tombsm1)] 55 :: .row (.slice (adm1) (nm1) (cm1)) (nm1) (csm1) 58 3 :: L) _ at M
  have hsm6 := putm_spec (v := 50) M hnm1 Em1 Km1 (key := 5) (by first | assumption | exact ⟨by decide, by decide⟩ | exact wrap_ink _ _ | exact in_u64 (by omega) (by omega)) (by first | decide | exact (‹inKind .u64 (5)›).1 | omega) (by first | assumption | exact ⟨by decide, by decide⟩ | exact wrap_ink _ _ | exact in_i64 (by omega) (by omega))
  rw [show putF ([] : List PairD) 5 50 = (([⟨5, 50⟩] : List PairD), 0) from rfl] at hsm6
  refine rl_callL F ent14 rfl rfl (hsm6) ?_; clear F M a; rintro _ _ w a M ⟨⟨adm6, nm6, cm6, manym6, tombsm6, csm6, sm6, rfl, hnm6, Em6, Km6⟩, rfl⟩ F
  clear hsm6
  have hmm6 : manym6 = 1 := Km6.many
  replace Km6 := Km6.more (show max 0 ([⟨5, 50⟩] : List PairD).length ≤ 6 by decide)
  refine rl_guard_t F rfl rfl rfl rfl ?_
  refine rl_run F (run_nei (F.ev rfl) (F.ev rfl)) rfl ?_; clear F a; intro a F
  refine rl_run F (run_pick_f (F.ev rfl) rfl (F.ev rfl)) rfl ?_; clear F a; intro a F
  refine rl_run F (run_move (F.ev rfl)) rfl ?_; clear F a; intro a F
  have hg7 : (!(decide ((0 : Int) = 0))) = false := (not_f (decide_eq_true (by first | omega | decide)))
  refine rl_guard_t F rfl rfl rfl hg7 ?_
  refine rl_run F (run_move (F.ev rfl)) rfl ?_; clear F a; intro a F
  refine rl_guard_t F rfl rfl rfl hg7 ?_
  replace M := M.perm (perm_front _ 1 _ rfl)
  replace M := M.perm (perm_front _ 1 _ rfl)
  change Mem w0 G (.blk bm1 [.slice (adm6) (nm6) (cm6), .int .i64 (manym6), .int .i64 (tombsm6)] 55 :: .row (.slice (adm6) (nm6) (cm6)) (nm6) (csm6) 58 3 :: L) _ at M
  have hsm8 := putm_spec (v := 90) M hnm6 Em6 Km6 (key := 9) (by first | assumption | exact ⟨by decide, by decide⟩ | exact wrap_ink _ _ | exact in_u64 (by omega) (by omega)) (by first | decide | exact (‹inKind .u64 (9)›).1 | omega) (by first | assumption | exact ⟨by decide, by decide⟩ | exact wrap_ink _ _ | exact in_i64 (by omega) (by omega))
  rw [show putF ([⟨5, 50⟩] : List PairD) 9 90 = (([⟨5, 50⟩, ⟨9, 90⟩] : List PairD), 0) from rfl] at hsm8
  refine rl_callL F ent14 rfl rfl (hsm8) ?_; clear F M a; rintro _ _ w a M ⟨⟨adm8, nm8, cm8, manym8, tombsm8, csm8, sm8, rfl, hnm8, Em8, Km8⟩, rfl⟩ F
  clear hsm8
  have hmm8 : manym8 = 2 := Km8.many
  replace Km8 := Km8.more (show max 6 ([⟨5, 50⟩, ⟨9, 90⟩] : List PairD).length ≤ 6 by decide)
  refine rl_guard_t F rfl rfl rfl hg7 ?_
  refine rl_run F (run_nei (F.ev rfl) (F.ev rfl)) rfl ?_; clear F a; intro a F
  refine rl_run F (run_pick_f (F.ev rfl) hg7 (F.ev rfl)) rfl ?_; clear F a; intro a F
  refine rl_run F (run_move (F.ev rfl)) rfl ?_; clear F a; intro a F
  have hg9 : (!(decide ((0 : Int) = 0))) = false := (not_f (decide_eq_true (by first | omega | decide)))
  refine rl_guard_t F rfl rfl rfl hg9 ?_
  refine rl_run F (run_move (F.ev rfl)) rfl ?_; clear F a; intro a F
  refine rl_guard_t F rfl rfl rfl hg9 ?_
  replace M := M.perm (perm_front _ 1 _ rfl)
  replace M := M.perm (perm_front _ 1 _ rfl)
  change Mem w0 G (.blk bm1 [.slice (adm8) (nm8) (cm8), .int .i64 (manym8), .int .i64 (tombsm8)] 55 :: .row (.slice (adm8) (nm8) (cm8)) (nm8) (csm8) 58 3 :: L) _ at M
  have hsm10 := putm_spec (v := 51) M hnm8 Em8 Km8 (key := 5) (by first | assumption | exact ⟨by decide, by decide⟩ | exact wrap_ink _ _ | exact in_u64 (by omega) (by omega)) (by first | decide | exact (‹inKind .u64 (5)›).1 | omega) (by first | assumption | exact ⟨by decide, by decide⟩ | exact wrap_ink _ _ | exact in_i64 (by omega) (by omega))
  rw [show putF ([⟨5, 50⟩, ⟨9, 90⟩] : List PairD) 5 51 = (([⟨5, 51⟩, ⟨9, 90⟩] : List PairD), 0) from rfl] at hsm10
  refine rl_callL F ent14 rfl rfl (hsm10) ?_; clear F M a; rintro _ _ w a M ⟨⟨adm10, nm10, cm10, manym10, tombsm10, csm10, sm10, rfl, hnm10, Em10, Km10⟩, rfl⟩ F
  clear hsm10
  have hmm10 : manym10 = 2 := Km10.many
  replace Km10 := Km10.more (show max 6 ([⟨5, 51⟩, ⟨9, 90⟩] : List PairD).length ≤ 6 by decide)
  refine rl_guard_t F rfl rfl rfl hg9 ?_
  refine rl_run F (run_nei (F.ev rfl) (F.ev rfl)) rfl ?_; clear F a; intro a F
  refine rl_run F (run_pick_f (F.ev rfl) hg9 (F.ev rfl)) rfl ?_; clear F a; intro a F
  refine rl_nil ?_
  refine q_tn ?_
  refine w_cond_f F rfl (not_f (decide_eq_true (by omega))) ?_
  refine wp_skip ?_
  refine q_tn ?_
  refine wp_seq ?_
  refine w_reg ?_
  refine rl_run F (run_move (F.ev rfl)) rfl ?_; clear F a; intro a F
  replace M := M.perm (perm_front _ 1 _ rfl)
  replace M := M.perm (perm_front _ 1 _ rfl)
  change Mem w0 G (.blk bm1 [.slice (adm10) (nm10) (cm10), .int .i64 (manym10), .int .i64 (tombsm10)] 55 :: .row (.slice (adm10) (nm10) (cm10)) (nm10) (csm10) 58 3 :: L) _ at M
  have hsg11 := get_spec (key := 5) M hnm10 Em10 Km10
  rw [show getF ([⟨5, 51⟩, ⟨9, 90⟩] : List PairD) 5 = (51, true) from rfl] at hsg11
  refine rl_callS F ent15 rfl rfl (hsg11) ?_; clear F M a; rintro _ w a M rfl F
  clear hsg11
  refine rl_run F (run_move (F.ev rfl)) rfl ?_; clear F a; intro a F
  refine rl_run F (run_extract (v := .int .i64 (51)) (F.ev rfl) rfl) rfl ?_; clear F a; intro a F
  refine rl_run F (run_extract (v := .bool true) (F.ev rfl) rfl) rfl ?_; clear F a; intro a F
  refine rl_run F (run_assign (F.ev rfl)) rfl ?_; clear F a; intro a F
  refine rl_run F (run_assign (F.ev rfl)) rfl ?_; clear F a; intro a F
  refine rl_nil ?_
  refine q_tn ?_
  refine wp_seq ?_
  refine w_reg ?_
  refine rl_run F (run_move (F.ev rfl)) rfl ?_; clear F a; intro a F
  replace M := M.perm (perm_front _ 1 _ rfl)
  replace M := M.perm (perm_front _ 1 _ rfl)
  change Mem w0 G (.blk bm1 [.slice (adm10) (nm10) (cm10), .int .i64 (manym10), .int .i64 (tombsm10)] 55 :: .row (.slice (adm10) (nm10) (cm10)) (nm10) (csm10) 58 3 :: L) _ at M
  refine rl_callL F ent23 rfl rfl (keys_spec M hnm10 Em10 Km10) ?_; clear F M a; rintro _ _ w a M ⟨ak12, rfl, rfl⟩ F
  have Ek12 : Els rdU 1 G ((([⟨5, 51⟩, ⟨9, 90⟩] : List PairD).map PairD.key).map eu) (([⟨5, 51⟩, ⟨9, 90⟩] : List PairD).map PairD.key) := Els_eu (by intro x hx; obtain ⟨q, hq, rfl⟩ := List.mem_map.1 hx; exact (Km10.keys q hq).1)
  obtain ⟨hnz13, Gz13, az13, cz13, hGz13, hez13, Sz13, M⟩ := M.freeze_row mono_rdU (k := 0) rfl Ek12 (by decide)
  clear hez13 az13 cz13
  replace Em10 := Em10.mono mono_rdSlot hGz13
  refine rl_run F (run_assign (F.ev rfl)) rfl ?_; clear F a; intro a F
  refine rl_nil ?_
  refine q_tn ?_
  refine wp_seq ?_
  refine wp_seq ?_
  refine w_reg ?_
  refine rl_run F (run_move (F.ev rfl)) rfl ?_; clear F a; intro a F
  refine rl_callS F ent20 rfl rfl (len_spec M (k := 0) rfl) ?_; clear F M a; rintro _ w a M rfl F
  refine rl_run F (run_nei (F.ev rfl) (F.ev rfl)) rfl ?_; clear F a; intro a F
  refine rl_run F (run_move (F.ev rfl)) rfl ?_; clear F a; intro a F
  have hg14 : (!(decide (manym10 = 2))) = false := (not_f (decide_eq_true (by first | omega | decide)))
  refine rl_guard_t F rfl rfl rfl hg14 ?_
  refine rl_run F (run_move (F.ev rfl)) rfl ?_; clear F a; intro a F
  refine rl_guard_t F rfl rfl rfl hg14 ?_
  refine rl_run F (run_nei (F.ev rfl) (F.ev rfl)) rfl ?_; clear F a; intro a F
  refine rl_run F (run_pick_f (F.ev rfl) hg14 (F.ev rfl)) rfl ?_; clear F a; intro a F
  refine rl_run F (run_move (F.ev rfl)) rfl ?_; clear F a; intro a F
  have hg15 : (!(decide ((51 : Int) = 51))) = false := (not_f (decide_eq_true (by first | omega | decide)))
  refine rl_guard_t F rfl rfl rfl hg15 ?_
  refine rl_run F (run_move (F.ev rfl)) rfl ?_; clear F a; intro a F
  refine rl_guard_t F rfl rfl rfl hg15 ?_
  refine rl_run F (run_not (F.ev rfl)) rfl ?_; clear F a; intro a F
  refine rl_run F (run_pick_f (F.ev rfl) hg15 (F.ev rfl)) rfl ?_; clear F a; intro a F
  refine rl_run F (run_move (F.ev rfl)) rfl ?_; clear F a; intro a F
  refine rl_guard_t F rfl rfl rfl rfl ?_
  refine rl_run F (run_move (F.ev rfl)) rfl ?_; clear F a; intro a F
  refine rl_guard_t F rfl rfl rfl rfl ?_
  refine rl_run F (run_lenSl tok51.k (F.ev rfl)) rfl ?_; clear F a; intro a F
  refine rl_guard_t F rfl rfl rfl rfl ?_
  refine rl_run F (run_nei (F.ev rfl) (F.ev rfl)) rfl ?_; clear F a; intro a F
  refine rl_run F (run_pick_f (F.ev rfl) rfl (F.ev rfl)) rfl ?_; clear F a; intro a F
  refine rl_run F (run_move (F.ev rfl)) rfl ?_; clear F a; intro a F
  have hg16 : (!(decide (((([⟨5, 51⟩, ⟨9, 90⟩] : List PairD).length : Nat) : Int) = 2))) = false := (not_f (decide_eq_true (by first | omega | decide)))
  refine rl_guard_t F rfl rfl rfl hg16 ?_
  refine rl_run F (run_move (F.ev rfl)) rfl ?_; clear F a; intro a F
  refine rl_guard_t F rfl rfl rfl hg16 ?_
  obtain ⟨be17, oe17, _, Ie17, _, Ae17, ⟨rfl, hbe171⟩⟩ := Sz13.at (show (([⟨5, 51⟩, ⟨9, 90⟩] : List PairD).map PairD.key)[0]? = some 5 from rfl)
  refine rl_run F (run_indexI tok51.k tok27 (F.ev rfl) (F.ev rfl) (by omega) Ie17) rfl ?_; clear F a; intro a F
  refine rl_guard_t F rfl rfl rfl hg16 ?_
  refine rl_run F (run_load1 (agf tok27 rfl) (F.ev rfl) (M.cellA Ae17 0 (by omega) rfl)) rfl ?_; clear F a; intro a F
  refine rl_guard_t F rfl rfl rfl hg16 ?_
  refine rl_run F (run_nei (F.ev rfl) (F.ev rfl)) rfl ?_; clear F a; intro a F
  refine rl_run F (run_pick_f (F.ev rfl) hg16 (F.ev rfl)) rfl ?_; clear F a; intro a F
  refine rl_run F (run_move (F.ev rfl)) rfl ?_; clear F a; intro a F
  have hg18 : (!(decide ((5 : Int) = 5))) = false := (not_f (decide_eq_true (by first | omega | decide)))
  refine rl_guard_t F rfl rfl rfl hg18 ?_
  refine rl_run F (run_move (F.ev rfl)) rfl ?_; clear F a; intro a F
  refine rl_guard_t F rfl rfl rfl hg18 ?_
  obtain ⟨be19, oe19, _, Ie19, _, Ae19, ⟨rfl, hbe191⟩⟩ := Sz13.at (show (([⟨5, 51⟩, ⟨9, 90⟩] : List PairD).map PairD.key)[1]? = some 9 from rfl)
  refine rl_run F (run_indexI tok51.k tok27 (F.ev rfl) (F.ev rfl) (by omega) Ie19) rfl ?_; clear F a; intro a F
  refine rl_guard_t F rfl rfl rfl hg18 ?_
  refine rl_run F (run_load1 (agf tok27 rfl) (F.ev rfl) (M.cellA Ae19 0 (by omega) rfl)) rfl ?_; clear F a; intro a F
  refine rl_guard_t F rfl rfl rfl hg18 ?_
  refine rl_run F (run_nei (F.ev rfl) (F.ev rfl)) rfl ?_; clear F a; intro a F
  refine rl_run F (run_pick_f (F.ev rfl) hg18 (F.ev rfl)) rfl ?_; clear F a; intro a F
  refine rl_run F (run_move (F.ev rfl)) rfl ?_; clear F a; intro a F
  have hg20 : (!(decide ((9 : Int) = 9))) = false := (not_f (decide_eq_true (by first | omega | decide)))
  refine rl_guard_t F rfl rfl rfl hg20 ?_
  refine rl_run F (run_move (F.ev rfl)) rfl ?_; clear F a; intro a F
  refine rl_guard_t F rfl rfl rfl hg20 ?_
  replace M := M.perm (perm_front _ 1 _ rfl)
  replace M := M.perm (perm_front _ 1 _ rfl)
  change Mem w0 Gz13 (.blk bm1 [.slice (adm10) (nm10) (cm10), .int .i64 (manym10), .int .i64 (tombsm10)] 55 :: .row (.slice (adm10) (nm10) (cm10)) (nm10) (csm10) 58 3 :: L) _ at M
  have hsm21 := dropm_spec (key := 5) M hnm10 Em10 Km10
  rw [show dropF ([⟨5, 51⟩, ⟨9, 90⟩] : List PairD) 5 = (([⟨9, 90⟩] : List PairD), true) from rfl] at hsm21
  refine rl_callL F ent12 rfl rfl (hsm21) ?_; clear F M a; rintro _ _ w a M ⟨⟨adm21, nm21, cm21, manym21, tombsm21, csm21, sm21, rfl, hnm21, Em21, Km21⟩, rfl⟩ F
  clear hsm21
  have hmm21 : manym21 = 1 := Km21.many
  refine rl_guard_t F rfl rfl rfl hg20 ?_
  refine rl_run F (run_not (F.ev rfl)) rfl ?_; clear F a; intro a F
  refine rl_run F (run_pick_f (F.ev rfl) hg20 (F.ev rfl)) rfl ?_; clear F a; intro a F
  refine rl_run F (run_move (F.ev rfl)) rfl ?_; clear F a; intro a F
  refine rl_guard_t F rfl rfl rfl rfl ?_
  refine rl_run F (run_move (F.ev rfl)) rfl ?_; clear F a; intro a F
  refine rl_guard_t F rfl rfl rfl rfl ?_
  replace M := M.perm (perm_front _ 1 _ rfl)
  replace M := M.perm (perm_front _ 1 _ rfl)
  change Mem w0 Gz13 (.blk bm1 [.slice (adm21) (nm21) (cm21), .int .i64 (manym21), .int .i64 (tombsm21)] 55 :: .row (.slice (adm21) (nm21) (cm21)) (nm21) (csm21) 58 3 :: L) _ at M
  have hsm22 := dropm_spec (key := 5) M hnm21 Em21 Km21
  rw [show dropF ([⟨9, 90⟩] : List PairD) 5 = (([⟨9, 90⟩] : List PairD), false) from rfl] at hsm22
  refine rl_callL F ent12 rfl rfl (hsm22) ?_; clear F M a; rintro _ _ w a M ⟨⟨adm22, nm22, cm22, manym22, tombsm22, csm22, sm22, rfl, hnm22, Em22, Km22⟩, rfl⟩ F
  clear hsm22
  have hmm22 : manym22 = 1 := Km22.many
  refine rl_run F (run_pick_f (F.ev rfl) rfl (F.ev rfl)) rfl ?_; clear F a; intro a F
  refine rl_run F (run_move (F.ev rfl)) rfl ?_; clear F a; intro a F
  refine rl_guard_t F rfl rfl rfl rfl ?_
  refine rl_run F (run_move (F.ev rfl)) rfl ?_; clear F a; intro a F
  refine rl_guard_t F rfl rfl rfl rfl ?_
  refine rl_callS F ent20 rfl rfl (len_spec M (k := 0) rfl) ?_; clear F M a; rintro _ w a M rfl F
  refine rl_guard_t F rfl rfl rfl rfl ?_
  refine rl_run F (run_nei (F.ev rfl) (F.ev rfl)) rfl ?_; clear F a; intro a F
  refine rl_run F (run_pick_f (F.ev rfl) rfl (F.ev rfl)) rfl ?_; clear F a; intro a F
  refine rl_nil ?_
  refine q_tn ?_
  refine w_cond_f F rfl (not_f (decide_eq_true (by omega))) ?_
  refine wp_skip ?_
  refine q_tn ?_
  refine wp_seq ?_
  refine w_reg ?_
  refine rl_run F (run_move (F.ev rfl)) rfl ?_; clear F a; intro a F
  replace M := M.perm (perm_front _ 1 _ rfl)
  replace M := M.perm (perm_front _ 1 _ rfl)
  change Mem w0 Gz13 (.blk bm1 [.slice (adm22) (nm22) (cm22), .int .i64 (manym22), .int .i64 (tombsm22)] 55 :: .row (.slice (adm22) (nm22) (cm22)) (nm22) (csm22) 58 3 :: L) _ at M
  have hsg23 := get_spec (key := 5) M hnm22 Em22 Km22
  rw [show getF ([⟨9, 90⟩] : List PairD) 5 = (0, false) from rfl] at hsg23
  refine rl_callS F ent15 rfl rfl (hsg23) ?_; clear F M a; rintro _ w a M rfl F
  clear hsg23
  refine rl_run F (run_move (F.ev rfl)) rfl ?_; clear F a; intro a F
  refine rl_run F (run_extract (v := .int .i64 (0)) (F.ev rfl) rfl) rfl ?_; clear F a; intro a F
  refine rl_run F (run_extract (v := .bool false) (F.ev rfl) rfl) rfl ?_; clear F a; intro a F
  refine rl_run F (run_assign (F.ev rfl)) rfl ?_; clear F a; intro a F
  refine rl_run F (run_assign (F.ev rfl)) rfl ?_; clear F a; intro a F
  refine rl_nil ?_
  refine q_tn ?_
  refine wp_seq ?_
  refine w_reg ?_
  refine rl_run F (run_move (F.ev rfl)) rfl ?_; clear F a; intro a F
  refine rl_run F (run_eqi (F.ev rfl) (F.ev rfl)) rfl ?_; clear F a; intro a F
  refine rl_run F (run_move (F.ev rfl)) rfl ?_; clear F a; intro a F
  have hg24 : (decide ((0 : Int) = 0)) = true := (decide_eq_true (by first | omega | decide))
  refine rl_guard_t F rfl rfl rfl hg24 ?_
  refine rl_run F (run_move (F.ev rfl)) rfl ?_; clear F a; intro a F
  refine rl_guard_t F rfl rfl rfl hg24 ?_
  refine rl_run F (run_not (F.ev rfl)) rfl ?_; clear F a; intro a F
  refine rl_run F (run_pick_t (F.ev rfl) hg24 (F.ev rfl)) rfl ?_; clear F a; intro a F
  refine rl_run F (run_move (F.ev rfl)) rfl ?_; clear F a; intro a F
  refine rl_guard_t F rfl rfl rfl rfl ?_
  refine rl_run F (run_move (F.ev rfl)) rfl ?_; clear F a; intro a F
  refine rl_guard_t F rfl rfl rfl rfl ?_
  replace M := M.perm (perm_front _ 1 _ rfl)
  replace M := M.perm (perm_front _ 1 _ rfl)
  change Mem w0 Gz13 (.blk bm1 [.slice (adm22) (nm22) (cm22), .int .i64 (manym22), .int .i64 (tombsm22)] 55 :: .row (.slice (adm22) (nm22) (cm22)) (nm22) (csm22) 58 3 :: L) _ at M
  have hsm25 := putm_spec (v := 1) M hnm22 Em22 Km22 (key := 0) (by first | assumption | exact ⟨by decide, by decide⟩ | exact wrap_ink _ _ | exact in_u64 (by omega) (by omega)) (by first | decide | exact (‹inKind .u64 (0)›).1 | omega) (by first | assumption | exact ⟨by decide, by decide⟩ | exact wrap_ink _ _ | exact in_i64 (by omega) (by omega))
  rw [show putF ([⟨9, 90⟩] : List PairD) 0 1 = (([⟨9, 90⟩] : List PairD), 9) from rfl] at hsm25
  refine rl_callL F ent14 rfl rfl (hsm25) ?_; clear F M a; rintro _ _ w a M ⟨⟨adm25, nm25, cm25, manym25, tombsm25, csm25, sm25, rfl, hnm25, Em25, Km25⟩, rfl⟩ F
  clear hsm25
  have hmm25 : manym25 = 1 := Km25.many
  replace Km25 := Km25.more (show max 6 ([⟨9, 90⟩] : List PairD).length ≤ 6 by decide)
  refine rl_guard_t F rfl rfl rfl rfl ?_
  refine rl_run F (run_eqi (F.ev rfl) (F.ev rfl)) rfl ?_; clear F a; intro a F
  refine rl_run F (run_pick_t (F.ev rfl) rfl (F.ev rfl)) rfl ?_; clear F a; intro a F
  refine rl_run F (run_assign (F.ev rfl)) rfl ?_; clear F a; intro a F
  refine rl_nil ?_
  refine q_tn ?_
  refine wp_ret ?_
  refine fin1 F rfl rfl ?_
  exact ⟨_, by first | assumption | exact Gle.refl _, M.weaken (.cons _ (.cons _ (List.Sublist.refl _))), rfl⟩

theorem lives_spec {w0 w : World} {G : Ghost} {L : List Res} (M : Mem w0 G L w) : Calls Try.prog 9 #[] w (RetS w0 G L fun v => v = .bool true) := Ret.plain M (lives_ret M)

end Go.Proofs.Ytnloilnlehgngaa
