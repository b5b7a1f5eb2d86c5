/- The walks, part A. -/
import Derived.Test.YtokeofoemjeleaaDoorTab
import Derived.Test.YtokeofoemjeleaaDoorWid
namespace Go.Proofs.YtokeofoemjeleaaDoor
open Go Go.Y Go.Proofs
set_option linter.unusedSimpArgs false
set_option linter.unusedVariables false
theorem mixed_spec {w0 w : World} {G : Ghost} {L : List Res} (M : Mem w0 G L w) {x : Int} : Calls Tryd.prog 53 #[.int .u64 x] w (RetS w0 G L fun v => v = .int .u64 (mix x)) := by
  have h : Calls Tryd.prog 53 #[.int .u64 x] w fun e w' => e = .returned (.int .u64 (mix x)) ∧ w = w' := by
    go_enter Tryd.func53, Tryd.ntmps53
    go_wp2
    go_ret
    exact ⟨rfl, rfl⟩
  exact h.mono fun e w' ⟨he, hw⟩ => by subst he; subst hw; exact ⟨M, rfl⟩

theorem look_spec {w0 w : World} {G : Ghost} {L : List Res} {n : Nat} {b : Nat} {ad : Option Addr} {c : Nat} {many tombs : Int} {cs : List Value} {s : List SlotD} {key : Int} (M : Mem w0 G (.blk b [.slice ad n c, .int .i64 many, .int .i64 tombs] 93 :: .row (.slice ad n c) n cs 95 3 :: L) w) (hn : n = s.length) (E : Els rdSlot 3 G cs s) (h0 : 0 < s.length) (hlen : s.length ≤ 1000000) (hp : PI s) (hf : HasFree s) :
    Calls Tryd.prog 43 #[.pointer (some ⟨b, 0, none⟩), .int .u64 key] w (RetS w0 G (.blk b [.slice ad n c, .int .i64 many, .int .i64 tombs] 93 :: .row (.slice ad n c) n cs 95 3 :: L) fun v => ∃ (p : Nat) (f : Bool), v = .tuple #[.int .i64 (p : Int), .bool f] ∧ LookR s key p f) := by
  subst hn
  refine calls_start (vs := [_, _]) Tryd.func43 rfl (n := 67) rfl rfl ?_
  intro a F
  refine wp_seq ?_
  refine w_reg ?_
  refine rl_run F (run_assign (F.ev rfl)) rfl ?_; clear F a; intro a F
  refine rl_run F (run_assign (F.ev rfl)) rfl ?_; clear F a; intro a F
  refine rl_nil ?_
  refine q_tn ?_
  refine w_scopeL 0 (fun m a' w' => ∃ (d : Nat), ∃ (gr : Int), m = s.length - d ∧ Fits 67 a' [(0, .pointer (some ⟨b, 0, none⟩)), (1, .int .u64 (key)), (4, .int .i64 ((((home s.length key + d) % s.length : Nat) : Int))), (6, .int .i64 (gr))] ∧ Mem w0 G (.blk b [.slice (ad) (s.length) (c), .int .i64 (many), .int .i64 (tombs)] 93 :: .row (.slice (ad) (s.length) (c)) (s.length) (cs) 95 3 :: L) w' ∧ (Vis s key d gr)) rfl ?_ ?_
  · clear F M
    rintro m a w ⟨d, gr, rfl, F, M, hv⟩
    refine wp_seq ?_
    refine wp_seq ?_
    have hat : (home s.length key + d) % s.length < s.length := Nat.mod_lt _ h0
    refine w_reg ?_
    refine rl_run F (run_move (F.ev rfl)) rfl ?_; clear F a; intro a F
    refine rl_run F (run_nilCheck (F.ev rfl)) rfl ?_; clear F a; intro a F
    refine rl_run F (run_fieldAddr tok93.k rfl rfl (F.ev rfl)) rfl ?_; clear F a; intro a F
    refine rl_run F (run_load1 (agf tok91 rfl) (F.ev rfl) (M.cellL (k := 0) rfl rfl)) rfl ?_; clear F a; intro a F
    refine rl_run F (run_move (F.ev rfl)) rfl ?_; clear F a; intro a F
    obtain ⟨Xe1, hXe1⟩ := get_of_lt (xs := s) (i := (home s.length key + d) % s.length) (by omega)
    obtain ⟨be1, _, Ie1, hme1, _, Ae1, ⟨rfl, hste1, hbe11, hbe12⟩⟩ := M.atRow (k := 1) rfl (by decide) E hXe1
    refine rl_run F (run_indexI tok91.k tok95 (F.ev rfl) (F.ev rfl) (by omega) Ie1) rfl ?_; clear F a; intro a F
    refine rl_run F (run_loadA tok95 rfl (F.ev rfl) (cs := [.int .u8 (Xe1.st), .int .u64 (Xe1.key), .int .i64 (Xe1.v)]) rfl (cellsE Ae1 0 (by omega) rfl)) rfl ?_; clear F a; intro a F
    refine rl_alloc F M tok95 rfl rfl ?_; clear F M a; intro b2 w a M F
    refine rl_storeA F M tok95 (k := 0) rfl rfl rfl (us := [.int .u8 (Xe1.st), .int .u64 (Xe1.key), .int .i64 (Xe1.v)]) rfl rfl (by simp [Value.oneCell']) (by simp) ?_; clear F M a; intro w a M F
    refine rl_nil ?_
    refine q_tn ?_
    refine wp_block ?_
    refine wp_seq ?_
    refine w_reg ?_
    refine rl_run F (run_fieldAddr tok95.k rfl rfl (F.ev rfl)) rfl ?_; clear F a; intro a F
    refine rl_run F (run_load1 (agf tok5 rfl) (F.ev rfl) (M.cellL (k := 0) rfl rfl)) rfl ?_; clear F a; intro a F
    refine rl_run F (run_eqi (F.ev rfl) (F.ev rfl)) rfl ?_; clear F a; intro a F
    refine rl_run F (run_move (F.ev rfl)) rfl ?_; clear F a; intro a F
    rcases Bool.eq_false_or_eq_true (decide (Xe1.st = 1)) with hc | hc
    · skip
      have h4b := hc; clear hc
      have h4 : Xe1.st = 1 := of_decide_eq_true h4b
      refine rl_guard_t F rfl rfl rfl h4b ?_
      refine rl_run F (run_fieldAddr tok95.k rfl rfl (F.ev rfl)) rfl ?_; clear F a; intro a F
      refine rl_guard_t F rfl rfl rfl h4b ?_
      refine rl_run F (run_load1 (agf tok37 rfl) (F.ev rfl) (M.cellL (k := 0) rfl rfl)) rfl ?_; clear F a; intro a F
      refine rl_guard_t F rfl rfl rfl h4b ?_
      refine rl_run F (run_move (F.ev rfl)) rfl ?_; clear F a; intro a F
      refine rl_guard_t F rfl rfl rfl h4b ?_
      refine rl_run F (run_eqi (F.ev rfl) (F.ev rfl)) rfl ?_; clear F a; intro a F
      refine rl_run F (run_pick_t (F.ev rfl) h4b (F.ev rfl)) rfl ?_; clear F a; intro a F
      refine rl_run F (run_assign (F.ev rfl)) rfl ?_; clear F a; intro a F
      refine rl_nil ?_
      refine q_tn ?_
      refine w_cond F rfl ?_ ?_
      · intro hc
        have h5b := hc; clear hc
        have h5 : Xe1.key = key := of_decide_eq_true h5b
        refine wp_seq ?_
        refine w_reg ?_
        refine rl_run F (run_move (F.ev rfl)) rfl ?_; clear F a; intro a F
        refine rl_run F (run_assign (F.ev rfl)) rfl ?_; clear F a; intro a F
        refine rl_run F (run_assign (F.ev rfl)) rfl ?_; clear F a; intro a F
        refine rl_nil ?_
        refine q_tn ?_
        refine wp_ret ?_
        refine q_br ?_
        refine q_tr ?_
        refine q_jr ?_
        refine fin2 F rfl rfl rfl ?_
        exact ⟨(M.weaken (.cons _ (.cons_cons _ (.cons_cons _ (List.Sublist.refl _))))), _, true, rfl, look_hit hXe1 (by omega) (by omega)⟩
      · intro hc
        have h6b := hc; clear hc
        have h6 : ¬ (Xe1.key = key) := of_decide_eq_false h6b
        refine wp_seq ?_
        refine w_reg ?_
        refine rl_run F (run_fieldAddr tok95.k rfl rfl (F.ev rfl)) rfl ?_; clear F a; intro a F
        refine rl_run F (run_load1 (agf tok5 rfl) (F.ev rfl) (M.cellL (k := 0) rfl rfl)) rfl ?_; clear F a; intro a F
        refine rl_run F (run_eqi (F.ev rfl) (F.ev rfl)) rfl ?_; clear F a; intro a F
        refine rl_run F (run_move (F.ev rfl)) rfl ?_; clear F a; intro a F
        refine rl_guard_f F rfl rfl rfl (decide_eq_false (by omega)) ?_; clear F a; intro a F
        refine rl_guard_f F rfl rfl rfl (decide_eq_false (by omega)) ?_; clear F a; intro a F
        refine rl_run F (run_pick_f (F.ev rfl) (decide_eq_false (by omega)) (F.ev rfl)) rfl ?_; clear F a; intro a F
        refine rl_run F (run_assign (F.ev rfl)) rfl ?_; clear F a; intro a F
        refine rl_nil ?_
        refine q_tn ?_
        refine w_cond_f F rfl rfl ?_
        refine wp_seq ?_
        refine w_reg ?_
        refine rl_run F (run_fieldAddr tok95.k rfl rfl (F.ev rfl)) rfl ?_; clear F a; intro a F
        refine rl_run F (run_load1 (agf tok5 rfl) (F.ev rfl) (M.cellL (k := 0) rfl rfl)) rfl ?_; clear F a; intro a F
        refine rl_run F (run_eqi (F.ev rfl) (F.ev rfl)) rfl ?_; clear F a; intro a F
        refine rl_run F (run_assign (F.ev rfl)) rfl ?_; clear F a; intro a F
        refine rl_nil ?_
        refine q_tn ?_
        refine w_cond_f F rfl (decide_eq_false (by omega)) ?_
        refine wp_seq ?_
        refine w_reg ?_
        refine rl_run F (run_fieldAddr tok95.k rfl rfl (F.ev rfl)) rfl ?_; clear F a; intro a F
        refine rl_run F (run_load1 (agf tok5 rfl) (F.ev rfl) (M.cellL (k := 0) rfl rfl)) rfl ?_; clear F a; intro a F
        refine rl_run F (run_eqi (F.ev rfl) (F.ev rfl)) rfl ?_; clear F a; intro a F
        refine rl_run F (run_move (F.ev rfl)) rfl ?_; clear F a; intro a F
        refine rl_guard_f F rfl rfl rfl (decide_eq_false (by omega)) ?_; clear F a; intro a F
        refine rl_guard_f F rfl rfl rfl (decide_eq_false (by omega)) ?_; clear F a; intro a F
        refine rl_run F (run_pick_f (F.ev rfl) (decide_eq_false (by omega)) (F.ev rfl)) rfl ?_; clear F a; intro a F
        refine rl_run F (run_assign (F.ev rfl)) rfl ?_; clear F a; intro a F
        refine rl_nil ?_
        refine q_tn ?_
        refine w_cond_f F rfl rfl ?_
        refine wp_skip ?_
        refine q_bn ?_
        refine q_tn ?_
        refine wp_seq ?_
        have hnx : (home s.length key + (d + 1)) % s.length < s.length := Nat.mod_lt _ h0
        refine w_reg ?_
        refine rl_run F (run_move (F.ev rfl)) rfl ?_; clear F a; intro a F
        refine rl_run F (run_addi (F.ev rfl) (F.ev rfl) (in_i64 (by omega) (by omega))) rfl ?_; clear F a; intro a F
        refine rl_run F (run_move (F.ev rfl)) rfl ?_; clear F a; intro a F
        refine rl_run F (run_nilCheck (F.ev rfl)) rfl ?_; clear F a; intro a F
        refine rl_run F (run_fieldAddr tok93.k rfl rfl (F.ev rfl)) rfl ?_; clear F a; intro a F
        refine rl_run F (run_load1 (agf tok91 rfl) (F.ev rfl) (M.cellL (k := 1) rfl rfl)) rfl ?_; clear F a; intro a F
        refine rl_run F (run_lenSl tok91.k (F.ev rfl)) rfl ?_; clear F a; intro a F
        refine rl_run F (run_remi (F.ev rfl) (F.ev rfl) (by omega) (by omega)) rfl ?_; clear F a; intro a F
        refine rl_run F (run_assign (F.ev rfl)) rfl ?_; clear F a; intro a F
        refine rl_nil ?_
        refine q_tn ?_
        refine wp_goto ?_
        refine q_jg ?_
        rw [at_next] at F
        have hv' := vis_next (gr' := gr) hv hXe1 (by omega) (by omega) (Or.inl rfl)
        exact ⟨_, (by have := vis_lt hv; omega), d + 1, gr, rfl, F.to ⟨rfl, rfl, rfl, rfl, trivial⟩, (M.weaken (.cons _ (.cons_cons _ (.cons_cons _ (List.Sublist.refl _))))), hv'⟩
    · skip
      have h7b := hc; clear hc
      have h7 : ¬ (Xe1.st = 1) := of_decide_eq_false h7b
      refine rl_guard_f F rfl rfl rfl h7b ?_; clear F a; intro a F
      refine rl_guard_f F rfl rfl rfl h7b ?_; clear F a; intro a F
      refine rl_guard_f F rfl rfl rfl h7b ?_; clear F a; intro a F
      refine rl_guard_f F rfl rfl rfl h7b ?_; clear F a; intro a F
      refine rl_run F (run_pick_f (F.ev rfl) h7b (F.ev rfl)) rfl ?_; clear F a; intro a F
      refine rl_run F (run_assign (F.ev rfl)) rfl ?_; clear F a; intro a F
      refine rl_nil ?_
      refine q_tn ?_
      refine w_cond_f F rfl rfl ?_
      refine wp_seq ?_
      refine w_reg ?_
      refine rl_run F (run_fieldAddr tok95.k rfl rfl (F.ev rfl)) rfl ?_; clear F a; intro a F
      refine rl_run F (run_load1 (agf tok5 rfl) (F.ev rfl) (M.cellL (k := 0) rfl rfl)) rfl ?_; clear F a; intro a F
      refine rl_run F (run_eqi (F.ev rfl) (F.ev rfl)) rfl ?_; clear F a; intro a F
      refine rl_run F (run_move (F.ev rfl)) rfl ?_; clear F a; intro a F
      rcases Bool.eq_false_or_eq_true (decide (Xe1.st = 0)) with hc | hc
      · skip
        have h8b := hc; clear hc
        have h8 : Xe1.st = 0 := of_decide_eq_true h8b
        refine rl_guard_t F rfl rfl rfl h8b ?_
        refine rl_run F (run_move (F.ev rfl)) rfl ?_; clear F a; intro a F
        refine rl_guard_t F rfl rfl rfl h8b ?_
        refine rl_run F (run_geq (F.ev rfl) (F.ev rfl)) rfl ?_; clear F a; intro a F
        refine rl_run F (run_pick_t (F.ev rfl) h8b (F.ev rfl)) rfl ?_; clear F a; intro a F
        refine rl_run F (run_assign (F.ev rfl)) rfl ?_; clear F a; intro a F
        refine rl_nil ?_
        refine q_tn ?_
        refine w_cond F rfl ?_ ?_
        · intro hc
          have h9b := hc; clear hc
          have h9 : 0 ≤ gr := of_decide_eq_true h9b
          refine wp_seq ?_
          refine w_reg ?_
          refine rl_run F (run_move (F.ev rfl)) rfl ?_; clear F a; intro a F
          refine rl_run F (run_assign (F.ev rfl)) rfl ?_; clear F a; intro a F
          refine rl_run F (run_assign (F.ev rfl)) rfl ?_; clear F a; intro a F
          refine rl_nil ?_
          refine q_tn ?_
          refine wp_ret ?_
          refine q_br ?_
          refine q_tr ?_
          refine q_jr ?_
          refine fin2 F rfl rfl rfl ?_
          obtain ⟨p, hp1, hp2⟩ := look_grave hp hv hXe1 (by omega) (by omega)
          exact ⟨(M.weaken (.cons _ (.cons_cons _ (.cons_cons _ (List.Sublist.refl _))))), p, false, by rw [hp1], hp2⟩
        · intro hc
          have h10b := hc; clear hc
          have h10 : ¬ (0 ≤ gr) := of_decide_eq_false h10b
          refine wp_seq ?_
          refine w_reg ?_
          refine rl_run F (run_fieldAddr tok95.k rfl rfl (F.ev rfl)) rfl ?_; clear F a; intro a F
          refine rl_run F (run_load1 (agf tok5 rfl) (F.ev rfl) (M.cellL (k := 0) rfl rfl)) rfl ?_; clear F a; intro a F
          refine rl_run F (run_eqi (F.ev rfl) (F.ev rfl)) rfl ?_; clear F a; intro a F
          refine rl_run F (run_assign (F.ev rfl)) rfl ?_; clear F a; intro a F
          refine rl_nil ?_
          refine q_tn ?_
          refine w_cond_t F rfl (decide_eq_true h8) ?_
          refine wp_seq ?_
          refine w_reg ?_
          refine rl_run F (run_move (F.ev rfl)) rfl ?_; clear F a; intro a F
          refine rl_run F (run_assign (F.ev rfl)) rfl ?_; clear F a; intro a F
          refine rl_run F (run_assign (F.ev rfl)) rfl ?_; clear F a; intro a F
          refine rl_nil ?_
          refine q_tn ?_
          refine wp_ret ?_
          refine q_br ?_
          refine q_tr ?_
          refine q_jr ?_
          refine fin2 F rfl rfl rfl ?_
          exact ⟨(M.weaken (.cons _ (.cons_cons _ (.cons_cons _ (List.Sublist.refl _))))), _, false, rfl, look_free hp hv hXe1 (by omega)⟩
      · skip
        have h11b := hc; clear hc
        have h11 : ¬ (Xe1.st = 0) := of_decide_eq_false h11b
        refine rl_guard_f F rfl rfl rfl h11b ?_; clear F a; intro a F
        refine rl_guard_f F rfl rfl rfl h11b ?_; clear F a; intro a F
        refine rl_run F (run_pick_f (F.ev rfl) h11b (F.ev rfl)) rfl ?_; clear F a; intro a F
        refine rl_run F (run_assign (F.ev rfl)) rfl ?_; clear F a; intro a F
        refine rl_nil ?_
        refine q_tn ?_
        refine w_cond_f F rfl rfl ?_
        refine wp_seq ?_
        refine w_reg ?_
        refine rl_run F (run_fieldAddr tok95.k rfl rfl (F.ev rfl)) rfl ?_; clear F a; intro a F
        refine rl_run F (run_load1 (agf tok5 rfl) (F.ev rfl) (M.cellL (k := 0) rfl rfl)) rfl ?_; clear F a; intro a F
        refine rl_run F (run_eqi (F.ev rfl) (F.ev rfl)) rfl ?_; clear F a; intro a F
        refine rl_run F (run_assign (F.ev rfl)) rfl ?_; clear F a; intro a F
        refine rl_nil ?_
        refine q_tn ?_
        refine w_cond_f F rfl (decide_eq_false h11) ?_
        refine wp_seq ?_
        refine w_reg ?_
        refine rl_run F (run_fieldAddr tok95.k rfl rfl (F.ev rfl)) rfl ?_; clear F a; intro a F
        refine rl_run F (run_load1 (agf tok5 rfl) (F.ev rfl) (M.cellL (k := 0) rfl rfl)) rfl ?_; clear F a; intro a F
        refine rl_run F (run_eqi (F.ev rfl) (F.ev rfl)) rfl ?_; clear F a; intro a F
        refine rl_run F (run_move (F.ev rfl)) rfl ?_; clear F a; intro a F
        rcases Bool.eq_false_or_eq_true (decide (Xe1.st = 2)) with hc | hc
        · skip
          have h12b := hc; clear hc
          have h12 : Xe1.st = 2 := of_decide_eq_true h12b
          refine rl_guard_t F rfl rfl rfl h12b ?_
          refine rl_run F (run_move (F.ev rfl)) rfl ?_; clear F a; intro a F
          refine rl_guard_t F rfl rfl rfl h12b ?_
          refine rl_run F (run_lss (F.ev rfl) (F.ev rfl)) rfl ?_; clear F a; intro a F
          refine rl_run F (run_pick_t (F.ev rfl) h12b (F.ev rfl)) rfl ?_; clear F a; intro a F
          refine rl_run F (run_assign (F.ev rfl)) rfl ?_; clear F a; intro a F
          refine rl_nil ?_
          refine q_tn ?_
          refine w_cond F rfl ?_ ?_
          · intro hc
            have h13b := hc; clear hc
            have h13 : gr < 0 := of_decide_eq_true h13b
            refine w_reg ?_
            refine rl_run F (run_move (F.ev rfl)) rfl ?_; clear F a; intro a F
            refine rl_run F (run_assign (F.ev rfl)) rfl ?_; clear F a; intro a F
            refine rl_nil ?_
            refine q_bn ?_
            refine q_tn ?_
            refine wp_seq ?_
            have hnx : (home s.length key + (d + 1)) % s.length < s.length := Nat.mod_lt _ h0
            refine w_reg ?_
            refine rl_run F (run_move (F.ev rfl)) rfl ?_; clear F a; intro a F
            refine rl_run F (run_addi (F.ev rfl) (F.ev rfl) (in_i64 (by omega) (by omega))) rfl ?_; clear F a; intro a F
            refine rl_run F (run_move (F.ev rfl)) rfl ?_; clear F a; intro a F
            refine rl_run F (run_nilCheck (F.ev rfl)) rfl ?_; clear F a; intro a F
            refine rl_run F (run_fieldAddr tok93.k rfl rfl (F.ev rfl)) rfl ?_; clear F a; intro a F
            refine rl_run F (run_load1 (agf tok91 rfl) (F.ev rfl) (M.cellL (k := 1) rfl rfl)) rfl ?_; clear F a; intro a F
            refine rl_run F (run_lenSl tok91.k (F.ev rfl)) rfl ?_; clear F a; intro a F
            refine rl_run F (run_remi (F.ev rfl) (F.ev rfl) (by omega) (by omega)) rfl ?_; clear F a; intro a F
            refine rl_run F (run_assign (F.ev rfl)) rfl ?_; clear F a; intro a F
            refine rl_nil ?_
            refine q_tn ?_
            refine wp_goto ?_
            refine q_jg ?_
            rw [at_next] at F
            have hv' := vis_next (gr' := (((home s.length key + d) % s.length : Nat) : Int)) hv hXe1 (by omega) (by omega) (Or.inr ⟨by omega, rfl⟩)
            exact ⟨_, (by have := vis_lt hv; omega), d + 1, (((home s.length key + d) % s.length : Nat) : Int), rfl, F.to ⟨rfl, rfl, rfl, rfl, trivial⟩, (M.weaken (.cons _ (.cons_cons _ (.cons_cons _ (List.Sublist.refl _))))), hv'⟩
          · intro hc
            have h14b := hc; clear hc
            have h14 : ¬ (gr < 0) := of_decide_eq_false h14b
            refine wp_skip ?_
            refine q_bn ?_
            refine q_tn ?_
            refine wp_seq ?_
            have hnx : (home s.length key + (d + 1)) % s.length < s.length := Nat.mod_lt _ h0
            refine w_reg ?_
            refine rl_run F (run_move (F.ev rfl)) rfl ?_; clear F a; intro a F
            refine rl_run F (run_addi (F.ev rfl) (F.ev rfl) (in_i64 (by omega) (by omega))) rfl ?_; clear F a; intro a F
            refine rl_run F (run_move (F.ev rfl)) rfl ?_; clear F a; intro a F
            refine rl_run F (run_nilCheck (F.ev rfl)) rfl ?_; clear F a; intro a F
            refine rl_run F (run_fieldAddr tok93.k rfl rfl (F.ev rfl)) rfl ?_; clear F a; intro a F
            refine rl_run F (run_load1 (agf tok91 rfl) (F.ev rfl) (M.cellL (k := 1) rfl rfl)) rfl ?_; clear F a; intro a F
            refine rl_run F (run_lenSl tok91.k (F.ev rfl)) rfl ?_; clear F a; intro a F
            refine rl_run F (run_remi (F.ev rfl) (F.ev rfl) (by omega) (by omega)) rfl ?_; clear F a; intro a F
            refine rl_run F (run_assign (F.ev rfl)) rfl ?_; clear F a; intro a F
            refine rl_nil ?_
            refine q_tn ?_
            refine wp_goto ?_
            refine q_jg ?_
            rw [at_next] at F
            have hv' := vis_next (gr' := gr) hv hXe1 (by omega) (by omega) (Or.inl rfl)
            exact ⟨_, (by have := vis_lt hv; omega), d + 1, gr, rfl, F.to ⟨rfl, rfl, rfl, rfl, trivial⟩, (M.weaken (.cons _ (.cons_cons _ (.cons_cons _ (List.Sublist.refl _))))), hv'⟩
        · skip
          have h15b := hc; clear hc
          have h15 : ¬ (Xe1.st = 2) := of_decide_eq_false h15b
          refine rl_guard_f F rfl rfl rfl h15b ?_; clear F a; intro a F
          refine rl_guard_f F rfl rfl rfl h15b ?_; clear F a; intro a F
          refine rl_run F (run_pick_f (F.ev rfl) h15b (F.ev rfl)) rfl ?_; clear F a; intro a F
          refine rl_run F (run_assign (F.ev rfl)) rfl ?_; clear F a; intro a F
          refine rl_nil ?_
          refine q_tn ?_
          refine w_cond_f F rfl rfl ?_
          refine wp_skip ?_
          refine q_bn ?_
          refine q_tn ?_
          refine wp_seq ?_
          have hnx : (home s.length key + (d + 1)) % s.length < s.length := Nat.mod_lt _ h0
          refine w_reg ?_
          refine rl_run F (run_move (F.ev rfl)) rfl ?_; clear F a; intro a F
          refine rl_run F (run_addi (F.ev rfl) (F.ev rfl) (in_i64 (by omega) (by omega))) rfl ?_; clear F a; intro a F
          refine rl_run F (run_move (F.ev rfl)) rfl ?_; clear F a; intro a F
          refine rl_run F (run_nilCheck (F.ev rfl)) rfl ?_; clear F a; intro a F
          refine rl_run F (run_fieldAddr tok93.k rfl rfl (F.ev rfl)) rfl ?_; clear F a; intro a F
          refine rl_run F (run_load1 (agf tok91 rfl) (F.ev rfl) (M.cellL (k := 1) rfl rfl)) rfl ?_; clear F a; intro a F
          refine rl_run F (run_lenSl tok91.k (F.ev rfl)) rfl ?_; clear F a; intro a F
          refine rl_run F (run_remi (F.ev rfl) (F.ev rfl) (by omega) (by omega)) rfl ?_; clear F a; intro a F
          refine rl_run F (run_assign (F.ev rfl)) rfl ?_; clear F a; intro a F
          refine rl_nil ?_
          refine q_tn ?_
          refine wp_goto ?_
          refine q_jg ?_
          rw [at_next] at F
          have hv' := vis_next (gr' := gr) hv hXe1 (by omega) (by omega) (Or.inl rfl)
          exact ⟨_, (by have := vis_lt hv; omega), d + 1, gr, rfl, F.to ⟨rfl, rfl, rfl, rfl, trivial⟩, (M.weaken (.cons _ (.cons_cons _ (.cons_cons _ (List.Sublist.refl _))))), hv'⟩
  · intro hpass
    refine wp_seq ?_
    refine w_reg ?_
    refine rl_run F (run_assign (F.ev rfl)) rfl ?_; clear F a; intro a F
    refine rl_nil ?_
    refine q_tn ?_
    refine wp_seq ?_
    have hm0 := mix_lo key
    have hm1 : 0 ≤ mix key % ((s.length : Nat) : Int) := Int.emod_nonneg _ (by omega)
    have hm2 : mix key % ((s.length : Nat) : Int) < ((s.length : Nat) : Int) := Int.emod_lt_of_pos _ (by omega)
    refine w_plan [(true, 0), (true, 2), (true, 3), (true, 4), (true, 5), (true, 6), (true, 7), (false, 1), (true, 8), (true, 9), (true, 10)] (Keep G [.blk b [.slice (ad) (s.length) (c), .int .i64 (many), .int .i64 (tombs)] 93]) rfl (by kernel_rfl) (fun c a d v w h => by cases d <;> exact h) ((M.drew _).keep (Gle.refl _) (by simp)) ?_
    replace M := M.drew (w.drawn + 1)
    refine pl_run F (fun w M => run_move (F.ev rfl)) rfl ?_; clear F a; intro a F
    refine pl_run F (fun w M => run_move (F.ev rfl)) rfl ?_; clear F a; intro a F
    refine pl_run F (fun w M => run_nilCheck (F.ev rfl)) rfl ?_; clear F a; intro a F
    refine pl_run F (fun w M => run_fieldAddr tok93.k rfl rfl (F.ev rfl)) rfl ?_; clear F a; intro a F
    refine pl_run F (fun w M => run_load1 (agf tok91 rfl) (F.ev rfl) (M.cellL (k := 0) rfl rfl)) rfl ?_; clear F a; intro a F
    refine pl_run F (fun w M => run_lenSl tok91.k (F.ev rfl)) rfl ?_; clear F a; intro a F
    refine pl_run F (fun w M => run_conv_int tok37.k ⟨_, by rw [under_int tok3.k]⟩ (F.ev rfl) (in_u64 (by omega) (by omega))) rfl ?_; clear F a; intro a F
    refine pl_act ?_ rfl
    refine rl_callS F ent53 rfl rfl (mixed_spec M) ?_; clear F M a; rintro _ w a M rfl F
    refine rl_nil ?_
    refine ⟨Keep G [.blk b [.slice (ad) (s.length) (c), .int .i64 (many), .int .i64 (tombs)] 93], M.keep (Gle.refl _) (by simp), fun w h => h.mono (Gle.refl _) (by simp), ?_⟩
    refine pl_run F (fun w M => run_remi (F.ev rfl) (F.ev rfl) (by omega) (by omega)) rfl ?_; clear F a; intro a F
    refine pl_run F (fun w M => run_conv_int tok3.k ⟨_, by rw [under_int tok37.k]⟩ (F.ev rfl) (in_i64 (by omega) (by omega))) rfl ?_; clear F a; intro a F
    refine pl_run F (fun w M => run_assign (F.ev rfl)) rfl ?_; clear F a; intro a F
    refine pl_nil ?_
    refine q_tn ?_
    refine wp_seq ?_
    refine wp_label ?_
    refine q_tn ?_
    rw [at_start] at F
    exact hpass _ _ _ ⟨0, -1, rfl, F.to ⟨rfl, rfl, rfl, rfl, trivial⟩, M, vis_start hf key⟩

/-- The map behind this pointer holds these pairs. -/
def KmIs (b : Nat) (G : Ghost) (ps : List PairD) (most : Nat) (L L' : List Res) : Prop :=
  ∃ ad n c many tombs cs s, L' = (.blk b [.slice ad n c, .int .i64 many, .int .i64 tombs] 93 :: .row (.slice ad n c) n cs 95 3 :: L) ∧ n = s.length ∧ Els rdSlot 3 G cs s ∧ KOK s many tombs ps most

theorem len_spec {w0 w : World} {G : Ghost} {L : List Res} (M : Mem w0 G L w) {b k n : Nat} {ad : Option Addr} {c : Nat} {many tombs : Int} (hk : L[k]? = some (.blk b [.slice ad n c, .int .i64 many, .int .i64 tombs] 93)) :
    Calls Tryd.prog 45 #[.pointer (some ⟨b, 0, none⟩)] w (RetS w0 G L fun v => v = .int .i64 many) := by
  refine calls_start (vs := [_]) Tryd.func45 rfl (n := 9) rfl rfl ?_
  intro a F
  refine wp_seq ?_
  refine w_reg ?_
  refine rl_run F (run_assign (F.ev rfl)) rfl ?_; clear F a; intro a F
  refine rl_nil ?_
  refine q_tn ?_
  refine wp_seq ?_
  refine wp_seq ?_
  refine w_reg ?_
  refine rl_run F (run_move (F.ev rfl)) rfl ?_; clear F a; intro a F
  refine rl_run F (run_eqnil tok62.k (F.ev rfl) (F.ev rfl)) rfl ?_; clear F a; intro a F
  refine rl_nil ?_
  refine q_tn ?_
  refine w_cond_f F rfl rfl ?_
  refine wp_skip ?_
  refine q_tn ?_
  refine wp_seq ?_
  refine w_reg ?_
  refine rl_run F (run_move (F.ev rfl)) rfl ?_; clear F a; intro a F
  refine rl_run F (run_nilCheck (F.ev rfl)) rfl ?_; clear F a; intro a F
  refine rl_run F (run_fieldAddr tok93.k rfl rfl (F.ev rfl)) rfl ?_; clear F a; intro a F
  refine rl_run F (run_load1 (agf tok3 rfl) (F.ev rfl) (M.cellL (k := k) hk rfl)) rfl ?_; clear F a; intro a F
  refine rl_run F (run_assign (F.ev rfl)) rfl ?_; clear F a; intro a F
  refine rl_nil ?_
  refine q_tn ?_
  refine wp_ret ?_
  refine fin1 F rfl rfl ?_
  exact ⟨M, rfl⟩

theorem len_nil {w0 w : World} {G : Ghost} {L : List Res} (M : Mem w0 G L w) : Calls Tryd.prog 45 #[.pointer none] w (RetS w0 G L fun v => v = .int .i64 0) := by
  refine calls_start (vs := [_]) Tryd.func45 rfl (n := 9) rfl rfl ?_
  intro a F
  refine wp_seq ?_
  refine w_reg ?_
  refine rl_run F (run_assign (F.ev rfl)) rfl ?_; clear F a; intro a F
  refine rl_nil ?_
  refine q_tn ?_
  refine wp_seq ?_
  refine wp_seq ?_
  refine w_reg ?_
  refine rl_run F (run_move (F.ev rfl)) rfl ?_; clear F a; intro a F
  refine rl_run F (run_eqnil tok62.k (F.ev rfl) (F.ev rfl)) rfl ?_; clear F a; intro a F
  refine rl_nil ?_
  refine q_tn ?_
  refine w_cond_t F rfl rfl ?_
  refine wp_seq ?_
  refine w_reg ?_
  refine rl_run F (run_assign (F.ev rfl)) rfl ?_; clear F a; intro a F
  refine rl_nil ?_
  refine q_tn ?_
  refine wp_ret ?_
  refine q_tr ?_
  refine fin1 F rfl rfl ?_
  exact ⟨M, rfl⟩

theorem new_spec {w0 w : World} {G : Ghost} {L : List Res} (M : Mem w0 G L w) : Calls Tryd.prog 28 #[] w (RetL w0 G fun L' v => ∃ b, v = .pointer (some ⟨b, 0, none⟩) ∧ KmIs b G [] 0 L L') := by
  refine calls_start (vs := []) Tryd.func28 rfl (n := 3) rfl rfl ?_
  intro a F
  refine wp_seq ?_
  refine w_reg ?_
  refine rl_run F (run_assign (F.ev rfl)) rfl ?_; clear F a; intro a F
  refine rl_nil ?_
  refine q_tn ?_
  refine wp_seq ?_
  refine w_reg ?_
  refine rl_run F (run_buildS (cs := [.slice none (0) (0), .int .i64 (0), .int .i64 (0)]) (ps := []) tok93.k rfl tok93 (F.evp rfl) rfl) rfl ?_; clear F a; intro a F
  refine rl_box F M rfl (cs := [.slice none (0) (0), .int .i64 (0), .int .i64 (0)]) rfl rfl ?_; clear F M a; intro b1 w a M F
  refine rl_run F (run_assign (F.ev rfl)) rfl ?_; clear F a; intro a F
  refine rl_nil ?_
  refine q_tn ?_
  refine wp_ret ?_
  refine fin1 F rfl rfl ?_
  have M := M.nilrow 95 3
  exact ⟨_, M.perm (List.Perm.swap _ _ _), _, rfl, _, _, _, _, _, _, [], rfl, rfl, Els.nil, KOK.nil⟩

end Go.Proofs.YtokeofoemjeleaaDoor
