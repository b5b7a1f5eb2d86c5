/- The walks, part T. -/
import Derived.Test.YtokeofoemjeleaaDoorWalkN
import Derived.Test.YtokeofoemjeleaaDoorChk
namespace Go.Proofs.YtokeofoemjeleaaDoor
open Go Go.Y Go.Proofs
set_option linter.unusedSimpArgs false
set_option linter.unusedVariables false
theorem one_spec {w0 w : World} {G : Ghost} {L : List Res} {n : Nat} {b : Nat} {ad : Option Addr} {c : Nat} {many tombs : Int} {cs : List Value} {s : List SlotD}  (M : Mem w0 G (.blk b [.slice ad n c, .int .i64 many, .int .i64 tombs] 93 :: .row (.slice ad n c) n cs 95 3 :: L) w) (hn : n = s.length) (E : Els rdSlot 3 G cs s) {ps : List PairD} (K : KOK s many tombs ps 4096) (hps : ps.length < 4096) {h : PairD} (hk : inKind .u64 h.key) {least : Int} :
    Calls Tryd.prog 39 #[.agg #[.int .u64 h.key, .int .i64 h.v], .int .i64 least, .pointer (some ⟨b, 0, none⟩)] w (RetL w0 G fun L' v => v = .int .i64 (oneF ps h least) ∧ KmIs b G (if oneF ps h least = 0 then (putF ps h.key 0).1 else ps) 4096 L L') := by
  refine calls_start (vs := [_, _, _]) Tryd.func39 rfl (n := 36) rfl rfl ?_
  intro a F
  refine wp_seq ?_
  refine w_reg ?_
  refine rl_box F M rfl (cs := [.int .u64 (h.key), .int .i64 (h.v)]) rfl rfl ?_; clear F M a; intro b1 w a M F
  refine rl_run F (run_assign (F.ev rfl)) rfl ?_; clear F a; intro a F
  refine rl_nil ?_
  refine q_tn ?_
  refine wp_seq ?_
  refine w_reg ?_
  refine rl_run F (run_move (F.ev rfl)) rfl ?_; clear F a; intro a F
  refine rl_run F (run_fieldAddr tok39.k rfl rfl (F.ev rfl)) rfl ?_; clear F a; intro a F
  refine rl_run F (run_load1 (agf tok37 rfl) (F.ev rfl) (M.cellL (k := 0) rfl rfl)) rfl ?_; clear F a; intro a F
  replace M := M.perm (perm_front _ 2 _ rfl)
  replace M := M.perm (perm_front _ 2 _ rfl)
  change Mem w0 G (.blk b [.slice (ad) (n) (c), .int .i64 (many), .int .i64 (tombs)] 93 :: .row (.slice (ad) (n) (c)) (n) (cs) 95 3 :: .blk b1 [.int .u64 (h.key), .int .i64 (h.v)] 39 :: L) _ at M
  have hsg2 := get_spec (key := h.key) M hn E K
  refine rl_callS F ent30 rfl rfl (hsg2) ?_; clear F M a; rintro _ w a M rfl F
  clear hsg2
  refine rl_run F (run_move (F.ev rfl)) rfl ?_; clear F a; intro a F
  refine rl_run F (run_extract (v := .int .i64 ((getF ps h.key).1)) (F.ev rfl) rfl) rfl ?_; clear F a; intro a F
  refine rl_run F (run_extract (v := .bool ((getF ps h.key).2)) (F.ev rfl) rfl) rfl ?_; clear F a; intro a F
  refine rl_run F (run_assign (F.ev rfl)) rfl ?_; clear F a; intro a F
  refine rl_run F (run_assign (F.ev rfl)) rfl ?_; clear F a; intro a F
  refine rl_nil ?_
  refine q_tn ?_
  refine wp_seq ?_
  refine wp_block ?_
  refine wp_seq ?_
  refine w_reg ?_
  refine rl_run F (run_fieldAddr tok39.k rfl rfl (F.ev rfl)) rfl ?_; clear F a; intro a F
  refine rl_run F (run_load1 (agf tok37 rfl) (F.ev rfl) (M.cellL (k := 2) rfl rfl)) rfl ?_; clear F a; intro a F
  refine rl_run F (run_eqi (F.ev rfl) (F.ev rfl)) rfl ?_; clear F a; intro a F
  refine rl_run F (run_assign (F.ev rfl)) rfl ?_; clear F a; intro a F
  refine rl_nil ?_
  refine q_tn ?_
  refine w_cond F rfl ?_ ?_
  · intro hc
    have h3b := hc; clear hc
    have h3 : h.key = 0 := of_decide_eq_true h3b
    refine wp_seq ?_
    refine w_reg ?_
    refine rl_run F (run_assign (F.ev rfl)) rfl ?_; clear F a; intro a F
    refine rl_nil ?_
    refine q_tn ?_
    refine wp_ret ?_
    refine q_br ?_
    refine q_tr ?_
    refine fin1 F rfl rfl ?_
    replace M := M.perm (perm_front _ 1 _ rfl)
    replace M := M.perm (perm_front _ 1 _ rfl)
    change Mem w0 G (.blk b [.slice (ad) (n) (c), .int .i64 (many), .int .i64 (tombs)] 93 :: .row (.slice (ad) (n) (c)) (n) (cs) 95 3 :: .blk b1 [.int .u64 (h.key), .int .i64 (h.v)] 39 :: L) _ at M
    have ho4 : oneF ps h least = 9 := by unfold oneF; rw [if_pos ‹h.key = 0›]
    exact ⟨_, (M.weaken (.cons_cons _ (.cons_cons _ (.cons _ (List.Sublist.refl _))))), by rw [ho4], _, _, _, _, _, _, _, rfl, hn, E, by rw [ho4]; exact K⟩
  · intro hc
    have h5b := hc; clear hc
    have h5 : ¬ (h.key = 0) := of_decide_eq_false h5b
    refine wp_seq ?_
    refine w_reg ?_
    refine rl_run F (run_fieldAddr tok39.k rfl rfl (F.ev rfl)) rfl ?_; clear F a; intro a F
    refine rl_run F (run_load1 (agf tok2 rfl) (F.ev rfl) (M.cellL (k := 2) rfl rfl)) rfl ?_; clear F a; intro a F
    refine rl_run F (run_move (F.ev rfl)) rfl ?_; clear F a; intro a F
    refine rl_run F (run_lss (F.ev rfl) (F.ev rfl)) rfl ?_; clear F a; intro a F
    refine rl_run F (run_move (F.ev rfl)) rfl ?_; clear F a; intro a F
    rcases Bool.eq_false_or_eq_true (decide (h.v < least)) with hc | hc
    · skip
      have h6b := hc; clear hc
      have h6 : h.v < least := of_decide_eq_true h6b
      refine rl_guard_f F rfl rfl rfl h6b ?_; clear F a; intro a F
      refine rl_guard_f F rfl rfl rfl h6b ?_; clear F a; intro a F
      refine rl_guard_f F rfl rfl rfl h6b ?_; clear F a; intro a F
      refine rl_run F (run_pick_t (F.ev rfl) h6b (F.ev rfl)) rfl ?_; clear F a; intro a F
      refine rl_run F (run_assign (F.ev rfl)) rfl ?_; clear F a; intro a F
      refine rl_nil ?_
      refine q_tn ?_
      refine w_cond_t F rfl rfl ?_
      refine wp_seq ?_
      refine w_reg ?_
      refine rl_run F (run_assign (F.ev rfl)) rfl ?_; clear F a; intro a F
      refine rl_nil ?_
      refine q_tn ?_
      refine wp_ret ?_
      refine q_br ?_
      refine q_tr ?_
      refine fin1 F rfl rfl ?_
      replace M := M.perm (perm_front _ 1 _ rfl)
      replace M := M.perm (perm_front _ 1 _ rfl)
      change Mem w0 G (.blk b [.slice (ad) (n) (c), .int .i64 (many), .int .i64 (tombs)] 93 :: .row (.slice (ad) (n) (c)) (n) (cs) 95 3 :: .blk b1 [.int .u64 (h.key), .int .i64 (h.v)] 39 :: L) _ at M
      have ho7 : oneF ps h least = 12 := by unfold oneF; rw [if_neg ‹¬ (h.key = 0)›, if_pos (by omega)]
      exact ⟨_, (M.weaken (.cons_cons _ (.cons_cons _ (.cons _ (List.Sublist.refl _))))), by rw [ho7], _, _, _, _, _, _, _, rfl, hn, E, by rw [ho7]; exact K⟩
    · skip
      have h8b := hc; clear hc
      have h8 : ¬ (h.v < least) := of_decide_eq_false h8b
      refine rl_guard_t F rfl rfl rfl h8b ?_
      refine rl_run F (run_fieldAddr tok39.k rfl rfl (F.ev rfl)) rfl ?_; clear F a; intro a F
      refine rl_guard_t F rfl rfl rfl h8b ?_
      refine rl_run F (run_load1 (agf tok2 rfl) (F.ev rfl) (M.cellL (k := 2) rfl rfl)) rfl ?_; clear F a; intro a F
      refine rl_guard_t F rfl rfl rfl h8b ?_
      refine rl_run F (run_gtr (F.ev rfl) (F.ev rfl)) rfl ?_; clear F a; intro a F
      refine rl_run F (run_pick_f (F.ev rfl) h8b (F.ev rfl)) rfl ?_; clear F a; intro a F
      refine rl_run F (run_assign (F.ev rfl)) rfl ?_; clear F a; intro a F
      refine rl_nil ?_
      refine q_tn ?_
      refine w_cond F rfl ?_ ?_
      · intro hc
        have h9b := hc; clear hc
        have h9 : 2305843009213693952 < h.v := of_decide_eq_true h9b
        refine wp_seq ?_
        refine w_reg ?_
        refine rl_run F (run_assign (F.ev rfl)) rfl ?_; clear F a; intro a F
        refine rl_nil ?_
        refine q_tn ?_
        refine wp_ret ?_
        refine q_br ?_
        refine q_tr ?_
        refine fin1 F rfl rfl ?_
        replace M := M.perm (perm_front _ 1 _ rfl)
        replace M := M.perm (perm_front _ 1 _ rfl)
        change Mem w0 G (.blk b [.slice (ad) (n) (c), .int .i64 (many), .int .i64 (tombs)] 93 :: .row (.slice (ad) (n) (c)) (n) (cs) 95 3 :: .blk b1 [.int .u64 (h.key), .int .i64 (h.v)] 39 :: L) _ at M
        have ho10 : oneF ps h least = 12 := by unfold oneF; rw [if_neg ‹¬ (h.key = 0)›, if_pos (by omega)]
        exact ⟨_, (M.weaken (.cons_cons _ (.cons_cons _ (.cons _ (List.Sublist.refl _))))), by rw [ho10], _, _, _, _, _, _, _, rfl, hn, E, by rw [ho10]; exact K⟩
      · intro hc
        have h11b := hc; clear hc
        have h11 : ¬ (2305843009213693952 < h.v) := of_decide_eq_false h11b
        refine wp_seq ?_
        refine w_reg ?_
        refine rl_run F (run_move (F.ev rfl)) rfl ?_; clear F a; intro a F
        refine rl_run F (run_assign (F.ev rfl)) rfl ?_; clear F a; intro a F
        refine rl_nil ?_
        refine q_tn ?_
        refine w_cond F rfl ?_ ?_
        · intro hc
          have h12b := hc; clear hc
          have h12 : ((getF ps h.key).2) = true := h12b
          refine wp_seq ?_
          refine w_reg ?_
          refine rl_run F (run_assign (F.ev rfl)) rfl ?_; clear F a; intro a F
          refine rl_nil ?_
          refine q_tn ?_
          refine wp_ret ?_
          refine q_br ?_
          refine q_tr ?_
          refine fin1 F rfl rfl ?_
          replace M := M.perm (perm_front _ 1 _ rfl)
          replace M := M.perm (perm_front _ 1 _ rfl)
          change Mem w0 G (.blk b [.slice (ad) (n) (c), .int .i64 (many), .int .i64 (tombs)] 93 :: .row (.slice (ad) (n) (c)) (n) (cs) 95 3 :: .blk b1 [.int .u64 (h.key), .int .i64 (h.v)] 39 :: L) _ at M
          have ho13 : oneF ps h least = 8 := by unfold oneF; rw [if_neg ‹¬ (h.key = 0)›, if_neg (by omega), if_pos (by assumption)]
          exact ⟨_, (M.weaken (.cons_cons _ (.cons_cons _ (.cons _ (List.Sublist.refl _))))), by rw [ho13], _, _, _, _, _, _, _, rfl, hn, E, by rw [ho13]; exact K⟩
        · intro hc
          have h14b := hc; clear hc
          have h14 : ((getF ps h.key).2) = false := h14b
          refine wp_skip ?_
          refine q_bn ?_
          refine q_tn ?_
          refine wp_seq ?_
          refine w_reg ?_
          refine rl_run F (run_move (F.ev rfl)) rfl ?_; clear F a; intro a F
          refine rl_run F (run_fieldAddr tok39.k rfl rfl (F.ev rfl)) rfl ?_; clear F a; intro a F
          refine rl_run F (run_load1 (agf tok37 rfl) (F.ev rfl) (M.cellL (k := 2) rfl rfl)) rfl ?_; clear F a; intro a F
          replace M := M.perm (perm_front _ 1 _ rfl)
          replace M := M.perm (perm_front _ 1 _ rfl)
          change Mem w0 G (.blk b [.slice (ad) (n) (c), .int .i64 (many), .int .i64 (tombs)] 93 :: .row (.slice (ad) (n) (c)) (n) (cs) 95 3 :: .blk b1 [.int .u64 (h.key), .int .i64 (h.v)] 39 :: L) _ at M
          have hsm15 := putm_spec (v := 0) M hn E K (key := h.key) (by first | assumption | exact ⟨by decide, by decide⟩ | exact wrap_ink _ _ | exact in_u64 (by omega) (by omega)) (by first | decide | exact (‹inKind .u64 (h.key)›).1 | omega) (by first | assumption | exact ⟨by decide, by decide⟩ | exact wrap_ink _ _ | exact in_i64 (by omega) (by omega))
          refine rl_callL F ent29 rfl rfl (hsm15) ?_; clear F M a; rintro _ _ w a M ⟨⟨adm15, nm15, cm15, manym15, tombsm15, csm15, sm15, rfl, hnm15, Em15, Km15⟩, rfl⟩ F
          clear hsm15
          replace Km15 := Km15.more (show max 4096 ((putF ps h.key 0).1).length ≤ 4096 by have h1 := putF_len ps h.key 0; omega)
          refine rl_run F (run_assign (F.ev rfl)) rfl ?_; clear F a; intro a F
          refine rl_nil ?_
          refine q_tn ?_
          refine wp_ret ?_
          refine fin1 F rfl rfl ?_
          replace M := M.perm (perm_front _ 1 _ rfl)
          replace M := M.perm (perm_front _ 1 _ rfl)
          change Mem w0 G (.blk b [.slice (adm15) (nm15) (cm15), .int .i64 (manym15), .int .i64 (tombsm15)] 93 :: .row (.slice (adm15) (nm15) (cm15)) (nm15) (csm15) 95 3 :: .blk b1 [.int .u64 (h.key), .int .i64 (h.v)] 39 :: L) _ at M
          have ho16 : oneF ps h least = 0 := by unfold oneF; rw [if_neg ‹¬ (h.key = 0)›, if_neg (by omega), if_neg (by simp [‹(getF ps h.key).2 = false›])]
          exact ⟨_, (M.weaken (.cons_cons _ (.cons_cons _ (.cons _ (List.Sublist.refl _))))), by rw [ho16, putF_ok ‹¬ (h.key = 0)› hps], _, _, _, _, _, _, _, rfl, hnm15, Em15, by rw [ho16]; exact Km15⟩

theorem fault_spec {w0 w : World} {G : Ghost} {L : List Res} (M : Mem w0 G L w) {ad : Option Addr} {c : Nat} {xs : List PairD} (S : RdSl rdPair 2 G (.slice ad xs.length c) xs) {i : Nat} {X : PairD} (hX : xs[i]? = some X) (hxl : xs.length ≤ 9223372036854775807) {least : Int} :
    Calls Tryd.prog 25 #[.slice ad xs.length c, .int .i64 (i : Int), .int .i64 least] w (RetS w0 G L fun v => v = .int .i64 (faultF xs i least)) := by
  have hil := lt_of_get hX
  refine calls_start (vs := [_, _, _]) Tryd.func25 rfl (n := 45) rfl rfl ?_
  intro a F
  refine wp_seq ?_
  refine w_reg ?_
  refine rl_run F (run_assign (F.ev rfl)) rfl ?_; clear F a; intro a F
  refine rl_nil ?_
  refine q_tn ?_
  refine wp_seq ?_
  refine wp_seq ?_
  refine w_reg ?_
  refine rl_run F (run_move (F.ev rfl)) rfl ?_; clear F a; intro a F
  refine rl_run F (run_move (F.ev rfl)) rfl ?_; clear F a; intro a F
  obtain ⟨be1, oe1, _, Ie1, _, Ae1, ⟨rfl, hbe11, hbe12⟩⟩ := S.at hX
  refine rl_run F (run_indexI tok22.k tok39 (F.ev rfl) (F.ev rfl) (by omega) Ie1) rfl ?_; clear F a; intro a F
  refine rl_run F (run_fieldAddr tok39.k rfl rfl (F.ev rfl)) rfl ?_; clear F a; intro a F
  refine rl_run F (run_load1 (agf tok37 rfl) (F.ev rfl) (M.cellA Ae1 0 rfl rfl)) rfl ?_; clear F a; intro a F
  refine rl_run F (run_eqi (F.ev rfl) (F.ev rfl)) rfl ?_; clear F a; intro a F
  refine rl_nil ?_
  refine q_tn ?_
  refine w_cond F rfl ?_ ?_
  · intro hc
    have h2b := hc; clear hc
    have h2 : X.key = 0 := of_decide_eq_true h2b
    refine wp_seq ?_
    refine w_reg ?_
    refine rl_run F (run_assign (F.ev rfl)) rfl ?_; clear F a; intro a F
    refine rl_nil ?_
    refine q_tn ?_
    refine wp_ret ?_
    refine q_tr ?_
    refine fin1 F rfl rfl ?_
    exact ⟨M, by unfold faultF; simp only [hX]; rw [if_pos ‹X.key = 0›]⟩
  · intro hc
    have h3b := hc; clear hc
    have h3 : ¬ (X.key = 0) := of_decide_eq_false h3b
    refine wp_skip ?_
    refine q_tn ?_
    refine wp_seq ?_
    refine wp_seq ?_
    refine w_reg ?_
    refine rl_run F (run_move (F.ev rfl)) rfl ?_; clear F a; intro a F
    refine rl_run F (run_move (F.ev rfl)) rfl ?_; clear F a; intro a F
    obtain ⟨be4, oe4, _, Ie4, _, Ae4, ⟨rfl, hbe41, hbe42⟩⟩ := S.at hX
    refine rl_run F (run_indexI tok22.k tok39 (F.ev rfl) (F.ev rfl) (by omega) Ie4) rfl ?_; clear F a; intro a F
    refine rl_run F (run_fieldAddr tok39.k rfl rfl (F.ev rfl)) rfl ?_; clear F a; intro a F
    refine rl_run F (run_load1 (agf tok2 rfl) (F.ev rfl) (M.cellA Ae4 1 rfl rfl)) rfl ?_; clear F a; intro a F
    refine rl_run F (run_move (F.ev rfl)) rfl ?_; clear F a; intro a F
    refine rl_run F (run_lss (F.ev rfl) (F.ev rfl)) rfl ?_; clear F a; intro a F
    refine rl_run F (run_move (F.ev rfl)) rfl ?_; clear F a; intro a F
    rcases Bool.eq_false_or_eq_true (decide (X.v < least)) with hc | hc
    · skip
      have h5b := hc; clear hc
      have h5 : X.v < least := of_decide_eq_true h5b
      refine rl_guard_f F rfl rfl rfl h5b ?_; clear F a; intro a F
      refine rl_guard_f F rfl rfl rfl h5b ?_; clear F a; intro a F
      refine rl_guard_f F rfl rfl rfl h5b ?_; clear F a; intro a F
      refine rl_guard_f F rfl rfl rfl h5b ?_; clear F a; intro a F
      refine rl_guard_f F rfl rfl rfl h5b ?_; clear F a; intro a F
      refine rl_guard_f F rfl rfl rfl h5b ?_; clear F a; intro a F
      refine rl_run F (run_pick_t (F.ev rfl) h5b (F.ev rfl)) rfl ?_; clear F a; intro a F
      refine rl_nil ?_
      refine q_tn ?_
      refine w_cond_t F rfl rfl ?_
      refine wp_seq ?_
      refine w_reg ?_
      refine rl_run F (run_assign (F.ev rfl)) rfl ?_; clear F a; intro a F
      refine rl_nil ?_
      refine q_tn ?_
      refine wp_ret ?_
      refine q_tr ?_
      refine fin1 F rfl rfl ?_
      exact ⟨M, by unfold faultF; simp only [hX]; rw [if_neg ‹¬ (X.key = 0)›, if_pos (by omega)]⟩
    · skip
      have h6b := hc; clear hc
      have h6 : ¬ (X.v < least) := of_decide_eq_false h6b
      refine rl_guard_t F rfl rfl rfl h6b ?_
      refine rl_run F (run_move (F.ev rfl)) rfl ?_; clear F a; intro a F
      refine rl_guard_t F rfl rfl rfl h6b ?_
      refine rl_run F (run_move (F.ev rfl)) rfl ?_; clear F a; intro a F
      refine rl_guard_t F rfl rfl rfl h6b ?_
      obtain ⟨be7, oe7, _, Ie7, _, Ae7, ⟨rfl, hbe71, hbe72⟩⟩ := S.at hX
      refine rl_run F (run_indexI tok22.k tok39 (F.ev rfl) (F.ev rfl) (by omega) Ie7) rfl ?_; clear F a; intro a F
      refine rl_guard_t F rfl rfl rfl h6b ?_
      refine rl_run F (run_fieldAddr tok39.k rfl rfl (F.ev rfl)) rfl ?_; clear F a; intro a F
      refine rl_guard_t F rfl rfl rfl h6b ?_
      refine rl_run F (run_load1 (agf tok2 rfl) (F.ev rfl) (M.cellA Ae7 1 rfl rfl)) rfl ?_; clear F a; intro a F
      refine rl_guard_t F rfl rfl rfl h6b ?_
      refine rl_run F (run_gtr (F.ev rfl) (F.ev rfl)) rfl ?_; clear F a; intro a F
      refine rl_run F (run_pick_f (F.ev rfl) h6b (F.ev rfl)) rfl ?_; clear F a; intro a F
      refine rl_nil ?_
      refine q_tn ?_
      refine w_cond F rfl ?_ ?_
      · intro hc
        have h8b := hc; clear hc
        have h8 : 2305843009213693952 < X.v := of_decide_eq_true h8b
        refine wp_seq ?_
        refine w_reg ?_
        refine rl_run F (run_assign (F.ev rfl)) rfl ?_; clear F a; intro a F
        refine rl_nil ?_
        refine q_tn ?_
        refine wp_ret ?_
        refine q_tr ?_
        refine fin1 F rfl rfl ?_
        exact ⟨M, by unfold faultF; simp only [hX]; rw [if_neg ‹¬ (X.key = 0)›, if_pos (by omega)]⟩
      · intro hc
        have h9b := hc; clear hc
        have h9 : ¬ (2305843009213693952 < X.v) := of_decide_eq_false h9b
        refine wp_skip ?_
        refine q_tn ?_
        refine wp_seq ?_
        refine wp_seq ?_
        refine w_reg ?_
        refine rl_run F (run_assign (F.ev rfl)) rfl ?_; clear F a; intro a F
        refine rl_nil ?_
        refine q_tn ?_
        refine wp_block ?_
        refine w_loopN (fun m a' w' => ∃ (k : Nat), m = i - k ∧ Fits 45 a' [(0, .slice (ad) (xs.length) (c)), (1, .int .i64 ((i : Int))), (7, .int .i64 (((k : Nat) : Int)))] ∧ Mem w0 G (L) w' ∧ (k ≤ i) ∧ (∀ (m : Nat) (Y : PairD), m < k → xs[m]? = some Y → Y.key ≠ X.key)) _ ⟨0, rfl, F.to ⟨rfl, rfl, rfl, trivial⟩, M, Nat.zero_le _, fun m Y h => by omega⟩ ?_
        clear F M
        rintro m a w ⟨k, rfl, F, M, hk, hinv⟩
        refine wp_seq ?_
        refine wp_seq ?_
        refine w_reg ?_
        refine rl_run F (run_move (F.ev rfl)) rfl ?_; clear F a; intro a F
        refine rl_run F (run_move (F.ev rfl)) rfl ?_; clear F a; intro a F
        refine rl_run F (run_lss (F.ev rfl) (F.ev rfl)) rfl ?_; clear F a; intro a F
        refine rl_nil ?_
        refine q_tn ?_
        refine w_cond F rfl ?_ ?_
        · intro hc
          have h10b := hc; clear hc
          have h10 : ((k : Nat) : Int) < (i : Int) := of_decide_eq_true h10b
          refine wp_skip ?_
          refine q_tn ?_
          refine wp_seq ?_
          refine wp_block ?_
          refine wp_seq ?_
          refine w_plan [(true, 0), (true, 1), (true, 2), (true, 3), (true, 4), (true, 5), (true, 6), (true, 7), (true, 8), (true, 9), (true, 10)] (Keep G []) rfl (by kernel_rfl) (fun c a d v w h => by cases d <;> exact h) ((M.drew _).keep (Gle.refl _) (by simp)) ?_
          replace M := M.drew (w.drawn + 1)
          refine pl_run F (fun w M => run_move (F.ev rfl)) rfl ?_; clear F a; intro a F
          refine pl_run F (fun w M => run_move (F.ev rfl)) rfl ?_; clear F a; intro a F
          obtain ⟨Xe11, hXe11⟩ := get_of_lt (xs := xs) (i := k) (by omega)
          obtain ⟨be11, oe11, _, Ie11, _, Ae11, ⟨rfl, hbe111, hbe112⟩⟩ := S.at hXe11
          refine pl_run F (fun w M => run_indexI tok22.k tok39 (F.ev rfl) (F.ev rfl) (by omega) Ie11) rfl ?_; clear F a; intro a F
          refine pl_run F (fun w M => run_fieldAddr tok39.k rfl rfl (F.ev rfl)) rfl ?_; clear F a; intro a F
          refine pl_run F (fun w M => run_load1 (agf tok37 rfl) (F.ev rfl) (M.cellA Ae11 0 rfl rfl)) rfl ?_; clear F a; intro a F
          refine pl_run F (fun w M => run_move (F.ev rfl)) rfl ?_; clear F a; intro a F
          refine pl_run F (fun w M => run_move (F.ev rfl)) rfl ?_; clear F a; intro a F
          obtain ⟨be12, oe12, _, Ie12, _, Ae12, ⟨rfl, hbe121, hbe122⟩⟩ := S.at hX
          refine pl_run F (fun w M => run_indexI tok22.k tok39 (F.ev rfl) (F.ev rfl) (by omega) Ie12) rfl ?_; clear F a; intro a F
          refine pl_run F (fun w M => run_fieldAddr tok39.k rfl rfl (F.ev rfl)) rfl ?_; clear F a; intro a F
          refine pl_run F (fun w M => run_load1 (agf tok37 rfl) (F.ev rfl) (M.cellA Ae12 0 rfl rfl)) rfl ?_; clear F a; intro a F
          refine pl_run F (fun w M => run_eqi (F.ev rfl) (F.ev rfl)) rfl ?_; clear F a; intro a F
          refine pl_nil ?_
          generalize ({ w with drawn := w.drawn + 1 } : World) = w at M ⊢
          refine q_tn ?_
          refine w_cond F rfl ?_ ?_
          · intro hc
            have h13b := hc; clear hc
            have h13 : Xe11.key = X.key := of_decide_eq_true h13b
            refine wp_seq ?_
            refine w_reg ?_
            refine rl_run F (run_assign (F.ev rfl)) rfl ?_; clear F a; intro a F
            refine rl_nil ?_
            refine q_tn ?_
            refine wp_ret ?_
            refine q_br ?_
            refine q_tr ?_
            refine q_tr ?_
            refine q_br ?_
            refine q_tr ?_
            refine fin1 F rfl rfl ?_
            exact ⟨M, by unfold faultF; simp only [hX]; rw [if_neg ‹¬ (X.key = 0)›, if_neg (by omega), if_pos (any_take hX hXe11 (by omega) (by assumption))]⟩
          · intro hc
            have h14b := hc; clear hc
            have h14 : ¬ (Xe11.key = X.key) := of_decide_eq_false h14b
            refine wp_skip ?_
            refine q_bn ?_
            refine q_tn ?_
            refine w_reg ?_
            refine rl_run F (run_move (F.ev rfl)) rfl ?_; clear F a; intro a F
            refine rl_run F (run_addi (F.ev rfl) (F.ev rfl) (in_i64 (by omega) (by omega))) rfl ?_; clear F a; intro a F
            refine rl_run F (run_assign (F.ev rfl)) rfl ?_; clear F a; intro a F
            refine rl_nil ?_
            refine q_tn ?_
            exact ⟨_, by omega, k + 1, rfl, F.to ⟨rfl, rfl, rfl, trivial⟩, M, by omega, none_step hinv hXe11 (by assumption)⟩
        · intro hc
          have h15b := hc; clear hc
          have h15 : ¬ (((k : Nat) : Int) < (i : Int)) := of_decide_eq_false h15b
          refine wp_exit ?_
          refine q_te ?_
          refine q_te ?_
          refine q_bh ?_
          refine q_tn ?_
          refine wp_seq ?_
          refine w_reg ?_
          refine rl_run F (run_assign (F.ev rfl)) rfl ?_; clear F a; intro a F
          refine rl_nil ?_
          refine q_tn ?_
          refine wp_ret ?_
          refine fin1 F rfl rfl ?_
          exact ⟨M, by unfold faultF; simp only [hX]; rw [if_neg ‹¬ (X.key = 0)›, if_neg (by omega), if_neg (by rw [Bool.not_eq_true]; exact none_take hinv (by omega))]⟩

theorem rcheck_spec {w0 w : World} {G : Ghost} {L : List Res} (M : Mem w0 G L w) {ad : Option Addr} {c : Nat} {xs : List PairD} (S : RdSl rdPair 2 G (.slice ad xs.length c) xs) (hxl : xs.length ≤ 9223372036854775807) {least : Int} :
    Calls Tryd.prog 11 #[.slice ad xs.length c, .int .i64 least] w (RetS w0 G L fun v => v = .tuple #[.int .i64 ((checkF xs least).1 : Nat), .int .i64 (checkF xs least).2]) := by
  refine calls_start (vs := [_, _]) Tryd.func11 rfl (n := 31) rfl rfl ?_
  intro a F
  refine wp_seq ?_
  refine w_reg ?_
  refine rl_run F (run_assign (F.ev rfl)) rfl ?_; clear F a; intro a F
  refine rl_run F (run_assign (F.ev rfl)) rfl ?_; clear F a; intro a F
  refine rl_nil ?_
  refine q_tn ?_
  refine wp_seq ?_
  refine wp_seq ?_
  refine w_reg ?_
  refine rl_run F (run_move (F.ev rfl)) rfl ?_; clear F a; intro a F
  refine rl_run F (run_lss (F.ev rfl) (F.ev rfl)) rfl ?_; clear F a; intro a F
  refine rl_run F (run_move (F.ev rfl)) rfl ?_; clear F a; intro a F
  rcases Bool.eq_false_or_eq_true (decide (least < 1)) with hc | hc
  · skip
    have h1b := hc; clear hc
    have h1 : least < 1 := of_decide_eq_true h1b
    refine rl_guard_f F rfl rfl rfl h1b ?_; clear F a; intro a F
    refine rl_guard_f F rfl rfl rfl h1b ?_; clear F a; intro a F
    refine rl_run F (run_pick_t (F.ev rfl) h1b (F.ev rfl)) rfl ?_; clear F a; intro a F
    refine rl_nil ?_
    refine q_tn ?_
    refine w_cond_t F rfl rfl ?_
    refine wp_seq ?_
    refine w_reg ?_
    refine rl_run F (run_assign (F.ev rfl)) rfl ?_; clear F a; intro a F
    refine rl_run F (run_assign (F.ev rfl)) rfl ?_; clear F a; intro a F
    refine rl_nil ?_
    refine q_tn ?_
    refine wp_ret ?_
    refine q_tr ?_
    refine fin2 F rfl rfl rfl ?_
    exact ⟨M, by rw [checkF_bad (by omega)]; rfl⟩
  · skip
    have h2b := hc; clear hc
    have h2 : ¬ (least < 1) := of_decide_eq_false h2b
    refine rl_guard_t F rfl rfl rfl h2b ?_
    refine rl_run F (run_move (F.ev rfl)) rfl ?_; clear F a; intro a F
    refine rl_guard_t F rfl rfl rfl h2b ?_
    refine rl_run F (run_gtr (F.ev rfl) (F.ev rfl)) rfl ?_; clear F a; intro a F
    refine rl_run F (run_pick_f (F.ev rfl) h2b (F.ev rfl)) rfl ?_; clear F a; intro a F
    refine rl_nil ?_
    refine q_tn ?_
    refine w_cond F rfl ?_ ?_
    · intro hc
      have h3b := hc; clear hc
      have h3 : 2305843009213693952 < least := of_decide_eq_true h3b
      refine wp_seq ?_
      refine w_reg ?_
      refine rl_run F (run_assign (F.ev rfl)) rfl ?_; clear F a; intro a F
      refine rl_run F (run_assign (F.ev rfl)) rfl ?_; clear F a; intro a F
      refine rl_nil ?_
      refine q_tn ?_
      refine wp_ret ?_
      refine q_tr ?_
      refine fin2 F rfl rfl rfl ?_
      exact ⟨M, by rw [checkF_bad (by omega)]; rfl⟩
    · intro hc
      have h4b := hc; clear hc
      have h4 : ¬ (2305843009213693952 < least) := of_decide_eq_false h4b
      refine wp_skip ?_
      refine q_tn ?_
      refine wp_seq ?_
      refine wp_seq ?_
      refine w_reg ?_
      refine rl_run F (run_move (F.ev rfl)) rfl ?_; clear F a; intro a F
      refine rl_run F (run_lenSl tok22.k (F.ev rfl)) rfl ?_; clear F a; intro a F
      refine rl_run F (run_gtr (F.ev rfl) (F.ev rfl)) rfl ?_; clear F a; intro a F
      refine rl_nil ?_
      refine q_tn ?_
      refine w_cond F rfl ?_ ?_
      · intro hc
        have h5b := hc; clear hc
        have h5 : 256 < ((xs.length : Nat) : Int) := of_decide_eq_true h5b
        refine wp_seq ?_
        refine w_reg ?_
        refine rl_run F (run_assign (F.ev rfl)) rfl ?_; clear F a; intro a F
        refine rl_run F (run_assign (F.ev rfl)) rfl ?_; clear F a; intro a F
        refine rl_nil ?_
        refine q_tn ?_
        refine wp_ret ?_
        refine q_tr ?_
        refine fin2 F rfl rfl rfl ?_
        exact ⟨M, by rw [checkF_long (by omega) (by omega)]; rfl⟩
      · intro hc
        have h6b := hc; clear hc
        have h6 : ¬ (256 < ((xs.length : Nat) : Int)) := of_decide_eq_false h6b
        refine wp_skip ?_
        refine q_tn ?_
        refine wp_seq ?_
        refine wp_seq ?_
        refine w_reg ?_
        refine rl_run F (run_assign (F.ev rfl)) rfl ?_; clear F a; intro a F
        refine rl_nil ?_
        refine q_tn ?_
        refine wp_block ?_
        refine w_loopN (fun m a' w' => ∃ (i : Nat), m = xs.length - i ∧ Fits 31 a' [(0, .slice (ad) (xs.length) (c)), (1, .int .i64 (least)), (6, .int .i64 (((i : Nat) : Int)))] ∧ Mem w0 G (L) w' ∧ (i ≤ xs.length) ∧ (ffF xs least 0 xs.length = ffF xs least i (xs.length - i))) _ ⟨0, rfl, F.to ⟨rfl, rfl, rfl, trivial⟩, M, Nat.zero_le _, rfl⟩ ?_
        clear F M
        rintro m a w ⟨i, rfl, F, M, hi, hinv⟩
        refine wp_seq ?_
        refine wp_seq ?_
        refine w_reg ?_
        refine rl_run F (run_move (F.ev rfl)) rfl ?_; clear F a; intro a F
        refine rl_run F (run_move (F.ev rfl)) rfl ?_; clear F a; intro a F
        refine rl_run F (run_lenSl tok22.k (F.ev rfl)) rfl ?_; clear F a; intro a F
        refine rl_run F (run_lss (F.ev rfl) (F.ev rfl)) rfl ?_; clear F a; intro a F
        refine rl_nil ?_
        refine q_tn ?_
        refine w_cond F rfl ?_ ?_
        · intro hc
          have h7b := hc; clear hc
          have h7 : ((i : Nat) : Int) < ((xs.length : Nat) : Int) := of_decide_eq_true h7b
          refine wp_skip ?_
          refine q_tn ?_
          refine wp_seq ?_
          refine wp_block ?_
          refine wp_seq ?_
          obtain ⟨X, hX⟩ := get_of_lt (xs := xs) (i := i) (by omega)
          refine w_reg ?_
          refine rl_run F (run_move (F.ev rfl)) rfl ?_; clear F a; intro a F
          refine rl_run F (run_move (F.ev rfl)) rfl ?_; clear F a; intro a F
          refine rl_run F (run_move (F.ev rfl)) rfl ?_; clear F a; intro a F
          refine rl_callS F ent25 rfl rfl (fault_spec (i := i) (least := least) M S hX (by omega)) ?_; clear F M a; rintro _ w a M rfl F
          refine rl_run F (run_assign (F.ev rfl)) rfl ?_; clear F a; intro a F
          refine rl_nil ?_
          refine q_tn ?_
          refine wp_seq ?_
          refine w_reg ?_
          refine rl_run F (run_move (F.ev rfl)) rfl ?_; clear F a; intro a F
          refine rl_run F (run_nei (F.ev rfl) (F.ev rfl)) rfl ?_; clear F a; intro a F
          refine rl_nil ?_
          refine q_tn ?_
          refine w_cond F rfl ?_ ?_
          · intro hc
            have h8b := hc; clear hc
            have h8 : ¬ (faultF xs i least = 0) := of_decide_eq_false (of_not_t h8b)
            have h8c : (decide (faultF xs i least = 0)) = false := (of_not_t h8b)
            refine wp_seq ?_
            refine w_reg ?_
            refine rl_run F (run_move (F.ev rfl)) rfl ?_; clear F a; intro a F
            refine rl_run F (run_move (F.ev rfl)) rfl ?_; clear F a; intro a F
            refine rl_run F (run_assign (F.ev rfl)) rfl ?_; clear F a; intro a F
            refine rl_run F (run_assign (F.ev rfl)) rfl ?_; clear F a; intro a F
            refine rl_nil ?_
            refine q_tn ?_
            refine wp_ret ?_
            refine q_br ?_
            refine q_tr ?_
            refine q_tr ?_
            refine q_br ?_
            refine q_tr ?_
            refine fin2 F rfl rfl rfl ?_
            exact ⟨M, by rw [checkF_ff (by omega) (by omega), (ffF_step hinv (by omega)).2 (by assumption)]⟩
          · intro hc
            have h9b := hc; clear hc
            have h9 : faultF xs i least = 0 := of_decide_eq_true (of_not_f h9b)
            have h9c : (decide (faultF xs i least = 0)) = true := (of_not_f h9b)
            refine wp_skip ?_
            refine q_bn ?_
            refine q_tn ?_
            refine w_reg ?_
            refine rl_run F (run_move (F.ev rfl)) rfl ?_; clear F a; intro a F
            refine rl_run F (run_addi (F.ev rfl) (F.ev rfl) (in_i64 (by omega) (by omega))) rfl ?_; clear F a; intro a F
            refine rl_run F (run_assign (F.ev rfl)) rfl ?_; clear F a; intro a F
            refine rl_nil ?_
            refine q_tn ?_
            exact ⟨_, by omega, i + 1, rfl, F.to ⟨rfl, rfl, rfl, trivial⟩, M, by omega, (ffF_step hinv (by omega)).1 (by omega)⟩
        · intro hc
          have h10b := hc; clear hc
          have h10 : ¬ (((i : Nat) : Int) < ((xs.length : Nat) : Int)) := of_decide_eq_false h10b
          refine wp_exit ?_
          refine q_te ?_
          refine q_te ?_
          refine q_bh ?_
          refine q_tn ?_
          refine wp_seq ?_
          refine w_reg ?_
          refine rl_run F (run_assign (F.ev rfl)) rfl ?_; clear F a; intro a F
          refine rl_run F (run_assign (F.ev rfl)) rfl ?_; clear F a; intro a F
          refine rl_nil ?_
          refine q_tn ?_
          refine wp_ret ?_
          refine fin2 F rfl rfl rfl ?_
          exact ⟨M, by rw [checkF_ff (by omega) (by omega), ffF_end hinv (by omega)]; rfl⟩

theorem check_spec {w0 w : World} {G : Ghost} {L : List Res} (M : Mem w0 G L w) {ad : Option Addr} {c : Nat} {xs : List PairD} (S : RdSl rdPair 2 G (.slice ad xs.length c) xs) (hxl : xs.length ≤ 9223372036854775807) {least : Int} :
    Calls Tryd.prog 26 #[.slice ad xs.length c, .int .i64 least] w (RetS w0 G L fun v => v = .tuple #[.int .i64 ((checkF xs least).1 : Nat), .int .i64 (checkF xs least).2]) := by
  refine calls_start (vs := [_, _]) Tryd.func26 rfl (n := 38) rfl rfl ?_
  intro a F
  refine wp_seq ?_
  refine w_reg ?_
  refine rl_run F (run_assign (F.ev rfl)) rfl ?_; clear F a; intro a F
  refine rl_run F (run_assign (F.ev rfl)) rfl ?_; clear F a; intro a F
  refine rl_nil ?_
  refine q_tn ?_
  refine wp_seq ?_
  refine wp_block ?_
  refine wp_seq ?_
  refine w_reg ?_
  refine rl_run F (run_move (F.ev rfl)) rfl ?_; clear F a; intro a F
  refine rl_run F (run_lss (F.ev rfl) (F.ev rfl)) rfl ?_; clear F a; intro a F
  refine rl_run F (run_move (F.ev rfl)) rfl ?_; clear F a; intro a F
  rcases Bool.eq_false_or_eq_true (decide (least < 1)) with hc | hc
  · skip
    have h1b := hc; clear hc
    have h1 : least < 1 := of_decide_eq_true h1b
    refine rl_guard_f F rfl rfl rfl h1b ?_; clear F a; intro a F
    refine rl_guard_f F rfl rfl rfl h1b ?_; clear F a; intro a F
    refine rl_run F (run_pick_t (F.ev rfl) h1b (F.ev rfl)) rfl ?_; clear F a; intro a F
    refine rl_run F (run_assign (F.ev rfl)) rfl ?_; clear F a; intro a F
    refine rl_nil ?_
    refine q_tn ?_
    refine w_cond_t F rfl rfl ?_
    refine wp_seq ?_
    refine w_reg ?_
    refine rl_run F (run_assign (F.ev rfl)) rfl ?_; clear F a; intro a F
    refine rl_run F (run_assign (F.ev rfl)) rfl ?_; clear F a; intro a F
    refine rl_nil ?_
    refine q_tn ?_
    refine wp_ret ?_
    refine q_br ?_
    refine q_tr ?_
    refine fin2 F rfl rfl rfl ?_
    exact ⟨(M.weaken (List.Sublist.refl _)), by rw [checkF_bad (by omega)]; rfl⟩
  · skip
    have h2b := hc; clear hc
    have h2 : ¬ (least < 1) := of_decide_eq_false h2b
    refine rl_guard_t F rfl rfl rfl h2b ?_
    refine rl_run F (run_move (F.ev rfl)) rfl ?_; clear F a; intro a F
    refine rl_guard_t F rfl rfl rfl h2b ?_
    refine rl_run F (run_gtr (F.ev rfl) (F.ev rfl)) rfl ?_; clear F a; intro a F
    refine rl_run F (run_pick_f (F.ev rfl) h2b (F.ev rfl)) rfl ?_; clear F a; intro a F
    refine rl_run F (run_assign (F.ev rfl)) rfl ?_; clear F a; intro a F
    refine rl_nil ?_
    refine q_tn ?_
    refine w_cond F rfl ?_ ?_
    · intro hc
      have h3b := hc; clear hc
      have h3 : 2305843009213693952 < least := of_decide_eq_true h3b
      refine wp_seq ?_
      refine w_reg ?_
      refine rl_run F (run_assign (F.ev rfl)) rfl ?_; clear F a; intro a F
      refine rl_run F (run_assign (F.ev rfl)) rfl ?_; clear F a; intro a F
      refine rl_nil ?_
      refine q_tn ?_
      refine wp_ret ?_
      refine q_br ?_
      refine q_tr ?_
      refine fin2 F rfl rfl rfl ?_
      exact ⟨(M.weaken (List.Sublist.refl _)), by rw [checkF_bad (by omega)]; rfl⟩
    · intro hc
      have h4b := hc; clear hc
      have h4 : ¬ (2305843009213693952 < least) := of_decide_eq_false h4b
      refine wp_seq ?_
      refine w_reg ?_
      refine rl_run F (run_move (F.ev rfl)) rfl ?_; clear F a; intro a F
      refine rl_run F (run_lenSl tok22.k (F.ev rfl)) rfl ?_; clear F a; intro a F
      refine rl_run F (run_gtr (F.ev rfl) (F.ev rfl)) rfl ?_; clear F a; intro a F
      refine rl_run F (run_assign (F.ev rfl)) rfl ?_; clear F a; intro a F
      refine rl_nil ?_
      refine q_tn ?_
      refine w_cond F rfl ?_ ?_
      · intro hc
        have h5b := hc; clear hc
        have h5 : 256 < ((xs.length : Nat) : Int) := of_decide_eq_true h5b
        refine wp_seq ?_
        refine w_reg ?_
        refine rl_run F (run_assign (F.ev rfl)) rfl ?_; clear F a; intro a F
        refine rl_run F (run_assign (F.ev rfl)) rfl ?_; clear F a; intro a F
        refine rl_nil ?_
        refine q_tn ?_
        refine wp_ret ?_
        refine q_br ?_
        refine q_tr ?_
        refine fin2 F rfl rfl rfl ?_
        exact ⟨(M.weaken (List.Sublist.refl _)), by rw [checkF_long (by omega) (by omega)]; rfl⟩
      · intro hc
        have h6b := hc; clear hc
        have h6 : ¬ (256 < ((xs.length : Nat) : Int)) := of_decide_eq_false h6b
        refine wp_skip ?_
        refine q_bn ?_
        refine q_tn ?_
        refine wp_seq ?_
        refine w_reg ?_
        refine rl_callL F ent28 rfl rfl (new_spec M) ?_; clear F M a; rintro _ _ w a M ⟨bm7, rfl, adm7, nm7, cm7, manym7, tombsm7, csm7, sm7, rfl, hnm7, Em7, Km7⟩ F
        have hmm7 : manym7 = 0 := Km7.many
        have hzm7 : nm7 = 0 := by rw [hnm7]; exact Km7.small.2 rfl
        refine rl_run F (run_assign (F.ev rfl)) rfl ?_; clear F a; intro a F
        refine rl_nil ?_
        refine q_tn ?_
        refine wp_seq ?_
        refine wp_seq ?_
        refine w_reg ?_
        refine rl_run F (run_move (F.ev rfl)) rfl ?_; clear F a; intro a F
        refine rl_run F (run_lenSl tok22.k (F.ev rfl)) rfl ?_; clear F a; intro a F
        refine rl_run F (run_move (F.ev rfl)) rfl ?_; clear F a; intro a F
        refine rl_nil ?_
        refine q_tn ?_
        refine wp_block ?_
        refine w_loopN (fun m a' w' => ∃ (i : Nat), ∃ (ps : List PairD), ∃ (adm : Option Addr), ∃ (nm : Nat), ∃ (cm : Nat), ∃ (manym : Int), ∃ (tombsm : Int), ∃ (csm : List Value), ∃ (sm : List SlotD), m = xs.length - i ∧ Fits 38 a' [(1, .int .i64 (least)), (6, .pointer (some ⟨bm7, 0, none⟩)), (22, .slice (ad) (xs.length) (c)), (23, .int .i64 (((xs.length : Nat) : Int))), (24, .int .i64 (((i : Nat) : Int)))] ∧ Mem w0 G (.blk bm7 [.slice (adm) (nm) (cm), .int .i64 (manym), .int .i64 (tombsm)] 93 :: .row (.slice (adm) (nm) (cm)) (nm) (csm) 95 3 :: L) w' ∧ (i ≤ xs.length) ∧ (Seen ps (xs.take i)) ∧ (ffF xs least 0 xs.length = ffF xs least i (xs.length - i)) ∧ (nm = sm.length) ∧ (Els rdSlot 3 G csm sm) ∧ (KOK sm manym tombsm (ps) (4096))) _ ⟨0, [], (adm7), (nm7), (cm7), (manym7), (tombsm7), (csm7), (sm7), rfl, F.to ⟨rfl, rfl, rfl, rfl, rfl, trivial⟩, M, Nat.zero_le _, Seen.nil, rfl, hnm7, Em7, Km7.more (by omega)⟩ ?_
        clear F M
        rintro m a w ⟨i, ps, adm, nm, cm, manym, tombsm, csm, sm, rfl, F, M, hi, hS, hinv, hnm, Em, Km⟩
        refine wp_seq ?_
        refine w_reg ?_
        refine rl_run F (run_lss (F.ev rfl) (F.ev rfl)) rfl ?_; clear F a; intro a F
        refine rl_nil ?_
        refine q_tn ?_
        refine wp_seq ?_
        refine w_cond F rfl ?_ ?_
        · intro hc
          have h8b := hc; clear hc
          have h8 : ((i : Nat) : Int) < ((xs.length : Nat) : Int) := of_decide_eq_true h8b
          refine wp_skip ?_
          refine q_tn ?_
          refine wp_seq ?_
          refine wp_block ?_
          refine wp_seq ?_
          refine w_reg ?_
          refine rl_run F (run_move (F.ev rfl)) rfl ?_; clear F a; intro a F
          obtain ⟨Xe9, hXe9⟩ := get_of_lt (xs := xs) (i := i) (by omega)
          obtain ⟨be9, oe9, _, Ie9, _, Ae9, ⟨rfl, hbe91, hbe92⟩⟩ := S.at hXe9
          refine rl_run F (run_indexI tok22.k tok39 (F.ev rfl) (F.ev rfl) (by omega) Ie9) rfl ?_; clear F a; intro a F
          refine rl_run F (run_loadA tok39 rfl (F.ev rfl) (cs := [.int .u64 (Xe9.key), .int .i64 (Xe9.v)]) rfl (M.cellsA Ae9 0 (by omega) rfl)) rfl ?_; clear F a; intro a F
          refine rl_alloc F M tok39 rfl rfl ?_; clear F M a; intro b10 w a M F
          refine rl_run F (run_assign (F.ev rfl)) rfl ?_; clear F a; intro a F
          refine rl_storeA F M tok39 (k := 0) rfl rfl rfl (us := [.int .u64 (Xe9.key), .int .i64 (Xe9.v)]) rfl rfl (by simp [Value.oneCell']) (by simp) ?_; clear F M a; intro w a M F
          refine rl_nil ?_
          refine q_tn ?_
          refine wp_seq ?_
          refine w_reg ?_
          refine rl_run F (run_loadA tok39 rfl (F.ev rfl) (cs := [.int .u64 (Xe9.key), .int .i64 (Xe9.v)]) rfl (M.cellsL (k := 0) rfl rfl)) rfl ?_; clear F a; intro a F
          refine rl_run F (run_move (F.ev rfl)) rfl ?_; clear F a; intro a F
          refine rl_run F (run_move (F.ev rfl)) rfl ?_; clear F a; intro a F
          replace M := M.perm (perm_front _ 2 _ rfl)
          replace M := M.perm (perm_front _ 2 _ rfl)
          change Mem w0 G (.blk bm7 [.slice (adm) (nm) (cm), .int .i64 (manym), .int .i64 (tombsm)] 93 :: .row (.slice (adm) (nm) (cm)) (nm) (csm) 95 3 :: .blk b10 [.int .u64 (Xe9.key), .int .i64 (Xe9.v)] 39 :: L) _ at M
          refine rl_callL F ent39 rfl rfl (one_spec (h := Xe9) (least := least) M hnm Em Km (by (have h1 := hS.len; rw [List.length_take] at h1; omega)) (by assumption)) ?_; clear F M a; rintro _ _ w a M ⟨rfl, adm12, nm12, cm12, manym12, tombsm12, csm12, sm12, rfl, hnm12, Em12, Km12⟩ F
          refine rl_run F (run_assign (F.ev rfl)) rfl ?_; clear F a; intro a F
          refine rl_nil ?_
          refine q_tn ?_
          refine wp_seq ?_
          refine w_reg ?_
          refine rl_run F (run_move (F.ev rfl)) rfl ?_; clear F a; intro a F
          refine rl_run F (run_nei (F.ev rfl) (F.ev rfl)) rfl ?_; clear F a; intro a F
          refine rl_nil ?_
          refine q_tn ?_
          refine w_cond F rfl ?_ ?_
          · intro hc
            have h13b := hc; clear hc
            have h13 : ¬ (oneF ps Xe9 least = 0) := of_decide_eq_false (of_not_t h13b)
            have h13c : (decide (oneF ps Xe9 least = 0)) = false := (of_not_t h13b)
            refine wp_seq ?_
            refine w_reg ?_
            refine rl_run F (run_move (F.ev rfl)) rfl ?_; clear F a; intro a F
            refine rl_run F (run_move (F.ev rfl)) rfl ?_; clear F a; intro a F
            refine rl_run F (run_assign (F.ev rfl)) rfl ?_; clear F a; intro a F
            refine rl_run F (run_assign (F.ev rfl)) rfl ?_; clear F a; intro a F
            refine rl_nil ?_
            refine q_tn ?_
            refine wp_ret ?_
            refine q_br ?_
            refine q_tr ?_
            refine q_tr ?_
            refine q_br ?_
            refine q_tr ?_
            refine fin2 F rfl rfl rfl ?_
            exact ⟨(M.weaken (.cons _ (.cons _ (.cons _ (List.Sublist.refl _))))), by rw [checkF_ff (by omega) (by omega), (ffF_step hinv (by omega)).2 (by rw [← hS.fault hXe9]; assumption), hS.fault hXe9]⟩
          · intro hc
            have h14b := hc; clear hc
            have h14 : oneF ps Xe9 least = 0 := of_decide_eq_true (of_not_f h14b)
            have h14c : (decide (oneF ps Xe9 least = 0)) = true := (of_not_f h14b)
            refine wp_skip ?_
            refine q_bn ?_
            refine q_tn ?_
            refine w_reg ?_
            refine rl_run F (run_addi (F.ev rfl) (F.ev rfl) (in_i64 (by omega) (by omega))) rfl ?_; clear F a; intro a F
            refine rl_run F (run_move (F.ev rfl)) rfl ?_; clear F a; intro a F
            refine rl_nil ?_
            refine q_tn ?_
            have hz : oneF ps Xe9 least = 0 := by omega
            rw [if_pos hz] at Km12
            exact ⟨_, by omega, i + 1, (putF ps Xe9.key 0).1, (adm12), (nm12), (cm12), (manym12), (tombsm12), (csm12), (sm12), rfl, F.to ⟨rfl, rfl, rfl, rfl, rfl, trivial⟩, (M.weaken (.cons_cons _ (.cons_cons _ (.cons _ (List.Sublist.refl _))))), by omega, hS.next hXe9 hz (by omega), (ffF_step hinv (by omega)).1 (by rw [← hS.fault hXe9]; exact hz), hnm12, Em12, Km12⟩
        · intro hc
          have h15b := hc; clear hc
          have h15 : ¬ (((i : Nat) : Int) < ((xs.length : Nat) : Int)) := of_decide_eq_false h15b
          refine wp_exit ?_
          refine q_te ?_
          refine q_te ?_
          refine q_bh ?_
          refine q_tn ?_
          refine wp_seq ?_
          refine w_reg ?_
          refine rl_run F (run_assign (F.ev rfl)) rfl ?_; clear F a; intro a F
          refine rl_run F (run_assign (F.ev rfl)) rfl ?_; clear F a; intro a F
          refine rl_nil ?_
          refine q_tn ?_
          refine wp_ret ?_
          refine fin2 F rfl rfl rfl ?_
          exact ⟨(M.weaken (.cons _ (.cons _ (List.Sublist.refl _)))), by rw [checkF_ff (by omega) (by omega), ffF_end hinv (by omega)]; rfl⟩

theorem checked_spec {w0 w : World} {G : Ghost} {L : List Res} (M : Mem w0 G L w) {ad : Option Addr} {c : Nat} {xs : List PairD} (S : RdSl rdPair 2 G (.slice ad xs.length c) xs) (hxl : xs.length ≤ 9223372036854775807) {least : Int} {at' : Nat} {e' : Int} (hc : checkF xs least = (at', e')) :
    Calls Tryd.prog 12 #[.slice ad xs.length c, .int .i64 least, .int .i64 (at' : Int), .int .i64 e'] w (RetS w0 G L fun v => v = .bool true) := by
  refine calls_start (vs := [_, _, _, _]) Tryd.func12 rfl (n := 25) rfl rfl ?_
  intro a F
  refine wp_seq ?_
  refine w_reg ?_
  refine rl_run F (run_assign (F.ev rfl)) rfl ?_; clear F a; intro a F
  refine rl_nil ?_
  refine q_tn ?_
  refine wp_seq ?_
  refine w_reg ?_
  refine rl_run F (run_move (F.ev rfl)) rfl ?_; clear F a; intro a F
  refine rl_run F (run_move (F.ev rfl)) rfl ?_; clear F a; intro a F
  refine rl_callS F ent26 rfl rfl (check_spec (xs := xs) (least := least) M S (by omega)) ?_; clear F M a; rintro _ w a M rfl F
  refine rl_run F (run_move (F.ev rfl)) rfl ?_; clear F a; intro a F
  refine rl_run F (run_extract (v := .int .i64 ((((checkF xs least).1 : Nat) : Int))) (F.ev rfl) rfl) rfl ?_; clear F a; intro a F
  refine rl_run F (run_extract (v := .int .i64 ((checkF xs least).2)) (F.ev rfl) rfl) rfl ?_; clear F a; intro a F
  refine rl_run F (run_assign (F.ev rfl)) rfl ?_; clear F a; intro a F
  refine rl_run F (run_assign (F.ev rfl)) rfl ?_; clear F a; intro a F
  refine rl_nil ?_
  refine q_tn ?_
  refine wp_seq ?_
  refine w_reg ?_
  refine rl_run F (run_move (F.ev rfl)) rfl ?_; clear F a; intro a F
  refine rl_run F (run_move (F.ev rfl)) rfl ?_; clear F a; intro a F
  refine rl_run F (run_eqi (F.ev rfl) (F.ev rfl)) rfl ?_; clear F a; intro a F
  refine rl_run F (run_move (F.ev rfl)) rfl ?_; clear F a; intro a F
  have hg1 : (decide ((((checkF xs least).1 : Nat) : Int) = (at' : Int))) = true := (decide_eq_true (by rw [hc]))
  refine rl_guard_t F rfl rfl rfl hg1 ?_
  refine rl_run F (run_move (F.ev rfl)) rfl ?_; clear F a; intro a F
  refine rl_guard_t F rfl rfl rfl hg1 ?_
  refine rl_run F (run_move (F.ev rfl)) rfl ?_; clear F a; intro a F
  refine rl_guard_t F rfl rfl rfl hg1 ?_
  refine rl_run F (run_eqi (F.ev rfl) (F.ev rfl)) rfl ?_; clear F a; intro a F
  refine rl_run F (run_pick_t (F.ev rfl) hg1 (F.ev rfl)) rfl ?_; clear F a; intro a F
  refine rl_run F (run_assign (F.ev rfl)) rfl ?_; clear F a; intro a F
  refine rl_nil ?_
  refine q_tn ?_
  refine wp_ret ?_
  refine fin1 F rfl rfl ?_
  exact ⟨M, by rw [hc]; simp⟩

end Go.Proofs.YtokeofoemjeleaaDoor
