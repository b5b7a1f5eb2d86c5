/- The walks, part R. -/
import Derived.Test.YtokeofoemjeleaaDoorWalkQ
import Derived.Test.YtokeofoemjeleaaDoorSrt
namespace Go.Proofs.YtokeofoemjeleaaDoor
open Go Go.Y Go.Proofs
set_option linter.unusedSimpArgs false
set_option linter.unusedVariables false
theorem isnan_spec {w0 w : World} {G : Ghost} {L : List Res} (M : Mem w0 G L w) {x : Int} :
    Calls Tryd.prog 61 #[.int .u64 x] w (RetS w0 G L fun v => v = .bool false) := by
  refine calls_start (vs := [_]) Tryd.func61 rfl (n := 6) rfl rfl ?_
  intro a F
  refine wp_seq ?_
  refine w_reg ?_
  refine rl_run F (run_assign (F.ev rfl)) rfl ?_; clear F a; intro a F
  refine rl_nil ?_
  refine q_tn ?_
  refine wp_seq ?_
  refine w_reg ?_
  refine rl_run F (run_move (F.ev rfl)) rfl ?_; clear F a; intro a F
  refine rl_run F (run_move (F.ev rfl)) rfl ?_; clear F a; intro a F
  refine rl_run F (run_nei (F.ev rfl) (F.ev rfl)) rfl ?_; clear F a; intro a F
  refine rl_run F (run_assign (F.ev rfl)) rfl ?_; clear F a; intro a F
  refine rl_nil ?_
  refine q_tn ?_
  refine wp_ret ?_
  refine fin1 F rfl rfl ?_
  exact ⟨M, by simp⟩

theorem cmp_spec {w0 w : World} {G : Ghost} {L : List Res} (M : Mem w0 G L w) {x y : Int} :
    Calls Tryd.prog 51 #[.int .u64 x, .int .u64 y] w (RetS w0 G L fun v => v = .int .i64 (cmpF x y)) := by
  refine calls_start (vs := [_, _]) Tryd.func51 rfl (n := 20) rfl rfl ?_
  intro a F
  refine wp_seq ?_
  refine w_reg ?_
  refine rl_run F (run_assign (F.ev rfl)) rfl ?_; clear F a; intro a F
  refine rl_nil ?_
  refine q_tn ?_
  refine wp_seq ?_
  refine w_reg ?_
  refine rl_run F (run_move (F.ev rfl)) rfl ?_; clear F a; intro a F
  refine rl_callS F ent61 rfl rfl (isnan_spec (x := x) M) ?_; clear F M a; rintro _ w a M rfl F
  refine rl_run F (run_assign (F.ev rfl)) rfl ?_; clear F a; intro a F
  refine rl_nil ?_
  refine q_tn ?_
  refine wp_seq ?_
  refine w_reg ?_
  refine rl_run F (run_move (F.ev rfl)) rfl ?_; clear F a; intro a F
  refine rl_callS F ent61 rfl rfl (isnan_spec (x := y) M) ?_; clear F M a; rintro _ w a M rfl F
  refine rl_run F (run_assign (F.ev rfl)) rfl ?_; clear F a; intro a F
  refine rl_nil ?_
  refine q_tn ?_
  refine wp_seq ?_
  refine wp_seq ?_
  refine w_reg ?_
  refine rl_run F (run_move (F.ev rfl)) rfl ?_; clear F a; intro a F
  refine rl_nil ?_
  refine q_tn ?_
  refine w_cond_f F rfl rfl ?_
  refine wp_skip ?_
  refine q_tn ?_
  refine wp_seq ?_
  refine wp_seq ?_
  refine w_reg ?_
  refine rl_run F (run_move (F.ev rfl)) rfl ?_; clear F a; intro a F
  refine rl_nil ?_
  refine q_tn ?_
  refine w_cond_f F rfl rfl ?_
  refine wp_skip ?_
  refine q_tn ?_
  refine wp_seq ?_
  refine wp_seq ?_
  refine w_reg ?_
  refine rl_run F (run_move (F.ev rfl)) rfl ?_; clear F a; intro a F
  refine rl_run F (run_move (F.ev rfl)) rfl ?_; clear F a; intro a F
  refine rl_run F (run_lss (F.ev rfl) (F.ev rfl)) rfl ?_; clear F a; intro a F
  refine rl_nil ?_
  refine q_tn ?_
  refine w_cond F rfl ?_ ?_
  · intro hc
    have h1b := hc; clear hc
    have h1 : x < y := of_decide_eq_true h1b
    refine wp_seq ?_
    refine w_reg ?_
    refine rl_run F (run_assign (F.ev rfl)) rfl ?_; clear F a; intro a F
    refine rl_nil ?_
    refine q_tn ?_
    refine wp_ret ?_
    refine q_tr ?_
    refine fin1 F rfl rfl ?_
    have hq_ : cmpF x y = (-1) := by unfold cmpF; (try rw [if_pos (by omega)]); (try rw [if_neg (by omega)]); (try rw [if_pos (by omega)]); (try rw [if_neg (by omega)])
    exact ⟨M, by rw [hq_]⟩
  · intro hc
    have h2b := hc; clear hc
    have h2 : ¬ (x < y) := of_decide_eq_false h2b
    refine wp_skip ?_
    refine q_tn ?_
    refine wp_seq ?_
    refine wp_seq ?_
    refine w_reg ?_
    refine rl_run F (run_move (F.ev rfl)) rfl ?_; clear F a; intro a F
    refine rl_run F (run_move (F.ev rfl)) rfl ?_; clear F a; intro a F
    refine rl_run F (run_gtr (F.ev rfl) (F.ev rfl)) rfl ?_; clear F a; intro a F
    refine rl_nil ?_
    refine q_tn ?_
    refine w_cond F rfl ?_ ?_
    · intro hc
      have h3b := hc; clear hc
      have h3 : y < x := of_decide_eq_true h3b
      refine wp_seq ?_
      refine w_reg ?_
      refine rl_run F (run_assign (F.ev rfl)) rfl ?_; clear F a; intro a F
      refine rl_nil ?_
      refine q_tn ?_
      refine wp_ret ?_
      refine q_tr ?_
      refine fin1 F rfl rfl ?_
      have hq_ : cmpF x y = 1 := by unfold cmpF; (try rw [if_pos (by omega)]); (try rw [if_neg (by omega)]); (try rw [if_pos (by omega)]); (try rw [if_neg (by omega)])
      exact ⟨M, by rw [hq_]⟩
    · intro hc
      have h4b := hc; clear hc
      have h4 : ¬ (y < x) := of_decide_eq_false h4b
      refine wp_skip ?_
      refine q_tn ?_
      refine wp_seq ?_
      refine w_reg ?_
      refine rl_run F (run_assign (F.ev rfl)) rfl ?_; clear F a; intro a F
      refine rl_nil ?_
      refine q_tn ?_
      refine wp_ret ?_
      refine fin1 F rfl rfl ?_
      have hq_ : cmpF x y = 0 := by unfold cmpF; (try rw [if_pos (by omega)]); (try rw [if_neg (by omega)]); (try rw [if_pos (by omega)]); (try rw [if_neg (by omega)])
      exact ⟨M, by rw [hq_]⟩

theorem bykey_spec {w0 w : World} {G : Ghost} {L : List Res} (M : Mem w0 G L w) {x y : PairD} :
    Calls Tryd.prog 41 #[.agg #[], .agg #[.int .u64 x.key, .int .i64 x.v], .agg #[.int .u64 y.key, .int .i64 y.v]] w (RetS w0 G L fun v => v = .int .i64 (cmpF x.key y.key)) := by
  refine calls_start (vs := [_, _, _]) Tryd.func41 rfl (n := 12) rfl rfl ?_
  intro a F
  refine wp_seq ?_
  refine w_reg ?_
  refine rl_box F M rfl (cs := []) rfl rfl ?_; clear F M a; intro b1 w a M F
  refine rl_box F M rfl (cs := [.int .u64 (x.key), .int .i64 (x.v)]) rfl rfl ?_; clear F M a; intro b2 w a M F
  refine rl_box F M rfl (cs := [.int .u64 (y.key), .int .i64 (y.v)]) rfl rfl ?_; clear F M a; intro b3 w a M F
  refine rl_run F (run_assign (F.ev rfl)) rfl ?_; clear F a; intro a F
  refine rl_nil ?_
  refine q_tn ?_
  refine wp_seq ?_
  refine w_reg ?_
  refine rl_run F (run_fieldAddr tok39.k rfl rfl (F.ev rfl)) rfl ?_; clear F a; intro a F
  refine rl_run F (run_load1 (agf tok37 rfl) (F.ev rfl) (M.cellL (k := 1) rfl rfl)) rfl ?_; clear F a; intro a F
  refine rl_run F (run_fieldAddr tok39.k rfl rfl (F.ev rfl)) rfl ?_; clear F a; intro a F
  refine rl_run F (run_load1 (agf tok37 rfl) (F.ev rfl) (M.cellL (k := 0) rfl rfl)) rfl ?_; clear F a; intro a F
  refine rl_callS F ent51 rfl rfl (cmp_spec (x := x.key) (y := y.key) M) ?_; clear F M a; rintro _ w a M rfl F
  refine rl_run F (run_assign (F.ev rfl)) rfl ?_; clear F a; intro a F
  refine rl_nil ?_
  refine q_tn ?_
  refine wp_ret ?_
  refine fin1 F rfl rfl ?_
  exact ⟨M.weaken (.cons _ (.cons _ (.cons _ (List.Sublist.refl _)))), rfl⟩

theorem ins_spec {w0 w : World} {G : Ghost} {L : List Res} {n c d : Nat} {ad : Option Addr} {cs : List Value} {xs : List PairD} (M : Mem w0 G (.row (.slice ad n c) n cs 39 2 :: L) w) (E : Els rdPair 2 G cs xs) (hn : n = xs.length) (hxs : xs.length ≤ 1000000) {lo b : Nat} (hb : b ≤ xs.length) (hlo : lo ≤ xs.length) :
    Calls Tryd.prog 62 #[.slice ad n d, .int .i64 (lo : Int), .int .i64 (b : Int), .func (.func 41) #[.agg #[]] #[]] w (RetL w0 G fun L' v => v = .tuple #[] ∧ ∃ cs' ys, L' = (.row (.slice ad n c) n cs' 39 2 :: L) ∧ Els rdPair 2 G cs' ys ∧ Seg lo b xs ys ∧ SrtR ys lo b) := by
  refine calls_start (vs := [_, _, _, _]) Tryd.func62 rfl (n := 53) rfl rfl ?_
  intro a F
  refine wp_seq ?_
  refine w_reg ?_
  refine rl_run F (run_move (F.ev rfl)) rfl ?_; clear F a; intro a F
  refine rl_run F (run_addi (F.ev rfl) (F.ev rfl) (in_i64 (by omega) (by omega))) rfl ?_; clear F a; intro a F
  refine rl_run F (run_assign (F.ev rfl)) rfl ?_; clear F a; intro a F
  refine rl_nil ?_
  refine q_tn ?_
  refine wp_block ?_
  refine w_loopN (fun m a' w' => ∃ (i : Nat), ∃ (cso : List Value), ∃ (ys : List PairD), m = b - i ∧ Fits 53 a' [(0, .slice (ad) (n) (d)), (1, .int .i64 ((lo : Int))), (2, .int .i64 ((b : Int))), (3, .func (.func 41) #[.agg #[]] #[]), (8, .int .i64 (((i : Nat) : Int)))] ∧ Mem w0 G (.row (.slice (ad) (n) (c)) (n) (cso) 39 2 :: L) w' ∧ (lo + 1 ≤ i) ∧ (SrtR ys lo i) ∧ (Seg lo b xs ys) ∧ (Els rdPair 2 G cso ys)) _ ⟨lo + 1, cs, xs, rfl, F.to ⟨rfl, rfl, rfl, rfl, rfl, trivial⟩, M, Nat.le_refl _, SrtR.one, Seg.refl _ _ _, E⟩ ?_
  clear F M
  rintro m a w ⟨i, cso, ys, rfl, F, M, hi, hS, hG, Eo⟩
  refine wp_seq ?_
  refine wp_seq ?_
  refine w_reg ?_
  refine rl_run F (run_move (F.ev rfl)) rfl ?_; clear F a; intro a F
  refine rl_run F (run_move (F.ev rfl)) rfl ?_; clear F a; intro a F
  refine rl_run F (run_lss (F.ev rfl) (F.ev rfl)) rfl ?_; clear F a; intro a F
  refine rl_nil ?_
  refine q_tn ?_
  refine w_cond F rfl ?_ ?_
  · intro hc
    have h1b := hc; clear hc
    have h1 : ((i : Nat) : Int) < (b : Int) := of_decide_eq_true h1b
    refine wp_skip ?_
    refine q_tn ?_
    refine wp_seq ?_
    refine wp_block ?_
    refine wp_seq ?_
    refine w_reg ?_
    refine rl_run F (run_move (F.ev rfl)) rfl ?_; clear F a; intro a F
    refine rl_run F (run_assign (F.ev rfl)) rfl ?_; clear F a; intro a F
    refine rl_nil ?_
    refine q_tn ?_
    refine wp_block ?_
    refine w_loopN (fun m a' w' => ∃ (j : Nat), ∃ (csq : List Value), ∃ (zs : List PairD), m = j + 1 ∧ Fits 53 a' [(0, .slice (ad) (n) (d)), (1, .int .i64 ((lo : Int))), (2, .int .i64 ((b : Int))), (3, .func (.func 41) #[.agg #[]] #[]), (8, .int .i64 (((i : Nat) : Int))), (9, .int .i64 (((j : Nat) : Int)))] ∧ Mem w0 G (.row (.slice (ad) (n) (c)) (n) (csq) 39 2 :: L) w' ∧ (j ≤ i) ∧ (Ins zs lo i j) ∧ (Seg lo b xs zs) ∧ (Els rdPair 2 G csq zs)) _ ⟨i, cso, ys, rfl, F.to ⟨rfl, rfl, rfl, rfl, rfl, rfl, trivial⟩, M, Nat.le_refl _, Ins.start hS, hG, Eo⟩ ?_
    clear F M
    rintro m a w ⟨j, csq, zs, rfl, F, M, hj, hI, hG2, Eq⟩
    refine wp_seq ?_
    refine wp_seq ?_
    refine w_plan2 [(.free, 0), (.free, 1), (.free, 2), (.free, 3), (.free, 4), (.free, 5), (.free, 6), (.free, 7), (.pure, 8), (.free, 9), (.free, 10), (.free, 11), (.free, 12), (.pure, 13), (.keep, 14), (.free, 15), (.free, 16)] [] (Keep G [.row (.slice (ad) (n) (c)) (n) (csq) 39 2]) rfl (by kernel_rfl) (fun c a d v w h => by cases d <;> exact h) ((M.drew _).keep (Gle.refl _) (by simp)) ?_
    replace M := M.drew (w.drawn + 1)
    refine pk_free F (fun w _ => run_move (F.ev rfl)) rfl ?_; clear F a; intro a F
    refine pk_free F (fun w _ => run_move (F.ev rfl)) rfl ?_; clear F a; intro a F
    refine pk_free F (fun w _ => run_gtr (F.ev rfl) (F.ev rfl)) rfl ?_; clear F a; intro a F
    refine pk_free F (fun w _ => run_move (F.ev rfl)) rfl ?_; clear F a; intro a F
    rcases Bool.eq_false_or_eq_true (decide ((lo : Int) < ((j : Nat) : Int))) with hc | hc
    · skip
      have h2b := hc; clear hc
      have h2 : (lo : Int) < ((j : Nat) : Int) := of_decide_eq_true h2b
      refine pk_free_g F rfl rfl h2b (fun w _ => run_move (F.ev rfl)) rfl ?_; clear F a; intro a F
      refine pk_free_g F rfl rfl h2b (fun w _ => run_move (F.ev rfl)) rfl ?_; clear F a; intro a F
      refine pk_free_g F rfl rfl h2b (fun w _ => run_move (F.ev rfl)) rfl ?_; clear F a; intro a F
      obtain ⟨Xe3, hXe3⟩ := get_of_lt (xs := zs) (i := j) (by (have := hG2.len; omega))
      obtain ⟨be3, _, Ie3, hme3, _, Ae3, ⟨rfl, hbe31, hbe32⟩⟩ := M.atRowK (k := 0) rfl (by decide) Eq (Lr := [.row (.slice (ad) (n) (c)) (n) (csq) 39 2]) (k' := 0) rfl hXe3
      refine pk_free_g F rfl rfl h2b (fun w _ => run_indexI tok22.k tok39 (F.ev rfl) (F.ev rfl) (by omega) Ie3) rfl ?_; clear F a; intro a F
      refine pk_pure_g F rfl rfl h2b (fun w M => run_loadA tok39 rfl (F.ev rfl) (cs := [.int .u64 (Xe3.key), .int .i64 (Xe3.v)]) rfl (cellsE (Ae3 w M) 0 (by omega) rfl)) rfl ?_; clear F a; intro a F
      refine pk_free_g F rfl rfl h2b (fun w _ => run_move (F.ev rfl)) rfl ?_; clear F a; intro a F
      refine pk_free_g F rfl rfl h2b (fun w _ => run_move (F.ev rfl)) rfl ?_; clear F a; intro a F
      refine pk_free_g F rfl rfl h2b (fun w _ => run_subi (F.ev rfl) (F.ev rfl) (in_i64 (by omega) (by omega))) rfl ?_; clear F a; intro a F
      have hj4 : ((((j : Nat) : Int)) - 1 : Int) = ((j - 1 : Nat) : Int) := by omega
      rw [hj4] at F
      obtain ⟨Xe5, hXe5⟩ := get_of_lt (xs := zs) (i := j - 1) (by (have := hG2.len; omega))
      obtain ⟨be5, _, Ie5, hme5, _, Ae5, ⟨rfl, hbe51, hbe52⟩⟩ := M.atRowK (k := 0) rfl (by decide) Eq (Lr := [.row (.slice (ad) (n) (c)) (n) (csq) 39 2]) (k' := 0) rfl hXe5
      refine pk_free_g F rfl rfl h2b (fun w _ => run_indexI tok22.k tok39 (F.ev rfl) (F.ev rfl) (by omega) Ie5) rfl ?_; clear F a; intro a F
      refine pk_pure_g F rfl rfl h2b (fun w M => run_loadA tok39 rfl (F.ev rfl) (cs := [.int .u64 (Xe5.key), .int .i64 (Xe5.v)]) rfl (cellsE (Ae5 w M) 0 (by omega) rfl)) rfl ?_; clear F a; intro a F
      refine pk_keep_g F rfl rfl h2b ?_
      refine rl_guard_t F rfl rfl rfl h2b ?_
      refine rl_callF F ent41 rfl rfl rfl (bykey_spec (x := Xe3) (y := Xe5) M) ?_; clear F M a; rintro _ w a M rfl F
      refine rl_nil ?_
      refine ⟨Keep G [.row (.slice (ad) (n) (c)) (n) (csq) 39 2], M.keep (Gle.refl _) (by simp), fun w h => h.mono (Gle.refl _) (by simp), ?_⟩
      refine pk_free_g F rfl rfl h2b (fun w _ => run_lss (F.ev rfl) (F.ev rfl)) rfl ?_; clear F a; intro a F
      refine pk_free F (fun w _ => run_pick_t (F.ev rfl) h2b (F.ev rfl)) rfl ?_; clear F a; intro a F
      refine pk_nil ?_
      refine q_tn ?_
      refine w_cond F rfl ?_ ?_
      · intro hc
        have h6b := hc; clear hc
        have h6 : cmpF Xe3.key Xe5.key < 0 := of_decide_eq_true h6b
        refine wp_skip ?_
        refine q_tn ?_
        refine wp_seq ?_
        refine wp_block ?_
        have hzl := hG2.len
        have hjl := lt_of_get hXe3
        refine w_plan2 [(.free, 0), (.free, 1), (.free, 2), (.free, 3), (.free, 4), (.free, 5), (.free, 6), (.free, 7), (.free, 8), (.pure, 9), (.free, 10), (.free, 11), (.free, 12), (.pure, 13), (.free, 14), (.chg, 15), (.free, 16), (.chg, 17)] [15, 17] (Keep G [.row (.slice (ad) (n) (c)) (n) (csq) 39 2]) rfl (by kernel_rfl) (fun c a d v w h => by cases d <;> exact h) ((M.drew _).keep (Gle.refl _) (by simp)) ?_
        replace M := M.drew (w.drawn + 1)
        refine pk_free F (fun w _ => run_move (F.ev rfl)) rfl ?_; clear F a; intro a F
        refine pk_free F (fun w _ => run_move (F.ev rfl)) rfl ?_; clear F a; intro a F
        refine pk_free F (fun w _ => run_move (F.ev rfl)) rfl ?_; clear F a; intro a F
        refine pk_free F (fun w _ => run_move (F.ev rfl)) rfl ?_; clear F a; intro a F
        refine pk_free F (fun w _ => run_subi (F.ev rfl) (F.ev rfl) (in_i64 (by omega) (by omega))) rfl ?_; clear F a; intro a F
        refine pk_free F (fun w _ => run_move (F.ev rfl)) rfl ?_; clear F a; intro a F
        refine pk_free F (fun w _ => run_move (F.ev rfl)) rfl ?_; clear F a; intro a F
        refine pk_free F (fun w _ => run_subi (F.ev rfl) (F.ev rfl) (in_i64 (by omega) (by omega))) rfl ?_; clear F a; intro a F
        have hj7 : ((((j : Nat) : Int)) - 1 : Int) = ((j - 1 : Nat) : Int) := by omega
        rw [hj7] at F
        obtain ⟨be8, _, Ie8, hme8, _, Ae8, ⟨rfl, hbe81, hbe82⟩⟩ := M.atRowK (k := 0) rfl (by decide) Eq (Lr := [.row (.slice (ad) (n) (c)) (n) (csq) 39 2]) (k' := 0) rfl hXe5
        refine pk_free F (fun w _ => run_indexI tok22.k tok39 (F.ev rfl) (F.ev rfl) (by omega) Ie8) rfl ?_; clear F a; intro a F
        refine pk_pure F (fun w M => run_loadA tok39 rfl (F.ev rfl) (cs := [.int .u64 (Xe5.key), .int .i64 (Xe5.v)]) rfl (cellsE (Ae8 w M) 0 (by omega) rfl)) rfl ?_; clear F a; intro a F
        refine pk_free F (fun w _ => run_move (F.ev rfl)) rfl ?_; clear F a; intro a F
        refine pk_free F (fun w _ => run_move (F.ev rfl)) rfl ?_; clear F a; intro a F
        obtain ⟨be9, _, Ie9, hme9, _, Ae9, ⟨rfl, hbe91, hbe92⟩⟩ := M.atRowK (k := 0) rfl (by decide) Eq (Lr := [.row (.slice (ad) (n) (c)) (n) (csq) 39 2]) (k' := 0) rfl hXe3
        refine pk_free F (fun w _ => run_indexI tok22.k tok39 (F.ev rfl) (F.ev rfl) (by omega) Ie9) rfl ?_; clear F a; intro a F
        refine pk_pure F (fun w M => run_loadA tok39 rfl (F.ev rfl) (cs := [.int .u64 (Xe3.key), .int .i64 (Xe3.v)]) rfl (cellsE (Ae9 w M) 0 (by omega) rfl)) rfl ?_; clear F a; intro a F
        obtain ⟨be10, _, Ie10, hme10, _, Ae10, ⟨rfl, hbe101, hbe102⟩⟩ := M.atRowK (k := 0) rfl (by decide) Eq (Lr := [.row (.slice (ad) (n) (c)) (n) (csq) 39 2]) (k' := 0) rfl hXe3
        refine pk_free F (fun w _ => run_indexI tok22.k tok39 (F.ev rfl) (F.ev rfl) (by omega) Ie10) rfl ?_; clear F a; intro a F
        refine pk_chg ?_ rfl
        refine rl_storeEl F M tok39 (k := 0) rfl rfl Eq Ie10 (lt_of_get hXe3) rfl rfl (us := [.int .u64 (Xe5.key), .int .i64 (Xe5.v)]) rfl rfl (by simp [Value.oneCell']) (X' := Xe5) (⟨rfl, by assumption, by assumption⟩) ?_; clear F M a; intro csu11 w a M Eu11 F
        refine rl_nil ?_
        refine ⟨Keep G [.row (.slice (ad) (n) (c)) (n) (csu11) 39 2], M.keep (Gle.refl _) (by simp), ?_⟩
        obtain ⟨Xe12, hXe12⟩ := get_of_lt (xs := (zs).set (j) Xe5) (i := j - 1) (by (simp only [List.length_set]; omega))
        obtain ⟨be12, _, Ie12, hme12, _, Ae12, ⟨rfl, hbe121, hbe122⟩⟩ := M.atRowK (k := 0) rfl (by decide) Eu11 (Lr := [.row (.slice (ad) (n) (c)) (n) (csu11) 39 2]) (k' := 0) rfl hXe12
        refine pk_free F (fun w _ => run_indexI tok22.k tok39 (F.ev rfl) (F.ev rfl) (by omega) Ie12) rfl ?_; clear F a; intro a F
        refine pk_chg ?_ rfl
        refine rl_storeEl F M tok39 (k := 0) rfl rfl Eu11 Ie12 (lt_of_get hXe12) rfl rfl (us := [.int .u64 (Xe3.key), .int .i64 (Xe3.v)]) rfl rfl (by simp [Value.oneCell']) (X' := Xe3) (⟨rfl, by assumption, by assumption⟩) ?_; clear F M a; intro csu13 w a M Eu13 F
        refine rl_nil ?_
        refine ⟨Keep G [.row (.slice (ad) (n) (c)) (n) (csu13) 39 2], M.keep (Gle.refl _) (by simp), ?_⟩
        refine pk_nil ?_
        refine q_bn ?_
        refine q_tn ?_
        refine w_reg ?_
        refine rl_run F (run_move (F.ev rfl)) rfl ?_; clear F a; intro a F
        refine rl_run F (run_subi (F.ev rfl) (F.ev rfl) (in_i64 (by omega) (by omega))) rfl ?_; clear F a; intro a F
        refine rl_run F (run_assign (F.ev rfl)) rfl ?_; clear F a; intro a F
        refine rl_nil ?_
        refine q_tn ?_
        have hj14 : ((((j : Nat) : Int)) - 1 : Int) = ((j - 1 : Nat) : Int) := by omega
        rw [hj14] at F
        exact ⟨_, by omega, j - 1, csu13, ((zs).set (j) Xe5).set (j - 1) Xe3, rfl, F.to ⟨rfl, rfl, rfl, rfl, rfl, rfl, trivial⟩, M, by omega, hI.step' (by omega) hj hXe5 hXe3 (cmpF_neg.1 (by assumption)), hG2.swap' hXe5 hXe3 (cmpF_neg.1 (by assumption)) (by omega) (by omega), Eu13⟩
      · intro hc
        have h15b := hc; clear hc
        have h15 : ¬ (cmpF Xe3.key Xe5.key < 0) := of_decide_eq_false h15b
        refine wp_exit ?_
        refine q_te ?_
        refine q_te ?_
        refine q_bh ?_
        refine q_bn ?_
        refine q_tn ?_
        refine w_reg ?_
        refine rl_run F (run_move (F.ev rfl)) rfl ?_; clear F a; intro a F
        refine rl_run F (run_addi (F.ev rfl) (F.ev rfl) (in_i64 (by omega) (by omega))) rfl ?_; clear F a; intro a F
        refine rl_run F (run_assign (F.ev rfl)) rfl ?_; clear F a; intro a F
        refine rl_nil ?_
        refine q_tn ?_
        exact ⟨_, by omega, i + 1, csq, zs, rfl, F.to ⟨rfl, rfl, rfl, rfl, rfl, trivial⟩, M, by omega, hI.endB' (by omega) hj hXe5 hXe3 (fun h => absurd (cmpF_neg.2 h) (by assumption)), hG2, Eq⟩
    · skip
      have h16b := hc; clear hc
      have h16 : ¬ ((lo : Int) < ((j : Nat) : Int)) := of_decide_eq_false h16b
      refine pk_skip F rfl rfl h16b rfl ?_; clear F a; intro a F
      refine pk_skip F rfl rfl h16b rfl ?_; clear F a; intro a F
      refine pk_skip F rfl rfl h16b rfl ?_; clear F a; intro a F
      refine pk_skip F rfl rfl h16b rfl ?_; clear F a; intro a F
      refine pk_skip F rfl rfl h16b rfl ?_; clear F a; intro a F
      refine pk_skip F rfl rfl h16b rfl ?_; clear F a; intro a F
      refine pk_skip F rfl rfl h16b rfl ?_; clear F a; intro a F
      refine pk_skip F rfl rfl h16b rfl ?_; clear F a; intro a F
      refine pk_skip F rfl rfl h16b rfl ?_; clear F a; intro a F
      refine pk_skip F rfl rfl h16b rfl ?_; clear F a; intro a F
      refine pk_skip F rfl rfl h16b rfl ?_; clear F a; intro a F
      refine pk_skip F rfl rfl h16b rfl ?_; clear F a; intro a F
      refine pk_free F (fun w _ => run_pick_f (F.ev rfl) h16b (F.ev rfl)) rfl ?_; clear F a; intro a F
      refine pk_nil ?_
      refine q_tn ?_
      refine w_cond_f F rfl rfl ?_
      refine wp_exit ?_
      refine q_te ?_
      refine q_te ?_
      refine q_bh ?_
      refine q_bn ?_
      refine q_tn ?_
      refine w_reg ?_
      refine rl_run F (run_move (F.ev rfl)) rfl ?_; clear F a; intro a F
      refine rl_run F (run_addi (F.ev rfl) (F.ev rfl) (in_i64 (by omega) (by omega))) rfl ?_; clear F a; intro a F
      refine rl_run F (run_assign (F.ev rfl)) rfl ?_; clear F a; intro a F
      refine rl_nil ?_
      refine q_tn ?_
      exact ⟨_, by omega, i + 1, csq, zs, rfl, F.to ⟨rfl, rfl, rfl, rfl, rfl, trivial⟩, M, by omega, hI.endA (by omega), hG2, Eq⟩
  · intro hc
    have h17b := hc; clear hc
    have h17 : ¬ (((i : Nat) : Int) < (b : Int)) := of_decide_eq_false h17b
    refine wp_exit ?_
    refine q_te ?_
    refine q_te ?_
    refine q_bh ?_
    refine fin0n F rfl ?_
    exact ⟨_, M, rfl, _, _, rfl, Eo, hG, hS.mono (Nat.le_refl _) (by omega)⟩

end Go.Proofs.YtokeofoemjeleaaDoor
