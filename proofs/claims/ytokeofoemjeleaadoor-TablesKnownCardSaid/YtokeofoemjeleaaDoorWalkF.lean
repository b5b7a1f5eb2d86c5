/- The walks, part F. -/
import Derived.Test.YtokeofoemjeleaaDoorWalkK
import Derived.Test.YtokeofoemjeleaaDoorSrm
namespace Go.Proofs.YtokeofoemjeleaaDoor
open Go Go.Y Go.Proofs
set_option linter.unusedSimpArgs false
set_option linter.unusedVariables false
theorem swr_spec {w0 w : World} {G : Ghost} {L : List Res} {n c d : Nat} {ad : Option Addr} {cs : List Value} {xs : List PairD} (M : Mem w0 G (.row (.slice ad n c) n cs 39 2 :: L) w) (E : Els rdPair 2 G cs xs) (hn : n = xs.length) (hxs : xs.length ≤ 1000000) {lo lb cnt : Nat} (h1 : lo + cnt ≤ lb) (h2 : lb + cnt ≤ xs.length) :
    Calls Tryd.prog 86 #[.slice ad n d, .int .i64 (lo : Int), .int .i64 (lb : Int), .int .i64 (cnt : Int), .func (.func 41) #[.agg #[]] #[]] w (RetL w0 G fun L' v => v = .tuple #[] ∧ ∃ cs' ys, L' = (.row (.slice ad n c) n cs' 39 2 :: L) ∧ Els rdPair 2 G cs' ys ∧ FromI (swI lo lb cnt) xs ys) := by
  refine calls_start (vs := [_, _, _, _, _]) Tryd.func86 rfl (n := 38) rfl rfl ?_
  intro a F
  refine wp_seq ?_
  refine w_reg ?_
  refine rl_run F (run_assign (F.ev rfl)) rfl ?_; clear F a; intro a F
  refine rl_nil ?_
  refine q_tn ?_
  refine wp_block ?_
  refine w_loopN (fun m a' w' => ∃ (i : Nat), ∃ (cso : List Value), ∃ (ys : List PairD), m = cnt - i ∧ Fits 38 a' [(0, .slice (ad) (n) (d)), (1, .int .i64 ((lo : Int))), (2, .int .i64 ((lb : Int))), (3, .int .i64 ((cnt : Int))), (10, .int .i64 (((i : Nat) : Int)))] ∧ Mem w0 G (.row (.slice (ad) (n) (c)) (n) (cso) 39 2 :: L) w' ∧ (i ≤ cnt) ∧ (FromI (swI lo lb i) xs ys) ∧ (Els rdPair 2 G cso ys)) _ ⟨0, cs, xs, rfl, F.to ⟨rfl, rfl, rfl, rfl, rfl, trivial⟩, M, Nat.zero_le _, FromI.start _ _ _, E⟩ ?_
  clear F M
  rintro m a w ⟨i, cso, ys, rfl, F, M, hi, hF, Eo⟩
  refine wp_seq ?_
  refine wp_seq ?_
  refine w_reg ?_
  refine rl_run F (run_move (F.ev rfl)) rfl ?_; clear F a; intro a F
  refine rl_run F (run_move (F.ev rfl)) rfl ?_; clear F a; intro a F
  refine rl_run F (run_lss (F.ev rfl) (F.ev rfl)) rfl ?_; clear F a; intro a F
  refine rl_nil ?_
  refine q_tn ?_
  refine w_cond F rfl ?_ ?_
  · intro hc
    have h1b := hc; clear hc
    have h1 : ((i : Nat) : Int) < (cnt : Int) := of_decide_eq_true h1b
    refine wp_skip ?_
    refine q_tn ?_
    refine wp_seq ?_
    refine wp_block ?_
    have hyl := hF.1
    refine w_plan2 [(.free, 0), (.free, 1), (.free, 2), (.free, 3), (.free, 4), (.free, 5), (.free, 6), (.free, 7), (.free, 8), (.free, 9), (.free, 10), (.free, 11), (.free, 12), (.pure, 13), (.free, 14), (.free, 15), (.free, 16), (.free, 17), (.free, 18), (.pure, 19), (.free, 20), (.chg, 21), (.free, 22), (.chg, 23)] [21, 23] (Keep G [.row (.slice (ad) (n) (c)) (n) (cso) 39 2]) rfl (by kernel_rfl) (fun c a d v w h => by cases d <;> exact h) ((M.drew _).keep (Gle.refl _) (by simp)) ?_
    replace M := M.drew (w.drawn + 1)
    refine pk_free F (fun w _ => run_move (F.ev rfl)) rfl ?_; clear F a; intro a F
    refine pk_free F (fun w _ => run_move (F.ev rfl)) rfl ?_; clear F a; intro a F
    refine pk_free F (fun w _ => run_move (F.ev rfl)) rfl ?_; clear F a; intro a F
    refine pk_free F (fun w _ => run_addi (F.ev rfl) (F.ev rfl) (in_i64 (by omega) (by omega))) rfl ?_; clear F a; intro a F
    refine pk_free F (fun w _ => run_move (F.ev rfl)) rfl ?_; clear F a; intro a F
    refine pk_free F (fun w _ => run_move (F.ev rfl)) rfl ?_; clear F a; intro a F
    refine pk_free F (fun w _ => run_move (F.ev rfl)) rfl ?_; clear F a; intro a F
    refine pk_free F (fun w _ => run_addi (F.ev rfl) (F.ev rfl) (in_i64 (by omega) (by omega))) rfl ?_; clear F a; intro a F
    refine pk_free F (fun w _ => run_move (F.ev rfl)) rfl ?_; clear F a; intro a F
    refine pk_free F (fun w _ => run_move (F.ev rfl)) rfl ?_; clear F a; intro a F
    refine pk_free F (fun w _ => run_move (F.ev rfl)) rfl ?_; clear F a; intro a F
    refine pk_free F (fun w _ => run_addi (F.ev rfl) (F.ev rfl) (in_i64 (by omega) (by omega))) rfl ?_; clear F a; intro a F
    obtain ⟨Xe2, hXe2⟩ := get_of_lt (xs := ys) (i := lb + i) (by omega)
    obtain ⟨be2, _, Ie2, hme2, _, Ae2, ⟨rfl, hbe21, hbe22⟩⟩ := M.atRowK (k := 0) rfl (by decide) Eo (Lr := [.row (.slice (ad) (n) (c)) (n) (cso) 39 2]) (k' := 0) rfl hXe2
    refine pk_free F (fun w _ => run_indexI tok22.k tok39 (F.ev rfl) (F.ev rfl) (by omega) Ie2) rfl ?_; clear F a; intro a F
    refine pk_pure F (fun w M => run_loadA tok39 rfl (F.ev rfl) (cs := [.int .u64 (Xe2.key), .int .i64 (Xe2.v)]) rfl (cellsE (Ae2 w M) 0 (by omega) rfl)) rfl ?_; clear F a; intro a F
    refine pk_free F (fun w _ => run_move (F.ev rfl)) rfl ?_; clear F a; intro a F
    refine pk_free F (fun w _ => run_move (F.ev rfl)) rfl ?_; clear F a; intro a F
    refine pk_free F (fun w _ => run_move (F.ev rfl)) rfl ?_; clear F a; intro a F
    refine pk_free F (fun w _ => run_addi (F.ev rfl) (F.ev rfl) (in_i64 (by omega) (by omega))) rfl ?_; clear F a; intro a F
    obtain ⟨Xe3, hXe3⟩ := get_of_lt (xs := ys) (i := lo + i) (by omega)
    obtain ⟨be3, _, Ie3, hme3, _, Ae3, ⟨rfl, hbe31, hbe32⟩⟩ := M.atRowK (k := 0) rfl (by decide) Eo (Lr := [.row (.slice (ad) (n) (c)) (n) (cso) 39 2]) (k' := 0) rfl hXe3
    refine pk_free F (fun w _ => run_indexI tok22.k tok39 (F.ev rfl) (F.ev rfl) (by omega) Ie3) rfl ?_; clear F a; intro a F
    refine pk_pure F (fun w M => run_loadA tok39 rfl (F.ev rfl) (cs := [.int .u64 (Xe3.key), .int .i64 (Xe3.v)]) rfl (cellsE (Ae3 w M) 0 (by omega) rfl)) rfl ?_; clear F a; intro a F
    obtain ⟨be4, _, Ie4, hme4, _, Ae4, ⟨rfl, hbe41, hbe42⟩⟩ := M.atRowK (k := 0) rfl (by decide) Eo (Lr := [.row (.slice (ad) (n) (c)) (n) (cso) 39 2]) (k' := 0) rfl hXe3
    refine pk_free F (fun w _ => run_indexI tok22.k tok39 (F.ev rfl) (F.ev rfl) (by omega) Ie4) rfl ?_; clear F a; intro a F
    refine pk_chg ?_ rfl
    refine rl_storeEl F M tok39 (k := 0) rfl rfl Eo Ie4 (lt_of_get hXe3) rfl rfl (us := [.int .u64 (Xe2.key), .int .i64 (Xe2.v)]) rfl rfl (by simp [Value.oneCell']) (X' := Xe2) (⟨rfl, by assumption, by assumption⟩) ?_; clear F M a; intro csu5 w a M Eu5 F
    refine rl_nil ?_
    refine ⟨Keep G [.row (.slice (ad) (n) (c)) (n) (csu5) 39 2], M.keep (Gle.refl _) (by simp), ?_⟩
    obtain ⟨Xe6, hXe6⟩ := get_of_lt (xs := (ys).set (lo + i) Xe2) (i := lb + i) (by (simp only [List.length_set]; omega))
    obtain ⟨be6, _, Ie6, hme6, _, Ae6, ⟨rfl, hbe61, hbe62⟩⟩ := M.atRowK (k := 0) rfl (by decide) Eu5 (Lr := [.row (.slice (ad) (n) (c)) (n) (csu5) 39 2]) (k' := 0) rfl hXe6
    refine pk_free F (fun w _ => run_indexI tok22.k tok39 (F.ev rfl) (F.ev rfl) (by omega) Ie6) rfl ?_; clear F a; intro a F
    refine pk_chg ?_ rfl
    refine rl_storeEl F M tok39 (k := 0) rfl rfl Eu5 Ie6 (lt_of_get hXe6) rfl rfl (us := [.int .u64 (Xe3.key), .int .i64 (Xe3.v)]) rfl rfl (by simp [Value.oneCell']) (X' := Xe3) (⟨rfl, by assumption, by assumption⟩) ?_; clear F M a; intro csu7 w a M Eu7 F
    refine rl_nil ?_
    refine ⟨Keep G [.row (.slice (ad) (n) (c)) (n) (csu7) 39 2], M.keep (Gle.refl _) (by simp), ?_⟩
    refine pk_nil ?_
    refine q_bn ?_
    refine q_tn ?_
    refine w_reg ?_
    refine rl_run F (run_move (F.ev rfl)) rfl ?_; clear F a; intro a F
    refine rl_run F (run_addi (F.ev rfl) (F.ev rfl) (in_i64 (by omega) (by omega))) rfl ?_; clear F a; intro a F
    refine rl_run F (run_assign (F.ev rfl)) rfl ?_; clear F a; intro a F
    refine rl_nil ?_
    refine q_tn ?_
    exact ⟨_, by omega, i + 1, csu7, ((ys).set (lo + i) Xe2).set (lb + i) Xe3, rfl, F.to ⟨rfl, rfl, rfl, rfl, rfl, trivial⟩, M, by omega, swI_step hF (by omega) hXe3 hXe2, Eu7⟩
  · intro hc
    have h8b := hc; clear hc
    have h8 : ¬ (((i : Nat) : Int) < (cnt : Int)) := of_decide_eq_false h8b
    refine wp_exit ?_
    refine q_te ?_
    refine q_te ?_
    refine q_bh ?_
    refine fin0n F rfl ?_
    have hic : i = cnt := by omega
    exact ⟨_, M, rfl, _, _, rfl, Eo, by rw [← hic]; exact hF⟩

theorem rot_spec {w0 w : World} {G : Ghost} {L : List Res} {n c d : Nat} {ad : Option Addr} {cs : List Value} {xs : List PairD} (M : Mem w0 G (.row (.slice ad n c) n cs 39 2 :: L) w) (E : Els rdPair 2 G cs xs) (hn : n = xs.length) (hxs : xs.length ≤ 1000000) {lo mi hi : Nat} (h1 : lo < mi) (h2 : mi < hi) (h3 : hi ≤ xs.length) :
    Calls Tryd.prog 75 #[.slice ad n d, .int .i64 (lo : Int), .int .i64 (mi : Int), .int .i64 (hi : Int), .func (.func 41) #[.agg #[]] #[]] w (RetL w0 G fun L' v => v = .tuple #[] ∧ ∃ cs' ys, L' = (.row (.slice ad n c) n cs' 39 2 :: L) ∧ Els rdPair 2 G cs' ys ∧ FromI (roI lo mi hi) xs ys) := by
  refine calls_start (vs := [_, _, _, _, _]) Tryd.func75 rfl (n := 58) rfl rfl ?_
  intro a F
  refine wp_seq ?_
  refine w_reg ?_
  refine rl_run F (run_move (F.ev rfl)) rfl ?_; clear F a; intro a F
  refine rl_run F (run_move (F.ev rfl)) rfl ?_; clear F a; intro a F
  refine rl_run F (run_subi (F.ev rfl) (F.ev rfl) (in_i64 (by omega) (by omega))) rfl ?_; clear F a; intro a F
  have hs1 : ((mi : Int) - (lo : Int) : Int) = ((mi - lo : Nat) : Int) := by omega
  rw [hs1] at F
  refine rl_run F (run_assign (F.ev rfl)) rfl ?_; clear F a; intro a F
  refine rl_nil ?_
  refine q_tn ?_
  refine wp_seq ?_
  refine w_reg ?_
  refine rl_run F (run_move (F.ev rfl)) rfl ?_; clear F a; intro a F
  refine rl_run F (run_move (F.ev rfl)) rfl ?_; clear F a; intro a F
  refine rl_run F (run_subi (F.ev rfl) (F.ev rfl) (in_i64 (by omega) (by omega))) rfl ?_; clear F a; intro a F
  have hs2 : ((hi : Int) - (mi : Int) : Int) = ((hi - mi : Nat) : Int) := by omega
  rw [hs2] at F
  refine rl_run F (run_assign (F.ev rfl)) rfl ?_; clear F a; intro a F
  refine rl_nil ?_
  refine q_tn ?_
  refine wp_seq ?_
  refine wp_block ?_
  refine w_loopN (fun m a' w' => ∃ (i : Nat), ∃ (j : Nat), ∃ (f : Nat → Nat), ∃ (cso : List Value), ∃ (ys : List PairD), m = i + j ∧ Fits 58 a' [(0, .slice (ad) (n) (d)), (1, .int .i64 ((lo : Int))), (2, .int .i64 ((mi : Int))), (3, .int .i64 ((hi : Int))), (4, .func (.func 41) #[.agg #[]] #[]), (10, .int .i64 (((i : Nat) : Int))), (11, .int .i64 (((j : Nat) : Int)))] ∧ Mem w0 G (.row (.slice (ad) (n) (c)) (n) (cso) 39 2 :: L) w' ∧ (0 < i ∧ 0 < j) ∧ (lo + i ≤ mi) ∧ (mi + j ≤ hi) ∧ (FromI f xs ys) ∧ (∀ p, f (roI (mi - i) mi (mi + j) p) = roI lo mi hi p) ∧ (Els rdPair 2 G cso ys)) _ ⟨mi - lo, hi - mi, (fun p => p), cs, xs, rfl, F.to ⟨rfl, rfl, rfl, rfl, rfl, rfl, rfl, trivial⟩, M, by omega, by omega, by omega, FromI.id (fun _ => rfl), fun p => by rw [show mi - (mi - lo) = lo by omega, show mi + (hi - mi) = hi by omega], E⟩ ?_
  clear F M
  rintro m a w ⟨i, j, f, cso, ys, rfl, F, M, hi0, hi, hj, hF, hf, Eo⟩
  refine wp_seq ?_
  refine wp_seq ?_
  refine w_reg ?_
  refine rl_run F (run_move (F.ev rfl)) rfl ?_; clear F a; intro a F
  refine rl_run F (run_move (F.ev rfl)) rfl ?_; clear F a; intro a F
  refine rl_run F (run_nei (F.ev rfl) (F.ev rfl)) rfl ?_; clear F a; intro a F
  refine rl_nil ?_
  refine q_tn ?_
  refine w_cond F rfl ?_ ?_
  · intro hc
    have h3b := hc; clear hc
    have h3 : ¬ (((i : Nat) : Int) = ((j : Nat) : Int)) := of_decide_eq_false (of_not_t h3b)
    have h3c : (decide (((i : Nat) : Int) = ((j : Nat) : Int))) = false := (of_not_t h3b)
    refine wp_skip ?_
    refine q_tn ?_
    refine wp_block ?_
    refine wp_seq ?_
    refine w_reg ?_
    refine rl_run F (run_move (F.ev rfl)) rfl ?_; clear F a; intro a F
    refine rl_run F (run_move (F.ev rfl)) rfl ?_; clear F a; intro a F
    refine rl_run F (run_gtr (F.ev rfl) (F.ev rfl)) rfl ?_; clear F a; intro a F
    refine rl_nil ?_
    refine q_tn ?_
    refine w_cond F rfl ?_ ?_
    · intro hc
      have h4b := hc; clear hc
      have h4 : ((j : Nat) : Int) < ((i : Nat) : Int) := of_decide_eq_true h4b
      refine wp_seq ?_
      refine w_reg ?_
      refine rl_run F (run_move (F.ev rfl)) rfl ?_; clear F a; intro a F
      refine rl_run F (run_move (F.ev rfl)) rfl ?_; clear F a; intro a F
      refine rl_run F (run_move (F.ev rfl)) rfl ?_; clear F a; intro a F
      refine rl_run F (run_subi (F.ev rfl) (F.ev rfl) (in_i64 (by omega) (by omega))) rfl ?_; clear F a; intro a F
      have hs5 : ((mi : Int) - (((i : Nat) : Int)) : Int) = ((mi - i : Nat) : Int) := by omega
      rw [hs5] at F
      refine rl_run F (run_move (F.ev rfl)) rfl ?_; clear F a; intro a F
      refine rl_run F (run_move (F.ev rfl)) rfl ?_; clear F a; intro a F
      refine rl_run F (run_move (F.ev rfl)) rfl ?_; clear F a; intro a F
      change Mem w0 G (.row (.slice (ad) (n) (c)) (n) (cso) 39 2 :: L) _ at M
      refine rl_callL F ent86 rfl rfl (swr_spec (lo := mi - i) (lb := mi) (cnt := j) M Eo (by have := hF.1; omega) (by (have := hF.1; omega)) (by omega) (by (have := hF.1; omega))) ?_; clear F M a; rintro _ _ w a M ⟨rfl, csg6, ysg6, rfl, Eg6, hWg6⟩ F
      refine rl_nil ?_
      refine q_tn ?_
      refine w_reg ?_
      refine rl_run F (run_move (F.ev rfl)) rfl ?_; clear F a; intro a F
      refine rl_run F (run_move (F.ev rfl)) rfl ?_; clear F a; intro a F
      refine rl_run F (run_subi (F.ev rfl) (F.ev rfl) (in_i64 (by omega) (by omega))) rfl ?_; clear F a; intro a F
      have hs7 : ((((i : Nat) : Int)) - (((j : Nat) : Int)) : Int) = ((i - j : Nat) : Int) := by omega
      rw [hs7] at F
      refine rl_run F (run_assign (F.ev rfl)) rfl ?_; clear F a; intro a F
      refine rl_nil ?_
      refine q_bn ?_
      refine q_tn ?_
      exact ⟨_, by omega, i - j, j, (fun q => f (swI (mi - i) mi j q)), csg6, ysg6, rfl, F.to ⟨rfl, rfl, rfl, rfl, rfl, rfl, rfl, trivial⟩, M, by omega, by omega, by omega, hF.comp hWg6 (fun _ => rfl), fun p => (congrArg f (roI_gt (by omega) (by omega) p)).trans (hf p), Eg6⟩
    · intro hc
      have h8b := hc; clear hc
      have h8 : ¬ (((j : Nat) : Int) < ((i : Nat) : Int)) := of_decide_eq_false h8b
      refine wp_seq ?_
      refine w_reg ?_
      refine rl_run F (run_move (F.ev rfl)) rfl ?_; clear F a; intro a F
      refine rl_run F (run_move (F.ev rfl)) rfl ?_; clear F a; intro a F
      refine rl_run F (run_move (F.ev rfl)) rfl ?_; clear F a; intro a F
      refine rl_run F (run_subi (F.ev rfl) (F.ev rfl) (in_i64 (by omega) (by omega))) rfl ?_; clear F a; intro a F
      have hs9 : ((mi : Int) - (((i : Nat) : Int)) : Int) = ((mi - i : Nat) : Int) := by omega
      rw [hs9] at F
      refine rl_run F (run_move (F.ev rfl)) rfl ?_; clear F a; intro a F
      refine rl_run F (run_move (F.ev rfl)) rfl ?_; clear F a; intro a F
      refine rl_run F (run_addi (F.ev rfl) (F.ev rfl) (in_i64 (by omega) (by omega))) rfl ?_; clear F a; intro a F
      refine rl_run F (run_move (F.ev rfl)) rfl ?_; clear F a; intro a F
      refine rl_run F (run_subi (F.ev rfl) (F.ev rfl) (in_i64 (by omega) (by omega))) rfl ?_; clear F a; intro a F
      have hs10 : (((mi : Int) + (((j : Nat) : Int))) - (((i : Nat) : Int)) : Int) = (((mi + j) - i : Nat) : Int) := by omega
      rw [hs10] at F
      refine rl_run F (run_move (F.ev rfl)) rfl ?_; clear F a; intro a F
      refine rl_run F (run_move (F.ev rfl)) rfl ?_; clear F a; intro a F
      change Mem w0 G (.row (.slice (ad) (n) (c)) (n) (cso) 39 2 :: L) _ at M
      refine rl_callL F ent86 rfl rfl (swr_spec (lo := mi - i) (lb := (mi + j) - i) (cnt := i) M Eo (by have := hF.1; omega) (by (have := hF.1; omega)) (by omega) (by (have := hF.1; omega))) ?_; clear F M a; rintro _ _ w a M ⟨rfl, csg11, ysg11, rfl, Eg11, hWg11⟩ F
      refine rl_nil ?_
      refine q_tn ?_
      refine w_reg ?_
      refine rl_run F (run_move (F.ev rfl)) rfl ?_; clear F a; intro a F
      refine rl_run F (run_move (F.ev rfl)) rfl ?_; clear F a; intro a F
      refine rl_run F (run_subi (F.ev rfl) (F.ev rfl) (in_i64 (by omega) (by omega))) rfl ?_; clear F a; intro a F
      have hs12 : ((((j : Nat) : Int)) - (((i : Nat) : Int)) : Int) = ((j - i : Nat) : Int) := by omega
      rw [hs12] at F
      refine rl_run F (run_assign (F.ev rfl)) rfl ?_; clear F a; intro a F
      refine rl_nil ?_
      refine q_bn ?_
      refine q_tn ?_
      exact ⟨_, by omega, i, j - i, (fun q => f (swI (mi - i) (mi + j - i) i q)), csg11, ysg11, rfl, F.to ⟨rfl, rfl, rfl, rfl, rfl, rfl, rfl, trivial⟩, M, by omega, by omega, by omega, hF.comp hWg11 (fun _ => rfl), fun p => (congrArg f (roI_lt (by omega) (by omega) p)).trans (hf p), Eg11⟩
  · intro hc
    have h13b := hc; clear hc
    have h13 : ((i : Nat) : Int) = ((j : Nat) : Int) := of_decide_eq_true (of_not_f h13b)
    have h13c : (decide (((i : Nat) : Int) = ((j : Nat) : Int))) = true := (of_not_f h13b)
    refine wp_exit ?_
    refine q_te ?_
    refine q_te ?_
    refine q_bh ?_
    refine q_tn ?_
    refine w_reg ?_
    refine rl_run F (run_move (F.ev rfl)) rfl ?_; clear F a; intro a F
    refine rl_run F (run_move (F.ev rfl)) rfl ?_; clear F a; intro a F
    refine rl_run F (run_move (F.ev rfl)) rfl ?_; clear F a; intro a F
    refine rl_run F (run_subi (F.ev rfl) (F.ev rfl) (in_i64 (by omega) (by omega))) rfl ?_; clear F a; intro a F
    have hs14 : ((mi : Int) - (((i : Nat) : Int)) : Int) = ((mi - i : Nat) : Int) := by omega
    rw [hs14] at F
    refine rl_run F (run_move (F.ev rfl)) rfl ?_; clear F a; intro a F
    refine rl_run F (run_move (F.ev rfl)) rfl ?_; clear F a; intro a F
    refine rl_run F (run_move (F.ev rfl)) rfl ?_; clear F a; intro a F
    change Mem w0 G (.row (.slice (ad) (n) (c)) (n) (cso) 39 2 :: L) _ at M
    refine rl_callL F ent86 rfl rfl (swr_spec (lo := mi - i) (lb := mi) (cnt := i) M Eo (by have := hF.1; omega) (by (have := hF.1; omega)) (by omega) (by (have := hF.1; omega))) ?_; clear F M a; rintro _ _ w a M ⟨rfl, csg15, ysg15, rfl, Eg15, hWg15⟩ F
    refine rl_nil ?_
    refine fin0n F rfl ?_
    have hij : i = j := by omega
    exact ⟨_, M, rfl, _, _, rfl, Eg15, hF.comp hWg15 (fun p => by rw [roI_eq (by omega)]; have h := hf p; rw [← hij] at h; exact h)⟩

end Go.Proofs.YtokeofoemjeleaaDoor
