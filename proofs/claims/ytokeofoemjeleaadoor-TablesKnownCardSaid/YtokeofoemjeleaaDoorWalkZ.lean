/- The walks, part Z. -/
import Derived.Test.YtokeofoemjeleaaDoorWalkR
namespace Go.Proofs.YtokeofoemjeleaaDoor
open Go Go.Y Go.Proofs
set_option linter.unusedSimpArgs false
set_option linter.unusedVariables false
theorem stable_small {w0 w : World} {G : Ghost} {L : List Res} {n c d : Nat} {ad : Option Addr} {cs : List Value} {xs : List PairD} (M : Mem w0 G (.row (.slice ad n c) n cs 39 2 :: L) w) (E : Els rdPair 2 G cs xs) (hn : n = xs.length) (hxs : xs.length ≤ 1000000) (h20 : xs.length < 20) :
    Calls Tryd.prog 52 #[.slice ad n d, .int .i64 (n : Int), .func (.func 41) #[.agg #[]] #[]] w (RetL w0 G fun L' v => v = .tuple #[] ∧ ∃ cs' ys, L' = (.row (.slice ad n c) n cs' 39 2 :: L) ∧ Els rdPair 2 G cs' ys ∧ Seg 0 n xs ys ∧ SrtR ys 0 n) := by
  refine calls_start (vs := [_, _, _]) Tryd.func52 rfl (n := 63) rfl rfl ?_
  intro a F
  refine wp_seq ?_
  refine w_reg ?_
  refine rl_run F (run_assign (F.ev rfl)) rfl ?_; clear F a; intro a F
  refine rl_nil ?_
  refine q_tn ?_
  refine wp_seq ?_
  refine w_reg ?_
  refine rl_run F (run_move (F.ev rfl)) rfl ?_; clear F a; intro a F
  refine rl_run F (run_assign (F.ev rfl)) rfl ?_; clear F a; intro a F
  refine rl_run F (run_assign (F.ev rfl)) rfl ?_; clear F a; intro a F
  refine rl_nil ?_
  refine q_tn ?_
  refine wp_seq ?_
  refine wp_block ?_
  refine w_loopN (fun m a' w' => m = 0 ∧ Fits 63 a' [(0, .slice (ad) (n) (d)), (1, .int .i64 (((n : Nat) : Int))), (2, .func (.func 41) #[.agg #[]] #[]), (6, .int .i64 (20)), (7, .int .i64 (0)), (8, .int .i64 (20))] ∧ Mem w0 G (.row (.slice (ad) (n) (c)) (n) (cs) 39 2 :: L) w') _ ⟨rfl, F.to ⟨rfl, rfl, rfl, rfl, rfl, rfl, trivial⟩, M⟩ ?_
  clear F M
  rintro m a w ⟨rfl, F, M⟩
  refine wp_seq ?_
  refine wp_seq ?_
  refine w_reg ?_
  refine rl_run F (run_move (F.ev rfl)) rfl ?_; clear F a; intro a F
  refine rl_run F (run_move (F.ev rfl)) rfl ?_; clear F a; intro a F
  refine rl_run F (run_leq (F.ev rfl) (F.ev rfl)) rfl ?_; clear F a; intro a F
  refine rl_nil ?_
  refine q_tn ?_
  refine w_cond_f F rfl (decide_eq_false (by omega)) ?_
  refine wp_exit ?_
  refine q_te ?_
  refine q_te ?_
  refine q_bh ?_
  refine q_tn ?_
  refine wp_seq ?_
  refine w_reg ?_
  refine rl_run F (run_move (F.ev rfl)) rfl ?_; clear F a; intro a F
  refine rl_run F (run_move (F.ev rfl)) rfl ?_; clear F a; intro a F
  refine rl_run F (run_move (F.ev rfl)) rfl ?_; clear F a; intro a F
  refine rl_run F (run_move (F.ev rfl)) rfl ?_; clear F a; intro a F
  change Mem w0 G (.row (.slice (ad) (n) (c)) (n) (cs) 39 2 :: L) _ at M
  refine rl_callL F ent62 rfl rfl (ins_spec (lo := 0) (b := n) M E hn (by omega) (by omega) (by omega)) ?_; clear F M a; rintro _ _ w a M ⟨rfl, csg1, ysg1, rfl, Eg1, hGg1, hSg1⟩ F
  refine rl_nil ?_
  refine q_tn ?_
  refine wp_block ?_
  refine w_loopN (fun m a' w' => m = 0 ∧ Fits 63 a' [(0, .slice (ad) (n) (d)), (1, .int .i64 (((n : Nat) : Int))), (2, .func (.func 41) #[.agg #[]] #[]), (6, .int .i64 (20))] ∧ Mem w0 G (.row (.slice (ad) (n) (c)) (n) (csg1) 39 2 :: L) w') _ ⟨rfl, F.to ⟨rfl, rfl, rfl, rfl, trivial⟩, M⟩ ?_
  clear F M
  rintro m a w ⟨rfl, F, M⟩
  refine wp_seq ?_
  refine wp_seq ?_
  refine w_reg ?_
  refine rl_run F (run_move (F.ev rfl)) rfl ?_; clear F a; intro a F
  refine rl_run F (run_move (F.ev rfl)) rfl ?_; clear F a; intro a F
  refine rl_run F (run_lss (F.ev rfl) (F.ev rfl)) rfl ?_; clear F a; intro a F
  refine rl_nil ?_
  refine q_tn ?_
  refine w_cond_f F rfl (decide_eq_false (by omega)) ?_
  refine wp_exit ?_
  refine q_te ?_
  refine q_te ?_
  refine q_bh ?_
  refine fin0n F rfl ?_
  exact ⟨_, M, rfl, _, _, rfl, Eg1, hGg1, hSg1⟩

theorem sortst_small {w0 w : World} {G : Ghost} {L : List Res} {n c d : Nat} {ad : Option Addr} {cs : List Value} {xs : List PairD} (M : Mem w0 G (.row (.slice ad n c) n cs 39 2 :: L) w) (E : Els rdPair 2 G cs xs) (hn : n = xs.length) (hxs : xs.length ≤ 1000000) (h20 : xs.length < 20) :
    Calls Tryd.prog 42 #[.slice ad n d, .func (.func 41) #[.agg #[]] #[]] w (RetL w0 G fun L' v => v = .tuple #[] ∧ ∃ cs' ys, L' = (.row (.slice ad n c) n cs' 39 2 :: L) ∧ Els rdPair 2 G cs' ys ∧ Seg 0 n xs ys ∧ SrtR ys 0 n) := by
  refine calls_start (vs := [_, _]) Tryd.func42 rfl (n := 9) rfl rfl ?_
  intro a F
  refine w_reg ?_
  refine rl_run F (run_move (F.ev rfl)) rfl ?_; clear F a; intro a F
  refine rl_run F (run_move (F.ev rfl)) rfl ?_; clear F a; intro a F
  refine rl_run F (run_lenSl tok22.k (F.ev rfl)) rfl ?_; clear F a; intro a F
  refine rl_run F (run_move (F.ev rfl)) rfl ?_; clear F a; intro a F
  change Mem w0 G (.row (.slice (ad) (n) (c)) (n) (cs) 39 2 :: L) _ at M
  refine rl_callL F ent52 rfl rfl (stable_small M E hn (by omega) (by omega)) ?_; clear F M a; rintro _ _ w a M ⟨rfl, csg1, ysg1, rfl, Eg1, hGg1, hSg1⟩ F
  refine rl_nil ?_
  refine fin0n F rfl ?_
  exact ⟨_, M, rfl, _, _, rfl, Eg1, hGg1, hSg1⟩

theorem sorted_small {w0 w : World} {G : Ghost} {L : List Res} (M : Mem w0 G L w) {ad : Option Addr} {c : Nat} {xs : List PairD} (S : RdSl rdPair 2 G (.slice ad xs.length c) xs) (hxs : xs.length ≤ 9223372036854775807) (h20 : xs.length < 20) :
    Calls Tryd.prog 22 #[.slice ad xs.length c] w (Ret w0 G L fun G' v => ∃ a' ys, v = .slice a' ys.length ys.length ∧ RdSl rdPair 2 G' (.slice a' ys.length ys.length) ys ∧ Same xs ys ∧ ys.length = xs.length ∧ SrtR ys 0 ys.length) := by
  refine calls_start (vs := [_]) Tryd.func22 rfl (n := 14) rfl rfl ?_
  intro a F
  refine wp_seq ?_
  refine w_reg ?_
  refine rl_run F (run_assign (F.ev rfl)) rfl ?_; clear F a; intro a F
  refine rl_nil ?_
  refine q_tn ?_
  refine wp_seq ?_
  refine w_reg ?_
  refine rl_run F (run_move (F.ev rfl)) rfl ?_; clear F a; intro a F
  refine rl_callL F ent27 rfl rfl (clone_spec M S (by omega) (by omega)) ?_; clear F M a; rintro _ _ w a M ⟨ak1, nk1, ck1, csk1, rfl, rfl, hnk1, Ek1⟩ F
  have sh2 := M.row_bound (k := 0) rfl
  refine rl_callS F ent31 rfl rfl (clip_spec M sh2.1 sh2.2) ?_; clear F M a; rintro _ w a M rfl F
  refine rl_run F (run_assign (F.ev rfl)) rfl ?_; clear F a; intro a F
  refine rl_nil ?_
  refine q_tn ?_
  refine wp_seq ?_
  refine w_reg ?_
  refine rl_run F (run_buildS (cs := []) (ps := []) tok87.k rfl tok87 (F.evp rfl) rfl) rfl ?_; clear F a; intro a F
  refine rl_run F (run_makeFunc1 (F.ev rfl)) rfl ?_; clear F a; intro a F
  refine rl_run F (run_assign (F.ev rfl)) rfl ?_; clear F a; intro a F
  refine rl_nil ?_
  refine q_tn ?_
  refine wp_seq ?_
  refine w_reg ?_
  refine rl_run F (run_move (F.ev rfl)) rfl ?_; clear F a; intro a F
  refine rl_run F (run_move (F.ev rfl)) rfl ?_; clear F a; intro a F
  change Mem w0 G (.row (.slice (ak1) (nk1) (ck1)) (nk1) (csk1) 39 2 :: L) _ at M
  refine rl_callL F ent42 rfl rfl (sortst_small M Ek1 hnk1 (by omega) (by omega)) ?_; clear F M a; rintro _ _ w a M ⟨rfl, csg3, ysg3, rfl, Eg3, hGg3, hSg3⟩ F
  refine rl_nil ?_
  refine q_tn ?_
  refine wp_seq ?_
  refine w_reg ?_
  refine rl_run F (run_move (F.ev rfl)) rfl ?_; clear F a; intro a F
  refine rl_run F (run_assign (F.ev rfl)) rfl ?_; clear F a; intro a F
  refine rl_nil ?_
  refine q_tn ?_
  refine wp_ret ?_
  refine fin1 F rfl rfl ?_
  have hlg3 := hGg3.len
  have hSg3 : SrtR ysg3 0 ysg3.length := hSg3.mono (Nat.le_refl _) (by omega)
  obtain ⟨hnz4, Gz4, az4, cz4, hGz4, hez4, Sz4, M⟩ := M.freeze_row mono_rdPair (k := 0) rfl Eg3 (by decide)
  clear hez4 az4 cz4
  exact ⟨Gz4, hGz4, M.weaken (List.Sublist.refl _), _, ysg3, by rw [← hnz4], by have h := Sz4.clip; rw [hnz4] at h; exact h, hGg3.same, hlg3, hSg3⟩

end Go.Proofs.YtokeofoemjeleaaDoor
