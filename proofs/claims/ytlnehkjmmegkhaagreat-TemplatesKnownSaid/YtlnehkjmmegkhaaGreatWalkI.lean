/- The walks, part I. -/
import Derived.Test.YtlnehkjmmegkhaaGreatWalkH
namespace Go.Proofs.YtlnehkjmmegkhaaGreat
open Go Go.Y Go.Proofs
set_option linter.unusedSimpArgs false
set_option linter.unusedVariables false
theorem deci_spec {w0 w : World} {G : Ghost} {L : List Res} (M : Mem w0 G L w) {u : Nat} (hu : u < 18446744073709551616) : Calls Tryz.prog 91 #[.int .u64 (u : Int)] w (RetS w0 G L fun v => v = .string (str (Lib.decDigits u))) := by
  refine calls_start (vs := [_]) Tryz.func91 rfl (n := 19) rfl rfl ?_
  intro a F
  refine wp_seq <| w_reg <| rl_run F (run_assign (F.ev rfl)) rfl ?_; clear F a; intro a F
  refine rl_nil <| q_tn <| wp_seq <| w_reg <| rl_alloc F M tok150 rfl rfl ?_; clear F M a; intro b1 w a M F
  refine rl_nil <| q_tn <| wp_seq ?_
  replace M : Mem w0 G (.blk b1 (bc (List.replicate 20 0)) 150 :: L) w := M
  refine w_reg <| rl_run F (run_assign (F.ev rfl)) rfl ?_; clear F a; intro a F
  refine rl_nil <| q_tn <| wp_block <| w_loopN (fun m a' w' => ∃ (i : Nat), ∃ (n : Nat), ∃ (ls : List UInt8), m = i + 1 ∧ Fits 19 a' [(3, .pointer (some ⟨b1, 0, none⟩)), (0, .int .u64 (((n : Nat) : Int))), (4, .int .i64 (((i : Nat) : Int)))] ∧ Mem w0 G (.blk b1 (bc (ls)) 150 :: L) w' ∧ (i ≤ 20) ∧ (ls.length = 20) ∧ (n < 18446744073709551616) ∧ (Lib.decDigits u = Lib.decDigits n ++ ls.drop i)) _ ⟨20, u, List.replicate 20 0, rfl, F.to ⟨rfl, rfl, rfl, trivial⟩, M, Nat.le_refl _, by simp, hu, by simp⟩ ?_
  clear F M
  rintro m a w ⟨i, n, ls, rfl, F, M, hi, hl20, hn64, hD⟩
  refine wp_block <| wp_seq ?_
  have h1i := decl_pos hD hu hl20 hi
  refine w_reg <| rl_run F (run_move (F.ev rfl)) rfl ?_; clear F a; intro a F
  refine rl_run F (run_subi (F.ev rfl) (F.ev rfl) (in_i64 (by omega) (by omega))) rfl ?_; clear F a; intro a F
  have hs3 : ((((i : Nat) : Int)) - 1 : Int) = ((i - 1 : Nat) : Int) := by omega
  rw [hs3] at F
  refine rl_run F (run_assign (F.ev rfl)) rfl ?_; clear F a; intro a F
  refine rl_nil <| q_tn <| wp_seq <| w_reg ?_
  iterate 2 (refine rl_run F (run_move (F.ev rfl)) rfl ?_; clear F a; intro a F)
  refine rl_run F (run_remi (F.ev rfl) (F.ev rfl) (by omega) (by omega)) rfl ?_; clear F a; intro a F
  obtain ⟨B4, hB4⟩ := get_of_lt (xs := ([48, 49, 50, 51, 52, 53, 54, 55, 56, 57] : List UInt8)) (i := n % 10) (by (show n % 10 < 10; omega))
  have lB4 := nb_hi B4
  refine rl_run F (run_strIndex (i := n % 10) tok9.k (F.ev rfl) (F.ev rfl) hB4) rfl ?_; clear F a; intro a F
  refine rl_run F (run_idxPtr (j := i - 1) tok150.k tok5 rfl (F.ev rfl) (F.ev rfl) (by omega) (by omega)) rfl ?_; clear F a; intro a F
  refine rl_store1 F M tok5 rfl (k := 0) rfl rfl rfl rfl (List.getElem?_eq_getElem (by rw [bc_len]; omega)) ?_; clear F M a; intro w a M F
  rw [Nat.zero_add, bc_set] at M
  change Mem w0 G (.blk b1 (bc ((ls).set (i - 1) B4)) 150 :: L) _ at M
  have hBt := hB4
  refine rl_nil <| q_tn <| wp_seq <| w_reg <| rl_run F (run_move (F.ev rfl)) rfl ?_; clear F a; intro a F
  refine rl_run F (run_quoi (F.ev rfl) (F.ev rfl) (by omega) (by omega) (in_u64 (by omega) (by omega))) rfl ?_; clear F a; intro a F
  refine rl_run F (run_assign (F.ev rfl)) rfl ?_; clear F a; intro a F
  refine rl_nil <| q_tn <| wp_seq <| w_reg <| rl_run F (run_move (F.ev rfl)) rfl ?_; clear F a; intro a F
  refine rl_run F (run_eqi (F.ev rfl) (F.ev rfl)) rfl ?_; clear F a; intro a F
  refine rl_nil <| q_tn <| w_cond F rfl ?_ ?_
  · intro hc
    have h5b := hc; clear hc
    have h5 : (((n : Nat) : Int)) / 10 = 0 := of_decide_eq_true h5b
    refine wp_seq <| w_reg <| rl_run F (run_move (F.ev rfl)) rfl ?_; clear F a; intro a F
    refine rl_run F (run_sliceArrL (l := i - 1) tok150.k tok5 rfl (F.ev rfl) (F.ev rfl) (by omega) (by omega)) rfl ?_; clear F a; intro a F
    refine rl_run F (run_strOfBlkL M (k := 0) rfl tok22.k tok5.k tok9.k (F.ev rfl) (by rw [List.length_set]; omega)) rfl ?_; clear F a; intro a F
    refine rl_run F (run_assign (F.ev rfl)) rfl ?_; clear F a; intro a F
    refine rl_nil <| q_tn <| wp_ret <| q_br <| q_tr <| q_br <| fin1 F rfl rfl ?_
    have h_ := decl_step hD h1i hi hl20 hBt
    rw [if_pos (by omega), List.nil_append] at h_
    exact ⟨M.weaken (.cons _ (List.Sublist.refl _)), by rw [h_]⟩
  · intro hc
    have h6b := hc; clear hc
    have h6 : ¬ ((((n : Nat) : Int)) / 10 = 0) := of_decide_eq_false h6b
    refine wp_skip <| q_bn <| q_tn ?_
    exact ⟨_, by omega, i - 1, n / 10, (ls).set (i - 1) B4, rfl, F.to ⟨rfl, rfl, rfl, trivial⟩, M, by omega, by rw [List.length_set]; exact hl20, by omega, by have h_ := decl_step hD h1i hi hl20 hBt; rw [if_neg (by omega)] at h_; exact h_⟩
end Go.Proofs.YtlnehkjmmegkhaaGreat
