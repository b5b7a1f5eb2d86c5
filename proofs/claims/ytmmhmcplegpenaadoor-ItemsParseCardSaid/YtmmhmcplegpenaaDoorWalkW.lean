/- The walks, part W. -/
import Derived.Test.YtmmhmcplegpenaaDoorWalkL
namespace Go.Proofs.YtmmhmcplegpenaaDoor
open Go Go.Y Go.Proofs
set_option linter.unusedSimpArgs false
set_option linter.unusedVariables false
theorem parse_ret {w0 w : World} {G : Ghost} {L : List Res} (M : Mem w0 G L w) (HG : Globs 0 1 2 3 G) {s : List UInt8} (hs : s.length ≤ 9223372036854775807) : Calls Tryd.prog 5 #[.string (str s)] w (Ret w0 G L fun _ v => v = .bool true) := by
 refine calls_start (vs := [_]) Tryd.func5 rfl (n := 64) rfl rfl ?_
 intro a F
 refine wp_seq <| w_reg <| rl_run F (run_assign (F.ev rfl)) rfl ?_; clear F a; intro a F
 refine rl_nil <| q_tn ?_
 iterate 2 (refine wp_seq ?_)
 refine w_reg <| rl_run F (run_move (F.ev rfl)) rfl ?_; clear F a; intro a F
 refine rl_run F (run_lenStr tok9.k (F.ev rfl)) rfl ?_; clear F a; intro a F
 refine rl_run F (run_gtr (F.ev rfl) (F.ev rfl)) rfl ?_; clear F a; intro a F
 refine rl_nil <| q_tn <| w_cond F rfl ?_ ?_
 ·intro hc
  have h1b := hc; clear hc
  have h1 : 400 < (((s).length : Nat) : Int) := of_decide_eq_true h1b
  refine wp_seq <| w_reg <| rl_callS F ent8 rfl rfl (lives_spec M HG) ?_; clear F M a; rintro _ w a M rfl F
  refine rl_run F (run_assign (F.ev rfl)) rfl ?_; clear F a; intro a F
  refine rl_nil <| q_tn <| wp_ret <| q_tr <| fin1 F rfl rfl ?_
  exact ⟨_, (Gle.refl _), M.weaken (List.Sublist.refl _), rfl⟩
 ·intro hc
  have h2b := hc; clear hc
  have h2 : ¬ (400 < (((s).length : Nat) : Int)) := of_decide_eq_false h2b
  refine wp_skip <| q_tn <| wp_seq <| w_reg <| rl_run F (run_move (F.ev rfl)) rfl ?_; clear F a; intro a F
  refine rl_call F ent15 rfl rfl (rparse_spec (s := (s)) M (by omega)) ?_; clear F M a; rintro _ Gq3 w a hGq3 M ⟨aq3, cq3, rfl, Sq3⟩ F
  replace HG := HG.mono hGq3
  refine rl_run F (run_move (F.ev rfl)) rfl ?_; clear F a; intro a F
  refine rl_run F (run_extract (v := .slice (aq3) ((parseF s).1.length) (cq3)) (F.ev rfl) rfl) rfl ?_; clear F a; intro a F
  refine rl_run F (run_extract (v := .int .i64 ((((parseF s).2.1 : Nat) : Int))) (F.ev rfl) rfl) rfl ?_; clear F a; intro a F
  refine rl_run F (run_extract (v := .int .i64 ((parseF s).2.2)) (F.ev rfl) rfl) rfl ?_; clear F a; intro a F
  iterate 3 (refine rl_run F (run_assign (F.ev rfl)) rfl ?_; clear F a; intro a F)
  refine rl_nil <| q_tn <| wp_seq <| w_reg <| rl_run F (run_move (F.ev rfl)) rfl ?_; clear F a; intro a F
  refine rl_call F ent13 rfl rfl (parse_spec (s := (s)) M HG (by omega)) ?_; clear F M a; rintro _ Gq4 w a hGq4 M ⟨aq4, rfl, Sq4⟩ F
  replace HG := HG.mono hGq4
  replace Sq3 := Sq3.mono mono_rdItem hGq4
  refine rl_run F (run_move (F.ev rfl)) rfl ?_; clear F a; intro a F
  refine rl_run F (run_extract (v := .slice (aq4) ((parseF s).1.length) ((parseF s).1.length)) (F.ev rfl) rfl) rfl ?_; clear F a; intro a F
  refine rl_run F (run_extract (v := .int .i64 ((((parseF s).2.1 : Nat) : Int))) (F.ev rfl) rfl) rfl ?_; clear F a; intro a F
  refine rl_run F (run_extract (v := .int .i64 ((parseF s).2.2)) (F.ev rfl) rfl) rfl ?_; clear F a; intro a F
  iterate 3 (refine rl_run F (run_assign (F.ev rfl)) rfl ?_; clear F a; intro a F)
  refine rl_nil <| q_tn ?_
  iterate 2 (refine wp_seq ?_)
  refine w_reg ?_
  iterate 2 (refine rl_run F (run_move (F.ev rfl)) rfl ?_; clear F a; intro a F)
  refine rl_run F (run_nei (F.ev rfl) (F.ev rfl)) rfl ?_; clear F a; intro a F
  refine rl_run F (run_move (F.ev rfl)) rfl ?_; clear F a; intro a F
  refine rl_guard_t F rfl rfl rfl (not_f (decide_eq_true rfl)) ?_
  refine rl_run F (run_move (F.ev rfl)) rfl ?_; clear F a; intro a F
  refine rl_guard_t F rfl rfl rfl (not_f (decide_eq_true rfl)) ?_
  refine rl_run F (run_move (F.ev rfl)) rfl ?_; clear F a; intro a F
  refine rl_guard_t F rfl rfl rfl (not_f (decide_eq_true rfl)) ?_
  refine rl_run F (run_nei (F.ev rfl) (F.ev rfl)) rfl ?_; clear F a; intro a F
  refine rl_run F (run_pick_f (F.ev rfl) (not_f (decide_eq_true rfl)) (F.ev rfl)) rfl ?_; clear F a; intro a F
  refine rl_run F (run_move (F.ev rfl)) rfl ?_; clear F a; intro a F
  refine rl_guard_t F rfl rfl rfl (not_f (decide_eq_true rfl)) ?_
  refine rl_run F (run_move (F.ev rfl)) rfl ?_; clear F a; intro a F
  refine rl_guard_t F rfl rfl rfl (not_f (decide_eq_true rfl)) ?_
  refine rl_run F (run_move (F.ev rfl)) rfl ?_; clear F a; intro a F
  refine rl_guard_t F rfl rfl rfl (not_f (decide_eq_true rfl)) ?_
  refine rl_callS F ent14 rfl rfl (rsameall_spec (xs := (parseF s).1) (ys := (parseF s).1) M Sq4 Sq3) ?_; clear F M a; rintro _ w a M rfl F
  refine rl_guard_t F rfl rfl rfl (not_f (decide_eq_true rfl)) ?_
  refine rl_run F (run_eqi (F.ev rfl) (F.ev rfl)) rfl ?_; clear F a; intro a F
  refine rl_run F (run_pick_f (F.ev rfl) (not_f (decide_eq_true rfl)) (F.ev rfl)) rfl ?_; clear F a; intro a F
  refine rl_nil <| q_tn <| w_cond_f F rfl (decide_eq_false (by (rw [if_pos rfl]; decide))) ?_
  refine wp_skip <| q_tn ?_
  iterate 2 (refine wp_seq ?_)
  refine w_reg <| rl_run F (run_move (F.ev rfl)) rfl ?_; clear F a; intro a F
  refine rl_run F (run_nei (F.ev rfl) (F.ev rfl)) rfl ?_; clear F a; intro a F
  refine rl_nil <| q_tn <| w_cond F rfl ?_ ?_
  ·intro hc
   have h5b := hc; clear hc
   have h5 : ¬ ((parseF s).2.2 = 0) := of_decide_eq_false (of_not_t h5b)
   have h5c : (decide ((parseF s).2.2 = 0)) = false := (of_not_t h5b)
   refine wp_seq <| w_reg <| rl_run F (run_move (F.ev rfl)) rfl ?_; clear F a; intro a F
   refine rl_run F (run_lenSl tok22.k (F.ev rfl)) rfl ?_; clear F a; intro a F
   refine rl_run F (run_eqi (F.ev rfl) (F.ev rfl)) rfl ?_; clear F a; intro a F
   refine rl_run F (run_move (F.ev rfl)) rfl ?_; clear F a; intro a F
   have hg6 : (decide ((((parseF s).1.length : Nat) : Int) = 0)) = true := (decide_eq_true (by (rw [parse_nil (by assumption)]; rfl)))
   refine rl_guard_t F rfl rfl rfl hg6 ?_
   refine rl_callS F ent8 rfl rfl (lives_spec M HG) ?_; clear F M a; rintro _ w a M rfl F
   refine rl_run F (run_pick_t (F.ev rfl) hg6 (F.ev rfl)) rfl ?_; clear F a; intro a F
   refine rl_run F (run_assign (F.ev rfl)) rfl ?_; clear F a; intro a F
   refine rl_nil <| q_tn <| wp_ret <| q_tr <| fin1 F rfl rfl ?_
   exact ⟨_, (hGq3.trans hGq4), M.weaken (List.Sublist.refl _), rfl⟩
  ·intro hc
   have h7b := hc; clear hc
   have h7 : (parseF s).2.2 = 0 := of_decide_eq_true (of_not_f h7b)
   have h7c : (decide ((parseF s).2.2 = 0)) = true := (of_not_f h7b)
   refine wp_skip <| q_tn <| wp_seq <| w_reg <| rl_run F (run_move (F.ev rfl)) rfl ?_; clear F a; intro a F
   refine rl_callS F ent11 rfl rfl (text_spec (xs := (parseF s).1) M HG Sq4) ?_; clear F M a; rintro _ w a M rfl F
   refine rl_run F (run_move (F.ev rfl)) rfl ?_; clear F a; intro a F
   refine rl_run F (run_extract (v := .string (str (textR ((parseF s).1)))) (F.ev rfl) rfl) rfl ?_; clear F a; intro a F
   refine rl_run F (run_extract (v := .int .i64 (textE ((parseF s).1))) (F.ev rfl) rfl) rfl ?_; clear F a; intro a F
   iterate 2 (refine rl_run F (run_assign (F.ev rfl)) rfl ?_; clear F a; intro a F)
   refine rl_nil <| q_tn <| wp_seq <| w_reg <| rl_run F (run_move (F.ev rfl)) rfl ?_; clear F a; intro a F
   refine rl_run F (run_eqi (F.ev rfl) (F.ev rfl)) rfl ?_; clear F a; intro a F
   refine rl_run F (run_move (F.ev rfl)) rfl ?_; clear F a; intro a F
   have hg8 : (decide (textE ((parseF s).1) = 0)) = true := (decide_eq_true (by exact (parse_inv (by omega)).1))
   refine rl_guard_t F rfl rfl rfl hg8 ?_
   refine rl_run F (run_move (F.ev rfl)) rfl ?_; clear F a; intro a F
   refine rl_guard_t F rfl rfl rfl hg8 ?_
   refine rl_run F (run_move (F.ev rfl)) rfl ?_; clear F a; intro a F
   refine rl_guard_t F rfl rfl rfl hg8 ?_
   refine rl_run F (run_strEq (F.ev rfl) (F.ev rfl)) rfl ?_; clear F a; intro a F
   refine rl_run F (run_pick_t (F.ev rfl) hg8 (F.ev rfl)) rfl ?_; clear F a; intro a F
   refine rl_run F (run_move (F.ev rfl)) rfl ?_; clear F a; intro a F
   have hg9 : (decide ((textR ((parseF s).1)) = s)) = true := (decide_eq_true (by exact (parse_inv (by omega)).2))
   refine rl_guard_t F rfl rfl rfl hg9 ?_
   refine rl_callS F ent8 rfl rfl (lives_spec M HG) ?_; clear F M a; rintro _ w a M rfl F
   refine rl_run F (run_pick_t (F.ev rfl) hg9 (F.ev rfl)) rfl ?_; clear F a; intro a F
   refine rl_run F (run_assign (F.ev rfl)) rfl ?_; clear F a; intro a F
   refine rl_nil <| q_tn <| wp_ret <| fin1 F rfl rfl ?_
   exact ⟨_, (hGq3.trans hGq4), M.weaken (List.Sublist.refl _), rfl⟩
theorem parse_law {w0 w : World} {G : Ghost} {L : List Res} (M : Mem w0 G L w) (HG : Globs 0 1 2 3 G) {s : List UInt8} (hs : s.length ≤ 9223372036854775807) : Calls Tryd.prog 5 #[.string (str s)] w (RetS w0 G L fun v => v = .bool true) := Ret.plain M (parse_ret M HG hs)
end Go.Proofs.YtmmhmcplegpenaaDoor
