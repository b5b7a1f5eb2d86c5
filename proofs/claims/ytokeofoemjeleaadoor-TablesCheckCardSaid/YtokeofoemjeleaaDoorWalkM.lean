/- The walks, part M. -/
import Derived.Test.YtokeofoemjeleaaDoorWalkL
namespace Go.Proofs.YtokeofoemjeleaaDoor
open Go Go.Y Go.Proofs
set_option linter.unusedSimpArgs false
set_option linter.unusedVariables false
theorem check_ret {w0 w : World} {G : Ghost} {L : List Res} (M : Mem w0 G L w) (HG : Globs 0 1 4 5 G) {ad : Option Addr} {c : Nat} {xs : List PairD} (S : RdSl rdPair 2 G (.slice ad xs.length c) xs) (hxs : xs.length ≤ 9223372036854775807) {least : Int} : Calls Tryd.prog 3 #[.slice ad xs.length c, .int .i64 least] w (Ret w0 G L fun _ v => v = .bool true) := by
  refine calls_start (vs := [_, _]) Tryd.func3 rfl (n := 25) rfl rfl ?_
  intro a F
  refine wp_seq ?_
  refine w_reg ?_
  refine rl_run F (run_assign (F.ev rfl)) rfl ?_; clear F a; intro a F
  refine rl_nil ?_
  refine q_tn ?_
  refine wp_seq ?_
  refine wp_seq ?_
  refine w_reg ?_
  refine rl_run F (run_move (F.ev rfl)) rfl ?_; clear F a; intro a F
  refine rl_run F (run_lenSl tok22.k (F.ev rfl)) rfl ?_; clear F a; intro a F
  refine rl_run F (run_gtr (F.ev rfl) (F.ev rfl)) rfl ?_; clear F a; intro a F
  refine rl_nil ?_
  refine q_tn ?_
  refine w_cond F rfl ?_ ?_
  · intro hc
    have h1b := hc; clear hc
    have h1 : 60 < ((xs.length : Nat) : Int) := of_decide_eq_true h1b
    refine wp_seq ?_
    refine w_reg ?_
    refine rl_callS F ent10 rfl rfl (lives_spec M HG) ?_; clear F M a; rintro _ w a M rfl F
    refine rl_run F (run_assign (F.ev rfl)) rfl ?_; clear F a; intro a F
    refine rl_nil ?_
    refine q_tn ?_
    refine wp_ret ?_
    refine q_tr ?_
    refine fin1 F rfl rfl ?_
    exact ⟨G, (Gle.refl _), M.weaken (List.Sublist.refl _), rfl⟩
  · intro hc
    have h2b := hc; clear hc
    have h2 : ¬ (60 < ((xs.length : Nat) : Int)) := of_decide_eq_false h2b
    refine wp_skip ?_
    refine q_tn ?_
    refine wp_seq ?_
    refine w_reg ?_
    refine rl_run F (run_move (F.ev rfl)) rfl ?_; clear F a; intro a F
    refine rl_run F (run_move (F.ev rfl)) rfl ?_; clear F a; intro a F
    refine rl_callS F ent11 rfl rfl (rcheck_spec (xs := xs) (least := least) M S (by omega)) ?_; clear F M a; rintro _ w a M rfl F
    refine rl_run F (run_move (F.ev rfl)) rfl ?_; clear F a; intro a F
    refine rl_run F (run_extract (v := .int .i64 ((((checkF xs least).1 : Nat) : Int))) (F.ev rfl) rfl) rfl ?_; clear F a; intro a F
    refine rl_run F (run_extract (v := .int .i64 ((checkF xs least).2)) (F.ev rfl) rfl) rfl ?_; clear F a; intro a F
    refine rl_run F (run_assign (F.ev rfl)) rfl ?_; clear F a; intro a F
    refine rl_run F (run_assign (F.ev rfl)) rfl ?_; clear F a; intro a F
    refine rl_nil ?_
    refine q_tn ?_
    refine wp_seq ?_
    refine w_reg ?_
    refine rl_run F (run_move (F.ev rfl)) rfl ?_; clear F a; intro a F
    refine rl_run F (run_move (F.ev rfl)) rfl ?_; clear F a; intro a F
    refine rl_run F (run_move (F.ev rfl)) rfl ?_; clear F a; intro a F
    refine rl_run F (run_move (F.ev rfl)) rfl ?_; clear F a; intro a F
    refine rl_callS F ent12 rfl rfl (checked_spec (xs := xs) (least := least) (at' := (checkF xs least).1) (e' := (checkF xs least).2) M S (by omega) (by exact rfl)) ?_; clear F M a; rintro _ w a M rfl F
    refine rl_run F (run_move (F.ev rfl)) rfl ?_; clear F a; intro a F
    refine rl_guard_t F rfl rfl rfl rfl ?_
    refine rl_callS F ent10 rfl rfl (lives_spec M HG) ?_; clear F M a; rintro _ w a M rfl F
    refine rl_run F (run_pick_t (F.ev rfl) rfl (F.ev rfl)) rfl ?_; clear F a; intro a F
    refine rl_run F (run_assign (F.ev rfl)) rfl ?_; clear F a; intro a F
    refine rl_nil ?_
    refine q_tn ?_
    refine wp_ret ?_
    refine fin1 F rfl rfl ?_
    exact ⟨G, (Gle.refl _), M.weaken (List.Sublist.refl _), rfl⟩

theorem check_law {w0 w : World} {G : Ghost} {L : List Res} (M : Mem w0 G L w) (HG : Globs 0 1 4 5 G) {ad : Option Addr} {c : Nat} {xs : List PairD} (S : RdSl rdPair 2 G (.slice ad xs.length c) xs) (hxs : xs.length ≤ 9223372036854775807) {least : Int} : Calls Tryd.prog 3 #[.slice ad xs.length c, .int .i64 least] w (RetS w0 G L fun v => v = .bool true) := Ret.plain M (check_ret M HG S hxs)

end Go.Proofs.YtokeofoemjeleaaDoor
