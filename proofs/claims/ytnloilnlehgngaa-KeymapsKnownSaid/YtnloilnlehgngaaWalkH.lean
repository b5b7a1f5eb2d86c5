/- The walks, part H. -/
import Derived.Test.YtnloilnlehgngaaWalkG
import Derived.Test.YtnloilnlehgngaaRun
import Derived.Test.YtnloilnlehgngaaWid
namespace Go.Proofs.Ytnloilnlehgngaa
open Go Go.Y Go.Proofs
set_option linter.unusedSimpArgs false
set_option linter.unusedVariables false
theorem nil_ret {w0 w : World} {G : Ghost} {L : List Res} (M : Mem w0 G L w) {key v : Int} (hkey : inKind .u64 key) (hv : inKind .i64 v) :
    Calls Try.prog 8 #[.int .u64 key, .int .i64 v] w (Ret w0 G L fun _ v => v = .bool true) := by
  refine calls_start (vs := [_, _]) Try.func8 rfl (n := 84) rfl rfl ?_
  intro a F
  refine wp_seq ?_
  refine w_reg ?_
  refine rl_run F (run_assign (F.ev rfl)) rfl ?_; clear F a; intro a F
  refine rl_nil ?_
  refine q_tn ?_
  refine wp_seq ?_
  refine w_reg ?_
  refine rl_run F (run_assign (F.ev rfl)) rfl ?_; clear F a; intro a F
  refine rl_nil ?_
  refine q_tn ?_
  refine wp_seq ?_
  refine w_reg ?_
  refine rl_alloc F M tok55 rfl rfl ?_; clear F M a; intro b1 w a M F
  refine rl_nil ?_
  refine q_tn ?_
  refine wp_seq ?_
  change Mem w0 G (.blk b1 [.slice none (0) (0), .int .i64 (0), .int .i64 (0)] 55 :: L) _ at M
  have M := (M.nilrow 58 3).perm (List.Perm.swap _ _ _)
  refine w_reg ?_
  refine rl_run F (run_move (F.ev rfl)) rfl ?_; clear F a; intro a F
  refine rl_run F (run_move (F.ev rfl)) rfl ?_; clear F a; intro a F
  refine rl_callS F ent15 rfl rfl (get_nil M) ?_; clear F M a; rintro _ w a M rfl F
  refine rl_run F (run_move (F.ev rfl)) rfl ?_; clear F a; intro a F
  refine rl_run F (run_extract (v := .int .i64 (0)) (F.ev rfl) rfl) rfl ?_; clear F a; intro a F
  refine rl_run F (run_extract (v := .bool false) (F.ev rfl) rfl) rfl ?_; clear F a; intro a F
  refine rl_run F (run_assign (F.ev rfl)) rfl ?_; clear F a; intro a F
  refine rl_run F (run_assign (F.ev rfl)) rfl ?_; clear F a; intro a F
  refine rl_nil ?_
  refine q_tn ?_
  refine wp_seq ?_
  refine w_reg ?_
  refine rl_run F (run_move (F.ev rfl)) rfl ?_; clear F a; intro a F
  refine rl_callS F ent24 rfl rfl (clear_nil M) ?_; clear F M a; rintro _ w a M rfl F
  refine rl_nil ?_
  refine q_tn ?_
  refine wp_seq ?_
  refine wp_seq ?_
  refine w_reg ?_
  refine rl_run F (run_move (F.ev rfl)) rfl ?_; clear F a; intro a F
  refine rl_run F (run_move (F.ev rfl)) rfl ?_; clear F a; intro a F
  refine rl_guard_t F rfl rfl rfl rfl ?_
  refine rl_run F (run_move (F.ev rfl)) rfl ?_; clear F a; intro a F
  refine rl_guard_t F rfl rfl rfl rfl ?_
  refine rl_run F (run_move (F.ev rfl)) rfl ?_; clear F a; intro a F
  refine rl_guard_t F rfl rfl rfl rfl ?_
  refine rl_run F (run_move (F.ev rfl)) rfl ?_; clear F a; intro a F
  refine rl_guard_t F rfl rfl rfl rfl ?_
  refine rl_callS F ent14 rfl rfl (putm_nil M) ?_; clear F M a; rintro _ w a M rfl F
  refine rl_guard_t F rfl rfl rfl rfl ?_
  refine rl_run F (run_nei (F.ev rfl) (F.ev rfl)) rfl ?_; clear F a; intro a F
  refine rl_run F (run_pick_f (F.ev rfl) rfl (F.ev rfl)) rfl ?_; clear F a; intro a F
  refine rl_run F (run_move (F.ev rfl)) rfl ?_; clear F a; intro a F
  have hg3 : (!(decide ((2 : Int) = 2))) = false := (not_f (decide_eq_true (by first | omega | rfl)))
  refine rl_guard_t F rfl rfl rfl hg3 ?_
  refine rl_run F (run_move (F.ev rfl)) rfl ?_; clear F a; intro a F
  refine rl_guard_t F rfl rfl rfl hg3 ?_
  refine rl_run F (run_move (F.ev rfl)) rfl ?_; clear F a; intro a F
  refine rl_guard_t F rfl rfl rfl hg3 ?_
  refine rl_callS F ent12 rfl rfl (dropm_nil M) ?_; clear F M a; rintro _ w a M rfl F
  refine rl_run F (run_pick_f (F.ev rfl) hg3 (F.ev rfl)) rfl ?_; clear F a; intro a F
  refine rl_run F (run_move (F.ev rfl)) rfl ?_; clear F a; intro a F
  refine rl_guard_t F rfl rfl rfl rfl ?_
  refine rl_run F (run_move (F.ev rfl)) rfl ?_; clear F a; intro a F
  refine rl_guard_t F rfl rfl rfl rfl ?_
  refine rl_callS F ent20 rfl rfl (len_nil M) ?_; clear F M a; rintro _ w a M rfl F
  refine rl_guard_t F rfl rfl rfl rfl ?_
  refine rl_run F (run_move (F.ev rfl)) rfl ?_; clear F a; intro a F
  refine rl_guard_t F rfl rfl rfl rfl ?_
  refine rl_callS F ent21 rfl rfl (slots_nil M) ?_; clear F M a; rintro _ w a M rfl F
  refine rl_guard_t F rfl rfl rfl rfl ?_
  refine rl_run F (run_addi (F.ev rfl) (F.ev rfl) (in_i64 (by omega) (by omega))) rfl ?_; clear F a; intro a F
  refine rl_guard_t F rfl rfl rfl rfl ?_
  refine rl_run F (run_move (F.ev rfl)) rfl ?_; clear F a; intro a F
  refine rl_guard_t F rfl rfl rfl rfl ?_
  refine rl_callS F ent25 rfl rfl (tombs_nil M) ?_; clear F M a; rintro _ w a M rfl F
  refine rl_guard_t F rfl rfl rfl rfl ?_
  refine rl_run F (run_addi (F.ev rfl) (F.ev rfl) (in_i64 (by omega) (by omega))) rfl ?_; clear F a; intro a F
  refine rl_guard_t F rfl rfl rfl rfl ?_
  refine rl_run F (run_move (F.ev rfl)) rfl ?_; clear F a; intro a F
  refine rl_guard_t F rfl rfl rfl rfl ?_
  refine rl_callS F ent23 rfl rfl (keys_nil M) ?_; clear F M a; rintro _ w a M rfl F
  refine rl_guard_t F rfl rfl rfl rfl ?_
  refine rl_run F (run_lenSl tok51.k (F.ev rfl)) rfl ?_; clear F a; intro a F
  refine rl_guard_t F rfl rfl rfl rfl ?_
  refine rl_run F (run_addi (F.ev rfl) (F.ev rfl) (in_i64 (by omega) (by omega))) rfl ?_; clear F a; intro a F
  refine rl_guard_t F rfl rfl rfl rfl ?_
  refine rl_run F (run_nei (F.ev rfl) (F.ev rfl)) rfl ?_; clear F a; intro a F
  refine rl_run F (run_pick_f (F.ev rfl) rfl (F.ev rfl)) rfl ?_; clear F a; intro a F
  refine rl_run F (run_move (F.ev rfl)) rfl ?_; clear F a; intro a F
  have hg4 : (!(decide (((0 + 0) + 0) + (((0 : Nat) : Int)) = 0))) = false := (not_f (decide_eq_true (by first | omega | rfl)))
  refine rl_guard_t F rfl rfl rfl hg4 ?_
  refine rl_run F (run_move (F.ev rfl)) rfl ?_; clear F a; intro a F
  refine rl_guard_t F rfl rfl rfl hg4 ?_
  refine rl_callS F ent22 rfl rfl (copy_nil M) ?_; clear F M a; rintro _ w a M rfl F
  refine rl_guard_t F rfl rfl rfl hg4 ?_
  refine rl_run F (run_nenil tok24.k (F.ev rfl) (F.ev rfl)) rfl ?_; clear F a; intro a F
  refine rl_run F (run_pick_f (F.ev rfl) hg4 (F.ev rfl)) rfl ?_; clear F a; intro a F
  refine rl_nil ?_
  refine q_tn ?_
  refine w_cond_f F rfl rfl ?_
  refine wp_skip ?_
  refine q_tn ?_
  refine wp_seq ?_
  refine w_reg ?_
  refine rl_run F (run_move (F.ev rfl)) rfl ?_; clear F a; intro a F
  replace M := M.perm (perm_front _ 1 _ rfl)
  replace M := M.perm (perm_front _ 1 _ rfl)
  change Mem w0 G (.blk b1 [.slice none (0) (0), .int .i64 (0), .int .i64 (0)] 55 :: .row (.slice none (0) (0)) (0) ([]) 58 3 :: L) _ at M
  have hsg5 := get_spec (key := key) M rfl Els.nil KOK.nil
  refine rl_callS F ent15 rfl rfl (hsg5) ?_; clear F M a; rintro _ w a M rfl F
  clear hsg5
  refine rl_run F (run_move (F.ev rfl)) rfl ?_; clear F a; intro a F
  refine rl_run F (run_extract (v := .int .i64 ((getF ([] : List PairD) key).1)) (F.ev rfl) rfl) rfl ?_; clear F a; intro a F
  refine rl_run F (run_extract (v := .bool ((getF ([] : List PairD) key).2)) (F.ev rfl) rfl) rfl ?_; clear F a; intro a F
  refine rl_run F (run_assign (F.ev rfl)) rfl ?_; clear F a; intro a F
  refine rl_run F (run_assign (F.ev rfl)) rfl ?_; clear F a; intro a F
  refine rl_nil ?_
  refine q_tn ?_
  refine wp_seq ?_
  refine w_reg ?_
  refine rl_run F (run_assign (F.ev rfl)) rfl ?_; clear F a; intro a F
  refine rl_nil ?_
  refine q_tn ?_
  refine wp_seq ?_
  refine wp_seq ?_
  refine w_reg ?_
  refine rl_run F (run_move (F.ev rfl)) rfl ?_; clear F a; intro a F
  refine rl_run F (run_eqi (F.ev rfl) (F.ev rfl)) rfl ?_; clear F a; intro a F
  refine rl_nil ?_
  refine q_tn ?_
  refine w_cond F rfl ?_ ?_
  · intro hc
    have h6b := hc; clear hc
    have h6 : key = 0 := of_decide_eq_true h6b
    refine w_reg ?_
    refine rl_run F (run_assign (F.ev rfl)) rfl ?_; clear F a; intro a F
    refine rl_nil ?_
    refine q_tn ?_
    refine wp_seq ?_
    refine w_reg ?_
    refine rl_run F (run_move (F.ev rfl)) rfl ?_; clear F a; intro a F
    refine rl_run F (run_not (F.ev rfl)) rfl ?_; clear F a; intro a F
    refine rl_run F (run_move (F.ev rfl)) rfl ?_; clear F a; intro a F
    have hg7 : (!((getF ([] : List PairD) key).2)) = true := (not_t (by first | omega | rfl | simp [putF, dropF, atF, h6]))
    refine rl_guard_t F rfl rfl rfl hg7 ?_
    refine rl_run F (run_move (F.ev rfl)) rfl ?_; clear F a; intro a F
    refine rl_guard_t F rfl rfl rfl hg7 ?_
    replace M := M.perm (perm_front _ 1 _ rfl)
    replace M := M.perm (perm_front _ 1 _ rfl)
    change Mem w0 G (.blk b1 [.slice none (0) (0), .int .i64 (0), .int .i64 (0)] 55 :: .row (.slice none (0) (0)) (0) ([]) 58 3 :: L) _ at M
    have hsm8 := dropm_spec (key := key) M rfl Els.nil KOK.nil
    refine rl_callL F ent12 rfl rfl (hsm8) ?_; clear F M a; rintro _ _ w a M ⟨⟨adm8, nm8, cm8, manym8, tombsm8, csm8, sm8, rfl, hnm8, Em8, Km8⟩, rfl⟩ F
    clear hsm8
    refine rl_guard_t F rfl rfl rfl hg7 ?_
    refine rl_run F (run_not (F.ev rfl)) rfl ?_; clear F a; intro a F
    refine rl_run F (run_pick_t (F.ev rfl) hg7 (F.ev rfl)) rfl ?_; clear F a; intro a F
    refine rl_run F (run_move (F.ev rfl)) rfl ?_; clear F a; intro a F
    have hg9 : (!((dropF ([] : List PairD) key).2)) = true := (not_t (by first | omega | rfl | simp [putF, dropF, atF, h6]))
    refine rl_guard_t F rfl rfl rfl hg9 ?_
    refine rl_run F (run_move (F.ev rfl)) rfl ?_; clear F a; intro a F
    refine rl_guard_t F rfl rfl rfl hg9 ?_
    refine rl_run F (run_move (F.ev rfl)) rfl ?_; clear F a; intro a F
    refine rl_guard_t F rfl rfl rfl hg9 ?_
    replace M := M.perm (perm_front _ 1 _ rfl)
    replace M := M.perm (perm_front _ 1 _ rfl)
    change Mem w0 G (.blk b1 [.slice (adm8) (nm8) (cm8), .int .i64 (manym8), .int .i64 (tombsm8)] 55 :: .row (.slice (adm8) (nm8) (cm8)) (nm8) (csm8) 58 3 :: L) _ at M
    have hsm10 := putm_spec (v := v) M hnm8 Em8 Km8 (key := key) (by first | assumption | exact ⟨by decide, by decide⟩ | exact wrap_ink _ _ | exact in_u64 (by omega) (by omega)) (by first | decide | exact (‹inKind .u64 (key)›).1 | omega) (by first | assumption | exact ⟨by decide, by decide⟩ | exact wrap_ink _ _ | exact in_i64 (by omega) (by omega))
    refine rl_callL F ent14 rfl rfl (hsm10) ?_; clear F M a; rintro _ _ w a M ⟨⟨adm10, nm10, cm10, manym10, tombsm10, csm10, sm10, rfl, hnm10, Em10, Km10⟩, rfl⟩ F
    clear hsm10
    refine rl_guard_t F rfl rfl rfl hg9 ?_
    refine rl_run F (run_move (F.ev rfl)) rfl ?_; clear F a; intro a F
    refine rl_guard_t F rfl rfl rfl hg9 ?_
    refine rl_run F (run_eqi (F.ev rfl) (F.ev rfl)) rfl ?_; clear F a; intro a F
    refine rl_run F (run_pick_t (F.ev rfl) hg9 (F.ev rfl)) rfl ?_; clear F a; intro a F
    refine rl_run F (run_move (F.ev rfl)) rfl ?_; clear F a; intro a F
    have hg11 : (decide ((putF ((dropF ([] : List PairD) key).1) key v).2 = 9)) = true := (decide_eq_true (by first | omega | rfl | simp [putF, dropF, atF, h6]))
    refine rl_guard_t F rfl rfl rfl hg11 ?_
    refine rl_run F (run_move (F.ev rfl)) rfl ?_; clear F a; intro a F
    refine rl_guard_t F rfl rfl rfl hg11 ?_
    replace M := M.perm (perm_front _ 1 _ rfl)
    replace M := M.perm (perm_front _ 1 _ rfl)
    change Mem w0 G (.blk b1 [.slice (adm10) (nm10) (cm10), .int .i64 (manym10), .int .i64 (tombsm10)] 55 :: .row (.slice (adm10) (nm10) (cm10)) (nm10) (csm10) 58 3 :: L) _ at M
    have hsm12 := dropm_spec (key := key) M hnm10 Em10 Km10
    refine rl_callL F ent12 rfl rfl (hsm12) ?_; clear F M a; rintro _ _ w a M ⟨⟨adm12, nm12, cm12, manym12, tombsm12, csm12, sm12, rfl, hnm12, Em12, Km12⟩, rfl⟩ F
    clear hsm12
    refine rl_guard_t F rfl rfl rfl hg11 ?_
    refine rl_run F (run_move (F.ev rfl)) rfl ?_; clear F a; intro a F
    refine rl_guard_t F rfl rfl rfl hg11 ?_
    refine rl_run F (run_nei (F.ev rfl) (F.ev rfl)) rfl ?_; clear F a; intro a F
    refine rl_guard_t F rfl rfl rfl hg11 ?_
    refine rl_run F (run_eqb tok4.k (F.ev rfl) (F.ev rfl)) rfl ?_; clear F a; intro a F
    refine rl_run F (run_pick_t (F.ev rfl) hg11 (F.ev rfl)) rfl ?_; clear F a; intro a F
    refine rl_run F (run_move (F.ev rfl)) rfl ?_; clear F a; intro a F
    have hg13 : (((dropF ((putF ((dropF ([] : List PairD) key).1) key v).1) key).2) == (!(decide (key = 0)))) = true := (by first | omega | rfl | simp [putF, dropF, atF, h6])
    refine rl_guard_t F rfl rfl rfl hg13 ?_
    refine rl_callS F ent9 rfl rfl (lives_spec M) ?_; clear F M a; rintro _ w a M rfl F
    refine rl_run F (run_pick_t (F.ev rfl) hg13 (F.ev rfl)) rfl ?_; clear F a; intro a F
    refine rl_run F (run_assign (F.ev rfl)) rfl ?_; clear F a; intro a F
    refine rl_nil ?_
    refine q_tn ?_
    refine wp_ret ?_
    refine fin1 F rfl rfl ?_
    exact ⟨_, (Gle.refl _), M.weaken (.cons _ (.cons _ (List.Sublist.refl _))), rfl⟩
  · intro hc
    have h14b := hc; clear hc
    have h14 : ¬ (key = 0) := of_decide_eq_false h14b
    refine wp_skip ?_
    refine q_tn ?_
    refine wp_seq ?_
    refine w_reg ?_
    refine rl_run F (run_move (F.ev rfl)) rfl ?_; clear F a; intro a F
    refine rl_run F (run_not (F.ev rfl)) rfl ?_; clear F a; intro a F
    refine rl_run F (run_move (F.ev rfl)) rfl ?_; clear F a; intro a F
    have hg15 : (!((getF ([] : List PairD) key).2)) = true := (not_t (by first | omega | rfl | simp [putF, dropF, atF, h14]))
    refine rl_guard_t F rfl rfl rfl hg15 ?_
    refine rl_run F (run_move (F.ev rfl)) rfl ?_; clear F a; intro a F
    refine rl_guard_t F rfl rfl rfl hg15 ?_
    replace M := M.perm (perm_front _ 1 _ rfl)
    replace M := M.perm (perm_front _ 1 _ rfl)
    change Mem w0 G (.blk b1 [.slice none (0) (0), .int .i64 (0), .int .i64 (0)] 55 :: .row (.slice none (0) (0)) (0) ([]) 58 3 :: L) _ at M
    have hsm16 := dropm_spec (key := key) M rfl Els.nil KOK.nil
    refine rl_callL F ent12 rfl rfl (hsm16) ?_; clear F M a; rintro _ _ w a M ⟨⟨adm16, nm16, cm16, manym16, tombsm16, csm16, sm16, rfl, hnm16, Em16, Km16⟩, rfl⟩ F
    clear hsm16
    refine rl_guard_t F rfl rfl rfl hg15 ?_
    refine rl_run F (run_not (F.ev rfl)) rfl ?_; clear F a; intro a F
    refine rl_run F (run_pick_t (F.ev rfl) hg15 (F.ev rfl)) rfl ?_; clear F a; intro a F
    refine rl_run F (run_move (F.ev rfl)) rfl ?_; clear F a; intro a F
    have hg17 : (!((dropF ([] : List PairD) key).2)) = true := (not_t (by first | omega | rfl | simp [putF, dropF, atF, h14]))
    refine rl_guard_t F rfl rfl rfl hg17 ?_
    refine rl_run F (run_move (F.ev rfl)) rfl ?_; clear F a; intro a F
    refine rl_guard_t F rfl rfl rfl hg17 ?_
    refine rl_run F (run_move (F.ev rfl)) rfl ?_; clear F a; intro a F
    refine rl_guard_t F rfl rfl rfl hg17 ?_
    replace M := M.perm (perm_front _ 1 _ rfl)
    replace M := M.perm (perm_front _ 1 _ rfl)
    change Mem w0 G (.blk b1 [.slice (adm16) (nm16) (cm16), .int .i64 (manym16), .int .i64 (tombsm16)] 55 :: .row (.slice (adm16) (nm16) (cm16)) (nm16) (csm16) 58 3 :: L) _ at M
    have hsm18 := putm_spec (v := v) M hnm16 Em16 Km16 (key := key) (by first | assumption | exact ⟨by decide, by decide⟩ | exact wrap_ink _ _ | exact in_u64 (by omega) (by omega)) (by first | decide | exact (‹inKind .u64 (key)›).1 | omega) (by first | assumption | exact ⟨by decide, by decide⟩ | exact wrap_ink _ _ | exact in_i64 (by omega) (by omega))
    refine rl_callL F ent14 rfl rfl (hsm18) ?_; clear F M a; rintro _ _ w a M ⟨⟨adm18, nm18, cm18, manym18, tombsm18, csm18, sm18, rfl, hnm18, Em18, Km18⟩, rfl⟩ F
    clear hsm18
    refine rl_guard_t F rfl rfl rfl hg17 ?_
    refine rl_run F (run_move (F.ev rfl)) rfl ?_; clear F a; intro a F
    refine rl_guard_t F rfl rfl rfl hg17 ?_
    refine rl_run F (run_eqi (F.ev rfl) (F.ev rfl)) rfl ?_; clear F a; intro a F
    refine rl_run F (run_pick_t (F.ev rfl) hg17 (F.ev rfl)) rfl ?_; clear F a; intro a F
    refine rl_run F (run_move (F.ev rfl)) rfl ?_; clear F a; intro a F
    have hg19 : (decide ((putF ((dropF ([] : List PairD) key).1) key v).2 = 0)) = true := (decide_eq_true (by first | omega | rfl | simp [putF, dropF, atF, h14]))
    refine rl_guard_t F rfl rfl rfl hg19 ?_
    refine rl_run F (run_move (F.ev rfl)) rfl ?_; clear F a; intro a F
    refine rl_guard_t F rfl rfl rfl hg19 ?_
    replace M := M.perm (perm_front _ 1 _ rfl)
    replace M := M.perm (perm_front _ 1 _ rfl)
    change Mem w0 G (.blk b1 [.slice (adm18) (nm18) (cm18), .int .i64 (manym18), .int .i64 (tombsm18)] 55 :: .row (.slice (adm18) (nm18) (cm18)) (nm18) (csm18) 58 3 :: L) _ at M
    have hsm20 := dropm_spec (key := key) M hnm18 Em18 Km18
    refine rl_callL F ent12 rfl rfl (hsm20) ?_; clear F M a; rintro _ _ w a M ⟨⟨adm20, nm20, cm20, manym20, tombsm20, csm20, sm20, rfl, hnm20, Em20, Km20⟩, rfl⟩ F
    clear hsm20
    refine rl_guard_t F rfl rfl rfl hg19 ?_
    refine rl_run F (run_move (F.ev rfl)) rfl ?_; clear F a; intro a F
    refine rl_guard_t F rfl rfl rfl hg19 ?_
    refine rl_run F (run_nei (F.ev rfl) (F.ev rfl)) rfl ?_; clear F a; intro a F
    refine rl_guard_t F rfl rfl rfl hg19 ?_
    refine rl_run F (run_eqb tok4.k (F.ev rfl) (F.ev rfl)) rfl ?_; clear F a; intro a F
    refine rl_run F (run_pick_t (F.ev rfl) hg19 (F.ev rfl)) rfl ?_; clear F a; intro a F
    refine rl_run F (run_move (F.ev rfl)) rfl ?_; clear F a; intro a F
    have hg21 : (((dropF ((putF ((dropF ([] : List PairD) key).1) key v).1) key).2) == (!(decide (key = 0)))) = true := (by first | omega | rfl | simp [putF, dropF, atF, h14])
    refine rl_guard_t F rfl rfl rfl hg21 ?_
    refine rl_callS F ent9 rfl rfl (lives_spec M) ?_; clear F M a; rintro _ w a M rfl F
    refine rl_run F (run_pick_t (F.ev rfl) hg21 (F.ev rfl)) rfl ?_; clear F a; intro a F
    refine rl_run F (run_assign (F.ev rfl)) rfl ?_; clear F a; intro a F
    refine rl_nil ?_
    refine q_tn ?_
    refine wp_ret ?_
    refine fin1 F rfl rfl ?_
    exact ⟨_, (Gle.refl _), M.weaken (.cons _ (.cons _ (List.Sublist.refl _))), rfl⟩

theorem nil_law {w0 w : World} {G : Ghost} {L : List Res} (M : Mem w0 G L w) {key v : Int} (hkey : inKind .u64 key) (hv : inKind .i64 v) :
    Calls Try.prog 8 #[.int .u64 key, .int .i64 v] w (RetS w0 G L fun v => v = .bool true) := Ret.plain M (nil_ret M hkey hv)

theorem own_ret {w0 w : World} {G : Ghost} {L : List Res} (M : Mem w0 G L w) {ao : Option Addr} {co : Nat} {xs : List StepD} (S : RdSl rdStep 3 G (.slice ao xs.length co) xs) (hxl : xs.length ≤ 9223372036854775807) {ay : Option Addr} {cy : Nat} {ys : List StepD} (Sy : RdSl rdStep 3 G (.slice ay ys.length cy) ys) (hyl : ys.length ≤ 9223372036854775807) :
    Calls Try.prog 7 #[.agg #[.slice ao xs.length co], .agg #[.slice ay ys.length cy]] w (Ret w0 G L fun _ v => v = .bool true) := by
  refine calls_start (vs := [_, _]) Try.func7 rfl (n := 105) rfl rfl ?_
  intro a F
  refine wp_seq ?_
  refine w_reg ?_
  refine rl_box F M rfl (cs := [.slice (ao) (xs.length) (co)]) rfl rfl ?_; clear F M a; intro b1 w a M F
  refine rl_box F M rfl (cs := [.slice (ay) (ys.length) (cy)]) rfl rfl ?_; clear F M a; intro b2 w a M F
  refine rl_run F (run_assign (F.ev rfl)) rfl ?_; clear F a; intro a F
  refine rl_nil ?_
  refine q_tn ?_
  refine wp_seq ?_
  refine w_reg ?_
  refine rl_run F (run_loadA tok45 rfl (F.ev rfl) (cs := [.slice (ao) (xs.length) (co)]) rfl (M.cellsL (k := 1) rfl rfl)) rfl ?_; clear F a; intro a F
  refine rl_callL F ent18 rfl rfl (of_spec M S (by omega)) ?_; clear F M a; rintro _ _ w a M ⟨bm3, rfl, adm3, nm3, cm3, manym3, tombsm3, csm3, sm3, rfl, hnm3, Em3, Km3⟩ F
  refine rl_run F (run_assign (F.ev rfl)) rfl ?_; clear F a; intro a F
  refine rl_nil ?_
  refine q_tn ?_
  refine wp_seq ?_
  refine w_reg ?_
  refine rl_run F (run_loadA tok45 rfl (F.ev rfl) (cs := [.slice (ao) (xs.length) (co)]) rfl (M.cellsL (k := 3) rfl rfl)) rfl ?_; clear F a; intro a F
  refine rl_call F ent19 rfl rfl (pairs_spec M S (by omega)) ?_; clear F M a; rintro _ Gr4 w a hGr4 M ⟨ar4, cr4, rfl, Sr4⟩ F
  replace S := S.mono mono_rdStep hGr4
  replace Sy := Sy.mono mono_rdStep hGr4
  replace Em3 := Em3.mono mono_rdSlot hGr4
  refine rl_run F (run_assign (F.ev rfl)) rfl ?_; clear F a; intro a F
  refine rl_nil ?_
  refine q_tn ?_
  refine wp_seq ?_
  refine w_reg ?_
  refine rl_run F (run_move (F.ev rfl)) rfl ?_; clear F a; intro a F
  replace M := M.perm (perm_front _ 1 _ rfl)
  replace M := M.perm (perm_front _ 1 _ rfl)
  change Mem w0 Gr4 (.blk bm3 [.slice (adm3) (nm3) (cm3), .int .i64 (manym3), .int .i64 (tombsm3)] 55 :: .row (.slice (adm3) (nm3) (cm3)) (nm3) (csm3) 58 3 :: .blk b2 [.slice (ay) (ys.length) (cy)] 45 :: .blk b1 [.slice (ao) (xs.length) (co)] 45 :: L) _ at M
  refine rl_callL F ent22 rfl rfl (copy_spec M hnm3 Em3 Km3) ?_; clear F M a; rintro _ _ w a M ⟨bm5, rfl, adm5, nm5, cm5, manym5, tombsm5, csm5, sm5, rfl, hnm5, Em5, Km5⟩ F
  refine rl_run F (run_assign (F.ev rfl)) rfl ?_; clear F a; intro a F
  refine rl_nil ?_
  refine q_tn ?_
  refine wp_seq ?_
  refine w_reg ?_
  refine rl_run F (run_move (F.ev rfl)) rfl ?_; clear F a; intro a F
  replace M := M.perm (perm_front _ 3 _ rfl)
  replace M := M.perm (perm_front _ 3 _ rfl)
  change Mem w0 Gr4 (.blk bm3 [.slice (adm3) (nm3) (cm3), .int .i64 (manym3), .int .i64 (tombsm3)] 55 :: .row (.slice (adm3) (nm3) (cm3)) (nm3) (csm3) 58 3 :: .blk bm5 [.slice (adm5) (nm5) (cm5), .int .i64 (manym5), .int .i64 (tombsm5)] 55 :: .row (.slice (adm5) (nm5) (cm5)) (nm5) (csm5) 58 3 :: .blk b2 [.slice (ay) (ys.length) (cy)] 45 :: .blk b1 [.slice (ao) (xs.length) (co)] 45 :: L) _ at M
  refine rl_callL F ent23 rfl rfl (keys_spec M hnm3 Em3 Km3) ?_; clear F M a; rintro _ _ w a M ⟨ak6, rfl, rfl⟩ F
  have Ek6 : Els rdU 1 Gr4 (((runF ((xs).take 80)).map PairD.key).map eu) ((runF ((xs).take 80)).map PairD.key) := Els_eu (by intro x hx; obtain ⟨q, hq, rfl⟩ := List.mem_map.1 hx; exact (Km3.keys q hq).1)
  refine rl_run F (run_assign (F.ev rfl)) rfl ?_; clear F a; intro a F
  refine rl_nil ?_
  refine q_tn ?_
  refine wp_seq ?_
  refine wp_seq ?_
  refine w_reg ?_
  refine rl_run F (run_assign (F.ev rfl)) rfl ?_; clear F a; intro a F
  refine rl_nil ?_
  refine q_tn ?_
  refine wp_block ?_
  refine w_loopN (fun m a' w' => ∃ (i : Nat), ∃ (ks : List Int), ∃ (csk : List Value), m = (runF ((xs).take 80)).length - i ∧ Fits 105 a' [(3, .pointer (some ⟨b2, 0, none⟩)), (5, .pointer (some ⟨bm3, 0, none⟩)), (6, .slice (ar4) ((runF ((xs).take 80)).length) (cr4)), (7, .pointer (some ⟨bm5, 0, none⟩)), (8, .slice (ak6) ((runF ((xs).take 80)).length) ((runF ((xs).take 80)).length)), (9, .int .i64 (((i : Nat) : Int)))] ∧ Mem w0 Gr4 (.row (.slice (ak6) ((runF ((xs).take 80)).length) ((runF ((xs).take 80)).length)) ((runF ((xs).take 80)).length) (csk) 27 1 :: .blk bm3 [.slice (adm3) (nm3) (cm3), .int .i64 (manym3), .int .i64 (tombsm3)] 55 :: .row (.slice (adm3) (nm3) (cm3)) (nm3) (csm3) 58 3 :: .blk bm5 [.slice (adm5) (nm5) (cm5), .int .i64 (manym5), .int .i64 (tombsm5)] 55 :: .row (.slice (adm5) (nm5) (cm5)) (nm5) (csm5) 58 3 :: .blk b2 [.slice (ay) (ys.length) (cy)] 45 :: .blk b1 [.slice (ao) (xs.length) (co)] 45 :: L) w' ∧ (Els rdU 1 Gr4 csk ks) ∧ (ks.length = (runF ((xs).take 80)).length)) _ ⟨0, (runF ((xs).take 80)).map PairD.key, ((runF ((xs).take 80)).map PairD.key).map eu, rfl, F.to ⟨rfl, rfl, rfl, rfl, rfl, rfl, trivial⟩, M, Ek6, List.length_map _⟩ ?_
  clear F M
  rintro m a w ⟨i, ks, csk, rfl, F, M, Ek, hks⟩
  refine wp_seq ?_
  refine wp_seq ?_
  refine w_reg ?_
  refine rl_run F (run_move (F.ev rfl)) rfl ?_; clear F a; intro a F
  refine rl_run F (run_move (F.ev rfl)) rfl ?_; clear F a; intro a F
  refine rl_run F (run_lenSl tok51.k (F.ev rfl)) rfl ?_; clear F a; intro a F
  refine rl_run F (run_lss (F.ev rfl) (F.ev rfl)) rfl ?_; clear F a; intro a F
  refine rl_nil ?_
  refine q_tn ?_
  refine w_cond F rfl ?_ ?_
  · intro hc
    have h7b := hc; clear hc
    have h7 : ((i : Nat) : Int) < (((runF ((xs).take 80)).length : Nat) : Int) := of_decide_eq_true h7b
    refine wp_skip ?_
    refine q_tn ?_
    refine wp_seq ?_
    refine wp_block ?_
    refine w_reg ?_
    refine rl_run F (run_move (F.ev rfl)) rfl ?_; clear F a; intro a F
    refine rl_run F (run_move (F.ev rfl)) rfl ?_; clear F a; intro a F
    obtain ⟨Xe8, hXe8⟩ := get_of_lt (xs := ks) (i := i) (by omega)
    obtain ⟨be8, _, Ie8, hme8, _, Ae8, ⟨rfl, hbe81⟩⟩ := M.atRow (k := 0) rfl (by decide) Ek hXe8
    refine rl_run F (run_indexI tok51.k tok27 (F.ev rfl) (F.ev rfl) (by omega) Ie8) rfl ?_; clear F a; intro a F
    refine rl_run F (run_load1 (agf tok27 rfl) (F.ev rfl) (cellE Ae8 0 (by omega) rfl)) rfl ?_; clear F a; intro a F
    refine rl_run F (run_add (F.ev rfl) (F.ev rfl)) rfl ?_; clear F a; intro a F
    obtain ⟨be9, _, Ie9, hme9, _, Ae9, ⟨rfl, hbe91⟩⟩ := M.atRow (k := 0) rfl (by decide) Ek hXe8
    refine rl_run F (run_indexI tok51.k tok27 (F.ev rfl) (F.ev rfl) (by omega) Ie9) rfl ?_; clear F a; intro a F
    refine rl_storeElF F M tok27 rfl (k := 0) rfl Ek Ie9 hXe8 (f := 0) (by decide) rfl (by omega) rfl rfl (X' := IntKind.u64.wrap (Xe8 + 1)) (fun ch _ h => by obtain ⟨rfl, h1⟩ := h; exact ⟨rfl, wrap_ink _ _⟩) ?_; clear F M a; intro csu10 w a M Eu10 F
    refine rl_nil ?_
    refine q_bn ?_
    refine q_tn ?_
    have hpl := runF_le xs 80
    refine w_reg ?_
    refine rl_run F (run_move (F.ev rfl)) rfl ?_; clear F a; intro a F
    refine rl_run F (run_addi (F.ev rfl) (F.ev rfl) (in_i64 (by omega) (by omega))) rfl ?_; clear F a; intro a F
    refine rl_run F (run_assign (F.ev rfl)) rfl ?_; clear F a; intro a F
    refine rl_nil ?_
    refine q_tn ?_
    exact ⟨_, by omega, i + 1, (ks).set (i) (IntKind.u64.wrap (Xe8 + 1)), csu10, rfl, F.to ⟨rfl, rfl, rfl, rfl, rfl, rfl, trivial⟩, M, Eu10, by rw [List.length_set]; exact hks⟩
  · intro hc
    have h11b := hc; clear hc
    have h11 : ¬ (((i : Nat) : Int) < (((runF ((xs).take 80)).length : Nat) : Int)) := of_decide_eq_false h11b
    refine wp_exit ?_
    refine q_te ?_
    refine q_te ?_
    refine q_bh ?_
    refine q_tn ?_
    refine wp_seq ?_
    refine wp_seq ?_
    refine w_reg ?_
    refine rl_run F (run_assign (F.ev rfl)) rfl ?_; clear F a; intro a F
    refine rl_nil ?_
    refine q_tn ?_
    refine wp_block ?_
    refine w_loopN (fun m a' w' => ∃ (j : Nat), ∃ (ps2 : List PairD), ∃ (adq : Option Addr), ∃ (nq : Nat), ∃ (cq : Nat), ∃ (manyq : Int), ∃ (tombsq : Int), ∃ (csq : List Value), ∃ (sq : List SlotD), m = ys.length - j ∧ Fits 105 a' [(3, .pointer (some ⟨b2, 0, none⟩)), (5, .pointer (some ⟨bm3, 0, none⟩)), (6, .slice (ar4) ((runF ((xs).take 80)).length) (cr4)), (7, .pointer (some ⟨bm5, 0, none⟩)), (10, .int .i64 (((j : Nat) : Int)))] ∧ Mem w0 Gr4 (.row (.slice (ak6) ((runF ((xs).take 80)).length) ((runF ((xs).take 80)).length)) ((runF ((xs).take 80)).length) (csk) 27 1 :: .blk bm3 [.slice (adm3) (nm3) (cm3), .int .i64 (manym3), .int .i64 (tombsm3)] 55 :: .row (.slice (adm3) (nm3) (cm3)) (nm3) (csm3) 58 3 :: .blk bm5 [.slice (adq) (nq) (cq), .int .i64 (manyq), .int .i64 (tombsq)] 55 :: .row (.slice (adq) (nq) (cq)) (nq) (csq) 58 3 :: .blk b2 [.slice (ay) (ys.length) (cy)] 45 :: .blk b1 [.slice (ao) (xs.length) (co)] 45 :: L) w' ∧ (ps2.length ≤ 80 + j) ∧ (nq = sq.length) ∧ (Els rdSlot 3 Gr4 csq sq) ∧ (KOK sq manyq tombsq (ps2) (200))) _ ⟨0, runF ((xs).take 80), (adm5), (nm5), (cm5), (manym5), (tombsm5), (csm5), (sm5), rfl, F.to ⟨rfl, rfl, rfl, rfl, rfl, trivial⟩, M, by have h1 := runF_le xs 80; omega, hnm5, Em5, Km5.more (by omega)⟩ ?_
    clear F M
    rintro m a w ⟨j, ps2, adq, nq, cq, manyq, tombsq, csq, sq, rfl, F, M, hp2, hnq, Eq, Kq⟩
    refine wp_seq ?_
    refine wp_seq ?_
    refine w_reg ?_
    refine rl_run F (run_move (F.ev rfl)) rfl ?_; clear F a; intro a F
    refine rl_run F (run_fieldAddr tok45.k rfl rfl (F.ev rfl)) rfl ?_; clear F a; intro a F
    refine rl_run F (run_load1 (agf tok22 rfl) (F.ev rfl) (M.cellL (k := 5) rfl rfl)) rfl ?_; clear F a; intro a F
    refine rl_run F (run_lenSl tok22.k (F.ev rfl)) rfl ?_; clear F a; intro a F
    refine rl_run F (run_lss (F.ev rfl) (F.ev rfl)) rfl ?_; clear F a; intro a F
    refine rl_run F (run_move (F.ev rfl)) rfl ?_; clear F a; intro a F
    rcases Bool.eq_false_or_eq_true (decide (((j : Nat) : Int) < ((ys.length : Nat) : Int))) with hc | hc
    · skip
      have h12b := hc; clear hc
      have h12 : ((j : Nat) : Int) < ((ys.length : Nat) : Int) := of_decide_eq_true h12b
      refine rl_guard_t F rfl rfl rfl h12b ?_
      refine rl_run F (run_move (F.ev rfl)) rfl ?_; clear F a; intro a F
      refine rl_guard_t F rfl rfl rfl h12b ?_
      refine rl_run F (run_lss (F.ev rfl) (F.ev rfl)) rfl ?_; clear F a; intro a F
      refine rl_run F (run_pick_t (F.ev rfl) h12b (F.ev rfl)) rfl ?_; clear F a; intro a F
      refine rl_nil ?_
      refine q_tn ?_
      refine w_cond F rfl ?_ ?_
      · intro hc
        have h13b := hc; clear hc
        have h13 : ((j : Nat) : Int) < 80 := of_decide_eq_true h13b
        refine wp_skip ?_
        refine q_tn ?_
        refine wp_seq ?_
        refine wp_block ?_
        refine wp_seq ?_
        refine w_reg ?_
        refine rl_run F (run_fieldAddr tok45.k rfl rfl (F.ev rfl)) rfl ?_; clear F a; intro a F
        refine rl_run F (run_load1 (agf tok22 rfl) (F.ev rfl) (M.cellL (k := 5) rfl rfl)) rfl ?_; clear F a; intro a F
        refine rl_run F (run_move (F.ev rfl)) rfl ?_; clear F a; intro a F
        obtain ⟨Xe14, hXe14⟩ := get_of_lt (xs := ys) (i := j) (by omega)
        obtain ⟨be14, oe14, _, Ie14, _, Ae14, ⟨rfl, hbe141, hbe142⟩⟩ := Sy.at hXe14
        refine rl_run F (run_indexI tok22.k tok29 (F.ev rfl) (F.ev rfl) (by omega) Ie14) rfl ?_; clear F a; intro a F
        refine rl_run F (run_fieldAddr tok29.k rfl rfl (F.ev rfl)) rfl ?_; clear F a; intro a F
        refine rl_run F (run_load1 (agf tok4 rfl) (F.ev rfl) (M.cellA Ae14 2 rfl rfl)) rfl ?_; clear F a; intro a F
        refine rl_nil ?_
        refine q_tn ?_
        refine w_cond F rfl ?_ ?_
        · intro hc
          have h15b := hc; clear hc
          have h15 : (Xe14.drop) = true := h15b
          refine w_reg ?_
          refine rl_run F (run_move (F.ev rfl)) rfl ?_; clear F a; intro a F
          refine rl_run F (run_fieldAddr tok45.k rfl rfl (F.ev rfl)) rfl ?_; clear F a; intro a F
          refine rl_run F (run_load1 (agf tok22 rfl) (F.ev rfl) (M.cellL (k := 5) rfl rfl)) rfl ?_; clear F a; intro a F
          refine rl_run F (run_move (F.ev rfl)) rfl ?_; clear F a; intro a F
          obtain ⟨be16, oe16, _, Ie16, _, Ae16, ⟨rfl, hbe161, hbe162⟩⟩ := Sy.at hXe14
          refine rl_run F (run_indexI tok22.k tok29 (F.ev rfl) (F.ev rfl) (by omega) Ie16) rfl ?_; clear F a; intro a F
          refine rl_run F (run_fieldAddr tok29.k rfl rfl (F.ev rfl)) rfl ?_; clear F a; intro a F
          refine rl_run F (run_load1 (agf tok27 rfl) (F.ev rfl) (M.cellA Ae16 0 rfl rfl)) rfl ?_; clear F a; intro a F
          replace M := M.perm (perm_front _ 4 _ rfl)
          replace M := M.perm (perm_front _ 4 _ rfl)
          change Mem w0 Gr4 (.blk bm5 [.slice (adq) (nq) (cq), .int .i64 (manyq), .int .i64 (tombsq)] 55 :: .row (.slice (adq) (nq) (cq)) (nq) (csq) 58 3 :: .row (.slice (ak6) ((runF ((xs).take 80)).length) ((runF ((xs).take 80)).length)) ((runF ((xs).take 80)).length) (csk) 27 1 :: .blk bm3 [.slice (adm3) (nm3) (cm3), .int .i64 (manym3), .int .i64 (tombsm3)] 55 :: .row (.slice (adm3) (nm3) (cm3)) (nm3) (csm3) 58 3 :: .blk b2 [.slice (ay) (ys.length) (cy)] 45 :: .blk b1 [.slice (ao) (xs.length) (co)] 45 :: L) _ at M
          have hsm17 := dropm_spec (key := Xe14.key) M hnq Eq Kq
          refine rl_callL F ent12 rfl rfl (hsm17) ?_; clear F M a; rintro _ _ w a M ⟨⟨adm17, nm17, cm17, manym17, tombsm17, csm17, sm17, rfl, hnm17, Em17, Km17⟩, rfl⟩ F
          clear hsm17
          refine rl_nil ?_
          refine q_bn ?_
          refine q_tn ?_
          refine w_reg ?_
          refine rl_run F (run_move (F.ev rfl)) rfl ?_; clear F a; intro a F
          refine rl_run F (run_addi (F.ev rfl) (F.ev rfl) (in_i64 (by omega) (by omega))) rfl ?_; clear F a; intro a F
          refine rl_run F (run_assign (F.ev rfl)) rfl ?_; clear F a; intro a F
          refine rl_nil ?_
          refine q_tn ?_
          replace M := M.perm (perm_front _ 6 _ rfl)
          replace M := M.perm (perm_front _ 6 _ rfl)
          replace M := M.perm (perm_front _ 3 _ rfl)
          replace M := M.perm (perm_front _ 3 _ rfl)
          replace M := M.perm (perm_front _ 6 _ rfl)
          replace M := M.perm (perm_front _ 6 _ rfl)
          replace M := M.perm (perm_front _ 6 _ rfl)
          change Mem w0 Gr4 (.row (.slice (ak6) ((runF ((xs).take 80)).length) ((runF ((xs).take 80)).length)) ((runF ((xs).take 80)).length) (csk) 27 1 :: .blk bm3 [.slice (adm3) (nm3) (cm3), .int .i64 (manym3), .int .i64 (tombsm3)] 55 :: .row (.slice (adm3) (nm3) (cm3)) (nm3) (csm3) 58 3 :: .blk bm5 [.slice (adm17) (nm17) (cm17), .int .i64 (manym17), .int .i64 (tombsm17)] 55 :: .row (.slice (adm17) (nm17) (cm17)) (nm17) (csm17) 58 3 :: .blk b2 [.slice (ay) (ys.length) (cy)] 45 :: .blk b1 [.slice (ao) (xs.length) (co)] 45 :: L) _ at M
          exact ⟨_, by omega, j + 1, (dropF ps2 Xe14.key).1, (adm17), (nm17), (cm17), (manym17), (tombsm17), (csm17), (sm17), rfl, F.to ⟨rfl, rfl, rfl, rfl, rfl, trivial⟩, (M.weaken (.cons_cons _ (.cons_cons _ (.cons_cons _ (.cons_cons _ (.cons_cons _ (.cons_cons _ (.cons_cons _ (List.Sublist.refl _))))))))), by have h1 := dropF_len ps2 Xe14.key; omega, hnm17, Em17, Km17⟩
        · intro hc
          have h18b := hc; clear hc
          have h18 : (Xe14.drop) = false := h18b
          refine w_plan [(true, 0), (true, 1), (true, 2), (true, 3), (true, 4), (true, 5), (true, 6), (true, 7), (true, 8), (true, 9), (true, 10), (true, 11), (true, 12), (true, 13), (false, 14)] (Keep Gr4 [.blk b2 [.slice (ay) (ys.length) (cy)] 45, .blk b1 [.slice (ao) (xs.length) (co)] 45]) rfl (by kernel_rfl) (fun c a d v w h => by cases d <;> exact h) ((M.drew _).keep (Gle.refl _) (by simp)) ?_
          replace M := M.drew (w.drawn + 1)
          refine pl_run F (fun w M => run_move (F.ev rfl)) rfl ?_; clear F a; intro a F
          refine pl_run F (fun w M => run_fieldAddr tok45.k rfl rfl (F.ev rfl)) rfl ?_; clear F a; intro a F
          refine pl_run F (fun w M => run_load1 (agf tok22 rfl) (F.ev rfl) (M.cellL (k := 0) rfl rfl)) rfl ?_; clear F a; intro a F
          refine pl_run F (fun w M => run_move (F.ev rfl)) rfl ?_; clear F a; intro a F
          obtain ⟨be19, oe19, _, Ie19, _, Ae19, ⟨rfl, hbe191, hbe192⟩⟩ := Sy.at hXe14
          refine pl_run F (fun w M => run_indexI tok22.k tok29 (F.ev rfl) (F.ev rfl) (by omega) Ie19) rfl ?_; clear F a; intro a F
          refine pl_run F (fun w M => run_fieldAddr tok29.k rfl rfl (F.ev rfl)) rfl ?_; clear F a; intro a F
          refine pl_run F (fun w M => run_load1 (agf tok27 rfl) (F.ev rfl) (M.cellA Ae19 0 rfl rfl)) rfl ?_; clear F a; intro a F
          refine pl_run F (fun w M => run_fieldAddr tok45.k rfl rfl (F.ev rfl)) rfl ?_; clear F a; intro a F
          refine pl_run F (fun w M => run_load1 (agf tok22 rfl) (F.ev rfl) (M.cellL (k := 0) rfl rfl)) rfl ?_; clear F a; intro a F
          refine pl_run F (fun w M => run_move (F.ev rfl)) rfl ?_; clear F a; intro a F
          obtain ⟨be20, oe20, _, Ie20, _, Ae20, ⟨rfl, hbe201, hbe202⟩⟩ := Sy.at hXe14
          refine pl_run F (fun w M => run_indexI tok22.k tok29 (F.ev rfl) (F.ev rfl) (by omega) Ie20) rfl ?_; clear F a; intro a F
          refine pl_run F (fun w M => run_fieldAddr tok29.k rfl rfl (F.ev rfl)) rfl ?_; clear F a; intro a F
          refine pl_run F (fun w M => run_load1 (agf tok3 rfl) (F.ev rfl) (M.cellA Ae20 1 rfl rfl)) rfl ?_; clear F a; intro a F
          refine pl_run F (fun w M => run_add (F.ev rfl) (F.ev rfl)) rfl ?_; clear F a; intro a F
          refine pl_act ?_ rfl
          replace M := M.perm (perm_front _ 4 _ rfl)
          replace M := M.perm (perm_front _ 4 _ rfl)
          change Mem w0 Gr4 (.blk bm5 [.slice (adq) (nq) (cq), .int .i64 (manyq), .int .i64 (tombsq)] 55 :: .row (.slice (adq) (nq) (cq)) (nq) (csq) 58 3 :: .row (.slice (ak6) ((runF ((xs).take 80)).length) ((runF ((xs).take 80)).length)) ((runF ((xs).take 80)).length) (csk) 27 1 :: .blk bm3 [.slice (adm3) (nm3) (cm3), .int .i64 (manym3), .int .i64 (tombsm3)] 55 :: .row (.slice (adm3) (nm3) (cm3)) (nm3) (csm3) 58 3 :: .blk b2 [.slice (ay) (ys.length) (cy)] 45 :: .blk b1 [.slice (ao) (xs.length) (co)] 45 :: L) _ at M
          have hsm21 := putm_spec (v := IntKind.i64.wrap (Xe14.v + 1)) M hnq Eq Kq (key := Xe14.key) (by first | assumption | exact ⟨by decide, by decide⟩ | exact wrap_ink _ _ | exact in_u64 (by omega) (by omega)) (by first | decide | exact (‹inKind .u64 (Xe14.key)›).1 | omega) (by first | assumption | exact ⟨by decide, by decide⟩ | exact wrap_ink _ _ | exact in_i64 (by omega) (by omega))
          refine rl_callL F ent14 rfl rfl (hsm21) ?_; clear F M a; rintro _ _ w a M ⟨⟨adm21, nm21, cm21, manym21, tombsm21, csm21, sm21, rfl, hnm21, Em21, Km21⟩, rfl⟩ F
          clear hsm21
          replace Km21 := Km21.more (show max 200 ((putF ps2 Xe14.key (IntKind.i64.wrap (Xe14.v + 1))).1).length ≤ 200 by (have h2 := putF_len ps2 Xe14.key (IntKind.i64.wrap (Xe14.v + 1)); omega))
          refine rl_nil ?_
          refine ⟨Keep Gr4 [.blk b2 [.slice (ay) (ys.length) (cy)] 45, .blk b1 [.slice (ao) (xs.length) (co)] 45], M.keep (Gle.refl _) (by simp), fun w h => h.mono (Gle.refl _) (by simp), ?_⟩
          refine pl_nil ?_
          refine q_bn ?_
          refine q_tn ?_
          refine w_reg ?_
          refine rl_run F (run_move (F.ev rfl)) rfl ?_; clear F a; intro a F
          refine rl_run F (run_addi (F.ev rfl) (F.ev rfl) (in_i64 (by omega) (by omega))) rfl ?_; clear F a; intro a F
          refine rl_run F (run_assign (F.ev rfl)) rfl ?_; clear F a; intro a F
          refine rl_nil ?_
          refine q_tn ?_
          replace M := M.perm (perm_front _ 6 _ rfl)
          replace M := M.perm (perm_front _ 6 _ rfl)
          replace M := M.perm (perm_front _ 3 _ rfl)
          replace M := M.perm (perm_front _ 3 _ rfl)
          replace M := M.perm (perm_front _ 6 _ rfl)
          replace M := M.perm (perm_front _ 6 _ rfl)
          replace M := M.perm (perm_front _ 6 _ rfl)
          change Mem w0 Gr4 (.row (.slice (ak6) ((runF ((xs).take 80)).length) ((runF ((xs).take 80)).length)) ((runF ((xs).take 80)).length) (csk) 27 1 :: .blk bm3 [.slice (adm3) (nm3) (cm3), .int .i64 (manym3), .int .i64 (tombsm3)] 55 :: .row (.slice (adm3) (nm3) (cm3)) (nm3) (csm3) 58 3 :: .blk bm5 [.slice (adm21) (nm21) (cm21), .int .i64 (manym21), .int .i64 (tombsm21)] 55 :: .row (.slice (adm21) (nm21) (cm21)) (nm21) (csm21) 58 3 :: .blk b2 [.slice (ay) (ys.length) (cy)] 45 :: .blk b1 [.slice (ao) (xs.length) (co)] 45 :: L) _ at M
          exact ⟨_, by omega, j + 1, (putF ps2 Xe14.key (IntKind.i64.wrap (Xe14.v + 1))).1, (adm21), (nm21), (cm21), (manym21), (tombsm21), (csm21), (sm21), rfl, F.to ⟨rfl, rfl, rfl, rfl, rfl, trivial⟩, (M.weaken (.cons_cons _ (.cons_cons _ (.cons_cons _ (.cons_cons _ (.cons_cons _ (.cons_cons _ (.cons_cons _ (List.Sublist.refl _))))))))), by have h1 := putF_len ps2 Xe14.key (IntKind.i64.wrap (Xe14.v + 1)); omega, hnm21, Em21, Km21⟩
      · intro hc
        have h22b := hc; clear hc
        have h22 : ¬ (((j : Nat) : Int) < 80) := of_decide_eq_false h22b
        refine wp_exit ?_
        refine q_te ?_
        refine q_te ?_
        refine q_bh ?_
        refine q_tn ?_
        refine wp_seq ?_
        refine wp_seq ?_
        refine w_reg ?_
        refine rl_run F (run_move (F.ev rfl)) rfl ?_; clear F a; intro a F
        refine rl_run F (run_move (F.ev rfl)) rfl ?_; clear F a; intro a F
        replace M := M.perm (perm_front _ 2 _ rfl)
        replace M := M.perm (perm_front _ 2 _ rfl)
        change Mem w0 Gr4 (.blk bm3 [.slice (adm3) (nm3) (cm3), .int .i64 (manym3), .int .i64 (tombsm3)] 55 :: .row (.slice (adm3) (nm3) (cm3)) (nm3) (csm3) 58 3 :: .row (.slice (ak6) ((runF ((xs).take 80)).length) ((runF ((xs).take 80)).length)) ((runF ((xs).take 80)).length) (csk) 27 1 :: .blk bm5 [.slice (adq) (nq) (cq), .int .i64 (manyq), .int .i64 (tombsq)] 55 :: .row (.slice (adq) (nq) (cq)) (nq) (csq) 58 3 :: .blk b2 [.slice (ay) (ys.length) (cy)] 45 :: .blk b1 [.slice (ao) (xs.length) (co)] 45 :: L) _ at M
        refine rl_callS F ent17 rfl rfl (same_spec (ps := runF ((xs).take 80)) (most := 80) M hnm3 Em3 Km3 Sr4 (by omega)) ?_; clear F M a; rintro _ w a M rfl F
        refine rl_run F (run_not (F.ev rfl)) rfl ?_; clear F a; intro a F
        refine rl_nil ?_
        refine q_tn ?_
        refine w_cond_f F rfl rfl ?_
        refine wp_skip ?_
        refine q_tn ?_
        refine wp_seq ?_
        refine w_reg ?_
        refine rl_run F (run_move (F.ev rfl)) rfl ?_; clear F a; intro a F
        replace M := M.perm (perm_front _ 1 _ rfl)
        replace M := M.perm (perm_front _ 1 _ rfl)
        change Mem w0 Gr4 (.blk bm3 [.slice (adm3) (nm3) (cm3), .int .i64 (manym3), .int .i64 (tombsm3)] 55 :: .row (.slice (adm3) (nm3) (cm3)) (nm3) (csm3) 58 3 :: .row (.slice (ak6) ((runF ((xs).take 80)).length) ((runF ((xs).take 80)).length)) ((runF ((xs).take 80)).length) (csk) 27 1 :: .blk bm5 [.slice (adq) (nq) (cq), .int .i64 (manyq), .int .i64 (tombsq)] 55 :: .row (.slice (adq) (nq) (cq)) (nq) (csq) 58 3 :: .blk b2 [.slice (ay) (ys.length) (cy)] 45 :: .blk b1 [.slice (ao) (xs.length) (co)] 45 :: L) _ at M
        refine rl_callL F ent22 rfl rfl (copy_spec M hnm3 Em3 Km3) ?_; clear F M a; rintro _ _ w a M ⟨bm23, rfl, adm23, nm23, cm23, manym23, tombsm23, csm23, sm23, rfl, hnm23, Em23, Km23⟩ F
        refine rl_run F (run_assign (F.ev rfl)) rfl ?_; clear F a; intro a F
        refine rl_nil ?_
        refine q_tn ?_
        refine wp_seq ?_
        refine w_reg ?_
        refine rl_run F (run_move (F.ev rfl)) rfl ?_; clear F a; intro a F
        replace M := M.perm (perm_front _ 3 _ rfl)
        replace M := M.perm (perm_front _ 3 _ rfl)
        change Mem w0 Gr4 (.blk bm3 [.slice (adm3) (nm3) (cm3), .int .i64 (manym3), .int .i64 (tombsm3)] 55 :: .row (.slice (adm3) (nm3) (cm3)) (nm3) (csm3) 58 3 :: .blk bm23 [.slice (adm23) (nm23) (cm23), .int .i64 (manym23), .int .i64 (tombsm23)] 55 :: .row (.slice (adm23) (nm23) (cm23)) (nm23) (csm23) 58 3 :: .row (.slice (ak6) ((runF ((xs).take 80)).length) ((runF ((xs).take 80)).length)) ((runF ((xs).take 80)).length) (csk) 27 1 :: .blk bm5 [.slice (adq) (nq) (cq), .int .i64 (manyq), .int .i64 (tombsq)] 55 :: .row (.slice (adq) (nq) (cq)) (nq) (csq) 58 3 :: .blk b2 [.slice (ay) (ys.length) (cy)] 45 :: .blk b1 [.slice (ao) (xs.length) (co)] 45 :: L) _ at M
        refine rl_callL F ent24 rfl rfl (clear_spec M hnm3 Em3) ?_; clear F M a; rintro _ _ w a M ⟨⟨adm24, nm24, cm24, manym24, tombsm24, csm24, sm24, rfl, hnm24, Em24, Km24⟩, rfl⟩ F
        have hmm24 : manym24 = 0 := Km24.many
        have hzm24 : nm24 = 0 := by rw [hnm24]; exact Km24.small.2 rfl
        refine rl_nil ?_
        refine q_tn ?_
        refine wp_seq ?_
        refine w_reg ?_
        refine rl_run F (run_move (F.ev rfl)) rfl ?_; clear F a; intro a F
        refine rl_run F (run_move (F.ev rfl)) rfl ?_; clear F a; intro a F
        replace M := M.perm (perm_front _ 3 _ rfl)
        replace M := M.perm (perm_front _ 3 _ rfl)
        change Mem w0 Gr4 (.blk bm23 [.slice (adm23) (nm23) (cm23), .int .i64 (manym23), .int .i64 (tombsm23)] 55 :: .row (.slice (adm23) (nm23) (cm23)) (nm23) (csm23) 58 3 :: .blk bm3 [.slice (adm24) (nm24) (cm24), .int .i64 (manym24), .int .i64 (tombsm24)] 55 :: .row (.slice (adm24) (nm24) (cm24)) (nm24) (csm24) 58 3 :: .row (.slice (ak6) ((runF ((xs).take 80)).length) ((runF ((xs).take 80)).length)) ((runF ((xs).take 80)).length) (csk) 27 1 :: .blk bm5 [.slice (adq) (nq) (cq), .int .i64 (manyq), .int .i64 (tombsq)] 55 :: .row (.slice (adq) (nq) (cq)) (nq) (csq) 58 3 :: .blk b2 [.slice (ay) (ys.length) (cy)] 45 :: .blk b1 [.slice (ao) (xs.length) (co)] 45 :: L) _ at M
        refine rl_callS F ent17 rfl rfl (same_spec (ps := runF ((xs).take 80)) (most := 80) M hnm23 Em23 Km23 Sr4 (by omega)) ?_; clear F M a; rintro _ w a M rfl F
        refine rl_run F (run_move (F.ev rfl)) rfl ?_; clear F a; intro a F
        refine rl_guard_t F rfl rfl rfl rfl ?_
        refine rl_run F (run_move (F.ev rfl)) rfl ?_; clear F a; intro a F
        refine rl_guard_t F rfl rfl rfl rfl ?_
        replace M := M.perm (perm_front _ 3 _ rfl)
        replace M := M.perm (perm_front _ 3 _ rfl)
        change Mem w0 Gr4 (.blk bm3 [.slice (adm24) (nm24) (cm24), .int .i64 (manym24), .int .i64 (tombsm24)] 55 :: .row (.slice (adm24) (nm24) (cm24)) (nm24) (csm24) 58 3 :: .blk bm23 [.slice (adm23) (nm23) (cm23), .int .i64 (manym23), .int .i64 (tombsm23)] 55 :: .row (.slice (adm23) (nm23) (cm23)) (nm23) (csm23) 58 3 :: .row (.slice (ak6) ((runF ((xs).take 80)).length) ((runF ((xs).take 80)).length)) ((runF ((xs).take 80)).length) (csk) 27 1 :: .blk bm5 [.slice (adq) (nq) (cq), .int .i64 (manyq), .int .i64 (tombsq)] 55 :: .row (.slice (adq) (nq) (cq)) (nq) (csq) 58 3 :: .blk b2 [.slice (ay) (ys.length) (cy)] 45 :: .blk b1 [.slice (ao) (xs.length) (co)] 45 :: L) _ at M
        refine rl_callS F ent17 rfl rfl (same_spec (ps := ([] : List PairD)) (most := 0) M hnm24 Em24 Km24 RdSl.nil (by omega)) ?_; clear F M a; rintro _ w a M rfl F
        refine rl_run F (run_pick_t (F.ev rfl) rfl (F.ev rfl)) rfl ?_; clear F a; intro a F
        refine rl_run F (run_move (F.ev rfl)) rfl ?_; clear F a; intro a F
        refine rl_guard_t F rfl rfl rfl rfl ?_
        refine rl_run F (run_move (F.ev rfl)) rfl ?_; clear F a; intro a F
        refine rl_guard_t F rfl rfl rfl rfl ?_
        refine rl_callS F ent21 rfl rfl (slots_spec M (k := 0) rfl) ?_; clear F M a; rintro _ w a M rfl F
        refine rl_guard_t F rfl rfl rfl rfl ?_
        refine rl_run F (run_eqi (F.ev rfl) (F.ev rfl)) rfl ?_; clear F a; intro a F
        refine rl_run F (run_pick_t (F.ev rfl) rfl (F.ev rfl)) rfl ?_; clear F a; intro a F
        refine rl_run F (run_move (F.ev rfl)) rfl ?_; clear F a; intro a F
        have hg25 : (decide (((nm24 : Nat) : Int) = 0)) = true := (decide_eq_true (by first | omega | decide))
        refine rl_guard_t F rfl rfl rfl hg25 ?_
        refine rl_run F (run_move (F.ev rfl)) rfl ?_; clear F a; intro a F
        refine rl_guard_t F rfl rfl rfl hg25 ?_
        replace M := M.perm (perm_front _ 1 _ rfl)
        replace M := M.perm (perm_front _ 1 _ rfl)
        change Mem w0 Gr4 (.blk bm3 [.slice (adm24) (nm24) (cm24), .int .i64 (manym24), .int .i64 (tombsm24)] 55 :: .row (.slice (adm24) (nm24) (cm24)) (nm24) (csm24) 58 3 :: .blk bm23 [.slice (adm23) (nm23) (cm23), .int .i64 (manym23), .int .i64 (tombsm23)] 55 :: .row (.slice (adm23) (nm23) (cm23)) (nm23) (csm23) 58 3 :: .row (.slice (ak6) ((runF ((xs).take 80)).length) ((runF ((xs).take 80)).length)) ((runF ((xs).take 80)).length) (csk) 27 1 :: .blk bm5 [.slice (adq) (nq) (cq), .int .i64 (manyq), .int .i64 (tombsq)] 55 :: .row (.slice (adq) (nq) (cq)) (nq) (csq) 58 3 :: .blk b2 [.slice (ay) (ys.length) (cy)] 45 :: .blk b1 [.slice (ao) (xs.length) (co)] 45 :: L) _ at M
        have hsm26 := putm_spec (v := 4) M hnm24 Em24 Km24 (key := 3) (by first | assumption | exact ⟨by decide, by decide⟩ | exact wrap_ink _ _ | exact in_u64 (by omega) (by omega)) (by first | decide | exact (‹inKind .u64 (3)›).1 | omega) (by first | assumption | exact ⟨by decide, by decide⟩ | exact wrap_ink _ _ | exact in_i64 (by omega) (by omega))
        rw [show putF ([] : List PairD) 3 4 = (([⟨3, 4⟩] : List PairD), 0) from rfl] at hsm26
        refine rl_callL F ent14 rfl rfl (hsm26) ?_; clear F M a; rintro _ _ w a M ⟨⟨adm26, nm26, cm26, manym26, tombsm26, csm26, sm26, rfl, hnm26, Em26, Km26⟩, rfl⟩ F
        clear hsm26
        have hmm26 : manym26 = 1 := Km26.many
        refine rl_guard_t F rfl rfl rfl hg25 ?_
        refine rl_run F (run_eqi (F.ev rfl) (F.ev rfl)) rfl ?_; clear F a; intro a F
        refine rl_run F (run_pick_t (F.ev rfl) hg25 (F.ev rfl)) rfl ?_; clear F a; intro a F
        refine rl_run F (run_move (F.ev rfl)) rfl ?_; clear F a; intro a F
        have hg27 : (decide ((0 : Int) = 0)) = true := (decide_eq_true (by first | omega | decide))
        refine rl_guard_t F rfl rfl rfl hg27 ?_
        refine rl_run F (run_move (F.ev rfl)) rfl ?_; clear F a; intro a F
        refine rl_guard_t F rfl rfl rfl hg27 ?_
        refine rl_run F (run_buildS (cs := [.int .u64 (3), .int .i64 (4)]) (ps := [(0, .int .u64 (3)), (1, .int .i64 (4))]) tok41.k rfl tok41 (F.evp rfl) rfl) rfl ?_; clear F a; intro a F
        refine rl_guard_t F rfl rfl rfl hg27 ?_
        refine rl_buildSlice1 F M tok26.k tok41 rfl rfl (cs := [.int .u64 (3), .int .i64 (4)]) rfl rfl (by simp [Value.oneCell']) (by decide) rfl ?_; clear F M a; intro v28 w a M F
        obtain ⟨av28, cv28, rfl, hlev28, hcmv28, hlv28⟩ := M.row_shape (k := 0) rfl
        have Ell29 : Els rdPair 2 Gr4 [.int .u64 3, .int .i64 4] [(⟨3, 4⟩ : PairD)] := Els.one ⟨rfl, ⟨by decide, by decide⟩, ⟨by decide, by decide⟩⟩ rfl
        obtain ⟨hnz30, Gz30, az30, cz30, hGz30, hez30, Sz30, M⟩ := M.freeze_row mono_rdPair (k := 0) rfl Ell29 (by decide)
        clear hez30 az30 cz30
        replace S := S.mono mono_rdStep hGz30
        replace Sy := Sy.mono mono_rdStep hGz30
        replace Sr4 := Sr4.mono mono_rdPair hGz30
        replace Ek := Ek.mono mono_rdU hGz30
        replace Eq := Eq.mono mono_rdSlot hGz30
        replace Em23 := Em23.mono mono_rdSlot hGz30
        replace Em26 := Em26.mono mono_rdSlot hGz30
        refine rl_guard_t F rfl rfl rfl hg27 ?_
        replace M := M.perm (perm_front _ 1 _ rfl)
        replace M := M.perm (perm_front _ 1 _ rfl)
        change Mem w0 Gz30 (.blk bm3 [.slice (adm26) (nm26) (cm26), .int .i64 (manym26), .int .i64 (tombsm26)] 55 :: .row (.slice (adm26) (nm26) (cm26)) (nm26) (csm26) 58 3 :: .blk bm23 [.slice (adm23) (nm23) (cm23), .int .i64 (manym23), .int .i64 (tombsm23)] 55 :: .row (.slice (adm23) (nm23) (cm23)) (nm23) (csm23) 58 3 :: .row (.slice (ak6) ((runF ((xs).take 80)).length) ((runF ((xs).take 80)).length)) ((runF ((xs).take 80)).length) (csk) 27 1 :: .blk bm5 [.slice (adq) (nq) (cq), .int .i64 (manyq), .int .i64 (tombsq)] 55 :: .row (.slice (adq) (nq) (cq)) (nq) (csq) 58 3 :: .blk b2 [.slice (ay) (ys.length) (cy)] 45 :: .blk b1 [.slice (ao) (xs.length) (co)] 45 :: L) _ at M
        refine rl_callS F ent17 rfl rfl (same_spec (ps := ([⟨3, 4⟩] : List PairD)) (most := 1) M hnm26 Em26 (Km26.more (show max 0 ([⟨3, 4⟩] : List PairD).length ≤ 1 by first | omega | decide)) Sz30 (by omega)) ?_; clear F M a; rintro _ w a M rfl F
        refine rl_run F (run_pick_t (F.ev rfl) hg27 (F.ev rfl)) rfl ?_; clear F a; intro a F
        refine rl_run F (run_move (F.ev rfl)) rfl ?_; clear F a; intro a F
        refine rl_guard_t F rfl rfl rfl rfl ?_
        refine rl_callS F ent9 rfl rfl (lives_spec M) ?_; clear F M a; rintro _ w a M rfl F
        refine rl_run F (run_pick_t (F.ev rfl) rfl (F.ev rfl)) rfl ?_; clear F a; intro a F
        refine rl_run F (run_assign (F.ev rfl)) rfl ?_; clear F a; intro a F
        refine rl_nil ?_
        refine q_tn ?_
        refine wp_ret ?_
        refine fin1 F rfl rfl ?_
        exact ⟨_, (hGr4.trans hGz30), M.weaken (.cons _ (.cons _ (.cons _ (.cons _ (.cons _ (.cons _ (.cons _ (.cons _ (.cons _ (List.Sublist.refl _)))))))))), rfl⟩
    · skip
      have h31b := hc; clear hc
      have h31 : ¬ (((j : Nat) : Int) < ((ys.length : Nat) : Int)) := of_decide_eq_false h31b
      refine rl_guard_f F rfl rfl rfl h31b ?_; clear F a; intro a F
      refine rl_guard_f F rfl rfl rfl h31b ?_; clear F a; intro a F
      refine rl_run F (run_pick_f (F.ev rfl) h31b (F.ev rfl)) rfl ?_; clear F a; intro a F
      refine rl_nil ?_
      refine q_tn ?_
      refine w_cond_f F rfl rfl ?_
      refine wp_exit ?_
      refine q_te ?_
      refine q_te ?_
      refine q_bh ?_
      refine q_tn ?_
      refine wp_seq ?_
      refine wp_seq ?_
      refine w_reg ?_
      refine rl_run F (run_move (F.ev rfl)) rfl ?_; clear F a; intro a F
      refine rl_run F (run_move (F.ev rfl)) rfl ?_; clear F a; intro a F
      replace M := M.perm (perm_front _ 2 _ rfl)
      replace M := M.perm (perm_front _ 2 _ rfl)
      change Mem w0 Gr4 (.blk bm3 [.slice (adm3) (nm3) (cm3), .int .i64 (manym3), .int .i64 (tombsm3)] 55 :: .row (.slice (adm3) (nm3) (cm3)) (nm3) (csm3) 58 3 :: .row (.slice (ak6) ((runF ((xs).take 80)).length) ((runF ((xs).take 80)).length)) ((runF ((xs).take 80)).length) (csk) 27 1 :: .blk bm5 [.slice (adq) (nq) (cq), .int .i64 (manyq), .int .i64 (tombsq)] 55 :: .row (.slice (adq) (nq) (cq)) (nq) (csq) 58 3 :: .blk b2 [.slice (ay) (ys.length) (cy)] 45 :: .blk b1 [.slice (ao) (xs.length) (co)] 45 :: L) _ at M
      refine rl_callS F ent17 rfl rfl (same_spec (ps := runF ((xs).take 80)) (most := 80) M hnm3 Em3 Km3 Sr4 (by omega)) ?_; clear F M a; rintro _ w a M rfl F
      refine rl_run F (run_not (F.ev rfl)) rfl ?_; clear F a; intro a F
      refine rl_nil ?_
      refine q_tn ?_
      refine w_cond_f F rfl rfl ?_
      refine wp_skip ?_
      refine q_tn ?_
      refine wp_seq ?_
      refine w_reg ?_
      refine rl_run F (run_move (F.ev rfl)) rfl ?_; clear F a; intro a F
      replace M := M.perm (perm_front _ 1 _ rfl)
      replace M := M.perm (perm_front _ 1 _ rfl)
      change Mem w0 Gr4 (.blk bm3 [.slice (adm3) (nm3) (cm3), .int .i64 (manym3), .int .i64 (tombsm3)] 55 :: .row (.slice (adm3) (nm3) (cm3)) (nm3) (csm3) 58 3 :: .row (.slice (ak6) ((runF ((xs).take 80)).length) ((runF ((xs).take 80)).length)) ((runF ((xs).take 80)).length) (csk) 27 1 :: .blk bm5 [.slice (adq) (nq) (cq), .int .i64 (manyq), .int .i64 (tombsq)] 55 :: .row (.slice (adq) (nq) (cq)) (nq) (csq) 58 3 :: .blk b2 [.slice (ay) (ys.length) (cy)] 45 :: .blk b1 [.slice (ao) (xs.length) (co)] 45 :: L) _ at M
      refine rl_callL F ent22 rfl rfl (copy_spec M hnm3 Em3 Km3) ?_; clear F M a; rintro _ _ w a M ⟨bm32, rfl, adm32, nm32, cm32, manym32, tombsm32, csm32, sm32, rfl, hnm32, Em32, Km32⟩ F
      refine rl_run F (run_assign (F.ev rfl)) rfl ?_; clear F a; intro a F
      refine rl_nil ?_
      refine q_tn ?_
      refine wp_seq ?_
      refine w_reg ?_
      refine rl_run F (run_move (F.ev rfl)) rfl ?_; clear F a; intro a F
      replace M := M.perm (perm_front _ 3 _ rfl)
      replace M := M.perm (perm_front _ 3 _ rfl)
      change Mem w0 Gr4 (.blk bm3 [.slice (adm3) (nm3) (cm3), .int .i64 (manym3), .int .i64 (tombsm3)] 55 :: .row (.slice (adm3) (nm3) (cm3)) (nm3) (csm3) 58 3 :: .blk bm32 [.slice (adm32) (nm32) (cm32), .int .i64 (manym32), .int .i64 (tombsm32)] 55 :: .row (.slice (adm32) (nm32) (cm32)) (nm32) (csm32) 58 3 :: .row (.slice (ak6) ((runF ((xs).take 80)).length) ((runF ((xs).take 80)).length)) ((runF ((xs).take 80)).length) (csk) 27 1 :: .blk bm5 [.slice (adq) (nq) (cq), .int .i64 (manyq), .int .i64 (tombsq)] 55 :: .row (.slice (adq) (nq) (cq)) (nq) (csq) 58 3 :: .blk b2 [.slice (ay) (ys.length) (cy)] 45 :: .blk b1 [.slice (ao) (xs.length) (co)] 45 :: L) _ at M
      refine rl_callL F ent24 rfl rfl (clear_spec M hnm3 Em3) ?_; clear F M a; rintro _ _ w a M ⟨⟨adm33, nm33, cm33, manym33, tombsm33, csm33, sm33, rfl, hnm33, Em33, Km33⟩, rfl⟩ F
      have hmm33 : manym33 = 0 := Km33.many
      have hzm33 : nm33 = 0 := by rw [hnm33]; exact Km33.small.2 rfl
      refine rl_nil ?_
      refine q_tn ?_
      refine wp_seq ?_
      refine w_reg ?_
      refine rl_run F (run_move (F.ev rfl)) rfl ?_; clear F a; intro a F
      refine rl_run F (run_move (F.ev rfl)) rfl ?_; clear F a; intro a F
      replace M := M.perm (perm_front _ 3 _ rfl)
      replace M := M.perm (perm_front _ 3 _ rfl)
      change Mem w0 Gr4 (.blk bm32 [.slice (adm32) (nm32) (cm32), .int .i64 (manym32), .int .i64 (tombsm32)] 55 :: .row (.slice (adm32) (nm32) (cm32)) (nm32) (csm32) 58 3 :: .blk bm3 [.slice (adm33) (nm33) (cm33), .int .i64 (manym33), .int .i64 (tombsm33)] 55 :: .row (.slice (adm33) (nm33) (cm33)) (nm33) (csm33) 58 3 :: .row (.slice (ak6) ((runF ((xs).take 80)).length) ((runF ((xs).take 80)).length)) ((runF ((xs).take 80)).length) (csk) 27 1 :: .blk bm5 [.slice (adq) (nq) (cq), .int .i64 (manyq), .int .i64 (tombsq)] 55 :: .row (.slice (adq) (nq) (cq)) (nq) (csq) 58 3 :: .blk b2 [.slice (ay) (ys.length) (cy)] 45 :: .blk b1 [.slice (ao) (xs.length) (co)] 45 :: L) _ at M
      refine rl_callS F ent17 rfl rfl (same_spec (ps := runF ((xs).take 80)) (most := 80) M hnm32 Em32 Km32 Sr4 (by omega)) ?_; clear F M a; rintro _ w a M rfl F
      refine rl_run F (run_move (F.ev rfl)) rfl ?_; clear F a; intro a F
      refine rl_guard_t F rfl rfl rfl rfl ?_
      refine rl_run F (run_move (F.ev rfl)) rfl ?_; clear F a; intro a F
      refine rl_guard_t F rfl rfl rfl rfl ?_
      replace M := M.perm (perm_front _ 3 _ rfl)
      replace M := M.perm (perm_front _ 3 _ rfl)
      change Mem w0 Gr4 (.blk bm3 [.slice (adm33) (nm33) (cm33), .int .i64 (manym33), .int .i64 (tombsm33)] 55 :: .row (.slice (adm33) (nm33) (cm33)) (nm33) (csm33) 58 3 :: .blk bm32 [.slice (adm32) (nm32) (cm32), .int .i64 (manym32), .int .i64 (tombsm32)] 55 :: .row (.slice (adm32) (nm32) (cm32)) (nm32) (csm32) 58 3 :: .row (.slice (ak6) ((runF ((xs).take 80)).length) ((runF ((xs).take 80)).length)) ((runF ((xs).take 80)).length) (csk) 27 1 :: .blk bm5 [.slice (adq) (nq) (cq), .int .i64 (manyq), .int .i64 (tombsq)] 55 :: .row (.slice (adq) (nq) (cq)) (nq) (csq) 58 3 :: .blk b2 [.slice (ay) (ys.length) (cy)] 45 :: .blk b1 [.slice (ao) (xs.length) (co)] 45 :: L) _ at M
      refine rl_callS F ent17 rfl rfl (same_spec (ps := ([] : List PairD)) (most := 0) M hnm33 Em33 Km33 RdSl.nil (by omega)) ?_; clear F M a; rintro _ w a M rfl F
      refine rl_run F (run_pick_t (F.ev rfl) rfl (F.ev rfl)) rfl ?_; clear F a; intro a F
      refine rl_run F (run_move (F.ev rfl)) rfl ?_; clear F a; intro a F
      refine rl_guard_t F rfl rfl rfl rfl ?_
      refine rl_run F (run_move (F.ev rfl)) rfl ?_; clear F a; intro a F
      refine rl_guard_t F rfl rfl rfl rfl ?_
      refine rl_callS F ent21 rfl rfl (slots_spec M (k := 0) rfl) ?_; clear F M a; rintro _ w a M rfl F
      refine rl_guard_t F rfl rfl rfl rfl ?_
      refine rl_run F (run_eqi (F.ev rfl) (F.ev rfl)) rfl ?_; clear F a; intro a F
      refine rl_run F (run_pick_t (F.ev rfl) rfl (F.ev rfl)) rfl ?_; clear F a; intro a F
      refine rl_run F (run_move (F.ev rfl)) rfl ?_; clear F a; intro a F
      have hg34 : (decide (((nm33 : Nat) : Int) = 0)) = true := (decide_eq_true (by first | omega | decide))
      refine rl_guard_t F rfl rfl rfl hg34 ?_
      refine rl_run F (run_move (F.ev rfl)) rfl ?_; clear F a; intro a F
      refine rl_guard_t F rfl rfl rfl hg34 ?_
      replace M := M.perm (perm_front _ 1 _ rfl)
      replace M := M.perm (perm_front _ 1 _ rfl)
      change Mem w0 Gr4 (.blk bm3 [.slice (adm33) (nm33) (cm33), .int .i64 (manym33), .int .i64 (tombsm33)] 55 :: .row (.slice (adm33) (nm33) (cm33)) (nm33) (csm33) 58 3 :: .blk bm32 [.slice (adm32) (nm32) (cm32), .int .i64 (manym32), .int .i64 (tombsm32)] 55 :: .row (.slice (adm32) (nm32) (cm32)) (nm32) (csm32) 58 3 :: .row (.slice (ak6) ((runF ((xs).take 80)).length) ((runF ((xs).take 80)).length)) ((runF ((xs).take 80)).length) (csk) 27 1 :: .blk bm5 [.slice (adq) (nq) (cq), .int .i64 (manyq), .int .i64 (tombsq)] 55 :: .row (.slice (adq) (nq) (cq)) (nq) (csq) 58 3 :: .blk b2 [.slice (ay) (ys.length) (cy)] 45 :: .blk b1 [.slice (ao) (xs.length) (co)] 45 :: L) _ at M
      have hsm35 := putm_spec (v := 4) M hnm33 Em33 Km33 (key := 3) (by first | assumption | exact ⟨by decide, by decide⟩ | exact wrap_ink _ _ | exact in_u64 (by omega) (by omega)) (by first | decide | exact (‹inKind .u64 (3)›).1 | omega) (by first | assumption | exact ⟨by decide, by decide⟩ | exact wrap_ink _ _ | exact in_i64 (by omega) (by omega))
      rw [show putF ([] : List PairD) 3 4 = (([⟨3, 4⟩] : List PairD), 0) from rfl] at hsm35
      refine rl_callL F ent14 rfl rfl (hsm35) ?_; clear F M a; rintro _ _ w a M ⟨⟨adm35, nm35, cm35, manym35, tombsm35, csm35, sm35, rfl, hnm35, Em35, Km35⟩, rfl⟩ F
      clear hsm35
      have hmm35 : manym35 = 1 := Km35.many
      refine rl_guard_t F rfl rfl rfl hg34 ?_
      refine rl_run F (run_eqi (F.ev rfl) (F.ev rfl)) rfl ?_; clear F a; intro a F
      refine rl_run F (run_pick_t (F.ev rfl) hg34 (F.ev rfl)) rfl ?_; clear F a; intro a F
      refine rl_run F (run_move (F.ev rfl)) rfl ?_; clear F a; intro a F
      have hg36 : (decide ((0 : Int) = 0)) = true := (decide_eq_true (by first | omega | decide))
      refine rl_guard_t F rfl rfl rfl hg36 ?_
      refine rl_run F (run_move (F.ev rfl)) rfl ?_; clear F a; intro a F
      refine rl_guard_t F rfl rfl rfl hg36 ?_
      refine rl_run F (run_buildS (cs := [.int .u64 (3), .int .i64 (4)]) (ps := [(0, .int .u64 (3)), (1, .int .i64 (4))]) tok41.k rfl tok41 (F.evp rfl) rfl) rfl ?_; clear F a; intro a F
      refine rl_guard_t F rfl rfl rfl hg36 ?_
      refine rl_buildSlice1 F M tok26.k tok41 rfl rfl (cs := [.int .u64 (3), .int .i64 (4)]) rfl rfl (by simp [Value.oneCell']) (by decide) rfl ?_; clear F M a; intro v37 w a M F
      obtain ⟨av37, cv37, rfl, hlev37, hcmv37, hlv37⟩ := M.row_shape (k := 0) rfl
      have Ell38 : Els rdPair 2 Gr4 [.int .u64 3, .int .i64 4] [(⟨3, 4⟩ : PairD)] := Els.one ⟨rfl, ⟨by decide, by decide⟩, ⟨by decide, by decide⟩⟩ rfl
      obtain ⟨hnz39, Gz39, az39, cz39, hGz39, hez39, Sz39, M⟩ := M.freeze_row mono_rdPair (k := 0) rfl Ell38 (by decide)
      clear hez39 az39 cz39
      replace S := S.mono mono_rdStep hGz39
      replace Sy := Sy.mono mono_rdStep hGz39
      replace Sr4 := Sr4.mono mono_rdPair hGz39
      replace Ek := Ek.mono mono_rdU hGz39
      replace Eq := Eq.mono mono_rdSlot hGz39
      replace Em32 := Em32.mono mono_rdSlot hGz39
      replace Em35 := Em35.mono mono_rdSlot hGz39
      refine rl_guard_t F rfl rfl rfl hg36 ?_
      replace M := M.perm (perm_front _ 1 _ rfl)
      replace M := M.perm (perm_front _ 1 _ rfl)
      change Mem w0 Gz39 (.blk bm3 [.slice (adm35) (nm35) (cm35), .int .i64 (manym35), .int .i64 (tombsm35)] 55 :: .row (.slice (adm35) (nm35) (cm35)) (nm35) (csm35) 58 3 :: .blk bm32 [.slice (adm32) (nm32) (cm32), .int .i64 (manym32), .int .i64 (tombsm32)] 55 :: .row (.slice (adm32) (nm32) (cm32)) (nm32) (csm32) 58 3 :: .row (.slice (ak6) ((runF ((xs).take 80)).length) ((runF ((xs).take 80)).length)) ((runF ((xs).take 80)).length) (csk) 27 1 :: .blk bm5 [.slice (adq) (nq) (cq), .int .i64 (manyq), .int .i64 (tombsq)] 55 :: .row (.slice (adq) (nq) (cq)) (nq) (csq) 58 3 :: .blk b2 [.slice (ay) (ys.length) (cy)] 45 :: .blk b1 [.slice (ao) (xs.length) (co)] 45 :: L) _ at M
      refine rl_callS F ent17 rfl rfl (same_spec (ps := ([⟨3, 4⟩] : List PairD)) (most := 1) M hnm35 Em35 (Km35.more (show max 0 ([⟨3, 4⟩] : List PairD).length ≤ 1 by first | omega | decide)) Sz39 (by omega)) ?_; clear F M a; rintro _ w a M rfl F
      refine rl_run F (run_pick_t (F.ev rfl) hg36 (F.ev rfl)) rfl ?_; clear F a; intro a F
      refine rl_run F (run_move (F.ev rfl)) rfl ?_; clear F a; intro a F
      refine rl_guard_t F rfl rfl rfl rfl ?_
      refine rl_callS F ent9 rfl rfl (lives_spec M) ?_; clear F M a; rintro _ w a M rfl F
      refine rl_run F (run_pick_t (F.ev rfl) rfl (F.ev rfl)) rfl ?_; clear F a; intro a F
      refine rl_run F (run_assign (F.ev rfl)) rfl ?_; clear F a; intro a F
      refine rl_nil ?_
      refine q_tn ?_
      refine wp_ret ?_
      refine fin1 F rfl rfl ?_
      exact ⟨_, (hGr4.trans hGz39), M.weaken (.cons _ (.cons _ (.cons _ (.cons _ (.cons _ (.cons _ (.cons _ (.cons _ (.cons _ (List.Sublist.refl _)))))))))), rfl⟩

theorem own_law {w0 w : World} {G : Ghost} {L : List Res} (M : Mem w0 G L w) {ao : Option Addr} {co : Nat} {xs : List StepD} (S : RdSl rdStep 3 G (.slice ao xs.length co) xs) (hxl : xs.length ≤ 9223372036854775807) {ay : Option Addr} {cy : Nat} {ys : List StepD} (Sy : RdSl rdStep 3 G (.slice ay ys.length cy) ys) (hyl : ys.length ≤ 9223372036854775807) :
    Calls Try.prog 7 #[.agg #[.slice ao xs.length co], .agg #[.slice ay ys.length cy]] w (RetS w0 G L fun v => v = .bool true) := Ret.plain M (own_ret M S hxl Sy hyl)

end Go.Proofs.Ytnloilnlehgngaa
