/- The walks, part M. -/
import Derived.Test.YtokeofoemjeleaaDoorWalkL
import Derived.Test.YtokeofoemjeleaaDoorLaw
namespace Go.Proofs.YtokeofoemjeleaaDoor
open Go Go.Y Go.Proofs
set_option linter.unusedSimpArgs false
set_option linter.unusedVariables false
theorem check_ret {w0 w : World} {G : Ghost} {L : List Res} (M : Mem w0 G L w) (HG : Globs 0 1 4 5 G) {ad : Option Addr} {c : Nat} {xs : List PairD} (S : RdSl rdPair 2 G (.slice ad xs.length c) xs) (hxs : xs.length ≤ 9223372036854775807) {least : Int} : Calls Tryd.prog 3 #[.slice ad xs.length c, .int .i64 least] w (Ret w0 G L fun _ v => v = .bool true) := by
  refine calls_start (vs := [_, _]) Tryd.func3 rfl (n := 25) rfl rfl ?_
  intro a F
  refine wp_seq ?_
  refine w_reg ?_
  refine rl_run F (run_assign (F.ev rfl)) rfl ?_; clear F a; intro a F
  refine rl_nil ?_
  refine q_tn ?_
  refine wp_seq ?_
  refine wp_seq ?_
  refine w_reg ?_
  refine rl_run F (run_move (F.ev rfl)) rfl ?_; clear F a; intro a F
  refine rl_run F (run_lenSl tok22.k (F.ev rfl)) rfl ?_; clear F a; intro a F
  refine rl_run F (run_gtr (F.ev rfl) (F.ev rfl)) rfl ?_; clear F a; intro a F
  refine rl_nil ?_
  refine q_tn ?_
  refine w_cond F rfl ?_ ?_
  · intro hc
    have h1b := hc; clear hc
    have h1 : 60 < ((xs.length : Nat) : Int) := of_decide_eq_true h1b
    refine wp_seq ?_
    refine w_reg ?_
    refine rl_callS F ent10 rfl rfl (lives_spec M HG) ?_; clear F M a; rintro _ w a M rfl F
    refine rl_run F (run_assign (F.ev rfl)) rfl ?_; clear F a; intro a F
    refine rl_nil ?_
    refine q_tn ?_
    refine wp_ret ?_
    refine q_tr ?_
    refine fin1 F rfl rfl ?_
    exact ⟨G, (Gle.refl _), M.weaken (List.Sublist.refl _), rfl⟩
  · intro hc
    have h2b := hc; clear hc
    have h2 : ¬ (60 < ((xs.length : Nat) : Int)) := of_decide_eq_false h2b
    refine wp_skip ?_
    refine q_tn ?_
    refine wp_seq ?_
    refine w_reg ?_
    refine rl_run F (run_move (F.ev rfl)) rfl ?_; clear F a; intro a F
    refine rl_run F (run_move (F.ev rfl)) rfl ?_; clear F a; intro a F
    refine rl_callS F ent11 rfl rfl (rcheck_spec (xs := xs) (least := least) M S (by omega)) ?_; clear F M a; rintro _ w a M rfl F
    refine rl_run F (run_move (F.ev rfl)) rfl ?_; clear F a; intro a F
    refine rl_run F (run_extract (v := .int .i64 ((((checkF xs least).1 : Nat) : Int))) (F.ev rfl) rfl) rfl ?_; clear F a; intro a F
    refine rl_run F (run_extract (v := .int .i64 ((checkF xs least).2)) (F.ev rfl) rfl) rfl ?_; clear F a; intro a F
    refine rl_run F (run_assign (F.ev rfl)) rfl ?_; clear F a; intro a F
    refine rl_run F (run_assign (F.ev rfl)) rfl ?_; clear F a; intro a F
    refine rl_nil ?_
    refine q_tn ?_
    refine wp_seq ?_
    refine w_reg ?_
    refine rl_run F (run_move (F.ev rfl)) rfl ?_; clear F a; intro a F
    refine rl_run F (run_move (F.ev rfl)) rfl ?_; clear F a; intro a F
    refine rl_run F (run_move (F.ev rfl)) rfl ?_; clear F a; intro a F
    refine rl_run F (run_move (F.ev rfl)) rfl ?_; clear F a; intro a F
    refine rl_callS F ent12 rfl rfl (checked_spec (xs := xs) (least := least) (at' := (checkF xs least).1) (e' := (checkF xs least).2) M S (by omega) (by exact rfl)) ?_; clear F M a; rintro _ w a M rfl F
    refine rl_run F (run_move (F.ev rfl)) rfl ?_; clear F a; intro a F
    refine rl_guard_t F rfl rfl rfl rfl ?_
    refine rl_callS F ent10 rfl rfl (lives_spec M HG) ?_; clear F M a; rintro _ w a M rfl F
    refine rl_run F (run_pick_t (F.ev rfl) rfl (F.ev rfl)) rfl ?_; clear F a; intro a F
    refine rl_run F (run_assign (F.ev rfl)) rfl ?_; clear F a; intro a F
    refine rl_nil ?_
    refine q_tn ?_
    refine wp_ret ?_
    refine fin1 F rfl rfl ?_
    exact ⟨G, (Gle.refl _), M.weaken (List.Sublist.refl _), rfl⟩

theorem check_law {w0 w : World} {G : Ghost} {L : List Res} (M : Mem w0 G L w) (HG : Globs 0 1 4 5 G) {ad : Option Addr} {c : Nat} {xs : List PairD} (S : RdSl rdPair 2 G (.slice ad xs.length c) xs) (hxs : xs.length ≤ 9223372036854775807) {least : Int} : Calls Tryd.prog 3 #[.slice ad xs.length c, .int .i64 least] w (RetS w0 G L fun v => v = .bool true) := Ret.plain M (check_ret M HG S hxs)

theorem parse_ret {w0 w : World} {G : Ghost} {L : List Res} (M : Mem w0 G L w) (HG : Globs 0 1 4 5 G) {s : List UInt8} (hs : s.length ≤ 9223372036854775807) : Calls Tryd.prog 6 #[.string (str s)] w (Ret w0 G L fun _ v => v = .bool true) := by
  refine calls_start (vs := [_]) Tryd.func6 rfl (n := 64) rfl rfl ?_
  intro a F
  refine wp_seq ?_
  refine w_reg ?_
  refine rl_run F (run_assign (F.ev rfl)) rfl ?_; clear F a; intro a F
  refine rl_nil ?_
  refine q_tn ?_
  refine wp_seq ?_
  refine wp_seq ?_
  refine w_reg ?_
  refine rl_run F (run_move (F.ev rfl)) rfl ?_; clear F a; intro a F
  refine rl_run F (run_lenStr tok9.k (F.ev rfl)) rfl ?_; clear F a; intro a F
  refine rl_run F (run_gtr (F.ev rfl) (F.ev rfl)) rfl ?_; clear F a; intro a F
  refine rl_nil ?_
  refine q_tn ?_
  refine w_cond F rfl ?_ ?_
  · intro hc
    have h1b := hc; clear hc
    have h1 : 300 < (((s).length : Nat) : Int) := of_decide_eq_true h1b
    refine wp_seq ?_
    refine w_reg ?_
    refine rl_callS F ent10 rfl rfl (lives_spec M HG) ?_; clear F M a; rintro _ w a M rfl F
    refine rl_run F (run_assign (F.ev rfl)) rfl ?_; clear F a; intro a F
    refine rl_nil ?_
    refine q_tn ?_
    refine wp_ret ?_
    refine q_tr ?_
    refine fin1 F rfl rfl ?_
    exact ⟨G, (Gle.refl _), M.weaken (List.Sublist.refl _), rfl⟩
  · intro hc
    have h2b := hc; clear hc
    have h2 : ¬ (300 < (((s).length : Nat) : Int)) := of_decide_eq_false h2b
    refine wp_skip ?_
    refine q_tn ?_
    refine wp_seq ?_
    refine w_reg ?_
    refine rl_run F (run_move (F.ev rfl)) rfl ?_; clear F a; intro a F
    refine rl_call F ent18 rfl rfl (parse_spec (s := (s)) M HG (by omega)) ?_; clear F M a; rintro _ Gp3 w a hGp3 M ⟨ap3, rfl, Sp3⟩ F
    replace HG := HG.mono hGp3
    refine rl_run F (run_move (F.ev rfl)) rfl ?_; clear F a; intro a F
    refine rl_run F (run_extract (v := .slice (ap3) ((parseF s).1.length) ((parseF s).1.length)) (F.ev rfl) rfl) rfl ?_; clear F a; intro a F
    refine rl_run F (run_extract (v := .int .i64 ((((parseF s).2.1 : Nat) : Int))) (F.ev rfl) rfl) rfl ?_; clear F a; intro a F
    refine rl_run F (run_extract (v := .int .i64 ((parseF s).2.2)) (F.ev rfl) rfl) rfl ?_; clear F a; intro a F
    refine rl_run F (run_assign (F.ev rfl)) rfl ?_; clear F a; intro a F
    refine rl_run F (run_assign (F.ev rfl)) rfl ?_; clear F a; intro a F
    refine rl_run F (run_assign (F.ev rfl)) rfl ?_; clear F a; intro a F
    refine rl_nil ?_
    refine q_tn ?_
    refine wp_seq ?_
    refine w_reg ?_
    refine rl_run F (run_move (F.ev rfl)) rfl ?_; clear F a; intro a F
    refine rl_call F ent19 rfl rfl (rparse_spec (s := (s)) M (by omega)) ?_; clear F M a; rintro _ Gp4 w a hGp4 M ⟨ap4, cp4, rfl, Sp4⟩ F
    replace HG := HG.mono hGp4
    replace Sp3 := Sp3.mono mono_rdPair hGp4
    refine rl_run F (run_move (F.ev rfl)) rfl ?_; clear F a; intro a F
    refine rl_run F (run_extract (v := .slice (ap4) ((parseF s).1.length) (cp4)) (F.ev rfl) rfl) rfl ?_; clear F a; intro a F
    refine rl_run F (run_extract (v := .int .i64 ((((parseF s).2.1 : Nat) : Int))) (F.ev rfl) rfl) rfl ?_; clear F a; intro a F
    refine rl_run F (run_extract (v := .int .i64 ((parseF s).2.2)) (F.ev rfl) rfl) rfl ?_; clear F a; intro a F
    refine rl_run F (run_assign (F.ev rfl)) rfl ?_; clear F a; intro a F
    refine rl_run F (run_assign (F.ev rfl)) rfl ?_; clear F a; intro a F
    refine rl_run F (run_assign (F.ev rfl)) rfl ?_; clear F a; intro a F
    refine rl_nil ?_
    refine q_tn ?_
    refine wp_seq ?_
    refine wp_seq ?_
    refine w_reg ?_
    refine rl_run F (run_move (F.ev rfl)) rfl ?_; clear F a; intro a F
    refine rl_run F (run_move (F.ev rfl)) rfl ?_; clear F a; intro a F
    refine rl_run F (run_nei (F.ev rfl) (F.ev rfl)) rfl ?_; clear F a; intro a F
    refine rl_run F (run_move (F.ev rfl)) rfl ?_; clear F a; intro a F
    have hg5 : (!(decide ((((parseF s).2.1 : Nat) : Int) = (((parseF s).2.1 : Nat) : Int)))) = false := (not_f (decide_eq_true (by rfl)))
    refine rl_guard_t F rfl rfl rfl hg5 ?_
    refine rl_run F (run_move (F.ev rfl)) rfl ?_; clear F a; intro a F
    refine rl_guard_t F rfl rfl rfl hg5 ?_
    refine rl_run F (run_move (F.ev rfl)) rfl ?_; clear F a; intro a F
    refine rl_guard_t F rfl rfl rfl hg5 ?_
    refine rl_run F (run_nei (F.ev rfl) (F.ev rfl)) rfl ?_; clear F a; intro a F
    refine rl_run F (run_pick_f (F.ev rfl) hg5 (F.ev rfl)) rfl ?_; clear F a; intro a F
    refine rl_run F (run_move (F.ev rfl)) rfl ?_; clear F a; intro a F
    have hg6 : (!(decide ((parseF s).2.2 = (parseF s).2.2))) = false := (not_f (decide_eq_true (by rfl)))
    refine rl_guard_t F rfl rfl rfl hg6 ?_
    refine rl_run F (run_move (F.ev rfl)) rfl ?_; clear F a; intro a F
    refine rl_guard_t F rfl rfl rfl hg6 ?_
    refine rl_run F (run_move (F.ev rfl)) rfl ?_; clear F a; intro a F
    refine rl_guard_t F rfl rfl rfl hg6 ?_
    refine rl_run F (run_move (F.ev rfl)) rfl ?_; clear F a; intro a F
    refine rl_guard_t F rfl rfl rfl hg6 ?_
    refine rl_run F (run_lenSl tok22.k (F.ev rfl)) rfl ?_; clear F a; intro a F
    refine rl_guard_t F rfl rfl rfl hg6 ?_
    refine rl_run F (run_move (F.ev rfl)) rfl ?_; clear F a; intro a F
    refine rl_guard_t F rfl rfl rfl hg6 ?_
    refine rl_run F (run_lenSl tok22.k (F.ev rfl)) rfl ?_; clear F a; intro a F
    refine rl_guard_t F rfl rfl rfl hg6 ?_
    have sb7 := Sp4.bound
    refine rl_run F (run_slice3 (h := (parseF s).1.length) (q := (parseF s).1.length) tok22.k tok39 (F.ev rfl) (F.ev rfl) (by omega) (F.ev rfl) (by omega) (by omega) (by omega)) rfl ?_; clear F a; intro a F
    have S8 := Sp4.clip
    refine rl_guard_t F rfl rfl rfl hg6 ?_
    refine rl_callS F ent15 rfl rfl (same_spec (xs := (parseF s).1) M Sp3 S8 (by (have := parse_len (s := s); omega))) ?_; clear F M a; rintro _ w a M rfl F
    refine rl_guard_t F rfl rfl rfl hg6 ?_
    refine rl_run F (run_not (F.ev rfl)) rfl ?_; clear F a; intro a F
    refine rl_run F (run_pick_f (F.ev rfl) hg6 (F.ev rfl)) rfl ?_; clear F a; intro a F
    refine rl_nil ?_
    refine q_tn ?_
    refine w_cond_f F rfl rfl ?_
    refine wp_skip ?_
    refine q_tn ?_
    refine wp_seq ?_
    refine wp_seq ?_
    refine w_reg ?_
    refine rl_run F (run_move (F.ev rfl)) rfl ?_; clear F a; intro a F
    refine rl_run F (run_nei (F.ev rfl) (F.ev rfl)) rfl ?_; clear F a; intro a F
    refine rl_nil ?_
    refine q_tn ?_
    refine w_cond F rfl ?_ ?_
    · intro hc
      have h9b := hc; clear hc
      have h9 : ¬ ((parseF s).2.2 = 0) := of_decide_eq_false (of_not_t h9b)
      have h9c : (decide ((parseF s).2.2 = 0)) = false := (of_not_t h9b)
      refine wp_seq ?_
      refine w_reg ?_
      refine rl_callS F ent10 rfl rfl (lives_spec M HG) ?_; clear F M a; rintro _ w a M rfl F
      refine rl_run F (run_assign (F.ev rfl)) rfl ?_; clear F a; intro a F
      refine rl_nil ?_
      refine q_tn ?_
      refine wp_ret ?_
      refine q_tr ?_
      refine fin1 F rfl rfl ?_
      exact ⟨Gp4, (hGp3.trans hGp4), M.weaken (List.Sublist.refl _), rfl⟩
    · intro hc
      have h10b := hc; clear hc
      have h10 : (parseF s).2.2 = 0 := of_decide_eq_true (of_not_f h10b)
      have h10c : (decide ((parseF s).2.2 = 0)) = true := (of_not_f h10b)
      refine wp_skip ?_
      refine q_tn ?_
      refine wp_seq ?_
      refine w_reg ?_
      refine rl_run F (run_move (F.ev rfl)) rfl ?_; clear F a; intro a F
      refine rl_callS F ent14 rfl rfl (text_spec (xs := (parseF s).1) M HG Sp3 (by (have := parse_len (s := s); omega)) (by (have := parse_len (s := s); omega))) ?_; clear F M a; rintro _ w a M rfl F
      have hq11 : (if (checkF ((parseF s).1) 1).2 = 0 then textF ((parseF s).1) else []) = s ∧ (checkF ((parseF s).1) 1).2 = 0 := parse_ok (by omega)
      rw [hq11.1, hq11.2] at F
      refine rl_run F (run_move (F.ev rfl)) rfl ?_; clear F a; intro a F
      refine rl_run F (run_extract (v := .string (str (s))) (F.ev rfl) rfl) rfl ?_; clear F a; intro a F
      refine rl_run F (run_extract (v := .int .i64 (0)) (F.ev rfl) rfl) rfl ?_; clear F a; intro a F
      refine rl_run F (run_assign (F.ev rfl)) rfl ?_; clear F a; intro a F
      refine rl_run F (run_assign (F.ev rfl)) rfl ?_; clear F a; intro a F
      refine rl_nil ?_
      refine q_tn ?_
      refine wp_seq ?_
      refine w_reg ?_
      refine rl_run F (run_move (F.ev rfl)) rfl ?_; clear F a; intro a F
      refine rl_run F (run_move (F.ev rfl)) rfl ?_; clear F a; intro a F
      refine rl_run F (run_strEq (F.ev rfl) (F.ev rfl)) rfl ?_; clear F a; intro a F
      refine rl_run F (run_move (F.ev rfl)) rfl ?_; clear F a; intro a F
      have hg12 : (decide (s = s)) = true := (decide_eq_true (by rfl))
      refine rl_guard_t F rfl rfl rfl hg12 ?_
      refine rl_run F (run_move (F.ev rfl)) rfl ?_; clear F a; intro a F
      refine rl_guard_t F rfl rfl rfl hg12 ?_
      refine rl_run F (run_eqi (F.ev rfl) (F.ev rfl)) rfl ?_; clear F a; intro a F
      refine rl_run F (run_pick_t (F.ev rfl) hg12 (F.ev rfl)) rfl ?_; clear F a; intro a F
      refine rl_run F (run_move (F.ev rfl)) rfl ?_; clear F a; intro a F
      refine rl_guard_t F rfl rfl rfl (decide_eq_true (by decide)) ?_
      refine rl_callS F ent10 rfl rfl (lives_spec M HG) ?_; clear F M a; rintro _ w a M rfl F
      refine rl_run F (run_pick_t (F.ev rfl) (decide_eq_true (by decide)) (F.ev rfl)) rfl ?_; clear F a; intro a F
      refine rl_run F (run_assign (F.ev rfl)) rfl ?_; clear F a; intro a F
      refine rl_nil ?_
      refine q_tn ?_
      refine wp_ret ?_
      refine fin1 F rfl rfl ?_
      exact ⟨Gp4, (hGp3.trans hGp4), M.weaken (List.Sublist.refl _), rfl⟩

theorem parse_law {w0 w : World} {G : Ghost} {L : List Res} (M : Mem w0 G L w) (HG : Globs 0 1 4 5 G) {s : List UInt8} (hs : s.length ≤ 9223372036854775807) : Calls Tryd.prog 6 #[.string (str s)] w (RetS w0 G L fun v => v = .bool true) := Ret.plain M (parse_ret M HG hs)

theorem text_ret {w0 w : World} {G : Ghost} {L : List Res} (M : Mem w0 G L w) (HG : Globs 0 1 4 5 G) {ad : Option Addr} {c : Nat} {xs : List PairD} (S : RdSl rdPair 2 G (.slice ad xs.length c) xs) (hxs : xs.length ≤ 9223372036854775807) : Calls Tryd.prog 5 #[.slice ad xs.length c] w (Ret w0 G L fun _ v => v = .bool true) := by
  refine calls_start (vs := [_]) Tryd.func5 rfl (n := 72) rfl rfl ?_
  intro a F
  refine wp_seq ?_
  refine w_reg ?_
  refine rl_run F (run_assign (F.ev rfl)) rfl ?_; clear F a; intro a F
  refine rl_nil ?_
  refine q_tn ?_
  refine wp_seq ?_
  refine w_reg ?_
  refine rl_run F (run_move (F.ev rfl)) rfl ?_; clear F a; intro a F
  refine rl_callS F ent11 rfl rfl (rcheck_spec (xs := xs) (least := 1) M S (by omega)) ?_; clear F M a; rintro _ w a M rfl F
  refine rl_run F (run_move (F.ev rfl)) rfl ?_; clear F a; intro a F
  refine rl_run F (run_extract (v := .int .i64 ((((checkF xs 1).1 : Nat) : Int))) (F.ev rfl) rfl) rfl ?_; clear F a; intro a F
  refine rl_run F (run_extract (v := .int .i64 ((checkF xs 1).2)) (F.ev rfl) rfl) rfl ?_; clear F a; intro a F
  refine rl_run F (run_assign (F.ev rfl)) rfl ?_; clear F a; intro a F
  refine rl_run F (run_assign (F.ev rfl)) rfl ?_; clear F a; intro a F
  refine rl_nil ?_
  refine q_tn ?_
  refine wp_seq ?_
  refine wp_seq ?_
  refine w_reg ?_
  refine rl_run F (run_move (F.ev rfl)) rfl ?_; clear F a; intro a F
  refine rl_run F (run_lenSl tok22.k (F.ev rfl)) rfl ?_; clear F a; intro a F
  refine rl_run F (run_gtr (F.ev rfl) (F.ev rfl)) rfl ?_; clear F a; intro a F
  refine rl_run F (run_move (F.ev rfl)) rfl ?_; clear F a; intro a F
  rcases Bool.eq_false_or_eq_true (decide (40 < ((xs.length : Nat) : Int))) with hc | hc
  · skip
    have h1b := hc; clear hc
    have h1 : 40 < ((xs.length : Nat) : Int) := of_decide_eq_true h1b
    refine rl_guard_f F rfl rfl rfl h1b ?_; clear F a; intro a F
    refine rl_guard_f F rfl rfl rfl h1b ?_; clear F a; intro a F
    refine rl_run F (run_pick_t (F.ev rfl) h1b (F.ev rfl)) rfl ?_; clear F a; intro a F
    refine rl_nil ?_
    refine q_tn ?_
    refine w_cond_t F rfl rfl ?_
    refine wp_seq ?_
    refine w_reg ?_
    refine rl_callS F ent10 rfl rfl (lives_spec M HG) ?_; clear F M a; rintro _ w a M rfl F
    refine rl_run F (run_assign (F.ev rfl)) rfl ?_; clear F a; intro a F
    refine rl_nil ?_
    refine q_tn ?_
    refine wp_ret ?_
    refine q_tr ?_
    refine fin1 F rfl rfl ?_
    exact ⟨G, (Gle.refl _), M.weaken (List.Sublist.refl _), rfl⟩
  · skip
    have h2b := hc; clear hc
    have h2 : ¬ (40 < ((xs.length : Nat) : Int)) := of_decide_eq_false h2b
    refine rl_guard_t F rfl rfl rfl h2b ?_
    refine rl_run F (run_move (F.ev rfl)) rfl ?_; clear F a; intro a F
    refine rl_guard_t F rfl rfl rfl h2b ?_
    refine rl_run F (run_nei (F.ev rfl) (F.ev rfl)) rfl ?_; clear F a; intro a F
    refine rl_run F (run_pick_f (F.ev rfl) h2b (F.ev rfl)) rfl ?_; clear F a; intro a F
    refine rl_nil ?_
    refine q_tn ?_
    refine w_cond F rfl ?_ ?_
    · intro hc
      have h3b := hc; clear hc
      have h3 : ¬ ((checkF xs 1).2 = 0) := of_decide_eq_false (of_not_t h3b)
      have h3c : (decide ((checkF xs 1).2 = 0)) = false := (of_not_t h3b)
      refine wp_seq ?_
      refine w_reg ?_
      refine rl_callS F ent10 rfl rfl (lives_spec M HG) ?_; clear F M a; rintro _ w a M rfl F
      refine rl_run F (run_assign (F.ev rfl)) rfl ?_; clear F a; intro a F
      refine rl_nil ?_
      refine q_tn ?_
      refine wp_ret ?_
      refine q_tr ?_
      refine fin1 F rfl rfl ?_
      exact ⟨G, (Gle.refl _), M.weaken (List.Sublist.refl _), rfl⟩
    · intro hc
      have h4b := hc; clear hc
      have h4 : (checkF xs 1).2 = 0 := of_decide_eq_true (of_not_f h4b)
      have h4c : (decide ((checkF xs 1).2 = 0)) = true := (of_not_f h4b)
      refine wp_skip ?_
      refine q_tn ?_
      refine wp_seq ?_
      have T := tok_of (least := 1) (l := xs) (by omega)
      have hkin := hs_kinds S
      have hTl := T.len
      refine w_reg ?_
      refine rl_run F (run_assign (F.ev rfl)) rfl ?_; clear F a; intro a F
      refine rl_nil ?_
      refine q_tn ?_
      refine wp_seq ?_
      refine wp_seq ?_
      refine w_reg ?_
      refine rl_run F (run_assign (F.ev rfl)) rfl ?_; clear F a; intro a F
      refine rl_nil ?_
      refine q_tn ?_
      refine wp_block ?_
      refine w_loopN (fun m a' w' => ∃ (i : Nat), m = xs.length - i ∧ Fits 72 a' [(0, .slice (ad) (xs.length) (c)), (5, .string (str (textF (xs.take i)))), (6, .int .i64 (((i : Nat) : Int)))] ∧ Mem w0 G (L) w' ∧ (i ≤ xs.length) ∧ ((textF (xs.take i)).length ≤ 43 * i)) _ ⟨0, rfl, F.to ⟨rfl, rfl, rfl, trivial⟩, M, Nat.zero_le _, by simp [textF]⟩ ?_
      clear F M
      rintro m a w ⟨i, rfl, F, M, hi, hlen⟩
      refine wp_seq ?_
      refine wp_seq ?_
      refine w_reg ?_
      refine rl_run F (run_move (F.ev rfl)) rfl ?_; clear F a; intro a F
      refine rl_run F (run_move (F.ev rfl)) rfl ?_; clear F a; intro a F
      refine rl_run F (run_lenSl tok22.k (F.ev rfl)) rfl ?_; clear F a; intro a F
      refine rl_run F (run_lss (F.ev rfl) (F.ev rfl)) rfl ?_; clear F a; intro a F
      refine rl_nil ?_
      refine q_tn ?_
      refine w_cond F rfl ?_ ?_
      · intro hc
        have h5b := hc; clear hc
        have h5 : ((i : Nat) : Int) < ((xs.length : Nat) : Int) := of_decide_eq_true h5b
        refine wp_skip ?_
        refine q_tn ?_
        refine wp_seq ?_
        refine wp_block ?_
        refine w_reg ?_
        refine rl_run F (run_move (F.ev rfl)) rfl ?_; clear F a; intro a F
        refine rl_run F (run_move (F.ev rfl)) rfl ?_; clear F a; intro a F
        refine rl_run F (run_move (F.ev rfl)) rfl ?_; clear F a; intro a F
        obtain ⟨Xe6, hXe6⟩ := get_of_lt (xs := xs) (i := i) (by omega)
        obtain ⟨be6, oe6, _, Ie6, _, Ae6, ⟨rfl, hbe61, hbe62⟩⟩ := S.at hXe6
        refine rl_run F (run_indexI tok22.k tok39 (F.ev rfl) (F.ev rfl) (by omega) Ie6) rfl ?_; clear F a; intro a F
        refine rl_run F (run_loadA tok39 rfl (F.ev rfl) (cs := [.int .u64 (Xe6.key), .int .i64 (Xe6.v)]) rfl (M.cellsA Ae6 0 (by omega) rfl)) rfl ?_; clear F a; intro a F
        obtain ⟨_, hv1, hv2, _⟩ := T.ok _ _ hXe6
        have hkX := hkin Xe6 (List.mem_of_getElem? hXe6)
        have hll := lineF_len hkX.1 hkX.2
        refine rl_callS F ent17 rfl rfl (line_spec (h := Xe6) M (by assumption) (by omega) (by omega)) ?_; clear F M a; rintro _ w a M rfl F
        refine rl_run F (run_strAdd (F.ev rfl) (F.ev rfl) (by (try simp only [List.length_append, List.length_cons, List.length_nil]); omega)) rfl ?_; clear F a; intro a F
        refine rl_run F (run_assign (F.ev rfl)) rfl ?_; clear F a; intro a F
        refine rl_nil ?_
        refine q_bn ?_
        refine q_tn ?_
        refine w_reg ?_
        refine rl_run F (run_move (F.ev rfl)) rfl ?_; clear F a; intro a F
        refine rl_run F (run_addi (F.ev rfl) (F.ev rfl) (in_i64 (by omega) (by omega))) rfl ?_; clear F a; intro a F
        refine rl_run F (run_assign (F.ev rfl)) rfl ?_; clear F a; intro a F
        refine rl_nil ?_
        refine q_tn ?_
        rw [← textF_snoc hXe6] at F
        exact ⟨_, by omega, i + 1, rfl, F.to ⟨rfl, rfl, rfl, trivial⟩, M, by omega, textF_len hlen hXe6 hkX.1 hkX.2⟩
      · intro hc
        have h7b := hc; clear hc
        have h7 : ¬ (((i : Nat) : Int) < ((xs.length : Nat) : Int)) := of_decide_eq_false h7b
        refine wp_exit ?_
        refine q_te ?_
        refine q_te ?_
        refine q_bh ?_
        refine q_tn ?_
        refine wp_seq ?_
        rw [List.take_of_length_le (by omega)] at F hlen
        refine w_reg ?_
        refine rl_run F (run_move (F.ev rfl)) rfl ?_; clear F a; intro a F
        refine rl_callS F ent14 rfl rfl (text_spec (xs := xs) M HG S (by omega) (by omega)) ?_; clear F M a; rintro _ w a M rfl F
        have hq8 : (if (checkF xs 1).2 = 0 then textF xs else []) = textF xs ∧ (checkF xs 1).2 = 0 := ⟨if_pos (by omega), by omega⟩
        rw [hq8.1, hq8.2] at F
        refine rl_run F (run_move (F.ev rfl)) rfl ?_; clear F a; intro a F
        refine rl_run F (run_extract (v := .string (str (textF xs))) (F.ev rfl) rfl) rfl ?_; clear F a; intro a F
        refine rl_run F (run_extract (v := .int .i64 (0)) (F.ev rfl) rfl) rfl ?_; clear F a; intro a F
        refine rl_run F (run_assign (F.ev rfl)) rfl ?_; clear F a; intro a F
        refine rl_run F (run_assign (F.ev rfl)) rfl ?_; clear F a; intro a F
        refine rl_nil ?_
        refine q_tn ?_
        refine wp_seq ?_
        refine w_reg ?_
        refine rl_run F (run_move (F.ev rfl)) rfl ?_; clear F a; intro a F
        refine rl_call F ent18 rfl rfl (parse_spec (s := (textF xs)) M HG (by (have := textF_le hkin; omega))) ?_; clear F M a; rintro _ Gp9 w a hGp9 M ⟨ap9, rfl, Sp9⟩ F
        replace HG := HG.mono hGp9
        replace S := S.mono mono_rdPair hGp9
        have hq10 : parseF (textF xs) = (xs, 0, 0) := parse_textF T hkin
        rw [hq10] at F Sp9
        refine rl_run F (run_move (F.ev rfl)) rfl ?_; clear F a; intro a F
        refine rl_run F (run_extract (v := .slice (ap9) ((xs).length) ((xs).length)) (F.ev rfl) rfl) rfl ?_; clear F a; intro a F
        refine rl_run F (run_extract (v := .int .i64 (0)) (F.ev rfl) rfl) rfl ?_; clear F a; intro a F
        refine rl_run F (run_extract (v := .int .i64 (0)) (F.ev rfl) rfl) rfl ?_; clear F a; intro a F
        refine rl_run F (run_assign (F.ev rfl)) rfl ?_; clear F a; intro a F
        refine rl_run F (run_assign (F.ev rfl)) rfl ?_; clear F a; intro a F
        refine rl_run F (run_assign (F.ev rfl)) rfl ?_; clear F a; intro a F
        refine rl_nil ?_
        refine q_tn ?_
        refine wp_seq ?_
        refine w_reg ?_
        refine rl_run F (run_move (F.ev rfl)) rfl ?_; clear F a; intro a F
        refine rl_run F (run_move (F.ev rfl)) rfl ?_; clear F a; intro a F
        refine rl_run F (run_strEq (F.ev rfl) (F.ev rfl)) rfl ?_; clear F a; intro a F
        refine rl_run F (run_move (F.ev rfl)) rfl ?_; clear F a; intro a F
        have hg11 : (decide ((textF xs) = (textF xs))) = true := (decide_eq_true (by rfl))
        refine rl_guard_t F rfl rfl rfl hg11 ?_
        refine rl_run F (run_move (F.ev rfl)) rfl ?_; clear F a; intro a F
        refine rl_guard_t F rfl rfl rfl hg11 ?_
        refine rl_run F (run_eqi (F.ev rfl) (F.ev rfl)) rfl ?_; clear F a; intro a F
        refine rl_run F (run_pick_t (F.ev rfl) hg11 (F.ev rfl)) rfl ?_; clear F a; intro a F
        refine rl_run F (run_move (F.ev rfl)) rfl ?_; clear F a; intro a F
        refine rl_guard_t F rfl rfl rfl (decide_eq_true (by decide)) ?_
        refine rl_run F (run_move (F.ev rfl)) rfl ?_; clear F a; intro a F
        refine rl_guard_t F rfl rfl rfl (decide_eq_true (by decide)) ?_
        refine rl_run F (run_move (F.ev rfl)) rfl ?_; clear F a; intro a F
        refine rl_guard_t F rfl rfl rfl (decide_eq_true (by decide)) ?_
        refine rl_callS F ent15 rfl rfl (same_spec (xs := xs) M Sp9 S (by omega)) ?_; clear F M a; rintro _ w a M rfl F
        refine rl_run F (run_pick_t (F.ev rfl) (decide_eq_true (by decide)) (F.ev rfl)) rfl ?_; clear F a; intro a F
        refine rl_run F (run_move (F.ev rfl)) rfl ?_; clear F a; intro a F
        refine rl_guard_t F rfl rfl rfl rfl ?_
        refine rl_run F (run_move (F.ev rfl)) rfl ?_; clear F a; intro a F
        refine rl_guard_t F rfl rfl rfl rfl ?_
        refine rl_run F (run_eqi (F.ev rfl) (F.ev rfl)) rfl ?_; clear F a; intro a F
        refine rl_run F (run_pick_t (F.ev rfl) rfl (F.ev rfl)) rfl ?_; clear F a; intro a F
        refine rl_run F (run_move (F.ev rfl)) rfl ?_; clear F a; intro a F
        refine rl_guard_t F rfl rfl rfl (decide_eq_true (by decide)) ?_
        refine rl_run F (run_move (F.ev rfl)) rfl ?_; clear F a; intro a F
        refine rl_guard_t F rfl rfl rfl (decide_eq_true (by decide)) ?_
        refine rl_run F (run_eqi (F.ev rfl) (F.ev rfl)) rfl ?_; clear F a; intro a F
        refine rl_run F (run_pick_t (F.ev rfl) (decide_eq_true (by decide)) (F.ev rfl)) rfl ?_; clear F a; intro a F
        refine rl_run F (run_move (F.ev rfl)) rfl ?_; clear F a; intro a F
        refine rl_guard_t F rfl rfl rfl (decide_eq_true (by decide)) ?_
        refine rl_callS F ent10 rfl rfl (lives_spec M HG) ?_; clear F M a; rintro _ w a M rfl F
        refine rl_run F (run_pick_t (F.ev rfl) (decide_eq_true (by decide)) (F.ev rfl)) rfl ?_; clear F a; intro a F
        refine rl_run F (run_assign (F.ev rfl)) rfl ?_; clear F a; intro a F
        refine rl_nil ?_
        refine q_tn ?_
        refine wp_ret ?_
        refine fin1 F rfl rfl ?_
        exact ⟨Gp9, hGp9, M.weaken (List.Sublist.refl _), rfl⟩

theorem text_law {w0 w : World} {G : Ghost} {L : List Res} (M : Mem w0 G L w) (HG : Globs 0 1 4 5 G) {ad : Option Addr} {c : Nat} {xs : List PairD} (S : RdSl rdPair 2 G (.slice ad xs.length c) xs) (hxs : xs.length ≤ 9223372036854775807) : Calls Tryd.prog 5 #[.slice ad xs.length c] w (RetS w0 G L fun v => v = .bool true) := Ret.plain M (text_ret M HG S hxs)

theorem errors_ret {w0 w : World} {G : Ghost} {L : List Res} (M : Mem w0 G L w) (HG : Globs 0 1 4 5 G) {ad : Option Addr} {c : Nat} {xs : List PairD} (S : RdSl rdPair 2 G (.slice ad xs.length c) xs) (hxs : xs.length ≤ 9223372036854775807) {ay : Option Addr} {cy : Nat} {ys : List PairD} (Sy : RdSl rdPair 2 G (.slice ay ys.length cy) ys) (hys : ys.length ≤ 9223372036854775807) {least : Int} : Calls Tryd.prog 4 #[.slice ad xs.length c, .slice ay ys.length cy, .int .i64 least] w (Ret w0 G L fun _ v => v = .bool true) := by
  refine calls_start (vs := [_, _, _]) Tryd.func4 rfl (n := 87) rfl rfl ?_
  intro a F
  refine wp_seq ?_
  refine w_reg ?_
  refine rl_run F (run_assign (F.ev rfl)) rfl ?_; clear F a; intro a F
  refine rl_nil ?_
  refine q_tn ?_
  refine wp_seq ?_
  refine wp_seq ?_
  refine w_reg ?_
  refine rl_run F (run_move (F.ev rfl)) rfl ?_; clear F a; intro a F
  refine rl_run F (run_lenSl tok22.k (F.ev rfl)) rfl ?_; clear F a; intro a F
  refine rl_run F (run_gtr (F.ev rfl) (F.ev rfl)) rfl ?_; clear F a; intro a F
  refine rl_run F (run_move (F.ev rfl)) rfl ?_; clear F a; intro a F
  rcases Bool.eq_false_or_eq_true (decide (40 < ((xs.length : Nat) : Int))) with hc | hc
  · skip
    have h1b := hc; clear hc
    have h1 : 40 < ((xs.length : Nat) : Int) := of_decide_eq_true h1b
    refine rl_guard_f F rfl rfl rfl h1b ?_; clear F a; intro a F
    refine rl_guard_f F rfl rfl rfl h1b ?_; clear F a; intro a F
    refine rl_guard_f F rfl rfl rfl h1b ?_; clear F a; intro a F
    refine rl_run F (run_pick_t (F.ev rfl) h1b (F.ev rfl)) rfl ?_; clear F a; intro a F
    refine rl_nil ?_
    refine q_tn ?_
    refine w_cond_t F rfl rfl ?_
    refine wp_seq ?_
    refine w_reg ?_
    refine rl_callS F ent10 rfl rfl (lives_spec M HG) ?_; clear F M a; rintro _ w a M rfl F
    refine rl_run F (run_assign (F.ev rfl)) rfl ?_; clear F a; intro a F
    refine rl_nil ?_
    refine q_tn ?_
    refine wp_ret ?_
    refine q_tr ?_
    refine fin1 F rfl rfl ?_
    exact ⟨G, (Gle.refl _), M.weaken (List.Sublist.refl _), rfl⟩
  · skip
    have h2b := hc; clear hc
    have h2 : ¬ (40 < ((xs.length : Nat) : Int)) := of_decide_eq_false h2b
    refine rl_guard_t F rfl rfl rfl h2b ?_
    refine rl_run F (run_move (F.ev rfl)) rfl ?_; clear F a; intro a F
    refine rl_guard_t F rfl rfl rfl h2b ?_
    refine rl_run F (run_lenSl tok22.k (F.ev rfl)) rfl ?_; clear F a; intro a F
    refine rl_guard_t F rfl rfl rfl h2b ?_
    refine rl_run F (run_gtr (F.ev rfl) (F.ev rfl)) rfl ?_; clear F a; intro a F
    refine rl_run F (run_pick_f (F.ev rfl) h2b (F.ev rfl)) rfl ?_; clear F a; intro a F
    refine rl_nil ?_
    refine q_tn ?_
    refine w_cond F rfl ?_ ?_
    · intro hc
      have h3b := hc; clear hc
      have h3 : 40 < ((ys.length : Nat) : Int) := of_decide_eq_true h3b
      refine wp_seq ?_
      refine w_reg ?_
      refine rl_callS F ent10 rfl rfl (lives_spec M HG) ?_; clear F M a; rintro _ w a M rfl F
      refine rl_run F (run_assign (F.ev rfl)) rfl ?_; clear F a; intro a F
      refine rl_nil ?_
      refine q_tn ?_
      refine wp_ret ?_
      refine q_tr ?_
      refine fin1 F rfl rfl ?_
      exact ⟨G, (Gle.refl _), M.weaken (List.Sublist.refl _), rfl⟩
    · intro hc
      have h4b := hc; clear hc
      have h4 : ¬ (40 < ((ys.length : Nat) : Int)) := of_decide_eq_false h4b
      refine wp_skip ?_
      refine q_tn ?_
      refine wp_seq ?_
      refine w_reg ?_
      refine rl_run F (run_move (F.ev rfl)) rfl ?_; clear F a; intro a F
      refine rl_run F (run_move (F.ev rfl)) rfl ?_; clear F a; intro a F
      refine rl_callS F ent11 rfl rfl (rcheck_spec (xs := xs) (least := least) M S (by (have := mergeR_le xs ys least; omega))) ?_; clear F M a; rintro _ w a M rfl F
      refine rl_run F (run_move (F.ev rfl)) rfl ?_; clear F a; intro a F
      refine rl_run F (run_extract (v := .int .i64 ((((checkF xs least).1 : Nat) : Int))) (F.ev rfl) rfl) rfl ?_; clear F a; intro a F
      refine rl_run F (run_extract (v := .int .i64 ((checkF xs least).2)) (F.ev rfl) rfl) rfl ?_; clear F a; intro a F
      refine rl_run F (run_assign (F.ev rfl)) rfl ?_; clear F a; intro a F
      refine rl_run F (run_assign (F.ev rfl)) rfl ?_; clear F a; intro a F
      refine rl_nil ?_
      refine q_tn ?_
      refine wp_seq ?_
      refine wp_seq ?_
      refine w_reg ?_
      refine rl_run F (run_move (F.ev rfl)) rfl ?_; clear F a; intro a F
      refine rl_run F (run_eqi (F.ev rfl) (F.ev rfl)) rfl ?_; clear F a; intro a F
      refine rl_nil ?_
      refine q_tn ?_
      refine w_cond F rfl ?_ ?_
      · intro hc
        have h5b := hc; clear hc
        have h5 : (checkF xs least).2 = 0 := of_decide_eq_true h5b
        refine w_reg ?_
        refine rl_run F (run_move (F.ev rfl)) rfl ?_; clear F a; intro a F
        refine rl_run F (run_move (F.ev rfl)) rfl ?_; clear F a; intro a F
        refine rl_callS F ent11 rfl rfl (rcheck_spec (xs := ys) (least := least) M Sy (by (have := mergeR_le xs ys least; omega))) ?_; clear F M a; rintro _ w a M rfl F
        refine rl_run F (run_move (F.ev rfl)) rfl ?_; clear F a; intro a F
        refine rl_run F (run_extract (v := .int .i64 ((((checkF ys least).1 : Nat) : Int))) (F.ev rfl) rfl) rfl ?_; clear F a; intro a F
        refine rl_run F (run_extract (v := .int .i64 ((checkF ys least).2)) (F.ev rfl) rfl) rfl ?_; clear F a; intro a F
        refine rl_run F (run_assign (F.ev rfl)) rfl ?_; clear F a; intro a F
        refine rl_nil ?_
        refine q_tn ?_
        refine wp_seq ?_
        refine w_reg ?_
        refine rl_run F (run_move (F.ev rfl)) rfl ?_; clear F a; intro a F
        refine rl_run F (run_move (F.ev rfl)) rfl ?_; clear F a; intro a F
        refine rl_run F (run_move (F.ev rfl)) rfl ?_; clear F a; intro a F
        refine rl_call F ent13 rfl rfl (merge_spec (xs := xs) (ys := ys) (least := least) M S (by (have := mergeR_le xs ys least; omega)) Sy (by (have := mergeR_le xs ys least; omega))) ?_; clear F M a; rintro _ Gm6 w a hGm6 M ⟨am6, rfl, Sm6⟩ F
        replace HG := HG.mono hGm6
        replace S := S.mono mono_rdPair hGm6
        replace Sy := Sy.mono mono_rdPair hGm6
        have hqm6 := (⟨rfl, mergeE_40 (by omega) (by omega) (by omega)⟩ : mergeR xs ys least = mergeR xs ys least ∧ mergeE xs ys least = (checkF ys least).2)
        rw [hqm6.1] at F Sm6
        rw [hqm6.2] at F
        refine rl_run F (run_move (F.ev rfl)) rfl ?_; clear F a; intro a F
        refine rl_run F (run_extract (v := .slice (am6) ((mergeR xs ys least).length) ((mergeR xs ys least).length)) (F.ev rfl) rfl) rfl ?_; clear F a; intro a F
        refine rl_run F (run_extract (v := .int .i64 ((checkF ys least).2)) (F.ev rfl) rfl) rfl ?_; clear F a; intro a F
        refine rl_run F (run_assign (F.ev rfl)) rfl ?_; clear F a; intro a F
        refine rl_run F (run_assign (F.ev rfl)) rfl ?_; clear F a; intro a F
        refine rl_nil ?_
        refine q_tn ?_
        refine wp_seq ?_
        refine w_reg ?_
        refine rl_run F (run_move (F.ev rfl)) rfl ?_; clear F a; intro a F
        refine rl_callS F ent11 rfl rfl (rcheck_spec (xs := xs) (least := 1) M S (by (have := mergeR_le xs ys least; omega))) ?_; clear F M a; rintro _ w a M rfl F
        refine rl_run F (run_move (F.ev rfl)) rfl ?_; clear F a; intro a F
        refine rl_run F (run_extract (v := .int .i64 ((((checkF xs 1).1 : Nat) : Int))) (F.ev rfl) rfl) rfl ?_; clear F a; intro a F
        refine rl_run F (run_extract (v := .int .i64 ((checkF xs 1).2)) (F.ev rfl) rfl) rfl ?_; clear F a; intro a F
        refine rl_run F (run_assign (F.ev rfl)) rfl ?_; clear F a; intro a F
        refine rl_run F (run_assign (F.ev rfl)) rfl ?_; clear F a; intro a F
        refine rl_nil ?_
        refine q_tn ?_
        refine wp_seq ?_
        by_cases hw : (checkF xs 1).2 = 0
        · skip
          rw [hw] at F
          refine w_reg ?_
          refine rl_run F (run_move (F.ev rfl)) rfl ?_; clear F a; intro a F
          refine rl_callS F ent14 rfl rfl (text_spec (xs := xs) M HG S (by (have := mergeR_le xs ys least; omega)) (by (have := mergeR_le xs ys least; omega))) ?_; clear F M a; rintro _ w a M rfl F
          have hq7 : (if (checkF xs 1).2 = 0 then textF xs else []) = textF xs ∧ (checkF xs 1).2 = 0 := ⟨if_pos hw, hw⟩
          rw [hq7.1, hq7.2] at F
          refine rl_run F (run_move (F.ev rfl)) rfl ?_; clear F a; intro a F
          refine rl_run F (run_extract (v := .string (str (textF xs))) (F.ev rfl) rfl) rfl ?_; clear F a; intro a F
          refine rl_run F (run_extract (v := .int .i64 (0)) (F.ev rfl) rfl) rfl ?_; clear F a; intro a F
          refine rl_run F (run_assign (F.ev rfl)) rfl ?_; clear F a; intro a F
          refine rl_run F (run_assign (F.ev rfl)) rfl ?_; clear F a; intro a F
          refine rl_nil ?_
          refine q_tn ?_
          refine wp_seq ?_
          refine wp_seq ?_
          refine w_reg ?_
          refine rl_run F (run_move (F.ev rfl)) rfl ?_; clear F a; intro a F
          refine rl_run F (run_move (F.ev rfl)) rfl ?_; clear F a; intro a F
          refine rl_run F (run_nei (F.ev rfl) (F.ev rfl)) rfl ?_; clear F a; intro a F
          refine rl_run F (run_move (F.ev rfl)) rfl ?_; clear F a; intro a F
          have hg8 : (!(decide ((checkF ys least).2 = (checkF ys least).2))) = false := (not_f (decide_eq_true (by rfl)))
          refine rl_guard_t F rfl rfl rfl hg8 ?_
          refine rl_run F (run_move (F.ev rfl)) rfl ?_; clear F a; intro a F
          refine rl_guard_t F rfl rfl rfl hg8 ?_
          refine rl_run F (run_move (F.ev rfl)) rfl ?_; clear F a; intro a F
          refine rl_guard_t F rfl rfl rfl hg8 ?_
          refine rl_run F (run_nei (F.ev rfl) (F.ev rfl)) rfl ?_; clear F a; intro a F
          refine rl_run F (run_pick_f (F.ev rfl) hg8 (F.ev rfl)) rfl ?_; clear F a; intro a F
          refine rl_run F (run_move (F.ev rfl)) rfl ?_; clear F a; intro a F
          refine rl_guard_t F rfl rfl rfl (not_f (decide_eq_true (by decide))) ?_
          refine rl_run F (run_move (F.ev rfl)) rfl ?_; clear F a; intro a F
          refine rl_guard_t F rfl rfl rfl (not_f (decide_eq_true (by decide))) ?_
          refine rl_run F (run_nei (F.ev rfl) (F.ev rfl)) rfl ?_; clear F a; intro a F
          refine rl_guard_t F rfl rfl rfl (not_f (decide_eq_true (by decide))) ?_
          refine rl_run F (run_move (F.ev rfl)) rfl ?_; clear F a; intro a F
          refine rl_guard_f F rfl rfl rfl (not_f (decide_eq_true (by decide))) ?_; clear F a; intro a F
          refine rl_guard_f F rfl rfl rfl (not_f (decide_eq_true (by decide))) ?_; clear F a; intro a F
          refine rl_guard_t F rfl rfl rfl (not_f (decide_eq_true (by decide))) ?_
          refine rl_run F (run_pick_f (F.ev rfl) (not_f (decide_eq_true (by decide))) (F.ev rfl)) rfl ?_; clear F a; intro a F
          refine rl_run F (run_pick_f (F.ev rfl) (not_f (decide_eq_true (by decide))) (F.ev rfl)) rfl ?_; clear F a; intro a F
          refine rl_nil ?_
          refine q_tn ?_
          refine w_cond_f F rfl rfl ?_
          refine wp_skip ?_
          refine q_tn ?_
          refine wp_seq ?_
          refine wp_seq ?_
          refine w_reg ?_
          refine rl_run F (run_move (F.ev rfl)) rfl ?_; clear F a; intro a F
          refine rl_run F (run_nei (F.ev rfl) (F.ev rfl)) rfl ?_; clear F a; intro a F
          refine rl_nil ?_
          refine q_tn ?_
          refine w_cond F rfl ?_ ?_
          · intro hc
            have h9b := hc; clear hc
            have h9 : ¬ ((checkF ys least).2 = 0) := of_decide_eq_false (of_not_t h9b)
            have h9c : (decide ((checkF ys least).2 = 0)) = false := (of_not_t h9b)
            refine wp_seq ?_
            have hR : mergeR xs ys least = [] := mergeR_nil (by first | (rw [mergeE_40 (by omega) (by omega) (by omega)]; omega) | (rw [mergeE_a (by omega)]; omega))
            refine w_reg ?_
            refine rl_run F (run_move (F.ev rfl)) rfl ?_; clear F a; intro a F
            refine rl_run F (run_lenSl tok22.k (F.ev rfl)) rfl ?_; clear F a; intro a F
            refine rl_run F (run_eqi (F.ev rfl) (F.ev rfl)) rfl ?_; clear F a; intro a F
            refine rl_run F (run_move (F.ev rfl)) rfl ?_; clear F a; intro a F
            have hg10 : (decide ((((mergeR xs ys least).length : Nat) : Int) = 0)) = true := (decide_eq_true (by rw [hR]; rfl))
            refine rl_guard_t F rfl rfl rfl hg10 ?_
            refine rl_callS F ent10 rfl rfl (lives_spec M HG) ?_; clear F M a; rintro _ w a M rfl F
            refine rl_run F (run_pick_t (F.ev rfl) hg10 (F.ev rfl)) rfl ?_; clear F a; intro a F
            refine rl_run F (run_assign (F.ev rfl)) rfl ?_; clear F a; intro a F
            refine rl_nil ?_
            refine q_tn ?_
            refine wp_ret ?_
            refine q_tr ?_
            refine fin1 F rfl rfl ?_
            exact ⟨Gm6, hGm6, M.weaken (List.Sublist.refl _), rfl⟩
          · intro hc
            have h11b := hc; clear hc
            have h11 : (checkF ys least).2 = 0 := of_decide_eq_true (of_not_f h11b)
            have h11c : (decide ((checkF ys least).2 = 0)) = true := (of_not_f h11b)
            refine wp_skip ?_
            refine q_tn ?_
            refine wp_seq ?_
            refine w_reg ?_
            refine rl_run F (run_move (F.ev rfl)) rfl ?_; clear F a; intro a F
            refine rl_run F (run_move (F.ev rfl)) rfl ?_; clear F a; intro a F
            refine rl_run F (run_move (F.ev rfl)) rfl ?_; clear F a; intro a F
            refine rl_call F ent16 rfl rfl (rmerge_spec (xs := xs) (ys := ys) M S (by (have := mergeR_le xs ys least; omega)) Sy (by (have := mergeR_le xs ys least; omega)) (by (have := mergeR_le xs ys least; omega)) (by (have := mergeR_le xs ys least; omega))) ?_; clear F M a; rintro _ Gm12 w a hGm12 M ⟨am12, cm12, rfl, Sm12⟩ F
            replace HG := HG.mono hGm12
            replace S := S.mono mono_rdPair hGm12
            replace Sy := Sy.mono mono_rdPair hGm12
            replace Sm6 := Sm6.mono mono_rdPair hGm12
            have hs13 : mergeF xs ys = mergeR xs ys least := (by unfold mergeR; rw [if_pos (by rw [mergeE_40 (by omega) (by omega) (by omega)]; omega)])
            (try rw [hs13] at F)
            refine rl_callS F ent15 rfl rfl (same_spec (xs := mergeR xs ys least) M Sm6 (by have h := Sm12; rw [hs13] at h; exact h) (by (have := mergeR_le xs ys least; omega))) ?_; clear F M a; rintro _ w a M rfl F
            refine rl_run F (run_move (F.ev rfl)) rfl ?_; clear F a; intro a F
            refine rl_guard_t F rfl rfl rfl rfl ?_
            refine rl_callS F ent10 rfl rfl (lives_spec M HG) ?_; clear F M a; rintro _ w a M rfl F
            refine rl_run F (run_pick_t (F.ev rfl) rfl (F.ev rfl)) rfl ?_; clear F a; intro a F
            refine rl_run F (run_assign (F.ev rfl)) rfl ?_; clear F a; intro a F
            refine rl_nil ?_
            refine q_tn ?_
            refine wp_ret ?_
            refine fin1 F rfl rfl ?_
            exact ⟨Gm12, (hGm6.trans hGm12), M.weaken (List.Sublist.refl _), rfl⟩
        · skip
          refine w_reg ?_
          refine rl_run F (run_move (F.ev rfl)) rfl ?_; clear F a; intro a F
          refine rl_callS F ent14 rfl rfl (text_spec (xs := xs) M HG S (by (have := mergeR_le xs ys least; omega)) (by (have := mergeR_le xs ys least; omega))) ?_; clear F M a; rintro _ w a M rfl F
          have hq14 : (if (checkF xs 1).2 = 0 then textF xs else []) = ([] : List UInt8) ∧ (checkF xs 1).2 = (checkF xs 1).2 := ⟨if_neg hw, rfl⟩
          rw [hq14.1, hq14.2] at F
          refine rl_run F (run_move (F.ev rfl)) rfl ?_; clear F a; intro a F
          refine rl_run F (run_extract (v := .string (str (([] : List UInt8)))) (F.ev rfl) rfl) rfl ?_; clear F a; intro a F
          refine rl_run F (run_extract (v := .int .i64 ((checkF xs 1).2)) (F.ev rfl) rfl) rfl ?_; clear F a; intro a F
          refine rl_run F (run_assign (F.ev rfl)) rfl ?_; clear F a; intro a F
          refine rl_run F (run_assign (F.ev rfl)) rfl ?_; clear F a; intro a F
          refine rl_nil ?_
          refine q_tn ?_
          refine wp_seq ?_
          refine wp_seq ?_
          refine w_reg ?_
          refine rl_run F (run_move (F.ev rfl)) rfl ?_; clear F a; intro a F
          refine rl_run F (run_move (F.ev rfl)) rfl ?_; clear F a; intro a F
          refine rl_run F (run_nei (F.ev rfl) (F.ev rfl)) rfl ?_; clear F a; intro a F
          refine rl_run F (run_move (F.ev rfl)) rfl ?_; clear F a; intro a F
          have hg15 : (!(decide ((checkF ys least).2 = (checkF ys least).2))) = false := (not_f (decide_eq_true (by rfl)))
          refine rl_guard_t F rfl rfl rfl hg15 ?_
          refine rl_run F (run_move (F.ev rfl)) rfl ?_; clear F a; intro a F
          refine rl_guard_t F rfl rfl rfl hg15 ?_
          refine rl_run F (run_move (F.ev rfl)) rfl ?_; clear F a; intro a F
          refine rl_guard_t F rfl rfl rfl hg15 ?_
          refine rl_run F (run_nei (F.ev rfl) (F.ev rfl)) rfl ?_; clear F a; intro a F
          refine rl_run F (run_pick_f (F.ev rfl) hg15 (F.ev rfl)) rfl ?_; clear F a; intro a F
          refine rl_run F (run_move (F.ev rfl)) rfl ?_; clear F a; intro a F
          have hg16 : (!(decide ((checkF xs 1).2 = (checkF xs 1).2))) = false := (not_f (decide_eq_true (by rfl)))
          refine rl_guard_t F rfl rfl rfl hg16 ?_
          refine rl_run F (run_move (F.ev rfl)) rfl ?_; clear F a; intro a F
          refine rl_guard_t F rfl rfl rfl hg16 ?_
          refine rl_run F (run_nei (F.ev rfl) (F.ev rfl)) rfl ?_; clear F a; intro a F
          refine rl_guard_t F rfl rfl rfl hg16 ?_
          refine rl_run F (run_move (F.ev rfl)) rfl ?_; clear F a; intro a F
          refine rl_guard_t F rfl rfl rfl (not_t (decide_eq_false hw)) ?_
          refine rl_run F (run_move (F.ev rfl)) rfl ?_; clear F a; intro a F
          refine rl_guard_t F rfl rfl rfl (not_t (decide_eq_false hw)) ?_
          refine rl_run F (run_strNe (F.ev rfl) (F.ev rfl)) rfl ?_; clear F a; intro a F
          refine rl_guard_t F rfl rfl rfl hg16 ?_
          refine rl_run F (run_pick_t (F.ev rfl) (not_t (decide_eq_false hw)) (F.ev rfl)) rfl ?_; clear F a; intro a F
          refine rl_run F (run_pick_f (F.ev rfl) hg16 (F.ev rfl)) rfl ?_; clear F a; intro a F
          refine rl_nil ?_
          refine q_tn ?_
          refine w_cond_f F rfl (not_f (decide_eq_true (by rfl))) ?_
          refine wp_skip ?_
          refine q_tn ?_
          refine wp_seq ?_
          refine wp_seq ?_
          refine w_reg ?_
          refine rl_run F (run_move (F.ev rfl)) rfl ?_; clear F a; intro a F
          refine rl_run F (run_nei (F.ev rfl) (F.ev rfl)) rfl ?_; clear F a; intro a F
          refine rl_nil ?_
          refine q_tn ?_
          refine w_cond F rfl ?_ ?_
          · intro hc
            have h17b := hc; clear hc
            have h17 : ¬ ((checkF ys least).2 = 0) := of_decide_eq_false (of_not_t h17b)
            have h17c : (decide ((checkF ys least).2 = 0)) = false := (of_not_t h17b)
            refine wp_seq ?_
            have hR : mergeR xs ys least = [] := mergeR_nil (by first | (rw [mergeE_40 (by omega) (by omega) (by omega)]; omega) | (rw [mergeE_a (by omega)]; omega))
            refine w_reg ?_
            refine rl_run F (run_move (F.ev rfl)) rfl ?_; clear F a; intro a F
            refine rl_run F (run_lenSl tok22.k (F.ev rfl)) rfl ?_; clear F a; intro a F
            refine rl_run F (run_eqi (F.ev rfl) (F.ev rfl)) rfl ?_; clear F a; intro a F
            refine rl_run F (run_move (F.ev rfl)) rfl ?_; clear F a; intro a F
            have hg18 : (decide ((((mergeR xs ys least).length : Nat) : Int) = 0)) = true := (decide_eq_true (by rw [hR]; rfl))
            refine rl_guard_t F rfl rfl rfl hg18 ?_
            refine rl_callS F ent10 rfl rfl (lives_spec M HG) ?_; clear F M a; rintro _ w a M rfl F
            refine rl_run F (run_pick_t (F.ev rfl) hg18 (F.ev rfl)) rfl ?_; clear F a; intro a F
            refine rl_run F (run_assign (F.ev rfl)) rfl ?_; clear F a; intro a F
            refine rl_nil ?_
            refine q_tn ?_
            refine wp_ret ?_
            refine q_tr ?_
            refine fin1 F rfl rfl ?_
            exact ⟨Gm6, hGm6, M.weaken (List.Sublist.refl _), rfl⟩
          · intro hc
            have h19b := hc; clear hc
            have h19 : (checkF ys least).2 = 0 := of_decide_eq_true (of_not_f h19b)
            have h19c : (decide ((checkF ys least).2 = 0)) = true := (of_not_f h19b)
            refine wp_skip ?_
            refine q_tn ?_
            refine wp_seq ?_
            refine w_reg ?_
            refine rl_run F (run_move (F.ev rfl)) rfl ?_; clear F a; intro a F
            refine rl_run F (run_move (F.ev rfl)) rfl ?_; clear F a; intro a F
            refine rl_run F (run_move (F.ev rfl)) rfl ?_; clear F a; intro a F
            refine rl_call F ent16 rfl rfl (rmerge_spec (xs := xs) (ys := ys) M S (by (have := mergeR_le xs ys least; omega)) Sy (by (have := mergeR_le xs ys least; omega)) (by (have := mergeR_le xs ys least; omega)) (by (have := mergeR_le xs ys least; omega))) ?_; clear F M a; rintro _ Gm20 w a hGm20 M ⟨am20, cm20, rfl, Sm20⟩ F
            replace HG := HG.mono hGm20
            replace S := S.mono mono_rdPair hGm20
            replace Sy := Sy.mono mono_rdPair hGm20
            replace Sm6 := Sm6.mono mono_rdPair hGm20
            have hs21 : mergeF xs ys = mergeR xs ys least := (by unfold mergeR; rw [if_pos (by rw [mergeE_40 (by omega) (by omega) (by omega)]; omega)])
            (try rw [hs21] at F)
            refine rl_callS F ent15 rfl rfl (same_spec (xs := mergeR xs ys least) M Sm6 (by have h := Sm20; rw [hs21] at h; exact h) (by (have := mergeR_le xs ys least; omega))) ?_; clear F M a; rintro _ w a M rfl F
            refine rl_run F (run_move (F.ev rfl)) rfl ?_; clear F a; intro a F
            refine rl_guard_t F rfl rfl rfl rfl ?_
            refine rl_callS F ent10 rfl rfl (lives_spec M HG) ?_; clear F M a; rintro _ w a M rfl F
            refine rl_run F (run_pick_t (F.ev rfl) rfl (F.ev rfl)) rfl ?_; clear F a; intro a F
            refine rl_run F (run_assign (F.ev rfl)) rfl ?_; clear F a; intro a F
            refine rl_nil ?_
            refine q_tn ?_
            refine wp_ret ?_
            refine fin1 F rfl rfl ?_
            exact ⟨Gm20, (hGm6.trans hGm20), M.weaken (List.Sublist.refl _), rfl⟩
      · intro hc
        have h22b := hc; clear hc
        have h22 : ¬ ((checkF xs least).2 = 0) := of_decide_eq_false h22b
        refine wp_skip ?_
        refine q_tn ?_
        refine wp_seq ?_
        refine w_reg ?_
        refine rl_run F (run_move (F.ev rfl)) rfl ?_; clear F a; intro a F
        refine rl_run F (run_move (F.ev rfl)) rfl ?_; clear F a; intro a F
        refine rl_run F (run_move (F.ev rfl)) rfl ?_; clear F a; intro a F
        refine rl_call F ent13 rfl rfl (merge_spec (xs := xs) (ys := ys) (least := least) M S (by (have := mergeR_le xs ys least; omega)) Sy (by (have := mergeR_le xs ys least; omega))) ?_; clear F M a; rintro _ Gm23 w a hGm23 M ⟨am23, rfl, Sm23⟩ F
        replace HG := HG.mono hGm23
        replace S := S.mono mono_rdPair hGm23
        replace Sy := Sy.mono mono_rdPair hGm23
        have hqm23 := (⟨rfl, mergeE_a (by omega)⟩ : mergeR xs ys least = mergeR xs ys least ∧ mergeE xs ys least = (checkF xs least).2)
        rw [hqm23.1] at F Sm23
        rw [hqm23.2] at F
        refine rl_run F (run_move (F.ev rfl)) rfl ?_; clear F a; intro a F
        refine rl_run F (run_extract (v := .slice (am23) ((mergeR xs ys least).length) ((mergeR xs ys least).length)) (F.ev rfl) rfl) rfl ?_; clear F a; intro a F
        refine rl_run F (run_extract (v := .int .i64 ((checkF xs least).2)) (F.ev rfl) rfl) rfl ?_; clear F a; intro a F
        refine rl_run F (run_assign (F.ev rfl)) rfl ?_; clear F a; intro a F
        refine rl_run F (run_assign (F.ev rfl)) rfl ?_; clear F a; intro a F
        refine rl_nil ?_
        refine q_tn ?_
        refine wp_seq ?_
        refine w_reg ?_
        refine rl_run F (run_move (F.ev rfl)) rfl ?_; clear F a; intro a F
        refine rl_callS F ent11 rfl rfl (rcheck_spec (xs := xs) (least := 1) M S (by (have := mergeR_le xs ys least; omega))) ?_; clear F M a; rintro _ w a M rfl F
        refine rl_run F (run_move (F.ev rfl)) rfl ?_; clear F a; intro a F
        refine rl_run F (run_extract (v := .int .i64 ((((checkF xs 1).1 : Nat) : Int))) (F.ev rfl) rfl) rfl ?_; clear F a; intro a F
        refine rl_run F (run_extract (v := .int .i64 ((checkF xs 1).2)) (F.ev rfl) rfl) rfl ?_; clear F a; intro a F
        refine rl_run F (run_assign (F.ev rfl)) rfl ?_; clear F a; intro a F
        refine rl_run F (run_assign (F.ev rfl)) rfl ?_; clear F a; intro a F
        refine rl_nil ?_
        refine q_tn ?_
        refine wp_seq ?_
        by_cases hw : (checkF xs 1).2 = 0
        · skip
          rw [hw] at F
          refine w_reg ?_
          refine rl_run F (run_move (F.ev rfl)) rfl ?_; clear F a; intro a F
          refine rl_callS F ent14 rfl rfl (text_spec (xs := xs) M HG S (by (have := mergeR_le xs ys least; omega)) (by (have := mergeR_le xs ys least; omega))) ?_; clear F M a; rintro _ w a M rfl F
          have hq24 : (if (checkF xs 1).2 = 0 then textF xs else []) = textF xs ∧ (checkF xs 1).2 = 0 := ⟨if_pos hw, hw⟩
          rw [hq24.1, hq24.2] at F
          refine rl_run F (run_move (F.ev rfl)) rfl ?_; clear F a; intro a F
          refine rl_run F (run_extract (v := .string (str (textF xs))) (F.ev rfl) rfl) rfl ?_; clear F a; intro a F
          refine rl_run F (run_extract (v := .int .i64 (0)) (F.ev rfl) rfl) rfl ?_; clear F a; intro a F
          refine rl_run F (run_assign (F.ev rfl)) rfl ?_; clear F a; intro a F
          refine rl_run F (run_assign (F.ev rfl)) rfl ?_; clear F a; intro a F
          refine rl_nil ?_
          refine q_tn ?_
          refine wp_seq ?_
          refine wp_seq ?_
          refine w_reg ?_
          refine rl_run F (run_move (F.ev rfl)) rfl ?_; clear F a; intro a F
          refine rl_run F (run_move (F.ev rfl)) rfl ?_; clear F a; intro a F
          refine rl_run F (run_nei (F.ev rfl) (F.ev rfl)) rfl ?_; clear F a; intro a F
          refine rl_run F (run_move (F.ev rfl)) rfl ?_; clear F a; intro a F
          have hg25 : (!(decide ((checkF xs least).2 = (checkF xs least).2))) = false := (not_f (decide_eq_true (by rfl)))
          refine rl_guard_t F rfl rfl rfl hg25 ?_
          refine rl_run F (run_move (F.ev rfl)) rfl ?_; clear F a; intro a F
          refine rl_guard_t F rfl rfl rfl hg25 ?_
          refine rl_run F (run_move (F.ev rfl)) rfl ?_; clear F a; intro a F
          refine rl_guard_t F rfl rfl rfl hg25 ?_
          refine rl_run F (run_nei (F.ev rfl) (F.ev rfl)) rfl ?_; clear F a; intro a F
          refine rl_run F (run_pick_f (F.ev rfl) hg25 (F.ev rfl)) rfl ?_; clear F a; intro a F
          refine rl_run F (run_move (F.ev rfl)) rfl ?_; clear F a; intro a F
          refine rl_guard_t F rfl rfl rfl (not_f (decide_eq_true (by decide))) ?_
          refine rl_run F (run_move (F.ev rfl)) rfl ?_; clear F a; intro a F
          refine rl_guard_t F rfl rfl rfl (not_f (decide_eq_true (by decide))) ?_
          refine rl_run F (run_nei (F.ev rfl) (F.ev rfl)) rfl ?_; clear F a; intro a F
          refine rl_guard_t F rfl rfl rfl (not_f (decide_eq_true (by decide))) ?_
          refine rl_run F (run_move (F.ev rfl)) rfl ?_; clear F a; intro a F
          refine rl_guard_f F rfl rfl rfl (not_f (decide_eq_true (by decide))) ?_; clear F a; intro a F
          refine rl_guard_f F rfl rfl rfl (not_f (decide_eq_true (by decide))) ?_; clear F a; intro a F
          refine rl_guard_t F rfl rfl rfl (not_f (decide_eq_true (by decide))) ?_
          refine rl_run F (run_pick_f (F.ev rfl) (not_f (decide_eq_true (by decide))) (F.ev rfl)) rfl ?_; clear F a; intro a F
          refine rl_run F (run_pick_f (F.ev rfl) (not_f (decide_eq_true (by decide))) (F.ev rfl)) rfl ?_; clear F a; intro a F
          refine rl_nil ?_
          refine q_tn ?_
          refine w_cond_f F rfl rfl ?_
          refine wp_skip ?_
          refine q_tn ?_
          refine wp_seq ?_
          refine wp_seq ?_
          refine w_reg ?_
          refine rl_run F (run_move (F.ev rfl)) rfl ?_; clear F a; intro a F
          refine rl_run F (run_nei (F.ev rfl) (F.ev rfl)) rfl ?_; clear F a; intro a F
          refine rl_nil ?_
          refine q_tn ?_
          refine w_cond_t F rfl (not_t (decide_eq_false h22)) ?_
          refine wp_seq ?_
          have hR : mergeR xs ys least = [] := mergeR_nil (by first | (rw [mergeE_40 (by omega) (by omega) (by omega)]; omega) | (rw [mergeE_a (by omega)]; omega))
          refine w_reg ?_
          refine rl_run F (run_move (F.ev rfl)) rfl ?_; clear F a; intro a F
          refine rl_run F (run_lenSl tok22.k (F.ev rfl)) rfl ?_; clear F a; intro a F
          refine rl_run F (run_eqi (F.ev rfl) (F.ev rfl)) rfl ?_; clear F a; intro a F
          refine rl_run F (run_move (F.ev rfl)) rfl ?_; clear F a; intro a F
          have hg26 : (decide ((((mergeR xs ys least).length : Nat) : Int) = 0)) = true := (decide_eq_true (by rw [hR]; rfl))
          refine rl_guard_t F rfl rfl rfl hg26 ?_
          refine rl_callS F ent10 rfl rfl (lives_spec M HG) ?_; clear F M a; rintro _ w a M rfl F
          refine rl_run F (run_pick_t (F.ev rfl) hg26 (F.ev rfl)) rfl ?_; clear F a; intro a F
          refine rl_run F (run_assign (F.ev rfl)) rfl ?_; clear F a; intro a F
          refine rl_nil ?_
          refine q_tn ?_
          refine wp_ret ?_
          refine q_tr ?_
          refine fin1 F rfl rfl ?_
          exact ⟨Gm23, hGm23, M.weaken (List.Sublist.refl _), rfl⟩
        · skip
          refine w_reg ?_
          refine rl_run F (run_move (F.ev rfl)) rfl ?_; clear F a; intro a F
          refine rl_callS F ent14 rfl rfl (text_spec (xs := xs) M HG S (by (have := mergeR_le xs ys least; omega)) (by (have := mergeR_le xs ys least; omega))) ?_; clear F M a; rintro _ w a M rfl F
          have hq27 : (if (checkF xs 1).2 = 0 then textF xs else []) = ([] : List UInt8) ∧ (checkF xs 1).2 = (checkF xs 1).2 := ⟨if_neg hw, rfl⟩
          rw [hq27.1, hq27.2] at F
          refine rl_run F (run_move (F.ev rfl)) rfl ?_; clear F a; intro a F
          refine rl_run F (run_extract (v := .string (str (([] : List UInt8)))) (F.ev rfl) rfl) rfl ?_; clear F a; intro a F
          refine rl_run F (run_extract (v := .int .i64 ((checkF xs 1).2)) (F.ev rfl) rfl) rfl ?_; clear F a; intro a F
          refine rl_run F (run_assign (F.ev rfl)) rfl ?_; clear F a; intro a F
          refine rl_run F (run_assign (F.ev rfl)) rfl ?_; clear F a; intro a F
          refine rl_nil ?_
          refine q_tn ?_
          refine wp_seq ?_
          refine wp_seq ?_
          refine w_reg ?_
          refine rl_run F (run_move (F.ev rfl)) rfl ?_; clear F a; intro a F
          refine rl_run F (run_move (F.ev rfl)) rfl ?_; clear F a; intro a F
          refine rl_run F (run_nei (F.ev rfl) (F.ev rfl)) rfl ?_; clear F a; intro a F
          refine rl_run F (run_move (F.ev rfl)) rfl ?_; clear F a; intro a F
          have hg28 : (!(decide ((checkF xs least).2 = (checkF xs least).2))) = false := (not_f (decide_eq_true (by rfl)))
          refine rl_guard_t F rfl rfl rfl hg28 ?_
          refine rl_run F (run_move (F.ev rfl)) rfl ?_; clear F a; intro a F
          refine rl_guard_t F rfl rfl rfl hg28 ?_
          refine rl_run F (run_move (F.ev rfl)) rfl ?_; clear F a; intro a F
          refine rl_guard_t F rfl rfl rfl hg28 ?_
          refine rl_run F (run_nei (F.ev rfl) (F.ev rfl)) rfl ?_; clear F a; intro a F
          refine rl_run F (run_pick_f (F.ev rfl) hg28 (F.ev rfl)) rfl ?_; clear F a; intro a F
          refine rl_run F (run_move (F.ev rfl)) rfl ?_; clear F a; intro a F
          have hg29 : (!(decide ((checkF xs 1).2 = (checkF xs 1).2))) = false := (not_f (decide_eq_true (by rfl)))
          refine rl_guard_t F rfl rfl rfl hg29 ?_
          refine rl_run F (run_move (F.ev rfl)) rfl ?_; clear F a; intro a F
          refine rl_guard_t F rfl rfl rfl hg29 ?_
          refine rl_run F (run_nei (F.ev rfl) (F.ev rfl)) rfl ?_; clear F a; intro a F
          refine rl_guard_t F rfl rfl rfl hg29 ?_
          refine rl_run F (run_move (F.ev rfl)) rfl ?_; clear F a; intro a F
          refine rl_guard_t F rfl rfl rfl (not_t (decide_eq_false hw)) ?_
          refine rl_run F (run_move (F.ev rfl)) rfl ?_; clear F a; intro a F
          refine rl_guard_t F rfl rfl rfl (not_t (decide_eq_false hw)) ?_
          refine rl_run F (run_strNe (F.ev rfl) (F.ev rfl)) rfl ?_; clear F a; intro a F
          refine rl_guard_t F rfl rfl rfl hg29 ?_
          refine rl_run F (run_pick_t (F.ev rfl) (not_t (decide_eq_false hw)) (F.ev rfl)) rfl ?_; clear F a; intro a F
          refine rl_run F (run_pick_f (F.ev rfl) hg29 (F.ev rfl)) rfl ?_; clear F a; intro a F
          refine rl_nil ?_
          refine q_tn ?_
          refine w_cond_f F rfl (not_f (decide_eq_true (by rfl))) ?_
          refine wp_skip ?_
          refine q_tn ?_
          refine wp_seq ?_
          refine wp_seq ?_
          refine w_reg ?_
          refine rl_run F (run_move (F.ev rfl)) rfl ?_; clear F a; intro a F
          refine rl_run F (run_nei (F.ev rfl) (F.ev rfl)) rfl ?_; clear F a; intro a F
          refine rl_nil ?_
          refine q_tn ?_
          refine w_cond_t F rfl (not_t (decide_eq_false h22)) ?_
          refine wp_seq ?_
          have hR : mergeR xs ys least = [] := mergeR_nil (by first | (rw [mergeE_40 (by omega) (by omega) (by omega)]; omega) | (rw [mergeE_a (by omega)]; omega))
          refine w_reg ?_
          refine rl_run F (run_move (F.ev rfl)) rfl ?_; clear F a; intro a F
          refine rl_run F (run_lenSl tok22.k (F.ev rfl)) rfl ?_; clear F a; intro a F
          refine rl_run F (run_eqi (F.ev rfl) (F.ev rfl)) rfl ?_; clear F a; intro a F
          refine rl_run F (run_move (F.ev rfl)) rfl ?_; clear F a; intro a F
          have hg30 : (decide ((((mergeR xs ys least).length : Nat) : Int) = 0)) = true := (decide_eq_true (by rw [hR]; rfl))
          refine rl_guard_t F rfl rfl rfl hg30 ?_
          refine rl_callS F ent10 rfl rfl (lives_spec M HG) ?_; clear F M a; rintro _ w a M rfl F
          refine rl_run F (run_pick_t (F.ev rfl) hg30 (F.ev rfl)) rfl ?_; clear F a; intro a F
          refine rl_run F (run_assign (F.ev rfl)) rfl ?_; clear F a; intro a F
          refine rl_nil ?_
          refine q_tn ?_
          refine wp_ret ?_
          refine q_tr ?_
          refine fin1 F rfl rfl ?_
          exact ⟨Gm23, hGm23, M.weaken (List.Sublist.refl _), rfl⟩

theorem errors_law {w0 w : World} {G : Ghost} {L : List Res} (M : Mem w0 G L w) (HG : Globs 0 1 4 5 G) {ad : Option Addr} {c : Nat} {xs : List PairD} (S : RdSl rdPair 2 G (.slice ad xs.length c) xs) (hxs : xs.length ≤ 9223372036854775807) {ay : Option Addr} {cy : Nat} {ys : List PairD} (Sy : RdSl rdPair 2 G (.slice ay ys.length cy) ys) (hys : ys.length ≤ 9223372036854775807) {least : Int} : Calls Tryd.prog 4 #[.slice ad xs.length c, .slice ay ys.length cy, .int .i64 least] w (RetS w0 G L fun v => v = .bool true) := Ret.plain M (errors_ret M HG S hxs Sy hys)

end Go.Proofs.YtokeofoemjeleaaDoor
