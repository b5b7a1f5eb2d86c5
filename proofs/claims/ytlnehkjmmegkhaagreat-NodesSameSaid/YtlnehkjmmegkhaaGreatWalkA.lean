/- The walks, part A. -/
import Derived.Test.YtlnehkjmmegkhaaGreatTab
import Derived.Test.YtlnehkjmmegkhaaGreatNod
import Derived.Test.YtlnehkjmmegkhaaGreatShelf
namespace Go.Proofs.YtlnehkjmmegkhaaGreat
open Go Go.Y Go.Proofs
set_option linter.unusedSimpArgs false
set_option linter.unusedVariables false
theorem inname_spec {w0 w : World} {G : Ghost} {L : List Res} (M : Mem w0 G L w) {c : UInt8} : Calls Tryz.prog 119 #[.int .u8 (nb c)] w (RetS w0 G L fun v => ∃ b : Bool, v = .bool b ∧ (b = true ↔ NameB c)) := by
 refine calls_start (vs := [_]) Tryz.func119 rfl (n := 17) rfl rfl ?_
 intro a F
 refine wp_seq <| w_reg <| rl_run F (run_assign (F.ev rfl)) rfl ?_; clear F a; intro a F
 refine rl_nil <| q_tn <| wp_seq <| w_reg <| rl_run F (run_move (F.ev rfl)) rfl ?_; clear F a; intro a F
 refine rl_run F (run_geq (F.ev rfl) (F.ev rfl)) rfl ?_; clear F a; intro a F
 refine rl_run F (run_move (F.ev rfl)) rfl ?_; clear F a; intro a F
 rcases Bool.eq_false_or_eq_true (decide (97 ≤ nb c)) with hc | hc
 ·skip
  have h1b := hc; clear hc
  have h1 : 97 ≤ nb c := of_decide_eq_true h1b
  refine rl_guard_t F rfl rfl rfl h1b ?_
  refine rl_run F (run_move (F.ev rfl)) rfl ?_; clear F a; intro a F
  refine rl_guard_t F rfl rfl rfl h1b ?_
  refine rl_run F (run_leq (F.ev rfl) (F.ev rfl)) rfl ?_; clear F a; intro a F
  refine rl_run F (run_pick_t (F.ev rfl) h1b (F.ev rfl)) rfl ?_; clear F a; intro a F
  refine rl_run F (run_move (F.ev rfl)) rfl ?_; clear F a; intro a F
  rcases Bool.eq_false_or_eq_true (decide (nb c ≤ 122)) with hc | hc
  ·skip
   have h2b := hc; clear hc
   have h2 : nb c ≤ 122 := of_decide_eq_true h2b
   iterate 3 (refine rl_guard_f F rfl rfl rfl h2b ?_; clear F a; intro a F)
   iterate 2 (refine rl_guard_u F rfl rfl rfl ?_; clear F a; intro a F)
   refine rl_guard_f F rfl rfl rfl h2b ?_; clear F a; intro a F
   refine rl_run F (run_pick_t (F.ev rfl) h2b (F.ev rfl)) rfl ?_; clear F a; intro a F
   refine rl_run F (run_assign (F.ev rfl)) rfl ?_; clear F a; intro a F
   refine rl_nil <| q_tn <| wp_ret <| fin1 F rfl rfl ?_
   exact ⟨M, true, rfl, ⟨fun h_ => (by first | (cases h_; done) | (have h_ := of_decide_eq_true h_; unfold NameB; omega) | (unfold NameB; omega)), fun h_ => (by unfold NameB at h_; first | rfl | (exact decide_eq_true (by omega)) | (exfalso; omega))⟩⟩
  ·skip
   have h3b := hc; clear hc
   have h3 : ¬ (nb c ≤ 122) := of_decide_eq_false h3b
   refine rl_guard_t F rfl rfl rfl h3b ?_
   refine rl_run F (run_move (F.ev rfl)) rfl ?_; clear F a; intro a F
   refine rl_guard_t F rfl rfl rfl h3b ?_
   refine rl_run F (run_geq (F.ev rfl) (F.ev rfl)) rfl ?_; clear F a; intro a F
   refine rl_guard_t F rfl rfl rfl h3b ?_
   refine rl_run F (run_move (F.ev rfl)) rfl ?_; clear F a; intro a F
   rcases Bool.eq_false_or_eq_true (decide (48 ≤ nb c)) with hc | hc
   ·skip
    have h4b := hc; clear hc
    have h4 : 48 ≤ nb c := of_decide_eq_true h4b
    refine rl_guard_t F rfl rfl rfl h4b ?_
    refine rl_run F (run_move (F.ev rfl)) rfl ?_; clear F a; intro a F
    refine rl_guard_t F rfl rfl rfl h4b ?_
    refine rl_run F (run_leq (F.ev rfl) (F.ev rfl)) rfl ?_; clear F a; intro a F
    refine rl_guard_t F rfl rfl rfl h3b ?_
    refine rl_run F (run_pick_t (F.ev rfl) h4b (F.ev rfl)) rfl ?_; clear F a; intro a F
    refine rl_run F (run_pick_f (F.ev rfl) h3b (F.ev rfl)) rfl ?_; clear F a; intro a F
    refine rl_run F (run_assign (F.ev rfl)) rfl ?_; clear F a; intro a F
    refine rl_nil <| q_tn <| wp_ret <| fin1 F rfl rfl ?_
    exact ⟨M, (decide (nb c ≤ 57)), rfl, ⟨fun h_ => (by first | (cases h_; done) | (have h_ := of_decide_eq_true h_; unfold NameB; omega) | (unfold NameB; omega)), fun h_ => (by unfold NameB at h_; first | rfl | (exact decide_eq_true (by omega)) | (exfalso; omega))⟩⟩
   ·skip
    have h5b := hc; clear hc
    have h5 : ¬ (48 ≤ nb c) := of_decide_eq_false h5b
    iterate 2 (refine rl_guard_f F rfl rfl rfl h5b ?_; clear F a; intro a F)
    refine rl_guard_t F rfl rfl rfl h3b ?_
    refine rl_run F (run_pick_f (F.ev rfl) h5b (F.ev rfl)) rfl ?_; clear F a; intro a F
    refine rl_run F (run_pick_f (F.ev rfl) h3b (F.ev rfl)) rfl ?_; clear F a; intro a F
    refine rl_run F (run_assign (F.ev rfl)) rfl ?_; clear F a; intro a F
    refine rl_nil <| q_tn <| wp_ret <| fin1 F rfl rfl ?_
    exact ⟨M, false, rfl, ⟨fun h_ => (by first | (cases h_; done) | (have h_ := of_decide_eq_true h_; unfold NameB; omega) | (unfold NameB; omega)), fun h_ => (by unfold NameB at h_; first | rfl | (exact decide_eq_true (by omega)) | (exfalso; omega))⟩⟩
 ·skip
  have h6b := hc; clear hc
  have h6 : ¬ (97 ≤ nb c) := of_decide_eq_false h6b
  iterate 2 (refine rl_guard_f F rfl rfl rfl h6b ?_; clear F a; intro a F)
  refine rl_run F (run_pick_f (F.ev rfl) h6b (F.ev rfl)) rfl ?_; clear F a; intro a F
  refine rl_run F (run_move (F.ev rfl)) rfl ?_; clear F a; intro a F
  refine rl_guard_t F rfl rfl rfl rfl ?_
  refine rl_run F (run_move (F.ev rfl)) rfl ?_; clear F a; intro a F
  refine rl_guard_t F rfl rfl rfl rfl ?_
  refine rl_run F (run_geq (F.ev rfl) (F.ev rfl)) rfl ?_; clear F a; intro a F
  refine rl_guard_t F rfl rfl rfl rfl ?_
  refine rl_run F (run_move (F.ev rfl)) rfl ?_; clear F a; intro a F
  rcases Bool.eq_false_or_eq_true (decide (48 ≤ nb c)) with hc | hc
  ·skip
   have h7b := hc; clear hc
   have h7 : 48 ≤ nb c := of_decide_eq_true h7b
   refine rl_guard_t F rfl rfl rfl h7b ?_
   refine rl_run F (run_move (F.ev rfl)) rfl ?_; clear F a; intro a F
   refine rl_guard_t F rfl rfl rfl h7b ?_
   refine rl_run F (run_leq (F.ev rfl) (F.ev rfl)) rfl ?_; clear F a; intro a F
   refine rl_guard_t F rfl rfl rfl rfl ?_
   refine rl_run F (run_pick_t (F.ev rfl) h7b (F.ev rfl)) rfl ?_; clear F a; intro a F
   refine rl_run F (run_pick_f (F.ev rfl) rfl (F.ev rfl)) rfl ?_; clear F a; intro a F
   refine rl_run F (run_assign (F.ev rfl)) rfl ?_; clear F a; intro a F
   refine rl_nil <| q_tn <| wp_ret <| fin1 F rfl rfl ?_
   exact ⟨M, (decide (nb c ≤ 57)), rfl, ⟨fun h_ => (by first | (cases h_; done) | (have h_ := of_decide_eq_true h_; unfold NameB; omega) | (unfold NameB; omega)), fun h_ => (by unfold NameB at h_; first | rfl | (exact decide_eq_true (by omega)) | (exfalso; omega))⟩⟩
  ·skip
   have h8b := hc; clear hc
   have h8 : ¬ (48 ≤ nb c) := of_decide_eq_false h8b
   iterate 2 (refine rl_guard_f F rfl rfl rfl h8b ?_; clear F a; intro a F)
   refine rl_guard_t F rfl rfl rfl rfl ?_
   refine rl_run F (run_pick_f (F.ev rfl) h8b (F.ev rfl)) rfl ?_; clear F a; intro a F
   refine rl_run F (run_pick_f (F.ev rfl) rfl (F.ev rfl)) rfl ?_; clear F a; intro a F
   refine rl_run F (run_assign (F.ev rfl)) rfl ?_; clear F a; intro a F
   refine rl_nil <| q_tn <| wp_ret <| fin1 F rfl rfl ?_
   exact ⟨M, false, rfl, ⟨fun h_ => (by first | (cases h_; done) | (have h_ := of_decide_eq_true h_; unfold NameB; omega) | (unfold NameB; omega)), fun h_ => (by unfold NameB at h_; first | rfl | (exact decide_eq_true (by omega)) | (exfalso; omega))⟩⟩
theorem nnamed_spec {w0 w : World} {G : Ghost} {L : List Res} (M : Mem w0 G L w) {s : List UInt8} (hs : s.length ≤ 9223372036854775807) : Calls Tryz.prog 109 #[.string (str s)] w (RetS w0 G L fun v => ∃ b : Bool, v = .bool b ∧ (b = true ↔ Name s)) := by
 refine calls_start (vs := [_]) Tryz.func109 rfl (n := 23) rfl rfl ?_
 intro a F
 refine wp_seq <| w_reg <| rl_run F (run_assign (F.ev rfl)) rfl ?_; clear F a; intro a F
 refine rl_nil <| q_tn ?_
 iterate 2 (refine wp_seq ?_)
 refine w_reg <| rl_run F (run_move (F.ev rfl)) rfl ?_; clear F a; intro a F
 refine rl_run F (run_lenStr tok9.k (F.ev rfl)) rfl ?_; clear F a; intro a F
 refine rl_run F (run_lss (F.ev rfl) (F.ev rfl)) rfl ?_; clear F a; intro a F
 refine rl_run F (run_move (F.ev rfl)) rfl ?_; clear F a; intro a F
 rcases Bool.eq_false_or_eq_true (decide ((((s).length : Nat) : Int) < 1)) with hc | hc
 ·skip
  have h1b := hc; clear hc
  have h1 : (((s).length : Nat) : Int) < 1 := of_decide_eq_true h1b
  iterate 3 (refine rl_guard_f F rfl rfl rfl h1b ?_; clear F a; intro a F)
  refine rl_run F (run_pick_t (F.ev rfl) h1b (F.ev rfl)) rfl ?_; clear F a; intro a F
  refine rl_nil <| q_tn <| w_cond_t F rfl rfl ?_
  refine wp_seq <| w_reg <| rl_run F (run_assign (F.ev rfl)) rfl ?_; clear F a; intro a F
  refine rl_nil <| q_tn <| wp_ret <| q_tr <| fin1 F rfl rfl ?_
  exact ⟨M, false, rfl, ⟨fun h_ => (by cases h_), fun h_ => (by have := h_.1; omega)⟩⟩
 ·skip
  have h2b := hc; clear hc
  have h2 : ¬ ((((s).length : Nat) : Int) < 1) := of_decide_eq_false h2b
  refine rl_guard_t F rfl rfl rfl h2b ?_
  refine rl_run F (run_move (F.ev rfl)) rfl ?_; clear F a; intro a F
  refine rl_guard_t F rfl rfl rfl h2b ?_
  refine rl_run F (run_lenStr tok9.k (F.ev rfl)) rfl ?_; clear F a; intro a F
  refine rl_guard_t F rfl rfl rfl h2b ?_
  refine rl_run F (run_gtr (F.ev rfl) (F.ev rfl)) rfl ?_; clear F a; intro a F
  refine rl_run F (run_pick_f (F.ev rfl) h2b (F.ev rfl)) rfl ?_; clear F a; intro a F
  refine rl_nil <| q_tn <| w_cond F rfl ?_ ?_
  ·intro hc
   have h3b := hc; clear hc
   have h3 : 16 < (((s).length : Nat) : Int) := of_decide_eq_true h3b
   refine wp_seq <| w_reg <| rl_run F (run_assign (F.ev rfl)) rfl ?_; clear F a; intro a F
   refine rl_nil <| q_tn <| wp_ret <| q_tr <| fin1 F rfl rfl ?_
   exact ⟨M, false, rfl, ⟨fun h_ => (by cases h_), fun h_ => (by have := h_.1; omega)⟩⟩
  ·intro hc
   have h4b := hc; clear hc
   have h4 : ¬ (16 < (((s).length : Nat) : Int)) := of_decide_eq_false h4b
   refine wp_skip <| q_tn ?_
   iterate 2 (refine wp_seq ?_)
   refine w_reg <| rl_run F (run_move (F.ev rfl)) rfl ?_; clear F a; intro a F
   refine rl_run F (run_lenStr tok9.k (F.ev rfl)) rfl ?_; clear F a; intro a F
   refine rl_run F (run_move (F.ev rfl)) rfl ?_; clear F a; intro a F
   refine rl_nil <| q_tn <| wp_block <| w_loopN (fun m a' w' => ∃ (i : Nat), m = s.length - i ∧ Fits 23 a' [(0, .string (str (s))), (13, .int .i64 ((((s).length : Nat) : Int))), (14, .int .i64 (((i : Nat) : Int)))] ∧ Mem w0 G (L) w' ∧ (i ≤ s.length) ∧ (∀ (m : Nat) (b : UInt8), m < i → s[m]? = some b → NameB b)) _ ⟨0, rfl, F.to ⟨rfl, rfl, rfl, trivial⟩, M, Nat.zero_le _, fun m b h => by omega⟩ ?_
   clear F M
   rintro m a w ⟨i, rfl, F, M, hi, hA⟩
   refine wp_seq <| w_reg <| rl_run F (run_lss (F.ev rfl) (F.ev rfl)) rfl ?_; clear F a; intro a F
   refine rl_nil <| q_tn <| wp_seq <| w_cond F rfl ?_ ?_
   ·intro hc
    have h5b := hc; clear hc
    have h5 : ((i : Nat) : Int) < (((s).length : Nat) : Int) := of_decide_eq_true h5b
    refine wp_skip <| q_tn <| wp_seq <| wp_block <| wp_seq <| w_reg <| rl_run F (run_move (F.ev rfl)) rfl ?_; clear F a; intro a F
    refine rl_run F (run_assign (F.ev rfl)) rfl ?_; clear F a; intro a F
    refine rl_nil <| q_tn <| wp_seq <| w_reg ?_
    iterate 2 (refine rl_run F (run_move (F.ev rfl)) rfl ?_; clear F a; intro a F)
    obtain ⟨B6, hB6⟩ := get_of_lt (xs := (s)) (i := i) (by omega)
    have lB6 := nb_hi B6
    refine rl_run F (run_strIndex (i := i) tok9.k (F.ev rfl) (F.ev rfl) hB6) rfl ?_; clear F a; intro a F
    refine rl_callS F ent119 rfl rfl (inname_spec (c := B6) M) ?_; clear F M a; rintro _ w a M ⟨b7, rfl, hb7⟩ F
    refine rl_run F (run_not (F.ev rfl)) rfl ?_; clear F a; intro a F
    refine rl_nil <| q_tn <| w_cond F rfl ?_ ?_
    ·intro hc
     have h8b := hc; clear hc
     have h8 : (b7) = false := (of_not_t h8b)
     have h8c : (b7) = false := (of_not_t h8b)
     refine wp_seq <| w_reg <| rl_run F (run_assign (F.ev rfl)) rfl ?_; clear F a; intro a F
     refine rl_nil <| q_tn <| wp_ret <| q_br ?_
     iterate 2 (refine q_tr ?_)
     refine q_br <| q_tr <| fin1 F rfl rfl ?_
     exact ⟨M, false, rfl, ⟨fun h_ => (by cases h_), fun h_ => absurd h_.2 (not_all hB6 (fun h9 => by have h8 := hb7.2 h9; simp_all))⟩⟩
    ·intro hc
     have h9b := hc; clear hc
     have h9 : (b7) = true := (of_not_f h9b)
     have h9c : (b7) = true := (of_not_f h9b)
     refine wp_skip <| q_bn <| q_tn <| w_reg <| rl_run F (run_addi (F.ev rfl) (F.ev rfl) (in_i64 (by omega) (by omega))) rfl ?_; clear F a; intro a F
     refine rl_run F (run_move (F.ev rfl)) rfl ?_; clear F a; intro a F
     refine rl_nil <| q_tn ?_
     exact ⟨_, by omega, i + 1, rfl, F.to ⟨rfl, rfl, rfl, trivial⟩, M, by omega, all_step hA hB6 (by first | exact hb7.1 (by assumption) | (unfold NameB; omega))⟩
   ·intro hc
    have h10b := hc; clear hc
    have h10 : ¬ (((i : Nat) : Int) < (((s).length : Nat) : Int)) := of_decide_eq_false h10b
    refine wp_exit ?_
    iterate 2 (refine q_te ?_)
    refine q_bh <| q_tn <| wp_seq <| w_reg <| rl_run F (run_assign (F.ev rfl)) rfl ?_; clear F a; intro a F
    refine rl_nil <| q_tn <| wp_ret <| fin1 F rfl rfl ?_
    exact ⟨M, true, rfl, ⟨fun _ => ⟨(by omega), all_end hA (by omega)⟩, fun _ => rfl⟩⟩
theorem rname_spec {w0 w : World} {G : Ghost} {L : List Res} (M : Mem w0 G L w) {s : List UInt8} (hs : s.length ≤ 9223372036854775807) : Calls Tryz.prog 76 #[.string (str s)] w (RetS w0 G L fun v => ∃ b : Bool, v = .bool b ∧ (b = true ↔ Name s)) := by
 refine calls_start (vs := [_]) Tryz.func76 rfl (n := 44) rfl rfl ?_
 intro a F
 refine wp_seq <| w_reg <| rl_run F (run_assign (F.ev rfl)) rfl ?_; clear F a; intro a F
 refine rl_nil <| q_tn ?_
 iterate 2 (refine wp_seq ?_)
 refine w_reg <| rl_run F (run_assign (F.ev rfl)) rfl ?_; clear F a; intro a F
 refine rl_nil <| q_tn <| wp_block <| w_loopN (fun m a' w' => ∃ (i : Nat), m = s.length - i ∧ Fits 44 a' [(0, .string (str (s))), (3, .int .i64 (((i : Nat) : Int)))] ∧ Mem w0 G (L) w' ∧ (i ≤ s.length ∧ i ≤ 17) ∧ (∀ (m : Nat) (b : UInt8), m < i → s[m]? = some b → NameB b)) _ ⟨0, rfl, F.to ⟨rfl, rfl, trivial⟩, M, by omega, fun m b h => by omega⟩ ?_
 clear F M
 rintro m a w ⟨i, rfl, F, M, hi, hA⟩
 iterate 2 (refine wp_seq ?_)
 refine w_reg ?_
 iterate 2 (refine rl_run F (run_move (F.ev rfl)) rfl ?_; clear F a; intro a F)
 refine rl_run F (run_lenStr tok9.k (F.ev rfl)) rfl ?_; clear F a; intro a F
 refine rl_run F (run_lss (F.ev rfl) (F.ev rfl)) rfl ?_; clear F a; intro a F
 refine rl_run F (run_move (F.ev rfl)) rfl ?_; clear F a; intro a F
 rcases Bool.eq_false_or_eq_true (decide (((i : Nat) : Int) < (((s).length : Nat) : Int))) with hc | hc
 ·skip
  have h1b := hc; clear hc
  have h1 : ((i : Nat) : Int) < (((s).length : Nat) : Int) := of_decide_eq_true h1b
  refine rl_guard_t F rfl rfl rfl h1b ?_
  refine rl_run F (run_move (F.ev rfl)) rfl ?_; clear F a; intro a F
  refine rl_guard_t F rfl rfl rfl h1b ?_
  refine rl_run F (run_lss (F.ev rfl) (F.ev rfl)) rfl ?_; clear F a; intro a F
  refine rl_run F (run_pick_t (F.ev rfl) h1b (F.ev rfl)) rfl ?_; clear F a; intro a F
  refine rl_nil <| q_tn <| w_cond F rfl ?_ ?_
  ·intro hc
   have h2b := hc; clear hc
   have h2 : ((i : Nat) : Int) < 17 := of_decide_eq_true h2b
   refine wp_skip <| q_tn <| wp_seq <| wp_block <| wp_seq <| w_reg ?_
   iterate 2 (refine rl_run F (run_move (F.ev rfl)) rfl ?_; clear F a; intro a F)
   obtain ⟨B3, hB3⟩ := get_of_lt (xs := (s)) (i := i) (by omega)
   have lB3 := nb_hi B3
   refine rl_run F (run_strIndex (i := i) tok9.k (F.ev rfl) (F.ev rfl) hB3) rfl ?_; clear F a; intro a F
   refine rl_run F (run_lss (F.ev rfl) (F.ev rfl)) rfl ?_; clear F a; intro a F
   refine rl_run F (run_move (F.ev rfl)) rfl ?_; clear F a; intro a F
   rcases Bool.eq_false_or_eq_true (decide (nb B3 < 97)) with hc | hc
   ·skip
    have h4b := hc; clear hc
    have h4 : nb B3 < 97 := of_decide_eq_true h4b
    iterate 4 (refine rl_guard_f F rfl rfl rfl h4b ?_; clear F a; intro a F)
    refine rl_run F (run_pick_t (F.ev rfl) h4b (F.ev rfl)) rfl ?_; clear F a; intro a F
    refine rl_run F (run_move (F.ev rfl)) rfl ?_; clear F a; intro a F
    refine rl_guard_t F rfl rfl rfl rfl ?_
    refine rl_run F (run_move (F.ev rfl)) rfl ?_; clear F a; intro a F
    refine rl_guard_t F rfl rfl rfl rfl ?_
    refine rl_run F (run_move (F.ev rfl)) rfl ?_; clear F a; intro a F
    refine rl_guard_t F rfl rfl rfl rfl ?_
    refine rl_run F (run_strIndex (i := i) tok9.k (F.ev rfl) (F.ev rfl) hB3) rfl ?_; clear F a; intro a F
    refine rl_guard_t F rfl rfl rfl rfl ?_
    refine rl_run F (run_lss (F.ev rfl) (F.ev rfl)) rfl ?_; clear F a; intro a F
    refine rl_guard_t F rfl rfl rfl rfl ?_
    refine rl_run F (run_move (F.ev rfl)) rfl ?_; clear F a; intro a F
    rcases Bool.eq_false_or_eq_true (decide (nb B3 < 48)) with hc | hc
    ·skip
     have h5b := hc; clear hc
     have h5 : nb B3 < 48 := of_decide_eq_true h5b
     iterate 4 (refine rl_guard_f F rfl rfl rfl h5b ?_; clear F a; intro a F)
     refine rl_guard_t F rfl rfl rfl rfl ?_
     refine rl_run F (run_pick_t (F.ev rfl) h5b (F.ev rfl)) rfl ?_; clear F a; intro a F
     refine rl_run F (run_pick_t (F.ev rfl) rfl (F.ev rfl)) rfl ?_; clear F a; intro a F
     refine rl_nil <| q_tn <| w_cond_t F rfl rfl ?_
     refine wp_seq <| w_reg <| rl_run F (run_assign (F.ev rfl)) rfl ?_; clear F a; intro a F
     refine rl_nil <| q_tn <| wp_ret <| q_br ?_
     iterate 2 (refine q_tr ?_)
     refine q_br <| q_tr <| fin1 F rfl rfl ?_
     exact ⟨M, false, rfl, ⟨fun h_ => (by cases h_), fun h_ => absurd h_.2 (not_all hB3 (by unfold NameB; omega))⟩⟩
    ·skip
     have h6b := hc; clear hc
     have h6 : ¬ (nb B3 < 48) := of_decide_eq_false h6b
     refine rl_guard_t F rfl rfl rfl h6b ?_
     refine rl_run F (run_move (F.ev rfl)) rfl ?_; clear F a; intro a F
     refine rl_guard_t F rfl rfl rfl h6b ?_
     refine rl_run F (run_move (F.ev rfl)) rfl ?_; clear F a; intro a F
     refine rl_guard_t F rfl rfl rfl h6b ?_
     refine rl_run F (run_strIndex (i := i) tok9.k (F.ev rfl) (F.ev rfl) hB3) rfl ?_; clear F a; intro a F
     refine rl_guard_t F rfl rfl rfl h6b ?_
     refine rl_run F (run_gtr (F.ev rfl) (F.ev rfl)) rfl ?_; clear F a; intro a F
     refine rl_guard_t F rfl rfl rfl rfl ?_
     refine rl_run F (run_pick_f (F.ev rfl) h6b (F.ev rfl)) rfl ?_; clear F a; intro a F
     refine rl_run F (run_pick_t (F.ev rfl) rfl (F.ev rfl)) rfl ?_; clear F a; intro a F
     refine rl_nil <| q_tn <| w_cond F rfl ?_ ?_
     ·intro hc
      have h7b := hc; clear hc
      have h7 : 57 < nb B3 := of_decide_eq_true h7b
      refine wp_seq <| w_reg <| rl_run F (run_assign (F.ev rfl)) rfl ?_; clear F a; intro a F
      refine rl_nil <| q_tn <| wp_ret <| q_br ?_
      iterate 2 (refine q_tr ?_)
      refine q_br <| q_tr <| fin1 F rfl rfl ?_
      exact ⟨M, false, rfl, ⟨fun h_ => (by cases h_), fun h_ => absurd h_.2 (not_all hB3 (by unfold NameB; omega))⟩⟩
     ·intro hc
      have h8b := hc; clear hc
      have h8 : ¬ (57 < nb B3) := of_decide_eq_false h8b
      refine wp_skip <| q_bn <| q_tn <| w_reg <| rl_run F (run_move (F.ev rfl)) rfl ?_; clear F a; intro a F
      refine rl_run F (run_addi (F.ev rfl) (F.ev rfl) (in_i64 (by omega) (by omega))) rfl ?_; clear F a; intro a F
      refine rl_run F (run_assign (F.ev rfl)) rfl ?_; clear F a; intro a F
      refine rl_nil <| q_tn ?_
      exact ⟨_, by omega, i + 1, rfl, F.to ⟨rfl, rfl, trivial⟩, M, by omega, all_step hA hB3 (by unfold NameB; omega)⟩
   ·skip
    have h9b := hc; clear hc
    have h9 : ¬ (nb B3 < 97) := of_decide_eq_false h9b
    refine rl_guard_t F rfl rfl rfl h9b ?_
    refine rl_run F (run_move (F.ev rfl)) rfl ?_; clear F a; intro a F
    refine rl_guard_t F rfl rfl rfl h9b ?_
    refine rl_run F (run_move (F.ev rfl)) rfl ?_; clear F a; intro a F
    refine rl_guard_t F rfl rfl rfl h9b ?_
    refine rl_run F (run_strIndex (i := i) tok9.k (F.ev rfl) (F.ev rfl) hB3) rfl ?_; clear F a; intro a F
    refine rl_guard_t F rfl rfl rfl h9b ?_
    refine rl_run F (run_gtr (F.ev rfl) (F.ev rfl)) rfl ?_; clear F a; intro a F
    refine rl_run F (run_pick_f (F.ev rfl) h9b (F.ev rfl)) rfl ?_; clear F a; intro a F
    refine rl_run F (run_move (F.ev rfl)) rfl ?_; clear F a; intro a F
    rcases Bool.eq_false_or_eq_true (decide (122 < nb B3)) with hc | hc
    ·skip
     have h10b := hc; clear hc
     have h10 : 122 < nb B3 := of_decide_eq_true h10b
     refine rl_guard_t F rfl rfl rfl h10b ?_
     refine rl_run F (run_move (F.ev rfl)) rfl ?_; clear F a; intro a F
     refine rl_guard_t F rfl rfl rfl h10b ?_
     refine rl_run F (run_move (F.ev rfl)) rfl ?_; clear F a; intro a F
     refine rl_guard_t F rfl rfl rfl h10b ?_
     refine rl_run F (run_strIndex (i := i) tok9.k (F.ev rfl) (F.ev rfl) hB3) rfl ?_; clear F a; intro a F
     refine rl_guard_t F rfl rfl rfl h10b ?_
     refine rl_run F (run_lss (F.ev rfl) (F.ev rfl)) rfl ?_; clear F a; intro a F
     refine rl_guard_t F rfl rfl rfl h10b ?_
     refine rl_run F (run_move (F.ev rfl)) rfl ?_; clear F a; intro a F
     rcases Bool.eq_false_or_eq_true (decide (nb B3 < 48)) with hc | hc
     ·skip
      have h11b := hc; clear hc
      have h11 : nb B3 < 48 := of_decide_eq_true h11b
      iterate 4 (refine rl_guard_f F rfl rfl rfl h11b ?_; clear F a; intro a F)
      refine rl_guard_t F rfl rfl rfl h10b ?_
      refine rl_run F (run_pick_t (F.ev rfl) h11b (F.ev rfl)) rfl ?_; clear F a; intro a F
      refine rl_run F (run_pick_t (F.ev rfl) h10b (F.ev rfl)) rfl ?_; clear F a; intro a F
      refine rl_nil <| q_tn <| w_cond_t F rfl rfl ?_
      refine wp_seq <| w_reg <| rl_run F (run_assign (F.ev rfl)) rfl ?_; clear F a; intro a F
      refine rl_nil <| q_tn <| wp_ret <| q_br ?_
      iterate 2 (refine q_tr ?_)
      refine q_br <| q_tr <| fin1 F rfl rfl ?_
      exact ⟨M, false, rfl, ⟨fun h_ => (by cases h_), fun h_ => absurd h_.2 (not_all hB3 (by unfold NameB; omega))⟩⟩
     ·skip
      have h12b := hc; clear hc
      have h12 : ¬ (nb B3 < 48) := of_decide_eq_false h12b
      refine rl_guard_t F rfl rfl rfl h12b ?_
      refine rl_run F (run_move (F.ev rfl)) rfl ?_; clear F a; intro a F
      refine rl_guard_t F rfl rfl rfl h12b ?_
      refine rl_run F (run_move (F.ev rfl)) rfl ?_; clear F a; intro a F
      refine rl_guard_t F rfl rfl rfl h12b ?_
      refine rl_run F (run_strIndex (i := i) tok9.k (F.ev rfl) (F.ev rfl) hB3) rfl ?_; clear F a; intro a F
      refine rl_guard_t F rfl rfl rfl h12b ?_
      refine rl_run F (run_gtr (F.ev rfl) (F.ev rfl)) rfl ?_; clear F a; intro a F
      refine rl_guard_t F rfl rfl rfl h10b ?_
      refine rl_run F (run_pick_f (F.ev rfl) h12b (F.ev rfl)) rfl ?_; clear F a; intro a F
      refine rl_run F (run_pick_t (F.ev rfl) h10b (F.ev rfl)) rfl ?_; clear F a; intro a F
      refine rl_nil <| q_tn <| w_cond F rfl ?_ ?_
      ·intro hc
       have h13b := hc; clear hc
       have h13 : 57 < nb B3 := of_decide_eq_true h13b
       refine wp_seq <| w_reg <| rl_run F (run_assign (F.ev rfl)) rfl ?_; clear F a; intro a F
       refine rl_nil <| q_tn <| wp_ret <| q_br ?_
       iterate 2 (refine q_tr ?_)
       refine q_br <| q_tr <| fin1 F rfl rfl ?_
       exact ⟨M, false, rfl, ⟨fun h_ => (by cases h_), fun h_ => absurd h_.2 (not_all hB3 (by unfold NameB; omega))⟩⟩
      ·intro hc
       have h14b := hc; clear hc
       have h14 : ¬ (57 < nb B3) := of_decide_eq_false h14b
       refine wp_skip <| q_bn <| q_tn <| w_reg <| rl_run F (run_move (F.ev rfl)) rfl ?_; clear F a; intro a F
       refine rl_run F (run_addi (F.ev rfl) (F.ev rfl) (in_i64 (by omega) (by omega))) rfl ?_; clear F a; intro a F
       refine rl_run F (run_assign (F.ev rfl)) rfl ?_; clear F a; intro a F
       refine rl_nil <| q_tn ?_
       exact ⟨_, by omega, i + 1, rfl, F.to ⟨rfl, rfl, trivial⟩, M, by omega, all_step hA hB3 (by unfold NameB; omega)⟩
    ·skip
     have h15b := hc; clear hc
     have h15 : ¬ (122 < nb B3) := of_decide_eq_false h15b
     iterate 5 (refine rl_guard_f F rfl rfl rfl h15b ?_; clear F a; intro a F)
     iterate 4 (refine rl_guard_u F rfl rfl rfl ?_; clear F a; intro a F)
     refine rl_guard_f F rfl rfl rfl h15b ?_; clear F a; intro a F
     refine rl_run F (run_pick_f (F.ev rfl) h15b (F.ev rfl)) rfl ?_; clear F a; intro a F
     refine rl_nil <| q_tn <| w_cond_f F rfl rfl ?_
     refine wp_skip <| q_bn <| q_tn <| w_reg <| rl_run F (run_move (F.ev rfl)) rfl ?_; clear F a; intro a F
     refine rl_run F (run_addi (F.ev rfl) (F.ev rfl) (in_i64 (by omega) (by omega))) rfl ?_; clear F a; intro a F
     refine rl_run F (run_assign (F.ev rfl)) rfl ?_; clear F a; intro a F
     refine rl_nil <| q_tn ?_
     exact ⟨_, by omega, i + 1, rfl, F.to ⟨rfl, rfl, trivial⟩, M, by omega, all_step hA hB3 (by unfold NameB; omega)⟩
  ·intro hc
   have h16b := hc; clear hc
   have h16 : ¬ (((i : Nat) : Int) < 17) := of_decide_eq_false h16b
   refine wp_exit ?_
   iterate 2 (refine q_te ?_)
   refine q_bh <| q_tn <| wp_seq <| w_reg <| rl_run F (run_move (F.ev rfl)) rfl ?_; clear F a; intro a F
   refine rl_run F (run_lenStr tok9.k (F.ev rfl)) rfl ?_; clear F a; intro a F
   refine rl_run F (run_geq (F.ev rfl) (F.ev rfl)) rfl ?_; clear F a; intro a F
   refine rl_run F (run_move (F.ev rfl)) rfl ?_; clear F a; intro a F
   rcases Bool.eq_false_or_eq_true (decide (1 ≤ (((s).length : Nat) : Int))) with hc | hc
   ·skip
    have h17b := hc; clear hc
    have h17 : 1 ≤ (((s).length : Nat) : Int) := of_decide_eq_true h17b
    refine rl_guard_t F rfl rfl rfl h17b ?_
    refine rl_run F (run_move (F.ev rfl)) rfl ?_; clear F a; intro a F
    refine rl_guard_t F rfl rfl rfl h17b ?_
    refine rl_run F (run_lenStr tok9.k (F.ev rfl)) rfl ?_; clear F a; intro a F
    refine rl_guard_t F rfl rfl rfl h17b ?_
    refine rl_run F (run_leq (F.ev rfl) (F.ev rfl)) rfl ?_; clear F a; intro a F
    refine rl_run F (run_pick_t (F.ev rfl) h17b (F.ev rfl)) rfl ?_; clear F a; intro a F
    refine rl_run F (run_assign (F.ev rfl)) rfl ?_; clear F a; intro a F
    refine rl_nil <| q_tn <| wp_ret <| fin1 F rfl rfl ?_
    exact ⟨M, (decide ((((s).length : Nat) : Int) ≤ 16)), rfl, ⟨fun h_ => (by first | (cases h_; done) | (have h_ := of_decide_eq_true h_; exact ⟨(by omega), all_end hA (by omega)⟩) | exact ⟨(by omega), all_end hA (by omega)⟩), fun h_ => (by have h9 := h_.1; first | rfl | (exact decide_eq_true (by omega)) | (exfalso; omega))⟩⟩
   ·skip
    have h18b := hc; clear hc
    have h18 : ¬ (1 ≤ (((s).length : Nat) : Int)) := of_decide_eq_false h18b
    iterate 3 (refine rl_guard_f F rfl rfl rfl h18b ?_; clear F a; intro a F)
    refine rl_run F (run_pick_f (F.ev rfl) h18b (F.ev rfl)) rfl ?_; clear F a; intro a F
    refine rl_run F (run_assign (F.ev rfl)) rfl ?_; clear F a; intro a F
    refine rl_nil <| q_tn <| wp_ret <| fin1 F rfl rfl ?_
    exact ⟨M, false, rfl, ⟨fun h_ => (by first | (cases h_; done) | (have h_ := of_decide_eq_true h_; exact ⟨(by omega), all_end hA (by omega)⟩) | exact ⟨(by omega), all_end hA (by omega)⟩), fun h_ => (by have h9 := h_.1; first | rfl | (exact decide_eq_true (by omega)) | (exfalso; omega))⟩⟩
 ·skip
  have h19b := hc; clear hc
  have h19 : ¬ (((i : Nat) : Int) < (((s).length : Nat) : Int)) := of_decide_eq_false h19b
  iterate 2 (refine rl_guard_f F rfl rfl rfl h19b ?_; clear F a; intro a F)
  refine rl_run F (run_pick_f (F.ev rfl) h19b (F.ev rfl)) rfl ?_; clear F a; intro a F
  refine rl_nil <| q_tn <| w_cond_f F rfl rfl ?_
  refine wp_exit ?_
  iterate 2 (refine q_te ?_)
  refine q_bh <| q_tn <| wp_seq <| w_reg <| rl_run F (run_move (F.ev rfl)) rfl ?_; clear F a; intro a F
  refine rl_run F (run_lenStr tok9.k (F.ev rfl)) rfl ?_; clear F a; intro a F
  refine rl_run F (run_geq (F.ev rfl) (F.ev rfl)) rfl ?_; clear F a; intro a F
  refine rl_run F (run_move (F.ev rfl)) rfl ?_; clear F a; intro a F
  rcases Bool.eq_false_or_eq_true (decide (1 ≤ (((s).length : Nat) : Int))) with hc | hc
  ·skip
   have h20b := hc; clear hc
   have h20 : 1 ≤ (((s).length : Nat) : Int) := of_decide_eq_true h20b
   refine rl_guard_t F rfl rfl rfl h20b ?_
   refine rl_run F (run_move (F.ev rfl)) rfl ?_; clear F a; intro a F
   refine rl_guard_t F rfl rfl rfl h20b ?_
   refine rl_run F (run_lenStr tok9.k (F.ev rfl)) rfl ?_; clear F a; intro a F
   refine rl_guard_t F rfl rfl rfl h20b ?_
   refine rl_run F (run_leq (F.ev rfl) (F.ev rfl)) rfl ?_; clear F a; intro a F
   refine rl_run F (run_pick_t (F.ev rfl) h20b (F.ev rfl)) rfl ?_; clear F a; intro a F
   refine rl_run F (run_assign (F.ev rfl)) rfl ?_; clear F a; intro a F
   refine rl_nil <| q_tn <| wp_ret <| fin1 F rfl rfl ?_
   exact ⟨M, (decide ((((s).length : Nat) : Int) ≤ 16)), rfl, ⟨fun h_ => (by first | (cases h_; done) | (have h_ := of_decide_eq_true h_; exact ⟨(by omega), all_end hA (by omega)⟩) | exact ⟨(by omega), all_end hA (by omega)⟩), fun h_ => (by have h9 := h_.1; first | rfl | (exact decide_eq_true (by omega)) | (exfalso; omega))⟩⟩
  ·skip
   have h21b := hc; clear hc
   have h21 : ¬ (1 ≤ (((s).length : Nat) : Int)) := of_decide_eq_false h21b
   iterate 3 (refine rl_guard_f F rfl rfl rfl h21b ?_; clear F a; intro a F)
   refine rl_run F (run_pick_f (F.ev rfl) h21b (F.ev rfl)) rfl ?_; clear F a; intro a F
   refine rl_run F (run_assign (F.ev rfl)) rfl ?_; clear F a; intro a F
   refine rl_nil <| q_tn <| wp_ret <| fin1 F rfl rfl ?_
   exact ⟨M, false, rfl, ⟨fun h_ => (by first | (cases h_; done) | (have h_ := of_decide_eq_true h_; exact ⟨(by omega), all_end hA (by omega)⟩) | exact ⟨(by omega), all_end hA (by omega)⟩), fun h_ => (by have h9 := h_.1; first | rfl | (exact decide_eq_true (by omega)) | (exfalso; omega))⟩⟩
theorem rstr_spec {w0 w : World} {G : Ghost} {L : List Res} (M : Mem w0 G L w) {s : List UInt8} (hs : s.length ≤ 9223372036854775807) : Calls Tryz.prog 75 #[.string (str s)] w (RetS w0 G L fun v => ∃ b : Bool, v = .bool b ∧ (b = true ↔ Str s)) := by
 refine calls_start (vs := [_]) Tryz.func75 rfl (n := 23) rfl rfl ?_
 intro a F
 refine wp_seq <| w_reg <| rl_run F (run_assign (F.ev rfl)) rfl ?_; clear F a; intro a F
 refine rl_nil <| q_tn ?_
 iterate 2 (refine wp_seq ?_)
 refine w_reg <| rl_run F (run_move (F.ev rfl)) rfl ?_; clear F a; intro a F
 refine rl_run F (run_lenStr tok9.k (F.ev rfl)) rfl ?_; clear F a; intro a F
 refine rl_run F (run_gtr (F.ev rfl) (F.ev rfl)) rfl ?_; clear F a; intro a F
 refine rl_nil <| q_tn <| w_cond F rfl ?_ ?_
 ·intro hc
  have h1b := hc; clear hc
  have h1 : 64 < (((s).length : Nat) : Int) := of_decide_eq_true h1b
  refine wp_seq <| w_reg <| rl_run F (run_assign (F.ev rfl)) rfl ?_; clear F a; intro a F
  refine rl_nil <| q_tn <| wp_ret <| q_tr <| fin1 F rfl rfl ?_
  exact ⟨M, false, rfl, ⟨fun h_ => (by cases h_), fun h_ => (by have := h_.1; omega)⟩⟩
 ·intro hc
  have h2b := hc; clear hc
  have h2 : ¬ (64 < (((s).length : Nat) : Int)) := of_decide_eq_false h2b
  refine wp_skip <| q_tn ?_
  iterate 2 (refine wp_seq ?_)
  refine w_reg <| rl_run F (run_assign (F.ev rfl)) rfl ?_; clear F a; intro a F
  refine rl_nil <| q_tn <| wp_block <| w_loopN (fun m a' w' => ∃ (i : Nat), m = s.length - i ∧ Fits 23 a' [(0, .string (str (s))), (3, .int .i64 (((i : Nat) : Int)))] ∧ Mem w0 G (L) w' ∧ (i ≤ s.length) ∧ (∀ (m : Nat) (b : UInt8), m < i → s[m]? = some b → StrB b)) _ ⟨0, rfl, F.to ⟨rfl, rfl, trivial⟩, M, by omega, fun m b h => by omega⟩ ?_
  clear F M
  rintro m a w ⟨i, rfl, F, M, hi, hA⟩
  iterate 2 (refine wp_seq ?_)
  refine w_reg ?_
  iterate 2 (refine rl_run F (run_move (F.ev rfl)) rfl ?_; clear F a; intro a F)
  refine rl_run F (run_lenStr tok9.k (F.ev rfl)) rfl ?_; clear F a; intro a F
  refine rl_run F (run_lss (F.ev rfl) (F.ev rfl)) rfl ?_; clear F a; intro a F
  refine rl_nil <| q_tn <| w_cond F rfl ?_ ?_
  ·intro hc
   have h3b := hc; clear hc
   have h3 : ((i : Nat) : Int) < (((s).length : Nat) : Int) := of_decide_eq_true h3b
   refine wp_skip <| q_tn <| wp_seq <| wp_block <| wp_seq <| w_reg ?_
   iterate 2 (refine rl_run F (run_move (F.ev rfl)) rfl ?_; clear F a; intro a F)
   obtain ⟨B4, hB4⟩ := get_of_lt (xs := (s)) (i := i) (by omega)
   have lB4 := nb_hi B4
   refine rl_run F (run_strIndex (i := i) tok9.k (F.ev rfl) (F.ev rfl) hB4) rfl ?_; clear F a; intro a F
   refine rl_run F (run_lss (F.ev rfl) (F.ev rfl)) rfl ?_; clear F a; intro a F
   refine rl_run F (run_move (F.ev rfl)) rfl ?_; clear F a; intro a F
   rcases Bool.eq_false_or_eq_true (decide (nb B4 < 32)) with hc | hc
   ·skip
    have h5b := hc; clear hc
    have h5 : nb B4 < 32 := of_decide_eq_true h5b
    iterate 4 (refine rl_guard_f F rfl rfl rfl h5b ?_; clear F a; intro a F)
    refine rl_run F (run_pick_t (F.ev rfl) h5b (F.ev rfl)) rfl ?_; clear F a; intro a F
    refine rl_nil <| q_tn <| w_cond_t F rfl rfl ?_
    refine wp_seq <| w_reg <| rl_run F (run_assign (F.ev rfl)) rfl ?_; clear F a; intro a F
    refine rl_nil <| q_tn <| wp_ret <| q_br ?_
    iterate 2 (refine q_tr ?_)
    refine q_br <| q_tr <| fin1 F rfl rfl ?_
    exact ⟨M, false, rfl, ⟨fun h_ => (by cases h_), fun h_ => absurd h_.2 (not_all hB4 (by unfold StrB; omega))⟩⟩
   ·skip
    have h6b := hc; clear hc
    have h6 : ¬ (nb B4 < 32) := of_decide_eq_false h6b
    refine rl_guard_t F rfl rfl rfl h6b ?_
    refine rl_run F (run_move (F.ev rfl)) rfl ?_; clear F a; intro a F
    refine rl_guard_t F rfl rfl rfl h6b ?_
    refine rl_run F (run_move (F.ev rfl)) rfl ?_; clear F a; intro a F
    refine rl_guard_t F rfl rfl rfl h6b ?_
    refine rl_run F (run_strIndex (i := i) tok9.k (F.ev rfl) (F.ev rfl) hB4) rfl ?_; clear F a; intro a F
    refine rl_guard_t F rfl rfl rfl h6b ?_
    refine rl_run F (run_gtr (F.ev rfl) (F.ev rfl)) rfl ?_; clear F a; intro a F
    refine rl_run F (run_pick_f (F.ev rfl) h6b (F.ev rfl)) rfl ?_; clear F a; intro a F
    refine rl_nil <| q_tn <| w_cond F rfl ?_ ?_
    ·intro hc
     have h7b := hc; clear hc
     have h7 : 126 < nb B4 := of_decide_eq_true h7b
     refine wp_seq <| w_reg <| rl_run F (run_assign (F.ev rfl)) rfl ?_; clear F a; intro a F
     refine rl_nil <| q_tn <| wp_ret <| q_br ?_
     iterate 2 (refine q_tr ?_)
     refine q_br <| q_tr <| fin1 F rfl rfl ?_
     exact ⟨M, false, rfl, ⟨fun h_ => (by cases h_), fun h_ => absurd h_.2 (not_all hB4 (by unfold StrB; omega))⟩⟩
    ·intro hc
     have h8b := hc; clear hc
     have h8 : ¬ (126 < nb B4) := of_decide_eq_false h8b
     refine wp_skip <| q_bn <| q_tn <| w_reg <| rl_run F (run_move (F.ev rfl)) rfl ?_; clear F a; intro a F
     refine rl_run F (run_addi (F.ev rfl) (F.ev rfl) (in_i64 (by omega) (by omega))) rfl ?_; clear F a; intro a F
     refine rl_run F (run_assign (F.ev rfl)) rfl ?_; clear F a; intro a F
     refine rl_nil <| q_tn ?_
     exact ⟨_, by omega, i + 1, rfl, F.to ⟨rfl, rfl, trivial⟩, M, by omega, all_step hA hB4 (by unfold StrB; omega)⟩
  ·intro hc
   have h9b := hc; clear hc
   have h9 : ¬ (((i : Nat) : Int) < (((s).length : Nat) : Int)) := of_decide_eq_false h9b
   refine wp_exit ?_
   iterate 2 (refine q_te ?_)
   refine q_bh <| q_tn <| wp_seq <| w_reg <| rl_run F (run_assign (F.ev rfl)) rfl ?_; clear F a; intro a F
   refine rl_nil <| q_tn <| wp_ret <| fin1 F rfl rfl ?_
   exact ⟨M, true, rfl, ⟨fun _ => ⟨(by omega), all_end hA (by omega)⟩, fun _ => rfl⟩⟩
theorem ntext1_spec {w : World} {x : Nat} : Calls Tryz.prog 122 #[.int .i32 (x : Int)] w (fun e w' => e = .returned (.bool (badR x)) ∧ ∃ q, w' = w.drewN q) := by
 refine calls_start (vs := [_]) Tryz.func122 rfl (n := 9) rfl rfl ?_
 intro a F
 refine wp_seq <| w_reg <| rl_run F (run_assign (F.ev rfl)) rfl ?_; clear F a; intro a F
 refine rl_nil <| q_tn <| wp_seq <| w_reg <| rl_run F (run_move (F.ev rfl)) rfl ?_; clear F a; intro a F
 refine rl_run F (run_lss (F.ev rfl) (F.ev rfl)) rfl ?_; clear F a; intro a F
 refine rl_run F (run_move (F.ev rfl)) rfl ?_; clear F a; intro a F
 rcases Bool.eq_false_or_eq_true (decide ((x : Int) < 32)) with hc | hc
 ·skip
  have h1b := hc; clear hc
  have h1 : (x : Int) < 32 := of_decide_eq_true h1b
  iterate 2 (refine rl_guard_f F rfl rfl rfl h1b ?_; clear F a; intro a F)
  refine rl_run F (run_pick_t (F.ev rfl) h1b (F.ev rfl)) rfl ?_; clear F a; intro a F
  refine rl_run F (run_assign (F.ev rfl)) rfl ?_; clear F a; intro a F
  refine rl_nil <| q_tn <| wp_ret <| fin1 F rfl rfl ?_
  exact ⟨by have h_ : badR x = true := (by unfold badR; first | (simp_all; omega) | simp_all); rw [h_], 0, rfl⟩
 ·skip
  have h2b := hc; clear hc
  have h2 : ¬ ((x : Int) < 32) := of_decide_eq_false h2b
  refine rl_guard_t F rfl rfl rfl h2b ?_
  refine rl_run F (run_move (F.ev rfl)) rfl ?_; clear F a; intro a F
  refine rl_guard_t F rfl rfl rfl h2b ?_
  refine rl_run F (run_gtr (F.ev rfl) (F.ev rfl)) rfl ?_; clear F a; intro a F
  refine rl_run F (run_pick_f (F.ev rfl) h2b (F.ev rfl)) rfl ?_; clear F a; intro a F
  refine rl_run F (run_assign (F.ev rfl)) rfl ?_; clear F a; intro a F
  refine rl_nil <| q_tn <| wp_ret <| fin1 F rfl rfl ?_
  exact ⟨by have h_ : badR x = (decide (126 < (x : Int))) := (by unfold badR; first | (simp_all; omega) | simp_all); rw [h_], 0, rfl⟩
theorem idxf_spec {w0 w : World} {G : Ghost} {L : List Res} (M : Mem w0 G L w) {s : List UInt8} : Calls Tryz.prog 121 #[.string (str s), .func (.func 122) #[] #[]] w (RetS w0 G L fun v => ∃ z : Int, v = .int .i64 z ∧ (z < 0 ↔ ∀ c ∈ s, StrB c)) := by
 have hp : PredAt Tryz.prog 122 #[] encR badR w := fun W x _ => (ntext1_spec (x := x))
 refine (Any.strings_IndexFunc Tryz.laysGw15 122 #[] (Go.Proofs.enters_of Tryz.func122 (by kernel_rfl) rfl) badR (str s) w hp).mono ?_
 rintro e w' ⟨rfl, hb⟩
 exact ⟨M.below' hb, _, rfl, idx_str s⟩
theorem ntext_spec {w0 w : World} {G : Ghost} {L : List Res} (M : Mem w0 G L w) {s : List UInt8} (hs : s.length ≤ 9223372036854775807) : Calls Tryz.prog 108 #[.string (str s)] w (RetS w0 G L fun v => ∃ b : Bool, v = .bool b ∧ (b = true ↔ Str s)) := by
 refine calls_start (vs := [_]) Tryz.func108 rfl (n := 11) rfl rfl ?_
 intro a F
 refine wp_seq <| w_reg <| rl_run F (run_assign (F.ev rfl)) rfl ?_; clear F a; intro a F
 refine rl_nil <| q_tn <| wp_seq <| w_reg <| rl_run F (run_move (F.ev rfl)) rfl ?_; clear F a; intro a F
 refine rl_run F (run_lenStr tok9.k (F.ev rfl)) rfl ?_; clear F a; intro a F
 refine rl_run F (run_leq (F.ev rfl) (F.ev rfl)) rfl ?_; clear F a; intro a F
 refine rl_run F (run_move (F.ev rfl)) rfl ?_; clear F a; intro a F
 rcases Bool.eq_false_or_eq_true (decide ((((s).length : Nat) : Int) ≤ 64)) with hc | hc
 ·skip
  have h1b := hc; clear hc
  have h1 : (((s).length : Nat) : Int) ≤ 64 := of_decide_eq_true h1b
  refine rl_guard_t F rfl rfl rfl h1b ?_
  refine rl_run F (run_move (F.ev rfl)) rfl ?_; clear F a; intro a F
  refine rl_guard_t F rfl rfl rfl h1b ?_
  refine rl_callS F ent121 rfl rfl (idxf_spec (s := s) M) ?_; clear F M a; rintro _ w a M ⟨z2, rfl, hz2⟩ F
  refine rl_guard_t F rfl rfl rfl h1b ?_
  refine rl_run F (run_lss (F.ev rfl) (F.ev rfl)) rfl ?_; clear F a; intro a F
  refine rl_run F (run_pick_t (F.ev rfl) h1b (F.ev rfl)) rfl ?_; clear F a; intro a F
  refine rl_run F (run_assign (F.ev rfl)) rfl ?_; clear F a; intro a F
  refine rl_nil <| q_tn <| wp_ret <| fin1 F rfl rfl ?_
  exact ⟨M, (decide (z2 < 0)), rfl, ⟨fun h_ => ⟨(by omega), hz2.1 (of_decide_eq_true h_)⟩, fun h_ => decide_eq_true (hz2.2 h_.2)⟩⟩
 ·skip
  have h3b := hc; clear hc
  have h3 : ¬ ((((s).length : Nat) : Int) ≤ 64) := of_decide_eq_false h3b
  iterate 3 (refine rl_guard_f F rfl rfl rfl h3b ?_; clear F a; intro a F)
  refine rl_run F (run_pick_f (F.ev rfl) h3b (F.ev rfl)) rfl ?_; clear F a; intro a F
  refine rl_run F (run_assign (F.ev rfl)) rfl ?_; clear F a; intro a F
  refine rl_nil <| q_tn <| wp_ret <| fin1 F rfl rfl ?_
  exact ⟨M, false, rfl, ⟨fun h_ => (by cases h_), fun h_ => (by have := h_.1; omega)⟩⟩
end Go.Proofs.YtlnehkjmmegkhaaGreat
