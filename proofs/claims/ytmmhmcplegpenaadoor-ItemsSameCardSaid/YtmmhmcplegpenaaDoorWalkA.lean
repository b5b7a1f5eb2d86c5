/- The walks, part A. -/
import Derived.Test.YtmmhmcplegpenaaDoorTab
import Derived.Test.YtmmhmcplegpenaaDoorLin
import Derived.Test.YtmmhmcplegpenaaDoorShelf
namespace Go.Proofs.YtmmhmcplegpenaaDoor
open Go Go.Y Go.Proofs
set_option linter.unusedSimpArgs false
set_option linter.unusedVariables false
theorem text1_spec {w : World} {x : Nat} : Calls Tryd.prog 25 #[.int .i32 (x : Int)] w (fun e w' => e = .returned (.bool (badR x)) ∧ ∃ q, w' = w.drewN q) := by
 refine calls_start (vs := [_]) Tryd.func25 rfl (n := 9) rfl rfl ?_
 intro a F
 refine wp_seq <| w_reg <| rl_run F (run_assign (F.ev rfl)) rfl ?_; clear F a; intro a F
 refine rl_nil <| q_tn <| wp_seq <| w_reg <| rl_run F (run_move (F.ev rfl)) rfl ?_; clear F a; intro a F
 refine rl_run F (run_lss (F.ev rfl) (F.ev rfl)) rfl ?_; clear F a; intro a F
 refine rl_run F (run_move (F.ev rfl)) rfl ?_; clear F a; intro a F
 rcases Bool.eq_false_or_eq_true (decide ((x : Int) < 32)) with hc | hc
 ·skip
  have h1b := hc; clear hc
  have h1 : (x : Int) < 32 := of_decide_eq_true h1b
  iterate 2 (refine rl_guard_f F rfl rfl rfl h1b ?_; clear F a; intro a F)
  refine rl_run F (run_pick_t (F.ev rfl) h1b (F.ev rfl)) rfl ?_; clear F a; intro a F
  refine rl_run F (run_assign (F.ev rfl)) rfl ?_; clear F a; intro a F
  refine rl_nil <| q_tn <| wp_ret <| fin1 F rfl rfl ?_
  exact ⟨by have h_ : badR x = true := (by unfold badR; first | (simp_all; omega) | simp_all); rw [h_], 0, rfl⟩
 ·skip
  have h2b := hc; clear hc
  have h2 : ¬ ((x : Int) < 32) := of_decide_eq_false h2b
  refine rl_guard_t F rfl rfl rfl h2b ?_
  refine rl_run F (run_move (F.ev rfl)) rfl ?_; clear F a; intro a F
  refine rl_guard_t F rfl rfl rfl h2b ?_
  refine rl_run F (run_gtr (F.ev rfl) (F.ev rfl)) rfl ?_; clear F a; intro a F
  refine rl_run F (run_pick_f (F.ev rfl) h2b (F.ev rfl)) rfl ?_; clear F a; intro a F
  refine rl_run F (run_assign (F.ev rfl)) rfl ?_; clear F a; intro a F
  refine rl_nil <| q_tn <| wp_ret <| fin1 F rfl rfl ?_
  exact ⟨by have h_ : badR x = (decide (126 < (x : Int))) := (by unfold badR; first | (simp_all; omega) | simp_all); rw [h_], 0, rfl⟩
theorem idxf_text1 {w0 w : World} {G : Ghost} {L : List Res} (M : Mem w0 G L w) {s : List UInt8} : Calls Tryd.prog 45 #[.string (str s), .func (.func 25) #[] #[]] w (RetS w0 G L fun v => ∃ z : Int, v = .int .i64 z ∧ (z < 0 ↔ ∀ c ∈ s, StrB c)) := by
 have hp : PredAt Tryd.prog 25 #[] encR badR w := fun W x _ => (text1_spec (x := x))
 refine (Any.strings_IndexFunc Tryd.laysGw15 25 #[] (Go.Proofs.enters_of Tryd.func25 (by kernel_rfl) rfl) badR (str s) w hp).mono ?_
 rintro e w' ⟨rfl, hb⟩
 exact ⟨M.below' hb, _, rfl, idx_str s⟩
theorem contf_text1 {w0 w : World} {G : Ghost} {L : List Res} (M : Mem w0 G L w) {s : List UInt8} : Calls Tryd.prog 24 #[.string (str s), .func (.func 25) #[] #[]] w (RetS w0 G L fun v => ∃ b : Bool, v = .bool b ∧ (b = true ↔ ¬ ∀ c ∈ s, StrB c)) := by
 refine calls_start (vs := [_, _]) Tryd.func24 rfl (n := 9) rfl rfl ?_
 intro a F
 refine wp_seq <| w_reg <| rl_run F (run_assign (F.ev rfl)) rfl ?_; clear F a; intro a F
 refine rl_nil <| q_tn <| wp_seq <| w_reg ?_
 iterate 2 (refine rl_run F (run_move (F.ev rfl)) rfl ?_; clear F a; intro a F)
 refine rl_callS F ent45 rfl rfl (idxf_text1 (s := s) M) ?_; clear F M a; rintro _ w a M ⟨z1, rfl, hz1⟩ F
 refine rl_run F (run_geq (F.ev rfl) (F.ev rfl)) rfl ?_; clear F a; intro a F
 refine rl_run F (run_assign (F.ev rfl)) rfl ?_; clear F a; intro a F
 refine rl_nil <| q_tn <| wp_ret <| fin1 F rfl rfl ?_
 exact ⟨M, _, rfl, by rw [decide_eq_true_iff, ← hz1]; omega⟩
theorem name1_spec {w : World} {x : Nat} : Calls Tryd.prog 47 #[.int .i32 (x : Int)] w (fun e w' => e = .returned (.bool (badN x)) ∧ ∃ q, w' = w.drewN q) := by
 refine calls_start (vs := [_]) Tryd.func47 rfl (n := 17) rfl rfl ?_
 intro a F
 refine wp_seq <| w_reg <| rl_run F (run_assign (F.ev rfl)) rfl ?_; clear F a; intro a F
 refine rl_nil <| q_tn <| wp_seq <| w_reg <| rl_run F (run_move (F.ev rfl)) rfl ?_; clear F a; intro a F
 refine rl_run F (run_lss (F.ev rfl) (F.ev rfl)) rfl ?_; clear F a; intro a F
 refine rl_run F (run_move (F.ev rfl)) rfl ?_; clear F a; intro a F
 rcases Bool.eq_false_or_eq_true (decide ((x : Int) < 97)) with hc | hc
 ·skip
  have h1b := hc; clear hc
  have h1 : (x : Int) < 97 := of_decide_eq_true h1b
  iterate 2 (refine rl_guard_f F rfl rfl rfl h1b ?_; clear F a; intro a F)
  refine rl_run F (run_pick_t (F.ev rfl) h1b (F.ev rfl)) rfl ?_; clear F a; intro a F
  refine rl_run F (run_move (F.ev rfl)) rfl ?_; clear F a; intro a F
  refine rl_guard_t F rfl rfl rfl rfl ?_
  refine rl_run F (run_move (F.ev rfl)) rfl ?_; clear F a; intro a F
  refine rl_guard_t F rfl rfl rfl rfl ?_
  refine rl_run F (run_lss (F.ev rfl) (F.ev rfl)) rfl ?_; clear F a; intro a F
  refine rl_guard_t F rfl rfl rfl rfl ?_
  refine rl_run F (run_move (F.ev rfl)) rfl ?_; clear F a; intro a F
  rcases Bool.eq_false_or_eq_true (decide ((x : Int) < 48)) with hc | hc
  ·skip
   have h2b := hc; clear hc
   have h2 : (x : Int) < 48 := of_decide_eq_true h2b
   iterate 2 (refine rl_guard_f F rfl rfl rfl h2b ?_; clear F a; intro a F)
   refine rl_guard_t F rfl rfl rfl rfl ?_
   refine rl_run F (run_pick_t (F.ev rfl) h2b (F.ev rfl)) rfl ?_; clear F a; intro a F
   refine rl_run F (run_pick_t (F.ev rfl) rfl (F.ev rfl)) rfl ?_; clear F a; intro a F
   refine rl_run F (run_assign (F.ev rfl)) rfl ?_; clear F a; intro a F
   refine rl_nil <| q_tn <| wp_ret <| fin1 F rfl rfl ?_
   exact ⟨by have h_ : badN x = true := (by unfold badN; first | (simp_all; omega) | simp_all); rw [h_], 0, rfl⟩
  ·skip
   have h3b := hc; clear hc
   have h3 : ¬ ((x : Int) < 48) := of_decide_eq_false h3b
   refine rl_guard_t F rfl rfl rfl h3b ?_
   refine rl_run F (run_move (F.ev rfl)) rfl ?_; clear F a; intro a F
   refine rl_guard_t F rfl rfl rfl h3b ?_
   refine rl_run F (run_gtr (F.ev rfl) (F.ev rfl)) rfl ?_; clear F a; intro a F
   refine rl_guard_t F rfl rfl rfl rfl ?_
   refine rl_run F (run_pick_f (F.ev rfl) h3b (F.ev rfl)) rfl ?_; clear F a; intro a F
   refine rl_run F (run_pick_t (F.ev rfl) rfl (F.ev rfl)) rfl ?_; clear F a; intro a F
   refine rl_run F (run_assign (F.ev rfl)) rfl ?_; clear F a; intro a F
   refine rl_nil <| q_tn <| wp_ret <| fin1 F rfl rfl ?_
   exact ⟨by have h_ : badN x = (decide (57 < (x : Int))) := (by unfold badN; first | (simp_all; omega) | simp_all); rw [h_], 0, rfl⟩
 ·skip
  have h4b := hc; clear hc
  have h4 : ¬ ((x : Int) < 97) := of_decide_eq_false h4b
  refine rl_guard_t F rfl rfl rfl h4b ?_
  refine rl_run F (run_move (F.ev rfl)) rfl ?_; clear F a; intro a F
  refine rl_guard_t F rfl rfl rfl h4b ?_
  refine rl_run F (run_gtr (F.ev rfl) (F.ev rfl)) rfl ?_; clear F a; intro a F
  refine rl_run F (run_pick_f (F.ev rfl) h4b (F.ev rfl)) rfl ?_; clear F a; intro a F
  refine rl_run F (run_move (F.ev rfl)) rfl ?_; clear F a; intro a F
  rcases Bool.eq_false_or_eq_true (decide (122 < (x : Int))) with hc | hc
  ·skip
   have h5b := hc; clear hc
   have h5 : 122 < (x : Int) := of_decide_eq_true h5b
   refine rl_guard_t F rfl rfl rfl h5b ?_
   refine rl_run F (run_move (F.ev rfl)) rfl ?_; clear F a; intro a F
   refine rl_guard_t F rfl rfl rfl h5b ?_
   refine rl_run F (run_lss (F.ev rfl) (F.ev rfl)) rfl ?_; clear F a; intro a F
   refine rl_guard_t F rfl rfl rfl h5b ?_
   refine rl_run F (run_move (F.ev rfl)) rfl ?_; clear F a; intro a F
   rcases Bool.eq_false_or_eq_true (decide ((x : Int) < 48)) with hc | hc
   ·skip
    have h6b := hc; clear hc
    have h6 : (x : Int) < 48 := of_decide_eq_true h6b
    iterate 2 (refine rl_guard_f F rfl rfl rfl h6b ?_; clear F a; intro a F)
    refine rl_guard_t F rfl rfl rfl h5b ?_
    refine rl_run F (run_pick_t (F.ev rfl) h6b (F.ev rfl)) rfl ?_; clear F a; intro a F
    refine rl_run F (run_pick_t (F.ev rfl) h5b (F.ev rfl)) rfl ?_; clear F a; intro a F
    refine rl_run F (run_assign (F.ev rfl)) rfl ?_; clear F a; intro a F
    refine rl_nil <| q_tn <| wp_ret <| fin1 F rfl rfl ?_
    exact ⟨by have h_ : badN x = true := (by unfold badN; first | (simp_all; omega) | simp_all); rw [h_], 0, rfl⟩
   ·skip
    have h7b := hc; clear hc
    have h7 : ¬ ((x : Int) < 48) := of_decide_eq_false h7b
    refine rl_guard_t F rfl rfl rfl h7b ?_
    refine rl_run F (run_move (F.ev rfl)) rfl ?_; clear F a; intro a F
    refine rl_guard_t F rfl rfl rfl h7b ?_
    refine rl_run F (run_gtr (F.ev rfl) (F.ev rfl)) rfl ?_; clear F a; intro a F
    refine rl_guard_t F rfl rfl rfl h5b ?_
    refine rl_run F (run_pick_f (F.ev rfl) h7b (F.ev rfl)) rfl ?_; clear F a; intro a F
    refine rl_run F (run_pick_t (F.ev rfl) h5b (F.ev rfl)) rfl ?_; clear F a; intro a F
    refine rl_run F (run_assign (F.ev rfl)) rfl ?_; clear F a; intro a F
    refine rl_nil <| q_tn <| wp_ret <| fin1 F rfl rfl ?_
    exact ⟨by have h_ : badN x = (decide (57 < (x : Int))) := (by unfold badN; first | (simp_all; omega) | simp_all); rw [h_], 0, rfl⟩
  ·skip
   have h8b := hc; clear hc
   have h8 : ¬ (122 < (x : Int)) := of_decide_eq_false h8b
   iterate 3 (refine rl_guard_f F rfl rfl rfl h8b ?_; clear F a; intro a F)
   iterate 2 (refine rl_guard_u F rfl rfl rfl ?_; clear F a; intro a F)
   refine rl_guard_f F rfl rfl rfl h8b ?_; clear F a; intro a F
   refine rl_run F (run_pick_f (F.ev rfl) h8b (F.ev rfl)) rfl ?_; clear F a; intro a F
   refine rl_run F (run_assign (F.ev rfl)) rfl ?_; clear F a; intro a F
   refine rl_nil <| q_tn <| wp_ret <| fin1 F rfl rfl ?_
   exact ⟨by have h_ : badN x = false := (by unfold badN; first | (simp_all; omega) | simp_all); rw [h_], 0, rfl⟩
theorem idxf_name1 {w0 w : World} {G : Ghost} {L : List Res} (M : Mem w0 G L w) {s : List UInt8} : Calls Tryd.prog 45 #[.string (str s), .func (.func 47) #[] #[]] w (RetS w0 G L fun v => ∃ z : Int, v = .int .i64 z ∧ (z < 0 ↔ ∀ c ∈ s, NameB c)) := by
 have hp : PredAt Tryd.prog 47 #[] encR badN w := fun W x _ => (name1_spec (x := x))
 refine (Any.strings_IndexFunc Tryd.laysGw15 47 #[] (Go.Proofs.enters_of Tryd.func47 (by kernel_rfl) rfl) badN (str s) w hp).mono ?_
 rintro e w' ⟨rfl, hb⟩
 exact ⟨M.below' hb, _, rfl, idx_name s⟩
theorem contf_name1 {w0 w : World} {G : Ghost} {L : List Res} (M : Mem w0 G L w) {s : List UInt8} : Calls Tryd.prog 24 #[.string (str s), .func (.func 47) #[] #[]] w (RetS w0 G L fun v => ∃ b : Bool, v = .bool b ∧ (b = true ↔ ¬ ∀ c ∈ s, NameB c)) := by
 refine calls_start (vs := [_, _]) Tryd.func24 rfl (n := 9) rfl rfl ?_
 intro a F
 refine wp_seq <| w_reg <| rl_run F (run_assign (F.ev rfl)) rfl ?_; clear F a; intro a F
 refine rl_nil <| q_tn <| wp_seq <| w_reg ?_
 iterate 2 (refine rl_run F (run_move (F.ev rfl)) rfl ?_; clear F a; intro a F)
 refine rl_callS F ent45 rfl rfl (idxf_name1 (s := s) M) ?_; clear F M a; rintro _ w a M ⟨z1, rfl, hz1⟩ F
 refine rl_run F (run_geq (F.ev rfl) (F.ev rfl)) rfl ?_; clear F a; intro a F
 refine rl_run F (run_assign (F.ev rfl)) rfl ?_; clear F a; intro a F
 refine rl_nil <| q_tn <| wp_ret <| fin1 F rfl rfl ?_
 exact ⟨M, _, rfl, by rw [decide_eq_true_iff, ← hz1]; omega⟩
theorem name_spec {w0 w : World} {G : Ghost} {L : List Res} (M : Mem w0 G L w) {s : List UInt8} (hs : s.length ≤ 9223372036854775807) : Calls Tryd.prog 29 #[.string (str s)] w (RetS w0 G L fun v => ∃ b : Bool, v = .bool b ∧ (b = true ↔ Name s)) := by
 refine calls_start (vs := [_]) Tryd.func29 rfl (n := 17) rfl rfl ?_
 intro a F
 refine wp_seq <| w_reg <| rl_run F (run_assign (F.ev rfl)) rfl ?_; clear F a; intro a F
 refine rl_nil <| q_tn <| wp_seq <| w_reg <| rl_run F (run_assign (F.ev rfl)) rfl ?_; clear F a; intro a F
 refine rl_nil <| q_tn <| wp_seq ?_
 have hs0 : s = [] ↔ s.length = 0 := by cases s <;> simp
 refine w_reg <| rl_run F (run_move (F.ev rfl)) rfl ?_; clear F a; intro a F
 refine rl_run F (run_strNe (F.ev rfl) (F.ev rfl)) rfl ?_; clear F a; intro a F
 refine rl_run F (run_move (F.ev rfl)) rfl ?_; clear F a; intro a F
 rcases Bool.eq_false_or_eq_true (!(decide (s = ([] : List UInt8)))) with hc | hc
 ·skip
  have h1b := hc; clear hc
  have h1 : ¬ (s = ([] : List UInt8)) := of_decide_eq_false (of_not_t h1b)
  have h1c : (decide (s = ([] : List UInt8))) = false := (of_not_t h1b)
  refine rl_guard_t F rfl rfl rfl (not_t h1c) ?_
  refine rl_run F (run_move (F.ev rfl)) rfl ?_; clear F a; intro a F
  refine rl_guard_t F rfl rfl rfl (not_t h1c) ?_
  refine rl_run F (run_lenStr tok9.k (F.ev rfl)) rfl ?_; clear F a; intro a F
  refine rl_guard_t F rfl rfl rfl (not_t h1c) ?_
  refine rl_run F (run_leq (F.ev rfl) (F.ev rfl)) rfl ?_; clear F a; intro a F
  refine rl_run F (run_pick_t (F.ev rfl) (not_t h1c) (F.ev rfl)) rfl ?_; clear F a; intro a F
  refine rl_run F (run_move (F.ev rfl)) rfl ?_; clear F a; intro a F
  rcases Bool.eq_false_or_eq_true (decide ((((s).length : Nat) : Int) ≤ 16)) with hc | hc
  ·skip
   have h2b := hc; clear hc
   have h2 : (((s).length : Nat) : Int) ≤ 16 := of_decide_eq_true h2b
   refine rl_guard_t F rfl rfl rfl h2b ?_
   refine rl_run F (run_move (F.ev rfl)) rfl ?_; clear F a; intro a F
   refine rl_guard_t F rfl rfl rfl h2b ?_
   refine rl_run F (run_move (F.ev rfl)) rfl ?_; clear F a; intro a F
   refine rl_guard_t F rfl rfl rfl h2b ?_
   refine rl_callS F ent24 rfl rfl (contf_name1 (s := s) M) ?_; clear F M a; rintro _ w a M ⟨b3, rfl, hb3⟩ F
   refine rl_guard_t F rfl rfl rfl h2b ?_
   refine rl_run F (run_not (F.ev rfl)) rfl ?_; clear F a; intro a F
   refine rl_run F (run_pick_t (F.ev rfl) h2b (F.ev rfl)) rfl ?_; clear F a; intro a F
   refine rl_run F (run_assign (F.ev rfl)) rfl ?_; clear F a; intro a F
   refine rl_nil <| q_tn <| wp_ret <| fin1 F rfl rfl ?_
   exact ⟨M, (!(b3)), rfl, (by clear F M; unfold Name; grind)⟩
  ·skip
   have h4b := hc; clear hc
   have h4 : ¬ ((((s).length : Nat) : Int) ≤ 16) := of_decide_eq_false h4b
   iterate 4 (refine rl_guard_f F rfl rfl rfl h4b ?_; clear F a; intro a F)
   refine rl_run F (run_pick_f (F.ev rfl) h4b (F.ev rfl)) rfl ?_; clear F a; intro a F
   refine rl_run F (run_assign (F.ev rfl)) rfl ?_; clear F a; intro a F
   refine rl_nil <| q_tn <| wp_ret <| fin1 F rfl rfl ?_
   exact ⟨M, false, rfl, (by clear F M; unfold Name; grind)⟩
 ·skip
  have h5b := hc; clear hc
  have h5 : s = ([] : List UInt8) := of_decide_eq_true (of_not_f h5b)
  have h5c : (decide (s = ([] : List UInt8))) = true := (of_not_f h5b)
  iterate 3 (refine rl_guard_f F rfl rfl rfl (not_f h5c) ?_; clear F a; intro a F)
  refine rl_run F (run_pick_f (F.ev rfl) (not_f h5c) (F.ev rfl)) rfl ?_; clear F a; intro a F
  refine rl_run F (run_move (F.ev rfl)) rfl ?_; clear F a; intro a F
  iterate 4 (refine rl_guard_f F rfl rfl rfl rfl ?_; clear F a; intro a F)
  refine rl_run F (run_pick_f (F.ev rfl) rfl (F.ev rfl)) rfl ?_; clear F a; intro a F
  refine rl_run F (run_assign (F.ev rfl)) rfl ?_; clear F a; intro a F
  refine rl_nil <| q_tn <| wp_ret <| fin1 F rfl rfl ?_
  exact ⟨M, false, rfl, (by clear F M; unfold Name; grind)⟩
end Go.Proofs.YtmmhmcplegpenaaDoor
