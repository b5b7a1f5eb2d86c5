/- The walks, part U. -/
import Derived.Test.YtokeofoemjeleaaDoorWalkT
import Derived.Test.YtokeofoemjeleaaDoorMrg
import Derived.Test.YtokeofoemjeleaaDoorYB
namespace Go.Proofs.YtokeofoemjeleaaDoor
open Go Go.Y Go.Proofs
set_option linter.unusedSimpArgs false
set_option linter.unusedVariables false
theorem find_spec {w0 w : World} {G : Ghost} {L : List Res} (M : Mem w0 G L w) {ad : Option Addr} {c : Nat} {xs : List PairD} (S : RdSl rdPair 2 G (.slice ad xs.length c) xs) (hxs : xs.length ≤ 9223372036854775807) {key : Int} :
    Calls Tryd.prog 20 #[.slice ad xs.length c, .int .u64 key] w (RetS w0 G L fun v => v = .tuple #[.int .i64 (findV xs key).1, .bool (findV xs key).2]) := by
  refine calls_start (vs := [_, _]) Tryd.func20 rfl (n := 21) rfl rfl ?_
  intro a F
  refine wp_seq ?_
  refine w_reg ?_
  refine rl_run F (run_assign (F.ev rfl)) rfl ?_; clear F a; intro a F
  refine rl_run F (run_assign (F.ev rfl)) rfl ?_; clear F a; intro a F
  refine rl_nil ?_
  refine q_tn ?_
  refine wp_seq ?_
  refine wp_seq ?_
  refine w_reg ?_
  refine rl_run F (run_move (F.ev rfl)) rfl ?_; clear F a; intro a F
  refine rl_run F (run_lenSl tok22.k (F.ev rfl)) rfl ?_; clear F a; intro a F
  refine rl_run F (run_move (F.ev rfl)) rfl ?_; clear F a; intro a F
  refine rl_nil ?_
  refine q_tn ?_
  refine wp_block ?_
  refine w_loopN (fun m a' w' => ∃ (i : Nat), m = xs.length - i ∧ Fits 21 a' [(1, .int .u64 (key)), (8, .slice (ad) (xs.length) (c)), (9, .int .i64 (((xs.length : Nat) : Int))), (10, .int .i64 (((i : Nat) : Int)))] ∧ Mem w0 G (L) w' ∧ (i ≤ xs.length) ∧ (xs.find? (keyIs key) = (xs.drop i).find? (keyIs key))) _ ⟨0, rfl, F.to ⟨rfl, rfl, rfl, rfl, trivial⟩, M, Nat.zero_le _, rfl⟩ ?_
  clear F M
  rintro m a w ⟨i, rfl, F, M, hi, hf⟩
  refine wp_seq ?_
  refine w_reg ?_
  refine rl_run F (run_lss (F.ev rfl) (F.ev rfl)) rfl ?_; clear F a; intro a F
  refine rl_nil ?_
  refine q_tn ?_
  refine wp_seq ?_
  refine w_cond F rfl ?_ ?_
  · intro hc
    have h1b := hc; clear hc
    have h1 : ((i : Nat) : Int) < ((xs.length : Nat) : Int) := of_decide_eq_true h1b
    refine wp_skip ?_
    refine q_tn ?_
    refine wp_seq ?_
    refine wp_block ?_
    refine wp_seq ?_
    refine w_reg ?_
    obtain ⟨Xe2, hXe2⟩ := get_of_lt (xs := xs) (i := i) (by omega)
    obtain ⟨be2, oe2, _, Ie2, _, Ae2, ⟨rfl, hbe21, hbe22⟩⟩ := S.at hXe2
    refine rl_run F (run_indexI tok22.k tok39 (F.ev rfl) (F.ev rfl) (by omega) Ie2) rfl ?_; clear F a; intro a F
    refine rl_run F (run_loadA tok39 rfl (F.ev rfl) (cs := [.int .u64 (Xe2.key), .int .i64 (Xe2.v)]) rfl (M.cellsA Ae2 0 (by omega) rfl)) rfl ?_; clear F a; intro a F
    refine rl_alloc F M tok39 rfl rfl ?_; clear F M a; intro b3 w a M F
    refine rl_storeA F M tok39 (k := 0) rfl rfl rfl (us := [.int .u64 (Xe2.key), .int .i64 (Xe2.v)]) rfl rfl (by simp [Value.oneCell']) (by simp) ?_; clear F M a; intro w a M F
    refine rl_nil ?_
    refine q_tn ?_
    refine wp_seq ?_
    refine w_reg ?_
    refine rl_run F (run_fieldAddr tok39.k rfl rfl (F.ev rfl)) rfl ?_; clear F a; intro a F
    refine rl_run F (run_load1 (agf tok37 rfl) (F.ev rfl) (M.cellL (k := 0) rfl rfl)) rfl ?_; clear F a; intro a F
    refine rl_run F (run_move (F.ev rfl)) rfl ?_; clear F a; intro a F
    refine rl_run F (run_eqi (F.ev rfl) (F.ev rfl)) rfl ?_; clear F a; intro a F
    refine rl_nil ?_
    refine q_tn ?_
    refine w_cond F rfl ?_ ?_
    · intro hc
      have h5b := hc; clear hc
      have h5 : Xe2.key = key := of_decide_eq_true h5b
      refine wp_seq ?_
      refine w_reg ?_
      refine rl_run F (run_fieldAddr tok39.k rfl rfl (F.ev rfl)) rfl ?_; clear F a; intro a F
      refine rl_run F (run_load1 (agf tok2 rfl) (F.ev rfl) (M.cellL (k := 0) rfl rfl)) rfl ?_; clear F a; intro a F
      refine rl_run F (run_assign (F.ev rfl)) rfl ?_; clear F a; intro a F
      refine rl_run F (run_assign (F.ev rfl)) rfl ?_; clear F a; intro a F
      refine rl_nil ?_
      refine q_tn ?_
      refine wp_ret ?_
      refine q_br ?_
      refine q_tr ?_
      refine q_tr ?_
      refine q_br ?_
      refine q_tr ?_
      refine fin2 F rfl rfl rfl ?_
      exact ⟨M.weaken (.cons _ (List.Sublist.refl _)), by rw [(find_step hf hXe2).1 (by assumption)]⟩
    · intro hc
      have h6b := hc; clear hc
      have h6 : ¬ (Xe2.key = key) := of_decide_eq_false h6b
      refine wp_skip ?_
      refine q_bn ?_
      refine q_tn ?_
      refine w_reg ?_
      refine rl_run F (run_addi (F.ev rfl) (F.ev rfl) (in_i64 (by omega) (by omega))) rfl ?_; clear F a; intro a F
      refine rl_run F (run_move (F.ev rfl)) rfl ?_; clear F a; intro a F
      refine rl_nil ?_
      refine q_tn ?_
      exact ⟨_, by omega, i + 1, rfl, F.to ⟨rfl, rfl, rfl, rfl, trivial⟩, (M.weaken (.cons _ (List.Sublist.refl _))), by omega, (find_step hf hXe2).2 (by assumption)⟩
  · intro hc
    have h7b := hc; clear hc
    have h7 : ¬ (((i : Nat) : Int) < ((xs.length : Nat) : Int)) := of_decide_eq_false h7b
    refine wp_exit ?_
    refine q_te ?_
    refine q_te ?_
    refine q_bh ?_
    refine q_tn ?_
    refine wp_seq ?_
    refine w_reg ?_
    refine rl_run F (run_assign (F.ev rfl)) rfl ?_; clear F a; intro a F
    refine rl_run F (run_assign (F.ev rfl)) rfl ?_; clear F a; intro a F
    refine rl_nil ?_
    refine q_tn ?_
    refine wp_ret ?_
    refine fin2 F rfl rfl rfl ?_
    exact ⟨M, by rw [find_end hf (by omega)]⟩

theorem rat_spec {w0 w : World} {G : Ghost} {L : List Res} (M : Mem w0 G L w) {ad : Option Addr} {c : Nat} {xs : List PairD} (S : RdSl rdPair 2 G (.slice ad xs.length c) xs) (hxs : xs.length ≤ 9223372036854775807) {key : Int} :
    Calls Tryd.prog 21 #[.slice ad xs.length c, .int .u64 key] w (RetS w0 G L fun v => ∃ z, v = .int .i64 z ∧ AtR xs key z) := by
  refine calls_start (vs := [_, _]) Tryd.func21 rfl (n := 20) rfl rfl ?_
  intro a F
  refine wp_seq ?_
  refine w_reg ?_
  refine rl_run F (run_assign (F.ev rfl)) rfl ?_; clear F a; intro a F
  refine rl_nil ?_
  refine q_tn ?_
  refine wp_seq ?_
  refine wp_seq ?_
  refine w_reg ?_
  refine rl_run F (run_assign (F.ev rfl)) rfl ?_; clear F a; intro a F
  refine rl_nil ?_
  refine q_tn ?_
  refine wp_block ?_
  refine w_loopN (fun m a' w' => ∃ (i : Nat), m = xs.length - i ∧ Fits 20 a' [(0, .slice (ad) (xs.length) (c)), (1, .int .u64 (key)), (5, .int .i64 (((i : Nat) : Int)))] ∧ Mem w0 G (L) w' ∧ (i ≤ xs.length) ∧ (∀ (m : Nat) (Y : PairD), m < i → xs[m]? = some Y → Y.key ≠ key)) _ ⟨0, rfl, F.to ⟨rfl, rfl, rfl, trivial⟩, M, Nat.zero_le _, fun m Y h => by omega⟩ ?_
  clear F M
  rintro m a w ⟨i, rfl, F, M, hi, hf⟩
  refine wp_seq ?_
  refine wp_seq ?_
  refine w_reg ?_
  refine rl_run F (run_move (F.ev rfl)) rfl ?_; clear F a; intro a F
  refine rl_run F (run_move (F.ev rfl)) rfl ?_; clear F a; intro a F
  refine rl_run F (run_lenSl tok22.k (F.ev rfl)) rfl ?_; clear F a; intro a F
  refine rl_run F (run_lss (F.ev rfl) (F.ev rfl)) rfl ?_; clear F a; intro a F
  refine rl_nil ?_
  refine q_tn ?_
  refine w_cond F rfl ?_ ?_
  · intro hc
    have h1b := hc; clear hc
    have h1 : ((i : Nat) : Int) < ((xs.length : Nat) : Int) := of_decide_eq_true h1b
    refine wp_skip ?_
    refine q_tn ?_
    refine wp_seq ?_
    refine wp_block ?_
    refine wp_seq ?_
    refine w_reg ?_
    refine rl_run F (run_move (F.ev rfl)) rfl ?_; clear F a; intro a F
    refine rl_run F (run_move (F.ev rfl)) rfl ?_; clear F a; intro a F
    obtain ⟨Xe2, hXe2⟩ := get_of_lt (xs := xs) (i := i) (by omega)
    obtain ⟨be2, oe2, _, Ie2, _, Ae2, ⟨rfl, hbe21, hbe22⟩⟩ := S.at hXe2
    refine rl_run F (run_indexI tok22.k tok39 (F.ev rfl) (F.ev rfl) (by omega) Ie2) rfl ?_; clear F a; intro a F
    refine rl_run F (run_fieldAddr tok39.k rfl rfl (F.ev rfl)) rfl ?_; clear F a; intro a F
    refine rl_run F (run_load1 (agf tok37 rfl) (F.ev rfl) (M.cellA Ae2 0 rfl rfl)) rfl ?_; clear F a; intro a F
    refine rl_run F (run_move (F.ev rfl)) rfl ?_; clear F a; intro a F
    refine rl_run F (run_eqi (F.ev rfl) (F.ev rfl)) rfl ?_; clear F a; intro a F
    refine rl_nil ?_
    refine q_tn ?_
    refine w_cond F rfl ?_ ?_
    · intro hc
      have h3b := hc; clear hc
      have h3 : Xe2.key = key := of_decide_eq_true h3b
      refine wp_seq ?_
      refine w_reg ?_
      refine rl_run F (run_move (F.ev rfl)) rfl ?_; clear F a; intro a F
      refine rl_run F (run_assign (F.ev rfl)) rfl ?_; clear F a; intro a F
      refine rl_nil ?_
      refine q_tn ?_
      refine wp_ret ?_
      refine q_br ?_
      refine q_tr ?_
      refine q_tr ?_
      refine q_br ?_
      refine q_tr ?_
      refine fin1 F rfl rfl ?_
      exact ⟨M, _, rfl, Or.inl ⟨_, _, rfl, hXe2, by assumption, hf⟩⟩
    · intro hc
      have h4b := hc; clear hc
      have h4 : ¬ (Xe2.key = key) := of_decide_eq_false h4b
      refine wp_skip ?_
      refine q_bn ?_
      refine q_tn ?_
      refine w_reg ?_
      refine rl_run F (run_move (F.ev rfl)) rfl ?_; clear F a; intro a F
      refine rl_run F (run_addi (F.ev rfl) (F.ev rfl) (in_i64 (by omega) (by omega))) rfl ?_; clear F a; intro a F
      refine rl_run F (run_assign (F.ev rfl)) rfl ?_; clear F a; intro a F
      refine rl_nil ?_
      refine q_tn ?_
      exact ⟨_, by omega, i + 1, rfl, F.to ⟨rfl, rfl, rfl, trivial⟩, M, by omega, none_stepK hf hXe2 (by assumption)⟩
  · intro hc
    have h5b := hc; clear hc
    have h5 : ¬ (((i : Nat) : Int) < ((xs.length : Nat) : Int)) := of_decide_eq_false h5b
    refine wp_exit ?_
    refine q_te ?_
    refine q_te ?_
    refine q_bh ?_
    refine q_tn ?_
    refine wp_seq ?_
    refine w_reg ?_
    refine rl_run F (run_assign (F.ev rfl)) rfl ?_; clear F a; intro a F
    refine rl_nil ?_
    refine q_tn ?_
    refine wp_ret ?_
    refine fin1 F rfl rfl ?_
    exact ⟨M, _, rfl, Or.inr ⟨rfl, fun m Y h => hf m Y (by have := lt_of_get h; omega) h⟩⟩

theorem clip_spec {w0 w : World} {G : Ghost} {L : List Res} (M : Mem w0 G L w) {n c : Nat} {ad : Option Addr} (h : n ≤ c) (hc : c ≤ 9223372036854775807) :
    Calls Tryd.prog 31 #[.slice ad n c] w (RetS w0 G L fun v => v = .slice ad n n) := by
  refine calls_start (vs := [_]) Tryd.func31 rfl (n := 9) rfl rfl ?_
  intro a F
  refine wp_seq ?_
  refine w_reg ?_
  refine rl_run F (run_assign (F.ev rfl)) rfl ?_; clear F a; intro a F
  refine rl_nil ?_
  refine q_tn ?_
  refine wp_seq ?_
  refine w_reg ?_
  refine rl_run F (run_move (F.ev rfl)) rfl ?_; clear F a; intro a F
  refine rl_run F (run_move (F.ev rfl)) rfl ?_; clear F a; intro a F
  refine rl_run F (run_lenSl tok22.k (F.ev rfl)) rfl ?_; clear F a; intro a F
  refine rl_run F (run_move (F.ev rfl)) rfl ?_; clear F a; intro a F
  refine rl_run F (run_lenSl tok22.k (F.ev rfl)) rfl ?_; clear F a; intro a F
  refine rl_run F (run_slice3 (h := n) (q := n) tok22.k tok39 (F.ev rfl) (F.ev rfl) (by omega) (F.ev rfl) (by omega) (by omega) (by omega)) rfl ?_; clear F a; intro a F
  refine rl_run F (run_assign (F.ev rfl)) rfl ?_; clear F a; intro a F
  refine rl_nil ?_
  refine q_tn ?_
  refine wp_ret ?_
  refine fin1 F rfl rfl ?_
  exact ⟨M, rfl⟩

theorem clone_spec {w0 w : World} {G : Ghost} {L : List Res} (M : Mem w0 G L w) {ad : Option Addr} {c : Nat} {xs : List PairD} (S : RdSl rdPair 2 G (.slice ad xs.length c) xs) (hxs : xs.length ≤ 9223372036854775807) (hlen : xs.length ≤ 1000000) :
    Calls Tryd.prog 27 #[.slice ad xs.length c] w (RetL w0 G fun L' v => ∃ a' n' c' cs', v = .slice a' n' c' ∧ L' = (.row (.slice a' n' c') n' cs' 39 2 :: L) ∧ n' = xs.length ∧ Els rdPair 2 G cs' xs) := by
  refine calls_start (vs := [_]) Tryd.func27 rfl (n := 8) rfl rfl ?_
  intro a F
  refine wp_seq ?_
  refine w_reg ?_
  refine rl_run F (run_assign (F.ev rfl)) rfl ?_; clear F a; intro a F
  refine rl_nil ?_
  refine q_tn ?_
  refine wp_seq ?_
  refine wp_seq ?_
  refine w_reg ?_
  refine rl_run F (run_move (F.ev rfl)) rfl ?_; clear F a; intro a F
  refine rl_run F (run_eqnilS tok22.k (F.ev rfl) (F.ev rfl)) rfl ?_; clear F a; intro a F
  refine rl_nil ?_
  refine q_tn ?_
  refine w_cond F rfl ?_ ?_
  · intro hc
    have h1b := hc; clear hc
    have h1 : ((ad).isNone) = true := h1b
    refine wp_seq ?_
    refine w_reg ?_
    refine rl_run F (run_assign (F.ev rfl)) rfl ?_; clear F a; intro a F
    refine rl_nil ?_
    refine q_tn ?_
    refine wp_ret ?_
    refine q_tr ?_
    refine fin1 F rfl rfl ?_
    have h0 := S.nilz (by assumption)
    exact ⟨_, M.nilrow 39 2, none, 0, 0, [], rfl, rfl, by rw [h0]; rfl, by rw [h0]; exact Els.nil⟩
  · intro hc
    have h2b := hc; clear hc
    have h2 : ((ad).isNone) = false := h2b
    refine wp_skip ?_
    refine q_tn ?_
    refine wp_seq ?_
    refine w_reg ?_
    refine rl_buildSlice0 F M tok22.k tok39 rfl ?_; clear F M a; intro v3 w a M F
    obtain ⟨av3, cv3, rfl, hlev3, hcmv3, hlv3⟩ := M.row_shape (k := 0) rfl
    refine rl_run F (run_move (F.ev rfl)) rfl ?_; clear F a; intro a F
    refine rl_append F M (k := 0) rfl tok22.k tok39 rfl rfl (by decide) rfl S rfl (by show _ * 16 ≤ _; (try simp only [List.length_drop, List.length_take, List.length_append, List.length_cons, List.length_nil]); omega) (by (try simp only [List.length_drop, List.length_take, List.length_append, List.length_cons, List.length_nil]); omega) rfl ?_; clear F M a; intro v4 csv4 w a M Ev4 F
    have Ev4 := Els.append Els.nil Ev4
    obtain ⟨av4, cv4, rfl, hlev4, hcmv4, hlv4⟩ := M.row_shape (k := 0) rfl
    refine rl_run F (run_assign (F.ev rfl)) rfl ?_; clear F a; intro a F
    refine rl_nil ?_
    refine q_tn ?_
    refine wp_ret ?_
    refine fin1 F rfl rfl ?_
    change Mem w0 G (.row (.slice (av4) (0 + xs.length) (cv4)) (0 + xs.length) (([]) ++ csv4) 39 2 :: L) _ at M
    simp only [Nat.zero_add, List.nil_append] at M ⊢
    exact ⟨_, M, _, _, _, _, rfl, rfl, rfl, by have h := Ev4; simp only [List.nil_append] at h; exact h⟩

theorem same_spec {w0 w : World} {G : Ghost} {L : List Res} (M : Mem w0 G L w) {ad : Option Addr} {xs : List PairD} (S : RdSl rdPair 2 G (.slice ad xs.length xs.length) xs) {aw : Option Addr} {cw : Nat} (Sw : RdSl rdPair 2 G (.slice aw xs.length cw) xs) (hxs : xs.length ≤ 9223372036854775807) :
    Calls Tryd.prog 15 #[.slice ad xs.length xs.length, .slice aw xs.length cw] w (RetS w0 G L fun v => v = .bool true) := by
  refine calls_start (vs := [_, _]) Tryd.func15 rfl (n := 33) rfl rfl ?_
  intro a F
  refine wp_seq ?_
  refine w_reg ?_
  refine rl_run F (run_assign (F.ev rfl)) rfl ?_; clear F a; intro a F
  refine rl_nil ?_
  refine q_tn ?_
  refine wp_seq ?_
  refine wp_seq ?_
  refine w_reg ?_
  refine rl_run F (run_move (F.ev rfl)) rfl ?_; clear F a; intro a F
  refine rl_run F (run_lenSl tok22.k (F.ev rfl)) rfl ?_; clear F a; intro a F
  refine rl_run F (run_move (F.ev rfl)) rfl ?_; clear F a; intro a F
  refine rl_run F (run_lenSl tok22.k (F.ev rfl)) rfl ?_; clear F a; intro a F
  refine rl_run F (run_nei (F.ev rfl) (F.ev rfl)) rfl ?_; clear F a; intro a F
  refine rl_run F (run_move (F.ev rfl)) rfl ?_; clear F a; intro a F
  have hg1 : (!(decide (((xs.length : Nat) : Int) = ((xs.length : Nat) : Int)))) = false := (not_f (decide_eq_true (by omega)))
  refine rl_guard_t F rfl rfl rfl hg1 ?_
  refine rl_run F (run_move (F.ev rfl)) rfl ?_; clear F a; intro a F
  refine rl_guard_t F rfl rfl rfl hg1 ?_
  refine rl_run F (run_capSl tok22.k (F.ev rfl)) rfl ?_; clear F a; intro a F
  refine rl_guard_t F rfl rfl rfl hg1 ?_
  refine rl_run F (run_move (F.ev rfl)) rfl ?_; clear F a; intro a F
  refine rl_guard_t F rfl rfl rfl hg1 ?_
  refine rl_run F (run_lenSl tok22.k (F.ev rfl)) rfl ?_; clear F a; intro a F
  refine rl_guard_t F rfl rfl rfl hg1 ?_
  refine rl_run F (run_nei (F.ev rfl) (F.ev rfl)) rfl ?_; clear F a; intro a F
  refine rl_run F (run_pick_f (F.ev rfl) hg1 (F.ev rfl)) rfl ?_; clear F a; intro a F
  refine rl_nil ?_
  refine q_tn ?_
  refine w_cond_f F rfl (not_f (decide_eq_true (by omega))) ?_
  refine wp_skip ?_
  refine q_tn ?_
  refine wp_seq ?_
  refine wp_seq ?_
  refine w_reg ?_
  refine rl_run F (run_assign (F.ev rfl)) rfl ?_; clear F a; intro a F
  refine rl_nil ?_
  refine q_tn ?_
  refine wp_block ?_
  refine w_loopN (fun m a' w' => ∃ (i : Nat), m = xs.length - i ∧ Fits 33 a' [(0, .slice (ad) (xs.length) (xs.length)), (1, .slice (aw) (xs.length) (cw)), (5, .int .i64 (((i : Nat) : Int)))] ∧ Mem w0 G (L) w' ∧ (i ≤ xs.length)) _ ⟨0, rfl, F.to ⟨rfl, rfl, rfl, trivial⟩, M, Nat.zero_le _⟩ ?_
  clear F M
  rintro m a w ⟨i, rfl, F, M, hi⟩
  refine wp_seq ?_
  refine wp_seq ?_
  refine w_reg ?_
  refine rl_run F (run_move (F.ev rfl)) rfl ?_; clear F a; intro a F
  refine rl_run F (run_move (F.ev rfl)) rfl ?_; clear F a; intro a F
  refine rl_run F (run_lenSl tok22.k (F.ev rfl)) rfl ?_; clear F a; intro a F
  refine rl_run F (run_lss (F.ev rfl) (F.ev rfl)) rfl ?_; clear F a; intro a F
  refine rl_nil ?_
  refine q_tn ?_
  refine w_cond F rfl ?_ ?_
  · intro hc
    have h2b := hc; clear hc
    have h2 : ((i : Nat) : Int) < ((xs.length : Nat) : Int) := of_decide_eq_true h2b
    refine wp_skip ?_
    refine q_tn ?_
    refine wp_seq ?_
    refine wp_block ?_
    refine wp_seq ?_
    refine w_plan [(true, 0), (true, 1), (true, 2), (true, 3), (true, 4), (true, 5), (true, 6), (true, 7), (true, 8)] (Keep G []) rfl (by kernel_rfl) (fun c a d v w h => by cases d <;> exact h) ((M.drew _).keep (Gle.refl _) (by simp)) ?_
    replace M := M.drew (w.drawn + 1)
    refine pl_run F (fun w M => run_move (F.ev rfl)) rfl ?_; clear F a; intro a F
    refine pl_run F (fun w M => run_move (F.ev rfl)) rfl ?_; clear F a; intro a F
    obtain ⟨Xe3, hXe3⟩ := get_of_lt (xs := xs) (i := i) (by omega)
    obtain ⟨be3, oe3, _, Ie3, _, Ae3, ⟨rfl, hbe31, hbe32⟩⟩ := S.at hXe3
    refine pl_run F (fun w M => run_indexI tok22.k tok39 (F.ev rfl) (F.ev rfl) (by omega) Ie3) rfl ?_; clear F a; intro a F
    refine pl_run F (fun w M => run_loadA tok39 rfl (F.ev rfl) (cs := [.int .u64 (Xe3.key), .int .i64 (Xe3.v)]) rfl (M.cellsA Ae3 0 (by omega) rfl)) rfl ?_; clear F a; intro a F
    refine pl_run F (fun w M => run_move (F.ev rfl)) rfl ?_; clear F a; intro a F
    refine pl_run F (fun w M => run_move (F.ev rfl)) rfl ?_; clear F a; intro a F
    obtain ⟨be4, oe4, _, Ie4, _, Ae4, ⟨rfl, hbe41, hbe42⟩⟩ := Sw.at hXe3
    refine pl_run F (fun w M => run_indexI tok22.k tok39 (F.ev rfl) (F.ev rfl) (by omega) Ie4) rfl ?_; clear F a; intro a F
    refine pl_run F (fun w M => run_loadA tok39 rfl (F.ev rfl) (cs := [.int .u64 (Xe3.key), .int .i64 (Xe3.v)]) rfl (M.cellsA Ae4 0 (by omega) rfl)) rfl ?_; clear F a; intro a F
    refine pl_run F (fun w M => run_ne2 (t1 := 37) (t2 := 2) (by kernel_rfl) (by kernel_rfl) (by kernel_rfl) (by kernel_rfl) tok37.k tok2.k (F.ev rfl) (F.ev rfl)) rfl ?_; clear F a; intro a F
    refine pl_nil ?_
    generalize ({ w with drawn := w.drawn + 1 } : World) = w at M ⊢
    refine q_tn ?_
    refine w_cond_f F rfl (not_f (decide_eq_true (by exact ⟨rfl, rfl⟩))) ?_
    refine wp_skip ?_
    refine q_bn ?_
    refine q_tn ?_
    refine w_reg ?_
    refine rl_run F (run_move (F.ev rfl)) rfl ?_; clear F a; intro a F
    refine rl_run F (run_addi (F.ev rfl) (F.ev rfl) (in_i64 (by omega) (by omega))) rfl ?_; clear F a; intro a F
    refine rl_run F (run_assign (F.ev rfl)) rfl ?_; clear F a; intro a F
    refine rl_nil ?_
    refine q_tn ?_
    exact ⟨_, by omega, i + 1, rfl, F.to ⟨rfl, rfl, rfl, trivial⟩, M, by omega⟩
  · intro hc
    have h5b := hc; clear hc
    have h5 : ¬ (((i : Nat) : Int) < ((xs.length : Nat) : Int)) := of_decide_eq_false h5b
    refine wp_exit ?_
    refine q_te ?_
    refine q_te ?_
    refine q_bh ?_
    refine q_tn ?_
    refine wp_seq ?_
    refine w_reg ?_
    refine rl_run F (run_assign (F.ev rfl)) rfl ?_; clear F a; intro a F
    refine rl_nil ?_
    refine q_tn ?_
    refine wp_ret ?_
    refine fin1 F rfl rfl ?_
    exact ⟨M, rfl⟩

theorem of_spec {w0 w : World} {G : Ghost} {L : List Res} (M : Mem w0 G L w) {ad : Option Addr} {c : Nat} {xs : List Int} (S : RdSl rdI 1 G (.slice ad xs.length c) xs) (hxs : xs.length ≤ 10000) (hpos : ∀ x ∈ xs, 0 ≤ x) :
    Calls Tryd.prog 24 #[.slice ad xs.length c] w (Ret w0 G L fun G' v => ∃ a' c', v = .slice a' (ofI xs).length c' ∧ RdSl rdPair 2 G' (.slice a' (ofI xs).length c') (ofI xs)) := by
  refine calls_start (vs := [_]) Tryd.func24 rfl (n := 27) rfl rfl ?_
  intro a F
  refine wp_seq ?_
  refine w_reg ?_
  refine rl_run F (run_assign (F.ev rfl)) rfl ?_; clear F a; intro a F
  refine rl_nil ?_
  refine q_tn ?_
  refine wp_seq ?_
  refine w_reg ?_
  refine rl_run F (run_assign (F.ev rfl)) rfl ?_; clear F a; intro a F
  refine rl_nil ?_
  refine q_tn ?_
  refine wp_seq ?_
  refine wp_seq ?_
  refine w_reg ?_
  refine rl_run F (run_assign (F.ev rfl)) rfl ?_; clear F a; intro a F
  refine rl_nil ?_
  refine q_tn ?_
  refine wp_block ?_
  have M := M.nilrow 39 2
  refine w_loopN (fun m a' w' => ∃ (j : Nat), ∃ (ys : List PairD), ∃ (ay : Option Addr), ∃ (ny : Nat), ∃ (cy : Nat), ∃ (csy : List Value), m = xs.length - 2 * j ∧ Fits 27 a' [(0, .slice (ad) (xs.length) (c)), (3, .slice (ay) (ny) (cy)), (4, .int .i64 (((2 * j : Nat) : Int)))] ∧ Mem w0 G (.row (.slice (ay) (ny) (cy)) (ny) (csy) 39 2 :: L) w' ∧ (2 * j ≤ xs.length + 1 ∧ ys.length = j) ∧ (ys ++ ofI (xs.drop (2 * j)) = ofI xs) ∧ (ny = (ys).length) ∧ (Els rdPair 2 G csy (ys))) _ ⟨0, [], (none), (0), (0), ([]), rfl, F.to ⟨rfl, rfl, rfl, trivial⟩, M, by simp, by simp, rfl, Els.nil⟩ ?_
  clear F M
  rintro m a w ⟨j, ys, ay, ny, cy, csy, rfl, F, M, hj, hj2, hny, Ey⟩
  refine wp_seq ?_
  refine wp_seq ?_
  refine w_reg ?_
  refine rl_run F (run_move (F.ev rfl)) rfl ?_; clear F a; intro a F
  refine rl_run F (run_addi (F.ev rfl) (F.ev rfl) (in_i64 (by omega) (by omega))) rfl ?_; clear F a; intro a F
  refine rl_run F (run_move (F.ev rfl)) rfl ?_; clear F a; intro a F
  refine rl_run F (run_lenSl tok90.k (F.ev rfl)) rfl ?_; clear F a; intro a F
  refine rl_run F (run_lss (F.ev rfl) (F.ev rfl)) rfl ?_; clear F a; intro a F
  refine rl_nil ?_
  refine q_tn ?_
  refine w_cond F rfl ?_ ?_
  · intro hc
    have h1b := hc; clear hc
    have h1 : (((2 * j : Nat) : Int)) + 1 < ((xs.length : Nat) : Int) := of_decide_eq_true h1b
    refine wp_skip ?_
    refine q_tn ?_
    refine wp_seq ?_
    refine wp_block ?_
    refine w_plan [(true, 0), (true, 1), (true, 2), (true, 3), (true, 4), (true, 5), (true, 6), (true, 7), (true, 8), (true, 9), (true, 10), (true, 11), (false, 12), (false, 13), (true, 14)] (Keep G []) rfl (by kernel_rfl) (fun c a d v w h => by cases d <;> exact h) ((M.drew _).keep (Gle.refl _) (by simp)) ?_
    replace M := M.drew (w.drawn + 1)
    refine pl_run F (fun w M => run_move (F.ev rfl)) rfl ?_; clear F a; intro a F
    refine pl_run F (fun w M => run_move (F.ev rfl)) rfl ?_; clear F a; intro a F
    refine pl_run F (fun w M => run_move (F.ev rfl)) rfl ?_; clear F a; intro a F
    obtain ⟨Xe2, hXe2⟩ := get_of_lt (xs := xs) (i := 2 * j) (by omega)
    obtain ⟨be2, oe2, _, Ie2, _, Ae2, ⟨rfl, hbe21⟩⟩ := S.at hXe2
    refine pl_run F (fun w M => run_indexI tok90.k tok2 (F.ev rfl) (F.ev rfl) (by omega) Ie2) rfl ?_; clear F a; intro a F
    refine pl_run F (fun w M => run_load1 (agf tok2 rfl) (F.ev rfl) (M.cellA Ae2 0 (by omega) rfl)) rfl ?_; clear F a; intro a F
    have hp0 := hpos _ (List.mem_of_getElem? hXe2)
    have hq0 := i64_b hbe21
    refine pl_run F (fun w M => run_conv_int tok37.k ⟨_, by rw [under_int tok2.k]⟩ (F.ev rfl) (in_u64 (by omega) (by omega))) rfl ?_; clear F a; intro a F
    refine pl_run F (fun w M => run_move (F.ev rfl)) rfl ?_; clear F a; intro a F
    refine pl_run F (fun w M => run_move (F.ev rfl)) rfl ?_; clear F a; intro a F
    refine pl_run F (fun w M => run_addi (F.ev rfl) (F.ev rfl) (in_i64 (by omega) (by omega))) rfl ?_; clear F a; intro a F
    obtain ⟨Xe3, hXe3⟩ := get_of_lt (xs := xs) (i := (2 * j) + 1) (by omega)
    obtain ⟨be3, oe3, _, Ie3, _, Ae3, ⟨rfl, hbe31⟩⟩ := S.at hXe3
    refine pl_run F (fun w M => run_indexI tok90.k tok2 (F.ev rfl) (F.ev rfl) (by omega) Ie3) rfl ?_; clear F a; intro a F
    refine pl_run F (fun w M => run_load1 (agf tok2 rfl) (F.ev rfl) (M.cellA Ae3 0 (by omega) rfl)) rfl ?_; clear F a; intro a F
    refine pl_run F (fun w M => run_buildS (cs := [.int .u64 (Xe2), .int .i64 (Xe3)]) (ps := [(0, .int .u64 (Xe2)), (1, .int .i64 (Xe3))]) tok39.k rfl tok39 (F.evp rfl) rfl) rfl ?_; clear F a; intro a F
    refine pl_act ?_ rfl
    refine rl_buildSlice1 F M tok22.k tok39 rfl rfl (cs := [.int .u64 (Xe2), .int .i64 (Xe3)]) rfl rfl (by simp [Value.oneCell']) (by decide) rfl ?_; clear F M a; intro v4 w a M F
    obtain ⟨av4, cv4, rfl, hlev4, hcmv4, hlv4⟩ := M.row_shape (k := 0) rfl
    refine rl_nil ?_
    refine ⟨Keep G [], M.keep (Gle.refl _) (by simp), fun w h => h.mono (Gle.refl _) (by simp), ?_⟩
    have E5 : Els rdPair 2 G [.int .u64 (Xe2), .int .i64 (Xe3)] [(⟨Xe2, Xe3⟩ : PairD)] := Els.one ⟨rfl, (show inKind .u64 Xe2 from in_u64 (by omega) (by omega)), hbe31⟩ rfl
    refine pl_act ?_ rfl
    refine rl_append_row F M (k := 1) (k2 := 0) rfl rfl tok22.k tok39 rfl rfl (by decide) rfl rfl (by show _ * 16 ≤ _; (try simp only [List.length_drop, List.length_take, List.length_append, List.length_cons, List.length_nil]); omega) (by (try simp only [List.length_drop, List.length_take, List.length_append, List.length_cons, List.length_nil]); omega) rfl ?_; clear F M a; intro v6 w a M F
    have Ev6 := Els.append Ey E5
    obtain ⟨av6, cv6, rfl, hlev6, hcmv6, hlv6⟩ := M.row_shape (k := 1) rfl
    refine rl_nil ?_
    refine ⟨Keep G [], M.keep (Gle.refl _) (by simp), fun w h => h.mono (Gle.refl _) (by simp), ?_⟩
    refine pl_run F (fun w M => run_assign (F.ev rfl)) rfl ?_; clear F a; intro a F
    refine pl_nil ?_
    refine q_bn ?_
    refine q_tn ?_
    refine w_reg ?_
    refine rl_run F (run_move (F.ev rfl)) rfl ?_; clear F a; intro a F
    refine rl_run F (run_addi (F.ev rfl) (F.ev rfl) (in_i64 (by omega) (by omega))) rfl ?_; clear F a; intro a F
    refine rl_run F (run_assign (F.ev rfl)) rfl ?_; clear F a; intro a F
    refine rl_nil ?_
    refine q_tn ?_
    exact ⟨_, by omega, j + 1, ys ++ [⟨Xe2, Xe3⟩], (av6), (ny + 1), (cv6), (csy ++ ([.int .u64 (Xe2), .int .i64 (Xe3)])), rfl, F.to ⟨rfl, rfl, rfl, trivial⟩, (M.weaken (.cons _ (.cons_cons _ (List.Sublist.refl _)))), by rw [List.length_append]; simp only [List.length_cons, List.length_nil]; omega, of_step hj2 hXe2 hXe3, by simp [hny], Ev6⟩
  · intro hc
    have h7b := hc; clear hc
    have h7 : ¬ ((((2 * j : Nat) : Int)) + 1 < ((xs.length : Nat) : Int)) := of_decide_eq_false h7b
    refine wp_exit ?_
    refine q_te ?_
    refine q_te ?_
    refine q_bh ?_
    refine q_tn ?_
    refine wp_seq ?_
    refine w_reg ?_
    refine rl_run F (run_move (F.ev rfl)) rfl ?_; clear F a; intro a F
    refine rl_run F (run_assign (F.ev rfl)) rfl ?_; clear F a; intro a F
    refine rl_nil ?_
    refine q_tn ?_
    refine wp_ret ?_
    refine fin1 F rfl rfl ?_
    obtain ⟨hnz8, Gz8, az8, cz8, hGz8, hez8, Sz8, M⟩ := M.freeze_row mono_rdPair (k := 0) rfl Ey (by decide)
    clear hez8 az8 cz8
    exact ⟨Gz8, hGz8, (M.weaken (List.Sublist.refl _)), _, _, by rw [hnz8, of_end hj2 (by omega)], by have h := Sz8; rw [hnz8, of_end hj2 (by omega)] at h; exact h⟩

theorem rat_row {w0 w : World} {G : Ghost} {L : List Res} {n c : Nat} {ad : Option Addr} {cs : List Value} {xs : List PairD} (M : Mem w0 G (.row (.slice ad n c) n cs 39 2 :: L) w) (E : Els rdPair 2 G cs xs) (hn : n = xs.length) (hxs : xs.length ≤ 9223372036854775807) {key : Int} :
    Calls Tryd.prog 21 #[.slice ad n c, .int .u64 key] w (RetS w0 G (.row (.slice ad n c) n cs 39 2 :: L) fun v => ∃ z, v = .int .i64 z ∧ AtR xs key z) := by
  refine calls_start (vs := [_, _]) Tryd.func21 rfl (n := 20) rfl rfl ?_
  intro a F
  refine wp_seq ?_
  refine w_reg ?_
  refine rl_run F (run_assign (F.ev rfl)) rfl ?_; clear F a; intro a F
  refine rl_nil ?_
  refine q_tn ?_
  refine wp_seq ?_
  refine wp_seq ?_
  refine w_reg ?_
  refine rl_run F (run_assign (F.ev rfl)) rfl ?_; clear F a; intro a F
  refine rl_nil ?_
  refine q_tn ?_
  refine wp_block ?_
  refine w_loopN (fun m a' w' => ∃ (i : Nat), m = xs.length - i ∧ Fits 20 a' [(0, .slice (ad) (n) (c)), (1, .int .u64 (key)), (5, .int .i64 (((i : Nat) : Int)))] ∧ Mem w0 G (.row (.slice (ad) (n) (c)) (n) (cs) 39 2 :: L) w' ∧ (i ≤ xs.length) ∧ (∀ (m : Nat) (Y : PairD), m < i → xs[m]? = some Y → Y.key ≠ key)) _ ⟨0, rfl, F.to ⟨rfl, rfl, rfl, trivial⟩, M, Nat.zero_le _, fun m Y h => by omega⟩ ?_
  clear F M
  rintro m a w ⟨i, rfl, F, M, hi, hf⟩
  refine wp_seq ?_
  refine wp_seq ?_
  refine w_reg ?_
  refine rl_run F (run_move (F.ev rfl)) rfl ?_; clear F a; intro a F
  refine rl_run F (run_move (F.ev rfl)) rfl ?_; clear F a; intro a F
  refine rl_run F (run_lenSl tok22.k (F.ev rfl)) rfl ?_; clear F a; intro a F
  refine rl_run F (run_lss (F.ev rfl) (F.ev rfl)) rfl ?_; clear F a; intro a F
  refine rl_nil ?_
  refine q_tn ?_
  refine w_cond F rfl ?_ ?_
  · intro hc
    have h1b := hc; clear hc
    have h1 : ((i : Nat) : Int) < ((n : Nat) : Int) := of_decide_eq_true h1b
    refine wp_skip ?_
    refine q_tn ?_
    refine wp_seq ?_
    refine wp_block ?_
    refine wp_seq ?_
    refine w_reg ?_
    refine rl_run F (run_move (F.ev rfl)) rfl ?_; clear F a; intro a F
    refine rl_run F (run_move (F.ev rfl)) rfl ?_; clear F a; intro a F
    obtain ⟨Xe2, hXe2⟩ := get_of_lt (xs := xs) (i := i) (by omega)
    obtain ⟨be2, _, Ie2, hme2, _, Ae2, ⟨rfl, hbe21, hbe22⟩⟩ := M.atRow (k := 0) rfl (by decide) E hXe2
    refine rl_run F (run_indexI tok22.k tok39 (F.ev rfl) (F.ev rfl) (by omega) Ie2) rfl ?_; clear F a; intro a F
    refine rl_run F (run_fieldAddr tok39.k rfl rfl (F.ev rfl)) rfl ?_; clear F a; intro a F
    refine rl_run F (run_load1 (agf tok37 rfl) (F.ev rfl) (cellE Ae2 0 rfl rfl)) rfl ?_; clear F a; intro a F
    refine rl_run F (run_move (F.ev rfl)) rfl ?_; clear F a; intro a F
    refine rl_run F (run_eqi (F.ev rfl) (F.ev rfl)) rfl ?_; clear F a; intro a F
    refine rl_nil ?_
    refine q_tn ?_
    refine w_cond F rfl ?_ ?_
    · intro hc
      have h3b := hc; clear hc
      have h3 : Xe2.key = key := of_decide_eq_true h3b
      refine wp_seq ?_
      refine w_reg ?_
      refine rl_run F (run_move (F.ev rfl)) rfl ?_; clear F a; intro a F
      refine rl_run F (run_assign (F.ev rfl)) rfl ?_; clear F a; intro a F
      refine rl_nil ?_
      refine q_tn ?_
      refine wp_ret ?_
      refine q_br ?_
      refine q_tr ?_
      refine q_tr ?_
      refine q_br ?_
      refine q_tr ?_
      refine fin1 F rfl rfl ?_
      exact ⟨M, _, rfl, Or.inl ⟨_, _, rfl, hXe2, by assumption, hf⟩⟩
    · intro hc
      have h4b := hc; clear hc
      have h4 : ¬ (Xe2.key = key) := of_decide_eq_false h4b
      refine wp_skip ?_
      refine q_bn ?_
      refine q_tn ?_
      refine w_reg ?_
      refine rl_run F (run_move (F.ev rfl)) rfl ?_; clear F a; intro a F
      refine rl_run F (run_addi (F.ev rfl) (F.ev rfl) (in_i64 (by omega) (by omega))) rfl ?_; clear F a; intro a F
      refine rl_run F (run_assign (F.ev rfl)) rfl ?_; clear F a; intro a F
      refine rl_nil ?_
      refine q_tn ?_
      exact ⟨_, by omega, i + 1, rfl, F.to ⟨rfl, rfl, rfl, trivial⟩, M, by omega, none_stepK hf hXe2 (by assumption)⟩
  · intro hc
    have h5b := hc; clear hc
    have h5 : ¬ (((i : Nat) : Int) < ((n : Nat) : Int)) := of_decide_eq_false h5b
    refine wp_exit ?_
    refine q_te ?_
    refine q_te ?_
    refine q_bh ?_
    refine q_tn ?_
    refine wp_seq ?_
    refine w_reg ?_
    refine rl_run F (run_assign (F.ev rfl)) rfl ?_; clear F a; intro a F
    refine rl_nil ?_
    refine q_tn ?_
    refine wp_ret ?_
    refine fin1 F rfl rfl ?_
    exact ⟨M, _, rfl, Or.inr ⟨rfl, fun m Y h => hf m Y (by have := lt_of_get h; omega) h⟩⟩

theorem tof_spec {w0 w : World} {G : Ghost} {L : List Res} (M : Mem w0 G L w) {ad : Option Addr} {c : Nat} {xs : List P8} (S : RdSl rdP8 2 G (.slice ad xs.length c) xs) (hxs : xs.length ≤ 9223372036854775807) :
    Calls Tryd.prog 23 #[.agg #[.slice ad xs.length c]] w (Ret w0 G L fun G' v => ∃ a' c' ys, v = .slice a' ys.length c' ∧ RdSl rdPair 2 G' (.slice a' ys.length c') ys ∧ VT ys ∧ ys.length ≤ 100) := by
  refine calls_start (vs := [_]) Tryd.func23 rfl (n := 46) rfl rfl ?_
  intro a F
  refine wp_seq ?_
  refine w_reg ?_
  refine rl_box F M rfl (cs := [.slice (ad) (xs.length) (c)]) rfl rfl ?_; clear F M a; intro b1 w a M F
  refine rl_run F (run_assign (F.ev rfl)) rfl ?_; clear F a; intro a F
  refine rl_nil ?_
  refine q_tn ?_
  refine wp_seq ?_
  refine w_reg ?_
  refine rl_run F (run_assign (F.ev rfl)) rfl ?_; clear F a; intro a F
  refine rl_nil ?_
  refine q_tn ?_
  refine wp_seq ?_
  refine wp_seq ?_
  refine w_reg ?_
  refine rl_run F (run_assign (F.ev rfl)) rfl ?_; clear F a; intro a F
  refine rl_nil ?_
  refine q_tn ?_
  refine wp_block ?_
  have M := M.nilrow 39 2
  refine w_loopN (fun m a' w' => ∃ (i : Nat), ∃ (ys : List PairD), ∃ (ay : Option Addr), ∃ (ny : Nat), ∃ (cy : Nat), ∃ (csy : List Value), m = xs.length - i ∧ Fits 46 a' [(1, .pointer (some ⟨b1, 0, none⟩)), (3, .slice (ay) (ny) (cy)), (4, .int .i64 (((i : Nat) : Int)))] ∧ Mem w0 G (.row (.slice (ay) (ny) (cy)) (ny) (csy) 39 2 :: .blk b1 [.slice (ad) (xs.length) (c)] 54 :: L) w' ∧ (i ≤ xs.length ∧ ys.length ≤ i ∧ i ≤ 100) ∧ (VT ys) ∧ (ny = (ys).length) ∧ (Els rdPair 2 G csy (ys))) _ ⟨0, [], (none), (0), (0), ([]), rfl, F.to ⟨rfl, rfl, rfl, trivial⟩, M, by simp, VT.nil, rfl, Els.nil⟩ ?_
  clear F M
  rintro m a w ⟨i, ys, ay, ny, cy, csy, rfl, F, M, hi, hV, hny, Ey⟩
  refine wp_seq ?_
  refine wp_seq ?_
  refine w_reg ?_
  refine rl_run F (run_move (F.ev rfl)) rfl ?_; clear F a; intro a F
  refine rl_run F (run_fieldAddr tok54.k rfl rfl (F.ev rfl)) rfl ?_; clear F a; intro a F
  refine rl_run F (run_load1 (agf tok52 rfl) (F.ev rfl) (M.cellL (k := 1) rfl rfl)) rfl ?_; clear F a; intro a F
  refine rl_run F (run_lenSl tok52.k (F.ev rfl)) rfl ?_; clear F a; intro a F
  refine rl_run F (run_lss (F.ev rfl) (F.ev rfl)) rfl ?_; clear F a; intro a F
  refine rl_run F (run_move (F.ev rfl)) rfl ?_; clear F a; intro a F
  rcases Bool.eq_false_or_eq_true (decide (((i : Nat) : Int) < ((xs.length : Nat) : Int))) with hc | hc
  · skip
    have h2b := hc; clear hc
    have h2 : ((i : Nat) : Int) < ((xs.length : Nat) : Int) := of_decide_eq_true h2b
    refine rl_guard_t F rfl rfl rfl h2b ?_
    refine rl_run F (run_move (F.ev rfl)) rfl ?_; clear F a; intro a F
    refine rl_guard_t F rfl rfl rfl h2b ?_
    refine rl_run F (run_lss (F.ev rfl) (F.ev rfl)) rfl ?_; clear F a; intro a F
    refine rl_run F (run_pick_t (F.ev rfl) h2b (F.ev rfl)) rfl ?_; clear F a; intro a F
    refine rl_nil ?_
    refine q_tn ?_
    refine w_cond F rfl ?_ ?_
    · intro hc
      have h3b := hc; clear hc
      have h3 : ((i : Nat) : Int) < 100 := of_decide_eq_true h3b
      refine wp_skip ?_
      refine q_tn ?_
      refine wp_seq ?_
      refine wp_block ?_
      refine wp_seq ?_
      refine w_plan [(true, 0), (true, 1), (true, 2), (true, 3), (true, 4), (true, 5), (true, 6), (true, 7), (true, 8), (true, 9), (true, 10), (true, 11), (true, 12), (true, 13), (true, 14), (true, 15), (true, 16), (true, 17), (true, 18), (false, 19), (false, 20)] (Keep G [.blk b1 [.slice (ad) (xs.length) (c)] 54]) rfl (by kernel_rfl) (fun c a d v w h => by cases d <;> exact h) ((M.drew _).keep (Gle.refl _) (by simp)) ?_
      replace M := M.drew (w.drawn + 1)
      refine pl_run F (fun w M => run_fieldAddr tok54.k rfl rfl (F.ev rfl)) rfl ?_; clear F a; intro a F
      refine pl_run F (fun w M => run_load1 (agf tok52 rfl) (F.ev rfl) (M.cellL (k := 0) rfl rfl)) rfl ?_; clear F a; intro a F
      refine pl_run F (fun w M => run_move (F.ev rfl)) rfl ?_; clear F a; intro a F
      obtain ⟨Xe4, hXe4⟩ := get_of_lt (xs := xs) (i := i) (by omega)
      obtain ⟨be4, oe4, _, Ie4, _, Ae4, ⟨rfl, hbe41, hbe42⟩⟩ := S.at hXe4
      refine pl_run F (fun w M => run_indexI tok52.k tok89 (F.ev rfl) (F.ev rfl) (by omega) Ie4) rfl ?_; clear F a; intro a F
      refine pl_run F (fun w M => run_idxPtr (j := 0) tok89.k tok5 rfl (F.ev rfl) (F.ev rfl) (by omega) (by decide)) rfl ?_; clear F a; intro a F
      refine pl_run F (fun w M => run_load1 (agf tok5 rfl) (F.ev rfl) (M.cellA Ae4 0 rfl rfl)) rfl ?_; clear F a; intro a F
      have hA0 := u8_b hbe41
      have hB0 := u8_b hbe42
      refine pl_run F (fun w M => run_remi (F.ev rfl) (F.ev rfl) (by omega) (by omega)) rfl ?_; clear F a; intro a F
      refine pl_run F (fun w M => run_conv_int tok37.k ⟨_, by rw [under_int tok5.k]⟩ (F.ev rfl) (in_u64 (by omega) (by omega))) rfl ?_; clear F a; intro a F
      refine pl_run F (fun w M => run_addi (F.ev rfl) (F.ev rfl) (in_u64 (by omega) (by omega))) rfl ?_; clear F a; intro a F
      refine pl_run F (fun w M => run_fieldAddr tok54.k rfl rfl (F.ev rfl)) rfl ?_; clear F a; intro a F
      refine pl_run F (fun w M => run_load1 (agf tok52 rfl) (F.ev rfl) (M.cellL (k := 0) rfl rfl)) rfl ?_; clear F a; intro a F
      refine pl_run F (fun w M => run_move (F.ev rfl)) rfl ?_; clear F a; intro a F
      obtain ⟨be5, oe5, _, Ie5, _, Ae5, ⟨rfl, hbe51, hbe52⟩⟩ := S.at hXe4
      refine pl_run F (fun w M => run_indexI tok52.k tok89 (F.ev rfl) (F.ev rfl) (by omega) Ie5) rfl ?_; clear F a; intro a F
      refine pl_run F (fun w M => run_idxPtr (j := 1) tok89.k tok5 rfl (F.ev rfl) (F.ev rfl) (by omega) (by decide)) rfl ?_; clear F a; intro a F
      refine pl_run F (fun w M => run_load1 (agf tok5 rfl) (F.ev rfl) (M.cellA Ae5 1 rfl rfl)) rfl ?_; clear F a; intro a F
      refine pl_run F (fun w M => run_remi (F.ev rfl) (F.ev rfl) (by omega) (by omega)) rfl ?_; clear F a; intro a F
      refine pl_run F (fun w M => run_conv_int tok2.k ⟨_, by rw [under_int tok5.k]⟩ (F.ev rfl) (in_i64 (by omega) (by omega))) rfl ?_; clear F a; intro a F
      refine pl_run F (fun w M => run_addi (F.ev rfl) (F.ev rfl) (in_i64 (by omega) (by omega))) rfl ?_; clear F a; intro a F
      refine pl_run F (fun w M => run_buildS (cs := [.int .u64 (1 + (Xe4.a % 40)), .int .i64 (1 + (Xe4.b % 40))]) (ps := [(0, .int .u64 (1 + (Xe4.a % 40))), (1, .int .i64 (1 + (Xe4.b % 40)))]) tok39.k rfl tok39 (F.evp rfl) rfl) rfl ?_; clear F a; intro a F
      refine pl_act ?_ rfl
      refine rl_alloc F M tok39 rfl rfl ?_; clear F M a; intro b6 w a M F
      refine rl_nil ?_
      refine ⟨Keep G [.blk b1 [.slice (ad) (xs.length) (c)] 54], M.keep (Gle.refl _) (by simp), fun w h => h.mono (Gle.refl _) (by simp), ?_⟩
      refine pl_act ?_ rfl
      refine rl_storeA F M tok39 (k := 0) rfl rfl rfl (us := [.int .u64 (1 + (Xe4.a % 40)), .int .i64 (1 + (Xe4.b % 40))]) rfl rfl (by simp [Value.oneCell']) (by simp) ?_; clear F M a; intro w a M F
      refine rl_nil ?_
      refine ⟨Keep G [.blk b1 [.slice (ad) (xs.length) (c)] 54], M.keep (Gle.refl _) (by simp), fun w h => h.mono (Gle.refl _) (by simp), ?_⟩
      refine pl_nil ?_
      refine q_tn ?_
      refine wp_seq ?_
      refine w_reg ?_
      refine rl_run F (run_move (F.ev rfl)) rfl ?_; clear F a; intro a F
      refine rl_run F (run_fieldAddr tok39.k rfl rfl (F.ev rfl)) rfl ?_; clear F a; intro a F
      refine rl_run F (run_load1 (agf tok37 rfl) (F.ev rfl) (M.cellL (k := 0) rfl rfl)) rfl ?_; clear F a; intro a F
      replace M := M.perm (perm_front _ 1 _ rfl)
      change Mem w0 G (.row (.slice (ay) (ny) (cy)) (ny) (csy) 39 2 :: .blk b6 [.int .u64 (1 + (Xe4.a % 40)), .int .i64 (1 + (Xe4.b % 40))] 39 :: .blk b1 [.slice (ad) (xs.length) (c)] 54 :: L) _ at M
      refine rl_callS F ent21 rfl rfl (rat_row (key := 1 + (Xe4.a % 40)) M Ey hny (by omega)) ?_; clear F M a; rintro _ w a M ⟨z8, rfl, haz8⟩ F
      refine rl_run F (run_lss (F.ev rfl) (F.ev rfl)) rfl ?_; clear F a; intro a F
      refine rl_nil ?_
      refine q_tn ?_
      refine w_cond F rfl ?_ ?_
      · intro hc
        have h9b := hc; clear hc
        have h9 : z8 < 0 := of_decide_eq_true h9b
        refine w_reg ?_
        refine rl_run F (run_move (F.ev rfl)) rfl ?_; clear F a; intro a F
        refine rl_run F (run_loadA tok39 rfl (F.ev rfl) (cs := [.int .u64 (1 + (Xe4.a % 40)), .int .i64 (1 + (Xe4.b % 40))]) rfl (M.cellsL (k := 1) rfl rfl)) rfl ?_; clear F a; intro a F
        refine rl_buildSlice1 F M tok22.k tok39 rfl rfl (cs := [.int .u64 (1 + (Xe4.a % 40)), .int .i64 (1 + (Xe4.b % 40))]) rfl rfl (by simp [Value.oneCell']) (by decide) rfl ?_; clear F M a; intro v10 w a M F
        obtain ⟨av10, cv10, rfl, hlev10, hcmv10, hlv10⟩ := M.row_shape (k := 0) rfl
        have E11 : Els rdPair 2 G [.int .u64 (1 + (Xe4.a % 40)), .int .i64 (1 + (Xe4.b % 40))] [(⟨1 + Xe4.a % 40, 1 + Xe4.b % 40⟩ : PairD)] := Els.one ⟨rfl, (show inKind .u64 (1 + Xe4.a % 40) from in_u64 (by omega) (by omega)), (show inKind .i64 (1 + Xe4.b % 40) from in_i64 (by omega) (by omega))⟩ rfl
        refine rl_append_row F M (k := 1) (k2 := 0) rfl rfl tok22.k tok39 rfl rfl (by decide) rfl rfl (by show _ * 16 ≤ _; (try simp only [List.length_drop, List.length_take, List.length_append, List.length_cons, List.length_nil]); omega) (by (try simp only [List.length_drop, List.length_take, List.length_append, List.length_cons, List.length_nil]); omega) rfl ?_; clear F M a; intro v12 w a M F
        have Ev12 := Els.append Ey E11
        obtain ⟨av12, cv12, rfl, hlev12, hcmv12, hlv12⟩ := M.row_shape (k := 1) rfl
        refine rl_run F (run_assign (F.ev rfl)) rfl ?_; clear F a; intro a F
        refine rl_nil ?_
        refine q_bn ?_
        refine q_tn ?_
        refine w_reg ?_
        refine rl_run F (run_move (F.ev rfl)) rfl ?_; clear F a; intro a F
        refine rl_run F (run_addi (F.ev rfl) (F.ev rfl) (in_i64 (by omega) (by omega))) rfl ?_; clear F a; intro a F
        refine rl_run F (run_assign (F.ev rfl)) rfl ?_; clear F a; intro a F
        refine rl_nil ?_
        refine q_tn ?_
        have hno := at_none haz8 (by omega)
        exact ⟨_, by omega, i + 1, ys ++ ([(⟨1 + Xe4.a % 40, 1 + Xe4.b % 40⟩ : PairD)]), (av12), (ny + 1), (cv12), (csy ++ ([.int .u64 (1 + (Xe4.a % 40)), .int .i64 (1 + (Xe4.b % 40))])), rfl, F.to ⟨rfl, rfl, rfl, trivial⟩, (M.weaken (.cons _ (.cons_cons _ (.cons _ (.cons_cons _ (List.Sublist.refl _)))))), by rw [List.length_append]; simp only [List.length_cons, List.length_nil]; omega, hV.snoc ⟨by show (1 : Int) ≤ 1 + Xe4.a % 40; omega, by show 1 + Xe4.a % 40 ≤ 40; omega, by show (1 : Int) ≤ 1 + Xe4.b % 40; omega, by show 1 + Xe4.b % 40 ≤ 40; omega⟩ hno, by simp [hny], Ev12⟩
      · intro hc
        have h13b := hc; clear hc
        have h13 : ¬ (z8 < 0) := of_decide_eq_false h13b
        refine wp_skip ?_
        refine q_bn ?_
        refine q_tn ?_
        refine w_reg ?_
        refine rl_run F (run_move (F.ev rfl)) rfl ?_; clear F a; intro a F
        refine rl_run F (run_addi (F.ev rfl) (F.ev rfl) (in_i64 (by omega) (by omega))) rfl ?_; clear F a; intro a F
        refine rl_run F (run_assign (F.ev rfl)) rfl ?_; clear F a; intro a F
        refine rl_nil ?_
        refine q_tn ?_
        exact ⟨_, by omega, i + 1, ys, (ay), (ny), (cy), (csy), rfl, F.to ⟨rfl, rfl, rfl, trivial⟩, (M.weaken (.cons_cons _ (.cons _ (.cons_cons _ (List.Sublist.refl _))))), by omega, hV, hny, Ey⟩
    · intro hc
      have h14b := hc; clear hc
      have h14 : ¬ (((i : Nat) : Int) < 100) := of_decide_eq_false h14b
      refine wp_exit ?_
      refine q_te ?_
      refine q_te ?_
      refine q_bh ?_
      refine q_tn ?_
      refine wp_seq ?_
      refine w_reg ?_
      refine rl_run F (run_move (F.ev rfl)) rfl ?_; clear F a; intro a F
      refine rl_run F (run_assign (F.ev rfl)) rfl ?_; clear F a; intro a F
      refine rl_nil ?_
      refine q_tn ?_
      refine wp_ret ?_
      refine fin1 F rfl rfl ?_
      obtain ⟨hnz15, Gz15, az15, cz15, hGz15, hez15, Sz15, M⟩ := M.freeze_row mono_rdPair (k := 0) rfl Ey (by decide)
      clear hez15 az15 cz15
      exact ⟨Gz15, hGz15, (M.weaken (.cons _ (List.Sublist.refl _))), _, _, ys, by rw [hnz15], by have h := Sz15; rw [hnz15] at h; exact h, hV, by omega⟩
  · skip
    have h16b := hc; clear hc
    have h16 : ¬ (((i : Nat) : Int) < ((xs.length : Nat) : Int)) := of_decide_eq_false h16b
    refine rl_guard_f F rfl rfl rfl h16b ?_; clear F a; intro a F
    refine rl_guard_f F rfl rfl rfl h16b ?_; clear F a; intro a F
    refine rl_run F (run_pick_f (F.ev rfl) h16b (F.ev rfl)) rfl ?_; clear F a; intro a F
    refine rl_nil ?_
    refine q_tn ?_
    refine w_cond_f F rfl rfl ?_
    refine wp_exit ?_
    refine q_te ?_
    refine q_te ?_
    refine q_bh ?_
    refine q_tn ?_
    refine wp_seq ?_
    refine w_reg ?_
    refine rl_run F (run_move (F.ev rfl)) rfl ?_; clear F a; intro a F
    refine rl_run F (run_assign (F.ev rfl)) rfl ?_; clear F a; intro a F
    refine rl_nil ?_
    refine q_tn ?_
    refine wp_ret ?_
    refine fin1 F rfl rfl ?_
    obtain ⟨hnz17, Gz17, az17, cz17, hGz17, hez17, Sz17, M⟩ := M.freeze_row mono_rdPair (k := 0) rfl Ey (by decide)
    clear hez17 az17 cz17
    exact ⟨Gz17, hGz17, (M.weaken (.cons _ (List.Sublist.refl _))), _, _, ys, by rw [hnz17], by have h := Sz17; rw [hnz17] at h; exact h, hV, by omega⟩

theorem merge_spec {w0 w : World} {G : Ghost} {L : List Res} (M : Mem w0 G L w) {ad : Option Addr} {c : Nat} {xs : List PairD} (S : RdSl rdPair 2 G (.slice ad xs.length c) xs) (hxs : xs.length ≤ 9223372036854775807) {ay : Option Addr} {cy : Nat} {ys : List PairD} (Sy : RdSl rdPair 2 G (.slice ay ys.length cy) ys) (hys : ys.length ≤ 9223372036854775807) {least : Int} :
    Calls Tryd.prog 13 #[.slice ad xs.length c, .slice ay ys.length cy, .int .i64 least] w (Ret w0 G L fun G' v => ∃ a', v = .tuple #[.slice a' (mergeR xs ys least).length (mergeR xs ys least).length, .int .i64 (mergeE xs ys least)] ∧ RdSl rdPair 2 G' (.slice a' (mergeR xs ys least).length (mergeR xs ys least).length) (mergeR xs ys least)) := by
  refine calls_start (vs := [_, _, _]) Tryd.func13 rfl (n := 80) rfl rfl ?_
  intro a F
  refine wp_seq ?_
  refine w_reg ?_
  refine rl_run F (run_assign (F.ev rfl)) rfl ?_; clear F a; intro a F
  refine rl_run F (run_assign (F.ev rfl)) rfl ?_; clear F a; intro a F
  refine rl_nil ?_
  refine q_tn ?_
  refine wp_seq ?_
  refine wp_seq ?_
  refine w_reg ?_
  refine rl_run F (run_move (F.ev rfl)) rfl ?_; clear F a; intro a F
  refine rl_run F (run_move (F.ev rfl)) rfl ?_; clear F a; intro a F
  refine rl_run F (run_buildA F (ps := [(0, .slice (ad) (xs.length) (c)), (1, .slice (ay) (ys.length) (cy))]) (cs := [.slice (ad) (xs.length) (c), .slice (ay) (ys.length) (cy)]) tok61.k tok61 tok22 rfl rfl) rfl ?_; clear F a; intro a F
  refine rl_run F (run_move (F.ev rfl)) rfl ?_; clear F a; intro a F
  refine rl_nil ?_
  refine q_tn ?_
  refine wp_block ?_
  refine w_loopN (fun m a' w' => ∃ (i : Nat), m = 2 - i ∧ Fits 80 a' [(0, .slice (ad) (xs.length) (c)), (1, .slice (ay) (ys.length) (cy)), (2, .int .i64 (least)), (22, .agg #[.slice (ad) (xs.length) (c), .slice (ay) (ys.length) (cy)]), (23, .int .i64 (((i : Nat) : Int)))] ∧ Mem w0 G (L) w' ∧ (i ≤ 2) ∧ (1 ≤ i → (checkF xs least).2 = 0) ∧ (2 ≤ i → (checkF ys least).2 = 0)) _ ⟨0, rfl, F.to ⟨rfl, rfl, rfl, rfl, rfl, trivial⟩, M, by omega, fun h => by omega, fun h => by omega⟩ ?_
  clear F M
  rintro m a w ⟨i, rfl, F, M, hi, hc1, hc2⟩
  refine wp_seq ?_
  refine w_reg ?_
  refine rl_run F (run_lss (F.ev rfl) (F.ev rfl)) rfl ?_; clear F a; intro a F
  refine rl_nil ?_
  refine q_tn ?_
  refine wp_seq ?_
  refine w_cond F rfl ?_ ?_
  · intro hc
    have h1b := hc; clear hc
    have h1 : ((i : Nat) : Int) < 2 := of_decide_eq_true h1b
    refine wp_skip ?_
    refine q_tn ?_
    refine wp_seq ?_
    refine wp_block ?_
    refine wp_seq ?_
    rcases (show i = 0 ∨ i = 1 by omega) with rfl | rfl
    · skip
      refine w_reg ?_
      refine rl_run F (run_idxArr (j := 0) (v := .slice (ad) (xs.length) (c)) tok61.k tok22 rfl rfl (F.ev rfl) (F.ev rfl) (by omega) (by decide) rfl) rfl ?_; clear F a; intro a F
      refine rl_run F (run_assign (F.ev rfl)) rfl ?_; clear F a; intro a F
      refine rl_nil ?_
      refine q_tn ?_
      refine wp_seq ?_
      refine w_reg ?_
      refine rl_run F (run_move (F.ev rfl)) rfl ?_; clear F a; intro a F
      refine rl_run F (run_move (F.ev rfl)) rfl ?_; clear F a; intro a F
      refine rl_callS F ent26 rfl rfl (check_spec (xs := xs) (least := least) M S (by omega)) ?_; clear F M a; rintro _ w a M rfl F
      refine rl_run F (run_move (F.ev rfl)) rfl ?_; clear F a; intro a F
      refine rl_run F (run_extract (v := .int .i64 ((((checkF xs least).1 : Nat) : Int))) (F.ev rfl) rfl) rfl ?_; clear F a; intro a F
      refine rl_run F (run_extract (v := .int .i64 ((checkF xs least).2)) (F.ev rfl) rfl) rfl ?_; clear F a; intro a F
      refine rl_run F (run_assign (F.ev rfl)) rfl ?_; clear F a; intro a F
      refine rl_run F (run_assign (F.ev rfl)) rfl ?_; clear F a; intro a F
      refine rl_nil ?_
      refine q_tn ?_
      refine wp_seq ?_
      refine w_reg ?_
      refine rl_run F (run_move (F.ev rfl)) rfl ?_; clear F a; intro a F
      refine rl_run F (run_nei (F.ev rfl) (F.ev rfl)) rfl ?_; clear F a; intro a F
      refine rl_nil ?_
      refine q_tn ?_
      refine w_cond F rfl ?_ ?_
      · intro hc
        have h2b := hc; clear hc
        have h2 : ¬ ((checkF xs least).2 = 0) := of_decide_eq_false (of_not_t h2b)
        have h2c : (decide ((checkF xs least).2 = 0)) = false := (of_not_t h2b)
        refine wp_seq ?_
        refine w_reg ?_
        refine rl_run F (run_move (F.ev rfl)) rfl ?_; clear F a; intro a F
        refine rl_run F (run_assign (F.ev rfl)) rfl ?_; clear F a; intro a F
        refine rl_run F (run_assign (F.ev rfl)) rfl ?_; clear F a; intro a F
        refine rl_nil ?_
        refine q_tn ?_
        refine wp_ret ?_
        refine q_br ?_
        refine q_tr ?_
        refine q_tr ?_
        refine q_br ?_
        refine q_tr ?_
        refine fin2 F rfl rfl rfl ?_
        have he3 : mergeE xs ys least = (checkF xs least).2 := mergeE_a (by omega)
        have hR : mergeR xs ys least = [] := by unfold mergeR; rw [if_neg (by omega)]
        exact ⟨G, (Gle.refl _), M.weaken (List.Sublist.refl _), none, by rw [hR, he3]; rfl, by rw [hR]; exact RdSl.nil⟩
      · intro hc
        have h4b := hc; clear hc
        have h4 : (checkF xs least).2 = 0 := of_decide_eq_true (of_not_f h4b)
        have h4c : (decide ((checkF xs least).2 = 0)) = true := (of_not_f h4b)
        refine wp_skip ?_
        refine q_bn ?_
        refine q_tn ?_
        refine w_reg ?_
        refine rl_run F (run_addi (F.ev rfl) (F.ev rfl) (in_i64 (by omega) (by omega))) rfl ?_; clear F a; intro a F
        refine rl_run F (run_move (F.ev rfl)) rfl ?_; clear F a; intro a F
        refine rl_nil ?_
        refine q_tn ?_
        exact ⟨_, by omega, 0 + 1, rfl, F.to ⟨rfl, rfl, rfl, rfl, rfl, trivial⟩, M, by omega, fun _ => by omega, fun h => by omega⟩
    · skip
      refine w_reg ?_
      refine rl_run F (run_idxArr (j := 1) (v := .slice (ay) (ys.length) (cy)) tok61.k tok22 rfl rfl (F.ev rfl) (F.ev rfl) (by omega) (by decide) rfl) rfl ?_; clear F a; intro a F
      refine rl_run F (run_assign (F.ev rfl)) rfl ?_; clear F a; intro a F
      refine rl_nil ?_
      refine q_tn ?_
      refine wp_seq ?_
      refine w_reg ?_
      refine rl_run F (run_move (F.ev rfl)) rfl ?_; clear F a; intro a F
      refine rl_run F (run_move (F.ev rfl)) rfl ?_; clear F a; intro a F
      refine rl_callS F ent26 rfl rfl (check_spec (xs := ys) (least := least) M Sy (by omega)) ?_; clear F M a; rintro _ w a M rfl F
      refine rl_run F (run_move (F.ev rfl)) rfl ?_; clear F a; intro a F
      refine rl_run F (run_extract (v := .int .i64 ((((checkF ys least).1 : Nat) : Int))) (F.ev rfl) rfl) rfl ?_; clear F a; intro a F
      refine rl_run F (run_extract (v := .int .i64 ((checkF ys least).2)) (F.ev rfl) rfl) rfl ?_; clear F a; intro a F
      refine rl_run F (run_assign (F.ev rfl)) rfl ?_; clear F a; intro a F
      refine rl_run F (run_assign (F.ev rfl)) rfl ?_; clear F a; intro a F
      refine rl_nil ?_
      refine q_tn ?_
      refine wp_seq ?_
      refine w_reg ?_
      refine rl_run F (run_move (F.ev rfl)) rfl ?_; clear F a; intro a F
      refine rl_run F (run_nei (F.ev rfl) (F.ev rfl)) rfl ?_; clear F a; intro a F
      refine rl_nil ?_
      refine q_tn ?_
      refine w_cond F rfl ?_ ?_
      · intro hc
        have h5b := hc; clear hc
        have h5 : ¬ ((checkF ys least).2 = 0) := of_decide_eq_false (of_not_t h5b)
        have h5c : (decide ((checkF ys least).2 = 0)) = false := (of_not_t h5b)
        refine wp_seq ?_
        refine w_reg ?_
        refine rl_run F (run_move (F.ev rfl)) rfl ?_; clear F a; intro a F
        refine rl_run F (run_assign (F.ev rfl)) rfl ?_; clear F a; intro a F
        refine rl_run F (run_assign (F.ev rfl)) rfl ?_; clear F a; intro a F
        refine rl_nil ?_
        refine q_tn ?_
        refine wp_ret ?_
        refine q_br ?_
        refine q_tr ?_
        refine q_tr ?_
        refine q_br ?_
        refine q_tr ?_
        refine fin2 F rfl rfl rfl ?_
        have he6 : mergeE xs ys least = (checkF ys least).2 := mergeE_b (hc1 (by omega)) (by omega)
        have hR : mergeR xs ys least = [] := by unfold mergeR; rw [if_neg (by omega)]
        exact ⟨G, (Gle.refl _), M.weaken (List.Sublist.refl _), none, by rw [hR, he6]; rfl, by rw [hR]; exact RdSl.nil⟩
      · intro hc
        have h7b := hc; clear hc
        have h7 : (checkF ys least).2 = 0 := of_decide_eq_true (of_not_f h7b)
        have h7c : (decide ((checkF ys least).2 = 0)) = true := (of_not_f h7b)
        refine wp_skip ?_
        refine q_bn ?_
        refine q_tn ?_
        refine w_reg ?_
        refine rl_run F (run_addi (F.ev rfl) (F.ev rfl) (in_i64 (by omega) (by omega))) rfl ?_; clear F a; intro a F
        refine rl_run F (run_move (F.ev rfl)) rfl ?_; clear F a; intro a F
        refine rl_nil ?_
        refine q_tn ?_
        exact ⟨_, by omega, 1 + 1, rfl, F.to ⟨rfl, rfl, rfl, rfl, rfl, trivial⟩, M, by omega, fun _ => hc1 (by omega), fun _ => by omega⟩
  · intro hc
    have h8b := hc; clear hc
    have h8 : ¬ (((i : Nat) : Int) < 2) := of_decide_eq_false h8b
    refine wp_exit ?_
    refine q_te ?_
    refine q_te ?_
    refine q_bh ?_
    refine q_tn ?_
    refine wp_seq ?_
    have Ta := tok_of (hc1 (by omega))
    have Tb := tok_of (hc2 (by omega))
    have hla := Ta.len
    have hlb := Tb.len
    refine w_reg ?_
    refine rl_run F (run_move (F.ev rfl)) rfl ?_; clear F a; intro a F
    refine rl_callL F ent27 rfl rfl (clone_spec M S (by omega) (by omega)) ?_; clear F M a; rintro _ _ w a M ⟨ak9, nk9, ck9, csk9, rfl, rfl, hnk9, Ek9⟩ F
    refine rl_run F (run_assign (F.ev rfl)) rfl ?_; clear F a; intro a F
    refine rl_nil ?_
    refine q_tn ?_
    refine wp_seq ?_
    refine w_reg ?_
    refine rl_callL F ent28 rfl rfl (new_spec M) ?_; clear F M a; rintro _ _ w a M ⟨bm10, rfl, adm10, nm10, cm10, manym10, tombsm10, csm10, sm10, rfl, hnm10, Em10, Km10⟩ F
    have hmm10 : manym10 = 0 := Km10.many
    have hzm10 : nm10 = 0 := by rw [hnm10]; exact Km10.small.2 rfl
    refine rl_run F (run_assign (F.ev rfl)) rfl ?_; clear F a; intro a F
    refine rl_nil ?_
    refine q_tn ?_
    refine wp_seq ?_
    refine wp_seq ?_
    refine w_reg ?_
    refine rl_run F (run_move (F.ev rfl)) rfl ?_; clear F a; intro a F
    refine rl_run F (run_lenSl tok22.k (F.ev rfl)) rfl ?_; clear F a; intro a F
    refine rl_run F (run_move (F.ev rfl)) rfl ?_; clear F a; intro a F
    refine rl_nil ?_
    refine q_tn ?_
    refine wp_block ?_
    refine w_loopN (fun m a' w' => ∃ (i : Nat), ∃ (ps : List PairD), ∃ (adm : Option Addr), ∃ (nm : Nat), ∃ (cm : Nat), ∃ (manym : Int), ∃ (tombsm : Int), ∃ (csm : List Value), ∃ (sm : List SlotD), m = xs.length - i ∧ Fits 80 a' [(1, .slice (ay) (ys.length) (cy)), (12, .slice (ak9) (nk9) (ck9)), (13, .pointer (some ⟨bm10, 0, none⟩)), (39, .slice (ak9) (nk9) (ck9)), (40, .int .i64 (((nk9 : Nat) : Int))), (41, .int .i64 (((i : Nat) : Int)))] ∧ Mem w0 G (.blk bm10 [.slice (adm) (nm) (cm), .int .i64 (manym), .int .i64 (tombsm)] 93 :: .row (.slice (adm) (nm) (cm)) (nm) (csm) 95 3 :: .row (.slice (ak9) (nk9) (ck9)) (nk9) (csk9) 39 2 :: L) w' ∧ (i ≤ xs.length) ∧ (AtMap ps (xs.take i)) ∧ (nm = sm.length) ∧ (Els rdSlot 3 G csm sm) ∧ (KOK sm manym tombsm (ps) (4096))) _ ⟨0, [], (adm10), (nm10), (cm10), (manym10), (tombsm10), (csm10), (sm10), rfl, F.to ⟨rfl, rfl, rfl, rfl, rfl, rfl, trivial⟩, M, Nat.zero_le _, AtMap.nil, hnm10, Em10, Km10.more (by omega)⟩ ?_
    clear F M
    rintro m a w ⟨i, ps, adm, nm, cm, manym, tombsm, csm, sm, rfl, F, M, hi, hA, hnm, Em, Km⟩
    refine wp_seq ?_
    refine w_reg ?_
    refine rl_run F (run_lss (F.ev rfl) (F.ev rfl)) rfl ?_; clear F a; intro a F
    refine rl_nil ?_
    refine q_tn ?_
    refine wp_seq ?_
    refine w_cond F rfl ?_ ?_
    · intro hc
      have h11b := hc; clear hc
      have h11 : ((i : Nat) : Int) < ((nk9 : Nat) : Int) := of_decide_eq_true h11b
      refine wp_skip ?_
      refine q_tn ?_
      refine wp_seq ?_
      refine wp_block ?_
      refine wp_seq ?_
      refine w_reg ?_
      refine rl_run F (run_move (F.ev rfl)) rfl ?_; clear F a; intro a F
      obtain ⟨Xe12, hXe12⟩ := get_of_lt (xs := xs) (i := i) (by omega)
      obtain ⟨be12, _, Ie12, hme12, _, Ae12, ⟨rfl, hbe121, hbe122⟩⟩ := M.atRow (k := 2) rfl (by decide) Ek9 hXe12
      refine rl_run F (run_indexI tok22.k tok39 (F.ev rfl) (F.ev rfl) (by omega) Ie12) rfl ?_; clear F a; intro a F
      refine rl_run F (run_loadA tok39 rfl (F.ev rfl) (cs := [.int .u64 (Xe12.key), .int .i64 (Xe12.v)]) rfl (cellsE Ae12 0 (by omega) rfl)) rfl ?_; clear F a; intro a F
      refine rl_alloc F M tok39 rfl rfl ?_; clear F M a; intro b13 w a M F
      refine rl_run F (run_assign (F.ev rfl)) rfl ?_; clear F a; intro a F
      refine rl_storeA F M tok39 (k := 0) rfl rfl rfl (us := [.int .u64 (Xe12.key), .int .i64 (Xe12.v)]) rfl rfl (by simp [Value.oneCell']) (by simp) ?_; clear F M a; intro w a M F
      refine rl_nil ?_
      refine q_tn ?_
      refine w_reg ?_
      refine rl_run F (run_move (F.ev rfl)) rfl ?_; clear F a; intro a F
      refine rl_run F (run_fieldAddr tok39.k rfl rfl (F.ev rfl)) rfl ?_; clear F a; intro a F
      refine rl_run F (run_load1 (agf tok37 rfl) (F.ev rfl) (M.cellL (k := 0) rfl rfl)) rfl ?_; clear F a; intro a F
      refine rl_run F (run_move (F.ev rfl)) rfl ?_; clear F a; intro a F
      replace M := M.perm (perm_front _ 2 _ rfl)
      replace M := M.perm (perm_front _ 2 _ rfl)
      change Mem w0 G (.blk bm10 [.slice (adm) (nm) (cm), .int .i64 (manym), .int .i64 (tombsm)] 93 :: .row (.slice (adm) (nm) (cm)) (nm) (csm) 95 3 :: .blk b13 [.int .u64 (Xe12.key), .int .i64 (Xe12.v)] 39 :: .row (.slice (ak9) (nk9) (ck9)) (nk9) (csk9) 39 2 :: L) _ at M
      have hsm15 := putm_spec (v := ((i : Nat) : Int)) M hnm Em Km (key := Xe12.key) (by first | assumption | exact ⟨by decide, by decide⟩ | exact wrap_ink _ _ | exact in_u64 (by omega) (by omega)) (by first | decide | exact (‹inKind .u64 (Xe12.key)›).1 | omega) (by first | assumption | exact ⟨by decide, by decide⟩ | exact wrap_ink _ _ | exact in_i64 (by omega) (by omega))
      refine rl_callL F ent29 rfl rfl (hsm15) ?_; clear F M a; rintro _ _ w a M ⟨⟨adm15, nm15, cm15, manym15, tombsm15, csm15, sm15, rfl, hnm15, Em15, Km15⟩, rfl⟩ F
      clear hsm15
      replace Km15 := Km15.more (show max 4096 ((putF ps Xe12.key (((i : Nat) : Int))).1).length ≤ 4096 by have h1 := hA.len; rw [List.length_take] at h1; have h2 := putF_len ps Xe12.key (((i : Nat) : Int)); omega)
      refine rl_nil ?_
      refine q_bn ?_
      refine q_tn ?_
      refine w_reg ?_
      refine rl_run F (run_addi (F.ev rfl) (F.ev rfl) (in_i64 (by omega) (by omega))) rfl ?_; clear F a; intro a F
      refine rl_run F (run_move (F.ev rfl)) rfl ?_; clear F a; intro a F
      refine rl_nil ?_
      refine q_tn ?_
      exact ⟨_, by omega, i + 1, (putF ps Xe12.key (i : Int)).1, (adm15), (nm15), (cm15), (manym15), (tombsm15), (csm15), (sm15), rfl, F.to ⟨rfl, rfl, rfl, rfl, rfl, rfl, trivial⟩, (M.weaken (.cons_cons _ (.cons_cons _ (.cons _ (.cons_cons _ (List.Sublist.refl _)))))), by omega, hA.next Ta hXe12, hnm15, Em15, Km15⟩
    · intro hc
      have h16b := hc; clear hc
      have h16 : ¬ (((i : Nat) : Int) < ((nk9 : Nat) : Int)) := of_decide_eq_false h16b
      refine wp_exit ?_
      refine q_te ?_
      refine q_te ?_
      refine q_bh ?_
      refine q_tn ?_
      refine wp_seq ?_
      refine wp_seq ?_
      rw [List.take_of_length_le (by omega)] at hA
      refine w_reg ?_
      refine rl_run F (run_move (F.ev rfl)) rfl ?_; clear F a; intro a F
      refine rl_run F (run_lenSl tok22.k (F.ev rfl)) rfl ?_; clear F a; intro a F
      refine rl_run F (run_move (F.ev rfl)) rfl ?_; clear F a; intro a F
      refine rl_nil ?_
      refine q_tn ?_
      refine wp_block ?_
      refine w_loopN (fun m a' w' => ∃ (j : Nat), ∃ (ao : Option Addr), ∃ (no : Nat), ∃ (co : Nat), ∃ (cso : List Value), m = ys.length - j ∧ Fits 80 a' [(13, .pointer (some ⟨bm10, 0, none⟩)), (52, .slice (ay) (ys.length) (cy)), (53, .int .i64 (((ys.length : Nat) : Int))), (12, .slice (ao) (no) (co)), (54, .int .i64 (((j : Nat) : Int)))] ∧ Mem w0 G (.blk bm10 [.slice (adm) (nm) (cm), .int .i64 (manym), .int .i64 (tombsm)] 93 :: .row (.slice (adm) (nm) (cm)) (nm) (csm) 95 3 :: .row (.slice (ao) (no) (co)) (no) (cso) 39 2 :: L) w' ∧ (j ≤ ys.length) ∧ (no = (mrg xs ys j).length) ∧ (Els rdPair 2 G cso (mrg xs ys j))) _ ⟨0, (ak9), (nk9), (ck9), (csk9), rfl, F.to ⟨rfl, rfl, rfl, rfl, rfl, trivial⟩, M, Nat.zero_le _, by rw [mrg_zero]; exact hnk9, by rw [mrg_zero]; exact Ek9⟩ ?_
      clear F M
      rintro m a w ⟨j, ao, no, co, cso, rfl, F, M, hj, hno, Eo⟩
      refine wp_seq ?_
      refine w_reg ?_
      refine rl_run F (run_lss (F.ev rfl) (F.ev rfl)) rfl ?_; clear F a; intro a F
      refine rl_nil ?_
      refine q_tn ?_
      refine wp_seq ?_
      refine w_cond F rfl ?_ ?_
      · intro hc
        have h17b := hc; clear hc
        have h17 : ((j : Nat) : Int) < ((ys.length : Nat) : Int) := of_decide_eq_true h17b
        refine wp_skip ?_
        refine q_tn ?_
        refine wp_seq ?_
        refine wp_block ?_
        refine wp_seq ?_
        refine w_reg ?_
        obtain ⟨Xe18, hXe18⟩ := get_of_lt (xs := ys) (i := j) (by omega)
        obtain ⟨be18, oe18, _, Ie18, _, Ae18, ⟨rfl, hbe181, hbe182⟩⟩ := Sy.at hXe18
        refine rl_run F (run_indexI tok22.k tok39 (F.ev rfl) (F.ev rfl) (by omega) Ie18) rfl ?_; clear F a; intro a F
        refine rl_run F (run_loadA tok39 rfl (F.ev rfl) (cs := [.int .u64 (Xe18.key), .int .i64 (Xe18.v)]) rfl (M.cellsA Ae18 0 (by omega) rfl)) rfl ?_; clear F a; intro a F
        refine rl_alloc F M tok39 rfl rfl ?_; clear F M a; intro b19 w a M F
        refine rl_storeA F M tok39 (k := 0) rfl rfl rfl (us := [.int .u64 (Xe18.key), .int .i64 (Xe18.v)]) rfl rfl (by simp [Value.oneCell']) (by simp) ?_; clear F M a; intro w a M F
        refine rl_nil ?_
        refine q_tn ?_
        refine wp_seq ?_
        refine w_reg ?_
        refine rl_run F (run_move (F.ev rfl)) rfl ?_; clear F a; intro a F
        refine rl_run F (run_fieldAddr tok39.k rfl rfl (F.ev rfl)) rfl ?_; clear F a; intro a F
        refine rl_run F (run_load1 (agf tok37 rfl) (F.ev rfl) (M.cellL (k := 0) rfl rfl)) rfl ?_; clear F a; intro a F
        replace M := M.perm (perm_front _ 2 _ rfl)
        replace M := M.perm (perm_front _ 2 _ rfl)
        change Mem w0 G (.blk bm10 [.slice (adm) (nm) (cm), .int .i64 (manym), .int .i64 (tombsm)] 93 :: .row (.slice (adm) (nm) (cm)) (nm) (csm) 95 3 :: .blk b19 [.int .u64 (Xe18.key), .int .i64 (Xe18.v)] 39 :: .row (.slice (ao) (no) (co)) (no) (cso) 39 2 :: L) _ at M
        have hsg21 := get_spec (key := Xe18.key) M hnm Em Km
        refine rl_callS F ent30 rfl rfl (hsg21) ?_; clear F M a; rintro _ w a M rfl F
        clear hsg21
        refine rl_run F (run_move (F.ev rfl)) rfl ?_; clear F a; intro a F
        refine rl_run F (run_extract (v := .int .i64 ((getF ps Xe18.key).1)) (F.ev rfl) rfl) rfl ?_; clear F a; intro a F
        refine rl_run F (run_extract (v := .bool ((getF ps Xe18.key).2)) (F.ev rfl) rfl) rfl ?_; clear F a; intro a F
        refine rl_run F (run_assign (F.ev rfl)) rfl ?_; clear F a; intro a F
        refine rl_run F (run_assign (F.ev rfl)) rfl ?_; clear F a; intro a F
        refine rl_nil ?_
        refine q_tn ?_
        refine wp_seq ?_
        refine w_reg ?_
        refine rl_run F (run_move (F.ev rfl)) rfl ?_; clear F a; intro a F
        refine rl_nil ?_
        refine q_tn ?_
        refine w_cond F rfl ?_ ?_
        · intro hc
          have h22b := hc; clear hc
          have h22 : ((getF ps Xe18.key).2) = true := h22b
          obtain ⟨ix, Xa, hXa, hka, hgx⟩ := hA.found (k := Xe18.key) (by assumption)
          rw [hgx] at F
          have hix := lt_of_get hXa
          have hml := mrg_len xs ys j
          refine w_reg ?_
          refine rl_run F (run_move (F.ev rfl)) rfl ?_; clear F a; intro a F
          refine rl_run F (run_move (F.ev rfl)) rfl ?_; clear F a; intro a F
          refine rl_run F (run_loadA tok39 rfl (F.ev rfl) (cs := [.int .u64 (Xe18.key), .int .i64 (Xe18.v)]) rfl (M.cellsL (k := 2) rfl rfl)) rfl ?_; clear F a; intro a F
          obtain ⟨Xe23, hXe23⟩ := get_of_lt (xs := mrg xs ys j) (i := ix) (by omega)
          obtain ⟨be23, _, Ie23, hme23, _, Ae23, ⟨rfl, hbe231, hbe232⟩⟩ := M.atRow (k := 3) rfl (by decide) Eo hXe23
          refine rl_run F (run_indexI tok22.k tok39 (F.ev rfl) (F.ev rfl) (by omega) Ie23) rfl ?_; clear F a; intro a F
          refine rl_storeEl F M tok39 (k := 3) rfl rfl Eo Ie23 (lt_of_get hXe23) rfl rfl (us := [.int .u64 (Xe18.key), .int .i64 (Xe18.v)]) rfl rfl (by simp [Value.oneCell']) (X' := Xe18) (⟨rfl, hbe181, hbe182⟩) ?_; clear F M a; intro csu24 w a M Eu24 F
          refine rl_nil ?_
          refine q_bn ?_
          refine q_tn ?_
          refine w_reg ?_
          refine rl_run F (run_addi (F.ev rfl) (F.ev rfl) (in_i64 (by omega) (by omega))) rfl ?_; clear F a; intro a F
          refine rl_run F (run_move (F.ev rfl)) rfl ?_; clear F a; intro a F
          refine rl_nil ?_
          refine q_tn ?_
          exact ⟨_, by omega, j + 1, (ao), (no), (co), (csu24), rfl, F.to ⟨rfl, rfl, rfl, rfl, rfl, trivial⟩, (M.weaken (.cons_cons _ (.cons_cons _ (.cons _ (.cons_cons _ (List.Sublist.refl _)))))), by omega, by rw [mrg_old hXe18 hXa (by rw [hka]) Ta.pw (tk_ne Tb hXe18), List.length_set]; exact hno, by rw [mrg_old hXe18 hXa (by rw [hka]) Ta.pw (tk_ne Tb hXe18)]; exact Eu24⟩
        · intro hc
          have h25b := hc; clear hc
          have h25 : ((getF ps Xe18.key).2) = false := h25b
          refine w_reg ?_
          refine rl_run F (run_move (F.ev rfl)) rfl ?_; clear F a; intro a F
          refine rl_run F (run_loadA tok39 rfl (F.ev rfl) (cs := [.int .u64 (Xe18.key), .int .i64 (Xe18.v)]) rfl (M.cellsL (k := 2) rfl rfl)) rfl ?_; clear F a; intro a F
          refine rl_buildSlice1 F M tok22.k tok39 rfl rfl (cs := [.int .u64 (Xe18.key), .int .i64 (Xe18.v)]) rfl rfl (by simp [Value.oneCell']) (by decide) rfl ?_; clear F M a; intro v26 w a M F
          obtain ⟨av26, cv26, rfl, hlev26, hcmv26, hlv26⟩ := M.row_shape (k := 0) rfl
          have hml := mrg_len xs ys j
          have E27 : Els rdPair 2 G [.int .u64 (Xe18.key), .int .i64 (Xe18.v)] [(Xe18 : PairD)] := Els.one ⟨rfl, hbe181, hbe182⟩ rfl
          refine rl_append_row F M (k := 4) (k2 := 0) rfl rfl tok22.k tok39 rfl rfl (by decide) rfl rfl (by show _ * 16 ≤ _; (try simp only [List.length_drop, List.length_take, List.length_append, List.length_cons, List.length_nil]); omega) (by (try simp only [List.length_drop, List.length_take, List.length_append, List.length_cons, List.length_nil]); omega) rfl ?_; clear F M a; intro v28 w a M F
          have Ev28 := Els.append Eo E27
          obtain ⟨av28, cv28, rfl, hlev28, hcmv28, hlv28⟩ := M.row_shape (k := 4) rfl
          refine rl_run F (run_assign (F.ev rfl)) rfl ?_; clear F a; intro a F
          refine rl_nil ?_
          refine q_bn ?_
          refine q_tn ?_
          refine w_reg ?_
          refine rl_run F (run_addi (F.ev rfl) (F.ev rfl) (in_i64 (by omega) (by omega))) rfl ?_; clear F a; intro a F
          refine rl_run F (run_move (F.ev rfl)) rfl ?_; clear F a; intro a F
          refine rl_nil ?_
          refine q_tn ?_
          exact ⟨_, by omega, j + 1, (av28), (no + 1), (cv28), (cso ++ ([.int .u64 (Xe18.key), .int .i64 (Xe18.v)])), rfl, F.to ⟨rfl, rfl, rfl, rfl, rfl, trivial⟩, (M.weaken (.cons _ (.cons_cons _ (.cons_cons _ (.cons _ (.cons_cons _ (List.Sublist.refl _))))))), by omega, by rw [mrg_new hXe18 (hA.miss (by assumption)), List.length_append, hno] <;> rfl, by rw [mrg_new hXe18 (hA.miss (by assumption))]; exact Ev28⟩
      · intro hc
        have h29b := hc; clear hc
        have h29 : ¬ (((j : Nat) : Int) < ((ys.length : Nat) : Int)) := of_decide_eq_false h29b
        refine wp_exit ?_
        refine q_te ?_
        refine q_te ?_
        refine q_bh ?_
        refine q_tn ?_
        refine wp_seq ?_
        refine wp_seq ?_
        have hmj := mrg_all (a := xs) (b := ys) (j := j) (by omega)
        rw [hmj] at hno Eo
        have hml := mrg_len xs ys j
        rw [hmj] at hml
        refine w_reg ?_
        refine rl_run F (run_move (F.ev rfl)) rfl ?_; clear F a; intro a F
        refine rl_run F (run_lenSl tok22.k (F.ev rfl)) rfl ?_; clear F a; intro a F
        refine rl_run F (run_gtr (F.ev rfl) (F.ev rfl)) rfl ?_; clear F a; intro a F
        refine rl_nil ?_
        refine q_tn ?_
        refine w_cond F rfl ?_ ?_
        · intro hc
          have h30b := hc; clear hc
          have h30 : 256 < ((no : Nat) : Int) := of_decide_eq_true h30b
          refine wp_seq ?_
          refine w_reg ?_
          refine rl_run F (run_assign (F.ev rfl)) rfl ?_; clear F a; intro a F
          refine rl_run F (run_assign (F.ev rfl)) rfl ?_; clear F a; intro a F
          refine rl_nil ?_
          refine q_tn ?_
          refine wp_ret ?_
          refine q_tr ?_
          refine fin2 F rfl rfl rfl ?_
          have he31 : mergeE xs ys least = 3 := mergeE_l (hc1 (by omega)) (hc2 (by omega)) (by omega)
          have hR : mergeR xs ys least = [] := by unfold mergeR; rw [if_neg (by omega)]
          exact ⟨G, (Gle.refl _), M.weaken (.cons _ (.cons _ (.cons _ (List.Sublist.refl _)))), none, by rw [hR, he31]; rfl, by rw [hR]; exact RdSl.nil⟩
        · intro hc
          have h32b := hc; clear hc
          have h32 : ¬ (256 < ((no : Nat) : Int)) := of_decide_eq_false h32b
          refine wp_skip ?_
          refine q_tn ?_
          refine wp_seq ?_
          refine w_reg ?_
          refine rl_run F (run_move (F.ev rfl)) rfl ?_; clear F a; intro a F
          have sh33 := M.row_bound (k := 2) rfl
          refine rl_callS F ent31 rfl rfl (clip_spec M sh33.1 sh33.2) ?_; clear F M a; rintro _ w a M rfl F
          refine rl_run F (run_assign (F.ev rfl)) rfl ?_; clear F a; intro a F
          refine rl_run F (run_assign (F.ev rfl)) rfl ?_; clear F a; intro a F
          refine rl_nil ?_
          refine q_tn ?_
          refine wp_ret ?_
          refine fin2 F rfl rfl rfl ?_
          have he0 : mergeE xs ys least = 0 := mergeE_0 (hc1 (by omega)) (hc2 (by omega)) (by omega)
          have hR : mergeR xs ys least = mergeF xs ys := by unfold mergeR; rw [if_pos he0]
          obtain ⟨hnz34, Gz34, az34, cz34, hGz34, hez34, Sz34, M⟩ := M.freeze_row mono_rdPair (k := 2) rfl Eo (by decide)
          clear hez34 az34 cz34
          exact ⟨Gz34, hGz34, M.weaken (.cons _ (.cons _ (List.Sublist.refl _))), _, by rw [hR, he0, ← hnz34], by have h := Sz34.clip; rw [hnz34] at h; rw [hR]; exact h⟩

theorem rmerge_spec {w0 w : World} {G : Ghost} {L : List Res} (M : Mem w0 G L w) {ad : Option Addr} {c : Nat} {xs : List PairD} (S : RdSl rdPair 2 G (.slice ad xs.length c) xs) (hxs : xs.length ≤ 9223372036854775807) {ay : Option Addr} {cy : Nat} {ys : List PairD} (Sy : RdSl rdPair 2 G (.slice ay ys.length cy) ys) (hys : ys.length ≤ 9223372036854775807) (hlx : xs.length ≤ 100000) (hly : ys.length ≤ 100000) :
    Calls Tryd.prog 16 #[.slice ad xs.length c, .slice ay ys.length cy] w (Ret w0 G L fun G' v => ∃ a' c', v = .slice a' (mergeF xs ys).length c' ∧ RdSl rdPair 2 G' (.slice a' (mergeF xs ys).length c') (mergeF xs ys)) := by
  refine calls_start (vs := [_, _]) Tryd.func16 rfl (n := 60) rfl rfl ?_
  intro a F
  refine wp_seq ?_
  refine w_reg ?_
  refine rl_run F (run_assign (F.ev rfl)) rfl ?_; clear F a; intro a F
  refine rl_nil ?_
  refine q_tn ?_
  refine wp_seq ?_
  refine w_reg ?_
  refine rl_run F (run_assign (F.ev rfl)) rfl ?_; clear F a; intro a F
  refine rl_nil ?_
  refine q_tn ?_
  refine wp_seq ?_
  refine wp_seq ?_
  refine w_reg ?_
  refine rl_run F (run_assign (F.ev rfl)) rfl ?_; clear F a; intro a F
  refine rl_nil ?_
  refine q_tn ?_
  refine wp_block ?_
  have M := M.nilrow 39 2
  refine w_loopN (fun m a' w' => ∃ (i : Nat), ∃ (ao : Option Addr), ∃ (no : Nat), ∃ (co : Nat), ∃ (cso : List Value), m = xs.length - i ∧ Fits 60 a' [(0, .slice (ad) (xs.length) (c)), (1, .slice (ay) (ys.length) (cy)), (5, .slice (ao) (no) (co)), (6, .int .i64 (((i : Nat) : Int)))] ∧ Mem w0 G (.row (.slice (ao) (no) (co)) (no) (cso) 39 2 :: L) w' ∧ (i ≤ xs.length) ∧ (no = (rmA xs ys i).length) ∧ (Els rdPair 2 G cso (rmA xs ys i))) _ ⟨0, (none), (0), (0), ([]), rfl, F.to ⟨rfl, rfl, rfl, rfl, trivial⟩, M, Nat.zero_le _, rfl, Els.nil⟩ ?_
  clear F M
  rintro m a w ⟨i, ao, no, co, cso, rfl, F, M, hi, hno, Eo⟩
  refine wp_seq ?_
  refine wp_seq ?_
  refine w_reg ?_
  refine rl_run F (run_move (F.ev rfl)) rfl ?_; clear F a; intro a F
  refine rl_run F (run_move (F.ev rfl)) rfl ?_; clear F a; intro a F
  refine rl_run F (run_lenSl tok22.k (F.ev rfl)) rfl ?_; clear F a; intro a F
  refine rl_run F (run_lss (F.ev rfl) (F.ev rfl)) rfl ?_; clear F a; intro a F
  refine rl_nil ?_
  refine q_tn ?_
  refine w_cond F rfl ?_ ?_
  · intro hc
    have h1b := hc; clear hc
    have h1 : ((i : Nat) : Int) < ((xs.length : Nat) : Int) := of_decide_eq_true h1b
    refine wp_skip ?_
    refine q_tn ?_
    refine wp_seq ?_
    refine wp_block ?_
    refine wp_seq ?_
    refine w_reg ?_
    refine rl_run F (run_move (F.ev rfl)) rfl ?_; clear F a; intro a F
    refine rl_run F (run_move (F.ev rfl)) rfl ?_; clear F a; intro a F
    refine rl_run F (run_move (F.ev rfl)) rfl ?_; clear F a; intro a F
    obtain ⟨Xe2, hXe2⟩ := get_of_lt (xs := xs) (i := i) (by omega)
    obtain ⟨be2, oe2, _, Ie2, _, Ae2, ⟨rfl, hbe21, hbe22⟩⟩ := S.at hXe2
    refine rl_run F (run_indexI tok22.k tok39 (F.ev rfl) (F.ev rfl) (by omega) Ie2) rfl ?_; clear F a; intro a F
    refine rl_run F (run_fieldAddr tok39.k rfl rfl (F.ev rfl)) rfl ?_; clear F a; intro a F
    refine rl_run F (run_load1 (agf tok37 rfl) (F.ev rfl) (M.cellA Ae2 0 rfl rfl)) rfl ?_; clear F a; intro a F
    refine rl_callS F ent21 rfl rfl (rat_spec (xs := ys) (key := Xe2.key) M Sy (by omega)) ?_; clear F M a; rintro _ w a M ⟨z3, rfl, haz3⟩ F
    refine rl_run F (run_assign (F.ev rfl)) rfl ?_; clear F a; intro a F
    refine rl_nil ?_
    refine q_tn ?_
    refine wp_seq ?_
    refine w_reg ?_
    refine rl_run F (run_move (F.ev rfl)) rfl ?_; clear F a; intro a F
    refine rl_run F (run_geq (F.ev rfl) (F.ev rfl)) rfl ?_; clear F a; intro a F
    refine rl_nil ?_
    refine q_tn ?_
    refine w_cond F rfl ?_ ?_
    · intro hc
      have h4b := hc; clear hc
      have h4 : 0 ≤ z3 := of_decide_eq_true h4b
      obtain ⟨iy, Y, hzy, hY, hky, hfy⟩ := at_some haz3 (by omega)
      have hfd := find_at hY hky hfy
      rw [hzy] at F
      refine w_reg ?_
      refine rl_run F (run_move (F.ev rfl)) rfl ?_; clear F a; intro a F
      refine rl_run F (run_move (F.ev rfl)) rfl ?_; clear F a; intro a F
      refine rl_run F (run_move (F.ev rfl)) rfl ?_; clear F a; intro a F
      obtain ⟨be5, oe5, _, Ie5, _, Ae5, ⟨rfl, hbe51, hbe52⟩⟩ := Sy.at hY
      refine rl_run F (run_indexI tok22.k tok39 (F.ev rfl) (F.ev rfl) (by omega) Ie5) rfl ?_; clear F a; intro a F
      refine rl_run F (run_loadA tok39 rfl (F.ev rfl) (cs := [.int .u64 (Y.key), .int .i64 (Y.v)]) rfl (M.cellsA Ae5 0 (by omega) rfl)) rfl ?_; clear F a; intro a F
      refine rl_buildSlice1 F M tok22.k tok39 rfl rfl (cs := [.int .u64 (Y.key), .int .i64 (Y.v)]) rfl rfl (by simp [Value.oneCell']) (by decide) rfl ?_; clear F M a; intro v6 w a M F
      obtain ⟨av6, cv6, rfl, hlev6, hcmv6, hlv6⟩ := M.row_shape (k := 0) rfl
      have hrl := rmA_len xs ys i
      have E7 : Els rdPair 2 G [.int .u64 (Y.key), .int .i64 (Y.v)] [(Y : PairD)] := Els.one ⟨rfl, by assumption, by assumption⟩ rfl
      refine rl_append_row F M (k := 1) (k2 := 0) rfl rfl tok22.k tok39 rfl rfl (by decide) rfl rfl (by show _ * 16 ≤ _; (try simp only [List.length_drop, List.length_take, List.length_append, List.length_cons, List.length_nil]); omega) (by (try simp only [List.length_drop, List.length_take, List.length_append, List.length_cons, List.length_nil]); omega) rfl ?_; clear F M a; intro v8 w a M F
      have Ev8 := Els.append Eo E7
      obtain ⟨av8, cv8, rfl, hlev8, hcmv8, hlv8⟩ := M.row_shape (k := 1) rfl
      refine rl_run F (run_assign (F.ev rfl)) rfl ?_; clear F a; intro a F
      refine rl_nil ?_
      refine q_bn ?_
      refine q_tn ?_
      refine w_reg ?_
      refine rl_run F (run_move (F.ev rfl)) rfl ?_; clear F a; intro a F
      refine rl_run F (run_addi (F.ev rfl) (F.ev rfl) (in_i64 (by omega) (by omega))) rfl ?_; clear F a; intro a F
      refine rl_run F (run_assign (F.ev rfl)) rfl ?_; clear F a; intro a F
      refine rl_nil ?_
      refine q_tn ?_
      exact ⟨_, by omega, i + 1, (av8), (no + 1), (cv8), (cso ++ ([.int .u64 (Y.key), .int .i64 (Y.v)])), rfl, F.to ⟨rfl, rfl, rfl, rfl, trivial⟩, (M.weaken (.cons _ (.cons_cons _ (List.Sublist.refl _)))), by omega, by rw [rmA_step hXe2 (by rw [hfd] <;> rfl), List.length_append, hno] <;> rfl, by rw [rmA_step hXe2 (by rw [hfd] <;> rfl)]; exact Ev8⟩
    · intro hc
      have h9b := hc; clear hc
      have h9 : ¬ (0 ≤ z3) := of_decide_eq_false h9b
      have hfd := find_no (at_none haz3 (by omega))
      refine w_reg ?_
      refine rl_run F (run_move (F.ev rfl)) rfl ?_; clear F a; intro a F
      refine rl_run F (run_move (F.ev rfl)) rfl ?_; clear F a; intro a F
      refine rl_run F (run_move (F.ev rfl)) rfl ?_; clear F a; intro a F
      obtain ⟨be10, oe10, _, Ie10, _, Ae10, ⟨rfl, hbe101, hbe102⟩⟩ := S.at hXe2
      refine rl_run F (run_indexI tok22.k tok39 (F.ev rfl) (F.ev rfl) (by omega) Ie10) rfl ?_; clear F a; intro a F
      refine rl_run F (run_loadA tok39 rfl (F.ev rfl) (cs := [.int .u64 (Xe2.key), .int .i64 (Xe2.v)]) rfl (M.cellsA Ae10 0 (by omega) rfl)) rfl ?_; clear F a; intro a F
      refine rl_buildSlice1 F M tok22.k tok39 rfl rfl (cs := [.int .u64 (Xe2.key), .int .i64 (Xe2.v)]) rfl rfl (by simp [Value.oneCell']) (by decide) rfl ?_; clear F M a; intro v11 w a M F
      obtain ⟨av11, cv11, rfl, hlev11, hcmv11, hlv11⟩ := M.row_shape (k := 0) rfl
      have hrl := rmA_len xs ys i
      have E12 : Els rdPair 2 G [.int .u64 (Xe2.key), .int .i64 (Xe2.v)] [(Xe2 : PairD)] := Els.one ⟨rfl, by assumption, by assumption⟩ rfl
      refine rl_append_row F M (k := 1) (k2 := 0) rfl rfl tok22.k tok39 rfl rfl (by decide) rfl rfl (by show _ * 16 ≤ _; (try simp only [List.length_drop, List.length_take, List.length_append, List.length_cons, List.length_nil]); omega) (by (try simp only [List.length_drop, List.length_take, List.length_append, List.length_cons, List.length_nil]); omega) rfl ?_; clear F M a; intro v13 w a M F
      have Ev13 := Els.append Eo E12
      obtain ⟨av13, cv13, rfl, hlev13, hcmv13, hlv13⟩ := M.row_shape (k := 1) rfl
      refine rl_run F (run_assign (F.ev rfl)) rfl ?_; clear F a; intro a F
      refine rl_nil ?_
      refine q_bn ?_
      refine q_tn ?_
      refine w_reg ?_
      refine rl_run F (run_move (F.ev rfl)) rfl ?_; clear F a; intro a F
      refine rl_run F (run_addi (F.ev rfl) (F.ev rfl) (in_i64 (by omega) (by omega))) rfl ?_; clear F a; intro a F
      refine rl_run F (run_assign (F.ev rfl)) rfl ?_; clear F a; intro a F
      refine rl_nil ?_
      refine q_tn ?_
      exact ⟨_, by omega, i + 1, (av13), (no + 1), (cv13), (cso ++ ([.int .u64 (Xe2.key), .int .i64 (Xe2.v)])), rfl, F.to ⟨rfl, rfl, rfl, rfl, trivial⟩, (M.weaken (.cons _ (.cons_cons _ (List.Sublist.refl _)))), by omega, by rw [rmA_step hXe2 (by rw [hfd] <;> rfl), List.length_append, hno] <;> rfl, by rw [rmA_step hXe2 (by rw [hfd] <;> rfl)]; exact Ev13⟩
  · intro hc
    have h14b := hc; clear hc
    have h14 : ¬ (((i : Nat) : Int) < ((xs.length : Nat) : Int)) := of_decide_eq_false h14b
    refine wp_exit ?_
    refine q_te ?_
    refine q_te ?_
    refine q_bh ?_
    refine q_tn ?_
    refine wp_seq ?_
    refine wp_seq ?_
    refine w_reg ?_
    refine rl_run F (run_assign (F.ev rfl)) rfl ?_; clear F a; intro a F
    refine rl_nil ?_
    refine q_tn ?_
    refine wp_block ?_
    have hre := rmA_end (a := xs) (b := ys) (i := i) (by omega)
    rw [hre] at hno Eo
    refine w_loopN (fun m a' w' => ∃ (j : Nat), ∃ (ab : Option Addr), ∃ (nb : Nat), ∃ (cb : Nat), ∃ (csb : List Value), m = ys.length - j ∧ Fits 60 a' [(0, .slice (ad) (xs.length) (c)), (1, .slice (ay) (ys.length) (cy)), (5, .slice (ab) (nb) (cb)), (8, .int .i64 (((j : Nat) : Int)))] ∧ Mem w0 G (.row (.slice (ab) (nb) (cb)) (nb) (csb) 39 2 :: L) w' ∧ (j ≤ ys.length) ∧ (nb = (rmB xs ys j).length) ∧ (Els rdPair 2 G csb (rmB xs ys j))) _ ⟨0, (ao), (no), (co), (cso), rfl, F.to ⟨rfl, rfl, rfl, rfl, trivial⟩, M, Nat.zero_le _, hno, Eo⟩ ?_
    clear F M
    rintro m a w ⟨j, ab, nb, cb, csb, rfl, F, M, hj, hnb, Eb⟩
    refine wp_seq ?_
    refine wp_seq ?_
    refine w_reg ?_
    refine rl_run F (run_move (F.ev rfl)) rfl ?_; clear F a; intro a F
    refine rl_run F (run_move (F.ev rfl)) rfl ?_; clear F a; intro a F
    refine rl_run F (run_lenSl tok22.k (F.ev rfl)) rfl ?_; clear F a; intro a F
    refine rl_run F (run_lss (F.ev rfl) (F.ev rfl)) rfl ?_; clear F a; intro a F
    refine rl_nil ?_
    refine q_tn ?_
    refine w_cond F rfl ?_ ?_
    · intro hc
      have h15b := hc; clear hc
      have h15 : ((j : Nat) : Int) < ((ys.length : Nat) : Int) := of_decide_eq_true h15b
      refine wp_skip ?_
      refine q_tn ?_
      refine wp_seq ?_
      refine wp_block ?_
      refine wp_seq ?_
      refine w_reg ?_
      refine rl_run F (run_move (F.ev rfl)) rfl ?_; clear F a; intro a F
      refine rl_run F (run_move (F.ev rfl)) rfl ?_; clear F a; intro a F
      refine rl_run F (run_move (F.ev rfl)) rfl ?_; clear F a; intro a F
      obtain ⟨Xe16, hXe16⟩ := get_of_lt (xs := ys) (i := j) (by omega)
      obtain ⟨be16, oe16, _, Ie16, _, Ae16, ⟨rfl, hbe161, hbe162⟩⟩ := Sy.at hXe16
      refine rl_run F (run_indexI tok22.k tok39 (F.ev rfl) (F.ev rfl) (by omega) Ie16) rfl ?_; clear F a; intro a F
      refine rl_run F (run_fieldAddr tok39.k rfl rfl (F.ev rfl)) rfl ?_; clear F a; intro a F
      refine rl_run F (run_load1 (agf tok37 rfl) (F.ev rfl) (M.cellA Ae16 0 rfl rfl)) rfl ?_; clear F a; intro a F
      refine rl_callS F ent21 rfl rfl (rat_spec (xs := xs) (key := Xe16.key) M S (by omega)) ?_; clear F M a; rintro _ w a M ⟨z17, rfl, haz17⟩ F
      refine rl_run F (run_lss (F.ev rfl) (F.ev rfl)) rfl ?_; clear F a; intro a F
      refine rl_nil ?_
      refine q_tn ?_
      refine w_cond F rfl ?_ ?_
      · intro hc
        have h18b := hc; clear hc
        have h18 : z17 < 0 := of_decide_eq_true h18b
        refine w_reg ?_
        refine rl_run F (run_move (F.ev rfl)) rfl ?_; clear F a; intro a F
        refine rl_run F (run_move (F.ev rfl)) rfl ?_; clear F a; intro a F
        refine rl_run F (run_move (F.ev rfl)) rfl ?_; clear F a; intro a F
        obtain ⟨be19, oe19, _, Ie19, _, Ae19, ⟨rfl, hbe191, hbe192⟩⟩ := Sy.at hXe16
        refine rl_run F (run_indexI tok22.k tok39 (F.ev rfl) (F.ev rfl) (by omega) Ie19) rfl ?_; clear F a; intro a F
        refine rl_run F (run_loadA tok39 rfl (F.ev rfl) (cs := [.int .u64 (Xe16.key), .int .i64 (Xe16.v)]) rfl (M.cellsA Ae19 0 (by omega) rfl)) rfl ?_; clear F a; intro a F
        refine rl_buildSlice1 F M tok22.k tok39 rfl rfl (cs := [.int .u64 (Xe16.key), .int .i64 (Xe16.v)]) rfl rfl (by simp [Value.oneCell']) (by decide) rfl ?_; clear F M a; intro v20 w a M F
        obtain ⟨av20, cv20, rfl, hlev20, hcmv20, hlv20⟩ := M.row_shape (k := 0) rfl
        have hrl := rmB_len xs ys j
        have E21 : Els rdPair 2 G [.int .u64 (Xe16.key), .int .i64 (Xe16.v)] [(Xe16 : PairD)] := Els.one ⟨rfl, by assumption, by assumption⟩ rfl
        refine rl_append_row F M (k := 1) (k2 := 0) rfl rfl tok22.k tok39 rfl rfl (by decide) rfl rfl (by show _ * 16 ≤ _; (try simp only [List.length_drop, List.length_take, List.length_append, List.length_cons, List.length_nil]); omega) (by (try simp only [List.length_drop, List.length_take, List.length_append, List.length_cons, List.length_nil]); omega) rfl ?_; clear F M a; intro v22 w a M F
        have Ev22 := Els.append Eb E21
        obtain ⟨av22, cv22, rfl, hlev22, hcmv22, hlv22⟩ := M.row_shape (k := 1) rfl
        refine rl_run F (run_assign (F.ev rfl)) rfl ?_; clear F a; intro a F
        refine rl_nil ?_
        refine q_bn ?_
        refine q_tn ?_
        refine w_reg ?_
        refine rl_run F (run_move (F.ev rfl)) rfl ?_; clear F a; intro a F
        refine rl_run F (run_addi (F.ev rfl) (F.ev rfl) (in_i64 (by omega) (by omega))) rfl ?_; clear F a; intro a F
        refine rl_run F (run_assign (F.ev rfl)) rfl ?_; clear F a; intro a F
        refine rl_nil ?_
        refine q_tn ?_
        exact ⟨_, by omega, j + 1, (av22), (nb + 1), (cv22), (csb ++ ([.int .u64 (Xe16.key), .int .i64 (Xe16.v)])), rfl, F.to ⟨rfl, rfl, rfl, rfl, trivial⟩, (M.weaken (.cons _ (.cons_cons _ (List.Sublist.refl _)))), by omega, by rw [rmB_yes hXe16 (any_no (at_none haz17 (by omega))), List.length_append, hnb] <;> rfl, by rw [rmB_yes hXe16 (any_no (at_none haz17 (by omega)))]; exact Ev22⟩
      · intro hc
        have h23b := hc; clear hc
        have h23 : ¬ (z17 < 0) := of_decide_eq_false h23b
        refine wp_skip ?_
        refine q_bn ?_
        refine q_tn ?_
        refine w_reg ?_
        refine rl_run F (run_move (F.ev rfl)) rfl ?_; clear F a; intro a F
        refine rl_run F (run_addi (F.ev rfl) (F.ev rfl) (in_i64 (by omega) (by omega))) rfl ?_; clear F a; intro a F
        refine rl_run F (run_assign (F.ev rfl)) rfl ?_; clear F a; intro a F
        refine rl_nil ?_
        refine q_tn ?_
        obtain ⟨iq, Yq, _, hYq, hkq, _⟩ := at_some haz17 (by omega)
        exact ⟨_, by omega, j + 1, (ab), (nb), (cb), (csb), rfl, F.to ⟨rfl, rfl, rfl, rfl, trivial⟩, M, by omega, by rw [rmB_no hXe16 (any_yes hYq hkq)]; exact hnb, by rw [rmB_no hXe16 (any_yes hYq hkq)]; exact Eb⟩
    · intro hc
      have h24b := hc; clear hc
      have h24 : ¬ (((j : Nat) : Int) < ((ys.length : Nat) : Int)) := of_decide_eq_false h24b
      refine wp_exit ?_
      refine q_te ?_
      refine q_te ?_
      refine q_bh ?_
      refine q_tn ?_
      refine wp_seq ?_
      refine w_reg ?_
      refine rl_run F (run_move (F.ev rfl)) rfl ?_; clear F a; intro a F
      refine rl_run F (run_assign (F.ev rfl)) rfl ?_; clear F a; intro a F
      refine rl_nil ?_
      refine q_tn ?_
      refine wp_ret ?_
      refine fin1 F rfl rfl ?_
      obtain ⟨hnz25, Gz25, az25, cz25, hGz25, hez25, Sz25, M⟩ := M.freeze_row mono_rdPair (k := 0) rfl Eb (by decide)
      clear hez25 az25 cz25
      exact ⟨Gz25, hGz25, (M.weaken (List.Sublist.refl _)), _, _, by rw [hnz25, rmB_end (by omega)], by have h := Sz25; rw [hnz25, rmB_end (by omega)] at h; exact h⟩

end Go.Proofs.YtokeofoemjeleaaDoor
