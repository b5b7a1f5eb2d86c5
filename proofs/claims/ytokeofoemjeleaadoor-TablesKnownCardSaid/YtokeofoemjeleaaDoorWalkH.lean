/- The walks, part H. -/
import Derived.Test.YtokeofoemjeleaaDoorWalkG
import Derived.Test.YtokeofoemjeleaaDoorStb
namespace Go.Proofs.YtokeofoemjeleaaDoor
open Go Go.Y Go.Proofs
set_option linter.unusedSimpArgs false
set_option linter.unusedVariables false
theorem stable_spec {w0 w : World} {G : Ghost} {L : List Res} {n c d : Nat} {ad : Option Addr} {cs : List Value} {xs : List PairD} (M : Mem w0 G (.row (.slice ad n c) n cs 39 2 :: L) w) (E : Els rdPair 2 G cs xs) (hn : n = xs.length) (hxs : xs.length ≤ 1000000) :
    Calls Tryd.prog 52 #[.slice ad n d, .int .i64 (n : Int), .func (.func 41) #[.agg #[]] #[]] w (RetL w0 G fun L' v => v = .tuple #[] ∧ ∃ cs' ys, L' = (.row (.slice ad n c) n cs' 39 2 :: L) ∧ Els rdPair 2 G cs' ys ∧ Seg 0 n xs ys ∧ SrtR ys 0 n) := by
  refine calls_start (vs := [_, _, _]) Tryd.func52 rfl (n := 63) rfl rfl ?_
  intro a F
  refine wp_seq ?_
  refine w_reg ?_
  refine rl_run F (run_assign (F.ev rfl)) rfl ?_; clear F a; intro a F
  refine rl_nil ?_
  refine q_tn ?_
  refine wp_seq ?_
  refine w_reg ?_
  refine rl_run F (run_move (F.ev rfl)) rfl ?_; clear F a; intro a F
  refine rl_run F (run_assign (F.ev rfl)) rfl ?_; clear F a; intro a F
  refine rl_run F (run_assign (F.ev rfl)) rfl ?_; clear F a; intro a F
  refine rl_nil ?_
  refine q_tn ?_
  refine wp_seq ?_
  refine wp_block ?_
  refine w_loopN (fun m a' w' => ∃ (x : Nat), ∃ (cso : List Value), ∃ (ys : List PairD), m = n - x ∧ Fits 63 a' [(0, .slice (ad) (n) (d)), (1, .int .i64 (((n : Nat) : Int))), (2, .func (.func 41) #[.agg #[]] #[]), (6, .int .i64 (20)), (7, .int .i64 (((x : Nat) : Int))), (8, .int .i64 (((x + 20 : Nat) : Int)))] ∧ Mem w0 G (.row (.slice (ad) (n) (c)) (n) (cso) 39 2 :: L) w' ∧ (x % 20 = 0 ∧ x ≤ n) ∧ (∀ t, t * 20 < x → SrtR ys (t * 20) (t * 20 + 20)) ∧ (Seg 0 n xs ys) ∧ (Els rdPair 2 G cso ys)) _ ⟨0, cs, xs, rfl, F.to ⟨rfl, rfl, rfl, rfl, rfl, rfl, trivial⟩, M, by omega, fun t h => by omega, Seg.refl _ _ _, E⟩ ?_
  clear F M
  rintro m a w ⟨x, cso, ys, rfl, F, M, hx, hB, hG, Eo⟩
  refine wp_seq ?_
  refine wp_seq ?_
  have hyl := hG.len
  refine w_reg ?_
  refine rl_run F (run_move (F.ev rfl)) rfl ?_; clear F a; intro a F
  refine rl_run F (run_move (F.ev rfl)) rfl ?_; clear F a; intro a F
  refine rl_run F (run_leq (F.ev rfl) (F.ev rfl)) rfl ?_; clear F a; intro a F
  refine rl_nil ?_
  refine q_tn ?_
  refine w_cond F rfl ?_ ?_
  · intro hc
    have h1b := hc; clear hc
    have h1 : ((x + 20 : Nat) : Int) ≤ ((n : Nat) : Int) := of_decide_eq_true h1b
    refine wp_skip ?_
    refine q_tn ?_
    refine wp_block ?_
    refine wp_seq ?_
    refine w_reg ?_
    refine rl_run F (run_move (F.ev rfl)) rfl ?_; clear F a; intro a F
    refine rl_run F (run_move (F.ev rfl)) rfl ?_; clear F a; intro a F
    refine rl_run F (run_move (F.ev rfl)) rfl ?_; clear F a; intro a F
    refine rl_run F (run_move (F.ev rfl)) rfl ?_; clear F a; intro a F
    change Mem w0 G (.row (.slice (ad) (n) (c)) (n) (cso) 39 2 :: L) _ at M
    refine rl_callL F ent62 rfl rfl (ins_spec (lo := x) (b := x + 20) M Eo (by omega) (by omega) (by omega) (by omega)) ?_; clear F M a; rintro _ _ w a M ⟨rfl, csg2, ysg2, rfl, Eg2, hGg2, hSg2⟩ F
    refine rl_nil ?_
    refine q_tn ?_
    refine wp_seq ?_
    refine w_reg ?_
    refine rl_run F (run_move (F.ev rfl)) rfl ?_; clear F a; intro a F
    refine rl_run F (run_assign (F.ev rfl)) rfl ?_; clear F a; intro a F
    refine rl_nil ?_
    refine q_tn ?_
    refine w_reg ?_
    refine rl_run F (run_move (F.ev rfl)) rfl ?_; clear F a; intro a F
    refine rl_run F (run_move (F.ev rfl)) rfl ?_; clear F a; intro a F
    refine rl_run F (run_addi (F.ev rfl) (F.ev rfl) (in_i64 (by omega) (by omega))) rfl ?_; clear F a; intro a F
    refine rl_run F (run_assign (F.ev rfl)) rfl ?_; clear F a; intro a F
    refine rl_nil ?_
    refine q_bn ?_
    refine q_tn ?_
    exact ⟨_, by omega, x + 20, csg2, ysg2, rfl, F.to ⟨rfl, rfl, rfl, rfl, rfl, rfl, trivial⟩, M, by omega, b20_step hx.1 hB hGg2 hSg2, hG.trans (hGg2.mono (Nat.zero_le _) (by omega)), Eg2⟩
  · intro hc
    have h3b := hc; clear hc
    have h3 : ¬ (((x + 20 : Nat) : Int) ≤ ((n : Nat) : Int)) := of_decide_eq_false h3b
    refine wp_exit ?_
    refine q_te ?_
    refine q_te ?_
    refine q_bh ?_
    refine q_tn ?_
    refine wp_seq ?_
    refine w_reg ?_
    refine rl_run F (run_move (F.ev rfl)) rfl ?_; clear F a; intro a F
    refine rl_run F (run_move (F.ev rfl)) rfl ?_; clear F a; intro a F
    refine rl_run F (run_move (F.ev rfl)) rfl ?_; clear F a; intro a F
    refine rl_run F (run_move (F.ev rfl)) rfl ?_; clear F a; intro a F
    change Mem w0 G (.row (.slice (ad) (n) (c)) (n) (cso) 39 2 :: L) _ at M
    refine rl_callL F ent62 rfl rfl (ins_spec (lo := x) (b := n) M Eo (by omega) (by omega) (by omega) (by omega)) ?_; clear F M a; rintro _ _ w a M ⟨rfl, csg4, ysg4, rfl, Eg4, hGg4, hSg4⟩ F
    refine rl_nil ?_
    refine q_tn ?_
    refine wp_block ?_
    have hAB := b20_end hx.1 (by omega) hx.2 hB hGg4 hSg4
    have hGG := hG.trans (hGg4.mono (Nat.zero_le _) (Nat.le_refl _))
    refine w_loopN (fun m a' w' => ∃ (bs : Nat), ∃ (csp : List Value), ∃ (zs : List PairD), m = n - bs ∧ Fits 63 a' [(0, .slice (ad) (n) (d)), (1, .int .i64 (((n : Nat) : Int))), (2, .func (.func 41) #[.agg #[]] #[]), (6, .int .i64 (((bs : Nat) : Int)))] ∧ Mem w0 G (.row (.slice (ad) (n) (c)) (n) (csp) 39 2 :: L) w' ∧ (0 < bs) ∧ (AllB bs n zs) ∧ (Seg 0 n xs zs) ∧ (Els rdPair 2 G csp zs)) _ ⟨20, csg4, ysg4, rfl, F.to ⟨rfl, rfl, rfl, rfl, trivial⟩, M, by omega, hAB, hGG, Eg4⟩ ?_
    clear F M
    rintro m a w ⟨bs, csp, zs, rfl, F, M, hbs, hAll, hG1, Ep⟩
    refine wp_seq ?_
    refine wp_seq ?_
    refine w_reg ?_
    refine rl_run F (run_move (F.ev rfl)) rfl ?_; clear F a; intro a F
    refine rl_run F (run_move (F.ev rfl)) rfl ?_; clear F a; intro a F
    refine rl_run F (run_lss (F.ev rfl) (F.ev rfl)) rfl ?_; clear F a; intro a F
    refine rl_nil ?_
    refine q_tn ?_
    refine w_cond F rfl ?_ ?_
    · intro hc
      have h5b := hc; clear hc
      have h5 : ((bs : Nat) : Int) < ((n : Nat) : Int) := of_decide_eq_true h5b
      refine wp_skip ?_
      refine q_tn ?_
      refine wp_block ?_
      refine wp_seq ?_
      refine w_reg ?_
      refine rl_run F (run_move (F.ev rfl)) rfl ?_; clear F a; intro a F
      refine rl_run F (run_muli (F.ev rfl) (F.ev rfl) (in_i64 (by omega) (by omega))) rfl ?_; clear F a; intro a F
      refine rl_run F (run_assign (F.ev rfl)) rfl ?_; clear F a; intro a F
      refine rl_run F (run_assign (F.ev rfl)) rfl ?_; clear F a; intro a F
      refine rl_nil ?_
      refine q_tn ?_
      refine wp_seq ?_
      refine wp_block ?_
      refine w_loopN (fun m a' w' => ∃ (x : Nat), ∃ (y : Nat), ∃ (csr : List Value), ∃ (us : List PairD), m = n - x ∧ Fits 63 a' [(0, .slice (ad) (n) (d)), (1, .int .i64 (((n : Nat) : Int))), (2, .func (.func 41) #[.agg #[]] #[]), (6, .int .i64 (((bs : Nat) : Int))), (7, .int .i64 (((x : Nat) : Int))), (8, .int .i64 (((y : Nat) : Int)))] ∧ Mem w0 G (.row (.slice (ad) (n) (c)) (n) (csr) 39 2 :: L) w' ∧ (y = x + 2 * bs) ∧ (x ≤ n) ∧ (∃ t0, x = t0 * (2 * bs)) ∧ (∀ t, t * (2 * bs) < x → SrtR us (t * (2 * bs)) (t * (2 * bs) + 2 * bs)) ∧ (∀ t, x ≤ t * bs → SrtR us (t * bs) (min (t * bs + bs) n)) ∧ (Seg 0 n xs us) ∧ (Els rdPair 2 G csr us)) _ ⟨0, 2 * bs, csp, zs, rfl, F.to ⟨rfl, rfl, rfl, rfl, rfl, rfl, trivial⟩, M, by omega, Nat.zero_le _, ⟨0, by rw [Nat.zero_mul]⟩, fun t h => by omega, hAll.after, hG1, Ep⟩ ?_
      clear F M
      rintro m a w ⟨x, y, csr, us, rfl, F, M, hy, hxn, hx0, hA, hBk, hG2, Er⟩
      refine wp_seq ?_
      refine wp_seq ?_
      obtain ⟨t0, ht0⟩ := hx0
      obtain ⟨hb1, hb2⟩ := two_blocks ht0 hBk
      have hul := hG2.len
      refine w_reg ?_
      refine rl_run F (run_move (F.ev rfl)) rfl ?_; clear F a; intro a F
      refine rl_run F (run_move (F.ev rfl)) rfl ?_; clear F a; intro a F
      refine rl_run F (run_leq (F.ev rfl) (F.ev rfl)) rfl ?_; clear F a; intro a F
      refine rl_nil ?_
      refine q_tn ?_
      refine w_cond F rfl ?_ ?_
      · intro hc
        have h6b := hc; clear hc
        have h6 : ((y : Nat) : Int) ≤ ((n : Nat) : Int) := of_decide_eq_true h6b
        refine wp_skip ?_
        refine q_tn ?_
        refine wp_block ?_
        refine wp_seq ?_
        rw [Nat.min_eq_left (by omega)] at hb1 hb2
        have hyb : y = x + 2 * bs := hy
        have hb3 : SrtR us (x + bs) y := hb2.mono (Nat.le_refl _) (by omega)
        refine w_reg ?_
        refine rl_run F (run_move (F.ev rfl)) rfl ?_; clear F a; intro a F
        refine rl_run F (run_move (F.ev rfl)) rfl ?_; clear F a; intro a F
        refine rl_run F (run_move (F.ev rfl)) rfl ?_; clear F a; intro a F
        refine rl_run F (run_move (F.ev rfl)) rfl ?_; clear F a; intro a F
        refine rl_run F (run_addi (F.ev rfl) (F.ev rfl) (in_i64 (by omega) (by omega))) rfl ?_; clear F a; intro a F
        refine rl_run F (run_move (F.ev rfl)) rfl ?_; clear F a; intro a F
        refine rl_run F (run_move (F.ev rfl)) rfl ?_; clear F a; intro a F
        change Mem w0 G (.row (.slice (ad) (n) (c)) (n) (csr) 39 2 :: L) _ at M
        refine rl_callL F ent63 rfl rfl (sym_all (y + 1) _ _ _ _ _ _ _ _ _ _ x (x + bs) y M Er (by omega) (by omega) (by omega) (by omega) (by omega) hb1 hb3 (by omega)) ?_; clear F M a; rintro _ _ w a M ⟨rfl, csg7, ysg7, rfl, Eg7, hGg7, hSg7⟩ F
        refine rl_nil ?_
        refine q_tn ?_
        refine wp_seq ?_
        refine w_reg ?_
        refine rl_run F (run_move (F.ev rfl)) rfl ?_; clear F a; intro a F
        refine rl_run F (run_assign (F.ev rfl)) rfl ?_; clear F a; intro a F
        refine rl_nil ?_
        refine q_tn ?_
        refine w_reg ?_
        refine rl_run F (run_move (F.ev rfl)) rfl ?_; clear F a; intro a F
        refine rl_run F (run_move (F.ev rfl)) rfl ?_; clear F a; intro a F
        refine rl_run F (run_muli (F.ev rfl) (F.ev rfl) (in_i64 (by omega) (by omega))) rfl ?_; clear F a; intro a F
        refine rl_run F (run_addi (F.ev rfl) (F.ev rfl) (in_i64 (by omega) (by omega))) rfl ?_; clear F a; intro a F
        refine rl_run F (run_assign (F.ev rfl)) rfl ?_; clear F a; intro a F
        refine rl_nil ?_
        refine q_bn ?_
        refine q_tn ?_
        exact ⟨_, by omega, y, y + 2 * bs, csg7, ysg7, rfl, F.to ⟨rfl, rfl, rfl, rfl, rfl, rfl, trivial⟩, M, by omega, by omega, ⟨t0 + 1, by rw [Nat.add_mul, Nat.one_mul, ← ht0]; omega⟩, fun t h => by have h2 := bb_step ht0 hA (hGg7.mono (Nat.le_refl _) (by omega)) (hyb ▸ hSg7) t (by omega); exact h2, fun t h => hGg7.srt_out (hBk t (by omega)) h, hG2.trans (hGg7.mono (Nat.zero_le _) (by omega)), Eg7⟩
      · intro hc
        have h8b := hc; clear hc
        have h8 : ¬ (((y : Nat) : Int) ≤ ((n : Nat) : Int)) := of_decide_eq_false h8b
        refine wp_exit ?_
        refine q_te ?_
        refine q_te ?_
        refine q_bh ?_
        refine q_tn ?_
        refine wp_seq ?_
        refine wp_seq ?_
        refine w_reg ?_
        refine rl_run F (run_move (F.ev rfl)) rfl ?_; clear F a; intro a F
        refine rl_run F (run_move (F.ev rfl)) rfl ?_; clear F a; intro a F
        refine rl_run F (run_addi (F.ev rfl) (F.ev rfl) (in_i64 (by omega) (by omega))) rfl ?_; clear F a; intro a F
        refine rl_run F (run_assign (F.ev rfl)) rfl ?_; clear F a; intro a F
        refine rl_nil ?_
        refine q_tn ?_
        refine wp_seq ?_
        refine w_reg ?_
        refine rl_run F (run_move (F.ev rfl)) rfl ?_; clear F a; intro a F
        refine rl_run F (run_move (F.ev rfl)) rfl ?_; clear F a; intro a F
        refine rl_run F (run_lss (F.ev rfl) (F.ev rfl)) rfl ?_; clear F a; intro a F
        refine rl_nil ?_
        refine q_tn ?_
        refine w_cond F rfl ?_ ?_
        · intro hc
          have h9b := hc; clear hc
          have h9 : (((x : Nat) : Int)) + (((bs : Nat) : Int)) < ((n : Nat) : Int) := of_decide_eq_true h9b
          rw [Nat.min_eq_left (by omega)] at hb1
          rw [Nat.min_eq_right (by omega)] at hb2
          refine w_reg ?_
          refine rl_run F (run_move (F.ev rfl)) rfl ?_; clear F a; intro a F
          refine rl_run F (run_move (F.ev rfl)) rfl ?_; clear F a; intro a F
          refine rl_run F (run_move (F.ev rfl)) rfl ?_; clear F a; intro a F
          refine rl_run F (run_move (F.ev rfl)) rfl ?_; clear F a; intro a F
          refine rl_run F (run_move (F.ev rfl)) rfl ?_; clear F a; intro a F
          change Mem w0 G (.row (.slice (ad) (n) (c)) (n) (csr) 39 2 :: L) _ at M
          refine rl_callL F ent63 rfl rfl (sym_all (n + 1) _ _ _ _ _ _ _ _ _ _ x (x + bs) n M Er (by omega) (by omega) (by omega) (by omega) (by omega) hb1 hb2 (by omega)) ?_; clear F M a; rintro _ _ w a M ⟨rfl, csg10, ysg10, rfl, Eg10, hGg10, hSg10⟩ F
          refine rl_nil ?_
          refine q_tn ?_
          refine w_reg ?_
          refine rl_run F (run_move (F.ev rfl)) rfl ?_; clear F a; intro a F
          refine rl_run F (run_muli (F.ev rfl) (F.ev rfl) (in_i64 (by omega) (by omega))) rfl ?_; clear F a; intro a F
          refine rl_run F (run_assign (F.ev rfl)) rfl ?_; clear F a; intro a F
          refine rl_nil ?_
          refine q_bn ?_
          refine q_tn ?_
          exact ⟨_, by omega, bs * 2, csg10, ysg10, rfl, F.to ⟨rfl, rfl, rfl, rfl, trivial⟩, M, by omega, (by have h2 := bb_end ht0 (by omega) hA hGg10 hSg10; rw [Nat.mul_comm bs 2]; exact h2), hG2.trans (hGg10.mono (Nat.zero_le _) (Nat.le_refl _)), Eg10⟩
        · intro hc
          have h11b := hc; clear hc
          have h11 : ¬ ((((x : Nat) : Int)) + (((bs : Nat) : Int)) < ((n : Nat) : Int)) := of_decide_eq_false h11b
          refine wp_skip ?_
          refine q_tn ?_
          refine w_reg ?_
          refine rl_run F (run_move (F.ev rfl)) rfl ?_; clear F a; intro a F
          refine rl_run F (run_muli (F.ev rfl) (F.ev rfl) (in_i64 (by omega) (by omega))) rfl ?_; clear F a; intro a F
          refine rl_run F (run_assign (F.ev rfl)) rfl ?_; clear F a; intro a F
          refine rl_nil ?_
          refine q_bn ?_
          refine q_tn ?_
          exact ⟨_, by omega, bs * 2, csr, us, rfl, F.to ⟨rfl, rfl, rfl, rfl, trivial⟩, M, by omega, (by rw [Nat.min_eq_right (by omega)] at hb1; have h2 := bb_end ht0 (by omega) hA (Seg.refl _ _ _) hb1; rw [Nat.mul_comm bs 2]; exact h2), hG2, Er⟩
    · intro hc
      have h12b := hc; clear hc
      have h12 : ¬ (((bs : Nat) : Int) < ((n : Nat) : Int)) := of_decide_eq_false h12b
      refine wp_exit ?_
      refine q_te ?_
      refine q_te ?_
      refine q_bh ?_
      refine fin0n F rfl ?_
      exact ⟨_, M, rfl, _, _, rfl, Ep, hG1, hAll.all (by omega)⟩

theorem sortst_spec {w0 w : World} {G : Ghost} {L : List Res} {n c d : Nat} {ad : Option Addr} {cs : List Value} {xs : List PairD} (M : Mem w0 G (.row (.slice ad n c) n cs 39 2 :: L) w) (E : Els rdPair 2 G cs xs) (hn : n = xs.length) (hxs : xs.length ≤ 1000000) :
    Calls Tryd.prog 42 #[.slice ad n d, .func (.func 41) #[.agg #[]] #[]] w (RetL w0 G fun L' v => v = .tuple #[] ∧ ∃ cs' ys, L' = (.row (.slice ad n c) n cs' 39 2 :: L) ∧ Els rdPair 2 G cs' ys ∧ Seg 0 n xs ys ∧ SrtR ys 0 n) := by
  refine calls_start (vs := [_, _]) Tryd.func42 rfl (n := 9) rfl rfl ?_
  intro a F
  refine w_reg ?_
  refine rl_run F (run_move (F.ev rfl)) rfl ?_; clear F a; intro a F
  refine rl_run F (run_move (F.ev rfl)) rfl ?_; clear F a; intro a F
  refine rl_run F (run_lenSl tok22.k (F.ev rfl)) rfl ?_; clear F a; intro a F
  refine rl_run F (run_move (F.ev rfl)) rfl ?_; clear F a; intro a F
  change Mem w0 G (.row (.slice (ad) (n) (c)) (n) (cs) 39 2 :: L) _ at M
  refine rl_callL F ent52 rfl rfl (stable_spec M E hn (by omega)) ?_; clear F M a; rintro _ _ w a M ⟨rfl, csg1, ysg1, rfl, Eg1, hGg1, hSg1⟩ F
  refine rl_nil ?_
  refine fin0n F rfl ?_
  exact ⟨_, M, rfl, _, _, rfl, Eg1, hGg1, hSg1⟩

theorem sorted_spec {w0 w : World} {G : Ghost} {L : List Res} (M : Mem w0 G L w) {ad : Option Addr} {c : Nat} {xs : List PairD} (S : RdSl rdPair 2 G (.slice ad xs.length c) xs) (hxs : xs.length ≤ 9223372036854775807) (hlen0 : xs.length ≤ 1000000) :
    Calls Tryd.prog 22 #[.slice ad xs.length c] w (Ret w0 G L fun G' v => ∃ a' ys, v = .slice a' ys.length ys.length ∧ RdSl rdPair 2 G' (.slice a' ys.length ys.length) ys ∧ Same xs ys ∧ ys.length = xs.length ∧ SrtR ys 0 ys.length) := by
  refine calls_start (vs := [_]) Tryd.func22 rfl (n := 14) rfl rfl ?_
  intro a F
  refine wp_seq ?_
  refine w_reg ?_
  refine rl_run F (run_assign (F.ev rfl)) rfl ?_; clear F a; intro a F
  refine rl_nil ?_
  refine q_tn ?_
  refine wp_seq ?_
  refine w_reg ?_
  refine rl_run F (run_move (F.ev rfl)) rfl ?_; clear F a; intro a F
  refine rl_callL F ent27 rfl rfl (clone_spec M S (by omega) (by omega)) ?_; clear F M a; rintro _ _ w a M ⟨ak1, nk1, ck1, csk1, rfl, rfl, hnk1, Ek1⟩ F
  have sh2 := M.row_bound (k := 0) rfl
  refine rl_callS F ent31 rfl rfl (clip_spec M sh2.1 sh2.2) ?_; clear F M a; rintro _ w a M rfl F
  refine rl_run F (run_assign (F.ev rfl)) rfl ?_; clear F a; intro a F
  refine rl_nil ?_
  refine q_tn ?_
  refine wp_seq ?_
  refine w_reg ?_
  refine rl_run F (run_buildS (cs := []) (ps := []) tok87.k rfl tok87 (F.evp rfl) rfl) rfl ?_; clear F a; intro a F
  refine rl_run F (run_makeFunc1 (F.ev rfl)) rfl ?_; clear F a; intro a F
  refine rl_run F (run_assign (F.ev rfl)) rfl ?_; clear F a; intro a F
  refine rl_nil ?_
  refine q_tn ?_
  refine wp_seq ?_
  refine w_reg ?_
  refine rl_run F (run_move (F.ev rfl)) rfl ?_; clear F a; intro a F
  refine rl_run F (run_move (F.ev rfl)) rfl ?_; clear F a; intro a F
  change Mem w0 G (.row (.slice (ak1) (nk1) (ck1)) (nk1) (csk1) 39 2 :: L) _ at M
  refine rl_callL F ent42 rfl rfl (sortst_spec M Ek1 hnk1 (by omega)) ?_; clear F M a; rintro _ _ w a M ⟨rfl, csg3, ysg3, rfl, Eg3, hGg3, hSg3⟩ F
  refine rl_nil ?_
  refine q_tn ?_
  refine wp_seq ?_
  refine w_reg ?_
  refine rl_run F (run_move (F.ev rfl)) rfl ?_; clear F a; intro a F
  refine rl_run F (run_assign (F.ev rfl)) rfl ?_; clear F a; intro a F
  refine rl_nil ?_
  refine q_tn ?_
  refine wp_ret ?_
  refine fin1 F rfl rfl ?_
  have hlg3 := hGg3.len
  have hSg3 : SrtR ysg3 0 ysg3.length := hSg3.mono (Nat.le_refl _) (by omega)
  obtain ⟨hnz4, Gz4, az4, cz4, hGz4, hez4, Sz4, M⟩ := M.freeze_row mono_rdPair (k := 0) rfl Eg3 (by decide)
  clear hez4 az4 cz4
  exact ⟨Gz4, hGz4, M.weaken (List.Sublist.refl _), _, ysg3, by rw [← hnz4], by have h := Sz4.clip; rw [hnz4] at h; exact h, hGg3.same, hlg3, hSg3⟩

end Go.Proofs.YtokeofoemjeleaaDoor
