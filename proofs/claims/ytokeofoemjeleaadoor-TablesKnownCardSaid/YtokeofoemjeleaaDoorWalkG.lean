/- The walks, part G. -/
import Derived.Test.YtokeofoemjeleaaDoorWalkF
namespace Go.Proofs.YtokeofoemjeleaaDoor
open Go Go.Y Go.Proofs
set_option linter.unusedSimpArgs false
set_option linter.unusedVariables false
def SymP (N : Nat) : Prop := ∀ (w0 w : World) (G : Ghost) (L : List Res) (n c d : Nat) (ad : Option Addr) (cs : List Value) (xs : List PairD) (lo mi hi : Nat), Mem w0 G (.row (.slice ad n c) n cs 39 2 :: L) w → Els rdPair 2 G cs xs → n = xs.length → xs.length ≤ 1000000 → lo < mi → mi < hi → hi ≤ xs.length → SrtR xs lo mi → SrtR xs mi hi → hi - lo < N →
    Calls Tryd.prog 63 #[.slice ad n d, .int .i64 (lo : Int), .int .i64 (mi : Int), .int .i64 (hi : Int), .func (.func 41) #[.agg #[]] #[]] w (RetL w0 G fun L' v => v = .tuple #[] ∧ ∃ cs' ys, L' = (.row (.slice ad n c) n cs' 39 2 :: L) ∧ Els rdPair 2 G cs' ys ∧ Seg lo hi xs ys ∧ SrtR ys lo hi)

theorem sym_step {N : Nat} (ih : SymP N) {w0 w : World} {G : Ghost} {L : List Res} {n c d : Nat} {ad : Option Addr} {cs : List Value} {xs : List PairD} (M : Mem w0 G (.row (.slice ad n c) n cs 39 2 :: L) w) (E : Els rdPair 2 G cs xs) (hn : n = xs.length) (hxs : xs.length ≤ 1000000) {lo mi hi : Nat} (h1 : lo < mi) (h2 : mi < hi) (hhx : hi ≤ xs.length) (hs1 : SrtR xs lo mi) (hs2 : SrtR xs mi hi) (hN : hi - lo < N + 1) :
    Calls Tryd.prog 63 #[.slice ad n d, .int .i64 (lo : Int), .int .i64 (mi : Int), .int .i64 (hi : Int), .func (.func 41) #[.agg #[]] #[]] w (RetL w0 G fun L' v => v = .tuple #[] ∧ ∃ cs' ys, L' = (.row (.slice ad n c) n cs' 39 2 :: L) ∧ Els rdPair 2 G cs' ys ∧ Seg lo hi xs ys ∧ SrtR ys lo hi) := by
  refine calls_start (vs := [_, _, _, _, _]) Tryd.func63 rfl (n := 220) rfl rfl ?_
  intro a F
  refine wp_seq ?_
  refine wp_seq ?_
  refine w_reg ?_
  refine rl_run F (run_move (F.ev rfl)) rfl ?_; clear F a; intro a F
  refine rl_run F (run_move (F.ev rfl)) rfl ?_; clear F a; intro a F
  refine rl_run F (run_subi (F.ev rfl) (F.ev rfl) (in_i64 (by omega) (by omega))) rfl ?_; clear F a; intro a F
  refine rl_run F (run_eqi (F.ev rfl) (F.ev rfl)) rfl ?_; clear F a; intro a F
  refine rl_nil ?_
  refine q_tn ?_
  refine w_cond F rfl ?_ ?_
  · intro hc
    have h1b := hc; clear hc
    have h1 : (mi : Int) - (lo : Int) = 1 := of_decide_eq_true h1b
    refine wp_seq ?_
    obtain ⟨X0, hX0⟩ := get_of_lt (xs := xs) (i := lo) (by omega)
    have hml : mi = lo + 1 := by omega
    refine w_reg ?_
    refine rl_run F (run_move (F.ev rfl)) rfl ?_; clear F a; intro a F
    refine rl_run F (run_assign (F.ev rfl)) rfl ?_; clear F a; intro a F
    refine rl_nil ?_
    refine q_tn ?_
    refine wp_seq ?_
    refine w_reg ?_
    refine rl_run F (run_move (F.ev rfl)) rfl ?_; clear F a; intro a F
    refine rl_run F (run_assign (F.ev rfl)) rfl ?_; clear F a; intro a F
    refine rl_nil ?_
    refine q_tn ?_
    refine wp_seq ?_
    refine wp_block ?_
    refine w_loopN (fun m a' w' => ∃ (i : Nat), ∃ (j : Nat), m = j - i ∧ Fits 220 a' [(0, .slice (ad) (n) (d)), (1, .int .i64 ((lo : Int))), (2, .int .i64 ((mi : Int))), (3, .int .i64 ((hi : Int))), (4, .func (.func 41) #[.agg #[]] #[]), (10, .int .i64 (((i : Nat) : Int))), (11, .int .i64 (((j : Nat) : Int)))] ∧ Mem w0 G (.row (.slice (ad) (n) (c)) (n) (cs) 39 2 :: L) w' ∧ (lo + 1 ≤ i ∧ i ≤ j) ∧ (j ≤ hi) ∧ (Lo xs (lo + 1) i X0.key) ∧ (Hi xs j hi X0.key)) _ ⟨mi, hi, rfl, F.to ⟨rfl, rfl, rfl, rfl, rfl, rfl, rfl, trivial⟩, M, by omega, Nat.le_refl _, hml ▸ lo_none, hi_none⟩ ?_
    clear F M
    rintro m a w ⟨i, j, rfl, F, M, hi1, hj1, hLo, hHi⟩
    refine wp_seq ?_
    refine wp_seq ?_
    refine w_reg ?_
    refine rl_run F (run_move (F.ev rfl)) rfl ?_; clear F a; intro a F
    refine rl_run F (run_move (F.ev rfl)) rfl ?_; clear F a; intro a F
    refine rl_run F (run_lss (F.ev rfl) (F.ev rfl)) rfl ?_; clear F a; intro a F
    refine rl_nil ?_
    refine q_tn ?_
    refine w_cond F rfl ?_ ?_
    · intro hc
      have h2b := hc; clear hc
      have h2 : ((i : Nat) : Int) < ((j : Nat) : Int) := of_decide_eq_true h2b
      refine wp_skip ?_
      refine q_tn ?_
      refine wp_block ?_
      refine wp_seq ?_
      refine w_reg ?_
      refine rl_run F (run_move (F.ev rfl)) rfl ?_; clear F a; intro a F
      refine rl_run F (run_move (F.ev rfl)) rfl ?_; clear F a; intro a F
      refine rl_run F (run_addi (F.ev rfl) (F.ev rfl) (in_i64 (by omega) (by omega))) rfl ?_; clear F a; intro a F
      refine rl_run F (run_conv_int tok117.k ⟨_, by rw [under_int tok3.k]⟩ (F.ev rfl) (in_u64 (by omega) (by omega))) rfl ?_; clear F a; intro a F
      refine rl_run F (run_shri (m := 1) (F.ev rfl) (F.ev rfl) rfl (by decide)) rfl ?_; clear F a; intro a F
      have hs3 : (((((i : Nat) : Int)) + (((j : Nat) : Int))) / 2 ^ 1 : Int) = (((i + j) / 2 : Nat) : Int) := by rw [show (2 : Int) ^ 1 = 2 from rfl]; omega
      rw [hs3] at F
      refine rl_run F (run_conv_int tok3.k ⟨_, by rw [under_int tok117.k]⟩ (F.ev rfl) (in_i64 (by omega) (by omega))) rfl ?_; clear F a; intro a F
      refine rl_run F (run_assign (F.ev rfl)) rfl ?_; clear F a; intro a F
      refine rl_nil ?_
      refine q_tn ?_
      refine wp_seq ?_
      refine w_plan2 [(.free, 0), (.free, 1), (.free, 2), (.free, 3), (.pure, 4), (.free, 5), (.free, 6), (.free, 7), (.pure, 8), (.keep, 9), (.free, 10)] [] (Keep G [.row (.slice (ad) (n) (c)) (n) (cs) 39 2]) rfl (by kernel_rfl) (fun c a d v w h => by cases d <;> exact h) ((M.drew _).keep (Gle.refl _) (by simp)) ?_
      replace M := M.drew (w.drawn + 1)
      refine pk_free F (fun w _ => run_move (F.ev rfl)) rfl ?_; clear F a; intro a F
      refine pk_free F (fun w _ => run_move (F.ev rfl)) rfl ?_; clear F a; intro a F
      refine pk_free F (fun w _ => run_move (F.ev rfl)) rfl ?_; clear F a; intro a F
      obtain ⟨Xe4, hXe4⟩ := get_of_lt (xs := xs) (i := (i + j) / 2) (by omega)
      obtain ⟨be4, _, Ie4, hme4, _, Ae4, ⟨rfl, hbe41, hbe42⟩⟩ := M.atRowK (k := 0) rfl (by decide) E (Lr := [.row (.slice (ad) (n) (c)) (n) (cs) 39 2]) (k' := 0) rfl hXe4
      refine pk_free F (fun w _ => run_indexI tok22.k tok39 (F.ev rfl) (F.ev rfl) (by omega) Ie4) rfl ?_; clear F a; intro a F
      refine pk_pure F (fun w M => run_loadA tok39 rfl (F.ev rfl) (cs := [.int .u64 (Xe4.key), .int .i64 (Xe4.v)]) rfl (cellsE (Ae4 w M) 0 (by omega) rfl)) rfl ?_; clear F a; intro a F
      refine pk_free F (fun w _ => run_move (F.ev rfl)) rfl ?_; clear F a; intro a F
      refine pk_free F (fun w _ => run_move (F.ev rfl)) rfl ?_; clear F a; intro a F
      obtain ⟨be5, _, Ie5, hme5, _, Ae5, ⟨rfl, hbe51, hbe52⟩⟩ := M.atRowK (k := 0) rfl (by decide) E (Lr := [.row (.slice (ad) (n) (c)) (n) (cs) 39 2]) (k' := 0) rfl hX0
      refine pk_free F (fun w _ => run_indexI tok22.k tok39 (F.ev rfl) (F.ev rfl) (by omega) Ie5) rfl ?_; clear F a; intro a F
      refine pk_pure F (fun w M => run_loadA tok39 rfl (F.ev rfl) (cs := [.int .u64 (X0.key), .int .i64 (X0.v)]) rfl (cellsE (Ae5 w M) 0 (by omega) rfl)) rfl ?_; clear F a; intro a F
      refine pk_keep ?_ rfl
      refine rl_callF F ent41 rfl rfl rfl (bykey_spec (x := Xe4) (y := X0) M) ?_; clear F M a; rintro _ w a M rfl F
      refine rl_nil ?_
      refine ⟨Keep G [.row (.slice (ad) (n) (c)) (n) (cs) 39 2], M.keep (Gle.refl _) (by simp), fun w h => h.mono (Gle.refl _) (by simp), ?_⟩
      refine pk_free F (fun w _ => run_lss (F.ev rfl) (F.ev rfl)) rfl ?_; clear F a; intro a F
      refine pk_nil ?_
      refine q_tn ?_
      refine w_cond F rfl ?_ ?_
      · intro hc
        have h6b := hc; clear hc
        have h6 : cmpF Xe4.key X0.key < 0 := of_decide_eq_true h6b
        refine w_reg ?_
        refine rl_run F (run_move (F.ev rfl)) rfl ?_; clear F a; intro a F
        refine rl_run F (run_addi (F.ev rfl) (F.ev rfl) (in_i64 (by omega) (by omega))) rfl ?_; clear F a; intro a F
        refine rl_run F (run_assign (F.ev rfl)) rfl ?_; clear F a; intro a F
        refine rl_nil ?_
        refine q_bn ?_
        refine q_tn ?_
        exact ⟨_, by omega, ((i + j) / 2) + 1, j, rfl, F.to ⟨rfl, rfl, rfl, rfl, rfl, rfl, rfl, trivial⟩, M, by omega, by omega, lo_step (hml ▸ hs2) hXe4 (by omega) (cmpF_neg.1 (by assumption)), hHi⟩
      · intro hc
        have h7b := hc; clear hc
        have h7 : ¬ (cmpF Xe4.key X0.key < 0) := of_decide_eq_false h7b
        refine w_reg ?_
        refine rl_run F (run_move (F.ev rfl)) rfl ?_; clear F a; intro a F
        refine rl_run F (run_assign (F.ev rfl)) rfl ?_; clear F a; intro a F
        refine rl_nil ?_
        refine q_bn ?_
        refine q_tn ?_
        exact ⟨_, by omega, i, (i + j) / 2, rfl, F.to ⟨rfl, rfl, rfl, rfl, rfl, rfl, rfl, trivial⟩, M, by omega, by omega, hLo, hi_step (hml ▸ hs2) hXe4 (by omega) (fun h => absurd (cmpF_neg.2 h) (by assumption))⟩
    · intro hc
      have h8b := hc; clear hc
      have h8 : ¬ (((i : Nat) : Int) < ((j : Nat) : Int)) := of_decide_eq_false h8b
      refine wp_exit ?_
      refine q_te ?_
      refine q_te ?_
      refine q_bh ?_
      refine q_tn ?_
      refine wp_seq ?_
      refine wp_seq ?_
      have hij : j = i := by omega
      rw [hij] at hHi
      refine w_reg ?_
      refine rl_run F (run_move (F.ev rfl)) rfl ?_; clear F a; intro a F
      refine rl_run F (run_assign (F.ev rfl)) rfl ?_; clear F a; intro a F
      refine rl_nil ?_
      refine q_tn ?_
      refine wp_block ?_
      refine w_loopN (fun m a' w' => ∃ (k : Nat), ∃ (cso : List Value), ∃ (ys : List PairD), m = hi - k ∧ Fits 220 a' [(0, .slice (ad) (n) (d)), (1, .int .i64 ((lo : Int))), (2, .int .i64 ((mi : Int))), (3, .int .i64 ((hi : Int))), (4, .func (.func 41) #[.agg #[]] #[]), (10, .int .i64 (((i : Nat) : Int))), (13, .int .i64 (((k : Nat) : Int)))] ∧ Mem w0 G (.row (.slice (ad) (n) (c)) (n) (cso) 39 2 :: L) w' ∧ (lo ≤ k ∧ k ≤ i - 1) ∧ (FromI (shI lo k) xs ys) ∧ (Seg lo hi xs ys) ∧ (Els rdPair 2 G cso ys)) _ ⟨lo, cs, xs, rfl, F.to ⟨rfl, rfl, rfl, rfl, rfl, rfl, rfl, trivial⟩, M, by omega, FromI.id (shI_zero lo), Seg.refl _ _ _, E⟩ ?_
      clear F M
      rintro m a w ⟨k, cso, ys, rfl, F, M, hk, hF, hG, Eo⟩
      refine wp_seq ?_
      refine wp_seq ?_
      refine w_reg ?_
      refine rl_run F (run_move (F.ev rfl)) rfl ?_; clear F a; intro a F
      refine rl_run F (run_move (F.ev rfl)) rfl ?_; clear F a; intro a F
      refine rl_run F (run_subi (F.ev rfl) (F.ev rfl) (in_i64 (by omega) (by omega))) rfl ?_; clear F a; intro a F
      have hs9 : ((((i : Nat) : Int)) - 1 : Int) = ((i - 1 : Nat) : Int) := by omega
      rw [hs9] at F
      refine rl_run F (run_lss (F.ev rfl) (F.ev rfl)) rfl ?_; clear F a; intro a F
      refine rl_nil ?_
      refine q_tn ?_
      refine w_cond F rfl ?_ ?_
      · intro hc
        have h10b := hc; clear hc
        have h10 : ((k : Nat) : Int) < ((i - 1 : Nat) : Int) := of_decide_eq_true h10b
        refine wp_skip ?_
        refine q_tn ?_
        refine wp_seq ?_
        refine wp_block ?_
        have hyl := hF.1
        refine w_plan2 [(.free, 0), (.free, 1), (.free, 2), (.free, 3), (.free, 4), (.free, 5), (.free, 6), (.free, 7), (.free, 8), (.pure, 9), (.free, 10), (.free, 11), (.free, 12), (.pure, 13), (.free, 14), (.chg, 15), (.free, 16), (.chg, 17)] [15, 17] (Keep G [.row (.slice (ad) (n) (c)) (n) (cso) 39 2]) rfl (by kernel_rfl) (fun c a d v w h => by cases d <;> exact h) ((M.drew _).keep (Gle.refl _) (by simp)) ?_
        replace M := M.drew (w.drawn + 1)
        refine pk_free F (fun w _ => run_move (F.ev rfl)) rfl ?_; clear F a; intro a F
        refine pk_free F (fun w _ => run_move (F.ev rfl)) rfl ?_; clear F a; intro a F
        refine pk_free F (fun w _ => run_move (F.ev rfl)) rfl ?_; clear F a; intro a F
        refine pk_free F (fun w _ => run_move (F.ev rfl)) rfl ?_; clear F a; intro a F
        refine pk_free F (fun w _ => run_addi (F.ev rfl) (F.ev rfl) (in_i64 (by omega) (by omega))) rfl ?_; clear F a; intro a F
        refine pk_free F (fun w _ => run_move (F.ev rfl)) rfl ?_; clear F a; intro a F
        refine pk_free F (fun w _ => run_move (F.ev rfl)) rfl ?_; clear F a; intro a F
        refine pk_free F (fun w _ => run_addi (F.ev rfl) (F.ev rfl) (in_i64 (by omega) (by omega))) rfl ?_; clear F a; intro a F
        obtain ⟨Xe11, hXe11⟩ := get_of_lt (xs := ys) (i := k + 1) (by omega)
        obtain ⟨be11, _, Ie11, hme11, _, Ae11, ⟨rfl, hbe111, hbe112⟩⟩ := M.atRowK (k := 0) rfl (by decide) Eo (Lr := [.row (.slice (ad) (n) (c)) (n) (cso) 39 2]) (k' := 0) rfl hXe11
        refine pk_free F (fun w _ => run_indexI tok22.k tok39 (F.ev rfl) (F.ev rfl) (by omega) Ie11) rfl ?_; clear F a; intro a F
        refine pk_pure F (fun w M => run_loadA tok39 rfl (F.ev rfl) (cs := [.int .u64 (Xe11.key), .int .i64 (Xe11.v)]) rfl (cellsE (Ae11 w M) 0 (by omega) rfl)) rfl ?_; clear F a; intro a F
        refine pk_free F (fun w _ => run_move (F.ev rfl)) rfl ?_; clear F a; intro a F
        refine pk_free F (fun w _ => run_move (F.ev rfl)) rfl ?_; clear F a; intro a F
        obtain ⟨Xe12, hXe12⟩ := get_of_lt (xs := ys) (i := k) (by omega)
        obtain ⟨be12, _, Ie12, hme12, _, Ae12, ⟨rfl, hbe121, hbe122⟩⟩ := M.atRowK (k := 0) rfl (by decide) Eo (Lr := [.row (.slice (ad) (n) (c)) (n) (cso) 39 2]) (k' := 0) rfl hXe12
        refine pk_free F (fun w _ => run_indexI tok22.k tok39 (F.ev rfl) (F.ev rfl) (by omega) Ie12) rfl ?_; clear F a; intro a F
        refine pk_pure F (fun w M => run_loadA tok39 rfl (F.ev rfl) (cs := [.int .u64 (Xe12.key), .int .i64 (Xe12.v)]) rfl (cellsE (Ae12 w M) 0 (by omega) rfl)) rfl ?_; clear F a; intro a F
        obtain ⟨be13, _, Ie13, hme13, _, Ae13, ⟨rfl, hbe131, hbe132⟩⟩ := M.atRowK (k := 0) rfl (by decide) Eo (Lr := [.row (.slice (ad) (n) (c)) (n) (cso) 39 2]) (k' := 0) rfl hXe12
        refine pk_free F (fun w _ => run_indexI tok22.k tok39 (F.ev rfl) (F.ev rfl) (by omega) Ie13) rfl ?_; clear F a; intro a F
        refine pk_chg ?_ rfl
        refine rl_storeEl F M tok39 (k := 0) rfl rfl Eo Ie13 (lt_of_get hXe12) rfl rfl (us := [.int .u64 (Xe11.key), .int .i64 (Xe11.v)]) rfl rfl (by simp [Value.oneCell']) (X' := Xe11) (⟨rfl, by assumption, by assumption⟩) ?_; clear F M a; intro csu14 w a M Eu14 F
        refine rl_nil ?_
        refine ⟨Keep G [.row (.slice (ad) (n) (c)) (n) (csu14) 39 2], M.keep (Gle.refl _) (by simp), ?_⟩
        obtain ⟨Xe15, hXe15⟩ := get_of_lt (xs := (ys).set (k) Xe11) (i := k + 1) (by (simp only [List.length_set]; omega))
        obtain ⟨be15, _, Ie15, hme15, _, Ae15, ⟨rfl, hbe151, hbe152⟩⟩ := M.atRowK (k := 0) rfl (by decide) Eu14 (Lr := [.row (.slice (ad) (n) (c)) (n) (csu14) 39 2]) (k' := 0) rfl hXe15
        refine pk_free F (fun w _ => run_indexI tok22.k tok39 (F.ev rfl) (F.ev rfl) (by omega) Ie15) rfl ?_; clear F a; intro a F
        refine pk_chg ?_ rfl
        refine rl_storeEl F M tok39 (k := 0) rfl rfl Eu14 Ie15 (lt_of_get hXe15) rfl rfl (us := [.int .u64 (Xe12.key), .int .i64 (Xe12.v)]) rfl rfl (by simp [Value.oneCell']) (X' := Xe12) (⟨rfl, by assumption, by assumption⟩) ?_; clear F M a; intro csu16 w a M Eu16 F
        refine rl_nil ?_
        refine ⟨Keep G [.row (.slice (ad) (n) (c)) (n) (csu16) 39 2], M.keep (Gle.refl _) (by simp), ?_⟩
        refine pk_nil ?_
        refine q_bn ?_
        refine q_tn ?_
        refine w_reg ?_
        refine rl_run F (run_move (F.ev rfl)) rfl ?_; clear F a; intro a F
        refine rl_run F (run_addi (F.ev rfl) (F.ev rfl) (in_i64 (by omega) (by omega))) rfl ?_; clear F a; intro a F
        refine rl_run F (run_assign (F.ev rfl)) rfl ?_; clear F a; intro a F
        refine rl_nil ?_
        refine q_tn ?_
        exact ⟨_, by omega, k + 1, csu16, ((ys).set (k) Xe11).set (k + 1) Xe12, rfl, F.to ⟨rfl, rfl, rfl, rfl, rfl, rfl, rfl, trivial⟩, M, by omega, shI_step hF (by omega) hXe12 hXe11, hG.swapR hXe12 hXe11 (sh_lt hF hX0 hLo (by omega) (by omega) hXe12 hXe11) (by omega) (by omega), Eu16⟩
      · intro hc
        have h17b := hc; clear hc
        have h17 : ¬ (((k : Nat) : Int) < ((i - 1 : Nat) : Int)) := of_decide_eq_false h17b
        refine wp_exit ?_
        refine q_te ?_
        refine q_te ?_
        refine q_bh ?_
        refine q_tn ?_
        refine wp_ret ?_
        refine q_tr ?_
        refine fin0 F rfl ?_
        have hki : k = i - 1 := by omega
        rw [hki] at hF
        exact ⟨_, M, rfl, _, _, rfl, Eo, hG, sortedR hF hX0 (by omega) (by omega) (hml ▸ hs2) hLo hHi⟩
  · intro hc
    have h18b := hc; clear hc
    have h18 : ¬ ((mi : Int) - (lo : Int) = 1) := of_decide_eq_false h18b
    refine wp_skip ?_
    refine q_tn ?_
    refine wp_seq ?_
    refine wp_seq ?_
    refine w_reg ?_
    refine rl_run F (run_move (F.ev rfl)) rfl ?_; clear F a; intro a F
    refine rl_run F (run_move (F.ev rfl)) rfl ?_; clear F a; intro a F
    refine rl_run F (run_subi (F.ev rfl) (F.ev rfl) (in_i64 (by omega) (by omega))) rfl ?_; clear F a; intro a F
    refine rl_run F (run_eqi (F.ev rfl) (F.ev rfl)) rfl ?_; clear F a; intro a F
    refine rl_nil ?_
    refine q_tn ?_
    refine w_cond F rfl ?_ ?_
    · intro hc
      have h19b := hc; clear hc
      have h19 : (hi : Int) - (mi : Int) = 1 := of_decide_eq_true h19b
      refine wp_seq ?_
      obtain ⟨X0, hX0⟩ := get_of_lt (xs := xs) (i := mi) (by omega)
      have hhl : hi = mi + 1 := by omega
      refine w_reg ?_
      refine rl_run F (run_move (F.ev rfl)) rfl ?_; clear F a; intro a F
      refine rl_run F (run_assign (F.ev rfl)) rfl ?_; clear F a; intro a F
      refine rl_nil ?_
      refine q_tn ?_
      refine wp_seq ?_
      refine w_reg ?_
      refine rl_run F (run_move (F.ev rfl)) rfl ?_; clear F a; intro a F
      refine rl_run F (run_assign (F.ev rfl)) rfl ?_; clear F a; intro a F
      refine rl_nil ?_
      refine q_tn ?_
      refine wp_seq ?_
      refine wp_block ?_
      refine w_loopN (fun m a' w' => ∃ (i : Nat), ∃ (j : Nat), m = j - i ∧ Fits 220 a' [(0, .slice (ad) (n) (d)), (1, .int .i64 ((lo : Int))), (2, .int .i64 ((mi : Int))), (3, .int .i64 ((hi : Int))), (4, .func (.func 41) #[.agg #[]] #[]), (14, .int .i64 (((i : Nat) : Int))), (15, .int .i64 (((j : Nat) : Int)))] ∧ Mem w0 G (.row (.slice (ad) (n) (c)) (n) (cs) 39 2 :: L) w' ∧ (lo ≤ i ∧ i ≤ j) ∧ (j ≤ mi) ∧ (Le xs lo i X0.key) ∧ (Gt xs j mi X0.key)) _ ⟨lo, mi, rfl, F.to ⟨rfl, rfl, rfl, rfl, rfl, rfl, rfl, trivial⟩, M, by omega, Nat.le_refl _, le_none, gt_none⟩ ?_
      clear F M
      rintro m a w ⟨i, j, rfl, F, M, hi1, hj1, hLe, hGt⟩
      refine wp_seq ?_
      refine wp_seq ?_
      refine w_reg ?_
      refine rl_run F (run_move (F.ev rfl)) rfl ?_; clear F a; intro a F
      refine rl_run F (run_move (F.ev rfl)) rfl ?_; clear F a; intro a F
      refine rl_run F (run_lss (F.ev rfl) (F.ev rfl)) rfl ?_; clear F a; intro a F
      refine rl_nil ?_
      refine q_tn ?_
      refine w_cond F rfl ?_ ?_
      · intro hc
        have h20b := hc; clear hc
        have h20 : ((i : Nat) : Int) < ((j : Nat) : Int) := of_decide_eq_true h20b
        refine wp_skip ?_
        refine q_tn ?_
        refine wp_block ?_
        refine wp_seq ?_
        refine w_reg ?_
        refine rl_run F (run_move (F.ev rfl)) rfl ?_; clear F a; intro a F
        refine rl_run F (run_move (F.ev rfl)) rfl ?_; clear F a; intro a F
        refine rl_run F (run_addi (F.ev rfl) (F.ev rfl) (in_i64 (by omega) (by omega))) rfl ?_; clear F a; intro a F
        refine rl_run F (run_conv_int tok117.k ⟨_, by rw [under_int tok3.k]⟩ (F.ev rfl) (in_u64 (by omega) (by omega))) rfl ?_; clear F a; intro a F
        refine rl_run F (run_shri (m := 1) (F.ev rfl) (F.ev rfl) rfl (by decide)) rfl ?_; clear F a; intro a F
        have hs21 : (((((i : Nat) : Int)) + (((j : Nat) : Int))) / 2 ^ 1 : Int) = (((i + j) / 2 : Nat) : Int) := by rw [show (2 : Int) ^ 1 = 2 from rfl]; omega
        rw [hs21] at F
        refine rl_run F (run_conv_int tok3.k ⟨_, by rw [under_int tok117.k]⟩ (F.ev rfl) (in_i64 (by omega) (by omega))) rfl ?_; clear F a; intro a F
        refine rl_run F (run_assign (F.ev rfl)) rfl ?_; clear F a; intro a F
        refine rl_nil ?_
        refine q_tn ?_
        refine wp_seq ?_
        refine w_plan2 [(.free, 0), (.free, 1), (.free, 2), (.free, 3), (.pure, 4), (.free, 5), (.free, 6), (.free, 7), (.pure, 8), (.keep, 9), (.free, 10), (.free, 11)] [] (Keep G [.row (.slice (ad) (n) (c)) (n) (cs) 39 2]) rfl (by kernel_rfl) (fun c a d v w h => by cases d <;> exact h) ((M.drew _).keep (Gle.refl _) (by simp)) ?_
        replace M := M.drew (w.drawn + 1)
        refine pk_free F (fun w _ => run_move (F.ev rfl)) rfl ?_; clear F a; intro a F
        refine pk_free F (fun w _ => run_move (F.ev rfl)) rfl ?_; clear F a; intro a F
        refine pk_free F (fun w _ => run_move (F.ev rfl)) rfl ?_; clear F a; intro a F
        obtain ⟨be22, _, Ie22, hme22, _, Ae22, ⟨rfl, hbe221, hbe222⟩⟩ := M.atRowK (k := 0) rfl (by decide) E (Lr := [.row (.slice (ad) (n) (c)) (n) (cs) 39 2]) (k' := 0) rfl hX0
        refine pk_free F (fun w _ => run_indexI tok22.k tok39 (F.ev rfl) (F.ev rfl) (by omega) Ie22) rfl ?_; clear F a; intro a F
        refine pk_pure F (fun w M => run_loadA tok39 rfl (F.ev rfl) (cs := [.int .u64 (X0.key), .int .i64 (X0.v)]) rfl (cellsE (Ae22 w M) 0 (by omega) rfl)) rfl ?_; clear F a; intro a F
        refine pk_free F (fun w _ => run_move (F.ev rfl)) rfl ?_; clear F a; intro a F
        refine pk_free F (fun w _ => run_move (F.ev rfl)) rfl ?_; clear F a; intro a F
        obtain ⟨Xe23, hXe23⟩ := get_of_lt (xs := xs) (i := (i + j) / 2) (by omega)
        obtain ⟨be23, _, Ie23, hme23, _, Ae23, ⟨rfl, hbe231, hbe232⟩⟩ := M.atRowK (k := 0) rfl (by decide) E (Lr := [.row (.slice (ad) (n) (c)) (n) (cs) 39 2]) (k' := 0) rfl hXe23
        refine pk_free F (fun w _ => run_indexI tok22.k tok39 (F.ev rfl) (F.ev rfl) (by omega) Ie23) rfl ?_; clear F a; intro a F
        refine pk_pure F (fun w M => run_loadA tok39 rfl (F.ev rfl) (cs := [.int .u64 (Xe23.key), .int .i64 (Xe23.v)]) rfl (cellsE (Ae23 w M) 0 (by omega) rfl)) rfl ?_; clear F a; intro a F
        refine pk_keep ?_ rfl
        refine rl_callF F ent41 rfl rfl rfl (bykey_spec (x := X0) (y := Xe23) M) ?_; clear F M a; rintro _ w a M rfl F
        refine rl_nil ?_
        refine ⟨Keep G [.row (.slice (ad) (n) (c)) (n) (cs) 39 2], M.keep (Gle.refl _) (by simp), fun w h => h.mono (Gle.refl _) (by simp), ?_⟩
        refine pk_free F (fun w _ => run_lss (F.ev rfl) (F.ev rfl)) rfl ?_; clear F a; intro a F
        refine pk_free F (fun w _ => run_not (F.ev rfl)) rfl ?_; clear F a; intro a F
        refine pk_nil ?_
        refine q_tn ?_
        refine w_cond F rfl ?_ ?_
        · intro hc
          have h24b := hc; clear hc
          have h24 : ¬ (cmpF X0.key Xe23.key < 0) := of_decide_eq_false (of_not_t h24b)
          have h24c : (decide (cmpF X0.key Xe23.key < 0)) = false := (of_not_t h24b)
          refine w_reg ?_
          refine rl_run F (run_move (F.ev rfl)) rfl ?_; clear F a; intro a F
          refine rl_run F (run_addi (F.ev rfl) (F.ev rfl) (in_i64 (by omega) (by omega))) rfl ?_; clear F a; intro a F
          refine rl_run F (run_assign (F.ev rfl)) rfl ?_; clear F a; intro a F
          refine rl_nil ?_
          refine q_bn ?_
          refine q_tn ?_
          exact ⟨_, by omega, ((i + j) / 2) + 1, j, rfl, F.to ⟨rfl, rfl, rfl, rfl, rfl, rfl, rfl, trivial⟩, M, by omega, by omega, le_step hs1 hXe23 (by omega) (fun h => absurd (cmpF_neg.2 h) (by assumption)), hGt⟩
        · intro hc
          have h25b := hc; clear hc
          have h25 : cmpF X0.key Xe23.key < 0 := of_decide_eq_true (of_not_f h25b)
          have h25c : (decide (cmpF X0.key Xe23.key < 0)) = true := (of_not_f h25b)
          refine w_reg ?_
          refine rl_run F (run_move (F.ev rfl)) rfl ?_; clear F a; intro a F
          refine rl_run F (run_assign (F.ev rfl)) rfl ?_; clear F a; intro a F
          refine rl_nil ?_
          refine q_bn ?_
          refine q_tn ?_
          exact ⟨_, by omega, i, (i + j) / 2, rfl, F.to ⟨rfl, rfl, rfl, rfl, rfl, rfl, rfl, trivial⟩, M, by omega, by omega, hLe, gt_step hs1 hXe23 (by omega) (cmpF_neg.1 (by assumption))⟩
      · intro hc
        have h26b := hc; clear hc
        have h26 : ¬ (((i : Nat) : Int) < ((j : Nat) : Int)) := of_decide_eq_false h26b
        refine wp_exit ?_
        refine q_te ?_
        refine q_te ?_
        refine q_bh ?_
        refine q_tn ?_
        refine wp_seq ?_
        refine wp_seq ?_
        have hij : j = i := by omega
        rw [hij] at hGt
        refine w_reg ?_
        refine rl_run F (run_move (F.ev rfl)) rfl ?_; clear F a; intro a F
        refine rl_run F (run_assign (F.ev rfl)) rfl ?_; clear F a; intro a F
        refine rl_nil ?_
        refine q_tn ?_
        refine wp_block ?_
        refine w_loopN (fun m a' w' => ∃ (k : Nat), ∃ (cso : List Value), ∃ (ys : List PairD), m = k + 1 ∧ Fits 220 a' [(0, .slice (ad) (n) (d)), (1, .int .i64 ((lo : Int))), (2, .int .i64 ((mi : Int))), (3, .int .i64 ((hi : Int))), (4, .func (.func 41) #[.agg #[]] #[]), (14, .int .i64 (((i : Nat) : Int))), (17, .int .i64 (((k : Nat) : Int)))] ∧ Mem w0 G (.row (.slice (ad) (n) (c)) (n) (cso) 39 2 :: L) w' ∧ (i ≤ k ∧ k ≤ mi) ∧ (FromI (shJ mi k) xs ys) ∧ (Seg lo hi xs ys) ∧ (Els rdPair 2 G cso ys)) _ ⟨mi, cs, xs, rfl, F.to ⟨rfl, rfl, rfl, rfl, rfl, rfl, rfl, trivial⟩, M, by omega, FromI.id (shJ_zero mi), Seg.refl _ _ _, E⟩ ?_
        clear F M
        rintro m a w ⟨k, cso, ys, rfl, F, M, hk, hF, hG, Eo⟩
        refine wp_seq ?_
        refine wp_seq ?_
        refine w_reg ?_
        refine rl_run F (run_move (F.ev rfl)) rfl ?_; clear F a; intro a F
        refine rl_run F (run_move (F.ev rfl)) rfl ?_; clear F a; intro a F
        refine rl_run F (run_gtr (F.ev rfl) (F.ev rfl)) rfl ?_; clear F a; intro a F
        refine rl_nil ?_
        refine q_tn ?_
        refine w_cond F rfl ?_ ?_
        · intro hc
          have h27b := hc; clear hc
          have h27 : ((i : Nat) : Int) < ((k : Nat) : Int) := of_decide_eq_true h27b
          refine wp_skip ?_
          refine q_tn ?_
          refine wp_seq ?_
          refine wp_block ?_
          have hyl := hF.1
          refine w_plan2 [(.free, 0), (.free, 1), (.free, 2), (.free, 3), (.free, 4), (.free, 5), (.free, 6), (.free, 7), (.free, 8), (.pure, 9), (.free, 10), (.free, 11), (.free, 12), (.pure, 13), (.free, 14), (.chg, 15), (.free, 16), (.chg, 17)] [15, 17] (Keep G [.row (.slice (ad) (n) (c)) (n) (cso) 39 2]) rfl (by kernel_rfl) (fun c a d v w h => by cases d <;> exact h) ((M.drew _).keep (Gle.refl _) (by simp)) ?_
          replace M := M.drew (w.drawn + 1)
          refine pk_free F (fun w _ => run_move (F.ev rfl)) rfl ?_; clear F a; intro a F
          refine pk_free F (fun w _ => run_move (F.ev rfl)) rfl ?_; clear F a; intro a F
          refine pk_free F (fun w _ => run_move (F.ev rfl)) rfl ?_; clear F a; intro a F
          refine pk_free F (fun w _ => run_move (F.ev rfl)) rfl ?_; clear F a; intro a F
          refine pk_free F (fun w _ => run_subi (F.ev rfl) (F.ev rfl) (in_i64 (by omega) (by omega))) rfl ?_; clear F a; intro a F
          have hs28 : ((((k : Nat) : Int)) - 1 : Int) = ((k - 1 : Nat) : Int) := by omega
          rw [hs28] at F
          refine pk_free F (fun w _ => run_move (F.ev rfl)) rfl ?_; clear F a; intro a F
          refine pk_free F (fun w _ => run_move (F.ev rfl)) rfl ?_; clear F a; intro a F
          refine pk_free F (fun w _ => run_subi (F.ev rfl) (F.ev rfl) (in_i64 (by omega) (by omega))) rfl ?_; clear F a; intro a F
          have hs29 : ((((k : Nat) : Int)) - 1 : Int) = ((k - 1 : Nat) : Int) := by omega
          rw [hs29] at F
          obtain ⟨Xe30, hXe30⟩ := get_of_lt (xs := ys) (i := k - 1) (by omega)
          obtain ⟨be30, _, Ie30, hme30, _, Ae30, ⟨rfl, hbe301, hbe302⟩⟩ := M.atRowK (k := 0) rfl (by decide) Eo (Lr := [.row (.slice (ad) (n) (c)) (n) (cso) 39 2]) (k' := 0) rfl hXe30
          refine pk_free F (fun w _ => run_indexI tok22.k tok39 (F.ev rfl) (F.ev rfl) (by omega) Ie30) rfl ?_; clear F a; intro a F
          refine pk_pure F (fun w M => run_loadA tok39 rfl (F.ev rfl) (cs := [.int .u64 (Xe30.key), .int .i64 (Xe30.v)]) rfl (cellsE (Ae30 w M) 0 (by omega) rfl)) rfl ?_; clear F a; intro a F
          refine pk_free F (fun w _ => run_move (F.ev rfl)) rfl ?_; clear F a; intro a F
          refine pk_free F (fun w _ => run_move (F.ev rfl)) rfl ?_; clear F a; intro a F
          obtain ⟨Xe31, hXe31⟩ := get_of_lt (xs := ys) (i := k) (by omega)
          obtain ⟨be31, _, Ie31, hme31, _, Ae31, ⟨rfl, hbe311, hbe312⟩⟩ := M.atRowK (k := 0) rfl (by decide) Eo (Lr := [.row (.slice (ad) (n) (c)) (n) (cso) 39 2]) (k' := 0) rfl hXe31
          refine pk_free F (fun w _ => run_indexI tok22.k tok39 (F.ev rfl) (F.ev rfl) (by omega) Ie31) rfl ?_; clear F a; intro a F
          refine pk_pure F (fun w M => run_loadA tok39 rfl (F.ev rfl) (cs := [.int .u64 (Xe31.key), .int .i64 (Xe31.v)]) rfl (cellsE (Ae31 w M) 0 (by omega) rfl)) rfl ?_; clear F a; intro a F
          obtain ⟨be32, _, Ie32, hme32, _, Ae32, ⟨rfl, hbe321, hbe322⟩⟩ := M.atRowK (k := 0) rfl (by decide) Eo (Lr := [.row (.slice (ad) (n) (c)) (n) (cso) 39 2]) (k' := 0) rfl hXe31
          refine pk_free F (fun w _ => run_indexI tok22.k tok39 (F.ev rfl) (F.ev rfl) (by omega) Ie32) rfl ?_; clear F a; intro a F
          refine pk_chg ?_ rfl
          refine rl_storeEl F M tok39 (k := 0) rfl rfl Eo Ie32 (lt_of_get hXe31) rfl rfl (us := [.int .u64 (Xe30.key), .int .i64 (Xe30.v)]) rfl rfl (by simp [Value.oneCell']) (X' := Xe30) (⟨rfl, by assumption, by assumption⟩) ?_; clear F M a; intro csu33 w a M Eu33 F
          refine rl_nil ?_
          refine ⟨Keep G [.row (.slice (ad) (n) (c)) (n) (csu33) 39 2], M.keep (Gle.refl _) (by simp), ?_⟩
          obtain ⟨Xe34, hXe34⟩ := get_of_lt (xs := (ys).set (k) Xe30) (i := k - 1) (by (simp only [List.length_set]; omega))
          obtain ⟨be34, _, Ie34, hme34, _, Ae34, ⟨rfl, hbe341, hbe342⟩⟩ := M.atRowK (k := 0) rfl (by decide) Eu33 (Lr := [.row (.slice (ad) (n) (c)) (n) (csu33) 39 2]) (k' := 0) rfl hXe34
          refine pk_free F (fun w _ => run_indexI tok22.k tok39 (F.ev rfl) (F.ev rfl) (by omega) Ie34) rfl ?_; clear F a; intro a F
          refine pk_chg ?_ rfl
          refine rl_storeEl F M tok39 (k := 0) rfl rfl Eu33 Ie34 (lt_of_get hXe34) rfl rfl (us := [.int .u64 (Xe31.key), .int .i64 (Xe31.v)]) rfl rfl (by simp [Value.oneCell']) (X' := Xe31) (⟨rfl, by assumption, by assumption⟩) ?_; clear F M a; intro csu35 w a M Eu35 F
          refine rl_nil ?_
          refine ⟨Keep G [.row (.slice (ad) (n) (c)) (n) (csu35) 39 2], M.keep (Gle.refl _) (by simp), ?_⟩
          refine pk_nil ?_
          refine q_bn ?_
          refine q_tn ?_
          refine w_reg ?_
          refine rl_run F (run_move (F.ev rfl)) rfl ?_; clear F a; intro a F
          refine rl_run F (run_subi (F.ev rfl) (F.ev rfl) (in_i64 (by omega) (by omega))) rfl ?_; clear F a; intro a F
          have hs36 : ((((k : Nat) : Int)) - 1 : Int) = ((k - 1 : Nat) : Int) := by omega
          rw [hs36] at F
          refine rl_run F (run_assign (F.ev rfl)) rfl ?_; clear F a; intro a F
          refine rl_nil ?_
          refine q_tn ?_
          exact ⟨_, by omega, k - 1, csu35, ((ys).set (k) Xe30).set (k - 1) Xe31, rfl, F.to ⟨rfl, rfl, rfl, rfl, rfl, rfl, rfl, trivial⟩, M, by omega, shJ_step hF (by omega) (by omega) hXe31 hXe30, hG.swap' hXe30 hXe31 (sh_gt hF hX0 hGt (by omega) (by omega) hXe31 hXe30) (by omega) (by omega), Eu35⟩
        · intro hc
          have h37b := hc; clear hc
          have h37 : ¬ (((i : Nat) : Int) < ((k : Nat) : Int)) := of_decide_eq_false h37b
          refine wp_exit ?_
          refine q_te ?_
          refine q_te ?_
          refine q_bh ?_
          refine q_tn ?_
          refine wp_ret ?_
          refine q_tr ?_
          refine fin0 F rfl ?_
          have hki : k = i := by omega
          rw [hki] at hF
          exact ⟨_, M, rfl, _, _, rfl, Eo, hG, hhl ▸ sortedL hF hX0 (by omega) (by omega) hs1 hLe hGt⟩
    · intro hc
      have h38b := hc; clear hc
      have h38 : ¬ ((hi : Int) - (mi : Int) = 1) := of_decide_eq_false h38b
      refine wp_skip ?_
      refine q_tn ?_
      refine wp_seq ?_
      refine w_reg ?_
      refine rl_run F (run_move (F.ev rfl)) rfl ?_; clear F a; intro a F
      refine rl_run F (run_move (F.ev rfl)) rfl ?_; clear F a; intro a F
      refine rl_run F (run_addi (F.ev rfl) (F.ev rfl) (in_i64 (by omega) (by omega))) rfl ?_; clear F a; intro a F
      refine rl_run F (run_conv_int tok117.k ⟨_, by rw [under_int tok3.k]⟩ (F.ev rfl) (in_u64 (by omega) (by omega))) rfl ?_; clear F a; intro a F
      refine rl_run F (run_shri (m := 1) (F.ev rfl) (F.ev rfl) rfl (by decide)) rfl ?_; clear F a; intro a F
      have hs39 : (((lo : Int) + (hi : Int)) / 2 ^ 1 : Int) = (((lo + hi) / 2 : Nat) : Int) := by rw [show (2 : Int) ^ 1 = 2 from rfl]; omega
      rw [hs39] at F
      refine rl_run F (run_conv_int tok3.k ⟨_, by rw [under_int tok117.k]⟩ (F.ev rfl) (in_i64 (by omega) (by omega))) rfl ?_; clear F a; intro a F
      refine rl_run F (run_assign (F.ev rfl)) rfl ?_; clear F a; intro a F
      refine rl_nil ?_
      refine q_tn ?_
      refine wp_seq ?_
      generalize hmd : (lo + hi) / 2 = md at F
      refine w_reg ?_
      refine rl_run F (run_move (F.ev rfl)) rfl ?_; clear F a; intro a F
      refine rl_run F (run_move (F.ev rfl)) rfl ?_; clear F a; intro a F
      refine rl_run F (run_addi (F.ev rfl) (F.ev rfl) (in_i64 (by omega) (by omega))) rfl ?_; clear F a; intro a F
      refine rl_run F (run_assign (F.ev rfl)) rfl ?_; clear F a; intro a F
      refine rl_nil ?_
      refine q_tn ?_
      refine wp_seq ?_
      refine w_reg ?_
      refine rl_run F (run_assign (F.ev rfl)) rfl ?_; clear F a; intro a F
      refine rl_run F (run_assign (F.ev rfl)) rfl ?_; clear F a; intro a F
      refine rl_nil ?_
      refine q_tn ?_
      refine wp_seq ?_
      refine wp_seq ?_
      refine w_reg ?_
      refine rl_run F (run_move (F.ev rfl)) rfl ?_; clear F a; intro a F
      refine rl_run F (run_move (F.ev rfl)) rfl ?_; clear F a; intro a F
      refine rl_run F (run_gtr (F.ev rfl) (F.ev rfl)) rfl ?_; clear F a; intro a F
      refine rl_nil ?_
      refine q_tn ?_
      refine w_cut (fun a' w' => ∃ (s0 : Nat), ∃ (r0 : Nat), Fits 220 a' [(0, .slice (ad) (n) (d)), (1, .int .i64 ((lo : Int))), (2, .int .i64 ((mi : Int))), (3, .int .i64 ((hi : Int))), (4, .func (.func 41) #[.agg #[]] #[]), (18, .int .i64 (((md : Nat) : Int))), (19, .int .i64 ((((md : Nat) : Int)) + (mi : Int))), (20, .int .i64 (((s0 : Nat) : Int))), (21, .int .i64 (((r0 : Nat) : Int)))] ∧ Mem w0 G (.row (.slice (ad) (n) (c)) (n) (cs) 39 2 :: L) w' ∧ (lo ≤ s0 ∧ s0 ≤ r0 ∧ r0 ≤ mi ∧ r0 ≤ md ∧ md + mi ≤ s0 + hi) ∧ ((mi ≤ md ∧ s0 = lo ∧ r0 = mi) ∨ (md < mi ∧ s0 + hi = md + mi ∧ r0 = md))) ?_ ?_
      · skip
        refine w_cond F rfl ?_ ?_
        · intro hc
          have h40b := hc; clear hc
          have h40 : ((md : Nat) : Int) < (mi : Int) := of_decide_eq_true h40b
          refine wp_seq ?_
          refine w_reg ?_
          refine rl_run F (run_move (F.ev rfl)) rfl ?_; clear F a; intro a F
          refine rl_run F (run_move (F.ev rfl)) rfl ?_; clear F a; intro a F
          refine rl_run F (run_subi (F.ev rfl) (F.ev rfl) (in_i64 (by omega) (by omega))) rfl ?_; clear F a; intro a F
          have hs41 : (((((md : Nat) : Int)) + (mi : Int)) - (hi : Int) : Int) = (((md + mi) - hi : Nat) : Int) := by omega
          rw [hs41] at F
          refine rl_run F (run_assign (F.ev rfl)) rfl ?_; clear F a; intro a F
          refine rl_nil ?_
          refine q_tn ?_
          refine w_reg ?_
          refine rl_run F (run_move (F.ev rfl)) rfl ?_; clear F a; intro a F
          refine rl_run F (run_assign (F.ev rfl)) rfl ?_; clear F a; intro a F
          refine rl_nil ?_
          exact ⟨(md + mi) - hi, md, F.to ⟨rfl, rfl, rfl, rfl, rfl, rfl, rfl, rfl, rfl, trivial⟩, M, by omega, by omega⟩
        · intro hc
          have h42b := hc; clear hc
          have h42 : ¬ (((md : Nat) : Int) < (mi : Int)) := of_decide_eq_false h42b
          refine wp_seq ?_
          refine w_reg ?_
          refine rl_run F (run_move (F.ev rfl)) rfl ?_; clear F a; intro a F
          refine rl_run F (run_assign (F.ev rfl)) rfl ?_; clear F a; intro a F
          refine rl_nil ?_
          refine q_tn ?_
          refine w_reg ?_
          refine rl_run F (run_move (F.ev rfl)) rfl ?_; clear F a; intro a F
          refine rl_run F (run_assign (F.ev rfl)) rfl ?_; clear F a; intro a F
          refine rl_nil ?_
          exact ⟨lo, mi, F.to ⟨rfl, rfl, rfl, rfl, rfl, rfl, rfl, rfl, rfl, trivial⟩, M, by omega, by omega⟩
      · clear F M
        rintro a w ⟨s0, r0, F, M, hs0, hcs⟩
        refine q_tn ?_
        refine wp_seq ?_
        refine w_reg ?_
        refine rl_run F (run_move (F.ev rfl)) rfl ?_; clear F a; intro a F
        refine rl_run F (run_subi (F.ev rfl) (F.ev rfl) (in_i64 (by omega) (by omega))) rfl ?_; clear F a; intro a F
        have hs43 : (((((md : Nat) : Int)) + (mi : Int)) - 1 : Int) = (((md + mi) - 1 : Nat) : Int) := by omega
        rw [hs43] at F
        refine rl_run F (run_assign (F.ev rfl)) rfl ?_; clear F a; intro a F
        refine rl_nil ?_
        refine q_tn ?_
        refine wp_seq ?_
        refine wp_block ?_
        refine w_loopN (fun m a' w' => ∃ (s : Nat), ∃ (r : Nat), m = r - s ∧ Fits 220 a' [(0, .slice (ad) (n) (d)), (1, .int .i64 ((lo : Int))), (2, .int .i64 ((mi : Int))), (3, .int .i64 ((hi : Int))), (4, .func (.func 41) #[.agg #[]] #[]), (18, .int .i64 (((md : Nat) : Int))), (19, .int .i64 ((((md : Nat) : Int)) + (mi : Int))), (22, .int .i64 ((((md + mi) - 1 : Nat) : Int))), (20, .int .i64 (((s : Nat) : Int))), (21, .int .i64 (((r : Nat) : Int)))] ∧ Mem w0 G (.row (.slice (ad) (n) (c)) (n) (cs) 39 2 :: L) w' ∧ (s0 ≤ s ∧ s ≤ r ∧ r ≤ r0) ∧ (MLo xs s0 s ((md + mi) - 1)) ∧ (MHi xs r r0 ((md + mi) - 1))) _ ⟨s0, r0, rfl, F.to ⟨rfl, rfl, rfl, rfl, rfl, rfl, rfl, rfl, rfl, rfl, trivial⟩, M, by omega, fun q X Y h1 h2 => by omega, fun q X Y h1 h2 => by omega⟩ ?_
        clear F M
        rintro m a w ⟨s, r, rfl, F, M, hsr, hM1, hM2⟩
        refine wp_seq ?_
        refine wp_seq ?_
        refine w_reg ?_
        refine rl_run F (run_move (F.ev rfl)) rfl ?_; clear F a; intro a F
        refine rl_run F (run_move (F.ev rfl)) rfl ?_; clear F a; intro a F
        refine rl_run F (run_lss (F.ev rfl) (F.ev rfl)) rfl ?_; clear F a; intro a F
        refine rl_nil ?_
        refine q_tn ?_
        refine w_cond F rfl ?_ ?_
        · intro hc
          have h44b := hc; clear hc
          have h44 : ((s : Nat) : Int) < ((r : Nat) : Int) := of_decide_eq_true h44b
          refine wp_skip ?_
          refine q_tn ?_
          refine wp_block ?_
          refine wp_seq ?_
          refine w_reg ?_
          refine rl_run F (run_move (F.ev rfl)) rfl ?_; clear F a; intro a F
          refine rl_run F (run_move (F.ev rfl)) rfl ?_; clear F a; intro a F
          refine rl_run F (run_addi (F.ev rfl) (F.ev rfl) (in_i64 (by omega) (by omega))) rfl ?_; clear F a; intro a F
          refine rl_run F (run_conv_int tok117.k ⟨_, by rw [under_int tok3.k]⟩ (F.ev rfl) (in_u64 (by omega) (by omega))) rfl ?_; clear F a; intro a F
          refine rl_run F (run_shri (m := 1) (F.ev rfl) (F.ev rfl) rfl (by decide)) rfl ?_; clear F a; intro a F
          have hs45 : (((((s : Nat) : Int)) + (((r : Nat) : Int))) / 2 ^ 1 : Int) = (((s + r) / 2 : Nat) : Int) := by rw [show (2 : Int) ^ 1 = 2 from rfl]; omega
          rw [hs45] at F
          refine rl_run F (run_conv_int tok3.k ⟨_, by rw [under_int tok117.k]⟩ (F.ev rfl) (in_i64 (by omega) (by omega))) rfl ?_; clear F a; intro a F
          refine rl_run F (run_assign (F.ev rfl)) rfl ?_; clear F a; intro a F
          refine rl_nil ?_
          refine q_tn ?_
          refine wp_seq ?_
          refine w_plan2 [(.free, 0), (.free, 1), (.free, 2), (.free, 3), (.free, 4), (.free, 5), (.pure, 6), (.free, 7), (.free, 8), (.free, 9), (.pure, 10), (.keep, 11), (.free, 12), (.free, 13)] [] (Keep G [.row (.slice (ad) (n) (c)) (n) (cs) 39 2]) rfl (by kernel_rfl) (fun c a d v w h => by cases d <;> exact h) ((M.drew _).keep (Gle.refl _) (by simp)) ?_
          replace M := M.drew (w.drawn + 1)
          refine pk_free F (fun w _ => run_move (F.ev rfl)) rfl ?_; clear F a; intro a F
          refine pk_free F (fun w _ => run_move (F.ev rfl)) rfl ?_; clear F a; intro a F
          refine pk_free F (fun w _ => run_move (F.ev rfl)) rfl ?_; clear F a; intro a F
          refine pk_free F (fun w _ => run_move (F.ev rfl)) rfl ?_; clear F a; intro a F
          refine pk_free F (fun w _ => run_subi (F.ev rfl) (F.ev rfl) (in_i64 (by omega) (by omega))) rfl ?_; clear F a; intro a F
          have hs46 : (((((md + mi) - 1 : Nat) : Int)) - ((((s + r) / 2 : Nat) : Int)) : Int) = ((((md + mi) - 1) - ((s + r) / 2) : Nat) : Int) := by omega
          rw [hs46] at F
          obtain ⟨Xe47, hXe47⟩ := get_of_lt (xs := xs) (i := ((md + mi) - 1) - ((s + r) / 2)) (by omega)
          obtain ⟨be47, _, Ie47, hme47, _, Ae47, ⟨rfl, hbe471, hbe472⟩⟩ := M.atRowK (k := 0) rfl (by decide) E (Lr := [.row (.slice (ad) (n) (c)) (n) (cs) 39 2]) (k' := 0) rfl hXe47
          refine pk_free F (fun w _ => run_indexI tok22.k tok39 (F.ev rfl) (F.ev rfl) (by omega) Ie47) rfl ?_; clear F a; intro a F
          refine pk_pure F (fun w M => run_loadA tok39 rfl (F.ev rfl) (cs := [.int .u64 (Xe47.key), .int .i64 (Xe47.v)]) rfl (cellsE (Ae47 w M) 0 (by omega) rfl)) rfl ?_; clear F a; intro a F
          refine pk_free F (fun w _ => run_move (F.ev rfl)) rfl ?_; clear F a; intro a F
          refine pk_free F (fun w _ => run_move (F.ev rfl)) rfl ?_; clear F a; intro a F
          obtain ⟨Xe48, hXe48⟩ := get_of_lt (xs := xs) (i := (s + r) / 2) (by omega)
          obtain ⟨be48, _, Ie48, hme48, _, Ae48, ⟨rfl, hbe481, hbe482⟩⟩ := M.atRowK (k := 0) rfl (by decide) E (Lr := [.row (.slice (ad) (n) (c)) (n) (cs) 39 2]) (k' := 0) rfl hXe48
          refine pk_free F (fun w _ => run_indexI tok22.k tok39 (F.ev rfl) (F.ev rfl) (by omega) Ie48) rfl ?_; clear F a; intro a F
          refine pk_pure F (fun w M => run_loadA tok39 rfl (F.ev rfl) (cs := [.int .u64 (Xe48.key), .int .i64 (Xe48.v)]) rfl (cellsE (Ae48 w M) 0 (by omega) rfl)) rfl ?_; clear F a; intro a F
          refine pk_keep ?_ rfl
          refine rl_callF F ent41 rfl rfl rfl (bykey_spec (x := Xe47) (y := Xe48) M) ?_; clear F M a; rintro _ w a M rfl F
          refine rl_nil ?_
          refine ⟨Keep G [.row (.slice (ad) (n) (c)) (n) (cs) 39 2], M.keep (Gle.refl _) (by simp), fun w h => h.mono (Gle.refl _) (by simp), ?_⟩
          refine pk_free F (fun w _ => run_lss (F.ev rfl) (F.ev rfl)) rfl ?_; clear F a; intro a F
          refine pk_free F (fun w _ => run_not (F.ev rfl)) rfl ?_; clear F a; intro a F
          refine pk_nil ?_
          refine q_tn ?_
          refine w_cond F rfl ?_ ?_
          · intro hc
            have h49b := hc; clear hc
            have h49 : ¬ (cmpF Xe47.key Xe48.key < 0) := of_decide_eq_false (of_not_t h49b)
            have h49c : (decide (cmpF Xe47.key Xe48.key < 0)) = false := (of_not_t h49b)
            refine w_reg ?_
            refine rl_run F (run_move (F.ev rfl)) rfl ?_; clear F a; intro a F
            refine rl_run F (run_addi (F.ev rfl) (F.ev rfl) (in_i64 (by omega) (by omega))) rfl ?_; clear F a; intro a F
            refine rl_run F (run_assign (F.ev rfl)) rfl ?_; clear F a; intro a F
            refine rl_nil ?_
            refine q_bn ?_
            refine q_tn ?_
            exact ⟨_, by omega, ((s + r) / 2) + 1, r, rfl, F.to ⟨rfl, rfl, rfl, rfl, rfl, rfl, rfl, rfl, rfl, rfl, trivial⟩, M, by omega, mlo_step hs1 hs2 hXe48 hXe47 (fun h => absurd (cmpF_neg.2 h) (by assumption)) (by omega) (by omega) (by omega) (by omega), hM2⟩
          · intro hc
            have h50b := hc; clear hc
            have h50 : cmpF Xe47.key Xe48.key < 0 := of_decide_eq_true (of_not_f h50b)
            have h50c : (decide (cmpF Xe47.key Xe48.key < 0)) = true := (of_not_f h50b)
            refine w_reg ?_
            refine rl_run F (run_move (F.ev rfl)) rfl ?_; clear F a; intro a F
            refine rl_run F (run_assign (F.ev rfl)) rfl ?_; clear F a; intro a F
            refine rl_nil ?_
            refine q_bn ?_
            refine q_tn ?_
            exact ⟨_, by omega, s, (s + r) / 2, rfl, F.to ⟨rfl, rfl, rfl, rfl, rfl, rfl, rfl, rfl, rfl, rfl, trivial⟩, M, by omega, hM1, mhi_step hs1 hs2 hXe48 hXe47 (cmpF_neg.1 (by assumption)) (by omega) (by omega) (by omega) (by omega)⟩
        · intro hc
          have h51b := hc; clear hc
          have h51 : ¬ (((s : Nat) : Int) < ((r : Nat) : Int)) := of_decide_eq_false h51b
          refine wp_exit ?_
          refine q_te ?_
          refine q_te ?_
          refine q_bh ?_
          refine q_tn ?_
          refine wp_seq ?_
          refine w_reg ?_
          refine rl_run F (run_move (F.ev rfl)) rfl ?_; clear F a; intro a F
          refine rl_run F (run_move (F.ev rfl)) rfl ?_; clear F a; intro a F
          refine rl_run F (run_subi (F.ev rfl) (F.ev rfl) (in_i64 (by omega) (by omega))) rfl ?_; clear F a; intro a F
          have hs52 : (((((md : Nat) : Int)) + (mi : Int)) - (((s : Nat) : Int)) : Int) = (((md + mi) - s : Nat) : Int) := by omega
          rw [hs52] at F
          refine rl_run F (run_assign (F.ev rfl)) rfl ?_; clear F a; intro a F
          refine rl_nil ?_
          refine q_tn ?_
          refine wp_seq ?_
          refine wp_seq ?_
          obtain ⟨e, he⟩ : ∃ e, e = (md + mi) - s := ⟨_, rfl⟩
          rw [← he] at F
          have hrs : r = s := by omega
          rw [hrs] at hM2
          have K1 := mid_k1 (a := lo) (b := hi) (e := e) hM1 (by omega) (by omega)
          have K2 := mid_k2 (m := mi) (e := e) hM2 (by omega) (by omega)
          refine w_cut (fun a' w' => ∃ (bb : Bool), Fits 220 a' [(0, .slice (ad) (n) (d)), (1, .int .i64 ((lo : Int))), (2, .int .i64 ((mi : Int))), (3, .int .i64 ((hi : Int))), (4, .func (.func 41) #[.agg #[]] #[]), (18, .int .i64 (((md : Nat) : Int))), (20, .int .i64 (((s : Nat) : Int))), (24, .int .i64 (((e : Nat) : Int))), (185, .bool (bb))] ∧ Mem w0 G (.row (.slice (ad) (n) (c)) (n) (cs) 39 2 :: L) w' ∧ (bb = true ↔ s < mi ∧ mi < e)) ?_ ?_
          · skip
            refine w_reg ?_
            refine rl_run F (run_move (F.ev rfl)) rfl ?_; clear F a; intro a F
            refine rl_run F (run_move (F.ev rfl)) rfl ?_; clear F a; intro a F
            refine rl_run F (run_lss (F.ev rfl) (F.ev rfl)) rfl ?_; clear F a; intro a F
            refine rl_run F (run_move (F.ev rfl)) rfl ?_; clear F a; intro a F
            rcases Bool.eq_false_or_eq_true (decide (((s : Nat) : Int) < (mi : Int))) with hc | hc
            · skip
              have h53b := hc; clear hc
              have h53 : ((s : Nat) : Int) < (mi : Int) := of_decide_eq_true h53b
              refine rl_guard_t F rfl rfl rfl h53b ?_
              refine rl_run F (run_move (F.ev rfl)) rfl ?_; clear F a; intro a F
              refine rl_guard_t F rfl rfl rfl h53b ?_
              refine rl_run F (run_move (F.ev rfl)) rfl ?_; clear F a; intro a F
              refine rl_guard_t F rfl rfl rfl h53b ?_
              refine rl_run F (run_lss (F.ev rfl) (F.ev rfl)) rfl ?_; clear F a; intro a F
              refine rl_run F (run_pick_t (F.ev rfl) h53b (F.ev rfl)) rfl ?_; clear F a; intro a F
              refine rl_nil ?_
              exact ⟨(decide ((mi : Int) < ((e : Nat) : Int))), F.to ⟨rfl, rfl, rfl, rfl, rfl, rfl, rfl, rfl, rfl, trivial⟩, M, by simp only [decide_eq_true_eq]; omega⟩
            · skip
              have h54b := hc; clear hc
              have h54 : ¬ (((s : Nat) : Int) < (mi : Int)) := of_decide_eq_false h54b
              refine rl_guard_f F rfl rfl rfl h54b ?_; clear F a; intro a F
              refine rl_guard_f F rfl rfl rfl h54b ?_; clear F a; intro a F
              refine rl_guard_f F rfl rfl rfl h54b ?_; clear F a; intro a F
              refine rl_run F (run_pick_f (F.ev rfl) h54b (F.ev rfl)) rfl ?_; clear F a; intro a F
              refine rl_nil ?_
              exact ⟨false, F.to ⟨rfl, rfl, rfl, rfl, rfl, rfl, rfl, rfl, rfl, trivial⟩, M, by simp; omega⟩
          · clear F M
            rintro a w ⟨bb, F, M, hbb⟩
            refine q_tn ?_
            refine w_cut (fun a' w' => ∃ (csz : List Value), ∃ (zs : List PairD), Fits 220 a' [(1, .int .i64 ((lo : Int))), (2, .int .i64 ((mi : Int))), (3, .int .i64 ((hi : Int))), (4, .func (.func 41) #[.agg #[]] #[]), (18, .int .i64 (((md : Nat) : Int))), (20, .int .i64 (((s : Nat) : Int))), (24, .int .i64 (((e : Nat) : Int))), (0, .slice (ad) (n) (d))] ∧ Mem w0 G (.row (.slice (ad) (n) (c)) (n) (csz) 39 2 :: L) w' ∧ (FromI (roI s mi e) xs zs) ∧ (Els rdPair 2 G csz zs)) ?_ ?_
            · skip
              refine w_cond F rfl ?_ ?_
              · intro hc
                have h55b := hc; clear hc
                have h55 : (bb) = true := h55b
                have hb2 := hbb.1 (by assumption)
                refine w_reg ?_
                refine rl_run F (run_move (F.ev rfl)) rfl ?_; clear F a; intro a F
                refine rl_run F (run_move (F.ev rfl)) rfl ?_; clear F a; intro a F
                refine rl_run F (run_move (F.ev rfl)) rfl ?_; clear F a; intro a F
                refine rl_run F (run_move (F.ev rfl)) rfl ?_; clear F a; intro a F
                refine rl_run F (run_move (F.ev rfl)) rfl ?_; clear F a; intro a F
                change Mem w0 G (.row (.slice (ad) (n) (c)) (n) (cs) 39 2 :: L) _ at M
                refine rl_callL F ent75 rfl rfl (rot_spec (lo := s) (mi := mi) (hi := e) M E hn (by omega) (by omega) (by omega) (by omega)) ?_; clear F M a; rintro _ _ w a M ⟨rfl, csg56, ysg56, rfl, Eg56, hRg56⟩ F
                refine rl_nil ?_
                exact ⟨csg56, ysg56, F.to ⟨rfl, rfl, rfl, rfl, rfl, rfl, rfl, rfl, trivial⟩, M, hRg56, Eg56⟩
              · intro hc
                have h57b := hc; clear hc
                have h57 : (bb) = false := h57b
                refine wp_skip ?_
                exact ⟨cs, xs, F.to ⟨rfl, rfl, rfl, rfl, rfl, rfl, rfl, rfl, trivial⟩, M, FromI.id (roI_triv (by omega) (by omega) (fun h => by have h2 := hbb.2 h; simp_all)), E⟩
            · clear F M
              rintro a w ⟨csz, zs, F, M, hF, Ez⟩
              refine q_tn ?_
              refine wp_seq ?_
              refine wp_seq ?_
              obtain ⟨gS, gA, gB, gC, gD, gX⟩ := mid_all (a := lo) (b := hi) (mid := md) (by omega) (by omega) (by omega) (by omega) (by omega) hhx hs1 hs2 hF K1 K2
              have hzl := gS.len
              refine w_cut (fun a' w' => ∃ (bb : Bool), Fits 220 a' [(0, .slice (ad) (n) (d)), (1, .int .i64 ((lo : Int))), (2, .int .i64 ((mi : Int))), (3, .int .i64 ((hi : Int))), (4, .func (.func 41) #[.agg #[]] #[]), (18, .int .i64 (((md : Nat) : Int))), (20, .int .i64 (((s : Nat) : Int))), (24, .int .i64 (((e : Nat) : Int))), (199, .bool (bb))] ∧ Mem w0 G (.row (.slice (ad) (n) (c)) (n) (csz) 39 2 :: L) w' ∧ (bb = true ↔ lo < s ∧ s < md)) ?_ ?_
              · skip
                obtain ⟨gS, gA, gB, gC, gD, gX⟩ := mid_all (a := lo) (b := hi) (mid := md) (by omega) (by omega) (by omega) (by omega) (by omega) hhx hs1 hs2 hF K1 K2
                have hzl := gS.len
                refine w_reg ?_
                refine rl_run F (run_move (F.ev rfl)) rfl ?_; clear F a; intro a F
                refine rl_run F (run_move (F.ev rfl)) rfl ?_; clear F a; intro a F
                refine rl_run F (run_lss (F.ev rfl) (F.ev rfl)) rfl ?_; clear F a; intro a F
                refine rl_run F (run_move (F.ev rfl)) rfl ?_; clear F a; intro a F
                rcases Bool.eq_false_or_eq_true (decide ((lo : Int) < ((s : Nat) : Int))) with hc | hc
                · skip
                  have h58b := hc; clear hc
                  have h58 : (lo : Int) < ((s : Nat) : Int) := of_decide_eq_true h58b
                  refine rl_guard_t F rfl rfl rfl h58b ?_
                  refine rl_run F (run_move (F.ev rfl)) rfl ?_; clear F a; intro a F
                  refine rl_guard_t F rfl rfl rfl h58b ?_
                  refine rl_run F (run_move (F.ev rfl)) rfl ?_; clear F a; intro a F
                  refine rl_guard_t F rfl rfl rfl h58b ?_
                  refine rl_run F (run_lss (F.ev rfl) (F.ev rfl)) rfl ?_; clear F a; intro a F
                  refine rl_run F (run_pick_t (F.ev rfl) h58b (F.ev rfl)) rfl ?_; clear F a; intro a F
                  refine rl_nil ?_
                  exact ⟨(decide (((s : Nat) : Int) < ((md : Nat) : Int))), F.to ⟨rfl, rfl, rfl, rfl, rfl, rfl, rfl, rfl, rfl, trivial⟩, M, by simp only [decide_eq_true_eq]; omega⟩
                · skip
                  have h59b := hc; clear hc
                  have h59 : ¬ ((lo : Int) < ((s : Nat) : Int)) := of_decide_eq_false h59b
                  refine rl_guard_f F rfl rfl rfl h59b ?_; clear F a; intro a F
                  refine rl_guard_f F rfl rfl rfl h59b ?_; clear F a; intro a F
                  refine rl_guard_f F rfl rfl rfl h59b ?_; clear F a; intro a F
                  refine rl_run F (run_pick_f (F.ev rfl) h59b (F.ev rfl)) rfl ?_; clear F a; intro a F
                  refine rl_nil ?_
                  exact ⟨false, F.to ⟨rfl, rfl, rfl, rfl, rfl, rfl, rfl, rfl, rfl, trivial⟩, M, by simp; omega⟩
              · clear F M
                rintro a w ⟨bb, F, M, hbb⟩
                refine q_tn ?_
                refine w_cut (fun a' w' => ∃ (csu : List Value), ∃ (us : List PairD), Fits 220 a' [(1, .int .i64 ((lo : Int))), (2, .int .i64 ((mi : Int))), (3, .int .i64 ((hi : Int))), (4, .func (.func 41) #[.agg #[]] #[]), (18, .int .i64 (((md : Nat) : Int))), (20, .int .i64 (((s : Nat) : Int))), (24, .int .i64 (((e : Nat) : Int))), (0, .slice (ad) (n) (d))] ∧ Mem w0 G (.row (.slice (ad) (n) (c)) (n) (csu) 39 2 :: L) w' ∧ (Seg lo md zs us) ∧ (SrtR us lo md) ∧ (Els rdPair 2 G csu us)) ?_ ?_
                · skip
                  refine w_cond F rfl ?_ ?_
                  · intro hc
                    have h60b := hc; clear hc
                    have h60 : (bb) = true := h60b
                    have hb2 := hbb.1 (by assumption)
                    refine w_reg ?_
                    refine rl_run F (run_move (F.ev rfl)) rfl ?_; clear F a; intro a F
                    refine rl_run F (run_move (F.ev rfl)) rfl ?_; clear F a; intro a F
                    refine rl_run F (run_move (F.ev rfl)) rfl ?_; clear F a; intro a F
                    refine rl_run F (run_move (F.ev rfl)) rfl ?_; clear F a; intro a F
                    refine rl_run F (run_move (F.ev rfl)) rfl ?_; clear F a; intro a F
                    change Mem w0 G (.row (.slice (ad) (n) (c)) (n) (csz) 39 2 :: L) _ at M
                    refine rl_callL F ent63 rfl rfl (ih _ _ _ _ _ _ _ _ _ _ lo s md M Ez (by omega) (by omega) (by omega) (by omega) (by omega) gA gB (by omega)) ?_; clear F M a; rintro _ _ w a M ⟨rfl, csg61, ysg61, rfl, Eg61, hGg61, hSg61⟩ F
                    refine rl_nil ?_
                    exact ⟨csg61, ysg61, F.to ⟨rfl, rfl, rfl, rfl, rfl, rfl, rfl, rfl, trivial⟩, M, hGg61, hSg61, Eg61⟩
                  · intro hc
                    have h62b := hc; clear hc
                    have h62 : (bb) = false := h62b
                    refine wp_skip ?_
                    exact ⟨csz, zs, F.to ⟨rfl, rfl, rfl, rfl, rfl, rfl, rfl, rfl, trivial⟩, M, Seg.refl _ _ _, gA.join1 gB (fun h => by have h2 := hbb.2 h; simp_all), Ez⟩
                · clear F M
                  rintro a w ⟨csu, us, F, M, hU, hUs, Eu⟩
                  refine q_tn ?_
                  refine wp_seq ?_
                  have hul := hU.len
                  refine w_cut (fun a' w' => ∃ (bb : Bool), Fits 220 a' [(0, .slice (ad) (n) (d)), (1, .int .i64 ((lo : Int))), (2, .int .i64 ((mi : Int))), (3, .int .i64 ((hi : Int))), (4, .func (.func 41) #[.agg #[]] #[]), (18, .int .i64 (((md : Nat) : Int))), (20, .int .i64 (((s : Nat) : Int))), (24, .int .i64 (((e : Nat) : Int))), (213, .bool (bb))] ∧ Mem w0 G (.row (.slice (ad) (n) (c)) (n) (csu) 39 2 :: L) w' ∧ (bb = true ↔ md < e ∧ e < hi)) ?_ ?_
                  · skip
                    have hul := hU.len
                    refine w_reg ?_
                    refine rl_run F (run_move (F.ev rfl)) rfl ?_; clear F a; intro a F
                    refine rl_run F (run_move (F.ev rfl)) rfl ?_; clear F a; intro a F
                    refine rl_run F (run_lss (F.ev rfl) (F.ev rfl)) rfl ?_; clear F a; intro a F
                    refine rl_run F (run_move (F.ev rfl)) rfl ?_; clear F a; intro a F
                    rcases Bool.eq_false_or_eq_true (decide (((md : Nat) : Int) < ((e : Nat) : Int))) with hc | hc
                    · skip
                      have h63b := hc; clear hc
                      have h63 : ((md : Nat) : Int) < ((e : Nat) : Int) := of_decide_eq_true h63b
                      refine rl_guard_t F rfl rfl rfl h63b ?_
                      refine rl_run F (run_move (F.ev rfl)) rfl ?_; clear F a; intro a F
                      refine rl_guard_t F rfl rfl rfl h63b ?_
                      refine rl_run F (run_move (F.ev rfl)) rfl ?_; clear F a; intro a F
                      refine rl_guard_t F rfl rfl rfl h63b ?_
                      refine rl_run F (run_lss (F.ev rfl) (F.ev rfl)) rfl ?_; clear F a; intro a F
                      refine rl_run F (run_pick_t (F.ev rfl) h63b (F.ev rfl)) rfl ?_; clear F a; intro a F
                      refine rl_nil ?_
                      exact ⟨(decide (((e : Nat) : Int) < (hi : Int))), F.to ⟨rfl, rfl, rfl, rfl, rfl, rfl, rfl, rfl, rfl, trivial⟩, M, by simp only [decide_eq_true_eq]; omega⟩
                    · skip
                      have h64b := hc; clear hc
                      have h64 : ¬ (((md : Nat) : Int) < ((e : Nat) : Int)) := of_decide_eq_false h64b
                      refine rl_guard_f F rfl rfl rfl h64b ?_; clear F a; intro a F
                      refine rl_guard_f F rfl rfl rfl h64b ?_; clear F a; intro a F
                      refine rl_guard_f F rfl rfl rfl h64b ?_; clear F a; intro a F
                      refine rl_run F (run_pick_f (F.ev rfl) h64b (F.ev rfl)) rfl ?_; clear F a; intro a F
                      refine rl_nil ?_
                      exact ⟨false, F.to ⟨rfl, rfl, rfl, rfl, rfl, rfl, rfl, rfl, rfl, trivial⟩, M, by simp; omega⟩
                  · clear F M
                    rintro a w ⟨bb, F, M, hbb⟩
                    refine q_tn ?_
                    refine w_cut (fun a' w' => ∃ (csv : List Value), ∃ (vs : List PairD), Fits 220 a' [(1, .int .i64 ((lo : Int))), (2, .int .i64 ((mi : Int))), (3, .int .i64 ((hi : Int))), (4, .func (.func 41) #[.agg #[]] #[]), (0, .slice (ad) (n) (d))] ∧ Mem w0 G (.row (.slice (ad) (n) (c)) (n) (csv) 39 2 :: L) w' ∧ (Seg md hi us vs) ∧ (SrtR vs md hi) ∧ (Els rdPair 2 G csv vs)) ?_ ?_
                    · skip
                      refine w_cond F rfl ?_ ?_
                      · intro hc
                        have h65b := hc; clear hc
                        have h65 : (bb) = true := h65b
                        have hb2 := hbb.1 (by assumption)
                        refine w_reg ?_
                        refine rl_run F (run_move (F.ev rfl)) rfl ?_; clear F a; intro a F
                        refine rl_run F (run_move (F.ev rfl)) rfl ?_; clear F a; intro a F
                        refine rl_run F (run_move (F.ev rfl)) rfl ?_; clear F a; intro a F
                        refine rl_run F (run_move (F.ev rfl)) rfl ?_; clear F a; intro a F
                        refine rl_run F (run_move (F.ev rfl)) rfl ?_; clear F a; intro a F
                        change Mem w0 G (.row (.slice (ad) (n) (c)) (n) (csu) 39 2 :: L) _ at M
                        refine rl_callL F ent63 rfl rfl (ih _ _ _ _ _ _ _ _ _ _ md e hi M Eu (by omega) (by omega) (by omega) (by omega) (by omega) (hU.srt_out gC (Nat.le_refl _)) (hU.srt_out gD (by omega)) (by omega)) ?_; clear F M a; rintro _ _ w a M ⟨rfl, csg66, ysg66, rfl, Eg66, hGg66, hSg66⟩ F
                        refine rl_nil ?_
                        exact ⟨csg66, ysg66, F.to ⟨rfl, rfl, rfl, rfl, rfl, trivial⟩, M, hGg66, hSg66, Eg66⟩
                      · intro hc
                        have h67b := hc; clear hc
                        have h67 : (bb) = false := h67b
                        refine wp_skip ?_
                        exact ⟨csu, us, F.to ⟨rfl, rfl, rfl, rfl, rfl, trivial⟩, M, Seg.refl _ _ _, (hU.srt_out gC (Nat.le_refl _)).join1 (hU.srt_out gD (by omega)) (fun h => by have h2 := hbb.2 h; simp_all), Eu⟩
                    · clear F M
                      rintro a w ⟨csv, vs, F, M, hV, hVs, Ev⟩
                      refine fin0n F rfl ?_
                      exact ⟨_, M, rfl, _, _, rfl, Ev, gS.trans ((hU.mono (Nat.le_refl _) (by omega)).trans (hV.mono (by omega) (Nat.le_refl _))), halves (by omega) (by omega) (by omega) hU hV hUs hVs gX⟩

theorem sym_all : ∀ N, SymP N := by
  intro N
  induction N with
  | zero => intro w0 w G L n c d ad cs xs lo mi hi _ _ _ _ _ _ _ _ _ h; omega
  | succ N ih => intro w0 w G L n c d ad cs xs lo mi hi M E hn hxs h1 h2 hhx hs1 hs2 hN; exact sym_step ih M E hn hxs h1 h2 hhx hs1 hs2 hN

end Go.Proofs.YtokeofoemjeleaaDoor
