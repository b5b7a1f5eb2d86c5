/- The walks, part A. -/
import Derived.Test.YtnloilnlehgngaaTab
import Derived.Test.YtnloilnlehgngaaWid
namespace Go.Proofs.Ytnloilnlehgngaa
open Go Go.Y Go.Proofs
set_option linter.unusedSimpArgs false
set_option linter.unusedVariables false
theorem at_spec {w0 w : World} {G : Ghost} {L : List Res} (M : Mem w0 G L w) {ad : Option Addr} {c : Nat} {xs : List PairD} {key : Int} (S : RdSl rdPair 2 G (.slice ad xs.length c) xs) (hlen : xs.length ≤ 9223372036854775807) :
    Calls Try.prog 16 #[.slice ad xs.length c, .int .u64 key] w (RetS w0 G L fun v => v = .tuple #[.int .i64 ((atF xs key).1 : Nat), .bool (atF xs key).2]) := by
  refine calls_start (vs := [_, _]) Try.func16 rfl (n := 30) rfl rfl ?_
  intro a F
  refine wp_seq ?_
  refine w_reg ?_
  refine rl_run F (run_assign (F.ev rfl)) rfl ?_; clear F a; intro a F
  refine rl_run F (run_assign (F.ev rfl)) rfl ?_; clear F a; intro a F
  refine rl_nil ?_
  refine q_tn ?_
  refine wp_seq ?_
  refine wp_seq ?_
  refine w_reg ?_
  refine rl_run F (run_assign (F.ev rfl)) rfl ?_; clear F a; intro a F
  refine rl_nil ?_
  refine q_tn ?_
  refine wp_block ?_
  refine w_loopN (fun m a' w' => ∃ (k : Nat), m = xs.length - k ∧ Fits 30 a' [(0, .slice (ad) (xs.length) (c)), (1, .int .u64 (key)), (6, .int .i64 (((k : Nat) : Int)))] ∧ Mem w0 G (L) w' ∧ (k ≤ xs.length) ∧ (atF xs key = ((atF (xs.drop k) key).1 + k, (atF (xs.drop k) key).2))) _ ⟨0, rfl, F.to ⟨rfl, rfl, rfl, trivial⟩, M, Nat.zero_le _, rfl⟩ ?_
  clear F M
  rintro m a w ⟨k, rfl, F, M, hk, hinv⟩
  refine wp_seq ?_
  refine wp_seq ?_
  refine w_reg ?_
  refine rl_run F (run_move (F.ev rfl)) rfl ?_; clear F a; intro a F
  refine rl_run F (run_move (F.ev rfl)) rfl ?_; clear F a; intro a F
  refine rl_run F (run_lenSl tok26.k (F.ev rfl)) rfl ?_; clear F a; intro a F
  refine rl_run F (run_lss (F.ev rfl) (F.ev rfl)) rfl ?_; clear F a; intro a F
  refine rl_nil ?_
  refine q_tn ?_
  refine w_cond F rfl ?_ ?_
  · intro hc
    have h1b := hc; clear hc
    have h1 : ((k : Nat) : Int) < ((xs.length : Nat) : Int) := of_decide_eq_true h1b
    refine wp_skip ?_
    refine q_tn ?_
    refine wp_seq ?_
    refine wp_block ?_
    refine wp_seq ?_
    refine w_reg ?_
    refine rl_run F (run_move (F.ev rfl)) rfl ?_; clear F a; intro a F
    refine rl_run F (run_move (F.ev rfl)) rfl ?_; clear F a; intro a F
    obtain ⟨Xe2, hXe2⟩ := get_of_lt (xs := xs) (i := k) (by omega)
    obtain ⟨be2, oe2, _, Ie2, _, Ae2, ⟨rfl, hbe21, hbe22⟩⟩ := S.at hXe2
    refine rl_run F (run_indexI tok26.k tok41 (F.ev rfl) (F.ev rfl) (by omega) Ie2) rfl ?_; clear F a; intro a F
    refine rl_run F (run_fieldAddr tok41.k rfl rfl (F.ev rfl)) rfl ?_; clear F a; intro a F
    refine rl_run F (run_load1 (agf tok27 rfl) (F.ev rfl) (M.cellA Ae2 0 rfl rfl)) rfl ?_; clear F a; intro a F
    refine rl_run F (run_move (F.ev rfl)) rfl ?_; clear F a; intro a F
    refine rl_run F (run_geq (F.ev rfl) (F.ev rfl)) rfl ?_; clear F a; intro a F
    refine rl_nil ?_
    refine q_tn ?_
    refine w_cond F rfl ?_ ?_
    · intro hc
      have h3b := hc; clear hc
      have h3 : key ≤ Xe2.key := of_decide_eq_true h3b
      refine wp_seq ?_
      refine w_plan [(true, 0), (true, 1), (true, 2), (true, 3), (true, 4), (true, 5), (true, 6), (true, 7), (true, 8), (true, 9)] (Keep G []) rfl (by kernel_rfl) (fun c a d v w h => by cases d <;> exact h) ((M.drew _).keep (Gle.refl _) (by simp)) ?_
      replace M := M.drew (w.drawn + 1)
      refine pl_run F (fun w M => run_move (F.ev rfl)) rfl ?_; clear F a; intro a F
      refine pl_run F (fun w M => run_move (F.ev rfl)) rfl ?_; clear F a; intro a F
      refine pl_run F (fun w M => run_move (F.ev rfl)) rfl ?_; clear F a; intro a F
      obtain ⟨be4, oe4, _, Ie4, _, Ae4, ⟨rfl, hbe41, hbe42⟩⟩ := S.at hXe2
      refine pl_run F (fun w M => run_indexI tok26.k tok41 (F.ev rfl) (F.ev rfl) (by omega) Ie4) rfl ?_; clear F a; intro a F
      refine pl_run F (fun w M => run_fieldAddr tok41.k rfl rfl (F.ev rfl)) rfl ?_; clear F a; intro a F
      refine pl_run F (fun w M => run_load1 (agf tok27 rfl) (F.ev rfl) (M.cellA Ae4 0 rfl rfl)) rfl ?_; clear F a; intro a F
      refine pl_run F (fun w M => run_move (F.ev rfl)) rfl ?_; clear F a; intro a F
      refine pl_run F (fun w M => run_eqi (F.ev rfl) (F.ev rfl)) rfl ?_; clear F a; intro a F
      refine pl_run F (fun w M => run_assign (F.ev rfl)) rfl ?_; clear F a; intro a F
      refine pl_run F (fun w M => run_assign (F.ev rfl)) rfl ?_; clear F a; intro a F
      refine pl_nil ?_
      generalize ({ w with drawn := w.drawn + 1 } : World) = w at M ⊢
      refine q_tn ?_
      refine wp_ret ?_
      refine q_br ?_
      refine q_tr ?_
      refine q_tr ?_
      refine q_br ?_
      refine q_tr ?_
      refine fin2 F rfl rfl rfl ?_
      exact ⟨M, by rw [(atF_step hinv hXe2).1 (by omega)]⟩
    · intro hc
      have h5b := hc; clear hc
      have h5 : ¬ (key ≤ Xe2.key) := of_decide_eq_false h5b
      refine wp_skip ?_
      refine q_bn ?_
      refine q_tn ?_
      refine w_reg ?_
      refine rl_run F (run_move (F.ev rfl)) rfl ?_; clear F a; intro a F
      refine rl_run F (run_addi (F.ev rfl) (F.ev rfl) (in_i64 (by omega) (by omega))) rfl ?_; clear F a; intro a F
      refine rl_run F (run_assign (F.ev rfl)) rfl ?_; clear F a; intro a F
      refine rl_nil ?_
      refine q_tn ?_
      exact ⟨_, by omega, k + 1, rfl, F.to ⟨rfl, rfl, rfl, trivial⟩, M, by omega, (atF_step hinv hXe2).2 (by omega)⟩
  · intro hc
    have h6b := hc; clear hc
    have h6 : ¬ (((k : Nat) : Int) < ((xs.length : Nat) : Int)) := of_decide_eq_false h6b
    refine wp_exit ?_
    refine q_te ?_
    refine q_te ?_
    refine q_bh ?_
    refine q_tn ?_
    refine wp_seq ?_
    refine w_reg ?_
    refine rl_run F (run_move (F.ev rfl)) rfl ?_; clear F a; intro a F
    refine rl_run F (run_lenSl tok26.k (F.ev rfl)) rfl ?_; clear F a; intro a F
    refine rl_run F (run_assign (F.ev rfl)) rfl ?_; clear F a; intro a F
    refine rl_run F (run_assign (F.ev rfl)) rfl ?_; clear F a; intro a F
    refine rl_nil ?_
    refine q_tn ?_
    refine wp_ret ?_
    refine fin2 F rfl rfl rfl ?_
    exact ⟨M, by rw [atF_end hinv (by omega)]⟩

theorem put_spec {w0 w : World} {G : Ghost} {L : List Res} (M : Mem w0 G L w) {ad : Option Addr} {c : Nat} {xs : List PairD} {key v : Int} (S : RdSl rdPair 2 G (.slice ad xs.length c) xs) (hkey : inKind .u64 key) (hv : inKind .i64 v) (hlen : xs.length ≤ 100000) :
    Calls Try.prog 13 #[.slice ad xs.length c, .int .u64 key, .int .i64 v] w (Ret w0 G L (PutR xs key v)) := by
  refine calls_start (vs := [_, _, _]) Try.func13 rfl (n := 47) rfl rfl ?_
  intro a F
  refine wp_seq ?_
  refine w_reg ?_
  refine rl_run F (run_assign (F.ev rfl)) rfl ?_; clear F a; intro a F
  refine rl_run F (run_assign (F.ev rfl)) rfl ?_; clear F a; intro a F
  refine rl_nil ?_
  refine q_tn ?_
  refine wp_seq ?_
  refine wp_seq ?_
  refine w_reg ?_
  refine rl_run F (run_move (F.ev rfl)) rfl ?_; clear F a; intro a F
  refine rl_run F (run_eqi (F.ev rfl) (F.ev rfl)) rfl ?_; clear F a; intro a F
  refine rl_nil ?_
  refine q_tn ?_
  refine w_cond F rfl ?_ ?_
  · intro hc
    have h1b := hc; clear hc
    have h1 : key = 0 := of_decide_eq_true h1b
    refine wp_seq ?_
    refine w_reg ?_
    refine rl_run F (run_move (F.ev rfl)) rfl ?_; clear F a; intro a F
    refine rl_run F (run_assign (F.ev rfl)) rfl ?_; clear F a; intro a F
    refine rl_run F (run_assign (F.ev rfl)) rfl ?_; clear F a; intro a F
    refine rl_nil ?_
    refine q_tn ?_
    refine wp_ret ?_
    refine q_tr ?_
    refine fin2 F rfl rfl rfl ?_
    exact ⟨G, Gle.refl _, (M.weaken (List.Sublist.refl _)), PutR.mk (by simp [putF, ‹key = 0›]) rfl S⟩
  · intro hc
    have h2b := hc; clear hc
    have h2 : ¬ (key = 0) := of_decide_eq_false h2b
    refine wp_skip ?_
    refine q_tn ?_
    refine wp_seq ?_
    refine w_reg ?_
    refine rl_run F (run_move (F.ev rfl)) rfl ?_; clear F a; intro a F
    refine rl_run F (run_move (F.ev rfl)) rfl ?_; clear F a; intro a F
    refine rl_callS F ent16 rfl rfl (at_spec M S (by omega)) ?_; clear F M a; rintro _ w a M rfl F
    have hat3 := atF_le xs key
    refine rl_run F (run_move (F.ev rfl)) rfl ?_; clear F a; intro a F
    refine rl_run F (run_extract (v := .int .i64 ((((atF xs key).1 : Nat) : Int))) (F.ev rfl) rfl) rfl ?_; clear F a; intro a F
    refine rl_run F (run_extract (v := .bool ((atF xs key).2)) (F.ev rfl) rfl) rfl ?_; clear F a; intro a F
    refine rl_run F (run_assign (F.ev rfl)) rfl ?_; clear F a; intro a F
    refine rl_run F (run_assign (F.ev rfl)) rfl ?_; clear F a; intro a F
    refine rl_nil ?_
    refine q_tn ?_
    refine wp_seq ?_
    refine wp_seq ?_
    refine w_reg ?_
    refine rl_run F (run_move (F.ev rfl)) rfl ?_; clear F a; intro a F
    refine rl_run F (run_not (F.ev rfl)) rfl ?_; clear F a; intro a F
    refine rl_run F (run_move (F.ev rfl)) rfl ?_; clear F a; intro a F
    rcases Bool.eq_false_or_eq_true (!((atF xs key).2)) with hc | hc
    · skip
      have h4b := hc; clear hc
      have h4 : ((atF xs key).2) = false := (of_not_t h4b)
      have h4c : ((atF xs key).2) = false := (of_not_t h4b)
      refine rl_guard_t F rfl rfl rfl (not_t h4c) ?_
      refine rl_run F (run_move (F.ev rfl)) rfl ?_; clear F a; intro a F
      refine rl_guard_t F rfl rfl rfl (not_t h4c) ?_
      refine rl_run F (run_lenSl tok26.k (F.ev rfl)) rfl ?_; clear F a; intro a F
      refine rl_guard_t F rfl rfl rfl (not_t h4c) ?_
      refine rl_run F (run_geq (F.ev rfl) (F.ev rfl)) rfl ?_; clear F a; intro a F
      refine rl_run F (run_pick_t (F.ev rfl) (not_t h4c) (F.ev rfl)) rfl ?_; clear F a; intro a F
      refine rl_nil ?_
      refine q_tn ?_
      refine w_cond F rfl ?_ ?_
      · intro hc
        have h5b := hc; clear hc
        have h5 : 4096 ≤ ((xs.length : Nat) : Int) := of_decide_eq_true h5b
        refine wp_seq ?_
        refine w_reg ?_
        refine rl_run F (run_move (F.ev rfl)) rfl ?_; clear F a; intro a F
        refine rl_run F (run_assign (F.ev rfl)) rfl ?_; clear F a; intro a F
        refine rl_run F (run_assign (F.ev rfl)) rfl ?_; clear F a; intro a F
        refine rl_nil ?_
        refine q_tn ?_
        refine wp_ret ?_
        refine q_tr ?_
        refine fin2 F rfl rfl rfl ?_
        exact ⟨G, Gle.refl _, (M.weaken (List.Sublist.refl _)), PutR.mk (by simp [putF, ‹¬ (key = 0)›, ‹(atF xs key).2 = false›]; omega) rfl S⟩
      · intro hc
        have h6b := hc; clear hc
        have h6 : ¬ (4096 ≤ ((xs.length : Nat) : Int)) := of_decide_eq_false h6b
        refine wp_skip ?_
        refine q_tn ?_
        refine wp_seq ?_
        refine w_reg ?_
        refine rl_buildSlice0 F M tok26.k tok41 rfl ?_; clear F M a; intro v7 w a M F
        obtain ⟨av7, cv7, rfl, hlev7, hcmv7, hlv7⟩ := M.row_shape (k := 0) rfl
        refine rl_run F (run_move (F.ev rfl)) rfl ?_; clear F a; intro a F
        refine rl_run F (run_move (F.ev rfl)) rfl ?_; clear F a; intro a F
        obtain ⟨as8, cs8, Is8, hms8, hcs8, Ss8⟩ := S.partT ((atF xs key).1) (by omega)
        refine rl_run F (run_sliceI tok26.k tok41 Is8 (F.ev rfl) (h := (atF xs key).1) (kl := .i64) (zl := 0) rfl ⟨(F.ev rfl), by omega⟩ (by omega) (by omega)) rfl ?_; clear F a; intro a F
        refine rl_append F M (k := 0) rfl tok26.k tok41 rfl rfl (by decide) rfl Ss8 rfl (by show _ * 16 ≤ _; (try simp only [List.length_drop, List.length_take, List.length_append, List.length_cons, List.length_nil]); omega) (by (try simp only [List.length_drop, List.length_take, List.length_append, List.length_cons, List.length_nil]); omega) rfl ?_; clear F M a; intro v9 csv9 w a M Ev9 F
        have Ev9 := Els.append Els.nil Ev9
        obtain ⟨av9, cv9, rfl, hlev9, hcmv9, hlv9⟩ := M.row_shape (k := 0) rfl
        refine rl_run F (run_assign (F.ev rfl)) rfl ?_; clear F a; intro a F
        refine rl_nil ?_
        refine q_tn ?_
        refine wp_seq ?_
        refine w_reg ?_
        refine rl_run F (run_move (F.ev rfl)) rfl ?_; clear F a; intro a F
        refine rl_run F (run_move (F.ev rfl)) rfl ?_; clear F a; intro a F
        refine rl_run F (run_move (F.ev rfl)) rfl ?_; clear F a; intro a F
        refine rl_run F (run_buildS (cs := [.int .u64 (key), .int .i64 (v)]) (ps := [(0, .int .u64 (key)), (1, .int .i64 (v))]) tok41.k rfl tok41 (F.evp rfl) rfl) rfl ?_; clear F a; intro a F
        refine rl_buildSlice1 F M tok26.k tok41 rfl rfl (cs := [.int .u64 (key), .int .i64 (v)]) rfl rfl (by simp [Value.oneCell']) (by decide) rfl ?_; clear F M a; intro v10 w a M F
        obtain ⟨av10, cv10, rfl, hlev10, hcmv10, hlv10⟩ := M.row_shape (k := 0) rfl
        have E1 : Els rdPair 2 G [.int .u64 key, .int .i64 v] [(⟨key, v⟩ : PairD)] := Els.one ⟨rfl, hkey, hv⟩ rfl
        refine rl_append_row F M (k := 1) (k2 := 0) rfl rfl tok26.k tok41 rfl rfl (by decide) rfl rfl (by show _ * 16 ≤ _; (try simp only [List.length_drop, List.length_take, List.length_append, List.length_cons, List.length_nil]); omega) (by (try simp only [List.length_drop, List.length_take, List.length_append, List.length_cons, List.length_nil]); omega) rfl ?_; clear F M a; intro v11 w a M F
        have Ev11 := Els.append Ev9 E1
        obtain ⟨av11, cv11, rfl, hlev11, hcmv11, hlv11⟩ := M.row_shape (k := 1) rfl
        refine rl_run F (run_assign (F.ev rfl)) rfl ?_; clear F a; intro a F
        refine rl_nil ?_
        refine q_tn ?_
        refine wp_seq ?_
        refine wp_seq ?_
        refine w_reg ?_
        refine rl_run F (run_move (F.ev rfl)) rfl ?_; clear F a; intro a F
        refine rl_nil ?_
        refine q_tn ?_
        refine w_cond_f F rfl h4c ?_
        refine wp_skip ?_
        refine q_tn ?_
        refine wp_seq ?_
        refine w_reg ?_
        refine rl_run F (run_move (F.ev rfl)) rfl ?_; clear F a; intro a F
        refine rl_run F (run_move (F.ev rfl)) rfl ?_; clear F a; intro a F
        refine rl_run F (run_move (F.ev rfl)) rfl ?_; clear F a; intro a F
        obtain ⟨as12, cs12, Is12, hms12, hcs12, Ss12⟩ := S.partD ((atF xs key).1) (by omega)
        refine rl_run F (run_sliceI tok26.k tok41 Is12 (F.ev rfl) (h := xs.length) (kh := .i64) (zh := 0) ⟨(F.ev rfl), by omega⟩ (by omega) (by omega) (by omega)) rfl ?_; clear F a; intro a F
        refine rl_append F M (k := 1) rfl tok26.k tok41 rfl rfl (by decide) rfl Ss12 rfl (by show _ * 16 ≤ _; (try simp only [List.length_drop, List.length_take, List.length_append, List.length_cons, List.length_nil]); omega) (by (try simp only [List.length_drop, List.length_take, List.length_append, List.length_cons, List.length_nil]); omega) rfl ?_; clear F M a; intro v13 csv13 w a M Ev13 F
        have Ev13 := Els.append Ev11 Ev13
        obtain ⟨av13, cv13, rfl, hlev13, hcmv13, hlv13⟩ := M.row_shape (k := 1) rfl
        refine rl_run F (run_assign (F.ev rfl)) rfl ?_; clear F a; intro a F
        refine rl_run F (run_assign (F.ev rfl)) rfl ?_; clear F a; intro a F
        refine rl_nil ?_
        refine q_tn ?_
        refine wp_ret ?_
        refine fin2 F rfl rfl rfl ?_
        obtain ⟨hnz14, Gz14, az14, cz14, hGz14, hez14, Sz14, M⟩ := M.freeze_row mono_rdPair (k := 1) rfl Ev13 (by decide)
        clear hez14 az14 cz14
        exact ⟨Gz14, hGz14, (M.weaken (.cons _ (List.Sublist.refl _))), PutR.mk (by simp [putF, ‹¬ (key = 0)›, ‹(atF xs key).2 = false›]; omega) hnz14 Sz14⟩
    · skip
      have h15b := hc; clear hc
      have h15 : ((atF xs key).2) = true := (of_not_f h15b)
      have h15c : ((atF xs key).2) = true := (of_not_f h15b)
      have hfl := (atF_le xs key).2 h15
      refine rl_guard_f F rfl rfl rfl (not_f h15c) ?_; clear F a; intro a F
      refine rl_guard_f F rfl rfl rfl (not_f h15c) ?_; clear F a; intro a F
      refine rl_guard_f F rfl rfl rfl (not_f h15c) ?_; clear F a; intro a F
      refine rl_run F (run_pick_f (F.ev rfl) (not_f h15c) (F.ev rfl)) rfl ?_; clear F a; intro a F
      refine rl_nil ?_
      refine q_tn ?_
      refine w_cond_f F rfl rfl ?_
      refine wp_skip ?_
      refine q_tn ?_
      refine wp_seq ?_
      refine w_reg ?_
      refine rl_buildSlice0 F M tok26.k tok41 rfl ?_; clear F M a; intro v16 w a M F
      obtain ⟨av16, cv16, rfl, hlev16, hcmv16, hlv16⟩ := M.row_shape (k := 0) rfl
      refine rl_run F (run_move (F.ev rfl)) rfl ?_; clear F a; intro a F
      refine rl_run F (run_move (F.ev rfl)) rfl ?_; clear F a; intro a F
      obtain ⟨as17, cs17, Is17, hms17, hcs17, Ss17⟩ := S.partT ((atF xs key).1) (by omega)
      refine rl_run F (run_sliceI tok26.k tok41 Is17 (F.ev rfl) (h := (atF xs key).1) (kl := .i64) (zl := 0) rfl ⟨(F.ev rfl), by omega⟩ (by omega) (by omega)) rfl ?_; clear F a; intro a F
      refine rl_append F M (k := 0) rfl tok26.k tok41 rfl rfl (by decide) rfl Ss17 rfl (by show _ * 16 ≤ _; (try simp only [List.length_drop, List.length_take, List.length_append, List.length_cons, List.length_nil]); omega) (by (try simp only [List.length_drop, List.length_take, List.length_append, List.length_cons, List.length_nil]); omega) rfl ?_; clear F M a; intro v18 csv18 w a M Ev18 F
      have Ev18 := Els.append Els.nil Ev18
      obtain ⟨av18, cv18, rfl, hlev18, hcmv18, hlv18⟩ := M.row_shape (k := 0) rfl
      refine rl_run F (run_assign (F.ev rfl)) rfl ?_; clear F a; intro a F
      refine rl_nil ?_
      refine q_tn ?_
      refine wp_seq ?_
      refine w_reg ?_
      refine rl_run F (run_move (F.ev rfl)) rfl ?_; clear F a; intro a F
      refine rl_run F (run_move (F.ev rfl)) rfl ?_; clear F a; intro a F
      refine rl_run F (run_move (F.ev rfl)) rfl ?_; clear F a; intro a F
      refine rl_run F (run_buildS (cs := [.int .u64 (key), .int .i64 (v)]) (ps := [(0, .int .u64 (key)), (1, .int .i64 (v))]) tok41.k rfl tok41 (F.evp rfl) rfl) rfl ?_; clear F a; intro a F
      refine rl_buildSlice1 F M tok26.k tok41 rfl rfl (cs := [.int .u64 (key), .int .i64 (v)]) rfl rfl (by simp [Value.oneCell']) (by decide) rfl ?_; clear F M a; intro v19 w a M F
      obtain ⟨av19, cv19, rfl, hlev19, hcmv19, hlv19⟩ := M.row_shape (k := 0) rfl
      have E1 : Els rdPair 2 G [.int .u64 key, .int .i64 v] [(⟨key, v⟩ : PairD)] := Els.one ⟨rfl, hkey, hv⟩ rfl
      refine rl_append_row F M (k := 1) (k2 := 0) rfl rfl tok26.k tok41 rfl rfl (by decide) rfl rfl (by show _ * 16 ≤ _; (try simp only [List.length_drop, List.length_take, List.length_append, List.length_cons, List.length_nil]); omega) (by (try simp only [List.length_drop, List.length_take, List.length_append, List.length_cons, List.length_nil]); omega) rfl ?_; clear F M a; intro v20 w a M F
      have Ev20 := Els.append Ev18 E1
      obtain ⟨av20, cv20, rfl, hlev20, hcmv20, hlv20⟩ := M.row_shape (k := 1) rfl
      refine rl_run F (run_assign (F.ev rfl)) rfl ?_; clear F a; intro a F
      refine rl_nil ?_
      refine q_tn ?_
      refine wp_seq ?_
      refine wp_seq ?_
      refine w_reg ?_
      refine rl_run F (run_move (F.ev rfl)) rfl ?_; clear F a; intro a F
      refine rl_nil ?_
      refine q_tn ?_
      refine w_cond_t F rfl h15c ?_
      refine w_reg ?_
      refine rl_run F (run_move (F.ev rfl)) rfl ?_; clear F a; intro a F
      refine rl_run F (run_addi (F.ev rfl) (F.ev rfl) (in_i64 (by omega) (by omega))) rfl ?_; clear F a; intro a F
      refine rl_run F (run_assign (F.ev rfl)) rfl ?_; clear F a; intro a F
      refine rl_nil ?_
      refine q_tn ?_
      refine wp_seq ?_
      refine w_reg ?_
      refine rl_run F (run_move (F.ev rfl)) rfl ?_; clear F a; intro a F
      refine rl_run F (run_move (F.ev rfl)) rfl ?_; clear F a; intro a F
      refine rl_run F (run_move (F.ev rfl)) rfl ?_; clear F a; intro a F
      obtain ⟨as21, cs21, Is21, hms21, hcs21, Ss21⟩ := S.partD (((atF xs key).1) + 1) (by omega)
      refine rl_run F (run_sliceI tok26.k tok41 Is21 (F.ev rfl) (h := xs.length) (kh := .i64) (zh := 0) ⟨(F.ev rfl), by omega⟩ (by omega) (by omega) (by omega)) rfl ?_; clear F a; intro a F
      refine rl_append F M (k := 1) rfl tok26.k tok41 rfl rfl (by decide) rfl Ss21 rfl (by show _ * 16 ≤ _; (try simp only [List.length_drop, List.length_take, List.length_append, List.length_cons, List.length_nil]); omega) (by (try simp only [List.length_drop, List.length_take, List.length_append, List.length_cons, List.length_nil]); omega) rfl ?_; clear F M a; intro v22 csv22 w a M Ev22 F
      have Ev22 := Els.append Ev20 Ev22
      obtain ⟨av22, cv22, rfl, hlev22, hcmv22, hlv22⟩ := M.row_shape (k := 1) rfl
      refine rl_run F (run_assign (F.ev rfl)) rfl ?_; clear F a; intro a F
      refine rl_run F (run_assign (F.ev rfl)) rfl ?_; clear F a; intro a F
      refine rl_nil ?_
      refine q_tn ?_
      refine wp_ret ?_
      refine fin2 F rfl rfl rfl ?_
      obtain ⟨hnz23, Gz23, az23, cz23, hGz23, hez23, Sz23, M⟩ := M.freeze_row mono_rdPair (k := 1) rfl Ev22 (by decide)
      clear hez23 az23 cz23
      exact ⟨Gz23, hGz23, (M.weaken (.cons _ (List.Sublist.refl _))), PutR.mk (by simp [putF, ‹¬ (key = 0)›, ‹(atF xs key).2 = true›]) hnz23 Sz23⟩

theorem drop_spec {w0 w : World} {G : Ghost} {L : List Res} (M : Mem w0 G L w) {ad : Option Addr} {c : Nat} {xs : List PairD} {key : Int} (S : RdSl rdPair 2 G (.slice ad xs.length c) xs) (hlen : xs.length ≤ 100000) :
    Calls Try.prog 11 #[.slice ad xs.length c, .int .u64 key] w (Ret w0 G L (DropR xs key)) := by
  refine calls_start (vs := [_, _]) Try.func11 rfl (n := 27) rfl rfl ?_
  intro a F
  refine wp_seq ?_
  refine w_reg ?_
  refine rl_run F (run_assign (F.ev rfl)) rfl ?_; clear F a; intro a F
  refine rl_run F (run_assign (F.ev rfl)) rfl ?_; clear F a; intro a F
  refine rl_nil ?_
  refine q_tn ?_
  refine wp_seq ?_
  refine w_reg ?_
  refine rl_run F (run_move (F.ev rfl)) rfl ?_; clear F a; intro a F
  refine rl_run F (run_move (F.ev rfl)) rfl ?_; clear F a; intro a F
  refine rl_callS F ent16 rfl rfl (at_spec M S (by omega)) ?_; clear F M a; rintro _ w a M rfl F
  have hat1 := atF_le xs key
  refine rl_run F (run_move (F.ev rfl)) rfl ?_; clear F a; intro a F
  refine rl_run F (run_extract (v := .int .i64 ((((atF xs key).1 : Nat) : Int))) (F.ev rfl) rfl) rfl ?_; clear F a; intro a F
  refine rl_run F (run_extract (v := .bool ((atF xs key).2)) (F.ev rfl) rfl) rfl ?_; clear F a; intro a F
  refine rl_run F (run_assign (F.ev rfl)) rfl ?_; clear F a; intro a F
  refine rl_run F (run_assign (F.ev rfl)) rfl ?_; clear F a; intro a F
  refine rl_nil ?_
  refine q_tn ?_
  refine wp_seq ?_
  refine wp_seq ?_
  refine w_reg ?_
  refine rl_run F (run_move (F.ev rfl)) rfl ?_; clear F a; intro a F
  refine rl_run F (run_not (F.ev rfl)) rfl ?_; clear F a; intro a F
  refine rl_nil ?_
  refine q_tn ?_
  refine w_cond F rfl ?_ ?_
  · intro hc
    have h2b := hc; clear hc
    have h2 : ((atF xs key).2) = false := (of_not_t h2b)
    have h2c : ((atF xs key).2) = false := (of_not_t h2b)
    refine wp_seq ?_
    refine w_reg ?_
    refine rl_run F (run_move (F.ev rfl)) rfl ?_; clear F a; intro a F
    refine rl_run F (run_assign (F.ev rfl)) rfl ?_; clear F a; intro a F
    refine rl_run F (run_assign (F.ev rfl)) rfl ?_; clear F a; intro a F
    refine rl_nil ?_
    refine q_tn ?_
    refine wp_ret ?_
    refine q_tr ?_
    refine fin2 F rfl rfl rfl ?_
    exact ⟨G, Gle.refl _, (M.weaken (List.Sublist.refl _)), DropR.mk (by simp [dropF, ‹(atF xs key).2 = false›]) rfl S⟩
  · intro hc
    have h3b := hc; clear hc
    have h3 : ((atF xs key).2) = true := (of_not_f h3b)
    have h3c : ((atF xs key).2) = true := (of_not_f h3b)
    have hfl := (atF_le xs key).2 h3
    refine wp_skip ?_
    refine q_tn ?_
    refine wp_seq ?_
    refine w_plan [(true, 1), (true, 2), (true, 3), (true, 5), (true, 6), (true, 7), (true, 8), (false, 0), (false, 4), (false, 9), (true, 10), (true, 11)] (Keep G []) rfl (by kernel_rfl) (fun c a d v w h => by cases d <;> exact h) ((M.drew _).keep (Gle.refl _) (by simp)) ?_
    replace M := M.drew (w.drawn + 1)
    refine pl_run F (fun w M => run_move (F.ev rfl)) rfl ?_; clear F a; intro a F
    refine pl_run F (fun w M => run_move (F.ev rfl)) rfl ?_; clear F a; intro a F
    obtain ⟨as4, cs4, Is4, hms4, hcs4, Ss4⟩ := S.partT ((atF xs key).1) (by omega)
    refine pl_run F (fun w M => run_sliceI tok26.k tok41 Is4 (F.ev rfl) (h := (atF xs key).1) (kl := .i64) (zl := 0) rfl ⟨(F.ev rfl), by omega⟩ (by omega) (by omega)) rfl ?_; clear F a; intro a F
    refine pl_run F (fun w M => run_move (F.ev rfl)) rfl ?_; clear F a; intro a F
    refine pl_run F (fun w M => run_move (F.ev rfl)) rfl ?_; clear F a; intro a F
    refine pl_run F (fun w M => run_addi (F.ev rfl) (F.ev rfl) (in_i64 (by omega) (by omega))) rfl ?_; clear F a; intro a F
    obtain ⟨as5, cs5, Is5, hms5, hcs5, Ss5⟩ := S.partD (((atF xs key).1) + 1) (by omega)
    refine pl_run F (fun w M => run_sliceI tok26.k tok41 Is5 (F.ev rfl) (h := xs.length) (kh := .i64) (zh := 0) ⟨(F.ev rfl), by omega⟩ (by omega) (by omega) (by omega)) rfl ?_; clear F a; intro a F
    refine pl_act ?_ rfl
    refine rl_buildSlice0 F M tok26.k tok41 rfl ?_; clear F M a; intro v6 w a M F
    obtain ⟨av6, cv6, rfl, hlev6, hcmv6, hlv6⟩ := M.row_shape (k := 0) rfl
    refine rl_nil ?_
    refine ⟨Keep G [], M.keep (Gle.refl _) (by simp), fun w h => h.mono (Gle.refl _) (by simp), ?_⟩
    refine pl_act ?_ rfl
    refine rl_append F M (k := 0) rfl tok26.k tok41 rfl rfl (by decide) rfl Ss4 rfl (by show _ * 16 ≤ _; (try simp only [List.length_drop, List.length_take, List.length_append, List.length_cons, List.length_nil]); omega) (by (try simp only [List.length_drop, List.length_take, List.length_append, List.length_cons, List.length_nil]); omega) rfl ?_; clear F M a; intro v7 csv7 w a M Ev7 F
    have Ev7 := Els.append Els.nil Ev7
    obtain ⟨av7, cv7, rfl, hlev7, hcmv7, hlv7⟩ := M.row_shape (k := 0) rfl
    refine rl_nil ?_
    refine ⟨Keep G [], M.keep (Gle.refl _) (by simp), fun w h => h.mono (Gle.refl _) (by simp), ?_⟩
    refine pl_act ?_ rfl
    refine rl_append F M (k := 0) rfl tok26.k tok41 rfl rfl (by decide) rfl Ss5 rfl (by show _ * 16 ≤ _; (try simp only [List.length_drop, List.length_take, List.length_append, List.length_cons, List.length_nil]); omega) (by (try simp only [List.length_drop, List.length_take, List.length_append, List.length_cons, List.length_nil]); omega) rfl ?_; clear F M a; intro v8 csv8 w a M Ev8 F
    have Ev8 := Els.append Ev7 Ev8
    obtain ⟨av8, cv8, rfl, hlev8, hcmv8, hlv8⟩ := M.row_shape (k := 0) rfl
    refine rl_nil ?_
    refine ⟨Keep G [], M.keep (Gle.refl _) (by simp), fun w h => h.mono (Gle.refl _) (by simp), ?_⟩
    refine pl_run F (fun w M => run_assign (F.ev rfl)) rfl ?_; clear F a; intro a F
    refine pl_run F (fun w M => run_assign (F.ev rfl)) rfl ?_; clear F a; intro a F
    refine pl_nil ?_
    refine q_tn ?_
    refine wp_ret ?_
    refine fin2 F rfl rfl rfl ?_
    obtain ⟨hnz9, Gz9, az9, cz9, hGz9, hez9, Sz9, M⟩ := M.freeze_row mono_rdPair (k := 0) rfl Ev8 (by decide)
    clear hez9 az9 cz9
    exact ⟨Gz9, hGz9, (M.weaken (List.Sublist.refl _)), DropR.mk (by simp [dropF, ‹(atF xs key).2 = true›]) hnz9 Sz9⟩

theorem mixed_spec {w0 w : World} {G : Ghost} {L : List Res} (M : Mem w0 G L w) {x : Int} : Calls Try.prog 31 #[.int .u64 x] w (RetS w0 G L fun v => v = .int .u64 (mix x)) := by
  have h : Calls Try.prog 31 #[.int .u64 x] w fun e w' => e = .returned (.int .u64 (mix x)) ∧ w = w' := by
    go_enter Try.func31, Try.ntmps31
    go_wp2
    go_ret
    exact ⟨rfl, rfl⟩
  exact h.mono fun e w' ⟨he, hw⟩ => by subst he; subst hw; exact ⟨M, rfl⟩

theorem look_spec {w0 w : World} {G : Ghost} {L : List Res} {n : Nat} {b : Nat} {ad : Option Addr} {c : Nat} {many tombs : Int} {cs : List Value} {s : List SlotD} {key : Int} (M : Mem w0 G (.blk b [.slice ad n c, .int .i64 many, .int .i64 tombs] 55 :: .row (.slice ad n c) n cs 58 3 :: L) w) (hn : n = s.length) (E : Els rdSlot 3 G cs s) (h0 : 0 < s.length) (hlen : s.length ≤ 1000000) (hp : PI s) (hf : HasFree s) :
    Calls Try.prog 26 #[.pointer (some ⟨b, 0, none⟩), .int .u64 key] w (RetS w0 G (.blk b [.slice ad n c, .int .i64 many, .int .i64 tombs] 55 :: .row (.slice ad n c) n cs 58 3 :: L) fun v => ∃ (p : Nat) (f : Bool), v = .tuple #[.int .i64 (p : Int), .bool f] ∧ LookR s key p f) := by
  subst hn
  refine calls_start (vs := [_, _]) Try.func26 rfl (n := 67) rfl rfl ?_
  intro a F
  refine wp_seq ?_
  refine w_reg ?_
  refine rl_run F (run_assign (F.ev rfl)) rfl ?_; clear F a; intro a F
  refine rl_run F (run_assign (F.ev rfl)) rfl ?_; clear F a; intro a F
  refine rl_nil ?_
  refine q_tn ?_
  refine w_scopeL 0 (fun m a' w' => ∃ (d : Nat), ∃ (gr : Int), m = s.length - d ∧ Fits 67 a' [(0, .pointer (some ⟨b, 0, none⟩)), (1, .int .u64 (key)), (4, .int .i64 ((((home s.length key + d) % s.length : Nat) : Int))), (6, .int .i64 (gr))] ∧ Mem w0 G (.blk b [.slice (ad) (s.length) (c), .int .i64 (many), .int .i64 (tombs)] 55 :: .row (.slice (ad) (s.length) (c)) (s.length) (cs) 58 3 :: L) w' ∧ (Vis s key d gr)) rfl ?_ ?_
  · clear F M
    rintro m a w ⟨d, gr, rfl, F, M, hv⟩
    refine wp_seq ?_
    refine wp_seq ?_
    have hat : (home s.length key + d) % s.length < s.length := Nat.mod_lt _ h0
    refine w_reg ?_
    refine rl_run F (run_move (F.ev rfl)) rfl ?_; clear F a; intro a F
    refine rl_run F (run_nilCheck (F.ev rfl)) rfl ?_; clear F a; intro a F
    refine rl_run F (run_fieldAddr tok55.k rfl rfl (F.ev rfl)) rfl ?_; clear F a; intro a F
    refine rl_run F (run_load1 (agf tok53 rfl) (F.ev rfl) (M.cellL (k := 0) rfl rfl)) rfl ?_; clear F a; intro a F
    refine rl_run F (run_move (F.ev rfl)) rfl ?_; clear F a; intro a F
    obtain ⟨Xe1, hXe1⟩ := get_of_lt (xs := s) (i := (home s.length key + d) % s.length) (by omega)
    obtain ⟨be1, _, Ie1, hme1, _, Ae1, ⟨rfl, hste1, hbe11, hbe12⟩⟩ := M.atRow (k := 1) rfl (by decide) E hXe1
    refine rl_run F (run_indexI tok53.k tok58 (F.ev rfl) (F.ev rfl) (by omega) Ie1) rfl ?_; clear F a; intro a F
    refine rl_run F (run_loadA tok58 rfl (F.ev rfl) (cs := [.int .u8 (Xe1.st), .int .u64 (Xe1.key), .int .i64 (Xe1.v)]) rfl (cellsE Ae1 0 (by omega) rfl)) rfl ?_; clear F a; intro a F
    refine rl_alloc F M tok58 rfl rfl ?_; clear F M a; intro b2 w a M F
    refine rl_storeA F M tok58 (k := 0) rfl rfl rfl (us := [.int .u8 (Xe1.st), .int .u64 (Xe1.key), .int .i64 (Xe1.v)]) rfl rfl (by simp [Value.oneCell']) (by simp) ?_; clear F M a; intro w a M F
    refine rl_nil ?_
    refine q_tn ?_
    refine wp_block ?_
    refine wp_seq ?_
    refine w_reg ?_
    refine rl_run F (run_fieldAddr tok58.k rfl rfl (F.ev rfl)) rfl ?_; clear F a; intro a F
    refine rl_run F (run_load1 (agf tok5 rfl) (F.ev rfl) (M.cellL (k := 0) rfl rfl)) rfl ?_; clear F a; intro a F
    refine rl_run F (run_eqi (F.ev rfl) (F.ev rfl)) rfl ?_; clear F a; intro a F
    refine rl_run F (run_move (F.ev rfl)) rfl ?_; clear F a; intro a F
    rcases Bool.eq_false_or_eq_true (decide (Xe1.st = 1)) with hc | hc
    · skip
      have h4b := hc; clear hc
      have h4 : Xe1.st = 1 := of_decide_eq_true h4b
      refine rl_guard_t F rfl rfl rfl h4b ?_
      refine rl_run F (run_fieldAddr tok58.k rfl rfl (F.ev rfl)) rfl ?_; clear F a; intro a F
      refine rl_guard_t F rfl rfl rfl h4b ?_
      refine rl_run F (run_load1 (agf tok27 rfl) (F.ev rfl) (M.cellL (k := 0) rfl rfl)) rfl ?_; clear F a; intro a F
      refine rl_guard_t F rfl rfl rfl h4b ?_
      refine rl_run F (run_move (F.ev rfl)) rfl ?_; clear F a; intro a F
      refine rl_guard_t F rfl rfl rfl h4b ?_
      refine rl_run F (run_eqi (F.ev rfl) (F.ev rfl)) rfl ?_; clear F a; intro a F
      refine rl_run F (run_pick_t (F.ev rfl) h4b (F.ev rfl)) rfl ?_; clear F a; intro a F
      refine rl_run F (run_assign (F.ev rfl)) rfl ?_; clear F a; intro a F
      refine rl_nil ?_
      refine q_tn ?_
      refine w_cond F rfl ?_ ?_
      · intro hc
        have h5b := hc; clear hc
        have h5 : Xe1.key = key := of_decide_eq_true h5b
        refine wp_seq ?_
        refine w_reg ?_
        refine rl_run F (run_move (F.ev rfl)) rfl ?_; clear F a; intro a F
        refine rl_run F (run_assign (F.ev rfl)) rfl ?_; clear F a; intro a F
        refine rl_run F (run_assign (F.ev rfl)) rfl ?_; clear F a; intro a F
        refine rl_nil ?_
        refine q_tn ?_
        refine wp_ret ?_
        refine q_br ?_
        refine q_tr ?_
        refine q_jr ?_
        refine fin2 F rfl rfl rfl ?_
        exact ⟨(M.weaken (.cons _ (.cons_cons _ (.cons_cons _ (List.Sublist.refl _))))), _, true, rfl, look_hit hXe1 (by omega) (by omega)⟩
      · intro hc
        have h6b := hc; clear hc
        have h6 : ¬ (Xe1.key = key) := of_decide_eq_false h6b
        refine wp_seq ?_
        refine w_reg ?_
        refine rl_run F (run_fieldAddr tok58.k rfl rfl (F.ev rfl)) rfl ?_; clear F a; intro a F
        refine rl_run F (run_load1 (agf tok5 rfl) (F.ev rfl) (M.cellL (k := 0) rfl rfl)) rfl ?_; clear F a; intro a F
        refine rl_run F (run_eqi (F.ev rfl) (F.ev rfl)) rfl ?_; clear F a; intro a F
        refine rl_run F (run_move (F.ev rfl)) rfl ?_; clear F a; intro a F
        refine rl_guard_f F rfl rfl rfl (decide_eq_false (by omega)) ?_; clear F a; intro a F
        refine rl_guard_f F rfl rfl rfl (decide_eq_false (by omega)) ?_; clear F a; intro a F
        refine rl_run F (run_pick_f (F.ev rfl) (decide_eq_false (by omega)) (F.ev rfl)) rfl ?_; clear F a; intro a F
        refine rl_run F (run_assign (F.ev rfl)) rfl ?_; clear F a; intro a F
        refine rl_nil ?_
        refine q_tn ?_
        refine w_cond_f F rfl rfl ?_
        refine wp_seq ?_
        refine w_reg ?_
        refine rl_run F (run_fieldAddr tok58.k rfl rfl (F.ev rfl)) rfl ?_; clear F a; intro a F
        refine rl_run F (run_load1 (agf tok5 rfl) (F.ev rfl) (M.cellL (k := 0) rfl rfl)) rfl ?_; clear F a; intro a F
        refine rl_run F (run_eqi (F.ev rfl) (F.ev rfl)) rfl ?_; clear F a; intro a F
        refine rl_run F (run_assign (F.ev rfl)) rfl ?_; clear F a; intro a F
        refine rl_nil ?_
        refine q_tn ?_
        refine w_cond_f F rfl (decide_eq_false (by omega)) ?_
        refine wp_seq ?_
        refine w_reg ?_
        refine rl_run F (run_fieldAddr tok58.k rfl rfl (F.ev rfl)) rfl ?_; clear F a; intro a F
        refine rl_run F (run_load1 (agf tok5 rfl) (F.ev rfl) (M.cellL (k := 0) rfl rfl)) rfl ?_; clear F a; intro a F
        refine rl_run F (run_eqi (F.ev rfl) (F.ev rfl)) rfl ?_; clear F a; intro a F
        refine rl_run F (run_move (F.ev rfl)) rfl ?_; clear F a; intro a F
        refine rl_guard_f F rfl rfl rfl (decide_eq_false (by omega)) ?_; clear F a; intro a F
        refine rl_guard_f F rfl rfl rfl (decide_eq_false (by omega)) ?_; clear F a; intro a F
        refine rl_run F (run_pick_f (F.ev rfl) (decide_eq_false (by omega)) (F.ev rfl)) rfl ?_; clear F a; intro a F
        refine rl_run F (run_assign (F.ev rfl)) rfl ?_; clear F a; intro a F
        refine rl_nil ?_
        refine q_tn ?_
        refine w_cond_f F rfl rfl ?_
        refine wp_skip ?_
        refine q_bn ?_
        refine q_tn ?_
        refine wp_seq ?_
        have hnx : (home s.length key + (d + 1)) % s.length < s.length := Nat.mod_lt _ h0
        refine w_reg ?_
        refine rl_run F (run_move (F.ev rfl)) rfl ?_; clear F a; intro a F
        refine rl_run F (run_addi (F.ev rfl) (F.ev rfl) (in_i64 (by omega) (by omega))) rfl ?_; clear F a; intro a F
        refine rl_run F (run_move (F.ev rfl)) rfl ?_; clear F a; intro a F
        refine rl_run F (run_nilCheck (F.ev rfl)) rfl ?_; clear F a; intro a F
        refine rl_run F (run_fieldAddr tok55.k rfl rfl (F.ev rfl)) rfl ?_; clear F a; intro a F
        refine rl_run F (run_load1 (agf tok53 rfl) (F.ev rfl) (M.cellL (k := 1) rfl rfl)) rfl ?_; clear F a; intro a F
        refine rl_run F (run_lenSl tok53.k (F.ev rfl)) rfl ?_; clear F a; intro a F
        refine rl_run F (run_remi (F.ev rfl) (F.ev rfl) (by omega) (by omega)) rfl ?_; clear F a; intro a F
        refine rl_run F (run_assign (F.ev rfl)) rfl ?_; clear F a; intro a F
        refine rl_nil ?_
        refine q_tn ?_
        refine wp_goto ?_
        refine q_jg ?_
        rw [at_next] at F
        have hv' := vis_next (gr' := gr) hv hXe1 (by omega) (by omega) (Or.inl rfl)
        exact ⟨_, (by have := vis_lt hv; omega), d + 1, gr, rfl, F.to ⟨rfl, rfl, rfl, rfl, trivial⟩, (M.weaken (.cons _ (.cons_cons _ (.cons_cons _ (List.Sublist.refl _))))), hv'⟩
    · skip
      have h7b := hc; clear hc
      have h7 : ¬ (Xe1.st = 1) := of_decide_eq_false h7b
      refine rl_guard_f F rfl rfl rfl h7b ?_; clear F a; intro a F
      refine rl_guard_f F rfl rfl rfl h7b ?_; clear F a; intro a F
      refine rl_guard_f F rfl rfl rfl h7b ?_; clear F a; intro a F
      refine rl_guard_f F rfl rfl rfl h7b ?_; clear F a; intro a F
      refine rl_run F (run_pick_f (F.ev rfl) h7b (F.ev rfl)) rfl ?_; clear F a; intro a F
      refine rl_run F (run_assign (F.ev rfl)) rfl ?_; clear F a; intro a F
      refine rl_nil ?_
      refine q_tn ?_
      refine w_cond_f F rfl rfl ?_
      refine wp_seq ?_
      refine w_reg ?_
      refine rl_run F (run_fieldAddr tok58.k rfl rfl (F.ev rfl)) rfl ?_; clear F a; intro a F
      refine rl_run F (run_load1 (agf tok5 rfl) (F.ev rfl) (M.cellL (k := 0) rfl rfl)) rfl ?_; clear F a; intro a F
      refine rl_run F (run_eqi (F.ev rfl) (F.ev rfl)) rfl ?_; clear F a; intro a F
      refine rl_run F (run_move (F.ev rfl)) rfl ?_; clear F a; intro a F
      rcases Bool.eq_false_or_eq_true (decide (Xe1.st = 0)) with hc | hc
      · skip
        have h8b := hc; clear hc
        have h8 : Xe1.st = 0 := of_decide_eq_true h8b
        refine rl_guard_t F rfl rfl rfl h8b ?_
        refine rl_run F (run_move (F.ev rfl)) rfl ?_; clear F a; intro a F
        refine rl_guard_t F rfl rfl rfl h8b ?_
        refine rl_run F (run_geq (F.ev rfl) (F.ev rfl)) rfl ?_; clear F a; intro a F
        refine rl_run F (run_pick_t (F.ev rfl) h8b (F.ev rfl)) rfl ?_; clear F a; intro a F
        refine rl_run F (run_assign (F.ev rfl)) rfl ?_; clear F a; intro a F
        refine rl_nil ?_
        refine q_tn ?_
        refine w_cond F rfl ?_ ?_
        · intro hc
          have h9b := hc; clear hc
          have h9 : 0 ≤ gr := of_decide_eq_true h9b
          refine wp_seq ?_
          refine w_reg ?_
          refine rl_run F (run_move (F.ev rfl)) rfl ?_; clear F a; intro a F
          refine rl_run F (run_assign (F.ev rfl)) rfl ?_; clear F a; intro a F
          refine rl_run F (run_assign (F.ev rfl)) rfl ?_; clear F a; intro a F
          refine rl_nil ?_
          refine q_tn ?_
          refine wp_ret ?_
          refine q_br ?_
          refine q_tr ?_
          refine q_jr ?_
          refine fin2 F rfl rfl rfl ?_
          obtain ⟨p, hp1, hp2⟩ := look_grave hp hv hXe1 (by omega) (by omega)
          exact ⟨(M.weaken (.cons _ (.cons_cons _ (.cons_cons _ (List.Sublist.refl _))))), p, false, by rw [hp1], hp2⟩
        · intro hc
          have h10b := hc; clear hc
          have h10 : ¬ (0 ≤ gr) := of_decide_eq_false h10b
          refine wp_seq ?_
          refine w_reg ?_
          refine rl_run F (run_fieldAddr tok58.k rfl rfl (F.ev rfl)) rfl ?_; clear F a; intro a F
          refine rl_run F (run_load1 (agf tok5 rfl) (F.ev rfl) (M.cellL (k := 0) rfl rfl)) rfl ?_; clear F a; intro a F
          refine rl_run F (run_eqi (F.ev rfl) (F.ev rfl)) rfl ?_; clear F a; intro a F
          refine rl_run F (run_assign (F.ev rfl)) rfl ?_; clear F a; intro a F
          refine rl_nil ?_
          refine q_tn ?_
          refine w_cond_t F rfl (decide_eq_true h8) ?_
          refine wp_seq ?_
          refine w_reg ?_
          refine rl_run F (run_move (F.ev rfl)) rfl ?_; clear F a; intro a F
          refine rl_run F (run_assign (F.ev rfl)) rfl ?_; clear F a; intro a F
          refine rl_run F (run_assign (F.ev rfl)) rfl ?_; clear F a; intro a F
          refine rl_nil ?_
          refine q_tn ?_
          refine wp_ret ?_
          refine q_br ?_
          refine q_tr ?_
          refine q_jr ?_
          refine fin2 F rfl rfl rfl ?_
          exact ⟨(M.weaken (.cons _ (.cons_cons _ (.cons_cons _ (List.Sublist.refl _))))), _, false, rfl, look_free hp hv hXe1 (by omega)⟩
      · skip
        have h11b := hc; clear hc
        have h11 : ¬ (Xe1.st = 0) := of_decide_eq_false h11b
        refine rl_guard_f F rfl rfl rfl h11b ?_; clear F a; intro a F
        refine rl_guard_f F rfl rfl rfl h11b ?_; clear F a; intro a F
        refine rl_run F (run_pick_f (F.ev rfl) h11b (F.ev rfl)) rfl ?_; clear F a; intro a F
        refine rl_run F (run_assign (F.ev rfl)) rfl ?_; clear F a; intro a F
        refine rl_nil ?_
        refine q_tn ?_
        refine w_cond_f F rfl rfl ?_
        refine wp_seq ?_
        refine w_reg ?_
        refine rl_run F (run_fieldAddr tok58.k rfl rfl (F.ev rfl)) rfl ?_; clear F a; intro a F
        refine rl_run F (run_load1 (agf tok5 rfl) (F.ev rfl) (M.cellL (k := 0) rfl rfl)) rfl ?_; clear F a; intro a F
        refine rl_run F (run_eqi (F.ev rfl) (F.ev rfl)) rfl ?_; clear F a; intro a F
        refine rl_run F (run_assign (F.ev rfl)) rfl ?_; clear F a; intro a F
        refine rl_nil ?_
        refine q_tn ?_
        refine w_cond_f F rfl (decide_eq_false h11) ?_
        refine wp_seq ?_
        refine w_reg ?_
        refine rl_run F (run_fieldAddr tok58.k rfl rfl (F.ev rfl)) rfl ?_; clear F a; intro a F
        refine rl_run F (run_load1 (agf tok5 rfl) (F.ev rfl) (M.cellL (k := 0) rfl rfl)) rfl ?_; clear F a; intro a F
        refine rl_run F (run_eqi (F.ev rfl) (F.ev rfl)) rfl ?_; clear F a; intro a F
        refine rl_run F (run_move (F.ev rfl)) rfl ?_; clear F a; intro a F
        rcases Bool.eq_false_or_eq_true (decide (Xe1.st = 2)) with hc | hc
        · skip
          have h12b := hc; clear hc
          have h12 : Xe1.st = 2 := of_decide_eq_true h12b
          refine rl_guard_t F rfl rfl rfl h12b ?_
          refine rl_run F (run_move (F.ev rfl)) rfl ?_; clear F a; intro a F
          refine rl_guard_t F rfl rfl rfl h12b ?_
          refine rl_run F (run_lss (F.ev rfl) (F.ev rfl)) rfl ?_; clear F a; intro a F
          refine rl_run F (run_pick_t (F.ev rfl) h12b (F.ev rfl)) rfl ?_; clear F a; intro a F
          refine rl_run F (run_assign (F.ev rfl)) rfl ?_; clear F a; intro a F
          refine rl_nil ?_
          refine q_tn ?_
          refine w_cond F rfl ?_ ?_
          · intro hc
            have h13b := hc; clear hc
            have h13 : gr < 0 := of_decide_eq_true h13b
            refine w_reg ?_
            refine rl_run F (run_move (F.ev rfl)) rfl ?_; clear F a; intro a F
            refine rl_run F (run_assign (F.ev rfl)) rfl ?_; clear F a; intro a F
            refine rl_nil ?_
            refine q_bn ?_
            refine q_tn ?_
            refine wp_seq ?_
            have hnx : (home s.length key + (d + 1)) % s.length < s.length := Nat.mod_lt _ h0
            refine w_reg ?_
            refine rl_run F (run_move (F.ev rfl)) rfl ?_; clear F a; intro a F
            refine rl_run F (run_addi (F.ev rfl) (F.ev rfl) (in_i64 (by omega) (by omega))) rfl ?_; clear F a; intro a F
            refine rl_run F (run_move (F.ev rfl)) rfl ?_; clear F a; intro a F
            refine rl_run F (run_nilCheck (F.ev rfl)) rfl ?_; clear F a; intro a F
            refine rl_run F (run_fieldAddr tok55.k rfl rfl (F.ev rfl)) rfl ?_; clear F a; intro a F
            refine rl_run F (run_load1 (agf tok53 rfl) (F.ev rfl) (M.cellL (k := 1) rfl rfl)) rfl ?_; clear F a; intro a F
            refine rl_run F (run_lenSl tok53.k (F.ev rfl)) rfl ?_; clear F a; intro a F
            refine rl_run F (run_remi (F.ev rfl) (F.ev rfl) (by omega) (by omega)) rfl ?_; clear F a; intro a F
            refine rl_run F (run_assign (F.ev rfl)) rfl ?_; clear F a; intro a F
            refine rl_nil ?_
            refine q_tn ?_
            refine wp_goto ?_
            refine q_jg ?_
            rw [at_next] at F
            have hv' := vis_next (gr' := (((home s.length key + d) % s.length : Nat) : Int)) hv hXe1 (by omega) (by omega) (Or.inr ⟨by omega, rfl⟩)
            exact ⟨_, (by have := vis_lt hv; omega), d + 1, (((home s.length key + d) % s.length : Nat) : Int), rfl, F.to ⟨rfl, rfl, rfl, rfl, trivial⟩, (M.weaken (.cons _ (.cons_cons _ (.cons_cons _ (List.Sublist.refl _))))), hv'⟩
          · intro hc
            have h14b := hc; clear hc
            have h14 : ¬ (gr < 0) := of_decide_eq_false h14b
            refine wp_skip ?_
            refine q_bn ?_
            refine q_tn ?_
            refine wp_seq ?_
            have hnx : (home s.length key + (d + 1)) % s.length < s.length := Nat.mod_lt _ h0
            refine w_reg ?_
            refine rl_run F (run_move (F.ev rfl)) rfl ?_; clear F a; intro a F
            refine rl_run F (run_addi (F.ev rfl) (F.ev rfl) (in_i64 (by omega) (by omega))) rfl ?_; clear F a; intro a F
            refine rl_run F (run_move (F.ev rfl)) rfl ?_; clear F a; intro a F
            refine rl_run F (run_nilCheck (F.ev rfl)) rfl ?_; clear F a; intro a F
            refine rl_run F (run_fieldAddr tok55.k rfl rfl (F.ev rfl)) rfl ?_; clear F a; intro a F
            refine rl_run F (run_load1 (agf tok53 rfl) (F.ev rfl) (M.cellL (k := 1) rfl rfl)) rfl ?_; clear F a; intro a F
            refine rl_run F (run_lenSl tok53.k (F.ev rfl)) rfl ?_; clear F a; intro a F
            refine rl_run F (run_remi (F.ev rfl) (F.ev rfl) (by omega) (by omega)) rfl ?_; clear F a; intro a F
            refine rl_run F (run_assign (F.ev rfl)) rfl ?_; clear F a; intro a F
            refine rl_nil ?_
            refine q_tn ?_
            refine wp_goto ?_
            refine q_jg ?_
            rw [at_next] at F
            have hv' := vis_next (gr' := gr) hv hXe1 (by omega) (by omega) (Or.inl rfl)
            exact ⟨_, (by have := vis_lt hv; omega), d + 1, gr, rfl, F.to ⟨rfl, rfl, rfl, rfl, trivial⟩, (M.weaken (.cons _ (.cons_cons _ (.cons_cons _ (List.Sublist.refl _))))), hv'⟩
        · skip
          have h15b := hc; clear hc
          have h15 : ¬ (Xe1.st = 2) := of_decide_eq_false h15b
          refine rl_guard_f F rfl rfl rfl h15b ?_; clear F a; intro a F
          refine rl_guard_f F rfl rfl rfl h15b ?_; clear F a; intro a F
          refine rl_run F (run_pick_f (F.ev rfl) h15b (F.ev rfl)) rfl ?_; clear F a; intro a F
          refine rl_run F (run_assign (F.ev rfl)) rfl ?_; clear F a; intro a F
          refine rl_nil ?_
          refine q_tn ?_
          refine w_cond_f F rfl rfl ?_
          refine wp_skip ?_
          refine q_bn ?_
          refine q_tn ?_
          refine wp_seq ?_
          have hnx : (home s.length key + (d + 1)) % s.length < s.length := Nat.mod_lt _ h0
          refine w_reg ?_
          refine rl_run F (run_move (F.ev rfl)) rfl ?_; clear F a; intro a F
          refine rl_run F (run_addi (F.ev rfl) (F.ev rfl) (in_i64 (by omega) (by omega))) rfl ?_; clear F a; intro a F
          refine rl_run F (run_move (F.ev rfl)) rfl ?_; clear F a; intro a F
          refine rl_run F (run_nilCheck (F.ev rfl)) rfl ?_; clear F a; intro a F
          refine rl_run F (run_fieldAddr tok55.k rfl rfl (F.ev rfl)) rfl ?_; clear F a; intro a F
          refine rl_run F (run_load1 (agf tok53 rfl) (F.ev rfl) (M.cellL (k := 1) rfl rfl)) rfl ?_; clear F a; intro a F
          refine rl_run F (run_lenSl tok53.k (F.ev rfl)) rfl ?_; clear F a; intro a F
          refine rl_run F (run_remi (F.ev rfl) (F.ev rfl) (by omega) (by omega)) rfl ?_; clear F a; intro a F
          refine rl_run F (run_assign (F.ev rfl)) rfl ?_; clear F a; intro a F
          refine rl_nil ?_
          refine q_tn ?_
          refine wp_goto ?_
          refine q_jg ?_
          rw [at_next] at F
          have hv' := vis_next (gr' := gr) hv hXe1 (by omega) (by omega) (Or.inl rfl)
          exact ⟨_, (by have := vis_lt hv; omega), d + 1, gr, rfl, F.to ⟨rfl, rfl, rfl, rfl, trivial⟩, (M.weaken (.cons _ (.cons_cons _ (.cons_cons _ (List.Sublist.refl _))))), hv'⟩
  · intro hpass
    refine wp_seq ?_
    refine w_reg ?_
    refine rl_run F (run_assign (F.ev rfl)) rfl ?_; clear F a; intro a F
    refine rl_nil ?_
    refine q_tn ?_
    refine wp_seq ?_
    have hm0 := mix_lo key
    have hm1 : 0 ≤ mix key % ((s.length : Nat) : Int) := Int.emod_nonneg _ (by omega)
    have hm2 : mix key % ((s.length : Nat) : Int) < ((s.length : Nat) : Int) := Int.emod_lt_of_pos _ (by omega)
    refine w_plan [(true, 0), (true, 2), (true, 3), (true, 4), (true, 5), (true, 6), (true, 7), (false, 1), (true, 8), (true, 9), (true, 10)] (Keep G [.blk b [.slice (ad) (s.length) (c), .int .i64 (many), .int .i64 (tombs)] 55]) rfl (by kernel_rfl) (fun c a d v w h => by cases d <;> exact h) ((M.drew _).keep (Gle.refl _) (by simp)) ?_
    replace M := M.drew (w.drawn + 1)
    refine pl_run F (fun w M => run_move (F.ev rfl)) rfl ?_; clear F a; intro a F
    refine pl_run F (fun w M => run_move (F.ev rfl)) rfl ?_; clear F a; intro a F
    refine pl_run F (fun w M => run_nilCheck (F.ev rfl)) rfl ?_; clear F a; intro a F
    refine pl_run F (fun w M => run_fieldAddr tok55.k rfl rfl (F.ev rfl)) rfl ?_; clear F a; intro a F
    refine pl_run F (fun w M => run_load1 (agf tok53 rfl) (F.ev rfl) (M.cellL (k := 0) rfl rfl)) rfl ?_; clear F a; intro a F
    refine pl_run F (fun w M => run_lenSl tok53.k (F.ev rfl)) rfl ?_; clear F a; intro a F
    refine pl_run F (fun w M => run_conv_int tok27.k ⟨_, by rw [under_int tok3.k]⟩ (F.ev rfl) (in_u64 (by omega) (by omega))) rfl ?_; clear F a; intro a F
    refine pl_act ?_ rfl
    refine rl_callS F ent31 rfl rfl (mixed_spec M) ?_; clear F M a; rintro _ w a M rfl F
    refine rl_nil ?_
    refine ⟨Keep G [.blk b [.slice (ad) (s.length) (c), .int .i64 (many), .int .i64 (tombs)] 55], M.keep (Gle.refl _) (by simp), fun w h => h.mono (Gle.refl _) (by simp), ?_⟩
    refine pl_run F (fun w M => run_remi (F.ev rfl) (F.ev rfl) (by omega) (by omega)) rfl ?_; clear F a; intro a F
    refine pl_run F (fun w M => run_conv_int tok3.k ⟨_, by rw [under_int tok27.k]⟩ (F.ev rfl) (in_i64 (by omega) (by omega))) rfl ?_; clear F a; intro a F
    refine pl_run F (fun w M => run_assign (F.ev rfl)) rfl ?_; clear F a; intro a F
    refine pl_nil ?_
    refine q_tn ?_
    refine wp_seq ?_
    refine wp_label ?_
    refine q_tn ?_
    rw [at_start] at F
    exact hpass _ _ _ ⟨0, -1, rfl, F.to ⟨rfl, rfl, rfl, rfl, trivial⟩, M, vis_start hf key⟩

/-- The map behind this pointer holds these pairs. -/
def KmIs (b : Nat) (G : Ghost) (ps : List PairD) (most : Nat) (L L' : List Res) : Prop :=
  ∃ ad n c many tombs cs s, L' = (.blk b [.slice ad n c, .int .i64 many, .int .i64 tombs] 55 :: .row (.slice ad n c) n cs 58 3 :: L) ∧ n = s.length ∧ Els rdSlot 3 G cs s ∧ KOK s many tombs ps most

theorem len_spec {w0 w : World} {G : Ghost} {L : List Res} (M : Mem w0 G L w) {b k n : Nat} {ad : Option Addr} {c : Nat} {many tombs : Int} (hk : L[k]? = some (.blk b [.slice ad n c, .int .i64 many, .int .i64 tombs] 55)) :
    Calls Try.prog 20 #[.pointer (some ⟨b, 0, none⟩)] w (RetS w0 G L fun v => v = .int .i64 many) := by
  refine calls_start (vs := [_]) Try.func20 rfl (n := 9) rfl rfl ?_
  intro a F
  refine wp_seq ?_
  refine w_reg ?_
  refine rl_run F (run_assign (F.ev rfl)) rfl ?_; clear F a; intro a F
  refine rl_nil ?_
  refine q_tn ?_
  refine wp_seq ?_
  refine wp_seq ?_
  refine w_reg ?_
  refine rl_run F (run_move (F.ev rfl)) rfl ?_; clear F a; intro a F
  refine rl_run F (run_eqnil tok24.k (F.ev rfl) (F.ev rfl)) rfl ?_; clear F a; intro a F
  refine rl_nil ?_
  refine q_tn ?_
  refine w_cond_f F rfl rfl ?_
  refine wp_skip ?_
  refine q_tn ?_
  refine wp_seq ?_
  refine w_reg ?_
  refine rl_run F (run_move (F.ev rfl)) rfl ?_; clear F a; intro a F
  refine rl_run F (run_nilCheck (F.ev rfl)) rfl ?_; clear F a; intro a F
  refine rl_run F (run_fieldAddr tok55.k rfl rfl (F.ev rfl)) rfl ?_; clear F a; intro a F
  refine rl_run F (run_load1 (agf tok3 rfl) (F.ev rfl) (M.cellL (k := k) hk rfl)) rfl ?_; clear F a; intro a F
  refine rl_run F (run_assign (F.ev rfl)) rfl ?_; clear F a; intro a F
  refine rl_nil ?_
  refine q_tn ?_
  refine wp_ret ?_
  refine fin1 F rfl rfl ?_
  exact ⟨M, rfl⟩

theorem len_nil {w0 w : World} {G : Ghost} {L : List Res} (M : Mem w0 G L w) : Calls Try.prog 20 #[.pointer none] w (RetS w0 G L fun v => v = .int .i64 0) := by
  refine calls_start (vs := [_]) Try.func20 rfl (n := 9) rfl rfl ?_
  intro a F
  refine wp_seq ?_
  refine w_reg ?_
  refine rl_run F (run_assign (F.ev rfl)) rfl ?_; clear F a; intro a F
  refine rl_nil ?_
  refine q_tn ?_
  refine wp_seq ?_
  refine wp_seq ?_
  refine w_reg ?_
  refine rl_run F (run_move (F.ev rfl)) rfl ?_; clear F a; intro a F
  refine rl_run F (run_eqnil tok24.k (F.ev rfl) (F.ev rfl)) rfl ?_; clear F a; intro a F
  refine rl_nil ?_
  refine q_tn ?_
  refine w_cond_t F rfl rfl ?_
  refine wp_seq ?_
  refine w_reg ?_
  refine rl_run F (run_assign (F.ev rfl)) rfl ?_; clear F a; intro a F
  refine rl_nil ?_
  refine q_tn ?_
  refine wp_ret ?_
  refine q_tr ?_
  refine fin1 F rfl rfl ?_
  exact ⟨M, rfl⟩

theorem slots_spec {w0 w : World} {G : Ghost} {L : List Res} (M : Mem w0 G L w) {b k n : Nat} {ad : Option Addr} {c : Nat} {many tombs : Int} (hk : L[k]? = some (.blk b [.slice ad n c, .int .i64 many, .int .i64 tombs] 55)) :
    Calls Try.prog 21 #[.pointer (some ⟨b, 0, none⟩)] w (RetS w0 G L fun v => v = .int .i64 (n : Int)) := by
  refine calls_start (vs := [_]) Try.func21 rfl (n := 10) rfl rfl ?_
  intro a F
  refine wp_seq ?_
  refine w_reg ?_
  refine rl_run F (run_assign (F.ev rfl)) rfl ?_; clear F a; intro a F
  refine rl_nil ?_
  refine q_tn ?_
  refine wp_seq ?_
  refine wp_seq ?_
  refine w_reg ?_
  refine rl_run F (run_move (F.ev rfl)) rfl ?_; clear F a; intro a F
  refine rl_run F (run_eqnil tok24.k (F.ev rfl) (F.ev rfl)) rfl ?_; clear F a; intro a F
  refine rl_nil ?_
  refine q_tn ?_
  refine w_cond_f F rfl rfl ?_
  refine wp_skip ?_
  refine q_tn ?_
  refine wp_seq ?_
  refine w_reg ?_
  refine rl_run F (run_move (F.ev rfl)) rfl ?_; clear F a; intro a F
  refine rl_run F (run_nilCheck (F.ev rfl)) rfl ?_; clear F a; intro a F
  refine rl_run F (run_fieldAddr tok55.k rfl rfl (F.ev rfl)) rfl ?_; clear F a; intro a F
  refine rl_run F (run_load1 (agf tok53 rfl) (F.ev rfl) (M.cellL (k := k) hk rfl)) rfl ?_; clear F a; intro a F
  refine rl_run F (run_lenSl tok53.k (F.ev rfl)) rfl ?_; clear F a; intro a F
  refine rl_run F (run_assign (F.ev rfl)) rfl ?_; clear F a; intro a F
  refine rl_nil ?_
  refine q_tn ?_
  refine wp_ret ?_
  refine fin1 F rfl rfl ?_
  exact ⟨M, rfl⟩

theorem slots_nil {w0 w : World} {G : Ghost} {L : List Res} (M : Mem w0 G L w) : Calls Try.prog 21 #[.pointer none] w (RetS w0 G L fun v => v = .int .i64 0) := by
  refine calls_start (vs := [_]) Try.func21 rfl (n := 10) rfl rfl ?_
  intro a F
  refine wp_seq ?_
  refine w_reg ?_
  refine rl_run F (run_assign (F.ev rfl)) rfl ?_; clear F a; intro a F
  refine rl_nil ?_
  refine q_tn ?_
  refine wp_seq ?_
  refine wp_seq ?_
  refine w_reg ?_
  refine rl_run F (run_move (F.ev rfl)) rfl ?_; clear F a; intro a F
  refine rl_run F (run_eqnil tok24.k (F.ev rfl) (F.ev rfl)) rfl ?_; clear F a; intro a F
  refine rl_nil ?_
  refine q_tn ?_
  refine w_cond_t F rfl rfl ?_
  refine wp_seq ?_
  refine w_reg ?_
  refine rl_run F (run_assign (F.ev rfl)) rfl ?_; clear F a; intro a F
  refine rl_nil ?_
  refine q_tn ?_
  refine wp_ret ?_
  refine q_tr ?_
  refine fin1 F rfl rfl ?_
  exact ⟨M, rfl⟩

theorem tombs_spec {w0 w : World} {G : Ghost} {L : List Res} (M : Mem w0 G L w) {b k n : Nat} {ad : Option Addr} {c : Nat} {many tombs : Int} (hk : L[k]? = some (.blk b [.slice ad n c, .int .i64 many, .int .i64 tombs] 55)) :
    Calls Try.prog 25 #[.pointer (some ⟨b, 0, none⟩)] w (RetS w0 G L fun v => v = .int .i64 tombs) := by
  refine calls_start (vs := [_]) Try.func25 rfl (n := 9) rfl rfl ?_
  intro a F
  refine wp_seq ?_
  refine w_reg ?_
  refine rl_run F (run_assign (F.ev rfl)) rfl ?_; clear F a; intro a F
  refine rl_nil ?_
  refine q_tn ?_
  refine wp_seq ?_
  refine wp_seq ?_
  refine w_reg ?_
  refine rl_run F (run_move (F.ev rfl)) rfl ?_; clear F a; intro a F
  refine rl_run F (run_eqnil tok24.k (F.ev rfl) (F.ev rfl)) rfl ?_; clear F a; intro a F
  refine rl_nil ?_
  refine q_tn ?_
  refine w_cond_f F rfl rfl ?_
  refine wp_skip ?_
  refine q_tn ?_
  refine wp_seq ?_
  refine w_reg ?_
  refine rl_run F (run_move (F.ev rfl)) rfl ?_; clear F a; intro a F
  refine rl_run F (run_nilCheck (F.ev rfl)) rfl ?_; clear F a; intro a F
  refine rl_run F (run_fieldAddr tok55.k rfl rfl (F.ev rfl)) rfl ?_; clear F a; intro a F
  refine rl_run F (run_load1 (agf tok3 rfl) (F.ev rfl) (M.cellL (k := k) hk rfl)) rfl ?_; clear F a; intro a F
  refine rl_run F (run_assign (F.ev rfl)) rfl ?_; clear F a; intro a F
  refine rl_nil ?_
  refine q_tn ?_
  refine wp_ret ?_
  refine fin1 F rfl rfl ?_
  exact ⟨M, rfl⟩

theorem tombs_nil {w0 w : World} {G : Ghost} {L : List Res} (M : Mem w0 G L w) : Calls Try.prog 25 #[.pointer none] w (RetS w0 G L fun v => v = .int .i64 0) := by
  refine calls_start (vs := [_]) Try.func25 rfl (n := 9) rfl rfl ?_
  intro a F
  refine wp_seq ?_
  refine w_reg ?_
  refine rl_run F (run_assign (F.ev rfl)) rfl ?_; clear F a; intro a F
  refine rl_nil ?_
  refine q_tn ?_
  refine wp_seq ?_
  refine wp_seq ?_
  refine w_reg ?_
  refine rl_run F (run_move (F.ev rfl)) rfl ?_; clear F a; intro a F
  refine rl_run F (run_eqnil tok24.k (F.ev rfl) (F.ev rfl)) rfl ?_; clear F a; intro a F
  refine rl_nil ?_
  refine q_tn ?_
  refine w_cond_t F rfl rfl ?_
  refine wp_seq ?_
  refine w_reg ?_
  refine rl_run F (run_assign (F.ev rfl)) rfl ?_; clear F a; intro a F
  refine rl_nil ?_
  refine q_tn ?_
  refine wp_ret ?_
  refine q_tr ?_
  refine fin1 F rfl rfl ?_
  exact ⟨M, rfl⟩

theorem new_spec {w0 w : World} {G : Ghost} {L : List Res} (M : Mem w0 G L w) : Calls Try.prog 10 #[] w (RetL w0 G fun L' v => ∃ b, v = .pointer (some ⟨b, 0, none⟩) ∧ KmIs b G [] 0 L L') := by
  refine calls_start (vs := []) Try.func10 rfl (n := 3) rfl rfl ?_
  intro a F
  refine wp_seq ?_
  refine w_reg ?_
  refine rl_run F (run_assign (F.ev rfl)) rfl ?_; clear F a; intro a F
  refine rl_nil ?_
  refine q_tn ?_
  refine wp_seq ?_
  refine w_reg ?_
  refine rl_run F (run_buildS (cs := [.slice none (0) (0), .int .i64 (0), .int .i64 (0)]) (ps := []) tok55.k rfl tok55 (F.evp rfl) rfl) rfl ?_; clear F a; intro a F
  refine rl_box F M rfl (cs := [.slice none (0) (0), .int .i64 (0), .int .i64 (0)]) rfl rfl ?_; clear F M a; intro b1 w a M F
  refine rl_run F (run_assign (F.ev rfl)) rfl ?_; clear F a; intro a F
  refine rl_nil ?_
  refine q_tn ?_
  refine wp_ret ?_
  refine fin1 F rfl rfl ?_
  have M := M.nilrow 58 3
  exact ⟨_, M.perm (List.Perm.swap _ _ _), _, rfl, _, _, _, _, _, _, [], rfl, rfl, Els.nil, KOK.nil⟩

end Go.Proofs.Ytnloilnlehgngaa
