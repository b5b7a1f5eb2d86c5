/- The walks, part V. -/
import Derived.Test.YtokeofoemjeleaaDoorWalkU
import Derived.Test.YtokeofoemjeleaaDoorPrs
namespace Go.Proofs.YtokeofoemjeleaaDoor
open Go Go.Y Go.Proofs
set_option linter.unusedSimpArgs false
set_option linter.unusedVariables false
theorem dec_spec {w0 w : World} {G : Ghost} {L : List Res} (M : Mem w0 G L w) {u : Nat} (hu : u < 18446744073709551616) :
    Calls Tryd.prog 36 #[.int .u64 (u : Int)] w (RetS w0 G L fun v => v = .string (str (Lib.decDigits u))) := by
  refine calls_start (vs := [_]) Tryd.func36 rfl (n := 24) rfl rfl ?_
  intro a F
  refine wp_seq ?_
  refine w_reg ?_
  refine rl_run F (run_assign (F.ev rfl)) rfl ?_; clear F a; intro a F
  refine rl_nil ?_
  refine q_tn ?_
  refine wp_seq ?_
  refine w_reg ?_
  refine rl_run F (run_move (F.ev rfl)) rfl ?_; clear F a; intro a F
  refine rl_run F (run_remi (F.ev rfl) (F.ev rfl) (by omega) (by omega)) rfl ?_; clear F a; intro a F
  refine rl_run F (run_addi (F.ev rfl) (F.ev rfl) (in_u64 (by omega) (by omega))) rfl ?_; clear F a; intro a F
  refine rl_run F (run_conv_int tok5.k ⟨_, by rw [under_int tok37.k]⟩ (F.ev rfl) (in_u8 (by omega) (by omega))) rfl ?_; clear F a; intro a F
  refine rl_buildSlice1 F M tok46.k tok5 rfl rfl (cs := [.int .u8 (48 + ((((u : Nat) : Int)) % 10))]) rfl rfl (by simp [Value.oneCell']) (by decide) rfl ?_; clear F M a; intro v1 w a M F
  obtain ⟨av1, cv1, rfl, hlev1, hcmv1, hlv1⟩ := M.row_shape (k := 0) rfl
  refine rl_run F (run_assign (F.ev rfl)) rfl ?_; clear F a; intro a F
  refine rl_nil ?_
  refine q_tn ?_
  refine wp_seq ?_
  refine wp_seq ?_
  rw [show ([.int .u8 (48 + ((((u : Nat) : Int)) % 10))] : List Value) = bc [UInt8.ofNat (48 + u % 10)] from by rw [dig_nb]; rfl] at M
  refine w_reg ?_
  refine rl_run F (run_move (F.ev rfl)) rfl ?_; clear F a; intro a F
  refine rl_run F (run_quoi (F.ev rfl) (F.ev rfl) (by omega) (by omega) (in_u64 (by omega) (by omega))) rfl ?_; clear F a; intro a F
  refine rl_run F (run_assign (F.ev rfl)) rfl ?_; clear F a; intro a F
  refine rl_nil ?_
  refine q_tn ?_
  refine wp_block ?_
  refine w_loopN (fun m a' w' => ∃ (q0 : Nat), ∃ (l : List UInt8), ∃ (ad : Option Addr), ∃ (nd : Nat), ∃ (cd : Nat), m = q0 + 1 ∧ Fits 24 a' [(0, .int .u64 (((q0 : Nat) : Int))), (3, .slice (ad) (nd) (cd))] ∧ Mem w0 G (.row (.slice (ad) (nd) (cd)) (nd) (bc l) 5 1 :: L) w' ∧ (q0 ≤ u) ∧ (Lib.decDigits u = (if q0 = 0 then [] else Lib.decDigits q0) ++ l) ∧ (nd = l.length) ∧ (l.length ≤ 100 ∧ q0 < 10 ^ (100 - l.length))) _ ⟨u / 10, [UInt8.ofNat (48 + u % 10)], (av1), (1), (cv1), rfl, F.to ⟨rfl, rfl, trivial⟩, M, Nat.div_le_self _ _, dec_split u, rfl, by simp only [List.length_cons, List.length_nil]; exact ⟨by omega, Nat.lt_of_le_of_lt (Nat.div_le_self _ _) (Nat.lt_trans hu (by decide))⟩⟩ ?_
  clear F M
  rintro m a w ⟨q0, l, ad, nd, cd, rfl, F, M, hm, hl, hnd, hlen⟩
  refine wp_seq ?_
  refine wp_seq ?_
  refine w_reg ?_
  refine rl_run F (run_move (F.ev rfl)) rfl ?_; clear F a; intro a F
  refine rl_run F (run_gtr (F.ev rfl) (F.ev rfl)) rfl ?_; clear F a; intro a F
  refine rl_nil ?_
  refine q_tn ?_
  refine w_cond F rfl ?_ ?_
  · intro hc
    have h2b := hc; clear hc
    have h2 : 0 < ((q0 : Nat) : Int) := of_decide_eq_true h2b
    refine wp_skip ?_
    refine q_tn ?_
    refine wp_seq ?_
    refine wp_block ?_
    refine w_reg ?_
    refine rl_run F (run_move (F.ev rfl)) rfl ?_; clear F a; intro a F
    refine rl_run F (run_remi (F.ev rfl) (F.ev rfl) (by omega) (by omega)) rfl ?_; clear F a; intro a F
    refine rl_run F (run_addi (F.ev rfl) (F.ev rfl) (in_u64 (by omega) (by omega))) rfl ?_; clear F a; intro a F
    refine rl_run F (run_conv_int tok5.k ⟨_, by rw [under_int tok37.k]⟩ (F.ev rfl) (in_u8 (by omega) (by omega))) rfl ?_; clear F a; intro a F
    refine rl_buildSlice1 F M tok46.k tok5 rfl rfl (cs := [.int .u8 (48 + ((((q0 : Nat) : Int)) % 10))]) rfl rfl (by simp [Value.oneCell']) (by decide) rfl ?_; clear F M a; intro v3 w a M F
    obtain ⟨av3, cv3, rfl, hlev3, hcmv3, hlv3⟩ := M.row_shape (k := 0) rfl
    rw [show ([.int .u8 (48 + ((((q0 : Nat) : Int)) % 10))] : List Value) = bc [UInt8.ofNat (48 + q0 % 10)] from by rw [dig_nb]; rfl] at M
    refine rl_run F (run_move (F.ev rfl)) rfl ?_; clear F a; intro a F
    refine rl_append_row F M (k := 0) (k2 := 1) rfl rfl tok46.k tok5 rfl rfl (by decide) rfl rfl (by show _ * 1 ≤ _; omega) (by omega) rfl ?_; clear F M a; intro v4 w a M F
    rw [← bc_append] at M
    obtain ⟨av4, cv4, rfl, hlev4, hcmv4, hlv4⟩ := M.row_shape (k := 0) rfl
    refine rl_run F (run_assign (F.ev rfl)) rfl ?_; clear F a; intro a F
    refine rl_nil ?_
    refine q_bn ?_
    refine q_tn ?_
    refine w_reg ?_
    refine rl_run F (run_move (F.ev rfl)) rfl ?_; clear F a; intro a F
    refine rl_run F (run_quoi (F.ev rfl) (F.ev rfl) (by omega) (by omega) (in_u64 (by omega) (by omega))) rfl ?_; clear F a; intro a F
    refine rl_run F (run_assign (F.ev rfl)) rfl ?_; clear F a; intro a F
    refine rl_nil ?_
    refine q_tn ?_
    exact ⟨_, (by have h10 := Nat.div_lt_self (show 0 < q0 by omega) (show 1 < 10 by decide); omega), q0 / 10, [UInt8.ofNat (48 + q0 % 10)] ++ l, (av4), (1 + nd), (cv4), rfl, F.to ⟨rfl, rfl, trivial⟩, (M.weaken (.cons_cons _ (.cons _ (List.Sublist.refl _)))), Nat.le_trans (Nat.div_le_self _ _) hm, dc_step hl (by omega), by simp [hnd]; omega, dc_len hlen (by omega)⟩
  · intro hc
    have h5b := hc; clear hc
    have h5 : ¬ (0 < ((q0 : Nat) : Int)) := of_decide_eq_false h5b
    refine wp_exit ?_
    refine q_te ?_
    refine q_te ?_
    refine q_bh ?_
    refine q_tn ?_
    refine wp_seq ?_
    refine w_reg ?_
    refine rl_run F (run_move (F.ev rfl)) rfl ?_; clear F a; intro a F
    refine rl_run F (run_strOfRow M (k := 0) rfl hnd tok46.k tok5.k tok9.k (F.ev rfl)) rfl ?_; clear F a; intro a F
    refine rl_run F (run_assign (F.ev rfl)) rfl ?_; clear F a; intro a F
    refine rl_nil ?_
    refine q_tn ?_
    refine wp_ret ?_
    refine fin1 F rfl rfl ?_
    exact ⟨M.weaken (.cons _ (List.Sublist.refl _)), by rw [hl, if_pos (by omega)]; rfl⟩

theorem line_spec {w0 w : World} {G : Ghost} {L : List Res} (M : Mem w0 G L w) {h : PairD} (hk : inKind .u64 h.key) (hv0 : 0 ≤ h.v) (hv1 : h.v ≤ 9223372036854775807) :
    Calls Tryd.prog 17 #[.agg #[.int .u64 h.key, .int .i64 h.v]] w (RetS w0 G L fun v => v = .string (str (lineF h))) := by
  have hkb : 0 ≤ h.key ∧ h.key ≤ 18446744073709551615 := hk
  have hd1 := dec_len h.key.toNat (by omega)
  have hd2 := dec_len h.v.toNat (by omega)
  refine calls_start (vs := [_]) Tryd.func17 rfl (n := 13) rfl rfl ?_
  intro a F
  refine wp_seq ?_
  refine w_reg ?_
  refine rl_box F M rfl (cs := [.int .u64 (h.key), .int .i64 (h.v)]) rfl rfl ?_; clear F M a; intro b1 w a M F
  refine rl_run F (run_assign (F.ev rfl)) rfl ?_; clear F a; intro a F
  refine rl_nil ?_
  refine q_tn ?_
  refine wp_seq ?_
  refine w_plan [(true, 0), (true, 1), (true, 4), (true, 5), (true, 6), (false, 2), (true, 3), (false, 7), (true, 8), (true, 9), (true, 10)] (Keep G [.blk b1 [.int .u64 (h.key), .int .i64 (h.v)] 39]) rfl (by kernel_rfl) (fun c a d v w h => by cases d <;> exact h) ((M.drew _).keep (Gle.refl _) (by simp)) ?_
  replace M := M.drew (w.drawn + 1)
  refine pl_run F (fun w M => run_fieldAddr tok39.k rfl rfl (F.ev rfl)) rfl ?_; clear F a; intro a F
  refine pl_run F (fun w M => run_load1 (agf tok37 rfl) (F.ev rfl) (M.cellL (k := 0) rfl rfl)) rfl ?_; clear F a; intro a F
  refine pl_run F (fun w M => run_fieldAddr tok39.k rfl rfl (F.ev rfl)) rfl ?_; clear F a; intro a F
  refine pl_run F (fun w M => run_load1 (agf tok2 rfl) (F.ev rfl) (M.cellL (k := 0) rfl rfl)) rfl ?_; clear F a; intro a F
  refine pl_run F (fun w M => run_conv_int tok37.k ⟨_, by rw [under_int tok2.k]⟩ (F.ev rfl) (in_u64 (by omega) (by omega))) rfl ?_; clear F a; intro a F
  refine pl_act ?_ rfl
  refine rl_callS F ent36 rfl rfl (by have hq_ := dec_spec (u := (h.key).toNat) M (by omega); rwa [show (((h.key).toNat : Nat) : Int) = h.key by omega] at hq_) ?_; clear F M a; rintro _ w a M rfl F
  refine rl_nil ?_
  refine ⟨Keep G [.blk b1 [.int .u64 (h.key), .int .i64 (h.v)] 39], M.keep (Gle.refl _) (by simp), fun w h => h.mono (Gle.refl _) (by simp), ?_⟩
  refine pl_run F (fun w M => run_strAdd (F.ev rfl) (F.ev rfl) (by (try simp only [List.length_append, List.length_cons, List.length_nil]); omega)) rfl ?_; clear F a; intro a F
  refine pl_act ?_ rfl
  refine rl_callS F ent36 rfl rfl (by have hq_ := dec_spec (u := (h.v).toNat) M (by omega); rwa [show (((h.v).toNat : Nat) : Int) = h.v by omega] at hq_) ?_; clear F M a; rintro _ w a M rfl F
  refine rl_nil ?_
  refine ⟨Keep G [.blk b1 [.int .u64 (h.key), .int .i64 (h.v)] 39], M.keep (Gle.refl _) (by simp), fun w h => h.mono (Gle.refl _) (by simp), ?_⟩
  refine pl_run F (fun w M => run_strAdd (F.ev rfl) (F.ev rfl) (by (try simp only [List.length_append, List.length_cons, List.length_nil]); omega)) rfl ?_; clear F a; intro a F
  refine pl_run F (fun w M => run_strAdd (F.ev rfl) (F.ev rfl) (by (try simp only [List.length_append, List.length_cons, List.length_nil]); omega)) rfl ?_; clear F a; intro a F
  refine pl_run F (fun w M => run_assign (F.ev rfl)) rfl ?_; clear F a; intro a F
  refine pl_nil ?_
  refine q_tn ?_
  refine wp_ret ?_
  refine fin1 F rfl rfl ?_
  exact ⟨M.weaken (.cons _ (List.Sublist.refl _)), by unfold lineF; rw [itoa_nn hv0]⟩

theorem num_spec {w0 w : World} {G : Ghost} {L : List Res} (M : Mem w0 G L w) (HG : Globs 0 1 4 5 G) {s : List UInt8} (hs : s.length ≤ 1048577) :
    Calls Tryd.prog 50 #[.string (str s)] w (RetS w0 G L fun v => ∃ (u : Nat) (b : Bool), v = .tuple #[.int .u64 (u : Int), .bool b] ∧ u ≤ 18446744073709551615 ∧ numQ s 18446744073709551615 = if b then some u else none) := by
  refine calls_start (vs := [_]) Tryd.func50 rfl (n := 20) rfl rfl ?_
  intro a F
  refine wp_seq ?_
  refine w_reg ?_
  refine rl_run F (run_assign (F.ev rfl)) rfl ?_; clear F a; intro a F
  refine rl_run F (run_assign (F.ev rfl)) rfl ?_; clear F a; intro a F
  refine rl_nil ?_
  refine q_tn ?_
  refine wp_seq ?_
  refine w_reg ?_
  refine rl_run F (run_move (F.ev rfl)) rfl ?_; clear F a; intro a F
  refine rl_callS F ent60 rfl rfl (puint_spec (s := s) M HG (by omega)) ?_; clear F M a; rintro _ w a M ⟨u1, eru1, rfl, hleu1, hiu1, hpuu1⟩ F
  refine rl_run F (run_move (F.ev rfl)) rfl ?_; clear F a; intro a F
  refine rl_run F (run_extract (v := .int .u64 (((u1 : Nat) : Int))) (F.ev rfl) rfl) rfl ?_; clear F a; intro a F
  refine rl_run F (run_extract (v := eru1) (F.ev rfl) rfl) rfl ?_; clear F a; intro a F
  refine rl_run F (run_assign (F.ev rfl)) rfl ?_; clear F a; intro a F
  refine rl_run F (run_assign (F.ev rfl)) rfl ?_; clear F a; intro a F
  refine rl_nil ?_
  refine q_tn ?_
  refine wp_seq ?_
  refine w_reg ?_
  refine rl_run F (run_move (F.ev rfl)) rfl ?_; clear F a; intro a F
  refine rl_run F (run_move (F.ev rfl)) rfl ?_; clear F a; intro a F
  refine rl_run F (run_eqNilI tok71.k hiu1 (F.ev rfl) rfl) rfl ?_; clear F a; intro a F
  refine rl_run F (run_move (F.ev rfl)) rfl ?_; clear F a; intro a F
  rcases Bool.eq_false_or_eq_true (isNilI eru1) with hc | hc
  · skip
    have h2b := hc; clear hc
    have h2 : (isNilI eru1) = true := h2b
    refine rl_guard_t F rfl rfl rfl h2b ?_
    refine rl_run F (run_move (F.ev rfl)) rfl ?_; clear F a; intro a F
    refine rl_guard_t F rfl rfl rfl h2b ?_
    refine rl_callS F ent33 rfl rfl (fu_spec (u := u1) M HG (by omega)) ?_; clear F M a; rintro _ w a M rfl F
    refine rl_guard_t F rfl rfl rfl h2b ?_
    refine rl_run F (run_move (F.ev rfl)) rfl ?_; clear F a; intro a F
    refine rl_guard_t F rfl rfl rfl h2b ?_
    refine rl_run F (run_strEq (F.ev rfl) (F.ev rfl)) rfl ?_; clear F a; intro a F
    refine rl_run F (run_pick_t (F.ev rfl) h2b (F.ev rfl)) rfl ?_; clear F a; intro a F
    refine rl_run F (run_assign (F.ev rfl)) rfl ?_; clear F a; intro a F
    refine rl_run F (run_assign (F.ev rfl)) rfl ?_; clear F a; intro a F
    refine rl_nil ?_
    refine q_tn ?_
    refine wp_ret ?_
    refine fin2 F rfl rfl rfl ?_
    exact ⟨M, _, _, rfl, hleu1, num_ok hpuu1 (by assumption)⟩
  · skip
    have h3b := hc; clear hc
    have h3 : (isNilI eru1) = false := h3b
    refine rl_guard_f F rfl rfl rfl h3b ?_; clear F a; intro a F
    refine rl_guard_f F rfl rfl rfl h3b ?_; clear F a; intro a F
    refine rl_guard_f F rfl rfl rfl h3b ?_; clear F a; intro a F
    refine rl_guard_f F rfl rfl rfl h3b ?_; clear F a; intro a F
    refine rl_run F (run_pick_f (F.ev rfl) h3b (F.ev rfl)) rfl ?_; clear F a; intro a F
    refine rl_run F (run_assign (F.ev rfl)) rfl ?_; clear F a; intro a F
    refine rl_run F (run_assign (F.ev rfl)) rfl ?_; clear F a; intro a F
    refine rl_nil ?_
    refine q_tn ?_
    refine wp_ret ?_
    refine fin2 F rfl rfl rfl ?_
    exact ⟨M, _, _, rfl, hleu1, num_no hpuu1 (by assumption)⟩

theorem parse1_spec {w0 w : World} {G : Ghost} {L : List Res} (M : Mem w0 G L w) (HG : Globs 0 1 4 5 G) {s : List UInt8} (hs : s.length ≤ 1048577) :
    Calls Tryd.prog 38 #[.string (str s)] w (RetS w0 G L fun v => ∃ (h : PairD) (b : Bool), v = .tuple #[.agg #[.int .u64 h.key, .int .i64 h.v], .bool b] ∧ inKind .u64 h.key ∧ 0 ≤ h.v ∧ h.v ≤ 9223372036854775807 ∧ lineP s = if b = true then some h else none) := by
  have hcl := cut_lens 32 s
  refine calls_start (vs := [_]) Tryd.func38 rfl (n := 46) rfl rfl ?_
  intro a F
  refine wp_seq ?_
  refine w_reg ?_
  refine rl_alloc F M tok39 rfl rfl ?_; clear F M a; intro b1 w a M F
  refine rl_run F (run_assign (F.ev rfl)) rfl ?_; clear F a; intro a F
  refine rl_nil ?_
  refine q_tn ?_
  refine wp_seq ?_
  refine w_reg ?_
  refine rl_run F (run_move (F.ev rfl)) rfl ?_; clear F a; intro a F
  refine rl_callS F ent37 rfl rfl (cut_spec (s := s) (sep := ([32] : List UInt8)) M HG (by omega)) ?_; clear F M a; rintro _ w a M rfl F
  refine rl_run F (run_move (F.ev rfl)) rfl ?_; clear F a; intro a F
  refine rl_run F (run_extract (v := .string (str ((Lib.cut s ([32] : List UInt8)).1))) (F.ev rfl) rfl) rfl ?_; clear F a; intro a F
  refine rl_run F (run_extract (v := .string (str ((Lib.cut s ([32] : List UInt8)).2.1))) (F.ev rfl) rfl) rfl ?_; clear F a; intro a F
  refine rl_run F (run_extract (v := .bool ((Lib.cut s ([32] : List UInt8)).2.2)) (F.ev rfl) rfl) rfl ?_; clear F a; intro a F
  refine rl_run F (run_assign (F.ev rfl)) rfl ?_; clear F a; intro a F
  refine rl_run F (run_assign (F.ev rfl)) rfl ?_; clear F a; intro a F
  refine rl_run F (run_assign (F.ev rfl)) rfl ?_; clear F a; intro a F
  refine rl_nil ?_
  refine q_tn ?_
  refine wp_seq ?_
  refine w_reg ?_
  refine rl_run F (run_move (F.ev rfl)) rfl ?_; clear F a; intro a F
  refine rl_callS F ent50 rfl rfl (num_spec (s := (Lib.cut s ([32] : List UInt8)).1) M HG (by omega)) ?_; clear F M a; rintro _ w a M ⟨k3, bk3, rfl, hlek3, hnk3⟩ F
  refine rl_run F (run_move (F.ev rfl)) rfl ?_; clear F a; intro a F
  refine rl_run F (run_extract (v := .int .u64 (((k3 : Nat) : Int))) (F.ev rfl) rfl) rfl ?_; clear F a; intro a F
  refine rl_run F (run_extract (v := .bool (bk3)) (F.ev rfl) rfl) rfl ?_; clear F a; intro a F
  refine rl_run F (run_assign (F.ev rfl)) rfl ?_; clear F a; intro a F
  refine rl_run F (run_assign (F.ev rfl)) rfl ?_; clear F a; intro a F
  refine rl_nil ?_
  refine q_tn ?_
  refine wp_seq ?_
  refine w_reg ?_
  refine rl_run F (run_move (F.ev rfl)) rfl ?_; clear F a; intro a F
  refine rl_callS F ent50 rfl rfl (num_spec (s := (Lib.cut s ([32] : List UInt8)).2.1) M HG (by omega)) ?_; clear F M a; rintro _ w a M ⟨k4, bk4, rfl, hlek4, hnk4⟩ F
  refine rl_run F (run_move (F.ev rfl)) rfl ?_; clear F a; intro a F
  refine rl_run F (run_extract (v := .int .u64 (((k4 : Nat) : Int))) (F.ev rfl) rfl) rfl ?_; clear F a; intro a F
  refine rl_run F (run_extract (v := .bool (bk4)) (F.ev rfl) rfl) rfl ?_; clear F a; intro a F
  refine rl_run F (run_assign (F.ev rfl)) rfl ?_; clear F a; intro a F
  refine rl_run F (run_assign (F.ev rfl)) rfl ?_; clear F a; intro a F
  refine rl_nil ?_
  refine q_tn ?_
  refine wp_seq ?_
  refine wp_seq ?_
  refine w_reg ?_
  refine rl_run F (run_move (F.ev rfl)) rfl ?_; clear F a; intro a F
  refine rl_run F (run_not (F.ev rfl)) rfl ?_; clear F a; intro a F
  refine rl_run F (run_move (F.ev rfl)) rfl ?_; clear F a; intro a F
  rcases Bool.eq_false_or_eq_true (!((Lib.cut s ([32] : List UInt8)).2.2)) with hc | hc
  · skip
    have h5b := hc; clear hc
    have h5 : ((Lib.cut s ([32] : List UInt8)).2.2) = false := (of_not_t h5b)
    have h5c : ((Lib.cut s ([32] : List UInt8)).2.2) = false := (of_not_t h5b)
    refine rl_guard_f F rfl rfl rfl (not_t h5c) ?_; clear F a; intro a F
    refine rl_guard_f F rfl rfl rfl (not_t h5c) ?_; clear F a; intro a F
    refine rl_run F (run_pick_t (F.ev rfl) (not_t h5c) (F.ev rfl)) rfl ?_; clear F a; intro a F
    refine rl_run F (run_move (F.ev rfl)) rfl ?_; clear F a; intro a F
    refine rl_guard_f F rfl rfl rfl rfl ?_; clear F a; intro a F
    refine rl_guard_f F rfl rfl rfl rfl ?_; clear F a; intro a F
    refine rl_run F (run_pick_t (F.ev rfl) rfl (F.ev rfl)) rfl ?_; clear F a; intro a F
    refine rl_run F (run_move (F.ev rfl)) rfl ?_; clear F a; intro a F
    refine rl_guard_f F rfl rfl rfl rfl ?_; clear F a; intro a F
    refine rl_guard_f F rfl rfl rfl rfl ?_; clear F a; intro a F
    refine rl_run F (run_pick_t (F.ev rfl) rfl (F.ev rfl)) rfl ?_; clear F a; intro a F
    refine rl_nil ?_
    refine q_tn ?_
    refine w_cond_t F rfl rfl ?_
    refine wp_seq ?_
    refine w_reg ?_
    refine rl_run F (run_buildS (cs := [.int .u64 (0), .int .i64 (0)]) (ps := []) tok39.k rfl tok39 (F.evp rfl) rfl) rfl ?_; clear F a; intro a F
    refine rl_storeA F M tok39 (k := 0) rfl rfl rfl (us := [.int .u64 (0), .int .i64 (0)]) rfl rfl (by simp [Value.oneCell']) (by simp) ?_; clear F M a; intro w a M F
    refine rl_run F (run_assign (F.ev rfl)) rfl ?_; clear F a; intro a F
    refine rl_nil ?_
    refine q_tn ?_
    refine wp_ret ?_
    refine q_tr ?_
    refine fin_ct F M (k := 0) rfl rfl tok39 rfl rfl rfl rfl ?_
    exact ⟨(M.weaken (.cons _ (List.Sublist.refl _))), ⟨0, 0⟩, false, rfl, ⟨by decide, by decide⟩, by decide, by decide, ln_no hnk3 hnk4 (by first | exact Or.inl (by assumption) | exact Or.inr (Or.inl (by assumption)) | exact Or.inr (Or.inr (Or.inl (by assumption))) | exact Or.inr (Or.inr (Or.inr (by omega))))⟩
  · skip
    have h6b := hc; clear hc
    have h6 : ((Lib.cut s ([32] : List UInt8)).2.2) = true := (of_not_f h6b)
    have h6c : ((Lib.cut s ([32] : List UInt8)).2.2) = true := (of_not_f h6b)
    refine rl_guard_t F rfl rfl rfl (not_f h6c) ?_
    refine rl_run F (run_move (F.ev rfl)) rfl ?_; clear F a; intro a F
    refine rl_guard_t F rfl rfl rfl (not_f h6c) ?_
    refine rl_run F (run_not (F.ev rfl)) rfl ?_; clear F a; intro a F
    refine rl_run F (run_pick_f (F.ev rfl) (not_f h6c) (F.ev rfl)) rfl ?_; clear F a; intro a F
    refine rl_run F (run_move (F.ev rfl)) rfl ?_; clear F a; intro a F
    rcases Bool.eq_false_or_eq_true (!(bk3)) with hc | hc
    · skip
      have h7b := hc; clear hc
      have h7 : (bk3) = false := (of_not_t h7b)
      have h7c : (bk3) = false := (of_not_t h7b)
      refine rl_guard_f F rfl rfl rfl (not_t h7c) ?_; clear F a; intro a F
      refine rl_guard_f F rfl rfl rfl (not_t h7c) ?_; clear F a; intro a F
      refine rl_run F (run_pick_t (F.ev rfl) (not_t h7c) (F.ev rfl)) rfl ?_; clear F a; intro a F
      refine rl_run F (run_move (F.ev rfl)) rfl ?_; clear F a; intro a F
      refine rl_guard_f F rfl rfl rfl rfl ?_; clear F a; intro a F
      refine rl_guard_f F rfl rfl rfl rfl ?_; clear F a; intro a F
      refine rl_run F (run_pick_t (F.ev rfl) rfl (F.ev rfl)) rfl ?_; clear F a; intro a F
      refine rl_nil ?_
      refine q_tn ?_
      refine w_cond_t F rfl rfl ?_
      refine wp_seq ?_
      refine w_reg ?_
      refine rl_run F (run_buildS (cs := [.int .u64 (0), .int .i64 (0)]) (ps := []) tok39.k rfl tok39 (F.evp rfl) rfl) rfl ?_; clear F a; intro a F
      refine rl_storeA F M tok39 (k := 0) rfl rfl rfl (us := [.int .u64 (0), .int .i64 (0)]) rfl rfl (by simp [Value.oneCell']) (by simp) ?_; clear F M a; intro w a M F
      refine rl_run F (run_assign (F.ev rfl)) rfl ?_; clear F a; intro a F
      refine rl_nil ?_
      refine q_tn ?_
      refine wp_ret ?_
      refine q_tr ?_
      refine fin_ct F M (k := 0) rfl rfl tok39 rfl rfl rfl rfl ?_
      exact ⟨(M.weaken (.cons _ (List.Sublist.refl _))), ⟨0, 0⟩, false, rfl, ⟨by decide, by decide⟩, by decide, by decide, ln_no hnk3 hnk4 (by first | exact Or.inl (by assumption) | exact Or.inr (Or.inl (by assumption)) | exact Or.inr (Or.inr (Or.inl (by assumption))) | exact Or.inr (Or.inr (Or.inr (by omega))))⟩
    · skip
      have h8b := hc; clear hc
      have h8 : (bk3) = true := (of_not_f h8b)
      have h8c : (bk3) = true := (of_not_f h8b)
      refine rl_guard_t F rfl rfl rfl (not_f h8c) ?_
      refine rl_run F (run_move (F.ev rfl)) rfl ?_; clear F a; intro a F
      refine rl_guard_t F rfl rfl rfl (not_f h8c) ?_
      refine rl_run F (run_not (F.ev rfl)) rfl ?_; clear F a; intro a F
      refine rl_run F (run_pick_f (F.ev rfl) (not_f h8c) (F.ev rfl)) rfl ?_; clear F a; intro a F
      refine rl_run F (run_move (F.ev rfl)) rfl ?_; clear F a; intro a F
      rcases Bool.eq_false_or_eq_true (!(bk4)) with hc | hc
      · skip
        have h9b := hc; clear hc
        have h9 : (bk4) = false := (of_not_t h9b)
        have h9c : (bk4) = false := (of_not_t h9b)
        refine rl_guard_f F rfl rfl rfl (not_t h9c) ?_; clear F a; intro a F
        refine rl_guard_f F rfl rfl rfl (not_t h9c) ?_; clear F a; intro a F
        refine rl_run F (run_pick_t (F.ev rfl) (not_t h9c) (F.ev rfl)) rfl ?_; clear F a; intro a F
        refine rl_nil ?_
        refine q_tn ?_
        refine w_cond_t F rfl rfl ?_
        refine wp_seq ?_
        refine w_reg ?_
        refine rl_run F (run_buildS (cs := [.int .u64 (0), .int .i64 (0)]) (ps := []) tok39.k rfl tok39 (F.evp rfl) rfl) rfl ?_; clear F a; intro a F
        refine rl_storeA F M tok39 (k := 0) rfl rfl rfl (us := [.int .u64 (0), .int .i64 (0)]) rfl rfl (by simp [Value.oneCell']) (by simp) ?_; clear F M a; intro w a M F
        refine rl_run F (run_assign (F.ev rfl)) rfl ?_; clear F a; intro a F
        refine rl_nil ?_
        refine q_tn ?_
        refine wp_ret ?_
        refine q_tr ?_
        refine fin_ct F M (k := 0) rfl rfl tok39 rfl rfl rfl rfl ?_
        exact ⟨(M.weaken (.cons _ (List.Sublist.refl _))), ⟨0, 0⟩, false, rfl, ⟨by decide, by decide⟩, by decide, by decide, ln_no hnk3 hnk4 (by first | exact Or.inl (by assumption) | exact Or.inr (Or.inl (by assumption)) | exact Or.inr (Or.inr (Or.inl (by assumption))) | exact Or.inr (Or.inr (Or.inr (by omega))))⟩
      · skip
        have h10b := hc; clear hc
        have h10 : (bk4) = true := (of_not_f h10b)
        have h10c : (bk4) = true := (of_not_f h10b)
        refine rl_guard_t F rfl rfl rfl (not_f h10c) ?_
        refine rl_run F (run_move (F.ev rfl)) rfl ?_; clear F a; intro a F
        refine rl_guard_t F rfl rfl rfl (not_f h10c) ?_
        refine rl_run F (run_gtr (F.ev rfl) (F.ev rfl)) rfl ?_; clear F a; intro a F
        refine rl_run F (run_pick_f (F.ev rfl) (not_f h10c) (F.ev rfl)) rfl ?_; clear F a; intro a F
        refine rl_nil ?_
        refine q_tn ?_
        refine w_cond F rfl ?_ ?_
        · intro hc
          have h11b := hc; clear hc
          have h11 : 9223372036854775807 < ((k4 : Nat) : Int) := of_decide_eq_true h11b
          refine wp_seq ?_
          refine w_reg ?_
          refine rl_run F (run_buildS (cs := [.int .u64 (0), .int .i64 (0)]) (ps := []) tok39.k rfl tok39 (F.evp rfl) rfl) rfl ?_; clear F a; intro a F
          refine rl_storeA F M tok39 (k := 0) rfl rfl rfl (us := [.int .u64 (0), .int .i64 (0)]) rfl rfl (by simp [Value.oneCell']) (by simp) ?_; clear F M a; intro w a M F
          refine rl_run F (run_assign (F.ev rfl)) rfl ?_; clear F a; intro a F
          refine rl_nil ?_
          refine q_tn ?_
          refine wp_ret ?_
          refine q_tr ?_
          refine fin_ct F M (k := 0) rfl rfl tok39 rfl rfl rfl rfl ?_
          exact ⟨(M.weaken (.cons _ (List.Sublist.refl _))), ⟨0, 0⟩, false, rfl, ⟨by decide, by decide⟩, by decide, by decide, ln_no hnk3 hnk4 (by first | exact Or.inl (by assumption) | exact Or.inr (Or.inl (by assumption)) | exact Or.inr (Or.inr (Or.inl (by assumption))) | exact Or.inr (Or.inr (Or.inr (by omega))))⟩
        · intro hc
          have h12b := hc; clear hc
          have h12 : ¬ (9223372036854775807 < ((k4 : Nat) : Int)) := of_decide_eq_false h12b
          refine wp_skip ?_
          refine q_tn ?_
          refine wp_seq ?_
          refine w_reg ?_
          refine rl_run F (run_move (F.ev rfl)) rfl ?_; clear F a; intro a F
          refine rl_run F (run_move (F.ev rfl)) rfl ?_; clear F a; intro a F
          refine rl_run F (run_conv_int tok2.k ⟨_, by rw [under_int tok37.k]⟩ (F.ev rfl) (in_i64 (by omega) (by omega))) rfl ?_; clear F a; intro a F
          refine rl_run F (run_buildS (cs := [.int .u64 (((k3 : Nat) : Int)), .int .i64 (((k4 : Nat) : Int))]) (ps := [(0, .int .u64 (((k3 : Nat) : Int))), (1, .int .i64 (((k4 : Nat) : Int)))]) tok39.k rfl tok39 (F.evp rfl) rfl) rfl ?_; clear F a; intro a F
          refine rl_storeA F M tok39 (k := 0) rfl rfl rfl (us := [.int .u64 (((k3 : Nat) : Int)), .int .i64 (((k4 : Nat) : Int))]) rfl rfl (by simp [Value.oneCell']) (by simp) ?_; clear F M a; intro w a M F
          refine rl_run F (run_assign (F.ev rfl)) rfl ?_; clear F a; intro a F
          refine rl_nil ?_
          refine q_tn ?_
          refine wp_ret ?_
          refine fin_ct F M (k := 0) rfl rfl tok39 rfl rfl rfl rfl ?_
          exact ⟨(M.weaken (.cons _ (List.Sublist.refl _))), ⟨((k3 : Nat) : Int), ((k4 : Nat) : Int)⟩, true, rfl, (in_u64 (by omega) (by omega) : inKind .u64 ((k3 : Nat) : Int)), by show (0 : Int) ≤ ((k4 : Nat) : Int); omega, by show ((k4 : Nat) : Int) ≤ _; omega, ln_yes (by assumption) hnk3 hnk4 (by assumption) (by assumption) (by omega)⟩

end Go.Proofs.YtokeofoemjeleaaDoor
