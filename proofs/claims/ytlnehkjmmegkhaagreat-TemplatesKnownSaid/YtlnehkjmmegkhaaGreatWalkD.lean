/- The walks, part D. -/
import Derived.Test.YtlnehkjmmegkhaaGreatWalkC
import Derived.Test.YtlnehkjmmegkhaaGreatPrt
namespace Go.Proofs.YtlnehkjmmegkhaaGreat
open Go Go.Y Go.Proofs
set_option linter.unusedSimpArgs false
set_option linter.unusedVariables false
theorem tnamed_spec {w0 w : World} {G : Ghost} {L : List Res} (M : Mem w0 G L w) {s : List UInt8} (hs : s.length ≤ 9223372036854775807) : Calls Tryz.prog 69 #[.string (str s)] w (RetS w0 G L fun v => ∃ b : Bool, v = .bool b ∧ (b = true ↔ Name s)) := by
  refine calls_start (vs := [_]) Tryz.func69 rfl (n := 7) rfl rfl ?_
  intro a F
  refine wp_seq <| w_reg <| rl_run F (run_assign (F.ev rfl)) rfl ?_; clear F a; intro a F
  refine rl_nil <| q_tn <| wp_seq <| w_reg <| rl_run F (run_move (F.ev rfl)) rfl ?_; clear F a; intro a F
  refine rl_run F (run_buildS (cs := [.int .u8 (1), .string (str (s)), .string (str ([] : List UInt8)), .slice none (0) (0), .string (str ([] : List UInt8)), .slice none (0) (0)]) (ps := [(0, .int .u8 (1)), (1, .string (str (s)))]) tok30.k rfl tok30 (F.evp rfl) rfl) rfl ?_; clear F a; intro a F
  refine rl_callS F ent30 rfl rfl (ncheck_spec (x := (.mk 1 s ([] : List UInt8) [] ([] : List UInt8) [] : NT)) M ⟨by show (0 : Int) ≤ 1; omega, by show 1 ≤ (255 : Int); omega⟩ ⟨by first | exact Nat.zero_le _ | assumption | (simp only [Tr.tag, Tr.key, Tr.text]; omega), by first | exact Nat.zero_le _ | assumption | (simp only [Tr.tag, Tr.key, Tr.text]; omega), by first | exact Nat.zero_le _ | assumption | (simp only [Tr.tag, Tr.key, Tr.text]; omega)⟩ RdSl.nil RdSl.nil) ?_; clear F M a; rintro _ w a M rfl F
  refine rl_run F (run_eqi (F.ev rfl) (F.ev rfl)) rfl ?_; clear F a; intro a F
  refine rl_run F (run_assign (F.ev rfl)) rfl ?_; clear F a; intro a F
  refine rl_nil <| q_tn <| wp_ret <| fin1 F rfl rfl ?_
  exact ⟨M, (decide (chkF ((.mk 1 s ([] : List UInt8) [] ([] : List UInt8) [] : NT)) = 0)), rfl, (decide_eq_true_iff.trans (chkF_zero.trans named_valid))⟩
theorem tplain_spec {w0 w : World} {G : Ghost} {L : List Res} (M : Mem w0 G L w) {s : List UInt8} (hs : s.length ≤ 9223372036854775807) : Calls Tryz.prog 66 #[.string (str s)] w (RetS w0 G L fun v => ∃ b : Bool, v = .bool b ∧ (b = true ↔ Str s)) := by
  refine calls_start (vs := [_]) Tryz.func66 rfl (n := 7) rfl rfl ?_
  intro a F
  refine wp_seq <| w_reg <| rl_run F (run_assign (F.ev rfl)) rfl ?_; clear F a; intro a F
  refine rl_nil <| q_tn <| wp_seq <| w_reg <| rl_run F (run_move (F.ev rfl)) rfl ?_; clear F a; intro a F
  refine rl_run F (run_buildS (cs := [.int .u8 (2), .string (str ([] : List UInt8)), .string (str ([] : List UInt8)), .slice none (0) (0), .string (str (s)), .slice none (0) (0)]) (ps := [(0, .int .u8 (2)), (4, .string (str (s)))]) tok30.k rfl tok30 (F.evp rfl) rfl) rfl ?_; clear F a; intro a F
  refine rl_callS F ent30 rfl rfl (ncheck_spec (x := (.mk 2 ([] : List UInt8) ([] : List UInt8) [] s [] : NT)) M ⟨by show (0 : Int) ≤ 2; omega, by show 2 ≤ (255 : Int); omega⟩ ⟨by first | exact Nat.zero_le _ | assumption | (simp only [Tr.tag, Tr.key, Tr.text]; omega), by first | exact Nat.zero_le _ | assumption | (simp only [Tr.tag, Tr.key, Tr.text]; omega), by first | exact Nat.zero_le _ | assumption | (simp only [Tr.tag, Tr.key, Tr.text]; omega)⟩ RdSl.nil RdSl.nil) ?_; clear F M a; rintro _ w a M rfl F
  refine rl_run F (run_eqi (F.ev rfl) (F.ev rfl)) rfl ?_; clear F a; intro a F
  refine rl_run F (run_assign (F.ev rfl)) rfl ?_; clear F a; intro a F
  refine rl_nil <| q_tn <| wp_ret <| fin1 F rfl rfl ?_
  exact ⟨M, (decide (chkF ((.mk 2 ([] : List UInt8) ([] : List UInt8) [] s [] : NT)) = 0)), rfl, (decide_eq_true_iff.trans (chkF_zero.trans words_valid))⟩
theorem tslots_spec {w0 w : World} {G : Ghost} {L : List Res} (M : Mem w0 G L w) {ad : Option Addr} {cd : Nat} {xs : List SlotD} (S : RdSl rdSlot 3 G (.slice ad xs.length cd) xs) (hxs : xs.length ≤ 9223372036854775807) : Calls Tryz.prog 114 #[.slice ad xs.length cd] w (RetS w0 G L fun v => ∃ b : Bool, v = .bool b ∧ (b = true ↔ SlotsOk xs)) := by
  refine calls_start (vs := [_]) Tryz.func114 rfl (n := 56) rfl rfl ?_
  intro a F
  refine wp_seq <| w_reg <| rl_run F (run_assign (F.ev rfl)) rfl ?_; clear F a; intro a F
  refine rl_nil <| q_tn ?_
  iterate 2 (refine wp_seq ?_)
  refine w_reg <| rl_run F (run_move (F.ev rfl)) rfl ?_; clear F a; intro a F
  refine rl_run F (run_lenSl tok43.k (F.ev rfl)) rfl ?_; clear F a; intro a F
  refine rl_run F (run_gtr (F.ev rfl) (F.ev rfl)) rfl ?_; clear F a; intro a F
  refine rl_nil <| q_tn <| w_cond F rfl ?_ ?_
  · intro hc
    have h1b := hc; clear hc
    have h1 : 8 < ((xs.length : Nat) : Int) := of_decide_eq_true h1b
    refine wp_seq <| w_reg <| rl_run F (run_assign (F.ev rfl)) rfl ?_; clear F a; intro a F
    refine rl_nil <| q_tn <| wp_ret <| q_tr <| fin1 F rfl rfl ?_
    exact ⟨M, false, rfl, ⟨fun h_ => (by cases h_), fun h_ => (by have := h_.1; omega)⟩⟩
  · intro hc
    have h2b := hc; clear hc
    have h2 : ¬ (8 < ((xs.length : Nat) : Int)) := of_decide_eq_false h2b
    refine wp_skip <| q_tn ?_
    iterate 2 (refine wp_seq ?_)
    refine w_reg <| rl_run F (run_move (F.ev rfl)) rfl ?_; clear F a; intro a F
    refine rl_run F (run_lenSl tok43.k (F.ev rfl)) rfl ?_; clear F a; intro a F
    refine rl_run F (run_move (F.ev rfl)) rfl ?_; clear F a; intro a F
    refine rl_nil <| q_tn <| wp_block <| w_loopN (fun m a' w' => ∃ (i : Nat), m = xs.length - i ∧ Fits 56 a' [(0, .slice (ad) (xs.length) (cd)), (8, .slice (ad) (xs.length) (cd)), (9, .int .i64 (((xs.length : Nat) : Int))), (10, .int .i64 (((i : Nat) : Int)))] ∧ Mem w0 G (L) w' ∧ (i ≤ xs.length) ∧ (SlotsTo xs i)) _ ⟨0, rfl, F.to ⟨rfl, rfl, rfl, rfl, trivial⟩, M, Nat.zero_le _, SlotsTo.zero _⟩ ?_
    clear F M
    rintro m a w ⟨i, rfl, F, M, hi, hS⟩
    refine wp_seq <| w_reg <| rl_run F (run_lss (F.ev rfl) (F.ev rfl)) rfl ?_; clear F a; intro a F
    refine rl_nil <| q_tn <| wp_seq <| w_cond F rfl ?_ ?_
    · intro hc
      have h3b := hc; clear hc
      have h3 : ((i : Nat) : Int) < ((xs.length : Nat) : Int) := of_decide_eq_true h3b
      refine wp_skip <| q_tn <| wp_seq <| wp_block <| wp_seq <| w_reg <| rl_run F (run_move (F.ev rfl)) rfl ?_; clear F a; intro a F
      obtain ⟨Xe4, hXe4⟩ := get_of_lt (xs := xs) (i := i) (by omega)
      obtain ⟨be4, oe4, _, Ie4, _, Ae4, ⟨rfl, hn1e4, hk1e4, hv1e4⟩⟩ := S.at hXe4
      refine rl_run F (run_indexI tok43.k tok76 (F.ev rfl) (F.ev rfl) (by omega) Ie4) rfl ?_; clear F a; intro a F
      refine rl_run F (run_loadA tok76 rfl (F.ev rfl) (cs := [.string (str (Xe4.n)), .int .u8 (Xe4.src), .string (str (Xe4.v))]) rfl (M.cellsA Ae4 0 (by omega) rfl)) rfl ?_; clear F a; intro a F
      refine rl_alloc F M tok76 rfl rfl ?_; clear F M a; intro b5 w a M F
      refine rl_run F (run_assign (F.ev rfl)) rfl ?_; clear F a; intro a F
      refine rl_storeA F M tok76 (k := 0) rfl rfl rfl (us := [.string (str (Xe4.n)), .int .u8 (Xe4.src), .string (str (Xe4.v))]) rfl rfl (by simp [Value.oneCell']) (by simp) ?_; clear F M a; intro w a M F
      change Mem w0 G (.blk b5 [.string (str (Xe4.n)), .int .u8 (Xe4.src), .string (str (Xe4.v))] 76 :: L) _ at M
      refine rl_nil <| q_tn <| wp_seq <| w_plan2 [(.free, 0), (.pure, 1), (.keep, 2), (.free, 3), (.free, 4), (.free, 5), (.pure, 6), (.free, 7), (.free, 8), (.free, 9), (.free, 10), (.pure, 11), (.keep, 12), (.free, 13), (.free, 14), (.free, 15), (.free, 16), (.pure, 17), (.free, 18), (.free, 19), (.free, 20), (.pure, 21), (.free, 22), (.free, 23), (.free, 24), (.free, 25), (.free, 26), (.free, 27), (.free, 28), (.free, 29), (.pure, 30), (.free, 31), (.free, 32), (.free, 33), (.free, 34), (.free, 35), (.pure, 36), (.free, 37), (.free, 38), (.free, 39)] [] (Keep G [.blk b5 [.string (str (Xe4.n)), .int .u8 (Xe4.src), .string (str (Xe4.v))] 76]) rfl (by kernel_rfl) (fun c a d v w h => by cases d <;> exact h) ((M.drew _).keep (Gle.refl _) (by simp)) ?_
      replace M := M.drew (w.drawn + 1)
      refine pk_free F (fun w _ => run_fieldAddr tok76.k rfl rfl (F.ev rfl)) rfl ?_; clear F a; intro a F
      refine pk_pure F (fun w M => run_load1 (agf tok9 rfl) (F.ev rfl) (M.cellL (k := 0) rfl rfl)) rfl ?_; clear F a; intro a F
      refine pk_keep ?_ rfl
      refine rl_callS F ent69 rfl rfl (tnamed_spec (s := Xe4.n) M (by omega)) ?_; clear F M a; rintro _ w a M ⟨b7, rfl, hb7⟩ F
      refine rl_nil <| ⟨Keep G [.blk b5 [.string (str (Xe4.n)), .int .u8 (Xe4.src), .string (str (Xe4.v))] 76], M.keep (Gle.refl _) (by simp), fun w h => h.mono (Gle.refl _) (by simp), ?_⟩
      refine pk_free F (fun w _ => run_not (F.ev rfl)) rfl ?_; clear F a; intro a F
      refine pk_free F (fun w _ => run_move (F.ev rfl)) rfl ?_; clear F a; intro a F
      rcases Bool.eq_false_or_eq_true (!(b7)) with hc | hc
      · skip
        have h8b := hc; clear hc
        have h8 : (b7) = false := (of_not_t h8b)
        have h8c : (b7) = false := (of_not_t h8b)
        iterate 3 (refine pk_skip F rfl rfl (not_t h8c) rfl ?_; clear F a; intro a F)
        refine pk_free F (fun w _ => run_pick_t (F.ev rfl) (not_t h8c) (F.ev rfl)) rfl ?_; clear F a; intro a F
        refine pk_free F (fun w _ => run_move (F.ev rfl)) rfl ?_; clear F a; intro a F
        iterate 4 (refine pk_skip F rfl rfl rfl rfl ?_; clear F a; intro a F)
        refine pk_free F (fun w _ => run_pick_t (F.ev rfl) rfl (F.ev rfl)) rfl ?_; clear F a; intro a F
        refine pk_free F (fun w _ => run_move (F.ev rfl)) rfl ?_; clear F a; intro a F
        iterate 4 (refine pk_skip F rfl rfl rfl rfl ?_; clear F a; intro a F)
        iterate 3 (refine pk_skip_u F rfl rfl rfl ?_; clear F a; intro a F)
        refine pk_skip F rfl rfl rfl rfl ?_; clear F a; intro a F
        refine pk_free F (fun w _ => run_pick_t (F.ev rfl) rfl (F.ev rfl)) rfl ?_; clear F a; intro a F
        refine pk_free F (fun w _ => run_move (F.ev rfl)) rfl ?_; clear F a; intro a F
        iterate 3 (refine pk_skip F rfl rfl rfl rfl ?_; clear F a; intro a F)
        iterate 9 (refine pk_skip_u F rfl rfl rfl ?_; clear F a; intro a F)
        refine pk_skip F rfl rfl rfl rfl ?_; clear F a; intro a F
        refine pk_free F (fun w _ => run_pick_t (F.ev rfl) rfl (F.ev rfl)) rfl ?_; clear F a; intro a F
        refine pk_nil <| q_tn <| w_cond_t F rfl rfl ?_
        refine wp_seq <| w_reg <| rl_run F (run_assign (F.ev rfl)) rfl ?_; clear F a; intro a F
        refine rl_nil <| q_tn <| wp_ret <| q_br ?_
        iterate 2 (refine q_tr ?_)
        refine q_br <| q_tr <| fin1 F rfl rfl ?_
        exact ⟨(M.weaken (.cons _ (List.Sublist.refl _))), false, rfl, (by have hu := u8_b hk1e4; have q0 := slots_no1 hXe4; have q9 := @bl_le; clear F M; unfold SlotAt at q0; grind)⟩
      · skip
        have h9b := hc; clear hc
        have h9 : (b7) = true := (of_not_f h9b)
        have h9c : (b7) = true := (of_not_f h9b)
        refine pk_free_g F rfl rfl (not_f h9c) (fun w _ => run_fieldAddr tok76.k rfl rfl (F.ev rfl)) rfl ?_; clear F a; intro a F
        refine pk_pure_g F rfl rfl (not_f h9c) (fun w M => run_load1 (agf tok5 rfl) (F.ev rfl) (M.cellL (k := 0) rfl rfl)) rfl ?_; clear F a; intro a F
        refine pk_free_g F rfl rfl (not_f h9c) (fun w _ => run_gtr (F.ev rfl) (F.ev rfl)) rfl ?_; clear F a; intro a F
        refine pk_free F (fun w _ => run_pick_f (F.ev rfl) (not_f h9c) (F.ev rfl)) rfl ?_; clear F a; intro a F
        refine pk_free F (fun w _ => run_move (F.ev rfl)) rfl ?_; clear F a; intro a F
        rcases Bool.eq_false_or_eq_true (decide (3 < Xe4.src)) with hc | hc
        · skip
          have h10b := hc; clear hc
          have h10 : 3 < Xe4.src := of_decide_eq_true h10b
          iterate 4 (refine pk_skip F rfl rfl h10b rfl ?_; clear F a; intro a F)
          refine pk_free F (fun w _ => run_pick_t (F.ev rfl) h10b (F.ev rfl)) rfl ?_; clear F a; intro a F
          refine pk_free F (fun w _ => run_move (F.ev rfl)) rfl ?_; clear F a; intro a F
          iterate 4 (refine pk_skip F rfl rfl rfl rfl ?_; clear F a; intro a F)
          iterate 3 (refine pk_skip_u F rfl rfl rfl ?_; clear F a; intro a F)
          refine pk_skip F rfl rfl rfl rfl ?_; clear F a; intro a F
          refine pk_free F (fun w _ => run_pick_t (F.ev rfl) rfl (F.ev rfl)) rfl ?_; clear F a; intro a F
          refine pk_free F (fun w _ => run_move (F.ev rfl)) rfl ?_; clear F a; intro a F
          iterate 3 (refine pk_skip F rfl rfl rfl rfl ?_; clear F a; intro a F)
          iterate 9 (refine pk_skip_u F rfl rfl rfl ?_; clear F a; intro a F)
          refine pk_skip F rfl rfl rfl rfl ?_; clear F a; intro a F
          refine pk_free F (fun w _ => run_pick_t (F.ev rfl) rfl (F.ev rfl)) rfl ?_; clear F a; intro a F
          refine pk_nil <| q_tn <| w_cond_t F rfl rfl ?_
          refine wp_seq <| w_reg <| rl_run F (run_assign (F.ev rfl)) rfl ?_; clear F a; intro a F
          refine rl_nil <| q_tn <| wp_ret <| q_br ?_
          iterate 2 (refine q_tr ?_)
          refine q_br <| q_tr <| fin1 F rfl rfl ?_
          exact ⟨(M.weaken (.cons _ (List.Sublist.refl _))), false, rfl, (by have hu := u8_b hk1e4; have q0 := slots_no1 hXe4; have q9 := @bl_le; clear F M; unfold SlotAt at q0; grind)⟩
        · skip
          have h11b := hc; clear hc
          have h11 : ¬ (3 < Xe4.src) := of_decide_eq_false h11b
          refine pk_free_g F rfl rfl h11b (fun w _ => run_fieldAddr tok76.k rfl rfl (F.ev rfl)) rfl ?_; clear F a; intro a F
          refine pk_pure_g F rfl rfl h11b (fun w M => run_load1 (agf tok9 rfl) (F.ev rfl) (M.cellL (k := 0) rfl rfl)) rfl ?_; clear F a; intro a F
          refine pk_keep_g F rfl rfl h11b ?_
          refine rl_guard_t F rfl rfl rfl h11b ?_
          refine rl_callS F ent66 rfl rfl (tplain_spec (s := Xe4.v) M (by omega)) ?_; clear F M a; rintro _ w a M ⟨b12, rfl, hb12⟩ F
          refine rl_nil <| ⟨Keep G [.blk b5 [.string (str (Xe4.n)), .int .u8 (Xe4.src), .string (str (Xe4.v))] 76], M.keep (Gle.refl _) (by simp), fun w h => h.mono (Gle.refl _) (by simp), ?_⟩
          refine pk_free_g F rfl rfl h11b (fun w _ => run_not (F.ev rfl)) rfl ?_; clear F a; intro a F
          refine pk_free F (fun w _ => run_pick_f (F.ev rfl) h11b (F.ev rfl)) rfl ?_; clear F a; intro a F
          refine pk_free F (fun w _ => run_move (F.ev rfl)) rfl ?_; clear F a; intro a F
          rcases Bool.eq_false_or_eq_true (!(b12)) with hc | hc
          · skip
            have h13b := hc; clear hc
            have h13 : (b12) = false := (of_not_t h13b)
            have h13c : (b12) = false := (of_not_t h13b)
            iterate 4 (refine pk_skip F rfl rfl (not_t h13c) rfl ?_; clear F a; intro a F)
            iterate 3 (refine pk_skip_u F rfl rfl rfl ?_; clear F a; intro a F)
            refine pk_skip F rfl rfl (not_t h13c) rfl ?_; clear F a; intro a F
            refine pk_free F (fun w _ => run_pick_t (F.ev rfl) (not_t h13c) (F.ev rfl)) rfl ?_; clear F a; intro a F
            refine pk_free F (fun w _ => run_move (F.ev rfl)) rfl ?_; clear F a; intro a F
            iterate 3 (refine pk_skip F rfl rfl rfl rfl ?_; clear F a; intro a F)
            iterate 9 (refine pk_skip_u F rfl rfl rfl ?_; clear F a; intro a F)
            refine pk_skip F rfl rfl rfl rfl ?_; clear F a; intro a F
            refine pk_free F (fun w _ => run_pick_t (F.ev rfl) rfl (F.ev rfl)) rfl ?_; clear F a; intro a F
            refine pk_nil <| q_tn <| w_cond_t F rfl rfl ?_
            refine wp_seq <| w_reg <| rl_run F (run_assign (F.ev rfl)) rfl ?_; clear F a; intro a F
            refine rl_nil <| q_tn <| wp_ret <| q_br ?_
            iterate 2 (refine q_tr ?_)
            refine q_br <| q_tr <| fin1 F rfl rfl ?_
            exact ⟨(M.weaken (.cons _ (List.Sublist.refl _))), false, rfl, (by have hu := u8_b hk1e4; have q0 := slots_no1 hXe4; have q9 := @bl_le; clear F M; unfold SlotAt at q0; grind)⟩
          · skip
            have h14b := hc; clear hc
            have h14 : (b12) = true := (of_not_f h14b)
            have h14c : (b12) = true := (of_not_f h14b)
            refine pk_free_g F rfl rfl (not_f h14c) (fun w _ => run_fieldAddr tok76.k rfl rfl (F.ev rfl)) rfl ?_; clear F a; intro a F
            refine pk_pure_g F rfl rfl (not_f h14c) (fun w M => run_load1 (agf tok5 rfl) (F.ev rfl) (M.cellL (k := 0) rfl rfl)) rfl ?_; clear F a; intro a F
            refine pk_free_g F rfl rfl (not_f h14c) (fun w _ => run_gtr (F.ev rfl) (F.ev rfl)) rfl ?_; clear F a; intro a F
            refine pk_free_g F rfl rfl (not_f h14c) (fun w _ => run_move (F.ev rfl)) rfl ?_; clear F a; intro a F
            rcases Bool.eq_false_or_eq_true (decide (0 < Xe4.src)) with hc | hc
            · skip
              have h15b := hc; clear hc
              have h15 : 0 < Xe4.src := of_decide_eq_true h15b
              refine pk_free_g F rfl rfl h15b (fun w _ => run_fieldAddr tok76.k rfl rfl (F.ev rfl)) rfl ?_; clear F a; intro a F
              refine pk_pure_g F rfl rfl h15b (fun w M => run_load1 (agf tok9 rfl) (F.ev rfl) (M.cellL (k := 0) rfl rfl)) rfl ?_; clear F a; intro a F
              refine pk_free_g F rfl rfl h15b (fun w _ => run_strNe (F.ev rfl) (F.ev rfl)) rfl ?_; clear F a; intro a F
              refine pk_free_g F rfl rfl (not_f h14c) (fun w _ => run_pick_t (F.ev rfl) h15b (F.ev rfl)) rfl ?_; clear F a; intro a F
              refine pk_free F (fun w _ => run_pick_f (F.ev rfl) (not_f h14c) (F.ev rfl)) rfl ?_; clear F a; intro a F
              refine pk_free F (fun w _ => run_move (F.ev rfl)) rfl ?_; clear F a; intro a F
              rcases Bool.eq_false_or_eq_true (!(decide (Xe4.v = ([] : List UInt8)))) with hc | hc
              · skip
                have h16b := hc; clear hc
                have h16 : ¬ (Xe4.v = ([] : List UInt8)) := of_decide_eq_false (of_not_t h16b)
                have h16c : (decide (Xe4.v = ([] : List UInt8))) = false := (of_not_t h16b)
                iterate 3 (refine pk_skip F rfl rfl (not_t h16c) rfl ?_; clear F a; intro a F)
                iterate 9 (refine pk_skip_u F rfl rfl rfl ?_; clear F a; intro a F)
                refine pk_skip F rfl rfl (not_t h16c) rfl ?_; clear F a; intro a F
                refine pk_free F (fun w _ => run_pick_t (F.ev rfl) (not_t h16c) (F.ev rfl)) rfl ?_; clear F a; intro a F
                refine pk_nil <| q_tn <| w_cond_t F rfl rfl ?_
                refine wp_seq <| w_reg <| rl_run F (run_assign (F.ev rfl)) rfl ?_; clear F a; intro a F
                refine rl_nil <| q_tn <| wp_ret <| q_br ?_
                iterate 2 (refine q_tr ?_)
                refine q_br <| q_tr <| fin1 F rfl rfl ?_
                exact ⟨(M.weaken (.cons _ (List.Sublist.refl _))), false, rfl, (by have hu := u8_b hk1e4; have q0 := slots_no1 hXe4; have q9 := @bl_le; clear F M; unfold SlotAt at q0; grind)⟩
              · skip
                have h17b := hc; clear hc
                have h17 : Xe4.v = ([] : List UInt8) := of_decide_eq_true (of_not_f h17b)
                have h17c : (decide (Xe4.v = ([] : List UInt8))) = true := (of_not_f h17b)
                refine pk_free_g F rfl rfl (not_f h17c) (fun w _ => run_move (F.ev rfl)) rfl ?_; clear F a; intro a F
                refine pk_free_g F rfl rfl (not_f h17c) (fun w _ => run_gtr (F.ev rfl) (F.ev rfl)) rfl ?_; clear F a; intro a F
                refine pk_free_g F rfl rfl (not_f h17c) (fun w _ => run_move (F.ev rfl)) rfl ?_; clear F a; intro a F
                rcases Bool.eq_false_or_eq_true (decide (0 < ((i : Nat) : Int))) with hc | hc
                · skip
                  have h18b := hc; clear hc
                  have h18 : 0 < ((i : Nat) : Int) := of_decide_eq_true h18b
                  refine pk_free_g F rfl rfl h18b (fun w _ => run_fieldAddr tok76.k rfl rfl (F.ev rfl)) rfl ?_; clear F a; intro a F
                  refine pk_pure_g F rfl rfl h18b (fun w M => run_load1 (agf tok9 rfl) (F.ev rfl) (M.cellL (k := 0) rfl rfl)) rfl ?_; clear F a; intro a F
                  iterate 2 (refine pk_free_g F rfl rfl h18b (fun w _ => run_move (F.ev rfl)) rfl ?_; clear F a; intro a F)
                  refine pk_free_g F rfl rfl h18b (fun w _ => run_subi (F.ev rfl) (F.ev rfl) (in_i64 (by omega) (by omega))) rfl ?_; clear F a; intro a F
                  have hs19 : ((((i : Nat) : Int)) - 1 : Int) = ((i - 1 : Nat) : Int) := by omega
                  rw [hs19] at F
                  obtain ⟨Xe20, hXe20⟩ := get_of_lt (xs := xs) (i := i - 1) (by omega)
                  obtain ⟨be20, oe20, _, Ie20, _, Ae20, ⟨rfl, hn1e20, hk1e20, hv1e20⟩⟩ := S.at hXe20
                  refine pk_free_g F rfl rfl h18b (fun w _ => run_indexI tok43.k tok76 (F.ev rfl) (F.ev rfl) (by omega) Ie20) rfl ?_; clear F a; intro a F
                  refine pk_free_g F rfl rfl h18b (fun w _ => run_fieldAddr tok76.k rfl rfl (F.ev rfl)) rfl ?_; clear F a; intro a F
                  refine pk_pure_g F rfl rfl h18b (fun w M => run_load1 (agf tok9 rfl) (F.ev rfl) (M.cellA Ae20 0 rfl rfl)) rfl ?_; clear F a; intro a F
                  refine pk_free_g F rfl rfl h18b (fun w _ => run_strLeq (F.ev rfl) (F.ev rfl)) rfl ?_; clear F a; intro a F
                  refine pk_free_g F rfl rfl (not_f h17c) (fun w _ => run_pick_t (F.ev rfl) h18b (F.ev rfl)) rfl ?_; clear F a; intro a F
                  refine pk_free F (fun w _ => run_pick_f (F.ev rfl) (not_f h17c) (F.ev rfl)) rfl ?_; clear F a; intro a F
                  refine pk_nil <| q_tn <| w_cond F rfl ?_ ?_
                  · intro hc
                    have h21b := hc; clear hc
                    have h21 : (Op.bytesLess Xe4.n Xe20.n || Xe4.n == Xe20.n) = true := h21b
                    refine wp_seq <| w_reg <| rl_run F (run_assign (F.ev rfl)) rfl ?_; clear F a; intro a F
                    refine rl_nil <| q_tn <| wp_ret <| q_br ?_
                    iterate 2 (refine q_tr ?_)
                    refine q_br <| q_tr <| fin1 F rfl rfl ?_
                    exact ⟨(M.weaken (.cons _ (List.Sublist.refl _))), false, rfl, (by have hu := u8_b hk1e4; have q0 := slots_no1 hXe4; have q1 := slots_no2 hXe4 hXe20; have q9 := @bl_le; clear F M; unfold SlotAt at q0; grind)⟩
                  · intro hc
                    have h22b := hc; clear hc
                    have h22 : (Op.bytesLess Xe4.n Xe20.n || Xe4.n == Xe20.n) = false := h22b
                    refine wp_skip <| q_bn <| q_tn <| w_reg <| rl_run F (run_addi (F.ev rfl) (F.ev rfl) (in_i64 (by omega) (by omega))) rfl ?_; clear F a; intro a F
                    refine rl_run F (run_move (F.ev rfl)) rfl ?_; clear F a; intro a F
                    refine rl_nil <| q_tn ?_
                    exact ⟨_, by omega, i + 1, rfl, F.to ⟨rfl, rfl, rfl, rfl, trivial⟩, (M.weaken (.cons _ (List.Sublist.refl _))), by omega, hS.step hXe4 (by have hu := u8_b hk1e4; clear F M; unfold SlotAt; grind) (fun y h_ hy => by rw [hXe20] at hy; simp only [Option.some.injEq] at hy; subst hy; clear F M; have q99 := @bl_le; grind)⟩
                · skip
                  have h23b := hc; clear hc
                  have h23 : ¬ (0 < ((i : Nat) : Int)) := of_decide_eq_false h23b
                  iterate 9 (refine pk_skip F rfl rfl h23b rfl ?_; clear F a; intro a F)
                  refine pk_free_g F rfl rfl (not_f h17c) (fun w _ => run_pick_f (F.ev rfl) h23b (F.ev rfl)) rfl ?_; clear F a; intro a F
                  refine pk_free F (fun w _ => run_pick_f (F.ev rfl) (not_f h17c) (F.ev rfl)) rfl ?_; clear F a; intro a F
                  refine pk_nil <| q_tn <| w_cond_f F rfl rfl ?_
                  refine wp_skip <| q_bn <| q_tn <| w_reg <| rl_run F (run_addi (F.ev rfl) (F.ev rfl) (in_i64 (by omega) (by omega))) rfl ?_; clear F a; intro a F
                  refine rl_run F (run_move (F.ev rfl)) rfl ?_; clear F a; intro a F
                  refine rl_nil <| q_tn ?_
                  exact ⟨_, by omega, i + 1, rfl, F.to ⟨rfl, rfl, rfl, rfl, trivial⟩, (M.weaken (.cons _ (List.Sublist.refl _))), by omega, hS.step hXe4 (by have hu := u8_b hk1e4; clear F M; unfold SlotAt; grind) (fun y h_ => by omega)⟩
            · skip
              have h24b := hc; clear hc
              have h24 : ¬ (0 < Xe4.src) := of_decide_eq_false h24b
              iterate 3 (refine pk_skip F rfl rfl h24b rfl ?_; clear F a; intro a F)
              refine pk_free_g F rfl rfl (not_f h14c) (fun w _ => run_pick_f (F.ev rfl) h24b (F.ev rfl)) rfl ?_; clear F a; intro a F
              refine pk_free F (fun w _ => run_pick_f (F.ev rfl) (not_f h14c) (F.ev rfl)) rfl ?_; clear F a; intro a F
              refine pk_free F (fun w _ => run_move (F.ev rfl)) rfl ?_; clear F a; intro a F
              refine pk_free_g F rfl rfl rfl (fun w _ => run_move (F.ev rfl)) rfl ?_; clear F a; intro a F
              refine pk_free_g F rfl rfl rfl (fun w _ => run_gtr (F.ev rfl) (F.ev rfl)) rfl ?_; clear F a; intro a F
              refine pk_free_g F rfl rfl rfl (fun w _ => run_move (F.ev rfl)) rfl ?_; clear F a; intro a F
              rcases Bool.eq_false_or_eq_true (decide (0 < ((i : Nat) : Int))) with hc | hc
              · skip
                have h25b := hc; clear hc
                have h25 : 0 < ((i : Nat) : Int) := of_decide_eq_true h25b
                refine pk_free_g F rfl rfl h25b (fun w _ => run_fieldAddr tok76.k rfl rfl (F.ev rfl)) rfl ?_; clear F a; intro a F
                refine pk_pure_g F rfl rfl h25b (fun w M => run_load1 (agf tok9 rfl) (F.ev rfl) (M.cellL (k := 0) rfl rfl)) rfl ?_; clear F a; intro a F
                iterate 2 (refine pk_free_g F rfl rfl h25b (fun w _ => run_move (F.ev rfl)) rfl ?_; clear F a; intro a F)
                refine pk_free_g F rfl rfl h25b (fun w _ => run_subi (F.ev rfl) (F.ev rfl) (in_i64 (by omega) (by omega))) rfl ?_; clear F a; intro a F
                have hs26 : ((((i : Nat) : Int)) - 1 : Int) = ((i - 1 : Nat) : Int) := by omega
                rw [hs26] at F
                obtain ⟨Xe27, hXe27⟩ := get_of_lt (xs := xs) (i := i - 1) (by omega)
                obtain ⟨be27, oe27, _, Ie27, _, Ae27, ⟨rfl, hn1e27, hk1e27, hv1e27⟩⟩ := S.at hXe27
                refine pk_free_g F rfl rfl h25b (fun w _ => run_indexI tok43.k tok76 (F.ev rfl) (F.ev rfl) (by omega) Ie27) rfl ?_; clear F a; intro a F
                refine pk_free_g F rfl rfl h25b (fun w _ => run_fieldAddr tok76.k rfl rfl (F.ev rfl)) rfl ?_; clear F a; intro a F
                refine pk_pure_g F rfl rfl h25b (fun w M => run_load1 (agf tok9 rfl) (F.ev rfl) (M.cellA Ae27 0 rfl rfl)) rfl ?_; clear F a; intro a F
                refine pk_free_g F rfl rfl h25b (fun w _ => run_strLeq (F.ev rfl) (F.ev rfl)) rfl ?_; clear F a; intro a F
                refine pk_free_g F rfl rfl rfl (fun w _ => run_pick_t (F.ev rfl) h25b (F.ev rfl)) rfl ?_; clear F a; intro a F
                refine pk_free F (fun w _ => run_pick_f (F.ev rfl) rfl (F.ev rfl)) rfl ?_; clear F a; intro a F
                refine pk_nil <| q_tn <| w_cond F rfl ?_ ?_
                · intro hc
                  have h28b := hc; clear hc
                  have h28 : (Op.bytesLess Xe4.n Xe27.n || Xe4.n == Xe27.n) = true := h28b
                  refine wp_seq <| w_reg <| rl_run F (run_assign (F.ev rfl)) rfl ?_; clear F a; intro a F
                  refine rl_nil <| q_tn <| wp_ret <| q_br ?_
                  iterate 2 (refine q_tr ?_)
                  refine q_br <| q_tr <| fin1 F rfl rfl ?_
                  exact ⟨(M.weaken (.cons _ (List.Sublist.refl _))), false, rfl, (by have hu := u8_b hk1e4; have q0 := slots_no1 hXe4; have q1 := slots_no2 hXe4 hXe27; have q9 := @bl_le; clear F M; unfold SlotAt at q0; grind)⟩
                · intro hc
                  have h29b := hc; clear hc
                  have h29 : (Op.bytesLess Xe4.n Xe27.n || Xe4.n == Xe27.n) = false := h29b
                  refine wp_skip <| q_bn <| q_tn <| w_reg <| rl_run F (run_addi (F.ev rfl) (F.ev rfl) (in_i64 (by omega) (by omega))) rfl ?_; clear F a; intro a F
                  refine rl_run F (run_move (F.ev rfl)) rfl ?_; clear F a; intro a F
                  refine rl_nil <| q_tn ?_
                  exact ⟨_, by omega, i + 1, rfl, F.to ⟨rfl, rfl, rfl, rfl, trivial⟩, (M.weaken (.cons _ (List.Sublist.refl _))), by omega, hS.step hXe4 (by have hu := u8_b hk1e4; clear F M; unfold SlotAt; grind) (fun y h_ hy => by rw [hXe27] at hy; simp only [Option.some.injEq] at hy; subst hy; clear F M; have q99 := @bl_le; grind)⟩
              · skip
                have h30b := hc; clear hc
                have h30 : ¬ (0 < ((i : Nat) : Int)) := of_decide_eq_false h30b
                iterate 9 (refine pk_skip F rfl rfl h30b rfl ?_; clear F a; intro a F)
                refine pk_free_g F rfl rfl rfl (fun w _ => run_pick_f (F.ev rfl) h30b (F.ev rfl)) rfl ?_; clear F a; intro a F
                refine pk_free F (fun w _ => run_pick_f (F.ev rfl) rfl (F.ev rfl)) rfl ?_; clear F a; intro a F
                refine pk_nil <| q_tn <| w_cond_f F rfl rfl ?_
                refine wp_skip <| q_bn <| q_tn <| w_reg <| rl_run F (run_addi (F.ev rfl) (F.ev rfl) (in_i64 (by omega) (by omega))) rfl ?_; clear F a; intro a F
                refine rl_run F (run_move (F.ev rfl)) rfl ?_; clear F a; intro a F
                refine rl_nil <| q_tn ?_
                exact ⟨_, by omega, i + 1, rfl, F.to ⟨rfl, rfl, rfl, rfl, trivial⟩, (M.weaken (.cons _ (List.Sublist.refl _))), by omega, hS.step hXe4 (by have hu := u8_b hk1e4; clear F M; unfold SlotAt; grind) (fun y h_ => by omega)⟩
    · intro hc
      have h31b := hc; clear hc
      have h31 : ¬ (((i : Nat) : Int) < ((xs.length : Nat) : Int)) := of_decide_eq_false h31b
      refine wp_exit ?_
      iterate 2 (refine q_te ?_)
      refine q_bh <| q_tn <| wp_seq <| w_reg <| rl_run F (run_assign (F.ev rfl)) rfl ?_; clear F a; intro a F
      refine rl_nil <| q_tn <| wp_ret <| fin1 F rfl rfl ?_
      exact ⟨M, true, rfl, ⟨fun _ => hS.done (by omega) (by omega), fun _ => rfl⟩⟩
theorem talone_spec {w0 w : World} {G : Ghost} {L : List Res} (M : Mem w0 G L w) {rk : Rd PT} {x : PT} {ta : Option Addr} {tc : Nat} {ka : Option Addr} {kc : Nat} (hk : inKind .u8 x.kind) (hl : (x.tag.length ≤ 9223372036854775807 ∧ x.key.length ≤ 9223372036854775807 ∧ x.text.length ≤ 9223372036854775807)) (SA : RdSl rdSlot 3 G (.slice ta x.as.length tc) x.as) (SK : RdSl rk 6 G (.slice ka x.kids.length kc) x.kids) {nb no : Nat} (A : At G nb no [.int .u8 (x.kind), .string (str (x.tag)), .string (str (x.key)), .slice (ta) (x.as.length) (tc), .string (str (x.text)), .slice (ka) (x.kids.length) (kc)]) : Calls Tryz.prog 95 #[.pointer (some ⟨nb, no, none⟩)] w (RetS w0 G L fun v => ∃ bb : Bool, v = .bool bb ∧ (bb = true ↔ AloneP x)) := by
  refine calls_start (vs := [_]) Tryz.func95 rfl (n := 91) rfl rfl ?_
  intro a F
  refine wp_seq <| w_reg <| rl_run F (run_assign (F.ev rfl)) rfl ?_; clear F a; intro a F
  refine rl_nil <| q_tn <| wp_seq <| w_reg <| rl_run F (run_move (F.ev rfl)) rfl ?_; clear F a; intro a F
  refine rl_run F (run_nilCheck (F.ev rfl)) rfl ?_; clear F a; intro a F
  refine rl_run F (run_loadA tok46 rfl (F.ev rfl) (cs := [.int .u8 (x.kind), .string (str (x.tag)), .string (str (x.key)), .slice (ta) (x.as.length) (tc), .string (str (x.text)), .slice (ka) (x.kids.length) (kc)]) rfl (M.cellsA A 0 (by omega) rfl)) rfl ?_; clear F a; intro a F
  refine rl_alloc F M tok46 rfl rfl ?_; clear F M a; intro b1 w a M F
  refine rl_storeA F M tok46 (k := 0) rfl rfl rfl (us := [.int .u8 (x.kind), .string (str (x.tag)), .string (str (x.key)), .slice (ta) (x.as.length) (tc), .string (str (x.text)), .slice (ka) (x.kids.length) (kc)]) rfl rfl (by simp [Value.oneCell']) (by simp) ?_; clear F M a; intro w a M F
  change Mem w0 G (.blk b1 [.int .u8 (x.kind), .string (str (x.tag)), .string (str (x.key)), .slice (ta) (x.as.length) (tc), .string (str (x.text)), .slice (ka) (x.kids.length) (kc)] 46 :: L) _ at M
  refine rl_nil <| q_tn ?_
  iterate 2 (refine wp_seq ?_)
  refine w_reg <| rl_run F (run_move (F.ev rfl)) rfl ?_; clear F a; intro a F
  refine rl_run F (run_nilCheck (F.ev rfl)) rfl ?_; clear F a; intro a F
  refine rl_run F (run_fieldAddr tok46.k rfl rfl (F.ev rfl)) rfl ?_; clear F a; intro a F
  refine rl_run F (run_load1 (agf tok5 rfl) (F.ev rfl) (M.cellA A 0 rfl rfl)) rfl ?_; clear F a; intro a F
  refine rl_nil <| q_tn <| wp_block <| wp_seq <| wp_block <| wp_seq <| wp_block <| wp_seq <| wp_block <| wp_seq <| wp_block <| wp_seq <| wp_block ?_
  iterate 3 (refine wp_seq ?_)
  refine w_reg <| rl_run F (run_eqi (F.ev rfl) (F.ev rfl)) rfl ?_; clear F a; intro a F
  refine rl_run F (run_assign (F.ev rfl)) rfl ?_; clear F a; intro a F
  refine rl_nil <| q_tn <| w_cond F rfl ?_ ?_
  · intro hc
    have h3b := hc; clear hc
    have h3 : x.kind = 1 := of_decide_eq_true h3b
    refine wp_exit ?_
    iterate 2 (refine q_te ?_)
    refine q_bh <| q_tn ?_
    iterate 2 (refine wp_seq ?_)
    refine w_reg <| rl_run F (run_move (F.ev rfl)) rfl ?_; clear F a; intro a F
    refine rl_run F (run_nilCheck (F.ev rfl)) rfl ?_; clear F a; intro a F
    refine rl_run F (run_fieldAddr tok46.k rfl rfl (F.ev rfl)) rfl ?_; clear F a; intro a F
    refine rl_run F (run_load1 (agf tok9 rfl) (F.ev rfl) (M.cellA A 2 rfl rfl)) rfl ?_; clear F a; intro a F
    refine rl_run F (run_strNe (F.ev rfl) (F.ev rfl)) rfl ?_; clear F a; intro a F
    refine rl_run F (run_move (F.ev rfl)) rfl ?_; clear F a; intro a F
    rcases Bool.eq_false_or_eq_true (!(decide (x.key = ([] : List UInt8)))) with hc | hc
    · skip
      have h4b := hc; clear hc
      have h4 : ¬ (x.key = ([] : List UInt8)) := of_decide_eq_false (of_not_t h4b)
      have h4c : (decide (x.key = ([] : List UInt8))) = false := (of_not_t h4b)
      refine rl_guard_t F rfl rfl rfl (not_t h4c) ?_
      refine rl_run F (run_move (F.ev rfl)) rfl ?_; clear F a; intro a F
      refine rl_guard_t F rfl rfl rfl (not_t h4c) ?_
      refine rl_run F (run_nilCheck (F.ev rfl)) rfl ?_; clear F a; intro a F
      refine rl_guard_t F rfl rfl rfl (not_t h4c) ?_
      refine rl_run F (run_fieldAddr tok46.k rfl rfl (F.ev rfl)) rfl ?_; clear F a; intro a F
      refine rl_guard_t F rfl rfl rfl (not_t h4c) ?_
      refine rl_run F (run_load1 (agf tok9 rfl) (F.ev rfl) (M.cellA A 2 rfl rfl)) rfl ?_; clear F a; intro a F
      refine rl_guard_t F rfl rfl rfl (not_t h4c) ?_
      refine rl_callS F ent69 rfl rfl (tnamed_spec (s := x.key) M (by omega)) ?_; clear F M a; rintro _ w a M ⟨b5, rfl, hb5⟩ F
      refine rl_guard_t F rfl rfl rfl (not_t h4c) ?_
      refine rl_run F (run_not (F.ev rfl)) rfl ?_; clear F a; intro a F
      refine rl_run F (run_pick_t (F.ev rfl) (not_t h4c) (F.ev rfl)) rfl ?_; clear F a; intro a F
      refine rl_run F (run_move (F.ev rfl)) rfl ?_; clear F a; intro a F
      rcases Bool.eq_false_or_eq_true (!(b5)) with hc | hc
      · skip
        have h6b := hc; clear hc
        have h6 : (b5) = false := (of_not_t h6b)
        have h6c : (b5) = false := (of_not_t h6b)
        iterate 6 (refine rl_guard_f F rfl rfl rfl (not_t h6c) ?_; clear F a; intro a F)
        refine rl_run F (run_pick_t (F.ev rfl) (not_t h6c) (F.ev rfl)) rfl ?_; clear F a; intro a F
        refine rl_nil <| q_tn <| w_cond_t F rfl rfl ?_
        refine wp_seq <| w_reg <| rl_run F (run_assign (F.ev rfl)) rfl ?_; clear F a; intro a F
        refine rl_nil <| q_tn <| wp_ret <| q_tr <| q_br <| q_tr <| q_br <| q_tr <| q_br <| q_tr <| q_br <| q_tr <| q_br <| q_tr <| fin1 F rfl rfl ?_
        exact ⟨(M.weaken (.cons _ (List.Sublist.refl _))), false, rfl, (by clear F M; unfold AloneP; grind)⟩
      · skip
        have h7b := hc; clear hc
        have h7 : (b5) = true := (of_not_f h7b)
        have h7c : (b5) = true := (of_not_f h7b)
        refine rl_guard_t F rfl rfl rfl (not_f h7c) ?_
        refine rl_run F (run_move (F.ev rfl)) rfl ?_; clear F a; intro a F
        refine rl_guard_t F rfl rfl rfl (not_f h7c) ?_
        refine rl_run F (run_nilCheck (F.ev rfl)) rfl ?_; clear F a; intro a F
        refine rl_guard_t F rfl rfl rfl (not_f h7c) ?_
        refine rl_run F (run_fieldAddr tok46.k rfl rfl (F.ev rfl)) rfl ?_; clear F a; intro a F
        refine rl_guard_t F rfl rfl rfl (not_f h7c) ?_
        refine rl_run F (run_load1 (agf tok44 rfl) (F.ev rfl) (M.cellA A 5 rfl rfl)) rfl ?_; clear F a; intro a F
        refine rl_guard_t F rfl rfl rfl (not_f h7c) ?_
        refine rl_run F (run_lenSl tok44.k (F.ev rfl)) rfl ?_; clear F a; intro a F
        refine rl_guard_t F rfl rfl rfl (not_f h7c) ?_
        refine rl_run F (run_gtr (F.ev rfl) (F.ev rfl)) rfl ?_; clear F a; intro a F
        refine rl_run F (run_pick_f (F.ev rfl) (not_f h7c) (F.ev rfl)) rfl ?_; clear F a; intro a F
        refine rl_nil <| q_tn <| w_cond F rfl ?_ ?_
        · intro hc
          have h8b := hc; clear hc
          have h8 : 16 < ((x.kids.length : Nat) : Int) := of_decide_eq_true h8b
          refine wp_seq <| w_reg <| rl_run F (run_assign (F.ev rfl)) rfl ?_; clear F a; intro a F
          refine rl_nil <| q_tn <| wp_ret <| q_tr <| q_br <| q_tr <| q_br <| q_tr <| q_br <| q_tr <| q_br <| q_tr <| q_br <| q_tr <| fin1 F rfl rfl ?_
          exact ⟨(M.weaken (.cons _ (List.Sublist.refl _))), false, rfl, (by clear F M; unfold AloneP; grind)⟩
        · intro hc
          have h9b := hc; clear hc
          have h9 : ¬ (16 < ((x.kids.length : Nat) : Int)) := of_decide_eq_false h9b
          refine wp_skip <| q_tn <| w_reg <| rl_run F (run_fieldAddr tok46.k rfl rfl (F.ev rfl)) rfl ?_; clear F a; intro a F
          refine rl_store1 F M tok9 rfl (k := 0) rfl rfl rfl rfl rfl ?_; clear F M a; intro w a M F
          refine rl_run F (run_fieldAddr tok46.k rfl rfl (F.ev rfl)) rfl ?_; clear F a; intro a F
          refine rl_store1 F M tok44 rfl (k := 0) rfl rfl rfl rfl rfl ?_; clear F M a; intro w a M F
          refine rl_nil <| q_bn <| q_tn ?_
          iterate 3 (refine wp_seq ?_)
          refine w_reg <| rl_run F (run_move (F.ev rfl)) rfl ?_; clear F a; intro a F
          refine rl_run F (run_nilCheck (F.ev rfl)) rfl ?_; clear F a; intro a F
          refine rl_run F (run_fieldAddr tok46.k rfl rfl (F.ev rfl)) rfl ?_; clear F a; intro a F
          refine rl_run F (run_load1 (agf tok9 rfl) (F.ev rfl) (M.cellA A 1 rfl rfl)) rfl ?_; clear F a; intro a F
          refine rl_callS F ent69 rfl rfl (tnamed_spec (s := x.tag) M (by omega)) ?_; clear F M a; rintro _ w a M ⟨b10, rfl, hb10⟩ F
          refine rl_run F (run_not (F.ev rfl)) rfl ?_; clear F a; intro a F
          refine rl_run F (run_move (F.ev rfl)) rfl ?_; clear F a; intro a F
          rcases Bool.eq_false_or_eq_true (!(b10)) with hc | hc
          · skip
            have h11b := hc; clear hc
            have h11 : (b10) = false := (of_not_t h11b)
            have h11c : (b10) = false := (of_not_t h11b)
            iterate 6 (refine rl_guard_f F rfl rfl rfl (not_t h11c) ?_; clear F a; intro a F)
            refine rl_run F (run_pick_t (F.ev rfl) (not_t h11c) (F.ev rfl)) rfl ?_; clear F a; intro a F
            refine rl_nil <| q_tn <| w_cond_t F rfl rfl ?_
            refine wp_seq <| w_reg <| rl_run F (run_assign (F.ev rfl)) rfl ?_; clear F a; intro a F
            refine rl_nil <| q_tn <| wp_ret ?_
            iterate 2 (refine q_tr ?_)
            refine q_br <| q_tr <| q_br <| q_tr <| q_br <| q_tr <| q_br <| q_tr <| fin1 F rfl rfl ?_
            exact ⟨(M.weaken (.cons _ (List.Sublist.refl _))), false, rfl, (by clear F M; unfold AloneP; grind)⟩
          · skip
            have h12b := hc; clear hc
            have h12 : (b10) = true := (of_not_f h12b)
            have h12c : (b10) = true := (of_not_f h12b)
            refine rl_guard_t F rfl rfl rfl (not_f h12c) ?_
            refine rl_run F (run_move (F.ev rfl)) rfl ?_; clear F a; intro a F
            refine rl_guard_t F rfl rfl rfl (not_f h12c) ?_
            refine rl_run F (run_nilCheck (F.ev rfl)) rfl ?_; clear F a; intro a F
            refine rl_guard_t F rfl rfl rfl (not_f h12c) ?_
            refine rl_run F (run_fieldAddr tok46.k rfl rfl (F.ev rfl)) rfl ?_; clear F a; intro a F
            refine rl_guard_t F rfl rfl rfl (not_f h12c) ?_
            refine rl_run F (run_load1 (agf tok43 rfl) (F.ev rfl) (M.cellA A 3 rfl rfl)) rfl ?_; clear F a; intro a F
            refine rl_guard_t F rfl rfl rfl (not_f h12c) ?_
            refine rl_callS F ent114 rfl rfl (tslots_spec (xs := x.as) M SA (by have := SA.bound; omega)) ?_; clear F M a; rintro _ w a M ⟨b13, rfl, hb13⟩ F
            refine rl_guard_t F rfl rfl rfl (not_f h12c) ?_
            refine rl_run F (run_not (F.ev rfl)) rfl ?_; clear F a; intro a F
            refine rl_run F (run_pick_f (F.ev rfl) (not_f h12c) (F.ev rfl)) rfl ?_; clear F a; intro a F
            refine rl_nil <| q_tn <| w_cond F rfl ?_ ?_
            · intro hc
              have h14b := hc; clear hc
              have h14 : (b13) = false := (of_not_t h14b)
              have h14c : (b13) = false := (of_not_t h14b)
              refine wp_seq <| w_reg <| rl_run F (run_assign (F.ev rfl)) rfl ?_; clear F a; intro a F
              refine rl_nil <| q_tn <| wp_ret ?_
              iterate 2 (refine q_tr ?_)
              refine q_br <| q_tr <| q_br <| q_tr <| q_br <| q_tr <| q_br <| q_tr <| fin1 F rfl rfl ?_
              exact ⟨(M.weaken (.cons _ (List.Sublist.refl _))), false, rfl, (by clear F M; unfold AloneP; grind)⟩
            · intro hc
              have h15b := hc; clear hc
              have h15 : (b13) = true := (of_not_f h15b)
              have h15c : (b13) = true := (of_not_f h15b)
              refine wp_skip <| q_tn <| w_reg <| rl_run F (run_fieldAddr tok46.k rfl rfl (F.ev rfl)) rfl ?_; clear F a; intro a F
              refine rl_store1 F M tok9 rfl (k := 0) rfl rfl rfl rfl rfl ?_; clear F M a; intro w a M F
              refine rl_run F (run_fieldAddr tok46.k rfl rfl (F.ev rfl)) rfl ?_; clear F a; intro a F
              refine rl_store1 F M tok43 rfl (k := 0) rfl rfl rfl rfl rfl ?_; clear F M a; intro w a M F
              refine rl_nil <| q_tn <| wp_exit <| q_be rfl ?_
              refine q_te <| q_be rfl ?_
              refine q_te <| q_be rfl ?_
              refine q_te <| q_bh <| q_tn <| wp_seq <| w_reg <| rl_run F (run_fieldAddr tok46.k rfl rfl (F.ev rfl)) rfl ?_; clear F a; intro a F
              refine rl_run F (run_load1 (agf tok9 rfl) (F.ev rfl) (M.cellL (k := 0) rfl rfl)) rfl ?_; clear F a; intro a F
              refine rl_run F (run_strEq (F.ev rfl) (F.ev rfl)) rfl ?_; clear F a; intro a F
              refine rl_run F (run_move (F.ev rfl)) rfl ?_; clear F a; intro a F
              refine rl_guard_t F rfl rfl rfl (by decide) ?_
              refine rl_run F (run_fieldAddr tok46.k rfl rfl (F.ev rfl)) rfl ?_; clear F a; intro a F
              refine rl_guard_t F rfl rfl rfl (by decide) ?_
              refine rl_run F (run_load1 (agf tok9 rfl) (F.ev rfl) (M.cellL (k := 0) rfl rfl)) rfl ?_; clear F a; intro a F
              refine rl_guard_t F rfl rfl rfl (by decide) ?_
              refine rl_run F (run_strEq (F.ev rfl) (F.ev rfl)) rfl ?_; clear F a; intro a F
              refine rl_run F (run_pick_t (F.ev rfl) (by decide) (F.ev rfl)) rfl ?_; clear F a; intro a F
              refine rl_run F (run_move (F.ev rfl)) rfl ?_; clear F a; intro a F
              refine rl_guard_t F rfl rfl rfl (by decide) ?_
              refine rl_run F (run_fieldAddr tok46.k rfl rfl (F.ev rfl)) rfl ?_; clear F a; intro a F
              refine rl_guard_t F rfl rfl rfl (by decide) ?_
              refine rl_run F (run_load1 (agf tok9 rfl) (F.ev rfl) (M.cellL (k := 0) rfl rfl)) rfl ?_; clear F a; intro a F
              refine rl_guard_t F rfl rfl rfl (by decide) ?_
              refine rl_run F (run_strEq (F.ev rfl) (F.ev rfl)) rfl ?_; clear F a; intro a F
              refine rl_run F (run_pick_t (F.ev rfl) (by decide) (F.ev rfl)) rfl ?_; clear F a; intro a F
              refine rl_run F (run_move (F.ev rfl)) rfl ?_; clear F a; intro a F
              rcases Bool.eq_false_or_eq_true (decide (x.text = ([] : List UInt8))) with hc | hc
              · skip
                have h16b := hc; clear hc
                have h16 : x.text = ([] : List UInt8) := of_decide_eq_true h16b
                refine rl_guard_t F rfl rfl rfl h16b ?_
                refine rl_run F (run_fieldAddr tok46.k rfl rfl (F.ev rfl)) rfl ?_; clear F a; intro a F
                refine rl_guard_t F rfl rfl rfl h16b ?_
                refine rl_run F (run_load1 (agf tok43 rfl) (F.ev rfl) (M.cellL (k := 0) rfl rfl)) rfl ?_; clear F a; intro a F
                refine rl_guard_t F rfl rfl rfl h16b ?_
                refine rl_run F (run_lenSl tok43.k (F.ev rfl)) rfl ?_; clear F a; intro a F
                refine rl_guard_t F rfl rfl rfl h16b ?_
                refine rl_run F (run_eqi (F.ev rfl) (F.ev rfl)) rfl ?_; clear F a; intro a F
                refine rl_run F (run_pick_t (F.ev rfl) h16b (F.ev rfl)) rfl ?_; clear F a; intro a F
                refine rl_run F (run_move (F.ev rfl)) rfl ?_; clear F a; intro a F
                refine rl_guard_t F rfl rfl rfl (decide_eq_true (by decide)) ?_
                refine rl_run F (run_fieldAddr tok46.k rfl rfl (F.ev rfl)) rfl ?_; clear F a; intro a F
                refine rl_guard_t F rfl rfl rfl (decide_eq_true (by decide)) ?_
                refine rl_run F (run_load1 (agf tok44 rfl) (F.ev rfl) (M.cellL (k := 0) rfl rfl)) rfl ?_; clear F a; intro a F
                refine rl_guard_t F rfl rfl rfl (decide_eq_true (by decide)) ?_
                refine rl_run F (run_lenSl tok44.k (F.ev rfl)) rfl ?_; clear F a; intro a F
                refine rl_guard_t F rfl rfl rfl (decide_eq_true (by decide)) ?_
                refine rl_run F (run_eqi (F.ev rfl) (F.ev rfl)) rfl ?_; clear F a; intro a F
                refine rl_run F (run_pick_t (F.ev rfl) (decide_eq_true (by decide)) (F.ev rfl)) rfl ?_; clear F a; intro a F
                refine rl_run F (run_assign (F.ev rfl)) rfl ?_; clear F a; intro a F
                refine rl_nil <| q_tn <| wp_ret <| fin1 F rfl rfl ?_
                exact ⟨(M.weaken (.cons _ (List.Sublist.refl _))), (decide (((0 : Nat) : Int) = 0)), rfl, (by clear F M; unfold AloneP; grind)⟩
              · skip
                have h17b := hc; clear hc
                have h17 : ¬ (x.text = ([] : List UInt8)) := of_decide_eq_false h17b
                iterate 4 (refine rl_guard_f F rfl rfl rfl h17b ?_; clear F a; intro a F)
                refine rl_run F (run_pick_f (F.ev rfl) h17b (F.ev rfl)) rfl ?_; clear F a; intro a F
                refine rl_run F (run_move (F.ev rfl)) rfl ?_; clear F a; intro a F
                iterate 4 (refine rl_guard_f F rfl rfl rfl rfl ?_; clear F a; intro a F)
                refine rl_run F (run_pick_f (F.ev rfl) rfl (F.ev rfl)) rfl ?_; clear F a; intro a F
                refine rl_run F (run_assign (F.ev rfl)) rfl ?_; clear F a; intro a F
                refine rl_nil <| q_tn <| wp_ret <| fin1 F rfl rfl ?_
                exact ⟨(M.weaken (.cons _ (List.Sublist.refl _))), false, rfl, (by clear F M; unfold AloneP; grind)⟩
    · skip
      have h18b := hc; clear hc
      have h18 : x.key = ([] : List UInt8) := of_decide_eq_true (of_not_f h18b)
      have h18c : (decide (x.key = ([] : List UInt8))) = true := (of_not_f h18b)
      iterate 6 (refine rl_guard_f F rfl rfl rfl (not_f h18c) ?_; clear F a; intro a F)
      refine rl_run F (run_pick_f (F.ev rfl) (not_f h18c) (F.ev rfl)) rfl ?_; clear F a; intro a F
      refine rl_run F (run_move (F.ev rfl)) rfl ?_; clear F a; intro a F
      refine rl_guard_t F rfl rfl rfl rfl ?_
      refine rl_run F (run_move (F.ev rfl)) rfl ?_; clear F a; intro a F
      refine rl_guard_t F rfl rfl rfl rfl ?_
      refine rl_run F (run_nilCheck (F.ev rfl)) rfl ?_; clear F a; intro a F
      refine rl_guard_t F rfl rfl rfl rfl ?_
      refine rl_run F (run_fieldAddr tok46.k rfl rfl (F.ev rfl)) rfl ?_; clear F a; intro a F
      refine rl_guard_t F rfl rfl rfl rfl ?_
      refine rl_run F (run_load1 (agf tok44 rfl) (F.ev rfl) (M.cellA A 5 rfl rfl)) rfl ?_; clear F a; intro a F
      refine rl_guard_t F rfl rfl rfl rfl ?_
      refine rl_run F (run_lenSl tok44.k (F.ev rfl)) rfl ?_; clear F a; intro a F
      refine rl_guard_t F rfl rfl rfl rfl ?_
      refine rl_run F (run_gtr (F.ev rfl) (F.ev rfl)) rfl ?_; clear F a; intro a F
      refine rl_run F (run_pick_f (F.ev rfl) rfl (F.ev rfl)) rfl ?_; clear F a; intro a F
      refine rl_nil <| q_tn <| w_cond F rfl ?_ ?_
      · intro hc
        have h19b := hc; clear hc
        have h19 : 16 < ((x.kids.length : Nat) : Int) := of_decide_eq_true h19b
        refine wp_seq <| w_reg <| rl_run F (run_assign (F.ev rfl)) rfl ?_; clear F a; intro a F
        refine rl_nil <| q_tn <| wp_ret <| q_tr <| q_br <| q_tr <| q_br <| q_tr <| q_br <| q_tr <| q_br <| q_tr <| q_br <| q_tr <| fin1 F rfl rfl ?_
        exact ⟨(M.weaken (.cons _ (List.Sublist.refl _))), false, rfl, (by clear F M; unfold AloneP; grind)⟩
      · intro hc
        have h20b := hc; clear hc
        have h20 : ¬ (16 < ((x.kids.length : Nat) : Int)) := of_decide_eq_false h20b
        refine wp_skip <| q_tn <| w_reg <| rl_run F (run_fieldAddr tok46.k rfl rfl (F.ev rfl)) rfl ?_; clear F a; intro a F
        refine rl_store1 F M tok9 rfl (k := 0) rfl rfl rfl rfl rfl ?_; clear F M a; intro w a M F
        refine rl_run F (run_fieldAddr tok46.k rfl rfl (F.ev rfl)) rfl ?_; clear F a; intro a F
        refine rl_store1 F M tok44 rfl (k := 0) rfl rfl rfl rfl rfl ?_; clear F M a; intro w a M F
        refine rl_nil <| q_bn <| q_tn ?_
        iterate 3 (refine wp_seq ?_)
        refine w_reg <| rl_run F (run_move (F.ev rfl)) rfl ?_; clear F a; intro a F
        refine rl_run F (run_nilCheck (F.ev rfl)) rfl ?_; clear F a; intro a F
        refine rl_run F (run_fieldAddr tok46.k rfl rfl (F.ev rfl)) rfl ?_; clear F a; intro a F
        refine rl_run F (run_load1 (agf tok9 rfl) (F.ev rfl) (M.cellA A 1 rfl rfl)) rfl ?_; clear F a; intro a F
        refine rl_callS F ent69 rfl rfl (tnamed_spec (s := x.tag) M (by omega)) ?_; clear F M a; rintro _ w a M ⟨b21, rfl, hb21⟩ F
        refine rl_run F (run_not (F.ev rfl)) rfl ?_; clear F a; intro a F
        refine rl_run F (run_move (F.ev rfl)) rfl ?_; clear F a; intro a F
        rcases Bool.eq_false_or_eq_true (!(b21)) with hc | hc
        · skip
          have h22b := hc; clear hc
          have h22 : (b21) = false := (of_not_t h22b)
          have h22c : (b21) = false := (of_not_t h22b)
          iterate 6 (refine rl_guard_f F rfl rfl rfl (not_t h22c) ?_; clear F a; intro a F)
          refine rl_run F (run_pick_t (F.ev rfl) (not_t h22c) (F.ev rfl)) rfl ?_; clear F a; intro a F
          refine rl_nil <| q_tn <| w_cond_t F rfl rfl ?_
          refine wp_seq <| w_reg <| rl_run F (run_assign (F.ev rfl)) rfl ?_; clear F a; intro a F
          refine rl_nil <| q_tn <| wp_ret ?_
          iterate 2 (refine q_tr ?_)
          refine q_br <| q_tr <| q_br <| q_tr <| q_br <| q_tr <| q_br <| q_tr <| fin1 F rfl rfl ?_
          exact ⟨(M.weaken (.cons _ (List.Sublist.refl _))), false, rfl, (by clear F M; unfold AloneP; grind)⟩
        · skip
          have h23b := hc; clear hc
          have h23 : (b21) = true := (of_not_f h23b)
          have h23c : (b21) = true := (of_not_f h23b)
          refine rl_guard_t F rfl rfl rfl (not_f h23c) ?_
          refine rl_run F (run_move (F.ev rfl)) rfl ?_; clear F a; intro a F
          refine rl_guard_t F rfl rfl rfl (not_f h23c) ?_
          refine rl_run F (run_nilCheck (F.ev rfl)) rfl ?_; clear F a; intro a F
          refine rl_guard_t F rfl rfl rfl (not_f h23c) ?_
          refine rl_run F (run_fieldAddr tok46.k rfl rfl (F.ev rfl)) rfl ?_; clear F a; intro a F
          refine rl_guard_t F rfl rfl rfl (not_f h23c) ?_
          refine rl_run F (run_load1 (agf tok43 rfl) (F.ev rfl) (M.cellA A 3 rfl rfl)) rfl ?_; clear F a; intro a F
          refine rl_guard_t F rfl rfl rfl (not_f h23c) ?_
          refine rl_callS F ent114 rfl rfl (tslots_spec (xs := x.as) M SA (by have := SA.bound; omega)) ?_; clear F M a; rintro _ w a M ⟨b24, rfl, hb24⟩ F
          refine rl_guard_t F rfl rfl rfl (not_f h23c) ?_
          refine rl_run F (run_not (F.ev rfl)) rfl ?_; clear F a; intro a F
          refine rl_run F (run_pick_f (F.ev rfl) (not_f h23c) (F.ev rfl)) rfl ?_; clear F a; intro a F
          refine rl_nil <| q_tn <| w_cond F rfl ?_ ?_
          · intro hc
            have h25b := hc; clear hc
            have h25 : (b24) = false := (of_not_t h25b)
            have h25c : (b24) = false := (of_not_t h25b)
            refine wp_seq <| w_reg <| rl_run F (run_assign (F.ev rfl)) rfl ?_; clear F a; intro a F
            refine rl_nil <| q_tn <| wp_ret ?_
            iterate 2 (refine q_tr ?_)
            refine q_br <| q_tr <| q_br <| q_tr <| q_br <| q_tr <| q_br <| q_tr <| fin1 F rfl rfl ?_
            exact ⟨(M.weaken (.cons _ (List.Sublist.refl _))), false, rfl, (by clear F M; unfold AloneP; grind)⟩
          · intro hc
            have h26b := hc; clear hc
            have h26 : (b24) = true := (of_not_f h26b)
            have h26c : (b24) = true := (of_not_f h26b)
            refine wp_skip <| q_tn <| w_reg <| rl_run F (run_fieldAddr tok46.k rfl rfl (F.ev rfl)) rfl ?_; clear F a; intro a F
            refine rl_store1 F M tok9 rfl (k := 0) rfl rfl rfl rfl rfl ?_; clear F M a; intro w a M F
            refine rl_run F (run_fieldAddr tok46.k rfl rfl (F.ev rfl)) rfl ?_; clear F a; intro a F
            refine rl_store1 F M tok43 rfl (k := 0) rfl rfl rfl rfl rfl ?_; clear F M a; intro w a M F
            refine rl_nil <| q_tn <| wp_exit <| q_be rfl ?_
            refine q_te <| q_be rfl ?_
            refine q_te <| q_be rfl ?_
            refine q_te <| q_bh <| q_tn <| wp_seq <| w_reg <| rl_run F (run_fieldAddr tok46.k rfl rfl (F.ev rfl)) rfl ?_; clear F a; intro a F
            refine rl_run F (run_load1 (agf tok9 rfl) (F.ev rfl) (M.cellL (k := 0) rfl rfl)) rfl ?_; clear F a; intro a F
            refine rl_run F (run_strEq (F.ev rfl) (F.ev rfl)) rfl ?_; clear F a; intro a F
            refine rl_run F (run_move (F.ev rfl)) rfl ?_; clear F a; intro a F
            refine rl_guard_t F rfl rfl rfl (by decide) ?_
            refine rl_run F (run_fieldAddr tok46.k rfl rfl (F.ev rfl)) rfl ?_; clear F a; intro a F
            refine rl_guard_t F rfl rfl rfl (by decide) ?_
            refine rl_run F (run_load1 (agf tok9 rfl) (F.ev rfl) (M.cellL (k := 0) rfl rfl)) rfl ?_; clear F a; intro a F
            refine rl_guard_t F rfl rfl rfl (by decide) ?_
            refine rl_run F (run_strEq (F.ev rfl) (F.ev rfl)) rfl ?_; clear F a; intro a F
            refine rl_run F (run_pick_t (F.ev rfl) (by decide) (F.ev rfl)) rfl ?_; clear F a; intro a F
            refine rl_run F (run_move (F.ev rfl)) rfl ?_; clear F a; intro a F
            refine rl_guard_t F rfl rfl rfl (by decide) ?_
            refine rl_run F (run_fieldAddr tok46.k rfl rfl (F.ev rfl)) rfl ?_; clear F a; intro a F
            refine rl_guard_t F rfl rfl rfl (by decide) ?_
            refine rl_run F (run_load1 (agf tok9 rfl) (F.ev rfl) (M.cellL (k := 0) rfl rfl)) rfl ?_; clear F a; intro a F
            refine rl_guard_t F rfl rfl rfl (by decide) ?_
            refine rl_run F (run_strEq (F.ev rfl) (F.ev rfl)) rfl ?_; clear F a; intro a F
            refine rl_run F (run_pick_t (F.ev rfl) (by decide) (F.ev rfl)) rfl ?_; clear F a; intro a F
            refine rl_run F (run_move (F.ev rfl)) rfl ?_; clear F a; intro a F
            rcases Bool.eq_false_or_eq_true (decide (x.text = ([] : List UInt8))) with hc | hc
            · skip
              have h27b := hc; clear hc
              have h27 : x.text = ([] : List UInt8) := of_decide_eq_true h27b
              refine rl_guard_t F rfl rfl rfl h27b ?_
              refine rl_run F (run_fieldAddr tok46.k rfl rfl (F.ev rfl)) rfl ?_; clear F a; intro a F
              refine rl_guard_t F rfl rfl rfl h27b ?_
              refine rl_run F (run_load1 (agf tok43 rfl) (F.ev rfl) (M.cellL (k := 0) rfl rfl)) rfl ?_; clear F a; intro a F
              refine rl_guard_t F rfl rfl rfl h27b ?_
              refine rl_run F (run_lenSl tok43.k (F.ev rfl)) rfl ?_; clear F a; intro a F
              refine rl_guard_t F rfl rfl rfl h27b ?_
              refine rl_run F (run_eqi (F.ev rfl) (F.ev rfl)) rfl ?_; clear F a; intro a F
              refine rl_run F (run_pick_t (F.ev rfl) h27b (F.ev rfl)) rfl ?_; clear F a; intro a F
              refine rl_run F (run_move (F.ev rfl)) rfl ?_; clear F a; intro a F
              refine rl_guard_t F rfl rfl rfl (decide_eq_true (by decide)) ?_
              refine rl_run F (run_fieldAddr tok46.k rfl rfl (F.ev rfl)) rfl ?_; clear F a; intro a F
              refine rl_guard_t F rfl rfl rfl (decide_eq_true (by decide)) ?_
              refine rl_run F (run_load1 (agf tok44 rfl) (F.ev rfl) (M.cellL (k := 0) rfl rfl)) rfl ?_; clear F a; intro a F
              refine rl_guard_t F rfl rfl rfl (decide_eq_true (by decide)) ?_
              refine rl_run F (run_lenSl tok44.k (F.ev rfl)) rfl ?_; clear F a; intro a F
              refine rl_guard_t F rfl rfl rfl (decide_eq_true (by decide)) ?_
              refine rl_run F (run_eqi (F.ev rfl) (F.ev rfl)) rfl ?_; clear F a; intro a F
              refine rl_run F (run_pick_t (F.ev rfl) (decide_eq_true (by decide)) (F.ev rfl)) rfl ?_; clear F a; intro a F
              refine rl_run F (run_assign (F.ev rfl)) rfl ?_; clear F a; intro a F
              refine rl_nil <| q_tn <| wp_ret <| fin1 F rfl rfl ?_
              exact ⟨(M.weaken (.cons _ (List.Sublist.refl _))), (decide (((0 : Nat) : Int) = 0)), rfl, (by clear F M; unfold AloneP; grind)⟩
            · skip
              have h28b := hc; clear hc
              have h28 : ¬ (x.text = ([] : List UInt8)) := of_decide_eq_false h28b
              iterate 4 (refine rl_guard_f F rfl rfl rfl h28b ?_; clear F a; intro a F)
              refine rl_run F (run_pick_f (F.ev rfl) h28b (F.ev rfl)) rfl ?_; clear F a; intro a F
              refine rl_run F (run_move (F.ev rfl)) rfl ?_; clear F a; intro a F
              iterate 4 (refine rl_guard_f F rfl rfl rfl rfl ?_; clear F a; intro a F)
              refine rl_run F (run_pick_f (F.ev rfl) rfl (F.ev rfl)) rfl ?_; clear F a; intro a F
              refine rl_run F (run_assign (F.ev rfl)) rfl ?_; clear F a; intro a F
              refine rl_nil <| q_tn <| wp_ret <| fin1 F rfl rfl ?_
              exact ⟨(M.weaken (.cons _ (List.Sublist.refl _))), false, rfl, (by clear F M; unfold AloneP; grind)⟩
  · intro hc
    have h29b := hc; clear hc
    have h29 : ¬ (x.kind = 1) := of_decide_eq_false h29b
    refine wp_skip <| q_tn ?_
    iterate 2 (refine wp_seq ?_)
    refine w_reg <| rl_run F (run_eqi (F.ev rfl) (F.ev rfl)) rfl ?_; clear F a; intro a F
    refine rl_run F (run_assign (F.ev rfl)) rfl ?_; clear F a; intro a F
    refine rl_nil <| q_tn <| w_cond F rfl ?_ ?_
    · intro hc
      have h30b := hc; clear hc
      have h30 : x.kind = 5 := of_decide_eq_true h30b
      refine wp_exit ?_
      iterate 2 (refine q_te ?_)
      refine q_be rfl ?_
      refine q_te <| q_bh <| q_tn ?_
      iterate 3 (refine wp_seq ?_)
      refine w_reg <| rl_run F (run_move (F.ev rfl)) rfl ?_; clear F a; intro a F
      refine rl_run F (run_nilCheck (F.ev rfl)) rfl ?_; clear F a; intro a F
      refine rl_run F (run_fieldAddr tok46.k rfl rfl (F.ev rfl)) rfl ?_; clear F a; intro a F
      refine rl_run F (run_load1 (agf tok9 rfl) (F.ev rfl) (M.cellA A 1 rfl rfl)) rfl ?_; clear F a; intro a F
      refine rl_callS F ent69 rfl rfl (tnamed_spec (s := x.tag) M (by omega)) ?_; clear F M a; rintro _ w a M ⟨b31, rfl, hb31⟩ F
      refine rl_run F (run_not (F.ev rfl)) rfl ?_; clear F a; intro a F
      refine rl_run F (run_move (F.ev rfl)) rfl ?_; clear F a; intro a F
      rcases Bool.eq_false_or_eq_true (!(b31)) with hc | hc
      · skip
        have h32b := hc; clear hc
        have h32 : (b31) = false := (of_not_t h32b)
        have h32c : (b31) = false := (of_not_t h32b)
        iterate 6 (refine rl_guard_f F rfl rfl rfl (not_t h32c) ?_; clear F a; intro a F)
        refine rl_run F (run_pick_t (F.ev rfl) (not_t h32c) (F.ev rfl)) rfl ?_; clear F a; intro a F
        refine rl_nil <| q_tn <| w_cond_t F rfl rfl ?_
        refine wp_seq <| w_reg <| rl_run F (run_assign (F.ev rfl)) rfl ?_; clear F a; intro a F
        refine rl_nil <| q_tn <| wp_ret ?_
        iterate 2 (refine q_tr ?_)
        refine q_br <| q_tr <| q_br <| q_tr <| q_br <| q_tr <| q_br <| q_tr <| fin1 F rfl rfl ?_
        exact ⟨(M.weaken (.cons _ (List.Sublist.refl _))), false, rfl, (by clear F M; unfold AloneP; grind)⟩
      · skip
        have h33b := hc; clear hc
        have h33 : (b31) = true := (of_not_f h33b)
        have h33c : (b31) = true := (of_not_f h33b)
        refine rl_guard_t F rfl rfl rfl (not_f h33c) ?_
        refine rl_run F (run_move (F.ev rfl)) rfl ?_; clear F a; intro a F
        refine rl_guard_t F rfl rfl rfl (not_f h33c) ?_
        refine rl_run F (run_nilCheck (F.ev rfl)) rfl ?_; clear F a; intro a F
        refine rl_guard_t F rfl rfl rfl (not_f h33c) ?_
        refine rl_run F (run_fieldAddr tok46.k rfl rfl (F.ev rfl)) rfl ?_; clear F a; intro a F
        refine rl_guard_t F rfl rfl rfl (not_f h33c) ?_
        refine rl_run F (run_load1 (agf tok43 rfl) (F.ev rfl) (M.cellA A 3 rfl rfl)) rfl ?_; clear F a; intro a F
        refine rl_guard_t F rfl rfl rfl (not_f h33c) ?_
        refine rl_callS F ent114 rfl rfl (tslots_spec (xs := x.as) M SA (by have := SA.bound; omega)) ?_; clear F M a; rintro _ w a M ⟨b34, rfl, hb34⟩ F
        refine rl_guard_t F rfl rfl rfl (not_f h33c) ?_
        refine rl_run F (run_not (F.ev rfl)) rfl ?_; clear F a; intro a F
        refine rl_run F (run_pick_f (F.ev rfl) (not_f h33c) (F.ev rfl)) rfl ?_; clear F a; intro a F
        refine rl_nil <| q_tn <| w_cond F rfl ?_ ?_
        · intro hc
          have h35b := hc; clear hc
          have h35 : (b34) = false := (of_not_t h35b)
          have h35c : (b34) = false := (of_not_t h35b)
          refine wp_seq <| w_reg <| rl_run F (run_assign (F.ev rfl)) rfl ?_; clear F a; intro a F
          refine rl_nil <| q_tn <| wp_ret ?_
          iterate 2 (refine q_tr ?_)
          refine q_br <| q_tr <| q_br <| q_tr <| q_br <| q_tr <| q_br <| q_tr <| fin1 F rfl rfl ?_
          exact ⟨(M.weaken (.cons _ (List.Sublist.refl _))), false, rfl, (by clear F M; unfold AloneP; grind)⟩
        · intro hc
          have h36b := hc; clear hc
          have h36 : (b34) = true := (of_not_f h36b)
          have h36c : (b34) = true := (of_not_f h36b)
          refine wp_skip <| q_tn <| w_reg <| rl_run F (run_fieldAddr tok46.k rfl rfl (F.ev rfl)) rfl ?_; clear F a; intro a F
          refine rl_store1 F M tok9 rfl (k := 0) rfl rfl rfl rfl rfl ?_; clear F M a; intro w a M F
          refine rl_run F (run_fieldAddr tok46.k rfl rfl (F.ev rfl)) rfl ?_; clear F a; intro a F
          refine rl_store1 F M tok43 rfl (k := 0) rfl rfl rfl rfl rfl ?_; clear F M a; intro w a M F
          refine rl_nil <| q_tn <| wp_exit <| q_be rfl ?_
          refine q_te <| q_be rfl ?_
          refine q_te <| q_be rfl ?_
          refine q_te <| q_bh <| q_tn <| wp_seq <| w_reg <| rl_run F (run_fieldAddr tok46.k rfl rfl (F.ev rfl)) rfl ?_; clear F a; intro a F
          refine rl_run F (run_load1 (agf tok9 rfl) (F.ev rfl) (M.cellL (k := 0) rfl rfl)) rfl ?_; clear F a; intro a F
          refine rl_run F (run_strEq (F.ev rfl) (F.ev rfl)) rfl ?_; clear F a; intro a F
          refine rl_run F (run_move (F.ev rfl)) rfl ?_; clear F a; intro a F
          refine rl_guard_t F rfl rfl rfl (by decide) ?_
          refine rl_run F (run_fieldAddr tok46.k rfl rfl (F.ev rfl)) rfl ?_; clear F a; intro a F
          refine rl_guard_t F rfl rfl rfl (by decide) ?_
          refine rl_run F (run_load1 (agf tok9 rfl) (F.ev rfl) (M.cellL (k := 0) rfl rfl)) rfl ?_; clear F a; intro a F
          refine rl_guard_t F rfl rfl rfl (by decide) ?_
          refine rl_run F (run_strEq (F.ev rfl) (F.ev rfl)) rfl ?_; clear F a; intro a F
          refine rl_run F (run_pick_t (F.ev rfl) (by decide) (F.ev rfl)) rfl ?_; clear F a; intro a F
          refine rl_run F (run_move (F.ev rfl)) rfl ?_; clear F a; intro a F
          rcases Bool.eq_false_or_eq_true (decide (x.key = ([] : List UInt8))) with hc | hc
          · skip
            have h37b := hc; clear hc
            have h37 : x.key = ([] : List UInt8) := of_decide_eq_true h37b
            refine rl_guard_t F rfl rfl rfl h37b ?_
            refine rl_run F (run_fieldAddr tok46.k rfl rfl (F.ev rfl)) rfl ?_; clear F a; intro a F
            refine rl_guard_t F rfl rfl rfl h37b ?_
            refine rl_run F (run_load1 (agf tok9 rfl) (F.ev rfl) (M.cellL (k := 0) rfl rfl)) rfl ?_; clear F a; intro a F
            refine rl_guard_t F rfl rfl rfl h37b ?_
            refine rl_run F (run_strEq (F.ev rfl) (F.ev rfl)) rfl ?_; clear F a; intro a F
            refine rl_run F (run_pick_t (F.ev rfl) h37b (F.ev rfl)) rfl ?_; clear F a; intro a F
            refine rl_run F (run_move (F.ev rfl)) rfl ?_; clear F a; intro a F
            rcases Bool.eq_false_or_eq_true (decide (x.text = ([] : List UInt8))) with hc | hc
            · skip
              have h38b := hc; clear hc
              have h38 : x.text = ([] : List UInt8) := of_decide_eq_true h38b
              refine rl_guard_t F rfl rfl rfl h38b ?_
              refine rl_run F (run_fieldAddr tok46.k rfl rfl (F.ev rfl)) rfl ?_; clear F a; intro a F
              refine rl_guard_t F rfl rfl rfl h38b ?_
              refine rl_run F (run_load1 (agf tok43 rfl) (F.ev rfl) (M.cellL (k := 0) rfl rfl)) rfl ?_; clear F a; intro a F
              refine rl_guard_t F rfl rfl rfl h38b ?_
              refine rl_run F (run_lenSl tok43.k (F.ev rfl)) rfl ?_; clear F a; intro a F
              refine rl_guard_t F rfl rfl rfl h38b ?_
              refine rl_run F (run_eqi (F.ev rfl) (F.ev rfl)) rfl ?_; clear F a; intro a F
              refine rl_run F (run_pick_t (F.ev rfl) h38b (F.ev rfl)) rfl ?_; clear F a; intro a F
              refine rl_run F (run_move (F.ev rfl)) rfl ?_; clear F a; intro a F
              refine rl_guard_t F rfl rfl rfl (decide_eq_true (by decide)) ?_
              refine rl_run F (run_fieldAddr tok46.k rfl rfl (F.ev rfl)) rfl ?_; clear F a; intro a F
              refine rl_guard_t F rfl rfl rfl (decide_eq_true (by decide)) ?_
              refine rl_run F (run_load1 (agf tok44 rfl) (F.ev rfl) (M.cellL (k := 0) rfl rfl)) rfl ?_; clear F a; intro a F
              refine rl_guard_t F rfl rfl rfl (decide_eq_true (by decide)) ?_
              refine rl_run F (run_lenSl tok44.k (F.ev rfl)) rfl ?_; clear F a; intro a F
              refine rl_guard_t F rfl rfl rfl (decide_eq_true (by decide)) ?_
              refine rl_run F (run_eqi (F.ev rfl) (F.ev rfl)) rfl ?_; clear F a; intro a F
              refine rl_run F (run_pick_t (F.ev rfl) (decide_eq_true (by decide)) (F.ev rfl)) rfl ?_; clear F a; intro a F
              refine rl_run F (run_assign (F.ev rfl)) rfl ?_; clear F a; intro a F
              refine rl_nil <| q_tn <| wp_ret <| fin1 F rfl rfl ?_
              exact ⟨(M.weaken (.cons _ (List.Sublist.refl _))), (decide (((x.kids.length : Nat) : Int) = 0)), rfl, (by clear F M; unfold AloneP; grind)⟩
            · skip
              have h39b := hc; clear hc
              have h39 : ¬ (x.text = ([] : List UInt8)) := of_decide_eq_false h39b
              iterate 4 (refine rl_guard_f F rfl rfl rfl h39b ?_; clear F a; intro a F)
              refine rl_run F (run_pick_f (F.ev rfl) h39b (F.ev rfl)) rfl ?_; clear F a; intro a F
              refine rl_run F (run_move (F.ev rfl)) rfl ?_; clear F a; intro a F
              iterate 4 (refine rl_guard_f F rfl rfl rfl rfl ?_; clear F a; intro a F)
              refine rl_run F (run_pick_f (F.ev rfl) rfl (F.ev rfl)) rfl ?_; clear F a; intro a F
              refine rl_run F (run_assign (F.ev rfl)) rfl ?_; clear F a; intro a F
              refine rl_nil <| q_tn <| wp_ret <| fin1 F rfl rfl ?_
              exact ⟨(M.weaken (.cons _ (List.Sublist.refl _))), false, rfl, (by clear F M; unfold AloneP; grind)⟩
          · skip
            have h40b := hc; clear hc
            have h40 : ¬ (x.key = ([] : List UInt8)) := of_decide_eq_false h40b
            iterate 3 (refine rl_guard_f F rfl rfl rfl h40b ?_; clear F a; intro a F)
            refine rl_run F (run_pick_f (F.ev rfl) h40b (F.ev rfl)) rfl ?_; clear F a; intro a F
            refine rl_run F (run_move (F.ev rfl)) rfl ?_; clear F a; intro a F
            iterate 4 (refine rl_guard_f F rfl rfl rfl rfl ?_; clear F a; intro a F)
            refine rl_run F (run_pick_f (F.ev rfl) rfl (F.ev rfl)) rfl ?_; clear F a; intro a F
            refine rl_run F (run_move (F.ev rfl)) rfl ?_; clear F a; intro a F
            iterate 4 (refine rl_guard_f F rfl rfl rfl rfl ?_; clear F a; intro a F)
            refine rl_run F (run_pick_f (F.ev rfl) rfl (F.ev rfl)) rfl ?_; clear F a; intro a F
            refine rl_run F (run_assign (F.ev rfl)) rfl ?_; clear F a; intro a F
            refine rl_nil <| q_tn <| wp_ret <| fin1 F rfl rfl ?_
            exact ⟨(M.weaken (.cons _ (List.Sublist.refl _))), false, rfl, (by clear F M; unfold AloneP; grind)⟩
    · intro hc
      have h41b := hc; clear hc
      have h41 : ¬ (x.kind = 5) := of_decide_eq_false h41b
      refine wp_skip <| q_tn ?_
      iterate 2 (refine wp_seq ?_)
      refine w_reg <| rl_run F (run_eqi (F.ev rfl) (F.ev rfl)) rfl ?_; clear F a; intro a F
      refine rl_run F (run_assign (F.ev rfl)) rfl ?_; clear F a; intro a F
      refine rl_nil <| q_tn <| w_cond F rfl ?_ ?_
      · intro hc
        have h42b := hc; clear hc
        have h42 : x.kind = 2 := of_decide_eq_true h42b
        refine wp_exit ?_
        iterate 2 (refine q_te ?_)
        refine q_be rfl ?_
        refine q_te <| q_be rfl ?_
        refine q_te <| q_bh <| q_tn ?_
        iterate 3 (refine wp_seq ?_)
        refine w_reg <| rl_run F (run_move (F.ev rfl)) rfl ?_; clear F a; intro a F
        refine rl_run F (run_nilCheck (F.ev rfl)) rfl ?_; clear F a; intro a F
        refine rl_run F (run_fieldAddr tok46.k rfl rfl (F.ev rfl)) rfl ?_; clear F a; intro a F
        refine rl_run F (run_load1 (agf tok9 rfl) (F.ev rfl) (M.cellA A 4 rfl rfl)) rfl ?_; clear F a; intro a F
        refine rl_callS F ent66 rfl rfl (tplain_spec (s := x.text) M (by omega)) ?_; clear F M a; rintro _ w a M ⟨b43, rfl, hb43⟩ F
        refine rl_run F (run_not (F.ev rfl)) rfl ?_; clear F a; intro a F
        refine rl_nil <| q_tn <| w_cond F rfl ?_ ?_
        · intro hc
          have h44b := hc; clear hc
          have h44 : (b43) = false := (of_not_t h44b)
          have h44c : (b43) = false := (of_not_t h44b)
          refine wp_seq <| w_reg <| rl_run F (run_assign (F.ev rfl)) rfl ?_; clear F a; intro a F
          refine rl_nil <| q_tn <| wp_ret ?_
          iterate 2 (refine q_tr ?_)
          refine q_br <| q_tr <| q_br <| q_tr <| q_br <| q_tr <| fin1 F rfl rfl ?_
          exact ⟨(M.weaken (.cons _ (List.Sublist.refl _))), false, rfl, (by clear F M; unfold AloneP; grind)⟩
        · intro hc
          have h45b := hc; clear hc
          have h45 : (b43) = true := (of_not_f h45b)
          have h45c : (b43) = true := (of_not_f h45b)
          refine wp_skip <| q_tn <| w_reg <| rl_run F (run_fieldAddr tok46.k rfl rfl (F.ev rfl)) rfl ?_; clear F a; intro a F
          refine rl_store1 F M tok9 rfl (k := 0) rfl rfl rfl rfl rfl ?_; clear F M a; intro w a M F
          refine rl_nil <| q_tn <| wp_exit <| q_be rfl ?_
          refine q_te <| q_be rfl ?_
          refine q_te <| q_bh <| q_tn <| wp_seq <| w_reg <| rl_run F (run_fieldAddr tok46.k rfl rfl (F.ev rfl)) rfl ?_; clear F a; intro a F
          refine rl_run F (run_load1 (agf tok9 rfl) (F.ev rfl) (M.cellL (k := 0) rfl rfl)) rfl ?_; clear F a; intro a F
          refine rl_run F (run_strEq (F.ev rfl) (F.ev rfl)) rfl ?_; clear F a; intro a F
          refine rl_run F (run_move (F.ev rfl)) rfl ?_; clear F a; intro a F
          rcases Bool.eq_false_or_eq_true (decide (x.tag = ([] : List UInt8))) with hc | hc
          · skip
            have h46b := hc; clear hc
            have h46 : x.tag = ([] : List UInt8) := of_decide_eq_true h46b
            refine rl_guard_t F rfl rfl rfl h46b ?_
            refine rl_run F (run_fieldAddr tok46.k rfl rfl (F.ev rfl)) rfl ?_; clear F a; intro a F
            refine rl_guard_t F rfl rfl rfl h46b ?_
            refine rl_run F (run_load1 (agf tok9 rfl) (F.ev rfl) (M.cellL (k := 0) rfl rfl)) rfl ?_; clear F a; intro a F
            refine rl_guard_t F rfl rfl rfl h46b ?_
            refine rl_run F (run_strEq (F.ev rfl) (F.ev rfl)) rfl ?_; clear F a; intro a F
            refine rl_run F (run_pick_t (F.ev rfl) h46b (F.ev rfl)) rfl ?_; clear F a; intro a F
            refine rl_run F (run_move (F.ev rfl)) rfl ?_; clear F a; intro a F
            rcases Bool.eq_false_or_eq_true (decide (x.key = ([] : List UInt8))) with hc | hc
            · skip
              have h47b := hc; clear hc
              have h47 : x.key = ([] : List UInt8) := of_decide_eq_true h47b
              refine rl_guard_t F rfl rfl rfl h47b ?_
              refine rl_run F (run_fieldAddr tok46.k rfl rfl (F.ev rfl)) rfl ?_; clear F a; intro a F
              refine rl_guard_t F rfl rfl rfl h47b ?_
              refine rl_run F (run_load1 (agf tok9 rfl) (F.ev rfl) (M.cellL (k := 0) rfl rfl)) rfl ?_; clear F a; intro a F
              refine rl_guard_t F rfl rfl rfl h47b ?_
              refine rl_run F (run_strEq (F.ev rfl) (F.ev rfl)) rfl ?_; clear F a; intro a F
              refine rl_run F (run_pick_t (F.ev rfl) h47b (F.ev rfl)) rfl ?_; clear F a; intro a F
              refine rl_run F (run_move (F.ev rfl)) rfl ?_; clear F a; intro a F
              refine rl_guard_t F rfl rfl rfl (by decide) ?_
              refine rl_run F (run_fieldAddr tok46.k rfl rfl (F.ev rfl)) rfl ?_; clear F a; intro a F
              refine rl_guard_t F rfl rfl rfl (by decide) ?_
              refine rl_run F (run_load1 (agf tok43 rfl) (F.ev rfl) (M.cellL (k := 0) rfl rfl)) rfl ?_; clear F a; intro a F
              refine rl_guard_t F rfl rfl rfl (by decide) ?_
              refine rl_run F (run_lenSl tok43.k (F.ev rfl)) rfl ?_; clear F a; intro a F
              refine rl_guard_t F rfl rfl rfl (by decide) ?_
              refine rl_run F (run_eqi (F.ev rfl) (F.ev rfl)) rfl ?_; clear F a; intro a F
              refine rl_run F (run_pick_t (F.ev rfl) (by decide) (F.ev rfl)) rfl ?_; clear F a; intro a F
              refine rl_run F (run_move (F.ev rfl)) rfl ?_; clear F a; intro a F
              rcases Bool.eq_false_or_eq_true (decide (((x.as.length : Nat) : Int) = 0)) with hc | hc
              · skip
                have h48b := hc; clear hc
                have h48 : ((x.as.length : Nat) : Int) = 0 := of_decide_eq_true h48b
                refine rl_guard_t F rfl rfl rfl h48b ?_
                refine rl_run F (run_fieldAddr tok46.k rfl rfl (F.ev rfl)) rfl ?_; clear F a; intro a F
                refine rl_guard_t F rfl rfl rfl h48b ?_
                refine rl_run F (run_load1 (agf tok44 rfl) (F.ev rfl) (M.cellL (k := 0) rfl rfl)) rfl ?_; clear F a; intro a F
                refine rl_guard_t F rfl rfl rfl h48b ?_
                refine rl_run F (run_lenSl tok44.k (F.ev rfl)) rfl ?_; clear F a; intro a F
                refine rl_guard_t F rfl rfl rfl h48b ?_
                refine rl_run F (run_eqi (F.ev rfl) (F.ev rfl)) rfl ?_; clear F a; intro a F
                refine rl_run F (run_pick_t (F.ev rfl) h48b (F.ev rfl)) rfl ?_; clear F a; intro a F
                refine rl_run F (run_assign (F.ev rfl)) rfl ?_; clear F a; intro a F
                refine rl_nil <| q_tn <| wp_ret <| fin1 F rfl rfl ?_
                exact ⟨(M.weaken (.cons _ (List.Sublist.refl _))), (decide (((x.kids.length : Nat) : Int) = 0)), rfl, (by clear F M; unfold AloneP; grind)⟩
              · skip
                have h49b := hc; clear hc
                have h49 : ¬ (((x.as.length : Nat) : Int) = 0) := of_decide_eq_false h49b
                iterate 4 (refine rl_guard_f F rfl rfl rfl h49b ?_; clear F a; intro a F)
                refine rl_run F (run_pick_f (F.ev rfl) h49b (F.ev rfl)) rfl ?_; clear F a; intro a F
                refine rl_run F (run_assign (F.ev rfl)) rfl ?_; clear F a; intro a F
                refine rl_nil <| q_tn <| wp_ret <| fin1 F rfl rfl ?_
                exact ⟨(M.weaken (.cons _ (List.Sublist.refl _))), false, rfl, (by clear F M; unfold AloneP; grind)⟩
            · skip
              have h50b := hc; clear hc
              have h50 : ¬ (x.key = ([] : List UInt8)) := of_decide_eq_false h50b
              iterate 3 (refine rl_guard_f F rfl rfl rfl h50b ?_; clear F a; intro a F)
              refine rl_run F (run_pick_f (F.ev rfl) h50b (F.ev rfl)) rfl ?_; clear F a; intro a F
              refine rl_run F (run_move (F.ev rfl)) rfl ?_; clear F a; intro a F
              iterate 4 (refine rl_guard_f F rfl rfl rfl rfl ?_; clear F a; intro a F)
              refine rl_run F (run_pick_f (F.ev rfl) rfl (F.ev rfl)) rfl ?_; clear F a; intro a F
              refine rl_run F (run_move (F.ev rfl)) rfl ?_; clear F a; intro a F
              iterate 4 (refine rl_guard_f F rfl rfl rfl rfl ?_; clear F a; intro a F)
              refine rl_run F (run_pick_f (F.ev rfl) rfl (F.ev rfl)) rfl ?_; clear F a; intro a F
              refine rl_run F (run_assign (F.ev rfl)) rfl ?_; clear F a; intro a F
              refine rl_nil <| q_tn <| wp_ret <| fin1 F rfl rfl ?_
              exact ⟨(M.weaken (.cons _ (List.Sublist.refl _))), false, rfl, (by clear F M; unfold AloneP; grind)⟩
          · skip
            have h51b := hc; clear hc
            have h51 : ¬ (x.tag = ([] : List UInt8)) := of_decide_eq_false h51b
            iterate 3 (refine rl_guard_f F rfl rfl rfl h51b ?_; clear F a; intro a F)
            refine rl_run F (run_pick_f (F.ev rfl) h51b (F.ev rfl)) rfl ?_; clear F a; intro a F
            refine rl_run F (run_move (F.ev rfl)) rfl ?_; clear F a; intro a F
            iterate 3 (refine rl_guard_f F rfl rfl rfl rfl ?_; clear F a; intro a F)
            refine rl_run F (run_pick_f (F.ev rfl) rfl (F.ev rfl)) rfl ?_; clear F a; intro a F
            refine rl_run F (run_move (F.ev rfl)) rfl ?_; clear F a; intro a F
            iterate 4 (refine rl_guard_f F rfl rfl rfl rfl ?_; clear F a; intro a F)
            refine rl_run F (run_pick_f (F.ev rfl) rfl (F.ev rfl)) rfl ?_; clear F a; intro a F
            refine rl_run F (run_move (F.ev rfl)) rfl ?_; clear F a; intro a F
            iterate 4 (refine rl_guard_f F rfl rfl rfl rfl ?_; clear F a; intro a F)
            refine rl_run F (run_pick_f (F.ev rfl) rfl (F.ev rfl)) rfl ?_; clear F a; intro a F
            refine rl_run F (run_assign (F.ev rfl)) rfl ?_; clear F a; intro a F
            refine rl_nil <| q_tn <| wp_ret <| fin1 F rfl rfl ?_
            exact ⟨(M.weaken (.cons _ (List.Sublist.refl _))), false, rfl, (by clear F M; unfold AloneP; grind)⟩
      · intro hc
        have h52b := hc; clear hc
        have h52 : ¬ (x.kind = 2) := of_decide_eq_false h52b
        refine wp_skip <| q_tn ?_
        iterate 2 (refine wp_seq ?_)
        refine w_reg <| rl_run F (run_eqi (F.ev rfl) (F.ev rfl)) rfl ?_; clear F a; intro a F
        refine rl_run F (run_assign (F.ev rfl)) rfl ?_; clear F a; intro a F
        refine rl_nil <| q_tn <| w_cond F rfl ?_ ?_
        · intro hc
          have h53b := hc; clear hc
          have h53 : x.kind = 3 := of_decide_eq_true h53b
          refine wp_skip <| q_tn <| w_cond_t F rfl h53b ?_
          refine wp_exit <| q_te <| q_be rfl ?_
          refine q_te <| q_be rfl ?_
          refine q_te <| q_be rfl ?_
          refine q_te <| q_bh <| q_tn <| wp_exit <| q_be rfl ?_
          refine q_te <| q_bh <| q_tn <| wp_seq <| w_reg <| rl_run F (run_fieldAddr tok46.k rfl rfl (F.ev rfl)) rfl ?_; clear F a; intro a F
          refine rl_run F (run_load1 (agf tok9 rfl) (F.ev rfl) (M.cellL (k := 0) rfl rfl)) rfl ?_; clear F a; intro a F
          refine rl_run F (run_strEq (F.ev rfl) (F.ev rfl)) rfl ?_; clear F a; intro a F
          refine rl_run F (run_move (F.ev rfl)) rfl ?_; clear F a; intro a F
          rcases Bool.eq_false_or_eq_true (decide (x.tag = ([] : List UInt8))) with hc | hc
          · skip
            have h54b := hc; clear hc
            have h54 : x.tag = ([] : List UInt8) := of_decide_eq_true h54b
            refine rl_guard_t F rfl rfl rfl h54b ?_
            refine rl_run F (run_fieldAddr tok46.k rfl rfl (F.ev rfl)) rfl ?_; clear F a; intro a F
            refine rl_guard_t F rfl rfl rfl h54b ?_
            refine rl_run F (run_load1 (agf tok9 rfl) (F.ev rfl) (M.cellL (k := 0) rfl rfl)) rfl ?_; clear F a; intro a F
            refine rl_guard_t F rfl rfl rfl h54b ?_
            refine rl_run F (run_strEq (F.ev rfl) (F.ev rfl)) rfl ?_; clear F a; intro a F
            refine rl_run F (run_pick_t (F.ev rfl) h54b (F.ev rfl)) rfl ?_; clear F a; intro a F
            refine rl_run F (run_move (F.ev rfl)) rfl ?_; clear F a; intro a F
            rcases Bool.eq_false_or_eq_true (decide (x.key = ([] : List UInt8))) with hc | hc
            · skip
              have h55b := hc; clear hc
              have h55 : x.key = ([] : List UInt8) := of_decide_eq_true h55b
              refine rl_guard_t F rfl rfl rfl h55b ?_
              refine rl_run F (run_fieldAddr tok46.k rfl rfl (F.ev rfl)) rfl ?_; clear F a; intro a F
              refine rl_guard_t F rfl rfl rfl h55b ?_
              refine rl_run F (run_load1 (agf tok9 rfl) (F.ev rfl) (M.cellL (k := 0) rfl rfl)) rfl ?_; clear F a; intro a F
              refine rl_guard_t F rfl rfl rfl h55b ?_
              refine rl_run F (run_strEq (F.ev rfl) (F.ev rfl)) rfl ?_; clear F a; intro a F
              refine rl_run F (run_pick_t (F.ev rfl) h55b (F.ev rfl)) rfl ?_; clear F a; intro a F
              refine rl_run F (run_move (F.ev rfl)) rfl ?_; clear F a; intro a F
              rcases Bool.eq_false_or_eq_true (decide (x.text = ([] : List UInt8))) with hc | hc
              · skip
                have h56b := hc; clear hc
                have h56 : x.text = ([] : List UInt8) := of_decide_eq_true h56b
                refine rl_guard_t F rfl rfl rfl h56b ?_
                refine rl_run F (run_fieldAddr tok46.k rfl rfl (F.ev rfl)) rfl ?_; clear F a; intro a F
                refine rl_guard_t F rfl rfl rfl h56b ?_
                refine rl_run F (run_load1 (agf tok43 rfl) (F.ev rfl) (M.cellL (k := 0) rfl rfl)) rfl ?_; clear F a; intro a F
                refine rl_guard_t F rfl rfl rfl h56b ?_
                refine rl_run F (run_lenSl tok43.k (F.ev rfl)) rfl ?_; clear F a; intro a F
                refine rl_guard_t F rfl rfl rfl h56b ?_
                refine rl_run F (run_eqi (F.ev rfl) (F.ev rfl)) rfl ?_; clear F a; intro a F
                refine rl_run F (run_pick_t (F.ev rfl) h56b (F.ev rfl)) rfl ?_; clear F a; intro a F
                refine rl_run F (run_move (F.ev rfl)) rfl ?_; clear F a; intro a F
                rcases Bool.eq_false_or_eq_true (decide (((x.as.length : Nat) : Int) = 0)) with hc | hc
                · skip
                  have h57b := hc; clear hc
                  have h57 : ((x.as.length : Nat) : Int) = 0 := of_decide_eq_true h57b
                  refine rl_guard_t F rfl rfl rfl h57b ?_
                  refine rl_run F (run_fieldAddr tok46.k rfl rfl (F.ev rfl)) rfl ?_; clear F a; intro a F
                  refine rl_guard_t F rfl rfl rfl h57b ?_
                  refine rl_run F (run_load1 (agf tok44 rfl) (F.ev rfl) (M.cellL (k := 0) rfl rfl)) rfl ?_; clear F a; intro a F
                  refine rl_guard_t F rfl rfl rfl h57b ?_
                  refine rl_run F (run_lenSl tok44.k (F.ev rfl)) rfl ?_; clear F a; intro a F
                  refine rl_guard_t F rfl rfl rfl h57b ?_
                  refine rl_run F (run_eqi (F.ev rfl) (F.ev rfl)) rfl ?_; clear F a; intro a F
                  refine rl_run F (run_pick_t (F.ev rfl) h57b (F.ev rfl)) rfl ?_; clear F a; intro a F
                  refine rl_run F (run_assign (F.ev rfl)) rfl ?_; clear F a; intro a F
                  refine rl_nil <| q_tn <| wp_ret <| fin1 F rfl rfl ?_
                  exact ⟨(M.weaken (.cons _ (List.Sublist.refl _))), (decide (((x.kids.length : Nat) : Int) = 0)), rfl, (by clear F M; unfold AloneP; grind)⟩
                · skip
                  have h58b := hc; clear hc
                  have h58 : ¬ (((x.as.length : Nat) : Int) = 0) := of_decide_eq_false h58b
                  iterate 4 (refine rl_guard_f F rfl rfl rfl h58b ?_; clear F a; intro a F)
                  refine rl_run F (run_pick_f (F.ev rfl) h58b (F.ev rfl)) rfl ?_; clear F a; intro a F
                  refine rl_run F (run_assign (F.ev rfl)) rfl ?_; clear F a; intro a F
                  refine rl_nil <| q_tn <| wp_ret <| fin1 F rfl rfl ?_
                  exact ⟨(M.weaken (.cons _ (List.Sublist.refl _))), false, rfl, (by clear F M; unfold AloneP; grind)⟩
              · skip
                have h59b := hc; clear hc
                have h59 : ¬ (x.text = ([] : List UInt8)) := of_decide_eq_false h59b
                iterate 4 (refine rl_guard_f F rfl rfl rfl h59b ?_; clear F a; intro a F)
                refine rl_run F (run_pick_f (F.ev rfl) h59b (F.ev rfl)) rfl ?_; clear F a; intro a F
                refine rl_run F (run_move (F.ev rfl)) rfl ?_; clear F a; intro a F
                iterate 4 (refine rl_guard_f F rfl rfl rfl rfl ?_; clear F a; intro a F)
                refine rl_run F (run_pick_f (F.ev rfl) rfl (F.ev rfl)) rfl ?_; clear F a; intro a F
                refine rl_run F (run_assign (F.ev rfl)) rfl ?_; clear F a; intro a F
                refine rl_nil <| q_tn <| wp_ret <| fin1 F rfl rfl ?_
                exact ⟨(M.weaken (.cons _ (List.Sublist.refl _))), false, rfl, (by clear F M; unfold AloneP; grind)⟩
            · skip
              have h60b := hc; clear hc
              have h60 : ¬ (x.key = ([] : List UInt8)) := of_decide_eq_false h60b
              iterate 3 (refine rl_guard_f F rfl rfl rfl h60b ?_; clear F a; intro a F)
              refine rl_run F (run_pick_f (F.ev rfl) h60b (F.ev rfl)) rfl ?_; clear F a; intro a F
              refine rl_run F (run_move (F.ev rfl)) rfl ?_; clear F a; intro a F
              iterate 4 (refine rl_guard_f F rfl rfl rfl rfl ?_; clear F a; intro a F)
              refine rl_run F (run_pick_f (F.ev rfl) rfl (F.ev rfl)) rfl ?_; clear F a; intro a F
              refine rl_run F (run_move (F.ev rfl)) rfl ?_; clear F a; intro a F
              iterate 4 (refine rl_guard_f F rfl rfl rfl rfl ?_; clear F a; intro a F)
              refine rl_run F (run_pick_f (F.ev rfl) rfl (F.ev rfl)) rfl ?_; clear F a; intro a F
              refine rl_run F (run_assign (F.ev rfl)) rfl ?_; clear F a; intro a F
              refine rl_nil <| q_tn <| wp_ret <| fin1 F rfl rfl ?_
              exact ⟨(M.weaken (.cons _ (List.Sublist.refl _))), false, rfl, (by clear F M; unfold AloneP; grind)⟩
          · skip
            have h61b := hc; clear hc
            have h61 : ¬ (x.tag = ([] : List UInt8)) := of_decide_eq_false h61b
            iterate 3 (refine rl_guard_f F rfl rfl rfl h61b ?_; clear F a; intro a F)
            refine rl_run F (run_pick_f (F.ev rfl) h61b (F.ev rfl)) rfl ?_; clear F a; intro a F
            refine rl_run F (run_move (F.ev rfl)) rfl ?_; clear F a; intro a F
            iterate 3 (refine rl_guard_f F rfl rfl rfl rfl ?_; clear F a; intro a F)
            refine rl_run F (run_pick_f (F.ev rfl) rfl (F.ev rfl)) rfl ?_; clear F a; intro a F
            refine rl_run F (run_move (F.ev rfl)) rfl ?_; clear F a; intro a F
            iterate 4 (refine rl_guard_f F rfl rfl rfl rfl ?_; clear F a; intro a F)
            refine rl_run F (run_pick_f (F.ev rfl) rfl (F.ev rfl)) rfl ?_; clear F a; intro a F
            refine rl_run F (run_move (F.ev rfl)) rfl ?_; clear F a; intro a F
            iterate 4 (refine rl_guard_f F rfl rfl rfl rfl ?_; clear F a; intro a F)
            refine rl_run F (run_pick_f (F.ev rfl) rfl (F.ev rfl)) rfl ?_; clear F a; intro a F
            refine rl_run F (run_assign (F.ev rfl)) rfl ?_; clear F a; intro a F
            refine rl_nil <| q_tn <| wp_ret <| fin1 F rfl rfl ?_
            exact ⟨(M.weaken (.cons _ (List.Sublist.refl _))), false, rfl, (by clear F M; unfold AloneP; grind)⟩
        · intro hc
          have h62b := hc; clear hc
          have h62 : ¬ (x.kind = 3) := of_decide_eq_false h62b
          refine w_reg <| rl_run F (run_eqi (F.ev rfl) (F.ev rfl)) rfl ?_; clear F a; intro a F
          refine rl_run F (run_assign (F.ev rfl)) rfl ?_; clear F a; intro a F
          refine rl_nil <| q_tn <| w_cond F rfl ?_ ?_
          · intro hc
            have h63b := hc; clear hc
            have h63 : x.kind = 4 := of_decide_eq_true h63b
            refine wp_exit <| q_te <| q_be rfl ?_
            refine q_te <| q_be rfl ?_
            refine q_te <| q_be rfl ?_
            refine q_te <| q_bh <| q_tn <| wp_exit <| q_be rfl ?_
            refine q_te <| q_bh <| q_tn <| wp_seq <| w_reg <| rl_run F (run_fieldAddr tok46.k rfl rfl (F.ev rfl)) rfl ?_; clear F a; intro a F
            refine rl_run F (run_load1 (agf tok9 rfl) (F.ev rfl) (M.cellL (k := 0) rfl rfl)) rfl ?_; clear F a; intro a F
            refine rl_run F (run_strEq (F.ev rfl) (F.ev rfl)) rfl ?_; clear F a; intro a F
            refine rl_run F (run_move (F.ev rfl)) rfl ?_; clear F a; intro a F
            rcases Bool.eq_false_or_eq_true (decide (x.tag = ([] : List UInt8))) with hc | hc
            · skip
              have h64b := hc; clear hc
              have h64 : x.tag = ([] : List UInt8) := of_decide_eq_true h64b
              refine rl_guard_t F rfl rfl rfl h64b ?_
              refine rl_run F (run_fieldAddr tok46.k rfl rfl (F.ev rfl)) rfl ?_; clear F a; intro a F
              refine rl_guard_t F rfl rfl rfl h64b ?_
              refine rl_run F (run_load1 (agf tok9 rfl) (F.ev rfl) (M.cellL (k := 0) rfl rfl)) rfl ?_; clear F a; intro a F
              refine rl_guard_t F rfl rfl rfl h64b ?_
              refine rl_run F (run_strEq (F.ev rfl) (F.ev rfl)) rfl ?_; clear F a; intro a F
              refine rl_run F (run_pick_t (F.ev rfl) h64b (F.ev rfl)) rfl ?_; clear F a; intro a F
              refine rl_run F (run_move (F.ev rfl)) rfl ?_; clear F a; intro a F
              rcases Bool.eq_false_or_eq_true (decide (x.key = ([] : List UInt8))) with hc | hc
              · skip
                have h65b := hc; clear hc
                have h65 : x.key = ([] : List UInt8) := of_decide_eq_true h65b
                refine rl_guard_t F rfl rfl rfl h65b ?_
                refine rl_run F (run_fieldAddr tok46.k rfl rfl (F.ev rfl)) rfl ?_; clear F a; intro a F
                refine rl_guard_t F rfl rfl rfl h65b ?_
                refine rl_run F (run_load1 (agf tok9 rfl) (F.ev rfl) (M.cellL (k := 0) rfl rfl)) rfl ?_; clear F a; intro a F
                refine rl_guard_t F rfl rfl rfl h65b ?_
                refine rl_run F (run_strEq (F.ev rfl) (F.ev rfl)) rfl ?_; clear F a; intro a F
                refine rl_run F (run_pick_t (F.ev rfl) h65b (F.ev rfl)) rfl ?_; clear F a; intro a F
                refine rl_run F (run_move (F.ev rfl)) rfl ?_; clear F a; intro a F
                rcases Bool.eq_false_or_eq_true (decide (x.text = ([] : List UInt8))) with hc | hc
                · skip
                  have h66b := hc; clear hc
                  have h66 : x.text = ([] : List UInt8) := of_decide_eq_true h66b
                  refine rl_guard_t F rfl rfl rfl h66b ?_
                  refine rl_run F (run_fieldAddr tok46.k rfl rfl (F.ev rfl)) rfl ?_; clear F a; intro a F
                  refine rl_guard_t F rfl rfl rfl h66b ?_
                  refine rl_run F (run_load1 (agf tok43 rfl) (F.ev rfl) (M.cellL (k := 0) rfl rfl)) rfl ?_; clear F a; intro a F
                  refine rl_guard_t F rfl rfl rfl h66b ?_
                  refine rl_run F (run_lenSl tok43.k (F.ev rfl)) rfl ?_; clear F a; intro a F
                  refine rl_guard_t F rfl rfl rfl h66b ?_
                  refine rl_run F (run_eqi (F.ev rfl) (F.ev rfl)) rfl ?_; clear F a; intro a F
                  refine rl_run F (run_pick_t (F.ev rfl) h66b (F.ev rfl)) rfl ?_; clear F a; intro a F
                  refine rl_run F (run_move (F.ev rfl)) rfl ?_; clear F a; intro a F
                  rcases Bool.eq_false_or_eq_true (decide (((x.as.length : Nat) : Int) = 0)) with hc | hc
                  · skip
                    have h67b := hc; clear hc
                    have h67 : ((x.as.length : Nat) : Int) = 0 := of_decide_eq_true h67b
                    refine rl_guard_t F rfl rfl rfl h67b ?_
                    refine rl_run F (run_fieldAddr tok46.k rfl rfl (F.ev rfl)) rfl ?_; clear F a; intro a F
                    refine rl_guard_t F rfl rfl rfl h67b ?_
                    refine rl_run F (run_load1 (agf tok44 rfl) (F.ev rfl) (M.cellL (k := 0) rfl rfl)) rfl ?_; clear F a; intro a F
                    refine rl_guard_t F rfl rfl rfl h67b ?_
                    refine rl_run F (run_lenSl tok44.k (F.ev rfl)) rfl ?_; clear F a; intro a F
                    refine rl_guard_t F rfl rfl rfl h67b ?_
                    refine rl_run F (run_eqi (F.ev rfl) (F.ev rfl)) rfl ?_; clear F a; intro a F
                    refine rl_run F (run_pick_t (F.ev rfl) h67b (F.ev rfl)) rfl ?_; clear F a; intro a F
                    refine rl_run F (run_assign (F.ev rfl)) rfl ?_; clear F a; intro a F
                    refine rl_nil <| q_tn <| wp_ret <| fin1 F rfl rfl ?_
                    exact ⟨(M.weaken (.cons _ (List.Sublist.refl _))), (decide (((x.kids.length : Nat) : Int) = 0)), rfl, (by clear F M; unfold AloneP; grind)⟩
                  · skip
                    have h68b := hc; clear hc
                    have h68 : ¬ (((x.as.length : Nat) : Int) = 0) := of_decide_eq_false h68b
                    iterate 4 (refine rl_guard_f F rfl rfl rfl h68b ?_; clear F a; intro a F)
                    refine rl_run F (run_pick_f (F.ev rfl) h68b (F.ev rfl)) rfl ?_; clear F a; intro a F
                    refine rl_run F (run_assign (F.ev rfl)) rfl ?_; clear F a; intro a F
                    refine rl_nil <| q_tn <| wp_ret <| fin1 F rfl rfl ?_
                    exact ⟨(M.weaken (.cons _ (List.Sublist.refl _))), false, rfl, (by clear F M; unfold AloneP; grind)⟩
                · skip
                  have h69b := hc; clear hc
                  have h69 : ¬ (x.text = ([] : List UInt8)) := of_decide_eq_false h69b
                  iterate 4 (refine rl_guard_f F rfl rfl rfl h69b ?_; clear F a; intro a F)
                  refine rl_run F (run_pick_f (F.ev rfl) h69b (F.ev rfl)) rfl ?_; clear F a; intro a F
                  refine rl_run F (run_move (F.ev rfl)) rfl ?_; clear F a; intro a F
                  iterate 4 (refine rl_guard_f F rfl rfl rfl rfl ?_; clear F a; intro a F)
                  refine rl_run F (run_pick_f (F.ev rfl) rfl (F.ev rfl)) rfl ?_; clear F a; intro a F
                  refine rl_run F (run_assign (F.ev rfl)) rfl ?_; clear F a; intro a F
                  refine rl_nil <| q_tn <| wp_ret <| fin1 F rfl rfl ?_
                  exact ⟨(M.weaken (.cons _ (List.Sublist.refl _))), false, rfl, (by clear F M; unfold AloneP; grind)⟩
              · skip
                have h70b := hc; clear hc
                have h70 : ¬ (x.key = ([] : List UInt8)) := of_decide_eq_false h70b
                iterate 3 (refine rl_guard_f F rfl rfl rfl h70b ?_; clear F a; intro a F)
                refine rl_run F (run_pick_f (F.ev rfl) h70b (F.ev rfl)) rfl ?_; clear F a; intro a F
                refine rl_run F (run_move (F.ev rfl)) rfl ?_; clear F a; intro a F
                iterate 4 (refine rl_guard_f F rfl rfl rfl rfl ?_; clear F a; intro a F)
                refine rl_run F (run_pick_f (F.ev rfl) rfl (F.ev rfl)) rfl ?_; clear F a; intro a F
                refine rl_run F (run_move (F.ev rfl)) rfl ?_; clear F a; intro a F
                iterate 4 (refine rl_guard_f F rfl rfl rfl rfl ?_; clear F a; intro a F)
                refine rl_run F (run_pick_f (F.ev rfl) rfl (F.ev rfl)) rfl ?_; clear F a; intro a F
                refine rl_run F (run_assign (F.ev rfl)) rfl ?_; clear F a; intro a F
                refine rl_nil <| q_tn <| wp_ret <| fin1 F rfl rfl ?_
                exact ⟨(M.weaken (.cons _ (List.Sublist.refl _))), false, rfl, (by clear F M; unfold AloneP; grind)⟩
            · skip
              have h71b := hc; clear hc
              have h71 : ¬ (x.tag = ([] : List UInt8)) := of_decide_eq_false h71b
              iterate 3 (refine rl_guard_f F rfl rfl rfl h71b ?_; clear F a; intro a F)
              refine rl_run F (run_pick_f (F.ev rfl) h71b (F.ev rfl)) rfl ?_; clear F a; intro a F
              refine rl_run F (run_move (F.ev rfl)) rfl ?_; clear F a; intro a F
              iterate 3 (refine rl_guard_f F rfl rfl rfl rfl ?_; clear F a; intro a F)
              refine rl_run F (run_pick_f (F.ev rfl) rfl (F.ev rfl)) rfl ?_; clear F a; intro a F
              refine rl_run F (run_move (F.ev rfl)) rfl ?_; clear F a; intro a F
              iterate 4 (refine rl_guard_f F rfl rfl rfl rfl ?_; clear F a; intro a F)
              refine rl_run F (run_pick_f (F.ev rfl) rfl (F.ev rfl)) rfl ?_; clear F a; intro a F
              refine rl_run F (run_move (F.ev rfl)) rfl ?_; clear F a; intro a F
              iterate 4 (refine rl_guard_f F rfl rfl rfl rfl ?_; clear F a; intro a F)
              refine rl_run F (run_pick_f (F.ev rfl) rfl (F.ev rfl)) rfl ?_; clear F a; intro a F
              refine rl_run F (run_assign (F.ev rfl)) rfl ?_; clear F a; intro a F
              refine rl_nil <| q_tn <| wp_ret <| fin1 F rfl rfl ?_
              exact ⟨(M.weaken (.cons _ (List.Sublist.refl _))), false, rfl, (by clear F M; unfold AloneP; grind)⟩
          · intro hc
            have h72b := hc; clear hc
            have h72 : ¬ (x.kind = 4) := of_decide_eq_false h72b
            refine wp_skip <| q_tn <| wp_exit <| q_be rfl ?_
            refine q_te <| q_be rfl ?_
            refine q_te <| q_be rfl ?_
            refine q_te <| q_be rfl ?_
            refine q_te <| q_bh <| q_tn ?_
            iterate 2 (refine wp_seq ?_)
            refine w_reg <| rl_run F (run_assign (F.ev rfl)) rfl ?_; clear F a; intro a F
            refine rl_nil <| q_tn <| wp_ret <| q_tr <| q_br <| q_tr <| fin1 F rfl rfl ?_
            exact ⟨(M.weaken (.cons _ (List.Sublist.refl _))), false, rfl, (by clear F M; unfold AloneP; grind)⟩
end Go.Proofs.YtlnehkjmmegkhaaGreat
