/- The walks, part C. -/
import Derived.Test.YtmmhmcplegpenaaDoorWalkB
namespace Go.Proofs.YtmmhmcplegpenaaDoor
open Go Go.Y Go.Proofs
set_option linter.unusedSimpArgs false
set_option linter.unusedVariables false
theorem eqs_spec {w0 w : World} {G : Ghost} {L : List Res} (M : Mem w0 G L w) {a1 a2 : Option Addr} {c1 c2 : Nat} {xs ys : List (List UInt8)} (S : RdSl rdStr 1 G (.slice a1 xs.length c1) xs) (T : RdSl rdStr 1 G (.slice a2 ys.length c2) ys) : Calls Tryd.prog 40 #[.slice a1 xs.length c1, .slice a2 ys.length c2] w (RetS w0 G L fun v => ∃ b : Bool, v = .bool b ∧ (b = true ↔ xs = ys)) := by
 have bS := S.bound
 have bT := T.bound
 refine calls_start (vs := [_, _]) Tryd.func40 rfl (n := 26) rfl rfl ?_
 intro a F
 refine wp_seq <| w_reg <| rl_run F (run_assign (F.ev rfl)) rfl ?_; clear F a; intro a F
 refine rl_nil <| q_tn ?_
 iterate 2 (refine wp_seq ?_)
 refine w_reg <| rl_run F (run_move (F.ev rfl)) rfl ?_; clear F a; intro a F
 refine rl_run F (run_lenSl tok28.k (F.ev rfl)) rfl ?_; clear F a; intro a F
 refine rl_run F (run_move (F.ev rfl)) rfl ?_; clear F a; intro a F
 refine rl_run F (run_lenSl tok28.k (F.ev rfl)) rfl ?_; clear F a; intro a F
 refine rl_run F (run_nei (F.ev rfl) (F.ev rfl)) rfl ?_; clear F a; intro a F
 refine rl_nil <| q_tn <| w_cond F rfl ?_ ?_
 ·intro hc
  have h1b := hc; clear hc
  have h1 : ¬ (((xs.length : Nat) : Int) = ((ys.length : Nat) : Int)) := of_decide_eq_false (of_not_t h1b)
  have h1c : (decide (((xs.length : Nat) : Int) = ((ys.length : Nat) : Int))) = false := (of_not_t h1b)
  refine wp_seq <| w_reg <| rl_run F (run_assign (F.ev rfl)) rfl ?_; clear F a; intro a F
  refine rl_nil <| q_tn <| wp_ret <| q_tr <| fin1 F rfl rfl ?_
  exact ⟨M, false, rfl, ⟨fun h_ => (by cases h_), fun h_ => absurd (congrArg List.length h_) (by omega)⟩⟩
 ·intro hc
  have h2b := hc; clear hc
  have h2 : ((xs.length : Nat) : Int) = ((ys.length : Nat) : Int) := of_decide_eq_true (of_not_f h2b)
  have h2c : (decide (((xs.length : Nat) : Int) = ((ys.length : Nat) : Int))) = true := (of_not_f h2b)
  refine wp_skip <| q_tn ?_
  iterate 2 (refine wp_seq ?_)
  refine w_reg <| rl_run F (run_move (F.ev rfl)) rfl ?_; clear F a; intro a F
  refine rl_run F (run_lenSl tok28.k (F.ev rfl)) rfl ?_; clear F a; intro a F
  refine rl_run F (run_move (F.ev rfl)) rfl ?_; clear F a; intro a F
  refine rl_nil <| q_tn <| wp_block <| w_loopN (fun m a' w' => ∃ (i : Nat), m = xs.length - i ∧ Fits 26 a' [(0, .slice (a1) (xs.length) (c1)), (1, .slice (a2) (ys.length) (c2)), (12, .int .i64 (((xs.length : Nat) : Int))), (13, .int .i64 (((i : Nat) : Int)))] ∧ Mem w0 G (L) w' ∧ (i ≤ xs.length) ∧ (∀ m, m < i → xs[m]? = ys[m]?)) _ ⟨0, rfl, F.to ⟨rfl, rfl, rfl, rfl, trivial⟩, M, Nat.zero_le _, fun m h => by omega⟩ ?_
  clear F M
  rintro m a w ⟨i, rfl, F, M, hi, hA⟩
  refine wp_seq <| w_reg <| rl_run F (run_lss (F.ev rfl) (F.ev rfl)) rfl ?_; clear F a; intro a F
  refine rl_nil <| q_tn <| wp_seq <| w_cond F rfl ?_ ?_
  ·intro hc
   have h3b := hc; clear hc
   have h3 : ((i : Nat) : Int) < ((xs.length : Nat) : Int) := of_decide_eq_true h3b
   refine wp_skip <| q_tn <| wp_seq <| wp_block <| wp_seq <| w_reg <| rl_run F (run_move (F.ev rfl)) rfl ?_; clear F a; intro a F
   refine rl_run F (run_assign (F.ev rfl)) rfl ?_; clear F a; intro a F
   refine rl_nil <| q_tn <| wp_seq <| w_plan [(true, 0), (true, 1), (true, 2), (true, 3), (true, 4), (true, 5), (true, 6), (true, 7), (true, 8)] (Keep G []) rfl (by kernel_rfl) (fun c a d v w h => by cases d <;> exact h) ((M.drew _).keep (Gle.refl _) (by simp)) ?_
   replace M := M.drew (w.drawn + 1)
   iterate 2 (refine pl_run F (fun w M => run_move (F.ev rfl)) rfl ?_; clear F a; intro a F)
   obtain ⟨Xe4, hXe4⟩ := get_of_lt (xs := xs) (i := i) (by omega)
   obtain ⟨be4, oe4, _, Ie4, _, Ae4, ⟨rfl, hsle4⟩⟩ := S.at hXe4
   refine pl_run F (fun w M => run_indexI tok28.k tok9 (F.ev rfl) (F.ev rfl) (by omega) Ie4) rfl ?_; clear F a; intro a F
   refine pl_run F (fun w M => run_load1 (agf tok9 rfl) (F.ev rfl) (M.cellA Ae4 0 (by omega) rfl)) rfl ?_; clear F a; intro a F
   iterate 2 (refine pl_run F (fun w M => run_move (F.ev rfl)) rfl ?_; clear F a; intro a F)
   obtain ⟨Xe5, hXe5⟩ := get_of_lt (xs := ys) (i := i) (by omega)
   obtain ⟨be5, oe5, _, Ie5, _, Ae5, ⟨rfl, hsle5⟩⟩ := T.at hXe5
   refine pl_run F (fun w M => run_indexI tok28.k tok9 (F.ev rfl) (F.ev rfl) (by omega) Ie5) rfl ?_; clear F a; intro a F
   refine pl_run F (fun w M => run_load1 (agf tok9 rfl) (F.ev rfl) (M.cellA Ae5 0 (by omega) rfl)) rfl ?_; clear F a; intro a F
   refine pl_run F (fun w M => run_strNe (F.ev rfl) (F.ev rfl)) rfl ?_; clear F a; intro a F
   refine pl_nil ?_
   generalize ({ w with drawn := w.drawn + 1 } : World) = w at M ⊢
   refine q_tn <| w_cond F rfl ?_ ?_
   ·intro hc
    have h6b := hc; clear hc
    have h6 : ¬ (Xe4 = Xe5) := of_decide_eq_false (of_not_t h6b)
    have h6c : (decide (Xe4 = Xe5)) = false := (of_not_t h6b)
    refine wp_seq <| w_reg <| rl_run F (run_assign (F.ev rfl)) rfl ?_; clear F a; intro a F
    refine rl_nil <| q_tn <| wp_ret <| q_br ?_
    iterate 2 (refine q_tr ?_)
    refine q_br <| q_tr <| fin1 F rfl rfl ?_
    exact ⟨M, false, rfl, ⟨fun h_ => (by cases h_), fun h_ => absurd h_ (ne_of_get hXe4 hXe5 (by assumption))⟩⟩
   ·intro hc
    have h7b := hc; clear hc
    have h7 : Xe4 = Xe5 := of_decide_eq_true (of_not_f h7b)
    have h7c : (decide (Xe4 = Xe5)) = true := (of_not_f h7b)
    refine wp_skip <| q_bn <| q_tn <| w_reg <| rl_run F (run_addi (F.ev rfl) (F.ev rfl) (in_i64 (by omega) (by omega))) rfl ?_; clear F a; intro a F
    refine rl_run F (run_move (F.ev rfl)) rfl ?_; clear F a; intro a F
    refine rl_nil <| q_tn ?_
    exact ⟨_, by omega, i + 1, rfl, F.to ⟨rfl, rfl, rfl, rfl, trivial⟩, M, by omega, eq_step hA hXe4 hXe5 (by assumption)⟩
  ·intro hc
   have h8b := hc; clear hc
   have h8 : ¬ (((i : Nat) : Int) < ((xs.length : Nat) : Int)) := of_decide_eq_false h8b
   refine wp_exit ?_
   iterate 2 (refine q_te ?_)
   refine q_bh <| q_tn <| wp_seq <| w_reg <| rl_run F (run_assign (F.ev rfl)) rfl ?_; clear F a; intro a F
   refine rl_nil <| q_tn <| wp_ret <| fin1 F rfl rfl ?_
   exact ⟨M, true, rfl, ⟨fun _ => eq_end hA (by omega) (by omega), fun _ => rfl⟩⟩
theorem same_spec {w0 w : World} {G : Ghost} {L : List Res} (M : Mem w0 G L w) {x : ItemD} {max : Option Addr} {mcx : Nat} (hIx : (x.key < 18446744073709551616 ∧ x.typ < 256 ∧ x.text.length ≤ 9223372036854775807)) (SMx : RdSl rdStr 1 G (.slice max x.marks.length mcx) x.marks) {y : ItemD} {may : Option Addr} {mcy : Nat} (hIy : (y.key < 18446744073709551616 ∧ y.typ < 256 ∧ y.text.length ≤ 9223372036854775807)) (SMy : RdSl rdStr 1 G (.slice may y.marks.length mcy) y.marks) : Calls Tryd.prog 16 #[.agg #[.int .u64 (((x.key : Nat) : Int)), .int .u8 (((x.typ : Nat) : Int)), .string (str (x.text)), .slice (max) (x.marks.length) (mcx)], .agg #[.int .u64 (((y.key : Nat) : Int)), .int .u8 (((y.typ : Nat) : Int)), .string (str (y.text)), .slice (may) (y.marks.length) (mcy)]] w (RetS w0 G L fun v => ∃ b : Bool, v = .bool b ∧ (b = true ↔ x = y)) := by
 refine calls_start (vs := [_, _]) Tryd.func16 rfl (n := 31) rfl rfl ?_
 intro a F
 refine wp_seq <| w_reg <| rl_box F M rfl (cs := [.int .u64 (((x.key : Nat) : Int)), .int .u8 (((x.typ : Nat) : Int)), .string (str (x.text)), .slice (max) (x.marks.length) (mcx)]) rfl rfl ?_; clear F M a; intro b1 w a M F
 refine rl_box F M rfl (cs := [.int .u64 (((y.key : Nat) : Int)), .int .u8 (((y.typ : Nat) : Int)), .string (str (y.text)), .slice (may) (y.marks.length) (mcy)]) rfl rfl ?_; clear F M a; intro b2 w a M F
 refine rl_run F (run_assign (F.ev rfl)) rfl ?_; clear F a; intro a F
 refine rl_nil <| q_tn <| wp_seq <| w_reg <| rl_run F (run_fieldAddr tok30.k rfl rfl (F.ev rfl)) rfl ?_; clear F a; intro a F
 refine rl_run F (run_load1 (agf tok27 rfl) (F.ev rfl) (M.cellL (k := 1) rfl rfl)) rfl ?_; clear F a; intro a F
 refine rl_run F (run_fieldAddr tok30.k rfl rfl (F.ev rfl)) rfl ?_; clear F a; intro a F
 refine rl_run F (run_load1 (agf tok27 rfl) (F.ev rfl) (M.cellL (k := 0) rfl rfl)) rfl ?_; clear F a; intro a F
 refine rl_run F (run_eqi (F.ev rfl) (F.ev rfl)) rfl ?_; clear F a; intro a F
 refine rl_run F (run_move (F.ev rfl)) rfl ?_; clear F a; intro a F
 rcases Bool.eq_false_or_eq_true (decide (((x.key : Nat) : Int) = ((y.key : Nat) : Int))) with hc | hc
 ·skip
  have h3b := hc; clear hc
  have h3 : ((x.key : Nat) : Int) = ((y.key : Nat) : Int) := of_decide_eq_true h3b
  refine rl_guard_t F rfl rfl rfl h3b ?_
  refine rl_run F (run_fieldAddr tok30.k rfl rfl (F.ev rfl)) rfl ?_; clear F a; intro a F
  refine rl_guard_t F rfl rfl rfl h3b ?_
  refine rl_run F (run_load1 (agf tok5 rfl) (F.ev rfl) (M.cellL (k := 1) rfl rfl)) rfl ?_; clear F a; intro a F
  refine rl_guard_t F rfl rfl rfl h3b ?_
  refine rl_run F (run_fieldAddr tok30.k rfl rfl (F.ev rfl)) rfl ?_; clear F a; intro a F
  refine rl_guard_t F rfl rfl rfl h3b ?_
  refine rl_run F (run_load1 (agf tok5 rfl) (F.ev rfl) (M.cellL (k := 0) rfl rfl)) rfl ?_; clear F a; intro a F
  refine rl_guard_t F rfl rfl rfl h3b ?_
  refine rl_run F (run_eqi (F.ev rfl) (F.ev rfl)) rfl ?_; clear F a; intro a F
  refine rl_run F (run_pick_t (F.ev rfl) h3b (F.ev rfl)) rfl ?_; clear F a; intro a F
  refine rl_run F (run_move (F.ev rfl)) rfl ?_; clear F a; intro a F
  rcases Bool.eq_false_or_eq_true (decide (((x.typ : Nat) : Int) = ((y.typ : Nat) : Int))) with hc | hc
  ·skip
   have h4b := hc; clear hc
   have h4 : ((x.typ : Nat) : Int) = ((y.typ : Nat) : Int) := of_decide_eq_true h4b
   refine rl_guard_t F rfl rfl rfl h4b ?_
   refine rl_run F (run_fieldAddr tok30.k rfl rfl (F.ev rfl)) rfl ?_; clear F a; intro a F
   refine rl_guard_t F rfl rfl rfl h4b ?_
   refine rl_run F (run_load1 (agf tok9 rfl) (F.ev rfl) (M.cellL (k := 1) rfl rfl)) rfl ?_; clear F a; intro a F
   refine rl_guard_t F rfl rfl rfl h4b ?_
   refine rl_run F (run_fieldAddr tok30.k rfl rfl (F.ev rfl)) rfl ?_; clear F a; intro a F
   refine rl_guard_t F rfl rfl rfl h4b ?_
   refine rl_run F (run_load1 (agf tok9 rfl) (F.ev rfl) (M.cellL (k := 0) rfl rfl)) rfl ?_; clear F a; intro a F
   refine rl_guard_t F rfl rfl rfl h4b ?_
   refine rl_run F (run_strEq (F.ev rfl) (F.ev rfl)) rfl ?_; clear F a; intro a F
   refine rl_run F (run_pick_t (F.ev rfl) h4b (F.ev rfl)) rfl ?_; clear F a; intro a F
   refine rl_run F (run_move (F.ev rfl)) rfl ?_; clear F a; intro a F
   rcases Bool.eq_false_or_eq_true (decide (x.text = y.text)) with hc | hc
   ·skip
    have h5b := hc; clear hc
    have h5 : x.text = y.text := of_decide_eq_true h5b
    refine rl_guard_t F rfl rfl rfl h5b ?_
    refine rl_run F (run_fieldAddr tok30.k rfl rfl (F.ev rfl)) rfl ?_; clear F a; intro a F
    refine rl_guard_t F rfl rfl rfl h5b ?_
    refine rl_run F (run_load1 (agf tok28 rfl) (F.ev rfl) (M.cellL (k := 1) rfl rfl)) rfl ?_; clear F a; intro a F
    refine rl_guard_t F rfl rfl rfl h5b ?_
    refine rl_run F (run_fieldAddr tok30.k rfl rfl (F.ev rfl)) rfl ?_; clear F a; intro a F
    refine rl_guard_t F rfl rfl rfl h5b ?_
    refine rl_run F (run_load1 (agf tok28 rfl) (F.ev rfl) (M.cellL (k := 0) rfl rfl)) rfl ?_; clear F a; intro a F
    refine rl_guard_t F rfl rfl rfl h5b ?_
    refine rl_callS F ent40 rfl rfl (eqs_spec (xs := x.marks) (ys := y.marks) M SMx SMy) ?_; clear F M a; rintro _ w a M ⟨b6, rfl, hb6⟩ F
    refine rl_run F (run_pick_t (F.ev rfl) h5b (F.ev rfl)) rfl ?_; clear F a; intro a F
    refine rl_run F (run_assign (F.ev rfl)) rfl ?_; clear F a; intro a F
    refine rl_nil <| q_tn <| wp_ret <| fin1 F rfl rfl ?_
    exact ⟨M.weaken (.cons _ (.cons _ (List.Sublist.refl _))), (b6), rfl, ⟨fun h_ => (by first | (cases h_; done) | exact item_ext (by omega) (by omega) (by assumption) (hb6.1 h_)), fun h_ => (by subst h_; clear F M; grind)⟩⟩
   ·skip
    have h7b := hc; clear hc
    have h7 : ¬ (x.text = y.text) := of_decide_eq_false h7b
    iterate 5 (refine rl_guard_f F rfl rfl rfl h7b ?_; clear F a; intro a F)
    refine rl_run F (run_pick_f (F.ev rfl) h7b (F.ev rfl)) rfl ?_; clear F a; intro a F
    refine rl_run F (run_assign (F.ev rfl)) rfl ?_; clear F a; intro a F
    refine rl_nil <| q_tn <| wp_ret <| fin1 F rfl rfl ?_
    exact ⟨M.weaken (.cons _ (.cons _ (List.Sublist.refl _))), false, rfl, ⟨fun h_ => (by first | (cases h_; done) | exact item_ext (by omega) (by omega) (by assumption) (h0.1 h_)), fun h_ => (by subst h_; clear F M; grind)⟩⟩
  ·skip
   have h8b := hc; clear hc
   have h8 : ¬ (((x.typ : Nat) : Int) = ((y.typ : Nat) : Int)) := of_decide_eq_false h8b
   iterate 5 (refine rl_guard_f F rfl rfl rfl h8b ?_; clear F a; intro a F)
   refine rl_run F (run_pick_f (F.ev rfl) h8b (F.ev rfl)) rfl ?_; clear F a; intro a F
   refine rl_run F (run_move (F.ev rfl)) rfl ?_; clear F a; intro a F
   iterate 5 (refine rl_guard_f F rfl rfl rfl rfl ?_; clear F a; intro a F)
   refine rl_run F (run_pick_f (F.ev rfl) rfl (F.ev rfl)) rfl ?_; clear F a; intro a F
   refine rl_run F (run_assign (F.ev rfl)) rfl ?_; clear F a; intro a F
   refine rl_nil <| q_tn <| wp_ret <| fin1 F rfl rfl ?_
   exact ⟨M.weaken (.cons _ (.cons _ (List.Sublist.refl _))), false, rfl, ⟨fun h_ => (by first | (cases h_; done) | exact item_ext (by omega) (by omega) (by assumption) (h0.1 h_)), fun h_ => (by subst h_; clear F M; grind)⟩⟩
 ·skip
  have h9b := hc; clear hc
  have h9 : ¬ (((x.key : Nat) : Int) = ((y.key : Nat) : Int)) := of_decide_eq_false h9b
  iterate 5 (refine rl_guard_f F rfl rfl rfl h9b ?_; clear F a; intro a F)
  refine rl_run F (run_pick_f (F.ev rfl) h9b (F.ev rfl)) rfl ?_; clear F a; intro a F
  refine rl_run F (run_move (F.ev rfl)) rfl ?_; clear F a; intro a F
  iterate 5 (refine rl_guard_f F rfl rfl rfl rfl ?_; clear F a; intro a F)
  refine rl_run F (run_pick_f (F.ev rfl) rfl (F.ev rfl)) rfl ?_; clear F a; intro a F
  refine rl_run F (run_move (F.ev rfl)) rfl ?_; clear F a; intro a F
  iterate 5 (refine rl_guard_f F rfl rfl rfl rfl ?_; clear F a; intro a F)
  refine rl_run F (run_pick_f (F.ev rfl) rfl (F.ev rfl)) rfl ?_; clear F a; intro a F
  refine rl_run F (run_assign (F.ev rfl)) rfl ?_; clear F a; intro a F
  refine rl_nil <| q_tn <| wp_ret <| fin1 F rfl rfl ?_
  exact ⟨M.weaken (.cons _ (.cons _ (List.Sublist.refl _))), false, rfl, ⟨fun h_ => (by first | (cases h_; done) | exact item_ext (by omega) (by omega) (by assumption) (h0.1 h_)), fun h_ => (by subst h_; clear F M; grind)⟩⟩
theorem rsame_spec {w0 w : World} {G : Ghost} {L : List Res} (M : Mem w0 G L w) {x : ItemD} {max : Option Addr} {mcx : Nat} (hIx : (x.key < 18446744073709551616 ∧ x.typ < 256 ∧ x.text.length ≤ 9223372036854775807)) (SMx : RdSl rdStr 1 G (.slice max x.marks.length mcx) x.marks) {y : ItemD} {may : Option Addr} {mcy : Nat} (hIy : (y.key < 18446744073709551616 ∧ y.typ < 256 ∧ y.text.length ≤ 9223372036854775807)) (SMy : RdSl rdStr 1 G (.slice may y.marks.length mcy) y.marks) : Calls Tryd.prog 17 #[.agg #[.int .u64 (((x.key : Nat) : Int)), .int .u8 (((x.typ : Nat) : Int)), .string (str (x.text)), .slice (max) (x.marks.length) (mcx)], .agg #[.int .u64 (((y.key : Nat) : Int)), .int .u8 (((y.typ : Nat) : Int)), .string (str (y.text)), .slice (may) (y.marks.length) (mcy)]] w (RetS w0 G L fun v => v = .int .i64 (if x = y then (1 : Int) else 0)) := by
 refine calls_start (vs := [_, _]) Tryd.func17 rfl (n := 52) rfl rfl ?_
 intro a F
 refine wp_seq <| w_reg <| rl_box F M rfl (cs := [.int .u64 (((x.key : Nat) : Int)), .int .u8 (((x.typ : Nat) : Int)), .string (str (x.text)), .slice (max) (x.marks.length) (mcx)]) rfl rfl ?_; clear F M a; intro b1 w a M F
 refine rl_box F M rfl (cs := [.int .u64 (((y.key : Nat) : Int)), .int .u8 (((y.typ : Nat) : Int)), .string (str (y.text)), .slice (may) (y.marks.length) (mcy)]) rfl rfl ?_; clear F M a; intro b2 w a M F
 refine rl_run F (run_assign (F.ev rfl)) rfl ?_; clear F a; intro a F
 refine rl_nil <| q_tn ?_
 iterate 2 (refine wp_seq ?_)
 have bSM := SMx.bound
 refine w_reg <| rl_run F (run_fieldAddr tok30.k rfl rfl (F.ev rfl)) rfl ?_; clear F a; intro a F
 refine rl_run F (run_load1 (agf tok27 rfl) (F.ev rfl) (M.cellL (k := 1) rfl rfl)) rfl ?_; clear F a; intro a F
 refine rl_run F (run_fieldAddr tok30.k rfl rfl (F.ev rfl)) rfl ?_; clear F a; intro a F
 refine rl_run F (run_load1 (agf tok27 rfl) (F.ev rfl) (M.cellL (k := 0) rfl rfl)) rfl ?_; clear F a; intro a F
 refine rl_run F (run_nei (F.ev rfl) (F.ev rfl)) rfl ?_; clear F a; intro a F
 refine rl_run F (run_move (F.ev rfl)) rfl ?_; clear F a; intro a F
 rcases Bool.eq_false_or_eq_true (!(decide (((x.key : Nat) : Int) = ((y.key : Nat) : Int)))) with hc | hc
 ·skip
  have h3b := hc; clear hc
  have h3 : ¬ (((x.key : Nat) : Int) = ((y.key : Nat) : Int)) := of_decide_eq_false (of_not_t h3b)
  have h3c : (decide (((x.key : Nat) : Int) = ((y.key : Nat) : Int))) = false := (of_not_t h3b)
  iterate 5 (refine rl_guard_f F rfl rfl rfl (not_t h3c) ?_; clear F a; intro a F)
  refine rl_run F (run_pick_t (F.ev rfl) (not_t h3c) (F.ev rfl)) rfl ?_; clear F a; intro a F
  refine rl_run F (run_move (F.ev rfl)) rfl ?_; clear F a; intro a F
  iterate 5 (refine rl_guard_f F rfl rfl rfl rfl ?_; clear F a; intro a F)
  refine rl_run F (run_pick_t (F.ev rfl) rfl (F.ev rfl)) rfl ?_; clear F a; intro a F
  refine rl_run F (run_move (F.ev rfl)) rfl ?_; clear F a; intro a F
  iterate 7 (refine rl_guard_f F rfl rfl rfl rfl ?_; clear F a; intro a F)
  refine rl_run F (run_pick_t (F.ev rfl) rfl (F.ev rfl)) rfl ?_; clear F a; intro a F
  refine rl_nil <| q_tn <| w_cond_t F rfl rfl ?_
  refine wp_seq <| w_reg <| rl_run F (run_assign (F.ev rfl)) rfl ?_; clear F a; intro a F
  refine rl_nil <| q_tn <| wp_ret <| q_tr <| fin1 F rfl rfl ?_
  exact ⟨M.weaken (.cons _ (.cons _ (List.Sublist.refl _))), by rw [if_neg (fun h_ => by subst h_; clear F M; grind)]⟩
 ·skip
  have h4b := hc; clear hc
  have h4 : ((x.key : Nat) : Int) = ((y.key : Nat) : Int) := of_decide_eq_true (of_not_f h4b)
  have h4c : (decide (((x.key : Nat) : Int) = ((y.key : Nat) : Int))) = true := (of_not_f h4b)
  refine rl_guard_t F rfl rfl rfl (not_f h4c) ?_
  refine rl_run F (run_fieldAddr tok30.k rfl rfl (F.ev rfl)) rfl ?_; clear F a; intro a F
  refine rl_guard_t F rfl rfl rfl (not_f h4c) ?_
  refine rl_run F (run_load1 (agf tok5 rfl) (F.ev rfl) (M.cellL (k := 1) rfl rfl)) rfl ?_; clear F a; intro a F
  refine rl_guard_t F rfl rfl rfl (not_f h4c) ?_
  refine rl_run F (run_fieldAddr tok30.k rfl rfl (F.ev rfl)) rfl ?_; clear F a; intro a F
  refine rl_guard_t F rfl rfl rfl (not_f h4c) ?_
  refine rl_run F (run_load1 (agf tok5 rfl) (F.ev rfl) (M.cellL (k := 0) rfl rfl)) rfl ?_; clear F a; intro a F
  refine rl_guard_t F rfl rfl rfl (not_f h4c) ?_
  refine rl_run F (run_nei (F.ev rfl) (F.ev rfl)) rfl ?_; clear F a; intro a F
  refine rl_run F (run_pick_f (F.ev rfl) (not_f h4c) (F.ev rfl)) rfl ?_; clear F a; intro a F
  refine rl_run F (run_move (F.ev rfl)) rfl ?_; clear F a; intro a F
  rcases Bool.eq_false_or_eq_true (!(decide (((x.typ : Nat) : Int) = ((y.typ : Nat) : Int)))) with hc | hc
  ·skip
   have h5b := hc; clear hc
   have h5 : ¬ (((x.typ : Nat) : Int) = ((y.typ : Nat) : Int)) := of_decide_eq_false (of_not_t h5b)
   have h5c : (decide (((x.typ : Nat) : Int) = ((y.typ : Nat) : Int))) = false := (of_not_t h5b)
   iterate 5 (refine rl_guard_f F rfl rfl rfl (not_t h5c) ?_; clear F a; intro a F)
   refine rl_run F (run_pick_t (F.ev rfl) (not_t h5c) (F.ev rfl)) rfl ?_; clear F a; intro a F
   refine rl_run F (run_move (F.ev rfl)) rfl ?_; clear F a; intro a F
   iterate 7 (refine rl_guard_f F rfl rfl rfl rfl ?_; clear F a; intro a F)
   refine rl_run F (run_pick_t (F.ev rfl) rfl (F.ev rfl)) rfl ?_; clear F a; intro a F
   refine rl_nil <| q_tn <| w_cond_t F rfl rfl ?_
   refine wp_seq <| w_reg <| rl_run F (run_assign (F.ev rfl)) rfl ?_; clear F a; intro a F
   refine rl_nil <| q_tn <| wp_ret <| q_tr <| fin1 F rfl rfl ?_
   exact ⟨M.weaken (.cons _ (.cons _ (List.Sublist.refl _))), by rw [if_neg (fun h_ => by subst h_; clear F M; grind)]⟩
  ·skip
   have h6b := hc; clear hc
   have h6 : ((x.typ : Nat) : Int) = ((y.typ : Nat) : Int) := of_decide_eq_true (of_not_f h6b)
   have h6c : (decide (((x.typ : Nat) : Int) = ((y.typ : Nat) : Int))) = true := (of_not_f h6b)
   refine rl_guard_t F rfl rfl rfl (not_f h6c) ?_
   refine rl_run F (run_fieldAddr tok30.k rfl rfl (F.ev rfl)) rfl ?_; clear F a; intro a F
   refine rl_guard_t F rfl rfl rfl (not_f h6c) ?_
   refine rl_run F (run_load1 (agf tok9 rfl) (F.ev rfl) (M.cellL (k := 1) rfl rfl)) rfl ?_; clear F a; intro a F
   refine rl_guard_t F rfl rfl rfl (not_f h6c) ?_
   refine rl_run F (run_fieldAddr tok30.k rfl rfl (F.ev rfl)) rfl ?_; clear F a; intro a F
   refine rl_guard_t F rfl rfl rfl (not_f h6c) ?_
   refine rl_run F (run_load1 (agf tok9 rfl) (F.ev rfl) (M.cellL (k := 0) rfl rfl)) rfl ?_; clear F a; intro a F
   refine rl_guard_t F rfl rfl rfl (not_f h6c) ?_
   refine rl_run F (run_strNe (F.ev rfl) (F.ev rfl)) rfl ?_; clear F a; intro a F
   refine rl_run F (run_pick_f (F.ev rfl) (not_f h6c) (F.ev rfl)) rfl ?_; clear F a; intro a F
   refine rl_run F (run_move (F.ev rfl)) rfl ?_; clear F a; intro a F
   rcases Bool.eq_false_or_eq_true (!(decide (x.text = y.text))) with hc | hc
   ·skip
    have h7b := hc; clear hc
    have h7 : ¬ (x.text = y.text) := of_decide_eq_false (of_not_t h7b)
    have h7c : (decide (x.text = y.text)) = false := (of_not_t h7b)
    iterate 7 (refine rl_guard_f F rfl rfl rfl (not_t h7c) ?_; clear F a; intro a F)
    refine rl_run F (run_pick_t (F.ev rfl) (not_t h7c) (F.ev rfl)) rfl ?_; clear F a; intro a F
    refine rl_nil <| q_tn <| w_cond_t F rfl rfl ?_
    refine wp_seq <| w_reg <| rl_run F (run_assign (F.ev rfl)) rfl ?_; clear F a; intro a F
    refine rl_nil <| q_tn <| wp_ret <| q_tr <| fin1 F rfl rfl ?_
    exact ⟨M.weaken (.cons _ (.cons _ (List.Sublist.refl _))), by rw [if_neg (fun h_ => by subst h_; clear F M; grind)]⟩
   ·skip
    have h8b := hc; clear hc
    have h8 : x.text = y.text := of_decide_eq_true (of_not_f h8b)
    have h8c : (decide (x.text = y.text)) = true := (of_not_f h8b)
    refine rl_guard_t F rfl rfl rfl (not_f h8c) ?_
    refine rl_run F (run_fieldAddr tok30.k rfl rfl (F.ev rfl)) rfl ?_; clear F a; intro a F
    refine rl_guard_t F rfl rfl rfl (not_f h8c) ?_
    refine rl_run F (run_load1 (agf tok28 rfl) (F.ev rfl) (M.cellL (k := 1) rfl rfl)) rfl ?_; clear F a; intro a F
    refine rl_guard_t F rfl rfl rfl (not_f h8c) ?_
    refine rl_run F (run_lenSl tok28.k (F.ev rfl)) rfl ?_; clear F a; intro a F
    refine rl_guard_t F rfl rfl rfl (not_f h8c) ?_
    refine rl_run F (run_fieldAddr tok30.k rfl rfl (F.ev rfl)) rfl ?_; clear F a; intro a F
    refine rl_guard_t F rfl rfl rfl (not_f h8c) ?_
    refine rl_run F (run_load1 (agf tok28 rfl) (F.ev rfl) (M.cellL (k := 0) rfl rfl)) rfl ?_; clear F a; intro a F
    refine rl_guard_t F rfl rfl rfl (not_f h8c) ?_
    refine rl_run F (run_lenSl tok28.k (F.ev rfl)) rfl ?_; clear F a; intro a F
    refine rl_guard_t F rfl rfl rfl (not_f h8c) ?_
    refine rl_run F (run_nei (F.ev rfl) (F.ev rfl)) rfl ?_; clear F a; intro a F
    refine rl_run F (run_pick_f (F.ev rfl) (not_f h8c) (F.ev rfl)) rfl ?_; clear F a; intro a F
    refine rl_nil <| q_tn <| w_cond F rfl ?_ ?_
    ·intro hc
     have h9b := hc; clear hc
     have h9 : ¬ (((x.marks.length : Nat) : Int) = ((y.marks.length : Nat) : Int)) := of_decide_eq_false (of_not_t h9b)
     have h9c : (decide (((x.marks.length : Nat) : Int) = ((y.marks.length : Nat) : Int))) = false := (of_not_t h9b)
     refine wp_seq <| w_reg <| rl_run F (run_assign (F.ev rfl)) rfl ?_; clear F a; intro a F
     refine rl_nil <| q_tn <| wp_ret <| q_tr <| fin1 F rfl rfl ?_
     exact ⟨M.weaken (.cons _ (.cons _ (List.Sublist.refl _))), by rw [if_neg (fun h_ => by subst h_; clear F M; grind)]⟩
    ·intro hc
     have h10b := hc; clear hc
     have h10 : ((x.marks.length : Nat) : Int) = ((y.marks.length : Nat) : Int) := of_decide_eq_true (of_not_f h10b)
     have h10c : (decide (((x.marks.length : Nat) : Int) = ((y.marks.length : Nat) : Int))) = true := (of_not_f h10b)
     refine wp_skip <| q_tn ?_
     iterate 2 (refine wp_seq ?_)
     refine w_reg <| rl_run F (run_assign (F.ev rfl)) rfl ?_; clear F a; intro a F
     refine rl_nil <| q_tn <| wp_block <| w_loopN (fun m a' w' => ∃ (i : Nat), m = x.marks.length - i ∧ Fits 52 a' [(2, .pointer (some ⟨b1, 0, none⟩)), (3, .pointer (some ⟨b2, 0, none⟩)), (5, .int .i64 (((i : Nat) : Int)))] ∧ Mem w0 G (.blk b2 [.int .u64 (((y.key : Nat) : Int)), .int .u8 (((y.typ : Nat) : Int)), .string (str (y.text)), .slice (may) (y.marks.length) (mcy)] 30 :: .blk b1 [.int .u64 (((x.key : Nat) : Int)), .int .u8 (((x.typ : Nat) : Int)), .string (str (x.text)), .slice (max) (x.marks.length) (mcx)] 30 :: L) w' ∧ (i ≤ x.marks.length) ∧ (∀ m, m < i → x.marks[m]? = y.marks[m]?)) _ ⟨0, rfl, F.to ⟨rfl, rfl, rfl, trivial⟩, M, Nat.zero_le _, fun m h => by omega⟩ ?_
     clear F M
     rintro m a w ⟨i, rfl, F, M, hi, hA⟩
     iterate 2 (refine wp_seq ?_)
     refine w_reg <| rl_run F (run_move (F.ev rfl)) rfl ?_; clear F a; intro a F
     refine rl_run F (run_fieldAddr tok30.k rfl rfl (F.ev rfl)) rfl ?_; clear F a; intro a F
     refine rl_run F (run_load1 (agf tok28 rfl) (F.ev rfl) (M.cellL (k := 1) rfl rfl)) rfl ?_; clear F a; intro a F
     refine rl_run F (run_lenSl tok28.k (F.ev rfl)) rfl ?_; clear F a; intro a F
     refine rl_run F (run_lss (F.ev rfl) (F.ev rfl)) rfl ?_; clear F a; intro a F
     refine rl_nil <| q_tn <| w_cond F rfl ?_ ?_
     ·intro hc
      have h11b := hc; clear hc
      have h11 : ((i : Nat) : Int) < ((x.marks.length : Nat) : Int) := of_decide_eq_true h11b
      refine wp_skip <| q_tn <| wp_seq <| wp_block <| wp_seq <| w_plan [(true, 0), (true, 1), (true, 2), (true, 3), (true, 4), (true, 5), (true, 6), (true, 7), (true, 8), (true, 9), (true, 10)] (Keep G [.blk b2 [.int .u64 (((y.key : Nat) : Int)), .int .u8 (((y.typ : Nat) : Int)), .string (str (y.text)), .slice (may) (y.marks.length) (mcy)] 30, .blk b1 [.int .u64 (((x.key : Nat) : Int)), .int .u8 (((x.typ : Nat) : Int)), .string (str (x.text)), .slice (max) (x.marks.length) (mcx)] 30]) rfl (by kernel_rfl) (fun c a d v w h => by cases d <;> exact h) ((M.drew _).keep (Gle.refl _) (by simp)) ?_
      replace M := M.drew (w.drawn + 1)
      refine pl_run F (fun w M => run_fieldAddr tok30.k rfl rfl (F.ev rfl)) rfl ?_; clear F a; intro a F
      refine pl_run F (fun w M => run_load1 (agf tok28 rfl) (F.ev rfl) (M.cellL (k := 1) rfl rfl)) rfl ?_; clear F a; intro a F
      refine pl_run F (fun w M => run_move (F.ev rfl)) rfl ?_; clear F a; intro a F
      obtain ⟨Xe12, hXe12⟩ := get_of_lt (xs := x.marks) (i := i) (by omega)
      obtain ⟨be12, oe12, _, Ie12, _, Ae12, ⟨rfl, hsle12⟩⟩ := SMx.at hXe12
      refine pl_run F (fun w M => run_indexI tok28.k tok9 (F.ev rfl) (F.ev rfl) (by omega) Ie12) rfl ?_; clear F a; intro a F
      refine pl_run F (fun w M => run_load1 (agf tok9 rfl) (F.ev rfl) (M.cellA Ae12 0 (by omega) rfl)) rfl ?_; clear F a; intro a F
      refine pl_run F (fun w M => run_fieldAddr tok30.k rfl rfl (F.ev rfl)) rfl ?_; clear F a; intro a F
      refine pl_run F (fun w M => run_load1 (agf tok28 rfl) (F.ev rfl) (M.cellL (k := 0) rfl rfl)) rfl ?_; clear F a; intro a F
      refine pl_run F (fun w M => run_move (F.ev rfl)) rfl ?_; clear F a; intro a F
      obtain ⟨Xe13, hXe13⟩ := get_of_lt (xs := y.marks) (i := i) (by omega)
      obtain ⟨be13, oe13, _, Ie13, _, Ae13, ⟨rfl, hsle13⟩⟩ := SMy.at hXe13
      refine pl_run F (fun w M => run_indexI tok28.k tok9 (F.ev rfl) (F.ev rfl) (by omega) Ie13) rfl ?_; clear F a; intro a F
      refine pl_run F (fun w M => run_load1 (agf tok9 rfl) (F.ev rfl) (M.cellA Ae13 0 (by omega) rfl)) rfl ?_; clear F a; intro a F
      refine pl_run F (fun w M => run_strNe (F.ev rfl) (F.ev rfl)) rfl ?_; clear F a; intro a F
      refine pl_nil ?_
      generalize ({ w with drawn := w.drawn + 1 } : World) = w at M ⊢
      refine q_tn <| w_cond F rfl ?_ ?_
      ·intro hc
       have h14b := hc; clear hc
       have h14 : ¬ (Xe12 = Xe13) := of_decide_eq_false (of_not_t h14b)
       have h14c : (decide (Xe12 = Xe13)) = false := (of_not_t h14b)
       refine wp_seq <| w_reg <| rl_run F (run_assign (F.ev rfl)) rfl ?_; clear F a; intro a F
       refine rl_nil <| q_tn <| wp_ret <| q_br ?_
       iterate 2 (refine q_tr ?_)
       refine q_br <| q_tr <| fin1 F rfl rfl ?_
       exact ⟨M.weaken (.cons _ (.cons _ (List.Sublist.refl _))), by rw [if_neg (fun h_ => absurd (congrArg ItemD.marks h_) (ne_of_get hXe12 hXe13 (by assumption)))]⟩
      ·intro hc
       have h15b := hc; clear hc
       have h15 : Xe12 = Xe13 := of_decide_eq_true (of_not_f h15b)
       have h15c : (decide (Xe12 = Xe13)) = true := (of_not_f h15b)
       refine wp_skip <| q_bn <| q_tn <| w_reg <| rl_run F (run_move (F.ev rfl)) rfl ?_; clear F a; intro a F
       refine rl_run F (run_addi (F.ev rfl) (F.ev rfl) (in_i64 (by omega) (by omega))) rfl ?_; clear F a; intro a F
       refine rl_run F (run_assign (F.ev rfl)) rfl ?_; clear F a; intro a F
       refine rl_nil <| q_tn ?_
       exact ⟨_, by omega, i + 1, rfl, F.to ⟨rfl, rfl, rfl, trivial⟩, M, by omega, eq_step hA hXe12 hXe13 (by assumption)⟩
     ·intro hc
      have h16b := hc; clear hc
      have h16 : ¬ (((i : Nat) : Int) < ((x.marks.length : Nat) : Int)) := of_decide_eq_false h16b
      refine wp_exit ?_
      iterate 2 (refine q_te ?_)
      refine q_bh <| q_tn <| wp_seq <| w_reg <| rl_run F (run_assign (F.ev rfl)) rfl ?_; clear F a; intro a F
      refine rl_nil <| q_tn <| wp_ret <| fin1 F rfl rfl ?_
      exact ⟨M.weaken (.cons _ (.cons _ (List.Sublist.refl _))), by rw [if_pos (item_ext (by omega) (by omega) (by assumption) (eq_end hA (by omega) (by omega)))]⟩
theorem rsameall_spec {w0 w : World} {G : Ghost} {L : List Res} (M : Mem w0 G L w) {a1 : Option Addr} {c1 : Nat} {xs : List ItemD} (S : RdSl rdItem 4 G (.slice a1 xs.length c1) xs) {a2 : Option Addr} {c2 : Nat} {ys : List ItemD} (T : RdSl rdItem 4 G (.slice a2 ys.length c2) ys) : Calls Tryd.prog 14 #[.slice a1 xs.length c1, .slice a2 ys.length c2] w (RetS w0 G L fun v => v = .int .i64 (if xs = ys then (1 : Int) else 0)) := by
 have bS := S.bound
 have bT := T.bound
 refine calls_start (vs := [_, _]) Tryd.func14 rfl (n := 27) rfl rfl ?_
 intro a F
 refine wp_seq <| w_reg <| rl_run F (run_assign (F.ev rfl)) rfl ?_; clear F a; intro a F
 refine rl_nil <| q_tn ?_
 iterate 2 (refine wp_seq ?_)
 refine w_reg <| rl_run F (run_move (F.ev rfl)) rfl ?_; clear F a; intro a F
 refine rl_run F (run_lenSl tok22.k (F.ev rfl)) rfl ?_; clear F a; intro a F
 refine rl_run F (run_move (F.ev rfl)) rfl ?_; clear F a; intro a F
 refine rl_run F (run_lenSl tok22.k (F.ev rfl)) rfl ?_; clear F a; intro a F
 refine rl_run F (run_nei (F.ev rfl) (F.ev rfl)) rfl ?_; clear F a; intro a F
 refine rl_nil <| q_tn <| w_cond F rfl ?_ ?_
 ·intro hc
  have h1b := hc; clear hc
  have h1 : ¬ (((xs.length : Nat) : Int) = ((ys.length : Nat) : Int)) := of_decide_eq_false (of_not_t h1b)
  have h1c : (decide (((xs.length : Nat) : Int) = ((ys.length : Nat) : Int))) = false := (of_not_t h1b)
  refine wp_seq <| w_reg <| rl_run F (run_assign (F.ev rfl)) rfl ?_; clear F a; intro a F
  refine rl_nil <| q_tn <| wp_ret <| q_tr <| fin1 F rfl rfl ?_
  exact ⟨M, by rw [if_neg (fun h_ => absurd (congrArg List.length h_) (by omega))]⟩
 ·intro hc
  have h2b := hc; clear hc
  have h2 : ((xs.length : Nat) : Int) = ((ys.length : Nat) : Int) := of_decide_eq_true (of_not_f h2b)
  have h2c : (decide (((xs.length : Nat) : Int) = ((ys.length : Nat) : Int))) = true := (of_not_f h2b)
  refine wp_skip <| q_tn ?_
  iterate 2 (refine wp_seq ?_)
  refine w_reg <| rl_run F (run_assign (F.ev rfl)) rfl ?_; clear F a; intro a F
  refine rl_nil <| q_tn <| wp_block <| w_loopN (fun m a' w' => ∃ (i : Nat), m = xs.length - i ∧ Fits 27 a' [(0, .slice (a1) (xs.length) (c1)), (1, .slice (a2) (ys.length) (c2)), (5, .int .i64 (((i : Nat) : Int)))] ∧ Mem w0 G (L) w' ∧ (i ≤ xs.length) ∧ (∀ m, m < i → xs[m]? = ys[m]?)) _ ⟨0, rfl, F.to ⟨rfl, rfl, rfl, trivial⟩, M, Nat.zero_le _, fun m h => by omega⟩ ?_
  clear F M
  rintro m a w ⟨i, rfl, F, M, hi, hA⟩
  iterate 2 (refine wp_seq ?_)
  refine w_reg ?_
  iterate 2 (refine rl_run F (run_move (F.ev rfl)) rfl ?_; clear F a; intro a F)
  refine rl_run F (run_lenSl tok22.k (F.ev rfl)) rfl ?_; clear F a; intro a F
  refine rl_run F (run_lss (F.ev rfl) (F.ev rfl)) rfl ?_; clear F a; intro a F
  refine rl_nil <| q_tn <| w_cond F rfl ?_ ?_
  ·intro hc
   have h3b := hc; clear hc
   have h3 : ((i : Nat) : Int) < ((xs.length : Nat) : Int) := of_decide_eq_true h3b
   refine wp_skip <| q_tn <| wp_seq <| wp_block <| wp_seq <| w_plan [(true, 0), (true, 1), (true, 2), (true, 3), (true, 4), (true, 5), (true, 6), (true, 7), (false, 8), (true, 9)] (Keep G []) rfl (by kernel_rfl) (fun c a d v w h => by cases d <;> exact h) ((M.drew _).keep (Gle.refl _) (by simp)) ?_
   replace M := M.drew (w.drawn + 1)
   iterate 2 (refine pl_run F (fun w M => run_move (F.ev rfl)) rfl ?_; clear F a; intro a F)
   obtain ⟨Xe4, hXe4⟩ := get_of_lt (xs := xs) (i := i) (by omega)
   obtain ⟨be4, oe4, _, Ie4, _, Ae4, hTe4⟩ := S.at hXe4
   obtain ⟨mae4, mce4, rfl, hke4, hte4, hxe4, hne4, SMe4⟩ := hTe4
   have hIe4 : (Xe4.key < 18446744073709551616 ∧ Xe4.typ < 256 ∧ Xe4.text.length ≤ 9223372036854775807) := ⟨hke4, hte4, hxe4⟩
   refine pl_run F (fun w M => run_indexI tok22.k tok30 (F.ev rfl) (F.ev rfl) (by omega) Ie4) rfl ?_; clear F a; intro a F
   refine pl_run F (fun w M => run_loadA tok30 rfl (F.ev rfl) (cs := [.int .u64 (((Xe4.key : Nat) : Int)), .int .u8 (((Xe4.typ : Nat) : Int)), .string (str (Xe4.text)), .slice (mae4) (Xe4.marks.length) (mce4)]) rfl (M.cellsA Ae4 0 (by omega) rfl)) rfl ?_; clear F a; intro a F
   iterate 2 (refine pl_run F (fun w M => run_move (F.ev rfl)) rfl ?_; clear F a; intro a F)
   obtain ⟨Xe5, hXe5⟩ := get_of_lt (xs := ys) (i := i) (by omega)
   obtain ⟨be5, oe5, _, Ie5, _, Ae5, hTe5⟩ := T.at hXe5
   obtain ⟨mae5, mce5, rfl, hke5, hte5, hxe5, hne5, SMe5⟩ := hTe5
   have hIe5 : (Xe5.key < 18446744073709551616 ∧ Xe5.typ < 256 ∧ Xe5.text.length ≤ 9223372036854775807) := ⟨hke5, hte5, hxe5⟩
   refine pl_run F (fun w M => run_indexI tok22.k tok30 (F.ev rfl) (F.ev rfl) (by omega) Ie5) rfl ?_; clear F a; intro a F
   refine pl_run F (fun w M => run_loadA tok30 rfl (F.ev rfl) (cs := [.int .u64 (((Xe5.key : Nat) : Int)), .int .u8 (((Xe5.typ : Nat) : Int)), .string (str (Xe5.text)), .slice (mae5) (Xe5.marks.length) (mce5)]) rfl (M.cellsA Ae5 0 (by omega) rfl)) rfl ?_; clear F a; intro a F
   refine pl_act ?_ rfl
   refine rl_callS F ent17 rfl rfl (rsame_spec (x := Xe4) (y := Xe5) M hIe4 SMe4 hIe5 SMe5) ?_; clear F M a; rintro _ w a M rfl F
   refine rl_nil <| ⟨Keep G [], M.keep (Gle.refl _) (by simp), fun w h => h.mono (Gle.refl _) (by simp), ?_⟩
   refine pl_run F (fun w M => run_eqi (F.ev rfl) (F.ev rfl)) rfl ?_; clear F a; intro a F
   refine pl_nil <| q_tn <| w_cond F rfl ?_ ?_
   ·intro hc
    have h6b := hc; clear hc
    have h6 : (if Xe4 = Xe5 then (1 : Int) else 0) = 0 := of_decide_eq_true h6b
    refine wp_seq <| w_reg <| rl_run F (run_assign (F.ev rfl)) rfl ?_; clear F a; intro a F
    refine rl_nil <| q_tn <| wp_ret <| q_br ?_
    iterate 2 (refine q_tr ?_)
    refine q_br <| q_tr <| fin1 F rfl rfl ?_
    exact ⟨M, by rw [if_neg (ne_of_get hXe4 hXe5 (fun h_ => by rw [if_pos h_] at *; omega))]⟩
   ·intro hc
    have h7b := hc; clear hc
    have h7 : ¬ ((if Xe4 = Xe5 then (1 : Int) else 0) = 0) := of_decide_eq_false h7b
    refine wp_skip <| q_bn <| q_tn <| w_reg <| rl_run F (run_move (F.ev rfl)) rfl ?_; clear F a; intro a F
    refine rl_run F (run_addi (F.ev rfl) (F.ev rfl) (in_i64 (by omega) (by omega))) rfl ?_; clear F a; intro a F
    refine rl_run F (run_assign (F.ev rfl)) rfl ?_; clear F a; intro a F
    refine rl_nil <| q_tn ?_
    exact ⟨_, by omega, i + 1, rfl, F.to ⟨rfl, rfl, rfl, trivial⟩, M, by omega, eq_step hA hXe4 hXe5 (Classical.byContradiction fun h_ => by rw [if_neg h_] at *; omega)⟩
  ·intro hc
   have h8b := hc; clear hc
   have h8 : ¬ (((i : Nat) : Int) < ((xs.length : Nat) : Int)) := of_decide_eq_false h8b
   refine wp_exit ?_
   iterate 2 (refine q_te ?_)
   refine q_bh <| q_tn <| wp_seq <| w_reg <| rl_run F (run_assign (F.ev rfl)) rfl ?_; clear F a; intro a F
   refine rl_nil <| q_tn <| wp_ret <| fin1 F rfl rfl ?_
   exact ⟨M, by rw [if_pos (eq_end hA (by omega) (by omega))]⟩
theorem few_spec {w0 w : World} {G : Ghost} {L : List Res} (M : Mem w0 G L w) {a1 : Option Addr} {c1 : Nat} {xs : List ItemD} (S : RdSl rdItem 4 G (.slice a1 xs.length c1) xs) : Calls Tryd.prog 7 #[.slice a1 xs.length c1] w (RetS w0 G L fun v => v = .int .i64 (if Few xs then (1 : Int) else 0)) := by
 have bS := S.bound
 refine calls_start (vs := [_]) Tryd.func7 rfl (n := 50) rfl rfl ?_
 intro a F
 refine wp_seq <| w_reg <| rl_run F (run_assign (F.ev rfl)) rfl ?_; clear F a; intro a F
 refine rl_nil <| q_tn ?_
 iterate 2 (refine wp_seq ?_)
 refine w_reg <| rl_run F (run_move (F.ev rfl)) rfl ?_; clear F a; intro a F
 refine rl_run F (run_lenSl tok22.k (F.ev rfl)) rfl ?_; clear F a; intro a F
 refine rl_run F (run_gtr (F.ev rfl) (F.ev rfl)) rfl ?_; clear F a; intro a F
 refine rl_nil <| q_tn <| w_cond F rfl ?_ ?_
 ·intro hc
  have h1b := hc; clear hc
  have h1 : 30 < ((xs.length : Nat) : Int) := of_decide_eq_true h1b
  refine wp_seq <| w_reg <| rl_run F (run_assign (F.ev rfl)) rfl ?_; clear F a; intro a F
  refine rl_nil <| q_tn <| wp_ret <| q_tr <| fin1 F rfl rfl ?_
  exact ⟨M, by rw [if_neg (fun h_ : Few xs => by have := h_.1; omega)]⟩
 ·intro hc
  have h2b := hc; clear hc
  have h2 : ¬ (30 < ((xs.length : Nat) : Int)) := of_decide_eq_false h2b
  refine wp_skip <| q_tn ?_
  iterate 2 (refine wp_seq ?_)
  refine w_reg <| rl_run F (run_assign (F.ev rfl)) rfl ?_; clear F a; intro a F
  refine rl_nil <| q_tn <| wp_block <| w_loopN (fun m a' w' => ∃ (i : Nat), m = xs.length - i ∧ Fits 50 a' [(0, .slice (a1) (xs.length) (c1)), (3, .int .i64 (((i : Nat) : Int)))] ∧ Mem w0 G (L) w' ∧ (i ≤ xs.length) ∧ (∀ (m : Nat) (x : ItemD), m < i → xs[m]? = some x → MkFew x)) _ ⟨0, rfl, F.to ⟨rfl, rfl, trivial⟩, M, Nat.zero_le _, fun m x h => by omega⟩ ?_
  clear F M
  rintro m a w ⟨i, rfl, F, M, hi, hA⟩
  iterate 2 (refine wp_seq ?_)
  refine w_reg ?_
  iterate 2 (refine rl_run F (run_move (F.ev rfl)) rfl ?_; clear F a; intro a F)
  refine rl_run F (run_lenSl tok22.k (F.ev rfl)) rfl ?_; clear F a; intro a F
  refine rl_run F (run_lss (F.ev rfl) (F.ev rfl)) rfl ?_; clear F a; intro a F
  refine rl_nil <| q_tn <| w_cond F rfl ?_ ?_
  ·intro hc
   have h3b := hc; clear hc
   have h3 : ((i : Nat) : Int) < ((xs.length : Nat) : Int) := of_decide_eq_true h3b
   refine wp_skip <| q_tn <| wp_seq <| wp_block ?_
   iterate 2 (refine wp_seq ?_)
   refine w_reg ?_
   iterate 2 (refine rl_run F (run_move (F.ev rfl)) rfl ?_; clear F a; intro a F)
   obtain ⟨Xe4, hXe4⟩ := get_of_lt (xs := xs) (i := i) (by omega)
   obtain ⟨be4, oe4, _, Ie4, _, Ae4, hTe4⟩ := S.at hXe4
   obtain ⟨mae4, mce4, rfl, hke4, hte4, hxe4, hne4, SMe4⟩ := hTe4
   have hIe4 : (Xe4.key < 18446744073709551616 ∧ Xe4.typ < 256 ∧ Xe4.text.length ≤ 9223372036854775807) := ⟨hke4, hte4, hxe4⟩
   refine rl_run F (run_indexI tok22.k tok30 (F.ev rfl) (F.ev rfl) (by omega) Ie4) rfl ?_; clear F a; intro a F
   refine rl_run F (run_fieldAddr tok30.k rfl rfl (F.ev rfl)) rfl ?_; clear F a; intro a F
   refine rl_run F (run_load1 (agf tok9 rfl) (F.ev rfl) (M.cellA Ae4 2 rfl rfl)) rfl ?_; clear F a; intro a F
   refine rl_run F (run_lenStr tok9.k (F.ev rfl)) rfl ?_; clear F a; intro a F
   refine rl_run F (run_gtr (F.ev rfl) (F.ev rfl)) rfl ?_; clear F a; intro a F
   refine rl_run F (run_move (F.ev rfl)) rfl ?_; clear F a; intro a F
   rcases Bool.eq_false_or_eq_true (decide (70 < (((Xe4.text).length : Nat) : Int))) with hc | hc
   ·skip
    have h5b := hc; clear hc
    have h5 : 70 < (((Xe4.text).length : Nat) : Int) := of_decide_eq_true h5b
    iterate 7 (refine rl_guard_f F rfl rfl rfl h5b ?_; clear F a; intro a F)
    refine rl_run F (run_pick_t (F.ev rfl) h5b (F.ev rfl)) rfl ?_; clear F a; intro a F
    refine rl_nil <| q_tn <| w_cond_t F rfl rfl ?_
    refine wp_seq <| w_reg <| rl_run F (run_assign (F.ev rfl)) rfl ?_; clear F a; intro a F
    refine rl_nil <| q_tn <| wp_ret <| q_tr <| q_br ?_
    iterate 2 (refine q_tr ?_)
    refine q_br <| q_tr <| fin1 F rfl rfl ?_
    exact ⟨M, by rw [if_neg (Few.no hXe4 (fun h_ => by have h1_ := h_.1; have h2_ := h_.2.1; omega))]⟩
   ·skip
    have h6b := hc; clear hc
    have h6 : ¬ (70 < (((Xe4.text).length : Nat) : Int)) := of_decide_eq_false h6b
    refine rl_guard_t F rfl rfl rfl h6b ?_
    refine rl_run F (run_move (F.ev rfl)) rfl ?_; clear F a; intro a F
    refine rl_guard_t F rfl rfl rfl h6b ?_
    refine rl_run F (run_move (F.ev rfl)) rfl ?_; clear F a; intro a F
    refine rl_guard_t F rfl rfl rfl h6b ?_
    obtain ⟨be7, oe7, _, Ie7, _, Ae7, hTe7⟩ := S.at hXe4
    obtain ⟨mae7, mce7, rfl, hke7, hte7, hxe7, hne7, SMe7⟩ := hTe7
    have hIe7 : (Xe4.key < 18446744073709551616 ∧ Xe4.typ < 256 ∧ Xe4.text.length ≤ 9223372036854775807) := ⟨hke7, hte7, hxe7⟩
    refine rl_run F (run_indexI tok22.k tok30 (F.ev rfl) (F.ev rfl) (by omega) Ie7) rfl ?_; clear F a; intro a F
    refine rl_guard_t F rfl rfl rfl h6b ?_
    refine rl_run F (run_fieldAddr tok30.k rfl rfl (F.ev rfl)) rfl ?_; clear F a; intro a F
    refine rl_guard_t F rfl rfl rfl h6b ?_
    refine rl_run F (run_load1 (agf tok28 rfl) (F.ev rfl) (M.cellA Ae7 3 rfl rfl)) rfl ?_; clear F a; intro a F
    refine rl_guard_t F rfl rfl rfl h6b ?_
    refine rl_run F (run_lenSl tok28.k (F.ev rfl)) rfl ?_; clear F a; intro a F
    refine rl_guard_t F rfl rfl rfl h6b ?_
    refine rl_run F (run_gtr (F.ev rfl) (F.ev rfl)) rfl ?_; clear F a; intro a F
    refine rl_run F (run_pick_f (F.ev rfl) h6b (F.ev rfl)) rfl ?_; clear F a; intro a F
    refine rl_nil <| q_tn <| w_cond F rfl ?_ ?_
    ·intro hc
     have h8b := hc; clear hc
     have h8 : 12 < ((Xe4.marks.length : Nat) : Int) := of_decide_eq_true h8b
     refine wp_seq <| w_reg <| rl_run F (run_assign (F.ev rfl)) rfl ?_; clear F a; intro a F
     refine rl_nil <| q_tn <| wp_ret <| q_tr <| q_br ?_
     iterate 2 (refine q_tr ?_)
     refine q_br <| q_tr <| fin1 F rfl rfl ?_
     exact ⟨M, by rw [if_neg (Few.no hXe4 (fun h_ => by have h1_ := h_.1; have h2_ := h_.2.1; omega))]⟩
    ·intro hc
     have h9b := hc; clear hc
     have h9 : ¬ (12 < ((Xe4.marks.length : Nat) : Int)) := of_decide_eq_false h9b
     refine wp_skip <| q_tn <| wp_seq <| w_reg <| rl_run F (run_assign (F.ev rfl)) rfl ?_; clear F a; intro a F
     refine rl_nil <| q_tn <| wp_block <| w_loopN (fun m a' w' => ∃ (j : Nat), m = Xe4.marks.length - j ∧ Fits 50 a' [(0, .slice (a1) (xs.length) (c1)), (3, .int .i64 (((i : Nat) : Int))), (4, .int .i64 (((j : Nat) : Int)))] ∧ Mem w0 G (L) w' ∧ (j ≤ Xe4.marks.length) ∧ (∀ (m : Nat) (s : List UInt8), m < j → Xe4.marks[m]? = some s → s.length ≤ 20)) _ ⟨0, rfl, F.to ⟨rfl, rfl, rfl, trivial⟩, M, Nat.zero_le _, fun m x h => by omega⟩ ?_
     clear F M
     rintro m a w ⟨j, rfl, F, M, hj, hB⟩
     iterate 2 (refine wp_seq ?_)
     refine w_reg ?_
     iterate 3 (refine rl_run F (run_move (F.ev rfl)) rfl ?_; clear F a; intro a F)
     obtain ⟨be10, oe10, _, Ie10, _, Ae10, hTe10⟩ := S.at hXe4
     obtain ⟨mae10, mce10, rfl, hke10, hte10, hxe10, hne10, SMe10⟩ := hTe10
     have hIe10 : (Xe4.key < 18446744073709551616 ∧ Xe4.typ < 256 ∧ Xe4.text.length ≤ 9223372036854775807) := ⟨hke10, hte10, hxe10⟩
     refine rl_run F (run_indexI tok22.k tok30 (F.ev rfl) (F.ev rfl) (by omega) Ie10) rfl ?_; clear F a; intro a F
     refine rl_run F (run_fieldAddr tok30.k rfl rfl (F.ev rfl)) rfl ?_; clear F a; intro a F
     refine rl_run F (run_load1 (agf tok28 rfl) (F.ev rfl) (M.cellA Ae10 3 rfl rfl)) rfl ?_; clear F a; intro a F
     refine rl_run F (run_lenSl tok28.k (F.ev rfl)) rfl ?_; clear F a; intro a F
     refine rl_run F (run_lss (F.ev rfl) (F.ev rfl)) rfl ?_; clear F a; intro a F
     refine rl_nil <| q_tn <| w_cond F rfl ?_ ?_
     ·intro hc
      have h11b := hc; clear hc
      have h11 : ((j : Nat) : Int) < ((Xe4.marks.length : Nat) : Int) := of_decide_eq_true h11b
      refine wp_skip <| q_tn <| wp_seq <| wp_block <| wp_seq <| w_reg ?_
      iterate 2 (refine rl_run F (run_move (F.ev rfl)) rfl ?_; clear F a; intro a F)
      obtain ⟨be12, oe12, _, Ie12, _, Ae12, hTe12⟩ := S.at hXe4
      obtain ⟨mae12, mce12, rfl, hke12, hte12, hxe12, hne12, SMe12⟩ := hTe12
      have hIe12 : (Xe4.key < 18446744073709551616 ∧ Xe4.typ < 256 ∧ Xe4.text.length ≤ 9223372036854775807) := ⟨hke12, hte12, hxe12⟩
      refine rl_run F (run_indexI tok22.k tok30 (F.ev rfl) (F.ev rfl) (by omega) Ie12) rfl ?_; clear F a; intro a F
      refine rl_run F (run_fieldAddr tok30.k rfl rfl (F.ev rfl)) rfl ?_; clear F a; intro a F
      refine rl_run F (run_load1 (agf tok28 rfl) (F.ev rfl) (M.cellA Ae12 3 rfl rfl)) rfl ?_; clear F a; intro a F
      refine rl_run F (run_move (F.ev rfl)) rfl ?_; clear F a; intro a F
      obtain ⟨Xe13, hXe13⟩ := get_of_lt (xs := Xe4.marks) (i := j) (by omega)
      obtain ⟨be13, oe13, _, Ie13, _, Ae13, ⟨rfl, hsle13⟩⟩ := SMe12.at hXe13
      refine rl_run F (run_indexI tok28.k tok9 (F.ev rfl) (F.ev rfl) (by omega) Ie13) rfl ?_; clear F a; intro a F
      refine rl_run F (run_load1 (agf tok9 rfl) (F.ev rfl) (M.cellA Ae13 0 (by omega) rfl)) rfl ?_; clear F a; intro a F
      refine rl_run F (run_lenStr tok9.k (F.ev rfl)) rfl ?_; clear F a; intro a F
      refine rl_run F (run_gtr (F.ev rfl) (F.ev rfl)) rfl ?_; clear F a; intro a F
      refine rl_nil <| q_tn <| w_cond F rfl ?_ ?_
      ·intro hc
       have h14b := hc; clear hc
       have h14 : 20 < (((Xe13).length : Nat) : Int) := of_decide_eq_true h14b
       refine wp_seq <| w_reg <| rl_run F (run_assign (F.ev rfl)) rfl ?_; clear F a; intro a F
       refine rl_nil <| q_tn <| wp_ret <| q_br ?_
       iterate 2 (refine q_tr ?_)
       iterate 2 (refine q_br ?_)
       iterate 2 (refine q_tr ?_)
       refine q_br <| q_tr <| fin1 F rfl rfl ?_
       exact ⟨M, by rw [if_neg (Few.no hXe4 (fun h_ => by have := h_.2.2 _ (List.mem_of_getElem? hXe13); omega))]⟩
      ·intro hc
       have h15b := hc; clear hc
       have h15 : ¬ (20 < (((Xe13).length : Nat) : Int)) := of_decide_eq_false h15b
       refine wp_skip <| q_bn <| q_tn <| w_reg <| rl_run F (run_move (F.ev rfl)) rfl ?_; clear F a; intro a F
       refine rl_run F (run_addi (F.ev rfl) (F.ev rfl) (in_i64 (by omega) (by omega))) rfl ?_; clear F a; intro a F
       refine rl_run F (run_assign (F.ev rfl)) rfl ?_; clear F a; intro a F
       refine rl_nil <| q_tn ?_
       exact ⟨_, by omega, j + 1, rfl, F.to ⟨rfl, rfl, rfl, trivial⟩, M, by omega, all_step hB hXe13 (by omega)⟩
     ·intro hc
      have h16b := hc; clear hc
      have h16 : ¬ (((j : Nat) : Int) < ((Xe4.marks.length : Nat) : Int)) := of_decide_eq_false h16b
      refine wp_exit ?_
      iterate 2 (refine q_te ?_)
      refine q_bh <| q_bn <| q_tn <| w_reg <| rl_run F (run_move (F.ev rfl)) rfl ?_; clear F a; intro a F
      refine rl_run F (run_addi (F.ev rfl) (F.ev rfl) (in_i64 (by omega) (by omega))) rfl ?_; clear F a; intro a F
      refine rl_run F (run_assign (F.ev rfl)) rfl ?_; clear F a; intro a F
      refine rl_nil <| q_tn ?_
      exact ⟨_, by omega, i + 1, rfl, F.to ⟨rfl, rfl, trivial⟩, M, by omega, all_step hA hXe4 ⟨by omega, by omega, all_end hB (by omega)⟩⟩
  ·intro hc
   have h17b := hc; clear hc
   have h17 : ¬ (((i : Nat) : Int) < ((xs.length : Nat) : Int)) := of_decide_eq_false h17b
   refine wp_exit ?_
   iterate 2 (refine q_te ?_)
   refine q_bh <| q_tn <| wp_seq <| w_reg <| rl_run F (run_assign (F.ev rfl)) rfl ?_; clear F a; intro a F
   refine rl_nil <| q_tn <| wp_ret <| fin1 F rfl rfl ?_
   exact ⟨M, by rw [if_pos (show Few xs from ⟨by omega, all_end hA (by omega)⟩)]⟩
theorem findc_spec {w0 w : World} {G : Ghost} {L : List Res} {b k : Nat} {x : ItemD} {ma : Option Addr} {mc : Nat} (M : Mem w0 G (.blk b [.int .u64 ((k : Nat) : Int)] 27 :: L) w) (SM : RdSl rdStr 1 G (.slice ma x.marks.length mc) x.marks) :
  Calls Tryd.prog 42 #[.agg #[.int .u64 (((x.key : Nat) : Int)), .int .u8 (((x.typ : Nat) : Int)), .string (str (x.text)), .slice (ma) (x.marks.length) (mc)], .pointer (some ⟨b, 0, none⟩)] w (RetS w0 G (.blk b [.int .u64 ((k : Nat) : Int)] 27 :: L) fun v => ∃ bb : Bool, v = .bool bb ∧ (bb = true ↔ x.key = k)) := by
 refine calls_start (vs := [_, _]) Tryd.func42 rfl (n := 8) rfl rfl ?_
 intro a F
 refine wp_seq <| w_reg <| rl_box F M rfl (cs := [.int .u64 (((x.key : Nat) : Int)), .int .u8 (((x.typ : Nat) : Int)), .string (str (x.text)), .slice (ma) (x.marks.length) (mc)]) rfl rfl ?_; clear F M a; intro b1 w a M F
 refine rl_run F (run_assign (F.ev rfl)) rfl ?_; clear F a; intro a F
 refine rl_nil <| q_tn <| wp_seq <| w_reg <| rl_run F (run_fieldAddr tok30.k rfl rfl (F.ev rfl)) rfl ?_; clear F a; intro a F
 refine rl_run F (run_load1 (agf tok27 rfl) (F.ev rfl) (M.cellL (k := 0) rfl rfl)) rfl ?_; clear F a; intro a F
 refine rl_run F (run_load1 (agf tok27 rfl) (F.ev rfl) (M.cellL (k := 1) rfl rfl)) rfl ?_; clear F a; intro a F
 refine rl_run F (run_eqi (F.ev rfl) (F.ev rfl)) rfl ?_; clear F a; intro a F
 refine rl_run F (run_assign (F.ev rfl)) rfl ?_; clear F a; intro a F
 refine rl_nil <| q_tn <| wp_ret <| fin1 F rfl rfl ?_
 exact ⟨M.weaken (.cons _ (.cons_cons _ (List.Sublist.refl _))), _, rfl, by rw [decide_eq_true_iff]; omega⟩
theorem idxi_spec {w0 w : World} {G : Ghost} {L : List Res} {b k : Nat} (M : Mem w0 G (.blk b [.int .u64 ((k : Nat) : Int)] 27 :: L) w) {a1 : Option Addr} {c1 : Nat} {xs : List ItemD} (S : RdSl rdItem 4 G (.slice a1 xs.length c1) xs) :
  Calls Tryd.prog 41 #[.slice a1 xs.length c1, .func (.func 42) #[] #[.pointer (some ⟨b, 0, none⟩)]] w (RetS w0 G (.blk b [.int .u64 ((k : Nat) : Int)] 27 :: L) fun v => ∃ z : Int, v = .int .i64 z ∧ FindR xs k z) := by
 have bS := S.bound
 refine calls_start (vs := [_, _]) Tryd.func41 rfl (n := 19) rfl rfl ?_
 intro a F
 refine wp_seq <| w_reg <| rl_run F (run_assign (F.ev rfl)) rfl ?_; clear F a; intro a F
 refine rl_nil <| q_tn ?_
 iterate 2 (refine wp_seq ?_)
 refine w_reg <| rl_run F (run_move (F.ev rfl)) rfl ?_; clear F a; intro a F
 refine rl_run F (run_lenSl tok22.k (F.ev rfl)) rfl ?_; clear F a; intro a F
 refine rl_run F (run_move (F.ev rfl)) rfl ?_; clear F a; intro a F
 refine rl_nil <| q_tn <| wp_block <| w_loopN (fun m a' w' => ∃ (i : Nat), m = xs.length - i ∧ Fits 19 a' [(0, .slice (a1) (xs.length) (c1)), (1, .func (.func 42) #[] #[.pointer (some ⟨b, 0, none⟩)]), (7, .int .i64 (((xs.length : Nat) : Int))), (8, .int .i64 (((i : Nat) : Int)))] ∧ Mem w0 G (.blk b [.int .u64 (((k : Nat) : Int))] 27 :: L) w' ∧ (i ≤ xs.length) ∧ (∀ (m : Nat) (y : ItemD), m < i → xs[m]? = some y → y.key ≠ k)) _ ⟨0, rfl, F.to ⟨rfl, rfl, rfl, rfl, trivial⟩, M, Nat.zero_le _, fun m d h => by omega⟩ ?_
 clear F M
 rintro m a w ⟨i, rfl, F, M, hi, hA⟩
 refine wp_seq <| w_reg <| rl_run F (run_lss (F.ev rfl) (F.ev rfl)) rfl ?_; clear F a; intro a F
 refine rl_nil <| q_tn <| wp_seq <| w_cond F rfl ?_ ?_
 ·intro hc
  have h1b := hc; clear hc
  have h1 : ((i : Nat) : Int) < ((xs.length : Nat) : Int) := of_decide_eq_true h1b
  refine wp_skip <| q_tn <| wp_seq <| wp_block <| wp_seq <| w_reg <| rl_run F (run_move (F.ev rfl)) rfl ?_; clear F a; intro a F
  refine rl_run F (run_assign (F.ev rfl)) rfl ?_; clear F a; intro a F
  refine rl_nil <| q_tn <| wp_seq <| w_reg ?_
  iterate 3 (refine rl_run F (run_move (F.ev rfl)) rfl ?_; clear F a; intro a F)
  obtain ⟨Xe2, hXe2⟩ := get_of_lt (xs := xs) (i := i) (by omega)
  obtain ⟨be2, oe2, _, Ie2, _, Ae2, hTe2⟩ := S.at hXe2
  obtain ⟨mae2, mce2, rfl, hke2, hte2, hxe2, hne2, SMe2⟩ := hTe2
  have hIe2 : (Xe2.key < 18446744073709551616 ∧ Xe2.typ < 256 ∧ Xe2.text.length ≤ 9223372036854775807) := ⟨hke2, hte2, hxe2⟩
  refine rl_run F (run_indexI tok22.k tok30 (F.ev rfl) (F.ev rfl) (by omega) Ie2) rfl ?_; clear F a; intro a F
  refine rl_run F (run_loadA tok30 rfl (F.ev rfl) (cs := [.int .u64 (((Xe2.key : Nat) : Int)), .int .u8 (((Xe2.typ : Nat) : Int)), .string (str (Xe2.text)), .slice (mae2) (Xe2.marks.length) (mce2)]) rfl (M.cellsA Ae2 0 (by omega) rfl)) rfl ?_; clear F a; intro a F
  change Mem w0 G (_ :: L) _ at M
  refine rl_callvS F ent42 (caps := [.pointer (some ⟨b, 0, none⟩)]) rfl rfl rfl (findc_spec (x := Xe2) M SMe2) ?_; clear F M a; rintro _ w a M ⟨b3, rfl, hb3⟩ F
  refine rl_nil <| q_tn <| w_cond F rfl ?_ ?_
  ·intro hc
   have h4b := hc; clear hc
   have h4 : (b3) = true := h4b
   refine wp_seq <| w_reg <| rl_run F (run_move (F.ev rfl)) rfl ?_; clear F a; intro a F
   refine rl_run F (run_assign (F.ev rfl)) rfl ?_; clear F a; intro a F
   refine rl_nil <| q_tn <| wp_ret <| q_br ?_
   iterate 2 (refine q_tr ?_)
   refine q_br <| q_tr <| fin1 F rfl rfl ?_
   exact ⟨M, _, rfl, FindR.some hA hXe2 (by clear F M; grind)⟩
  ·intro hc
   have h5b := hc; clear hc
   have h5 : (b3) = false := h5b
   refine wp_skip <| q_bn <| q_tn <| w_reg <| rl_run F (run_addi (F.ev rfl) (F.ev rfl) (in_i64 (by omega) (by omega))) rfl ?_; clear F a; intro a F
   refine rl_run F (run_move (F.ev rfl)) rfl ?_; clear F a; intro a F
   refine rl_nil <| q_tn ?_
   exact ⟨_, by omega, i + 1, rfl, F.to ⟨rfl, rfl, rfl, rfl, trivial⟩, M, by omega, all_step (p := fun y : ItemD => y.key ≠ k) hA hXe2 (by clear F M; grind)⟩
 ·intro hc
  have h6b := hc; clear hc
  have h6 : ¬ (((i : Nat) : Int) < ((xs.length : Nat) : Int)) := of_decide_eq_false h6b
  refine wp_exit ?_
  iterate 2 (refine q_te ?_)
  refine q_bh <| q_tn <| wp_seq <| w_reg <| rl_run F (run_assign (F.ev rfl)) rfl ?_; clear F a; intro a F
  refine rl_nil <| q_tn <| wp_ret <| fin1 F rfl rfl ?_
  exact ⟨M, _, rfl, FindR.none hA (by omega)⟩
theorem find_spec {w0 w : World} {G : Ghost} {L : List Res} (M : Mem w0 G L w) {a1 : Option Addr} {c1 : Nat} {xs : List ItemD} (S : RdSl rdItem 4 G (.slice a1 xs.length c1) xs) {k : Nat} : Calls Tryd.prog 18 #[.slice a1 xs.length c1, .int .u64 ((k : Nat) : Int)] w (RetS w0 G L fun v => ∃ z : Int, v = .tuple #[.int .i64 (max z 0), .bool (decide (0 ≤ z))] ∧ FindR xs k z) := by
 refine calls_start (vs := [_, _]) Tryd.func18 rfl (n := 13) rfl rfl ?_
 intro a F
 refine wp_seq <| w_reg <| rl_box F M rfl (cs := [.int .u64 (((k : Nat) : Int))]) rfl rfl ?_; clear F M a; intro b1 w a M F
 iterate 2 (refine rl_run F (run_assign (F.ev rfl)) rfl ?_; clear F a; intro a F)
 refine rl_nil <| q_tn <| wp_seq <| w_reg <| rl_run F (run_move (F.ev rfl)) rfl ?_; clear F a; intro a F
 refine rl_run F (run_makeFunc (vs := #[.pointer (some ⟨b1, 0, none⟩)]) (by simp only [List.map_toArray, List.map_cons, List.map_nil, F.ev (x := .tmp 3) rfl])) rfl ?_; clear F a; intro a F
 change Mem w0 G (_ :: L) _ at M
 refine rl_callS F ent41 rfl rfl (idxi_spec (xs := xs) M S) ?_; clear F M a; rintro _ w a M ⟨z2, rfl, hz2⟩ F
 refine rl_run F (run_assign (F.ev rfl)) rfl ?_; clear F a; intro a F
 refine rl_nil <| q_tn <| wp_seq <| w_reg <| rl_run F (run_move (F.ev rfl)) rfl ?_; clear F a; intro a F
 refine rl_run F (run_max2 (F.ev rfl) (F.ev rfl)) rfl ?_; clear F a; intro a F
 refine rl_run F (run_move (F.ev rfl)) rfl ?_; clear F a; intro a F
 refine rl_run F (run_geq (F.ev rfl) (F.ev rfl)) rfl ?_; clear F a; intro a F
 iterate 2 (refine rl_run F (run_assign (F.ev rfl)) rfl ?_; clear F a; intro a F)
 refine rl_nil <| q_tn <| wp_ret <| fin2 F rfl rfl rfl ?_
 exact ⟨M.weaken (.cons _ (List.Sublist.refl _)), _, rfl, hz2⟩
theorem rfind_spec {w0 w : World} {G : Ghost} {L : List Res} (M : Mem w0 G L w) {a1 : Option Addr} {c1 : Nat} {xs : List ItemD} (S : RdSl rdItem 4 G (.slice a1 xs.length c1) xs) {k : Nat} : Calls Tryd.prog 19 #[.slice a1 xs.length c1, .int .u64 ((k : Nat) : Int)] w (RetS w0 G L fun v => ∃ z : Int, v = .int .i64 z ∧ FindR xs k z) := by
 have bS := S.bound
 refine calls_start (vs := [_, _]) Tryd.func19 rfl (n := 20) rfl rfl ?_
 intro a F
 refine wp_seq <| w_reg <| rl_run F (run_assign (F.ev rfl)) rfl ?_; clear F a; intro a F
 refine rl_nil <| q_tn ?_
 iterate 2 (refine wp_seq ?_)
 refine w_reg <| rl_run F (run_assign (F.ev rfl)) rfl ?_; clear F a; intro a F
 refine rl_nil <| q_tn <| wp_block <| w_loopN (fun m a' w' => ∃ (i : Nat), m = xs.length - i ∧ Fits 20 a' [(0, .slice (a1) (xs.length) (c1)), (1, .int .u64 (((k : Nat) : Int))), (5, .int .i64 (((i : Nat) : Int)))] ∧ Mem w0 G (L) w' ∧ (i ≤ xs.length) ∧ (∀ (m : Nat) (y : ItemD), m < i → xs[m]? = some y → y.key ≠ k)) _ ⟨0, rfl, F.to ⟨rfl, rfl, rfl, trivial⟩, M, Nat.zero_le _, fun m d h => by omega⟩ ?_
 clear F M
 rintro m a w ⟨i, rfl, F, M, hi, hA⟩
 iterate 2 (refine wp_seq ?_)
 refine w_reg ?_
 iterate 2 (refine rl_run F (run_move (F.ev rfl)) rfl ?_; clear F a; intro a F)
 refine rl_run F (run_lenSl tok22.k (F.ev rfl)) rfl ?_; clear F a; intro a F
 refine rl_run F (run_lss (F.ev rfl) (F.ev rfl)) rfl ?_; clear F a; intro a F
 refine rl_nil <| q_tn <| w_cond F rfl ?_ ?_
 ·intro hc
  have h1b := hc; clear hc
  have h1 : ((i : Nat) : Int) < ((xs.length : Nat) : Int) := of_decide_eq_true h1b
  refine wp_skip <| q_tn <| wp_seq <| wp_block <| wp_seq <| w_reg ?_
  iterate 2 (refine rl_run F (run_move (F.ev rfl)) rfl ?_; clear F a; intro a F)
  obtain ⟨Xe2, hXe2⟩ := get_of_lt (xs := xs) (i := i) (by omega)
  obtain ⟨be2, oe2, _, Ie2, _, Ae2, hTe2⟩ := S.at hXe2
  obtain ⟨mae2, mce2, rfl, hke2, hte2, hxe2, hne2, SMe2⟩ := hTe2
  have hIe2 : (Xe2.key < 18446744073709551616 ∧ Xe2.typ < 256 ∧ Xe2.text.length ≤ 9223372036854775807) := ⟨hke2, hte2, hxe2⟩
  refine rl_run F (run_indexI tok22.k tok30 (F.ev rfl) (F.ev rfl) (by omega) Ie2) rfl ?_; clear F a; intro a F
  refine rl_run F (run_fieldAddr tok30.k rfl rfl (F.ev rfl)) rfl ?_; clear F a; intro a F
  refine rl_run F (run_load1 (agf tok27 rfl) (F.ev rfl) (M.cellA Ae2 0 rfl rfl)) rfl ?_; clear F a; intro a F
  refine rl_run F (run_move (F.ev rfl)) rfl ?_; clear F a; intro a F
  refine rl_run F (run_eqi (F.ev rfl) (F.ev rfl)) rfl ?_; clear F a; intro a F
  refine rl_nil <| q_tn <| w_cond F rfl ?_ ?_
  ·intro hc
   have h3b := hc; clear hc
   have h3 : ((Xe2.key : Nat) : Int) = ((k : Nat) : Int) := of_decide_eq_true h3b
   refine wp_seq <| w_reg <| rl_run F (run_move (F.ev rfl)) rfl ?_; clear F a; intro a F
   refine rl_run F (run_assign (F.ev rfl)) rfl ?_; clear F a; intro a F
   refine rl_nil <| q_tn <| wp_ret <| q_br ?_
   iterate 2 (refine q_tr ?_)
   refine q_br <| q_tr <| fin1 F rfl rfl ?_
   exact ⟨M, _, rfl, FindR.some hA hXe2 (by omega)⟩
  ·intro hc
   have h4b := hc; clear hc
   have h4 : ¬ (((Xe2.key : Nat) : Int) = ((k : Nat) : Int)) := of_decide_eq_false h4b
   refine wp_skip <| q_bn <| q_tn <| w_reg <| rl_run F (run_move (F.ev rfl)) rfl ?_; clear F a; intro a F
   refine rl_run F (run_addi (F.ev rfl) (F.ev rfl) (in_i64 (by omega) (by omega))) rfl ?_; clear F a; intro a F
   refine rl_run F (run_assign (F.ev rfl)) rfl ?_; clear F a; intro a F
   refine rl_nil <| q_tn ?_
   exact ⟨_, by omega, i + 1, rfl, F.to ⟨rfl, rfl, rfl, trivial⟩, M, by omega, all_step (p := fun y : ItemD => y.key ≠ k) hA hXe2 (by omega)⟩
 ·intro hc
  have h5b := hc; clear hc
  have h5 : ¬ (((i : Nat) : Int) < ((xs.length : Nat) : Int)) := of_decide_eq_false h5b
  refine wp_exit ?_
  iterate 2 (refine q_te ?_)
  refine q_bh <| q_tn <| wp_seq <| w_reg <| rl_run F (run_assign (F.ev rfl)) rfl ?_; clear F a; intro a F
  refine rl_nil <| q_tn <| wp_ret <| fin1 F rfl rfl ?_
  exact ⟨M, _, rfl, FindR.none hA (by omega)⟩
end Go.Proofs.YtmmhmcplegpenaaDoor
