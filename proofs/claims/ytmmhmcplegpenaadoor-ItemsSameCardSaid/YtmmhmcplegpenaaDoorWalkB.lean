/- The walks, part B. -/
import Derived.Test.YtmmhmcplegpenaaDoorWalkA
namespace Go.Proofs.YtmmhmcplegpenaaDoor
open Go Go.Y Go.Proofs
set_option linter.unusedSimpArgs false
set_option linter.unusedVariables false
theorem chk21_spec {w0 w : World} {G : Ghost} {L : List Res} (M : Mem w0 G L w) {s : List UInt8} (hs : s.length ≤ 9223372036854775807) : Calls Tryd.prog 28 #[.string (str s)] w (RetS w0 G L fun v => ∃ b : Bool, v = .bool b ∧ (b = true ↔ ¬ Name s)) := by
 refine calls_start (vs := [_]) Tryd.func28 rfl (n := 6) rfl rfl ?_
 intro a F
 refine wp_seq <| w_reg <| rl_run F (run_assign (F.ev rfl)) rfl ?_; clear F a; intro a F
 refine rl_nil <| q_tn <| wp_seq <| w_reg <| rl_run F (run_move (F.ev rfl)) rfl ?_; clear F a; intro a F
 refine rl_callS F ent29 rfl rfl (name_spec (s := s) M (by assumption)) ?_; clear F M a; rintro _ w a M ⟨b1, rfl, hb1⟩ F
 refine rl_run F (run_not (F.ev rfl)) rfl ?_; clear F a; intro a F
 refine rl_run F (run_assign (F.ev rfl)) rfl ?_; clear F a; intro a F
 refine rl_nil <| q_tn <| wp_ret <| fin1 F rfl rfl ?_
 exact ⟨M, (!(b1)), rfl, (by clear F M; grind)⟩
theorem idxs_spec {w0 w : World} {G : Ghost} {L : List Res} (M : Mem w0 G L w) {ad : Option Addr} {cd : Nat} {xs : List (List UInt8)} (S : RdSl rdStr 1 G (.slice ad xs.length cd) xs) : Calls Tryd.prog 46 #[.slice ad xs.length cd, .func (.func 28) #[] #[]] w (RetS w0 G L fun v => ∃ z : Int, v = .int .i64 z ∧ (0 ≤ z ↔ ¬ ∀ s ∈ xs, Name s)) := by
 have bS := S.bound
 refine calls_start (vs := [_, _]) Tryd.func46 rfl (n := 19) rfl rfl ?_
 intro a F
 refine wp_seq <| w_reg <| rl_run F (run_assign (F.ev rfl)) rfl ?_; clear F a; intro a F
 refine rl_nil <| q_tn ?_
 iterate 2 (refine wp_seq ?_)
 refine w_reg <| rl_run F (run_move (F.ev rfl)) rfl ?_; clear F a; intro a F
 refine rl_run F (run_lenSl tok28.k (F.ev rfl)) rfl ?_; clear F a; intro a F
 refine rl_run F (run_move (F.ev rfl)) rfl ?_; clear F a; intro a F
 refine rl_nil <| q_tn <| wp_block <| w_loopN (fun m a' w' => ∃ (i : Nat), m = xs.length - i ∧ Fits 19 a' [(0, .slice (ad) (xs.length) (cd)), (1, .func (.func 28) #[] #[]), (7, .int .i64 (((xs.length : Nat) : Int))), (8, .int .i64 (((i : Nat) : Int)))] ∧ Mem w0 G (L) w' ∧ (i ≤ xs.length) ∧ (∀ (m : Nat) (s : List UInt8), m < i → xs[m]? = some s → Name s)) _ ⟨0, rfl, F.to ⟨rfl, rfl, rfl, rfl, trivial⟩, M, Nat.zero_le _, fun m d h => by omega⟩ ?_
 clear F M
 rintro m a w ⟨i, rfl, F, M, hi, hA⟩
 refine wp_seq <| w_reg <| rl_run F (run_lss (F.ev rfl) (F.ev rfl)) rfl ?_; clear F a; intro a F
 refine rl_nil <| q_tn <| wp_seq <| w_cond F rfl ?_ ?_
 ·intro hc
  have h1b := hc; clear hc
  have h1 : ((i : Nat) : Int) < ((xs.length : Nat) : Int) := of_decide_eq_true h1b
  refine wp_skip <| q_tn <| wp_seq <| wp_block <| wp_seq <| w_reg <| rl_run F (run_move (F.ev rfl)) rfl ?_; clear F a; intro a F
  refine rl_run F (run_assign (F.ev rfl)) rfl ?_; clear F a; intro a F
  refine rl_nil <| q_tn <| wp_seq <| w_reg ?_
  iterate 3 (refine rl_run F (run_move (F.ev rfl)) rfl ?_; clear F a; intro a F)
  obtain ⟨Xe2, hXe2⟩ := get_of_lt (xs := xs) (i := i) (by omega)
  obtain ⟨be2, oe2, _, Ie2, _, Ae2, ⟨rfl, hsle2⟩⟩ := S.at hXe2
  refine rl_run F (run_indexI tok28.k tok9 (F.ev rfl) (F.ev rfl) (by omega) Ie2) rfl ?_; clear F a; intro a F
  refine rl_run F (run_load1 (agf tok9 rfl) (F.ev rfl) (M.cellA Ae2 0 (by omega) rfl)) rfl ?_; clear F a; intro a F
  refine rl_callvS F ent28 (caps := []) rfl rfl rfl (chk21_spec (s := Xe2) M (by omega)) ?_; clear F M a; rintro _ w a M ⟨b3, rfl, hb3⟩ F
  refine rl_nil <| q_tn <| w_cond F rfl ?_ ?_
  ·intro hc
   have h4b := hc; clear hc
   have h4 : (b3) = true := h4b
   refine wp_seq <| w_reg <| rl_run F (run_move (F.ev rfl)) rfl ?_; clear F a; intro a F
   refine rl_run F (run_assign (F.ev rfl)) rfl ?_; clear F a; intro a F
   refine rl_nil <| q_tn <| wp_ret <| q_br ?_
   iterate 2 (refine q_tr ?_)
   refine q_br <| q_tr <| fin1 F rfl rfl ?_
   exact ⟨M, _, rfl, ⟨fun _ h_ => (hb3.1 (by assumption)) (h_ _ (List.mem_of_getElem? hXe2)), fun _ => by omega⟩⟩
  ·intro hc
   have h5b := hc; clear hc
   have h5 : (b3) = false := h5b
   refine wp_skip <| q_bn <| q_tn <| w_reg <| rl_run F (run_addi (F.ev rfl) (F.ev rfl) (in_i64 (by omega) (by omega))) rfl ?_; clear F a; intro a F
   refine rl_run F (run_move (F.ev rfl)) rfl ?_; clear F a; intro a F
   refine rl_nil <| q_tn ?_
   exact ⟨_, by omega, i + 1, rfl, F.to ⟨rfl, rfl, rfl, rfl, trivial⟩, M, by omega, none_snoc hA hXe2 (by clear F M; grind)⟩
 ·intro hc
  have h6b := hc; clear hc
  have h6 : ¬ (((i : Nat) : Int) < ((xs.length : Nat) : Int)) := of_decide_eq_false h6b
  refine wp_exit ?_
  iterate 2 (refine q_te ?_)
  refine q_bh <| q_tn <| wp_seq <| w_reg <| rl_run F (run_assign (F.ev rfl)) rfl ?_; clear F a; intro a F
  refine rl_nil <| q_tn <| wp_ret <| fin1 F rfl rfl ?_
  exact ⟨M, _, rfl, ⟨fun h => by omega, fun h => absurd (marks_all hA (by omega)) h⟩⟩
theorem conts_spec {w0 w : World} {G : Ghost} {L : List Res} (M : Mem w0 G L w) {ad : Option Addr} {cd : Nat} {xs : List (List UInt8)} (S : RdSl rdStr 1 G (.slice ad xs.length cd) xs) : Calls Tryd.prog 27 #[.slice ad xs.length cd, .func (.func 28) #[] #[]] w (RetS w0 G L fun v => ∃ b : Bool, v = .bool b ∧ (b = true ↔ ¬ ∀ s ∈ xs, Name s)) := by
 refine calls_start (vs := [_, _]) Tryd.func27 rfl (n := 9) rfl rfl ?_
 intro a F
 refine wp_seq <| w_reg <| rl_run F (run_assign (F.ev rfl)) rfl ?_; clear F a; intro a F
 refine rl_nil <| q_tn <| wp_seq <| w_reg ?_
 iterate 2 (refine rl_run F (run_move (F.ev rfl)) rfl ?_; clear F a; intro a F)
 refine rl_callS F ent46 rfl rfl (idxs_spec (xs := xs) M S) ?_; clear F M a; rintro _ w a M ⟨z1, rfl, hz1⟩ F
 refine rl_run F (run_geq (F.ev rfl) (F.ev rfl)) rfl ?_; clear F a; intro a F
 refine rl_run F (run_assign (F.ev rfl)) rfl ?_; clear F a; intro a F
 refine rl_nil <| q_tn <| wp_ret <| fin1 F rfl rfl ?_
 exact ⟨M, _, rfl, decide_eq_true_iff.trans hz1⟩
theorem chk1_spec {w0 w : World} {G : Ghost} {L : List Res} {b : Nat} {x : ItemD} {ma : Option Addr} {mc : Nat} (M : Mem w0 G (.blk b [.int .u64 (((x.key : Nat) : Int)), .int .u8 (((x.typ : Nat) : Int)), .string (str (x.text)), .slice (ma) (x.marks.length) (mc)] 30 :: L) w) (SM : RdSl rdStr 1 G (.slice ma x.marks.length mc) x.marks) :
  Calls Tryd.prog 23 #[.pointer (some ⟨b, 0, none⟩)] w (RetS w0 G (.blk b [.int .u64 (((x.key : Nat) : Int)), .int .u8 (((x.typ : Nat) : Int)), .string (str (x.text)), .slice (ma) (x.marks.length) (mc)] 30 :: L) fun v => ∃ bb : Bool, v = .bool bb ∧ (bb = true ↔ Str x.text)) := by
 refine calls_start (vs := [_]) Tryd.func23 rfl (n := 12) rfl rfl ?_
 intro a F
 refine wp_seq <| w_reg <| rl_run F (run_assign (F.ev rfl)) rfl ?_; clear F a; intro a F
 refine rl_nil <| q_tn <| wp_seq <| w_reg <| rl_run F (run_fieldAddr tok30.k rfl rfl (F.ev rfl)) rfl ?_; clear F a; intro a F
 refine rl_run F (run_load1 (agf tok9 rfl) (F.ev rfl) (M.cellL (k := 0) rfl rfl)) rfl ?_; clear F a; intro a F
 refine rl_run F (run_lenStr tok9.k (F.ev rfl)) rfl ?_; clear F a; intro a F
 refine rl_run F (run_leq (F.ev rfl) (F.ev rfl)) rfl ?_; clear F a; intro a F
 refine rl_run F (run_move (F.ev rfl)) rfl ?_; clear F a; intro a F
 rcases Bool.eq_false_or_eq_true (decide ((((x.text).length : Nat) : Int) ≤ 64)) with hc | hc
 ·skip
  have h1b := hc; clear hc
  have h1 : (((x.text).length : Nat) : Int) ≤ 64 := of_decide_eq_true h1b
  refine rl_guard_t F rfl rfl rfl h1b ?_
  refine rl_run F (run_fieldAddr tok30.k rfl rfl (F.ev rfl)) rfl ?_; clear F a; intro a F
  refine rl_guard_t F rfl rfl rfl h1b ?_
  refine rl_run F (run_load1 (agf tok9 rfl) (F.ev rfl) (M.cellL (k := 0) rfl rfl)) rfl ?_; clear F a; intro a F
  refine rl_guard_t F rfl rfl rfl h1b ?_
  refine rl_callS F ent24 rfl rfl (contf_text1 (s := x.text) M) ?_; clear F M a; rintro _ w a M ⟨b2, rfl, hb2⟩ F
  refine rl_guard_t F rfl rfl rfl h1b ?_
  refine rl_run F (run_not (F.ev rfl)) rfl ?_; clear F a; intro a F
  refine rl_run F (run_pick_t (F.ev rfl) h1b (F.ev rfl)) rfl ?_; clear F a; intro a F
  refine rl_run F (run_assign (F.ev rfl)) rfl ?_; clear F a; intro a F
  refine rl_nil <| q_tn <| wp_ret <| fin1 F rfl rfl ?_
  exact ⟨M, (!(b2)), rfl, (by clear F M; unfold Str; grind)⟩
 ·skip
  have h3b := hc; clear hc
  have h3 : ¬ ((((x.text).length : Nat) : Int) ≤ 64) := of_decide_eq_false h3b
  iterate 4 (refine rl_guard_f F rfl rfl rfl h3b ?_; clear F a; intro a F)
  refine rl_run F (run_pick_f (F.ev rfl) h3b (F.ev rfl)) rfl ?_; clear F a; intro a F
  refine rl_run F (run_assign (F.ev rfl)) rfl ?_; clear F a; intro a F
  refine rl_nil <| q_tn <| wp_ret <| fin1 F rfl rfl ?_
  exact ⟨M, false, rfl, (by clear F M; unfold Str; grind)⟩
theorem chk2_spec {w0 w : World} {G : Ghost} {L : List Res} {b : Nat} {x : ItemD} {ma : Option Addr} {mc : Nat} (M : Mem w0 G (.blk b [.int .u64 (((x.key : Nat) : Int)), .int .u8 (((x.typ : Nat) : Int)), .string (str (x.text)), .slice (ma) (x.marks.length) (mc)] 30 :: L) w) (SM : RdSl rdStr 1 G (.slice ma x.marks.length mc) x.marks) :
  Calls Tryd.prog 26 #[.pointer (some ⟨b, 0, none⟩)] w (RetS w0 G (.blk b [.int .u64 (((x.key : Nat) : Int)), .int .u8 (((x.typ : Nat) : Int)), .string (str (x.text)), .slice (ma) (x.marks.length) (mc)] 30 :: L) fun v => ∃ bb : Bool, v = .bool bb ∧ (bb = true ↔ (x.marks.length ≤ 8 ∧ ∀ s ∈ x.marks, Name s))) := by
 refine calls_start (vs := [_]) Tryd.func26 rfl (n := 12) rfl rfl ?_
 intro a F
 refine wp_seq <| w_reg <| rl_run F (run_assign (F.ev rfl)) rfl ?_; clear F a; intro a F
 refine rl_nil <| q_tn <| wp_seq <| w_reg <| rl_run F (run_fieldAddr tok30.k rfl rfl (F.ev rfl)) rfl ?_; clear F a; intro a F
 refine rl_run F (run_load1 (agf tok28 rfl) (F.ev rfl) (M.cellL (k := 0) rfl rfl)) rfl ?_; clear F a; intro a F
 refine rl_run F (run_lenSl tok28.k (F.ev rfl)) rfl ?_; clear F a; intro a F
 refine rl_run F (run_leq (F.ev rfl) (F.ev rfl)) rfl ?_; clear F a; intro a F
 refine rl_run F (run_move (F.ev rfl)) rfl ?_; clear F a; intro a F
 rcases Bool.eq_false_or_eq_true (decide (((x.marks.length : Nat) : Int) ≤ 8)) with hc | hc
 ·skip
  have h1b := hc; clear hc
  have h1 : ((x.marks.length : Nat) : Int) ≤ 8 := of_decide_eq_true h1b
  refine rl_guard_t F rfl rfl rfl h1b ?_
  refine rl_run F (run_fieldAddr tok30.k rfl rfl (F.ev rfl)) rfl ?_; clear F a; intro a F
  refine rl_guard_t F rfl rfl rfl h1b ?_
  refine rl_run F (run_load1 (agf tok28 rfl) (F.ev rfl) (M.cellL (k := 0) rfl rfl)) rfl ?_; clear F a; intro a F
  refine rl_guard_t F rfl rfl rfl h1b ?_
  refine rl_callS F ent27 rfl rfl (conts_spec (xs := x.marks) M SM) ?_; clear F M a; rintro _ w a M ⟨b2, rfl, hb2⟩ F
  refine rl_guard_t F rfl rfl rfl h1b ?_
  refine rl_run F (run_not (F.ev rfl)) rfl ?_; clear F a; intro a F
  refine rl_run F (run_pick_t (F.ev rfl) h1b (F.ev rfl)) rfl ?_; clear F a; intro a F
  refine rl_run F (run_assign (F.ev rfl)) rfl ?_; clear F a; intro a F
  refine rl_nil <| q_tn <| wp_ret <| fin1 F rfl rfl ?_
  exact ⟨M, (!(b2)), rfl, (by clear F M; grind)⟩
 ·skip
  have h3b := hc; clear hc
  have h3 : ¬ (((x.marks.length : Nat) : Int) ≤ 8) := of_decide_eq_false h3b
  iterate 4 (refine rl_guard_f F rfl rfl rfl h3b ?_; clear F a; intro a F)
  refine rl_run F (run_pick_f (F.ev rfl) h3b (F.ev rfl)) rfl ?_; clear F a; intro a F
  refine rl_run F (run_assign (F.ev rfl)) rfl ?_; clear F a; intro a F
  refine rl_nil <| q_tn <| wp_ret <| fin1 F rfl rfl ?_
  exact ⟨M, false, rfl, (by clear F M; grind)⟩
theorem check_spec {w0 w : World} {G : Ghost} {L : List Res} (M : Mem w0 G L w) {x : ItemD} {ma : Option Addr} {mc : Nat} (hI : (x.key < 18446744073709551616 ∧ x.typ < 256 ∧ x.text.length ≤ 9223372036854775807)) (SM : RdSl rdStr 1 G (.slice ma x.marks.length mc) x.marks) {t : Int} : Calls Tryd.prog 9 #[.agg #[.int .u64 (((x.key : Nat) : Int)), .int .u8 (((x.typ : Nat) : Int)), .string (str (x.text)), .slice (ma) (x.marks.length) (mc)], .int .i64 t] w (RetS w0 G L fun v => v = .int .i64 (itmF t x)) := by
 refine calls_start (vs := [_, _]) Tryd.func9 rfl (n := 29) rfl rfl ?_
 intro a F
 refine wp_seq ?_
 obtain ⟨hI1, hI2, hI3⟩ := hI
 refine w_reg <| rl_box F M rfl (cs := [.int .u64 (((x.key : Nat) : Int)), .int .u8 (((x.typ : Nat) : Int)), .string (str (x.text)), .slice (ma) (x.marks.length) (mc)]) rfl rfl ?_; clear F M a; intro b1 w a M F
 refine rl_run F (run_assign (F.ev rfl)) rfl ?_; clear F a; intro a F
 refine rl_nil <| q_tn <| wp_seq <| w_reg <| rl_run F (run_makeFunc (vs := #[.pointer (some ⟨b1, 0, none⟩)]) (by simp only [List.map_toArray, List.map_cons, List.map_nil, F.ev (x := .tmp 2) rfl])) rfl ?_; clear F a; intro a F
 refine rl_run F (run_assign (F.ev rfl)) rfl ?_; clear F a; intro a F
 refine rl_nil <| q_tn <| wp_seq <| w_reg <| rl_run F (run_makeFunc (vs := #[.pointer (some ⟨b1, 0, none⟩)]) (by simp only [List.map_toArray, List.map_cons, List.map_nil, F.ev (x := .tmp 2) rfl])) rfl ?_; clear F a; intro a F
 refine rl_run F (run_assign (F.ev rfl)) rfl ?_; clear F a; intro a F
 refine rl_nil <| q_tn ?_
 iterate 2 (refine wp_seq ?_)
 refine w_reg <| rl_run F (run_fieldAddr tok30.k rfl rfl (F.ev rfl)) rfl ?_; clear F a; intro a F
 refine rl_run F (run_load1 (agf tok27 rfl) (F.ev rfl) (M.cellL (k := 0) rfl rfl)) rfl ?_; clear F a; intro a F
 refine rl_run F (run_eqi (F.ev rfl) (F.ev rfl)) rfl ?_; clear F a; intro a F
 refine rl_run F (run_move (F.ev rfl)) rfl ?_; clear F a; intro a F
 rcases Bool.eq_false_or_eq_true (decide (((x.key : Nat) : Int) = 0)) with hc | hc
 ·skip
  have h2b := hc; clear hc
  have h2 : ((x.key : Nat) : Int) = 0 := of_decide_eq_true h2b
  iterate 5 (refine rl_guard_f F rfl rfl rfl h2b ?_; clear F a; intro a F)
  refine rl_run F (run_pick_t (F.ev rfl) h2b (F.ev rfl)) rfl ?_; clear F a; intro a F
  refine rl_run F (run_move (F.ev rfl)) rfl ?_; clear F a; intro a F
  iterate 3 (refine rl_guard_f F rfl rfl rfl rfl ?_; clear F a; intro a F)
  refine rl_run F (run_pick_t (F.ev rfl) rfl (F.ev rfl)) rfl ?_; clear F a; intro a F
  refine rl_run F (run_move (F.ev rfl)) rfl ?_; clear F a; intro a F
  iterate 3 (refine rl_guard_f F rfl rfl rfl rfl ?_; clear F a; intro a F)
  refine rl_run F (run_pick_t (F.ev rfl) rfl (F.ev rfl)) rfl ?_; clear F a; intro a F
  refine rl_nil <| q_tn <| w_cond_t F rfl rfl ?_
  refine wp_seq <| w_reg <| rl_run F (run_assign (F.ev rfl)) rfl ?_; clear F a; intro a F
  refine rl_nil <| q_tn <| wp_ret <| q_tr <| fin1 F rfl rfl ?_
  exact ⟨M.weaken (.cons _ (List.Sublist.refl _)), by rw [itmF_no (by clear F M; unfold ItemOk; grind)]⟩
 ·skip
  have h3b := hc; clear hc
  have h3 : ¬ (((x.key : Nat) : Int) = 0) := of_decide_eq_false h3b
  refine rl_guard_t F rfl rfl rfl h3b ?_
  refine rl_run F (run_fieldAddr tok30.k rfl rfl (F.ev rfl)) rfl ?_; clear F a; intro a F
  refine rl_guard_t F rfl rfl rfl h3b ?_
  refine rl_run F (run_load1 (agf tok5 rfl) (F.ev rfl) (M.cellL (k := 0) rfl rfl)) rfl ?_; clear F a; intro a F
  refine rl_guard_t F rfl rfl rfl h3b ?_
  refine rl_run F (run_conv_int tok3.k ⟨_, by rw [under_int tok5.k]⟩ (F.ev rfl) (in_i64 (by omega) (by omega))) rfl ?_; clear F a; intro a F
  refine rl_guard_t F rfl rfl rfl h3b ?_
  refine rl_run F (run_move (F.ev rfl)) rfl ?_; clear F a; intro a F
  refine rl_guard_t F rfl rfl rfl h3b ?_
  refine rl_run F (run_geq (F.ev rfl) (F.ev rfl)) rfl ?_; clear F a; intro a F
  refine rl_run F (run_pick_f (F.ev rfl) h3b (F.ev rfl)) rfl ?_; clear F a; intro a F
  refine rl_run F (run_move (F.ev rfl)) rfl ?_; clear F a; intro a F
  rcases Bool.eq_false_or_eq_true (decide (t ≤ ((x.typ : Nat) : Int))) with hc | hc
  ·skip
   have h4b := hc; clear hc
   have h4 : t ≤ ((x.typ : Nat) : Int) := of_decide_eq_true h4b
   iterate 3 (refine rl_guard_f F rfl rfl rfl h4b ?_; clear F a; intro a F)
   refine rl_run F (run_pick_t (F.ev rfl) h4b (F.ev rfl)) rfl ?_; clear F a; intro a F
   refine rl_run F (run_move (F.ev rfl)) rfl ?_; clear F a; intro a F
   iterate 3 (refine rl_guard_f F rfl rfl rfl rfl ?_; clear F a; intro a F)
   refine rl_run F (run_pick_t (F.ev rfl) rfl (F.ev rfl)) rfl ?_; clear F a; intro a F
   refine rl_nil <| q_tn <| w_cond_t F rfl rfl ?_
   refine wp_seq <| w_reg <| rl_run F (run_assign (F.ev rfl)) rfl ?_; clear F a; intro a F
   refine rl_nil <| q_tn <| wp_ret <| q_tr <| fin1 F rfl rfl ?_
   exact ⟨M.weaken (.cons _ (List.Sublist.refl _)), by rw [itmF_no (by clear F M; unfold ItemOk; grind)]⟩
  ·skip
   have h5b := hc; clear hc
   have h5 : ¬ (t ≤ ((x.typ : Nat) : Int)) := of_decide_eq_false h5b
   refine rl_guard_t F rfl rfl rfl h5b ?_
   refine rl_run F (run_move (F.ev rfl)) rfl ?_; clear F a; intro a F
   refine rl_guard_t F rfl rfl rfl h5b ?_
   change Mem w0 G (_ :: L) _ at M
   refine rl_callvS F ent23 (caps := [.pointer (some ⟨b1, 0, none⟩)]) rfl rfl rfl (chk1_spec (x := x) M SM) ?_; clear F M a; rintro _ w a M ⟨b6, rfl, hb6⟩ F
   refine rl_guard_t F rfl rfl rfl h5b ?_
   refine rl_run F (run_not (F.ev rfl)) rfl ?_; clear F a; intro a F
   refine rl_run F (run_pick_f (F.ev rfl) h5b (F.ev rfl)) rfl ?_; clear F a; intro a F
   refine rl_run F (run_move (F.ev rfl)) rfl ?_; clear F a; intro a F
   rcases Bool.eq_false_or_eq_true (!(b6)) with hc | hc
   ·skip
    have h7b := hc; clear hc
    have h7 : (b6) = false := (of_not_t h7b)
    have h7c : (b6) = false := (of_not_t h7b)
    iterate 3 (refine rl_guard_f F rfl rfl rfl (not_t h7c) ?_; clear F a; intro a F)
    refine rl_run F (run_pick_t (F.ev rfl) (not_t h7c) (F.ev rfl)) rfl ?_; clear F a; intro a F
    refine rl_nil <| q_tn <| w_cond_t F rfl rfl ?_
    refine wp_seq <| w_reg <| rl_run F (run_assign (F.ev rfl)) rfl ?_; clear F a; intro a F
    refine rl_nil <| q_tn <| wp_ret <| q_tr <| fin1 F rfl rfl ?_
    exact ⟨M.weaken (.cons _ (List.Sublist.refl _)), by rw [itmF_no (by clear F M; unfold ItemOk; grind)]⟩
   ·skip
    have h8b := hc; clear hc
    have h8 : (b6) = true := (of_not_f h8b)
    have h8c : (b6) = true := (of_not_f h8b)
    refine rl_guard_t F rfl rfl rfl (not_f h8c) ?_
    refine rl_run F (run_move (F.ev rfl)) rfl ?_; clear F a; intro a F
    refine rl_guard_t F rfl rfl rfl (not_f h8c) ?_
    change Mem w0 G (_ :: L) _ at M
    refine rl_callvS F ent26 (caps := [.pointer (some ⟨b1, 0, none⟩)]) rfl rfl rfl (chk2_spec (x := x) M SM) ?_; clear F M a; rintro _ w a M ⟨b9, rfl, hb9⟩ F
    refine rl_guard_t F rfl rfl rfl (not_f h8c) ?_
    refine rl_run F (run_not (F.ev rfl)) rfl ?_; clear F a; intro a F
    refine rl_run F (run_pick_f (F.ev rfl) (not_f h8c) (F.ev rfl)) rfl ?_; clear F a; intro a F
    refine rl_nil <| q_tn <| w_cond F rfl ?_ ?_
    ·intro hc
     have h10b := hc; clear hc
     have h10 : (b9) = false := (of_not_t h10b)
     have h10c : (b9) = false := (of_not_t h10b)
     refine wp_seq <| w_reg <| rl_run F (run_assign (F.ev rfl)) rfl ?_; clear F a; intro a F
     refine rl_nil <| q_tn <| wp_ret <| q_tr <| fin1 F rfl rfl ?_
     exact ⟨M.weaken (.cons _ (List.Sublist.refl _)), by rw [itmF_no (by clear F M; unfold ItemOk; grind)]⟩
    ·intro hc
     have h11b := hc; clear hc
     have h11 : (b9) = true := (of_not_f h11b)
     have h11c : (b9) = true := (of_not_f h11b)
     refine wp_skip <| q_tn <| wp_seq <| w_reg <| rl_run F (run_assign (F.ev rfl)) rfl ?_; clear F a; intro a F
     refine rl_nil <| q_tn <| wp_ret <| fin1 F rfl rfl ?_
     exact ⟨M.weaken (.cons _ (List.Sublist.refl _)), by rw [itmF_yes (by first | (clear F M; unfold ItemOk; grind) | exact ⟨by omega, by omega, by clear F M; grind, by omega, marks_all hA (by omega)⟩)]⟩
end Go.Proofs.YtmmhmcplegpenaaDoor
