/- The walks, part O. -/
import Derived.Test.YtlnehkjmmegkhaaGreatWalkN
import Derived.Test.YtlnehkjmmegkhaaGreatRpl
import Derived.Test.YtlnehkjmmegkhaaGreatTab2
namespace Go.Proofs.YtlnehkjmmegkhaaGreat
open Go Go.Y Go.Proofs
set_option linter.unusedSimpArgs false
set_option linter.unusedVariables false
def repS : List (List UInt8) := [[92], [92, 92], [34], [92, 34]]
theorem repE {G : Ghost} : Els rdStr 1 G [.string (str ([92] : List UInt8)), .string (str ([92, 92] : List UInt8)), .string (str ([34] : List UInt8)), .string (str ([92, 34] : List UInt8))] repS :=
  Els.cons (c := [_]) ⟨rfl, by decide⟩ rfl (Els.cons (c := [_]) ⟨rfl, by decide⟩ rfl (Els.cons (c := [_]) ⟨rfl, by decide⟩ rfl (Els.one ⟨rfl, by decide⟩ rfl)))
theorem newrep_spec {w0 w : World} {G : Ghost} {L : List Res} {ra : Option Addr} {rc : Nat} (M : Mem w0 G (.row (.slice (ra) (4) (rc)) (4) ([.string (str ([92] : List UInt8)), .string (str ([92, 92] : List UInt8)), .string (str ([34] : List UInt8)), .string (str ([92, 34] : List UInt8))]) 9 1 :: L) w) : Calls Tryz.prog 117 #[.slice (ra) (4) (rc)] w
    (RetL w0 G fun L' v => ∃ b a c, v = .pointer (some ⟨b, 0, none⟩) ∧ L' = .blk b [.int .u32 (0), .int .i32 (0), .int .u32 (0), .nilIface, .slice (a) (4) (c)] 177 :: .row (.slice (a) (4) (c)) (4) ([.string (str ([92] : List UInt8)), .string (str ([92, 92] : List UInt8)), .string (str ([34] : List UInt8)), .string (str ([92, 34] : List UInt8))]) 9 1 :: L) := by
  refine calls_start (vs := [_]) Tryz.func117 rfl (n := 12) rfl rfl ?_
  intro a F
  refine wp_seq <| w_reg <| rl_run F (run_assign (F.ev rfl)) rfl ?_; clear F a; intro a F
  refine rl_nil <| q_tn ?_
  iterate 2 (refine wp_seq ?_)
  refine w_reg <| rl_run F (run_move (F.ev rfl)) rfl ?_; clear F a; intro a F
  refine rl_run F (run_lenSl tok49.k (F.ev rfl)) rfl ?_; clear F a; intro a F
  refine rl_run F (run_remi (F.ev rfl) (F.ev rfl) (by omega) (by omega)) rfl ?_; clear F a; intro a F
  refine rl_run F (run_eqi (F.ev rfl) (F.ev rfl)) rfl ?_; clear F a; intro a F
  refine rl_nil <| q_tn <| w_cond_f F rfl (decide_eq_false (by decide)) ?_
  refine wp_skip <| q_tn <| wp_seq <| w_reg <| rl_run F (run_move (F.ev rfl)) rfl ?_; clear F a; intro a F
  have M := M.nilrow 9 1
  refine rl_append_row F M (k := 0) (k2 := 1) rfl rfl tok49.k tok9 rfl rfl (by decide) rfl rfl (by show _ * 16 ≤ _; (try simp only [List.length_drop, List.length_take, List.length_append, List.length_cons, List.length_nil]); omega) (by (try simp only [List.length_drop, List.length_take, List.length_append, List.length_cons, List.length_nil]); omega) rfl ?_; clear F M a; intro v1 w a M F
  obtain ⟨av1, cv1, rfl, hlev1, hcmv1, hlv1⟩ := M.row_shape (k := 0) rfl
  refine rl_run F (run_buildS (cs := [.int .u32 (0), .int .i32 (0), .int .u32 (0), .nilIface, .slice (av1) (0 + 4) (cv1)]) (ps := [(2, .slice (av1) (0 + 4) (cv1))]) tok177.k rfl tok177 (F.evp rfl) rfl) rfl ?_; clear F a; intro a F
  refine rl_box F M rfl (cs := [.int .u32 (0), .int .i32 (0), .int .u32 (0), .nilIface, .slice (av1) (0 + 4) (cv1)]) rfl rfl ?_; clear F M a; intro b2 w a M F
  refine rl_run F (run_assign (F.ev rfl)) rfl ?_; clear F a; intro a F
  refine rl_nil <| q_tn <| wp_ret <| fin1 F rfl rfl ?_
  replace M := M.perm (perm_front _ 1 _ rfl)
  replace M := M.perm (perm_front _ 1 _ rfl)
  change Mem w0 G (.blk b2 [.int .u32 (0), .int .i32 (0), .int .u32 (0), .nilIface, .slice (av1) (0 + 4) (cv1)] 177 :: .row (.slice (av1) (0 + 4) (cv1)) (0 + 4) (([]) ++ ([.string (str ([92] : List UInt8)), .string (str ([92, 92] : List UInt8)), .string (str ([34] : List UInt8)), .string (str ([92, 34] : List UInt8))])) 9 1 :: .row (.slice (ra) (4) (rc)) (4) ([.string (str ([92] : List UInt8)), .string (str ([92, 92] : List UInt8)), .string (str ([34] : List UInt8)), .string (str ([92, 34] : List UInt8))]) 9 1 :: L) _ at M
  exact ⟨_, M.weaken (.cons_cons _ (.cons_cons _ (.cons _ (List.Sublist.refl _)))), _, _, _, rfl, rfl⟩
theorem tab0_len (v : Value) : (tab0 v).length = 257 := (tab0_is v).len
theorem tab0_mem {u v : Value} (h : u ∈ tab0 v) : u = .slice none 0 0 ∨ u = v := by
  unfold tab0 at h; rcases List.mem_append.1 h with h | h
  · exact Or.inl (List.eq_of_mem_replicate h)
  · exact Or.inr (List.mem_singleton.1 h)
theorem tab0_last (v : Value) : (tab0 v)[256]? = some v := by
  unfold tab0; rw [List.getElem?_append_right (by rw [List.length_replicate]; exact Nat.le_refl _), List.length_replicate]; rfl
theorem over_app : ∀ (us pre cs : List Value), cs.length = us.length → over (pre ++ cs) pre.length us = pre ++ us
  | [], pre, cs, h => by rw [List.eq_nil_of_length_eq_zero h]; simp [over]
  | u :: us, pre, [], h => by simp at h
  | u :: us, pre, c :: cs, h => by
    have h1 : (pre ++ c :: cs).set pre.length u = (pre ++ [u]) ++ cs := by simp
    have h2 := over_app us (pre ++ [u]) cs (by simpa using h)
    rw [over, h1]
    simpa using h2
theorem over_all {cs us : List Value} (h : cs.length = us.length) : over cs 0 us = us := over_app us [] cs h
theorem tab0_zero : ti195.zero.cells = (tab0 (.slice none 0 0)).toArray := by kernel_rfl
theorem tab0_fill {a : Option Addr} {n c : Nat} : Instr.fill (fun j => ([(0, 256), (256, 1)] : List (Nat × Nat))[j]?) ti195.zero.cells [(1, .slice a n c)] = some (tab0 (.slice a n c)).toArray := by kernel_rfl
set_option maxHeartbeats 2000000 in
theorem rbuild_spec {w0 w : World} {G : Ghost} {L : List Res} {b : Nat} {ra : Option Addr} {rc : Nat} {rv sv : Value} {dn lk : Int} (M : Mem w0 G (.blk b [.int .u32 (dn), .int .i32 (lk), sv, rv, .slice (ra) (4) (rc)] 177 :: .row (.slice (ra) (4) (rc)) (4) ([.string (str ([92] : List UInt8)), .string (str ([92, 92] : List UInt8)), .string (str ([34] : List UInt8)), .string (str ([92, 34] : List UInt8))]) 9 1 :: L) w) : Calls Tryz.prog 131 #[.pointer (some ⟨b, 0, none⟩)] w
    (RetL w0 G fun L' v => ∃ bb cs ta tc, TabIs cs [92, 34] ∧ cs[256]? = some (.slice ta 2 tc) ∧ v = .iface 196 (.pointer (some ⟨bb, 0, none⟩)) ∧ L' = .blk bb cs 195 :: .blk b [.int .u32 (dn), .int .i32 (lk), sv, rv, .slice (ra) (4) (rc)] 177 :: .row (.slice (ra) (4) (rc)) (4) ([.string (str ([92] : List UInt8)), .string (str ([92, 92] : List UInt8)), .string (str ([34] : List UInt8)), .string (str ([92, 34] : List UInt8))]) 9 1 :: L) := by
  refine calls_start (vs := [_]) Tryz.func131 rfl (n := 132) rfl rfl ?_
  intro a F
  refine wp_seq <| w_reg <| rl_run F (run_assign (F.ev rfl)) rfl ?_; clear F a; intro a F
  refine rl_nil <| q_tn <| wp_seq <| w_reg <| rl_run F (run_move (F.ev rfl)) rfl ?_; clear F a; intro a F
  refine rl_run F (run_nilCheck (F.ev rfl)) rfl ?_; clear F a; intro a F
  refine rl_run F (run_fieldAddr tok177.k rfl rfl (F.ev rfl)) rfl ?_; clear F a; intro a F
  refine rl_run F (run_load1 (agf tok49 rfl) (F.ev rfl) (M.cellL (k := 0) rfl rfl)) rfl ?_; clear F a; intro a F
  refine rl_run F (run_assign (F.ev rfl)) rfl ?_; clear F a; intro a F
  refine rl_nil <| q_tn ?_
  iterate 2 (refine wp_seq ?_)
  refine w_reg <| rl_run F (run_move (F.ev rfl)) rfl ?_; clear F a; intro a F
  refine rl_run F (run_lenSl tok49.k (F.ev rfl)) rfl ?_; clear F a; intro a F
  refine rl_run F (run_eqi (F.ev rfl) (F.ev rfl)) rfl ?_; clear F a; intro a F
  refine rl_run F (run_move (F.ev rfl)) rfl ?_; clear F a; intro a F
  iterate 5 (refine rl_guard_f F rfl rfl rfl (decide_eq_false (by decide)) ?_; clear F a; intro a F)
  refine rl_run F (run_pick_f (F.ev rfl) (decide_eq_false (by decide)) (F.ev rfl)) rfl ?_; clear F a; intro a F
  refine rl_nil <| q_tn <| w_cond_f F rfl rfl ?_
  refine wp_skip <| q_tn <| wp_seq <| w_reg <| rl_run F (run_assign (F.ev rfl)) rfl ?_; clear F a; intro a F
  refine rl_nil <| q_tn ?_
  iterate 2 (refine wp_seq ?_)
  refine w_reg <| rl_run F (run_assign (F.ev rfl)) rfl ?_; clear F a; intro a F
  refine rl_nil <| q_tn <| wp_block <| w_unroll 3 ?_
  iterate 2 (refine wp_seq ?_)
  refine w_reg ?_
  iterate 2 (refine rl_run F (run_move (F.ev rfl)) rfl ?_; clear F a; intro a F)
  refine rl_run F (run_lenSl tok49.k (F.ev rfl)) rfl ?_; clear F a; intro a F
  refine rl_run F (run_lss (F.ev rfl) (F.ev rfl)) rfl ?_; clear F a; intro a F
  refine rl_nil <| q_tn <| w_cond_t F rfl (decide_eq_true (by decide)) ?_
  refine wp_skip <| q_tn <| wp_seq <| wp_block ?_
  iterate 2 (refine wp_seq ?_)
  refine w_reg ?_
  iterate 2 (refine rl_run F (run_move (F.ev rfl)) rfl ?_; clear F a; intro a F)
  obtain ⟨be1, _, Ie1, hme1, _, Ae1, ⟨rfl, hsle1⟩⟩ := M.atRow (k := 1) rfl (by decide) repE (rfl : repS[0]? = some ([92] : List UInt8))
  refine rl_run F (run_indexI tok49.k tok9 (F.ev rfl) (F.ev rfl) (by omega) Ie1) rfl ?_; clear F a; intro a F
  refine rl_run F (run_load1 (agf tok9 rfl) (F.ev rfl) (cellE Ae1 0 (by omega) rfl)) rfl ?_; clear F a; intro a F
  refine rl_run F (run_lenStr tok9.k (F.ev rfl)) rfl ?_; clear F a; intro a F
  refine rl_run F (run_nei (F.ev rfl) (F.ev rfl)) rfl ?_; clear F a; intro a F
  refine rl_nil <| q_tn <| w_cond_f F rfl (not_f (decide_eq_true (by decide))) ?_
  refine wp_skip <| q_tn <| wp_seq <| w_reg ?_
  iterate 2 (refine rl_run F (run_move (F.ev rfl)) rfl ?_; clear F a; intro a F)
  refine rl_run F (run_addi (F.ev rfl) (F.ev rfl) (in_i64 (by omega) (by omega))) rfl ?_; clear F a; intro a F
  obtain ⟨be2, _, Ie2, hme2, _, Ae2, ⟨rfl, hsle2⟩⟩ := M.atRow (k := 1) rfl (by decide) repE (rfl : repS[1]? = some ([92, 92] : List UInt8))
  refine rl_run F (run_indexI tok49.k tok9 (F.ev rfl) (F.ev rfl) (by omega) Ie2) rfl ?_; clear F a; intro a F
  refine rl_run F (run_load1 (agf tok9 rfl) (F.ev rfl) (cellE Ae2 0 (by omega) rfl)) rfl ?_; clear F a; intro a F
  refine rl_run F (run_lenStr tok9.k (F.ev rfl)) rfl ?_; clear F a; intro a F
  refine rl_run F (run_nei (F.ev rfl) (F.ev rfl)) rfl ?_; clear F a; intro a F
  refine rl_nil <| q_tn <| w_cond_t F rfl (not_t (decide_eq_false (by decide))) ?_
  refine w_reg <| rl_run F (run_assign (F.ev rfl)) rfl ?_; clear F a; intro a F
  refine rl_nil <| q_bn <| q_tn <| w_reg <| rl_run F (run_move (F.ev rfl)) rfl ?_; clear F a; intro a F
  refine rl_run F (run_addi (F.ev rfl) (F.ev rfl) (in_i64 (by omega) (by omega))) rfl ?_; clear F a; intro a F
  refine rl_run F (run_assign (F.ev rfl)) rfl ?_; clear F a; intro a F
  refine rl_nil <| q_tn ?_
  iterate 2 (refine wp_seq ?_)
  refine w_reg ?_
  iterate 2 (refine rl_run F (run_move (F.ev rfl)) rfl ?_; clear F a; intro a F)
  refine rl_run F (run_lenSl tok49.k (F.ev rfl)) rfl ?_; clear F a; intro a F
  refine rl_run F (run_lss (F.ev rfl) (F.ev rfl)) rfl ?_; clear F a; intro a F
  refine rl_nil <| q_tn <| w_cond_t F rfl (decide_eq_true (by decide)) ?_
  refine wp_skip <| q_tn <| wp_seq <| wp_block ?_
  iterate 2 (refine wp_seq ?_)
  refine w_reg ?_
  iterate 2 (refine rl_run F (run_move (F.ev rfl)) rfl ?_; clear F a; intro a F)
  obtain ⟨be3, _, Ie3, hme3, _, Ae3, ⟨rfl, hsle3⟩⟩ := M.atRow (k := 1) rfl (by decide) repE (rfl : repS[2]? = some ([34] : List UInt8))
  refine rl_run F (run_indexI tok49.k tok9 (F.ev rfl) (F.ev rfl) (by omega) Ie3) rfl ?_; clear F a; intro a F
  refine rl_run F (run_load1 (agf tok9 rfl) (F.ev rfl) (cellE Ae3 0 (by omega) rfl)) rfl ?_; clear F a; intro a F
  refine rl_run F (run_lenStr tok9.k (F.ev rfl)) rfl ?_; clear F a; intro a F
  refine rl_run F (run_nei (F.ev rfl) (F.ev rfl)) rfl ?_; clear F a; intro a F
  refine rl_nil <| q_tn <| w_cond_f F rfl (not_f (decide_eq_true (by decide))) ?_
  refine wp_skip <| q_tn <| wp_seq <| w_reg ?_
  iterate 2 (refine rl_run F (run_move (F.ev rfl)) rfl ?_; clear F a; intro a F)
  refine rl_run F (run_addi (F.ev rfl) (F.ev rfl) (in_i64 (by omega) (by omega))) rfl ?_; clear F a; intro a F
  obtain ⟨be4, _, Ie4, hme4, _, Ae4, ⟨rfl, hsle4⟩⟩ := M.atRow (k := 1) rfl (by decide) repE (rfl : repS[3]? = some ([92, 34] : List UInt8))
  refine rl_run F (run_indexI tok49.k tok9 (F.ev rfl) (F.ev rfl) (by omega) Ie4) rfl ?_; clear F a; intro a F
  refine rl_run F (run_load1 (agf tok9 rfl) (F.ev rfl) (cellE Ae4 0 (by omega) rfl)) rfl ?_; clear F a; intro a F
  refine rl_run F (run_lenStr tok9.k (F.ev rfl)) rfl ?_; clear F a; intro a F
  refine rl_run F (run_nei (F.ev rfl) (F.ev rfl)) rfl ?_; clear F a; intro a F
  refine rl_nil <| q_tn <| w_cond_t F rfl (not_t (decide_eq_false (by decide))) ?_
  refine w_reg <| rl_run F (run_assign (F.ev rfl)) rfl ?_; clear F a; intro a F
  refine rl_nil <| q_bn <| q_tn <| w_reg <| rl_run F (run_move (F.ev rfl)) rfl ?_; clear F a; intro a F
  refine rl_run F (run_addi (F.ev rfl) (F.ev rfl) (in_i64 (by omega) (by omega))) rfl ?_; clear F a; intro a F
  refine rl_run F (run_assign (F.ev rfl)) rfl ?_; clear F a; intro a F
  refine rl_nil <| q_tn ?_
  iterate 2 (refine wp_seq ?_)
  refine w_reg ?_
  iterate 2 (refine rl_run F (run_move (F.ev rfl)) rfl ?_; clear F a; intro a F)
  refine rl_run F (run_lenSl tok49.k (F.ev rfl)) rfl ?_; clear F a; intro a F
  refine rl_run F (run_lss (F.ev rfl) (F.ev rfl)) rfl ?_; clear F a; intro a F
  refine rl_nil <| q_tn <| w_cond_f F rfl (decide_eq_false (by decide)) ?_
  refine wp_exit ?_
  iterate 2 (refine q_te ?_)
  refine q_bh <| q_tn ?_
  iterate 2 (refine wp_seq ?_)
  refine w_reg <| rl_run F (run_move (F.ev rfl)) rfl ?_; clear F a; intro a F
  refine rl_nil <| q_tn <| w_cond_f F rfl rfl ?_
  refine wp_skip <| q_tn <| wp_seq <| w_reg <| rl_run F (run_move (F.ev rfl)) rfl ?_; clear F a; intro a F
  refine rl_run F (run_lenSl tok49.k (F.ev rfl)) rfl ?_; clear F a; intro a F
  refine rl_run F (run_quoi (F.ev rfl) (F.ev rfl) (by omega) (by omega) (in_i64 (by omega) (by omega))) rfl ?_; clear F a; intro a F
  refine rl_make0 F M tok49.k tok9 rfl rfl (by omega) rfl (c := 4 / 2) (by omega) (by show 16 * _ ≤ _; omega) (by omega) rfl ?_; clear F M a; intro bv5 w a M F
  refine rl_run F (run_buildS (cs := tab0 (.slice (some ⟨bv5, 0, none⟩) (0) (4 / 2))) (ps := [(1, .slice (some ⟨bv5, 0, none⟩) (0) (4 / 2))]) tok195.k rfl tok195 (F.evp rfl) tab0_fill) rfl ?_; clear F a; intro a F
  refine rl_alloc F M tok195 (cs := tab0 (.slice none 0 0)) tab0_zero rfl ?_; clear F M a; intro b6 w a M F
  refine rl_storeA F M tok195 (k := 0) rfl rfl rfl (us := tab0 (.slice (some ⟨bv5, 0, none⟩) (0) (4 / 2))) rfl (tab0_len _) (by intro u hu; rcases tab0_mem hu with rfl | rfl <;> rfl) (by rw [tab0_len, tab0_len]; decide) ?_; clear F M a; intro w a M F
  rw [over_all (by rw [tab0_len, tab0_len])] at M
  have T7 := tab0_is (.slice (some ⟨bv5, 0, none⟩) (0) (4 / 2))
  have hlT7 := tab0_last (.slice (some ⟨bv5, 0, none⟩) (0) (4 / 2))
  refine rl_nil <| q_tn ?_
  iterate 2 (refine wp_seq ?_)
  refine w_reg <| rl_run F (run_move (F.ev rfl)) rfl ?_; clear F a; intro a F
  refine rl_run F (run_lenSl tok49.k (F.ev rfl)) rfl ?_; clear F a; intro a F
  refine rl_run F (run_subi (F.ev rfl) (F.ev rfl) (in_i64 (by omega) (by omega))) rfl ?_; clear F a; intro a F
  refine rl_run F (run_assign (F.ev rfl)) rfl ?_; clear F a; intro a F
  refine rl_nil <| q_tn <| wp_block <| w_unroll 3 ?_
  iterate 2 (refine wp_seq ?_)
  refine w_reg <| rl_run F (run_move (F.ev rfl)) rfl ?_; clear F a; intro a F
  refine rl_run F (run_geq (F.ev rfl) (F.ev rfl)) rfl ?_; clear F a; intro a F
  refine rl_nil <| q_tn <| w_cond_t F rfl (decide_eq_true (by decide)) ?_
  refine wp_skip <| q_tn <| wp_seq <| wp_block <| wp_seq <| w_reg ?_
  iterate 2 (refine rl_run F (run_move (F.ev rfl)) rfl ?_; clear F a; intro a F)
  obtain ⟨be8, _, Ie8, hme8, _, Ae8, ⟨rfl, hsle8⟩⟩ := M.atRow (k := 3) rfl (by decide) repE (rfl : repS[2]? = some ([34] : List UInt8))
  refine rl_run F (run_indexI tok49.k tok9 (F.ev rfl) (F.ev rfl) (by omega) Ie8) rfl ?_; clear F a; intro a F
  refine rl_run F (run_load1 (agf tok9 rfl) (F.ev rfl) (cellE Ae8 0 (by omega) rfl)) rfl ?_; clear F a; intro a F
  refine rl_run F (run_strIndex (i := 0) (b := (34 : UInt8)) tok9.k (F.ev rfl) (F.ev rfl) rfl) rfl ?_; clear F a; intro a F
  refine rl_run F (run_assign (F.ev rfl)) rfl ?_; clear F a; intro a F
  refine rl_nil <| q_tn <| wp_seq <| w_reg ?_
  iterate 2 (refine rl_run F (run_move (F.ev rfl)) rfl ?_; clear F a; intro a F)
  refine rl_run F (run_addi (F.ev rfl) (F.ev rfl) (in_i64 (by omega) (by omega))) rfl ?_; clear F a; intro a F
  obtain ⟨be9, _, Ie9, hme9, _, Ae9, ⟨rfl, hsle9⟩⟩ := M.atRow (k := 3) rfl (by decide) repE (rfl : repS[3]? = some ([92, 34] : List UInt8))
  refine rl_run F (run_indexI tok49.k tok9 (F.ev rfl) (F.ev rfl) (by omega) Ie9) rfl ?_; clear F a; intro a F
  refine rl_run F (run_load1 (agf tok9 rfl) (F.ev rfl) (cellE Ae9 0 (by omega) rfl)) rfl ?_; clear F a; intro a F
  refine rl_run F (run_assign (F.ev rfl)) rfl ?_; clear F a; intro a F
  refine rl_nil <| q_tn ?_
  iterate 2 (refine wp_seq ?_)
  refine w_reg <| rl_run F (run_move (F.ev rfl)) rfl ?_; clear F a; intro a F
  refine rl_run F (run_fieldAddr tok195.k rfl rfl (F.ev rfl)) rfl ?_; clear F a; intro a F
  refine rl_run F (run_idxPtr (j := 34) tok193.k tok22 rfl (F.ev rfl) (F.ev rfl) (by first | omega | rfl) (by decide)) rfl ?_; clear F a; intro a F
  refine rl_run F (run_load1 (agf tok22 rfl) (F.ev rfl) (M.cellL (k := 0) rfl (T7.nil 34 (by decide) (by decide)))) rfl ?_; clear F a; intro a F
  refine rl_run F (run_eqnilS tok22.k (F.ev rfl) (F.ev rfl)) rfl ?_; clear F a; intro a F
  refine rl_nil <| q_tn <| w_cond_t F rfl rfl ?_
  refine w_reg <| rl_run F (run_fieldAddr tok195.k rfl rfl (F.ev rfl)) rfl ?_; clear F a; intro a F
  refine rl_run F (run_load1 (agf tok49 rfl) (F.ev rfl) (M.cellL (k := 0) rfl hlT7)) rfl ?_; clear F a; intro a F
  refine rl_run F (run_move (F.ev rfl)) rfl ?_; clear F a; intro a F
  refine rl_buildSlice1 F M tok22.k tok5 rfl rfl (cs := [.int .u8 (nb 34)]) rfl rfl (by simp [Value.oneCell']) (by decide) rfl ?_; clear F M a; intro v10 w a M F
  obtain ⟨av10, cv10, rfl, hlev10, hcmv10, hlv10⟩ := M.row_shape (k := 0) rfl
  refine rl_run F (run_strOfRow M (k := 0) (l := [34]) rfl rfl tok22.k tok5.k tok9.k (F.ev rfl)) rfl ?_; clear F a; intro a F
  refine rl_buildSlice1 F M tok49.k tok9 rfl rfl (cs := [.string (str ([34] : List UInt8))]) rfl rfl (by simp [Value.oneCell']) (by decide) rfl ?_; clear F M a; intro v11 w a M F
  obtain ⟨av11, cv11, rfl, hlev11, hcmv11, hlv11⟩ := M.row_shape (k := 0) rfl
  refine rl_append_row F M (k := 3) (k2 := 0) rfl rfl tok49.k tok9 rfl rfl (by decide) rfl rfl (by show _ * 16 ≤ _; (try simp only [List.length_drop, List.length_take, List.length_append, List.length_cons, List.length_nil]); omega) (by (try simp only [List.length_drop, List.length_take, List.length_append, List.length_cons, List.length_nil]); omega) rfl ?_; clear F M a; intro v12 w a M F
  obtain ⟨av12, cv12, rfl, hlev12, hcmv12, hlv12⟩ := M.row_shape (k := 3) rfl
  refine rl_run F (run_fieldAddr tok195.k rfl rfl (F.ev rfl)) rfl ?_; clear F a; intro a F
  refine rl_store1 F M tok49 rfl (k := 2) rfl rfl rfl rfl hlT7 ?_; clear F M a; intro w a M F
  have T13 : TabIs ((tab0 (.slice (some ⟨bv5, 0, none⟩) (0) (4 / 2))).set 256 (.slice (av12) (0 + 1) (cv12))) [] := T7.put _ _ _ (by intro j hj hK; simp only [List.mem_cons, List.not_mem_nil, or_false, not_or, not_false_eq_true, and_true] at hK ⊢; omega)
  have hlT13 : ((tab0 (.slice (some ⟨bv5, 0, none⟩) (0) (4 / 2))).set 256 (.slice (av12) (0 + 1) (cv12)))[256]? = some (.slice (av12) (0 + 1) (cv12)) := List.getElem?_set_self (by rw [T7.len]; decide)
  refine rl_nil <| q_tn <| w_reg ?_
  iterate 2 (refine rl_run F (run_move (F.ev rfl)) rfl ?_; clear F a; intro a F)
  refine rl_strBytes F M tok9.k tok22.k tok5.k rfl rfl ?_; clear F M a; intro b14 cb14 w a M F
  refine rl_run F (run_fieldAddr tok195.k rfl rfl (F.ev rfl)) rfl ?_; clear F a; intro a F
  refine rl_run F (run_idxPtr (j := 34) tok193.k tok22 rfl (F.ev rfl) (F.ev rfl) (by first | omega | rfl) (by decide)) rfl ?_; clear F a; intro a F
  refine rl_store1 F M tok22 rfl (k := 2) rfl rfl rfl rfl (T13.nil 34 (by decide) (by decide)) ?_; clear F M a; intro w a M F
  have T15 : TabIs (((tab0 (.slice (some ⟨bv5, 0, none⟩) (0) (4 / 2))).set 256 (.slice (av12) (0 + 1) (cv12))).set 34 (.slice (some ⟨b14, 0, none⟩) ((str ([92, 34] : List UInt8)).size) (cb14))) [34] := T13.put _ _ _ (by intro j hj hK; simp only [List.mem_cons, List.not_mem_nil, or_false, not_or, not_false_eq_true, and_true] at hK ⊢; omega)
  have hlT15 : (((tab0 (.slice (some ⟨bv5, 0, none⟩) (0) (4 / 2))).set 256 (.slice (av12) (0 + 1) (cv12))).set 34 (.slice (some ⟨b14, 0, none⟩) ((str ([92, 34] : List UInt8)).size) (cb14)))[256]? = some (.slice (av12) (0 + 1) (cv12)) := by rw [List.getElem?_set_ne (by decide)]; exact hlT13
  refine rl_nil <| q_bn <| q_tn <| w_reg <| rl_run F (run_move (F.ev rfl)) rfl ?_; clear F a; intro a F
  refine rl_run F (run_subi (F.ev rfl) (F.ev rfl) (in_i64 (by omega) (by omega))) rfl ?_; clear F a; intro a F
  refine rl_run F (run_assign (F.ev rfl)) rfl ?_; clear F a; intro a F
  refine rl_nil <| q_tn ?_
  iterate 2 (refine wp_seq ?_)
  refine w_reg <| rl_run F (run_move (F.ev rfl)) rfl ?_; clear F a; intro a F
  refine rl_run F (run_geq (F.ev rfl) (F.ev rfl)) rfl ?_; clear F a; intro a F
  refine rl_nil <| q_tn <| w_cond_t F rfl (decide_eq_true (by decide)) ?_
  refine wp_skip <| q_tn <| wp_seq <| wp_block <| wp_seq <| w_reg ?_
  iterate 2 (refine rl_run F (run_move (F.ev rfl)) rfl ?_; clear F a; intro a F)
  obtain ⟨be16, _, Ie16, hme16, _, Ae16, ⟨rfl, hsle16⟩⟩ := M.atRow (k := 5) rfl (by decide) repE (rfl : repS[0]? = some ([92] : List UInt8))
  refine rl_run F (run_indexI tok49.k tok9 (F.ev rfl) (F.ev rfl) (by omega) Ie16) rfl ?_; clear F a; intro a F
  refine rl_run F (run_load1 (agf tok9 rfl) (F.ev rfl) (cellE Ae16 0 (by omega) rfl)) rfl ?_; clear F a; intro a F
  refine rl_run F (run_strIndex (i := 0) (b := (92 : UInt8)) tok9.k (F.ev rfl) (F.ev rfl) rfl) rfl ?_; clear F a; intro a F
  refine rl_run F (run_assign (F.ev rfl)) rfl ?_; clear F a; intro a F
  refine rl_nil <| q_tn <| wp_seq <| w_reg ?_
  iterate 2 (refine rl_run F (run_move (F.ev rfl)) rfl ?_; clear F a; intro a F)
  refine rl_run F (run_addi (F.ev rfl) (F.ev rfl) (in_i64 (by omega) (by omega))) rfl ?_; clear F a; intro a F
  obtain ⟨be17, _, Ie17, hme17, _, Ae17, ⟨rfl, hsle17⟩⟩ := M.atRow (k := 5) rfl (by decide) repE (rfl : repS[1]? = some ([92, 92] : List UInt8))
  refine rl_run F (run_indexI tok49.k tok9 (F.ev rfl) (F.ev rfl) (by omega) Ie17) rfl ?_; clear F a; intro a F
  refine rl_run F (run_load1 (agf tok9 rfl) (F.ev rfl) (cellE Ae17 0 (by omega) rfl)) rfl ?_; clear F a; intro a F
  refine rl_run F (run_assign (F.ev rfl)) rfl ?_; clear F a; intro a F
  refine rl_nil <| q_tn ?_
  iterate 2 (refine wp_seq ?_)
  refine w_reg <| rl_run F (run_move (F.ev rfl)) rfl ?_; clear F a; intro a F
  refine rl_run F (run_fieldAddr tok195.k rfl rfl (F.ev rfl)) rfl ?_; clear F a; intro a F
  refine rl_run F (run_idxPtr (j := 92) tok193.k tok22 rfl (F.ev rfl) (F.ev rfl) (by first | omega | rfl) (by decide)) rfl ?_; clear F a; intro a F
  refine rl_run F (run_load1 (agf tok22 rfl) (F.ev rfl) (M.cellL (k := 2) rfl (T15.nil 92 (by decide) (by decide)))) rfl ?_; clear F a; intro a F
  refine rl_run F (run_eqnilS tok22.k (F.ev rfl) (F.ev rfl)) rfl ?_; clear F a; intro a F
  refine rl_nil <| q_tn <| w_cond_t F rfl rfl ?_
  refine w_reg <| rl_run F (run_fieldAddr tok195.k rfl rfl (F.ev rfl)) rfl ?_; clear F a; intro a F
  refine rl_run F (run_load1 (agf tok49 rfl) (F.ev rfl) (M.cellL (k := 2) rfl hlT15)) rfl ?_; clear F a; intro a F
  refine rl_run F (run_move (F.ev rfl)) rfl ?_; clear F a; intro a F
  refine rl_buildSlice1 F M tok22.k tok5 rfl rfl (cs := [.int .u8 (nb 92)]) rfl rfl (by simp [Value.oneCell']) (by decide) rfl ?_; clear F M a; intro v18 w a M F
  obtain ⟨av18, cv18, rfl, hlev18, hcmv18, hlv18⟩ := M.row_shape (k := 0) rfl
  refine rl_run F (run_strOfRow M (k := 0) (l := [92]) rfl rfl tok22.k tok5.k tok9.k (F.ev rfl)) rfl ?_; clear F a; intro a F
  refine rl_buildSlice1 F M tok49.k tok9 rfl rfl (cs := [.string (str ([92] : List UInt8))]) rfl rfl (by simp [Value.oneCell']) (by decide) rfl ?_; clear F M a; intro v19 w a M F
  obtain ⟨av19, cv19, rfl, hlev19, hcmv19, hlv19⟩ := M.row_shape (k := 0) rfl
  refine rl_append_row F M (k := 5) (k2 := 0) rfl rfl tok49.k tok9 rfl rfl (by decide) rfl rfl (by show _ * 16 ≤ _; (try simp only [List.length_drop, List.length_take, List.length_append, List.length_cons, List.length_nil]); omega) (by (try simp only [List.length_drop, List.length_take, List.length_append, List.length_cons, List.length_nil]); omega) rfl ?_; clear F M a; intro v20 w a M F
  obtain ⟨av20, cv20, rfl, hlev20, hcmv20, hlv20⟩ := M.row_shape (k := 5) rfl
  refine rl_run F (run_fieldAddr tok195.k rfl rfl (F.ev rfl)) rfl ?_; clear F a; intro a F
  refine rl_store1 F M tok49 rfl (k := 4) rfl rfl rfl rfl hlT15 ?_; clear F M a; intro w a M F
  have T21 : TabIs ((((tab0 (.slice (some ⟨bv5, 0, none⟩) (0) (4 / 2))).set 256 (.slice (av12) (0 + 1) (cv12))).set 34 (.slice (some ⟨b14, 0, none⟩) ((str ([92, 34] : List UInt8)).size) (cb14))).set 256 (.slice (av20) ((0 + 1) + 1) (cv20))) [34] := T15.put _ _ _ (by intro j hj hK; simp only [List.mem_cons, List.not_mem_nil, or_false, not_or, not_false_eq_true, and_true] at hK ⊢; omega)
  have hlT21 : ((((tab0 (.slice (some ⟨bv5, 0, none⟩) (0) (4 / 2))).set 256 (.slice (av12) (0 + 1) (cv12))).set 34 (.slice (some ⟨b14, 0, none⟩) ((str ([92, 34] : List UInt8)).size) (cb14))).set 256 (.slice (av20) ((0 + 1) + 1) (cv20)))[256]? = some (.slice (av20) ((0 + 1) + 1) (cv20)) := List.getElem?_set_self (by rw [T15.len]; decide)
  refine rl_nil <| q_tn <| w_reg ?_
  iterate 2 (refine rl_run F (run_move (F.ev rfl)) rfl ?_; clear F a; intro a F)
  refine rl_strBytes F M tok9.k tok22.k tok5.k rfl rfl ?_; clear F M a; intro b22 cb22 w a M F
  refine rl_run F (run_fieldAddr tok195.k rfl rfl (F.ev rfl)) rfl ?_; clear F a; intro a F
  refine rl_run F (run_idxPtr (j := 92) tok193.k tok22 rfl (F.ev rfl) (F.ev rfl) (by first | omega | rfl) (by decide)) rfl ?_; clear F a; intro a F
  refine rl_store1 F M tok22 rfl (k := 4) rfl rfl rfl rfl (T21.nil 92 (by decide) (by decide)) ?_; clear F M a; intro w a M F
  have T23 : TabIs (((((tab0 (.slice (some ⟨bv5, 0, none⟩) (0) (4 / 2))).set 256 (.slice (av12) (0 + 1) (cv12))).set 34 (.slice (some ⟨b14, 0, none⟩) ((str ([92, 34] : List UInt8)).size) (cb14))).set 256 (.slice (av20) ((0 + 1) + 1) (cv20))).set 92 (.slice (some ⟨b22, 0, none⟩) ((str ([92, 92] : List UInt8)).size) (cb22))) [92, 34] := T21.put _ _ _ (by intro j hj hK; simp only [List.mem_cons, List.not_mem_nil, or_false, not_or, not_false_eq_true, and_true] at hK ⊢; omega)
  have hlT23 : (((((tab0 (.slice (some ⟨bv5, 0, none⟩) (0) (4 / 2))).set 256 (.slice (av12) (0 + 1) (cv12))).set 34 (.slice (some ⟨b14, 0, none⟩) ((str ([92, 34] : List UInt8)).size) (cb14))).set 256 (.slice (av20) ((0 + 1) + 1) (cv20))).set 92 (.slice (some ⟨b22, 0, none⟩) ((str ([92, 92] : List UInt8)).size) (cb22)))[256]? = some (.slice (av20) ((0 + 1) + 1) (cv20)) := by rw [List.getElem?_set_ne (by decide)]; exact hlT21
  refine rl_nil <| q_bn <| q_tn <| w_reg <| rl_run F (run_move (F.ev rfl)) rfl ?_; clear F a; intro a F
  refine rl_run F (run_subi (F.ev rfl) (F.ev rfl) (in_i64 (by omega) (by omega))) rfl ?_; clear F a; intro a F
  refine rl_run F (run_assign (F.ev rfl)) rfl ?_; clear F a; intro a F
  refine rl_nil <| q_tn ?_
  iterate 2 (refine wp_seq ?_)
  refine w_reg <| rl_run F (run_move (F.ev rfl)) rfl ?_; clear F a; intro a F
  refine rl_run F (run_geq (F.ev rfl) (F.ev rfl)) rfl ?_; clear F a; intro a F
  refine rl_nil <| q_tn <| w_cond_f F rfl (decide_eq_false (by decide)) ?_
  refine wp_exit ?_
  iterate 2 (refine q_te ?_)
  refine q_bh <| q_tn <| wp_seq <| w_reg <| rl_run F (run_ifaceP tok196.k (F.ev rfl)) rfl ?_; clear F a; intro a F
  refine rl_run F (run_assign (F.ev rfl)) rfl ?_; clear F a; intro a F
  refine rl_nil <| q_tn <| wp_ret <| fin1 F rfl rfl ?_
  replace M := M.perm (perm_front _ 7 _ rfl)
  replace M := M.perm (perm_front _ 7 _ rfl)
  replace M := M.perm (perm_front _ 6 _ rfl)
  change Mem w0 G (.blk b6 (((((tab0 (.slice (some ⟨bv5, 0, none⟩) (0) (4 / 2))).set 256 (.slice (av12) (0 + 1) (cv12))).set 34 (.slice (some ⟨b14, 0, none⟩) ((str ([92, 34] : List UInt8)).size) (cb14))).set 256 (.slice (av20) ((0 + 1) + 1) (cv20))).set 92 (.slice (some ⟨b22, 0, none⟩) ((str ([92, 92] : List UInt8)).size) (cb22))) 195 :: .blk b [.int .u32 (dn), .int .i32 (lk), sv, rv, .slice (ra) (4) (rc)] 177 :: .row (.slice (ra) (4) (rc)) (4) ([.string (str ([92] : List UInt8)), .string (str ([92, 92] : List UInt8)), .string (str ([34] : List UInt8)), .string (str ([92, 34] : List UInt8))]) 9 1 :: .row (.slice (av19) (1) (cv19)) (1) ([.string (str ([92] : List UInt8))]) 9 1 :: .row (.slice (av18) (1) (cv18)) (1) ([.int .u8 (nb 92)]) 5 1 :: .row (.slice (av11) (1) (cv11)) (1) ([.string (str ([34] : List UInt8))]) 9 1 :: .row (.slice (av10) (1) (cv10)) (1) ([.int .u8 (nb 34)]) 5 1 :: .row (.slice (av20) ((0 + 1) + 1) (cv20)) ((0 + 1) + 1) ((([]) ++ ([.string (str ([34] : List UInt8))])) ++ ([.string (str ([92] : List UInt8))])) 9 1 :: L) _ at M
  exact ⟨_, M.weaken (.cons_cons _ (.cons_cons _ (.cons_cons _ (.cons _ (.cons _ (.cons _ (.cons _ (.cons _ (List.Sublist.refl _))))))))), _, _, _, _, T23, hlT23, rfl, rfl⟩
theorem bonce_spec {w0 w : World} {G : Ghost} {L : List Res} {b : Nat} {ra : Option Addr} {rc : Nat} {rv sv : Value} (M : Mem w0 G (.blk b [.int .u32 (0), .int .i32 (1), sv, rv, .slice (ra) (4) (rc)] 177 :: .row (.slice (ra) (4) (rc)) (4) ([.string (str ([92] : List UInt8)), .string (str ([92, 92] : List UInt8)), .string (str ([34] : List UInt8)), .string (str ([92, 34] : List UInt8))]) 9 1 :: L) w) : Calls Tryz.prog 126 #[.pointer (some ⟨b, 0, none⟩)] w
    (RetL w0 G fun L' v => v = .tuple #[] ∧ ∃ bb cs ta tc, TabIs cs [92, 34] ∧ cs[256]? = some (.slice ta 2 tc) ∧ L' = .blk b [.int .u32 0, .int .i32 1, sv, .iface 196 (.pointer (some ⟨bb, 0, none⟩)), .slice none 0 0] 177 :: .blk bb cs 195 :: L) := by
  refine calls_start (vs := [_]) Tryz.func126 rfl (n := 10) rfl rfl ?_
  intro a F
  refine wp_seq <| w_reg ?_
  iterate 2 (refine rl_run F (run_move (F.ev rfl)) rfl ?_; clear F a; intro a F)
  replace M := M.perm (perm_front _ 1 _ rfl)
  replace M := M.perm (perm_front _ 1 _ rfl)
  change Mem w0 G (.blk b [.int .u32 (0), .int .i32 (1), sv, rv, .slice (ra) (4) (rc)] 177 :: .row (.slice (ra) (4) (rc)) (4) ([.string (str ([92] : List UInt8)), .string (str ([92, 92] : List UInt8)), .string (str ([34] : List UInt8)), .string (str ([92, 34] : List UInt8))]) 9 1 :: L) _ at M
  refine rl_callL F ent131 rfl rfl (rbuild_spec M) ?_; clear F M a; rintro _ _ w a M ⟨bq1, csq1, taq1, tcq1, Tq1, hlq1, rfl, rfl⟩ F
  refine rl_run F (run_nilCheck (F.ev rfl)) rfl ?_; clear F a; intro a F
  refine rl_run F (run_fieldAddr tok177.k rfl rfl (F.ev rfl)) rfl ?_; clear F a; intro a F
  refine rl_store1 F M tok175 rfl (k := 1) rfl rfl rfl rfl rfl ?_; clear F M a; intro w a M F
  refine rl_nil <| q_tn <| w_reg <| rl_run F (run_move (F.ev rfl)) rfl ?_; clear F a; intro a F
  refine rl_run F (run_nilCheck (F.ev rfl)) rfl ?_; clear F a; intro a F
  refine rl_run F (run_fieldAddr tok177.k rfl rfl (F.ev rfl)) rfl ?_; clear F a; intro a F
  refine rl_store1 F M tok49 rfl (k := 1) rfl rfl rfl rfl rfl ?_; clear F M a; intro w a M F
  refine rl_nil <| fin0n F rfl ?_
  replace M := M.perm (perm_front _ 1 _ rfl)
  change Mem w0 G (.blk b [.int .u32 (0), .int .i32 (1), sv, .iface 196 (.pointer (some ⟨bq1, 0, none⟩)), .slice none (0) (0)] 177 :: .blk bq1 (csq1) 195 :: .row (.slice (ra) (4) (rc)) (4) ([.string (str ([92] : List UInt8)), .string (str ([92, 92] : List UInt8)), .string (str ([34] : List UInt8)), .string (str ([92, 34] : List UInt8))]) 9 1 :: L) _ at M
  exact ⟨_, M.weaken (.cons_cons _ (.cons_cons _ (.cons _ (List.Sublist.refl _)))), rfl, _, _, _, _, Tq1, hlq1, rfl⟩
/-- A short string without quotation mark and without backslash. -/
def ShortQ (s : List UInt8) : Prop := s.length < 16 ∧ ∀ c ∈ s, c.toNat ≠ 34 ∧ c.toNat ≠ 92
theorem ShortQ.at {s : List UInt8} (h : ShortQ s) {i : Nat} {c : UInt8} (hi : s[i]? = some c) : c.toNat ∉ ([92, 34] : List Nat) := by
  have := h.2 c (List.mem_of_getElem? hi)
  simp only [List.mem_cons, List.not_mem_nil, or_false, not_or]; exact ⟨this.2, this.1⟩
theorem brep_spec {w0 w : World} {G : Ghost} {L : List Res} {bb : Nat} {cs : List Value} {ta : Option Addr} {tc : Nat} (T : TabIs cs [92, 34]) (hl : cs[256]? = some (.slice ta 2 tc)) {s : List UInt8} (hq : ShortQ s) (M : Mem w0 G (.blk bb (cs) 195 :: L) w) :
    Calls Tryz.prog 188 #[.pointer (some ⟨bb, 0, none⟩), .string (str s)] w (RetS w0 G (.blk bb (cs) 195 :: L) fun v => v = .string (str s)) := by
  refine calls_start (vs := [_, _]) Tryz.func188 rfl (n := 122) rfl rfl ?_
  intro a F
  refine wp_seq <| w_reg <| rl_run F (run_assign (F.ev rfl)) rfl ?_; clear F a; intro a F
  refine rl_nil <| q_tn <| wp_seq ?_
  have hsl := hq.1
  refine w_reg <| rl_run F (run_move (F.ev rfl)) rfl ?_; clear F a; intro a F
  refine rl_run F (run_lenStr tok9.k (F.ev rfl)) rfl ?_; clear F a; intro a F
  refine rl_run F (run_assign (F.ev rfl)) rfl ?_; clear F a; intro a F
  refine rl_nil <| q_tn <| wp_seq <| w_reg <| rl_run F (run_assign (F.ev rfl)) rfl ?_; clear F a; intro a F
  refine rl_nil <| q_tn ?_
  iterate 2 (refine wp_seq ?_)
  refine w_reg <| rl_run F (run_move (F.ev rfl)) rfl ?_; clear F a; intro a F
  refine rl_run F (run_nilCheck (F.ev rfl)) rfl ?_; clear F a; intro a F
  refine rl_run F (run_fieldAddr tok195.k rfl rfl (F.ev rfl)) rfl ?_; clear F a; intro a F
  refine rl_run F (run_load1 (agf tok49 rfl) (F.ev rfl) (M.cellL (k := 0) rfl hl)) rfl ?_; clear F a; intro a F
  refine rl_run F (run_lenSl tok49.k (F.ev rfl)) rfl ?_; clear F a; intro a F
  refine rl_run F (run_muli (F.ev rfl) (F.ev rfl) (in_i64 (by omega) (by omega))) rfl ?_; clear F a; intro a F
  refine rl_run F (run_move (F.ev rfl)) rfl ?_; clear F a; intro a F
  refine rl_run F (run_lenStr tok9.k (F.ev rfl)) rfl ?_; clear F a; intro a F
  refine rl_run F (run_leq (F.ev rfl) (F.ev rfl)) rfl ?_; clear F a; intro a F
  refine rl_nil <| q_tn <| w_cond_f F rfl (decide_eq_false (by have := hq.1; omega)) ?_
  refine wp_seq <| w_reg <| rl_run F (run_assign (F.ev rfl)) rfl ?_; clear F a; intro a F
  refine rl_nil <| q_tn <| wp_block <| w_loopN (fun m a' w' => ∃ (i : Nat), m = s.length - i ∧ Fits 122 a' [(0, .pointer (some ⟨bb, 0, none⟩)), (1, .string (str (s))), (4, .string (str ([] : List UInt8))), (5, .int .i64 ((((s).length : Nat) : Int))), (6, .bool false), (10, .int .i64 (((i : Nat) : Int)))] ∧ Mem w0 G (.blk bb (cs) 195 :: L) w' ∧ (i ≤ s.length)) _ ⟨0, rfl, F.to ⟨rfl, rfl, rfl, rfl, rfl, rfl, trivial⟩, M, Nat.zero_le _⟩ ?_
  clear F M
  rintro m a w ⟨i, rfl, F, M, hi⟩
  iterate 2 (refine wp_seq ?_)
  refine w_reg ?_
  iterate 2 (refine rl_run F (run_move (F.ev rfl)) rfl ?_; clear F a; intro a F)
  refine rl_run F (run_lenStr tok9.k (F.ev rfl)) rfl ?_; clear F a; intro a F
  refine rl_run F (run_lss (F.ev rfl) (F.ev rfl)) rfl ?_; clear F a; intro a F
  refine rl_nil <| q_tn <| w_cond F rfl ?_ ?_
  · intro hc
    have h1b := hc; clear hc
    have h1 : ((i : Nat) : Int) < (((s).length : Nat) : Int) := of_decide_eq_true h1b
    refine wp_skip <| q_tn <| wp_seq <| wp_block <| wp_seq <| w_reg ?_
    iterate 2 (refine rl_run F (run_move (F.ev rfl)) rfl ?_; clear F a; intro a F)
    obtain ⟨B2, hB2⟩ := get_of_lt (xs := (s)) (i := i) (by omega)
    have lB2 := nb_hi B2
    refine rl_run F (run_strIndex (i := i) tok9.k (F.ev rfl) (F.ev rfl) hB2) rfl ?_; clear F a; intro a F
    refine rl_run F (run_assign (F.ev rfl)) rfl ?_; clear F a; intro a F
    refine rl_nil <| q_tn <| wp_seq <| w_reg ?_
    iterate 2 (refine rl_run F (run_move (F.ev rfl)) rfl ?_; clear F a; intro a F)
    refine rl_run F (run_nilCheck (F.ev rfl)) rfl ?_; clear F a; intro a F
    refine rl_run F (run_fieldAddr tok195.k rfl rfl (F.ev rfl)) rfl ?_; clear F a; intro a F
    refine rl_run F (run_idxPtr (j := B2.toNat) tok193.k tok22 rfl (F.ev rfl) (F.ev rfl) rfl (by have := UInt8.toNat_lt B2; omega)) rfl ?_; clear F a; intro a F
    refine rl_run F (run_load1 (agf tok22 rfl) (F.ev rfl) (M.cellL (k := 0) rfl (by simp only [Nat.zero_add]; exact T.nil B2.toNat (by have := UInt8.toNat_lt B2; omega) (hq.at hB2)))) rfl ?_; clear F a; intro a F
    refine rl_run F (run_nenilS tok22.k (F.ev rfl) (F.ev rfl)) rfl ?_; clear F a; intro a F
    refine rl_nil <| q_tn <| w_cond_f F rfl rfl ?_
    refine wp_skip <| q_bn <| q_tn <| w_reg <| rl_run F (run_move (F.ev rfl)) rfl ?_; clear F a; intro a F
    refine rl_run F (run_addi (F.ev rfl) (F.ev rfl) (in_i64 (by omega) (by omega))) rfl ?_; clear F a; intro a F
    refine rl_run F (run_assign (F.ev rfl)) rfl ?_; clear F a; intro a F
    refine rl_nil <| q_tn ?_
    exact ⟨_, by omega, i + 1, rfl, F.to ⟨rfl, rfl, rfl, rfl, rfl, rfl, trivial⟩, M, by omega⟩
  · intro hc
    have h3b := hc; clear hc
    have h3 : ¬ (((i : Nat) : Int) < (((s).length : Nat) : Int)) := of_decide_eq_false h3b
    refine wp_exit ?_
    iterate 2 (refine q_te ?_)
    refine q_bh <| q_tn ?_
    iterate 2 (refine wp_seq ?_)
    refine w_reg <| rl_run F (run_move (F.ev rfl)) rfl ?_; clear F a; intro a F
    refine rl_run F (run_not (F.ev rfl)) rfl ?_; clear F a; intro a F
    refine rl_nil <| q_tn <| w_cond_t F rfl rfl ?_
    refine wp_seq <| w_reg <| rl_run F (run_move (F.ev rfl)) rfl ?_; clear F a; intro a F
    refine rl_run F (run_assign (F.ev rfl)) rfl ?_; clear F a; intro a F
    refine rl_nil <| q_tn <| wp_ret <| q_tr <| fin1 F rfl rfl ?_
    exact ⟨M, rfl⟩
theorem once_rep {w0 w : World} {G : Ghost} {L : List Res} {b : Nat} {ra : Option Addr} {rc : Nat} (M : Mem w0 G (.blk b [.int .u32 (0), .int .i32 (0), .int .u32 (0), .nilIface, .slice (ra) (4) (rc)] 177 :: .row (.slice (ra) (4) (rc)) (4) ([.string (str ([92] : List UInt8)), .string (str ([92, 92] : List UInt8)), .string (str ([34] : List UInt8)), .string (str ([92, 34] : List UInt8))]) 9 1 :: L) w) : Calls Tryz.prog 125 #[.pointer (some ⟨b, 0, none⟩), .func (.func 126) #[.pointer (some ⟨b, 0, none⟩)] #[]] w
    (RetL w0 G fun L' v => v = .tuple #[] ∧ ∃ bb cs ta tc, TabIs cs [92, 34] ∧ cs[256]? = some (.slice ta 2 tc) ∧ L' = .blk b [.int .u32 1, .int .i32 0, .int .u32 0, .iface 196 (.pointer (some ⟨bb, 0, none⟩)), .slice none 0 0] 177 :: .blk bb cs 195 :: L) := by
  refine (once_do (R := fun r_ o_ L_ => ∃ bb cs ta tc, TabIs cs [92, 34] ∧ cs[256]? = some (.slice ta 2 tc) ∧ r_ = .iface 196 (.pointer (some ⟨bb, 0, none⟩)) ∧ o_ = .slice none 0 0 ∧ L_ = .blk bb cs 195 :: L) M fun w1 M1 => (bonce_spec M1).mono fun e w2 h => ?_).mono fun e w2 h => ?_
  · cases e with
    | returned v => obtain ⟨L', M', rfl, bb, cs, ta, tc, T, hl, rfl⟩ := h; exact ⟨rfl, _, _, _, ⟨bb, cs, ta, tc, T, hl, rfl, rfl, rfl⟩, M'⟩
    | panicked c => exact h.elim
    | outgrown => exact h.elim
  · cases e with
    | returned v => obtain ⟨L', M', rfl, r', o', L2, ⟨bb, cs, ta, tc, T, hl, rfl, rfl, rfl⟩, rfl⟩ := h; exact ⟨_, M', rfl, bb, cs, ta, tc, T, hl, rfl⟩
    | panicked c => exact h.elim
    | outgrown => exact h.elim
theorem meth_rep {x : Value} {w : World} : (Go.method (Tryz.prog.types.size + Made.depth) 196 x "Replace").run Tryz.prog w = .ok (188, x) w := by kernel_rfl
theorem replace_spec {w0 w : World} {G : Ghost} {L : List Res} {b : Nat} {ra : Option Addr} {rc : Nat} {s : List UInt8} (hq : ShortQ s) (M : Mem w0 G (.blk b [.int .u32 (0), .int .i32 (0), .int .u32 (0), .nilIface, .slice (ra) (4) (rc)] 177 :: .row (.slice (ra) (4) (rc)) (4) ([.string (str ([92] : List UInt8)), .string (str ([92, 92] : List UInt8)), .string (str ([34] : List UInt8)), .string (str ([92, 34] : List UInt8))]) 9 1 :: L) w) : Calls Tryz.prog 118 #[.pointer (some ⟨b, 0, none⟩), .string (str s)] w (RetS w0 G L fun v => v = .string (str s)) := by
  refine calls_start (vs := [_, _]) Tryz.func118 rfl (n := 17) rfl rfl ?_
  intro a F
  refine wp_seq <| w_reg <| rl_run F (run_assign (F.ev rfl)) rfl ?_; clear F a; intro a F
  refine rl_nil <| q_tn <| wp_seq <| w_reg <| rl_run F (run_move (F.ev rfl)) rfl ?_; clear F a; intro a F
  refine rl_run F (run_nilCheck (F.ev rfl)) rfl ?_; clear F a; intro a F
  refine rl_run F (run_fieldAddr tok177.k rfl rfl (F.ev rfl)) rfl ?_; clear F a; intro a F
  refine rl_run F (run_move (F.ev rfl)) rfl ?_; clear F a; intro a F
  refine rl_run F (run_makeFunc1 (F.ev rfl)) rfl ?_; clear F a; intro a F
  replace M := M.perm (perm_front _ 1 _ rfl)
  replace M := M.perm (perm_front _ 1 _ rfl)
  change Mem w0 G (.blk b [.int .u32 (0), .int .i32 (0), .int .u32 (0), .nilIface, .slice (ra) (4) (rc)] 177 :: .row (.slice (ra) (4) (rc)) (4) ([.string (str ([92] : List UInt8)), .string (str ([92, 92] : List UInt8)), .string (str ([34] : List UInt8)), .string (str ([92, 34] : List UInt8))]) 9 1 :: L) _ at M
  refine rl_callL F ent125 rfl rfl (once_rep M) ?_; clear F M a; rintro _ _ w a M ⟨rfl, bq1, csq1, taq1, tcq1, Tq1, hlq1, rfl⟩ F
  refine rl_nil <| q_tn <| wp_seq <| w_reg <| rl_run F (run_move (F.ev rfl)) rfl ?_; clear F a; intro a F
  refine rl_run F (run_nilCheck (F.ev rfl)) rfl ?_; clear F a; intro a F
  refine rl_run F (run_fieldAddr tok177.k rfl rfl (F.ev rfl)) rfl ?_; clear F a; intro a F
  refine rl_run F (run_load1 (agf tok175 rfl) (F.ev rfl) (M.cellL (k := 0) rfl rfl)) rfl ?_; clear F a; intro a F
  refine rl_run F (run_move (F.ev rfl)) rfl ?_; clear F a; intro a F
  replace M := M.perm (perm_front _ 1 _ rfl)
  change Mem w0 G (.blk bq1 (csq1) 195 :: .blk b [.int .u32 (1), .int .i32 (0), .int .u32 (0), .iface 196 (.pointer (some ⟨bq1, 0, none⟩)), .slice none (0) (0)] 177 :: L) _ at M
  refine rl_invokeS F ent188 (fun _ => meth_rep) rfl rfl rfl (brep_spec Tq1 hlq1 (s := s) hq M) ?_; clear F M a; rintro _ w a M rfl F
  refine rl_run F (run_assign (F.ev rfl)) rfl ?_; clear F a; intro a F
  refine rl_nil <| q_tn <| wp_ret <| fin1 F rfl rfl ?_
  exact ⟨M.weaken (.cons _ (.cons _ (List.Sublist.refl _))), rfl⟩
/-- A string between quotation marks, as it is written. -/
def escF : List UInt8 → List UInt8
  | [] => []
  | c :: l => (if c = 92 then [92, 92] else if c = 34 then [92, 34] else [c]) ++ escF l
def quoteF (s : List UInt8) : List UInt8 := [34] ++ escF s ++ [34]
theorem escF_plain : ∀ {s : List UInt8}, (∀ c ∈ s, c.toNat ≠ 34 ∧ c.toNat ≠ 92) → escF s = s
  | [], _ => rfl
  | c :: l, h => by
    have h1 := h c (by simp)
    have h2 : ¬ c = 92 := by rintro rfl; exact h1.2 rfl
    have h3 : ¬ c = 34 := by rintro rfl; exact h1.1 rfl
    rw [escF, if_neg h2, if_neg h3, escF_plain (fun c hc => h c (by simp [hc]))]; rfl
theorem quoteF_plain {s : List UInt8} (h : ShortQ s) : quoteF s = [34] ++ s ++ [34] := by rw [quoteF, escF_plain h.2]
theorem quoted_spec {w0 w : World} {G : Ghost} {L : List Res} (M : Mem w0 G L w) {s : List UInt8} (hq : ShortQ s) : Calls Tryz.prog 99 #[.string (str s)] w (RetS w0 G L fun v => v = .string (str (quoteF s))) := by
  refine calls_start (vs := [_]) Tryz.func99 rfl (n := 9) rfl rfl ?_
  intro a F
  refine wp_seq <| w_reg <| rl_run F (run_assign (F.ev rfl)) rfl ?_; clear F a; intro a F
  refine rl_nil <| q_tn <| wp_seq ?_
  have hsl := hq.1
  refine w_reg <| rl_buildSliceN F M tok49.k tok9 (ps := [(0, .string (str ([92] : List UInt8))), (1, .string (str ([92, 92] : List UInt8))), (2, .string (str ([34] : List UInt8))), (3, .string (str ([92, 34] : List UInt8)))]) (cs := [[.string (str ([92] : List UInt8))], [.string (str ([92, 92] : List UInt8))], [.string (str ([34] : List UInt8))], [.string (str ([92, 34] : List UInt8))]]) (fl := [.string (str ([92] : List UInt8)), .string (str ([92, 92] : List UInt8)), .string (str ([34] : List UInt8)), .string (str ([92, 34] : List UInt8))]) rfl rfl (by simp [Parts, Value.cells]) (by simp [ti9]) rfl (by simp [Value.oneCell']) (by decide) (by decide) rfl ?_; clear F M a; intro v1 w a M F
  obtain ⟨av1, cv1, rfl, hlev1, hcmv1, hlv1⟩ := M.row_shape (k := 0) rfl
  change Mem w0 G (.row (.slice (av1) (4) (cv1)) (4) ([.string (str ([92] : List UInt8)), .string (str ([92, 92] : List UInt8)), .string (str ([34] : List UInt8)), .string (str ([92, 34] : List UInt8))]) 9 1 :: L) _ at M
  refine rl_callL F ent117 rfl rfl (newrep_spec M) ?_; clear F M a; rintro _ _ w a M ⟨bq2, aq2, cq2, rfl, rfl⟩ F
  refine rl_run F (run_move (F.ev rfl)) rfl ?_; clear F a; intro a F
  replace M := M.perm (perm_front _ 1 _ rfl)
  replace M := M.perm (perm_front _ 1 _ rfl)
  change Mem w0 G (.blk bq2 [.int .u32 (0), .int .i32 (0), .int .u32 (0), .nilIface, .slice (aq2) (4) (cq2)] 177 :: .row (.slice (aq2) (4) (cq2)) (4) ([.string (str ([92] : List UInt8)), .string (str ([92, 92] : List UInt8)), .string (str ([34] : List UInt8)), .string (str ([92, 34] : List UInt8))]) 9 1 :: L) _ at M
  refine rl_callS F ent118 rfl rfl (replace_spec (s := s) hq M) ?_; clear F M a; rintro _ w a M rfl F
  iterate 2 (refine rl_run F (run_strAdd (F.ev rfl) (F.ev rfl) (by (try simp only [List.length_append, List.length_cons, List.length_nil]); omega)) rfl ?_; clear F a; intro a F)
  refine rl_run F (run_assign (F.ev rfl)) rfl ?_; clear F a; intro a F
  refine rl_nil <| q_tn <| wp_ret <| fin1 F rfl rfl ?_
  exact ⟨M.weaken (List.Sublist.refl _), by rw [quoteF_plain hq]⟩
end Go.Proofs.YtlnehkjmmegkhaaGreat
