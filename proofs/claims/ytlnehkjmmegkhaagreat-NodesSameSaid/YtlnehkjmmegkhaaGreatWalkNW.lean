/- The walks, part NW. -/
import Derived.Test.YtlnehkjmmegkhaaGreatWalkNV
import Derived.Test.YtlnehkjmmegkhaaGreatRpf
namespace Go.Proofs.YtlnehkjmmegkhaaGreat
open Go Go.Y Go.Proofs
set_option linter.unusedSimpArgs false
set_option linter.unusedVariables false
def escC (c : UInt8) : List UInt8 := if c = 92 then [92, 92] else if c = 34 then [92, 34] else [c]
theorem escF_append : ∀ (s t : List UInt8), escF (s ++ t) = escF s ++ escF t
 | [], t => rfl
 | c :: s, t => by rw [List.cons_append, escF, escF, escF_append s t, List.append_assoc]
theorem escF_one (c : UInt8) : escF [c] = escC c := by rw [escF, escF, List.append_nil, escC]
theorem escF_snoc {s : List UInt8} {i : Nat} {c : UInt8} (h : s[i]? = some c) : escF (s.take (i + 1)) = escF (s.take i) ++ escC c := by
 rw [Tr.take_snoc' h, escF_append, escF_one]
theorem nbk {c : UInt8} {k : Nat} (hk : k < 256) : c.toNat = k ↔ c = UInt8.ofNat k := by
 constructor
 ·intro h; rw [← h]; simp
 ·rintro rfl; simp only [UInt8.toNat_ofNat']; omega
theorem escC_92 {c : UInt8} (h : c.toNat = 92) : escC c = [92, 92] := by rw [(nbk (by decide)).1 h]; rfl
theorem escC_34 {c : UInt8} (h : c.toNat = 34) : escC c = [92, 34] := by rw [(nbk (by decide)).1 h]; rfl
theorem escC_no {c : UInt8} (h : c.toNat ∉ ([92, 34] : List Nat)) : escC c = [c] := by
 simp only [List.mem_cons, List.not_mem_nil, or_false, not_or] at h
 have h1 : ¬ c = 92 := by rintro rfl; exact h.1 rfl
 have h2 : ¬ c = 34 := by rintro rfl; exact h.2 rfl
 rw [escC, if_neg h1, if_neg h2]
theorem esc_cases (c : UInt8) : c.toNat = 92 ∨ c.toNat = 34 ∨ c.toNat ∉ ([92, 34] : List Nat) := by
 simp only [List.mem_cons, List.not_mem_nil, or_false, not_or]; omega
theorem escF_len : ∀ (s : List UInt8), (escF s).length = s.length + s.count 34 + s.count 92
 | [] => rfl
 | c :: s => by
  rw [escF, List.length_append, escF_len s, List.count_cons, List.count_cons]
  by_cases h1 : c = 92
  ·subst h1; simp; omega
  ·by_cases h2 : c = 34
   ·subst h2; simp; omega
   ·simp [h1, h2]; omega
theorem escF_same {s : List UInt8} (h1 : s.count 34 = 0) (h2 : s.count 92 = 0) : escF s = s := by
 refine escF_plain fun c hc => ⟨fun h => ?_, fun h => ?_⟩
 ·rw [(nbk (by decide)).1 h] at hc; exact List.count_eq_zero.1 h1 hc
 ·rw [(nbk (by decide)).1 h] at hc; exact List.count_eq_zero.1 h2 hc
theorem escF_le (s : List UInt8) : s.length ≤ (escF s).length ∧ (escF s).length ≤ 2 * s.length := by
 have h1 : s.count 34 + s.count 92 ≤ s.length := by
  induction s with
  | nil => exact Nat.le_refl _
  | cons c s ih =>
   rw [List.count_cons, List.count_cons, List.length_cons]
   by_cases h1 : c = 92
   ·subst h1; simp; omega
   ·by_cases h2 : c = 34
    ·subst h2; simp; omega
    ·simp [h1, h2]; omega
 rw [escF_len]; omega
theorem escF_at {s : List UInt8} {i : Nat} {c : UInt8} (h : s[i]? = some c) : (escF (s.take i)).length + (escC c).length ≤ (escF s).length := by
 have h1 : escF s = escF (s.take (i + 1)) ++ escF (s.drop (i + 1)) := by rw [← escF_append, List.take_append_drop]
 rw [h1, escF_snoc h]; simp only [List.length_append]; omega
theorem escF_all {s : List UInt8} {i : Nat} (h : s.length ≤ i) : s.take i = s := List.take_of_length_le h
theorem fill_copy {α : Type} {E l : List α} {z : α} {n j : Nat} (hj : j = E.length) : (E ++ List.replicate n z).take j ++ l ++ (E ++ List.replicate n z).drop (j + l.length) = (E ++ l) ++ List.replicate (n - l.length) z := by
 subst hj
 rw [List.take_left' rfl, List.drop_append, List.drop_of_length_le (by omega), List.nil_append, Nat.add_sub_cancel_left, List.drop_replicate]
theorem fill_set {α : Type} {E : List α} {z B : α} {n j : Nat} (hj : j = E.length) (hn : 0 < n) : (E ++ List.replicate n z).set j B = (E ++ [B]) ++ List.replicate (n - 1) z := by
 subst hj
 rw [List.set_append_right _ _ (Nat.le_refl _), Nat.sub_self]
 obtain ⟨n, rfl⟩ : ∃ k, n = k + 1 := ⟨n - 1, by omega⟩
 rw [List.replicate_succ, List.set_cons_zero]; simp
set_option maxHeartbeats 2000000 in
theorem rbuildF_spec {w0 w : World} {G : Ghost} {L : List Res} {b : Nat} {ra : Option Addr} {rc : Nat} {rv sv : Value} {dn lk : Int} (M : Mem w0 G (.blk b [.int .u32 (dn), .int .i32 (lk), sv, rv, .slice (ra) (4) (rc)] 177 :: .row (.slice (ra) (4) (rc)) (4) ([.string (str ([92] : List UInt8)), .string (str ([92, 92] : List UInt8)), .string (str ([34] : List UInt8)), .string (str ([92, 34] : List UInt8))]) 9 1 :: L) w) : Calls Tryz.prog 131 #[.pointer (some ⟨b, 0, none⟩)] w
  (RetL w0 G fun L' v => ∃ bb cs ta tc b1 c1 o1 b2 c2 o2, TabIs cs [92, 34] ∧ cs[256]? = some (.slice ta 2 tc) ∧ cs[92]? = some (.slice (some ⟨b1, 0, none⟩) 2 c1) ∧ BytesAt o1 [92, 92] ∧ cs[34]? = some (.slice (some ⟨b2, 0, none⟩) 2 c2) ∧ BytesAt o2 [92, 34] ∧ v = .iface 196 (.pointer (some ⟨bb, 0, none⟩)) ∧ L' = .blk bb cs 195 :: .row (.slice ta 2 tc) 2 [.string (str ([34] : List UInt8)), .string (str ([92] : List UInt8))] 9 1 :: .obj b1 o1 :: .obj b2 o2 :: .blk b [.int .u32 (dn), .int .i32 (lk), sv, rv, .slice (ra) (4) (rc)] 177 :: .row (.slice (ra) (4) (rc)) (4) ([.string (str ([92] : List UInt8)), .string (str ([92, 92] : List UInt8)), .string (str ([34] : List UInt8)), .string (str ([92, 34] : List UInt8))]) 9 1 :: L) := by
 refine calls_start (vs := [_]) Tryz.func131 rfl (n := 132) rfl rfl ?_
 intro a F
 refine wp_seq <| w_reg <| rl_run F (run_assign (F.ev rfl)) rfl ?_; clear F a; intro a F
 refine rl_nil <| q_tn <| wp_seq <| w_reg <| rl_run F (run_move (F.ev rfl)) rfl ?_; clear F a; intro a F
 refine rl_run F (run_nilCheck (F.ev rfl)) rfl ?_; clear F a; intro a F
 refine rl_run F (run_fieldAddr tok177.k rfl rfl (F.ev rfl)) rfl ?_; clear F a; intro a F
 refine rl_run F (run_load1 (agf tok49 rfl) (F.ev rfl) (M.cellL (k := 0) rfl rfl)) rfl ?_; clear F a; intro a F
 refine rl_run F (run_assign (F.ev rfl)) rfl ?_; clear F a; intro a F
 refine rl_nil <| q_tn ?_
 iterate 2 (refine wp_seq ?_)
 refine w_reg <| rl_run F (run_move (F.ev rfl)) rfl ?_; clear F a; intro a F
 refine rl_run F (run_lenSl tok49.k (F.ev rfl)) rfl ?_; clear F a; intro a F
 refine rl_run F (run_eqi (F.ev rfl) (F.ev rfl)) rfl ?_; clear F a; intro a F
 refine rl_run F (run_move (F.ev rfl)) rfl ?_; clear F a; intro a F
 iterate 5 (refine rl_guard_f F rfl rfl rfl (decide_eq_false (by decide)) ?_; clear F a; intro a F)
 refine rl_run F (run_pick_f (F.ev rfl) (decide_eq_false (by decide)) (F.ev rfl)) rfl ?_; clear F a; intro a F
 refine rl_nil <| q_tn <| w_cond_f F rfl rfl ?_
 refine wp_skip <| q_tn <| wp_seq <| w_reg <| rl_run F (run_assign (F.ev rfl)) rfl ?_; clear F a; intro a F
 refine rl_nil <| q_tn ?_
 iterate 2 (refine wp_seq ?_)
 refine w_reg <| rl_run F (run_assign (F.ev rfl)) rfl ?_; clear F a; intro a F
 refine rl_nil <| q_tn <| wp_block <| w_unroll 3 ?_
 iterate 2 (refine wp_seq ?_)
 refine w_reg ?_
 iterate 2 (refine rl_run F (run_move (F.ev rfl)) rfl ?_; clear F a; intro a F)
 refine rl_run F (run_lenSl tok49.k (F.ev rfl)) rfl ?_; clear F a; intro a F
 refine rl_run F (run_lss (F.ev rfl) (F.ev rfl)) rfl ?_; clear F a; intro a F
 refine rl_nil <| q_tn <| w_cond_t F rfl (decide_eq_true (by decide)) ?_
 refine wp_skip <| q_tn <| wp_seq <| wp_block ?_
 iterate 2 (refine wp_seq ?_)
 refine w_reg ?_
 iterate 2 (refine rl_run F (run_move (F.ev rfl)) rfl ?_; clear F a; intro a F)
 obtain ⟨be1, _, Ie1, hme1, _, Ae1, ⟨rfl, hsle1⟩⟩ := M.atRow (k := 1) rfl (by decide) repE (rfl : repS[0]? = some ([92] : List UInt8))
 refine rl_run F (run_indexI tok49.k tok9 (F.ev rfl) (F.ev rfl) (by omega) Ie1) rfl ?_; clear F a; intro a F
 refine rl_run F (run_load1 (agf tok9 rfl) (F.ev rfl) (cellE Ae1 0 (by omega) rfl)) rfl ?_; clear F a; intro a F
 refine rl_run F (run_lenStr tok9.k (F.ev rfl)) rfl ?_; clear F a; intro a F
 refine rl_run F (run_nei (F.ev rfl) (F.ev rfl)) rfl ?_; clear F a; intro a F
 refine rl_nil <| q_tn <| w_cond_f F rfl (not_f (decide_eq_true (by decide))) ?_
 refine wp_skip <| q_tn <| wp_seq <| w_reg ?_
 iterate 2 (refine rl_run F (run_move (F.ev rfl)) rfl ?_; clear F a; intro a F)
 refine rl_run F (run_addi (F.ev rfl) (F.ev rfl) (in_i64 (by omega) (by omega))) rfl ?_; clear F a; intro a F
 obtain ⟨be2, _, Ie2, hme2, _, Ae2, ⟨rfl, hsle2⟩⟩ := M.atRow (k := 1) rfl (by decide) repE (rfl : repS[1]? = some ([92, 92] : List UInt8))
 refine rl_run F (run_indexI tok49.k tok9 (F.ev rfl) (F.ev rfl) (by omega) Ie2) rfl ?_; clear F a; intro a F
 refine rl_run F (run_load1 (agf tok9 rfl) (F.ev rfl) (cellE Ae2 0 (by omega) rfl)) rfl ?_; clear F a; intro a F
 refine rl_run F (run_lenStr tok9.k (F.ev rfl)) rfl ?_; clear F a; intro a F
 refine rl_run F (run_nei (F.ev rfl) (F.ev rfl)) rfl ?_; clear F a; intro a F
 refine rl_nil <| q_tn <| w_cond_t F rfl (not_t (decide_eq_false (by decide))) ?_
 refine w_reg <| rl_run F (run_assign (F.ev rfl)) rfl ?_; clear F a; intro a F
 refine rl_nil <| q_bn <| q_tn <| w_reg <| rl_run F (run_move (F.ev rfl)) rfl ?_; clear F a; intro a F
 refine rl_run F (run_addi (F.ev rfl) (F.ev rfl) (in_i64 (by omega) (by omega))) rfl ?_; clear F a; intro a F
 refine rl_run F (run_assign (F.ev rfl)) rfl ?_; clear F a; intro a F
 refine rl_nil <| q_tn ?_
 iterate 2 (refine wp_seq ?_)
 refine w_reg ?_
 iterate 2 (refine rl_run F (run_move (F.ev rfl)) rfl ?_; clear F a; intro a F)
 refine rl_run F (run_lenSl tok49.k (F.ev rfl)) rfl ?_; clear F a; intro a F
 refine rl_run F (run_lss (F.ev rfl) (F.ev rfl)) rfl ?_; clear F a; intro a F
 refine rl_nil <| q_tn <| w_cond_t F rfl (decide_eq_true (by decide)) ?_
 refine wp_skip <| q_tn <| wp_seq <| wp_block ?_
 iterate 2 (refine wp_seq ?_)
 refine w_reg ?_
 iterate 2 (refine rl_run F (run_move (F.ev rfl)) rfl ?_; clear F a; intro a F)
 obtain ⟨be3, _, Ie3, hme3, _, Ae3, ⟨rfl, hsle3⟩⟩ := M.atRow (k := 1) rfl (by decide) repE (rfl : repS[2]? = some ([34] : List UInt8))
 refine rl_run F (run_indexI tok49.k tok9 (F.ev rfl) (F.ev rfl) (by omega) Ie3) rfl ?_; clear F a; intro a F
 refine rl_run F (run_load1 (agf tok9 rfl) (F.ev rfl) (cellE Ae3 0 (by omega) rfl)) rfl ?_; clear F a; intro a F
 refine rl_run F (run_lenStr tok9.k (F.ev rfl)) rfl ?_; clear F a; intro a F
 refine rl_run F (run_nei (F.ev rfl) (F.ev rfl)) rfl ?_; clear F a; intro a F
 refine rl_nil <| q_tn <| w_cond_f F rfl (not_f (decide_eq_true (by decide))) ?_
 refine wp_skip <| q_tn <| wp_seq <| w_reg ?_
 iterate 2 (refine rl_run F (run_move (F.ev rfl)) rfl ?_; clear F a; intro a F)
 refine rl_run F (run_addi (F.ev rfl) (F.ev rfl) (in_i64 (by omega) (by omega))) rfl ?_; clear F a; intro a F
 obtain ⟨be4, _, Ie4, hme4, _, Ae4, ⟨rfl, hsle4⟩⟩ := M.atRow (k := 1) rfl (by decide) repE (rfl : repS[3]? = some ([92, 34] : List UInt8))
 refine rl_run F (run_indexI tok49.k tok9 (F.ev rfl) (F.ev rfl) (by omega) Ie4) rfl ?_; clear F a; intro a F
 refine rl_run F (run_load1 (agf tok9 rfl) (F.ev rfl) (cellE Ae4 0 (by omega) rfl)) rfl ?_; clear F a; intro a F
 refine rl_run F (run_lenStr tok9.k (F.ev rfl)) rfl ?_; clear F a; intro a F
 refine rl_run F (run_nei (F.ev rfl) (F.ev rfl)) rfl ?_; clear F a; intro a F
 refine rl_nil <| q_tn <| w_cond_t F rfl (not_t (decide_eq_false (by decide))) ?_
 refine w_reg <| rl_run F (run_assign (F.ev rfl)) rfl ?_; clear F a; intro a F
 refine rl_nil <| q_bn <| q_tn <| w_reg <| rl_run F (run_move (F.ev rfl)) rfl ?_; clear F a; intro a F
 refine rl_run F (run_addi (F.ev rfl) (F.ev rfl) (in_i64 (by omega) (by omega))) rfl ?_; clear F a; intro a F
 refine rl_run F (run_assign (F.ev rfl)) rfl ?_; clear F a; intro a F
 refine rl_nil <| q_tn ?_
 iterate 2 (refine wp_seq ?_)
 refine w_reg ?_
 iterate 2 (refine rl_run F (run_move (F.ev rfl)) rfl ?_; clear F a; intro a F)
 refine rl_run F (run_lenSl tok49.k (F.ev rfl)) rfl ?_; clear F a; intro a F
 refine rl_run F (run_lss (F.ev rfl) (F.ev rfl)) rfl ?_; clear F a; intro a F
 refine rl_nil <| q_tn <| w_cond_f F rfl (decide_eq_false (by decide)) ?_
 refine wp_exit ?_
 iterate 2 (refine q_te ?_)
 refine q_bh <| q_tn ?_
 iterate 2 (refine wp_seq ?_)
 refine w_reg <| rl_run F (run_move (F.ev rfl)) rfl ?_; clear F a; intro a F
 refine rl_nil <| q_tn <| w_cond_f F rfl rfl ?_
 refine wp_skip <| q_tn <| wp_seq <| w_reg <| rl_run F (run_move (F.ev rfl)) rfl ?_; clear F a; intro a F
 refine rl_run F (run_lenSl tok49.k (F.ev rfl)) rfl ?_; clear F a; intro a F
 refine rl_run F (run_quoi (F.ev rfl) (F.ev rfl) (by omega) (by omega) (in_i64 (by omega) (by omega))) rfl ?_; clear F a; intro a F
 refine rl_make0 F M tok49.k tok9 rfl rfl (by omega) rfl (c := 4 / 2) (by omega) (by show 16 * _ ≤ _; omega) (by omega) rfl ?_; clear F M a; intro bv5 w a M F
 refine rl_run F (run_buildS (cs := tab0 (.slice (some ⟨bv5, 0, none⟩) (0) (4 / 2))) (ps := [(1, .slice (some ⟨bv5, 0, none⟩) (0) (4 / 2))]) tok195.k rfl tok195 (F.evp rfl) tab0_fill) rfl ?_; clear F a; intro a F
 refine rl_alloc F M tok195 (cs := tab0 (.slice none 0 0)) tab0_zero rfl ?_; clear F M a; intro b6 w a M F
 refine rl_storeA F M tok195 (k := 0) rfl rfl rfl (us := tab0 (.slice (some ⟨bv5, 0, none⟩) (0) (4 / 2))) rfl (tab0_len _) (by intro u hu; rcases tab0_mem hu with rfl | rfl <;> rfl) (by rw [tab0_len, tab0_len]; decide) ?_; clear F M a; intro w a M F
 rw [over_all (by rw [tab0_len, tab0_len])] at M
 have T7 := tab0_is (.slice (some ⟨bv5, 0, none⟩) (0) (4 / 2))
 have hlT7 := tab0_last (.slice (some ⟨bv5, 0, none⟩) (0) (4 / 2))
 refine rl_nil <| q_tn ?_
 iterate 2 (refine wp_seq ?_)
 refine w_reg <| rl_run F (run_move (F.ev rfl)) rfl ?_; clear F a; intro a F
 refine rl_run F (run_lenSl tok49.k (F.ev rfl)) rfl ?_; clear F a; intro a F
 refine rl_run F (run_subi (F.ev rfl) (F.ev rfl) (in_i64 (by omega) (by omega))) rfl ?_; clear F a; intro a F
 refine rl_run F (run_assign (F.ev rfl)) rfl ?_; clear F a; intro a F
 refine rl_nil <| q_tn <| wp_block <| w_unroll 3 ?_
 iterate 2 (refine wp_seq ?_)
 refine w_reg <| rl_run F (run_move (F.ev rfl)) rfl ?_; clear F a; intro a F
 refine rl_run F (run_geq (F.ev rfl) (F.ev rfl)) rfl ?_; clear F a; intro a F
 refine rl_nil <| q_tn <| w_cond_t F rfl (decide_eq_true (by decide)) ?_
 refine wp_skip <| q_tn <| wp_seq <| wp_block <| wp_seq <| w_reg ?_
 iterate 2 (refine rl_run F (run_move (F.ev rfl)) rfl ?_; clear F a; intro a F)
 obtain ⟨be8, _, Ie8, hme8, _, Ae8, ⟨rfl, hsle8⟩⟩ := M.atRow (k := 3) rfl (by decide) repE (rfl : repS[2]? = some ([34] : List UInt8))
 refine rl_run F (run_indexI tok49.k tok9 (F.ev rfl) (F.ev rfl) (by omega) Ie8) rfl ?_; clear F a; intro a F
 refine rl_run F (run_load1 (agf tok9 rfl) (F.ev rfl) (cellE Ae8 0 (by omega) rfl)) rfl ?_; clear F a; intro a F
 refine rl_run F (run_strIndex (i := 0) (b := (34 : UInt8)) tok9.k (F.ev rfl) (F.ev rfl) rfl) rfl ?_; clear F a; intro a F
 refine rl_run F (run_assign (F.ev rfl)) rfl ?_; clear F a; intro a F
 refine rl_nil <| q_tn <| wp_seq <| w_reg ?_
 iterate 2 (refine rl_run F (run_move (F.ev rfl)) rfl ?_; clear F a; intro a F)
 refine rl_run F (run_addi (F.ev rfl) (F.ev rfl) (in_i64 (by omega) (by omega))) rfl ?_; clear F a; intro a F
 obtain ⟨be9, _, Ie9, hme9, _, Ae9, ⟨rfl, hsle9⟩⟩ := M.atRow (k := 3) rfl (by decide) repE (rfl : repS[3]? = some ([92, 34] : List UInt8))
 refine rl_run F (run_indexI tok49.k tok9 (F.ev rfl) (F.ev rfl) (by omega) Ie9) rfl ?_; clear F a; intro a F
 refine rl_run F (run_load1 (agf tok9 rfl) (F.ev rfl) (cellE Ae9 0 (by omega) rfl)) rfl ?_; clear F a; intro a F
 refine rl_run F (run_assign (F.ev rfl)) rfl ?_; clear F a; intro a F
 refine rl_nil <| q_tn ?_
 iterate 2 (refine wp_seq ?_)
 refine w_reg <| rl_run F (run_move (F.ev rfl)) rfl ?_; clear F a; intro a F
 refine rl_run F (run_fieldAddr tok195.k rfl rfl (F.ev rfl)) rfl ?_; clear F a; intro a F
 refine rl_run F (run_idxPtr (j := 34) tok193.k tok22 rfl (F.ev rfl) (F.ev rfl) (by first | omega | rfl) (by decide)) rfl ?_; clear F a; intro a F
 refine rl_run F (run_load1 (agf tok22 rfl) (F.ev rfl) (M.cellL (k := 0) rfl (T7.nil 34 (by decide) (by decide)))) rfl ?_; clear F a; intro a F
 refine rl_run F (run_eqnilS tok22.k (F.ev rfl) (F.ev rfl)) rfl ?_; clear F a; intro a F
 refine rl_nil <| q_tn <| w_cond_t F rfl rfl ?_
 refine w_reg <| rl_run F (run_fieldAddr tok195.k rfl rfl (F.ev rfl)) rfl ?_; clear F a; intro a F
 refine rl_run F (run_load1 (agf tok49 rfl) (F.ev rfl) (M.cellL (k := 0) rfl hlT7)) rfl ?_; clear F a; intro a F
 refine rl_run F (run_move (F.ev rfl)) rfl ?_; clear F a; intro a F
 refine rl_buildSlice1 F M tok22.k tok5 rfl rfl (cs := [.int .u8 (nb 34)]) rfl rfl (by simp [Value.oneCell']) (by decide) rfl ?_; clear F M a; intro v10 w a M F
 obtain ⟨av10, cv10, rfl, hlev10, hcmv10, hlv10⟩ := M.row_shape (k := 0) rfl
 refine rl_run F (run_strOfRow M (k := 0) (l := [34]) rfl rfl tok22.k tok5.k tok9.k (F.ev rfl)) rfl ?_; clear F a; intro a F
 refine rl_buildSlice1 F M tok49.k tok9 rfl rfl (cs := [.string (str ([34] : List UInt8))]) rfl rfl (by simp [Value.oneCell']) (by decide) rfl ?_; clear F M a; intro v11 w a M F
 obtain ⟨av11, cv11, rfl, hlev11, hcmv11, hlv11⟩ := M.row_shape (k := 0) rfl
 refine rl_append_row F M (k := 3) (k2 := 0) rfl rfl tok49.k tok9 rfl rfl (by decide) rfl rfl (by show _ * 16 ≤ _; (try simp only [List.length_drop, List.length_take, List.length_append, List.length_cons, List.length_nil]); omega) (by (try simp only [List.length_drop, List.length_take, List.length_append, List.length_cons, List.length_nil]); omega) rfl ?_; clear F M a; intro v12 w a M F
 obtain ⟨av12, cv12, rfl, hlev12, hcmv12, hlv12⟩ := M.row_shape (k := 3) rfl
 refine rl_run F (run_fieldAddr tok195.k rfl rfl (F.ev rfl)) rfl ?_; clear F a; intro a F
 refine rl_store1 F M tok49 rfl (k := 2) rfl rfl rfl rfl hlT7 ?_; clear F M a; intro w a M F
 have T13 : TabIs ((tab0 (.slice (some ⟨bv5, 0, none⟩) (0) (4 / 2))).set 256 (.slice (av12) (0 + 1) (cv12))) [] := T7.put _ _ _ (by intro j hj hK; simp only [List.mem_cons, List.not_mem_nil, or_false, not_or, not_false_eq_true, and_true] at hK ⊢; omega)
 have hlT13 : ((tab0 (.slice (some ⟨bv5, 0, none⟩) (0) (4 / 2))).set 256 (.slice (av12) (0 + 1) (cv12)))[256]? = some (.slice (av12) (0 + 1) (cv12)) := List.getElem?_set_self (by rw [T7.len]; decide)
 refine rl_nil <| q_tn <| w_reg ?_
 iterate 2 (refine rl_run F (run_move (F.ev rfl)) rfl ?_; clear F a; intro a F)
 refine rl_strBytesO (l := ([92, 34] : List UInt8)) F M tok9.k tok22.k tok5.k rfl rfl ?_; clear F M a; intro b14 cb14 ob14 w a hb14 M F
 change Fits 132 _ ((_, .slice (some ⟨b14, 0, none⟩) (2) (cb14)) :: _) at F
 refine rl_run F (run_fieldAddr tok195.k rfl rfl (F.ev rfl)) rfl ?_; clear F a; intro a F
 refine rl_run F (run_idxPtr (j := 34) tok193.k tok22 rfl (F.ev rfl) (F.ev rfl) (by first | omega | rfl) (by decide)) rfl ?_; clear F a; intro a F
 refine rl_store1 F M tok22 rfl (k := 3) rfl rfl rfl rfl (T13.nil 34 (by decide) (by decide)) ?_; clear F M a; intro w a M F
 have T15 : TabIs (((tab0 (.slice (some ⟨bv5, 0, none⟩) (0) (4 / 2))).set 256 (.slice (av12) (0 + 1) (cv12))).set 34 (.slice (some ⟨b14, 0, none⟩) (2) (cb14))) [34] := T13.put _ _ _ (by intro j hj hK; simp only [List.mem_cons, List.not_mem_nil, or_false, not_or, not_false_eq_true, and_true] at hK ⊢; omega)
 have hlT15 : (((tab0 (.slice (some ⟨bv5, 0, none⟩) (0) (4 / 2))).set 256 (.slice (av12) (0 + 1) (cv12))).set 34 (.slice (some ⟨b14, 0, none⟩) (2) (cb14)))[256]? = some (.slice (av12) (0 + 1) (cv12)) := by rw [List.getElem?_set_ne (by decide)]; exact hlT13
 have hv16 : (((tab0 (.slice (some ⟨bv5, 0, none⟩) (0) (4 / 2))).set 256 (.slice (av12) (0 + 1) (cv12))).set 34 (.slice (some ⟨b14, 0, none⟩) (2) (cb14)))[34]? = some (.slice (some ⟨b14, 0, none⟩) (2) (cb14)) := List.getElem?_set_self (by rw [T13.len]; decide)
 refine rl_nil <| q_bn <| q_tn <| w_reg <| rl_run F (run_move (F.ev rfl)) rfl ?_; clear F a; intro a F
 refine rl_run F (run_subi (F.ev rfl) (F.ev rfl) (in_i64 (by omega) (by omega))) rfl ?_; clear F a; intro a F
 refine rl_run F (run_assign (F.ev rfl)) rfl ?_; clear F a; intro a F
 refine rl_nil <| q_tn ?_
 iterate 2 (refine wp_seq ?_)
 refine w_reg <| rl_run F (run_move (F.ev rfl)) rfl ?_; clear F a; intro a F
 refine rl_run F (run_geq (F.ev rfl) (F.ev rfl)) rfl ?_; clear F a; intro a F
 refine rl_nil <| q_tn <| w_cond_t F rfl (decide_eq_true (by decide)) ?_
 refine wp_skip <| q_tn <| wp_seq <| wp_block <| wp_seq <| w_reg ?_
 iterate 2 (refine rl_run F (run_move (F.ev rfl)) rfl ?_; clear F a; intro a F)
 obtain ⟨be17, _, Ie17, hme17, _, Ae17, ⟨rfl, hsle17⟩⟩ := M.atRow (k := 6) rfl (by decide) repE (rfl : repS[0]? = some ([92] : List UInt8))
 refine rl_run F (run_indexI tok49.k tok9 (F.ev rfl) (F.ev rfl) (by omega) Ie17) rfl ?_; clear F a; intro a F
 refine rl_run F (run_load1 (agf tok9 rfl) (F.ev rfl) (cellE Ae17 0 (by omega) rfl)) rfl ?_; clear F a; intro a F
 refine rl_run F (run_strIndex (i := 0) (b := (92 : UInt8)) tok9.k (F.ev rfl) (F.ev rfl) rfl) rfl ?_; clear F a; intro a F
 refine rl_run F (run_assign (F.ev rfl)) rfl ?_; clear F a; intro a F
 refine rl_nil <| q_tn <| wp_seq <| w_reg ?_
 iterate 2 (refine rl_run F (run_move (F.ev rfl)) rfl ?_; clear F a; intro a F)
 refine rl_run F (run_addi (F.ev rfl) (F.ev rfl) (in_i64 (by omega) (by omega))) rfl ?_; clear F a; intro a F
 obtain ⟨be18, _, Ie18, hme18, _, Ae18, ⟨rfl, hsle18⟩⟩ := M.atRow (k := 6) rfl (by decide) repE (rfl : repS[1]? = some ([92, 92] : List UInt8))
 refine rl_run F (run_indexI tok49.k tok9 (F.ev rfl) (F.ev rfl) (by omega) Ie18) rfl ?_; clear F a; intro a F
 refine rl_run F (run_load1 (agf tok9 rfl) (F.ev rfl) (cellE Ae18 0 (by omega) rfl)) rfl ?_; clear F a; intro a F
 refine rl_run F (run_assign (F.ev rfl)) rfl ?_; clear F a; intro a F
 refine rl_nil <| q_tn ?_
 iterate 2 (refine wp_seq ?_)
 refine w_reg <| rl_run F (run_move (F.ev rfl)) rfl ?_; clear F a; intro a F
 refine rl_run F (run_fieldAddr tok195.k rfl rfl (F.ev rfl)) rfl ?_; clear F a; intro a F
 refine rl_run F (run_idxPtr (j := 92) tok193.k tok22 rfl (F.ev rfl) (F.ev rfl) (by first | omega | rfl) (by decide)) rfl ?_; clear F a; intro a F
 refine rl_run F (run_load1 (agf tok22 rfl) (F.ev rfl) (M.cellL (k := 3) rfl (T15.nil 92 (by decide) (by decide)))) rfl ?_; clear F a; intro a F
 refine rl_run F (run_eqnilS tok22.k (F.ev rfl) (F.ev rfl)) rfl ?_; clear F a; intro a F
 refine rl_nil <| q_tn <| w_cond_t F rfl rfl ?_
 refine w_reg <| rl_run F (run_fieldAddr tok195.k rfl rfl (F.ev rfl)) rfl ?_; clear F a; intro a F
 refine rl_run F (run_load1 (agf tok49 rfl) (F.ev rfl) (M.cellL (k := 3) rfl hlT15)) rfl ?_; clear F a; intro a F
 refine rl_run F (run_move (F.ev rfl)) rfl ?_; clear F a; intro a F
 refine rl_buildSlice1 F M tok22.k tok5 rfl rfl (cs := [.int .u8 (nb 92)]) rfl rfl (by simp [Value.oneCell']) (by decide) rfl ?_; clear F M a; intro v19 w a M F
 obtain ⟨av19, cv19, rfl, hlev19, hcmv19, hlv19⟩ := M.row_shape (k := 0) rfl
 refine rl_run F (run_strOfRow M (k := 0) (l := [92]) rfl rfl tok22.k tok5.k tok9.k (F.ev rfl)) rfl ?_; clear F a; intro a F
 refine rl_buildSlice1 F M tok49.k tok9 rfl rfl (cs := [.string (str ([92] : List UInt8))]) rfl rfl (by simp [Value.oneCell']) (by decide) rfl ?_; clear F M a; intro v20 w a M F
 obtain ⟨av20, cv20, rfl, hlev20, hcmv20, hlv20⟩ := M.row_shape (k := 0) rfl
 refine rl_append_row F M (k := 6) (k2 := 0) rfl rfl tok49.k tok9 rfl rfl (by decide) rfl rfl (by show _ * 16 ≤ _; (try simp only [List.length_drop, List.length_take, List.length_append, List.length_cons, List.length_nil]); omega) (by (try simp only [List.length_drop, List.length_take, List.length_append, List.length_cons, List.length_nil]); omega) rfl ?_; clear F M a; intro v21 w a M F
 obtain ⟨av21, cv21, rfl, hlev21, hcmv21, hlv21⟩ := M.row_shape (k := 6) rfl
 refine rl_run F (run_fieldAddr tok195.k rfl rfl (F.ev rfl)) rfl ?_; clear F a; intro a F
 refine rl_store1 F M tok49 rfl (k := 5) rfl rfl rfl rfl hlT15 ?_; clear F M a; intro w a M F
 have T22 : TabIs ((((tab0 (.slice (some ⟨bv5, 0, none⟩) (0) (4 / 2))).set 256 (.slice (av12) (0 + 1) (cv12))).set 34 (.slice (some ⟨b14, 0, none⟩) (2) (cb14))).set 256 (.slice (av21) ((0 + 1) + 1) (cv21))) [34] := T15.put _ _ _ (by intro j hj hK; simp only [List.mem_cons, List.not_mem_nil, or_false, not_or, not_false_eq_true, and_true] at hK ⊢; omega)
 have hlT22 : ((((tab0 (.slice (some ⟨bv5, 0, none⟩) (0) (4 / 2))).set 256 (.slice (av12) (0 + 1) (cv12))).set 34 (.slice (some ⟨b14, 0, none⟩) (2) (cb14))).set 256 (.slice (av21) ((0 + 1) + 1) (cv21)))[256]? = some (.slice (av21) ((0 + 1) + 1) (cv21)) := List.getElem?_set_self (by rw [T15.len]; decide)
 have hv23 : ((((tab0 (.slice (some ⟨bv5, 0, none⟩) (0) (4 / 2))).set 256 (.slice (av12) (0 + 1) (cv12))).set 34 (.slice (some ⟨b14, 0, none⟩) (2) (cb14))).set 256 (.slice (av21) ((0 + 1) + 1) (cv21)))[34]? = some (.slice (some ⟨b14, 0, none⟩) (2) (cb14)) := by rw [List.getElem?_set_ne (by decide)]; exact hv16
 refine rl_nil <| q_tn <| w_reg ?_
 iterate 2 (refine rl_run F (run_move (F.ev rfl)) rfl ?_; clear F a; intro a F)
 refine rl_strBytesO (l := ([92, 92] : List UInt8)) F M tok9.k tok22.k tok5.k rfl rfl ?_; clear F M a; intro b24 cb24 ob24 w a hb24 M F
 change Fits 132 _ ((_, .slice (some ⟨b24, 0, none⟩) (2) (cb24)) :: _) at F
 refine rl_run F (run_fieldAddr tok195.k rfl rfl (F.ev rfl)) rfl ?_; clear F a; intro a F
 refine rl_run F (run_idxPtr (j := 92) tok193.k tok22 rfl (F.ev rfl) (F.ev rfl) (by first | omega | rfl) (by decide)) rfl ?_; clear F a; intro a F
 refine rl_store1 F M tok22 rfl (k := 6) rfl rfl rfl rfl (T22.nil 92 (by decide) (by decide)) ?_; clear F M a; intro w a M F
 have T25 : TabIs (((((tab0 (.slice (some ⟨bv5, 0, none⟩) (0) (4 / 2))).set 256 (.slice (av12) (0 + 1) (cv12))).set 34 (.slice (some ⟨b14, 0, none⟩) (2) (cb14))).set 256 (.slice (av21) ((0 + 1) + 1) (cv21))).set 92 (.slice (some ⟨b24, 0, none⟩) (2) (cb24))) [92, 34] := T22.put _ _ _ (by intro j hj hK; simp only [List.mem_cons, List.not_mem_nil, or_false, not_or, not_false_eq_true, and_true] at hK ⊢; omega)
 have hlT25 : (((((tab0 (.slice (some ⟨bv5, 0, none⟩) (0) (4 / 2))).set 256 (.slice (av12) (0 + 1) (cv12))).set 34 (.slice (some ⟨b14, 0, none⟩) (2) (cb14))).set 256 (.slice (av21) ((0 + 1) + 1) (cv21))).set 92 (.slice (some ⟨b24, 0, none⟩) (2) (cb24)))[256]? = some (.slice (av21) ((0 + 1) + 1) (cv21)) := by rw [List.getElem?_set_ne (by decide)]; exact hlT22
 have hv26 : (((((tab0 (.slice (some ⟨bv5, 0, none⟩) (0) (4 / 2))).set 256 (.slice (av12) (0 + 1) (cv12))).set 34 (.slice (some ⟨b14, 0, none⟩) (2) (cb14))).set 256 (.slice (av21) ((0 + 1) + 1) (cv21))).set 92 (.slice (some ⟨b24, 0, none⟩) (2) (cb24)))[34]? = some (.slice (some ⟨b14, 0, none⟩) (2) (cb14)) := by rw [List.getElem?_set_ne (by decide)]; exact hv23
 have hv27 : (((((tab0 (.slice (some ⟨bv5, 0, none⟩) (0) (4 / 2))).set 256 (.slice (av12) (0 + 1) (cv12))).set 34 (.slice (some ⟨b14, 0, none⟩) (2) (cb14))).set 256 (.slice (av21) ((0 + 1) + 1) (cv21))).set 92 (.slice (some ⟨b24, 0, none⟩) (2) (cb24)))[92]? = some (.slice (some ⟨b24, 0, none⟩) (2) (cb24)) := List.getElem?_set_self (by rw [T22.len]; decide)
 refine rl_nil <| q_bn <| q_tn <| w_reg <| rl_run F (run_move (F.ev rfl)) rfl ?_; clear F a; intro a F
 refine rl_run F (run_subi (F.ev rfl) (F.ev rfl) (in_i64 (by omega) (by omega))) rfl ?_; clear F a; intro a F
 refine rl_run F (run_assign (F.ev rfl)) rfl ?_; clear F a; intro a F
 refine rl_nil <| q_tn ?_
 iterate 2 (refine wp_seq ?_)
 refine w_reg <| rl_run F (run_move (F.ev rfl)) rfl ?_; clear F a; intro a F
 refine rl_run F (run_geq (F.ev rfl) (F.ev rfl)) rfl ?_; clear F a; intro a F
 refine rl_nil <| q_tn <| w_cond_f F rfl (decide_eq_false (by decide)) ?_
 refine wp_exit ?_
 iterate 2 (refine q_te ?_)
 refine q_bh <| q_tn <| wp_seq <| w_reg <| rl_run F (run_ifaceP tok196.k (F.ev rfl)) rfl ?_; clear F a; intro a F
 refine rl_run F (run_assign (F.ev rfl)) rfl ?_; clear F a; intro a F
 refine rl_nil <| q_tn <| wp_ret <| fin1 F rfl rfl ?_
 replace M := M.perm (perm_front _ 9 _ rfl)
 replace M := M.perm (perm_front _ 9 _ rfl)
 replace M := M.perm (perm_front _ 5 _ rfl)
 replace M := M.perm (perm_front _ 3 _ rfl)
 replace M := M.perm (perm_front _ 9 _ rfl)
 replace M := M.perm (perm_front _ 9 _ rfl)
 change Mem w0 G (_ :: _ :: _ :: _ :: _ :: _ :: _ :: _ :: _ :: _ :: L) _ at M
 exact ⟨_, M.weaken (.cons_cons _ (.cons_cons _ (.cons_cons _ (.cons_cons _ (.cons_cons _ (.cons_cons _ (.cons _ (.cons _ (.cons _ (.cons _ (List.Sublist.refl _))))))))))), _, _, _, _, _, _, _, _, _, _, T25, hlT25, hv27, hb24, hv26, hb14, rfl, rfl⟩
theorem bonceF_spec {w0 w : World} {G : Ghost} {L : List Res} {b : Nat} {ra : Option Addr} {rc : Nat} {rv sv : Value} (M : Mem w0 G (.blk b [.int .u32 (0), .int .i32 (1), sv, rv, .slice (ra) (4) (rc)] 177 :: .row (.slice (ra) (4) (rc)) (4) ([.string (str ([92] : List UInt8)), .string (str ([92, 92] : List UInt8)), .string (str ([34] : List UInt8)), .string (str ([92, 34] : List UInt8))]) 9 1 :: L) w) : Calls Tryz.prog 126 #[.pointer (some ⟨b, 0, none⟩)] w
  (RetL w0 G fun L' v => v = .tuple #[] ∧ ∃ bb cs ta tc b1 c1 o1 b2 c2 o2, TabIs cs [92, 34] ∧ cs[256]? = some (.slice ta 2 tc) ∧ cs[92]? = some (.slice (some ⟨b1, 0, none⟩) 2 c1) ∧ BytesAt o1 [92, 92] ∧ cs[34]? = some (.slice (some ⟨b2, 0, none⟩) 2 c2) ∧ BytesAt o2 [92, 34] ∧ L' = .blk b [.int .u32 0, .int .i32 1, sv, .iface 196 (.pointer (some ⟨bb, 0, none⟩)), .slice none 0 0] 177 :: .blk bb cs 195 :: .row (.slice ta 2 tc) 2 [.string (str ([34] : List UInt8)), .string (str ([92] : List UInt8))] 9 1 :: .obj b1 o1 :: .obj b2 o2 :: L) := by
 refine calls_start (vs := [_]) Tryz.func126 rfl (n := 10) rfl rfl ?_
 intro a F
 refine wp_seq <| w_reg ?_
 iterate 2 (refine rl_run F (run_move (F.ev rfl)) rfl ?_; clear F a; intro a F)
 replace M := M.perm (perm_front _ 1 _ rfl)
 replace M := M.perm (perm_front _ 1 _ rfl)
 change Mem w0 G (_ :: _ :: L) _ at M
 refine rl_callL F ent131 rfl rfl (rbuildF_spec M) ?_; clear F M a; rintro _ _ w a M ⟨bq1, csq1, taq1, tcq1, b1q1, c1q1, o1q1, b2q1, c2q1, o2q1, Tq1, hlq1, hv1q1, hBv1q1, hv2q1, hBv2q1, rfl, rfl⟩ F
 refine rl_run F (run_nilCheck (F.ev rfl)) rfl ?_; clear F a; intro a F
 refine rl_run F (run_fieldAddr tok177.k rfl rfl (F.ev rfl)) rfl ?_; clear F a; intro a F
 refine rl_store1 F M tok175 rfl (k := 4) rfl rfl rfl rfl rfl ?_; clear F M a; intro w a M F
 refine rl_nil <| q_tn <| w_reg <| rl_run F (run_move (F.ev rfl)) rfl ?_; clear F a; intro a F
 refine rl_run F (run_nilCheck (F.ev rfl)) rfl ?_; clear F a; intro a F
 refine rl_run F (run_fieldAddr tok177.k rfl rfl (F.ev rfl)) rfl ?_; clear F a; intro a F
 refine rl_store1 F M tok49 rfl (k := 4) rfl rfl rfl rfl rfl ?_; clear F M a; intro w a M F
 refine rl_nil <| fin0n F rfl ?_
 replace M := M.perm (perm_front _ 3 _ rfl)
 replace M := M.perm (perm_front _ 3 _ rfl)
 replace M := M.perm (perm_front _ 3 _ rfl)
 replace M := M.perm (perm_front _ 3 _ rfl)
 replace M := M.perm (perm_front _ 4 _ rfl)
 change Mem w0 G (.blk b [.int .u32 (0), .int .i32 (1), sv, .iface 196 (.pointer (some ⟨bq1, 0, none⟩)), .slice none (0) (0)] 177 :: _ :: _ :: _ :: _ :: _ :: L) _ at M
 exact ⟨_, M.weaken (.cons_cons _ (.cons_cons _ (.cons_cons _ (.cons_cons _ (.cons_cons _ (.cons _ (List.Sublist.refl _))))))), rfl, _, _, _, _, _, _, _, _, _, _, Tq1, hlq1, hv1q1, hBv1q1, hv2q1, hBv2q1, rfl⟩
theorem once_repF {w0 w : World} {G : Ghost} {L : List Res} {b : Nat} {ra : Option Addr} {rc : Nat} (M : Mem w0 G (.blk b [.int .u32 (0), .int .i32 (0), .int .u32 (0), .nilIface, .slice (ra) (4) (rc)] 177 :: .row (.slice (ra) (4) (rc)) (4) ([.string (str ([92] : List UInt8)), .string (str ([92, 92] : List UInt8)), .string (str ([34] : List UInt8)), .string (str ([92, 34] : List UInt8))]) 9 1 :: L) w) : Calls Tryz.prog 125 #[.pointer (some ⟨b, 0, none⟩), .func (.func 126) #[.pointer (some ⟨b, 0, none⟩)] #[]] w
  (RetL w0 G fun L' v => v = .tuple #[] ∧ ∃ bb cs ta tc b1 c1 o1 b2 c2 o2, TabIs cs [92, 34] ∧ cs[256]? = some (.slice ta 2 tc) ∧ cs[92]? = some (.slice (some ⟨b1, 0, none⟩) 2 c1) ∧ BytesAt o1 [92, 92] ∧ cs[34]? = some (.slice (some ⟨b2, 0, none⟩) 2 c2) ∧ BytesAt o2 [92, 34] ∧ L' = .blk b [.int .u32 1, .int .i32 0, .int .u32 0, .iface 196 (.pointer (some ⟨bb, 0, none⟩)), .slice none 0 0] 177 :: .blk bb cs 195 :: .row (.slice ta 2 tc) 2 [.string (str ([34] : List UInt8)), .string (str ([92] : List UInt8))] 9 1 :: .obj b1 o1 :: .obj b2 o2 :: L) := by
 refine (once_do (R := fun r_ o_ L_ => ∃ bb cs ta tc b1 c1 o1 b2 c2 o2, TabIs cs [92, 34] ∧ cs[256]? = some (.slice ta 2 tc) ∧ cs[92]? = some (.slice (some ⟨b1, 0, none⟩) 2 c1) ∧ BytesAt o1 [92, 92] ∧ cs[34]? = some (.slice (some ⟨b2, 0, none⟩) 2 c2) ∧ BytesAt o2 [92, 34] ∧ r_ = .iface 196 (.pointer (some ⟨bb, 0, none⟩)) ∧ o_ = .slice none 0 0 ∧ L_ = .blk bb cs 195 :: .row (.slice ta 2 tc) 2 [.string (str ([34] : List UInt8)), .string (str ([92] : List UInt8))] 9 1 :: .obj b1 o1 :: .obj b2 o2 :: L) M fun w1 M1 => (bonceF_spec M1).mono fun e w2 h => ?_).mono fun e w2 h => ?_
 ·cases e with
  | returned v => obtain ⟨L', M', rfl, bb, cs, ta, tc, b1, c1, o1, b2, c2, o2, h1, h2, h3, h4, h5, h6, rfl⟩ := h; exact ⟨rfl, _, _, _, ⟨bb, cs, ta, tc, b1, c1, o1, b2, c2, o2, h1, h2, h3, h4, h5, h6, rfl, rfl, rfl⟩, M'⟩
  | panicked c => exact h.elim
  | outgrown => exact h.elim
 ·cases e with
  | returned v => obtain ⟨L', M', rfl, r', o', L2, ⟨bb, cs, ta, tc, b1, c1, o1, b2, c2, o2, h1, h2, h3, h4, h5, h6, rfl, rfl, rfl⟩, rfl⟩ := h; exact ⟨_, M', rfl, bb, cs, ta, tc, b1, c1, o1, b2, c2, o2, h1, h2, h3, h4, h5, h6, rfl⟩
  | panicked c => exact h.elim
  | outgrown => exact h.elim
def trS : List (List UInt8) := [[34], [92]]
theorem trE {G : Ghost} : Els rdStr 1 G [.string (str ([34] : List UInt8)), .string (str ([92] : List UInt8))] trS := Els.cons (c := [_]) ⟨rfl, by decide⟩ rfl (Els.one ⟨rfl, by decide⟩ rfl)
theorem scount_spec {w0 w : World} {G : Ghost} {L : List Res} (M : Mem w0 G L w) {s : List UInt8} {c : UInt8} : Calls Tryz.prog 190 #[.string (str s), .string (str [c])] w (RetS w0 G L fun v => v = .int .i64 ((s.count c : Nat) : Int)) := by
 refine calls_start (vs := [_, _]) Tryz.func190 rfl (n := 34) rfl rfl ?_
 intro a F
 refine wp_seq <| w_reg <| rl_run F (run_assign (F.ev rfl)) rfl ?_; clear F a; intro a F
 refine rl_nil <| q_tn ?_
 iterate 2 (refine wp_seq ?_)
 refine w_reg <| rl_run F (run_move (F.ev rfl)) rfl ?_; clear F a; intro a F
 refine rl_run F (run_lenStr tok9.k (F.ev rfl)) rfl ?_; clear F a; intro a F
 refine rl_run F (run_eqi (F.ev rfl) (F.ev rfl)) rfl ?_; clear F a; intro a F
 refine rl_nil <| q_tn <| w_cond_f F rfl (decide_eq_false (by simp)) ?_
 refine wp_skip <| q_tn ?_
 iterate 2 (refine wp_seq ?_)
 refine w_reg <| rl_run F (run_move (F.ev rfl)) rfl ?_; clear F a; intro a F
 refine rl_run F (run_lenStr tok9.k (F.ev rfl)) rfl ?_; clear F a; intro a F
 refine rl_run F (run_eqi (F.ev rfl) (F.ev rfl)) rfl ?_; clear F a; intro a F
 refine rl_nil <| q_tn <| w_cond_t F rfl (decide_eq_true (by simp)) ?_
 refine wp_seq <| w_reg ?_
 iterate 2 (refine rl_run F (run_move (F.ev rfl)) rfl ?_; clear F a; intro a F)
 refine rl_run F (run_strIndex (i := 0) tok9.k (F.ev rfl) (F.ev rfl) (rfl : ([c] : List UInt8)[0]? = some c)) rfl ?_; clear F a; intro a F
 refine rl_run F (run_countStr (l := s) (c := c) Tryz.func192 (by kernel_rfl) (by kernel_rfl) (by kernel_rfl) (by kernel_rfl) (F.ev rfl) (F.ev rfl) (F.ev (x := .func 192) rfl)) rfl ?_; clear F a; intro a F
 refine rl_run F (run_assign (F.ev rfl)) rfl ?_; clear F a; intro a F
 refine rl_nil <| q_tn <| wp_ret <| q_tr <| fin1 F rfl rfl ?_
 exact ⟨M, rfl⟩
set_option maxHeartbeats 2000000 in
theorem brepF_spec {w0 w : World} {G : Ghost} {L : List Res} {bq : Nat} {csq : List Value} {taq : Option Addr} {tcq b1q c1q b2q c2q : Nat} {o1q o2q : Obj} (Tq : TabIs csq [92, 34]) (hlq : csq[256]? = some (.slice taq 2 tcq)) (hv1q : csq[92]? = some (.slice (some ⟨b1q, 0, none⟩) 2 c1q)) (hBv1q : BytesAt o1q [92, 92]) (hv2q : csq[34]? = some (.slice (some ⟨b2q, 0, none⟩) 2 c2q)) (hBv2q : BytesAt o2q [92, 34]) {s : List UInt8} (hs : s.length ≤ 70000) (M : Mem w0 G (.blk bq (csq) 195 :: .row (.slice (taq) (2) (tcq)) (2) ([.string (str ([34] : List UInt8)), .string (str ([92] : List UInt8))]) 9 1 :: .obj b1q o1q :: .obj b2q o2q :: L) w) :
  Calls Tryz.prog 188 #[.pointer (some ⟨bq, 0, none⟩), .string (str s)] w (RetS w0 G (.blk bq (csq) 195 :: .row (.slice (taq) (2) (tcq)) (2) ([.string (str ([34] : List UInt8)), .string (str ([92] : List UInt8))]) 9 1 :: .obj b1q o1q :: .obj b2q o2q :: L) fun v => v = .string (str (escF s))) := by
 refine calls_start (vs := [_, _]) Tryz.func188 rfl (n := 122) rfl rfl ?_
 intro a F
 refine wp_seq <| w_reg <| rl_run F (run_assign (F.ev rfl)) rfl ?_; clear F a; intro a F
 refine rl_nil <| q_tn <| wp_seq <| w_reg <| rl_run F (run_move (F.ev rfl)) rfl ?_; clear F a; intro a F
 refine rl_run F (run_lenStr tok9.k (F.ev rfl)) rfl ?_; clear F a; intro a F
 refine rl_run F (run_assign (F.ev rfl)) rfl ?_; clear F a; intro a F
 refine rl_nil <| q_tn <| wp_seq <| w_reg <| rl_run F (run_assign (F.ev rfl)) rfl ?_; clear F a; intro a F
 refine rl_nil <| q_tn ?_
 iterate 2 (refine wp_seq ?_)
 have hel9 := escF_le s
 refine w_reg <| rl_run F (run_move (F.ev rfl)) rfl ?_; clear F a; intro a F
 refine rl_run F (run_nilCheck (F.ev rfl)) rfl ?_; clear F a; intro a F
 refine rl_run F (run_fieldAddr tok195.k rfl rfl (F.ev rfl)) rfl ?_; clear F a; intro a F
 refine rl_run F (run_load1 (agf tok49 rfl) (F.ev rfl) (M.cellL (k := 0) rfl hlq)) rfl ?_; clear F a; intro a F
 refine rl_run F (run_lenSl tok49.k (F.ev rfl)) rfl ?_; clear F a; intro a F
 refine rl_run F (run_muli (F.ev rfl) (F.ev rfl) (in_i64 (by omega) (by omega))) rfl ?_; clear F a; intro a F
 refine rl_run F (run_move (F.ev rfl)) rfl ?_; clear F a; intro a F
 refine rl_run F (run_lenStr tok9.k (F.ev rfl)) rfl ?_; clear F a; intro a F
 refine rl_run F (run_leq (F.ev rfl) (F.ev rfl)) rfl ?_; clear F a; intro a F
 refine rl_nil <| q_tn <| w_cut (fun a' w' => ∃ (z : Nat), ∃ (ch : Bool), Fits 122 a' [(0, .pointer (some ⟨bq, 0, none⟩)), (1, .string (str (s))), (4, .string (str ([] : List UInt8))), (5, .int .i64 (((z : Nat) : Int))), (6, .bool (ch))] ∧ Mem w0 G (.blk bq (csq) 195 :: .row (.slice (taq) (2) (tcq)) (2) ([.string (str ([34] : List UInt8)), .string (str ([92] : List UInt8))]) 9 1 :: .obj b1q o1q :: .obj b2q o2q :: L) w' ∧ (z = (escF s).length) ∧ (ch = false → escF s = s)) ?_ ?_
 ·skip
  refine w_cond F rfl ?_ ?_
  ·intro hc
   have h1b := hc; clear hc
   have h1 : (16 : Int) ≤ (((s).length : Nat) : Int) := of_decide_eq_true h1b
   refine wp_seq <| w_reg <| rl_run F (run_move (F.ev rfl)) rfl ?_; clear F a; intro a F
   refine rl_run F (run_nilCheck (F.ev rfl)) rfl ?_; clear F a; intro a F
   refine rl_run F (run_fieldAddr tok195.k rfl rfl (F.ev rfl)) rfl ?_; clear F a; intro a F
   refine rl_run F (run_load1 (agf tok49 rfl) (F.ev rfl) (M.cellL (k := 0) rfl hlq)) rfl ?_; clear F a; intro a F
   refine rl_run F (run_lenSl tok49.k (F.ev rfl)) rfl ?_; clear F a; intro a F
   refine rl_run F (run_move (F.ev rfl)) rfl ?_; clear F a; intro a F
   refine rl_nil <| q_tn <| wp_block <| w_unroll 3 ?_
   refine wp_seq <| w_reg <| rl_run F (run_lss (F.ev rfl) (F.ev rfl)) rfl ?_; clear F a; intro a F
   refine rl_nil <| q_tn <| wp_seq <| w_cond_t F rfl (decide_eq_true (by decide)) ?_
   refine wp_skip <| q_tn <| wp_seq <| wp_block <| wp_seq <| w_reg ?_
   obtain ⟨be2, _, Ie2, hme2, _, Ae2, ⟨rfl, hsle2⟩⟩ := M.atRow (k := 1) rfl (by decide) trE (rfl : trS[0]? = some ([34] : List UInt8))
   refine rl_run F (run_indexI tok49.k tok9 (F.ev rfl) (F.ev rfl) (by omega) Ie2) rfl ?_; clear F a; intro a F
   refine rl_run F (run_load1 (agf tok9 rfl) (F.ev rfl) (cellE Ae2 0 (by omega) rfl)) rfl ?_; clear F a; intro a F
   refine rl_run F (run_assign (F.ev rfl)) rfl ?_; clear F a; intro a F
   refine rl_nil <| q_tn <| wp_seq <| w_reg ?_
   iterate 2 (refine rl_run F (run_move (F.ev rfl)) rfl ?_; clear F a; intro a F)
   refine rl_callS F ent190 rfl rfl (scount_spec (s := s) (c := 34) M) ?_; clear F M a; rintro _ w a M rfl F
   refine rl_run F (run_assign (F.ev rfl)) rfl ?_; clear F a; intro a F
   refine rl_nil <| q_tn <| wp_seq <| w_reg <| rl_run F (run_move (F.ev rfl)) rfl ?_; clear F a; intro a F
   refine rl_run F (run_nei (F.ev rfl) (F.ev rfl)) rfl ?_; clear F a; intro a F
   refine rl_nil <| q_tn <| w_cut (fun a' w' => ∃ (z3 : Nat), ∃ (q4 : Bool), Fits 122 a' [(0, .pointer (some ⟨bq, 0, none⟩)), (1, .string (str (s))), (4, .string (str ([] : List UInt8))), (30, .slice (taq) (2) (tcq)), (31, .int .i64 (((2 : Nat) : Int))), (32, .int .i64 (0)), (5, .int .i64 (((z3 : Nat) : Int))), (6, .bool (q4))] ∧ Mem w0 G (.blk bq (csq) 195 :: .row (.slice (taq) (2) (tcq)) (2) ([.string (str ([34] : List UInt8)), .string (str ([92] : List UInt8))]) 9 1 :: .obj b1q o1q :: .obj b2q o2q :: L) w' ∧ (z3 = (s).length + (s).count 34) ∧ (q4 = false → false = false ∧ (s).count 34 = 0)) ?_ ?_
   ·skip
    refine w_cond F rfl ?_ ?_
    ·intro hc
     have h5b := hc; clear hc
     have h5 : ¬ ((((s).count 34 : Nat) : Int) = 0) := of_decide_eq_false (of_not_t h5b)
     have h5c : (decide ((((s).count 34 : Nat) : Int) = 0)) = false := (of_not_t h5b)
     refine wp_seq ?_
     have hct9 := List.count_le_length (l := s) (a := (34 : UInt8))
     have hct8 := List.count_le_length (l := s) (a := (92 : UInt8))
     refine w_plan [(true, 0), (true, 1), (true, 2), (true, 3), (true, 4), (true, 5), (true, 6), (true, 7), (true, 8), (true, 9), (true, 10), (true, 11), (true, 12), (true, 13)] (Keep G [.blk bq (csq) 195]) rfl (by kernel_rfl) (fun c a d v w h => by cases d <;> exact h) ((M.drew _).keep (Gle.refl _) (by simp)) ?_
     replace M := M.drew (w.drawn + 1)
     iterate 4 (refine pl_run F (fun w M => run_move (F.ev rfl)) rfl ?_; clear F a; intro a F)
     refine pl_run F (fun w M => run_strIndex (i := 0) (b := (34 : UInt8)) tok9.k (F.ev rfl) (F.ev rfl) rfl) rfl ?_; clear F a; intro a F
     refine pl_run F (fun w M => run_nilCheck (F.ev rfl)) rfl ?_; clear F a; intro a F
     refine pl_run F (fun w M => run_fieldAddr tok195.k rfl rfl (F.ev rfl)) rfl ?_; clear F a; intro a F
     refine pl_run F (fun w M => run_idxPtr (j := 34) tok193.k tok22 rfl (F.ev rfl) (F.ev rfl) (by first | omega | rfl) (by decide)) rfl ?_; clear F a; intro a F
     refine pl_run F (fun w M => run_load1 (agf tok22 rfl) (F.ev rfl) (M.cellL (k := 0) rfl hv2q)) rfl ?_; clear F a; intro a F
     refine pl_run F (fun w M => run_lenSl tok22.k (F.ev rfl)) rfl ?_; clear F a; intro a F
     refine pl_run F (fun w M => run_subi (F.ev rfl) (F.ev rfl) (in_i64 (by omega) (by omega))) rfl ?_; clear F a; intro a F
     refine pl_run F (fun w M => run_muli (F.ev rfl) (F.ev rfl) (in_i64 (by omega) (by omega))) rfl ?_; clear F a; intro a F
     refine pl_run F (fun w M => run_addi (F.ev rfl) (F.ev rfl) (in_i64 (by omega) (by omega))) rfl ?_; clear F a; intro a F
     refine pl_run F (fun w M => run_assign (F.ev rfl)) rfl ?_; clear F a; intro a F
     refine pl_nil ?_
     generalize ({ w with drawn := w.drawn + 1 } : World) = w at M ⊢
     refine q_tn <| w_reg <| rl_run F (run_assign (F.ev rfl)) rfl ?_; clear F a; intro a F
     refine rl_nil ?_
     exact ⟨(((s).length) + (((s).count 34) * 1)), true, F.to ⟨rfl, rfl, rfl, rfl, rfl, rfl, rfl, rfl, trivial⟩, M, by omega, fun h9 => by simp at h9⟩
    ·intro hc
     have h6b := hc; clear hc
     have h6 : (((s).count 34 : Nat) : Int) = 0 := of_decide_eq_true (of_not_f h6b)
     have h6c : (decide ((((s).count 34 : Nat) : Int) = 0)) = true := (of_not_f h6b)
     refine wp_skip ?_
     exact ⟨((s).length), false, F.to ⟨rfl, rfl, rfl, rfl, rfl, rfl, rfl, rfl, trivial⟩, M, by omega, fun h9 => ⟨h9, by omega⟩⟩
   ·clear F M
    rintro a w ⟨z3, q4, F, M, hz3, hq4⟩
    refine q_bn <| q_tn <| w_reg <| rl_run F (run_addi (F.ev rfl) (F.ev rfl) (in_i64 (by omega) (by omega))) rfl ?_; clear F a; intro a F
    refine rl_run F (run_move (F.ev rfl)) rfl ?_; clear F a; intro a F
    refine rl_nil <| q_tn <| wp_seq <| w_reg <| rl_run F (run_lss (F.ev rfl) (F.ev rfl)) rfl ?_; clear F a; intro a F
    refine rl_nil <| q_tn <| wp_seq <| w_cond_t F rfl (decide_eq_true (by decide)) ?_
    refine wp_skip <| q_tn <| wp_seq <| wp_block <| wp_seq <| w_reg ?_
    obtain ⟨be7, _, Ie7, hme7, _, Ae7, ⟨rfl, hsle7⟩⟩ := M.atRow (k := 1) rfl (by decide) trE (rfl : trS[1]? = some ([92] : List UInt8))
    refine rl_run F (run_indexI tok49.k tok9 (F.ev rfl) (F.ev rfl) (by omega) Ie7) rfl ?_; clear F a; intro a F
    refine rl_run F (run_load1 (agf tok9 rfl) (F.ev rfl) (cellE Ae7 0 (by omega) rfl)) rfl ?_; clear F a; intro a F
    refine rl_run F (run_assign (F.ev rfl)) rfl ?_; clear F a; intro a F
    refine rl_nil <| q_tn <| wp_seq <| w_reg ?_
    iterate 2 (refine rl_run F (run_move (F.ev rfl)) rfl ?_; clear F a; intro a F)
    refine rl_callS F ent190 rfl rfl (scount_spec (s := s) (c := 92) M) ?_; clear F M a; rintro _ w a M rfl F
    refine rl_run F (run_assign (F.ev rfl)) rfl ?_; clear F a; intro a F
    refine rl_nil <| q_tn <| wp_seq <| w_reg <| rl_run F (run_move (F.ev rfl)) rfl ?_; clear F a; intro a F
    refine rl_run F (run_nei (F.ev rfl) (F.ev rfl)) rfl ?_; clear F a; intro a F
    refine rl_nil <| q_tn <| w_cut (fun a' w' => ∃ (z8 : Nat), ∃ (q9 : Bool), Fits 122 a' [(0, .pointer (some ⟨bq, 0, none⟩)), (1, .string (str (s))), (4, .string (str ([] : List UInt8))), (30, .slice (taq) (2) (tcq)), (31, .int .i64 (((2 : Nat) : Int))), (32, .int .i64 (1)), (5, .int .i64 (((z8 : Nat) : Int))), (6, .bool (q9))] ∧ Mem w0 G (.blk bq (csq) 195 :: .row (.slice (taq) (2) (tcq)) (2) ([.string (str ([34] : List UInt8)), .string (str ([92] : List UInt8))]) 9 1 :: .obj b1q o1q :: .obj b2q o2q :: L) w' ∧ (z8 = z3 + (s).count 92) ∧ (q9 = false → (q4) = false ∧ (s).count 92 = 0)) ?_ ?_
    ·skip
     refine w_cond F rfl ?_ ?_
     ·intro hc
      have h10b := hc; clear hc
      have h10 : ¬ ((((s).count 92 : Nat) : Int) = 0) := of_decide_eq_false (of_not_t h10b)
      have h10c : (decide ((((s).count 92 : Nat) : Int) = 0)) = false := (of_not_t h10b)
      refine wp_seq ?_
      have hct9 := List.count_le_length (l := s) (a := (34 : UInt8))
      have hct8 := List.count_le_length (l := s) (a := (92 : UInt8))
      refine w_plan [(true, 0), (true, 1), (true, 2), (true, 3), (true, 4), (true, 5), (true, 6), (true, 7), (true, 8), (true, 9), (true, 10), (true, 11), (true, 12), (true, 13)] (Keep G [.blk bq (csq) 195]) rfl (by kernel_rfl) (fun c a d v w h => by cases d <;> exact h) ((M.drew _).keep (Gle.refl _) (by simp)) ?_
      replace M := M.drew (w.drawn + 1)
      iterate 4 (refine pl_run F (fun w M => run_move (F.ev rfl)) rfl ?_; clear F a; intro a F)
      refine pl_run F (fun w M => run_strIndex (i := 0) (b := (92 : UInt8)) tok9.k (F.ev rfl) (F.ev rfl) rfl) rfl ?_; clear F a; intro a F
      refine pl_run F (fun w M => run_nilCheck (F.ev rfl)) rfl ?_; clear F a; intro a F
      refine pl_run F (fun w M => run_fieldAddr tok195.k rfl rfl (F.ev rfl)) rfl ?_; clear F a; intro a F
      refine pl_run F (fun w M => run_idxPtr (j := 92) tok193.k tok22 rfl (F.ev rfl) (F.ev rfl) (by first | omega | rfl) (by decide)) rfl ?_; clear F a; intro a F
      refine pl_run F (fun w M => run_load1 (agf tok22 rfl) (F.ev rfl) (M.cellL (k := 0) rfl hv1q)) rfl ?_; clear F a; intro a F
      refine pl_run F (fun w M => run_lenSl tok22.k (F.ev rfl)) rfl ?_; clear F a; intro a F
      refine pl_run F (fun w M => run_subi (F.ev rfl) (F.ev rfl) (in_i64 (by omega) (by omega))) rfl ?_; clear F a; intro a F
      refine pl_run F (fun w M => run_muli (F.ev rfl) (F.ev rfl) (in_i64 (by omega) (by omega))) rfl ?_; clear F a; intro a F
      refine pl_run F (fun w M => run_addi (F.ev rfl) (F.ev rfl) (in_i64 (by omega) (by omega))) rfl ?_; clear F a; intro a F
      refine pl_run F (fun w M => run_assign (F.ev rfl)) rfl ?_; clear F a; intro a F
      refine pl_nil ?_
      generalize ({ w with drawn := w.drawn + 1 } : World) = w at M ⊢
      refine q_tn <| w_reg <| rl_run F (run_assign (F.ev rfl)) rfl ?_; clear F a; intro a F
      refine rl_nil ?_
      exact ⟨(z3 + (((s).count 92) * 1)), true, F.to ⟨rfl, rfl, rfl, rfl, rfl, rfl, rfl, rfl, trivial⟩, M, by omega, fun h9 => by simp at h9⟩
     ·intro hc
      have h11b := hc; clear hc
      have h11 : (((s).count 92 : Nat) : Int) = 0 := of_decide_eq_true (of_not_f h11b)
      have h11c : (decide ((((s).count 92 : Nat) : Int) = 0)) = true := (of_not_f h11b)
      refine wp_skip ?_
      exact ⟨z3, (q4), F.to ⟨rfl, rfl, rfl, rfl, rfl, rfl, rfl, rfl, trivial⟩, M, by omega, fun h9 => ⟨h9, by omega⟩⟩
    ·clear F M
     rintro a w ⟨z8, q9, F, M, hz8, hq9⟩
     refine q_bn <| q_tn <| w_reg <| rl_run F (run_addi (F.ev rfl) (F.ev rfl) (in_i64 (by omega) (by omega))) rfl ?_; clear F a; intro a F
     refine rl_run F (run_move (F.ev rfl)) rfl ?_; clear F a; intro a F
     refine rl_nil <| q_tn <| wp_seq <| w_reg <| rl_run F (run_lss (F.ev rfl) (F.ev rfl)) rfl ?_; clear F a; intro a F
     refine rl_nil <| q_tn <| wp_seq <| w_cond_f F rfl (decide_eq_false (by decide)) ?_
     refine wp_exit ?_
     iterate 2 (refine q_te ?_)
     refine q_bh ?_
     exact ⟨z8, (q9), F.to ⟨rfl, rfl, rfl, rfl, rfl, trivial⟩, M, by rw [escF_len]; omega, (fun h9 => by have h8 := hq9 h9; have h7 := hq4 h8.1; exact escF_same h7.2 h8.2)⟩
  ·intro hc
   have h12b := hc; clear hc
   have h12 : ¬ ((16 : Int) ≤ (((s).length : Nat) : Int)) := of_decide_eq_false h12b
   refine wp_seq <| w_reg <| rl_run F (run_assign (F.ev rfl)) rfl ?_; clear F a; intro a F
   refine rl_nil <| q_tn <| wp_block <| w_loopN (fun m a' w' => ∃ (i : Nat), ∃ (z9 : Nat), ∃ (b9 : Bool), m = s.length - i ∧ Fits 122 a' [(0, .pointer (some ⟨bq, 0, none⟩)), (1, .string (str (s))), (4, .string (str ([] : List UInt8))), (5, .int .i64 (((z9 : Nat) : Int))), (6, .bool (b9)), (10, .int .i64 (((i : Nat) : Int)))] ∧ Mem w0 G (.blk bq (csq) 195 :: .row (.slice (taq) (2) (tcq)) (2) ([.string (str ([34] : List UInt8)), .string (str ([92] : List UInt8))]) 9 1 :: .obj b1q o1q :: .obj b2q o2q :: L) w' ∧ (i ≤ s.length) ∧ (z9 + i = s.length + (escF (s.take i)).length) ∧ (b9 = false → escF (s.take i) = s.take i)) _ ⟨0, s.length, false, rfl, F.to ⟨rfl, rfl, rfl, rfl, rfl, rfl, trivial⟩, M, Nat.zero_le _, rfl, fun _ => rfl⟩ ?_
   clear F M
   rintro m a w ⟨i, z9, b9, rfl, F, M, hi, hz9, hb9⟩
   iterate 2 (refine wp_seq ?_)
   refine w_reg ?_
   iterate 2 (refine rl_run F (run_move (F.ev rfl)) rfl ?_; clear F a; intro a F)
   refine rl_run F (run_lenStr tok9.k (F.ev rfl)) rfl ?_; clear F a; intro a F
   refine rl_run F (run_lss (F.ev rfl) (F.ev rfl)) rfl ?_; clear F a; intro a F
   refine rl_nil <| q_tn <| w_cond F rfl ?_ ?_
   ·intro hc
    have h13b := hc; clear hc
    have h13 : ((i : Nat) : Int) < (((s).length : Nat) : Int) := of_decide_eq_true h13b
    refine wp_skip <| q_tn <| wp_seq <| wp_block <| wp_seq <| w_reg ?_
    iterate 2 (refine rl_run F (run_move (F.ev rfl)) rfl ?_; clear F a; intro a F)
    obtain ⟨B14, hB14⟩ := get_of_lt (xs := (s)) (i := i) (by omega)
    have lB14 := nb_hi B14
    refine rl_run F (run_strIndex (i := i) tok9.k (F.ev rfl) (F.ev rfl) hB14) rfl ?_; clear F a; intro a F
    refine rl_run F (run_assign (F.ev rfl)) rfl ?_; clear F a; intro a F
    refine rl_nil <| q_tn <| wp_seq ?_
    rcases esc_cases B14 with hbk | hbk | hbk
    ·skip
     refine w_reg ?_
     iterate 2 (refine rl_run F (run_move (F.ev rfl)) rfl ?_; clear F a; intro a F)
     refine rl_run F (run_nilCheck (F.ev rfl)) rfl ?_; clear F a; intro a F
     refine rl_run F (run_fieldAddr tok195.k rfl rfl (F.ev rfl)) rfl ?_; clear F a; intro a F
     refine rl_run F (run_idxPtr (j := B14.toNat) tok193.k tok22 rfl (F.ev rfl) (F.ev rfl) rfl (by have := UInt8.toNat_lt B14; omega)) rfl ?_; clear F a; intro a F
     refine rl_run F (run_load1 (agf tok22 rfl) (F.ev rfl) (M.cellL (k := 0) rfl (by simp only [Nat.zero_add, hbk]; exact hv1q))) rfl ?_; clear F a; intro a F
     refine rl_run F (run_nenilS tok22.k (F.ev rfl) (F.ev rfl)) rfl ?_; clear F a; intro a F
     refine rl_nil <| q_tn <| w_cond_t F rfl rfl ?_
     refine wp_seq ?_
     have hat9 := escF_at hB14
     rw [escC_92 hbk] at hat9
     simp only [List.length_cons, List.length_nil] at hat9
     refine w_reg ?_
     iterate 3 (refine rl_run F (run_move (F.ev rfl)) rfl ?_; clear F a; intro a F)
     refine rl_run F (run_nilCheck (F.ev rfl)) rfl ?_; clear F a; intro a F
     refine rl_run F (run_fieldAddr tok195.k rfl rfl (F.ev rfl)) rfl ?_; clear F a; intro a F
     refine rl_run F (run_idxPtr (j := B14.toNat) tok193.k tok22 rfl (F.ev rfl) (F.ev rfl) rfl (by have := UInt8.toNat_lt B14; omega)) rfl ?_; clear F a; intro a F
     refine rl_run F (run_load1 (agf tok22 rfl) (F.ev rfl) (M.cellL (k := 0) rfl (by simp only [Nat.zero_add, hbk]; exact hv1q))) rfl ?_; clear F a; intro a F
     refine rl_run F (run_lenSl tok22.k (F.ev rfl)) rfl ?_; clear F a; intro a F
     refine rl_run F (run_subi (F.ev rfl) (F.ev rfl) (in_i64 (by omega) (by omega))) rfl ?_; clear F a; intro a F
     refine rl_run F (run_addi (F.ev rfl) (F.ev rfl) (in_i64 (by omega) (by omega))) rfl ?_; clear F a; intro a F
     refine rl_run F (run_assign (F.ev rfl)) rfl ?_; clear F a; intro a F
     refine rl_nil <| q_tn <| w_reg <| rl_run F (run_assign (F.ev rfl)) rfl ?_; clear F a; intro a F
     refine rl_nil <| q_bn <| q_tn <| w_reg <| rl_run F (run_move (F.ev rfl)) rfl ?_; clear F a; intro a F
     refine rl_run F (run_addi (F.ev rfl) (F.ev rfl) (in_i64 (by omega) (by omega))) rfl ?_; clear F a; intro a F
     refine rl_run F (run_assign (F.ev rfl)) rfl ?_; clear F a; intro a F
     refine rl_nil <| q_tn ?_
     exact ⟨_, by omega, i + 1, (z9 + 1), true, rfl, F.to ⟨rfl, rfl, rfl, rfl, rfl, rfl, trivial⟩, M, by omega, by rw [escF_snoc hB14, escC_92 hbk, List.length_append]; simp only [List.length_cons, List.length_nil]; omega, (fun h9 => by simp at h9)⟩
    ·skip
     refine w_reg ?_
     iterate 2 (refine rl_run F (run_move (F.ev rfl)) rfl ?_; clear F a; intro a F)
     refine rl_run F (run_nilCheck (F.ev rfl)) rfl ?_; clear F a; intro a F
     refine rl_run F (run_fieldAddr tok195.k rfl rfl (F.ev rfl)) rfl ?_; clear F a; intro a F
     refine rl_run F (run_idxPtr (j := B14.toNat) tok193.k tok22 rfl (F.ev rfl) (F.ev rfl) rfl (by have := UInt8.toNat_lt B14; omega)) rfl ?_; clear F a; intro a F
     refine rl_run F (run_load1 (agf tok22 rfl) (F.ev rfl) (M.cellL (k := 0) rfl (by simp only [Nat.zero_add, hbk]; exact hv2q))) rfl ?_; clear F a; intro a F
     refine rl_run F (run_nenilS tok22.k (F.ev rfl) (F.ev rfl)) rfl ?_; clear F a; intro a F
     refine rl_nil <| q_tn <| w_cond_t F rfl rfl ?_
     refine wp_seq ?_
     have hat9 := escF_at hB14
     rw [escC_34 hbk] at hat9
     simp only [List.length_cons, List.length_nil] at hat9
     refine w_reg ?_
     iterate 3 (refine rl_run F (run_move (F.ev rfl)) rfl ?_; clear F a; intro a F)
     refine rl_run F (run_nilCheck (F.ev rfl)) rfl ?_; clear F a; intro a F
     refine rl_run F (run_fieldAddr tok195.k rfl rfl (F.ev rfl)) rfl ?_; clear F a; intro a F
     refine rl_run F (run_idxPtr (j := B14.toNat) tok193.k tok22 rfl (F.ev rfl) (F.ev rfl) rfl (by have := UInt8.toNat_lt B14; omega)) rfl ?_; clear F a; intro a F
     refine rl_run F (run_load1 (agf tok22 rfl) (F.ev rfl) (M.cellL (k := 0) rfl (by simp only [Nat.zero_add, hbk]; exact hv2q))) rfl ?_; clear F a; intro a F
     refine rl_run F (run_lenSl tok22.k (F.ev rfl)) rfl ?_; clear F a; intro a F
     refine rl_run F (run_subi (F.ev rfl) (F.ev rfl) (in_i64 (by omega) (by omega))) rfl ?_; clear F a; intro a F
     refine rl_run F (run_addi (F.ev rfl) (F.ev rfl) (in_i64 (by omega) (by omega))) rfl ?_; clear F a; intro a F
     refine rl_run F (run_assign (F.ev rfl)) rfl ?_; clear F a; intro a F
     refine rl_nil <| q_tn <| w_reg <| rl_run F (run_assign (F.ev rfl)) rfl ?_; clear F a; intro a F
     refine rl_nil <| q_bn <| q_tn <| w_reg <| rl_run F (run_move (F.ev rfl)) rfl ?_; clear F a; intro a F
     refine rl_run F (run_addi (F.ev rfl) (F.ev rfl) (in_i64 (by omega) (by omega))) rfl ?_; clear F a; intro a F
     refine rl_run F (run_assign (F.ev rfl)) rfl ?_; clear F a; intro a F
     refine rl_nil <| q_tn ?_
     exact ⟨_, by omega, i + 1, (z9 + 1), true, rfl, F.to ⟨rfl, rfl, rfl, rfl, rfl, rfl, trivial⟩, M, by omega, by rw [escF_snoc hB14, escC_34 hbk, List.length_append]; simp only [List.length_cons, List.length_nil]; omega, (fun h9 => by simp at h9)⟩
    ·skip
     refine w_reg ?_
     iterate 2 (refine rl_run F (run_move (F.ev rfl)) rfl ?_; clear F a; intro a F)
     refine rl_run F (run_nilCheck (F.ev rfl)) rfl ?_; clear F a; intro a F
     refine rl_run F (run_fieldAddr tok195.k rfl rfl (F.ev rfl)) rfl ?_; clear F a; intro a F
     refine rl_run F (run_idxPtr (j := B14.toNat) tok193.k tok22 rfl (F.ev rfl) (F.ev rfl) rfl (by have := UInt8.toNat_lt B14; omega)) rfl ?_; clear F a; intro a F
     refine rl_run F (run_load1 (agf tok22 rfl) (F.ev rfl) (M.cellL (k := 0) rfl (by simp only [Nat.zero_add]; exact Tq.nil B14.toNat (by have := UInt8.toNat_lt B14; omega) hbk))) rfl ?_; clear F a; intro a F
     refine rl_run F (run_nenilS tok22.k (F.ev rfl) (F.ev rfl)) rfl ?_; clear F a; intro a F
     refine rl_nil <| q_tn <| w_cond_f F rfl rfl ?_
     refine wp_skip <| q_bn <| q_tn <| w_reg <| rl_run F (run_move (F.ev rfl)) rfl ?_; clear F a; intro a F
     refine rl_run F (run_addi (F.ev rfl) (F.ev rfl) (in_i64 (by omega) (by omega))) rfl ?_; clear F a; intro a F
     refine rl_run F (run_assign (F.ev rfl)) rfl ?_; clear F a; intro a F
     refine rl_nil <| q_tn ?_
     exact ⟨_, by omega, i + 1, z9, (b9), rfl, F.to ⟨rfl, rfl, rfl, rfl, rfl, rfl, trivial⟩, M, by omega, by rw [escF_snoc hB14, escC_no hbk, List.length_append]; simp only [List.length_cons, List.length_nil]; omega, (fun h9 => by rw [escF_snoc hB14, escC_no hbk, hb9 h9, Tr.take_snoc' hB14])⟩
   ·intro hc
    have h15b := hc; clear hc
    have h15 : ¬ (((i : Nat) : Int) < (((s).length : Nat) : Int)) := of_decide_eq_false h15b
    refine wp_exit ?_
    iterate 2 (refine q_te ?_)
    refine q_bh ?_
    exact ⟨z9, (b9), F.to ⟨rfl, rfl, rfl, rfl, rfl, trivial⟩, M, by have h9 := hz9; rw [escF_all (by omega)] at h9; omega, (fun h9 => by have h8 := hb9 h9; rw [escF_all (by omega)] at h8; exact h8)⟩
 ·clear F M
  rintro a w ⟨z, ch, F, M, hz, hch⟩
  refine q_tn ?_
  iterate 2 (refine wp_seq ?_)
  refine w_reg <| rl_run F (run_move (F.ev rfl)) rfl ?_; clear F a; intro a F
  refine rl_run F (run_not (F.ev rfl)) rfl ?_; clear F a; intro a F
  refine rl_nil <| q_tn <| w_cond F rfl ?_ ?_
  ·intro hc
   have h16b := hc; clear hc
   have h16 : (ch) = false := (of_not_t h16b)
   have h16c : (ch) = false := (of_not_t h16b)
   refine wp_seq <| w_reg <| rl_run F (run_move (F.ev rfl)) rfl ?_; clear F a; intro a F
   refine rl_run F (run_assign (F.ev rfl)) rfl ?_; clear F a; intro a F
   refine rl_nil <| q_tn <| wp_ret <| q_tr <| fin1 F rfl rfl ?_
   exact ⟨M.weaken (.cons_cons _ (.cons_cons _ (.cons_cons _ (.cons_cons _ (List.Sublist.refl _))))), by rw [hch (by assumption)]⟩
  ·intro hc
   have h17b := hc; clear hc
   have h17 : (ch) = true := (of_not_f h17b)
   have h17c : (ch) = true := (of_not_f h17b)
   refine wp_skip <| q_tn <| wp_seq <| w_reg <| rl_run F (run_move (F.ev rfl)) rfl ?_; clear F a; intro a F
   refine rl_makeE (rd := rdB) (Z := 0) F M tok22.k tok5 rfl (by decide) rfl rfl (l := z) (by omega) rfl (by omega) (by show 1 * _ ≤ _; omega) (by omega) (by simp [ti5, Value.cells, Value.oneCell']) (rfl) rfl ?_; clear F M a; intro bv18 csv18 w a M Ev18 F
   refine rl_run F (run_assign (F.ev rfl)) rfl ?_; clear F a; intro a F
   refine rl_nil <| q_tn <| wp_seq ?_
   have hcs0 := Els_bc_eq Ev18; subst hcs0
   refine w_reg <| rl_run F (run_assign (F.ev rfl)) rfl ?_; clear F a; intro a F
   refine rl_nil <| q_tn ?_
   iterate 2 (refine wp_seq ?_)
   refine w_reg <| rl_run F (run_assign (F.ev rfl)) rfl ?_; clear F a; intro a F
   refine rl_nil <| q_tn <| wp_block <| w_loopN (fun m a' w' => ∃ (i : Nat), ∃ (j9 : Nat), ∃ (xb : List UInt8), m = s.length - i ∧ Fits 122 a' [(0, .pointer (some ⟨bq, 0, none⟩)), (1, .string (str (s))), (4, .string (str ([] : List UInt8))), (12, .slice (some ⟨bv18, 0, none⟩) (z) (z)), (13, .int .i64 (((j9 : Nat) : Int))), (14, .int .i64 (((i : Nat) : Int)))] ∧ Mem w0 G (.row (.slice (some ⟨bv18, 0, none⟩) (z) (z)) (z) (bc (xb)) 5 1 :: .blk bq (csq) 195 :: .row (.slice (taq) (2) (tcq)) (2) ([.string (str ([34] : List UInt8)), .string (str ([92] : List UInt8))]) 9 1 :: .obj b1q o1q :: .obj b2q o2q :: L) w' ∧ (i ≤ s.length) ∧ (j9 = (escF (s.take i)).length) ∧ (xb = escF (s.take i) ++ List.replicate (z - j9) 0)) _ ⟨0, 0, _, rfl, F.to ⟨rfl, rfl, rfl, rfl, rfl, rfl, trivial⟩, M, Nat.zero_le _, rfl, rfl⟩ ?_
   clear F M
   rintro m a w ⟨i, j9, xb, rfl, F, M, hi, hj9, hxb⟩
   iterate 2 (refine wp_seq ?_)
   refine w_reg ?_
   iterate 2 (refine rl_run F (run_move (F.ev rfl)) rfl ?_; clear F a; intro a F)
   refine rl_run F (run_lenStr tok9.k (F.ev rfl)) rfl ?_; clear F a; intro a F
   refine rl_run F (run_lss (F.ev rfl) (F.ev rfl)) rfl ?_; clear F a; intro a F
   refine rl_nil <| q_tn <| w_cond F rfl ?_ ?_
   ·intro hc
    have h19b := hc; clear hc
    have h19 : ((i : Nat) : Int) < (((s).length : Nat) : Int) := of_decide_eq_true h19b
    refine wp_skip <| q_tn <| wp_seq <| wp_block <| wp_seq <| w_reg ?_
    iterate 2 (refine rl_run F (run_move (F.ev rfl)) rfl ?_; clear F a; intro a F)
    obtain ⟨B20, hB20⟩ := get_of_lt (xs := (s)) (i := i) (by omega)
    have lB20 := nb_hi B20
    refine rl_run F (run_strIndex (i := i) tok9.k (F.ev rfl) (F.ev rfl) hB20) rfl ?_; clear F a; intro a F
    refine rl_run F (run_assign (F.ev rfl)) rfl ?_; clear F a; intro a F
    refine rl_nil <| q_tn <| wp_seq ?_
    rcases esc_cases B20 with hbk | hbk | hbk
    ·skip
     refine w_reg ?_
     iterate 2 (refine rl_run F (run_move (F.ev rfl)) rfl ?_; clear F a; intro a F)
     refine rl_run F (run_nilCheck (F.ev rfl)) rfl ?_; clear F a; intro a F
     refine rl_run F (run_fieldAddr tok195.k rfl rfl (F.ev rfl)) rfl ?_; clear F a; intro a F
     refine rl_run F (run_idxPtr (j := B20.toNat) tok193.k tok22 rfl (F.ev rfl) (F.ev rfl) rfl (by have := UInt8.toNat_lt B20; omega)) rfl ?_; clear F a; intro a F
     refine rl_run F (run_load1 (agf tok22 rfl) (F.ev rfl) (M.cellL (k := 1) rfl (by simp only [Nat.zero_add, hbk]; exact hv1q))) rfl ?_; clear F a; intro a F
     refine rl_run F (run_nenilS tok22.k (F.ev rfl) (F.ev rfl)) rfl ?_; clear F a; intro a F
     refine rl_nil <| q_tn <| w_cond_t F rfl rfl ?_
     have hat9 := escF_at hB20
     rw [escC_92 hbk] at hat9
     simp only [List.length_cons, List.length_nil] at hat9
     have hxl : xb.length = z := by rw [hxb]; simp only [List.length_append, List.length_replicate]; omega
     refine w_plan [(true, 0), (true, 1), (true, 2), (true, 3), (true, 4), (true, 5), (true, 6), (true, 7), (true, 8), (true, 9), (false, 10), (true, 11), (true, 12)] (Keep G [.blk bq (csq) 195]) rfl (by kernel_rfl) (fun c a d v w h => by cases d <;> exact h) ((M.drew _).keep (Gle.refl _) (by simp)) ?_
     replace M := M.drew (w.drawn + 1)
     iterate 3 (refine pl_run F (fun w M => run_move (F.ev rfl)) rfl ?_; clear F a; intro a F)
     refine pl_run F (fun w M => run_sliceRowL (l := j9) tok22.k tok5 rfl (F.ev rfl) (F.ev rfl) rfl (by omega) (Nat.le_refl _)) rfl ?_; clear F a; intro a F
     iterate 2 (refine pl_run F (fun w M => run_move (F.ev rfl)) rfl ?_; clear F a; intro a F)
     refine pl_run F (fun w M => run_nilCheck (F.ev rfl)) rfl ?_; clear F a; intro a F
     refine pl_run F (fun w M => run_fieldAddr tok195.k rfl rfl (F.ev rfl)) rfl ?_; clear F a; intro a F
     refine pl_run F (fun w M => run_idxPtr (j := B20.toNat) tok193.k tok22 rfl (F.ev rfl) (F.ev rfl) rfl (by have := UInt8.toNat_lt B20; omega)) rfl ?_; clear F a; intro a F
     refine pl_run F (fun w M => run_load1 (agf tok22 rfl) (F.ev rfl) (M.cellL (k := 0) rfl (by simp only [Nat.zero_add, hbk]; exact hv1q))) rfl ?_; clear F a; intro a F
     refine pl_act ?_ rfl
     refine rl_copyB (l := [92, 92]) (q := 2) F M (k := 0) (ks := 3) rfl rfl hBv1q tok22.k tok5 rfl rfl rfl rfl (by show j9 + 2 ≤ z; omega) rfl ?_; clear F M a; intro w a M F
     refine rl_nil <| ⟨Keep G [.blk bq (csq) 195], M.keep (Gle.refl _) (by simp), fun w h => h.mono (Gle.refl _) (by simp), ?_⟩
     refine pl_run F (fun w M => run_addi (F.ev rfl) (F.ev rfl) (in_i64 (by omega) (by omega))) rfl ?_; clear F a; intro a F
     refine pl_run F (fun w M => run_assign (F.ev rfl)) rfl ?_; clear F a; intro a F
     refine pl_nil <| q_bn <| q_tn <| w_reg <| rl_run F (run_move (F.ev rfl)) rfl ?_; clear F a; intro a F
     refine rl_run F (run_addi (F.ev rfl) (F.ev rfl) (in_i64 (by omega) (by omega))) rfl ?_; clear F a; intro a F
     refine rl_run F (run_assign (F.ev rfl)) rfl ?_; clear F a; intro a F
     refine rl_nil <| q_tn ?_
     exact ⟨_, by omega, i + 1, (j9 + 2), _, rfl, F.to ⟨rfl, rfl, rfl, rfl, rfl, rfl, trivial⟩, M, by omega, by rw [escF_snoc hB20, escC_92 hbk, List.length_append]; simp only [List.length_cons, List.length_nil]; omega, by rw [hxb, escF_snoc hB20, escC_92 hbk]; refine ((fill_copy hj9)).trans ?_; simp only [List.length_cons, List.length_nil, Nat.sub_sub]⟩
    ·skip
     refine w_reg ?_
     iterate 2 (refine rl_run F (run_move (F.ev rfl)) rfl ?_; clear F a; intro a F)
     refine rl_run F (run_nilCheck (F.ev rfl)) rfl ?_; clear F a; intro a F
     refine rl_run F (run_fieldAddr tok195.k rfl rfl (F.ev rfl)) rfl ?_; clear F a; intro a F
     refine rl_run F (run_idxPtr (j := B20.toNat) tok193.k tok22 rfl (F.ev rfl) (F.ev rfl) rfl (by have := UInt8.toNat_lt B20; omega)) rfl ?_; clear F a; intro a F
     refine rl_run F (run_load1 (agf tok22 rfl) (F.ev rfl) (M.cellL (k := 1) rfl (by simp only [Nat.zero_add, hbk]; exact hv2q))) rfl ?_; clear F a; intro a F
     refine rl_run F (run_nenilS tok22.k (F.ev rfl) (F.ev rfl)) rfl ?_; clear F a; intro a F
     refine rl_nil <| q_tn <| w_cond_t F rfl rfl ?_
     have hat9 := escF_at hB20
     rw [escC_34 hbk] at hat9
     simp only [List.length_cons, List.length_nil] at hat9
     have hxl : xb.length = z := by rw [hxb]; simp only [List.length_append, List.length_replicate]; omega
     refine w_plan [(true, 0), (true, 1), (true, 2), (true, 3), (true, 4), (true, 5), (true, 6), (true, 7), (true, 8), (true, 9), (false, 10), (true, 11), (true, 12)] (Keep G [.blk bq (csq) 195]) rfl (by kernel_rfl) (fun c a d v w h => by cases d <;> exact h) ((M.drew _).keep (Gle.refl _) (by simp)) ?_
     replace M := M.drew (w.drawn + 1)
     iterate 3 (refine pl_run F (fun w M => run_move (F.ev rfl)) rfl ?_; clear F a; intro a F)
     refine pl_run F (fun w M => run_sliceRowL (l := j9) tok22.k tok5 rfl (F.ev rfl) (F.ev rfl) rfl (by omega) (Nat.le_refl _)) rfl ?_; clear F a; intro a F
     iterate 2 (refine pl_run F (fun w M => run_move (F.ev rfl)) rfl ?_; clear F a; intro a F)
     refine pl_run F (fun w M => run_nilCheck (F.ev rfl)) rfl ?_; clear F a; intro a F
     refine pl_run F (fun w M => run_fieldAddr tok195.k rfl rfl (F.ev rfl)) rfl ?_; clear F a; intro a F
     refine pl_run F (fun w M => run_idxPtr (j := B20.toNat) tok193.k tok22 rfl (F.ev rfl) (F.ev rfl) rfl (by have := UInt8.toNat_lt B20; omega)) rfl ?_; clear F a; intro a F
     refine pl_run F (fun w M => run_load1 (agf tok22 rfl) (F.ev rfl) (M.cellL (k := 0) rfl (by simp only [Nat.zero_add, hbk]; exact hv2q))) rfl ?_; clear F a; intro a F
     refine pl_act ?_ rfl
     refine rl_copyB (l := [92, 34]) (q := 2) F M (k := 0) (ks := 4) rfl rfl hBv2q tok22.k tok5 rfl rfl rfl rfl (by show j9 + 2 ≤ z; omega) rfl ?_; clear F M a; intro w a M F
     refine rl_nil <| ⟨Keep G [.blk bq (csq) 195], M.keep (Gle.refl _) (by simp), fun w h => h.mono (Gle.refl _) (by simp), ?_⟩
     refine pl_run F (fun w M => run_addi (F.ev rfl) (F.ev rfl) (in_i64 (by omega) (by omega))) rfl ?_; clear F a; intro a F
     refine pl_run F (fun w M => run_assign (F.ev rfl)) rfl ?_; clear F a; intro a F
     refine pl_nil <| q_bn <| q_tn <| w_reg <| rl_run F (run_move (F.ev rfl)) rfl ?_; clear F a; intro a F
     refine rl_run F (run_addi (F.ev rfl) (F.ev rfl) (in_i64 (by omega) (by omega))) rfl ?_; clear F a; intro a F
     refine rl_run F (run_assign (F.ev rfl)) rfl ?_; clear F a; intro a F
     refine rl_nil <| q_tn ?_
     exact ⟨_, by omega, i + 1, (j9 + 2), _, rfl, F.to ⟨rfl, rfl, rfl, rfl, rfl, rfl, trivial⟩, M, by omega, by rw [escF_snoc hB20, escC_34 hbk, List.length_append]; simp only [List.length_cons, List.length_nil]; omega, by rw [hxb, escF_snoc hB20, escC_34 hbk]; refine ((fill_copy hj9)).trans ?_; simp only [List.length_cons, List.length_nil, Nat.sub_sub]⟩
    ·skip
     refine w_reg ?_
     iterate 2 (refine rl_run F (run_move (F.ev rfl)) rfl ?_; clear F a; intro a F)
     refine rl_run F (run_nilCheck (F.ev rfl)) rfl ?_; clear F a; intro a F
     refine rl_run F (run_fieldAddr tok195.k rfl rfl (F.ev rfl)) rfl ?_; clear F a; intro a F
     refine rl_run F (run_idxPtr (j := B20.toNat) tok193.k tok22 rfl (F.ev rfl) (F.ev rfl) rfl (by have := UInt8.toNat_lt B20; omega)) rfl ?_; clear F a; intro a F
     refine rl_run F (run_load1 (agf tok22 rfl) (F.ev rfl) (M.cellL (k := 1) rfl (by simp only [Nat.zero_add]; exact Tq.nil B20.toNat (by have := UInt8.toNat_lt B20; omega) hbk))) rfl ?_; clear F a; intro a F
     refine rl_run F (run_nenilS tok22.k (F.ev rfl) (F.ev rfl)) rfl ?_; clear F a; intro a F
     refine rl_nil <| q_tn <| w_cond_f F rfl rfl ?_
     refine wp_seq ?_
     have hat9 := escF_at hB20
     rw [escC_no hbk] at hat9
     simp only [List.length_cons, List.length_nil] at hat9
     have hxl : xb.length = z := by rw [hxb]; simp only [List.length_append, List.length_replicate]; omega
     refine w_reg ?_
     iterate 3 (refine rl_run F (run_move (F.ev rfl)) rfl ?_; clear F a; intro a F)
     obtain ⟨Xe21, hXe21⟩ := get_of_lt (xs := xb) (i := j9) (by omega)
     obtain ⟨be21, _, Ie21, hme21, _, Ae21, rfl⟩ := M.atRow (k := 0) rfl (by decide) (Els_bc (xb)) hXe21
     refine rl_run F (run_indexI tok22.k tok5 (F.ev rfl) (F.ev rfl) (by omega) Ie21) rfl ?_; clear F a; intro a F
     refine rl_storeElF F M tok5 rfl (k := 0) rfl (Els_bc (xb)) Ie21 hXe21 (f := 0) (by decide) rfl (by omega) rfl rfl (X' := B20) (by intro ch hc hr; subst hr; rfl) ?_; clear F M a; intro csu22 w a M Eu22 F
     refine rl_nil <| q_tn ?_
     have hcs0 := Els_bc_eq Eu22; subst hcs0
     refine w_reg <| rl_run F (run_move (F.ev rfl)) rfl ?_; clear F a; intro a F
     refine rl_run F (run_addi (F.ev rfl) (F.ev rfl) (in_i64 (by omega) (by omega))) rfl ?_; clear F a; intro a F
     refine rl_run F (run_assign (F.ev rfl)) rfl ?_; clear F a; intro a F
     refine rl_nil <| q_bn <| q_tn <| w_reg <| rl_run F (run_move (F.ev rfl)) rfl ?_; clear F a; intro a F
     refine rl_run F (run_addi (F.ev rfl) (F.ev rfl) (in_i64 (by omega) (by omega))) rfl ?_; clear F a; intro a F
     refine rl_run F (run_assign (F.ev rfl)) rfl ?_; clear F a; intro a F
     refine rl_nil <| q_tn ?_
     exact ⟨_, by omega, i + 1, (j9 + 1), _, rfl, F.to ⟨rfl, rfl, rfl, rfl, rfl, rfl, trivial⟩, M, by omega, by rw [escF_snoc hB20, escC_no hbk, List.length_append]; simp only [List.length_cons, List.length_nil]; omega, by rw [hxb, escF_snoc hB20, escC_no hbk]; refine ((fill_set hj9 (by omega))).trans ?_; simp only [List.length_cons, List.length_nil, Nat.sub_sub]⟩
   ·intro hc
    have h23b := hc; clear hc
    have h23 : ¬ (((i : Nat) : Int) < (((s).length : Nat) : Int)) := of_decide_eq_false h23b
    refine wp_exit ?_
    iterate 2 (refine q_te ?_)
    refine q_bh <| q_tn <| wp_seq <| w_reg <| rl_run F (run_move (F.ev rfl)) rfl ?_; clear F a; intro a F
    refine rl_run F (run_strOfRow M (k := 0) rfl (by rw [hxb]; simp only [List.length_append, List.length_replicate]; rw [escF_all (by omega)] at hj9 ⊢; omega) tok22.k tok5.k tok9.k (F.ev rfl)) rfl ?_; clear F a; intro a F
    refine rl_run F (run_assign (F.ev rfl)) rfl ?_; clear F a; intro a F
    refine rl_nil <| q_tn <| wp_ret <| fin1 F rfl rfl ?_
    rw [escF_all (by omega)] at hxb hj9
    rw [show z - j9 = 0 by omega, List.replicate_zero, List.append_nil] at hxb
    exact ⟨M.weaken (.cons _ (.cons_cons _ (.cons_cons _ (.cons_cons _ (.cons_cons _ (List.Sublist.refl _)))))), by rw [hxb]⟩
end Go.Proofs.YtlnehkjmmegkhaaGreat
