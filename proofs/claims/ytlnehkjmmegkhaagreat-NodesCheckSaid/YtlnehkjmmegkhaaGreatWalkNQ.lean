/- The walks, part NQ. -/
import Derived.Test.YtlnehkjmmegkhaaGreatWalkNT
import Derived.Test.YtlnehkjmmegkhaaGreatPar
namespace Go.Proofs.YtlnehkjmmegkhaaGreat
open Go Go.Y Go.Proofs
set_option linter.unusedSimpArgs false
set_option linter.unusedVariables false
def WeighN (x : NT) : Prop := ∀ (w0 w : World) (G : Ghost) (L : List Res) (ta ka : Option Addr) (tc kc lev : Nat), Mem w0 G L w → inKind .u8 x.kind → (x.tag.length ≤ 9223372036854775807 ∧ x.key.length ≤ 9223372036854775807 ∧ x.text.length ≤ 9223372036854775807) → RdSl rdAttr 2 G (.slice ta x.as.length tc) x.as → RdSl rdN 6 G (.slice ka x.kids.length kc) x.kids → lev ≤ 8 →
  Calls Tryz.prog 47 #[.agg #[.int .u8 (x.kind), .string (str (x.tag)), .string (str (x.key)), .slice (ta) (x.as.length) (tc), .string (str (x.text)), .slice (ka) (x.kids.length) (kc)], .int .i64 (lev : Int)] w (RetS w0 G L fun v => ∃ r : Nat, v = .int .i64 (r : Int) ∧ r ≤ 151 + 150 * lev)
def DepthN (x : NT) : Prop := ∀ (w0 w : World) (G : Ghost) (L : List Res) (ta ka : Option Addr) (tc kc : Nat), Mem w0 G L w → inKind .u8 x.kind → (x.tag.length ≤ 9223372036854775807 ∧ x.key.length ≤ 9223372036854775807 ∧ x.text.length ≤ 9223372036854775807) → RdSl rdAttr 2 G (.slice ta x.as.length tc) x.as → RdSl rdN 6 G (.slice ka x.kids.length kc) x.kids → x.depth ≤ 1000000 →
  Calls Tryz.prog 51 #[.agg #[.int .u8 (x.kind), .string (str (x.tag)), .string (str (x.key)), .slice (ta) (x.as.length) (tc), .string (str (x.text)), .slice (ka) (x.kids.length) (kc)]] w (RetS w0 G L fun v => v = .int .i64 ((x.depth : Nat) : Int))
theorem weighN_step {x : NT} (ih : ∀ y ∈ x.kids, WeighN y) {w0 w : World} {G : Ghost} {L : List Res} (M : Mem w0 G L w) {ta : Option Addr} {tc : Nat} {ka : Option Addr} {kc : Nat} (hk : inKind .u8 x.kind) (hl : (x.tag.length ≤ 9223372036854775807 ∧ x.key.length ≤ 9223372036854775807 ∧ x.text.length ≤ 9223372036854775807)) (SA : RdSl rdAttr 2 G (.slice ta x.as.length tc) x.as) (SK : RdSl rdN 6 G (.slice ka x.kids.length kc) x.kids) {lev : Nat} (hlev : lev ≤ 8) : Calls Tryz.prog 47 #[.agg #[.int .u8 (x.kind), .string (str (x.tag)), .string (str (x.key)), .slice (ta) (x.as.length) (tc), .string (str (x.text)), .slice (ka) (x.kids.length) (kc)], .int .i64 (lev : Int)] w (RetS w0 G L fun v => ∃ r : Nat, v = .int .i64 (r : Int) ∧ r ≤ 151 + 150 * lev) := by
 refine calls_start (vs := [_, _]) Tryz.func47 rfl (n := 43) rfl rfl ?_
 intro a F
 refine wp_seq <| w_reg <| rl_box F M rfl (cs := [.int .u8 (x.kind), .string (str (x.tag)), .string (str (x.key)), .slice (ta) (x.as.length) (tc), .string (str (x.text)), .slice (ka) (x.kids.length) (kc)]) rfl rfl ?_; clear F M a; intro b1 w a M F
 refine rl_run F (run_assign (F.ev rfl)) rfl ?_; clear F a; intro a F
 refine rl_nil <| q_tn ?_
 iterate 2 (refine wp_seq ?_)
 refine w_reg <| rl_run F (run_move (F.ev rfl)) rfl ?_; clear F a; intro a F
 refine rl_run F (run_eqi (F.ev rfl) (F.ev rfl)) rfl ?_; clear F a; intro a F
 refine rl_run F (run_move (F.ev rfl)) rfl ?_; clear F a; intro a F
 rcases Bool.eq_false_or_eq_true (decide ((lev : Int) = 0)) with hc | hc
 ·skip
  have h2b := hc; clear hc
  have h2 : (lev : Int) = 0 := of_decide_eq_true h2b
  iterate 4 (refine rl_guard_f F rfl rfl rfl h2b ?_; clear F a; intro a F)
  refine rl_run F (run_pick_t (F.ev rfl) h2b (F.ev rfl)) rfl ?_; clear F a; intro a F
  refine rl_run F (run_move (F.ev rfl)) rfl ?_; clear F a; intro a F
  iterate 4 (refine rl_guard_f F rfl rfl rfl rfl ?_; clear F a; intro a F)
  refine rl_run F (run_pick_t (F.ev rfl) rfl (F.ev rfl)) rfl ?_; clear F a; intro a F
  refine rl_nil <| q_tn <| w_cond_t F rfl rfl ?_
  refine wp_seq <| w_reg <| rl_run F (run_assign (F.ev rfl)) rfl ?_; clear F a; intro a F
  refine rl_nil <| q_tn <| wp_ret <| q_tr <| fin1 F rfl rfl ?_
  exact ⟨M.weaken (.cons _ (List.Sublist.refl _)), 151, rfl, by omega⟩
 ·skip
  have h3b := hc; clear hc
  have h3 : ¬ ((lev : Int) = 0) := of_decide_eq_false h3b
  refine rl_guard_t F rfl rfl rfl h3b ?_
  refine rl_run F (run_fieldAddr tok30.k rfl rfl (F.ev rfl)) rfl ?_; clear F a; intro a F
  refine rl_guard_t F rfl rfl rfl h3b ?_
  refine rl_run F (run_load1 (agf tok28 rfl) (F.ev rfl) (M.cellL (k := 0) rfl rfl)) rfl ?_; clear F a; intro a F
  refine rl_guard_t F rfl rfl rfl h3b ?_
  refine rl_run F (run_lenSl tok28.k (F.ev rfl)) rfl ?_; clear F a; intro a F
  refine rl_guard_t F rfl rfl rfl h3b ?_
  refine rl_run F (run_gtr (F.ev rfl) (F.ev rfl)) rfl ?_; clear F a; intro a F
  refine rl_run F (run_pick_f (F.ev rfl) h3b (F.ev rfl)) rfl ?_; clear F a; intro a F
  refine rl_run F (run_move (F.ev rfl)) rfl ?_; clear F a; intro a F
  rcases Bool.eq_false_or_eq_true (decide (20 < ((x.kids.length : Nat) : Int))) with hc | hc
  ·skip
   have h4b := hc; clear hc
   have h4 : 20 < ((x.kids.length : Nat) : Int) := of_decide_eq_true h4b
   iterate 4 (refine rl_guard_f F rfl rfl rfl h4b ?_; clear F a; intro a F)
   refine rl_run F (run_pick_t (F.ev rfl) h4b (F.ev rfl)) rfl ?_; clear F a; intro a F
   refine rl_nil <| q_tn <| w_cond_t F rfl rfl ?_
   refine wp_seq <| w_reg <| rl_run F (run_assign (F.ev rfl)) rfl ?_; clear F a; intro a F
   refine rl_nil <| q_tn <| wp_ret <| q_tr <| fin1 F rfl rfl ?_
   exact ⟨M.weaken (.cons _ (List.Sublist.refl _)), 151, rfl, by omega⟩
  ·skip
   have h5b := hc; clear hc
   have h5 : ¬ (20 < ((x.kids.length : Nat) : Int)) := of_decide_eq_false h5b
   refine rl_guard_t F rfl rfl rfl h5b ?_
   refine rl_run F (run_fieldAddr tok30.k rfl rfl (F.ev rfl)) rfl ?_; clear F a; intro a F
   refine rl_guard_t F rfl rfl rfl h5b ?_
   refine rl_run F (run_load1 (agf tok27 rfl) (F.ev rfl) (M.cellL (k := 0) rfl rfl)) rfl ?_; clear F a; intro a F
   refine rl_guard_t F rfl rfl rfl h5b ?_
   refine rl_run F (run_lenSl tok27.k (F.ev rfl)) rfl ?_; clear F a; intro a F
   refine rl_guard_t F rfl rfl rfl h5b ?_
   refine rl_run F (run_gtr (F.ev rfl) (F.ev rfl)) rfl ?_; clear F a; intro a F
   refine rl_run F (run_pick_f (F.ev rfl) h5b (F.ev rfl)) rfl ?_; clear F a; intro a F
   refine rl_nil <| q_tn <| w_cond F rfl ?_ ?_
   ·intro hc
    have h6b := hc; clear hc
    have h6 : 20 < ((x.as.length : Nat) : Int) := of_decide_eq_true h6b
    refine wp_seq <| w_reg <| rl_run F (run_assign (F.ev rfl)) rfl ?_; clear F a; intro a F
    refine rl_nil <| q_tn <| wp_ret <| q_tr <| fin1 F rfl rfl ?_
    exact ⟨M.weaken (.cons _ (List.Sublist.refl _)), 151, rfl, by omega⟩
   ·intro hc
    have h7b := hc; clear hc
    have h7 : ¬ (20 < ((x.as.length : Nat) : Int)) := of_decide_eq_false h7b
    refine wp_skip <| q_tn <| wp_seq <| w_reg <| rl_run F (run_assign (F.ev rfl)) rfl ?_; clear F a; intro a F
    refine rl_nil <| q_tn ?_
    iterate 2 (refine wp_seq ?_)
    refine w_reg <| rl_run F (run_assign (F.ev rfl)) rfl ?_; clear F a; intro a F
    refine rl_nil <| q_tn <| wp_block <| w_loopN (fun m a' w' => ∃ (i : Nat), ∃ (c : Nat), m = x.kids.length - i ∧ Fits 43 a' [(1, .int .i64 ((lev : Int))), (2, .pointer (some ⟨b1, 0, none⟩)), (5, .int .i64 (((c : Nat) : Int))), (6, .int .i64 (((i : Nat) : Int)))] ∧ Mem w0 G (.blk b1 [.int .u8 (x.kind), .string (str (x.tag)), .string (str (x.key)), .slice (ta) (x.as.length) (tc), .string (str (x.text)), .slice (ka) (x.kids.length) (kc)] 30 :: L) w' ∧ (i ≤ x.kids.length) ∧ (c ≤ 151 + 150 * lev)) _ ⟨0, 1, rfl, F.to ⟨rfl, rfl, rfl, rfl, trivial⟩, M, Nat.zero_le _, by omega⟩ ?_
    clear F M
    rintro m a w ⟨i, c, rfl, F, M, hi, hL⟩
    iterate 2 (refine wp_seq ?_)
    refine w_reg <| rl_run F (run_move (F.ev rfl)) rfl ?_; clear F a; intro a F
    refine rl_run F (run_fieldAddr tok30.k rfl rfl (F.ev rfl)) rfl ?_; clear F a; intro a F
    refine rl_run F (run_load1 (agf tok28 rfl) (F.ev rfl) (M.cellL (k := 0) rfl rfl)) rfl ?_; clear F a; intro a F
    refine rl_run F (run_lenSl tok28.k (F.ev rfl)) rfl ?_; clear F a; intro a F
    refine rl_run F (run_lss (F.ev rfl) (F.ev rfl)) rfl ?_; clear F a; intro a F
    refine rl_run F (run_move (F.ev rfl)) rfl ?_; clear F a; intro a F
    rcases Bool.eq_false_or_eq_true (decide (((i : Nat) : Int) < ((x.kids.length : Nat) : Int))) with hc | hc
    ·skip
     have h8b := hc; clear hc
     have h8 : ((i : Nat) : Int) < ((x.kids.length : Nat) : Int) := of_decide_eq_true h8b
     refine rl_guard_t F rfl rfl rfl h8b ?_
     refine rl_run F (run_move (F.ev rfl)) rfl ?_; clear F a; intro a F
     refine rl_guard_t F rfl rfl rfl h8b ?_
     refine rl_run F (run_leq (F.ev rfl) (F.ev rfl)) rfl ?_; clear F a; intro a F
     refine rl_run F (run_pick_t (F.ev rfl) h8b (F.ev rfl)) rfl ?_; clear F a; intro a F
     refine rl_nil <| q_tn <| w_cond F rfl ?_ ?_
     ·intro hc
      have h9b := hc; clear hc
      have h9 : ((c : Nat) : Int) ≤ 150 := of_decide_eq_true h9b
      refine wp_skip <| q_tn <| wp_seq <| wp_block <| w_reg <| rl_run F (run_move (F.ev rfl)) rfl ?_; clear F a; intro a F
      refine rl_run F (run_fieldAddr tok30.k rfl rfl (F.ev rfl)) rfl ?_; clear F a; intro a F
      refine rl_run F (run_load1 (agf tok28 rfl) (F.ev rfl) (M.cellL (k := 0) rfl rfl)) rfl ?_; clear F a; intro a F
      refine rl_run F (run_move (F.ev rfl)) rfl ?_; clear F a; intro a F
      obtain ⟨Xe10, hXe10⟩ := get_of_lt (xs := x.kids) (i := i) (by omega)
      obtain ⟨be10, oe10, _, Ie10, _, Ae10, hTe10⟩ := SK.at hXe10
      obtain ⟨tae10, tce10, kae10, kce10, rfl, hke10, hle10, SAe10, SKe10⟩ := rdT_open hTe10
      refine rl_run F (run_indexI tok28.k tok30 (F.ev rfl) (F.ev rfl) (by omega) Ie10) rfl ?_; clear F a; intro a F
      refine rl_run F (run_loadA tok30 rfl (F.ev rfl) (cs := [.int .u8 (Xe10.kind), .string (str (Xe10.tag)), .string (str (Xe10.key)), .slice (tae10) (Xe10.as.length) (tce10), .string (str (Xe10.text)), .slice (kae10) (Xe10.kids.length) (kce10)]) rfl (M.cellsA Ae10 0 (by omega) rfl)) rfl ?_; clear F a; intro a F
      refine rl_run F (run_move (F.ev rfl)) rfl ?_; clear F a; intro a F
      refine rl_run F (run_subi (F.ev rfl) (F.ev rfl) (in_i64 (by omega) (by omega))) rfl ?_; clear F a; intro a F
      have hs11 : ((lev : Int) - 1 : Int) = ((lev - 1 : Nat) : Int) := by omega
      rw [hs11] at F
      refine rl_callS F ent47 rfl rfl (ih Xe10 (List.mem_of_getElem? hXe10) _ _ _ _ _ _ _ _ (lev - 1) M hke10 hle10 SAe10 SKe10 (by omega)) ?_; clear F M a; rintro _ w a M ⟨r12, rfl, hr12⟩ F
      refine rl_run F (run_addi (F.ev rfl) (F.ev rfl) (in_i64 (by omega) (by omega))) rfl ?_; clear F a; intro a F
      refine rl_run F (run_assign (F.ev rfl)) rfl ?_; clear F a; intro a F
      refine rl_nil <| q_bn <| q_tn <| w_reg <| rl_run F (run_move (F.ev rfl)) rfl ?_; clear F a; intro a F
      refine rl_run F (run_addi (F.ev rfl) (F.ev rfl) (in_i64 (by omega) (by omega))) rfl ?_; clear F a; intro a F
      refine rl_run F (run_assign (F.ev rfl)) rfl ?_; clear F a; intro a F
      refine rl_nil <| q_tn ?_
      exact ⟨_, by omega, i + 1, c + r12, rfl, F.to ⟨rfl, rfl, rfl, rfl, trivial⟩, M, by omega, by omega⟩
     ·intro hc
      have h13b := hc; clear hc
      have h13 : ¬ (((c : Nat) : Int) ≤ 150) := of_decide_eq_false h13b
      refine wp_exit ?_
      iterate 2 (refine q_te ?_)
      refine q_bh <| q_tn <| wp_seq <| w_reg <| rl_run F (run_move (F.ev rfl)) rfl ?_; clear F a; intro a F
      refine rl_run F (run_assign (F.ev rfl)) rfl ?_; clear F a; intro a F
      refine rl_nil <| q_tn <| wp_ret <| fin1 F rfl rfl ?_
      exact ⟨M.weaken (.cons _ (List.Sublist.refl _)), c, rfl, by omega⟩
    ·skip
     have h14b := hc; clear hc
     have h14 : ¬ (((i : Nat) : Int) < ((x.kids.length : Nat) : Int)) := of_decide_eq_false h14b
     iterate 2 (refine rl_guard_f F rfl rfl rfl h14b ?_; clear F a; intro a F)
     refine rl_run F (run_pick_f (F.ev rfl) h14b (F.ev rfl)) rfl ?_; clear F a; intro a F
     refine rl_nil <| q_tn <| w_cond_f F rfl rfl ?_
     refine wp_exit ?_
     iterate 2 (refine q_te ?_)
     refine q_bh <| q_tn <| wp_seq <| w_reg <| rl_run F (run_move (F.ev rfl)) rfl ?_; clear F a; intro a F
     refine rl_run F (run_assign (F.ev rfl)) rfl ?_; clear F a; intro a F
     refine rl_nil <| q_tn <| wp_ret <| fin1 F rfl rfl ?_
     exact ⟨M.weaken (.cons _ (List.Sublist.refl _)), c, rfl, by omega⟩
theorem weighN_all (x : NT) : WeighN x := by
 induction x using Tr.ind with
 | _ x ih => intro w0 w G L ta ka tc kc lev M hk hl SA SK hlev; exact weighN_step ih M hk hl SA SK hlev
theorem rdepth_step {x : NT} (ih : ∀ y ∈ x.kids, DepthN y) {w0 w : World} {G : Ghost} {L : List Res} (M : Mem w0 G L w) {ta : Option Addr} {tc : Nat} {ka : Option Addr} {kc : Nat} (hk : inKind .u8 x.kind) (hl : (x.tag.length ≤ 9223372036854775807 ∧ x.key.length ≤ 9223372036854775807 ∧ x.text.length ≤ 9223372036854775807)) (SA : RdSl rdAttr 2 G (.slice ta x.as.length tc) x.as) (SK : RdSl rdN 6 G (.slice ka x.kids.length kc) x.kids) (hD : x.depth ≤ 1000000) : Calls Tryz.prog 51 #[.agg #[.int .u8 (x.kind), .string (str (x.tag)), .string (str (x.key)), .slice (ta) (x.as.length) (tc), .string (str (x.text)), .slice (ka) (x.kids.length) (kc)]] w (RetS w0 G L fun v => v = .int .i64 ((x.depth : Nat) : Int)) := by
 refine calls_start (vs := [_]) Tryz.func51 rfl (n := 22) rfl rfl ?_
 intro a F
 refine wp_seq <| w_reg <| rl_box F M rfl (cs := [.int .u8 (x.kind), .string (str (x.tag)), .string (str (x.key)), .slice (ta) (x.as.length) (tc), .string (str (x.text)), .slice (ka) (x.kids.length) (kc)]) rfl rfl ?_; clear F M a; intro b1 w a M F
 refine rl_run F (run_assign (F.ev rfl)) rfl ?_; clear F a; intro a F
 refine rl_nil <| q_tn <| wp_seq ?_
 have hDq := Tr.depth_eq x
 have bK := SK.bound
 refine w_reg <| rl_run F (run_assign (F.ev rfl)) rfl ?_; clear F a; intro a F
 refine rl_nil <| q_tn ?_
 iterate 2 (refine wp_seq ?_)
 refine w_reg <| rl_run F (run_assign (F.ev rfl)) rfl ?_; clear F a; intro a F
 refine rl_nil <| q_tn <| wp_block <| w_loopN (fun m a' w' => ∃ (i : Nat), ∃ (d : Nat), m = x.kids.length - i ∧ Fits 22 a' [(1, .pointer (some ⟨b1, 0, none⟩)), (3, .int .i64 (((d : Nat) : Int))), (4, .int .i64 (((i : Nat) : Int)))] ∧ Mem w0 G (.blk b1 [.int .u8 (x.kind), .string (str (x.tag)), .string (str (x.key)), .slice (ta) (x.as.length) (tc), .string (str (x.text)), .slice (ka) (x.kids.length) (kc)] 30 :: L) w' ∧ (i ≤ x.kids.length) ∧ (d = Tr.depths (x.kids.take i))) _ ⟨0, 0, rfl, F.to ⟨rfl, rfl, rfl, trivial⟩, M, Nat.zero_le _, rfl⟩ ?_
 clear F M
 rintro m a w ⟨i, d, rfl, F, M, hi, hd⟩
 iterate 2 (refine wp_seq ?_)
 refine w_reg <| rl_run F (run_move (F.ev rfl)) rfl ?_; clear F a; intro a F
 refine rl_run F (run_fieldAddr tok30.k rfl rfl (F.ev rfl)) rfl ?_; clear F a; intro a F
 refine rl_run F (run_load1 (agf tok28 rfl) (F.ev rfl) (M.cellL (k := 0) rfl rfl)) rfl ?_; clear F a; intro a F
 refine rl_run F (run_lenSl tok28.k (F.ev rfl)) rfl ?_; clear F a; intro a F
 refine rl_run F (run_lss (F.ev rfl) (F.ev rfl)) rfl ?_; clear F a; intro a F
 refine rl_nil <| q_tn <| w_cond F rfl ?_ ?_
 ·intro hc
  have h2b := hc; clear hc
  have h2 : ((i : Nat) : Int) < ((x.kids.length : Nat) : Int) := of_decide_eq_true h2b
  refine wp_skip <| q_tn <| wp_seq <| wp_block <| w_reg <| rl_run F (run_move (F.ev rfl)) rfl ?_; clear F a; intro a F
  refine rl_run F (run_fieldAddr tok30.k rfl rfl (F.ev rfl)) rfl ?_; clear F a; intro a F
  refine rl_run F (run_load1 (agf tok28 rfl) (F.ev rfl) (M.cellL (k := 0) rfl rfl)) rfl ?_; clear F a; intro a F
  refine rl_run F (run_move (F.ev rfl)) rfl ?_; clear F a; intro a F
  obtain ⟨Xe3, hXe3⟩ := get_of_lt (xs := x.kids) (i := i) (by omega)
  obtain ⟨be3, oe3, _, Ie3, _, Ae3, hTe3⟩ := SK.at hXe3
  obtain ⟨tae3, tce3, kae3, kce3, rfl, hke3, hle3, SAe3, SKe3⟩ := rdT_open hTe3
  refine rl_run F (run_indexI tok28.k tok30 (F.ev rfl) (F.ev rfl) (by omega) Ie3) rfl ?_; clear F a; intro a F
  refine rl_run F (run_loadA tok30 rfl (F.ev rfl) (cs := [.int .u8 (Xe3.kind), .string (str (Xe3.tag)), .string (str (Xe3.key)), .slice (tae3) (Xe3.as.length) (tce3), .string (str (Xe3.text)), .slice (kae3) (Xe3.kids.length) (kce3)]) rfl (M.cellsA Ae3 0 (by omega) rfl)) rfl ?_; clear F a; intro a F
  refine rl_callS F ent51 rfl rfl (ih Xe3 (List.mem_of_getElem? hXe3) _ _ _ _ _ _ _ _ M hke3 hle3 SAe3 SKe3 (by have h9 := Tr.depth_mem (List.mem_of_getElem? hXe3); omega)) ?_; clear F M a; rintro _ w a M rfl F
  refine rl_run F (run_max2N (b := d) (c := Xe3.depth) (F.ev rfl) (F.ev rfl)) rfl ?_; clear F a; intro a F
  refine rl_run F (run_assign (F.ev rfl)) rfl ?_; clear F a; intro a F
  refine rl_nil <| q_bn <| q_tn <| w_reg <| rl_run F (run_move (F.ev rfl)) rfl ?_; clear F a; intro a F
  refine rl_run F (run_addi (F.ev rfl) (F.ev rfl) (in_i64 (by omega) (by omega))) rfl ?_; clear F a; intro a F
  refine rl_run F (run_assign (F.ev rfl)) rfl ?_; clear F a; intro a F
  refine rl_nil <| q_tn ?_
  exact ⟨_, by omega, i + 1, max d Xe3.depth, rfl, F.to ⟨rfl, rfl, rfl, trivial⟩, M, by omega, by rw [Tr.depths_snoc hXe3, hd]⟩
 ·intro hc
  have h4b := hc; clear hc
  have h4 : ¬ (((i : Nat) : Int) < ((x.kids.length : Nat) : Int)) := of_decide_eq_false h4b
  refine wp_exit ?_
  iterate 2 (refine q_te ?_)
  refine q_bh <| q_tn <| wp_seq ?_
  have hDf := depths_full (x := x) (i := i) (by omega)
  refine w_reg <| rl_run F (run_move (F.ev rfl)) rfl ?_; clear F a; intro a F
  refine rl_run F (run_addi (F.ev rfl) (F.ev rfl) (in_i64 (by omega) (by omega))) rfl ?_; clear F a; intro a F
  refine rl_run F (run_assign (F.ev rfl)) rfl ?_; clear F a; intro a F
  refine rl_nil <| q_tn <| wp_ret <| fin1 F rfl rfl ?_
  exact ⟨M.weaken (.cons _ (List.Sublist.refl _)), by show _ = Value.int .i64 ((x.depth : Nat) : Int); rw [show x.depth = d + 1 by omega]; rfl⟩
theorem rdepth_all (x : NT) : DepthN x := by
 induction x using Tr.ind with
 | _ x ih => intro w0 w G L ta ka tc kc M hk hl SA SK hD; exact rdepth_step ih M hk hl SA SK hD
theorem nsamF_no {x : NT} (h : ¬ Valid x) : nsamF x x = false := by unfold nsamF; rw [if_neg fun h2 => h h2.1]
theorem text_no {x : NT} (h : ¬ Valid x) : chkF x = 14 ∧ (if chkF x = 0 then textN x else []) = [] := ⟨chkF_no h, by rw [chkF_no h, if_neg (by decide)]⟩
theorem at_nil_no {x : NT} (h : ¬ Valid x) : atN x [] = zeroN ∧ atE x [] = 14 := by unfold atN atE; rw [if_neg h, if_neg h]; exact ⟨rfl, rfl⟩
theorem at_nil {x : NT} (h : Valid x) : atN x [] = x ∧ atE x [] = 0 := ⟨(at_some h (y := x) rfl).2, (at_some h (y := x) rfl).1⟩
def GoodY (y : NT) : Ghost → List Value → Prop := fun G' cs => ∃ a1 a2, cs = [.int .u8 y.kind, .string (str y.tag), .string (str y.key), .slice a1 y.as.length y.as.length, .string (str y.text), .slice a2 y.kids.length y.kids.length] ∧ inKind .u8 y.kind ∧ (y.tag.length ≤ 9223372036854775807 ∧ y.key.length ≤ 9223372036854775807 ∧ y.text.length ≤ 9223372036854775807) ∧ RdSl rdAttr 2 G' (.slice a1 y.as.length y.as.length) y.as ∧ RdSl rdNE 6 G' (.slice a2 y.kids.length y.kids.length) y.kids
theorem does_strip {w0 : World} {G : Ghost} {x : NT} {ta : Option Addr} {tc : Nat} {ka : Option Addr} {kc : Nat} (hk : inKind .u8 x.kind) (hl : (x.tag.length ≤ 9223372036854775807 ∧ x.key.length ≤ 9223372036854775807 ∧ x.text.length ≤ 9223372036854775807)) (SA : RdSl rdAttr 2 G (.slice ta x.as.length tc) x.as) (SK : RdSl rdN 6 G (.slice ka x.kids.length kc) x.kids) {y : NT} (hy : strF x = y) {ld cl al st sp sl sc sa pb : Nat} : Thr.Does Tryz.prog w0 G ⟨ld, cl, al, st, sp, sl, sc, sa, pb, 30, 30, 42, [.int .u8 (x.kind), .string (str (x.tag)), .string (str (x.key)), .slice (ta) (x.as.length) (tc), .string (str (x.text)), .slice (ka) (x.kids.length) (kc)], [.int .u8 (0), .string (str ([] : List UInt8)), .string (str ([] : List UInt8)), .slice none (0) (0), .string (str ([] : List UInt8)), .slice none (0) (0)], GoodY y⟩ :=
 ⟨fun w G' L hG M => ret_imp (strip_at M hk hl (SA.mono mono_rdAttr hG) (SK.mono mono_rdN hG) hy) fun G'' v h => by
   obtain ⟨a1, a2, rfl, h⟩ := h
   exact ⟨_, rfl, a1, a2, rfl, h⟩,
  fun G' G'' cs hG h => by
   obtain ⟨a1, a2, rfl, h1, h2, S1, S2⟩ := h
   exact ⟨a1, a2, rfl, h1, h2, S1.mono mono_rdAttr hG, S2.mono mono_rdNE hG⟩,
  fun G' cs h => by
   obtain ⟨a1, a2, rfl, _⟩ := h
   exact ⟨rfl, by simp [Value.oneCell']⟩⟩
theorem does_copy {w0 : World} {G : Ghost} {x : NT} {ta : Option Addr} {tc : Nat} {ka : Option Addr} {kc : Nat} (hk : inKind .u8 x.kind) (hl : (x.tag.length ≤ 9223372036854775807 ∧ x.key.length ≤ 9223372036854775807 ∧ x.text.length ≤ 9223372036854775807)) (SA : RdSl rdAttr 2 G (.slice ta x.as.length tc) x.as) (SK : RdSl rdN 6 G (.slice ka x.kids.length kc) x.kids) {y : NT} (hy : cpyF x = y) {ld cl al st sp sl sc sa pb : Nat} : Thr.Does Tryz.prog w0 G ⟨ld, cl, al, st, sp, sl, sc, sa, pb, 30, 30, 49, [.int .u8 (x.kind), .string (str (x.tag)), .string (str (x.key)), .slice (ta) (x.as.length) (tc), .string (str (x.text)), .slice (ka) (x.kids.length) (kc)], [.int .u8 (0), .string (str ([] : List UInt8)), .string (str ([] : List UInt8)), .slice none (0) (0), .string (str ([] : List UInt8)), .slice none (0) (0)], GoodY y⟩ :=
 ⟨fun w G' L hG M => ret_imp (copy_at M hk hl (SA.mono mono_rdAttr hG) (SK.mono mono_rdN hG) hy) fun G'' v h => by
   obtain ⟨a1, a2, rfl, h⟩ := h
   exact ⟨_, rfl, a1, a2, rfl, h⟩,
  fun G' G'' cs hG h => by
   obtain ⟨a1, a2, rfl, h1, h2, S1, S2⟩ := h
   exact ⟨a1, a2, rfl, h1, h2, S1.mono mono_rdAttr hG, S2.mono mono_rdNE hG⟩,
  fun G' cs h => by
   obtain ⟨a1, a2, rfl, _⟩ := h
   exact ⟨rfl, by simp [Value.oneCell']⟩⟩
set_option maxHeartbeats 2000000 in
theorem nodesCheck_ret {w0 w : World} {G : Ghost} {L : List Res} (M : Mem w0 G L w) {x : NT} {ta : Option Addr} {tc : Nat} {ka : Option Addr} {kc : Nat} (hk : inKind .u8 x.kind) (hl : (x.tag.length ≤ 9223372036854775807 ∧ x.key.length ≤ 9223372036854775807 ∧ x.text.length ≤ 9223372036854775807)) (SA : RdSl rdAttr 2 G (.slice ta x.as.length tc) x.as) (SK : RdSl rdN 6 G (.slice ka x.kids.length kc) x.kids) : Calls Tryz.prog 11 #[.agg #[.int .u8 (x.kind), .string (str (x.tag)), .string (str (x.key)), .slice (ta) (x.as.length) (tc), .string (str (x.text)), .slice (ka) (x.kids.length) (kc)]] w (Ret w0 G L fun _ v => v = .bool true) := by
 refine calls_start (vs := [_]) Tryz.func11 rfl (n := 122) rfl rfl ?_
 intro a F
 refine wp_seq <| w_reg <| rl_box F M rfl (cs := [.int .u8 (x.kind), .string (str (x.tag)), .string (str (x.key)), .slice (ta) (x.as.length) (tc), .string (str (x.text)), .slice (ka) (x.kids.length) (kc)]) rfl rfl ?_; clear F M a; intro b1 w a M F
 refine rl_run F (run_assign (F.ev rfl)) rfl ?_; clear F a; intro a F
 refine rl_nil <| q_tn ?_
 iterate 2 (refine wp_seq ?_)
 refine w_reg <| rl_run F (run_loadA tok30 rfl (F.ev rfl) (cs := [.int .u8 (x.kind), .string (str (x.tag)), .string (str (x.key)), .slice (ta) (x.as.length) (tc), .string (str (x.text)), .slice (ka) (x.kids.length) (kc)]) rfl (M.cellsL (k := 0) rfl rfl)) rfl ?_; clear F a; intro a F
 refine rl_callS F ent47 rfl rfl (weighN_all x _ _ _ _ _ _ _ _ 8 M hk hl SA SK (by omega)) ?_; clear F M a; rintro _ w a M ⟨r2, rfl, hr2⟩ F
 refine rl_run F (run_gtr (F.ev rfl) (F.ev rfl)) rfl ?_; clear F a; intro a F
 refine rl_nil <| q_tn <| w_cond F rfl ?_ ?_
 ·intro hc
  have h3b := hc; clear hc
  have h3 : 150 < ((r2 : Nat) : Int) := of_decide_eq_true h3b
  refine wp_seq <| w_reg <| rl_callS F ent13 rfl rfl (nlives_spec M) ?_; clear F M a; rintro _ w a M rfl F
  refine rl_run F (run_assign (F.ev rfl)) rfl ?_; clear F a; intro a F
  refine rl_nil <| q_tn <| wp_ret <| q_tr <| fin1 F rfl rfl ?_
  exact ⟨_, (Gle.refl _), M.weaken (.cons _ (List.Sublist.refl _)), by rfl⟩
 ·intro hc
  have h4b := hc; clear hc
  have h4 : ¬ (150 < ((r2 : Nat) : Int)) := of_decide_eq_false h4b
  refine wp_skip <| q_tn <| wp_seq <| w_reg <| rl_run F (run_loadA tok30 rfl (F.ev rfl) (cs := [.int .u8 (x.kind), .string (str (x.tag)), .string (str (x.key)), .slice (ta) (x.as.length) (tc), .string (str (x.text)), .slice (ka) (x.kids.length) (kc)]) rfl (M.cellsL (k := 0) rfl rfl)) rfl ?_; clear F a; intro a F
  refine rl_callS F ent48 rfl rfl (rcheck_spec (x := x) M hk hl SA SK) ?_; clear F M a; rintro _ w a M rfl F
  refine rl_run F (run_assign (F.ev rfl)) rfl ?_; clear F a; intro a F
  refine rl_nil <| q_tn <| wp_seq ?_
  rcases Classical.em (Valid x) with hV | hV
  ·skip
   rw [chkF_yes hV] at F
   refine w_reg <| rl_run F (run_loadA tok30 rfl (F.ev rfl) (cs := [.int .u8 (x.kind), .string (str (x.tag)), .string (str (x.key)), .slice (ta) (x.as.length) (tc), .string (str (x.text)), .slice (ka) (x.kids.length) (kc)]) rfl (M.cellsL (k := 0) rfl rfl)) rfl ?_; clear F a; intro a F
   refine rl_callS F ent38 rfl rfl (ntextF_at (x := x) (y := textN x) (e := 0) M hk hl SA SK (text_valid hV)) ?_; clear F M a; rintro _ w a M rfl F
   refine rl_run F (run_move (F.ev rfl)) rfl ?_; clear F a; intro a F
   refine rl_run F (run_extract (v := .string (str (textN x))) (F.ev rfl) rfl) rfl ?_; clear F a; intro a F
   refine rl_run F (run_extract (v := .int .i64 (0)) (F.ev rfl) rfl) rfl ?_; clear F a; intro a F
   iterate 2 (refine rl_run F (run_assign (F.ev rfl)) rfl ?_; clear F a; intro a F)
   refine rl_nil <| q_tn <| wp_seq <| w_reg <| rl_run F (run_loadA tok30 rfl (F.ev rfl) (cs := [.int .u8 (x.kind), .string (str (x.tag)), .string (str (x.key)), .slice (ta) (x.as.length) (tc), .string (str (x.text)), .slice (ka) (x.kids.length) (kc)]) rfl (M.cellsL (k := 0) rfl rfl)) rfl ?_; clear F a; intro a F
   refine rl_call F ent15 rfl rfl (at_at (x := x) (ps := ([] : List Int)) (y := x) (e := 0) M hk hl SA SK RdSl.nil (at_nil hV)) ?_; clear F M a; rintro _ Gk5 w a hGk5 M ⟨tak5, kak5, rfl, hkk5, hlk5, SAk5, SKk5⟩ F
   replace SA := SA.mono mono_rdAttr hGk5
   replace SK := SK.mono mono_rdN hGk5
   refine rl_run F (run_move (F.ev rfl)) rfl ?_; clear F a; intro a F
   refine rl_run F (run_extract (v := .agg #[.int .u8 (x.kind), .string (str (x.tag)), .string (str (x.key)), .slice (tak5) (x.as.length) (x.as.length), .string (str (x.text)), .slice (kak5) (x.kids.length) (x.kids.length)]) (F.ev rfl) rfl) rfl ?_; clear F a; intro a F
   refine rl_run F (run_extract (v := .int .i64 (0)) (F.ev rfl) rfl) rfl ?_; clear F a; intro a F
   refine rl_alloc F M tok30 rfl rfl ?_; clear F M a; intro b6 w a M F
   refine rl_storeA F M tok30 (k := 0) rfl rfl rfl (us := [.int .u8 (x.kind), .string (str (x.tag)), .string (str (x.key)), .slice (tak5) (x.as.length) (x.as.length), .string (str (x.text)), .slice (kak5) (x.kids.length) (x.kids.length)]) rfl rfl (by simp [Value.oneCell']) (by simp) ?_; clear F M a; intro w a M F
   change Mem w0 Gk5 (.blk b6 [.int .u8 (x.kind), .string (str (x.tag)), .string (str (x.key)), .slice (tak5) (x.as.length) (x.as.length), .string (str (x.text)), .slice (kak5) (x.kids.length) (x.kids.length)] 30 :: .blk b1 [.int .u8 (x.kind), .string (str (x.tag)), .string (str (x.key)), .slice (ta) (x.as.length) (tc), .string (str (x.text)), .slice (ka) (x.kids.length) (kc)] 30 :: L) _ at M
   refine rl_run F (run_assign (F.ev rfl)) rfl ?_; clear F a; intro a F
   refine rl_nil <| q_tn <| wp_seq <| w_threads [⟨0, 1, 4, 6, 1, 26, 27, 8, b1, 30, 30, 42, [.int .u8 (x.kind), .string (str (x.tag)), .string (str (x.key)), .slice (ta) (x.as.length) (tc), .string (str (x.text)), .slice (ka) (x.kids.length) (kc)], [.int .u8 (0), .string (str ([] : List UInt8)), .string (str ([] : List UInt8)), .slice none (0) (0), .string (str ([] : List UInt8)), .slice none (0) (0)], (GoodY (strF x))⟩, ⟨2, 3, 5, 7, 1, 28, 29, 9, b1, 30, 30, 49, [.int .u8 (x.kind), .string (str (x.tag)), .string (str (x.key)), .slice (ta) (x.as.length) (tc), .string (str (x.text)), .slice (ka) (x.kids.length) (kc)], [.int .u8 (0), .string (str ([] : List UInt8)), .string (str ([] : List UInt8)), .slice none (0) (0), .string (str ([] : List UInt8)), .slice none (0) (0)], (GoodY x)⟩] rfl F M (by kernel_rfl) (by kernel_rfl) (by kernel_rfl) (by kernel_rfl) ⟨⟨⟨_, _, _, rfl⟩, ⟨_, _, _, _, rfl, rfl⟩, ⟨_, _, _, rfl⟩, ⟨_, _, _, rfl, rfl, rfl⟩, rfl, rfl, ⟨rfl, rfl, rfl⟩, ent42, ⟨_, tok30, rfl, rfl⟩, ⟨_, tok30, rfl, rfl⟩⟩, ⟨⟨_, _, _, rfl⟩, ⟨_, _, _, _, rfl, rfl⟩, ⟨_, _, _, rfl⟩, ⟨_, _, _, rfl, rfl, rfl⟩, rfl, rfl, ⟨rfl, rfl, rfl⟩, ent49, ⟨_, tok30, rfl, rfl⟩, ⟨_, tok30, rfl, rfl⟩⟩, trivial⟩ ⟨does_strip hk hl SA SK rfl, does_copy hk hl SA SK (cpyF_yes hV), trivial⟩ ⟨⟨rfl, by simp⟩, ⟨rfl, by simp⟩, trivial⟩ ?_
   clear F M a; rintro a w Gq8 _ F hGq8 M ⟨_, _, rfl, ⟨_, bq8_0, dq8_0, eq8_0, fq8_0, ⟨taq8_0, kaq8_0, rfl, hkq8_0, hlq8_0, SAq8_0, SKq8_0⟩, rfl⟩, _, _, rfl, ⟨_, bq8_1, dq8_1, eq8_1, fq8_1, ⟨taq8_1, kaq8_1, rfl, hkq8_1, hlq8_1, SAq8_1, SKq8_1⟩, rfl⟩, rfl⟩
   replace SA := SA.mono mono_rdAttr hGq8
   replace SK := SK.mono mono_rdN hGq8
   replace SAk5 := SAk5.mono mono_rdAttr hGq8
   replace SKk5 := SKk5.mono mono_rdNE hGq8
   replace F := ((((((F.add (d := 26) (v := .agg #[.int .u8 (x.kind), .string (str (x.tag)), .string (str (x.key)), .slice (ta) (x.as.length) (tc), .string (str (x.text)), .slice (ka) (x.kids.length) (kc)]) dq8_0).add (d := 27) (v := .agg #[.int .u8 ((strF x).kind), .string (str ((strF x).tag)), .string (str ((strF x).key)), .slice (taq8_0) ((strF x).as.length) ((strF x).as.length), .string (str ((strF x).text)), .slice (kaq8_0) ((strF x).kids.length) ((strF x).kids.length)]) eq8_0).add (d := 8) (v := .pointer (some ⟨bq8_0, 0, none⟩)) fq8_0).add (d := 28) (v := .agg #[.int .u8 (x.kind), .string (str (x.tag)), .string (str (x.key)), .slice (ta) (x.as.length) (tc), .string (str (x.text)), .slice (ka) (x.kids.length) (kc)]) dq8_1).add (d := 29) (v := .agg #[.int .u8 (x.kind), .string (str (x.tag)), .string (str (x.key)), .slice (taq8_1) (x.as.length) (x.as.length), .string (str (x.text)), .slice (kaq8_1) (x.kids.length) (x.kids.length)]) eq8_1).add (d := 9) (v := .pointer (some ⟨bq8_1, 0, none⟩)) fq8_1)
   clear dq8_0 eq8_0 fq8_0 dq8_1 eq8_1 fq8_1
   change Mem w0 Gq8 (.blk bq8_0 [.int .u8 ((strF x).kind), .string (str ((strF x).tag)), .string (str ((strF x).key)), .slice (taq8_0) ((strF x).as.length) ((strF x).as.length), .string (str ((strF x).text)), .slice (kaq8_0) ((strF x).kids.length) ((strF x).kids.length)] 30 :: .blk bq8_1 [.int .u8 (x.kind), .string (str (x.tag)), .string (str (x.key)), .slice (taq8_1) (x.as.length) (x.as.length), .string (str (x.text)), .slice (kaq8_1) (x.kids.length) (x.kids.length)] 30 :: .blk b6 [.int .u8 (x.kind), .string (str (x.tag)), .string (str (x.key)), .slice (tak5) (x.as.length) (x.as.length), .string (str (x.text)), .slice (kak5) (x.kids.length) (x.kids.length)] 30 :: .blk b1 [.int .u8 (x.kind), .string (str (x.tag)), .string (str (x.key)), .slice (ta) (x.as.length) (tc), .string (str (x.text)), .slice (ka) (x.kids.length) (kc)] 30 :: L) _ at M
   refine q_tn ?_
   iterate 2 (refine wp_seq ?_)
   refine w_plan3 [(.pure, 0), (.free, 2), (.keep, 1), (.free, 3), (.free, 4), (.free, 5), (.free, 6), (.free, 7), (.free, 8), (.free, 9), (.free, 10), (.free, 11), (.free, 12), (.free, 13), (.free, 14), (.pure, 15), (.pure, 17), (.keep, 16), (.keep, 18), (.free, 19), (.free, 20), (.free, 21), (.pure, 22), (.pure, 23), (.free, 25), (.free, 26), (.keep, 24), (.free, 27), (.free, 28)] [] (Keep Gq8 [.blk bq8_0 [.int .u8 ((strF x).kind), .string (str ((strF x).tag)), .string (str ((strF x).key)), .slice (taq8_0) ((strF x).as.length) ((strF x).as.length), .string (str ((strF x).text)), .slice (kaq8_0) ((strF x).kids.length) ((strF x).kids.length)] 30, .blk bq8_1 [.int .u8 (x.kind), .string (str (x.tag)), .string (str (x.key)), .slice (taq8_1) (x.as.length) (x.as.length), .string (str (x.text)), .slice (kaq8_1) (x.kids.length) (x.kids.length)] 30, .blk b6 [.int .u8 (x.kind), .string (str (x.tag)), .string (str (x.key)), .slice (tak5) (x.as.length) (x.as.length), .string (str (x.text)), .slice (kak5) (x.kids.length) (x.kids.length)] 30, .blk b1 [.int .u8 (x.kind), .string (str (x.tag)), .string (str (x.key)), .slice (ta) (x.as.length) (tc), .string (str (x.text)), .slice (ka) (x.kids.length) (kc)] 30]) rfl (by kernel_rfl) (fun c a d v w h => by cases d <;> exact h) ((M.drew _).keep (Gle.refl _) (by simp)) ?_
   replace M := M.drew (w.drawn + 1)
   refine pk_pure F (fun w M => run_loadA tok30 rfl (F.ev rfl) (cs := [.int .u8 (x.kind), .string (str (x.tag)), .string (str (x.key)), .slice (ta) (x.as.length) (tc), .string (str (x.text)), .slice (ka) (x.kids.length) (kc)]) rfl (M.cellsL (k := 3) rfl rfl)) rfl ?_; clear F a; intro a F
   refine pk_free F (fun w _ => run_move (F.ev rfl)) rfl ?_; clear F a; intro a F
   refine pk_keep ?_ rfl
   refine rl_callS F ent30 rfl rfl (ncheck_spec (x := x) M hk hl SA SK) ?_; clear F M a; rintro _ w a M rfl F
   refine rl_nil <| ⟨Keep Gq8 [.blk bq8_0 [.int .u8 ((strF x).kind), .string (str ((strF x).tag)), .string (str ((strF x).key)), .slice (taq8_0) ((strF x).as.length) ((strF x).as.length), .string (str ((strF x).text)), .slice (kaq8_0) ((strF x).kids.length) ((strF x).kids.length)] 30, .blk bq8_1 [.int .u8 (x.kind), .string (str (x.tag)), .string (str (x.key)), .slice (taq8_1) (x.as.length) (x.as.length), .string (str (x.text)), .slice (kaq8_1) (x.kids.length) (x.kids.length)] 30, .blk b6 [.int .u8 (x.kind), .string (str (x.tag)), .string (str (x.key)), .slice (tak5) (x.as.length) (x.as.length), .string (str (x.text)), .slice (kak5) (x.kids.length) (x.kids.length)] 30, .blk b1 [.int .u8 (x.kind), .string (str (x.tag)), .string (str (x.key)), .slice (ta) (x.as.length) (tc), .string (str (x.text)), .slice (ka) (x.kids.length) (kc)] 30], M.keep (Gle.refl _) (by simp), fun w h => h.mono (Gle.refl _) (by simp), ?_⟩
   rw [chkF_yes hV] at F
   refine pk_free F (fun w _ => run_nei (F.ev rfl) (F.ev rfl)) rfl ?_; clear F a; intro a F
   refine pk_free F (fun w _ => run_move (F.ev rfl)) rfl ?_; clear F a; intro a F
   iterate 2 (refine pk_free_g F rfl rfl (not_f (decide_eq_true (by decide))) (fun w _ => run_move (F.ev rfl)) rfl ?_; clear F a; intro a F)
   refine pk_free_g F rfl rfl (not_f (decide_eq_true (by decide))) (fun w _ => run_nei (F.ev rfl) (F.ev rfl)) rfl ?_; clear F a; intro a F
   refine pk_free F (fun w _ => run_pick_f (F.ev rfl) (not_f (decide_eq_true (by decide))) (F.ev rfl)) rfl ?_; clear F a; intro a F
   refine pk_free F (fun w _ => run_move (F.ev rfl)) rfl ?_; clear F a; intro a F
   iterate 2 (refine pk_free_g F rfl rfl (not_f (decide_eq_true (by decide))) (fun w _ => run_move (F.ev rfl)) rfl ?_; clear F a; intro a F)
   refine pk_free_g F rfl rfl (not_f (decide_eq_true (by decide))) (fun w _ => run_nei (F.ev rfl) (F.ev rfl)) rfl ?_; clear F a; intro a F
   refine pk_free F (fun w _ => run_pick_f (F.ev rfl) (not_f (decide_eq_true (by decide))) (F.ev rfl)) rfl ?_; clear F a; intro a F
   refine pk_free F (fun w _ => run_move (F.ev rfl)) rfl ?_; clear F a; intro a F
   iterate 2 (refine pk_pure_g F rfl rfl (not_f (decide_eq_true (by decide))) (fun w M => run_loadA tok30 rfl (F.ev rfl) (cs := [.int .u8 (x.kind), .string (str (x.tag)), .string (str (x.key)), .slice (ta) (x.as.length) (tc), .string (str (x.text)), .slice (ka) (x.kids.length) (kc)]) rfl (M.cellsL (k := 3) rfl rfl)) rfl ?_; clear F a; intro a F)
   refine pk_keep_g F rfl rfl (not_f (decide_eq_true (by decide))) ?_
   refine rl_guard_t F rfl rfl rfl (not_f (decide_eq_true (by decide))) ?_
   refine rl_callS F ent17 rfl rfl (ncount_spec (x := x) M hk hl SA SK) ?_; clear F M a; rintro _ w a M rfl F
   refine rl_nil <| ⟨Keep Gq8 [.blk bq8_0 [.int .u8 ((strF x).kind), .string (str ((strF x).tag)), .string (str ((strF x).key)), .slice (taq8_0) ((strF x).as.length) ((strF x).as.length), .string (str ((strF x).text)), .slice (kaq8_0) ((strF x).kids.length) ((strF x).kids.length)] 30, .blk bq8_1 [.int .u8 (x.kind), .string (str (x.tag)), .string (str (x.key)), .slice (taq8_1) (x.as.length) (x.as.length), .string (str (x.text)), .slice (kaq8_1) (x.kids.length) (x.kids.length)] 30, .blk b6 [.int .u8 (x.kind), .string (str (x.tag)), .string (str (x.key)), .slice (tak5) (x.as.length) (x.as.length), .string (str (x.text)), .slice (kak5) (x.kids.length) (x.kids.length)] 30, .blk b1 [.int .u8 (x.kind), .string (str (x.tag)), .string (str (x.key)), .slice (ta) (x.as.length) (tc), .string (str (x.text)), .slice (ka) (x.kids.length) (kc)] 30], M.keep (Gle.refl _) (by simp), fun w h => h.mono (Gle.refl _) (by simp), ?_⟩
   refine pk_keep_g F rfl rfl (not_f (decide_eq_true (by decide))) ?_
   refine rl_guard_t F rfl rfl rfl (not_f (decide_eq_true (by decide))) ?_
   refine rl_callS F ent50 rfl rfl (rcount_spec (x := x) M hk hl SA SK) ?_; clear F M a; rintro _ w a M rfl F
   refine rl_nil <| ⟨Keep Gq8 [.blk bq8_0 [.int .u8 ((strF x).kind), .string (str ((strF x).tag)), .string (str ((strF x).key)), .slice (taq8_0) ((strF x).as.length) ((strF x).as.length), .string (str ((strF x).text)), .slice (kaq8_0) ((strF x).kids.length) ((strF x).kids.length)] 30, .blk bq8_1 [.int .u8 (x.kind), .string (str (x.tag)), .string (str (x.key)), .slice (taq8_1) (x.as.length) (x.as.length), .string (str (x.text)), .slice (kaq8_1) (x.kids.length) (x.kids.length)] 30, .blk b6 [.int .u8 (x.kind), .string (str (x.tag)), .string (str (x.key)), .slice (tak5) (x.as.length) (x.as.length), .string (str (x.text)), .slice (kak5) (x.kids.length) (x.kids.length)] 30, .blk b1 [.int .u8 (x.kind), .string (str (x.tag)), .string (str (x.key)), .slice (ta) (x.as.length) (tc), .string (str (x.text)), .slice (ka) (x.kids.length) (kc)] 30], M.keep (Gle.refl _) (by simp), fun w h => h.mono (Gle.refl _) (by simp), ?_⟩
   refine pk_free_g F rfl rfl (not_f (decide_eq_true (by decide))) (fun w _ => run_nei (F.ev rfl) (F.ev rfl)) rfl ?_; clear F a; intro a F
   refine pk_free F (fun w _ => run_pick_f (F.ev rfl) (not_f (decide_eq_true (by decide))) (F.ev rfl)) rfl ?_; clear F a; intro a F
   refine pk_free F (fun w _ => run_move (F.ev rfl)) rfl ?_; clear F a; intro a F
   iterate 2 (refine pk_pure_g F rfl rfl (not_f (decide_eq_true rfl)) (fun w M => run_loadA tok30 rfl (F.ev rfl) (cs := [.int .u8 (x.kind), .string (str (x.tag)), .string (str (x.key)), .slice (ta) (x.as.length) (tc), .string (str (x.text)), .slice (ka) (x.kids.length) (kc)]) rfl (M.cellsL (k := 3) rfl rfl)) rfl ?_; clear F a; intro a F)
   refine pk_free_g F rfl rfl (not_f (decide_eq_true rfl)) (fun w _ => run_move (F.ev rfl)) rfl ?_; clear F a; intro a F
   refine pk_free_g F rfl rfl (not_f (decide_eq_true rfl)) (fun w _ => run_eqi (F.ev rfl) (F.ev rfl)) rfl ?_; clear F a; intro a F
   refine pk_keep_g F rfl rfl (not_f (decide_eq_true rfl)) ?_
   refine rl_guard_t F rfl rfl rfl (not_f (decide_eq_true rfl)) ?_
   refine rl_callS F ent41 rfl rfl (nsame_spec (x := x) (u := x) M hk hl SA SK hk hl SA SK) ?_; clear F M a; rintro _ w a M rfl F
   refine rl_nil <| ⟨Keep Gq8 [.blk bq8_0 [.int .u8 ((strF x).kind), .string (str ((strF x).tag)), .string (str ((strF x).key)), .slice (taq8_0) ((strF x).as.length) ((strF x).as.length), .string (str ((strF x).text)), .slice (kaq8_0) ((strF x).kids.length) ((strF x).kids.length)] 30, .blk bq8_1 [.int .u8 (x.kind), .string (str (x.tag)), .string (str (x.key)), .slice (taq8_1) (x.as.length) (x.as.length), .string (str (x.text)), .slice (kaq8_1) (x.kids.length) (x.kids.length)] 30, .blk b6 [.int .u8 (x.kind), .string (str (x.tag)), .string (str (x.key)), .slice (tak5) (x.as.length) (x.as.length), .string (str (x.text)), .slice (kak5) (x.kids.length) (x.kids.length)] 30, .blk b1 [.int .u8 (x.kind), .string (str (x.tag)), .string (str (x.key)), .slice (ta) (x.as.length) (tc), .string (str (x.text)), .slice (ka) (x.kids.length) (kc)] 30], M.keep (Gle.refl _) (by simp), fun w h => h.mono (Gle.refl _) (by simp), ?_⟩
   rw [nsamF_yes hV] at F
   refine pk_free_g F rfl rfl (not_f (decide_eq_true rfl)) (fun w _ => run_neb tok4.k (F.ev rfl) (F.ev rfl)) rfl ?_; clear F a; intro a F
   refine pk_free F (fun w _ => run_pick_f (F.ev rfl) (not_f (decide_eq_true rfl)) (F.ev rfl)) rfl ?_; clear F a; intro a F
   refine pk_nil <| q_tn <| w_cond_f F rfl (by decide) ?_
   refine wp_skip <| q_tn ?_
   iterate 2 (refine wp_seq ?_)
   refine w_reg <| rl_run F (run_move (F.ev rfl)) rfl ?_; clear F a; intro a F
   refine rl_run F (run_nei (F.ev rfl) (F.ev rfl)) rfl ?_; clear F a; intro a F
   refine rl_nil <| q_tn <| w_cond_f F rfl (not_f (decide_eq_true (by decide))) ?_
   refine wp_skip <| q_tn <| wp_seq <| w_plan3 [(.pure, 0), (.pure, 2), (.keep, 1), (.keep, 3), (.free, 4), (.free, 5), (.free, 6), (.pure, 7), (.keep, 8), (.free, 9), (.free, 10), (.free, 11), (.pure, 12), (.pure, 13), (.pure, 15), (.pure, 16), (.pure, 19), (.pure, 20), (.keep, 14), (.keep, 17), (.free, 18), (.keep, 21), (.keep, 22), (.free, 23), (.free, 24), (.free, 25), (.free, 26), (.pure, 27), (.pure, 29), (.pure, 32), (.keep, 28), (.keep, 30), (.free, 31), (.keep, 33), (.free, 34), (.free, 35), (.free, 36), (.free, 37), (.keep, 38), (.free, 39), (.free, 40)] [] (Keep Gq8 [.blk bq8_0 [.int .u8 ((strF x).kind), .string (str ((strF x).tag)), .string (str ((strF x).key)), .slice (taq8_0) ((strF x).as.length) ((strF x).as.length), .string (str ((strF x).text)), .slice (kaq8_0) ((strF x).kids.length) ((strF x).kids.length)] 30, .blk bq8_1 [.int .u8 (x.kind), .string (str (x.tag)), .string (str (x.key)), .slice (taq8_1) (x.as.length) (x.as.length), .string (str (x.text)), .slice (kaq8_1) (x.kids.length) (x.kids.length)] 30, .blk b6 [.int .u8 (x.kind), .string (str (x.tag)), .string (str (x.key)), .slice (tak5) (x.as.length) (x.as.length), .string (str (x.text)), .slice (kak5) (x.kids.length) (x.kids.length)] 30, .blk b1 [.int .u8 (x.kind), .string (str (x.tag)), .string (str (x.key)), .slice (ta) (x.as.length) (tc), .string (str (x.text)), .slice (ka) (x.kids.length) (kc)] 30]) rfl (by kernel_rfl) (fun c a d v w h => by cases d <;> exact h) ((M.drew _).keep (Gle.refl _) (by simp)) ?_
   replace M := M.drew (w.drawn + 1)
   iterate 2 (refine pk_pure F (fun w M => run_loadA tok30 rfl (F.ev rfl) (cs := [.int .u8 (x.kind), .string (str (x.tag)), .string (str (x.key)), .slice (ta) (x.as.length) (tc), .string (str (x.text)), .slice (ka) (x.kids.length) (kc)]) rfl (M.cellsL (k := 3) rfl rfl)) rfl ?_; clear F a; intro a F)
   refine pk_keep ?_ rfl
   refine rl_callS F ent46 rfl rfl (ndepth_spec (x := x) M hk hl SA SK) ?_; clear F M a; rintro _ w a M rfl F
   refine rl_nil <| ⟨Keep Gq8 [.blk bq8_0 [.int .u8 ((strF x).kind), .string (str ((strF x).tag)), .string (str ((strF x).key)), .slice (taq8_0) ((strF x).as.length) ((strF x).as.length), .string (str ((strF x).text)), .slice (kaq8_0) ((strF x).kids.length) ((strF x).kids.length)] 30, .blk bq8_1 [.int .u8 (x.kind), .string (str (x.tag)), .string (str (x.key)), .slice (taq8_1) (x.as.length) (x.as.length), .string (str (x.text)), .slice (kaq8_1) (x.kids.length) (x.kids.length)] 30, .blk b6 [.int .u8 (x.kind), .string (str (x.tag)), .string (str (x.key)), .slice (tak5) (x.as.length) (x.as.length), .string (str (x.text)), .slice (kak5) (x.kids.length) (x.kids.length)] 30, .blk b1 [.int .u8 (x.kind), .string (str (x.tag)), .string (str (x.key)), .slice (ta) (x.as.length) (tc), .string (str (x.text)), .slice (ka) (x.kids.length) (kc)] 30], M.keep (Gle.refl _) (by simp), fun w h => h.mono (Gle.refl _) (by simp), ?_⟩
   refine pk_keep ?_ rfl
   refine rl_callS F ent51 rfl rfl (rdepth_all x _ _ _ _ _ _ _ _ M hk hl SA SK (by have := valid_depth hV; omega)) ?_; clear F M a; rintro _ w a M rfl F
   refine rl_nil <| ⟨Keep Gq8 [.blk bq8_0 [.int .u8 ((strF x).kind), .string (str ((strF x).tag)), .string (str ((strF x).key)), .slice (taq8_0) ((strF x).as.length) ((strF x).as.length), .string (str ((strF x).text)), .slice (kaq8_0) ((strF x).kids.length) ((strF x).kids.length)] 30, .blk bq8_1 [.int .u8 (x.kind), .string (str (x.tag)), .string (str (x.key)), .slice (taq8_1) (x.as.length) (x.as.length), .string (str (x.text)), .slice (kaq8_1) (x.kids.length) (x.kids.length)] 30, .blk b6 [.int .u8 (x.kind), .string (str (x.tag)), .string (str (x.key)), .slice (tak5) (x.as.length) (x.as.length), .string (str (x.text)), .slice (kak5) (x.kids.length) (x.kids.length)] 30, .blk b1 [.int .u8 (x.kind), .string (str (x.tag)), .string (str (x.key)), .slice (ta) (x.as.length) (tc), .string (str (x.text)), .slice (ka) (x.kids.length) (kc)] 30], M.keep (Gle.refl _) (by simp), fun w h => h.mono (Gle.refl _) (by simp), ?_⟩
   rw [depF_yes hV] at F
   refine pk_free F (fun w _ => run_eqi (F.ev rfl) (F.ev rfl)) rfl ?_; clear F a; intro a F
   refine pk_free F (fun w _ => run_move (F.ev rfl)) rfl ?_; clear F a; intro a F
   refine pk_free_g F rfl rfl (decide_eq_true rfl) (fun w _ => run_move (F.ev rfl)) rfl ?_; clear F a; intro a F
   refine pk_pure_g F rfl rfl (decide_eq_true rfl) (fun w M => run_loadA tok30 rfl (F.ev rfl) (cs := [.int .u8 (x.kind), .string (str (x.tag)), .string (str (x.key)), .slice (ta) (x.as.length) (tc), .string (str (x.text)), .slice (ka) (x.kids.length) (kc)]) rfl (M.cellsL (k := 3) rfl rfl)) rfl ?_; clear F a; intro a F
   refine pk_keep_g F rfl rfl (decide_eq_true rfl) ?_
   refine rl_guard_t F rfl rfl rfl (decide_eq_true rfl) ?_
   refine rl_callS F ent39 rfl rfl (rtext_all x 6 _ _ _ _ _ _ _ _ (ok_lim hV.1) M hk hl SA SK (by exact valid_len hV)) ?_; clear F M a; rintro _ w a M rfl F
   refine rl_nil <| ⟨Keep Gq8 [.blk bq8_0 [.int .u8 ((strF x).kind), .string (str ((strF x).tag)), .string (str ((strF x).key)), .slice (taq8_0) ((strF x).as.length) ((strF x).as.length), .string (str ((strF x).text)), .slice (kaq8_0) ((strF x).kids.length) ((strF x).kids.length)] 30, .blk bq8_1 [.int .u8 (x.kind), .string (str (x.tag)), .string (str (x.key)), .slice (taq8_1) (x.as.length) (x.as.length), .string (str (x.text)), .slice (kaq8_1) (x.kids.length) (x.kids.length)] 30, .blk b6 [.int .u8 (x.kind), .string (str (x.tag)), .string (str (x.key)), .slice (tak5) (x.as.length) (x.as.length), .string (str (x.text)), .slice (kak5) (x.kids.length) (x.kids.length)] 30, .blk b1 [.int .u8 (x.kind), .string (str (x.tag)), .string (str (x.key)), .slice (ta) (x.as.length) (tc), .string (str (x.text)), .slice (ka) (x.kids.length) (kc)] 30], M.keep (Gle.refl _) (by simp), fun w h => h.mono (Gle.refl _) (by simp), ?_⟩
   refine pk_free_g F rfl rfl (decide_eq_true rfl) (fun w _ => run_strEq (F.ev rfl) (F.ev rfl)) rfl ?_; clear F a; intro a F
   refine pk_free F (fun w _ => run_pick_t (F.ev rfl) (decide_eq_true rfl) (F.ev rfl)) rfl ?_; clear F a; intro a F
   refine pk_free F (fun w _ => run_move (F.ev rfl)) rfl ?_; clear F a; intro a F
   refine pk_pure_g F rfl rfl (decide_eq_true rfl) (fun w M => run_loadA tok30 rfl (F.ev rfl) (cs := [.int .u8 (x.kind), .string (str (x.tag)), .string (str (x.key)), .slice (tak5) (x.as.length) (x.as.length), .string (str (x.text)), .slice (kak5) (x.kids.length) (x.kids.length)]) rfl (M.cellsL (k := 2) rfl rfl)) rfl ?_; clear F a; intro a F
   refine pk_pure_g F rfl rfl (decide_eq_true rfl) (fun w M => run_loadA tok30 rfl (F.ev rfl) (cs := [.int .u8 (x.kind), .string (str (x.tag)), .string (str (x.key)), .slice (ta) (x.as.length) (tc), .string (str (x.text)), .slice (ka) (x.kids.length) (kc)]) rfl (M.cellsL (k := 3) rfl rfl)) rfl ?_; clear F a; intro a F
   refine pk_pure_g F rfl rfl (decide_eq_true rfl) (fun w M => run_loadA tok30 rfl (F.ev rfl) (cs := [.int .u8 (x.kind), .string (str (x.tag)), .string (str (x.key)), .slice (taq8_1) (x.as.length) (x.as.length), .string (str (x.text)), .slice (kaq8_1) (x.kids.length) (x.kids.length)]) rfl (M.cellsL (k := 1) rfl rfl)) rfl ?_; clear F a; intro a F
   refine pk_pure_g F rfl rfl (decide_eq_true rfl) (fun w M => run_loadA tok30 rfl (F.ev rfl) (cs := [.int .u8 (x.kind), .string (str (x.tag)), .string (str (x.key)), .slice (ta) (x.as.length) (tc), .string (str (x.text)), .slice (ka) (x.kids.length) (kc)]) rfl (M.cellsL (k := 3) rfl rfl)) rfl ?_; clear F a; intro a F
   refine pk_pure_g F rfl rfl (decide_eq_true rfl) (fun w M => run_loadA tok30 rfl (F.ev rfl) (cs := [.int .u8 ((strF x).kind), .string (str ((strF x).tag)), .string (str ((strF x).key)), .slice (taq8_0) ((strF x).as.length) ((strF x).as.length), .string (str ((strF x).text)), .slice (kaq8_0) ((strF x).kids.length) ((strF x).kids.length)]) rfl (M.cellsL (k := 0) rfl rfl)) rfl ?_; clear F a; intro a F
   refine pk_pure_g F rfl rfl (decide_eq_true rfl) (fun w M => run_loadA tok30 rfl (F.ev rfl) (cs := [.int .u8 (x.kind), .string (str (x.tag)), .string (str (x.key)), .slice (ta) (x.as.length) (tc), .string (str (x.text)), .slice (ka) (x.kids.length) (kc)]) rfl (M.cellsL (k := 3) rfl rfl)) rfl ?_; clear F a; intro a F
   refine pk_keep_g F rfl rfl (decide_eq_true rfl) ?_
   refine rl_guard_t F rfl rfl rfl (decide_eq_true rfl) ?_
   refine rl_callS F ent18 rfl rfl (rsame_spec (x := x) (u := x) M hkk5 hlk5 SAk5 (weakN SKk5) hk hl SA SK) ?_; clear F M a; rintro _ w a M rfl F
   refine rl_nil <| ⟨Keep Gq8 [.blk bq8_0 [.int .u8 ((strF x).kind), .string (str ((strF x).tag)), .string (str ((strF x).key)), .slice (taq8_0) ((strF x).as.length) ((strF x).as.length), .string (str ((strF x).text)), .slice (kaq8_0) ((strF x).kids.length) ((strF x).kids.length)] 30, .blk bq8_1 [.int .u8 (x.kind), .string (str (x.tag)), .string (str (x.key)), .slice (taq8_1) (x.as.length) (x.as.length), .string (str (x.text)), .slice (kaq8_1) (x.kids.length) (x.kids.length)] 30, .blk b6 [.int .u8 (x.kind), .string (str (x.tag)), .string (str (x.key)), .slice (tak5) (x.as.length) (x.as.length), .string (str (x.text)), .slice (kak5) (x.kids.length) (x.kids.length)] 30, .blk b1 [.int .u8 (x.kind), .string (str (x.tag)), .string (str (x.key)), .slice (ta) (x.as.length) (tc), .string (str (x.text)), .slice (ka) (x.kids.length) (kc)] 30], M.keep (Gle.refl _) (by simp), fun w h => h.mono (Gle.refl _) (by simp), ?_⟩
   refine pk_keep_g F rfl rfl (decide_eq_true rfl) ?_
   refine rl_guard_t F rfl rfl rfl (decide_eq_true rfl) ?_
   refine rl_callS F ent18 rfl rfl (rsame_spec (x := x) (u := x) M hkq8_1 hlq8_1 SAq8_1 (weakN SKq8_1) hk hl SA SK) ?_; clear F M a; rintro _ w a M rfl F
   refine rl_nil <| ⟨Keep Gq8 [.blk bq8_0 [.int .u8 ((strF x).kind), .string (str ((strF x).tag)), .string (str ((strF x).key)), .slice (taq8_0) ((strF x).as.length) ((strF x).as.length), .string (str ((strF x).text)), .slice (kaq8_0) ((strF x).kids.length) ((strF x).kids.length)] 30, .blk bq8_1 [.int .u8 (x.kind), .string (str (x.tag)), .string (str (x.key)), .slice (taq8_1) (x.as.length) (x.as.length), .string (str (x.text)), .slice (kaq8_1) (x.kids.length) (x.kids.length)] 30, .blk b6 [.int .u8 (x.kind), .string (str (x.tag)), .string (str (x.key)), .slice (tak5) (x.as.length) (x.as.length), .string (str (x.text)), .slice (kak5) (x.kids.length) (x.kids.length)] 30, .blk b1 [.int .u8 (x.kind), .string (str (x.tag)), .string (str (x.key)), .slice (ta) (x.as.length) (tc), .string (str (x.text)), .slice (ka) (x.kids.length) (kc)] 30], M.keep (Gle.refl _) (by simp), fun w h => h.mono (Gle.refl _) (by simp), ?_⟩
   try rw [sameF_yes ⟨hV, hV, rfl⟩] at F
   try rw [sameF_yes ⟨hV, hV, rfl⟩] at F
   refine pk_free_g F rfl rfl (decide_eq_true rfl) (fun w _ => run_muli (F.ev rfl) (F.ev rfl) (in_i64 (by omega) (by omega))) rfl ?_; clear F a; intro a F
   refine pk_keep_g F rfl rfl (decide_eq_true rfl) ?_
   refine rl_guard_t F rfl rfl rfl (decide_eq_true rfl) ?_
   refine rl_call F ent43 rfl rfl (rstrip_all x _ _ _ _ _ _ _ _ M hk hl SA SK) ?_; clear F M a; rintro _ Gk9 w a hGk9 M ⟨tak9, tck9, kak9, kck9, rfl, hkk9, hlk9, SAk9, SKk9⟩ F
   replace SA := SA.mono mono_rdAttr hGk9
   replace SK := SK.mono mono_rdN hGk9
   replace SAk5 := SAk5.mono mono_rdAttr hGk9
   replace SKk5 := SKk5.mono mono_rdNE hGk9
   replace SAq8_0 := SAq8_0.mono mono_rdAttr hGk9
   replace SKq8_0 := SKq8_0.mono mono_rdNE hGk9
   replace SAq8_1 := SAq8_1.mono mono_rdAttr hGk9
   replace SKq8_1 := SKq8_1.mono mono_rdNE hGk9
   refine rl_nil <| ⟨Keep Gk9 [.blk bq8_0 [.int .u8 ((strF x).kind), .string (str ((strF x).tag)), .string (str ((strF x).key)), .slice (taq8_0) ((strF x).as.length) ((strF x).as.length), .string (str ((strF x).text)), .slice (kaq8_0) ((strF x).kids.length) ((strF x).kids.length)] 30, .blk bq8_1 [.int .u8 (x.kind), .string (str (x.tag)), .string (str (x.key)), .slice (taq8_1) (x.as.length) (x.as.length), .string (str (x.text)), .slice (kaq8_1) (x.kids.length) (x.kids.length)] 30, .blk b6 [.int .u8 (x.kind), .string (str (x.tag)), .string (str (x.key)), .slice (tak5) (x.as.length) (x.as.length), .string (str (x.text)), .slice (kak5) (x.kids.length) (x.kids.length)] 30, .blk b1 [.int .u8 (x.kind), .string (str (x.tag)), .string (str (x.key)), .slice (ta) (x.as.length) (tc), .string (str (x.text)), .slice (ka) (x.kids.length) (kc)] 30], M.keep (Gle.refl _) (by simp), fun w h => h.mono hGk9 (by simp), ?_⟩
   refine pk_keep_g F rfl rfl (decide_eq_true rfl) ?_
   refine rl_guard_t F rfl rfl rfl (decide_eq_true rfl) ?_
   refine rl_callS F ent18 rfl rfl (rsame_spec (x := (strF x)) (u := (strF x)) M hkq8_0 hlq8_0 SAq8_0 (weakN SKq8_0) hkk9 hlk9 SAk9 SKk9) ?_; clear F M a; rintro _ w a M rfl F
   refine rl_nil <| ⟨Keep Gk9 [.blk bq8_0 [.int .u8 ((strF x).kind), .string (str ((strF x).tag)), .string (str ((strF x).key)), .slice (taq8_0) ((strF x).as.length) ((strF x).as.length), .string (str ((strF x).text)), .slice (kaq8_0) ((strF x).kids.length) ((strF x).kids.length)] 30, .blk bq8_1 [.int .u8 (x.kind), .string (str (x.tag)), .string (str (x.key)), .slice (taq8_1) (x.as.length) (x.as.length), .string (str (x.text)), .slice (kaq8_1) (x.kids.length) (x.kids.length)] 30, .blk b6 [.int .u8 (x.kind), .string (str (x.tag)), .string (str (x.key)), .slice (tak5) (x.as.length) (x.as.length), .string (str (x.text)), .slice (kak5) (x.kids.length) (x.kids.length)] 30, .blk b1 [.int .u8 (x.kind), .string (str (x.tag)), .string (str (x.key)), .slice (ta) (x.as.length) (tc), .string (str (x.text)), .slice (ka) (x.kids.length) (kc)] 30], M.keep (Gle.refl _) (by simp), fun w h => h.mono (Gle.refl _) (by simp), ?_⟩
   try rw [sameF_yes ⟨(strF_valid hV), (strF_valid hV), rfl⟩] at F
   refine pk_free_g F rfl rfl (decide_eq_true rfl) (fun w _ => run_muli (F.ev rfl) (F.ev rfl) (in_i64 (by omega) (by omega))) rfl ?_; clear F a; intro a F
   refine pk_free_g F rfl rfl (decide_eq_true rfl) (fun w _ => run_eqi (F.ev rfl) (F.ev rfl)) rfl ?_; clear F a; intro a F
   refine pk_free F (fun w _ => run_pick_t (F.ev rfl) (decide_eq_true rfl) (F.ev rfl)) rfl ?_; clear F a; intro a F
   refine pk_free F (fun w _ => run_move (F.ev rfl)) rfl ?_; clear F a; intro a F
   refine pk_pure_g F rfl rfl (decide_eq_true (by decide)) (fun w M => run_loadA tok30 rfl (F.ev rfl) (cs := [.int .u8 (x.kind), .string (str (x.tag)), .string (str (x.key)), .slice (tak5) (x.as.length) (x.as.length), .string (str (x.text)), .slice (kak5) (x.kids.length) (x.kids.length)]) rfl (M.cellsL (k := 2) rfl rfl)) rfl ?_; clear F a; intro a F
   refine pk_pure_g F rfl rfl (decide_eq_true (by decide)) (fun w M => run_loadA tok30 rfl (F.ev rfl) (cs := [.int .u8 ((strF x).kind), .string (str ((strF x).tag)), .string (str ((strF x).key)), .slice (taq8_0) ((strF x).as.length) ((strF x).as.length), .string (str ((strF x).text)), .slice (kaq8_0) ((strF x).kids.length) ((strF x).kids.length)]) rfl (M.cellsL (k := 0) rfl rfl)) rfl ?_; clear F a; intro a F
   refine pk_pure_g F rfl rfl (decide_eq_true (by decide)) (fun w M => run_loadA tok30 rfl (F.ev rfl) (cs := [.int .u8 (x.kind), .string (str (x.tag)), .string (str (x.key)), .slice (taq8_1) (x.as.length) (x.as.length), .string (str (x.text)), .slice (kaq8_1) (x.kids.length) (x.kids.length)]) rfl (M.cellsL (k := 1) rfl rfl)) rfl ?_; clear F a; intro a F
   refine pk_keep_g F rfl rfl (decide_eq_true (by decide)) ?_
   refine rl_guard_t F rfl rfl rfl (decide_eq_true (by decide)) ?_
   refine rl_callS F ent19 rfl rfl (nown_all x _ _ _ _ _ _ M SAk5 SKk5) ?_; clear F M a; rintro _ w a M rfl F
   refine rl_nil <| ⟨Keep Gk9 [.blk bq8_0 [.int .u8 ((strF x).kind), .string (str ((strF x).tag)), .string (str ((strF x).key)), .slice (taq8_0) ((strF x).as.length) ((strF x).as.length), .string (str ((strF x).text)), .slice (kaq8_0) ((strF x).kids.length) ((strF x).kids.length)] 30, .blk bq8_1 [.int .u8 (x.kind), .string (str (x.tag)), .string (str (x.key)), .slice (taq8_1) (x.as.length) (x.as.length), .string (str (x.text)), .slice (kaq8_1) (x.kids.length) (x.kids.length)] 30, .blk b6 [.int .u8 (x.kind), .string (str (x.tag)), .string (str (x.key)), .slice (tak5) (x.as.length) (x.as.length), .string (str (x.text)), .slice (kak5) (x.kids.length) (x.kids.length)] 30, .blk b1 [.int .u8 (x.kind), .string (str (x.tag)), .string (str (x.key)), .slice (ta) (x.as.length) (tc), .string (str (x.text)), .slice (ka) (x.kids.length) (kc)] 30], M.keep (Gle.refl _) (by simp), fun w h => h.mono (Gle.refl _) (by simp), ?_⟩
   refine pk_keep_g F rfl rfl (decide_eq_true (by decide)) ?_
   refine rl_guard_t F rfl rfl rfl (decide_eq_true (by decide)) ?_
   refine rl_callS F ent19 rfl rfl (nown_all (strF x) _ _ _ _ _ _ M SAq8_0 SKq8_0) ?_; clear F M a; rintro _ w a M rfl F
   refine rl_nil <| ⟨Keep Gk9 [.blk bq8_0 [.int .u8 ((strF x).kind), .string (str ((strF x).tag)), .string (str ((strF x).key)), .slice (taq8_0) ((strF x).as.length) ((strF x).as.length), .string (str ((strF x).text)), .slice (kaq8_0) ((strF x).kids.length) ((strF x).kids.length)] 30, .blk bq8_1 [.int .u8 (x.kind), .string (str (x.tag)), .string (str (x.key)), .slice (taq8_1) (x.as.length) (x.as.length), .string (str (x.text)), .slice (kaq8_1) (x.kids.length) (x.kids.length)] 30, .blk b6 [.int .u8 (x.kind), .string (str (x.tag)), .string (str (x.key)), .slice (tak5) (x.as.length) (x.as.length), .string (str (x.text)), .slice (kak5) (x.kids.length) (x.kids.length)] 30, .blk b1 [.int .u8 (x.kind), .string (str (x.tag)), .string (str (x.key)), .slice (ta) (x.as.length) (tc), .string (str (x.text)), .slice (ka) (x.kids.length) (kc)] 30], M.keep (Gle.refl _) (by simp), fun w h => h.mono (Gle.refl _) (by simp), ?_⟩
   refine pk_free_g F rfl rfl (decide_eq_true (by decide)) (fun w _ => run_muli (F.ev rfl) (F.ev rfl) (in_i64 (by omega) (by omega))) rfl ?_; clear F a; intro a F
   refine pk_keep_g F rfl rfl (decide_eq_true (by decide)) ?_
   refine rl_guard_t F rfl rfl rfl (decide_eq_true (by decide)) ?_
   refine rl_callS F ent19 rfl rfl (nown_all x _ _ _ _ _ _ M SAq8_1 SKq8_1) ?_; clear F M a; rintro _ w a M rfl F
   refine rl_nil <| ⟨Keep Gk9 [.blk bq8_0 [.int .u8 ((strF x).kind), .string (str ((strF x).tag)), .string (str ((strF x).key)), .slice (taq8_0) ((strF x).as.length) ((strF x).as.length), .string (str ((strF x).text)), .slice (kaq8_0) ((strF x).kids.length) ((strF x).kids.length)] 30, .blk bq8_1 [.int .u8 (x.kind), .string (str (x.tag)), .string (str (x.key)), .slice (taq8_1) (x.as.length) (x.as.length), .string (str (x.text)), .slice (kaq8_1) (x.kids.length) (x.kids.length)] 30, .blk b6 [.int .u8 (x.kind), .string (str (x.tag)), .string (str (x.key)), .slice (tak5) (x.as.length) (x.as.length), .string (str (x.text)), .slice (kak5) (x.kids.length) (x.kids.length)] 30, .blk b1 [.int .u8 (x.kind), .string (str (x.tag)), .string (str (x.key)), .slice (ta) (x.as.length) (tc), .string (str (x.text)), .slice (ka) (x.kids.length) (kc)] 30], M.keep (Gle.refl _) (by simp), fun w h => h.mono (Gle.refl _) (by simp), ?_⟩
   refine pk_free_g F rfl rfl (decide_eq_true (by decide)) (fun w _ => run_muli (F.ev rfl) (F.ev rfl) (in_i64 (by omega) (by omega))) rfl ?_; clear F a; intro a F
   refine pk_free_g F rfl rfl (decide_eq_true (by decide)) (fun w _ => run_eqi (F.ev rfl) (F.ev rfl)) rfl ?_; clear F a; intro a F
   refine pk_free F (fun w _ => run_pick_t (F.ev rfl) (decide_eq_true (by decide)) (F.ev rfl)) rfl ?_; clear F a; intro a F
   refine pk_free F (fun w _ => run_move (F.ev rfl)) rfl ?_; clear F a; intro a F
   refine pk_keep_g F rfl rfl (decide_eq_true (by decide)) ?_
   refine rl_guard_t F rfl rfl rfl (decide_eq_true (by decide)) ?_
   refine rl_callS F ent13 rfl rfl (nlives_spec M) ?_; clear F M a; rintro _ w a M rfl F
   refine rl_nil <| ⟨Keep Gk9 [.blk bq8_0 [.int .u8 ((strF x).kind), .string (str ((strF x).tag)), .string (str ((strF x).key)), .slice (taq8_0) ((strF x).as.length) ((strF x).as.length), .string (str ((strF x).text)), .slice (kaq8_0) ((strF x).kids.length) ((strF x).kids.length)] 30, .blk bq8_1 [.int .u8 (x.kind), .string (str (x.tag)), .string (str (x.key)), .slice (taq8_1) (x.as.length) (x.as.length), .string (str (x.text)), .slice (kaq8_1) (x.kids.length) (x.kids.length)] 30, .blk b6 [.int .u8 (x.kind), .string (str (x.tag)), .string (str (x.key)), .slice (tak5) (x.as.length) (x.as.length), .string (str (x.text)), .slice (kak5) (x.kids.length) (x.kids.length)] 30, .blk b1 [.int .u8 (x.kind), .string (str (x.tag)), .string (str (x.key)), .slice (ta) (x.as.length) (tc), .string (str (x.text)), .slice (ka) (x.kids.length) (kc)] 30], M.keep (Gle.refl _) (by simp), fun w h => h.mono (Gle.refl _) (by simp), ?_⟩
   refine pk_free F (fun w _ => run_pick_t (F.ev rfl) (decide_eq_true (by decide)) (F.ev rfl)) rfl ?_; clear F a; intro a F
   refine pk_free F (fun w _ => run_assign (F.ev rfl)) rfl ?_; clear F a; intro a F
   refine pk_nil <| q_tn <| wp_ret <| fin1 F rfl rfl ?_
   exact ⟨_, ((hGk5.trans hGq8).trans hGk9), M.weaken (.cons _ (.cons _ (.cons _ (.cons _ (List.Sublist.refl _))))), by rfl⟩
  ·skip
   rw [chkF_no hV] at F
   refine w_reg <| rl_run F (run_loadA tok30 rfl (F.ev rfl) (cs := [.int .u8 (x.kind), .string (str (x.tag)), .string (str (x.key)), .slice (ta) (x.as.length) (tc), .string (str (x.text)), .slice (ka) (x.kids.length) (kc)]) rfl (M.cellsL (k := 0) rfl rfl)) rfl ?_; clear F a; intro a F
   refine rl_callS F ent38 rfl rfl (ntextF_at (x := x) (y := []) (e := 14) M hk hl SA SK (text_no hV)) ?_; clear F M a; rintro _ w a M rfl F
   refine rl_run F (run_move (F.ev rfl)) rfl ?_; clear F a; intro a F
   refine rl_run F (run_extract (v := .string (str ([]))) (F.ev rfl) rfl) rfl ?_; clear F a; intro a F
   refine rl_run F (run_extract (v := .int .i64 (14)) (F.ev rfl) rfl) rfl ?_; clear F a; intro a F
   iterate 2 (refine rl_run F (run_assign (F.ev rfl)) rfl ?_; clear F a; intro a F)
   refine rl_nil <| q_tn <| wp_seq <| w_reg <| rl_run F (run_loadA tok30 rfl (F.ev rfl) (cs := [.int .u8 (x.kind), .string (str (x.tag)), .string (str (x.key)), .slice (ta) (x.as.length) (tc), .string (str (x.text)), .slice (ka) (x.kids.length) (kc)]) rfl (M.cellsL (k := 0) rfl rfl)) rfl ?_; clear F a; intro a F
   refine rl_call F ent15 rfl rfl (at_at (x := x) (ps := ([] : List Int)) (y := zeroN) (e := 14) M hk hl SA SK RdSl.nil (at_nil_no hV)) ?_; clear F M a; rintro _ Gk10 w a hGk10 M ⟨tak10, kak10, rfl, hkk10, hlk10, SAk10, SKk10⟩ F
   replace SA := SA.mono mono_rdAttr hGk10
   replace SK := SK.mono mono_rdN hGk10
   refine rl_run F (run_move (F.ev rfl)) rfl ?_; clear F a; intro a F
   refine rl_run F (run_extract (v := .agg #[.int .u8 (zeroN.kind), .string (str (zeroN.tag)), .string (str (zeroN.key)), .slice (tak10) (zeroN.as.length) (zeroN.as.length), .string (str (zeroN.text)), .slice (kak10) (zeroN.kids.length) (zeroN.kids.length)]) (F.ev rfl) rfl) rfl ?_; clear F a; intro a F
   refine rl_run F (run_extract (v := .int .i64 (14)) (F.ev rfl) rfl) rfl ?_; clear F a; intro a F
   refine rl_alloc F M tok30 rfl rfl ?_; clear F M a; intro b11 w a M F
   refine rl_storeA F M tok30 (k := 0) rfl rfl rfl (us := [.int .u8 (zeroN.kind), .string (str (zeroN.tag)), .string (str (zeroN.key)), .slice (tak10) (zeroN.as.length) (zeroN.as.length), .string (str (zeroN.text)), .slice (kak10) (zeroN.kids.length) (zeroN.kids.length)]) rfl rfl (by simp [Value.oneCell']) (by simp) ?_; clear F M a; intro w a M F
   change Mem w0 Gk10 (.blk b11 [.int .u8 (zeroN.kind), .string (str (zeroN.tag)), .string (str (zeroN.key)), .slice (tak10) (zeroN.as.length) (zeroN.as.length), .string (str (zeroN.text)), .slice (kak10) (zeroN.kids.length) (zeroN.kids.length)] 30 :: .blk b1 [.int .u8 (x.kind), .string (str (x.tag)), .string (str (x.key)), .slice (ta) (x.as.length) (tc), .string (str (x.text)), .slice (ka) (x.kids.length) (kc)] 30 :: L) _ at M
   refine rl_run F (run_assign (F.ev rfl)) rfl ?_; clear F a; intro a F
   refine rl_nil <| q_tn <| wp_seq <| w_threads [⟨0, 1, 4, 6, 1, 26, 27, 8, b1, 30, 30, 42, [.int .u8 (x.kind), .string (str (x.tag)), .string (str (x.key)), .slice (ta) (x.as.length) (tc), .string (str (x.text)), .slice (ka) (x.kids.length) (kc)], [.int .u8 (0), .string (str ([] : List UInt8)), .string (str ([] : List UInt8)), .slice none (0) (0), .string (str ([] : List UInt8)), .slice none (0) (0)], (GoodY zeroN)⟩, ⟨2, 3, 5, 7, 1, 28, 29, 9, b1, 30, 30, 49, [.int .u8 (x.kind), .string (str (x.tag)), .string (str (x.key)), .slice (ta) (x.as.length) (tc), .string (str (x.text)), .slice (ka) (x.kids.length) (kc)], [.int .u8 (0), .string (str ([] : List UInt8)), .string (str ([] : List UInt8)), .slice none (0) (0), .string (str ([] : List UInt8)), .slice none (0) (0)], (GoodY zeroN)⟩] rfl F M (by kernel_rfl) (by kernel_rfl) (by kernel_rfl) (by kernel_rfl) ⟨⟨⟨_, _, _, rfl⟩, ⟨_, _, _, _, rfl, rfl⟩, ⟨_, _, _, rfl⟩, ⟨_, _, _, rfl, rfl, rfl⟩, rfl, rfl, ⟨rfl, rfl, rfl⟩, ent42, ⟨_, tok30, rfl, rfl⟩, ⟨_, tok30, rfl, rfl⟩⟩, ⟨⟨_, _, _, rfl⟩, ⟨_, _, _, _, rfl, rfl⟩, ⟨_, _, _, rfl⟩, ⟨_, _, _, rfl, rfl, rfl⟩, rfl, rfl, ⟨rfl, rfl, rfl⟩, ent49, ⟨_, tok30, rfl, rfl⟩, ⟨_, tok30, rfl, rfl⟩⟩, trivial⟩ ⟨does_strip hk hl SA SK (strF_no hV), does_copy hk hl SA SK (cpyF_no hV), trivial⟩ ⟨⟨rfl, by simp⟩, ⟨rfl, by simp⟩, trivial⟩ ?_
   clear F M a; rintro a w Gq13 _ F hGq13 M ⟨_, _, rfl, ⟨_, bq13_0, dq13_0, eq13_0, fq13_0, ⟨taq13_0, kaq13_0, rfl, hkq13_0, hlq13_0, SAq13_0, SKq13_0⟩, rfl⟩, _, _, rfl, ⟨_, bq13_1, dq13_1, eq13_1, fq13_1, ⟨taq13_1, kaq13_1, rfl, hkq13_1, hlq13_1, SAq13_1, SKq13_1⟩, rfl⟩, rfl⟩
   replace SA := SA.mono mono_rdAttr hGq13
   replace SK := SK.mono mono_rdN hGq13
   replace SAk10 := SAk10.mono mono_rdAttr hGq13
   replace SKk10 := SKk10.mono mono_rdNE hGq13
   replace F := ((((((F.add (d := 26) (v := .agg #[.int .u8 (x.kind), .string (str (x.tag)), .string (str (x.key)), .slice (ta) (x.as.length) (tc), .string (str (x.text)), .slice (ka) (x.kids.length) (kc)]) dq13_0).add (d := 27) (v := .agg #[.int .u8 (zeroN.kind), .string (str (zeroN.tag)), .string (str (zeroN.key)), .slice (taq13_0) (zeroN.as.length) (zeroN.as.length), .string (str (zeroN.text)), .slice (kaq13_0) (zeroN.kids.length) (zeroN.kids.length)]) eq13_0).add (d := 8) (v := .pointer (some ⟨bq13_0, 0, none⟩)) fq13_0).add (d := 28) (v := .agg #[.int .u8 (x.kind), .string (str (x.tag)), .string (str (x.key)), .slice (ta) (x.as.length) (tc), .string (str (x.text)), .slice (ka) (x.kids.length) (kc)]) dq13_1).add (d := 29) (v := .agg #[.int .u8 (zeroN.kind), .string (str (zeroN.tag)), .string (str (zeroN.key)), .slice (taq13_1) (zeroN.as.length) (zeroN.as.length), .string (str (zeroN.text)), .slice (kaq13_1) (zeroN.kids.length) (zeroN.kids.length)]) eq13_1).add (d := 9) (v := .pointer (some ⟨bq13_1, 0, none⟩)) fq13_1)
   clear dq13_0 eq13_0 fq13_0 dq13_1 eq13_1 fq13_1
   change Mem w0 Gq13 (.blk bq13_0 [.int .u8 (zeroN.kind), .string (str (zeroN.tag)), .string (str (zeroN.key)), .slice (taq13_0) (zeroN.as.length) (zeroN.as.length), .string (str (zeroN.text)), .slice (kaq13_0) (zeroN.kids.length) (zeroN.kids.length)] 30 :: .blk bq13_1 [.int .u8 (zeroN.kind), .string (str (zeroN.tag)), .string (str (zeroN.key)), .slice (taq13_1) (zeroN.as.length) (zeroN.as.length), .string (str (zeroN.text)), .slice (kaq13_1) (zeroN.kids.length) (zeroN.kids.length)] 30 :: .blk b11 [.int .u8 (zeroN.kind), .string (str (zeroN.tag)), .string (str (zeroN.key)), .slice (tak10) (zeroN.as.length) (zeroN.as.length), .string (str (zeroN.text)), .slice (kak10) (zeroN.kids.length) (zeroN.kids.length)] 30 :: .blk b1 [.int .u8 (x.kind), .string (str (x.tag)), .string (str (x.key)), .slice (ta) (x.as.length) (tc), .string (str (x.text)), .slice (ka) (x.kids.length) (kc)] 30 :: L) _ at M
   refine q_tn ?_
   iterate 2 (refine wp_seq ?_)
   refine w_plan3 [(.pure, 0), (.free, 2), (.keep, 1), (.free, 3), (.free, 4), (.free, 5), (.free, 6), (.free, 7), (.free, 8), (.free, 9), (.free, 10), (.free, 11), (.free, 12), (.free, 13), (.free, 14), (.pure, 15), (.pure, 17), (.keep, 16), (.keep, 18), (.free, 19), (.free, 20), (.free, 21), (.pure, 22), (.pure, 23), (.free, 25), (.free, 26), (.keep, 24), (.free, 27), (.free, 28)] [] (Keep Gq13 [.blk bq13_0 [.int .u8 (zeroN.kind), .string (str (zeroN.tag)), .string (str (zeroN.key)), .slice (taq13_0) (zeroN.as.length) (zeroN.as.length), .string (str (zeroN.text)), .slice (kaq13_0) (zeroN.kids.length) (zeroN.kids.length)] 30, .blk bq13_1 [.int .u8 (zeroN.kind), .string (str (zeroN.tag)), .string (str (zeroN.key)), .slice (taq13_1) (zeroN.as.length) (zeroN.as.length), .string (str (zeroN.text)), .slice (kaq13_1) (zeroN.kids.length) (zeroN.kids.length)] 30, .blk b11 [.int .u8 (zeroN.kind), .string (str (zeroN.tag)), .string (str (zeroN.key)), .slice (tak10) (zeroN.as.length) (zeroN.as.length), .string (str (zeroN.text)), .slice (kak10) (zeroN.kids.length) (zeroN.kids.length)] 30, .blk b1 [.int .u8 (x.kind), .string (str (x.tag)), .string (str (x.key)), .slice (ta) (x.as.length) (tc), .string (str (x.text)), .slice (ka) (x.kids.length) (kc)] 30]) rfl (by kernel_rfl) (fun c a d v w h => by cases d <;> exact h) ((M.drew _).keep (Gle.refl _) (by simp)) ?_
   replace M := M.drew (w.drawn + 1)
   refine pk_pure F (fun w M => run_loadA tok30 rfl (F.ev rfl) (cs := [.int .u8 (x.kind), .string (str (x.tag)), .string (str (x.key)), .slice (ta) (x.as.length) (tc), .string (str (x.text)), .slice (ka) (x.kids.length) (kc)]) rfl (M.cellsL (k := 3) rfl rfl)) rfl ?_; clear F a; intro a F
   refine pk_free F (fun w _ => run_move (F.ev rfl)) rfl ?_; clear F a; intro a F
   refine pk_keep ?_ rfl
   refine rl_callS F ent30 rfl rfl (ncheck_spec (x := x) M hk hl SA SK) ?_; clear F M a; rintro _ w a M rfl F
   refine rl_nil <| ⟨Keep Gq13 [.blk bq13_0 [.int .u8 (zeroN.kind), .string (str (zeroN.tag)), .string (str (zeroN.key)), .slice (taq13_0) (zeroN.as.length) (zeroN.as.length), .string (str (zeroN.text)), .slice (kaq13_0) (zeroN.kids.length) (zeroN.kids.length)] 30, .blk bq13_1 [.int .u8 (zeroN.kind), .string (str (zeroN.tag)), .string (str (zeroN.key)), .slice (taq13_1) (zeroN.as.length) (zeroN.as.length), .string (str (zeroN.text)), .slice (kaq13_1) (zeroN.kids.length) (zeroN.kids.length)] 30, .blk b11 [.int .u8 (zeroN.kind), .string (str (zeroN.tag)), .string (str (zeroN.key)), .slice (tak10) (zeroN.as.length) (zeroN.as.length), .string (str (zeroN.text)), .slice (kak10) (zeroN.kids.length) (zeroN.kids.length)] 30, .blk b1 [.int .u8 (x.kind), .string (str (x.tag)), .string (str (x.key)), .slice (ta) (x.as.length) (tc), .string (str (x.text)), .slice (ka) (x.kids.length) (kc)] 30], M.keep (Gle.refl _) (by simp), fun w h => h.mono (Gle.refl _) (by simp), ?_⟩
   rw [chkF_no hV] at F
   refine pk_free F (fun w _ => run_nei (F.ev rfl) (F.ev rfl)) rfl ?_; clear F a; intro a F
   refine pk_free F (fun w _ => run_move (F.ev rfl)) rfl ?_; clear F a; intro a F
   iterate 2 (refine pk_free_g F rfl rfl (not_f (decide_eq_true (by decide))) (fun w _ => run_move (F.ev rfl)) rfl ?_; clear F a; intro a F)
   refine pk_free_g F rfl rfl (not_f (decide_eq_true (by decide))) (fun w _ => run_nei (F.ev rfl) (F.ev rfl)) rfl ?_; clear F a; intro a F
   refine pk_free F (fun w _ => run_pick_f (F.ev rfl) (not_f (decide_eq_true (by decide))) (F.ev rfl)) rfl ?_; clear F a; intro a F
   refine pk_free F (fun w _ => run_move (F.ev rfl)) rfl ?_; clear F a; intro a F
   iterate 2 (refine pk_free_g F rfl rfl (not_f (decide_eq_true (by decide))) (fun w _ => run_move (F.ev rfl)) rfl ?_; clear F a; intro a F)
   refine pk_free_g F rfl rfl (not_f (decide_eq_true (by decide))) (fun w _ => run_nei (F.ev rfl) (F.ev rfl)) rfl ?_; clear F a; intro a F
   refine pk_free F (fun w _ => run_pick_f (F.ev rfl) (not_f (decide_eq_true (by decide))) (F.ev rfl)) rfl ?_; clear F a; intro a F
   refine pk_free F (fun w _ => run_move (F.ev rfl)) rfl ?_; clear F a; intro a F
   iterate 2 (refine pk_pure_g F rfl rfl (not_f (decide_eq_true (by decide))) (fun w M => run_loadA tok30 rfl (F.ev rfl) (cs := [.int .u8 (x.kind), .string (str (x.tag)), .string (str (x.key)), .slice (ta) (x.as.length) (tc), .string (str (x.text)), .slice (ka) (x.kids.length) (kc)]) rfl (M.cellsL (k := 3) rfl rfl)) rfl ?_; clear F a; intro a F)
   refine pk_keep_g F rfl rfl (not_f (decide_eq_true (by decide))) ?_
   refine rl_guard_t F rfl rfl rfl (not_f (decide_eq_true (by decide))) ?_
   refine rl_callS F ent17 rfl rfl (ncount_spec (x := x) M hk hl SA SK) ?_; clear F M a; rintro _ w a M rfl F
   refine rl_nil <| ⟨Keep Gq13 [.blk bq13_0 [.int .u8 (zeroN.kind), .string (str (zeroN.tag)), .string (str (zeroN.key)), .slice (taq13_0) (zeroN.as.length) (zeroN.as.length), .string (str (zeroN.text)), .slice (kaq13_0) (zeroN.kids.length) (zeroN.kids.length)] 30, .blk bq13_1 [.int .u8 (zeroN.kind), .string (str (zeroN.tag)), .string (str (zeroN.key)), .slice (taq13_1) (zeroN.as.length) (zeroN.as.length), .string (str (zeroN.text)), .slice (kaq13_1) (zeroN.kids.length) (zeroN.kids.length)] 30, .blk b11 [.int .u8 (zeroN.kind), .string (str (zeroN.tag)), .string (str (zeroN.key)), .slice (tak10) (zeroN.as.length) (zeroN.as.length), .string (str (zeroN.text)), .slice (kak10) (zeroN.kids.length) (zeroN.kids.length)] 30, .blk b1 [.int .u8 (x.kind), .string (str (x.tag)), .string (str (x.key)), .slice (ta) (x.as.length) (tc), .string (str (x.text)), .slice (ka) (x.kids.length) (kc)] 30], M.keep (Gle.refl _) (by simp), fun w h => h.mono (Gle.refl _) (by simp), ?_⟩
   refine pk_keep_g F rfl rfl (not_f (decide_eq_true (by decide))) ?_
   refine rl_guard_t F rfl rfl rfl (not_f (decide_eq_true (by decide))) ?_
   refine rl_callS F ent50 rfl rfl (rcount_spec (x := x) M hk hl SA SK) ?_; clear F M a; rintro _ w a M rfl F
   refine rl_nil <| ⟨Keep Gq13 [.blk bq13_0 [.int .u8 (zeroN.kind), .string (str (zeroN.tag)), .string (str (zeroN.key)), .slice (taq13_0) (zeroN.as.length) (zeroN.as.length), .string (str (zeroN.text)), .slice (kaq13_0) (zeroN.kids.length) (zeroN.kids.length)] 30, .blk bq13_1 [.int .u8 (zeroN.kind), .string (str (zeroN.tag)), .string (str (zeroN.key)), .slice (taq13_1) (zeroN.as.length) (zeroN.as.length), .string (str (zeroN.text)), .slice (kaq13_1) (zeroN.kids.length) (zeroN.kids.length)] 30, .blk b11 [.int .u8 (zeroN.kind), .string (str (zeroN.tag)), .string (str (zeroN.key)), .slice (tak10) (zeroN.as.length) (zeroN.as.length), .string (str (zeroN.text)), .slice (kak10) (zeroN.kids.length) (zeroN.kids.length)] 30, .blk b1 [.int .u8 (x.kind), .string (str (x.tag)), .string (str (x.key)), .slice (ta) (x.as.length) (tc), .string (str (x.text)), .slice (ka) (x.kids.length) (kc)] 30], M.keep (Gle.refl _) (by simp), fun w h => h.mono (Gle.refl _) (by simp), ?_⟩
   refine pk_free_g F rfl rfl (not_f (decide_eq_true (by decide))) (fun w _ => run_nei (F.ev rfl) (F.ev rfl)) rfl ?_; clear F a; intro a F
   refine pk_free F (fun w _ => run_pick_f (F.ev rfl) (not_f (decide_eq_true (by decide))) (F.ev rfl)) rfl ?_; clear F a; intro a F
   refine pk_free F (fun w _ => run_move (F.ev rfl)) rfl ?_; clear F a; intro a F
   iterate 2 (refine pk_pure_g F rfl rfl (not_f (decide_eq_true rfl)) (fun w M => run_loadA tok30 rfl (F.ev rfl) (cs := [.int .u8 (x.kind), .string (str (x.tag)), .string (str (x.key)), .slice (ta) (x.as.length) (tc), .string (str (x.text)), .slice (ka) (x.kids.length) (kc)]) rfl (M.cellsL (k := 3) rfl rfl)) rfl ?_; clear F a; intro a F)
   refine pk_free_g F rfl rfl (not_f (decide_eq_true rfl)) (fun w _ => run_move (F.ev rfl)) rfl ?_; clear F a; intro a F
   refine pk_free_g F rfl rfl (not_f (decide_eq_true rfl)) (fun w _ => run_eqi (F.ev rfl) (F.ev rfl)) rfl ?_; clear F a; intro a F
   refine pk_keep_g F rfl rfl (not_f (decide_eq_true rfl)) ?_
   refine rl_guard_t F rfl rfl rfl (not_f (decide_eq_true rfl)) ?_
   refine rl_callS F ent41 rfl rfl (nsame_spec (x := x) (u := x) M hk hl SA SK hk hl SA SK) ?_; clear F M a; rintro _ w a M rfl F
   refine rl_nil <| ⟨Keep Gq13 [.blk bq13_0 [.int .u8 (zeroN.kind), .string (str (zeroN.tag)), .string (str (zeroN.key)), .slice (taq13_0) (zeroN.as.length) (zeroN.as.length), .string (str (zeroN.text)), .slice (kaq13_0) (zeroN.kids.length) (zeroN.kids.length)] 30, .blk bq13_1 [.int .u8 (zeroN.kind), .string (str (zeroN.tag)), .string (str (zeroN.key)), .slice (taq13_1) (zeroN.as.length) (zeroN.as.length), .string (str (zeroN.text)), .slice (kaq13_1) (zeroN.kids.length) (zeroN.kids.length)] 30, .blk b11 [.int .u8 (zeroN.kind), .string (str (zeroN.tag)), .string (str (zeroN.key)), .slice (tak10) (zeroN.as.length) (zeroN.as.length), .string (str (zeroN.text)), .slice (kak10) (zeroN.kids.length) (zeroN.kids.length)] 30, .blk b1 [.int .u8 (x.kind), .string (str (x.tag)), .string (str (x.key)), .slice (ta) (x.as.length) (tc), .string (str (x.text)), .slice (ka) (x.kids.length) (kc)] 30], M.keep (Gle.refl _) (by simp), fun w h => h.mono (Gle.refl _) (by simp), ?_⟩
   rw [nsamF_no hV] at F
   refine pk_free_g F rfl rfl (not_f (decide_eq_true rfl)) (fun w _ => run_neb tok4.k (F.ev rfl) (F.ev rfl)) rfl ?_; clear F a; intro a F
   refine pk_free F (fun w _ => run_pick_f (F.ev rfl) (not_f (decide_eq_true rfl)) (F.ev rfl)) rfl ?_; clear F a; intro a F
   refine pk_nil <| q_tn <| w_cond_f F rfl (by decide) ?_
   refine wp_skip <| q_tn ?_
   iterate 2 (refine wp_seq ?_)
   refine w_reg <| rl_run F (run_move (F.ev rfl)) rfl ?_; clear F a; intro a F
   refine rl_run F (run_nei (F.ev rfl) (F.ev rfl)) rfl ?_; clear F a; intro a F
   refine rl_nil <| q_tn <| w_cond_t F rfl (not_t (decide_eq_false (by decide))) ?_
   refine wp_seq <| w_plan3 [(.pure, 0), (.keep, 1), (.free, 2), (.free, 3), (.free, 4), (.free, 5), (.free, 6), (.free, 7), (.pure, 8), (.pure, 10), (.pure, 13), (.keep, 9), (.keep, 11), (.free, 12), (.keep, 14), (.free, 15), (.free, 16), (.free, 17), (.free, 18), (.keep, 19), (.free, 20), (.free, 21)] [] (Keep Gq13 [.blk bq13_0 [.int .u8 (zeroN.kind), .string (str (zeroN.tag)), .string (str (zeroN.key)), .slice (taq13_0) (zeroN.as.length) (zeroN.as.length), .string (str (zeroN.text)), .slice (kaq13_0) (zeroN.kids.length) (zeroN.kids.length)] 30, .blk bq13_1 [.int .u8 (zeroN.kind), .string (str (zeroN.tag)), .string (str (zeroN.key)), .slice (taq13_1) (zeroN.as.length) (zeroN.as.length), .string (str (zeroN.text)), .slice (kaq13_1) (zeroN.kids.length) (zeroN.kids.length)] 30, .blk b11 [.int .u8 (zeroN.kind), .string (str (zeroN.tag)), .string (str (zeroN.key)), .slice (tak10) (zeroN.as.length) (zeroN.as.length), .string (str (zeroN.text)), .slice (kak10) (zeroN.kids.length) (zeroN.kids.length)] 30, .blk b1 [.int .u8 (x.kind), .string (str (x.tag)), .string (str (x.key)), .slice (ta) (x.as.length) (tc), .string (str (x.text)), .slice (ka) (x.kids.length) (kc)] 30]) rfl (by kernel_rfl) (fun c a d v w h => by cases d <;> exact h) ((M.drew _).keep (Gle.refl _) (by simp)) ?_
   replace M := M.drew (w.drawn + 1)
   refine pk_pure F (fun w M => run_loadA tok30 rfl (F.ev rfl) (cs := [.int .u8 (x.kind), .string (str (x.tag)), .string (str (x.key)), .slice (ta) (x.as.length) (tc), .string (str (x.text)), .slice (ka) (x.kids.length) (kc)]) rfl (M.cellsL (k := 3) rfl rfl)) rfl ?_; clear F a; intro a F
   refine pk_keep ?_ rfl
   refine rl_callS F ent46 rfl rfl (ndepth_spec (x := x) M hk hl SA SK) ?_; clear F M a; rintro _ w a M rfl F
   refine rl_nil <| ⟨Keep Gq13 [.blk bq13_0 [.int .u8 (zeroN.kind), .string (str (zeroN.tag)), .string (str (zeroN.key)), .slice (taq13_0) (zeroN.as.length) (zeroN.as.length), .string (str (zeroN.text)), .slice (kaq13_0) (zeroN.kids.length) (zeroN.kids.length)] 30, .blk bq13_1 [.int .u8 (zeroN.kind), .string (str (zeroN.tag)), .string (str (zeroN.key)), .slice (taq13_1) (zeroN.as.length) (zeroN.as.length), .string (str (zeroN.text)), .slice (kaq13_1) (zeroN.kids.length) (zeroN.kids.length)] 30, .blk b11 [.int .u8 (zeroN.kind), .string (str (zeroN.tag)), .string (str (zeroN.key)), .slice (tak10) (zeroN.as.length) (zeroN.as.length), .string (str (zeroN.text)), .slice (kak10) (zeroN.kids.length) (zeroN.kids.length)] 30, .blk b1 [.int .u8 (x.kind), .string (str (x.tag)), .string (str (x.key)), .slice (ta) (x.as.length) (tc), .string (str (x.text)), .slice (ka) (x.kids.length) (kc)] 30], M.keep (Gle.refl _) (by simp), fun w h => h.mono (Gle.refl _) (by simp), ?_⟩
   rw [depF_no hV] at F
   refine pk_free F (fun w _ => run_eqi (F.ev rfl) (F.ev rfl)) rfl ?_; clear F a; intro a F
   refine pk_free F (fun w _ => run_move (F.ev rfl)) rfl ?_; clear F a; intro a F
   refine pk_free_g F rfl rfl (decide_eq_true (by decide)) (fun w _ => run_move (F.ev rfl)) rfl ?_; clear F a; intro a F
   refine pk_free_g F rfl rfl (decide_eq_true (by decide)) (fun w _ => run_strEq (F.ev rfl) (F.ev rfl)) rfl ?_; clear F a; intro a F
   refine pk_free F (fun w _ => run_pick_t (F.ev rfl) (decide_eq_true (by decide)) (F.ev rfl)) rfl ?_; clear F a; intro a F
   refine pk_free F (fun w _ => run_move (F.ev rfl)) rfl ?_; clear F a; intro a F
   refine pk_pure_g F rfl rfl (by decide) (fun w M => run_loadA tok30 rfl (F.ev rfl) (cs := [.int .u8 (zeroN.kind), .string (str (zeroN.tag)), .string (str (zeroN.key)), .slice (tak10) (zeroN.as.length) (zeroN.as.length), .string (str (zeroN.text)), .slice (kak10) (zeroN.kids.length) (zeroN.kids.length)]) rfl (M.cellsL (k := 2) rfl rfl)) rfl ?_; clear F a; intro a F
   refine pk_pure_g F rfl rfl (by decide) (fun w M => run_loadA tok30 rfl (F.ev rfl) (cs := [.int .u8 (zeroN.kind), .string (str (zeroN.tag)), .string (str (zeroN.key)), .slice (taq13_0) (zeroN.as.length) (zeroN.as.length), .string (str (zeroN.text)), .slice (kaq13_0) (zeroN.kids.length) (zeroN.kids.length)]) rfl (M.cellsL (k := 0) rfl rfl)) rfl ?_; clear F a; intro a F
   refine pk_pure_g F rfl rfl (by decide) (fun w M => run_loadA tok30 rfl (F.ev rfl) (cs := [.int .u8 (zeroN.kind), .string (str (zeroN.tag)), .string (str (zeroN.key)), .slice (taq13_1) (zeroN.as.length) (zeroN.as.length), .string (str (zeroN.text)), .slice (kaq13_1) (zeroN.kids.length) (zeroN.kids.length)]) rfl (M.cellsL (k := 1) rfl rfl)) rfl ?_; clear F a; intro a F
   refine pk_keep_g F rfl rfl (by decide) ?_
   refine rl_guard_t F rfl rfl rfl (by decide) ?_
   refine rl_callS F ent16 rfl rfl (nzero_spec (x := zeroN) M hkk10 hlk10 SAk10 (weakN SKk10)) ?_; clear F M a; rintro _ w a M rfl F
   refine rl_nil <| ⟨Keep Gq13 [.blk bq13_0 [.int .u8 (zeroN.kind), .string (str (zeroN.tag)), .string (str (zeroN.key)), .slice (taq13_0) (zeroN.as.length) (zeroN.as.length), .string (str (zeroN.text)), .slice (kaq13_0) (zeroN.kids.length) (zeroN.kids.length)] 30, .blk bq13_1 [.int .u8 (zeroN.kind), .string (str (zeroN.tag)), .string (str (zeroN.key)), .slice (taq13_1) (zeroN.as.length) (zeroN.as.length), .string (str (zeroN.text)), .slice (kaq13_1) (zeroN.kids.length) (zeroN.kids.length)] 30, .blk b11 [.int .u8 (zeroN.kind), .string (str (zeroN.tag)), .string (str (zeroN.key)), .slice (tak10) (zeroN.as.length) (zeroN.as.length), .string (str (zeroN.text)), .slice (kak10) (zeroN.kids.length) (zeroN.kids.length)] 30, .blk b1 [.int .u8 (x.kind), .string (str (x.tag)), .string (str (x.key)), .slice (ta) (x.as.length) (tc), .string (str (x.text)), .slice (ka) (x.kids.length) (kc)] 30], M.keep (Gle.refl _) (by simp), fun w h => h.mono (Gle.refl _) (by simp), ?_⟩
   refine pk_keep_g F rfl rfl (by decide) ?_
   refine rl_guard_t F rfl rfl rfl (by decide) ?_
   refine rl_callS F ent16 rfl rfl (nzero_spec (x := zeroN) M hkq13_0 hlq13_0 SAq13_0 (weakN SKq13_0)) ?_; clear F M a; rintro _ w a M rfl F
   refine rl_nil <| ⟨Keep Gq13 [.blk bq13_0 [.int .u8 (zeroN.kind), .string (str (zeroN.tag)), .string (str (zeroN.key)), .slice (taq13_0) (zeroN.as.length) (zeroN.as.length), .string (str (zeroN.text)), .slice (kaq13_0) (zeroN.kids.length) (zeroN.kids.length)] 30, .blk bq13_1 [.int .u8 (zeroN.kind), .string (str (zeroN.tag)), .string (str (zeroN.key)), .slice (taq13_1) (zeroN.as.length) (zeroN.as.length), .string (str (zeroN.text)), .slice (kaq13_1) (zeroN.kids.length) (zeroN.kids.length)] 30, .blk b11 [.int .u8 (zeroN.kind), .string (str (zeroN.tag)), .string (str (zeroN.key)), .slice (tak10) (zeroN.as.length) (zeroN.as.length), .string (str (zeroN.text)), .slice (kak10) (zeroN.kids.length) (zeroN.kids.length)] 30, .blk b1 [.int .u8 (x.kind), .string (str (x.tag)), .string (str (x.key)), .slice (ta) (x.as.length) (tc), .string (str (x.text)), .slice (ka) (x.kids.length) (kc)] 30], M.keep (Gle.refl _) (by simp), fun w h => h.mono (Gle.refl _) (by simp), ?_⟩
   try rw [zerF_yes] at F
   try rw [zerF_yes] at F
   refine pk_free_g F rfl rfl (by decide) (fun w _ => run_muli (F.ev rfl) (F.ev rfl) (in_i64 (by omega) (by omega))) rfl ?_; clear F a; intro a F
   refine pk_keep_g F rfl rfl (by decide) ?_
   refine rl_guard_t F rfl rfl rfl (by decide) ?_
   refine rl_callS F ent16 rfl rfl (nzero_spec (x := zeroN) M hkq13_1 hlq13_1 SAq13_1 (weakN SKq13_1)) ?_; clear F M a; rintro _ w a M rfl F
   refine rl_nil <| ⟨Keep Gq13 [.blk bq13_0 [.int .u8 (zeroN.kind), .string (str (zeroN.tag)), .string (str (zeroN.key)), .slice (taq13_0) (zeroN.as.length) (zeroN.as.length), .string (str (zeroN.text)), .slice (kaq13_0) (zeroN.kids.length) (zeroN.kids.length)] 30, .blk bq13_1 [.int .u8 (zeroN.kind), .string (str (zeroN.tag)), .string (str (zeroN.key)), .slice (taq13_1) (zeroN.as.length) (zeroN.as.length), .string (str (zeroN.text)), .slice (kaq13_1) (zeroN.kids.length) (zeroN.kids.length)] 30, .blk b11 [.int .u8 (zeroN.kind), .string (str (zeroN.tag)), .string (str (zeroN.key)), .slice (tak10) (zeroN.as.length) (zeroN.as.length), .string (str (zeroN.text)), .slice (kak10) (zeroN.kids.length) (zeroN.kids.length)] 30, .blk b1 [.int .u8 (x.kind), .string (str (x.tag)), .string (str (x.key)), .slice (ta) (x.as.length) (tc), .string (str (x.text)), .slice (ka) (x.kids.length) (kc)] 30], M.keep (Gle.refl _) (by simp), fun w h => h.mono (Gle.refl _) (by simp), ?_⟩
   try rw [zerF_yes] at F
   refine pk_free_g F rfl rfl (by decide) (fun w _ => run_muli (F.ev rfl) (F.ev rfl) (in_i64 (by omega) (by omega))) rfl ?_; clear F a; intro a F
   refine pk_free_g F rfl rfl (by decide) (fun w _ => run_eqi (F.ev rfl) (F.ev rfl)) rfl ?_; clear F a; intro a F
   refine pk_free F (fun w _ => run_pick_t (F.ev rfl) (by decide) (F.ev rfl)) rfl ?_; clear F a; intro a F
   refine pk_free F (fun w _ => run_move (F.ev rfl)) rfl ?_; clear F a; intro a F
   refine pk_keep_g F rfl rfl (decide_eq_true (by decide)) ?_
   refine rl_guard_t F rfl rfl rfl (decide_eq_true (by decide)) ?_
   refine rl_callS F ent13 rfl rfl (nlives_spec M) ?_; clear F M a; rintro _ w a M rfl F
   refine rl_nil <| ⟨Keep Gq13 [.blk bq13_0 [.int .u8 (zeroN.kind), .string (str (zeroN.tag)), .string (str (zeroN.key)), .slice (taq13_0) (zeroN.as.length) (zeroN.as.length), .string (str (zeroN.text)), .slice (kaq13_0) (zeroN.kids.length) (zeroN.kids.length)] 30, .blk bq13_1 [.int .u8 (zeroN.kind), .string (str (zeroN.tag)), .string (str (zeroN.key)), .slice (taq13_1) (zeroN.as.length) (zeroN.as.length), .string (str (zeroN.text)), .slice (kaq13_1) (zeroN.kids.length) (zeroN.kids.length)] 30, .blk b11 [.int .u8 (zeroN.kind), .string (str (zeroN.tag)), .string (str (zeroN.key)), .slice (tak10) (zeroN.as.length) (zeroN.as.length), .string (str (zeroN.text)), .slice (kak10) (zeroN.kids.length) (zeroN.kids.length)] 30, .blk b1 [.int .u8 (x.kind), .string (str (x.tag)), .string (str (x.key)), .slice (ta) (x.as.length) (tc), .string (str (x.text)), .slice (ka) (x.kids.length) (kc)] 30], M.keep (Gle.refl _) (by simp), fun w h => h.mono (Gle.refl _) (by simp), ?_⟩
   refine pk_free F (fun w _ => run_pick_t (F.ev rfl) (decide_eq_true (by decide)) (F.ev rfl)) rfl ?_; clear F a; intro a F
   refine pk_free F (fun w _ => run_assign (F.ev rfl)) rfl ?_; clear F a; intro a F
   refine pk_nil <| q_tn <| wp_ret <| q_tr <| fin1 F rfl rfl ?_
   exact ⟨_, (hGk10.trans hGq13), M.weaken (.cons _ (.cons _ (.cons _ (.cons _ (List.Sublist.refl _))))), by rfl⟩
theorem nodesCheck_spec {w0 w : World} {G : Ghost} {L : List Res} (M : Mem w0 G L w) {x : NT} {ta : Option Addr} {tc : Nat} {ka : Option Addr} {kc : Nat} (hk : inKind .u8 x.kind) (hl : (x.tag.length ≤ 9223372036854775807 ∧ x.key.length ≤ 9223372036854775807 ∧ x.text.length ≤ 9223372036854775807)) (SA : RdSl rdAttr 2 G (.slice ta x.as.length tc) x.as) (SK : RdSl rdN 6 G (.slice ka x.kids.length kc) x.kids) : Calls Tryz.prog 11 #[.agg #[.int .u8 (x.kind), .string (str (x.tag)), .string (str (x.key)), .slice (ta) (x.as.length) (tc), .string (str (x.text)), .slice (ka) (x.kids.length) (kc)]] w (RetS w0 G L fun v => v = .bool true) := Ret.plain M (nodesCheck_ret M hk hl SA SK)
end Go.Proofs.YtlnehkjmmegkhaaGreat
