/- The walks, part V. -/
import Derived.Test.YtlnehkjmmegkhaaGreatWalkS
namespace Go.Proofs.YtlnehkjmmegkhaaGreat
open Go Go.Y Go.Proofs
set_option linter.unusedSimpArgs false
set_option linter.unusedVariables false
def WeighP (x : PT) : Prop := ∀ (w0 w : World) (G : Ghost) (L : List Res) (ta ka : Option Addr) (tc kc lev : Nat), Mem w0 G L w → inKind .u8 x.kind → (x.tag.length ≤ 9223372036854775807 ∧ x.key.length ≤ 9223372036854775807 ∧ x.text.length ≤ 9223372036854775807) → RdSl rdSlot 3 G (.slice ta x.as.length tc) x.as → RdSl rdP 6 G (.slice ka x.kids.length kc) x.kids → lev ≤ 8 →
    Calls Tryz.prog 33 #[.agg #[.int .u8 (x.kind), .string (str (x.tag)), .string (str (x.key)), .slice (ta) (x.as.length) (tc), .string (str (x.text)), .slice (ka) (x.kids.length) (kc)], .int .i64 (lev : Int)] w (RetS w0 G L fun v => ∃ r : Nat, v = .int .i64 (r : Int) ∧ r ≤ 151 + 150 * lev)
theorem weigh_step {x : PT} (ih : ∀ y ∈ x.kids, WeighP y) {w0 w : World} {G : Ghost} {L : List Res} (M : Mem w0 G L w) {ta : Option Addr} {tc : Nat} {ka : Option Addr} {kc : Nat} (hk : inKind .u8 x.kind) (hl : (x.tag.length ≤ 9223372036854775807 ∧ x.key.length ≤ 9223372036854775807 ∧ x.text.length ≤ 9223372036854775807)) (SA : RdSl rdSlot 3 G (.slice ta x.as.length tc) x.as) (SK : RdSl rdP 6 G (.slice ka x.kids.length kc) x.kids) {lev : Nat} (hlev : lev ≤ 8) : Calls Tryz.prog 33 #[.agg #[.int .u8 (x.kind), .string (str (x.tag)), .string (str (x.key)), .slice (ta) (x.as.length) (tc), .string (str (x.text)), .slice (ka) (x.kids.length) (kc)], .int .i64 (lev : Int)] w (RetS w0 G L fun v => ∃ r : Nat, v = .int .i64 (r : Int) ∧ r ≤ 151 + 150 * lev) := by
  refine calls_start (vs := [_, _]) Tryz.func33 rfl (n := 43) rfl rfl ?_
  intro a F
  refine wp_seq <| w_reg <| rl_box F M rfl (cs := [.int .u8 (x.kind), .string (str (x.tag)), .string (str (x.key)), .slice (ta) (x.as.length) (tc), .string (str (x.text)), .slice (ka) (x.kids.length) (kc)]) rfl rfl ?_; clear F M a; intro b1 w a M F
  refine rl_run F (run_assign (F.ev rfl)) rfl ?_; clear F a; intro a F
  refine rl_nil <| q_tn ?_
  iterate 2 (refine wp_seq ?_)
  refine w_reg <| rl_run F (run_move (F.ev rfl)) rfl ?_; clear F a; intro a F
  refine rl_run F (run_eqi (F.ev rfl) (F.ev rfl)) rfl ?_; clear F a; intro a F
  refine rl_run F (run_move (F.ev rfl)) rfl ?_; clear F a; intro a F
  rcases Bool.eq_false_or_eq_true (decide ((lev : Int) = 0)) with hc | hc
  · skip
    have h2b := hc; clear hc
    have h2 : (lev : Int) = 0 := of_decide_eq_true h2b
    iterate 4 (refine rl_guard_f F rfl rfl rfl h2b ?_; clear F a; intro a F)
    refine rl_run F (run_pick_t (F.ev rfl) h2b (F.ev rfl)) rfl ?_; clear F a; intro a F
    refine rl_run F (run_move (F.ev rfl)) rfl ?_; clear F a; intro a F
    iterate 4 (refine rl_guard_f F rfl rfl rfl rfl ?_; clear F a; intro a F)
    refine rl_run F (run_pick_t (F.ev rfl) rfl (F.ev rfl)) rfl ?_; clear F a; intro a F
    refine rl_nil <| q_tn <| w_cond_t F rfl rfl ?_
    refine wp_seq <| w_reg <| rl_run F (run_assign (F.ev rfl)) rfl ?_; clear F a; intro a F
    refine rl_nil <| q_tn <| wp_ret <| q_tr <| fin1 F rfl rfl ?_
    exact ⟨M.weaken (.cons _ (List.Sublist.refl _)), 151, rfl, by omega⟩
  · skip
    have h3b := hc; clear hc
    have h3 : ¬ ((lev : Int) = 0) := of_decide_eq_false h3b
    refine rl_guard_t F rfl rfl rfl h3b ?_
    refine rl_run F (run_fieldAddr tok46.k rfl rfl (F.ev rfl)) rfl ?_; clear F a; intro a F
    refine rl_guard_t F rfl rfl rfl h3b ?_
    refine rl_run F (run_load1 (agf tok44 rfl) (F.ev rfl) (M.cellL (k := 0) rfl rfl)) rfl ?_; clear F a; intro a F
    refine rl_guard_t F rfl rfl rfl h3b ?_
    refine rl_run F (run_lenSl tok44.k (F.ev rfl)) rfl ?_; clear F a; intro a F
    refine rl_guard_t F rfl rfl rfl h3b ?_
    refine rl_run F (run_gtr (F.ev rfl) (F.ev rfl)) rfl ?_; clear F a; intro a F
    refine rl_run F (run_pick_f (F.ev rfl) h3b (F.ev rfl)) rfl ?_; clear F a; intro a F
    refine rl_run F (run_move (F.ev rfl)) rfl ?_; clear F a; intro a F
    rcases Bool.eq_false_or_eq_true (decide (20 < ((x.kids.length : Nat) : Int))) with hc | hc
    · skip
      have h4b := hc; clear hc
      have h4 : 20 < ((x.kids.length : Nat) : Int) := of_decide_eq_true h4b
      iterate 4 (refine rl_guard_f F rfl rfl rfl h4b ?_; clear F a; intro a F)
      refine rl_run F (run_pick_t (F.ev rfl) h4b (F.ev rfl)) rfl ?_; clear F a; intro a F
      refine rl_nil <| q_tn <| w_cond_t F rfl rfl ?_
      refine wp_seq <| w_reg <| rl_run F (run_assign (F.ev rfl)) rfl ?_; clear F a; intro a F
      refine rl_nil <| q_tn <| wp_ret <| q_tr <| fin1 F rfl rfl ?_
      exact ⟨M.weaken (.cons _ (List.Sublist.refl _)), 151, rfl, by omega⟩
    · skip
      have h5b := hc; clear hc
      have h5 : ¬ (20 < ((x.kids.length : Nat) : Int)) := of_decide_eq_false h5b
      refine rl_guard_t F rfl rfl rfl h5b ?_
      refine rl_run F (run_fieldAddr tok46.k rfl rfl (F.ev rfl)) rfl ?_; clear F a; intro a F
      refine rl_guard_t F rfl rfl rfl h5b ?_
      refine rl_run F (run_load1 (agf tok43 rfl) (F.ev rfl) (M.cellL (k := 0) rfl rfl)) rfl ?_; clear F a; intro a F
      refine rl_guard_t F rfl rfl rfl h5b ?_
      refine rl_run F (run_lenSl tok43.k (F.ev rfl)) rfl ?_; clear F a; intro a F
      refine rl_guard_t F rfl rfl rfl h5b ?_
      refine rl_run F (run_gtr (F.ev rfl) (F.ev rfl)) rfl ?_; clear F a; intro a F
      refine rl_run F (run_pick_f (F.ev rfl) h5b (F.ev rfl)) rfl ?_; clear F a; intro a F
      refine rl_nil <| q_tn <| w_cond F rfl ?_ ?_
      · intro hc
        have h6b := hc; clear hc
        have h6 : 20 < ((x.as.length : Nat) : Int) := of_decide_eq_true h6b
        refine wp_seq <| w_reg <| rl_run F (run_assign (F.ev rfl)) rfl ?_; clear F a; intro a F
        refine rl_nil <| q_tn <| wp_ret <| q_tr <| fin1 F rfl rfl ?_
        exact ⟨M.weaken (.cons _ (List.Sublist.refl _)), 151, rfl, by omega⟩
      · intro hc
        have h7b := hc; clear hc
        have h7 : ¬ (20 < ((x.as.length : Nat) : Int)) := of_decide_eq_false h7b
        refine wp_skip <| q_tn <| wp_seq <| w_reg <| rl_run F (run_assign (F.ev rfl)) rfl ?_; clear F a; intro a F
        refine rl_nil <| q_tn ?_
        iterate 2 (refine wp_seq ?_)
        refine w_reg <| rl_run F (run_assign (F.ev rfl)) rfl ?_; clear F a; intro a F
        refine rl_nil <| q_tn <| wp_block <| w_loopN (fun m a' w' => ∃ (i : Nat), ∃ (c : Nat), m = x.kids.length - i ∧ Fits 43 a' [(1, .int .i64 ((lev : Int))), (2, .pointer (some ⟨b1, 0, none⟩)), (5, .int .i64 (((c : Nat) : Int))), (6, .int .i64 (((i : Nat) : Int)))] ∧ Mem w0 G (.blk b1 [.int .u8 (x.kind), .string (str (x.tag)), .string (str (x.key)), .slice (ta) (x.as.length) (tc), .string (str (x.text)), .slice (ka) (x.kids.length) (kc)] 46 :: L) w' ∧ (i ≤ x.kids.length) ∧ (c ≤ 151 + 150 * lev)) _ ⟨0, 1, rfl, F.to ⟨rfl, rfl, rfl, rfl, trivial⟩, M, Nat.zero_le _, by omega⟩ ?_
        clear F M
        rintro m a w ⟨i, c, rfl, F, M, hi, hL⟩
        iterate 2 (refine wp_seq ?_)
        refine w_reg <| rl_run F (run_move (F.ev rfl)) rfl ?_; clear F a; intro a F
        refine rl_run F (run_fieldAddr tok46.k rfl rfl (F.ev rfl)) rfl ?_; clear F a; intro a F
        refine rl_run F (run_load1 (agf tok44 rfl) (F.ev rfl) (M.cellL (k := 0) rfl rfl)) rfl ?_; clear F a; intro a F
        refine rl_run F (run_lenSl tok44.k (F.ev rfl)) rfl ?_; clear F a; intro a F
        refine rl_run F (run_lss (F.ev rfl) (F.ev rfl)) rfl ?_; clear F a; intro a F
        refine rl_run F (run_move (F.ev rfl)) rfl ?_; clear F a; intro a F
        rcases Bool.eq_false_or_eq_true (decide (((i : Nat) : Int) < ((x.kids.length : Nat) : Int))) with hc | hc
        · skip
          have h8b := hc; clear hc
          have h8 : ((i : Nat) : Int) < ((x.kids.length : Nat) : Int) := of_decide_eq_true h8b
          refine rl_guard_t F rfl rfl rfl h8b ?_
          refine rl_run F (run_move (F.ev rfl)) rfl ?_; clear F a; intro a F
          refine rl_guard_t F rfl rfl rfl h8b ?_
          refine rl_run F (run_leq (F.ev rfl) (F.ev rfl)) rfl ?_; clear F a; intro a F
          refine rl_run F (run_pick_t (F.ev rfl) h8b (F.ev rfl)) rfl ?_; clear F a; intro a F
          refine rl_nil <| q_tn <| w_cond F rfl ?_ ?_
          · intro hc
            have h9b := hc; clear hc
            have h9 : ((c : Nat) : Int) ≤ 150 := of_decide_eq_true h9b
            refine wp_skip <| q_tn <| wp_seq <| wp_block <| w_reg <| rl_run F (run_move (F.ev rfl)) rfl ?_; clear F a; intro a F
            refine rl_run F (run_fieldAddr tok46.k rfl rfl (F.ev rfl)) rfl ?_; clear F a; intro a F
            refine rl_run F (run_load1 (agf tok44 rfl) (F.ev rfl) (M.cellL (k := 0) rfl rfl)) rfl ?_; clear F a; intro a F
            refine rl_run F (run_move (F.ev rfl)) rfl ?_; clear F a; intro a F
            obtain ⟨Xe10, hXe10⟩ := get_of_lt (xs := x.kids) (i := i) (by omega)
            obtain ⟨be10, oe10, _, Ie10, _, Ae10, hTe10⟩ := SK.at hXe10
            obtain ⟨tae10, tce10, kae10, kce10, rfl, hke10, hle10, SAe10, SKe10⟩ := rdT_open hTe10
            refine rl_run F (run_indexI tok44.k tok46 (F.ev rfl) (F.ev rfl) (by omega) Ie10) rfl ?_; clear F a; intro a F
            refine rl_run F (run_loadA tok46 rfl (F.ev rfl) (cs := [.int .u8 (Xe10.kind), .string (str (Xe10.tag)), .string (str (Xe10.key)), .slice (tae10) (Xe10.as.length) (tce10), .string (str (Xe10.text)), .slice (kae10) (Xe10.kids.length) (kce10)]) rfl (M.cellsA Ae10 0 (by omega) rfl)) rfl ?_; clear F a; intro a F
            refine rl_run F (run_move (F.ev rfl)) rfl ?_; clear F a; intro a F
            refine rl_run F (run_subi (F.ev rfl) (F.ev rfl) (in_i64 (by omega) (by omega))) rfl ?_; clear F a; intro a F
            have hs11 : ((lev : Int) - 1 : Int) = ((lev - 1 : Nat) : Int) := by omega
            rw [hs11] at F
            refine rl_callS F ent33 rfl rfl (ih Xe10 (List.mem_of_getElem? hXe10) _ _ _ _ _ _ _ _ (lev - 1) M hke10 hle10 SAe10 SKe10 (by omega)) ?_; clear F M a; rintro _ w a M ⟨r12, rfl, hr12⟩ F
            refine rl_run F (run_addi (F.ev rfl) (F.ev rfl) (in_i64 (by omega) (by omega))) rfl ?_; clear F a; intro a F
            refine rl_run F (run_assign (F.ev rfl)) rfl ?_; clear F a; intro a F
            refine rl_nil <| q_bn <| q_tn <| w_reg <| rl_run F (run_move (F.ev rfl)) rfl ?_; clear F a; intro a F
            refine rl_run F (run_addi (F.ev rfl) (F.ev rfl) (in_i64 (by omega) (by omega))) rfl ?_; clear F a; intro a F
            refine rl_run F (run_assign (F.ev rfl)) rfl ?_; clear F a; intro a F
            refine rl_nil <| q_tn ?_
            exact ⟨_, by omega, i + 1, c + r12, rfl, F.to ⟨rfl, rfl, rfl, rfl, trivial⟩, M, by omega, by omega⟩
          · intro hc
            have h13b := hc; clear hc
            have h13 : ¬ (((c : Nat) : Int) ≤ 150) := of_decide_eq_false h13b
            refine wp_exit ?_
            iterate 2 (refine q_te ?_)
            refine q_bh <| q_tn <| wp_seq <| w_reg <| rl_run F (run_move (F.ev rfl)) rfl ?_; clear F a; intro a F
            refine rl_run F (run_assign (F.ev rfl)) rfl ?_; clear F a; intro a F
            refine rl_nil <| q_tn <| wp_ret <| fin1 F rfl rfl ?_
            exact ⟨M.weaken (.cons _ (List.Sublist.refl _)), c, rfl, by omega⟩
        · skip
          have h14b := hc; clear hc
          have h14 : ¬ (((i : Nat) : Int) < ((x.kids.length : Nat) : Int)) := of_decide_eq_false h14b
          iterate 2 (refine rl_guard_f F rfl rfl rfl h14b ?_; clear F a; intro a F)
          refine rl_run F (run_pick_f (F.ev rfl) h14b (F.ev rfl)) rfl ?_; clear F a; intro a F
          refine rl_nil <| q_tn <| w_cond_f F rfl rfl ?_
          refine wp_exit ?_
          iterate 2 (refine q_te ?_)
          refine q_bh <| q_tn <| wp_seq <| w_reg <| rl_run F (run_move (F.ev rfl)) rfl ?_; clear F a; intro a F
          refine rl_run F (run_assign (F.ev rfl)) rfl ?_; clear F a; intro a F
          refine rl_nil <| q_tn <| wp_ret <| fin1 F rfl rfl ?_
          exact ⟨M.weaken (.cons _ (List.Sublist.refl _)), c, rfl, by omega⟩
theorem weigh_all (x : PT) : WeighP x := by
  induction x using Tr.ind with
  | _ x ih => intro w0 w G L ta ka tc kc lev M hk hl SA SK hlev; exact weigh_step ih M hk hl SA SK hlev
theorem ndF0_le (x : PT) : ndF 0 x ≤ x.size := by
  induction x using Tr.ind with
  | _ x ih =>
    have hs : ∀ l : List PT, (∀ c ∈ l, ndF 0 c ≤ c.size) → ndFs 0 l ≤ Tr.sizes l := by
      intro l
      induction l with
      | nil => intro _; simp [ndFs]
      | cons c l ih2 => intro h; have h1 := h c (by simp); have h2 := ih2 fun d hd => h d (by simp [hd]); simp only [ndFs, Tr.sizes]; omega
    have := hs x.kids ih
    rw [ndF_eq, Tr.size_eq]
    split <;> omega
theorem usesF1n {x : PT} (h : ¬ ValidP x) : (usesF x).1 = false := by rw [usesF_no h]
theorem usesF2n {x : PT} (h : ¬ ValidP x) : (usesF x).2.1 = false := by rw [usesF_no h]
theorem usesF3n {x : PT} (h : ¬ ValidP x) : (usesF x).2.2 = false := by rw [usesF_no h]
theorem nodes1n {x : PT} {m : Int} (h : ¬ ValidP x) : (nodesF x m).1 = 0 := by rw [nodesF_no h]
theorem nodes2n {x : PT} {m : Int} (h : ¬ ValidP x) : (nodesF x m).2 = 14 := by rw [nodesF_no h]
theorem nodes1a {x : PT} {m : Int} (h : ValidP x) (hm : m < 0 ∨ 8 < m) : (nodesF x m).1 = 0 := by rw [nodesF_arg h hm]
theorem nodes2a {x : PT} {m : Int} (h : ValidP x) (hm : m < 0 ∨ 8 < m) : (nodesF x m).2 = 1 := by rw [nodesF_arg h hm]
theorem nodes1y {x : PT} {m : Nat} (h : ValidP x) (hm : m ≤ 8) : (nodesF x (m : Int)).1 = ((ndF m x : Nat) : Int) := by rw [nodesF_ok h hm]
theorem nodes2y {x : PT} {m : Nat} (h : ValidP x) (hm : m ≤ 8) : (nodesF x (m : Int)).2 = 0 := by rw [nodesF_ok h hm]
theorem itm_len {x : ItemD} (h : ItemOk x) : x.text.length ≤ 9223372036854775807 := by have := h.2.1.1; omega
theorem checklaw_ret {w0 w : World} {G : Ghost} {L : List Res} (M : Mem w0 G L w) {x : PT} {ta : Option Addr} {tc : Nat} {ka : Option Addr} {kc : Nat} (hk : inKind .u8 x.kind) (hl : (x.tag.length ≤ 9223372036854775807 ∧ x.key.length ≤ 9223372036854775807 ∧ x.text.length ≤ 9223372036854775807)) (SA : RdSl rdSlot 3 G (.slice ta x.as.length tc) x.as) (SK : RdSl rdP 6 G (.slice ka x.kids.length kc) x.kids) {m : Int} : Calls Tryz.prog 6 #[.agg #[.int .u8 (x.kind), .string (str (x.tag)), .string (str (x.key)), .slice (ta) (x.as.length) (tc), .string (str (x.text)), .slice (ka) (x.kids.length) (kc)], .int .i64 m] w (Ret w0 G L fun _ v => v = .bool true) := by
  refine calls_start (vs := [_, _]) Tryz.func6 rfl (n := 111) rfl rfl ?_
  intro a F
  refine wp_seq <| w_reg <| rl_box F M rfl (cs := [.int .u8 (x.kind), .string (str (x.tag)), .string (str (x.key)), .slice (ta) (x.as.length) (tc), .string (str (x.text)), .slice (ka) (x.kids.length) (kc)]) rfl rfl ?_; clear F M a; intro b1 w a M F
  refine rl_run F (run_assign (F.ev rfl)) rfl ?_; clear F a; intro a F
  refine rl_nil <| q_tn ?_
  iterate 2 (refine wp_seq ?_)
  refine w_reg <| rl_run F (run_loadA tok46 rfl (F.ev rfl) (cs := [.int .u8 (x.kind), .string (str (x.tag)), .string (str (x.key)), .slice (ta) (x.as.length) (tc), .string (str (x.text)), .slice (ka) (x.kids.length) (kc)]) rfl (M.cellsL (k := 0) rfl rfl)) rfl ?_; clear F a; intro a F
  refine rl_callS F ent33 rfl rfl (weigh_all x _ _ _ _ _ _ _ _ 8 M hk hl SA SK (by omega)) ?_; clear F M a; rintro _ w a M ⟨r2, rfl, hr2⟩ F
  refine rl_run F (run_gtr (F.ev rfl) (F.ev rfl)) rfl ?_; clear F a; intro a F
  refine rl_nil <| q_tn <| w_cond F rfl ?_ ?_
  · intro hc
    have h3b := hc; clear hc
    have h3 : 150 < ((r2 : Nat) : Int) := of_decide_eq_true h3b
    refine wp_seq <| w_reg <| rl_callS F ent28 rfl rfl (lives_spec M) ?_; clear F M a; rintro _ w a M rfl F
    refine rl_run F (run_assign (F.ev rfl)) rfl ?_; clear F a; intro a F
    refine rl_nil <| q_tn <| wp_ret <| q_tr <| fin1 F rfl rfl ?_
    exact ⟨_, (Gle.refl _), M.weaken (.cons _ (List.Sublist.refl _)), by rfl⟩
  · intro hc
    have h4b := hc; clear hc
    have h4 : ¬ (150 < ((r2 : Nat) : Int)) := of_decide_eq_false h4b
    refine wp_skip <| q_tn <| wp_seq <| w_reg <| rl_run F (run_loadA tok46 rfl (F.ev rfl) (cs := [.int .u8 (x.kind), .string (str (x.tag)), .string (str (x.key)), .slice (ta) (x.as.length) (tc), .string (str (x.text)), .slice (ka) (x.kids.length) (kc)]) rfl (M.cellsL (k := 0) rfl rfl)) rfl ?_; clear F a; intro a F
    refine rl_callS F ent34 rfl rfl (rpcheck_spec (x := x) M hk hl SA SK) ?_; clear F M a; rintro _ w a M rfl F
    refine rl_run F (run_assign (F.ev rfl)) rfl ?_; clear F a; intro a F
    refine rl_nil <| q_tn <| wp_seq <| w_reg <| rl_run F (run_loadA tok46 rfl (F.ev rfl) (cs := [.int .u8 (x.kind), .string (str (x.tag)), .string (str (x.key)), .slice (ta) (x.as.length) (tc), .string (str (x.text)), .slice (ka) (x.kids.length) (kc)]) rfl (M.cellsL (k := 0) rfl rfl)) rfl ?_; clear F a; intro a F
    refine rl_run F (run_move (F.ev rfl)) rfl ?_; clear F a; intro a F
    refine rl_callS F ent24 rfl rfl (tnodes_spec (x := x) (m := m) M hk hl SA SK) ?_; clear F M a; rintro _ w a M rfl F
    refine rl_run F (run_move (F.ev rfl)) rfl ?_; clear F a; intro a F
    refine rl_run F (run_extract (v := .int .i64 ((nodesF x m).1)) (F.ev rfl) rfl) rfl ?_; clear F a; intro a F
    refine rl_run F (run_extract (v := .int .i64 ((nodesF x m).2)) (F.ev rfl) rfl) rfl ?_; clear F a; intro a F
    iterate 2 (refine rl_run F (run_assign (F.ev rfl)) rfl ?_; clear F a; intro a F)
    refine rl_nil <| q_tn <| wp_seq <| w_reg <| rl_run F (run_loadA tok46 rfl (F.ev rfl) (cs := [.int .u8 (x.kind), .string (str (x.tag)), .string (str (x.key)), .slice (ta) (x.as.length) (tc), .string (str (x.text)), .slice (ka) (x.kids.length) (kc)]) rfl (M.cellsL (k := 0) rfl rfl)) rfl ?_; clear F a; intro a F
    refine rl_callS F ent31 rfl rfl (tuses_spec (x := x) M hk hl SA SK) ?_; clear F M a; rintro _ w a M rfl F
    refine rl_run F (run_move (F.ev rfl)) rfl ?_; clear F a; intro a F
    refine rl_run F (run_extract (v := .agg #[.bool ((usesF x).1), .bool ((usesF x).2.1), .bool ((usesF x).2.2)]) (F.ev rfl) rfl) rfl ?_; clear F a; intro a F
    refine rl_run F (run_extract (v := .int .i64 (chkP x)) (F.ev rfl) rfl) rfl ?_; clear F a; intro a F
    refine rl_alloc F M tok64 rfl rfl ?_; clear F M a; intro b5 w a M F
    refine rl_storeA F M tok64 (k := 0) rfl rfl rfl (us := [.bool ((usesF x).1), .bool ((usesF x).2.1), .bool ((usesF x).2.2)]) rfl rfl (by simp [Value.oneCell']) (by simp) ?_; clear F M a; intro w a M F
    change Mem w0 G (.blk b5 [.bool ((usesF x).1), .bool ((usesF x).2.1), .bool ((usesF x).2.2)] 64 :: .blk b1 [.int .u8 (x.kind), .string (str (x.tag)), .string (str (x.key)), .slice (ta) (x.as.length) (tc), .string (str (x.text)), .slice (ka) (x.kids.length) (kc)] 46 :: L) _ at M
    refine rl_run F (run_assign (F.ev rfl)) rfl ?_; clear F a; intro a F
    refine rl_nil <| q_tn <| wp_seq <| w_tree (.run 0 (.run 1 (.act 2 (.act 3 (.run 4 (.run 5 (.run 6 (.act 7 (.act 8 (.run 9 .fin) .no) .no)))) (.act 7 (.act 3 (.run 4 (.run 5 (.run 6 (.act 8 (.run 9 .fin) .no)))) .no) .no)) (.act 7 (.act 2 (.act 3 (.run 4 (.run 5 (.run 6 (.act 8 (.run 9 .fin) .no)))) .no) .no) .no)))) (Keep G [.blk b5 [.bool ((usesF x).1), .bool ((usesF x).2.1), .bool ((usesF x).2.2)] 64, .blk b1 [.int .u8 (x.kind), .string (str (x.tag)), .string (str (x.key)), .slice (ta) (x.as.length) (tc), .string (str (x.text)), .slice (ka) (x.kids.length) (kc)] 46]) rfl (by kernel_rfl) (fun c a d v w h => by cases d <;> exact h) ((M.drew _).keep (Gle.refl _) (by simp)) ?_
    replace M := M.drew (w.drawn + 1)
    refine pt_run F (fun w M => run_loadA tok46 rfl (F.ev rfl) (cs := [.int .u8 (x.kind), .string (str (x.tag)), .string (str (x.key)), .slice (ta) (x.as.length) (tc), .string (str (x.text)), .slice (ka) (x.kids.length) (kc)]) rfl (M.cellsL (k := 1) rfl rfl)) rfl ?_; clear F a; intro a F
    refine pt_run F (fun w M => run_buildS (cs := [.int .u16 (0), .int .u8 (0), .slice none (0) (0)]) (ps := []) tok42.k rfl tok42 (F.evp rfl) rfl) rfl ?_; clear F a; intro a F
    refine pt_act ?_ rfl ?_
    · skip
      refine rl_call F ent21 rfl rfl (iof_spec (cs := []) M RdSl.nil (ik := 0) (it := 0) (by omega) (by omega)) ?_; clear F M a; rintro _ Gk7 w a hGk7 M ⟨xk7, mak7, mck7, rfl, hIk7, hkk7, SMk7⟩ F
      replace SA := SA.mono mono_rdSlot hGk7
      replace SK := SK.mono mono_rdP hGk7
      refine rl_nil <| ⟨Keep Gk7 [.blk b5 [.bool ((usesF x).1), .bool ((usesF x).2.1), .bool ((usesF x).2.2)] 64, .blk b1 [.int .u8 (x.kind), .string (str (x.tag)), .string (str (x.key)), .slice (ta) (x.as.length) (tc), .string (str (x.text)), .slice (ka) (x.kids.length) (kc)] 46], M.keep (Gle.refl _) (by simp), fun w h => h.mono hGk7 (by simp), ?_⟩
      refine pt_act ?_ rfl ?_
      · skip
        refine rl_call F ent22 rfl rfl (trender_at (p := x) (x := xk7) (most := 64) (e := (rendE x xk7 64)) (nn := (rendN x xk7 64)) M hk hl SA SK (itm_len hIk7) SMk7 hkk7 rfl rfl) ?_; clear F M a; rintro _ Gk8 w a hGk8 M ⟨tak8, tck8, kak8, kck8, rfl, hkk8, hlk8, SAk8, SKk8⟩ F
        replace SA := SA.mono mono_rdSlot hGk8
        replace SK := SK.mono mono_rdP hGk8
        replace SMk7 := SMk7.mono mono_rdStr hGk8
        refine rl_nil <| ⟨Keep Gk8 [.blk b5 [.bool ((usesF x).1), .bool ((usesF x).2.1), .bool ((usesF x).2.2)] 64, .blk b1 [.int .u8 (x.kind), .string (str (x.tag)), .string (str (x.key)), .slice (ta) (x.as.length) (tc), .string (str (x.text)), .slice (ka) (x.kids.length) (kc)] 46], M.keep (Gle.refl _) (by simp), fun w h => h.mono hGk8 (by simp), ?_⟩
        refine pt_run F (fun w M => run_move (F.ev rfl)) rfl ?_; clear F a; intro a F
        refine pt_run F (fun w M => run_extract (v := .agg #[.int .u8 ((rendN x xk7 64).kind), .string (str ((rendN x xk7 64).tag)), .string (str ((rendN x xk7 64).key)), .slice (tak8) ((rendN x xk7 64).as.length) (tck8), .string (str ((rendN x xk7 64).text)), .slice (kak8) ((rendN x xk7 64).kids.length) (kck8)]) (F.ev rfl) rfl) rfl ?_; clear F a; intro a F
        refine pt_run F (fun w M => run_extract (v := .int .i64 ((rendE x xk7 64))) (F.ev rfl) rfl) rfl ?_; clear F a; intro a F
        refine pt_act ?_ rfl pt_no
        refine rl_alloc F M tok30 rfl rfl ?_; clear F M a; intro b9 w a M F
        refine rl_nil <| ⟨Keep Gk8 [.blk b5 [.bool ((usesF x).1), .bool ((usesF x).2.1), .bool ((usesF x).2.2)] 64, .blk b1 [.int .u8 (x.kind), .string (str (x.tag)), .string (str (x.key)), .slice (ta) (x.as.length) (tc), .string (str (x.text)), .slice (ka) (x.kids.length) (kc)] 46], M.keep (Gle.refl _) (by simp), fun w h => h.mono (Gle.refl _) (by simp), ?_⟩
        refine pt_act ?_ rfl pt_no
        refine rl_storeA F M tok30 (k := 0) rfl rfl rfl (us := [.int .u8 ((rendN x xk7 64).kind), .string (str ((rendN x xk7 64).tag)), .string (str ((rendN x xk7 64).key)), .slice (tak8) ((rendN x xk7 64).as.length) (tck8), .string (str ((rendN x xk7 64).text)), .slice (kak8) ((rendN x xk7 64).kids.length) (kck8)]) rfl rfl (by simp [Value.oneCell']) (by simp) ?_; clear F M a; intro w a M F
        change Mem w0 Gk8 (.blk b9 [.int .u8 ((rendN x xk7 64).kind), .string (str ((rendN x xk7 64).tag)), .string (str ((rendN x xk7 64).key)), .slice (tak8) ((rendN x xk7 64).as.length) (tck8), .string (str ((rendN x xk7 64).text)), .slice (kak8) ((rendN x xk7 64).kids.length) (kck8)] 30 :: .blk b5 [.bool ((usesF x).1), .bool ((usesF x).2.1), .bool ((usesF x).2.2)] 64 :: .blk b1 [.int .u8 (x.kind), .string (str (x.tag)), .string (str (x.key)), .slice (ta) (x.as.length) (tc), .string (str (x.text)), .slice (ka) (x.kids.length) (kc)] 46 :: L) _ at M
        refine rl_nil <| ⟨Keep Gk8 [.blk b5 [.bool ((usesF x).1), .bool ((usesF x).2.1), .bool ((usesF x).2.2)] 64, .blk b1 [.int .u8 (x.kind), .string (str (x.tag)), .string (str (x.key)), .slice (ta) (x.as.length) (tc), .string (str (x.text)), .slice (ka) (x.kids.length) (kc)] 46], M.keep (Gle.refl _) (by simp), fun w h => h.mono (Gle.refl _) (by simp), ?_⟩
        refine pt_run F (fun w M => run_assign (F.ev rfl)) rfl ?_; clear F a; intro a F
        refine pt_fin <| q_tn ?_
        iterate 2 (refine wp_seq ?_)
        refine w_plan2 [(.pure, 0), (.free, 2), (.keep, 1), (.free, 3), (.free, 4), (.pure, 5), (.pure, 7), (.keep, 6), (.keep, 8), (.free, 9), (.free, 10), (.free, 11), (.free, 12), (.free, 13), (.free, 14), (.free, 15)] [] (Keep Gk8 [.blk b9 [.int .u8 ((rendN x xk7 64).kind), .string (str ((rendN x xk7 64).tag)), .string (str ((rendN x xk7 64).key)), .slice (tak8) ((rendN x xk7 64).as.length) (tck8), .string (str ((rendN x xk7 64).text)), .slice (kak8) ((rendN x xk7 64).kids.length) (kck8)] 30, .blk b5 [.bool ((usesF x).1), .bool ((usesF x).2.1), .bool ((usesF x).2.2)] 64, .blk b1 [.int .u8 (x.kind), .string (str (x.tag)), .string (str (x.key)), .slice (ta) (x.as.length) (tc), .string (str (x.text)), .slice (ka) (x.kids.length) (kc)] 46]) rfl (by kernel_rfl) (fun c a d v w h => by cases d <;> exact h) ((M.drew _).keep (Gle.refl _) (by simp)) ?_
        replace M := M.drew (w.drawn + 1)
        refine pk_pure F (fun w M => run_loadA tok46 rfl (F.ev rfl) (cs := [.int .u8 (x.kind), .string (str (x.tag)), .string (str (x.key)), .slice (ta) (x.as.length) (tc), .string (str (x.text)), .slice (ka) (x.kids.length) (kc)]) rfl (M.cellsL (k := 2) rfl rfl)) rfl ?_; clear F a; intro a F
        refine pk_free F (fun w _ => run_move (F.ev rfl)) rfl ?_; clear F a; intro a F
        refine pk_keep ?_ rfl
        refine rl_callS F ent26 rfl rfl (tcheck_spec (x := x) M hk hl SA SK) ?_; clear F M a; rintro _ w a M rfl F
        refine rl_nil <| ⟨Keep Gk8 [.blk b9 [.int .u8 ((rendN x xk7 64).kind), .string (str ((rendN x xk7 64).tag)), .string (str ((rendN x xk7 64).key)), .slice (tak8) ((rendN x xk7 64).as.length) (tck8), .string (str ((rendN x xk7 64).text)), .slice (kak8) ((rendN x xk7 64).kids.length) (kck8)] 30, .blk b5 [.bool ((usesF x).1), .bool ((usesF x).2.1), .bool ((usesF x).2.2)] 64, .blk b1 [.int .u8 (x.kind), .string (str (x.tag)), .string (str (x.key)), .slice (ta) (x.as.length) (tc), .string (str (x.text)), .slice (ka) (x.kids.length) (kc)] 46], M.keep (Gle.refl _) (by simp), fun w h => h.mono (Gle.refl _) (by simp), ?_⟩
        refine pk_free F (fun w _ => run_nei (F.ev rfl) (F.ev rfl)) rfl ?_; clear F a; intro a F
        refine pk_free F (fun w _ => run_move (F.ev rfl)) rfl ?_; clear F a; intro a F
        iterate 2 (refine pk_pure_g F rfl rfl (not_f (decide_eq_true rfl)) (fun w M => run_loadA tok46 rfl (F.ev rfl) (cs := [.int .u8 (x.kind), .string (str (x.tag)), .string (str (x.key)), .slice (ta) (x.as.length) (tc), .string (str (x.text)), .slice (ka) (x.kids.length) (kc)]) rfl (M.cellsL (k := 2) rfl rfl)) rfl ?_; clear F a; intro a F)
        refine pk_keep_g F rfl rfl (not_f (decide_eq_true rfl)) ?_
        refine rl_guard_t F rfl rfl rfl (not_f (decide_eq_true rfl)) ?_
        refine rl_callS F ent35 rfl rfl (tcount_spec (x := x) M hk hl SA SK) ?_; clear F M a; rintro _ w a M rfl F
        refine rl_nil <| ⟨Keep Gk8 [.blk b9 [.int .u8 ((rendN x xk7 64).kind), .string (str ((rendN x xk7 64).tag)), .string (str ((rendN x xk7 64).key)), .slice (tak8) ((rendN x xk7 64).as.length) (tck8), .string (str ((rendN x xk7 64).text)), .slice (kak8) ((rendN x xk7 64).kids.length) (kck8)] 30, .blk b5 [.bool ((usesF x).1), .bool ((usesF x).2.1), .bool ((usesF x).2.2)] 64, .blk b1 [.int .u8 (x.kind), .string (str (x.tag)), .string (str (x.key)), .slice (ta) (x.as.length) (tc), .string (str (x.text)), .slice (ka) (x.kids.length) (kc)] 46], M.keep (Gle.refl _) (by simp), fun w h => h.mono (Gle.refl _) (by simp), ?_⟩
        refine pk_keep_g F rfl rfl (not_f (decide_eq_true rfl)) ?_
        refine rl_guard_t F rfl rfl rfl (not_f (decide_eq_true rfl)) ?_
        refine rl_callS F ent36 rfl rfl (rpcount_spec (x := x) M hk hl SA SK) ?_; clear F M a; rintro _ w a M rfl F
        refine rl_nil <| ⟨Keep Gk8 [.blk b9 [.int .u8 ((rendN x xk7 64).kind), .string (str ((rendN x xk7 64).tag)), .string (str ((rendN x xk7 64).key)), .slice (tak8) ((rendN x xk7 64).as.length) (tck8), .string (str ((rendN x xk7 64).text)), .slice (kak8) ((rendN x xk7 64).kids.length) (kck8)] 30, .blk b5 [.bool ((usesF x).1), .bool ((usesF x).2.1), .bool ((usesF x).2.2)] 64, .blk b1 [.int .u8 (x.kind), .string (str (x.tag)), .string (str (x.key)), .slice (ta) (x.as.length) (tc), .string (str (x.text)), .slice (ka) (x.kids.length) (kc)] 46], M.keep (Gle.refl _) (by simp), fun w h => h.mono (Gle.refl _) (by simp), ?_⟩
        refine pk_free_g F rfl rfl (not_f (decide_eq_true rfl)) (fun w _ => run_nei (F.ev rfl) (F.ev rfl)) rfl ?_; clear F a; intro a F
        refine pk_free F (fun w _ => run_pick_f (F.ev rfl) (not_f (decide_eq_true rfl)) (F.ev rfl)) rfl ?_; clear F a; intro a F
        refine pk_free F (fun w _ => run_move (F.ev rfl)) rfl ?_; clear F a; intro a F
        iterate 2 (refine pk_free_g F rfl rfl (not_f (decide_eq_true rfl)) (fun w _ => run_move (F.ev rfl)) rfl ?_; clear F a; intro a F)
        refine pk_free_g F rfl rfl (not_f (decide_eq_true rfl)) (fun w _ => run_nei (F.ev rfl) (F.ev rfl)) rfl ?_; clear F a; intro a F
        refine pk_free F (fun w _ => run_pick_f (F.ev rfl) (not_f (decide_eq_true rfl)) (F.ev rfl)) rfl ?_; clear F a; intro a F
        refine pk_nil <| q_tn <| w_cond_f F rfl (not_f (decide_eq_true rfl)) ?_
        refine wp_skip <| q_tn ?_
        iterate 2 (refine wp_seq ?_)
        refine w_reg <| rl_run F (run_move (F.ev rfl)) rfl ?_; clear F a; intro a F
        refine rl_run F (run_nei (F.ev rfl) (F.ev rfl)) rfl ?_; clear F a; intro a F
        refine rl_nil <| q_tn <| w_cond F rfl ?_ ?_
        · intro hc
          have h11b := hc; clear hc
          have h11 : ¬ (chkP x = 0) := of_decide_eq_false (of_not_t h11b)
          have h11c : (decide (chkP x = 0)) = false := (of_not_t h11b)
          have hV : ¬ ValidP x := fun h_ => by rw [chkP_yes h_] at *; omega
          have hz9 : rendE x xk7 64 = 14 := rend_tree (by decide) hV
          rw [chkP_no hV, nodes1n hV, nodes2n hV, hz9] at F
          rw [usesF1n hV, usesF2n hV, usesF3n hV] at M
          refine wp_seq <| w_reg ?_
          iterate 2 (refine rl_run F (run_move (F.ev rfl)) rfl ?_; clear F a; intro a F)
          refine rl_run F (run_eqi (F.ev rfl) (F.ev rfl)) rfl ?_; clear F a; intro a F
          refine rl_run F (run_move (F.ev rfl)) rfl ?_; clear F a; intro a F
          refine rl_guard_t F rfl rfl rfl (decide_eq_true (by decide)) ?_
          refine rl_run F (run_move (F.ev rfl)) rfl ?_; clear F a; intro a F
          refine rl_guard_t F rfl rfl rfl (decide_eq_true (by decide)) ?_
          refine rl_run F (run_move (F.ev rfl)) rfl ?_; clear F a; intro a F
          refine rl_guard_t F rfl rfl rfl (decide_eq_true (by decide)) ?_
          refine rl_run F (run_eqi (F.ev rfl) (F.ev rfl)) rfl ?_; clear F a; intro a F
          refine rl_run F (run_pick_t (F.ev rfl) (decide_eq_true (by decide)) (F.ev rfl)) rfl ?_; clear F a; intro a F
          refine rl_run F (run_move (F.ev rfl)) rfl ?_; clear F a; intro a F
          refine rl_guard_t F rfl rfl rfl (decide_eq_true (by decide)) ?_
          refine rl_run F (run_move (F.ev rfl)) rfl ?_; clear F a; intro a F
          refine rl_guard_t F rfl rfl rfl (decide_eq_true (by decide)) ?_
          refine rl_run F (run_eqi (F.ev rfl) (F.ev rfl)) rfl ?_; clear F a; intro a F
          refine rl_run F (run_pick_t (F.ev rfl) (decide_eq_true (by decide)) (F.ev rfl)) rfl ?_; clear F a; intro a F
          refine rl_run F (run_move (F.ev rfl)) rfl ?_; clear F a; intro a F
          refine rl_guard_t F rfl rfl rfl (decide_eq_true (by decide)) ?_
          refine rl_run F (run_loadA tok64 rfl (F.ev rfl) (cs := [.bool false, .bool false, .bool false]) rfl (M.cellsL (k := 1) rfl rfl)) rfl ?_; clear F a; intro a F
          refine rl_guard_t F rfl rfl rfl (decide_eq_true (by decide)) ?_
          refine rl_run F (run_buildS (cs := [.bool false, .bool false, .bool false]) (ps := []) tok64.k rfl tok64 (F.evp rfl) rfl) rfl ?_; clear F a; intro a F
          refine rl_guard_t F rfl rfl rfl (decide_eq_true (by decide)) ?_
          refine rl_run F (run_eq3b (tb := 4) (by kernel_rfl) (by kernel_rfl) (by kernel_rfl) (by kernel_rfl) tok4.k (F.ev rfl) (F.ev rfl)) rfl ?_; clear F a; intro a F
          refine rl_run F (run_pick_t (F.ev rfl) (decide_eq_true (by decide)) (F.ev rfl)) rfl ?_; clear F a; intro a F
          refine rl_run F (run_move (F.ev rfl)) rfl ?_; clear F a; intro a F
          refine rl_guard_t F rfl rfl rfl rfl ?_
          refine rl_callS F ent28 rfl rfl (lives_spec M) ?_; clear F M a; rintro _ w a M rfl F
          refine rl_run F (run_pick_t (F.ev rfl) rfl (F.ev rfl)) rfl ?_; clear F a; intro a F
          refine rl_run F (run_assign (F.ev rfl)) rfl ?_; clear F a; intro a F
          refine rl_nil <| q_tn <| wp_ret <| q_tr <| fin1 F rfl rfl ?_
          exact ⟨_, (hGk7.trans hGk8), M.weaken (.cons _ (.cons _ (.cons _ (List.Sublist.refl _)))), by rfl⟩
        · intro hc
          have h12b := hc; clear hc
          have h12 : chkP x = 0 := of_decide_eq_true (of_not_f h12b)
          have h12c : (decide (chkP x = 0)) = true := (of_not_f h12b)
          have hV : ValidP x := chkP_zero.1 (by assumption)
          rw [chkP_yes hV] at F
          refine wp_skip <| q_tn ?_
          iterate 2 (refine wp_seq ?_)
          refine w_reg <| rl_run F (run_move (F.ev rfl)) rfl ?_; clear F a; intro a F
          refine rl_run F (run_lss (F.ev rfl) (F.ev rfl)) rfl ?_; clear F a; intro a F
          refine rl_run F (run_move (F.ev rfl)) rfl ?_; clear F a; intro a F
          rcases Bool.eq_false_or_eq_true (decide (m < 0)) with hc | hc
          · skip
            have h13b := hc; clear hc
            have h13 : m < 0 := of_decide_eq_true h13b
            iterate 2 (refine rl_guard_f F rfl rfl rfl h13b ?_; clear F a; intro a F)
            refine rl_run F (run_pick_t (F.ev rfl) h13b (F.ev rfl)) rfl ?_; clear F a; intro a F
            refine rl_nil <| q_tn <| w_cond_t F rfl rfl ?_
            refine wp_seq ?_
            have hm9 : m < 0 ∨ 8 < m := by omega
            rw [nodes1a hV hm9, nodes2a hV hm9] at F
            refine w_reg <| rl_run F (run_move (F.ev rfl)) rfl ?_; clear F a; intro a F
            refine rl_run F (run_eqi (F.ev rfl) (F.ev rfl)) rfl ?_; clear F a; intro a F
            refine rl_run F (run_move (F.ev rfl)) rfl ?_; clear F a; intro a F
            refine rl_guard_t F rfl rfl rfl (decide_eq_true (by decide)) ?_
            refine rl_run F (run_move (F.ev rfl)) rfl ?_; clear F a; intro a F
            refine rl_guard_t F rfl rfl rfl (decide_eq_true (by decide)) ?_
            refine rl_run F (run_eqi (F.ev rfl) (F.ev rfl)) rfl ?_; clear F a; intro a F
            refine rl_run F (run_pick_t (F.ev rfl) (decide_eq_true (by decide)) (F.ev rfl)) rfl ?_; clear F a; intro a F
            refine rl_run F (run_move (F.ev rfl)) rfl ?_; clear F a; intro a F
            refine rl_guard_t F rfl rfl rfl (decide_eq_true (by decide)) ?_
            refine rl_callS F ent28 rfl rfl (lives_spec M) ?_; clear F M a; rintro _ w a M rfl F
            refine rl_run F (run_pick_t (F.ev rfl) (decide_eq_true (by decide)) (F.ev rfl)) rfl ?_; clear F a; intro a F
            refine rl_run F (run_assign (F.ev rfl)) rfl ?_; clear F a; intro a F
            refine rl_nil <| q_tn <| wp_ret <| q_tr <| fin1 F rfl rfl ?_
            exact ⟨_, (hGk7.trans hGk8), M.weaken (.cons _ (.cons _ (.cons _ (List.Sublist.refl _)))), by rfl⟩
          · skip
            have h14b := hc; clear hc
            have h14 : ¬ (m < 0) := of_decide_eq_false h14b
            refine rl_guard_t F rfl rfl rfl h14b ?_
            refine rl_run F (run_move (F.ev rfl)) rfl ?_; clear F a; intro a F
            refine rl_guard_t F rfl rfl rfl h14b ?_
            refine rl_run F (run_gtr (F.ev rfl) (F.ev rfl)) rfl ?_; clear F a; intro a F
            refine rl_run F (run_pick_f (F.ev rfl) h14b (F.ev rfl)) rfl ?_; clear F a; intro a F
            refine rl_nil <| q_tn <| w_cond F rfl ?_ ?_
            · intro hc
              have h15b := hc; clear hc
              have h15 : 8 < m := of_decide_eq_true h15b
              refine wp_seq ?_
              have hm9 : m < 0 ∨ 8 < m := by omega
              rw [nodes1a hV hm9, nodes2a hV hm9] at F
              refine w_reg <| rl_run F (run_move (F.ev rfl)) rfl ?_; clear F a; intro a F
              refine rl_run F (run_eqi (F.ev rfl) (F.ev rfl)) rfl ?_; clear F a; intro a F
              refine rl_run F (run_move (F.ev rfl)) rfl ?_; clear F a; intro a F
              refine rl_guard_t F rfl rfl rfl (decide_eq_true (by decide)) ?_
              refine rl_run F (run_move (F.ev rfl)) rfl ?_; clear F a; intro a F
              refine rl_guard_t F rfl rfl rfl (decide_eq_true (by decide)) ?_
              refine rl_run F (run_eqi (F.ev rfl) (F.ev rfl)) rfl ?_; clear F a; intro a F
              refine rl_run F (run_pick_t (F.ev rfl) (decide_eq_true (by decide)) (F.ev rfl)) rfl ?_; clear F a; intro a F
              refine rl_run F (run_move (F.ev rfl)) rfl ?_; clear F a; intro a F
              refine rl_guard_t F rfl rfl rfl (decide_eq_true (by decide)) ?_
              refine rl_callS F ent28 rfl rfl (lives_spec M) ?_; clear F M a; rintro _ w a M rfl F
              refine rl_run F (run_pick_t (F.ev rfl) (decide_eq_true (by decide)) (F.ev rfl)) rfl ?_; clear F a; intro a F
              refine rl_run F (run_assign (F.ev rfl)) rfl ?_; clear F a; intro a F
              refine rl_nil <| q_tn <| wp_ret <| q_tr <| fin1 F rfl rfl ?_
              exact ⟨_, (hGk7.trans hGk8), M.weaken (.cons _ (.cons _ (.cons _ (List.Sublist.refl _)))), by rfl⟩
            · intro hc
              have h16b := hc; clear hc
              have h16 : ¬ (8 < m) := of_decide_eq_false h16b
              refine wp_skip <| q_tn <| wp_seq ?_
              obtain ⟨mq, rfl, hmq⟩ : ∃ q : Nat, m = (q : Int) ∧ q ≤ 8 := ⟨m.toNat, by omega, by omega⟩
              rw [nodes1y hV hmq, nodes2y hV hmq] at F
              refine w_reg <| rl_run F (run_move (F.ev rfl)) rfl ?_; clear F a; intro a F
              refine rl_run F (run_eqi (F.ev rfl) (F.ev rfl)) rfl ?_; clear F a; intro a F
              refine rl_run F (run_move (F.ev rfl)) rfl ?_; clear F a; intro a F
              refine rl_guard_t F rfl rfl rfl (decide_eq_true (by decide)) ?_
              refine rl_run F (run_move (F.ev rfl)) rfl ?_; clear F a; intro a F
              refine rl_guard_t F rfl rfl rfl (decide_eq_true (by decide)) ?_
              refine rl_run F (run_loadA tok46 rfl (F.ev rfl) (cs := [.int .u8 (x.kind), .string (str (x.tag)), .string (str (x.key)), .slice (ta) (x.as.length) (tc), .string (str (x.text)), .slice (ka) (x.kids.length) (kc)]) rfl (M.cellsL (k := 2) rfl rfl)) rfl ?_; clear F a; intro a F
              refine rl_guard_t F rfl rfl rfl (decide_eq_true (by decide)) ?_
              refine rl_run F (run_move (F.ev rfl)) rfl ?_; clear F a; intro a F
              refine rl_guard_t F rfl rfl rfl (decide_eq_true (by decide)) ?_
              refine rl_callS F ent25 rfl rfl (rnodes_all x _ _ _ _ _ _ _ _ mq 6 M hk hl SA SK hV.2.1 hV.2.2 hmq) ?_; clear F M a; rintro _ w a M rfl F
              refine rl_guard_t F rfl rfl rfl (decide_eq_true (by decide)) ?_
              refine rl_run F (run_eqi (F.ev rfl) (F.ev rfl)) rfl ?_; clear F a; intro a F
              refine rl_run F (run_pick_t (F.ev rfl) (decide_eq_true (by decide)) (F.ev rfl)) rfl ?_; clear F a; intro a F
              refine rl_run F (run_move (F.ev rfl)) rfl ?_; clear F a; intro a F
              refine rl_guard_t F rfl rfl rfl (decide_eq_true rfl) ?_
              refine rl_run F (run_move (F.ev rfl)) rfl ?_; clear F a; intro a F
              refine rl_guard_t F rfl rfl rfl (decide_eq_true rfl) ?_
              refine rl_run F (run_gtr (F.ev rfl) (F.ev rfl)) rfl ?_; clear F a; intro a F
              refine rl_guard_t F rfl rfl rfl (decide_eq_true rfl) ?_
              refine rl_run F (run_move (F.ev rfl)) rfl ?_; clear F a; intro a F
              rcases Bool.eq_false_or_eq_true (decide (0 < ((mq : Nat) : Int))) with hc | hc
              · skip
                have h17b := hc; clear hc
                have h17 : 0 < ((mq : Nat) : Int) := of_decide_eq_true h17b
                iterate 4 (refine rl_guard_f F rfl rfl rfl h17b ?_; clear F a; intro a F)
                refine rl_guard_t F rfl rfl rfl (decide_eq_true rfl) ?_
                refine rl_run F (run_pick_t (F.ev rfl) h17b (F.ev rfl)) rfl ?_; clear F a; intro a F
                refine rl_run F (run_pick_t (F.ev rfl) (decide_eq_true rfl) (F.ev rfl)) rfl ?_; clear F a; intro a F
                refine rl_run F (run_move (F.ev rfl)) rfl ?_; clear F a; intro a F
                refine rl_guard_t F rfl rfl rfl rfl ?_
                refine rl_callS F ent28 rfl rfl (lives_spec M) ?_; clear F M a; rintro _ w a M rfl F
                refine rl_run F (run_pick_t (F.ev rfl) rfl (F.ev rfl)) rfl ?_; clear F a; intro a F
                refine rl_run F (run_assign (F.ev rfl)) rfl ?_; clear F a; intro a F
                refine rl_nil <| q_tn <| wp_ret <| fin1 F rfl rfl ?_
                exact ⟨_, (hGk7.trans hGk8), M.weaken (.cons _ (.cons _ (.cons _ (List.Sublist.refl _)))), by rfl⟩
              · skip
                have h18b := hc; clear hc
                have h18 : ¬ (0 < ((mq : Nat) : Int)) := of_decide_eq_false h18b
                have hn9 : ((ndF mq x : Nat) : Int) ≤ ((cntP x : Nat) : Int) := by rw [show mq = 0 by omega, cntP_yes hV]; exact Int.ofNat_le.2 (ndF0_le x)
                refine rl_guard_t F rfl rfl rfl h18b ?_
                refine rl_run F (run_move (F.ev rfl)) rfl ?_; clear F a; intro a F
                refine rl_guard_t F rfl rfl rfl h18b ?_
                refine rl_run F (run_loadA tok46 rfl (F.ev rfl) (cs := [.int .u8 (x.kind), .string (str (x.tag)), .string (str (x.key)), .slice (ta) (x.as.length) (tc), .string (str (x.text)), .slice (ka) (x.kids.length) (kc)]) rfl (M.cellsL (k := 2) rfl rfl)) rfl ?_; clear F a; intro a F
                refine rl_guard_t F rfl rfl rfl h18b ?_
                refine rl_callS F ent35 rfl rfl (tcount_spec (x := x) M hk hl SA SK) ?_; clear F M a; rintro _ w a M rfl F
                refine rl_guard_t F rfl rfl rfl h18b ?_
                refine rl_run F (run_leq (F.ev rfl) (F.ev rfl)) rfl ?_; clear F a; intro a F
                refine rl_guard_t F rfl rfl rfl (decide_eq_true rfl) ?_
                refine rl_run F (run_pick_f (F.ev rfl) h18b (F.ev rfl)) rfl ?_; clear F a; intro a F
                refine rl_run F (run_pick_t (F.ev rfl) (decide_eq_true rfl) (F.ev rfl)) rfl ?_; clear F a; intro a F
                refine rl_run F (run_move (F.ev rfl)) rfl ?_; clear F a; intro a F
                refine rl_guard_t F rfl rfl rfl (decide_eq_true hn9) ?_
                refine rl_callS F ent28 rfl rfl (lives_spec M) ?_; clear F M a; rintro _ w a M rfl F
                refine rl_run F (run_pick_t (F.ev rfl) (decide_eq_true hn9) (F.ev rfl)) rfl ?_; clear F a; intro a F
                refine rl_run F (run_assign (F.ev rfl)) rfl ?_; clear F a; intro a F
                refine rl_nil <| q_tn <| wp_ret <| fin1 F rfl rfl ?_
                exact ⟨_, (hGk7.trans hGk8), M.weaken (.cons _ (.cons _ (.cons _ (List.Sublist.refl _)))), by rfl⟩
      refine pt_act ?_ rfl ?_
      · skip
        refine rl_alloc F M tok30 rfl rfl ?_; clear F M a; intro b19 w a M F
        refine rl_nil <| ⟨Keep Gk7 [.blk b5 [.bool ((usesF x).1), .bool ((usesF x).2.1), .bool ((usesF x).2.2)] 64, .blk b1 [.int .u8 (x.kind), .string (str (x.tag)), .string (str (x.key)), .slice (ta) (x.as.length) (tc), .string (str (x.text)), .slice (ka) (x.kids.length) (kc)] 46], M.keep (Gle.refl _) (by simp), fun w h => h.mono (Gle.refl _) (by simp), ?_⟩
        refine pt_act ?_ rfl pt_no
        refine rl_call F ent22 rfl rfl (trender_at (p := x) (x := xk7) (most := 64) (e := (rendE x xk7 64)) (nn := (rendN x xk7 64)) M hk hl SA SK (itm_len hIk7) SMk7 hkk7 rfl rfl) ?_; clear F M a; rintro _ Gk21 w a hGk21 M ⟨tak21, tck21, kak21, kck21, rfl, hkk21, hlk21, SAk21, SKk21⟩ F
        replace SA := SA.mono mono_rdSlot hGk21
        replace SK := SK.mono mono_rdP hGk21
        replace SMk7 := SMk7.mono mono_rdStr hGk21
        refine rl_nil <| ⟨Keep Gk21 [.blk b5 [.bool ((usesF x).1), .bool ((usesF x).2.1), .bool ((usesF x).2.2)] 64, .blk b1 [.int .u8 (x.kind), .string (str (x.tag)), .string (str (x.key)), .slice (ta) (x.as.length) (tc), .string (str (x.text)), .slice (ka) (x.kids.length) (kc)] 46], M.keep (Gle.refl _) (by simp), fun w h => h.mono hGk21 (by simp), ?_⟩
        refine pt_run F (fun w M => run_move (F.ev rfl)) rfl ?_; clear F a; intro a F
        refine pt_run F (fun w M => run_extract (v := .agg #[.int .u8 ((rendN x xk7 64).kind), .string (str ((rendN x xk7 64).tag)), .string (str ((rendN x xk7 64).key)), .slice (tak21) ((rendN x xk7 64).as.length) (tck21), .string (str ((rendN x xk7 64).text)), .slice (kak21) ((rendN x xk7 64).kids.length) (kck21)]) (F.ev rfl) rfl) rfl ?_; clear F a; intro a F
        refine pt_run F (fun w M => run_extract (v := .int .i64 ((rendE x xk7 64))) (F.ev rfl) rfl) rfl ?_; clear F a; intro a F
        refine pt_act ?_ rfl pt_no
        refine rl_storeA F M tok30 (k := 0) rfl rfl rfl (us := [.int .u8 ((rendN x xk7 64).kind), .string (str ((rendN x xk7 64).tag)), .string (str ((rendN x xk7 64).key)), .slice (tak21) ((rendN x xk7 64).as.length) (tck21), .string (str ((rendN x xk7 64).text)), .slice (kak21) ((rendN x xk7 64).kids.length) (kck21)]) rfl rfl (by simp [Value.oneCell']) (by simp) ?_; clear F M a; intro w a M F
        change Mem w0 Gk21 (.blk b19 [.int .u8 ((rendN x xk7 64).kind), .string (str ((rendN x xk7 64).tag)), .string (str ((rendN x xk7 64).key)), .slice (tak21) ((rendN x xk7 64).as.length) (tck21), .string (str ((rendN x xk7 64).text)), .slice (kak21) ((rendN x xk7 64).kids.length) (kck21)] 30 :: .blk b5 [.bool ((usesF x).1), .bool ((usesF x).2.1), .bool ((usesF x).2.2)] 64 :: .blk b1 [.int .u8 (x.kind), .string (str (x.tag)), .string (str (x.key)), .slice (ta) (x.as.length) (tc), .string (str (x.text)), .slice (ka) (x.kids.length) (kc)] 46 :: L) _ at M
        refine rl_nil <| ⟨Keep Gk21 [.blk b5 [.bool ((usesF x).1), .bool ((usesF x).2.1), .bool ((usesF x).2.2)] 64, .blk b1 [.int .u8 (x.kind), .string (str (x.tag)), .string (str (x.key)), .slice (ta) (x.as.length) (tc), .string (str (x.text)), .slice (ka) (x.kids.length) (kc)] 46], M.keep (Gle.refl _) (by simp), fun w h => h.mono (Gle.refl _) (by simp), ?_⟩
        refine pt_run F (fun w M => run_assign (F.ev rfl)) rfl ?_; clear F a; intro a F
        refine pt_fin <| q_tn ?_
        iterate 2 (refine wp_seq ?_)
        refine w_plan2 [(.pure, 0), (.free, 2), (.keep, 1), (.free, 3), (.free, 4), (.pure, 5), (.pure, 7), (.keep, 6), (.keep, 8), (.free, 9), (.free, 10), (.free, 11), (.free, 12), (.free, 13), (.free, 14), (.free, 15)] [] (Keep Gk21 [.blk b19 [.int .u8 ((rendN x xk7 64).kind), .string (str ((rendN x xk7 64).tag)), .string (str ((rendN x xk7 64).key)), .slice (tak21) ((rendN x xk7 64).as.length) (tck21), .string (str ((rendN x xk7 64).text)), .slice (kak21) ((rendN x xk7 64).kids.length) (kck21)] 30, .blk b5 [.bool ((usesF x).1), .bool ((usesF x).2.1), .bool ((usesF x).2.2)] 64, .blk b1 [.int .u8 (x.kind), .string (str (x.tag)), .string (str (x.key)), .slice (ta) (x.as.length) (tc), .string (str (x.text)), .slice (ka) (x.kids.length) (kc)] 46]) rfl (by kernel_rfl) (fun c a d v w h => by cases d <;> exact h) ((M.drew _).keep (Gle.refl _) (by simp)) ?_
        replace M := M.drew (w.drawn + 1)
        refine pk_pure F (fun w M => run_loadA tok46 rfl (F.ev rfl) (cs := [.int .u8 (x.kind), .string (str (x.tag)), .string (str (x.key)), .slice (ta) (x.as.length) (tc), .string (str (x.text)), .slice (ka) (x.kids.length) (kc)]) rfl (M.cellsL (k := 2) rfl rfl)) rfl ?_; clear F a; intro a F
        refine pk_free F (fun w _ => run_move (F.ev rfl)) rfl ?_; clear F a; intro a F
        refine pk_keep ?_ rfl
        refine rl_callS F ent26 rfl rfl (tcheck_spec (x := x) M hk hl SA SK) ?_; clear F M a; rintro _ w a M rfl F
        refine rl_nil <| ⟨Keep Gk21 [.blk b19 [.int .u8 ((rendN x xk7 64).kind), .string (str ((rendN x xk7 64).tag)), .string (str ((rendN x xk7 64).key)), .slice (tak21) ((rendN x xk7 64).as.length) (tck21), .string (str ((rendN x xk7 64).text)), .slice (kak21) ((rendN x xk7 64).kids.length) (kck21)] 30, .blk b5 [.bool ((usesF x).1), .bool ((usesF x).2.1), .bool ((usesF x).2.2)] 64, .blk b1 [.int .u8 (x.kind), .string (str (x.tag)), .string (str (x.key)), .slice (ta) (x.as.length) (tc), .string (str (x.text)), .slice (ka) (x.kids.length) (kc)] 46], M.keep (Gle.refl _) (by simp), fun w h => h.mono (Gle.refl _) (by simp), ?_⟩
        refine pk_free F (fun w _ => run_nei (F.ev rfl) (F.ev rfl)) rfl ?_; clear F a; intro a F
        refine pk_free F (fun w _ => run_move (F.ev rfl)) rfl ?_; clear F a; intro a F
        iterate 2 (refine pk_pure_g F rfl rfl (not_f (decide_eq_true rfl)) (fun w M => run_loadA tok46 rfl (F.ev rfl) (cs := [.int .u8 (x.kind), .string (str (x.tag)), .string (str (x.key)), .slice (ta) (x.as.length) (tc), .string (str (x.text)), .slice (ka) (x.kids.length) (kc)]) rfl (M.cellsL (k := 2) rfl rfl)) rfl ?_; clear F a; intro a F)
        refine pk_keep_g F rfl rfl (not_f (decide_eq_true rfl)) ?_
        refine rl_guard_t F rfl rfl rfl (not_f (decide_eq_true rfl)) ?_
        refine rl_callS F ent35 rfl rfl (tcount_spec (x := x) M hk hl SA SK) ?_; clear F M a; rintro _ w a M rfl F
        refine rl_nil <| ⟨Keep Gk21 [.blk b19 [.int .u8 ((rendN x xk7 64).kind), .string (str ((rendN x xk7 64).tag)), .string (str ((rendN x xk7 64).key)), .slice (tak21) ((rendN x xk7 64).as.length) (tck21), .string (str ((rendN x xk7 64).text)), .slice (kak21) ((rendN x xk7 64).kids.length) (kck21)] 30, .blk b5 [.bool ((usesF x).1), .bool ((usesF x).2.1), .bool ((usesF x).2.2)] 64, .blk b1 [.int .u8 (x.kind), .string (str (x.tag)), .string (str (x.key)), .slice (ta) (x.as.length) (tc), .string (str (x.text)), .slice (ka) (x.kids.length) (kc)] 46], M.keep (Gle.refl _) (by simp), fun w h => h.mono (Gle.refl _) (by simp), ?_⟩
        refine pk_keep_g F rfl rfl (not_f (decide_eq_true rfl)) ?_
        refine rl_guard_t F rfl rfl rfl (not_f (decide_eq_true rfl)) ?_
        refine rl_callS F ent36 rfl rfl (rpcount_spec (x := x) M hk hl SA SK) ?_; clear F M a; rintro _ w a M rfl F
        refine rl_nil <| ⟨Keep Gk21 [.blk b19 [.int .u8 ((rendN x xk7 64).kind), .string (str ((rendN x xk7 64).tag)), .string (str ((rendN x xk7 64).key)), .slice (tak21) ((rendN x xk7 64).as.length) (tck21), .string (str ((rendN x xk7 64).text)), .slice (kak21) ((rendN x xk7 64).kids.length) (kck21)] 30, .blk b5 [.bool ((usesF x).1), .bool ((usesF x).2.1), .bool ((usesF x).2.2)] 64, .blk b1 [.int .u8 (x.kind), .string (str (x.tag)), .string (str (x.key)), .slice (ta) (x.as.length) (tc), .string (str (x.text)), .slice (ka) (x.kids.length) (kc)] 46], M.keep (Gle.refl _) (by simp), fun w h => h.mono (Gle.refl _) (by simp), ?_⟩
        refine pk_free_g F rfl rfl (not_f (decide_eq_true rfl)) (fun w _ => run_nei (F.ev rfl) (F.ev rfl)) rfl ?_; clear F a; intro a F
        refine pk_free F (fun w _ => run_pick_f (F.ev rfl) (not_f (decide_eq_true rfl)) (F.ev rfl)) rfl ?_; clear F a; intro a F
        refine pk_free F (fun w _ => run_move (F.ev rfl)) rfl ?_; clear F a; intro a F
        iterate 2 (refine pk_free_g F rfl rfl (not_f (decide_eq_true rfl)) (fun w _ => run_move (F.ev rfl)) rfl ?_; clear F a; intro a F)
        refine pk_free_g F rfl rfl (not_f (decide_eq_true rfl)) (fun w _ => run_nei (F.ev rfl) (F.ev rfl)) rfl ?_; clear F a; intro a F
        refine pk_free F (fun w _ => run_pick_f (F.ev rfl) (not_f (decide_eq_true rfl)) (F.ev rfl)) rfl ?_; clear F a; intro a F
        refine pk_nil <| q_tn <| w_cond_f F rfl (not_f (decide_eq_true rfl)) ?_
        refine wp_skip <| q_tn ?_
        iterate 2 (refine wp_seq ?_)
        refine w_reg <| rl_run F (run_move (F.ev rfl)) rfl ?_; clear F a; intro a F
        refine rl_run F (run_nei (F.ev rfl) (F.ev rfl)) rfl ?_; clear F a; intro a F
        refine rl_nil <| q_tn <| w_cond F rfl ?_ ?_
        · intro hc
          have h22b := hc; clear hc
          have h22 : ¬ (chkP x = 0) := of_decide_eq_false (of_not_t h22b)
          have h22c : (decide (chkP x = 0)) = false := (of_not_t h22b)
          have hV : ¬ ValidP x := fun h_ => by rw [chkP_yes h_] at *; omega
          have hz9 : rendE x xk7 64 = 14 := rend_tree (by decide) hV
          rw [chkP_no hV, nodes1n hV, nodes2n hV, hz9] at F
          rw [usesF1n hV, usesF2n hV, usesF3n hV] at M
          refine wp_seq <| w_reg ?_
          iterate 2 (refine rl_run F (run_move (F.ev rfl)) rfl ?_; clear F a; intro a F)
          refine rl_run F (run_eqi (F.ev rfl) (F.ev rfl)) rfl ?_; clear F a; intro a F
          refine rl_run F (run_move (F.ev rfl)) rfl ?_; clear F a; intro a F
          refine rl_guard_t F rfl rfl rfl (decide_eq_true (by decide)) ?_
          refine rl_run F (run_move (F.ev rfl)) rfl ?_; clear F a; intro a F
          refine rl_guard_t F rfl rfl rfl (decide_eq_true (by decide)) ?_
          refine rl_run F (run_move (F.ev rfl)) rfl ?_; clear F a; intro a F
          refine rl_guard_t F rfl rfl rfl (decide_eq_true (by decide)) ?_
          refine rl_run F (run_eqi (F.ev rfl) (F.ev rfl)) rfl ?_; clear F a; intro a F
          refine rl_run F (run_pick_t (F.ev rfl) (decide_eq_true (by decide)) (F.ev rfl)) rfl ?_; clear F a; intro a F
          refine rl_run F (run_move (F.ev rfl)) rfl ?_; clear F a; intro a F
          refine rl_guard_t F rfl rfl rfl (decide_eq_true (by decide)) ?_
          refine rl_run F (run_move (F.ev rfl)) rfl ?_; clear F a; intro a F
          refine rl_guard_t F rfl rfl rfl (decide_eq_true (by decide)) ?_
          refine rl_run F (run_eqi (F.ev rfl) (F.ev rfl)) rfl ?_; clear F a; intro a F
          refine rl_run F (run_pick_t (F.ev rfl) (decide_eq_true (by decide)) (F.ev rfl)) rfl ?_; clear F a; intro a F
          refine rl_run F (run_move (F.ev rfl)) rfl ?_; clear F a; intro a F
          refine rl_guard_t F rfl rfl rfl (decide_eq_true (by decide)) ?_
          refine rl_run F (run_loadA tok64 rfl (F.ev rfl) (cs := [.bool false, .bool false, .bool false]) rfl (M.cellsL (k := 1) rfl rfl)) rfl ?_; clear F a; intro a F
          refine rl_guard_t F rfl rfl rfl (decide_eq_true (by decide)) ?_
          refine rl_run F (run_buildS (cs := [.bool false, .bool false, .bool false]) (ps := []) tok64.k rfl tok64 (F.evp rfl) rfl) rfl ?_; clear F a; intro a F
          refine rl_guard_t F rfl rfl rfl (decide_eq_true (by decide)) ?_
          refine rl_run F (run_eq3b (tb := 4) (by kernel_rfl) (by kernel_rfl) (by kernel_rfl) (by kernel_rfl) tok4.k (F.ev rfl) (F.ev rfl)) rfl ?_; clear F a; intro a F
          refine rl_run F (run_pick_t (F.ev rfl) (decide_eq_true (by decide)) (F.ev rfl)) rfl ?_; clear F a; intro a F
          refine rl_run F (run_move (F.ev rfl)) rfl ?_; clear F a; intro a F
          refine rl_guard_t F rfl rfl rfl rfl ?_
          refine rl_callS F ent28 rfl rfl (lives_spec M) ?_; clear F M a; rintro _ w a M rfl F
          refine rl_run F (run_pick_t (F.ev rfl) rfl (F.ev rfl)) rfl ?_; clear F a; intro a F
          refine rl_run F (run_assign (F.ev rfl)) rfl ?_; clear F a; intro a F
          refine rl_nil <| q_tn <| wp_ret <| q_tr <| fin1 F rfl rfl ?_
          exact ⟨_, (hGk7.trans hGk21), M.weaken (.cons _ (.cons _ (.cons _ (List.Sublist.refl _)))), by rfl⟩
        · intro hc
          have h23b := hc; clear hc
          have h23 : chkP x = 0 := of_decide_eq_true (of_not_f h23b)
          have h23c : (decide (chkP x = 0)) = true := (of_not_f h23b)
          have hV : ValidP x := chkP_zero.1 (by assumption)
          rw [chkP_yes hV] at F
          refine wp_skip <| q_tn ?_
          iterate 2 (refine wp_seq ?_)
          refine w_reg <| rl_run F (run_move (F.ev rfl)) rfl ?_; clear F a; intro a F
          refine rl_run F (run_lss (F.ev rfl) (F.ev rfl)) rfl ?_; clear F a; intro a F
          refine rl_run F (run_move (F.ev rfl)) rfl ?_; clear F a; intro a F
          rcases Bool.eq_false_or_eq_true (decide (m < 0)) with hc | hc
          · skip
            have h24b := hc; clear hc
            have h24 : m < 0 := of_decide_eq_true h24b
            iterate 2 (refine rl_guard_f F rfl rfl rfl h24b ?_; clear F a; intro a F)
            refine rl_run F (run_pick_t (F.ev rfl) h24b (F.ev rfl)) rfl ?_; clear F a; intro a F
            refine rl_nil <| q_tn <| w_cond_t F rfl rfl ?_
            refine wp_seq ?_
            have hm9 : m < 0 ∨ 8 < m := by omega
            rw [nodes1a hV hm9, nodes2a hV hm9] at F
            refine w_reg <| rl_run F (run_move (F.ev rfl)) rfl ?_; clear F a; intro a F
            refine rl_run F (run_eqi (F.ev rfl) (F.ev rfl)) rfl ?_; clear F a; intro a F
            refine rl_run F (run_move (F.ev rfl)) rfl ?_; clear F a; intro a F
            refine rl_guard_t F rfl rfl rfl (decide_eq_true (by decide)) ?_
            refine rl_run F (run_move (F.ev rfl)) rfl ?_; clear F a; intro a F
            refine rl_guard_t F rfl rfl rfl (decide_eq_true (by decide)) ?_
            refine rl_run F (run_eqi (F.ev rfl) (F.ev rfl)) rfl ?_; clear F a; intro a F
            refine rl_run F (run_pick_t (F.ev rfl) (decide_eq_true (by decide)) (F.ev rfl)) rfl ?_; clear F a; intro a F
            refine rl_run F (run_move (F.ev rfl)) rfl ?_; clear F a; intro a F
            refine rl_guard_t F rfl rfl rfl (decide_eq_true (by decide)) ?_
            refine rl_callS F ent28 rfl rfl (lives_spec M) ?_; clear F M a; rintro _ w a M rfl F
            refine rl_run F (run_pick_t (F.ev rfl) (decide_eq_true (by decide)) (F.ev rfl)) rfl ?_; clear F a; intro a F
            refine rl_run F (run_assign (F.ev rfl)) rfl ?_; clear F a; intro a F
            refine rl_nil <| q_tn <| wp_ret <| q_tr <| fin1 F rfl rfl ?_
            exact ⟨_, (hGk7.trans hGk21), M.weaken (.cons _ (.cons _ (.cons _ (List.Sublist.refl _)))), by rfl⟩
          · skip
            have h25b := hc; clear hc
            have h25 : ¬ (m < 0) := of_decide_eq_false h25b
            refine rl_guard_t F rfl rfl rfl h25b ?_
            refine rl_run F (run_move (F.ev rfl)) rfl ?_; clear F a; intro a F
            refine rl_guard_t F rfl rfl rfl h25b ?_
            refine rl_run F (run_gtr (F.ev rfl) (F.ev rfl)) rfl ?_; clear F a; intro a F
            refine rl_run F (run_pick_f (F.ev rfl) h25b (F.ev rfl)) rfl ?_; clear F a; intro a F
            refine rl_nil <| q_tn <| w_cond F rfl ?_ ?_
            · intro hc
              have h26b := hc; clear hc
              have h26 : 8 < m := of_decide_eq_true h26b
              refine wp_seq ?_
              have hm9 : m < 0 ∨ 8 < m := by omega
              rw [nodes1a hV hm9, nodes2a hV hm9] at F
              refine w_reg <| rl_run F (run_move (F.ev rfl)) rfl ?_; clear F a; intro a F
              refine rl_run F (run_eqi (F.ev rfl) (F.ev rfl)) rfl ?_; clear F a; intro a F
              refine rl_run F (run_move (F.ev rfl)) rfl ?_; clear F a; intro a F
              refine rl_guard_t F rfl rfl rfl (decide_eq_true (by decide)) ?_
              refine rl_run F (run_move (F.ev rfl)) rfl ?_; clear F a; intro a F
              refine rl_guard_t F rfl rfl rfl (decide_eq_true (by decide)) ?_
              refine rl_run F (run_eqi (F.ev rfl) (F.ev rfl)) rfl ?_; clear F a; intro a F
              refine rl_run F (run_pick_t (F.ev rfl) (decide_eq_true (by decide)) (F.ev rfl)) rfl ?_; clear F a; intro a F
              refine rl_run F (run_move (F.ev rfl)) rfl ?_; clear F a; intro a F
              refine rl_guard_t F rfl rfl rfl (decide_eq_true (by decide)) ?_
              refine rl_callS F ent28 rfl rfl (lives_spec M) ?_; clear F M a; rintro _ w a M rfl F
              refine rl_run F (run_pick_t (F.ev rfl) (decide_eq_true (by decide)) (F.ev rfl)) rfl ?_; clear F a; intro a F
              refine rl_run F (run_assign (F.ev rfl)) rfl ?_; clear F a; intro a F
              refine rl_nil <| q_tn <| wp_ret <| q_tr <| fin1 F rfl rfl ?_
              exact ⟨_, (hGk7.trans hGk21), M.weaken (.cons _ (.cons _ (.cons _ (List.Sublist.refl _)))), by rfl⟩
            · intro hc
              have h27b := hc; clear hc
              have h27 : ¬ (8 < m) := of_decide_eq_false h27b
              refine wp_skip <| q_tn <| wp_seq ?_
              obtain ⟨mq, rfl, hmq⟩ : ∃ q : Nat, m = (q : Int) ∧ q ≤ 8 := ⟨m.toNat, by omega, by omega⟩
              rw [nodes1y hV hmq, nodes2y hV hmq] at F
              refine w_reg <| rl_run F (run_move (F.ev rfl)) rfl ?_; clear F a; intro a F
              refine rl_run F (run_eqi (F.ev rfl) (F.ev rfl)) rfl ?_; clear F a; intro a F
              refine rl_run F (run_move (F.ev rfl)) rfl ?_; clear F a; intro a F
              refine rl_guard_t F rfl rfl rfl (decide_eq_true (by decide)) ?_
              refine rl_run F (run_move (F.ev rfl)) rfl ?_; clear F a; intro a F
              refine rl_guard_t F rfl rfl rfl (decide_eq_true (by decide)) ?_
              refine rl_run F (run_loadA tok46 rfl (F.ev rfl) (cs := [.int .u8 (x.kind), .string (str (x.tag)), .string (str (x.key)), .slice (ta) (x.as.length) (tc), .string (str (x.text)), .slice (ka) (x.kids.length) (kc)]) rfl (M.cellsL (k := 2) rfl rfl)) rfl ?_; clear F a; intro a F
              refine rl_guard_t F rfl rfl rfl (decide_eq_true (by decide)) ?_
              refine rl_run F (run_move (F.ev rfl)) rfl ?_; clear F a; intro a F
              refine rl_guard_t F rfl rfl rfl (decide_eq_true (by decide)) ?_
              refine rl_callS F ent25 rfl rfl (rnodes_all x _ _ _ _ _ _ _ _ mq 6 M hk hl SA SK hV.2.1 hV.2.2 hmq) ?_; clear F M a; rintro _ w a M rfl F
              refine rl_guard_t F rfl rfl rfl (decide_eq_true (by decide)) ?_
              refine rl_run F (run_eqi (F.ev rfl) (F.ev rfl)) rfl ?_; clear F a; intro a F
              refine rl_run F (run_pick_t (F.ev rfl) (decide_eq_true (by decide)) (F.ev rfl)) rfl ?_; clear F a; intro a F
              refine rl_run F (run_move (F.ev rfl)) rfl ?_; clear F a; intro a F
              refine rl_guard_t F rfl rfl rfl (decide_eq_true rfl) ?_
              refine rl_run F (run_move (F.ev rfl)) rfl ?_; clear F a; intro a F
              refine rl_guard_t F rfl rfl rfl (decide_eq_true rfl) ?_
              refine rl_run F (run_gtr (F.ev rfl) (F.ev rfl)) rfl ?_; clear F a; intro a F
              refine rl_guard_t F rfl rfl rfl (decide_eq_true rfl) ?_
              refine rl_run F (run_move (F.ev rfl)) rfl ?_; clear F a; intro a F
              rcases Bool.eq_false_or_eq_true (decide (0 < ((mq : Nat) : Int))) with hc | hc
              · skip
                have h28b := hc; clear hc
                have h28 : 0 < ((mq : Nat) : Int) := of_decide_eq_true h28b
                iterate 4 (refine rl_guard_f F rfl rfl rfl h28b ?_; clear F a; intro a F)
                refine rl_guard_t F rfl rfl rfl (decide_eq_true rfl) ?_
                refine rl_run F (run_pick_t (F.ev rfl) h28b (F.ev rfl)) rfl ?_; clear F a; intro a F
                refine rl_run F (run_pick_t (F.ev rfl) (decide_eq_true rfl) (F.ev rfl)) rfl ?_; clear F a; intro a F
                refine rl_run F (run_move (F.ev rfl)) rfl ?_; clear F a; intro a F
                refine rl_guard_t F rfl rfl rfl rfl ?_
                refine rl_callS F ent28 rfl rfl (lives_spec M) ?_; clear F M a; rintro _ w a M rfl F
                refine rl_run F (run_pick_t (F.ev rfl) rfl (F.ev rfl)) rfl ?_; clear F a; intro a F
                refine rl_run F (run_assign (F.ev rfl)) rfl ?_; clear F a; intro a F
                refine rl_nil <| q_tn <| wp_ret <| fin1 F rfl rfl ?_
                exact ⟨_, (hGk7.trans hGk21), M.weaken (.cons _ (.cons _ (.cons _ (List.Sublist.refl _)))), by rfl⟩
              · skip
                have h29b := hc; clear hc
                have h29 : ¬ (0 < ((mq : Nat) : Int)) := of_decide_eq_false h29b
                have hn9 : ((ndF mq x : Nat) : Int) ≤ ((cntP x : Nat) : Int) := by rw [show mq = 0 by omega, cntP_yes hV]; exact Int.ofNat_le.2 (ndF0_le x)
                refine rl_guard_t F rfl rfl rfl h29b ?_
                refine rl_run F (run_move (F.ev rfl)) rfl ?_; clear F a; intro a F
                refine rl_guard_t F rfl rfl rfl h29b ?_
                refine rl_run F (run_loadA tok46 rfl (F.ev rfl) (cs := [.int .u8 (x.kind), .string (str (x.tag)), .string (str (x.key)), .slice (ta) (x.as.length) (tc), .string (str (x.text)), .slice (ka) (x.kids.length) (kc)]) rfl (M.cellsL (k := 2) rfl rfl)) rfl ?_; clear F a; intro a F
                refine rl_guard_t F rfl rfl rfl h29b ?_
                refine rl_callS F ent35 rfl rfl (tcount_spec (x := x) M hk hl SA SK) ?_; clear F M a; rintro _ w a M rfl F
                refine rl_guard_t F rfl rfl rfl h29b ?_
                refine rl_run F (run_leq (F.ev rfl) (F.ev rfl)) rfl ?_; clear F a; intro a F
                refine rl_guard_t F rfl rfl rfl (decide_eq_true rfl) ?_
                refine rl_run F (run_pick_f (F.ev rfl) h29b (F.ev rfl)) rfl ?_; clear F a; intro a F
                refine rl_run F (run_pick_t (F.ev rfl) (decide_eq_true rfl) (F.ev rfl)) rfl ?_; clear F a; intro a F
                refine rl_run F (run_move (F.ev rfl)) rfl ?_; clear F a; intro a F
                refine rl_guard_t F rfl rfl rfl (decide_eq_true hn9) ?_
                refine rl_callS F ent28 rfl rfl (lives_spec M) ?_; clear F M a; rintro _ w a M rfl F
                refine rl_run F (run_pick_t (F.ev rfl) (decide_eq_true hn9) (F.ev rfl)) rfl ?_; clear F a; intro a F
                refine rl_run F (run_assign (F.ev rfl)) rfl ?_; clear F a; intro a F
                refine rl_nil <| q_tn <| wp_ret <| fin1 F rfl rfl ?_
                exact ⟨_, (hGk7.trans hGk21), M.weaken (.cons _ (.cons _ (.cons _ (List.Sublist.refl _)))), by rfl⟩
      exact pt_no
    refine pt_act ?_ rfl ?_
    · skip
      refine rl_alloc F M tok30 rfl rfl ?_; clear F M a; intro b30 w a M F
      refine rl_nil <| ⟨Keep G [.blk b5 [.bool ((usesF x).1), .bool ((usesF x).2.1), .bool ((usesF x).2.2)] 64, .blk b1 [.int .u8 (x.kind), .string (str (x.tag)), .string (str (x.key)), .slice (ta) (x.as.length) (tc), .string (str (x.text)), .slice (ka) (x.kids.length) (kc)] 46], M.keep (Gle.refl _) (by simp), fun w h => h.mono (Gle.refl _) (by simp), ?_⟩
      refine pt_act ?_ rfl pt_no
      refine rl_call F ent21 rfl rfl (iof_spec (cs := []) M RdSl.nil (ik := 0) (it := 0) (by omega) (by omega)) ?_; clear F M a; rintro _ Gk32 w a hGk32 M ⟨xk32, mak32, mck32, rfl, hIk32, hkk32, SMk32⟩ F
      replace SA := SA.mono mono_rdSlot hGk32
      replace SK := SK.mono mono_rdP hGk32
      refine rl_nil <| ⟨Keep Gk32 [.blk b5 [.bool ((usesF x).1), .bool ((usesF x).2.1), .bool ((usesF x).2.2)] 64, .blk b1 [.int .u8 (x.kind), .string (str (x.tag)), .string (str (x.key)), .slice (ta) (x.as.length) (tc), .string (str (x.text)), .slice (ka) (x.kids.length) (kc)] 46], M.keep (Gle.refl _) (by simp), fun w h => h.mono hGk32 (by simp), ?_⟩
      refine pt_act ?_ rfl pt_no
      refine rl_call F ent22 rfl rfl (trender_at (p := x) (x := xk32) (most := 64) (e := (rendE x xk32 64)) (nn := (rendN x xk32 64)) M hk hl SA SK (itm_len hIk32) SMk32 hkk32 rfl rfl) ?_; clear F M a; rintro _ Gk33 w a hGk33 M ⟨tak33, tck33, kak33, kck33, rfl, hkk33, hlk33, SAk33, SKk33⟩ F
      replace SA := SA.mono mono_rdSlot hGk33
      replace SK := SK.mono mono_rdP hGk33
      replace SMk32 := SMk32.mono mono_rdStr hGk33
      refine rl_nil <| ⟨Keep Gk33 [.blk b5 [.bool ((usesF x).1), .bool ((usesF x).2.1), .bool ((usesF x).2.2)] 64, .blk b1 [.int .u8 (x.kind), .string (str (x.tag)), .string (str (x.key)), .slice (ta) (x.as.length) (tc), .string (str (x.text)), .slice (ka) (x.kids.length) (kc)] 46], M.keep (Gle.refl _) (by simp), fun w h => h.mono hGk33 (by simp), ?_⟩
      refine pt_run F (fun w M => run_move (F.ev rfl)) rfl ?_; clear F a; intro a F
      refine pt_run F (fun w M => run_extract (v := .agg #[.int .u8 ((rendN x xk32 64).kind), .string (str ((rendN x xk32 64).tag)), .string (str ((rendN x xk32 64).key)), .slice (tak33) ((rendN x xk32 64).as.length) (tck33), .string (str ((rendN x xk32 64).text)), .slice (kak33) ((rendN x xk32 64).kids.length) (kck33)]) (F.ev rfl) rfl) rfl ?_; clear F a; intro a F
      refine pt_run F (fun w M => run_extract (v := .int .i64 ((rendE x xk32 64))) (F.ev rfl) rfl) rfl ?_; clear F a; intro a F
      refine pt_act ?_ rfl pt_no
      refine rl_storeA F M tok30 (k := 0) rfl rfl rfl (us := [.int .u8 ((rendN x xk32 64).kind), .string (str ((rendN x xk32 64).tag)), .string (str ((rendN x xk32 64).key)), .slice (tak33) ((rendN x xk32 64).as.length) (tck33), .string (str ((rendN x xk32 64).text)), .slice (kak33) ((rendN x xk32 64).kids.length) (kck33)]) rfl rfl (by simp [Value.oneCell']) (by simp) ?_; clear F M a; intro w a M F
      change Mem w0 Gk33 (.blk b30 [.int .u8 ((rendN x xk32 64).kind), .string (str ((rendN x xk32 64).tag)), .string (str ((rendN x xk32 64).key)), .slice (tak33) ((rendN x xk32 64).as.length) (tck33), .string (str ((rendN x xk32 64).text)), .slice (kak33) ((rendN x xk32 64).kids.length) (kck33)] 30 :: .blk b5 [.bool ((usesF x).1), .bool ((usesF x).2.1), .bool ((usesF x).2.2)] 64 :: .blk b1 [.int .u8 (x.kind), .string (str (x.tag)), .string (str (x.key)), .slice (ta) (x.as.length) (tc), .string (str (x.text)), .slice (ka) (x.kids.length) (kc)] 46 :: L) _ at M
      refine rl_nil <| ⟨Keep Gk33 [.blk b5 [.bool ((usesF x).1), .bool ((usesF x).2.1), .bool ((usesF x).2.2)] 64, .blk b1 [.int .u8 (x.kind), .string (str (x.tag)), .string (str (x.key)), .slice (ta) (x.as.length) (tc), .string (str (x.text)), .slice (ka) (x.kids.length) (kc)] 46], M.keep (Gle.refl _) (by simp), fun w h => h.mono (Gle.refl _) (by simp), ?_⟩
      refine pt_run F (fun w M => run_assign (F.ev rfl)) rfl ?_; clear F a; intro a F
      refine pt_fin <| q_tn ?_
      iterate 2 (refine wp_seq ?_)
      refine w_plan2 [(.pure, 0), (.free, 2), (.keep, 1), (.free, 3), (.free, 4), (.pure, 5), (.pure, 7), (.keep, 6), (.keep, 8), (.free, 9), (.free, 10), (.free, 11), (.free, 12), (.free, 13), (.free, 14), (.free, 15)] [] (Keep Gk33 [.blk b30 [.int .u8 ((rendN x xk32 64).kind), .string (str ((rendN x xk32 64).tag)), .string (str ((rendN x xk32 64).key)), .slice (tak33) ((rendN x xk32 64).as.length) (tck33), .string (str ((rendN x xk32 64).text)), .slice (kak33) ((rendN x xk32 64).kids.length) (kck33)] 30, .blk b5 [.bool ((usesF x).1), .bool ((usesF x).2.1), .bool ((usesF x).2.2)] 64, .blk b1 [.int .u8 (x.kind), .string (str (x.tag)), .string (str (x.key)), .slice (ta) (x.as.length) (tc), .string (str (x.text)), .slice (ka) (x.kids.length) (kc)] 46]) rfl (by kernel_rfl) (fun c a d v w h => by cases d <;> exact h) ((M.drew _).keep (Gle.refl _) (by simp)) ?_
      replace M := M.drew (w.drawn + 1)
      refine pk_pure F (fun w M => run_loadA tok46 rfl (F.ev rfl) (cs := [.int .u8 (x.kind), .string (str (x.tag)), .string (str (x.key)), .slice (ta) (x.as.length) (tc), .string (str (x.text)), .slice (ka) (x.kids.length) (kc)]) rfl (M.cellsL (k := 2) rfl rfl)) rfl ?_; clear F a; intro a F
      refine pk_free F (fun w _ => run_move (F.ev rfl)) rfl ?_; clear F a; intro a F
      refine pk_keep ?_ rfl
      refine rl_callS F ent26 rfl rfl (tcheck_spec (x := x) M hk hl SA SK) ?_; clear F M a; rintro _ w a M rfl F
      refine rl_nil <| ⟨Keep Gk33 [.blk b30 [.int .u8 ((rendN x xk32 64).kind), .string (str ((rendN x xk32 64).tag)), .string (str ((rendN x xk32 64).key)), .slice (tak33) ((rendN x xk32 64).as.length) (tck33), .string (str ((rendN x xk32 64).text)), .slice (kak33) ((rendN x xk32 64).kids.length) (kck33)] 30, .blk b5 [.bool ((usesF x).1), .bool ((usesF x).2.1), .bool ((usesF x).2.2)] 64, .blk b1 [.int .u8 (x.kind), .string (str (x.tag)), .string (str (x.key)), .slice (ta) (x.as.length) (tc), .string (str (x.text)), .slice (ka) (x.kids.length) (kc)] 46], M.keep (Gle.refl _) (by simp), fun w h => h.mono (Gle.refl _) (by simp), ?_⟩
      refine pk_free F (fun w _ => run_nei (F.ev rfl) (F.ev rfl)) rfl ?_; clear F a; intro a F
      refine pk_free F (fun w _ => run_move (F.ev rfl)) rfl ?_; clear F a; intro a F
      iterate 2 (refine pk_pure_g F rfl rfl (not_f (decide_eq_true rfl)) (fun w M => run_loadA tok46 rfl (F.ev rfl) (cs := [.int .u8 (x.kind), .string (str (x.tag)), .string (str (x.key)), .slice (ta) (x.as.length) (tc), .string (str (x.text)), .slice (ka) (x.kids.length) (kc)]) rfl (M.cellsL (k := 2) rfl rfl)) rfl ?_; clear F a; intro a F)
      refine pk_keep_g F rfl rfl (not_f (decide_eq_true rfl)) ?_
      refine rl_guard_t F rfl rfl rfl (not_f (decide_eq_true rfl)) ?_
      refine rl_callS F ent35 rfl rfl (tcount_spec (x := x) M hk hl SA SK) ?_; clear F M a; rintro _ w a M rfl F
      refine rl_nil <| ⟨Keep Gk33 [.blk b30 [.int .u8 ((rendN x xk32 64).kind), .string (str ((rendN x xk32 64).tag)), .string (str ((rendN x xk32 64).key)), .slice (tak33) ((rendN x xk32 64).as.length) (tck33), .string (str ((rendN x xk32 64).text)), .slice (kak33) ((rendN x xk32 64).kids.length) (kck33)] 30, .blk b5 [.bool ((usesF x).1), .bool ((usesF x).2.1), .bool ((usesF x).2.2)] 64, .blk b1 [.int .u8 (x.kind), .string (str (x.tag)), .string (str (x.key)), .slice (ta) (x.as.length) (tc), .string (str (x.text)), .slice (ka) (x.kids.length) (kc)] 46], M.keep (Gle.refl _) (by simp), fun w h => h.mono (Gle.refl _) (by simp), ?_⟩
      refine pk_keep_g F rfl rfl (not_f (decide_eq_true rfl)) ?_
      refine rl_guard_t F rfl rfl rfl (not_f (decide_eq_true rfl)) ?_
      refine rl_callS F ent36 rfl rfl (rpcount_spec (x := x) M hk hl SA SK) ?_; clear F M a; rintro _ w a M rfl F
      refine rl_nil <| ⟨Keep Gk33 [.blk b30 [.int .u8 ((rendN x xk32 64).kind), .string (str ((rendN x xk32 64).tag)), .string (str ((rendN x xk32 64).key)), .slice (tak33) ((rendN x xk32 64).as.length) (tck33), .string (str ((rendN x xk32 64).text)), .slice (kak33) ((rendN x xk32 64).kids.length) (kck33)] 30, .blk b5 [.bool ((usesF x).1), .bool ((usesF x).2.1), .bool ((usesF x).2.2)] 64, .blk b1 [.int .u8 (x.kind), .string (str (x.tag)), .string (str (x.key)), .slice (ta) (x.as.length) (tc), .string (str (x.text)), .slice (ka) (x.kids.length) (kc)] 46], M.keep (Gle.refl _) (by simp), fun w h => h.mono (Gle.refl _) (by simp), ?_⟩
      refine pk_free_g F rfl rfl (not_f (decide_eq_true rfl)) (fun w _ => run_nei (F.ev rfl) (F.ev rfl)) rfl ?_; clear F a; intro a F
      refine pk_free F (fun w _ => run_pick_f (F.ev rfl) (not_f (decide_eq_true rfl)) (F.ev rfl)) rfl ?_; clear F a; intro a F
      refine pk_free F (fun w _ => run_move (F.ev rfl)) rfl ?_; clear F a; intro a F
      iterate 2 (refine pk_free_g F rfl rfl (not_f (decide_eq_true rfl)) (fun w _ => run_move (F.ev rfl)) rfl ?_; clear F a; intro a F)
      refine pk_free_g F rfl rfl (not_f (decide_eq_true rfl)) (fun w _ => run_nei (F.ev rfl) (F.ev rfl)) rfl ?_; clear F a; intro a F
      refine pk_free F (fun w _ => run_pick_f (F.ev rfl) (not_f (decide_eq_true rfl)) (F.ev rfl)) rfl ?_; clear F a; intro a F
      refine pk_nil <| q_tn <| w_cond_f F rfl (not_f (decide_eq_true rfl)) ?_
      refine wp_skip <| q_tn ?_
      iterate 2 (refine wp_seq ?_)
      refine w_reg <| rl_run F (run_move (F.ev rfl)) rfl ?_; clear F a; intro a F
      refine rl_run F (run_nei (F.ev rfl) (F.ev rfl)) rfl ?_; clear F a; intro a F
      refine rl_nil <| q_tn <| w_cond F rfl ?_ ?_
      · intro hc
        have h34b := hc; clear hc
        have h34 : ¬ (chkP x = 0) := of_decide_eq_false (of_not_t h34b)
        have h34c : (decide (chkP x = 0)) = false := (of_not_t h34b)
        have hV : ¬ ValidP x := fun h_ => by rw [chkP_yes h_] at *; omega
        have hz9 : rendE x xk32 64 = 14 := rend_tree (by decide) hV
        rw [chkP_no hV, nodes1n hV, nodes2n hV, hz9] at F
        rw [usesF1n hV, usesF2n hV, usesF3n hV] at M
        refine wp_seq <| w_reg ?_
        iterate 2 (refine rl_run F (run_move (F.ev rfl)) rfl ?_; clear F a; intro a F)
        refine rl_run F (run_eqi (F.ev rfl) (F.ev rfl)) rfl ?_; clear F a; intro a F
        refine rl_run F (run_move (F.ev rfl)) rfl ?_; clear F a; intro a F
        refine rl_guard_t F rfl rfl rfl (decide_eq_true (by decide)) ?_
        refine rl_run F (run_move (F.ev rfl)) rfl ?_; clear F a; intro a F
        refine rl_guard_t F rfl rfl rfl (decide_eq_true (by decide)) ?_
        refine rl_run F (run_move (F.ev rfl)) rfl ?_; clear F a; intro a F
        refine rl_guard_t F rfl rfl rfl (decide_eq_true (by decide)) ?_
        refine rl_run F (run_eqi (F.ev rfl) (F.ev rfl)) rfl ?_; clear F a; intro a F
        refine rl_run F (run_pick_t (F.ev rfl) (decide_eq_true (by decide)) (F.ev rfl)) rfl ?_; clear F a; intro a F
        refine rl_run F (run_move (F.ev rfl)) rfl ?_; clear F a; intro a F
        refine rl_guard_t F rfl rfl rfl (decide_eq_true (by decide)) ?_
        refine rl_run F (run_move (F.ev rfl)) rfl ?_; clear F a; intro a F
        refine rl_guard_t F rfl rfl rfl (decide_eq_true (by decide)) ?_
        refine rl_run F (run_eqi (F.ev rfl) (F.ev rfl)) rfl ?_; clear F a; intro a F
        refine rl_run F (run_pick_t (F.ev rfl) (decide_eq_true (by decide)) (F.ev rfl)) rfl ?_; clear F a; intro a F
        refine rl_run F (run_move (F.ev rfl)) rfl ?_; clear F a; intro a F
        refine rl_guard_t F rfl rfl rfl (decide_eq_true (by decide)) ?_
        refine rl_run F (run_loadA tok64 rfl (F.ev rfl) (cs := [.bool false, .bool false, .bool false]) rfl (M.cellsL (k := 1) rfl rfl)) rfl ?_; clear F a; intro a F
        refine rl_guard_t F rfl rfl rfl (decide_eq_true (by decide)) ?_
        refine rl_run F (run_buildS (cs := [.bool false, .bool false, .bool false]) (ps := []) tok64.k rfl tok64 (F.evp rfl) rfl) rfl ?_; clear F a; intro a F
        refine rl_guard_t F rfl rfl rfl (decide_eq_true (by decide)) ?_
        refine rl_run F (run_eq3b (tb := 4) (by kernel_rfl) (by kernel_rfl) (by kernel_rfl) (by kernel_rfl) tok4.k (F.ev rfl) (F.ev rfl)) rfl ?_; clear F a; intro a F
        refine rl_run F (run_pick_t (F.ev rfl) (decide_eq_true (by decide)) (F.ev rfl)) rfl ?_; clear F a; intro a F
        refine rl_run F (run_move (F.ev rfl)) rfl ?_; clear F a; intro a F
        refine rl_guard_t F rfl rfl rfl rfl ?_
        refine rl_callS F ent28 rfl rfl (lives_spec M) ?_; clear F M a; rintro _ w a M rfl F
        refine rl_run F (run_pick_t (F.ev rfl) rfl (F.ev rfl)) rfl ?_; clear F a; intro a F
        refine rl_run F (run_assign (F.ev rfl)) rfl ?_; clear F a; intro a F
        refine rl_nil <| q_tn <| wp_ret <| q_tr <| fin1 F rfl rfl ?_
        exact ⟨_, (hGk32.trans hGk33), M.weaken (.cons _ (.cons _ (.cons _ (List.Sublist.refl _)))), by rfl⟩
      · intro hc
        have h35b := hc; clear hc
        have h35 : chkP x = 0 := of_decide_eq_true (of_not_f h35b)
        have h35c : (decide (chkP x = 0)) = true := (of_not_f h35b)
        have hV : ValidP x := chkP_zero.1 (by assumption)
        rw [chkP_yes hV] at F
        refine wp_skip <| q_tn ?_
        iterate 2 (refine wp_seq ?_)
        refine w_reg <| rl_run F (run_move (F.ev rfl)) rfl ?_; clear F a; intro a F
        refine rl_run F (run_lss (F.ev rfl) (F.ev rfl)) rfl ?_; clear F a; intro a F
        refine rl_run F (run_move (F.ev rfl)) rfl ?_; clear F a; intro a F
        rcases Bool.eq_false_or_eq_true (decide (m < 0)) with hc | hc
        · skip
          have h36b := hc; clear hc
          have h36 : m < 0 := of_decide_eq_true h36b
          iterate 2 (refine rl_guard_f F rfl rfl rfl h36b ?_; clear F a; intro a F)
          refine rl_run F (run_pick_t (F.ev rfl) h36b (F.ev rfl)) rfl ?_; clear F a; intro a F
          refine rl_nil <| q_tn <| w_cond_t F rfl rfl ?_
          refine wp_seq ?_
          have hm9 : m < 0 ∨ 8 < m := by omega
          rw [nodes1a hV hm9, nodes2a hV hm9] at F
          refine w_reg <| rl_run F (run_move (F.ev rfl)) rfl ?_; clear F a; intro a F
          refine rl_run F (run_eqi (F.ev rfl) (F.ev rfl)) rfl ?_; clear F a; intro a F
          refine rl_run F (run_move (F.ev rfl)) rfl ?_; clear F a; intro a F
          refine rl_guard_t F rfl rfl rfl (decide_eq_true (by decide)) ?_
          refine rl_run F (run_move (F.ev rfl)) rfl ?_; clear F a; intro a F
          refine rl_guard_t F rfl rfl rfl (decide_eq_true (by decide)) ?_
          refine rl_run F (run_eqi (F.ev rfl) (F.ev rfl)) rfl ?_; clear F a; intro a F
          refine rl_run F (run_pick_t (F.ev rfl) (decide_eq_true (by decide)) (F.ev rfl)) rfl ?_; clear F a; intro a F
          refine rl_run F (run_move (F.ev rfl)) rfl ?_; clear F a; intro a F
          refine rl_guard_t F rfl rfl rfl (decide_eq_true (by decide)) ?_
          refine rl_callS F ent28 rfl rfl (lives_spec M) ?_; clear F M a; rintro _ w a M rfl F
          refine rl_run F (run_pick_t (F.ev rfl) (decide_eq_true (by decide)) (F.ev rfl)) rfl ?_; clear F a; intro a F
          refine rl_run F (run_assign (F.ev rfl)) rfl ?_; clear F a; intro a F
          refine rl_nil <| q_tn <| wp_ret <| q_tr <| fin1 F rfl rfl ?_
          exact ⟨_, (hGk32.trans hGk33), M.weaken (.cons _ (.cons _ (.cons _ (List.Sublist.refl _)))), by rfl⟩
        · skip
          have h37b := hc; clear hc
          have h37 : ¬ (m < 0) := of_decide_eq_false h37b
          refine rl_guard_t F rfl rfl rfl h37b ?_
          refine rl_run F (run_move (F.ev rfl)) rfl ?_; clear F a; intro a F
          refine rl_guard_t F rfl rfl rfl h37b ?_
          refine rl_run F (run_gtr (F.ev rfl) (F.ev rfl)) rfl ?_; clear F a; intro a F
          refine rl_run F (run_pick_f (F.ev rfl) h37b (F.ev rfl)) rfl ?_; clear F a; intro a F
          refine rl_nil <| q_tn <| w_cond F rfl ?_ ?_
          · intro hc
            have h38b := hc; clear hc
            have h38 : 8 < m := of_decide_eq_true h38b
            refine wp_seq ?_
            have hm9 : m < 0 ∨ 8 < m := by omega
            rw [nodes1a hV hm9, nodes2a hV hm9] at F
            refine w_reg <| rl_run F (run_move (F.ev rfl)) rfl ?_; clear F a; intro a F
            refine rl_run F (run_eqi (F.ev rfl) (F.ev rfl)) rfl ?_; clear F a; intro a F
            refine rl_run F (run_move (F.ev rfl)) rfl ?_; clear F a; intro a F
            refine rl_guard_t F rfl rfl rfl (decide_eq_true (by decide)) ?_
            refine rl_run F (run_move (F.ev rfl)) rfl ?_; clear F a; intro a F
            refine rl_guard_t F rfl rfl rfl (decide_eq_true (by decide)) ?_
            refine rl_run F (run_eqi (F.ev rfl) (F.ev rfl)) rfl ?_; clear F a; intro a F
            refine rl_run F (run_pick_t (F.ev rfl) (decide_eq_true (by decide)) (F.ev rfl)) rfl ?_; clear F a; intro a F
            refine rl_run F (run_move (F.ev rfl)) rfl ?_; clear F a; intro a F
            refine rl_guard_t F rfl rfl rfl (decide_eq_true (by decide)) ?_
            refine rl_callS F ent28 rfl rfl (lives_spec M) ?_; clear F M a; rintro _ w a M rfl F
            refine rl_run F (run_pick_t (F.ev rfl) (decide_eq_true (by decide)) (F.ev rfl)) rfl ?_; clear F a; intro a F
            refine rl_run F (run_assign (F.ev rfl)) rfl ?_; clear F a; intro a F
            refine rl_nil <| q_tn <| wp_ret <| q_tr <| fin1 F rfl rfl ?_
            exact ⟨_, (hGk32.trans hGk33), M.weaken (.cons _ (.cons _ (.cons _ (List.Sublist.refl _)))), by rfl⟩
          · intro hc
            have h39b := hc; clear hc
            have h39 : ¬ (8 < m) := of_decide_eq_false h39b
            refine wp_skip <| q_tn <| wp_seq ?_
            obtain ⟨mq, rfl, hmq⟩ : ∃ q : Nat, m = (q : Int) ∧ q ≤ 8 := ⟨m.toNat, by omega, by omega⟩
            rw [nodes1y hV hmq, nodes2y hV hmq] at F
            refine w_reg <| rl_run F (run_move (F.ev rfl)) rfl ?_; clear F a; intro a F
            refine rl_run F (run_eqi (F.ev rfl) (F.ev rfl)) rfl ?_; clear F a; intro a F
            refine rl_run F (run_move (F.ev rfl)) rfl ?_; clear F a; intro a F
            refine rl_guard_t F rfl rfl rfl (decide_eq_true (by decide)) ?_
            refine rl_run F (run_move (F.ev rfl)) rfl ?_; clear F a; intro a F
            refine rl_guard_t F rfl rfl rfl (decide_eq_true (by decide)) ?_
            refine rl_run F (run_loadA tok46 rfl (F.ev rfl) (cs := [.int .u8 (x.kind), .string (str (x.tag)), .string (str (x.key)), .slice (ta) (x.as.length) (tc), .string (str (x.text)), .slice (ka) (x.kids.length) (kc)]) rfl (M.cellsL (k := 2) rfl rfl)) rfl ?_; clear F a; intro a F
            refine rl_guard_t F rfl rfl rfl (decide_eq_true (by decide)) ?_
            refine rl_run F (run_move (F.ev rfl)) rfl ?_; clear F a; intro a F
            refine rl_guard_t F rfl rfl rfl (decide_eq_true (by decide)) ?_
            refine rl_callS F ent25 rfl rfl (rnodes_all x _ _ _ _ _ _ _ _ mq 6 M hk hl SA SK hV.2.1 hV.2.2 hmq) ?_; clear F M a; rintro _ w a M rfl F
            refine rl_guard_t F rfl rfl rfl (decide_eq_true (by decide)) ?_
            refine rl_run F (run_eqi (F.ev rfl) (F.ev rfl)) rfl ?_; clear F a; intro a F
            refine rl_run F (run_pick_t (F.ev rfl) (decide_eq_true (by decide)) (F.ev rfl)) rfl ?_; clear F a; intro a F
            refine rl_run F (run_move (F.ev rfl)) rfl ?_; clear F a; intro a F
            refine rl_guard_t F rfl rfl rfl (decide_eq_true rfl) ?_
            refine rl_run F (run_move (F.ev rfl)) rfl ?_; clear F a; intro a F
            refine rl_guard_t F rfl rfl rfl (decide_eq_true rfl) ?_
            refine rl_run F (run_gtr (F.ev rfl) (F.ev rfl)) rfl ?_; clear F a; intro a F
            refine rl_guard_t F rfl rfl rfl (decide_eq_true rfl) ?_
            refine rl_run F (run_move (F.ev rfl)) rfl ?_; clear F a; intro a F
            rcases Bool.eq_false_or_eq_true (decide (0 < ((mq : Nat) : Int))) with hc | hc
            · skip
              have h40b := hc; clear hc
              have h40 : 0 < ((mq : Nat) : Int) := of_decide_eq_true h40b
              iterate 4 (refine rl_guard_f F rfl rfl rfl h40b ?_; clear F a; intro a F)
              refine rl_guard_t F rfl rfl rfl (decide_eq_true rfl) ?_
              refine rl_run F (run_pick_t (F.ev rfl) h40b (F.ev rfl)) rfl ?_; clear F a; intro a F
              refine rl_run F (run_pick_t (F.ev rfl) (decide_eq_true rfl) (F.ev rfl)) rfl ?_; clear F a; intro a F
              refine rl_run F (run_move (F.ev rfl)) rfl ?_; clear F a; intro a F
              refine rl_guard_t F rfl rfl rfl rfl ?_
              refine rl_callS F ent28 rfl rfl (lives_spec M) ?_; clear F M a; rintro _ w a M rfl F
              refine rl_run F (run_pick_t (F.ev rfl) rfl (F.ev rfl)) rfl ?_; clear F a; intro a F
              refine rl_run F (run_assign (F.ev rfl)) rfl ?_; clear F a; intro a F
              refine rl_nil <| q_tn <| wp_ret <| fin1 F rfl rfl ?_
              exact ⟨_, (hGk32.trans hGk33), M.weaken (.cons _ (.cons _ (.cons _ (List.Sublist.refl _)))), by rfl⟩
            · skip
              have h41b := hc; clear hc
              have h41 : ¬ (0 < ((mq : Nat) : Int)) := of_decide_eq_false h41b
              have hn9 : ((ndF mq x : Nat) : Int) ≤ ((cntP x : Nat) : Int) := by rw [show mq = 0 by omega, cntP_yes hV]; exact Int.ofNat_le.2 (ndF0_le x)
              refine rl_guard_t F rfl rfl rfl h41b ?_
              refine rl_run F (run_move (F.ev rfl)) rfl ?_; clear F a; intro a F
              refine rl_guard_t F rfl rfl rfl h41b ?_
              refine rl_run F (run_loadA tok46 rfl (F.ev rfl) (cs := [.int .u8 (x.kind), .string (str (x.tag)), .string (str (x.key)), .slice (ta) (x.as.length) (tc), .string (str (x.text)), .slice (ka) (x.kids.length) (kc)]) rfl (M.cellsL (k := 2) rfl rfl)) rfl ?_; clear F a; intro a F
              refine rl_guard_t F rfl rfl rfl h41b ?_
              refine rl_callS F ent35 rfl rfl (tcount_spec (x := x) M hk hl SA SK) ?_; clear F M a; rintro _ w a M rfl F
              refine rl_guard_t F rfl rfl rfl h41b ?_
              refine rl_run F (run_leq (F.ev rfl) (F.ev rfl)) rfl ?_; clear F a; intro a F
              refine rl_guard_t F rfl rfl rfl (decide_eq_true rfl) ?_
              refine rl_run F (run_pick_f (F.ev rfl) h41b (F.ev rfl)) rfl ?_; clear F a; intro a F
              refine rl_run F (run_pick_t (F.ev rfl) (decide_eq_true rfl) (F.ev rfl)) rfl ?_; clear F a; intro a F
              refine rl_run F (run_move (F.ev rfl)) rfl ?_; clear F a; intro a F
              refine rl_guard_t F rfl rfl rfl (decide_eq_true hn9) ?_
              refine rl_callS F ent28 rfl rfl (lives_spec M) ?_; clear F M a; rintro _ w a M rfl F
              refine rl_run F (run_pick_t (F.ev rfl) (decide_eq_true hn9) (F.ev rfl)) rfl ?_; clear F a; intro a F
              refine rl_run F (run_assign (F.ev rfl)) rfl ?_; clear F a; intro a F
              refine rl_nil <| q_tn <| wp_ret <| fin1 F rfl rfl ?_
              exact ⟨_, (hGk32.trans hGk33), M.weaken (.cons _ (.cons _ (.cons _ (List.Sublist.refl _)))), by rfl⟩
    exact pt_no
theorem checklaw_spec {w0 w : World} {G : Ghost} {L : List Res} (M : Mem w0 G L w) {x : PT} {ta : Option Addr} {tc : Nat} {ka : Option Addr} {kc : Nat} (hk : inKind .u8 x.kind) (hl : (x.tag.length ≤ 9223372036854775807 ∧ x.key.length ≤ 9223372036854775807 ∧ x.text.length ≤ 9223372036854775807)) (SA : RdSl rdSlot 3 G (.slice ta x.as.length tc) x.as) (SK : RdSl rdP 6 G (.slice ka x.kids.length kc) x.kids) {m : Int} : Calls Tryz.prog 6 #[.agg #[.int .u8 (x.kind), .string (str (x.tag)), .string (str (x.key)), .slice (ta) (x.as.length) (tc), .string (str (x.text)), .slice (ka) (x.kids.length) (kc)], .int .i64 m] w (RetS w0 G L fun v => v = .bool true) := Ret.plain M (checklaw_ret M hk hl SA SK)
end Go.Proofs.YtlnehkjmmegkhaaGreat
