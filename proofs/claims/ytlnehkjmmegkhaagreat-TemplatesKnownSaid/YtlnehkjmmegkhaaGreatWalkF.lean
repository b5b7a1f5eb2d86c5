/- The walks, part F. -/
import Derived.Test.YtlnehkjmmegkhaaGreatWalkE
namespace Go.Proofs.YtlnehkjmmegkhaaGreat
open Go Go.Y Go.Proofs
set_option linter.unusedSimpArgs false
set_option linter.unusedVariables false
theorem tn1_spec {w0 w : World} {G : Ghost} {L : List Res} {ub mb : Nat} {n m : Int} (M : Mem w0 G (.blk ub [.int .i64 (n)] 3 :: .blk mb [.int .i64 m] 3 :: L) w) {x : PT} {ta : Option Addr} {tc : Nat} {ka : Option Addr} {kc : Nat} (hk : inKind .u8 x.kind) (hl : (x.tag.length ≤ 9223372036854775807 ∧ x.key.length ≤ 9223372036854775807 ∧ x.text.length ≤ 9223372036854775807)) (SA : RdSl rdSlot 3 G (.slice ta x.as.length tc) x.as) (SK : RdSl rdP 6 G (.slice ka x.kids.length kc) x.kids) {nb no : Nat} (A : At G nb no [.int .u8 (x.kind), .string (str (x.tag)), .string (str (x.key)), .slice (ta) (x.as.length) (tc), .string (str (x.text)), .slice (ka) (x.kids.length) (kc)]) : Calls Tryz.prog 65 #[.pointer (some ⟨nb, no, none⟩), .pointer (some ⟨ub, 0, none⟩), .pointer (some ⟨mb, 0, none⟩)] w (RetL w0 G fun L' v => v = .tuple #[] ∧ L' = (.blk ub [.int .i64 (stpN m n x)] 3 :: .blk mb [.int .i64 m] 3 :: L)) := by
  refine calls_start (vs := [_, _, _]) Tryz.func65 rfl (n := 15) rfl rfl ?_
  intro a F
  refine wp_seq <| w_reg <| rl_run F (run_move (F.ev rfl)) rfl ?_; clear F a; intro a F
  refine rl_run F (run_nilCheck (F.ev rfl)) rfl ?_; clear F a; intro a F
  refine rl_run F (run_fieldAddr tok46.k rfl rfl (F.ev rfl)) rfl ?_; clear F a; intro a F
  refine rl_run F (run_load1 (agf tok5 rfl) (F.ev rfl) (M.cellA A 0 rfl rfl)) rfl ?_; clear F a; intro a F
  refine rl_run F (run_eqi (F.ev rfl) (F.ev rfl)) rfl ?_; clear F a; intro a F
  refine rl_nil <| q_tn <| w_cond F rfl ?_ ?_
  · intro hc
    have h1b := hc; clear hc
    have h1 : x.kind = 5 := of_decide_eq_true h1b
    refine w_reg <| rl_run F (run_load1 (agf tok3 rfl) (F.ev rfl) (M.cellL (k := 0) rfl rfl)) rfl ?_; clear F a; intro a F
    refine rl_run F (run_load1 (agf tok3 rfl) (F.ev rfl) (M.cellL (k := 1) rfl rfl)) rfl ?_; clear F a; intro a F
    refine rl_run F (run_mul (F.ev rfl) (F.ev rfl)) rfl ?_; clear F a; intro a F
    refine rl_run F (run_add (F.ev rfl) (F.ev rfl)) rfl ?_; clear F a; intro a F
    refine rl_store1 F M tok3 rfl (k := 0) rfl rfl rfl rfl rfl ?_; clear F M a; intro w a M F
    refine rl_nil <| fin0n F rfl ?_
    replace M := M.perm (perm_front _ 1 _ rfl)
    replace M := M.perm (perm_front _ 1 _ rfl)
    change Mem w0 G (.blk ub [.int .i64 (IntKind.i64.wrap (n + (IntKind.i64.wrap (2 * m))))] 3 :: .blk mb [.int .i64 (m)] 3 :: L) _ at M
    have hst : stpN m n x = IntKind.i64.wrap (n + (IntKind.i64.wrap (2 * m))) := by unfold stpN; first | rw [if_pos (by assumption)] | rw [if_neg (by assumption)]
    exact ⟨_, M, rfl, by rw [hst]⟩
  · intro hc
    have h2b := hc; clear hc
    have h2 : ¬ (x.kind = 5) := of_decide_eq_false h2b
    refine w_reg <| rl_run F (run_load1 (agf tok3 rfl) (F.ev rfl) (M.cellL (k := 0) rfl rfl)) rfl ?_; clear F a; intro a F
    refine rl_run F (run_add (F.ev rfl) (F.ev rfl)) rfl ?_; clear F a; intro a F
    refine rl_store1 F M tok3 rfl (k := 0) rfl rfl rfl rfl rfl ?_; clear F M a; intro w a M F
    refine rl_nil <| fin0n F rfl ?_
    replace M := M.perm (perm_front _ 1 _ rfl)
    replace M := M.perm (perm_front _ 1 _ rfl)
    change Mem w0 G (.blk ub [.int .i64 (IntKind.i64.wrap (n + 1))] 3 :: .blk mb [.int .i64 (m)] 3 :: L) _ at M
    have hst : stpN m n x = IntKind.i64.wrap (n + 1) := by unfold stpN; first | rw [if_pos (by assumption)] | rw [if_neg (by assumption)]
    exact ⟨_, M, rfl, by rw [hst]⟩
theorem feff_nodes {w0 : World} {ub mb : Nat} {m : Int} : FEff w0 65 [.pointer (some ⟨ub, 0, none⟩), .pointer (some ⟨mb, 0, none⟩)] (fun n : Int => [.blk ub [.int .i64 n] 3, .blk mb [.int .i64 m] 3]) (stpN m) := ⟨ent65, fun M hk hl SA SK A _ => tn1_spec M hk hl SA SK A⟩
theorem tnodes_ret {w0 w : World} {G : Ghost} {L : List Res} (M : Mem w0 G L w) {x : PT} {ta : Option Addr} {tc : Nat} {ka : Option Addr} {kc : Nat} (hk : inKind .u8 x.kind) (hl : (x.tag.length ≤ 9223372036854775807 ∧ x.key.length ≤ 9223372036854775807 ∧ x.text.length ≤ 9223372036854775807)) (SA : RdSl rdSlot 3 G (.slice ta x.as.length tc) x.as) (SK : RdSl rdP 6 G (.slice ka x.kids.length kc) x.kids) {m : Int} : Calls Tryz.prog 24 #[.agg #[.int .u8 (x.kind), .string (str (x.tag)), .string (str (x.key)), .slice (ta) (x.as.length) (tc), .string (str (x.text)), .slice (ka) (x.kids.length) (kc)], .int .i64 m] w (Ret w0 G L fun _ v => v = .tuple #[.int .i64 (nodesF x m).1, .int .i64 (nodesF x m).2]) := by
  refine calls_start (vs := [_, _]) Tryz.func24 rfl (n := 21) rfl rfl ?_
  intro a F
  refine wp_seq <| w_reg <| rl_box F M rfl (cs := [.int .u8 (x.kind), .string (str (x.tag)), .string (str (x.key)), .slice (ta) (x.as.length) (tc), .string (str (x.text)), .slice (ka) (x.kids.length) (kc)]) rfl rfl ?_; clear F M a; intro b1 w a M F
  refine rl_box F M rfl (cs := [.int .i64 (m)]) rfl rfl ?_; clear F M a; intro b2 w a M F
  iterate 2 (refine rl_run F (run_assign (F.ev rfl)) rfl ?_; clear F a; intro a F)
  refine rl_nil <| q_tn <| wp_seq <| w_reg <| rl_alloc F M tok3 rfl rfl ?_; clear F M a; intro b3 w a M F
  refine rl_store1 F M tok3 rfl (k := 0) rfl rfl rfl rfl rfl ?_; clear F M a; intro w a M F
  refine rl_nil <| q_tn ?_
  iterate 2 (refine wp_seq ?_)
  refine w_reg <| rl_run F (run_makeFunc (vs := #[.pointer (some ⟨b3, 0, none⟩), .pointer (some ⟨b2, 0, none⟩)]) (by simp only [List.map_toArray, List.map_cons, List.map_nil, F.ev (x := .tmp 6) rfl, F.ev (x := .tmp 3) rfl])) rfl ?_; clear F a; intro a F
  obtain ⟨Gq5, hGq5, hbq5, M⟩ := M.freeze (k := 2) rfl
  have Aq5 : At Gq5 b1 0 [.int .u8 (x.kind), .string (str (x.tag)), .string (str (x.key)), .slice (ta) (x.as.length) (tc), .string (str (x.text)), .slice (ka) (x.kids.length) (kc)] := At.of_cells hbq5
  clear hbq5
  replace SA := SA.mono mono_rdSlot hGq5
  replace SK := SK.mono mono_rdP hGq5
  change Mem w0 Gq5 (.blk b3 [.int .i64 (0)] 3 :: .blk b2 [.int .i64 (m)] 3 :: L) _ at M
  replace M := M.perm (perm_front _ 1 _ rfl)
  replace M := M.perm (perm_front _ 1 _ rfl)
  change Mem w0 Gq5 (.blk b3 [.int .i64 (0)] 3 :: .blk b2 [.int .i64 (m)] 3 :: L) _ at M
  refine rl_callL F ent64 rfl rfl (twalk_spec (feff_nodes (ub := b3) (mb := b2) (m := m)) (x := x) (s := (0 : Int)) (L := L) M hk hl SA SK Aq5) ?_; clear F M a; rintro _ _ w a M ⟨k6, sk6, rfl, hLk6, hk6, ek6⟩ F
  rw [hLk6] at M; clear hLk6
  replace M : Mem w0 Gq5 (.blk b3 [.int .i64 (sk6)] 3 :: .blk b2 [.int .i64 (m)] 3 :: L) _ := M
  refine rl_run F (run_assign (F.ev rfl)) rfl ?_; clear F a; intro a F
  refine rl_nil <| q_tn <| wp_block <| wp_seq <| w_reg <| rl_run F (run_move (F.ev rfl)) rfl ?_; clear F a; intro a F
  refine rl_run F (run_eqi (F.ev rfl) (F.ev rfl)) rfl ?_; clear F a; intro a F
  refine rl_run F (run_assign (F.ev rfl)) rfl ?_; clear F a; intro a F
  refine rl_nil <| q_tn <| w_cond F rfl ?_ ?_
  · intro hc
    have h7b := hc; clear hc
    have h7 : ((k6 : Nat) : Int) = 0 := of_decide_eq_true h7b
    refine wp_seq <| w_reg ?_
    iterate 2 (refine rl_run F (run_assign (F.ev rfl)) rfl ?_; clear F a; intro a F)
    refine rl_nil <| q_tn <| wp_ret <| q_br <| q_tr <| fin2 F rfl rfl rfl ?_
    have hV : ¬ ValidP x := fun h_ => by have := cntP_pos.2 h_; omega
    exact ⟨_, hGq5, M.weaken (.cons _ (.cons _ (List.Sublist.refl _))), by rw [nodesF_no hV]⟩
  · intro hc
    have h8b := hc; clear hc
    have h8 : ¬ (((k6 : Nat) : Int) = 0) := of_decide_eq_false h8b
    refine wp_seq <| w_reg <| rl_run F (run_load1 (agf tok3 rfl) (F.ev rfl) (M.cellL (k := 1) rfl rfl)) rfl ?_; clear F a; intro a F
    refine rl_run F (run_lss (F.ev rfl) (F.ev rfl)) rfl ?_; clear F a; intro a F
    refine rl_run F (run_move (F.ev rfl)) rfl ?_; clear F a; intro a F
    rcases Bool.eq_false_or_eq_true (decide (m < 0)) with hc | hc
    · skip
      have h9b := hc; clear hc
      have h9 : m < 0 := of_decide_eq_true h9b
      iterate 2 (refine rl_guard_f F rfl rfl rfl h9b ?_; clear F a; intro a F)
      refine rl_run F (run_pick_t (F.ev rfl) h9b (F.ev rfl)) rfl ?_; clear F a; intro a F
      refine rl_run F (run_assign (F.ev rfl)) rfl ?_; clear F a; intro a F
      refine rl_nil <| q_tn <| w_cond_t F rfl rfl ?_
      refine wp_seq <| w_reg ?_
      iterate 2 (refine rl_run F (run_assign (F.ev rfl)) rfl ?_; clear F a; intro a F)
      refine rl_nil <| q_tn <| wp_ret <| q_br <| q_tr <| fin2 F rfl rfl rfl ?_
      have hV : ValidP x := cntP_pos.1 (by omega)
      exact ⟨_, hGq5, M.weaken (.cons _ (.cons _ (List.Sublist.refl _))), by rw [nodesF_arg hV (by omega)]⟩
    · skip
      have h10b := hc; clear hc
      have h10 : ¬ (m < 0) := of_decide_eq_false h10b
      refine rl_guard_t F rfl rfl rfl h10b ?_
      refine rl_run F (run_load1 (agf tok3 rfl) (F.ev rfl) (M.cellL (k := 1) rfl rfl)) rfl ?_; clear F a; intro a F
      refine rl_guard_t F rfl rfl rfl h10b ?_
      refine rl_run F (run_gtr (F.ev rfl) (F.ev rfl)) rfl ?_; clear F a; intro a F
      refine rl_run F (run_pick_f (F.ev rfl) h10b (F.ev rfl)) rfl ?_; clear F a; intro a F
      refine rl_run F (run_assign (F.ev rfl)) rfl ?_; clear F a; intro a F
      refine rl_nil <| q_tn <| w_cond F rfl ?_ ?_
      · intro hc
        have h11b := hc; clear hc
        have h11 : 8 < m := of_decide_eq_true h11b
        refine wp_seq <| w_reg ?_
        iterate 2 (refine rl_run F (run_assign (F.ev rfl)) rfl ?_; clear F a; intro a F)
        refine rl_nil <| q_tn <| wp_ret <| q_br <| q_tr <| fin2 F rfl rfl rfl ?_
        have hV : ValidP x := cntP_pos.1 (by omega)
        exact ⟨_, hGq5, M.weaken (.cons _ (.cons _ (List.Sublist.refl _))), by rw [nodesF_arg hV (by omega)]⟩
      · intro hc
        have h12b := hc; clear hc
        have h12 : ¬ (8 < m) := of_decide_eq_false h12b
        refine wp_skip <| q_bn <| q_tn <| wp_seq <| w_reg <| rl_run F (run_load1 (agf tok3 rfl) (F.ev rfl) (M.cellL (k := 0) rfl rfl)) rfl ?_; clear F a; intro a F
        iterate 2 (refine rl_run F (run_assign (F.ev rfl)) rfl ?_; clear F a; intro a F)
        refine rl_nil <| q_tn <| wp_ret <| fin2 F rfl rfl rfl ?_
        have hV : ValidP x := cntP_pos.1 (by omega)
        exact ⟨_, hGq5, M.weaken (.cons _ (.cons _ (List.Sublist.refl _))), by rw [nodesF_vis hV (by omega) (by omega), ← ek6 hV]⟩
theorem tnodes_spec {w0 w : World} {G : Ghost} {L : List Res} (M : Mem w0 G L w) {x : PT} {ta : Option Addr} {tc : Nat} {ka : Option Addr} {kc : Nat} (hk : inKind .u8 x.kind) (hl : (x.tag.length ≤ 9223372036854775807 ∧ x.key.length ≤ 9223372036854775807 ∧ x.text.length ≤ 9223372036854775807)) (SA : RdSl rdSlot 3 G (.slice ta x.as.length tc) x.as) (SK : RdSl rdP 6 G (.slice ka x.kids.length kc) x.kids) {m : Int} : Calls Tryz.prog 24 #[.agg #[.int .u8 (x.kind), .string (str (x.tag)), .string (str (x.key)), .slice (ta) (x.as.length) (tc), .string (str (x.text)), .slice (ka) (x.kids.length) (kc)], .int .i64 m] w (RetS w0 G L fun v => v = .tuple #[.int .i64 (nodesF x m).1, .int .i64 (nodesF x m).2]) := Ret.plain M (tnodes_ret M hk hl SA SK)
theorem unote_spec {w0 w : World} {G : Ghost} {L : List Res} {ub : Nat} {p q r : Bool} {kk : Int} (M : Mem w0 G (.blk ub [.bool (p), .bool (q), .bool (r)] 64 :: L) w) : Calls Tryz.prog 71 #[.int .u8 kk, .pointer (some ⟨ub, 0, none⟩)] w (RetL w0 G fun L' v => v = .tuple #[] ∧ L' = (.blk ub [.bool (p || decide (kk = 1)), .bool (q || decide (kk = 2)), .bool (r || decide (kk = 3))] 64 :: L)) := by
  refine calls_start (vs := [_, _]) Tryz.func71 rfl (n := 24) rfl rfl ?_
  intro a F
  refine wp_seq <| w_reg <| rl_run F (run_fieldAddr tok64.k rfl rfl (F.ev rfl)) rfl ?_; clear F a; intro a F
  refine rl_run F (run_load1 (agf tok4 rfl) (F.ev rfl) (M.cellL (k := 0) rfl rfl)) rfl ?_; clear F a; intro a F
  refine rl_run F (run_move (F.ev rfl)) rfl ?_; clear F a; intro a F
  rcases Bool.eq_false_or_eq_true (p) with hc | hc
  · skip
    have h1b := hc; clear hc
    have h1 : (p) = true := h1b
    iterate 2 (refine rl_guard_f F rfl rfl rfl h1b ?_; clear F a; intro a F)
    refine rl_run F (run_pick_t (F.ev rfl) h1b (F.ev rfl)) rfl ?_; clear F a; intro a F
    refine rl_run F (run_fieldAddr tok64.k rfl rfl (F.ev rfl)) rfl ?_; clear F a; intro a F
    refine rl_store1 F M tok4 rfl (k := 0) rfl rfl rfl rfl rfl ?_; clear F M a; intro w a M F
    refine rl_nil <| q_tn <| wp_seq <| w_reg <| rl_run F (run_fieldAddr tok64.k rfl rfl (F.ev rfl)) rfl ?_; clear F a; intro a F
    refine rl_run F (run_load1 (agf tok4 rfl) (F.ev rfl) (M.cellL (k := 0) rfl rfl)) rfl ?_; clear F a; intro a F
    refine rl_run F (run_move (F.ev rfl)) rfl ?_; clear F a; intro a F
    rcases Bool.eq_false_or_eq_true (q) with hc | hc
    · skip
      have h2b := hc; clear hc
      have h2 : (q) = true := h2b
      iterate 2 (refine rl_guard_f F rfl rfl rfl h2b ?_; clear F a; intro a F)
      refine rl_run F (run_pick_t (F.ev rfl) h2b (F.ev rfl)) rfl ?_; clear F a; intro a F
      refine rl_run F (run_fieldAddr tok64.k rfl rfl (F.ev rfl)) rfl ?_; clear F a; intro a F
      refine rl_store1 F M tok4 rfl (k := 0) rfl rfl rfl rfl rfl ?_; clear F M a; intro w a M F
      refine rl_nil <| q_tn <| w_reg <| rl_run F (run_fieldAddr tok64.k rfl rfl (F.ev rfl)) rfl ?_; clear F a; intro a F
      refine rl_run F (run_load1 (agf tok4 rfl) (F.ev rfl) (M.cellL (k := 0) rfl rfl)) rfl ?_; clear F a; intro a F
      refine rl_run F (run_move (F.ev rfl)) rfl ?_; clear F a; intro a F
      rcases Bool.eq_false_or_eq_true (r) with hc | hc
      · skip
        have h3b := hc; clear hc
        have h3 : (r) = true := h3b
        iterate 2 (refine rl_guard_f F rfl rfl rfl h3b ?_; clear F a; intro a F)
        refine rl_run F (run_pick_t (F.ev rfl) h3b (F.ev rfl)) rfl ?_; clear F a; intro a F
        refine rl_run F (run_fieldAddr tok64.k rfl rfl (F.ev rfl)) rfl ?_; clear F a; intro a F
        refine rl_store1 F M tok4 rfl (k := 0) rfl rfl rfl rfl rfl ?_; clear F M a; intro w a M F
        refine rl_nil <| fin0n F rfl ?_
        have e1_ : (p || decide (kk = 1)) = true := by clear F M; cases p <;> simp_all
        have e2_ : (q || decide (kk = 2)) = true := by clear F M; cases q <;> simp_all
        have e3_ : (r || decide (kk = 3)) = true := by clear F M; cases r <;> simp_all
        change Mem w0 G (.blk ub [.bool true, .bool true, .bool true] 64 :: L) _ at M
        exact ⟨_, M, rfl, by rw [e1_, e2_, e3_]⟩
      · skip
        have h4b := hc; clear hc
        have h4 : (r) = false := h4b
        refine rl_guard_t F rfl rfl rfl h4b ?_
        refine rl_run F (run_move (F.ev rfl)) rfl ?_; clear F a; intro a F
        refine rl_guard_t F rfl rfl rfl h4b ?_
        refine rl_run F (run_eqi (F.ev rfl) (F.ev rfl)) rfl ?_; clear F a; intro a F
        refine rl_run F (run_pick_f (F.ev rfl) h4b (F.ev rfl)) rfl ?_; clear F a; intro a F
        refine rl_run F (run_fieldAddr tok64.k rfl rfl (F.ev rfl)) rfl ?_; clear F a; intro a F
        refine rl_store1 F M tok4 rfl (k := 0) rfl rfl rfl rfl rfl ?_; clear F M a; intro w a M F
        refine rl_nil <| fin0n F rfl ?_
        have e1_ : (p || decide (kk = 1)) = true := by clear F M; cases p <;> simp_all
        have e2_ : (q || decide (kk = 2)) = true := by clear F M; cases q <;> simp_all
        have e3_ : (r || decide (kk = 3)) = (decide (kk = 3)) := by clear F M; cases r <;> simp_all
        change Mem w0 G (.blk ub [.bool true, .bool true, .bool (decide (kk = 3))] 64 :: L) _ at M
        exact ⟨_, M, rfl, by rw [e1_, e2_, e3_]⟩
    · skip
      have h5b := hc; clear hc
      have h5 : (q) = false := h5b
      refine rl_guard_t F rfl rfl rfl h5b ?_
      refine rl_run F (run_move (F.ev rfl)) rfl ?_; clear F a; intro a F
      refine rl_guard_t F rfl rfl rfl h5b ?_
      refine rl_run F (run_eqi (F.ev rfl) (F.ev rfl)) rfl ?_; clear F a; intro a F
      refine rl_run F (run_pick_f (F.ev rfl) h5b (F.ev rfl)) rfl ?_; clear F a; intro a F
      refine rl_run F (run_fieldAddr tok64.k rfl rfl (F.ev rfl)) rfl ?_; clear F a; intro a F
      refine rl_store1 F M tok4 rfl (k := 0) rfl rfl rfl rfl rfl ?_; clear F M a; intro w a M F
      refine rl_nil <| q_tn <| w_reg <| rl_run F (run_fieldAddr tok64.k rfl rfl (F.ev rfl)) rfl ?_; clear F a; intro a F
      refine rl_run F (run_load1 (agf tok4 rfl) (F.ev rfl) (M.cellL (k := 0) rfl rfl)) rfl ?_; clear F a; intro a F
      refine rl_run F (run_move (F.ev rfl)) rfl ?_; clear F a; intro a F
      rcases Bool.eq_false_or_eq_true (r) with hc | hc
      · skip
        have h6b := hc; clear hc
        have h6 : (r) = true := h6b
        iterate 2 (refine rl_guard_f F rfl rfl rfl h6b ?_; clear F a; intro a F)
        refine rl_run F (run_pick_t (F.ev rfl) h6b (F.ev rfl)) rfl ?_; clear F a; intro a F
        refine rl_run F (run_fieldAddr tok64.k rfl rfl (F.ev rfl)) rfl ?_; clear F a; intro a F
        refine rl_store1 F M tok4 rfl (k := 0) rfl rfl rfl rfl rfl ?_; clear F M a; intro w a M F
        refine rl_nil <| fin0n F rfl ?_
        have e1_ : (p || decide (kk = 1)) = true := by clear F M; cases p <;> simp_all
        have e2_ : (q || decide (kk = 2)) = (decide (kk = 2)) := by clear F M; cases q <;> simp_all
        have e3_ : (r || decide (kk = 3)) = true := by clear F M; cases r <;> simp_all
        change Mem w0 G (.blk ub [.bool true, .bool (decide (kk = 2)), .bool true] 64 :: L) _ at M
        exact ⟨_, M, rfl, by rw [e1_, e2_, e3_]⟩
      · skip
        have h7b := hc; clear hc
        have h7 : (r) = false := h7b
        refine rl_guard_t F rfl rfl rfl h7b ?_
        refine rl_run F (run_move (F.ev rfl)) rfl ?_; clear F a; intro a F
        refine rl_guard_t F rfl rfl rfl h7b ?_
        refine rl_run F (run_eqi (F.ev rfl) (F.ev rfl)) rfl ?_; clear F a; intro a F
        refine rl_run F (run_pick_f (F.ev rfl) h7b (F.ev rfl)) rfl ?_; clear F a; intro a F
        refine rl_run F (run_fieldAddr tok64.k rfl rfl (F.ev rfl)) rfl ?_; clear F a; intro a F
        refine rl_store1 F M tok4 rfl (k := 0) rfl rfl rfl rfl rfl ?_; clear F M a; intro w a M F
        refine rl_nil <| fin0n F rfl ?_
        have e1_ : (p || decide (kk = 1)) = true := by clear F M; cases p <;> simp_all
        have e2_ : (q || decide (kk = 2)) = (decide (kk = 2)) := by clear F M; cases q <;> simp_all
        have e3_ : (r || decide (kk = 3)) = (decide (kk = 3)) := by clear F M; cases r <;> simp_all
        change Mem w0 G (.blk ub [.bool true, .bool (decide (kk = 2)), .bool (decide (kk = 3))] 64 :: L) _ at M
        exact ⟨_, M, rfl, by rw [e1_, e2_, e3_]⟩
  · skip
    have h8b := hc; clear hc
    have h8 : (p) = false := h8b
    refine rl_guard_t F rfl rfl rfl h8b ?_
    refine rl_run F (run_move (F.ev rfl)) rfl ?_; clear F a; intro a F
    refine rl_guard_t F rfl rfl rfl h8b ?_
    refine rl_run F (run_eqi (F.ev rfl) (F.ev rfl)) rfl ?_; clear F a; intro a F
    refine rl_run F (run_pick_f (F.ev rfl) h8b (F.ev rfl)) rfl ?_; clear F a; intro a F
    refine rl_run F (run_fieldAddr tok64.k rfl rfl (F.ev rfl)) rfl ?_; clear F a; intro a F
    refine rl_store1 F M tok4 rfl (k := 0) rfl rfl rfl rfl rfl ?_; clear F M a; intro w a M F
    refine rl_nil <| q_tn <| wp_seq <| w_reg <| rl_run F (run_fieldAddr tok64.k rfl rfl (F.ev rfl)) rfl ?_; clear F a; intro a F
    refine rl_run F (run_load1 (agf tok4 rfl) (F.ev rfl) (M.cellL (k := 0) rfl rfl)) rfl ?_; clear F a; intro a F
    refine rl_run F (run_move (F.ev rfl)) rfl ?_; clear F a; intro a F
    rcases Bool.eq_false_or_eq_true (q) with hc | hc
    · skip
      have h9b := hc; clear hc
      have h9 : (q) = true := h9b
      iterate 2 (refine rl_guard_f F rfl rfl rfl h9b ?_; clear F a; intro a F)
      refine rl_run F (run_pick_t (F.ev rfl) h9b (F.ev rfl)) rfl ?_; clear F a; intro a F
      refine rl_run F (run_fieldAddr tok64.k rfl rfl (F.ev rfl)) rfl ?_; clear F a; intro a F
      refine rl_store1 F M tok4 rfl (k := 0) rfl rfl rfl rfl rfl ?_; clear F M a; intro w a M F
      refine rl_nil <| q_tn <| w_reg <| rl_run F (run_fieldAddr tok64.k rfl rfl (F.ev rfl)) rfl ?_; clear F a; intro a F
      refine rl_run F (run_load1 (agf tok4 rfl) (F.ev rfl) (M.cellL (k := 0) rfl rfl)) rfl ?_; clear F a; intro a F
      refine rl_run F (run_move (F.ev rfl)) rfl ?_; clear F a; intro a F
      rcases Bool.eq_false_or_eq_true (r) with hc | hc
      · skip
        have h10b := hc; clear hc
        have h10 : (r) = true := h10b
        iterate 2 (refine rl_guard_f F rfl rfl rfl h10b ?_; clear F a; intro a F)
        refine rl_run F (run_pick_t (F.ev rfl) h10b (F.ev rfl)) rfl ?_; clear F a; intro a F
        refine rl_run F (run_fieldAddr tok64.k rfl rfl (F.ev rfl)) rfl ?_; clear F a; intro a F
        refine rl_store1 F M tok4 rfl (k := 0) rfl rfl rfl rfl rfl ?_; clear F M a; intro w a M F
        refine rl_nil <| fin0n F rfl ?_
        have e1_ : (p || decide (kk = 1)) = (decide (kk = 1)) := by clear F M; cases p <;> simp_all
        have e2_ : (q || decide (kk = 2)) = true := by clear F M; cases q <;> simp_all
        have e3_ : (r || decide (kk = 3)) = true := by clear F M; cases r <;> simp_all
        change Mem w0 G (.blk ub [.bool (decide (kk = 1)), .bool true, .bool true] 64 :: L) _ at M
        exact ⟨_, M, rfl, by rw [e1_, e2_, e3_]⟩
      · skip
        have h11b := hc; clear hc
        have h11 : (r) = false := h11b
        refine rl_guard_t F rfl rfl rfl h11b ?_
        refine rl_run F (run_move (F.ev rfl)) rfl ?_; clear F a; intro a F
        refine rl_guard_t F rfl rfl rfl h11b ?_
        refine rl_run F (run_eqi (F.ev rfl) (F.ev rfl)) rfl ?_; clear F a; intro a F
        refine rl_run F (run_pick_f (F.ev rfl) h11b (F.ev rfl)) rfl ?_; clear F a; intro a F
        refine rl_run F (run_fieldAddr tok64.k rfl rfl (F.ev rfl)) rfl ?_; clear F a; intro a F
        refine rl_store1 F M tok4 rfl (k := 0) rfl rfl rfl rfl rfl ?_; clear F M a; intro w a M F
        refine rl_nil <| fin0n F rfl ?_
        have e1_ : (p || decide (kk = 1)) = (decide (kk = 1)) := by clear F M; cases p <;> simp_all
        have e2_ : (q || decide (kk = 2)) = true := by clear F M; cases q <;> simp_all
        have e3_ : (r || decide (kk = 3)) = (decide (kk = 3)) := by clear F M; cases r <;> simp_all
        change Mem w0 G (.blk ub [.bool (decide (kk = 1)), .bool true, .bool (decide (kk = 3))] 64 :: L) _ at M
        exact ⟨_, M, rfl, by rw [e1_, e2_, e3_]⟩
    · skip
      have h12b := hc; clear hc
      have h12 : (q) = false := h12b
      refine rl_guard_t F rfl rfl rfl h12b ?_
      refine rl_run F (run_move (F.ev rfl)) rfl ?_; clear F a; intro a F
      refine rl_guard_t F rfl rfl rfl h12b ?_
      refine rl_run F (run_eqi (F.ev rfl) (F.ev rfl)) rfl ?_; clear F a; intro a F
      refine rl_run F (run_pick_f (F.ev rfl) h12b (F.ev rfl)) rfl ?_; clear F a; intro a F
      refine rl_run F (run_fieldAddr tok64.k rfl rfl (F.ev rfl)) rfl ?_; clear F a; intro a F
      refine rl_store1 F M tok4 rfl (k := 0) rfl rfl rfl rfl rfl ?_; clear F M a; intro w a M F
      refine rl_nil <| q_tn <| w_reg <| rl_run F (run_fieldAddr tok64.k rfl rfl (F.ev rfl)) rfl ?_; clear F a; intro a F
      refine rl_run F (run_load1 (agf tok4 rfl) (F.ev rfl) (M.cellL (k := 0) rfl rfl)) rfl ?_; clear F a; intro a F
      refine rl_run F (run_move (F.ev rfl)) rfl ?_; clear F a; intro a F
      rcases Bool.eq_false_or_eq_true (r) with hc | hc
      · skip
        have h13b := hc; clear hc
        have h13 : (r) = true := h13b
        iterate 2 (refine rl_guard_f F rfl rfl rfl h13b ?_; clear F a; intro a F)
        refine rl_run F (run_pick_t (F.ev rfl) h13b (F.ev rfl)) rfl ?_; clear F a; intro a F
        refine rl_run F (run_fieldAddr tok64.k rfl rfl (F.ev rfl)) rfl ?_; clear F a; intro a F
        refine rl_store1 F M tok4 rfl (k := 0) rfl rfl rfl rfl rfl ?_; clear F M a; intro w a M F
        refine rl_nil <| fin0n F rfl ?_
        have e1_ : (p || decide (kk = 1)) = (decide (kk = 1)) := by clear F M; cases p <;> simp_all
        have e2_ : (q || decide (kk = 2)) = (decide (kk = 2)) := by clear F M; cases q <;> simp_all
        have e3_ : (r || decide (kk = 3)) = true := by clear F M; cases r <;> simp_all
        change Mem w0 G (.blk ub [.bool (decide (kk = 1)), .bool (decide (kk = 2)), .bool true] 64 :: L) _ at M
        exact ⟨_, M, rfl, by rw [e1_, e2_, e3_]⟩
      · skip
        have h14b := hc; clear hc
        have h14 : (r) = false := h14b
        refine rl_guard_t F rfl rfl rfl h14b ?_
        refine rl_run F (run_move (F.ev rfl)) rfl ?_; clear F a; intro a F
        refine rl_guard_t F rfl rfl rfl h14b ?_
        refine rl_run F (run_eqi (F.ev rfl) (F.ev rfl)) rfl ?_; clear F a; intro a F
        refine rl_run F (run_pick_f (F.ev rfl) h14b (F.ev rfl)) rfl ?_; clear F a; intro a F
        refine rl_run F (run_fieldAddr tok64.k rfl rfl (F.ev rfl)) rfl ?_; clear F a; intro a F
        refine rl_store1 F M tok4 rfl (k := 0) rfl rfl rfl rfl rfl ?_; clear F M a; intro w a M F
        refine rl_nil <| fin0n F rfl ?_
        have e1_ : (p || decide (kk = 1)) = (decide (kk = 1)) := by clear F M; cases p <;> simp_all
        have e2_ : (q || decide (kk = 2)) = (decide (kk = 2)) := by clear F M; cases q <;> simp_all
        have e3_ : (r || decide (kk = 3)) = (decide (kk = 3)) := by clear F M; cases r <;> simp_all
        change Mem w0 G (.blk ub [.bool (decide (kk = 1)), .bool (decide (kk = 2)), .bool (decide (kk = 3))] 64 :: L) _ at M
        exact ⟨_, M, rfl, by rw [e1_, e2_, e3_]⟩
theorem ueach_spec {w0 w : World} {G : Ghost} {L : List Res} {ub cb2 : Nat} {s : Bool × Bool × Bool} (M : Mem w0 G (.blk ub [.bool (s.1), .bool (s.2.1), .bool (s.2.2)] 64 :: .blk cb2 [.func (.func 71) #[] #[.pointer (some ⟨ub, 0, none⟩)]] 110 :: L) w) {x : PT} {ta : Option Addr} {tc : Nat} {ka : Option Addr} {kc : Nat} (hk : inKind .u8 x.kind) (hl : (x.tag.length ≤ 9223372036854775807 ∧ x.key.length ≤ 9223372036854775807 ∧ x.text.length ≤ 9223372036854775807)) (SA : RdSl rdSlot 3 G (.slice ta x.as.length tc) x.as) (SK : RdSl rdP 6 G (.slice ka x.kids.length kc) x.kids) {nb no : Nat} (A : At G nb no [.int .u8 (x.kind), .string (str (x.tag)), .string (str (x.key)), .slice (ta) (x.as.length) (tc), .string (str (x.text)), .slice (ka) (x.kids.length) (kc)]) : Calls Tryz.prog 72 #[.pointer (some ⟨nb, no, none⟩), .pointer (some ⟨cb2, 0, none⟩)] w (RetL w0 G fun L' v => v = .tuple #[] ∧ L' = (.blk ub [.bool ((stpU s x).1), .bool ((stpU s x).2.1), .bool ((stpU s x).2.2)] 64 :: .blk cb2 [.func (.func 71) #[] #[.pointer (some ⟨ub, 0, none⟩)]] 110 :: L)) := by
  refine calls_start (vs := [_, _]) Tryz.func72 rfl (n := 35) rfl rfl ?_
  intro a F
  iterate 2 (refine wp_seq ?_)
  refine w_reg <| rl_run F (run_move (F.ev rfl)) rfl ?_; clear F a; intro a F
  refine rl_run F (run_nilCheck (F.ev rfl)) rfl ?_; clear F a; intro a F
  refine rl_run F (run_fieldAddr tok46.k rfl rfl (F.ev rfl)) rfl ?_; clear F a; intro a F
  refine rl_run F (run_load1 (agf tok5 rfl) (F.ev rfl) (M.cellA A 0 rfl rfl)) rfl ?_; clear F a; intro a F
  refine rl_nil <| q_tn <| wp_block <| wp_seq <| w_reg <| rl_run F (run_eqi (F.ev rfl) (F.ev rfl)) rfl ?_; clear F a; intro a F
  refine rl_run F (run_assign (F.ev rfl)) rfl ?_; clear F a; intro a F
  refine rl_nil <| q_tn <| w_cut (fun a' w' => ∃ (x1 : Bool), ∃ (x2 : Bool), ∃ (x3 : Bool), Fits 35 a' [(1, .pointer (some ⟨cb2, 0, none⟩)), (0, .pointer (some ⟨nb, no, none⟩))] ∧ Mem w0 G (.blk ub [.bool (x1), .bool (x2), .bool (x3)] 64 :: .blk cb2 [.func (.func 71) #[] #[.pointer (some ⟨ub, 0, none⟩)]] 110 :: L) w' ∧ (((x1, x2, x3) : Bool × Bool × Bool) = kindU s x.kind)) ?_ ?_
  · skip
    refine w_cond F rfl ?_ ?_
    · intro hc
      have h1b := hc; clear hc
      have h1 : x.kind = 3 := of_decide_eq_true h1b
      refine w_reg <| rl_run F (run_load1 (agf tok110 rfl) (F.ev rfl) (M.cellL (k := 1) rfl rfl)) rfl ?_; clear F a; intro a F
      change Mem w0 G (.blk ub [.bool (s.1), .bool (s.2.1), .bool (s.2.2)] 64 :: .blk cb2 [.func (.func 71) #[] #[.pointer (some ⟨ub, 0, none⟩)]] 110 :: L) _ at M
      refine rl_callvL F ent71 (caps := [.pointer (some ⟨ub, 0, none⟩)]) rfl rfl rfl (unote_spec (kk := 1) M) ?_; clear F M a; rintro _ _ w a M ⟨rfl, rfl⟩ F
      refine rl_nil ?_
      exact ⟨((s.1) || decide (1 = 1)), ((s.2.1) || decide (1 = 2)), ((s.2.2) || decide (1 = 3)), F.to ⟨rfl, rfl, trivial⟩, M, by rw [kindU_eq]; clear F M; simp_all⟩
    · intro hc
      have h2b := hc; clear hc
      have h2 : ¬ (x.kind = 3) := of_decide_eq_false h2b
      refine wp_seq <| w_reg <| rl_run F (run_eqi (F.ev rfl) (F.ev rfl)) rfl ?_; clear F a; intro a F
      refine rl_run F (run_assign (F.ev rfl)) rfl ?_; clear F a; intro a F
      refine rl_nil <| q_tn <| w_cond F rfl ?_ ?_
      · intro hc
        have h3b := hc; clear hc
        have h3 : x.kind = 4 := of_decide_eq_true h3b
        refine w_reg <| rl_run F (run_load1 (agf tok110 rfl) (F.ev rfl) (M.cellL (k := 1) rfl rfl)) rfl ?_; clear F a; intro a F
        change Mem w0 G (.blk ub [.bool (s.1), .bool (s.2.1), .bool (s.2.2)] 64 :: .blk cb2 [.func (.func 71) #[] #[.pointer (some ⟨ub, 0, none⟩)]] 110 :: L) _ at M
        refine rl_callvL F ent71 (caps := [.pointer (some ⟨ub, 0, none⟩)]) rfl rfl rfl (unote_spec (kk := 2) M) ?_; clear F M a; rintro _ _ w a M ⟨rfl, rfl⟩ F
        refine rl_nil ?_
        exact ⟨((s.1) || decide (2 = 1)), ((s.2.1) || decide (2 = 2)), ((s.2.2) || decide (2 = 3)), F.to ⟨rfl, rfl, trivial⟩, M, by rw [kindU_eq]; clear F M; simp_all⟩
      · intro hc
        have h4b := hc; clear hc
        have h4 : ¬ (x.kind = 4) := of_decide_eq_false h4b
        refine wp_seq <| w_reg <| rl_run F (run_eqi (F.ev rfl) (F.ev rfl)) rfl ?_; clear F a; intro a F
        refine rl_run F (run_assign (F.ev rfl)) rfl ?_; clear F a; intro a F
        refine rl_nil <| q_tn <| w_cond F rfl ?_ ?_
        · intro hc
          have h5b := hc; clear hc
          have h5 : x.kind = 5 := of_decide_eq_true h5b
          refine w_reg <| rl_run F (run_load1 (agf tok110 rfl) (F.ev rfl) (M.cellL (k := 1) rfl rfl)) rfl ?_; clear F a; intro a F
          change Mem w0 G (.blk ub [.bool (s.1), .bool (s.2.1), .bool (s.2.2)] 64 :: .blk cb2 [.func (.func 71) #[] #[.pointer (some ⟨ub, 0, none⟩)]] 110 :: L) _ at M
          refine rl_callvL F ent71 (caps := [.pointer (some ⟨ub, 0, none⟩)]) rfl rfl rfl (unote_spec (kk := 3) M) ?_; clear F M a; rintro _ _ w a M ⟨rfl, rfl⟩ F
          refine rl_nil ?_
          exact ⟨((s.1) || decide (3 = 1)), ((s.2.1) || decide (3 = 2)), ((s.2.2) || decide (3 = 3)), F.to ⟨rfl, rfl, trivial⟩, M, by rw [kindU_eq]; clear F M; simp_all⟩
        · intro hc
          have h6b := hc; clear hc
          have h6 : ¬ (x.kind = 5) := of_decide_eq_false h6b
          refine wp_skip ?_
          exact ⟨(s.1), (s.2.1), (s.2.2), F.to ⟨rfl, rfl, trivial⟩, M, by rw [kindU_eq]; clear F M; simp_all⟩
  · clear F M
    rintro a w ⟨x1, x2, x3, F, M, hk2⟩
    refine q_bn <| q_tn <| wp_seq ?_
    have bA := SA.bound
    refine w_reg <| rl_run F (run_move (F.ev rfl)) rfl ?_; clear F a; intro a F
    refine rl_run F (run_nilCheck (F.ev rfl)) rfl ?_; clear F a; intro a F
    refine rl_run F (run_fieldAddr tok46.k rfl rfl (F.ev rfl)) rfl ?_; clear F a; intro a F
    refine rl_run F (run_load1 (agf tok43 rfl) (F.ev rfl) (M.cellA A 3 rfl rfl)) rfl ?_; clear F a; intro a F
    refine rl_run F (run_lenSl tok43.k (F.ev rfl)) rfl ?_; clear F a; intro a F
    refine rl_run F (run_move (F.ev rfl)) rfl ?_; clear F a; intro a F
    refine rl_nil <| q_tn <| wp_block <| w_loopN (fun m a' w' => ∃ (i : Nat), ∃ (y1 : Bool), ∃ (y2 : Bool), ∃ (y3 : Bool), m = x.as.length - i ∧ Fits 35 a' [(1, .pointer (some ⟨cb2, 0, none⟩)), (24, .slice (ta) (x.as.length) (tc)), (25, .int .i64 (((x.as.length : Nat) : Int))), (26, .int .i64 (((i : Nat) : Int)))] ∧ Mem w0 G (.blk ub [.bool (y1), .bool (y2), .bool (y3)] 64 :: .blk cb2 [.func (.func 71) #[] #[.pointer (some ⟨ub, 0, none⟩)]] 110 :: L) w' ∧ (i ≤ x.as.length) ∧ (((y1, y2, y3) : Bool × Bool × Bool) = ((x.as.take i).map SlotD.src).foldl note (x1, x2, x3))) _ ⟨0, x1, x2, x3, rfl, F.to ⟨rfl, rfl, rfl, rfl, trivial⟩, M, Nat.zero_le _, by simp⟩ ?_
    clear F M
    rintro m a w ⟨i, y1, y2, y3, rfl, F, M, hi, hy2⟩
    refine wp_seq <| w_reg <| rl_run F (run_lss (F.ev rfl) (F.ev rfl)) rfl ?_; clear F a; intro a F
    refine rl_nil <| q_tn <| wp_seq <| w_cond F rfl ?_ ?_
    · intro hc
      have h7b := hc; clear hc
      have h7 : ((i : Nat) : Int) < ((x.as.length : Nat) : Int) := of_decide_eq_true h7b
      refine wp_skip <| q_tn <| wp_seq <| wp_block <| wp_seq <| w_reg ?_
      obtain ⟨Xe8, hXe8⟩ := get_of_lt (xs := x.as) (i := i) (by omega)
      obtain ⟨be8, oe8, _, Ie8, _, Ae8, ⟨rfl, hn1e8, hk1e8, hv1e8⟩⟩ := SA.at hXe8
      refine rl_run F (run_indexI tok43.k tok76 (F.ev rfl) (F.ev rfl) (by omega) Ie8) rfl ?_; clear F a; intro a F
      refine rl_run F (run_loadA tok76 rfl (F.ev rfl) (cs := [.string (str (Xe8.n)), .int .u8 (Xe8.src), .string (str (Xe8.v))]) rfl (M.cellsA Ae8 0 (by omega) rfl)) rfl ?_; clear F a; intro a F
      refine rl_alloc F M tok76 rfl rfl ?_; clear F M a; intro b9 w a M F
      refine rl_storeA F M tok76 (k := 0) rfl rfl rfl (us := [.string (str (Xe8.n)), .int .u8 (Xe8.src), .string (str (Xe8.v))]) rfl rfl (by simp [Value.oneCell']) (by simp) ?_; clear F M a; intro w a M F
      change Mem w0 G (.blk b9 [.string (str (Xe8.n)), .int .u8 (Xe8.src), .string (str (Xe8.v))] 76 :: .blk ub [.bool (y1), .bool (y2), .bool (y3)] 64 :: .blk cb2 [.func (.func 71) #[] #[.pointer (some ⟨ub, 0, none⟩)]] 110 :: L) _ at M
      refine rl_nil <| q_tn <| w_reg <| rl_run F (run_load1 (agf tok110 rfl) (F.ev rfl) (M.cellL (k := 2) rfl rfl)) rfl ?_; clear F a; intro a F
      refine rl_run F (run_fieldAddr tok76.k rfl rfl (F.ev rfl)) rfl ?_; clear F a; intro a F
      refine rl_run F (run_load1 (agf tok5 rfl) (F.ev rfl) (M.cellL (k := 0) rfl rfl)) rfl ?_; clear F a; intro a F
      replace M := M.perm (perm_front _ 1 _ rfl)
      change Mem w0 G (.blk ub [.bool (y1), .bool (y2), .bool (y3)] 64 :: .blk b9 [.string (str (Xe8.n)), .int .u8 (Xe8.src), .string (str (Xe8.v))] 76 :: .blk cb2 [.func (.func 71) #[] #[.pointer (some ⟨ub, 0, none⟩)]] 110 :: L) _ at M
      refine rl_callvL F ent71 (caps := [.pointer (some ⟨ub, 0, none⟩)]) rfl rfl rfl (unote_spec (kk := Xe8.src) M) ?_; clear F M a; rintro _ _ w a M ⟨rfl, rfl⟩ F
      refine rl_nil <| q_bn <| q_tn <| w_reg <| rl_run F (run_addi (F.ev rfl) (F.ev rfl) (in_i64 (by omega) (by omega))) rfl ?_; clear F a; intro a F
      refine rl_run F (run_move (F.ev rfl)) rfl ?_; clear F a; intro a F
      refine rl_nil <| q_tn ?_
      exact ⟨_, by omega, i + 1, ((y1) || decide (Xe8.src = 1)), ((y2) || decide (Xe8.src = 2)), ((y3) || decide (Xe8.src = 3)), rfl, F.to ⟨rfl, rfl, rfl, rfl, trivial⟩, (M.weaken (.cons_cons _ (.cons _ (.cons_cons _ (List.Sublist.refl _))))), by omega, by rw [srcs_snoc hXe8, ← hy2]; rfl⟩
    · intro hc
      have h11b := hc; clear hc
      have h11 : ¬ (((i : Nat) : Int) < ((x.as.length : Nat) : Int)) := of_decide_eq_false h11b
      refine wp_exit ?_
      iterate 2 (refine q_te ?_)
      refine q_bh <| fin0n F rfl ?_
      rw [List.take_of_length_le (by omega)] at hy2
      have he : stpU s x = (y1, y2, y3) := by unfold stpU; rw [← hk2]; exact hy2.symm
      replace M := M.perm (perm_front _ 1 _ rfl)
      replace M := M.perm (perm_front _ 1 _ rfl)
      change Mem w0 G (.blk ub [.bool (y1), .bool (y2), .bool (y3)] 64 :: .blk cb2 [.func (.func 71) #[] #[.pointer (some ⟨ub, 0, none⟩)]] 110 :: L) _ at M
      exact ⟨_, M, rfl, by rw [he]⟩
theorem feff_uses {w0 : World} {ub cb2 : Nat} : FEff w0 72 [.pointer (some ⟨cb2, 0, none⟩)] (fun s : Bool × Bool × Bool => [.blk ub [.bool (s.1), .bool (s.2.1), .bool (s.2.2)] 64, .blk cb2 [.func (.func 71) #[] #[.pointer (some ⟨ub, 0, none⟩)]] 110]) stpU := ⟨ent72, fun M hk hl SA SK A _ => ueach_spec M hk hl SA SK A⟩
theorem tuses_ret {w0 w : World} {G : Ghost} {L : List Res} (M : Mem w0 G L w) {x : PT} {ta : Option Addr} {tc : Nat} {ka : Option Addr} {kc : Nat} (hk : inKind .u8 x.kind) (hl : (x.tag.length ≤ 9223372036854775807 ∧ x.key.length ≤ 9223372036854775807 ∧ x.text.length ≤ 9223372036854775807)) (SA : RdSl rdSlot 3 G (.slice ta x.as.length tc) x.as) (SK : RdSl rdP 6 G (.slice ka x.kids.length kc) x.kids) : Calls Tryz.prog 31 #[.agg #[.int .u8 (x.kind), .string (str (x.tag)), .string (str (x.key)), .slice (ta) (x.as.length) (tc), .string (str (x.text)), .slice (ka) (x.kids.length) (kc)]] w (Ret w0 G L fun _ v => v = .tuple #[.agg #[.bool (usesF x).1, .bool (usesF x).2.1, .bool (usesF x).2.2], .int .i64 (chkP x)]) := by
  refine calls_start (vs := [_]) Tryz.func31 rfl (n := 12) rfl rfl ?_
  intro a F
  refine wp_seq <| w_reg <| rl_box F M rfl (cs := [.int .u8 (x.kind), .string (str (x.tag)), .string (str (x.key)), .slice (ta) (x.as.length) (tc), .string (str (x.text)), .slice (ka) (x.kids.length) (kc)]) rfl rfl ?_; clear F M a; intro b1 w a M F
  refine rl_alloc F M tok64 rfl rfl ?_; clear F M a; intro b2 w a M F
  refine rl_run F (run_assign (F.ev rfl)) rfl ?_; clear F a; intro a F
  refine rl_nil <| q_tn <| wp_seq <| w_reg <| rl_alloc F M tok64 rfl rfl ?_; clear F M a; intro b4 w a M F
  refine rl_nil <| q_tn <| wp_seq <| w_reg <| rl_run F (run_makeFunc (vs := #[.pointer (some ⟨b4, 0, none⟩)]) (by simp only [List.map_toArray, List.map_cons, List.map_nil, F.ev (x := .tmp 4) rfl])) rfl ?_; clear F a; intro a F
  refine rl_alloc F M tok110 rfl rfl ?_; clear F M a; intro b6 w a M F
  refine rl_store1 F M tok110 rfl (k := 0) rfl rfl rfl rfl rfl ?_; clear F M a; intro w a M F
  refine rl_nil <| q_tn ?_
  iterate 2 (refine wp_seq ?_)
  refine w_reg <| rl_run F (run_makeFunc (vs := #[.pointer (some ⟨b6, 0, none⟩)]) (by simp only [List.map_toArray, List.map_cons, List.map_nil, F.ev (x := .tmp 5) rfl])) rfl ?_; clear F a; intro a F
  obtain ⟨Gq8, hGq8, hbq8, M⟩ := M.freeze (k := 3) rfl
  have Aq8 : At Gq8 b1 0 [.int .u8 (x.kind), .string (str (x.tag)), .string (str (x.key)), .slice (ta) (x.as.length) (tc), .string (str (x.text)), .slice (ka) (x.kids.length) (kc)] := At.of_cells hbq8
  clear hbq8
  replace SA := SA.mono mono_rdSlot hGq8
  replace SK := SK.mono mono_rdP hGq8
  change Mem w0 Gq8 (.blk b6 [.func (.func 71) #[] #[.pointer (some ⟨b4, 0, none⟩)]] 110 :: .blk b4 [.bool false, .bool false, .bool false] 64 :: .blk b2 [.bool false, .bool false, .bool false] 64 :: L) _ at M
  replace M := M.perm (perm_front _ 1 _ rfl)
  change Mem w0 Gq8 (.blk b4 [.bool false, .bool false, .bool false] 64 :: .blk b6 [.func (.func 71) #[] #[.pointer (some ⟨b4, 0, none⟩)]] 110 :: .blk b2 [.bool false, .bool false, .bool false] 64 :: L) _ at M
  refine rl_callL F ent64 rfl rfl (twalk_spec (feff_uses (ub := b4) (cb2 := b6)) (x := x) (s := (false, false, false)) (L := .blk b2 [.bool false, .bool false, .bool false] 64 :: L) M hk hl SA SK Aq8) ?_; clear F M a; rintro _ _ w a M ⟨k9, sk9, rfl, hLk9, hk9, ek9⟩ F
  rw [hLk9] at M; clear hLk9
  replace M : Mem w0 Gq8 (.blk b4 [.bool (sk9.1), .bool (sk9.2.1), .bool (sk9.2.2)] 64 :: .blk b6 [.func (.func 71) #[] #[.pointer (some ⟨b4, 0, none⟩)]] 110 :: .blk b2 [.bool false, .bool false, .bool false] 64 :: L) _ := M
  refine rl_run F (run_eqi (F.ev rfl) (F.ev rfl)) rfl ?_; clear F a; intro a F
  refine rl_nil <| q_tn <| w_cond F rfl ?_ ?_
  · intro hc
    have h10b := hc; clear hc
    have h10 : ((k9 : Nat) : Int) = 0 := of_decide_eq_true h10b
    refine wp_seq <| w_reg <| rl_run F (run_buildS (cs := [.bool false, .bool false, .bool false]) (ps := []) tok64.k rfl tok64 (F.evp rfl) rfl) rfl ?_; clear F a; intro a F
    refine rl_storeA F M tok64 (k := 2) rfl rfl rfl (us := [.bool false, .bool false, .bool false]) rfl rfl (by simp [Value.oneCell']) (by simp) ?_; clear F M a; intro w a M F
    change Mem w0 Gq8 (.blk b4 [.bool (sk9.1), .bool (sk9.2.1), .bool (sk9.2.2)] 64 :: .blk b6 [.func (.func 71) #[] #[.pointer (some ⟨b4, 0, none⟩)]] 110 :: .blk b2 [.bool false, .bool false, .bool false] 64 :: L) _ at M
    refine rl_run F (run_assign (F.ev rfl)) rfl ?_; clear F a; intro a F
    refine rl_nil <| q_tn <| wp_ret <| q_tr <| fin_ct F M (k := 2) rfl rfl tok64 rfl rfl rfl rfl ?_
    have hV : ¬ ValidP x := fun h_ => by have := cntP_pos.2 h_; omega
    exact ⟨_, hGq8, (M.weaken (.cons _ (.cons _ (.cons _ (List.Sublist.refl _))))), by rw [usesF_no hV, chkP_no hV]⟩
  · intro hc
    have h11b := hc; clear hc
    have h11 : ¬ (((k9 : Nat) : Int) = 0) := of_decide_eq_false h11b
    refine wp_skip <| q_tn <| wp_seq <| w_reg <| rl_run F (run_loadA tok64 rfl (F.ev rfl) (cs := [.bool (sk9.1), .bool (sk9.2.1), .bool (sk9.2.2)]) rfl (M.cellsL (k := 0) rfl rfl)) rfl ?_; clear F a; intro a F
    refine rl_storeA F M tok64 (k := 2) rfl rfl rfl (us := [.bool (sk9.1), .bool (sk9.2.1), .bool (sk9.2.2)]) rfl rfl (by simp [Value.oneCell']) (by simp) ?_; clear F M a; intro w a M F
    change Mem w0 Gq8 (.blk b4 [.bool (sk9.1), .bool (sk9.2.1), .bool (sk9.2.2)] 64 :: .blk b6 [.func (.func 71) #[] #[.pointer (some ⟨b4, 0, none⟩)]] 110 :: .blk b2 [.bool (sk9.1), .bool (sk9.2.1), .bool (sk9.2.2)] 64 :: L) _ at M
    refine rl_run F (run_assign (F.ev rfl)) rfl ?_; clear F a; intro a F
    refine rl_nil <| q_tn <| wp_ret <| fin_ct F M (k := 2) rfl rfl tok64 rfl rfl rfl rfl ?_
    have hV : ValidP x := cntP_pos.1 (by omega)
    exact ⟨_, hGq8, (M.weaken (.cons _ (.cons _ (.cons _ (List.Sublist.refl _))))), by rw [usesF_yes hV, chkP_yes hV, ← ek9 hV]⟩
theorem tuses_spec {w0 w : World} {G : Ghost} {L : List Res} (M : Mem w0 G L w) {x : PT} {ta : Option Addr} {tc : Nat} {ka : Option Addr} {kc : Nat} (hk : inKind .u8 x.kind) (hl : (x.tag.length ≤ 9223372036854775807 ∧ x.key.length ≤ 9223372036854775807 ∧ x.text.length ≤ 9223372036854775807)) (SA : RdSl rdSlot 3 G (.slice ta x.as.length tc) x.as) (SK : RdSl rdP 6 G (.slice ka x.kids.length kc) x.kids) : Calls Tryz.prog 31 #[.agg #[.int .u8 (x.kind), .string (str (x.tag)), .string (str (x.key)), .slice (ta) (x.as.length) (tc), .string (str (x.text)), .slice (ka) (x.kids.length) (kc)]] w (RetS w0 G L fun v => v = .tuple #[.agg #[.bool (usesF x).1, .bool (usesF x).2.1, .bool (usesF x).2.2], .int .i64 (chkP x)]) := Ret.plain M (tuses_ret M hk hl SA SK)
end Go.Proofs.YtlnehkjmmegkhaaGreat
