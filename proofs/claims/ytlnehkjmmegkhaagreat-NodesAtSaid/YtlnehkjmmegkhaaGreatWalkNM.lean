/- The walks, part NM. -/
import Derived.Test.YtlnehkjmmegkhaaGreatWalkNL
namespace Go.Proofs.YtlnehkjmmegkhaaGreat
open Go Go.Y Go.Proofs
set_option linter.unusedSimpArgs false
set_option linter.unusedVariables false
theorem u8_natN {n : Int} (h : inKind .u8 n) : ∃ m : Nat, n = (m : Int) ∧ m < 256 := by
  have h1 : (0 : Int) ≤ n := h.1
  have h2 : n ≤ 255 := h.2
  exact ⟨n.toNat, by omega, by omega⟩
def OwnN (x : NT) : Prop := ∀ (w0 w : World) (G : Ghost) (L : List Res) (ta ka : Option Addr), Mem w0 G L w → RdSl rdAttr 2 G (.slice ta x.as.length x.as.length) x.as → RdSl rdNE 6 G (.slice ka x.kids.length x.kids.length) x.kids →
    Calls Tryz.prog 19 #[.agg #[.int .u8 (x.kind), .string (str (x.tag)), .string (str (x.key)), .slice (ta) (x.as.length) (x.as.length), .string (str (x.text)), .slice (ka) (x.kids.length) (x.kids.length)]] w (RetS w0 G L fun v => v = .int .i64 1)
theorem valid_kid {y c : NT} (h : Valid y) (hc : c ∈ y.kids) : Valid c := by
  obtain ⟨i, hi⟩ := List.getElem?_of_mem hc
  have := sizes_kid hi
  exact ⟨(show Tr.Ok Alone 5 c from h.1.2 c hc).mono (by decide), by have := h.2; omega⟩
theorem valid_at : ∀ (x : NT) (l : List Int) (y : NT), Valid x → atF x l = some y → Valid y
  | x, [], y, h, e => by simp only [atF, Option.some.injEq] at e; subst e; exact h
  | x, i :: l, y, h, e => by
    simp only [atF] at e
    split at e
    · cases e
    · cases hk : x.kids[i.toNat]? with
      | none => rw [hk] at e; cases e
      | some c => rw [hk] at e; exact valid_at c l y (valid_kid h (List.mem_of_getElem? hk)) e
theorem cntF_size {x : NT} (h : Valid x) : cntF x = x.size := by unfold cntF; rw [if_pos h]
theorem nown_step {x : NT} (ih : ∀ y ∈ x.kids, OwnN y) {w0 w : World} {G : Ghost} {L : List Res} (M : Mem w0 G L w) {ta ka : Option Addr} (SA : RdSl rdAttr 2 G (.slice ta x.as.length x.as.length) x.as) (SK : RdSl rdNE 6 G (.slice ka x.kids.length x.kids.length) x.kids) : Calls Tryz.prog 19 #[.agg #[.int .u8 (x.kind), .string (str (x.tag)), .string (str (x.key)), .slice (ta) (x.as.length) (x.as.length), .string (str (x.text)), .slice (ka) (x.kids.length) (x.kids.length)]] w (RetS w0 G L fun v => v = .int .i64 1) := by
  refine calls_start (vs := [_]) Tryz.func19 rfl (n := 34) rfl rfl ?_
  intro a F
  refine wp_seq <| w_reg <| rl_box F M rfl (cs := [.int .u8 (x.kind), .string (str (x.tag)), .string (str (x.key)), .slice (ta) (x.as.length) (x.as.length), .string (str (x.text)), .slice (ka) (x.kids.length) (x.kids.length)]) rfl rfl ?_; clear F M a; intro b1 w a M F
  refine rl_run F (run_assign (F.ev rfl)) rfl ?_; clear F a; intro a F
  refine rl_nil <| q_tn ?_
  iterate 2 (refine wp_seq ?_)
  have bK := SK.bound
  refine w_reg <| rl_run F (run_fieldAddr tok30.k rfl rfl (F.ev rfl)) rfl ?_; clear F a; intro a F
  refine rl_run F (run_load1 (agf tok27 rfl) (F.ev rfl) (M.cellL (k := 0) rfl rfl)) rfl ?_; clear F a; intro a F
  refine rl_run F (run_capSl tok27.k (F.ev rfl)) rfl ?_; clear F a; intro a F
  refine rl_run F (run_fieldAddr tok30.k rfl rfl (F.ev rfl)) rfl ?_; clear F a; intro a F
  refine rl_run F (run_load1 (agf tok27 rfl) (F.ev rfl) (M.cellL (k := 0) rfl rfl)) rfl ?_; clear F a; intro a F
  refine rl_run F (run_lenSl tok27.k (F.ev rfl)) rfl ?_; clear F a; intro a F
  refine rl_run F (run_nei (F.ev rfl) (F.ev rfl)) rfl ?_; clear F a; intro a F
  refine rl_run F (run_move (F.ev rfl)) rfl ?_; clear F a; intro a F
  refine rl_guard_t F rfl rfl rfl (not_f (decide_eq_true rfl)) ?_
  refine rl_run F (run_fieldAddr tok30.k rfl rfl (F.ev rfl)) rfl ?_; clear F a; intro a F
  refine rl_guard_t F rfl rfl rfl (not_f (decide_eq_true rfl)) ?_
  refine rl_run F (run_load1 (agf tok28 rfl) (F.ev rfl) (M.cellL (k := 0) rfl rfl)) rfl ?_; clear F a; intro a F
  refine rl_guard_t F rfl rfl rfl (not_f (decide_eq_true rfl)) ?_
  refine rl_run F (run_capSl tok28.k (F.ev rfl)) rfl ?_; clear F a; intro a F
  refine rl_guard_t F rfl rfl rfl (not_f (decide_eq_true rfl)) ?_
  refine rl_run F (run_fieldAddr tok30.k rfl rfl (F.ev rfl)) rfl ?_; clear F a; intro a F
  refine rl_guard_t F rfl rfl rfl (not_f (decide_eq_true rfl)) ?_
  refine rl_run F (run_load1 (agf tok28 rfl) (F.ev rfl) (M.cellL (k := 0) rfl rfl)) rfl ?_; clear F a; intro a F
  refine rl_guard_t F rfl rfl rfl (not_f (decide_eq_true rfl)) ?_
  refine rl_run F (run_lenSl tok28.k (F.ev rfl)) rfl ?_; clear F a; intro a F
  refine rl_guard_t F rfl rfl rfl (not_f (decide_eq_true rfl)) ?_
  refine rl_run F (run_nei (F.ev rfl) (F.ev rfl)) rfl ?_; clear F a; intro a F
  refine rl_run F (run_pick_f (F.ev rfl) (not_f (decide_eq_true rfl)) (F.ev rfl)) rfl ?_; clear F a; intro a F
  refine rl_nil <| q_tn <| w_cond_f F rfl (not_f (decide_eq_true rfl)) ?_
  refine wp_skip <| q_tn ?_
  iterate 2 (refine wp_seq ?_)
  refine w_reg <| rl_run F (run_assign (F.ev rfl)) rfl ?_; clear F a; intro a F
  refine rl_nil <| q_tn <| wp_block <| w_loopN (fun m a' w' => ∃ (i : Nat), m = x.kids.length - i ∧ Fits 34 a' [(1, .pointer (some ⟨b1, 0, none⟩)), (3, .int .i64 (((i : Nat) : Int)))] ∧ Mem w0 G (.blk b1 [.int .u8 (x.kind), .string (str (x.tag)), .string (str (x.key)), .slice (ta) (x.as.length) (x.as.length), .string (str (x.text)), .slice (ka) (x.kids.length) (x.kids.length)] 30 :: L) w' ∧ (i ≤ x.kids.length)) _ ⟨0, rfl, F.to ⟨rfl, rfl, trivial⟩, M, Nat.zero_le _⟩ ?_
  clear F M
  rintro m a w ⟨i, rfl, F, M, hi⟩
  iterate 2 (refine wp_seq ?_)
  refine w_reg <| rl_run F (run_move (F.ev rfl)) rfl ?_; clear F a; intro a F
  refine rl_run F (run_fieldAddr tok30.k rfl rfl (F.ev rfl)) rfl ?_; clear F a; intro a F
  refine rl_run F (run_load1 (agf tok28 rfl) (F.ev rfl) (M.cellL (k := 0) rfl rfl)) rfl ?_; clear F a; intro a F
  refine rl_run F (run_lenSl tok28.k (F.ev rfl)) rfl ?_; clear F a; intro a F
  refine rl_run F (run_lss (F.ev rfl) (F.ev rfl)) rfl ?_; clear F a; intro a F
  refine rl_nil <| q_tn <| w_cond F rfl ?_ ?_
  · intro hc
    have h2b := hc; clear hc
    have h2 : ((i : Nat) : Int) < ((x.kids.length : Nat) : Int) := of_decide_eq_true h2b
    refine wp_skip <| q_tn <| wp_seq <| wp_block <| wp_seq <| w_reg <| rl_run F (run_fieldAddr tok30.k rfl rfl (F.ev rfl)) rfl ?_; clear F a; intro a F
    refine rl_run F (run_load1 (agf tok28 rfl) (F.ev rfl) (M.cellL (k := 0) rfl rfl)) rfl ?_; clear F a; intro a F
    refine rl_run F (run_move (F.ev rfl)) rfl ?_; clear F a; intro a F
    obtain ⟨Xe3, hXe3⟩ := get_of_lt (xs := x.kids) (i := i) (by omega)
    obtain ⟨be3, oe3, _, Ie3, _, Ae3, hTe3⟩ := SK.at hXe3
    obtain ⟨tae3, kae3, rfl, hke3, hle3, SAe3, SKe3⟩ := rdNE_open hTe3
    refine rl_run F (run_indexI tok28.k tok30 (F.ev rfl) (F.ev rfl) (by omega) Ie3) rfl ?_; clear F a; intro a F
    refine rl_run F (run_loadA tok30 rfl (F.ev rfl) (cs := [.int .u8 (Xe3.kind), .string (str (Xe3.tag)), .string (str (Xe3.key)), .slice (tae3) (Xe3.as.length) (Xe3.as.length), .string (str (Xe3.text)), .slice (kae3) (Xe3.kids.length) (Xe3.kids.length)]) rfl (M.cellsA Ae3 0 (by omega) rfl)) rfl ?_; clear F a; intro a F
    refine rl_callS F ent19 rfl rfl (ih Xe3 (List.mem_of_getElem? hXe3) _ _ _ _ _ _ M SAe3 SKe3) ?_; clear F M a; rintro _ w a M rfl F
    refine rl_run F (run_eqi (F.ev rfl) (F.ev rfl)) rfl ?_; clear F a; intro a F
    refine rl_nil <| q_tn <| w_cond_f F rfl (decide_eq_false (by decide)) ?_
    refine wp_skip <| q_bn <| q_tn <| w_reg <| rl_run F (run_move (F.ev rfl)) rfl ?_; clear F a; intro a F
    refine rl_run F (run_addi (F.ev rfl) (F.ev rfl) (in_i64 (by omega) (by omega))) rfl ?_; clear F a; intro a F
    refine rl_run F (run_assign (F.ev rfl)) rfl ?_; clear F a; intro a F
    refine rl_nil <| q_tn ?_
    exact ⟨_, by omega, i + 1, rfl, F.to ⟨rfl, rfl, trivial⟩, M, by omega⟩
  · intro hc
    have h4b := hc; clear hc
    have h4 : ¬ (((i : Nat) : Int) < ((x.kids.length : Nat) : Int)) := of_decide_eq_false h4b
    refine wp_exit ?_
    iterate 2 (refine q_te ?_)
    refine q_bh <| q_tn <| wp_seq <| w_reg <| rl_run F (run_assign (F.ev rfl)) rfl ?_; clear F a; intro a F
    refine rl_nil <| q_tn <| wp_ret <| fin1 F rfl rfl ?_
    exact ⟨M.weaken (.cons _ (List.Sublist.refl _)), by rfl⟩
theorem nown_all (x : NT) : OwnN x := by
  induction x using Tr.ind with
  | _ x ih => intro w0 w G L ta ka M SA SK; exact nown_step ih M SA SK
theorem nodesAt_ret {w0 w : World} {G : Ghost} {L : List Res} (M : Mem w0 G L w) {ca : Option Addr} {cc : Nat} {cs : List UInt8} (S : RdSl rdB 1 G (.slice ca cs.length cc) cs) {pt psl : Nat} (hpt : pt < 256) (hps : psl < 256) {pa : Option Addr} {pc : Nat} {ps : List Int} (SP : RdSl rdI 1 G (.slice pa ps.length pc) ps) : Calls Tryz.prog 3 #[.agg #[.int .u8 (((pt : Nat) : Int)), .int .u8 (((psl : Nat) : Int)), .slice (ca) (cs.length) (cc)], .slice pa ps.length pc] w (Ret w0 G L fun _ v => v = .bool true) := by
  refine calls_start (vs := [_, _]) Tryz.func3 rfl (n := 107) rfl rfl ?_
  intro a F
  refine wp_seq <| w_reg <| rl_box F M rfl (cs := [.int .u8 (((pt : Nat) : Int)), .int .u8 (((psl : Nat) : Int)), .slice (ca) (cs.length) (cc)]) rfl rfl ?_; clear F M a; intro b1 w a M F
  refine rl_run F (run_assign (F.ev rfl)) rfl ?_; clear F a; intro a F
  refine rl_nil <| q_tn ?_
  iterate 2 (refine wp_seq ?_)
  have bP := SP.bound
  refine w_reg <| rl_run F (run_move (F.ev rfl)) rfl ?_; clear F a; intro a F
  refine rl_run F (run_lenSl tok25.k (F.ev rfl)) rfl ?_; clear F a; intro a F
  refine rl_run F (run_gtr (F.ev rfl) (F.ev rfl)) rfl ?_; clear F a; intro a F
  refine rl_nil <| q_tn <| w_cond F rfl ?_ ?_
  · intro hc
    have h2b := hc; clear hc
    have h2 : 8 < ((ps.length : Nat) : Int) := of_decide_eq_true h2b
    refine wp_seq <| w_reg <| rl_callS F ent13 rfl rfl (nlives_spec M) ?_; clear F M a; rintro _ w a M rfl F
    refine rl_run F (run_assign (F.ev rfl)) rfl ?_; clear F a; intro a F
    refine rl_nil <| q_tn <| wp_ret <| q_tr <| fin1 F rfl rfl ?_
    exact ⟨_, (Gle.refl _), M.weaken (.cons _ (List.Sublist.refl _)), by rfl⟩
  · intro hc
    have h3b := hc; clear hc
    have h3 : ¬ (8 < ((ps.length : Nat) : Int)) := of_decide_eq_false h3b
    refine wp_skip <| q_tn <| wp_seq <| w_reg <| rl_run F (run_loadA tok24 rfl (F.ev rfl) (cs := [.int .u8 (((pt : Nat) : Int)), .int .u8 (((psl : Nat) : Int)), .slice (ca) (cs.length) (cc)]) rfl (M.cellsL (k := 0) rfl rfl)) rfl ?_; clear F a; intro a F
    refine rl_call F ent14 rfl rfl (nof_spec M S (pt := pt) (psl := psl) (by omega) (by omega)) ?_; clear F M a; rintro _ Gk4 w a hGk4 M ⟨xk4, tak4, kak4, tck4, kck4, rfl, hVk4, hkk4, hlk4, SAk4, SKk4⟩ F
    replace S := S.mono mono_rdB hGk4
    replace SP := SP.mono mono_rdI hGk4
    refine rl_alloc F M tok30 rfl rfl ?_; clear F M a; intro b5 w a M F
    refine rl_storeA F M tok30 (k := 0) rfl rfl rfl (us := [.int .u8 (xk4.kind), .string (str (xk4.tag)), .string (str (xk4.key)), .slice (tak4) (xk4.as.length) (tck4), .string (str (xk4.text)), .slice (kak4) (xk4.kids.length) (kck4)]) rfl rfl (by simp [Value.oneCell']) (by simp) ?_; clear F M a; intro w a M F
    change Mem w0 Gk4 (.blk b5 [.int .u8 (xk4.kind), .string (str (xk4.tag)), .string (str (xk4.key)), .slice (tak4) (xk4.as.length) (tck4), .string (str (xk4.text)), .slice (kak4) (xk4.kids.length) (kck4)] 30 :: .blk b1 [.int .u8 (((pt : Nat) : Int)), .int .u8 (((psl : Nat) : Int)), .slice (ca) (cs.length) (cc)] 24 :: L) _ at M
    refine rl_nil <| q_tn <| wp_seq <| w_reg <| rl_run F (run_loadA tok30 rfl (F.ev rfl) (cs := [.int .u8 (xk4.kind), .string (str (xk4.tag)), .string (str (xk4.key)), .slice (tak4) (xk4.as.length) (tck4), .string (str (xk4.text)), .slice (kak4) (xk4.kids.length) (kck4)]) rfl (M.cellsL (k := 0) rfl rfl)) rfl ?_; clear F a; intro a F
    refine rl_alloc F M tok30 rfl rfl ?_; clear F M a; intro b7 w a M F
    refine rl_storeA F M tok30 (k := 0) rfl rfl rfl (us := [.int .u8 (xk4.kind), .string (str (xk4.tag)), .string (str (xk4.key)), .slice (tak4) (xk4.as.length) (tck4), .string (str (xk4.text)), .slice (kak4) (xk4.kids.length) (kck4)]) rfl rfl (by simp [Value.oneCell']) (by simp) ?_; clear F M a; intro w a M F
    change Mem w0 Gk4 (.blk b7 [.int .u8 (xk4.kind), .string (str (xk4.tag)), .string (str (xk4.key)), .slice (tak4) (xk4.as.length) (tck4), .string (str (xk4.text)), .slice (kak4) (xk4.kids.length) (kck4)] 30 :: .blk b5 [.int .u8 (xk4.kind), .string (str (xk4.tag)), .string (str (xk4.key)), .slice (tak4) (xk4.as.length) (tck4), .string (str (xk4.text)), .slice (kak4) (xk4.kids.length) (kck4)] 30 :: .blk b1 [.int .u8 (((pt : Nat) : Int)), .int .u8 (((psl : Nat) : Int)), .slice (ca) (cs.length) (cc)] 24 :: L) _ at M
    refine rl_nil <| q_tn <| wp_seq <| w_reg <| rl_run F (run_assign (F.ev rfl)) rfl ?_; clear F a; intro a F
    refine rl_nil <| q_tn ?_
    iterate 2 (refine wp_seq ?_)
    refine w_reg <| rl_run F (run_assign (F.ev rfl)) rfl ?_; clear F a; intro a F
    refine rl_nil <| q_tn <| wp_block <| w_loopN (fun m a' w' => ∃ (i : Nat), ∃ (th : Bool), ∃ (y : NT), ∃ (tay : Option Addr), ∃ (kay : Option Addr), ∃ (tcy : Nat), ∃ (kcy : Nat), m = ps.length - i ∧ ∃ G9, Gle Gk4 G9 ∧ Fits 107 a' [(1, .slice (pa) (ps.length) (pc)), (2, .pointer (some ⟨b1, 0, none⟩)), (4, .bool false), (5, .pointer (some ⟨b5, 0, none⟩)), (6, .pointer (some ⟨b7, 0, none⟩)), (7, .bool (th)), (8, .int .i64 (((i : Nat) : Int)))] ∧ Mem w0 G9 (.blk b7 [.int .u8 (y.kind), .string (str (y.tag)), .string (str (y.key)), .slice (tay) (y.as.length) (tcy), .string (str (y.text)), .slice (kay) (y.kids.length) (kcy)] 30 :: .blk b5 [.int .u8 (xk4.kind), .string (str (xk4.tag)), .string (str (xk4.key)), .slice (tak4) (xk4.as.length) (tck4), .string (str (xk4.text)), .slice (kak4) (xk4.kids.length) (kck4)] 30 :: .blk b1 [.int .u8 (((pt : Nat) : Int)), .int .u8 (((psl : Nat) : Int)), .slice (ca) (cs.length) (cc)] 24 :: L) w' ∧ (i ≤ ps.length) ∧ ((th = true → atF xk4 (ps.take i) = some y) ∧ (th = false → atF xk4 ps = none)) ∧ (inKind .u8 y.kind) ∧ ((y.tag.length ≤ 9223372036854775807 ∧ y.key.length ≤ 9223372036854775807 ∧ y.text.length ≤ 9223372036854775807)) ∧ (RdSl rdAttr 2 G9 (.slice tay y.as.length tcy) y.as) ∧ (RdSl rdN 6 G9 (.slice kay y.kids.length kcy) y.kids)) _ ⟨0, true, xk4, (tak4), (kak4), (tck4), (kck4), rfl, Gk4, Gle.refl _, F.to ⟨rfl, rfl, rfl, rfl, rfl, rfl, rfl, trivial⟩, M, Nat.zero_le _, ⟨fun _ => rfl, (fun h9 => by cases h9)⟩, hkk4, hlk4, SAk4, SKk4⟩ ?_
    clear F M
    rintro m a w ⟨i, th, y, tay, kay, tcy, kcy, rfl, G9, hG9, F, M, hi, hth, hky, hly, SAy, SKy⟩
    replace S := S.mono mono_rdB hG9
    replace SP := SP.mono mono_rdI hG9
    replace SAk4 := SAk4.mono mono_rdAttr hG9
    replace SKk4 := SKk4.mono mono_rdN hG9
    iterate 2 (refine wp_seq ?_)
    refine w_reg ?_
    iterate 2 (refine rl_run F (run_move (F.ev rfl)) rfl ?_; clear F a; intro a F)
    refine rl_run F (run_lenSl tok25.k (F.ev rfl)) rfl ?_; clear F a; intro a F
    refine rl_run F (run_lss (F.ev rfl) (F.ev rfl)) rfl ?_; clear F a; intro a F
    refine rl_run F (run_move (F.ev rfl)) rfl ?_; clear F a; intro a F
    rcases Bool.eq_false_or_eq_true (decide (((i : Nat) : Int) < ((ps.length : Nat) : Int))) with hc | hc
    · skip
      have h10b := hc; clear hc
      have h10 : ((i : Nat) : Int) < ((ps.length : Nat) : Int) := of_decide_eq_true h10b
      refine rl_guard_t F rfl rfl rfl h10b ?_
      refine rl_run F (run_move (F.ev rfl)) rfl ?_; clear F a; intro a F
      refine rl_run F (run_pick_t (F.ev rfl) h10b (F.ev rfl)) rfl ?_; clear F a; intro a F
      refine rl_nil <| q_tn <| w_cond F rfl ?_ ?_
      · intro hc
        have h11b := hc; clear hc
        have h11 : (th) = true := h11b
        refine wp_skip <| q_tn <| wp_seq <| wp_block <| wp_seq ?_
        have hth1 : th = true := h11b; subst hth1
        have bKy := SKy.bound
        refine w_plan [(true, 0), (true, 1), (true, 2), (true, 3), (true, 4), (true, 5), (true, 6), (true, 7), (true, 8), (true, 9), (true, 10), (true, 11), (true, 12), (true, 13), (true, 14)] (Keep G9 [.blk b7 [.int .u8 (y.kind), .string (str (y.tag)), .string (str (y.key)), .slice (tay) (y.as.length) (tcy), .string (str (y.text)), .slice (kay) (y.kids.length) (kcy)] 30, .blk b5 [.int .u8 (xk4.kind), .string (str (xk4.tag)), .string (str (xk4.key)), .slice (tak4) (xk4.as.length) (tck4), .string (str (xk4.text)), .slice (kak4) (xk4.kids.length) (kck4)] 30, .blk b1 [.int .u8 (((pt : Nat) : Int)), .int .u8 (((psl : Nat) : Int)), .slice (ca) (cs.length) (cc)] 24]) rfl (by kernel_rfl) (fun c a d v w h => by cases d <;> exact h) ((M.drew _).keep (Gle.refl _) (by simp)) ?_
        replace M := M.drew (w.drawn + 1)
        iterate 2 (refine pl_run F (fun w M => run_move (F.ev rfl)) rfl ?_; clear F a; intro a F)
        obtain ⟨Xe12, hXe12⟩ := get_of_lt (xs := ps) (i := i) (by omega)
        obtain ⟨be12, oe12, _, Ie12, _, Ae12, ⟨rfl, hbe121⟩⟩ := SP.at hXe12
        refine pl_run F (fun w M => run_indexI tok25.k tok3 (F.ev rfl) (F.ev rfl) (by omega) Ie12) rfl ?_; clear F a; intro a F
        refine pl_run F (fun w M => run_load1 (agf tok3 rfl) (F.ev rfl) (M.cellA Ae12 0 (by omega) rfl)) rfl ?_; clear F a; intro a F
        refine pl_run F (fun w M => run_lss (F.ev rfl) (F.ev rfl)) rfl ?_; clear F a; intro a F
        refine pl_run F (fun w M => run_move (F.ev rfl)) rfl ?_; clear F a; intro a F
        rcases Bool.eq_false_or_eq_true (decide (Xe12 < 0)) with hc | hc
        · skip
          have h13b := hc; clear hc
          have h13 : Xe12 < 0 := of_decide_eq_true h13b
          iterate 8 (refine pl_guard_skip F rfl rfl h13b rfl ?_; clear F a; intro a F)
          refine pl_run F (fun w M => run_pick_t (F.ev rfl) h13b (F.ev rfl)) rfl ?_; clear F a; intro a F
          refine pl_nil ?_
          generalize ({ w with drawn := w.drawn + 1 } : World) = w at M ⊢
          refine q_tn <| w_cond_t F rfl rfl ?_
          refine w_reg <| rl_run F (run_assign (F.ev rfl)) rfl ?_; clear F a; intro a F
          refine rl_nil <| q_bn <| q_tn <| w_reg <| rl_run F (run_move (F.ev rfl)) rfl ?_; clear F a; intro a F
          refine rl_run F (run_addi (F.ev rfl) (F.ev rfl) (in_i64 (by omega) (by omega))) rfl ?_; clear F a; intro a F
          refine rl_run F (run_assign (F.ev rfl)) rfl ?_; clear F a; intro a F
          refine rl_nil <| q_tn ?_
          exact ⟨_, by omega, i + 1, false, y, (tay), (kay), (tcy), (kcy), rfl, G9, hG9, F.to ⟨rfl, rfl, rfl, rfl, rfl, rfl, rfl, trivial⟩, M, by omega, ⟨(fun h9 => by cases h9), fun _ => atF_stop (hth.1 rfl) hXe12 (by omega)⟩, hky, hly, SAy, SKy⟩
        · skip
          have h14b := hc; clear hc
          have h14 : ¬ (Xe12 < 0) := of_decide_eq_false h14b
          iterate 2 (refine pl_guard_run F rfl rfl h14b (fun w M => run_move (F.ev rfl)) rfl ?_; clear F a; intro a F)
          obtain ⟨be15, oe15, _, Ie15, _, Ae15, ⟨rfl, hbe151⟩⟩ := SP.at hXe12
          refine pl_guard_run F rfl rfl h14b (fun w M => run_indexI tok25.k tok3 (F.ev rfl) (F.ev rfl) (by omega) Ie15) rfl ?_; clear F a; intro a F
          refine pl_guard_run F rfl rfl h14b (fun w M => run_load1 (agf tok3 rfl) (F.ev rfl) (M.cellA Ae15 0 (by omega) rfl)) rfl ?_; clear F a; intro a F
          refine pl_guard_run F rfl rfl h14b (fun w M => run_fieldAddr tok30.k rfl rfl (F.ev rfl)) rfl ?_; clear F a; intro a F
          refine pl_guard_run F rfl rfl h14b (fun w M => run_load1 (agf tok28 rfl) (F.ev rfl) (M.cellL (k := 0) rfl rfl)) rfl ?_; clear F a; intro a F
          refine pl_guard_run F rfl rfl h14b (fun w M => run_lenSl tok28.k (F.ev rfl)) rfl ?_; clear F a; intro a F
          refine pl_guard_run F rfl rfl h14b (fun w M => run_geq (F.ev rfl) (F.ev rfl)) rfl ?_; clear F a; intro a F
          refine pl_run F (fun w M => run_pick_f (F.ev rfl) h14b (F.ev rfl)) rfl ?_; clear F a; intro a F
          refine pl_nil ?_
          generalize ({ w with drawn := w.drawn + 1 } : World) = w at M ⊢
          refine q_tn <| w_cond F rfl ?_ ?_
          · intro hc
            have h16b := hc; clear hc
            have h16 : ((y.kids.length : Nat) : Int) ≤ Xe12 := of_decide_eq_true h16b
            refine w_reg <| rl_run F (run_assign (F.ev rfl)) rfl ?_; clear F a; intro a F
            refine rl_nil <| q_bn <| q_tn <| w_reg <| rl_run F (run_move (F.ev rfl)) rfl ?_; clear F a; intro a F
            refine rl_run F (run_addi (F.ev rfl) (F.ev rfl) (in_i64 (by omega) (by omega))) rfl ?_; clear F a; intro a F
            refine rl_run F (run_assign (F.ev rfl)) rfl ?_; clear F a; intro a F
            refine rl_nil <| q_tn ?_
            exact ⟨_, by omega, i + 1, false, y, (tay), (kay), (tcy), (kcy), rfl, G9, hG9, F.to ⟨rfl, rfl, rfl, rfl, rfl, rfl, rfl, trivial⟩, M, by omega, ⟨(fun h9 => by cases h9), fun _ => atF_stop (hth.1 rfl) hXe12 (by omega)⟩, hky, hly, SAy, SKy⟩
          · intro hc
            have h17b := hc; clear hc
            have h17 : ¬ (((y.kids.length : Nat) : Int) ≤ Xe12) := of_decide_eq_false h17b
            obtain ⟨q9, rfl⟩ : ∃ q : Nat, Xe12 = (q : Int) := ⟨Xe12.toNat, by omega⟩
            refine w_plan2 [(.free, 0), (.pure, 1), (.free, 2), (.free, 3), (.free, 4), (.pure, 5), (.free, 6), (.pure, 7), (.chg, 8)] [8] (Keep G9 [.blk b7 [.int .u8 (y.kind), .string (str (y.tag)), .string (str (y.key)), .slice (tay) (y.as.length) (tcy), .string (str (y.text)), .slice (kay) (y.kids.length) (kcy)] 30, .blk b5 [.int .u8 (xk4.kind), .string (str (xk4.tag)), .string (str (xk4.key)), .slice (tak4) (xk4.as.length) (tck4), .string (str (xk4.text)), .slice (kak4) (xk4.kids.length) (kck4)] 30, .blk b1 [.int .u8 (((pt : Nat) : Int)), .int .u8 (((psl : Nat) : Int)), .slice (ca) (cs.length) (cc)] 24]) rfl (by kernel_rfl) (fun c a d v w h => by cases d <;> exact h) ((M.drew _).keep (Gle.refl _) (by simp)) ?_
            replace M := M.drew (w.drawn + 1)
            refine pk_free F (fun w _ => run_fieldAddr tok30.k rfl rfl (F.ev rfl)) rfl ?_; clear F a; intro a F
            refine pk_pure F (fun w M => run_load1 (agf tok28 rfl) (F.ev rfl) (M.cellL (k := 0) rfl rfl)) rfl ?_; clear F a; intro a F
            iterate 2 (refine pk_free F (fun w _ => run_move (F.ev rfl)) rfl ?_; clear F a; intro a F)
            obtain ⟨be18, oe18, _, Ie18, _, Ae18, ⟨rfl, hbe181⟩⟩ := SP.at hXe12
            refine pk_free F (fun w _ => run_indexI tok25.k tok3 (F.ev rfl) (F.ev rfl) (by omega) Ie18) rfl ?_; clear F a; intro a F
            refine pk_pure F (fun w M => run_load1 (agf tok3 rfl) (F.ev rfl) (M.cellA Ae18 0 (by omega) rfl)) rfl ?_; clear F a; intro a F
            obtain ⟨Xe19, hXe19⟩ := get_of_lt (xs := y.kids) (i := q9) (by omega)
            obtain ⟨be19, oe19, _, Ie19, _, Ae19, hTe19⟩ := SKy.at hXe19
            obtain ⟨tae19, tce19, kae19, kce19, rfl, hke19, hle19, SAe19, SKe19⟩ := rdT_open hTe19
            refine pk_free F (fun w _ => run_indexI tok28.k tok30 (F.ev rfl) (F.ev rfl) (by omega) Ie19) rfl ?_; clear F a; intro a F
            refine pk_pure F (fun w M => run_loadA tok30 rfl (F.ev rfl) (cs := [.int .u8 (Xe19.kind), .string (str (Xe19.tag)), .string (str (Xe19.key)), .slice (tae19) (Xe19.as.length) (tce19), .string (str (Xe19.text)), .slice (kae19) (Xe19.kids.length) (kce19)]) rfl (M.cellsA Ae19 0 (by omega) rfl)) rfl ?_; clear F a; intro a F
            refine pk_chg ?_ rfl
            refine rl_storeA F M tok30 (k := 0) rfl rfl rfl (us := [.int .u8 (Xe19.kind), .string (str (Xe19.tag)), .string (str (Xe19.key)), .slice (tae19) (Xe19.as.length) (tce19), .string (str (Xe19.text)), .slice (kae19) (Xe19.kids.length) (kce19)]) rfl rfl (by simp [Value.oneCell']) (by simp) ?_; clear F M a; intro w a M F
            change Mem w0 G9 (.blk b7 [.int .u8 (Xe19.kind), .string (str (Xe19.tag)), .string (str (Xe19.key)), .slice (tae19) (Xe19.as.length) (tce19), .string (str (Xe19.text)), .slice (kae19) (Xe19.kids.length) (kce19)] 30 :: .blk b5 [.int .u8 (xk4.kind), .string (str (xk4.tag)), .string (str (xk4.key)), .slice (tak4) (xk4.as.length) (tck4), .string (str (xk4.text)), .slice (kak4) (xk4.kids.length) (kck4)] 30 :: .blk b1 [.int .u8 (((pt : Nat) : Int)), .int .u8 (((psl : Nat) : Int)), .slice (ca) (cs.length) (cc)] 24 :: L) _ at M
            refine rl_nil <| ⟨Keep G9 [.blk b7 [.int .u8 (Xe19.kind), .string (str (Xe19.tag)), .string (str (Xe19.key)), .slice (tae19) (Xe19.as.length) (tce19), .string (str (Xe19.text)), .slice (kae19) (Xe19.kids.length) (kce19)] 30, .blk b5 [.int .u8 (xk4.kind), .string (str (xk4.tag)), .string (str (xk4.key)), .slice (tak4) (xk4.as.length) (tck4), .string (str (xk4.text)), .slice (kak4) (xk4.kids.length) (kck4)] 30, .blk b1 [.int .u8 (((pt : Nat) : Int)), .int .u8 (((psl : Nat) : Int)), .slice (ca) (cs.length) (cc)] 24], M.keep (Gle.refl _) (by simp), ?_⟩
            refine pk_nil <| q_bn <| q_tn <| w_reg <| rl_run F (run_move (F.ev rfl)) rfl ?_; clear F a; intro a F
            refine rl_run F (run_addi (F.ev rfl) (F.ev rfl) (in_i64 (by omega) (by omega))) rfl ?_; clear F a; intro a F
            refine rl_run F (run_assign (F.ev rfl)) rfl ?_; clear F a; intro a F
            refine rl_nil <| q_tn ?_
            exact ⟨_, by omega, i + 1, true, Xe19, (tae19), (kae19), (tce19), (kce19), rfl, G9, hG9, F.to ⟨rfl, rfl, rfl, rfl, rfl, rfl, rfl, trivial⟩, M, by omega, ⟨fun _ => atF_step (hth.1 rfl) hXe12 rfl hXe19, (fun h9 => by cases h9)⟩, hke19, hle19, SAe19, SKe19⟩
      · intro hc
        have h20b := hc; clear hc
        have h20 : (th) = false := h20b
        refine wp_exit ?_
        iterate 2 (refine q_te ?_)
        refine q_bh <| q_tn <| wp_seq ?_
        have hth9 : th = false := h20b
        · skip
          subst hth9
          have hat9 := hth.2 rfl
          refine w_reg <| rl_run F (run_loadA tok30 rfl (F.ev rfl) (cs := [.int .u8 (xk4.kind), .string (str (xk4.tag)), .string (str (xk4.key)), .slice (tak4) (xk4.as.length) (tck4), .string (str (xk4.text)), .slice (kak4) (xk4.kids.length) (kck4)]) rfl (M.cellsL (k := 1) rfl rfl)) rfl ?_; clear F a; intro a F
          refine rl_run F (run_move (F.ev rfl)) rfl ?_; clear F a; intro a F
          refine rl_call F ent15 rfl rfl (at_at (x := xk4) (ps := ps) (y := zeroN) (e := 11) M hkk4 hlk4 SAk4 SKk4 SP ⟨(at_none hVk4 hat9).2, (at_none hVk4 hat9).1⟩) ?_; clear F M a; rintro _ Gk21 w a hGk21 M ⟨tak21, kak21, rfl, hkk21, hlk21, SAk21, SKk21⟩ F
          replace S := S.mono mono_rdB hGk21
          replace SP := SP.mono mono_rdI hGk21
          replace SAk4 := SAk4.mono mono_rdAttr hGk21
          replace SKk4 := SKk4.mono mono_rdN hGk21
          replace SAy := SAy.mono mono_rdAttr hGk21
          replace SKy := SKy.mono mono_rdN hGk21
          refine rl_run F (run_move (F.ev rfl)) rfl ?_; clear F a; intro a F
          refine rl_run F (run_extract (v := .agg #[.int .u8 (zeroN.kind), .string (str (zeroN.tag)), .string (str (zeroN.key)), .slice (tak21) (zeroN.as.length) (zeroN.as.length), .string (str (zeroN.text)), .slice (kak21) (zeroN.kids.length) (zeroN.kids.length)]) (F.ev rfl) rfl) rfl ?_; clear F a; intro a F
          refine rl_run F (run_extract (v := .int .i64 (11)) (F.ev rfl) rfl) rfl ?_; clear F a; intro a F
          refine rl_alloc F M tok30 rfl rfl ?_; clear F M a; intro b22 w a M F
          refine rl_storeA F M tok30 (k := 0) rfl rfl rfl (us := [.int .u8 (zeroN.kind), .string (str (zeroN.tag)), .string (str (zeroN.key)), .slice (tak21) (zeroN.as.length) (zeroN.as.length), .string (str (zeroN.text)), .slice (kak21) (zeroN.kids.length) (zeroN.kids.length)]) rfl rfl (by simp [Value.oneCell']) (by simp) ?_; clear F M a; intro w a M F
          change Mem w0 Gk21 (.blk b22 [.int .u8 (zeroN.kind), .string (str (zeroN.tag)), .string (str (zeroN.key)), .slice (tak21) (zeroN.as.length) (zeroN.as.length), .string (str (zeroN.text)), .slice (kak21) (zeroN.kids.length) (zeroN.kids.length)] 30 :: .blk b7 [.int .u8 (y.kind), .string (str (y.tag)), .string (str (y.key)), .slice (tay) (y.as.length) (tcy), .string (str (y.text)), .slice (kay) (y.kids.length) (kcy)] 30 :: .blk b5 [.int .u8 (xk4.kind), .string (str (xk4.tag)), .string (str (xk4.key)), .slice (tak4) (xk4.as.length) (tck4), .string (str (xk4.text)), .slice (kak4) (xk4.kids.length) (kck4)] 30 :: .blk b1 [.int .u8 (((pt : Nat) : Int)), .int .u8 (((psl : Nat) : Int)), .slice (ca) (cs.length) (cc)] 24 :: L) _ at M
          refine rl_run F (run_assign (F.ev rfl)) rfl ?_; clear F a; intro a F
          refine rl_nil <| q_tn ?_
          iterate 2 (refine wp_seq ?_)
          refine w_reg <| rl_run F (run_move (F.ev rfl)) rfl ?_; clear F a; intro a F
          refine rl_run F (run_not (F.ev rfl)) rfl ?_; clear F a; intro a F
          refine rl_nil <| q_tn <| w_cond_t F rfl rfl ?_
          refine wp_seq <| w_reg <| rl_run F (run_move (F.ev rfl)) rfl ?_; clear F a; intro a F
          refine rl_run F (run_eqi (F.ev rfl) (F.ev rfl)) rfl ?_; clear F a; intro a F
          refine rl_run F (run_move (F.ev rfl)) rfl ?_; clear F a; intro a F
          refine rl_guard_t F rfl rfl rfl (decide_eq_true (by decide)) ?_
          refine rl_run F (run_loadA tok30 rfl (F.ev rfl) (cs := [.int .u8 (zeroN.kind), .string (str (zeroN.tag)), .string (str (zeroN.key)), .slice (tak21) (zeroN.as.length) (zeroN.as.length), .string (str (zeroN.text)), .slice (kak21) (zeroN.kids.length) (zeroN.kids.length)]) rfl (M.cellsL (k := 0) rfl rfl)) rfl ?_; clear F a; intro a F
          refine rl_guard_t F rfl rfl rfl (decide_eq_true (by decide)) ?_
          refine rl_callS F ent16 rfl rfl (nzero_spec (x := zeroN) M hkk21 hlk21 SAk21 (weakN SKk21)) ?_; clear F M a; rintro _ w a M rfl F
          rw [zerF_yes] at F
          refine rl_guard_t F rfl rfl rfl (decide_eq_true (by decide)) ?_
          refine rl_run F (run_eqi (F.ev rfl) (F.ev rfl)) rfl ?_; clear F a; intro a F
          refine rl_run F (run_pick_t (F.ev rfl) (decide_eq_true (by decide)) (F.ev rfl)) rfl ?_; clear F a; intro a F
          refine rl_run F (run_move (F.ev rfl)) rfl ?_; clear F a; intro a F
          refine rl_guard_t F rfl rfl rfl (decide_eq_true (by decide)) ?_
          refine rl_callS F ent13 rfl rfl (nlives_spec M) ?_; clear F M a; rintro _ w a M rfl F
          refine rl_run F (run_pick_t (F.ev rfl) (decide_eq_true (by decide)) (F.ev rfl)) rfl ?_; clear F a; intro a F
          refine rl_run F (run_assign (F.ev rfl)) rfl ?_; clear F a; intro a F
          refine rl_nil <| q_tn <| wp_ret <| q_tr <| fin1 F rfl rfl ?_
          exact ⟨_, ((hGk4.trans hG9).trans hGk21), M.weaken (.cons _ (.cons _ (.cons _ (.cons _ (List.Sublist.refl _))))), by rfl⟩
    · skip
      have h24b := hc; clear hc
      have h24 : ¬ (((i : Nat) : Int) < ((ps.length : Nat) : Int)) := of_decide_eq_false h24b
      refine rl_guard_f F rfl rfl rfl h24b ?_; clear F a; intro a F
      refine rl_run F (run_pick_f (F.ev rfl) h24b (F.ev rfl)) rfl ?_; clear F a; intro a F
      refine rl_nil <| q_tn <| w_cond_f F rfl rfl ?_
      refine wp_exit ?_
      iterate 2 (refine q_te ?_)
      refine q_bh <| q_tn <| wp_seq ?_
      rcases Bool.eq_false_or_eq_true th with hth9 | hth9
      · skip
        subst hth9
        have hat9 := hth.1 rfl
        rw [List.take_of_length_le (by omega)] at hat9
        have hVy := valid_at _ _ _ hVk4 hat9
        refine w_reg <| rl_run F (run_loadA tok30 rfl (F.ev rfl) (cs := [.int .u8 (xk4.kind), .string (str (xk4.tag)), .string (str (xk4.key)), .slice (tak4) (xk4.as.length) (tck4), .string (str (xk4.text)), .slice (kak4) (xk4.kids.length) (kck4)]) rfl (M.cellsL (k := 1) rfl rfl)) rfl ?_; clear F a; intro a F
        refine rl_run F (run_move (F.ev rfl)) rfl ?_; clear F a; intro a F
        refine rl_call F ent15 rfl rfl (at_at (x := xk4) (ps := ps) (y := y) (e := 0) M hkk4 hlk4 SAk4 SKk4 SP ⟨(at_some hVk4 hat9).2, (at_some hVk4 hat9).1⟩) ?_; clear F M a; rintro _ Gk25 w a hGk25 M ⟨tak25, kak25, rfl, hkk25, hlk25, SAk25, SKk25⟩ F
        replace S := S.mono mono_rdB hGk25
        replace SP := SP.mono mono_rdI hGk25
        replace SAk4 := SAk4.mono mono_rdAttr hGk25
        replace SKk4 := SKk4.mono mono_rdN hGk25
        replace SAy := SAy.mono mono_rdAttr hGk25
        replace SKy := SKy.mono mono_rdN hGk25
        refine rl_run F (run_move (F.ev rfl)) rfl ?_; clear F a; intro a F
        refine rl_run F (run_extract (v := .agg #[.int .u8 (y.kind), .string (str (y.tag)), .string (str (y.key)), .slice (tak25) (y.as.length) (y.as.length), .string (str (y.text)), .slice (kak25) (y.kids.length) (y.kids.length)]) (F.ev rfl) rfl) rfl ?_; clear F a; intro a F
        refine rl_run F (run_extract (v := .int .i64 (0)) (F.ev rfl) rfl) rfl ?_; clear F a; intro a F
        refine rl_alloc F M tok30 rfl rfl ?_; clear F M a; intro b26 w a M F
        refine rl_storeA F M tok30 (k := 0) rfl rfl rfl (us := [.int .u8 (y.kind), .string (str (y.tag)), .string (str (y.key)), .slice (tak25) (y.as.length) (y.as.length), .string (str (y.text)), .slice (kak25) (y.kids.length) (y.kids.length)]) rfl rfl (by simp [Value.oneCell']) (by simp) ?_; clear F M a; intro w a M F
        change Mem w0 Gk25 (.blk b26 [.int .u8 (y.kind), .string (str (y.tag)), .string (str (y.key)), .slice (tak25) (y.as.length) (y.as.length), .string (str (y.text)), .slice (kak25) (y.kids.length) (y.kids.length)] 30 :: .blk b7 [.int .u8 (y.kind), .string (str (y.tag)), .string (str (y.key)), .slice (tay) (y.as.length) (tcy), .string (str (y.text)), .slice (kay) (y.kids.length) (kcy)] 30 :: .blk b5 [.int .u8 (xk4.kind), .string (str (xk4.tag)), .string (str (xk4.key)), .slice (tak4) (xk4.as.length) (tck4), .string (str (xk4.text)), .slice (kak4) (xk4.kids.length) (kck4)] 30 :: .blk b1 [.int .u8 (((pt : Nat) : Int)), .int .u8 (((psl : Nat) : Int)), .slice (ca) (cs.length) (cc)] 24 :: L) _ at M
        refine rl_run F (run_assign (F.ev rfl)) rfl ?_; clear F a; intro a F
        refine rl_nil <| q_tn ?_
        iterate 2 (refine wp_seq ?_)
        refine w_reg <| rl_run F (run_move (F.ev rfl)) rfl ?_; clear F a; intro a F
        refine rl_run F (run_not (F.ev rfl)) rfl ?_; clear F a; intro a F
        refine rl_nil <| q_tn <| w_cond_f F rfl rfl ?_
        refine wp_skip <| q_tn <| wp_seq ?_
        have bKy9 := SKy.bound
        refine w_reg <| rl_run F (run_assign (F.ev rfl)) rfl ?_; clear F a; intro a F
        refine rl_nil <| q_tn ?_
        iterate 2 (refine wp_seq ?_)
        refine w_reg <| rl_run F (run_assign (F.ev rfl)) rfl ?_; clear F a; intro a F
        refine rl_nil <| q_tn <| wp_block <| w_loopN (fun m a' w' => ∃ (j : Nat), ∃ (sm : Nat), m = y.kids.length - j ∧ Fits 107 a' [(4, .bool false), (5, .pointer (some ⟨b5, 0, none⟩)), (6, .pointer (some ⟨b7, 0, none⟩)), (9, .pointer (some ⟨b26, 0, none⟩)), (10, .int .i64 (0)), (11, .int .i64 (((sm : Nat) : Int))), (12, .int .i64 (((j : Nat) : Int)))] ∧ Mem w0 Gk25 (.blk b26 [.int .u8 (y.kind), .string (str (y.tag)), .string (str (y.key)), .slice (tak25) (y.as.length) (y.as.length), .string (str (y.text)), .slice (kak25) (y.kids.length) (y.kids.length)] 30 :: .blk b7 [.int .u8 (y.kind), .string (str (y.tag)), .string (str (y.key)), .slice (tay) (y.as.length) (tcy), .string (str (y.text)), .slice (kay) (y.kids.length) (kcy)] 30 :: .blk b5 [.int .u8 (xk4.kind), .string (str (xk4.tag)), .string (str (xk4.key)), .slice (tak4) (xk4.as.length) (tck4), .string (str (xk4.text)), .slice (kak4) (xk4.kids.length) (kck4)] 30 :: .blk b1 [.int .u8 (((pt : Nat) : Int)), .int .u8 (((psl : Nat) : Int)), .slice (ca) (cs.length) (cc)] 24 :: L) w' ∧ (j ≤ y.kids.length) ∧ (sm = 1 + Tr.sizes (y.kids.take j))) _ ⟨0, 1, rfl, F.to ⟨rfl, rfl, rfl, rfl, rfl, rfl, rfl, trivial⟩, M, Nat.zero_le _, by simp [Tr.sizes]⟩ ?_
        clear F M
        rintro m a w ⟨j, sm, rfl, F, M, hj, hsm⟩
        iterate 2 (refine wp_seq ?_)
        refine w_reg <| rl_run F (run_move (F.ev rfl)) rfl ?_; clear F a; intro a F
        refine rl_run F (run_fieldAddr tok30.k rfl rfl (F.ev rfl)) rfl ?_; clear F a; intro a F
        refine rl_run F (run_load1 (agf tok28 rfl) (F.ev rfl) (M.cellL (k := 1) rfl rfl)) rfl ?_; clear F a; intro a F
        refine rl_run F (run_lenSl tok28.k (F.ev rfl)) rfl ?_; clear F a; intro a F
        refine rl_run F (run_lss (F.ev rfl) (F.ev rfl)) rfl ?_; clear F a; intro a F
        refine rl_nil <| q_tn <| w_cond F rfl ?_ ?_
        · intro hc
          have h28b := hc; clear hc
          have h28 : ((j : Nat) : Int) < ((y.kids.length : Nat) : Int) := of_decide_eq_true h28b
          refine wp_skip <| q_tn <| wp_seq <| wp_block <| w_reg <| rl_run F (run_move (F.ev rfl)) rfl ?_; clear F a; intro a F
          refine rl_run F (run_fieldAddr tok30.k rfl rfl (F.ev rfl)) rfl ?_; clear F a; intro a F
          refine rl_run F (run_load1 (agf tok28 rfl) (F.ev rfl) (M.cellL (k := 1) rfl rfl)) rfl ?_; clear F a; intro a F
          refine rl_run F (run_move (F.ev rfl)) rfl ?_; clear F a; intro a F
          obtain ⟨Xe29, hXe29⟩ := get_of_lt (xs := y.kids) (i := j) (by omega)
          obtain ⟨be29, oe29, _, Ie29, _, Ae29, hTe29⟩ := SKy.at hXe29
          obtain ⟨tae29, tce29, kae29, kce29, rfl, hke29, hle29, SAe29, SKe29⟩ := rdT_open hTe29
          refine rl_run F (run_indexI tok28.k tok30 (F.ev rfl) (F.ev rfl) (by omega) Ie29) rfl ?_; clear F a; intro a F
          refine rl_run F (run_loadA tok30 rfl (F.ev rfl) (cs := [.int .u8 (Xe29.kind), .string (str (Xe29.tag)), .string (str (Xe29.key)), .slice (tae29) (Xe29.as.length) (tce29), .string (str (Xe29.text)), .slice (kae29) (Xe29.kids.length) (kce29)]) rfl (M.cellsA Ae29 0 (by omega) rfl)) rfl ?_; clear F a; intro a F
          have hsz9 := sizes_kid hXe29
          have hsz8 := hVy.2
          have hsz7 := cntF_size (valid_kid hVy (List.mem_of_getElem? hXe29))
          refine rl_callS F ent17 rfl rfl (ncount_spec (x := Xe29) M hke29 hle29 SAe29 SKe29) ?_; clear F M a; rintro _ w a M rfl F
          refine rl_run F (run_addi (F.ev rfl) (F.ev rfl) (in_i64 (by omega) (by omega))) rfl ?_; clear F a; intro a F
          refine rl_run F (run_assign (F.ev rfl)) rfl ?_; clear F a; intro a F
          refine rl_nil <| q_bn <| q_tn <| w_reg <| rl_run F (run_move (F.ev rfl)) rfl ?_; clear F a; intro a F
          refine rl_run F (run_addi (F.ev rfl) (F.ev rfl) (in_i64 (by omega) (by omega))) rfl ?_; clear F a; intro a F
          refine rl_run F (run_assign (F.ev rfl)) rfl ?_; clear F a; intro a F
          refine rl_nil <| q_tn ?_
          exact ⟨_, by omega, j + 1, (sm + (cntF Xe29)), rfl, F.to ⟨rfl, rfl, rfl, rfl, rfl, rfl, rfl, trivial⟩, M, by omega, by rw [hsm, Tr.sizes_snoc hXe29, cntF_size (valid_kid hVy (List.mem_of_getElem? hXe29))]; omega⟩
        · intro hc
          have h30b := hc; clear hc
          have h30 : ¬ (((j : Nat) : Int) < ((y.kids.length : Nat) : Int)) := of_decide_eq_false h30b
          refine wp_exit ?_
          iterate 2 (refine q_te ?_)
          refine q_bh <| q_tn <| wp_seq <| w_reg <| rl_run F (run_move (F.ev rfl)) rfl ?_; clear F a; intro a F
          refine rl_run F (run_eqi (F.ev rfl) (F.ev rfl)) rfl ?_; clear F a; intro a F
          refine rl_run F (run_move (F.ev rfl)) rfl ?_; clear F a; intro a F
          refine rl_guard_t F rfl rfl rfl (decide_eq_true (by decide)) ?_
          refine rl_run F (run_loadA tok30 rfl (F.ev rfl) (cs := [.int .u8 (y.kind), .string (str (y.tag)), .string (str (y.key)), .slice (tak25) (y.as.length) (y.as.length), .string (str (y.text)), .slice (kak25) (y.kids.length) (y.kids.length)]) rfl (M.cellsL (k := 0) rfl rfl)) rfl ?_; clear F a; intro a F
          refine rl_guard_t F rfl rfl rfl (decide_eq_true (by decide)) ?_
          refine rl_run F (run_loadA tok30 rfl (F.ev rfl) (cs := [.int .u8 (y.kind), .string (str (y.tag)), .string (str (y.key)), .slice (tay) (y.as.length) (tcy), .string (str (y.text)), .slice (kay) (y.kids.length) (kcy)]) rfl (M.cellsL (k := 1) rfl rfl)) rfl ?_; clear F a; intro a F
          refine rl_guard_t F rfl rfl rfl (decide_eq_true (by decide)) ?_
          refine rl_callS F ent18 rfl rfl (rsame_spec (x := y) (u := y) M hkk25 hlk25 SAk25 (weakN SKk25) hky hly SAy SKy) ?_; clear F M a; rintro _ w a M rfl F
          refine rl_guard_t F rfl rfl rfl (decide_eq_true (by decide)) ?_
          refine rl_run F (run_eqi (F.ev rfl) (F.ev rfl)) rfl ?_; clear F a; intro a F
          refine rl_run F (run_pick_t (F.ev rfl) (decide_eq_true (by decide)) (F.ev rfl)) rfl ?_; clear F a; intro a F
          refine rl_run F (run_move (F.ev rfl)) rfl ?_; clear F a; intro a F
          refine rl_guard_t F rfl rfl rfl (decide_eq_true (sameF_yes ⟨hVy, hVy, rfl⟩)) ?_
          refine rl_run F (run_loadA tok30 rfl (F.ev rfl) (cs := [.int .u8 (y.kind), .string (str (y.tag)), .string (str (y.key)), .slice (tak25) (y.as.length) (y.as.length), .string (str (y.text)), .slice (kak25) (y.kids.length) (y.kids.length)]) rfl (M.cellsL (k := 0) rfl rfl)) rfl ?_; clear F a; intro a F
          refine rl_guard_t F rfl rfl rfl (decide_eq_true (sameF_yes ⟨hVy, hVy, rfl⟩)) ?_
          refine rl_callS F ent19 rfl rfl (nown_all y _ _ _ _ _ _ M SAk25 SKk25) ?_; clear F M a; rintro _ w a M rfl F
          refine rl_guard_t F rfl rfl rfl (decide_eq_true (sameF_yes ⟨hVy, hVy, rfl⟩)) ?_
          refine rl_run F (run_eqi (F.ev rfl) (F.ev rfl)) rfl ?_; clear F a; intro a F
          refine rl_run F (run_pick_t (F.ev rfl) (decide_eq_true (sameF_yes ⟨hVy, hVy, rfl⟩)) (F.ev rfl)) rfl ?_; clear F a; intro a F
          refine rl_run F (run_move (F.ev rfl)) rfl ?_; clear F a; intro a F
          refine rl_guard_t F rfl rfl rfl (decide_eq_true (by decide)) ?_
          refine rl_run F (run_loadA tok30 rfl (F.ev rfl) (cs := [.int .u8 (y.kind), .string (str (y.tag)), .string (str (y.key)), .slice (tay) (y.as.length) (tcy), .string (str (y.text)), .slice (kay) (y.kids.length) (kcy)]) rfl (M.cellsL (k := 1) rfl rfl)) rfl ?_; clear F a; intro a F
          refine rl_guard_t F rfl rfl rfl (decide_eq_true (by decide)) ?_
          refine rl_callS F ent17 rfl rfl (ncount_spec (x := y) M hky hly SAy SKy) ?_; clear F M a; rintro _ w a M rfl F
          refine rl_guard_t F rfl rfl rfl (decide_eq_true (by decide)) ?_
          refine rl_run F (run_move (F.ev rfl)) rfl ?_; clear F a; intro a F
          refine rl_guard_t F rfl rfl rfl (decide_eq_true (by decide)) ?_
          refine rl_run F (run_eqi (F.ev rfl) (F.ev rfl)) rfl ?_; clear F a; intro a F
          refine rl_run F (run_pick_t (F.ev rfl) (decide_eq_true (by decide)) (F.ev rfl)) rfl ?_; clear F a; intro a F
          refine rl_run F (run_move (F.ev rfl)) rfl ?_; clear F a; intro a F
          refine rl_guard_t F rfl rfl rfl (decide_eq_true (by have h9 := cntF_size hVy; have h8 := sizes_full (x := y) (i := j) (by omega); omega)) ?_
          refine rl_callS F ent13 rfl rfl (nlives_spec M) ?_; clear F M a; rintro _ w a M rfl F
          refine rl_run F (run_pick_t (F.ev rfl) (decide_eq_true (by have h9 := cntF_size hVy; have h8 := sizes_full (x := y) (i := j) (by omega); omega)) (F.ev rfl)) rfl ?_; clear F a; intro a F
          refine rl_run F (run_assign (F.ev rfl)) rfl ?_; clear F a; intro a F
          refine rl_nil <| q_tn <| wp_ret <| fin1 F rfl rfl ?_
          exact ⟨_, ((hGk4.trans hG9).trans hGk25), M.weaken (.cons _ (.cons _ (.cons _ (.cons _ (List.Sublist.refl _))))), by rfl⟩
      · skip
        subst hth9
        have hat9 := hth.2 rfl
        refine w_reg <| rl_run F (run_loadA tok30 rfl (F.ev rfl) (cs := [.int .u8 (xk4.kind), .string (str (xk4.tag)), .string (str (xk4.key)), .slice (tak4) (xk4.as.length) (tck4), .string (str (xk4.text)), .slice (kak4) (xk4.kids.length) (kck4)]) rfl (M.cellsL (k := 1) rfl rfl)) rfl ?_; clear F a; intro a F
        refine rl_run F (run_move (F.ev rfl)) rfl ?_; clear F a; intro a F
        refine rl_call F ent15 rfl rfl (at_at (x := xk4) (ps := ps) (y := zeroN) (e := 11) M hkk4 hlk4 SAk4 SKk4 SP ⟨(at_none hVk4 hat9).2, (at_none hVk4 hat9).1⟩) ?_; clear F M a; rintro _ Gk31 w a hGk31 M ⟨tak31, kak31, rfl, hkk31, hlk31, SAk31, SKk31⟩ F
        replace S := S.mono mono_rdB hGk31
        replace SP := SP.mono mono_rdI hGk31
        replace SAk4 := SAk4.mono mono_rdAttr hGk31
        replace SKk4 := SKk4.mono mono_rdN hGk31
        replace SAy := SAy.mono mono_rdAttr hGk31
        replace SKy := SKy.mono mono_rdN hGk31
        refine rl_run F (run_move (F.ev rfl)) rfl ?_; clear F a; intro a F
        refine rl_run F (run_extract (v := .agg #[.int .u8 (zeroN.kind), .string (str (zeroN.tag)), .string (str (zeroN.key)), .slice (tak31) (zeroN.as.length) (zeroN.as.length), .string (str (zeroN.text)), .slice (kak31) (zeroN.kids.length) (zeroN.kids.length)]) (F.ev rfl) rfl) rfl ?_; clear F a; intro a F
        refine rl_run F (run_extract (v := .int .i64 (11)) (F.ev rfl) rfl) rfl ?_; clear F a; intro a F
        refine rl_alloc F M tok30 rfl rfl ?_; clear F M a; intro b32 w a M F
        refine rl_storeA F M tok30 (k := 0) rfl rfl rfl (us := [.int .u8 (zeroN.kind), .string (str (zeroN.tag)), .string (str (zeroN.key)), .slice (tak31) (zeroN.as.length) (zeroN.as.length), .string (str (zeroN.text)), .slice (kak31) (zeroN.kids.length) (zeroN.kids.length)]) rfl rfl (by simp [Value.oneCell']) (by simp) ?_; clear F M a; intro w a M F
        change Mem w0 Gk31 (.blk b32 [.int .u8 (zeroN.kind), .string (str (zeroN.tag)), .string (str (zeroN.key)), .slice (tak31) (zeroN.as.length) (zeroN.as.length), .string (str (zeroN.text)), .slice (kak31) (zeroN.kids.length) (zeroN.kids.length)] 30 :: .blk b7 [.int .u8 (y.kind), .string (str (y.tag)), .string (str (y.key)), .slice (tay) (y.as.length) (tcy), .string (str (y.text)), .slice (kay) (y.kids.length) (kcy)] 30 :: .blk b5 [.int .u8 (xk4.kind), .string (str (xk4.tag)), .string (str (xk4.key)), .slice (tak4) (xk4.as.length) (tck4), .string (str (xk4.text)), .slice (kak4) (xk4.kids.length) (kck4)] 30 :: .blk b1 [.int .u8 (((pt : Nat) : Int)), .int .u8 (((psl : Nat) : Int)), .slice (ca) (cs.length) (cc)] 24 :: L) _ at M
        refine rl_run F (run_assign (F.ev rfl)) rfl ?_; clear F a; intro a F
        refine rl_nil <| q_tn ?_
        iterate 2 (refine wp_seq ?_)
        refine w_reg <| rl_run F (run_move (F.ev rfl)) rfl ?_; clear F a; intro a F
        refine rl_run F (run_not (F.ev rfl)) rfl ?_; clear F a; intro a F
        refine rl_nil <| q_tn <| w_cond_t F rfl rfl ?_
        refine wp_seq <| w_reg <| rl_run F (run_move (F.ev rfl)) rfl ?_; clear F a; intro a F
        refine rl_run F (run_eqi (F.ev rfl) (F.ev rfl)) rfl ?_; clear F a; intro a F
        refine rl_run F (run_move (F.ev rfl)) rfl ?_; clear F a; intro a F
        refine rl_guard_t F rfl rfl rfl (decide_eq_true (by decide)) ?_
        refine rl_run F (run_loadA tok30 rfl (F.ev rfl) (cs := [.int .u8 (zeroN.kind), .string (str (zeroN.tag)), .string (str (zeroN.key)), .slice (tak31) (zeroN.as.length) (zeroN.as.length), .string (str (zeroN.text)), .slice (kak31) (zeroN.kids.length) (zeroN.kids.length)]) rfl (M.cellsL (k := 0) rfl rfl)) rfl ?_; clear F a; intro a F
        refine rl_guard_t F rfl rfl rfl (decide_eq_true (by decide)) ?_
        refine rl_callS F ent16 rfl rfl (nzero_spec (x := zeroN) M hkk31 hlk31 SAk31 (weakN SKk31)) ?_; clear F M a; rintro _ w a M rfl F
        rw [zerF_yes] at F
        refine rl_guard_t F rfl rfl rfl (decide_eq_true (by decide)) ?_
        refine rl_run F (run_eqi (F.ev rfl) (F.ev rfl)) rfl ?_; clear F a; intro a F
        refine rl_run F (run_pick_t (F.ev rfl) (decide_eq_true (by decide)) (F.ev rfl)) rfl ?_; clear F a; intro a F
        refine rl_run F (run_move (F.ev rfl)) rfl ?_; clear F a; intro a F
        refine rl_guard_t F rfl rfl rfl (decide_eq_true (by decide)) ?_
        refine rl_callS F ent13 rfl rfl (nlives_spec M) ?_; clear F M a; rintro _ w a M rfl F
        refine rl_run F (run_pick_t (F.ev rfl) (decide_eq_true (by decide)) (F.ev rfl)) rfl ?_; clear F a; intro a F
        refine rl_run F (run_assign (F.ev rfl)) rfl ?_; clear F a; intro a F
        refine rl_nil <| q_tn <| wp_ret <| q_tr <| fin1 F rfl rfl ?_
        exact ⟨_, ((hGk4.trans hG9).trans hGk31), M.weaken (.cons _ (.cons _ (.cons _ (.cons _ (List.Sublist.refl _))))), by rfl⟩
theorem nodesAt_law {w0 w : World} {G : Ghost} {L : List Res} (M : Mem w0 G L w) {ca : Option Addr} {cc : Nat} {cs : List UInt8} (S : RdSl rdB 1 G (.slice ca cs.length cc) cs) {n0 n1 : Int} (k0 : inKind .u8 n0) (k1 : inKind .u8 n1) {pa : Option Addr} {pc : Nat} {ps : List Int} (SP : RdSl rdI 1 G (.slice pa ps.length pc) ps) : Calls Tryz.prog 3 #[.agg #[.int .u8 n0, .int .u8 n1, .slice ca cs.length cc], .slice pa ps.length pc] w (RetS w0 G L fun v => v = .bool true) := by
  obtain ⟨pt, rfl, hpt⟩ := u8_natN k0
  obtain ⟨psl, rfl, hps⟩ := u8_natN k1
  exact Ret.plain M (nodesAt_ret M S hpt hps SP)
end Go.Proofs.YtlnehkjmmegkhaaGreat
