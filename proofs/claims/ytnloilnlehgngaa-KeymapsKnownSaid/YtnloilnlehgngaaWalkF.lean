/- The walks, part F. -/
import Derived.Test.YtnloilnlehgngaaWalkE
import Derived.Test.YtnloilnlehgngaaRun
import Derived.Test.YtnloilnlehgngaaWid
namespace Go.Proofs.Ytnloilnlehgngaa
open Go Go.Y Go.Proofs
set_option linter.unusedSimpArgs false
set_option linter.unusedVariables false
theorem of_spec {w0 w : World} {G : Ghost} {L : List Res} (M : Mem w0 G L w) {ao : Option Addr} {co : Nat} {xs : List StepD} (S : RdSl rdStep 3 G (.slice ao xs.length co) xs) (hxl : xs.length ≤ 9223372036854775807) :
    Calls Try.prog 18 #[.agg #[.slice ao xs.length co]] w (RetL w0 G fun L' v => ∃ b, v = .pointer (some ⟨b, 0, none⟩) ∧ KmIs b G (runF (xs.take 80)) 80 L L') := by
  refine calls_start (vs := [_]) Try.func18 rfl (n := 46) rfl rfl ?_
  intro a F
  refine wp_seq ?_
  refine w_reg ?_
  refine rl_box F M rfl (cs := [.slice (ao) (xs.length) (co)]) rfl rfl ?_; clear F M a; intro b1 w a M F
  refine rl_run F (run_assign (F.ev rfl)) rfl ?_; clear F a; intro a F
  refine rl_nil ?_
  refine q_tn ?_
  refine wp_seq ?_
  refine w_reg ?_
  refine rl_callL F ent10 rfl rfl (new_spec M) ?_; clear F M a; rintro _ _ w a M ⟨bm2, rfl, adm2, nm2, cm2, manym2, tombsm2, csm2, sm2, rfl, hnm2, Em2, Km2⟩ F
  have hmm2 : manym2 = 0 := Km2.many
  have hzm2 : nm2 = 0 := by rw [hnm2]; exact Km2.small.2 rfl
  refine rl_run F (run_assign (F.ev rfl)) rfl ?_; clear F a; intro a F
  refine rl_nil ?_
  refine q_tn ?_
  refine wp_seq ?_
  refine wp_seq ?_
  refine w_reg ?_
  refine rl_run F (run_assign (F.ev rfl)) rfl ?_; clear F a; intro a F
  refine rl_nil ?_
  refine q_tn ?_
  refine wp_block ?_
  refine w_loopN (fun m a' w' => ∃ (i : Nat), ∃ (adm : Option Addr), ∃ (nm : Nat), ∃ (cm : Nat), ∃ (manym : Int), ∃ (tombsm : Int), ∃ (csm : List Value), ∃ (sm : List SlotD), m = xs.length - i ∧ Fits 46 a' [(1, .pointer (some ⟨b1, 0, none⟩)), (3, .pointer (some ⟨bm2, 0, none⟩)), (4, .int .i64 (((i : Nat) : Int)))] ∧ Mem w0 G (.blk bm2 [.slice (adm) (nm) (cm), .int .i64 (manym), .int .i64 (tombsm)] 55 :: .row (.slice (adm) (nm) (cm)) (nm) (csm) 58 3 :: .blk b1 [.slice (ao) (xs.length) (co)] 45 :: L) w' ∧ (i ≤ xs.length ∧ i ≤ 80) ∧ (nm = sm.length) ∧ (Els rdSlot 3 G csm sm) ∧ (KOK sm manym tombsm (runF (xs.take i)) (80))) _ ⟨0, (adm2), (nm2), (cm2), (manym2), (tombsm2), (csm2), (sm2), rfl, F.to ⟨rfl, rfl, rfl, trivial⟩, M, by omega, hnm2, Em2, Km2.more (by omega)⟩ ?_
  clear F M
  rintro m a w ⟨i, adm, nm, cm, manym, tombsm, csm, sm, rfl, F, M, hi, hnm, Em, Km⟩
  refine wp_seq ?_
  refine wp_seq ?_
  refine w_reg ?_
  refine rl_run F (run_move (F.ev rfl)) rfl ?_; clear F a; intro a F
  refine rl_run F (run_fieldAddr tok45.k rfl rfl (F.ev rfl)) rfl ?_; clear F a; intro a F
  refine rl_run F (run_load1 (agf tok22 rfl) (F.ev rfl) (M.cellL (k := 2) rfl rfl)) rfl ?_; clear F a; intro a F
  refine rl_run F (run_lenSl tok22.k (F.ev rfl)) rfl ?_; clear F a; intro a F
  refine rl_run F (run_lss (F.ev rfl) (F.ev rfl)) rfl ?_; clear F a; intro a F
  refine rl_run F (run_move (F.ev rfl)) rfl ?_; clear F a; intro a F
  rcases Bool.eq_false_or_eq_true (decide (((i : Nat) : Int) < ((xs.length : Nat) : Int))) with hc | hc
  · skip
    have h3b := hc; clear hc
    have h3 : ((i : Nat) : Int) < ((xs.length : Nat) : Int) := of_decide_eq_true h3b
    refine rl_guard_t F rfl rfl rfl h3b ?_
    refine rl_run F (run_move (F.ev rfl)) rfl ?_; clear F a; intro a F
    refine rl_guard_t F rfl rfl rfl h3b ?_
    refine rl_run F (run_lss (F.ev rfl) (F.ev rfl)) rfl ?_; clear F a; intro a F
    refine rl_run F (run_pick_t (F.ev rfl) h3b (F.ev rfl)) rfl ?_; clear F a; intro a F
    refine rl_nil ?_
    refine q_tn ?_
    refine w_cond F rfl ?_ ?_
    · intro hc
      have h4b := hc; clear hc
      have h4 : ((i : Nat) : Int) < 80 := of_decide_eq_true h4b
      refine wp_skip ?_
      refine q_tn ?_
      refine wp_seq ?_
      refine wp_block ?_
      refine wp_seq ?_
      refine w_reg ?_
      refine rl_run F (run_fieldAddr tok45.k rfl rfl (F.ev rfl)) rfl ?_; clear F a; intro a F
      refine rl_run F (run_load1 (agf tok22 rfl) (F.ev rfl) (M.cellL (k := 2) rfl rfl)) rfl ?_; clear F a; intro a F
      refine rl_run F (run_move (F.ev rfl)) rfl ?_; clear F a; intro a F
      obtain ⟨Xe5, hXe5⟩ := get_of_lt (xs := xs) (i := i) (by omega)
      obtain ⟨be5, oe5, _, Ie5, _, Ae5, ⟨rfl, hbe51, hbe52⟩⟩ := S.at hXe5
      refine rl_run F (run_indexI tok22.k tok29 (F.ev rfl) (F.ev rfl) (by omega) Ie5) rfl ?_; clear F a; intro a F
      refine rl_run F (run_fieldAddr tok29.k rfl rfl (F.ev rfl)) rfl ?_; clear F a; intro a F
      refine rl_run F (run_load1 (agf tok4 rfl) (F.ev rfl) (M.cellA Ae5 2 rfl rfl)) rfl ?_; clear F a; intro a F
      refine rl_nil ?_
      refine q_tn ?_
      refine w_cond F rfl ?_ ?_
      · intro hc
        have h6b := hc; clear hc
        have h6 : (Xe5.drop) = true := h6b
        refine w_reg ?_
        refine rl_run F (run_move (F.ev rfl)) rfl ?_; clear F a; intro a F
        refine rl_run F (run_fieldAddr tok45.k rfl rfl (F.ev rfl)) rfl ?_; clear F a; intro a F
        refine rl_run F (run_load1 (agf tok22 rfl) (F.ev rfl) (M.cellL (k := 2) rfl rfl)) rfl ?_; clear F a; intro a F
        refine rl_run F (run_move (F.ev rfl)) rfl ?_; clear F a; intro a F
        obtain ⟨be7, oe7, _, Ie7, _, Ae7, ⟨rfl, hbe71, hbe72⟩⟩ := S.at hXe5
        refine rl_run F (run_indexI tok22.k tok29 (F.ev rfl) (F.ev rfl) (by omega) Ie7) rfl ?_; clear F a; intro a F
        refine rl_run F (run_fieldAddr tok29.k rfl rfl (F.ev rfl)) rfl ?_; clear F a; intro a F
        refine rl_run F (run_load1 (agf tok27 rfl) (F.ev rfl) (M.cellA Ae7 0 rfl rfl)) rfl ?_; clear F a; intro a F
        replace M := M.perm (perm_front _ 1 _ rfl)
        replace M := M.perm (perm_front _ 1 _ rfl)
        change Mem w0 G (.blk bm2 [.slice (adm) (nm) (cm), .int .i64 (manym), .int .i64 (tombsm)] 55 :: .row (.slice (adm) (nm) (cm)) (nm) (csm) 58 3 :: .blk b1 [.slice (ao) (xs.length) (co)] 45 :: L) _ at M
        have hsm8 := dropm_spec (key := Xe5.key) M hnm Em Km
        refine rl_callL F ent12 rfl rfl (hsm8) ?_; clear F M a; rintro _ _ w a M ⟨⟨adm8, nm8, cm8, manym8, tombsm8, csm8, sm8, rfl, hnm8, Em8, Km8⟩, rfl⟩ F
        clear hsm8
        refine rl_nil ?_
        refine q_bn ?_
        refine q_tn ?_
        refine w_reg ?_
        refine rl_run F (run_move (F.ev rfl)) rfl ?_; clear F a; intro a F
        refine rl_run F (run_addi (F.ev rfl) (F.ev rfl) (in_i64 (by omega) (by omega))) rfl ?_; clear F a; intro a F
        refine rl_run F (run_assign (F.ev rfl)) rfl ?_; clear F a; intro a F
        refine rl_nil ?_
        refine q_tn ?_
        exact ⟨_, by omega, i + 1, (adm8), (nm8), (cm8), (manym8), (tombsm8), (csm8), (sm8), rfl, F.to ⟨rfl, rfl, rfl, trivial⟩, M, by omega, hnm8, Em8, by rw [runF_drop hXe5 (by assumption)]; exact Km8⟩
      · intro hc
        have h9b := hc; clear hc
        have h9 : (Xe5.drop) = false := h9b
        refine w_plan [(true, 0), (true, 1), (true, 2), (true, 3), (true, 4), (true, 5), (true, 6), (true, 7), (true, 8), (true, 9), (true, 10), (true, 11), (true, 12), (false, 13)] (Keep G [.blk b1 [.slice (ao) (xs.length) (co)] 45]) rfl (by kernel_rfl) (fun c a d v w h => by cases d <;> exact h) ((M.drew _).keep (Gle.refl _) (by simp)) ?_
        replace M := M.drew (w.drawn + 1)
        refine pl_run F (fun w M => run_move (F.ev rfl)) rfl ?_; clear F a; intro a F
        refine pl_run F (fun w M => run_fieldAddr tok45.k rfl rfl (F.ev rfl)) rfl ?_; clear F a; intro a F
        refine pl_run F (fun w M => run_load1 (agf tok22 rfl) (F.ev rfl) (M.cellL (k := 0) rfl rfl)) rfl ?_; clear F a; intro a F
        refine pl_run F (fun w M => run_move (F.ev rfl)) rfl ?_; clear F a; intro a F
        obtain ⟨be10, oe10, _, Ie10, _, Ae10, ⟨rfl, hbe101, hbe102⟩⟩ := S.at hXe5
        refine pl_run F (fun w M => run_indexI tok22.k tok29 (F.ev rfl) (F.ev rfl) (by omega) Ie10) rfl ?_; clear F a; intro a F
        refine pl_run F (fun w M => run_fieldAddr tok29.k rfl rfl (F.ev rfl)) rfl ?_; clear F a; intro a F
        refine pl_run F (fun w M => run_load1 (agf tok27 rfl) (F.ev rfl) (M.cellA Ae10 0 rfl rfl)) rfl ?_; clear F a; intro a F
        refine pl_run F (fun w M => run_fieldAddr tok45.k rfl rfl (F.ev rfl)) rfl ?_; clear F a; intro a F
        refine pl_run F (fun w M => run_load1 (agf tok22 rfl) (F.ev rfl) (M.cellL (k := 0) rfl rfl)) rfl ?_; clear F a; intro a F
        refine pl_run F (fun w M => run_move (F.ev rfl)) rfl ?_; clear F a; intro a F
        obtain ⟨be11, oe11, _, Ie11, _, Ae11, ⟨rfl, hbe111, hbe112⟩⟩ := S.at hXe5
        refine pl_run F (fun w M => run_indexI tok22.k tok29 (F.ev rfl) (F.ev rfl) (by omega) Ie11) rfl ?_; clear F a; intro a F
        refine pl_run F (fun w M => run_fieldAddr tok29.k rfl rfl (F.ev rfl)) rfl ?_; clear F a; intro a F
        refine pl_run F (fun w M => run_load1 (agf tok3 rfl) (F.ev rfl) (M.cellA Ae11 1 rfl rfl)) rfl ?_; clear F a; intro a F
        refine pl_act ?_ rfl
        replace M := M.perm (perm_front _ 1 _ rfl)
        replace M := M.perm (perm_front _ 1 _ rfl)
        change Mem w0 G (.blk bm2 [.slice (adm) (nm) (cm), .int .i64 (manym), .int .i64 (tombsm)] 55 :: .row (.slice (adm) (nm) (cm)) (nm) (csm) 58 3 :: .blk b1 [.slice (ao) (xs.length) (co)] 45 :: L) _ at M
        have hsm12 := putm_spec (v := Xe5.v) M hnm Em Km (key := Xe5.key) (by first | assumption | exact ⟨by decide, by decide⟩ | exact wrap_ink _ _ | exact in_u64 (by omega) (by omega)) (by first | decide | exact (‹inKind .u64 (Xe5.key)›).1 | omega) (by first | assumption | exact ⟨by decide, by decide⟩ | exact wrap_ink _ _ | exact in_i64 (by omega) (by omega))
        refine rl_callL F ent14 rfl rfl (hsm12) ?_; clear F M a; rintro _ _ w a M ⟨⟨adm12, nm12, cm12, manym12, tombsm12, csm12, sm12, rfl, hnm12, Em12, Km12⟩, rfl⟩ F
        clear hsm12
        replace Km12 := Km12.more (show max 80 ((putF (runF (xs.take i)) Xe5.key Xe5.v).1).length ≤ 80 by (have h1 := runF_le xs i; have h2 := putF_len (runF (xs.take i)) Xe5.key Xe5.v; omega))
        refine rl_nil ?_
        refine ⟨Keep G [.blk b1 [.slice (ao) (xs.length) (co)] 45], M.keep (Gle.refl _) (by simp), fun w h => h.mono (Gle.refl _) (by simp), ?_⟩
        refine pl_nil ?_
        refine q_bn ?_
        refine q_tn ?_
        refine w_reg ?_
        refine rl_run F (run_move (F.ev rfl)) rfl ?_; clear F a; intro a F
        refine rl_run F (run_addi (F.ev rfl) (F.ev rfl) (in_i64 (by omega) (by omega))) rfl ?_; clear F a; intro a F
        refine rl_run F (run_assign (F.ev rfl)) rfl ?_; clear F a; intro a F
        refine rl_nil ?_
        refine q_tn ?_
        exact ⟨_, by omega, i + 1, (adm12), (nm12), (cm12), (manym12), (tombsm12), (csm12), (sm12), rfl, F.to ⟨rfl, rfl, rfl, trivial⟩, M, by omega, hnm12, Em12, by rw [runF_put hXe5 (by assumption)]; exact Km12⟩
    · intro hc
      have h13b := hc; clear hc
      have h13 : ¬ (((i : Nat) : Int) < 80) := of_decide_eq_false h13b
      refine wp_exit ?_
      refine q_te ?_
      refine q_te ?_
      refine q_bh ?_
      refine q_tn ?_
      refine wp_seq ?_
      refine w_reg ?_
      refine rl_run F (run_move (F.ev rfl)) rfl ?_; clear F a; intro a F
      refine rl_run F (run_assign (F.ev rfl)) rfl ?_; clear F a; intro a F
      refine rl_nil ?_
      refine q_tn ?_
      refine wp_ret ?_
      refine fin1 F rfl rfl ?_
      replace M := M.perm (perm_front _ 1 _ rfl)
      replace M := M.perm (perm_front _ 1 _ rfl)
      change Mem w0 G (.blk bm2 [.slice (adm) (nm) (cm), .int .i64 (manym), .int .i64 (tombsm)] 55 :: .row (.slice (adm) (nm) (cm)) (nm) (csm) 58 3 :: .blk b1 [.slice (ao) (xs.length) (co)] 45 :: L) _ at M
      have hfin := runF_fin (xs := xs) (i := i) (by omega) hi.1
      exact ⟨_, M.weaken (.cons_cons _ (.cons_cons _ (.cons _ (List.Sublist.refl _)))), _, rfl, _, _, _, _, _, _, _, rfl, hnm, Em, by rw [← hfin]; exact Km⟩
  · skip
    have h14b := hc; clear hc
    have h14 : ¬ (((i : Nat) : Int) < ((xs.length : Nat) : Int)) := of_decide_eq_false h14b
    refine rl_guard_f F rfl rfl rfl h14b ?_; clear F a; intro a F
    refine rl_guard_f F rfl rfl rfl h14b ?_; clear F a; intro a F
    refine rl_run F (run_pick_f (F.ev rfl) h14b (F.ev rfl)) rfl ?_; clear F a; intro a F
    refine rl_nil ?_
    refine q_tn ?_
    refine w_cond_f F rfl rfl ?_
    refine wp_exit ?_
    refine q_te ?_
    refine q_te ?_
    refine q_bh ?_
    refine q_tn ?_
    refine wp_seq ?_
    refine w_reg ?_
    refine rl_run F (run_move (F.ev rfl)) rfl ?_; clear F a; intro a F
    refine rl_run F (run_assign (F.ev rfl)) rfl ?_; clear F a; intro a F
    refine rl_nil ?_
    refine q_tn ?_
    refine wp_ret ?_
    refine fin1 F rfl rfl ?_
    replace M := M.perm (perm_front _ 1 _ rfl)
    replace M := M.perm (perm_front _ 1 _ rfl)
    change Mem w0 G (.blk bm2 [.slice (adm) (nm) (cm), .int .i64 (manym), .int .i64 (tombsm)] 55 :: .row (.slice (adm) (nm) (cm)) (nm) (csm) 58 3 :: .blk b1 [.slice (ao) (xs.length) (co)] 45 :: L) _ at M
    have hfin := runF_fin (xs := xs) (i := i) (by omega) hi.1
    exact ⟨_, M.weaken (.cons_cons _ (.cons_cons _ (.cons _ (List.Sublist.refl _)))), _, rfl, _, _, _, _, _, _, _, rfl, hnm, Em, by rw [← hfin]; exact Km⟩

theorem pairs_spec {w0 w : World} {G : Ghost} {L : List Res} (M : Mem w0 G L w) {ao : Option Addr} {co : Nat} {xs : List StepD} (S : RdSl rdStep 3 G (.slice ao xs.length co) xs) (hxl : xs.length ≤ 9223372036854775807) :
    Calls Try.prog 19 #[.agg #[.slice ao xs.length co]] w (Ret w0 G L fun G' v => ∃ a c, v = .slice a (runF (xs.take 80)).length c ∧ RdSl rdPair 2 G' (.slice a (runF (xs.take 80)).length c) (runF (xs.take 80))) := by
  refine calls_start (vs := [_]) Try.func19 rfl (n := 51) rfl rfl ?_
  intro a F
  refine wp_seq ?_
  refine w_reg ?_
  refine rl_box F M rfl (cs := [.slice (ao) (xs.length) (co)]) rfl rfl ?_; clear F M a; intro b1 w a M F
  refine rl_run F (run_assign (F.ev rfl)) rfl ?_; clear F a; intro a F
  refine rl_nil ?_
  refine q_tn ?_
  refine wp_seq ?_
  refine w_reg ?_
  refine rl_run F (run_assign (F.ev rfl)) rfl ?_; clear F a; intro a F
  refine rl_nil ?_
  refine q_tn ?_
  refine wp_seq ?_
  refine wp_seq ?_
  refine w_reg ?_
  refine rl_run F (run_assign (F.ev rfl)) rfl ?_; clear F a; intro a F
  refine rl_nil ?_
  refine q_tn ?_
  refine wp_block ?_
  refine w_loopN (fun m a' w' => ∃ (i : Nat), ∃ (aw : Option Addr), ∃ (cw : Nat), m = xs.length - i ∧ ∃ G2, Gle G G2 ∧ Fits 51 a' [(1, .pointer (some ⟨b1, 0, none⟩)), (4, .int .i64 (((i : Nat) : Int))), (3, .slice (aw) ((runF (xs.take i)).length) (cw))] ∧ Mem w0 G2 (.blk b1 [.slice (ao) (xs.length) (co)] 45 :: L) w' ∧ (i ≤ xs.length ∧ i ≤ 80) ∧ (RdSl rdPair 2 G2 (.slice aw (runF (xs.take i)).length cw) (runF (xs.take i)))) _ ⟨0, none, 0, rfl, G, Gle.refl _, F.to ⟨rfl, rfl, rfl, trivial⟩, M, by omega, RdSl.nil⟩ ?_
  clear F M
  rintro m a w ⟨i, aw, cw, rfl, G2, hG2, F, M, hi, Sw⟩
  replace S := S.mono mono_rdStep hG2
  refine wp_seq ?_
  refine wp_seq ?_
  refine w_reg ?_
  refine rl_run F (run_move (F.ev rfl)) rfl ?_; clear F a; intro a F
  refine rl_run F (run_fieldAddr tok45.k rfl rfl (F.ev rfl)) rfl ?_; clear F a; intro a F
  refine rl_run F (run_load1 (agf tok22 rfl) (F.ev rfl) (M.cellL (k := 0) rfl rfl)) rfl ?_; clear F a; intro a F
  refine rl_run F (run_lenSl tok22.k (F.ev rfl)) rfl ?_; clear F a; intro a F
  refine rl_run F (run_lss (F.ev rfl) (F.ev rfl)) rfl ?_; clear F a; intro a F
  refine rl_run F (run_move (F.ev rfl)) rfl ?_; clear F a; intro a F
  rcases Bool.eq_false_or_eq_true (decide (((i : Nat) : Int) < ((xs.length : Nat) : Int))) with hc | hc
  · skip
    have h3b := hc; clear hc
    have h3 : ((i : Nat) : Int) < ((xs.length : Nat) : Int) := of_decide_eq_true h3b
    refine rl_guard_t F rfl rfl rfl h3b ?_
    refine rl_run F (run_move (F.ev rfl)) rfl ?_; clear F a; intro a F
    refine rl_guard_t F rfl rfl rfl h3b ?_
    refine rl_run F (run_lss (F.ev rfl) (F.ev rfl)) rfl ?_; clear F a; intro a F
    refine rl_run F (run_pick_t (F.ev rfl) h3b (F.ev rfl)) rfl ?_; clear F a; intro a F
    refine rl_nil ?_
    refine q_tn ?_
    refine w_cond F rfl ?_ ?_
    · intro hc
      have h4b := hc; clear hc
      have h4 : ((i : Nat) : Int) < 80 := of_decide_eq_true h4b
      refine wp_skip ?_
      refine q_tn ?_
      refine wp_seq ?_
      refine wp_block ?_
      refine wp_seq ?_
      refine w_reg ?_
      refine rl_run F (run_fieldAddr tok45.k rfl rfl (F.ev rfl)) rfl ?_; clear F a; intro a F
      refine rl_run F (run_load1 (agf tok22 rfl) (F.ev rfl) (M.cellL (k := 0) rfl rfl)) rfl ?_; clear F a; intro a F
      refine rl_run F (run_move (F.ev rfl)) rfl ?_; clear F a; intro a F
      obtain ⟨Xe5, hXe5⟩ := get_of_lt (xs := xs) (i := i) (by omega)
      obtain ⟨be5, oe5, _, Ie5, _, Ae5, ⟨rfl, hbe51, hbe52⟩⟩ := S.at hXe5
      refine rl_run F (run_indexI tok22.k tok29 (F.ev rfl) (F.ev rfl) (by omega) Ie5) rfl ?_; clear F a; intro a F
      refine rl_run F (run_fieldAddr tok29.k rfl rfl (F.ev rfl)) rfl ?_; clear F a; intro a F
      refine rl_run F (run_load1 (agf tok4 rfl) (F.ev rfl) (M.cellA Ae5 2 rfl rfl)) rfl ?_; clear F a; intro a F
      refine rl_nil ?_
      refine q_tn ?_
      refine w_cond F rfl ?_ ?_
      · intro hc
        have h6b := hc; clear hc
        have h6 : (Xe5.drop) = true := h6b
        refine w_reg ?_
        refine rl_run F (run_move (F.ev rfl)) rfl ?_; clear F a; intro a F
        refine rl_run F (run_fieldAddr tok45.k rfl rfl (F.ev rfl)) rfl ?_; clear F a; intro a F
        refine rl_run F (run_load1 (agf tok22 rfl) (F.ev rfl) (M.cellL (k := 0) rfl rfl)) rfl ?_; clear F a; intro a F
        refine rl_run F (run_move (F.ev rfl)) rfl ?_; clear F a; intro a F
        obtain ⟨be7, oe7, _, Ie7, _, Ae7, ⟨rfl, hbe71, hbe72⟩⟩ := S.at hXe5
        refine rl_run F (run_indexI tok22.k tok29 (F.ev rfl) (F.ev rfl) (by omega) Ie7) rfl ?_; clear F a; intro a F
        refine rl_run F (run_fieldAddr tok29.k rfl rfl (F.ev rfl)) rfl ?_; clear F a; intro a F
        refine rl_run F (run_load1 (agf tok27 rfl) (F.ev rfl) (M.cellA Ae7 0 rfl rfl)) rfl ?_; clear F a; intro a F
        refine rl_call F ent11 rfl rfl (drop_spec (key := Xe5.key) M Sw (by (have h1 := runF_le xs i; omega))) ?_; clear F M a; rintro _ Gr8 w a hGr8 M ⟨ar8, cr8, rfl, Sr8⟩ F
        replace S := S.mono mono_rdStep hGr8
        replace Sw := Sw.mono mono_rdPair hGr8
        replace Ae5 := Ae5.mono hGr8
        replace Ae7 := Ae7.mono hGr8
        refine rl_run F (run_move (F.ev rfl)) rfl ?_; clear F a; intro a F
        refine rl_run F (run_extract (v := .slice (ar8) ((dropF (runF (xs.take i)) Xe5.key).1.length) (cr8)) (F.ev rfl) rfl) rfl ?_; clear F a; intro a F
        refine rl_run F (run_extract (v := .bool ((dropF (runF (xs.take i)) Xe5.key).2)) (F.ev rfl) rfl) rfl ?_; clear F a; intro a F
        refine rl_run F (run_assign (F.ev rfl)) rfl ?_; clear F a; intro a F
        refine rl_nil ?_
        refine q_bn ?_
        refine q_tn ?_
        refine w_reg ?_
        refine rl_run F (run_move (F.ev rfl)) rfl ?_; clear F a; intro a F
        refine rl_run F (run_addi (F.ev rfl) (F.ev rfl) (in_i64 (by omega) (by omega))) rfl ?_; clear F a; intro a F
        refine rl_run F (run_assign (F.ev rfl)) rfl ?_; clear F a; intro a F
        refine rl_nil ?_
        refine q_tn ?_
        rw [← runF_drop hXe5 (by assumption)] at F
        exact ⟨_, by omega, i + 1, ar8, cr8, rfl, Gr8, (hG2.trans hGr8), F.to ⟨rfl, rfl, rfl, trivial⟩, M, by omega, by rw [runF_drop hXe5 (by assumption)]; exact Sr8⟩
      · intro hc
        have h9b := hc; clear hc
        have h9 : (Xe5.drop) = false := h9b
        refine w_plan [(true, 0), (true, 1), (true, 2), (true, 3), (true, 4), (true, 5), (true, 6), (true, 7), (true, 8), (true, 9), (true, 10), (true, 11), (true, 12), (false, 13), (true, 14), (true, 15), (true, 16), (true, 17)] (Keep G2 [.blk b1 [.slice (ao) (xs.length) (co)] 45]) rfl (by kernel_rfl) (fun c a d v w h => by cases d <;> exact h) ((M.drew _).keep (Gle.refl _) (by simp)) ?_
        replace M := M.drew (w.drawn + 1)
        refine pl_run F (fun w M => run_move (F.ev rfl)) rfl ?_; clear F a; intro a F
        refine pl_run F (fun w M => run_fieldAddr tok45.k rfl rfl (F.ev rfl)) rfl ?_; clear F a; intro a F
        refine pl_run F (fun w M => run_load1 (agf tok22 rfl) (F.ev rfl) (M.cellL (k := 0) rfl rfl)) rfl ?_; clear F a; intro a F
        refine pl_run F (fun w M => run_move (F.ev rfl)) rfl ?_; clear F a; intro a F
        obtain ⟨be10, oe10, _, Ie10, _, Ae10, ⟨rfl, hbe101, hbe102⟩⟩ := S.at hXe5
        refine pl_run F (fun w M => run_indexI tok22.k tok29 (F.ev rfl) (F.ev rfl) (by omega) Ie10) rfl ?_; clear F a; intro a F
        refine pl_run F (fun w M => run_fieldAddr tok29.k rfl rfl (F.ev rfl)) rfl ?_; clear F a; intro a F
        refine pl_run F (fun w M => run_load1 (agf tok27 rfl) (F.ev rfl) (M.cellA Ae10 0 rfl rfl)) rfl ?_; clear F a; intro a F
        refine pl_run F (fun w M => run_fieldAddr tok45.k rfl rfl (F.ev rfl)) rfl ?_; clear F a; intro a F
        refine pl_run F (fun w M => run_load1 (agf tok22 rfl) (F.ev rfl) (M.cellL (k := 0) rfl rfl)) rfl ?_; clear F a; intro a F
        refine pl_run F (fun w M => run_move (F.ev rfl)) rfl ?_; clear F a; intro a F
        obtain ⟨be11, oe11, _, Ie11, _, Ae11, ⟨rfl, hbe111, hbe112⟩⟩ := S.at hXe5
        refine pl_run F (fun w M => run_indexI tok22.k tok29 (F.ev rfl) (F.ev rfl) (by omega) Ie11) rfl ?_; clear F a; intro a F
        refine pl_run F (fun w M => run_fieldAddr tok29.k rfl rfl (F.ev rfl)) rfl ?_; clear F a; intro a F
        refine pl_run F (fun w M => run_load1 (agf tok3 rfl) (F.ev rfl) (M.cellA Ae11 1 rfl rfl)) rfl ?_; clear F a; intro a F
        refine pl_act ?_ rfl
        refine rl_call F ent13 rfl rfl (put_spec (key := Xe5.key) (v := Xe5.v) M Sw (by first | assumption | exact ⟨by decide, by decide⟩ | exact wrap_ink _ _ | exact in_u64 (by omega) (by omega)) (by first | assumption | exact ⟨by decide, by decide⟩ | exact wrap_ink _ _ | exact in_i64 (by omega) (by omega)) (by (have h1 := runF_le xs i; omega))) ?_; clear F M a; rintro _ Gr12 w a hGr12 M ⟨ar12, cr12, rfl, Sr12⟩ F
        replace S := S.mono mono_rdStep hGr12
        replace Sw := Sw.mono mono_rdPair hGr12
        replace Ae5 := Ae5.mono hGr12
        replace Ae10 := Ae10.mono hGr12
        replace Ae11 := Ae11.mono hGr12
        refine rl_nil ?_
        refine ⟨Keep Gr12 [.blk b1 [.slice (ao) (xs.length) (co)] 45], M.keep (Gle.refl _) (by simp), fun w h => h.mono hGr12 (by simp), ?_⟩
        refine pl_run F (fun w M => run_move (F.ev rfl)) rfl ?_; clear F a; intro a F
        refine pl_run F (fun w M => run_extract (v := .slice (ar12) ((putF (runF (xs.take i)) Xe5.key Xe5.v).1.length) (cr12)) (F.ev rfl) rfl) rfl ?_; clear F a; intro a F
        refine pl_run F (fun w M => run_extract (v := .int .i64 ((putF (runF (xs.take i)) Xe5.key Xe5.v).2)) (F.ev rfl) rfl) rfl ?_; clear F a; intro a F
        refine pl_run F (fun w M => run_assign (F.ev rfl)) rfl ?_; clear F a; intro a F
        refine pl_nil ?_
        refine q_bn ?_
        refine q_tn ?_
        refine w_reg ?_
        refine rl_run F (run_move (F.ev rfl)) rfl ?_; clear F a; intro a F
        refine rl_run F (run_addi (F.ev rfl) (F.ev rfl) (in_i64 (by omega) (by omega))) rfl ?_; clear F a; intro a F
        refine rl_run F (run_assign (F.ev rfl)) rfl ?_; clear F a; intro a F
        refine rl_nil ?_
        refine q_tn ?_
        rw [← runF_put hXe5 (by assumption)] at F
        exact ⟨_, by omega, i + 1, ar12, cr12, rfl, Gr12, (hG2.trans hGr12), F.to ⟨rfl, rfl, rfl, trivial⟩, M, by omega, by rw [runF_put hXe5 (by assumption)]; exact Sr12⟩
    · intro hc
      have h13b := hc; clear hc
      have h13 : ¬ (((i : Nat) : Int) < 80) := of_decide_eq_false h13b
      refine wp_exit ?_
      refine q_te ?_
      refine q_te ?_
      refine q_bh ?_
      refine q_tn ?_
      refine wp_seq ?_
      refine w_reg ?_
      refine rl_run F (run_move (F.ev rfl)) rfl ?_; clear F a; intro a F
      refine rl_run F (run_assign (F.ev rfl)) rfl ?_; clear F a; intro a F
      refine rl_nil ?_
      refine q_tn ?_
      refine wp_ret ?_
      refine fin1 F rfl rfl ?_
      have hfin := runF_fin (xs := xs) (i := i) (by omega) hi.1
      rw [hfin] at Sw ⊢
      exact ⟨_, hG2, M.weaken (.cons _ (List.Sublist.refl _)), _, _, rfl, Sw⟩
  · skip
    have h14b := hc; clear hc
    have h14 : ¬ (((i : Nat) : Int) < ((xs.length : Nat) : Int)) := of_decide_eq_false h14b
    refine rl_guard_f F rfl rfl rfl h14b ?_; clear F a; intro a F
    refine rl_guard_f F rfl rfl rfl h14b ?_; clear F a; intro a F
    refine rl_run F (run_pick_f (F.ev rfl) h14b (F.ev rfl)) rfl ?_; clear F a; intro a F
    refine rl_nil ?_
    refine q_tn ?_
    refine w_cond_f F rfl rfl ?_
    refine wp_exit ?_
    refine q_te ?_
    refine q_te ?_
    refine q_bh ?_
    refine q_tn ?_
    refine wp_seq ?_
    refine w_reg ?_
    refine rl_run F (run_move (F.ev rfl)) rfl ?_; clear F a; intro a F
    refine rl_run F (run_assign (F.ev rfl)) rfl ?_; clear F a; intro a F
    refine rl_nil ?_
    refine q_tn ?_
    refine wp_ret ?_
    refine fin1 F rfl rfl ?_
    have hfin := runF_fin (xs := xs) (i := i) (by omega) hi.1
    rw [hfin] at Sw ⊢
    exact ⟨_, hG2, M.weaken (.cons _ (List.Sublist.refl _)), _, _, rfl, Sw⟩

end Go.Proofs.Ytnloilnlehgngaa
