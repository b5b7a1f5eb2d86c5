/- The walks, part G. -/
import Derived.Test.YtnloilnlehgngaaWalkF
import Derived.Test.YtnloilnlehgngaaRun
import Derived.Test.YtnloilnlehgngaaWid
namespace Go.Proofs.Ytnloilnlehgngaa
open Go Go.Y Go.Proofs
set_option linter.unusedSimpArgs false
set_option linter.unusedVariables false
theorem get_ret {w0 w : World} {G : Ghost} {L : List Res} (M : Mem w0 G L w) {ao : Option Addr} {co : Nat} {xs : List StepD} (S : RdSl rdStep 3 G (.slice ao xs.length co) xs) (hxl : xs.length ≤ 9223372036854775807) {key : Int} (hkey : inKind .u64 key) :
    Calls Try.prog 4 #[.agg #[.slice ao xs.length co], .int .u64 key] w (Ret w0 G L fun _ v => v = .bool true) := by
  refine calls_start (vs := [_, _]) Try.func4 rfl (n := 58) rfl rfl ?_
  intro a F
  refine wp_seq ?_
  refine w_reg ?_
  refine rl_box F M rfl (cs := [.slice (ao) (xs.length) (co)]) rfl rfl ?_; clear F M a; intro b1 w a M F
  refine rl_run F (run_assign (F.ev rfl)) rfl ?_; clear F a; intro a F
  refine rl_nil ?_
  refine q_tn ?_
  refine wp_seq ?_
  refine w_reg ?_
  refine rl_run F (run_loadA tok45 rfl (F.ev rfl) (cs := [.slice (ao) (xs.length) (co)]) rfl (M.cellsL (k := 0) rfl rfl)) rfl ?_; clear F a; intro a F
  refine rl_callL F ent18 rfl rfl (of_spec M S (by omega)) ?_; clear F M a; rintro _ _ w a M ⟨bm2, rfl, adm2, nm2, cm2, manym2, tombsm2, csm2, sm2, rfl, hnm2, Em2, Km2⟩ F
  refine rl_run F (run_assign (F.ev rfl)) rfl ?_; clear F a; intro a F
  refine rl_nil ?_
  refine q_tn ?_
  refine wp_seq ?_
  refine w_reg ?_
  refine rl_run F (run_loadA tok45 rfl (F.ev rfl) (cs := [.slice (ao) (xs.length) (co)]) rfl (M.cellsL (k := 2) rfl rfl)) rfl ?_; clear F a; intro a F
  refine rl_call F ent19 rfl rfl (pairs_spec M S (by omega)) ?_; clear F M a; rintro _ Gr3 w a hGr3 M ⟨ar3, cr3, rfl, Sr3⟩ F
  replace S := S.mono mono_rdStep hGr3
  replace Em2 := Em2.mono mono_rdSlot hGr3
  refine rl_run F (run_assign (F.ev rfl)) rfl ?_; clear F a; intro a F
  refine rl_nil ?_
  refine q_tn ?_
  refine wp_seq ?_
  refine w_reg ?_
  refine rl_run F (run_move (F.ev rfl)) rfl ?_; clear F a; intro a F
  refine rl_run F (run_move (F.ev rfl)) rfl ?_; clear F a; intro a F
  replace M := M.perm (perm_front _ 1 _ rfl)
  replace M := M.perm (perm_front _ 1 _ rfl)
  change Mem w0 Gr3 (.blk bm2 [.slice (adm2) (nm2) (cm2), .int .i64 (manym2), .int .i64 (tombsm2)] 55 :: .row (.slice (adm2) (nm2) (cm2)) (nm2) (csm2) 58 3 :: .blk b1 [.slice (ao) (xs.length) (co)] 45 :: L) _ at M
  have hsg4 := get_spec (key := key) M hnm2 Em2 Km2
  refine rl_callS F ent15 rfl rfl (hsg4) ?_; clear F M a; rintro _ w a M rfl F
  clear hsg4
  refine rl_run F (run_move (F.ev rfl)) rfl ?_; clear F a; intro a F
  refine rl_run F (run_extract (v := .int .i64 ((getF (runF ((xs).take 80)) key).1)) (F.ev rfl) rfl) rfl ?_; clear F a; intro a F
  refine rl_run F (run_extract (v := .bool ((getF (runF ((xs).take 80)) key).2)) (F.ev rfl) rfl) rfl ?_; clear F a; intro a F
  refine rl_run F (run_assign (F.ev rfl)) rfl ?_; clear F a; intro a F
  refine rl_run F (run_assign (F.ev rfl)) rfl ?_; clear F a; intro a F
  refine rl_nil ?_
  refine q_tn ?_
  refine wp_seq ?_
  refine w_reg ?_
  refine rl_run F (run_move (F.ev rfl)) rfl ?_; clear F a; intro a F
  refine rl_run F (run_move (F.ev rfl)) rfl ?_; clear F a; intro a F
  refine rl_callS F ent16 rfl rfl (at_spec (key := key) M Sr3 (by (have h1 := runF_le xs 80; omega))) ?_; clear F M a; rintro _ w a M rfl F
  have hat := atF_le (runF ((xs).take 80)) key
  refine rl_run F (run_move (F.ev rfl)) rfl ?_; clear F a; intro a F
  refine rl_run F (run_extract (v := .int .i64 ((((atF (runF ((xs).take 80)) key).1 : Nat) : Int))) (F.ev rfl) rfl) rfl ?_; clear F a; intro a F
  refine rl_run F (run_extract (v := .bool ((atF (runF ((xs).take 80)) key).2)) (F.ev rfl) rfl) rfl ?_; clear F a; intro a F
  refine rl_run F (run_assign (F.ev rfl)) rfl ?_; clear F a; intro a F
  refine rl_run F (run_assign (F.ev rfl)) rfl ?_; clear F a; intro a F
  refine rl_nil ?_
  refine q_tn ?_
  refine wp_seq ?_
  refine w_reg ?_
  refine rl_run F (run_move (F.ev rfl)) rfl ?_; clear F a; intro a F
  refine rl_run F (run_move (F.ev rfl)) rfl ?_; clear F a; intro a F
  replace M := M.perm (perm_front _ 1 _ rfl)
  replace M := M.perm (perm_front _ 1 _ rfl)
  change Mem w0 Gr3 (.blk bm2 [.slice (adm2) (nm2) (cm2), .int .i64 (manym2), .int .i64 (tombsm2)] 55 :: .row (.slice (adm2) (nm2) (cm2)) (nm2) (csm2) 58 3 :: .blk b1 [.slice (ao) (xs.length) (co)] 45 :: L) _ at M
  refine rl_callS F ent17 rfl rfl (same_spec (ps := runF ((xs).take 80)) (most := 80) M hnm2 Em2 Km2 Sr3 (by omega)) ?_; clear F M a; rintro _ w a M rfl F
  refine rl_run F (run_move (F.ev rfl)) rfl ?_; clear F a; intro a F
  refine rl_guard_t F rfl rfl rfl rfl ?_
  refine rl_run F (run_move (F.ev rfl)) rfl ?_; clear F a; intro a F
  refine rl_guard_t F rfl rfl rfl rfl ?_
  refine rl_run F (run_move (F.ev rfl)) rfl ?_; clear F a; intro a F
  refine rl_guard_t F rfl rfl rfl rfl ?_
  refine rl_run F (run_eqb tok4.k (F.ev rfl) (F.ev rfl)) rfl ?_; clear F a; intro a F
  refine rl_run F (run_pick_t (F.ev rfl) rfl (F.ev rfl)) rfl ?_; clear F a; intro a F
  refine rl_run F (run_move (F.ev rfl)) rfl ?_; clear F a; intro a F
  have hg5 : (((getF (runF ((xs).take 80)) key).2) == ((atF (runF ((xs).take 80)) key).2)) = true := (by rw [getF_snd]; simp)
  refine rl_guard_t F rfl rfl rfl hg5 ?_
  refine rl_run F (run_move (F.ev rfl)) rfl ?_; clear F a; intro a F
  refine rl_guard_t F rfl rfl rfl hg5 ?_
  refine rl_run F (run_move (F.ev rfl)) rfl ?_; clear F a; intro a F
  rcases Bool.eq_false_or_eq_true ((atF (runF ((xs).take 80)) key).2) with hc | hc
  · skip
    have h6b := hc; clear hc
    have h6 : ((atF (runF ((xs).take 80)) key).2) = true := h6b
    refine rl_guard_f F rfl rfl rfl h6b ?_; clear F a; intro a F
    refine rl_guard_f F rfl rfl rfl h6b ?_; clear F a; intro a F
    refine rl_guard_t F rfl rfl rfl hg5 ?_
    refine rl_run F (run_pick_t (F.ev rfl) h6b (F.ev rfl)) rfl ?_; clear F a; intro a F
    refine rl_run F (run_pick_t (F.ev rfl) hg5 (F.ev rfl)) rfl ?_; clear F a; intro a F
    refine rl_run F (run_move (F.ev rfl)) rfl ?_; clear F a; intro a F
    refine rl_guard_t F rfl rfl rfl rfl ?_
    refine rl_run F (run_move (F.ev rfl)) rfl ?_; clear F a; intro a F
    refine rl_guard_t F rfl rfl rfl rfl ?_
    refine rl_run F (run_not (F.ev rfl)) rfl ?_; clear F a; intro a F
    refine rl_guard_t F rfl rfl rfl rfl ?_
    refine rl_run F (run_move (F.ev rfl)) rfl ?_; clear F a; intro a F
    refine rl_guard_t F rfl rfl rfl (not_f h6b) ?_
    refine rl_run F (run_move (F.ev rfl)) rfl ?_; clear F a; intro a F
    refine rl_guard_t F rfl rfl rfl (not_f h6b) ?_
    refine rl_run F (run_move (F.ev rfl)) rfl ?_; clear F a; intro a F
    refine rl_guard_t F rfl rfl rfl (not_f h6b) ?_
    refine rl_run F (run_move (F.ev rfl)) rfl ?_; clear F a; intro a F
    refine rl_guard_t F rfl rfl rfl (not_f h6b) ?_
    obtain ⟨Xx7, hXx7⟩ := get_of_lt (hat.2 ‹(atF (runF ((xs).take 80)) key).2 = true›)
    obtain ⟨be8, oe8, _, Ie8, _, Ae8, ⟨rfl, hbe81, hbe82⟩⟩ := Sr3.at hXx7
    refine rl_run F (run_indexI tok26.k tok41 (F.ev rfl) (F.ev rfl) (by omega) Ie8) rfl ?_; clear F a; intro a F
    refine rl_guard_t F rfl rfl rfl (not_f h6b) ?_
    refine rl_run F (run_fieldAddr tok41.k rfl rfl (F.ev rfl)) rfl ?_; clear F a; intro a F
    refine rl_guard_t F rfl rfl rfl (not_f h6b) ?_
    refine rl_run F (run_load1 (agf tok3 rfl) (F.ev rfl) (M.cellA Ae8 1 rfl rfl)) rfl ?_; clear F a; intro a F
    refine rl_guard_t F rfl rfl rfl (not_f h6b) ?_
    refine rl_run F (run_eqi (F.ev rfl) (F.ev rfl)) rfl ?_; clear F a; intro a F
    refine rl_guard_t F rfl rfl rfl rfl ?_
    refine rl_run F (run_pick_f (F.ev rfl) (not_f h6b) (F.ev rfl)) rfl ?_; clear F a; intro a F
    refine rl_run F (run_pick_t (F.ev rfl) rfl (F.ev rfl)) rfl ?_; clear F a; intro a F
    refine rl_run F (run_move (F.ev rfl)) rfl ?_; clear F a; intro a F
    have hg9 : (decide ((getF (runF ((xs).take 80)) key).1 = Xx7.v)) = true := (decide_eq_true (by exact getF_at ‹(atF _ _).2 = true› hXx7))
    refine rl_guard_t F rfl rfl rfl hg9 ?_
    refine rl_callS F ent9 rfl rfl (lives_spec M) ?_; clear F M a; rintro _ w a M rfl F
    refine rl_run F (run_pick_t (F.ev rfl) hg9 (F.ev rfl)) rfl ?_; clear F a; intro a F
    refine rl_run F (run_assign (F.ev rfl)) rfl ?_; clear F a; intro a F
    refine rl_nil ?_
    refine q_tn ?_
    refine wp_ret ?_
    refine fin1 F rfl rfl ?_
    exact ⟨_, hGr3, M.weaken (.cons _ (.cons _ (.cons _ (List.Sublist.refl _)))), rfl⟩
  · skip
    have h10b := hc; clear hc
    have h10 : ((atF (runF ((xs).take 80)) key).2) = false := h10b
    refine rl_guard_t F rfl rfl rfl h10b ?_
    refine rl_run F (run_move (F.ev rfl)) rfl ?_; clear F a; intro a F
    refine rl_guard_t F rfl rfl rfl h10b ?_
    refine rl_run F (run_eqi (F.ev rfl) (F.ev rfl)) rfl ?_; clear F a; intro a F
    refine rl_guard_t F rfl rfl rfl hg5 ?_
    refine rl_run F (run_pick_f (F.ev rfl) h10b (F.ev rfl)) rfl ?_; clear F a; intro a F
    refine rl_run F (run_pick_t (F.ev rfl) hg5 (F.ev rfl)) rfl ?_; clear F a; intro a F
    refine rl_run F (run_move (F.ev rfl)) rfl ?_; clear F a; intro a F
    have hg11 : (decide ((getF (runF ((xs).take 80)) key).1 = 0)) = true := (decide_eq_true (by rw [getF_no ‹(atF _ _).2 = false›]))
    refine rl_guard_t F rfl rfl rfl hg11 ?_
    refine rl_run F (run_move (F.ev rfl)) rfl ?_; clear F a; intro a F
    refine rl_guard_t F rfl rfl rfl hg11 ?_
    refine rl_run F (run_not (F.ev rfl)) rfl ?_; clear F a; intro a F
    refine rl_guard_t F rfl rfl rfl hg11 ?_
    refine rl_run F (run_move (F.ev rfl)) rfl ?_; clear F a; intro a F
    refine rl_guard_f F rfl rfl rfl (not_t h10b) ?_; clear F a; intro a F
    refine rl_guard_f F rfl rfl rfl (not_t h10b) ?_; clear F a; intro a F
    refine rl_guard_f F rfl rfl rfl (not_t h10b) ?_; clear F a; intro a F
    refine rl_guard_f F rfl rfl rfl (not_t h10b) ?_; clear F a; intro a F
    refine rl_guard_f F rfl rfl rfl (not_t h10b) ?_; clear F a; intro a F
    refine rl_guard_f F rfl rfl rfl (not_t h10b) ?_; clear F a; intro a F
    refine rl_guard_f F rfl rfl rfl (not_t h10b) ?_; clear F a; intro a F
    refine rl_guard_t F rfl rfl rfl hg11 ?_
    refine rl_run F (run_pick_t (F.ev rfl) (not_t h10b) (F.ev rfl)) rfl ?_; clear F a; intro a F
    refine rl_run F (run_pick_t (F.ev rfl) hg11 (F.ev rfl)) rfl ?_; clear F a; intro a F
    refine rl_run F (run_move (F.ev rfl)) rfl ?_; clear F a; intro a F
    refine rl_guard_t F rfl rfl rfl rfl ?_
    refine rl_callS F ent9 rfl rfl (lives_spec M) ?_; clear F M a; rintro _ w a M rfl F
    refine rl_run F (run_pick_t (F.ev rfl) rfl (F.ev rfl)) rfl ?_; clear F a; intro a F
    refine rl_run F (run_assign (F.ev rfl)) rfl ?_; clear F a; intro a F
    refine rl_nil ?_
    refine q_tn ?_
    refine wp_ret ?_
    refine fin1 F rfl rfl ?_
    exact ⟨_, hGr3, M.weaken (.cons _ (.cons _ (.cons _ (List.Sublist.refl _)))), rfl⟩

theorem get_law {w0 w : World} {G : Ghost} {L : List Res} (M : Mem w0 G L w) {ao : Option Addr} {co : Nat} {xs : List StepD} (S : RdSl rdStep 3 G (.slice ao xs.length co) xs) (hxl : xs.length ≤ 9223372036854775807) {key : Int} (hkey : inKind .u64 key) :
    Calls Try.prog 4 #[.agg #[.slice ao xs.length co], .int .u64 key] w (RetS w0 G L fun v => v = .bool true) := Ret.plain M (get_ret M S hxl hkey)

theorem script_ret {w0 w : World} {G : Ghost} {L : List Res} (M : Mem w0 G L w) {ao : Option Addr} {co : Nat} {xs : List StepD} (S : RdSl rdStep 3 G (.slice ao xs.length co) xs) (hxl : xs.length ≤ 9223372036854775807) :
    Calls Try.prog 3 #[.slice ao xs.length co] w (Ret w0 G L fun _ v => v = .bool true) := by
  refine calls_start (vs := [_]) Try.func3 rfl (n := 135) rfl rfl ?_
  intro a F
  refine wp_seq ?_
  refine w_reg ?_
  refine rl_run F (run_assign (F.ev rfl)) rfl ?_; clear F a; intro a F
  refine rl_nil ?_
  refine q_tn ?_
  refine wp_seq ?_
  refine wp_seq ?_
  refine w_reg ?_
  refine rl_run F (run_move (F.ev rfl)) rfl ?_; clear F a; intro a F
  refine rl_run F (run_lenSl tok22.k (F.ev rfl)) rfl ?_; clear F a; intro a F
  refine rl_run F (run_gtr (F.ev rfl) (F.ev rfl)) rfl ?_; clear F a; intro a F
  refine rl_nil ?_
  refine q_tn ?_
  refine w_cond F rfl ?_ ?_
  · intro hc
    have h1b := hc; clear hc
    have h1 : 80 < ((xs.length : Nat) : Int) := of_decide_eq_true h1b
    refine wp_seq ?_
    refine w_reg ?_
    refine rl_callS F ent9 rfl rfl (lives_spec M) ?_; clear F M a; rintro _ w a M rfl F
    refine rl_run F (run_assign (F.ev rfl)) rfl ?_; clear F a; intro a F
    refine rl_nil ?_
    refine q_tn ?_
    refine wp_ret ?_
    refine q_tr ?_
    refine fin1 F rfl rfl ?_
    exact ⟨_, (Gle.refl _), M.weaken (List.Sublist.refl _), rfl⟩
  · intro hc
    have h2b := hc; clear hc
    have h2 : ¬ (80 < ((xs.length : Nat) : Int)) := of_decide_eq_false h2b
    refine wp_skip ?_
    refine q_tn ?_
    refine wp_seq ?_
    refine w_reg ?_
    refine rl_callL F ent10 rfl rfl (new_spec M) ?_; clear F M a; rintro _ _ w a M ⟨bm3, rfl, adm3, nm3, cm3, manym3, tombsm3, csm3, sm3, rfl, hnm3, Em3, Km3⟩ F
    have hmm3 : manym3 = 0 := Km3.many
    have hzm3 : nm3 = 0 := by rw [hnm3]; exact Km3.small.2 rfl
    refine rl_run F (run_assign (F.ev rfl)) rfl ?_; clear F a; intro a F
    refine rl_nil ?_
    refine q_tn ?_
    refine wp_seq ?_
    refine w_reg ?_
    refine rl_run F (run_assign (F.ev rfl)) rfl ?_; clear F a; intro a F
    refine rl_nil ?_
    refine q_tn ?_
    refine wp_seq ?_
    refine w_reg ?_
    refine rl_run F (run_assign (F.ev rfl)) rfl ?_; clear F a; intro a F
    refine rl_nil ?_
    refine q_tn ?_
    refine wp_seq ?_
    refine wp_seq ?_
    refine w_reg ?_
    refine rl_run F (run_assign (F.ev rfl)) rfl ?_; clear F a; intro a F
    refine rl_nil ?_
    refine q_tn ?_
    refine wp_block ?_
    refine w_loopN (fun m a' w' => ∃ (i : Nat), ∃ (aw : Option Addr), ∃ (cw : Nat), ∃ (mo : Nat), ∃ (adm : Option Addr), ∃ (nm : Nat), ∃ (cm : Nat), ∃ (manym : Int), ∃ (tombsm : Int), ∃ (csm : List Value), ∃ (sm : List SlotD), m = xs.length - i ∧ ∃ G4, Gle G G4 ∧ Fits 135 a' [(0, .slice (ao) (xs.length) (co)), (3, .pointer (some ⟨bm3, 0, none⟩)), (4, .slice (aw) ((runF (xs.take i)).length) (cw)), (5, .int .i64 (((mo : Nat) : Int))), (6, .int .i64 (((i : Nat) : Int)))] ∧ Mem w0 G4 (.blk bm3 [.slice (adm) (nm) (cm), .int .i64 (manym), .int .i64 (tombsm)] 55 :: .row (.slice (adm) (nm) (cm)) (nm) (csm) 58 3 :: L) w' ∧ (i ≤ xs.length) ∧ (RdSl rdPair 2 G4 (.slice aw (runF (xs.take i)).length cw) (runF (xs.take i))) ∧ (mo ≤ i) ∧ (nm = sm.length) ∧ (Els rdSlot 3 G4 csm sm) ∧ (KOK sm manym tombsm (runF (xs.take i)) (mo))) _ ⟨0, none, 0, 0, (adm3), (nm3), (cm3), (manym3), (tombsm3), (csm3), (sm3), rfl, G, Gle.refl _, F.to ⟨rfl, rfl, rfl, rfl, rfl, trivial⟩, M, Nat.zero_le _, RdSl.nil, Nat.le_refl _, hnm3, Em3, Km3⟩ ?_
    clear F M
    rintro m a w ⟨i, aw, cw, mo, adm, nm, cm, manym, tombsm, csm, sm, rfl, G4, hG4, F, M, hi, Sw, hmo, hnm, Em, Km⟩
    replace S := S.mono mono_rdStep hG4
    refine wp_seq ?_
    refine wp_seq ?_
    refine w_reg ?_
    refine rl_run F (run_move (F.ev rfl)) rfl ?_; clear F a; intro a F
    refine rl_run F (run_move (F.ev rfl)) rfl ?_; clear F a; intro a F
    refine rl_run F (run_lenSl tok22.k (F.ev rfl)) rfl ?_; clear F a; intro a F
    refine rl_run F (run_lss (F.ev rfl) (F.ev rfl)) rfl ?_; clear F a; intro a F
    refine rl_nil ?_
    refine q_tn ?_
    refine w_cond F rfl ?_ ?_
    · intro hc
      have h5b := hc; clear hc
      have h5 : ((i : Nat) : Int) < ((xs.length : Nat) : Int) := of_decide_eq_true h5b
      refine wp_skip ?_
      refine q_tn ?_
      refine wp_seq ?_
      refine wp_block ?_
      refine wp_seq ?_
      refine wp_seq ?_
      refine w_reg ?_
      refine rl_run F (run_move (F.ev rfl)) rfl ?_; clear F a; intro a F
      refine rl_run F (run_move (F.ev rfl)) rfl ?_; clear F a; intro a F
      obtain ⟨Xe6, hXe6⟩ := get_of_lt (xs := xs) (i := i) (by omega)
      obtain ⟨be6, oe6, _, Ie6, _, Ae6, ⟨rfl, hbe61, hbe62⟩⟩ := S.at hXe6
      refine rl_run F (run_indexI tok22.k tok29 (F.ev rfl) (F.ev rfl) (by omega) Ie6) rfl ?_; clear F a; intro a F
      refine rl_run F (run_fieldAddr tok29.k rfl rfl (F.ev rfl)) rfl ?_; clear F a; intro a F
      refine rl_run F (run_load1 (agf tok4 rfl) (F.ev rfl) (M.cellA Ae6 2 rfl rfl)) rfl ?_; clear F a; intro a F
      refine rl_nil ?_
      refine q_tn ?_
      refine w_cond F rfl ?_ ?_
      · intro hc
        have h7b := hc; clear hc
        have h7 : (Xe6.drop) = true := h7b
        refine wp_seq ?_
        refine w_reg ?_
        refine rl_run F (run_move (F.ev rfl)) rfl ?_; clear F a; intro a F
        refine rl_run F (run_move (F.ev rfl)) rfl ?_; clear F a; intro a F
        refine rl_run F (run_move (F.ev rfl)) rfl ?_; clear F a; intro a F
        obtain ⟨be8, oe8, _, Ie8, _, Ae8, ⟨rfl, hbe81, hbe82⟩⟩ := S.at hXe6
        refine rl_run F (run_indexI tok22.k tok29 (F.ev rfl) (F.ev rfl) (by omega) Ie8) rfl ?_; clear F a; intro a F
        refine rl_run F (run_fieldAddr tok29.k rfl rfl (F.ev rfl)) rfl ?_; clear F a; intro a F
        refine rl_run F (run_load1 (agf tok27 rfl) (F.ev rfl) (M.cellA Ae8 0 rfl rfl)) rfl ?_; clear F a; intro a F
        refine rl_call F ent11 rfl rfl (drop_spec (key := Xe6.key) M Sw (by (have h1 := runF_le xs i; try have h2 := putF_len (runF (xs.take i)) ‹StepD›.key ‹StepD›.v; try have h3 := dropF_len (runF (xs.take i)) ‹StepD›.key; omega))) ?_; clear F M a; rintro _ Gr9 w a hGr9 M ⟨ar9, cr9, rfl, Sr9⟩ F
        replace S := S.mono mono_rdStep hGr9
        replace Sw := Sw.mono mono_rdPair hGr9
        replace Em := Em.mono mono_rdSlot hGr9
        replace Ae6 := Ae6.mono hGr9
        replace Ae8 := Ae8.mono hGr9
        refine rl_run F (run_move (F.ev rfl)) rfl ?_; clear F a; intro a F
        refine rl_run F (run_extract (v := .slice (ar9) ((dropF (runF (xs.take i)) Xe6.key).1.length) (cr9)) (F.ev rfl) rfl) rfl ?_; clear F a; intro a F
        refine rl_run F (run_extract (v := .bool ((dropF (runF (xs.take i)) Xe6.key).2)) (F.ev rfl) rfl) rfl ?_; clear F a; intro a F
        refine rl_run F (run_assign (F.ev rfl)) rfl ?_; clear F a; intro a F
        refine rl_run F (run_assign (F.ev rfl)) rfl ?_; clear F a; intro a F
        refine rl_nil ?_
        refine q_tn ?_
        refine wp_seq ?_
        refine wp_seq ?_
        refine w_reg ?_
        refine rl_run F (run_move (F.ev rfl)) rfl ?_; clear F a; intro a F
        refine rl_run F (run_move (F.ev rfl)) rfl ?_; clear F a; intro a F
        refine rl_run F (run_move (F.ev rfl)) rfl ?_; clear F a; intro a F
        obtain ⟨be10, oe10, _, Ie10, _, Ae10, ⟨rfl, hbe101, hbe102⟩⟩ := S.at hXe6
        refine rl_run F (run_indexI tok22.k tok29 (F.ev rfl) (F.ev rfl) (by omega) Ie10) rfl ?_; clear F a; intro a F
        refine rl_run F (run_fieldAddr tok29.k rfl rfl (F.ev rfl)) rfl ?_; clear F a; intro a F
        refine rl_run F (run_load1 (agf tok27 rfl) (F.ev rfl) (M.cellA Ae10 0 rfl rfl)) rfl ?_; clear F a; intro a F
        replace M := M.perm (perm_front _ 1 _ rfl)
        replace M := M.perm (perm_front _ 1 _ rfl)
        change Mem w0 Gr9 (.blk bm3 [.slice (adm) (nm) (cm), .int .i64 (manym), .int .i64 (tombsm)] 55 :: .row (.slice (adm) (nm) (cm)) (nm) (csm) 58 3 :: L) _ at M
        have hsm11 := dropm_spec (key := Xe6.key) M hnm Em Km
        refine rl_callL F ent12 rfl rfl (hsm11) ?_; clear F M a; rintro _ _ w a M ⟨⟨adm11, nm11, cm11, manym11, tombsm11, csm11, sm11, rfl, hnm11, Em11, Km11⟩, rfl⟩ F
        clear hsm11
        refine rl_run F (run_move (F.ev rfl)) rfl ?_; clear F a; intro a F
        refine rl_run F (run_neb tok4.k (F.ev rfl) (F.ev rfl)) rfl ?_; clear F a; intro a F
        refine rl_nil ?_
        refine q_tn ?_
        refine w_cond_f F rfl (not_f (by simp)) ?_
        refine wp_skip ?_
        refine q_tn ?_
        refine w_reg ?_
        refine rl_run F (run_move (F.ev rfl)) rfl ?_; clear F a; intro a F
        refine rl_run F (run_assign (F.ev rfl)) rfl ?_; clear F a; intro a F
        refine rl_nil ?_
        refine q_tn ?_
        refine wp_seq ?_
        refine w_reg ?_
        refine rl_run F (run_move (F.ev rfl)) rfl ?_; clear F a; intro a F
        refine rl_run F (run_move (F.ev rfl)) rfl ?_; clear F a; intro a F
        refine rl_run F (run_lenSl tok26.k (F.ev rfl)) rfl ?_; clear F a; intro a F
        refine rl_run F (run_max2N (b := mo) (c := (dropF (runF (xs.take i)) Xe6.key).1.length) (F.ev rfl) (F.ev rfl)) rfl ?_; clear F a; intro a F
        refine rl_run F (run_assign (F.ev rfl)) rfl ?_; clear F a; intro a F
        refine rl_nil ?_
        refine q_tn ?_
        refine wp_seq ?_
        refine w_reg ?_
        refine rl_run F (run_move (F.ev rfl)) rfl ?_; clear F a; intro a F
        refine rl_run F (run_move (F.ev rfl)) rfl ?_; clear F a; intro a F
        refine rl_run F (run_move (F.ev rfl)) rfl ?_; clear F a; intro a F
        obtain ⟨be12, oe12, _, Ie12, _, Ae12, ⟨rfl, hbe121, hbe122⟩⟩ := S.at hXe6
        refine rl_run F (run_indexI tok22.k tok29 (F.ev rfl) (F.ev rfl) (by omega) Ie12) rfl ?_; clear F a; intro a F
        refine rl_run F (run_fieldAddr tok29.k rfl rfl (F.ev rfl)) rfl ?_; clear F a; intro a F
        refine rl_run F (run_load1 (agf tok27 rfl) (F.ev rfl) (M.cellA Ae12 0 rfl rfl)) rfl ?_; clear F a; intro a F
        replace M := M.perm (perm_front _ 1 _ rfl)
        replace M := M.perm (perm_front _ 1 _ rfl)
        change Mem w0 Gr9 (.blk bm3 [.slice (adm11) (nm11) (cm11), .int .i64 (manym11), .int .i64 (tombsm11)] 55 :: .row (.slice (adm11) (nm11) (cm11)) (nm11) (csm11) 58 3 :: L) _ at M
        have hsg13 := get_spec (key := Xe6.key) M hnm11 Em11 Km11
        refine rl_callS F ent15 rfl rfl (hsg13) ?_; clear F M a; rintro _ w a M rfl F
        clear hsg13
        refine rl_run F (run_move (F.ev rfl)) rfl ?_; clear F a; intro a F
        refine rl_run F (run_extract (v := .int .i64 ((getF ((dropF (runF (xs.take i)) Xe6.key).1) Xe6.key).1)) (F.ev rfl) rfl) rfl ?_; clear F a; intro a F
        refine rl_run F (run_extract (v := .bool ((getF ((dropF (runF (xs.take i)) Xe6.key).1) Xe6.key).2)) (F.ev rfl) rfl) rfl ?_; clear F a; intro a F
        refine rl_run F (run_assign (F.ev rfl)) rfl ?_; clear F a; intro a F
        refine rl_run F (run_assign (F.ev rfl)) rfl ?_; clear F a; intro a F
        refine rl_nil ?_
        refine q_tn ?_
        refine wp_seq ?_
        refine w_reg ?_
        refine rl_run F (run_move (F.ev rfl)) rfl ?_; clear F a; intro a F
        refine rl_run F (run_move (F.ev rfl)) rfl ?_; clear F a; intro a F
        refine rl_run F (run_move (F.ev rfl)) rfl ?_; clear F a; intro a F
        obtain ⟨be14, oe14, _, Ie14, _, Ae14, ⟨rfl, hbe141, hbe142⟩⟩ := S.at hXe6
        refine rl_run F (run_indexI tok22.k tok29 (F.ev rfl) (F.ev rfl) (by omega) Ie14) rfl ?_; clear F a; intro a F
        refine rl_run F (run_fieldAddr tok29.k rfl rfl (F.ev rfl)) rfl ?_; clear F a; intro a F
        refine rl_run F (run_load1 (agf tok27 rfl) (F.ev rfl) (M.cellA Ae14 0 rfl rfl)) rfl ?_; clear F a; intro a F
        refine rl_callS F ent16 rfl rfl (at_spec (key := Xe6.key) M Sr9 (by (have h1 := runF_le xs i; try have h2 := putF_len (runF (xs.take i)) ‹StepD›.key ‹StepD›.v; try have h3 := dropF_len (runF (xs.take i)) ‹StepD›.key; omega))) ?_; clear F M a; rintro _ w a M rfl F
        have hat := atF_le ((dropF (runF (xs.take i)) Xe6.key).1) Xe6.key
        refine rl_run F (run_move (F.ev rfl)) rfl ?_; clear F a; intro a F
        refine rl_run F (run_extract (v := .int .i64 ((((atF ((dropF (runF (xs.take i)) Xe6.key).1) Xe6.key).1 : Nat) : Int))) (F.ev rfl) rfl) rfl ?_; clear F a; intro a F
        refine rl_run F (run_extract (v := .bool ((atF ((dropF (runF (xs.take i)) Xe6.key).1) Xe6.key).2)) (F.ev rfl) rfl) rfl ?_; clear F a; intro a F
        refine rl_run F (run_assign (F.ev rfl)) rfl ?_; clear F a; intro a F
        refine rl_run F (run_assign (F.ev rfl)) rfl ?_; clear F a; intro a F
        refine rl_nil ?_
        refine q_tn ?_
        refine wp_seq ?_
        refine w_reg ?_
        refine rl_run F (run_move (F.ev rfl)) rfl ?_; clear F a; intro a F
        refine rl_run F (run_move (F.ev rfl)) rfl ?_; clear F a; intro a F
        refine rl_run F (run_neb tok4.k (F.ev rfl) (F.ev rfl)) rfl ?_; clear F a; intro a F
        refine rl_run F (run_move (F.ev rfl)) rfl ?_; clear F a; intro a F
        have hg15 : (!(((getF ((dropF (runF (xs.take i)) Xe6.key).1) Xe6.key).2) == ((atF ((dropF (runF (xs.take i)) Xe6.key).1) Xe6.key).2))) = false := (not_f (by rw [getF_snd]; simp))
        refine rl_guard_t F rfl rfl rfl hg15 ?_
        refine rl_run F (run_move (F.ev rfl)) rfl ?_; clear F a; intro a F
        refine rl_guard_t F rfl rfl rfl hg15 ?_
        refine rl_run F (run_move (F.ev rfl)) rfl ?_; clear F a; intro a F
        rcases Bool.eq_false_or_eq_true ((atF ((dropF (runF (xs.take i)) Xe6.key).1) Xe6.key).2) with hc | hc
        · skip
          have h16b := hc; clear hc
          have h16 : ((atF ((dropF (runF (xs.take i)) Xe6.key).1) Xe6.key).2) = true := h16b
          refine rl_guard_t F rfl rfl rfl h16b ?_
          refine rl_run F (run_move (F.ev rfl)) rfl ?_; clear F a; intro a F
          refine rl_guard_t F rfl rfl rfl h16b ?_
          refine rl_run F (run_move (F.ev rfl)) rfl ?_; clear F a; intro a F
          refine rl_guard_t F rfl rfl rfl h16b ?_
          refine rl_run F (run_move (F.ev rfl)) rfl ?_; clear F a; intro a F
          refine rl_guard_t F rfl rfl rfl h16b ?_
          obtain ⟨Xx17, hXx17⟩ := get_of_lt (hat.2 ‹(atF ((dropF (runF (xs.take i)) Xe6.key).1) Xe6.key).2 = true›)
          obtain ⟨be18, oe18, _, Ie18, _, Ae18, ⟨rfl, hbe181, hbe182⟩⟩ := Sr9.at hXx17
          refine rl_run F (run_indexI tok26.k tok41 (F.ev rfl) (F.ev rfl) (by omega) Ie18) rfl ?_; clear F a; intro a F
          refine rl_guard_t F rfl rfl rfl h16b ?_
          refine rl_run F (run_fieldAddr tok41.k rfl rfl (F.ev rfl)) rfl ?_; clear F a; intro a F
          refine rl_guard_t F rfl rfl rfl h16b ?_
          refine rl_run F (run_load1 (agf tok3 rfl) (F.ev rfl) (M.cellA Ae18 1 rfl rfl)) rfl ?_; clear F a; intro a F
          refine rl_guard_t F rfl rfl rfl h16b ?_
          refine rl_run F (run_nei (F.ev rfl) (F.ev rfl)) rfl ?_; clear F a; intro a F
          refine rl_guard_t F rfl rfl rfl hg15 ?_
          refine rl_run F (run_pick_t (F.ev rfl) h16b (F.ev rfl)) rfl ?_; clear F a; intro a F
          refine rl_run F (run_pick_f (F.ev rfl) hg15 (F.ev rfl)) rfl ?_; clear F a; intro a F
          refine rl_run F (run_move (F.ev rfl)) rfl ?_; clear F a; intro a F
          have hg19 : (!(decide ((getF ((dropF (runF (xs.take i)) Xe6.key).1) Xe6.key).1 = Xx17.v))) = false := (not_f (decide_eq_true (by exact getF_at ‹(atF _ _).2 = true› hXx17)))
          refine rl_guard_t F rfl rfl rfl hg19 ?_
          refine rl_run F (run_move (F.ev rfl)) rfl ?_; clear F a; intro a F
          refine rl_guard_t F rfl rfl rfl hg19 ?_
          refine rl_run F (run_not (F.ev rfl)) rfl ?_; clear F a; intro a F
          refine rl_guard_t F rfl rfl rfl hg19 ?_
          refine rl_run F (run_move (F.ev rfl)) rfl ?_; clear F a; intro a F
          refine rl_guard_f F rfl rfl rfl (not_f h16b) ?_; clear F a; intro a F
          refine rl_guard_f F rfl rfl rfl (not_f h16b) ?_; clear F a; intro a F
          refine rl_guard_t F rfl rfl rfl hg19 ?_
          refine rl_run F (run_pick_f (F.ev rfl) (not_f h16b) (F.ev rfl)) rfl ?_; clear F a; intro a F
          refine rl_run F (run_pick_f (F.ev rfl) hg19 (F.ev rfl)) rfl ?_; clear F a; intro a F
          refine rl_nil ?_
          refine q_tn ?_
          refine w_cond_f F rfl rfl ?_
          refine wp_skip ?_
          refine q_bn ?_
          refine q_tn ?_
          refine w_reg ?_
          refine rl_run F (run_move (F.ev rfl)) rfl ?_; clear F a; intro a F
          refine rl_run F (run_addi (F.ev rfl) (F.ev rfl) (in_i64 (by omega) (by omega))) rfl ?_; clear F a; intro a F
          refine rl_run F (run_assign (F.ev rfl)) rfl ?_; clear F a; intro a F
          refine rl_nil ?_
          refine q_tn ?_
          rw [← runF_drop hXe6 (by assumption)] at F
          exact ⟨_, by omega, i + 1, (ar9), (cr9), max mo (runF (xs.take (i + 1))).length, (adm11), (nm11), (cm11), (manym11), (tombsm11), (csm11), (sm11), rfl, Gr9, (hG4.trans hGr9), F.to ⟨rfl, rfl, rfl, rfl, rfl, trivial⟩, M, by omega, by rw [runF_drop hXe6 (by assumption)]; exact Sr9, by have h1 := runF_le xs (i + 1); omega, hnm11, Em11, by rw [runF_drop hXe6 (by assumption)]; exact Km11.more (show mo ≤ _ by first | exact Nat.le_refl _ | exact Nat.le_max_left _ _)⟩
        · skip
          have h20b := hc; clear hc
          have h20 : ((atF ((dropF (runF (xs.take i)) Xe6.key).1) Xe6.key).2) = false := h20b
          refine rl_guard_f F rfl rfl rfl h20b ?_; clear F a; intro a F
          refine rl_guard_f F rfl rfl rfl h20b ?_; clear F a; intro a F
          refine rl_guard_f F rfl rfl rfl h20b ?_; clear F a; intro a F
          refine rl_guard_f F rfl rfl rfl h20b ?_; clear F a; intro a F
          refine rl_guard_f F rfl rfl rfl h20b ?_; clear F a; intro a F
          refine rl_guard_f F rfl rfl rfl h20b ?_; clear F a; intro a F
          refine rl_guard_f F rfl rfl rfl h20b ?_; clear F a; intro a F
          refine rl_guard_t F rfl rfl rfl hg15 ?_
          refine rl_run F (run_pick_f (F.ev rfl) h20b (F.ev rfl)) rfl ?_; clear F a; intro a F
          refine rl_run F (run_pick_f (F.ev rfl) hg15 (F.ev rfl)) rfl ?_; clear F a; intro a F
          refine rl_run F (run_move (F.ev rfl)) rfl ?_; clear F a; intro a F
          refine rl_guard_t F rfl rfl rfl rfl ?_
          refine rl_run F (run_move (F.ev rfl)) rfl ?_; clear F a; intro a F
          refine rl_guard_t F rfl rfl rfl rfl ?_
          refine rl_run F (run_not (F.ev rfl)) rfl ?_; clear F a; intro a F
          refine rl_guard_t F rfl rfl rfl rfl ?_
          refine rl_run F (run_move (F.ev rfl)) rfl ?_; clear F a; intro a F
          refine rl_guard_t F rfl rfl rfl (not_t h20b) ?_
          refine rl_run F (run_move (F.ev rfl)) rfl ?_; clear F a; intro a F
          refine rl_guard_t F rfl rfl rfl (not_t h20b) ?_
          refine rl_run F (run_nei (F.ev rfl) (F.ev rfl)) rfl ?_; clear F a; intro a F
          refine rl_guard_t F rfl rfl rfl rfl ?_
          refine rl_run F (run_pick_t (F.ev rfl) (not_t h20b) (F.ev rfl)) rfl ?_; clear F a; intro a F
          refine rl_run F (run_pick_f (F.ev rfl) rfl (F.ev rfl)) rfl ?_; clear F a; intro a F
          refine rl_nil ?_
          refine q_tn ?_
          refine w_cond_f F rfl (not_f (decide_eq_true (by exact getF_no ‹(atF _ _).2 = false›))) ?_
          refine wp_skip ?_
          refine q_bn ?_
          refine q_tn ?_
          refine w_reg ?_
          refine rl_run F (run_move (F.ev rfl)) rfl ?_; clear F a; intro a F
          refine rl_run F (run_addi (F.ev rfl) (F.ev rfl) (in_i64 (by omega) (by omega))) rfl ?_; clear F a; intro a F
          refine rl_run F (run_assign (F.ev rfl)) rfl ?_; clear F a; intro a F
          refine rl_nil ?_
          refine q_tn ?_
          rw [← runF_drop hXe6 (by assumption)] at F
          exact ⟨_, by omega, i + 1, (ar9), (cr9), max mo (runF (xs.take (i + 1))).length, (adm11), (nm11), (cm11), (manym11), (tombsm11), (csm11), (sm11), rfl, Gr9, (hG4.trans hGr9), F.to ⟨rfl, rfl, rfl, rfl, rfl, trivial⟩, M, by omega, by rw [runF_drop hXe6 (by assumption)]; exact Sr9, by have h1 := runF_le xs (i + 1); omega, hnm11, Em11, by rw [runF_drop hXe6 (by assumption)]; exact Km11.more (show mo ≤ _ by first | exact Nat.le_refl _ | exact Nat.le_max_left _ _)⟩
      · intro hc
        have h21b := hc; clear hc
        have h21 : (Xe6.drop) = false := h21b
        refine wp_seq ?_
        refine w_plan [(true, 0), (true, 1), (true, 2), (true, 3), (true, 4), (true, 5), (true, 6), (true, 7), (true, 8), (true, 9), (true, 10), (false, 11), (true, 12), (true, 13), (true, 14), (true, 15), (true, 16)] (Keep G4 []) rfl (by kernel_rfl) (fun c a d v w h => by cases d <;> exact h) ((M.drew _).keep (Gle.refl _) (by simp)) ?_
        replace M := M.drew (w.drawn + 1)
        refine pl_run F (fun w M => run_move (F.ev rfl)) rfl ?_; clear F a; intro a F
        refine pl_run F (fun w M => run_move (F.ev rfl)) rfl ?_; clear F a; intro a F
        refine pl_run F (fun w M => run_move (F.ev rfl)) rfl ?_; clear F a; intro a F
        obtain ⟨be22, oe22, _, Ie22, _, Ae22, ⟨rfl, hbe221, hbe222⟩⟩ := S.at hXe6
        refine pl_run F (fun w M => run_indexI tok22.k tok29 (F.ev rfl) (F.ev rfl) (by omega) Ie22) rfl ?_; clear F a; intro a F
        refine pl_run F (fun w M => run_fieldAddr tok29.k rfl rfl (F.ev rfl)) rfl ?_; clear F a; intro a F
        refine pl_run F (fun w M => run_load1 (agf tok27 rfl) (F.ev rfl) (M.cellA Ae22 0 rfl rfl)) rfl ?_; clear F a; intro a F
        refine pl_run F (fun w M => run_move (F.ev rfl)) rfl ?_; clear F a; intro a F
        refine pl_run F (fun w M => run_move (F.ev rfl)) rfl ?_; clear F a; intro a F
        obtain ⟨be23, oe23, _, Ie23, _, Ae23, ⟨rfl, hbe231, hbe232⟩⟩ := S.at hXe6
        refine pl_run F (fun w M => run_indexI tok22.k tok29 (F.ev rfl) (F.ev rfl) (by omega) Ie23) rfl ?_; clear F a; intro a F
        refine pl_run F (fun w M => run_fieldAddr tok29.k rfl rfl (F.ev rfl)) rfl ?_; clear F a; intro a F
        refine pl_run F (fun w M => run_load1 (agf tok3 rfl) (F.ev rfl) (M.cellA Ae23 1 rfl rfl)) rfl ?_; clear F a; intro a F
        refine pl_act ?_ rfl
        refine rl_call F ent13 rfl rfl (put_spec (key := Xe6.key) (v := Xe6.v) M Sw (by first | assumption | exact ⟨by decide, by decide⟩ | exact wrap_ink _ _ | exact in_u64 (by omega) (by omega)) (by first | assumption | exact ⟨by decide, by decide⟩ | exact wrap_ink _ _ | exact in_i64 (by omega) (by omega)) (by (have h1 := runF_le xs i; try have h2 := putF_len (runF (xs.take i)) ‹StepD›.key ‹StepD›.v; try have h3 := dropF_len (runF (xs.take i)) ‹StepD›.key; omega))) ?_; clear F M a; rintro _ Gr24 w a hGr24 M ⟨ar24, cr24, rfl, Sr24⟩ F
        replace S := S.mono mono_rdStep hGr24
        replace Sw := Sw.mono mono_rdPair hGr24
        replace Em := Em.mono mono_rdSlot hGr24
        replace Ae6 := Ae6.mono hGr24
        replace Ae22 := Ae22.mono hGr24
        replace Ae23 := Ae23.mono hGr24
        refine rl_nil ?_
        refine ⟨Keep Gr24 [], M.keep (Gle.refl _) (by simp), fun w h => h.mono hGr24 (by simp), ?_⟩
        refine pl_run F (fun w M => run_move (F.ev rfl)) rfl ?_; clear F a; intro a F
        refine pl_run F (fun w M => run_extract (v := .slice (ar24) ((putF (runF (xs.take i)) Xe6.key Xe6.v).1.length) (cr24)) (F.ev rfl) rfl) rfl ?_; clear F a; intro a F
        refine pl_run F (fun w M => run_extract (v := .int .i64 ((putF (runF (xs.take i)) Xe6.key Xe6.v).2)) (F.ev rfl) rfl) rfl ?_; clear F a; intro a F
        refine pl_run F (fun w M => run_assign (F.ev rfl)) rfl ?_; clear F a; intro a F
        refine pl_run F (fun w M => run_assign (F.ev rfl)) rfl ?_; clear F a; intro a F
        refine pl_nil ?_
        refine q_tn ?_
        refine wp_seq ?_
        refine wp_seq ?_
        refine w_plan [(true, 0), (true, 1), (true, 2), (true, 3), (true, 4), (true, 5), (true, 6), (true, 7), (true, 8), (true, 9), (true, 10), (true, 12), (false, 11), (true, 13)] (Keep Gr24 []) rfl (by kernel_rfl) (fun c a d v w h => by cases d <;> exact h) ((M.drew _).keep (Gle.refl _) (by simp)) ?_
        replace M := M.drew (w.drawn + 1)
        refine pl_run F (fun w M => run_move (F.ev rfl)) rfl ?_; clear F a; intro a F
        refine pl_run F (fun w M => run_move (F.ev rfl)) rfl ?_; clear F a; intro a F
        refine pl_run F (fun w M => run_move (F.ev rfl)) rfl ?_; clear F a; intro a F
        obtain ⟨be25, oe25, _, Ie25, _, Ae25, ⟨rfl, hbe251, hbe252⟩⟩ := S.at hXe6
        refine pl_run F (fun w M => run_indexI tok22.k tok29 (F.ev rfl) (F.ev rfl) (by omega) Ie25) rfl ?_; clear F a; intro a F
        refine pl_run F (fun w M => run_fieldAddr tok29.k rfl rfl (F.ev rfl)) rfl ?_; clear F a; intro a F
        refine pl_run F (fun w M => run_load1 (agf tok27 rfl) (F.ev rfl) (M.cellA Ae25 0 rfl rfl)) rfl ?_; clear F a; intro a F
        refine pl_run F (fun w M => run_move (F.ev rfl)) rfl ?_; clear F a; intro a F
        refine pl_run F (fun w M => run_move (F.ev rfl)) rfl ?_; clear F a; intro a F
        obtain ⟨be26, oe26, _, Ie26, _, Ae26, ⟨rfl, hbe261, hbe262⟩⟩ := S.at hXe6
        refine pl_run F (fun w M => run_indexI tok22.k tok29 (F.ev rfl) (F.ev rfl) (by omega) Ie26) rfl ?_; clear F a; intro a F
        refine pl_run F (fun w M => run_fieldAddr tok29.k rfl rfl (F.ev rfl)) rfl ?_; clear F a; intro a F
        refine pl_run F (fun w M => run_load1 (agf tok3 rfl) (F.ev rfl) (M.cellA Ae26 1 rfl rfl)) rfl ?_; clear F a; intro a F
        refine pl_run F (fun w M => run_move (F.ev rfl)) rfl ?_; clear F a; intro a F
        refine pl_act ?_ rfl
        replace M := M.perm (perm_front _ 1 _ rfl)
        replace M := M.perm (perm_front _ 1 _ rfl)
        change Mem w0 Gr24 (.blk bm3 [.slice (adm) (nm) (cm), .int .i64 (manym), .int .i64 (tombsm)] 55 :: .row (.slice (adm) (nm) (cm)) (nm) (csm) 58 3 :: L) _ at M
        have hsm27 := putm_spec (v := Xe6.v) M hnm Em Km (key := Xe6.key) (by first | assumption | exact ⟨by decide, by decide⟩ | exact wrap_ink _ _ | exact in_u64 (by omega) (by omega)) (by first | decide | exact (‹inKind .u64 (Xe6.key)›).1 | omega) (by first | assumption | exact ⟨by decide, by decide⟩ | exact wrap_ink _ _ | exact in_i64 (by omega) (by omega))
        refine rl_callL F ent14 rfl rfl (hsm27) ?_; clear F M a; rintro _ _ w a M ⟨⟨adm27, nm27, cm27, manym27, tombsm27, csm27, sm27, rfl, hnm27, Em27, Km27⟩, rfl⟩ F
        clear hsm27
        refine rl_nil ?_
        refine ⟨Keep Gr24 [], M.keep (Gle.refl _) (by simp), fun w h => h.mono (Gle.refl _) (by simp), ?_⟩
        refine pl_run F (fun w M => run_nei (F.ev rfl) (F.ev rfl)) rfl ?_; clear F a; intro a F
        refine pl_nil ?_
        refine q_tn ?_
        refine w_cond_f F rfl (not_f (decide_eq_true (by rfl))) ?_
        refine wp_skip ?_
        refine q_tn ?_
        refine w_reg ?_
        refine rl_run F (run_move (F.ev rfl)) rfl ?_; clear F a; intro a F
        refine rl_run F (run_assign (F.ev rfl)) rfl ?_; clear F a; intro a F
        refine rl_nil ?_
        refine q_tn ?_
        refine wp_seq ?_
        refine w_reg ?_
        refine rl_run F (run_move (F.ev rfl)) rfl ?_; clear F a; intro a F
        refine rl_run F (run_move (F.ev rfl)) rfl ?_; clear F a; intro a F
        refine rl_run F (run_lenSl tok26.k (F.ev rfl)) rfl ?_; clear F a; intro a F
        refine rl_run F (run_max2N (b := mo) (c := (putF (runF (xs.take i)) Xe6.key Xe6.v).1.length) (F.ev rfl) (F.ev rfl)) rfl ?_; clear F a; intro a F
        refine rl_run F (run_assign (F.ev rfl)) rfl ?_; clear F a; intro a F
        refine rl_nil ?_
        refine q_tn ?_
        refine wp_seq ?_
        refine w_reg ?_
        refine rl_run F (run_move (F.ev rfl)) rfl ?_; clear F a; intro a F
        refine rl_run F (run_move (F.ev rfl)) rfl ?_; clear F a; intro a F
        refine rl_run F (run_move (F.ev rfl)) rfl ?_; clear F a; intro a F
        obtain ⟨be28, oe28, _, Ie28, _, Ae28, ⟨rfl, hbe281, hbe282⟩⟩ := S.at hXe6
        refine rl_run F (run_indexI tok22.k tok29 (F.ev rfl) (F.ev rfl) (by omega) Ie28) rfl ?_; clear F a; intro a F
        refine rl_run F (run_fieldAddr tok29.k rfl rfl (F.ev rfl)) rfl ?_; clear F a; intro a F
        refine rl_run F (run_load1 (agf tok27 rfl) (F.ev rfl) (M.cellA Ae28 0 rfl rfl)) rfl ?_; clear F a; intro a F
        replace M := M.perm (perm_front _ 1 _ rfl)
        replace M := M.perm (perm_front _ 1 _ rfl)
        change Mem w0 Gr24 (.blk bm3 [.slice (adm27) (nm27) (cm27), .int .i64 (manym27), .int .i64 (tombsm27)] 55 :: .row (.slice (adm27) (nm27) (cm27)) (nm27) (csm27) 58 3 :: L) _ at M
        have hsg29 := get_spec (key := Xe6.key) M hnm27 Em27 Km27
        refine rl_callS F ent15 rfl rfl (hsg29) ?_; clear F M a; rintro _ w a M rfl F
        clear hsg29
        refine rl_run F (run_move (F.ev rfl)) rfl ?_; clear F a; intro a F
        refine rl_run F (run_extract (v := .int .i64 ((getF ((putF (runF (xs.take i)) Xe6.key Xe6.v).1) Xe6.key).1)) (F.ev rfl) rfl) rfl ?_; clear F a; intro a F
        refine rl_run F (run_extract (v := .bool ((getF ((putF (runF (xs.take i)) Xe6.key Xe6.v).1) Xe6.key).2)) (F.ev rfl) rfl) rfl ?_; clear F a; intro a F
        refine rl_run F (run_assign (F.ev rfl)) rfl ?_; clear F a; intro a F
        refine rl_run F (run_assign (F.ev rfl)) rfl ?_; clear F a; intro a F
        refine rl_nil ?_
        refine q_tn ?_
        refine wp_seq ?_
        refine w_reg ?_
        refine rl_run F (run_move (F.ev rfl)) rfl ?_; clear F a; intro a F
        refine rl_run F (run_move (F.ev rfl)) rfl ?_; clear F a; intro a F
        refine rl_run F (run_move (F.ev rfl)) rfl ?_; clear F a; intro a F
        obtain ⟨be30, oe30, _, Ie30, _, Ae30, ⟨rfl, hbe301, hbe302⟩⟩ := S.at hXe6
        refine rl_run F (run_indexI tok22.k tok29 (F.ev rfl) (F.ev rfl) (by omega) Ie30) rfl ?_; clear F a; intro a F
        refine rl_run F (run_fieldAddr tok29.k rfl rfl (F.ev rfl)) rfl ?_; clear F a; intro a F
        refine rl_run F (run_load1 (agf tok27 rfl) (F.ev rfl) (M.cellA Ae30 0 rfl rfl)) rfl ?_; clear F a; intro a F
        refine rl_callS F ent16 rfl rfl (at_spec (key := Xe6.key) M Sr24 (by (have h1 := runF_le xs i; try have h2 := putF_len (runF (xs.take i)) ‹StepD›.key ‹StepD›.v; try have h3 := dropF_len (runF (xs.take i)) ‹StepD›.key; omega))) ?_; clear F M a; rintro _ w a M rfl F
        have hat := atF_le ((putF (runF (xs.take i)) Xe6.key Xe6.v).1) Xe6.key
        refine rl_run F (run_move (F.ev rfl)) rfl ?_; clear F a; intro a F
        refine rl_run F (run_extract (v := .int .i64 ((((atF ((putF (runF (xs.take i)) Xe6.key Xe6.v).1) Xe6.key).1 : Nat) : Int))) (F.ev rfl) rfl) rfl ?_; clear F a; intro a F
        refine rl_run F (run_extract (v := .bool ((atF ((putF (runF (xs.take i)) Xe6.key Xe6.v).1) Xe6.key).2)) (F.ev rfl) rfl) rfl ?_; clear F a; intro a F
        refine rl_run F (run_assign (F.ev rfl)) rfl ?_; clear F a; intro a F
        refine rl_run F (run_assign (F.ev rfl)) rfl ?_; clear F a; intro a F
        refine rl_nil ?_
        refine q_tn ?_
        refine wp_seq ?_
        refine w_reg ?_
        refine rl_run F (run_move (F.ev rfl)) rfl ?_; clear F a; intro a F
        refine rl_run F (run_move (F.ev rfl)) rfl ?_; clear F a; intro a F
        refine rl_run F (run_neb tok4.k (F.ev rfl) (F.ev rfl)) rfl ?_; clear F a; intro a F
        refine rl_run F (run_move (F.ev rfl)) rfl ?_; clear F a; intro a F
        have hg31 : (!(((getF ((putF (runF (xs.take i)) Xe6.key Xe6.v).1) Xe6.key).2) == ((atF ((putF (runF (xs.take i)) Xe6.key Xe6.v).1) Xe6.key).2))) = false := (not_f (by rw [getF_snd]; simp))
        refine rl_guard_t F rfl rfl rfl hg31 ?_
        refine rl_run F (run_move (F.ev rfl)) rfl ?_; clear F a; intro a F
        refine rl_guard_t F rfl rfl rfl hg31 ?_
        refine rl_run F (run_move (F.ev rfl)) rfl ?_; clear F a; intro a F
        rcases Bool.eq_false_or_eq_true ((atF ((putF (runF (xs.take i)) Xe6.key Xe6.v).1) Xe6.key).2) with hc | hc
        · skip
          have h32b := hc; clear hc
          have h32 : ((atF ((putF (runF (xs.take i)) Xe6.key Xe6.v).1) Xe6.key).2) = true := h32b
          refine rl_guard_t F rfl rfl rfl h32b ?_
          refine rl_run F (run_move (F.ev rfl)) rfl ?_; clear F a; intro a F
          refine rl_guard_t F rfl rfl rfl h32b ?_
          refine rl_run F (run_move (F.ev rfl)) rfl ?_; clear F a; intro a F
          refine rl_guard_t F rfl rfl rfl h32b ?_
          refine rl_run F (run_move (F.ev rfl)) rfl ?_; clear F a; intro a F
          refine rl_guard_t F rfl rfl rfl h32b ?_
          obtain ⟨Xx33, hXx33⟩ := get_of_lt (hat.2 ‹(atF ((putF (runF (xs.take i)) Xe6.key Xe6.v).1) Xe6.key).2 = true›)
          obtain ⟨be34, oe34, _, Ie34, _, Ae34, ⟨rfl, hbe341, hbe342⟩⟩ := Sr24.at hXx33
          refine rl_run F (run_indexI tok26.k tok41 (F.ev rfl) (F.ev rfl) (by omega) Ie34) rfl ?_; clear F a; intro a F
          refine rl_guard_t F rfl rfl rfl h32b ?_
          refine rl_run F (run_fieldAddr tok41.k rfl rfl (F.ev rfl)) rfl ?_; clear F a; intro a F
          refine rl_guard_t F rfl rfl rfl h32b ?_
          refine rl_run F (run_load1 (agf tok3 rfl) (F.ev rfl) (M.cellA Ae34 1 rfl rfl)) rfl ?_; clear F a; intro a F
          refine rl_guard_t F rfl rfl rfl h32b ?_
          refine rl_run F (run_nei (F.ev rfl) (F.ev rfl)) rfl ?_; clear F a; intro a F
          refine rl_guard_t F rfl rfl rfl hg31 ?_
          refine rl_run F (run_pick_t (F.ev rfl) h32b (F.ev rfl)) rfl ?_; clear F a; intro a F
          refine rl_run F (run_pick_f (F.ev rfl) hg31 (F.ev rfl)) rfl ?_; clear F a; intro a F
          refine rl_run F (run_move (F.ev rfl)) rfl ?_; clear F a; intro a F
          have hg35 : (!(decide ((getF ((putF (runF (xs.take i)) Xe6.key Xe6.v).1) Xe6.key).1 = Xx33.v))) = false := (not_f (decide_eq_true (by exact getF_at ‹(atF _ _).2 = true› hXx33)))
          refine rl_guard_t F rfl rfl rfl hg35 ?_
          refine rl_run F (run_move (F.ev rfl)) rfl ?_; clear F a; intro a F
          refine rl_guard_t F rfl rfl rfl hg35 ?_
          refine rl_run F (run_not (F.ev rfl)) rfl ?_; clear F a; intro a F
          refine rl_guard_t F rfl rfl rfl hg35 ?_
          refine rl_run F (run_move (F.ev rfl)) rfl ?_; clear F a; intro a F
          refine rl_guard_f F rfl rfl rfl (not_f h32b) ?_; clear F a; intro a F
          refine rl_guard_f F rfl rfl rfl (not_f h32b) ?_; clear F a; intro a F
          refine rl_guard_t F rfl rfl rfl hg35 ?_
          refine rl_run F (run_pick_f (F.ev rfl) (not_f h32b) (F.ev rfl)) rfl ?_; clear F a; intro a F
          refine rl_run F (run_pick_f (F.ev rfl) hg35 (F.ev rfl)) rfl ?_; clear F a; intro a F
          refine rl_nil ?_
          refine q_tn ?_
          refine w_cond_f F rfl rfl ?_
          refine wp_skip ?_
          refine q_bn ?_
          refine q_tn ?_
          refine w_reg ?_
          refine rl_run F (run_move (F.ev rfl)) rfl ?_; clear F a; intro a F
          refine rl_run F (run_addi (F.ev rfl) (F.ev rfl) (in_i64 (by omega) (by omega))) rfl ?_; clear F a; intro a F
          refine rl_run F (run_assign (F.ev rfl)) rfl ?_; clear F a; intro a F
          refine rl_nil ?_
          refine q_tn ?_
          rw [← runF_put hXe6 (by assumption)] at F
          exact ⟨_, by omega, i + 1, (ar24), (cr24), max mo (runF (xs.take (i + 1))).length, (adm27), (nm27), (cm27), (manym27), (tombsm27), (csm27), (sm27), rfl, Gr24, (hG4.trans hGr24), F.to ⟨rfl, rfl, rfl, rfl, rfl, trivial⟩, M, by omega, by rw [runF_put hXe6 (by assumption)]; exact Sr24, by have h1 := runF_le xs (i + 1); omega, hnm27, Em27, by rw [runF_put hXe6 (by assumption)]; exact Km27.more (show max mo ((putF (runF (xs.take i)) Xe6.key Xe6.v).1).length ≤ _ by first | exact Nat.le_refl _ | exact Nat.le_max_left _ _)⟩
        · skip
          have h36b := hc; clear hc
          have h36 : ((atF ((putF (runF (xs.take i)) Xe6.key Xe6.v).1) Xe6.key).2) = false := h36b
          refine rl_guard_f F rfl rfl rfl h36b ?_; clear F a; intro a F
          refine rl_guard_f F rfl rfl rfl h36b ?_; clear F a; intro a F
          refine rl_guard_f F rfl rfl rfl h36b ?_; clear F a; intro a F
          refine rl_guard_f F rfl rfl rfl h36b ?_; clear F a; intro a F
          refine rl_guard_f F rfl rfl rfl h36b ?_; clear F a; intro a F
          refine rl_guard_f F rfl rfl rfl h36b ?_; clear F a; intro a F
          refine rl_guard_f F rfl rfl rfl h36b ?_; clear F a; intro a F
          refine rl_guard_t F rfl rfl rfl hg31 ?_
          refine rl_run F (run_pick_f (F.ev rfl) h36b (F.ev rfl)) rfl ?_; clear F a; intro a F
          refine rl_run F (run_pick_f (F.ev rfl) hg31 (F.ev rfl)) rfl ?_; clear F a; intro a F
          refine rl_run F (run_move (F.ev rfl)) rfl ?_; clear F a; intro a F
          refine rl_guard_t F rfl rfl rfl rfl ?_
          refine rl_run F (run_move (F.ev rfl)) rfl ?_; clear F a; intro a F
          refine rl_guard_t F rfl rfl rfl rfl ?_
          refine rl_run F (run_not (F.ev rfl)) rfl ?_; clear F a; intro a F
          refine rl_guard_t F rfl rfl rfl rfl ?_
          refine rl_run F (run_move (F.ev rfl)) rfl ?_; clear F a; intro a F
          refine rl_guard_t F rfl rfl rfl (not_t h36b) ?_
          refine rl_run F (run_move (F.ev rfl)) rfl ?_; clear F a; intro a F
          refine rl_guard_t F rfl rfl rfl (not_t h36b) ?_
          refine rl_run F (run_nei (F.ev rfl) (F.ev rfl)) rfl ?_; clear F a; intro a F
          refine rl_guard_t F rfl rfl rfl rfl ?_
          refine rl_run F (run_pick_t (F.ev rfl) (not_t h36b) (F.ev rfl)) rfl ?_; clear F a; intro a F
          refine rl_run F (run_pick_f (F.ev rfl) rfl (F.ev rfl)) rfl ?_; clear F a; intro a F
          refine rl_nil ?_
          refine q_tn ?_
          refine w_cond_f F rfl (not_f (decide_eq_true (by exact getF_no ‹(atF _ _).2 = false›))) ?_
          refine wp_skip ?_
          refine q_bn ?_
          refine q_tn ?_
          refine w_reg ?_
          refine rl_run F (run_move (F.ev rfl)) rfl ?_; clear F a; intro a F
          refine rl_run F (run_addi (F.ev rfl) (F.ev rfl) (in_i64 (by omega) (by omega))) rfl ?_; clear F a; intro a F
          refine rl_run F (run_assign (F.ev rfl)) rfl ?_; clear F a; intro a F
          refine rl_nil ?_
          refine q_tn ?_
          rw [← runF_put hXe6 (by assumption)] at F
          exact ⟨_, by omega, i + 1, (ar24), (cr24), max mo (runF (xs.take (i + 1))).length, (adm27), (nm27), (cm27), (manym27), (tombsm27), (csm27), (sm27), rfl, Gr24, (hG4.trans hGr24), F.to ⟨rfl, rfl, rfl, rfl, rfl, trivial⟩, M, by omega, by rw [runF_put hXe6 (by assumption)]; exact Sr24, by have h1 := runF_le xs (i + 1); omega, hnm27, Em27, by rw [runF_put hXe6 (by assumption)]; exact Km27.more (show max mo ((putF (runF (xs.take i)) Xe6.key Xe6.v).1).length ≤ _ by first | exact Nat.le_refl _ | exact Nat.le_max_left _ _)⟩
    · intro hc
      have h37b := hc; clear hc
      have h37 : ¬ (((i : Nat) : Int) < ((xs.length : Nat) : Int)) := of_decide_eq_false h37b
      refine wp_exit ?_
      refine q_te ?_
      refine q_te ?_
      refine q_bh ?_
      refine q_tn ?_
      refine wp_seq ?_
      refine w_reg ?_
      refine rl_run F (run_move (F.ev rfl)) rfl ?_; clear F a; intro a F
      refine rl_run F (run_move (F.ev rfl)) rfl ?_; clear F a; intro a F
      refine rl_run F (run_move (F.ev rfl)) rfl ?_; clear F a; intro a F
      replace M := M.perm (perm_front _ 1 _ rfl)
      replace M := M.perm (perm_front _ 1 _ rfl)
      change Mem w0 G4 (.blk bm3 [.slice (adm) (nm) (cm), .int .i64 (manym), .int .i64 (tombsm)] 55 :: .row (.slice (adm) (nm) (cm)) (nm) (csm) 58 3 :: L) _ at M
      refine rl_callS F ent17 rfl rfl (same_spec (ps := runF (xs.take i)) (most := mo) M hnm Em Km Sw (by omega)) ?_; clear F M a; rintro _ w a M rfl F
      refine rl_run F (run_move (F.ev rfl)) rfl ?_; clear F a; intro a F
      refine rl_guard_t F rfl rfl rfl rfl ?_
      refine rl_callS F ent9 rfl rfl (lives_spec M) ?_; clear F M a; rintro _ w a M rfl F
      refine rl_run F (run_pick_t (F.ev rfl) rfl (F.ev rfl)) rfl ?_; clear F a; intro a F
      refine rl_run F (run_assign (F.ev rfl)) rfl ?_; clear F a; intro a F
      refine rl_nil ?_
      refine q_tn ?_
      refine wp_ret ?_
      refine fin1 F rfl rfl ?_
      exact ⟨_, hG4, M.weaken (.cons _ (.cons _ (List.Sublist.refl _))), rfl⟩

theorem script_law {w0 w : World} {G : Ghost} {L : List Res} (M : Mem w0 G L w) {ao : Option Addr} {co : Nat} {xs : List StepD} (S : RdSl rdStep 3 G (.slice ao xs.length co) xs) (hxl : xs.length ≤ 9223372036854775807) :
    Calls Try.prog 3 #[.slice ao xs.length co] w (RetS w0 G L fun v => v = .bool true) := Ret.plain M (script_ret M S hxl)

end Go.Proofs.Ytnloilnlehgngaa
