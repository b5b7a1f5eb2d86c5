/- The walks, part I. -/
import Derived.Test.YtokeofoemjeleaaDoorWalkH
import Derived.Test.YtokeofoemjeleaaDoorKth
namespace Go.Proofs.YtokeofoemjeleaaDoor
open Go Go.Y Go.Proofs
set_option linter.unusedSimpArgs false
set_option linter.unusedVariables false
theorem find_ret {w0 w : World} {G : Ghost} {L : List Res} (M : Mem w0 G L w) (HG : Globs 0 1 4 5 G) {ad : Option Addr} {c : Nat} {xs : List PairD} (S : RdSl rdPair 2 G (.slice ad xs.length c) xs) (hxs : xs.length ≤ 9223372036854775807) {key : Int} : Calls Tryd.prog 8 #[.slice ad xs.length c, .int .u64 key] w (Ret w0 G L fun _ v => v = .bool true) := by
  refine calls_start (vs := [_, _]) Tryd.func8 rfl (n := 159) rfl rfl ?_
  intro a F
  refine wp_seq ?_
  refine w_reg ?_
  refine rl_run F (run_assign (F.ev rfl)) rfl ?_; clear F a; intro a F
  refine rl_nil ?_
  refine q_tn ?_
  refine wp_seq ?_
  refine wp_seq ?_
  refine w_reg ?_
  refine rl_run F (run_move (F.ev rfl)) rfl ?_; clear F a; intro a F
  refine rl_run F (run_lenSl tok22.k (F.ev rfl)) rfl ?_; clear F a; intro a F
  refine rl_run F (run_gtr (F.ev rfl) (F.ev rfl)) rfl ?_; clear F a; intro a F
  refine rl_nil ?_
  refine q_tn ?_
  refine w_cond F rfl ?_ ?_
  · intro hc
    have h1b := hc; clear hc
    have h1 : 60 < ((xs.length : Nat) : Int) := of_decide_eq_true h1b
    refine wp_seq ?_
    refine w_reg ?_
    refine rl_callS F ent10 rfl rfl (lives_spec M HG) ?_; clear F M a; rintro _ w a M rfl F
    refine rl_run F (run_assign (F.ev rfl)) rfl ?_; clear F a; intro a F
    refine rl_nil ?_
    refine q_tn ?_
    refine wp_ret ?_
    refine q_tr ?_
    refine fin1 F rfl rfl ?_
    exact ⟨G, (Gle.refl _), M.weaken (List.Sublist.refl _), rfl⟩
  · intro hc
    have h2b := hc; clear hc
    have h2 : ¬ (60 < ((xs.length : Nat) : Int)) := of_decide_eq_false h2b
    refine wp_skip ?_
    refine q_tn ?_
    refine wp_seq ?_
    refine w_reg ?_
    refine rl_run F (run_move (F.ev rfl)) rfl ?_; clear F a; intro a F
    refine rl_run F (run_move (F.ev rfl)) rfl ?_; clear F a; intro a F
    refine rl_callS F ent20 rfl rfl (find_spec (key := key) M S (by omega)) ?_; clear F M a; rintro _ w a M rfl F
    refine rl_run F (run_move (F.ev rfl)) rfl ?_; clear F a; intro a F
    refine rl_run F (run_extract (v := .int .i64 ((findV xs key).1)) (F.ev rfl) rfl) rfl ?_; clear F a; intro a F
    refine rl_run F (run_extract (v := .bool ((findV xs key).2)) (F.ev rfl) rfl) rfl ?_; clear F a; intro a F
    refine rl_run F (run_assign (F.ev rfl)) rfl ?_; clear F a; intro a F
    refine rl_run F (run_assign (F.ev rfl)) rfl ?_; clear F a; intro a F
    refine rl_nil ?_
    refine q_tn ?_
    refine wp_seq ?_
    refine w_reg ?_
    refine rl_run F (run_move (F.ev rfl)) rfl ?_; clear F a; intro a F
    refine rl_run F (run_move (F.ev rfl)) rfl ?_; clear F a; intro a F
    refine rl_callS F ent21 rfl rfl (rat_spec (xs := xs) (key := key) M S (by omega)) ?_; clear F M a; rintro _ w a M ⟨z3, rfl, haz3⟩ F
    refine rl_run F (run_assign (F.ev rfl)) rfl ?_; clear F a; intro a F
    refine rl_nil ?_
    refine q_tn ?_
    refine wp_seq ?_
    refine wp_seq ?_
    rcases haz3 with ⟨ia, Xa, rfl, hXa, hka, hfa⟩ | ⟨rfl, hna⟩
    · skip
      have hfv : findV xs key = (Xa.v, true) := by unfold findV; rw [find_at hXa hka hfa]
      have hf1 : (findV xs key).1 = Xa.v := by rw [hfv]
      have hf2 : (findV xs key).2 = true := by rw [hfv]
      rw [hf1, hf2] at F
      have hia := lt_of_get hXa
      refine w_reg ?_
      refine rl_run F (run_move (F.ev rfl)) rfl ?_; clear F a; intro a F
      refine rl_run F (run_move (F.ev rfl)) rfl ?_; clear F a; intro a F
      refine rl_run F (run_geq (F.ev rfl) (F.ev rfl)) rfl ?_; clear F a; intro a F
      refine rl_run F (run_neb tok4.k (F.ev rfl) (F.ev rfl)) rfl ?_; clear F a; intro a F
      refine rl_run F (run_move (F.ev rfl)) rfl ?_; clear F a; intro a F
      have hg4 : (!(true == (decide (0 ≤ ((ia : Nat) : Int))))) = false := (not_f (by first | rfl | omega | simp | (simp; omega)))
      refine rl_guard_t F rfl rfl rfl hg4 ?_
      refine rl_run F (run_move (F.ev rfl)) rfl ?_; clear F a; intro a F
      refine rl_guard_t F rfl rfl rfl hg4 ?_
      refine rl_run F (run_geq (F.ev rfl) (F.ev rfl)) rfl ?_; clear F a; intro a F
      refine rl_guard_t F rfl rfl rfl hg4 ?_
      refine rl_run F (run_move (F.ev rfl)) rfl ?_; clear F a; intro a F
      refine rl_guard_t F rfl rfl rfl (decide_eq_true (by omega)) ?_
      refine rl_run F (run_move (F.ev rfl)) rfl ?_; clear F a; intro a F
      refine rl_guard_t F rfl rfl rfl (decide_eq_true (by omega)) ?_
      refine rl_run F (run_move (F.ev rfl)) rfl ?_; clear F a; intro a F
      refine rl_guard_t F rfl rfl rfl (decide_eq_true (by omega)) ?_
      refine rl_run F (run_move (F.ev rfl)) rfl ?_; clear F a; intro a F
      refine rl_guard_t F rfl rfl rfl (decide_eq_true (by omega)) ?_
      obtain ⟨be5, oe5, _, Ie5, _, Ae5, ⟨rfl, hbe51, hbe52⟩⟩ := S.at hXa
      refine rl_run F (run_indexI tok22.k tok39 (F.ev rfl) (F.ev rfl) (by omega) Ie5) rfl ?_; clear F a; intro a F
      refine rl_guard_t F rfl rfl rfl (decide_eq_true (by omega)) ?_
      refine rl_run F (run_fieldAddr tok39.k rfl rfl (F.ev rfl)) rfl ?_; clear F a; intro a F
      refine rl_guard_t F rfl rfl rfl (decide_eq_true (by omega)) ?_
      refine rl_run F (run_load1 (agf tok2 rfl) (F.ev rfl) (M.cellA Ae5 1 rfl rfl)) rfl ?_; clear F a; intro a F
      refine rl_guard_t F rfl rfl rfl (decide_eq_true (by omega)) ?_
      refine rl_run F (run_nei (F.ev rfl) (F.ev rfl)) rfl ?_; clear F a; intro a F
      refine rl_guard_t F rfl rfl rfl hg4 ?_
      refine rl_run F (run_pick_t (F.ev rfl) (decide_eq_true (by omega)) (F.ev rfl)) rfl ?_; clear F a; intro a F
      refine rl_run F (run_pick_f (F.ev rfl) hg4 (F.ev rfl)) rfl ?_; clear F a; intro a F
      refine rl_run F (run_move (F.ev rfl)) rfl ?_; clear F a; intro a F
      have hg6 : (!(decide (Xa.v = Xa.v))) = false := (not_f (decide_eq_true (by first | rfl | omega | simp | (simp; omega))))
      refine rl_guard_t F rfl rfl rfl hg6 ?_
      refine rl_run F (run_move (F.ev rfl)) rfl ?_; clear F a; intro a F
      refine rl_guard_t F rfl rfl rfl hg6 ?_
      refine rl_run F (run_lss (F.ev rfl) (F.ev rfl)) rfl ?_; clear F a; intro a F
      refine rl_guard_t F rfl rfl rfl hg6 ?_
      refine rl_run F (run_move (F.ev rfl)) rfl ?_; clear F a; intro a F
      refine rl_guard_f F rfl rfl rfl (decide_eq_false (by omega)) ?_; clear F a; intro a F
      refine rl_guard_f F rfl rfl rfl (decide_eq_false (by omega)) ?_; clear F a; intro a F
      refine rl_guard_t F rfl rfl rfl hg6 ?_
      refine rl_run F (run_pick_f (F.ev rfl) (decide_eq_false (by omega)) (F.ev rfl)) rfl ?_; clear F a; intro a F
      refine rl_run F (run_pick_f (F.ev rfl) hg6 (F.ev rfl)) rfl ?_; clear F a; intro a F
      refine rl_nil ?_
      refine q_tn ?_
      refine w_cond_f F rfl rfl ?_
      refine wp_skip ?_
      refine q_tn ?_
      refine wp_seq ?_
      refine w_reg ?_
      refine rl_buildSlice0 F M tok22.k tok39 rfl ?_; clear F M a; intro v7 w a M F
      obtain ⟨av7, cv7, rfl, hlev7, hcmv7, hlv7⟩ := M.row_shape (k := 0) rfl
      refine rl_run F (run_move (F.ev rfl)) rfl ?_; clear F a; intro a F
      refine rl_append F M (k := 0) rfl tok22.k tok39 rfl rfl (by decide) rfl S rfl (by show _ * 16 ≤ _; (try simp only [List.length_drop, List.length_take, List.length_append, List.length_cons, List.length_nil]); omega) (by (try simp only [List.length_drop, List.length_take, List.length_append, List.length_cons, List.length_nil]); omega) rfl ?_; clear F M a; intro v8 csv8 w a M Ev8 F
      have Ev8 := Els.append Els.nil Ev8
      obtain ⟨av8, cv8, rfl, hlev8, hcmv8, hlv8⟩ := M.row_shape (k := 0) rfl
      refine rl_run F (run_assign (F.ev rfl)) rfl ?_; clear F a; intro a F
      refine rl_nil ?_
      refine q_tn ?_
      refine wp_seq ?_
      obtain ⟨hnz9, Gz9, az9, cz9, hGz9, hez9, Sz9, M⟩ := M.freeze_row mono_rdPair (k := 0) rfl Ev8 (by decide)
      clear hez9 az9 cz9
      replace HG := HG.mono hGz9
      replace S := S.mono mono_rdPair hGz9
      replace Ae5 := Ae5.mono hGz9
      rw [Nat.zero_add] at F
      have Sz9 : RdSl rdPair 2 Gz9 (.slice av8 xs.length cv8) xs := by have h : RdSl rdPair 2 Gz9 (.slice av8 (0 + xs.length) cv8) ([] ++ xs) := Sz9; simpa using h
      refine w_reg ?_
      refine rl_run F (run_move (F.ev rfl)) rfl ?_; clear F a; intro a F
      refine rl_call F ent22 rfl rfl (sorted_spec (xs := xs) M S (by omega) (by omega)) ?_; clear F M a; rintro _ Gy10 w a hGy10 M ⟨ay10, y10, rfl, Sy10, hsmy10, hlny10, hsry10⟩ F
      replace HG := HG.mono hGy10
      replace S := S.mono mono_rdPair hGy10
      replace Ae5 := Ae5.mono hGy10
      replace Sz9 := Sz9.mono mono_rdPair hGy10
      refine rl_run F (run_assign (F.ev rfl)) rfl ?_; clear F a; intro a F
      refine rl_nil ?_
      refine q_tn ?_
      refine wp_seq ?_
      refine wp_seq ?_
      refine w_reg ?_
      refine rl_run F (run_move (F.ev rfl)) rfl ?_; clear F a; intro a F
      refine rl_run F (run_lenSl tok22.k (F.ev rfl)) rfl ?_; clear F a; intro a F
      refine rl_run F (run_move (F.ev rfl)) rfl ?_; clear F a; intro a F
      refine rl_run F (run_lenSl tok22.k (F.ev rfl)) rfl ?_; clear F a; intro a F
      refine rl_run F (run_nei (F.ev rfl) (F.ev rfl)) rfl ?_; clear F a; intro a F
      refine rl_run F (run_move (F.ev rfl)) rfl ?_; clear F a; intro a F
      have hg11 : (!(decide (((y10.length : Nat) : Int) = ((xs.length : Nat) : Int)))) = false := (not_f (decide_eq_true (by first | rfl | omega | simp | (simp; omega))))
      refine rl_guard_t F rfl rfl rfl hg11 ?_
      refine rl_run F (run_move (F.ev rfl)) rfl ?_; clear F a; intro a F
      refine rl_guard_t F rfl rfl rfl hg11 ?_
      refine rl_run F (run_capSl tok22.k (F.ev rfl)) rfl ?_; clear F a; intro a F
      refine rl_guard_t F rfl rfl rfl hg11 ?_
      refine rl_run F (run_move (F.ev rfl)) rfl ?_; clear F a; intro a F
      refine rl_guard_t F rfl rfl rfl hg11 ?_
      refine rl_run F (run_lenSl tok22.k (F.ev rfl)) rfl ?_; clear F a; intro a F
      refine rl_guard_t F rfl rfl rfl hg11 ?_
      refine rl_run F (run_nei (F.ev rfl) (F.ev rfl)) rfl ?_; clear F a; intro a F
      refine rl_run F (run_pick_f (F.ev rfl) hg11 (F.ev rfl)) rfl ?_; clear F a; intro a F
      refine rl_run F (run_move (F.ev rfl)) rfl ?_; clear F a; intro a F
      have hg12 : (!(decide (((y10.length : Nat) : Int) = ((y10.length : Nat) : Int)))) = false := (not_f (decide_eq_true (by first | rfl | omega | simp | (simp; omega))))
      refine rl_guard_t F rfl rfl rfl hg12 ?_
      refine rl_run F (run_move (F.ev rfl)) rfl ?_; clear F a; intro a F
      refine rl_guard_t F rfl rfl rfl hg12 ?_
      refine rl_run F (run_move (F.ev rfl)) rfl ?_; clear F a; intro a F
      refine rl_guard_t F rfl rfl rfl hg12 ?_
      refine rl_run F (run_lenSl tok22.k (F.ev rfl)) rfl ?_; clear F a; intro a F
      refine rl_guard_t F rfl rfl rfl hg12 ?_
      refine rl_run F (run_move (F.ev rfl)) rfl ?_; clear F a; intro a F
      refine rl_guard_t F rfl rfl rfl hg12 ?_
      refine rl_run F (run_lenSl tok22.k (F.ev rfl)) rfl ?_; clear F a; intro a F
      refine rl_guard_t F rfl rfl rfl hg12 ?_
      have sb13 := Sz9.bound
      refine rl_run F (run_slice3 (h := xs.length) (q := xs.length) tok22.k tok39 (F.ev rfl) (F.ev rfl) (by omega) (F.ev rfl) (by omega) (by omega) (by omega)) rfl ?_; clear F a; intro a F
      have S14 := Sz9.clip
      refine rl_guard_t F rfl rfl rfl hg12 ?_
      refine rl_run F (run_move (F.ev rfl)) rfl ?_; clear F a; intro a F
      refine rl_guard_t F rfl rfl rfl hg12 ?_
      refine rl_callS F ent15 rfl rfl (same_spec (xs := xs) M S14 S (by omega)) ?_; clear F M a; rintro _ w a M rfl F
      refine rl_guard_t F rfl rfl rfl hg12 ?_
      refine rl_run F (run_not (F.ev rfl)) rfl ?_; clear F a; intro a F
      refine rl_run F (run_pick_f (F.ev rfl) hg12 (F.ev rfl)) rfl ?_; clear F a; intro a F
      refine rl_nil ?_
      refine q_tn ?_
      refine w_cond_f F rfl rfl ?_
      refine wp_skip ?_
      refine q_tn ?_
      refine wp_seq ?_
      refine wp_seq ?_
      refine w_reg ?_
      refine rl_run F (run_assign (F.ev rfl)) rfl ?_; clear F a; intro a F
      refine rl_nil ?_
      refine q_tn ?_
      refine wp_block ?_
      refine w_loopN (fun m a' w' => ∃ (i : Nat), m = y10.length - i ∧ Fits 159 a' [(0, .slice (ad) (xs.length) (c)), (1, .int .u64 (key)), (9, .slice (ay10) (y10.length) (y10.length)), (10, .int .i64 (((i : Nat) : Int)))] ∧ Mem w0 Gy10 (L) w' ∧ (i ≤ y10.length)) _ ⟨0, rfl, F.to ⟨rfl, rfl, rfl, rfl, trivial⟩, M, Nat.zero_le _⟩ ?_
      clear F M
      rintro m a w ⟨i, rfl, F, M, hi⟩
      refine wp_seq ?_
      refine wp_seq ?_
      refine w_reg ?_
      refine rl_run F (run_move (F.ev rfl)) rfl ?_; clear F a; intro a F
      refine rl_run F (run_move (F.ev rfl)) rfl ?_; clear F a; intro a F
      refine rl_run F (run_lenSl tok22.k (F.ev rfl)) rfl ?_; clear F a; intro a F
      refine rl_run F (run_lss (F.ev rfl) (F.ev rfl)) rfl ?_; clear F a; intro a F
      refine rl_nil ?_
      refine q_tn ?_
      refine w_cond F rfl ?_ ?_
      · intro hc
        have h15b := hc; clear hc
        have h15 : ((i : Nat) : Int) < ((y10.length : Nat) : Int) := of_decide_eq_true h15b
        refine wp_skip ?_
        refine q_tn ?_
        refine wp_seq ?_
        refine wp_block ?_
        refine wp_seq ?_
        refine wp_seq ?_
        obtain ⟨Yi, hYi⟩ := get_of_lt (xs := y10) (i := i) (by omega)
        refine w_cut (fun a' w' => Fits 159 a' [(0, .slice (ad) (xs.length) (c)), (1, .int .u64 (key)), (9, .slice (ay10) (y10.length) (y10.length)), (10, .int .i64 (((i : Nat) : Int))), (101, .bool false)] ∧ Mem w0 Gy10 (L) w') ?_ ?_
        · skip
          refine w_plan [(true, 0), (true, 1), (true, 2), (true, 3), (true, 4), (true, 5), (true, 6), (true, 7), (true, 8), (true, 9), (true, 10), (true, 11), (true, 12), (true, 13), (true, 14), (true, 15)] (Keep Gy10 []) rfl (by kernel_rfl) (fun c a d v w h => by cases d <;> exact h) ((M.drew _).keep (Gle.refl _) (by simp)) ?_
          replace M := M.drew (w.drawn + 1)
          refine pl_run F (fun w M => run_move (F.ev rfl)) rfl ?_; clear F a; intro a F
          refine pl_run F (fun w M => run_gtr (F.ev rfl) (F.ev rfl)) rfl ?_; clear F a; intro a F
          refine pl_run F (fun w M => run_move (F.ev rfl)) rfl ?_; clear F a; intro a F
          rcases Bool.eq_false_or_eq_true (decide (0 < ((i : Nat) : Int))) with hc | hc
          · skip
            have h16b := hc; clear hc
            have h16 : 0 < ((i : Nat) : Int) := of_decide_eq_true h16b
            refine pl_guard_run F rfl rfl h16b (fun w M => run_move (F.ev rfl)) rfl ?_; clear F a; intro a F
            refine pl_guard_run F rfl rfl h16b (fun w M => run_move (F.ev rfl)) rfl ?_; clear F a; intro a F
            refine pl_guard_run F rfl rfl h16b (fun w M => run_subi (F.ev rfl) (F.ev rfl) (in_i64 (by omega) (by omega))) rfl ?_; clear F a; intro a F
            have hs17 : ((((i : Nat) : Int)) - 1 : Int) = ((i - 1 : Nat) : Int) := by omega
            rw [hs17] at F
            obtain ⟨Xe18, hXe18⟩ := get_of_lt (xs := y10) (i := i - 1) (by omega)
            obtain ⟨be18, oe18, _, Ie18, _, Ae18, ⟨rfl, hbe181, hbe182⟩⟩ := Sy10.at hXe18
            refine pl_guard_run F rfl rfl h16b (fun w M => run_indexI tok22.k tok39 (F.ev rfl) (F.ev rfl) (by omega) Ie18) rfl ?_; clear F a; intro a F
            refine pl_guard_run F rfl rfl h16b (fun w M => run_fieldAddr tok39.k rfl rfl (F.ev rfl)) rfl ?_; clear F a; intro a F
            refine pl_guard_run F rfl rfl h16b (fun w M => run_load1 (agf tok37 rfl) (F.ev rfl) (M.cellA Ae18 0 rfl rfl)) rfl ?_; clear F a; intro a F
            refine pl_guard_run F rfl rfl h16b (fun w M => run_move (F.ev rfl)) rfl ?_; clear F a; intro a F
            refine pl_guard_run F rfl rfl h16b (fun w M => run_move (F.ev rfl)) rfl ?_; clear F a; intro a F
            obtain ⟨be19, oe19, _, Ie19, _, Ae19, ⟨rfl, hbe191, hbe192⟩⟩ := Sy10.at hYi
            refine pl_guard_run F rfl rfl h16b (fun w M => run_indexI tok22.k tok39 (F.ev rfl) (F.ev rfl) (by omega) Ie19) rfl ?_; clear F a; intro a F
            refine pl_guard_run F rfl rfl h16b (fun w M => run_fieldAddr tok39.k rfl rfl (F.ev rfl)) rfl ?_; clear F a; intro a F
            refine pl_guard_run F rfl rfl h16b (fun w M => run_load1 (agf tok37 rfl) (F.ev rfl) (M.cellA Ae19 0 rfl rfl)) rfl ?_; clear F a; intro a F
            refine pl_guard_run F rfl rfl h16b (fun w M => run_gtr (F.ev rfl) (F.ev rfl)) rfl ?_; clear F a; intro a F
            refine pl_run F (fun w M => run_pick_t (F.ev rfl) h16b (F.ev rfl)) rfl ?_; clear F a; intro a F
            refine pl_nil ?_
            generalize ({ w with drawn := w.drawn + 1 } : World) = w at M ⊢
            have hz : (decide (Yi.key < Xe18.key)) = false := (decide_eq_false (by have h9 := hsry10 (i - 1) i Xe18 Yi (by omega) (by omega) (by omega) hXe18 hYi; omega))
            rw [hz] at F
            exact ⟨F.to ⟨rfl, rfl, rfl, rfl, rfl, trivial⟩, M⟩
          · skip
            have h20b := hc; clear hc
            have h20 : ¬ (0 < ((i : Nat) : Int)) := of_decide_eq_false h20b
            refine pl_guard_skip F rfl rfl h20b rfl ?_; clear F a; intro a F
            refine pl_guard_skip F rfl rfl h20b rfl ?_; clear F a; intro a F
            refine pl_guard_skip F rfl rfl h20b rfl ?_; clear F a; intro a F
            refine pl_guard_skip F rfl rfl h20b rfl ?_; clear F a; intro a F
            refine pl_guard_skip F rfl rfl h20b rfl ?_; clear F a; intro a F
            refine pl_guard_skip F rfl rfl h20b rfl ?_; clear F a; intro a F
            refine pl_guard_skip F rfl rfl h20b rfl ?_; clear F a; intro a F
            refine pl_guard_skip F rfl rfl h20b rfl ?_; clear F a; intro a F
            refine pl_guard_skip F rfl rfl h20b rfl ?_; clear F a; intro a F
            refine pl_guard_skip F rfl rfl h20b rfl ?_; clear F a; intro a F
            refine pl_guard_skip F rfl rfl h20b rfl ?_; clear F a; intro a F
            refine pl_guard_skip F rfl rfl h20b rfl ?_; clear F a; intro a F
            refine pl_run F (fun w M => run_pick_f (F.ev rfl) h20b (F.ev rfl)) rfl ?_; clear F a; intro a F
            refine pl_nil ?_
            generalize ({ w with drawn := w.drawn + 1 } : World) = w at M ⊢
            exact ⟨F.to ⟨rfl, rfl, rfl, rfl, rfl, trivial⟩, M⟩
        · clear F M
          rintro a w ⟨F, M⟩
          refine q_tn ?_
          refine w_cond_f F rfl rfl ?_
          refine wp_skip ?_
          refine q_tn ?_
          refine wp_seq ?_
          refine w_reg ?_
          refine rl_run F (run_assign (F.ev rfl)) rfl ?_; clear F a; intro a F
          refine rl_nil ?_
          refine q_tn ?_
          refine wp_seq ?_
          refine wp_seq ?_
          refine w_reg ?_
          refine rl_run F (run_assign (F.ev rfl)) rfl ?_; clear F a; intro a F
          refine rl_nil ?_
          refine q_tn ?_
          refine wp_block ?_
          refine w_loopN (fun m a' w' => ∃ (q : Nat), ∃ (kc : Nat), m = i - q ∧ Fits 159 a' [(0, .slice (ad) (xs.length) (c)), (1, .int .u64 (key)), (9, .slice (ay10) (y10.length) (y10.length)), (10, .int .i64 (((i : Nat) : Int))), (11, .int .i64 (((kc : Nat) : Int))), (12, .int .i64 (((q : Nat) : Int)))] ∧ Mem w0 Gy10 (L) w' ∧ (q ≤ i) ∧ (kc = cntK y10 q Yi.key) ∧ (kc ≤ q)) _ ⟨0, 0, rfl, F.to ⟨rfl, rfl, rfl, rfl, rfl, rfl, trivial⟩, M, Nat.zero_le _, rfl, Nat.le_refl _⟩ ?_
          clear F M
          rintro m a w ⟨q, kc, rfl, F, M, hq, hkc, hkl⟩
          refine wp_seq ?_
          refine wp_seq ?_
          refine w_reg ?_
          refine rl_run F (run_move (F.ev rfl)) rfl ?_; clear F a; intro a F
          refine rl_run F (run_move (F.ev rfl)) rfl ?_; clear F a; intro a F
          refine rl_run F (run_lss (F.ev rfl) (F.ev rfl)) rfl ?_; clear F a; intro a F
          refine rl_nil ?_
          refine q_tn ?_
          refine w_cond F rfl ?_ ?_
          · intro hc
            have h21b := hc; clear hc
            have h21 : ((q : Nat) : Int) < ((i : Nat) : Int) := of_decide_eq_true h21b
            refine wp_skip ?_
            refine q_tn ?_
            refine wp_seq ?_
            refine wp_block ?_
            refine wp_seq ?_
            refine w_plan [(true, 0), (true, 1), (true, 2), (true, 3), (true, 4), (true, 5), (true, 6), (true, 7), (true, 8), (true, 9), (true, 10)] (Keep Gy10 []) rfl (by kernel_rfl) (fun c a d v w h => by cases d <;> exact h) ((M.drew _).keep (Gle.refl _) (by simp)) ?_
            replace M := M.drew (w.drawn + 1)
            refine pl_run F (fun w M => run_move (F.ev rfl)) rfl ?_; clear F a; intro a F
            refine pl_run F (fun w M => run_move (F.ev rfl)) rfl ?_; clear F a; intro a F
            obtain ⟨Xe22, hXe22⟩ := get_of_lt (xs := y10) (i := q) (by omega)
            obtain ⟨be22, oe22, _, Ie22, _, Ae22, ⟨rfl, hbe221, hbe222⟩⟩ := Sy10.at hXe22
            refine pl_run F (fun w M => run_indexI tok22.k tok39 (F.ev rfl) (F.ev rfl) (by omega) Ie22) rfl ?_; clear F a; intro a F
            refine pl_run F (fun w M => run_fieldAddr tok39.k rfl rfl (F.ev rfl)) rfl ?_; clear F a; intro a F
            refine pl_run F (fun w M => run_load1 (agf tok37 rfl) (F.ev rfl) (M.cellA Ae22 0 rfl rfl)) rfl ?_; clear F a; intro a F
            refine pl_run F (fun w M => run_move (F.ev rfl)) rfl ?_; clear F a; intro a F
            refine pl_run F (fun w M => run_move (F.ev rfl)) rfl ?_; clear F a; intro a F
            obtain ⟨be23, oe23, _, Ie23, _, Ae23, ⟨rfl, hbe231, hbe232⟩⟩ := Sy10.at hYi
            refine pl_run F (fun w M => run_indexI tok22.k tok39 (F.ev rfl) (F.ev rfl) (by omega) Ie23) rfl ?_; clear F a; intro a F
            refine pl_run F (fun w M => run_fieldAddr tok39.k rfl rfl (F.ev rfl)) rfl ?_; clear F a; intro a F
            refine pl_run F (fun w M => run_load1 (agf tok37 rfl) (F.ev rfl) (M.cellA Ae23 0 rfl rfl)) rfl ?_; clear F a; intro a F
            refine pl_run F (fun w M => run_eqi (F.ev rfl) (F.ev rfl)) rfl ?_; clear F a; intro a F
            refine pl_nil ?_
            generalize ({ w with drawn := w.drawn + 1 } : World) = w at M ⊢
            refine q_tn ?_
            refine w_cond F rfl ?_ ?_
            · intro hc
              have h24b := hc; clear hc
              have h24 : Xe22.key = Yi.key := of_decide_eq_true h24b
              refine w_reg ?_
              refine rl_run F (run_move (F.ev rfl)) rfl ?_; clear F a; intro a F
              refine rl_run F (run_addi (F.ev rfl) (F.ev rfl) (in_i64 (by omega) (by omega))) rfl ?_; clear F a; intro a F
              refine rl_run F (run_assign (F.ev rfl)) rfl ?_; clear F a; intro a F
              refine rl_nil ?_
              refine q_bn ?_
              refine q_tn ?_
              refine w_reg ?_
              refine rl_run F (run_move (F.ev rfl)) rfl ?_; clear F a; intro a F
              refine rl_run F (run_addi (F.ev rfl) (F.ev rfl) (in_i64 (by omega) (by omega))) rfl ?_; clear F a; intro a F
              refine rl_run F (run_assign (F.ev rfl)) rfl ?_; clear F a; intro a F
              refine rl_nil ?_
              refine q_tn ?_
              exact ⟨_, by omega, q + 1, kc + 1, rfl, F.to ⟨rfl, rfl, rfl, rfl, rfl, rfl, trivial⟩, M, by omega, by rw [cntK_yes hXe22 (by assumption)]; omega, by omega⟩
            · intro hc
              have h25b := hc; clear hc
              have h25 : ¬ (Xe22.key = Yi.key) := of_decide_eq_false h25b
              refine wp_skip ?_
              refine q_bn ?_
              refine q_tn ?_
              refine w_reg ?_
              refine rl_run F (run_move (F.ev rfl)) rfl ?_; clear F a; intro a F
              refine rl_run F (run_addi (F.ev rfl) (F.ev rfl) (in_i64 (by omega) (by omega))) rfl ?_; clear F a; intro a F
              refine rl_run F (run_assign (F.ev rfl)) rfl ?_; clear F a; intro a F
              refine rl_nil ?_
              refine q_tn ?_
              exact ⟨_, by omega, q + 1, kc, rfl, F.to ⟨rfl, rfl, rfl, rfl, rfl, rfl, trivial⟩, M, by omega, by rw [cntK_no hXe22 (by assumption)]; omega, by omega⟩
          · intro hc
            have h26b := hc; clear hc
            have h26 : ¬ (((q : Nat) : Int) < ((i : Nat) : Int)) := of_decide_eq_false h26b
            refine wp_exit ?_
            refine q_te ?_
            refine q_te ?_
            refine q_bh ?_
            refine q_tn ?_
            refine wp_seq ?_
            refine wp_seq ?_
            refine w_reg ?_
            refine rl_run F (run_assign (F.ev rfl)) rfl ?_; clear F a; intro a F
            refine rl_nil ?_
            refine q_tn ?_
            refine wp_block ?_
            have hqi : q = i := by omega
            rw [hqi] at hkc
            have hKS0 := KS.start hsmy10 hYi
            rw [← hkc] at hKS0
            refine w_loopN (fun m a' w' => ∃ (z : Nat), ∃ (kz : Int), m = xs.length - z ∧ Fits 159 a' [(0, .slice (ad) (xs.length) (c)), (1, .int .u64 (key)), (9, .slice (ay10) (y10.length) (y10.length)), (10, .int .i64 (((i : Nat) : Int))), (11, .int .i64 (kz)), (13, .int .i64 (((z : Nat) : Int)))] ∧ Mem w0 Gy10 (L) w' ∧ (z ≤ xs.length) ∧ (KS xs z kz Yi) ∧ (-1 ≤ kz ∧ kz ≤ (xs.length : Int))) _ ⟨0, ((kc : Nat) : Int), rfl, F.to ⟨rfl, rfl, rfl, rfl, rfl, rfl, trivial⟩, M, Nat.zero_le _, hKS0, by omega⟩ ?_
            clear F M
            rintro m a w ⟨z, kz, rfl, F, M, hz, hKS, hkb⟩
            refine wp_seq ?_
            refine wp_seq ?_
            refine w_reg ?_
            refine rl_run F (run_move (F.ev rfl)) rfl ?_; clear F a; intro a F
            refine rl_run F (run_move (F.ev rfl)) rfl ?_; clear F a; intro a F
            refine rl_run F (run_lenSl tok22.k (F.ev rfl)) rfl ?_; clear F a; intro a F
            refine rl_run F (run_lss (F.ev rfl) (F.ev rfl)) rfl ?_; clear F a; intro a F
            refine rl_run F (run_move (F.ev rfl)) rfl ?_; clear F a; intro a F
            rcases Bool.eq_false_or_eq_true (decide (((z : Nat) : Int) < ((xs.length : Nat) : Int))) with hc | hc
            · skip
              have h27b := hc; clear hc
              have h27 : ((z : Nat) : Int) < ((xs.length : Nat) : Int) := of_decide_eq_true h27b
              refine rl_guard_t F rfl rfl rfl h27b ?_
              refine rl_run F (run_move (F.ev rfl)) rfl ?_; clear F a; intro a F
              refine rl_guard_t F rfl rfl rfl h27b ?_
              refine rl_run F (run_geq (F.ev rfl) (F.ev rfl)) rfl ?_; clear F a; intro a F
              refine rl_run F (run_pick_t (F.ev rfl) h27b (F.ev rfl)) rfl ?_; clear F a; intro a F
              refine rl_nil ?_
              refine q_tn ?_
              refine w_cond F rfl ?_ ?_
              · intro hc
                have h28b := hc; clear hc
                have h28 : 0 ≤ kz := of_decide_eq_true h28b
                refine wp_skip ?_
                refine q_tn ?_
                refine wp_seq ?_
                refine wp_block ?_
                refine wp_seq ?_
                refine w_plan [(true, 0), (true, 1), (true, 2), (true, 3), (true, 4), (true, 5), (true, 6), (true, 7), (true, 8), (true, 9), (true, 10)] (Keep Gy10 []) rfl (by kernel_rfl) (fun c a d v w h => by cases d <;> exact h) ((M.drew _).keep (Gle.refl _) (by simp)) ?_
                replace M := M.drew (w.drawn + 1)
                refine pl_run F (fun w M => run_move (F.ev rfl)) rfl ?_; clear F a; intro a F
                refine pl_run F (fun w M => run_move (F.ev rfl)) rfl ?_; clear F a; intro a F
                obtain ⟨Xe29, hXe29⟩ := get_of_lt (xs := xs) (i := z) (by omega)
                obtain ⟨be29, oe29, _, Ie29, _, Ae29, ⟨rfl, hbe291, hbe292⟩⟩ := S.at hXe29
                refine pl_run F (fun w M => run_indexI tok22.k tok39 (F.ev rfl) (F.ev rfl) (by omega) Ie29) rfl ?_; clear F a; intro a F
                refine pl_run F (fun w M => run_fieldAddr tok39.k rfl rfl (F.ev rfl)) rfl ?_; clear F a; intro a F
                refine pl_run F (fun w M => run_load1 (agf tok37 rfl) (F.ev rfl) (M.cellA Ae29 0 rfl rfl)) rfl ?_; clear F a; intro a F
                refine pl_run F (fun w M => run_move (F.ev rfl)) rfl ?_; clear F a; intro a F
                refine pl_run F (fun w M => run_move (F.ev rfl)) rfl ?_; clear F a; intro a F
                obtain ⟨be30, oe30, _, Ie30, _, Ae30, ⟨rfl, hbe301, hbe302⟩⟩ := Sy10.at hYi
                refine pl_run F (fun w M => run_indexI tok22.k tok39 (F.ev rfl) (F.ev rfl) (by omega) Ie30) rfl ?_; clear F a; intro a F
                refine pl_run F (fun w M => run_fieldAddr tok39.k rfl rfl (F.ev rfl)) rfl ?_; clear F a; intro a F
                refine pl_run F (fun w M => run_load1 (agf tok37 rfl) (F.ev rfl) (M.cellA Ae30 0 rfl rfl)) rfl ?_; clear F a; intro a F
                refine pl_run F (fun w M => run_eqi (F.ev rfl) (F.ev rfl)) rfl ?_; clear F a; intro a F
                refine pl_nil ?_
                generalize ({ w with drawn := w.drawn + 1 } : World) = w at M ⊢
                refine q_tn ?_
                refine w_cond F rfl ?_ ?_
                · intro hc
                  have h31b := hc; clear hc
                  have h31 : Xe29.key = Yi.key := of_decide_eq_true h31b
                  refine wp_seq ?_
                  refine wp_seq ?_
                  refine w_plan [(true, 0), (true, 1), (true, 2), (true, 3), (true, 4), (true, 5), (true, 6), (true, 7), (true, 8), (true, 9), (true, 10), (true, 11), (true, 12)] (Keep Gy10 []) rfl (by kernel_rfl) (fun c a d v w h => by cases d <;> exact h) ((M.drew _).keep (Gle.refl _) (by simp)) ?_
                  replace M := M.drew (w.drawn + 1)
                  refine pl_run F (fun w M => run_move (F.ev rfl)) rfl ?_; clear F a; intro a F
                  refine pl_run F (fun w M => run_eqi (F.ev rfl) (F.ev rfl)) rfl ?_; clear F a; intro a F
                  refine pl_run F (fun w M => run_move (F.ev rfl)) rfl ?_; clear F a; intro a F
                  rcases Bool.eq_false_or_eq_true (decide (kz = 0)) with hc | hc
                  · skip
                    have h32b := hc; clear hc
                    have h32 : kz = 0 := of_decide_eq_true h32b
                    refine pl_guard_run F rfl rfl h32b (fun w M => run_move (F.ev rfl)) rfl ?_; clear F a; intro a F
                    refine pl_guard_run F rfl rfl h32b (fun w M => run_move (F.ev rfl)) rfl ?_; clear F a; intro a F
                    obtain ⟨be33, oe33, _, Ie33, _, Ae33, ⟨rfl, hbe331, hbe332⟩⟩ := S.at hXe29
                    refine pl_guard_run F rfl rfl h32b (fun w M => run_indexI tok22.k tok39 (F.ev rfl) (F.ev rfl) (by omega) Ie33) rfl ?_; clear F a; intro a F
                    refine pl_guard_run F rfl rfl h32b (fun w M => run_loadA tok39 rfl (F.ev rfl) (cs := [.int .u64 (Xe29.key), .int .i64 (Xe29.v)]) rfl (M.cellsA Ae33 0 (by omega) rfl)) rfl ?_; clear F a; intro a F
                    refine pl_guard_run F rfl rfl h32b (fun w M => run_move (F.ev rfl)) rfl ?_; clear F a; intro a F
                    refine pl_guard_run F rfl rfl h32b (fun w M => run_move (F.ev rfl)) rfl ?_; clear F a; intro a F
                    obtain ⟨be34, oe34, _, Ie34, _, Ae34, ⟨rfl, hbe341, hbe342⟩⟩ := Sy10.at hYi
                    refine pl_guard_run F rfl rfl h32b (fun w M => run_indexI tok22.k tok39 (F.ev rfl) (F.ev rfl) (by omega) Ie34) rfl ?_; clear F a; intro a F
                    refine pl_guard_run F rfl rfl h32b (fun w M => run_loadA tok39 rfl (F.ev rfl) (cs := [.int .u64 (Yi.key), .int .i64 (Yi.v)]) rfl (M.cellsA Ae34 0 (by omega) rfl)) rfl ?_; clear F a; intro a F
                    refine pl_guard_run F rfl rfl h32b (fun w M => run_ne2 (t1 := 37) (t2 := 2) (by kernel_rfl) (by kernel_rfl) (by kernel_rfl) (by kernel_rfl) tok37.k tok2.k (F.ev rfl) (F.ev rfl)) rfl ?_; clear F a; intro a F
                    refine pl_run F (fun w M => run_pick_t (F.ev rfl) h32b (F.ev rfl)) rfl ?_; clear F a; intro a F
                    refine pl_nil ?_
                    generalize ({ w with drawn := w.drawn + 1 } : World) = w at M ⊢
                    refine q_tn ?_
                    refine w_cond_f F rfl (not_f (decide_eq_true (by have e : kz = 0 := (by assumption); rw [e] at hKS; rw [KS.hit0 hKS hXe29 (by assumption)]; exact ⟨rfl, rfl⟩))) ?_
                    refine wp_skip ?_
                    refine q_tn ?_
                    refine w_reg ?_
                    refine rl_run F (run_move (F.ev rfl)) rfl ?_; clear F a; intro a F
                    refine rl_run F (run_subi (F.ev rfl) (F.ev rfl) (in_i64 (by omega) (by omega))) rfl ?_; clear F a; intro a F
                    refine rl_run F (run_assign (F.ev rfl)) rfl ?_; clear F a; intro a F
                    refine rl_nil ?_
                    refine q_bn ?_
                    refine q_tn ?_
                    refine w_reg ?_
                    refine rl_run F (run_move (F.ev rfl)) rfl ?_; clear F a; intro a F
                    refine rl_run F (run_addi (F.ev rfl) (F.ev rfl) (in_i64 (by omega) (by omega))) rfl ?_; clear F a; intro a F
                    refine rl_run F (run_assign (F.ev rfl)) rfl ?_; clear F a; intro a F
                    refine rl_nil ?_
                    refine q_tn ?_
                    exact ⟨_, by omega, z + 1, kz - 1, rfl, F.to ⟨rfl, rfl, rfl, rfl, rfl, rfl, trivial⟩, M, by omega, hKS.hit (by omega) hXe29 (by assumption), by omega⟩
                  · skip
                    have h35b := hc; clear hc
                    have h35 : ¬ (kz = 0) := of_decide_eq_false h35b
                    refine pl_guard_skip F rfl rfl h35b rfl ?_; clear F a; intro a F
                    refine pl_guard_skip F rfl rfl h35b rfl ?_; clear F a; intro a F
                    refine pl_guard_skip F rfl rfl h35b rfl ?_; clear F a; intro a F
                    refine pl_guard_skip F rfl rfl h35b rfl ?_; clear F a; intro a F
                    refine pl_guard_skip F rfl rfl h35b rfl ?_; clear F a; intro a F
                    refine pl_guard_skip F rfl rfl h35b rfl ?_; clear F a; intro a F
                    refine pl_guard_skip F rfl rfl h35b rfl ?_; clear F a; intro a F
                    refine pl_guard_skip F rfl rfl h35b rfl ?_; clear F a; intro a F
                    refine pl_guard_skip F rfl rfl h35b rfl ?_; clear F a; intro a F
                    refine pl_run F (fun w M => run_pick_f (F.ev rfl) h35b (F.ev rfl)) rfl ?_; clear F a; intro a F
                    refine pl_nil ?_
                    generalize ({ w with drawn := w.drawn + 1 } : World) = w at M ⊢
                    refine q_tn ?_
                    refine w_cond_f F rfl rfl ?_
                    refine wp_skip ?_
                    refine q_tn ?_
                    refine w_reg ?_
                    refine rl_run F (run_move (F.ev rfl)) rfl ?_; clear F a; intro a F
                    refine rl_run F (run_subi (F.ev rfl) (F.ev rfl) (in_i64 (by omega) (by omega))) rfl ?_; clear F a; intro a F
                    refine rl_run F (run_assign (F.ev rfl)) rfl ?_; clear F a; intro a F
                    refine rl_nil ?_
                    refine q_bn ?_
                    refine q_tn ?_
                    refine w_reg ?_
                    refine rl_run F (run_move (F.ev rfl)) rfl ?_; clear F a; intro a F
                    refine rl_run F (run_addi (F.ev rfl) (F.ev rfl) (in_i64 (by omega) (by omega))) rfl ?_; clear F a; intro a F
                    refine rl_run F (run_assign (F.ev rfl)) rfl ?_; clear F a; intro a F
                    refine rl_nil ?_
                    refine q_tn ?_
                    exact ⟨_, by omega, z + 1, kz - 1, rfl, F.to ⟨rfl, rfl, rfl, rfl, rfl, rfl, trivial⟩, M, by omega, hKS.hit (by omega) hXe29 (by assumption), by omega⟩
                · intro hc
                  have h36b := hc; clear hc
                  have h36 : ¬ (Xe29.key = Yi.key) := of_decide_eq_false h36b
                  refine wp_skip ?_
                  refine q_bn ?_
                  refine q_tn ?_
                  refine w_reg ?_
                  refine rl_run F (run_move (F.ev rfl)) rfl ?_; clear F a; intro a F
                  refine rl_run F (run_addi (F.ev rfl) (F.ev rfl) (in_i64 (by omega) (by omega))) rfl ?_; clear F a; intro a F
                  refine rl_run F (run_assign (F.ev rfl)) rfl ?_; clear F a; intro a F
                  refine rl_nil ?_
                  refine q_tn ?_
                  exact ⟨_, by omega, z + 1, kz, rfl, F.to ⟨rfl, rfl, rfl, rfl, rfl, rfl, trivial⟩, M, by omega, hKS.miss hXe29 (by assumption), by omega⟩
              · intro hc
                have h37b := hc; clear hc
                have h37 : ¬ (0 ≤ kz) := of_decide_eq_false h37b
                refine wp_exit ?_
                refine q_te ?_
                refine q_te ?_
                refine q_bh ?_
                refine q_tn ?_
                refine wp_seq ?_
                refine w_reg ?_
                refine rl_run F (run_move (F.ev rfl)) rfl ?_; clear F a; intro a F
                refine rl_run F (run_geq (F.ev rfl) (F.ev rfl)) rfl ?_; clear F a; intro a F
                refine rl_nil ?_
                refine q_tn ?_
                refine w_cond_f F rfl (decide_eq_false (by first | assumption | (have := KS.stop hKS (by omega); omega))) ?_
                refine wp_skip ?_
                refine q_bn ?_
                refine q_tn ?_
                refine w_reg ?_
                refine rl_run F (run_move (F.ev rfl)) rfl ?_; clear F a; intro a F
                refine rl_run F (run_addi (F.ev rfl) (F.ev rfl) (in_i64 (by omega) (by omega))) rfl ?_; clear F a; intro a F
                refine rl_run F (run_assign (F.ev rfl)) rfl ?_; clear F a; intro a F
                refine rl_nil ?_
                refine q_tn ?_
                exact ⟨_, by omega, i + 1, rfl, F.to ⟨rfl, rfl, rfl, rfl, trivial⟩, M, by omega⟩
            · skip
              have h38b := hc; clear hc
              have h38 : ¬ (((z : Nat) : Int) < ((xs.length : Nat) : Int)) := of_decide_eq_false h38b
              refine rl_guard_f F rfl rfl rfl h38b ?_; clear F a; intro a F
              refine rl_guard_f F rfl rfl rfl h38b ?_; clear F a; intro a F
              refine rl_run F (run_pick_f (F.ev rfl) h38b (F.ev rfl)) rfl ?_; clear F a; intro a F
              refine rl_nil ?_
              refine q_tn ?_
              refine w_cond_f F rfl rfl ?_
              refine wp_exit ?_
              refine q_te ?_
              refine q_te ?_
              refine q_bh ?_
              refine q_tn ?_
              refine wp_seq ?_
              refine w_reg ?_
              refine rl_run F (run_move (F.ev rfl)) rfl ?_; clear F a; intro a F
              refine rl_run F (run_geq (F.ev rfl) (F.ev rfl)) rfl ?_; clear F a; intro a F
              refine rl_nil ?_
              refine q_tn ?_
              refine w_cond_f F rfl (decide_eq_false (by first | assumption | (have := KS.stop hKS (by omega); omega))) ?_
              refine wp_skip ?_
              refine q_bn ?_
              refine q_tn ?_
              refine w_reg ?_
              refine rl_run F (run_move (F.ev rfl)) rfl ?_; clear F a; intro a F
              refine rl_run F (run_addi (F.ev rfl) (F.ev rfl) (in_i64 (by omega) (by omega))) rfl ?_; clear F a; intro a F
              refine rl_run F (run_assign (F.ev rfl)) rfl ?_; clear F a; intro a F
              refine rl_nil ?_
              refine q_tn ?_
              exact ⟨_, by omega, i + 1, rfl, F.to ⟨rfl, rfl, rfl, rfl, trivial⟩, M, by omega⟩
      · intro hc
        have h39b := hc; clear hc
        have h39 : ¬ (((i : Nat) : Int) < ((y10.length : Nat) : Int)) := of_decide_eq_false h39b
        refine wp_exit ?_
        refine q_te ?_
        refine q_te ?_
        refine q_bh ?_
        refine q_tn ?_
        refine wp_seq ?_
        refine w_reg ?_
        refine rl_callS F ent10 rfl rfl (lives_spec M HG) ?_; clear F M a; rintro _ w a M rfl F
        refine rl_run F (run_assign (F.ev rfl)) rfl ?_; clear F a; intro a F
        refine rl_nil ?_
        refine q_tn ?_
        refine wp_ret ?_
        refine fin1 F rfl rfl ?_
        exact ⟨Gy10, (hGz9.trans hGy10), M.weaken (List.Sublist.refl _), rfl⟩
    · skip
      have hfv : findV xs key = (0, false) := by unfold findV; rw [find_no hna]
      have hf1 : (findV xs key).1 = 0 := by rw [hfv]
      have hf2 : (findV xs key).2 = false := by rw [hfv]
      rw [hf1, hf2] at F
      refine w_reg ?_
      refine rl_run F (run_move (F.ev rfl)) rfl ?_; clear F a; intro a F
      refine rl_run F (run_move (F.ev rfl)) rfl ?_; clear F a; intro a F
      refine rl_run F (run_geq (F.ev rfl) (F.ev rfl)) rfl ?_; clear F a; intro a F
      refine rl_run F (run_neb tok4.k (F.ev rfl) (F.ev rfl)) rfl ?_; clear F a; intro a F
      refine rl_run F (run_move (F.ev rfl)) rfl ?_; clear F a; intro a F
      have hg40 : (!(false == (decide (0 ≤ (-1 : Int))))) = false := (not_f (by first | rfl | omega | simp | (simp; omega)))
      refine rl_guard_t F rfl rfl rfl hg40 ?_
      refine rl_run F (run_move (F.ev rfl)) rfl ?_; clear F a; intro a F
      refine rl_guard_t F rfl rfl rfl hg40 ?_
      refine rl_run F (run_geq (F.ev rfl) (F.ev rfl)) rfl ?_; clear F a; intro a F
      refine rl_guard_t F rfl rfl rfl hg40 ?_
      refine rl_run F (run_move (F.ev rfl)) rfl ?_; clear F a; intro a F
      refine rl_guard_f F rfl rfl rfl (decide_eq_false (by decide)) ?_; clear F a; intro a F
      refine rl_guard_f F rfl rfl rfl (decide_eq_false (by decide)) ?_; clear F a; intro a F
      refine rl_guard_f F rfl rfl rfl (decide_eq_false (by decide)) ?_; clear F a; intro a F
      refine rl_guard_f F rfl rfl rfl (decide_eq_false (by decide)) ?_; clear F a; intro a F
      refine rl_guard_f F rfl rfl rfl (decide_eq_false (by decide)) ?_; clear F a; intro a F
      refine rl_guard_f F rfl rfl rfl (decide_eq_false (by decide)) ?_; clear F a; intro a F
      refine rl_guard_f F rfl rfl rfl (decide_eq_false (by decide)) ?_; clear F a; intro a F
      refine rl_guard_t F rfl rfl rfl hg40 ?_
      refine rl_run F (run_pick_f (F.ev rfl) (decide_eq_false (by decide)) (F.ev rfl)) rfl ?_; clear F a; intro a F
      refine rl_run F (run_pick_f (F.ev rfl) hg40 (F.ev rfl)) rfl ?_; clear F a; intro a F
      refine rl_run F (run_move (F.ev rfl)) rfl ?_; clear F a; intro a F
      refine rl_guard_t F rfl rfl rfl rfl ?_
      refine rl_run F (run_move (F.ev rfl)) rfl ?_; clear F a; intro a F
      refine rl_guard_t F rfl rfl rfl rfl ?_
      refine rl_run F (run_lss (F.ev rfl) (F.ev rfl)) rfl ?_; clear F a; intro a F
      refine rl_guard_t F rfl rfl rfl rfl ?_
      refine rl_run F (run_move (F.ev rfl)) rfl ?_; clear F a; intro a F
      refine rl_guard_t F rfl rfl rfl (decide_eq_true (by decide)) ?_
      refine rl_run F (run_move (F.ev rfl)) rfl ?_; clear F a; intro a F
      refine rl_guard_t F rfl rfl rfl (decide_eq_true (by decide)) ?_
      refine rl_run F (run_nei (F.ev rfl) (F.ev rfl)) rfl ?_; clear F a; intro a F
      refine rl_guard_t F rfl rfl rfl rfl ?_
      refine rl_run F (run_pick_t (F.ev rfl) (decide_eq_true (by decide)) (F.ev rfl)) rfl ?_; clear F a; intro a F
      refine rl_run F (run_pick_f (F.ev rfl) rfl (F.ev rfl)) rfl ?_; clear F a; intro a F
      refine rl_nil ?_
      refine q_tn ?_
      refine w_cond_f F rfl (not_f (decide_eq_true (by decide))) ?_
      refine wp_skip ?_
      refine q_tn ?_
      refine wp_seq ?_
      refine w_reg ?_
      refine rl_buildSlice0 F M tok22.k tok39 rfl ?_; clear F M a; intro v41 w a M F
      obtain ⟨av41, cv41, rfl, hlev41, hcmv41, hlv41⟩ := M.row_shape (k := 0) rfl
      refine rl_run F (run_move (F.ev rfl)) rfl ?_; clear F a; intro a F
      refine rl_append F M (k := 0) rfl tok22.k tok39 rfl rfl (by decide) rfl S rfl (by show _ * 16 ≤ _; (try simp only [List.length_drop, List.length_take, List.length_append, List.length_cons, List.length_nil]); omega) (by (try simp only [List.length_drop, List.length_take, List.length_append, List.length_cons, List.length_nil]); omega) rfl ?_; clear F M a; intro v42 csv42 w a M Ev42 F
      have Ev42 := Els.append Els.nil Ev42
      obtain ⟨av42, cv42, rfl, hlev42, hcmv42, hlv42⟩ := M.row_shape (k := 0) rfl
      refine rl_run F (run_assign (F.ev rfl)) rfl ?_; clear F a; intro a F
      refine rl_nil ?_
      refine q_tn ?_
      refine wp_seq ?_
      obtain ⟨hnz43, Gz43, az43, cz43, hGz43, hez43, Sz43, M⟩ := M.freeze_row mono_rdPair (k := 0) rfl Ev42 (by decide)
      clear hez43 az43 cz43
      replace HG := HG.mono hGz43
      replace S := S.mono mono_rdPair hGz43
      rw [Nat.zero_add] at F
      have Sz43 : RdSl rdPair 2 Gz43 (.slice av42 xs.length cv42) xs := by have h : RdSl rdPair 2 Gz43 (.slice av42 (0 + xs.length) cv42) ([] ++ xs) := Sz43; simpa using h
      refine w_reg ?_
      refine rl_run F (run_move (F.ev rfl)) rfl ?_; clear F a; intro a F
      refine rl_call F ent22 rfl rfl (sorted_spec (xs := xs) M S (by omega) (by omega)) ?_; clear F M a; rintro _ Gy44 w a hGy44 M ⟨ay44, y44, rfl, Sy44, hsmy44, hlny44, hsry44⟩ F
      replace HG := HG.mono hGy44
      replace S := S.mono mono_rdPair hGy44
      replace Sz43 := Sz43.mono mono_rdPair hGy44
      refine rl_run F (run_assign (F.ev rfl)) rfl ?_; clear F a; intro a F
      refine rl_nil ?_
      refine q_tn ?_
      refine wp_seq ?_
      refine wp_seq ?_
      refine w_reg ?_
      refine rl_run F (run_move (F.ev rfl)) rfl ?_; clear F a; intro a F
      refine rl_run F (run_lenSl tok22.k (F.ev rfl)) rfl ?_; clear F a; intro a F
      refine rl_run F (run_move (F.ev rfl)) rfl ?_; clear F a; intro a F
      refine rl_run F (run_lenSl tok22.k (F.ev rfl)) rfl ?_; clear F a; intro a F
      refine rl_run F (run_nei (F.ev rfl) (F.ev rfl)) rfl ?_; clear F a; intro a F
      refine rl_run F (run_move (F.ev rfl)) rfl ?_; clear F a; intro a F
      have hg45 : (!(decide (((y44.length : Nat) : Int) = ((xs.length : Nat) : Int)))) = false := (not_f (decide_eq_true (by first | rfl | omega | simp | (simp; omega))))
      refine rl_guard_t F rfl rfl rfl hg45 ?_
      refine rl_run F (run_move (F.ev rfl)) rfl ?_; clear F a; intro a F
      refine rl_guard_t F rfl rfl rfl hg45 ?_
      refine rl_run F (run_capSl tok22.k (F.ev rfl)) rfl ?_; clear F a; intro a F
      refine rl_guard_t F rfl rfl rfl hg45 ?_
      refine rl_run F (run_move (F.ev rfl)) rfl ?_; clear F a; intro a F
      refine rl_guard_t F rfl rfl rfl hg45 ?_
      refine rl_run F (run_lenSl tok22.k (F.ev rfl)) rfl ?_; clear F a; intro a F
      refine rl_guard_t F rfl rfl rfl hg45 ?_
      refine rl_run F (run_nei (F.ev rfl) (F.ev rfl)) rfl ?_; clear F a; intro a F
      refine rl_run F (run_pick_f (F.ev rfl) hg45 (F.ev rfl)) rfl ?_; clear F a; intro a F
      refine rl_run F (run_move (F.ev rfl)) rfl ?_; clear F a; intro a F
      have hg46 : (!(decide (((y44.length : Nat) : Int) = ((y44.length : Nat) : Int)))) = false := (not_f (decide_eq_true (by first | rfl | omega | simp | (simp; omega))))
      refine rl_guard_t F rfl rfl rfl hg46 ?_
      refine rl_run F (run_move (F.ev rfl)) rfl ?_; clear F a; intro a F
      refine rl_guard_t F rfl rfl rfl hg46 ?_
      refine rl_run F (run_move (F.ev rfl)) rfl ?_; clear F a; intro a F
      refine rl_guard_t F rfl rfl rfl hg46 ?_
      refine rl_run F (run_lenSl tok22.k (F.ev rfl)) rfl ?_; clear F a; intro a F
      refine rl_guard_t F rfl rfl rfl hg46 ?_
      refine rl_run F (run_move (F.ev rfl)) rfl ?_; clear F a; intro a F
      refine rl_guard_t F rfl rfl rfl hg46 ?_
      refine rl_run F (run_lenSl tok22.k (F.ev rfl)) rfl ?_; clear F a; intro a F
      refine rl_guard_t F rfl rfl rfl hg46 ?_
      have sb47 := Sz43.bound
      refine rl_run F (run_slice3 (h := xs.length) (q := xs.length) tok22.k tok39 (F.ev rfl) (F.ev rfl) (by omega) (F.ev rfl) (by omega) (by omega) (by omega)) rfl ?_; clear F a; intro a F
      have S48 := Sz43.clip
      refine rl_guard_t F rfl rfl rfl hg46 ?_
      refine rl_run F (run_move (F.ev rfl)) rfl ?_; clear F a; intro a F
      refine rl_guard_t F rfl rfl rfl hg46 ?_
      refine rl_callS F ent15 rfl rfl (same_spec (xs := xs) M S48 S (by omega)) ?_; clear F M a; rintro _ w a M rfl F
      refine rl_guard_t F rfl rfl rfl hg46 ?_
      refine rl_run F (run_not (F.ev rfl)) rfl ?_; clear F a; intro a F
      refine rl_run F (run_pick_f (F.ev rfl) hg46 (F.ev rfl)) rfl ?_; clear F a; intro a F
      refine rl_nil ?_
      refine q_tn ?_
      refine w_cond_f F rfl rfl ?_
      refine wp_skip ?_
      refine q_tn ?_
      refine wp_seq ?_
      refine wp_seq ?_
      refine w_reg ?_
      refine rl_run F (run_assign (F.ev rfl)) rfl ?_; clear F a; intro a F
      refine rl_nil ?_
      refine q_tn ?_
      refine wp_block ?_
      refine w_loopN (fun m a' w' => ∃ (i : Nat), m = y44.length - i ∧ Fits 159 a' [(0, .slice (ad) (xs.length) (c)), (1, .int .u64 (key)), (9, .slice (ay44) (y44.length) (y44.length)), (10, .int .i64 (((i : Nat) : Int)))] ∧ Mem w0 Gy44 (L) w' ∧ (i ≤ y44.length)) _ ⟨0, rfl, F.to ⟨rfl, rfl, rfl, rfl, trivial⟩, M, Nat.zero_le _⟩ ?_
      clear F M
      rintro m a w ⟨i, rfl, F, M, hi⟩
      refine wp_seq ?_
      refine wp_seq ?_
      refine w_reg ?_
      refine rl_run F (run_move (F.ev rfl)) rfl ?_; clear F a; intro a F
      refine rl_run F (run_move (F.ev rfl)) rfl ?_; clear F a; intro a F
      refine rl_run F (run_lenSl tok22.k (F.ev rfl)) rfl ?_; clear F a; intro a F
      refine rl_run F (run_lss (F.ev rfl) (F.ev rfl)) rfl ?_; clear F a; intro a F
      refine rl_nil ?_
      refine q_tn ?_
      refine w_cond F rfl ?_ ?_
      · intro hc
        have h49b := hc; clear hc
        have h49 : ((i : Nat) : Int) < ((y44.length : Nat) : Int) := of_decide_eq_true h49b
        refine wp_skip ?_
        refine q_tn ?_
        refine wp_seq ?_
        refine wp_block ?_
        refine wp_seq ?_
        refine wp_seq ?_
        obtain ⟨Yi, hYi⟩ := get_of_lt (xs := y44) (i := i) (by omega)
        refine w_cut (fun a' w' => Fits 159 a' [(0, .slice (ad) (xs.length) (c)), (1, .int .u64 (key)), (9, .slice (ay44) (y44.length) (y44.length)), (10, .int .i64 (((i : Nat) : Int))), (101, .bool false)] ∧ Mem w0 Gy44 (L) w') ?_ ?_
        · skip
          refine w_plan [(true, 0), (true, 1), (true, 2), (true, 3), (true, 4), (true, 5), (true, 6), (true, 7), (true, 8), (true, 9), (true, 10), (true, 11), (true, 12), (true, 13), (true, 14), (true, 15)] (Keep Gy44 []) rfl (by kernel_rfl) (fun c a d v w h => by cases d <;> exact h) ((M.drew _).keep (Gle.refl _) (by simp)) ?_
          replace M := M.drew (w.drawn + 1)
          refine pl_run F (fun w M => run_move (F.ev rfl)) rfl ?_; clear F a; intro a F
          refine pl_run F (fun w M => run_gtr (F.ev rfl) (F.ev rfl)) rfl ?_; clear F a; intro a F
          refine pl_run F (fun w M => run_move (F.ev rfl)) rfl ?_; clear F a; intro a F
          rcases Bool.eq_false_or_eq_true (decide (0 < ((i : Nat) : Int))) with hc | hc
          · skip
            have h50b := hc; clear hc
            have h50 : 0 < ((i : Nat) : Int) := of_decide_eq_true h50b
            refine pl_guard_run F rfl rfl h50b (fun w M => run_move (F.ev rfl)) rfl ?_; clear F a; intro a F
            refine pl_guard_run F rfl rfl h50b (fun w M => run_move (F.ev rfl)) rfl ?_; clear F a; intro a F
            refine pl_guard_run F rfl rfl h50b (fun w M => run_subi (F.ev rfl) (F.ev rfl) (in_i64 (by omega) (by omega))) rfl ?_; clear F a; intro a F
            have hs51 : ((((i : Nat) : Int)) - 1 : Int) = ((i - 1 : Nat) : Int) := by omega
            rw [hs51] at F
            obtain ⟨Xe52, hXe52⟩ := get_of_lt (xs := y44) (i := i - 1) (by omega)
            obtain ⟨be52, oe52, _, Ie52, _, Ae52, ⟨rfl, hbe521, hbe522⟩⟩ := Sy44.at hXe52
            refine pl_guard_run F rfl rfl h50b (fun w M => run_indexI tok22.k tok39 (F.ev rfl) (F.ev rfl) (by omega) Ie52) rfl ?_; clear F a; intro a F
            refine pl_guard_run F rfl rfl h50b (fun w M => run_fieldAddr tok39.k rfl rfl (F.ev rfl)) rfl ?_; clear F a; intro a F
            refine pl_guard_run F rfl rfl h50b (fun w M => run_load1 (agf tok37 rfl) (F.ev rfl) (M.cellA Ae52 0 rfl rfl)) rfl ?_; clear F a; intro a F
            refine pl_guard_run F rfl rfl h50b (fun w M => run_move (F.ev rfl)) rfl ?_; clear F a; intro a F
            refine pl_guard_run F rfl rfl h50b (fun w M => run_move (F.ev rfl)) rfl ?_; clear F a; intro a F
            obtain ⟨be53, oe53, _, Ie53, _, Ae53, ⟨rfl, hbe531, hbe532⟩⟩ := Sy44.at hYi
            refine pl_guard_run F rfl rfl h50b (fun w M => run_indexI tok22.k tok39 (F.ev rfl) (F.ev rfl) (by omega) Ie53) rfl ?_; clear F a; intro a F
            refine pl_guard_run F rfl rfl h50b (fun w M => run_fieldAddr tok39.k rfl rfl (F.ev rfl)) rfl ?_; clear F a; intro a F
            refine pl_guard_run F rfl rfl h50b (fun w M => run_load1 (agf tok37 rfl) (F.ev rfl) (M.cellA Ae53 0 rfl rfl)) rfl ?_; clear F a; intro a F
            refine pl_guard_run F rfl rfl h50b (fun w M => run_gtr (F.ev rfl) (F.ev rfl)) rfl ?_; clear F a; intro a F
            refine pl_run F (fun w M => run_pick_t (F.ev rfl) h50b (F.ev rfl)) rfl ?_; clear F a; intro a F
            refine pl_nil ?_
            generalize ({ w with drawn := w.drawn + 1 } : World) = w at M ⊢
            have hz : (decide (Yi.key < Xe52.key)) = false := (decide_eq_false (by have h9 := hsry44 (i - 1) i Xe52 Yi (by omega) (by omega) (by omega) hXe52 hYi; omega))
            rw [hz] at F
            exact ⟨F.to ⟨rfl, rfl, rfl, rfl, rfl, trivial⟩, M⟩
          · skip
            have h54b := hc; clear hc
            have h54 : ¬ (0 < ((i : Nat) : Int)) := of_decide_eq_false h54b
            refine pl_guard_skip F rfl rfl h54b rfl ?_; clear F a; intro a F
            refine pl_guard_skip F rfl rfl h54b rfl ?_; clear F a; intro a F
            refine pl_guard_skip F rfl rfl h54b rfl ?_; clear F a; intro a F
            refine pl_guard_skip F rfl rfl h54b rfl ?_; clear F a; intro a F
            refine pl_guard_skip F rfl rfl h54b rfl ?_; clear F a; intro a F
            refine pl_guard_skip F rfl rfl h54b rfl ?_; clear F a; intro a F
            refine pl_guard_skip F rfl rfl h54b rfl ?_; clear F a; intro a F
            refine pl_guard_skip F rfl rfl h54b rfl ?_; clear F a; intro a F
            refine pl_guard_skip F rfl rfl h54b rfl ?_; clear F a; intro a F
            refine pl_guard_skip F rfl rfl h54b rfl ?_; clear F a; intro a F
            refine pl_guard_skip F rfl rfl h54b rfl ?_; clear F a; intro a F
            refine pl_guard_skip F rfl rfl h54b rfl ?_; clear F a; intro a F
            refine pl_run F (fun w M => run_pick_f (F.ev rfl) h54b (F.ev rfl)) rfl ?_; clear F a; intro a F
            refine pl_nil ?_
            generalize ({ w with drawn := w.drawn + 1 } : World) = w at M ⊢
            exact ⟨F.to ⟨rfl, rfl, rfl, rfl, rfl, trivial⟩, M⟩
        · clear F M
          rintro a w ⟨F, M⟩
          refine q_tn ?_
          refine w_cond_f F rfl rfl ?_
          refine wp_skip ?_
          refine q_tn ?_
          refine wp_seq ?_
          refine w_reg ?_
          refine rl_run F (run_assign (F.ev rfl)) rfl ?_; clear F a; intro a F
          refine rl_nil ?_
          refine q_tn ?_
          refine wp_seq ?_
          refine wp_seq ?_
          refine w_reg ?_
          refine rl_run F (run_assign (F.ev rfl)) rfl ?_; clear F a; intro a F
          refine rl_nil ?_
          refine q_tn ?_
          refine wp_block ?_
          refine w_loopN (fun m a' w' => ∃ (q : Nat), ∃ (kc : Nat), m = i - q ∧ Fits 159 a' [(0, .slice (ad) (xs.length) (c)), (1, .int .u64 (key)), (9, .slice (ay44) (y44.length) (y44.length)), (10, .int .i64 (((i : Nat) : Int))), (11, .int .i64 (((kc : Nat) : Int))), (12, .int .i64 (((q : Nat) : Int)))] ∧ Mem w0 Gy44 (L) w' ∧ (q ≤ i) ∧ (kc = cntK y44 q Yi.key) ∧ (kc ≤ q)) _ ⟨0, 0, rfl, F.to ⟨rfl, rfl, rfl, rfl, rfl, rfl, trivial⟩, M, Nat.zero_le _, rfl, Nat.le_refl _⟩ ?_
          clear F M
          rintro m a w ⟨q, kc, rfl, F, M, hq, hkc, hkl⟩
          refine wp_seq ?_
          refine wp_seq ?_
          refine w_reg ?_
          refine rl_run F (run_move (F.ev rfl)) rfl ?_; clear F a; intro a F
          refine rl_run F (run_move (F.ev rfl)) rfl ?_; clear F a; intro a F
          refine rl_run F (run_lss (F.ev rfl) (F.ev rfl)) rfl ?_; clear F a; intro a F
          refine rl_nil ?_
          refine q_tn ?_
          refine w_cond F rfl ?_ ?_
          · intro hc
            have h55b := hc; clear hc
            have h55 : ((q : Nat) : Int) < ((i : Nat) : Int) := of_decide_eq_true h55b
            refine wp_skip ?_
            refine q_tn ?_
            refine wp_seq ?_
            refine wp_block ?_
            refine wp_seq ?_
            refine w_plan [(true, 0), (true, 1), (true, 2), (true, 3), (true, 4), (true, 5), (true, 6), (true, 7), (true, 8), (true, 9), (true, 10)] (Keep Gy44 []) rfl (by kernel_rfl) (fun c a d v w h => by cases d <;> exact h) ((M.drew _).keep (Gle.refl _) (by simp)) ?_
            replace M := M.drew (w.drawn + 1)
            refine pl_run F (fun w M => run_move (F.ev rfl)) rfl ?_; clear F a; intro a F
            refine pl_run F (fun w M => run_move (F.ev rfl)) rfl ?_; clear F a; intro a F
            obtain ⟨Xe56, hXe56⟩ := get_of_lt (xs := y44) (i := q) (by omega)
            obtain ⟨be56, oe56, _, Ie56, _, Ae56, ⟨rfl, hbe561, hbe562⟩⟩ := Sy44.at hXe56
            refine pl_run F (fun w M => run_indexI tok22.k tok39 (F.ev rfl) (F.ev rfl) (by omega) Ie56) rfl ?_; clear F a; intro a F
            refine pl_run F (fun w M => run_fieldAddr tok39.k rfl rfl (F.ev rfl)) rfl ?_; clear F a; intro a F
            refine pl_run F (fun w M => run_load1 (agf tok37 rfl) (F.ev rfl) (M.cellA Ae56 0 rfl rfl)) rfl ?_; clear F a; intro a F
            refine pl_run F (fun w M => run_move (F.ev rfl)) rfl ?_; clear F a; intro a F
            refine pl_run F (fun w M => run_move (F.ev rfl)) rfl ?_; clear F a; intro a F
            obtain ⟨be57, oe57, _, Ie57, _, Ae57, ⟨rfl, hbe571, hbe572⟩⟩ := Sy44.at hYi
            refine pl_run F (fun w M => run_indexI tok22.k tok39 (F.ev rfl) (F.ev rfl) (by omega) Ie57) rfl ?_; clear F a; intro a F
            refine pl_run F (fun w M => run_fieldAddr tok39.k rfl rfl (F.ev rfl)) rfl ?_; clear F a; intro a F
            refine pl_run F (fun w M => run_load1 (agf tok37 rfl) (F.ev rfl) (M.cellA Ae57 0 rfl rfl)) rfl ?_; clear F a; intro a F
            refine pl_run F (fun w M => run_eqi (F.ev rfl) (F.ev rfl)) rfl ?_; clear F a; intro a F
            refine pl_nil ?_
            generalize ({ w with drawn := w.drawn + 1 } : World) = w at M ⊢
            refine q_tn ?_
            refine w_cond F rfl ?_ ?_
            · intro hc
              have h58b := hc; clear hc
              have h58 : Xe56.key = Yi.key := of_decide_eq_true h58b
              refine w_reg ?_
              refine rl_run F (run_move (F.ev rfl)) rfl ?_; clear F a; intro a F
              refine rl_run F (run_addi (F.ev rfl) (F.ev rfl) (in_i64 (by omega) (by omega))) rfl ?_; clear F a; intro a F
              refine rl_run F (run_assign (F.ev rfl)) rfl ?_; clear F a; intro a F
              refine rl_nil ?_
              refine q_bn ?_
              refine q_tn ?_
              refine w_reg ?_
              refine rl_run F (run_move (F.ev rfl)) rfl ?_; clear F a; intro a F
              refine rl_run F (run_addi (F.ev rfl) (F.ev rfl) (in_i64 (by omega) (by omega))) rfl ?_; clear F a; intro a F
              refine rl_run F (run_assign (F.ev rfl)) rfl ?_; clear F a; intro a F
              refine rl_nil ?_
              refine q_tn ?_
              exact ⟨_, by omega, q + 1, kc + 1, rfl, F.to ⟨rfl, rfl, rfl, rfl, rfl, rfl, trivial⟩, M, by omega, by rw [cntK_yes hXe56 (by assumption)]; omega, by omega⟩
            · intro hc
              have h59b := hc; clear hc
              have h59 : ¬ (Xe56.key = Yi.key) := of_decide_eq_false h59b
              refine wp_skip ?_
              refine q_bn ?_
              refine q_tn ?_
              refine w_reg ?_
              refine rl_run F (run_move (F.ev rfl)) rfl ?_; clear F a; intro a F
              refine rl_run F (run_addi (F.ev rfl) (F.ev rfl) (in_i64 (by omega) (by omega))) rfl ?_; clear F a; intro a F
              refine rl_run F (run_assign (F.ev rfl)) rfl ?_; clear F a; intro a F
              refine rl_nil ?_
              refine q_tn ?_
              exact ⟨_, by omega, q + 1, kc, rfl, F.to ⟨rfl, rfl, rfl, rfl, rfl, rfl, trivial⟩, M, by omega, by rw [cntK_no hXe56 (by assumption)]; omega, by omega⟩
          · intro hc
            have h60b := hc; clear hc
            have h60 : ¬ (((q : Nat) : Int) < ((i : Nat) : Int)) := of_decide_eq_false h60b
            refine wp_exit ?_
            refine q_te ?_
            refine q_te ?_
            refine q_bh ?_
            refine q_tn ?_
            refine wp_seq ?_
            refine wp_seq ?_
            refine w_reg ?_
            refine rl_run F (run_assign (F.ev rfl)) rfl ?_; clear F a; intro a F
            refine rl_nil ?_
            refine q_tn ?_
            refine wp_block ?_
            have hqi : q = i := by omega
            rw [hqi] at hkc
            have hKS0 := KS.start hsmy44 hYi
            rw [← hkc] at hKS0
            refine w_loopN (fun m a' w' => ∃ (z : Nat), ∃ (kz : Int), m = xs.length - z ∧ Fits 159 a' [(0, .slice (ad) (xs.length) (c)), (1, .int .u64 (key)), (9, .slice (ay44) (y44.length) (y44.length)), (10, .int .i64 (((i : Nat) : Int))), (11, .int .i64 (kz)), (13, .int .i64 (((z : Nat) : Int)))] ∧ Mem w0 Gy44 (L) w' ∧ (z ≤ xs.length) ∧ (KS xs z kz Yi) ∧ (-1 ≤ kz ∧ kz ≤ (xs.length : Int))) _ ⟨0, ((kc : Nat) : Int), rfl, F.to ⟨rfl, rfl, rfl, rfl, rfl, rfl, trivial⟩, M, Nat.zero_le _, hKS0, by omega⟩ ?_
            clear F M
            rintro m a w ⟨z, kz, rfl, F, M, hz, hKS, hkb⟩
            refine wp_seq ?_
            refine wp_seq ?_
            refine w_reg ?_
            refine rl_run F (run_move (F.ev rfl)) rfl ?_; clear F a; intro a F
            refine rl_run F (run_move (F.ev rfl)) rfl ?_; clear F a; intro a F
            refine rl_run F (run_lenSl tok22.k (F.ev rfl)) rfl ?_; clear F a; intro a F
            refine rl_run F (run_lss (F.ev rfl) (F.ev rfl)) rfl ?_; clear F a; intro a F
            refine rl_run F (run_move (F.ev rfl)) rfl ?_; clear F a; intro a F
            rcases Bool.eq_false_or_eq_true (decide (((z : Nat) : Int) < ((xs.length : Nat) : Int))) with hc | hc
            · skip
              have h61b := hc; clear hc
              have h61 : ((z : Nat) : Int) < ((xs.length : Nat) : Int) := of_decide_eq_true h61b
              refine rl_guard_t F rfl rfl rfl h61b ?_
              refine rl_run F (run_move (F.ev rfl)) rfl ?_; clear F a; intro a F
              refine rl_guard_t F rfl rfl rfl h61b ?_
              refine rl_run F (run_geq (F.ev rfl) (F.ev rfl)) rfl ?_; clear F a; intro a F
              refine rl_run F (run_pick_t (F.ev rfl) h61b (F.ev rfl)) rfl ?_; clear F a; intro a F
              refine rl_nil ?_
              refine q_tn ?_
              refine w_cond F rfl ?_ ?_
              · intro hc
                have h62b := hc; clear hc
                have h62 : 0 ≤ kz := of_decide_eq_true h62b
                refine wp_skip ?_
                refine q_tn ?_
                refine wp_seq ?_
                refine wp_block ?_
                refine wp_seq ?_
                refine w_plan [(true, 0), (true, 1), (true, 2), (true, 3), (true, 4), (true, 5), (true, 6), (true, 7), (true, 8), (true, 9), (true, 10)] (Keep Gy44 []) rfl (by kernel_rfl) (fun c a d v w h => by cases d <;> exact h) ((M.drew _).keep (Gle.refl _) (by simp)) ?_
                replace M := M.drew (w.drawn + 1)
                refine pl_run F (fun w M => run_move (F.ev rfl)) rfl ?_; clear F a; intro a F
                refine pl_run F (fun w M => run_move (F.ev rfl)) rfl ?_; clear F a; intro a F
                obtain ⟨Xe63, hXe63⟩ := get_of_lt (xs := xs) (i := z) (by omega)
                obtain ⟨be63, oe63, _, Ie63, _, Ae63, ⟨rfl, hbe631, hbe632⟩⟩ := S.at hXe63
                refine pl_run F (fun w M => run_indexI tok22.k tok39 (F.ev rfl) (F.ev rfl) (by omega) Ie63) rfl ?_; clear F a; intro a F
                refine pl_run F (fun w M => run_fieldAddr tok39.k rfl rfl (F.ev rfl)) rfl ?_; clear F a; intro a F
                refine pl_run F (fun w M => run_load1 (agf tok37 rfl) (F.ev rfl) (M.cellA Ae63 0 rfl rfl)) rfl ?_; clear F a; intro a F
                refine pl_run F (fun w M => run_move (F.ev rfl)) rfl ?_; clear F a; intro a F
                refine pl_run F (fun w M => run_move (F.ev rfl)) rfl ?_; clear F a; intro a F
                obtain ⟨be64, oe64, _, Ie64, _, Ae64, ⟨rfl, hbe641, hbe642⟩⟩ := Sy44.at hYi
                refine pl_run F (fun w M => run_indexI tok22.k tok39 (F.ev rfl) (F.ev rfl) (by omega) Ie64) rfl ?_; clear F a; intro a F
                refine pl_run F (fun w M => run_fieldAddr tok39.k rfl rfl (F.ev rfl)) rfl ?_; clear F a; intro a F
                refine pl_run F (fun w M => run_load1 (agf tok37 rfl) (F.ev rfl) (M.cellA Ae64 0 rfl rfl)) rfl ?_; clear F a; intro a F
                refine pl_run F (fun w M => run_eqi (F.ev rfl) (F.ev rfl)) rfl ?_; clear F a; intro a F
                refine pl_nil ?_
                generalize ({ w with drawn := w.drawn + 1 } : World) = w at M ⊢
                refine q_tn ?_
                refine w_cond F rfl ?_ ?_
                · intro hc
                  have h65b := hc; clear hc
                  have h65 : Xe63.key = Yi.key := of_decide_eq_true h65b
                  refine wp_seq ?_
                  refine wp_seq ?_
                  refine w_plan [(true, 0), (true, 1), (true, 2), (true, 3), (true, 4), (true, 5), (true, 6), (true, 7), (true, 8), (true, 9), (true, 10), (true, 11), (true, 12)] (Keep Gy44 []) rfl (by kernel_rfl) (fun c a d v w h => by cases d <;> exact h) ((M.drew _).keep (Gle.refl _) (by simp)) ?_
                  replace M := M.drew (w.drawn + 1)
                  refine pl_run F (fun w M => run_move (F.ev rfl)) rfl ?_; clear F a; intro a F
                  refine pl_run F (fun w M => run_eqi (F.ev rfl) (F.ev rfl)) rfl ?_; clear F a; intro a F
                  refine pl_run F (fun w M => run_move (F.ev rfl)) rfl ?_; clear F a; intro a F
                  rcases Bool.eq_false_or_eq_true (decide (kz = 0)) with hc | hc
                  · skip
                    have h66b := hc; clear hc
                    have h66 : kz = 0 := of_decide_eq_true h66b
                    refine pl_guard_run F rfl rfl h66b (fun w M => run_move (F.ev rfl)) rfl ?_; clear F a; intro a F
                    refine pl_guard_run F rfl rfl h66b (fun w M => run_move (F.ev rfl)) rfl ?_; clear F a; intro a F
                    obtain ⟨be67, oe67, _, Ie67, _, Ae67, ⟨rfl, hbe671, hbe672⟩⟩ := S.at hXe63
                    refine pl_guard_run F rfl rfl h66b (fun w M => run_indexI tok22.k tok39 (F.ev rfl) (F.ev rfl) (by omega) Ie67) rfl ?_; clear F a; intro a F
                    refine pl_guard_run F rfl rfl h66b (fun w M => run_loadA tok39 rfl (F.ev rfl) (cs := [.int .u64 (Xe63.key), .int .i64 (Xe63.v)]) rfl (M.cellsA Ae67 0 (by omega) rfl)) rfl ?_; clear F a; intro a F
                    refine pl_guard_run F rfl rfl h66b (fun w M => run_move (F.ev rfl)) rfl ?_; clear F a; intro a F
                    refine pl_guard_run F rfl rfl h66b (fun w M => run_move (F.ev rfl)) rfl ?_; clear F a; intro a F
                    obtain ⟨be68, oe68, _, Ie68, _, Ae68, ⟨rfl, hbe681, hbe682⟩⟩ := Sy44.at hYi
                    refine pl_guard_run F rfl rfl h66b (fun w M => run_indexI tok22.k tok39 (F.ev rfl) (F.ev rfl) (by omega) Ie68) rfl ?_; clear F a; intro a F
                    refine pl_guard_run F rfl rfl h66b (fun w M => run_loadA tok39 rfl (F.ev rfl) (cs := [.int .u64 (Yi.key), .int .i64 (Yi.v)]) rfl (M.cellsA Ae68 0 (by omega) rfl)) rfl ?_; clear F a; intro a F
                    refine pl_guard_run F rfl rfl h66b (fun w M => run_ne2 (t1 := 37) (t2 := 2) (by kernel_rfl) (by kernel_rfl) (by kernel_rfl) (by kernel_rfl) tok37.k tok2.k (F.ev rfl) (F.ev rfl)) rfl ?_; clear F a; intro a F
                    refine pl_run F (fun w M => run_pick_t (F.ev rfl) h66b (F.ev rfl)) rfl ?_; clear F a; intro a F
                    refine pl_nil ?_
                    generalize ({ w with drawn := w.drawn + 1 } : World) = w at M ⊢
                    refine q_tn ?_
                    refine w_cond_f F rfl (not_f (decide_eq_true (by have e : kz = 0 := (by assumption); rw [e] at hKS; rw [KS.hit0 hKS hXe63 (by assumption)]; exact ⟨rfl, rfl⟩))) ?_
                    refine wp_skip ?_
                    refine q_tn ?_
                    refine w_reg ?_
                    refine rl_run F (run_move (F.ev rfl)) rfl ?_; clear F a; intro a F
                    refine rl_run F (run_subi (F.ev rfl) (F.ev rfl) (in_i64 (by omega) (by omega))) rfl ?_; clear F a; intro a F
                    refine rl_run F (run_assign (F.ev rfl)) rfl ?_; clear F a; intro a F
                    refine rl_nil ?_
                    refine q_bn ?_
                    refine q_tn ?_
                    refine w_reg ?_
                    refine rl_run F (run_move (F.ev rfl)) rfl ?_; clear F a; intro a F
                    refine rl_run F (run_addi (F.ev rfl) (F.ev rfl) (in_i64 (by omega) (by omega))) rfl ?_; clear F a; intro a F
                    refine rl_run F (run_assign (F.ev rfl)) rfl ?_; clear F a; intro a F
                    refine rl_nil ?_
                    refine q_tn ?_
                    exact ⟨_, by omega, z + 1, kz - 1, rfl, F.to ⟨rfl, rfl, rfl, rfl, rfl, rfl, trivial⟩, M, by omega, hKS.hit (by omega) hXe63 (by assumption), by omega⟩
                  · skip
                    have h69b := hc; clear hc
                    have h69 : ¬ (kz = 0) := of_decide_eq_false h69b
                    refine pl_guard_skip F rfl rfl h69b rfl ?_; clear F a; intro a F
                    refine pl_guard_skip F rfl rfl h69b rfl ?_; clear F a; intro a F
                    refine pl_guard_skip F rfl rfl h69b rfl ?_; clear F a; intro a F
                    refine pl_guard_skip F rfl rfl h69b rfl ?_; clear F a; intro a F
                    refine pl_guard_skip F rfl rfl h69b rfl ?_; clear F a; intro a F
                    refine pl_guard_skip F rfl rfl h69b rfl ?_; clear F a; intro a F
                    refine pl_guard_skip F rfl rfl h69b rfl ?_; clear F a; intro a F
                    refine pl_guard_skip F rfl rfl h69b rfl ?_; clear F a; intro a F
                    refine pl_guard_skip F rfl rfl h69b rfl ?_; clear F a; intro a F
                    refine pl_run F (fun w M => run_pick_f (F.ev rfl) h69b (F.ev rfl)) rfl ?_; clear F a; intro a F
                    refine pl_nil ?_
                    generalize ({ w with drawn := w.drawn + 1 } : World) = w at M ⊢
                    refine q_tn ?_
                    refine w_cond_f F rfl rfl ?_
                    refine wp_skip ?_
                    refine q_tn ?_
                    refine w_reg ?_
                    refine rl_run F (run_move (F.ev rfl)) rfl ?_; clear F a; intro a F
                    refine rl_run F (run_subi (F.ev rfl) (F.ev rfl) (in_i64 (by omega) (by omega))) rfl ?_; clear F a; intro a F
                    refine rl_run F (run_assign (F.ev rfl)) rfl ?_; clear F a; intro a F
                    refine rl_nil ?_
                    refine q_bn ?_
                    refine q_tn ?_
                    refine w_reg ?_
                    refine rl_run F (run_move (F.ev rfl)) rfl ?_; clear F a; intro a F
                    refine rl_run F (run_addi (F.ev rfl) (F.ev rfl) (in_i64 (by omega) (by omega))) rfl ?_; clear F a; intro a F
                    refine rl_run F (run_assign (F.ev rfl)) rfl ?_; clear F a; intro a F
                    refine rl_nil ?_
                    refine q_tn ?_
                    exact ⟨_, by omega, z + 1, kz - 1, rfl, F.to ⟨rfl, rfl, rfl, rfl, rfl, rfl, trivial⟩, M, by omega, hKS.hit (by omega) hXe63 (by assumption), by omega⟩
                · intro hc
                  have h70b := hc; clear hc
                  have h70 : ¬ (Xe63.key = Yi.key) := of_decide_eq_false h70b
                  refine wp_skip ?_
                  refine q_bn ?_
                  refine q_tn ?_
                  refine w_reg ?_
                  refine rl_run F (run_move (F.ev rfl)) rfl ?_; clear F a; intro a F
                  refine rl_run F (run_addi (F.ev rfl) (F.ev rfl) (in_i64 (by omega) (by omega))) rfl ?_; clear F a; intro a F
                  refine rl_run F (run_assign (F.ev rfl)) rfl ?_; clear F a; intro a F
                  refine rl_nil ?_
                  refine q_tn ?_
                  exact ⟨_, by omega, z + 1, kz, rfl, F.to ⟨rfl, rfl, rfl, rfl, rfl, rfl, trivial⟩, M, by omega, hKS.miss hXe63 (by assumption), by omega⟩
              · intro hc
                have h71b := hc; clear hc
                have h71 : ¬ (0 ≤ kz) := of_decide_eq_false h71b
                refine wp_exit ?_
                refine q_te ?_
                refine q_te ?_
                refine q_bh ?_
                refine q_tn ?_
                refine wp_seq ?_
                refine w_reg ?_
                refine rl_run F (run_move (F.ev rfl)) rfl ?_; clear F a; intro a F
                refine rl_run F (run_geq (F.ev rfl) (F.ev rfl)) rfl ?_; clear F a; intro a F
                refine rl_nil ?_
                refine q_tn ?_
                refine w_cond_f F rfl (decide_eq_false (by first | assumption | (have := KS.stop hKS (by omega); omega))) ?_
                refine wp_skip ?_
                refine q_bn ?_
                refine q_tn ?_
                refine w_reg ?_
                refine rl_run F (run_move (F.ev rfl)) rfl ?_; clear F a; intro a F
                refine rl_run F (run_addi (F.ev rfl) (F.ev rfl) (in_i64 (by omega) (by omega))) rfl ?_; clear F a; intro a F
                refine rl_run F (run_assign (F.ev rfl)) rfl ?_; clear F a; intro a F
                refine rl_nil ?_
                refine q_tn ?_
                exact ⟨_, by omega, i + 1, rfl, F.to ⟨rfl, rfl, rfl, rfl, trivial⟩, M, by omega⟩
            · skip
              have h72b := hc; clear hc
              have h72 : ¬ (((z : Nat) : Int) < ((xs.length : Nat) : Int)) := of_decide_eq_false h72b
              refine rl_guard_f F rfl rfl rfl h72b ?_; clear F a; intro a F
              refine rl_guard_f F rfl rfl rfl h72b ?_; clear F a; intro a F
              refine rl_run F (run_pick_f (F.ev rfl) h72b (F.ev rfl)) rfl ?_; clear F a; intro a F
              refine rl_nil ?_
              refine q_tn ?_
              refine w_cond_f F rfl rfl ?_
              refine wp_exit ?_
              refine q_te ?_
              refine q_te ?_
              refine q_bh ?_
              refine q_tn ?_
              refine wp_seq ?_
              refine w_reg ?_
              refine rl_run F (run_move (F.ev rfl)) rfl ?_; clear F a; intro a F
              refine rl_run F (run_geq (F.ev rfl) (F.ev rfl)) rfl ?_; clear F a; intro a F
              refine rl_nil ?_
              refine q_tn ?_
              refine w_cond_f F rfl (decide_eq_false (by first | assumption | (have := KS.stop hKS (by omega); omega))) ?_
              refine wp_skip ?_
              refine q_bn ?_
              refine q_tn ?_
              refine w_reg ?_
              refine rl_run F (run_move (F.ev rfl)) rfl ?_; clear F a; intro a F
              refine rl_run F (run_addi (F.ev rfl) (F.ev rfl) (in_i64 (by omega) (by omega))) rfl ?_; clear F a; intro a F
              refine rl_run F (run_assign (F.ev rfl)) rfl ?_; clear F a; intro a F
              refine rl_nil ?_
              refine q_tn ?_
              exact ⟨_, by omega, i + 1, rfl, F.to ⟨rfl, rfl, rfl, rfl, trivial⟩, M, by omega⟩
      · intro hc
        have h73b := hc; clear hc
        have h73 : ¬ (((i : Nat) : Int) < ((y44.length : Nat) : Int)) := of_decide_eq_false h73b
        refine wp_exit ?_
        refine q_te ?_
        refine q_te ?_
        refine q_bh ?_
        refine q_tn ?_
        refine wp_seq ?_
        refine w_reg ?_
        refine rl_callS F ent10 rfl rfl (lives_spec M HG) ?_; clear F M a; rintro _ w a M rfl F
        refine rl_run F (run_assign (F.ev rfl)) rfl ?_; clear F a; intro a F
        refine rl_nil ?_
        refine q_tn ?_
        refine wp_ret ?_
        refine fin1 F rfl rfl ?_
        exact ⟨Gy44, (hGz43.trans hGy44), M.weaken (List.Sublist.refl _), rfl⟩

theorem find_law {w0 w : World} {G : Ghost} {L : List Res} (M : Mem w0 G L w) (HG : Globs 0 1 4 5 G) {ad : Option Addr} {c : Nat} {xs : List PairD} (S : RdSl rdPair 2 G (.slice ad xs.length c) xs) (hxs : xs.length ≤ 9223372036854775807) {key : Int} : Calls Tryd.prog 8 #[.slice ad xs.length c, .int .u64 key] w (RetS w0 G L fun v => v = .bool true) := Ret.plain M (find_ret M HG S hxs)

end Go.Proofs.YtokeofoemjeleaaDoor
