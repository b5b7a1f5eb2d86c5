/- The walks, part K. -/
import Derived.Test.YtokeofoemjeleaaDoorWalkM
import Derived.Test.YtokeofoemjeleaaDoorLaw
namespace Go.Proofs.YtokeofoemjeleaaDoor
open Go Go.Y Go.Proofs
set_option linter.unusedSimpArgs false
set_option linter.unusedVariables false
theorem merge_ret {w0 w : World} {G : Ghost} {L : List Res} (M : Mem w0 G L w) (HG : Globs 0 1 4 5 G) {ad : Option Addr} {c : Nat} {xs : List P8} (S : RdSl rdP8 2 G (.slice ad xs.length c) xs) (hxs : xs.length ≤ 9223372036854775807) {ay : Option Addr} {cy : Nat} {ys : List P8} (Sy : RdSl rdP8 2 G (.slice ay ys.length cy) ys) (hys : ys.length ≤ 9223372036854775807) {key : Int} : Calls Tryd.prog 9 #[.agg #[.slice ad xs.length c], .agg #[.slice ay ys.length cy], .int .u64 key] w (Ret w0 G L fun _ v => v = .bool true) := by
  refine calls_start (vs := [_, _, _]) Tryd.func9 rfl (n := 88) rfl rfl ?_
  intro a F
  refine wp_seq ?_
  refine w_reg ?_
  refine rl_box F M rfl (cs := [.slice (ad) (xs.length) (c)]) rfl rfl ?_; clear F M a; intro b1 w a M F
  refine rl_box F M rfl (cs := [.slice (ay) (ys.length) (cy)]) rfl rfl ?_; clear F M a; intro b2 w a M F
  refine rl_run F (run_assign (F.ev rfl)) rfl ?_; clear F a; intro a F
  refine rl_nil ?_
  refine q_tn ?_
  refine wp_seq ?_
  refine w_plan [(true, 0), (true, 2), (false, 1), (false, 3), (true, 4), (true, 5)] (Keep G [.blk b2 [.slice (ay) (ys.length) (cy)] 54, .blk b1 [.slice (ad) (xs.length) (c)] 54]) rfl (by kernel_rfl) (fun c a d v w h => by cases d <;> exact h) ((M.drew _).keep (Gle.refl _) (by simp)) ?_
  replace M := M.drew (w.drawn + 1)
  refine pl_run F (fun w M => run_loadA tok54 rfl (F.ev rfl) (cs := [.slice (ad) (xs.length) (c)]) rfl (M.cellsL (k := 1) rfl rfl)) rfl ?_; clear F a; intro a F
  refine pl_run F (fun w M => run_loadA tok54 rfl (F.ev rfl) (cs := [.slice (ay) (ys.length) (cy)]) rfl (M.cellsL (k := 0) rfl rfl)) rfl ?_; clear F a; intro a F
  refine pl_act ?_ rfl
  refine rl_call F ent23 rfl rfl (tof_spec M S (by omega)) ?_; clear F M a; rintro _ Gt3 w a hGt3 M ⟨at3, ct3, t3, rfl, St3, hVt3, hlt3⟩ F
  replace HG := HG.mono hGt3
  replace S := S.mono mono_rdP8 hGt3
  replace Sy := Sy.mono mono_rdP8 hGt3
  refine rl_nil ?_
  refine ⟨Keep Gt3 [.blk b2 [.slice (ay) (ys.length) (cy)] 54, .blk b1 [.slice (ad) (xs.length) (c)] 54], M.keep (Gle.refl _) (by simp), fun w h => h.mono hGt3 (by simp), ?_⟩
  refine pl_act ?_ rfl
  refine rl_call F ent23 rfl rfl (tof_spec M Sy (by omega)) ?_; clear F M a; rintro _ Gt4 w a hGt4 M ⟨at4, ct4, t4, rfl, St4, hVt4, hlt4⟩ F
  replace HG := HG.mono hGt4
  replace S := S.mono mono_rdP8 hGt4
  replace Sy := Sy.mono mono_rdP8 hGt4
  replace St3 := St3.mono mono_rdPair hGt4
  refine rl_nil ?_
  refine ⟨Keep Gt4 [.blk b2 [.slice (ay) (ys.length) (cy)] 54, .blk b1 [.slice (ad) (xs.length) (c)] 54], M.keep (Gle.refl _) (by simp), fun w h => h.mono hGt4 (by simp), ?_⟩
  refine pl_run F (fun w M => run_assign (F.ev rfl)) rfl ?_; clear F a; intro a F
  refine pl_run F (fun w M => run_assign (F.ev rfl)) rfl ?_; clear F a; intro a F
  refine pl_nil ?_
  refine q_tn ?_
  refine wp_seq ?_
  refine w_reg ?_
  refine rl_run F (run_move (F.ev rfl)) rfl ?_; clear F a; intro a F
  refine rl_run F (run_move (F.ev rfl)) rfl ?_; clear F a; intro a F
  refine rl_call F ent13 rfl rfl (merge_spec (xs := t3) (ys := t4) (least := 1) M St3 (by omega) St4 (by omega)) ?_; clear F M a; rintro _ Gm5 w a hGm5 M ⟨am5, rfl, Sm5⟩ F
  replace HG := HG.mono hGm5
  replace S := S.mono mono_rdP8 hGm5
  replace Sy := Sy.mono mono_rdP8 hGm5
  replace St3 := St3.mono mono_rdPair hGm5
  replace St4 := St4.mono mono_rdPair hGm5
  have hqm5 := (mergeVT hVt3 hlt3 hVt4 hlt4 : mergeR t3 t4 1 = mergeF t3 t4 ∧ mergeE t3 t4 1 = 0)
  rw [hqm5.1] at F Sm5
  rw [hqm5.2] at F
  refine rl_run F (run_move (F.ev rfl)) rfl ?_; clear F a; intro a F
  refine rl_run F (run_extract (v := .slice (am5) ((mergeF t3 t4).length) ((mergeF t3 t4).length)) (F.ev rfl) rfl) rfl ?_; clear F a; intro a F
  refine rl_run F (run_extract (v := .int .i64 (0)) (F.ev rfl) rfl) rfl ?_; clear F a; intro a F
  refine rl_run F (run_assign (F.ev rfl)) rfl ?_; clear F a; intro a F
  refine rl_run F (run_assign (F.ev rfl)) rfl ?_; clear F a; intro a F
  refine rl_nil ?_
  refine q_tn ?_
  refine wp_seq ?_
  refine wp_seq ?_
  have hml := mergeF_len t3 t4
  have hmc := mergeVT_check hVt3 hlt3 hVt4 hlt4
  refine w_reg ?_
  refine rl_run F (run_move (F.ev rfl)) rfl ?_; clear F a; intro a F
  refine rl_run F (run_nei (F.ev rfl) (F.ev rfl)) rfl ?_; clear F a; intro a F
  refine rl_run F (run_move (F.ev rfl)) rfl ?_; clear F a; intro a F
  refine rl_guard_t F rfl rfl rfl (not_f (decide_eq_true (by decide))) ?_
  refine rl_run F (run_move (F.ev rfl)) rfl ?_; clear F a; intro a F
  refine rl_guard_t F rfl rfl rfl (not_f (decide_eq_true (by decide))) ?_
  refine rl_run F (run_move (F.ev rfl)) rfl ?_; clear F a; intro a F
  refine rl_guard_t F rfl rfl rfl (not_f (decide_eq_true (by decide))) ?_
  refine rl_run F (run_move (F.ev rfl)) rfl ?_; clear F a; intro a F
  refine rl_guard_t F rfl rfl rfl (not_f (decide_eq_true (by decide))) ?_
  refine rl_call F ent16 rfl rfl (rmerge_spec (xs := t3) (ys := t4) M St3 (by omega) St4 (by omega) (by omega) (by omega)) ?_; clear F M a; rintro _ Gm6 w a hGm6 M ⟨am6, cm6, rfl, Sm6⟩ F
  replace HG := HG.mono hGm6
  replace S := S.mono mono_rdP8 hGm6
  replace Sy := Sy.mono mono_rdP8 hGm6
  replace St3 := St3.mono mono_rdPair hGm6
  replace St4 := St4.mono mono_rdPair hGm6
  replace Sm5 := Sm5.mono mono_rdPair hGm6
  refine rl_guard_t F rfl rfl rfl (not_f (decide_eq_true (by decide))) ?_
  refine rl_callS F ent15 rfl rfl (same_spec (xs := mergeF t3 t4) M Sm5 Sm6 (by omega)) ?_; clear F M a; rintro _ w a M rfl F
  refine rl_guard_t F rfl rfl rfl (not_f (decide_eq_true (by decide))) ?_
  refine rl_run F (run_not (F.ev rfl)) rfl ?_; clear F a; intro a F
  refine rl_run F (run_pick_f (F.ev rfl) (not_f (decide_eq_true (by decide))) (F.ev rfl)) rfl ?_; clear F a; intro a F
  refine rl_run F (run_move (F.ev rfl)) rfl ?_; clear F a; intro a F
  refine rl_guard_t F rfl rfl rfl rfl ?_
  refine rl_run F (run_move (F.ev rfl)) rfl ?_; clear F a; intro a F
  refine rl_guard_t F rfl rfl rfl rfl ?_
  refine rl_callS F ent12 rfl rfl (checked_spec (xs := mergeF t3 t4) (least := 1) (at' := 0) (e' := 0) M Sm5 (by omega) (by exact hmc)) ?_; clear F M a; rintro _ w a M rfl F
  refine rl_guard_t F rfl rfl rfl rfl ?_
  refine rl_run F (run_not (F.ev rfl)) rfl ?_; clear F a; intro a F
  refine rl_run F (run_pick_f (F.ev rfl) rfl (F.ev rfl)) rfl ?_; clear F a; intro a F
  refine rl_nil ?_
  refine q_tn ?_
  refine w_cond_f F rfl rfl ?_
  refine wp_skip ?_
  refine q_tn ?_
  refine wp_seq ?_
  refine w_reg ?_
  refine rl_run F (run_move (F.ev rfl)) rfl ?_; clear F a; intro a F
  refine rl_run F (run_move (F.ev rfl)) rfl ?_; clear F a; intro a F
  refine rl_callS F ent20 rfl rfl (find_spec (key := key) M Sm5 (by omega)) ?_; clear F M a; rintro _ w a M rfl F
  refine rl_run F (run_move (F.ev rfl)) rfl ?_; clear F a; intro a F
  refine rl_run F (run_extract (v := .int .i64 ((findV (mergeF t3 t4) key).1)) (F.ev rfl) rfl) rfl ?_; clear F a; intro a F
  refine rl_run F (run_extract (v := .bool ((findV (mergeF t3 t4) key).2)) (F.ev rfl) rfl) rfl ?_; clear F a; intro a F
  refine rl_run F (run_assign (F.ev rfl)) rfl ?_; clear F a; intro a F
  refine rl_run F (run_assign (F.ev rfl)) rfl ?_; clear F a; intro a F
  refine rl_nil ?_
  refine q_tn ?_
  refine wp_seq ?_
  refine w_reg ?_
  refine rl_run F (run_move (F.ev rfl)) rfl ?_; clear F a; intro a F
  refine rl_run F (run_move (F.ev rfl)) rfl ?_; clear F a; intro a F
  refine rl_callS F ent20 rfl rfl (find_spec (key := key) M St4 (by omega)) ?_; clear F M a; rintro _ w a M rfl F
  refine rl_run F (run_move (F.ev rfl)) rfl ?_; clear F a; intro a F
  refine rl_run F (run_extract (v := .int .i64 ((findV t4 key).1)) (F.ev rfl) rfl) rfl ?_; clear F a; intro a F
  refine rl_run F (run_extract (v := .bool ((findV t4 key).2)) (F.ev rfl) rfl) rfl ?_; clear F a; intro a F
  refine rl_run F (run_assign (F.ev rfl)) rfl ?_; clear F a; intro a F
  refine rl_run F (run_assign (F.ev rfl)) rfl ?_; clear F a; intro a F
  refine rl_nil ?_
  refine q_tn ?_
  refine wp_seq ?_
  refine wp_seq ?_
  refine w_reg ?_
  refine rl_run F (run_move (F.ev rfl)) rfl ?_; clear F a; intro a F
  refine rl_run F (run_not (F.ev rfl)) rfl ?_; clear F a; intro a F
  refine rl_nil ?_
  refine q_tn ?_
  refine w_cond F rfl ?_ ?_
  · intro hc
    have h7b := hc; clear hc
    have h7 : ((findV t4 key).2) = false := (of_not_t h7b)
    have h7c : ((findV t4 key).2) = false := (of_not_t h7b)
    refine w_reg ?_
    refine rl_run F (run_move (F.ev rfl)) rfl ?_; clear F a; intro a F
    refine rl_run F (run_move (F.ev rfl)) rfl ?_; clear F a; intro a F
    refine rl_callS F ent20 rfl rfl (find_spec (key := key) M St3 (by omega)) ?_; clear F M a; rintro _ w a M rfl F
    refine rl_run F (run_move (F.ev rfl)) rfl ?_; clear F a; intro a F
    refine rl_run F (run_extract (v := .int .i64 ((findV t3 key).1)) (F.ev rfl) rfl) rfl ?_; clear F a; intro a F
    refine rl_run F (run_extract (v := .bool ((findV t3 key).2)) (F.ev rfl) rfl) rfl ?_; clear F a; intro a F
    refine rl_run F (run_assign (F.ev rfl)) rfl ?_; clear F a; intro a F
    refine rl_run F (run_assign (F.ev rfl)) rfl ?_; clear F a; intro a F
    refine rl_nil ?_
    refine q_tn ?_
    refine wp_seq ?_
    refine w_reg ?_
    refine rl_run F (run_move (F.ev rfl)) rfl ?_; clear F a; intro a F
    refine rl_run F (run_move (F.ev rfl)) rfl ?_; clear F a; intro a F
    refine rl_call F ent13 rfl rfl (merge_spec (xs := t3) (ys := t3) (least := 1) M St3 (by omega) St3 (by omega)) ?_; clear F M a; rintro _ Gm8 w a hGm8 M ⟨am8, rfl, Sm8⟩ F
    replace HG := HG.mono hGm8
    replace S := S.mono mono_rdP8 hGm8
    replace Sy := Sy.mono mono_rdP8 hGm8
    replace St3 := St3.mono mono_rdPair hGm8
    replace St4 := St4.mono mono_rdPair hGm8
    replace Sm5 := Sm5.mono mono_rdPair hGm8
    replace Sm6 := Sm6.mono mono_rdPair hGm8
    have hqm8 := (mergeVT_self hVt3 hlt3 : mergeR t3 t3 1 = t3 ∧ mergeE t3 t3 1 = 0)
    rw [hqm8.1] at F Sm8
    rw [hqm8.2] at F
    refine rl_run F (run_move (F.ev rfl)) rfl ?_; clear F a; intro a F
    refine rl_run F (run_extract (v := .slice (am8) ((t3).length) ((t3).length)) (F.ev rfl) rfl) rfl ?_; clear F a; intro a F
    refine rl_run F (run_extract (v := .int .i64 (0)) (F.ev rfl) rfl) rfl ?_; clear F a; intro a F
    refine rl_run F (run_assign (F.ev rfl)) rfl ?_; clear F a; intro a F
    refine rl_run F (run_assign (F.ev rfl)) rfl ?_; clear F a; intro a F
    refine rl_nil ?_
    refine q_tn ?_
    refine wp_seq ?_
    refine w_reg ?_
    refine rl_run F (run_move (F.ev rfl)) rfl ?_; clear F a; intro a F
    refine rl_run F (run_move (F.ev rfl)) rfl ?_; clear F a; intro a F
    refine rl_run F (run_eqi (F.ev rfl) (F.ev rfl)) rfl ?_; clear F a; intro a F
    refine rl_run F (run_move (F.ev rfl)) rfl ?_; clear F a; intro a F
    have hg9 : (decide ((findV (mergeF t3 t4) key).1 = (findV t3 key).1)) = true := (decide_eq_true (by first | (rw [findV_merge hVt3, if_pos (by assumption)] <;> simp) | (rw [findV_merge hVt3, if_neg (by simp only [Bool.not_eq_true]; assumption)] <;> simp)))
    refine rl_guard_t F rfl rfl rfl hg9 ?_
    refine rl_run F (run_move (F.ev rfl)) rfl ?_; clear F a; intro a F
    refine rl_guard_t F rfl rfl rfl hg9 ?_
    refine rl_run F (run_move (F.ev rfl)) rfl ?_; clear F a; intro a F
    refine rl_guard_t F rfl rfl rfl hg9 ?_
    refine rl_run F (run_eqb tok4.k (F.ev rfl) (F.ev rfl)) rfl ?_; clear F a; intro a F
    refine rl_run F (run_pick_t (F.ev rfl) hg9 (F.ev rfl)) rfl ?_; clear F a; intro a F
    refine rl_run F (run_move (F.ev rfl)) rfl ?_; clear F a; intro a F
    have hg10 : (((findV (mergeF t3 t4) key).2) == ((findV t3 key).2)) = true := (by first | (rw [findV_merge hVt3, if_pos (by assumption)] <;> simp) | (rw [findV_merge hVt3, if_neg (by simp only [Bool.not_eq_true]; assumption)] <;> simp))
    refine rl_guard_t F rfl rfl rfl hg10 ?_
    refine rl_run F (run_move (F.ev rfl)) rfl ?_; clear F a; intro a F
    refine rl_guard_t F rfl rfl rfl hg10 ?_
    refine rl_run F (run_eqi (F.ev rfl) (F.ev rfl)) rfl ?_; clear F a; intro a F
    refine rl_run F (run_pick_t (F.ev rfl) hg10 (F.ev rfl)) rfl ?_; clear F a; intro a F
    refine rl_run F (run_move (F.ev rfl)) rfl ?_; clear F a; intro a F
    refine rl_guard_t F rfl rfl rfl (decide_eq_true (by decide)) ?_
    refine rl_run F (run_move (F.ev rfl)) rfl ?_; clear F a; intro a F
    refine rl_guard_t F rfl rfl rfl (decide_eq_true (by decide)) ?_
    refine rl_run F (run_move (F.ev rfl)) rfl ?_; clear F a; intro a F
    refine rl_guard_t F rfl rfl rfl (decide_eq_true (by decide)) ?_
    refine rl_callS F ent15 rfl rfl (same_spec (xs := t3) M Sm8 St3 (by omega)) ?_; clear F M a; rintro _ w a M rfl F
    refine rl_run F (run_pick_t (F.ev rfl) (decide_eq_true (by decide)) (F.ev rfl)) rfl ?_; clear F a; intro a F
    refine rl_run F (run_move (F.ev rfl)) rfl ?_; clear F a; intro a F
    refine rl_guard_t F rfl rfl rfl rfl ?_
    refine rl_callS F ent10 rfl rfl (lives_spec M HG) ?_; clear F M a; rintro _ w a M rfl F
    refine rl_run F (run_pick_t (F.ev rfl) rfl (F.ev rfl)) rfl ?_; clear F a; intro a F
    refine rl_run F (run_assign (F.ev rfl)) rfl ?_; clear F a; intro a F
    refine rl_nil ?_
    refine q_tn ?_
    refine wp_ret ?_
    refine fin1 F rfl rfl ?_
    exact ⟨Gm8, ((((hGt3.trans hGt4).trans hGm5).trans hGm6).trans hGm8), M.weaken (.cons _ (.cons _ (List.Sublist.refl _))), rfl⟩
  · intro hc
    have h11b := hc; clear hc
    have h11 : ((findV t4 key).2) = true := (of_not_f h11b)
    have h11c : ((findV t4 key).2) = true := (of_not_f h11b)
    refine wp_skip ?_
    refine q_tn ?_
    refine wp_seq ?_
    refine w_reg ?_
    refine rl_run F (run_move (F.ev rfl)) rfl ?_; clear F a; intro a F
    refine rl_run F (run_move (F.ev rfl)) rfl ?_; clear F a; intro a F
    refine rl_call F ent13 rfl rfl (merge_spec (xs := t3) (ys := t3) (least := 1) M St3 (by omega) St3 (by omega)) ?_; clear F M a; rintro _ Gm12 w a hGm12 M ⟨am12, rfl, Sm12⟩ F
    replace HG := HG.mono hGm12
    replace S := S.mono mono_rdP8 hGm12
    replace Sy := Sy.mono mono_rdP8 hGm12
    replace St3 := St3.mono mono_rdPair hGm12
    replace St4 := St4.mono mono_rdPair hGm12
    replace Sm5 := Sm5.mono mono_rdPair hGm12
    replace Sm6 := Sm6.mono mono_rdPair hGm12
    have hqm12 := (mergeVT_self hVt3 hlt3 : mergeR t3 t3 1 = t3 ∧ mergeE t3 t3 1 = 0)
    rw [hqm12.1] at F Sm12
    rw [hqm12.2] at F
    refine rl_run F (run_move (F.ev rfl)) rfl ?_; clear F a; intro a F
    refine rl_run F (run_extract (v := .slice (am12) ((t3).length) ((t3).length)) (F.ev rfl) rfl) rfl ?_; clear F a; intro a F
    refine rl_run F (run_extract (v := .int .i64 (0)) (F.ev rfl) rfl) rfl ?_; clear F a; intro a F
    refine rl_run F (run_assign (F.ev rfl)) rfl ?_; clear F a; intro a F
    refine rl_run F (run_assign (F.ev rfl)) rfl ?_; clear F a; intro a F
    refine rl_nil ?_
    refine q_tn ?_
    refine wp_seq ?_
    refine w_reg ?_
    refine rl_run F (run_move (F.ev rfl)) rfl ?_; clear F a; intro a F
    refine rl_run F (run_move (F.ev rfl)) rfl ?_; clear F a; intro a F
    refine rl_run F (run_eqi (F.ev rfl) (F.ev rfl)) rfl ?_; clear F a; intro a F
    refine rl_run F (run_move (F.ev rfl)) rfl ?_; clear F a; intro a F
    have hg13 : (decide ((findV (mergeF t3 t4) key).1 = (findV t4 key).1)) = true := (decide_eq_true (by first | (rw [findV_merge hVt3, if_pos (by assumption)] <;> simp) | (rw [findV_merge hVt3, if_neg (by simp only [Bool.not_eq_true]; assumption)] <;> simp)))
    refine rl_guard_t F rfl rfl rfl hg13 ?_
    refine rl_run F (run_move (F.ev rfl)) rfl ?_; clear F a; intro a F
    refine rl_guard_t F rfl rfl rfl hg13 ?_
    refine rl_run F (run_move (F.ev rfl)) rfl ?_; clear F a; intro a F
    refine rl_guard_t F rfl rfl rfl hg13 ?_
    refine rl_run F (run_eqb tok4.k (F.ev rfl) (F.ev rfl)) rfl ?_; clear F a; intro a F
    refine rl_run F (run_pick_t (F.ev rfl) hg13 (F.ev rfl)) rfl ?_; clear F a; intro a F
    refine rl_run F (run_move (F.ev rfl)) rfl ?_; clear F a; intro a F
    have hg14 : (((findV (mergeF t3 t4) key).2) == ((findV t4 key).2)) = true := (by first | (rw [findV_merge hVt3, if_pos (by assumption)] <;> simp) | (rw [findV_merge hVt3, if_neg (by simp only [Bool.not_eq_true]; assumption)] <;> simp))
    refine rl_guard_t F rfl rfl rfl hg14 ?_
    refine rl_run F (run_move (F.ev rfl)) rfl ?_; clear F a; intro a F
    refine rl_guard_t F rfl rfl rfl hg14 ?_
    refine rl_run F (run_eqi (F.ev rfl) (F.ev rfl)) rfl ?_; clear F a; intro a F
    refine rl_run F (run_pick_t (F.ev rfl) hg14 (F.ev rfl)) rfl ?_; clear F a; intro a F
    refine rl_run F (run_move (F.ev rfl)) rfl ?_; clear F a; intro a F
    refine rl_guard_t F rfl rfl rfl (decide_eq_true (by decide)) ?_
    refine rl_run F (run_move (F.ev rfl)) rfl ?_; clear F a; intro a F
    refine rl_guard_t F rfl rfl rfl (decide_eq_true (by decide)) ?_
    refine rl_run F (run_move (F.ev rfl)) rfl ?_; clear F a; intro a F
    refine rl_guard_t F rfl rfl rfl (decide_eq_true (by decide)) ?_
    refine rl_callS F ent15 rfl rfl (same_spec (xs := t3) M Sm12 St3 (by omega)) ?_; clear F M a; rintro _ w a M rfl F
    refine rl_run F (run_pick_t (F.ev rfl) (decide_eq_true (by decide)) (F.ev rfl)) rfl ?_; clear F a; intro a F
    refine rl_run F (run_move (F.ev rfl)) rfl ?_; clear F a; intro a F
    refine rl_guard_t F rfl rfl rfl rfl ?_
    refine rl_callS F ent10 rfl rfl (lives_spec M HG) ?_; clear F M a; rintro _ w a M rfl F
    refine rl_run F (run_pick_t (F.ev rfl) rfl (F.ev rfl)) rfl ?_; clear F a; intro a F
    refine rl_run F (run_assign (F.ev rfl)) rfl ?_; clear F a; intro a F
    refine rl_nil ?_
    refine q_tn ?_
    refine wp_ret ?_
    refine fin1 F rfl rfl ?_
    exact ⟨Gm12, ((((hGt3.trans hGt4).trans hGm5).trans hGm6).trans hGm12), M.weaken (.cons _ (.cons _ (List.Sublist.refl _))), rfl⟩

theorem merge_law {w0 w : World} {G : Ghost} {L : List Res} (M : Mem w0 G L w) (HG : Globs 0 1 4 5 G) {ad : Option Addr} {c : Nat} {xs : List P8} (S : RdSl rdP8 2 G (.slice ad xs.length c) xs) (hxs : xs.length ≤ 9223372036854775807) {ay : Option Addr} {cy : Nat} {ys : List P8} (Sy : RdSl rdP8 2 G (.slice ay ys.length cy) ys) (hys : ys.length ≤ 9223372036854775807) {key : Int} : Calls Tryd.prog 9 #[.agg #[.slice ad xs.length c], .agg #[.slice ay ys.length cy], .int .u64 key] w (RetS w0 G L fun v => v = .bool true) := Ret.plain M (merge_ret M HG S hxs Sy hys)

end Go.Proofs.YtokeofoemjeleaaDoor
