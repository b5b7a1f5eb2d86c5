/- The walks, part I. -/
import Derived.Test.YtnloilnlehgngaaWalkH
import Derived.Test.YtnloilnlehgngaaOrd
import Derived.Test.YtnloilnlehgngaaAsc
import Derived.Test.YtnloilnlehgngaaYRules5
import Derived.Test.YtnloilnlehgngaaWid
namespace Go.Proofs.Ytnloilnlehgngaa
open Go Go.Y Go.Proofs
set_option linter.unusedSimpArgs false
set_option linter.unusedVariables false
theorem order_ret {w0 w : World} {G : Ghost} {L : List Res} (M : Mem w0 G L w) {ao : Option Addr} {co : Nat} {xs : List StepD} (S : RdSl rdStep 3 G (.slice ao xs.length co) xs) (hxl : xs.length ≤ 9223372036854775807) {ay : Option Addr} {cy : Nat} {ys : List StepD} (Sy : RdSl rdStep 3 G (.slice ay ys.length cy) ys) (hyl : ys.length ≤ 9223372036854775807) :
    Calls Try.prog 5 #[.agg #[.slice ao xs.length co], .agg #[.slice ay ys.length cy]] w (Ret w0 G L fun _ v => v = .bool true) := by
  refine calls_start (vs := [_, _]) Try.func5 rfl (n := 121) rfl rfl ?_
  intro a F
  refine wp_seq ?_
  refine w_reg ?_
  refine rl_box F M rfl (cs := [.slice (ao) (xs.length) (co)]) rfl rfl ?_; clear F M a; intro b1 w a M F
  refine rl_box F M rfl (cs := [.slice (ay) (ys.length) (cy)]) rfl rfl ?_; clear F M a; intro b2 w a M F
  refine rl_run F (run_assign (F.ev rfl)) rfl ?_; clear F a; intro a F
  refine rl_nil ?_
  refine q_tn ?_
  refine wp_seq ?_
  refine w_cut (fun a' w' => ∃ (b5 : Nat) (az : Option Addr) (nz cz : Nat) (csz : List Value) (zs : List StepD), zs = ([] ++ xs.take (min xs.length 40) ++ ys.take (min ys.length 40)) ∧ nz = zs.length ∧ Fits 121 a' [(2, .pointer (some ⟨b1, 0, none⟩)), (3, .pointer (some ⟨b2, 0, none⟩)), (5, .pointer (some ⟨b5, 0, none⟩))] ∧ Mem w0 G (.blk b5 [.slice az nz cz] 45 :: .row (.slice az nz cz) nz csz 29 3 :: .blk b2 [.slice (ay) (ys.length) (cy)] 45 :: .blk b1 [.slice (ao) (xs.length) (co)] 45 :: L) w' ∧ Els rdStep 3 G csz zs) ?_ ?_
  · skip
    refine w_tree (.run 1 (.run 2 (.run 3 (.run 4 (.run 5 (.run 6 (.run 7 (.run 9 (.run 10 (.run 11 (.run 12 (.run 13 (.run 14 (.run 15 (.act 0 (.act 8 (.act 16 (.run 17 (.act 18 (.act 19 .fin .no) .no)) (.act 18 (.act 16 (.run 17 (.act 19 .fin .no)) .no) .no)) (.act 18 (.act 8 (.act 16 (.run 17 (.act 19 .fin .no)) .no) .no) .no)) (.act 18 (.act 0 (.act 8 (.act 16 (.run 17 (.act 19 .fin .no)) .no) .no) .no) .no)))))))))))))))) (Keep G [.blk b2 [.slice (ay) (ys.length) (cy)] 45, .blk b1 [.slice (ao) (xs.length) (co)] 45]) rfl (by kernel_rfl) (fun c a d v w h => by cases d <;> exact h) ((M.drew _).keep (Gle.refl _) (by simp)) ?_
    replace M := M.drew (w.drawn + 1)
    refine pt_run F (fun w M => run_fieldAddr tok45.k rfl rfl (F.ev rfl)) rfl ?_; clear F a; intro a F
    refine pt_run F (fun w M => run_load1 (agf tok22 rfl) (F.ev rfl) (M.cellL (k := 1) rfl rfl)) rfl ?_; clear F a; intro a F
    refine pt_run F (fun w M => run_fieldAddr tok45.k rfl rfl (F.ev rfl)) rfl ?_; clear F a; intro a F
    refine pt_run F (fun w M => run_load1 (agf tok22 rfl) (F.ev rfl) (M.cellL (k := 1) rfl rfl)) rfl ?_; clear F a; intro a F
    refine pt_run F (fun w M => run_lenSl tok22.k (F.ev rfl)) rfl ?_; clear F a; intro a F
    refine pt_run F (fun w M => run_min2N (b := xs.length) (c := 40) (F.ev rfl) (F.ev rfl)) rfl ?_; clear F a; intro a F
    obtain ⟨as3, cs3, Is3, hms3, hcs3, Ss3⟩ := S.partT (min xs.length 40) (by omega)
    refine pt_run F (fun w M => run_sliceI tok22.k tok29 Is3 (F.ev rfl) (h := min xs.length 40) (kl := .i64) (zl := 0) rfl ⟨(F.ev rfl), by omega⟩ (by omega) (by omega)) rfl ?_; clear F a; intro a F
    refine pt_run F (fun w M => run_fieldAddr tok45.k rfl rfl (F.ev rfl)) rfl ?_; clear F a; intro a F
    refine pt_run F (fun w M => run_load1 (agf tok22 rfl) (F.ev rfl) (M.cellL (k := 0) rfl rfl)) rfl ?_; clear F a; intro a F
    refine pt_run F (fun w M => run_fieldAddr tok45.k rfl rfl (F.ev rfl)) rfl ?_; clear F a; intro a F
    refine pt_run F (fun w M => run_load1 (agf tok22 rfl) (F.ev rfl) (M.cellL (k := 0) rfl rfl)) rfl ?_; clear F a; intro a F
    refine pt_run F (fun w M => run_lenSl tok22.k (F.ev rfl)) rfl ?_; clear F a; intro a F
    refine pt_run F (fun w M => run_min2N (b := ys.length) (c := 40) (F.ev rfl) (F.ev rfl)) rfl ?_; clear F a; intro a F
    obtain ⟨as4, cs4, Is4, hms4, hcs4, Ss4⟩ := Sy.partT (min ys.length 40) (by omega)
    refine pt_run F (fun w M => run_sliceI tok22.k tok29 Is4 (F.ev rfl) (h := min ys.length 40) (kl := .i64) (zl := 0) rfl ⟨(F.ev rfl), by omega⟩ (by omega) (by omega)) rfl ?_; clear F a; intro a F
    refine pt_act ?_ rfl ?_
    · skip
      refine rl_buildSlice0 F M tok22.k tok29 rfl ?_; clear F M a; intro v5 w a M F
      obtain ⟨av5, cv5, rfl, hlev5, hcmv5, hlv5⟩ := M.row_shape (k := 0) rfl
      refine rl_nil ?_
      refine ⟨Keep G [.blk b2 [.slice (ay) (ys.length) (cy)] 45, .blk b1 [.slice (ao) (xs.length) (co)] 45], M.keep (Gle.refl _) (by simp), fun w h => h.mono (Gle.refl _) (by simp), ?_⟩
      refine pt_act ?_ rfl ?_
      · skip
        refine rl_append F M (k := 0) rfl tok22.k tok29 rfl rfl (by decide) rfl Ss3 rfl (by show _ * 24 ≤ _; (try simp only [List.length_drop, List.length_take, List.length_append, List.length_cons, List.length_nil]); omega) (by (try simp only [List.length_drop, List.length_take, List.length_append, List.length_cons, List.length_nil]); omega) rfl ?_; clear F M a; intro v6 csv6 w a M Ev6 F
        have Ev6 := Els.append Els.nil Ev6
        obtain ⟨av6, cv6, rfl, hlev6, hcmv6, hlv6⟩ := M.row_shape (k := 0) rfl
        refine rl_nil ?_
        refine ⟨Keep G [.blk b2 [.slice (ay) (ys.length) (cy)] 45, .blk b1 [.slice (ao) (xs.length) (co)] 45], M.keep (Gle.refl _) (by simp), fun w h => h.mono (Gle.refl _) (by simp), ?_⟩
        refine pt_act ?_ rfl ?_
        · skip
          refine rl_append F M (k := 0) rfl tok22.k tok29 rfl rfl (by decide) rfl Ss4 rfl (by show _ * 24 ≤ _; (try simp only [List.length_drop, List.length_take, List.length_append, List.length_cons, List.length_nil]); omega) (by (try simp only [List.length_drop, List.length_take, List.length_append, List.length_cons, List.length_nil]); omega) rfl ?_; clear F M a; intro v7 csv7 w a M Ev7 F
          have Ev7 := Els.append Ev6 Ev7
          obtain ⟨av7, cv7, rfl, hlev7, hcmv7, hlv7⟩ := M.row_shape (k := 0) rfl
          refine rl_nil ?_
          refine ⟨Keep G [.blk b2 [.slice (ay) (ys.length) (cy)] 45, .blk b1 [.slice (ao) (xs.length) (co)] 45], M.keep (Gle.refl _) (by simp), fun w h => h.mono (Gle.refl _) (by simp), ?_⟩
          refine pt_run F (fun w M => run_buildS (cs := [.slice (av7) ((0 + (xs.take (min xs.length 40)).length) + (ys.take (min ys.length 40)).length) (cv7)]) (ps := [(0, .slice (av7) ((0 + (xs.take (min xs.length 40)).length) + (ys.take (min ys.length 40)).length) (cv7))]) tok45.k rfl tok45 (F.evp rfl) rfl) rfl ?_; clear F a; intro a F
          refine pt_act ?_ rfl pt_no
          refine rl_alloc F M tok45 rfl rfl ?_; clear F M a; intro b8 w a M F
          refine rl_nil ?_
          refine ⟨Keep G [.blk b2 [.slice (ay) (ys.length) (cy)] 45, .blk b1 [.slice (ao) (xs.length) (co)] 45], M.keep (Gle.refl _) (by simp), fun w h => h.mono (Gle.refl _) (by simp), ?_⟩
          refine pt_act ?_ rfl pt_no
          refine rl_storeA F M tok45 (k := 0) rfl rfl rfl (us := [.slice (av7) ((0 + (xs.take (min xs.length 40)).length) + (ys.take (min ys.length 40)).length) (cv7)]) rfl rfl (by simp [Value.oneCell']) (by simp) ?_; clear F M a; intro w a M F
          refine rl_nil ?_
          refine ⟨Keep G [.blk b2 [.slice (ay) (ys.length) (cy)] 45, .blk b1 [.slice (ao) (xs.length) (co)] 45], M.keep (Gle.refl _) (by simp), fun w h => h.mono (Gle.refl _) (by simp), ?_⟩
          refine pt_fin ?_
          replace M := M.perm (perm_front _ 3 _ rfl)
          replace M := M.perm (perm_front _ 3 _ rfl)
          replace M := M.perm (perm_front _ 3 _ rfl)
          replace M := M.perm (perm_front _ 3 _ rfl)
          change Mem w0 G (.blk b8 [.slice (av7) ((0 + (xs.take (min xs.length 40)).length) + (ys.take (min ys.length 40)).length) (cv7)] 45 :: .row (.slice (av7) ((0 + (xs.take (min xs.length 40)).length) + (ys.take (min ys.length 40)).length) (cv7)) ((0 + (xs.take (min xs.length 40)).length) + (ys.take (min ys.length 40)).length) ((([]) ++ csv6) ++ csv7) 29 3 :: .blk b2 [.slice (ay) (ys.length) (cy)] 45 :: .blk b1 [.slice (ao) (xs.length) (co)] 45 :: L) _ at M
          exact ⟨_, _, _, _, _, _, rfl, by simp only [List.nil_append, List.length_append, List.length_take]; omega, F.to ⟨rfl, rfl, rfl, trivial⟩, M.weaken (.cons_cons _ (.cons_cons _ (.cons_cons _ (.cons_cons _ (List.Sublist.refl _))))), Ev7⟩
        refine pt_act ?_ rfl ?_
        · skip
          refine rl_alloc F M tok45 rfl rfl ?_; clear F M a; intro b10 w a M F
          refine rl_nil ?_
          refine ⟨Keep G [.blk b2 [.slice (ay) (ys.length) (cy)] 45, .blk b1 [.slice (ao) (xs.length) (co)] 45], M.keep (Gle.refl _) (by simp), fun w h => h.mono (Gle.refl _) (by simp), ?_⟩
          refine pt_act ?_ rfl pt_no
          refine rl_append F M (k := 1) rfl tok22.k tok29 rfl rfl (by decide) rfl Ss4 rfl (by show _ * 24 ≤ _; (try simp only [List.length_drop, List.length_take, List.length_append, List.length_cons, List.length_nil]); omega) (by (try simp only [List.length_drop, List.length_take, List.length_append, List.length_cons, List.length_nil]); omega) rfl ?_; clear F M a; intro v12 csv12 w a M Ev12 F
          have Ev12 := Els.append Ev6 Ev12
          obtain ⟨av12, cv12, rfl, hlev12, hcmv12, hlv12⟩ := M.row_shape (k := 1) rfl
          refine rl_nil ?_
          refine ⟨Keep G [.blk b2 [.slice (ay) (ys.length) (cy)] 45, .blk b1 [.slice (ao) (xs.length) (co)] 45], M.keep (Gle.refl _) (by simp), fun w h => h.mono (Gle.refl _) (by simp), ?_⟩
          refine pt_run F (fun w M => run_buildS (cs := [.slice (av12) ((0 + (xs.take (min xs.length 40)).length) + (ys.take (min ys.length 40)).length) (cv12)]) (ps := [(0, .slice (av12) ((0 + (xs.take (min xs.length 40)).length) + (ys.take (min ys.length 40)).length) (cv12))]) tok45.k rfl tok45 (F.evp rfl) rfl) rfl ?_; clear F a; intro a F
          refine pt_act ?_ rfl pt_no
          refine rl_storeA F M tok45 (k := 0) rfl rfl rfl (us := [.slice (av12) ((0 + (xs.take (min xs.length 40)).length) + (ys.take (min ys.length 40)).length) (cv12)]) rfl rfl (by simp [Value.oneCell']) (by simp) ?_; clear F M a; intro w a M F
          refine rl_nil ?_
          refine ⟨Keep G [.blk b2 [.slice (ay) (ys.length) (cy)] 45, .blk b1 [.slice (ao) (xs.length) (co)] 45], M.keep (Gle.refl _) (by simp), fun w h => h.mono (Gle.refl _) (by simp), ?_⟩
          refine pt_fin ?_
          replace M := M.perm (perm_front _ 3 _ rfl)
          replace M := M.perm (perm_front _ 3 _ rfl)
          replace M := M.perm (perm_front _ 3 _ rfl)
          replace M := M.perm (perm_front _ 3 _ rfl)
          change Mem w0 G (.blk b10 [.slice (av12) ((0 + (xs.take (min xs.length 40)).length) + (ys.take (min ys.length 40)).length) (cv12)] 45 :: .row (.slice (av12) ((0 + (xs.take (min xs.length 40)).length) + (ys.take (min ys.length 40)).length) (cv12)) ((0 + (xs.take (min xs.length 40)).length) + (ys.take (min ys.length 40)).length) ((([]) ++ csv6) ++ csv12) 29 3 :: .blk b2 [.slice (ay) (ys.length) (cy)] 45 :: .blk b1 [.slice (ao) (xs.length) (co)] 45 :: L) _ at M
          exact ⟨_, _, _, _, _, _, rfl, by simp only [List.nil_append, List.length_append, List.length_take]; omega, F.to ⟨rfl, rfl, rfl, trivial⟩, M.weaken (.cons_cons _ (.cons_cons _ (.cons_cons _ (.cons_cons _ (List.Sublist.refl _))))), Ev12⟩
        exact pt_no
      refine pt_act ?_ rfl ?_
      · skip
        refine rl_alloc F M tok45 rfl rfl ?_; clear F M a; intro b13 w a M F
        refine rl_nil ?_
        refine ⟨Keep G [.blk b2 [.slice (ay) (ys.length) (cy)] 45, .blk b1 [.slice (ao) (xs.length) (co)] 45], M.keep (Gle.refl _) (by simp), fun w h => h.mono (Gle.refl _) (by simp), ?_⟩
        refine pt_act ?_ rfl pt_no
        refine rl_append F M (k := 1) rfl tok22.k tok29 rfl rfl (by decide) rfl Ss3 rfl (by show _ * 24 ≤ _; (try simp only [List.length_drop, List.length_take, List.length_append, List.length_cons, List.length_nil]); omega) (by (try simp only [List.length_drop, List.length_take, List.length_append, List.length_cons, List.length_nil]); omega) rfl ?_; clear F M a; intro v15 csv15 w a M Ev15 F
        have Ev15 := Els.append Els.nil Ev15
        obtain ⟨av15, cv15, rfl, hlev15, hcmv15, hlv15⟩ := M.row_shape (k := 1) rfl
        refine rl_nil ?_
        refine ⟨Keep G [.blk b2 [.slice (ay) (ys.length) (cy)] 45, .blk b1 [.slice (ao) (xs.length) (co)] 45], M.keep (Gle.refl _) (by simp), fun w h => h.mono (Gle.refl _) (by simp), ?_⟩
        refine pt_act ?_ rfl pt_no
        refine rl_append F M (k := 1) rfl tok22.k tok29 rfl rfl (by decide) rfl Ss4 rfl (by show _ * 24 ≤ _; (try simp only [List.length_drop, List.length_take, List.length_append, List.length_cons, List.length_nil]); omega) (by (try simp only [List.length_drop, List.length_take, List.length_append, List.length_cons, List.length_nil]); omega) rfl ?_; clear F M a; intro v16 csv16 w a M Ev16 F
        have Ev16 := Els.append Ev15 Ev16
        obtain ⟨av16, cv16, rfl, hlev16, hcmv16, hlv16⟩ := M.row_shape (k := 1) rfl
        refine rl_nil ?_
        refine ⟨Keep G [.blk b2 [.slice (ay) (ys.length) (cy)] 45, .blk b1 [.slice (ao) (xs.length) (co)] 45], M.keep (Gle.refl _) (by simp), fun w h => h.mono (Gle.refl _) (by simp), ?_⟩
        refine pt_run F (fun w M => run_buildS (cs := [.slice (av16) ((0 + (xs.take (min xs.length 40)).length) + (ys.take (min ys.length 40)).length) (cv16)]) (ps := [(0, .slice (av16) ((0 + (xs.take (min xs.length 40)).length) + (ys.take (min ys.length 40)).length) (cv16))]) tok45.k rfl tok45 (F.evp rfl) rfl) rfl ?_; clear F a; intro a F
        refine pt_act ?_ rfl pt_no
        refine rl_storeA F M tok45 (k := 0) rfl rfl rfl (us := [.slice (av16) ((0 + (xs.take (min xs.length 40)).length) + (ys.take (min ys.length 40)).length) (cv16)]) rfl rfl (by simp [Value.oneCell']) (by simp) ?_; clear F M a; intro w a M F
        refine rl_nil ?_
        refine ⟨Keep G [.blk b2 [.slice (ay) (ys.length) (cy)] 45, .blk b1 [.slice (ao) (xs.length) (co)] 45], M.keep (Gle.refl _) (by simp), fun w h => h.mono (Gle.refl _) (by simp), ?_⟩
        refine pt_fin ?_
        replace M := M.perm (perm_front _ 3 _ rfl)
        replace M := M.perm (perm_front _ 3 _ rfl)
        replace M := M.perm (perm_front _ 3 _ rfl)
        replace M := M.perm (perm_front _ 3 _ rfl)
        change Mem w0 G (.blk b13 [.slice (av16) ((0 + (xs.take (min xs.length 40)).length) + (ys.take (min ys.length 40)).length) (cv16)] 45 :: .row (.slice (av16) ((0 + (xs.take (min xs.length 40)).length) + (ys.take (min ys.length 40)).length) (cv16)) ((0 + (xs.take (min xs.length 40)).length) + (ys.take (min ys.length 40)).length) ((([]) ++ csv15) ++ csv16) 29 3 :: .blk b2 [.slice (ay) (ys.length) (cy)] 45 :: .blk b1 [.slice (ao) (xs.length) (co)] 45 :: L) _ at M
        exact ⟨_, _, _, _, _, _, rfl, by simp only [List.nil_append, List.length_append, List.length_take]; omega, F.to ⟨rfl, rfl, rfl, trivial⟩, M.weaken (.cons_cons _ (.cons_cons _ (.cons_cons _ (.cons_cons _ (List.Sublist.refl _))))), Ev16⟩
      exact pt_no
    refine pt_act ?_ rfl ?_
    · skip
      refine rl_alloc F M tok45 rfl rfl ?_; clear F M a; intro b17 w a M F
      refine rl_nil ?_
      refine ⟨Keep G [.blk b2 [.slice (ay) (ys.length) (cy)] 45, .blk b1 [.slice (ao) (xs.length) (co)] 45], M.keep (Gle.refl _) (by simp), fun w h => h.mono (Gle.refl _) (by simp), ?_⟩
      refine pt_act ?_ rfl pt_no
      refine rl_buildSlice0 F M tok22.k tok29 rfl ?_; clear F M a; intro v19 w a M F
      obtain ⟨av19, cv19, rfl, hlev19, hcmv19, hlv19⟩ := M.row_shape (k := 0) rfl
      refine rl_nil ?_
      refine ⟨Keep G [.blk b2 [.slice (ay) (ys.length) (cy)] 45, .blk b1 [.slice (ao) (xs.length) (co)] 45], M.keep (Gle.refl _) (by simp), fun w h => h.mono (Gle.refl _) (by simp), ?_⟩
      refine pt_act ?_ rfl pt_no
      refine rl_append F M (k := 0) rfl tok22.k tok29 rfl rfl (by decide) rfl Ss3 rfl (by show _ * 24 ≤ _; (try simp only [List.length_drop, List.length_take, List.length_append, List.length_cons, List.length_nil]); omega) (by (try simp only [List.length_drop, List.length_take, List.length_append, List.length_cons, List.length_nil]); omega) rfl ?_; clear F M a; intro v20 csv20 w a M Ev20 F
      have Ev20 := Els.append Els.nil Ev20
      obtain ⟨av20, cv20, rfl, hlev20, hcmv20, hlv20⟩ := M.row_shape (k := 0) rfl
      refine rl_nil ?_
      refine ⟨Keep G [.blk b2 [.slice (ay) (ys.length) (cy)] 45, .blk b1 [.slice (ao) (xs.length) (co)] 45], M.keep (Gle.refl _) (by simp), fun w h => h.mono (Gle.refl _) (by simp), ?_⟩
      refine pt_act ?_ rfl pt_no
      refine rl_append F M (k := 0) rfl tok22.k tok29 rfl rfl (by decide) rfl Ss4 rfl (by show _ * 24 ≤ _; (try simp only [List.length_drop, List.length_take, List.length_append, List.length_cons, List.length_nil]); omega) (by (try simp only [List.length_drop, List.length_take, List.length_append, List.length_cons, List.length_nil]); omega) rfl ?_; clear F M a; intro v21 csv21 w a M Ev21 F
      have Ev21 := Els.append Ev20 Ev21
      obtain ⟨av21, cv21, rfl, hlev21, hcmv21, hlv21⟩ := M.row_shape (k := 0) rfl
      refine rl_nil ?_
      refine ⟨Keep G [.blk b2 [.slice (ay) (ys.length) (cy)] 45, .blk b1 [.slice (ao) (xs.length) (co)] 45], M.keep (Gle.refl _) (by simp), fun w h => h.mono (Gle.refl _) (by simp), ?_⟩
      refine pt_run F (fun w M => run_buildS (cs := [.slice (av21) ((0 + (xs.take (min xs.length 40)).length) + (ys.take (min ys.length 40)).length) (cv21)]) (ps := [(0, .slice (av21) ((0 + (xs.take (min xs.length 40)).length) + (ys.take (min ys.length 40)).length) (cv21))]) tok45.k rfl tok45 (F.evp rfl) rfl) rfl ?_; clear F a; intro a F
      refine pt_act ?_ rfl pt_no
      refine rl_storeA F M tok45 (k := 1) rfl rfl rfl (us := [.slice (av21) ((0 + (xs.take (min xs.length 40)).length) + (ys.take (min ys.length 40)).length) (cv21)]) rfl rfl (by simp [Value.oneCell']) (by simp) ?_; clear F M a; intro w a M F
      refine rl_nil ?_
      refine ⟨Keep G [.blk b2 [.slice (ay) (ys.length) (cy)] 45, .blk b1 [.slice (ao) (xs.length) (co)] 45], M.keep (Gle.refl _) (by simp), fun w h => h.mono (Gle.refl _) (by simp), ?_⟩
      refine pt_fin ?_
      replace M := M.perm (perm_front _ 3 _ rfl)
      replace M := M.perm (perm_front _ 3 _ rfl)
      replace M := M.perm (perm_front _ 2 _ rfl)
      replace M := M.perm (perm_front _ 3 _ rfl)
      change Mem w0 G (.blk b17 [.slice (av21) ((0 + (xs.take (min xs.length 40)).length) + (ys.take (min ys.length 40)).length) (cv21)] 45 :: .row (.slice (av21) ((0 + (xs.take (min xs.length 40)).length) + (ys.take (min ys.length 40)).length) (cv21)) ((0 + (xs.take (min xs.length 40)).length) + (ys.take (min ys.length 40)).length) ((([]) ++ csv20) ++ csv21) 29 3 :: .blk b2 [.slice (ay) (ys.length) (cy)] 45 :: .blk b1 [.slice (ao) (xs.length) (co)] 45 :: L) _ at M
      exact ⟨_, _, _, _, _, _, rfl, by simp only [List.nil_append, List.length_append, List.length_take]; omega, F.to ⟨rfl, rfl, rfl, trivial⟩, M.weaken (.cons_cons _ (.cons_cons _ (.cons_cons _ (.cons_cons _ (List.Sublist.refl _))))), Ev21⟩
    exact pt_no
  · clear F M
    rintro a w ⟨b5, az, _, cz, csz, zs, hzs, rfl, F, M, Ez⟩
    refine q_tn ?_
    refine wp_seq ?_
    obtain ⟨hnz22, Gz22, az22, cz22, hGz22, hez22, Sz22, M⟩ := M.freeze_row mono_rdStep (k := 1) rfl Ez (by decide)
    clear hez22 az22 cz22
    replace S := S.mono mono_rdStep hGz22
    replace Sy := Sy.mono mono_rdStep hGz22
    have hzl : zs.length ≤ 80 := by rw [hzs]; simp only [List.nil_append, List.length_append, List.length_take]; omega
    refine w_reg ?_
    refine rl_run F (run_loadA tok45 rfl (F.ev rfl) (cs := [.slice (az) (zs.length) (cz)]) rfl (M.cellsL (k := 0) rfl rfl)) rfl ?_; clear F a; intro a F
    refine rl_callL F ent18 rfl rfl (of_spec M Sz22 (by omega)) ?_; clear F M a; rintro _ _ w a M ⟨bm23, rfl, adm23, nm23, cm23, manym23, tombsm23, csm23, sm23, rfl, hnm23, Em23, Km23⟩ F
    refine rl_run F (run_assign (F.ev rfl)) rfl ?_; clear F a; intro a F
    refine rl_nil ?_
    refine q_tn ?_
    refine wp_seq ?_
    refine wp_seq ?_
    refine w_reg ?_
    refine rl_run F (run_move (F.ev rfl)) rfl ?_; clear F a; intro a F
    refine rl_run F (run_loadA tok45 rfl (F.ev rfl) (cs := [.slice (az) (zs.length) (cz)]) rfl (M.cellsL (k := 2) rfl rfl)) rfl ?_; clear F a; intro a F
    refine rl_call F ent19 rfl rfl (pairs_spec M Sz22 (by omega)) ?_; clear F M a; rintro _ Gr24 w a hGr24 M ⟨ar24, cr24, rfl, Sr24⟩ F
    replace S := S.mono mono_rdStep hGr24
    replace Sy := Sy.mono mono_rdStep hGr24
    replace Sz22 := Sz22.mono mono_rdStep hGr24
    replace Em23 := Em23.mono mono_rdSlot hGr24
    replace M := M.perm (perm_front _ 1 _ rfl)
    replace M := M.perm (perm_front _ 1 _ rfl)
    change Mem w0 Gr24 (.blk bm23 [.slice (adm23) (nm23) (cm23), .int .i64 (manym23), .int .i64 (tombsm23)] 55 :: .row (.slice (adm23) (nm23) (cm23)) (nm23) (csm23) 58 3 :: .blk b5 [.slice (az) (zs.length) (cz)] 45 :: .blk b2 [.slice (ay) (ys.length) (cy)] 45 :: .blk b1 [.slice (ao) (xs.length) (co)] 45 :: L) _ at M
    refine rl_callS F ent17 rfl rfl (same_spec (ps := runF ((zs).take 80)) (most := 80) M hnm23 Em23 Km23 Sr24 (by omega)) ?_; clear F M a; rintro _ w a M rfl F
    refine rl_run F (run_not (F.ev rfl)) rfl ?_; clear F a; intro a F
    refine rl_nil ?_
    refine q_tn ?_
    refine w_cond_f F rfl rfl ?_
    refine wp_skip ?_
    refine q_tn ?_
    refine wp_seq ?_
    refine wp_seq ?_
    refine w_reg ?_
    refine rl_run F (run_assign (F.ev rfl)) rfl ?_; clear F a; intro a F
    refine rl_nil ?_
    refine q_tn ?_
    refine wp_block ?_
    refine w_loopN (fun m a' w' => ∃ (i : Nat), m = ys.length - i ∧ Fits 121 a' [(3, .pointer (some ⟨b2, 0, none⟩)), (6, .pointer (some ⟨bm23, 0, none⟩)), (7, .int .i64 (((i : Nat) : Int)))] ∧ Mem w0 Gr24 (.blk bm23 [.slice (adm23) (nm23) (cm23), .int .i64 (manym23), .int .i64 (tombsm23)] 55 :: .row (.slice (adm23) (nm23) (cm23)) (nm23) (csm23) 58 3 :: .blk b5 [.slice (az) (zs.length) (cz)] 45 :: .blk b2 [.slice (ay) (ys.length) (cy)] 45 :: .blk b1 [.slice (ao) (xs.length) (co)] 45 :: L) w' ∧ (i ≤ ys.length)) _ ⟨0, rfl, F.to ⟨rfl, rfl, rfl, trivial⟩, M, Nat.zero_le _⟩ ?_
    clear F M
    rintro m a w ⟨i, rfl, F, M, hi⟩
    refine wp_seq ?_
    refine wp_seq ?_
    refine w_reg ?_
    refine rl_run F (run_move (F.ev rfl)) rfl ?_; clear F a; intro a F
    refine rl_run F (run_fieldAddr tok45.k rfl rfl (F.ev rfl)) rfl ?_; clear F a; intro a F
    refine rl_run F (run_load1 (agf tok22 rfl) (F.ev rfl) (M.cellL (k := 3) rfl rfl)) rfl ?_; clear F a; intro a F
    refine rl_run F (run_lenSl tok22.k (F.ev rfl)) rfl ?_; clear F a; intro a F
    refine rl_run F (run_lss (F.ev rfl) (F.ev rfl)) rfl ?_; clear F a; intro a F
    refine rl_run F (run_move (F.ev rfl)) rfl ?_; clear F a; intro a F
    rcases Bool.eq_false_or_eq_true (decide (((i : Nat) : Int) < ((ys.length : Nat) : Int))) with hc | hc
    · skip
      have h25b := hc; clear hc
      have h25 : ((i : Nat) : Int) < ((ys.length : Nat) : Int) := of_decide_eq_true h25b
      refine rl_guard_t F rfl rfl rfl h25b ?_
      refine rl_run F (run_move (F.ev rfl)) rfl ?_; clear F a; intro a F
      refine rl_guard_t F rfl rfl rfl h25b ?_
      refine rl_run F (run_lss (F.ev rfl) (F.ev rfl)) rfl ?_; clear F a; intro a F
      refine rl_run F (run_pick_t (F.ev rfl) h25b (F.ev rfl)) rfl ?_; clear F a; intro a F
      refine rl_nil ?_
      refine q_tn ?_
      refine w_cond F rfl ?_ ?_
      · intro hc
        have h26b := hc; clear hc
        have h26 : ((i : Nat) : Int) < 40 := of_decide_eq_true h26b
        refine wp_skip ?_
        refine q_tn ?_
        refine wp_seq ?_
        refine wp_block ?_
        refine wp_seq ?_
        obtain ⟨Xi, hXi⟩ := get_of_lt (xs := ys) (i := i) (by omega)
        refine w_reg ?_
        refine rl_run F (run_assign (F.ev rfl)) rfl ?_; clear F a; intro a F
        refine rl_nil ?_
        refine q_tn ?_
        refine wp_seq ?_
        refine wp_seq ?_
        refine w_reg ?_
        refine rl_run F (run_move (F.ev rfl)) rfl ?_; clear F a; intro a F
        refine rl_run F (run_addi (F.ev rfl) (F.ev rfl) (in_i64 (by omega) (by omega))) rfl ?_; clear F a; intro a F
        refine rl_run F (run_assign (F.ev rfl)) rfl ?_; clear F a; intro a F
        refine rl_nil ?_
        refine q_tn ?_
        refine wp_block ?_
        refine w_loopN (fun m a' w' => ∃ (k : Nat), ∃ (lv : Bool), m = ys.length - k ∧ Fits 121 a' [(3, .pointer (some ⟨b2, 0, none⟩)), (6, .pointer (some ⟨bm23, 0, none⟩)), (7, .int .i64 (((i : Nat) : Int))), (8, .bool (lv)), (9, .int .i64 (((k : Nat) : Int)))] ∧ Mem w0 Gr24 (.blk bm23 [.slice (adm23) (nm23) (cm23), .int .i64 (manym23), .int .i64 (tombsm23)] 55 :: .row (.slice (adm23) (nm23) (cm23)) (nm23) (csm23) 58 3 :: .blk b5 [.slice (az) (zs.length) (cz)] 45 :: .blk b2 [.slice (ay) (ys.length) (cy)] 45 :: .blk b1 [.slice (ao) (xs.length) (co)] 45 :: L) w' ∧ (i + 1 ≤ k ∧ (k ≤ ys.length ∨ k = i + 1)) ∧ (lv = true → ∀ (m : Nat) (Z : StepD), i < m → m < k → ys[m]? = some Z → Z.key ≠ Xi.key)) _ ⟨(i + 1), true, rfl, F.to ⟨rfl, rfl, rfl, rfl, rfl, trivial⟩, M, by omega, fun _ m Z h1 h2 => by omega⟩ ?_
        clear F M
        rintro m a w ⟨k, lv, rfl, F, M, hk, hlv⟩
        refine wp_seq ?_
        refine wp_seq ?_
        refine w_reg ?_
        refine rl_run F (run_move (F.ev rfl)) rfl ?_; clear F a; intro a F
        refine rl_run F (run_fieldAddr tok45.k rfl rfl (F.ev rfl)) rfl ?_; clear F a; intro a F
        refine rl_run F (run_load1 (agf tok22 rfl) (F.ev rfl) (M.cellL (k := 3) rfl rfl)) rfl ?_; clear F a; intro a F
        refine rl_run F (run_lenSl tok22.k (F.ev rfl)) rfl ?_; clear F a; intro a F
        refine rl_run F (run_lss (F.ev rfl) (F.ev rfl)) rfl ?_; clear F a; intro a F
        refine rl_run F (run_move (F.ev rfl)) rfl ?_; clear F a; intro a F
        rcases Bool.eq_false_or_eq_true (decide (((k : Nat) : Int) < ((ys.length : Nat) : Int))) with hc | hc
        · skip
          have h27b := hc; clear hc
          have h27 : ((k : Nat) : Int) < ((ys.length : Nat) : Int) := of_decide_eq_true h27b
          refine rl_guard_t F rfl rfl rfl h27b ?_
          refine rl_run F (run_move (F.ev rfl)) rfl ?_; clear F a; intro a F
          refine rl_guard_t F rfl rfl rfl h27b ?_
          refine rl_run F (run_lss (F.ev rfl) (F.ev rfl)) rfl ?_; clear F a; intro a F
          refine rl_run F (run_pick_t (F.ev rfl) h27b (F.ev rfl)) rfl ?_; clear F a; intro a F
          refine rl_nil ?_
          refine q_tn ?_
          refine w_cond F rfl ?_ ?_
          · intro hc
            have h28b := hc; clear hc
            have h28 : ((k : Nat) : Int) < 40 := of_decide_eq_true h28b
            refine wp_skip ?_
            refine q_tn ?_
            refine wp_seq ?_
            refine wp_block ?_
            refine w_plan [(true, 0), (true, 1), (true, 2), (true, 3), (true, 4), (true, 5), (true, 6), (true, 7), (true, 8), (true, 9), (true, 10), (true, 11), (true, 12), (true, 13), (true, 14), (true, 15), (true, 16)] (Keep Gr24 [.blk b5 [.slice (az) (zs.length) (cz)] 45, .blk b2 [.slice (ay) (ys.length) (cy)] 45, .blk b1 [.slice (ao) (xs.length) (co)] 45]) rfl (by kernel_rfl) (fun c a d v w h => by cases d <;> exact h) ((M.drew _).keep (Gle.refl _) (by simp)) ?_
            replace M := M.drew (w.drawn + 1)
            refine pl_run F (fun w M => run_move (F.ev rfl)) rfl ?_; clear F a; intro a F
            refine pl_run F (fun w M => run_move (F.ev rfl)) rfl ?_; clear F a; intro a F
            rcases Bool.eq_false_or_eq_true (lv) with hc | hc
            · skip
              have h29b := hc; clear hc
              have h29 : (lv) = true := h29b
              refine pl_guard_run F rfl rfl h29b (fun w M => run_fieldAddr tok45.k rfl rfl (F.ev rfl)) rfl ?_; clear F a; intro a F
              refine pl_guard_run F rfl rfl h29b (fun w M => run_load1 (agf tok22 rfl) (F.ev rfl) (M.cellL (k := 1) rfl rfl)) rfl ?_; clear F a; intro a F
              refine pl_guard_run F rfl rfl h29b (fun w M => run_move (F.ev rfl)) rfl ?_; clear F a; intro a F
              obtain ⟨Xe30, hXe30⟩ := get_of_lt (xs := ys) (i := k) (by omega)
              obtain ⟨be30, oe30, _, Ie30, _, Ae30, ⟨rfl, hbe301, hbe302⟩⟩ := Sy.at hXe30
              refine pl_guard_run F rfl rfl h29b (fun w M => run_indexI tok22.k tok29 (F.ev rfl) (F.ev rfl) (by omega) Ie30) rfl ?_; clear F a; intro a F
              refine pl_guard_run F rfl rfl h29b (fun w M => run_fieldAddr tok29.k rfl rfl (F.ev rfl)) rfl ?_; clear F a; intro a F
              refine pl_guard_run F rfl rfl h29b (fun w M => run_load1 (agf tok27 rfl) (F.ev rfl) (M.cellA Ae30 0 rfl rfl)) rfl ?_; clear F a; intro a F
              refine pl_guard_run F rfl rfl h29b (fun w M => run_fieldAddr tok45.k rfl rfl (F.ev rfl)) rfl ?_; clear F a; intro a F
              refine pl_guard_run F rfl rfl h29b (fun w M => run_load1 (agf tok22 rfl) (F.ev rfl) (M.cellL (k := 1) rfl rfl)) rfl ?_; clear F a; intro a F
              refine pl_guard_run F rfl rfl h29b (fun w M => run_move (F.ev rfl)) rfl ?_; clear F a; intro a F
              obtain ⟨be31, oe31, _, Ie31, _, Ae31, ⟨rfl, hbe311, hbe312⟩⟩ := Sy.at hXi
              refine pl_guard_run F rfl rfl h29b (fun w M => run_indexI tok22.k tok29 (F.ev rfl) (F.ev rfl) (by omega) Ie31) rfl ?_; clear F a; intro a F
              refine pl_guard_run F rfl rfl h29b (fun w M => run_fieldAddr tok29.k rfl rfl (F.ev rfl)) rfl ?_; clear F a; intro a F
              refine pl_guard_run F rfl rfl h29b (fun w M => run_load1 (agf tok27 rfl) (F.ev rfl) (M.cellA Ae31 0 rfl rfl)) rfl ?_; clear F a; intro a F
              refine pl_guard_run F rfl rfl h29b (fun w M => run_nei (F.ev rfl) (F.ev rfl)) rfl ?_; clear F a; intro a F
              refine pl_run F (fun w M => run_pick_t (F.ev rfl) h29b (F.ev rfl)) rfl ?_; clear F a; intro a F
              refine pl_run F (fun w M => run_assign (F.ev rfl)) rfl ?_; clear F a; intro a F
              refine pl_nil ?_
              generalize ({ w with drawn := w.drawn + 1 } : World) = w at M ⊢
              refine q_bn ?_
              refine q_tn ?_
              refine w_reg ?_
              refine rl_run F (run_move (F.ev rfl)) rfl ?_; clear F a; intro a F
              refine rl_run F (run_addi (F.ev rfl) (F.ev rfl) (in_i64 (by omega) (by omega))) rfl ?_; clear F a; intro a F
              refine rl_run F (run_assign (F.ev rfl)) rfl ?_; clear F a; intro a F
              refine rl_nil ?_
              refine q_tn ?_
              exact ⟨_, by omega, k + 1, (!(decide (Xe30.key = Xi.key))), rfl, F.to ⟨rfl, rfl, rfl, rfl, rfl, trivial⟩, M, by omega, fun hn => last_step hlv (by assumption) hXe30 hn⟩
            · skip
              have h32b := hc; clear hc
              have h32 : (lv) = false := h32b
              refine pl_guard_skip F rfl rfl h32b rfl ?_; clear F a; intro a F
              refine pl_guard_skip F rfl rfl h32b rfl ?_; clear F a; intro a F
              refine pl_guard_skip F rfl rfl h32b rfl ?_; clear F a; intro a F
              refine pl_guard_skip F rfl rfl h32b rfl ?_; clear F a; intro a F
              refine pl_guard_skip F rfl rfl h32b rfl ?_; clear F a; intro a F
              refine pl_guard_skip F rfl rfl h32b rfl ?_; clear F a; intro a F
              refine pl_guard_skip F rfl rfl h32b rfl ?_; clear F a; intro a F
              refine pl_guard_skip F rfl rfl h32b rfl ?_; clear F a; intro a F
              refine pl_guard_skip F rfl rfl h32b rfl ?_; clear F a; intro a F
              refine pl_guard_skip F rfl rfl h32b rfl ?_; clear F a; intro a F
              refine pl_guard_skip F rfl rfl h32b rfl ?_; clear F a; intro a F
              refine pl_guard_skip F rfl rfl h32b rfl ?_; clear F a; intro a F
              refine pl_guard_skip F rfl rfl h32b rfl ?_; clear F a; intro a F
              refine pl_run F (fun w M => run_pick_f (F.ev rfl) h32b (F.ev rfl)) rfl ?_; clear F a; intro a F
              refine pl_run F (fun w M => run_assign (F.ev rfl)) rfl ?_; clear F a; intro a F
              refine pl_nil ?_
              generalize ({ w with drawn := w.drawn + 1 } : World) = w at M ⊢
              refine q_bn ?_
              refine q_tn ?_
              refine w_reg ?_
              refine rl_run F (run_move (F.ev rfl)) rfl ?_; clear F a; intro a F
              refine rl_run F (run_addi (F.ev rfl) (F.ev rfl) (in_i64 (by omega) (by omega))) rfl ?_; clear F a; intro a F
              refine rl_run F (run_assign (F.ev rfl)) rfl ?_; clear F a; intro a F
              refine rl_nil ?_
              refine q_tn ?_
              exact ⟨_, by omega, k + 1, false, rfl, F.to ⟨rfl, rfl, rfl, rfl, rfl, trivial⟩, M, by omega, fun h => by cases h⟩
          · intro hc
            have h33b := hc; clear hc
            have h33 : ¬ (((k : Nat) : Int) < 40) := of_decide_eq_false h33b
            refine wp_exit ?_
            refine q_te ?_
            refine q_te ?_
            refine q_bh ?_
            refine q_tn ?_
            refine wp_seq ?_
            refine wp_seq ?_
            refine w_reg ?_
            refine rl_run F (run_move (F.ev rfl)) rfl ?_; clear F a; intro a F
            refine rl_run F (run_not (F.ev rfl)) rfl ?_; clear F a; intro a F
            refine rl_run F (run_move (F.ev rfl)) rfl ?_; clear F a; intro a F
            rcases Bool.eq_false_or_eq_true (!(lv)) with hc | hc
            · skip
              have h34b := hc; clear hc
              have h34 : (lv) = false := (of_not_t h34b)
              have h34c : (lv) = false := (of_not_t h34b)
              refine rl_guard_f F rfl rfl rfl (not_t h34c) ?_; clear F a; intro a F
              refine rl_guard_f F rfl rfl rfl (not_t h34c) ?_; clear F a; intro a F
              refine rl_guard_f F rfl rfl rfl (not_t h34c) ?_; clear F a; intro a F
              refine rl_guard_f F rfl rfl rfl (not_t h34c) ?_; clear F a; intro a F
              refine rl_guard_f F rfl rfl rfl (not_t h34c) ?_; clear F a; intro a F
              refine rl_guard_f F rfl rfl rfl (not_t h34c) ?_; clear F a; intro a F
              refine rl_guard_f F rfl rfl rfl (not_t h34c) ?_; clear F a; intro a F
              refine rl_run F (run_pick_t (F.ev rfl) (not_t h34c) (F.ev rfl)) rfl ?_; clear F a; intro a F
              refine rl_nil ?_
              refine q_tn ?_
              refine w_cond_t F rfl rfl ?_
              refine wp_exit ?_
              refine q_te ?_
              refine q_bh ?_
              refine q_tn ?_
              refine w_reg ?_
              refine rl_run F (run_move (F.ev rfl)) rfl ?_; clear F a; intro a F
              refine rl_run F (run_addi (F.ev rfl) (F.ev rfl) (in_i64 (by omega) (by omega))) rfl ?_; clear F a; intro a F
              refine rl_run F (run_assign (F.ev rfl)) rfl ?_; clear F a; intro a F
              refine rl_nil ?_
              refine q_tn ?_
              exact ⟨_, by omega, i + 1, rfl, F.to ⟨rfl, rfl, rfl, trivial⟩, M, by omega⟩
            · skip
              have h35b := hc; clear hc
              have h35 : (lv) = true := (of_not_f h35b)
              have h35c : (lv) = true := (of_not_f h35b)
              refine rl_guard_t F rfl rfl rfl (not_f h35c) ?_
              refine rl_run F (run_fieldAddr tok45.k rfl rfl (F.ev rfl)) rfl ?_; clear F a; intro a F
              refine rl_guard_t F rfl rfl rfl (not_f h35c) ?_
              refine rl_run F (run_load1 (agf tok22 rfl) (F.ev rfl) (M.cellL (k := 3) rfl rfl)) rfl ?_; clear F a; intro a F
              refine rl_guard_t F rfl rfl rfl (not_f h35c) ?_
              refine rl_run F (run_move (F.ev rfl)) rfl ?_; clear F a; intro a F
              refine rl_guard_t F rfl rfl rfl (not_f h35c) ?_
              obtain ⟨be36, oe36, _, Ie36, _, Ae36, ⟨rfl, hbe361, hbe362⟩⟩ := Sy.at hXi
              refine rl_run F (run_indexI tok22.k tok29 (F.ev rfl) (F.ev rfl) (by omega) Ie36) rfl ?_; clear F a; intro a F
              refine rl_guard_t F rfl rfl rfl (not_f h35c) ?_
              refine rl_run F (run_fieldAddr tok29.k rfl rfl (F.ev rfl)) rfl ?_; clear F a; intro a F
              refine rl_guard_t F rfl rfl rfl (not_f h35c) ?_
              refine rl_run F (run_load1 (agf tok27 rfl) (F.ev rfl) (M.cellA Ae36 0 rfl rfl)) rfl ?_; clear F a; intro a F
              refine rl_guard_t F rfl rfl rfl (not_f h35c) ?_
              refine rl_run F (run_eqi (F.ev rfl) (F.ev rfl)) rfl ?_; clear F a; intro a F
              refine rl_run F (run_pick_f (F.ev rfl) (not_f h35c) (F.ev rfl)) rfl ?_; clear F a; intro a F
              refine rl_nil ?_
              refine q_tn ?_
              refine w_cond F rfl ?_ ?_
              · intro hc
                have h37b := hc; clear hc
                have h37 : Xi.key = 0 := of_decide_eq_true h37b
                refine wp_exit ?_
                refine q_te ?_
                refine q_bh ?_
                refine q_tn ?_
                refine w_reg ?_
                refine rl_run F (run_move (F.ev rfl)) rfl ?_; clear F a; intro a F
                refine rl_run F (run_addi (F.ev rfl) (F.ev rfl) (in_i64 (by omega) (by omega))) rfl ?_; clear F a; intro a F
                refine rl_run F (run_assign (F.ev rfl)) rfl ?_; clear F a; intro a F
                refine rl_nil ?_
                refine q_tn ?_
                exact ⟨_, by omega, i + 1, rfl, F.to ⟨rfl, rfl, rfl, trivial⟩, M, by omega⟩
              · intro hc
                have h38b := hc; clear hc
                have h38 : ¬ (Xi.key = 0) := of_decide_eq_false h38b
                refine wp_skip ?_
                refine q_tn ?_
                refine wp_seq ?_
                have hlast := run_last40 hzs hXi (by omega) (by assumption) (hlv (by assumption)) (k := k) (by omega)
                refine w_reg ?_
                refine rl_run F (run_move (F.ev rfl)) rfl ?_; clear F a; intro a F
                refine rl_run F (run_fieldAddr tok45.k rfl rfl (F.ev rfl)) rfl ?_; clear F a; intro a F
                refine rl_run F (run_load1 (agf tok22 rfl) (F.ev rfl) (M.cellL (k := 3) rfl rfl)) rfl ?_; clear F a; intro a F
                refine rl_run F (run_move (F.ev rfl)) rfl ?_; clear F a; intro a F
                obtain ⟨be39, oe39, _, Ie39, _, Ae39, ⟨rfl, hbe391, hbe392⟩⟩ := Sy.at hXi
                refine rl_run F (run_indexI tok22.k tok29 (F.ev rfl) (F.ev rfl) (by omega) Ie39) rfl ?_; clear F a; intro a F
                refine rl_run F (run_fieldAddr tok29.k rfl rfl (F.ev rfl)) rfl ?_; clear F a; intro a F
                refine rl_run F (run_load1 (agf tok27 rfl) (F.ev rfl) (M.cellA Ae39 0 rfl rfl)) rfl ?_; clear F a; intro a F
                replace M := M.perm (perm_front _ 1 _ rfl)
                replace M := M.perm (perm_front _ 1 _ rfl)
                change Mem w0 Gr24 (.blk bm23 [.slice (adm23) (nm23) (cm23), .int .i64 (manym23), .int .i64 (tombsm23)] 55 :: .row (.slice (adm23) (nm23) (cm23)) (nm23) (csm23) 58 3 :: .blk b5 [.slice (az) (zs.length) (cz)] 45 :: .blk b2 [.slice (ay) (ys.length) (cy)] 45 :: .blk b1 [.slice (ao) (xs.length) (co)] 45 :: L) _ at M
                have hsg40 := get_spec (key := Xi.key) M hnm23 Em23 Km23
                refine rl_callS F ent15 rfl rfl (hsg40) ?_; clear F M a; rintro _ w a M rfl F
                clear hsg40
                refine rl_run F (run_move (F.ev rfl)) rfl ?_; clear F a; intro a F
                refine rl_run F (run_extract (v := .int .i64 ((getF (runF ((zs).take 80)) Xi.key).1)) (F.ev rfl) rfl) rfl ?_; clear F a; intro a F
                refine rl_run F (run_extract (v := .bool ((getF (runF ((zs).take 80)) Xi.key).2)) (F.ev rfl) rfl) rfl ?_; clear F a; intro a F
                refine rl_run F (run_assign (F.ev rfl)) rfl ?_; clear F a; intro a F
                refine rl_run F (run_assign (F.ev rfl)) rfl ?_; clear F a; intro a F
                refine rl_nil ?_
                refine q_tn ?_
                refine wp_seq ?_
                refine w_reg ?_
                refine rl_run F (run_move (F.ev rfl)) rfl ?_; clear F a; intro a F
                refine rl_run F (run_fieldAddr tok45.k rfl rfl (F.ev rfl)) rfl ?_; clear F a; intro a F
                refine rl_run F (run_load1 (agf tok22 rfl) (F.ev rfl) (M.cellL (k := 3) rfl rfl)) rfl ?_; clear F a; intro a F
                refine rl_run F (run_move (F.ev rfl)) rfl ?_; clear F a; intro a F
                obtain ⟨be41, oe41, _, Ie41, _, Ae41, ⟨rfl, hbe411, hbe412⟩⟩ := Sy.at hXi
                refine rl_run F (run_indexI tok22.k tok29 (F.ev rfl) (F.ev rfl) (by omega) Ie41) rfl ?_; clear F a; intro a F
                refine rl_run F (run_fieldAddr tok29.k rfl rfl (F.ev rfl)) rfl ?_; clear F a; intro a F
                refine rl_run F (run_load1 (agf tok4 rfl) (F.ev rfl) (M.cellA Ae41 2 rfl rfl)) rfl ?_; clear F a; intro a F
                refine rl_run F (run_eqb tok4.k (F.ev rfl) (F.ev rfl)) rfl ?_; clear F a; intro a F
                refine rl_run F (run_move (F.ev rfl)) rfl ?_; clear F a; intro a F
                have hg42 : (((getF (runF ((zs).take 80)) Xi.key).2) == (Xi.drop)) = false := (by exact last_f hlast)
                refine rl_guard_t F rfl rfl rfl hg42 ?_
                refine rl_run F (run_move (F.ev rfl)) rfl ?_; clear F a; intro a F
                refine rl_guard_t F rfl rfl rfl hg42 ?_
                refine rl_run F (run_move (F.ev rfl)) rfl ?_; clear F a; intro a F
                rcases Bool.eq_false_or_eq_true ((getF (runF ((zs).take 80)) Xi.key).2) with hc | hc
                · skip
                  have h43b := hc; clear hc
                  have h43 : ((getF (runF ((zs).take 80)) Xi.key).2) = true := h43b
                  refine rl_guard_t F rfl rfl rfl h43b ?_
                  refine rl_run F (run_move (F.ev rfl)) rfl ?_; clear F a; intro a F
                  refine rl_guard_t F rfl rfl rfl h43b ?_
                  refine rl_run F (run_fieldAddr tok45.k rfl rfl (F.ev rfl)) rfl ?_; clear F a; intro a F
                  refine rl_guard_t F rfl rfl rfl h43b ?_
                  refine rl_run F (run_load1 (agf tok22 rfl) (F.ev rfl) (M.cellL (k := 3) rfl rfl)) rfl ?_; clear F a; intro a F
                  refine rl_guard_t F rfl rfl rfl h43b ?_
                  refine rl_run F (run_move (F.ev rfl)) rfl ?_; clear F a; intro a F
                  refine rl_guard_t F rfl rfl rfl h43b ?_
                  obtain ⟨be44, oe44, _, Ie44, _, Ae44, ⟨rfl, hbe441, hbe442⟩⟩ := Sy.at hXi
                  refine rl_run F (run_indexI tok22.k tok29 (F.ev rfl) (F.ev rfl) (by omega) Ie44) rfl ?_; clear F a; intro a F
                  refine rl_guard_t F rfl rfl rfl h43b ?_
                  refine rl_run F (run_fieldAddr tok29.k rfl rfl (F.ev rfl)) rfl ?_; clear F a; intro a F
                  refine rl_guard_t F rfl rfl rfl h43b ?_
                  refine rl_run F (run_load1 (agf tok3 rfl) (F.ev rfl) (M.cellA Ae44 1 rfl rfl)) rfl ?_; clear F a; intro a F
                  refine rl_guard_t F rfl rfl rfl h43b ?_
                  refine rl_run F (run_nei (F.ev rfl) (F.ev rfl)) rfl ?_; clear F a; intro a F
                  refine rl_guard_t F rfl rfl rfl hg42 ?_
                  refine rl_run F (run_pick_t (F.ev rfl) h43b (F.ev rfl)) rfl ?_; clear F a; intro a F
                  refine rl_run F (run_pick_f (F.ev rfl) hg42 (F.ev rfl)) rfl ?_; clear F a; intro a F
                  refine rl_nil ?_
                  refine q_tn ?_
                  refine w_cond_f F rfl (not_f (decide_eq_true (by exact last_v hlast (by assumption)))) ?_
                  refine wp_skip ?_
                  refine q_bn ?_
                  refine q_tn ?_
                  refine w_reg ?_
                  refine rl_run F (run_move (F.ev rfl)) rfl ?_; clear F a; intro a F
                  refine rl_run F (run_addi (F.ev rfl) (F.ev rfl) (in_i64 (by omega) (by omega))) rfl ?_; clear F a; intro a F
                  refine rl_run F (run_assign (F.ev rfl)) rfl ?_; clear F a; intro a F
                  refine rl_nil ?_
                  refine q_tn ?_
                  exact ⟨_, by omega, i + 1, rfl, F.to ⟨rfl, rfl, rfl, trivial⟩, M, by omega⟩
                · skip
                  have h45b := hc; clear hc
                  have h45 : ((getF (runF ((zs).take 80)) Xi.key).2) = false := h45b
                  refine rl_guard_f F rfl rfl rfl h45b ?_; clear F a; intro a F
                  refine rl_guard_f F rfl rfl rfl h45b ?_; clear F a; intro a F
                  refine rl_guard_f F rfl rfl rfl h45b ?_; clear F a; intro a F
                  refine rl_guard_f F rfl rfl rfl h45b ?_; clear F a; intro a F
                  refine rl_guard_f F rfl rfl rfl h45b ?_; clear F a; intro a F
                  refine rl_guard_f F rfl rfl rfl h45b ?_; clear F a; intro a F
                  refine rl_guard_f F rfl rfl rfl h45b ?_; clear F a; intro a F
                  refine rl_guard_f F rfl rfl rfl h45b ?_; clear F a; intro a F
                  refine rl_guard_t F rfl rfl rfl hg42 ?_
                  refine rl_run F (run_pick_f (F.ev rfl) h45b (F.ev rfl)) rfl ?_; clear F a; intro a F
                  refine rl_run F (run_pick_f (F.ev rfl) hg42 (F.ev rfl)) rfl ?_; clear F a; intro a F
                  refine rl_nil ?_
                  refine q_tn ?_
                  refine w_cond_f F rfl rfl ?_
                  refine wp_skip ?_
                  refine q_bn ?_
                  refine q_tn ?_
                  refine w_reg ?_
                  refine rl_run F (run_move (F.ev rfl)) rfl ?_; clear F a; intro a F
                  refine rl_run F (run_addi (F.ev rfl) (F.ev rfl) (in_i64 (by omega) (by omega))) rfl ?_; clear F a; intro a F
                  refine rl_run F (run_assign (F.ev rfl)) rfl ?_; clear F a; intro a F
                  refine rl_nil ?_
                  refine q_tn ?_
                  exact ⟨_, by omega, i + 1, rfl, F.to ⟨rfl, rfl, rfl, trivial⟩, M, by omega⟩
        · skip
          have h46b := hc; clear hc
          have h46 : ¬ (((k : Nat) : Int) < ((ys.length : Nat) : Int)) := of_decide_eq_false h46b
          refine rl_guard_f F rfl rfl rfl h46b ?_; clear F a; intro a F
          refine rl_guard_f F rfl rfl rfl h46b ?_; clear F a; intro a F
          refine rl_run F (run_pick_f (F.ev rfl) h46b (F.ev rfl)) rfl ?_; clear F a; intro a F
          refine rl_nil ?_
          refine q_tn ?_
          refine w_cond_f F rfl rfl ?_
          refine wp_exit ?_
          refine q_te ?_
          refine q_te ?_
          refine q_bh ?_
          refine q_tn ?_
          refine wp_seq ?_
          refine wp_seq ?_
          refine w_reg ?_
          refine rl_run F (run_move (F.ev rfl)) rfl ?_; clear F a; intro a F
          refine rl_run F (run_not (F.ev rfl)) rfl ?_; clear F a; intro a F
          refine rl_run F (run_move (F.ev rfl)) rfl ?_; clear F a; intro a F
          rcases Bool.eq_false_or_eq_true (!(lv)) with hc | hc
          · skip
            have h47b := hc; clear hc
            have h47 : (lv) = false := (of_not_t h47b)
            have h47c : (lv) = false := (of_not_t h47b)
            refine rl_guard_f F rfl rfl rfl (not_t h47c) ?_; clear F a; intro a F
            refine rl_guard_f F rfl rfl rfl (not_t h47c) ?_; clear F a; intro a F
            refine rl_guard_f F rfl rfl rfl (not_t h47c) ?_; clear F a; intro a F
            refine rl_guard_f F rfl rfl rfl (not_t h47c) ?_; clear F a; intro a F
            refine rl_guard_f F rfl rfl rfl (not_t h47c) ?_; clear F a; intro a F
            refine rl_guard_f F rfl rfl rfl (not_t h47c) ?_; clear F a; intro a F
            refine rl_guard_f F rfl rfl rfl (not_t h47c) ?_; clear F a; intro a F
            refine rl_run F (run_pick_t (F.ev rfl) (not_t h47c) (F.ev rfl)) rfl ?_; clear F a; intro a F
            refine rl_nil ?_
            refine q_tn ?_
            refine w_cond_t F rfl rfl ?_
            refine wp_exit ?_
            refine q_te ?_
            refine q_bh ?_
            refine q_tn ?_
            refine w_reg ?_
            refine rl_run F (run_move (F.ev rfl)) rfl ?_; clear F a; intro a F
            refine rl_run F (run_addi (F.ev rfl) (F.ev rfl) (in_i64 (by omega) (by omega))) rfl ?_; clear F a; intro a F
            refine rl_run F (run_assign (F.ev rfl)) rfl ?_; clear F a; intro a F
            refine rl_nil ?_
            refine q_tn ?_
            exact ⟨_, by omega, i + 1, rfl, F.to ⟨rfl, rfl, rfl, trivial⟩, M, by omega⟩
          · skip
            have h48b := hc; clear hc
            have h48 : (lv) = true := (of_not_f h48b)
            have h48c : (lv) = true := (of_not_f h48b)
            refine rl_guard_t F rfl rfl rfl (not_f h48c) ?_
            refine rl_run F (run_fieldAddr tok45.k rfl rfl (F.ev rfl)) rfl ?_; clear F a; intro a F
            refine rl_guard_t F rfl rfl rfl (not_f h48c) ?_
            refine rl_run F (run_load1 (agf tok22 rfl) (F.ev rfl) (M.cellL (k := 3) rfl rfl)) rfl ?_; clear F a; intro a F
            refine rl_guard_t F rfl rfl rfl (not_f h48c) ?_
            refine rl_run F (run_move (F.ev rfl)) rfl ?_; clear F a; intro a F
            refine rl_guard_t F rfl rfl rfl (not_f h48c) ?_
            obtain ⟨be49, oe49, _, Ie49, _, Ae49, ⟨rfl, hbe491, hbe492⟩⟩ := Sy.at hXi
            refine rl_run F (run_indexI tok22.k tok29 (F.ev rfl) (F.ev rfl) (by omega) Ie49) rfl ?_; clear F a; intro a F
            refine rl_guard_t F rfl rfl rfl (not_f h48c) ?_
            refine rl_run F (run_fieldAddr tok29.k rfl rfl (F.ev rfl)) rfl ?_; clear F a; intro a F
            refine rl_guard_t F rfl rfl rfl (not_f h48c) ?_
            refine rl_run F (run_load1 (agf tok27 rfl) (F.ev rfl) (M.cellA Ae49 0 rfl rfl)) rfl ?_; clear F a; intro a F
            refine rl_guard_t F rfl rfl rfl (not_f h48c) ?_
            refine rl_run F (run_eqi (F.ev rfl) (F.ev rfl)) rfl ?_; clear F a; intro a F
            refine rl_run F (run_pick_f (F.ev rfl) (not_f h48c) (F.ev rfl)) rfl ?_; clear F a; intro a F
            refine rl_nil ?_
            refine q_tn ?_
            refine w_cond F rfl ?_ ?_
            · intro hc
              have h50b := hc; clear hc
              have h50 : Xi.key = 0 := of_decide_eq_true h50b
              refine wp_exit ?_
              refine q_te ?_
              refine q_bh ?_
              refine q_tn ?_
              refine w_reg ?_
              refine rl_run F (run_move (F.ev rfl)) rfl ?_; clear F a; intro a F
              refine rl_run F (run_addi (F.ev rfl) (F.ev rfl) (in_i64 (by omega) (by omega))) rfl ?_; clear F a; intro a F
              refine rl_run F (run_assign (F.ev rfl)) rfl ?_; clear F a; intro a F
              refine rl_nil ?_
              refine q_tn ?_
              exact ⟨_, by omega, i + 1, rfl, F.to ⟨rfl, rfl, rfl, trivial⟩, M, by omega⟩
            · intro hc
              have h51b := hc; clear hc
              have h51 : ¬ (Xi.key = 0) := of_decide_eq_false h51b
              refine wp_skip ?_
              refine q_tn ?_
              refine wp_seq ?_
              have hlast := run_last40 hzs hXi (by omega) (by assumption) (hlv (by assumption)) (k := k) (by omega)
              refine w_reg ?_
              refine rl_run F (run_move (F.ev rfl)) rfl ?_; clear F a; intro a F
              refine rl_run F (run_fieldAddr tok45.k rfl rfl (F.ev rfl)) rfl ?_; clear F a; intro a F
              refine rl_run F (run_load1 (agf tok22 rfl) (F.ev rfl) (M.cellL (k := 3) rfl rfl)) rfl ?_; clear F a; intro a F
              refine rl_run F (run_move (F.ev rfl)) rfl ?_; clear F a; intro a F
              obtain ⟨be52, oe52, _, Ie52, _, Ae52, ⟨rfl, hbe521, hbe522⟩⟩ := Sy.at hXi
              refine rl_run F (run_indexI tok22.k tok29 (F.ev rfl) (F.ev rfl) (by omega) Ie52) rfl ?_; clear F a; intro a F
              refine rl_run F (run_fieldAddr tok29.k rfl rfl (F.ev rfl)) rfl ?_; clear F a; intro a F
              refine rl_run F (run_load1 (agf tok27 rfl) (F.ev rfl) (M.cellA Ae52 0 rfl rfl)) rfl ?_; clear F a; intro a F
              replace M := M.perm (perm_front _ 1 _ rfl)
              replace M := M.perm (perm_front _ 1 _ rfl)
              change Mem w0 Gr24 (.blk bm23 [.slice (adm23) (nm23) (cm23), .int .i64 (manym23), .int .i64 (tombsm23)] 55 :: .row (.slice (adm23) (nm23) (cm23)) (nm23) (csm23) 58 3 :: .blk b5 [.slice (az) (zs.length) (cz)] 45 :: .blk b2 [.slice (ay) (ys.length) (cy)] 45 :: .blk b1 [.slice (ao) (xs.length) (co)] 45 :: L) _ at M
              have hsg53 := get_spec (key := Xi.key) M hnm23 Em23 Km23
              refine rl_callS F ent15 rfl rfl (hsg53) ?_; clear F M a; rintro _ w a M rfl F
              clear hsg53
              refine rl_run F (run_move (F.ev rfl)) rfl ?_; clear F a; intro a F
              refine rl_run F (run_extract (v := .int .i64 ((getF (runF ((zs).take 80)) Xi.key).1)) (F.ev rfl) rfl) rfl ?_; clear F a; intro a F
              refine rl_run F (run_extract (v := .bool ((getF (runF ((zs).take 80)) Xi.key).2)) (F.ev rfl) rfl) rfl ?_; clear F a; intro a F
              refine rl_run F (run_assign (F.ev rfl)) rfl ?_; clear F a; intro a F
              refine rl_run F (run_assign (F.ev rfl)) rfl ?_; clear F a; intro a F
              refine rl_nil ?_
              refine q_tn ?_
              refine wp_seq ?_
              refine w_reg ?_
              refine rl_run F (run_move (F.ev rfl)) rfl ?_; clear F a; intro a F
              refine rl_run F (run_fieldAddr tok45.k rfl rfl (F.ev rfl)) rfl ?_; clear F a; intro a F
              refine rl_run F (run_load1 (agf tok22 rfl) (F.ev rfl) (M.cellL (k := 3) rfl rfl)) rfl ?_; clear F a; intro a F
              refine rl_run F (run_move (F.ev rfl)) rfl ?_; clear F a; intro a F
              obtain ⟨be54, oe54, _, Ie54, _, Ae54, ⟨rfl, hbe541, hbe542⟩⟩ := Sy.at hXi
              refine rl_run F (run_indexI tok22.k tok29 (F.ev rfl) (F.ev rfl) (by omega) Ie54) rfl ?_; clear F a; intro a F
              refine rl_run F (run_fieldAddr tok29.k rfl rfl (F.ev rfl)) rfl ?_; clear F a; intro a F
              refine rl_run F (run_load1 (agf tok4 rfl) (F.ev rfl) (M.cellA Ae54 2 rfl rfl)) rfl ?_; clear F a; intro a F
              refine rl_run F (run_eqb tok4.k (F.ev rfl) (F.ev rfl)) rfl ?_; clear F a; intro a F
              refine rl_run F (run_move (F.ev rfl)) rfl ?_; clear F a; intro a F
              have hg55 : (((getF (runF ((zs).take 80)) Xi.key).2) == (Xi.drop)) = false := (by exact last_f hlast)
              refine rl_guard_t F rfl rfl rfl hg55 ?_
              refine rl_run F (run_move (F.ev rfl)) rfl ?_; clear F a; intro a F
              refine rl_guard_t F rfl rfl rfl hg55 ?_
              refine rl_run F (run_move (F.ev rfl)) rfl ?_; clear F a; intro a F
              rcases Bool.eq_false_or_eq_true ((getF (runF ((zs).take 80)) Xi.key).2) with hc | hc
              · skip
                have h56b := hc; clear hc
                have h56 : ((getF (runF ((zs).take 80)) Xi.key).2) = true := h56b
                refine rl_guard_t F rfl rfl rfl h56b ?_
                refine rl_run F (run_move (F.ev rfl)) rfl ?_; clear F a; intro a F
                refine rl_guard_t F rfl rfl rfl h56b ?_
                refine rl_run F (run_fieldAddr tok45.k rfl rfl (F.ev rfl)) rfl ?_; clear F a; intro a F
                refine rl_guard_t F rfl rfl rfl h56b ?_
                refine rl_run F (run_load1 (agf tok22 rfl) (F.ev rfl) (M.cellL (k := 3) rfl rfl)) rfl ?_; clear F a; intro a F
                refine rl_guard_t F rfl rfl rfl h56b ?_
                refine rl_run F (run_move (F.ev rfl)) rfl ?_; clear F a; intro a F
                refine rl_guard_t F rfl rfl rfl h56b ?_
                obtain ⟨be57, oe57, _, Ie57, _, Ae57, ⟨rfl, hbe571, hbe572⟩⟩ := Sy.at hXi
                refine rl_run F (run_indexI tok22.k tok29 (F.ev rfl) (F.ev rfl) (by omega) Ie57) rfl ?_; clear F a; intro a F
                refine rl_guard_t F rfl rfl rfl h56b ?_
                refine rl_run F (run_fieldAddr tok29.k rfl rfl (F.ev rfl)) rfl ?_; clear F a; intro a F
                refine rl_guard_t F rfl rfl rfl h56b ?_
                refine rl_run F (run_load1 (agf tok3 rfl) (F.ev rfl) (M.cellA Ae57 1 rfl rfl)) rfl ?_; clear F a; intro a F
                refine rl_guard_t F rfl rfl rfl h56b ?_
                refine rl_run F (run_nei (F.ev rfl) (F.ev rfl)) rfl ?_; clear F a; intro a F
                refine rl_guard_t F rfl rfl rfl hg55 ?_
                refine rl_run F (run_pick_t (F.ev rfl) h56b (F.ev rfl)) rfl ?_; clear F a; intro a F
                refine rl_run F (run_pick_f (F.ev rfl) hg55 (F.ev rfl)) rfl ?_; clear F a; intro a F
                refine rl_nil ?_
                refine q_tn ?_
                refine w_cond_f F rfl (not_f (decide_eq_true (by exact last_v hlast (by assumption)))) ?_
                refine wp_skip ?_
                refine q_bn ?_
                refine q_tn ?_
                refine w_reg ?_
                refine rl_run F (run_move (F.ev rfl)) rfl ?_; clear F a; intro a F
                refine rl_run F (run_addi (F.ev rfl) (F.ev rfl) (in_i64 (by omega) (by omega))) rfl ?_; clear F a; intro a F
                refine rl_run F (run_assign (F.ev rfl)) rfl ?_; clear F a; intro a F
                refine rl_nil ?_
                refine q_tn ?_
                exact ⟨_, by omega, i + 1, rfl, F.to ⟨rfl, rfl, rfl, trivial⟩, M, by omega⟩
              · skip
                have h58b := hc; clear hc
                have h58 : ((getF (runF ((zs).take 80)) Xi.key).2) = false := h58b
                refine rl_guard_f F rfl rfl rfl h58b ?_; clear F a; intro a F
                refine rl_guard_f F rfl rfl rfl h58b ?_; clear F a; intro a F
                refine rl_guard_f F rfl rfl rfl h58b ?_; clear F a; intro a F
                refine rl_guard_f F rfl rfl rfl h58b ?_; clear F a; intro a F
                refine rl_guard_f F rfl rfl rfl h58b ?_; clear F a; intro a F
                refine rl_guard_f F rfl rfl rfl h58b ?_; clear F a; intro a F
                refine rl_guard_f F rfl rfl rfl h58b ?_; clear F a; intro a F
                refine rl_guard_f F rfl rfl rfl h58b ?_; clear F a; intro a F
                refine rl_guard_t F rfl rfl rfl hg55 ?_
                refine rl_run F (run_pick_f (F.ev rfl) h58b (F.ev rfl)) rfl ?_; clear F a; intro a F
                refine rl_run F (run_pick_f (F.ev rfl) hg55 (F.ev rfl)) rfl ?_; clear F a; intro a F
                refine rl_nil ?_
                refine q_tn ?_
                refine w_cond_f F rfl rfl ?_
                refine wp_skip ?_
                refine q_bn ?_
                refine q_tn ?_
                refine w_reg ?_
                refine rl_run F (run_move (F.ev rfl)) rfl ?_; clear F a; intro a F
                refine rl_run F (run_addi (F.ev rfl) (F.ev rfl) (in_i64 (by omega) (by omega))) rfl ?_; clear F a; intro a F
                refine rl_run F (run_assign (F.ev rfl)) rfl ?_; clear F a; intro a F
                refine rl_nil ?_
                refine q_tn ?_
                exact ⟨_, by omega, i + 1, rfl, F.to ⟨rfl, rfl, rfl, trivial⟩, M, by omega⟩
      · intro hc
        have h59b := hc; clear hc
        have h59 : ¬ (((i : Nat) : Int) < 40) := of_decide_eq_false h59b
        refine wp_exit ?_
        refine q_te ?_
        refine q_te ?_
        refine q_bh ?_
        refine q_tn ?_
        refine wp_seq ?_
        refine w_reg ?_
        refine rl_callS F ent9 rfl rfl (lives_spec M) ?_; clear F M a; rintro _ w a M rfl F
        refine rl_run F (run_assign (F.ev rfl)) rfl ?_; clear F a; intro a F
        refine rl_nil ?_
        refine q_tn ?_
        refine wp_ret ?_
        refine fin1 F rfl rfl ?_
        exact ⟨_, (hGz22.trans hGr24), M.weaken (.cons _ (.cons _ (.cons _ (.cons _ (.cons _ (List.Sublist.refl _)))))), rfl⟩
    · skip
      have h60b := hc; clear hc
      have h60 : ¬ (((i : Nat) : Int) < ((ys.length : Nat) : Int)) := of_decide_eq_false h60b
      refine rl_guard_f F rfl rfl rfl h60b ?_; clear F a; intro a F
      refine rl_guard_f F rfl rfl rfl h60b ?_; clear F a; intro a F
      refine rl_run F (run_pick_f (F.ev rfl) h60b (F.ev rfl)) rfl ?_; clear F a; intro a F
      refine rl_nil ?_
      refine q_tn ?_
      refine w_cond_f F rfl rfl ?_
      refine wp_exit ?_
      refine q_te ?_
      refine q_te ?_
      refine q_bh ?_
      refine q_tn ?_
      refine wp_seq ?_
      refine w_reg ?_
      refine rl_callS F ent9 rfl rfl (lives_spec M) ?_; clear F M a; rintro _ w a M rfl F
      refine rl_run F (run_assign (F.ev rfl)) rfl ?_; clear F a; intro a F
      refine rl_nil ?_
      refine q_tn ?_
      refine wp_ret ?_
      refine fin1 F rfl rfl ?_
      exact ⟨_, (hGz22.trans hGr24), M.weaken (.cons _ (.cons _ (.cons _ (.cons _ (.cons _ (List.Sublist.refl _)))))), rfl⟩

theorem order_law {w0 w : World} {G : Ghost} {L : List Res} (M : Mem w0 G L w) {ao : Option Addr} {co : Nat} {xs : List StepD} (S : RdSl rdStep 3 G (.slice ao xs.length co) xs) (hxl : xs.length ≤ 9223372036854775807) {ay : Option Addr} {cy : Nat} {ys : List StepD} (Sy : RdSl rdStep 3 G (.slice ay ys.length cy) ys) (hyl : ys.length ≤ 9223372036854775807) :
    Calls Try.prog 5 #[.agg #[.slice ao xs.length co], .agg #[.slice ay ys.length cy]] w (RetS w0 G L fun v => v = .bool true) := Ret.plain M (order_ret M S hxl Sy hyl)

end Go.Proofs.Ytnloilnlehgngaa
